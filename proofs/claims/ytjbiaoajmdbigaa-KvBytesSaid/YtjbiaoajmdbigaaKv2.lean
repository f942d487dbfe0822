/- Walks of package kv: Plan, Take, Do, Set, Clone. -/
import Derived.Test.YtjbiaoajmdbigaaKv1
set_option maxRecDepth 100000
set_option linter.unusedVariables false
set_option linter.unusedSimpArgs false
namespace Go.Proofs.Ytjbiaoajmdbigaa
open Go Go.E
theorem k_Plan (t : Tr) (p : Int) (conds ops : List AOp) (hs : t.size ≤ 1000000) : Sat Try.prog 19 [(vL 5000 0), (vI p), (vD (List.map encOp conds)), (vD (List.map encOp ops))] [(5000, (.cells 51 [(.d (dP [(encT t)]))]))] (.tup [(.c (cD (List.map encEv ((planM t p conds ops).1)))), (.c (cI (planM t p conds ops).2))]) [(5000, (.cells 51 [(.d (dP [(encT t)]))]))] := by
 refine sat_of_body tab_ok Try.func19 rfl (by kernel_rfl) (Nat.le_of_ble_eq_true rfl) rfl fun G => ?_
 refine awp_seq ?_
 refine rk boxes [] [0, 1, 2, 3, 8, 9] [5000] ⟨116, [(0, (vL 5000 0)), (1, (vI p)), (2, (vD (List.map encOp conds))), (3, (vD (List.map encOp ops))), (8, (sc (.slice none 0 0))), (9, (vI 0))], [(5000, (.cells 51 [(.d (dP [(encT t)]))]))], [5000]⟩ (by kernel_rfl) .n ?_
 refine peel_seq ?_
 refine awp_seq ?_
 refine awp_seq ?_
 refine rk boxes [⟨1, true, [(sc (.func (.func 42) #[] #[])), (vL 5000 0)], [(5000, (.cells 51 [(.d (dP [(encT t)]))]))], (vB true), []⟩] [0, 1, 2, 3, 8, 9, 23] [5000] ⟨116, [(0, (vL 5000 0)), (1, (vI p)), (2, (vD (List.map encOp conds))), (3, (vD (List.map encOp ops))), (8, (sc (.slice none 0 0))), (9, (vI 0)), (23, (vB false))], [(5000, (.cells 51 [(.d (dP [(encT t)]))]))], [5000]⟩ (by kernel_rfl) (.c (tri_call (k_made t)) .n) ?_
 refine peel_seq ?_
 refine awp_false rfl ?_
 refine awp_skip ?_
 refine peel_seq ?_
 refine awp_seq ?_
 refine awp_seq ?_
 refine rk boxes [⟨2, false, [(sc (.func (.func 48) #[] #[])), (vD (List.map encOp conds)), (vD (List.map encOp ops))], [], (vI (checkE conds ops)), []⟩] [0, 1, 2, 3, 8, 9, 10] [5000] ⟨116, [(0, (vL 5000 0)), (1, (vI p)), (2, (vD (List.map encOp conds))), (3, (vD (List.map encOp ops))), (8, (sc (.slice none 0 0))), (9, (vI 0)), (10, (vI (checkE conds ops)))], [(5000, (.cells 51 [(.d (dP [(encT t)]))]))], [5000]⟩ (by kernel_rfl) (.c (tri_call (k_Check conds ops)) .n) ?_
 refine peel_seq ?_
 refine awp_seq ?_
 refine rk boxes [] [0, 1, 2, 3, 8, 9, 10, 28] [5000] ⟨116, [(0, (vL 5000 0)), (1, (vI p)), (2, (vD (List.map encOp conds))), (3, (vD (List.map encOp ops))), (8, (sc (.slice none 0 0))), (9, (vI 0)), (10, (vI (checkE conds ops))), (28, (vB ((checkE conds ops) != 0)))], [(5000, (.cells 51 [(.d (dP [(encT t)]))]))], [5000]⟩ (by kernel_rfl) .n ?_
 refine peel_seq ?_
 refine awp_cond (b := ((checkE conds ops) != 0)) rfl (fun hc1 => ?_) (fun hc1 => ?_)
 ·skip
  have hc1p : (checkE conds ops) ≠ 0 := by simpa using hc1
  refine awp_seq ?_
  refine rk boxes [] [0, 1, 2, 3, 8, 9] [5000] ⟨116, [(0, (vL 5000 0)), (1, (vI p)), (2, (vD (List.map encOp conds))), (3, (vD (List.map encOp ops))), (8, (sc (.slice none 0 0))), (9, (vI (checkE conds ops)))], [(5000, (.cells 51 [(.d (dP [(encT t)]))]))], [5000]⟩ (by kernel_rfl) .n ?_
  refine peel_seq ?_
  refine awp_mv [.own 8 908 0 0 0, .fz 908] ⟨116, [(8, (vD [])), (0, (vL 5000 0)), (1, (vI p)), (2, (vD (List.map encOp conds))), (3, (vD (List.map encOp ops))), (9, (vI (checkE conds ops)))], [(5000, (.cells 51 [(.d (dP [(encT t)]))]))], [5000]⟩ rfl ?_
  refine awp_ret ?_
  refine peel_seq_ret ?_
  exact ends_ret rfl (show some ((.tup [(.c (cD [])), (.c (cI (checkE conds ops)))]) : SV) = some ((.tup [(.c (cD (List.map encEv ((planM t p conds ops).1)))), (.c (cI (planM t p conds ops).2))]) : SV) from by first | rfl | ((first | (simp only [hc1, cond_true, cond_false, Bool.not_true, Bool.not_false, List.map_nil]; done) | (simp only [planM, hc1, cond_true, cond_false, Bool.not_true, Bool.not_false, List.map_nil])))) rfl
 ·skip
  have hc1p : (checkE conds ops) = 0 := by simpa using hc1
  refine awp_skip ?_
  refine peel_seq ?_
  refine awp_seq ?_
  refine awp_seq ?_
  refine rk boxes [⟨1, true, [(vD (List.map encOp conds))], [], (vI (List.length conds : Int)), []⟩] [0, 1, 3, 8, 9, 30, 31, 32] [5000] ⟨116, [(0, (vL 5000 0)), (1, (vI p)), (3, (vD (List.map encOp ops))), (8, (sc (.slice none 0 0))), (9, (vI 0)), (30, (vD (List.map encOp conds))), (31, (vI (List.length conds : Int))), (32, (vI 0))], [(5000, (.cells 51 [(.d (dP [(encT t)]))]))], [5000]⟩ (by kernel_rfl) (.c (tri_len_map tab_ok rfl) .n) ?_
  refine peel_seq ?_
  refine awp_block ?_
  refine awp_len 30 rfl (fun hlen2 => ?_)
  refine awp_loopP (ι := Nat) (fun x => ⟨116, [(0, (vL 5000 0)), (1, (vI p)), (3, (vD (List.map encOp ops))), (8, (sc (.slice none 0 0))), (9, (vI 0)), (30, (vD (List.map encOp conds))), (31, (vI (List.length conds : Int))), (32, (vI (x : Int)))], [(5000, (.cells 51 [(.d (dP [(encT t)]))]))], [5000]⟩) (fun x => x ≤ List.length conds ∧ (True) ∧ condsOK t (List.drop x conds) = condsOK t conds) (fun x => List.length conds - x) (0) rfl ⟨Nat.zero_le _, trivial, rfl⟩ ?_
  rintro k3 ⟨hk4, hx5, hJ6⟩
  try simp only at hk4 hx5 hJ6
  refine awp_seq ?_
  refine rk boxes [] [0, 1, 3, 8, 9, 30, 31, 32, 33] [5000] ⟨116, [(0, (vL 5000 0)), (1, (vI p)), (3, (vD (List.map encOp ops))), (8, (sc (.slice none 0 0))), (9, (vI 0)), (30, (vD (List.map encOp conds))), (31, (vI (List.length conds : Int))), (32, (vI (k3 : Int))), (33, (vB (decide ((k3 : Int) < (List.length conds : Int)))))], [(5000, (.cells 51 [(.d (dP [(encT t)]))]))], [5000]⟩ (by kernel_rfl) .n ?_
  refine peel_seq ?_
  refine awp_seq ?_
  refine awp_cond (b := (decide ((k3 : Int) < (List.length conds : Int)))) rfl (fun hc7 => ?_) (fun hc7 => ?_)
  ·skip
   have hc7p := of_decide_eq_true hc7
   refine awp_skip ?_
   refine peel_seq ?_
   refine awp_seq ?_
   refine awp_block ?_
   refine awp_seq ?_
   obtain ⟨⟨key11, has12, val13⟩, ha9, hd10⟩ := at_drop (l := conds) (k := k3) (by (try simp only [List.length_map] at *); omega)
   refine rk boxes [⟨0, false, [(vD (List.map encOp conds)), (vI (k3 : Int))], [], (vT (dP [(dS key11), (dB has12), (dS val13)])), []⟩] [0, 1, 3, 8, 9, 12, 30, 31, 32] [12, 5000] ⟨116, [(0, (vL 5000 0)), (1, (vI p)), (3, (vD (List.map encOp ops))), (8, (sc (.slice none 0 0))), (9, (vI 0)), (12, (vL 12 0)), (30, (vD (List.map encOp conds))), (31, (vI (List.length conds : Int))), (32, (vI (k3 : Int)))], [(12, (.cells 35 [(cS key11), (cB has12), (cS val13)])), (5000, (.cells 51 [(.d (dP [(encT t)]))]))], [5000]⟩ (by kernel_rfl) (.c (tri_index_sl (e := 35) (sz := 3) (bytes := 40) (i := k3) tab_ok rfl (at_map encOp ha9) (all_map fun _ => rfl)) .n) ?_
   refine peel_seq ?_
   refine awp_seq ?_
   refine rk boxes [⟨6, false, [(sc (.func (.func 49) #[] #[])), (vT (dP [(encT t)])), (vS key11)], [], (.tup [(.c (cS (Tr.getT t key11).1)), (.c (cB (Tr.getT t key11).2))]), []⟩] [0, 1, 3, 8, 9, 12, 13, 14, 30, 31, 32] [12, 5000] ⟨116, [(0, (vL 5000 0)), (1, (vI p)), (3, (vD (List.map encOp ops))), (8, (sc (.slice none 0 0))), (9, (vI 0)), (12, (vL 12 0)), (13, (vS (Tr.getT t key11).1)), (14, (vB (Tr.getT t key11).2)), (30, (vD (List.map encOp conds))), (31, (vI (List.length conds : Int))), (32, (vI (k3 : Int)))], [(12, (.cells 35 [(cS key11), (cB has12), (cS val13)])), (5000, (.cells 51 [(.d (dP [(encT t)]))]))], [5000]⟩ (by kernel_rfl) (.c (tri_call (s_TGet t key11)) .n) ?_
   refine peel_seq ?_
   refine awp_seq ?_
   cases hb14 : ((Tr.getT t key11).2 == has12) with
   | false =>
    have hb14p : (Tr.getT t key11).2 ≠ has12 := by simpa using hb14
    refine rk boxes [⟨3, false, [(vB (Tr.getT t key11).2), (vB has12)], [], (vB true), []⟩] [0, 1, 3, 8, 9, 30, 31, 32, 55] [5000] ⟨116, [(0, (vL 5000 0)), (1, (vI p)), (3, (vD (List.map encOp ops))), (8, (sc (.slice none 0 0))), (9, (vI 0)), (30, (vD (List.map encOp conds))), (31, (vI (List.length conds : Int))), (32, (vI (k3 : Int))), (55, (vB true))], [(5000, (.cells 51 [(.d (dP [(encT t)]))]))], [5000]⟩ (by kernel_rfl) (.c (tri_scalar_eq [(.bool (Tr.getT t key11).2), (.bool has12)] (.bool (!((Tr.getT t key11).2 == has12))) rfl rfl rfl (by kernel_rfl) (congrArg Value.bool (show (!((Tr.getT t key11).2 == has12)) = true from by rw [hb14]; rfl))) .n) ?_
    refine peel_seq ?_
    refine awp_true rfl ?_
    refine awp_seq ?_
    refine rk boxes [] [0, 1, 3, 8, 9, 30, 31, 32] [5000] ⟨116, [(0, (vL 5000 0)), (1, (vI p)), (3, (vD (List.map encOp ops))), (8, (sc (.slice none 0 0))), (9, (vI 60)), (30, (vD (List.map encOp conds))), (31, (vI (List.length conds : Int))), (32, (vI (k3 : Int)))], [(5000, (.cells 51 [(.d (dP [(encT t)]))]))], [5000]⟩ (by kernel_rfl) .n ?_
    refine peel_seq ?_
    refine awp_mv [.own 8 908 0 0 0, .fz 908] ⟨116, [(8, (vD [])), (0, (vL 5000 0)), (1, (vI p)), (3, (vD (List.map encOp ops))), (9, (vI 60)), (30, (vD (List.map encOp conds))), (31, (vI (List.length conds : Int))), (32, (vI (k3 : Int)))], [(5000, (.cells 51 [(.d (dP [(encT t)]))]))], [5000]⟩ rfl ?_
    have hE15 := hJ6
    rw [hd10] at hE15
    simp only [condsOK, condOK, hb14, hc1, hc7, cond_true, cond_false, Bool.not_true, Bool.not_false] at hE15
    refine awp_ret ?_
    refine peel_block_ret ?_
    refine peel_seq_ret ?_
    refine peel_seq_ret ?_
    refine peel_block_ret ?_
    refine peel_seq_ret ?_
    exact ends_ret rfl (show some ((.tup [(.c (cD [])), (.c (cI 60))]) : SV) = some ((.tup [(.c (cD (List.map encEv ((planM t p conds ops).1)))), (.c (cI (planM t p conds ops).2))]) : SV) from by first | rfl | ((try simp only [cond_true, cond_false, Bool.not_true, Bool.not_false] at hE15); (first | (simp only [hb14, hc1, hc7, ← hE15, cond_true, cond_false, Bool.not_true, Bool.not_false, List.map_nil]; done) | (simp only [planM, hb14, hc1, hc7, ← hE15, cond_true, cond_false, Bool.not_true, Bool.not_false, List.map_nil])))) rfl
   | true =>
    have hb14p : (Tr.getT t key11).2 = has12 := by simpa using hb14
    refine rk boxes [⟨3, false, [(vB (Tr.getT t key11).2), (vB has12)], [], (vB false), []⟩, ⟨8, false, [(vS (Tr.getT t key11).1), (vS val13)], [], (vB (!(eqS (Tr.getT t key11).1 val13))), []⟩] [0, 1, 3, 8, 9, 30, 31, 32, 55] [5000] ⟨116, [(0, (vL 5000 0)), (1, (vI p)), (3, (vD (List.map encOp ops))), (8, (sc (.slice none 0 0))), (9, (vI 0)), (30, (vD (List.map encOp conds))), (31, (vI (List.length conds : Int))), (32, (vI (k3 : Int))), (55, (vB (!(eqS (Tr.getT t key11).1 val13))))], [(5000, (.cells 51 [(.d (dP [(encT t)]))]))], [5000]⟩ (by kernel_rfl) (.c (tri_scalar_eq [(.bool (Tr.getT t key11).2), (.bool has12)] (.bool (!((Tr.getT t key11).2 == has12))) rfl rfl rfl (by kernel_rfl) (congrArg Value.bool (show (!((Tr.getT t key11).2 == has12)) = false from by rw [hb14]; rfl))) (.c (tri_str_neq) .n)) ?_
    refine peel_seq ?_
    refine awp_cond (b := (!(eqS (Tr.getT t key11).1 val13))) rfl (fun hc16 => ?_) (fun hc16 => ?_)
    ·skip
     have hc16n : (eqS (Tr.getT t key11).1 val13) = false := by simpa using hc16
     have hc16np := eqS_false hc16n
     refine awp_seq ?_
     refine rk boxes [] [0, 1, 3, 8, 9, 30, 31, 32] [5000] ⟨116, [(0, (vL 5000 0)), (1, (vI p)), (3, (vD (List.map encOp ops))), (8, (sc (.slice none 0 0))), (9, (vI 60)), (30, (vD (List.map encOp conds))), (31, (vI (List.length conds : Int))), (32, (vI (k3 : Int)))], [(5000, (.cells 51 [(.d (dP [(encT t)]))]))], [5000]⟩ (by kernel_rfl) .n ?_
     refine peel_seq ?_
     refine awp_mv [.own 8 908 0 0 0, .fz 908] ⟨116, [(8, (vD [])), (0, (vL 5000 0)), (1, (vI p)), (3, (vD (List.map encOp ops))), (9, (vI 60)), (30, (vD (List.map encOp conds))), (31, (vI (List.length conds : Int))), (32, (vI (k3 : Int)))], [(5000, (.cells 51 [(.d (dP [(encT t)]))]))], [5000]⟩ rfl ?_
     have hE17 := hJ6
     rw [hd10] at hE17
     simp only [condsOK, condOK, hb14, hc1, hc16, hc16n, hc7, cond_true, cond_false, Bool.not_true, Bool.not_false] at hE17
     refine awp_ret ?_
     refine peel_block_ret ?_
     refine peel_seq_ret ?_
     refine peel_seq_ret ?_
     refine peel_block_ret ?_
     refine peel_seq_ret ?_
     exact ends_ret rfl (show some ((.tup [(.c (cD [])), (.c (cI 60))]) : SV) = some ((.tup [(.c (cD (List.map encEv ((planM t p conds ops).1)))), (.c (cI (planM t p conds ops).2))]) : SV) from by first | rfl | ((try simp only [cond_true, cond_false, Bool.not_true, Bool.not_false] at hE17); (first | (simp only [hb14, hc1, hc16, hc16n, hc7, ← hE17, cond_true, cond_false, Bool.not_true, Bool.not_false, List.map_nil]; done) | (simp only [planM, hb14, hc1, hc16, hc16n, hc7, ← hE17, cond_true, cond_false, Bool.not_true, Bool.not_false, List.map_nil])))) rfl
    ·skip
     have hc16n : (eqS (Tr.getT t key11).1 val13) = true := by simpa using hc16
     have hc16np := eqS_true hc16n
     refine q_keep [0, 1, 3, 8, 9, 30, 31, 32] [5000] ?_
     refine awp_skip ?_
     refine peel_block ?_
     refine peel_seq ?_
     refine rk boxes [⟨0, false, [(vI (k3 : Int)), (vI 1)], [], (vI ((k3 : Int) + 1)), []⟩] [0, 1, 3, 8, 9, 30, 31, 32] [5000] ⟨116, [(0, (vL 5000 0)), (1, (vI p)), (3, (vD (List.map encOp ops))), (8, (sc (.slice none 0 0))), (9, (vI 0)), (30, (vD (List.map encOp conds))), (31, (vI (List.length conds : Int))), (32, (vI ((k3 : Int) + 1)))], [(5000, (.cells 51 [(.d (dP [(encT t)]))]))], [5000]⟩ (by kernel_rfl) (.c (tri_int ((k3 : Int) + 1) (wrap_i64 (by omega))) .n) ?_
     exact peel_round (k3 + 1) rfl ⟨by (try simp only [List.length_map] at *); omega, trivial, by have hj := hJ6; rw [hd10] at hj; simp only [condsOK, condOK, hb14, hc1, hc16, hc16n, hc7, cond_true, cond_false, Bool.not_true, Bool.not_false] at hj ⊢; exact hj⟩ (by (try simp only [List.length_map] at *); omega)
  ·skip
   have hc7p := of_decide_eq_false hc7
   have hE18 := hJ6
   rw [at_end (l := conds) (by (try simp only [List.length_map] at *); omega)] at hE18
   simp only [condsOK, condOK, hc1, hc7, cond_true, cond_false, Bool.not_true, Bool.not_false] at hE18
   refine awp_exit ?_
   refine peel_seq_exit ?_
   refine peel_seq_exit ?_
   refine peel_hit ?_
   refine peel_seq ?_
   refine awp_seq ?_
   refine rk boxes [] [0, 1, 3, 8, 9, 15] [5000] ⟨116, [(0, (vL 5000 0)), (1, (vI p)), (3, (vD (List.map encOp ops))), (8, (sc (.slice none 0 0))), (9, (vI 0)), (15, (sc (.slice none 0 0)))], [(5000, (.cells 51 [(.d (dP [(encT t)]))]))], [5000]⟩ (by kernel_rfl) .n ?_
   refine peel_seq ?_
   refine awp_seq ?_
   refine rk boxes [⟨4, false, [(sc (.func (.func 44) #[] #[])), (vT (dP [(encT t)]))], [], (vI (t.size : Int)), []⟩] [0, 1, 3, 8, 9, 15, 16] [5000] ⟨116, [(0, (vL 5000 0)), (1, (vI p)), (3, (vD (List.map encOp ops))), (8, (sc (.slice none 0 0))), (9, (vI 0)), (15, (sc (.slice none 0 0))), (16, (vI (t.size : Int)))], [(5000, (.cells 51 [(.d (dP [(encT t)]))]))], [5000]⟩ (by kernel_rfl) (.c (tri_call (s_Len t)) .n) ?_
   refine peel_seq ?_
   refine awp_seq ?_
   refine awp_seq ?_
   refine rk boxes [⟨1, true, [(vD (List.map encOp ops))], [], (vI (List.length ops : Int)), []⟩] [0, 1, 8, 9, 15, 16, 62, 63, 64] [5000] ⟨116, [(0, (vL 5000 0)), (1, (vI p)), (8, (sc (.slice none 0 0))), (9, (vI 0)), (15, (sc (.slice none 0 0))), (16, (vI (t.size : Int))), (62, (vD (List.map encOp ops))), (63, (vI (List.length ops : Int))), (64, (vI 0))], [(5000, (.cells 51 [(.d (dP [(encT t)]))]))], [5000]⟩ (by kernel_rfl) (.c (tri_len_map tab_ok rfl) .n) ?_
   refine peel_seq ?_
   refine awp_block ?_
   refine awp_mv [.own 15 1015 44 6 72] ⟨116, [(15, (vO 1015)), (0, (vL 5000 0)), (1, (vI p)), (8, (sc (.slice none 0 0))), (9, (vI 0)), (16, (vI (t.size : Int))), (62, (vD (List.map encOp ops))), (63, (vI (List.length ops : Int))), (64, (vI 0))], [(1015, (.arr 44 6 72 [])), (5000, (.cells 51 [(.d (dP [(encT t)]))]))], [5000]⟩ rfl ?_
   refine q_keep [0, 1, 8, 9, 15, 16, 62, 63, 64] [1015, 5000] ?_
   refine awp_len 62 rfl (fun hlen19 => ?_)
   have hl6 := checkE_len hc1
   refine awp_loopP (ι := Nat × (List AEv) × (Int)) (fun x => ⟨116, [(0, (vL 5000 0)), (1, (vI p)), (8, (sc (.slice none 0 0))), (9, (vI 0)), (15, (vO 1015)), (16, (vI x.2.2)), (62, (vD (List.map encOp ops))), (63, (vI (List.length ops : Int))), (64, (vI (x.1 : Int)))], [(1015, (.arr 44 6 72 (List.map encEv x.2.1))), (5000, (.cells 51 [(.d (dP [(encT t)]))]))], [5000]⟩) (fun x => x.1 ≤ List.length ops ∧ (List.length x.2.1 ≤ x.1 ∧ -(x.1 : Int) ≤ x.2.2 ∧ x.2.2 ≤ t.size + x.1) ∧ planF t p (List.drop x.1 ops) x.2.1 x.2.2 = planF t p ops [] t.size) (fun x => List.length ops - x.1) (0, [], (t.size : Int)) rfl ⟨Nat.zero_le _, ⟨by simp, by simp only; omega, by simp only; omega⟩, rfl⟩ ?_
   rintro ⟨k20, a21, b22⟩ ⟨hk23, hx24, hJ25⟩
   try simp only at hk23 hx24 hJ25
   refine awp_seq ?_
   refine rk boxes [] [0, 1, 8, 9, 15, 16, 62, 63, 64, 65] [1015, 5000] ⟨116, [(0, (vL 5000 0)), (1, (vI p)), (8, (sc (.slice none 0 0))), (9, (vI 0)), (15, (vO 1015)), (16, (vI b22)), (62, (vD (List.map encOp ops))), (63, (vI (List.length ops : Int))), (64, (vI (k20 : Int))), (65, (vB (decide ((k20 : Int) < (List.length ops : Int)))))], [(1015, (.arr 44 6 72 (List.map encEv a21))), (5000, (.cells 51 [(.d (dP [(encT t)]))]))], [5000]⟩ (by kernel_rfl) .n ?_
   refine peel_seq ?_
   refine awp_seq ?_
   refine awp_cond (b := (decide ((k20 : Int) < (List.length ops : Int)))) rfl (fun hc26 => ?_) (fun hc26 => ?_)
   ·skip
    have hc26p := of_decide_eq_true hc26
    refine awp_skip ?_
    refine peel_seq ?_
    refine awp_seq ?_
    refine awp_block ?_
    refine awp_seq ?_
    obtain ⟨⟨key30, has31, val32⟩, ha28, hd29⟩ := at_drop (l := ops) (k := k20) (by (try simp only [List.length_map] at *); omega)
    refine rk boxes [⟨0, false, [(vD (List.map encOp ops)), (vI (k20 : Int))], [], (vT (dP [(dS key30), (dB has31), (dS val32)])), []⟩] [0, 1, 8, 9, 15, 16, 18, 62, 63, 64] [18, 1015, 5000] ⟨116, [(0, (vL 5000 0)), (1, (vI p)), (8, (sc (.slice none 0 0))), (9, (vI 0)), (15, (vO 1015)), (16, (vI b22)), (18, (vL 18 0)), (62, (vD (List.map encOp ops))), (63, (vI (List.length ops : Int))), (64, (vI (k20 : Int)))], [(18, (.cells 35 [(cS key30), (cB has31), (cS val32)])), (1015, (.arr 44 6 72 (List.map encEv a21))), (5000, (.cells 51 [(.d (dP [(encT t)]))]))], [5000]⟩ (by kernel_rfl) (.c (tri_index_sl (e := 35) (sz := 3) (bytes := 40) (i := k20) tab_ok rfl (at_map encOp ha28) (all_map fun _ => rfl)) .n) ?_
    refine peel_seq ?_
    refine awp_seq ?_
    refine rk boxes [⟨6, false, [(sc (.func (.func 49) #[] #[])), (vT (dP [(encT t)])), (vS key30)], [], (.tup [(.c (cS (Tr.getT t key30).1)), (.c (cB (Tr.getT t key30).2))]), []⟩] [0, 1, 8, 9, 15, 16, 18, 19, 20, 62, 63, 64] [18, 1015, 5000] ⟨116, [(0, (vL 5000 0)), (1, (vI p)), (8, (sc (.slice none 0 0))), (9, (vI 0)), (15, (vO 1015)), (16, (vI b22)), (18, (vL 18 0)), (19, (vS (Tr.getT t key30).1)), (20, (vB (Tr.getT t key30).2)), (62, (vD (List.map encOp ops))), (63, (vI (List.length ops : Int))), (64, (vI (k20 : Int)))], [(18, (.cells 35 [(cS key30), (cB has31), (cS val32)])), (1015, (.arr 44 6 72 (List.map encEv a21))), (5000, (.cells 51 [(.d (dP [(encT t)]))]))], [5000]⟩ (by kernel_rfl) (.c (tri_call (s_TGet t key30)) .n) ?_
    refine peel_seq ?_
    refine awp_seq ?_
    refine awp_seq ?_
    cases hb33 : ((Tr.getT t key30).2 == has31) with
    | false =>
     have hb33p : (Tr.getT t key30).2 ≠ has31 := by simpa using hb33
     refine rk boxes [⟨3, false, [(vB (Tr.getT t key30).2), (vB has31)], [], (vB false), []⟩] [0, 1, 8, 9, 15, 16, 18, 19, 20, 62, 63, 64, 87] [18, 1015, 5000] ⟨116, [(0, (vL 5000 0)), (1, (vI p)), (8, (sc (.slice none 0 0))), (9, (vI 0)), (15, (vO 1015)), (16, (vI b22)), (18, (vL 18 0)), (19, (vS (Tr.getT t key30).1)), (20, (vB (Tr.getT t key30).2)), (62, (vD (List.map encOp ops))), (63, (vI (List.length ops : Int))), (64, (vI (k20 : Int))), (87, (vB false))], [(18, (.cells 35 [(cS key30), (cB has31), (cS val32)])), (1015, (.arr 44 6 72 (List.map encEv a21))), (5000, (.cells 51 [(.d (dP [(encT t)]))]))], [5000]⟩ (by kernel_rfl) (.c (tri_scalar_eq [(.bool (Tr.getT t key30).2), (.bool has31)] (.bool ((Tr.getT t key30).2 == has31)) rfl rfl rfl (by kernel_rfl) (congrArg Value.bool hb33)) .n) ?_
     refine peel_seq ?_
     refine awp_false rfl ?_
     refine awp_skip ?_
     refine peel_seq ?_
     refine awp_seq ?_
     refine awp_then [.sw 100 1015] ?_
     refine rk boxes [⟨11, false, [(.t (.agg [(cI p), (cS key30), (cB (Tr.getT t key30).2), (cS (Tr.getT t key30).1), (cB has31), (cS val32)]))], [], (vD (List.map encEv ([(AEv.mk p key30 ((Tr.getT t key30).2) ((Tr.getT t key30).1) has31 val32)]))), []⟩, ⟨12, false, [(vO 1015), (vD (List.map encEv ([(AEv.mk p key30 ((Tr.getT t key30).2) ((Tr.getT t key30).1) has31 val32)])))], [(1015, (.arr 44 6 72 (List.map encEv a21)))], (vO 100), [(100, (.arr 44 6 72 (List.map encEv (a21 ++ [(AEv.mk p key30 ((Tr.getT t key30).2) ((Tr.getT t key30).1) has31 val32)]))))]⟩] [0, 1, 8, 9, 15, 16, 18, 20, 62, 63, 64] [18, 100, 5000] ⟨116, [(0, (vL 5000 0)), (1, (vI p)), (8, (sc (.slice none 0 0))), (9, (vI 0)), (15, (vO 100)), (16, (vI b22)), (18, (vL 18 0)), (20, (vB (Tr.getT t key30).2)), (62, (vD (List.map encOp ops))), (63, (vI (List.length ops : Int))), (64, (vI (k20 : Int)))], [(18, (.cells 35 [(cS key30), (cB has31), (cS val32)])), (100, (.arr 44 6 72 (List.map encEv (a21 ++ [(AEv.mk p key30 ((Tr.getT t key30).2) ((Tr.getT t key30).1) has31 val32)])))), (5000, (.cells 51 [(.d (dP [(encT t)]))]))], [5000]⟩ (by kernel_rfl) (.c (tri_slice_data (e := 44) (sz := 6) (bytes := 72) tab_ok (by kernel_rfl) rfl) (.c (tri_to (tri_append_sl (ex := 44) (bytes := 72) tab_ok rfl rfl rfl (all_map fun _ => rfl) (by (try simp only [List.length_map, List.length_cons, List.length_nil]); omega)) (by simp [encEv])) .n)) ?_
     refine then_mv ⟨116, [(0, (vL 5000 0)), (1, (vI p)), (8, (sc (.slice none 0 0))), (9, (vI 0)), (15, (vO 1015)), (16, (vI b22)), (18, (vL 18 0)), (20, (vB (Tr.getT t key30).2)), (62, (vD (List.map encOp ops))), (63, (vI (List.length ops : Int))), (64, (vI (k20 : Int)))], [(18, (.cells 35 [(cS key30), (cB has31), (cS val32)])), (1015, (.arr 44 6 72 (List.map encEv (a21 ++ [(AEv.mk p key30 ((Tr.getT t key30).2) ((Tr.getT t key30).1) has31 val32)])))), (5000, (.cells 51 [(.d (dP [(encT t)]))]))], [5000]⟩ rfl ?_
     refine peel_seq ?_
     refine awp_block ?_
     refine awp_seq ?_
     refine rk boxes [] [0, 1, 8, 9, 15, 16, 18, 62, 63, 64, 101] [18, 1015, 5000] ⟨116, [(0, (vL 5000 0)), (1, (vI p)), (8, (sc (.slice none 0 0))), (9, (vI 0)), (15, (vO 1015)), (16, (vI b22)), (18, (vL 18 0)), (62, (vD (List.map encOp ops))), (63, (vI (List.length ops : Int))), (64, (vI (k20 : Int))), (101, (vB (!(Tr.getT t key30).2)))], [(18, (.cells 35 [(cS key30), (cB has31), (cS val32)])), (1015, (.arr 44 6 72 (List.map encEv (a21 ++ [(AEv.mk p key30 ((Tr.getT t key30).2) ((Tr.getT t key30).1) has31 val32)])))), (5000, (.cells 51 [(.d (dP [(encT t)]))]))], [5000]⟩ (by kernel_rfl) .n ?_
     refine peel_seq ?_
     refine awp_cond (b := (!(Tr.getT t key30).2)) rfl (fun hc34 => ?_) (fun hc34 => ?_)
     ·skip
      refine rk boxes [⟨1, false, [(vI b22), (vI 1)], [], (vI (b22 + 1)), []⟩] [0, 1, 8, 9, 15, 16, 62, 63, 64] [1015, 5000] ⟨116, [(0, (vL 5000 0)), (1, (vI p)), (8, (sc (.slice none 0 0))), (9, (vI 0)), (15, (vO 1015)), (16, (vI (b22 + 1))), (62, (vD (List.map encOp ops))), (63, (vI (List.length ops : Int))), (64, (vI (k20 : Int)))], [(1015, (.arr 44 6 72 (List.map encEv (a21 ++ [(AEv.mk p key30 ((Tr.getT t key30).2) ((Tr.getT t key30).1) has31 val32)])))), (5000, (.cells 51 [(.d (dP [(encT t)]))]))], [5000]⟩ (by kernel_rfl) (.c (tri_int (b22 + 1) (wrap_i64 (by omega))) .n) ?_
      refine peel_block ?_
      refine peel_block ?_
      refine peel_seq ?_
      refine rk boxes [⟨0, false, [(vI (k20 : Int)), (vI 1)], [], (vI ((k20 : Int) + 1)), []⟩] [0, 1, 8, 9, 15, 16, 62, 63, 64] [1015, 5000] ⟨116, [(0, (vL 5000 0)), (1, (vI p)), (8, (sc (.slice none 0 0))), (9, (vI 0)), (15, (vO 1015)), (16, (vI (b22 + 1))), (62, (vD (List.map encOp ops))), (63, (vI (List.length ops : Int))), (64, (vI ((k20 : Int) + 1)))], [(1015, (.arr 44 6 72 (List.map encEv (a21 ++ [(AEv.mk p key30 ((Tr.getT t key30).2) ((Tr.getT t key30).1) has31 val32)])))), (5000, (.cells 51 [(.d (dP [(encT t)]))]))], [5000]⟩ (by kernel_rfl) (.c (tri_int ((k20 : Int) + 1) (wrap_i64 (by omega))) .n) ?_
      exact peel_round (k20 + 1, (a21 ++ [(AEv.mk p key30 ((Tr.getT t key30).2) ((Tr.getT t key30).1) has31 val32)]), (b22 + 1)) rfl ⟨by (try simp only [List.length_map] at *); omega, by (try simp only [List.length_append, List.length_cons, List.length_nil]); omega, by have hj := hJ25; rw [hd29] at hj; simp only [planF, sameOp, evOf, hb33, hc1, hc26, hc34, hc7, cond_true, cond_false, Bool.not_true, Bool.not_false] at hj ⊢; exact hj⟩ (by (try simp only [List.length_map] at *); omega)
     ·skip
      refine awp_seq ?_
      refine rk boxes [] [0, 1, 8, 9, 15, 16, 62, 63, 64, 106] [1015, 5000] ⟨116, [(0, (vL 5000 0)), (1, (vI p)), (8, (sc (.slice none 0 0))), (9, (vI 0)), (15, (vO 1015)), (16, (vI b22)), (62, (vD (List.map encOp ops))), (63, (vI (List.length ops : Int))), (64, (vI (k20 : Int))), (106, (vB (!has31)))], [(1015, (.arr 44 6 72 (List.map encEv (a21 ++ [(AEv.mk p key30 ((Tr.getT t key30).2) ((Tr.getT t key30).1) has31 val32)])))), (5000, (.cells 51 [(.d (dP [(encT t)]))]))], [5000]⟩ (by kernel_rfl) .n ?_
      refine peel_seq ?_
      cases has31 with
      | false =>
       refine awp_true rfl ?_
       refine rk boxes [⟨1, false, [(vI b22), (vI 1)], [], (vI (b22 - 1)), []⟩] [0, 1, 8, 9, 15, 16, 62, 63, 64] [1015, 5000] ⟨116, [(0, (vL 5000 0)), (1, (vI p)), (8, (sc (.slice none 0 0))), (9, (vI 0)), (15, (vO 1015)), (16, (vI (b22 - 1))), (62, (vD (List.map encOp ops))), (63, (vI (List.length ops : Int))), (64, (vI (k20 : Int)))], [(1015, (.arr 44 6 72 (List.map encEv (a21 ++ [(AEv.mk p key30 ((Tr.getT t key30).2) ((Tr.getT t key30).1) false val32)])))), (5000, (.cells 51 [(.d (dP [(encT t)]))]))], [5000]⟩ (by kernel_rfl) (.c (tri_int (b22 - 1) (wrap_i64 (by omega))) .n) ?_
       refine peel_block ?_
       refine peel_block ?_
       refine peel_seq ?_
       refine rk boxes [⟨0, false, [(vI (k20 : Int)), (vI 1)], [], (vI ((k20 : Int) + 1)), []⟩] [0, 1, 8, 9, 15, 16, 62, 63, 64] [1015, 5000] ⟨116, [(0, (vL 5000 0)), (1, (vI p)), (8, (sc (.slice none 0 0))), (9, (vI 0)), (15, (vO 1015)), (16, (vI (b22 - 1))), (62, (vD (List.map encOp ops))), (63, (vI (List.length ops : Int))), (64, (vI ((k20 : Int) + 1)))], [(1015, (.arr 44 6 72 (List.map encEv (a21 ++ [(AEv.mk p key30 ((Tr.getT t key30).2) ((Tr.getT t key30).1) false val32)])))), (5000, (.cells 51 [(.d (dP [(encT t)]))]))], [5000]⟩ (by kernel_rfl) (.c (tri_int ((k20 : Int) + 1) (wrap_i64 (by omega))) .n) ?_
       exact peel_round (k20 + 1, (a21 ++ [(AEv.mk p key30 ((Tr.getT t key30).2) ((Tr.getT t key30).1) false val32)]), (b22 - 1)) rfl ⟨by (try simp only [List.length_map] at *); omega, by (try simp only [List.length_append, List.length_cons, List.length_nil]); omega, by have hj := hJ25; rw [hd29] at hj; simp only [planF, sameOp, evOf, hb33, hc1, hc26, hc34, hc7, cond_true, cond_false, Bool.not_true, Bool.not_false] at hj ⊢; exact hj⟩ (by (try simp only [List.length_map] at *); omega)
      | true =>
       refine awp_false rfl ?_
       refine q_keep [0, 1, 8, 9, 15, 16, 62, 63, 64] [1015, 5000] ?_
       refine awp_skip ?_
       refine peel_block ?_
       refine peel_block ?_
       refine peel_seq ?_
       refine rk boxes [⟨0, false, [(vI (k20 : Int)), (vI 1)], [], (vI ((k20 : Int) + 1)), []⟩] [0, 1, 8, 9, 15, 16, 62, 63, 64] [1015, 5000] ⟨116, [(0, (vL 5000 0)), (1, (vI p)), (8, (sc (.slice none 0 0))), (9, (vI 0)), (15, (vO 1015)), (16, (vI b22)), (62, (vD (List.map encOp ops))), (63, (vI (List.length ops : Int))), (64, (vI ((k20 : Int) + 1)))], [(1015, (.arr 44 6 72 (List.map encEv (a21 ++ [(AEv.mk p key30 ((Tr.getT t key30).2) ((Tr.getT t key30).1) true val32)])))), (5000, (.cells 51 [(.d (dP [(encT t)]))]))], [5000]⟩ (by kernel_rfl) (.c (tri_int ((k20 : Int) + 1) (wrap_i64 (by omega))) .n) ?_
       exact peel_round (k20 + 1, (a21 ++ [(AEv.mk p key30 ((Tr.getT t key30).2) ((Tr.getT t key30).1) true val32)]), b22) rfl ⟨by (try simp only [List.length_map] at *); omega, by (try simp only [List.length_append, List.length_cons, List.length_nil]); omega, by have hj := hJ25; rw [hd29] at hj; simp only [planF, sameOp, evOf, hb33, hc1, hc26, hc34, hc7, cond_true, cond_false, Bool.not_true, Bool.not_false] at hj ⊢; exact hj⟩ (by (try simp only [List.length_map] at *); omega)
    | true =>
     have hb33p : (Tr.getT t key30).2 = has31 := by simpa using hb33
     refine rk boxes [⟨3, false, [(vB (Tr.getT t key30).2), (vB has31)], [], (vB true), []⟩, ⟨8, false, [(vS (Tr.getT t key30).1), (vS val32)], [], (vB (eqS (Tr.getT t key30).1 val32)), []⟩] [0, 1, 8, 9, 15, 16, 18, 19, 20, 62, 63, 64, 87] [18, 1015, 5000] ⟨116, [(0, (vL 5000 0)), (1, (vI p)), (8, (sc (.slice none 0 0))), (9, (vI 0)), (15, (vO 1015)), (16, (vI b22)), (18, (vL 18 0)), (19, (vS (Tr.getT t key30).1)), (20, (vB (Tr.getT t key30).2)), (62, (vD (List.map encOp ops))), (63, (vI (List.length ops : Int))), (64, (vI (k20 : Int))), (87, (vB (eqS (Tr.getT t key30).1 val32)))], [(18, (.cells 35 [(cS key30), (cB has31), (cS val32)])), (1015, (.arr 44 6 72 (List.map encEv a21))), (5000, (.cells 51 [(.d (dP [(encT t)]))]))], [5000]⟩ (by kernel_rfl) (.c (tri_scalar_eq [(.bool (Tr.getT t key30).2), (.bool has31)] (.bool ((Tr.getT t key30).2 == has31)) rfl rfl rfl (by kernel_rfl) (congrArg Value.bool hb33)) (.c (tri_str_eql) .n)) ?_
     refine peel_seq ?_
     refine awp_cond (b := (eqS (Tr.getT t key30).1 val32)) rfl (fun hc35 => ?_) (fun hc35 => ?_)
     ·skip
      have hc35p := eqS_true hc35
      refine awp_exit ?_
      refine peel_seq_exit ?_
      refine peel_hit ?_
      refine peel_seq ?_
      refine rk boxes [⟨0, false, [(vI (k20 : Int)), (vI 1)], [], (vI ((k20 : Int) + 1)), []⟩] [0, 1, 8, 9, 15, 16, 62, 63, 64] [1015, 5000] ⟨116, [(0, (vL 5000 0)), (1, (vI p)), (8, (sc (.slice none 0 0))), (9, (vI 0)), (15, (vO 1015)), (16, (vI b22)), (62, (vD (List.map encOp ops))), (63, (vI (List.length ops : Int))), (64, (vI ((k20 : Int) + 1)))], [(1015, (.arr 44 6 72 (List.map encEv a21))), (5000, (.cells 51 [(.d (dP [(encT t)]))]))], [5000]⟩ (by kernel_rfl) (.c (tri_int ((k20 : Int) + 1) (wrap_i64 (by omega))) .n) ?_
      exact peel_round (k20 + 1, a21, b22) rfl ⟨by (try simp only [List.length_map] at *); omega, by (try simp only [List.length_append, List.length_cons, List.length_nil]); omega, by have hj := hJ25; rw [hd29] at hj; simp only [planF, sameOp, evOf, hb33, hc1, hc26, hc35, hc7, cond_true, cond_false, Bool.not_true, Bool.not_false] at hj ⊢; exact hj⟩ (by (try simp only [List.length_map] at *); omega)
     ·skip
      have hc35p := eqS_false hc35
      refine awp_skip ?_
      refine peel_seq ?_
      refine awp_seq ?_
      refine awp_then [.sw 100 1015] ?_
      refine rk boxes [⟨11, false, [(.t (.agg [(cI p), (cS key30), (cB (Tr.getT t key30).2), (cS (Tr.getT t key30).1), (cB has31), (cS val32)]))], [], (vD (List.map encEv ([(AEv.mk p key30 ((Tr.getT t key30).2) ((Tr.getT t key30).1) has31 val32)]))), []⟩, ⟨12, false, [(vO 1015), (vD (List.map encEv ([(AEv.mk p key30 ((Tr.getT t key30).2) ((Tr.getT t key30).1) has31 val32)])))], [(1015, (.arr 44 6 72 (List.map encEv a21)))], (vO 100), [(100, (.arr 44 6 72 (List.map encEv (a21 ++ [(AEv.mk p key30 ((Tr.getT t key30).2) ((Tr.getT t key30).1) has31 val32)]))))]⟩] [0, 1, 8, 9, 15, 16, 18, 20, 62, 63, 64] [18, 100, 5000] ⟨116, [(0, (vL 5000 0)), (1, (vI p)), (8, (sc (.slice none 0 0))), (9, (vI 0)), (15, (vO 100)), (16, (vI b22)), (18, (vL 18 0)), (20, (vB (Tr.getT t key30).2)), (62, (vD (List.map encOp ops))), (63, (vI (List.length ops : Int))), (64, (vI (k20 : Int)))], [(18, (.cells 35 [(cS key30), (cB has31), (cS val32)])), (100, (.arr 44 6 72 (List.map encEv (a21 ++ [(AEv.mk p key30 ((Tr.getT t key30).2) ((Tr.getT t key30).1) has31 val32)])))), (5000, (.cells 51 [(.d (dP [(encT t)]))]))], [5000]⟩ (by kernel_rfl) (.c (tri_slice_data (e := 44) (sz := 6) (bytes := 72) tab_ok (by kernel_rfl) rfl) (.c (tri_to (tri_append_sl (ex := 44) (bytes := 72) tab_ok rfl rfl rfl (all_map fun _ => rfl) (by (try simp only [List.length_map, List.length_cons, List.length_nil]); omega)) (by simp [encEv])) .n)) ?_
      refine then_mv ⟨116, [(0, (vL 5000 0)), (1, (vI p)), (8, (sc (.slice none 0 0))), (9, (vI 0)), (15, (vO 1015)), (16, (vI b22)), (18, (vL 18 0)), (20, (vB (Tr.getT t key30).2)), (62, (vD (List.map encOp ops))), (63, (vI (List.length ops : Int))), (64, (vI (k20 : Int)))], [(18, (.cells 35 [(cS key30), (cB has31), (cS val32)])), (1015, (.arr 44 6 72 (List.map encEv (a21 ++ [(AEv.mk p key30 ((Tr.getT t key30).2) ((Tr.getT t key30).1) has31 val32)])))), (5000, (.cells 51 [(.d (dP [(encT t)]))]))], [5000]⟩ rfl ?_
      refine peel_seq ?_
      refine awp_block ?_
      refine awp_seq ?_
      refine rk boxes [] [0, 1, 8, 9, 15, 16, 18, 62, 63, 64, 101] [18, 1015, 5000] ⟨116, [(0, (vL 5000 0)), (1, (vI p)), (8, (sc (.slice none 0 0))), (9, (vI 0)), (15, (vO 1015)), (16, (vI b22)), (18, (vL 18 0)), (62, (vD (List.map encOp ops))), (63, (vI (List.length ops : Int))), (64, (vI (k20 : Int))), (101, (vB (!(Tr.getT t key30).2)))], [(18, (.cells 35 [(cS key30), (cB has31), (cS val32)])), (1015, (.arr 44 6 72 (List.map encEv (a21 ++ [(AEv.mk p key30 ((Tr.getT t key30).2) ((Tr.getT t key30).1) has31 val32)])))), (5000, (.cells 51 [(.d (dP [(encT t)]))]))], [5000]⟩ (by kernel_rfl) .n ?_
      refine peel_seq ?_
      refine awp_cond (b := (!(Tr.getT t key30).2)) rfl (fun hc36 => ?_) (fun hc36 => ?_)
      ·skip
       refine rk boxes [⟨1, false, [(vI b22), (vI 1)], [], (vI (b22 + 1)), []⟩] [0, 1, 8, 9, 15, 16, 62, 63, 64] [1015, 5000] ⟨116, [(0, (vL 5000 0)), (1, (vI p)), (8, (sc (.slice none 0 0))), (9, (vI 0)), (15, (vO 1015)), (16, (vI (b22 + 1))), (62, (vD (List.map encOp ops))), (63, (vI (List.length ops : Int))), (64, (vI (k20 : Int)))], [(1015, (.arr 44 6 72 (List.map encEv (a21 ++ [(AEv.mk p key30 ((Tr.getT t key30).2) ((Tr.getT t key30).1) has31 val32)])))), (5000, (.cells 51 [(.d (dP [(encT t)]))]))], [5000]⟩ (by kernel_rfl) (.c (tri_int (b22 + 1) (wrap_i64 (by omega))) .n) ?_
       refine peel_block ?_
       refine peel_block ?_
       refine peel_seq ?_
       refine rk boxes [⟨0, false, [(vI (k20 : Int)), (vI 1)], [], (vI ((k20 : Int) + 1)), []⟩] [0, 1, 8, 9, 15, 16, 62, 63, 64] [1015, 5000] ⟨116, [(0, (vL 5000 0)), (1, (vI p)), (8, (sc (.slice none 0 0))), (9, (vI 0)), (15, (vO 1015)), (16, (vI (b22 + 1))), (62, (vD (List.map encOp ops))), (63, (vI (List.length ops : Int))), (64, (vI ((k20 : Int) + 1)))], [(1015, (.arr 44 6 72 (List.map encEv (a21 ++ [(AEv.mk p key30 ((Tr.getT t key30).2) ((Tr.getT t key30).1) has31 val32)])))), (5000, (.cells 51 [(.d (dP [(encT t)]))]))], [5000]⟩ (by kernel_rfl) (.c (tri_int ((k20 : Int) + 1) (wrap_i64 (by omega))) .n) ?_
       exact peel_round (k20 + 1, (a21 ++ [(AEv.mk p key30 ((Tr.getT t key30).2) ((Tr.getT t key30).1) has31 val32)]), (b22 + 1)) rfl ⟨by (try simp only [List.length_map] at *); omega, by (try simp only [List.length_append, List.length_cons, List.length_nil]); omega, by have hj := hJ25; rw [hd29] at hj; simp only [planF, sameOp, evOf, hb33, hc1, hc26, hc35, hc36, hc7, cond_true, cond_false, Bool.not_true, Bool.not_false] at hj ⊢; exact hj⟩ (by (try simp only [List.length_map] at *); omega)
      ·skip
       refine awp_seq ?_
       refine rk boxes [] [0, 1, 8, 9, 15, 16, 62, 63, 64, 106] [1015, 5000] ⟨116, [(0, (vL 5000 0)), (1, (vI p)), (8, (sc (.slice none 0 0))), (9, (vI 0)), (15, (vO 1015)), (16, (vI b22)), (62, (vD (List.map encOp ops))), (63, (vI (List.length ops : Int))), (64, (vI (k20 : Int))), (106, (vB (!has31)))], [(1015, (.arr 44 6 72 (List.map encEv (a21 ++ [(AEv.mk p key30 ((Tr.getT t key30).2) ((Tr.getT t key30).1) has31 val32)])))), (5000, (.cells 51 [(.d (dP [(encT t)]))]))], [5000]⟩ (by kernel_rfl) .n ?_
       refine peel_seq ?_
       cases has31 with
       | false =>
        refine awp_true rfl ?_
        refine rk boxes [⟨1, false, [(vI b22), (vI 1)], [], (vI (b22 - 1)), []⟩] [0, 1, 8, 9, 15, 16, 62, 63, 64] [1015, 5000] ⟨116, [(0, (vL 5000 0)), (1, (vI p)), (8, (sc (.slice none 0 0))), (9, (vI 0)), (15, (vO 1015)), (16, (vI (b22 - 1))), (62, (vD (List.map encOp ops))), (63, (vI (List.length ops : Int))), (64, (vI (k20 : Int)))], [(1015, (.arr 44 6 72 (List.map encEv (a21 ++ [(AEv.mk p key30 ((Tr.getT t key30).2) ((Tr.getT t key30).1) false val32)])))), (5000, (.cells 51 [(.d (dP [(encT t)]))]))], [5000]⟩ (by kernel_rfl) (.c (tri_int (b22 - 1) (wrap_i64 (by omega))) .n) ?_
        refine peel_block ?_
        refine peel_block ?_
        refine peel_seq ?_
        refine rk boxes [⟨0, false, [(vI (k20 : Int)), (vI 1)], [], (vI ((k20 : Int) + 1)), []⟩] [0, 1, 8, 9, 15, 16, 62, 63, 64] [1015, 5000] ⟨116, [(0, (vL 5000 0)), (1, (vI p)), (8, (sc (.slice none 0 0))), (9, (vI 0)), (15, (vO 1015)), (16, (vI (b22 - 1))), (62, (vD (List.map encOp ops))), (63, (vI (List.length ops : Int))), (64, (vI ((k20 : Int) + 1)))], [(1015, (.arr 44 6 72 (List.map encEv (a21 ++ [(AEv.mk p key30 ((Tr.getT t key30).2) ((Tr.getT t key30).1) false val32)])))), (5000, (.cells 51 [(.d (dP [(encT t)]))]))], [5000]⟩ (by kernel_rfl) (.c (tri_int ((k20 : Int) + 1) (wrap_i64 (by omega))) .n) ?_
        exact peel_round (k20 + 1, (a21 ++ [(AEv.mk p key30 ((Tr.getT t key30).2) ((Tr.getT t key30).1) false val32)]), (b22 - 1)) rfl ⟨by (try simp only [List.length_map] at *); omega, by (try simp only [List.length_append, List.length_cons, List.length_nil]); omega, by have hj := hJ25; rw [hd29] at hj; simp only [planF, sameOp, evOf, hb33, hc1, hc26, hc35, hc36, hc7, cond_true, cond_false, Bool.not_true, Bool.not_false] at hj ⊢; exact hj⟩ (by (try simp only [List.length_map] at *); omega)
       | true =>
        refine awp_false rfl ?_
        refine q_keep [0, 1, 8, 9, 15, 16, 62, 63, 64] [1015, 5000] ?_
        refine awp_skip ?_
        refine peel_block ?_
        refine peel_block ?_
        refine peel_seq ?_
        refine rk boxes [⟨0, false, [(vI (k20 : Int)), (vI 1)], [], (vI ((k20 : Int) + 1)), []⟩] [0, 1, 8, 9, 15, 16, 62, 63, 64] [1015, 5000] ⟨116, [(0, (vL 5000 0)), (1, (vI p)), (8, (sc (.slice none 0 0))), (9, (vI 0)), (15, (vO 1015)), (16, (vI b22)), (62, (vD (List.map encOp ops))), (63, (vI (List.length ops : Int))), (64, (vI ((k20 : Int) + 1)))], [(1015, (.arr 44 6 72 (List.map encEv (a21 ++ [(AEv.mk p key30 ((Tr.getT t key30).2) ((Tr.getT t key30).1) true val32)])))), (5000, (.cells 51 [(.d (dP [(encT t)]))]))], [5000]⟩ (by kernel_rfl) (.c (tri_int ((k20 : Int) + 1) (wrap_i64 (by omega))) .n) ?_
        exact peel_round (k20 + 1, (a21 ++ [(AEv.mk p key30 ((Tr.getT t key30).2) ((Tr.getT t key30).1) true val32)]), b22) rfl ⟨by (try simp only [List.length_map] at *); omega, by (try simp only [List.length_append, List.length_cons, List.length_nil]); omega, by have hj := hJ25; rw [hd29] at hj; simp only [planF, sameOp, evOf, hb33, hc1, hc26, hc35, hc36, hc7, cond_true, cond_false, Bool.not_true, Bool.not_false] at hj ⊢; exact hj⟩ (by (try simp only [List.length_map] at *); omega)
   ·skip
    have hc26p := of_decide_eq_false hc26
    have hE37 := hJ25
    rw [at_end (l := ops) (by (try simp only [List.length_map] at *); omega)] at hE37
    simp only [planF, sameOp, evOf, hc1, hc26, hc7, cond_true, cond_false, Bool.not_true, Bool.not_false] at hE37
    refine awp_exit ?_
    refine peel_seq_exit ?_
    refine peel_seq_exit ?_
    refine peel_hit ?_
    refine peel_seq ?_
    refine awp_seq ?_
    refine awp_seq ?_
    refine rk boxes [] [8, 9, 15, 114] [1015, 5000] ⟨116, [(8, (sc (.slice none 0 0))), (9, (vI 0)), (15, (vO 1015)), (114, (vB (decide (b22 > 24))))], [(1015, (.arr 44 6 72 (List.map encEv a21))), (5000, (.cells 51 [(.d (dP [(encT t)]))]))], [5000]⟩ (by kernel_rfl) .n ?_
    refine peel_seq ?_
    refine awp_cond (b := (decide (b22 > 24))) rfl (fun hc38 => ?_) (fun hc38 => ?_)
    ·skip
     have hc38p := of_decide_eq_true hc38
     refine awp_seq ?_
     refine rk boxes [] [8, 9, 15] [1015, 5000] ⟨116, [(8, (sc (.slice none 0 0))), (9, (vI 7)), (15, (vO 1015))], [(1015, (.arr 44 6 72 (List.map encEv a21))), (5000, (.cells 51 [(.d (dP [(encT t)]))]))], [5000]⟩ (by kernel_rfl) .n ?_
     refine peel_seq ?_
     refine awp_mv [.own 8 908 0 0 0, .fz 908] ⟨116, [(8, (vD [])), (9, (vI 7)), (15, (vO 1015))], [(1015, (.arr 44 6 72 (List.map encEv a21))), (5000, (.cells 51 [(.d (dP [(encT t)]))]))], [5000]⟩ rfl ?_
     refine awp_ret ?_
     refine peel_seq_ret ?_
     exact ends_ret rfl (show some ((.tup [(.c (cD [])), (.c (cI 7))]) : SV) = some ((.tup [(.c (cD (List.map encEv ((planM t p conds ops).1)))), (.c (cI (planM t p conds ops).2))]) : SV) from by first | rfl | ((try simp only [cond_true, cond_false, Bool.not_true, Bool.not_false] at hE18 hE37); (first | (simp only [hc1, hc26, hc38, hc7, ← hE18, ← hE37, cond_true, cond_false, Bool.not_true, Bool.not_false, List.map_nil]; done) | (simp only [planM, hc1, hc26, hc38, hc7, ← hE18, ← hE37, cond_true, cond_false, Bool.not_true, Bool.not_false, List.map_nil])))) rfl
    ·skip
     have hc38p := of_decide_eq_false hc38
     refine awp_skip ?_
     refine peel_seq ?_
     refine awp_seq ?_
     refine rk boxes [] [8, 9] [1015, 5000] ⟨116, [(8, (vO 1015)), (9, (vI 0))], [(1015, (.arr 44 6 72 (List.map encEv a21))), (5000, (.cells 51 [(.d (dP [(encT t)]))]))], [5000]⟩ (by kernel_rfl) .n ?_
     refine peel_seq ?_
     refine awp_mv [.fz 1015] ⟨116, [(8, (vD (List.map encEv a21))), (9, (vI 0))], [(5000, (.cells 51 [(.d (dP [(encT t)]))]))], [5000]⟩ rfl ?_
     refine awp_ret ?_
     exact ends_ret rfl (show some ((.tup [(.c (cD (List.map encEv a21))), (.c (cI 0))]) : SV) = some ((.tup [(.c (cD (List.map encEv ((planM t p conds ops).1)))), (.c (cI (planM t p conds ops).2))]) : SV) from by first | rfl | ((try simp only [cond_true, cond_false, Bool.not_true, Bool.not_false] at hE18 hE37); (first | (simp only [hc1, hc26, hc38, hc7, ← hE18, ← hE37, cond_true, cond_false, Bool.not_true, Bool.not_false, List.map_nil]; done) | (simp only [planM, hc1, hc26, hc38, hc7, ← hE18, ← hE37, cond_true, cond_false, Bool.not_true, Bool.not_false, List.map_nil])))) rfl
theorem k_Plan_nil (p : Int) (conds ops : List AOp) : Sat Try.prog 19 [(sc (.pointer none)), (vI p), (vD (List.map encOp conds)), (vD (List.map encOp ops))] [] (.tup [(.c (cD [])), (.c (cI 6))]) [] := by
 refine sat_of_body tab_ok Try.func19 rfl (by kernel_rfl) (Nat.le_of_ble_eq_true rfl) rfl fun G => ?_
 refine awp_seq ?_
 refine rk boxes [] [0, 1, 2, 3, 8, 9] [] ⟨116, [(0, (sc (.pointer none))), (1, (vI p)), (2, (vD (List.map encOp conds))), (3, (vD (List.map encOp ops))), (8, (sc (.slice none 0 0))), (9, (vI 0))], [], []⟩ (by kernel_rfl) .n ?_
 refine peel_seq ?_
 refine awp_seq ?_
 refine awp_seq ?_
 refine rk boxes [⟨1, false, [(sc (.func (.func 42) #[] #[])), (sc (.pointer none))], [], (vB false), []⟩] [0, 1, 2, 3, 8, 9, 23] [] ⟨116, [(0, (sc (.pointer none))), (1, (vI p)), (2, (vD (List.map encOp conds))), (3, (vD (List.map encOp ops))), (8, (sc (.slice none 0 0))), (9, (vI 0)), (23, (vB true))], [], []⟩ (by kernel_rfl) (.c (tri_call (k_made_nil)) .n) ?_
 refine peel_seq ?_
 refine awp_true rfl ?_
 refine awp_seq ?_
 refine rk boxes [] [0, 1, 2, 3, 8, 9] [] ⟨116, [(0, (sc (.pointer none))), (1, (vI p)), (2, (vD (List.map encOp conds))), (3, (vD (List.map encOp ops))), (8, (sc (.slice none 0 0))), (9, (vI 6))], [], []⟩ (by kernel_rfl) .n ?_
 refine peel_seq ?_
 refine awp_mv [.own 8 908 0 0 0, .fz 908] ⟨116, [(8, (vD [])), (0, (sc (.pointer none))), (1, (vI p)), (2, (vD (List.map encOp conds))), (3, (vD (List.map encOp ops))), (9, (vI 6))], [], []⟩ rfl ?_
 refine awp_ret ?_
 refine peel_seq_ret ?_
 exact ends_ret rfl rfl rfl
theorem k_Plan_zero (p : Int) (conds ops : List AOp) : Sat Try.prog 19 [(vT (dP [(.v (.pointer none))])), (vI p), (vD (List.map encOp conds)), (vD (List.map encOp ops))] [] (.tup [(.c (cD [])), (.c (cI 6))]) [] := by
 refine sat_of_body tab_ok Try.func19 rfl (by kernel_rfl) (Nat.le_of_ble_eq_true rfl) rfl fun G => ?_
 refine awp_seq ?_
 refine rk boxes [] [0, 1, 2, 3, 8, 9] [] ⟨116, [(0, (vT (dP [(.v (.pointer none))]))), (1, (vI p)), (2, (vD (List.map encOp conds))), (3, (vD (List.map encOp ops))), (8, (sc (.slice none 0 0))), (9, (vI 0))], [], []⟩ (by kernel_rfl) .n ?_
 refine peel_seq ?_
 refine awp_seq ?_
 refine awp_seq ?_
 refine rk boxes [⟨1, false, [(sc (.func (.func 42) #[] #[])), (vT (dP [(.v (.pointer none))]))], [], (vB false), []⟩] [0, 1, 2, 3, 8, 9, 23] [] ⟨116, [(0, (vT (dP [(.v (.pointer none))]))), (1, (vI p)), (2, (vD (List.map encOp conds))), (3, (vD (List.map encOp ops))), (8, (sc (.slice none 0 0))), (9, (vI 0)), (23, (vB true))], [], []⟩ (by kernel_rfl) (.c (tri_call (k_made_zero)) .n) ?_
 refine peel_seq ?_
 refine awp_true rfl ?_
 refine awp_seq ?_
 refine rk boxes [] [0, 1, 2, 3, 8, 9] [] ⟨116, [(0, (vT (dP [(.v (.pointer none))]))), (1, (vI p)), (2, (vD (List.map encOp conds))), (3, (vD (List.map encOp ops))), (8, (sc (.slice none 0 0))), (9, (vI 6))], [], []⟩ (by kernel_rfl) .n ?_
 refine peel_seq ?_
 refine awp_mv [.own 8 908 0 0 0, .fz 908] ⟨116, [(8, (vD [])), (0, (vT (dP [(.v (.pointer none))]))), (1, (vI p)), (2, (vD (List.map encOp conds))), (3, (vD (List.map encOp ops))), (9, (vI 6))], [], []⟩ rfl ?_
 refine awp_ret ?_
 refine peel_seq_ret ?_
 exact ends_ret rfl rfl rfl
theorem k_Take (t : Tr) (l : List AEv) (hs : t.size + l.length ≤ 1000000) : Sat Try.prog 21 [(vL 5000 0), (vD (List.map encEv l))] [(5000, (.cells 51 [(.d (dP [(encT t)]))]))] (.tup []) [(5000, (.cells 51 [(.d (dP [(encT (takeF t l))]))]))] := by
 refine sat_of_body tab_ok Try.func21 rfl (by kernel_rfl) (Nat.le_of_ble_eq_true rfl) rfl fun G => ?_
 refine awp_seq ?_
 refine awp_seq ?_
 refine rk boxes [⟨1, true, [(sc (.func (.func 42) #[] #[])), (vL 5000 0)], [(5000, (.cells 51 [(.d (dP [(encT t)]))]))], (vB true), []⟩] [0, 1, 8] [5000] ⟨40, [(0, (vL 5000 0)), (1, (vD (List.map encEv l))), (8, (vB false))], [(5000, (.cells 51 [(.d (dP [(encT t)]))]))], [5000]⟩ (by kernel_rfl) (.c (tri_call (k_made t)) .n) ?_
 refine peel_seq ?_
 refine awp_false rfl ?_
 refine awp_skip ?_
 refine peel_seq ?_
 refine awp_seq ?_
 refine rk boxes [⟨1, true, [(vD (List.map encEv l))], [], (vI (List.length l : Int)), []⟩] [0, 9, 10, 11] [5000] ⟨40, [(0, (vL 5000 0)), (9, (vD (List.map encEv l))), (10, (vI (List.length l : Int))), (11, (vI 0))], [(5000, (.cells 51 [(.d (dP [(encT t)]))]))], [5000]⟩ (by kernel_rfl) (.c (tri_len_map tab_ok rfl) .n) ?_
 refine peel_seq ?_
 refine awp_block ?_
 refine awp_len 9 rfl (fun hlen1 => ?_)
 refine awp_loopP (ι := Nat × (Tr)) (fun x => ⟨40, [(0, (vL 5000 0)), (9, (vD (List.map encEv l))), (10, (vI (List.length l : Int))), (11, (vI (x.1 : Int)))], [(5000, (.cells 51 [(.d (dP [(encT x.2)]))]))], [5000]⟩) (fun x => x.1 ≤ List.length l ∧ (Tr.size x.2 ≤ t.size + x.1) ∧ takeF x.2 (List.drop x.1 l) = takeF t l) (fun x => List.length l - x.1) (0, t) rfl ⟨Nat.zero_le _, by simp, rfl⟩ ?_
 rintro ⟨k2, a3⟩ ⟨hk4, hx5, hJ6⟩
 try simp only at hk4 hx5 hJ6
 refine awp_seq ?_
 refine rk boxes [] [0, 9, 10, 11, 12] [5000] ⟨40, [(0, (vL 5000 0)), (9, (vD (List.map encEv l))), (10, (vI (List.length l : Int))), (11, (vI (k2 : Int))), (12, (vB (decide ((k2 : Int) < (List.length l : Int)))))], [(5000, (.cells 51 [(.d (dP [(encT a3)]))]))], [5000]⟩ (by kernel_rfl) .n ?_
 refine peel_seq ?_
 refine awp_seq ?_
 refine awp_cond (b := (decide ((k2 : Int) < (List.length l : Int)))) rfl (fun hc7 => ?_) (fun hc7 => ?_)
 ·skip
  have hc7p := of_decide_eq_true hc7
  refine awp_skip ?_
  refine peel_seq ?_
  refine awp_seq ?_
  refine awp_block ?_
  refine awp_seq ?_
  obtain ⟨⟨pos11, key12, had13, old14, has15, now16⟩, ha9, hd10⟩ := at_drop (l := l) (k := k2) (by (try simp only [List.length_map] at *); omega)
  refine rk boxes [⟨0, false, [(vD (List.map encEv l)), (vI (k2 : Int))], [], (vT (dP [(dI pos11), (dS key12), (dB had13), (dS old14), (dB has15), (dS now16)])), []⟩] [0, 5, 9, 10, 11] [5, 5000] ⟨40, [(0, (vL 5000 0)), (5, (vL 5 0)), (9, (vD (List.map encEv l))), (10, (vI (List.length l : Int))), (11, (vI (k2 : Int)))], [(5, (.cells 44 [(cI pos11), (cS key12), (cB had13), (cS old14), (cB has15), (cS now16)])), (5000, (.cells 51 [(.d (dP [(encT a3)]))]))], [5000]⟩ (by kernel_rfl) (.c (tri_index_sl (e := 44) (sz := 6) (bytes := 72) (i := k2) tab_ok rfl (at_map encEv ha9) (all_map fun _ => rfl)) .n) ?_
  refine peel_seq ?_
  refine awp_seq ?_
  refine rk boxes [] [0, 5, 9, 10, 11, 16] [5, 5000] ⟨40, [(0, (vL 5000 0)), (5, (vL 5 0)), (9, (vD (List.map encEv l))), (10, (vI (List.length l : Int))), (11, (vI (k2 : Int))), (16, (vB has15))], [(5, (.cells 44 [(cI pos11), (cS key12), (cB had13), (cS old14), (cB has15), (cS now16)])), (5000, (.cells 51 [(.d (dP [(encT a3)]))]))], [5000]⟩ (by kernel_rfl) .n ?_
  refine peel_seq ?_
  cases has15 with
  | false =>
   refine awp_false rfl ?_
   refine rk boxes [⟨7, false, [(sc (.func (.func 50) #[] #[])), (vT (dP [(encT a3)])), (vS key12)], [], (vT (dP [(encT (Tr.dropT a3 key12))])), []⟩] [0, 9, 10, 11] [5000] ⟨40, [(0, (vL 5000 0)), (9, (vD (List.map encEv l))), (10, (vI (List.length l : Int))), (11, (vI (k2 : Int)))], [(5000, (.cells 51 [(.d (dP [(encT (Tr.dropT a3 key12))]))]))], [5000]⟩ (by kernel_rfl) (.c (tri_call (s_TDrop a3 key12 (by (try simp only [Tr.size, Tr.size_downLess, Tr.size_downMore, Tr.size_join, big] at *); omega))) .n) ?_
   refine peel_block ?_
   refine peel_seq ?_
   refine rk boxes [⟨0, false, [(vI (k2 : Int)), (vI 1)], [], (vI ((k2 : Int) + 1)), []⟩] [0, 9, 10, 11] [5000] ⟨40, [(0, (vL 5000 0)), (9, (vD (List.map encEv l))), (10, (vI (List.length l : Int))), (11, (vI ((k2 : Int) + 1)))], [(5000, (.cells 51 [(.d (dP [(encT (Tr.dropT a3 key12))]))]))], [5000]⟩ (by kernel_rfl) (.c (tri_int ((k2 : Int) + 1) (wrap_i64 (by omega))) .n) ?_
   exact peel_round (k2 + 1, (Tr.dropT a3 key12)) rfl ⟨by (try simp only [List.length_map] at *); omega, by first | exact Nat.le_trans (Tr.size_putT ..) (by omega) | exact Nat.le_trans (Tr.size_dropT ..) (by omega), by have hj := hJ6; rw [hd10] at hj; simp only [takeF, hc7, cond_true, cond_false, Bool.not_true, Bool.not_false] at hj ⊢; exact hj⟩ (by (try simp only [List.length_map] at *); omega)
  | true =>
   refine awp_true rfl ?_
   refine rk boxes [⟨9, false, [(sc (.func (.func 47) #[] #[])), (vT (dP [(encT a3)])), (vS key12), (vS now16)], [], (vT (dP [(encT (Tr.putT a3 key12 now16))])), []⟩] [0, 9, 10, 11] [5000] ⟨40, [(0, (vL 5000 0)), (9, (vD (List.map encEv l))), (10, (vI (List.length l : Int))), (11, (vI (k2 : Int)))], [(5000, (.cells 51 [(.d (dP [(encT (Tr.putT a3 key12 now16))]))]))], [5000]⟩ (by kernel_rfl) (.c (tri_call (s_TPut a3 key12 now16 (by (try simp only [Tr.size, Tr.size_downLess, Tr.size_downMore, Tr.size_join, big] at *); omega))) .n) ?_
   refine peel_block ?_
   refine peel_seq ?_
   refine rk boxes [⟨0, false, [(vI (k2 : Int)), (vI 1)], [], (vI ((k2 : Int) + 1)), []⟩] [0, 9, 10, 11] [5000] ⟨40, [(0, (vL 5000 0)), (9, (vD (List.map encEv l))), (10, (vI (List.length l : Int))), (11, (vI ((k2 : Int) + 1)))], [(5000, (.cells 51 [(.d (dP [(encT (Tr.putT a3 key12 now16))]))]))], [5000]⟩ (by kernel_rfl) (.c (tri_int ((k2 : Int) + 1) (wrap_i64 (by omega))) .n) ?_
   exact peel_round (k2 + 1, (Tr.putT a3 key12 now16)) rfl ⟨by (try simp only [List.length_map] at *); omega, by first | exact Nat.le_trans (Tr.size_putT ..) (by omega) | exact Nat.le_trans (Tr.size_dropT ..) (by omega), by have hj := hJ6; rw [hd10] at hj; simp only [takeF, hc7, cond_true, cond_false, Bool.not_true, Bool.not_false] at hj ⊢; exact hj⟩ (by (try simp only [List.length_map] at *); omega)
 ·skip
  have hc7p := of_decide_eq_false hc7
  have hE17 := hJ6
  rw [at_end (l := l) (by (try simp only [List.length_map] at *); omega)] at hE17
  simp only [takeF, hc7, cond_true, cond_false, Bool.not_true, Bool.not_false] at hE17
  refine awp_exit ?_
  refine peel_seq_exit ?_
  refine peel_seq_exit ?_
  refine peel_hit ?_
  exact ends_end rfl rfl (show some ([(5000, (.cells 51 [(.d (dP [(encT a3)]))]))] : Objs) = some ([(5000, (.cells 51 [(.d (dP [(encT (takeF t l))]))]))] : Objs) from by first | rfl | ((try simp only [cond_true, cond_false, Bool.not_true, Bool.not_false] at hE17); (first | (simp only [hc7, ← hE17, cond_true, cond_false, Bool.not_true, Bool.not_false, List.map_nil]; done) | (simp only [takeF, hc7, ← hE17, cond_true, cond_false, Bool.not_true, Bool.not_false, List.map_nil]))))
theorem k_Take_nil (l : List AEv) : Sat Try.prog 21 [(sc (.pointer none)), (vD (List.map encEv l))] [] (.tup []) [] := by
 refine sat_of_body tab_ok Try.func21 rfl (by kernel_rfl) (Nat.le_of_ble_eq_true rfl) rfl fun G => ?_
 refine awp_seq ?_
 refine awp_seq ?_
 refine rk boxes [⟨1, false, [(sc (.func (.func 42) #[] #[])), (sc (.pointer none))], [], (vB false), []⟩] [0, 1, 8] [] ⟨40, [(0, (sc (.pointer none))), (1, (vD (List.map encEv l))), (8, (vB true))], [], []⟩ (by kernel_rfl) (.c (tri_call (k_made_nil)) .n) ?_
 refine peel_seq ?_
 refine awp_true rfl ?_
 refine awp_ret ?_
 refine peel_seq_ret ?_
 exact ends_ret rfl rfl rfl
theorem k_Take_zero (l : List AEv) : Sat Try.prog 21 [(vT (dP [(.v (.pointer none))])), (vD (List.map encEv l))] [] (.tup []) [] := by
 refine sat_of_body tab_ok Try.func21 rfl (by kernel_rfl) (Nat.le_of_ble_eq_true rfl) rfl fun G => ?_
 refine awp_seq ?_
 refine awp_seq ?_
 refine rk boxes [⟨1, false, [(sc (.func (.func 42) #[] #[])), (vT (dP [(.v (.pointer none))]))], [], (vB false), []⟩] [0, 1, 8] [] ⟨40, [(0, (vT (dP [(.v (.pointer none))]))), (1, (vD (List.map encEv l))), (8, (vB true))], [], []⟩ (by kernel_rfl) (.c (tri_call (k_made_zero)) .n) ?_
 refine peel_seq ?_
 refine awp_true rfl ?_
 refine awp_ret ?_
 refine peel_seq_ret ?_
 exact ends_ret rfl rfl rfl
end Go.Proofs.Ytjbiaoajmdbigaa
