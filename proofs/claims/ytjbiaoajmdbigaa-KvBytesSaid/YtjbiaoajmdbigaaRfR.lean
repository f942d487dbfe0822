/- The walk of tidemarkref09.Right. -/
import Derived.Test.YtjbiaoajmdbigaaRfA
set_option maxRecDepth 100000
set_option linter.unusedVariables false
set_option linter.unusedSimpArgs false
namespace Go.Proofs.Ytjbiaoajmdbigaa
open Go Go.E
theorem r_Right (l : List AOp) (hs : (∀ x ∈ l, AOp.small x)) : Sat Try.prog 35 [(vD (List.map encOp l))] [] (vI (rightF l [])) [] := by
 refine sat_of_body tab_ok Try.func35 rfl (by kernel_rfl) (Nat.le_of_ble_eq_true rfl) rfl fun G => ?_
 refine awp_seq ?_
 refine rk boxes [] [0, 2] [] ⟨49, [(0, (vD (List.map encOp l))), (2, (vI 0))], [], []⟩ (by kernel_rfl) .n ?_
 refine peel_seq ?_
 refine awp_seq ?_
 refine awp_seq ?_
 refine rk boxes [⟨1, true, [(vD (List.map encOp l))], [], (vI (List.length l : Int)), []⟩] [0, 2, 6, 7, 8] [] ⟨49, [(0, (vD (List.map encOp l))), (2, (vI 0)), (6, (vD (List.map encOp l))), (7, (vI (List.length l : Int))), (8, (vI 0))], [], []⟩ (by kernel_rfl) (.c (tri_len_map tab_ok rfl) .n) ?_
 refine peel_seq ?_
 refine awp_block ?_
 refine awp_len 0 rfl (fun hlen1 => ?_)
 refine awp_loopP (ι := Nat) (fun x => ⟨49, [(0, (vD (List.map encOp l))), (2, (vI 0)), (6, (vD (List.map encOp l))), (7, (vI (List.length l : Int))), (8, (vI (x : Int)))], [], []⟩) (fun x => x ≤ List.length l ∧ (True) ∧ rightF (List.drop x l) ((List.take x l).map AOp.key) = rightF l []) (fun x => List.length l - x) (0) rfl ⟨Nat.zero_le _, trivial, rfl⟩ ?_
 rintro k2 ⟨hk3, hx4, hJ5⟩
 try simp only at hk3 hx4 hJ5
 refine awp_seq ?_
 refine rk boxes [] [0, 2, 6, 7, 8, 9] [] ⟨49, [(0, (vD (List.map encOp l))), (2, (vI 0)), (6, (vD (List.map encOp l))), (7, (vI (List.length l : Int))), (8, (vI (k2 : Int))), (9, (vB (decide ((k2 : Int) < (List.length l : Int)))))], [], []⟩ (by kernel_rfl) .n ?_
 refine peel_seq ?_
 refine awp_seq ?_
 refine awp_cond (b := (decide ((k2 : Int) < (List.length l : Int)))) rfl (fun hc6 => ?_) (fun hc6 => ?_)
 ·skip
  have hc6p := of_decide_eq_true hc6
  refine awp_skip ?_
  refine peel_seq ?_
  refine awp_seq ?_
  refine awp_block ?_
  refine awp_seq ?_
  obtain ⟨⟨key10, has11, val12⟩, ha8, hd9⟩ := at_drop (l := l) (k := k2) (by (try simp only [List.length_map] at *); omega)
  have hm13 := hs (AOp.mk key10 has11 val12) (List.mem_of_getElem? ha8)
  refine rk boxes [⟨1, false, [(vD (List.map encOp l)), (vI (k2 : Int))], [], (vT (dP [(dS key10), (dB has11), (dS val12)])), []⟩] [0, 2, 3, 4, 6, 7, 8] [4] ⟨49, [(0, (vD (List.map encOp l))), (2, (vI 0)), (3, (vI (k2 : Int))), (4, (vL 4 0)), (6, (vD (List.map encOp l))), (7, (vI (List.length l : Int))), (8, (vI (k2 : Int)))], [(4, (.cells 35 [(cS key10), (cB has11), (cS val12)]))], []⟩ (by kernel_rfl) (.c (tri_index_sl (e := 35) (sz := 3) (bytes := 40) (i := k2) tab_ok rfl (at_map encOp ha8) (all_map fun _ => rfl)) .n) ?_
  refine peel_seq ?_
  refine awp_seq ?_
  refine awp_seq ?_
  refine rk boxes [⟨2, false, [(sc (.func (.func 60) #[] #[])), (vS key10)], [], (vI (keyE key10)), []⟩] [0, 2, 3, 4, 6, 7, 8, 16] [4] ⟨49, [(0, (vD (List.map encOp l))), (2, (vI 0)), (3, (vI (k2 : Int))), (4, (vL 4 0)), (6, (vD (List.map encOp l))), (7, (vI (List.length l : Int))), (8, (vI (k2 : Int))), (16, (vB ((keyE key10) != 0)))], [(4, (.cells 35 [(cS key10), (cB has11), (cS val12)]))], []⟩ (by kernel_rfl) (.c (tri_call (f_Key key10 (by (simp only [AOp.small] at *); omega))) .n) ?_
  refine peel_seq ?_
  refine awp_cond (b := ((keyE key10) != 0)) rfl (fun hc14 => ?_) (fun hc14 => ?_)
  ·skip
   have hc14p : (keyE key10) ≠ 0 := by simpa using hc14
   refine awp_seq ?_
   refine rk boxes [] [0, 2, 3, 4, 6, 7, 8] [4] ⟨49, [(0, (vD (List.map encOp l))), (2, (vI 20)), (3, (vI (k2 : Int))), (4, (vL 4 0)), (6, (vD (List.map encOp l))), (7, (vI (List.length l : Int))), (8, (vI (k2 : Int)))], [(4, (.cells 35 [(cS key10), (cB has11), (cS val12)]))], []⟩ (by kernel_rfl) .n ?_
   refine peel_seq ?_
   have hE15 := hJ5
   rw [hd9] at hE15
   simp only [rightF, badV, hc14, hc6, cond_true, cond_false, Bool.not_true, Bool.not_false] at hE15
   refine awp_ret ?_
   refine peel_seq_ret ?_
   refine peel_block_ret ?_
   refine peel_seq_ret ?_
   refine peel_seq_ret ?_
   refine peel_block_ret ?_
   refine peel_seq_ret ?_
   exact ends_ret rfl (show some ((vI 20) : SV) = some ((vI (rightF l [])) : SV) from by first | rfl | ((try simp only [cond_true, cond_false, Bool.not_true, Bool.not_false] at hE15); (first | (simp only [hc14, hc6, ← hE15, cond_true, cond_false, Bool.not_true, Bool.not_false, List.map_nil]; done) | (simp only [rightF, badV, hc14, hc6, ← hE15, cond_true, cond_false, Bool.not_true, Bool.not_false, List.map_nil])))) rfl
  ·skip
   have hc14p : (keyE key10) = 0 := by simpa using hc14
   refine awp_skip ?_
   refine peel_seq ?_
   refine awp_seq ?_
   refine awp_seq ?_
   cases has11 with
   | false =>
    refine rk boxes [⟨15, false, [(vS val12), (vS ⟨#[]⟩)], [], (vB (!(eqS val12 ⟨#[]⟩))), []⟩] [0, 2, 3, 4, 6, 7, 8, 34] [4] ⟨49, [(0, (vD (List.map encOp l))), (2, (vI 0)), (3, (vI (k2 : Int))), (4, (vL 4 0)), (6, (vD (List.map encOp l))), (7, (vI (List.length l : Int))), (8, (vI (k2 : Int))), (34, (vB (!(eqS val12 ⟨#[]⟩))))], [(4, (.cells 35 [(cS key10), (cB false), (cS val12)]))], []⟩ (by kernel_rfl) (.c (tri_str_neq) .n) ?_
    refine peel_seq ?_
    refine awp_cond (b := (!(eqS val12 ⟨#[]⟩))) rfl (fun hc16 => ?_) (fun hc16 => ?_)
    ·skip
     have hc16n : (eqS val12 ⟨#[]⟩) = false := by simpa using hc16
     have hc16np := eqS_false hc16n
     refine awp_seq ?_
     refine rk boxes [] [0, 2, 3, 4, 6, 7, 8] [4] ⟨49, [(0, (vD (List.map encOp l))), (2, (vI 21)), (3, (vI (k2 : Int))), (4, (vL 4 0)), (6, (vD (List.map encOp l))), (7, (vI (List.length l : Int))), (8, (vI (k2 : Int)))], [(4, (.cells 35 [(cS key10), (cB false), (cS val12)]))], []⟩ (by kernel_rfl) .n ?_
     refine peel_seq ?_
     have hE17 := hJ5
     rw [hd9] at hE17
     simp only [rightF, badV, hc14, hc16, hc16n, hc6, cond_true, cond_false, Bool.not_true, Bool.not_false] at hE17
     refine awp_ret ?_
     refine peel_seq_ret ?_
     refine peel_block_ret ?_
     refine peel_seq_ret ?_
     refine peel_seq_ret ?_
     refine peel_block_ret ?_
     refine peel_seq_ret ?_
     exact ends_ret rfl (show some ((vI 21) : SV) = some ((vI (rightF l [])) : SV) from by first | rfl | ((try simp only [cond_true, cond_false, Bool.not_true, Bool.not_false] at hE17); (first | (simp only [hc14, hc16, hc16n, hc6, ← hE17, cond_true, cond_false, Bool.not_true, Bool.not_false, List.map_nil]; done) | (simp only [rightF, badV, hc14, hc16, hc16n, hc6, ← hE17, cond_true, cond_false, Bool.not_true, Bool.not_false, List.map_nil])))) rfl
    ·skip
     have hc16n : (eqS val12 ⟨#[]⟩) = true := by simpa using hc16
     have hc16np := eqS_true hc16n
     refine awp_skip ?_
     refine peel_seq ?_
     refine awp_seq ?_
     refine rk boxes [] [0, 2, 4, 6, 7, 8, 35, 36] [4] ⟨49, [(0, (vD (List.map encOp l))), (2, (vI 0)), (4, (vL 4 0)), (6, (vD (List.map encOp l))), (7, (vI (List.length l : Int))), (8, (vI (k2 : Int))), (35, (vI (k2 : Int))), (36, (vI 0))], [(4, (.cells 35 [(cS key10), (cB false), (cS val12)]))], []⟩ (by kernel_rfl) .n ?_
     refine peel_seq ?_
     refine awp_block ?_
     refine awp_loopP (ι := Nat) (fun x => ⟨49, [(0, (vD (List.map encOp l))), (2, (vI 0)), (4, (vL 4 0)), (6, (vD (List.map encOp l))), (7, (vI (List.length l : Int))), (8, (vI (k2 : Int))), (35, (vI (k2 : Int))), (36, (vI (x : Int)))], [(4, (.cells 35 [(cS key10), (cB false), (cS val12)]))], []⟩) (fun x => x ≤ k2 ∧ hasK (((List.take k2 l).map AOp.key).drop x) key10 = hasK ((List.take k2 l).map AOp.key) key10) (fun x => k2 - x) 0 rfl ⟨Nat.zero_le _, rfl⟩ ?_
     rintro x18 ⟨hk19, hJ20⟩
     refine awp_seq ?_
     refine rk boxes [] [0, 2, 4, 6, 7, 8, 35, 36, 37] [4] ⟨49, [(0, (vD (List.map encOp l))), (2, (vI 0)), (4, (vL 4 0)), (6, (vD (List.map encOp l))), (7, (vI (List.length l : Int))), (8, (vI (k2 : Int))), (35, (vI (k2 : Int))), (36, (vI (x18 : Int))), (37, (vB (decide ((x18 : Int) < (k2 : Int)))))], [(4, (.cells 35 [(cS key10), (cB false), (cS val12)]))], []⟩ (by kernel_rfl) .n ?_
     refine peel_seq ?_
     refine awp_seq ?_
     refine awp_cond (b := (decide ((x18 : Int) < (k2 : Int)))) rfl (fun hc21 => ?_) (fun hc21 => ?_)
     ·skip
      have hc21p := of_decide_eq_true hc21
      refine awp_skip ?_
      refine peel_seq ?_
      refine awp_seq ?_
      refine awp_block ?_
      refine awp_seq ?_
      refine rk boxes [] [0, 2, 4, 5, 6, 7, 8, 35, 36] [4] ⟨49, [(0, (vD (List.map encOp l))), (2, (vI 0)), (4, (vL 4 0)), (5, (vI (x18 : Int))), (6, (vD (List.map encOp l))), (7, (vI (List.length l : Int))), (8, (vI (k2 : Int))), (35, (vI (k2 : Int))), (36, (vI (x18 : Int)))], [(4, (.cells 35 [(cS key10), (cB false), (cS val12)]))], []⟩ (by kernel_rfl) .n ?_
      refine peel_seq ?_
      refine awp_seq ?_
      obtain ⟨⟨key25, has26, val27⟩, ha23, hd24⟩ := at_drop (l := l) (k := x18) (by (try simp only [List.length_map] at *); omega)
      have hm28 := hs (AOp.mk key25 has26 val27) (List.mem_of_getElem? ha23)
      refine rk boxes [⟨2, false, [(vD (List.map encOp l)), (vI (x18 : Int))], [], (vT (dP [(dS key25), (dB has26), (dS val27)])), []⟩, ⟨7, false, [(vS key25), (vS key10)], [], (vB (eqS key25 key10)), []⟩] [0, 2, 4, 6, 7, 8, 35, 36, 46] [4] ⟨49, [(0, (vD (List.map encOp l))), (2, (vI 0)), (4, (vL 4 0)), (6, (vD (List.map encOp l))), (7, (vI (List.length l : Int))), (8, (vI (k2 : Int))), (35, (vI (k2 : Int))), (36, (vI (x18 : Int))), (46, (vB (eqS key25 key10)))], [(4, (.cells 35 [(cS key10), (cB false), (cS val12)]))], []⟩ (by kernel_rfl) (.c (tri_index_sl (e := 35) (sz := 3) (bytes := 40) (i := x18) tab_ok rfl (at_map encOp ha23) (all_map fun _ => rfl)) (.c (tri_str_eql) .n)) ?_
      refine peel_seq ?_
      refine awp_cond (b := (eqS key25 key10)) rfl (fun hc29 => ?_) (fun hc29 => ?_)
      ·skip
       have hc29p := eqS_true hc29
       refine awp_seq ?_
       refine rk boxes [] [0, 2, 4, 6, 7, 8, 35, 36] [4] ⟨49, [(0, (vD (List.map encOp l))), (2, (vI 61)), (4, (vL 4 0)), (6, (vD (List.map encOp l))), (7, (vI (List.length l : Int))), (8, (vI (k2 : Int))), (35, (vI (k2 : Int))), (36, (vI (x18 : Int)))], [(4, (.cells 35 [(cS key10), (cB false), (cS val12)]))], []⟩ (by kernel_rfl) .n ?_
       refine peel_seq ?_
       have hE30 : hasK ((List.take k2 l).map AOp.key) key10 = true := by rw [← hJ20, hasK_keys (by omega) ha23, hc29]; rfl
       have hE31 := hJ5
       rw [hd9] at hE31
       simp only [rightF, badV, hE30, hc14, hc16, hc16n, hc21, hc29, hc6, cond_true, cond_false, Bool.not_true, Bool.not_false] at hE31
       refine awp_ret ?_
       refine peel_block_ret ?_
       refine peel_seq_ret ?_
       refine peel_seq_ret ?_
       refine peel_block_ret ?_
       refine peel_block_ret ?_
       refine peel_seq_ret ?_
       refine peel_seq_ret ?_
       refine peel_block_ret ?_
       refine peel_seq_ret ?_
       exact ends_ret rfl (show some ((vI 61) : SV) = some ((vI (rightF l [])) : SV) from by first | rfl | ((try simp only [cond_true, cond_false, Bool.not_true, Bool.not_false] at hE31); (first | (simp only [hE30, hc14, hc16, hc16n, hc21, hc29, hc6, ← hE31, cond_true, cond_false, Bool.not_true, Bool.not_false, List.map_nil]; done) | (simp only [rightF, badV, hE30, hc14, hc16, hc16n, hc21, hc29, hc6, ← hE31, cond_true, cond_false, Bool.not_true, Bool.not_false, List.map_nil])))) rfl
      ·skip
       have hc29p := eqS_false hc29
       refine q_keep [0, 2, 4, 6, 7, 8, 35, 36] [4] ?_
       refine awp_skip ?_
       refine peel_block ?_
       refine peel_seq ?_
       refine rk boxes [⟨0, false, [(vI (x18 : Int)), (vI 1)], [], (vI ((x18 : Int) + 1)), []⟩] [0, 2, 4, 6, 7, 8, 35, 36] [4] ⟨49, [(0, (vD (List.map encOp l))), (2, (vI 0)), (4, (vL 4 0)), (6, (vD (List.map encOp l))), (7, (vI (List.length l : Int))), (8, (vI (k2 : Int))), (35, (vI (k2 : Int))), (36, (vI ((x18 : Int) + 1)))], [(4, (.cells 35 [(cS key10), (cB false), (cS val12)]))], []⟩ (by kernel_rfl) (.c (tri_int ((x18 : Int) + 1) (wrap_i64 (by omega))) .n) ?_
       exact peel_round (x18 + 1) rfl ⟨by omega, by have hj := hJ20; rw [hasK_keys (by omega) ha23, hc29] at hj; simpa using hj⟩ (by omega)
     ·skip
      have hc21p := of_decide_eq_false hc21
      have hE32 : hasK ((List.take k2 l).map AOp.key) key10 = false := by rw [← hJ20, hasK_end (by omega)]
      refine awp_exit ?_
      refine peel_seq_exit ?_
      refine peel_seq_exit ?_
      refine peel_hit ?_
      refine peel_block ?_
      refine peel_seq ?_
      refine rk boxes [⟨0, false, [(vI (k2 : Int)), (vI 1)], [], (vI ((k2 : Int) + 1)), []⟩] [0, 2, 6, 7, 8] [] ⟨49, [(0, (vD (List.map encOp l))), (2, (vI 0)), (6, (vD (List.map encOp l))), (7, (vI (List.length l : Int))), (8, (vI ((k2 : Int) + 1)))], [], []⟩ (by kernel_rfl) (.c (tri_int ((k2 : Int) + 1) (wrap_i64 (by omega))) .n) ?_
      exact peel_round (k2 + 1) rfl ⟨by (try simp only [List.length_map] at *); omega, trivial, by have hj := hJ5; rw [hd9] at hj; rw [keys_snoc ha8]; simp only [rightF, badV, hE32, hc14, hc16, hc16n, hc21, hc6, cond_true, cond_false, Bool.not_true, Bool.not_false] at hj ⊢; exact hj⟩ (by (try simp only [List.length_map] at *); omega)
   | true =>
    cases hb33 : ((valE val12) != 0) with
    | false =>
     have hb33p : (valE val12) = 0 := by simpa using hb33
     refine rk boxes [⟨5, false, [(sc (.func (.func 61) #[] #[])), (vS val12)], [], (vI (valE val12)), []⟩, ⟨6, false, [(vI (valE val12)), (vI 0)], [], (vB false), []⟩] [0, 2, 3, 4, 6, 7, 8, 34] [4] ⟨49, [(0, (vD (List.map encOp l))), (2, (vI 0)), (3, (vI (k2 : Int))), (4, (vL 4 0)), (6, (vD (List.map encOp l))), (7, (vI (List.length l : Int))), (8, (vI (k2 : Int))), (34, (vB false))], [(4, (.cells 35 [(cS key10), (cB true), (cS val12)]))], []⟩ (by kernel_rfl) (.c (tri_call (f_Value val12 (by (simp only [AOp.small] at *); omega))) (.c (tri_scalar_eq [(.int .i64 (valE val12)), (.int .i64 0)] (.bool ((valE val12) != 0)) rfl rfl rfl (by kernel_rfl) (congrArg Value.bool hb33)) .n)) ?_
     refine peel_seq ?_
     refine awp_false rfl ?_
     refine awp_skip ?_
     refine peel_seq ?_
     refine awp_seq ?_
     refine rk boxes [] [0, 2, 4, 6, 7, 8, 35, 36] [4] ⟨49, [(0, (vD (List.map encOp l))), (2, (vI 0)), (4, (vL 4 0)), (6, (vD (List.map encOp l))), (7, (vI (List.length l : Int))), (8, (vI (k2 : Int))), (35, (vI (k2 : Int))), (36, (vI 0))], [(4, (.cells 35 [(cS key10), (cB true), (cS val12)]))], []⟩ (by kernel_rfl) .n ?_
     refine peel_seq ?_
     refine awp_block ?_
     refine awp_loopP (ι := Nat) (fun x => ⟨49, [(0, (vD (List.map encOp l))), (2, (vI 0)), (4, (vL 4 0)), (6, (vD (List.map encOp l))), (7, (vI (List.length l : Int))), (8, (vI (k2 : Int))), (35, (vI (k2 : Int))), (36, (vI (x : Int)))], [(4, (.cells 35 [(cS key10), (cB true), (cS val12)]))], []⟩) (fun x => x ≤ k2 ∧ hasK (((List.take k2 l).map AOp.key).drop x) key10 = hasK ((List.take k2 l).map AOp.key) key10) (fun x => k2 - x) 0 rfl ⟨Nat.zero_le _, rfl⟩ ?_
     rintro x34 ⟨hk35, hJ36⟩
     refine awp_seq ?_
     refine rk boxes [] [0, 2, 4, 6, 7, 8, 35, 36, 37] [4] ⟨49, [(0, (vD (List.map encOp l))), (2, (vI 0)), (4, (vL 4 0)), (6, (vD (List.map encOp l))), (7, (vI (List.length l : Int))), (8, (vI (k2 : Int))), (35, (vI (k2 : Int))), (36, (vI (x34 : Int))), (37, (vB (decide ((x34 : Int) < (k2 : Int)))))], [(4, (.cells 35 [(cS key10), (cB true), (cS val12)]))], []⟩ (by kernel_rfl) .n ?_
     refine peel_seq ?_
     refine awp_seq ?_
     refine awp_cond (b := (decide ((x34 : Int) < (k2 : Int)))) rfl (fun hc37 => ?_) (fun hc37 => ?_)
     ·skip
      have hc37p := of_decide_eq_true hc37
      refine awp_skip ?_
      refine peel_seq ?_
      refine awp_seq ?_
      refine awp_block ?_
      refine awp_seq ?_
      refine rk boxes [] [0, 2, 4, 5, 6, 7, 8, 35, 36] [4] ⟨49, [(0, (vD (List.map encOp l))), (2, (vI 0)), (4, (vL 4 0)), (5, (vI (x34 : Int))), (6, (vD (List.map encOp l))), (7, (vI (List.length l : Int))), (8, (vI (k2 : Int))), (35, (vI (k2 : Int))), (36, (vI (x34 : Int)))], [(4, (.cells 35 [(cS key10), (cB true), (cS val12)]))], []⟩ (by kernel_rfl) .n ?_
      refine peel_seq ?_
      refine awp_seq ?_
      obtain ⟨⟨key41, has42, val43⟩, ha39, hd40⟩ := at_drop (l := l) (k := x34) (by (try simp only [List.length_map] at *); omega)
      have hm44 := hs (AOp.mk key41 has42 val43) (List.mem_of_getElem? ha39)
      refine rk boxes [⟨2, false, [(vD (List.map encOp l)), (vI (x34 : Int))], [], (vT (dP [(dS key41), (dB has42), (dS val43)])), []⟩, ⟨7, false, [(vS key41), (vS key10)], [], (vB (eqS key41 key10)), []⟩] [0, 2, 4, 6, 7, 8, 35, 36, 46] [4] ⟨49, [(0, (vD (List.map encOp l))), (2, (vI 0)), (4, (vL 4 0)), (6, (vD (List.map encOp l))), (7, (vI (List.length l : Int))), (8, (vI (k2 : Int))), (35, (vI (k2 : Int))), (36, (vI (x34 : Int))), (46, (vB (eqS key41 key10)))], [(4, (.cells 35 [(cS key10), (cB true), (cS val12)]))], []⟩ (by kernel_rfl) (.c (tri_index_sl (e := 35) (sz := 3) (bytes := 40) (i := x34) tab_ok rfl (at_map encOp ha39) (all_map fun _ => rfl)) (.c (tri_str_eql) .n)) ?_
      refine peel_seq ?_
      refine awp_cond (b := (eqS key41 key10)) rfl (fun hc45 => ?_) (fun hc45 => ?_)
      ·skip
       have hc45p := eqS_true hc45
       refine awp_seq ?_
       refine rk boxes [] [0, 2, 4, 6, 7, 8, 35, 36] [4] ⟨49, [(0, (vD (List.map encOp l))), (2, (vI 61)), (4, (vL 4 0)), (6, (vD (List.map encOp l))), (7, (vI (List.length l : Int))), (8, (vI (k2 : Int))), (35, (vI (k2 : Int))), (36, (vI (x34 : Int)))], [(4, (.cells 35 [(cS key10), (cB true), (cS val12)]))], []⟩ (by kernel_rfl) .n ?_
       refine peel_seq ?_
       have hE46 : hasK ((List.take k2 l).map AOp.key) key10 = true := by rw [← hJ36, hasK_keys (by omega) ha39, hc45]; rfl
       have hE47 := hJ5
       rw [hd9] at hE47
       simp only [rightF, badV, hE46, hb33, hc14, hc37, hc45, hc6, cond_true, cond_false, Bool.not_true, Bool.not_false] at hE47
       refine awp_ret ?_
       refine peel_block_ret ?_
       refine peel_seq_ret ?_
       refine peel_seq_ret ?_
       refine peel_block_ret ?_
       refine peel_block_ret ?_
       refine peel_seq_ret ?_
       refine peel_seq_ret ?_
       refine peel_block_ret ?_
       refine peel_seq_ret ?_
       exact ends_ret rfl (show some ((vI 61) : SV) = some ((vI (rightF l [])) : SV) from by first | rfl | ((try simp only [cond_true, cond_false, Bool.not_true, Bool.not_false] at hE47); (first | (simp only [hE46, hb33, hc14, hc37, hc45, hc6, ← hE47, cond_true, cond_false, Bool.not_true, Bool.not_false, List.map_nil]; done) | (simp only [rightF, badV, hE46, hb33, hc14, hc37, hc45, hc6, ← hE47, cond_true, cond_false, Bool.not_true, Bool.not_false, List.map_nil])))) rfl
      ·skip
       have hc45p := eqS_false hc45
       refine q_keep [0, 2, 4, 6, 7, 8, 35, 36] [4] ?_
       refine awp_skip ?_
       refine peel_block ?_
       refine peel_seq ?_
       refine rk boxes [⟨0, false, [(vI (x34 : Int)), (vI 1)], [], (vI ((x34 : Int) + 1)), []⟩] [0, 2, 4, 6, 7, 8, 35, 36] [4] ⟨49, [(0, (vD (List.map encOp l))), (2, (vI 0)), (4, (vL 4 0)), (6, (vD (List.map encOp l))), (7, (vI (List.length l : Int))), (8, (vI (k2 : Int))), (35, (vI (k2 : Int))), (36, (vI ((x34 : Int) + 1)))], [(4, (.cells 35 [(cS key10), (cB true), (cS val12)]))], []⟩ (by kernel_rfl) (.c (tri_int ((x34 : Int) + 1) (wrap_i64 (by omega))) .n) ?_
       exact peel_round (x34 + 1) rfl ⟨by omega, by have hj := hJ36; rw [hasK_keys (by omega) ha39, hc45] at hj; simpa using hj⟩ (by omega)
     ·skip
      have hc37p := of_decide_eq_false hc37
      have hE48 : hasK ((List.take k2 l).map AOp.key) key10 = false := by rw [← hJ36, hasK_end (by omega)]
      refine awp_exit ?_
      refine peel_seq_exit ?_
      refine peel_seq_exit ?_
      refine peel_hit ?_
      refine peel_block ?_
      refine peel_seq ?_
      refine rk boxes [⟨0, false, [(vI (k2 : Int)), (vI 1)], [], (vI ((k2 : Int) + 1)), []⟩] [0, 2, 6, 7, 8] [] ⟨49, [(0, (vD (List.map encOp l))), (2, (vI 0)), (6, (vD (List.map encOp l))), (7, (vI (List.length l : Int))), (8, (vI ((k2 : Int) + 1)))], [], []⟩ (by kernel_rfl) (.c (tri_int ((k2 : Int) + 1) (wrap_i64 (by omega))) .n) ?_
      exact peel_round (k2 + 1) rfl ⟨by (try simp only [List.length_map] at *); omega, trivial, by have hj := hJ5; rw [hd9] at hj; rw [keys_snoc ha8]; simp only [rightF, badV, hE48, hb33, hc14, hc37, hc6, cond_true, cond_false, Bool.not_true, Bool.not_false] at hj ⊢; exact hj⟩ (by (try simp only [List.length_map] at *); omega)
    | true =>
     have hb33p : (valE val12) ≠ 0 := by simpa using hb33
     refine rk boxes [⟨5, false, [(sc (.func (.func 61) #[] #[])), (vS val12)], [], (vI (valE val12)), []⟩, ⟨6, false, [(vI (valE val12)), (vI 0)], [], (vB true), []⟩] [0, 2, 3, 4, 6, 7, 8, 34] [4] ⟨49, [(0, (vD (List.map encOp l))), (2, (vI 0)), (3, (vI (k2 : Int))), (4, (vL 4 0)), (6, (vD (List.map encOp l))), (7, (vI (List.length l : Int))), (8, (vI (k2 : Int))), (34, (vB true))], [(4, (.cells 35 [(cS key10), (cB true), (cS val12)]))], []⟩ (by kernel_rfl) (.c (tri_call (f_Value val12 (by (simp only [AOp.small] at *); omega))) (.c (tri_scalar_eq [(.int .i64 (valE val12)), (.int .i64 0)] (.bool ((valE val12) != 0)) rfl rfl rfl (by kernel_rfl) (congrArg Value.bool hb33)) .n)) ?_
     refine peel_seq ?_
     refine awp_true rfl ?_
     refine awp_seq ?_
     refine rk boxes [] [0, 2, 3, 4, 6, 7, 8] [4] ⟨49, [(0, (vD (List.map encOp l))), (2, (vI 21)), (3, (vI (k2 : Int))), (4, (vL 4 0)), (6, (vD (List.map encOp l))), (7, (vI (List.length l : Int))), (8, (vI (k2 : Int)))], [(4, (.cells 35 [(cS key10), (cB true), (cS val12)]))], []⟩ (by kernel_rfl) .n ?_
     refine peel_seq ?_
     have hE49 := hJ5
     rw [hd9] at hE49
     simp only [rightF, badV, hb33, hc14, hc6, cond_true, cond_false, Bool.not_true, Bool.not_false] at hE49
     refine awp_ret ?_
     refine peel_seq_ret ?_
     refine peel_block_ret ?_
     refine peel_seq_ret ?_
     refine peel_seq_ret ?_
     refine peel_block_ret ?_
     refine peel_seq_ret ?_
     exact ends_ret rfl (show some ((vI 21) : SV) = some ((vI (rightF l [])) : SV) from by first | rfl | ((try simp only [cond_true, cond_false, Bool.not_true, Bool.not_false] at hE49); (first | (simp only [hb33, hc14, hc6, ← hE49, cond_true, cond_false, Bool.not_true, Bool.not_false, List.map_nil]; done) | (simp only [rightF, badV, hb33, hc14, hc6, ← hE49, cond_true, cond_false, Bool.not_true, Bool.not_false, List.map_nil])))) rfl
 ·skip
  have hc6p := of_decide_eq_false hc6
  have hE50 := hJ5
  rw [at_end (l := l) (by (try simp only [List.length_map] at *); omega)] at hE50
  simp only [rightF, badV, hc6, cond_true, cond_false, Bool.not_true, Bool.not_false] at hE50
  refine awp_exit ?_
  refine peel_seq_exit ?_
  refine peel_seq_exit ?_
  refine peel_hit ?_
  refine peel_seq ?_
  refine awp_seq ?_
  refine rk boxes [] [2] [] ⟨49, [(2, (vI 0))], [], []⟩ (by kernel_rfl) .n ?_
  refine peel_seq ?_
  refine awp_ret ?_
  exact ends_ret rfl (show some ((vI 0) : SV) = some ((vI (rightF l [])) : SV) from by first | rfl | ((try simp only [cond_true, cond_false, Bool.not_true, Bool.not_false] at hE50); (first | (simp only [hc6, ← hE50, cond_true, cond_false, Bool.not_true, Bool.not_false, List.map_nil]; done) | (simp only [rightF, badV, hc6, ← hE50, cond_true, cond_false, Bool.not_true, Bool.not_false, List.map_nil])))) rfl
end Go.Proofs.Ytjbiaoajmdbigaa
