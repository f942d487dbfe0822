/- Walks of package kv: Do, Set, Clone. -/
import Derived.Test.YtjbiaoajmdbigaaKv2
set_option maxRecDepth 100000
set_option linter.unusedVariables false
set_option linter.unusedSimpArgs false
namespace Go.Proofs.Ytjbiaoajmdbigaa
open Go Go.E
theorem k_Do (t : Tr) (p : Int) (conds ops : List AOp) (hs : t.size ≤ 1000) : Sat Try.prog 15 [(vL 5000 0), (vI p), (vD (List.map encOp conds)), (vD (List.map encOp ops))] [(5000, (.cells 51 [(.d (dP [(encT t)]))]))] (.tup [(.c (cD (List.map encEv ((planM t p conds ops).1)))), (.c (cI (planM t p conds ops).2))]) [(5000, (.cells 51 [(.d (dP [(encT (doT t p conds ops))]))]))] := by
 refine sat_of_body tab_ok Try.func15 rfl (by kernel_rfl) (Nat.le_of_ble_eq_true rfl) rfl fun G => ?_
 refine awp_seq ?_
 refine rk boxes [] [0, 1, 2, 3, 8, 9] [5000] ⟨27, [(0, (vL 5000 0)), (1, (vI p)), (2, (vD (List.map encOp conds))), (3, (vD (List.map encOp ops))), (8, (sc (.slice none 0 0))), (9, (vI 0))], [(5000, (.cells 51 [(.d (dP [(encT t)]))]))], [5000]⟩ (by kernel_rfl) .n ?_
 refine peel_seq ?_
 refine awp_seq ?_
 refine rk boxes [⟨4, true, [(sc (.func (.func 19) #[] #[])), (vL 5000 0), (vI p), (vD (List.map encOp conds)), (vD (List.map encOp ops))], [(5000, (.cells 51 [(.d (dP [(encT t)]))]))], (.tup [(.c (cD (List.map encEv ((planM t p conds ops).1)))), (.c (cI (planM t p conds ops).2))]), []⟩] [0, 8, 9, 10, 11] [5000] ⟨27, [(0, (vL 5000 0)), (8, (sc (.slice none 0 0))), (9, (vI 0)), (10, (vD (List.map encEv ((planM t p conds ops).1)))), (11, (vI (planM t p conds ops).2))], [(5000, (.cells 51 [(.d (dP [(encT t)]))]))], [5000]⟩ (by kernel_rfl) (.c (tri_call (k_Plan t p conds ops (by first | omega | (have := planM_len t p conds ops; omega)))) .n) ?_
 refine peel_seq ?_
 refine awp_seq ?_
 refine awp_seq ?_
 refine rk boxes [] [0, 8, 9, 10, 11, 21] [5000] ⟨27, [(0, (vL 5000 0)), (8, (sc (.slice none 0 0))), (9, (vI 0)), (10, (vD (List.map encEv ((planM t p conds ops).1)))), (11, (vI (planM t p conds ops).2)), (21, (vB ((planM t p conds ops).2 == 0)))], [(5000, (.cells 51 [(.d (dP [(encT t)]))]))], [5000]⟩ (by kernel_rfl) .n ?_
 refine peel_seq ?_
 refine awp_cond (b := ((planM t p conds ops).2 == 0)) rfl (fun hc1 => ?_) (fun hc1 => ?_)
 ·skip
  have hc1p : (planM t p conds ops).2 = 0 := by simpa using hc1
  refine rk boxes [⟨2, false, [(sc (.func (.func 21) #[] #[])), (vL 5000 0), (vD (List.map encEv ((planM t p conds ops).1)))], [(5000, (.cells 51 [(.d (dP [(encT t)]))]))], (.tup []), [(5000, (.cells 51 [(.d (dP [(encT (takeF t ((planM t p conds ops).1)))]))]))]⟩] [8, 9, 10, 11] [5000] ⟨27, [(8, (sc (.slice none 0 0))), (9, (vI 0)), (10, (vD (List.map encEv ((planM t p conds ops).1)))), (11, (vI (planM t p conds ops).2))], [(5000, (.cells 51 [(.d (dP [(encT (takeF t ((planM t p conds ops).1)))]))]))], [5000]⟩ (by kernel_rfl) (.c (tri_call (k_Take t ((planM t p conds ops).1) (by first | omega | (have := planM_len t p conds ops; omega)))) .n) ?_
  refine peel_seq ?_
  refine awp_seq ?_
  refine rk boxes [] [8, 9] [5000] ⟨27, [(8, (vD (List.map encEv ((planM t p conds ops).1)))), (9, (vI (planM t p conds ops).2))], [(5000, (.cells 51 [(.d (dP [(encT (takeF t ((planM t p conds ops).1)))]))]))], [5000]⟩ (by kernel_rfl) .n ?_
  refine peel_seq ?_
  refine awp_ret ?_
  exact ends_ret rfl rfl (show some ([(5000, (.cells 51 [(.d (dP [(encT (takeF t ((planM t p conds ops).1)))]))]))] : Objs) = some ([(5000, (.cells 51 [(.d (dP [(encT (doT t p conds ops))]))]))] : Objs) from by first | rfl | ((first | (simp only [hc1, cond_true, cond_false, Bool.not_true, Bool.not_false, List.map_nil]; done) | (simp only [doT, hc1, cond_true, cond_false, Bool.not_true, Bool.not_false, List.map_nil]))))
 ·skip
  have hc1p : (planM t p conds ops).2 ≠ 0 := by simpa using hc1
  refine awp_skip ?_
  refine peel_seq ?_
  refine awp_seq ?_
  refine rk boxes [] [8, 9] [5000] ⟨27, [(8, (vD (List.map encEv ((planM t p conds ops).1)))), (9, (vI (planM t p conds ops).2))], [(5000, (.cells 51 [(.d (dP [(encT t)]))]))], [5000]⟩ (by kernel_rfl) .n ?_
  refine peel_seq ?_
  refine awp_ret ?_
  exact ends_ret rfl rfl (show some ([(5000, (.cells 51 [(.d (dP [(encT t)]))]))] : Objs) = some ([(5000, (.cells 51 [(.d (dP [(encT (doT t p conds ops))]))]))] : Objs) from by first | rfl | ((first | (simp only [hc1, cond_true, cond_false, Bool.not_true, Bool.not_false, List.map_nil]; done) | (simp only [doT, hc1, cond_true, cond_false, Bool.not_true, Bool.not_false, List.map_nil]))))
theorem k_Do_nil (p : Int) (conds ops : List AOp) : Sat Try.prog 15 [(sc (.pointer none)), (vI p), (vD (List.map encOp conds)), (vD (List.map encOp ops))] [] (.tup [(.c (cD [])), (.c (cI 6))]) [] := by
 refine sat_of_body tab_ok Try.func15 rfl (by kernel_rfl) (Nat.le_of_ble_eq_true rfl) rfl fun G => ?_
 refine awp_seq ?_
 refine rk boxes [] [0, 1, 2, 3, 8, 9] [] ⟨27, [(0, (sc (.pointer none))), (1, (vI p)), (2, (vD (List.map encOp conds))), (3, (vD (List.map encOp ops))), (8, (sc (.slice none 0 0))), (9, (vI 0))], [], []⟩ (by kernel_rfl) .n ?_
 refine peel_seq ?_
 refine awp_seq ?_
 refine rk boxes [⟨4, false, [(sc (.func (.func 19) #[] #[])), (sc (.pointer none)), (vI p), (vD (List.map encOp conds)), (vD (List.map encOp ops))], [], (.tup [(.c (cD [])), (.c (cI 6))]), []⟩] [0, 8, 9, 10, 11] [] ⟨27, [(0, (sc (.pointer none))), (8, (sc (.slice none 0 0))), (9, (vI 0)), (10, (vD [])), (11, (vI 6))], [], []⟩ (by kernel_rfl) (.c (tri_call (k_Plan_nil p conds ops)) .n) ?_
 refine peel_seq ?_
 refine awp_seq ?_
 refine awp_seq ?_
 refine rk boxes [] [0, 8, 9, 10, 11, 21] [] ⟨27, [(0, (sc (.pointer none))), (8, (sc (.slice none 0 0))), (9, (vI 0)), (10, (vD [])), (11, (vI 6)), (21, (vB false))], [], []⟩ (by kernel_rfl) .n ?_
 refine peel_seq ?_
 refine awp_false rfl ?_
 refine awp_skip ?_
 refine peel_seq ?_
 refine awp_seq ?_
 refine rk boxes [] [8, 9] [] ⟨27, [(8, (vD [])), (9, (vI 6))], [], []⟩ (by kernel_rfl) .n ?_
 refine peel_seq ?_
 refine awp_ret ?_
 exact ends_ret rfl rfl rfl
theorem k_Do_zero (p : Int) (conds ops : List AOp) : Sat Try.prog 15 [(vT (dP [(.v (.pointer none))])), (vI p), (vD (List.map encOp conds)), (vD (List.map encOp ops))] [] (.tup [(.c (cD [])), (.c (cI 6))]) [] := by
 refine sat_of_body tab_ok Try.func15 rfl (by kernel_rfl) (Nat.le_of_ble_eq_true rfl) rfl fun G => ?_
 refine awp_seq ?_
 refine rk boxes [] [0, 1, 2, 3, 8, 9] [] ⟨27, [(0, (vT (dP [(.v (.pointer none))]))), (1, (vI p)), (2, (vD (List.map encOp conds))), (3, (vD (List.map encOp ops))), (8, (sc (.slice none 0 0))), (9, (vI 0))], [], []⟩ (by kernel_rfl) .n ?_
 refine peel_seq ?_
 refine awp_seq ?_
 refine rk boxes [⟨4, false, [(sc (.func (.func 19) #[] #[])), (vT (dP [(.v (.pointer none))])), (vI p), (vD (List.map encOp conds)), (vD (List.map encOp ops))], [], (.tup [(.c (cD [])), (.c (cI 6))]), []⟩] [0, 8, 9, 10, 11] [] ⟨27, [(0, (vT (dP [(.v (.pointer none))]))), (8, (sc (.slice none 0 0))), (9, (vI 0)), (10, (vD [])), (11, (vI 6))], [], []⟩ (by kernel_rfl) (.c (tri_call (k_Plan_zero p conds ops)) .n) ?_
 refine peel_seq ?_
 refine awp_seq ?_
 refine awp_seq ?_
 refine rk boxes [] [0, 8, 9, 10, 11, 21] [] ⟨27, [(0, (vT (dP [(.v (.pointer none))]))), (8, (sc (.slice none 0 0))), (9, (vI 0)), (10, (vD [])), (11, (vI 6)), (21, (vB false))], [], []⟩ (by kernel_rfl) .n ?_
 refine peel_seq ?_
 refine awp_false rfl ?_
 refine awp_skip ?_
 refine peel_seq ?_
 refine awp_seq ?_
 refine rk boxes [] [8, 9] [] ⟨27, [(8, (vD [])), (9, (vI 6))], [], []⟩ (by kernel_rfl) .n ?_
 refine peel_seq ?_
 refine awp_ret ?_
 exact ends_ret rfl rfl rfl
theorem k_Set (t : Tr) (l : List AOp) (hs : t.size ≤ 1000) : Sat Try.prog 18 [(vL 5000 0), (vD (List.map encOp l))] [(5000, (.cells 51 [(.d (dP [(encT t)]))]))] (vI (setM t l).2) [(5000, (.cells 51 [(.d (dP [(encT ((setM t l).1))]))]))] := by
 refine sat_of_body tab_ok Try.func18 rfl (by kernel_rfl) (Nat.le_of_ble_eq_true rfl) rfl fun G => ?_
 refine awp_seq ?_
 refine rk boxes [] [0, 1, 4] [5000] ⟨41, [(0, (vL 5000 0)), (1, (vD (List.map encOp l))), (4, (vI 0))], [(5000, (.cells 51 [(.d (dP [(encT t)]))]))], [5000]⟩ (by kernel_rfl) .n ?_
 refine peel_seq ?_
 refine awp_seq ?_
 refine awp_seq ?_
 refine rk boxes [⟨1, true, [(sc (.func (.func 42) #[] #[])), (vL 5000 0)], [(5000, (.cells 51 [(.d (dP [(encT t)]))]))], (vB true), []⟩] [0, 1, 4, 11] [5000] ⟨41, [(0, (vL 5000 0)), (1, (vD (List.map encOp l))), (4, (vI 0)), (11, (vB false))], [(5000, (.cells 51 [(.d (dP [(encT t)]))]))], [5000]⟩ (by kernel_rfl) (.c (tri_call (k_made t)) .n) ?_
 refine peel_seq ?_
 refine awp_false rfl ?_
 refine awp_skip ?_
 refine peel_seq ?_
 refine awp_seq ?_
 refine awp_seq ?_
 refine rk boxes [⟨1, true, [(vD (List.map encOp l))], [], (vI (List.length l : Int)), []⟩] [0, 1, 4, 14] [5000] ⟨41, [(0, (vL 5000 0)), (1, (vD (List.map encOp l))), (4, (vI 0)), (14, (vB (decide ((List.length l : Int) > 24))))], [(5000, (.cells 51 [(.d (dP [(encT t)]))]))], [5000]⟩ (by kernel_rfl) (.c (tri_len_map tab_ok rfl) .n) ?_
 refine peel_seq ?_
 refine awp_cond (b := (decide ((List.length l : Int) > 24))) rfl (fun hc1 => ?_) (fun hc1 => ?_)
 ·skip
  have hc1p := of_decide_eq_true hc1
  refine awp_seq ?_
  refine rk boxes [] [0, 1, 4] [5000] ⟨41, [(0, (vL 5000 0)), (1, (vD (List.map encOp l))), (4, (vI 7))], [(5000, (.cells 51 [(.d (dP [(encT t)]))]))], [5000]⟩ (by kernel_rfl) .n ?_
  refine peel_seq ?_
  refine awp_ret ?_
  refine peel_seq_ret ?_
  exact ends_ret rfl (show some ((vI 7) : SV) = some ((vI (setM t l).2) : SV) from by first | rfl | ((first | (simp only [hc1, cond_true, cond_false, Bool.not_true, Bool.not_false, List.map_nil]; done) | (simp only [setM, hc1, cond_true, cond_false, Bool.not_true, Bool.not_false, List.map_nil])))) (show some ([(5000, (.cells 51 [(.d (dP [(encT t)]))]))] : Objs) = some ([(5000, (.cells 51 [(.d (dP [(encT ((setM t l).1))]))]))] : Objs) from by first | rfl | ((first | (simp only [hc1, cond_true, cond_false, Bool.not_true, Bool.not_false, List.map_nil]; done) | (simp only [setM, hc1, cond_true, cond_false, Bool.not_true, Bool.not_false, List.map_nil]))))
 ·skip
  have hc1p := of_decide_eq_false hc1
  refine awp_skip ?_
  refine peel_seq ?_
  refine awp_seq ?_
  refine awp_seq ?_
  refine rk boxes [⟨1, false, [(sc (.func (.func 45) #[] #[])), (vD (List.map encOp l))], [], (vI (rightF l [])), []⟩] [0, 1, 4, 5] [5000] ⟨41, [(0, (vL 5000 0)), (1, (vD (List.map encOp l))), (4, (vI 0)), (5, (vI (rightF l [])))], [(5000, (.cells 51 [(.d (dP [(encT t)]))]))], [5000]⟩ (by kernel_rfl) (.c (tri_call (k_right l)) .n) ?_
  refine peel_seq ?_
  refine awp_seq ?_
  refine rk boxes [] [0, 1, 4, 5, 18] [5000] ⟨41, [(0, (vL 5000 0)), (1, (vD (List.map encOp l))), (4, (vI 0)), (5, (vI (rightF l []))), (18, (vB ((rightF l []) != 0)))], [(5000, (.cells 51 [(.d (dP [(encT t)]))]))], [5000]⟩ (by kernel_rfl) .n ?_
  refine peel_seq ?_
  refine awp_cond (b := ((rightF l []) != 0)) rfl (fun hc2 => ?_) (fun hc2 => ?_)
  ·skip
   have hc2p : (rightF l []) ≠ 0 := by simpa using hc2
   refine awp_seq ?_
   refine rk boxes [] [0, 1, 4] [5000] ⟨41, [(0, (vL 5000 0)), (1, (vD (List.map encOp l))), (4, (vI (rightF l [])))], [(5000, (.cells 51 [(.d (dP [(encT t)]))]))], [5000]⟩ (by kernel_rfl) .n ?_
   refine peel_seq ?_
   refine awp_ret ?_
   refine peel_seq_ret ?_
   exact ends_ret rfl (show some ((vI (rightF l [])) : SV) = some ((vI (setM t l).2) : SV) from by first | rfl | ((first | (simp only [hc1, hc2, cond_true, cond_false, Bool.not_true, Bool.not_false, List.map_nil]; done) | (simp only [setM, hc1, hc2, cond_true, cond_false, Bool.not_true, Bool.not_false, List.map_nil])))) (show some ([(5000, (.cells 51 [(.d (dP [(encT t)]))]))] : Objs) = some ([(5000, (.cells 51 [(.d (dP [(encT ((setM t l).1))]))]))] : Objs) from by first | rfl | ((first | (simp only [hc1, hc2, cond_true, cond_false, Bool.not_true, Bool.not_false, List.map_nil]; done) | (simp only [setM, hc1, hc2, cond_true, cond_false, Bool.not_true, Bool.not_false, List.map_nil]))))
  ·skip
   have hc2p : (rightF l []) = 0 := by simpa using hc2
   refine awp_skip ?_
   refine peel_seq ?_
   refine awp_seq ?_
   refine rk boxes [⟨0, false, [(sc (.func (.func 46) #[] #[]))], [], (vT (dP [(encT (Tr.nil))])), []⟩] [0, 1, 4, 6] [5000] ⟨41, [(0, (vL 5000 0)), (1, (vD (List.map encOp l))), (4, (vI 0)), (6, (vT (dP [(encT (Tr.nil))])))], [(5000, (.cells 51 [(.d (dP [(encT t)]))]))], [5000]⟩ (by kernel_rfl) (.c (tri_call (s_TNew)) .n) ?_
   refine peel_seq ?_
   refine awp_seq ?_
   refine awp_seq ?_
   refine rk boxes [⟨1, true, [(vD (List.map encOp l))], [], (vI (List.length l : Int)), []⟩] [0, 4, 6, 21, 22, 23] [5000] ⟨41, [(0, (vL 5000 0)), (4, (vI 0)), (6, (vT (dP [(encT (Tr.nil))]))), (21, (vD (List.map encOp l))), (22, (vI (List.length l : Int))), (23, (vI 0))], [(5000, (.cells 51 [(.d (dP [(encT t)]))]))], [5000]⟩ (by kernel_rfl) (.c (tri_len_map tab_ok rfl) .n) ?_
   refine peel_seq ?_
   refine awp_block ?_
   refine awp_len 21 rfl (fun hlen3 => ?_)
   refine awp_loopP (ι := Nat × (Tr)) (fun x => ⟨41, [(0, (vL 5000 0)), (4, (vI 0)), (6, (vT (dP [(encT x.2)]))), (21, (vD (List.map encOp l))), (22, (vI (List.length l : Int))), (23, (vI (x.1 : Int)))], [(5000, (.cells 51 [(.d (dP [(encT t)]))]))], [5000]⟩) (fun x => x.1 ≤ List.length l ∧ (Tr.size x.2 ≤ x.1) ∧ setF x.2 (List.drop x.1 l) = setF Tr.nil l) (fun x => List.length l - x.1) (0, Tr.nil) rfl ⟨Nat.zero_le _, by simp [Tr.size], rfl⟩ ?_
   rintro ⟨k4, a5⟩ ⟨hk6, hx7, hJ8⟩
   try simp only at hk6 hx7 hJ8
   refine awp_seq ?_
   refine rk boxes [] [0, 4, 6, 21, 22, 23, 24] [5000] ⟨41, [(0, (vL 5000 0)), (4, (vI 0)), (6, (vT (dP [(encT a5)]))), (21, (vD (List.map encOp l))), (22, (vI (List.length l : Int))), (23, (vI (k4 : Int))), (24, (vB (decide ((k4 : Int) < (List.length l : Int)))))], [(5000, (.cells 51 [(.d (dP [(encT t)]))]))], [5000]⟩ (by kernel_rfl) .n ?_
   refine peel_seq ?_
   refine awp_seq ?_
   refine awp_cond (b := (decide ((k4 : Int) < (List.length l : Int)))) rfl (fun hc9 => ?_) (fun hc9 => ?_)
   ·skip
    have hc9p := of_decide_eq_true hc9
    refine awp_skip ?_
    refine peel_seq ?_
    refine awp_seq ?_
    refine awp_block ?_
    refine awp_seq ?_
    obtain ⟨⟨key13, has14, val15⟩, ha11, hd12⟩ := at_drop (l := l) (k := k4) (by (try simp only [List.length_map] at *); omega)
    refine rk boxes [⟨0, false, [(vD (List.map encOp l)), (vI (k4 : Int))], [], (vT (dP [(dS key13), (dB has14), (dS val15)])), []⟩] [0, 4, 6, 8, 21, 22, 23] [8, 5000] ⟨41, [(0, (vL 5000 0)), (4, (vI 0)), (6, (vT (dP [(encT a5)]))), (8, (vL 8 0)), (21, (vD (List.map encOp l))), (22, (vI (List.length l : Int))), (23, (vI (k4 : Int)))], [(8, (.cells 35 [(cS key13), (cB has14), (cS val15)])), (5000, (.cells 51 [(.d (dP [(encT t)]))]))], [5000]⟩ (by kernel_rfl) (.c (tri_index_sl (e := 35) (sz := 3) (bytes := 40) (i := k4) tab_ok rfl (at_map encOp ha11) (all_map fun _ => rfl)) .n) ?_
    refine peel_seq ?_
    refine awp_seq ?_
    refine awp_seq ?_
    refine rk boxes [] [0, 4, 6, 8, 21, 22, 23, 29] [8, 5000] ⟨41, [(0, (vL 5000 0)), (4, (vI 0)), (6, (vT (dP [(encT a5)]))), (8, (vL 8 0)), (21, (vD (List.map encOp l))), (22, (vI (List.length l : Int))), (23, (vI (k4 : Int))), (29, (vB (!has14)))], [(8, (.cells 35 [(cS key13), (cB has14), (cS val15)])), (5000, (.cells 51 [(.d (dP [(encT t)]))]))], [5000]⟩ (by kernel_rfl) .n ?_
    refine peel_seq ?_
    cases has14 with
    | false =>
     refine awp_true rfl ?_
     refine awp_seq ?_
     refine rk boxes [] [0, 4, 6, 8, 21, 22, 23] [8, 5000] ⟨41, [(0, (vL 5000 0)), (4, (vI 61)), (6, (vT (dP [(encT a5)]))), (8, (vL 8 0)), (21, (vD (List.map encOp l))), (22, (vI (List.length l : Int))), (23, (vI (k4 : Int)))], [(8, (.cells 35 [(cS key13), (cB false), (cS val15)])), (5000, (.cells 51 [(.d (dP [(encT t)]))]))], [5000]⟩ (by kernel_rfl) .n ?_
     refine peel_seq ?_
     have hE16 := hJ8
     rw [hd12] at hE16
     simp only [setF, hc1, hc2, hc9, cond_true, cond_false, Bool.not_true, Bool.not_false] at hE16
     refine awp_ret ?_
     refine peel_seq_ret ?_
     refine peel_block_ret ?_
     refine peel_seq_ret ?_
     refine peel_seq_ret ?_
     refine peel_block_ret ?_
     refine peel_seq_ret ?_
     exact ends_ret rfl (show some ((vI 61) : SV) = some ((vI (setM t l).2) : SV) from by first | rfl | ((try simp only [cond_true, cond_false, Bool.not_true, Bool.not_false] at hE16); (first | (simp only [hc1, hc2, hc9, ← hE16, cond_true, cond_false, Bool.not_true, Bool.not_false, List.map_nil]; done) | (simp only [setM, hc1, hc2, hc9, ← hE16, cond_true, cond_false, Bool.not_true, Bool.not_false, List.map_nil])))) (show some ([(5000, (.cells 51 [(.d (dP [(encT t)]))]))] : Objs) = some ([(5000, (.cells 51 [(.d (dP [(encT ((setM t l).1))]))]))] : Objs) from by first | rfl | ((try simp only [cond_true, cond_false, Bool.not_true, Bool.not_false] at hE16); (first | (simp only [hc1, hc2, hc9, ← hE16, cond_true, cond_false, Bool.not_true, Bool.not_false, List.map_nil]; done) | (simp only [setM, hc1, hc2, hc9, ← hE16, cond_true, cond_false, Bool.not_true, Bool.not_false, List.map_nil]))))
    | true =>
     refine awp_false rfl ?_
     refine awp_skip ?_
     refine peel_seq ?_
     refine rk boxes [⟨5, false, [(sc (.func (.func 47) #[] #[])), (vT (dP [(encT a5)])), (vS key13), (vS val15)], [], (vT (dP [(encT (Tr.putT a5 key13 val15))])), []⟩] [0, 4, 6, 21, 22, 23] [5000] ⟨41, [(0, (vL 5000 0)), (4, (vI 0)), (6, (vT (dP [(encT (Tr.putT a5 key13 val15))]))), (21, (vD (List.map encOp l))), (22, (vI (List.length l : Int))), (23, (vI (k4 : Int)))], [(5000, (.cells 51 [(.d (dP [(encT t)]))]))], [5000]⟩ (by kernel_rfl) (.c (tri_call (s_TPut a5 key13 val15 (by (try simp only [big] at *); omega))) .n) ?_
     refine peel_block ?_
     refine peel_seq ?_
     refine rk boxes [⟨0, false, [(vI (k4 : Int)), (vI 1)], [], (vI ((k4 : Int) + 1)), []⟩] [0, 4, 6, 21, 22, 23] [5000] ⟨41, [(0, (vL 5000 0)), (4, (vI 0)), (6, (vT (dP [(encT (Tr.putT a5 key13 val15))]))), (21, (vD (List.map encOp l))), (22, (vI (List.length l : Int))), (23, (vI ((k4 : Int) + 1)))], [(5000, (.cells 51 [(.d (dP [(encT t)]))]))], [5000]⟩ (by kernel_rfl) (.c (tri_int ((k4 : Int) + 1) (wrap_i64 (by omega))) .n) ?_
     exact peel_round (k4 + 1, (Tr.putT a5 key13 val15)) rfl ⟨by (try simp only [List.length_map] at *); omega, by exact Nat.le_trans (Tr.size_putT ..) (by omega), by have hj := hJ8; rw [hd12] at hj; simp only [setF, hc1, hc2, hc9, cond_true, cond_false, Bool.not_true, Bool.not_false] at hj ⊢; exact hj⟩ (by (try simp only [List.length_map] at *); omega)
   ·skip
    have hc9p := of_decide_eq_false hc9
    have hE17 := hJ8
    rw [at_end (l := l) (by (try simp only [List.length_map] at *); omega)] at hE17
    simp only [setF, hc1, hc2, hc9, cond_true, cond_false, Bool.not_true, Bool.not_false] at hE17
    refine awp_exit ?_
    refine peel_seq_exit ?_
    refine peel_seq_exit ?_
    refine peel_hit ?_
    refine peel_seq ?_
    refine awp_seq ?_
    refine rk boxes [] [4] [5000] ⟨41, [(4, (vI 0))], [(5000, (.cells 51 [(.d (dP [(encT a5)]))]))], [5000]⟩ (by kernel_rfl) .n ?_
    refine peel_seq ?_
    refine awp_seq ?_
    refine rk boxes [] [4] [5000] ⟨41, [(4, (vI 0))], [(5000, (.cells 51 [(.d (dP [(encT a5)]))]))], [5000]⟩ (by kernel_rfl) .n ?_
    refine peel_seq ?_
    refine awp_ret ?_
    exact ends_ret rfl (show some ((vI 0) : SV) = some ((vI (setM t l).2) : SV) from by first | rfl | ((try simp only [cond_true, cond_false, Bool.not_true, Bool.not_false] at hE17); (first | (simp only [hc1, hc2, hc9, ← hE17, cond_true, cond_false, Bool.not_true, Bool.not_false, List.map_nil]; done) | (simp only [setM, hc1, hc2, hc9, ← hE17, cond_true, cond_false, Bool.not_true, Bool.not_false, List.map_nil])))) (show some ([(5000, (.cells 51 [(.d (dP [(encT a5)]))]))] : Objs) = some ([(5000, (.cells 51 [(.d (dP [(encT ((setM t l).1))]))]))] : Objs) from by first | rfl | ((try simp only [cond_true, cond_false, Bool.not_true, Bool.not_false] at hE17); (first | (simp only [hc1, hc2, hc9, ← hE17, cond_true, cond_false, Bool.not_true, Bool.not_false, List.map_nil]; done) | (simp only [setM, hc1, hc2, hc9, ← hE17, cond_true, cond_false, Bool.not_true, Bool.not_false, List.map_nil]))))
theorem k_Set_nil (l : List AOp) : Sat Try.prog 18 [(sc (.pointer none)), (vD (List.map encOp l))] [] (vI 6) [] := by
 refine sat_of_body tab_ok Try.func18 rfl (by kernel_rfl) (Nat.le_of_ble_eq_true rfl) rfl fun G => ?_
 refine awp_seq ?_
 refine rk boxes [] [0, 1, 4] [] ⟨41, [(0, (sc (.pointer none))), (1, (vD (List.map encOp l))), (4, (vI 0))], [], []⟩ (by kernel_rfl) .n ?_
 refine peel_seq ?_
 refine awp_seq ?_
 refine awp_seq ?_
 refine rk boxes [⟨1, false, [(sc (.func (.func 42) #[] #[])), (sc (.pointer none))], [], (vB false), []⟩] [0, 1, 4, 11] [] ⟨41, [(0, (sc (.pointer none))), (1, (vD (List.map encOp l))), (4, (vI 0)), (11, (vB true))], [], []⟩ (by kernel_rfl) (.c (tri_call (k_made_nil)) .n) ?_
 refine peel_seq ?_
 refine awp_true rfl ?_
 refine awp_seq ?_
 refine rk boxes [] [0, 1, 4] [] ⟨41, [(0, (sc (.pointer none))), (1, (vD (List.map encOp l))), (4, (vI 6))], [], []⟩ (by kernel_rfl) .n ?_
 refine peel_seq ?_
 refine awp_ret ?_
 refine peel_seq_ret ?_
 exact ends_ret rfl rfl rfl
theorem k_Set_zero (l : List AOp) : Sat Try.prog 18 [(vT (dP [(.v (.pointer none))])), (vD (List.map encOp l))] [] (vI 6) [] := by
 refine sat_of_body tab_ok Try.func18 rfl (by kernel_rfl) (Nat.le_of_ble_eq_true rfl) rfl fun G => ?_
 refine awp_seq ?_
 refine rk boxes [] [0, 1, 4] [] ⟨41, [(0, (vT (dP [(.v (.pointer none))]))), (1, (vD (List.map encOp l))), (4, (vI 0))], [], []⟩ (by kernel_rfl) .n ?_
 refine peel_seq ?_
 refine awp_seq ?_
 refine awp_seq ?_
 refine rk boxes [⟨1, false, [(sc (.func (.func 42) #[] #[])), (vT (dP [(.v (.pointer none))]))], [], (vB false), []⟩] [0, 1, 4, 11] [] ⟨41, [(0, (vT (dP [(.v (.pointer none))]))), (1, (vD (List.map encOp l))), (4, (vI 0)), (11, (vB true))], [], []⟩ (by kernel_rfl) (.c (tri_call (k_made_zero)) .n) ?_
 refine peel_seq ?_
 refine awp_true rfl ?_
 refine awp_seq ?_
 refine rk boxes [] [0, 1, 4] [] ⟨41, [(0, (vT (dP [(.v (.pointer none))]))), (1, (vD (List.map encOp l))), (4, (vI 6))], [], []⟩ (by kernel_rfl) .n ?_
 refine peel_seq ?_
 refine awp_ret ?_
 refine peel_seq_ret ?_
 exact ends_ret rfl rfl rfl
theorem k_Clone (t : Tr) : Sat Try.prog 13 [(vL 5000 0)] [(5000, (.cells 51 [(.d (dP [(encT t)]))]))] (vL 5001 0) [(5000, (.cells 51 [(.d (dP [(encT t)]))])), (5001, (.cells 51 [(.d (dP [(encT t)]))]))] := by
 refine sat_of_body tab_ok Try.func13 rfl (by kernel_rfl) (Nat.le_of_ble_eq_true rfl) rfl fun G => ?_
 refine awp_seq ?_
 refine rk boxes [] [0, 2] [5000] ⟨12, [(0, (vL 5000 0)), (2, (sc (.pointer none)))], [(5000, (.cells 51 [(.d (dP [(encT t)]))]))], [5000]⟩ (by kernel_rfl) .n ?_
 refine peel_seq ?_
 refine awp_seq ?_
 refine awp_seq ?_
 refine rk boxes [⟨1, true, [(sc (.func (.func 42) #[] #[])), (vL 5000 0)], [(5000, (.cells 51 [(.d (dP [(encT t)]))]))], (vB true), []⟩] [0, 2, 5] [5000] ⟨12, [(0, (vL 5000 0)), (2, (sc (.pointer none))), (5, (vB false))], [(5000, (.cells 51 [(.d (dP [(encT t)]))]))], [5000]⟩ (by kernel_rfl) (.c (tri_call (k_made t)) .n) ?_
 refine peel_seq ?_
 refine awp_false rfl ?_
 refine awp_skip ?_
 refine peel_seq ?_
 refine awp_seq ?_
 refine rk boxes [] [2] [11, 5000] ⟨12, [(2, (vL 11 0))], [(11, (.cells 51 [(.d (dP [(encT t)]))])), (5000, (.cells 51 [(.d (dP [(encT t)]))]))], [5000]⟩ (by kernel_rfl) .n ?_
 refine peel_seq ?_
 refine awp_mv [.sw 11 5001] ⟨12, [(2, (vL 5001 0))], [(5001, (.cells 51 [(.d (dP [(encT t)]))])), (5000, (.cells 51 [(.d (dP [(encT t)]))]))], [5000]⟩ rfl ?_
 refine awp_ret ?_
 exact ends_ret rfl rfl rfl
theorem k_Clone_nil  : Sat Try.prog 13 [(sc (.pointer none))] [] (sc (.pointer none)) [] := by
 refine sat_of_body tab_ok Try.func13 rfl (by kernel_rfl) (Nat.le_of_ble_eq_true rfl) rfl fun G => ?_
 refine awp_seq ?_
 refine rk boxes [] [0, 2] [] ⟨12, [(0, (sc (.pointer none))), (2, (sc (.pointer none)))], [], []⟩ (by kernel_rfl) .n ?_
 refine peel_seq ?_
 refine awp_seq ?_
 refine awp_seq ?_
 refine rk boxes [⟨1, false, [(sc (.func (.func 42) #[] #[])), (sc (.pointer none))], [], (vB false), []⟩] [0, 2, 5] [] ⟨12, [(0, (sc (.pointer none))), (2, (sc (.pointer none))), (5, (vB true))], [], []⟩ (by kernel_rfl) (.c (tri_call (k_made_nil)) .n) ?_
 refine peel_seq ?_
 refine awp_true rfl ?_
 refine awp_seq ?_
 refine rk boxes [] [0, 2] [] ⟨12, [(0, (sc (.pointer none))), (2, (sc (.pointer none)))], [], []⟩ (by kernel_rfl) .n ?_
 refine peel_seq ?_
 refine awp_ret ?_
 refine peel_seq_ret ?_
 exact ends_ret rfl rfl rfl
theorem k_Clone_zero  : Sat Try.prog 13 [(vT (dP [(.v (.pointer none))]))] [] (sc (.pointer none)) [] := by
 refine sat_of_body tab_ok Try.func13 rfl (by kernel_rfl) (Nat.le_of_ble_eq_true rfl) rfl fun G => ?_
 refine awp_seq ?_
 refine rk boxes [] [0, 2] [] ⟨12, [(0, (vT (dP [(.v (.pointer none))]))), (2, (sc (.pointer none)))], [], []⟩ (by kernel_rfl) .n ?_
 refine peel_seq ?_
 refine awp_seq ?_
 refine awp_seq ?_
 refine rk boxes [⟨1, false, [(sc (.func (.func 42) #[] #[])), (vT (dP [(.v (.pointer none))]))], [], (vB false), []⟩] [0, 2, 5] [] ⟨12, [(0, (vT (dP [(.v (.pointer none))]))), (2, (sc (.pointer none))), (5, (vB true))], [], []⟩ (by kernel_rfl) (.c (tri_call (k_made_zero)) .n) ?_
 refine peel_seq ?_
 refine awp_true rfl ?_
 refine awp_seq ?_
 refine rk boxes [] [0, 2] [] ⟨12, [(0, (vT (dP [(.v (.pointer none))]))), (2, (sc (.pointer none)))], [], []⟩ (by kernel_rfl) .n ?_
 refine peel_seq ?_
 refine awp_ret ?_
 refine peel_seq_ret ?_
 exact ends_ret rfl rfl rfl
end Go.Proofs.Ytjbiaoajmdbigaa
