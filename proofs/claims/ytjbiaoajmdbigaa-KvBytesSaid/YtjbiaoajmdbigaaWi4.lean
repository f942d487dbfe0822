/- Walks of the bytes of operations. -/
import Derived.Test.YtjbiaoajmdbigaaWi3
import Derived.Test.YtjbiaoajmdbigaaWj
set_option maxRecDepth 100000
set_option linter.unusedVariables false
set_option linter.unusedSimpArgs false
namespace Go.Proofs.Ytjbiaoajmdbigaa
open Go Go.E
theorem y_Equal (a b : List Int) : Sat Try.prog 33 [(vD (List.map encB a)), (vD (List.map encB b))] [] (vB (eqS (bstr a) (bstr b))) [] := by
 refine sat_of_body tab_ok Try.func33 rfl (by kernel_rfl) (Nat.le_of_ble_eq_true rfl) rfl fun G => ?_
 refine awp_seq ?_
 refine rk boxes [] [0, 1, 4] [] ⟨10, [(0, (vD (List.map encB a))), (1, (vD (List.map encB b))), (4, (vB false))], [], []⟩ (by kernel_rfl) .n ?_
 refine peel_seq ?_
 refine awp_seq ?_
 refine rk boxes [⟨1, false, [(vD (List.map encB a))], [], (vS (bstr a)), []⟩, ⟨3, false, [(vD (List.map encB b))], [], (vS (bstr b)), []⟩, ⟨4, false, [(vS (bstr a)), (vS (bstr b))], [], (vB (eqS (bstr a) (bstr b))), []⟩] [4] [] ⟨10, [(4, (vB (eqS (bstr a) (bstr b))))], [], []⟩ (by kernel_rfl) (.c (tri_bytes_str (e := 5) (by kernel_rfl) (by kernel_rfl) (by kernel_rfl)) (.c (tri_bytes_str (e := 5) (by kernel_rfl) (by kernel_rfl) (by kernel_rfl)) (.c (tri_str_eql) .n))) ?_
 refine peel_seq ?_
 refine awp_ret ?_
 exact ends_ret rfl rfl rfl
theorem k_Put (b : List Int) (l : List AOp) (hb : b.length ≤ 32768) (hw : weighM l ≤ 32768) (hs : (∀ x ∈ l, AOp.small x)) : Sat Try.prog 32 [(vD (List.map encB b)), (vD (List.map encOp l))] [] (vO 5001) [(5001, (.arr 5 1 1 (List.map encB (putB b l))))] := by
 refine sat_of_body tab_ok Try.func32 rfl (by kernel_rfl) (Nat.le_of_ble_eq_true rfl) rfl fun G => ?_
 have hll := weighM_len hw
 have hpl := putB_len (b := b) hw
 refine awp_seq ?_
 refine rk boxes [] [0, 1, 4] [] ⟨29, [(0, (vD (List.map encB b))), (1, (vD (List.map encOp l))), (4, (sc (.slice none 0 0)))], [], []⟩ (by kernel_rfl) .n ?_
 refine peel_seq ?_
 refine awp_seq ?_
 refine rk boxes [⟨2, true, [(vD (List.map encOp l))], [], (vI (List.length l : Int)), []⟩, ⟨3, false, [(sc (.func (.func 54) #[] #[])), (vD (List.map encB b)), (vI (List.length l : Int))], [], (vO 10), [(10, (.arr 5 1 1 (List.map encB (b ++ numB (List.length l : Int)))))]⟩] [0, 1, 4] [10] ⟨29, [(0, (vO 10)), (1, (vD (List.map encOp l))), (4, (sc (.slice none 0 0)))], [(10, (.arr 5 1 1 (List.map encB (b ++ numB (List.length l : Int)))))], []⟩ (by kernel_rfl) (.c (tri_len_map tab_ok rfl) (.c (tri_call (Sat.sw 5001 10 (w_Number b (List.length l : Int) (by (try simp only [List.length_append] at *); omega) (by (try simp only [List.length_append] at *); omega)))) .n)) ?_
 refine peel_seq ?_
 refine awp_seq ?_
 refine awp_seq ?_
 refine rk boxes [⟨1, true, [(vD (List.map encOp l))], [], (vI (List.length l : Int)), []⟩] [0, 4, 11, 12, 13] [10] ⟨29, [(0, (vO 10)), (4, (sc (.slice none 0 0))), (11, (vD (List.map encOp l))), (12, (vI (List.length l : Int))), (13, (vI 0))], [(10, (.arr 5 1 1 (List.map encB (b ++ numB (List.length l : Int)))))], []⟩ (by kernel_rfl) (.c (tri_len_map tab_ok rfl) .n) ?_
 refine peel_seq ?_
 refine awp_block ?_
 refine awp_len 11 rfl (fun hlen1 => ?_)
 refine awp_loopP (ι := Nat × (List Int)) (fun x => ⟨29, [(0, (vO 10)), (4, (sc (.slice none 0 0))), (11, (vD (List.map encOp l))), (12, (vI (List.length l : Int))), (13, (vI (x.1 : Int)))], [(10, (.arr 5 1 1 (List.map encB x.2)))], []⟩) (fun x => x.1 ≤ List.length l ∧ (True) ∧ putF (List.drop x.1 l) x.2 = putB b l) (fun x => List.length l - x.1) (0, (b ++ numB (List.length l : Int))) rfl ⟨Nat.zero_le _, trivial, rfl⟩ ?_
 rintro ⟨k2, a3⟩ ⟨hk4, hx5, hJ6⟩
 have hlen := congrArg List.length hJ6
 rw [putF_eq, List.length_append] at hlen
 try simp only at hk4 hx5 hJ6
 refine awp_seq ?_
 refine rk boxes [] [0, 4, 11, 12, 13, 14] [10] ⟨29, [(0, (vO 10)), (4, (sc (.slice none 0 0))), (11, (vD (List.map encOp l))), (12, (vI (List.length l : Int))), (13, (vI (k2 : Int))), (14, (vB (decide ((k2 : Int) < (List.length l : Int)))))], [(10, (.arr 5 1 1 (List.map encB a3)))], []⟩ (by kernel_rfl) .n ?_
 refine peel_seq ?_
 refine awp_seq ?_
 refine awp_cond (b := (decide ((k2 : Int) < (List.length l : Int)))) rfl (fun hc7 => ?_) (fun hc7 => ?_)
 ·skip
  have hc7p := of_decide_eq_true hc7
  refine awp_skip ?_
  refine peel_seq ?_
  refine awp_seq ?_
  refine awp_block ?_
  refine awp_seq ?_
  obtain ⟨⟨key11, has12, val13⟩, ha9, hd10⟩ := at_drop (l := l) (k := k2) (by (try simp only [List.length_map] at *); omega)
  have hsm := hs (AOp.mk key11 has12 val13) (List.mem_of_getElem? ha9)
  simp only [AOp.small] at hsm
  have u1 := textB_len (s := key11) (by omega)
  have u2 := flagB_len has12
  refine rk boxes [⟨0, false, [(vD (List.map encOp l)), (vI (k2 : Int))], [], (vT (dP [(dS key11), (dB has12), (dS val13)])), []⟩] [0, 4, 6, 11, 12, 13] [6, 10] ⟨29, [(0, (vO 10)), (4, (sc (.slice none 0 0))), (6, (vL 6 0)), (11, (vD (List.map encOp l))), (12, (vI (List.length l : Int))), (13, (vI (k2 : Int)))], [(6, (.cells 35 [(cS key11), (cB has12), (cS val13)])), (10, (.arr 5 1 1 (List.map encB a3)))], []⟩ (by kernel_rfl) (.c (tri_index_sl (e := 35) (sz := 3) (bytes := 40) (i := k2) tab_ok rfl (at_map encOp ha9) (all_map fun _ => rfl)) .n) ?_
  refine peel_seq ?_
  refine awp_then [.sw 26 10] ?_
  refine rk boxes [⟨3, false, [(sc (.func (.func 55) #[] #[])), (vO 10), (vS key11)], [(10, (.arr 5 1 1 (List.map encB a3)))], (vO 20), [(20, (.arr 5 1 1 (List.map encB (a3 ++ textB key11))))]⟩, ⟨6, false, [(sc (.func (.func 56) #[] #[])), (vO 20), (vB has12)], [(20, (.arr 5 1 1 (List.map encB (a3 ++ textB key11))))], (vO 23), [(23, (.arr 5 1 1 (List.map encB ((a3 ++ textB key11) ++ flagB has12))))]⟩, ⟨9, false, [(sc (.func (.func 55) #[] #[])), (vO 23), (vS val13)], [(23, (.arr 5 1 1 (List.map encB ((a3 ++ textB key11) ++ flagB has12))))], (vO 26), [(26, (.arr 5 1 1 (List.map encB (((a3 ++ textB key11) ++ flagB has12) ++ textB val13))))]⟩] [0, 4, 11, 12, 13] [26] ⟨29, [(0, (vO 26)), (4, (sc (.slice none 0 0))), (11, (vD (List.map encOp l))), (12, (vI (List.length l : Int))), (13, (vI (k2 : Int)))], [(26, (.arr 5 1 1 (List.map encB (((a3 ++ textB key11) ++ flagB has12) ++ textB val13))))], []⟩ (by kernel_rfl) (.c (tri_call (Sat.fzOwn 0 10 5 1 1 (List.map encB a3) (Sat.sw 5001 20 (w_Text a3 key11 (by (try simp only [List.length_append] at *); omega) (by (try simp only [List.length_append] at *); omega))) [(vO 10), (vS key11)] rfl rfl rfl)) (.c (tri_call (Sat.fzOwn 0 20 5 1 1 (List.map encB (a3 ++ textB key11)) (Sat.sw 5001 23 (w_Flag (a3 ++ textB key11) has12 (by (try simp only [List.length_append] at *); omega))) [(vO 20), (vB has12)] rfl rfl rfl)) (.c (tri_call (Sat.fzOwn 0 23 5 1 1 (List.map encB ((a3 ++ textB key11) ++ flagB has12)) (Sat.sw 5001 26 (w_Text ((a3 ++ textB key11) ++ flagB has12) val13 (by (try simp only [List.length_append] at *); omega) (by (try simp only [List.length_append] at *); omega))) [(vO 23), (vS val13)] rfl rfl rfl)) .n))) ?_
  refine then_mv ⟨29, [(0, (vO 10)), (4, (sc (.slice none 0 0))), (11, (vD (List.map encOp l))), (12, (vI (List.length l : Int))), (13, (vI (k2 : Int)))], [(10, (.arr 5 1 1 (List.map encB (((a3 ++ textB key11) ++ flagB has12) ++ textB val13))))], []⟩ rfl ?_
  refine peel_block ?_
  refine peel_seq ?_
  refine rk boxes [⟨0, false, [(vI (k2 : Int)), (vI 1)], [], (vI ((k2 : Int) + 1)), []⟩] [0, 4, 11, 12, 13] [10] ⟨29, [(0, (vO 10)), (4, (sc (.slice none 0 0))), (11, (vD (List.map encOp l))), (12, (vI (List.length l : Int))), (13, (vI ((k2 : Int) + 1)))], [(10, (.arr 5 1 1 (List.map encB (((a3 ++ textB key11) ++ flagB has12) ++ textB val13))))], []⟩ (by kernel_rfl) (.c (tri_int ((k2 : Int) + 1) (wrap_i64 (by omega))) .n) ?_
  exact peel_round (k2 + 1, (((a3 ++ textB key11) ++ flagB has12) ++ textB val13)) rfl ⟨by (try simp only [List.length_map] at *); omega, trivial, by have hj := hJ6; rw [hd10] at hj; simp only [putF, hc7, cond_true, cond_false, Bool.not_true, Bool.not_false] at hj ⊢; exact hj⟩ (by (try simp only [List.length_map] at *); omega)
 ·skip
  have hc7p := of_decide_eq_false hc7
  have hE14 := hJ6
  rw [at_end (l := l) (by (try simp only [List.length_map] at *); omega)] at hE14
  simp only [putF, hc7, cond_true, cond_false, Bool.not_true, Bool.not_false] at hE14
  refine awp_exit ?_
  refine peel_seq_exit ?_
  refine peel_seq_exit ?_
  refine peel_hit ?_
  refine peel_seq ?_
  refine awp_seq ?_
  refine rk boxes [] [4] [10] ⟨29, [(4, (vO 10))], [(10, (.arr 5 1 1 (List.map encB a3)))], []⟩ (by kernel_rfl) .n ?_
  refine peel_seq ?_
  refine awp_mv [.sw 10 5001] ⟨29, [(4, (vO 5001))], [(5001, (.arr 5 1 1 (List.map encB a3)))], []⟩ rfl ?_
  refine awp_ret ?_
  exact ends_ret rfl rfl (show some ([(5001, (.arr 5 1 1 (List.map encB a3)))] : Objs) = some ([(5001, (.arr 5 1 1 (List.map encB (putB b l))))] : Objs) from by rw [show a3 = (putB b l) from hE14])
theorem q_Put (b : List Int) (l : List AOp) (hb : b.length ≤ 32768) (hw : weighM l ≤ 32768) (hs : (∀ x ∈ l, AOp.small x)) : Sat Try.prog 34 [(vD (List.map encB b)), (vD (List.map encOp l))] [] (vO 5001) [(5001, (.arr 5 1 1 (List.map encB (putB b l))))] := by
 refine sat_of_body tab_ok Try.func34 rfl (by kernel_rfl) (Nat.le_of_ble_eq_true rfl) rfl fun G => ?_
 have hll := weighM_len hw
 have hpl := putB_len (b := b) hw
 refine awp_seq ?_
 refine rk boxes [] [0, 1, 4] [] ⟨29, [(0, (vD (List.map encB b))), (1, (vD (List.map encOp l))), (4, (sc (.slice none 0 0)))], [], []⟩ (by kernel_rfl) .n ?_
 refine peel_seq ?_
 refine awp_seq ?_
 refine rk boxes [⟨2, true, [(vD (List.map encOp l))], [], (vI (List.length l : Int)), []⟩, ⟨3, false, [(sc (.func (.func 57) #[] #[])), (vD (List.map encB b)), (vI (List.length l : Int))], [], (vO 10), [(10, (.arr 5 1 1 (List.map encB (b ++ numB (List.length l : Int)))))]⟩] [0, 1, 4] [10] ⟨29, [(0, (vO 10)), (1, (vD (List.map encOp l))), (4, (sc (.slice none 0 0)))], [(10, (.arr 5 1 1 (List.map encB (b ++ numB (List.length l : Int)))))], []⟩ (by kernel_rfl) (.c (tri_len_map tab_ok rfl) (.c (tri_call (Sat.sw 5001 10 (q_Number b (List.length l : Int) (by (try simp only [List.length_append] at *); omega) (by (try simp only [List.length_append] at *); omega)))) .n)) ?_
 refine peel_seq ?_
 refine awp_seq ?_
 refine awp_seq ?_
 refine rk boxes [⟨1, true, [(vD (List.map encOp l))], [], (vI (List.length l : Int)), []⟩] [0, 4, 11, 12, 13] [10] ⟨29, [(0, (vO 10)), (4, (sc (.slice none 0 0))), (11, (vD (List.map encOp l))), (12, (vI (List.length l : Int))), (13, (vI 0))], [(10, (.arr 5 1 1 (List.map encB (b ++ numB (List.length l : Int)))))], []⟩ (by kernel_rfl) (.c (tri_len_map tab_ok rfl) .n) ?_
 refine peel_seq ?_
 refine awp_block ?_
 refine awp_len 11 rfl (fun hlen1 => ?_)
 refine awp_loopP (ι := Nat × (List Int)) (fun x => ⟨29, [(0, (vO 10)), (4, (sc (.slice none 0 0))), (11, (vD (List.map encOp l))), (12, (vI (List.length l : Int))), (13, (vI (x.1 : Int)))], [(10, (.arr 5 1 1 (List.map encB x.2)))], []⟩) (fun x => x.1 ≤ List.length l ∧ (True) ∧ putF (List.drop x.1 l) x.2 = putB b l) (fun x => List.length l - x.1) (0, (b ++ numB (List.length l : Int))) rfl ⟨Nat.zero_le _, trivial, rfl⟩ ?_
 rintro ⟨k2, a3⟩ ⟨hk4, hx5, hJ6⟩
 have hlen := congrArg List.length hJ6
 rw [putF_eq, List.length_append] at hlen
 try simp only at hk4 hx5 hJ6
 refine awp_seq ?_
 refine rk boxes [] [0, 4, 11, 12, 13, 14] [10] ⟨29, [(0, (vO 10)), (4, (sc (.slice none 0 0))), (11, (vD (List.map encOp l))), (12, (vI (List.length l : Int))), (13, (vI (k2 : Int))), (14, (vB (decide ((k2 : Int) < (List.length l : Int)))))], [(10, (.arr 5 1 1 (List.map encB a3)))], []⟩ (by kernel_rfl) .n ?_
 refine peel_seq ?_
 refine awp_seq ?_
 refine awp_cond (b := (decide ((k2 : Int) < (List.length l : Int)))) rfl (fun hc7 => ?_) (fun hc7 => ?_)
 ·skip
  have hc7p := of_decide_eq_true hc7
  refine awp_skip ?_
  refine peel_seq ?_
  refine awp_seq ?_
  refine awp_block ?_
  refine awp_seq ?_
  obtain ⟨⟨key11, has12, val13⟩, ha9, hd10⟩ := at_drop (l := l) (k := k2) (by (try simp only [List.length_map] at *); omega)
  have hsm := hs (AOp.mk key11 has12 val13) (List.mem_of_getElem? ha9)
  simp only [AOp.small] at hsm
  have u1 := textB_len (s := key11) (by omega)
  have u2 := flagB_len has12
  refine rk boxes [⟨0, false, [(vD (List.map encOp l)), (vI (k2 : Int))], [], (vT (dP [(dS key11), (dB has12), (dS val13)])), []⟩] [0, 4, 6, 11, 12, 13] [6, 10] ⟨29, [(0, (vO 10)), (4, (sc (.slice none 0 0))), (6, (vL 6 0)), (11, (vD (List.map encOp l))), (12, (vI (List.length l : Int))), (13, (vI (k2 : Int)))], [(6, (.cells 35 [(cS key11), (cB has12), (cS val13)])), (10, (.arr 5 1 1 (List.map encB a3)))], []⟩ (by kernel_rfl) (.c (tri_index_sl (e := 35) (sz := 3) (bytes := 40) (i := k2) tab_ok rfl (at_map encOp ha9) (all_map fun _ => rfl)) .n) ?_
  refine peel_seq ?_
  refine awp_then [.sw 26 10] ?_
  refine rk boxes [⟨3, false, [(sc (.func (.func 58) #[] #[])), (vO 10), (vS key11)], [(10, (.arr 5 1 1 (List.map encB a3)))], (vO 20), [(20, (.arr 5 1 1 (List.map encB (a3 ++ textB key11))))]⟩, ⟨6, false, [(sc (.func (.func 59) #[] #[])), (vO 20), (vB has12)], [(20, (.arr 5 1 1 (List.map encB (a3 ++ textB key11))))], (vO 23), [(23, (.arr 5 1 1 (List.map encB ((a3 ++ textB key11) ++ flagB has12))))]⟩, ⟨9, false, [(sc (.func (.func 58) #[] #[])), (vO 23), (vS val13)], [(23, (.arr 5 1 1 (List.map encB ((a3 ++ textB key11) ++ flagB has12))))], (vO 26), [(26, (.arr 5 1 1 (List.map encB (((a3 ++ textB key11) ++ flagB has12) ++ textB val13))))]⟩] [0, 4, 11, 12, 13] [26] ⟨29, [(0, (vO 26)), (4, (sc (.slice none 0 0))), (11, (vD (List.map encOp l))), (12, (vI (List.length l : Int))), (13, (vI (k2 : Int)))], [(26, (.arr 5 1 1 (List.map encB (((a3 ++ textB key11) ++ flagB has12) ++ textB val13))))], []⟩ (by kernel_rfl) (.c (tri_call (Sat.fzOwn 0 10 5 1 1 (List.map encB a3) (Sat.sw 5001 20 (q_Text a3 key11 (by (try simp only [List.length_append] at *); omega) (by (try simp only [List.length_append] at *); omega))) [(vO 10), (vS key11)] rfl rfl rfl)) (.c (tri_call (Sat.fzOwn 0 20 5 1 1 (List.map encB (a3 ++ textB key11)) (Sat.sw 5001 23 (q_Flag (a3 ++ textB key11) has12 (by (try simp only [List.length_append] at *); omega))) [(vO 20), (vB has12)] rfl rfl rfl)) (.c (tri_call (Sat.fzOwn 0 23 5 1 1 (List.map encB ((a3 ++ textB key11) ++ flagB has12)) (Sat.sw 5001 26 (q_Text ((a3 ++ textB key11) ++ flagB has12) val13 (by (try simp only [List.length_append] at *); omega) (by (try simp only [List.length_append] at *); omega))) [(vO 23), (vS val13)] rfl rfl rfl)) .n))) ?_
  refine then_mv ⟨29, [(0, (vO 10)), (4, (sc (.slice none 0 0))), (11, (vD (List.map encOp l))), (12, (vI (List.length l : Int))), (13, (vI (k2 : Int)))], [(10, (.arr 5 1 1 (List.map encB (((a3 ++ textB key11) ++ flagB has12) ++ textB val13))))], []⟩ rfl ?_
  refine peel_block ?_
  refine peel_seq ?_
  refine rk boxes [⟨0, false, [(vI (k2 : Int)), (vI 1)], [], (vI ((k2 : Int) + 1)), []⟩] [0, 4, 11, 12, 13] [10] ⟨29, [(0, (vO 10)), (4, (sc (.slice none 0 0))), (11, (vD (List.map encOp l))), (12, (vI (List.length l : Int))), (13, (vI ((k2 : Int) + 1)))], [(10, (.arr 5 1 1 (List.map encB (((a3 ++ textB key11) ++ flagB has12) ++ textB val13))))], []⟩ (by kernel_rfl) (.c (tri_int ((k2 : Int) + 1) (wrap_i64 (by omega))) .n) ?_
  exact peel_round (k2 + 1, (((a3 ++ textB key11) ++ flagB has12) ++ textB val13)) rfl ⟨by (try simp only [List.length_map] at *); omega, trivial, by have hj := hJ6; rw [hd10] at hj; simp only [putF, hc7, cond_true, cond_false, Bool.not_true, Bool.not_false] at hj ⊢; exact hj⟩ (by (try simp only [List.length_map] at *); omega)
 ·skip
  have hc7p := of_decide_eq_false hc7
  have hE14 := hJ6
  rw [at_end (l := l) (by (try simp only [List.length_map] at *); omega)] at hE14
  simp only [putF, hc7, cond_true, cond_false, Bool.not_true, Bool.not_false] at hE14
  refine awp_exit ?_
  refine peel_seq_exit ?_
  refine peel_seq_exit ?_
  refine peel_hit ?_
  refine peel_seq ?_
  refine awp_seq ?_
  refine rk boxes [] [4] [10] ⟨29, [(4, (vO 10))], [(10, (.arr 5 1 1 (List.map encB a3)))], []⟩ (by kernel_rfl) .n ?_
  refine peel_seq ?_
  refine awp_mv [.sw 10 5001] ⟨29, [(4, (vO 5001))], [(5001, (.arr 5 1 1 (List.map encB a3)))], []⟩ rfl ?_
  refine awp_ret ?_
  exact ends_ret rfl rfl (show some ([(5001, (.arr 5 1 1 (List.map encB a3)))] : Objs) = some ([(5001, (.arr 5 1 1 (List.map encB (putB b l))))] : Objs) from by rw [show a3 = (putB b l) from hE14])
theorem k_BGet (s : RS) (hs : RS.ok s) (m : Int) : Sat Try.prog 37 [(vL 7000 0), (vI m)] [(7000, (.cells 94 [(cD (List.map encB (RS.b s))), (cI ((RS.at_ s) : Int)), (cI (RS.e s)), (cB true)]))] (vD (List.map encOp ((getM s m).1))) [(7000, (.cells 94 [(cD (List.map encB (RS.b ((getM s m).2)))), (cI ((RS.at_ ((getM s m).2)) : Int)), (cI (RS.e ((getM s m).2))), (cB true)]))] := by
 refine sat_of_body tab_ok Try.func37 rfl (by kernel_rfl) (Nat.le_of_ble_eq_true rfl) rfl fun G => ?_
 refine awp_seq ?_
 refine rk boxes [] [0, 1, 4] [7000] ⟨32, [(0, (vL 7000 0)), (1, (vI m)), (4, (sc (.slice none 0 0)))], [(7000, (.cells 94 [(cD (List.map encB (RS.b s))), (cI ((RS.at_ s) : Int)), (cI (RS.e s)), (cB true)]))], [7000]⟩ (by kernel_rfl) .n ?_
 refine peel_seq ?_
 refine awp_seq ?_
 refine rk boxes [] [0, 1, 4, 5] [7000] ⟨32, [(0, (vL 7000 0)), (1, (vI m)), (4, (sc (.slice none 0 0))), (5, (sc (.slice none 0 0)))], [(7000, (.cells 94 [(cD (List.map encB (RS.b s))), (cI ((RS.at_ s) : Int)), (cI (RS.e s)), (cB true)]))], [7000]⟩ (by kernel_rfl) .n ?_
 refine peel_seq ?_
 refine awp_seq ?_
 refine rk boxes [⟨2, false, [(sc (.func (.func 62) #[] #[])), (vL 7000 0), (vI 0), (vI m)], [(7000, (.cells 94 [(cD (List.map encB (RS.b s))), (cI ((RS.at_ s) : Int)), (cI (RS.e s)), (cB true)]))], (vI (rdW s 0 m).1), [(7000, (.cells 94 [(cD (List.map encB (RS.b ((rdW s 0 m).2)))), (cI ((RS.at_ ((rdW s 0 m).2)) : Int)), (cI (RS.e ((rdW s 0 m).2))), (cB true)]))]⟩] [0, 4, 5, 6] [7000] ⟨32, [(0, (vL 7000 0)), (4, (sc (.slice none 0 0))), (5, (sc (.slice none 0 0))), (6, (vI (rdW s 0 m).1))], [(7000, (.cells 94 [(cD (List.map encB (RS.b ((rdW s 0 m).2)))), (cI ((RS.at_ ((rdW s 0 m).2)) : Int)), (cI (RS.e ((rdW s 0 m).2))), (cB true)]))], [7000]⟩ (by kernel_rfl) (.c (tri_call (w_RWithin s hs 0 m)) .n) ?_
 refine peel_seq ?_
 refine awp_seq ?_
 refine awp_seq ?_
 refine rk boxes [] [0, 4, 5, 6, 7] [7000] ⟨32, [(0, (vL 7000 0)), (4, (sc (.slice none 0 0))), (5, (sc (.slice none 0 0))), (6, (vI (rdW s 0 m).1)), (7, (vI 0))], [(7000, (.cells 94 [(cD (List.map encB (RS.b ((rdW s 0 m).2)))), (cI ((RS.at_ ((rdW s 0 m).2)) : Int)), (cI (RS.e ((rdW s 0 m).2))), (cB true)]))], [7000]⟩ (by kernel_rfl) .n ?_
 refine peel_seq ?_
 refine awp_block ?_
 refine awp_mv [.own 5 1005 35 3 40] ⟨32, [(5, (vO 1005)), (0, (vL 7000 0)), (4, (sc (.slice none 0 0))), (6, (vI (rdW s 0 m).1)), (7, (vI 0))], [(1005, (.arr 35 3 40 [])), (7000, (.cells 94 [(cD (List.map encB (RS.b ((rdW s 0 m).2)))), (cI ((RS.at_ ((rdW s 0 m).2)) : Int)), (cI (RS.e ((rdW s 0 m).2))), (cB true)]))], [7000]⟩ rfl ?_
 refine q_keep [0, 4, 5, 6, 7] [1005, 7000] ?_
 refine awp_loopP (ι := (Nat) × (RS) × (List AOp)) (fun x => ⟨32, [(0, (vL 7000 0)), (4, (sc (.slice none 0 0))), (5, (vO 1005)), (6, (vI (rdW s 0 m).1)), (7, (vI (x.1 : Int)))], [(1005, (.arr 35 3 40 (List.map encOp x.2.2))), (7000, (.cells 94 [(cD (List.map encB (RS.b x.2.1))), (cI ((RS.at_ x.2.1) : Int)), (cI (RS.e x.2.1)), (cB true)]))], [7000]⟩) (fun x => x.1 ≤ (rdW s 0 m).1.toNat ∧ RS.ok x.2.1 ∧ (getF ((rdW s 0 m).1.toNat - x.1) x.2.1 x.2.2 = getF (rdW s 0 m).1.toNat ((rdW s 0 m).2) []) ∧ ((x.2.1.e == 0) = true → List.length x.2.2 ≤ x.2.1.at_)) (fun x => (rdW s 0 m).1.toNat - x.1) (0, ((rdW s 0 m).2), []) rfl ⟨Nat.zero_le _, rdW_ok hs, rfl, fun _ => Nat.zero_le _⟩ ?_
 rintro ⟨i1, s2, l3⟩ hJ4
 try simp only at hJ4
 have hwn := rdW_le (lo := 0) (hi := m) hs
 have hfew := hJ4.2.1.few
 have hle := hJ4.2.1.le
 refine awp_seq ?_
 refine awp_seq ?_
 cases hb5 : (decide ((i1 : Int) < (rdW s 0 m).1)) with
 | false =>
  have hb5p := of_decide_eq_false hb5
  refine rk boxes [⟨2, false, [(vI (i1 : Int)), (vI (rdW s 0 m).1)], [], (vB false), []⟩] [0, 4, 5, 6, 7, 18] [1005, 7000] ⟨32, [(0, (vL 7000 0)), (4, (sc (.slice none 0 0))), (5, (vO 1005)), (6, (vI (rdW s 0 m).1)), (7, (vI (i1 : Int))), (18, (vB false))], [(1005, (.arr 35 3 40 (List.map encOp l3))), (7000, (.cells 94 [(cD (List.map encB (RS.b s2))), (cI ((RS.at_ s2) : Int)), (cI (RS.e s2)), (cB true)]))], [7000]⟩ (by kernel_rfl) (.c (tri_scalar_eq [(.int .i64 (i1 : Int)), (.int .i64 (rdW s 0 m).1)] (.bool (decide ((i1 : Int) < (rdW s 0 m).1))) rfl rfl rfl (by kernel_rfl) (congrArg Value.bool hb5)) .n) ?_
  refine peel_seq ?_
  refine awp_false rfl ?_
  have hE : getF (rdW s 0 m).1.toNat ((rdW s 0 m).2) [] = (l3, s2) := by rw [← hJ4.2.2.1, show (rdW s 0 m).1.toNat - i1 = 0 by omega]; rfl
  refine awp_exit ?_
  refine peel_seq_exit ?_
  refine peel_seq_exit ?_
  refine peel_hit ?_
  refine peel_seq ?_
  refine awp_seq ?_
  refine rk boxes [] [4] [1005, 7000] ⟨32, [(4, (vO 1005))], [(1005, (.arr 35 3 40 (List.map encOp l3))), (7000, (.cells 94 [(cD (List.map encB (RS.b s2))), (cI ((RS.at_ s2) : Int)), (cI (RS.e s2)), (cB true)]))], [7000]⟩ (by kernel_rfl) .n ?_
  refine peel_seq ?_
  refine awp_mv [.fz 1005] ⟨32, [(4, (vD (List.map encOp l3)))], [(7000, (.cells 94 [(cD (List.map encB (RS.b s2))), (cI ((RS.at_ s2) : Int)), (cI (RS.e s2)), (cB true)]))], [7000]⟩ rfl ?_
  refine awp_ret ?_
  exact (have hR : getM s m = (l3, s2) := hE; ends_ret rfl (show some ((vD (List.map encOp l3)) : SV) = some ((vD (List.map encOp ((getM s m).1))) : SV) from by rw [hR]) (show some ([(7000, (.cells 94 [(cD (List.map encB (RS.b s2))), (cI ((RS.at_ s2) : Int)), (cI (RS.e s2)), (cB true)]))] : Objs) = some ([(7000, (.cells 94 [(cD (List.map encB (RS.b ((getM s m).2)))), (cI ((RS.at_ ((getM s m).2)) : Int)), (cI (RS.e ((getM s m).2))), (cB true)]))] : Objs) from by rw [hR]))
 | true =>
  have hb5p := of_decide_eq_true hb5
  refine rk boxes [⟨2, false, [(vI (i1 : Int)), (vI (rdW s 0 m).1)], [], (vB true), []⟩, ⟨5, true, [(sc (.func (.func 38) #[] #[])), (vL 7000 0)], [(7000, (.cells 94 [(cD (List.map encB (RS.b s2))), (cI ((RS.at_ s2) : Int)), (cI (RS.e s2)), (cB true)]))], (vI (RS.e s2)), []⟩] [0, 4, 5, 6, 7, 18] [1005, 7000] ⟨32, [(0, (vL 7000 0)), (4, (sc (.slice none 0 0))), (5, (vO 1005)), (6, (vI (rdW s 0 m).1)), (7, (vI (i1 : Int))), (18, (vB ((RS.e s2) == 0)))], [(1005, (.arr 35 3 40 (List.map encOp l3))), (7000, (.cells 94 [(cD (List.map encB (RS.b s2))), (cI ((RS.at_ s2) : Int)), (cI (RS.e s2)), (cB true)]))], [7000]⟩ (by kernel_rfl) (.c (tri_scalar_eq [(.int .i64 (i1 : Int)), (.int .i64 (rdW s 0 m).1)] (.bool (decide ((i1 : Int) < (rdW s 0 m).1))) rfl rfl rfl (by kernel_rfl) (congrArg Value.bool hb5)) (.c (tri_call (w_Err (RS.b s2) (RS.at_ s2) (RS.e s2))) .n)) ?_
  refine peel_seq ?_
  refine awp_cond (b := ((RS.e s2) == 0)) rfl (fun hc6 => ?_) (fun hc6 => ?_)
  ·skip
   have hc6p : (RS.e s2) = 0 := by simpa using hc6
   refine awp_skip ?_
   refine peel_seq ?_
   refine awp_seq ?_
   refine awp_block ?_
   refine awp_then [.sw 30 1005] ?_
   refine rk boxes [⟨2, false, [(sc (.func (.func 63) #[] #[])), (vL 7000 0), (vI 96)], [(7000, (.cells 94 [(cD (List.map encB (RS.b s2))), (cI ((RS.at_ s2) : Int)), (cI (RS.e s2)), (cB true)]))], (vS (rdT s2 96).1), [(7000, (.cells 94 [(cD (List.map encB (RS.b ((rdT s2 96).2)))), (cI ((RS.at_ ((rdT s2 96).2)) : Int)), (cI (RS.e ((rdT s2 96).2))), (cB true)]))]⟩, ⟨4, false, [(sc (.func (.func 64) #[] #[])), (vL 7000 0)], [(7000, (.cells 94 [(cD (List.map encB (RS.b ((rdT s2 96).2)))), (cI ((RS.at_ ((rdT s2 96).2)) : Int)), (cI (RS.e ((rdT s2 96).2))), (cB true)]))], (vB (rdF ((rdT s2 96).2)).1), [(7000, (.cells 94 [(cD (List.map encB (RS.b ((rdF ((rdT s2 96).2)).2)))), (cI ((RS.at_ ((rdF ((rdT s2 96).2)).2)) : Int)), (cI (RS.e ((rdF ((rdT s2 96).2)).2))), (cB true)]))]⟩, ⟨6, false, [(sc (.func (.func 63) #[] #[])), (vL 7000 0), (vI 192)], [(7000, (.cells 94 [(cD (List.map encB (RS.b ((rdF ((rdT s2 96).2)).2)))), (cI ((RS.at_ ((rdF ((rdT s2 96).2)).2)) : Int)), (cI (RS.e ((rdF ((rdT s2 96).2)).2))), (cB true)]))], (vS (rdT ((rdF ((rdT s2 96).2)).2) 192).1), [(7000, (.cells 94 [(cD (List.map encB (RS.b ((rdT ((rdF ((rdT s2 96).2)).2) 192).2)))), (cI ((RS.at_ ((rdT ((rdF ((rdT s2 96).2)).2) 192).2)) : Int)), (cI (RS.e ((rdT ((rdF ((rdT s2 96).2)).2) 192).2))), (cB true)]))]⟩, ⟨8, false, [(.t (.agg [(cS (rdT s2 96).1), (cB (rdF ((rdT s2 96).2)).1), (cS (rdT ((rdF ((rdT s2 96).2)).2) 192).1)]))], [], (vD (List.map encOp ([(AOp.mk ((rdT s2 96).1) ((rdF ((rdT s2 96).2)).1) ((rdT ((rdF ((rdT s2 96).2)).2) 192).1))]))), []⟩, ⟨9, false, [(vO 1005), (vD (List.map encOp ([(AOp.mk ((rdT s2 96).1) ((rdF ((rdT s2 96).2)).1) ((rdT ((rdF ((rdT s2 96).2)).2) 192).1))])))], [(1005, (.arr 35 3 40 (List.map encOp l3)))], (vO 30), [(30, (.arr 35 3 40 (List.map encOp (l3 ++ [(AOp.mk ((rdT s2 96).1) ((rdF ((rdT s2 96).2)).1) ((rdT ((rdF ((rdT s2 96).2)).2) 192).1))]))))]⟩] [0, 4, 5, 6, 7] [30, 7000] ⟨32, [(0, (vL 7000 0)), (4, (sc (.slice none 0 0))), (5, (vO 30)), (6, (vI (rdW s 0 m).1)), (7, (vI (i1 : Int)))], [(30, (.arr 35 3 40 (List.map encOp (l3 ++ [(AOp.mk ((rdT s2 96).1) ((rdF ((rdT s2 96).2)).1) ((rdT ((rdF ((rdT s2 96).2)).2) 192).1))])))), (7000, (.cells 94 [(cD (List.map encB (RS.b ((rdT ((rdF ((rdT s2 96).2)).2) 192).2)))), (cI ((RS.at_ ((rdT ((rdF ((rdT s2 96).2)).2) 192).2)) : Int)), (cI (RS.e ((rdT ((rdF ((rdT s2 96).2)).2) 192).2))), (cB true)]))], [7000]⟩ (by kernel_rfl) (.c (tri_call (w_RText s2 hJ4.2.1 96)) (.c (tri_call (w_RFlag ((rdT s2 96).2) (rdT_ok hJ4.2.1))) (.c (tri_call (w_RText ((rdF ((rdT s2 96).2)).2) (rdF_ok (rdT_ok hJ4.2.1)) 192)) (.c (tri_slice_data (e := 35) (sz := 3) (bytes := 40) tab_ok (by kernel_rfl) rfl) (.c (tri_to (tri_append_sl (ex := 35) (bytes := 40) tab_ok rfl rfl rfl (all_map fun _ => rfl) (by (have hq := hJ4.2.2.2 hc6); (simp only [List.length_map, List.length_cons, List.length_nil] at *); omega)) (by simp [encOp])) .n))))) ?_
   refine then_mv ⟨32, [(0, (vL 7000 0)), (4, (sc (.slice none 0 0))), (5, (vO 1005)), (6, (vI (rdW s 0 m).1)), (7, (vI (i1 : Int)))], [(1005, (.arr 35 3 40 (List.map encOp (l3 ++ [(AOp.mk ((rdT s2 96).1) ((rdF ((rdT s2 96).2)).1) ((rdT ((rdF ((rdT s2 96).2)).2) 192).1))])))), (7000, (.cells 94 [(cD (List.map encB (RS.b ((rdT ((rdF ((rdT s2 96).2)).2) 192).2)))), (cI ((RS.at_ ((rdT ((rdF ((rdT s2 96).2)).2) 192).2)) : Int)), (cI (RS.e ((rdT ((rdF ((rdT s2 96).2)).2) 192).2))), (cB true)]))], [7000]⟩ rfl ?_
   refine peel_block ?_
   refine peel_seq ?_
   refine rk boxes [⟨1, false, [(vI (i1 : Int)), (vI 1)], [], (vI ((i1 : Int) + 1)), []⟩] [0, 4, 5, 6, 7] [1005, 7000] ⟨32, [(0, (vL 7000 0)), (4, (sc (.slice none 0 0))), (5, (vO 1005)), (6, (vI (rdW s 0 m).1)), (7, (vI ((i1 : Int) + 1)))], [(1005, (.arr 35 3 40 (List.map encOp (l3 ++ [(AOp.mk ((rdT s2 96).1) ((rdF ((rdT s2 96).2)).1) ((rdT ((rdF ((rdT s2 96).2)).2) 192).1))])))), (7000, (.cells 94 [(cD (List.map encB (RS.b ((rdT ((rdF ((rdT s2 96).2)).2) 192).2)))), (cI ((RS.at_ ((rdT ((rdF ((rdT s2 96).2)).2) 192).2)) : Int)), (cI (RS.e ((rdT ((rdF ((rdT s2 96).2)).2) 192).2))), (cB true)]))], [7000]⟩ (by kernel_rfl) (.c (tri_int ((i1 : Int) + 1) (wrap_i64 (by omega))) .n) ?_
   exact peel_round (i1 + 1, ((rdT ((rdF ((rdT s2 96).2)).2) 192).2), (l3 ++ [(AOp.mk ((rdT s2 96).1) ((rdF ((rdT s2 96).2)).1) ((rdT ((rdF ((rdT s2 96).2)).2) 192).1))])) rfl (⟨by (try simp only); omega, rdO_ok hJ4.2.1, by (have hj := hJ4.2.2.1); rw [show (rdW s 0 m).1.toNat - i1 = ((rdW s 0 m).1.toNat - (i1 + 1)) + 1 by omega, getF_next hc6] at hj; exact hj, fun h => by (have hg := rdO_grow hJ4.2.1 h); (have hq := hJ4.2.2.2 hc6); simp only [List.length_append, List.length_cons, List.length_nil]; exact Nat.le_trans (Nat.succ_le_succ hq) hg⟩) (by (try simp only); omega)
  ·skip
   have hc6p : (RS.e s2) ≠ 0 := by simpa using hc6
   have hE : getF (rdW s 0 m).1.toNat ((rdW s 0 m).2) [] = (l3, s2) := by rw [← hJ4.2.2.1]; exact getF_stop hc6
   refine awp_exit ?_
   refine peel_seq_exit ?_
   refine peel_seq_exit ?_
   refine peel_hit ?_
   refine peel_seq ?_
   refine awp_seq ?_
   refine rk boxes [] [4] [1005, 7000] ⟨32, [(4, (vO 1005))], [(1005, (.arr 35 3 40 (List.map encOp l3))), (7000, (.cells 94 [(cD (List.map encB (RS.b s2))), (cI ((RS.at_ s2) : Int)), (cI (RS.e s2)), (cB true)]))], [7000]⟩ (by kernel_rfl) .n ?_
   refine peel_seq ?_
   refine awp_mv [.fz 1005] ⟨32, [(4, (vD (List.map encOp l3)))], [(7000, (.cells 94 [(cD (List.map encB (RS.b s2))), (cI ((RS.at_ s2) : Int)), (cI (RS.e s2)), (cB true)]))], [7000]⟩ rfl ?_
   refine awp_ret ?_
   exact (have hR : getM s m = (l3, s2) := hE; ends_ret rfl (show some ((vD (List.map encOp l3)) : SV) = some ((vD (List.map encOp ((getM s m).1))) : SV) from by rw [hR]) (show some ([(7000, (.cells 94 [(cD (List.map encB (RS.b s2))), (cI ((RS.at_ s2) : Int)), (cI (RS.e s2)), (cB true)]))] : Objs) = some ([(7000, (.cells 94 [(cD (List.map encB (RS.b ((getM s m).2)))), (cI ((RS.at_ ((getM s m).2)) : Int)), (cI (RS.e ((getM s m).2))), (cB true)]))] : Objs) from by rw [hR]))
theorem q_BTake (s : RS) (hs : RS.ok s) (m : Int) : Sat Try.prog 40 [(vL 7000 0), (vI m)] [(7000, (.cells 74 [(cD (List.map encB (RS.b s))), (cI ((RS.at_ s) : Int)), (cI (RS.e s))]))] (vD (List.map encOp ((getM s m).1))) [(7000, (.cells 74 [(cD (List.map encB (RS.b ((getM s m).2)))), (cI ((RS.at_ ((getM s m).2)) : Int)), (cI (RS.e ((getM s m).2)))]))] := by
 refine sat_of_body tab_ok Try.func40 rfl (by kernel_rfl) (Nat.le_of_ble_eq_true rfl) rfl fun G => ?_
 refine awp_seq ?_
 refine rk boxes [] [0, 1, 4] [7000] ⟨34, [(0, (vL 7000 0)), (1, (vI m)), (4, (sc (.slice none 0 0)))], [(7000, (.cells 74 [(cD (List.map encB (RS.b s))), (cI ((RS.at_ s) : Int)), (cI (RS.e s))]))], [7000]⟩ (by kernel_rfl) .n ?_
 refine peel_seq ?_
 refine awp_seq ?_
 refine rk boxes [] [0, 1, 4, 5] [7000] ⟨34, [(0, (vL 7000 0)), (1, (vI m)), (4, (sc (.slice none 0 0))), (5, (sc (.slice none 0 0)))], [(7000, (.cells 74 [(cD (List.map encB (RS.b s))), (cI ((RS.at_ s) : Int)), (cI (RS.e s))]))], [7000]⟩ (by kernel_rfl) .n ?_
 refine peel_seq ?_
 refine awp_seq ?_
 refine rk boxes [⟨2, false, [(sc (.func (.func 66) #[] #[])), (vL 7000 0), (vI 0), (vI m)], [(7000, (.cells 74 [(cD (List.map encB (RS.b s))), (cI ((RS.at_ s) : Int)), (cI (RS.e s))]))], (vI (rdW s 0 m).1), [(7000, (.cells 74 [(cD (List.map encB (RS.b ((rdW s 0 m).2)))), (cI ((RS.at_ ((rdW s 0 m).2)) : Int)), (cI (RS.e ((rdW s 0 m).2)))]))]⟩] [0, 4, 5, 6] [7000] ⟨34, [(0, (vL 7000 0)), (4, (sc (.slice none 0 0))), (5, (sc (.slice none 0 0))), (6, (vI (rdW s 0 m).1))], [(7000, (.cells 74 [(cD (List.map encB (RS.b ((rdW s 0 m).2)))), (cI ((RS.at_ ((rdW s 0 m).2)) : Int)), (cI (RS.e ((rdW s 0 m).2)))]))], [7000]⟩ (by kernel_rfl) (.c (tri_call (q_RWithin s hs 0 m)) .n) ?_
 refine peel_seq ?_
 refine awp_seq ?_
 refine awp_seq ?_
 refine rk boxes [] [0, 4, 5, 6, 7] [7000] ⟨34, [(0, (vL 7000 0)), (4, (sc (.slice none 0 0))), (5, (sc (.slice none 0 0))), (6, (vI (rdW s 0 m).1)), (7, (vI 0))], [(7000, (.cells 74 [(cD (List.map encB (RS.b ((rdW s 0 m).2)))), (cI ((RS.at_ ((rdW s 0 m).2)) : Int)), (cI (RS.e ((rdW s 0 m).2)))]))], [7000]⟩ (by kernel_rfl) .n ?_
 refine peel_seq ?_
 refine awp_block ?_
 refine awp_mv [.own 5 1005 35 3 40] ⟨34, [(5, (vO 1005)), (0, (vL 7000 0)), (4, (sc (.slice none 0 0))), (6, (vI (rdW s 0 m).1)), (7, (vI 0))], [(1005, (.arr 35 3 40 [])), (7000, (.cells 74 [(cD (List.map encB (RS.b ((rdW s 0 m).2)))), (cI ((RS.at_ ((rdW s 0 m).2)) : Int)), (cI (RS.e ((rdW s 0 m).2)))]))], [7000]⟩ rfl ?_
 refine q_keep [0, 4, 5, 6, 7] [1005, 7000] ?_
 refine awp_loopP (ι := (Nat) × (RS) × (List AOp)) (fun x => ⟨34, [(0, (vL 7000 0)), (4, (sc (.slice none 0 0))), (5, (vO 1005)), (6, (vI (rdW s 0 m).1)), (7, (vI (x.1 : Int)))], [(1005, (.arr 35 3 40 (List.map encOp x.2.2))), (7000, (.cells 74 [(cD (List.map encB (RS.b x.2.1))), (cI ((RS.at_ x.2.1) : Int)), (cI (RS.e x.2.1))]))], [7000]⟩) (fun x => x.1 ≤ (rdW s 0 m).1.toNat ∧ RS.ok x.2.1 ∧ (getF ((rdW s 0 m).1.toNat - x.1) x.2.1 x.2.2 = getF (rdW s 0 m).1.toNat ((rdW s 0 m).2) []) ∧ ((x.2.1.e == 0) = true → List.length x.2.2 ≤ x.2.1.at_)) (fun x => (rdW s 0 m).1.toNat - x.1) (0, ((rdW s 0 m).2), []) rfl ⟨Nat.zero_le _, rdW_ok hs, rfl, fun _ => Nat.zero_le _⟩ ?_
 rintro ⟨i1, s2, l3⟩ hJ4
 try simp only at hJ4
 have hwn := rdW_le (lo := 0) (hi := m) hs
 have hfew := hJ4.2.1.few
 have hle := hJ4.2.1.le
 refine awp_seq ?_
 refine awp_seq ?_
 cases hb5 : (decide ((i1 : Int) < (rdW s 0 m).1)) with
 | false =>
  have hb5p := of_decide_eq_false hb5
  refine rk boxes [⟨2, false, [(vI (i1 : Int)), (vI (rdW s 0 m).1)], [], (vB false), []⟩] [0, 4, 5, 6, 7, 20] [1005, 7000] ⟨34, [(0, (vL 7000 0)), (4, (sc (.slice none 0 0))), (5, (vO 1005)), (6, (vI (rdW s 0 m).1)), (7, (vI (i1 : Int))), (20, (vB false))], [(1005, (.arr 35 3 40 (List.map encOp l3))), (7000, (.cells 74 [(cD (List.map encB (RS.b s2))), (cI ((RS.at_ s2) : Int)), (cI (RS.e s2))]))], [7000]⟩ (by kernel_rfl) (.c (tri_scalar_eq [(.int .i64 (i1 : Int)), (.int .i64 (rdW s 0 m).1)] (.bool (decide ((i1 : Int) < (rdW s 0 m).1))) rfl rfl rfl (by kernel_rfl) (congrArg Value.bool hb5)) .n) ?_
  refine peel_seq ?_
  refine awp_false rfl ?_
  have hE : getF (rdW s 0 m).1.toNat ((rdW s 0 m).2) [] = (l3, s2) := by rw [← hJ4.2.2.1, show (rdW s 0 m).1.toNat - i1 = 0 by omega]; rfl
  refine awp_exit ?_
  refine peel_seq_exit ?_
  refine peel_seq_exit ?_
  refine peel_hit ?_
  refine peel_seq ?_
  refine awp_seq ?_
  refine rk boxes [] [4] [1005, 7000] ⟨34, [(4, (vO 1005))], [(1005, (.arr 35 3 40 (List.map encOp l3))), (7000, (.cells 74 [(cD (List.map encB (RS.b s2))), (cI ((RS.at_ s2) : Int)), (cI (RS.e s2))]))], [7000]⟩ (by kernel_rfl) .n ?_
  refine peel_seq ?_
  refine awp_mv [.fz 1005] ⟨34, [(4, (vD (List.map encOp l3)))], [(7000, (.cells 74 [(cD (List.map encB (RS.b s2))), (cI ((RS.at_ s2) : Int)), (cI (RS.e s2))]))], [7000]⟩ rfl ?_
  refine awp_ret ?_
  exact (have hR : getM s m = (l3, s2) := hE; ends_ret rfl (show some ((vD (List.map encOp l3)) : SV) = some ((vD (List.map encOp ((getM s m).1))) : SV) from by rw [hR]) (show some ([(7000, (.cells 74 [(cD (List.map encB (RS.b s2))), (cI ((RS.at_ s2) : Int)), (cI (RS.e s2))]))] : Objs) = some ([(7000, (.cells 74 [(cD (List.map encB (RS.b ((getM s m).2)))), (cI ((RS.at_ ((getM s m).2)) : Int)), (cI (RS.e ((getM s m).2)))]))] : Objs) from by rw [hR]))
 | true =>
  have hb5p := of_decide_eq_true hb5
  refine rk boxes [⟨2, false, [(vI (i1 : Int)), (vI (rdW s 0 m).1)], [], (vB true), []⟩] [0, 4, 5, 6, 7, 20] [1005, 7000] ⟨34, [(0, (vL 7000 0)), (4, (sc (.slice none 0 0))), (5, (vO 1005)), (6, (vI (rdW s 0 m).1)), (7, (vI (i1 : Int))), (20, (vB ((RS.e s2) == 0)))], [(1005, (.arr 35 3 40 (List.map encOp l3))), (7000, (.cells 74 [(cD (List.map encB (RS.b s2))), (cI ((RS.at_ s2) : Int)), (cI (RS.e s2))]))], [7000]⟩ (by kernel_rfl) (.c (tri_scalar_eq [(.int .i64 (i1 : Int)), (.int .i64 (rdW s 0 m).1)] (.bool (decide ((i1 : Int) < (rdW s 0 m).1))) rfl rfl rfl (by kernel_rfl) (congrArg Value.bool hb5)) .n) ?_
  refine peel_seq ?_
  refine awp_cond (b := ((RS.e s2) == 0)) rfl (fun hc6 => ?_) (fun hc6 => ?_)
  ·skip
   have hc6p : (RS.e s2) = 0 := by simpa using hc6
   refine awp_skip ?_
   refine peel_seq ?_
   refine awp_seq ?_
   refine awp_block ?_
   refine awp_then [.sw 32 1005] ?_
   refine rk boxes [⟨2, false, [(sc (.func (.func 67) #[] #[])), (vL 7000 0), (vI 96)], [(7000, (.cells 74 [(cD (List.map encB (RS.b s2))), (cI ((RS.at_ s2) : Int)), (cI (RS.e s2))]))], (vS (rdT s2 96).1), [(7000, (.cells 74 [(cD (List.map encB (RS.b ((rdT s2 96).2)))), (cI ((RS.at_ ((rdT s2 96).2)) : Int)), (cI (RS.e ((rdT s2 96).2)))]))]⟩, ⟨4, false, [(sc (.func (.func 68) #[] #[])), (vL 7000 0)], [(7000, (.cells 74 [(cD (List.map encB (RS.b ((rdT s2 96).2)))), (cI ((RS.at_ ((rdT s2 96).2)) : Int)), (cI (RS.e ((rdT s2 96).2)))]))], (vB (rdF ((rdT s2 96).2)).1), [(7000, (.cells 74 [(cD (List.map encB (RS.b ((rdF ((rdT s2 96).2)).2)))), (cI ((RS.at_ ((rdF ((rdT s2 96).2)).2)) : Int)), (cI (RS.e ((rdF ((rdT s2 96).2)).2)))]))]⟩, ⟨6, false, [(sc (.func (.func 67) #[] #[])), (vL 7000 0), (vI 192)], [(7000, (.cells 74 [(cD (List.map encB (RS.b ((rdF ((rdT s2 96).2)).2)))), (cI ((RS.at_ ((rdF ((rdT s2 96).2)).2)) : Int)), (cI (RS.e ((rdF ((rdT s2 96).2)).2)))]))], (vS (rdT ((rdF ((rdT s2 96).2)).2) 192).1), [(7000, (.cells 74 [(cD (List.map encB (RS.b ((rdT ((rdF ((rdT s2 96).2)).2) 192).2)))), (cI ((RS.at_ ((rdT ((rdF ((rdT s2 96).2)).2) 192).2)) : Int)), (cI (RS.e ((rdT ((rdF ((rdT s2 96).2)).2) 192).2)))]))]⟩, ⟨8, false, [(.t (.agg [(cS (rdT s2 96).1), (cB (rdF ((rdT s2 96).2)).1), (cS (rdT ((rdF ((rdT s2 96).2)).2) 192).1)]))], [], (vD (List.map encOp ([(AOp.mk ((rdT s2 96).1) ((rdF ((rdT s2 96).2)).1) ((rdT ((rdF ((rdT s2 96).2)).2) 192).1))]))), []⟩, ⟨9, false, [(vO 1005), (vD (List.map encOp ([(AOp.mk ((rdT s2 96).1) ((rdF ((rdT s2 96).2)).1) ((rdT ((rdF ((rdT s2 96).2)).2) 192).1))])))], [(1005, (.arr 35 3 40 (List.map encOp l3)))], (vO 32), [(32, (.arr 35 3 40 (List.map encOp (l3 ++ [(AOp.mk ((rdT s2 96).1) ((rdF ((rdT s2 96).2)).1) ((rdT ((rdF ((rdT s2 96).2)).2) 192).1))]))))]⟩] [0, 4, 5, 6, 7] [32, 7000] ⟨34, [(0, (vL 7000 0)), (4, (sc (.slice none 0 0))), (5, (vO 32)), (6, (vI (rdW s 0 m).1)), (7, (vI (i1 : Int)))], [(32, (.arr 35 3 40 (List.map encOp (l3 ++ [(AOp.mk ((rdT s2 96).1) ((rdF ((rdT s2 96).2)).1) ((rdT ((rdF ((rdT s2 96).2)).2) 192).1))])))), (7000, (.cells 74 [(cD (List.map encB (RS.b ((rdT ((rdF ((rdT s2 96).2)).2) 192).2)))), (cI ((RS.at_ ((rdT ((rdF ((rdT s2 96).2)).2) 192).2)) : Int)), (cI (RS.e ((rdT ((rdF ((rdT s2 96).2)).2) 192).2)))]))], [7000]⟩ (by kernel_rfl) (.c (tri_call (q_RText s2 hJ4.2.1 96)) (.c (tri_call (q_RFlag ((rdT s2 96).2) (rdT_ok hJ4.2.1))) (.c (tri_call (q_RText ((rdF ((rdT s2 96).2)).2) (rdF_ok (rdT_ok hJ4.2.1)) 192)) (.c (tri_slice_data (e := 35) (sz := 3) (bytes := 40) tab_ok (by kernel_rfl) rfl) (.c (tri_to (tri_append_sl (ex := 35) (bytes := 40) tab_ok rfl rfl rfl (all_map fun _ => rfl) (by (have hq := hJ4.2.2.2 hc6); (simp only [List.length_map, List.length_cons, List.length_nil] at *); omega)) (by simp [encOp])) .n))))) ?_
   refine then_mv ⟨34, [(0, (vL 7000 0)), (4, (sc (.slice none 0 0))), (5, (vO 1005)), (6, (vI (rdW s 0 m).1)), (7, (vI (i1 : Int)))], [(1005, (.arr 35 3 40 (List.map encOp (l3 ++ [(AOp.mk ((rdT s2 96).1) ((rdF ((rdT s2 96).2)).1) ((rdT ((rdF ((rdT s2 96).2)).2) 192).1))])))), (7000, (.cells 74 [(cD (List.map encB (RS.b ((rdT ((rdF ((rdT s2 96).2)).2) 192).2)))), (cI ((RS.at_ ((rdT ((rdF ((rdT s2 96).2)).2) 192).2)) : Int)), (cI (RS.e ((rdT ((rdF ((rdT s2 96).2)).2) 192).2)))]))], [7000]⟩ rfl ?_
   refine peel_block ?_
   refine peel_seq ?_
   refine rk boxes [⟨1, false, [(vI (i1 : Int)), (vI 1)], [], (vI ((i1 : Int) + 1)), []⟩] [0, 4, 5, 6, 7] [1005, 7000] ⟨34, [(0, (vL 7000 0)), (4, (sc (.slice none 0 0))), (5, (vO 1005)), (6, (vI (rdW s 0 m).1)), (7, (vI ((i1 : Int) + 1)))], [(1005, (.arr 35 3 40 (List.map encOp (l3 ++ [(AOp.mk ((rdT s2 96).1) ((rdF ((rdT s2 96).2)).1) ((rdT ((rdF ((rdT s2 96).2)).2) 192).1))])))), (7000, (.cells 74 [(cD (List.map encB (RS.b ((rdT ((rdF ((rdT s2 96).2)).2) 192).2)))), (cI ((RS.at_ ((rdT ((rdF ((rdT s2 96).2)).2) 192).2)) : Int)), (cI (RS.e ((rdT ((rdF ((rdT s2 96).2)).2) 192).2)))]))], [7000]⟩ (by kernel_rfl) (.c (tri_int ((i1 : Int) + 1) (wrap_i64 (by omega))) .n) ?_
   exact peel_round (i1 + 1, ((rdT ((rdF ((rdT s2 96).2)).2) 192).2), (l3 ++ [(AOp.mk ((rdT s2 96).1) ((rdF ((rdT s2 96).2)).1) ((rdT ((rdF ((rdT s2 96).2)).2) 192).1))])) rfl (⟨by (try simp only); omega, rdO_ok hJ4.2.1, by (have hj := hJ4.2.2.1); rw [show (rdW s 0 m).1.toNat - i1 = ((rdW s 0 m).1.toNat - (i1 + 1)) + 1 by omega, getF_next hc6] at hj; exact hj, fun h => by (have hg := rdO_grow hJ4.2.1 h); (have hq := hJ4.2.2.2 hc6); simp only [List.length_append, List.length_cons, List.length_nil]; exact Nat.le_trans (Nat.succ_le_succ hq) hg⟩) (by (try simp only); omega)
  ·skip
   have hc6p : (RS.e s2) ≠ 0 := by simpa using hc6
   have hE : getF (rdW s 0 m).1.toNat ((rdW s 0 m).2) [] = (l3, s2) := by rw [← hJ4.2.2.1]; exact getF_stop hc6
   refine awp_exit ?_
   refine peel_seq_exit ?_
   refine peel_seq_exit ?_
   refine peel_hit ?_
   refine peel_seq ?_
   refine awp_seq ?_
   refine rk boxes [] [4] [1005, 7000] ⟨34, [(4, (vO 1005))], [(1005, (.arr 35 3 40 (List.map encOp l3))), (7000, (.cells 74 [(cD (List.map encB (RS.b s2))), (cI ((RS.at_ s2) : Int)), (cI (RS.e s2))]))], [7000]⟩ (by kernel_rfl) .n ?_
   refine peel_seq ?_
   refine awp_mv [.fz 1005] ⟨34, [(4, (vD (List.map encOp l3)))], [(7000, (.cells 74 [(cD (List.map encB (RS.b s2))), (cI ((RS.at_ s2) : Int)), (cI (RS.e s2))]))], [7000]⟩ rfl ?_
   refine awp_ret ?_
   exact (have hR : getM s m = (l3, s2) := hE; ends_ret rfl (show some ((vD (List.map encOp l3)) : SV) = some ((vD (List.map encOp ((getM s m).1))) : SV) from by rw [hR]) (show some ([(7000, (.cells 74 [(cD (List.map encB (RS.b s2))), (cI ((RS.at_ s2) : Int)), (cI (RS.e s2))]))] : Objs) = some ([(7000, (.cells 74 [(cD (List.map encB (RS.b ((getM s m).2)))), (cI ((RS.at_ ((getM s m).2)) : Int)), (cI (RS.e ((getM s m).2)))]))] : Objs) from by rw [hR]))
end Go.Proofs.Ytjbiaoajmdbigaa
