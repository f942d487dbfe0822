/- Walks of package text. -/
import Derived.Test.YtjbiaoajmdbigaaTab
import Derived.Test.YtjbiaoajmdbigaaTx
set_option maxRecDepth 100000
set_option linter.unusedVariables false
set_option linter.unusedSimpArgs false
namespace Go.Proofs.Ytjbiaoajmdbigaa
open Go Go.E
theorem s_plain (c : Int) : Sat Try.prog 84 [(sc (.int .i32 c))] [] (vB (plainR c)) [] := by
 refine sat_of_body tab_ok Try.func84 rfl (by kernel_rfl) (Nat.le_of_ble_eq_true rfl) rfl fun G => ?_
 refine awp_seq ?_
 refine rk boxes [] [0, 2] [] ⟨13, [(0, (sc (.int .i32 c))), (2, (vB false))], [], []⟩ (by kernel_rfl) .n ?_
 refine peel_seq ?_
 refine awp_seq ?_
 cases hb1 : (decide (c ≥ 32)) with
 | false =>
  have hb1p := of_decide_eq_false hb1
  refine rk boxes [⟨1, false, [(sc (.int .i32 c)), (sc (.int .i32 32))], [], (vB false), []⟩] [2] [] ⟨13, [(2, (vB false))], [], []⟩ (by kernel_rfl) (.c (tri_scalar_eq [(.int .i32 c), (.int .i32 32)] (.bool (decide (c ≥ 32))) rfl rfl rfl (by kernel_rfl) (congrArg Value.bool hb1)) .n) ?_
  refine peel_seq ?_
  refine awp_ret ?_
  exact ends_ret rfl (show some ((vB false) : SV) = some ((vB (plainR c)) : SV) from by first | rfl | (simp only [plainR, hb1, cond_true, cond_false])) rfl
 | true =>
  have hb1p := of_decide_eq_true hb1
  cases hb2 : (c != 127) with
  | false =>
   have hb2p : c = 127 := by simpa using hb2
   refine rk boxes [⟨1, false, [(sc (.int .i32 c)), (sc (.int .i32 32))], [], (vB true), []⟩, ⟨4, false, [(sc (.int .i32 c)), (sc (.int .i32 127))], [], (vB false), []⟩] [2] [] ⟨13, [(2, (vB false))], [], []⟩ (by kernel_rfl) (.c (tri_scalar_eq [(.int .i32 c), (.int .i32 32)] (.bool (decide (c ≥ 32))) rfl rfl rfl (by kernel_rfl) (congrArg Value.bool hb1)) (.c (tri_scalar_eq [(.int .i32 c), (.int .i32 127)] (.bool (c != 127)) rfl rfl rfl (by kernel_rfl) (congrArg Value.bool hb2)) .n)) ?_
   refine peel_seq ?_
   refine awp_ret ?_
   exact ends_ret rfl (show some ((vB false) : SV) = some ((vB (plainR c)) : SV) from by first | rfl | (simp only [plainR, hb1, hb2, cond_true, cond_false])) rfl
  | true =>
   have hb2p : c ≠ 127 := by simpa using hb2
   refine rk boxes [⟨1, false, [(sc (.int .i32 c)), (sc (.int .i32 32))], [], (vB true), []⟩, ⟨4, false, [(sc (.int .i32 c)), (sc (.int .i32 127))], [], (vB true), []⟩] [2] [] ⟨13, [(2, (vB (c != 65533)))], [], []⟩ (by kernel_rfl) (.c (tri_scalar_eq [(.int .i32 c), (.int .i32 32)] (.bool (decide (c ≥ 32))) rfl rfl rfl (by kernel_rfl) (congrArg Value.bool hb1)) (.c (tri_scalar_eq [(.int .i32 c), (.int .i32 127)] (.bool (c != 127)) rfl rfl rfl (by kernel_rfl) (congrArg Value.bool hb2)) .n)) ?_
   refine peel_seq ?_
   refine awp_ret ?_
   exact ends_ret rfl (show some ((vB (c != 65533)) : SV) = some ((vB (plainR c)) : SV) from by first | rfl | (simp only [plainR, hb1, hb2, cond_true, cond_false])) rfl
theorem s_all (s : ByteArray) (lo hi : Int) (hh : hi ≤ 1000) : Sat Try.prog 83 [(vS s), (vI lo), (vI hi), (sc (.func (.func 84) #[] #[]))] [] (vB (allR lo hi (runes s) 0)) [] := by
 refine sat_of_body tab_ok Try.func83 rfl (by kernel_rfl) (Nat.le_of_ble_eq_true rfl) rfl fun G => ?_
 refine awp_seq ?_
 refine rk boxes [] [0, 1, 2, 3, 8] [] ⟨31, [(0, (vS s)), (1, (vI lo)), (2, (vI hi)), (3, (sc (.func (.func 84) #[] #[]))), (8, (vB false))], [], []⟩ (by kernel_rfl) .n ?_
 refine peel_seq ?_
 refine awp_seq ?_
 refine rk boxes [] [0, 1, 2, 3, 8, 9] [] ⟨31, [(0, (vS s)), (1, (vI lo)), (2, (vI hi)), (3, (sc (.func (.func 84) #[] #[]))), (8, (vB false)), (9, (vI 0))], [], []⟩ (by kernel_rfl) .n ?_
 refine peel_seq ?_
 refine awp_seq ?_
 refine awp_seq ?_
 refine rk boxes [⟨1, false, [(vS s)], [], (vL 13 0), [(13, (.it s 0))]⟩] [1, 2, 3, 8, 9, 13] [13] ⟨31, [(1, (vI lo)), (2, (vI hi)), (3, (sc (.func (.func 84) #[] #[]))), (8, (vB false)), (9, (vI 0)), (13, (vL 13 0))], [(13, (.it s 0))], []⟩ (by kernel_rfl) (.c (tri_range_str tab_ok 13 rfl) .n) ?_
 refine peel_seq ?_
 refine awp_block ?_
 refine awp_loopP (ι := Nat × Int) (fun x => ⟨31, [(1, (vI lo)), (2, (vI hi)), (3, (sc (.func (.func 84) #[] #[]))), (8, (vB false)), (9, (vI x.2)), (13, (vL 13 0))], [(13, (.it s x.1))], []⟩) (fun x => (0 ≤ x.2 ∧ x.2 ≤ hi ∨ x.2 = 0) ∧ allR lo hi (runesAt s x.1) x.2 = allR lo hi (runes s) 0) (fun x => s.size - x.1) (0, 0) rfl ⟨.inr rfl, rfl⟩ ?_
 rintro ⟨p, n⟩ ⟨hJ1, hJ⟩
 have hw := width_pos s p
 refine awp_seq ?_
 cases hb1 : (decide (p < ByteArray.size s)) with
 | false =>
  have hb1p := of_decide_eq_false hb1
  refine rk boxes [⟨0, false, [(vL 13 0)], [(13, (.it s p))], (.tup [(.c (cB false))]), [(13, (.it s p))]⟩] [1, 2, 3, 8, 9, 13, 14, 15] [13] ⟨31, [(1, (vI lo)), (2, (vI hi)), (3, (sc (.func (.func 84) #[] #[]))), (8, (vB false)), (9, (vI n)), (13, (vL 13 0)), (14, (.tup [(.c (cB false))])), (15, (vB false))], [(13, (.it s p))], []⟩ (by kernel_rfl) (.c (tri_next_end (of_decide_eq_false hb1)) .n) ?_
  refine peel_seq ?_
  refine awp_seq ?_
  refine awp_false rfl ?_
  refine awp_exit ?_
  refine peel_seq_exit ?_
  refine peel_seq_exit ?_
  refine peel_hit ?_
  refine peel_seq ?_
  refine awp_seq ?_
  refine rk boxes [] [8] [] ⟨31, [(8, (vB (decide (n ≥ lo))))], [], []⟩ (by kernel_rfl) .n ?_
  refine peel_seq ?_
  refine awp_ret ?_
  exact ends_ret rfl (show some ((vB (decide (n ≥ lo))) : SV) = some ((vB (allR lo hi (runes s) 0)) : SV) from by rw [← hJ, runesAt_end hb1p]; simp [allR, hb1]; try omega) rfl
 | true =>
  have hb1p := of_decide_eq_true hb1
  refine rk boxes [⟨0, false, [(vL 13 0)], [(13, (.it s p))], (.tup [(.c (cB true)), (.c (cI (p : Int))), (.c (.d (.v (.int .i32 ((Utf8.decode s p).1 : Int)))))]), [(13, (.it s (p + (Utf8.decode s p).2)))]⟩] [1, 2, 3, 8, 9, 13, 14, 15] [13] ⟨31, [(1, (vI lo)), (2, (vI hi)), (3, (sc (.func (.func 84) #[] #[]))), (8, (vB false)), (9, (vI n)), (13, (vL 13 0)), (14, (.tup [(.c (cB true)), (.c (cI (p : Int))), (.c (.d (.v (.int .i32 ((Utf8.decode s p).1 : Int)))))])), (15, (vB true))], [(13, (.it s (p + (Utf8.decode s p).2)))], []⟩ (by kernel_rfl) (.c (tri_next_more (of_decide_eq_true hb1)) .n) ?_
  refine peel_seq ?_
  refine awp_seq ?_
  refine awp_true rfl ?_
  refine awp_skip ?_
  refine peel_seq ?_
  refine awp_block ?_
  refine awp_seq ?_
  refine rk boxes [] [1, 2, 3, 8, 9, 11, 13] [13] ⟨31, [(1, (vI lo)), (2, (vI hi)), (3, (sc (.func (.func 84) #[] #[]))), (8, (vB false)), (9, (vI n)), (11, (sc (.int .i32 ((Utf8.decode s p).1 : Int)))), (13, (vL 13 0))], [(13, (.it s (p + (Utf8.decode s p).2)))], []⟩ (by kernel_rfl) .n ?_
  refine peel_seq ?_
  refine awp_seq ?_
  refine rk boxes [⟨1, false, [(vI n), (vI 1)], [], (vI (n + 1)), []⟩] [1, 2, 3, 8, 9, 11, 13] [13] ⟨31, [(1, (vI lo)), (2, (vI hi)), (3, (sc (.func (.func 84) #[] #[]))), (8, (vB false)), (9, (vI (n + 1))), (11, (sc (.int .i32 ((Utf8.decode s p).1 : Int)))), (13, (vL 13 0))], [(13, (.it s (p + (Utf8.decode s p).2)))], []⟩ (by kernel_rfl) (.c (tri_int (n + 1) (wrap_i64 (by omega))) .n) ?_
  refine peel_seq ?_
  refine awp_seq ?_
  cases hb2 : (decide ((n + 1) > hi)) with
  | false =>
   have hb2p := of_decide_eq_false hb2
   refine rk boxes [⟨2, false, [(vI (n + 1)), (vI hi)], [], (vB false), []⟩, ⟨6, false, [(sc (.func (.func 84) #[] #[])), (sc (.int .i32 ((Utf8.decode s p).1 : Int)))], [], (vB (plainR ((Utf8.decode s p).1 : Int))), []⟩] [1, 2, 3, 8, 9, 13, 27] [13] ⟨31, [(1, (vI lo)), (2, (vI hi)), (3, (sc (.func (.func 84) #[] #[]))), (8, (vB false)), (9, (vI (n + 1))), (13, (vL 13 0)), (27, (vB (!(plainR ((Utf8.decode s p).1 : Int)))))], [(13, (.it s (p + (Utf8.decode s p).2)))], []⟩ (by kernel_rfl) (.c (tri_scalar_eq [(.int .i64 (n + 1)), (.int .i64 hi)] (.bool (decide ((n + 1) > hi))) rfl rfl rfl (by kernel_rfl) (congrArg Value.bool hb2)) (.c (tri_call (s_plain ((Utf8.decode s p).1 : Int))) .n)) ?_
   refine peel_seq ?_
   refine awp_cond (b := (!(plainR ((Utf8.decode s p).1 : Int)))) rfl (fun hc3 => ?_) (fun hc3 => ?_)
   ·skip
    have hc3n : (plainR ((Utf8.decode s p).1 : Int)) = false := by simpa using hc3
    refine awp_seq ?_
    refine rk boxes [] [1, 2, 3, 8, 9, 13] [13] ⟨31, [(1, (vI lo)), (2, (vI hi)), (3, (sc (.func (.func 84) #[] #[]))), (8, (vB false)), (9, (vI (n + 1))), (13, (vL 13 0))], [(13, (.it s (p + (Utf8.decode s p).2)))], []⟩ (by kernel_rfl) .n ?_
    refine peel_seq ?_
    refine awp_ret ?_
    refine peel_block_ret ?_
    refine peel_seq_ret ?_
    refine peel_block_ret ?_
    refine peel_seq_ret ?_
    exact ends_ret rfl (show some ((vB false) : SV) = some ((vB (allR lo hi (runes s) 0)) : SV) from by rw [← hJ, runesAt_more hb1p]; simp [allR, hb1, hb2, hc3, hc3n]; try omega) rfl
   ·skip
    have hc3n : (plainR ((Utf8.decode s p).1 : Int)) = true := by simpa using hc3
    refine q_keep [1, 2, 3, 8, 9, 13] [13] ?_
    refine awp_skip ?_
    refine peel_block ?_
    exact peel_round ((p + (Utf8.decode s p).2), (n + 1)) rfl ⟨by omega, by rw [← hJ, runesAt_more hb1p]; simp [allR, hb1, hb2, hc3, hc3n] <;> (intros; omega)⟩ (by simp only; omega)
  | true =>
   have hb2p := of_decide_eq_true hb2
   refine rk boxes [⟨2, false, [(vI (n + 1)), (vI hi)], [], (vB true), []⟩] [1, 2, 3, 8, 9, 13, 27] [13] ⟨31, [(1, (vI lo)), (2, (vI hi)), (3, (sc (.func (.func 84) #[] #[]))), (8, (vB false)), (9, (vI (n + 1))), (13, (vL 13 0)), (27, (vB true))], [(13, (.it s (p + (Utf8.decode s p).2)))], []⟩ (by kernel_rfl) (.c (tri_scalar_eq [(.int .i64 (n + 1)), (.int .i64 hi)] (.bool (decide ((n + 1) > hi))) rfl rfl rfl (by kernel_rfl) (congrArg Value.bool hb2)) .n) ?_
   refine peel_seq ?_
   refine awp_true rfl ?_
   refine awp_seq ?_
   refine rk boxes [] [1, 2, 3, 8, 9, 13] [13] ⟨31, [(1, (vI lo)), (2, (vI hi)), (3, (sc (.func (.func 84) #[] #[]))), (8, (vB false)), (9, (vI (n + 1))), (13, (vL 13 0))], [(13, (.it s (p + (Utf8.decode s p).2)))], []⟩ (by kernel_rfl) .n ?_
   refine peel_seq ?_
   refine awp_ret ?_
   refine peel_block_ret ?_
   refine peel_seq_ret ?_
   refine peel_block_ret ?_
   refine peel_seq_ret ?_
   exact ends_ret rfl (show some ((vB false) : SV) = some ((vB (allR lo hi (runes s) 0)) : SV) from by rw [← hJ, runesAt_more hb1p]; simp [allR, hb1, hb2]; try omega) rfl
theorem s_Key (s : ByteArray) : Sat Try.prog 72 [(vS s)] [] (vI (keyE s)) [] := by
 refine sat_of_body tab_ok Try.func72 rfl (by kernel_rfl) (Nat.le_of_ble_eq_true rfl) rfl fun G => ?_
 refine awp_seq ?_
 refine rk boxes [] [0, 2] [] ⟨6, [(0, (vS s)), (2, (vI 0))], [], []⟩ (by kernel_rfl) .n ?_
 refine peel_seq ?_
 refine awp_seq ?_
 refine awp_seq ?_
 refine rk boxes [⟨1, false, [(sc (.func (.func 83) #[] #[])), (vS s), (vI 1), (vI 24), (sc (.func (.func 84) #[] #[]))], [], (vB (allR 1 24 (runes s) 0)), []⟩] [2, 5] [] ⟨6, [(2, (vI 0)), (5, (vB (!(allR 1 24 (runes s) 0))))], [], []⟩ (by kernel_rfl) (.c (tri_call (s_all s 1 24 (by decide))) .n) ?_
 refine peel_seq ?_
 refine awp_cond (b := (!(allR 1 24 (runes s) 0))) rfl (fun hc1 => ?_) (fun hc1 => ?_)
 ·skip
  have hc1n : (allR 1 24 (runes s) 0) = false := by simpa using hc1
  refine awp_seq ?_
  refine rk boxes [] [2] [] ⟨6, [(2, (vI 20))], [], []⟩ (by kernel_rfl) .n ?_
  refine peel_seq ?_
  refine awp_ret ?_
  refine peel_seq_ret ?_
  exact ends_ret rfl (show some ((vI 20) : SV) = some ((vI (keyE s)) : SV) from by first | rfl | (simp [keyE, hc1, hc1n])) rfl
 ·skip
  have hc1n : (allR 1 24 (runes s) 0) = true := by simpa using hc1
  refine awp_skip ?_
  refine peel_seq ?_
  refine awp_seq ?_
  refine rk boxes [] [2] [] ⟨6, [(2, (vI 0))], [], []⟩ (by kernel_rfl) .n ?_
  refine peel_seq ?_
  refine awp_ret ?_
  exact ends_ret rfl (show some ((vI 0) : SV) = some ((vI (keyE s)) : SV) from by first | rfl | (simp [keyE, hc1, hc1n])) rfl
theorem s_Value (s : ByteArray) : Sat Try.prog 73 [(vS s)] [] (vI (valE s)) [] := by
 refine sat_of_body tab_ok Try.func73 rfl (by kernel_rfl) (Nat.le_of_ble_eq_true rfl) rfl fun G => ?_
 refine awp_seq ?_
 refine rk boxes [] [0, 2] [] ⟨6, [(0, (vS s)), (2, (vI 0))], [], []⟩ (by kernel_rfl) .n ?_
 refine peel_seq ?_
 refine awp_seq ?_
 refine awp_seq ?_
 refine rk boxes [⟨1, false, [(sc (.func (.func 83) #[] #[])), (vS s), (vI 0), (vI 48), (sc (.func (.func 84) #[] #[]))], [], (vB (allR 0 48 (runes s) 0)), []⟩] [2, 5] [] ⟨6, [(2, (vI 0)), (5, (vB (!(allR 0 48 (runes s) 0))))], [], []⟩ (by kernel_rfl) (.c (tri_call (s_all s 0 48 (by decide))) .n) ?_
 refine peel_seq ?_
 refine awp_cond (b := (!(allR 0 48 (runes s) 0))) rfl (fun hc1 => ?_) (fun hc1 => ?_)
 ·skip
  have hc1n : (allR 0 48 (runes s) 0) = false := by simpa using hc1
  refine awp_seq ?_
  refine rk boxes [] [2] [] ⟨6, [(2, (vI 21))], [], []⟩ (by kernel_rfl) .n ?_
  refine peel_seq ?_
  refine awp_ret ?_
  refine peel_seq_ret ?_
  exact ends_ret rfl (show some ((vI 21) : SV) = some ((vI (valE s)) : SV) from by first | rfl | (simp [valE, hc1, hc1n])) rfl
 ·skip
  have hc1n : (allR 0 48 (runes s) 0) = true := by simpa using hc1
  refine awp_skip ?_
  refine peel_seq ?_
  refine awp_seq ?_
  refine rk boxes [] [2] [] ⟨6, [(2, (vI 0))], [], []⟩ (by kernel_rfl) .n ?_
  refine peel_seq ?_
  refine awp_ret ?_
  exact ends_ret rfl (show some ((vI 0) : SV) = some ((vI (valE s)) : SV) from by first | rfl | (simp [valE, hc1, hc1n])) rfl
end Go.Proofs.Ytjbiaoajmdbigaa
