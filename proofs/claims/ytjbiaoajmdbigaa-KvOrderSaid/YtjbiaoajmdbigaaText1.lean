/- Walks of package text. -/
import Derived.Test.YtjbiaoajmdbigaaTab
import Derived.Test.YtjbiaoajmdbigaaTx
set_option maxRecDepth 100000
set_option linter.unusedVariables false
set_option linter.unusedSimpArgs false
namespace Go.Proofs.Ytjbiaoajmdbigaa
open Go Go.E
theorem s_plain (c : Int) : Sat Try.prog 84 [(sc (.int .i32 c))] [] (sc (.bool (plainR c))) [] := by
  refine sat_of_body tab_ok Try.func84 rfl (by kernel_rfl) (Nat.le_of_ble_eq_true rfl) rfl fun G => ?_
  refine awp_seq ?_
  refine awp_region_keep tab_ok boxes [] [0, 2] [] ⟨13, [(0, (sc (.int .i32 c))), (2, (sc (.bool false)))], [], []⟩ [] mixed (by kernel_rfl) trivial ?_
  refine peel_seq ?_
  refine awp_seq ?_
  cases hb1 : (decide (c ≥ 32)) with
  | false =>
    have hb1p := of_decide_eq_false hb1
    refine awp_region_keep tab_ok boxes [(1, ⟨[], (sc (.bool false)), some []⟩)] [2] [] ⟨13, [(2, (sc (.bool false)))], [], []⟩ [⟨(Go.Op.binOp Go.BinOp.geq 21 (Go.Operand.tmp 3) (Go.Operand.const (Go.Value.int Go.IntKind.i32 32)) 21), 4, [(sc (.int .i32 c)), (sc (.int .i32 32))], [], (sc (.bool false)), []⟩] mixed (by kernel_rfl) ⟨tri_scalar_eq [(.int .i32 c), (.int .i32 32)] (.bool (decide (c ≥ 32))) rfl rfl rfl (by kernel_rfl) (congrArg Value.bool hb1), trivial⟩ ?_
    refine peel_seq ?_
    refine awp_ret ?_
    exact ends_ret rfl (show some ((sc (.bool false)) : SV) = some ((sc (.bool (plainR c))) : SV) from by first | rfl | (simp only [plainR, hb1, cond_true, cond_false])) rfl
  | true =>
    have hb1p := of_decide_eq_true hb1
    cases hb2 : (c != 127) with
    | false =>
      have hb2p : c = 127 := by simpa using hb2
      refine awp_region_keep tab_ok boxes [(1, ⟨[], (sc (.bool true)), some []⟩), (4, ⟨[], (sc (.bool false)), some []⟩)] [2] [] ⟨13, [(2, (sc (.bool false)))], [], []⟩ [⟨(Go.Op.binOp Go.BinOp.geq 21 (Go.Operand.tmp 3) (Go.Operand.const (Go.Value.int Go.IntKind.i32 32)) 21), 4, [(sc (.int .i32 c)), (sc (.int .i32 32))], [], (sc (.bool true)), []⟩, ⟨(Go.Op.binOp Go.BinOp.neq 21 (Go.Operand.tmp 6) (Go.Operand.const (Go.Value.int Go.IntKind.i32 127)) 21), 4, [(sc (.int .i32 c)), (sc (.int .i32 127))], [], (sc (.bool false)), []⟩] mixed (by kernel_rfl) ⟨tri_scalar_eq [(.int .i32 c), (.int .i32 32)] (.bool (decide (c ≥ 32))) rfl rfl rfl (by kernel_rfl) (congrArg Value.bool hb1), tri_scalar_eq [(.int .i32 c), (.int .i32 127)] (.bool (c != 127)) rfl rfl rfl (by kernel_rfl) (congrArg Value.bool hb2), trivial⟩ ?_
      refine peel_seq ?_
      refine awp_ret ?_
      exact ends_ret rfl (show some ((sc (.bool false)) : SV) = some ((sc (.bool (plainR c))) : SV) from by first | rfl | (simp only [plainR, hb1, hb2, cond_true, cond_false])) rfl
    | true =>
      have hb2p : c ≠ 127 := by simpa using hb2
      refine awp_region_keep tab_ok boxes [(1, ⟨[], (sc (.bool true)), some []⟩), (4, ⟨[], (sc (.bool true)), some []⟩)] [2] [] ⟨13, [(2, (sc (.bool (c != 65533))))], [], []⟩ [⟨(Go.Op.binOp Go.BinOp.geq 21 (Go.Operand.tmp 3) (Go.Operand.const (Go.Value.int Go.IntKind.i32 32)) 21), 4, [(sc (.int .i32 c)), (sc (.int .i32 32))], [], (sc (.bool true)), []⟩, ⟨(Go.Op.binOp Go.BinOp.neq 21 (Go.Operand.tmp 6) (Go.Operand.const (Go.Value.int Go.IntKind.i32 127)) 21), 4, [(sc (.int .i32 c)), (sc (.int .i32 127))], [], (sc (.bool true)), []⟩] mixed (by kernel_rfl) ⟨tri_scalar_eq [(.int .i32 c), (.int .i32 32)] (.bool (decide (c ≥ 32))) rfl rfl rfl (by kernel_rfl) (congrArg Value.bool hb1), tri_scalar_eq [(.int .i32 c), (.int .i32 127)] (.bool (c != 127)) rfl rfl rfl (by kernel_rfl) (congrArg Value.bool hb2), trivial⟩ ?_
      refine peel_seq ?_
      refine awp_ret ?_
      exact ends_ret rfl (show some ((sc (.bool (c != 65533))) : SV) = some ((sc (.bool (plainR c))) : SV) from by first | rfl | (simp only [plainR, hb1, hb2, cond_true, cond_false])) rfl
theorem s_all (s : ByteArray) (lo hi : Int) (hh : hi ≤ 1000) : Sat Try.prog 83 [(sc (.string s)), (sc (.int .i64 lo)), (sc (.int .i64 hi)), (sc (.func (.func 84) #[] #[]))] [] (sc (.bool (allR lo hi (runes s) 0))) [] := by
  refine sat_of_body tab_ok Try.func83 rfl (by kernel_rfl) (Nat.le_of_ble_eq_true rfl) rfl fun G => ?_
  refine awp_seq ?_
  refine awp_region_keep tab_ok boxes [] [0, 1, 2, 3, 8] [] ⟨31, [(0, (sc (.string s))), (1, (sc (.int .i64 lo))), (2, (sc (.int .i64 hi))), (3, (sc (.func (.func 84) #[] #[]))), (8, (sc (.bool false)))], [], []⟩ [] mixed (by kernel_rfl) trivial ?_
  refine peel_seq ?_
  refine awp_seq ?_
  refine awp_region_keep tab_ok boxes [] [0, 1, 2, 3, 8, 9] [] ⟨31, [(0, (sc (.string s))), (1, (sc (.int .i64 lo))), (2, (sc (.int .i64 hi))), (3, (sc (.func (.func 84) #[] #[]))), (8, (sc (.bool false))), (9, (sc (.int .i64 0)))], [], []⟩ [] mixed (by kernel_rfl) trivial ?_
  refine peel_seq ?_
  refine awp_seq ?_
  refine awp_seq ?_
  refine awp_region_keep tab_ok boxes [(1, ⟨[], (.t (.c (.loc 13 0))), some [(13, (.it s 0))]⟩)] [1, 2, 3, 8, 9, 13] [13] ⟨31, [(1, (sc (.int .i64 lo))), (2, (sc (.int .i64 hi))), (3, (sc (.func (.func 84) #[] #[]))), (8, (sc (.bool false))), (9, (sc (.int .i64 0))), (13, (.t (.c (.loc 13 0))))], [(13, (.it s 0))], []⟩ [⟨(Go.Op.range 9 (Go.Operand.tmp 12)), 0, [(sc (.string s))], [], (.t (.c (.loc 13 0))), [(13, (.it s 0))]⟩] mixed (by kernel_rfl) ⟨tri_range_str tab_ok 13 rfl, trivial⟩ ?_
  refine peel_seq ?_
  refine awp_block ?_
  refine awp_loopP (ι := Nat × Int) (fun x => ⟨31, [(1, (sc (.int .i64 lo))), (2, (sc (.int .i64 hi))), (3, (sc (.func (.func 84) #[] #[]))), (8, (sc (.bool false))), (9, (sc (.int .i64 x.2))), (13, (.t (.c (.loc 13 0))))], [(13, (.it s x.1))], []⟩) (fun x => (0 ≤ x.2 ∧ x.2 ≤ hi ∨ x.2 = 0) ∧ allR lo hi (runesAt s x.1) x.2 = allR lo hi (runes s) 0) (fun x => s.size - x.1) (0, 0) rfl ⟨.inr rfl, rfl⟩ ?_
  rintro ⟨p, n⟩ ⟨hJ1, hJ⟩
  have hw := width_pos s p
  refine awp_seq ?_
  cases hb1 : (decide (p < ByteArray.size s)) with
  | false =>
    have hb1p := of_decide_eq_false hb1
    refine awp_region_keep tab_ok boxes [(0, ⟨[13], (.tup [(.c (.d (.v (.bool false))))]), some [(13, (.it s p))]⟩)] [1, 2, 3, 8, 9, 13, 14, 15] [13] ⟨31, [(1, (sc (.int .i64 lo))), (2, (sc (.int .i64 hi))), (3, (sc (.func (.func 84) #[] #[]))), (8, (sc (.bool false))), (9, (sc (.int .i64 n))), (13, (.t (.c (.loc 13 0)))), (14, (.tup [(.c (.d (.v (.bool false))))])), (15, (sc (.bool false)))], [(13, (.it s p))], []⟩ [⟨(Go.Op.next (Go.Operand.tmp 13) Bool.true), 0, [(.t (.c (.loc 13 0)))], [(13, (.it s p))], (.tup [(.c (.d (.v (.bool false))))]), [(13, (.it s p))]⟩] mixed (by kernel_rfl) ⟨tri_next_end (of_decide_eq_false hb1), trivial⟩ ?_
    refine peel_seq ?_
    refine awp_seq ?_
    refine awp_false rfl ?_
    refine awp_exit ?_
    refine peel_seq_exit ?_
    refine peel_seq_exit ?_
    refine peel_hit ?_
    refine peel_seq ?_
    refine awp_seq ?_
    refine awp_region_keep tab_ok boxes [] [8] [] ⟨31, [(8, (sc (.bool (decide (n ≥ lo)))))], [], []⟩ [] mixed (by kernel_rfl) trivial ?_
    refine peel_seq ?_
    refine awp_ret ?_
    exact ends_ret rfl (show some ((sc (.bool (decide (n ≥ lo)))) : SV) = some ((sc (.bool (allR lo hi (runes s) 0))) : SV) from by rw [← hJ, runesAt_end hb1p]; simp [allR, hb1]; try omega) rfl
  | true =>
    have hb1p := of_decide_eq_true hb1
    refine awp_region_keep tab_ok boxes [(0, ⟨[13], (.tup [(.c (.d (.v (.bool true)))), (.c (.d (.v (.int .i64 (p : Int))))), (.c (.d (.v (.int .i32 ((Utf8.decode s p).1 : Int)))))]), some [(13, (.it s (p + (Utf8.decode s p).2)))]⟩)] [1, 2, 3, 8, 9, 13, 14, 15] [13] ⟨31, [(1, (sc (.int .i64 lo))), (2, (sc (.int .i64 hi))), (3, (sc (.func (.func 84) #[] #[]))), (8, (sc (.bool false))), (9, (sc (.int .i64 n))), (13, (.t (.c (.loc 13 0)))), (14, (.tup [(.c (.d (.v (.bool true)))), (.c (.d (.v (.int .i64 (p : Int))))), (.c (.d (.v (.int .i32 ((Utf8.decode s p).1 : Int)))))])), (15, (sc (.bool true)))], [(13, (.it s (p + (Utf8.decode s p).2)))], []⟩ [⟨(Go.Op.next (Go.Operand.tmp 13) Bool.true), 0, [(.t (.c (.loc 13 0)))], [(13, (.it s p))], (.tup [(.c (.d (.v (.bool true)))), (.c (.d (.v (.int .i64 (p : Int))))), (.c (.d (.v (.int .i32 ((Utf8.decode s p).1 : Int)))))]), [(13, (.it s (p + (Utf8.decode s p).2)))]⟩] mixed (by kernel_rfl) ⟨tri_next_more (of_decide_eq_true hb1), trivial⟩ ?_
    refine peel_seq ?_
    refine awp_seq ?_
    refine awp_true rfl ?_
    refine awp_skip ?_
    refine peel_seq ?_
    refine awp_block ?_
    refine awp_seq ?_
    refine awp_region_keep tab_ok boxes [] [1, 2, 3, 8, 9, 11, 13] [13] ⟨31, [(1, (sc (.int .i64 lo))), (2, (sc (.int .i64 hi))), (3, (sc (.func (.func 84) #[] #[]))), (8, (sc (.bool false))), (9, (sc (.int .i64 n))), (11, (sc (.int .i32 ((Utf8.decode s p).1 : Int)))), (13, (.t (.c (.loc 13 0))))], [(13, (.it s (p + (Utf8.decode s p).2)))], []⟩ [] mixed (by kernel_rfl) trivial ?_
    refine peel_seq ?_
    refine awp_seq ?_
    refine awp_region_keep tab_ok boxes [(1, ⟨[], (sc (.int .i64 (n + 1))), some []⟩)] [1, 2, 3, 8, 9, 11, 13] [13] ⟨31, [(1, (sc (.int .i64 lo))), (2, (sc (.int .i64 hi))), (3, (sc (.func (.func 84) #[] #[]))), (8, (sc (.bool false))), (9, (sc (.int .i64 (n + 1)))), (11, (sc (.int .i32 ((Utf8.decode s p).1 : Int)))), (13, (.t (.c (.loc 13 0))))], [(13, (.it s (p + (Utf8.decode s p).2)))], []⟩ [⟨(Go.Op.binOp Go.BinOp.add 3 (Go.Operand.tmp 17) (Go.Operand.const (Go.Value.int Go.IntKind.i64 1)) 3), 3, [(sc (.int .i64 n)), (sc (.int .i64 1))], [], (sc (.int .i64 (n + 1))), []⟩] mixed (by kernel_rfl) ⟨tri_int (n + 1) (wrap_i64 (by omega)), trivial⟩ ?_
    refine peel_seq ?_
    refine awp_seq ?_
    cases hb2 : (decide ((n + 1) > hi)) with
    | false =>
      have hb2p := of_decide_eq_false hb2
      refine awp_region_keep tab_ok boxes [(2, ⟨[], (sc (.bool false)), some []⟩), (6, ⟨[], (sc (.bool (plainR ((Utf8.decode s p).1 : Int)))), some []⟩)] [1, 2, 3, 8, 9, 13, 27] [13] ⟨31, [(1, (sc (.int .i64 lo))), (2, (sc (.int .i64 hi))), (3, (sc (.func (.func 84) #[] #[]))), (8, (sc (.bool false))), (9, (sc (.int .i64 (n + 1)))), (13, (.t (.c (.loc 13 0)))), (27, (sc (.bool (!(plainR ((Utf8.decode s p).1 : Int))))))], [(13, (.it s (p + (Utf8.decode s p).2)))], []⟩ [⟨(Go.Op.binOp Go.BinOp.gtr 3 (Go.Operand.tmp 19) (Go.Operand.tmp 20) 3), 4, [(sc (.int .i64 (n + 1))), (sc (.int .i64 hi))], [], (sc (.bool false)), []⟩, ⟨(Go.Op.call (Go.Call.mk (Go.Callee.value (Go.Operand.tmp 23)) #[(Go.Operand.tmp 24)] #[21])), 4, [(sc (.func (.func 84) #[] #[])), (sc (.int .i32 ((Utf8.decode s p).1 : Int)))], [], (sc (.bool (plainR ((Utf8.decode s p).1 : Int)))), []⟩] mixed (by kernel_rfl) ⟨tri_scalar_eq [(.int .i64 (n + 1)), (.int .i64 hi)] (.bool (decide ((n + 1) > hi))) rfl rfl rfl (by kernel_rfl) (congrArg Value.bool hb2), tri_call (s_plain ((Utf8.decode s p).1 : Int)), trivial⟩ ?_
      refine peel_seq ?_
      refine awp_cond (b := (!(plainR ((Utf8.decode s p).1 : Int)))) rfl (fun hc3 => ?_) (fun hc3 => ?_)
      · skip
        have hc3n : (plainR ((Utf8.decode s p).1 : Int)) = false := by simpa using hc3
        refine awp_seq ?_
        refine awp_region_keep tab_ok boxes [] [1, 2, 3, 8, 9, 13] [13] ⟨31, [(1, (sc (.int .i64 lo))), (2, (sc (.int .i64 hi))), (3, (sc (.func (.func 84) #[] #[]))), (8, (sc (.bool false))), (9, (sc (.int .i64 (n + 1)))), (13, (.t (.c (.loc 13 0))))], [(13, (.it s (p + (Utf8.decode s p).2)))], []⟩ [] mixed (by kernel_rfl) trivial ?_
        refine peel_seq ?_
        refine awp_ret ?_
        refine peel_block_ret ?_
        refine peel_seq_ret ?_
        refine peel_block_ret ?_
        refine peel_seq_ret ?_
        exact ends_ret rfl (show some ((sc (.bool false)) : SV) = some ((sc (.bool (allR lo hi (runes s) 0))) : SV) from by rw [← hJ, runesAt_more hb1p]; simp [allR, hb1, hb2, hc3, hc3n]; try omega) rfl
      · skip
        have hc3n : (plainR ((Utf8.decode s p).1 : Int)) = true := by simpa using hc3
        refine q_keep [1, 2, 3, 8, 9, 13] [13] ?_
        refine awp_skip ?_
        refine peel_block ?_
        exact peel_round ((p + (Utf8.decode s p).2), (n + 1)) rfl ⟨by omega, by rw [← hJ, runesAt_more hb1p]; simp [allR, hb1, hb2, hc3, hc3n] <;> (intros; omega)⟩ (by simp only; omega)
    | true =>
      have hb2p := of_decide_eq_true hb2
      refine awp_region_keep tab_ok boxes [(2, ⟨[], (sc (.bool true)), some []⟩)] [1, 2, 3, 8, 9, 13, 27] [13] ⟨31, [(1, (sc (.int .i64 lo))), (2, (sc (.int .i64 hi))), (3, (sc (.func (.func 84) #[] #[]))), (8, (sc (.bool false))), (9, (sc (.int .i64 (n + 1)))), (13, (.t (.c (.loc 13 0)))), (27, (sc (.bool true)))], [(13, (.it s (p + (Utf8.decode s p).2)))], []⟩ [⟨(Go.Op.binOp Go.BinOp.gtr 3 (Go.Operand.tmp 19) (Go.Operand.tmp 20) 3), 4, [(sc (.int .i64 (n + 1))), (sc (.int .i64 hi))], [], (sc (.bool true)), []⟩] mixed (by kernel_rfl) ⟨tri_scalar_eq [(.int .i64 (n + 1)), (.int .i64 hi)] (.bool (decide ((n + 1) > hi))) rfl rfl rfl (by kernel_rfl) (congrArg Value.bool hb2), trivial⟩ ?_
      refine peel_seq ?_
      refine awp_true rfl ?_
      refine awp_seq ?_
      refine awp_region_keep tab_ok boxes [] [1, 2, 3, 8, 9, 13] [13] ⟨31, [(1, (sc (.int .i64 lo))), (2, (sc (.int .i64 hi))), (3, (sc (.func (.func 84) #[] #[]))), (8, (sc (.bool false))), (9, (sc (.int .i64 (n + 1)))), (13, (.t (.c (.loc 13 0))))], [(13, (.it s (p + (Utf8.decode s p).2)))], []⟩ [] mixed (by kernel_rfl) trivial ?_
      refine peel_seq ?_
      refine awp_ret ?_
      refine peel_block_ret ?_
      refine peel_seq_ret ?_
      refine peel_block_ret ?_
      refine peel_seq_ret ?_
      exact ends_ret rfl (show some ((sc (.bool false)) : SV) = some ((sc (.bool (allR lo hi (runes s) 0))) : SV) from by rw [← hJ, runesAt_more hb1p]; simp [allR, hb1, hb2]; try omega) rfl
theorem s_Key (s : ByteArray) : Sat Try.prog 72 [(sc (.string s))] [] (sc (.int .i64 (keyE s))) [] := by
  refine sat_of_body tab_ok Try.func72 rfl (by kernel_rfl) (Nat.le_of_ble_eq_true rfl) rfl fun G => ?_
  refine awp_seq ?_
  refine awp_region_keep tab_ok boxes [] [0, 2] [] ⟨6, [(0, (sc (.string s))), (2, (sc (.int .i64 0)))], [], []⟩ [] mixed (by kernel_rfl) trivial ?_
  refine peel_seq ?_
  refine awp_seq ?_
  refine awp_seq ?_
  refine awp_region_keep tab_ok boxes [(1, ⟨[], (sc (.bool (allR 1 24 (runes s) 0))), some []⟩)] [2, 5] [] ⟨6, [(2, (sc (.int .i64 0))), (5, (sc (.bool (!(allR 1 24 (runes s) 0)))))], [], []⟩ [⟨(Go.Op.call (Go.Call.mk (Go.Callee.value (Go.Operand.func 83)) #[(Go.Operand.tmp 3), (Go.Operand.const (Go.Value.int Go.IntKind.i64 1)), (Go.Operand.const (Go.Value.int Go.IntKind.i64 24)), (Go.Operand.func 84)] #[9, 3, 3, 115])), 4, [(sc (.func (.func 83) #[] #[])), (sc (.string s)), (sc (.int .i64 1)), (sc (.int .i64 24)), (sc (.func (.func 84) #[] #[]))], [], (sc (.bool (allR 1 24 (runes s) 0))), []⟩] mixed (by kernel_rfl) ⟨tri_call (s_all s 1 24 (by decide)), trivial⟩ ?_
  refine peel_seq ?_
  refine awp_cond (b := (!(allR 1 24 (runes s) 0))) rfl (fun hc1 => ?_) (fun hc1 => ?_)
  · skip
    have hc1n : (allR 1 24 (runes s) 0) = false := by simpa using hc1
    refine awp_seq ?_
    refine awp_region_keep tab_ok boxes [] [2] [] ⟨6, [(2, (sc (.int .i64 20)))], [], []⟩ [] mixed (by kernel_rfl) trivial ?_
    refine peel_seq ?_
    refine awp_ret ?_
    refine peel_seq_ret ?_
    exact ends_ret rfl (show some ((sc (.int .i64 20)) : SV) = some ((sc (.int .i64 (keyE s))) : SV) from by first | rfl | (simp [keyE, hc1, hc1n])) rfl
  · skip
    have hc1n : (allR 1 24 (runes s) 0) = true := by simpa using hc1
    refine awp_skip ?_
    refine peel_seq ?_
    refine awp_seq ?_
    refine awp_region_keep tab_ok boxes [] [2] [] ⟨6, [(2, (sc (.int .i64 0)))], [], []⟩ [] mixed (by kernel_rfl) trivial ?_
    refine peel_seq ?_
    refine awp_ret ?_
    exact ends_ret rfl (show some ((sc (.int .i64 0)) : SV) = some ((sc (.int .i64 (keyE s))) : SV) from by first | rfl | (simp [keyE, hc1, hc1n])) rfl
theorem s_Value (s : ByteArray) : Sat Try.prog 73 [(sc (.string s))] [] (sc (.int .i64 (valE s))) [] := by
  refine sat_of_body tab_ok Try.func73 rfl (by kernel_rfl) (Nat.le_of_ble_eq_true rfl) rfl fun G => ?_
  refine awp_seq ?_
  refine awp_region_keep tab_ok boxes [] [0, 2] [] ⟨6, [(0, (sc (.string s))), (2, (sc (.int .i64 0)))], [], []⟩ [] mixed (by kernel_rfl) trivial ?_
  refine peel_seq ?_
  refine awp_seq ?_
  refine awp_seq ?_
  refine awp_region_keep tab_ok boxes [(1, ⟨[], (sc (.bool (allR 0 48 (runes s) 0))), some []⟩)] [2, 5] [] ⟨6, [(2, (sc (.int .i64 0))), (5, (sc (.bool (!(allR 0 48 (runes s) 0)))))], [], []⟩ [⟨(Go.Op.call (Go.Call.mk (Go.Callee.value (Go.Operand.func 83)) #[(Go.Operand.tmp 3), (Go.Operand.const (Go.Value.int Go.IntKind.i64 0)), (Go.Operand.const (Go.Value.int Go.IntKind.i64 48)), (Go.Operand.func 84)] #[9, 3, 3, 115])), 4, [(sc (.func (.func 83) #[] #[])), (sc (.string s)), (sc (.int .i64 0)), (sc (.int .i64 48)), (sc (.func (.func 84) #[] #[]))], [], (sc (.bool (allR 0 48 (runes s) 0))), []⟩] mixed (by kernel_rfl) ⟨tri_call (s_all s 0 48 (by decide)), trivial⟩ ?_
  refine peel_seq ?_
  refine awp_cond (b := (!(allR 0 48 (runes s) 0))) rfl (fun hc1 => ?_) (fun hc1 => ?_)
  · skip
    have hc1n : (allR 0 48 (runes s) 0) = false := by simpa using hc1
    refine awp_seq ?_
    refine awp_region_keep tab_ok boxes [] [2] [] ⟨6, [(2, (sc (.int .i64 21)))], [], []⟩ [] mixed (by kernel_rfl) trivial ?_
    refine peel_seq ?_
    refine awp_ret ?_
    refine peel_seq_ret ?_
    exact ends_ret rfl (show some ((sc (.int .i64 21)) : SV) = some ((sc (.int .i64 (valE s))) : SV) from by first | rfl | (simp [valE, hc1, hc1n])) rfl
  · skip
    have hc1n : (allR 0 48 (runes s) 0) = true := by simpa using hc1
    refine awp_skip ?_
    refine peel_seq ?_
    refine awp_seq ?_
    refine awp_region_keep tab_ok boxes [] [2] [] ⟨6, [(2, (sc (.int .i64 0)))], [], []⟩ [] mixed (by kernel_rfl) trivial ?_
    refine peel_seq ?_
    refine awp_ret ?_
    exact ends_ret rfl (show some ((sc (.int .i64 0)) : SV) = some ((sc (.int .i64 (valE s))) : SV) from by first | rfl | (simp [valE, hc1, hc1n])) rfl
end Go.Proofs.Ytjbiaoajmdbigaa
