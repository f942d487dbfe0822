/- Walks of slices.Grow of nothing, and slices.Concat of two. -/
import Derived.Test.YtjbiaoajmdbigaaLaw2
import Derived.Test.YtjbiaoajmdbigaaEng24
set_option maxRecDepth 100000
set_option linter.unusedVariables false
set_option linter.unusedSimpArgs false
namespace Go.Proofs.Ytjbiaoajmdbigaa
open Go Go.E
theorem g_Grow (n : Nat) (hn : n ≤ 1000000) : Sat Try.prog 51 [(sc (.slice none 0 0)), (sc (.int .i64 (n : Int)))] [] (.t (.c (.own 5001))) [(5001, (.arr 35 3 40 []))] := by
  refine sat_of_body tab_ok Try.func51 rfl (by kernel_rfl) (Nat.le_of_ble_eq_true rfl) rfl fun G => ?_
  refine awp_seq ?_
  refine awp_region_keep tab_ok boxes [] [0, 1, 4] [] ⟨27, [(0, (sc (.slice none 0 0))), (1, (sc (.int .i64 (n : Int)))), (4, (sc (.slice none 0 0)))], [], []⟩ [] mixed (by kernel_rfl) trivial ?_
  refine peel_seq ?_
  refine awp_seq ?_
  refine awp_seq ?_
  refine awp_region_keep tab_ok boxes [] [0, 1, 4, 6] [] ⟨27, [(0, (sc (.slice none 0 0))), (1, (sc (.int .i64 (n : Int)))), (4, (sc (.slice none 0 0))), (6, (sc (.bool (decide ((n : Int) < 0)))))], [], []⟩ [] mixed (by kernel_rfl) trivial ?_
  refine peel_seq ?_
  refine awp_cond (b := (decide ((n : Int) < 0))) rfl (fun hc1 => ?_) (fun hc1 => ?_)
  · skip
    have hc1p := of_decide_eq_true hc1
    exfalso; omega
  · skip
    have hc1p := of_decide_eq_false hc1
    refine awp_skip ?_
    refine peel_seq ?_
    refine awp_seq ?_
    refine awp_seq ?_
    refine awp_region_keep tab_ok boxes [(6, ⟨[], (sc (.int .i64 (n : Int))), some []⟩)] [0, 1, 4] [] ⟨27, [(0, (sc (.slice none 0 0))), (1, (sc (.int .i64 (n : Int)))), (4, (sc (.slice none 0 0)))], [], []⟩ [⟨(Go.Op.binOp Go.BinOp.sub 3 (Go.Operand.tmp 8) (Go.Operand.tmp 13) 3), 3, [(sc (.int .i64 (n : Int))), (sc (.int .i64 0))], [], (sc (.int .i64 (n : Int))), []⟩] mixed (by kernel_rfl) ⟨tri_int (n : Int) ((wrap_i64 (by omega)).trans (by omega)), trivial⟩ ?_
    refine peel_seq ?_
    refine awp_seq ?_
    refine awp_region_keep tab_ok boxes [] [0, 1, 4, 16] [] ⟨27, [(0, (sc (.slice none 0 0))), (1, (sc (.int .i64 (n : Int)))), (4, (sc (.slice none 0 0))), (16, (sc (.bool (decide ((n : Int) > 0)))))], [], []⟩ [] mixed (by kernel_rfl) trivial ?_
    refine peel_seq ?_
    refine awp_cond (b := (decide ((n : Int) > 0))) rfl (fun hc2 => ?_) (fun hc2 => ?_)
    · skip
      have hc2p := of_decide_eq_true hc2
      refine awp_region_keep tab_ok boxes [(5, ⟨[], (.t (.c (.own 22))), some [(22, (.arr 35 3 40 (List.replicate n [(.v (.string ⟨#[]⟩)), (.v (.bool false)), (.v (.string ⟨#[]⟩))])))]⟩), (8, ⟨[22], (.t (.c (.own 25))), some [(25, (.arr 35 3 40 []))]⟩)] [0, 4] [25] ⟨27, [(0, (.t (.c (.own 25)))), (4, (sc (.slice none 0 0)))], [(25, (.arr 35 3 40 []))], []⟩ [⟨(Go.Op.call (Go.Call.mk (Go.Callee.builtin Go.Builtin.append) #[(Go.Operand.tmp 20), (Go.Operand.tmp 21)] #[23, 3])), 23, [(sc (.slice none 0 0)), (sc (.int .i64 (n : Int)))], [], (.t (.c (.own 22))), [(22, (.arr 35 3 40 (List.replicate n [(.v (.string ⟨#[]⟩)), (.v (.bool false)), (.v (.string ⟨#[]⟩))])))]⟩, ⟨(Go.Op.slice 23 (Go.Operand.tmp 22) Option.none (Option.some (Go.Operand.tmp 24)) Option.none), 23, [(.t (.c (.own 22))), (sc (.int .i64 0))], [(22, (.arr 35 3 40 (List.replicate n [(.v (.string ⟨#[]⟩)), (.v (.bool false)), (.v (.string ⟨#[]⟩))])))], (.t (.c (.own 25))), [(25, (.arr 35 3 40 []))]⟩] mixed (by kernel_rfl) ⟨tri_zeros_nil (zs := [(.string ⟨#[]⟩), (.bool false), (.string ⟨#[]⟩)]) tab_ok rfl ⟨.i64, by kernel_rfl⟩ rfl rfl (by omega) (by decide) (by omega), tri_to (tri_cut_own (bytes := 40) (k := 0) tab_ok rfl (by simp <;> omega) rfl) (by simp), trivial⟩ ?_
      refine peel_seq ?_
      refine awp_seq ?_
      refine awp_region_keep tab_ok boxes [] [4] [25] ⟨27, [(4, (.t (.c (.own 25))))], [(25, (.arr 35 3 40 []))], []⟩ [] mixed (by kernel_rfl) trivial ?_
      refine peel_seq ?_
      refine awp_mv [.sw 25 5001] ⟨27, [(4, (.t (.c (.own 5001))))], [(5001, (.arr 35 3 40 []))], []⟩ rfl ?_
      refine awp_ret ?_
      exact ends_ret rfl rfl rfl
    · skip
      have hc2p := of_decide_eq_false hc2
      refine awp_skip ?_
      refine peel_seq ?_
      refine awp_seq ?_
      refine awp_region_keep tab_ok boxes [] [4] [] ⟨27, [(4, (sc (.slice none 0 0)))], [], []⟩ [] mixed (by kernel_rfl) trivial ?_
      refine peel_seq ?_
      refine awp_mv [.own 4 5001 35 3 40] ⟨27, [(4, (.t (.c (.own 5001))))], [(5001, (.arr 35 3 40 []))], []⟩ rfl ?_
      refine awp_ret ?_
      exact ends_ret rfl rfl rfl
theorem g_Concat (a b : List AOp) (hn : a.length + b.length ≤ 1000000) : Sat Try.prog 23 [(.t (.c (.d (.sl [[(.sl (List.map encOp a))], [(.sl (List.map encOp b))]]))))] [] (.t (.c (.d (.sl (List.map encOp (a ++ b)))))) [] := by
  refine sat_of_body tab_ok Try.func23 rfl (by kernel_rfl) (Nat.le_of_ble_eq_true rfl) rfl fun G => ?_
  refine awp_seq ?_
  refine awp_region_keep tab_ok boxes [] [0, 2] [] ⟨36, [(0, (.t (.c (.d (.sl [[(.sl (List.map encOp a))], [(.sl (List.map encOp b))]]))))), (2, (sc (.slice none 0 0)))], [], []⟩ [] mixed (by kernel_rfl) trivial ?_
  refine peel_seq ?_
  refine awp_seq ?_
  refine awp_region_keep tab_ok boxes [] [0, 2, 3] [] ⟨36, [(0, (.t (.c (.d (.sl [[(.sl (List.map encOp a))], [(.sl (List.map encOp b))]]))))), (2, (sc (.slice none 0 0))), (3, (sc (.int .i64 0)))], [], []⟩ [] mixed (by kernel_rfl) trivial ?_
  refine peel_seq ?_
  refine awp_seq ?_
  refine awp_seq ?_
  refine awp_region_keep tab_ok boxes [] [0, 2, 3, 9, 10, 11] [] ⟨36, [(0, (.t (.c (.d (.sl [[(.sl (List.map encOp a))], [(.sl (List.map encOp b))]]))))), (2, (sc (.slice none 0 0))), (3, (sc (.int .i64 0))), (9, (.t (.c (.d (.sl [[(.sl (List.map encOp a))], [(.sl (List.map encOp b))]]))))), (10, (sc (.int .i64 2))), (11, (sc (.int .i64 0)))], [], []⟩ [] mixed (by kernel_rfl) trivial ?_
  refine peel_seq ?_
  refine awp_block ?_
  refine awp_rounds 3 ?_
  refine rounds_one ?_
  refine awp_seq ?_
  refine awp_region_keep tab_ok boxes [] [0, 2, 3, 9, 10, 11, 12] [] ⟨36, [(0, (.t (.c (.d (.sl [[(.sl (List.map encOp a))], [(.sl (List.map encOp b))]]))))), (2, (sc (.slice none 0 0))), (3, (sc (.int .i64 0))), (9, (.t (.c (.d (.sl [[(.sl (List.map encOp a))], [(.sl (List.map encOp b))]]))))), (10, (sc (.int .i64 2))), (11, (sc (.int .i64 0))), (12, (sc (.bool true)))], [], []⟩ [] mixed (by kernel_rfl) trivial ?_
  refine peel_seq ?_
  refine awp_seq ?_
  refine awp_true rfl ?_
  refine awp_skip ?_
  refine peel_seq ?_
  refine awp_seq ?_
  refine awp_block ?_
  refine awp_seq ?_
  refine awp_region_keep tab_ok boxes [(0, ⟨[], (.t (.c (.d (.ptr [(.sl (List.map encOp a))])))), some []⟩)] [0, 2, 3, 5, 9, 10, 11] [] ⟨36, [(0, (.t (.c (.d (.sl [[(.sl (List.map encOp a))], [(.sl (List.map encOp b))]]))))), (2, (sc (.slice none 0 0))), (3, (sc (.int .i64 0))), (5, (.t (.c (.d (.sl (List.map encOp a)))))), (9, (.t (.c (.d (.sl [[(.sl (List.map encOp a))], [(.sl (List.map encOp b))]]))))), (10, (sc (.int .i64 2))), (11, (sc (.int .i64 0)))], [], []⟩ [⟨(Go.Op.indexAddr 86 (Go.Operand.tmp 9) (Go.Operand.tmp 11)), 0, [(.t (.c (.d (.sl [[(.sl (List.map encOp a))], [(.sl (List.map encOp b))]])))), (sc (.int .i64 0))], [], (.t (.c (.d (.ptr [(.sl (List.map encOp a))])))), []⟩] mixed (by kernel_rfl) ⟨tri_index_sl (e := 23) (sz := 1) (bytes := 24) (i := 0) tab_ok rfl rfl (by simp), trivial⟩ ?_
  refine peel_seq ?_
  refine awp_seq ?_
  refine awp_region_keep tab_ok boxes [(2, ⟨[], (sc (.int .i64 (List.length a : Int))), none⟩), (3, ⟨[], (sc (.int .i64 (List.length a : Int))), some []⟩)] [0, 2, 3, 9, 10, 11] [] ⟨36, [(0, (.t (.c (.d (.sl [[(.sl (List.map encOp a))], [(.sl (List.map encOp b))]]))))), (2, (sc (.slice none 0 0))), (3, (sc (.int .i64 (List.length a : Int)))), (9, (.t (.c (.d (.sl [[(.sl (List.map encOp a))], [(.sl (List.map encOp b))]]))))), (10, (sc (.int .i64 2))), (11, (sc (.int .i64 0)))], [], []⟩ [⟨(Go.Op.call (Go.Call.mk (Go.Callee.builtin Go.Builtin.len) #[(Go.Operand.tmp 16)] #[23])), 3, [(.t (.c (.d (.sl (List.map encOp a)))))], [], (sc (.int .i64 (List.length a : Int))), []⟩, ⟨(Go.Op.binOp Go.BinOp.add 3 (Go.Operand.tmp 15) (Go.Operand.tmp 17) 3), 3, [(sc (.int .i64 0)), (sc (.int .i64 (List.length a : Int)))], [], (sc (.int .i64 (List.length a : Int))), []⟩] mixed (by kernel_rfl) ⟨tri_len_map tab_ok rfl, tri_int (List.length a : Int) ((wrap_i64 (by omega)).trans (by omega)), trivial⟩ ?_
  refine peel_seq ?_
  refine awp_seq ?_
  refine awp_region_keep tab_ok boxes [] [0, 2, 3, 9, 10, 11, 20] [] ⟨36, [(0, (.t (.c (.d (.sl [[(.sl (List.map encOp a))], [(.sl (List.map encOp b))]]))))), (2, (sc (.slice none 0 0))), (3, (sc (.int .i64 (List.length a : Int)))), (9, (.t (.c (.d (.sl [[(.sl (List.map encOp a))], [(.sl (List.map encOp b))]]))))), (10, (sc (.int .i64 2))), (11, (sc (.int .i64 0))), (20, (sc (.bool (decide ((List.length a : Int) < 0)))))], [], []⟩ [] mixed (by kernel_rfl) trivial ?_
  refine peel_seq ?_
  refine awp_cond (b := (decide ((List.length a : Int) < 0))) rfl (fun hc1 => ?_) (fun hc1 => ?_)
  · skip
    have hc1p := of_decide_eq_true hc1
    exfalso; omega
  · skip
    have hc1p := of_decide_eq_false hc1
    refine q_keep [0, 2, 3, 9, 10, 11] [] ?_
    refine awp_skip ?_
    refine peel_block ?_
    refine peel_seq ?_
    refine awp_region_keep tab_ok boxes [] [0, 2, 3, 9, 10, 11] [] ⟨36, [(0, (.t (.c (.d (.sl [[(.sl (List.map encOp a))], [(.sl (List.map encOp b))]]))))), (2, (sc (.slice none 0 0))), (3, (sc (.int .i64 (List.length a : Int)))), (9, (.t (.c (.d (.sl [[(.sl (List.map encOp a))], [(.sl (List.map encOp b))]]))))), (10, (sc (.int .i64 2))), (11, (sc (.int .i64 1)))], [], []⟩ [] mixed (by kernel_rfl) trivial ?_
    refine peel_next ?_
    refine rounds_one ?_
    refine awp_seq ?_
    refine awp_region_keep tab_ok boxes [] [0, 2, 3, 9, 10, 11, 12] [] ⟨36, [(0, (.t (.c (.d (.sl [[(.sl (List.map encOp a))], [(.sl (List.map encOp b))]]))))), (2, (sc (.slice none 0 0))), (3, (sc (.int .i64 (List.length a : Int)))), (9, (.t (.c (.d (.sl [[(.sl (List.map encOp a))], [(.sl (List.map encOp b))]]))))), (10, (sc (.int .i64 2))), (11, (sc (.int .i64 1))), (12, (sc (.bool true)))], [], []⟩ [] mixed (by kernel_rfl) trivial ?_
    refine peel_seq ?_
    refine awp_seq ?_
    refine awp_true rfl ?_
    refine awp_skip ?_
    refine peel_seq ?_
    refine awp_seq ?_
    refine awp_block ?_
    refine awp_seq ?_
    refine awp_region_keep tab_ok boxes [(0, ⟨[], (.t (.c (.d (.ptr [(.sl (List.map encOp b))])))), some []⟩)] [0, 2, 3, 5, 9, 10, 11] [] ⟨36, [(0, (.t (.c (.d (.sl [[(.sl (List.map encOp a))], [(.sl (List.map encOp b))]]))))), (2, (sc (.slice none 0 0))), (3, (sc (.int .i64 (List.length a : Int)))), (5, (.t (.c (.d (.sl (List.map encOp b)))))), (9, (.t (.c (.d (.sl [[(.sl (List.map encOp a))], [(.sl (List.map encOp b))]]))))), (10, (sc (.int .i64 2))), (11, (sc (.int .i64 1)))], [], []⟩ [⟨(Go.Op.indexAddr 86 (Go.Operand.tmp 9) (Go.Operand.tmp 11)), 0, [(.t (.c (.d (.sl [[(.sl (List.map encOp a))], [(.sl (List.map encOp b))]])))), (sc (.int .i64 1))], [], (.t (.c (.d (.ptr [(.sl (List.map encOp b))])))), []⟩] mixed (by kernel_rfl) ⟨tri_index_sl (e := 23) (sz := 1) (bytes := 24) (i := 1) tab_ok rfl rfl (by simp), trivial⟩ ?_
    refine peel_seq ?_
    refine awp_seq ?_
    refine awp_region_keep tab_ok boxes [(2, ⟨[], (sc (.int .i64 (List.length b : Int))), none⟩), (3, ⟨[], (sc (.int .i64 ((List.length a : Int) + (List.length b : Int)))), some []⟩)] [0, 2, 3, 9, 10, 11] [] ⟨36, [(0, (.t (.c (.d (.sl [[(.sl (List.map encOp a))], [(.sl (List.map encOp b))]]))))), (2, (sc (.slice none 0 0))), (3, (sc (.int .i64 ((List.length a : Int) + (List.length b : Int))))), (9, (.t (.c (.d (.sl [[(.sl (List.map encOp a))], [(.sl (List.map encOp b))]]))))), (10, (sc (.int .i64 2))), (11, (sc (.int .i64 1)))], [], []⟩ [⟨(Go.Op.call (Go.Call.mk (Go.Callee.builtin Go.Builtin.len) #[(Go.Operand.tmp 16)] #[23])), 3, [(.t (.c (.d (.sl (List.map encOp b)))))], [], (sc (.int .i64 (List.length b : Int))), []⟩, ⟨(Go.Op.binOp Go.BinOp.add 3 (Go.Operand.tmp 15) (Go.Operand.tmp 17) 3), 3, [(sc (.int .i64 (List.length a : Int))), (sc (.int .i64 (List.length b : Int)))], [], (sc (.int .i64 ((List.length a : Int) + (List.length b : Int)))), []⟩] mixed (by kernel_rfl) ⟨tri_len_map tab_ok rfl, tri_int ((List.length a : Int) + (List.length b : Int)) (wrap_i64 (by omega)), trivial⟩ ?_
    refine peel_seq ?_
    refine awp_seq ?_
    refine awp_region_keep tab_ok boxes [] [0, 2, 3, 9, 10, 11, 20] [] ⟨36, [(0, (.t (.c (.d (.sl [[(.sl (List.map encOp a))], [(.sl (List.map encOp b))]]))))), (2, (sc (.slice none 0 0))), (3, (sc (.int .i64 ((List.length a : Int) + (List.length b : Int))))), (9, (.t (.c (.d (.sl [[(.sl (List.map encOp a))], [(.sl (List.map encOp b))]]))))), (10, (sc (.int .i64 2))), (11, (sc (.int .i64 1))), (20, (sc (.bool (decide (((List.length a : Int) + (List.length b : Int)) < 0)))))], [], []⟩ [] mixed (by kernel_rfl) trivial ?_
    refine peel_seq ?_
    refine awp_cond (b := (decide (((List.length a : Int) + (List.length b : Int)) < 0))) rfl (fun hc2 => ?_) (fun hc2 => ?_)
    · skip
      have hc2p := of_decide_eq_true hc2
      exfalso; omega
    · skip
      have hc2p := of_decide_eq_false hc2
      refine q_keep [0, 2, 3, 9, 10, 11] [] ?_
      refine awp_skip ?_
      refine peel_block ?_
      refine peel_seq ?_
      refine awp_region_keep tab_ok boxes [] [0, 2, 3, 9, 10, 11] [] ⟨36, [(0, (.t (.c (.d (.sl [[(.sl (List.map encOp a))], [(.sl (List.map encOp b))]]))))), (2, (sc (.slice none 0 0))), (3, (sc (.int .i64 ((List.length a : Int) + (List.length b : Int))))), (9, (.t (.c (.d (.sl [[(.sl (List.map encOp a))], [(.sl (List.map encOp b))]]))))), (10, (sc (.int .i64 2))), (11, (sc (.int .i64 2)))], [], []⟩ [] mixed (by kernel_rfl) trivial ?_
      refine peel_next ?_
      refine rounds_one ?_
      refine awp_seq ?_
      refine awp_region_keep tab_ok boxes [] [0, 2, 3, 9, 10, 11, 12] [] ⟨36, [(0, (.t (.c (.d (.sl [[(.sl (List.map encOp a))], [(.sl (List.map encOp b))]]))))), (2, (sc (.slice none 0 0))), (3, (sc (.int .i64 ((List.length a : Int) + (List.length b : Int))))), (9, (.t (.c (.d (.sl [[(.sl (List.map encOp a))], [(.sl (List.map encOp b))]]))))), (10, (sc (.int .i64 2))), (11, (sc (.int .i64 2))), (12, (sc (.bool false)))], [], []⟩ [] mixed (by kernel_rfl) trivial ?_
      refine peel_seq ?_
      refine awp_seq ?_
      refine awp_false rfl ?_
      refine awp_exit ?_
      refine peel_seq_exit ?_
      refine peel_seq_exit ?_
      refine peel_hit ?_
      refine peel_seq ?_
      refine awp_seq ?_
      refine awp_region_keep tab_ok boxes [(1, ⟨[], (.t (.c (.own 24))), some [(24, (.arr 35 3 40 []))]⟩)] [0, 2, 6] [24] ⟨36, [(0, (.t (.c (.d (.sl [[(.sl (List.map encOp a))], [(.sl (List.map encOp b))]]))))), (2, (sc (.slice none 0 0))), (6, (.t (.c (.own 24))))], [(24, (.arr 35 3 40 []))], []⟩ [⟨(Go.Op.call (Go.Call.mk (Go.Callee.value (Go.Operand.func 51)) #[(Go.Operand.const (Go.Value.slice Option.none 0 0)), (Go.Operand.tmp 23)] #[23, 3])), 23, [(sc (.func (.func 51) #[] #[])), (sc (.slice none 0 0)), (sc (.int .i64 ((List.length a : Int) + (List.length b : Int))))], [], (.t (.c (.own 24))), [(24, (.arr 35 3 40 []))]⟩] mixed (by kernel_rfl) ⟨tri_call (Sat.sw 5001 24 (g_Grow ((List.length a) + (List.length b)) (by omega))), trivial⟩ ?_
      refine peel_seq ?_
      refine awp_seq ?_
      refine awp_seq ?_
      refine awp_region_keep tab_ok boxes [] [2, 6, 25, 26, 27] [24] ⟨36, [(2, (sc (.slice none 0 0))), (6, (.t (.c (.own 24)))), (25, (.t (.c (.d (.sl [[(.sl (List.map encOp a))], [(.sl (List.map encOp b))]]))))), (26, (sc (.int .i64 2))), (27, (sc (.int .i64 0)))], [(24, (.arr 35 3 40 []))], []⟩ [] mixed (by kernel_rfl) trivial ?_
      refine peel_seq ?_
      refine awp_block ?_
      refine awp_mv [.sw 24 1006] ⟨36, [(2, (sc (.slice none 0 0))), (6, (.t (.c (.own 1006)))), (25, (.t (.c (.d (.sl [[(.sl (List.map encOp a))], [(.sl (List.map encOp b))]]))))), (26, (sc (.int .i64 2))), (27, (sc (.int .i64 0)))], [(1006, (.arr 35 3 40 []))], []⟩ rfl ?_
      refine q_keep [2, 6, 25, 26, 27] [1006] ?_
      refine awp_rounds 3 ?_
      refine rounds_one ?_
      refine awp_seq ?_
      refine awp_region_keep tab_ok boxes [] [2, 6, 25, 26, 27, 28] [1006] ⟨36, [(2, (sc (.slice none 0 0))), (6, (.t (.c (.own 1006)))), (25, (.t (.c (.d (.sl [[(.sl (List.map encOp a))], [(.sl (List.map encOp b))]]))))), (26, (sc (.int .i64 2))), (27, (sc (.int .i64 0))), (28, (sc (.bool true)))], [(1006, (.arr 35 3 40 []))], []⟩ [] mixed (by kernel_rfl) trivial ?_
      refine peel_seq ?_
      refine awp_seq ?_
      refine awp_true rfl ?_
      refine awp_skip ?_
      refine peel_seq ?_
      refine awp_seq ?_
      refine awp_block ?_
      refine awp_seq ?_
      refine awp_region_keep tab_ok boxes [(0, ⟨[], (.t (.c (.d (.ptr [(.sl (List.map encOp a))])))), some []⟩)] [2, 6, 8, 25, 26, 27] [1006] ⟨36, [(2, (sc (.slice none 0 0))), (6, (.t (.c (.own 1006)))), (8, (.t (.c (.d (.sl (List.map encOp a)))))), (25, (.t (.c (.d (.sl [[(.sl (List.map encOp a))], [(.sl (List.map encOp b))]]))))), (26, (sc (.int .i64 2))), (27, (sc (.int .i64 0)))], [(1006, (.arr 35 3 40 []))], []⟩ [⟨(Go.Op.indexAddr 86 (Go.Operand.tmp 25) (Go.Operand.tmp 27)), 0, [(.t (.c (.d (.sl [[(.sl (List.map encOp a))], [(.sl (List.map encOp b))]])))), (sc (.int .i64 0))], [], (.t (.c (.d (.ptr [(.sl (List.map encOp a))])))), []⟩] mixed (by kernel_rfl) ⟨tri_index_sl (e := 23) (sz := 1) (bytes := 24) (i := 0) tab_ok rfl rfl (by simp), trivial⟩ ?_
      refine peel_seq ?_
      refine awp_then [.sw 33 1006] ?_
      refine awp_region_keep tab_ok boxes [(2, ⟨[1006], (.t (.c (.own 33))), some [(33, (.arr 35 3 40 (List.map encOp a)))]⟩)] [2, 6, 25, 26, 27] [33] ⟨36, [(2, (sc (.slice none 0 0))), (6, (.t (.c (.own 33)))), (25, (.t (.c (.d (.sl [[(.sl (List.map encOp a))], [(.sl (List.map encOp b))]]))))), (26, (sc (.int .i64 2))), (27, (sc (.int .i64 0)))], [(33, (.arr 35 3 40 (List.map encOp a)))], []⟩ [⟨(Go.Op.call (Go.Call.mk (Go.Callee.builtin Go.Builtin.append) #[(Go.Operand.tmp 31), (Go.Operand.tmp 32)] #[23, 23])), 23, [(.t (.c (.own 1006))), (.t (.c (.d (.sl (List.map encOp a)))))], [(1006, (.arr 35 3 40 []))], (.t (.c (.own 33))), [(33, (.arr 35 3 40 (List.map encOp a)))]⟩] mixed (by kernel_rfl) ⟨tri_to (tri_append_sl (ex := 35) (bytes := 40) tab_ok rfl rfl rfl (all_map fun _ => rfl) (by simp; omega)) (by simp [encOp]), trivial⟩ ?_
      refine then_mv ⟨36, [(2, (sc (.slice none 0 0))), (6, (.t (.c (.own 1006)))), (25, (.t (.c (.d (.sl [[(.sl (List.map encOp a))], [(.sl (List.map encOp b))]]))))), (26, (sc (.int .i64 2))), (27, (sc (.int .i64 0)))], [(1006, (.arr 35 3 40 (List.map encOp a)))], []⟩ rfl ?_
      refine peel_block ?_
      refine peel_seq ?_
      refine awp_region_keep tab_ok boxes [] [2, 6, 25, 26, 27] [1006] ⟨36, [(2, (sc (.slice none 0 0))), (6, (.t (.c (.own 1006)))), (25, (.t (.c (.d (.sl [[(.sl (List.map encOp a))], [(.sl (List.map encOp b))]]))))), (26, (sc (.int .i64 2))), (27, (sc (.int .i64 1)))], [(1006, (.arr 35 3 40 (List.map encOp a)))], []⟩ [] mixed (by kernel_rfl) trivial ?_
      refine peel_next ?_
      refine rounds_one ?_
      refine awp_seq ?_
      refine awp_region_keep tab_ok boxes [] [2, 6, 25, 26, 27, 28] [1006] ⟨36, [(2, (sc (.slice none 0 0))), (6, (.t (.c (.own 1006)))), (25, (.t (.c (.d (.sl [[(.sl (List.map encOp a))], [(.sl (List.map encOp b))]]))))), (26, (sc (.int .i64 2))), (27, (sc (.int .i64 1))), (28, (sc (.bool true)))], [(1006, (.arr 35 3 40 (List.map encOp a)))], []⟩ [] mixed (by kernel_rfl) trivial ?_
      refine peel_seq ?_
      refine awp_seq ?_
      refine awp_true rfl ?_
      refine awp_skip ?_
      refine peel_seq ?_
      refine awp_seq ?_
      refine awp_block ?_
      refine awp_seq ?_
      refine awp_region_keep tab_ok boxes [(0, ⟨[], (.t (.c (.d (.ptr [(.sl (List.map encOp b))])))), some []⟩)] [2, 6, 8, 25, 26, 27] [1006] ⟨36, [(2, (sc (.slice none 0 0))), (6, (.t (.c (.own 1006)))), (8, (.t (.c (.d (.sl (List.map encOp b)))))), (25, (.t (.c (.d (.sl [[(.sl (List.map encOp a))], [(.sl (List.map encOp b))]]))))), (26, (sc (.int .i64 2))), (27, (sc (.int .i64 1)))], [(1006, (.arr 35 3 40 (List.map encOp a)))], []⟩ [⟨(Go.Op.indexAddr 86 (Go.Operand.tmp 25) (Go.Operand.tmp 27)), 0, [(.t (.c (.d (.sl [[(.sl (List.map encOp a))], [(.sl (List.map encOp b))]])))), (sc (.int .i64 1))], [], (.t (.c (.d (.ptr [(.sl (List.map encOp b))])))), []⟩] mixed (by kernel_rfl) ⟨tri_index_sl (e := 23) (sz := 1) (bytes := 24) (i := 1) tab_ok rfl rfl (by simp), trivial⟩ ?_
      refine peel_seq ?_
      refine awp_then [.sw 33 1006] ?_
      refine awp_region_keep tab_ok boxes [(2, ⟨[1006], (.t (.c (.own 33))), some [(33, (.arr 35 3 40 (List.map encOp (a ++ b))))]⟩)] [2, 6, 25, 26, 27] [33] ⟨36, [(2, (sc (.slice none 0 0))), (6, (.t (.c (.own 33)))), (25, (.t (.c (.d (.sl [[(.sl (List.map encOp a))], [(.sl (List.map encOp b))]]))))), (26, (sc (.int .i64 2))), (27, (sc (.int .i64 1)))], [(33, (.arr 35 3 40 (List.map encOp (a ++ b))))], []⟩ [⟨(Go.Op.call (Go.Call.mk (Go.Callee.builtin Go.Builtin.append) #[(Go.Operand.tmp 31), (Go.Operand.tmp 32)] #[23, 23])), 23, [(.t (.c (.own 1006))), (.t (.c (.d (.sl (List.map encOp b)))))], [(1006, (.arr 35 3 40 (List.map encOp a)))], (.t (.c (.own 33))), [(33, (.arr 35 3 40 (List.map encOp (a ++ b))))]⟩] mixed (by kernel_rfl) ⟨tri_to (tri_append_sl (ex := 35) (bytes := 40) tab_ok rfl rfl rfl (all_map fun _ => rfl) (by simp; omega)) (by simp [encOp]), trivial⟩ ?_
      refine then_mv ⟨36, [(2, (sc (.slice none 0 0))), (6, (.t (.c (.own 1006)))), (25, (.t (.c (.d (.sl [[(.sl (List.map encOp a))], [(.sl (List.map encOp b))]]))))), (26, (sc (.int .i64 2))), (27, (sc (.int .i64 1)))], [(1006, (.arr 35 3 40 (List.map encOp (a ++ b))))], []⟩ rfl ?_
      refine peel_block ?_
      refine peel_seq ?_
      refine awp_region_keep tab_ok boxes [] [2, 6, 25, 26, 27] [1006] ⟨36, [(2, (sc (.slice none 0 0))), (6, (.t (.c (.own 1006)))), (25, (.t (.c (.d (.sl [[(.sl (List.map encOp a))], [(.sl (List.map encOp b))]]))))), (26, (sc (.int .i64 2))), (27, (sc (.int .i64 2)))], [(1006, (.arr 35 3 40 (List.map encOp (a ++ b))))], []⟩ [] mixed (by kernel_rfl) trivial ?_
      refine peel_next ?_
      refine rounds_one ?_
      refine awp_seq ?_
      refine awp_region_keep tab_ok boxes [] [2, 6, 25, 26, 27, 28] [1006] ⟨36, [(2, (sc (.slice none 0 0))), (6, (.t (.c (.own 1006)))), (25, (.t (.c (.d (.sl [[(.sl (List.map encOp a))], [(.sl (List.map encOp b))]]))))), (26, (sc (.int .i64 2))), (27, (sc (.int .i64 2))), (28, (sc (.bool false)))], [(1006, (.arr 35 3 40 (List.map encOp (a ++ b))))], []⟩ [] mixed (by kernel_rfl) trivial ?_
      refine peel_seq ?_
      refine awp_seq ?_
      refine awp_false rfl ?_
      refine awp_exit ?_
      refine peel_seq_exit ?_
      refine peel_seq_exit ?_
      refine peel_hit ?_
      refine peel_seq ?_
      refine awp_seq ?_
      refine awp_region_keep tab_ok boxes [] [2] [1006] ⟨36, [(2, (.t (.c (.own 1006))))], [(1006, (.arr 35 3 40 (List.map encOp (a ++ b))))], []⟩ [] mixed (by kernel_rfl) trivial ?_
      refine peel_seq ?_
      refine awp_mv [.fz 1006] ⟨36, [(2, (.t (.c (.d (.sl (List.map encOp (a ++ b)))))))], [], []⟩ rfl ?_
      refine awp_ret ?_
      exact ends_ret rfl rfl rfl
end Go.Proofs.Ytjbiaoajmdbigaa
