/- Walks of what the laws of kv share: weigh, short, made. -/
import Derived.Test.YtjbiaoajmdbigaaScan
import Derived.Test.YtjbiaoajmdbigaaDo
set_option maxRecDepth 100000
set_option linter.unusedVariables false
set_option linter.unusedSimpArgs false
namespace Go.Proofs.Ytjbiaoajmdbigaa
open Go Go.E
theorem l_weigh (l : List AOp) : Sat Try.prog 10 [(.t (.c (.d (.sl (List.map encOp l)))))] [] (sc (.int .i64 (weighM l))) [] := by
  refine sat_of_body tab_ok Try.func10 rfl (by kernel_rfl) (Nat.le_of_ble_eq_true rfl) rfl fun G => ?_
  refine awp_seq ?_
  refine awp_region_keep tab_ok boxes [] [0, 2] [] ⟨34, [(0, (.t (.c (.d (.sl (List.map encOp l)))))), (2, (sc (.int .i64 0)))], [], []⟩ [] mixed (by kernel_rfl) trivial ?_
  refine peel_seq ?_
  refine awp_seq ?_
  refine awp_region_keep tab_ok boxes [] [0, 2, 3] [] ⟨34, [(0, (.t (.c (.d (.sl (List.map encOp l)))))), (2, (sc (.int .i64 0))), (3, (sc (.int .i64 0)))], [], []⟩ [] mixed (by kernel_rfl) trivial ?_
  refine peel_seq ?_
  refine awp_seq ?_
  refine awp_seq ?_
  refine awp_region_keep tab_ok boxes [] [0, 2, 3, 4] [] ⟨34, [(0, (.t (.c (.d (.sl (List.map encOp l)))))), (2, (sc (.int .i64 0))), (3, (sc (.int .i64 0))), (4, (sc (.int .i64 0)))], [], []⟩ [] mixed (by kernel_rfl) trivial ?_
  refine peel_seq ?_
  refine awp_block ?_
  refine awp_len 0 rfl (fun hlen1 => ?_)
  refine awp_loopP (ι := Nat × (Int)) (fun x => ⟨34, [(0, (.t (.c (.d (.sl (List.map encOp l)))))), (2, (sc (.int .i64 0))), (3, (sc (.int .i64 x.2))), (4, (sc (.int .i64 (x.1 : Int))))], [], []⟩) (fun x => x.1 ≤ List.length l ∧ (0 ≤ x.2 ∧ x.2 ≤ 200000) ∧ weighF (List.drop x.1 l) x.2 = weighF l 0) (fun x => List.length l - x.1) (0, 0) rfl ⟨Nat.zero_le _, ⟨by simp, by simp⟩, rfl⟩ ?_
  rintro ⟨k2, a3⟩ ⟨hk4, hx5, hJ6⟩
  try simp only at hk4 hx5 hJ6
  refine awp_seq ?_
  refine awp_seq ?_
  cases hb7 : (decide ((k2 : Int) < (List.length l : Int))) with
  | false =>
    have hb7p := of_decide_eq_false hb7
    refine awp_region_keep tab_ok boxes [(2, ⟨[], (sc (.int .i64 (List.length l : Int))), none⟩), (3, ⟨[], (sc (.bool false)), some []⟩)] [0, 2, 3, 4, 12] [] ⟨34, [(0, (.t (.c (.d (.sl (List.map encOp l)))))), (2, (sc (.int .i64 0))), (3, (sc (.int .i64 a3))), (4, (sc (.int .i64 (k2 : Int)))), (12, (sc (.bool false)))], [], []⟩ [⟨(Go.Op.call (Go.Call.mk (Go.Callee.builtin Go.Builtin.len) #[(Go.Operand.tmp 6)] #[23])), 3, [(.t (.c (.d (.sl (List.map encOp l)))))], [], (sc (.int .i64 (List.length l : Int))), []⟩, ⟨(Go.Op.binOp Go.BinOp.lss 3 (Go.Operand.tmp 5) (Go.Operand.tmp 7) 3), 4, [(sc (.int .i64 (k2 : Int))), (sc (.int .i64 (List.length l : Int)))], [], (sc (.bool false)), []⟩] mixed (by kernel_rfl) ⟨tri_len_map tab_ok rfl, tri_scalar_eq [(.int .i64 (k2 : Int)), (.int .i64 (List.length l : Int))] (.bool (decide ((k2 : Int) < (List.length l : Int)))) rfl rfl rfl (by kernel_rfl) (congrArg Value.bool hb7), trivial⟩ ?_
    refine peel_seq ?_
    refine awp_false rfl ?_
    have hE8 := hJ6
    rw [at_end (l := l) (by (try simp only [List.length_map] at *); omega)] at hE8
    simp only [weighF, hb7, cond_true, cond_false, Bool.not_true, Bool.not_false] at hE8
    refine awp_exit ?_
    refine peel_seq_exit ?_
    refine peel_seq_exit ?_
    refine peel_hit ?_
    refine peel_seq ?_
    refine awp_seq ?_
    refine awp_region_keep tab_ok boxes [] [2] [] ⟨34, [(2, (sc (.int .i64 a3)))], [], []⟩ [] mixed (by kernel_rfl) trivial ?_
    refine peel_seq ?_
    refine awp_ret ?_
    exact ends_ret rfl (show some ((sc (.int .i64 a3)) : SV) = some ((sc (.int .i64 (weighM l))) : SV) from by first | rfl | (simp only [weighM, hb7, ← hE8, cond_true, cond_false, Bool.not_true, Bool.not_false, List.map_nil])) rfl
  | true =>
    have hb7p := of_decide_eq_true hb7
    refine awp_region_keep tab_ok boxes [(2, ⟨[], (sc (.int .i64 (List.length l : Int))), none⟩), (3, ⟨[], (sc (.bool true)), some []⟩)] [0, 2, 3, 4, 12] [] ⟨34, [(0, (.t (.c (.d (.sl (List.map encOp l)))))), (2, (sc (.int .i64 0))), (3, (sc (.int .i64 a3))), (4, (sc (.int .i64 (k2 : Int)))), (12, (sc (.bool (decide (a3 ≤ 32768)))))], [], []⟩ [⟨(Go.Op.call (Go.Call.mk (Go.Callee.builtin Go.Builtin.len) #[(Go.Operand.tmp 6)] #[23])), 3, [(.t (.c (.d (.sl (List.map encOp l)))))], [], (sc (.int .i64 (List.length l : Int))), []⟩, ⟨(Go.Op.binOp Go.BinOp.lss 3 (Go.Operand.tmp 5) (Go.Operand.tmp 7) 3), 4, [(sc (.int .i64 (k2 : Int))), (sc (.int .i64 (List.length l : Int)))], [], (sc (.bool true)), []⟩] mixed (by kernel_rfl) ⟨tri_len_map tab_ok rfl, tri_scalar_eq [(.int .i64 (k2 : Int)), (.int .i64 (List.length l : Int))] (.bool (decide ((k2 : Int) < (List.length l : Int)))) rfl rfl rfl (by kernel_rfl) (congrArg Value.bool hb7), trivial⟩ ?_
    refine peel_seq ?_
    refine awp_cond (b := (decide (a3 ≤ 32768))) rfl (fun hc9 => ?_) (fun hc9 => ?_)
    · skip
      have hc9p := of_decide_eq_true hc9
      refine awp_skip ?_
      refine peel_seq ?_
      refine awp_seq ?_
      refine awp_block ?_
      obtain ⟨⟨key13, has14, val15⟩, ha11, hd12⟩ := at_drop (l := l) (k := k2) (by (try simp only [List.length_map] at *); omega)
      refine awp_region_keep tab_ok boxes [(3, ⟨[], (.t (.c (.d (.ptr [(.v (.string key13)), (.v (.bool has14)), (.v (.string val15))])))), some []⟩), (7, ⟨[], (sc (.int .i64 (min (key13.size : Int) 32768))), some []⟩), (8, ⟨[], (sc (.int .i64 (1 + (min (key13.size : Int) 32768)))), some []⟩), (11, ⟨[], (.t (.c (.d (.ptr [(.v (.string key13)), (.v (.bool has14)), (.v (.string val15))])))), some []⟩), (15, ⟨[], (sc (.int .i64 (min (val15.size : Int) 32768))), some []⟩), (16, ⟨[], (sc (.int .i64 ((1 + (min (key13.size : Int) 32768)) + (min (val15.size : Int) 32768)))), some []⟩), (17, ⟨[], (sc (.int .i64 (a3 + ((1 + (min (key13.size : Int) 32768)) + (min (val15.size : Int) 32768))))), some []⟩)] [0, 2, 3, 4] [] ⟨34, [(0, (.t (.c (.d (.sl (List.map encOp l)))))), (2, (sc (.int .i64 0))), (3, (sc (.int .i64 (a3 + ((1 + (min (key13.size : Int) 32768)) + (min (val15.size : Int) 32768)))))), (4, (sc (.int .i64 (k2 : Int))))], [], []⟩ [⟨(Go.Op.indexAddr 23 (Go.Operand.tmp 16) (Go.Operand.tmp 17)), 0, [(.t (.c (.d (.sl (List.map encOp l))))), (sc (.int .i64 (k2 : Int)))], [], (.t (.c (.d (.ptr [(.v (.string key13)), (.v (.bool has14)), (.v (.string val15))])))), []⟩, ⟨(Go.Op.call (Go.Call.mk (Go.Callee.builtin Go.Builtin.min) #[(Go.Operand.tmp 21), (Go.Operand.const (Go.Value.int Go.IntKind.i64 32768))] #[3, 3])), 3, [(sc (.int .i64 (key13.size : Int))), (sc (.int .i64 32768))], [], (sc (.int .i64 (min (key13.size : Int) 32768))), []⟩, ⟨(Go.Op.binOp Go.BinOp.add 3 (Go.Operand.const (Go.Value.int Go.IntKind.i64 1)) (Go.Operand.tmp 22) 3), 3, [(sc (.int .i64 1)), (sc (.int .i64 (min (key13.size : Int) 32768)))], [], (sc (.int .i64 (1 + (min (key13.size : Int) 32768)))), []⟩, ⟨(Go.Op.indexAddr 23 (Go.Operand.tmp 24) (Go.Operand.tmp 25)), 0, [(.t (.c (.d (.sl (List.map encOp l))))), (sc (.int .i64 (k2 : Int)))], [], (.t (.c (.d (.ptr [(.v (.string key13)), (.v (.bool has14)), (.v (.string val15))])))), []⟩, ⟨(Go.Op.call (Go.Call.mk (Go.Callee.builtin Go.Builtin.min) #[(Go.Operand.tmp 29), (Go.Operand.const (Go.Value.int Go.IntKind.i64 32768))] #[3, 3])), 3, [(sc (.int .i64 (val15.size : Int))), (sc (.int .i64 32768))], [], (sc (.int .i64 (min (val15.size : Int) 32768))), []⟩, ⟨(Go.Op.binOp Go.BinOp.add 3 (Go.Operand.tmp 23) (Go.Operand.tmp 30) 3), 3, [(sc (.int .i64 (1 + (min (key13.size : Int) 32768)))), (sc (.int .i64 (min (val15.size : Int) 32768)))], [], (sc (.int .i64 ((1 + (min (key13.size : Int) 32768)) + (min (val15.size : Int) 32768)))), []⟩, ⟨(Go.Op.binOp Go.BinOp.add 3 (Go.Operand.tmp 15) (Go.Operand.tmp 31) 3), 3, [(sc (.int .i64 a3)), (sc (.int .i64 ((1 + (min (key13.size : Int) 32768)) + (min (val15.size : Int) 32768))))], [], (sc (.int .i64 (a3 + ((1 + (min (key13.size : Int) 32768)) + (min (val15.size : Int) 32768))))), []⟩] mixed (by kernel_rfl) ⟨tri_index_sl (e := 35) (sz := 3) (bytes := 40) (i := k2) tab_ok rfl (at_map encOp ha11) (all_map fun _ => rfl), tri_min, tri_int (1 + (min (key13.size : Int) 32768)) (wrap_i64 (by omega)), tri_index_sl (e := 35) (sz := 3) (bytes := 40) (i := k2) tab_ok rfl (at_map encOp ha11) (all_map fun _ => rfl), tri_min, tri_int ((1 + (min (key13.size : Int) 32768)) + (min (val15.size : Int) 32768)) (wrap_i64 (by omega)), tri_int (a3 + ((1 + (min (key13.size : Int) 32768)) + (min (val15.size : Int) 32768))) (wrap_i64 (by omega)), trivial⟩ ?_
      refine peel_block ?_
      refine peel_seq ?_
      refine awp_region_keep tab_ok boxes [(1, ⟨[], (sc (.int .i64 ((k2 : Int) + 1))), some []⟩)] [0, 2, 3, 4] [] ⟨34, [(0, (.t (.c (.d (.sl (List.map encOp l)))))), (2, (sc (.int .i64 0))), (3, (sc (.int .i64 (a3 + ((1 + (min (key13.size : Int) 32768)) + (min (val15.size : Int) 32768)))))), (4, (sc (.int .i64 ((k2 : Int) + 1))))], [], []⟩ [⟨(Go.Op.binOp Go.BinOp.add 3 (Go.Operand.tmp 13) (Go.Operand.const (Go.Value.int Go.IntKind.i64 1)) 3), 3, [(sc (.int .i64 (k2 : Int))), (sc (.int .i64 1))], [], (sc (.int .i64 ((k2 : Int) + 1))), []⟩] mixed (by kernel_rfl) ⟨tri_int ((k2 : Int) + 1) (wrap_i64 (by omega)), trivial⟩ ?_
      exact peel_round (k2 + 1, (a3 + ((1 + (min (key13.size : Int) 32768)) + (min (val15.size : Int) 32768)))) rfl ⟨by (try simp only [List.length_map] at *); omega, ⟨by simp only; omega, by simp only; omega⟩, by have hj := hJ6; rw [hd12] at hj; simp only [weighF, hb7, hc9, cond_true, cond_false, Bool.not_true, Bool.not_false] at hj ⊢; exact hj⟩ (by (try simp only [List.length_map] at *); omega)
    · skip
      have hc9p := of_decide_eq_false hc9
      have hE16 := hJ6
      obtain ⟨x17, ha18, hd19⟩ := at_drop (l := l) (k := k2) (by (try simp only [List.length_map] at *); omega)
      rw [hd19] at hE16
      simp only [weighF, hb7, hc9, cond_true, cond_false, Bool.not_true, Bool.not_false] at hE16
      refine awp_exit ?_
      refine peel_seq_exit ?_
      refine peel_seq_exit ?_
      refine peel_hit ?_
      refine peel_seq ?_
      refine awp_seq ?_
      refine awp_region_keep tab_ok boxes [] [2] [] ⟨34, [(2, (sc (.int .i64 a3)))], [], []⟩ [] mixed (by kernel_rfl) trivial ?_
      refine peel_seq ?_
      refine awp_ret ?_
      exact ends_ret rfl (show some ((sc (.int .i64 a3)) : SV) = some ((sc (.int .i64 (weighM l))) : SV) from by first | rfl | (simp only [weighM, hb7, hc9, ← hE16, cond_true, cond_false, Bool.not_true, Bool.not_false, List.map_nil])) rfl
theorem l_short (l : List ADo) : Sat Try.prog 9 [(.t (.c (.d (.sl (List.map encDo l)))))] [] (sc (.bool (shortM l))) [] := by
  refine sat_of_body tab_ok Try.func9 rfl (by kernel_rfl) (Nat.le_of_ble_eq_true rfl) rfl fun G => ?_
  refine awp_seq ?_
  refine awp_region_keep tab_ok boxes [] [0, 2] [] ⟨75, [(0, (.t (.c (.d (.sl (List.map encDo l)))))), (2, (sc (.bool false)))], [], []⟩ [] mixed (by kernel_rfl) trivial ?_
  refine peel_seq ?_
  refine awp_seq ?_
  refine awp_region_keep tab_ok boxes [] [0, 2, 3] [] ⟨75, [(0, (.t (.c (.d (.sl (List.map encDo l)))))), (2, (sc (.bool false))), (3, (sc (.int .i64 0)))], [], []⟩ [] mixed (by kernel_rfl) trivial ?_
  refine peel_seq ?_
  refine awp_seq ?_
  refine awp_seq ?_
  refine awp_region_keep tab_ok boxes [] [0, 2, 3, 4] [] ⟨75, [(0, (.t (.c (.d (.sl (List.map encDo l)))))), (2, (sc (.bool false))), (3, (sc (.int .i64 0))), (4, (sc (.int .i64 0)))], [], []⟩ [] mixed (by kernel_rfl) trivial ?_
  refine peel_seq ?_
  refine awp_block ?_
  refine awp_len 0 rfl (fun hlen1 => ?_)
  refine awp_loopP (ι := Nat × (Int)) (fun x => ⟨75, [(0, (.t (.c (.d (.sl (List.map encDo l)))))), (2, (sc (.bool false))), (3, (sc (.int .i64 x.2))), (4, (sc (.int .i64 (x.1 : Int))))], [], []⟩) (fun x => x.1 ≤ List.length l ∧ (0 ≤ x.2 ∧ x.2 ≤ 1000000) ∧ shortF (List.drop x.1 l) (x.1 : Int) x.2 = shortF l 0 0) (fun x => List.length l - x.1) (0, 0) rfl ⟨Nat.zero_le _, ⟨by simp, by simp⟩, rfl⟩ ?_
  rintro ⟨k2, a3⟩ ⟨hk4, hx5, hJ6⟩
  try simp only at hk4 hx5 hJ6
  refine awp_seq ?_
  refine awp_seq ?_
  cases hb7 : (decide ((k2 : Int) < (List.length l : Int))) with
  | false =>
    have hb7p := of_decide_eq_false hb7
    refine awp_region_keep tab_ok boxes [(2, ⟨[], (sc (.int .i64 (List.length l : Int))), none⟩), (3, ⟨[], (sc (.bool false)), some []⟩)] [0, 2, 3, 4, 16] [] ⟨75, [(0, (.t (.c (.d (.sl (List.map encDo l)))))), (2, (sc (.bool false))), (3, (sc (.int .i64 a3))), (4, (sc (.int .i64 (k2 : Int)))), (16, (sc (.bool false)))], [], []⟩ [⟨(Go.Op.call (Go.Call.mk (Go.Callee.builtin Go.Builtin.len) #[(Go.Operand.tmp 6)] #[22])), 3, [(.t (.c (.d (.sl (List.map encDo l)))))], [], (sc (.int .i64 (List.length l : Int))), []⟩, ⟨(Go.Op.binOp Go.BinOp.lss 3 (Go.Operand.tmp 5) (Go.Operand.tmp 7) 3), 4, [(sc (.int .i64 (k2 : Int))), (sc (.int .i64 (List.length l : Int)))], [], (sc (.bool false)), []⟩] mixed (by kernel_rfl) ⟨tri_len_map tab_ok rfl, tri_scalar_eq [(.int .i64 (k2 : Int)), (.int .i64 (List.length l : Int))] (.bool (decide ((k2 : Int) < (List.length l : Int)))) rfl rfl rfl (by kernel_rfl) (congrArg Value.bool hb7), trivial⟩ ?_
    refine peel_seq ?_
    refine awp_false rfl ?_
    have hE8 := hJ6
    rw [at_end (l := l) (by (try simp only [List.length_map] at *); omega)] at hE8
    simp only [shortF, hb7, cond_true, cond_false, Bool.not_true, Bool.not_false] at hE8
    refine awp_exit ?_
    refine peel_seq_exit ?_
    refine peel_seq_exit ?_
    refine peel_hit ?_
    refine peel_seq ?_
    refine awp_seq ?_
    cases hb9 : (decide ((List.length l : Int) ≤ 100)) with
    | false =>
      have hb9p := of_decide_eq_false hb9
      refine awp_region_keep tab_ok boxes [(1, ⟨[], (sc (.int .i64 (List.length l : Int))), none⟩), (2, ⟨[], (sc (.bool false)), some []⟩)] [2] [] ⟨75, [(2, (sc (.bool false)))], [], []⟩ [⟨(Go.Op.call (Go.Call.mk (Go.Callee.builtin Go.Builtin.len) #[(Go.Operand.tmp 68)] #[22])), 3, [(.t (.c (.d (.sl (List.map encDo l)))))], [], (sc (.int .i64 (List.length l : Int))), []⟩, ⟨(Go.Op.binOp Go.BinOp.leq 3 (Go.Operand.tmp 69) (Go.Operand.const (Go.Value.int Go.IntKind.i64 100)) 3), 4, [(sc (.int .i64 (List.length l : Int))), (sc (.int .i64 100))], [], (sc (.bool false)), []⟩] mixed (by kernel_rfl) ⟨tri_len_map tab_ok rfl, tri_scalar_eq [(.int .i64 (List.length l : Int)), (.int .i64 100)] (.bool (decide ((List.length l : Int) ≤ 100))) rfl rfl rfl (by kernel_rfl) (congrArg Value.bool hb9), trivial⟩ ?_
      refine peel_seq ?_
      refine awp_ret ?_
      exact ends_ret rfl (show some ((sc (.bool false)) : SV) = some ((sc (.bool (shortM l))) : SV) from by first | rfl | (simp only [shortM, hb7, hb9, ← hE8, cond_true, cond_false, Bool.not_true, Bool.not_false, List.map_nil])) rfl
    | true =>
      have hb9p := of_decide_eq_true hb9
      refine awp_region_keep tab_ok boxes [(1, ⟨[], (sc (.int .i64 (List.length l : Int))), none⟩), (2, ⟨[], (sc (.bool true)), some []⟩)] [2] [] ⟨75, [(2, (sc (.bool (decide (a3 ≤ 32768)))))], [], []⟩ [⟨(Go.Op.call (Go.Call.mk (Go.Callee.builtin Go.Builtin.len) #[(Go.Operand.tmp 68)] #[22])), 3, [(.t (.c (.d (.sl (List.map encDo l)))))], [], (sc (.int .i64 (List.length l : Int))), []⟩, ⟨(Go.Op.binOp Go.BinOp.leq 3 (Go.Operand.tmp 69) (Go.Operand.const (Go.Value.int Go.IntKind.i64 100)) 3), 4, [(sc (.int .i64 (List.length l : Int))), (sc (.int .i64 100))], [], (sc (.bool true)), []⟩] mixed (by kernel_rfl) ⟨tri_len_map tab_ok rfl, tri_scalar_eq [(.int .i64 (List.length l : Int)), (.int .i64 100)] (.bool (decide ((List.length l : Int) ≤ 100))) rfl rfl rfl (by kernel_rfl) (congrArg Value.bool hb9), trivial⟩ ?_
      refine peel_seq ?_
      refine awp_ret ?_
      exact ends_ret rfl (show some ((sc (.bool (decide (a3 ≤ 32768)))) : SV) = some ((sc (.bool (shortM l))) : SV) from by first | rfl | (simp only [shortM, hb7, hb9, ← hE8, cond_true, cond_false, Bool.not_true, Bool.not_false, List.map_nil])) rfl
  | true =>
    have hb7p := of_decide_eq_true hb7
    cases hb10 : (decide ((k2 : Int) ≤ 100)) with
    | false =>
      have hb10p := of_decide_eq_false hb10
      refine awp_region_keep tab_ok boxes [(2, ⟨[], (sc (.int .i64 (List.length l : Int))), none⟩), (3, ⟨[], (sc (.bool true)), some []⟩), (6, ⟨[], (sc (.bool false)), some []⟩)] [0, 2, 3, 4, 16] [] ⟨75, [(0, (.t (.c (.d (.sl (List.map encDo l)))))), (2, (sc (.bool false))), (3, (sc (.int .i64 a3))), (4, (sc (.int .i64 (k2 : Int)))), (16, (sc (.bool false)))], [], []⟩ [⟨(Go.Op.call (Go.Call.mk (Go.Callee.builtin Go.Builtin.len) #[(Go.Operand.tmp 6)] #[22])), 3, [(.t (.c (.d (.sl (List.map encDo l)))))], [], (sc (.int .i64 (List.length l : Int))), []⟩, ⟨(Go.Op.binOp Go.BinOp.lss 3 (Go.Operand.tmp 5) (Go.Operand.tmp 7) 3), 4, [(sc (.int .i64 (k2 : Int))), (sc (.int .i64 (List.length l : Int)))], [], (sc (.bool true)), []⟩, ⟨(Go.Op.binOp Go.BinOp.leq 3 (Go.Operand.tmp 10) (Go.Operand.const (Go.Value.int Go.IntKind.i64 100)) 3), 4, [(sc (.int .i64 (k2 : Int))), (sc (.int .i64 100))], [], (sc (.bool false)), []⟩] mixed (by kernel_rfl) ⟨tri_len_map tab_ok rfl, tri_scalar_eq [(.int .i64 (k2 : Int)), (.int .i64 (List.length l : Int))] (.bool (decide ((k2 : Int) < (List.length l : Int)))) rfl rfl rfl (by kernel_rfl) (congrArg Value.bool hb7), tri_scalar_eq [(.int .i64 (k2 : Int)), (.int .i64 100)] (.bool (decide ((k2 : Int) ≤ 100))) rfl rfl rfl (by kernel_rfl) (congrArg Value.bool hb10), trivial⟩ ?_
      refine peel_seq ?_
      refine awp_false rfl ?_
      have hE11 := hJ6
      obtain ⟨x12, ha13, hd14⟩ := at_drop (l := l) (k := k2) (by (try simp only [List.length_map] at *); omega)
      rw [hd14] at hE11
      simp only [shortF, hb10, hb7, cond_true, cond_false, Bool.not_true, Bool.not_false] at hE11
      refine awp_exit ?_
      refine peel_seq_exit ?_
      refine peel_seq_exit ?_
      refine peel_hit ?_
      refine peel_seq ?_
      refine awp_seq ?_
      cases hb15 : (decide ((List.length l : Int) ≤ 100)) with
      | false =>
        have hb15p := of_decide_eq_false hb15
        refine awp_region_keep tab_ok boxes [(1, ⟨[], (sc (.int .i64 (List.length l : Int))), none⟩), (2, ⟨[], (sc (.bool false)), some []⟩)] [2] [] ⟨75, [(2, (sc (.bool false)))], [], []⟩ [⟨(Go.Op.call (Go.Call.mk (Go.Callee.builtin Go.Builtin.len) #[(Go.Operand.tmp 68)] #[22])), 3, [(.t (.c (.d (.sl (List.map encDo l)))))], [], (sc (.int .i64 (List.length l : Int))), []⟩, ⟨(Go.Op.binOp Go.BinOp.leq 3 (Go.Operand.tmp 69) (Go.Operand.const (Go.Value.int Go.IntKind.i64 100)) 3), 4, [(sc (.int .i64 (List.length l : Int))), (sc (.int .i64 100))], [], (sc (.bool false)), []⟩] mixed (by kernel_rfl) ⟨tri_len_map tab_ok rfl, tri_scalar_eq [(.int .i64 (List.length l : Int)), (.int .i64 100)] (.bool (decide ((List.length l : Int) ≤ 100))) rfl rfl rfl (by kernel_rfl) (congrArg Value.bool hb15), trivial⟩ ?_
        refine peel_seq ?_
        refine awp_ret ?_
        exact ends_ret rfl (show some ((sc (.bool false)) : SV) = some ((sc (.bool (shortM l))) : SV) from by first | rfl | (simp only [shortM, hb10, hb15, hb7, ← hE11, cond_true, cond_false, Bool.not_true, Bool.not_false, List.map_nil])) rfl
      | true =>
        have hb15p := of_decide_eq_true hb15
        refine awp_region_keep tab_ok boxes [(1, ⟨[], (sc (.int .i64 (List.length l : Int))), none⟩), (2, ⟨[], (sc (.bool true)), some []⟩)] [2] [] ⟨75, [(2, (sc (.bool (decide (a3 ≤ 32768)))))], [], []⟩ [⟨(Go.Op.call (Go.Call.mk (Go.Callee.builtin Go.Builtin.len) #[(Go.Operand.tmp 68)] #[22])), 3, [(.t (.c (.d (.sl (List.map encDo l)))))], [], (sc (.int .i64 (List.length l : Int))), []⟩, ⟨(Go.Op.binOp Go.BinOp.leq 3 (Go.Operand.tmp 69) (Go.Operand.const (Go.Value.int Go.IntKind.i64 100)) 3), 4, [(sc (.int .i64 (List.length l : Int))), (sc (.int .i64 100))], [], (sc (.bool true)), []⟩] mixed (by kernel_rfl) ⟨tri_len_map tab_ok rfl, tri_scalar_eq [(.int .i64 (List.length l : Int)), (.int .i64 100)] (.bool (decide ((List.length l : Int) ≤ 100))) rfl rfl rfl (by kernel_rfl) (congrArg Value.bool hb15), trivial⟩ ?_
        refine peel_seq ?_
        refine awp_ret ?_
        exact ends_ret rfl (show some ((sc (.bool (decide (a3 ≤ 32768)))) : SV) = some ((sc (.bool (shortM l))) : SV) from by first | rfl | (simp only [shortM, hb10, hb15, hb7, ← hE11, cond_true, cond_false, Bool.not_true, Bool.not_false, List.map_nil])) rfl
    | true =>
      have hb10p := of_decide_eq_true hb10
      refine awp_region_keep tab_ok boxes [(2, ⟨[], (sc (.int .i64 (List.length l : Int))), none⟩), (3, ⟨[], (sc (.bool true)), some []⟩), (6, ⟨[], (sc (.bool true)), some []⟩)] [0, 2, 3, 4, 16] [] ⟨75, [(0, (.t (.c (.d (.sl (List.map encDo l)))))), (2, (sc (.bool false))), (3, (sc (.int .i64 a3))), (4, (sc (.int .i64 (k2 : Int)))), (16, (sc (.bool (decide (a3 ≤ 32768)))))], [], []⟩ [⟨(Go.Op.call (Go.Call.mk (Go.Callee.builtin Go.Builtin.len) #[(Go.Operand.tmp 6)] #[22])), 3, [(.t (.c (.d (.sl (List.map encDo l)))))], [], (sc (.int .i64 (List.length l : Int))), []⟩, ⟨(Go.Op.binOp Go.BinOp.lss 3 (Go.Operand.tmp 5) (Go.Operand.tmp 7) 3), 4, [(sc (.int .i64 (k2 : Int))), (sc (.int .i64 (List.length l : Int)))], [], (sc (.bool true)), []⟩, ⟨(Go.Op.binOp Go.BinOp.leq 3 (Go.Operand.tmp 10) (Go.Operand.const (Go.Value.int Go.IntKind.i64 100)) 3), 4, [(sc (.int .i64 (k2 : Int))), (sc (.int .i64 100))], [], (sc (.bool true)), []⟩] mixed (by kernel_rfl) ⟨tri_len_map tab_ok rfl, tri_scalar_eq [(.int .i64 (k2 : Int)), (.int .i64 (List.length l : Int))] (.bool (decide ((k2 : Int) < (List.length l : Int)))) rfl rfl rfl (by kernel_rfl) (congrArg Value.bool hb7), tri_scalar_eq [(.int .i64 (k2 : Int)), (.int .i64 100)] (.bool (decide ((k2 : Int) ≤ 100))) rfl rfl rfl (by kernel_rfl) (congrArg Value.bool hb10), trivial⟩ ?_
      refine peel_seq ?_
      refine awp_cond (b := (decide (a3 ≤ 32768))) rfl (fun hc16 => ?_) (fun hc16 => ?_)
      · skip
        have hc16p := of_decide_eq_true hc16
        refine awp_skip ?_
        refine peel_seq ?_
        refine awp_seq ?_
        refine awp_block ?_
        obtain ⟨⟨op20, pos21, conds22, ops23, fr24, to25, p126, p227, p328, p429, p530, p631⟩, ha18, hd19⟩ := at_drop (l := l) (k := k2) (by (try simp only [List.length_map] at *); omega)
        have hw32 := weighM_le conds22
        have hw33 := weighM_le ops23
        refine awp_region_keep tab_ok boxes [(3, ⟨[], (.t (.c (.d (.ptr [(.v (.int .i64 op20)), (.v (.int .i64 pos21)), (.sl (List.map encOp conds22)), (.sl (List.map encOp ops23)), (.v (.string fr24)), (.v (.string to25)), (.v (.int .i64 p126)), (.v (.string p227)), (.v (.bool p328)), (.v (.string p429)), (.v (.bool p530)), (.v (.string p631))])))), some []⟩), (6, ⟨[], (sc (.int .i64 (weighM conds22))), some []⟩), (9, ⟨[], (.t (.c (.d (.ptr [(.v (.int .i64 op20)), (.v (.int .i64 pos21)), (.sl (List.map encOp conds22)), (.sl (List.map encOp ops23)), (.v (.string fr24)), (.v (.string to25)), (.v (.int .i64 p126)), (.v (.string p227)), (.v (.bool p328)), (.v (.string p429)), (.v (.bool p530)), (.v (.string p631))])))), some []⟩), (12, ⟨[], (sc (.int .i64 (weighM ops23))), some []⟩), (13, ⟨[], (sc (.int .i64 ((weighM conds22) + (weighM ops23)))), some []⟩), (16, ⟨[], (.t (.c (.d (.ptr [(.v (.int .i64 op20)), (.v (.int .i64 pos21)), (.sl (List.map encOp conds22)), (.sl (List.map encOp ops23)), (.v (.string fr24)), (.v (.string to25)), (.v (.int .i64 p126)), (.v (.string p227)), (.v (.bool p328)), (.v (.string p429)), (.v (.bool p530)), (.v (.string p631))])))), some []⟩), (20, ⟨[], (sc (.int .i64 (min (fr24.size : Int) 32768))), some []⟩), (21, ⟨[], (sc (.int .i64 (((weighM conds22) + (weighM ops23)) + (min (fr24.size : Int) 32768)))), some []⟩), (24, ⟨[], (.t (.c (.d (.ptr [(.v (.int .i64 op20)), (.v (.int .i64 pos21)), (.sl (List.map encOp conds22)), (.sl (List.map encOp ops23)), (.v (.string fr24)), (.v (.string to25)), (.v (.int .i64 p126)), (.v (.string p227)), (.v (.bool p328)), (.v (.string p429)), (.v (.bool p530)), (.v (.string p631))])))), some []⟩), (28, ⟨[], (sc (.int .i64 (min (to25.size : Int) 32768))), some []⟩), (29, ⟨[], (sc (.int .i64 ((((weighM conds22) + (weighM ops23)) + (min (fr24.size : Int) 32768)) + (min (to25.size : Int) 32768)))), some []⟩), (32, ⟨[], (.t (.c (.d (.ptr [(.v (.int .i64 op20)), (.v (.int .i64 pos21)), (.sl (List.map encOp conds22)), (.sl (List.map encOp ops23)), (.v (.string fr24)), (.v (.string to25)), (.v (.int .i64 p126)), (.v (.string p227)), (.v (.bool p328)), (.v (.string p429)), (.v (.bool p530)), (.v (.string p631))])))), some []⟩), (37, ⟨[], (sc (.int .i64 (min (p227.size : Int) 32768))), some []⟩), (38, ⟨[], (sc (.int .i64 (((((weighM conds22) + (weighM ops23)) + (min (fr24.size : Int) 32768)) + (min (to25.size : Int) 32768)) + (min (p227.size : Int) 32768)))), some []⟩), (41, ⟨[], (.t (.c (.d (.ptr [(.v (.int .i64 op20)), (.v (.int .i64 pos21)), (.sl (List.map encOp conds22)), (.sl (List.map encOp ops23)), (.v (.string fr24)), (.v (.string to25)), (.v (.int .i64 p126)), (.v (.string p227)), (.v (.bool p328)), (.v (.string p429)), (.v (.bool p530)), (.v (.string p631))])))), some []⟩), (46, ⟨[], (sc (.int .i64 (min (p631.size : Int) 32768))), some []⟩), (47, ⟨[], (sc (.int .i64 ((((((weighM conds22) + (weighM ops23)) + (min (fr24.size : Int) 32768)) + (min (to25.size : Int) 32768)) + (min (p227.size : Int) 32768)) + (min (p631.size : Int) 32768)))), some []⟩), (48, ⟨[], (sc (.int .i64 (a3 + ((((((weighM conds22) + (weighM ops23)) + (min (fr24.size : Int) 32768)) + (min (to25.size : Int) 32768)) + (min (p227.size : Int) 32768)) + (min (p631.size : Int) 32768))))), some []⟩)] [0, 2, 3, 4] [] ⟨75, [(0, (.t (.c (.d (.sl (List.map encDo l)))))), (2, (sc (.bool false))), (3, (sc (.int .i64 (a3 + ((((((weighM conds22) + (weighM ops23)) + (min (fr24.size : Int) 32768)) + (min (to25.size : Int) 32768)) + (min (p227.size : Int) 32768)) + (min (p631.size : Int) 32768)))))), (4, (sc (.int .i64 (k2 : Int))))], [], []⟩ [⟨(Go.Op.indexAddr 22 (Go.Operand.tmp 20) (Go.Operand.tmp 21)), 0, [(.t (.c (.d (.sl (List.map encDo l))))), (sc (.int .i64 (k2 : Int)))], [], (.t (.c (.d (.ptr [(.v (.int .i64 op20)), (.v (.int .i64 pos21)), (.sl (List.map encOp conds22)), (.sl (List.map encOp ops23)), (.v (.string fr24)), (.v (.string to25)), (.v (.int .i64 p126)), (.v (.string p227)), (.v (.bool p328)), (.v (.string p429)), (.v (.bool p530)), (.v (.string p631))])))), []⟩, ⟨(Go.Op.call (Go.Call.mk (Go.Callee.value (Go.Operand.func 10)) #[(Go.Operand.tmp 24)] #[23])), 3, [(sc (.func (.func 10) #[] #[])), (.t (.c (.d (.sl (List.map encOp conds22)))))], [], (sc (.int .i64 (weighM conds22))), []⟩, ⟨(Go.Op.indexAddr 22 (Go.Operand.tmp 26) (Go.Operand.tmp 27)), 0, [(.t (.c (.d (.sl (List.map encDo l))))), (sc (.int .i64 (k2 : Int)))], [], (.t (.c (.d (.ptr [(.v (.int .i64 op20)), (.v (.int .i64 pos21)), (.sl (List.map encOp conds22)), (.sl (List.map encOp ops23)), (.v (.string fr24)), (.v (.string to25)), (.v (.int .i64 p126)), (.v (.string p227)), (.v (.bool p328)), (.v (.string p429)), (.v (.bool p530)), (.v (.string p631))])))), []⟩, ⟨(Go.Op.call (Go.Call.mk (Go.Callee.value (Go.Operand.func 10)) #[(Go.Operand.tmp 30)] #[23])), 3, [(sc (.func (.func 10) #[] #[])), (.t (.c (.d (.sl (List.map encOp ops23)))))], [], (sc (.int .i64 (weighM ops23))), []⟩, ⟨(Go.Op.binOp Go.BinOp.add 3 (Go.Operand.tmp 25) (Go.Operand.tmp 31) 3), 3, [(sc (.int .i64 (weighM conds22))), (sc (.int .i64 (weighM ops23)))], [], (sc (.int .i64 ((weighM conds22) + (weighM ops23)))), []⟩, ⟨(Go.Op.indexAddr 22 (Go.Operand.tmp 33) (Go.Operand.tmp 34)), 0, [(.t (.c (.d (.sl (List.map encDo l))))), (sc (.int .i64 (k2 : Int)))], [], (.t (.c (.d (.ptr [(.v (.int .i64 op20)), (.v (.int .i64 pos21)), (.sl (List.map encOp conds22)), (.sl (List.map encOp ops23)), (.v (.string fr24)), (.v (.string to25)), (.v (.int .i64 p126)), (.v (.string p227)), (.v (.bool p328)), (.v (.string p429)), (.v (.bool p530)), (.v (.string p631))])))), []⟩, ⟨(Go.Op.call (Go.Call.mk (Go.Callee.builtin Go.Builtin.min) #[(Go.Operand.tmp 38), (Go.Operand.const (Go.Value.int Go.IntKind.i64 32768))] #[3, 3])), 3, [(sc (.int .i64 (fr24.size : Int))), (sc (.int .i64 32768))], [], (sc (.int .i64 (min (fr24.size : Int) 32768))), []⟩, ⟨(Go.Op.binOp Go.BinOp.add 3 (Go.Operand.tmp 32) (Go.Operand.tmp 39) 3), 3, [(sc (.int .i64 ((weighM conds22) + (weighM ops23)))), (sc (.int .i64 (min (fr24.size : Int) 32768)))], [], (sc (.int .i64 (((weighM conds22) + (weighM ops23)) + (min (fr24.size : Int) 32768)))), []⟩, ⟨(Go.Op.indexAddr 22 (Go.Operand.tmp 41) (Go.Operand.tmp 42)), 0, [(.t (.c (.d (.sl (List.map encDo l))))), (sc (.int .i64 (k2 : Int)))], [], (.t (.c (.d (.ptr [(.v (.int .i64 op20)), (.v (.int .i64 pos21)), (.sl (List.map encOp conds22)), (.sl (List.map encOp ops23)), (.v (.string fr24)), (.v (.string to25)), (.v (.int .i64 p126)), (.v (.string p227)), (.v (.bool p328)), (.v (.string p429)), (.v (.bool p530)), (.v (.string p631))])))), []⟩, ⟨(Go.Op.call (Go.Call.mk (Go.Callee.builtin Go.Builtin.min) #[(Go.Operand.tmp 46), (Go.Operand.const (Go.Value.int Go.IntKind.i64 32768))] #[3, 3])), 3, [(sc (.int .i64 (to25.size : Int))), (sc (.int .i64 32768))], [], (sc (.int .i64 (min (to25.size : Int) 32768))), []⟩, ⟨(Go.Op.binOp Go.BinOp.add 3 (Go.Operand.tmp 40) (Go.Operand.tmp 47) 3), 3, [(sc (.int .i64 (((weighM conds22) + (weighM ops23)) + (min (fr24.size : Int) 32768)))), (sc (.int .i64 (min (to25.size : Int) 32768)))], [], (sc (.int .i64 ((((weighM conds22) + (weighM ops23)) + (min (fr24.size : Int) 32768)) + (min (to25.size : Int) 32768)))), []⟩, ⟨(Go.Op.indexAddr 22 (Go.Operand.tmp 49) (Go.Operand.tmp 50)), 0, [(.t (.c (.d (.sl (List.map encDo l))))), (sc (.int .i64 (k2 : Int)))], [], (.t (.c (.d (.ptr [(.v (.int .i64 op20)), (.v (.int .i64 pos21)), (.sl (List.map encOp conds22)), (.sl (List.map encOp ops23)), (.v (.string fr24)), (.v (.string to25)), (.v (.int .i64 p126)), (.v (.string p227)), (.v (.bool p328)), (.v (.string p429)), (.v (.bool p530)), (.v (.string p631))])))), []⟩, ⟨(Go.Op.call (Go.Call.mk (Go.Callee.builtin Go.Builtin.min) #[(Go.Operand.tmp 55), (Go.Operand.const (Go.Value.int Go.IntKind.i64 32768))] #[3, 3])), 3, [(sc (.int .i64 (p227.size : Int))), (sc (.int .i64 32768))], [], (sc (.int .i64 (min (p227.size : Int) 32768))), []⟩, ⟨(Go.Op.binOp Go.BinOp.add 3 (Go.Operand.tmp 48) (Go.Operand.tmp 56) 3), 3, [(sc (.int .i64 ((((weighM conds22) + (weighM ops23)) + (min (fr24.size : Int) 32768)) + (min (to25.size : Int) 32768)))), (sc (.int .i64 (min (p227.size : Int) 32768)))], [], (sc (.int .i64 (((((weighM conds22) + (weighM ops23)) + (min (fr24.size : Int) 32768)) + (min (to25.size : Int) 32768)) + (min (p227.size : Int) 32768)))), []⟩, ⟨(Go.Op.indexAddr 22 (Go.Operand.tmp 58) (Go.Operand.tmp 59)), 0, [(.t (.c (.d (.sl (List.map encDo l))))), (sc (.int .i64 (k2 : Int)))], [], (.t (.c (.d (.ptr [(.v (.int .i64 op20)), (.v (.int .i64 pos21)), (.sl (List.map encOp conds22)), (.sl (List.map encOp ops23)), (.v (.string fr24)), (.v (.string to25)), (.v (.int .i64 p126)), (.v (.string p227)), (.v (.bool p328)), (.v (.string p429)), (.v (.bool p530)), (.v (.string p631))])))), []⟩, ⟨(Go.Op.call (Go.Call.mk (Go.Callee.builtin Go.Builtin.min) #[(Go.Operand.tmp 64), (Go.Operand.const (Go.Value.int Go.IntKind.i64 32768))] #[3, 3])), 3, [(sc (.int .i64 (p631.size : Int))), (sc (.int .i64 32768))], [], (sc (.int .i64 (min (p631.size : Int) 32768))), []⟩, ⟨(Go.Op.binOp Go.BinOp.add 3 (Go.Operand.tmp 57) (Go.Operand.tmp 65) 3), 3, [(sc (.int .i64 (((((weighM conds22) + (weighM ops23)) + (min (fr24.size : Int) 32768)) + (min (to25.size : Int) 32768)) + (min (p227.size : Int) 32768)))), (sc (.int .i64 (min (p631.size : Int) 32768)))], [], (sc (.int .i64 ((((((weighM conds22) + (weighM ops23)) + (min (fr24.size : Int) 32768)) + (min (to25.size : Int) 32768)) + (min (p227.size : Int) 32768)) + (min (p631.size : Int) 32768)))), []⟩, ⟨(Go.Op.binOp Go.BinOp.add 3 (Go.Operand.tmp 19) (Go.Operand.tmp 66) 3), 3, [(sc (.int .i64 a3)), (sc (.int .i64 ((((((weighM conds22) + (weighM ops23)) + (min (fr24.size : Int) 32768)) + (min (to25.size : Int) 32768)) + (min (p227.size : Int) 32768)) + (min (p631.size : Int) 32768))))], [], (sc (.int .i64 (a3 + ((((((weighM conds22) + (weighM ops23)) + (min (fr24.size : Int) 32768)) + (min (to25.size : Int) 32768)) + (min (p227.size : Int) 32768)) + (min (p631.size : Int) 32768))))), []⟩] mixed (by kernel_rfl) ⟨tri_index_sl (e := 46) (sz := 12) (bytes := 168) (i := k2) tab_ok rfl (at_map encDo ha18) (all_map fun _ => rfl), tri_call (l_weigh conds22), tri_index_sl (e := 46) (sz := 12) (bytes := 168) (i := k2) tab_ok rfl (at_map encDo ha18) (all_map fun _ => rfl), tri_call (l_weigh ops23), tri_int ((weighM conds22) + (weighM ops23)) (wrap_i64 (by omega)), tri_index_sl (e := 46) (sz := 12) (bytes := 168) (i := k2) tab_ok rfl (at_map encDo ha18) (all_map fun _ => rfl), tri_min, tri_int (((weighM conds22) + (weighM ops23)) + (min (fr24.size : Int) 32768)) (wrap_i64 (by omega)), tri_index_sl (e := 46) (sz := 12) (bytes := 168) (i := k2) tab_ok rfl (at_map encDo ha18) (all_map fun _ => rfl), tri_min, tri_int ((((weighM conds22) + (weighM ops23)) + (min (fr24.size : Int) 32768)) + (min (to25.size : Int) 32768)) (wrap_i64 (by omega)), tri_index_sl (e := 46) (sz := 12) (bytes := 168) (i := k2) tab_ok rfl (at_map encDo ha18) (all_map fun _ => rfl), tri_min, tri_int (((((weighM conds22) + (weighM ops23)) + (min (fr24.size : Int) 32768)) + (min (to25.size : Int) 32768)) + (min (p227.size : Int) 32768)) (wrap_i64 (by omega)), tri_index_sl (e := 46) (sz := 12) (bytes := 168) (i := k2) tab_ok rfl (at_map encDo ha18) (all_map fun _ => rfl), tri_min, tri_int ((((((weighM conds22) + (weighM ops23)) + (min (fr24.size : Int) 32768)) + (min (to25.size : Int) 32768)) + (min (p227.size : Int) 32768)) + (min (p631.size : Int) 32768)) (wrap_i64 (by omega)), tri_int (a3 + ((((((weighM conds22) + (weighM ops23)) + (min (fr24.size : Int) 32768)) + (min (to25.size : Int) 32768)) + (min (p227.size : Int) 32768)) + (min (p631.size : Int) 32768))) (wrap_i64 (by omega)), trivial⟩ ?_
        refine peel_block ?_
        refine peel_seq ?_
        refine awp_region_keep tab_ok boxes [(1, ⟨[], (sc (.int .i64 ((k2 : Int) + 1))), some []⟩)] [0, 2, 3, 4] [] ⟨75, [(0, (.t (.c (.d (.sl (List.map encDo l)))))), (2, (sc (.bool false))), (3, (sc (.int .i64 (a3 + ((((((weighM conds22) + (weighM ops23)) + (min (fr24.size : Int) 32768)) + (min (to25.size : Int) 32768)) + (min (p227.size : Int) 32768)) + (min (p631.size : Int) 32768)))))), (4, (sc (.int .i64 ((k2 : Int) + 1))))], [], []⟩ [⟨(Go.Op.binOp Go.BinOp.add 3 (Go.Operand.tmp 17) (Go.Operand.const (Go.Value.int Go.IntKind.i64 1)) 3), 3, [(sc (.int .i64 (k2 : Int))), (sc (.int .i64 1))], [], (sc (.int .i64 ((k2 : Int) + 1))), []⟩] mixed (by kernel_rfl) ⟨tri_int ((k2 : Int) + 1) (wrap_i64 (by omega)), trivial⟩ ?_
        exact peel_round (k2 + 1, (a3 + ((((((weighM conds22) + (weighM ops23)) + (min (fr24.size : Int) 32768)) + (min (to25.size : Int) 32768)) + (min (p227.size : Int) 32768)) + (min (p631.size : Int) 32768)))) rfl ⟨by (try simp only [List.length_map] at *); omega, ⟨by simp only; omega, by simp only; omega⟩, by have hj := hJ6; rw [hd19] at hj; simp only [shortF, hb10, hb7, hc16, cond_true, cond_false, Bool.not_true, Bool.not_false] at hj ⊢; exact hj⟩ (by (try simp only [List.length_map] at *); omega)
      · skip
        have hc16p := of_decide_eq_false hc16
        have hE34 := hJ6
        obtain ⟨x35, ha36, hd37⟩ := at_drop (l := l) (k := k2) (by (try simp only [List.length_map] at *); omega)
        rw [hd37] at hE34
        simp only [shortF, hb10, hb7, hc16, cond_true, cond_false, Bool.not_true, Bool.not_false] at hE34
        refine awp_exit ?_
        refine peel_seq_exit ?_
        refine peel_seq_exit ?_
        refine peel_hit ?_
        refine peel_seq ?_
        refine awp_seq ?_
        cases hb38 : (decide ((List.length l : Int) ≤ 100)) with
        | false =>
          have hb38p := of_decide_eq_false hb38
          refine awp_region_keep tab_ok boxes [(1, ⟨[], (sc (.int .i64 (List.length l : Int))), none⟩), (2, ⟨[], (sc (.bool false)), some []⟩)] [2] [] ⟨75, [(2, (sc (.bool false)))], [], []⟩ [⟨(Go.Op.call (Go.Call.mk (Go.Callee.builtin Go.Builtin.len) #[(Go.Operand.tmp 68)] #[22])), 3, [(.t (.c (.d (.sl (List.map encDo l)))))], [], (sc (.int .i64 (List.length l : Int))), []⟩, ⟨(Go.Op.binOp Go.BinOp.leq 3 (Go.Operand.tmp 69) (Go.Operand.const (Go.Value.int Go.IntKind.i64 100)) 3), 4, [(sc (.int .i64 (List.length l : Int))), (sc (.int .i64 100))], [], (sc (.bool false)), []⟩] mixed (by kernel_rfl) ⟨tri_len_map tab_ok rfl, tri_scalar_eq [(.int .i64 (List.length l : Int)), (.int .i64 100)] (.bool (decide ((List.length l : Int) ≤ 100))) rfl rfl rfl (by kernel_rfl) (congrArg Value.bool hb38), trivial⟩ ?_
          refine peel_seq ?_
          refine awp_ret ?_
          exact ends_ret rfl (show some ((sc (.bool false)) : SV) = some ((sc (.bool (shortM l))) : SV) from by first | rfl | (simp only [shortM, hb10, hb38, hb7, hc16, ← hE34, cond_true, cond_false, Bool.not_true, Bool.not_false, List.map_nil])) rfl
        | true =>
          have hb38p := of_decide_eq_true hb38
          refine awp_region_keep tab_ok boxes [(1, ⟨[], (sc (.int .i64 (List.length l : Int))), none⟩), (2, ⟨[], (sc (.bool true)), some []⟩), (5, ⟨[], (sc (.bool false)), some []⟩)] [2] [] ⟨75, [(2, (sc (.bool false)))], [], []⟩ [⟨(Go.Op.call (Go.Call.mk (Go.Callee.builtin Go.Builtin.len) #[(Go.Operand.tmp 68)] #[22])), 3, [(.t (.c (.d (.sl (List.map encDo l)))))], [], (sc (.int .i64 (List.length l : Int))), []⟩, ⟨(Go.Op.binOp Go.BinOp.leq 3 (Go.Operand.tmp 69) (Go.Operand.const (Go.Value.int Go.IntKind.i64 100)) 3), 4, [(sc (.int .i64 (List.length l : Int))), (sc (.int .i64 100))], [], (sc (.bool true)), []⟩, ⟨(Go.Op.binOp Go.BinOp.leq 3 (Go.Operand.tmp 72) (Go.Operand.const (Go.Value.int Go.IntKind.i64 32768)) 3), 4, [(sc (.int .i64 a3)), (sc (.int .i64 32768))], [], (sc (.bool false)), []⟩] mixed (by kernel_rfl) ⟨tri_len_map tab_ok rfl, tri_scalar_eq [(.int .i64 (List.length l : Int)), (.int .i64 100)] (.bool (decide ((List.length l : Int) ≤ 100))) rfl rfl rfl (by kernel_rfl) (congrArg Value.bool hb38), tri_scalar_eq [(.int .i64 a3), (.int .i64 32768)] (.bool (decide (a3 ≤ 32768))) rfl rfl rfl (by kernel_rfl) (congrArg Value.bool hc16), trivial⟩ ?_
          refine peel_seq ?_
          refine awp_ret ?_
          exact ends_ret rfl (show some ((sc (.bool false)) : SV) = some ((sc (.bool (shortM l))) : SV) from by first | rfl | (simp only [shortM, hb10, hb38, hb7, hc16, ← hE34, cond_true, cond_false, Bool.not_true, Bool.not_false, List.map_nil])) rfl
theorem l_made (l : List ADo) (hl : l.length ≤ 100) : Sat Try.prog 12 [(.t (.c (.d (.sl (List.map encDo l)))))] [] (.tup [(.c (.loc 5001 0)), (.c (.d (.sl (List.map encEv ((madeM l).2)))))]) [(5001, (.cells 51 [(.d (.ptr [(encT ((madeM l).1))]))]))] := by
  refine sat_of_body tab_ok Try.func12 rfl (by kernel_rfl) (Nat.le_of_ble_eq_true rfl) rfl fun G => ?_
  refine awp_seq ?_
  refine awp_region_keep tab_ok boxes [] [0, 2, 3] [] ⟨42, [(0, (.t (.c (.d (.sl (List.map encDo l)))))), (2, (sc (.pointer none))), (3, (sc (.slice none 0 0)))], [], []⟩ [] mixed (by kernel_rfl) trivial ?_
  refine peel_seq ?_
  refine awp_seq ?_
  refine awp_region_keep tab_ok boxes [(0, ⟨[], (.t (.c (.loc 11 0))), some [(11, (.cells 51 [(.d (.ptr [(encT (Tr.nil))]))]))]⟩)] [0, 2, 3, 4] [11] ⟨42, [(0, (.t (.c (.d (.sl (List.map encDo l)))))), (2, (sc (.pointer none))), (3, (sc (.slice none 0 0))), (4, (.t (.c (.loc 11 0))))], [(11, (.cells 51 [(.d (.ptr [(encT (Tr.nil))]))]))], []⟩ [⟨(Go.Op.call (Go.Call.mk (Go.Callee.value (Go.Operand.func 24)) #[] #[])), 28, [(sc (.func (.func 24) #[] #[]))], [], (.t (.c (.loc 11 0))), [(11, (.cells 51 [(.d (.ptr [(encT (Tr.nil))]))]))]⟩] mixed (by kernel_rfl) ⟨tri_call (Sat.sw 5001 11 (k_New)), trivial⟩ ?_
  refine peel_seq ?_
  refine awp_seq ?_
  refine awp_region_keep tab_ok boxes [] [0, 2, 3, 4, 5] [11] ⟨42, [(0, (.t (.c (.d (.sl (List.map encDo l)))))), (2, (sc (.pointer none))), (3, (sc (.slice none 0 0))), (4, (.t (.c (.loc 11 0)))), (5, (sc (.slice none 0 0)))], [(11, (.cells 51 [(.d (.ptr [(encT (Tr.nil))]))]))], []⟩ [] mixed (by kernel_rfl) trivial ?_
  refine peel_seq ?_
  refine awp_seq ?_
  refine awp_seq ?_
  refine awp_region_keep tab_ok boxes [(1, ⟨[], (sc (.int .i64 (List.length l : Int))), none⟩)] [2, 3, 4, 5, 12, 13, 14] [11] ⟨42, [(2, (sc (.pointer none))), (3, (sc (.slice none 0 0))), (4, (.t (.c (.loc 11 0)))), (5, (sc (.slice none 0 0))), (12, (.t (.c (.d (.sl (List.map encDo l)))))), (13, (sc (.int .i64 (List.length l : Int)))), (14, (sc (.int .i64 0)))], [(11, (.cells 51 [(.d (.ptr [(encT (Tr.nil))]))]))], []⟩ [⟨(Go.Op.call (Go.Call.mk (Go.Callee.builtin Go.Builtin.len) #[(Go.Operand.tmp 12)] #[22])), 3, [(.t (.c (.d (.sl (List.map encDo l)))))], [], (sc (.int .i64 (List.length l : Int))), []⟩] mixed (by kernel_rfl) ⟨tri_len_map tab_ok rfl, trivial⟩ ?_
  refine peel_seq ?_
  refine awp_block ?_
  refine awp_mv [.own 5 1005 44 6 72] ⟨42, [(5, (.t (.c (.own 1005)))), (2, (sc (.pointer none))), (3, (sc (.slice none 0 0))), (4, (.t (.c (.loc 11 0)))), (12, (.t (.c (.d (.sl (List.map encDo l)))))), (13, (sc (.int .i64 (List.length l : Int)))), (14, (sc (.int .i64 0)))], [(1005, (.arr 44 6 72 [])), (11, (.cells 51 [(.d (.ptr [(encT (Tr.nil))]))]))], []⟩ rfl ?_
  refine q_keep [2, 3, 4, 5, 12, 13, 14] [11, 1005] ?_
  refine awp_len 12 rfl (fun hlen1 => ?_)
  refine awp_loopP (ι := Nat × (Tr) × (List AEv)) (fun x => ⟨42, [(2, (sc (.pointer none))), (3, (sc (.slice none 0 0))), (4, (.t (.c (.loc 11 0)))), (5, (.t (.c (.own 1005)))), (12, (.t (.c (.d (.sl (List.map encDo l)))))), (13, (sc (.int .i64 (List.length l : Int)))), (14, (sc (.int .i64 (x.1 : Int))))], [(11, (.cells 51 [(.d (.ptr [(encT x.2.1)]))])), (1005, (.arr 44 6 72 (List.map encEv x.2.2)))], []⟩) (fun x => x.1 ≤ List.length l ∧ (Tr.size x.2.1 ≤ 6 * x.1 ∧ List.length x.2.2 ≤ 6 * x.1) ∧ madeF (List.drop x.1 l) x.2.1 x.2.2 = madeF l Tr.nil []) (fun x => List.length l - x.1) (0, Tr.nil, []) rfl ⟨Nat.zero_le _, ⟨by simp [Tr.size], by simp⟩, rfl⟩ ?_
  rintro ⟨k2, a3, b4⟩ ⟨hk5, hx6, hJ7⟩
  try simp only at hk5 hx6 hJ7
  refine awp_seq ?_
  refine awp_region_keep tab_ok boxes [] [2, 3, 4, 5, 12, 13, 14, 15] [11, 1005] ⟨42, [(2, (sc (.pointer none))), (3, (sc (.slice none 0 0))), (4, (.t (.c (.loc 11 0)))), (5, (.t (.c (.own 1005)))), (12, (.t (.c (.d (.sl (List.map encDo l)))))), (13, (sc (.int .i64 (List.length l : Int)))), (14, (sc (.int .i64 (k2 : Int)))), (15, (sc (.bool (decide ((k2 : Int) < (List.length l : Int))))))], [(11, (.cells 51 [(.d (.ptr [(encT a3)]))])), (1005, (.arr 44 6 72 (List.map encEv b4)))], []⟩ [] mixed (by kernel_rfl) trivial ?_
  refine peel_seq ?_
  refine awp_seq ?_
  refine awp_cond (b := (decide ((k2 : Int) < (List.length l : Int)))) rfl (fun hc8 => ?_) (fun hc8 => ?_)
  · skip
    have hc8p := of_decide_eq_true hc8
    refine awp_skip ?_
    refine peel_seq ?_
    refine awp_seq ?_
    refine awp_block ?_
    refine awp_seq ?_
    obtain ⟨⟨op12, pos13, conds14, ops15, fr16, to17, p118, p219, p320, p421, p522, p623⟩, ha10, hd11⟩ := at_drop (l := l) (k := k2) (by (try simp only [List.length_map] at *); omega)
    refine awp_region_keep tab_ok boxes [(0, ⟨[], (.t (.c (.d (.ptr [(.v (.int .i64 op12)), (.v (.int .i64 pos13)), (.sl (List.map encOp conds14)), (.sl (List.map encOp ops15)), (.v (.string fr16)), (.v (.string to17)), (.v (.int .i64 p118)), (.v (.string p219)), (.v (.bool p320)), (.v (.string p421)), (.v (.bool p522)), (.v (.string p623))])))), some []⟩)] [2, 3, 4, 5, 7, 12, 13, 14] [7, 11, 1005] ⟨42, [(2, (sc (.pointer none))), (3, (sc (.slice none 0 0))), (4, (.t (.c (.loc 11 0)))), (5, (.t (.c (.own 1005)))), (7, (.t (.c (.loc 7 0)))), (12, (.t (.c (.d (.sl (List.map encDo l)))))), (13, (sc (.int .i64 (List.length l : Int)))), (14, (sc (.int .i64 (k2 : Int))))], [(7, (.cells 46 [(.d (.v (.int .i64 op12))), (.d (.v (.int .i64 pos13))), (.d (.sl (List.map encOp conds14))), (.d (.sl (List.map encOp ops15))), (.d (.v (.string fr16))), (.d (.v (.string to17))), (.d (.v (.int .i64 p118))), (.d (.v (.string p219))), (.d (.v (.bool p320))), (.d (.v (.string p421))), (.d (.v (.bool p522))), (.d (.v (.string p623)))])), (11, (.cells 51 [(.d (.ptr [(encT a3)]))])), (1005, (.arr 44 6 72 (List.map encEv b4)))], []⟩ [⟨(Go.Op.indexAddr 22 (Go.Operand.tmp 12) (Go.Operand.tmp 14)), 0, [(.t (.c (.d (.sl (List.map encDo l))))), (sc (.int .i64 (k2 : Int)))], [], (.t (.c (.d (.ptr [(.v (.int .i64 op12)), (.v (.int .i64 pos13)), (.sl (List.map encOp conds14)), (.sl (List.map encOp ops15)), (.v (.string fr16)), (.v (.string to17)), (.v (.int .i64 p118)), (.v (.string p219)), (.v (.bool p320)), (.v (.string p421)), (.v (.bool p522)), (.v (.string p623))])))), []⟩] mixed (by kernel_rfl) ⟨tri_index_sl (e := 46) (sz := 12) (bytes := 168) (i := k2) tab_ok rfl (at_map encDo ha10) (all_map fun _ => rfl), trivial⟩ ?_
    refine peel_seq ?_
    refine awp_seq ?_
    refine awp_region_keep tab_ok boxes [] [2, 3, 4, 5, 7, 8, 12, 13, 14] [7, 11, 1005] ⟨42, [(2, (sc (.pointer none))), (3, (sc (.slice none 0 0))), (4, (.t (.c (.loc 11 0)))), (5, (.t (.c (.own 1005)))), (7, (.t (.c (.loc 7 0)))), (8, (sc (.int .i64 (IntKind.wrap .i64 (Int.tmod (IntKind.wrap .u64 op12) 8))))), (12, (.t (.c (.d (.sl (List.map encDo l)))))), (13, (sc (.int .i64 (List.length l : Int)))), (14, (sc (.int .i64 (k2 : Int))))], [(7, (.cells 46 [(.d (.v (.int .i64 op12))), (.d (.v (.int .i64 pos13))), (.d (.sl (List.map encOp conds14))), (.d (.sl (List.map encOp ops15))), (.d (.v (.string fr16))), (.d (.v (.string to17))), (.d (.v (.int .i64 p118))), (.d (.v (.string p219))), (.d (.v (.bool p320))), (.d (.v (.string p421))), (.d (.v (.bool p522))), (.d (.v (.string p623)))])), (11, (.cells 51 [(.d (.ptr [(encT a3)]))])), (1005, (.arr 44 6 72 (List.map encEv b4)))], []⟩ [] mixed (by kernel_rfl) trivial ?_
    refine peel_seq ?_
    refine awp_seq ?_
    refine awp_region_keep tab_ok boxes [] [2, 3, 4, 5, 7, 12, 13, 14, 24] [7, 11, 1005] ⟨42, [(2, (sc (.pointer none))), (3, (sc (.slice none 0 0))), (4, (.t (.c (.loc 11 0)))), (5, (.t (.c (.own 1005)))), (7, (.t (.c (.loc 7 0)))), (12, (.t (.c (.d (.sl (List.map encDo l)))))), (13, (sc (.int .i64 (List.length l : Int)))), (14, (sc (.int .i64 (k2 : Int)))), (24, (sc (.bool (decide ((IntKind.wrap .i64 (Int.tmod (IntKind.wrap .u64 op12) 8)) < 4)))))], [(7, (.cells 46 [(.d (.v (.int .i64 op12))), (.d (.v (.int .i64 pos13))), (.d (.sl (List.map encOp conds14))), (.d (.sl (List.map encOp ops15))), (.d (.v (.string fr16))), (.d (.v (.string to17))), (.d (.v (.int .i64 p118))), (.d (.v (.string p219))), (.d (.v (.bool p320))), (.d (.v (.string p421))), (.d (.v (.bool p522))), (.d (.v (.string p623)))])), (11, (.cells 51 [(.d (.ptr [(encT a3)]))])), (1005, (.arr 44 6 72 (List.map encEv b4)))], []⟩ [] mixed (by kernel_rfl) trivial ?_
    refine peel_seq ?_
    refine awp_cond (b := (decide ((IntKind.wrap .i64 (Int.tmod (IntKind.wrap .u64 op12) 8)) < 4))) rfl (fun hc24 => ?_) (fun hc24 => ?_)
    · skip
      have hc24p := of_decide_eq_true hc24
      refine awp_seq ?_
      refine awp_region_keep tab_ok boxes [(7, ⟨[11], (.tup [(.c (.d (.sl (List.map encEv ((planM a3 pos13 conds14 ops15).1))))), (.c (.d (.v (.int .i64 (planM a3 pos13 conds14 ops15).2))))]), some [(11, (.cells 51 [(.d (.ptr [(encT (doT a3 pos13 conds14 ops15))]))]))]⟩)] [2, 3, 4, 5, 9, 12, 13, 14] [11, 1005] ⟨42, [(2, (sc (.pointer none))), (3, (sc (.slice none 0 0))), (4, (.t (.c (.loc 11 0)))), (5, (.t (.c (.own 1005)))), (9, (.t (.c (.d (.sl (List.map encEv ((planM a3 pos13 conds14 ops15).1))))))), (12, (.t (.c (.d (.sl (List.map encDo l)))))), (13, (sc (.int .i64 (List.length l : Int)))), (14, (sc (.int .i64 (k2 : Int))))], [(11, (.cells 51 [(.d (.ptr [(encT (doT a3 pos13 conds14 ops15))]))])), (1005, (.arr 44 6 72 (List.map encEv b4)))], []⟩ [⟨(Go.Op.call (Go.Call.mk (Go.Callee.value (Go.Operand.func 15)) #[(Go.Operand.tmp 26), (Go.Operand.tmp 28), (Go.Operand.tmp 30), (Go.Operand.tmp 32)] #[28, 3, 23, 23])), 38, [(sc (.func (.func 15) #[] #[])), (.t (.c (.loc 11 0))), (sc (.int .i64 pos13)), (.t (.c (.d (.sl (List.map encOp conds14))))), (.t (.c (.d (.sl (List.map encOp ops15)))))], [(11, (.cells 51 [(.d (.ptr [(encT a3)]))]))], (.tup [(.c (.d (.sl (List.map encEv ((planM a3 pos13 conds14 ops15).1))))), (.c (.d (.v (.int .i64 (planM a3 pos13 conds14 ops15).2))))]), [(11, (.cells 51 [(.d (.ptr [(encT (doT a3 pos13 conds14 ops15))]))]))]⟩] mixed (by kernel_rfl) ⟨tri_call (Sat.sw 5000 11 (k_Do a3 pos13 conds14 ops15 (by omega))), trivial⟩ ?_
      refine peel_seq ?_
      refine awp_then [.sw 38 1005] ?_
      refine awp_region_keep tab_ok boxes [(2, ⟨[1005], (.t (.c (.own 38))), some [(38, (.arr 44 6 72 (List.map encEv (b4 ++ ((planM a3 pos13 conds14 ops15).1)))))]⟩)] [2, 3, 4, 5, 12, 13, 14] [11, 38] ⟨42, [(2, (sc (.pointer none))), (3, (sc (.slice none 0 0))), (4, (.t (.c (.loc 11 0)))), (5, (.t (.c (.own 38)))), (12, (.t (.c (.d (.sl (List.map encDo l)))))), (13, (sc (.int .i64 (List.length l : Int)))), (14, (sc (.int .i64 (k2 : Int))))], [(11, (.cells 51 [(.d (.ptr [(encT (doT a3 pos13 conds14 ops15))]))])), (38, (.arr 44 6 72 (List.map encEv (b4 ++ ((planM a3 pos13 conds14 ops15).1)))))], []⟩ [⟨(Go.Op.call (Go.Call.mk (Go.Callee.builtin Go.Builtin.append) #[(Go.Operand.tmp 36), (Go.Operand.tmp 37)] #[29, 29])), 29, [(.t (.c (.own 1005))), (.t (.c (.d (.sl (List.map encEv ((planM a3 pos13 conds14 ops15).1))))))], [(1005, (.arr 44 6 72 (List.map encEv b4)))], (.t (.c (.own 38))), [(38, (.arr 44 6 72 (List.map encEv (b4 ++ ((planM a3 pos13 conds14 ops15).1)))))]⟩] mixed (by kernel_rfl) ⟨tri_to (tri_append_sl (ex := 44) (bytes := 72) tab_ok rfl rfl rfl (all_map fun _ => rfl) (by simp only [List.length_map]; exact Nat.le_trans (Nat.mul_le_mul_right _ (Nat.add_le_add_left (planM_len ..) _)) (by omega))) (by simp [encEv]), trivial⟩ ?_
      refine then_mv ⟨42, [(2, (sc (.pointer none))), (3, (sc (.slice none 0 0))), (4, (.t (.c (.loc 11 0)))), (5, (.t (.c (.own 1005)))), (12, (.t (.c (.d (.sl (List.map encDo l)))))), (13, (sc (.int .i64 (List.length l : Int)))), (14, (sc (.int .i64 (k2 : Int))))], [(11, (.cells 51 [(.d (.ptr [(encT (doT a3 pos13 conds14 ops15))]))])), (1005, (.arr 44 6 72 (List.map encEv (b4 ++ ((planM a3 pos13 conds14 ops15).1)))))], []⟩ rfl ?_
      refine peel_block ?_
      refine peel_seq ?_
      refine awp_region_keep tab_ok boxes [(0, ⟨[], (sc (.int .i64 ((k2 : Int) + 1))), some []⟩)] [2, 3, 4, 5, 12, 13, 14] [11, 1005] ⟨42, [(2, (sc (.pointer none))), (3, (sc (.slice none 0 0))), (4, (.t (.c (.loc 11 0)))), (5, (.t (.c (.own 1005)))), (12, (.t (.c (.d (.sl (List.map encDo l)))))), (13, (sc (.int .i64 (List.length l : Int)))), (14, (sc (.int .i64 ((k2 : Int) + 1))))], [(11, (.cells 51 [(.d (.ptr [(encT (doT a3 pos13 conds14 ops15))]))])), (1005, (.arr 44 6 72 (List.map encEv (b4 ++ ((planM a3 pos13 conds14 ops15).1)))))], []⟩ [⟨(Go.Op.binOp Go.BinOp.add 3 (Go.Operand.tmp 14) (Go.Operand.const (Go.Value.int Go.IntKind.i64 1)) 3), 3, [(sc (.int .i64 (k2 : Int))), (sc (.int .i64 1))], [], (sc (.int .i64 ((k2 : Int) + 1))), []⟩] mixed (by kernel_rfl) ⟨tri_int ((k2 : Int) + 1) (wrap_i64 (by omega)), trivial⟩ ?_
      exact peel_round (k2 + 1, (doT a3 pos13 conds14 ops15), (b4 ++ ((planM a3 pos13 conds14 ops15).1))) rfl ⟨by (try simp only [List.length_map] at *); omega, by simp only; first | exact ⟨by omega, by omega⟩ | exact ⟨Nat.le_trans (doT_size ..) (by omega), by simp only [List.length_append]; exact Nat.le_trans (Nat.add_le_add_left (planM_len ..) _) (by omega)⟩, by have hj := hJ7; rw [hd11] at hj; simp only [madeF, hc24, hc8, cond_true, cond_false, Bool.not_true, Bool.not_false] at hj ⊢; exact hj⟩ (by (try simp only [List.length_map] at *); omega)
    · skip
      have hc24p := of_decide_eq_false hc24
      refine q_keep [2, 3, 4, 5, 12, 13, 14] [11, 1005] ?_
      refine awp_skip ?_
      refine peel_block ?_
      refine peel_seq ?_
      refine awp_region_keep tab_ok boxes [(0, ⟨[], (sc (.int .i64 ((k2 : Int) + 1))), some []⟩)] [2, 3, 4, 5, 12, 13, 14] [11, 1005] ⟨42, [(2, (sc (.pointer none))), (3, (sc (.slice none 0 0))), (4, (.t (.c (.loc 11 0)))), (5, (.t (.c (.own 1005)))), (12, (.t (.c (.d (.sl (List.map encDo l)))))), (13, (sc (.int .i64 (List.length l : Int)))), (14, (sc (.int .i64 ((k2 : Int) + 1))))], [(11, (.cells 51 [(.d (.ptr [(encT a3)]))])), (1005, (.arr 44 6 72 (List.map encEv b4)))], []⟩ [⟨(Go.Op.binOp Go.BinOp.add 3 (Go.Operand.tmp 14) (Go.Operand.const (Go.Value.int Go.IntKind.i64 1)) 3), 3, [(sc (.int .i64 (k2 : Int))), (sc (.int .i64 1))], [], (sc (.int .i64 ((k2 : Int) + 1))), []⟩] mixed (by kernel_rfl) ⟨tri_int ((k2 : Int) + 1) (wrap_i64 (by omega)), trivial⟩ ?_
      exact peel_round (k2 + 1, a3, b4) rfl ⟨by (try simp only [List.length_map] at *); omega, by simp only; first | exact ⟨by omega, by omega⟩ | exact ⟨Nat.le_trans (doT_size ..) (by omega), by simp only [List.length_append]; exact Nat.le_trans (Nat.add_le_add_left (planM_len ..) _) (by omega)⟩, by have hj := hJ7; rw [hd11] at hj; simp only [madeF, hc24, hc8, cond_true, cond_false, Bool.not_true, Bool.not_false] at hj ⊢; exact hj⟩ (by (try simp only [List.length_map] at *); omega)
  · skip
    have hc8p := of_decide_eq_false hc8
    have hE25 := hJ7
    rw [at_end (l := l) (by (try simp only [List.length_map] at *); omega)] at hE25
    simp only [madeF, hc8, cond_true, cond_false, Bool.not_true, Bool.not_false] at hE25
    refine awp_exit ?_
    refine peel_seq_exit ?_
    refine peel_seq_exit ?_
    refine peel_hit ?_
    refine peel_seq ?_
    refine awp_seq ?_
    refine awp_region_keep tab_ok boxes [] [2, 3] [11, 1005] ⟨42, [(2, (.t (.c (.loc 11 0)))), (3, (.t (.c (.own 1005))))], [(11, (.cells 51 [(.d (.ptr [(encT a3)]))])), (1005, (.arr 44 6 72 (List.map encEv b4)))], []⟩ [] mixed (by kernel_rfl) trivial ?_
    refine peel_seq ?_
    refine awp_mv [.fz 1005, .sw 11 5001] ⟨42, [(2, (.t (.c (.loc 5001 0)))), (3, (.t (.c (.d (.sl (List.map encEv b4))))))], [(5001, (.cells 51 [(.d (.ptr [(encT a3)]))]))], []⟩ rfl ?_
    refine awp_ret ?_
    exact ends_ret rfl (show some ((.tup [(.c (.loc 5001 0)), (.c (.d (.sl (List.map encEv b4))))]) : SV) = some ((.tup [(.c (.loc 5001 0)), (.c (.d (.sl (List.map encEv ((madeM l).2)))))]) : SV) from by first | rfl | (simp only [madeM, hc8, ← hE25, cond_true, cond_false, Bool.not_true, Bool.not_false, List.map_nil])) (show some ([(5001, (.cells 51 [(.d (.ptr [(encT a3)]))]))] : Objs) = some ([(5001, (.cells 51 [(.d (.ptr [(encT ((madeM l).1))]))]))] : Objs) from by first | rfl | (simp only [madeM, hc8, ← hE25, cond_true, cond_false, Bool.not_true, Bool.not_false, List.map_nil]))
end Go.Proofs.Ytjbiaoajmdbigaa
