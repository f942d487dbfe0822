/- Walks of package tree: depth, size, a node over two sides, the turns. -/
import Derived.Test.YtjbiaoajmdbigaaTab
import Derived.Test.YtjbiaoajmdbigaaTr
set_option maxRecDepth 100000
set_option linter.unusedVariables false
set_option linter.unusedSimpArgs false
namespace Go.Proofs.Ytjbiaoajmdbigaa
open Go Go.E
theorem s_depth (t : Tr) : Sat Try.prog 90 [(.t (.c (.d (encT t))))] [] (sc (.int .i64 (t.depth : Int))) [] := by
  refine sat_of_body tab_ok Try.func90 rfl (by kernel_rfl) (Nat.le_of_ble_eq_true rfl) rfl fun G => ?_
  refine awp_seq ?_
  refine awp_region_keep tab_ok boxes [] [0, 2] [] ⟨9, [(0, (.t (.c (.d (encT t))))), (2, (sc (.int .i64 0)))], [], []⟩ [] mixed (by kernel_rfl) trivial ?_
  refine peel_seq ?_
  refine awp_seq ?_
  refine awp_seq ?_
  cases t with
  | nil =>
    refine awp_region_keep tab_ok boxes [] [0, 2, 4] [] ⟨9, [(0, (.t (.c (.d (encT (Tr.nil)))))), (2, (sc (.int .i64 0))), (4, (sc (.bool true)))], [], []⟩ [] mixed (by kernel_rfl) trivial ?_
    refine peel_seq ?_
    refine awp_true rfl ?_
    refine awp_seq ?_
    refine awp_region_keep tab_ok boxes [] [0, 2] [] ⟨9, [(0, (.t (.c (.d (encT (Tr.nil)))))), (2, (sc (.int .i64 0)))], [], []⟩ [] mixed (by kernel_rfl) trivial ?_
    refine peel_seq ?_
    refine awp_ret ?_
    refine peel_seq_ret ?_
    exact ends_ret rfl rfl rfl
  | node k2 v3 l4 r5 =>
    refine awp_region_keep tab_ok boxes [] [0, 2, 4] [] ⟨9, [(0, (.t (.c (.d (encT (Tr.node k2 v3 l4 r5)))))), (2, (sc (.int .i64 0))), (4, (sc (.bool false)))], [], []⟩ [] mixed (by kernel_rfl) trivial ?_
    refine peel_seq ?_
    refine awp_false rfl ?_
    refine awp_skip ?_
    refine peel_seq ?_
    refine awp_seq ?_
    refine awp_region_keep tab_ok boxes [] [2] [] ⟨9, [(2, (sc (.int .i64 ((Tr.node k2 v3 l4 r5).depth : Int))))], [], []⟩ [] mixed (by kernel_rfl) trivial ?_
    refine peel_seq ?_
    refine awp_ret ?_
    exact ends_ret rfl rfl rfl
theorem s_size (t : Tr) : Sat Try.prog 71 [(.t (.c (.d (encT t))))] [] (sc (.int .i64 (t.size : Int))) [] := by
  refine sat_of_body tab_ok Try.func71 rfl (by kernel_rfl) (Nat.le_of_ble_eq_true rfl) rfl fun G => ?_
  refine awp_seq ?_
  refine awp_region_keep tab_ok boxes [] [0, 2] [] ⟨9, [(0, (.t (.c (.d (encT t))))), (2, (sc (.int .i64 0)))], [], []⟩ [] mixed (by kernel_rfl) trivial ?_
  refine peel_seq ?_
  refine awp_seq ?_
  refine awp_seq ?_
  cases t with
  | nil =>
    refine awp_region_keep tab_ok boxes [] [0, 2, 4] [] ⟨9, [(0, (.t (.c (.d (encT (Tr.nil)))))), (2, (sc (.int .i64 0))), (4, (sc (.bool true)))], [], []⟩ [] mixed (by kernel_rfl) trivial ?_
    refine peel_seq ?_
    refine awp_true rfl ?_
    refine awp_seq ?_
    refine awp_region_keep tab_ok boxes [] [0, 2] [] ⟨9, [(0, (.t (.c (.d (encT (Tr.nil)))))), (2, (sc (.int .i64 0)))], [], []⟩ [] mixed (by kernel_rfl) trivial ?_
    refine peel_seq ?_
    refine awp_ret ?_
    refine peel_seq_ret ?_
    exact ends_ret rfl rfl rfl
  | node k2 v3 l4 r5 =>
    refine awp_region_keep tab_ok boxes [] [0, 2, 4] [] ⟨9, [(0, (.t (.c (.d (encT (Tr.node k2 v3 l4 r5)))))), (2, (sc (.int .i64 0))), (4, (sc (.bool false)))], [], []⟩ [] mixed (by kernel_rfl) trivial ?_
    refine peel_seq ?_
    refine awp_false rfl ?_
    refine awp_skip ?_
    refine peel_seq ?_
    refine awp_seq ?_
    refine awp_region_keep tab_ok boxes [] [2] [] ⟨9, [(2, (sc (.int .i64 ((Tr.node k2 v3 l4 r5).size : Int))))], [], []⟩ [] mixed (by kernel_rfl) trivial ?_
    refine peel_seq ?_
    refine awp_ret ?_
    exact ends_ret rfl rfl rfl
theorem s_over (l : Tr) (k v : ByteArray) (m : Tr) (hs : l.size + m.size ≤ big) : Sat Try.prog 85 [(.t (.c (.d (encT l)))), (.t (.agg [(.d (.v (.string k))), (.d (.v (.string v)))])), (.t (.c (.d (encT m))))] [] (.t (.c (.d (encT (Tr.node k v l m))))) [] := by
  refine sat_of_body tab_ok Try.func85 rfl (by kernel_rfl) (Nat.le_of_ble_eq_true rfl) rfl fun G => ?_
  refine awp_seq ?_
  refine awp_region_keep tab_ok boxes [] [0, 2, 4, 6] [4] ⟨24, [(0, (.t (.c (.d (encT l))))), (2, (.t (.c (.d (encT m))))), (4, (.t (.c (.loc 4 0)))), (6, (sc (.pointer none)))], [(4, (.cells 81 [(.d (.v (.string k))), (.d (.v (.string v)))]))], []⟩ [] mixed (by kernel_rfl) trivial ?_
  refine peel_seq ?_
  refine awp_seq ?_
  refine awp_region_keep tab_ok boxes [(4, ⟨[], (sc (.int .i64 (l.depth : Int))), some []⟩), (6, ⟨[], (sc (.int .i64 (m.depth : Int))), some []⟩), (7, ⟨[], (sc (.int .i64 (max (l.depth : Int) (m.depth : Int)))), some []⟩), (8, ⟨[], (sc (.int .i64 ((Tr.node k v l m).depth : Int))), some []⟩), (10, ⟨[], (sc (.int .i64 (l.size : Int))), some []⟩), (11, ⟨[], (sc (.int .i64 (1 + (l.size : Int)))), some []⟩), (13, ⟨[], (sc (.int .i64 (m.size : Int))), some []⟩), (14, ⟨[], (sc (.int .i64 ((Tr.node k v l m).size : Int))), some []⟩)] [6] [] ⟨24, [(6, (.t (.c (.d (.ptr [(.v (.string k)), (.v (.string v)), (encT l), (encT m), (.v (.int .i64 ((Tr.node k v l m).depth : Int))), (.v (.int .i64 ((Tr.node k v l m).size : Int)))])))))], [], []⟩ [⟨(Go.Op.call (Go.Call.mk (Go.Callee.value (Go.Operand.func 90)) #[(Go.Operand.tmp 10)] #[98])), 3, [(sc (.func (.func 90) #[] #[])), (.t (.c (.d (encT l))))], [], (sc (.int .i64 (l.depth : Int))), []⟩, ⟨(Go.Op.call (Go.Call.mk (Go.Callee.value (Go.Operand.func 90)) #[(Go.Operand.tmp 12)] #[98])), 3, [(sc (.func (.func 90) #[] #[])), (.t (.c (.d (encT m))))], [], (sc (.int .i64 (m.depth : Int))), []⟩, ⟨(Go.Op.call (Go.Call.mk (Go.Callee.builtin Go.Builtin.max) #[(Go.Operand.tmp 11), (Go.Operand.tmp 13)] #[3, 3])), 3, [(sc (.int .i64 (l.depth : Int))), (sc (.int .i64 (m.depth : Int)))], [], (sc (.int .i64 (max (l.depth : Int) (m.depth : Int)))), []⟩, ⟨(Go.Op.binOp Go.BinOp.add 3 (Go.Operand.const (Go.Value.int Go.IntKind.i64 1)) (Go.Operand.tmp 14) 3), 3, [(sc (.int .i64 1)), (sc (.int .i64 (max (l.depth : Int) (m.depth : Int))))], [], (sc (.int .i64 ((Tr.node k v l m).depth : Int))), []⟩, ⟨(Go.Op.call (Go.Call.mk (Go.Callee.value (Go.Operand.func 71)) #[(Go.Operand.tmp 16)] #[98])), 3, [(sc (.func (.func 71) #[] #[])), (.t (.c (.d (encT l))))], [], (sc (.int .i64 (l.size : Int))), []⟩, ⟨(Go.Op.binOp Go.BinOp.add 3 (Go.Operand.const (Go.Value.int Go.IntKind.i64 1)) (Go.Operand.tmp 17) 3), 3, [(sc (.int .i64 1)), (sc (.int .i64 (l.size : Int)))], [], (sc (.int .i64 (1 + (l.size : Int)))), []⟩, ⟨(Go.Op.call (Go.Call.mk (Go.Callee.value (Go.Operand.func 71)) #[(Go.Operand.tmp 19)] #[98])), 3, [(sc (.func (.func 71) #[] #[])), (.t (.c (.d (encT m))))], [], (sc (.int .i64 (m.size : Int))), []⟩, ⟨(Go.Op.binOp Go.BinOp.add 3 (Go.Operand.tmp 18) (Go.Operand.tmp 20) 3), 3, [(sc (.int .i64 (1 + (l.size : Int)))), (sc (.int .i64 (m.size : Int)))], [], (sc (.int .i64 ((Tr.node k v l m).size : Int))), []⟩] mixed (by kernel_rfl) ⟨tri_call (s_depth l), tri_call (s_depth m), tri_max, tri_int ((Tr.node k v l m).depth : Int) (by have := l.depth_le; have := m.depth_le; rw [wrap_i64 (by simp only [big] at hs; omega)]; simp only [Tr.depth]; omega), tri_call (s_size l), tri_int (1 + (l.size : Int)) (wrap_i64 (by simp only [big] at hs; omega)), tri_call (s_size m), tri_int ((Tr.node k v l m).size : Int) (by rw [wrap_i64 (by simp only [big] at hs; omega)]; simp only [Tr.size]; omega), trivial⟩ ?_
  refine peel_seq ?_
  refine awp_ret ?_
  exact ends_ret rfl rfl rfl
theorem s_right (k v k2 v2 : ByteArray) (l2 r2 r : Tr) (hs : l2.size + r2.size + r.size + 1 ≤ big) : Sat Try.prog 95 [(.t (.c (.d (encT (Tr.node k v (Tr.node k2 v2 l2 r2) r)))))] [] (.t (.c (.d (encT (Tr.node k2 v2 l2 (Tr.node k v r2 r)))))) [] := by
  refine sat_of_body tab_ok Try.func95 rfl (by kernel_rfl) (Nat.le_of_ble_eq_true rfl) rfl fun G => ?_
  refine awp_seq ?_
  refine awp_region_keep tab_ok boxes [] [0, 2] [] ⟨30, [(0, (.t (.c (.d (encT (Tr.node k v (Tr.node k2 v2 l2 r2) r)))))), (2, (sc (.pointer none)))], [], []⟩ [] mixed (by kernel_rfl) trivial ?_
  refine peel_seq ?_
  refine awp_seq ?_
  refine awp_region_keep tab_ok boxes [] [0, 2, 3] [] ⟨30, [(0, (.t (.c (.d (encT (Tr.node k v (Tr.node k2 v2 l2 r2) r)))))), (2, (sc (.pointer none))), (3, (.t (.c (.d (encT (Tr.node k2 v2 l2 r2))))))], [], []⟩ [] mixed (by kernel_rfl) trivial ?_
  refine peel_seq ?_
  refine awp_seq ?_
  refine awp_region_keep tab_ok boxes [(20, ⟨[], (.t (.c (.d (encT (Tr.node k v r2 r))))), some []⟩), (21, ⟨[], (.t (.c (.d (encT (Tr.node k2 v2 l2 (Tr.node k v r2 r)))))), some []⟩)] [2] [] ⟨30, [(2, (.t (.c (.d (encT (Tr.node k2 v2 l2 (Tr.node k v r2 r)))))))], [], []⟩ [⟨(Go.Op.call (Go.Call.mk (Go.Callee.value (Go.Operand.func 85)) #[(Go.Operand.tmp 19), (Go.Operand.tmp 23), (Go.Operand.tmp 27)] #[98, 81, 98])), 98, [(sc (.func (.func 85) #[] #[])), (.t (.c (.d (encT r2)))), (.t (.agg [(.d (.v (.string k))), (.d (.v (.string v)))])), (.t (.c (.d (encT r))))], [], (.t (.c (.d (encT (Tr.node k v r2 r))))), []⟩, ⟨(Go.Op.call (Go.Call.mk (Go.Callee.value (Go.Operand.func 85)) #[(Go.Operand.tmp 11), (Go.Operand.tmp 15), (Go.Operand.tmp 28)] #[98, 81, 98])), 98, [(sc (.func (.func 85) #[] #[])), (.t (.c (.d (encT l2)))), (.t (.agg [(.d (.v (.string k2))), (.d (.v (.string v2)))])), (.t (.c (.d (encT (Tr.node k v r2 r)))))], [], (.t (.c (.d (encT (Tr.node k2 v2 l2 (Tr.node k v r2 r)))))), []⟩] mixed (by kernel_rfl) ⟨tri_call (s_over r2 k v r (by (try simp only [Tr.size, Tr.size_downLess, Tr.size_downMore, Tr.size_join, big] at *); omega)), tri_call (s_over l2 k2 v2 (Tr.node k v r2 r) (by (try simp only [Tr.size, Tr.size_downLess, Tr.size_downMore, Tr.size_join, big] at *); omega)), trivial⟩ ?_
  refine peel_seq ?_
  refine awp_ret ?_
  exact ends_ret rfl rfl rfl
theorem s_left (k v : ByteArray) (l : Tr) (k2 v2 : ByteArray) (l2 r2 : Tr) (hs : l.size + l2.size + r2.size + 1 ≤ big) : Sat Try.prog 94 [(.t (.c (.d (encT (Tr.node k v l (Tr.node k2 v2 l2 r2))))))] [] (.t (.c (.d (encT (Tr.node k2 v2 (Tr.node k v l l2) r2))))) [] := by
  refine sat_of_body tab_ok Try.func94 rfl (by kernel_rfl) (Nat.le_of_ble_eq_true rfl) rfl fun G => ?_
  refine awp_seq ?_
  refine awp_region_keep tab_ok boxes [] [0, 2] [] ⟨30, [(0, (.t (.c (.d (encT (Tr.node k v l (Tr.node k2 v2 l2 r2))))))), (2, (sc (.pointer none)))], [], []⟩ [] mixed (by kernel_rfl) trivial ?_
  refine peel_seq ?_
  refine awp_seq ?_
  refine awp_region_keep tab_ok boxes [] [0, 2, 3] [] ⟨30, [(0, (.t (.c (.d (encT (Tr.node k v l (Tr.node k2 v2 l2 r2))))))), (2, (sc (.pointer none))), (3, (.t (.c (.d (encT (Tr.node k2 v2 l2 r2))))))], [], []⟩ [] mixed (by kernel_rfl) trivial ?_
  refine peel_seq ?_
  refine awp_seq ?_
  refine awp_region_keep tab_ok boxes [(12, ⟨[], (.t (.c (.d (encT (Tr.node k v l l2))))), some []⟩), (21, ⟨[], (.t (.c (.d (encT (Tr.node k2 v2 (Tr.node k v l l2) r2))))), some []⟩)] [2] [] ⟨30, [(2, (.t (.c (.d (encT (Tr.node k2 v2 (Tr.node k v l l2) r2))))))], [], []⟩ [⟨(Go.Op.call (Go.Call.mk (Go.Callee.value (Go.Operand.func 85)) #[(Go.Operand.tmp 11), (Go.Operand.tmp 15), (Go.Operand.tmp 19)] #[98, 81, 98])), 98, [(sc (.func (.func 85) #[] #[])), (.t (.c (.d (encT l)))), (.t (.agg [(.d (.v (.string k))), (.d (.v (.string v)))])), (.t (.c (.d (encT l2))))], [], (.t (.c (.d (encT (Tr.node k v l l2))))), []⟩, ⟨(Go.Op.call (Go.Call.mk (Go.Callee.value (Go.Operand.func 85)) #[(Go.Operand.tmp 20), (Go.Operand.tmp 24), (Go.Operand.tmp 28)] #[98, 81, 98])), 98, [(sc (.func (.func 85) #[] #[])), (.t (.c (.d (encT (Tr.node k v l l2))))), (.t (.agg [(.d (.v (.string k2))), (.d (.v (.string v2)))])), (.t (.c (.d (encT r2))))], [], (.t (.c (.d (encT (Tr.node k2 v2 (Tr.node k v l l2) r2))))), []⟩] mixed (by kernel_rfl) ⟨tri_call (s_over l k v l2 (by (try simp only [Tr.size, Tr.size_downLess, Tr.size_downMore, Tr.size_join, big] at *); omega)), tri_call (s_over (Tr.node k v l l2) k2 v2 r2 (by (try simp only [Tr.size, Tr.size_downLess, Tr.size_downMore, Tr.size_join, big] at *); omega)), trivial⟩ ?_
  refine peel_seq ?_
  refine awp_ret ?_
  exact ends_ret rfl rfl rfl
end Go.Proofs.Ytjbiaoajmdbigaa
