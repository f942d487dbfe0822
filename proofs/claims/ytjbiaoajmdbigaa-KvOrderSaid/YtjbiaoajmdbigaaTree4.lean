/- Walks of package tree: glue, find, put, drop, and what is called of a Tree. -/
import Derived.Test.YtjbiaoajmdbigaaTree3
set_option maxRecDepth 100000
set_option linter.unusedVariables false
set_option linter.unusedSimpArgs false
namespace Go.Proofs.Ytjbiaoajmdbigaa
open Go Go.E
theorem s_glue (l m : Tr) (hs : l.size + m.size ≤ big) : Sat Try.prog 87 [(.t (.c (.d (encT l)))), (.t (.c (.d (encT m))))] [] (.t (.c (.d (encT (Tr.glue l m))))) [] := by
  refine sat_of_body tab_ok Try.func87 rfl (by kernel_rfl) (Nat.le_of_ble_eq_true rfl) rfl fun G => ?_
  refine awp_seq ?_
  refine awp_region_keep tab_ok boxes [] [0, 1, 4] [] ⟨19, [(0, (.t (.c (.d (encT l))))), (1, (.t (.c (.d (encT m))))), (4, (sc (.pointer none)))], [], []⟩ [] mixed (by kernel_rfl) trivial ?_
  refine peel_seq ?_
  refine awp_seq ?_
  refine awp_seq ?_
  cases l with
  | nil =>
    refine awp_region_keep tab_ok boxes [] [0, 1, 4, 8] [] ⟨19, [(0, (.t (.c (.d (encT (Tr.nil)))))), (1, (.t (.c (.d (encT m))))), (4, (sc (.pointer none))), (8, (sc (.bool true)))], [], []⟩ [] mixed (by kernel_rfl) trivial ?_
    refine peel_seq ?_
    refine awp_true rfl ?_
    refine awp_seq ?_
    refine awp_region_keep tab_ok boxes [] [0, 1, 4] [] ⟨19, [(0, (.t (.c (.d (encT (Tr.nil)))))), (1, (.t (.c (.d (encT m))))), (4, (.t (.c (.d (encT m)))))], [], []⟩ [] mixed (by kernel_rfl) trivial ?_
    refine peel_seq ?_
    refine awp_ret ?_
    refine peel_seq_ret ?_
    exact ends_ret rfl rfl rfl
  | node k2 v3 l4 r5 =>
    refine awp_region_keep tab_ok boxes [] [0, 1, 4, 8] [] ⟨19, [(0, (.t (.c (.d (encT (Tr.node k2 v3 l4 r5)))))), (1, (.t (.c (.d (encT m))))), (4, (sc (.pointer none))), (8, (sc (.bool false)))], [], []⟩ [] mixed (by kernel_rfl) trivial ?_
    refine peel_seq ?_
    refine awp_false rfl ?_
    refine awp_skip ?_
    refine peel_seq ?_
    refine awp_seq ?_
    refine awp_region_keep tab_ok boxes [(1, ⟨[], (.tup [(.c (.d (encT ((Tr.last (Tr.node k2 v3 l4 r5)).1)))), (.agg [(.d (.v (.string (Tr.last (Tr.node k2 v3 l4 r5)).2.1))), (.d (.v (.string (Tr.last (Tr.node k2 v3 l4 r5)).2.2)))])]), some []⟩)] [1, 4, 5, 6] [6] ⟨19, [(1, (.t (.c (.d (encT m))))), (4, (sc (.pointer none))), (5, (.t (.c (.d (encT ((Tr.last (Tr.node k2 v3 l4 r5)).1)))))), (6, (.t (.c (.loc 6 0))))], [(6, (.cells 81 [(.d (.v (.string (Tr.last (Tr.node k2 v3 l4 r5)).2.1))), (.d (.v (.string (Tr.last (Tr.node k2 v3 l4 r5)).2.2)))]))], []⟩ [⟨(Go.Op.call (Go.Call.mk (Go.Callee.value (Go.Operand.func 93)) #[(Go.Operand.tmp 11)] #[98])), 121, [(sc (.func (.func 93) #[] #[])), (.t (.c (.d (encT (Tr.node k2 v3 l4 r5)))))], [], (.tup [(.c (.d (encT ((Tr.last (Tr.node k2 v3 l4 r5)).1)))), (.agg [(.d (.v (.string (Tr.last (Tr.node k2 v3 l4 r5)).2.1))), (.d (.v (.string (Tr.last (Tr.node k2 v3 l4 r5)).2.2)))])]), []⟩] mixed (by kernel_rfl) ⟨tri_call (s_last (Tr.node k2 v3 l4 r5) (by simp) (by (try simp only [Tr.size, Tr.size_downLess, Tr.size_downMore, Tr.size_join, big] at *); omega)), trivial⟩ ?_
    refine peel_seq ?_
    refine awp_seq ?_
    refine awp_region_keep tab_ok boxes [(3, ⟨[], (.t (.c (.d (encT (Tr.join ((Tr.last (Tr.node k2 v3 l4 r5)).1) ((Tr.last (Tr.node k2 v3 l4 r5)).2.1) ((Tr.last (Tr.node k2 v3 l4 r5)).2.2) m))))), some []⟩)] [4] [] ⟨19, [(4, (.t (.c (.d (encT (Tr.join ((Tr.last (Tr.node k2 v3 l4 r5)).1) ((Tr.last (Tr.node k2 v3 l4 r5)).2.1) ((Tr.last (Tr.node k2 v3 l4 r5)).2.2) m))))))], [], []⟩ [⟨(Go.Op.call (Go.Call.mk (Go.Callee.value (Go.Operand.func 86)) #[(Go.Operand.tmp 15), (Go.Operand.tmp 16), (Go.Operand.tmp 17)] #[98, 81, 98])), 98, [(sc (.func (.func 86) #[] #[])), (.t (.c (.d (encT ((Tr.last (Tr.node k2 v3 l4 r5)).1))))), (.t (.agg [(.d (.v (.string (Tr.last (Tr.node k2 v3 l4 r5)).2.1))), (.d (.v (.string (Tr.last (Tr.node k2 v3 l4 r5)).2.2)))])), (.t (.c (.d (encT m))))], [], (.t (.c (.d (encT (Tr.join ((Tr.last (Tr.node k2 v3 l4 r5)).1) ((Tr.last (Tr.node k2 v3 l4 r5)).2.1) ((Tr.last (Tr.node k2 v3 l4 r5)).2.2) m))))), []⟩] mixed (by kernel_rfl) ⟨tri_call (s_join ((Tr.last (Tr.node k2 v3 l4 r5)).1) ((Tr.last (Tr.node k2 v3 l4 r5)).2.1) ((Tr.last (Tr.node k2 v3 l4 r5)).2.2) m (by have h1 := Tr.size_last (Tr.node k2 v3 l4 r5) (by simp); (try simp only [Tr.size, Tr.size_downLess, Tr.size_downMore, Tr.size_join, big] at *); omega)), trivial⟩ ?_
    refine peel_seq ?_
    refine awp_ret ?_
    exact ends_ret rfl rfl rfl
theorem s_find (t : Tr) (k : ByteArray) : Sat Try.prog 74 [(.t (.c (.d (encT t)))), (sc (.string k))] [] (.t (.c (.d (encT (Tr.find t k))))) [] := by
  refine sat_of_body tab_ok Try.func74 rfl (by kernel_rfl) (Nat.le_of_ble_eq_true rfl) rfl fun G => ?_
  refine awp_seq ?_
  refine awp_region_keep tab_ok boxes [] [0, 1, 4] [] ⟨32, [(0, (.t (.c (.d (encT t))))), (1, (sc (.string k))), (4, (sc (.pointer none)))], [], []⟩ [] mixed (by kernel_rfl) trivial ?_
  refine peel_seq ?_
  refine awp_seq ?_
  refine awp_block ?_
  refine awp_loopP (ι := Tr) (fun x => ⟨32, [(0, (.t (.c (.d (encT x))))), (1, (sc (.string k))), (4, (sc (.pointer none)))], [], []⟩) (fun x => Tr.find x k = Tr.find t k) Tr.size t rfl rfl (fun x hx => ?_)
  refine awp_seq ?_
  refine awp_seq ?_
  cases x with
  | nil =>
    refine awp_region_keep tab_ok boxes [] [0, 1, 4, 15] [] ⟨32, [(0, (.t (.c (.d (encT (Tr.nil)))))), (1, (sc (.string k))), (4, (sc (.pointer none))), (15, (sc (.bool false)))], [], []⟩ [] mixed (by kernel_rfl) trivial ?_
    refine peel_seq ?_
    refine awp_false rfl ?_
    refine awp_exit ?_
    refine peel_seq_exit ?_
    refine peel_seq_exit ?_
    refine peel_hit ?_
    refine peel_seq ?_
    refine awp_seq ?_
    refine awp_region_keep tab_ok boxes [] [4] [] ⟨32, [(4, (.t (.c (.d (encT (Tr.nil))))))], [], []⟩ [] mixed (by kernel_rfl) trivial ?_
    refine peel_seq ?_
    refine awp_ret ?_
    exact ends_ret rfl (congrArg (fun t => some (SV.t (TV.c (CV.d (encT t))))) (show (Tr.nil) = Tr.find t k from by rw [← hx]; simp only [Tr.find] <;> simp_all)) rfl
  | node k2 v3 l4 r5 =>
    refine awp_region_keep tab_ok boxes [(9, ⟨[], (sc (.bool (!(eqS k2 k)))), some []⟩)] [0, 1, 4, 15] [] ⟨32, [(0, (.t (.c (.d (encT (Tr.node k2 v3 l4 r5)))))), (1, (sc (.string k))), (4, (sc (.pointer none))), (15, (sc (.bool (!(eqS k2 k)))))], [], []⟩ [⟨(Go.Op.binOp Go.BinOp.neq 9 (Go.Operand.tmp 12) (Go.Operand.tmp 13) 9), 4, [(sc (.string k2)), (sc (.string k))], [], (sc (.bool (!(eqS k2 k)))), []⟩] mixed (by kernel_rfl) ⟨tri_str_neq, trivial⟩ ?_
    refine peel_seq ?_
    refine awp_cond (b := (!(eqS k2 k))) rfl (fun hc6 => ?_) (fun hc6 => ?_)
    · skip
      have hc6n : (eqS k2 k) = false := by simpa using hc6
      have hc6np := eqS_false hc6n
      refine awp_skip ?_
      refine peel_seq ?_
      refine awp_block ?_
      refine awp_seq ?_
      refine awp_region_keep tab_ok boxes [(6, ⟨[], (sc (.bool (ltS k k2))), some []⟩)] [0, 1, 4, 22] [] ⟨32, [(0, (.t (.c (.d (encT (Tr.node k2 v3 l4 r5)))))), (1, (sc (.string k))), (4, (sc (.pointer none))), (22, (sc (.bool (ltS k k2))))], [], []⟩ [⟨(Go.Op.binOp Go.BinOp.lss 9 (Go.Operand.tmp 16) (Go.Operand.tmp 21) 9), 4, [(sc (.string k)), (sc (.string k2))], [], (sc (.bool (ltS k k2))), []⟩] mixed (by kernel_rfl) ⟨tri_str_lss, trivial⟩ ?_
      refine peel_seq ?_
      refine awp_cond (b := (ltS k k2)) rfl (fun hc7 => ?_) (fun hc7 => ?_)
      · skip
        refine awp_region_keep tab_ok boxes [] [0, 1, 4] [] ⟨32, [(0, (.t (.c (.d (encT l4))))), (1, (sc (.string k))), (4, (sc (.pointer none)))], [], []⟩ [] mixed (by kernel_rfl) trivial ?_
        refine peel_block ?_
        exact peel_round l4 rfl (by rw [← hx]; simp only [Tr.find]; simp_all) (by simp only [Tr.size]; omega)
      · skip
        refine awp_region_keep tab_ok boxes [] [0, 1, 4] [] ⟨32, [(0, (.t (.c (.d (encT r5))))), (1, (sc (.string k))), (4, (sc (.pointer none)))], [], []⟩ [] mixed (by kernel_rfl) trivial ?_
        refine peel_block ?_
        exact peel_round r5 rfl (by rw [← hx]; simp only [Tr.find]; simp_all) (by simp only [Tr.size]; omega)
    · skip
      have hc6n : (eqS k2 k) = true := by simpa using hc6
      have hc6np := eqS_true hc6n
      refine awp_exit ?_
      refine peel_seq_exit ?_
      refine peel_seq_exit ?_
      refine peel_hit ?_
      refine peel_seq ?_
      refine awp_seq ?_
      refine awp_region_keep tab_ok boxes [] [4] [] ⟨32, [(4, (.t (.c (.d (encT (Tr.node k2 v3 l4 r5))))))], [], []⟩ [] mixed (by kernel_rfl) trivial ?_
      refine peel_seq ?_
      refine awp_ret ?_
      exact ends_ret rfl (congrArg (fun t => some (SV.t (TV.c (CV.d (encT t))))) (show (Tr.node k2 v3 l4 r5) = Tr.find t k from by rw [← hx]; simp only [Tr.find] <;> simp_all)) rfl
end Go.Proofs.Ytjbiaoajmdbigaa
