/- Walks of package tree: last, glue, find, put, drop, and what is called of a Tree. -/
import Derived.Test.YtjbiaoajmdbigaaTree2
set_option maxRecDepth 100000
set_option linter.unusedVariables false
set_option linter.unusedSimpArgs false
namespace Go.Proofs.Ytjbiaoajmdbigaa
open Go Go.E
theorem s_last (t : Tr) (ht : t ≠ Tr.nil) (hs : t.size ≤ big) : Sat Try.prog 93 [(.t (.c (.d (encT t))))] [] (.tup [(.c (.d (encT ((Tr.last t).1)))), (.agg [(.d (.v (.string (Tr.last t).2.1))), (.d (.v (.string (Tr.last t).2.2)))])]) [] := by
  refine sat_of_body tab_ok Try.func93 rfl (by kernel_rfl) (Nat.le_of_ble_eq_true rfl) rfl fun G => ?_
  refine awp_seq ?_
  refine awp_region_keep tab_ok boxes [] [0, 2, 3] [3] ⟨38, [(0, (.t (.c (.d (encT t))))), (2, (sc (.pointer none))), (3, (.t (.c (.loc 3 0))))], [(3, (.cells 81 [(.d (.v (.string ⟨#[]⟩))), (.d (.v (.string ⟨#[]⟩)))]))], []⟩ [] mixed (by kernel_rfl) trivial ?_
  refine peel_seq ?_
  refine awp_seq ?_
  refine awp_seq ?_
  cases t with
  | nil =>
    exact absurd rfl ht
  | node k2 v3 l4 r5 =>
    cases r5 with
    | nil =>
      refine awp_region_keep tab_ok boxes [] [0, 2, 3, 10] [3] ⟨38, [(0, (.t (.c (.d (encT (Tr.node k2 v3 l4 (Tr.nil))))))), (2, (sc (.pointer none))), (3, (.t (.c (.loc 3 0)))), (10, (sc (.bool true)))], [(3, (.cells 81 [(.d (.v (.string ⟨#[]⟩))), (.d (.v (.string ⟨#[]⟩)))]))], []⟩ [] mixed (by kernel_rfl) trivial ?_
      refine peel_seq ?_
      refine awp_true rfl ?_
      refine awp_seq ?_
      refine awp_region_keep tab_ok boxes [] [0, 2, 3] [3] ⟨38, [(0, (.t (.c (.d (encT (Tr.node k2 v3 l4 (Tr.nil))))))), (2, (.t (.c (.d (encT l4))))), (3, (.t (.c (.loc 3 0))))], [(3, (.cells 81 [(.d (.v (.string k2))), (.d (.v (.string v3)))]))], []⟩ [] mixed (by kernel_rfl) trivial ?_
      refine peel_seq ?_
      refine awp_ret ?_
      refine peel_seq_ret ?_
      exact ends_ret rfl (by first | rfl | simp only [Tr.last]) rfl
    | node k7 v8 l9 r10 =>
      refine awp_region_keep tab_ok boxes [] [0, 2, 3, 10] [3] ⟨38, [(0, (.t (.c (.d (encT (Tr.node k2 v3 l4 (Tr.node k7 v8 l9 r10))))))), (2, (sc (.pointer none))), (3, (.t (.c (.loc 3 0)))), (10, (sc (.bool false)))], [(3, (.cells 81 [(.d (.v (.string ⟨#[]⟩))), (.d (.v (.string ⟨#[]⟩)))]))], []⟩ [] mixed (by kernel_rfl) trivial ?_
      refine peel_seq ?_
      refine awp_false rfl ?_
      refine awp_skip ?_
      refine peel_seq ?_
      refine awp_seq ?_
      refine awp_region_keep tab_ok boxes [(4, ⟨[], (.tup [(.c (.d (encT ((Tr.last (Tr.node k7 v8 l9 r10)).1)))), (.agg [(.d (.v (.string (Tr.last (Tr.node k7 v8 l9 r10)).2.1))), (.d (.v (.string (Tr.last (Tr.node k7 v8 l9 r10)).2.2)))])]), some []⟩)] [0, 2, 3, 4, 5] [3, 5] ⟨38, [(0, (.t (.c (.d (encT (Tr.node k2 v3 l4 (Tr.node k7 v8 l9 r10))))))), (2, (sc (.pointer none))), (3, (.t (.c (.loc 3 0)))), (4, (.t (.c (.d (encT ((Tr.last (Tr.node k7 v8 l9 r10)).1)))))), (5, (.t (.c (.loc 5 0))))], [(3, (.cells 81 [(.d (.v (.string ⟨#[]⟩))), (.d (.v (.string ⟨#[]⟩)))])), (5, (.cells 81 [(.d (.v (.string (Tr.last (Tr.node k7 v8 l9 r10)).2.1))), (.d (.v (.string (Tr.last (Tr.node k7 v8 l9 r10)).2.2)))]))], []⟩ [⟨(Go.Op.call (Go.Call.mk (Go.Callee.value (Go.Operand.func 93)) #[(Go.Operand.tmp 23)] #[98])), 121, [(sc (.func (.func 93) #[] #[])), (.t (.c (.d (encT (Tr.node k7 v8 l9 r10)))))], [], (.tup [(.c (.d (encT ((Tr.last (Tr.node k7 v8 l9 r10)).1)))), (.agg [(.d (.v (.string (Tr.last (Tr.node k7 v8 l9 r10)).2.1))), (.d (.v (.string (Tr.last (Tr.node k7 v8 l9 r10)).2.2)))])]), []⟩] mixed (by kernel_rfl) ⟨tri_call (s_last (Tr.node k7 v8 l9 r10) (by simp) (by (try simp only [Tr.size, Tr.size_downLess, Tr.size_downMore, Tr.size_join, big] at *); omega)), trivial⟩ ?_
      refine peel_seq ?_
      refine awp_seq ?_
      refine awp_region_keep tab_ok boxes [(9, ⟨[], (.t (.c (.d (encT (Tr.join l4 k2 v3 ((Tr.last (Tr.node k7 v8 l9 r10)).1)))))), some []⟩)] [2, 3] [3] ⟨38, [(2, (.t (.c (.d (encT (Tr.join l4 k2 v3 ((Tr.last (Tr.node k7 v8 l9 r10)).1))))))), (3, (.t (.c (.loc 3 0))))], [(3, (.cells 81 [(.d (.v (.string (Tr.last (Tr.node k7 v8 l9 r10)).2.1))), (.d (.v (.string (Tr.last (Tr.node k7 v8 l9 r10)).2.2)))]))], []⟩ [⟨(Go.Op.call (Go.Call.mk (Go.Callee.value (Go.Operand.func 86)) #[(Go.Operand.tmp 30), (Go.Operand.tmp 34), (Go.Operand.tmp 35)] #[98, 81, 98])), 98, [(sc (.func (.func 86) #[] #[])), (.t (.c (.d (encT l4)))), (.t (.agg [(.d (.v (.string k2))), (.d (.v (.string v3)))])), (.t (.c (.d (encT ((Tr.last (Tr.node k7 v8 l9 r10)).1)))))], [], (.t (.c (.d (encT (Tr.join l4 k2 v3 ((Tr.last (Tr.node k7 v8 l9 r10)).1)))))), []⟩] mixed (by kernel_rfl) ⟨tri_call (s_join l4 k2 v3 ((Tr.last (Tr.node k7 v8 l9 r10)).1) (by have h1 := Tr.size_last (Tr.node k7 v8 l9 r10) (by simp); (try simp only [Tr.size, Tr.size_downLess, Tr.size_downMore, Tr.size_join, big] at *); omega)), trivial⟩ ?_
      refine peel_seq ?_
      refine awp_ret ?_
      exact ends_ret rfl (by first | rfl | simp only [Tr.last]) rfl
termination_by structural t
end Go.Proofs.Ytjbiaoajmdbigaa
