/- Walks of package tree: last, glue, find, put, drop, and what is called of a Tree. -/
import Derived.Test.YtjbiaoajmdbigaaTree2
set_option maxRecDepth 100000
set_option linter.unusedVariables false
set_option linter.unusedSimpArgs false
namespace Go.Proofs.Ytjbiaoajmdbigaa
open Go Go.E
theorem s_last (t : Tr) (ht : t ≠ Tr.nil) (hs : t.size ≤ big) : Sat Try.prog 93 [(vT (encT t))] [] (.tup [(.c (.d (encT ((Tr.last t).1)))), (.agg [(cS (Tr.last t).2.1), (cS (Tr.last t).2.2)])]) [] := by
 refine sat_of_body tab_ok Try.func93 rfl (by kernel_rfl) (Nat.le_of_ble_eq_true rfl) rfl fun G => ?_
 refine awp_seq ?_
 refine rk boxes [] [0, 2, 3] [3] ⟨38, [(0, (vT (encT t))), (2, (sc (.pointer none))), (3, (vL 3 0))], [(3, (.cells 81 [(cS ⟨#[]⟩), (cS ⟨#[]⟩)]))], []⟩ (by kernel_rfl) .n ?_
 refine peel_seq ?_
 refine awp_seq ?_
 refine awp_seq ?_
 cases t with
 | nil =>
  exact absurd rfl ht
 | node k2 v3 l4 r5 =>
  cases r5 with
  | nil =>
   refine rk boxes [] [0, 2, 3, 10] [3] ⟨38, [(0, (vT (encT (Tr.node k2 v3 l4 (Tr.nil))))), (2, (sc (.pointer none))), (3, (vL 3 0)), (10, (vB true))], [(3, (.cells 81 [(cS ⟨#[]⟩), (cS ⟨#[]⟩)]))], []⟩ (by kernel_rfl) .n ?_
   refine peel_seq ?_
   refine awp_true rfl ?_
   refine awp_seq ?_
   refine rk boxes [] [0, 2, 3] [3] ⟨38, [(0, (vT (encT (Tr.node k2 v3 l4 (Tr.nil))))), (2, (vT (encT l4))), (3, (vL 3 0))], [(3, (.cells 81 [(cS k2), (cS v3)]))], []⟩ (by kernel_rfl) .n ?_
   refine peel_seq ?_
   refine awp_ret ?_
   refine peel_seq_ret ?_
   exact ends_ret rfl (by first | rfl | simp only [Tr.last]) rfl
  | node k7 v8 l9 r10 =>
   refine rk boxes [] [0, 2, 3, 10] [3] ⟨38, [(0, (vT (encT (Tr.node k2 v3 l4 (Tr.node k7 v8 l9 r10))))), (2, (sc (.pointer none))), (3, (vL 3 0)), (10, (vB false))], [(3, (.cells 81 [(cS ⟨#[]⟩), (cS ⟨#[]⟩)]))], []⟩ (by kernel_rfl) .n ?_
   refine peel_seq ?_
   refine awp_false rfl ?_
   refine awp_skip ?_
   refine peel_seq ?_
   refine awp_seq ?_
   refine rk boxes [⟨4, false, [(sc (.func (.func 93) #[] #[])), (vT (encT (Tr.node k7 v8 l9 r10)))], [], (.tup [(.c (.d (encT ((Tr.last (Tr.node k7 v8 l9 r10)).1)))), (.agg [(cS (Tr.last (Tr.node k7 v8 l9 r10)).2.1), (cS (Tr.last (Tr.node k7 v8 l9 r10)).2.2)])]), []⟩] [0, 2, 3, 4, 5] [3, 5] ⟨38, [(0, (vT (encT (Tr.node k2 v3 l4 (Tr.node k7 v8 l9 r10))))), (2, (sc (.pointer none))), (3, (vL 3 0)), (4, (vT (encT ((Tr.last (Tr.node k7 v8 l9 r10)).1)))), (5, (vL 5 0))], [(3, (.cells 81 [(cS ⟨#[]⟩), (cS ⟨#[]⟩)])), (5, (.cells 81 [(cS (Tr.last (Tr.node k7 v8 l9 r10)).2.1), (cS (Tr.last (Tr.node k7 v8 l9 r10)).2.2)]))], []⟩ (by kernel_rfl) (.c (tri_call (s_last (Tr.node k7 v8 l9 r10) (by simp) (by (try simp only [Tr.size, Tr.size_downLess, Tr.size_downMore, Tr.size_join, big] at *); omega))) .n) ?_
   refine peel_seq ?_
   refine awp_seq ?_
   refine rk boxes [⟨9, false, [(sc (.func (.func 86) #[] #[])), (vT (encT l4)), (.t (.agg [(cS k2), (cS v3)])), (vT (encT ((Tr.last (Tr.node k7 v8 l9 r10)).1)))], [], (vT (encT (Tr.join l4 k2 v3 ((Tr.last (Tr.node k7 v8 l9 r10)).1)))), []⟩] [2, 3] [3] ⟨38, [(2, (vT (encT (Tr.join l4 k2 v3 ((Tr.last (Tr.node k7 v8 l9 r10)).1))))), (3, (vL 3 0))], [(3, (.cells 81 [(cS (Tr.last (Tr.node k7 v8 l9 r10)).2.1), (cS (Tr.last (Tr.node k7 v8 l9 r10)).2.2)]))], []⟩ (by kernel_rfl) (.c (tri_call (s_join l4 k2 v3 ((Tr.last (Tr.node k7 v8 l9 r10)).1) (by have h1 := Tr.size_last (Tr.node k7 v8 l9 r10) (by simp); (try simp only [Tr.size, Tr.size_downLess, Tr.size_downMore, Tr.size_join, big] at *); omega))) .n) ?_
   refine peel_seq ?_
   refine awp_ret ?_
   exact ends_ret rfl (by first | rfl | simp only [Tr.last]) rfl
termination_by structural t
end Go.Proofs.Ytjbiaoajmdbigaa
