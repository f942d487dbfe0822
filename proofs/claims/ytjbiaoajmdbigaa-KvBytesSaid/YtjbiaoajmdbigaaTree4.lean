/- Walks of package tree: glue, find, put, drop, and what is called of a Tree. -/
import Derived.Test.YtjbiaoajmdbigaaTree3
set_option maxRecDepth 100000
set_option linter.unusedVariables false
set_option linter.unusedSimpArgs false
namespace Go.Proofs.Ytjbiaoajmdbigaa
open Go Go.E
theorem s_glue (l m : Tr) (hs : l.size + m.size ≤ big) : Sat Try.prog 87 [(vT (encT l)), (vT (encT m))] [] (vT (encT (Tr.glue l m))) [] := by
 refine sat_of_body tab_ok Try.func87 rfl (by kernel_rfl) (Nat.le_of_ble_eq_true rfl) rfl fun G => ?_
 refine awp_seq ?_
 refine rk boxes [] [0, 1, 4] [] ⟨19, [(0, (vT (encT l))), (1, (vT (encT m))), (4, (sc (.pointer none)))], [], []⟩ (by kernel_rfl) .n ?_
 refine peel_seq ?_
 refine awp_seq ?_
 refine awp_seq ?_
 cases l with
 | nil =>
  refine rk boxes [] [0, 1, 4, 8] [] ⟨19, [(0, (vT (encT (Tr.nil)))), (1, (vT (encT m))), (4, (sc (.pointer none))), (8, (vB true))], [], []⟩ (by kernel_rfl) .n ?_
  refine peel_seq ?_
  refine awp_true rfl ?_
  refine awp_seq ?_
  refine rk boxes [] [0, 1, 4] [] ⟨19, [(0, (vT (encT (Tr.nil)))), (1, (vT (encT m))), (4, (vT (encT m)))], [], []⟩ (by kernel_rfl) .n ?_
  refine peel_seq ?_
  refine awp_ret ?_
  refine peel_seq_ret ?_
  exact ends_ret rfl rfl rfl
 | node k2 v3 l4 r5 =>
  refine rk boxes [] [0, 1, 4, 8] [] ⟨19, [(0, (vT (encT (Tr.node k2 v3 l4 r5)))), (1, (vT (encT m))), (4, (sc (.pointer none))), (8, (vB false))], [], []⟩ (by kernel_rfl) .n ?_
  refine peel_seq ?_
  refine awp_false rfl ?_
  refine awp_skip ?_
  refine peel_seq ?_
  refine awp_seq ?_
  refine rk boxes [⟨1, false, [(sc (.func (.func 93) #[] #[])), (vT (encT (Tr.node k2 v3 l4 r5)))], [], (.tup [(.c (.d (encT ((Tr.last (Tr.node k2 v3 l4 r5)).1)))), (.agg [(cS (Tr.last (Tr.node k2 v3 l4 r5)).2.1), (cS (Tr.last (Tr.node k2 v3 l4 r5)).2.2)])]), []⟩] [1, 4, 5, 6] [6] ⟨19, [(1, (vT (encT m))), (4, (sc (.pointer none))), (5, (vT (encT ((Tr.last (Tr.node k2 v3 l4 r5)).1)))), (6, (vL 6 0))], [(6, (.cells 81 [(cS (Tr.last (Tr.node k2 v3 l4 r5)).2.1), (cS (Tr.last (Tr.node k2 v3 l4 r5)).2.2)]))], []⟩ (by kernel_rfl) (.c (tri_call (s_last (Tr.node k2 v3 l4 r5) (by simp) (by (try simp only [Tr.size, Tr.size_downLess, Tr.size_downMore, Tr.size_join, big] at *); omega))) .n) ?_
  refine peel_seq ?_
  refine awp_seq ?_
  refine rk boxes [⟨3, false, [(sc (.func (.func 86) #[] #[])), (vT (encT ((Tr.last (Tr.node k2 v3 l4 r5)).1))), (.t (.agg [(cS (Tr.last (Tr.node k2 v3 l4 r5)).2.1), (cS (Tr.last (Tr.node k2 v3 l4 r5)).2.2)])), (vT (encT m))], [], (vT (encT (Tr.join ((Tr.last (Tr.node k2 v3 l4 r5)).1) ((Tr.last (Tr.node k2 v3 l4 r5)).2.1) ((Tr.last (Tr.node k2 v3 l4 r5)).2.2) m))), []⟩] [4] [] ⟨19, [(4, (vT (encT (Tr.join ((Tr.last (Tr.node k2 v3 l4 r5)).1) ((Tr.last (Tr.node k2 v3 l4 r5)).2.1) ((Tr.last (Tr.node k2 v3 l4 r5)).2.2) m))))], [], []⟩ (by kernel_rfl) (.c (tri_call (s_join ((Tr.last (Tr.node k2 v3 l4 r5)).1) ((Tr.last (Tr.node k2 v3 l4 r5)).2.1) ((Tr.last (Tr.node k2 v3 l4 r5)).2.2) m (by have h1 := Tr.size_last (Tr.node k2 v3 l4 r5) (by simp); (try simp only [Tr.size, Tr.size_downLess, Tr.size_downMore, Tr.size_join, big] at *); omega))) .n) ?_
  refine peel_seq ?_
  refine awp_ret ?_
  exact ends_ret rfl rfl rfl
theorem s_find (t : Tr) (k : ByteArray) : Sat Try.prog 74 [(vT (encT t)), (vS k)] [] (vT (encT (Tr.find t k))) [] := by
 refine sat_of_body tab_ok Try.func74 rfl (by kernel_rfl) (Nat.le_of_ble_eq_true rfl) rfl fun G => ?_
 refine awp_seq ?_
 refine rk boxes [] [0, 1, 4] [] ⟨32, [(0, (vT (encT t))), (1, (vS k)), (4, (sc (.pointer none)))], [], []⟩ (by kernel_rfl) .n ?_
 refine peel_seq ?_
 refine awp_seq ?_
 refine awp_block ?_
 refine awp_loopP (ι := Tr) (fun x => ⟨32, [(0, (vT (encT x))), (1, (vS k)), (4, (sc (.pointer none)))], [], []⟩) (fun x => Tr.find x k = Tr.find t k) Tr.size t rfl rfl (fun x hx => ?_)
 refine awp_seq ?_
 refine awp_seq ?_
 cases x with
 | nil =>
  refine rk boxes [] [0, 1, 4, 15] [] ⟨32, [(0, (vT (encT (Tr.nil)))), (1, (vS k)), (4, (sc (.pointer none))), (15, (vB false))], [], []⟩ (by kernel_rfl) .n ?_
  refine peel_seq ?_
  refine awp_false rfl ?_
  refine awp_exit ?_
  refine peel_seq_exit ?_
  refine peel_seq_exit ?_
  refine peel_hit ?_
  refine peel_seq ?_
  refine awp_seq ?_
  refine rk boxes [] [4] [] ⟨32, [(4, (vT (encT (Tr.nil))))], [], []⟩ (by kernel_rfl) .n ?_
  refine peel_seq ?_
  refine awp_ret ?_
  exact ends_ret rfl (congrArg (fun t => some (SV.t (TV.c (CV.d (encT t))))) (show (Tr.nil) = Tr.find t k from by rw [← hx]; simp only [Tr.find] <;> simp_all)) rfl
 | node k2 v3 l4 r5 =>
  refine rk boxes [⟨9, false, [(vS k2), (vS k)], [], (vB (!(eqS k2 k))), []⟩] [0, 1, 4, 15] [] ⟨32, [(0, (vT (encT (Tr.node k2 v3 l4 r5)))), (1, (vS k)), (4, (sc (.pointer none))), (15, (vB (!(eqS k2 k))))], [], []⟩ (by kernel_rfl) (.c (tri_str_neq) .n) ?_
  refine peel_seq ?_
  refine awp_cond (b := (!(eqS k2 k))) rfl (fun hc6 => ?_) (fun hc6 => ?_)
  ·skip
   have hc6n : (eqS k2 k) = false := by simpa using hc6
   have hc6np := eqS_false hc6n
   refine awp_skip ?_
   refine peel_seq ?_
   refine awp_block ?_
   refine awp_seq ?_
   refine rk boxes [⟨6, false, [(vS k), (vS k2)], [], (vB (ltS k k2)), []⟩] [0, 1, 4, 22] [] ⟨32, [(0, (vT (encT (Tr.node k2 v3 l4 r5)))), (1, (vS k)), (4, (sc (.pointer none))), (22, (vB (ltS k k2)))], [], []⟩ (by kernel_rfl) (.c (tri_str_lss) .n) ?_
   refine peel_seq ?_
   refine awp_cond (b := (ltS k k2)) rfl (fun hc7 => ?_) (fun hc7 => ?_)
   ·skip
    refine rk boxes [] [0, 1, 4] [] ⟨32, [(0, (vT (encT l4))), (1, (vS k)), (4, (sc (.pointer none)))], [], []⟩ (by kernel_rfl) .n ?_
    refine peel_block ?_
    exact peel_round l4 rfl (by rw [← hx]; simp only [Tr.find]; simp_all) (by simp only [Tr.size]; omega)
   ·skip
    refine rk boxes [] [0, 1, 4] [] ⟨32, [(0, (vT (encT r5))), (1, (vS k)), (4, (sc (.pointer none)))], [], []⟩ (by kernel_rfl) .n ?_
    refine peel_block ?_
    exact peel_round r5 rfl (by rw [← hx]; simp only [Tr.find]; simp_all) (by simp only [Tr.size]; omega)
  ·skip
   have hc6n : (eqS k2 k) = true := by simpa using hc6
   have hc6np := eqS_true hc6n
   refine awp_exit ?_
   refine peel_seq_exit ?_
   refine peel_seq_exit ?_
   refine peel_hit ?_
   refine peel_seq ?_
   refine awp_seq ?_
   refine rk boxes [] [4] [] ⟨32, [(4, (vT (encT (Tr.node k2 v3 l4 r5))))], [], []⟩ (by kernel_rfl) .n ?_
   refine peel_seq ?_
   refine awp_ret ?_
   exact ends_ret rfl (congrArg (fun t => some (SV.t (TV.c (CV.d (encT t))))) (show (Tr.node k2 v3 l4 r5) = Tr.find t k from by rw [← hx]; simp only [Tr.find] <;> simp_all)) rfl
end Go.Proofs.Ytjbiaoajmdbigaa
