/- Walks of package tree: depth, size, a node over two sides, the turns. -/
import Derived.Test.YtjbiaoajmdbigaaTab
import Derived.Test.YtjbiaoajmdbigaaTr
set_option maxRecDepth 100000
set_option linter.unusedVariables false
set_option linter.unusedSimpArgs false
namespace Go.Proofs.Ytjbiaoajmdbigaa
open Go Go.E
theorem s_depth (t : Tr) : Sat Try.prog 90 [(vT (encT t))] [] (vI (t.depth : Int)) [] := by
 refine sat_of_body tab_ok Try.func90 rfl (by kernel_rfl) (Nat.le_of_ble_eq_true rfl) rfl fun G => ?_
 refine awp_seq ?_
 refine rk boxes [] [0, 2] [] ⟨9, [(0, (vT (encT t))), (2, (vI 0))], [], []⟩ (by kernel_rfl) .n ?_
 refine peel_seq ?_
 refine awp_seq ?_
 refine awp_seq ?_
 cases t with
 | nil =>
  refine rk boxes [] [0, 2, 4] [] ⟨9, [(0, (vT (encT (Tr.nil)))), (2, (vI 0)), (4, (vB true))], [], []⟩ (by kernel_rfl) .n ?_
  refine peel_seq ?_
  refine awp_true rfl ?_
  refine awp_seq ?_
  refine rk boxes [] [0, 2] [] ⟨9, [(0, (vT (encT (Tr.nil)))), (2, (vI 0))], [], []⟩ (by kernel_rfl) .n ?_
  refine peel_seq ?_
  refine awp_ret ?_
  refine peel_seq_ret ?_
  exact ends_ret rfl rfl rfl
 | node k2 v3 l4 r5 =>
  refine rk boxes [] [0, 2, 4] [] ⟨9, [(0, (vT (encT (Tr.node k2 v3 l4 r5)))), (2, (vI 0)), (4, (vB false))], [], []⟩ (by kernel_rfl) .n ?_
  refine peel_seq ?_
  refine awp_false rfl ?_
  refine awp_skip ?_
  refine peel_seq ?_
  refine awp_seq ?_
  refine rk boxes [] [2] [] ⟨9, [(2, (vI ((Tr.node k2 v3 l4 r5).depth : Int)))], [], []⟩ (by kernel_rfl) .n ?_
  refine peel_seq ?_
  refine awp_ret ?_
  exact ends_ret rfl rfl rfl
theorem s_size (t : Tr) : Sat Try.prog 71 [(vT (encT t))] [] (vI (t.size : Int)) [] := by
 refine sat_of_body tab_ok Try.func71 rfl (by kernel_rfl) (Nat.le_of_ble_eq_true rfl) rfl fun G => ?_
 refine awp_seq ?_
 refine rk boxes [] [0, 2] [] ⟨9, [(0, (vT (encT t))), (2, (vI 0))], [], []⟩ (by kernel_rfl) .n ?_
 refine peel_seq ?_
 refine awp_seq ?_
 refine awp_seq ?_
 cases t with
 | nil =>
  refine rk boxes [] [0, 2, 4] [] ⟨9, [(0, (vT (encT (Tr.nil)))), (2, (vI 0)), (4, (vB true))], [], []⟩ (by kernel_rfl) .n ?_
  refine peel_seq ?_
  refine awp_true rfl ?_
  refine awp_seq ?_
  refine rk boxes [] [0, 2] [] ⟨9, [(0, (vT (encT (Tr.nil)))), (2, (vI 0))], [], []⟩ (by kernel_rfl) .n ?_
  refine peel_seq ?_
  refine awp_ret ?_
  refine peel_seq_ret ?_
  exact ends_ret rfl rfl rfl
 | node k2 v3 l4 r5 =>
  refine rk boxes [] [0, 2, 4] [] ⟨9, [(0, (vT (encT (Tr.node k2 v3 l4 r5)))), (2, (vI 0)), (4, (vB false))], [], []⟩ (by kernel_rfl) .n ?_
  refine peel_seq ?_
  refine awp_false rfl ?_
  refine awp_skip ?_
  refine peel_seq ?_
  refine awp_seq ?_
  refine rk boxes [] [2] [] ⟨9, [(2, (vI ((Tr.node k2 v3 l4 r5).size : Int)))], [], []⟩ (by kernel_rfl) .n ?_
  refine peel_seq ?_
  refine awp_ret ?_
  exact ends_ret rfl rfl rfl
theorem s_over (l : Tr) (k v : ByteArray) (m : Tr) (hs : l.size + m.size ≤ big) : Sat Try.prog 85 [(vT (encT l)), (.t (.agg [(cS k), (cS v)])), (vT (encT m))] [] (vT (encT (Tr.node k v l m))) [] := by
 refine sat_of_body tab_ok Try.func85 rfl (by kernel_rfl) (Nat.le_of_ble_eq_true rfl) rfl fun G => ?_
 refine awp_seq ?_
 refine rk boxes [] [0, 2, 4, 6] [4] ⟨24, [(0, (vT (encT l))), (2, (vT (encT m))), (4, (vL 4 0)), (6, (sc (.pointer none)))], [(4, (.cells 81 [(cS k), (cS v)]))], []⟩ (by kernel_rfl) .n ?_
 refine peel_seq ?_
 refine awp_seq ?_
 refine rk boxes [⟨4, false, [(sc (.func (.func 90) #[] #[])), (vT (encT l))], [], (vI (l.depth : Int)), []⟩, ⟨6, false, [(sc (.func (.func 90) #[] #[])), (vT (encT m))], [], (vI (m.depth : Int)), []⟩, ⟨7, false, [(vI (l.depth : Int)), (vI (m.depth : Int))], [], (vI (max (l.depth : Int) (m.depth : Int))), []⟩, ⟨8, false, [(vI 1), (vI (max (l.depth : Int) (m.depth : Int)))], [], (vI ((Tr.node k v l m).depth : Int)), []⟩, ⟨10, false, [(sc (.func (.func 71) #[] #[])), (vT (encT l))], [], (vI (l.size : Int)), []⟩, ⟨11, false, [(vI 1), (vI (l.size : Int))], [], (vI (1 + (l.size : Int))), []⟩, ⟨13, false, [(sc (.func (.func 71) #[] #[])), (vT (encT m))], [], (vI (m.size : Int)), []⟩, ⟨14, false, [(vI (1 + (l.size : Int))), (vI (m.size : Int))], [], (vI ((Tr.node k v l m).size : Int)), []⟩] [6] [] ⟨24, [(6, (vT (dP [(dS k), (dS v), (encT l), (encT m), (dI ((Tr.node k v l m).depth : Int)), (dI ((Tr.node k v l m).size : Int))])))], [], []⟩ (by kernel_rfl) (.c (tri_call (s_depth l)) (.c (tri_call (s_depth m)) (.c (tri_max) (.c (tri_int ((Tr.node k v l m).depth : Int) (by have := l.depth_le; have := m.depth_le; rw [wrap_i64 (by simp only [big] at hs; omega)]; simp only [Tr.depth]; omega)) (.c (tri_call (s_size l)) (.c (tri_int (1 + (l.size : Int)) (wrap_i64 (by simp only [big] at hs; omega))) (.c (tri_call (s_size m)) (.c (tri_int ((Tr.node k v l m).size : Int) (by rw [wrap_i64 (by simp only [big] at hs; omega)]; simp only [Tr.size]; omega)) .n)))))))) ?_
 refine peel_seq ?_
 refine awp_ret ?_
 exact ends_ret rfl rfl rfl
theorem s_right (k v k2 v2 : ByteArray) (l2 r2 r : Tr) (hs : l2.size + r2.size + r.size + 1 ≤ big) : Sat Try.prog 95 [(vT (encT (Tr.node k v (Tr.node k2 v2 l2 r2) r)))] [] (vT (encT (Tr.node k2 v2 l2 (Tr.node k v r2 r)))) [] := by
 refine sat_of_body tab_ok Try.func95 rfl (by kernel_rfl) (Nat.le_of_ble_eq_true rfl) rfl fun G => ?_
 refine awp_seq ?_
 refine rk boxes [] [0, 2] [] ⟨30, [(0, (vT (encT (Tr.node k v (Tr.node k2 v2 l2 r2) r)))), (2, (sc (.pointer none)))], [], []⟩ (by kernel_rfl) .n ?_
 refine peel_seq ?_
 refine awp_seq ?_
 refine rk boxes [] [0, 2, 3] [] ⟨30, [(0, (vT (encT (Tr.node k v (Tr.node k2 v2 l2 r2) r)))), (2, (sc (.pointer none))), (3, (vT (encT (Tr.node k2 v2 l2 r2))))], [], []⟩ (by kernel_rfl) .n ?_
 refine peel_seq ?_
 refine awp_seq ?_
 refine rk boxes [⟨20, false, [(sc (.func (.func 85) #[] #[])), (vT (encT r2)), (.t (.agg [(cS k), (cS v)])), (vT (encT r))], [], (vT (encT (Tr.node k v r2 r))), []⟩, ⟨21, false, [(sc (.func (.func 85) #[] #[])), (vT (encT l2)), (.t (.agg [(cS k2), (cS v2)])), (vT (encT (Tr.node k v r2 r)))], [], (vT (encT (Tr.node k2 v2 l2 (Tr.node k v r2 r)))), []⟩] [2] [] ⟨30, [(2, (vT (encT (Tr.node k2 v2 l2 (Tr.node k v r2 r)))))], [], []⟩ (by kernel_rfl) (.c (tri_call (s_over r2 k v r (by (try simp only [Tr.size, Tr.size_downLess, Tr.size_downMore, Tr.size_join, big] at *); omega))) (.c (tri_call (s_over l2 k2 v2 (Tr.node k v r2 r) (by (try simp only [Tr.size, Tr.size_downLess, Tr.size_downMore, Tr.size_join, big] at *); omega))) .n)) ?_
 refine peel_seq ?_
 refine awp_ret ?_
 exact ends_ret rfl rfl rfl
theorem s_left (k v : ByteArray) (l : Tr) (k2 v2 : ByteArray) (l2 r2 : Tr) (hs : l.size + l2.size + r2.size + 1 ≤ big) : Sat Try.prog 94 [(vT (encT (Tr.node k v l (Tr.node k2 v2 l2 r2))))] [] (vT (encT (Tr.node k2 v2 (Tr.node k v l l2) r2))) [] := by
 refine sat_of_body tab_ok Try.func94 rfl (by kernel_rfl) (Nat.le_of_ble_eq_true rfl) rfl fun G => ?_
 refine awp_seq ?_
 refine rk boxes [] [0, 2] [] ⟨30, [(0, (vT (encT (Tr.node k v l (Tr.node k2 v2 l2 r2))))), (2, (sc (.pointer none)))], [], []⟩ (by kernel_rfl) .n ?_
 refine peel_seq ?_
 refine awp_seq ?_
 refine rk boxes [] [0, 2, 3] [] ⟨30, [(0, (vT (encT (Tr.node k v l (Tr.node k2 v2 l2 r2))))), (2, (sc (.pointer none))), (3, (vT (encT (Tr.node k2 v2 l2 r2))))], [], []⟩ (by kernel_rfl) .n ?_
 refine peel_seq ?_
 refine awp_seq ?_
 refine rk boxes [⟨12, false, [(sc (.func (.func 85) #[] #[])), (vT (encT l)), (.t (.agg [(cS k), (cS v)])), (vT (encT l2))], [], (vT (encT (Tr.node k v l l2))), []⟩, ⟨21, false, [(sc (.func (.func 85) #[] #[])), (vT (encT (Tr.node k v l l2))), (.t (.agg [(cS k2), (cS v2)])), (vT (encT r2))], [], (vT (encT (Tr.node k2 v2 (Tr.node k v l l2) r2))), []⟩] [2] [] ⟨30, [(2, (vT (encT (Tr.node k2 v2 (Tr.node k v l l2) r2))))], [], []⟩ (by kernel_rfl) (.c (tri_call (s_over l k v l2 (by (try simp only [Tr.size, Tr.size_downLess, Tr.size_downMore, Tr.size_join, big] at *); omega))) (.c (tri_call (s_over (Tr.node k v l l2) k2 v2 r2 (by (try simp only [Tr.size, Tr.size_downLess, Tr.size_downMore, Tr.size_join, big] at *); omega))) .n)) ?_
 refine peel_seq ?_
 refine awp_ret ?_
 exact ends_ret rfl rfl rfl
end Go.Proofs.Ytjbiaoajmdbigaa
