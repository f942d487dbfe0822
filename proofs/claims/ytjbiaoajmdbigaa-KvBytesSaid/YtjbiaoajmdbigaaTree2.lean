/- Walks of package tree: what is put to the far side of a deeper tree; join. -/
import Derived.Test.YtjbiaoajmdbigaaTree1
set_option maxRecDepth 100000
set_option linter.unusedVariables false
set_option linter.unusedSimpArgs false
namespace Go.Proofs.Ytjbiaoajmdbigaa
open Go Go.E
theorem s_downLess (l : Tr) (k v : ByteArray) (m : Tr) (hd : m.depth + 1 < l.depth) (hs : l.size + m.size + 1 ≤ big) : Sat Try.prog 91 [(vT (encT l)), (.t (.agg [(cS k), (cS v)])), (vT (encT m))] [] (vT (encT (Tr.downLess l k v m))) [] := by
 have hl := l.depth_le
 have hm := m.depth_le
 refine sat_of_body tab_ok Try.func91 rfl (by kernel_rfl) (Nat.le_of_ble_eq_true rfl) rfl fun G => ?_
 refine awp_seq ?_
 refine rk boxes [] [0, 2, 4, 6] [4] ⟨90, [(0, (vT (encT l))), (2, (vT (encT m))), (4, (vL 4 0)), (6, (sc (.pointer none)))], [(4, (.cells 81 [(cS k), (cS v)]))], []⟩ (by kernel_rfl) .n ?_
 refine peel_seq ?_
 refine awp_seq ?_
 refine awp_seq ?_
 cases l with
 | nil =>
  exfalso; (try simp only [Tr.depth] at *); omega
 | node k2 v3 l4 r5 =>
  refine rk boxes [⟨4, false, [(sc (.func (.func 90) #[] #[])), (vT (encT r5))], [], (vI (r5.depth : Int)), []⟩, ⟨6, false, [(sc (.func (.func 90) #[] #[])), (vT (encT m))], [], (vI (m.depth : Int)), []⟩, ⟨7, false, [(vI (m.depth : Int)), (vI 1)], [], (vI ((m.depth : Int) + 1)), []⟩] [0, 2, 4, 6, 18] [4] ⟨90, [(0, (vT (encT (Tr.node k2 v3 l4 r5)))), (2, (vT (encT m))), (4, (vL 4 0)), (6, (sc (.pointer none))), (18, (vB (decide ((r5.depth : Int) ≤ ((m.depth : Int) + 1)))))], [(4, (.cells 81 [(cS k), (cS v)]))], []⟩ (by kernel_rfl) (.c (tri_call (s_depth r5)) (.c (tri_call (s_depth m)) (.c (tri_int ((m.depth : Int) + 1) (wrap_i64 (by (try simp only [Tr.size, Tr.depth, big] at *); omega))) .n))) ?_
  refine peel_seq ?_
  refine awp_cond (b := (decide ((r5.depth : Int) ≤ ((m.depth : Int) + 1)))) rfl (fun hc6 => ?_) (fun hc6 => ?_)
  ·skip
   have hc6p := of_decide_eq_true hc6
   refine awp_seq ?_
   refine rk boxes [⟨6, false, [(sc (.func (.func 85) #[] #[])), (vT (encT r5)), (.t (.agg [(cS k), (cS v)])), (vT (encT m))], [], (vT (encT (Tr.node k v r5 m))), []⟩] [0, 2, 4, 6, 7] [4] ⟨90, [(0, (vT (encT (Tr.node k2 v3 l4 r5)))), (2, (vT (encT m))), (4, (vL 4 0)), (6, (sc (.pointer none))), (7, (vT (encT (Tr.node k v r5 m))))], [(4, (.cells 81 [(cS k), (cS v)]))], []⟩ (by kernel_rfl) (.c (tri_call (s_over r5 k v m (by (try simp only [Tr.size, Tr.size_downLess, Tr.size_downMore, Tr.size_join, big] at *); omega))) .n) ?_
   refine peel_seq ?_
   refine awp_seq ?_
   refine awp_seq ?_
   refine rk boxes [⟨8, false, [(sc (.func (.func 90) #[] #[])), (vT (encT l4))], [], (vI (l4.depth : Int)), []⟩, ⟨9, false, [(vI (l4.depth : Int)), (vI 1)], [], (vI ((l4.depth : Int) + 1)), []⟩] [0, 2, 4, 6, 7, 36] [4] ⟨90, [(0, (vT (encT (Tr.node k2 v3 l4 r5)))), (2, (vT (encT m))), (4, (vL 4 0)), (6, (sc (.pointer none))), (7, (vT (encT (Tr.node k v r5 m)))), (36, (vB (decide (((Tr.node k v r5 m).depth : Int) ≤ ((l4.depth : Int) + 1)))))], [(4, (.cells 81 [(cS k), (cS v)]))], []⟩ (by kernel_rfl) (.c (tri_call (s_depth l4)) (.c (tri_int ((l4.depth : Int) + 1) (wrap_i64 (by (try simp only [Tr.size, Tr.depth, big] at *); omega))) .n)) ?_
   refine peel_seq ?_
   refine awp_cond (b := (decide (((Tr.node k v r5 m).depth : Int) ≤ ((l4.depth : Int) + 1)))) rfl (fun hc7 => ?_) (fun hc7 => ?_)
   ·skip
    have hc7p := of_decide_eq_true hc7
    refine awp_seq ?_
    refine rk boxes [⟨9, false, [(sc (.func (.func 85) #[] #[])), (vT (encT l4)), (.t (.agg [(cS k2), (cS v3)])), (vT (encT (Tr.node k v r5 m)))], [], (vT (encT (Tr.node k2 v3 l4 (Tr.node k v r5 m)))), []⟩] [0, 2, 4, 6, 7] [4] ⟨90, [(0, (vT (encT (Tr.node k2 v3 l4 r5)))), (2, (vT (encT m))), (4, (vL 4 0)), (6, (vT (encT (Tr.node k2 v3 l4 (Tr.node k v r5 m))))), (7, (vT (encT (Tr.node k v r5 m))))], [(4, (.cells 81 [(cS k), (cS v)]))], []⟩ (by kernel_rfl) (.c (tri_call (s_over l4 k2 v3 (Tr.node k v r5 m) (by (try simp only [Tr.size, Tr.size_downLess, Tr.size_downMore, Tr.size_join, big] at *); omega))) .n) ?_
    refine peel_seq ?_
    refine awp_ret ?_
    refine peel_seq_ret ?_
    refine peel_seq_ret ?_
    exact ends_ret rfl (congrArg (fun t => some (SV.t (TV.c (CV.d (encT t))))) (show (Tr.node k2 v3 l4 (Tr.node k v r5 m)) = Tr.downLess (Tr.node k2 v3 l4 r5) k v m from by simp only [Tr.downLess]; (repeat' split) <;> first | rfl | (exfalso; (try simp only [Tr.depth] at *); omega))) rfl
   ·skip
    have hc7p := of_decide_eq_false hc7
    refine awp_skip ?_
    refine peel_seq ?_
    refine awp_seq ?_
    cases r5 with
    | nil =>
     exfalso; (try simp only [Tr.depth] at *); omega
    | node k9 v10 l11 r12 =>
     refine rk boxes [⟨9, false, [(sc (.func (.func 95) #[] #[])), (vT (encT (Tr.node k v (Tr.node k9 v10 l11 r12) m)))], [], (vT (encT (Tr.node k9 v10 l11 (Tr.node k v r12 m)))), []⟩, ⟨10, false, [(sc (.func (.func 85) #[] #[])), (vT (encT l4)), (.t (.agg [(cS k2), (cS v3)])), (vT (encT (Tr.node k9 v10 l11 (Tr.node k v r12 m))))], [], (vT (encT (Tr.node k2 v3 l4 (Tr.node k9 v10 l11 (Tr.node k v r12 m))))), []⟩, ⟨11, false, [(sc (.func (.func 94) #[] #[])), (vT (encT (Tr.node k2 v3 l4 (Tr.node k9 v10 l11 (Tr.node k v r12 m)))))], [], (vT (encT (Tr.node k9 v10 (Tr.node k2 v3 l4 l11) (Tr.node k v r12 m)))), []⟩] [0, 2, 4, 6] [4] ⟨90, [(0, (vT (encT (Tr.node k2 v3 l4 (Tr.node k9 v10 l11 r12))))), (2, (vT (encT m))), (4, (vL 4 0)), (6, (vT (encT (Tr.node k9 v10 (Tr.node k2 v3 l4 l11) (Tr.node k v r12 m)))))], [(4, (.cells 81 [(cS k), (cS v)]))], []⟩ (by kernel_rfl) (.c (tri_call (s_right k v k9 v10 l11 r12 m (by (try simp only [Tr.size, Tr.size_downLess, Tr.size_downMore, Tr.size_join, big] at *); omega))) (.c (tri_call (s_over l4 k2 v3 (Tr.node k9 v10 l11 (Tr.node k v r12 m)) (by (try simp only [Tr.size, Tr.size_downLess, Tr.size_downMore, Tr.size_join, big] at *); omega))) (.c (tri_call (s_left k2 v3 l4 k9 v10 l11 (Tr.node k v r12 m) (by (try simp only [Tr.size, Tr.size_downLess, Tr.size_downMore, Tr.size_join, big] at *); omega))) .n))) ?_
     refine peel_seq ?_
     refine awp_ret ?_
     refine peel_seq_ret ?_
     exact ends_ret rfl (congrArg (fun t => some (SV.t (TV.c (CV.d (encT t))))) (show (Tr.node k9 v10 (Tr.node k2 v3 l4 l11) (Tr.node k v r12 m)) = Tr.downLess (Tr.node k2 v3 l4 (Tr.node k9 v10 l11 r12)) k v m from by simp only [Tr.downLess]; (repeat' split) <;> first | rfl | (exfalso; (try simp only [Tr.depth] at *); omega))) rfl
  ·skip
   have hc6p := of_decide_eq_false hc6
   refine awp_skip ?_
   refine peel_seq ?_
   refine awp_seq ?_
   refine rk boxes [⟨6, false, [(sc (.func (.func 91) #[] #[])), (vT (encT r5)), (.t (.agg [(cS k), (cS v)])), (vT (encT m))], [], (vT (encT (Tr.downLess r5 k v m))), []⟩] [0, 6, 8] [] ⟨90, [(0, (vT (encT (Tr.node k2 v3 l4 r5)))), (6, (sc (.pointer none))), (8, (vT (encT (Tr.downLess r5 k v m))))], [], []⟩ (by kernel_rfl) (.c (tri_call (s_downLess r5 k v m (by (try simp only [Tr.depth] at *); omega) (by (try simp only [Tr.size, Tr.size_downLess, Tr.size_downMore, Tr.size_join, big] at *); omega))) .n) ?_
   refine peel_seq ?_
   refine awp_seq ?_
   refine rk boxes [⟨9, false, [(sc (.func (.func 85) #[] #[])), (vT (encT l4)), (.t (.agg [(cS k2), (cS v3)])), (vT (encT (Tr.downLess r5 k v m)))], [], (vT (encT (Tr.node k2 v3 l4 (Tr.downLess r5 k v m)))), []⟩] [0, 6, 8, 9] [] ⟨90, [(0, (vT (encT (Tr.node k2 v3 l4 r5)))), (6, (sc (.pointer none))), (8, (vT (encT (Tr.downLess r5 k v m)))), (9, (vT (encT (Tr.node k2 v3 l4 (Tr.downLess r5 k v m)))))], [], []⟩ (by kernel_rfl) (.c (tri_call (s_over l4 k2 v3 (Tr.downLess r5 k v m) (by (try simp only [Tr.size, Tr.size_downLess, Tr.size_downMore, Tr.size_join, big] at *); omega))) .n) ?_
   refine peel_seq ?_
   refine awp_seq ?_
   refine awp_seq ?_
   cases hx13 : (Tr.downLess r5 k v m) with
   | nil =>
    exact absurd hx13 (Tr.downLess_node _ _ _ _)
   | node k14 v15 l16 r17 =>
    have hx13s := congrArg Tr.size hx13
    simp only [Tr.size_downLess, Tr.size_downMore, Tr.size_join, Tr.size] at hx13s
    refine rk boxes [⟨8, false, [(sc (.func (.func 90) #[] #[])), (vT (encT l4))], [], (vI (l4.depth : Int)), []⟩, ⟨9, false, [(vI (l4.depth : Int)), (vI 1)], [], (vI ((l4.depth : Int) + 1)), []⟩] [6, 9, 86] [] ⟨90, [(6, (sc (.pointer none))), (9, (vT (encT (Tr.node k2 v3 l4 (Tr.node k14 v15 l16 r17))))), (86, (vB (decide (((Tr.node k14 v15 l16 r17).depth : Int) ≤ ((l4.depth : Int) + 1)))))], [], []⟩ (by kernel_rfl) (.c (tri_call (s_depth l4)) (.c (tri_int ((l4.depth : Int) + 1) (wrap_i64 (by (try simp only [Tr.size, Tr.depth, big] at *); omega))) .n)) ?_
    refine peel_seq ?_
    refine awp_cond (b := (decide (((Tr.node k14 v15 l16 r17).depth : Int) ≤ ((l4.depth : Int) + 1)))) rfl (fun hc18 => ?_) (fun hc18 => ?_)
    ·skip
     have hc18p := of_decide_eq_true hc18
     refine awp_seq ?_
     refine rk boxes [] [6, 9] [] ⟨90, [(6, (vT (encT (Tr.node k2 v3 l4 (Tr.node k14 v15 l16 r17))))), (9, (vT (encT (Tr.node k2 v3 l4 (Tr.node k14 v15 l16 r17)))))], [], []⟩ (by kernel_rfl) .n ?_
     refine peel_seq ?_
     refine awp_ret ?_
     refine peel_seq_ret ?_
     exact ends_ret rfl (congrArg (fun t => some (SV.t (TV.c (CV.d (encT t))))) (show (Tr.node k2 v3 l4 (Tr.node k14 v15 l16 r17)) = Tr.downLess (Tr.node k2 v3 l4 r5) k v m from by simp only [Tr.downLess, hx13]; (repeat' split) <;> first | rfl | (exfalso; (try simp only [Tr.depth] at *); omega))) rfl
    ·skip
     have hc18p := of_decide_eq_false hc18
     refine awp_skip ?_
     refine peel_seq ?_
     refine awp_seq ?_
     refine rk boxes [⟨1, false, [(sc (.func (.func 94) #[] #[])), (vT (encT (Tr.node k2 v3 l4 (Tr.node k14 v15 l16 r17))))], [], (vT (encT (Tr.node k14 v15 (Tr.node k2 v3 l4 l16) r17))), []⟩] [6] [] ⟨90, [(6, (vT (encT (Tr.node k14 v15 (Tr.node k2 v3 l4 l16) r17))))], [], []⟩ (by kernel_rfl) (.c (tri_call (s_left k2 v3 l4 k14 v15 l16 r17 (by (try simp only [Tr.size, Tr.size_downLess, Tr.size_downMore, Tr.size_join, big] at *); omega))) .n) ?_
     refine peel_seq ?_
     refine awp_ret ?_
     exact ends_ret rfl (congrArg (fun t => some (SV.t (TV.c (CV.d (encT t))))) (show (Tr.node k14 v15 (Tr.node k2 v3 l4 l16) r17) = Tr.downLess (Tr.node k2 v3 l4 r5) k v m from by simp only [Tr.downLess, hx13]; (repeat' split) <;> first | rfl | (exfalso; (try simp only [Tr.depth] at *); omega))) rfl
termination_by structural l
theorem s_downMore (l : Tr) (k v : ByteArray) (m : Tr) (hd : l.depth + 1 < m.depth) (hs : l.size + m.size + 1 ≤ big) : Sat Try.prog 92 [(vT (encT l)), (.t (.agg [(cS k), (cS v)])), (vT (encT m))] [] (vT (encT (Tr.downMore l k v m))) [] := by
 have hl := l.depth_le
 have hm := m.depth_le
 refine sat_of_body tab_ok Try.func92 rfl (by kernel_rfl) (Nat.le_of_ble_eq_true rfl) rfl fun G => ?_
 refine awp_seq ?_
 refine rk boxes [] [0, 2, 4, 6] [4] ⟨90, [(0, (vT (encT l))), (2, (vT (encT m))), (4, (vL 4 0)), (6, (sc (.pointer none)))], [(4, (.cells 81 [(cS k), (cS v)]))], []⟩ (by kernel_rfl) .n ?_
 refine peel_seq ?_
 refine awp_seq ?_
 refine awp_seq ?_
 cases m with
 | nil =>
  exfalso; (try simp only [Tr.depth] at *); omega
 | node k2 v3 l4 r5 =>
  refine rk boxes [⟨4, false, [(sc (.func (.func 90) #[] #[])), (vT (encT l4))], [], (vI (l4.depth : Int)), []⟩, ⟨6, false, [(sc (.func (.func 90) #[] #[])), (vT (encT l))], [], (vI (l.depth : Int)), []⟩, ⟨7, false, [(vI (l.depth : Int)), (vI 1)], [], (vI ((l.depth : Int) + 1)), []⟩] [0, 2, 4, 6, 18] [4] ⟨90, [(0, (vT (encT l))), (2, (vT (encT (Tr.node k2 v3 l4 r5)))), (4, (vL 4 0)), (6, (sc (.pointer none))), (18, (vB (decide ((l4.depth : Int) ≤ ((l.depth : Int) + 1)))))], [(4, (.cells 81 [(cS k), (cS v)]))], []⟩ (by kernel_rfl) (.c (tri_call (s_depth l4)) (.c (tri_call (s_depth l)) (.c (tri_int ((l.depth : Int) + 1) (wrap_i64 (by (try simp only [Tr.size, Tr.depth, big] at *); omega))) .n))) ?_
  refine peel_seq ?_
  refine awp_cond (b := (decide ((l4.depth : Int) ≤ ((l.depth : Int) + 1)))) rfl (fun hc6 => ?_) (fun hc6 => ?_)
  ·skip
   have hc6p := of_decide_eq_true hc6
   refine awp_seq ?_
   refine rk boxes [⟨6, false, [(sc (.func (.func 85) #[] #[])), (vT (encT l)), (.t (.agg [(cS k), (cS v)])), (vT (encT l4))], [], (vT (encT (Tr.node k v l l4))), []⟩] [0, 2, 4, 6, 7] [4] ⟨90, [(0, (vT (encT l))), (2, (vT (encT (Tr.node k2 v3 l4 r5)))), (4, (vL 4 0)), (6, (sc (.pointer none))), (7, (vT (encT (Tr.node k v l l4))))], [(4, (.cells 81 [(cS k), (cS v)]))], []⟩ (by kernel_rfl) (.c (tri_call (s_over l k v l4 (by (try simp only [Tr.size, Tr.size_downLess, Tr.size_downMore, Tr.size_join, big] at *); omega))) .n) ?_
   refine peel_seq ?_
   refine awp_seq ?_
   refine awp_seq ?_
   refine rk boxes [⟨8, false, [(sc (.func (.func 90) #[] #[])), (vT (encT r5))], [], (vI (r5.depth : Int)), []⟩, ⟨9, false, [(vI (r5.depth : Int)), (vI 1)], [], (vI ((r5.depth : Int) + 1)), []⟩] [0, 2, 4, 6, 7, 36] [4] ⟨90, [(0, (vT (encT l))), (2, (vT (encT (Tr.node k2 v3 l4 r5)))), (4, (vL 4 0)), (6, (sc (.pointer none))), (7, (vT (encT (Tr.node k v l l4)))), (36, (vB (decide (((Tr.node k v l l4).depth : Int) ≤ ((r5.depth : Int) + 1)))))], [(4, (.cells 81 [(cS k), (cS v)]))], []⟩ (by kernel_rfl) (.c (tri_call (s_depth r5)) (.c (tri_int ((r5.depth : Int) + 1) (wrap_i64 (by (try simp only [Tr.size, Tr.depth, big] at *); omega))) .n)) ?_
   refine peel_seq ?_
   refine awp_cond (b := (decide (((Tr.node k v l l4).depth : Int) ≤ ((r5.depth : Int) + 1)))) rfl (fun hc7 => ?_) (fun hc7 => ?_)
   ·skip
    have hc7p := of_decide_eq_true hc7
    refine awp_seq ?_
    refine rk boxes [⟨9, false, [(sc (.func (.func 85) #[] #[])), (vT (encT (Tr.node k v l l4))), (.t (.agg [(cS k2), (cS v3)])), (vT (encT r5))], [], (vT (encT (Tr.node k2 v3 (Tr.node k v l l4) r5))), []⟩] [0, 2, 4, 6, 7] [4] ⟨90, [(0, (vT (encT l))), (2, (vT (encT (Tr.node k2 v3 l4 r5)))), (4, (vL 4 0)), (6, (vT (encT (Tr.node k2 v3 (Tr.node k v l l4) r5)))), (7, (vT (encT (Tr.node k v l l4))))], [(4, (.cells 81 [(cS k), (cS v)]))], []⟩ (by kernel_rfl) (.c (tri_call (s_over (Tr.node k v l l4) k2 v3 r5 (by (try simp only [Tr.size, Tr.size_downLess, Tr.size_downMore, Tr.size_join, big] at *); omega))) .n) ?_
    refine peel_seq ?_
    refine awp_ret ?_
    refine peel_seq_ret ?_
    refine peel_seq_ret ?_
    exact ends_ret rfl (congrArg (fun t => some (SV.t (TV.c (CV.d (encT t))))) (show (Tr.node k2 v3 (Tr.node k v l l4) r5) = Tr.downMore l k v (Tr.node k2 v3 l4 r5) from by simp only [Tr.downMore]; (repeat' split) <;> first | rfl | (exfalso; (try simp only [Tr.depth] at *); omega))) rfl
   ·skip
    have hc7p := of_decide_eq_false hc7
    refine awp_skip ?_
    refine peel_seq ?_
    refine awp_seq ?_
    cases l4 with
    | nil =>
     exfalso; (try simp only [Tr.depth] at *); omega
    | node k9 v10 l11 r12 =>
     refine rk boxes [⟨1, false, [(sc (.func (.func 94) #[] #[])), (vT (encT (Tr.node k v l (Tr.node k9 v10 l11 r12))))], [], (vT (encT (Tr.node k9 v10 (Tr.node k v l l11) r12))), []⟩, ⟨10, false, [(sc (.func (.func 85) #[] #[])), (vT (encT (Tr.node k9 v10 (Tr.node k v l l11) r12))), (.t (.agg [(cS k2), (cS v3)])), (vT (encT r5))], [], (vT (encT (Tr.node k2 v3 (Tr.node k9 v10 (Tr.node k v l l11) r12) r5))), []⟩, ⟨11, false, [(sc (.func (.func 95) #[] #[])), (vT (encT (Tr.node k2 v3 (Tr.node k9 v10 (Tr.node k v l l11) r12) r5)))], [], (vT (encT (Tr.node k9 v10 (Tr.node k v l l11) (Tr.node k2 v3 r12 r5)))), []⟩] [0, 2, 4, 6] [4] ⟨90, [(0, (vT (encT l))), (2, (vT (encT (Tr.node k2 v3 (Tr.node k9 v10 l11 r12) r5)))), (4, (vL 4 0)), (6, (vT (encT (Tr.node k9 v10 (Tr.node k v l l11) (Tr.node k2 v3 r12 r5)))))], [(4, (.cells 81 [(cS k), (cS v)]))], []⟩ (by kernel_rfl) (.c (tri_call (s_left k v l k9 v10 l11 r12 (by (try simp only [Tr.size, Tr.size_downLess, Tr.size_downMore, Tr.size_join, big] at *); omega))) (.c (tri_call (s_over (Tr.node k9 v10 (Tr.node k v l l11) r12) k2 v3 r5 (by (try simp only [Tr.size, Tr.size_downLess, Tr.size_downMore, Tr.size_join, big] at *); omega))) (.c (tri_call (s_right k2 v3 k9 v10 (Tr.node k v l l11) r12 r5 (by (try simp only [Tr.size, Tr.size_downLess, Tr.size_downMore, Tr.size_join, big] at *); omega))) .n))) ?_
     refine peel_seq ?_
     refine awp_ret ?_
     refine peel_seq_ret ?_
     exact ends_ret rfl (congrArg (fun t => some (SV.t (TV.c (CV.d (encT t))))) (show (Tr.node k9 v10 (Tr.node k v l l11) (Tr.node k2 v3 r12 r5)) = Tr.downMore l k v (Tr.node k2 v3 (Tr.node k9 v10 l11 r12) r5) from by simp only [Tr.downMore]; (repeat' split) <;> first | rfl | (exfalso; (try simp only [Tr.depth] at *); omega))) rfl
  ·skip
   have hc6p := of_decide_eq_false hc6
   refine awp_skip ?_
   refine peel_seq ?_
   refine awp_seq ?_
   refine rk boxes [⟨6, false, [(sc (.func (.func 92) #[] #[])), (vT (encT l)), (.t (.agg [(cS k), (cS v)])), (vT (encT l4))], [], (vT (encT (Tr.downMore l k v l4))), []⟩] [2, 6, 8] [] ⟨90, [(2, (vT (encT (Tr.node k2 v3 l4 r5)))), (6, (sc (.pointer none))), (8, (vT (encT (Tr.downMore l k v l4))))], [], []⟩ (by kernel_rfl) (.c (tri_call (s_downMore l k v l4 (by (try simp only [Tr.depth] at *); omega) (by (try simp only [Tr.size, Tr.size_downLess, Tr.size_downMore, Tr.size_join, big] at *); omega))) .n) ?_
   refine peel_seq ?_
   refine awp_seq ?_
   refine rk boxes [⟨9, false, [(sc (.func (.func 85) #[] #[])), (vT (encT (Tr.downMore l k v l4))), (.t (.agg [(cS k2), (cS v3)])), (vT (encT r5))], [], (vT (encT (Tr.node k2 v3 (Tr.downMore l k v l4) r5))), []⟩] [2, 6, 8, 9] [] ⟨90, [(2, (vT (encT (Tr.node k2 v3 l4 r5)))), (6, (sc (.pointer none))), (8, (vT (encT (Tr.downMore l k v l4)))), (9, (vT (encT (Tr.node k2 v3 (Tr.downMore l k v l4) r5))))], [], []⟩ (by kernel_rfl) (.c (tri_call (s_over (Tr.downMore l k v l4) k2 v3 r5 (by (try simp only [Tr.size, Tr.size_downLess, Tr.size_downMore, Tr.size_join, big] at *); omega))) .n) ?_
   refine peel_seq ?_
   refine awp_seq ?_
   refine awp_seq ?_
   cases hx13 : (Tr.downMore l k v l4) with
   | nil =>
    exact absurd hx13 (Tr.downMore_node _ _ _ _)
   | node k14 v15 l16 r17 =>
    have hx13s := congrArg Tr.size hx13
    simp only [Tr.size_downLess, Tr.size_downMore, Tr.size_join, Tr.size] at hx13s
    refine rk boxes [⟨8, false, [(sc (.func (.func 90) #[] #[])), (vT (encT r5))], [], (vI (r5.depth : Int)), []⟩, ⟨9, false, [(vI (r5.depth : Int)), (vI 1)], [], (vI ((r5.depth : Int) + 1)), []⟩] [6, 9, 86] [] ⟨90, [(6, (sc (.pointer none))), (9, (vT (encT (Tr.node k2 v3 (Tr.node k14 v15 l16 r17) r5)))), (86, (vB (decide (((Tr.node k14 v15 l16 r17).depth : Int) ≤ ((r5.depth : Int) + 1)))))], [], []⟩ (by kernel_rfl) (.c (tri_call (s_depth r5)) (.c (tri_int ((r5.depth : Int) + 1) (wrap_i64 (by (try simp only [Tr.size, Tr.depth, big] at *); omega))) .n)) ?_
    refine peel_seq ?_
    refine awp_cond (b := (decide (((Tr.node k14 v15 l16 r17).depth : Int) ≤ ((r5.depth : Int) + 1)))) rfl (fun hc18 => ?_) (fun hc18 => ?_)
    ·skip
     have hc18p := of_decide_eq_true hc18
     refine awp_seq ?_
     refine rk boxes [] [6, 9] [] ⟨90, [(6, (vT (encT (Tr.node k2 v3 (Tr.node k14 v15 l16 r17) r5)))), (9, (vT (encT (Tr.node k2 v3 (Tr.node k14 v15 l16 r17) r5))))], [], []⟩ (by kernel_rfl) .n ?_
     refine peel_seq ?_
     refine awp_ret ?_
     refine peel_seq_ret ?_
     exact ends_ret rfl (congrArg (fun t => some (SV.t (TV.c (CV.d (encT t))))) (show (Tr.node k2 v3 (Tr.node k14 v15 l16 r17) r5) = Tr.downMore l k v (Tr.node k2 v3 l4 r5) from by simp only [Tr.downMore, hx13]; (repeat' split) <;> first | rfl | (exfalso; (try simp only [Tr.depth] at *); omega))) rfl
    ·skip
     have hc18p := of_decide_eq_false hc18
     refine awp_skip ?_
     refine peel_seq ?_
     refine awp_seq ?_
     refine rk boxes [⟨1, false, [(sc (.func (.func 95) #[] #[])), (vT (encT (Tr.node k2 v3 (Tr.node k14 v15 l16 r17) r5)))], [], (vT (encT (Tr.node k14 v15 l16 (Tr.node k2 v3 r17 r5)))), []⟩] [6] [] ⟨90, [(6, (vT (encT (Tr.node k14 v15 l16 (Tr.node k2 v3 r17 r5)))))], [], []⟩ (by kernel_rfl) (.c (tri_call (s_right k2 v3 k14 v15 l16 r17 r5 (by (try simp only [Tr.size, Tr.size_downLess, Tr.size_downMore, Tr.size_join, big] at *); omega))) .n) ?_
     refine peel_seq ?_
     refine awp_ret ?_
     exact ends_ret rfl (congrArg (fun t => some (SV.t (TV.c (CV.d (encT t))))) (show (Tr.node k14 v15 l16 (Tr.node k2 v3 r17 r5)) = Tr.downMore l k v (Tr.node k2 v3 l4 r5) from by simp only [Tr.downMore, hx13]; (repeat' split) <;> first | rfl | (exfalso; (try simp only [Tr.depth] at *); omega))) rfl
termination_by structural m
theorem s_join (l : Tr) (k v : ByteArray) (m : Tr) (hs : l.size + m.size + 1 ≤ big) : Sat Try.prog 86 [(vT (encT l)), (.t (.agg [(cS k), (cS v)])), (vT (encT m))] [] (vT (encT (Tr.join l k v m))) [] := by
 have hl := l.depth_le
 have hm := m.depth_le
 refine sat_of_body tab_ok Try.func86 rfl (by kernel_rfl) (Nat.le_of_ble_eq_true rfl) rfl fun G => ?_
 refine awp_seq ?_
 refine rk boxes [] [0, 2, 4, 6] [4] ⟨33, [(0, (vT (encT l))), (2, (vT (encT m))), (4, (vL 4 0)), (6, (sc (.pointer none)))], [(4, (.cells 81 [(cS k), (cS v)]))], []⟩ (by kernel_rfl) .n ?_
 refine peel_seq ?_
 refine awp_seq ?_
 refine awp_block ?_
 refine awp_seq ?_
 refine rk boxes [⟨1, false, [(sc (.func (.func 90) #[] #[])), (vT (encT l))], [], (vI (l.depth : Int)), []⟩, ⟨3, false, [(sc (.func (.func 90) #[] #[])), (vT (encT m))], [], (vI (m.depth : Int)), []⟩, ⟨4, false, [(vI (m.depth : Int)), (vI 1)], [], (vI ((m.depth : Int) + 1)), []⟩] [0, 2, 4, 6, 7] [4] ⟨33, [(0, (vT (encT l))), (2, (vT (encT m))), (4, (vL 4 0)), (6, (sc (.pointer none))), (7, (vB (decide ((l.depth : Int) > ((m.depth : Int) + 1)))))], [(4, (.cells 81 [(cS k), (cS v)]))], []⟩ (by kernel_rfl) (.c (tri_call (s_depth l)) (.c (tri_call (s_depth m)) (.c (tri_int ((m.depth : Int) + 1) (wrap_i64 (by (try simp only [big] at *); omega))) .n))) ?_
 refine peel_seq ?_
 refine awp_cond (b := (decide ((l.depth : Int) > ((m.depth : Int) + 1)))) rfl (fun hc1 => ?_) (fun hc1 => ?_)
 ·skip
  have hc1p := of_decide_eq_true hc1
  refine awp_seq ?_
  refine rk boxes [⟨3, false, [(sc (.func (.func 91) #[] #[])), (vT (encT l)), (.t (.agg [(cS k), (cS v)])), (vT (encT m))], [], (vT (encT (Tr.downLess l k v m))), []⟩] [0, 2, 4, 6] [4] ⟨33, [(0, (vT (encT l))), (2, (vT (encT m))), (4, (vL 4 0)), (6, (vT (encT (Tr.downLess l k v m))))], [(4, (.cells 81 [(cS k), (cS v)]))], []⟩ (by kernel_rfl) (.c (tri_call (s_downLess l k v m (by (try simp only [Tr.depth] at *); omega) (by (try simp only [Tr.size, Tr.size_downLess, Tr.size_downMore, Tr.size_join, big] at *); omega))) .n) ?_
  refine peel_seq ?_
  refine awp_ret ?_
  refine peel_block_ret ?_
  refine peel_seq_ret ?_
  exact ends_ret rfl (congrArg (fun t => some (SV.t (TV.c (CV.d (encT t))))) (show (Tr.downLess l k v m) = Tr.join l k v m from by simp only [Tr.join]; (repeat' split) <;> first | rfl | (exfalso; omega))) rfl
 ·skip
  have hc1p := of_decide_eq_false hc1
  refine awp_seq ?_
  refine rk boxes [⟨1, false, [(sc (.func (.func 90) #[] #[])), (vT (encT m))], [], (vI (m.depth : Int)), []⟩, ⟨3, false, [(sc (.func (.func 90) #[] #[])), (vT (encT l))], [], (vI (l.depth : Int)), []⟩, ⟨4, false, [(vI (l.depth : Int)), (vI 1)], [], (vI ((l.depth : Int) + 1)), []⟩] [0, 2, 4, 6, 18] [4] ⟨33, [(0, (vT (encT l))), (2, (vT (encT m))), (4, (vL 4 0)), (6, (sc (.pointer none))), (18, (vB (decide ((m.depth : Int) > ((l.depth : Int) + 1)))))], [(4, (.cells 81 [(cS k), (cS v)]))], []⟩ (by kernel_rfl) (.c (tri_call (s_depth m)) (.c (tri_call (s_depth l)) (.c (tri_int ((l.depth : Int) + 1) (wrap_i64 (by (try simp only [big] at *); omega))) .n))) ?_
  refine peel_seq ?_
  refine awp_cond (b := (decide ((m.depth : Int) > ((l.depth : Int) + 1)))) rfl (fun hc2 => ?_) (fun hc2 => ?_)
  ·skip
   have hc2p := of_decide_eq_true hc2
   refine awp_seq ?_
   refine rk boxes [⟨3, false, [(sc (.func (.func 92) #[] #[])), (vT (encT l)), (.t (.agg [(cS k), (cS v)])), (vT (encT m))], [], (vT (encT (Tr.downMore l k v m))), []⟩] [0, 2, 4, 6] [4] ⟨33, [(0, (vT (encT l))), (2, (vT (encT m))), (4, (vL 4 0)), (6, (vT (encT (Tr.downMore l k v m))))], [(4, (.cells 81 [(cS k), (cS v)]))], []⟩ (by kernel_rfl) (.c (tri_call (s_downMore l k v m (by (try simp only [Tr.depth] at *); omega) (by (try simp only [Tr.size, Tr.size_downLess, Tr.size_downMore, Tr.size_join, big] at *); omega))) .n) ?_
   refine peel_seq ?_
   refine awp_ret ?_
   refine peel_block_ret ?_
   refine peel_seq_ret ?_
   exact ends_ret rfl (congrArg (fun t => some (SV.t (TV.c (CV.d (encT t))))) (show (Tr.downMore l k v m) = Tr.join l k v m from by simp only [Tr.join]; (repeat' split) <;> first | rfl | (exfalso; omega))) rfl
  ·skip
   have hc2p := of_decide_eq_false hc2
   refine q_keep [0, 2, 4, 6] [4] ?_
   refine awp_skip ?_
   refine peel_block ?_
   refine peel_seq ?_
   refine awp_seq ?_
   refine rk boxes [⟨3, false, [(sc (.func (.func 85) #[] #[])), (vT (encT l)), (.t (.agg [(cS k), (cS v)])), (vT (encT m))], [], (vT (encT (Tr.node k v l m))), []⟩] [6] [] ⟨33, [(6, (vT (encT (Tr.node k v l m))))], [], []⟩ (by kernel_rfl) (.c (tri_call (s_over l k v m (by (try simp only [Tr.size, Tr.size_downLess, Tr.size_downMore, Tr.size_join, big] at *); omega))) .n) ?_
   refine peel_seq ?_
   refine awp_ret ?_
   exact ends_ret rfl (congrArg (fun t => some (SV.t (TV.c (CV.d (encT t))))) (show (Tr.node k v l m) = Tr.join l k v m from by simp only [Tr.join]; (repeat' split) <;> first | rfl | (exfalso; omega))) rfl
end Go.Proofs.Ytjbiaoajmdbigaa
