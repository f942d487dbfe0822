/- Walks of package tree: what is put to the far side of a deeper tree; join. -/
import Derived.Test.YtjbiaoajmdbigaaTree1
set_option maxRecDepth 100000
set_option linter.unusedVariables false
set_option linter.unusedSimpArgs false
namespace Go.Proofs.Ytjbiaoajmdbigaa
open Go Go.E
theorem s_downLess (l : Tr) (k v : ByteArray) (m : Tr) (hd : m.depth + 1 < l.depth) (hs : l.size + m.size + 1 ≤ big) : Sat Try.prog 91 [(.t (.c (.d (encT l)))), (.t (.agg [(.d (.v (.string k))), (.d (.v (.string v)))])), (.t (.c (.d (encT m))))] [] (.t (.c (.d (encT (Tr.downLess l k v m))))) [] := by
  have hl := l.depth_le
  have hm := m.depth_le
  refine sat_of_body tab_ok Try.func91 rfl (by kernel_rfl) (Nat.le_of_ble_eq_true rfl) rfl fun G => ?_
  refine awp_seq ?_
  refine awp_region_keep tab_ok boxes [] [0, 2, 4, 6] [4] ⟨90, [(0, (.t (.c (.d (encT l))))), (2, (.t (.c (.d (encT m))))), (4, (.t (.c (.loc 4 0)))), (6, (sc (.pointer none)))], [(4, (.cells 81 [(.d (.v (.string k))), (.d (.v (.string v)))]))], []⟩ [] mixed (by kernel_rfl) trivial ?_
  refine peel_seq ?_
  refine awp_seq ?_
  refine awp_seq ?_
  cases l with
  | nil =>
    exfalso; (try simp only [Tr.depth] at *); omega
  | node k2 v3 l4 r5 =>
    refine awp_region_keep tab_ok boxes [(4, ⟨[], (sc (.int .i64 (r5.depth : Int))), some []⟩), (6, ⟨[], (sc (.int .i64 (m.depth : Int))), some []⟩), (7, ⟨[], (sc (.int .i64 ((m.depth : Int) + 1))), some []⟩)] [0, 2, 4, 6, 18] [4] ⟨90, [(0, (.t (.c (.d (encT (Tr.node k2 v3 l4 r5)))))), (2, (.t (.c (.d (encT m))))), (4, (.t (.c (.loc 4 0)))), (6, (sc (.pointer none))), (18, (sc (.bool (decide ((r5.depth : Int) ≤ ((m.depth : Int) + 1))))))], [(4, (.cells 81 [(.d (.v (.string k))), (.d (.v (.string v)))]))], []⟩ [⟨(Go.Op.call (Go.Call.mk (Go.Callee.value (Go.Operand.func 90)) #[(Go.Operand.tmp 13)] #[98])), 3, [(sc (.func (.func 90) #[] #[])), (.t (.c (.d (encT r5))))], [], (sc (.int .i64 (r5.depth : Int))), []⟩, ⟨(Go.Op.call (Go.Call.mk (Go.Callee.value (Go.Operand.func 90)) #[(Go.Operand.tmp 15)] #[98])), 3, [(sc (.func (.func 90) #[] #[])), (.t (.c (.d (encT m))))], [], (sc (.int .i64 (m.depth : Int))), []⟩, ⟨(Go.Op.binOp Go.BinOp.add 3 (Go.Operand.tmp 16) (Go.Operand.const (Go.Value.int Go.IntKind.i64 1)) 3), 3, [(sc (.int .i64 (m.depth : Int))), (sc (.int .i64 1))], [], (sc (.int .i64 ((m.depth : Int) + 1))), []⟩] mixed (by kernel_rfl) ⟨tri_call (s_depth r5), tri_call (s_depth m), tri_int ((m.depth : Int) + 1) (wrap_i64 (by (try simp only [Tr.size, Tr.depth, big] at *); omega)), trivial⟩ ?_
    refine peel_seq ?_
    refine awp_cond (b := (decide ((r5.depth : Int) ≤ ((m.depth : Int) + 1)))) rfl (fun hc6 => ?_) (fun hc6 => ?_)
    · skip
      have hc6p := of_decide_eq_true hc6
      refine awp_seq ?_
      refine awp_region_keep tab_ok boxes [(6, ⟨[], (.t (.c (.d (encT (Tr.node k v r5 m))))), some []⟩)] [0, 2, 4, 6, 7] [4] ⟨90, [(0, (.t (.c (.d (encT (Tr.node k2 v3 l4 r5)))))), (2, (.t (.c (.d (encT m))))), (4, (.t (.c (.loc 4 0)))), (6, (sc (.pointer none))), (7, (.t (.c (.d (encT (Tr.node k v r5 m))))))], [(4, (.cells 81 [(.d (.v (.string k))), (.d (.v (.string v)))]))], []⟩ [⟨(Go.Op.call (Go.Call.mk (Go.Callee.value (Go.Operand.func 85)) #[(Go.Operand.tmp 22), (Go.Operand.tmp 23), (Go.Operand.tmp 24)] #[98, 81, 98])), 98, [(sc (.func (.func 85) #[] #[])), (.t (.c (.d (encT r5)))), (.t (.agg [(.d (.v (.string k))), (.d (.v (.string v)))])), (.t (.c (.d (encT m))))], [], (.t (.c (.d (encT (Tr.node k v r5 m))))), []⟩] mixed (by kernel_rfl) ⟨tri_call (s_over r5 k v m (by (try simp only [Tr.size, Tr.size_downLess, Tr.size_downMore, Tr.size_join, big] at *); omega)), trivial⟩ ?_
      refine peel_seq ?_
      refine awp_seq ?_
      refine awp_seq ?_
      refine awp_region_keep tab_ok boxes [(8, ⟨[], (sc (.int .i64 (l4.depth : Int))), some []⟩), (9, ⟨[], (sc (.int .i64 ((l4.depth : Int) + 1))), some []⟩)] [0, 2, 4, 6, 7, 36] [4] ⟨90, [(0, (.t (.c (.d (encT (Tr.node k2 v3 l4 r5)))))), (2, (.t (.c (.d (encT m))))), (4, (.t (.c (.loc 4 0)))), (6, (sc (.pointer none))), (7, (.t (.c (.d (encT (Tr.node k v r5 m)))))), (36, (sc (.bool (decide (((Tr.node k v r5 m).depth : Int) ≤ ((l4.depth : Int) + 1))))))], [(4, (.cells 81 [(.d (.v (.string k))), (.d (.v (.string v)))]))], []⟩ [⟨(Go.Op.call (Go.Call.mk (Go.Callee.value (Go.Operand.func 90)) #[(Go.Operand.tmp 33)] #[98])), 3, [(sc (.func (.func 90) #[] #[])), (.t (.c (.d (encT l4))))], [], (sc (.int .i64 (l4.depth : Int))), []⟩, ⟨(Go.Op.binOp Go.BinOp.add 3 (Go.Operand.tmp 34) (Go.Operand.const (Go.Value.int Go.IntKind.i64 1)) 3), 3, [(sc (.int .i64 (l4.depth : Int))), (sc (.int .i64 1))], [], (sc (.int .i64 ((l4.depth : Int) + 1))), []⟩] mixed (by kernel_rfl) ⟨tri_call (s_depth l4), tri_int ((l4.depth : Int) + 1) (wrap_i64 (by (try simp only [Tr.size, Tr.depth, big] at *); omega)), trivial⟩ ?_
      refine peel_seq ?_
      refine awp_cond (b := (decide (((Tr.node k v r5 m).depth : Int) ≤ ((l4.depth : Int) + 1)))) rfl (fun hc7 => ?_) (fun hc7 => ?_)
      · skip
        have hc7p := of_decide_eq_true hc7
        refine awp_seq ?_
        refine awp_region_keep tab_ok boxes [(9, ⟨[], (.t (.c (.d (encT (Tr.node k2 v3 l4 (Tr.node k v r5 m)))))), some []⟩)] [0, 2, 4, 6, 7] [4] ⟨90, [(0, (.t (.c (.d (encT (Tr.node k2 v3 l4 r5)))))), (2, (.t (.c (.d (encT m))))), (4, (.t (.c (.loc 4 0)))), (6, (.t (.c (.d (encT (Tr.node k2 v3 l4 (Tr.node k v r5 m))))))), (7, (.t (.c (.d (encT (Tr.node k v r5 m))))))], [(4, (.cells 81 [(.d (.v (.string k))), (.d (.v (.string v)))]))], []⟩ [⟨(Go.Op.call (Go.Call.mk (Go.Callee.value (Go.Operand.func 85)) #[(Go.Operand.tmp 40), (Go.Operand.tmp 44), (Go.Operand.tmp 45)] #[98, 81, 98])), 98, [(sc (.func (.func 85) #[] #[])), (.t (.c (.d (encT l4)))), (.t (.agg [(.d (.v (.string k2))), (.d (.v (.string v3)))])), (.t (.c (.d (encT (Tr.node k v r5 m)))))], [], (.t (.c (.d (encT (Tr.node k2 v3 l4 (Tr.node k v r5 m)))))), []⟩] mixed (by kernel_rfl) ⟨tri_call (s_over l4 k2 v3 (Tr.node k v r5 m) (by (try simp only [Tr.size, Tr.size_downLess, Tr.size_downMore, Tr.size_join, big] at *); omega)), trivial⟩ ?_
        refine peel_seq ?_
        refine awp_ret ?_
        refine peel_seq_ret ?_
        refine peel_seq_ret ?_
        exact ends_ret rfl (congrArg (fun t => some (SV.t (TV.c (CV.d (encT t))))) (show (Tr.node k2 v3 l4 (Tr.node k v r5 m)) = Tr.downLess (Tr.node k2 v3 l4 r5) k v m from by simp only [Tr.downLess]; (repeat' split) <;> first | rfl | (exfalso; (try simp only [Tr.depth] at *); omega))) rfl
      · skip
        have hc7p := of_decide_eq_false hc7
        refine awp_skip ?_
        refine peel_seq ?_
        refine awp_seq ?_
        cases r5 with
        | nil =>
          exfalso; (try simp only [Tr.depth] at *); omega
        | node k9 v10 l11 r12 =>
          refine awp_region_keep tab_ok boxes [(9, ⟨[], (.t (.c (.d (encT (Tr.node k9 v10 l11 (Tr.node k v r12 m)))))), some []⟩), (10, ⟨[], (.t (.c (.d (encT (Tr.node k2 v3 l4 (Tr.node k9 v10 l11 (Tr.node k v r12 m))))))), some []⟩), (11, ⟨[], (.t (.c (.d (encT (Tr.node k9 v10 (Tr.node k2 v3 l4 l11) (Tr.node k v r12 m)))))), some []⟩)] [0, 2, 4, 6] [4] ⟨90, [(0, (.t (.c (.d (encT (Tr.node k2 v3 l4 (Tr.node k9 v10 l11 r12))))))), (2, (.t (.c (.d (encT m))))), (4, (.t (.c (.loc 4 0)))), (6, (.t (.c (.d (encT (Tr.node k9 v10 (Tr.node k2 v3 l4 l11) (Tr.node k v r12 m)))))))], [(4, (.cells 81 [(.d (.v (.string k))), (.d (.v (.string v)))]))], []⟩ [⟨(Go.Op.call (Go.Call.mk (Go.Callee.value (Go.Operand.func 95)) #[(Go.Operand.tmp 55)] #[98])), 98, [(sc (.func (.func 95) #[] #[])), (.t (.c (.d (encT (Tr.node k v (Tr.node k9 v10 l11 r12) m)))))], [], (.t (.c (.d (encT (Tr.node k9 v10 l11 (Tr.node k v r12 m)))))), []⟩, ⟨(Go.Op.call (Go.Call.mk (Go.Callee.value (Go.Operand.func 85)) #[(Go.Operand.tmp 50), (Go.Operand.tmp 54), (Go.Operand.tmp 56)] #[98, 81, 98])), 98, [(sc (.func (.func 85) #[] #[])), (.t (.c (.d (encT l4)))), (.t (.agg [(.d (.v (.string k2))), (.d (.v (.string v3)))])), (.t (.c (.d (encT (Tr.node k9 v10 l11 (Tr.node k v r12 m))))))], [], (.t (.c (.d (encT (Tr.node k2 v3 l4 (Tr.node k9 v10 l11 (Tr.node k v r12 m))))))), []⟩, ⟨(Go.Op.call (Go.Call.mk (Go.Callee.value (Go.Operand.func 94)) #[(Go.Operand.tmp 57)] #[98])), 98, [(sc (.func (.func 94) #[] #[])), (.t (.c (.d (encT (Tr.node k2 v3 l4 (Tr.node k9 v10 l11 (Tr.node k v r12 m)))))))], [], (.t (.c (.d (encT (Tr.node k9 v10 (Tr.node k2 v3 l4 l11) (Tr.node k v r12 m)))))), []⟩] mixed (by kernel_rfl) ⟨tri_call (s_right k v k9 v10 l11 r12 m (by (try simp only [Tr.size, Tr.size_downLess, Tr.size_downMore, Tr.size_join, big] at *); omega)), tri_call (s_over l4 k2 v3 (Tr.node k9 v10 l11 (Tr.node k v r12 m)) (by (try simp only [Tr.size, Tr.size_downLess, Tr.size_downMore, Tr.size_join, big] at *); omega)), tri_call (s_left k2 v3 l4 k9 v10 l11 (Tr.node k v r12 m) (by (try simp only [Tr.size, Tr.size_downLess, Tr.size_downMore, Tr.size_join, big] at *); omega)), trivial⟩ ?_
          refine peel_seq ?_
          refine awp_ret ?_
          refine peel_seq_ret ?_
          exact ends_ret rfl (congrArg (fun t => some (SV.t (TV.c (CV.d (encT t))))) (show (Tr.node k9 v10 (Tr.node k2 v3 l4 l11) (Tr.node k v r12 m)) = Tr.downLess (Tr.node k2 v3 l4 (Tr.node k9 v10 l11 r12)) k v m from by simp only [Tr.downLess]; (repeat' split) <;> first | rfl | (exfalso; (try simp only [Tr.depth] at *); omega))) rfl
    · skip
      have hc6p := of_decide_eq_false hc6
      refine awp_skip ?_
      refine peel_seq ?_
      refine awp_seq ?_
      refine awp_region_keep tab_ok boxes [(6, ⟨[], (.t (.c (.d (encT (Tr.downLess r5 k v m))))), some []⟩)] [0, 6, 8] [] ⟨90, [(0, (.t (.c (.d (encT (Tr.node k2 v3 l4 r5)))))), (6, (sc (.pointer none))), (8, (.t (.c (.d (encT (Tr.downLess r5 k v m))))))], [], []⟩ [⟨(Go.Op.call (Go.Call.mk (Go.Callee.value (Go.Operand.func 91)) #[(Go.Operand.tmp 62), (Go.Operand.tmp 63), (Go.Operand.tmp 64)] #[98, 81, 98])), 98, [(sc (.func (.func 91) #[] #[])), (.t (.c (.d (encT r5)))), (.t (.agg [(.d (.v (.string k))), (.d (.v (.string v)))])), (.t (.c (.d (encT m))))], [], (.t (.c (.d (encT (Tr.downLess r5 k v m))))), []⟩] mixed (by kernel_rfl) ⟨tri_call (s_downLess r5 k v m (by (try simp only [Tr.depth] at *); omega) (by (try simp only [Tr.size, Tr.size_downLess, Tr.size_downMore, Tr.size_join, big] at *); omega)), trivial⟩ ?_
      refine peel_seq ?_
      refine awp_seq ?_
      refine awp_region_keep tab_ok boxes [(9, ⟨[], (.t (.c (.d (encT (Tr.node k2 v3 l4 (Tr.downLess r5 k v m)))))), some []⟩)] [0, 6, 8, 9] [] ⟨90, [(0, (.t (.c (.d (encT (Tr.node k2 v3 l4 r5)))))), (6, (sc (.pointer none))), (8, (.t (.c (.d (encT (Tr.downLess r5 k v m)))))), (9, (.t (.c (.d (encT (Tr.node k2 v3 l4 (Tr.downLess r5 k v m)))))))], [], []⟩ [⟨(Go.Op.call (Go.Call.mk (Go.Callee.value (Go.Operand.func 85)) #[(Go.Operand.tmp 69), (Go.Operand.tmp 73), (Go.Operand.tmp 74)] #[98, 81, 98])), 98, [(sc (.func (.func 85) #[] #[])), (.t (.c (.d (encT l4)))), (.t (.agg [(.d (.v (.string k2))), (.d (.v (.string v3)))])), (.t (.c (.d (encT (Tr.downLess r5 k v m)))))], [], (.t (.c (.d (encT (Tr.node k2 v3 l4 (Tr.downLess r5 k v m)))))), []⟩] mixed (by kernel_rfl) ⟨tri_call (s_over l4 k2 v3 (Tr.downLess r5 k v m) (by (try simp only [Tr.size, Tr.size_downLess, Tr.size_downMore, Tr.size_join, big] at *); omega)), trivial⟩ ?_
      refine peel_seq ?_
      refine awp_seq ?_
      refine awp_seq ?_
      cases hx13 : (Tr.downLess r5 k v m) with
      | nil =>
        exact absurd hx13 (Tr.downLess_node _ _ _ _)
      | node k14 v15 l16 r17 =>
        have hx13s := congrArg Tr.size hx13
        simp only [Tr.size_downLess, Tr.size_downMore, Tr.size_join, Tr.size] at hx13s
        refine awp_region_keep tab_ok boxes [(8, ⟨[], (sc (.int .i64 (l4.depth : Int))), some []⟩), (9, ⟨[], (sc (.int .i64 ((l4.depth : Int) + 1))), some []⟩)] [6, 9, 86] [] ⟨90, [(6, (sc (.pointer none))), (9, (.t (.c (.d (encT (Tr.node k2 v3 l4 (Tr.node k14 v15 l16 r17))))))), (86, (sc (.bool (decide (((Tr.node k14 v15 l16 r17).depth : Int) ≤ ((l4.depth : Int) + 1))))))], [], []⟩ [⟨(Go.Op.call (Go.Call.mk (Go.Callee.value (Go.Operand.func 90)) #[(Go.Operand.tmp 83)] #[98])), 3, [(sc (.func (.func 90) #[] #[])), (.t (.c (.d (encT l4))))], [], (sc (.int .i64 (l4.depth : Int))), []⟩, ⟨(Go.Op.binOp Go.BinOp.add 3 (Go.Operand.tmp 84) (Go.Operand.const (Go.Value.int Go.IntKind.i64 1)) 3), 3, [(sc (.int .i64 (l4.depth : Int))), (sc (.int .i64 1))], [], (sc (.int .i64 ((l4.depth : Int) + 1))), []⟩] mixed (by kernel_rfl) ⟨tri_call (s_depth l4), tri_int ((l4.depth : Int) + 1) (wrap_i64 (by (try simp only [Tr.size, Tr.depth, big] at *); omega)), trivial⟩ ?_
        refine peel_seq ?_
        refine awp_cond (b := (decide (((Tr.node k14 v15 l16 r17).depth : Int) ≤ ((l4.depth : Int) + 1)))) rfl (fun hc18 => ?_) (fun hc18 => ?_)
        · skip
          have hc18p := of_decide_eq_true hc18
          refine awp_seq ?_
          refine awp_region_keep tab_ok boxes [] [6, 9] [] ⟨90, [(6, (.t (.c (.d (encT (Tr.node k2 v3 l4 (Tr.node k14 v15 l16 r17))))))), (9, (.t (.c (.d (encT (Tr.node k2 v3 l4 (Tr.node k14 v15 l16 r17)))))))], [], []⟩ [] mixed (by kernel_rfl) trivial ?_
          refine peel_seq ?_
          refine awp_ret ?_
          refine peel_seq_ret ?_
          exact ends_ret rfl (congrArg (fun t => some (SV.t (TV.c (CV.d (encT t))))) (show (Tr.node k2 v3 l4 (Tr.node k14 v15 l16 r17)) = Tr.downLess (Tr.node k2 v3 l4 r5) k v m from by simp only [Tr.downLess, hx13]; (repeat' split) <;> first | rfl | (exfalso; (try simp only [Tr.depth] at *); omega))) rfl
        · skip
          have hc18p := of_decide_eq_false hc18
          refine awp_skip ?_
          refine peel_seq ?_
          refine awp_seq ?_
          refine awp_region_keep tab_ok boxes [(1, ⟨[], (.t (.c (.d (encT (Tr.node k14 v15 (Tr.node k2 v3 l4 l16) r17))))), some []⟩)] [6] [] ⟨90, [(6, (.t (.c (.d (encT (Tr.node k14 v15 (Tr.node k2 v3 l4 l16) r17))))))], [], []⟩ [⟨(Go.Op.call (Go.Call.mk (Go.Callee.value (Go.Operand.func 94)) #[(Go.Operand.tmp 88)] #[98])), 98, [(sc (.func (.func 94) #[] #[])), (.t (.c (.d (encT (Tr.node k2 v3 l4 (Tr.node k14 v15 l16 r17))))))], [], (.t (.c (.d (encT (Tr.node k14 v15 (Tr.node k2 v3 l4 l16) r17))))), []⟩] mixed (by kernel_rfl) ⟨tri_call (s_left k2 v3 l4 k14 v15 l16 r17 (by (try simp only [Tr.size, Tr.size_downLess, Tr.size_downMore, Tr.size_join, big] at *); omega)), trivial⟩ ?_
          refine peel_seq ?_
          refine awp_ret ?_
          exact ends_ret rfl (congrArg (fun t => some (SV.t (TV.c (CV.d (encT t))))) (show (Tr.node k14 v15 (Tr.node k2 v3 l4 l16) r17) = Tr.downLess (Tr.node k2 v3 l4 r5) k v m from by simp only [Tr.downLess, hx13]; (repeat' split) <;> first | rfl | (exfalso; (try simp only [Tr.depth] at *); omega))) rfl
termination_by structural l
theorem s_downMore (l : Tr) (k v : ByteArray) (m : Tr) (hd : l.depth + 1 < m.depth) (hs : l.size + m.size + 1 ≤ big) : Sat Try.prog 92 [(.t (.c (.d (encT l)))), (.t (.agg [(.d (.v (.string k))), (.d (.v (.string v)))])), (.t (.c (.d (encT m))))] [] (.t (.c (.d (encT (Tr.downMore l k v m))))) [] := by
  have hl := l.depth_le
  have hm := m.depth_le
  refine sat_of_body tab_ok Try.func92 rfl (by kernel_rfl) (Nat.le_of_ble_eq_true rfl) rfl fun G => ?_
  refine awp_seq ?_
  refine awp_region_keep tab_ok boxes [] [0, 2, 4, 6] [4] ⟨90, [(0, (.t (.c (.d (encT l))))), (2, (.t (.c (.d (encT m))))), (4, (.t (.c (.loc 4 0)))), (6, (sc (.pointer none)))], [(4, (.cells 81 [(.d (.v (.string k))), (.d (.v (.string v)))]))], []⟩ [] mixed (by kernel_rfl) trivial ?_
  refine peel_seq ?_
  refine awp_seq ?_
  refine awp_seq ?_
  cases m with
  | nil =>
    exfalso; (try simp only [Tr.depth] at *); omega
  | node k2 v3 l4 r5 =>
    refine awp_region_keep tab_ok boxes [(4, ⟨[], (sc (.int .i64 (l4.depth : Int))), some []⟩), (6, ⟨[], (sc (.int .i64 (l.depth : Int))), some []⟩), (7, ⟨[], (sc (.int .i64 ((l.depth : Int) + 1))), some []⟩)] [0, 2, 4, 6, 18] [4] ⟨90, [(0, (.t (.c (.d (encT l))))), (2, (.t (.c (.d (encT (Tr.node k2 v3 l4 r5)))))), (4, (.t (.c (.loc 4 0)))), (6, (sc (.pointer none))), (18, (sc (.bool (decide ((l4.depth : Int) ≤ ((l.depth : Int) + 1))))))], [(4, (.cells 81 [(.d (.v (.string k))), (.d (.v (.string v)))]))], []⟩ [⟨(Go.Op.call (Go.Call.mk (Go.Callee.value (Go.Operand.func 90)) #[(Go.Operand.tmp 13)] #[98])), 3, [(sc (.func (.func 90) #[] #[])), (.t (.c (.d (encT l4))))], [], (sc (.int .i64 (l4.depth : Int))), []⟩, ⟨(Go.Op.call (Go.Call.mk (Go.Callee.value (Go.Operand.func 90)) #[(Go.Operand.tmp 15)] #[98])), 3, [(sc (.func (.func 90) #[] #[])), (.t (.c (.d (encT l))))], [], (sc (.int .i64 (l.depth : Int))), []⟩, ⟨(Go.Op.binOp Go.BinOp.add 3 (Go.Operand.tmp 16) (Go.Operand.const (Go.Value.int Go.IntKind.i64 1)) 3), 3, [(sc (.int .i64 (l.depth : Int))), (sc (.int .i64 1))], [], (sc (.int .i64 ((l.depth : Int) + 1))), []⟩] mixed (by kernel_rfl) ⟨tri_call (s_depth l4), tri_call (s_depth l), tri_int ((l.depth : Int) + 1) (wrap_i64 (by (try simp only [Tr.size, Tr.depth, big] at *); omega)), trivial⟩ ?_
    refine peel_seq ?_
    refine awp_cond (b := (decide ((l4.depth : Int) ≤ ((l.depth : Int) + 1)))) rfl (fun hc6 => ?_) (fun hc6 => ?_)
    · skip
      have hc6p := of_decide_eq_true hc6
      refine awp_seq ?_
      refine awp_region_keep tab_ok boxes [(6, ⟨[], (.t (.c (.d (encT (Tr.node k v l l4))))), some []⟩)] [0, 2, 4, 6, 7] [4] ⟨90, [(0, (.t (.c (.d (encT l))))), (2, (.t (.c (.d (encT (Tr.node k2 v3 l4 r5)))))), (4, (.t (.c (.loc 4 0)))), (6, (sc (.pointer none))), (7, (.t (.c (.d (encT (Tr.node k v l l4))))))], [(4, (.cells 81 [(.d (.v (.string k))), (.d (.v (.string v)))]))], []⟩ [⟨(Go.Op.call (Go.Call.mk (Go.Callee.value (Go.Operand.func 85)) #[(Go.Operand.tmp 19), (Go.Operand.tmp 20), (Go.Operand.tmp 24)] #[98, 81, 98])), 98, [(sc (.func (.func 85) #[] #[])), (.t (.c (.d (encT l)))), (.t (.agg [(.d (.v (.string k))), (.d (.v (.string v)))])), (.t (.c (.d (encT l4))))], [], (.t (.c (.d (encT (Tr.node k v l l4))))), []⟩] mixed (by kernel_rfl) ⟨tri_call (s_over l k v l4 (by (try simp only [Tr.size, Tr.size_downLess, Tr.size_downMore, Tr.size_join, big] at *); omega)), trivial⟩ ?_
      refine peel_seq ?_
      refine awp_seq ?_
      refine awp_seq ?_
      refine awp_region_keep tab_ok boxes [(8, ⟨[], (sc (.int .i64 (r5.depth : Int))), some []⟩), (9, ⟨[], (sc (.int .i64 ((r5.depth : Int) + 1))), some []⟩)] [0, 2, 4, 6, 7, 36] [4] ⟨90, [(0, (.t (.c (.d (encT l))))), (2, (.t (.c (.d (encT (Tr.node k2 v3 l4 r5)))))), (4, (.t (.c (.loc 4 0)))), (6, (sc (.pointer none))), (7, (.t (.c (.d (encT (Tr.node k v l l4)))))), (36, (sc (.bool (decide (((Tr.node k v l l4).depth : Int) ≤ ((r5.depth : Int) + 1))))))], [(4, (.cells 81 [(.d (.v (.string k))), (.d (.v (.string v)))]))], []⟩ [⟨(Go.Op.call (Go.Call.mk (Go.Callee.value (Go.Operand.func 90)) #[(Go.Operand.tmp 33)] #[98])), 3, [(sc (.func (.func 90) #[] #[])), (.t (.c (.d (encT r5))))], [], (sc (.int .i64 (r5.depth : Int))), []⟩, ⟨(Go.Op.binOp Go.BinOp.add 3 (Go.Operand.tmp 34) (Go.Operand.const (Go.Value.int Go.IntKind.i64 1)) 3), 3, [(sc (.int .i64 (r5.depth : Int))), (sc (.int .i64 1))], [], (sc (.int .i64 ((r5.depth : Int) + 1))), []⟩] mixed (by kernel_rfl) ⟨tri_call (s_depth r5), tri_int ((r5.depth : Int) + 1) (wrap_i64 (by (try simp only [Tr.size, Tr.depth, big] at *); omega)), trivial⟩ ?_
      refine peel_seq ?_
      refine awp_cond (b := (decide (((Tr.node k v l l4).depth : Int) ≤ ((r5.depth : Int) + 1)))) rfl (fun hc7 => ?_) (fun hc7 => ?_)
      · skip
        have hc7p := of_decide_eq_true hc7
        refine awp_seq ?_
        refine awp_region_keep tab_ok boxes [(9, ⟨[], (.t (.c (.d (encT (Tr.node k2 v3 (Tr.node k v l l4) r5))))), some []⟩)] [0, 2, 4, 6, 7] [4] ⟨90, [(0, (.t (.c (.d (encT l))))), (2, (.t (.c (.d (encT (Tr.node k2 v3 l4 r5)))))), (4, (.t (.c (.loc 4 0)))), (6, (.t (.c (.d (encT (Tr.node k2 v3 (Tr.node k v l l4) r5)))))), (7, (.t (.c (.d (encT (Tr.node k v l l4))))))], [(4, (.cells 81 [(.d (.v (.string k))), (.d (.v (.string v)))]))], []⟩ [⟨(Go.Op.call (Go.Call.mk (Go.Callee.value (Go.Operand.func 85)) #[(Go.Operand.tmp 37), (Go.Operand.tmp 41), (Go.Operand.tmp 45)] #[98, 81, 98])), 98, [(sc (.func (.func 85) #[] #[])), (.t (.c (.d (encT (Tr.node k v l l4))))), (.t (.agg [(.d (.v (.string k2))), (.d (.v (.string v3)))])), (.t (.c (.d (encT r5))))], [], (.t (.c (.d (encT (Tr.node k2 v3 (Tr.node k v l l4) r5))))), []⟩] mixed (by kernel_rfl) ⟨tri_call (s_over (Tr.node k v l l4) k2 v3 r5 (by (try simp only [Tr.size, Tr.size_downLess, Tr.size_downMore, Tr.size_join, big] at *); omega)), trivial⟩ ?_
        refine peel_seq ?_
        refine awp_ret ?_
        refine peel_seq_ret ?_
        refine peel_seq_ret ?_
        exact ends_ret rfl (congrArg (fun t => some (SV.t (TV.c (CV.d (encT t))))) (show (Tr.node k2 v3 (Tr.node k v l l4) r5) = Tr.downMore l k v (Tr.node k2 v3 l4 r5) from by simp only [Tr.downMore]; (repeat' split) <;> first | rfl | (exfalso; (try simp only [Tr.depth] at *); omega))) rfl
      · skip
        have hc7p := of_decide_eq_false hc7
        refine awp_skip ?_
        refine peel_seq ?_
        refine awp_seq ?_
        cases l4 with
        | nil =>
          exfalso; (try simp only [Tr.depth] at *); omega
        | node k9 v10 l11 r12 =>
          refine awp_region_keep tab_ok boxes [(1, ⟨[], (.t (.c (.d (encT (Tr.node k9 v10 (Tr.node k v l l11) r12))))), some []⟩), (10, ⟨[], (.t (.c (.d (encT (Tr.node k2 v3 (Tr.node k9 v10 (Tr.node k v l l11) r12) r5))))), some []⟩), (11, ⟨[], (.t (.c (.d (encT (Tr.node k9 v10 (Tr.node k v l l11) (Tr.node k2 v3 r12 r5)))))), some []⟩)] [0, 2, 4, 6] [4] ⟨90, [(0, (.t (.c (.d (encT l))))), (2, (.t (.c (.d (encT (Tr.node k2 v3 (Tr.node k9 v10 l11 r12) r5)))))), (4, (.t (.c (.loc 4 0)))), (6, (.t (.c (.d (encT (Tr.node k9 v10 (Tr.node k v l l11) (Tr.node k2 v3 r12 r5)))))))], [(4, (.cells 81 [(.d (.v (.string k))), (.d (.v (.string v)))]))], []⟩ [⟨(Go.Op.call (Go.Call.mk (Go.Callee.value (Go.Operand.func 94)) #[(Go.Operand.tmp 47)] #[98])), 98, [(sc (.func (.func 94) #[] #[])), (.t (.c (.d (encT (Tr.node k v l (Tr.node k9 v10 l11 r12))))))], [], (.t (.c (.d (encT (Tr.node k9 v10 (Tr.node k v l l11) r12))))), []⟩, ⟨(Go.Op.call (Go.Call.mk (Go.Callee.value (Go.Operand.func 85)) #[(Go.Operand.tmp 48), (Go.Operand.tmp 52), (Go.Operand.tmp 56)] #[98, 81, 98])), 98, [(sc (.func (.func 85) #[] #[])), (.t (.c (.d (encT (Tr.node k9 v10 (Tr.node k v l l11) r12))))), (.t (.agg [(.d (.v (.string k2))), (.d (.v (.string v3)))])), (.t (.c (.d (encT r5))))], [], (.t (.c (.d (encT (Tr.node k2 v3 (Tr.node k9 v10 (Tr.node k v l l11) r12) r5))))), []⟩, ⟨(Go.Op.call (Go.Call.mk (Go.Callee.value (Go.Operand.func 95)) #[(Go.Operand.tmp 57)] #[98])), 98, [(sc (.func (.func 95) #[] #[])), (.t (.c (.d (encT (Tr.node k2 v3 (Tr.node k9 v10 (Tr.node k v l l11) r12) r5)))))], [], (.t (.c (.d (encT (Tr.node k9 v10 (Tr.node k v l l11) (Tr.node k2 v3 r12 r5)))))), []⟩] mixed (by kernel_rfl) ⟨tri_call (s_left k v l k9 v10 l11 r12 (by (try simp only [Tr.size, Tr.size_downLess, Tr.size_downMore, Tr.size_join, big] at *); omega)), tri_call (s_over (Tr.node k9 v10 (Tr.node k v l l11) r12) k2 v3 r5 (by (try simp only [Tr.size, Tr.size_downLess, Tr.size_downMore, Tr.size_join, big] at *); omega)), tri_call (s_right k2 v3 k9 v10 (Tr.node k v l l11) r12 r5 (by (try simp only [Tr.size, Tr.size_downLess, Tr.size_downMore, Tr.size_join, big] at *); omega)), trivial⟩ ?_
          refine peel_seq ?_
          refine awp_ret ?_
          refine peel_seq_ret ?_
          exact ends_ret rfl (congrArg (fun t => some (SV.t (TV.c (CV.d (encT t))))) (show (Tr.node k9 v10 (Tr.node k v l l11) (Tr.node k2 v3 r12 r5)) = Tr.downMore l k v (Tr.node k2 v3 (Tr.node k9 v10 l11 r12) r5) from by simp only [Tr.downMore]; (repeat' split) <;> first | rfl | (exfalso; (try simp only [Tr.depth] at *); omega))) rfl
    · skip
      have hc6p := of_decide_eq_false hc6
      refine awp_skip ?_
      refine peel_seq ?_
      refine awp_seq ?_
      refine awp_region_keep tab_ok boxes [(6, ⟨[], (.t (.c (.d (encT (Tr.downMore l k v l4))))), some []⟩)] [2, 6, 8] [] ⟨90, [(2, (.t (.c (.d (encT (Tr.node k2 v3 l4 r5)))))), (6, (sc (.pointer none))), (8, (.t (.c (.d (encT (Tr.downMore l k v l4))))))], [], []⟩ [⟨(Go.Op.call (Go.Call.mk (Go.Callee.value (Go.Operand.func 92)) #[(Go.Operand.tmp 59), (Go.Operand.tmp 60), (Go.Operand.tmp 64)] #[98, 81, 98])), 98, [(sc (.func (.func 92) #[] #[])), (.t (.c (.d (encT l)))), (.t (.agg [(.d (.v (.string k))), (.d (.v (.string v)))])), (.t (.c (.d (encT l4))))], [], (.t (.c (.d (encT (Tr.downMore l k v l4))))), []⟩] mixed (by kernel_rfl) ⟨tri_call (s_downMore l k v l4 (by (try simp only [Tr.depth] at *); omega) (by (try simp only [Tr.size, Tr.size_downLess, Tr.size_downMore, Tr.size_join, big] at *); omega)), trivial⟩ ?_
      refine peel_seq ?_
      refine awp_seq ?_
      refine awp_region_keep tab_ok boxes [(9, ⟨[], (.t (.c (.d (encT (Tr.node k2 v3 (Tr.downMore l k v l4) r5))))), some []⟩)] [2, 6, 8, 9] [] ⟨90, [(2, (.t (.c (.d (encT (Tr.node k2 v3 l4 r5)))))), (6, (sc (.pointer none))), (8, (.t (.c (.d (encT (Tr.downMore l k v l4)))))), (9, (.t (.c (.d (encT (Tr.node k2 v3 (Tr.downMore l k v l4) r5))))))], [], []⟩ [⟨(Go.Op.call (Go.Call.mk (Go.Callee.value (Go.Operand.func 85)) #[(Go.Operand.tmp 66), (Go.Operand.tmp 70), (Go.Operand.tmp 74)] #[98, 81, 98])), 98, [(sc (.func (.func 85) #[] #[])), (.t (.c (.d (encT (Tr.downMore l k v l4))))), (.t (.agg [(.d (.v (.string k2))), (.d (.v (.string v3)))])), (.t (.c (.d (encT r5))))], [], (.t (.c (.d (encT (Tr.node k2 v3 (Tr.downMore l k v l4) r5))))), []⟩] mixed (by kernel_rfl) ⟨tri_call (s_over (Tr.downMore l k v l4) k2 v3 r5 (by (try simp only [Tr.size, Tr.size_downLess, Tr.size_downMore, Tr.size_join, big] at *); omega)), trivial⟩ ?_
      refine peel_seq ?_
      refine awp_seq ?_
      refine awp_seq ?_
      cases hx13 : (Tr.downMore l k v l4) with
      | nil =>
        exact absurd hx13 (Tr.downMore_node _ _ _ _)
      | node k14 v15 l16 r17 =>
        have hx13s := congrArg Tr.size hx13
        simp only [Tr.size_downLess, Tr.size_downMore, Tr.size_join, Tr.size] at hx13s
        refine awp_region_keep tab_ok boxes [(8, ⟨[], (sc (.int .i64 (r5.depth : Int))), some []⟩), (9, ⟨[], (sc (.int .i64 ((r5.depth : Int) + 1))), some []⟩)] [6, 9, 86] [] ⟨90, [(6, (sc (.pointer none))), (9, (.t (.c (.d (encT (Tr.node k2 v3 (Tr.node k14 v15 l16 r17) r5)))))), (86, (sc (.bool (decide (((Tr.node k14 v15 l16 r17).depth : Int) ≤ ((r5.depth : Int) + 1))))))], [], []⟩ [⟨(Go.Op.call (Go.Call.mk (Go.Callee.value (Go.Operand.func 90)) #[(Go.Operand.tmp 83)] #[98])), 3, [(sc (.func (.func 90) #[] #[])), (.t (.c (.d (encT r5))))], [], (sc (.int .i64 (r5.depth : Int))), []⟩, ⟨(Go.Op.binOp Go.BinOp.add 3 (Go.Operand.tmp 84) (Go.Operand.const (Go.Value.int Go.IntKind.i64 1)) 3), 3, [(sc (.int .i64 (r5.depth : Int))), (sc (.int .i64 1))], [], (sc (.int .i64 ((r5.depth : Int) + 1))), []⟩] mixed (by kernel_rfl) ⟨tri_call (s_depth r5), tri_int ((r5.depth : Int) + 1) (wrap_i64 (by (try simp only [Tr.size, Tr.depth, big] at *); omega)), trivial⟩ ?_
        refine peel_seq ?_
        refine awp_cond (b := (decide (((Tr.node k14 v15 l16 r17).depth : Int) ≤ ((r5.depth : Int) + 1)))) rfl (fun hc18 => ?_) (fun hc18 => ?_)
        · skip
          have hc18p := of_decide_eq_true hc18
          refine awp_seq ?_
          refine awp_region_keep tab_ok boxes [] [6, 9] [] ⟨90, [(6, (.t (.c (.d (encT (Tr.node k2 v3 (Tr.node k14 v15 l16 r17) r5)))))), (9, (.t (.c (.d (encT (Tr.node k2 v3 (Tr.node k14 v15 l16 r17) r5))))))], [], []⟩ [] mixed (by kernel_rfl) trivial ?_
          refine peel_seq ?_
          refine awp_ret ?_
          refine peel_seq_ret ?_
          exact ends_ret rfl (congrArg (fun t => some (SV.t (TV.c (CV.d (encT t))))) (show (Tr.node k2 v3 (Tr.node k14 v15 l16 r17) r5) = Tr.downMore l k v (Tr.node k2 v3 l4 r5) from by simp only [Tr.downMore, hx13]; (repeat' split) <;> first | rfl | (exfalso; (try simp only [Tr.depth] at *); omega))) rfl
        · skip
          have hc18p := of_decide_eq_false hc18
          refine awp_skip ?_
          refine peel_seq ?_
          refine awp_seq ?_
          refine awp_region_keep tab_ok boxes [(1, ⟨[], (.t (.c (.d (encT (Tr.node k14 v15 l16 (Tr.node k2 v3 r17 r5)))))), some []⟩)] [6] [] ⟨90, [(6, (.t (.c (.d (encT (Tr.node k14 v15 l16 (Tr.node k2 v3 r17 r5)))))))], [], []⟩ [⟨(Go.Op.call (Go.Call.mk (Go.Callee.value (Go.Operand.func 95)) #[(Go.Operand.tmp 88)] #[98])), 98, [(sc (.func (.func 95) #[] #[])), (.t (.c (.d (encT (Tr.node k2 v3 (Tr.node k14 v15 l16 r17) r5)))))], [], (.t (.c (.d (encT (Tr.node k14 v15 l16 (Tr.node k2 v3 r17 r5)))))), []⟩] mixed (by kernel_rfl) ⟨tri_call (s_right k2 v3 k14 v15 l16 r17 r5 (by (try simp only [Tr.size, Tr.size_downLess, Tr.size_downMore, Tr.size_join, big] at *); omega)), trivial⟩ ?_
          refine peel_seq ?_
          refine awp_ret ?_
          exact ends_ret rfl (congrArg (fun t => some (SV.t (TV.c (CV.d (encT t))))) (show (Tr.node k14 v15 l16 (Tr.node k2 v3 r17 r5)) = Tr.downMore l k v (Tr.node k2 v3 l4 r5) from by simp only [Tr.downMore, hx13]; (repeat' split) <;> first | rfl | (exfalso; (try simp only [Tr.depth] at *); omega))) rfl
termination_by structural m
theorem s_join (l : Tr) (k v : ByteArray) (m : Tr) (hs : l.size + m.size + 1 ≤ big) : Sat Try.prog 86 [(.t (.c (.d (encT l)))), (.t (.agg [(.d (.v (.string k))), (.d (.v (.string v)))])), (.t (.c (.d (encT m))))] [] (.t (.c (.d (encT (Tr.join l k v m))))) [] := by
  have hl := l.depth_le
  have hm := m.depth_le
  refine sat_of_body tab_ok Try.func86 rfl (by kernel_rfl) (Nat.le_of_ble_eq_true rfl) rfl fun G => ?_
  refine awp_seq ?_
  refine awp_region_keep tab_ok boxes [] [0, 2, 4, 6] [4] ⟨33, [(0, (.t (.c (.d (encT l))))), (2, (.t (.c (.d (encT m))))), (4, (.t (.c (.loc 4 0)))), (6, (sc (.pointer none)))], [(4, (.cells 81 [(.d (.v (.string k))), (.d (.v (.string v)))]))], []⟩ [] mixed (by kernel_rfl) trivial ?_
  refine peel_seq ?_
  refine awp_seq ?_
  refine awp_block ?_
  refine awp_seq ?_
  refine awp_region_keep tab_ok boxes [(1, ⟨[], (sc (.int .i64 (l.depth : Int))), some []⟩), (3, ⟨[], (sc (.int .i64 (m.depth : Int))), some []⟩), (4, ⟨[], (sc (.int .i64 ((m.depth : Int) + 1))), some []⟩)] [0, 2, 4, 6, 7] [4] ⟨33, [(0, (.t (.c (.d (encT l))))), (2, (.t (.c (.d (encT m))))), (4, (.t (.c (.loc 4 0)))), (6, (sc (.pointer none))), (7, (sc (.bool (decide ((l.depth : Int) > ((m.depth : Int) + 1))))))], [(4, (.cells 81 [(.d (.v (.string k))), (.d (.v (.string v)))]))], []⟩ [⟨(Go.Op.call (Go.Call.mk (Go.Callee.value (Go.Operand.func 90)) #[(Go.Operand.tmp 8)] #[98])), 3, [(sc (.func (.func 90) #[] #[])), (.t (.c (.d (encT l))))], [], (sc (.int .i64 (l.depth : Int))), []⟩, ⟨(Go.Op.call (Go.Call.mk (Go.Callee.value (Go.Operand.func 90)) #[(Go.Operand.tmp 10)] #[98])), 3, [(sc (.func (.func 90) #[] #[])), (.t (.c (.d (encT m))))], [], (sc (.int .i64 (m.depth : Int))), []⟩, ⟨(Go.Op.binOp Go.BinOp.add 3 (Go.Operand.tmp 11) (Go.Operand.const (Go.Value.int Go.IntKind.i64 1)) 3), 3, [(sc (.int .i64 (m.depth : Int))), (sc (.int .i64 1))], [], (sc (.int .i64 ((m.depth : Int) + 1))), []⟩] mixed (by kernel_rfl) ⟨tri_call (s_depth l), tri_call (s_depth m), tri_int ((m.depth : Int) + 1) (wrap_i64 (by (try simp only [big] at *); omega)), trivial⟩ ?_
  refine peel_seq ?_
  refine awp_cond (b := (decide ((l.depth : Int) > ((m.depth : Int) + 1)))) rfl (fun hc1 => ?_) (fun hc1 => ?_)
  · skip
    have hc1p := of_decide_eq_true hc1
    refine awp_seq ?_
    refine awp_region_keep tab_ok boxes [(3, ⟨[], (.t (.c (.d (encT (Tr.downLess l k v m))))), some []⟩)] [0, 2, 4, 6] [4] ⟨33, [(0, (.t (.c (.d (encT l))))), (2, (.t (.c (.d (encT m))))), (4, (.t (.c (.loc 4 0)))), (6, (.t (.c (.d (encT (Tr.downLess l k v m))))))], [(4, (.cells 81 [(.d (.v (.string k))), (.d (.v (.string v)))]))], []⟩ [⟨(Go.Op.call (Go.Call.mk (Go.Callee.value (Go.Operand.func 91)) #[(Go.Operand.tmp 14), (Go.Operand.tmp 15), (Go.Operand.tmp 16)] #[98, 81, 98])), 98, [(sc (.func (.func 91) #[] #[])), (.t (.c (.d (encT l)))), (.t (.agg [(.d (.v (.string k))), (.d (.v (.string v)))])), (.t (.c (.d (encT m))))], [], (.t (.c (.d (encT (Tr.downLess l k v m))))), []⟩] mixed (by kernel_rfl) ⟨tri_call (s_downLess l k v m (by (try simp only [Tr.depth] at *); omega) (by (try simp only [Tr.size, Tr.size_downLess, Tr.size_downMore, Tr.size_join, big] at *); omega)), trivial⟩ ?_
    refine peel_seq ?_
    refine awp_ret ?_
    refine peel_block_ret ?_
    refine peel_seq_ret ?_
    exact ends_ret rfl (congrArg (fun t => some (SV.t (TV.c (CV.d (encT t))))) (show (Tr.downLess l k v m) = Tr.join l k v m from by simp only [Tr.join]; (repeat' split) <;> first | rfl | (exfalso; omega))) rfl
  · skip
    have hc1p := of_decide_eq_false hc1
    refine awp_seq ?_
    refine awp_region_keep tab_ok boxes [(1, ⟨[], (sc (.int .i64 (m.depth : Int))), some []⟩), (3, ⟨[], (sc (.int .i64 (l.depth : Int))), some []⟩), (4, ⟨[], (sc (.int .i64 ((l.depth : Int) + 1))), some []⟩)] [0, 2, 4, 6, 18] [4] ⟨33, [(0, (.t (.c (.d (encT l))))), (2, (.t (.c (.d (encT m))))), (4, (.t (.c (.loc 4 0)))), (6, (sc (.pointer none))), (18, (sc (.bool (decide ((m.depth : Int) > ((l.depth : Int) + 1))))))], [(4, (.cells 81 [(.d (.v (.string k))), (.d (.v (.string v)))]))], []⟩ [⟨(Go.Op.call (Go.Call.mk (Go.Callee.value (Go.Operand.func 90)) #[(Go.Operand.tmp 19)] #[98])), 3, [(sc (.func (.func 90) #[] #[])), (.t (.c (.d (encT m))))], [], (sc (.int .i64 (m.depth : Int))), []⟩, ⟨(Go.Op.call (Go.Call.mk (Go.Callee.value (Go.Operand.func 90)) #[(Go.Operand.tmp 21)] #[98])), 3, [(sc (.func (.func 90) #[] #[])), (.t (.c (.d (encT l))))], [], (sc (.int .i64 (l.depth : Int))), []⟩, ⟨(Go.Op.binOp Go.BinOp.add 3 (Go.Operand.tmp 22) (Go.Operand.const (Go.Value.int Go.IntKind.i64 1)) 3), 3, [(sc (.int .i64 (l.depth : Int))), (sc (.int .i64 1))], [], (sc (.int .i64 ((l.depth : Int) + 1))), []⟩] mixed (by kernel_rfl) ⟨tri_call (s_depth m), tri_call (s_depth l), tri_int ((l.depth : Int) + 1) (wrap_i64 (by (try simp only [big] at *); omega)), trivial⟩ ?_
    refine peel_seq ?_
    refine awp_cond (b := (decide ((m.depth : Int) > ((l.depth : Int) + 1)))) rfl (fun hc2 => ?_) (fun hc2 => ?_)
    · skip
      have hc2p := of_decide_eq_true hc2
      refine awp_seq ?_
      refine awp_region_keep tab_ok boxes [(3, ⟨[], (.t (.c (.d (encT (Tr.downMore l k v m))))), some []⟩)] [0, 2, 4, 6] [4] ⟨33, [(0, (.t (.c (.d (encT l))))), (2, (.t (.c (.d (encT m))))), (4, (.t (.c (.loc 4 0)))), (6, (.t (.c (.d (encT (Tr.downMore l k v m))))))], [(4, (.cells 81 [(.d (.v (.string k))), (.d (.v (.string v)))]))], []⟩ [⟨(Go.Op.call (Go.Call.mk (Go.Callee.value (Go.Operand.func 92)) #[(Go.Operand.tmp 25), (Go.Operand.tmp 26), (Go.Operand.tmp 27)] #[98, 81, 98])), 98, [(sc (.func (.func 92) #[] #[])), (.t (.c (.d (encT l)))), (.t (.agg [(.d (.v (.string k))), (.d (.v (.string v)))])), (.t (.c (.d (encT m))))], [], (.t (.c (.d (encT (Tr.downMore l k v m))))), []⟩] mixed (by kernel_rfl) ⟨tri_call (s_downMore l k v m (by (try simp only [Tr.depth] at *); omega) (by (try simp only [Tr.size, Tr.size_downLess, Tr.size_downMore, Tr.size_join, big] at *); omega)), trivial⟩ ?_
      refine peel_seq ?_
      refine awp_ret ?_
      refine peel_block_ret ?_
      refine peel_seq_ret ?_
      exact ends_ret rfl (congrArg (fun t => some (SV.t (TV.c (CV.d (encT t))))) (show (Tr.downMore l k v m) = Tr.join l k v m from by simp only [Tr.join]; (repeat' split) <;> first | rfl | (exfalso; omega))) rfl
    · skip
      have hc2p := of_decide_eq_false hc2
      refine q_keep [0, 2, 4, 6] [4] ?_
      refine awp_skip ?_
      refine peel_block ?_
      refine peel_seq ?_
      refine awp_seq ?_
      refine awp_region_keep tab_ok boxes [(3, ⟨[], (.t (.c (.d (encT (Tr.node k v l m))))), some []⟩)] [6] [] ⟨33, [(6, (.t (.c (.d (encT (Tr.node k v l m))))))], [], []⟩ [⟨(Go.Op.call (Go.Call.mk (Go.Callee.value (Go.Operand.func 85)) #[(Go.Operand.tmp 29), (Go.Operand.tmp 30), (Go.Operand.tmp 31)] #[98, 81, 98])), 98, [(sc (.func (.func 85) #[] #[])), (.t (.c (.d (encT l)))), (.t (.agg [(.d (.v (.string k))), (.d (.v (.string v)))])), (.t (.c (.d (encT m))))], [], (.t (.c (.d (encT (Tr.node k v l m))))), []⟩] mixed (by kernel_rfl) ⟨tri_call (s_over l k v m (by (try simp only [Tr.size, Tr.size_downLess, Tr.size_downMore, Tr.size_join, big] at *); omega)), trivial⟩ ?_
      refine peel_seq ?_
      refine awp_ret ?_
      exact ends_ret rfl (congrArg (fun t => some (SV.t (TV.c (CV.d (encT t))))) (show (Tr.node k v l m) = Tr.join l k v m from by simp only [Tr.join]; (repeat' split) <;> first | rfl | (exfalso; omega))) rfl
end Go.Proofs.Ytjbiaoajmdbigaa
