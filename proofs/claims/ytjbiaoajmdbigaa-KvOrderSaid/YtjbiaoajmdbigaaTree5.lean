/- Walks of package tree: put, drop, and what is called of a Tree. -/
import Derived.Test.YtjbiaoajmdbigaaTree4
set_option maxRecDepth 100000
set_option linter.unusedVariables false
set_option linter.unusedSimpArgs false
namespace Go.Proofs.Ytjbiaoajmdbigaa
open Go Go.E
theorem s_put (t : Tr) (k v : ByteArray) (hs : t.size + 1 ≤ big) : Sat Try.prog 75 [(.t (.c (.d (encT t)))), (.t (.agg [(.d (.v (.string k))), (.d (.v (.string v)))]))] [] (.t (.c (.d (encT (Tr.put t k v))))) [] := by
  refine sat_of_body tab_ok Try.func75 rfl (by kernel_rfl) (Nat.le_of_ble_eq_true rfl) rfl fun G => ?_
  refine awp_seq ?_
  refine awp_region_keep tab_ok boxes [] [0, 3, 4] [3] ⟨68, [(0, (.t (.c (.d (encT t))))), (3, (.t (.c (.loc 3 0)))), (4, (sc (.pointer none)))], [(3, (.cells 81 [(.d (.v (.string k))), (.d (.v (.string v)))]))], []⟩ [] mixed (by kernel_rfl) trivial ?_
  refine peel_seq ?_
  refine awp_seq ?_
  refine awp_block ?_
  refine awp_seq ?_
  cases t with
  | nil =>
    refine awp_region_keep tab_ok boxes [] [0, 3, 4, 5] [3] ⟨68, [(0, (.t (.c (.d (encT (Tr.nil)))))), (3, (.t (.c (.loc 3 0)))), (4, (sc (.pointer none))), (5, (sc (.bool true)))], [(3, (.cells 81 [(.d (.v (.string k))), (.d (.v (.string v)))]))], []⟩ [] mixed (by kernel_rfl) trivial ?_
    refine peel_seq ?_
    refine awp_true rfl ?_
    refine awp_seq ?_
    refine awp_region_keep tab_ok boxes [(1, ⟨[], (.t (.c (.d (encT (Tr.node k v Tr.nil Tr.nil))))), some []⟩)] [0, 3, 4] [3] ⟨68, [(0, (.t (.c (.d (encT (Tr.nil)))))), (3, (.t (.c (.loc 3 0)))), (4, (.t (.c (.d (encT (Tr.node k v Tr.nil Tr.nil))))))], [(3, (.cells 81 [(.d (.v (.string k))), (.d (.v (.string v)))]))], []⟩ [⟨(Go.Op.call (Go.Call.mk (Go.Callee.value (Go.Operand.func 85)) #[(Go.Operand.const (Go.Value.pointer Option.none)), (Go.Operand.tmp 8), (Go.Operand.const (Go.Value.pointer Option.none))] #[98, 81, 98])), 98, [(sc (.func (.func 85) #[] #[])), (sc (.pointer none)), (.t (.agg [(.d (.v (.string k))), (.d (.v (.string v)))])), (sc (.pointer none))], [], (.t (.c (.d (encT (Tr.node k v Tr.nil Tr.nil))))), []⟩] mixed (by kernel_rfl) ⟨tri_call (s_over Tr.nil k v Tr.nil (by (try simp only [Tr.size, Tr.size_downLess, Tr.size_downMore, Tr.size_join, big] at *); omega)), trivial⟩ ?_
    refine peel_seq ?_
    refine awp_ret ?_
    refine peel_block_ret ?_
    refine peel_seq_ret ?_
    exact ends_ret rfl (show some ((.t (.c (.d (encT (Tr.node k v Tr.nil Tr.nil))))) : SV) = some ((.t (.c (.d (encT (Tr.put (Tr.nil) k v))))) : SV) from by first | rfl | (simp only [Tr.put]; try simp [*])) rfl
  | node k2 v3 l4 r5 =>
    refine awp_region_keep tab_ok boxes [] [0, 3, 4, 5] [3] ⟨68, [(0, (.t (.c (.d (encT (Tr.node k2 v3 l4 r5)))))), (3, (.t (.c (.loc 3 0)))), (4, (sc (.pointer none))), (5, (sc (.bool false)))], [(3, (.cells 81 [(.d (.v (.string k))), (.d (.v (.string v)))]))], []⟩ [] mixed (by kernel_rfl) trivial ?_
    refine peel_seq ?_
    refine awp_false rfl ?_
    refine awp_seq ?_
    refine awp_region_keep tab_ok boxes [(7, ⟨[], (sc (.bool (ltS k k2))), some []⟩)] [0, 3, 4, 10] [3] ⟨68, [(0, (.t (.c (.d (encT (Tr.node k2 v3 l4 r5)))))), (3, (.t (.c (.loc 3 0)))), (4, (sc (.pointer none))), (10, (sc (.bool (ltS k k2))))], [(3, (.cells 81 [(.d (.v (.string k))), (.d (.v (.string v)))]))], []⟩ [⟨(Go.Op.binOp Go.BinOp.lss 9 (Go.Operand.tmp 12) (Go.Operand.tmp 17) 9), 4, [(sc (.string k)), (sc (.string k2))], [], (sc (.bool (ltS k k2))), []⟩] mixed (by kernel_rfl) ⟨tri_str_lss, trivial⟩ ?_
    refine peel_seq ?_
    refine awp_cond (b := (ltS k k2)) rfl (fun hc6 => ?_) (fun hc6 => ?_)
    · skip
      refine awp_seq ?_
      refine awp_region_keep tab_ok boxes [(5, ⟨[], (.t (.c (.d (encT (Tr.put l4 k v))))), some []⟩), (14, ⟨[], (.t (.c (.d (encT (Tr.join (Tr.put l4 k v) k2 v3 r5))))), some []⟩)] [0, 3, 4] [3] ⟨68, [(0, (.t (.c (.d (encT (Tr.node k2 v3 l4 r5)))))), (3, (.t (.c (.loc 3 0)))), (4, (.t (.c (.d (encT (Tr.join (Tr.put l4 k v) k2 v3 r5))))))], [(3, (.cells 81 [(.d (.v (.string k))), (.d (.v (.string v)))]))], []⟩ [⟨(Go.Op.call (Go.Call.mk (Go.Callee.value (Go.Operand.func 75)) #[(Go.Operand.tmp 22), (Go.Operand.tmp 23)] #[98, 81])), 98, [(sc (.func (.func 75) #[] #[])), (.t (.c (.d (encT l4)))), (.t (.agg [(.d (.v (.string k))), (.d (.v (.string v)))]))], [], (.t (.c (.d (encT (Tr.put l4 k v))))), []⟩, ⟨(Go.Op.call (Go.Call.mk (Go.Callee.value (Go.Operand.func 86)) #[(Go.Operand.tmp 24), (Go.Operand.tmp 28), (Go.Operand.tmp 32)] #[98, 81, 98])), 98, [(sc (.func (.func 86) #[] #[])), (.t (.c (.d (encT (Tr.put l4 k v))))), (.t (.agg [(.d (.v (.string k2))), (.d (.v (.string v3)))])), (.t (.c (.d (encT r5))))], [], (.t (.c (.d (encT (Tr.join (Tr.put l4 k v) k2 v3 r5))))), []⟩] mixed (by kernel_rfl) ⟨tri_call (s_put l4 k v (by (try simp only [Tr.size, Tr.size_downLess, Tr.size_downMore, Tr.size_join, big] at *); omega)), tri_call (s_join (Tr.put l4 k v) k2 v3 r5 (by have h1 := Tr.size_put l4 k v; (try simp only [Tr.size] at *); omega)), trivial⟩ ?_
      refine peel_seq ?_
      refine awp_ret ?_
      refine peel_block_ret ?_
      refine peel_seq_ret ?_
      exact ends_ret rfl (show some ((.t (.c (.d (encT (Tr.join (Tr.put l4 k v) k2 v3 r5))))) : SV) = some ((.t (.c (.d (encT (Tr.put (Tr.node k2 v3 l4 r5) k v))))) : SV) from by first | rfl | (simp only [Tr.put, hc6]; try simp [*])) rfl
    · skip
      refine awp_seq ?_
      refine awp_region_keep tab_ok boxes [(7, ⟨[], (sc (.bool (ltS k2 k))), some []⟩)] [0, 3, 4, 34] [3] ⟨68, [(0, (.t (.c (.d (encT (Tr.node k2 v3 l4 r5)))))), (3, (.t (.c (.loc 3 0)))), (4, (sc (.pointer none))), (34, (sc (.bool (ltS k2 k))))], [(3, (.cells 81 [(.d (.v (.string k))), (.d (.v (.string v)))]))], []⟩ [⟨(Go.Op.binOp Go.BinOp.gtr 9 (Go.Operand.tmp 36) (Go.Operand.tmp 41) 9), 4, [(sc (.string k)), (sc (.string k2))], [], (sc (.bool (ltS k2 k))), []⟩] mixed (by kernel_rfl) ⟨tri_str_gtr, trivial⟩ ?_
      refine peel_seq ?_
      refine awp_cond (b := (ltS k2 k)) rfl (fun hc7 => ?_) (fun hc7 => ?_)
      · skip
        refine awp_seq ?_
        refine awp_region_keep tab_ok boxes [(13, ⟨[], (.t (.c (.d (encT (Tr.put r5 k v))))), some []⟩), (14, ⟨[], (.t (.c (.d (encT (Tr.join l4 k2 v3 (Tr.put r5 k v)))))), some []⟩)] [0, 3, 4] [3] ⟨68, [(0, (.t (.c (.d (encT (Tr.node k2 v3 l4 r5)))))), (3, (.t (.c (.loc 3 0)))), (4, (.t (.c (.d (encT (Tr.join l4 k2 v3 (Tr.put r5 k v)))))))], [(3, (.cells 81 [(.d (.v (.string k))), (.d (.v (.string v)))]))], []⟩ [⟨(Go.Op.call (Go.Call.mk (Go.Callee.value (Go.Operand.func 75)) #[(Go.Operand.tmp 54), (Go.Operand.tmp 55)] #[98, 81])), 98, [(sc (.func (.func 75) #[] #[])), (.t (.c (.d (encT r5)))), (.t (.agg [(.d (.v (.string k))), (.d (.v (.string v)))]))], [], (.t (.c (.d (encT (Tr.put r5 k v))))), []⟩, ⟨(Go.Op.call (Go.Call.mk (Go.Callee.value (Go.Operand.func 86)) #[(Go.Operand.tmp 46), (Go.Operand.tmp 50), (Go.Operand.tmp 56)] #[98, 81, 98])), 98, [(sc (.func (.func 86) #[] #[])), (.t (.c (.d (encT l4)))), (.t (.agg [(.d (.v (.string k2))), (.d (.v (.string v3)))])), (.t (.c (.d (encT (Tr.put r5 k v)))))], [], (.t (.c (.d (encT (Tr.join l4 k2 v3 (Tr.put r5 k v)))))), []⟩] mixed (by kernel_rfl) ⟨tri_call (s_put r5 k v (by (try simp only [Tr.size, Tr.size_downLess, Tr.size_downMore, Tr.size_join, big] at *); omega)), tri_call (s_join l4 k2 v3 (Tr.put r5 k v) (by have h1 := Tr.size_put r5 k v; (try simp only [Tr.size] at *); omega)), trivial⟩ ?_
        refine peel_seq ?_
        refine awp_ret ?_
        refine peel_block_ret ?_
        refine peel_seq_ret ?_
        exact ends_ret rfl (show some ((.t (.c (.d (encT (Tr.join l4 k2 v3 (Tr.put r5 k v)))))) : SV) = some ((.t (.c (.d (encT (Tr.put (Tr.node k2 v3 l4 r5) k v))))) : SV) from by first | rfl | (simp only [Tr.put, hc6, hc7]; try simp [*])) rfl
      · skip
        refine q_keep [0, 3, 4] [3] ?_
        refine awp_skip ?_
        refine peel_block ?_
        refine peel_seq ?_
        refine awp_seq ?_
        refine awp_region_keep tab_ok boxes [(9, ⟨[], (.t (.c (.d (encT (Tr.node k v l4 r5))))), some []⟩)] [4] [] ⟨68, [(4, (.t (.c (.d (encT (Tr.node k v l4 r5))))))], [], []⟩ [⟨(Go.Op.call (Go.Call.mk (Go.Callee.value (Go.Operand.func 85)) #[(Go.Operand.tmp 61), (Go.Operand.tmp 62), (Go.Operand.tmp 66)] #[98, 81, 98])), 98, [(sc (.func (.func 85) #[] #[])), (.t (.c (.d (encT l4)))), (.t (.agg [(.d (.v (.string k))), (.d (.v (.string v)))])), (.t (.c (.d (encT r5))))], [], (.t (.c (.d (encT (Tr.node k v l4 r5))))), []⟩] mixed (by kernel_rfl) ⟨tri_call (s_over l4 k v r5 (by (try simp only [Tr.size, Tr.size_downLess, Tr.size_downMore, Tr.size_join, big] at *); omega)), trivial⟩ ?_
        refine peel_seq ?_
        refine awp_ret ?_
        exact ends_ret rfl (show some ((.t (.c (.d (encT (Tr.node k v l4 r5))))) : SV) = some ((.t (.c (.d (encT (Tr.put (Tr.node k2 v3 l4 r5) k v))))) : SV) from by first | rfl | (simp only [Tr.put, hc6, hc7]; try simp [*])) rfl
termination_by structural t
theorem s_drop (t : Tr) (k : ByteArray) (hs : t.size ≤ big) : Sat Try.prog 76 [(.t (.c (.d (encT t)))), (sc (.string k))] [] (.t (.c (.d (encT (Tr.drop t k))))) [] := by
  refine sat_of_body tab_ok Try.func76 rfl (by kernel_rfl) (Nat.le_of_ble_eq_true rfl) rfl fun G => ?_
  refine awp_seq ?_
  refine awp_region_keep tab_ok boxes [] [0, 1, 4] [] ⟨63, [(0, (.t (.c (.d (encT t))))), (1, (sc (.string k))), (4, (sc (.pointer none)))], [], []⟩ [] mixed (by kernel_rfl) trivial ?_
  refine peel_seq ?_
  refine awp_seq ?_
  refine awp_block ?_
  refine awp_seq ?_
  cases t with
  | nil =>
    refine awp_region_keep tab_ok boxes [] [0, 1, 4, 5] [] ⟨63, [(0, (.t (.c (.d (encT (Tr.nil)))))), (1, (sc (.string k))), (4, (sc (.pointer none))), (5, (sc (.bool true)))], [], []⟩ [] mixed (by kernel_rfl) trivial ?_
    refine peel_seq ?_
    refine awp_true rfl ?_
    refine awp_seq ?_
    refine awp_region_keep tab_ok boxes [] [0, 4] [] ⟨63, [(0, (.t (.c (.d (encT (Tr.nil)))))), (4, (sc (.pointer none)))], [], []⟩ [] mixed (by kernel_rfl) trivial ?_
    refine peel_seq ?_
    refine awp_ret ?_
    refine peel_block_ret ?_
    refine peel_seq_ret ?_
    exact ends_ret rfl (show some ((sc (.pointer none)) : SV) = some ((.t (.c (.d (encT (Tr.drop (Tr.nil) k))))) : SV) from by first | rfl | (simp only [Tr.drop]; try simp [*])) rfl
  | node k2 v3 l4 r5 =>
    refine awp_region_keep tab_ok boxes [] [0, 1, 4, 5] [] ⟨63, [(0, (.t (.c (.d (encT (Tr.node k2 v3 l4 r5)))))), (1, (sc (.string k))), (4, (sc (.pointer none))), (5, (sc (.bool false)))], [], []⟩ [] mixed (by kernel_rfl) trivial ?_
    refine peel_seq ?_
    refine awp_false rfl ?_
    refine awp_seq ?_
    refine awp_region_keep tab_ok boxes [(6, ⟨[], (sc (.bool (ltS k k2))), some []⟩)] [0, 1, 4, 8] [] ⟨63, [(0, (.t (.c (.d (encT (Tr.node k2 v3 l4 r5)))))), (1, (sc (.string k))), (4, (sc (.pointer none))), (8, (sc (.bool (ltS k k2))))], [], []⟩ [⟨(Go.Op.binOp Go.BinOp.lss 9 (Go.Operand.tmp 9) (Go.Operand.tmp 14) 9), 4, [(sc (.string k)), (sc (.string k2))], [], (sc (.bool (ltS k k2))), []⟩] mixed (by kernel_rfl) ⟨tri_str_lss, trivial⟩ ?_
    refine peel_seq ?_
    refine awp_cond (b := (ltS k k2)) rfl (fun hc6 => ?_) (fun hc6 => ?_)
    · skip
      refine awp_seq ?_
      refine awp_region_keep tab_ok boxes [(5, ⟨[], (.t (.c (.d (encT (Tr.drop l4 k))))), some []⟩), (14, ⟨[], (.t (.c (.d (encT (Tr.join (Tr.drop l4 k) k2 v3 r5))))), some []⟩)] [0, 4] [] ⟨63, [(0, (.t (.c (.d (encT (Tr.node k2 v3 l4 r5)))))), (4, (.t (.c (.d (encT (Tr.join (Tr.drop l4 k) k2 v3 r5))))))], [], []⟩ [⟨(Go.Op.call (Go.Call.mk (Go.Callee.value (Go.Operand.func 76)) #[(Go.Operand.tmp 19), (Go.Operand.tmp 20)] #[98, 9])), 98, [(sc (.func (.func 76) #[] #[])), (.t (.c (.d (encT l4)))), (sc (.string k))], [], (.t (.c (.d (encT (Tr.drop l4 k))))), []⟩, ⟨(Go.Op.call (Go.Call.mk (Go.Callee.value (Go.Operand.func 86)) #[(Go.Operand.tmp 21), (Go.Operand.tmp 25), (Go.Operand.tmp 29)] #[98, 81, 98])), 98, [(sc (.func (.func 86) #[] #[])), (.t (.c (.d (encT (Tr.drop l4 k))))), (.t (.agg [(.d (.v (.string k2))), (.d (.v (.string v3)))])), (.t (.c (.d (encT r5))))], [], (.t (.c (.d (encT (Tr.join (Tr.drop l4 k) k2 v3 r5))))), []⟩] mixed (by kernel_rfl) ⟨tri_call (s_drop l4 k (by (try simp only [Tr.size, Tr.size_downLess, Tr.size_downMore, Tr.size_join, big] at *); omega)), tri_call (s_join (Tr.drop l4 k) k2 v3 r5 (by have h1 := Tr.size_drop l4 k; (try simp only [Tr.size] at *); omega)), trivial⟩ ?_
      refine peel_seq ?_
      refine awp_ret ?_
      refine peel_block_ret ?_
      refine peel_seq_ret ?_
      exact ends_ret rfl (show some ((.t (.c (.d (encT (Tr.join (Tr.drop l4 k) k2 v3 r5))))) : SV) = some ((.t (.c (.d (encT (Tr.drop (Tr.node k2 v3 l4 r5) k))))) : SV) from by first | rfl | (simp only [Tr.drop, hc6]; try simp [*])) rfl
    · skip
      refine awp_seq ?_
      refine awp_region_keep tab_ok boxes [(6, ⟨[], (sc (.bool (ltS k2 k))), some []⟩)] [0, 1, 4, 31] [] ⟨63, [(0, (.t (.c (.d (encT (Tr.node k2 v3 l4 r5)))))), (1, (sc (.string k))), (4, (sc (.pointer none))), (31, (sc (.bool (ltS k2 k))))], [], []⟩ [⟨(Go.Op.binOp Go.BinOp.gtr 9 (Go.Operand.tmp 32) (Go.Operand.tmp 37) 9), 4, [(sc (.string k)), (sc (.string k2))], [], (sc (.bool (ltS k2 k))), []⟩] mixed (by kernel_rfl) ⟨tri_str_gtr, trivial⟩ ?_
      refine peel_seq ?_
      refine awp_cond (b := (ltS k2 k)) rfl (fun hc7 => ?_) (fun hc7 => ?_)
      · skip
        refine awp_seq ?_
        refine awp_region_keep tab_ok boxes [(13, ⟨[], (.t (.c (.d (encT (Tr.drop r5 k))))), some []⟩), (14, ⟨[], (.t (.c (.d (encT (Tr.join l4 k2 v3 (Tr.drop r5 k)))))), some []⟩)] [0, 4] [] ⟨63, [(0, (.t (.c (.d (encT (Tr.node k2 v3 l4 r5)))))), (4, (.t (.c (.d (encT (Tr.join l4 k2 v3 (Tr.drop r5 k)))))))], [], []⟩ [⟨(Go.Op.call (Go.Call.mk (Go.Callee.value (Go.Operand.func 76)) #[(Go.Operand.tmp 50), (Go.Operand.tmp 51)] #[98, 9])), 98, [(sc (.func (.func 76) #[] #[])), (.t (.c (.d (encT r5)))), (sc (.string k))], [], (.t (.c (.d (encT (Tr.drop r5 k))))), []⟩, ⟨(Go.Op.call (Go.Call.mk (Go.Callee.value (Go.Operand.func 86)) #[(Go.Operand.tmp 42), (Go.Operand.tmp 46), (Go.Operand.tmp 52)] #[98, 81, 98])), 98, [(sc (.func (.func 86) #[] #[])), (.t (.c (.d (encT l4)))), (.t (.agg [(.d (.v (.string k2))), (.d (.v (.string v3)))])), (.t (.c (.d (encT (Tr.drop r5 k)))))], [], (.t (.c (.d (encT (Tr.join l4 k2 v3 (Tr.drop r5 k)))))), []⟩] mixed (by kernel_rfl) ⟨tri_call (s_drop r5 k (by (try simp only [Tr.size, Tr.size_downLess, Tr.size_downMore, Tr.size_join, big] at *); omega)), tri_call (s_join l4 k2 v3 (Tr.drop r5 k) (by have h1 := Tr.size_drop r5 k; (try simp only [Tr.size] at *); omega)), trivial⟩ ?_
        refine peel_seq ?_
        refine awp_ret ?_
        refine peel_block_ret ?_
        refine peel_seq_ret ?_
        exact ends_ret rfl (show some ((.t (.c (.d (encT (Tr.join l4 k2 v3 (Tr.drop r5 k)))))) : SV) = some ((.t (.c (.d (encT (Tr.drop (Tr.node k2 v3 l4 r5) k))))) : SV) from by first | rfl | (simp only [Tr.drop, hc6, hc7]; try simp [*])) rfl
      · skip
        refine q_keep [0, 4] [] ?_
        refine awp_skip ?_
        refine peel_block ?_
        refine peel_seq ?_
        refine awp_seq ?_
        refine awp_region_keep tab_ok boxes [(8, ⟨[], (.t (.c (.d (encT (Tr.glue l4 r5))))), some []⟩)] [4] [] ⟨63, [(4, (.t (.c (.d (encT (Tr.glue l4 r5))))))], [], []⟩ [⟨(Go.Op.call (Go.Call.mk (Go.Callee.value (Go.Operand.func 87)) #[(Go.Operand.tmp 57), (Go.Operand.tmp 61)] #[98, 98])), 98, [(sc (.func (.func 87) #[] #[])), (.t (.c (.d (encT l4)))), (.t (.c (.d (encT r5))))], [], (.t (.c (.d (encT (Tr.glue l4 r5))))), []⟩] mixed (by kernel_rfl) ⟨tri_call (s_glue l4 r5 (by (try simp only [Tr.size, Tr.size_downLess, Tr.size_downMore, Tr.size_join, big] at *); omega)), trivial⟩ ?_
        refine peel_seq ?_
        refine awp_ret ?_
        exact ends_ret rfl (show some ((.t (.c (.d (encT (Tr.glue l4 r5))))) : SV) = some ((.t (.c (.d (encT (Tr.drop (Tr.node k2 v3 l4 r5) k))))) : SV) from by first | rfl | (simp only [Tr.drop, hc6, hc7]; try simp [*])) rfl
termination_by structural t
theorem s_top (t : Tr) : Sat Try.prog 70 [(.t (.c (.d (.ptr [(encT t)]))))] [] (.t (.c (.d (encT t)))) [] := by
  refine sat_of_body tab_ok Try.func70 rfl (by kernel_rfl) (Nat.le_of_ble_eq_true rfl) rfl fun G => ?_
  refine awp_seq ?_
  refine awp_region_keep tab_ok boxes [] [0, 2] [] ⟨9, [(0, (.t (.c (.d (.ptr [(encT t)]))))), (2, (sc (.pointer none)))], [], []⟩ [] mixed (by kernel_rfl) trivial ?_
  refine peel_seq ?_
  refine awp_seq ?_
  refine awp_seq ?_
  refine awp_region_keep tab_ok boxes [] [0, 2, 4] [] ⟨9, [(0, (.t (.c (.d (.ptr [(encT t)]))))), (2, (sc (.pointer none))), (4, (sc (.bool false)))], [], []⟩ [] mixed (by kernel_rfl) trivial ?_
  refine peel_seq ?_
  refine awp_false rfl ?_
  refine awp_skip ?_
  refine peel_seq ?_
  refine awp_seq ?_
  refine awp_region_keep tab_ok boxes [] [2] [] ⟨9, [(2, (.t (.c (.d (encT t)))))], [], []⟩ [] mixed (by kernel_rfl) trivial ?_
  refine peel_seq ?_
  refine awp_ret ?_
  exact ends_ret rfl rfl rfl
theorem s_Len (t : Tr) : Sat Try.prog 44 [(.t (.c (.d (.ptr [(encT t)]))))] [] (sc (.int .i64 (t.size : Int))) [] := by
  refine sat_of_body tab_ok Try.func44 rfl (by kernel_rfl) (Nat.le_of_ble_eq_true rfl) rfl fun G => ?_
  refine awp_seq ?_
  refine awp_region_keep tab_ok boxes [] [0, 2] [] ⟨6, [(0, (.t (.c (.d (.ptr [(encT t)]))))), (2, (sc (.int .i64 0)))], [], []⟩ [] mixed (by kernel_rfl) trivial ?_
  refine peel_seq ?_
  refine awp_seq ?_
  refine awp_region_keep tab_ok boxes [(1, ⟨[], (.t (.c (.d (encT t)))), some []⟩), (2, ⟨[], (sc (.int .i64 (t.size : Int))), some []⟩)] [2] [] ⟨6, [(2, (sc (.int .i64 (t.size : Int))))], [], []⟩ [⟨(Go.Op.call (Go.Call.mk (Go.Callee.value (Go.Operand.func 70)) #[(Go.Operand.tmp 3)] #[49])), 98, [(sc (.func (.func 70) #[] #[])), (.t (.c (.d (.ptr [(encT t)]))))], [], (.t (.c (.d (encT t)))), []⟩, ⟨(Go.Op.call (Go.Call.mk (Go.Callee.value (Go.Operand.func 71)) #[(Go.Operand.tmp 4)] #[98])), 3, [(sc (.func (.func 71) #[] #[])), (.t (.c (.d (encT t))))], [], (sc (.int .i64 (t.size : Int))), []⟩] mixed (by kernel_rfl) ⟨tri_call (s_top t), tri_call (s_size t), trivial⟩ ?_
  refine peel_seq ?_
  refine awp_ret ?_
  exact ends_ret rfl rfl rfl
theorem s_TNew  : Sat Try.prog 46 [] [] (.t (.c (.d (.ptr [(encT (Tr.nil))])))) [] := by
  refine sat_of_body tab_ok Try.func46 rfl (by kernel_rfl) (Nat.le_of_ble_eq_true rfl) rfl fun G => ?_
  refine awp_seq ?_
  refine awp_region_keep tab_ok boxes [] [0] [] ⟨3, [(0, (sc (.pointer none)))], [], []⟩ [] mixed (by kernel_rfl) trivial ?_
  refine peel_seq ?_
  refine awp_seq ?_
  refine awp_region_keep tab_ok boxes [] [0] [] ⟨3, [(0, (.t (.c (.d (.ptr [(.v (.pointer none))])))))], [], []⟩ [] mixed (by kernel_rfl) trivial ?_
  refine peel_seq ?_
  refine awp_ret ?_
  exact ends_ret rfl rfl rfl
theorem s_TPut (t : Tr) (k v : ByteArray) (hs : t.size + 1 ≤ big) : Sat Try.prog 47 [(.t (.c (.d (.ptr [(encT t)])))), (sc (.string k)), (sc (.string v))] [] (.t (.c (.d (.ptr [(encT (Tr.putT t k v))])))) [] := by
  refine sat_of_body tab_ok Try.func47 rfl (by kernel_rfl) (Nat.le_of_ble_eq_true rfl) rfl fun G => ?_
  refine awp_seq ?_
  refine awp_region_keep tab_ok boxes [] [0, 1, 2, 6] [] ⟨35, [(0, (.t (.c (.d (.ptr [(encT t)]))))), (1, (sc (.string k))), (2, (sc (.string v))), (6, (sc (.pointer none)))], [], []⟩ [] mixed (by kernel_rfl) trivial ?_
  refine peel_seq ?_
  refine awp_seq ?_
  refine awp_seq ?_
  refine awp_region_keep tab_ok boxes [(1, ⟨[], (.t (.c (.d (encT t)))), some []⟩), (3, ⟨[], (.t (.c (.d (encT (Tr.find t k))))), some []⟩)] [0, 1, 2, 6, 7] [] ⟨35, [(0, (.t (.c (.d (.ptr [(encT t)]))))), (1, (sc (.string k))), (2, (sc (.string v))), (6, (sc (.pointer none))), (7, (.t (.c (.d (encT (Tr.find t k))))))], [], []⟩ [⟨(Go.Op.call (Go.Call.mk (Go.Callee.value (Go.Operand.func 70)) #[(Go.Operand.tmp 8)] #[49])), 98, [(sc (.func (.func 70) #[] #[])), (.t (.c (.d (.ptr [(encT t)]))))], [], (.t (.c (.d (encT t)))), []⟩, ⟨(Go.Op.call (Go.Call.mk (Go.Callee.value (Go.Operand.func 74)) #[(Go.Operand.tmp 9), (Go.Operand.tmp 10)] #[98, 9])), 98, [(sc (.func (.func 74) #[] #[])), (.t (.c (.d (encT t)))), (sc (.string k))], [], (.t (.c (.d (encT (Tr.find t k))))), []⟩] mixed (by kernel_rfl) ⟨tri_call (s_top t), tri_call (s_find t k), trivial⟩ ?_
  refine peel_seq ?_
  refine awp_seq ?_
  cases hx1 : (Tr.find t k) with
  | nil =>
    have hx1s := congrArg Tr.size hx1
    simp only [Tr.size_downLess, Tr.size_downMore, Tr.size_join, Tr.size] at hx1s
    refine awp_region_keep tab_ok boxes [] [0, 1, 2, 6, 22] [] ⟨35, [(0, (.t (.c (.d (.ptr [(encT t)]))))), (1, (sc (.string k))), (2, (sc (.string v))), (6, (sc (.pointer none))), (22, (sc (.bool false)))], [], []⟩ [] mixed (by kernel_rfl) trivial ?_
    refine peel_seq ?_
    refine awp_false rfl ?_
    refine awp_skip ?_
    refine peel_seq ?_
    refine awp_seq ?_
    refine awp_region_keep tab_ok boxes [(1, ⟨[], (.t (.c (.d (encT t)))), some []⟩), (5, ⟨[], (.t (.c (.d (encT (Tr.put t k v))))), some []⟩)] [6] [] ⟨35, [(6, (.t (.c (.d (.ptr [(encT (Tr.put t k v))])))))], [], []⟩ [⟨(Go.Op.call (Go.Call.mk (Go.Callee.value (Go.Operand.func 70)) #[(Go.Operand.tmp 27)] #[49])), 98, [(sc (.func (.func 70) #[] #[])), (.t (.c (.d (.ptr [(encT t)]))))], [], (.t (.c (.d (encT t)))), []⟩, ⟨(Go.Op.call (Go.Call.mk (Go.Callee.value (Go.Operand.func 75)) #[(Go.Operand.tmp 28), (Go.Operand.tmp 31)] #[98, 81])), 98, [(sc (.func (.func 75) #[] #[])), (.t (.c (.d (encT t)))), (.t (.agg [(.d (.v (.string k))), (.d (.v (.string v)))]))], [], (.t (.c (.d (encT (Tr.put t k v))))), []⟩] mixed (by kernel_rfl) ⟨tri_call (s_top t), tri_call (s_put t k v (by (try simp only [Tr.size, Tr.size_downLess, Tr.size_downMore, Tr.size_join, big] at *); omega)), trivial⟩ ?_
    refine peel_seq ?_
    refine awp_ret ?_
    exact ends_ret rfl (show some ((.t (.c (.d (.ptr [(encT (Tr.put t k v))])))) : SV) = some ((.t (.c (.d (.ptr [(encT (Tr.putT t k v))])))) : SV) from by first | rfl | (simp [Tr.putT, hx1])) rfl
  | node k2 v3 l4 r5 =>
    have hx1s := congrArg Tr.size hx1
    simp only [Tr.size_downLess, Tr.size_downMore, Tr.size_join, Tr.size] at hx1s
    refine awp_region_keep tab_ok boxes [(9, ⟨[], (sc (.bool (eqS v3 v))), some []⟩)] [0, 1, 2, 6, 22] [] ⟨35, [(0, (.t (.c (.d (.ptr [(encT t)]))))), (1, (sc (.string k))), (2, (sc (.string v))), (6, (sc (.pointer none))), (22, (sc (.bool (eqS v3 v))))], [], []⟩ [⟨(Go.Op.binOp Go.BinOp.eql 9 (Go.Operand.tmp 19) (Go.Operand.tmp 20) 9), 4, [(sc (.string v3)), (sc (.string v))], [], (sc (.bool (eqS v3 v))), []⟩] mixed (by kernel_rfl) ⟨tri_str_eql, trivial⟩ ?_
    refine peel_seq ?_
    refine awp_cond (b := (eqS v3 v)) rfl (fun hc6 => ?_) (fun hc6 => ?_)
    · skip
      have hc6p := eqS_true hc6
      refine awp_seq ?_
      refine awp_region_keep tab_ok boxes [(1, ⟨[], (.t (.c (.d (encT t)))), some []⟩)] [0, 1, 2, 6] [] ⟨35, [(0, (.t (.c (.d (.ptr [(encT t)]))))), (1, (sc (.string k))), (2, (sc (.string v))), (6, (.t (.c (.d (.ptr [(encT t)])))))], [], []⟩ [⟨(Go.Op.call (Go.Call.mk (Go.Callee.value (Go.Operand.func 70)) #[(Go.Operand.tmp 23)] #[49])), 98, [(sc (.func (.func 70) #[] #[])), (.t (.c (.d (.ptr [(encT t)]))))], [], (.t (.c (.d (encT t)))), []⟩] mixed (by kernel_rfl) ⟨tri_call (s_top t), trivial⟩ ?_
      refine peel_seq ?_
      refine awp_ret ?_
      refine peel_seq_ret ?_
      exact ends_ret rfl (show some ((.t (.c (.d (.ptr [(encT t)])))) : SV) = some ((.t (.c (.d (.ptr [(encT (Tr.putT t k v))])))) : SV) from by first | rfl | (simp [Tr.putT, hx1, hc6])) rfl
    · skip
      have hc6p := eqS_false hc6
      refine awp_skip ?_
      refine peel_seq ?_
      refine awp_seq ?_
      refine awp_region_keep tab_ok boxes [(1, ⟨[], (.t (.c (.d (encT t)))), some []⟩), (5, ⟨[], (.t (.c (.d (encT (Tr.put t k v))))), some []⟩)] [6] [] ⟨35, [(6, (.t (.c (.d (.ptr [(encT (Tr.put t k v))])))))], [], []⟩ [⟨(Go.Op.call (Go.Call.mk (Go.Callee.value (Go.Operand.func 70)) #[(Go.Operand.tmp 27)] #[49])), 98, [(sc (.func (.func 70) #[] #[])), (.t (.c (.d (.ptr [(encT t)]))))], [], (.t (.c (.d (encT t)))), []⟩, ⟨(Go.Op.call (Go.Call.mk (Go.Callee.value (Go.Operand.func 75)) #[(Go.Operand.tmp 28), (Go.Operand.tmp 31)] #[98, 81])), 98, [(sc (.func (.func 75) #[] #[])), (.t (.c (.d (encT t)))), (.t (.agg [(.d (.v (.string k))), (.d (.v (.string v)))]))], [], (.t (.c (.d (encT (Tr.put t k v))))), []⟩] mixed (by kernel_rfl) ⟨tri_call (s_top t), tri_call (s_put t k v (by (try simp only [Tr.size, Tr.size_downLess, Tr.size_downMore, Tr.size_join, big] at *); omega)), trivial⟩ ?_
      refine peel_seq ?_
      refine awp_ret ?_
      exact ends_ret rfl (show some ((.t (.c (.d (.ptr [(encT (Tr.put t k v))])))) : SV) = some ((.t (.c (.d (.ptr [(encT (Tr.putT t k v))])))) : SV) from by first | rfl | (simp [Tr.putT, hx1, hc6])) rfl
theorem s_TDrop (t : Tr) (k : ByteArray) (hs : t.size ≤ big) : Sat Try.prog 50 [(.t (.c (.d (.ptr [(encT t)])))), (sc (.string k))] [] (.t (.c (.d (.ptr [(encT (Tr.dropT t k))])))) [] := by
  refine sat_of_body tab_ok Try.func50 rfl (by kernel_rfl) (Nat.le_of_ble_eq_true rfl) rfl fun G => ?_
  refine awp_seq ?_
  refine awp_region_keep tab_ok boxes [] [0, 1, 4] [] ⟨20, [(0, (.t (.c (.d (.ptr [(encT t)]))))), (1, (sc (.string k))), (4, (sc (.pointer none)))], [], []⟩ [] mixed (by kernel_rfl) trivial ?_
  refine peel_seq ?_
  refine awp_seq ?_
  refine awp_seq ?_
  cases hx1 : (Tr.find t k) with
  | nil =>
    have hx1s := congrArg Tr.size hx1
    simp only [Tr.size_downLess, Tr.size_downMore, Tr.size_join, Tr.size] at hx1s
    refine awp_region_keep tab_ok boxes [(1, ⟨[], (.t (.c (.d (encT t)))), some []⟩), (3, ⟨[], (.t (.c (.d (encT (Tr.nil))))), some []⟩)] [0, 1, 4, 9] [] ⟨20, [(0, (.t (.c (.d (.ptr [(encT t)]))))), (1, (sc (.string k))), (4, (sc (.pointer none))), (9, (sc (.bool true)))], [], []⟩ [⟨(Go.Op.call (Go.Call.mk (Go.Callee.value (Go.Operand.func 70)) #[(Go.Operand.tmp 5)] #[49])), 98, [(sc (.func (.func 70) #[] #[])), (.t (.c (.d (.ptr [(encT t)]))))], [], (.t (.c (.d (encT t)))), []⟩, ⟨(Go.Op.call (Go.Call.mk (Go.Callee.value (Go.Operand.func 74)) #[(Go.Operand.tmp 6), (Go.Operand.tmp 7)] #[98, 9])), 98, [(sc (.func (.func 74) #[] #[])), (.t (.c (.d (encT t)))), (sc (.string k))], [], (.t (.c (.d (encT (Tr.nil))))), []⟩] mixed (by kernel_rfl) ⟨tri_call (s_top t), tri_call (by have h := (s_find t k); rw [hx1] at h; exact h), trivial⟩ ?_
    refine peel_seq ?_
    refine awp_true rfl ?_
    refine awp_seq ?_
    refine awp_region_keep tab_ok boxes [(1, ⟨[], (.t (.c (.d (encT t)))), some []⟩)] [0, 1, 4] [] ⟨20, [(0, (.t (.c (.d (.ptr [(encT t)]))))), (1, (sc (.string k))), (4, (.t (.c (.d (.ptr [(encT t)])))))], [], []⟩ [⟨(Go.Op.call (Go.Call.mk (Go.Callee.value (Go.Operand.func 70)) #[(Go.Operand.tmp 10)] #[49])), 98, [(sc (.func (.func 70) #[] #[])), (.t (.c (.d (.ptr [(encT t)]))))], [], (.t (.c (.d (encT t)))), []⟩] mixed (by kernel_rfl) ⟨tri_call (s_top t), trivial⟩ ?_
    refine peel_seq ?_
    refine awp_ret ?_
    refine peel_seq_ret ?_
    exact ends_ret rfl (show some ((.t (.c (.d (.ptr [(encT t)])))) : SV) = some ((.t (.c (.d (.ptr [(encT (Tr.dropT t k))])))) : SV) from by first | rfl | (simp [Tr.dropT, hx1])) rfl
  | node k2 v3 l4 r5 =>
    have hx1s := congrArg Tr.size hx1
    simp only [Tr.size_downLess, Tr.size_downMore, Tr.size_join, Tr.size] at hx1s
    refine awp_region_keep tab_ok boxes [(1, ⟨[], (.t (.c (.d (encT t)))), some []⟩), (3, ⟨[], (.t (.c (.d (encT (Tr.node k2 v3 l4 r5))))), some []⟩)] [0, 1, 4, 9] [] ⟨20, [(0, (.t (.c (.d (.ptr [(encT t)]))))), (1, (sc (.string k))), (4, (sc (.pointer none))), (9, (sc (.bool false)))], [], []⟩ [⟨(Go.Op.call (Go.Call.mk (Go.Callee.value (Go.Operand.func 70)) #[(Go.Operand.tmp 5)] #[49])), 98, [(sc (.func (.func 70) #[] #[])), (.t (.c (.d (.ptr [(encT t)]))))], [], (.t (.c (.d (encT t)))), []⟩, ⟨(Go.Op.call (Go.Call.mk (Go.Callee.value (Go.Operand.func 74)) #[(Go.Operand.tmp 6), (Go.Operand.tmp 7)] #[98, 9])), 98, [(sc (.func (.func 74) #[] #[])), (.t (.c (.d (encT t)))), (sc (.string k))], [], (.t (.c (.d (encT (Tr.node k2 v3 l4 r5))))), []⟩] mixed (by kernel_rfl) ⟨tri_call (s_top t), tri_call (by have h := (s_find t k); rw [hx1] at h; exact h), trivial⟩ ?_
    refine peel_seq ?_
    refine awp_false rfl ?_
    refine awp_skip ?_
    refine peel_seq ?_
    refine awp_seq ?_
    refine awp_region_keep tab_ok boxes [(1, ⟨[], (.t (.c (.d (encT t)))), some []⟩), (3, ⟨[], (.t (.c (.d (encT (Tr.drop t k))))), some []⟩)] [4] [] ⟨20, [(4, (.t (.c (.d (.ptr [(encT (Tr.drop t k))])))))], [], []⟩ [⟨(Go.Op.call (Go.Call.mk (Go.Callee.value (Go.Operand.func 70)) #[(Go.Operand.tmp 14)] #[49])), 98, [(sc (.func (.func 70) #[] #[])), (.t (.c (.d (.ptr [(encT t)]))))], [], (.t (.c (.d (encT t)))), []⟩, ⟨(Go.Op.call (Go.Call.mk (Go.Callee.value (Go.Operand.func 76)) #[(Go.Operand.tmp 15), (Go.Operand.tmp 16)] #[98, 9])), 98, [(sc (.func (.func 76) #[] #[])), (.t (.c (.d (encT t)))), (sc (.string k))], [], (.t (.c (.d (encT (Tr.drop t k))))), []⟩] mixed (by kernel_rfl) ⟨tri_call (s_top t), tri_call (s_drop t k (by (try simp only [Tr.size, Tr.size_downLess, Tr.size_downMore, Tr.size_join, big] at *); omega)), trivial⟩ ?_
    refine peel_seq ?_
    refine awp_ret ?_
    exact ends_ret rfl (show some ((.t (.c (.d (.ptr [(encT (Tr.drop t k))])))) : SV) = some ((.t (.c (.d (.ptr [(encT (Tr.dropT t k))])))) : SV) from by first | rfl | (simp [Tr.dropT, hx1])) rfl
theorem s_TGet (t : Tr) (k : ByteArray) : Sat Try.prog 49 [(.t (.c (.d (.ptr [(encT t)])))), (sc (.string k))] [] (.tup [(.c (.d (.v (.string (Tr.getT t k).1)))), (.c (.d (.v (.bool (Tr.getT t k).2))))]) [] := by
  refine sat_of_body tab_ok Try.func49 rfl (by kernel_rfl) (Nat.le_of_ble_eq_true rfl) rfl fun G => ?_
  refine awp_seq ?_
  refine awp_region_keep tab_ok boxes [] [0, 1, 4, 5] [] ⟨18, [(0, (.t (.c (.d (.ptr [(encT t)]))))), (1, (sc (.string k))), (4, (sc (.string ⟨#[]⟩))), (5, (sc (.bool false)))], [], []⟩ [] mixed (by kernel_rfl) trivial ?_
  refine peel_seq ?_
  refine awp_seq ?_
  refine awp_seq ?_
  refine awp_region_keep tab_ok boxes [(1, ⟨[], (.t (.c (.d (encT t)))), some []⟩), (3, ⟨[], (.t (.c (.d (encT (Tr.find t k))))), some []⟩)] [4, 5, 6] [] ⟨18, [(4, (sc (.string ⟨#[]⟩))), (5, (sc (.bool false))), (6, (.t (.c (.d (encT (Tr.find t k))))))], [], []⟩ [⟨(Go.Op.call (Go.Call.mk (Go.Callee.value (Go.Operand.func 70)) #[(Go.Operand.tmp 7)] #[49])), 98, [(sc (.func (.func 70) #[] #[])), (.t (.c (.d (.ptr [(encT t)]))))], [], (.t (.c (.d (encT t)))), []⟩, ⟨(Go.Op.call (Go.Call.mk (Go.Callee.value (Go.Operand.func 74)) #[(Go.Operand.tmp 8), (Go.Operand.tmp 9)] #[98, 9])), 98, [(sc (.func (.func 74) #[] #[])), (.t (.c (.d (encT t)))), (sc (.string k))], [], (.t (.c (.d (encT (Tr.find t k))))), []⟩] mixed (by kernel_rfl) ⟨tri_call (s_top t), tri_call (s_find t k), trivial⟩ ?_
  refine peel_seq ?_
  refine awp_seq ?_
  cases hx1 : (Tr.find t k) with
  | nil =>
    have hx1s := congrArg Tr.size hx1
    simp only [Tr.size_downLess, Tr.size_downMore, Tr.size_join, Tr.size] at hx1s
    refine awp_region_keep tab_ok boxes [] [4, 5, 6, 12] [] ⟨18, [(4, (sc (.string ⟨#[]⟩))), (5, (sc (.bool false))), (6, (.t (.c (.d (encT (Tr.nil)))))), (12, (sc (.bool false)))], [], []⟩ [] mixed (by kernel_rfl) trivial ?_
    refine peel_seq ?_
    refine awp_false rfl ?_
    refine awp_skip ?_
    refine peel_seq ?_
    refine awp_seq ?_
    refine awp_region_keep tab_ok boxes [] [4, 5] [] ⟨18, [(4, (sc (.string ⟨#[]⟩))), (5, (sc (.bool false)))], [], []⟩ [] mixed (by kernel_rfl) trivial ?_
    refine peel_seq ?_
    refine awp_ret ?_
    exact ends_ret rfl (show some ((.tup [(.c (.d (.v (.string ⟨#[]⟩)))), (.c (.d (.v (.bool false))))]) : SV) = some ((.tup [(.c (.d (.v (.string (Tr.getT t k).1)))), (.c (.d (.v (.bool (Tr.getT t k).2))))]) : SV) from by first | rfl | (simp [Tr.getT, hx1])) rfl
  | node k2 v3 l4 r5 =>
    have hx1s := congrArg Tr.size hx1
    simp only [Tr.size_downLess, Tr.size_downMore, Tr.size_join, Tr.size] at hx1s
    refine awp_region_keep tab_ok boxes [] [4, 5, 6, 12] [] ⟨18, [(4, (sc (.string ⟨#[]⟩))), (5, (sc (.bool false))), (6, (.t (.c (.d (encT (Tr.node k2 v3 l4 r5)))))), (12, (sc (.bool true)))], [], []⟩ [] mixed (by kernel_rfl) trivial ?_
    refine peel_seq ?_
    refine awp_true rfl ?_
    refine awp_seq ?_
    refine awp_region_keep tab_ok boxes [] [4, 5] [] ⟨18, [(4, (sc (.string v3))), (5, (sc (.bool true)))], [], []⟩ [] mixed (by kernel_rfl) trivial ?_
    refine peel_seq ?_
    refine awp_ret ?_
    refine peel_seq_ret ?_
    exact ends_ret rfl (show some ((.tup [(.c (.d (.v (.string v3)))), (.c (.d (.v (.bool true))))]) : SV) = some ((.tup [(.c (.d (.v (.string (Tr.getT t k).1)))), (.c (.d (.v (.bool (Tr.getT t k).2))))]) : SV) from by first | rfl | (simp [Tr.getT, hx1])) rfl
end Go.Proofs.Ytjbiaoajmdbigaa
