/- Walks of package tree: put, drop, and what is called of a Tree. -/
import Derived.Test.YtjbiaoajmdbigaaTree4
set_option maxRecDepth 100000
set_option linter.unusedVariables false
set_option linter.unusedSimpArgs false
namespace Go.Proofs.Ytjbiaoajmdbigaa
open Go Go.E
theorem s_put (t : Tr) (k v : ByteArray) (hs : t.size + 1 ≤ big) : Sat Try.prog 75 [(vT (encT t)), (.t (.agg [(cS k), (cS v)]))] [] (vT (encT (Tr.put t k v))) [] := by
 refine sat_of_body tab_ok Try.func75 rfl (by kernel_rfl) (Nat.le_of_ble_eq_true rfl) rfl fun G => ?_
 refine awp_seq ?_
 refine rk boxes [] [0, 3, 4] [3] ⟨68, [(0, (vT (encT t))), (3, (vL 3 0)), (4, (sc (.pointer none)))], [(3, (.cells 81 [(cS k), (cS v)]))], []⟩ (by kernel_rfl) .n ?_
 refine peel_seq ?_
 refine awp_seq ?_
 refine awp_block ?_
 refine awp_seq ?_
 cases t with
 | nil =>
  refine rk boxes [] [0, 3, 4, 5] [3] ⟨68, [(0, (vT (encT (Tr.nil)))), (3, (vL 3 0)), (4, (sc (.pointer none))), (5, (vB true))], [(3, (.cells 81 [(cS k), (cS v)]))], []⟩ (by kernel_rfl) .n ?_
  refine peel_seq ?_
  refine awp_true rfl ?_
  refine awp_seq ?_
  refine rk boxes [⟨1, false, [(sc (.func (.func 85) #[] #[])), (sc (.pointer none)), (.t (.agg [(cS k), (cS v)])), (sc (.pointer none))], [], (vT (encT (Tr.node k v Tr.nil Tr.nil))), []⟩] [0, 3, 4] [3] ⟨68, [(0, (vT (encT (Tr.nil)))), (3, (vL 3 0)), (4, (vT (encT (Tr.node k v Tr.nil Tr.nil))))], [(3, (.cells 81 [(cS k), (cS v)]))], []⟩ (by kernel_rfl) (.c (tri_call (s_over Tr.nil k v Tr.nil (by (try simp only [Tr.size, Tr.size_downLess, Tr.size_downMore, Tr.size_join, big] at *); omega))) .n) ?_
  refine peel_seq ?_
  refine awp_ret ?_
  refine peel_block_ret ?_
  refine peel_seq_ret ?_
  exact ends_ret rfl (show some ((vT (encT (Tr.node k v Tr.nil Tr.nil))) : SV) = some ((vT (encT (Tr.put (Tr.nil) k v))) : SV) from by first | rfl | (simp only [Tr.put]; try simp [*])) rfl
 | node k2 v3 l4 r5 =>
  refine rk boxes [] [0, 3, 4, 5] [3] ⟨68, [(0, (vT (encT (Tr.node k2 v3 l4 r5)))), (3, (vL 3 0)), (4, (sc (.pointer none))), (5, (vB false))], [(3, (.cells 81 [(cS k), (cS v)]))], []⟩ (by kernel_rfl) .n ?_
  refine peel_seq ?_
  refine awp_false rfl ?_
  refine awp_seq ?_
  refine rk boxes [⟨7, false, [(vS k), (vS k2)], [], (vB (ltS k k2)), []⟩] [0, 3, 4, 10] [3] ⟨68, [(0, (vT (encT (Tr.node k2 v3 l4 r5)))), (3, (vL 3 0)), (4, (sc (.pointer none))), (10, (vB (ltS k k2)))], [(3, (.cells 81 [(cS k), (cS v)]))], []⟩ (by kernel_rfl) (.c (tri_str_lss) .n) ?_
  refine peel_seq ?_
  refine awp_cond (b := (ltS k k2)) rfl (fun hc6 => ?_) (fun hc6 => ?_)
  ·skip
   refine awp_seq ?_
   refine rk boxes [⟨5, false, [(sc (.func (.func 75) #[] #[])), (vT (encT l4)), (.t (.agg [(cS k), (cS v)]))], [], (vT (encT (Tr.put l4 k v))), []⟩, ⟨14, false, [(sc (.func (.func 86) #[] #[])), (vT (encT (Tr.put l4 k v))), (.t (.agg [(cS k2), (cS v3)])), (vT (encT r5))], [], (vT (encT (Tr.join (Tr.put l4 k v) k2 v3 r5))), []⟩] [0, 3, 4] [3] ⟨68, [(0, (vT (encT (Tr.node k2 v3 l4 r5)))), (3, (vL 3 0)), (4, (vT (encT (Tr.join (Tr.put l4 k v) k2 v3 r5))))], [(3, (.cells 81 [(cS k), (cS v)]))], []⟩ (by kernel_rfl) (.c (tri_call (s_put l4 k v (by (try simp only [Tr.size, Tr.size_downLess, Tr.size_downMore, Tr.size_join, big] at *); omega))) (.c (tri_call (s_join (Tr.put l4 k v) k2 v3 r5 (by have h1 := Tr.size_put l4 k v; (try simp only [Tr.size] at *); omega))) .n)) ?_
   refine peel_seq ?_
   refine awp_ret ?_
   refine peel_block_ret ?_
   refine peel_seq_ret ?_
   exact ends_ret rfl (show some ((vT (encT (Tr.join (Tr.put l4 k v) k2 v3 r5))) : SV) = some ((vT (encT (Tr.put (Tr.node k2 v3 l4 r5) k v))) : SV) from by first | rfl | (simp only [Tr.put, hc6]; try simp [*])) rfl
  ·skip
   refine awp_seq ?_
   refine rk boxes [⟨7, false, [(vS k), (vS k2)], [], (vB (ltS k2 k)), []⟩] [0, 3, 4, 34] [3] ⟨68, [(0, (vT (encT (Tr.node k2 v3 l4 r5)))), (3, (vL 3 0)), (4, (sc (.pointer none))), (34, (vB (ltS k2 k)))], [(3, (.cells 81 [(cS k), (cS v)]))], []⟩ (by kernel_rfl) (.c (tri_str_gtr) .n) ?_
   refine peel_seq ?_
   refine awp_cond (b := (ltS k2 k)) rfl (fun hc7 => ?_) (fun hc7 => ?_)
   ·skip
    refine awp_seq ?_
    refine rk boxes [⟨13, false, [(sc (.func (.func 75) #[] #[])), (vT (encT r5)), (.t (.agg [(cS k), (cS v)]))], [], (vT (encT (Tr.put r5 k v))), []⟩, ⟨14, false, [(sc (.func (.func 86) #[] #[])), (vT (encT l4)), (.t (.agg [(cS k2), (cS v3)])), (vT (encT (Tr.put r5 k v)))], [], (vT (encT (Tr.join l4 k2 v3 (Tr.put r5 k v)))), []⟩] [0, 3, 4] [3] ⟨68, [(0, (vT (encT (Tr.node k2 v3 l4 r5)))), (3, (vL 3 0)), (4, (vT (encT (Tr.join l4 k2 v3 (Tr.put r5 k v)))))], [(3, (.cells 81 [(cS k), (cS v)]))], []⟩ (by kernel_rfl) (.c (tri_call (s_put r5 k v (by (try simp only [Tr.size, Tr.size_downLess, Tr.size_downMore, Tr.size_join, big] at *); omega))) (.c (tri_call (s_join l4 k2 v3 (Tr.put r5 k v) (by have h1 := Tr.size_put r5 k v; (try simp only [Tr.size] at *); omega))) .n)) ?_
    refine peel_seq ?_
    refine awp_ret ?_
    refine peel_block_ret ?_
    refine peel_seq_ret ?_
    exact ends_ret rfl (show some ((vT (encT (Tr.join l4 k2 v3 (Tr.put r5 k v)))) : SV) = some ((vT (encT (Tr.put (Tr.node k2 v3 l4 r5) k v))) : SV) from by first | rfl | (simp only [Tr.put, hc6, hc7]; try simp [*])) rfl
   ·skip
    refine q_keep [0, 3, 4] [3] ?_
    refine awp_skip ?_
    refine peel_block ?_
    refine peel_seq ?_
    refine awp_seq ?_
    refine rk boxes [⟨9, false, [(sc (.func (.func 85) #[] #[])), (vT (encT l4)), (.t (.agg [(cS k), (cS v)])), (vT (encT r5))], [], (vT (encT (Tr.node k v l4 r5))), []⟩] [4] [] ⟨68, [(4, (vT (encT (Tr.node k v l4 r5))))], [], []⟩ (by kernel_rfl) (.c (tri_call (s_over l4 k v r5 (by (try simp only [Tr.size, Tr.size_downLess, Tr.size_downMore, Tr.size_join, big] at *); omega))) .n) ?_
    refine peel_seq ?_
    refine awp_ret ?_
    exact ends_ret rfl (show some ((vT (encT (Tr.node k v l4 r5))) : SV) = some ((vT (encT (Tr.put (Tr.node k2 v3 l4 r5) k v))) : SV) from by first | rfl | (simp only [Tr.put, hc6, hc7]; try simp [*])) rfl
termination_by structural t
theorem s_drop (t : Tr) (k : ByteArray) (hs : t.size ≤ big) : Sat Try.prog 76 [(vT (encT t)), (vS k)] [] (vT (encT (Tr.drop t k))) [] := by
 refine sat_of_body tab_ok Try.func76 rfl (by kernel_rfl) (Nat.le_of_ble_eq_true rfl) rfl fun G => ?_
 refine awp_seq ?_
 refine rk boxes [] [0, 1, 4] [] ⟨63, [(0, (vT (encT t))), (1, (vS k)), (4, (sc (.pointer none)))], [], []⟩ (by kernel_rfl) .n ?_
 refine peel_seq ?_
 refine awp_seq ?_
 refine awp_block ?_
 refine awp_seq ?_
 cases t with
 | nil =>
  refine rk boxes [] [0, 1, 4, 5] [] ⟨63, [(0, (vT (encT (Tr.nil)))), (1, (vS k)), (4, (sc (.pointer none))), (5, (vB true))], [], []⟩ (by kernel_rfl) .n ?_
  refine peel_seq ?_
  refine awp_true rfl ?_
  refine awp_seq ?_
  refine rk boxes [] [0, 4] [] ⟨63, [(0, (vT (encT (Tr.nil)))), (4, (sc (.pointer none)))], [], []⟩ (by kernel_rfl) .n ?_
  refine peel_seq ?_
  refine awp_ret ?_
  refine peel_block_ret ?_
  refine peel_seq_ret ?_
  exact ends_ret rfl (show some ((sc (.pointer none)) : SV) = some ((vT (encT (Tr.drop (Tr.nil) k))) : SV) from by first | rfl | (simp only [Tr.drop]; try simp [*])) rfl
 | node k2 v3 l4 r5 =>
  refine rk boxes [] [0, 1, 4, 5] [] ⟨63, [(0, (vT (encT (Tr.node k2 v3 l4 r5)))), (1, (vS k)), (4, (sc (.pointer none))), (5, (vB false))], [], []⟩ (by kernel_rfl) .n ?_
  refine peel_seq ?_
  refine awp_false rfl ?_
  refine awp_seq ?_
  refine rk boxes [⟨6, false, [(vS k), (vS k2)], [], (vB (ltS k k2)), []⟩] [0, 1, 4, 8] [] ⟨63, [(0, (vT (encT (Tr.node k2 v3 l4 r5)))), (1, (vS k)), (4, (sc (.pointer none))), (8, (vB (ltS k k2)))], [], []⟩ (by kernel_rfl) (.c (tri_str_lss) .n) ?_
  refine peel_seq ?_
  refine awp_cond (b := (ltS k k2)) rfl (fun hc6 => ?_) (fun hc6 => ?_)
  ·skip
   refine awp_seq ?_
   refine rk boxes [⟨5, false, [(sc (.func (.func 76) #[] #[])), (vT (encT l4)), (vS k)], [], (vT (encT (Tr.drop l4 k))), []⟩, ⟨14, false, [(sc (.func (.func 86) #[] #[])), (vT (encT (Tr.drop l4 k))), (.t (.agg [(cS k2), (cS v3)])), (vT (encT r5))], [], (vT (encT (Tr.join (Tr.drop l4 k) k2 v3 r5))), []⟩] [0, 4] [] ⟨63, [(0, (vT (encT (Tr.node k2 v3 l4 r5)))), (4, (vT (encT (Tr.join (Tr.drop l4 k) k2 v3 r5))))], [], []⟩ (by kernel_rfl) (.c (tri_call (s_drop l4 k (by (try simp only [Tr.size, Tr.size_downLess, Tr.size_downMore, Tr.size_join, big] at *); omega))) (.c (tri_call (s_join (Tr.drop l4 k) k2 v3 r5 (by have h1 := Tr.size_drop l4 k; (try simp only [Tr.size] at *); omega))) .n)) ?_
   refine peel_seq ?_
   refine awp_ret ?_
   refine peel_block_ret ?_
   refine peel_seq_ret ?_
   exact ends_ret rfl (show some ((vT (encT (Tr.join (Tr.drop l4 k) k2 v3 r5))) : SV) = some ((vT (encT (Tr.drop (Tr.node k2 v3 l4 r5) k))) : SV) from by first | rfl | (simp only [Tr.drop, hc6]; try simp [*])) rfl
  ·skip
   refine awp_seq ?_
   refine rk boxes [⟨6, false, [(vS k), (vS k2)], [], (vB (ltS k2 k)), []⟩] [0, 1, 4, 31] [] ⟨63, [(0, (vT (encT (Tr.node k2 v3 l4 r5)))), (1, (vS k)), (4, (sc (.pointer none))), (31, (vB (ltS k2 k)))], [], []⟩ (by kernel_rfl) (.c (tri_str_gtr) .n) ?_
   refine peel_seq ?_
   refine awp_cond (b := (ltS k2 k)) rfl (fun hc7 => ?_) (fun hc7 => ?_)
   ·skip
    refine awp_seq ?_
    refine rk boxes [⟨13, false, [(sc (.func (.func 76) #[] #[])), (vT (encT r5)), (vS k)], [], (vT (encT (Tr.drop r5 k))), []⟩, ⟨14, false, [(sc (.func (.func 86) #[] #[])), (vT (encT l4)), (.t (.agg [(cS k2), (cS v3)])), (vT (encT (Tr.drop r5 k)))], [], (vT (encT (Tr.join l4 k2 v3 (Tr.drop r5 k)))), []⟩] [0, 4] [] ⟨63, [(0, (vT (encT (Tr.node k2 v3 l4 r5)))), (4, (vT (encT (Tr.join l4 k2 v3 (Tr.drop r5 k)))))], [], []⟩ (by kernel_rfl) (.c (tri_call (s_drop r5 k (by (try simp only [Tr.size, Tr.size_downLess, Tr.size_downMore, Tr.size_join, big] at *); omega))) (.c (tri_call (s_join l4 k2 v3 (Tr.drop r5 k) (by have h1 := Tr.size_drop r5 k; (try simp only [Tr.size] at *); omega))) .n)) ?_
    refine peel_seq ?_
    refine awp_ret ?_
    refine peel_block_ret ?_
    refine peel_seq_ret ?_
    exact ends_ret rfl (show some ((vT (encT (Tr.join l4 k2 v3 (Tr.drop r5 k)))) : SV) = some ((vT (encT (Tr.drop (Tr.node k2 v3 l4 r5) k))) : SV) from by first | rfl | (simp only [Tr.drop, hc6, hc7]; try simp [*])) rfl
   ·skip
    refine q_keep [0, 4] [] ?_
    refine awp_skip ?_
    refine peel_block ?_
    refine peel_seq ?_
    refine awp_seq ?_
    refine rk boxes [⟨8, false, [(sc (.func (.func 87) #[] #[])), (vT (encT l4)), (vT (encT r5))], [], (vT (encT (Tr.glue l4 r5))), []⟩] [4] [] ⟨63, [(4, (vT (encT (Tr.glue l4 r5))))], [], []⟩ (by kernel_rfl) (.c (tri_call (s_glue l4 r5 (by (try simp only [Tr.size, Tr.size_downLess, Tr.size_downMore, Tr.size_join, big] at *); omega))) .n) ?_
    refine peel_seq ?_
    refine awp_ret ?_
    exact ends_ret rfl (show some ((vT (encT (Tr.glue l4 r5))) : SV) = some ((vT (encT (Tr.drop (Tr.node k2 v3 l4 r5) k))) : SV) from by first | rfl | (simp only [Tr.drop, hc6, hc7]; try simp [*])) rfl
termination_by structural t
theorem s_top (t : Tr) : Sat Try.prog 70 [(vT (dP [(encT t)]))] [] (vT (encT t)) [] := by
 refine sat_of_body tab_ok Try.func70 rfl (by kernel_rfl) (Nat.le_of_ble_eq_true rfl) rfl fun G => ?_
 refine awp_seq ?_
 refine rk boxes [] [0, 2] [] ⟨9, [(0, (vT (dP [(encT t)]))), (2, (sc (.pointer none)))], [], []⟩ (by kernel_rfl) .n ?_
 refine peel_seq ?_
 refine awp_seq ?_
 refine awp_seq ?_
 refine rk boxes [] [0, 2, 4] [] ⟨9, [(0, (vT (dP [(encT t)]))), (2, (sc (.pointer none))), (4, (vB false))], [], []⟩ (by kernel_rfl) .n ?_
 refine peel_seq ?_
 refine awp_false rfl ?_
 refine awp_skip ?_
 refine peel_seq ?_
 refine awp_seq ?_
 refine rk boxes [] [2] [] ⟨9, [(2, (vT (encT t)))], [], []⟩ (by kernel_rfl) .n ?_
 refine peel_seq ?_
 refine awp_ret ?_
 exact ends_ret rfl rfl rfl
theorem s_Len (t : Tr) : Sat Try.prog 44 [(vT (dP [(encT t)]))] [] (vI (t.size : Int)) [] := by
 refine sat_of_body tab_ok Try.func44 rfl (by kernel_rfl) (Nat.le_of_ble_eq_true rfl) rfl fun G => ?_
 refine awp_seq ?_
 refine rk boxes [] [0, 2] [] ⟨6, [(0, (vT (dP [(encT t)]))), (2, (vI 0))], [], []⟩ (by kernel_rfl) .n ?_
 refine peel_seq ?_
 refine awp_seq ?_
 refine rk boxes [⟨1, false, [(sc (.func (.func 70) #[] #[])), (vT (dP [(encT t)]))], [], (vT (encT t)), []⟩, ⟨2, false, [(sc (.func (.func 71) #[] #[])), (vT (encT t))], [], (vI (t.size : Int)), []⟩] [2] [] ⟨6, [(2, (vI (t.size : Int)))], [], []⟩ (by kernel_rfl) (.c (tri_call (s_top t)) (.c (tri_call (s_size t)) .n)) ?_
 refine peel_seq ?_
 refine awp_ret ?_
 exact ends_ret rfl rfl rfl
theorem s_TNew  : Sat Try.prog 46 [] [] (vT (dP [(encT (Tr.nil))])) [] := by
 refine sat_of_body tab_ok Try.func46 rfl (by kernel_rfl) (Nat.le_of_ble_eq_true rfl) rfl fun G => ?_
 refine awp_seq ?_
 refine rk boxes [] [0] [] ⟨3, [(0, (sc (.pointer none)))], [], []⟩ (by kernel_rfl) .n ?_
 refine peel_seq ?_
 refine awp_seq ?_
 refine rk boxes [] [0] [] ⟨3, [(0, (vT (dP [(.v (.pointer none))])))], [], []⟩ (by kernel_rfl) .n ?_
 refine peel_seq ?_
 refine awp_ret ?_
 exact ends_ret rfl rfl rfl
theorem s_TPut (t : Tr) (k v : ByteArray) (hs : t.size + 1 ≤ big) : Sat Try.prog 47 [(vT (dP [(encT t)])), (vS k), (vS v)] [] (vT (dP [(encT (Tr.putT t k v))])) [] := by
 refine sat_of_body tab_ok Try.func47 rfl (by kernel_rfl) (Nat.le_of_ble_eq_true rfl) rfl fun G => ?_
 refine awp_seq ?_
 refine rk boxes [] [0, 1, 2, 6] [] ⟨35, [(0, (vT (dP [(encT t)]))), (1, (vS k)), (2, (vS v)), (6, (sc (.pointer none)))], [], []⟩ (by kernel_rfl) .n ?_
 refine peel_seq ?_
 refine awp_seq ?_
 refine awp_seq ?_
 refine rk boxes [⟨1, false, [(sc (.func (.func 70) #[] #[])), (vT (dP [(encT t)]))], [], (vT (encT t)), []⟩, ⟨3, false, [(sc (.func (.func 74) #[] #[])), (vT (encT t)), (vS k)], [], (vT (encT (Tr.find t k))), []⟩] [0, 1, 2, 6, 7] [] ⟨35, [(0, (vT (dP [(encT t)]))), (1, (vS k)), (2, (vS v)), (6, (sc (.pointer none))), (7, (vT (encT (Tr.find t k))))], [], []⟩ (by kernel_rfl) (.c (tri_call (s_top t)) (.c (tri_call (s_find t k)) .n)) ?_
 refine peel_seq ?_
 refine awp_seq ?_
 cases hx1 : (Tr.find t k) with
 | nil =>
  have hx1s := congrArg Tr.size hx1
  simp only [Tr.size_downLess, Tr.size_downMore, Tr.size_join, Tr.size] at hx1s
  refine rk boxes [] [0, 1, 2, 6, 22] [] ⟨35, [(0, (vT (dP [(encT t)]))), (1, (vS k)), (2, (vS v)), (6, (sc (.pointer none))), (22, (vB false))], [], []⟩ (by kernel_rfl) .n ?_
  refine peel_seq ?_
  refine awp_false rfl ?_
  refine awp_skip ?_
  refine peel_seq ?_
  refine awp_seq ?_
  refine rk boxes [⟨1, false, [(sc (.func (.func 70) #[] #[])), (vT (dP [(encT t)]))], [], (vT (encT t)), []⟩, ⟨5, false, [(sc (.func (.func 75) #[] #[])), (vT (encT t)), (.t (.agg [(cS k), (cS v)]))], [], (vT (encT (Tr.put t k v))), []⟩] [6] [] ⟨35, [(6, (vT (dP [(encT (Tr.put t k v))])))], [], []⟩ (by kernel_rfl) (.c (tri_call (s_top t)) (.c (tri_call (s_put t k v (by (try simp only [Tr.size, Tr.size_downLess, Tr.size_downMore, Tr.size_join, big] at *); omega))) .n)) ?_
  refine peel_seq ?_
  refine awp_ret ?_
  exact ends_ret rfl (show some ((vT (dP [(encT (Tr.put t k v))])) : SV) = some ((vT (dP [(encT (Tr.putT t k v))])) : SV) from by first | rfl | (simp [Tr.putT, hx1])) rfl
 | node k2 v3 l4 r5 =>
  have hx1s := congrArg Tr.size hx1
  simp only [Tr.size_downLess, Tr.size_downMore, Tr.size_join, Tr.size] at hx1s
  refine rk boxes [⟨9, false, [(vS v3), (vS v)], [], (vB (eqS v3 v)), []⟩] [0, 1, 2, 6, 22] [] ⟨35, [(0, (vT (dP [(encT t)]))), (1, (vS k)), (2, (vS v)), (6, (sc (.pointer none))), (22, (vB (eqS v3 v)))], [], []⟩ (by kernel_rfl) (.c (tri_str_eql) .n) ?_
  refine peel_seq ?_
  refine awp_cond (b := (eqS v3 v)) rfl (fun hc6 => ?_) (fun hc6 => ?_)
  ·skip
   have hc6p := eqS_true hc6
   refine awp_seq ?_
   refine rk boxes [⟨1, false, [(sc (.func (.func 70) #[] #[])), (vT (dP [(encT t)]))], [], (vT (encT t)), []⟩] [0, 1, 2, 6] [] ⟨35, [(0, (vT (dP [(encT t)]))), (1, (vS k)), (2, (vS v)), (6, (vT (dP [(encT t)])))], [], []⟩ (by kernel_rfl) (.c (tri_call (s_top t)) .n) ?_
   refine peel_seq ?_
   refine awp_ret ?_
   refine peel_seq_ret ?_
   exact ends_ret rfl (show some ((vT (dP [(encT t)])) : SV) = some ((vT (dP [(encT (Tr.putT t k v))])) : SV) from by first | rfl | (simp [Tr.putT, hx1, hc6])) rfl
  ·skip
   have hc6p := eqS_false hc6
   refine awp_skip ?_
   refine peel_seq ?_
   refine awp_seq ?_
   refine rk boxes [⟨1, false, [(sc (.func (.func 70) #[] #[])), (vT (dP [(encT t)]))], [], (vT (encT t)), []⟩, ⟨5, false, [(sc (.func (.func 75) #[] #[])), (vT (encT t)), (.t (.agg [(cS k), (cS v)]))], [], (vT (encT (Tr.put t k v))), []⟩] [6] [] ⟨35, [(6, (vT (dP [(encT (Tr.put t k v))])))], [], []⟩ (by kernel_rfl) (.c (tri_call (s_top t)) (.c (tri_call (s_put t k v (by (try simp only [Tr.size, Tr.size_downLess, Tr.size_downMore, Tr.size_join, big] at *); omega))) .n)) ?_
   refine peel_seq ?_
   refine awp_ret ?_
   exact ends_ret rfl (show some ((vT (dP [(encT (Tr.put t k v))])) : SV) = some ((vT (dP [(encT (Tr.putT t k v))])) : SV) from by first | rfl | (simp [Tr.putT, hx1, hc6])) rfl
theorem s_TDrop (t : Tr) (k : ByteArray) (hs : t.size ≤ big) : Sat Try.prog 50 [(vT (dP [(encT t)])), (vS k)] [] (vT (dP [(encT (Tr.dropT t k))])) [] := by
 refine sat_of_body tab_ok Try.func50 rfl (by kernel_rfl) (Nat.le_of_ble_eq_true rfl) rfl fun G => ?_
 refine awp_seq ?_
 refine rk boxes [] [0, 1, 4] [] ⟨20, [(0, (vT (dP [(encT t)]))), (1, (vS k)), (4, (sc (.pointer none)))], [], []⟩ (by kernel_rfl) .n ?_
 refine peel_seq ?_
 refine awp_seq ?_
 refine awp_seq ?_
 cases hx1 : (Tr.find t k) with
 | nil =>
  have hx1s := congrArg Tr.size hx1
  simp only [Tr.size_downLess, Tr.size_downMore, Tr.size_join, Tr.size] at hx1s
  refine rk boxes [⟨1, false, [(sc (.func (.func 70) #[] #[])), (vT (dP [(encT t)]))], [], (vT (encT t)), []⟩, ⟨3, false, [(sc (.func (.func 74) #[] #[])), (vT (encT t)), (vS k)], [], (vT (encT (Tr.nil))), []⟩] [0, 1, 4, 9] [] ⟨20, [(0, (vT (dP [(encT t)]))), (1, (vS k)), (4, (sc (.pointer none))), (9, (vB true))], [], []⟩ (by kernel_rfl) (.c (tri_call (s_top t)) (.c (tri_call (by have h := (s_find t k); rw [hx1] at h; exact h)) .n)) ?_
  refine peel_seq ?_
  refine awp_true rfl ?_
  refine awp_seq ?_
  refine rk boxes [⟨1, false, [(sc (.func (.func 70) #[] #[])), (vT (dP [(encT t)]))], [], (vT (encT t)), []⟩] [0, 1, 4] [] ⟨20, [(0, (vT (dP [(encT t)]))), (1, (vS k)), (4, (vT (dP [(encT t)])))], [], []⟩ (by kernel_rfl) (.c (tri_call (s_top t)) .n) ?_
  refine peel_seq ?_
  refine awp_ret ?_
  refine peel_seq_ret ?_
  exact ends_ret rfl (show some ((vT (dP [(encT t)])) : SV) = some ((vT (dP [(encT (Tr.dropT t k))])) : SV) from by first | rfl | (simp [Tr.dropT, hx1])) rfl
 | node k2 v3 l4 r5 =>
  have hx1s := congrArg Tr.size hx1
  simp only [Tr.size_downLess, Tr.size_downMore, Tr.size_join, Tr.size] at hx1s
  refine rk boxes [⟨1, false, [(sc (.func (.func 70) #[] #[])), (vT (dP [(encT t)]))], [], (vT (encT t)), []⟩, ⟨3, false, [(sc (.func (.func 74) #[] #[])), (vT (encT t)), (vS k)], [], (vT (encT (Tr.node k2 v3 l4 r5))), []⟩] [0, 1, 4, 9] [] ⟨20, [(0, (vT (dP [(encT t)]))), (1, (vS k)), (4, (sc (.pointer none))), (9, (vB false))], [], []⟩ (by kernel_rfl) (.c (tri_call (s_top t)) (.c (tri_call (by have h := (s_find t k); rw [hx1] at h; exact h)) .n)) ?_
  refine peel_seq ?_
  refine awp_false rfl ?_
  refine awp_skip ?_
  refine peel_seq ?_
  refine awp_seq ?_
  refine rk boxes [⟨1, false, [(sc (.func (.func 70) #[] #[])), (vT (dP [(encT t)]))], [], (vT (encT t)), []⟩, ⟨3, false, [(sc (.func (.func 76) #[] #[])), (vT (encT t)), (vS k)], [], (vT (encT (Tr.drop t k))), []⟩] [4] [] ⟨20, [(4, (vT (dP [(encT (Tr.drop t k))])))], [], []⟩ (by kernel_rfl) (.c (tri_call (s_top t)) (.c (tri_call (s_drop t k (by (try simp only [Tr.size, Tr.size_downLess, Tr.size_downMore, Tr.size_join, big] at *); omega))) .n)) ?_
  refine peel_seq ?_
  refine awp_ret ?_
  exact ends_ret rfl (show some ((vT (dP [(encT (Tr.drop t k))])) : SV) = some ((vT (dP [(encT (Tr.dropT t k))])) : SV) from by first | rfl | (simp [Tr.dropT, hx1])) rfl
theorem s_TGet (t : Tr) (k : ByteArray) : Sat Try.prog 49 [(vT (dP [(encT t)])), (vS k)] [] (.tup [(.c (cS (Tr.getT t k).1)), (.c (cB (Tr.getT t k).2))]) [] := by
 refine sat_of_body tab_ok Try.func49 rfl (by kernel_rfl) (Nat.le_of_ble_eq_true rfl) rfl fun G => ?_
 refine awp_seq ?_
 refine rk boxes [] [0, 1, 4, 5] [] ⟨18, [(0, (vT (dP [(encT t)]))), (1, (vS k)), (4, (vS ⟨#[]⟩)), (5, (vB false))], [], []⟩ (by kernel_rfl) .n ?_
 refine peel_seq ?_
 refine awp_seq ?_
 refine awp_seq ?_
 refine rk boxes [⟨1, false, [(sc (.func (.func 70) #[] #[])), (vT (dP [(encT t)]))], [], (vT (encT t)), []⟩, ⟨3, false, [(sc (.func (.func 74) #[] #[])), (vT (encT t)), (vS k)], [], (vT (encT (Tr.find t k))), []⟩] [4, 5, 6] [] ⟨18, [(4, (vS ⟨#[]⟩)), (5, (vB false)), (6, (vT (encT (Tr.find t k))))], [], []⟩ (by kernel_rfl) (.c (tri_call (s_top t)) (.c (tri_call (s_find t k)) .n)) ?_
 refine peel_seq ?_
 refine awp_seq ?_
 cases hx1 : (Tr.find t k) with
 | nil =>
  have hx1s := congrArg Tr.size hx1
  simp only [Tr.size_downLess, Tr.size_downMore, Tr.size_join, Tr.size] at hx1s
  refine rk boxes [] [4, 5, 6, 12] [] ⟨18, [(4, (vS ⟨#[]⟩)), (5, (vB false)), (6, (vT (encT (Tr.nil)))), (12, (vB false))], [], []⟩ (by kernel_rfl) .n ?_
  refine peel_seq ?_
  refine awp_false rfl ?_
  refine awp_skip ?_
  refine peel_seq ?_
  refine awp_seq ?_
  refine rk boxes [] [4, 5] [] ⟨18, [(4, (vS ⟨#[]⟩)), (5, (vB false))], [], []⟩ (by kernel_rfl) .n ?_
  refine peel_seq ?_
  refine awp_ret ?_
  exact ends_ret rfl (show some ((.tup [(.c (cS ⟨#[]⟩)), (.c (cB false))]) : SV) = some ((.tup [(.c (cS (Tr.getT t k).1)), (.c (cB (Tr.getT t k).2))]) : SV) from by first | rfl | (simp [Tr.getT, hx1])) rfl
 | node k2 v3 l4 r5 =>
  have hx1s := congrArg Tr.size hx1
  simp only [Tr.size_downLess, Tr.size_downMore, Tr.size_join, Tr.size] at hx1s
  refine rk boxes [] [4, 5, 6, 12] [] ⟨18, [(4, (vS ⟨#[]⟩)), (5, (vB false)), (6, (vT (encT (Tr.node k2 v3 l4 r5)))), (12, (vB true))], [], []⟩ (by kernel_rfl) .n ?_
  refine peel_seq ?_
  refine awp_true rfl ?_
  refine awp_seq ?_
  refine rk boxes [] [4, 5] [] ⟨18, [(4, (vS v3)), (5, (vB true))], [], []⟩ (by kernel_rfl) .n ?_
  refine peel_seq ?_
  refine awp_ret ?_
  refine peel_seq_ret ?_
  exact ends_ret rfl (show some ((.tup [(.c (cS v3)), (.c (cB true))]) : SV) = some ((.tup [(.c (cS (Tr.getT t k).1)), (.c (cB (Tr.getT t k).2))]) : SV) from by first | rfl | (simp [Tr.getT, hx1])) rfl
end Go.Proofs.Ytjbiaoajmdbigaa
