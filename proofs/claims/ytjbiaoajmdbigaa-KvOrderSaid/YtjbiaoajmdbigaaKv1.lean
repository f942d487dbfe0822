/- Walks of package kv: whether a map is made, how many keys, what a key has; why operations can't be. -/
import Derived.Test.YtjbiaoajmdbigaaTree5
import Derived.Test.YtjbiaoajmdbigaaText1
import Derived.Test.YtjbiaoajmdbigaaKv
set_option maxRecDepth 100000
set_option linter.unusedVariables false
set_option linter.unusedSimpArgs false
namespace Go.Proofs.Ytjbiaoajmdbigaa
open Go Go.E
theorem k_made (t : Tr) : Sat Try.prog 42 [(.t (.c (.loc 5000 0)))] [(5000, (.cells 51 [(.d (.ptr [(encT t)]))]))] (sc (.bool true)) [(5000, (.cells 51 [(.d (.ptr [(encT t)]))]))] := by
  refine sat_of_body tab_ok Try.func42 rfl (by kernel_rfl) (Nat.le_of_ble_eq_true rfl) rfl fun G => ?_
  refine awp_seq ?_
  refine awp_region_keep tab_ok boxes [] [0, 2] [5000] ⟨12, [(0, (.t (.c (.loc 5000 0)))), (2, (sc (.bool false)))], [(5000, (.cells 51 [(.d (.ptr [(encT t)]))]))], [5000]⟩ [] mixed (by kernel_rfl) trivial ?_
  refine peel_seq ?_
  refine awp_seq ?_
  refine awp_region_keep tab_ok boxes [] [2] [5000] ⟨12, [(2, (sc (.bool true)))], [(5000, (.cells 51 [(.d (.ptr [(encT t)]))]))], [5000]⟩ [] mixed (by kernel_rfl) trivial ?_
  refine peel_seq ?_
  refine awp_ret ?_
  exact ends_ret rfl rfl rfl
theorem k_made_nil  : Sat Try.prog 42 [(sc (.pointer none))] [] (sc (.bool false)) [] := by
  refine sat_of_body tab_ok Try.func42 rfl (by kernel_rfl) (Nat.le_of_ble_eq_true rfl) rfl fun G => ?_
  refine awp_seq ?_
  refine awp_region_keep tab_ok boxes [] [0, 2] [] ⟨12, [(0, (sc (.pointer none))), (2, (sc (.bool false)))], [], []⟩ [] mixed (by kernel_rfl) trivial ?_
  refine peel_seq ?_
  refine awp_seq ?_
  refine awp_region_keep tab_ok boxes [] [2] [] ⟨12, [(2, (sc (.bool false)))], [], []⟩ [] mixed (by kernel_rfl) trivial ?_
  refine peel_seq ?_
  refine awp_ret ?_
  exact ends_ret rfl rfl rfl
theorem k_made_zero  : Sat Try.prog 42 [(.t (.c (.d (.ptr [(.v (.pointer none))]))))] [] (sc (.bool false)) [] := by
  refine sat_of_body tab_ok Try.func42 rfl (by kernel_rfl) (Nat.le_of_ble_eq_true rfl) rfl fun G => ?_
  refine awp_seq ?_
  refine awp_region_keep tab_ok boxes [] [0, 2] [] ⟨12, [(0, (.t (.c (.d (.ptr [(.v (.pointer none))]))))), (2, (sc (.bool false)))], [], []⟩ [] mixed (by kernel_rfl) trivial ?_
  refine peel_seq ?_
  refine awp_seq ?_
  refine awp_region_keep tab_ok boxes [] [2] [] ⟨12, [(2, (sc (.bool false)))], [], []⟩ [] mixed (by kernel_rfl) trivial ?_
  refine peel_seq ?_
  refine awp_ret ?_
  exact ends_ret rfl rfl rfl
theorem k_Len (t : Tr) : Sat Try.prog 22 [(.t (.c (.loc 5000 0)))] [(5000, (.cells 51 [(.d (.ptr [(encT t)]))]))] (sc (.int .i64 (t.size : Int))) [(5000, (.cells 51 [(.d (.ptr [(encT t)]))]))] := by
  refine sat_of_body tab_ok Try.func22 rfl (by kernel_rfl) (Nat.le_of_ble_eq_true rfl) rfl fun G => ?_
  refine awp_seq ?_
  refine awp_region_keep tab_ok boxes [] [0, 2] [5000] ⟨11, [(0, (.t (.c (.loc 5000 0)))), (2, (sc (.int .i64 0)))], [(5000, (.cells 51 [(.d (.ptr [(encT t)]))]))], [5000]⟩ [] mixed (by kernel_rfl) trivial ?_
  refine peel_seq ?_
  refine awp_seq ?_
  refine awp_seq ?_
  refine awp_region_keep tab_ok boxes [(1, ⟨[5000], (sc (.bool true)), none⟩)] [0, 2, 5] [5000] ⟨11, [(0, (.t (.c (.loc 5000 0)))), (2, (sc (.int .i64 0))), (5, (sc (.bool false)))], [(5000, (.cells 51 [(.d (.ptr [(encT t)]))]))], [5000]⟩ [⟨(Go.Op.call (Go.Call.mk (Go.Callee.value (Go.Operand.func 42)) #[(Go.Operand.tmp 3)] #[28])), 4, [(sc (.func (.func 42) #[] #[])), (.t (.c (.loc 5000 0)))], [(5000, (.cells 51 [(.d (.ptr [(encT t)]))]))], (sc (.bool true)), [(5000, (.cells 51 [(.d (.ptr [(encT t)]))]))]⟩] mixed (by kernel_rfl) ⟨tri_call (k_made t), trivial⟩ ?_
  refine peel_seq ?_
  refine awp_false rfl ?_
  refine awp_skip ?_
  refine peel_seq ?_
  refine awp_seq ?_
  refine awp_region_keep tab_ok boxes [(4, ⟨[], (sc (.int .i64 (t.size : Int))), some []⟩)] [2] [5000] ⟨11, [(2, (sc (.int .i64 (t.size : Int))))], [(5000, (.cells 51 [(.d (.ptr [(encT t)]))]))], [5000]⟩ [⟨(Go.Op.call (Go.Call.mk (Go.Callee.value (Go.Operand.func 44)) #[(Go.Operand.tmp 9)] #[49])), 3, [(sc (.func (.func 44) #[] #[])), (.t (.c (.d (.ptr [(encT t)]))))], [], (sc (.int .i64 (t.size : Int))), []⟩] mixed (by kernel_rfl) ⟨tri_call (s_Len t), trivial⟩ ?_
  refine peel_seq ?_
  refine awp_ret ?_
  exact ends_ret rfl rfl rfl
theorem k_Len_nil  : Sat Try.prog 22 [(sc (.pointer none))] [] (sc (.int .i64 0)) [] := by
  refine sat_of_body tab_ok Try.func22 rfl (by kernel_rfl) (Nat.le_of_ble_eq_true rfl) rfl fun G => ?_
  refine awp_seq ?_
  refine awp_region_keep tab_ok boxes [] [0, 2] [] ⟨11, [(0, (sc (.pointer none))), (2, (sc (.int .i64 0)))], [], []⟩ [] mixed (by kernel_rfl) trivial ?_
  refine peel_seq ?_
  refine awp_seq ?_
  refine awp_seq ?_
  refine awp_region_keep tab_ok boxes [(1, ⟨[], (sc (.bool false)), some []⟩)] [0, 2, 5] [] ⟨11, [(0, (sc (.pointer none))), (2, (sc (.int .i64 0))), (5, (sc (.bool true)))], [], []⟩ [⟨(Go.Op.call (Go.Call.mk (Go.Callee.value (Go.Operand.func 42)) #[(Go.Operand.tmp 3)] #[28])), 4, [(sc (.func (.func 42) #[] #[])), (sc (.pointer none))], [], (sc (.bool false)), []⟩] mixed (by kernel_rfl) ⟨tri_call (k_made_nil), trivial⟩ ?_
  refine peel_seq ?_
  refine awp_true rfl ?_
  refine awp_seq ?_
  refine awp_region_keep tab_ok boxes [] [0, 2] [] ⟨11, [(0, (sc (.pointer none))), (2, (sc (.int .i64 0)))], [], []⟩ [] mixed (by kernel_rfl) trivial ?_
  refine peel_seq ?_
  refine awp_ret ?_
  refine peel_seq_ret ?_
  exact ends_ret rfl rfl rfl
theorem k_Len_zero  : Sat Try.prog 22 [(.t (.c (.d (.ptr [(.v (.pointer none))]))))] [] (sc (.int .i64 0)) [] := by
  refine sat_of_body tab_ok Try.func22 rfl (by kernel_rfl) (Nat.le_of_ble_eq_true rfl) rfl fun G => ?_
  refine awp_seq ?_
  refine awp_region_keep tab_ok boxes [] [0, 2] [] ⟨11, [(0, (.t (.c (.d (.ptr [(.v (.pointer none))]))))), (2, (sc (.int .i64 0)))], [], []⟩ [] mixed (by kernel_rfl) trivial ?_
  refine peel_seq ?_
  refine awp_seq ?_
  refine awp_seq ?_
  refine awp_region_keep tab_ok boxes [(1, ⟨[], (sc (.bool false)), some []⟩)] [0, 2, 5] [] ⟨11, [(0, (.t (.c (.d (.ptr [(.v (.pointer none))]))))), (2, (sc (.int .i64 0))), (5, (sc (.bool true)))], [], []⟩ [⟨(Go.Op.call (Go.Call.mk (Go.Callee.value (Go.Operand.func 42)) #[(Go.Operand.tmp 3)] #[28])), 4, [(sc (.func (.func 42) #[] #[])), (.t (.c (.d (.ptr [(.v (.pointer none))]))))], [], (sc (.bool false)), []⟩] mixed (by kernel_rfl) ⟨tri_call (k_made_zero), trivial⟩ ?_
  refine peel_seq ?_
  refine awp_true rfl ?_
  refine awp_seq ?_
  refine awp_region_keep tab_ok boxes [] [0, 2] [] ⟨11, [(0, (.t (.c (.d (.ptr [(.v (.pointer none))]))))), (2, (sc (.int .i64 0)))], [], []⟩ [] mixed (by kernel_rfl) trivial ?_
  refine peel_seq ?_
  refine awp_ret ?_
  refine peel_seq_ret ?_
  exact ends_ret rfl rfl rfl
theorem k_Get (t : Tr) (k : ByteArray) : Sat Try.prog 20 [(.t (.c (.loc 5000 0))), (sc (.string k))] [(5000, (.cells 51 [(.d (.ptr [(encT t)]))]))] (.tup [(.c (.d (.v (.string (Tr.getT t k).1)))), (.c (.d (.v (.bool (Tr.getT t k).2))))]) [(5000, (.cells 51 [(.d (.ptr [(encT t)]))]))] := by
  refine sat_of_body tab_ok Try.func20 rfl (by kernel_rfl) (Nat.le_of_ble_eq_true rfl) rfl fun G => ?_
  refine awp_seq ?_
  refine awp_region_keep tab_ok boxes [] [0, 1, 4, 5] [5000] ⟨17, [(0, (.t (.c (.loc 5000 0)))), (1, (sc (.string k))), (4, (sc (.string ⟨#[]⟩))), (5, (sc (.bool false)))], [(5000, (.cells 51 [(.d (.ptr [(encT t)]))]))], [5000]⟩ [] mixed (by kernel_rfl) trivial ?_
  refine peel_seq ?_
  refine awp_seq ?_
  refine awp_seq ?_
  refine awp_region_keep tab_ok boxes [(1, ⟨[5000], (sc (.bool true)), none⟩)] [0, 1, 4, 5, 8] [5000] ⟨17, [(0, (.t (.c (.loc 5000 0)))), (1, (sc (.string k))), (4, (sc (.string ⟨#[]⟩))), (5, (sc (.bool false))), (8, (sc (.bool false)))], [(5000, (.cells 51 [(.d (.ptr [(encT t)]))]))], [5000]⟩ [⟨(Go.Op.call (Go.Call.mk (Go.Callee.value (Go.Operand.func 42)) #[(Go.Operand.tmp 6)] #[28])), 4, [(sc (.func (.func 42) #[] #[])), (.t (.c (.loc 5000 0)))], [(5000, (.cells 51 [(.d (.ptr [(encT t)]))]))], (sc (.bool true)), [(5000, (.cells 51 [(.d (.ptr [(encT t)]))]))]⟩] mixed (by kernel_rfl) ⟨tri_call (k_made t), trivial⟩ ?_
  refine peel_seq ?_
  refine awp_false rfl ?_
  refine awp_skip ?_
  refine peel_seq ?_
  refine awp_seq ?_
  refine awp_region_keep tab_ok boxes [(5, ⟨[], (.tup [(.c (.d (.v (.string (Tr.getT t k).1)))), (.c (.d (.v (.bool (Tr.getT t k).2))))]), some []⟩)] [4, 5] [5000] ⟨17, [(4, (sc (.string (Tr.getT t k).1))), (5, (sc (.bool (Tr.getT t k).2)))], [(5000, (.cells 51 [(.d (.ptr [(encT t)]))]))], [5000]⟩ [⟨(Go.Op.call (Go.Call.mk (Go.Callee.value (Go.Operand.func 49)) #[(Go.Operand.tmp 12), (Go.Operand.tmp 13)] #[49, 9])), 53, [(sc (.func (.func 49) #[] #[])), (.t (.c (.d (.ptr [(encT t)])))), (sc (.string k))], [], (.tup [(.c (.d (.v (.string (Tr.getT t k).1)))), (.c (.d (.v (.bool (Tr.getT t k).2))))]), []⟩] mixed (by kernel_rfl) ⟨tri_call (s_TGet t k), trivial⟩ ?_
  refine peel_seq ?_
  refine awp_ret ?_
  exact ends_ret rfl rfl rfl
theorem k_Get_nil (k : ByteArray) : Sat Try.prog 20 [(sc (.pointer none)), (sc (.string k))] [] (.tup [(.c (.d (.v (.string ⟨#[]⟩)))), (.c (.d (.v (.bool false))))]) [] := by
  refine sat_of_body tab_ok Try.func20 rfl (by kernel_rfl) (Nat.le_of_ble_eq_true rfl) rfl fun G => ?_
  refine awp_seq ?_
  refine awp_region_keep tab_ok boxes [] [0, 1, 4, 5] [] ⟨17, [(0, (sc (.pointer none))), (1, (sc (.string k))), (4, (sc (.string ⟨#[]⟩))), (5, (sc (.bool false)))], [], []⟩ [] mixed (by kernel_rfl) trivial ?_
  refine peel_seq ?_
  refine awp_seq ?_
  refine awp_seq ?_
  refine awp_region_keep tab_ok boxes [(1, ⟨[], (sc (.bool false)), some []⟩)] [0, 1, 4, 5, 8] [] ⟨17, [(0, (sc (.pointer none))), (1, (sc (.string k))), (4, (sc (.string ⟨#[]⟩))), (5, (sc (.bool false))), (8, (sc (.bool true)))], [], []⟩ [⟨(Go.Op.call (Go.Call.mk (Go.Callee.value (Go.Operand.func 42)) #[(Go.Operand.tmp 6)] #[28])), 4, [(sc (.func (.func 42) #[] #[])), (sc (.pointer none))], [], (sc (.bool false)), []⟩] mixed (by kernel_rfl) ⟨tri_call (k_made_nil), trivial⟩ ?_
  refine peel_seq ?_
  refine awp_true rfl ?_
  refine awp_seq ?_
  refine awp_region_keep tab_ok boxes [] [0, 1, 4, 5] [] ⟨17, [(0, (sc (.pointer none))), (1, (sc (.string k))), (4, (sc (.string ⟨#[]⟩))), (5, (sc (.bool false)))], [], []⟩ [] mixed (by kernel_rfl) trivial ?_
  refine peel_seq ?_
  refine awp_ret ?_
  refine peel_seq_ret ?_
  exact ends_ret rfl rfl rfl
theorem k_Get_zero (k : ByteArray) : Sat Try.prog 20 [(.t (.c (.d (.ptr [(.v (.pointer none))])))), (sc (.string k))] [] (.tup [(.c (.d (.v (.string ⟨#[]⟩)))), (.c (.d (.v (.bool false))))]) [] := by
  refine sat_of_body tab_ok Try.func20 rfl (by kernel_rfl) (Nat.le_of_ble_eq_true rfl) rfl fun G => ?_
  refine awp_seq ?_
  refine awp_region_keep tab_ok boxes [] [0, 1, 4, 5] [] ⟨17, [(0, (.t (.c (.d (.ptr [(.v (.pointer none))]))))), (1, (sc (.string k))), (4, (sc (.string ⟨#[]⟩))), (5, (sc (.bool false)))], [], []⟩ [] mixed (by kernel_rfl) trivial ?_
  refine peel_seq ?_
  refine awp_seq ?_
  refine awp_seq ?_
  refine awp_region_keep tab_ok boxes [(1, ⟨[], (sc (.bool false)), some []⟩)] [0, 1, 4, 5, 8] [] ⟨17, [(0, (.t (.c (.d (.ptr [(.v (.pointer none))]))))), (1, (sc (.string k))), (4, (sc (.string ⟨#[]⟩))), (5, (sc (.bool false))), (8, (sc (.bool true)))], [], []⟩ [⟨(Go.Op.call (Go.Call.mk (Go.Callee.value (Go.Operand.func 42)) #[(Go.Operand.tmp 6)] #[28])), 4, [(sc (.func (.func 42) #[] #[])), (.t (.c (.d (.ptr [(.v (.pointer none))]))))], [], (sc (.bool false)), []⟩] mixed (by kernel_rfl) ⟨tri_call (k_made_zero), trivial⟩ ?_
  refine peel_seq ?_
  refine awp_true rfl ?_
  refine awp_seq ?_
  refine awp_region_keep tab_ok boxes [] [0, 1, 4, 5] [] ⟨17, [(0, (.t (.c (.d (.ptr [(.v (.pointer none))]))))), (1, (sc (.string k))), (4, (sc (.string ⟨#[]⟩))), (5, (sc (.bool false)))], [], []⟩ [] mixed (by kernel_rfl) trivial ?_
  refine peel_seq ?_
  refine awp_ret ?_
  refine peel_seq_ret ?_
  exact ends_ret rfl rfl rfl
theorem k_New  : Sat Try.prog 24 [] [] (.t (.c (.loc 5001 0))) [(5001, (.cells 51 [(.d (.ptr [(encT (Tr.nil))]))]))] := by
  refine sat_of_body tab_ok Try.func24 rfl (by kernel_rfl) (Nat.le_of_ble_eq_true rfl) rfl fun G => ?_
  refine awp_seq ?_
  refine awp_region_keep tab_ok boxes [] [0] [] ⟨4, [(0, (sc (.pointer none)))], [], []⟩ [] mixed (by kernel_rfl) trivial ?_
  refine peel_seq ?_
  refine awp_seq ?_
  refine awp_region_keep tab_ok boxes [(0, ⟨[], (.t (.c (.d (.ptr [(encT (Tr.nil))])))), some []⟩)] [0] [3] ⟨4, [(0, (.t (.c (.loc 3 0))))], [(3, (.cells 51 [(.d (.ptr [(encT (Tr.nil))]))]))], []⟩ [⟨(Go.Op.call (Go.Call.mk (Go.Callee.value (Go.Operand.func 46)) #[] #[])), 49, [(sc (.func (.func 46) #[] #[]))], [], (.t (.c (.d (.ptr [(encT (Tr.nil))])))), []⟩] mixed (by kernel_rfl) ⟨tri_call (s_TNew), trivial⟩ ?_
  refine peel_seq ?_
  refine awp_mv [.sw 3 5001] ⟨4, [(0, (.t (.c (.loc 5001 0))))], [(5001, (.cells 51 [(.d (.ptr [(encT (Tr.nil))]))]))], []⟩ rfl ?_
  refine awp_ret ?_
  exact ends_ret rfl rfl rfl
theorem k_right (l : List AOp) : Sat Try.prog 45 [(.t (.c (.d (.sl (List.map encOp l)))))] [] (sc (.int .i64 (rightF l []))) [] := by
  refine sat_of_body tab_ok Try.func45 rfl (by kernel_rfl) (Nat.le_of_ble_eq_true rfl) rfl fun G => ?_
  refine awp_seq ?_
  refine awp_region_keep tab_ok boxes [] [0, 2] [] ⟨46, [(0, (.t (.c (.d (.sl (List.map encOp l)))))), (2, (sc (.int .i64 0)))], [], []⟩ [] mixed (by kernel_rfl) trivial ?_
  refine peel_seq ?_
  refine awp_seq ?_
  refine awp_region_keep tab_ok boxes [(0, ⟨[], (.t (.c (.own 6))), some [(6, (.opq (setR [])))]⟩)] [0, 2, 3] [6] ⟨46, [(0, (.t (.c (.d (.sl (List.map encOp l)))))), (2, (sc (.int .i64 0))), (3, (.t (.c (.own 6))))], [(6, (.opq (setR [])))], []⟩ [⟨(Go.Op.makeMap 101 Option.none), 101, [], [], (.t (.c (.own 6))), [(6, (.opq (setR [])))]⟩] mixed (by kernel_rfl) ⟨tri_set_new 6, trivial⟩ ?_
  refine peel_seq ?_
  refine awp_seq ?_
  refine awp_seq ?_
  refine awp_region_keep tab_ok boxes [(1, ⟨[], (sc (.int .i64 (List.length l : Int))), none⟩)] [2, 3, 7, 8, 9] [6] ⟨46, [(2, (sc (.int .i64 0))), (3, (.t (.c (.own 6)))), (7, (.t (.c (.d (.sl (List.map encOp l)))))), (8, (sc (.int .i64 (List.length l : Int)))), (9, (sc (.int .i64 0)))], [(6, (.opq (setR [])))], []⟩ [⟨(Go.Op.call (Go.Call.mk (Go.Callee.builtin Go.Builtin.len) #[(Go.Operand.tmp 7)] #[23])), 3, [(.t (.c (.d (.sl (List.map encOp l)))))], [], (sc (.int .i64 (List.length l : Int))), []⟩] mixed (by kernel_rfl) ⟨tri_len_map tab_ok rfl, trivial⟩ ?_
  refine peel_seq ?_
  refine awp_block ?_
  refine awp_len 7 rfl (fun hlen1 => ?_)
  refine awp_loopP (ι := Nat × (List ByteArray)) (fun x => ⟨46, [(2, (sc (.int .i64 0))), (3, (.t (.c (.own 6)))), (7, (.t (.c (.d (.sl (List.map encOp l)))))), (8, (sc (.int .i64 (List.length l : Int)))), (9, (sc (.int .i64 (x.1 : Int))))], [(6, (.opq (setR x.2)))], []⟩) (fun x => x.1 ≤ List.length l ∧ (True) ∧ rightF (List.drop x.1 l) x.2 = rightF l []) (fun x => List.length l - x.1) (0, []) rfl ⟨Nat.zero_le _, trivial, rfl⟩ ?_
  rintro ⟨k2, a3⟩ ⟨hk4, hx5, hJ6⟩
  try simp only at hk4 hx5 hJ6
  refine awp_seq ?_
  refine awp_region_keep tab_ok boxes [] [2, 3, 7, 8, 9, 10] [6] ⟨46, [(2, (sc (.int .i64 0))), (3, (.t (.c (.own 6)))), (7, (.t (.c (.d (.sl (List.map encOp l)))))), (8, (sc (.int .i64 (List.length l : Int)))), (9, (sc (.int .i64 (k2 : Int)))), (10, (sc (.bool (decide ((k2 : Int) < (List.length l : Int))))))], [(6, (.opq (setR a3)))], []⟩ [] mixed (by kernel_rfl) trivial ?_
  refine peel_seq ?_
  refine awp_seq ?_
  refine awp_cond (b := (decide ((k2 : Int) < (List.length l : Int)))) rfl (fun hc7 => ?_) (fun hc7 => ?_)
  · skip
    have hc7p := of_decide_eq_true hc7
    refine awp_skip ?_
    refine peel_seq ?_
    refine awp_seq ?_
    refine awp_block ?_
    refine awp_seq ?_
    obtain ⟨⟨key11, has12, val13⟩, ha9, hd10⟩ := at_drop (l := l) (k := k2) (by (try simp only [List.length_map] at *); omega)
    refine awp_region_keep tab_ok boxes [(0, ⟨[], (.t (.c (.d (.ptr [(.v (.string key11)), (.v (.bool has12)), (.v (.string val13))])))), some []⟩)] [2, 3, 5, 7, 8, 9] [5, 6] ⟨46, [(2, (sc (.int .i64 0))), (3, (.t (.c (.own 6)))), (5, (.t (.c (.loc 5 0)))), (7, (.t (.c (.d (.sl (List.map encOp l)))))), (8, (sc (.int .i64 (List.length l : Int)))), (9, (sc (.int .i64 (k2 : Int))))], [(5, (.cells 35 [(.d (.v (.string key11))), (.d (.v (.bool has12))), (.d (.v (.string val13)))])), (6, (.opq (setR a3)))], []⟩ [⟨(Go.Op.indexAddr 23 (Go.Operand.tmp 7) (Go.Operand.tmp 9)), 0, [(.t (.c (.d (.sl (List.map encOp l))))), (sc (.int .i64 (k2 : Int)))], [], (.t (.c (.d (.ptr [(.v (.string key11)), (.v (.bool has12)), (.v (.string val13))])))), []⟩] mixed (by kernel_rfl) ⟨tri_index_sl (e := 35) (sz := 3) (bytes := 40) (i := k2) tab_ok rfl (at_map encOp ha9) (all_map fun _ => rfl), trivial⟩ ?_
    refine peel_seq ?_
    refine awp_seq ?_
    refine awp_block ?_
    refine awp_seq ?_
    refine awp_region_keep tab_ok boxes [(2, ⟨[], (sc (.int .i64 (keyE key11))), some []⟩)] [2, 3, 5, 7, 8, 9, 13] [5, 6] ⟨46, [(2, (sc (.int .i64 0))), (3, (.t (.c (.own 6)))), (5, (.t (.c (.loc 5 0)))), (7, (.t (.c (.d (.sl (List.map encOp l)))))), (8, (sc (.int .i64 (List.length l : Int)))), (9, (sc (.int .i64 (k2 : Int)))), (13, (sc (.bool ((keyE key11) != 0))))], [(5, (.cells 35 [(.d (.v (.string key11))), (.d (.v (.bool has12))), (.d (.v (.string val13)))])), (6, (.opq (setR a3)))], []⟩ [⟨(Go.Op.call (Go.Call.mk (Go.Callee.value (Go.Operand.func 72)) #[(Go.Operand.tmp 15)] #[9])), 37, [(sc (.func (.func 72) #[] #[])), (sc (.string key11))], [], (sc (.int .i64 (keyE key11))), []⟩] mixed (by kernel_rfl) ⟨tri_call (s_Key key11), trivial⟩ ?_
    refine peel_seq ?_
    refine awp_cond (b := ((keyE key11) != 0)) rfl (fun hc14 => ?_) (fun hc14 => ?_)
    · skip
      have hc14p : (keyE key11) ≠ 0 := by simpa using hc14
      refine awp_seq ?_
      refine awp_region_keep tab_ok boxes [] [2, 3, 5, 7, 8, 9] [5, 6] ⟨46, [(2, (sc (.int .i64 20))), (3, (.t (.c (.own 6)))), (5, (.t (.c (.loc 5 0)))), (7, (.t (.c (.d (.sl (List.map encOp l)))))), (8, (sc (.int .i64 (List.length l : Int)))), (9, (sc (.int .i64 (k2 : Int))))], [(5, (.cells 35 [(.d (.v (.string key11))), (.d (.v (.bool has12))), (.d (.v (.string val13)))])), (6, (.opq (setR a3)))], []⟩ [] mixed (by kernel_rfl) trivial ?_
      refine peel_seq ?_
      have hE15 := hJ6
      rw [hd10] at hE15
      simp only [rightF, badV, hc14, hc7, cond_true, cond_false, Bool.not_true, Bool.not_false] at hE15
      refine awp_ret ?_
      refine peel_block_ret ?_
      refine peel_seq_ret ?_
      refine peel_block_ret ?_
      refine peel_seq_ret ?_
      refine peel_seq_ret ?_
      refine peel_block_ret ?_
      refine peel_seq_ret ?_
      exact ends_ret rfl (show some ((sc (.int .i64 20)) : SV) = some ((sc (.int .i64 (rightF l []))) : SV) from by first | rfl | (simp only [rightF, badV, hc14, hc7, ← hE15, cond_true, cond_false, Bool.not_true, Bool.not_false, List.map_nil])) rfl
    · skip
      have hc14p : (keyE key11) = 0 := by simpa using hc14
      refine awp_seq ?_
      cases has12 with
      | false =>
        refine awp_region_keep tab_ok boxes [(15, ⟨[], (sc (.bool (!(eqS val13 ⟨#[]⟩)))), some []⟩)] [2, 3, 5, 7, 8, 9, 18] [5, 6] ⟨46, [(2, (sc (.int .i64 0))), (3, (.t (.c (.own 6)))), (5, (.t (.c (.loc 5 0)))), (7, (.t (.c (.d (.sl (List.map encOp l)))))), (8, (sc (.int .i64 (List.length l : Int)))), (9, (sc (.int .i64 (k2 : Int)))), (18, (sc (.bool (!(eqS val13 ⟨#[]⟩)))))], [(5, (.cells 35 [(.d (.v (.string key11))), (.d (.v (.bool false))), (.d (.v (.string val13)))])), (6, (.opq (setR a3)))], []⟩ [⟨(Go.Op.binOp Go.BinOp.neq 9 (Go.Operand.tmp 33) (Go.Operand.const (Go.Value.string (ByteArray.mk #[]))) 9), 4, [(sc (.string val13)), (sc (.string ⟨#[]⟩))], [], (sc (.bool (!(eqS val13 ⟨#[]⟩)))), []⟩] mixed (by kernel_rfl) ⟨tri_str_neq, trivial⟩ ?_
        refine peel_seq ?_
        refine awp_cond (b := (!(eqS val13 ⟨#[]⟩))) rfl (fun hc16 => ?_) (fun hc16 => ?_)
        · skip
          have hc16n : (eqS val13 ⟨#[]⟩) = false := by simpa using hc16
          have hc16np := eqS_false hc16n
          refine awp_seq ?_
          refine awp_region_keep tab_ok boxes [] [2, 3, 5, 7, 8, 9] [5, 6] ⟨46, [(2, (sc (.int .i64 21))), (3, (.t (.c (.own 6)))), (5, (.t (.c (.loc 5 0)))), (7, (.t (.c (.d (.sl (List.map encOp l)))))), (8, (sc (.int .i64 (List.length l : Int)))), (9, (sc (.int .i64 (k2 : Int))))], [(5, (.cells 35 [(.d (.v (.string key11))), (.d (.v (.bool false))), (.d (.v (.string val13)))])), (6, (.opq (setR a3)))], []⟩ [] mixed (by kernel_rfl) trivial ?_
          refine peel_seq ?_
          have hE17 := hJ6
          rw [hd10] at hE17
          simp only [rightF, badV, hc14, hc16, hc16n, hc7, cond_true, cond_false, Bool.not_true, Bool.not_false] at hE17
          refine awp_ret ?_
          refine peel_block_ret ?_
          refine peel_seq_ret ?_
          refine peel_block_ret ?_
          refine peel_seq_ret ?_
          refine peel_seq_ret ?_
          refine peel_block_ret ?_
          refine peel_seq_ret ?_
          exact ends_ret rfl (show some ((sc (.int .i64 21)) : SV) = some ((sc (.int .i64 (rightF l []))) : SV) from by first | rfl | (simp only [rightF, badV, hc14, hc16, hc16n, hc7, ← hE17, cond_true, cond_false, Bool.not_true, Bool.not_false, List.map_nil])) rfl
        · skip
          have hc16n : (eqS val13 ⟨#[]⟩) = true := by simpa using hc16
          have hc16np := eqS_true hc16n
          refine awp_seq ?_
          refine awp_region_keep tab_ok boxes [(3, ⟨[6], (sc (.bool (hasK a3 key11))), none⟩)] [2, 3, 5, 7, 8, 9, 37] [5, 6] ⟨46, [(2, (sc (.int .i64 0))), (3, (.t (.c (.own 6)))), (5, (.t (.c (.loc 5 0)))), (7, (.t (.c (.d (.sl (List.map encOp l)))))), (8, (sc (.int .i64 (List.length l : Int)))), (9, (sc (.int .i64 (k2 : Int)))), (37, (sc (.bool (hasK a3 key11))))], [(5, (.cells 35 [(.d (.v (.string key11))), (.d (.v (.bool false))), (.d (.v (.string val13)))])), (6, (.opq (setR a3)))], []⟩ [⟨(Go.Op.lookup 101 (Go.Operand.tmp 38) (Go.Operand.tmp 40) Bool.false), 4, [(.t (.c (.own 6))), (sc (.string key11))], [(6, (.opq (setR a3)))], (sc (.bool (hasK a3 key11))), [(6, (.opq (setR a3)))]⟩] mixed (by kernel_rfl) ⟨tri_set_get (kt := 9) (et := 4) (by kernel_rfl) (by kernel_rfl) (by kernel_rfl), trivial⟩ ?_
          refine peel_seq ?_
          refine awp_cond (b := (hasK a3 key11)) rfl (fun hc18 => ?_) (fun hc18 => ?_)
          · skip
            refine awp_seq ?_
            refine awp_region_keep tab_ok boxes [] [2, 3, 5, 7, 8, 9] [5, 6] ⟨46, [(2, (sc (.int .i64 61))), (3, (.t (.c (.own 6)))), (5, (.t (.c (.loc 5 0)))), (7, (.t (.c (.d (.sl (List.map encOp l)))))), (8, (sc (.int .i64 (List.length l : Int)))), (9, (sc (.int .i64 (k2 : Int))))], [(5, (.cells 35 [(.d (.v (.string key11))), (.d (.v (.bool false))), (.d (.v (.string val13)))])), (6, (.opq (setR a3)))], []⟩ [] mixed (by kernel_rfl) trivial ?_
            refine peel_seq ?_
            have hE19 := hJ6
            rw [hd10] at hE19
            simp only [rightF, badV, hc14, hc16, hc16n, hc18, hc7, cond_true, cond_false, Bool.not_true, Bool.not_false] at hE19
            refine awp_ret ?_
            refine peel_block_ret ?_
            refine peel_seq_ret ?_
            refine peel_block_ret ?_
            refine peel_seq_ret ?_
            refine peel_seq_ret ?_
            refine peel_block_ret ?_
            refine peel_seq_ret ?_
            exact ends_ret rfl (show some ((sc (.int .i64 61)) : SV) = some ((sc (.int .i64 (rightF l []))) : SV) from by first | rfl | (simp only [rightF, badV, hc14, hc16, hc16n, hc18, hc7, ← hE19, cond_true, cond_false, Bool.not_true, Bool.not_false, List.map_nil])) rfl
          · skip
            refine q_keep [2, 3, 5, 7, 8, 9] [5, 6] ?_
            refine awp_skip ?_
            refine peel_block ?_
            refine peel_seq ?_
            refine awp_region_keep tab_ok boxes [(3, ⟨[6], .any, some [(6, (.opq (setR (a3 ++ [key11]))))]⟩)] [2, 3, 7, 8, 9] [6] ⟨46, [(2, (sc (.int .i64 0))), (3, (.t (.c (.own 6)))), (7, (.t (.c (.d (.sl (List.map encOp l)))))), (8, (sc (.int .i64 (List.length l : Int)))), (9, (sc (.int .i64 (k2 : Int))))], [(6, (.opq (setR (a3 ++ [key11]))))], []⟩ [⟨(Go.Op.mapUpdate 101 (Go.Operand.tmp 42) (Go.Operand.tmp 44) (Go.Operand.const (Go.Value.bool Bool.true))), 0, [(.t (.c (.own 6))), (sc (.string key11)), (sc (.bool true))], [(6, (.opq (setR a3)))], .any, [(6, (.opq (setR (a3 ++ [key11]))))]⟩] mixed (by kernel_rfl) ⟨tri_set_put (kt := 9) (et := 4) (by kernel_rfl) (by kernel_rfl) hc18, trivial⟩ ?_
            refine peel_block ?_
            refine peel_seq ?_
            refine awp_region_keep tab_ok boxes [(0, ⟨[], (sc (.int .i64 ((k2 : Int) + 1))), some []⟩)] [2, 3, 7, 8, 9] [6] ⟨46, [(2, (sc (.int .i64 0))), (3, (.t (.c (.own 6)))), (7, (.t (.c (.d (.sl (List.map encOp l)))))), (8, (sc (.int .i64 (List.length l : Int)))), (9, (sc (.int .i64 ((k2 : Int) + 1))))], [(6, (.opq (setR (a3 ++ [key11]))))], []⟩ [⟨(Go.Op.binOp Go.BinOp.add 3 (Go.Operand.tmp 9) (Go.Operand.const (Go.Value.int Go.IntKind.i64 1)) 3), 3, [(sc (.int .i64 (k2 : Int))), (sc (.int .i64 1))], [], (sc (.int .i64 ((k2 : Int) + 1))), []⟩] mixed (by kernel_rfl) ⟨tri_int ((k2 : Int) + 1) (wrap_i64 (by omega)), trivial⟩ ?_
            exact peel_round (k2 + 1, (a3 ++ [key11])) rfl ⟨by (try simp only [List.length_map] at *); omega, trivial, by have hj := hJ6; rw [hd10] at hj; simp only [rightF, badV, hc14, hc16, hc16n, hc18, hc7, cond_true, cond_false, Bool.not_true, Bool.not_false] at hj ⊢; exact hj⟩ (by (try simp only [List.length_map] at *); omega)
      | true =>
        cases hb20 : ((valE val13) != 0) with
        | false =>
          have hb20p : (valE val13) = 0 := by simpa using hb20
          refine awp_region_keep tab_ok boxes [(5, ⟨[], (sc (.int .i64 (valE val13))), some []⟩), (6, ⟨[], (sc (.bool false)), some []⟩)] [2, 3, 5, 7, 8, 9, 18] [5, 6] ⟨46, [(2, (sc (.int .i64 0))), (3, (.t (.c (.own 6)))), (5, (.t (.c (.loc 5 0)))), (7, (.t (.c (.d (.sl (List.map encOp l)))))), (8, (sc (.int .i64 (List.length l : Int)))), (9, (sc (.int .i64 (k2 : Int)))), (18, (sc (.bool false)))], [(5, (.cells 35 [(.d (.v (.string key11))), (.d (.v (.bool true))), (.d (.v (.string val13)))])), (6, (.opq (setR a3)))], []⟩ [⟨(Go.Op.call (Go.Call.mk (Go.Callee.value (Go.Operand.func 73)) #[(Go.Operand.tmp 23)] #[9])), 37, [(sc (.func (.func 73) #[] #[])), (sc (.string val13))], [], (sc (.int .i64 (valE val13))), []⟩, ⟨(Go.Op.binOp Go.BinOp.neq 37 (Go.Operand.tmp 24) (Go.Operand.const (Go.Value.int Go.IntKind.i64 0)) 37), 4, [(sc (.int .i64 (valE val13))), (sc (.int .i64 0))], [], (sc (.bool false)), []⟩] mixed (by kernel_rfl) ⟨tri_call (s_Value val13), tri_scalar_eq [(.int .i64 (valE val13)), (.int .i64 0)] (.bool ((valE val13) != 0)) rfl rfl rfl (by kernel_rfl) (congrArg Value.bool hb20), trivial⟩ ?_
          refine peel_seq ?_
          refine awp_false rfl ?_
          refine awp_seq ?_
          refine awp_region_keep tab_ok boxes [(3, ⟨[6], (sc (.bool (hasK a3 key11))), none⟩)] [2, 3, 5, 7, 8, 9, 37] [5, 6] ⟨46, [(2, (sc (.int .i64 0))), (3, (.t (.c (.own 6)))), (5, (.t (.c (.loc 5 0)))), (7, (.t (.c (.d (.sl (List.map encOp l)))))), (8, (sc (.int .i64 (List.length l : Int)))), (9, (sc (.int .i64 (k2 : Int)))), (37, (sc (.bool (hasK a3 key11))))], [(5, (.cells 35 [(.d (.v (.string key11))), (.d (.v (.bool true))), (.d (.v (.string val13)))])), (6, (.opq (setR a3)))], []⟩ [⟨(Go.Op.lookup 101 (Go.Operand.tmp 38) (Go.Operand.tmp 40) Bool.false), 4, [(.t (.c (.own 6))), (sc (.string key11))], [(6, (.opq (setR a3)))], (sc (.bool (hasK a3 key11))), [(6, (.opq (setR a3)))]⟩] mixed (by kernel_rfl) ⟨tri_set_get (kt := 9) (et := 4) (by kernel_rfl) (by kernel_rfl) (by kernel_rfl), trivial⟩ ?_
          refine peel_seq ?_
          refine awp_cond (b := (hasK a3 key11)) rfl (fun hc21 => ?_) (fun hc21 => ?_)
          · skip
            refine awp_seq ?_
            refine awp_region_keep tab_ok boxes [] [2, 3, 5, 7, 8, 9] [5, 6] ⟨46, [(2, (sc (.int .i64 61))), (3, (.t (.c (.own 6)))), (5, (.t (.c (.loc 5 0)))), (7, (.t (.c (.d (.sl (List.map encOp l)))))), (8, (sc (.int .i64 (List.length l : Int)))), (9, (sc (.int .i64 (k2 : Int))))], [(5, (.cells 35 [(.d (.v (.string key11))), (.d (.v (.bool true))), (.d (.v (.string val13)))])), (6, (.opq (setR a3)))], []⟩ [] mixed (by kernel_rfl) trivial ?_
            refine peel_seq ?_
            have hE22 := hJ6
            rw [hd10] at hE22
            simp only [rightF, badV, hb20, hc14, hc21, hc7, cond_true, cond_false, Bool.not_true, Bool.not_false] at hE22
            refine awp_ret ?_
            refine peel_block_ret ?_
            refine peel_seq_ret ?_
            refine peel_block_ret ?_
            refine peel_seq_ret ?_
            refine peel_seq_ret ?_
            refine peel_block_ret ?_
            refine peel_seq_ret ?_
            exact ends_ret rfl (show some ((sc (.int .i64 61)) : SV) = some ((sc (.int .i64 (rightF l []))) : SV) from by first | rfl | (simp only [rightF, badV, hb20, hc14, hc21, hc7, ← hE22, cond_true, cond_false, Bool.not_true, Bool.not_false, List.map_nil])) rfl
          · skip
            refine q_keep [2, 3, 5, 7, 8, 9] [5, 6] ?_
            refine awp_skip ?_
            refine peel_block ?_
            refine peel_seq ?_
            refine awp_region_keep tab_ok boxes [(3, ⟨[6], .any, some [(6, (.opq (setR (a3 ++ [key11]))))]⟩)] [2, 3, 7, 8, 9] [6] ⟨46, [(2, (sc (.int .i64 0))), (3, (.t (.c (.own 6)))), (7, (.t (.c (.d (.sl (List.map encOp l)))))), (8, (sc (.int .i64 (List.length l : Int)))), (9, (sc (.int .i64 (k2 : Int))))], [(6, (.opq (setR (a3 ++ [key11]))))], []⟩ [⟨(Go.Op.mapUpdate 101 (Go.Operand.tmp 42) (Go.Operand.tmp 44) (Go.Operand.const (Go.Value.bool Bool.true))), 0, [(.t (.c (.own 6))), (sc (.string key11)), (sc (.bool true))], [(6, (.opq (setR a3)))], .any, [(6, (.opq (setR (a3 ++ [key11]))))]⟩] mixed (by kernel_rfl) ⟨tri_set_put (kt := 9) (et := 4) (by kernel_rfl) (by kernel_rfl) hc21, trivial⟩ ?_
            refine peel_block ?_
            refine peel_seq ?_
            refine awp_region_keep tab_ok boxes [(0, ⟨[], (sc (.int .i64 ((k2 : Int) + 1))), some []⟩)] [2, 3, 7, 8, 9] [6] ⟨46, [(2, (sc (.int .i64 0))), (3, (.t (.c (.own 6)))), (7, (.t (.c (.d (.sl (List.map encOp l)))))), (8, (sc (.int .i64 (List.length l : Int)))), (9, (sc (.int .i64 ((k2 : Int) + 1))))], [(6, (.opq (setR (a3 ++ [key11]))))], []⟩ [⟨(Go.Op.binOp Go.BinOp.add 3 (Go.Operand.tmp 9) (Go.Operand.const (Go.Value.int Go.IntKind.i64 1)) 3), 3, [(sc (.int .i64 (k2 : Int))), (sc (.int .i64 1))], [], (sc (.int .i64 ((k2 : Int) + 1))), []⟩] mixed (by kernel_rfl) ⟨tri_int ((k2 : Int) + 1) (wrap_i64 (by omega)), trivial⟩ ?_
            exact peel_round (k2 + 1, (a3 ++ [key11])) rfl ⟨by (try simp only [List.length_map] at *); omega, trivial, by have hj := hJ6; rw [hd10] at hj; simp only [rightF, badV, hb20, hc14, hc21, hc7, cond_true, cond_false, Bool.not_true, Bool.not_false] at hj ⊢; exact hj⟩ (by (try simp only [List.length_map] at *); omega)
        | true =>
          have hb20p : (valE val13) ≠ 0 := by simpa using hb20
          refine awp_region_keep tab_ok boxes [(5, ⟨[], (sc (.int .i64 (valE val13))), some []⟩), (6, ⟨[], (sc (.bool true)), some []⟩)] [2, 3, 5, 7, 8, 9, 18] [5, 6] ⟨46, [(2, (sc (.int .i64 0))), (3, (.t (.c (.own 6)))), (5, (.t (.c (.loc 5 0)))), (7, (.t (.c (.d (.sl (List.map encOp l)))))), (8, (sc (.int .i64 (List.length l : Int)))), (9, (sc (.int .i64 (k2 : Int)))), (18, (sc (.bool true)))], [(5, (.cells 35 [(.d (.v (.string key11))), (.d (.v (.bool true))), (.d (.v (.string val13)))])), (6, (.opq (setR a3)))], []⟩ [⟨(Go.Op.call (Go.Call.mk (Go.Callee.value (Go.Operand.func 73)) #[(Go.Operand.tmp 23)] #[9])), 37, [(sc (.func (.func 73) #[] #[])), (sc (.string val13))], [], (sc (.int .i64 (valE val13))), []⟩, ⟨(Go.Op.binOp Go.BinOp.neq 37 (Go.Operand.tmp 24) (Go.Operand.const (Go.Value.int Go.IntKind.i64 0)) 37), 4, [(sc (.int .i64 (valE val13))), (sc (.int .i64 0))], [], (sc (.bool true)), []⟩] mixed (by kernel_rfl) ⟨tri_call (s_Value val13), tri_scalar_eq [(.int .i64 (valE val13)), (.int .i64 0)] (.bool ((valE val13) != 0)) rfl rfl rfl (by kernel_rfl) (congrArg Value.bool hb20), trivial⟩ ?_
          refine peel_seq ?_
          refine awp_true rfl ?_
          refine awp_seq ?_
          refine awp_region_keep tab_ok boxes [] [2, 3, 5, 7, 8, 9] [5, 6] ⟨46, [(2, (sc (.int .i64 21))), (3, (.t (.c (.own 6)))), (5, (.t (.c (.loc 5 0)))), (7, (.t (.c (.d (.sl (List.map encOp l)))))), (8, (sc (.int .i64 (List.length l : Int)))), (9, (sc (.int .i64 (k2 : Int))))], [(5, (.cells 35 [(.d (.v (.string key11))), (.d (.v (.bool true))), (.d (.v (.string val13)))])), (6, (.opq (setR a3)))], []⟩ [] mixed (by kernel_rfl) trivial ?_
          refine peel_seq ?_
          have hE23 := hJ6
          rw [hd10] at hE23
          simp only [rightF, badV, hb20, hc14, hc7, cond_true, cond_false, Bool.not_true, Bool.not_false] at hE23
          refine awp_ret ?_
          refine peel_block_ret ?_
          refine peel_seq_ret ?_
          refine peel_block_ret ?_
          refine peel_seq_ret ?_
          refine peel_seq_ret ?_
          refine peel_block_ret ?_
          refine peel_seq_ret ?_
          exact ends_ret rfl (show some ((sc (.int .i64 21)) : SV) = some ((sc (.int .i64 (rightF l []))) : SV) from by first | rfl | (simp only [rightF, badV, hb20, hc14, hc7, ← hE23, cond_true, cond_false, Bool.not_true, Bool.not_false, List.map_nil])) rfl
  · skip
    have hc7p := of_decide_eq_false hc7
    have hE24 := hJ6
    rw [at_end (l := l) (by (try simp only [List.length_map] at *); omega)] at hE24
    simp only [rightF, badV, hc7, cond_true, cond_false, Bool.not_true, Bool.not_false] at hE24
    refine awp_exit ?_
    refine peel_seq_exit ?_
    refine peel_seq_exit ?_
    refine peel_hit ?_
    refine peel_seq ?_
    refine awp_seq ?_
    refine awp_region_keep tab_ok boxes [] [2] [] ⟨46, [(2, (sc (.int .i64 0)))], [], []⟩ [] mixed (by kernel_rfl) trivial ?_
    refine peel_seq ?_
    refine awp_ret ?_
    exact ends_ret rfl (show some ((sc (.int .i64 0)) : SV) = some ((sc (.int .i64 (rightF l []))) : SV) from by first | rfl | (simp only [rightF, badV, hc7, ← hE24, cond_true, cond_false, Bool.not_true, Bool.not_false, List.map_nil])) rfl
theorem k_Check (conds ops : List AOp) : Sat Try.prog 48 [(.t (.c (.d (.sl (List.map encOp conds))))), (.t (.c (.d (.sl (List.map encOp ops)))))] [] (sc (.int .i64 (checkE conds ops))) [] := by
  refine sat_of_body tab_ok Try.func48 rfl (by kernel_rfl) (Nat.le_of_ble_eq_true rfl) rfl fun G => ?_
  refine awp_seq ?_
  refine awp_region_keep tab_ok boxes [] [0, 1, 4] [] ⟨27, [(0, (.t (.c (.d (.sl (List.map encOp conds)))))), (1, (.t (.c (.d (.sl (List.map encOp ops)))))), (4, (sc (.int .i64 0)))], [], []⟩ [] mixed (by kernel_rfl) trivial ?_
  refine peel_seq ?_
  refine awp_seq ?_
  refine awp_block ?_
  refine awp_seq ?_
  cases hb1 : ((List.length ops : Int) == 0) with
  | false =>
    have hb1p : (List.length ops : Int) ≠ 0 := by simpa using hb1
    cases hb2 : (decide ((List.length ops : Int) > 6)) with
    | false =>
      have hb2p := of_decide_eq_false hb2
      refine awp_region_keep tab_ok boxes [(1, ⟨[], (sc (.int .i64 (List.length ops : Int))), none⟩), (2, ⟨[], (sc (.bool false)), some []⟩), (5, ⟨[], (sc (.int .i64 (List.length ops : Int))), none⟩), (6, ⟨[], (sc (.bool false)), some []⟩), (10, ⟨[], (sc (.int .i64 (List.length conds : Int))), none⟩)] [0, 1, 4, 6] [] ⟨27, [(0, (.t (.c (.d (.sl (List.map encOp conds)))))), (1, (.t (.c (.d (.sl (List.map encOp ops)))))), (4, (sc (.int .i64 0))), (6, (sc (.bool (decide ((List.length conds : Int) > 6)))))], [], []⟩ [⟨(Go.Op.call (Go.Call.mk (Go.Callee.builtin Go.Builtin.len) #[(Go.Operand.tmp 7)] #[23])), 3, [(.t (.c (.d (.sl (List.map encOp ops)))))], [], (sc (.int .i64 (List.length ops : Int))), []⟩, ⟨(Go.Op.binOp Go.BinOp.eql 3 (Go.Operand.tmp 8) (Go.Operand.const (Go.Value.int Go.IntKind.i64 0)) 3), 4, [(sc (.int .i64 (List.length ops : Int))), (sc (.int .i64 0))], [], (sc (.bool false)), []⟩, ⟨(Go.Op.call (Go.Call.mk (Go.Callee.builtin Go.Builtin.len) #[(Go.Operand.tmp 11)] #[23])), 3, [(.t (.c (.d (.sl (List.map encOp ops)))))], [], (sc (.int .i64 (List.length ops : Int))), []⟩, ⟨(Go.Op.binOp Go.BinOp.gtr 3 (Go.Operand.tmp 12) (Go.Operand.const (Go.Value.int Go.IntKind.i64 6)) 3), 4, [(sc (.int .i64 (List.length ops : Int))), (sc (.int .i64 6))], [], (sc (.bool false)), []⟩, ⟨(Go.Op.call (Go.Call.mk (Go.Callee.builtin Go.Builtin.len) #[(Go.Operand.tmp 16)] #[23])), 3, [(.t (.c (.d (.sl (List.map encOp conds)))))], [], (sc (.int .i64 (List.length conds : Int))), []⟩] mixed (by kernel_rfl) ⟨tri_len_map tab_ok rfl, tri_scalar_eq [(.int .i64 (List.length ops : Int)), (.int .i64 0)] (.bool ((List.length ops : Int) == 0)) rfl rfl rfl (by kernel_rfl) (congrArg Value.bool hb1), tri_len_map tab_ok rfl, tri_scalar_eq [(.int .i64 (List.length ops : Int)), (.int .i64 6)] (.bool (decide ((List.length ops : Int) > 6))) rfl rfl rfl (by kernel_rfl) (congrArg Value.bool hb2), tri_len_map tab_ok rfl, trivial⟩ ?_
      refine peel_seq ?_
      refine awp_cond (b := (decide ((List.length conds : Int) > 6))) rfl (fun hc3 => ?_) (fun hc3 => ?_)
      · skip
        have hc3p := of_decide_eq_true hc3
        refine awp_seq ?_
        refine awp_region_keep tab_ok boxes [] [0, 1, 4] [] ⟨27, [(0, (.t (.c (.d (.sl (List.map encOp conds)))))), (1, (.t (.c (.d (.sl (List.map encOp ops)))))), (4, (sc (.int .i64 61)))], [], []⟩ [] mixed (by kernel_rfl) trivial ?_
        refine peel_seq ?_
        refine awp_ret ?_
        refine peel_block_ret ?_
        refine peel_seq_ret ?_
        exact ends_ret rfl (show some ((sc (.int .i64 61)) : SV) = some ((sc (.int .i64 (checkE conds ops))) : SV) from by first | rfl | (simp only [checkE, hb1, hb2, hc3, cond_true, cond_false, Bool.not_true, Bool.not_false, List.map_nil])) rfl
      · skip
        have hc3p := of_decide_eq_false hc3
        refine q_keep [0, 1, 4] [] ?_
        refine awp_skip ?_
        refine peel_block ?_
        refine peel_seq ?_
        refine awp_seq ?_
        refine awp_seq ?_
        refine awp_region_keep tab_ok boxes [(1, ⟨[], (sc (.int .i64 (rightF conds []))), some []⟩)] [1, 4, 5] [] ⟨27, [(1, (.t (.c (.d (.sl (List.map encOp ops)))))), (4, (sc (.int .i64 0))), (5, (sc (.int .i64 (rightF conds []))))], [], []⟩ [⟨(Go.Op.call (Go.Call.mk (Go.Callee.value (Go.Operand.func 45)) #[(Go.Operand.tmp 20)] #[23])), 37, [(sc (.func (.func 45) #[] #[])), (.t (.c (.d (.sl (List.map encOp conds)))))], [], (sc (.int .i64 (rightF conds []))), []⟩] mixed (by kernel_rfl) ⟨tri_call (k_right conds), trivial⟩ ?_
        refine peel_seq ?_
        refine awp_seq ?_
        refine awp_region_keep tab_ok boxes [] [1, 4, 5, 23] [] ⟨27, [(1, (.t (.c (.d (.sl (List.map encOp ops)))))), (4, (sc (.int .i64 0))), (5, (sc (.int .i64 (rightF conds [])))), (23, (sc (.bool ((rightF conds []) != 0))))], [], []⟩ [] mixed (by kernel_rfl) trivial ?_
        refine peel_seq ?_
        refine awp_cond (b := ((rightF conds []) != 0)) rfl (fun hc4 => ?_) (fun hc4 => ?_)
        · skip
          have hc4p : (rightF conds []) ≠ 0 := by simpa using hc4
          refine awp_seq ?_
          refine awp_region_keep tab_ok boxes [] [1, 4] [] ⟨27, [(1, (.t (.c (.d (.sl (List.map encOp ops)))))), (4, (sc (.int .i64 (rightF conds []))))], [], []⟩ [] mixed (by kernel_rfl) trivial ?_
          refine peel_seq ?_
          refine awp_ret ?_
          refine peel_seq_ret ?_
          exact ends_ret rfl (show some ((sc (.int .i64 (rightF conds []))) : SV) = some ((sc (.int .i64 (checkE conds ops))) : SV) from by first | rfl | (simp only [checkE, hb1, hb2, hc3, hc4, cond_true, cond_false, Bool.not_true, Bool.not_false, List.map_nil])) rfl
        · skip
          have hc4p : (rightF conds []) = 0 := by simpa using hc4
          refine awp_skip ?_
          refine peel_seq ?_
          refine awp_seq ?_
          refine awp_region_keep tab_ok boxes [(1, ⟨[], (sc (.int .i64 (rightF ops []))), some []⟩)] [4] [] ⟨27, [(4, (sc (.int .i64 (rightF ops []))))], [], []⟩ [⟨(Go.Op.call (Go.Call.mk (Go.Callee.value (Go.Operand.func 45)) #[(Go.Operand.tmp 25)] #[23])), 37, [(sc (.func (.func 45) #[] #[])), (.t (.c (.d (.sl (List.map encOp ops)))))], [], (sc (.int .i64 (rightF ops []))), []⟩] mixed (by kernel_rfl) ⟨tri_call (k_right ops), trivial⟩ ?_
          refine peel_seq ?_
          refine awp_ret ?_
          exact ends_ret rfl (show some ((sc (.int .i64 (rightF ops []))) : SV) = some ((sc (.int .i64 (checkE conds ops))) : SV) from by first | rfl | (simp only [checkE, hb1, hb2, hc3, hc4, cond_true, cond_false, Bool.not_true, Bool.not_false, List.map_nil])) rfl
    | true =>
      have hb2p := of_decide_eq_true hb2
      refine awp_region_keep tab_ok boxes [(1, ⟨[], (sc (.int .i64 (List.length ops : Int))), none⟩), (2, ⟨[], (sc (.bool false)), some []⟩), (5, ⟨[], (sc (.int .i64 (List.length ops : Int))), none⟩), (6, ⟨[], (sc (.bool true)), some []⟩)] [0, 1, 4, 6] [] ⟨27, [(0, (.t (.c (.d (.sl (List.map encOp conds)))))), (1, (.t (.c (.d (.sl (List.map encOp ops)))))), (4, (sc (.int .i64 0))), (6, (sc (.bool true)))], [], []⟩ [⟨(Go.Op.call (Go.Call.mk (Go.Callee.builtin Go.Builtin.len) #[(Go.Operand.tmp 7)] #[23])), 3, [(.t (.c (.d (.sl (List.map encOp ops)))))], [], (sc (.int .i64 (List.length ops : Int))), []⟩, ⟨(Go.Op.binOp Go.BinOp.eql 3 (Go.Operand.tmp 8) (Go.Operand.const (Go.Value.int Go.IntKind.i64 0)) 3), 4, [(sc (.int .i64 (List.length ops : Int))), (sc (.int .i64 0))], [], (sc (.bool false)), []⟩, ⟨(Go.Op.call (Go.Call.mk (Go.Callee.builtin Go.Builtin.len) #[(Go.Operand.tmp 11)] #[23])), 3, [(.t (.c (.d (.sl (List.map encOp ops)))))], [], (sc (.int .i64 (List.length ops : Int))), []⟩, ⟨(Go.Op.binOp Go.BinOp.gtr 3 (Go.Operand.tmp 12) (Go.Operand.const (Go.Value.int Go.IntKind.i64 6)) 3), 4, [(sc (.int .i64 (List.length ops : Int))), (sc (.int .i64 6))], [], (sc (.bool true)), []⟩] mixed (by kernel_rfl) ⟨tri_len_map tab_ok rfl, tri_scalar_eq [(.int .i64 (List.length ops : Int)), (.int .i64 0)] (.bool ((List.length ops : Int) == 0)) rfl rfl rfl (by kernel_rfl) (congrArg Value.bool hb1), tri_len_map tab_ok rfl, tri_scalar_eq [(.int .i64 (List.length ops : Int)), (.int .i64 6)] (.bool (decide ((List.length ops : Int) > 6))) rfl rfl rfl (by kernel_rfl) (congrArg Value.bool hb2), trivial⟩ ?_
      refine peel_seq ?_
      refine awp_true rfl ?_
      refine awp_seq ?_
      refine awp_region_keep tab_ok boxes [] [0, 1, 4] [] ⟨27, [(0, (.t (.c (.d (.sl (List.map encOp conds)))))), (1, (.t (.c (.d (.sl (List.map encOp ops)))))), (4, (sc (.int .i64 61)))], [], []⟩ [] mixed (by kernel_rfl) trivial ?_
      refine peel_seq ?_
      refine awp_ret ?_
      refine peel_block_ret ?_
      refine peel_seq_ret ?_
      exact ends_ret rfl (show some ((sc (.int .i64 61)) : SV) = some ((sc (.int .i64 (checkE conds ops))) : SV) from by first | rfl | (simp only [checkE, hb1, hb2, cond_true, cond_false, Bool.not_true, Bool.not_false, List.map_nil])) rfl
  | true =>
    have hb1p : (List.length ops : Int) = 0 := by simpa using hb1
    refine awp_region_keep tab_ok boxes [(1, ⟨[], (sc (.int .i64 (List.length ops : Int))), none⟩), (2, ⟨[], (sc (.bool true)), some []⟩)] [0, 1, 4, 6] [] ⟨27, [(0, (.t (.c (.d (.sl (List.map encOp conds)))))), (1, (.t (.c (.d (.sl (List.map encOp ops)))))), (4, (sc (.int .i64 0))), (6, (sc (.bool true)))], [], []⟩ [⟨(Go.Op.call (Go.Call.mk (Go.Callee.builtin Go.Builtin.len) #[(Go.Operand.tmp 7)] #[23])), 3, [(.t (.c (.d (.sl (List.map encOp ops)))))], [], (sc (.int .i64 (List.length ops : Int))), []⟩, ⟨(Go.Op.binOp Go.BinOp.eql 3 (Go.Operand.tmp 8) (Go.Operand.const (Go.Value.int Go.IntKind.i64 0)) 3), 4, [(sc (.int .i64 (List.length ops : Int))), (sc (.int .i64 0))], [], (sc (.bool true)), []⟩] mixed (by kernel_rfl) ⟨tri_len_map tab_ok rfl, tri_scalar_eq [(.int .i64 (List.length ops : Int)), (.int .i64 0)] (.bool ((List.length ops : Int) == 0)) rfl rfl rfl (by kernel_rfl) (congrArg Value.bool hb1), trivial⟩ ?_
    refine peel_seq ?_
    refine awp_true rfl ?_
    refine awp_seq ?_
    refine awp_region_keep tab_ok boxes [] [0, 1, 4] [] ⟨27, [(0, (.t (.c (.d (.sl (List.map encOp conds)))))), (1, (.t (.c (.d (.sl (List.map encOp ops)))))), (4, (sc (.int .i64 61)))], [], []⟩ [] mixed (by kernel_rfl) trivial ?_
    refine peel_seq ?_
    refine awp_ret ?_
    refine peel_block_ret ?_
    refine peel_seq_ret ?_
    exact ends_ret rfl (show some ((sc (.int .i64 61)) : SV) = some ((sc (.int .i64 (checkE conds ops))) : SV) from by first | rfl | (simp only [checkE, hb1, cond_true, cond_false, Bool.not_true, Bool.not_false, List.map_nil])) rfl
end Go.Proofs.Ytjbiaoajmdbigaa
