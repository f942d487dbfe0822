/- Walks of package kv: Do, Set, Clone. -/
import Derived.Test.YtjbiaoajmdbigaaKv2
set_option maxRecDepth 100000
set_option linter.unusedVariables false
set_option linter.unusedSimpArgs false
namespace Go.Proofs.Ytjbiaoajmdbigaa
open Go Go.E
theorem k_Do (t : Tr) (p : Int) (conds ops : List AOp) (hs : t.size ≤ 1000) : Sat Try.prog 15 [(.t (.c (.loc 5000 0))), (sc (.int .i64 p)), (.t (.c (.d (.sl (List.map encOp conds))))), (.t (.c (.d (.sl (List.map encOp ops)))))] [(5000, (.cells 51 [(.d (.ptr [(encT t)]))]))] (.tup [(.c (.d (.sl (List.map encEv ((planM t p conds ops).1))))), (.c (.d (.v (.int .i64 (planM t p conds ops).2))))]) [(5000, (.cells 51 [(.d (.ptr [(encT (doT t p conds ops))]))]))] := by
  refine sat_of_body tab_ok Try.func15 rfl (by kernel_rfl) (Nat.le_of_ble_eq_true rfl) rfl fun G => ?_
  refine awp_seq ?_
  refine awp_region_keep tab_ok boxes [] [0, 1, 2, 3, 8, 9] [5000] ⟨27, [(0, (.t (.c (.loc 5000 0)))), (1, (sc (.int .i64 p))), (2, (.t (.c (.d (.sl (List.map encOp conds)))))), (3, (.t (.c (.d (.sl (List.map encOp ops)))))), (8, (sc (.slice none 0 0))), (9, (sc (.int .i64 0)))], [(5000, (.cells 51 [(.d (.ptr [(encT t)]))]))], [5000]⟩ [] mixed (by kernel_rfl) trivial ?_
  refine peel_seq ?_
  refine awp_seq ?_
  refine awp_region_keep tab_ok boxes [(4, ⟨[5000], (.tup [(.c (.d (.sl (List.map encEv ((planM t p conds ops).1))))), (.c (.d (.v (.int .i64 (planM t p conds ops).2))))]), none⟩)] [0, 8, 9, 10, 11] [5000] ⟨27, [(0, (.t (.c (.loc 5000 0)))), (8, (sc (.slice none 0 0))), (9, (sc (.int .i64 0))), (10, (.t (.c (.d (.sl (List.map encEv ((planM t p conds ops).1))))))), (11, (sc (.int .i64 (planM t p conds ops).2)))], [(5000, (.cells 51 [(.d (.ptr [(encT t)]))]))], [5000]⟩ [⟨(Go.Op.call (Go.Call.mk (Go.Callee.value (Go.Operand.func 19)) #[(Go.Operand.tmp 13), (Go.Operand.tmp 14), (Go.Operand.tmp 15), (Go.Operand.tmp 16)] #[28, 3, 23, 23])), 38, [(sc (.func (.func 19) #[] #[])), (.t (.c (.loc 5000 0))), (sc (.int .i64 p)), (.t (.c (.d (.sl (List.map encOp conds))))), (.t (.c (.d (.sl (List.map encOp ops)))))], [(5000, (.cells 51 [(.d (.ptr [(encT t)]))]))], (.tup [(.c (.d (.sl (List.map encEv ((planM t p conds ops).1))))), (.c (.d (.v (.int .i64 (planM t p conds ops).2))))]), [(5000, (.cells 51 [(.d (.ptr [(encT t)]))]))]⟩] mixed (by kernel_rfl) ⟨tri_call (k_Plan t p conds ops (by first | omega | (have := planM_len t p conds ops; omega))), trivial⟩ ?_
  refine peel_seq ?_
  refine awp_seq ?_
  refine awp_seq ?_
  refine awp_region_keep tab_ok boxes [] [0, 8, 9, 10, 11, 21] [5000] ⟨27, [(0, (.t (.c (.loc 5000 0)))), (8, (sc (.slice none 0 0))), (9, (sc (.int .i64 0))), (10, (.t (.c (.d (.sl (List.map encEv ((planM t p conds ops).1))))))), (11, (sc (.int .i64 (planM t p conds ops).2))), (21, (sc (.bool ((planM t p conds ops).2 == 0))))], [(5000, (.cells 51 [(.d (.ptr [(encT t)]))]))], [5000]⟩ [] mixed (by kernel_rfl) trivial ?_
  refine peel_seq ?_
  refine awp_cond (b := ((planM t p conds ops).2 == 0)) rfl (fun hc1 => ?_) (fun hc1 => ?_)
  · skip
    have hc1p : (planM t p conds ops).2 = 0 := by simpa using hc1
    refine awp_region_keep tab_ok boxes [(2, ⟨[5000], (.tup []), some [(5000, (.cells 51 [(.d (.ptr [(encT (takeF t ((planM t p conds ops).1)))]))]))]⟩)] [8, 9, 10, 11] [5000] ⟨27, [(8, (sc (.slice none 0 0))), (9, (sc (.int .i64 0))), (10, (.t (.c (.d (.sl (List.map encEv ((planM t p conds ops).1))))))), (11, (sc (.int .i64 (planM t p conds ops).2)))], [(5000, (.cells 51 [(.d (.ptr [(encT (takeF t ((planM t p conds ops).1)))]))]))], [5000]⟩ [⟨(Go.Op.call (Go.Call.mk (Go.Callee.value (Go.Operand.func 21)) #[(Go.Operand.tmp 22), (Go.Operand.tmp 23)] #[28, 29])), 0, [(sc (.func (.func 21) #[] #[])), (.t (.c (.loc 5000 0))), (.t (.c (.d (.sl (List.map encEv ((planM t p conds ops).1))))))], [(5000, (.cells 51 [(.d (.ptr [(encT t)]))]))], (.tup []), [(5000, (.cells 51 [(.d (.ptr [(encT (takeF t ((planM t p conds ops).1)))]))]))]⟩] mixed (by kernel_rfl) ⟨tri_call (k_Take t ((planM t p conds ops).1) (by first | omega | (have := planM_len t p conds ops; omega))), trivial⟩ ?_
    refine peel_seq ?_
    refine awp_seq ?_
    refine awp_region_keep tab_ok boxes [] [8, 9] [5000] ⟨27, [(8, (.t (.c (.d (.sl (List.map encEv ((planM t p conds ops).1))))))), (9, (sc (.int .i64 (planM t p conds ops).2)))], [(5000, (.cells 51 [(.d (.ptr [(encT (takeF t ((planM t p conds ops).1)))]))]))], [5000]⟩ [] mixed (by kernel_rfl) trivial ?_
    refine peel_seq ?_
    refine awp_ret ?_
    exact ends_ret rfl rfl (show some ([(5000, (.cells 51 [(.d (.ptr [(encT (takeF t ((planM t p conds ops).1)))]))]))] : Objs) = some ([(5000, (.cells 51 [(.d (.ptr [(encT (doT t p conds ops))]))]))] : Objs) from by first | rfl | (simp only [doT, hc1, cond_true, cond_false, Bool.not_true, Bool.not_false, List.map_nil]))
  · skip
    have hc1p : (planM t p conds ops).2 ≠ 0 := by simpa using hc1
    refine awp_skip ?_
    refine peel_seq ?_
    refine awp_seq ?_
    refine awp_region_keep tab_ok boxes [] [8, 9] [5000] ⟨27, [(8, (.t (.c (.d (.sl (List.map encEv ((planM t p conds ops).1))))))), (9, (sc (.int .i64 (planM t p conds ops).2)))], [(5000, (.cells 51 [(.d (.ptr [(encT t)]))]))], [5000]⟩ [] mixed (by kernel_rfl) trivial ?_
    refine peel_seq ?_
    refine awp_ret ?_
    exact ends_ret rfl rfl (show some ([(5000, (.cells 51 [(.d (.ptr [(encT t)]))]))] : Objs) = some ([(5000, (.cells 51 [(.d (.ptr [(encT (doT t p conds ops))]))]))] : Objs) from by first | rfl | (simp only [doT, hc1, cond_true, cond_false, Bool.not_true, Bool.not_false, List.map_nil]))
theorem k_Do_nil (p : Int) (conds ops : List AOp) : Sat Try.prog 15 [(sc (.pointer none)), (sc (.int .i64 p)), (.t (.c (.d (.sl (List.map encOp conds))))), (.t (.c (.d (.sl (List.map encOp ops)))))] [] (.tup [(.c (.d (.sl []))), (.c (.d (.v (.int .i64 6))))]) [] := by
  refine sat_of_body tab_ok Try.func15 rfl (by kernel_rfl) (Nat.le_of_ble_eq_true rfl) rfl fun G => ?_
  refine awp_seq ?_
  refine awp_region_keep tab_ok boxes [] [0, 1, 2, 3, 8, 9] [] ⟨27, [(0, (sc (.pointer none))), (1, (sc (.int .i64 p))), (2, (.t (.c (.d (.sl (List.map encOp conds)))))), (3, (.t (.c (.d (.sl (List.map encOp ops)))))), (8, (sc (.slice none 0 0))), (9, (sc (.int .i64 0)))], [], []⟩ [] mixed (by kernel_rfl) trivial ?_
  refine peel_seq ?_
  refine awp_seq ?_
  refine awp_region_keep tab_ok boxes [(4, ⟨[], (.tup [(.c (.d (.sl []))), (.c (.d (.v (.int .i64 6))))]), some []⟩)] [0, 8, 9, 10, 11] [] ⟨27, [(0, (sc (.pointer none))), (8, (sc (.slice none 0 0))), (9, (sc (.int .i64 0))), (10, (.t (.c (.d (.sl []))))), (11, (sc (.int .i64 6)))], [], []⟩ [⟨(Go.Op.call (Go.Call.mk (Go.Callee.value (Go.Operand.func 19)) #[(Go.Operand.tmp 13), (Go.Operand.tmp 14), (Go.Operand.tmp 15), (Go.Operand.tmp 16)] #[28, 3, 23, 23])), 38, [(sc (.func (.func 19) #[] #[])), (sc (.pointer none)), (sc (.int .i64 p)), (.t (.c (.d (.sl (List.map encOp conds))))), (.t (.c (.d (.sl (List.map encOp ops)))))], [], (.tup [(.c (.d (.sl []))), (.c (.d (.v (.int .i64 6))))]), []⟩] mixed (by kernel_rfl) ⟨tri_call (k_Plan_nil p conds ops), trivial⟩ ?_
  refine peel_seq ?_
  refine awp_seq ?_
  refine awp_seq ?_
  refine awp_region_keep tab_ok boxes [] [0, 8, 9, 10, 11, 21] [] ⟨27, [(0, (sc (.pointer none))), (8, (sc (.slice none 0 0))), (9, (sc (.int .i64 0))), (10, (.t (.c (.d (.sl []))))), (11, (sc (.int .i64 6))), (21, (sc (.bool false)))], [], []⟩ [] mixed (by kernel_rfl) trivial ?_
  refine peel_seq ?_
  refine awp_false rfl ?_
  refine awp_skip ?_
  refine peel_seq ?_
  refine awp_seq ?_
  refine awp_region_keep tab_ok boxes [] [8, 9] [] ⟨27, [(8, (.t (.c (.d (.sl []))))), (9, (sc (.int .i64 6)))], [], []⟩ [] mixed (by kernel_rfl) trivial ?_
  refine peel_seq ?_
  refine awp_ret ?_
  exact ends_ret rfl rfl rfl
theorem k_Do_zero (p : Int) (conds ops : List AOp) : Sat Try.prog 15 [(.t (.c (.d (.ptr [(.v (.pointer none))])))), (sc (.int .i64 p)), (.t (.c (.d (.sl (List.map encOp conds))))), (.t (.c (.d (.sl (List.map encOp ops)))))] [] (.tup [(.c (.d (.sl []))), (.c (.d (.v (.int .i64 6))))]) [] := by
  refine sat_of_body tab_ok Try.func15 rfl (by kernel_rfl) (Nat.le_of_ble_eq_true rfl) rfl fun G => ?_
  refine awp_seq ?_
  refine awp_region_keep tab_ok boxes [] [0, 1, 2, 3, 8, 9] [] ⟨27, [(0, (.t (.c (.d (.ptr [(.v (.pointer none))]))))), (1, (sc (.int .i64 p))), (2, (.t (.c (.d (.sl (List.map encOp conds)))))), (3, (.t (.c (.d (.sl (List.map encOp ops)))))), (8, (sc (.slice none 0 0))), (9, (sc (.int .i64 0)))], [], []⟩ [] mixed (by kernel_rfl) trivial ?_
  refine peel_seq ?_
  refine awp_seq ?_
  refine awp_region_keep tab_ok boxes [(4, ⟨[], (.tup [(.c (.d (.sl []))), (.c (.d (.v (.int .i64 6))))]), some []⟩)] [0, 8, 9, 10, 11] [] ⟨27, [(0, (.t (.c (.d (.ptr [(.v (.pointer none))]))))), (8, (sc (.slice none 0 0))), (9, (sc (.int .i64 0))), (10, (.t (.c (.d (.sl []))))), (11, (sc (.int .i64 6)))], [], []⟩ [⟨(Go.Op.call (Go.Call.mk (Go.Callee.value (Go.Operand.func 19)) #[(Go.Operand.tmp 13), (Go.Operand.tmp 14), (Go.Operand.tmp 15), (Go.Operand.tmp 16)] #[28, 3, 23, 23])), 38, [(sc (.func (.func 19) #[] #[])), (.t (.c (.d (.ptr [(.v (.pointer none))])))), (sc (.int .i64 p)), (.t (.c (.d (.sl (List.map encOp conds))))), (.t (.c (.d (.sl (List.map encOp ops)))))], [], (.tup [(.c (.d (.sl []))), (.c (.d (.v (.int .i64 6))))]), []⟩] mixed (by kernel_rfl) ⟨tri_call (k_Plan_zero p conds ops), trivial⟩ ?_
  refine peel_seq ?_
  refine awp_seq ?_
  refine awp_seq ?_
  refine awp_region_keep tab_ok boxes [] [0, 8, 9, 10, 11, 21] [] ⟨27, [(0, (.t (.c (.d (.ptr [(.v (.pointer none))]))))), (8, (sc (.slice none 0 0))), (9, (sc (.int .i64 0))), (10, (.t (.c (.d (.sl []))))), (11, (sc (.int .i64 6))), (21, (sc (.bool false)))], [], []⟩ [] mixed (by kernel_rfl) trivial ?_
  refine peel_seq ?_
  refine awp_false rfl ?_
  refine awp_skip ?_
  refine peel_seq ?_
  refine awp_seq ?_
  refine awp_region_keep tab_ok boxes [] [8, 9] [] ⟨27, [(8, (.t (.c (.d (.sl []))))), (9, (sc (.int .i64 6)))], [], []⟩ [] mixed (by kernel_rfl) trivial ?_
  refine peel_seq ?_
  refine awp_ret ?_
  exact ends_ret rfl rfl rfl
theorem k_Set (t : Tr) (l : List AOp) (hs : t.size ≤ 1000) : Sat Try.prog 18 [(.t (.c (.loc 5000 0))), (.t (.c (.d (.sl (List.map encOp l)))))] [(5000, (.cells 51 [(.d (.ptr [(encT t)]))]))] (sc (.int .i64 (setM t l).2)) [(5000, (.cells 51 [(.d (.ptr [(encT ((setM t l).1))]))]))] := by
  refine sat_of_body tab_ok Try.func18 rfl (by kernel_rfl) (Nat.le_of_ble_eq_true rfl) rfl fun G => ?_
  refine awp_seq ?_
  refine awp_region_keep tab_ok boxes [] [0, 1, 4] [5000] ⟨41, [(0, (.t (.c (.loc 5000 0)))), (1, (.t (.c (.d (.sl (List.map encOp l)))))), (4, (sc (.int .i64 0)))], [(5000, (.cells 51 [(.d (.ptr [(encT t)]))]))], [5000]⟩ [] mixed (by kernel_rfl) trivial ?_
  refine peel_seq ?_
  refine awp_seq ?_
  refine awp_seq ?_
  refine awp_region_keep tab_ok boxes [(1, ⟨[5000], (sc (.bool true)), none⟩)] [0, 1, 4, 11] [5000] ⟨41, [(0, (.t (.c (.loc 5000 0)))), (1, (.t (.c (.d (.sl (List.map encOp l)))))), (4, (sc (.int .i64 0))), (11, (sc (.bool false)))], [(5000, (.cells 51 [(.d (.ptr [(encT t)]))]))], [5000]⟩ [⟨(Go.Op.call (Go.Call.mk (Go.Callee.value (Go.Operand.func 42)) #[(Go.Operand.tmp 9)] #[28])), 4, [(sc (.func (.func 42) #[] #[])), (.t (.c (.loc 5000 0)))], [(5000, (.cells 51 [(.d (.ptr [(encT t)]))]))], (sc (.bool true)), [(5000, (.cells 51 [(.d (.ptr [(encT t)]))]))]⟩] mixed (by kernel_rfl) ⟨tri_call (k_made t), trivial⟩ ?_
  refine peel_seq ?_
  refine awp_false rfl ?_
  refine awp_skip ?_
  refine peel_seq ?_
  refine awp_seq ?_
  refine awp_seq ?_
  refine awp_region_keep tab_ok boxes [(1, ⟨[], (sc (.int .i64 (List.length l : Int))), none⟩)] [0, 1, 4, 14] [5000] ⟨41, [(0, (.t (.c (.loc 5000 0)))), (1, (.t (.c (.d (.sl (List.map encOp l)))))), (4, (sc (.int .i64 0))), (14, (sc (.bool (decide ((List.length l : Int) > 24)))))], [(5000, (.cells 51 [(.d (.ptr [(encT t)]))]))], [5000]⟩ [⟨(Go.Op.call (Go.Call.mk (Go.Callee.builtin Go.Builtin.len) #[(Go.Operand.tmp 12)] #[23])), 3, [(.t (.c (.d (.sl (List.map encOp l)))))], [], (sc (.int .i64 (List.length l : Int))), []⟩] mixed (by kernel_rfl) ⟨tri_len_map tab_ok rfl, trivial⟩ ?_
  refine peel_seq ?_
  refine awp_cond (b := (decide ((List.length l : Int) > 24))) rfl (fun hc1 => ?_) (fun hc1 => ?_)
  · skip
    have hc1p := of_decide_eq_true hc1
    refine awp_seq ?_
    refine awp_region_keep tab_ok boxes [] [0, 1, 4] [5000] ⟨41, [(0, (.t (.c (.loc 5000 0)))), (1, (.t (.c (.d (.sl (List.map encOp l)))))), (4, (sc (.int .i64 7)))], [(5000, (.cells 51 [(.d (.ptr [(encT t)]))]))], [5000]⟩ [] mixed (by kernel_rfl) trivial ?_
    refine peel_seq ?_
    refine awp_ret ?_
    refine peel_seq_ret ?_
    exact ends_ret rfl (show some ((sc (.int .i64 7)) : SV) = some ((sc (.int .i64 (setM t l).2)) : SV) from by first | rfl | (simp only [setM, hc1, cond_true, cond_false, Bool.not_true, Bool.not_false, List.map_nil])) (show some ([(5000, (.cells 51 [(.d (.ptr [(encT t)]))]))] : Objs) = some ([(5000, (.cells 51 [(.d (.ptr [(encT ((setM t l).1))]))]))] : Objs) from by first | rfl | (simp only [setM, hc1, cond_true, cond_false, Bool.not_true, Bool.not_false, List.map_nil]))
  · skip
    have hc1p := of_decide_eq_false hc1
    refine awp_skip ?_
    refine peel_seq ?_
    refine awp_seq ?_
    refine awp_seq ?_
    refine awp_region_keep tab_ok boxes [(1, ⟨[], (sc (.int .i64 (rightF l []))), some []⟩)] [0, 1, 4, 5] [5000] ⟨41, [(0, (.t (.c (.loc 5000 0)))), (1, (.t (.c (.d (.sl (List.map encOp l)))))), (4, (sc (.int .i64 0))), (5, (sc (.int .i64 (rightF l []))))], [(5000, (.cells 51 [(.d (.ptr [(encT t)]))]))], [5000]⟩ [⟨(Go.Op.call (Go.Call.mk (Go.Callee.value (Go.Operand.func 45)) #[(Go.Operand.tmp 15)] #[23])), 37, [(sc (.func (.func 45) #[] #[])), (.t (.c (.d (.sl (List.map encOp l)))))], [], (sc (.int .i64 (rightF l []))), []⟩] mixed (by kernel_rfl) ⟨tri_call (k_right l), trivial⟩ ?_
    refine peel_seq ?_
    refine awp_seq ?_
    refine awp_region_keep tab_ok boxes [] [0, 1, 4, 5, 18] [5000] ⟨41, [(0, (.t (.c (.loc 5000 0)))), (1, (.t (.c (.d (.sl (List.map encOp l)))))), (4, (sc (.int .i64 0))), (5, (sc (.int .i64 (rightF l [])))), (18, (sc (.bool ((rightF l []) != 0))))], [(5000, (.cells 51 [(.d (.ptr [(encT t)]))]))], [5000]⟩ [] mixed (by kernel_rfl) trivial ?_
    refine peel_seq ?_
    refine awp_cond (b := ((rightF l []) != 0)) rfl (fun hc2 => ?_) (fun hc2 => ?_)
    · skip
      have hc2p : (rightF l []) ≠ 0 := by simpa using hc2
      refine awp_seq ?_
      refine awp_region_keep tab_ok boxes [] [0, 1, 4] [5000] ⟨41, [(0, (.t (.c (.loc 5000 0)))), (1, (.t (.c (.d (.sl (List.map encOp l)))))), (4, (sc (.int .i64 (rightF l []))))], [(5000, (.cells 51 [(.d (.ptr [(encT t)]))]))], [5000]⟩ [] mixed (by kernel_rfl) trivial ?_
      refine peel_seq ?_
      refine awp_ret ?_
      refine peel_seq_ret ?_
      exact ends_ret rfl (show some ((sc (.int .i64 (rightF l []))) : SV) = some ((sc (.int .i64 (setM t l).2)) : SV) from by first | rfl | (simp only [setM, hc1, hc2, cond_true, cond_false, Bool.not_true, Bool.not_false, List.map_nil])) (show some ([(5000, (.cells 51 [(.d (.ptr [(encT t)]))]))] : Objs) = some ([(5000, (.cells 51 [(.d (.ptr [(encT ((setM t l).1))]))]))] : Objs) from by first | rfl | (simp only [setM, hc1, hc2, cond_true, cond_false, Bool.not_true, Bool.not_false, List.map_nil]))
    · skip
      have hc2p : (rightF l []) = 0 := by simpa using hc2
      refine awp_skip ?_
      refine peel_seq ?_
      refine awp_seq ?_
      refine awp_region_keep tab_ok boxes [(0, ⟨[], (.t (.c (.d (.ptr [(encT (Tr.nil))])))), some []⟩)] [0, 1, 4, 6] [5000] ⟨41, [(0, (.t (.c (.loc 5000 0)))), (1, (.t (.c (.d (.sl (List.map encOp l)))))), (4, (sc (.int .i64 0))), (6, (.t (.c (.d (.ptr [(encT (Tr.nil))])))))], [(5000, (.cells 51 [(.d (.ptr [(encT t)]))]))], [5000]⟩ [⟨(Go.Op.call (Go.Call.mk (Go.Callee.value (Go.Operand.func 46)) #[] #[])), 49, [(sc (.func (.func 46) #[] #[]))], [], (.t (.c (.d (.ptr [(encT (Tr.nil))])))), []⟩] mixed (by kernel_rfl) ⟨tri_call (s_TNew), trivial⟩ ?_
      refine peel_seq ?_
      refine awp_seq ?_
      refine awp_seq ?_
      refine awp_region_keep tab_ok boxes [(1, ⟨[], (sc (.int .i64 (List.length l : Int))), none⟩)] [0, 4, 6, 21, 22, 23] [5000] ⟨41, [(0, (.t (.c (.loc 5000 0)))), (4, (sc (.int .i64 0))), (6, (.t (.c (.d (.ptr [(encT (Tr.nil))]))))), (21, (.t (.c (.d (.sl (List.map encOp l)))))), (22, (sc (.int .i64 (List.length l : Int)))), (23, (sc (.int .i64 0)))], [(5000, (.cells 51 [(.d (.ptr [(encT t)]))]))], [5000]⟩ [⟨(Go.Op.call (Go.Call.mk (Go.Callee.builtin Go.Builtin.len) #[(Go.Operand.tmp 21)] #[23])), 3, [(.t (.c (.d (.sl (List.map encOp l)))))], [], (sc (.int .i64 (List.length l : Int))), []⟩] mixed (by kernel_rfl) ⟨tri_len_map tab_ok rfl, trivial⟩ ?_
      refine peel_seq ?_
      refine awp_block ?_
      refine awp_len 21 rfl (fun hlen3 => ?_)
      refine awp_loopP (ι := Nat × (Tr)) (fun x => ⟨41, [(0, (.t (.c (.loc 5000 0)))), (4, (sc (.int .i64 0))), (6, (.t (.c (.d (.ptr [(encT x.2)]))))), (21, (.t (.c (.d (.sl (List.map encOp l)))))), (22, (sc (.int .i64 (List.length l : Int)))), (23, (sc (.int .i64 (x.1 : Int))))], [(5000, (.cells 51 [(.d (.ptr [(encT t)]))]))], [5000]⟩) (fun x => x.1 ≤ List.length l ∧ (Tr.size x.2 ≤ x.1) ∧ setF x.2 (List.drop x.1 l) = setF Tr.nil l) (fun x => List.length l - x.1) (0, Tr.nil) rfl ⟨Nat.zero_le _, by simp [Tr.size], rfl⟩ ?_
      rintro ⟨k4, a5⟩ ⟨hk6, hx7, hJ8⟩
      try simp only at hk6 hx7 hJ8
      refine awp_seq ?_
      refine awp_region_keep tab_ok boxes [] [0, 4, 6, 21, 22, 23, 24] [5000] ⟨41, [(0, (.t (.c (.loc 5000 0)))), (4, (sc (.int .i64 0))), (6, (.t (.c (.d (.ptr [(encT a5)]))))), (21, (.t (.c (.d (.sl (List.map encOp l)))))), (22, (sc (.int .i64 (List.length l : Int)))), (23, (sc (.int .i64 (k4 : Int)))), (24, (sc (.bool (decide ((k4 : Int) < (List.length l : Int))))))], [(5000, (.cells 51 [(.d (.ptr [(encT t)]))]))], [5000]⟩ [] mixed (by kernel_rfl) trivial ?_
      refine peel_seq ?_
      refine awp_seq ?_
      refine awp_cond (b := (decide ((k4 : Int) < (List.length l : Int)))) rfl (fun hc9 => ?_) (fun hc9 => ?_)
      · skip
        have hc9p := of_decide_eq_true hc9
        refine awp_skip ?_
        refine peel_seq ?_
        refine awp_seq ?_
        refine awp_block ?_
        refine awp_seq ?_
        obtain ⟨⟨key13, has14, val15⟩, ha11, hd12⟩ := at_drop (l := l) (k := k4) (by (try simp only [List.length_map] at *); omega)
        refine awp_region_keep tab_ok boxes [(0, ⟨[], (.t (.c (.d (.ptr [(.v (.string key13)), (.v (.bool has14)), (.v (.string val15))])))), some []⟩)] [0, 4, 6, 8, 21, 22, 23] [8, 5000] ⟨41, [(0, (.t (.c (.loc 5000 0)))), (4, (sc (.int .i64 0))), (6, (.t (.c (.d (.ptr [(encT a5)]))))), (8, (.t (.c (.loc 8 0)))), (21, (.t (.c (.d (.sl (List.map encOp l)))))), (22, (sc (.int .i64 (List.length l : Int)))), (23, (sc (.int .i64 (k4 : Int))))], [(8, (.cells 35 [(.d (.v (.string key13))), (.d (.v (.bool has14))), (.d (.v (.string val15)))])), (5000, (.cells 51 [(.d (.ptr [(encT t)]))]))], [5000]⟩ [⟨(Go.Op.indexAddr 23 (Go.Operand.tmp 21) (Go.Operand.tmp 23)), 0, [(.t (.c (.d (.sl (List.map encOp l))))), (sc (.int .i64 (k4 : Int)))], [], (.t (.c (.d (.ptr [(.v (.string key13)), (.v (.bool has14)), (.v (.string val15))])))), []⟩] mixed (by kernel_rfl) ⟨tri_index_sl (e := 35) (sz := 3) (bytes := 40) (i := k4) tab_ok rfl (at_map encOp ha11) (all_map fun _ => rfl), trivial⟩ ?_
        refine peel_seq ?_
        refine awp_seq ?_
        refine awp_seq ?_
        refine awp_region_keep tab_ok boxes [] [0, 4, 6, 8, 21, 22, 23, 29] [8, 5000] ⟨41, [(0, (.t (.c (.loc 5000 0)))), (4, (sc (.int .i64 0))), (6, (.t (.c (.d (.ptr [(encT a5)]))))), (8, (.t (.c (.loc 8 0)))), (21, (.t (.c (.d (.sl (List.map encOp l)))))), (22, (sc (.int .i64 (List.length l : Int)))), (23, (sc (.int .i64 (k4 : Int)))), (29, (sc (.bool (!has14))))], [(8, (.cells 35 [(.d (.v (.string key13))), (.d (.v (.bool has14))), (.d (.v (.string val15)))])), (5000, (.cells 51 [(.d (.ptr [(encT t)]))]))], [5000]⟩ [] mixed (by kernel_rfl) trivial ?_
        refine peel_seq ?_
        cases has14 with
        | false =>
          refine awp_true rfl ?_
          refine awp_seq ?_
          refine awp_region_keep tab_ok boxes [] [0, 4, 6, 8, 21, 22, 23] [8, 5000] ⟨41, [(0, (.t (.c (.loc 5000 0)))), (4, (sc (.int .i64 61))), (6, (.t (.c (.d (.ptr [(encT a5)]))))), (8, (.t (.c (.loc 8 0)))), (21, (.t (.c (.d (.sl (List.map encOp l)))))), (22, (sc (.int .i64 (List.length l : Int)))), (23, (sc (.int .i64 (k4 : Int))))], [(8, (.cells 35 [(.d (.v (.string key13))), (.d (.v (.bool false))), (.d (.v (.string val15)))])), (5000, (.cells 51 [(.d (.ptr [(encT t)]))]))], [5000]⟩ [] mixed (by kernel_rfl) trivial ?_
          refine peel_seq ?_
          have hE16 := hJ8
          rw [hd12] at hE16
          simp only [setF, hc1, hc2, hc9, cond_true, cond_false, Bool.not_true, Bool.not_false] at hE16
          refine awp_ret ?_
          refine peel_seq_ret ?_
          refine peel_block_ret ?_
          refine peel_seq_ret ?_
          refine peel_seq_ret ?_
          refine peel_block_ret ?_
          refine peel_seq_ret ?_
          exact ends_ret rfl (show some ((sc (.int .i64 61)) : SV) = some ((sc (.int .i64 (setM t l).2)) : SV) from by first | rfl | (simp only [setM, hc1, hc2, hc9, ← hE16, cond_true, cond_false, Bool.not_true, Bool.not_false, List.map_nil])) (show some ([(5000, (.cells 51 [(.d (.ptr [(encT t)]))]))] : Objs) = some ([(5000, (.cells 51 [(.d (.ptr [(encT ((setM t l).1))]))]))] : Objs) from by first | rfl | (simp only [setM, hc1, hc2, hc9, ← hE16, cond_true, cond_false, Bool.not_true, Bool.not_false, List.map_nil]))
        | true =>
          refine awp_false rfl ?_
          refine awp_skip ?_
          refine peel_seq ?_
          refine awp_region_keep tab_ok boxes [(5, ⟨[], (.t (.c (.d (.ptr [(encT (Tr.putT a5 key13 val15))])))), some []⟩)] [0, 4, 6, 21, 22, 23] [5000] ⟨41, [(0, (.t (.c (.loc 5000 0)))), (4, (sc (.int .i64 0))), (6, (.t (.c (.d (.ptr [(encT (Tr.putT a5 key13 val15))]))))), (21, (.t (.c (.d (.sl (List.map encOp l)))))), (22, (sc (.int .i64 (List.length l : Int)))), (23, (sc (.int .i64 (k4 : Int))))], [(5000, (.cells 51 [(.d (.ptr [(encT t)]))]))], [5000]⟩ [⟨(Go.Op.call (Go.Call.mk (Go.Callee.value (Go.Operand.func 47)) #[(Go.Operand.tmp 30), (Go.Operand.tmp 32), (Go.Operand.tmp 34)] #[49, 9, 9])), 49, [(sc (.func (.func 47) #[] #[])), (.t (.c (.d (.ptr [(encT a5)])))), (sc (.string key13)), (sc (.string val15))], [], (.t (.c (.d (.ptr [(encT (Tr.putT a5 key13 val15))])))), []⟩] mixed (by kernel_rfl) ⟨tri_call (s_TPut a5 key13 val15 (by (try simp only [big] at *); omega)), trivial⟩ ?_
          refine peel_block ?_
          refine peel_seq ?_
          refine awp_region_keep tab_ok boxes [(0, ⟨[], (sc (.int .i64 ((k4 : Int) + 1))), some []⟩)] [0, 4, 6, 21, 22, 23] [5000] ⟨41, [(0, (.t (.c (.loc 5000 0)))), (4, (sc (.int .i64 0))), (6, (.t (.c (.d (.ptr [(encT (Tr.putT a5 key13 val15))]))))), (21, (.t (.c (.d (.sl (List.map encOp l)))))), (22, (sc (.int .i64 (List.length l : Int)))), (23, (sc (.int .i64 ((k4 : Int) + 1))))], [(5000, (.cells 51 [(.d (.ptr [(encT t)]))]))], [5000]⟩ [⟨(Go.Op.binOp Go.BinOp.add 3 (Go.Operand.tmp 23) (Go.Operand.const (Go.Value.int Go.IntKind.i64 1)) 3), 3, [(sc (.int .i64 (k4 : Int))), (sc (.int .i64 1))], [], (sc (.int .i64 ((k4 : Int) + 1))), []⟩] mixed (by kernel_rfl) ⟨tri_int ((k4 : Int) + 1) (wrap_i64 (by omega)), trivial⟩ ?_
          exact peel_round (k4 + 1, (Tr.putT a5 key13 val15)) rfl ⟨by (try simp only [List.length_map] at *); omega, by exact Nat.le_trans (Tr.size_putT ..) (by omega), by have hj := hJ8; rw [hd12] at hj; simp only [setF, hc1, hc2, hc9, cond_true, cond_false, Bool.not_true, Bool.not_false] at hj ⊢; exact hj⟩ (by (try simp only [List.length_map] at *); omega)
      · skip
        have hc9p := of_decide_eq_false hc9
        have hE17 := hJ8
        rw [at_end (l := l) (by (try simp only [List.length_map] at *); omega)] at hE17
        simp only [setF, hc1, hc2, hc9, cond_true, cond_false, Bool.not_true, Bool.not_false] at hE17
        refine awp_exit ?_
        refine peel_seq_exit ?_
        refine peel_seq_exit ?_
        refine peel_hit ?_
        refine peel_seq ?_
        refine awp_seq ?_
        refine awp_region_keep tab_ok boxes [] [4] [5000] ⟨41, [(4, (sc (.int .i64 0)))], [(5000, (.cells 51 [(.d (.ptr [(encT a5)]))]))], [5000]⟩ [] mixed (by kernel_rfl) trivial ?_
        refine peel_seq ?_
        refine awp_seq ?_
        refine awp_region_keep tab_ok boxes [] [4] [5000] ⟨41, [(4, (sc (.int .i64 0)))], [(5000, (.cells 51 [(.d (.ptr [(encT a5)]))]))], [5000]⟩ [] mixed (by kernel_rfl) trivial ?_
        refine peel_seq ?_
        refine awp_ret ?_
        exact ends_ret rfl (show some ((sc (.int .i64 0)) : SV) = some ((sc (.int .i64 (setM t l).2)) : SV) from by first | rfl | (simp only [setM, hc1, hc2, hc9, ← hE17, cond_true, cond_false, Bool.not_true, Bool.not_false, List.map_nil])) (show some ([(5000, (.cells 51 [(.d (.ptr [(encT a5)]))]))] : Objs) = some ([(5000, (.cells 51 [(.d (.ptr [(encT ((setM t l).1))]))]))] : Objs) from by first | rfl | (simp only [setM, hc1, hc2, hc9, ← hE17, cond_true, cond_false, Bool.not_true, Bool.not_false, List.map_nil]))
theorem k_Set_nil (l : List AOp) : Sat Try.prog 18 [(sc (.pointer none)), (.t (.c (.d (.sl (List.map encOp l)))))] [] (sc (.int .i64 6)) [] := by
  refine sat_of_body tab_ok Try.func18 rfl (by kernel_rfl) (Nat.le_of_ble_eq_true rfl) rfl fun G => ?_
  refine awp_seq ?_
  refine awp_region_keep tab_ok boxes [] [0, 1, 4] [] ⟨41, [(0, (sc (.pointer none))), (1, (.t (.c (.d (.sl (List.map encOp l)))))), (4, (sc (.int .i64 0)))], [], []⟩ [] mixed (by kernel_rfl) trivial ?_
  refine peel_seq ?_
  refine awp_seq ?_
  refine awp_seq ?_
  refine awp_region_keep tab_ok boxes [(1, ⟨[], (sc (.bool false)), some []⟩)] [0, 1, 4, 11] [] ⟨41, [(0, (sc (.pointer none))), (1, (.t (.c (.d (.sl (List.map encOp l)))))), (4, (sc (.int .i64 0))), (11, (sc (.bool true)))], [], []⟩ [⟨(Go.Op.call (Go.Call.mk (Go.Callee.value (Go.Operand.func 42)) #[(Go.Operand.tmp 9)] #[28])), 4, [(sc (.func (.func 42) #[] #[])), (sc (.pointer none))], [], (sc (.bool false)), []⟩] mixed (by kernel_rfl) ⟨tri_call (k_made_nil), trivial⟩ ?_
  refine peel_seq ?_
  refine awp_true rfl ?_
  refine awp_seq ?_
  refine awp_region_keep tab_ok boxes [] [0, 1, 4] [] ⟨41, [(0, (sc (.pointer none))), (1, (.t (.c (.d (.sl (List.map encOp l)))))), (4, (sc (.int .i64 6)))], [], []⟩ [] mixed (by kernel_rfl) trivial ?_
  refine peel_seq ?_
  refine awp_ret ?_
  refine peel_seq_ret ?_
  exact ends_ret rfl rfl rfl
theorem k_Set_zero (l : List AOp) : Sat Try.prog 18 [(.t (.c (.d (.ptr [(.v (.pointer none))])))), (.t (.c (.d (.sl (List.map encOp l)))))] [] (sc (.int .i64 6)) [] := by
  refine sat_of_body tab_ok Try.func18 rfl (by kernel_rfl) (Nat.le_of_ble_eq_true rfl) rfl fun G => ?_
  refine awp_seq ?_
  refine awp_region_keep tab_ok boxes [] [0, 1, 4] [] ⟨41, [(0, (.t (.c (.d (.ptr [(.v (.pointer none))]))))), (1, (.t (.c (.d (.sl (List.map encOp l)))))), (4, (sc (.int .i64 0)))], [], []⟩ [] mixed (by kernel_rfl) trivial ?_
  refine peel_seq ?_
  refine awp_seq ?_
  refine awp_seq ?_
  refine awp_region_keep tab_ok boxes [(1, ⟨[], (sc (.bool false)), some []⟩)] [0, 1, 4, 11] [] ⟨41, [(0, (.t (.c (.d (.ptr [(.v (.pointer none))]))))), (1, (.t (.c (.d (.sl (List.map encOp l)))))), (4, (sc (.int .i64 0))), (11, (sc (.bool true)))], [], []⟩ [⟨(Go.Op.call (Go.Call.mk (Go.Callee.value (Go.Operand.func 42)) #[(Go.Operand.tmp 9)] #[28])), 4, [(sc (.func (.func 42) #[] #[])), (.t (.c (.d (.ptr [(.v (.pointer none))]))))], [], (sc (.bool false)), []⟩] mixed (by kernel_rfl) ⟨tri_call (k_made_zero), trivial⟩ ?_
  refine peel_seq ?_
  refine awp_true rfl ?_
  refine awp_seq ?_
  refine awp_region_keep tab_ok boxes [] [0, 1, 4] [] ⟨41, [(0, (.t (.c (.d (.ptr [(.v (.pointer none))]))))), (1, (.t (.c (.d (.sl (List.map encOp l)))))), (4, (sc (.int .i64 6)))], [], []⟩ [] mixed (by kernel_rfl) trivial ?_
  refine peel_seq ?_
  refine awp_ret ?_
  refine peel_seq_ret ?_
  exact ends_ret rfl rfl rfl
theorem k_Clone (t : Tr) : Sat Try.prog 13 [(.t (.c (.loc 5000 0)))] [(5000, (.cells 51 [(.d (.ptr [(encT t)]))]))] (.t (.c (.loc 5001 0))) [(5000, (.cells 51 [(.d (.ptr [(encT t)]))])), (5001, (.cells 51 [(.d (.ptr [(encT t)]))]))] := by
  refine sat_of_body tab_ok Try.func13 rfl (by kernel_rfl) (Nat.le_of_ble_eq_true rfl) rfl fun G => ?_
  refine awp_seq ?_
  refine awp_region_keep tab_ok boxes [] [0, 2] [5000] ⟨12, [(0, (.t (.c (.loc 5000 0)))), (2, (sc (.pointer none)))], [(5000, (.cells 51 [(.d (.ptr [(encT t)]))]))], [5000]⟩ [] mixed (by kernel_rfl) trivial ?_
  refine peel_seq ?_
  refine awp_seq ?_
  refine awp_seq ?_
  refine awp_region_keep tab_ok boxes [(1, ⟨[5000], (sc (.bool true)), none⟩)] [0, 2, 5] [5000] ⟨12, [(0, (.t (.c (.loc 5000 0)))), (2, (sc (.pointer none))), (5, (sc (.bool false)))], [(5000, (.cells 51 [(.d (.ptr [(encT t)]))]))], [5000]⟩ [⟨(Go.Op.call (Go.Call.mk (Go.Callee.value (Go.Operand.func 42)) #[(Go.Operand.tmp 3)] #[28])), 4, [(sc (.func (.func 42) #[] #[])), (.t (.c (.loc 5000 0)))], [(5000, (.cells 51 [(.d (.ptr [(encT t)]))]))], (sc (.bool true)), [(5000, (.cells 51 [(.d (.ptr [(encT t)]))]))]⟩] mixed (by kernel_rfl) ⟨tri_call (k_made t), trivial⟩ ?_
  refine peel_seq ?_
  refine awp_false rfl ?_
  refine awp_skip ?_
  refine peel_seq ?_
  refine awp_seq ?_
  refine awp_region_keep tab_ok boxes [] [2] [11, 5000] ⟨12, [(2, (.t (.c (.loc 11 0))))], [(11, (.cells 51 [(.d (.ptr [(encT t)]))])), (5000, (.cells 51 [(.d (.ptr [(encT t)]))]))], [5000]⟩ [] mixed (by kernel_rfl) trivial ?_
  refine peel_seq ?_
  refine awp_mv [.sw 11 5001] ⟨12, [(2, (.t (.c (.loc 5001 0))))], [(5001, (.cells 51 [(.d (.ptr [(encT t)]))])), (5000, (.cells 51 [(.d (.ptr [(encT t)]))]))], [5000]⟩ rfl ?_
  refine awp_ret ?_
  exact ends_ret rfl rfl rfl
theorem k_Clone_nil  : Sat Try.prog 13 [(sc (.pointer none))] [] (sc (.pointer none)) [] := by
  refine sat_of_body tab_ok Try.func13 rfl (by kernel_rfl) (Nat.le_of_ble_eq_true rfl) rfl fun G => ?_
  refine awp_seq ?_
  refine awp_region_keep tab_ok boxes [] [0, 2] [] ⟨12, [(0, (sc (.pointer none))), (2, (sc (.pointer none)))], [], []⟩ [] mixed (by kernel_rfl) trivial ?_
  refine peel_seq ?_
  refine awp_seq ?_
  refine awp_seq ?_
  refine awp_region_keep tab_ok boxes [(1, ⟨[], (sc (.bool false)), some []⟩)] [0, 2, 5] [] ⟨12, [(0, (sc (.pointer none))), (2, (sc (.pointer none))), (5, (sc (.bool true)))], [], []⟩ [⟨(Go.Op.call (Go.Call.mk (Go.Callee.value (Go.Operand.func 42)) #[(Go.Operand.tmp 3)] #[28])), 4, [(sc (.func (.func 42) #[] #[])), (sc (.pointer none))], [], (sc (.bool false)), []⟩] mixed (by kernel_rfl) ⟨tri_call (k_made_nil), trivial⟩ ?_
  refine peel_seq ?_
  refine awp_true rfl ?_
  refine awp_seq ?_
  refine awp_region_keep tab_ok boxes [] [0, 2] [] ⟨12, [(0, (sc (.pointer none))), (2, (sc (.pointer none)))], [], []⟩ [] mixed (by kernel_rfl) trivial ?_
  refine peel_seq ?_
  refine awp_ret ?_
  refine peel_seq_ret ?_
  exact ends_ret rfl rfl rfl
theorem k_Clone_zero  : Sat Try.prog 13 [(.t (.c (.d (.ptr [(.v (.pointer none))]))))] [] (sc (.pointer none)) [] := by
  refine sat_of_body tab_ok Try.func13 rfl (by kernel_rfl) (Nat.le_of_ble_eq_true rfl) rfl fun G => ?_
  refine awp_seq ?_
  refine awp_region_keep tab_ok boxes [] [0, 2] [] ⟨12, [(0, (.t (.c (.d (.ptr [(.v (.pointer none))]))))), (2, (sc (.pointer none)))], [], []⟩ [] mixed (by kernel_rfl) trivial ?_
  refine peel_seq ?_
  refine awp_seq ?_
  refine awp_seq ?_
  refine awp_region_keep tab_ok boxes [(1, ⟨[], (sc (.bool false)), some []⟩)] [0, 2, 5] [] ⟨12, [(0, (.t (.c (.d (.ptr [(.v (.pointer none))]))))), (2, (sc (.pointer none))), (5, (sc (.bool true)))], [], []⟩ [⟨(Go.Op.call (Go.Call.mk (Go.Callee.value (Go.Operand.func 42)) #[(Go.Operand.tmp 3)] #[28])), 4, [(sc (.func (.func 42) #[] #[])), (.t (.c (.d (.ptr [(.v (.pointer none))]))))], [], (sc (.bool false)), []⟩] mixed (by kernel_rfl) ⟨tri_call (k_made_zero), trivial⟩ ?_
  refine peel_seq ?_
  refine awp_true rfl ?_
  refine awp_seq ?_
  refine awp_region_keep tab_ok boxes [] [0, 2] [] ⟨12, [(0, (.t (.c (.d (.ptr [(.v (.pointer none))]))))), (2, (sc (.pointer none)))], [], []⟩ [] mixed (by kernel_rfl) trivial ?_
  refine peel_seq ?_
  refine awp_ret ?_
  refine peel_seq_ret ?_
  exact ends_ret rfl rfl rfl
end Go.Proofs.Ytjbiaoajmdbigaa
