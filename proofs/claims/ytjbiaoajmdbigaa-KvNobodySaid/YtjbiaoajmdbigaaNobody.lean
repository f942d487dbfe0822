/- Scan of maps that no call made; the walk of KvNobody. -/
import Derived.Test.YtjbiaoajmdbigaaLaw1
set_option maxRecDepth 100000
set_option linter.unusedVariables false
set_option linter.unusedSimpArgs false
namespace Go.Proofs.Ytjbiaoajmdbigaa
open Go Go.E
theorem k_Scan_nil (f g : ByteArray) : Sat Try.prog 17 [(sc (.pointer none)), (sc (.string f)), (sc (.string g))] [] (.t (.c (.d (.sl [])))) [] := by
  refine sat_of_body tab_ok Try.func17 rfl (by kernel_rfl) (Nat.le_of_ble_eq_true rfl) rfl fun G => ?_
  refine awp_seq ?_
  refine awp_region_keep tab_ok boxes [] [0, 1, 2, 6] [] ⟨41, [(0, (sc (.pointer none))), (1, (sc (.string f))), (2, (sc (.string g))), (6, (sc (.slice none 0 0)))], [], []⟩ [] mixed (by kernel_rfl) trivial ?_
  refine peel_seq ?_
  refine awp_seq ?_
  refine awp_region_keep tab_ok boxes [] [0, 1, 2, 6, 7] [] ⟨41, [(0, (sc (.pointer none))), (1, (sc (.string f))), (2, (sc (.string g))), (6, (sc (.slice none 0 0))), (7, (sc (.slice none 0 0)))], [], []⟩ [] mixed (by kernel_rfl) trivial ?_
  refine peel_seq ?_
  refine awp_seq ?_
  refine awp_seq ?_
  refine awp_region_keep tab_ok boxes [(1, ⟨[], (sc (.bool false)), some []⟩)] [0, 1, 2, 6, 7, 12] [] ⟨41, [(0, (sc (.pointer none))), (1, (sc (.string f))), (2, (sc (.string g))), (6, (sc (.slice none 0 0))), (7, (sc (.slice none 0 0))), (12, (sc (.bool true)))], [], []⟩ [⟨(Go.Op.call (Go.Call.mk (Go.Callee.value (Go.Operand.func 42)) #[(Go.Operand.tmp 10)] #[28])), 4, [(sc (.func (.func 42) #[] #[])), (sc (.pointer none))], [], (sc (.bool false)), []⟩] mixed (by kernel_rfl) ⟨tri_call (k_made_nil), trivial⟩ ?_
  refine peel_seq ?_
  refine awp_true rfl ?_
  refine awp_seq ?_
  refine awp_region_keep tab_ok boxes [] [0, 1, 2, 6, 7] [] ⟨41, [(0, (sc (.pointer none))), (1, (sc (.string f))), (2, (sc (.string g))), (6, (sc (.slice none 0 0))), (7, (sc (.slice none 0 0)))], [], []⟩ [] mixed (by kernel_rfl) trivial ?_
  refine peel_seq ?_
  refine awp_mv [.own 6 906 0 0 0, .fz 906] ⟨41, [(6, (.t (.c (.d (.sl []))))), (0, (sc (.pointer none))), (1, (sc (.string f))), (2, (sc (.string g))), (7, (sc (.slice none 0 0)))], [], []⟩ rfl ?_
  refine awp_ret ?_
  refine peel_seq_ret ?_
  exact ends_ret rfl rfl rfl
theorem k_Scan_zero (f g : ByteArray) : Sat Try.prog 17 [(.t (.c (.d (.ptr [(.v (.pointer none))])))), (sc (.string f)), (sc (.string g))] [] (.t (.c (.d (.sl [])))) [] := by
  refine sat_of_body tab_ok Try.func17 rfl (by kernel_rfl) (Nat.le_of_ble_eq_true rfl) rfl fun G => ?_
  refine awp_seq ?_
  refine awp_region_keep tab_ok boxes [] [0, 1, 2, 6] [] ⟨41, [(0, (.t (.c (.d (.ptr [(.v (.pointer none))]))))), (1, (sc (.string f))), (2, (sc (.string g))), (6, (sc (.slice none 0 0)))], [], []⟩ [] mixed (by kernel_rfl) trivial ?_
  refine peel_seq ?_
  refine awp_seq ?_
  refine awp_region_keep tab_ok boxes [] [0, 1, 2, 6, 7] [] ⟨41, [(0, (.t (.c (.d (.ptr [(.v (.pointer none))]))))), (1, (sc (.string f))), (2, (sc (.string g))), (6, (sc (.slice none 0 0))), (7, (sc (.slice none 0 0)))], [], []⟩ [] mixed (by kernel_rfl) trivial ?_
  refine peel_seq ?_
  refine awp_seq ?_
  refine awp_seq ?_
  refine awp_region_keep tab_ok boxes [(1, ⟨[], (sc (.bool false)), some []⟩)] [0, 1, 2, 6, 7, 12] [] ⟨41, [(0, (.t (.c (.d (.ptr [(.v (.pointer none))]))))), (1, (sc (.string f))), (2, (sc (.string g))), (6, (sc (.slice none 0 0))), (7, (sc (.slice none 0 0))), (12, (sc (.bool true)))], [], []⟩ [⟨(Go.Op.call (Go.Call.mk (Go.Callee.value (Go.Operand.func 42)) #[(Go.Operand.tmp 10)] #[28])), 4, [(sc (.func (.func 42) #[] #[])), (.t (.c (.d (.ptr [(.v (.pointer none))]))))], [], (sc (.bool false)), []⟩] mixed (by kernel_rfl) ⟨tri_call (k_made_zero), trivial⟩ ?_
  refine peel_seq ?_
  refine awp_true rfl ?_
  refine awp_seq ?_
  refine awp_region_keep tab_ok boxes [] [0, 1, 2, 6, 7] [] ⟨41, [(0, (.t (.c (.d (.ptr [(.v (.pointer none))]))))), (1, (sc (.string f))), (2, (sc (.string g))), (6, (sc (.slice none 0 0))), (7, (sc (.slice none 0 0)))], [], []⟩ [] mixed (by kernel_rfl) trivial ?_
  refine peel_seq ?_
  refine awp_mv [.own 6 906 0 0 0, .fz 906] ⟨41, [(6, (.t (.c (.d (.sl []))))), (0, (.t (.c (.d (.ptr [(.v (.pointer none))]))))), (1, (sc (.string f))), (2, (sc (.string g))), (7, (sc (.slice none 0 0)))], [], []⟩ rfl ?_
  refine awp_ret ?_
  refine peel_seq_ret ?_
  exact ends_ret rfl rfl rfl
def boxesN : List Nat := 51 :: boxes
theorem w_Nobody (op pos : Int) (conds ops : List AOp) (fr to : ByteArray) (p1 : Int) (p2 : ByteArray) (p3 : Bool) (p4 : ByteArray) (p5 : Bool) (p6 : ByteArray) : Sat Try.prog 5 [(.t (.agg [(.d (.v (.int .i64 op))), (.d (.v (.int .i64 pos))), (.d (.sl (List.map encOp conds))), (.d (.sl (List.map encOp ops))), (.d (.v (.string fr))), (.d (.v (.string to))), (.d (.v (.int .i64 p1))), (.d (.v (.string p2))), (.d (.v (.bool p3))), (.d (.v (.string p4))), (.d (.v (.bool p5))), (.d (.v (.string p6)))]))] [] (sc (.bool true)) [] := by
  refine sat_of_body tab_ok Try.func5 rfl (by kernel_rfl) (Nat.le_of_ble_eq_true rfl) rfl fun G => ?_
  refine awp_seq ?_
  refine awp_region_keep tab_ok boxesN [] [1, 2] [1] ⟨98, [(1, (.t (.c (.loc 1 0)))), (2, (sc (.bool false)))], [(1, (.cells 46 [(.d (.v (.int .i64 op))), (.d (.v (.int .i64 pos))), (.d (.sl (List.map encOp conds))), (.d (.sl (List.map encOp ops))), (.d (.v (.string fr))), (.d (.v (.string to))), (.d (.v (.int .i64 p1))), (.d (.v (.string p2))), (.d (.v (.bool p3))), (.d (.v (.string p4))), (.d (.v (.bool p5))), (.d (.v (.string p6)))]))], []⟩ [] mixed (by kernel_rfl) trivial ?_
  refine peel_seq ?_
  refine awp_seq ?_
  refine awp_seq ?_
  refine awp_region_keep tab_ok boxesN [(2, ⟨[], (.t (.c (.d (.sl [[(.v (.pointer none))], [(.ptr [(.v (.pointer none))])]])))), some []⟩)] [1, 2, 13, 14, 15] [1] ⟨98, [(1, (.t (.c (.loc 1 0)))), (2, (sc (.bool false))), (13, (.t (.c (.d (.sl [[(.v (.pointer none))], [(.ptr [(.v (.pointer none))])]]))))), (14, (sc (.int .i64 2))), (15, (sc (.int .i64 0)))], [(1, (.cells 46 [(.d (.v (.int .i64 op))), (.d (.v (.int .i64 pos))), (.d (.sl (List.map encOp conds))), (.d (.sl (List.map encOp ops))), (.d (.v (.string fr))), (.d (.v (.string to))), (.d (.v (.int .i64 p1))), (.d (.v (.string p2))), (.d (.v (.bool p3))), (.d (.v (.string p4))), (.d (.v (.bool p5))), (.d (.v (.string p6)))]))], []⟩ [⟨(Go.Op.buildSlice 52 2 #[(0, (Go.Operand.const (Go.Value.pointer Option.none))), (1, (Go.Operand.tmp 12))]), 52, [(sc (.pointer none)), (.t (.c (.d (.ptr [(.v (.pointer none))]))))], [], (.t (.c (.d (.sl [[(.v (.pointer none))], [(.ptr [(.v (.pointer none))])]])))), []⟩] mixed (by kernel_rfl) ⟨tri_slice_data (e := 28) (sz := 1) (bytes := 8) tab_ok (by kernel_rfl) rfl, trivial⟩ ?_
  refine peel_seq ?_
  refine awp_block ?_
  refine awp_rounds 3 ?_
  refine rounds_one ?_
  refine awp_seq ?_
  refine awp_region_keep tab_ok boxesN [] [1, 2, 13, 14, 15, 16] [1] ⟨98, [(1, (.t (.c (.loc 1 0)))), (2, (sc (.bool false))), (13, (.t (.c (.d (.sl [[(.v (.pointer none))], [(.ptr [(.v (.pointer none))])]]))))), (14, (sc (.int .i64 2))), (15, (sc (.int .i64 0))), (16, (sc (.bool true)))], [(1, (.cells 46 [(.d (.v (.int .i64 op))), (.d (.v (.int .i64 pos))), (.d (.sl (List.map encOp conds))), (.d (.sl (List.map encOp ops))), (.d (.v (.string fr))), (.d (.v (.string to))), (.d (.v (.int .i64 p1))), (.d (.v (.string p2))), (.d (.v (.bool p3))), (.d (.v (.string p4))), (.d (.v (.bool p5))), (.d (.v (.string p6)))]))], []⟩ [] mixed (by kernel_rfl) trivial ?_
  refine peel_seq ?_
  refine awp_seq ?_
  refine awp_true rfl ?_
  refine awp_skip ?_
  refine peel_seq ?_
  refine awp_seq ?_
  refine awp_block ?_
  refine awp_seq ?_
  refine awp_region_keep tab_ok boxesN [(0, ⟨[], (.t (.c (.d (.ptr [(.v (.pointer none))])))), some []⟩)] [1, 2, 4, 13, 14, 15] [1] ⟨98, [(1, (.t (.c (.loc 1 0)))), (2, (sc (.bool false))), (4, (sc (.pointer none))), (13, (.t (.c (.d (.sl [[(.v (.pointer none))], [(.ptr [(.v (.pointer none))])]]))))), (14, (sc (.int .i64 2))), (15, (sc (.int .i64 0)))], [(1, (.cells 46 [(.d (.v (.int .i64 op))), (.d (.v (.int .i64 pos))), (.d (.sl (List.map encOp conds))), (.d (.sl (List.map encOp ops))), (.d (.v (.string fr))), (.d (.v (.string to))), (.d (.v (.int .i64 p1))), (.d (.v (.string p2))), (.d (.v (.bool p3))), (.d (.v (.string p4))), (.d (.v (.bool p5))), (.d (.v (.string p6)))]))], []⟩ [⟨(Go.Op.indexAddr 52 (Go.Operand.tmp 13) (Go.Operand.tmp 15)), 0, [(.t (.c (.d (.sl [[(.v (.pointer none))], [(.ptr [(.v (.pointer none))])]])))), (sc (.int .i64 0))], [], (.t (.c (.d (.ptr [(.v (.pointer none))])))), []⟩] mixed (by kernel_rfl) ⟨tri_index_sl (e := 28) (sz := 1) (bytes := 8) (i := 0) tab_ok rfl rfl (by simp), trivial⟩ ?_
  refine peel_seq ?_
  refine awp_seq ?_
  refine awp_region_keep tab_ok boxesN [(7, ⟨[], (.tup [(.c (.d (.sl []))), (.c (.d (.v (.int .i64 6))))]), some []⟩)] [1, 2, 4, 5, 6, 13, 14, 15] [1] ⟨98, [(1, (.t (.c (.loc 1 0)))), (2, (sc (.bool false))), (4, (sc (.pointer none))), (5, (.t (.c (.d (.sl []))))), (6, (sc (.int .i64 6))), (13, (.t (.c (.d (.sl [[(.v (.pointer none))], [(.ptr [(.v (.pointer none))])]]))))), (14, (sc (.int .i64 2))), (15, (sc (.int .i64 0)))], [(1, (.cells 46 [(.d (.v (.int .i64 op))), (.d (.v (.int .i64 pos))), (.d (.sl (List.map encOp conds))), (.d (.sl (List.map encOp ops))), (.d (.v (.string fr))), (.d (.v (.string to))), (.d (.v (.int .i64 p1))), (.d (.v (.string p2))), (.d (.v (.bool p3))), (.d (.v (.string p4))), (.d (.v (.bool p5))), (.d (.v (.string p6)))]))], []⟩ [⟨(Go.Op.call (Go.Call.mk (Go.Callee.value (Go.Operand.func 19)) #[(Go.Operand.tmp 20), (Go.Operand.tmp 22), (Go.Operand.tmp 24), (Go.Operand.tmp 26)] #[28, 3, 23, 23])), 38, [(sc (.func (.func 19) #[] #[])), (sc (.pointer none)), (sc (.int .i64 pos)), (.t (.c (.d (.sl (List.map encOp conds))))), (.t (.c (.d (.sl (List.map encOp ops)))))], [], (.tup [(.c (.d (.sl []))), (.c (.d (.v (.int .i64 6))))]), []⟩] mixed (by kernel_rfl) ⟨tri_call (k_Plan_nil pos conds ops), trivial⟩ ?_
  refine peel_seq ?_
  refine awp_seq ?_
  refine awp_region_keep tab_ok boxesN [(7, ⟨[], (.tup [(.c (.d (.sl []))), (.c (.d (.v (.int .i64 6))))]), some []⟩)] [1, 2, 4, 5, 6, 7, 8, 13, 14, 15] [1] ⟨98, [(1, (.t (.c (.loc 1 0)))), (2, (sc (.bool false))), (4, (sc (.pointer none))), (5, (.t (.c (.d (.sl []))))), (6, (sc (.int .i64 6))), (7, (.t (.c (.d (.sl []))))), (8, (sc (.int .i64 6))), (13, (.t (.c (.d (.sl [[(.v (.pointer none))], [(.ptr [(.v (.pointer none))])]]))))), (14, (sc (.int .i64 2))), (15, (sc (.int .i64 0)))], [(1, (.cells 46 [(.d (.v (.int .i64 op))), (.d (.v (.int .i64 pos))), (.d (.sl (List.map encOp conds))), (.d (.sl (List.map encOp ops))), (.d (.v (.string fr))), (.d (.v (.string to))), (.d (.v (.int .i64 p1))), (.d (.v (.string p2))), (.d (.v (.bool p3))), (.d (.v (.string p4))), (.d (.v (.bool p5))), (.d (.v (.string p6)))]))], []⟩ [⟨(Go.Op.call (Go.Call.mk (Go.Callee.value (Go.Operand.func 15)) #[(Go.Operand.tmp 31), (Go.Operand.tmp 33), (Go.Operand.tmp 35), (Go.Operand.tmp 37)] #[28, 3, 23, 23])), 38, [(sc (.func (.func 15) #[] #[])), (sc (.pointer none)), (sc (.int .i64 pos)), (.t (.c (.d (.sl (List.map encOp conds))))), (.t (.c (.d (.sl (List.map encOp ops)))))], [], (.tup [(.c (.d (.sl []))), (.c (.d (.v (.int .i64 6))))]), []⟩] mixed (by kernel_rfl) ⟨tri_call (k_Do_nil pos conds ops), trivial⟩ ?_
  refine peel_seq ?_
  refine awp_seq ?_
  refine awp_region_keep tab_ok boxesN [(3, ⟨[], (.tup [(.c (.d (.v (.string ⟨#[]⟩)))), (.c (.d (.v (.bool false))))]), some []⟩)] [1, 2, 4, 5, 6, 7, 8, 9, 10, 13, 14, 15] [1] ⟨98, [(1, (.t (.c (.loc 1 0)))), (2, (sc (.bool false))), (4, (sc (.pointer none))), (5, (.t (.c (.d (.sl []))))), (6, (sc (.int .i64 6))), (7, (.t (.c (.d (.sl []))))), (8, (sc (.int .i64 6))), (9, (sc (.string ⟨#[]⟩))), (10, (sc (.bool false))), (13, (.t (.c (.d (.sl [[(.v (.pointer none))], [(.ptr [(.v (.pointer none))])]]))))), (14, (sc (.int .i64 2))), (15, (sc (.int .i64 0)))], [(1, (.cells 46 [(.d (.v (.int .i64 op))), (.d (.v (.int .i64 pos))), (.d (.sl (List.map encOp conds))), (.d (.sl (List.map encOp ops))), (.d (.v (.string fr))), (.d (.v (.string to))), (.d (.v (.int .i64 p1))), (.d (.v (.string p2))), (.d (.v (.bool p3))), (.d (.v (.string p4))), (.d (.v (.bool p5))), (.d (.v (.string p6)))]))], []⟩ [⟨(Go.Op.call (Go.Call.mk (Go.Callee.value (Go.Operand.func 20)) #[(Go.Operand.tmp 42), (Go.Operand.tmp 44)] #[28, 9])), 53, [(sc (.func (.func 20) #[] #[])), (sc (.pointer none)), (sc (.string fr))], [], (.tup [(.c (.d (.v (.string ⟨#[]⟩)))), (.c (.d (.v (.bool false))))]), []⟩] mixed (by kernel_rfl) ⟨tri_call (k_Get_nil fr), trivial⟩ ?_
  refine peel_seq ?_
  refine awp_seq ?_
  refine awp_region_keep tab_ok boxesN [(3, ⟨[], (.t (.c (.d (.sl (List.map encEv ([(AEv.mk p1 p2 p3 p4 p5 p6)])))))), some []⟩), (4, ⟨[], (.tup []), some []⟩)] [1, 2, 4, 5, 6, 7, 8, 9, 10, 13, 14, 15] [1] ⟨98, [(1, (.t (.c (.loc 1 0)))), (2, (sc (.bool false))), (4, (sc (.pointer none))), (5, (.t (.c (.d (.sl []))))), (6, (sc (.int .i64 6))), (7, (.t (.c (.d (.sl []))))), (8, (sc (.int .i64 6))), (9, (sc (.string ⟨#[]⟩))), (10, (sc (.bool false))), (13, (.t (.c (.d (.sl [[(.v (.pointer none))], [(.ptr [(.v (.pointer none))])]]))))), (14, (sc (.int .i64 2))), (15, (sc (.int .i64 0)))], [(1, (.cells 46 [(.d (.v (.int .i64 op))), (.d (.v (.int .i64 pos))), (.d (.sl (List.map encOp conds))), (.d (.sl (List.map encOp ops))), (.d (.v (.string fr))), (.d (.v (.string to))), (.d (.v (.int .i64 p1))), (.d (.v (.string p2))), (.d (.v (.bool p3))), (.d (.v (.string p4))), (.d (.v (.bool p5))), (.d (.v (.string p6)))]))], []⟩ [⟨(Go.Op.buildSlice 29 1 #[(0, (Go.Operand.tmp 50))]), 29, [(.t (.agg [(.d (.v (.int .i64 p1))), (.d (.v (.string p2))), (.d (.v (.bool p3))), (.d (.v (.string p4))), (.d (.v (.bool p5))), (.d (.v (.string p6)))]))], [], (.t (.c (.d (.sl (List.map encEv ([(AEv.mk p1 p2 p3 p4 p5 p6)])))))), []⟩, ⟨(Go.Op.call (Go.Call.mk (Go.Callee.value (Go.Operand.func 21)) #[(Go.Operand.tmp 48), (Go.Operand.tmp 51)] #[28, 29])), 0, [(sc (.func (.func 21) #[] #[])), (sc (.pointer none)), (.t (.c (.d (.sl (List.map encEv ([(AEv.mk p1 p2 p3 p4 p5 p6)]))))))], [], (.tup []), []⟩] mixed (by kernel_rfl) ⟨tri_slice_data (e := 44) (sz := 6) (bytes := 72) tab_ok (by kernel_rfl) rfl, tri_call (k_Take_nil ([(AEv.mk p1 p2 p3 p4 p5 p6)])), trivial⟩ ?_
  refine peel_seq ?_
  refine awp_seq ?_
  refine awp_region_keep tab_ok boxesN [(9, ⟨[], (sc (.int .i64 0)), some []⟩), (16, ⟨[], (.t (.c (.d (.sl [])))), some []⟩), (35, ⟨[], (sc (.int .i64 6)), some []⟩), (40, ⟨[], (sc (.pointer none)), some []⟩)] [1, 2, 13, 14, 15, 95] [1] ⟨98, [(1, (.t (.c (.loc 1 0)))), (2, (sc (.bool false))), (13, (.t (.c (.d (.sl [[(.v (.pointer none))], [(.ptr [(.v (.pointer none))])]]))))), (14, (sc (.int .i64 2))), (15, (sc (.int .i64 0))), (95, (sc (.bool false)))], [(1, (.cells 46 [(.d (.v (.int .i64 op))), (.d (.v (.int .i64 pos))), (.d (.sl (List.map encOp conds))), (.d (.sl (List.map encOp ops))), (.d (.v (.string fr))), (.d (.v (.string to))), (.d (.v (.int .i64 p1))), (.d (.v (.string p2))), (.d (.v (.bool p3))), (.d (.v (.string p4))), (.d (.v (.bool p5))), (.d (.v (.string p6)))]))], []⟩ [⟨(Go.Op.call (Go.Call.mk (Go.Callee.value (Go.Operand.func 22)) #[(Go.Operand.tmp 61)] #[28])), 3, [(sc (.func (.func 22) #[] #[])), (sc (.pointer none))], [], (sc (.int .i64 0)), []⟩, ⟨(Go.Op.call (Go.Call.mk (Go.Callee.value (Go.Operand.func 17)) #[(Go.Operand.tmp 64), (Go.Operand.tmp 66), (Go.Operand.tmp 68)] #[28, 9, 9])), 23, [(sc (.func (.func 17) #[] #[])), (sc (.pointer none)), (sc (.string fr)), (sc (.string to))], [], (.t (.c (.d (.sl [])))), []⟩, ⟨(Go.Op.call (Go.Call.mk (Go.Callee.value (Go.Operand.func 18)) #[(Go.Operand.tmp 85), (Go.Operand.tmp 87)] #[28, 23])), 37, [(sc (.func (.func 18) #[] #[])), (sc (.pointer none)), (.t (.c (.d (.sl (List.map encOp ops)))))], [], (sc (.int .i64 6)), []⟩, ⟨(Go.Op.call (Go.Call.mk (Go.Callee.value (Go.Operand.func 13)) #[(Go.Operand.tmp 92)] #[28])), 28, [(sc (.func (.func 13) #[] #[])), (sc (.pointer none))], [], (sc (.pointer none)), []⟩] mixed (by kernel_rfl) ⟨tri_call (k_Len_nil), tri_call (k_Scan_nil fr to), tri_call (k_Set_nil ops), tri_call (k_Clone_nil), trivial⟩ ?_
  refine peel_seq ?_
  refine awp_false rfl ?_
  refine q_keep [1, 2, 13, 14, 15] [1] ?_
  refine awp_skip ?_
  refine peel_block ?_
  refine peel_seq ?_
  refine awp_region_keep tab_ok boxesN [] [1, 2, 13, 14, 15] [1] ⟨98, [(1, (.t (.c (.loc 1 0)))), (2, (sc (.bool false))), (13, (.t (.c (.d (.sl [[(.v (.pointer none))], [(.ptr [(.v (.pointer none))])]]))))), (14, (sc (.int .i64 2))), (15, (sc (.int .i64 1)))], [(1, (.cells 46 [(.d (.v (.int .i64 op))), (.d (.v (.int .i64 pos))), (.d (.sl (List.map encOp conds))), (.d (.sl (List.map encOp ops))), (.d (.v (.string fr))), (.d (.v (.string to))), (.d (.v (.int .i64 p1))), (.d (.v (.string p2))), (.d (.v (.bool p3))), (.d (.v (.string p4))), (.d (.v (.bool p5))), (.d (.v (.string p6)))]))], []⟩ [] mixed (by kernel_rfl) trivial ?_
  refine peel_next ?_
  refine rounds_one ?_
  refine awp_seq ?_
  refine awp_region_keep tab_ok boxesN [] [1, 2, 13, 14, 15, 16] [1] ⟨98, [(1, (.t (.c (.loc 1 0)))), (2, (sc (.bool false))), (13, (.t (.c (.d (.sl [[(.v (.pointer none))], [(.ptr [(.v (.pointer none))])]]))))), (14, (sc (.int .i64 2))), (15, (sc (.int .i64 1))), (16, (sc (.bool true)))], [(1, (.cells 46 [(.d (.v (.int .i64 op))), (.d (.v (.int .i64 pos))), (.d (.sl (List.map encOp conds))), (.d (.sl (List.map encOp ops))), (.d (.v (.string fr))), (.d (.v (.string to))), (.d (.v (.int .i64 p1))), (.d (.v (.string p2))), (.d (.v (.bool p3))), (.d (.v (.string p4))), (.d (.v (.bool p5))), (.d (.v (.string p6)))]))], []⟩ [] mixed (by kernel_rfl) trivial ?_
  refine peel_seq ?_
  refine awp_seq ?_
  refine awp_true rfl ?_
  refine awp_skip ?_
  refine peel_seq ?_
  refine awp_seq ?_
  refine awp_block ?_
  refine awp_seq ?_
  refine awp_region_keep tab_ok boxesN [(0, ⟨[], (.t (.c (.d (.ptr [(.ptr [(.v (.pointer none))])])))), some []⟩)] [1, 2, 4, 13, 14, 15] [1] ⟨98, [(1, (.t (.c (.loc 1 0)))), (2, (sc (.bool false))), (4, (.t (.c (.d (.ptr [(.v (.pointer none))]))))), (13, (.t (.c (.d (.sl [[(.v (.pointer none))], [(.ptr [(.v (.pointer none))])]]))))), (14, (sc (.int .i64 2))), (15, (sc (.int .i64 1)))], [(1, (.cells 46 [(.d (.v (.int .i64 op))), (.d (.v (.int .i64 pos))), (.d (.sl (List.map encOp conds))), (.d (.sl (List.map encOp ops))), (.d (.v (.string fr))), (.d (.v (.string to))), (.d (.v (.int .i64 p1))), (.d (.v (.string p2))), (.d (.v (.bool p3))), (.d (.v (.string p4))), (.d (.v (.bool p5))), (.d (.v (.string p6)))]))], []⟩ [⟨(Go.Op.indexAddr 52 (Go.Operand.tmp 13) (Go.Operand.tmp 15)), 0, [(.t (.c (.d (.sl [[(.v (.pointer none))], [(.ptr [(.v (.pointer none))])]])))), (sc (.int .i64 1))], [], (.t (.c (.d (.ptr [(.ptr [(.v (.pointer none))])])))), []⟩] mixed (by kernel_rfl) ⟨tri_index_sl (e := 28) (sz := 1) (bytes := 8) (i := 1) tab_ok rfl rfl (by simp), trivial⟩ ?_
  refine peel_seq ?_
  refine awp_seq ?_
  refine awp_region_keep tab_ok boxesN [(7, ⟨[], (.tup [(.c (.d (.sl []))), (.c (.d (.v (.int .i64 6))))]), some []⟩)] [1, 2, 4, 5, 6, 13, 14, 15] [1] ⟨98, [(1, (.t (.c (.loc 1 0)))), (2, (sc (.bool false))), (4, (.t (.c (.d (.ptr [(.v (.pointer none))]))))), (5, (.t (.c (.d (.sl []))))), (6, (sc (.int .i64 6))), (13, (.t (.c (.d (.sl [[(.v (.pointer none))], [(.ptr [(.v (.pointer none))])]]))))), (14, (sc (.int .i64 2))), (15, (sc (.int .i64 1)))], [(1, (.cells 46 [(.d (.v (.int .i64 op))), (.d (.v (.int .i64 pos))), (.d (.sl (List.map encOp conds))), (.d (.sl (List.map encOp ops))), (.d (.v (.string fr))), (.d (.v (.string to))), (.d (.v (.int .i64 p1))), (.d (.v (.string p2))), (.d (.v (.bool p3))), (.d (.v (.string p4))), (.d (.v (.bool p5))), (.d (.v (.string p6)))]))], []⟩ [⟨(Go.Op.call (Go.Call.mk (Go.Callee.value (Go.Operand.func 19)) #[(Go.Operand.tmp 20), (Go.Operand.tmp 22), (Go.Operand.tmp 24), (Go.Operand.tmp 26)] #[28, 3, 23, 23])), 38, [(sc (.func (.func 19) #[] #[])), (.t (.c (.d (.ptr [(.v (.pointer none))])))), (sc (.int .i64 pos)), (.t (.c (.d (.sl (List.map encOp conds))))), (.t (.c (.d (.sl (List.map encOp ops)))))], [], (.tup [(.c (.d (.sl []))), (.c (.d (.v (.int .i64 6))))]), []⟩] mixed (by kernel_rfl) ⟨tri_call (k_Plan_zero pos conds ops), trivial⟩ ?_
  refine peel_seq ?_
  refine awp_seq ?_
  refine awp_region_keep tab_ok boxesN [(7, ⟨[], (.tup [(.c (.d (.sl []))), (.c (.d (.v (.int .i64 6))))]), some []⟩)] [1, 2, 4, 5, 6, 7, 8, 13, 14, 15] [1] ⟨98, [(1, (.t (.c (.loc 1 0)))), (2, (sc (.bool false))), (4, (.t (.c (.d (.ptr [(.v (.pointer none))]))))), (5, (.t (.c (.d (.sl []))))), (6, (sc (.int .i64 6))), (7, (.t (.c (.d (.sl []))))), (8, (sc (.int .i64 6))), (13, (.t (.c (.d (.sl [[(.v (.pointer none))], [(.ptr [(.v (.pointer none))])]]))))), (14, (sc (.int .i64 2))), (15, (sc (.int .i64 1)))], [(1, (.cells 46 [(.d (.v (.int .i64 op))), (.d (.v (.int .i64 pos))), (.d (.sl (List.map encOp conds))), (.d (.sl (List.map encOp ops))), (.d (.v (.string fr))), (.d (.v (.string to))), (.d (.v (.int .i64 p1))), (.d (.v (.string p2))), (.d (.v (.bool p3))), (.d (.v (.string p4))), (.d (.v (.bool p5))), (.d (.v (.string p6)))]))], []⟩ [⟨(Go.Op.call (Go.Call.mk (Go.Callee.value (Go.Operand.func 15)) #[(Go.Operand.tmp 31), (Go.Operand.tmp 33), (Go.Operand.tmp 35), (Go.Operand.tmp 37)] #[28, 3, 23, 23])), 38, [(sc (.func (.func 15) #[] #[])), (.t (.c (.d (.ptr [(.v (.pointer none))])))), (sc (.int .i64 pos)), (.t (.c (.d (.sl (List.map encOp conds))))), (.t (.c (.d (.sl (List.map encOp ops)))))], [], (.tup [(.c (.d (.sl []))), (.c (.d (.v (.int .i64 6))))]), []⟩] mixed (by kernel_rfl) ⟨tri_call (k_Do_zero pos conds ops), trivial⟩ ?_
  refine peel_seq ?_
  refine awp_seq ?_
  refine awp_region_keep tab_ok boxesN [(3, ⟨[], (.tup [(.c (.d (.v (.string ⟨#[]⟩)))), (.c (.d (.v (.bool false))))]), some []⟩)] [1, 2, 4, 5, 6, 7, 8, 9, 10, 13, 14, 15] [1] ⟨98, [(1, (.t (.c (.loc 1 0)))), (2, (sc (.bool false))), (4, (.t (.c (.d (.ptr [(.v (.pointer none))]))))), (5, (.t (.c (.d (.sl []))))), (6, (sc (.int .i64 6))), (7, (.t (.c (.d (.sl []))))), (8, (sc (.int .i64 6))), (9, (sc (.string ⟨#[]⟩))), (10, (sc (.bool false))), (13, (.t (.c (.d (.sl [[(.v (.pointer none))], [(.ptr [(.v (.pointer none))])]]))))), (14, (sc (.int .i64 2))), (15, (sc (.int .i64 1)))], [(1, (.cells 46 [(.d (.v (.int .i64 op))), (.d (.v (.int .i64 pos))), (.d (.sl (List.map encOp conds))), (.d (.sl (List.map encOp ops))), (.d (.v (.string fr))), (.d (.v (.string to))), (.d (.v (.int .i64 p1))), (.d (.v (.string p2))), (.d (.v (.bool p3))), (.d (.v (.string p4))), (.d (.v (.bool p5))), (.d (.v (.string p6)))]))], []⟩ [⟨(Go.Op.call (Go.Call.mk (Go.Callee.value (Go.Operand.func 20)) #[(Go.Operand.tmp 42), (Go.Operand.tmp 44)] #[28, 9])), 53, [(sc (.func (.func 20) #[] #[])), (.t (.c (.d (.ptr [(.v (.pointer none))])))), (sc (.string fr))], [], (.tup [(.c (.d (.v (.string ⟨#[]⟩)))), (.c (.d (.v (.bool false))))]), []⟩] mixed (by kernel_rfl) ⟨tri_call (k_Get_zero fr), trivial⟩ ?_
  refine peel_seq ?_
  refine awp_seq ?_
  refine awp_region_keep tab_ok boxesN [(3, ⟨[], (.t (.c (.d (.sl (List.map encEv ([(AEv.mk p1 p2 p3 p4 p5 p6)])))))), some []⟩), (4, ⟨[], (.tup []), some []⟩)] [1, 2, 4, 5, 6, 7, 8, 9, 10, 13, 14, 15] [1] ⟨98, [(1, (.t (.c (.loc 1 0)))), (2, (sc (.bool false))), (4, (.t (.c (.d (.ptr [(.v (.pointer none))]))))), (5, (.t (.c (.d (.sl []))))), (6, (sc (.int .i64 6))), (7, (.t (.c (.d (.sl []))))), (8, (sc (.int .i64 6))), (9, (sc (.string ⟨#[]⟩))), (10, (sc (.bool false))), (13, (.t (.c (.d (.sl [[(.v (.pointer none))], [(.ptr [(.v (.pointer none))])]]))))), (14, (sc (.int .i64 2))), (15, (sc (.int .i64 1)))], [(1, (.cells 46 [(.d (.v (.int .i64 op))), (.d (.v (.int .i64 pos))), (.d (.sl (List.map encOp conds))), (.d (.sl (List.map encOp ops))), (.d (.v (.string fr))), (.d (.v (.string to))), (.d (.v (.int .i64 p1))), (.d (.v (.string p2))), (.d (.v (.bool p3))), (.d (.v (.string p4))), (.d (.v (.bool p5))), (.d (.v (.string p6)))]))], []⟩ [⟨(Go.Op.buildSlice 29 1 #[(0, (Go.Operand.tmp 50))]), 29, [(.t (.agg [(.d (.v (.int .i64 p1))), (.d (.v (.string p2))), (.d (.v (.bool p3))), (.d (.v (.string p4))), (.d (.v (.bool p5))), (.d (.v (.string p6)))]))], [], (.t (.c (.d (.sl (List.map encEv ([(AEv.mk p1 p2 p3 p4 p5 p6)])))))), []⟩, ⟨(Go.Op.call (Go.Call.mk (Go.Callee.value (Go.Operand.func 21)) #[(Go.Operand.tmp 48), (Go.Operand.tmp 51)] #[28, 29])), 0, [(sc (.func (.func 21) #[] #[])), (.t (.c (.d (.ptr [(.v (.pointer none))])))), (.t (.c (.d (.sl (List.map encEv ([(AEv.mk p1 p2 p3 p4 p5 p6)]))))))], [], (.tup []), []⟩] mixed (by kernel_rfl) ⟨tri_slice_data (e := 44) (sz := 6) (bytes := 72) tab_ok (by kernel_rfl) rfl, tri_call (k_Take_zero ([(AEv.mk p1 p2 p3 p4 p5 p6)])), trivial⟩ ?_
  refine peel_seq ?_
  refine awp_seq ?_
  refine awp_region_keep tab_ok boxesN [(9, ⟨[], (sc (.int .i64 0)), some []⟩), (16, ⟨[], (.t (.c (.d (.sl [])))), some []⟩), (35, ⟨[], (sc (.int .i64 6)), some []⟩), (40, ⟨[], (sc (.pointer none)), some []⟩)] [1, 2, 13, 14, 15, 95] [1] ⟨98, [(1, (.t (.c (.loc 1 0)))), (2, (sc (.bool false))), (13, (.t (.c (.d (.sl [[(.v (.pointer none))], [(.ptr [(.v (.pointer none))])]]))))), (14, (sc (.int .i64 2))), (15, (sc (.int .i64 1))), (95, (sc (.bool false)))], [(1, (.cells 46 [(.d (.v (.int .i64 op))), (.d (.v (.int .i64 pos))), (.d (.sl (List.map encOp conds))), (.d (.sl (List.map encOp ops))), (.d (.v (.string fr))), (.d (.v (.string to))), (.d (.v (.int .i64 p1))), (.d (.v (.string p2))), (.d (.v (.bool p3))), (.d (.v (.string p4))), (.d (.v (.bool p5))), (.d (.v (.string p6)))]))], []⟩ [⟨(Go.Op.call (Go.Call.mk (Go.Callee.value (Go.Operand.func 22)) #[(Go.Operand.tmp 61)] #[28])), 3, [(sc (.func (.func 22) #[] #[])), (.t (.c (.d (.ptr [(.v (.pointer none))]))))], [], (sc (.int .i64 0)), []⟩, ⟨(Go.Op.call (Go.Call.mk (Go.Callee.value (Go.Operand.func 17)) #[(Go.Operand.tmp 64), (Go.Operand.tmp 66), (Go.Operand.tmp 68)] #[28, 9, 9])), 23, [(sc (.func (.func 17) #[] #[])), (.t (.c (.d (.ptr [(.v (.pointer none))])))), (sc (.string fr)), (sc (.string to))], [], (.t (.c (.d (.sl [])))), []⟩, ⟨(Go.Op.call (Go.Call.mk (Go.Callee.value (Go.Operand.func 18)) #[(Go.Operand.tmp 85), (Go.Operand.tmp 87)] #[28, 23])), 37, [(sc (.func (.func 18) #[] #[])), (.t (.c (.d (.ptr [(.v (.pointer none))])))), (.t (.c (.d (.sl (List.map encOp ops)))))], [], (sc (.int .i64 6)), []⟩, ⟨(Go.Op.call (Go.Call.mk (Go.Callee.value (Go.Operand.func 13)) #[(Go.Operand.tmp 92)] #[28])), 28, [(sc (.func (.func 13) #[] #[])), (.t (.c (.d (.ptr [(.v (.pointer none))]))))], [], (sc (.pointer none)), []⟩] mixed (by kernel_rfl) ⟨tri_call (k_Len_zero), tri_call (k_Scan_zero fr to), tri_call (k_Set_zero ops), tri_call (k_Clone_zero), trivial⟩ ?_
  refine peel_seq ?_
  refine awp_false rfl ?_
  refine q_keep [1, 2, 13, 14, 15] [1] ?_
  refine awp_skip ?_
  refine peel_block ?_
  refine peel_seq ?_
  refine awp_region_keep tab_ok boxesN [] [1, 2, 13, 14, 15] [1] ⟨98, [(1, (.t (.c (.loc 1 0)))), (2, (sc (.bool false))), (13, (.t (.c (.d (.sl [[(.v (.pointer none))], [(.ptr [(.v (.pointer none))])]]))))), (14, (sc (.int .i64 2))), (15, (sc (.int .i64 2)))], [(1, (.cells 46 [(.d (.v (.int .i64 op))), (.d (.v (.int .i64 pos))), (.d (.sl (List.map encOp conds))), (.d (.sl (List.map encOp ops))), (.d (.v (.string fr))), (.d (.v (.string to))), (.d (.v (.int .i64 p1))), (.d (.v (.string p2))), (.d (.v (.bool p3))), (.d (.v (.string p4))), (.d (.v (.bool p5))), (.d (.v (.string p6)))]))], []⟩ [] mixed (by kernel_rfl) trivial ?_
  refine peel_next ?_
  refine rounds_one ?_
  refine awp_seq ?_
  refine awp_region_keep tab_ok boxesN [] [1, 2, 13, 14, 15, 16] [1] ⟨98, [(1, (.t (.c (.loc 1 0)))), (2, (sc (.bool false))), (13, (.t (.c (.d (.sl [[(.v (.pointer none))], [(.ptr [(.v (.pointer none))])]]))))), (14, (sc (.int .i64 2))), (15, (sc (.int .i64 2))), (16, (sc (.bool false)))], [(1, (.cells 46 [(.d (.v (.int .i64 op))), (.d (.v (.int .i64 pos))), (.d (.sl (List.map encOp conds))), (.d (.sl (List.map encOp ops))), (.d (.v (.string fr))), (.d (.v (.string to))), (.d (.v (.int .i64 p1))), (.d (.v (.string p2))), (.d (.v (.bool p3))), (.d (.v (.string p4))), (.d (.v (.bool p5))), (.d (.v (.string p6)))]))], []⟩ [] mixed (by kernel_rfl) trivial ?_
  refine peel_seq ?_
  refine awp_seq ?_
  refine awp_false rfl ?_
  refine awp_exit ?_
  refine peel_seq_exit ?_
  refine peel_seq_exit ?_
  refine peel_hit ?_
  refine peel_seq ?_
  refine awp_seq ?_
  refine awp_region_keep tab_ok boxesN [(0, ⟨[], (sc (.bool true)), some []⟩)] [2] [] ⟨98, [(2, (sc (.bool true)))], [], []⟩ [⟨(Go.Op.call (Go.Call.mk (Go.Callee.value (Go.Operand.func 11)) #[] #[])), 4, [(sc (.func (.func 11) #[] #[]))], [], (sc (.bool true)), []⟩] mixed (by kernel_rfl) ⟨tri_call (l_awake), trivial⟩ ?_
  refine peel_seq ?_
  refine awp_ret ?_
  exact ends_ret rfl rfl rfl
end Go.Proofs.Ytjbiaoajmdbigaa
