/- Walks of package kv: Plan, Take, Do, Set, Clone. -/
import Derived.Test.YtjbiaoajmdbigaaKv1
set_option maxRecDepth 100000
set_option linter.unusedVariables false
set_option linter.unusedSimpArgs false
namespace Go.Proofs.Ytjbiaoajmdbigaa
open Go Go.E
theorem k_Plan (t : Tr) (p : Int) (conds ops : List AOp) (hs : t.size ≤ 1000000) : Sat Try.prog 19 [(.t (.c (.loc 5000 0))), (sc (.int .i64 p)), (.t (.c (.d (.sl (List.map encOp conds))))), (.t (.c (.d (.sl (List.map encOp ops)))))] [(5000, (.cells 51 [(.d (.ptr [(encT t)]))]))] (.tup [(.c (.d (.sl (List.map encEv ((planM t p conds ops).1))))), (.c (.d (.v (.int .i64 (planM t p conds ops).2))))]) [(5000, (.cells 51 [(.d (.ptr [(encT t)]))]))] := by
  refine sat_of_body tab_ok Try.func19 rfl (by kernel_rfl) (Nat.le_of_ble_eq_true rfl) rfl fun G => ?_
  refine awp_seq ?_
  refine awp_region_keep tab_ok boxes [] [0, 1, 2, 3, 8, 9] [5000] ⟨116, [(0, (.t (.c (.loc 5000 0)))), (1, (sc (.int .i64 p))), (2, (.t (.c (.d (.sl (List.map encOp conds)))))), (3, (.t (.c (.d (.sl (List.map encOp ops)))))), (8, (sc (.slice none 0 0))), (9, (sc (.int .i64 0)))], [(5000, (.cells 51 [(.d (.ptr [(encT t)]))]))], [5000]⟩ [] mixed (by kernel_rfl) trivial ?_
  refine peel_seq ?_
  refine awp_seq ?_
  refine awp_seq ?_
  refine awp_region_keep tab_ok boxes [(1, ⟨[5000], (sc (.bool true)), none⟩)] [0, 1, 2, 3, 8, 9, 23] [5000] ⟨116, [(0, (.t (.c (.loc 5000 0)))), (1, (sc (.int .i64 p))), (2, (.t (.c (.d (.sl (List.map encOp conds)))))), (3, (.t (.c (.d (.sl (List.map encOp ops)))))), (8, (sc (.slice none 0 0))), (9, (sc (.int .i64 0))), (23, (sc (.bool false)))], [(5000, (.cells 51 [(.d (.ptr [(encT t)]))]))], [5000]⟩ [⟨(Go.Op.call (Go.Call.mk (Go.Callee.value (Go.Operand.func 42)) #[(Go.Operand.tmp 21)] #[28])), 4, [(sc (.func (.func 42) #[] #[])), (.t (.c (.loc 5000 0)))], [(5000, (.cells 51 [(.d (.ptr [(encT t)]))]))], (sc (.bool true)), [(5000, (.cells 51 [(.d (.ptr [(encT t)]))]))]⟩] mixed (by kernel_rfl) ⟨tri_call (k_made t), trivial⟩ ?_
  refine peel_seq ?_
  refine awp_false rfl ?_
  refine awp_skip ?_
  refine peel_seq ?_
  refine awp_seq ?_
  refine awp_seq ?_
  refine awp_region_keep tab_ok boxes [(2, ⟨[], (sc (.int .i64 (checkE conds ops))), some []⟩)] [0, 1, 2, 3, 8, 9, 10] [5000] ⟨116, [(0, (.t (.c (.loc 5000 0)))), (1, (sc (.int .i64 p))), (2, (.t (.c (.d (.sl (List.map encOp conds)))))), (3, (.t (.c (.d (.sl (List.map encOp ops)))))), (8, (sc (.slice none 0 0))), (9, (sc (.int .i64 0))), (10, (sc (.int .i64 (checkE conds ops))))], [(5000, (.cells 51 [(.d (.ptr [(encT t)]))]))], [5000]⟩ [⟨(Go.Op.call (Go.Call.mk (Go.Callee.value (Go.Operand.func 48)) #[(Go.Operand.tmp 24), (Go.Operand.tmp 25)] #[23, 23])), 37, [(sc (.func (.func 48) #[] #[])), (.t (.c (.d (.sl (List.map encOp conds))))), (.t (.c (.d (.sl (List.map encOp ops)))))], [], (sc (.int .i64 (checkE conds ops))), []⟩] mixed (by kernel_rfl) ⟨tri_call (k_Check conds ops), trivial⟩ ?_
  refine peel_seq ?_
  refine awp_seq ?_
  refine awp_region_keep tab_ok boxes [] [0, 1, 2, 3, 8, 9, 10, 28] [5000] ⟨116, [(0, (.t (.c (.loc 5000 0)))), (1, (sc (.int .i64 p))), (2, (.t (.c (.d (.sl (List.map encOp conds)))))), (3, (.t (.c (.d (.sl (List.map encOp ops)))))), (8, (sc (.slice none 0 0))), (9, (sc (.int .i64 0))), (10, (sc (.int .i64 (checkE conds ops)))), (28, (sc (.bool ((checkE conds ops) != 0))))], [(5000, (.cells 51 [(.d (.ptr [(encT t)]))]))], [5000]⟩ [] mixed (by kernel_rfl) trivial ?_
  refine peel_seq ?_
  refine awp_cond (b := ((checkE conds ops) != 0)) rfl (fun hc1 => ?_) (fun hc1 => ?_)
  · skip
    have hc1p : (checkE conds ops) ≠ 0 := by simpa using hc1
    refine awp_seq ?_
    refine awp_region_keep tab_ok boxes [] [0, 1, 2, 3, 8, 9] [5000] ⟨116, [(0, (.t (.c (.loc 5000 0)))), (1, (sc (.int .i64 p))), (2, (.t (.c (.d (.sl (List.map encOp conds)))))), (3, (.t (.c (.d (.sl (List.map encOp ops)))))), (8, (sc (.slice none 0 0))), (9, (sc (.int .i64 (checkE conds ops))))], [(5000, (.cells 51 [(.d (.ptr [(encT t)]))]))], [5000]⟩ [] mixed (by kernel_rfl) trivial ?_
    refine peel_seq ?_
    refine awp_mv [.own 8 908 0 0 0, .fz 908] ⟨116, [(8, (.t (.c (.d (.sl []))))), (0, (.t (.c (.loc 5000 0)))), (1, (sc (.int .i64 p))), (2, (.t (.c (.d (.sl (List.map encOp conds)))))), (3, (.t (.c (.d (.sl (List.map encOp ops)))))), (9, (sc (.int .i64 (checkE conds ops))))], [(5000, (.cells 51 [(.d (.ptr [(encT t)]))]))], [5000]⟩ rfl ?_
    refine awp_ret ?_
    refine peel_seq_ret ?_
    exact ends_ret rfl (show some ((.tup [(.c (.d (.sl []))), (.c (.d (.v (.int .i64 (checkE conds ops)))))]) : SV) = some ((.tup [(.c (.d (.sl (List.map encEv ((planM t p conds ops).1))))), (.c (.d (.v (.int .i64 (planM t p conds ops).2))))]) : SV) from by first | rfl | (simp only [planM, hc1, cond_true, cond_false, Bool.not_true, Bool.not_false, List.map_nil])) rfl
  · skip
    have hc1p : (checkE conds ops) = 0 := by simpa using hc1
    refine awp_skip ?_
    refine peel_seq ?_
    refine awp_seq ?_
    refine awp_seq ?_
    refine awp_region_keep tab_ok boxes [(1, ⟨[], (sc (.int .i64 (List.length conds : Int))), none⟩)] [0, 1, 3, 8, 9, 30, 31, 32] [5000] ⟨116, [(0, (.t (.c (.loc 5000 0)))), (1, (sc (.int .i64 p))), (3, (.t (.c (.d (.sl (List.map encOp ops)))))), (8, (sc (.slice none 0 0))), (9, (sc (.int .i64 0))), (30, (.t (.c (.d (.sl (List.map encOp conds)))))), (31, (sc (.int .i64 (List.length conds : Int)))), (32, (sc (.int .i64 0)))], [(5000, (.cells 51 [(.d (.ptr [(encT t)]))]))], [5000]⟩ [⟨(Go.Op.call (Go.Call.mk (Go.Callee.builtin Go.Builtin.len) #[(Go.Operand.tmp 30)] #[23])), 3, [(.t (.c (.d (.sl (List.map encOp conds)))))], [], (sc (.int .i64 (List.length conds : Int))), []⟩] mixed (by kernel_rfl) ⟨tri_len_map tab_ok rfl, trivial⟩ ?_
    refine peel_seq ?_
    refine awp_block ?_
    refine awp_len 30 rfl (fun hlen2 => ?_)
    refine awp_loopP (ι := Nat) (fun x => ⟨116, [(0, (.t (.c (.loc 5000 0)))), (1, (sc (.int .i64 p))), (3, (.t (.c (.d (.sl (List.map encOp ops)))))), (8, (sc (.slice none 0 0))), (9, (sc (.int .i64 0))), (30, (.t (.c (.d (.sl (List.map encOp conds)))))), (31, (sc (.int .i64 (List.length conds : Int)))), (32, (sc (.int .i64 (x : Int))))], [(5000, (.cells 51 [(.d (.ptr [(encT t)]))]))], [5000]⟩) (fun x => x ≤ List.length conds ∧ (True) ∧ condsOK t (List.drop x conds) = condsOK t conds) (fun x => List.length conds - x) (0) rfl ⟨Nat.zero_le _, trivial, rfl⟩ ?_
    rintro k3 ⟨hk4, hx5, hJ6⟩
    try simp only at hk4 hx5 hJ6
    refine awp_seq ?_
    refine awp_region_keep tab_ok boxes [] [0, 1, 3, 8, 9, 30, 31, 32, 33] [5000] ⟨116, [(0, (.t (.c (.loc 5000 0)))), (1, (sc (.int .i64 p))), (3, (.t (.c (.d (.sl (List.map encOp ops)))))), (8, (sc (.slice none 0 0))), (9, (sc (.int .i64 0))), (30, (.t (.c (.d (.sl (List.map encOp conds)))))), (31, (sc (.int .i64 (List.length conds : Int)))), (32, (sc (.int .i64 (k3 : Int)))), (33, (sc (.bool (decide ((k3 : Int) < (List.length conds : Int))))))], [(5000, (.cells 51 [(.d (.ptr [(encT t)]))]))], [5000]⟩ [] mixed (by kernel_rfl) trivial ?_
    refine peel_seq ?_
    refine awp_seq ?_
    refine awp_cond (b := (decide ((k3 : Int) < (List.length conds : Int)))) rfl (fun hc7 => ?_) (fun hc7 => ?_)
    · skip
      have hc7p := of_decide_eq_true hc7
      refine awp_skip ?_
      refine peel_seq ?_
      refine awp_seq ?_
      refine awp_block ?_
      refine awp_seq ?_
      obtain ⟨⟨key11, has12, val13⟩, ha9, hd10⟩ := at_drop (l := conds) (k := k3) (by (try simp only [List.length_map] at *); omega)
      refine awp_region_keep tab_ok boxes [(0, ⟨[], (.t (.c (.d (.ptr [(.v (.string key11)), (.v (.bool has12)), (.v (.string val13))])))), some []⟩)] [0, 1, 3, 8, 9, 12, 30, 31, 32] [12, 5000] ⟨116, [(0, (.t (.c (.loc 5000 0)))), (1, (sc (.int .i64 p))), (3, (.t (.c (.d (.sl (List.map encOp ops)))))), (8, (sc (.slice none 0 0))), (9, (sc (.int .i64 0))), (12, (.t (.c (.loc 12 0)))), (30, (.t (.c (.d (.sl (List.map encOp conds)))))), (31, (sc (.int .i64 (List.length conds : Int)))), (32, (sc (.int .i64 (k3 : Int))))], [(12, (.cells 35 [(.d (.v (.string key11))), (.d (.v (.bool has12))), (.d (.v (.string val13)))])), (5000, (.cells 51 [(.d (.ptr [(encT t)]))]))], [5000]⟩ [⟨(Go.Op.indexAddr 23 (Go.Operand.tmp 30) (Go.Operand.tmp 32)), 0, [(.t (.c (.d (.sl (List.map encOp conds))))), (sc (.int .i64 (k3 : Int)))], [], (.t (.c (.d (.ptr [(.v (.string key11)), (.v (.bool has12)), (.v (.string val13))])))), []⟩] mixed (by kernel_rfl) ⟨tri_index_sl (e := 35) (sz := 3) (bytes := 40) (i := k3) tab_ok rfl (at_map encOp ha9) (all_map fun _ => rfl), trivial⟩ ?_
      refine peel_seq ?_
      refine awp_seq ?_
      refine awp_region_keep tab_ok boxes [(6, ⟨[], (.tup [(.c (.d (.v (.string (Tr.getT t key11).1)))), (.c (.d (.v (.bool (Tr.getT t key11).2))))]), some []⟩)] [0, 1, 3, 8, 9, 12, 13, 14, 30, 31, 32] [12, 5000] ⟨116, [(0, (.t (.c (.loc 5000 0)))), (1, (sc (.int .i64 p))), (3, (.t (.c (.d (.sl (List.map encOp ops)))))), (8, (sc (.slice none 0 0))), (9, (sc (.int .i64 0))), (12, (.t (.c (.loc 12 0)))), (13, (sc (.string (Tr.getT t key11).1))), (14, (sc (.bool (Tr.getT t key11).2))), (30, (.t (.c (.d (.sl (List.map encOp conds)))))), (31, (sc (.int .i64 (List.length conds : Int)))), (32, (sc (.int .i64 (k3 : Int))))], [(12, (.cells 35 [(.d (.v (.string key11))), (.d (.v (.bool has12))), (.d (.v (.string val13)))])), (5000, (.cells 51 [(.d (.ptr [(encT t)]))]))], [5000]⟩ [⟨(Go.Op.call (Go.Call.mk (Go.Callee.value (Go.Operand.func 49)) #[(Go.Operand.tmp 40), (Go.Operand.tmp 42)] #[49, 9])), 53, [(sc (.func (.func 49) #[] #[])), (.t (.c (.d (.ptr [(encT t)])))), (sc (.string key11))], [], (.tup [(.c (.d (.v (.string (Tr.getT t key11).1)))), (.c (.d (.v (.bool (Tr.getT t key11).2))))]), []⟩] mixed (by kernel_rfl) ⟨tri_call (s_TGet t key11), trivial⟩ ?_
      refine peel_seq ?_
      refine awp_seq ?_
      cases hb14 : (!((Tr.getT t key11).2 == has12)) with
      | false =>
        have hb14n : ((Tr.getT t key11).2 == has12) = true := by simpa using hb14
        have hb14np : (Tr.getT t key11).2 = has12 := by simpa using hb14n
        refine awp_region_keep tab_ok boxes [(3, ⟨[], (sc (.bool false)), some []⟩), (8, ⟨[], (sc (.bool (!(eqS (Tr.getT t key11).1 val13)))), some []⟩)] [0, 1, 3, 8, 9, 30, 31, 32, 55] [5000] ⟨116, [(0, (.t (.c (.loc 5000 0)))), (1, (sc (.int .i64 p))), (3, (.t (.c (.d (.sl (List.map encOp ops)))))), (8, (sc (.slice none 0 0))), (9, (sc (.int .i64 0))), (30, (.t (.c (.d (.sl (List.map encOp conds)))))), (31, (sc (.int .i64 (List.length conds : Int)))), (32, (sc (.int .i64 (k3 : Int)))), (55, (sc (.bool (!(eqS (Tr.getT t key11).1 val13)))))], [(5000, (.cells 51 [(.d (.ptr [(encT t)]))]))], [5000]⟩ [⟨(Go.Op.binOp Go.BinOp.neq 4 (Go.Operand.tmp 46) (Go.Operand.tmp 48) 4), 4, [(sc (.bool (Tr.getT t key11).2)), (sc (.bool has12))], [], (sc (.bool false)), []⟩, ⟨(Go.Op.binOp Go.BinOp.neq 9 (Go.Operand.tmp 51) (Go.Operand.tmp 53) 9), 4, [(sc (.string (Tr.getT t key11).1)), (sc (.string val13))], [], (sc (.bool (!(eqS (Tr.getT t key11).1 val13)))), []⟩] mixed (by kernel_rfl) ⟨tri_scalar_eq [(.bool (Tr.getT t key11).2), (.bool has12)] (.bool (!((Tr.getT t key11).2 == has12))) rfl rfl rfl (by kernel_rfl) (congrArg Value.bool hb14), tri_str_neq, trivial⟩ ?_
        refine peel_seq ?_
        refine awp_cond (b := (!(eqS (Tr.getT t key11).1 val13))) rfl (fun hc15 => ?_) (fun hc15 => ?_)
        · skip
          have hc15n : (eqS (Tr.getT t key11).1 val13) = false := by simpa using hc15
          have hc15np := eqS_false hc15n
          refine awp_seq ?_
          refine awp_region_keep tab_ok boxes [] [0, 1, 3, 8, 9, 30, 31, 32] [5000] ⟨116, [(0, (.t (.c (.loc 5000 0)))), (1, (sc (.int .i64 p))), (3, (.t (.c (.d (.sl (List.map encOp ops)))))), (8, (sc (.slice none 0 0))), (9, (sc (.int .i64 60))), (30, (.t (.c (.d (.sl (List.map encOp conds)))))), (31, (sc (.int .i64 (List.length conds : Int)))), (32, (sc (.int .i64 (k3 : Int))))], [(5000, (.cells 51 [(.d (.ptr [(encT t)]))]))], [5000]⟩ [] mixed (by kernel_rfl) trivial ?_
          refine peel_seq ?_
          refine awp_mv [.own 8 908 0 0 0, .fz 908] ⟨116, [(8, (.t (.c (.d (.sl []))))), (0, (.t (.c (.loc 5000 0)))), (1, (sc (.int .i64 p))), (3, (.t (.c (.d (.sl (List.map encOp ops)))))), (9, (sc (.int .i64 60))), (30, (.t (.c (.d (.sl (List.map encOp conds)))))), (31, (sc (.int .i64 (List.length conds : Int)))), (32, (sc (.int .i64 (k3 : Int))))], [(5000, (.cells 51 [(.d (.ptr [(encT t)]))]))], [5000]⟩ rfl ?_
          have hE16 := hJ6
          rw [hd10] at hE16
          simp only [condsOK, condOK, hb14, hb14n, hc1, hc15, hc15n, hc7, cond_true, cond_false, Bool.not_true, Bool.not_false] at hE16
          refine awp_ret ?_
          refine peel_block_ret ?_
          refine peel_seq_ret ?_
          refine peel_seq_ret ?_
          refine peel_block_ret ?_
          refine peel_seq_ret ?_
          exact ends_ret rfl (show some ((.tup [(.c (.d (.sl []))), (.c (.d (.v (.int .i64 60))))]) : SV) = some ((.tup [(.c (.d (.sl (List.map encEv ((planM t p conds ops).1))))), (.c (.d (.v (.int .i64 (planM t p conds ops).2))))]) : SV) from by first | rfl | (simp only [planM, hb14, hb14n, hc1, hc15, hc15n, hc7, ← hE16, cond_true, cond_false, Bool.not_true, Bool.not_false, List.map_nil])) rfl
        · skip
          have hc15n : (eqS (Tr.getT t key11).1 val13) = true := by simpa using hc15
          have hc15np := eqS_true hc15n
          refine q_keep [0, 1, 3, 8, 9, 30, 31, 32] [5000] ?_
          refine awp_skip ?_
          refine peel_block ?_
          refine peel_seq ?_
          refine awp_region_keep tab_ok boxes [(0, ⟨[], (sc (.int .i64 ((k3 : Int) + 1))), some []⟩)] [0, 1, 3, 8, 9, 30, 31, 32] [5000] ⟨116, [(0, (.t (.c (.loc 5000 0)))), (1, (sc (.int .i64 p))), (3, (.t (.c (.d (.sl (List.map encOp ops)))))), (8, (sc (.slice none 0 0))), (9, (sc (.int .i64 0))), (30, (.t (.c (.d (.sl (List.map encOp conds)))))), (31, (sc (.int .i64 (List.length conds : Int)))), (32, (sc (.int .i64 ((k3 : Int) + 1))))], [(5000, (.cells 51 [(.d (.ptr [(encT t)]))]))], [5000]⟩ [⟨(Go.Op.binOp Go.BinOp.add 3 (Go.Operand.tmp 32) (Go.Operand.const (Go.Value.int Go.IntKind.i64 1)) 3), 3, [(sc (.int .i64 (k3 : Int))), (sc (.int .i64 1))], [], (sc (.int .i64 ((k3 : Int) + 1))), []⟩] mixed (by kernel_rfl) ⟨tri_int ((k3 : Int) + 1) (wrap_i64 (by omega)), trivial⟩ ?_
          exact peel_round (k3 + 1) rfl ⟨by (try simp only [List.length_map] at *); omega, trivial, by have hj := hJ6; rw [hd10] at hj; simp only [condsOK, condOK, hb14, hb14n, hc1, hc15, hc15n, hc7, cond_true, cond_false, Bool.not_true, Bool.not_false] at hj ⊢; exact hj⟩ (by (try simp only [List.length_map] at *); omega)
      | true =>
        have hb14n : ((Tr.getT t key11).2 == has12) = false := by simpa using hb14
        have hb14np : (Tr.getT t key11).2 ≠ has12 := by simpa using hb14n
        refine awp_region_keep tab_ok boxes [(3, ⟨[], (sc (.bool true)), some []⟩)] [0, 1, 3, 8, 9, 30, 31, 32, 55] [5000] ⟨116, [(0, (.t (.c (.loc 5000 0)))), (1, (sc (.int .i64 p))), (3, (.t (.c (.d (.sl (List.map encOp ops)))))), (8, (sc (.slice none 0 0))), (9, (sc (.int .i64 0))), (30, (.t (.c (.d (.sl (List.map encOp conds)))))), (31, (sc (.int .i64 (List.length conds : Int)))), (32, (sc (.int .i64 (k3 : Int)))), (55, (sc (.bool true)))], [(5000, (.cells 51 [(.d (.ptr [(encT t)]))]))], [5000]⟩ [⟨(Go.Op.binOp Go.BinOp.neq 4 (Go.Operand.tmp 46) (Go.Operand.tmp 48) 4), 4, [(sc (.bool (Tr.getT t key11).2)), (sc (.bool has12))], [], (sc (.bool true)), []⟩] mixed (by kernel_rfl) ⟨tri_scalar_eq [(.bool (Tr.getT t key11).2), (.bool has12)] (.bool (!((Tr.getT t key11).2 == has12))) rfl rfl rfl (by kernel_rfl) (congrArg Value.bool hb14), trivial⟩ ?_
        refine peel_seq ?_
        refine awp_true rfl ?_
        refine awp_seq ?_
        refine awp_region_keep tab_ok boxes [] [0, 1, 3, 8, 9, 30, 31, 32] [5000] ⟨116, [(0, (.t (.c (.loc 5000 0)))), (1, (sc (.int .i64 p))), (3, (.t (.c (.d (.sl (List.map encOp ops)))))), (8, (sc (.slice none 0 0))), (9, (sc (.int .i64 60))), (30, (.t (.c (.d (.sl (List.map encOp conds)))))), (31, (sc (.int .i64 (List.length conds : Int)))), (32, (sc (.int .i64 (k3 : Int))))], [(5000, (.cells 51 [(.d (.ptr [(encT t)]))]))], [5000]⟩ [] mixed (by kernel_rfl) trivial ?_
        refine peel_seq ?_
        refine awp_mv [.own 8 908 0 0 0, .fz 908] ⟨116, [(8, (.t (.c (.d (.sl []))))), (0, (.t (.c (.loc 5000 0)))), (1, (sc (.int .i64 p))), (3, (.t (.c (.d (.sl (List.map encOp ops)))))), (9, (sc (.int .i64 60))), (30, (.t (.c (.d (.sl (List.map encOp conds)))))), (31, (sc (.int .i64 (List.length conds : Int)))), (32, (sc (.int .i64 (k3 : Int))))], [(5000, (.cells 51 [(.d (.ptr [(encT t)]))]))], [5000]⟩ rfl ?_
        have hE17 := hJ6
        rw [hd10] at hE17
        simp only [condsOK, condOK, hb14, hb14n, hc1, hc7, cond_true, cond_false, Bool.not_true, Bool.not_false] at hE17
        refine awp_ret ?_
        refine peel_block_ret ?_
        refine peel_seq_ret ?_
        refine peel_seq_ret ?_
        refine peel_block_ret ?_
        refine peel_seq_ret ?_
        exact ends_ret rfl (show some ((.tup [(.c (.d (.sl []))), (.c (.d (.v (.int .i64 60))))]) : SV) = some ((.tup [(.c (.d (.sl (List.map encEv ((planM t p conds ops).1))))), (.c (.d (.v (.int .i64 (planM t p conds ops).2))))]) : SV) from by first | rfl | (simp only [planM, hb14, hb14n, hc1, hc7, ← hE17, cond_true, cond_false, Bool.not_true, Bool.not_false, List.map_nil])) rfl
    · skip
      have hc7p := of_decide_eq_false hc7
      have hE18 := hJ6
      rw [at_end (l := conds) (by (try simp only [List.length_map] at *); omega)] at hE18
      simp only [condsOK, condOK, hc1, hc7, cond_true, cond_false, Bool.not_true, Bool.not_false] at hE18
      refine awp_exit ?_
      refine peel_seq_exit ?_
      refine peel_seq_exit ?_
      refine peel_hit ?_
      refine peel_seq ?_
      refine awp_seq ?_
      refine awp_region_keep tab_ok boxes [] [0, 1, 3, 8, 9, 15] [5000] ⟨116, [(0, (.t (.c (.loc 5000 0)))), (1, (sc (.int .i64 p))), (3, (.t (.c (.d (.sl (List.map encOp ops)))))), (8, (sc (.slice none 0 0))), (9, (sc (.int .i64 0))), (15, (sc (.slice none 0 0)))], [(5000, (.cells 51 [(.d (.ptr [(encT t)]))]))], [5000]⟩ [] mixed (by kernel_rfl) trivial ?_
      refine peel_seq ?_
      refine awp_seq ?_
      refine awp_region_keep tab_ok boxes [(4, ⟨[], (sc (.int .i64 (t.size : Int))), some []⟩)] [0, 1, 3, 8, 9, 15, 16] [5000] ⟨116, [(0, (.t (.c (.loc 5000 0)))), (1, (sc (.int .i64 p))), (3, (.t (.c (.d (.sl (List.map encOp ops)))))), (8, (sc (.slice none 0 0))), (9, (sc (.int .i64 0))), (15, (sc (.slice none 0 0))), (16, (sc (.int .i64 (t.size : Int))))], [(5000, (.cells 51 [(.d (.ptr [(encT t)]))]))], [5000]⟩ [⟨(Go.Op.call (Go.Call.mk (Go.Callee.value (Go.Operand.func 44)) #[(Go.Operand.tmp 60)] #[49])), 3, [(sc (.func (.func 44) #[] #[])), (.t (.c (.d (.ptr [(encT t)]))))], [], (sc (.int .i64 (t.size : Int))), []⟩] mixed (by kernel_rfl) ⟨tri_call (s_Len t), trivial⟩ ?_
      refine peel_seq ?_
      refine awp_seq ?_
      refine awp_seq ?_
      refine awp_region_keep tab_ok boxes [(1, ⟨[], (sc (.int .i64 (List.length ops : Int))), none⟩)] [0, 1, 8, 9, 15, 16, 62, 63, 64] [5000] ⟨116, [(0, (.t (.c (.loc 5000 0)))), (1, (sc (.int .i64 p))), (8, (sc (.slice none 0 0))), (9, (sc (.int .i64 0))), (15, (sc (.slice none 0 0))), (16, (sc (.int .i64 (t.size : Int)))), (62, (.t (.c (.d (.sl (List.map encOp ops)))))), (63, (sc (.int .i64 (List.length ops : Int)))), (64, (sc (.int .i64 0)))], [(5000, (.cells 51 [(.d (.ptr [(encT t)]))]))], [5000]⟩ [⟨(Go.Op.call (Go.Call.mk (Go.Callee.builtin Go.Builtin.len) #[(Go.Operand.tmp 62)] #[23])), 3, [(.t (.c (.d (.sl (List.map encOp ops)))))], [], (sc (.int .i64 (List.length ops : Int))), []⟩] mixed (by kernel_rfl) ⟨tri_len_map tab_ok rfl, trivial⟩ ?_
      refine peel_seq ?_
      refine awp_block ?_
      refine awp_mv [.own 15 1015 44 6 72] ⟨116, [(15, (.t (.c (.own 1015)))), (0, (.t (.c (.loc 5000 0)))), (1, (sc (.int .i64 p))), (8, (sc (.slice none 0 0))), (9, (sc (.int .i64 0))), (16, (sc (.int .i64 (t.size : Int)))), (62, (.t (.c (.d (.sl (List.map encOp ops)))))), (63, (sc (.int .i64 (List.length ops : Int)))), (64, (sc (.int .i64 0)))], [(1015, (.arr 44 6 72 [])), (5000, (.cells 51 [(.d (.ptr [(encT t)]))]))], [5000]⟩ rfl ?_
      refine q_keep [0, 1, 8, 9, 15, 16, 62, 63, 64] [1015, 5000] ?_
      refine awp_len 62 rfl (fun hlen19 => ?_)
      have hl6 := checkE_len hc1
      refine awp_loopP (ι := Nat × (List AEv) × (Int)) (fun x => ⟨116, [(0, (.t (.c (.loc 5000 0)))), (1, (sc (.int .i64 p))), (8, (sc (.slice none 0 0))), (9, (sc (.int .i64 0))), (15, (.t (.c (.own 1015)))), (16, (sc (.int .i64 x.2.2))), (62, (.t (.c (.d (.sl (List.map encOp ops)))))), (63, (sc (.int .i64 (List.length ops : Int)))), (64, (sc (.int .i64 (x.1 : Int))))], [(1015, (.arr 44 6 72 (List.map encEv x.2.1))), (5000, (.cells 51 [(.d (.ptr [(encT t)]))]))], [5000]⟩) (fun x => x.1 ≤ List.length ops ∧ (List.length x.2.1 ≤ x.1 ∧ -(x.1 : Int) ≤ x.2.2 ∧ x.2.2 ≤ t.size + x.1) ∧ planF t p (List.drop x.1 ops) x.2.1 x.2.2 = planF t p ops [] t.size) (fun x => List.length ops - x.1) (0, [], (t.size : Int)) rfl ⟨Nat.zero_le _, ⟨by simp, by simp only; omega, by simp only; omega⟩, rfl⟩ ?_
      rintro ⟨k20, a21, b22⟩ ⟨hk23, hx24, hJ25⟩
      try simp only at hk23 hx24 hJ25
      refine awp_seq ?_
      refine awp_region_keep tab_ok boxes [] [0, 1, 8, 9, 15, 16, 62, 63, 64, 65] [1015, 5000] ⟨116, [(0, (.t (.c (.loc 5000 0)))), (1, (sc (.int .i64 p))), (8, (sc (.slice none 0 0))), (9, (sc (.int .i64 0))), (15, (.t (.c (.own 1015)))), (16, (sc (.int .i64 b22))), (62, (.t (.c (.d (.sl (List.map encOp ops)))))), (63, (sc (.int .i64 (List.length ops : Int)))), (64, (sc (.int .i64 (k20 : Int)))), (65, (sc (.bool (decide ((k20 : Int) < (List.length ops : Int))))))], [(1015, (.arr 44 6 72 (List.map encEv a21))), (5000, (.cells 51 [(.d (.ptr [(encT t)]))]))], [5000]⟩ [] mixed (by kernel_rfl) trivial ?_
      refine peel_seq ?_
      refine awp_seq ?_
      refine awp_cond (b := (decide ((k20 : Int) < (List.length ops : Int)))) rfl (fun hc26 => ?_) (fun hc26 => ?_)
      · skip
        have hc26p := of_decide_eq_true hc26
        refine awp_skip ?_
        refine peel_seq ?_
        refine awp_seq ?_
        refine awp_block ?_
        refine awp_seq ?_
        obtain ⟨⟨key30, has31, val32⟩, ha28, hd29⟩ := at_drop (l := ops) (k := k20) (by (try simp only [List.length_map] at *); omega)
        refine awp_region_keep tab_ok boxes [(0, ⟨[], (.t (.c (.d (.ptr [(.v (.string key30)), (.v (.bool has31)), (.v (.string val32))])))), some []⟩)] [0, 1, 8, 9, 15, 16, 18, 62, 63, 64] [18, 1015, 5000] ⟨116, [(0, (.t (.c (.loc 5000 0)))), (1, (sc (.int .i64 p))), (8, (sc (.slice none 0 0))), (9, (sc (.int .i64 0))), (15, (.t (.c (.own 1015)))), (16, (sc (.int .i64 b22))), (18, (.t (.c (.loc 18 0)))), (62, (.t (.c (.d (.sl (List.map encOp ops)))))), (63, (sc (.int .i64 (List.length ops : Int)))), (64, (sc (.int .i64 (k20 : Int))))], [(18, (.cells 35 [(.d (.v (.string key30))), (.d (.v (.bool has31))), (.d (.v (.string val32)))])), (1015, (.arr 44 6 72 (List.map encEv a21))), (5000, (.cells 51 [(.d (.ptr [(encT t)]))]))], [5000]⟩ [⟨(Go.Op.indexAddr 23 (Go.Operand.tmp 62) (Go.Operand.tmp 64)), 0, [(.t (.c (.d (.sl (List.map encOp ops))))), (sc (.int .i64 (k20 : Int)))], [], (.t (.c (.d (.ptr [(.v (.string key30)), (.v (.bool has31)), (.v (.string val32))])))), []⟩] mixed (by kernel_rfl) ⟨tri_index_sl (e := 35) (sz := 3) (bytes := 40) (i := k20) tab_ok rfl (at_map encOp ha28) (all_map fun _ => rfl), trivial⟩ ?_
        refine peel_seq ?_
        refine awp_seq ?_
        refine awp_region_keep tab_ok boxes [(6, ⟨[], (.tup [(.c (.d (.v (.string (Tr.getT t key30).1)))), (.c (.d (.v (.bool (Tr.getT t key30).2))))]), some []⟩)] [0, 1, 8, 9, 15, 16, 18, 19, 20, 62, 63, 64] [18, 1015, 5000] ⟨116, [(0, (.t (.c (.loc 5000 0)))), (1, (sc (.int .i64 p))), (8, (sc (.slice none 0 0))), (9, (sc (.int .i64 0))), (15, (.t (.c (.own 1015)))), (16, (sc (.int .i64 b22))), (18, (.t (.c (.loc 18 0)))), (19, (sc (.string (Tr.getT t key30).1))), (20, (sc (.bool (Tr.getT t key30).2))), (62, (.t (.c (.d (.sl (List.map encOp ops)))))), (63, (sc (.int .i64 (List.length ops : Int)))), (64, (sc (.int .i64 (k20 : Int))))], [(18, (.cells 35 [(.d (.v (.string key30))), (.d (.v (.bool has31))), (.d (.v (.string val32)))])), (1015, (.arr 44 6 72 (List.map encEv a21))), (5000, (.cells 51 [(.d (.ptr [(encT t)]))]))], [5000]⟩ [⟨(Go.Op.call (Go.Call.mk (Go.Callee.value (Go.Operand.func 49)) #[(Go.Operand.tmp 72), (Go.Operand.tmp 74)] #[49, 9])), 53, [(sc (.func (.func 49) #[] #[])), (.t (.c (.d (.ptr [(encT t)])))), (sc (.string key30))], [], (.tup [(.c (.d (.v (.string (Tr.getT t key30).1)))), (.c (.d (.v (.bool (Tr.getT t key30).2))))]), []⟩] mixed (by kernel_rfl) ⟨tri_call (s_TGet t key30), trivial⟩ ?_
        refine peel_seq ?_
        refine awp_seq ?_
        refine awp_seq ?_
        cases hb33 : ((Tr.getT t key30).2 == has31) with
        | false =>
          have hb33p : (Tr.getT t key30).2 ≠ has31 := by simpa using hb33
          refine awp_region_keep tab_ok boxes [(3, ⟨[], (sc (.bool false)), some []⟩)] [0, 1, 8, 9, 15, 16, 18, 19, 20, 62, 63, 64, 87] [18, 1015, 5000] ⟨116, [(0, (.t (.c (.loc 5000 0)))), (1, (sc (.int .i64 p))), (8, (sc (.slice none 0 0))), (9, (sc (.int .i64 0))), (15, (.t (.c (.own 1015)))), (16, (sc (.int .i64 b22))), (18, (.t (.c (.loc 18 0)))), (19, (sc (.string (Tr.getT t key30).1))), (20, (sc (.bool (Tr.getT t key30).2))), (62, (.t (.c (.d (.sl (List.map encOp ops)))))), (63, (sc (.int .i64 (List.length ops : Int)))), (64, (sc (.int .i64 (k20 : Int)))), (87, (sc (.bool false)))], [(18, (.cells 35 [(.d (.v (.string key30))), (.d (.v (.bool has31))), (.d (.v (.string val32)))])), (1015, (.arr 44 6 72 (List.map encEv a21))), (5000, (.cells 51 [(.d (.ptr [(encT t)]))]))], [5000]⟩ [⟨(Go.Op.binOp Go.BinOp.eql 4 (Go.Operand.tmp 78) (Go.Operand.tmp 80) 4), 4, [(sc (.bool (Tr.getT t key30).2)), (sc (.bool has31))], [], (sc (.bool false)), []⟩] mixed (by kernel_rfl) ⟨tri_scalar_eq [(.bool (Tr.getT t key30).2), (.bool has31)] (.bool ((Tr.getT t key30).2 == has31)) rfl rfl rfl (by kernel_rfl) (congrArg Value.bool hb33), trivial⟩ ?_
          refine peel_seq ?_
          refine awp_false rfl ?_
          refine awp_skip ?_
          refine peel_seq ?_
          refine awp_seq ?_
          refine awp_then [.sw 100 1015] ?_
          refine awp_region_keep tab_ok boxes [(11, ⟨[], (.t (.c (.d (.sl (List.map encEv ([(AEv.mk p key30 ((Tr.getT t key30).2) ((Tr.getT t key30).1) has31 val32)])))))), some []⟩), (12, ⟨[1015], (.t (.c (.own 100))), some [(100, (.arr 44 6 72 (List.map encEv (a21 ++ [(AEv.mk p key30 ((Tr.getT t key30).2) ((Tr.getT t key30).1) has31 val32)]))))]⟩)] [0, 1, 8, 9, 15, 16, 18, 20, 62, 63, 64] [18, 100, 5000] ⟨116, [(0, (.t (.c (.loc 5000 0)))), (1, (sc (.int .i64 p))), (8, (sc (.slice none 0 0))), (9, (sc (.int .i64 0))), (15, (.t (.c (.own 100)))), (16, (sc (.int .i64 b22))), (18, (.t (.c (.loc 18 0)))), (20, (sc (.bool (Tr.getT t key30).2))), (62, (.t (.c (.d (.sl (List.map encOp ops)))))), (63, (sc (.int .i64 (List.length ops : Int)))), (64, (sc (.int .i64 (k20 : Int))))], [(18, (.cells 35 [(.d (.v (.string key30))), (.d (.v (.bool has31))), (.d (.v (.string val32)))])), (100, (.arr 44 6 72 (List.map encEv (a21 ++ [(AEv.mk p key30 ((Tr.getT t key30).2) ((Tr.getT t key30).1) has31 val32)])))), (5000, (.cells 51 [(.d (.ptr [(encT t)]))]))], [5000]⟩ [⟨(Go.Op.buildSlice 29 1 #[(0, (Go.Operand.tmp 98))]), 29, [(.t (.agg [(.d (.v (.int .i64 p))), (.d (.v (.string key30))), (.d (.v (.bool (Tr.getT t key30).2))), (.d (.v (.string (Tr.getT t key30).1))), (.d (.v (.bool has31))), (.d (.v (.string val32)))]))], [], (.t (.c (.d (.sl (List.map encEv ([(AEv.mk p key30 ((Tr.getT t key30).2) ((Tr.getT t key30).1) has31 val32)])))))), []⟩, ⟨(Go.Op.call (Go.Call.mk (Go.Callee.builtin Go.Builtin.append) #[(Go.Operand.tmp 88), (Go.Operand.tmp 99)] #[29, 29])), 29, [(.t (.c (.own 1015))), (.t (.c (.d (.sl (List.map encEv ([(AEv.mk p key30 ((Tr.getT t key30).2) ((Tr.getT t key30).1) has31 val32)]))))))], [(1015, (.arr 44 6 72 (List.map encEv a21)))], (.t (.c (.own 100))), [(100, (.arr 44 6 72 (List.map encEv (a21 ++ [(AEv.mk p key30 ((Tr.getT t key30).2) ((Tr.getT t key30).1) has31 val32)]))))]⟩] mixed (by kernel_rfl) ⟨tri_slice_data (e := 44) (sz := 6) (bytes := 72) tab_ok (by kernel_rfl) rfl, tri_to (tri_append_sl (ex := 44) (bytes := 72) tab_ok rfl rfl rfl (all_map fun _ => rfl) (by (try simp only [List.length_map, List.length_cons, List.length_nil]); omega)) (by simp [encEv]), trivial⟩ ?_
          refine then_mv ⟨116, [(0, (.t (.c (.loc 5000 0)))), (1, (sc (.int .i64 p))), (8, (sc (.slice none 0 0))), (9, (sc (.int .i64 0))), (15, (.t (.c (.own 1015)))), (16, (sc (.int .i64 b22))), (18, (.t (.c (.loc 18 0)))), (20, (sc (.bool (Tr.getT t key30).2))), (62, (.t (.c (.d (.sl (List.map encOp ops)))))), (63, (sc (.int .i64 (List.length ops : Int)))), (64, (sc (.int .i64 (k20 : Int))))], [(18, (.cells 35 [(.d (.v (.string key30))), (.d (.v (.bool has31))), (.d (.v (.string val32)))])), (1015, (.arr 44 6 72 (List.map encEv (a21 ++ [(AEv.mk p key30 ((Tr.getT t key30).2) ((Tr.getT t key30).1) has31 val32)])))), (5000, (.cells 51 [(.d (.ptr [(encT t)]))]))], [5000]⟩ rfl ?_
          refine peel_seq ?_
          refine awp_block ?_
          refine awp_seq ?_
          refine awp_region_keep tab_ok boxes [] [0, 1, 8, 9, 15, 16, 18, 62, 63, 64, 101] [18, 1015, 5000] ⟨116, [(0, (.t (.c (.loc 5000 0)))), (1, (sc (.int .i64 p))), (8, (sc (.slice none 0 0))), (9, (sc (.int .i64 0))), (15, (.t (.c (.own 1015)))), (16, (sc (.int .i64 b22))), (18, (.t (.c (.loc 18 0)))), (62, (.t (.c (.d (.sl (List.map encOp ops)))))), (63, (sc (.int .i64 (List.length ops : Int)))), (64, (sc (.int .i64 (k20 : Int)))), (101, (sc (.bool (!(Tr.getT t key30).2))))], [(18, (.cells 35 [(.d (.v (.string key30))), (.d (.v (.bool has31))), (.d (.v (.string val32)))])), (1015, (.arr 44 6 72 (List.map encEv (a21 ++ [(AEv.mk p key30 ((Tr.getT t key30).2) ((Tr.getT t key30).1) has31 val32)])))), (5000, (.cells 51 [(.d (.ptr [(encT t)]))]))], [5000]⟩ [] mixed (by kernel_rfl) trivial ?_
          refine peel_seq ?_
          refine awp_cond (b := (!(Tr.getT t key30).2)) rfl (fun hc34 => ?_) (fun hc34 => ?_)
          · skip
            refine awp_region_keep tab_ok boxes [(1, ⟨[], (sc (.int .i64 (b22 + 1))), some []⟩)] [0, 1, 8, 9, 15, 16, 62, 63, 64] [1015, 5000] ⟨116, [(0, (.t (.c (.loc 5000 0)))), (1, (sc (.int .i64 p))), (8, (sc (.slice none 0 0))), (9, (sc (.int .i64 0))), (15, (.t (.c (.own 1015)))), (16, (sc (.int .i64 (b22 + 1)))), (62, (.t (.c (.d (.sl (List.map encOp ops)))))), (63, (sc (.int .i64 (List.length ops : Int)))), (64, (sc (.int .i64 (k20 : Int))))], [(1015, (.arr 44 6 72 (List.map encEv (a21 ++ [(AEv.mk p key30 ((Tr.getT t key30).2) ((Tr.getT t key30).1) has31 val32)])))), (5000, (.cells 51 [(.d (.ptr [(encT t)]))]))], [5000]⟩ [⟨(Go.Op.binOp Go.BinOp.add 3 (Go.Operand.tmp 104) (Go.Operand.const (Go.Value.int Go.IntKind.i64 1)) 3), 3, [(sc (.int .i64 b22)), (sc (.int .i64 1))], [], (sc (.int .i64 (b22 + 1))), []⟩] mixed (by kernel_rfl) ⟨tri_int (b22 + 1) (wrap_i64 (by omega)), trivial⟩ ?_
            refine peel_block ?_
            refine peel_block ?_
            refine peel_seq ?_
            refine awp_region_keep tab_ok boxes [(0, ⟨[], (sc (.int .i64 ((k20 : Int) + 1))), some []⟩)] [0, 1, 8, 9, 15, 16, 62, 63, 64] [1015, 5000] ⟨116, [(0, (.t (.c (.loc 5000 0)))), (1, (sc (.int .i64 p))), (8, (sc (.slice none 0 0))), (9, (sc (.int .i64 0))), (15, (.t (.c (.own 1015)))), (16, (sc (.int .i64 (b22 + 1)))), (62, (.t (.c (.d (.sl (List.map encOp ops)))))), (63, (sc (.int .i64 (List.length ops : Int)))), (64, (sc (.int .i64 ((k20 : Int) + 1))))], [(1015, (.arr 44 6 72 (List.map encEv (a21 ++ [(AEv.mk p key30 ((Tr.getT t key30).2) ((Tr.getT t key30).1) has31 val32)])))), (5000, (.cells 51 [(.d (.ptr [(encT t)]))]))], [5000]⟩ [⟨(Go.Op.binOp Go.BinOp.add 3 (Go.Operand.tmp 64) (Go.Operand.const (Go.Value.int Go.IntKind.i64 1)) 3), 3, [(sc (.int .i64 (k20 : Int))), (sc (.int .i64 1))], [], (sc (.int .i64 ((k20 : Int) + 1))), []⟩] mixed (by kernel_rfl) ⟨tri_int ((k20 : Int) + 1) (wrap_i64 (by omega)), trivial⟩ ?_
            exact peel_round (k20 + 1, (a21 ++ [(AEv.mk p key30 ((Tr.getT t key30).2) ((Tr.getT t key30).1) has31 val32)]), (b22 + 1)) rfl ⟨by (try simp only [List.length_map] at *); omega, by (try simp only [List.length_append, List.length_cons, List.length_nil]); omega, by have hj := hJ25; rw [hd29] at hj; simp only [planF, sameOp, evOf, hb33, hc1, hc26, hc34, hc7, cond_true, cond_false, Bool.not_true, Bool.not_false] at hj ⊢; exact hj⟩ (by (try simp only [List.length_map] at *); omega)
          · skip
            refine awp_seq ?_
            refine awp_region_keep tab_ok boxes [] [0, 1, 8, 9, 15, 16, 62, 63, 64, 106] [1015, 5000] ⟨116, [(0, (.t (.c (.loc 5000 0)))), (1, (sc (.int .i64 p))), (8, (sc (.slice none 0 0))), (9, (sc (.int .i64 0))), (15, (.t (.c (.own 1015)))), (16, (sc (.int .i64 b22))), (62, (.t (.c (.d (.sl (List.map encOp ops)))))), (63, (sc (.int .i64 (List.length ops : Int)))), (64, (sc (.int .i64 (k20 : Int)))), (106, (sc (.bool (!has31))))], [(1015, (.arr 44 6 72 (List.map encEv (a21 ++ [(AEv.mk p key30 ((Tr.getT t key30).2) ((Tr.getT t key30).1) has31 val32)])))), (5000, (.cells 51 [(.d (.ptr [(encT t)]))]))], [5000]⟩ [] mixed (by kernel_rfl) trivial ?_
            refine peel_seq ?_
            cases has31 with
            | false =>
              refine awp_true rfl ?_
              refine awp_region_keep tab_ok boxes [(1, ⟨[], (sc (.int .i64 (b22 - 1))), some []⟩)] [0, 1, 8, 9, 15, 16, 62, 63, 64] [1015, 5000] ⟨116, [(0, (.t (.c (.loc 5000 0)))), (1, (sc (.int .i64 p))), (8, (sc (.slice none 0 0))), (9, (sc (.int .i64 0))), (15, (.t (.c (.own 1015)))), (16, (sc (.int .i64 (b22 - 1)))), (62, (.t (.c (.d (.sl (List.map encOp ops)))))), (63, (sc (.int .i64 (List.length ops : Int)))), (64, (sc (.int .i64 (k20 : Int))))], [(1015, (.arr 44 6 72 (List.map encEv (a21 ++ [(AEv.mk p key30 ((Tr.getT t key30).2) ((Tr.getT t key30).1) false val32)])))), (5000, (.cells 51 [(.d (.ptr [(encT t)]))]))], [5000]⟩ [⟨(Go.Op.binOp Go.BinOp.sub 3 (Go.Operand.tmp 110) (Go.Operand.const (Go.Value.int Go.IntKind.i64 1)) 3), 3, [(sc (.int .i64 b22)), (sc (.int .i64 1))], [], (sc (.int .i64 (b22 - 1))), []⟩] mixed (by kernel_rfl) ⟨tri_int (b22 - 1) (wrap_i64 (by omega)), trivial⟩ ?_
              refine peel_block ?_
              refine peel_block ?_
              refine peel_seq ?_
              refine awp_region_keep tab_ok boxes [(0, ⟨[], (sc (.int .i64 ((k20 : Int) + 1))), some []⟩)] [0, 1, 8, 9, 15, 16, 62, 63, 64] [1015, 5000] ⟨116, [(0, (.t (.c (.loc 5000 0)))), (1, (sc (.int .i64 p))), (8, (sc (.slice none 0 0))), (9, (sc (.int .i64 0))), (15, (.t (.c (.own 1015)))), (16, (sc (.int .i64 (b22 - 1)))), (62, (.t (.c (.d (.sl (List.map encOp ops)))))), (63, (sc (.int .i64 (List.length ops : Int)))), (64, (sc (.int .i64 ((k20 : Int) + 1))))], [(1015, (.arr 44 6 72 (List.map encEv (a21 ++ [(AEv.mk p key30 ((Tr.getT t key30).2) ((Tr.getT t key30).1) false val32)])))), (5000, (.cells 51 [(.d (.ptr [(encT t)]))]))], [5000]⟩ [⟨(Go.Op.binOp Go.BinOp.add 3 (Go.Operand.tmp 64) (Go.Operand.const (Go.Value.int Go.IntKind.i64 1)) 3), 3, [(sc (.int .i64 (k20 : Int))), (sc (.int .i64 1))], [], (sc (.int .i64 ((k20 : Int) + 1))), []⟩] mixed (by kernel_rfl) ⟨tri_int ((k20 : Int) + 1) (wrap_i64 (by omega)), trivial⟩ ?_
              exact peel_round (k20 + 1, (a21 ++ [(AEv.mk p key30 ((Tr.getT t key30).2) ((Tr.getT t key30).1) false val32)]), (b22 - 1)) rfl ⟨by (try simp only [List.length_map] at *); omega, by (try simp only [List.length_append, List.length_cons, List.length_nil]); omega, by have hj := hJ25; rw [hd29] at hj; simp only [planF, sameOp, evOf, hb33, hc1, hc26, hc34, hc7, cond_true, cond_false, Bool.not_true, Bool.not_false] at hj ⊢; exact hj⟩ (by (try simp only [List.length_map] at *); omega)
            | true =>
              refine awp_false rfl ?_
              refine q_keep [0, 1, 8, 9, 15, 16, 62, 63, 64] [1015, 5000] ?_
              refine awp_skip ?_
              refine peel_block ?_
              refine peel_block ?_
              refine peel_seq ?_
              refine awp_region_keep tab_ok boxes [(0, ⟨[], (sc (.int .i64 ((k20 : Int) + 1))), some []⟩)] [0, 1, 8, 9, 15, 16, 62, 63, 64] [1015, 5000] ⟨116, [(0, (.t (.c (.loc 5000 0)))), (1, (sc (.int .i64 p))), (8, (sc (.slice none 0 0))), (9, (sc (.int .i64 0))), (15, (.t (.c (.own 1015)))), (16, (sc (.int .i64 b22))), (62, (.t (.c (.d (.sl (List.map encOp ops)))))), (63, (sc (.int .i64 (List.length ops : Int)))), (64, (sc (.int .i64 ((k20 : Int) + 1))))], [(1015, (.arr 44 6 72 (List.map encEv (a21 ++ [(AEv.mk p key30 ((Tr.getT t key30).2) ((Tr.getT t key30).1) true val32)])))), (5000, (.cells 51 [(.d (.ptr [(encT t)]))]))], [5000]⟩ [⟨(Go.Op.binOp Go.BinOp.add 3 (Go.Operand.tmp 64) (Go.Operand.const (Go.Value.int Go.IntKind.i64 1)) 3), 3, [(sc (.int .i64 (k20 : Int))), (sc (.int .i64 1))], [], (sc (.int .i64 ((k20 : Int) + 1))), []⟩] mixed (by kernel_rfl) ⟨tri_int ((k20 : Int) + 1) (wrap_i64 (by omega)), trivial⟩ ?_
              exact peel_round (k20 + 1, (a21 ++ [(AEv.mk p key30 ((Tr.getT t key30).2) ((Tr.getT t key30).1) true val32)]), b22) rfl ⟨by (try simp only [List.length_map] at *); omega, by (try simp only [List.length_append, List.length_cons, List.length_nil]); omega, by have hj := hJ25; rw [hd29] at hj; simp only [planF, sameOp, evOf, hb33, hc1, hc26, hc34, hc7, cond_true, cond_false, Bool.not_true, Bool.not_false] at hj ⊢; exact hj⟩ (by (try simp only [List.length_map] at *); omega)
        | true =>
          have hb33p : (Tr.getT t key30).2 = has31 := by simpa using hb33
          refine awp_region_keep tab_ok boxes [(3, ⟨[], (sc (.bool true)), some []⟩), (8, ⟨[], (sc (.bool (eqS (Tr.getT t key30).1 val32))), some []⟩)] [0, 1, 8, 9, 15, 16, 18, 19, 20, 62, 63, 64, 87] [18, 1015, 5000] ⟨116, [(0, (.t (.c (.loc 5000 0)))), (1, (sc (.int .i64 p))), (8, (sc (.slice none 0 0))), (9, (sc (.int .i64 0))), (15, (.t (.c (.own 1015)))), (16, (sc (.int .i64 b22))), (18, (.t (.c (.loc 18 0)))), (19, (sc (.string (Tr.getT t key30).1))), (20, (sc (.bool (Tr.getT t key30).2))), (62, (.t (.c (.d (.sl (List.map encOp ops)))))), (63, (sc (.int .i64 (List.length ops : Int)))), (64, (sc (.int .i64 (k20 : Int)))), (87, (sc (.bool (eqS (Tr.getT t key30).1 val32))))], [(18, (.cells 35 [(.d (.v (.string key30))), (.d (.v (.bool has31))), (.d (.v (.string val32)))])), (1015, (.arr 44 6 72 (List.map encEv a21))), (5000, (.cells 51 [(.d (.ptr [(encT t)]))]))], [5000]⟩ [⟨(Go.Op.binOp Go.BinOp.eql 4 (Go.Operand.tmp 78) (Go.Operand.tmp 80) 4), 4, [(sc (.bool (Tr.getT t key30).2)), (sc (.bool has31))], [], (sc (.bool true)), []⟩, ⟨(Go.Op.binOp Go.BinOp.eql 9 (Go.Operand.tmp 83) (Go.Operand.tmp 85) 9), 4, [(sc (.string (Tr.getT t key30).1)), (sc (.string val32))], [], (sc (.bool (eqS (Tr.getT t key30).1 val32))), []⟩] mixed (by kernel_rfl) ⟨tri_scalar_eq [(.bool (Tr.getT t key30).2), (.bool has31)] (.bool ((Tr.getT t key30).2 == has31)) rfl rfl rfl (by kernel_rfl) (congrArg Value.bool hb33), tri_str_eql, trivial⟩ ?_
          refine peel_seq ?_
          refine awp_cond (b := (eqS (Tr.getT t key30).1 val32)) rfl (fun hc35 => ?_) (fun hc35 => ?_)
          · skip
            have hc35p := eqS_true hc35
            refine awp_exit ?_
            refine peel_seq_exit ?_
            refine peel_hit ?_
            refine peel_seq ?_
            refine awp_region_keep tab_ok boxes [(0, ⟨[], (sc (.int .i64 ((k20 : Int) + 1))), some []⟩)] [0, 1, 8, 9, 15, 16, 62, 63, 64] [1015, 5000] ⟨116, [(0, (.t (.c (.loc 5000 0)))), (1, (sc (.int .i64 p))), (8, (sc (.slice none 0 0))), (9, (sc (.int .i64 0))), (15, (.t (.c (.own 1015)))), (16, (sc (.int .i64 b22))), (62, (.t (.c (.d (.sl (List.map encOp ops)))))), (63, (sc (.int .i64 (List.length ops : Int)))), (64, (sc (.int .i64 ((k20 : Int) + 1))))], [(1015, (.arr 44 6 72 (List.map encEv a21))), (5000, (.cells 51 [(.d (.ptr [(encT t)]))]))], [5000]⟩ [⟨(Go.Op.binOp Go.BinOp.add 3 (Go.Operand.tmp 64) (Go.Operand.const (Go.Value.int Go.IntKind.i64 1)) 3), 3, [(sc (.int .i64 (k20 : Int))), (sc (.int .i64 1))], [], (sc (.int .i64 ((k20 : Int) + 1))), []⟩] mixed (by kernel_rfl) ⟨tri_int ((k20 : Int) + 1) (wrap_i64 (by omega)), trivial⟩ ?_
            exact peel_round (k20 + 1, a21, b22) rfl ⟨by (try simp only [List.length_map] at *); omega, by (try simp only [List.length_append, List.length_cons, List.length_nil]); omega, by have hj := hJ25; rw [hd29] at hj; simp only [planF, sameOp, evOf, hb33, hc1, hc26, hc35, hc7, cond_true, cond_false, Bool.not_true, Bool.not_false] at hj ⊢; exact hj⟩ (by (try simp only [List.length_map] at *); omega)
          · skip
            have hc35p := eqS_false hc35
            refine awp_skip ?_
            refine peel_seq ?_
            refine awp_seq ?_
            refine awp_then [.sw 100 1015] ?_
            refine awp_region_keep tab_ok boxes [(11, ⟨[], (.t (.c (.d (.sl (List.map encEv ([(AEv.mk p key30 ((Tr.getT t key30).2) ((Tr.getT t key30).1) has31 val32)])))))), some []⟩), (12, ⟨[1015], (.t (.c (.own 100))), some [(100, (.arr 44 6 72 (List.map encEv (a21 ++ [(AEv.mk p key30 ((Tr.getT t key30).2) ((Tr.getT t key30).1) has31 val32)]))))]⟩)] [0, 1, 8, 9, 15, 16, 18, 20, 62, 63, 64] [18, 100, 5000] ⟨116, [(0, (.t (.c (.loc 5000 0)))), (1, (sc (.int .i64 p))), (8, (sc (.slice none 0 0))), (9, (sc (.int .i64 0))), (15, (.t (.c (.own 100)))), (16, (sc (.int .i64 b22))), (18, (.t (.c (.loc 18 0)))), (20, (sc (.bool (Tr.getT t key30).2))), (62, (.t (.c (.d (.sl (List.map encOp ops)))))), (63, (sc (.int .i64 (List.length ops : Int)))), (64, (sc (.int .i64 (k20 : Int))))], [(18, (.cells 35 [(.d (.v (.string key30))), (.d (.v (.bool has31))), (.d (.v (.string val32)))])), (100, (.arr 44 6 72 (List.map encEv (a21 ++ [(AEv.mk p key30 ((Tr.getT t key30).2) ((Tr.getT t key30).1) has31 val32)])))), (5000, (.cells 51 [(.d (.ptr [(encT t)]))]))], [5000]⟩ [⟨(Go.Op.buildSlice 29 1 #[(0, (Go.Operand.tmp 98))]), 29, [(.t (.agg [(.d (.v (.int .i64 p))), (.d (.v (.string key30))), (.d (.v (.bool (Tr.getT t key30).2))), (.d (.v (.string (Tr.getT t key30).1))), (.d (.v (.bool has31))), (.d (.v (.string val32)))]))], [], (.t (.c (.d (.sl (List.map encEv ([(AEv.mk p key30 ((Tr.getT t key30).2) ((Tr.getT t key30).1) has31 val32)])))))), []⟩, ⟨(Go.Op.call (Go.Call.mk (Go.Callee.builtin Go.Builtin.append) #[(Go.Operand.tmp 88), (Go.Operand.tmp 99)] #[29, 29])), 29, [(.t (.c (.own 1015))), (.t (.c (.d (.sl (List.map encEv ([(AEv.mk p key30 ((Tr.getT t key30).2) ((Tr.getT t key30).1) has31 val32)]))))))], [(1015, (.arr 44 6 72 (List.map encEv a21)))], (.t (.c (.own 100))), [(100, (.arr 44 6 72 (List.map encEv (a21 ++ [(AEv.mk p key30 ((Tr.getT t key30).2) ((Tr.getT t key30).1) has31 val32)]))))]⟩] mixed (by kernel_rfl) ⟨tri_slice_data (e := 44) (sz := 6) (bytes := 72) tab_ok (by kernel_rfl) rfl, tri_to (tri_append_sl (ex := 44) (bytes := 72) tab_ok rfl rfl rfl (all_map fun _ => rfl) (by (try simp only [List.length_map, List.length_cons, List.length_nil]); omega)) (by simp [encEv]), trivial⟩ ?_
            refine then_mv ⟨116, [(0, (.t (.c (.loc 5000 0)))), (1, (sc (.int .i64 p))), (8, (sc (.slice none 0 0))), (9, (sc (.int .i64 0))), (15, (.t (.c (.own 1015)))), (16, (sc (.int .i64 b22))), (18, (.t (.c (.loc 18 0)))), (20, (sc (.bool (Tr.getT t key30).2))), (62, (.t (.c (.d (.sl (List.map encOp ops)))))), (63, (sc (.int .i64 (List.length ops : Int)))), (64, (sc (.int .i64 (k20 : Int))))], [(18, (.cells 35 [(.d (.v (.string key30))), (.d (.v (.bool has31))), (.d (.v (.string val32)))])), (1015, (.arr 44 6 72 (List.map encEv (a21 ++ [(AEv.mk p key30 ((Tr.getT t key30).2) ((Tr.getT t key30).1) has31 val32)])))), (5000, (.cells 51 [(.d (.ptr [(encT t)]))]))], [5000]⟩ rfl ?_
            refine peel_seq ?_
            refine awp_block ?_
            refine awp_seq ?_
            refine awp_region_keep tab_ok boxes [] [0, 1, 8, 9, 15, 16, 18, 62, 63, 64, 101] [18, 1015, 5000] ⟨116, [(0, (.t (.c (.loc 5000 0)))), (1, (sc (.int .i64 p))), (8, (sc (.slice none 0 0))), (9, (sc (.int .i64 0))), (15, (.t (.c (.own 1015)))), (16, (sc (.int .i64 b22))), (18, (.t (.c (.loc 18 0)))), (62, (.t (.c (.d (.sl (List.map encOp ops)))))), (63, (sc (.int .i64 (List.length ops : Int)))), (64, (sc (.int .i64 (k20 : Int)))), (101, (sc (.bool (!(Tr.getT t key30).2))))], [(18, (.cells 35 [(.d (.v (.string key30))), (.d (.v (.bool has31))), (.d (.v (.string val32)))])), (1015, (.arr 44 6 72 (List.map encEv (a21 ++ [(AEv.mk p key30 ((Tr.getT t key30).2) ((Tr.getT t key30).1) has31 val32)])))), (5000, (.cells 51 [(.d (.ptr [(encT t)]))]))], [5000]⟩ [] mixed (by kernel_rfl) trivial ?_
            refine peel_seq ?_
            refine awp_cond (b := (!(Tr.getT t key30).2)) rfl (fun hc36 => ?_) (fun hc36 => ?_)
            · skip
              refine awp_region_keep tab_ok boxes [(1, ⟨[], (sc (.int .i64 (b22 + 1))), some []⟩)] [0, 1, 8, 9, 15, 16, 62, 63, 64] [1015, 5000] ⟨116, [(0, (.t (.c (.loc 5000 0)))), (1, (sc (.int .i64 p))), (8, (sc (.slice none 0 0))), (9, (sc (.int .i64 0))), (15, (.t (.c (.own 1015)))), (16, (sc (.int .i64 (b22 + 1)))), (62, (.t (.c (.d (.sl (List.map encOp ops)))))), (63, (sc (.int .i64 (List.length ops : Int)))), (64, (sc (.int .i64 (k20 : Int))))], [(1015, (.arr 44 6 72 (List.map encEv (a21 ++ [(AEv.mk p key30 ((Tr.getT t key30).2) ((Tr.getT t key30).1) has31 val32)])))), (5000, (.cells 51 [(.d (.ptr [(encT t)]))]))], [5000]⟩ [⟨(Go.Op.binOp Go.BinOp.add 3 (Go.Operand.tmp 104) (Go.Operand.const (Go.Value.int Go.IntKind.i64 1)) 3), 3, [(sc (.int .i64 b22)), (sc (.int .i64 1))], [], (sc (.int .i64 (b22 + 1))), []⟩] mixed (by kernel_rfl) ⟨tri_int (b22 + 1) (wrap_i64 (by omega)), trivial⟩ ?_
              refine peel_block ?_
              refine peel_block ?_
              refine peel_seq ?_
              refine awp_region_keep tab_ok boxes [(0, ⟨[], (sc (.int .i64 ((k20 : Int) + 1))), some []⟩)] [0, 1, 8, 9, 15, 16, 62, 63, 64] [1015, 5000] ⟨116, [(0, (.t (.c (.loc 5000 0)))), (1, (sc (.int .i64 p))), (8, (sc (.slice none 0 0))), (9, (sc (.int .i64 0))), (15, (.t (.c (.own 1015)))), (16, (sc (.int .i64 (b22 + 1)))), (62, (.t (.c (.d (.sl (List.map encOp ops)))))), (63, (sc (.int .i64 (List.length ops : Int)))), (64, (sc (.int .i64 ((k20 : Int) + 1))))], [(1015, (.arr 44 6 72 (List.map encEv (a21 ++ [(AEv.mk p key30 ((Tr.getT t key30).2) ((Tr.getT t key30).1) has31 val32)])))), (5000, (.cells 51 [(.d (.ptr [(encT t)]))]))], [5000]⟩ [⟨(Go.Op.binOp Go.BinOp.add 3 (Go.Operand.tmp 64) (Go.Operand.const (Go.Value.int Go.IntKind.i64 1)) 3), 3, [(sc (.int .i64 (k20 : Int))), (sc (.int .i64 1))], [], (sc (.int .i64 ((k20 : Int) + 1))), []⟩] mixed (by kernel_rfl) ⟨tri_int ((k20 : Int) + 1) (wrap_i64 (by omega)), trivial⟩ ?_
              exact peel_round (k20 + 1, (a21 ++ [(AEv.mk p key30 ((Tr.getT t key30).2) ((Tr.getT t key30).1) has31 val32)]), (b22 + 1)) rfl ⟨by (try simp only [List.length_map] at *); omega, by (try simp only [List.length_append, List.length_cons, List.length_nil]); omega, by have hj := hJ25; rw [hd29] at hj; simp only [planF, sameOp, evOf, hb33, hc1, hc26, hc35, hc36, hc7, cond_true, cond_false, Bool.not_true, Bool.not_false] at hj ⊢; exact hj⟩ (by (try simp only [List.length_map] at *); omega)
            · skip
              refine awp_seq ?_
              refine awp_region_keep tab_ok boxes [] [0, 1, 8, 9, 15, 16, 62, 63, 64, 106] [1015, 5000] ⟨116, [(0, (.t (.c (.loc 5000 0)))), (1, (sc (.int .i64 p))), (8, (sc (.slice none 0 0))), (9, (sc (.int .i64 0))), (15, (.t (.c (.own 1015)))), (16, (sc (.int .i64 b22))), (62, (.t (.c (.d (.sl (List.map encOp ops)))))), (63, (sc (.int .i64 (List.length ops : Int)))), (64, (sc (.int .i64 (k20 : Int)))), (106, (sc (.bool (!has31))))], [(1015, (.arr 44 6 72 (List.map encEv (a21 ++ [(AEv.mk p key30 ((Tr.getT t key30).2) ((Tr.getT t key30).1) has31 val32)])))), (5000, (.cells 51 [(.d (.ptr [(encT t)]))]))], [5000]⟩ [] mixed (by kernel_rfl) trivial ?_
              refine peel_seq ?_
              cases has31 with
              | false =>
                refine awp_true rfl ?_
                refine awp_region_keep tab_ok boxes [(1, ⟨[], (sc (.int .i64 (b22 - 1))), some []⟩)] [0, 1, 8, 9, 15, 16, 62, 63, 64] [1015, 5000] ⟨116, [(0, (.t (.c (.loc 5000 0)))), (1, (sc (.int .i64 p))), (8, (sc (.slice none 0 0))), (9, (sc (.int .i64 0))), (15, (.t (.c (.own 1015)))), (16, (sc (.int .i64 (b22 - 1)))), (62, (.t (.c (.d (.sl (List.map encOp ops)))))), (63, (sc (.int .i64 (List.length ops : Int)))), (64, (sc (.int .i64 (k20 : Int))))], [(1015, (.arr 44 6 72 (List.map encEv (a21 ++ [(AEv.mk p key30 ((Tr.getT t key30).2) ((Tr.getT t key30).1) false val32)])))), (5000, (.cells 51 [(.d (.ptr [(encT t)]))]))], [5000]⟩ [⟨(Go.Op.binOp Go.BinOp.sub 3 (Go.Operand.tmp 110) (Go.Operand.const (Go.Value.int Go.IntKind.i64 1)) 3), 3, [(sc (.int .i64 b22)), (sc (.int .i64 1))], [], (sc (.int .i64 (b22 - 1))), []⟩] mixed (by kernel_rfl) ⟨tri_int (b22 - 1) (wrap_i64 (by omega)), trivial⟩ ?_
                refine peel_block ?_
                refine peel_block ?_
                refine peel_seq ?_
                refine awp_region_keep tab_ok boxes [(0, ⟨[], (sc (.int .i64 ((k20 : Int) + 1))), some []⟩)] [0, 1, 8, 9, 15, 16, 62, 63, 64] [1015, 5000] ⟨116, [(0, (.t (.c (.loc 5000 0)))), (1, (sc (.int .i64 p))), (8, (sc (.slice none 0 0))), (9, (sc (.int .i64 0))), (15, (.t (.c (.own 1015)))), (16, (sc (.int .i64 (b22 - 1)))), (62, (.t (.c (.d (.sl (List.map encOp ops)))))), (63, (sc (.int .i64 (List.length ops : Int)))), (64, (sc (.int .i64 ((k20 : Int) + 1))))], [(1015, (.arr 44 6 72 (List.map encEv (a21 ++ [(AEv.mk p key30 ((Tr.getT t key30).2) ((Tr.getT t key30).1) false val32)])))), (5000, (.cells 51 [(.d (.ptr [(encT t)]))]))], [5000]⟩ [⟨(Go.Op.binOp Go.BinOp.add 3 (Go.Operand.tmp 64) (Go.Operand.const (Go.Value.int Go.IntKind.i64 1)) 3), 3, [(sc (.int .i64 (k20 : Int))), (sc (.int .i64 1))], [], (sc (.int .i64 ((k20 : Int) + 1))), []⟩] mixed (by kernel_rfl) ⟨tri_int ((k20 : Int) + 1) (wrap_i64 (by omega)), trivial⟩ ?_
                exact peel_round (k20 + 1, (a21 ++ [(AEv.mk p key30 ((Tr.getT t key30).2) ((Tr.getT t key30).1) false val32)]), (b22 - 1)) rfl ⟨by (try simp only [List.length_map] at *); omega, by (try simp only [List.length_append, List.length_cons, List.length_nil]); omega, by have hj := hJ25; rw [hd29] at hj; simp only [planF, sameOp, evOf, hb33, hc1, hc26, hc35, hc36, hc7, cond_true, cond_false, Bool.not_true, Bool.not_false] at hj ⊢; exact hj⟩ (by (try simp only [List.length_map] at *); omega)
              | true =>
                refine awp_false rfl ?_
                refine q_keep [0, 1, 8, 9, 15, 16, 62, 63, 64] [1015, 5000] ?_
                refine awp_skip ?_
                refine peel_block ?_
                refine peel_block ?_
                refine peel_seq ?_
                refine awp_region_keep tab_ok boxes [(0, ⟨[], (sc (.int .i64 ((k20 : Int) + 1))), some []⟩)] [0, 1, 8, 9, 15, 16, 62, 63, 64] [1015, 5000] ⟨116, [(0, (.t (.c (.loc 5000 0)))), (1, (sc (.int .i64 p))), (8, (sc (.slice none 0 0))), (9, (sc (.int .i64 0))), (15, (.t (.c (.own 1015)))), (16, (sc (.int .i64 b22))), (62, (.t (.c (.d (.sl (List.map encOp ops)))))), (63, (sc (.int .i64 (List.length ops : Int)))), (64, (sc (.int .i64 ((k20 : Int) + 1))))], [(1015, (.arr 44 6 72 (List.map encEv (a21 ++ [(AEv.mk p key30 ((Tr.getT t key30).2) ((Tr.getT t key30).1) true val32)])))), (5000, (.cells 51 [(.d (.ptr [(encT t)]))]))], [5000]⟩ [⟨(Go.Op.binOp Go.BinOp.add 3 (Go.Operand.tmp 64) (Go.Operand.const (Go.Value.int Go.IntKind.i64 1)) 3), 3, [(sc (.int .i64 (k20 : Int))), (sc (.int .i64 1))], [], (sc (.int .i64 ((k20 : Int) + 1))), []⟩] mixed (by kernel_rfl) ⟨tri_int ((k20 : Int) + 1) (wrap_i64 (by omega)), trivial⟩ ?_
                exact peel_round (k20 + 1, (a21 ++ [(AEv.mk p key30 ((Tr.getT t key30).2) ((Tr.getT t key30).1) true val32)]), b22) rfl ⟨by (try simp only [List.length_map] at *); omega, by (try simp only [List.length_append, List.length_cons, List.length_nil]); omega, by have hj := hJ25; rw [hd29] at hj; simp only [planF, sameOp, evOf, hb33, hc1, hc26, hc35, hc36, hc7, cond_true, cond_false, Bool.not_true, Bool.not_false] at hj ⊢; exact hj⟩ (by (try simp only [List.length_map] at *); omega)
      · skip
        have hc26p := of_decide_eq_false hc26
        have hE37 := hJ25
        rw [at_end (l := ops) (by (try simp only [List.length_map] at *); omega)] at hE37
        simp only [planF, sameOp, evOf, hc1, hc26, hc7, cond_true, cond_false, Bool.not_true, Bool.not_false] at hE37
        refine awp_exit ?_
        refine peel_seq_exit ?_
        refine peel_seq_exit ?_
        refine peel_hit ?_
        refine peel_seq ?_
        refine awp_seq ?_
        refine awp_seq ?_
        refine awp_region_keep tab_ok boxes [] [8, 9, 15, 114] [1015, 5000] ⟨116, [(8, (sc (.slice none 0 0))), (9, (sc (.int .i64 0))), (15, (.t (.c (.own 1015)))), (114, (sc (.bool (decide (b22 > 24)))))], [(1015, (.arr 44 6 72 (List.map encEv a21))), (5000, (.cells 51 [(.d (.ptr [(encT t)]))]))], [5000]⟩ [] mixed (by kernel_rfl) trivial ?_
        refine peel_seq ?_
        refine awp_cond (b := (decide (b22 > 24))) rfl (fun hc38 => ?_) (fun hc38 => ?_)
        · skip
          have hc38p := of_decide_eq_true hc38
          refine awp_seq ?_
          refine awp_region_keep tab_ok boxes [] [8, 9, 15] [1015, 5000] ⟨116, [(8, (sc (.slice none 0 0))), (9, (sc (.int .i64 7))), (15, (.t (.c (.own 1015))))], [(1015, (.arr 44 6 72 (List.map encEv a21))), (5000, (.cells 51 [(.d (.ptr [(encT t)]))]))], [5000]⟩ [] mixed (by kernel_rfl) trivial ?_
          refine peel_seq ?_
          refine awp_mv [.own 8 908 0 0 0, .fz 908] ⟨116, [(8, (.t (.c (.d (.sl []))))), (9, (sc (.int .i64 7))), (15, (.t (.c (.own 1015))))], [(1015, (.arr 44 6 72 (List.map encEv a21))), (5000, (.cells 51 [(.d (.ptr [(encT t)]))]))], [5000]⟩ rfl ?_
          refine awp_ret ?_
          refine peel_seq_ret ?_
          exact ends_ret rfl (show some ((.tup [(.c (.d (.sl []))), (.c (.d (.v (.int .i64 7))))]) : SV) = some ((.tup [(.c (.d (.sl (List.map encEv ((planM t p conds ops).1))))), (.c (.d (.v (.int .i64 (planM t p conds ops).2))))]) : SV) from by first | rfl | (simp only [planM, hc1, hc26, hc38, hc7, ← hE18, ← hE37, cond_true, cond_false, Bool.not_true, Bool.not_false, List.map_nil])) rfl
        · skip
          have hc38p := of_decide_eq_false hc38
          refine awp_skip ?_
          refine peel_seq ?_
          refine awp_seq ?_
          refine awp_region_keep tab_ok boxes [] [8, 9] [1015, 5000] ⟨116, [(8, (.t (.c (.own 1015)))), (9, (sc (.int .i64 0)))], [(1015, (.arr 44 6 72 (List.map encEv a21))), (5000, (.cells 51 [(.d (.ptr [(encT t)]))]))], [5000]⟩ [] mixed (by kernel_rfl) trivial ?_
          refine peel_seq ?_
          refine awp_mv [.fz 1015] ⟨116, [(8, (.t (.c (.d (.sl (List.map encEv a21)))))), (9, (sc (.int .i64 0)))], [(5000, (.cells 51 [(.d (.ptr [(encT t)]))]))], [5000]⟩ rfl ?_
          refine awp_ret ?_
          exact ends_ret rfl (show some ((.tup [(.c (.d (.sl (List.map encEv a21)))), (.c (.d (.v (.int .i64 0))))]) : SV) = some ((.tup [(.c (.d (.sl (List.map encEv ((planM t p conds ops).1))))), (.c (.d (.v (.int .i64 (planM t p conds ops).2))))]) : SV) from by first | rfl | (simp only [planM, hc1, hc26, hc38, hc7, ← hE18, ← hE37, cond_true, cond_false, Bool.not_true, Bool.not_false, List.map_nil])) rfl
theorem k_Plan_nil (p : Int) (conds ops : List AOp) : Sat Try.prog 19 [(sc (.pointer none)), (sc (.int .i64 p)), (.t (.c (.d (.sl (List.map encOp conds))))), (.t (.c (.d (.sl (List.map encOp ops)))))] [] (.tup [(.c (.d (.sl []))), (.c (.d (.v (.int .i64 6))))]) [] := by
  refine sat_of_body tab_ok Try.func19 rfl (by kernel_rfl) (Nat.le_of_ble_eq_true rfl) rfl fun G => ?_
  refine awp_seq ?_
  refine awp_region_keep tab_ok boxes [] [0, 1, 2, 3, 8, 9] [] ⟨116, [(0, (sc (.pointer none))), (1, (sc (.int .i64 p))), (2, (.t (.c (.d (.sl (List.map encOp conds)))))), (3, (.t (.c (.d (.sl (List.map encOp ops)))))), (8, (sc (.slice none 0 0))), (9, (sc (.int .i64 0)))], [], []⟩ [] mixed (by kernel_rfl) trivial ?_
  refine peel_seq ?_
  refine awp_seq ?_
  refine awp_seq ?_
  refine awp_region_keep tab_ok boxes [(1, ⟨[], (sc (.bool false)), some []⟩)] [0, 1, 2, 3, 8, 9, 23] [] ⟨116, [(0, (sc (.pointer none))), (1, (sc (.int .i64 p))), (2, (.t (.c (.d (.sl (List.map encOp conds)))))), (3, (.t (.c (.d (.sl (List.map encOp ops)))))), (8, (sc (.slice none 0 0))), (9, (sc (.int .i64 0))), (23, (sc (.bool true)))], [], []⟩ [⟨(Go.Op.call (Go.Call.mk (Go.Callee.value (Go.Operand.func 42)) #[(Go.Operand.tmp 21)] #[28])), 4, [(sc (.func (.func 42) #[] #[])), (sc (.pointer none))], [], (sc (.bool false)), []⟩] mixed (by kernel_rfl) ⟨tri_call (k_made_nil), trivial⟩ ?_
  refine peel_seq ?_
  refine awp_true rfl ?_
  refine awp_seq ?_
  refine awp_region_keep tab_ok boxes [] [0, 1, 2, 3, 8, 9] [] ⟨116, [(0, (sc (.pointer none))), (1, (sc (.int .i64 p))), (2, (.t (.c (.d (.sl (List.map encOp conds)))))), (3, (.t (.c (.d (.sl (List.map encOp ops)))))), (8, (sc (.slice none 0 0))), (9, (sc (.int .i64 6)))], [], []⟩ [] mixed (by kernel_rfl) trivial ?_
  refine peel_seq ?_
  refine awp_mv [.own 8 908 0 0 0, .fz 908] ⟨116, [(8, (.t (.c (.d (.sl []))))), (0, (sc (.pointer none))), (1, (sc (.int .i64 p))), (2, (.t (.c (.d (.sl (List.map encOp conds)))))), (3, (.t (.c (.d (.sl (List.map encOp ops)))))), (9, (sc (.int .i64 6)))], [], []⟩ rfl ?_
  refine awp_ret ?_
  refine peel_seq_ret ?_
  exact ends_ret rfl rfl rfl
theorem k_Plan_zero (p : Int) (conds ops : List AOp) : Sat Try.prog 19 [(.t (.c (.d (.ptr [(.v (.pointer none))])))), (sc (.int .i64 p)), (.t (.c (.d (.sl (List.map encOp conds))))), (.t (.c (.d (.sl (List.map encOp ops)))))] [] (.tup [(.c (.d (.sl []))), (.c (.d (.v (.int .i64 6))))]) [] := by
  refine sat_of_body tab_ok Try.func19 rfl (by kernel_rfl) (Nat.le_of_ble_eq_true rfl) rfl fun G => ?_
  refine awp_seq ?_
  refine awp_region_keep tab_ok boxes [] [0, 1, 2, 3, 8, 9] [] ⟨116, [(0, (.t (.c (.d (.ptr [(.v (.pointer none))]))))), (1, (sc (.int .i64 p))), (2, (.t (.c (.d (.sl (List.map encOp conds)))))), (3, (.t (.c (.d (.sl (List.map encOp ops)))))), (8, (sc (.slice none 0 0))), (9, (sc (.int .i64 0)))], [], []⟩ [] mixed (by kernel_rfl) trivial ?_
  refine peel_seq ?_
  refine awp_seq ?_
  refine awp_seq ?_
  refine awp_region_keep tab_ok boxes [(1, ⟨[], (sc (.bool false)), some []⟩)] [0, 1, 2, 3, 8, 9, 23] [] ⟨116, [(0, (.t (.c (.d (.ptr [(.v (.pointer none))]))))), (1, (sc (.int .i64 p))), (2, (.t (.c (.d (.sl (List.map encOp conds)))))), (3, (.t (.c (.d (.sl (List.map encOp ops)))))), (8, (sc (.slice none 0 0))), (9, (sc (.int .i64 0))), (23, (sc (.bool true)))], [], []⟩ [⟨(Go.Op.call (Go.Call.mk (Go.Callee.value (Go.Operand.func 42)) #[(Go.Operand.tmp 21)] #[28])), 4, [(sc (.func (.func 42) #[] #[])), (.t (.c (.d (.ptr [(.v (.pointer none))]))))], [], (sc (.bool false)), []⟩] mixed (by kernel_rfl) ⟨tri_call (k_made_zero), trivial⟩ ?_
  refine peel_seq ?_
  refine awp_true rfl ?_
  refine awp_seq ?_
  refine awp_region_keep tab_ok boxes [] [0, 1, 2, 3, 8, 9] [] ⟨116, [(0, (.t (.c (.d (.ptr [(.v (.pointer none))]))))), (1, (sc (.int .i64 p))), (2, (.t (.c (.d (.sl (List.map encOp conds)))))), (3, (.t (.c (.d (.sl (List.map encOp ops)))))), (8, (sc (.slice none 0 0))), (9, (sc (.int .i64 6)))], [], []⟩ [] mixed (by kernel_rfl) trivial ?_
  refine peel_seq ?_
  refine awp_mv [.own 8 908 0 0 0, .fz 908] ⟨116, [(8, (.t (.c (.d (.sl []))))), (0, (.t (.c (.d (.ptr [(.v (.pointer none))]))))), (1, (sc (.int .i64 p))), (2, (.t (.c (.d (.sl (List.map encOp conds)))))), (3, (.t (.c (.d (.sl (List.map encOp ops)))))), (9, (sc (.int .i64 6)))], [], []⟩ rfl ?_
  refine awp_ret ?_
  refine peel_seq_ret ?_
  exact ends_ret rfl rfl rfl
theorem k_Take (t : Tr) (l : List AEv) (hs : t.size + l.length ≤ 1000000) : Sat Try.prog 21 [(.t (.c (.loc 5000 0))), (.t (.c (.d (.sl (List.map encEv l)))))] [(5000, (.cells 51 [(.d (.ptr [(encT t)]))]))] (.tup []) [(5000, (.cells 51 [(.d (.ptr [(encT (takeF t l))]))]))] := by
  refine sat_of_body tab_ok Try.func21 rfl (by kernel_rfl) (Nat.le_of_ble_eq_true rfl) rfl fun G => ?_
  refine awp_seq ?_
  refine awp_seq ?_
  refine awp_region_keep tab_ok boxes [(1, ⟨[5000], (sc (.bool true)), none⟩)] [0, 1, 8] [5000] ⟨40, [(0, (.t (.c (.loc 5000 0)))), (1, (.t (.c (.d (.sl (List.map encEv l)))))), (8, (sc (.bool false)))], [(5000, (.cells 51 [(.d (.ptr [(encT t)]))]))], [5000]⟩ [⟨(Go.Op.call (Go.Call.mk (Go.Callee.value (Go.Operand.func 42)) #[(Go.Operand.tmp 6)] #[28])), 4, [(sc (.func (.func 42) #[] #[])), (.t (.c (.loc 5000 0)))], [(5000, (.cells 51 [(.d (.ptr [(encT t)]))]))], (sc (.bool true)), [(5000, (.cells 51 [(.d (.ptr [(encT t)]))]))]⟩] mixed (by kernel_rfl) ⟨tri_call (k_made t), trivial⟩ ?_
  refine peel_seq ?_
  refine awp_false rfl ?_
  refine awp_skip ?_
  refine peel_seq ?_
  refine awp_seq ?_
  refine awp_region_keep tab_ok boxes [(1, ⟨[], (sc (.int .i64 (List.length l : Int))), none⟩)] [0, 9, 10, 11] [5000] ⟨40, [(0, (.t (.c (.loc 5000 0)))), (9, (.t (.c (.d (.sl (List.map encEv l)))))), (10, (sc (.int .i64 (List.length l : Int)))), (11, (sc (.int .i64 0)))], [(5000, (.cells 51 [(.d (.ptr [(encT t)]))]))], [5000]⟩ [⟨(Go.Op.call (Go.Call.mk (Go.Callee.builtin Go.Builtin.len) #[(Go.Operand.tmp 9)] #[29])), 3, [(.t (.c (.d (.sl (List.map encEv l)))))], [], (sc (.int .i64 (List.length l : Int))), []⟩] mixed (by kernel_rfl) ⟨tri_len_map tab_ok rfl, trivial⟩ ?_
  refine peel_seq ?_
  refine awp_block ?_
  refine awp_len 9 rfl (fun hlen1 => ?_)
  refine awp_loopP (ι := Nat × (Tr)) (fun x => ⟨40, [(0, (.t (.c (.loc 5000 0)))), (9, (.t (.c (.d (.sl (List.map encEv l)))))), (10, (sc (.int .i64 (List.length l : Int)))), (11, (sc (.int .i64 (x.1 : Int))))], [(5000, (.cells 51 [(.d (.ptr [(encT x.2)]))]))], [5000]⟩) (fun x => x.1 ≤ List.length l ∧ (Tr.size x.2 ≤ t.size + x.1) ∧ takeF x.2 (List.drop x.1 l) = takeF t l) (fun x => List.length l - x.1) (0, t) rfl ⟨Nat.zero_le _, by simp, rfl⟩ ?_
  rintro ⟨k2, a3⟩ ⟨hk4, hx5, hJ6⟩
  try simp only at hk4 hx5 hJ6
  refine awp_seq ?_
  refine awp_region_keep tab_ok boxes [] [0, 9, 10, 11, 12] [5000] ⟨40, [(0, (.t (.c (.loc 5000 0)))), (9, (.t (.c (.d (.sl (List.map encEv l)))))), (10, (sc (.int .i64 (List.length l : Int)))), (11, (sc (.int .i64 (k2 : Int)))), (12, (sc (.bool (decide ((k2 : Int) < (List.length l : Int))))))], [(5000, (.cells 51 [(.d (.ptr [(encT a3)]))]))], [5000]⟩ [] mixed (by kernel_rfl) trivial ?_
  refine peel_seq ?_
  refine awp_seq ?_
  refine awp_cond (b := (decide ((k2 : Int) < (List.length l : Int)))) rfl (fun hc7 => ?_) (fun hc7 => ?_)
  · skip
    have hc7p := of_decide_eq_true hc7
    refine awp_skip ?_
    refine peel_seq ?_
    refine awp_seq ?_
    refine awp_block ?_
    refine awp_seq ?_
    obtain ⟨⟨pos11, key12, had13, old14, has15, now16⟩, ha9, hd10⟩ := at_drop (l := l) (k := k2) (by (try simp only [List.length_map] at *); omega)
    refine awp_region_keep tab_ok boxes [(0, ⟨[], (.t (.c (.d (.ptr [(.v (.int .i64 pos11)), (.v (.string key12)), (.v (.bool had13)), (.v (.string old14)), (.v (.bool has15)), (.v (.string now16))])))), some []⟩)] [0, 5, 9, 10, 11] [5, 5000] ⟨40, [(0, (.t (.c (.loc 5000 0)))), (5, (.t (.c (.loc 5 0)))), (9, (.t (.c (.d (.sl (List.map encEv l)))))), (10, (sc (.int .i64 (List.length l : Int)))), (11, (sc (.int .i64 (k2 : Int))))], [(5, (.cells 44 [(.d (.v (.int .i64 pos11))), (.d (.v (.string key12))), (.d (.v (.bool had13))), (.d (.v (.string old14))), (.d (.v (.bool has15))), (.d (.v (.string now16)))])), (5000, (.cells 51 [(.d (.ptr [(encT a3)]))]))], [5000]⟩ [⟨(Go.Op.indexAddr 29 (Go.Operand.tmp 9) (Go.Operand.tmp 11)), 0, [(.t (.c (.d (.sl (List.map encEv l))))), (sc (.int .i64 (k2 : Int)))], [], (.t (.c (.d (.ptr [(.v (.int .i64 pos11)), (.v (.string key12)), (.v (.bool had13)), (.v (.string old14)), (.v (.bool has15)), (.v (.string now16))])))), []⟩] mixed (by kernel_rfl) ⟨tri_index_sl (e := 44) (sz := 6) (bytes := 72) (i := k2) tab_ok rfl (at_map encEv ha9) (all_map fun _ => rfl), trivial⟩ ?_
    refine peel_seq ?_
    refine awp_seq ?_
    refine awp_region_keep tab_ok boxes [] [0, 5, 9, 10, 11, 16] [5, 5000] ⟨40, [(0, (.t (.c (.loc 5000 0)))), (5, (.t (.c (.loc 5 0)))), (9, (.t (.c (.d (.sl (List.map encEv l)))))), (10, (sc (.int .i64 (List.length l : Int)))), (11, (sc (.int .i64 (k2 : Int)))), (16, (sc (.bool has15)))], [(5, (.cells 44 [(.d (.v (.int .i64 pos11))), (.d (.v (.string key12))), (.d (.v (.bool had13))), (.d (.v (.string old14))), (.d (.v (.bool has15))), (.d (.v (.string now16)))])), (5000, (.cells 51 [(.d (.ptr [(encT a3)]))]))], [5000]⟩ [] mixed (by kernel_rfl) trivial ?_
    refine peel_seq ?_
    cases has15 with
    | false =>
      refine awp_false rfl ?_
      refine awp_region_keep tab_ok boxes [(7, ⟨[], (.t (.c (.d (.ptr [(encT (Tr.dropT a3 key12))])))), some []⟩)] [0, 9, 10, 11] [5000] ⟨40, [(0, (.t (.c (.loc 5000 0)))), (9, (.t (.c (.d (.sl (List.map encEv l)))))), (10, (sc (.int .i64 (List.length l : Int)))), (11, (sc (.int .i64 (k2 : Int))))], [(5000, (.cells 51 [(.d (.ptr [(encT (Tr.dropT a3 key12))]))]))], [5000]⟩ [⟨(Go.Op.call (Go.Call.mk (Go.Callee.value (Go.Operand.func 50)) #[(Go.Operand.tmp 33), (Go.Operand.tmp 35)] #[49, 9])), 49, [(sc (.func (.func 50) #[] #[])), (.t (.c (.d (.ptr [(encT a3)])))), (sc (.string key12))], [], (.t (.c (.d (.ptr [(encT (Tr.dropT a3 key12))])))), []⟩] mixed (by kernel_rfl) ⟨tri_call (s_TDrop a3 key12 (by (try simp only [Tr.size, Tr.size_downLess, Tr.size_downMore, Tr.size_join, big] at *); omega)), trivial⟩ ?_
      refine peel_block ?_
      refine peel_seq ?_
      refine awp_region_keep tab_ok boxes [(0, ⟨[], (sc (.int .i64 ((k2 : Int) + 1))), some []⟩)] [0, 9, 10, 11] [5000] ⟨40, [(0, (.t (.c (.loc 5000 0)))), (9, (.t (.c (.d (.sl (List.map encEv l)))))), (10, (sc (.int .i64 (List.length l : Int)))), (11, (sc (.int .i64 ((k2 : Int) + 1))))], [(5000, (.cells 51 [(.d (.ptr [(encT (Tr.dropT a3 key12))]))]))], [5000]⟩ [⟨(Go.Op.binOp Go.BinOp.add 3 (Go.Operand.tmp 11) (Go.Operand.const (Go.Value.int Go.IntKind.i64 1)) 3), 3, [(sc (.int .i64 (k2 : Int))), (sc (.int .i64 1))], [], (sc (.int .i64 ((k2 : Int) + 1))), []⟩] mixed (by kernel_rfl) ⟨tri_int ((k2 : Int) + 1) (wrap_i64 (by omega)), trivial⟩ ?_
      exact peel_round (k2 + 1, (Tr.dropT a3 key12)) rfl ⟨by (try simp only [List.length_map] at *); omega, by first | exact Nat.le_trans (Tr.size_putT ..) (by omega) | exact Nat.le_trans (Tr.size_dropT ..) (by omega), by have hj := hJ6; rw [hd10] at hj; simp only [takeF, hc7, cond_true, cond_false, Bool.not_true, Bool.not_false] at hj ⊢; exact hj⟩ (by (try simp only [List.length_map] at *); omega)
    | true =>
      refine awp_true rfl ?_
      refine awp_region_keep tab_ok boxes [(9, ⟨[], (.t (.c (.d (.ptr [(encT (Tr.putT a3 key12 now16))])))), some []⟩)] [0, 9, 10, 11] [5000] ⟨40, [(0, (.t (.c (.loc 5000 0)))), (9, (.t (.c (.d (.sl (List.map encEv l)))))), (10, (sc (.int .i64 (List.length l : Int)))), (11, (sc (.int .i64 (k2 : Int))))], [(5000, (.cells 51 [(.d (.ptr [(encT (Tr.putT a3 key12 now16))]))]))], [5000]⟩ [⟨(Go.Op.call (Go.Call.mk (Go.Callee.value (Go.Operand.func 47)) #[(Go.Operand.tmp 21), (Go.Operand.tmp 23), (Go.Operand.tmp 25)] #[49, 9, 9])), 49, [(sc (.func (.func 47) #[] #[])), (.t (.c (.d (.ptr [(encT a3)])))), (sc (.string key12)), (sc (.string now16))], [], (.t (.c (.d (.ptr [(encT (Tr.putT a3 key12 now16))])))), []⟩] mixed (by kernel_rfl) ⟨tri_call (s_TPut a3 key12 now16 (by (try simp only [Tr.size, Tr.size_downLess, Tr.size_downMore, Tr.size_join, big] at *); omega)), trivial⟩ ?_
      refine peel_block ?_
      refine peel_seq ?_
      refine awp_region_keep tab_ok boxes [(0, ⟨[], (sc (.int .i64 ((k2 : Int) + 1))), some []⟩)] [0, 9, 10, 11] [5000] ⟨40, [(0, (.t (.c (.loc 5000 0)))), (9, (.t (.c (.d (.sl (List.map encEv l)))))), (10, (sc (.int .i64 (List.length l : Int)))), (11, (sc (.int .i64 ((k2 : Int) + 1))))], [(5000, (.cells 51 [(.d (.ptr [(encT (Tr.putT a3 key12 now16))]))]))], [5000]⟩ [⟨(Go.Op.binOp Go.BinOp.add 3 (Go.Operand.tmp 11) (Go.Operand.const (Go.Value.int Go.IntKind.i64 1)) 3), 3, [(sc (.int .i64 (k2 : Int))), (sc (.int .i64 1))], [], (sc (.int .i64 ((k2 : Int) + 1))), []⟩] mixed (by kernel_rfl) ⟨tri_int ((k2 : Int) + 1) (wrap_i64 (by omega)), trivial⟩ ?_
      exact peel_round (k2 + 1, (Tr.putT a3 key12 now16)) rfl ⟨by (try simp only [List.length_map] at *); omega, by first | exact Nat.le_trans (Tr.size_putT ..) (by omega) | exact Nat.le_trans (Tr.size_dropT ..) (by omega), by have hj := hJ6; rw [hd10] at hj; simp only [takeF, hc7, cond_true, cond_false, Bool.not_true, Bool.not_false] at hj ⊢; exact hj⟩ (by (try simp only [List.length_map] at *); omega)
  · skip
    have hc7p := of_decide_eq_false hc7
    have hE17 := hJ6
    rw [at_end (l := l) (by (try simp only [List.length_map] at *); omega)] at hE17
    simp only [takeF, hc7, cond_true, cond_false, Bool.not_true, Bool.not_false] at hE17
    refine awp_exit ?_
    refine peel_seq_exit ?_
    refine peel_seq_exit ?_
    refine peel_hit ?_
    exact ends_end rfl rfl (show some ([(5000, (.cells 51 [(.d (.ptr [(encT a3)]))]))] : Objs) = some ([(5000, (.cells 51 [(.d (.ptr [(encT (takeF t l))]))]))] : Objs) from by first | rfl | (simp only [takeF, hc7, ← hE17, cond_true, cond_false, Bool.not_true, Bool.not_false, List.map_nil]))
theorem k_Take_nil (l : List AEv) : Sat Try.prog 21 [(sc (.pointer none)), (.t (.c (.d (.sl (List.map encEv l)))))] [] (.tup []) [] := by
  refine sat_of_body tab_ok Try.func21 rfl (by kernel_rfl) (Nat.le_of_ble_eq_true rfl) rfl fun G => ?_
  refine awp_seq ?_
  refine awp_seq ?_
  refine awp_region_keep tab_ok boxes [(1, ⟨[], (sc (.bool false)), some []⟩)] [0, 1, 8] [] ⟨40, [(0, (sc (.pointer none))), (1, (.t (.c (.d (.sl (List.map encEv l)))))), (8, (sc (.bool true)))], [], []⟩ [⟨(Go.Op.call (Go.Call.mk (Go.Callee.value (Go.Operand.func 42)) #[(Go.Operand.tmp 6)] #[28])), 4, [(sc (.func (.func 42) #[] #[])), (sc (.pointer none))], [], (sc (.bool false)), []⟩] mixed (by kernel_rfl) ⟨tri_call (k_made_nil), trivial⟩ ?_
  refine peel_seq ?_
  refine awp_true rfl ?_
  refine awp_ret ?_
  refine peel_seq_ret ?_
  exact ends_ret rfl rfl rfl
theorem k_Take_zero (l : List AEv) : Sat Try.prog 21 [(.t (.c (.d (.ptr [(.v (.pointer none))])))), (.t (.c (.d (.sl (List.map encEv l)))))] [] (.tup []) [] := by
  refine sat_of_body tab_ok Try.func21 rfl (by kernel_rfl) (Nat.le_of_ble_eq_true rfl) rfl fun G => ?_
  refine awp_seq ?_
  refine awp_seq ?_
  refine awp_region_keep tab_ok boxes [(1, ⟨[], (sc (.bool false)), some []⟩)] [0, 1, 8] [] ⟨40, [(0, (.t (.c (.d (.ptr [(.v (.pointer none))]))))), (1, (.t (.c (.d (.sl (List.map encEv l)))))), (8, (sc (.bool true)))], [], []⟩ [⟨(Go.Op.call (Go.Call.mk (Go.Callee.value (Go.Operand.func 42)) #[(Go.Operand.tmp 6)] #[28])), 4, [(sc (.func (.func 42) #[] #[])), (.t (.c (.d (.ptr [(.v (.pointer none))]))))], [], (sc (.bool false)), []⟩] mixed (by kernel_rfl) ⟨tri_call (k_made_zero), trivial⟩ ?_
  refine peel_seq ?_
  refine awp_true rfl ?_
  refine awp_ret ?_
  refine peel_seq_ret ?_
  exact ends_ret rfl rfl rfl
end Go.Proofs.Ytjbiaoajmdbigaa
