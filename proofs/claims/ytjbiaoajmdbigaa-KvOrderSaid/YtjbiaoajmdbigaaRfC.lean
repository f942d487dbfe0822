/- Walks of package tidemarkref09: Plan, Take, Do, Set. -/
import Derived.Test.YtjbiaoajmdbigaaRfB
set_option maxRecDepth 100000
set_option linter.unusedVariables false
set_option linter.unusedSimpArgs false
namespace Go.Proofs.Ytjbiaoajmdbigaa
open Go Go.E
theorem r_Plan (l : List AOp) (p : Int) (conds ops : List AOp) (hl : l.length ≤ 100000) (h1 : (∀ x ∈ conds, AOp.small x)) (h2 : (∀ x ∈ ops, AOp.small x)) : Sat Try.prog 25 [(.t (.c (.loc 6000 0))), (sc (.int .i64 p)), (.t (.c (.d (.sl (List.map encOp conds))))), (.t (.c (.d (.sl (List.map encOp ops)))))] [(6000, (.cells 62 [(.d (.sl (List.map encOp l)))]))] (.tup [(.c (.d (.sl (List.map encEv ((rplanM l p conds ops).1))))), (.c (.d (.v (.int .i64 (rplanM l p conds ops).2))))]) [(6000, (.cells 62 [(.d (.sl (List.map encOp l)))]))] := by
  refine sat_of_body tab_ok Try.func25 rfl (by kernel_rfl) (Nat.le_of_ble_eq_true rfl) rfl fun G => ?_
  refine awp_seq ?_
  refine awp_region_keep tab_ok boxes [] [0, 1, 2, 3, 8, 9] [6000] ⟨99, [(0, (.t (.c (.loc 6000 0)))), (1, (sc (.int .i64 p))), (2, (.t (.c (.d (.sl (List.map encOp conds)))))), (3, (.t (.c (.d (.sl (List.map encOp ops)))))), (8, (sc (.slice none 0 0))), (9, (sc (.int .i64 0)))], [(6000, (.cells 62 [(.d (.sl (List.map encOp l)))]))], [6000]⟩ [] mixed (by kernel_rfl) trivial ?_
  refine peel_seq ?_
  refine awp_seq ?_
  refine awp_seq ?_
  refine awp_region_keep tab_ok boxes [(2, ⟨[], (sc (.int .i64 (checkE conds ops))), some []⟩)] [0, 1, 2, 3, 8, 9, 10] [6000] ⟨99, [(0, (.t (.c (.loc 6000 0)))), (1, (sc (.int .i64 p))), (2, (.t (.c (.d (.sl (List.map encOp conds)))))), (3, (.t (.c (.d (.sl (List.map encOp ops)))))), (8, (sc (.slice none 0 0))), (9, (sc (.int .i64 0))), (10, (sc (.int .i64 (checkE conds ops))))], [(6000, (.cells 62 [(.d (.sl (List.map encOp l)))]))], [6000]⟩ [⟨(Go.Op.call (Go.Call.mk (Go.Callee.value (Go.Operand.func 52)) #[(Go.Operand.tmp 21), (Go.Operand.tmp 22)] #[23, 23])), 37, [(sc (.func (.func 52) #[] #[])), (.t (.c (.d (.sl (List.map encOp conds))))), (.t (.c (.d (.sl (List.map encOp ops)))))], [], (sc (.int .i64 (checkE conds ops))), []⟩] mixed (by kernel_rfl) ⟨tri_call ((rcheckE_eq conds ops ▸ r_Check conds ops (by assumption) (by assumption))), trivial⟩ ?_
  refine peel_seq ?_
  refine awp_seq ?_
  refine awp_region_keep tab_ok boxes [] [0, 1, 2, 3, 8, 9, 10, 25] [6000] ⟨99, [(0, (.t (.c (.loc 6000 0)))), (1, (sc (.int .i64 p))), (2, (.t (.c (.d (.sl (List.map encOp conds)))))), (3, (.t (.c (.d (.sl (List.map encOp ops)))))), (8, (sc (.slice none 0 0))), (9, (sc (.int .i64 0))), (10, (sc (.int .i64 (checkE conds ops)))), (25, (sc (.bool ((checkE conds ops) != 0))))], [(6000, (.cells 62 [(.d (.sl (List.map encOp l)))]))], [6000]⟩ [] mixed (by kernel_rfl) trivial ?_
  refine peel_seq ?_
  refine awp_cond (b := ((checkE conds ops) != 0)) rfl (fun hc1 => ?_) (fun hc1 => ?_)
  · skip
    have hc1p : (checkE conds ops) ≠ 0 := by simpa using hc1
    refine awp_seq ?_
    refine awp_region_keep tab_ok boxes [] [0, 1, 2, 3, 8, 9] [6000] ⟨99, [(0, (.t (.c (.loc 6000 0)))), (1, (sc (.int .i64 p))), (2, (.t (.c (.d (.sl (List.map encOp conds)))))), (3, (.t (.c (.d (.sl (List.map encOp ops)))))), (8, (sc (.slice none 0 0))), (9, (sc (.int .i64 (checkE conds ops))))], [(6000, (.cells 62 [(.d (.sl (List.map encOp l)))]))], [6000]⟩ [] mixed (by kernel_rfl) trivial ?_
    refine peel_seq ?_
    refine awp_mv [.own 8 908 0 0 0, .fz 908] ⟨99, [(8, (.t (.c (.d (.sl []))))), (0, (.t (.c (.loc 6000 0)))), (1, (sc (.int .i64 p))), (2, (.t (.c (.d (.sl (List.map encOp conds)))))), (3, (.t (.c (.d (.sl (List.map encOp ops)))))), (9, (sc (.int .i64 (checkE conds ops))))], [(6000, (.cells 62 [(.d (.sl (List.map encOp l)))]))], [6000]⟩ rfl ?_
    refine awp_ret ?_
    refine peel_seq_ret ?_
    exact ends_ret rfl (show some ((.tup [(.c (.d (.sl []))), (.c (.d (.v (.int .i64 (checkE conds ops)))))]) : SV) = some ((.tup [(.c (.d (.sl (List.map encEv ((rplanM l p conds ops).1))))), (.c (.d (.v (.int .i64 (rplanM l p conds ops).2))))]) : SV) from by first | rfl | ((first | (simp only [hc1, cond_true, cond_false, Bool.not_true, Bool.not_false, List.map_nil]; done) | (simp only [rplanM, hc1, cond_true, cond_false, Bool.not_true, Bool.not_false, List.map_nil])))) rfl
  · skip
    have hc1p : (checkE conds ops) = 0 := by simpa using hc1
    refine awp_skip ?_
    refine peel_seq ?_
    refine awp_seq ?_
    refine awp_seq ?_
    refine awp_region_keep tab_ok boxes [(1, ⟨[], (sc (.int .i64 (List.length conds : Int))), none⟩)] [0, 1, 3, 8, 9, 27, 28, 29] [6000] ⟨99, [(0, (.t (.c (.loc 6000 0)))), (1, (sc (.int .i64 p))), (3, (.t (.c (.d (.sl (List.map encOp ops)))))), (8, (sc (.slice none 0 0))), (9, (sc (.int .i64 0))), (27, (.t (.c (.d (.sl (List.map encOp conds)))))), (28, (sc (.int .i64 (List.length conds : Int)))), (29, (sc (.int .i64 0)))], [(6000, (.cells 62 [(.d (.sl (List.map encOp l)))]))], [6000]⟩ [⟨(Go.Op.call (Go.Call.mk (Go.Callee.builtin Go.Builtin.len) #[(Go.Operand.tmp 27)] #[23])), 3, [(.t (.c (.d (.sl (List.map encOp conds)))))], [], (sc (.int .i64 (List.length conds : Int))), []⟩] mixed (by kernel_rfl) ⟨tri_len_map tab_ok rfl, trivial⟩ ?_
    refine peel_seq ?_
    refine awp_block ?_
    refine awp_len 27 rfl (fun hlen2 => ?_)
    refine awp_loopP (ι := Nat) (fun x => ⟨99, [(0, (.t (.c (.loc 6000 0)))), (1, (sc (.int .i64 p))), (3, (.t (.c (.d (.sl (List.map encOp ops)))))), (8, (sc (.slice none 0 0))), (9, (sc (.int .i64 0))), (27, (.t (.c (.d (.sl (List.map encOp conds)))))), (28, (sc (.int .i64 (List.length conds : Int)))), (29, (sc (.int .i64 (x : Int))))], [(6000, (.cells 62 [(.d (.sl (List.map encOp l)))]))], [6000]⟩) (fun x => x ≤ List.length conds ∧ (True) ∧ rcondsF l (List.drop x conds) = rcondsF l conds) (fun x => List.length conds - x) (0) rfl ⟨Nat.zero_le _, trivial, rfl⟩ ?_
    rintro k3 ⟨hk4, hx5, hJ6⟩
    try simp only at hk4 hx5 hJ6
    refine awp_seq ?_
    refine awp_region_keep tab_ok boxes [] [0, 1, 3, 8, 9, 27, 28, 29, 30] [6000] ⟨99, [(0, (.t (.c (.loc 6000 0)))), (1, (sc (.int .i64 p))), (3, (.t (.c (.d (.sl (List.map encOp ops)))))), (8, (sc (.slice none 0 0))), (9, (sc (.int .i64 0))), (27, (.t (.c (.d (.sl (List.map encOp conds)))))), (28, (sc (.int .i64 (List.length conds : Int)))), (29, (sc (.int .i64 (k3 : Int)))), (30, (sc (.bool (decide ((k3 : Int) < (List.length conds : Int))))))], [(6000, (.cells 62 [(.d (.sl (List.map encOp l)))]))], [6000]⟩ [] mixed (by kernel_rfl) trivial ?_
    refine peel_seq ?_
    refine awp_seq ?_
    refine awp_cond (b := (decide ((k3 : Int) < (List.length conds : Int)))) rfl (fun hc7 => ?_) (fun hc7 => ?_)
    · skip
      have hc7p := of_decide_eq_true hc7
      refine awp_skip ?_
      refine peel_seq ?_
      refine awp_seq ?_
      refine awp_block ?_
      refine awp_seq ?_
      obtain ⟨⟨key11, has12, val13⟩, ha9, hd10⟩ := at_drop (l := conds) (k := k3) (by (try simp only [List.length_map] at *); omega)
      refine awp_region_keep tab_ok boxes [(0, ⟨[], (.t (.c (.d (.ptr [(.v (.string key11)), (.v (.bool has12)), (.v (.string val13))])))), some []⟩)] [0, 1, 3, 8, 9, 12, 27, 28, 29] [12, 6000] ⟨99, [(0, (.t (.c (.loc 6000 0)))), (1, (sc (.int .i64 p))), (3, (.t (.c (.d (.sl (List.map encOp ops)))))), (8, (sc (.slice none 0 0))), (9, (sc (.int .i64 0))), (12, (.t (.c (.loc 12 0)))), (27, (.t (.c (.d (.sl (List.map encOp conds)))))), (28, (sc (.int .i64 (List.length conds : Int)))), (29, (sc (.int .i64 (k3 : Int))))], [(12, (.cells 35 [(.d (.v (.string key11))), (.d (.v (.bool has12))), (.d (.v (.string val13)))])), (6000, (.cells 62 [(.d (.sl (List.map encOp l)))]))], [6000]⟩ [⟨(Go.Op.indexAddr 23 (Go.Operand.tmp 27) (Go.Operand.tmp 29)), 0, [(.t (.c (.d (.sl (List.map encOp conds))))), (sc (.int .i64 (k3 : Int)))], [], (.t (.c (.d (.ptr [(.v (.string key11)), (.v (.bool has12)), (.v (.string val13))])))), []⟩] mixed (by kernel_rfl) ⟨tri_index_sl (e := 35) (sz := 3) (bytes := 40) (i := k3) tab_ok rfl (at_map encOp ha9) (all_map fun _ => rfl), trivial⟩ ?_
      refine peel_seq ?_
      refine awp_seq ?_
      refine awp_region_keep tab_ok boxes [(3, ⟨[6000], (.tup [(.c (.d (.v (.string (rgetF l key11).1)))), (.c (.d (.v (.bool (rgetF l key11).2))))]), none⟩)] [0, 1, 3, 8, 9, 12, 13, 14, 27, 28, 29] [12, 6000] ⟨99, [(0, (.t (.c (.loc 6000 0)))), (1, (sc (.int .i64 p))), (3, (.t (.c (.d (.sl (List.map encOp ops)))))), (8, (sc (.slice none 0 0))), (9, (sc (.int .i64 0))), (12, (.t (.c (.loc 12 0)))), (13, (sc (.string (rgetF l key11).1))), (14, (sc (.bool (rgetF l key11).2))), (27, (.t (.c (.d (.sl (List.map encOp conds)))))), (28, (sc (.int .i64 (List.length conds : Int)))), (29, (sc (.int .i64 (k3 : Int))))], [(12, (.cells 35 [(.d (.v (.string key11))), (.d (.v (.bool has12))), (.d (.v (.string val13)))])), (6000, (.cells 62 [(.d (.sl (List.map encOp l)))]))], [6000]⟩ [⟨(Go.Op.call (Go.Call.mk (Go.Callee.value (Go.Operand.func 31)) #[(Go.Operand.tmp 34), (Go.Operand.tmp 36)] #[60, 9])), 53, [(sc (.func (.func 31) #[] #[])), (.t (.c (.loc 6000 0))), (sc (.string key11))], [(6000, (.cells 62 [(.d (.sl (List.map encOp l)))]))], (.tup [(.c (.d (.v (.string (rgetF l key11).1)))), (.c (.d (.v (.bool (rgetF l key11).2))))]), [(6000, (.cells 62 [(.d (.sl (List.map encOp l)))]))]⟩] mixed (by kernel_rfl) ⟨tri_call (r_Get l key11), trivial⟩ ?_
      refine peel_seq ?_
      refine awp_seq ?_
      cases hb14 : ((rgetF l key11).2 == has12) with
      | false =>
        have hb14p : (rgetF l key11).2 ≠ has12 := by simpa using hb14
        refine awp_region_keep tab_ok boxes [(3, ⟨[], (sc (.bool true)), some []⟩)] [0, 1, 3, 8, 9, 27, 28, 29, 49] [6000] ⟨99, [(0, (.t (.c (.loc 6000 0)))), (1, (sc (.int .i64 p))), (3, (.t (.c (.d (.sl (List.map encOp ops)))))), (8, (sc (.slice none 0 0))), (9, (sc (.int .i64 0))), (27, (.t (.c (.d (.sl (List.map encOp conds)))))), (28, (sc (.int .i64 (List.length conds : Int)))), (29, (sc (.int .i64 (k3 : Int)))), (49, (sc (.bool true)))], [(6000, (.cells 62 [(.d (.sl (List.map encOp l)))]))], [6000]⟩ [⟨(Go.Op.binOp Go.BinOp.neq 4 (Go.Operand.tmp 40) (Go.Operand.tmp 42) 4), 4, [(sc (.bool (rgetF l key11).2)), (sc (.bool has12))], [], (sc (.bool true)), []⟩] mixed (by kernel_rfl) ⟨tri_scalar_eq [(.bool (rgetF l key11).2), (.bool has12)] (.bool (!((rgetF l key11).2 == has12))) rfl rfl rfl (by kernel_rfl) (congrArg Value.bool (show (!((rgetF l key11).2 == has12)) = true from by rw [hb14]; rfl)), trivial⟩ ?_
        refine peel_seq ?_
        refine awp_true rfl ?_
        refine awp_seq ?_
        refine awp_region_keep tab_ok boxes [] [0, 1, 3, 8, 9, 27, 28, 29] [6000] ⟨99, [(0, (.t (.c (.loc 6000 0)))), (1, (sc (.int .i64 p))), (3, (.t (.c (.d (.sl (List.map encOp ops)))))), (8, (sc (.slice none 0 0))), (9, (sc (.int .i64 60))), (27, (.t (.c (.d (.sl (List.map encOp conds)))))), (28, (sc (.int .i64 (List.length conds : Int)))), (29, (sc (.int .i64 (k3 : Int))))], [(6000, (.cells 62 [(.d (.sl (List.map encOp l)))]))], [6000]⟩ [] mixed (by kernel_rfl) trivial ?_
        refine peel_seq ?_
        refine awp_mv [.own 8 908 0 0 0, .fz 908] ⟨99, [(8, (.t (.c (.d (.sl []))))), (0, (.t (.c (.loc 6000 0)))), (1, (sc (.int .i64 p))), (3, (.t (.c (.d (.sl (List.map encOp ops)))))), (9, (sc (.int .i64 60))), (27, (.t (.c (.d (.sl (List.map encOp conds)))))), (28, (sc (.int .i64 (List.length conds : Int)))), (29, (sc (.int .i64 (k3 : Int))))], [(6000, (.cells 62 [(.d (.sl (List.map encOp l)))]))], [6000]⟩ rfl ?_
        have hE15 := hJ6
        rw [hd10] at hE15
        simp only [rcondsF, hb14, hc1, hc7, cond_true, cond_false, Bool.not_true, Bool.not_false] at hE15
        refine awp_ret ?_
        refine peel_block_ret ?_
        refine peel_seq_ret ?_
        refine peel_seq_ret ?_
        refine peel_block_ret ?_
        refine peel_seq_ret ?_
        exact ends_ret rfl (show some ((.tup [(.c (.d (.sl []))), (.c (.d (.v (.int .i64 60))))]) : SV) = some ((.tup [(.c (.d (.sl (List.map encEv ((rplanM l p conds ops).1))))), (.c (.d (.v (.int .i64 (rplanM l p conds ops).2))))]) : SV) from by first | rfl | ((try simp only [cond_true, cond_false, Bool.not_true, Bool.not_false] at hE15); (first | (simp only [hb14, hc1, hc7, ← hE15, cond_true, cond_false, Bool.not_true, Bool.not_false, List.map_nil]; done) | (simp only [rplanM, hb14, hc1, hc7, ← hE15, cond_true, cond_false, Bool.not_true, Bool.not_false, List.map_nil])))) rfl
      | true =>
        have hb14p : (rgetF l key11).2 = has12 := by simpa using hb14
        refine awp_region_keep tab_ok boxes [(3, ⟨[], (sc (.bool false)), some []⟩), (8, ⟨[], (sc (.bool (!(eqS (rgetF l key11).1 val13)))), some []⟩)] [0, 1, 3, 8, 9, 27, 28, 29, 49] [6000] ⟨99, [(0, (.t (.c (.loc 6000 0)))), (1, (sc (.int .i64 p))), (3, (.t (.c (.d (.sl (List.map encOp ops)))))), (8, (sc (.slice none 0 0))), (9, (sc (.int .i64 0))), (27, (.t (.c (.d (.sl (List.map encOp conds)))))), (28, (sc (.int .i64 (List.length conds : Int)))), (29, (sc (.int .i64 (k3 : Int)))), (49, (sc (.bool (!(eqS (rgetF l key11).1 val13)))))], [(6000, (.cells 62 [(.d (.sl (List.map encOp l)))]))], [6000]⟩ [⟨(Go.Op.binOp Go.BinOp.neq 4 (Go.Operand.tmp 40) (Go.Operand.tmp 42) 4), 4, [(sc (.bool (rgetF l key11).2)), (sc (.bool has12))], [], (sc (.bool false)), []⟩, ⟨(Go.Op.binOp Go.BinOp.neq 9 (Go.Operand.tmp 45) (Go.Operand.tmp 47) 9), 4, [(sc (.string (rgetF l key11).1)), (sc (.string val13))], [], (sc (.bool (!(eqS (rgetF l key11).1 val13)))), []⟩] mixed (by kernel_rfl) ⟨tri_scalar_eq [(.bool (rgetF l key11).2), (.bool has12)] (.bool (!((rgetF l key11).2 == has12))) rfl rfl rfl (by kernel_rfl) (congrArg Value.bool (show (!((rgetF l key11).2 == has12)) = false from by rw [hb14]; rfl)), tri_str_neq, trivial⟩ ?_
        refine peel_seq ?_
        refine awp_cond (b := (!(eqS (rgetF l key11).1 val13))) rfl (fun hc16 => ?_) (fun hc16 => ?_)
        · skip
          have hc16n : (eqS (rgetF l key11).1 val13) = false := by simpa using hc16
          have hc16np := eqS_false hc16n
          refine awp_seq ?_
          refine awp_region_keep tab_ok boxes [] [0, 1, 3, 8, 9, 27, 28, 29] [6000] ⟨99, [(0, (.t (.c (.loc 6000 0)))), (1, (sc (.int .i64 p))), (3, (.t (.c (.d (.sl (List.map encOp ops)))))), (8, (sc (.slice none 0 0))), (9, (sc (.int .i64 60))), (27, (.t (.c (.d (.sl (List.map encOp conds)))))), (28, (sc (.int .i64 (List.length conds : Int)))), (29, (sc (.int .i64 (k3 : Int))))], [(6000, (.cells 62 [(.d (.sl (List.map encOp l)))]))], [6000]⟩ [] mixed (by kernel_rfl) trivial ?_
          refine peel_seq ?_
          refine awp_mv [.own 8 908 0 0 0, .fz 908] ⟨99, [(8, (.t (.c (.d (.sl []))))), (0, (.t (.c (.loc 6000 0)))), (1, (sc (.int .i64 p))), (3, (.t (.c (.d (.sl (List.map encOp ops)))))), (9, (sc (.int .i64 60))), (27, (.t (.c (.d (.sl (List.map encOp conds)))))), (28, (sc (.int .i64 (List.length conds : Int)))), (29, (sc (.int .i64 (k3 : Int))))], [(6000, (.cells 62 [(.d (.sl (List.map encOp l)))]))], [6000]⟩ rfl ?_
          have hE17 := hJ6
          rw [hd10] at hE17
          simp only [rcondsF, hb14, hc1, hc16, hc16n, hc7, cond_true, cond_false, Bool.not_true, Bool.not_false] at hE17
          refine awp_ret ?_
          refine peel_block_ret ?_
          refine peel_seq_ret ?_
          refine peel_seq_ret ?_
          refine peel_block_ret ?_
          refine peel_seq_ret ?_
          exact ends_ret rfl (show some ((.tup [(.c (.d (.sl []))), (.c (.d (.v (.int .i64 60))))]) : SV) = some ((.tup [(.c (.d (.sl (List.map encEv ((rplanM l p conds ops).1))))), (.c (.d (.v (.int .i64 (rplanM l p conds ops).2))))]) : SV) from by first | rfl | ((try simp only [cond_true, cond_false, Bool.not_true, Bool.not_false] at hE17); (first | (simp only [hb14, hc1, hc16, hc16n, hc7, ← hE17, cond_true, cond_false, Bool.not_true, Bool.not_false, List.map_nil]; done) | (simp only [rplanM, hb14, hc1, hc16, hc16n, hc7, ← hE17, cond_true, cond_false, Bool.not_true, Bool.not_false, List.map_nil])))) rfl
        · skip
          have hc16n : (eqS (rgetF l key11).1 val13) = true := by simpa using hc16
          have hc16np := eqS_true hc16n
          refine q_keep [0, 1, 3, 8, 9, 27, 28, 29] [6000] ?_
          refine awp_skip ?_
          refine peel_block ?_
          refine peel_seq ?_
          refine awp_region_keep tab_ok boxes [(0, ⟨[], (sc (.int .i64 ((k3 : Int) + 1))), some []⟩)] [0, 1, 3, 8, 9, 27, 28, 29] [6000] ⟨99, [(0, (.t (.c (.loc 6000 0)))), (1, (sc (.int .i64 p))), (3, (.t (.c (.d (.sl (List.map encOp ops)))))), (8, (sc (.slice none 0 0))), (9, (sc (.int .i64 0))), (27, (.t (.c (.d (.sl (List.map encOp conds)))))), (28, (sc (.int .i64 (List.length conds : Int)))), (29, (sc (.int .i64 ((k3 : Int) + 1))))], [(6000, (.cells 62 [(.d (.sl (List.map encOp l)))]))], [6000]⟩ [⟨(Go.Op.binOp Go.BinOp.add 3 (Go.Operand.tmp 29) (Go.Operand.const (Go.Value.int Go.IntKind.i64 1)) 3), 3, [(sc (.int .i64 (k3 : Int))), (sc (.int .i64 1))], [], (sc (.int .i64 ((k3 : Int) + 1))), []⟩] mixed (by kernel_rfl) ⟨tri_int ((k3 : Int) + 1) (wrap_i64 (by omega)), trivial⟩ ?_
          exact peel_round (k3 + 1) rfl ⟨by (try simp only [List.length_map] at *); omega, trivial, by have hj := hJ6; rw [hd10] at hj; simp only [rcondsF, hb14, hc1, hc16, hc16n, hc7, cond_true, cond_false, Bool.not_true, Bool.not_false] at hj ⊢; exact hj⟩ (by (try simp only [List.length_map] at *); omega)
    · skip
      have hc7p := of_decide_eq_false hc7
      have hE18 := hJ6
      rw [at_end (l := conds) (by (try simp only [List.length_map] at *); omega)] at hE18
      simp only [rcondsF, hc1, hc7, cond_true, cond_false, Bool.not_true, Bool.not_false] at hE18
      refine awp_exit ?_
      refine peel_seq_exit ?_
      refine peel_seq_exit ?_
      refine peel_hit ?_
      refine peel_seq ?_
      refine awp_seq ?_
      refine awp_region_keep tab_ok boxes [] [0, 1, 3, 8, 9, 15] [6000] ⟨99, [(0, (.t (.c (.loc 6000 0)))), (1, (sc (.int .i64 p))), (3, (.t (.c (.d (.sl (List.map encOp ops)))))), (8, (sc (.slice none 0 0))), (9, (sc (.int .i64 0))), (15, (sc (.slice none 0 0)))], [(6000, (.cells 62 [(.d (.sl (List.map encOp l)))]))], [6000]⟩ [] mixed (by kernel_rfl) trivial ?_
      refine peel_seq ?_
      refine awp_seq ?_
      refine awp_region_keep tab_ok boxes [] [0, 1, 3, 8, 9, 15, 16] [6000] ⟨99, [(0, (.t (.c (.loc 6000 0)))), (1, (sc (.int .i64 p))), (3, (.t (.c (.d (.sl (List.map encOp ops)))))), (8, (sc (.slice none 0 0))), (9, (sc (.int .i64 0))), (15, (sc (.slice none 0 0))), (16, (.t (.c (.d (.sl (List.map encOp l))))))], [(6000, (.cells 62 [(.d (.sl (List.map encOp l)))]))], [6000]⟩ [] mixed (by kernel_rfl) trivial ?_
      refine peel_seq ?_
      refine awp_seq ?_
      refine awp_seq ?_
      refine awp_region_keep tab_ok boxes [(1, ⟨[], (sc (.int .i64 (List.length ops : Int))), none⟩)] [0, 1, 8, 9, 15, 16, 55, 56, 57] [6000] ⟨99, [(0, (.t (.c (.loc 6000 0)))), (1, (sc (.int .i64 p))), (8, (sc (.slice none 0 0))), (9, (sc (.int .i64 0))), (15, (sc (.slice none 0 0))), (16, (.t (.c (.d (.sl (List.map encOp l)))))), (55, (.t (.c (.d (.sl (List.map encOp ops)))))), (56, (sc (.int .i64 (List.length ops : Int)))), (57, (sc (.int .i64 0)))], [(6000, (.cells 62 [(.d (.sl (List.map encOp l)))]))], [6000]⟩ [⟨(Go.Op.call (Go.Call.mk (Go.Callee.builtin Go.Builtin.len) #[(Go.Operand.tmp 55)] #[23])), 3, [(.t (.c (.d (.sl (List.map encOp ops)))))], [], (sc (.int .i64 (List.length ops : Int))), []⟩] mixed (by kernel_rfl) ⟨tri_len_map tab_ok rfl, trivial⟩ ?_
      refine peel_seq ?_
      refine awp_block ?_
      refine awp_mv [.own 15 1015 44 6 72] ⟨99, [(15, (.t (.c (.own 1015)))), (0, (.t (.c (.loc 6000 0)))), (1, (sc (.int .i64 p))), (8, (sc (.slice none 0 0))), (9, (sc (.int .i64 0))), (16, (.t (.c (.d (.sl (List.map encOp l)))))), (55, (.t (.c (.d (.sl (List.map encOp ops)))))), (56, (sc (.int .i64 (List.length ops : Int)))), (57, (sc (.int .i64 0)))], [(1015, (.arr 44 6 72 [])), (6000, (.cells 62 [(.d (.sl (List.map encOp l)))]))], [6000]⟩ rfl ?_
      refine q_keep [0, 1, 8, 9, 15, 16, 55, 56, 57] [1015, 6000] ?_
      refine awp_len 55 rfl (fun hlen19 => ?_)
      have hl6 := checkE_len hc1
      refine awp_loopP (ι := Nat × (List AEv) × (List AOp)) (fun x => ⟨99, [(0, (.t (.c (.loc 6000 0)))), (1, (sc (.int .i64 p))), (8, (sc (.slice none 0 0))), (9, (sc (.int .i64 0))), (15, (.t (.c (.own 1015)))), (16, (.t (.c (.d (.sl (List.map encOp x.2.2)))))), (55, (.t (.c (.d (.sl (List.map encOp ops)))))), (56, (sc (.int .i64 (List.length ops : Int)))), (57, (sc (.int .i64 (x.1 : Int))))], [(1015, (.arr 44 6 72 (List.map encEv x.2.1))), (6000, (.cells 62 [(.d (.sl (List.map encOp l)))]))], [6000]⟩) (fun x => x.1 ≤ List.length ops ∧ (List.length x.2.1 ≤ x.1 ∧ List.length x.2.2 ≤ List.length l + x.1) ∧ rplanF l p (List.drop x.1 ops) x.2.1 x.2.2 = rplanF l p ops [] l) (fun x => List.length ops - x.1) (0, [], l) rfl ⟨Nat.zero_le _, ⟨by simp, by simp⟩, rfl⟩ ?_
      rintro ⟨k20, a21, b22⟩ ⟨hk23, hx24, hJ25⟩
      try simp only at hk23 hx24 hJ25
      refine awp_seq ?_
      refine awp_region_keep tab_ok boxes [] [0, 1, 8, 9, 15, 16, 55, 56, 57, 58] [1015, 6000] ⟨99, [(0, (.t (.c (.loc 6000 0)))), (1, (sc (.int .i64 p))), (8, (sc (.slice none 0 0))), (9, (sc (.int .i64 0))), (15, (.t (.c (.own 1015)))), (16, (.t (.c (.d (.sl (List.map encOp b22)))))), (55, (.t (.c (.d (.sl (List.map encOp ops)))))), (56, (sc (.int .i64 (List.length ops : Int)))), (57, (sc (.int .i64 (k20 : Int)))), (58, (sc (.bool (decide ((k20 : Int) < (List.length ops : Int))))))], [(1015, (.arr 44 6 72 (List.map encEv a21))), (6000, (.cells 62 [(.d (.sl (List.map encOp l)))]))], [6000]⟩ [] mixed (by kernel_rfl) trivial ?_
      refine peel_seq ?_
      refine awp_seq ?_
      refine awp_cond (b := (decide ((k20 : Int) < (List.length ops : Int)))) rfl (fun hc26 => ?_) (fun hc26 => ?_)
      · skip
        have hc26p := of_decide_eq_true hc26
        refine awp_skip ?_
        refine peel_seq ?_
        refine awp_seq ?_
        refine awp_block ?_
        refine awp_seq ?_
        obtain ⟨⟨key30, has31, val32⟩, ha28, hd29⟩ := at_drop (l := ops) (k := k20) (by (try simp only [List.length_map] at *); omega)
        refine awp_region_keep tab_ok boxes [(0, ⟨[], (.t (.c (.d (.ptr [(.v (.string key30)), (.v (.bool has31)), (.v (.string val32))])))), some []⟩)] [0, 1, 8, 9, 15, 16, 18, 55, 56, 57] [18, 1015, 6000] ⟨99, [(0, (.t (.c (.loc 6000 0)))), (1, (sc (.int .i64 p))), (8, (sc (.slice none 0 0))), (9, (sc (.int .i64 0))), (15, (.t (.c (.own 1015)))), (16, (.t (.c (.d (.sl (List.map encOp b22)))))), (18, (.t (.c (.loc 18 0)))), (55, (.t (.c (.d (.sl (List.map encOp ops)))))), (56, (sc (.int .i64 (List.length ops : Int)))), (57, (sc (.int .i64 (k20 : Int))))], [(18, (.cells 35 [(.d (.v (.string key30))), (.d (.v (.bool has31))), (.d (.v (.string val32)))])), (1015, (.arr 44 6 72 (List.map encEv a21))), (6000, (.cells 62 [(.d (.sl (List.map encOp l)))]))], [6000]⟩ [⟨(Go.Op.indexAddr 23 (Go.Operand.tmp 55) (Go.Operand.tmp 57)), 0, [(.t (.c (.d (.sl (List.map encOp ops))))), (sc (.int .i64 (k20 : Int)))], [], (.t (.c (.d (.ptr [(.v (.string key30)), (.v (.bool has31)), (.v (.string val32))])))), []⟩] mixed (by kernel_rfl) ⟨tri_index_sl (e := 35) (sz := 3) (bytes := 40) (i := k20) tab_ok rfl (at_map encOp ha28) (all_map fun _ => rfl), trivial⟩ ?_
        refine peel_seq ?_
        refine awp_seq ?_
        refine awp_region_keep tab_ok boxes [(3, ⟨[6000], (.tup [(.c (.d (.v (.string (rgetF l key30).1)))), (.c (.d (.v (.bool (rgetF l key30).2))))]), none⟩)] [0, 1, 8, 9, 15, 16, 18, 19, 20, 55, 56, 57] [18, 1015, 6000] ⟨99, [(0, (.t (.c (.loc 6000 0)))), (1, (sc (.int .i64 p))), (8, (sc (.slice none 0 0))), (9, (sc (.int .i64 0))), (15, (.t (.c (.own 1015)))), (16, (.t (.c (.d (.sl (List.map encOp b22)))))), (18, (.t (.c (.loc 18 0)))), (19, (sc (.string (rgetF l key30).1))), (20, (sc (.bool (rgetF l key30).2))), (55, (.t (.c (.d (.sl (List.map encOp ops)))))), (56, (sc (.int .i64 (List.length ops : Int)))), (57, (sc (.int .i64 (k20 : Int))))], [(18, (.cells 35 [(.d (.v (.string key30))), (.d (.v (.bool has31))), (.d (.v (.string val32)))])), (1015, (.arr 44 6 72 (List.map encEv a21))), (6000, (.cells 62 [(.d (.sl (List.map encOp l)))]))], [6000]⟩ [⟨(Go.Op.call (Go.Call.mk (Go.Callee.value (Go.Operand.func 31)) #[(Go.Operand.tmp 62), (Go.Operand.tmp 64)] #[60, 9])), 53, [(sc (.func (.func 31) #[] #[])), (.t (.c (.loc 6000 0))), (sc (.string key30))], [(6000, (.cells 62 [(.d (.sl (List.map encOp l)))]))], (.tup [(.c (.d (.v (.string (rgetF l key30).1)))), (.c (.d (.v (.bool (rgetF l key30).2))))]), [(6000, (.cells 62 [(.d (.sl (List.map encOp l)))]))]⟩] mixed (by kernel_rfl) ⟨tri_call (r_Get l key30), trivial⟩ ?_
        refine peel_seq ?_
        refine awp_seq ?_
        refine awp_seq ?_
        cases hb33 : ((rgetF l key30).2 == has31) with
        | false =>
          have hb33p : (rgetF l key30).2 ≠ has31 := by simpa using hb33
          refine awp_region_keep tab_ok boxes [(3, ⟨[], (sc (.bool true)), some []⟩)] [0, 1, 8, 9, 15, 16, 18, 19, 20, 55, 56, 57, 77] [18, 1015, 6000] ⟨99, [(0, (.t (.c (.loc 6000 0)))), (1, (sc (.int .i64 p))), (8, (sc (.slice none 0 0))), (9, (sc (.int .i64 0))), (15, (.t (.c (.own 1015)))), (16, (.t (.c (.d (.sl (List.map encOp b22)))))), (18, (.t (.c (.loc 18 0)))), (19, (sc (.string (rgetF l key30).1))), (20, (sc (.bool (rgetF l key30).2))), (55, (.t (.c (.d (.sl (List.map encOp ops)))))), (56, (sc (.int .i64 (List.length ops : Int)))), (57, (sc (.int .i64 (k20 : Int)))), (77, (sc (.bool true)))], [(18, (.cells 35 [(.d (.v (.string key30))), (.d (.v (.bool has31))), (.d (.v (.string val32)))])), (1015, (.arr 44 6 72 (List.map encEv a21))), (6000, (.cells 62 [(.d (.sl (List.map encOp l)))]))], [6000]⟩ [⟨(Go.Op.binOp Go.BinOp.neq 4 (Go.Operand.tmp 68) (Go.Operand.tmp 70) 4), 4, [(sc (.bool (rgetF l key30).2)), (sc (.bool has31))], [], (sc (.bool true)), []⟩] mixed (by kernel_rfl) ⟨tri_scalar_eq [(.bool (rgetF l key30).2), (.bool has31)] (.bool (!((rgetF l key30).2 == has31))) rfl rfl rfl (by kernel_rfl) (congrArg Value.bool (show (!((rgetF l key30).2 == has31)) = true from by rw [hb33]; rfl)), trivial⟩ ?_
          refine peel_seq ?_
          refine awp_true rfl ?_
          refine awp_then [.sw 90 1015] ?_
          refine awp_region_keep tab_ok boxes [(11, ⟨[], (.t (.c (.d (.sl (List.map encEv ([(AEv.mk p key30 ((rgetF l key30).2) ((rgetF l key30).1) has31 val32)])))))), some []⟩), (12, ⟨[1015], (.t (.c (.own 90))), some [(90, (.arr 44 6 72 (List.map encEv (a21 ++ [(AEv.mk p key30 ((rgetF l key30).2) ((rgetF l key30).1) has31 val32)]))))]⟩)] [0, 1, 8, 9, 15, 16, 18, 55, 56, 57] [18, 90, 6000] ⟨99, [(0, (.t (.c (.loc 6000 0)))), (1, (sc (.int .i64 p))), (8, (sc (.slice none 0 0))), (9, (sc (.int .i64 0))), (15, (.t (.c (.own 90)))), (16, (.t (.c (.d (.sl (List.map encOp b22)))))), (18, (.t (.c (.loc 18 0)))), (55, (.t (.c (.d (.sl (List.map encOp ops)))))), (56, (sc (.int .i64 (List.length ops : Int)))), (57, (sc (.int .i64 (k20 : Int))))], [(18, (.cells 35 [(.d (.v (.string key30))), (.d (.v (.bool has31))), (.d (.v (.string val32)))])), (90, (.arr 44 6 72 (List.map encEv (a21 ++ [(AEv.mk p key30 ((rgetF l key30).2) ((rgetF l key30).1) has31 val32)])))), (6000, (.cells 62 [(.d (.sl (List.map encOp l)))]))], [6000]⟩ [⟨(Go.Op.buildSlice 29 1 #[(0, (Go.Operand.tmp 88))]), 29, [(.t (.agg [(.d (.v (.int .i64 p))), (.d (.v (.string key30))), (.d (.v (.bool (rgetF l key30).2))), (.d (.v (.string (rgetF l key30).1))), (.d (.v (.bool has31))), (.d (.v (.string val32)))]))], [], (.t (.c (.d (.sl (List.map encEv ([(AEv.mk p key30 ((rgetF l key30).2) ((rgetF l key30).1) has31 val32)])))))), []⟩, ⟨(Go.Op.call (Go.Call.mk (Go.Callee.builtin Go.Builtin.append) #[(Go.Operand.tmp 78), (Go.Operand.tmp 89)] #[29, 29])), 29, [(.t (.c (.own 1015))), (.t (.c (.d (.sl (List.map encEv ([(AEv.mk p key30 ((rgetF l key30).2) ((rgetF l key30).1) has31 val32)]))))))], [(1015, (.arr 44 6 72 (List.map encEv a21)))], (.t (.c (.own 90))), [(90, (.arr 44 6 72 (List.map encEv (a21 ++ [(AEv.mk p key30 ((rgetF l key30).2) ((rgetF l key30).1) has31 val32)]))))]⟩] mixed (by kernel_rfl) ⟨tri_slice_data (e := 44) (sz := 6) (bytes := 72) tab_ok (by kernel_rfl) rfl, tri_to (tri_append_sl (ex := 44) (bytes := 72) tab_ok rfl rfl rfl (all_map fun _ => rfl) (by (try simp only [List.length_map, List.length_append, List.length_cons, List.length_nil] at *); omega)) (by simp [encEv]), trivial⟩ ?_
          refine then_mv ⟨99, [(0, (.t (.c (.loc 6000 0)))), (1, (sc (.int .i64 p))), (8, (sc (.slice none 0 0))), (9, (sc (.int .i64 0))), (15, (.t (.c (.own 1015)))), (16, (.t (.c (.d (.sl (List.map encOp b22)))))), (18, (.t (.c (.loc 18 0)))), (55, (.t (.c (.d (.sl (List.map encOp ops)))))), (56, (sc (.int .i64 (List.length ops : Int)))), (57, (sc (.int .i64 (k20 : Int))))], [(18, (.cells 35 [(.d (.v (.string key30))), (.d (.v (.bool has31))), (.d (.v (.string val32)))])), (1015, (.arr 44 6 72 (List.map encEv (a21 ++ [(AEv.mk p key30 ((rgetF l key30).2) ((rgetF l key30).1) has31 val32)])))), (6000, (.cells 62 [(.d (.sl (List.map encOp l)))]))], [6000]⟩ rfl ?_
          refine peel_seq ?_
          refine awp_region_keep tab_ok boxes [(2, ⟨[], (.t (.c (.d (.sl (List.map encOp (rput b22 (AOp.mk key30 has31 val32))))))), some []⟩)] [0, 1, 8, 9, 15, 16, 55, 56, 57] [1015, 6000] ⟨99, [(0, (.t (.c (.loc 6000 0)))), (1, (sc (.int .i64 p))), (8, (sc (.slice none 0 0))), (9, (sc (.int .i64 0))), (15, (.t (.c (.own 1015)))), (16, (.t (.c (.d (.sl (List.map encOp (rput b22 (AOp.mk key30 has31 val32)))))))), (55, (.t (.c (.d (.sl (List.map encOp ops)))))), (56, (sc (.int .i64 (List.length ops : Int)))), (57, (sc (.int .i64 (k20 : Int))))], [(1015, (.arr 44 6 72 (List.map encEv (a21 ++ [(AEv.mk p key30 ((rgetF l key30).2) ((rgetF l key30).1) has31 val32)])))), (6000, (.cells 62 [(.d (.sl (List.map encOp l)))]))], [6000]⟩ [⟨(Go.Op.call (Go.Call.mk (Go.Callee.value (Go.Operand.func 53)) #[(Go.Operand.tmp 91), (Go.Operand.tmp 92)] #[23, 35])), 23, [(sc (.func (.func 53) #[] #[])), (.t (.c (.d (.sl (List.map encOp b22))))), (.t (.agg [(.d (.v (.string key30))), (.d (.v (.bool has31))), (.d (.v (.string val32)))]))], [], (.t (.c (.d (.sl (List.map encOp (rput b22 (AOp.mk key30 has31 val32))))))), []⟩] mixed (by kernel_rfl) ⟨tri_call (r_put b22 (AOp.mk key30 has31 val32) (by omega)), trivial⟩ ?_
          refine peel_block ?_
          refine peel_seq ?_
          refine awp_region_keep tab_ok boxes [(0, ⟨[], (sc (.int .i64 ((k20 : Int) + 1))), some []⟩)] [0, 1, 8, 9, 15, 16, 55, 56, 57] [1015, 6000] ⟨99, [(0, (.t (.c (.loc 6000 0)))), (1, (sc (.int .i64 p))), (8, (sc (.slice none 0 0))), (9, (sc (.int .i64 0))), (15, (.t (.c (.own 1015)))), (16, (.t (.c (.d (.sl (List.map encOp (rput b22 (AOp.mk key30 has31 val32)))))))), (55, (.t (.c (.d (.sl (List.map encOp ops)))))), (56, (sc (.int .i64 (List.length ops : Int)))), (57, (sc (.int .i64 ((k20 : Int) + 1))))], [(1015, (.arr 44 6 72 (List.map encEv (a21 ++ [(AEv.mk p key30 ((rgetF l key30).2) ((rgetF l key30).1) has31 val32)])))), (6000, (.cells 62 [(.d (.sl (List.map encOp l)))]))], [6000]⟩ [⟨(Go.Op.binOp Go.BinOp.add 3 (Go.Operand.tmp 57) (Go.Operand.const (Go.Value.int Go.IntKind.i64 1)) 3), 3, [(sc (.int .i64 (k20 : Int))), (sc (.int .i64 1))], [], (sc (.int .i64 ((k20 : Int) + 1))), []⟩] mixed (by kernel_rfl) ⟨tri_int ((k20 : Int) + 1) (wrap_i64 (by omega)), trivial⟩ ?_
          exact peel_round (k20 + 1, (a21 ++ [(AEv.mk p key30 ((rgetF l key30).2) ((rgetF l key30).1) has31 val32)]), (rput b22 (AOp.mk key30 has31 val32))) rfl ⟨by (try simp only [List.length_map] at *); omega, ⟨by (try simp only [List.length_append, List.length_cons, List.length_nil] at *); omega, by first | exact Nat.le_trans (rput_len ..) (by omega) | omega⟩, by have hj := hJ25; rw [hd29] at hj; simp only [rplanF, rdiff, revOf, hb33, hc1, hc26, hc7, cond_true, cond_false, Bool.not_true, Bool.not_false] at hj ⊢; exact hj⟩ (by (try simp only [List.length_map] at *); omega)
        | true =>
          have hb33p : (rgetF l key30).2 = has31 := by simpa using hb33
          refine awp_region_keep tab_ok boxes [(3, ⟨[], (sc (.bool false)), some []⟩), (8, ⟨[], (sc (.bool (!(eqS (rgetF l key30).1 val32)))), some []⟩)] [0, 1, 8, 9, 15, 16, 18, 19, 20, 55, 56, 57, 77] [18, 1015, 6000] ⟨99, [(0, (.t (.c (.loc 6000 0)))), (1, (sc (.int .i64 p))), (8, (sc (.slice none 0 0))), (9, (sc (.int .i64 0))), (15, (.t (.c (.own 1015)))), (16, (.t (.c (.d (.sl (List.map encOp b22)))))), (18, (.t (.c (.loc 18 0)))), (19, (sc (.string (rgetF l key30).1))), (20, (sc (.bool (rgetF l key30).2))), (55, (.t (.c (.d (.sl (List.map encOp ops)))))), (56, (sc (.int .i64 (List.length ops : Int)))), (57, (sc (.int .i64 (k20 : Int)))), (77, (sc (.bool (!(eqS (rgetF l key30).1 val32)))))], [(18, (.cells 35 [(.d (.v (.string key30))), (.d (.v (.bool has31))), (.d (.v (.string val32)))])), (1015, (.arr 44 6 72 (List.map encEv a21))), (6000, (.cells 62 [(.d (.sl (List.map encOp l)))]))], [6000]⟩ [⟨(Go.Op.binOp Go.BinOp.neq 4 (Go.Operand.tmp 68) (Go.Operand.tmp 70) 4), 4, [(sc (.bool (rgetF l key30).2)), (sc (.bool has31))], [], (sc (.bool false)), []⟩, ⟨(Go.Op.binOp Go.BinOp.neq 9 (Go.Operand.tmp 73) (Go.Operand.tmp 75) 9), 4, [(sc (.string (rgetF l key30).1)), (sc (.string val32))], [], (sc (.bool (!(eqS (rgetF l key30).1 val32)))), []⟩] mixed (by kernel_rfl) ⟨tri_scalar_eq [(.bool (rgetF l key30).2), (.bool has31)] (.bool (!((rgetF l key30).2 == has31))) rfl rfl rfl (by kernel_rfl) (congrArg Value.bool (show (!((rgetF l key30).2 == has31)) = false from by rw [hb33]; rfl)), tri_str_neq, trivial⟩ ?_
          refine peel_seq ?_
          refine awp_cond (b := (!(eqS (rgetF l key30).1 val32))) rfl (fun hc34 => ?_) (fun hc34 => ?_)
          · skip
            have hc34n : (eqS (rgetF l key30).1 val32) = false := by simpa using hc34
            have hc34np := eqS_false hc34n
            refine awp_then [.sw 90 1015] ?_
            refine awp_region_keep tab_ok boxes [(11, ⟨[], (.t (.c (.d (.sl (List.map encEv ([(AEv.mk p key30 ((rgetF l key30).2) ((rgetF l key30).1) has31 val32)])))))), some []⟩), (12, ⟨[1015], (.t (.c (.own 90))), some [(90, (.arr 44 6 72 (List.map encEv (a21 ++ [(AEv.mk p key30 ((rgetF l key30).2) ((rgetF l key30).1) has31 val32)]))))]⟩)] [0, 1, 8, 9, 15, 16, 18, 55, 56, 57] [18, 90, 6000] ⟨99, [(0, (.t (.c (.loc 6000 0)))), (1, (sc (.int .i64 p))), (8, (sc (.slice none 0 0))), (9, (sc (.int .i64 0))), (15, (.t (.c (.own 90)))), (16, (.t (.c (.d (.sl (List.map encOp b22)))))), (18, (.t (.c (.loc 18 0)))), (55, (.t (.c (.d (.sl (List.map encOp ops)))))), (56, (sc (.int .i64 (List.length ops : Int)))), (57, (sc (.int .i64 (k20 : Int))))], [(18, (.cells 35 [(.d (.v (.string key30))), (.d (.v (.bool has31))), (.d (.v (.string val32)))])), (90, (.arr 44 6 72 (List.map encEv (a21 ++ [(AEv.mk p key30 ((rgetF l key30).2) ((rgetF l key30).1) has31 val32)])))), (6000, (.cells 62 [(.d (.sl (List.map encOp l)))]))], [6000]⟩ [⟨(Go.Op.buildSlice 29 1 #[(0, (Go.Operand.tmp 88))]), 29, [(.t (.agg [(.d (.v (.int .i64 p))), (.d (.v (.string key30))), (.d (.v (.bool (rgetF l key30).2))), (.d (.v (.string (rgetF l key30).1))), (.d (.v (.bool has31))), (.d (.v (.string val32)))]))], [], (.t (.c (.d (.sl (List.map encEv ([(AEv.mk p key30 ((rgetF l key30).2) ((rgetF l key30).1) has31 val32)])))))), []⟩, ⟨(Go.Op.call (Go.Call.mk (Go.Callee.builtin Go.Builtin.append) #[(Go.Operand.tmp 78), (Go.Operand.tmp 89)] #[29, 29])), 29, [(.t (.c (.own 1015))), (.t (.c (.d (.sl (List.map encEv ([(AEv.mk p key30 ((rgetF l key30).2) ((rgetF l key30).1) has31 val32)]))))))], [(1015, (.arr 44 6 72 (List.map encEv a21)))], (.t (.c (.own 90))), [(90, (.arr 44 6 72 (List.map encEv (a21 ++ [(AEv.mk p key30 ((rgetF l key30).2) ((rgetF l key30).1) has31 val32)]))))]⟩] mixed (by kernel_rfl) ⟨tri_slice_data (e := 44) (sz := 6) (bytes := 72) tab_ok (by kernel_rfl) rfl, tri_to (tri_append_sl (ex := 44) (bytes := 72) tab_ok rfl rfl rfl (all_map fun _ => rfl) (by (try simp only [List.length_map, List.length_append, List.length_cons, List.length_nil] at *); omega)) (by simp [encEv]), trivial⟩ ?_
            refine then_mv ⟨99, [(0, (.t (.c (.loc 6000 0)))), (1, (sc (.int .i64 p))), (8, (sc (.slice none 0 0))), (9, (sc (.int .i64 0))), (15, (.t (.c (.own 1015)))), (16, (.t (.c (.d (.sl (List.map encOp b22)))))), (18, (.t (.c (.loc 18 0)))), (55, (.t (.c (.d (.sl (List.map encOp ops)))))), (56, (sc (.int .i64 (List.length ops : Int)))), (57, (sc (.int .i64 (k20 : Int))))], [(18, (.cells 35 [(.d (.v (.string key30))), (.d (.v (.bool has31))), (.d (.v (.string val32)))])), (1015, (.arr 44 6 72 (List.map encEv (a21 ++ [(AEv.mk p key30 ((rgetF l key30).2) ((rgetF l key30).1) has31 val32)])))), (6000, (.cells 62 [(.d (.sl (List.map encOp l)))]))], [6000]⟩ rfl ?_
            refine peel_seq ?_
            refine awp_region_keep tab_ok boxes [(2, ⟨[], (.t (.c (.d (.sl (List.map encOp (rput b22 (AOp.mk key30 has31 val32))))))), some []⟩)] [0, 1, 8, 9, 15, 16, 55, 56, 57] [1015, 6000] ⟨99, [(0, (.t (.c (.loc 6000 0)))), (1, (sc (.int .i64 p))), (8, (sc (.slice none 0 0))), (9, (sc (.int .i64 0))), (15, (.t (.c (.own 1015)))), (16, (.t (.c (.d (.sl (List.map encOp (rput b22 (AOp.mk key30 has31 val32)))))))), (55, (.t (.c (.d (.sl (List.map encOp ops)))))), (56, (sc (.int .i64 (List.length ops : Int)))), (57, (sc (.int .i64 (k20 : Int))))], [(1015, (.arr 44 6 72 (List.map encEv (a21 ++ [(AEv.mk p key30 ((rgetF l key30).2) ((rgetF l key30).1) has31 val32)])))), (6000, (.cells 62 [(.d (.sl (List.map encOp l)))]))], [6000]⟩ [⟨(Go.Op.call (Go.Call.mk (Go.Callee.value (Go.Operand.func 53)) #[(Go.Operand.tmp 91), (Go.Operand.tmp 92)] #[23, 35])), 23, [(sc (.func (.func 53) #[] #[])), (.t (.c (.d (.sl (List.map encOp b22))))), (.t (.agg [(.d (.v (.string key30))), (.d (.v (.bool has31))), (.d (.v (.string val32)))]))], [], (.t (.c (.d (.sl (List.map encOp (rput b22 (AOp.mk key30 has31 val32))))))), []⟩] mixed (by kernel_rfl) ⟨tri_call (r_put b22 (AOp.mk key30 has31 val32) (by omega)), trivial⟩ ?_
            refine peel_block ?_
            refine peel_seq ?_
            refine awp_region_keep tab_ok boxes [(0, ⟨[], (sc (.int .i64 ((k20 : Int) + 1))), some []⟩)] [0, 1, 8, 9, 15, 16, 55, 56, 57] [1015, 6000] ⟨99, [(0, (.t (.c (.loc 6000 0)))), (1, (sc (.int .i64 p))), (8, (sc (.slice none 0 0))), (9, (sc (.int .i64 0))), (15, (.t (.c (.own 1015)))), (16, (.t (.c (.d (.sl (List.map encOp (rput b22 (AOp.mk key30 has31 val32)))))))), (55, (.t (.c (.d (.sl (List.map encOp ops)))))), (56, (sc (.int .i64 (List.length ops : Int)))), (57, (sc (.int .i64 ((k20 : Int) + 1))))], [(1015, (.arr 44 6 72 (List.map encEv (a21 ++ [(AEv.mk p key30 ((rgetF l key30).2) ((rgetF l key30).1) has31 val32)])))), (6000, (.cells 62 [(.d (.sl (List.map encOp l)))]))], [6000]⟩ [⟨(Go.Op.binOp Go.BinOp.add 3 (Go.Operand.tmp 57) (Go.Operand.const (Go.Value.int Go.IntKind.i64 1)) 3), 3, [(sc (.int .i64 (k20 : Int))), (sc (.int .i64 1))], [], (sc (.int .i64 ((k20 : Int) + 1))), []⟩] mixed (by kernel_rfl) ⟨tri_int ((k20 : Int) + 1) (wrap_i64 (by omega)), trivial⟩ ?_
            exact peel_round (k20 + 1, (a21 ++ [(AEv.mk p key30 ((rgetF l key30).2) ((rgetF l key30).1) has31 val32)]), (rput b22 (AOp.mk key30 has31 val32))) rfl ⟨by (try simp only [List.length_map] at *); omega, ⟨by (try simp only [List.length_append, List.length_cons, List.length_nil] at *); omega, by first | exact Nat.le_trans (rput_len ..) (by omega) | omega⟩, by have hj := hJ25; rw [hd29] at hj; simp only [rplanF, rdiff, revOf, hb33, hc1, hc26, hc34, hc34n, hc7, cond_true, cond_false, Bool.not_true, Bool.not_false] at hj ⊢; exact hj⟩ (by (try simp only [List.length_map] at *); omega)
          · skip
            have hc34n : (eqS (rgetF l key30).1 val32) = true := by simpa using hc34
            have hc34np := eqS_true hc34n
            refine awp_skip ?_
            refine peel_seq ?_
            refine awp_region_keep tab_ok boxes [(2, ⟨[], (.t (.c (.d (.sl (List.map encOp (rput b22 (AOp.mk key30 has31 val32))))))), some []⟩)] [0, 1, 8, 9, 15, 16, 55, 56, 57] [1015, 6000] ⟨99, [(0, (.t (.c (.loc 6000 0)))), (1, (sc (.int .i64 p))), (8, (sc (.slice none 0 0))), (9, (sc (.int .i64 0))), (15, (.t (.c (.own 1015)))), (16, (.t (.c (.d (.sl (List.map encOp (rput b22 (AOp.mk key30 has31 val32)))))))), (55, (.t (.c (.d (.sl (List.map encOp ops)))))), (56, (sc (.int .i64 (List.length ops : Int)))), (57, (sc (.int .i64 (k20 : Int))))], [(1015, (.arr 44 6 72 (List.map encEv a21))), (6000, (.cells 62 [(.d (.sl (List.map encOp l)))]))], [6000]⟩ [⟨(Go.Op.call (Go.Call.mk (Go.Callee.value (Go.Operand.func 53)) #[(Go.Operand.tmp 91), (Go.Operand.tmp 92)] #[23, 35])), 23, [(sc (.func (.func 53) #[] #[])), (.t (.c (.d (.sl (List.map encOp b22))))), (.t (.agg [(.d (.v (.string key30))), (.d (.v (.bool has31))), (.d (.v (.string val32)))]))], [], (.t (.c (.d (.sl (List.map encOp (rput b22 (AOp.mk key30 has31 val32))))))), []⟩] mixed (by kernel_rfl) ⟨tri_call (r_put b22 (AOp.mk key30 has31 val32) (by omega)), trivial⟩ ?_
            refine peel_block ?_
            refine peel_seq ?_
            refine awp_region_keep tab_ok boxes [(0, ⟨[], (sc (.int .i64 ((k20 : Int) + 1))), some []⟩)] [0, 1, 8, 9, 15, 16, 55, 56, 57] [1015, 6000] ⟨99, [(0, (.t (.c (.loc 6000 0)))), (1, (sc (.int .i64 p))), (8, (sc (.slice none 0 0))), (9, (sc (.int .i64 0))), (15, (.t (.c (.own 1015)))), (16, (.t (.c (.d (.sl (List.map encOp (rput b22 (AOp.mk key30 has31 val32)))))))), (55, (.t (.c (.d (.sl (List.map encOp ops)))))), (56, (sc (.int .i64 (List.length ops : Int)))), (57, (sc (.int .i64 ((k20 : Int) + 1))))], [(1015, (.arr 44 6 72 (List.map encEv a21))), (6000, (.cells 62 [(.d (.sl (List.map encOp l)))]))], [6000]⟩ [⟨(Go.Op.binOp Go.BinOp.add 3 (Go.Operand.tmp 57) (Go.Operand.const (Go.Value.int Go.IntKind.i64 1)) 3), 3, [(sc (.int .i64 (k20 : Int))), (sc (.int .i64 1))], [], (sc (.int .i64 ((k20 : Int) + 1))), []⟩] mixed (by kernel_rfl) ⟨tri_int ((k20 : Int) + 1) (wrap_i64 (by omega)), trivial⟩ ?_
            exact peel_round (k20 + 1, a21, (rput b22 (AOp.mk key30 has31 val32))) rfl ⟨by (try simp only [List.length_map] at *); omega, ⟨by (try simp only [List.length_append, List.length_cons, List.length_nil] at *); omega, by first | exact Nat.le_trans (rput_len ..) (by omega) | omega⟩, by have hj := hJ25; rw [hd29] at hj; simp only [rplanF, rdiff, revOf, hb33, hc1, hc26, hc34, hc34n, hc7, cond_true, cond_false, Bool.not_true, Bool.not_false] at hj ⊢; exact hj⟩ (by (try simp only [List.length_map] at *); omega)
      · skip
        have hc26p := of_decide_eq_false hc26
        have hE35 := hJ25
        rw [at_end (l := ops) (by (try simp only [List.length_map] at *); omega)] at hE35
        simp only [rplanF, rdiff, revOf, hc1, hc26, hc7, cond_true, cond_false, Bool.not_true, Bool.not_false] at hE35
        refine awp_exit ?_
        refine peel_seq_exit ?_
        refine peel_seq_exit ?_
        refine peel_hit ?_
        refine peel_seq ?_
        refine awp_seq ?_
        refine awp_seq ?_
        refine awp_region_keep tab_ok boxes [(1, ⟨[], (sc (.int .i64 (List.length b22 : Int))), none⟩)] [8, 9, 15, 97] [1015, 6000] ⟨99, [(8, (sc (.slice none 0 0))), (9, (sc (.int .i64 0))), (15, (.t (.c (.own 1015)))), (97, (sc (.bool (decide ((List.length b22 : Int) > 24)))))], [(1015, (.arr 44 6 72 (List.map encEv a21))), (6000, (.cells 62 [(.d (.sl (List.map encOp l)))]))], [6000]⟩ [⟨(Go.Op.call (Go.Call.mk (Go.Callee.builtin Go.Builtin.len) #[(Go.Operand.tmp 95)] #[23])), 3, [(.t (.c (.d (.sl (List.map encOp b22)))))], [], (sc (.int .i64 (List.length b22 : Int))), []⟩] mixed (by kernel_rfl) ⟨tri_len_map tab_ok rfl, trivial⟩ ?_
        refine peel_seq ?_
        refine awp_cond (b := (decide ((List.length b22 : Int) > 24))) rfl (fun hc36 => ?_) (fun hc36 => ?_)
        · skip
          have hc36p := of_decide_eq_true hc36
          refine awp_seq ?_
          refine awp_region_keep tab_ok boxes [] [8, 9, 15] [1015, 6000] ⟨99, [(8, (sc (.slice none 0 0))), (9, (sc (.int .i64 7))), (15, (.t (.c (.own 1015))))], [(1015, (.arr 44 6 72 (List.map encEv a21))), (6000, (.cells 62 [(.d (.sl (List.map encOp l)))]))], [6000]⟩ [] mixed (by kernel_rfl) trivial ?_
          refine peel_seq ?_
          refine awp_mv [.own 8 908 0 0 0, .fz 908] ⟨99, [(8, (.t (.c (.d (.sl []))))), (9, (sc (.int .i64 7))), (15, (.t (.c (.own 1015))))], [(1015, (.arr 44 6 72 (List.map encEv a21))), (6000, (.cells 62 [(.d (.sl (List.map encOp l)))]))], [6000]⟩ rfl ?_
          refine awp_ret ?_
          refine peel_seq_ret ?_
          exact ends_ret rfl (show some ((.tup [(.c (.d (.sl []))), (.c (.d (.v (.int .i64 7))))]) : SV) = some ((.tup [(.c (.d (.sl (List.map encEv ((rplanM l p conds ops).1))))), (.c (.d (.v (.int .i64 (rplanM l p conds ops).2))))]) : SV) from by first | rfl | ((try simp only [cond_true, cond_false, Bool.not_true, Bool.not_false] at hE18 hE35); (first | (simp only [hc1, hc26, hc36, hc7, ← hE18, ← hE35, cond_true, cond_false, Bool.not_true, Bool.not_false, List.map_nil]; done) | (simp only [rplanM, hc1, hc26, hc36, hc7, ← hE18, ← hE35, cond_true, cond_false, Bool.not_true, Bool.not_false, List.map_nil])))) rfl
        · skip
          have hc36p := of_decide_eq_false hc36
          refine awp_skip ?_
          refine peel_seq ?_
          refine awp_seq ?_
          refine awp_region_keep tab_ok boxes [] [8, 9] [1015, 6000] ⟨99, [(8, (.t (.c (.own 1015)))), (9, (sc (.int .i64 0)))], [(1015, (.arr 44 6 72 (List.map encEv a21))), (6000, (.cells 62 [(.d (.sl (List.map encOp l)))]))], [6000]⟩ [] mixed (by kernel_rfl) trivial ?_
          refine peel_seq ?_
          refine awp_mv [.fz 1015] ⟨99, [(8, (.t (.c (.d (.sl (List.map encEv a21)))))), (9, (sc (.int .i64 0)))], [(6000, (.cells 62 [(.d (.sl (List.map encOp l)))]))], [6000]⟩ rfl ?_
          refine awp_ret ?_
          exact ends_ret rfl (show some ((.tup [(.c (.d (.sl (List.map encEv a21)))), (.c (.d (.v (.int .i64 0))))]) : SV) = some ((.tup [(.c (.d (.sl (List.map encEv ((rplanM l p conds ops).1))))), (.c (.d (.v (.int .i64 (rplanM l p conds ops).2))))]) : SV) from by first | rfl | ((try simp only [cond_true, cond_false, Bool.not_true, Bool.not_false] at hE18 hE35); (first | (simp only [hc1, hc26, hc36, hc7, ← hE18, ← hE35, cond_true, cond_false, Bool.not_true, Bool.not_false, List.map_nil]; done) | (simp only [rplanM, hc1, hc26, hc36, hc7, ← hE18, ← hE35, cond_true, cond_false, Bool.not_true, Bool.not_false, List.map_nil])))) rfl
theorem r_Take (l : List AOp) (e : List AEv) (hl : l.length + e.length ≤ 1000000) : Sat Try.prog 28 [(.t (.c (.loc 6000 0))), (.t (.c (.d (.sl (List.map encEv e)))))] [(6000, (.cells 62 [(.d (.sl (List.map encOp l)))]))] (.tup []) [(6000, (.cells 62 [(.d (.sl (List.map encOp (rtakeF l e))))]))] := by
  refine sat_of_body tab_ok Try.func28 rfl (by kernel_rfl) (Nat.le_of_ble_eq_true rfl) rfl fun G => ?_
  refine awp_seq ?_
  refine awp_region_keep tab_ok boxes [(1, ⟨[], (sc (.int .i64 (List.length e : Int))), none⟩)] [0, 6, 7, 8] [6000] ⟨28, [(0, (.t (.c (.loc 6000 0)))), (6, (.t (.c (.d (.sl (List.map encEv e)))))), (7, (sc (.int .i64 (List.length e : Int)))), (8, (sc (.int .i64 0)))], [(6000, (.cells 62 [(.d (.sl (List.map encOp l)))]))], [6000]⟩ [⟨(Go.Op.call (Go.Call.mk (Go.Callee.builtin Go.Builtin.len) #[(Go.Operand.tmp 6)] #[29])), 3, [(.t (.c (.d (.sl (List.map encEv e)))))], [], (sc (.int .i64 (List.length e : Int))), []⟩] mixed (by kernel_rfl) ⟨tri_len_map tab_ok rfl, trivial⟩ ?_
  refine peel_seq ?_
  refine awp_block ?_
  refine awp_len 6 rfl (fun hlen1 => ?_)
  refine awp_loopP (ι := Nat × (List AOp)) (fun x => ⟨28, [(0, (.t (.c (.loc 6000 0)))), (6, (.t (.c (.d (.sl (List.map encEv e)))))), (7, (sc (.int .i64 (List.length e : Int)))), (8, (sc (.int .i64 (x.1 : Int))))], [(6000, (.cells 62 [(.d (.sl (List.map encOp x.2)))]))], [6000]⟩) (fun x => x.1 ≤ List.length e ∧ (List.length x.2 ≤ List.length l + x.1) ∧ rtakeF x.2 (List.drop x.1 e) = rtakeF l e) (fun x => List.length e - x.1) (0, l) rfl ⟨Nat.zero_le _, by simp, rfl⟩ ?_
  rintro ⟨k2, a3⟩ ⟨hk4, hx5, hJ6⟩
  try simp only at hk4 hx5 hJ6
  refine awp_seq ?_
  refine awp_region_keep tab_ok boxes [] [0, 6, 7, 8, 9] [6000] ⟨28, [(0, (.t (.c (.loc 6000 0)))), (6, (.t (.c (.d (.sl (List.map encEv e)))))), (7, (sc (.int .i64 (List.length e : Int)))), (8, (sc (.int .i64 (k2 : Int)))), (9, (sc (.bool (decide ((k2 : Int) < (List.length e : Int))))))], [(6000, (.cells 62 [(.d (.sl (List.map encOp a3)))]))], [6000]⟩ [] mixed (by kernel_rfl) trivial ?_
  refine peel_seq ?_
  refine awp_seq ?_
  refine awp_cond (b := (decide ((k2 : Int) < (List.length e : Int)))) rfl (fun hc7 => ?_) (fun hc7 => ?_)
  · skip
    have hc7p := of_decide_eq_true hc7
    refine awp_skip ?_
    refine peel_seq ?_
    refine awp_seq ?_
    refine awp_block ?_
    refine awp_seq ?_
    obtain ⟨⟨pos11, key12, had13, old14, has15, now16⟩, ha9, hd10⟩ := at_drop (l := e) (k := k2) (by (try simp only [List.length_map] at *); omega)
    refine awp_region_keep tab_ok boxes [(0, ⟨[], (.t (.c (.d (.ptr [(.v (.int .i64 pos11)), (.v (.string key12)), (.v (.bool had13)), (.v (.string old14)), (.v (.bool has15)), (.v (.string now16))])))), some []⟩)] [0, 5, 6, 7, 8] [5, 6000] ⟨28, [(0, (.t (.c (.loc 6000 0)))), (5, (.t (.c (.loc 5 0)))), (6, (.t (.c (.d (.sl (List.map encEv e)))))), (7, (sc (.int .i64 (List.length e : Int)))), (8, (sc (.int .i64 (k2 : Int))))], [(5, (.cells 44 [(.d (.v (.int .i64 pos11))), (.d (.v (.string key12))), (.d (.v (.bool had13))), (.d (.v (.string old14))), (.d (.v (.bool has15))), (.d (.v (.string now16)))])), (6000, (.cells 62 [(.d (.sl (List.map encOp a3)))]))], [6000]⟩ [⟨(Go.Op.indexAddr 29 (Go.Operand.tmp 6) (Go.Operand.tmp 8)), 0, [(.t (.c (.d (.sl (List.map encEv e))))), (sc (.int .i64 (k2 : Int)))], [], (.t (.c (.d (.ptr [(.v (.int .i64 pos11)), (.v (.string key12)), (.v (.bool had13)), (.v (.string old14)), (.v (.bool has15)), (.v (.string now16))])))), []⟩] mixed (by kernel_rfl) ⟨tri_index_sl (e := 44) (sz := 6) (bytes := 72) (i := k2) tab_ok rfl (at_map encEv ha9) (all_map fun _ => rfl), trivial⟩ ?_
    refine peel_seq ?_
    refine awp_region_keep tab_ok boxes [(12, ⟨[], (.t (.c (.d (.sl (List.map encOp (rput a3 (AOp.mk key12 has15 now16))))))), some []⟩)] [0, 6, 7, 8] [6000] ⟨28, [(0, (.t (.c (.loc 6000 0)))), (6, (.t (.c (.d (.sl (List.map encEv e)))))), (7, (sc (.int .i64 (List.length e : Int)))), (8, (sc (.int .i64 (k2 : Int))))], [(6000, (.cells 62 [(.d (.sl (List.map encOp (rput a3 (AOp.mk key12 has15 now16)))))]))], [6000]⟩ [⟨(Go.Op.call (Go.Call.mk (Go.Callee.value (Go.Operand.func 53)) #[(Go.Operand.tmp 16), (Go.Operand.tmp 23)] #[23, 35])), 23, [(sc (.func (.func 53) #[] #[])), (.t (.c (.d (.sl (List.map encOp a3))))), (.t (.agg [(.d (.v (.string key12))), (.d (.v (.bool has15))), (.d (.v (.string now16)))]))], [], (.t (.c (.d (.sl (List.map encOp (rput a3 (AOp.mk key12 has15 now16))))))), []⟩] mixed (by kernel_rfl) ⟨tri_call (r_put a3 (AOp.mk key12 has15 now16) (by omega)), trivial⟩ ?_
    refine peel_block ?_
    refine peel_seq ?_
    refine awp_region_keep tab_ok boxes [(0, ⟨[], (sc (.int .i64 ((k2 : Int) + 1))), some []⟩)] [0, 6, 7, 8] [6000] ⟨28, [(0, (.t (.c (.loc 6000 0)))), (6, (.t (.c (.d (.sl (List.map encEv e)))))), (7, (sc (.int .i64 (List.length e : Int)))), (8, (sc (.int .i64 ((k2 : Int) + 1))))], [(6000, (.cells 62 [(.d (.sl (List.map encOp (rput a3 (AOp.mk key12 has15 now16)))))]))], [6000]⟩ [⟨(Go.Op.binOp Go.BinOp.add 3 (Go.Operand.tmp 8) (Go.Operand.const (Go.Value.int Go.IntKind.i64 1)) 3), 3, [(sc (.int .i64 (k2 : Int))), (sc (.int .i64 1))], [], (sc (.int .i64 ((k2 : Int) + 1))), []⟩] mixed (by kernel_rfl) ⟨tri_int ((k2 : Int) + 1) (wrap_i64 (by omega)), trivial⟩ ?_
    exact peel_round (k2 + 1, (rput a3 (AOp.mk key12 has15 now16))) rfl ⟨by (try simp only [List.length_map] at *); omega, by first | exact Nat.le_trans (rput_len ..) (by omega) | omega, by have hj := hJ6; rw [hd10] at hj; simp only [rtakeF, hc7, cond_true, cond_false, Bool.not_true, Bool.not_false] at hj ⊢; exact hj⟩ (by (try simp only [List.length_map] at *); omega)
  · skip
    have hc7p := of_decide_eq_false hc7
    have hE17 := hJ6
    rw [at_end (l := e) (by (try simp only [List.length_map] at *); omega)] at hE17
    simp only [rtakeF, hc7, cond_true, cond_false, Bool.not_true, Bool.not_false] at hE17
    refine awp_exit ?_
    refine peel_seq_exit ?_
    refine peel_seq_exit ?_
    refine peel_hit ?_
    exact ends_end rfl rfl (show some ([(6000, (.cells 62 [(.d (.sl (List.map encOp a3)))]))] : Objs) = some ([(6000, (.cells 62 [(.d (.sl (List.map encOp (rtakeF l e))))]))] : Objs) from by first | rfl | ((try simp only [cond_true, cond_false, Bool.not_true, Bool.not_false] at hE17); (first | (simp only [hc7, ← hE17, cond_true, cond_false, Bool.not_true, Bool.not_false, List.map_nil]; done) | (simp only [rtakeF, hc7, ← hE17, cond_true, cond_false, Bool.not_true, Bool.not_false, List.map_nil]))))
theorem r_Do (l : List AOp) (p : Int) (conds ops : List AOp) (hl : l.length ≤ 100000) (h1 : (∀ x ∈ conds, AOp.small x)) (h2 : (∀ x ∈ ops, AOp.small x)) : Sat Try.prog 29 [(.t (.c (.loc 6000 0))), (sc (.int .i64 p)), (.t (.c (.d (.sl (List.map encOp conds))))), (.t (.c (.d (.sl (List.map encOp ops)))))] [(6000, (.cells 62 [(.d (.sl (List.map encOp l)))]))] (.tup [(.c (.d (.sl (List.map encEv ((rplanM l p conds ops).1))))), (.c (.d (.v (.int .i64 (rplanM l p conds ops).2))))]) [(6000, (.cells 62 [(.d (.sl (List.map encOp (rtakeF l (rplanM l p conds ops).1))))]))] := by
  refine sat_of_body tab_ok Try.func29 rfl (by kernel_rfl) (Nat.le_of_ble_eq_true rfl) rfl fun G => ?_
  refine awp_seq ?_
  refine awp_region_keep tab_ok boxes [] [0, 1, 2, 3, 8, 9] [6000] ⟨25, [(0, (.t (.c (.loc 6000 0)))), (1, (sc (.int .i64 p))), (2, (.t (.c (.d (.sl (List.map encOp conds)))))), (3, (.t (.c (.d (.sl (List.map encOp ops)))))), (8, (sc (.slice none 0 0))), (9, (sc (.int .i64 0)))], [(6000, (.cells 62 [(.d (.sl (List.map encOp l)))]))], [6000]⟩ [] mixed (by kernel_rfl) trivial ?_
  refine peel_seq ?_
  refine awp_seq ?_
  refine awp_region_keep tab_ok boxes [(4, ⟨[6000], (.tup [(.c (.d (.sl (List.map encEv ((rplanM l p conds ops).1))))), (.c (.d (.v (.int .i64 (rplanM l p conds ops).2))))]), none⟩)] [0, 8, 9, 10, 11] [6000] ⟨25, [(0, (.t (.c (.loc 6000 0)))), (8, (sc (.slice none 0 0))), (9, (sc (.int .i64 0))), (10, (.t (.c (.d (.sl (List.map encEv ((rplanM l p conds ops).1))))))), (11, (sc (.int .i64 (rplanM l p conds ops).2)))], [(6000, (.cells 62 [(.d (.sl (List.map encOp l)))]))], [6000]⟩ [⟨(Go.Op.call (Go.Call.mk (Go.Callee.value (Go.Operand.func 25)) #[(Go.Operand.tmp 13), (Go.Operand.tmp 14), (Go.Operand.tmp 15), (Go.Operand.tmp 16)] #[60, 3, 23, 23])), 38, [(sc (.func (.func 25) #[] #[])), (.t (.c (.loc 6000 0))), (sc (.int .i64 p)), (.t (.c (.d (.sl (List.map encOp conds))))), (.t (.c (.d (.sl (List.map encOp ops)))))], [(6000, (.cells 62 [(.d (.sl (List.map encOp l)))]))], (.tup [(.c (.d (.sl (List.map encEv ((rplanM l p conds ops).1))))), (.c (.d (.v (.int .i64 (rplanM l p conds ops).2))))]), [(6000, (.cells 62 [(.d (.sl (List.map encOp l)))]))]⟩] mixed (by kernel_rfl) ⟨tri_call (r_Plan l p conds ops (by omega) (by assumption) (by assumption)), trivial⟩ ?_
  refine peel_seq ?_
  refine awp_seq ?_
  refine awp_region_keep tab_ok boxes [(2, ⟨[6000], (.tup []), some [(6000, (.cells 62 [(.d (.sl (List.map encOp (rtakeF l ((rplanM l p conds ops).1)))))]))]⟩)] [8, 9, 10, 11] [6000] ⟨25, [(8, (sc (.slice none 0 0))), (9, (sc (.int .i64 0))), (10, (.t (.c (.d (.sl (List.map encEv ((rplanM l p conds ops).1))))))), (11, (sc (.int .i64 (rplanM l p conds ops).2)))], [(6000, (.cells 62 [(.d (.sl (List.map encOp (rtakeF l ((rplanM l p conds ops).1)))))]))], [6000]⟩ [⟨(Go.Op.call (Go.Call.mk (Go.Callee.value (Go.Operand.func 28)) #[(Go.Operand.tmp 20), (Go.Operand.tmp 21)] #[60, 29])), 0, [(sc (.func (.func 28) #[] #[])), (.t (.c (.loc 6000 0))), (.t (.c (.d (.sl (List.map encEv ((rplanM l p conds ops).1))))))], [(6000, (.cells 62 [(.d (.sl (List.map encOp l)))]))], (.tup []), [(6000, (.cells 62 [(.d (.sl (List.map encOp (rtakeF l ((rplanM l p conds ops).1)))))]))]⟩] mixed (by kernel_rfl) ⟨tri_call (r_Take l ((rplanM l p conds ops).1) (by have := rplanM_len l p conds ops; omega)), trivial⟩ ?_
  refine peel_seq ?_
  refine awp_seq ?_
  refine awp_region_keep tab_ok boxes [] [8, 9] [6000] ⟨25, [(8, (.t (.c (.d (.sl (List.map encEv ((rplanM l p conds ops).1))))))), (9, (sc (.int .i64 (rplanM l p conds ops).2)))], [(6000, (.cells 62 [(.d (.sl (List.map encOp (rtakeF l ((rplanM l p conds ops).1)))))]))], [6000]⟩ [] mixed (by kernel_rfl) trivial ?_
  refine peel_seq ?_
  refine awp_ret ?_
  exact ends_ret rfl rfl rfl
theorem r_Set (l ops : List AOp) (h2 : (∀ x ∈ ops, AOp.small x)) : Sat Try.prog 26 [(.t (.c (.loc 6000 0))), (.t (.c (.d (.sl (List.map encOp ops)))))] [(6000, (.cells 62 [(.d (.sl (List.map encOp l)))]))] (sc (.int .i64 (rsetM l ops).2)) [(6000, (.cells 62 [(.d (.sl (List.map encOp ((rsetM l ops).1))))]))] := by
  refine sat_of_body tab_ok Try.func26 rfl (by kernel_rfl) (Nat.le_of_ble_eq_true rfl) rfl fun G => ?_
  refine awp_seq ?_
  refine awp_region_keep tab_ok boxes [] [0, 1, 4] [6000] ⟨34, [(0, (.t (.c (.loc 6000 0)))), (1, (.t (.c (.d (.sl (List.map encOp ops)))))), (4, (sc (.int .i64 0)))], [(6000, (.cells 62 [(.d (.sl (List.map encOp l)))]))], [6000]⟩ [] mixed (by kernel_rfl) trivial ?_
  refine peel_seq ?_
  refine awp_seq ?_
  refine awp_seq ?_
  refine awp_region_keep tab_ok boxes [(1, ⟨[], (sc (.int .i64 (List.length ops : Int))), none⟩)] [0, 1, 4, 11] [6000] ⟨34, [(0, (.t (.c (.loc 6000 0)))), (1, (.t (.c (.d (.sl (List.map encOp ops)))))), (4, (sc (.int .i64 0))), (11, (sc (.bool (decide ((List.length ops : Int) > 24)))))], [(6000, (.cells 62 [(.d (.sl (List.map encOp l)))]))], [6000]⟩ [⟨(Go.Op.call (Go.Call.mk (Go.Callee.builtin Go.Builtin.len) #[(Go.Operand.tmp 9)] #[23])), 3, [(.t (.c (.d (.sl (List.map encOp ops)))))], [], (sc (.int .i64 (List.length ops : Int))), []⟩] mixed (by kernel_rfl) ⟨tri_len_map tab_ok rfl, trivial⟩ ?_
  refine peel_seq ?_
  refine awp_cond (b := (decide ((List.length ops : Int) > 24))) rfl (fun hc1 => ?_) (fun hc1 => ?_)
  · skip
    have hc1p := of_decide_eq_true hc1
    refine awp_seq ?_
    refine awp_region_keep tab_ok boxes [] [0, 1, 4] [6000] ⟨34, [(0, (.t (.c (.loc 6000 0)))), (1, (.t (.c (.d (.sl (List.map encOp ops)))))), (4, (sc (.int .i64 7)))], [(6000, (.cells 62 [(.d (.sl (List.map encOp l)))]))], [6000]⟩ [] mixed (by kernel_rfl) trivial ?_
    refine peel_seq ?_
    refine awp_ret ?_
    refine peel_seq_ret ?_
    exact ends_ret rfl (show some ((sc (.int .i64 7)) : SV) = some ((sc (.int .i64 (rsetM l ops).2)) : SV) from by first | rfl | ((first | (simp only [hc1, cond_true, cond_false, Bool.not_true, Bool.not_false, List.map_nil]; done) | (simp only [rsetM, hc1, cond_true, cond_false, Bool.not_true, Bool.not_false, List.map_nil])))) (show some ([(6000, (.cells 62 [(.d (.sl (List.map encOp l)))]))] : Objs) = some ([(6000, (.cells 62 [(.d (.sl (List.map encOp ((rsetM l ops).1))))]))] : Objs) from by first | rfl | ((first | (simp only [hc1, cond_true, cond_false, Bool.not_true, Bool.not_false, List.map_nil]; done) | (simp only [rsetM, hc1, cond_true, cond_false, Bool.not_true, Bool.not_false, List.map_nil]))))
  · skip
    have hc1p := of_decide_eq_false hc1
    refine awp_skip ?_
    refine peel_seq ?_
    refine awp_seq ?_
    refine awp_seq ?_
    refine awp_region_keep tab_ok boxes [(1, ⟨[], (sc (.int .i64 (rightF ops []))), some []⟩)] [0, 1, 4, 5] [6000] ⟨34, [(0, (.t (.c (.loc 6000 0)))), (1, (.t (.c (.d (.sl (List.map encOp ops)))))), (4, (sc (.int .i64 0))), (5, (sc (.int .i64 (rightF ops []))))], [(6000, (.cells 62 [(.d (.sl (List.map encOp l)))]))], [6000]⟩ [⟨(Go.Op.call (Go.Call.mk (Go.Callee.value (Go.Operand.func 35)) #[(Go.Operand.tmp 12)] #[23])), 37, [(sc (.func (.func 35) #[] #[])), (.t (.c (.d (.sl (List.map encOp ops)))))], [], (sc (.int .i64 (rightF ops []))), []⟩] mixed (by kernel_rfl) ⟨tri_call (r_Right ops (by assumption)), trivial⟩ ?_
    refine peel_seq ?_
    refine awp_seq ?_
    refine awp_region_keep tab_ok boxes [] [0, 1, 4, 5, 15] [6000] ⟨34, [(0, (.t (.c (.loc 6000 0)))), (1, (.t (.c (.d (.sl (List.map encOp ops)))))), (4, (sc (.int .i64 0))), (5, (sc (.int .i64 (rightF ops [])))), (15, (sc (.bool ((rightF ops []) != 0))))], [(6000, (.cells 62 [(.d (.sl (List.map encOp l)))]))], [6000]⟩ [] mixed (by kernel_rfl) trivial ?_
    refine peel_seq ?_
    refine awp_cond (b := ((rightF ops []) != 0)) rfl (fun hc2 => ?_) (fun hc2 => ?_)
    · skip
      have hc2p : (rightF ops []) ≠ 0 := by simpa using hc2
      refine awp_seq ?_
      refine awp_region_keep tab_ok boxes [] [0, 1, 4] [6000] ⟨34, [(0, (.t (.c (.loc 6000 0)))), (1, (.t (.c (.d (.sl (List.map encOp ops)))))), (4, (sc (.int .i64 (rightF ops []))))], [(6000, (.cells 62 [(.d (.sl (List.map encOp l)))]))], [6000]⟩ [] mixed (by kernel_rfl) trivial ?_
      refine peel_seq ?_
      refine awp_ret ?_
      refine peel_seq_ret ?_
      exact ends_ret rfl (show some ((sc (.int .i64 (rightF ops []))) : SV) = some ((sc (.int .i64 (rsetM l ops).2)) : SV) from by first | rfl | ((first | (simp only [hc1, hc2, cond_true, cond_false, Bool.not_true, Bool.not_false, List.map_nil]; done) | (simp only [rsetM, hc1, hc2, cond_true, cond_false, Bool.not_true, Bool.not_false, List.map_nil])))) (show some ([(6000, (.cells 62 [(.d (.sl (List.map encOp l)))]))] : Objs) = some ([(6000, (.cells 62 [(.d (.sl (List.map encOp ((rsetM l ops).1))))]))] : Objs) from by first | rfl | ((first | (simp only [hc1, hc2, cond_true, cond_false, Bool.not_true, Bool.not_false, List.map_nil]; done) | (simp only [rsetM, hc1, hc2, cond_true, cond_false, Bool.not_true, Bool.not_false, List.map_nil]))))
    · skip
      have hc2p : (rightF ops []) = 0 := by simpa using hc2
      refine awp_skip ?_
      refine peel_seq ?_
      refine awp_seq ?_
      refine awp_region_keep tab_ok boxes [] [0, 1, 4, 6] [6000] ⟨34, [(0, (.t (.c (.loc 6000 0)))), (1, (.t (.c (.d (.sl (List.map encOp ops)))))), (4, (sc (.int .i64 0))), (6, (sc (.slice none 0 0)))], [(6000, (.cells 62 [(.d (.sl (List.map encOp l)))]))], [6000]⟩ [] mixed (by kernel_rfl) trivial ?_
      refine peel_seq ?_
      refine awp_seq ?_
      refine awp_seq ?_
      refine awp_region_keep tab_ok boxes [(1, ⟨[], (sc (.int .i64 (List.length ops : Int))), none⟩)] [0, 4, 6, 17, 18, 19] [6000] ⟨34, [(0, (.t (.c (.loc 6000 0)))), (4, (sc (.int .i64 0))), (6, (sc (.slice none 0 0))), (17, (.t (.c (.d (.sl (List.map encOp ops)))))), (18, (sc (.int .i64 (List.length ops : Int)))), (19, (sc (.int .i64 0)))], [(6000, (.cells 62 [(.d (.sl (List.map encOp l)))]))], [6000]⟩ [⟨(Go.Op.call (Go.Call.mk (Go.Callee.builtin Go.Builtin.len) #[(Go.Operand.tmp 17)] #[23])), 3, [(.t (.c (.d (.sl (List.map encOp ops)))))], [], (sc (.int .i64 (List.length ops : Int))), []⟩] mixed (by kernel_rfl) ⟨tri_len_map tab_ok rfl, trivial⟩ ?_
      refine peel_seq ?_
      refine awp_block ?_
      refine awp_mv [.no 6 0] ⟨34, [(6, (.t (.c (.d (.sl []))))), (0, (.t (.c (.loc 6000 0)))), (4, (sc (.int .i64 0))), (17, (.t (.c (.d (.sl (List.map encOp ops)))))), (18, (sc (.int .i64 (List.length ops : Int)))), (19, (sc (.int .i64 0)))], [(6000, (.cells 62 [(.d (.sl (List.map encOp l)))]))], [6000]⟩ rfl ?_
      refine awp_as ⟨34, [(6, (.t (.c (.d (.sl (List.map encOp ([]))))))), (0, (.t (.c (.loc 6000 0)))), (4, (sc (.int .i64 0))), (17, (.t (.c (.d (.sl (List.map encOp ops)))))), (18, (sc (.int .i64 (List.length ops : Int)))), (19, (sc (.int .i64 0)))], [(6000, (.cells 62 [(.d (.sl (List.map encOp l)))]))], [6000]⟩ rfl ?_
      refine q_keep [0, 4, 6, 17, 18, 19] [6000] ?_
      refine awp_len 17 rfl (fun hlen3 => ?_)
      refine awp_loopP (ι := Nat × (List AOp)) (fun x => ⟨34, [(0, (.t (.c (.loc 6000 0)))), (4, (sc (.int .i64 0))), (6, (.t (.c (.d (.sl (List.map encOp x.2)))))), (17, (.t (.c (.d (.sl (List.map encOp ops)))))), (18, (sc (.int .i64 (List.length ops : Int)))), (19, (sc (.int .i64 (x.1 : Int))))], [(6000, (.cells 62 [(.d (.sl (List.map encOp l)))]))], [6000]⟩) (fun x => x.1 ≤ List.length ops ∧ (List.length x.2 ≤ x.1) ∧ rsetF x.2 (List.drop x.1 ops) = rsetF [] ops) (fun x => List.length ops - x.1) (0, []) rfl ⟨Nat.zero_le _, by simp, rfl⟩ ?_
      rintro ⟨k4, a5⟩ ⟨hk6, hx7, hJ8⟩
      try simp only at hk6 hx7 hJ8
      refine awp_seq ?_
      refine awp_region_keep tab_ok boxes [] [0, 4, 6, 17, 18, 19, 20] [6000] ⟨34, [(0, (.t (.c (.loc 6000 0)))), (4, (sc (.int .i64 0))), (6, (.t (.c (.d (.sl (List.map encOp a5)))))), (17, (.t (.c (.d (.sl (List.map encOp ops)))))), (18, (sc (.int .i64 (List.length ops : Int)))), (19, (sc (.int .i64 (k4 : Int)))), (20, (sc (.bool (decide ((k4 : Int) < (List.length ops : Int))))))], [(6000, (.cells 62 [(.d (.sl (List.map encOp l)))]))], [6000]⟩ [] mixed (by kernel_rfl) trivial ?_
      refine peel_seq ?_
      refine awp_seq ?_
      refine awp_cond (b := (decide ((k4 : Int) < (List.length ops : Int)))) rfl (fun hc9 => ?_) (fun hc9 => ?_)
      · skip
        have hc9p := of_decide_eq_true hc9
        refine awp_skip ?_
        refine peel_seq ?_
        refine awp_seq ?_
        refine awp_block ?_
        refine awp_seq ?_
        obtain ⟨⟨key13, has14, val15⟩, ha11, hd12⟩ := at_drop (l := ops) (k := k4) (by (try simp only [List.length_map] at *); omega)
        refine awp_region_keep tab_ok boxes [(0, ⟨[], (.t (.c (.d (.ptr [(.v (.string key13)), (.v (.bool has14)), (.v (.string val15))])))), some []⟩)] [0, 4, 6, 8, 17, 18, 19] [8, 6000] ⟨34, [(0, (.t (.c (.loc 6000 0)))), (4, (sc (.int .i64 0))), (6, (.t (.c (.d (.sl (List.map encOp a5)))))), (8, (.t (.c (.loc 8 0)))), (17, (.t (.c (.d (.sl (List.map encOp ops)))))), (18, (sc (.int .i64 (List.length ops : Int)))), (19, (sc (.int .i64 (k4 : Int))))], [(8, (.cells 35 [(.d (.v (.string key13))), (.d (.v (.bool has14))), (.d (.v (.string val15)))])), (6000, (.cells 62 [(.d (.sl (List.map encOp l)))]))], [6000]⟩ [⟨(Go.Op.indexAddr 23 (Go.Operand.tmp 17) (Go.Operand.tmp 19)), 0, [(.t (.c (.d (.sl (List.map encOp ops))))), (sc (.int .i64 (k4 : Int)))], [], (.t (.c (.d (.ptr [(.v (.string key13)), (.v (.bool has14)), (.v (.string val15))])))), []⟩] mixed (by kernel_rfl) ⟨tri_index_sl (e := 35) (sz := 3) (bytes := 40) (i := k4) tab_ok rfl (at_map encOp ha11) (all_map fun _ => rfl), trivial⟩ ?_
        refine peel_seq ?_
        refine awp_seq ?_
        refine awp_seq ?_
        refine awp_region_keep tab_ok boxes [] [0, 4, 6, 8, 17, 18, 19, 25] [8, 6000] ⟨34, [(0, (.t (.c (.loc 6000 0)))), (4, (sc (.int .i64 0))), (6, (.t (.c (.d (.sl (List.map encOp a5)))))), (8, (.t (.c (.loc 8 0)))), (17, (.t (.c (.d (.sl (List.map encOp ops)))))), (18, (sc (.int .i64 (List.length ops : Int)))), (19, (sc (.int .i64 (k4 : Int)))), (25, (sc (.bool (!has14))))], [(8, (.cells 35 [(.d (.v (.string key13))), (.d (.v (.bool has14))), (.d (.v (.string val15)))])), (6000, (.cells 62 [(.d (.sl (List.map encOp l)))]))], [6000]⟩ [] mixed (by kernel_rfl) trivial ?_
        refine peel_seq ?_
        cases has14 with
        | false =>
          refine awp_true rfl ?_
          refine awp_seq ?_
          refine awp_region_keep tab_ok boxes [] [0, 4, 6, 8, 17, 18, 19] [8, 6000] ⟨34, [(0, (.t (.c (.loc 6000 0)))), (4, (sc (.int .i64 61))), (6, (.t (.c (.d (.sl (List.map encOp a5)))))), (8, (.t (.c (.loc 8 0)))), (17, (.t (.c (.d (.sl (List.map encOp ops)))))), (18, (sc (.int .i64 (List.length ops : Int)))), (19, (sc (.int .i64 (k4 : Int))))], [(8, (.cells 35 [(.d (.v (.string key13))), (.d (.v (.bool false))), (.d (.v (.string val15)))])), (6000, (.cells 62 [(.d (.sl (List.map encOp l)))]))], [6000]⟩ [] mixed (by kernel_rfl) trivial ?_
          refine peel_seq ?_
          have hE16 := hJ8
          rw [hd12] at hE16
          simp only [rsetF, hc1, hc2, hc9, cond_true, cond_false, Bool.not_true, Bool.not_false] at hE16
          refine awp_ret ?_
          refine peel_seq_ret ?_
          refine peel_block_ret ?_
          refine peel_seq_ret ?_
          refine peel_seq_ret ?_
          refine peel_block_ret ?_
          refine peel_seq_ret ?_
          exact ends_ret rfl (show some ((sc (.int .i64 61)) : SV) = some ((sc (.int .i64 (rsetM l ops).2)) : SV) from by first | rfl | ((try simp only [cond_true, cond_false, Bool.not_true, Bool.not_false] at hE16); (first | (simp only [hc1, hc2, hc9, ← hE16, cond_true, cond_false, Bool.not_true, Bool.not_false, List.map_nil]; done) | (simp only [rsetM, hc1, hc2, hc9, ← hE16, cond_true, cond_false, Bool.not_true, Bool.not_false, List.map_nil])))) (show some ([(6000, (.cells 62 [(.d (.sl (List.map encOp l)))]))] : Objs) = some ([(6000, (.cells 62 [(.d (.sl (List.map encOp ((rsetM l ops).1))))]))] : Objs) from by first | rfl | ((try simp only [cond_true, cond_false, Bool.not_true, Bool.not_false] at hE16); (first | (simp only [hc1, hc2, hc9, ← hE16, cond_true, cond_false, Bool.not_true, Bool.not_false, List.map_nil]; done) | (simp only [rsetM, hc1, hc2, hc9, ← hE16, cond_true, cond_false, Bool.not_true, Bool.not_false, List.map_nil]))))
        | true =>
          refine awp_false rfl ?_
          refine awp_skip ?_
          refine peel_seq ?_
          refine awp_region_keep tab_ok boxes [(2, ⟨[], (.t (.c (.d (.sl (List.map encOp (rput a5 (AOp.mk key13 true val15))))))), some []⟩)] [0, 4, 6, 17, 18, 19] [6000] ⟨34, [(0, (.t (.c (.loc 6000 0)))), (4, (sc (.int .i64 0))), (6, (.t (.c (.d (.sl (List.map encOp (rput a5 (AOp.mk key13 true val15)))))))), (17, (.t (.c (.d (.sl (List.map encOp ops)))))), (18, (sc (.int .i64 (List.length ops : Int)))), (19, (sc (.int .i64 (k4 : Int))))], [(6000, (.cells 62 [(.d (.sl (List.map encOp l)))]))], [6000]⟩ [⟨(Go.Op.call (Go.Call.mk (Go.Callee.value (Go.Operand.func 53)) #[(Go.Operand.tmp 26), (Go.Operand.tmp 27)] #[23, 35])), 23, [(sc (.func (.func 53) #[] #[])), (.t (.c (.d (.sl (List.map encOp a5))))), (.t (.agg [(.d (.v (.string key13))), (.d (.v (.bool true))), (.d (.v (.string val15)))]))], [], (.t (.c (.d (.sl (List.map encOp (rput a5 (AOp.mk key13 true val15))))))), []⟩] mixed (by kernel_rfl) ⟨tri_call (r_put a5 (AOp.mk key13 true val15) (by omega)), trivial⟩ ?_
          refine peel_block ?_
          refine peel_seq ?_
          refine awp_region_keep tab_ok boxes [(0, ⟨[], (sc (.int .i64 ((k4 : Int) + 1))), some []⟩)] [0, 4, 6, 17, 18, 19] [6000] ⟨34, [(0, (.t (.c (.loc 6000 0)))), (4, (sc (.int .i64 0))), (6, (.t (.c (.d (.sl (List.map encOp (rput a5 (AOp.mk key13 true val15)))))))), (17, (.t (.c (.d (.sl (List.map encOp ops)))))), (18, (sc (.int .i64 (List.length ops : Int)))), (19, (sc (.int .i64 ((k4 : Int) + 1))))], [(6000, (.cells 62 [(.d (.sl (List.map encOp l)))]))], [6000]⟩ [⟨(Go.Op.binOp Go.BinOp.add 3 (Go.Operand.tmp 19) (Go.Operand.const (Go.Value.int Go.IntKind.i64 1)) 3), 3, [(sc (.int .i64 (k4 : Int))), (sc (.int .i64 1))], [], (sc (.int .i64 ((k4 : Int) + 1))), []⟩] mixed (by kernel_rfl) ⟨tri_int ((k4 : Int) + 1) (wrap_i64 (by omega)), trivial⟩ ?_
          exact peel_round (k4 + 1, (rput a5 (AOp.mk key13 true val15))) rfl ⟨by (try simp only [List.length_map] at *); omega, by first | exact Nat.le_trans (rput_len ..) (by omega) | omega, by have hj := hJ8; rw [hd12] at hj; simp only [rsetF, hc1, hc2, hc9, cond_true, cond_false, Bool.not_true, Bool.not_false] at hj ⊢; exact hj⟩ (by (try simp only [List.length_map] at *); omega)
      · skip
        have hc9p := of_decide_eq_false hc9
        have hE17 := hJ8
        rw [at_end (l := ops) (by (try simp only [List.length_map] at *); omega)] at hE17
        simp only [rsetF, hc1, hc2, hc9, cond_true, cond_false, Bool.not_true, Bool.not_false] at hE17
        refine awp_exit ?_
        refine peel_seq_exit ?_
        refine peel_seq_exit ?_
        refine peel_hit ?_
        refine peel_seq ?_
        refine awp_seq ?_
        refine awp_region_keep tab_ok boxes [] [4] [6000] ⟨34, [(4, (sc (.int .i64 0)))], [(6000, (.cells 62 [(.d (.sl (List.map encOp a5)))]))], [6000]⟩ [] mixed (by kernel_rfl) trivial ?_
        refine peel_seq ?_
        refine awp_seq ?_
        refine awp_region_keep tab_ok boxes [] [4] [6000] ⟨34, [(4, (sc (.int .i64 0)))], [(6000, (.cells 62 [(.d (.sl (List.map encOp a5)))]))], [6000]⟩ [] mixed (by kernel_rfl) trivial ?_
        refine peel_seq ?_
        refine awp_ret ?_
        exact ends_ret rfl (show some ((sc (.int .i64 0)) : SV) = some ((sc (.int .i64 (rsetM l ops).2)) : SV) from by first | rfl | ((try simp only [cond_true, cond_false, Bool.not_true, Bool.not_false] at hE17); (first | (simp only [hc1, hc2, hc9, ← hE17, cond_true, cond_false, Bool.not_true, Bool.not_false, List.map_nil]; done) | (simp only [rsetM, hc1, hc2, hc9, ← hE17, cond_true, cond_false, Bool.not_true, Bool.not_false, List.map_nil])))) (show some ([(6000, (.cells 62 [(.d (.sl (List.map encOp a5)))]))] : Objs) = some ([(6000, (.cells 62 [(.d (.sl (List.map encOp ((rsetM l ops).1))))]))] : Objs) from by first | rfl | ((try simp only [cond_true, cond_false, Bool.not_true, Bool.not_false] at hE17); (first | (simp only [hc1, hc2, hc9, ← hE17, cond_true, cond_false, Bool.not_true, Bool.not_false, List.map_nil]; done) | (simp only [rsetM, hc1, hc2, hc9, ← hE17, cond_true, cond_false, Bool.not_true, Bool.not_false, List.map_nil]))))
end Go.Proofs.Ytjbiaoajmdbigaa
