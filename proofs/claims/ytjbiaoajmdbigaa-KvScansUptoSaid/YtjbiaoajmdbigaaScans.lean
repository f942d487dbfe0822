/- The walk of KvScans. -/
import Derived.Test.YtjbiaoajmdbigaaConcat
import Derived.Test.YtjbiaoajmdbigaaPl2
set_option maxRecDepth 100000
set_option linter.unusedVariables false
set_option linter.unusedSimpArgs false
namespace Go.Proofs.Ytjbiaoajmdbigaa
open Go Go.E
theorem w_Scans (l : List ADo) (fr mid to : ByteArray) (hf : fr.size ≤ 1048576) (hm : mid.size ≤ 1048576) : Sat Try.prog 6 [(.t (.c (.d (.sl (List.map encDo l))))), (sc (.string fr)), (sc (.string mid)), (sc (.string to))] [] (sc (.bool true)) [] := by
  refine sat_of_body tab_ok Try.func6 rfl (by kernel_rfl) (Nat.le_of_ble_eq_true rfl) rfl fun G => ?_
  refine awp_seq ?_
  refine awp_region_keep tab_ok boxes [] [0, 1, 2, 3, 8] [] ⟨130, [(0, (.t (.c (.d (.sl (List.map encDo l)))))), (1, (sc (.string fr))), (2, (sc (.string mid))), (3, (sc (.string to))), (8, (sc (.bool false)))], [], []⟩ [] mixed (by kernel_rfl) trivial ?_
  refine peel_seq ?_
  refine awp_seq ?_
  refine awp_seq ?_
  cases hb1 : (shortM l) with
  | false =>
    refine awp_region_keep tab_ok boxes [(1, ⟨[], (sc (.bool false)), some []⟩)] [0, 1, 2, 3, 8, 31] [] ⟨130, [(0, (.t (.c (.d (.sl (List.map encDo l)))))), (1, (sc (.string fr))), (2, (sc (.string mid))), (3, (sc (.string to))), (8, (sc (.bool false))), (31, (sc (.bool true)))], [], []⟩ [⟨(Go.Op.call (Go.Call.mk (Go.Callee.value (Go.Operand.func 9)) #[(Go.Operand.tmp 16)] #[22])), 4, [(sc (.func (.func 9) #[] #[])), (.t (.c (.d (.sl (List.map encDo l)))))], [], (sc (.bool false)), []⟩] mixed (by kernel_rfl) ⟨tri_as (tri_call (l_short l)) hb1, trivial⟩ ?_
    refine peel_seq ?_
    refine awp_true rfl ?_
    refine awp_seq ?_
    refine awp_region_keep tab_ok boxes [(0, ⟨[], (sc (.bool true)), some []⟩)] [0, 1, 2, 3, 8] [] ⟨130, [(0, (.t (.c (.d (.sl (List.map encDo l)))))), (1, (sc (.string fr))), (2, (sc (.string mid))), (3, (sc (.string to))), (8, (sc (.bool true)))], [], []⟩ [⟨(Go.Op.call (Go.Call.mk (Go.Callee.value (Go.Operand.func 11)) #[] #[])), 4, [(sc (.func (.func 11) #[] #[]))], [], (sc (.bool true)), []⟩] mixed (by kernel_rfl) ⟨tri_call (l_awake), trivial⟩ ?_
    refine peel_seq ?_
    refine awp_ret ?_
    refine peel_seq_ret ?_
    exact ends_ret rfl rfl rfl
  | true =>
    cases hb2 : (decide (((fr.size : Int) + (mid.size : Int)) > 32768)) with
    | false =>
      have hb2p := of_decide_eq_false hb2
      refine awp_region_keep tab_ok boxes [(1, ⟨[], (sc (.bool true)), some []⟩), (8, ⟨[], (sc (.int .i64 ((fr.size : Int) + (mid.size : Int)))), some []⟩), (9, ⟨[], (sc (.bool false)), some []⟩)] [0, 1, 2, 3, 8, 31] [] ⟨130, [(0, (.t (.c (.d (.sl (List.map encDo l)))))), (1, (sc (.string fr))), (2, (sc (.string mid))), (3, (sc (.string to))), (8, (sc (.bool false))), (31, (sc (.bool (decide ((to.size : Int) > 32768)))))], [], []⟩ [⟨(Go.Op.call (Go.Call.mk (Go.Callee.value (Go.Operand.func 9)) #[(Go.Operand.tmp 16)] #[22])), 4, [(sc (.func (.func 9) #[] #[])), (.t (.c (.d (.sl (List.map encDo l)))))], [], (sc (.bool true)), []⟩, ⟨(Go.Op.binOp Go.BinOp.add 3 (Go.Operand.tmp 21) (Go.Operand.tmp 23) 3), 3, [(sc (.int .i64 (fr.size : Int))), (sc (.int .i64 (mid.size : Int)))], [], (sc (.int .i64 ((fr.size : Int) + (mid.size : Int)))), []⟩, ⟨(Go.Op.binOp Go.BinOp.gtr 3 (Go.Operand.tmp 24) (Go.Operand.const (Go.Value.int Go.IntKind.i64 32768)) 3), 4, [(sc (.int .i64 ((fr.size : Int) + (mid.size : Int)))), (sc (.int .i64 32768))], [], (sc (.bool false)), []⟩] mixed (by kernel_rfl) ⟨tri_as (tri_call (l_short l)) hb1, tri_int ((fr.size : Int) + (mid.size : Int)) (wrap_i64 (by omega)), tri_scalar_eq [(.int .i64 ((fr.size : Int) + (mid.size : Int))), (.int .i64 32768)] (.bool (decide (((fr.size : Int) + (mid.size : Int)) > 32768))) rfl rfl rfl (by kernel_rfl) (congrArg Value.bool hb2), trivial⟩ ?_
      refine peel_seq ?_
      refine awp_cond (b := (decide ((to.size : Int) > 32768))) rfl (fun hc3 => ?_) (fun hc3 => ?_)
      · skip
        have hc3p := of_decide_eq_true hc3
        refine awp_seq ?_
        refine awp_region_keep tab_ok boxes [(0, ⟨[], (sc (.bool true)), some []⟩)] [0, 1, 2, 3, 8] [] ⟨130, [(0, (.t (.c (.d (.sl (List.map encDo l)))))), (1, (sc (.string fr))), (2, (sc (.string mid))), (3, (sc (.string to))), (8, (sc (.bool true)))], [], []⟩ [⟨(Go.Op.call (Go.Call.mk (Go.Callee.value (Go.Operand.func 11)) #[] #[])), 4, [(sc (.func (.func 11) #[] #[]))], [], (sc (.bool true)), []⟩] mixed (by kernel_rfl) ⟨tri_call (l_awake), trivial⟩ ?_
        refine peel_seq ?_
        refine awp_ret ?_
        refine peel_seq_ret ?_
        exact ends_ret rfl rfl rfl
      · skip
        have hc3p := of_decide_eq_false hc3
        refine awp_skip ?_
        refine peel_seq ?_
        refine awp_seq ?_
        refine awp_region_keep tab_ok boxes [(1, ⟨[], (.tup [(.c (.loc 35 0)), (.c (.d (.sl (List.map encEv ((madeM l).2)))))]), some [(35, (.cells 51 [(.d (.ptr [(encT ((madeM l).1))]))]))]⟩)] [1, 2, 3, 8, 9] [35] ⟨130, [(1, (sc (.string fr))), (2, (sc (.string mid))), (3, (sc (.string to))), (8, (sc (.bool false))), (9, (.t (.c (.loc 35 0))))], [(35, (.cells 51 [(.d (.ptr [(encT ((madeM l).1))]))]))], []⟩ [⟨(Go.Op.call (Go.Call.mk (Go.Callee.value (Go.Operand.func 12)) #[(Go.Operand.tmp 34)] #[22])), 30, [(sc (.func (.func 12) #[] #[])), (.t (.c (.d (.sl (List.map encDo l)))))], [], (.tup [(.c (.loc 35 0)), (.c (.d (.sl (List.map encEv ((madeM l).2)))))]), [(35, (.cells 51 [(.d (.ptr [(encT ((madeM l).1))]))]))]⟩] mixed (by kernel_rfl) ⟨tri_call (Sat.sw 5001 35 (l_made l (by exact shortM_len (by assumption)))), trivial⟩ ?_
        refine peel_seq ?_
        refine awp_seq ?_
        refine awp_seq ?_
        cases hb4 : (eqS mid ⟨#[]⟩) with
        | false =>
          have hb4p := eqS_false hb4
          cases hb5 : (ltS mid fr) with
          | false =>
            cases hb6 : (eqS to ⟨#[]⟩) with
            | false =>
              have hb6p := eqS_false hb6
              refine awp_region_keep tab_ok boxes [(1, ⟨[], (sc (.bool false)), some []⟩), (5, ⟨[], (sc (.bool false)), some []⟩), (9, ⟨[], (sc (.bool true)), some []⟩), (13, ⟨[], (sc (.bool (ltS to mid))), some []⟩)] [1, 2, 3, 8, 9, 53] [35] ⟨130, [(1, (sc (.string fr))), (2, (sc (.string mid))), (3, (sc (.string to))), (8, (sc (.bool false))), (9, (.t (.c (.loc 35 0)))), (53, (sc (.bool (ltS to mid))))], [(35, (.cells 51 [(.d (.ptr [(encT ((madeM l).1))]))]))], []⟩ [⟨(Go.Op.binOp Go.BinOp.eql 9 (Go.Operand.tmp 38) (Go.Operand.const (Go.Value.string (ByteArray.mk #[]))) 9), 4, [(sc (.string mid)), (sc (.string ⟨#[]⟩))], [], (sc (.bool false)), []⟩, ⟨(Go.Op.binOp Go.BinOp.lss 9 (Go.Operand.tmp 41) (Go.Operand.tmp 42) 9), 4, [(sc (.string mid)), (sc (.string fr))], [], (sc (.bool false)), []⟩, ⟨(Go.Op.binOp Go.BinOp.neq 9 (Go.Operand.tmp 46) (Go.Operand.const (Go.Value.string (ByteArray.mk #[]))) 9), 4, [(sc (.string to)), (sc (.string ⟨#[]⟩))], [], (sc (.bool true)), []⟩, ⟨(Go.Op.binOp Go.BinOp.gtr 9 (Go.Operand.tmp 49) (Go.Operand.tmp 50) 9), 4, [(sc (.string mid)), (sc (.string to))], [], (sc (.bool (ltS to mid))), []⟩] mixed (by kernel_rfl) ⟨tri_as tri_str_eql hb4, tri_as tri_str_lss hb5, tri_as tri_str_neq (by rw [hb6]; rfl), tri_str_gtr, trivial⟩ ?_
              refine peel_seq ?_
              refine awp_cond (b := (ltS to mid)) rfl (fun hc7 => ?_) (fun hc7 => ?_)
              · skip
                refine awp_seq ?_
                refine awp_region_keep tab_ok boxes [(0, ⟨[], (sc (.bool true)), some []⟩)] [1, 2, 3, 8, 9] [35] ⟨130, [(1, (sc (.string fr))), (2, (sc (.string mid))), (3, (sc (.string to))), (8, (sc (.bool true))), (9, (.t (.c (.loc 35 0))))], [(35, (.cells 51 [(.d (.ptr [(encT ((madeM l).1))]))]))], []⟩ [⟨(Go.Op.call (Go.Call.mk (Go.Callee.value (Go.Operand.func 11)) #[] #[])), 4, [(sc (.func (.func 11) #[] #[]))], [], (sc (.bool true)), []⟩] mixed (by kernel_rfl) ⟨tri_call (l_awake), trivial⟩ ?_
                refine peel_seq ?_
                refine awp_ret ?_
                refine peel_seq_ret ?_
                exact ends_ret rfl rfl rfl
              · skip
                refine awp_skip ?_
                refine peel_seq ?_
                refine awp_seq ?_
                refine awp_region_keep tab_ok boxes [(3, ⟨[35], (.t (.c (.d (.sl (List.map encOp (scanM ((madeM l).1) fr to)))))), none⟩)] [1, 2, 3, 8, 9, 11] [35] ⟨130, [(1, (sc (.string fr))), (2, (sc (.string mid))), (3, (sc (.string to))), (8, (sc (.bool false))), (9, (.t (.c (.loc 35 0)))), (11, (.t (.c (.d (.sl (List.map encOp (scanM ((madeM l).1) fr to)))))))], [(35, (.cells 51 [(.d (.ptr [(encT ((madeM l).1))]))]))], []⟩ [⟨(Go.Op.call (Go.Call.mk (Go.Callee.value (Go.Operand.func 17)) #[(Go.Operand.tmp 55), (Go.Operand.tmp 56), (Go.Operand.tmp 57)] #[28, 9, 9])), 23, [(sc (.func (.func 17) #[] #[])), (.t (.c (.loc 35 0))), (sc (.string fr)), (sc (.string to))], [(35, (.cells 51 [(.d (.ptr [(encT ((madeM l).1))]))]))], (.t (.c (.d (.sl (List.map encOp (scanM ((madeM l).1) fr to)))))), [(35, (.cells 51 [(.d (.ptr [(encT ((madeM l).1))]))]))]⟩] mixed (by kernel_rfl) ⟨tri_call (Sat.sw 5000 35 (k_Scan ((madeM l).1) fr to (by (have hM := madeM_size (l := l) (shortM_len (by assumption))); (have s1 := scanM_len (madeM l).1 fr mid); (have s2 := scanM_len (madeM l).1 mid to); omega))), trivial⟩ ?_
                refine peel_seq ?_
                refine awp_seq ?_
                refine awp_seq ?_
                refine awp_region_keep tab_ok boxes [(1, ⟨[], (sc (.int .i64 (List.length (scanM ((madeM l).1) fr to) : Int))), none⟩)] [1, 2, 3, 8, 9, 11, 59, 60, 61] [35] ⟨130, [(1, (sc (.string fr))), (2, (sc (.string mid))), (3, (sc (.string to))), (8, (sc (.bool false))), (9, (.t (.c (.loc 35 0)))), (11, (.t (.c (.d (.sl (List.map encOp (scanM ((madeM l).1) fr to))))))), (59, (.t (.c (.d (.sl (List.map encOp (scanM ((madeM l).1) fr to))))))), (60, (sc (.int .i64 (List.length (scanM ((madeM l).1) fr to) : Int)))), (61, (sc (.int .i64 0)))], [(35, (.cells 51 [(.d (.ptr [(encT ((madeM l).1))]))]))], []⟩ [⟨(Go.Op.call (Go.Call.mk (Go.Callee.builtin Go.Builtin.len) #[(Go.Operand.tmp 59)] #[23])), 3, [(.t (.c (.d (.sl (List.map encOp (scanM ((madeM l).1) fr to))))))], [], (sc (.int .i64 (List.length (scanM ((madeM l).1) fr to) : Int))), []⟩] mixed (by kernel_rfl) ⟨tri_len_map tab_ok rfl, trivial⟩ ?_
                refine peel_seq ?_
                refine awp_block ?_
                refine awp_len 11 rfl (fun hlen8 => ?_)
                refine awp_loopP (ι := Nat) (fun x => ⟨130, [(1, (sc (.string fr))), (2, (sc (.string mid))), (3, (sc (.string to))), (8, (sc (.bool false))), (9, (.t (.c (.loc 35 0)))), (11, (.t (.c (.d (.sl (List.map encOp (scanM ((madeM l).1) fr to))))))), (59, (.t (.c (.d (.sl (List.map encOp (scanM ((madeM l).1) fr to))))))), (60, (sc (.int .i64 (List.length (scanM ((madeM l).1) fr to) : Int)))), (61, (sc (.int .i64 (x : Int))))], [(35, (.cells 51 [(.d (.ptr [(encT ((madeM l).1))]))]))], []⟩) (fun x => x ≤ List.length (scanM ((madeM l).1) fr to) ∧ (True) ∧ True) (fun x => List.length (scanM ((madeM l).1) fr to) - x) (0) rfl ⟨Nat.zero_le _, trivial, trivial⟩ ?_
                rintro k9 ⟨hk10, hx11, hJ12⟩
                try simp only at hk10 hx11 hJ12
                refine awp_seq ?_
                refine awp_region_keep tab_ok boxes [] [1, 2, 3, 8, 9, 11, 59, 60, 61, 62] [35] ⟨130, [(1, (sc (.string fr))), (2, (sc (.string mid))), (3, (sc (.string to))), (8, (sc (.bool false))), (9, (.t (.c (.loc 35 0)))), (11, (.t (.c (.d (.sl (List.map encOp (scanM ((madeM l).1) fr to))))))), (59, (.t (.c (.d (.sl (List.map encOp (scanM ((madeM l).1) fr to))))))), (60, (sc (.int .i64 (List.length (scanM ((madeM l).1) fr to) : Int)))), (61, (sc (.int .i64 (k9 : Int)))), (62, (sc (.bool (decide ((k9 : Int) < (List.length (scanM ((madeM l).1) fr to) : Int))))))], [(35, (.cells 51 [(.d (.ptr [(encT ((madeM l).1))]))]))], []⟩ [] mixed (by kernel_rfl) trivial ?_
                refine peel_seq ?_
                refine awp_seq ?_
                refine awp_cond (b := (decide ((k9 : Int) < (List.length (scanM ((madeM l).1) fr to) : Int)))) rfl (fun hc13 => ?_) (fun hc13 => ?_)
                · skip
                  have hc13p := of_decide_eq_true hc13
                  refine awp_skip ?_
                  refine peel_seq ?_
                  refine awp_seq ?_
                  refine awp_block ?_
                  refine awp_seq ?_
                  obtain ⟨⟨key17, has18, val19⟩, ha15, hd16⟩ := at_drop (l := (scanM ((madeM l).1) fr to)) (k := k9) (by (try simp only [List.length_map] at *); omega)
                  obtain ⟨n20, n21, n22, n23⟩ := scan_at (made_srt l) ‹_›
                  refine awp_region_keep tab_ok boxes [(0, ⟨[], (.t (.c (.d (.ptr [(.v (.string key17)), (.v (.bool has18)), (.v (.string val19))])))), some []⟩)] [1, 2, 3, 8, 9, 11, 13, 59, 60, 61] [13, 35] ⟨130, [(1, (sc (.string fr))), (2, (sc (.string mid))), (3, (sc (.string to))), (8, (sc (.bool false))), (9, (.t (.c (.loc 35 0)))), (11, (.t (.c (.d (.sl (List.map encOp (scanM ((madeM l).1) fr to))))))), (13, (.t (.c (.loc 13 0)))), (59, (.t (.c (.d (.sl (List.map encOp (scanM ((madeM l).1) fr to))))))), (60, (sc (.int .i64 (List.length (scanM ((madeM l).1) fr to) : Int)))), (61, (sc (.int .i64 (k9 : Int))))], [(13, (.cells 35 [(.d (.v (.string key17))), (.d (.v (.bool has18))), (.d (.v (.string val19)))])), (35, (.cells 51 [(.d (.ptr [(encT ((madeM l).1))]))]))], []⟩ [⟨(Go.Op.indexAddr 23 (Go.Operand.tmp 59) (Go.Operand.tmp 61)), 0, [(.t (.c (.d (.sl (List.map encOp (scanM ((madeM l).1) fr to)))))), (sc (.int .i64 (k9 : Int)))], [], (.t (.c (.d (.ptr [(.v (.string key17)), (.v (.bool has18)), (.v (.string val19))])))), []⟩] mixed (by kernel_rfl) ⟨tri_index_sl (e := 35) (sz := 3) (bytes := 40) (i := k9) tab_ok rfl (at_map encOp ha15) (all_map fun _ => rfl), trivial⟩ ?_
                  refine peel_seq ?_
                  refine awp_seq ?_
                  refine awp_region_keep tab_ok boxes [(3, ⟨[35], (.tup [(.c (.d (.v (.string (Tr.getT ((madeM l).1) key17).1)))), (.c (.d (.v (.bool (Tr.getT ((madeM l).1) key17).2))))]), none⟩)] [1, 2, 3, 8, 9, 11, 13, 14, 15, 59, 60, 61] [13, 35] ⟨130, [(1, (sc (.string fr))), (2, (sc (.string mid))), (3, (sc (.string to))), (8, (sc (.bool false))), (9, (.t (.c (.loc 35 0)))), (11, (.t (.c (.d (.sl (List.map encOp (scanM ((madeM l).1) fr to))))))), (13, (.t (.c (.loc 13 0)))), (14, (sc (.string (Tr.getT ((madeM l).1) key17).1))), (15, (sc (.bool (Tr.getT ((madeM l).1) key17).2))), (59, (.t (.c (.d (.sl (List.map encOp (scanM ((madeM l).1) fr to))))))), (60, (sc (.int .i64 (List.length (scanM ((madeM l).1) fr to) : Int)))), (61, (sc (.int .i64 (k9 : Int))))], [(13, (.cells 35 [(.d (.v (.string key17))), (.d (.v (.bool has18))), (.d (.v (.string val19)))])), (35, (.cells 51 [(.d (.ptr [(encT ((madeM l).1))]))]))], []⟩ [⟨(Go.Op.call (Go.Call.mk (Go.Callee.value (Go.Operand.func 20)) #[(Go.Operand.tmp 66), (Go.Operand.tmp 68)] #[28, 9])), 53, [(sc (.func (.func 20) #[] #[])), (.t (.c (.loc 35 0))), (sc (.string key17))], [(35, (.cells 51 [(.d (.ptr [(encT ((madeM l).1))]))]))], (.tup [(.c (.d (.v (.string (Tr.getT ((madeM l).1) key17).1)))), (.c (.d (.v (.bool (Tr.getT ((madeM l).1) key17).2))))]), [(35, (.cells 51 [(.d (.ptr [(encT ((madeM l).1))]))]))]⟩] mixed (by kernel_rfl) ⟨tri_call (Sat.sw 5000 35 (k_Get ((madeM l).1) key17)), trivial⟩ ?_
                  refine peel_seq ?_
                  refine awp_seq ?_
                  cases hb24 : (Tr.getT ((madeM l).1) key17).2 with
                  | false =>
                    refine awp_region_keep tab_ok boxes [] [1, 2, 3, 8, 9, 11, 59, 60, 61, 100] [35] ⟨130, [(1, (sc (.string fr))), (2, (sc (.string mid))), (3, (sc (.string to))), (8, (sc (.bool false))), (9, (.t (.c (.loc 35 0)))), (11, (.t (.c (.d (.sl (List.map encOp (scanM ((madeM l).1) fr to))))))), (59, (.t (.c (.d (.sl (List.map encOp (scanM ((madeM l).1) fr to))))))), (60, (sc (.int .i64 (List.length (scanM ((madeM l).1) fr to) : Int)))), (61, (sc (.int .i64 (k9 : Int)))), (100, (sc (.bool true)))], [(35, (.cells 51 [(.d (.ptr [(encT ((madeM l).1))]))]))], []⟩ [] mixed (by kernel_rfl) trivial ?_
                    refine peel_seq ?_
                    refine awp_true rfl ?_
                    refine awp_seq ?_
                    refine awp_region_keep tab_ok boxes [] [1, 2, 3, 8, 9, 11, 59, 60, 61] [35] ⟨130, [(1, (sc (.string fr))), (2, (sc (.string mid))), (3, (sc (.string to))), (8, (sc (.bool false))), (9, (.t (.c (.loc 35 0)))), (11, (.t (.c (.d (.sl (List.map encOp (scanM ((madeM l).1) fr to))))))), (59, (.t (.c (.d (.sl (List.map encOp (scanM ((madeM l).1) fr to))))))), (60, (sc (.int .i64 (List.length (scanM ((madeM l).1) fr to) : Int)))), (61, (sc (.int .i64 (k9 : Int))))], [(35, (.cells 51 [(.d (.ptr [(encT ((madeM l).1))]))]))], []⟩ [] mixed (by kernel_rfl) trivial ?_
                    refine peel_seq ?_
                    refine awp_ret ?_
                    refine peel_block_ret ?_
                    refine peel_seq_ret ?_
                    refine peel_seq_ret ?_
                    refine peel_block_ret ?_
                    refine peel_seq_ret ?_
                    exact ends_ret rfl (show some (sc (.bool false)) = some (sc (.bool true)) from by (have hs := made_srt l); (have e1 := @scan_self (madeM l).1 to hs); (have e2 := @scan_split (madeM l).1 fr mid to hs); (have e3 := eqOps_self); simp_all) rfl
                  | true =>
                    cases hb25 : (eqS (Tr.getT ((madeM l).1) key17).1 val19) with
                    | false =>
                      have hb25p := eqS_false hb25
                      refine awp_region_keep tab_ok boxes [(6, ⟨[], (sc (.bool true)), some []⟩)] [1, 2, 3, 8, 9, 11, 59, 60, 61, 100] [35] ⟨130, [(1, (sc (.string fr))), (2, (sc (.string mid))), (3, (sc (.string to))), (8, (sc (.bool false))), (9, (.t (.c (.loc 35 0)))), (11, (.t (.c (.d (.sl (List.map encOp (scanM ((madeM l).1) fr to))))))), (59, (.t (.c (.d (.sl (List.map encOp (scanM ((madeM l).1) fr to))))))), (60, (sc (.int .i64 (List.length (scanM ((madeM l).1) fr to) : Int)))), (61, (sc (.int .i64 (k9 : Int)))), (100, (sc (.bool true)))], [(35, (.cells 51 [(.d (.ptr [(encT ((madeM l).1))]))]))], []⟩ [⟨(Go.Op.binOp Go.BinOp.neq 9 (Go.Operand.tmp 75) (Go.Operand.tmp 77) 9), 4, [(sc (.string (Tr.getT ((madeM l).1) key17).1)), (sc (.string val19))], [], (sc (.bool true)), []⟩] mixed (by kernel_rfl) ⟨tri_as tri_str_neq (by rw [hb25]; rfl), trivial⟩ ?_
                      refine peel_seq ?_
                      refine awp_true rfl ?_
                      refine awp_seq ?_
                      refine awp_region_keep tab_ok boxes [] [1, 2, 3, 8, 9, 11, 59, 60, 61] [35] ⟨130, [(1, (sc (.string fr))), (2, (sc (.string mid))), (3, (sc (.string to))), (8, (sc (.bool false))), (9, (.t (.c (.loc 35 0)))), (11, (.t (.c (.d (.sl (List.map encOp (scanM ((madeM l).1) fr to))))))), (59, (.t (.c (.d (.sl (List.map encOp (scanM ((madeM l).1) fr to))))))), (60, (sc (.int .i64 (List.length (scanM ((madeM l).1) fr to) : Int)))), (61, (sc (.int .i64 (k9 : Int))))], [(35, (.cells 51 [(.d (.ptr [(encT ((madeM l).1))]))]))], []⟩ [] mixed (by kernel_rfl) trivial ?_
                      refine peel_seq ?_
                      refine awp_ret ?_
                      refine peel_block_ret ?_
                      refine peel_seq_ret ?_
                      refine peel_seq_ret ?_
                      refine peel_block_ret ?_
                      refine peel_seq_ret ?_
                      exact ends_ret rfl (show some (sc (.bool false)) = some (sc (.bool true)) from by (have hs := made_srt l); (have e1 := @scan_self (madeM l).1 to hs); (have e2 := @scan_split (madeM l).1 fr mid to hs); (have e3 := eqOps_self); simp_all) rfl
                    | true =>
                      have hb25p := eqS_true hb25
                      cases has18 with
                      | false =>
                        refine awp_region_keep tab_ok boxes [(6, ⟨[], (sc (.bool false)), some []⟩)] [1, 2, 3, 8, 9, 11, 59, 60, 61, 100] [35] ⟨130, [(1, (sc (.string fr))), (2, (sc (.string mid))), (3, (sc (.string to))), (8, (sc (.bool false))), (9, (.t (.c (.loc 35 0)))), (11, (.t (.c (.d (.sl (List.map encOp (scanM ((madeM l).1) fr to))))))), (59, (.t (.c (.d (.sl (List.map encOp (scanM ((madeM l).1) fr to))))))), (60, (sc (.int .i64 (List.length (scanM ((madeM l).1) fr to) : Int)))), (61, (sc (.int .i64 (k9 : Int)))), (100, (sc (.bool true)))], [(35, (.cells 51 [(.d (.ptr [(encT ((madeM l).1))]))]))], []⟩ [⟨(Go.Op.binOp Go.BinOp.neq 9 (Go.Operand.tmp 75) (Go.Operand.tmp 77) 9), 4, [(sc (.string (Tr.getT ((madeM l).1) key17).1)), (sc (.string val19))], [], (sc (.bool false)), []⟩] mixed (by kernel_rfl) ⟨tri_as tri_str_neq (by rw [hb25]; rfl), trivial⟩ ?_
                        refine peel_seq ?_
                        refine awp_true rfl ?_
                        refine awp_seq ?_
                        refine awp_region_keep tab_ok boxes [] [1, 2, 3, 8, 9, 11, 59, 60, 61] [35] ⟨130, [(1, (sc (.string fr))), (2, (sc (.string mid))), (3, (sc (.string to))), (8, (sc (.bool false))), (9, (.t (.c (.loc 35 0)))), (11, (.t (.c (.d (.sl (List.map encOp (scanM ((madeM l).1) fr to))))))), (59, (.t (.c (.d (.sl (List.map encOp (scanM ((madeM l).1) fr to))))))), (60, (sc (.int .i64 (List.length (scanM ((madeM l).1) fr to) : Int)))), (61, (sc (.int .i64 (k9 : Int))))], [(35, (.cells 51 [(.d (.ptr [(encT ((madeM l).1))]))]))], []⟩ [] mixed (by kernel_rfl) trivial ?_
                        refine peel_seq ?_
                        refine awp_ret ?_
                        refine peel_block_ret ?_
                        refine peel_seq_ret ?_
                        refine peel_seq_ret ?_
                        refine peel_block_ret ?_
                        refine peel_seq_ret ?_
                        exact ends_ret rfl (show some (sc (.bool false)) = some (sc (.bool true)) from by (have hs := made_srt l); (have e1 := @scan_self (madeM l).1 to hs); (have e2 := @scan_split (madeM l).1 fr mid to hs); (have e3 := eqOps_self); simp_all) rfl
                      | true =>
                        cases hb26 : (ltS key17 fr) with
                        | false =>
                          refine awp_region_keep tab_ok boxes [(6, ⟨[], (sc (.bool false)), some []⟩), (17, ⟨[], (sc (.bool false)), some []⟩), (21, ⟨[], (sc (.bool true)), some []⟩), (26, ⟨[], (sc (.bool (!(ltS key17 to)))), some []⟩)] [1, 2, 3, 8, 9, 11, 59, 60, 61, 100] [35] ⟨130, [(1, (sc (.string fr))), (2, (sc (.string mid))), (3, (sc (.string to))), (8, (sc (.bool false))), (9, (.t (.c (.loc 35 0)))), (11, (.t (.c (.d (.sl (List.map encOp (scanM ((madeM l).1) fr to))))))), (59, (.t (.c (.d (.sl (List.map encOp (scanM ((madeM l).1) fr to))))))), (60, (sc (.int .i64 (List.length (scanM ((madeM l).1) fr to) : Int)))), (61, (sc (.int .i64 (k9 : Int)))), (100, (sc (.bool (!(ltS key17 to)))))], [(35, (.cells 51 [(.d (.ptr [(encT ((madeM l).1))]))]))], []⟩ [⟨(Go.Op.binOp Go.BinOp.neq 9 (Go.Operand.tmp 75) (Go.Operand.tmp 77) 9), 4, [(sc (.string (Tr.getT ((madeM l).1) key17).1)), (sc (.string val19))], [], (sc (.bool false)), []⟩, ⟨(Go.Op.binOp Go.BinOp.lss 9 (Go.Operand.tmp 87) (Go.Operand.tmp 88) 9), 4, [(sc (.string key17)), (sc (.string fr))], [], (sc (.bool false)), []⟩, ⟨(Go.Op.binOp Go.BinOp.neq 9 (Go.Operand.tmp 92) (Go.Operand.const (Go.Value.string (ByteArray.mk #[]))) 9), 4, [(sc (.string to)), (sc (.string ⟨#[]⟩))], [], (sc (.bool true)), []⟩, ⟨(Go.Op.binOp Go.BinOp.geq 9 (Go.Operand.tmp 96) (Go.Operand.tmp 97) 9), 4, [(sc (.string key17)), (sc (.string to))], [], (sc (.bool (!(ltS key17 to)))), []⟩] mixed (by kernel_rfl) ⟨tri_as tri_str_neq (by rw [hb25]; rfl), tri_as tri_str_lss hb26, tri_as tri_str_neq (by rw [hb6]; rfl), tri_str_geq, trivial⟩ ?_
                          refine peel_seq ?_
                          refine awp_cond (b := (!(ltS key17 to))) rfl (fun hc27 => ?_) (fun hc27 => ?_)
                          · skip
                            have hc27n : (ltS key17 to) = false := by simpa using hc27
                            refine awp_seq ?_
                            refine awp_region_keep tab_ok boxes [] [1, 2, 3, 8, 9, 11, 59, 60, 61] [35] ⟨130, [(1, (sc (.string fr))), (2, (sc (.string mid))), (3, (sc (.string to))), (8, (sc (.bool false))), (9, (.t (.c (.loc 35 0)))), (11, (.t (.c (.d (.sl (List.map encOp (scanM ((madeM l).1) fr to))))))), (59, (.t (.c (.d (.sl (List.map encOp (scanM ((madeM l).1) fr to))))))), (60, (sc (.int .i64 (List.length (scanM ((madeM l).1) fr to) : Int)))), (61, (sc (.int .i64 (k9 : Int))))], [(35, (.cells 51 [(.d (.ptr [(encT ((madeM l).1))]))]))], []⟩ [] mixed (by kernel_rfl) trivial ?_
                            refine peel_seq ?_
                            refine awp_ret ?_
                            refine peel_block_ret ?_
                            refine peel_seq_ret ?_
                            refine peel_seq_ret ?_
                            refine peel_block_ret ?_
                            refine peel_seq_ret ?_
                            exact ends_ret rfl (show some (sc (.bool false)) = some (sc (.bool true)) from by (have hs := made_srt l); (have e1 := @scan_self (madeM l).1 to hs); (have e2 := @scan_split (madeM l).1 fr mid to hs); (have e3 := eqOps_self); simp_all) rfl
                          · skip
                            have hc27n : (ltS key17 to) = true := by simpa using hc27
                            refine q_keep [1, 2, 3, 8, 9, 11, 59, 60, 61] [35] ?_
                            refine awp_skip ?_
                            refine peel_block ?_
                            refine peel_seq ?_
                            refine awp_region_keep tab_ok boxes [(0, ⟨[], (sc (.int .i64 ((k9 : Int) + 1))), some []⟩)] [1, 2, 3, 8, 9, 11, 59, 60, 61] [35] ⟨130, [(1, (sc (.string fr))), (2, (sc (.string mid))), (3, (sc (.string to))), (8, (sc (.bool false))), (9, (.t (.c (.loc 35 0)))), (11, (.t (.c (.d (.sl (List.map encOp (scanM ((madeM l).1) fr to))))))), (59, (.t (.c (.d (.sl (List.map encOp (scanM ((madeM l).1) fr to))))))), (60, (sc (.int .i64 (List.length (scanM ((madeM l).1) fr to) : Int)))), (61, (sc (.int .i64 ((k9 : Int) + 1))))], [(35, (.cells 51 [(.d (.ptr [(encT ((madeM l).1))]))]))], []⟩ [⟨(Go.Op.binOp Go.BinOp.add 3 (Go.Operand.tmp 61) (Go.Operand.const (Go.Value.int Go.IntKind.i64 1)) 3), 3, [(sc (.int .i64 (k9 : Int))), (sc (.int .i64 1))], [], (sc (.int .i64 ((k9 : Int) + 1))), []⟩] mixed (by kernel_rfl) ⟨tri_int ((k9 : Int) + 1) (wrap_i64 (by omega)), trivial⟩ ?_
                            exact peel_round (k9 + 1) rfl ⟨by (try simp only [List.length_map] at *); omega, trivial, by trivial⟩ (by (try simp only [List.length_map] at *); omega)
                        | true =>
                          refine awp_region_keep tab_ok boxes [(6, ⟨[], (sc (.bool false)), some []⟩), (17, ⟨[], (sc (.bool true)), some []⟩)] [1, 2, 3, 8, 9, 11, 59, 60, 61, 100] [35] ⟨130, [(1, (sc (.string fr))), (2, (sc (.string mid))), (3, (sc (.string to))), (8, (sc (.bool false))), (9, (.t (.c (.loc 35 0)))), (11, (.t (.c (.d (.sl (List.map encOp (scanM ((madeM l).1) fr to))))))), (59, (.t (.c (.d (.sl (List.map encOp (scanM ((madeM l).1) fr to))))))), (60, (sc (.int .i64 (List.length (scanM ((madeM l).1) fr to) : Int)))), (61, (sc (.int .i64 (k9 : Int)))), (100, (sc (.bool true)))], [(35, (.cells 51 [(.d (.ptr [(encT ((madeM l).1))]))]))], []⟩ [⟨(Go.Op.binOp Go.BinOp.neq 9 (Go.Operand.tmp 75) (Go.Operand.tmp 77) 9), 4, [(sc (.string (Tr.getT ((madeM l).1) key17).1)), (sc (.string val19))], [], (sc (.bool false)), []⟩, ⟨(Go.Op.binOp Go.BinOp.lss 9 (Go.Operand.tmp 87) (Go.Operand.tmp 88) 9), 4, [(sc (.string key17)), (sc (.string fr))], [], (sc (.bool true)), []⟩] mixed (by kernel_rfl) ⟨tri_as tri_str_neq (by rw [hb25]; rfl), tri_as tri_str_lss hb26, trivial⟩ ?_
                          refine peel_seq ?_
                          refine awp_true rfl ?_
                          refine awp_seq ?_
                          refine awp_region_keep tab_ok boxes [] [1, 2, 3, 8, 9, 11, 59, 60, 61] [35] ⟨130, [(1, (sc (.string fr))), (2, (sc (.string mid))), (3, (sc (.string to))), (8, (sc (.bool false))), (9, (.t (.c (.loc 35 0)))), (11, (.t (.c (.d (.sl (List.map encOp (scanM ((madeM l).1) fr to))))))), (59, (.t (.c (.d (.sl (List.map encOp (scanM ((madeM l).1) fr to))))))), (60, (sc (.int .i64 (List.length (scanM ((madeM l).1) fr to) : Int)))), (61, (sc (.int .i64 (k9 : Int))))], [(35, (.cells 51 [(.d (.ptr [(encT ((madeM l).1))]))]))], []⟩ [] mixed (by kernel_rfl) trivial ?_
                          refine peel_seq ?_
                          refine awp_ret ?_
                          refine peel_block_ret ?_
                          refine peel_seq_ret ?_
                          refine peel_seq_ret ?_
                          refine peel_block_ret ?_
                          refine peel_seq_ret ?_
                          exact ends_ret rfl (show some (sc (.bool false)) = some (sc (.bool true)) from by (have hs := made_srt l); (have e1 := @scan_self (madeM l).1 to hs); (have e2 := @scan_split (madeM l).1 fr mid to hs); (have e3 := eqOps_self); simp_all) rfl
                · skip
                  have hc13p := of_decide_eq_false hc13
                  refine awp_exit ?_
                  refine peel_seq_exit ?_
                  refine peel_seq_exit ?_
                  refine peel_hit ?_
                  refine peel_seq ?_
                  refine awp_seq ?_
                  refine awp_seq ?_
                  cases hb28 : (eqS fr to) with
                  | false =>
                    have hb28p := eqS_false hb28
                    refine awp_region_keep tab_ok boxes [(2, ⟨[], (sc (.bool false)), some []⟩)] [1, 2, 3, 8, 9, 11, 108] [35] ⟨130, [(1, (sc (.string fr))), (2, (sc (.string mid))), (3, (sc (.string to))), (8, (sc (.bool false))), (9, (.t (.c (.loc 35 0)))), (11, (.t (.c (.d (.sl (List.map encOp (scanM ((madeM l).1) fr to))))))), (108, (sc (.bool false)))], [(35, (.cells 51 [(.d (.ptr [(encT ((madeM l).1))]))]))], []⟩ [⟨(Go.Op.binOp Go.BinOp.eql 9 (Go.Operand.tmp 102) (Go.Operand.tmp 103) 9), 4, [(sc (.string fr)), (sc (.string to))], [], (sc (.bool false)), []⟩] mixed (by kernel_rfl) ⟨tri_as tri_str_eql hb28, trivial⟩ ?_
                    refine peel_seq ?_
                    refine awp_false rfl ?_
                    refine awp_skip ?_
                    refine peel_seq ?_
                    refine awp_seq ?_
                    cases hb29 : (eqL eqOpB (scanM ((madeM l).1) fr to) ((scanM ((madeM l).1) fr mid) ++ (scanM ((madeM l).1) mid to))) with
                    | false =>
                      refine awp_region_keep tab_ok boxes [(4, ⟨[35], (.t (.c (.d (.sl (List.map encOp (scanM ((madeM l).1) fr mid)))))), none⟩), (8, ⟨[35], (.t (.c (.d (.sl (List.map encOp (scanM ((madeM l).1) mid to)))))), none⟩), (9, ⟨[], (.t (.c (.d (.sl [[(.sl (List.map encOp (scanM ((madeM l).1) fr mid)))], [(.sl (List.map encOp (scanM ((madeM l).1) mid to)))]])))), some []⟩), (10, ⟨[], (.t (.c (.d (.sl (List.map encOp ((scanM ((madeM l).1) fr mid) ++ (scanM ((madeM l).1) mid to))))))), some []⟩), (11, ⟨[], (sc (.bool false)), some []⟩)] [8] [] ⟨130, [(8, (sc (.bool false)))], [], []⟩ [⟨(Go.Op.call (Go.Call.mk (Go.Callee.value (Go.Operand.func 17)) #[(Go.Operand.tmp 116), (Go.Operand.tmp 117), (Go.Operand.tmp 118)] #[28, 9, 9])), 23, [(sc (.func (.func 17) #[] #[])), (.t (.c (.loc 35 0))), (sc (.string fr)), (sc (.string mid))], [(35, (.cells 51 [(.d (.ptr [(encT ((madeM l).1))]))]))], (.t (.c (.d (.sl (List.map encOp (scanM ((madeM l).1) fr mid)))))), [(35, (.cells 51 [(.d (.ptr [(encT ((madeM l).1))]))]))]⟩, ⟨(Go.Op.call (Go.Call.mk (Go.Callee.value (Go.Operand.func 17)) #[(Go.Operand.tmp 120), (Go.Operand.tmp 121), (Go.Operand.tmp 122)] #[28, 9, 9])), 23, [(sc (.func (.func 17) #[] #[])), (.t (.c (.loc 35 0))), (sc (.string mid)), (sc (.string to))], [(35, (.cells 51 [(.d (.ptr [(encT ((madeM l).1))]))]))], (.t (.c (.d (.sl (List.map encOp (scanM ((madeM l).1) mid to)))))), [(35, (.cells 51 [(.d (.ptr [(encT ((madeM l).1))]))]))]⟩, ⟨(Go.Op.buildSlice 86 2 #[(0, (Go.Operand.tmp 119)), (1, (Go.Operand.tmp 123))]), 86, [(.t (.c (.d (.sl (List.map encOp (scanM ((madeM l).1) fr mid)))))), (.t (.c (.d (.sl (List.map encOp (scanM ((madeM l).1) mid to))))))], [], (.t (.c (.d (.sl [[(.sl (List.map encOp (scanM ((madeM l).1) fr mid)))], [(.sl (List.map encOp (scanM ((madeM l).1) mid to)))]])))), []⟩, ⟨(Go.Op.call (Go.Call.mk (Go.Callee.value (Go.Operand.func 23)) #[(Go.Operand.tmp 124)] #[86])), 23, [(sc (.func (.func 23) #[] #[])), (.t (.c (.d (.sl [[(.sl (List.map encOp (scanM ((madeM l).1) fr mid)))], [(.sl (List.map encOp (scanM ((madeM l).1) mid to)))]]))))], [], (.t (.c (.d (.sl (List.map encOp ((scanM ((madeM l).1) fr mid) ++ (scanM ((madeM l).1) mid to))))))), []⟩, ⟨(Go.Op.call (Go.Call.mk (Go.Callee.value (Go.Operand.func 16)) #[(Go.Operand.tmp 115), (Go.Operand.tmp 125)] #[23, 23])), 4, [(sc (.func (.func 16) #[] #[])), (.t (.c (.d (.sl (List.map encOp (scanM ((madeM l).1) fr to)))))), (.t (.c (.d (.sl (List.map encOp ((scanM ((madeM l).1) fr mid) ++ (scanM ((madeM l).1) mid to)))))))], [], (sc (.bool false)), []⟩] mixed (by kernel_rfl) ⟨tri_call (Sat.sw 5000 35 (k_Scan ((madeM l).1) fr mid (by (have hM := madeM_size (l := l) (shortM_len (by assumption))); (have s1 := scanM_len (madeM l).1 fr mid); (have s2 := scanM_len (madeM l).1 mid to); omega))), tri_call (Sat.sw 5000 35 (k_Scan ((madeM l).1) mid to (by (have hM := madeM_size (l := l) (shortM_len (by assumption))); (have s1 := scanM_len (madeM l).1 fr mid); (have s2 := scanM_len (madeM l).1 mid to); omega))), tri_slice_data (e := 23) (sz := 1) (bytes := 24) tab_ok (by kernel_rfl) rfl, tri_call (g_Concat (scanM ((madeM l).1) fr mid) (scanM ((madeM l).1) mid to) (by (have hM := madeM_size (l := l) (shortM_len (by assumption))); (have s1 := scanM_len (madeM l).1 fr mid); (have s2 := scanM_len (madeM l).1 mid to); omega)), tri_as (tri_call (l_EqualOp (scanM ((madeM l).1) fr to) ((scanM ((madeM l).1) fr mid) ++ (scanM ((madeM l).1) mid to)))) hb29, trivial⟩ ?_
                      refine peel_seq ?_
                      refine awp_ret ?_
                      exact ends_ret rfl (show some (sc (.bool false)) = some (sc (.bool true)) from by (have hs := made_srt l); (have e1 := @scan_self (madeM l).1 to hs); (have e2 := @scan_split (madeM l).1 fr mid to hs); (have e3 := eqOps_self); simp_all) rfl
                    | true =>
                      refine awp_region_keep tab_ok boxes [(4, ⟨[35], (.t (.c (.d (.sl (List.map encOp (scanM ((madeM l).1) fr mid)))))), none⟩), (8, ⟨[35], (.t (.c (.d (.sl (List.map encOp (scanM ((madeM l).1) mid to)))))), none⟩), (9, ⟨[], (.t (.c (.d (.sl [[(.sl (List.map encOp (scanM ((madeM l).1) fr mid)))], [(.sl (List.map encOp (scanM ((madeM l).1) mid to)))]])))), some []⟩), (10, ⟨[], (.t (.c (.d (.sl (List.map encOp ((scanM ((madeM l).1) fr mid) ++ (scanM ((madeM l).1) mid to))))))), some []⟩), (11, ⟨[], (sc (.bool true)), some []⟩), (13, ⟨[], (sc (.bool true)), some []⟩)] [8] [] ⟨130, [(8, (sc (.bool true)))], [], []⟩ [⟨(Go.Op.call (Go.Call.mk (Go.Callee.value (Go.Operand.func 17)) #[(Go.Operand.tmp 116), (Go.Operand.tmp 117), (Go.Operand.tmp 118)] #[28, 9, 9])), 23, [(sc (.func (.func 17) #[] #[])), (.t (.c (.loc 35 0))), (sc (.string fr)), (sc (.string mid))], [(35, (.cells 51 [(.d (.ptr [(encT ((madeM l).1))]))]))], (.t (.c (.d (.sl (List.map encOp (scanM ((madeM l).1) fr mid)))))), [(35, (.cells 51 [(.d (.ptr [(encT ((madeM l).1))]))]))]⟩, ⟨(Go.Op.call (Go.Call.mk (Go.Callee.value (Go.Operand.func 17)) #[(Go.Operand.tmp 120), (Go.Operand.tmp 121), (Go.Operand.tmp 122)] #[28, 9, 9])), 23, [(sc (.func (.func 17) #[] #[])), (.t (.c (.loc 35 0))), (sc (.string mid)), (sc (.string to))], [(35, (.cells 51 [(.d (.ptr [(encT ((madeM l).1))]))]))], (.t (.c (.d (.sl (List.map encOp (scanM ((madeM l).1) mid to)))))), [(35, (.cells 51 [(.d (.ptr [(encT ((madeM l).1))]))]))]⟩, ⟨(Go.Op.buildSlice 86 2 #[(0, (Go.Operand.tmp 119)), (1, (Go.Operand.tmp 123))]), 86, [(.t (.c (.d (.sl (List.map encOp (scanM ((madeM l).1) fr mid)))))), (.t (.c (.d (.sl (List.map encOp (scanM ((madeM l).1) mid to))))))], [], (.t (.c (.d (.sl [[(.sl (List.map encOp (scanM ((madeM l).1) fr mid)))], [(.sl (List.map encOp (scanM ((madeM l).1) mid to)))]])))), []⟩, ⟨(Go.Op.call (Go.Call.mk (Go.Callee.value (Go.Operand.func 23)) #[(Go.Operand.tmp 124)] #[86])), 23, [(sc (.func (.func 23) #[] #[])), (.t (.c (.d (.sl [[(.sl (List.map encOp (scanM ((madeM l).1) fr mid)))], [(.sl (List.map encOp (scanM ((madeM l).1) mid to)))]]))))], [], (.t (.c (.d (.sl (List.map encOp ((scanM ((madeM l).1) fr mid) ++ (scanM ((madeM l).1) mid to))))))), []⟩, ⟨(Go.Op.call (Go.Call.mk (Go.Callee.value (Go.Operand.func 16)) #[(Go.Operand.tmp 115), (Go.Operand.tmp 125)] #[23, 23])), 4, [(sc (.func (.func 16) #[] #[])), (.t (.c (.d (.sl (List.map encOp (scanM ((madeM l).1) fr to)))))), (.t (.c (.d (.sl (List.map encOp ((scanM ((madeM l).1) fr mid) ++ (scanM ((madeM l).1) mid to)))))))], [], (sc (.bool true)), []⟩, ⟨(Go.Op.call (Go.Call.mk (Go.Callee.value (Go.Operand.func 11)) #[] #[])), 4, [(sc (.func (.func 11) #[] #[]))], [], (sc (.bool true)), []⟩] mixed (by kernel_rfl) ⟨tri_call (Sat.sw 5000 35 (k_Scan ((madeM l).1) fr mid (by (have hM := madeM_size (l := l) (shortM_len (by assumption))); (have s1 := scanM_len (madeM l).1 fr mid); (have s2 := scanM_len (madeM l).1 mid to); omega))), tri_call (Sat.sw 5000 35 (k_Scan ((madeM l).1) mid to (by (have hM := madeM_size (l := l) (shortM_len (by assumption))); (have s1 := scanM_len (madeM l).1 fr mid); (have s2 := scanM_len (madeM l).1 mid to); omega))), tri_slice_data (e := 23) (sz := 1) (bytes := 24) tab_ok (by kernel_rfl) rfl, tri_call (g_Concat (scanM ((madeM l).1) fr mid) (scanM ((madeM l).1) mid to) (by (have hM := madeM_size (l := l) (shortM_len (by assumption))); (have s1 := scanM_len (madeM l).1 fr mid); (have s2 := scanM_len (madeM l).1 mid to); omega)), tri_as (tri_call (l_EqualOp (scanM ((madeM l).1) fr to) ((scanM ((madeM l).1) fr mid) ++ (scanM ((madeM l).1) mid to)))) hb29, tri_call (l_awake), trivial⟩ ?_
                      refine peel_seq ?_
                      refine awp_ret ?_
                      exact ends_ret rfl rfl rfl
                  | true =>
                    have hb28p := eqS_true hb28
                    refine awp_region_keep tab_ok boxes [(2, ⟨[], (sc (.bool true)), some []⟩), (5, ⟨[], (sc (.bool true)), some []⟩)] [1, 2, 3, 8, 9, 11, 108] [35] ⟨130, [(1, (sc (.string fr))), (2, (sc (.string mid))), (3, (sc (.string to))), (8, (sc (.bool false))), (9, (.t (.c (.loc 35 0)))), (11, (.t (.c (.d (.sl (List.map encOp (scanM ((madeM l).1) fr to))))))), (108, (sc (.bool true)))], [(35, (.cells 51 [(.d (.ptr [(encT ((madeM l).1))]))]))], []⟩ [⟨(Go.Op.binOp Go.BinOp.eql 9 (Go.Operand.tmp 102) (Go.Operand.tmp 103) 9), 4, [(sc (.string fr)), (sc (.string to))], [], (sc (.bool true)), []⟩, ⟨(Go.Op.binOp Go.BinOp.neq 9 (Go.Operand.tmp 106) (Go.Operand.const (Go.Value.string (ByteArray.mk #[]))) 9), 4, [(sc (.string to)), (sc (.string ⟨#[]⟩))], [], (sc (.bool true)), []⟩] mixed (by kernel_rfl) ⟨tri_as tri_str_eql hb28, tri_as tri_str_neq (by rw [hb6]; rfl), trivial⟩ ?_
                    refine peel_seq ?_
                    refine awp_true rfl ?_
                    refine awp_seq ?_
                    cases hb30 : ((List.length (scanM ((madeM l).1) fr to) : Int) == 0) with
                    | false =>
                      have hb30p : (List.length (scanM ((madeM l).1) fr to) : Int) ≠ 0 := by simpa using hb30
                      refine awp_region_keep tab_ok boxes [(1, ⟨[], (sc (.int .i64 (List.length (scanM ((madeM l).1) fr to) : Int))), none⟩), (2, ⟨[], (sc (.bool false)), some []⟩)] [1, 2, 3, 8, 9, 11] [35] ⟨130, [(1, (sc (.string fr))), (2, (sc (.string mid))), (3, (sc (.string to))), (8, (sc (.bool false))), (9, (.t (.c (.loc 35 0)))), (11, (.t (.c (.d (.sl (List.map encOp (scanM ((madeM l).1) fr to)))))))], [(35, (.cells 51 [(.d (.ptr [(encT ((madeM l).1))]))]))], []⟩ [⟨(Go.Op.call (Go.Call.mk (Go.Callee.builtin Go.Builtin.len) #[(Go.Operand.tmp 109)] #[23])), 3, [(.t (.c (.d (.sl (List.map encOp (scanM ((madeM l).1) fr to))))))], [], (sc (.int .i64 (List.length (scanM ((madeM l).1) fr to) : Int))), []⟩, ⟨(Go.Op.binOp Go.BinOp.eql 3 (Go.Operand.tmp 110) (Go.Operand.const (Go.Value.int Go.IntKind.i64 0)) 3), 4, [(sc (.int .i64 (List.length (scanM ((madeM l).1) fr to) : Int))), (sc (.int .i64 0))], [], (sc (.bool false)), []⟩] mixed (by kernel_rfl) ⟨tri_len_map tab_ok rfl, tri_scalar_eq [(.int .i64 (List.length (scanM ((madeM l).1) fr to) : Int)), (.int .i64 0)] (.bool ((List.length (scanM ((madeM l).1) fr to) : Int) == 0)) rfl rfl rfl (by kernel_rfl) (congrArg Value.bool hb30), trivial⟩ ?_
                      refine peel_seq ?_
                      refine awp_ret ?_
                      refine peel_seq_ret ?_
                      exact ends_ret rfl (show some (sc (.bool false)) = some (sc (.bool true)) from by (have hs := made_srt l); (have e1 := @scan_self (madeM l).1 to hs); (have e2 := @scan_split (madeM l).1 fr mid to hs); (have e3 := eqOps_self); simp_all) rfl
                    | true =>
                      have hb30p : (List.length (scanM ((madeM l).1) fr to) : Int) = 0 := by simpa using hb30
                      refine awp_region_keep tab_ok boxes [(1, ⟨[], (sc (.int .i64 (List.length (scanM ((madeM l).1) fr to) : Int))), none⟩), (2, ⟨[], (sc (.bool true)), some []⟩), (4, ⟨[], (sc (.bool true)), some []⟩)] [1, 2, 3, 8, 9, 11] [35] ⟨130, [(1, (sc (.string fr))), (2, (sc (.string mid))), (3, (sc (.string to))), (8, (sc (.bool true))), (9, (.t (.c (.loc 35 0)))), (11, (.t (.c (.d (.sl (List.map encOp (scanM ((madeM l).1) fr to)))))))], [(35, (.cells 51 [(.d (.ptr [(encT ((madeM l).1))]))]))], []⟩ [⟨(Go.Op.call (Go.Call.mk (Go.Callee.builtin Go.Builtin.len) #[(Go.Operand.tmp 109)] #[23])), 3, [(.t (.c (.d (.sl (List.map encOp (scanM ((madeM l).1) fr to))))))], [], (sc (.int .i64 (List.length (scanM ((madeM l).1) fr to) : Int))), []⟩, ⟨(Go.Op.binOp Go.BinOp.eql 3 (Go.Operand.tmp 110) (Go.Operand.const (Go.Value.int Go.IntKind.i64 0)) 3), 4, [(sc (.int .i64 (List.length (scanM ((madeM l).1) fr to) : Int))), (sc (.int .i64 0))], [], (sc (.bool true)), []⟩, ⟨(Go.Op.call (Go.Call.mk (Go.Callee.value (Go.Operand.func 11)) #[] #[])), 4, [(sc (.func (.func 11) #[] #[]))], [], (sc (.bool true)), []⟩] mixed (by kernel_rfl) ⟨tri_len_map tab_ok rfl, tri_scalar_eq [(.int .i64 (List.length (scanM ((madeM l).1) fr to) : Int)), (.int .i64 0)] (.bool ((List.length (scanM ((madeM l).1) fr to) : Int) == 0)) rfl rfl rfl (by kernel_rfl) (congrArg Value.bool hb30), tri_call (l_awake), trivial⟩ ?_
                      refine peel_seq ?_
                      refine awp_ret ?_
                      refine peel_seq_ret ?_
                      exact ends_ret rfl rfl rfl
            | true =>
              have hb6p := eqS_true hb6
              refine awp_region_keep tab_ok boxes [(1, ⟨[], (sc (.bool false)), some []⟩), (5, ⟨[], (sc (.bool false)), some []⟩), (9, ⟨[], (sc (.bool false)), some []⟩)] [1, 2, 3, 8, 9, 53] [35] ⟨130, [(1, (sc (.string fr))), (2, (sc (.string mid))), (3, (sc (.string to))), (8, (sc (.bool false))), (9, (.t (.c (.loc 35 0)))), (53, (sc (.bool false)))], [(35, (.cells 51 [(.d (.ptr [(encT ((madeM l).1))]))]))], []⟩ [⟨(Go.Op.binOp Go.BinOp.eql 9 (Go.Operand.tmp 38) (Go.Operand.const (Go.Value.string (ByteArray.mk #[]))) 9), 4, [(sc (.string mid)), (sc (.string ⟨#[]⟩))], [], (sc (.bool false)), []⟩, ⟨(Go.Op.binOp Go.BinOp.lss 9 (Go.Operand.tmp 41) (Go.Operand.tmp 42) 9), 4, [(sc (.string mid)), (sc (.string fr))], [], (sc (.bool false)), []⟩, ⟨(Go.Op.binOp Go.BinOp.neq 9 (Go.Operand.tmp 46) (Go.Operand.const (Go.Value.string (ByteArray.mk #[]))) 9), 4, [(sc (.string to)), (sc (.string ⟨#[]⟩))], [], (sc (.bool false)), []⟩] mixed (by kernel_rfl) ⟨tri_as tri_str_eql hb4, tri_as tri_str_lss hb5, tri_as tri_str_neq (by rw [hb6]; rfl), trivial⟩ ?_
              refine peel_seq ?_
              refine awp_false rfl ?_
              refine awp_skip ?_
              refine peel_seq ?_
              refine awp_seq ?_
              refine awp_region_keep tab_ok boxes [(3, ⟨[35], (.t (.c (.d (.sl (List.map encOp (scanM ((madeM l).1) fr to)))))), none⟩)] [1, 2, 3, 8, 9, 11] [35] ⟨130, [(1, (sc (.string fr))), (2, (sc (.string mid))), (3, (sc (.string to))), (8, (sc (.bool false))), (9, (.t (.c (.loc 35 0)))), (11, (.t (.c (.d (.sl (List.map encOp (scanM ((madeM l).1) fr to)))))))], [(35, (.cells 51 [(.d (.ptr [(encT ((madeM l).1))]))]))], []⟩ [⟨(Go.Op.call (Go.Call.mk (Go.Callee.value (Go.Operand.func 17)) #[(Go.Operand.tmp 55), (Go.Operand.tmp 56), (Go.Operand.tmp 57)] #[28, 9, 9])), 23, [(sc (.func (.func 17) #[] #[])), (.t (.c (.loc 35 0))), (sc (.string fr)), (sc (.string to))], [(35, (.cells 51 [(.d (.ptr [(encT ((madeM l).1))]))]))], (.t (.c (.d (.sl (List.map encOp (scanM ((madeM l).1) fr to)))))), [(35, (.cells 51 [(.d (.ptr [(encT ((madeM l).1))]))]))]⟩] mixed (by kernel_rfl) ⟨tri_call (Sat.sw 5000 35 (k_Scan ((madeM l).1) fr to (by (have hM := madeM_size (l := l) (shortM_len (by assumption))); (have s1 := scanM_len (madeM l).1 fr mid); (have s2 := scanM_len (madeM l).1 mid to); omega))), trivial⟩ ?_
              refine peel_seq ?_
              refine awp_seq ?_
              refine awp_seq ?_
              refine awp_region_keep tab_ok boxes [(1, ⟨[], (sc (.int .i64 (List.length (scanM ((madeM l).1) fr to) : Int))), none⟩)] [1, 2, 3, 8, 9, 11, 59, 60, 61] [35] ⟨130, [(1, (sc (.string fr))), (2, (sc (.string mid))), (3, (sc (.string to))), (8, (sc (.bool false))), (9, (.t (.c (.loc 35 0)))), (11, (.t (.c (.d (.sl (List.map encOp (scanM ((madeM l).1) fr to))))))), (59, (.t (.c (.d (.sl (List.map encOp (scanM ((madeM l).1) fr to))))))), (60, (sc (.int .i64 (List.length (scanM ((madeM l).1) fr to) : Int)))), (61, (sc (.int .i64 0)))], [(35, (.cells 51 [(.d (.ptr [(encT ((madeM l).1))]))]))], []⟩ [⟨(Go.Op.call (Go.Call.mk (Go.Callee.builtin Go.Builtin.len) #[(Go.Operand.tmp 59)] #[23])), 3, [(.t (.c (.d (.sl (List.map encOp (scanM ((madeM l).1) fr to))))))], [], (sc (.int .i64 (List.length (scanM ((madeM l).1) fr to) : Int))), []⟩] mixed (by kernel_rfl) ⟨tri_len_map tab_ok rfl, trivial⟩ ?_
              refine peel_seq ?_
              refine awp_block ?_
              refine awp_len 11 rfl (fun hlen31 => ?_)
              refine awp_loopP (ι := Nat) (fun x => ⟨130, [(1, (sc (.string fr))), (2, (sc (.string mid))), (3, (sc (.string to))), (8, (sc (.bool false))), (9, (.t (.c (.loc 35 0)))), (11, (.t (.c (.d (.sl (List.map encOp (scanM ((madeM l).1) fr to))))))), (59, (.t (.c (.d (.sl (List.map encOp (scanM ((madeM l).1) fr to))))))), (60, (sc (.int .i64 (List.length (scanM ((madeM l).1) fr to) : Int)))), (61, (sc (.int .i64 (x : Int))))], [(35, (.cells 51 [(.d (.ptr [(encT ((madeM l).1))]))]))], []⟩) (fun x => x ≤ List.length (scanM ((madeM l).1) fr to) ∧ (True) ∧ True) (fun x => List.length (scanM ((madeM l).1) fr to) - x) (0) rfl ⟨Nat.zero_le _, trivial, trivial⟩ ?_
              rintro k32 ⟨hk33, hx34, hJ35⟩
              try simp only at hk33 hx34 hJ35
              refine awp_seq ?_
              refine awp_region_keep tab_ok boxes [] [1, 2, 3, 8, 9, 11, 59, 60, 61, 62] [35] ⟨130, [(1, (sc (.string fr))), (2, (sc (.string mid))), (3, (sc (.string to))), (8, (sc (.bool false))), (9, (.t (.c (.loc 35 0)))), (11, (.t (.c (.d (.sl (List.map encOp (scanM ((madeM l).1) fr to))))))), (59, (.t (.c (.d (.sl (List.map encOp (scanM ((madeM l).1) fr to))))))), (60, (sc (.int .i64 (List.length (scanM ((madeM l).1) fr to) : Int)))), (61, (sc (.int .i64 (k32 : Int)))), (62, (sc (.bool (decide ((k32 : Int) < (List.length (scanM ((madeM l).1) fr to) : Int))))))], [(35, (.cells 51 [(.d (.ptr [(encT ((madeM l).1))]))]))], []⟩ [] mixed (by kernel_rfl) trivial ?_
              refine peel_seq ?_
              refine awp_seq ?_
              refine awp_cond (b := (decide ((k32 : Int) < (List.length (scanM ((madeM l).1) fr to) : Int)))) rfl (fun hc36 => ?_) (fun hc36 => ?_)
              · skip
                have hc36p := of_decide_eq_true hc36
                refine awp_skip ?_
                refine peel_seq ?_
                refine awp_seq ?_
                refine awp_block ?_
                refine awp_seq ?_
                obtain ⟨⟨key40, has41, val42⟩, ha38, hd39⟩ := at_drop (l := (scanM ((madeM l).1) fr to)) (k := k32) (by (try simp only [List.length_map] at *); omega)
                obtain ⟨n43, n44, n45, n46⟩ := scan_at (made_srt l) ‹_›
                refine awp_region_keep tab_ok boxes [(0, ⟨[], (.t (.c (.d (.ptr [(.v (.string key40)), (.v (.bool has41)), (.v (.string val42))])))), some []⟩)] [1, 2, 3, 8, 9, 11, 13, 59, 60, 61] [13, 35] ⟨130, [(1, (sc (.string fr))), (2, (sc (.string mid))), (3, (sc (.string to))), (8, (sc (.bool false))), (9, (.t (.c (.loc 35 0)))), (11, (.t (.c (.d (.sl (List.map encOp (scanM ((madeM l).1) fr to))))))), (13, (.t (.c (.loc 13 0)))), (59, (.t (.c (.d (.sl (List.map encOp (scanM ((madeM l).1) fr to))))))), (60, (sc (.int .i64 (List.length (scanM ((madeM l).1) fr to) : Int)))), (61, (sc (.int .i64 (k32 : Int))))], [(13, (.cells 35 [(.d (.v (.string key40))), (.d (.v (.bool has41))), (.d (.v (.string val42)))])), (35, (.cells 51 [(.d (.ptr [(encT ((madeM l).1))]))]))], []⟩ [⟨(Go.Op.indexAddr 23 (Go.Operand.tmp 59) (Go.Operand.tmp 61)), 0, [(.t (.c (.d (.sl (List.map encOp (scanM ((madeM l).1) fr to)))))), (sc (.int .i64 (k32 : Int)))], [], (.t (.c (.d (.ptr [(.v (.string key40)), (.v (.bool has41)), (.v (.string val42))])))), []⟩] mixed (by kernel_rfl) ⟨tri_index_sl (e := 35) (sz := 3) (bytes := 40) (i := k32) tab_ok rfl (at_map encOp ha38) (all_map fun _ => rfl), trivial⟩ ?_
                refine peel_seq ?_
                refine awp_seq ?_
                refine awp_region_keep tab_ok boxes [(3, ⟨[35], (.tup [(.c (.d (.v (.string (Tr.getT ((madeM l).1) key40).1)))), (.c (.d (.v (.bool (Tr.getT ((madeM l).1) key40).2))))]), none⟩)] [1, 2, 3, 8, 9, 11, 13, 14, 15, 59, 60, 61] [13, 35] ⟨130, [(1, (sc (.string fr))), (2, (sc (.string mid))), (3, (sc (.string to))), (8, (sc (.bool false))), (9, (.t (.c (.loc 35 0)))), (11, (.t (.c (.d (.sl (List.map encOp (scanM ((madeM l).1) fr to))))))), (13, (.t (.c (.loc 13 0)))), (14, (sc (.string (Tr.getT ((madeM l).1) key40).1))), (15, (sc (.bool (Tr.getT ((madeM l).1) key40).2))), (59, (.t (.c (.d (.sl (List.map encOp (scanM ((madeM l).1) fr to))))))), (60, (sc (.int .i64 (List.length (scanM ((madeM l).1) fr to) : Int)))), (61, (sc (.int .i64 (k32 : Int))))], [(13, (.cells 35 [(.d (.v (.string key40))), (.d (.v (.bool has41))), (.d (.v (.string val42)))])), (35, (.cells 51 [(.d (.ptr [(encT ((madeM l).1))]))]))], []⟩ [⟨(Go.Op.call (Go.Call.mk (Go.Callee.value (Go.Operand.func 20)) #[(Go.Operand.tmp 66), (Go.Operand.tmp 68)] #[28, 9])), 53, [(sc (.func (.func 20) #[] #[])), (.t (.c (.loc 35 0))), (sc (.string key40))], [(35, (.cells 51 [(.d (.ptr [(encT ((madeM l).1))]))]))], (.tup [(.c (.d (.v (.string (Tr.getT ((madeM l).1) key40).1)))), (.c (.d (.v (.bool (Tr.getT ((madeM l).1) key40).2))))]), [(35, (.cells 51 [(.d (.ptr [(encT ((madeM l).1))]))]))]⟩] mixed (by kernel_rfl) ⟨tri_call (Sat.sw 5000 35 (k_Get ((madeM l).1) key40)), trivial⟩ ?_
                refine peel_seq ?_
                refine awp_seq ?_
                cases hb47 : (Tr.getT ((madeM l).1) key40).2 with
                | false =>
                  refine awp_region_keep tab_ok boxes [] [1, 2, 3, 8, 9, 11, 59, 60, 61, 100] [35] ⟨130, [(1, (sc (.string fr))), (2, (sc (.string mid))), (3, (sc (.string to))), (8, (sc (.bool false))), (9, (.t (.c (.loc 35 0)))), (11, (.t (.c (.d (.sl (List.map encOp (scanM ((madeM l).1) fr to))))))), (59, (.t (.c (.d (.sl (List.map encOp (scanM ((madeM l).1) fr to))))))), (60, (sc (.int .i64 (List.length (scanM ((madeM l).1) fr to) : Int)))), (61, (sc (.int .i64 (k32 : Int)))), (100, (sc (.bool true)))], [(35, (.cells 51 [(.d (.ptr [(encT ((madeM l).1))]))]))], []⟩ [] mixed (by kernel_rfl) trivial ?_
                  refine peel_seq ?_
                  refine awp_true rfl ?_
                  refine awp_seq ?_
                  refine awp_region_keep tab_ok boxes [] [1, 2, 3, 8, 9, 11, 59, 60, 61] [35] ⟨130, [(1, (sc (.string fr))), (2, (sc (.string mid))), (3, (sc (.string to))), (8, (sc (.bool false))), (9, (.t (.c (.loc 35 0)))), (11, (.t (.c (.d (.sl (List.map encOp (scanM ((madeM l).1) fr to))))))), (59, (.t (.c (.d (.sl (List.map encOp (scanM ((madeM l).1) fr to))))))), (60, (sc (.int .i64 (List.length (scanM ((madeM l).1) fr to) : Int)))), (61, (sc (.int .i64 (k32 : Int))))], [(35, (.cells 51 [(.d (.ptr [(encT ((madeM l).1))]))]))], []⟩ [] mixed (by kernel_rfl) trivial ?_
                  refine peel_seq ?_
                  refine awp_ret ?_
                  refine peel_block_ret ?_
                  refine peel_seq_ret ?_
                  refine peel_seq_ret ?_
                  refine peel_block_ret ?_
                  refine peel_seq_ret ?_
                  exact ends_ret rfl (show some (sc (.bool false)) = some (sc (.bool true)) from by (have hs := made_srt l); (have e1 := @scan_self (madeM l).1 to hs); (have e2 := @scan_split (madeM l).1 fr mid to hs); (have e3 := eqOps_self); simp_all) rfl
                | true =>
                  cases hb48 : (eqS (Tr.getT ((madeM l).1) key40).1 val42) with
                  | false =>
                    have hb48p := eqS_false hb48
                    refine awp_region_keep tab_ok boxes [(6, ⟨[], (sc (.bool true)), some []⟩)] [1, 2, 3, 8, 9, 11, 59, 60, 61, 100] [35] ⟨130, [(1, (sc (.string fr))), (2, (sc (.string mid))), (3, (sc (.string to))), (8, (sc (.bool false))), (9, (.t (.c (.loc 35 0)))), (11, (.t (.c (.d (.sl (List.map encOp (scanM ((madeM l).1) fr to))))))), (59, (.t (.c (.d (.sl (List.map encOp (scanM ((madeM l).1) fr to))))))), (60, (sc (.int .i64 (List.length (scanM ((madeM l).1) fr to) : Int)))), (61, (sc (.int .i64 (k32 : Int)))), (100, (sc (.bool true)))], [(35, (.cells 51 [(.d (.ptr [(encT ((madeM l).1))]))]))], []⟩ [⟨(Go.Op.binOp Go.BinOp.neq 9 (Go.Operand.tmp 75) (Go.Operand.tmp 77) 9), 4, [(sc (.string (Tr.getT ((madeM l).1) key40).1)), (sc (.string val42))], [], (sc (.bool true)), []⟩] mixed (by kernel_rfl) ⟨tri_as tri_str_neq (by rw [hb48]; rfl), trivial⟩ ?_
                    refine peel_seq ?_
                    refine awp_true rfl ?_
                    refine awp_seq ?_
                    refine awp_region_keep tab_ok boxes [] [1, 2, 3, 8, 9, 11, 59, 60, 61] [35] ⟨130, [(1, (sc (.string fr))), (2, (sc (.string mid))), (3, (sc (.string to))), (8, (sc (.bool false))), (9, (.t (.c (.loc 35 0)))), (11, (.t (.c (.d (.sl (List.map encOp (scanM ((madeM l).1) fr to))))))), (59, (.t (.c (.d (.sl (List.map encOp (scanM ((madeM l).1) fr to))))))), (60, (sc (.int .i64 (List.length (scanM ((madeM l).1) fr to) : Int)))), (61, (sc (.int .i64 (k32 : Int))))], [(35, (.cells 51 [(.d (.ptr [(encT ((madeM l).1))]))]))], []⟩ [] mixed (by kernel_rfl) trivial ?_
                    refine peel_seq ?_
                    refine awp_ret ?_
                    refine peel_block_ret ?_
                    refine peel_seq_ret ?_
                    refine peel_seq_ret ?_
                    refine peel_block_ret ?_
                    refine peel_seq_ret ?_
                    exact ends_ret rfl (show some (sc (.bool false)) = some (sc (.bool true)) from by (have hs := made_srt l); (have e1 := @scan_self (madeM l).1 to hs); (have e2 := @scan_split (madeM l).1 fr mid to hs); (have e3 := eqOps_self); simp_all) rfl
                  | true =>
                    have hb48p := eqS_true hb48
                    cases has41 with
                    | false =>
                      refine awp_region_keep tab_ok boxes [(6, ⟨[], (sc (.bool false)), some []⟩)] [1, 2, 3, 8, 9, 11, 59, 60, 61, 100] [35] ⟨130, [(1, (sc (.string fr))), (2, (sc (.string mid))), (3, (sc (.string to))), (8, (sc (.bool false))), (9, (.t (.c (.loc 35 0)))), (11, (.t (.c (.d (.sl (List.map encOp (scanM ((madeM l).1) fr to))))))), (59, (.t (.c (.d (.sl (List.map encOp (scanM ((madeM l).1) fr to))))))), (60, (sc (.int .i64 (List.length (scanM ((madeM l).1) fr to) : Int)))), (61, (sc (.int .i64 (k32 : Int)))), (100, (sc (.bool true)))], [(35, (.cells 51 [(.d (.ptr [(encT ((madeM l).1))]))]))], []⟩ [⟨(Go.Op.binOp Go.BinOp.neq 9 (Go.Operand.tmp 75) (Go.Operand.tmp 77) 9), 4, [(sc (.string (Tr.getT ((madeM l).1) key40).1)), (sc (.string val42))], [], (sc (.bool false)), []⟩] mixed (by kernel_rfl) ⟨tri_as tri_str_neq (by rw [hb48]; rfl), trivial⟩ ?_
                      refine peel_seq ?_
                      refine awp_true rfl ?_
                      refine awp_seq ?_
                      refine awp_region_keep tab_ok boxes [] [1, 2, 3, 8, 9, 11, 59, 60, 61] [35] ⟨130, [(1, (sc (.string fr))), (2, (sc (.string mid))), (3, (sc (.string to))), (8, (sc (.bool false))), (9, (.t (.c (.loc 35 0)))), (11, (.t (.c (.d (.sl (List.map encOp (scanM ((madeM l).1) fr to))))))), (59, (.t (.c (.d (.sl (List.map encOp (scanM ((madeM l).1) fr to))))))), (60, (sc (.int .i64 (List.length (scanM ((madeM l).1) fr to) : Int)))), (61, (sc (.int .i64 (k32 : Int))))], [(35, (.cells 51 [(.d (.ptr [(encT ((madeM l).1))]))]))], []⟩ [] mixed (by kernel_rfl) trivial ?_
                      refine peel_seq ?_
                      refine awp_ret ?_
                      refine peel_block_ret ?_
                      refine peel_seq_ret ?_
                      refine peel_seq_ret ?_
                      refine peel_block_ret ?_
                      refine peel_seq_ret ?_
                      exact ends_ret rfl (show some (sc (.bool false)) = some (sc (.bool true)) from by (have hs := made_srt l); (have e1 := @scan_self (madeM l).1 to hs); (have e2 := @scan_split (madeM l).1 fr mid to hs); (have e3 := eqOps_self); simp_all) rfl
                    | true =>
                      cases hb49 : (ltS key40 fr) with
                      | false =>
                        refine awp_region_keep tab_ok boxes [(6, ⟨[], (sc (.bool false)), some []⟩), (17, ⟨[], (sc (.bool false)), some []⟩), (21, ⟨[], (sc (.bool false)), some []⟩)] [1, 2, 3, 8, 9, 11, 59, 60, 61, 100] [35] ⟨130, [(1, (sc (.string fr))), (2, (sc (.string mid))), (3, (sc (.string to))), (8, (sc (.bool false))), (9, (.t (.c (.loc 35 0)))), (11, (.t (.c (.d (.sl (List.map encOp (scanM ((madeM l).1) fr to))))))), (59, (.t (.c (.d (.sl (List.map encOp (scanM ((madeM l).1) fr to))))))), (60, (sc (.int .i64 (List.length (scanM ((madeM l).1) fr to) : Int)))), (61, (sc (.int .i64 (k32 : Int)))), (100, (sc (.bool false)))], [(35, (.cells 51 [(.d (.ptr [(encT ((madeM l).1))]))]))], []⟩ [⟨(Go.Op.binOp Go.BinOp.neq 9 (Go.Operand.tmp 75) (Go.Operand.tmp 77) 9), 4, [(sc (.string (Tr.getT ((madeM l).1) key40).1)), (sc (.string val42))], [], (sc (.bool false)), []⟩, ⟨(Go.Op.binOp Go.BinOp.lss 9 (Go.Operand.tmp 87) (Go.Operand.tmp 88) 9), 4, [(sc (.string key40)), (sc (.string fr))], [], (sc (.bool false)), []⟩, ⟨(Go.Op.binOp Go.BinOp.neq 9 (Go.Operand.tmp 92) (Go.Operand.const (Go.Value.string (ByteArray.mk #[]))) 9), 4, [(sc (.string to)), (sc (.string ⟨#[]⟩))], [], (sc (.bool false)), []⟩] mixed (by kernel_rfl) ⟨tri_as tri_str_neq (by rw [hb48]; rfl), tri_as tri_str_lss hb49, tri_as tri_str_neq (by rw [hb6]; rfl), trivial⟩ ?_
                        refine peel_seq ?_
                        refine awp_false rfl ?_
                        refine q_keep [1, 2, 3, 8, 9, 11, 59, 60, 61] [35] ?_
                        refine awp_skip ?_
                        refine peel_block ?_
                        refine peel_seq ?_
                        refine awp_region_keep tab_ok boxes [(0, ⟨[], (sc (.int .i64 ((k32 : Int) + 1))), some []⟩)] [1, 2, 3, 8, 9, 11, 59, 60, 61] [35] ⟨130, [(1, (sc (.string fr))), (2, (sc (.string mid))), (3, (sc (.string to))), (8, (sc (.bool false))), (9, (.t (.c (.loc 35 0)))), (11, (.t (.c (.d (.sl (List.map encOp (scanM ((madeM l).1) fr to))))))), (59, (.t (.c (.d (.sl (List.map encOp (scanM ((madeM l).1) fr to))))))), (60, (sc (.int .i64 (List.length (scanM ((madeM l).1) fr to) : Int)))), (61, (sc (.int .i64 ((k32 : Int) + 1))))], [(35, (.cells 51 [(.d (.ptr [(encT ((madeM l).1))]))]))], []⟩ [⟨(Go.Op.binOp Go.BinOp.add 3 (Go.Operand.tmp 61) (Go.Operand.const (Go.Value.int Go.IntKind.i64 1)) 3), 3, [(sc (.int .i64 (k32 : Int))), (sc (.int .i64 1))], [], (sc (.int .i64 ((k32 : Int) + 1))), []⟩] mixed (by kernel_rfl) ⟨tri_int ((k32 : Int) + 1) (wrap_i64 (by omega)), trivial⟩ ?_
                        exact peel_round (k32 + 1) rfl ⟨by (try simp only [List.length_map] at *); omega, trivial, by trivial⟩ (by (try simp only [List.length_map] at *); omega)
                      | true =>
                        refine awp_region_keep tab_ok boxes [(6, ⟨[], (sc (.bool false)), some []⟩), (17, ⟨[], (sc (.bool true)), some []⟩)] [1, 2, 3, 8, 9, 11, 59, 60, 61, 100] [35] ⟨130, [(1, (sc (.string fr))), (2, (sc (.string mid))), (3, (sc (.string to))), (8, (sc (.bool false))), (9, (.t (.c (.loc 35 0)))), (11, (.t (.c (.d (.sl (List.map encOp (scanM ((madeM l).1) fr to))))))), (59, (.t (.c (.d (.sl (List.map encOp (scanM ((madeM l).1) fr to))))))), (60, (sc (.int .i64 (List.length (scanM ((madeM l).1) fr to) : Int)))), (61, (sc (.int .i64 (k32 : Int)))), (100, (sc (.bool true)))], [(35, (.cells 51 [(.d (.ptr [(encT ((madeM l).1))]))]))], []⟩ [⟨(Go.Op.binOp Go.BinOp.neq 9 (Go.Operand.tmp 75) (Go.Operand.tmp 77) 9), 4, [(sc (.string (Tr.getT ((madeM l).1) key40).1)), (sc (.string val42))], [], (sc (.bool false)), []⟩, ⟨(Go.Op.binOp Go.BinOp.lss 9 (Go.Operand.tmp 87) (Go.Operand.tmp 88) 9), 4, [(sc (.string key40)), (sc (.string fr))], [], (sc (.bool true)), []⟩] mixed (by kernel_rfl) ⟨tri_as tri_str_neq (by rw [hb48]; rfl), tri_as tri_str_lss hb49, trivial⟩ ?_
                        refine peel_seq ?_
                        refine awp_true rfl ?_
                        refine awp_seq ?_
                        refine awp_region_keep tab_ok boxes [] [1, 2, 3, 8, 9, 11, 59, 60, 61] [35] ⟨130, [(1, (sc (.string fr))), (2, (sc (.string mid))), (3, (sc (.string to))), (8, (sc (.bool false))), (9, (.t (.c (.loc 35 0)))), (11, (.t (.c (.d (.sl (List.map encOp (scanM ((madeM l).1) fr to))))))), (59, (.t (.c (.d (.sl (List.map encOp (scanM ((madeM l).1) fr to))))))), (60, (sc (.int .i64 (List.length (scanM ((madeM l).1) fr to) : Int)))), (61, (sc (.int .i64 (k32 : Int))))], [(35, (.cells 51 [(.d (.ptr [(encT ((madeM l).1))]))]))], []⟩ [] mixed (by kernel_rfl) trivial ?_
                        refine peel_seq ?_
                        refine awp_ret ?_
                        refine peel_block_ret ?_
                        refine peel_seq_ret ?_
                        refine peel_seq_ret ?_
                        refine peel_block_ret ?_
                        refine peel_seq_ret ?_
                        exact ends_ret rfl (show some (sc (.bool false)) = some (sc (.bool true)) from by (have hs := made_srt l); (have e1 := @scan_self (madeM l).1 to hs); (have e2 := @scan_split (madeM l).1 fr mid to hs); (have e3 := eqOps_self); simp_all) rfl
              · skip
                have hc36p := of_decide_eq_false hc36
                refine awp_exit ?_
                refine peel_seq_exit ?_
                refine peel_seq_exit ?_
                refine peel_hit ?_
                refine peel_seq ?_
                refine awp_seq ?_
                refine awp_seq ?_
                cases hb50 : (eqS fr to) with
                | false =>
                  have hb50p := eqS_false hb50
                  refine awp_region_keep tab_ok boxes [(2, ⟨[], (sc (.bool false)), some []⟩)] [1, 2, 3, 8, 9, 11, 108] [35] ⟨130, [(1, (sc (.string fr))), (2, (sc (.string mid))), (3, (sc (.string to))), (8, (sc (.bool false))), (9, (.t (.c (.loc 35 0)))), (11, (.t (.c (.d (.sl (List.map encOp (scanM ((madeM l).1) fr to))))))), (108, (sc (.bool false)))], [(35, (.cells 51 [(.d (.ptr [(encT ((madeM l).1))]))]))], []⟩ [⟨(Go.Op.binOp Go.BinOp.eql 9 (Go.Operand.tmp 102) (Go.Operand.tmp 103) 9), 4, [(sc (.string fr)), (sc (.string to))], [], (sc (.bool false)), []⟩] mixed (by kernel_rfl) ⟨tri_as tri_str_eql hb50, trivial⟩ ?_
                  refine peel_seq ?_
                  refine awp_false rfl ?_
                  refine awp_skip ?_
                  refine peel_seq ?_
                  refine awp_seq ?_
                  cases hb51 : (eqL eqOpB (scanM ((madeM l).1) fr to) ((scanM ((madeM l).1) fr mid) ++ (scanM ((madeM l).1) mid to))) with
                  | false =>
                    refine awp_region_keep tab_ok boxes [(4, ⟨[35], (.t (.c (.d (.sl (List.map encOp (scanM ((madeM l).1) fr mid)))))), none⟩), (8, ⟨[35], (.t (.c (.d (.sl (List.map encOp (scanM ((madeM l).1) mid to)))))), none⟩), (9, ⟨[], (.t (.c (.d (.sl [[(.sl (List.map encOp (scanM ((madeM l).1) fr mid)))], [(.sl (List.map encOp (scanM ((madeM l).1) mid to)))]])))), some []⟩), (10, ⟨[], (.t (.c (.d (.sl (List.map encOp ((scanM ((madeM l).1) fr mid) ++ (scanM ((madeM l).1) mid to))))))), some []⟩), (11, ⟨[], (sc (.bool false)), some []⟩)] [8] [] ⟨130, [(8, (sc (.bool false)))], [], []⟩ [⟨(Go.Op.call (Go.Call.mk (Go.Callee.value (Go.Operand.func 17)) #[(Go.Operand.tmp 116), (Go.Operand.tmp 117), (Go.Operand.tmp 118)] #[28, 9, 9])), 23, [(sc (.func (.func 17) #[] #[])), (.t (.c (.loc 35 0))), (sc (.string fr)), (sc (.string mid))], [(35, (.cells 51 [(.d (.ptr [(encT ((madeM l).1))]))]))], (.t (.c (.d (.sl (List.map encOp (scanM ((madeM l).1) fr mid)))))), [(35, (.cells 51 [(.d (.ptr [(encT ((madeM l).1))]))]))]⟩, ⟨(Go.Op.call (Go.Call.mk (Go.Callee.value (Go.Operand.func 17)) #[(Go.Operand.tmp 120), (Go.Operand.tmp 121), (Go.Operand.tmp 122)] #[28, 9, 9])), 23, [(sc (.func (.func 17) #[] #[])), (.t (.c (.loc 35 0))), (sc (.string mid)), (sc (.string to))], [(35, (.cells 51 [(.d (.ptr [(encT ((madeM l).1))]))]))], (.t (.c (.d (.sl (List.map encOp (scanM ((madeM l).1) mid to)))))), [(35, (.cells 51 [(.d (.ptr [(encT ((madeM l).1))]))]))]⟩, ⟨(Go.Op.buildSlice 86 2 #[(0, (Go.Operand.tmp 119)), (1, (Go.Operand.tmp 123))]), 86, [(.t (.c (.d (.sl (List.map encOp (scanM ((madeM l).1) fr mid)))))), (.t (.c (.d (.sl (List.map encOp (scanM ((madeM l).1) mid to))))))], [], (.t (.c (.d (.sl [[(.sl (List.map encOp (scanM ((madeM l).1) fr mid)))], [(.sl (List.map encOp (scanM ((madeM l).1) mid to)))]])))), []⟩, ⟨(Go.Op.call (Go.Call.mk (Go.Callee.value (Go.Operand.func 23)) #[(Go.Operand.tmp 124)] #[86])), 23, [(sc (.func (.func 23) #[] #[])), (.t (.c (.d (.sl [[(.sl (List.map encOp (scanM ((madeM l).1) fr mid)))], [(.sl (List.map encOp (scanM ((madeM l).1) mid to)))]]))))], [], (.t (.c (.d (.sl (List.map encOp ((scanM ((madeM l).1) fr mid) ++ (scanM ((madeM l).1) mid to))))))), []⟩, ⟨(Go.Op.call (Go.Call.mk (Go.Callee.value (Go.Operand.func 16)) #[(Go.Operand.tmp 115), (Go.Operand.tmp 125)] #[23, 23])), 4, [(sc (.func (.func 16) #[] #[])), (.t (.c (.d (.sl (List.map encOp (scanM ((madeM l).1) fr to)))))), (.t (.c (.d (.sl (List.map encOp ((scanM ((madeM l).1) fr mid) ++ (scanM ((madeM l).1) mid to)))))))], [], (sc (.bool false)), []⟩] mixed (by kernel_rfl) ⟨tri_call (Sat.sw 5000 35 (k_Scan ((madeM l).1) fr mid (by (have hM := madeM_size (l := l) (shortM_len (by assumption))); (have s1 := scanM_len (madeM l).1 fr mid); (have s2 := scanM_len (madeM l).1 mid to); omega))), tri_call (Sat.sw 5000 35 (k_Scan ((madeM l).1) mid to (by (have hM := madeM_size (l := l) (shortM_len (by assumption))); (have s1 := scanM_len (madeM l).1 fr mid); (have s2 := scanM_len (madeM l).1 mid to); omega))), tri_slice_data (e := 23) (sz := 1) (bytes := 24) tab_ok (by kernel_rfl) rfl, tri_call (g_Concat (scanM ((madeM l).1) fr mid) (scanM ((madeM l).1) mid to) (by (have hM := madeM_size (l := l) (shortM_len (by assumption))); (have s1 := scanM_len (madeM l).1 fr mid); (have s2 := scanM_len (madeM l).1 mid to); omega)), tri_as (tri_call (l_EqualOp (scanM ((madeM l).1) fr to) ((scanM ((madeM l).1) fr mid) ++ (scanM ((madeM l).1) mid to)))) hb51, trivial⟩ ?_
                    refine peel_seq ?_
                    refine awp_ret ?_
                    exact ends_ret rfl (show some (sc (.bool false)) = some (sc (.bool true)) from by (have hs := made_srt l); (have e1 := @scan_self (madeM l).1 to hs); (have e2 := @scan_split (madeM l).1 fr mid to hs); (have e3 := eqOps_self); simp_all) rfl
                  | true =>
                    refine awp_region_keep tab_ok boxes [(4, ⟨[35], (.t (.c (.d (.sl (List.map encOp (scanM ((madeM l).1) fr mid)))))), none⟩), (8, ⟨[35], (.t (.c (.d (.sl (List.map encOp (scanM ((madeM l).1) mid to)))))), none⟩), (9, ⟨[], (.t (.c (.d (.sl [[(.sl (List.map encOp (scanM ((madeM l).1) fr mid)))], [(.sl (List.map encOp (scanM ((madeM l).1) mid to)))]])))), some []⟩), (10, ⟨[], (.t (.c (.d (.sl (List.map encOp ((scanM ((madeM l).1) fr mid) ++ (scanM ((madeM l).1) mid to))))))), some []⟩), (11, ⟨[], (sc (.bool true)), some []⟩), (13, ⟨[], (sc (.bool true)), some []⟩)] [8] [] ⟨130, [(8, (sc (.bool true)))], [], []⟩ [⟨(Go.Op.call (Go.Call.mk (Go.Callee.value (Go.Operand.func 17)) #[(Go.Operand.tmp 116), (Go.Operand.tmp 117), (Go.Operand.tmp 118)] #[28, 9, 9])), 23, [(sc (.func (.func 17) #[] #[])), (.t (.c (.loc 35 0))), (sc (.string fr)), (sc (.string mid))], [(35, (.cells 51 [(.d (.ptr [(encT ((madeM l).1))]))]))], (.t (.c (.d (.sl (List.map encOp (scanM ((madeM l).1) fr mid)))))), [(35, (.cells 51 [(.d (.ptr [(encT ((madeM l).1))]))]))]⟩, ⟨(Go.Op.call (Go.Call.mk (Go.Callee.value (Go.Operand.func 17)) #[(Go.Operand.tmp 120), (Go.Operand.tmp 121), (Go.Operand.tmp 122)] #[28, 9, 9])), 23, [(sc (.func (.func 17) #[] #[])), (.t (.c (.loc 35 0))), (sc (.string mid)), (sc (.string to))], [(35, (.cells 51 [(.d (.ptr [(encT ((madeM l).1))]))]))], (.t (.c (.d (.sl (List.map encOp (scanM ((madeM l).1) mid to)))))), [(35, (.cells 51 [(.d (.ptr [(encT ((madeM l).1))]))]))]⟩, ⟨(Go.Op.buildSlice 86 2 #[(0, (Go.Operand.tmp 119)), (1, (Go.Operand.tmp 123))]), 86, [(.t (.c (.d (.sl (List.map encOp (scanM ((madeM l).1) fr mid)))))), (.t (.c (.d (.sl (List.map encOp (scanM ((madeM l).1) mid to))))))], [], (.t (.c (.d (.sl [[(.sl (List.map encOp (scanM ((madeM l).1) fr mid)))], [(.sl (List.map encOp (scanM ((madeM l).1) mid to)))]])))), []⟩, ⟨(Go.Op.call (Go.Call.mk (Go.Callee.value (Go.Operand.func 23)) #[(Go.Operand.tmp 124)] #[86])), 23, [(sc (.func (.func 23) #[] #[])), (.t (.c (.d (.sl [[(.sl (List.map encOp (scanM ((madeM l).1) fr mid)))], [(.sl (List.map encOp (scanM ((madeM l).1) mid to)))]]))))], [], (.t (.c (.d (.sl (List.map encOp ((scanM ((madeM l).1) fr mid) ++ (scanM ((madeM l).1) mid to))))))), []⟩, ⟨(Go.Op.call (Go.Call.mk (Go.Callee.value (Go.Operand.func 16)) #[(Go.Operand.tmp 115), (Go.Operand.tmp 125)] #[23, 23])), 4, [(sc (.func (.func 16) #[] #[])), (.t (.c (.d (.sl (List.map encOp (scanM ((madeM l).1) fr to)))))), (.t (.c (.d (.sl (List.map encOp ((scanM ((madeM l).1) fr mid) ++ (scanM ((madeM l).1) mid to)))))))], [], (sc (.bool true)), []⟩, ⟨(Go.Op.call (Go.Call.mk (Go.Callee.value (Go.Operand.func 11)) #[] #[])), 4, [(sc (.func (.func 11) #[] #[]))], [], (sc (.bool true)), []⟩] mixed (by kernel_rfl) ⟨tri_call (Sat.sw 5000 35 (k_Scan ((madeM l).1) fr mid (by (have hM := madeM_size (l := l) (shortM_len (by assumption))); (have s1 := scanM_len (madeM l).1 fr mid); (have s2 := scanM_len (madeM l).1 mid to); omega))), tri_call (Sat.sw 5000 35 (k_Scan ((madeM l).1) mid to (by (have hM := madeM_size (l := l) (shortM_len (by assumption))); (have s1 := scanM_len (madeM l).1 fr mid); (have s2 := scanM_len (madeM l).1 mid to); omega))), tri_slice_data (e := 23) (sz := 1) (bytes := 24) tab_ok (by kernel_rfl) rfl, tri_call (g_Concat (scanM ((madeM l).1) fr mid) (scanM ((madeM l).1) mid to) (by (have hM := madeM_size (l := l) (shortM_len (by assumption))); (have s1 := scanM_len (madeM l).1 fr mid); (have s2 := scanM_len (madeM l).1 mid to); omega)), tri_as (tri_call (l_EqualOp (scanM ((madeM l).1) fr to) ((scanM ((madeM l).1) fr mid) ++ (scanM ((madeM l).1) mid to)))) hb51, tri_call (l_awake), trivial⟩ ?_
                    refine peel_seq ?_
                    refine awp_ret ?_
                    exact ends_ret rfl rfl rfl
                | true =>
                  have hb50p := eqS_true hb50
                  refine awp_region_keep tab_ok boxes [(2, ⟨[], (sc (.bool true)), some []⟩), (5, ⟨[], (sc (.bool false)), some []⟩)] [1, 2, 3, 8, 9, 11, 108] [35] ⟨130, [(1, (sc (.string fr))), (2, (sc (.string mid))), (3, (sc (.string to))), (8, (sc (.bool false))), (9, (.t (.c (.loc 35 0)))), (11, (.t (.c (.d (.sl (List.map encOp (scanM ((madeM l).1) fr to))))))), (108, (sc (.bool false)))], [(35, (.cells 51 [(.d (.ptr [(encT ((madeM l).1))]))]))], []⟩ [⟨(Go.Op.binOp Go.BinOp.eql 9 (Go.Operand.tmp 102) (Go.Operand.tmp 103) 9), 4, [(sc (.string fr)), (sc (.string to))], [], (sc (.bool true)), []⟩, ⟨(Go.Op.binOp Go.BinOp.neq 9 (Go.Operand.tmp 106) (Go.Operand.const (Go.Value.string (ByteArray.mk #[]))) 9), 4, [(sc (.string to)), (sc (.string ⟨#[]⟩))], [], (sc (.bool false)), []⟩] mixed (by kernel_rfl) ⟨tri_as tri_str_eql hb50, tri_as tri_str_neq (by rw [hb6]; rfl), trivial⟩ ?_
                  refine peel_seq ?_
                  refine awp_false rfl ?_
                  refine awp_skip ?_
                  refine peel_seq ?_
                  refine awp_seq ?_
                  cases hb52 : (eqL eqOpB (scanM ((madeM l).1) fr to) ((scanM ((madeM l).1) fr mid) ++ (scanM ((madeM l).1) mid to))) with
                  | false =>
                    refine awp_region_keep tab_ok boxes [(4, ⟨[35], (.t (.c (.d (.sl (List.map encOp (scanM ((madeM l).1) fr mid)))))), none⟩), (8, ⟨[35], (.t (.c (.d (.sl (List.map encOp (scanM ((madeM l).1) mid to)))))), none⟩), (9, ⟨[], (.t (.c (.d (.sl [[(.sl (List.map encOp (scanM ((madeM l).1) fr mid)))], [(.sl (List.map encOp (scanM ((madeM l).1) mid to)))]])))), some []⟩), (10, ⟨[], (.t (.c (.d (.sl (List.map encOp ((scanM ((madeM l).1) fr mid) ++ (scanM ((madeM l).1) mid to))))))), some []⟩), (11, ⟨[], (sc (.bool false)), some []⟩)] [8] [] ⟨130, [(8, (sc (.bool false)))], [], []⟩ [⟨(Go.Op.call (Go.Call.mk (Go.Callee.value (Go.Operand.func 17)) #[(Go.Operand.tmp 116), (Go.Operand.tmp 117), (Go.Operand.tmp 118)] #[28, 9, 9])), 23, [(sc (.func (.func 17) #[] #[])), (.t (.c (.loc 35 0))), (sc (.string fr)), (sc (.string mid))], [(35, (.cells 51 [(.d (.ptr [(encT ((madeM l).1))]))]))], (.t (.c (.d (.sl (List.map encOp (scanM ((madeM l).1) fr mid)))))), [(35, (.cells 51 [(.d (.ptr [(encT ((madeM l).1))]))]))]⟩, ⟨(Go.Op.call (Go.Call.mk (Go.Callee.value (Go.Operand.func 17)) #[(Go.Operand.tmp 120), (Go.Operand.tmp 121), (Go.Operand.tmp 122)] #[28, 9, 9])), 23, [(sc (.func (.func 17) #[] #[])), (.t (.c (.loc 35 0))), (sc (.string mid)), (sc (.string to))], [(35, (.cells 51 [(.d (.ptr [(encT ((madeM l).1))]))]))], (.t (.c (.d (.sl (List.map encOp (scanM ((madeM l).1) mid to)))))), [(35, (.cells 51 [(.d (.ptr [(encT ((madeM l).1))]))]))]⟩, ⟨(Go.Op.buildSlice 86 2 #[(0, (Go.Operand.tmp 119)), (1, (Go.Operand.tmp 123))]), 86, [(.t (.c (.d (.sl (List.map encOp (scanM ((madeM l).1) fr mid)))))), (.t (.c (.d (.sl (List.map encOp (scanM ((madeM l).1) mid to))))))], [], (.t (.c (.d (.sl [[(.sl (List.map encOp (scanM ((madeM l).1) fr mid)))], [(.sl (List.map encOp (scanM ((madeM l).1) mid to)))]])))), []⟩, ⟨(Go.Op.call (Go.Call.mk (Go.Callee.value (Go.Operand.func 23)) #[(Go.Operand.tmp 124)] #[86])), 23, [(sc (.func (.func 23) #[] #[])), (.t (.c (.d (.sl [[(.sl (List.map encOp (scanM ((madeM l).1) fr mid)))], [(.sl (List.map encOp (scanM ((madeM l).1) mid to)))]]))))], [], (.t (.c (.d (.sl (List.map encOp ((scanM ((madeM l).1) fr mid) ++ (scanM ((madeM l).1) mid to))))))), []⟩, ⟨(Go.Op.call (Go.Call.mk (Go.Callee.value (Go.Operand.func 16)) #[(Go.Operand.tmp 115), (Go.Operand.tmp 125)] #[23, 23])), 4, [(sc (.func (.func 16) #[] #[])), (.t (.c (.d (.sl (List.map encOp (scanM ((madeM l).1) fr to)))))), (.t (.c (.d (.sl (List.map encOp ((scanM ((madeM l).1) fr mid) ++ (scanM ((madeM l).1) mid to)))))))], [], (sc (.bool false)), []⟩] mixed (by kernel_rfl) ⟨tri_call (Sat.sw 5000 35 (k_Scan ((madeM l).1) fr mid (by (have hM := madeM_size (l := l) (shortM_len (by assumption))); (have s1 := scanM_len (madeM l).1 fr mid); (have s2 := scanM_len (madeM l).1 mid to); omega))), tri_call (Sat.sw 5000 35 (k_Scan ((madeM l).1) mid to (by (have hM := madeM_size (l := l) (shortM_len (by assumption))); (have s1 := scanM_len (madeM l).1 fr mid); (have s2 := scanM_len (madeM l).1 mid to); omega))), tri_slice_data (e := 23) (sz := 1) (bytes := 24) tab_ok (by kernel_rfl) rfl, tri_call (g_Concat (scanM ((madeM l).1) fr mid) (scanM ((madeM l).1) mid to) (by (have hM := madeM_size (l := l) (shortM_len (by assumption))); (have s1 := scanM_len (madeM l).1 fr mid); (have s2 := scanM_len (madeM l).1 mid to); omega)), tri_as (tri_call (l_EqualOp (scanM ((madeM l).1) fr to) ((scanM ((madeM l).1) fr mid) ++ (scanM ((madeM l).1) mid to)))) hb52, trivial⟩ ?_
                    refine peel_seq ?_
                    refine awp_ret ?_
                    exact ends_ret rfl (show some (sc (.bool false)) = some (sc (.bool true)) from by (have hs := made_srt l); (have e1 := @scan_self (madeM l).1 to hs); (have e2 := @scan_split (madeM l).1 fr mid to hs); (have e3 := eqOps_self); simp_all) rfl
                  | true =>
                    refine awp_region_keep tab_ok boxes [(4, ⟨[35], (.t (.c (.d (.sl (List.map encOp (scanM ((madeM l).1) fr mid)))))), none⟩), (8, ⟨[35], (.t (.c (.d (.sl (List.map encOp (scanM ((madeM l).1) mid to)))))), none⟩), (9, ⟨[], (.t (.c (.d (.sl [[(.sl (List.map encOp (scanM ((madeM l).1) fr mid)))], [(.sl (List.map encOp (scanM ((madeM l).1) mid to)))]])))), some []⟩), (10, ⟨[], (.t (.c (.d (.sl (List.map encOp ((scanM ((madeM l).1) fr mid) ++ (scanM ((madeM l).1) mid to))))))), some []⟩), (11, ⟨[], (sc (.bool true)), some []⟩), (13, ⟨[], (sc (.bool true)), some []⟩)] [8] [] ⟨130, [(8, (sc (.bool true)))], [], []⟩ [⟨(Go.Op.call (Go.Call.mk (Go.Callee.value (Go.Operand.func 17)) #[(Go.Operand.tmp 116), (Go.Operand.tmp 117), (Go.Operand.tmp 118)] #[28, 9, 9])), 23, [(sc (.func (.func 17) #[] #[])), (.t (.c (.loc 35 0))), (sc (.string fr)), (sc (.string mid))], [(35, (.cells 51 [(.d (.ptr [(encT ((madeM l).1))]))]))], (.t (.c (.d (.sl (List.map encOp (scanM ((madeM l).1) fr mid)))))), [(35, (.cells 51 [(.d (.ptr [(encT ((madeM l).1))]))]))]⟩, ⟨(Go.Op.call (Go.Call.mk (Go.Callee.value (Go.Operand.func 17)) #[(Go.Operand.tmp 120), (Go.Operand.tmp 121), (Go.Operand.tmp 122)] #[28, 9, 9])), 23, [(sc (.func (.func 17) #[] #[])), (.t (.c (.loc 35 0))), (sc (.string mid)), (sc (.string to))], [(35, (.cells 51 [(.d (.ptr [(encT ((madeM l).1))]))]))], (.t (.c (.d (.sl (List.map encOp (scanM ((madeM l).1) mid to)))))), [(35, (.cells 51 [(.d (.ptr [(encT ((madeM l).1))]))]))]⟩, ⟨(Go.Op.buildSlice 86 2 #[(0, (Go.Operand.tmp 119)), (1, (Go.Operand.tmp 123))]), 86, [(.t (.c (.d (.sl (List.map encOp (scanM ((madeM l).1) fr mid)))))), (.t (.c (.d (.sl (List.map encOp (scanM ((madeM l).1) mid to))))))], [], (.t (.c (.d (.sl [[(.sl (List.map encOp (scanM ((madeM l).1) fr mid)))], [(.sl (List.map encOp (scanM ((madeM l).1) mid to)))]])))), []⟩, ⟨(Go.Op.call (Go.Call.mk (Go.Callee.value (Go.Operand.func 23)) #[(Go.Operand.tmp 124)] #[86])), 23, [(sc (.func (.func 23) #[] #[])), (.t (.c (.d (.sl [[(.sl (List.map encOp (scanM ((madeM l).1) fr mid)))], [(.sl (List.map encOp (scanM ((madeM l).1) mid to)))]]))))], [], (.t (.c (.d (.sl (List.map encOp ((scanM ((madeM l).1) fr mid) ++ (scanM ((madeM l).1) mid to))))))), []⟩, ⟨(Go.Op.call (Go.Call.mk (Go.Callee.value (Go.Operand.func 16)) #[(Go.Operand.tmp 115), (Go.Operand.tmp 125)] #[23, 23])), 4, [(sc (.func (.func 16) #[] #[])), (.t (.c (.d (.sl (List.map encOp (scanM ((madeM l).1) fr to)))))), (.t (.c (.d (.sl (List.map encOp ((scanM ((madeM l).1) fr mid) ++ (scanM ((madeM l).1) mid to)))))))], [], (sc (.bool true)), []⟩, ⟨(Go.Op.call (Go.Call.mk (Go.Callee.value (Go.Operand.func 11)) #[] #[])), 4, [(sc (.func (.func 11) #[] #[]))], [], (sc (.bool true)), []⟩] mixed (by kernel_rfl) ⟨tri_call (Sat.sw 5000 35 (k_Scan ((madeM l).1) fr mid (by (have hM := madeM_size (l := l) (shortM_len (by assumption))); (have s1 := scanM_len (madeM l).1 fr mid); (have s2 := scanM_len (madeM l).1 mid to); omega))), tri_call (Sat.sw 5000 35 (k_Scan ((madeM l).1) mid to (by (have hM := madeM_size (l := l) (shortM_len (by assumption))); (have s1 := scanM_len (madeM l).1 fr mid); (have s2 := scanM_len (madeM l).1 mid to); omega))), tri_slice_data (e := 23) (sz := 1) (bytes := 24) tab_ok (by kernel_rfl) rfl, tri_call (g_Concat (scanM ((madeM l).1) fr mid) (scanM ((madeM l).1) mid to) (by (have hM := madeM_size (l := l) (shortM_len (by assumption))); (have s1 := scanM_len (madeM l).1 fr mid); (have s2 := scanM_len (madeM l).1 mid to); omega)), tri_as (tri_call (l_EqualOp (scanM ((madeM l).1) fr to) ((scanM ((madeM l).1) fr mid) ++ (scanM ((madeM l).1) mid to)))) hb52, tri_call (l_awake), trivial⟩ ?_
                    refine peel_seq ?_
                    refine awp_ret ?_
                    exact ends_ret rfl rfl rfl
          | true =>
            refine awp_region_keep tab_ok boxes [(1, ⟨[], (sc (.bool false)), some []⟩), (5, ⟨[], (sc (.bool true)), some []⟩)] [1, 2, 3, 8, 9, 53] [35] ⟨130, [(1, (sc (.string fr))), (2, (sc (.string mid))), (3, (sc (.string to))), (8, (sc (.bool false))), (9, (.t (.c (.loc 35 0)))), (53, (sc (.bool true)))], [(35, (.cells 51 [(.d (.ptr [(encT ((madeM l).1))]))]))], []⟩ [⟨(Go.Op.binOp Go.BinOp.eql 9 (Go.Operand.tmp 38) (Go.Operand.const (Go.Value.string (ByteArray.mk #[]))) 9), 4, [(sc (.string mid)), (sc (.string ⟨#[]⟩))], [], (sc (.bool false)), []⟩, ⟨(Go.Op.binOp Go.BinOp.lss 9 (Go.Operand.tmp 41) (Go.Operand.tmp 42) 9), 4, [(sc (.string mid)), (sc (.string fr))], [], (sc (.bool true)), []⟩] mixed (by kernel_rfl) ⟨tri_as tri_str_eql hb4, tri_as tri_str_lss hb5, trivial⟩ ?_
            refine peel_seq ?_
            refine awp_true rfl ?_
            refine awp_seq ?_
            refine awp_region_keep tab_ok boxes [(0, ⟨[], (sc (.bool true)), some []⟩)] [1, 2, 3, 8, 9] [35] ⟨130, [(1, (sc (.string fr))), (2, (sc (.string mid))), (3, (sc (.string to))), (8, (sc (.bool true))), (9, (.t (.c (.loc 35 0))))], [(35, (.cells 51 [(.d (.ptr [(encT ((madeM l).1))]))]))], []⟩ [⟨(Go.Op.call (Go.Call.mk (Go.Callee.value (Go.Operand.func 11)) #[] #[])), 4, [(sc (.func (.func 11) #[] #[]))], [], (sc (.bool true)), []⟩] mixed (by kernel_rfl) ⟨tri_call (l_awake), trivial⟩ ?_
            refine peel_seq ?_
            refine awp_ret ?_
            refine peel_seq_ret ?_
            exact ends_ret rfl rfl rfl
        | true =>
          have hb4p := eqS_true hb4
          refine awp_region_keep tab_ok boxes [(1, ⟨[], (sc (.bool true)), some []⟩)] [1, 2, 3, 8, 9, 53] [35] ⟨130, [(1, (sc (.string fr))), (2, (sc (.string mid))), (3, (sc (.string to))), (8, (sc (.bool false))), (9, (.t (.c (.loc 35 0)))), (53, (sc (.bool true)))], [(35, (.cells 51 [(.d (.ptr [(encT ((madeM l).1))]))]))], []⟩ [⟨(Go.Op.binOp Go.BinOp.eql 9 (Go.Operand.tmp 38) (Go.Operand.const (Go.Value.string (ByteArray.mk #[]))) 9), 4, [(sc (.string mid)), (sc (.string ⟨#[]⟩))], [], (sc (.bool true)), []⟩] mixed (by kernel_rfl) ⟨tri_as tri_str_eql hb4, trivial⟩ ?_
          refine peel_seq ?_
          refine awp_true rfl ?_
          refine awp_seq ?_
          refine awp_region_keep tab_ok boxes [(0, ⟨[], (sc (.bool true)), some []⟩)] [1, 2, 3, 8, 9] [35] ⟨130, [(1, (sc (.string fr))), (2, (sc (.string mid))), (3, (sc (.string to))), (8, (sc (.bool true))), (9, (.t (.c (.loc 35 0))))], [(35, (.cells 51 [(.d (.ptr [(encT ((madeM l).1))]))]))], []⟩ [⟨(Go.Op.call (Go.Call.mk (Go.Callee.value (Go.Operand.func 11)) #[] #[])), 4, [(sc (.func (.func 11) #[] #[]))], [], (sc (.bool true)), []⟩] mixed (by kernel_rfl) ⟨tri_call (l_awake), trivial⟩ ?_
          refine peel_seq ?_
          refine awp_ret ?_
          refine peel_seq_ret ?_
          exact ends_ret rfl rfl rfl
    | true =>
      have hb2p := of_decide_eq_true hb2
      refine awp_region_keep tab_ok boxes [(1, ⟨[], (sc (.bool true)), some []⟩), (8, ⟨[], (sc (.int .i64 ((fr.size : Int) + (mid.size : Int)))), some []⟩), (9, ⟨[], (sc (.bool true)), some []⟩)] [0, 1, 2, 3, 8, 31] [] ⟨130, [(0, (.t (.c (.d (.sl (List.map encDo l)))))), (1, (sc (.string fr))), (2, (sc (.string mid))), (3, (sc (.string to))), (8, (sc (.bool false))), (31, (sc (.bool true)))], [], []⟩ [⟨(Go.Op.call (Go.Call.mk (Go.Callee.value (Go.Operand.func 9)) #[(Go.Operand.tmp 16)] #[22])), 4, [(sc (.func (.func 9) #[] #[])), (.t (.c (.d (.sl (List.map encDo l)))))], [], (sc (.bool true)), []⟩, ⟨(Go.Op.binOp Go.BinOp.add 3 (Go.Operand.tmp 21) (Go.Operand.tmp 23) 3), 3, [(sc (.int .i64 (fr.size : Int))), (sc (.int .i64 (mid.size : Int)))], [], (sc (.int .i64 ((fr.size : Int) + (mid.size : Int)))), []⟩, ⟨(Go.Op.binOp Go.BinOp.gtr 3 (Go.Operand.tmp 24) (Go.Operand.const (Go.Value.int Go.IntKind.i64 32768)) 3), 4, [(sc (.int .i64 ((fr.size : Int) + (mid.size : Int)))), (sc (.int .i64 32768))], [], (sc (.bool true)), []⟩] mixed (by kernel_rfl) ⟨tri_as (tri_call (l_short l)) hb1, tri_int ((fr.size : Int) + (mid.size : Int)) (wrap_i64 (by omega)), tri_scalar_eq [(.int .i64 ((fr.size : Int) + (mid.size : Int))), (.int .i64 32768)] (.bool (decide (((fr.size : Int) + (mid.size : Int)) > 32768))) rfl rfl rfl (by kernel_rfl) (congrArg Value.bool hb2), trivial⟩ ?_
      refine peel_seq ?_
      refine awp_true rfl ?_
      refine awp_seq ?_
      refine awp_region_keep tab_ok boxes [(0, ⟨[], (sc (.bool true)), some []⟩)] [0, 1, 2, 3, 8] [] ⟨130, [(0, (.t (.c (.d (.sl (List.map encDo l)))))), (1, (sc (.string fr))), (2, (sc (.string mid))), (3, (sc (.string to))), (8, (sc (.bool true)))], [], []⟩ [⟨(Go.Op.call (Go.Call.mk (Go.Callee.value (Go.Operand.func 11)) #[] #[])), 4, [(sc (.func (.func 11) #[] #[]))], [], (sc (.bool true)), []⟩] mixed (by kernel_rfl) ⟨tri_call (l_awake), trivial⟩ ?_
      refine peel_seq ?_
      refine awp_ret ?_
      refine peel_seq_ret ?_
      exact ends_ret rfl rfl rfl
end Go.Proofs.Ytjbiaoajmdbigaa
