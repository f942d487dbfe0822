/- Walks of package tidemarkref09. -/
import Derived.Test.YtjbiaoajmdbigaaRfA
set_option maxRecDepth 100000
set_option linter.unusedVariables false
set_option linter.unusedSimpArgs false
namespace Go.Proofs.Ytjbiaoajmdbigaa
open Go Go.E
theorem r_Get (l : List AOp) (k : ByteArray) : Sat Try.prog 31 [(.t (.c (.loc 6000 0))), (sc (.string k))] [(6000, (.cells 62 [(.d (.sl (List.map encOp l)))]))] (.tup [(.c (.d (.v (.string (rgetF l k).1)))), (.c (.d (.v (.bool (rgetF l k).2))))]) [(6000, (.cells 62 [(.d (.sl (List.map encOp l)))]))] := by
  refine sat_of_body tab_ok Try.func31 rfl (by kernel_rfl) (Nat.le_of_ble_eq_true rfl) rfl fun G => ?_
  refine awp_seq ?_
  refine awp_region_keep tab_ok boxes [] [0, 1, 4, 5] [6000] ⟨24, [(0, (.t (.c (.loc 6000 0)))), (1, (sc (.string k))), (4, (sc (.string ⟨#[]⟩))), (5, (sc (.bool false)))], [(6000, (.cells 62 [(.d (.sl (List.map encOp l)))]))], [6000]⟩ [] mixed (by kernel_rfl) trivial ?_
  refine peel_seq ?_
  refine awp_seq ?_
  refine awp_seq ?_
  refine awp_region_keep tab_ok boxes [(4, ⟨[], (sc (.int .i64 (List.length l : Int))), none⟩)] [1, 4, 5, 11, 12, 13] [6000] ⟨24, [(1, (sc (.string k))), (4, (sc (.string ⟨#[]⟩))), (5, (sc (.bool false))), (11, (.t (.c (.d (.sl (List.map encOp l)))))), (12, (sc (.int .i64 (List.length l : Int)))), (13, (sc (.int .i64 0)))], [(6000, (.cells 62 [(.d (.sl (List.map encOp l)))]))], [6000]⟩ [⟨(Go.Op.call (Go.Call.mk (Go.Callee.builtin Go.Builtin.len) #[(Go.Operand.tmp 11)] #[23])), 3, [(.t (.c (.d (.sl (List.map encOp l)))))], [], (sc (.int .i64 (List.length l : Int))), []⟩] mixed (by kernel_rfl) ⟨tri_len_map tab_ok rfl, trivial⟩ ?_
  refine peel_seq ?_
  refine awp_block ?_
  refine awp_len 11 rfl (fun hlen1 => ?_)
  refine awp_loopP (ι := Nat) (fun x => ⟨24, [(1, (sc (.string k))), (4, (sc (.string ⟨#[]⟩))), (5, (sc (.bool false))), (11, (.t (.c (.d (.sl (List.map encOp l)))))), (12, (sc (.int .i64 (List.length l : Int)))), (13, (sc (.int .i64 (x : Int))))], [(6000, (.cells 62 [(.d (.sl (List.map encOp l)))]))], [6000]⟩) (fun x => x ≤ List.length l ∧ (True) ∧ rgetF (List.drop x l) k = rgetF l k) (fun x => List.length l - x) (0) rfl ⟨Nat.zero_le _, trivial, rfl⟩ ?_
  rintro k2 ⟨hk3, hx4, hJ5⟩
  try simp only at hk3 hx4 hJ5
  refine awp_seq ?_
  refine awp_region_keep tab_ok boxes [] [1, 4, 5, 11, 12, 13, 14] [6000] ⟨24, [(1, (sc (.string k))), (4, (sc (.string ⟨#[]⟩))), (5, (sc (.bool false))), (11, (.t (.c (.d (.sl (List.map encOp l)))))), (12, (sc (.int .i64 (List.length l : Int)))), (13, (sc (.int .i64 (k2 : Int)))), (14, (sc (.bool (decide ((k2 : Int) < (List.length l : Int))))))], [(6000, (.cells 62 [(.d (.sl (List.map encOp l)))]))], [6000]⟩ [] mixed (by kernel_rfl) trivial ?_
  refine peel_seq ?_
  refine awp_seq ?_
  refine awp_cond (b := (decide ((k2 : Int) < (List.length l : Int)))) rfl (fun hc6 => ?_) (fun hc6 => ?_)
  · skip
    have hc6p := of_decide_eq_true hc6
    refine awp_skip ?_
    refine peel_seq ?_
    refine awp_seq ?_
    refine awp_block ?_
    refine awp_seq ?_
    obtain ⟨⟨key10, has11, val12⟩, ha8, hd9⟩ := at_drop (l := l) (k := k2) (by (try simp only [List.length_map] at *); omega)
    refine awp_region_keep tab_ok boxes [(0, ⟨[], (.t (.c (.d (.ptr [(.v (.string key10)), (.v (.bool has11)), (.v (.string val12))])))), some []⟩)] [1, 4, 5, 7, 11, 12, 13] [7, 6000] ⟨24, [(1, (sc (.string k))), (4, (sc (.string ⟨#[]⟩))), (5, (sc (.bool false))), (7, (.t (.c (.loc 7 0)))), (11, (.t (.c (.d (.sl (List.map encOp l)))))), (12, (sc (.int .i64 (List.length l : Int)))), (13, (sc (.int .i64 (k2 : Int))))], [(7, (.cells 35 [(.d (.v (.string key10))), (.d (.v (.bool has11))), (.d (.v (.string val12)))])), (6000, (.cells 62 [(.d (.sl (List.map encOp l)))]))], [6000]⟩ [⟨(Go.Op.indexAddr 23 (Go.Operand.tmp 11) (Go.Operand.tmp 13)), 0, [(.t (.c (.d (.sl (List.map encOp l))))), (sc (.int .i64 (k2 : Int)))], [], (.t (.c (.d (.ptr [(.v (.string key10)), (.v (.bool has11)), (.v (.string val12))])))), []⟩] mixed (by kernel_rfl) ⟨tri_index_sl (e := 35) (sz := 3) (bytes := 40) (i := k2) tab_ok rfl (at_map encOp ha8) (all_map fun _ => rfl), trivial⟩ ?_
    refine peel_seq ?_
    refine awp_seq ?_
    refine awp_region_keep tab_ok boxes [(3, ⟨[], (sc (.bool (eqS key10 k))), some []⟩)] [1, 4, 5, 7, 11, 12, 13, 20] [7, 6000] ⟨24, [(1, (sc (.string k))), (4, (sc (.string ⟨#[]⟩))), (5, (sc (.bool false))), (7, (.t (.c (.loc 7 0)))), (11, (.t (.c (.d (.sl (List.map encOp l)))))), (12, (sc (.int .i64 (List.length l : Int)))), (13, (sc (.int .i64 (k2 : Int)))), (20, (sc (.bool (eqS key10 k))))], [(7, (.cells 35 [(.d (.v (.string key10))), (.d (.v (.bool has11))), (.d (.v (.string val12)))])), (6000, (.cells 62 [(.d (.sl (List.map encOp l)))]))], [6000]⟩ [⟨(Go.Op.binOp Go.BinOp.eql 9 (Go.Operand.tmp 18) (Go.Operand.tmp 19) 9), 4, [(sc (.string key10)), (sc (.string k))], [], (sc (.bool (eqS key10 k))), []⟩] mixed (by kernel_rfl) ⟨tri_str_eql, trivial⟩ ?_
    refine peel_seq ?_
    refine awp_cond (b := (eqS key10 k)) rfl (fun hc13 => ?_) (fun hc13 => ?_)
    · skip
      have hc13p := eqS_true hc13
      refine awp_seq ?_
      refine awp_region_keep tab_ok boxes [] [1, 4, 5, 11, 12, 13] [6000] ⟨24, [(1, (sc (.string k))), (4, (sc (.string val12))), (5, (sc (.bool true))), (11, (.t (.c (.d (.sl (List.map encOp l)))))), (12, (sc (.int .i64 (List.length l : Int)))), (13, (sc (.int .i64 (k2 : Int))))], [(6000, (.cells 62 [(.d (.sl (List.map encOp l)))]))], [6000]⟩ [] mixed (by kernel_rfl) trivial ?_
      refine peel_seq ?_
      have hE14 := hJ5
      rw [hd9] at hE14
      simp only [rgetF, hc13, hc6, cond_true, cond_false, Bool.not_true, Bool.not_false] at hE14
      refine awp_ret ?_
      refine peel_block_ret ?_
      refine peel_seq_ret ?_
      refine peel_seq_ret ?_
      refine peel_block_ret ?_
      refine peel_seq_ret ?_
      exact ends_ret rfl (show some ((.tup [(.c (.d (.v (.string val12)))), (.c (.d (.v (.bool true))))]) : SV) = some ((.tup [(.c (.d (.v (.string (rgetF l k).1)))), (.c (.d (.v (.bool (rgetF l k).2))))]) : SV) from by first | rfl | ((try simp only [cond_true, cond_false, Bool.not_true, Bool.not_false] at hE14); (first | (simp only [hc13, hc6, ← hE14, cond_true, cond_false, Bool.not_true, Bool.not_false, List.map_nil]; done) | (simp only [rgetF, hc13, hc6, ← hE14, cond_true, cond_false, Bool.not_true, Bool.not_false, List.map_nil])))) rfl
    · skip
      have hc13p := eqS_false hc13
      refine q_keep [1, 4, 5, 11, 12, 13] [6000] ?_
      refine awp_skip ?_
      refine peel_block ?_
      refine peel_seq ?_
      refine awp_region_keep tab_ok boxes [(0, ⟨[], (sc (.int .i64 ((k2 : Int) + 1))), some []⟩)] [1, 4, 5, 11, 12, 13] [6000] ⟨24, [(1, (sc (.string k))), (4, (sc (.string ⟨#[]⟩))), (5, (sc (.bool false))), (11, (.t (.c (.d (.sl (List.map encOp l)))))), (12, (sc (.int .i64 (List.length l : Int)))), (13, (sc (.int .i64 ((k2 : Int) + 1))))], [(6000, (.cells 62 [(.d (.sl (List.map encOp l)))]))], [6000]⟩ [⟨(Go.Op.binOp Go.BinOp.add 3 (Go.Operand.tmp 13) (Go.Operand.const (Go.Value.int Go.IntKind.i64 1)) 3), 3, [(sc (.int .i64 (k2 : Int))), (sc (.int .i64 1))], [], (sc (.int .i64 ((k2 : Int) + 1))), []⟩] mixed (by kernel_rfl) ⟨tri_int ((k2 : Int) + 1) (wrap_i64 (by omega)), trivial⟩ ?_
      exact peel_round (k2 + 1) rfl ⟨by (try simp only [List.length_map] at *); omega, trivial, by have hj := hJ5; rw [hd9] at hj; simp only [rgetF, hc13, hc6, cond_true, cond_false, Bool.not_true, Bool.not_false] at hj ⊢; exact hj⟩ (by (try simp only [List.length_map] at *); omega)
  · skip
    have hc6p := of_decide_eq_false hc6
    have hE15 := hJ5
    rw [at_end (l := l) (by (try simp only [List.length_map] at *); omega)] at hE15
    simp only [rgetF, hc6, cond_true, cond_false, Bool.not_true, Bool.not_false] at hE15
    refine awp_exit ?_
    refine peel_seq_exit ?_
    refine peel_seq_exit ?_
    refine peel_hit ?_
    refine peel_seq ?_
    refine awp_seq ?_
    refine awp_region_keep tab_ok boxes [] [4, 5] [6000] ⟨24, [(4, (sc (.string ⟨#[]⟩))), (5, (sc (.bool false)))], [(6000, (.cells 62 [(.d (.sl (List.map encOp l)))]))], [6000]⟩ [] mixed (by kernel_rfl) trivial ?_
    refine peel_seq ?_
    refine awp_ret ?_
    exact ends_ret rfl (show some ((.tup [(.c (.d (.v (.string ⟨#[]⟩)))), (.c (.d (.v (.bool false))))]) : SV) = some ((.tup [(.c (.d (.v (.string (rgetF l k).1)))), (.c (.d (.v (.bool (rgetF l k).2))))]) : SV) from by first | rfl | ((try simp only [cond_true, cond_false, Bool.not_true, Bool.not_false] at hE15); (first | (simp only [hc6, ← hE15, cond_true, cond_false, Bool.not_true, Bool.not_false, List.map_nil]; done) | (simp only [rgetF, hc6, ← hE15, cond_true, cond_false, Bool.not_true, Bool.not_false, List.map_nil])))) rfl
theorem r_put0 (l : List AOp) (key : ByteArray) (has : Bool) (val : ByteArray) (hl : l.length ≤ 1000000) : Sat Try.prog 53 [(.t (.c (.d (.sl (List.map encOp l))))), (.t (.agg [(.d (.v (.string key))), (.d (.v (.bool has))), (.d (.v (.string val)))]))] [] (.t (.c (.d (.sl (List.map encOp (rput l (AOp.mk key has val))))))) [] := by
  refine sat_of_body tab_ok Try.func53 rfl (by kernel_rfl) (Nat.le_of_ble_eq_true rfl) rfl fun G => ?_
  refine awp_seq ?_
  refine awp_region_keep tab_ok boxes [] [0, 3, 4] [3] ⟨48, [(0, (.t (.c (.d (.sl (List.map encOp l)))))), (3, (.t (.c (.loc 3 0)))), (4, (sc (.slice none 0 0)))], [(3, (.cells 35 [(.d (.v (.string key))), (.d (.v (.bool has))), (.d (.v (.string val)))]))], []⟩ [] mixed (by kernel_rfl) trivial ?_
  refine peel_seq ?_
  refine awp_seq ?_
  refine awp_region_keep tab_ok boxes [] [0, 3, 4, 5] [3] ⟨48, [(0, (.t (.c (.d (.sl (List.map encOp l)))))), (3, (.t (.c (.loc 3 0)))), (4, (sc (.slice none 0 0))), (5, (sc (.slice none 0 0)))], [(3, (.cells 35 [(.d (.v (.string key))), (.d (.v (.bool has))), (.d (.v (.string val)))]))], []⟩ [] mixed (by kernel_rfl) trivial ?_
  refine peel_seq ?_
  refine awp_seq ?_
  refine awp_region_keep tab_ok boxes [] [0, 3, 4, 5, 6] [3] ⟨48, [(0, (.t (.c (.d (.sl (List.map encOp l)))))), (3, (.t (.c (.loc 3 0)))), (4, (sc (.slice none 0 0))), (5, (sc (.slice none 0 0))), (6, (sc (.bool (!has))))], [(3, (.cells 35 [(.d (.v (.string key))), (.d (.v (.bool has))), (.d (.v (.string val)))]))], []⟩ [] mixed (by kernel_rfl) trivial ?_
  refine peel_seq ?_
  refine awp_seq ?_
  refine awp_seq ?_
  refine awp_region_keep tab_ok boxes [(1, ⟨[], (sc (.int .i64 (List.length l : Int))), none⟩)] [3, 4, 5, 6, 12, 13, 14] [3] ⟨48, [(3, (.t (.c (.loc 3 0)))), (4, (sc (.slice none 0 0))), (5, (sc (.slice none 0 0))), (6, (sc (.bool (!has)))), (12, (.t (.c (.d (.sl (List.map encOp l)))))), (13, (sc (.int .i64 (List.length l : Int)))), (14, (sc (.int .i64 0)))], [(3, (.cells 35 [(.d (.v (.string key))), (.d (.v (.bool has))), (.d (.v (.string val)))]))], []⟩ [⟨(Go.Op.call (Go.Call.mk (Go.Callee.builtin Go.Builtin.len) #[(Go.Operand.tmp 12)] #[23])), 3, [(.t (.c (.d (.sl (List.map encOp l)))))], [], (sc (.int .i64 (List.length l : Int))), []⟩] mixed (by kernel_rfl) ⟨tri_len_map tab_ok rfl, trivial⟩ ?_
  refine peel_seq ?_
  refine awp_block ?_
  refine awp_mv [.own 5 1005 35 3 40] ⟨48, [(5, (.t (.c (.own 1005)))), (3, (.t (.c (.loc 3 0)))), (4, (sc (.slice none 0 0))), (6, (sc (.bool (!has)))), (12, (.t (.c (.d (.sl (List.map encOp l)))))), (13, (sc (.int .i64 (List.length l : Int)))), (14, (sc (.int .i64 0)))], [(1005, (.arr 35 3 40 [])), (3, (.cells 35 [(.d (.v (.string key))), (.d (.v (.bool has))), (.d (.v (.string val)))]))], []⟩ rfl ?_
  refine q_keep [3, 4, 5, 6, 12, 13, 14] [3, 1005] ?_
  refine awp_len 12 rfl (fun hlen1 => ?_)
  refine awp_loopP (ι := Nat × (List AOp) × (Bool)) (fun x => ⟨48, [(3, (.t (.c (.loc 3 0)))), (4, (sc (.slice none 0 0))), (5, (.t (.c (.own 1005)))), (6, (sc (.bool x.2.2))), (12, (.t (.c (.d (.sl (List.map encOp l)))))), (13, (sc (.int .i64 (List.length l : Int)))), (14, (sc (.int .i64 (x.1 : Int))))], [(3, (.cells 35 [(.d (.v (.string key))), (.d (.v (.bool has))), (.d (.v (.string val)))])), (1005, (.arr 35 3 40 (List.map encOp x.2.1)))], []⟩) (fun x => x.1 ≤ List.length l ∧ (List.length x.2.1 ≤ x.1 + (bif x.2.2 then 1 else 0)) ∧ rputF (List.drop x.1 l) (AOp.mk key has val) x.2.1 x.2.2 = rput l (AOp.mk key has val)) (fun x => List.length l - x.1) (0, [], (!has)) rfl ⟨Nat.zero_le _, by simp, rfl⟩ ?_
  rintro ⟨k2, a3, b4⟩ ⟨hk5, hx6, hJ7⟩
  try simp only at hk5 hx6 hJ7
  refine awp_seq ?_
  refine awp_region_keep tab_ok boxes [] [3, 4, 5, 6, 12, 13, 14, 15] [3, 1005] ⟨48, [(3, (.t (.c (.loc 3 0)))), (4, (sc (.slice none 0 0))), (5, (.t (.c (.own 1005)))), (6, (sc (.bool b4))), (12, (.t (.c (.d (.sl (List.map encOp l)))))), (13, (sc (.int .i64 (List.length l : Int)))), (14, (sc (.int .i64 (k2 : Int)))), (15, (sc (.bool (decide ((k2 : Int) < (List.length l : Int))))))], [(3, (.cells 35 [(.d (.v (.string key))), (.d (.v (.bool has))), (.d (.v (.string val)))])), (1005, (.arr 35 3 40 (List.map encOp a3)))], []⟩ [] mixed (by kernel_rfl) trivial ?_
  refine peel_seq ?_
  refine awp_seq ?_
  refine awp_cond (b := (decide ((k2 : Int) < (List.length l : Int)))) rfl (fun hc8 => ?_) (fun hc8 => ?_)
  · skip
    have hc8p := of_decide_eq_true hc8
    refine awp_skip ?_
    refine peel_seq ?_
    refine awp_seq ?_
    refine awp_block ?_
    refine awp_seq ?_
    obtain ⟨⟨key12, has13, val14⟩, ha10, hd11⟩ := at_drop (l := l) (k := k2) (by (try simp only [List.length_map] at *); omega)
    refine awp_region_keep tab_ok boxes [(0, ⟨[], (.t (.c (.d (.ptr [(.v (.string key12)), (.v (.bool has13)), (.v (.string val14))])))), some []⟩)] [3, 4, 5, 6, 8, 12, 13, 14] [3, 8, 1005] ⟨48, [(3, (.t (.c (.loc 3 0)))), (4, (sc (.slice none 0 0))), (5, (.t (.c (.own 1005)))), (6, (sc (.bool b4))), (8, (.t (.c (.loc 8 0)))), (12, (.t (.c (.d (.sl (List.map encOp l)))))), (13, (sc (.int .i64 (List.length l : Int)))), (14, (sc (.int .i64 (k2 : Int))))], [(3, (.cells 35 [(.d (.v (.string key))), (.d (.v (.bool has))), (.d (.v (.string val)))])), (8, (.cells 35 [(.d (.v (.string key12))), (.d (.v (.bool has13))), (.d (.v (.string val14)))])), (1005, (.arr 35 3 40 (List.map encOp a3)))], []⟩ [⟨(Go.Op.indexAddr 23 (Go.Operand.tmp 12) (Go.Operand.tmp 14)), 0, [(.t (.c (.d (.sl (List.map encOp l))))), (sc (.int .i64 (k2 : Int)))], [], (.t (.c (.d (.ptr [(.v (.string key12)), (.v (.bool has13)), (.v (.string val14))])))), []⟩] mixed (by kernel_rfl) ⟨tri_index_sl (e := 35) (sz := 3) (bytes := 40) (i := k2) tab_ok rfl (at_map encOp ha10) (all_map fun _ => rfl), trivial⟩ ?_
    refine peel_seq ?_
    refine awp_seq ?_
    refine awp_seq ?_
    cases b4 with
    | false =>
      refine awp_region_keep tab_ok boxes [(7, ⟨[], (sc (.bool (!(ltS key12 key)))), some []⟩)] [3, 4, 5, 6, 8, 12, 13, 14, 26] [3, 8, 1005] ⟨48, [(3, (.t (.c (.loc 3 0)))), (4, (sc (.slice none 0 0))), (5, (.t (.c (.own 1005)))), (6, (sc (.bool false))), (8, (.t (.c (.loc 8 0)))), (12, (.t (.c (.d (.sl (List.map encOp l)))))), (13, (sc (.int .i64 (List.length l : Int)))), (14, (sc (.int .i64 (k2 : Int)))), (26, (sc (.bool (!(ltS key12 key)))))], [(3, (.cells 35 [(.d (.v (.string key))), (.d (.v (.bool has))), (.d (.v (.string val)))])), (8, (.cells 35 [(.d (.v (.string key12))), (.d (.v (.bool has13))), (.d (.v (.string val14)))])), (1005, (.arr 35 3 40 (List.map encOp a3)))], []⟩ [⟨(Go.Op.binOp Go.BinOp.geq 9 (Go.Operand.tmp 22) (Go.Operand.tmp 24) 9), 4, [(sc (.string key12)), (sc (.string key))], [], (sc (.bool (!(ltS key12 key)))), []⟩] mixed (by kernel_rfl) ⟨tri_str_geq, trivial⟩ ?_
      refine peel_seq ?_
      refine awp_cond (b := (!(ltS key12 key))) rfl (fun hc15 => ?_) (fun hc15 => ?_)
      · skip
        have hc15n : (ltS key12 key) = false := by simpa using hc15
        refine awp_seq ?_
        refine awp_then [.sw 30 1005] ?_
        refine awp_region_keep tab_ok boxes [(2, ⟨[], (.t (.c (.d (.sl (List.map encOp ([(AOp.mk key has val)])))))), some []⟩), (3, ⟨[1005], (.t (.c (.own 30))), some [(30, (.arr 35 3 40 (List.map encOp (a3 ++ [(AOp.mk key has val)]))))]⟩)] [3, 4, 5, 6, 8, 12, 13, 14] [3, 8, 30] ⟨48, [(3, (.t (.c (.loc 3 0)))), (4, (sc (.slice none 0 0))), (5, (.t (.c (.own 30)))), (6, (sc (.bool false))), (8, (.t (.c (.loc 8 0)))), (12, (.t (.c (.d (.sl (List.map encOp l)))))), (13, (sc (.int .i64 (List.length l : Int)))), (14, (sc (.int .i64 (k2 : Int))))], [(3, (.cells 35 [(.d (.v (.string key))), (.d (.v (.bool has))), (.d (.v (.string val)))])), (8, (.cells 35 [(.d (.v (.string key12))), (.d (.v (.bool has13))), (.d (.v (.string val14)))])), (30, (.arr 35 3 40 (List.map encOp (a3 ++ [(AOp.mk key has val)]))))], []⟩ [⟨(Go.Op.buildSlice 23 1 #[(0, (Go.Operand.tmp 28))]), 23, [(.t (.agg [(.d (.v (.string key))), (.d (.v (.bool has))), (.d (.v (.string val)))]))], [], (.t (.c (.d (.sl (List.map encOp ([(AOp.mk key has val)])))))), []⟩, ⟨(Go.Op.call (Go.Call.mk (Go.Callee.builtin Go.Builtin.append) #[(Go.Operand.tmp 27), (Go.Operand.tmp 29)] #[23, 23])), 23, [(.t (.c (.own 1005))), (.t (.c (.d (.sl (List.map encOp ([(AOp.mk key has val)]))))))], [(1005, (.arr 35 3 40 (List.map encOp a3)))], (.t (.c (.own 30))), [(30, (.arr 35 3 40 (List.map encOp (a3 ++ [(AOp.mk key has val)]))))]⟩] mixed (by kernel_rfl) ⟨tri_slice_data (e := 35) (sz := 3) (bytes := 40) tab_ok (by kernel_rfl) rfl, tri_to (tri_append_sl (ex := 35) (bytes := 40) tab_ok rfl rfl rfl (all_map fun _ => rfl) (by (try simp only [List.length_map, List.length_append, List.length_cons, List.length_nil, cond_true, cond_false] at *); omega)) (by simp [encOp]), trivial⟩ ?_
        refine then_mv ⟨48, [(3, (.t (.c (.loc 3 0)))), (4, (sc (.slice none 0 0))), (5, (.t (.c (.own 1005)))), (6, (sc (.bool false))), (8, (.t (.c (.loc 8 0)))), (12, (.t (.c (.d (.sl (List.map encOp l)))))), (13, (sc (.int .i64 (List.length l : Int)))), (14, (sc (.int .i64 (k2 : Int))))], [(3, (.cells 35 [(.d (.v (.string key))), (.d (.v (.bool has))), (.d (.v (.string val)))])), (8, (.cells 35 [(.d (.v (.string key12))), (.d (.v (.bool has13))), (.d (.v (.string val14)))])), (1005, (.arr 35 3 40 (List.map encOp (a3 ++ [(AOp.mk key has val)]))))], []⟩ rfl ?_
        refine peel_seq ?_
        refine awp_region_keep tab_ok boxes [] [3, 4, 5, 6, 8, 12, 13, 14] [3, 8, 1005] ⟨48, [(3, (.t (.c (.loc 3 0)))), (4, (sc (.slice none 0 0))), (5, (.t (.c (.own 1005)))), (6, (sc (.bool true))), (8, (.t (.c (.loc 8 0)))), (12, (.t (.c (.d (.sl (List.map encOp l)))))), (13, (sc (.int .i64 (List.length l : Int)))), (14, (sc (.int .i64 (k2 : Int))))], [(3, (.cells 35 [(.d (.v (.string key))), (.d (.v (.bool has))), (.d (.v (.string val)))])), (8, (.cells 35 [(.d (.v (.string key12))), (.d (.v (.bool has13))), (.d (.v (.string val14)))])), (1005, (.arr 35 3 40 (List.map encOp (a3 ++ [(AOp.mk key has val)]))))], []⟩ [] mixed (by kernel_rfl) trivial ?_
        refine peel_seq ?_
        refine awp_seq ?_
        refine awp_region_keep tab_ok boxes [(4, ⟨[], (sc (.bool (!(eqS key12 key)))), some []⟩)] [3, 4, 5, 6, 8, 12, 13, 14, 35] [3, 8, 1005] ⟨48, [(3, (.t (.c (.loc 3 0)))), (4, (sc (.slice none 0 0))), (5, (.t (.c (.own 1005)))), (6, (sc (.bool true))), (8, (.t (.c (.loc 8 0)))), (12, (.t (.c (.d (.sl (List.map encOp l)))))), (13, (sc (.int .i64 (List.length l : Int)))), (14, (sc (.int .i64 (k2 : Int)))), (35, (sc (.bool (!(eqS key12 key)))))], [(3, (.cells 35 [(.d (.v (.string key))), (.d (.v (.bool has))), (.d (.v (.string val)))])), (8, (.cells 35 [(.d (.v (.string key12))), (.d (.v (.bool has13))), (.d (.v (.string val14)))])), (1005, (.arr 35 3 40 (List.map encOp (a3 ++ [(AOp.mk key has val)]))))], []⟩ [⟨(Go.Op.binOp Go.BinOp.neq 9 (Go.Operand.tmp 32) (Go.Operand.tmp 34) 9), 4, [(sc (.string key12)), (sc (.string key))], [], (sc (.bool (!(eqS key12 key)))), []⟩] mixed (by kernel_rfl) ⟨tri_str_neq, trivial⟩ ?_
        refine peel_seq ?_
        refine awp_cond (b := (!(eqS key12 key))) rfl (fun hc16 => ?_) (fun hc16 => ?_)
        · skip
          have hc16n : (eqS key12 key) = false := by simpa using hc16
          have hc16np := eqS_false hc16n
          refine awp_then [.sw 39 1005] ?_
          refine awp_region_keep tab_ok boxes [(2, ⟨[], (.t (.c (.d (.sl (List.map encOp ([(AOp.mk key12 has13 val14)])))))), some []⟩), (3, ⟨[1005], (.t (.c (.own 39))), some [(39, (.arr 35 3 40 (List.map encOp ((a3 ++ [(AOp.mk key has val)]) ++ [(AOp.mk key12 has13 val14)]))))]⟩)] [3, 4, 5, 6, 12, 13, 14] [3, 39] ⟨48, [(3, (.t (.c (.loc 3 0)))), (4, (sc (.slice none 0 0))), (5, (.t (.c (.own 39)))), (6, (sc (.bool true))), (12, (.t (.c (.d (.sl (List.map encOp l)))))), (13, (sc (.int .i64 (List.length l : Int)))), (14, (sc (.int .i64 (k2 : Int))))], [(3, (.cells 35 [(.d (.v (.string key))), (.d (.v (.bool has))), (.d (.v (.string val)))])), (39, (.arr 35 3 40 (List.map encOp ((a3 ++ [(AOp.mk key has val)]) ++ [(AOp.mk key12 has13 val14)]))))], []⟩ [⟨(Go.Op.buildSlice 23 1 #[(0, (Go.Operand.tmp 37))]), 23, [(.t (.agg [(.d (.v (.string key12))), (.d (.v (.bool has13))), (.d (.v (.string val14)))]))], [], (.t (.c (.d (.sl (List.map encOp ([(AOp.mk key12 has13 val14)])))))), []⟩, ⟨(Go.Op.call (Go.Call.mk (Go.Callee.builtin Go.Builtin.append) #[(Go.Operand.tmp 36), (Go.Operand.tmp 38)] #[23, 23])), 23, [(.t (.c (.own 1005))), (.t (.c (.d (.sl (List.map encOp ([(AOp.mk key12 has13 val14)]))))))], [(1005, (.arr 35 3 40 (List.map encOp (a3 ++ [(AOp.mk key has val)]))))], (.t (.c (.own 39))), [(39, (.arr 35 3 40 (List.map encOp ((a3 ++ [(AOp.mk key has val)]) ++ [(AOp.mk key12 has13 val14)]))))]⟩] mixed (by kernel_rfl) ⟨tri_slice_data (e := 35) (sz := 3) (bytes := 40) tab_ok (by kernel_rfl) rfl, tri_to (tri_append_sl (ex := 35) (bytes := 40) tab_ok rfl rfl rfl (all_map fun _ => rfl) (by (try simp only [List.length_map, List.length_append, List.length_cons, List.length_nil, cond_true, cond_false] at *); omega)) (by simp [encOp]), trivial⟩ ?_
          refine then_mv ⟨48, [(3, (.t (.c (.loc 3 0)))), (4, (sc (.slice none 0 0))), (5, (.t (.c (.own 1005)))), (6, (sc (.bool true))), (12, (.t (.c (.d (.sl (List.map encOp l)))))), (13, (sc (.int .i64 (List.length l : Int)))), (14, (sc (.int .i64 (k2 : Int))))], [(3, (.cells 35 [(.d (.v (.string key))), (.d (.v (.bool has))), (.d (.v (.string val)))])), (1005, (.arr 35 3 40 (List.map encOp ((a3 ++ [(AOp.mk key has val)]) ++ [(AOp.mk key12 has13 val14)]))))], []⟩ rfl ?_
          refine peel_block ?_
          refine peel_seq ?_
          refine awp_region_keep tab_ok boxes [(0, ⟨[], (sc (.int .i64 ((k2 : Int) + 1))), some []⟩)] [3, 4, 5, 6, 12, 13, 14] [3, 1005] ⟨48, [(3, (.t (.c (.loc 3 0)))), (4, (sc (.slice none 0 0))), (5, (.t (.c (.own 1005)))), (6, (sc (.bool true))), (12, (.t (.c (.d (.sl (List.map encOp l)))))), (13, (sc (.int .i64 (List.length l : Int)))), (14, (sc (.int .i64 ((k2 : Int) + 1))))], [(3, (.cells 35 [(.d (.v (.string key))), (.d (.v (.bool has))), (.d (.v (.string val)))])), (1005, (.arr 35 3 40 (List.map encOp ((a3 ++ [(AOp.mk key has val)]) ++ [(AOp.mk key12 has13 val14)]))))], []⟩ [⟨(Go.Op.binOp Go.BinOp.add 3 (Go.Operand.tmp 14) (Go.Operand.const (Go.Value.int Go.IntKind.i64 1)) 3), 3, [(sc (.int .i64 (k2 : Int))), (sc (.int .i64 1))], [], (sc (.int .i64 ((k2 : Int) + 1))), []⟩] mixed (by kernel_rfl) ⟨tri_int ((k2 : Int) + 1) (wrap_i64 (by omega)), trivial⟩ ?_
          exact peel_round (k2 + 1, ((a3 ++ [(AOp.mk key has val)]) ++ [(AOp.mk key12 has13 val14)]), true) rfl ⟨by (try simp only [List.length_map] at *); omega, by (try simp only [List.length_append, List.length_cons, List.length_nil, cond_true, cond_false] at *); omega, by have hj := hJ7; rw [hd11] at hj; simp only [rputF, hc15, hc15n, hc16, hc16n, hc8, cond_true, cond_false, Bool.not_true, Bool.not_false] at hj ⊢; exact hj⟩ (by (try simp only [List.length_map] at *); omega)
        · skip
          have hc16n : (eqS key12 key) = true := by simpa using hc16
          have hc16np := eqS_true hc16n
          refine q_keep [3, 4, 5, 6, 12, 13, 14] [3, 1005] ?_
          refine awp_skip ?_
          refine peel_block ?_
          refine peel_seq ?_
          refine awp_region_keep tab_ok boxes [(0, ⟨[], (sc (.int .i64 ((k2 : Int) + 1))), some []⟩)] [3, 4, 5, 6, 12, 13, 14] [3, 1005] ⟨48, [(3, (.t (.c (.loc 3 0)))), (4, (sc (.slice none 0 0))), (5, (.t (.c (.own 1005)))), (6, (sc (.bool true))), (12, (.t (.c (.d (.sl (List.map encOp l)))))), (13, (sc (.int .i64 (List.length l : Int)))), (14, (sc (.int .i64 ((k2 : Int) + 1))))], [(3, (.cells 35 [(.d (.v (.string key))), (.d (.v (.bool has))), (.d (.v (.string val)))])), (1005, (.arr 35 3 40 (List.map encOp (a3 ++ [(AOp.mk key has val)]))))], []⟩ [⟨(Go.Op.binOp Go.BinOp.add 3 (Go.Operand.tmp 14) (Go.Operand.const (Go.Value.int Go.IntKind.i64 1)) 3), 3, [(sc (.int .i64 (k2 : Int))), (sc (.int .i64 1))], [], (sc (.int .i64 ((k2 : Int) + 1))), []⟩] mixed (by kernel_rfl) ⟨tri_int ((k2 : Int) + 1) (wrap_i64 (by omega)), trivial⟩ ?_
          exact peel_round (k2 + 1, (a3 ++ [(AOp.mk key has val)]), true) rfl ⟨by (try simp only [List.length_map] at *); omega, by (try simp only [List.length_append, List.length_cons, List.length_nil, cond_true, cond_false] at *); omega, by have hj := hJ7; rw [hd11] at hj; simp only [rputF, hc15, hc15n, hc16, hc16n, hc8, cond_true, cond_false, Bool.not_true, Bool.not_false] at hj ⊢; exact hj⟩ (by (try simp only [List.length_map] at *); omega)
      · skip
        have hc15n : (ltS key12 key) = true := by simpa using hc15
        refine awp_skip ?_
        refine peel_seq ?_
        refine awp_seq ?_
        refine awp_region_keep tab_ok boxes [(4, ⟨[], (sc (.bool (!(eqS key12 key)))), some []⟩)] [3, 4, 5, 6, 8, 12, 13, 14, 35] [3, 8, 1005] ⟨48, [(3, (.t (.c (.loc 3 0)))), (4, (sc (.slice none 0 0))), (5, (.t (.c (.own 1005)))), (6, (sc (.bool false))), (8, (.t (.c (.loc 8 0)))), (12, (.t (.c (.d (.sl (List.map encOp l)))))), (13, (sc (.int .i64 (List.length l : Int)))), (14, (sc (.int .i64 (k2 : Int)))), (35, (sc (.bool (!(eqS key12 key)))))], [(3, (.cells 35 [(.d (.v (.string key))), (.d (.v (.bool has))), (.d (.v (.string val)))])), (8, (.cells 35 [(.d (.v (.string key12))), (.d (.v (.bool has13))), (.d (.v (.string val14)))])), (1005, (.arr 35 3 40 (List.map encOp a3)))], []⟩ [⟨(Go.Op.binOp Go.BinOp.neq 9 (Go.Operand.tmp 32) (Go.Operand.tmp 34) 9), 4, [(sc (.string key12)), (sc (.string key))], [], (sc (.bool (!(eqS key12 key)))), []⟩] mixed (by kernel_rfl) ⟨tri_str_neq, trivial⟩ ?_
        refine peel_seq ?_
        refine awp_cond (b := (!(eqS key12 key))) rfl (fun hc17 => ?_) (fun hc17 => ?_)
        · skip
          have hc17n : (eqS key12 key) = false := by simpa using hc17
          have hc17np := eqS_false hc17n
          refine awp_then [.sw 39 1005] ?_
          refine awp_region_keep tab_ok boxes [(2, ⟨[], (.t (.c (.d (.sl (List.map encOp ([(AOp.mk key12 has13 val14)])))))), some []⟩), (3, ⟨[1005], (.t (.c (.own 39))), some [(39, (.arr 35 3 40 (List.map encOp (a3 ++ [(AOp.mk key12 has13 val14)]))))]⟩)] [3, 4, 5, 6, 12, 13, 14] [3, 39] ⟨48, [(3, (.t (.c (.loc 3 0)))), (4, (sc (.slice none 0 0))), (5, (.t (.c (.own 39)))), (6, (sc (.bool false))), (12, (.t (.c (.d (.sl (List.map encOp l)))))), (13, (sc (.int .i64 (List.length l : Int)))), (14, (sc (.int .i64 (k2 : Int))))], [(3, (.cells 35 [(.d (.v (.string key))), (.d (.v (.bool has))), (.d (.v (.string val)))])), (39, (.arr 35 3 40 (List.map encOp (a3 ++ [(AOp.mk key12 has13 val14)]))))], []⟩ [⟨(Go.Op.buildSlice 23 1 #[(0, (Go.Operand.tmp 37))]), 23, [(.t (.agg [(.d (.v (.string key12))), (.d (.v (.bool has13))), (.d (.v (.string val14)))]))], [], (.t (.c (.d (.sl (List.map encOp ([(AOp.mk key12 has13 val14)])))))), []⟩, ⟨(Go.Op.call (Go.Call.mk (Go.Callee.builtin Go.Builtin.append) #[(Go.Operand.tmp 36), (Go.Operand.tmp 38)] #[23, 23])), 23, [(.t (.c (.own 1005))), (.t (.c (.d (.sl (List.map encOp ([(AOp.mk key12 has13 val14)]))))))], [(1005, (.arr 35 3 40 (List.map encOp a3)))], (.t (.c (.own 39))), [(39, (.arr 35 3 40 (List.map encOp (a3 ++ [(AOp.mk key12 has13 val14)]))))]⟩] mixed (by kernel_rfl) ⟨tri_slice_data (e := 35) (sz := 3) (bytes := 40) tab_ok (by kernel_rfl) rfl, tri_to (tri_append_sl (ex := 35) (bytes := 40) tab_ok rfl rfl rfl (all_map fun _ => rfl) (by (try simp only [List.length_map, List.length_append, List.length_cons, List.length_nil, cond_true, cond_false] at *); omega)) (by simp [encOp]), trivial⟩ ?_
          refine then_mv ⟨48, [(3, (.t (.c (.loc 3 0)))), (4, (sc (.slice none 0 0))), (5, (.t (.c (.own 1005)))), (6, (sc (.bool false))), (12, (.t (.c (.d (.sl (List.map encOp l)))))), (13, (sc (.int .i64 (List.length l : Int)))), (14, (sc (.int .i64 (k2 : Int))))], [(3, (.cells 35 [(.d (.v (.string key))), (.d (.v (.bool has))), (.d (.v (.string val)))])), (1005, (.arr 35 3 40 (List.map encOp (a3 ++ [(AOp.mk key12 has13 val14)]))))], []⟩ rfl ?_
          refine peel_block ?_
          refine peel_seq ?_
          refine awp_region_keep tab_ok boxes [(0, ⟨[], (sc (.int .i64 ((k2 : Int) + 1))), some []⟩)] [3, 4, 5, 6, 12, 13, 14] [3, 1005] ⟨48, [(3, (.t (.c (.loc 3 0)))), (4, (sc (.slice none 0 0))), (5, (.t (.c (.own 1005)))), (6, (sc (.bool false))), (12, (.t (.c (.d (.sl (List.map encOp l)))))), (13, (sc (.int .i64 (List.length l : Int)))), (14, (sc (.int .i64 ((k2 : Int) + 1))))], [(3, (.cells 35 [(.d (.v (.string key))), (.d (.v (.bool has))), (.d (.v (.string val)))])), (1005, (.arr 35 3 40 (List.map encOp (a3 ++ [(AOp.mk key12 has13 val14)]))))], []⟩ [⟨(Go.Op.binOp Go.BinOp.add 3 (Go.Operand.tmp 14) (Go.Operand.const (Go.Value.int Go.IntKind.i64 1)) 3), 3, [(sc (.int .i64 (k2 : Int))), (sc (.int .i64 1))], [], (sc (.int .i64 ((k2 : Int) + 1))), []⟩] mixed (by kernel_rfl) ⟨tri_int ((k2 : Int) + 1) (wrap_i64 (by omega)), trivial⟩ ?_
          exact peel_round (k2 + 1, (a3 ++ [(AOp.mk key12 has13 val14)]), false) rfl ⟨by (try simp only [List.length_map] at *); omega, by (try simp only [List.length_append, List.length_cons, List.length_nil, cond_true, cond_false] at *); omega, by have hj := hJ7; rw [hd11] at hj; simp only [rputF, hc15, hc15n, hc17, hc17n, hc8, cond_true, cond_false, Bool.not_true, Bool.not_false] at hj ⊢; exact hj⟩ (by (try simp only [List.length_map] at *); omega)
        · skip
          have hc17n : (eqS key12 key) = true := by simpa using hc17
          have hc17np := eqS_true hc17n
          refine q_keep [3, 4, 5, 6, 12, 13, 14] [3, 1005] ?_
          refine awp_skip ?_
          refine peel_block ?_
          refine peel_seq ?_
          refine awp_region_keep tab_ok boxes [(0, ⟨[], (sc (.int .i64 ((k2 : Int) + 1))), some []⟩)] [3, 4, 5, 6, 12, 13, 14] [3, 1005] ⟨48, [(3, (.t (.c (.loc 3 0)))), (4, (sc (.slice none 0 0))), (5, (.t (.c (.own 1005)))), (6, (sc (.bool false))), (12, (.t (.c (.d (.sl (List.map encOp l)))))), (13, (sc (.int .i64 (List.length l : Int)))), (14, (sc (.int .i64 ((k2 : Int) + 1))))], [(3, (.cells 35 [(.d (.v (.string key))), (.d (.v (.bool has))), (.d (.v (.string val)))])), (1005, (.arr 35 3 40 (List.map encOp a3)))], []⟩ [⟨(Go.Op.binOp Go.BinOp.add 3 (Go.Operand.tmp 14) (Go.Operand.const (Go.Value.int Go.IntKind.i64 1)) 3), 3, [(sc (.int .i64 (k2 : Int))), (sc (.int .i64 1))], [], (sc (.int .i64 ((k2 : Int) + 1))), []⟩] mixed (by kernel_rfl) ⟨tri_int ((k2 : Int) + 1) (wrap_i64 (by omega)), trivial⟩ ?_
          exact peel_round (k2 + 1, a3, false) rfl ⟨by (try simp only [List.length_map] at *); omega, by (try simp only [List.length_append, List.length_cons, List.length_nil, cond_true, cond_false] at *); omega, by have hj := hJ7; rw [hd11] at hj; simp only [rputF, hc15, hc15n, hc17, hc17n, hc8, cond_true, cond_false, Bool.not_true, Bool.not_false] at hj ⊢; exact hj⟩ (by (try simp only [List.length_map] at *); omega)
    | true =>
      refine awp_region_keep tab_ok boxes [] [3, 4, 5, 6, 8, 12, 13, 14, 26] [3, 8, 1005] ⟨48, [(3, (.t (.c (.loc 3 0)))), (4, (sc (.slice none 0 0))), (5, (.t (.c (.own 1005)))), (6, (sc (.bool true))), (8, (.t (.c (.loc 8 0)))), (12, (.t (.c (.d (.sl (List.map encOp l)))))), (13, (sc (.int .i64 (List.length l : Int)))), (14, (sc (.int .i64 (k2 : Int)))), (26, (sc (.bool false)))], [(3, (.cells 35 [(.d (.v (.string key))), (.d (.v (.bool has))), (.d (.v (.string val)))])), (8, (.cells 35 [(.d (.v (.string key12))), (.d (.v (.bool has13))), (.d (.v (.string val14)))])), (1005, (.arr 35 3 40 (List.map encOp a3)))], []⟩ [] mixed (by kernel_rfl) trivial ?_
      refine peel_seq ?_
      refine awp_false rfl ?_
      refine awp_skip ?_
      refine peel_seq ?_
      refine awp_seq ?_
      refine awp_region_keep tab_ok boxes [(4, ⟨[], (sc (.bool (!(eqS key12 key)))), some []⟩)] [3, 4, 5, 6, 8, 12, 13, 14, 35] [3, 8, 1005] ⟨48, [(3, (.t (.c (.loc 3 0)))), (4, (sc (.slice none 0 0))), (5, (.t (.c (.own 1005)))), (6, (sc (.bool true))), (8, (.t (.c (.loc 8 0)))), (12, (.t (.c (.d (.sl (List.map encOp l)))))), (13, (sc (.int .i64 (List.length l : Int)))), (14, (sc (.int .i64 (k2 : Int)))), (35, (sc (.bool (!(eqS key12 key)))))], [(3, (.cells 35 [(.d (.v (.string key))), (.d (.v (.bool has))), (.d (.v (.string val)))])), (8, (.cells 35 [(.d (.v (.string key12))), (.d (.v (.bool has13))), (.d (.v (.string val14)))])), (1005, (.arr 35 3 40 (List.map encOp a3)))], []⟩ [⟨(Go.Op.binOp Go.BinOp.neq 9 (Go.Operand.tmp 32) (Go.Operand.tmp 34) 9), 4, [(sc (.string key12)), (sc (.string key))], [], (sc (.bool (!(eqS key12 key)))), []⟩] mixed (by kernel_rfl) ⟨tri_str_neq, trivial⟩ ?_
      refine peel_seq ?_
      refine awp_cond (b := (!(eqS key12 key))) rfl (fun hc18 => ?_) (fun hc18 => ?_)
      · skip
        have hc18n : (eqS key12 key) = false := by simpa using hc18
        have hc18np := eqS_false hc18n
        refine awp_then [.sw 39 1005] ?_
        refine awp_region_keep tab_ok boxes [(2, ⟨[], (.t (.c (.d (.sl (List.map encOp ([(AOp.mk key12 has13 val14)])))))), some []⟩), (3, ⟨[1005], (.t (.c (.own 39))), some [(39, (.arr 35 3 40 (List.map encOp (a3 ++ [(AOp.mk key12 has13 val14)]))))]⟩)] [3, 4, 5, 6, 12, 13, 14] [3, 39] ⟨48, [(3, (.t (.c (.loc 3 0)))), (4, (sc (.slice none 0 0))), (5, (.t (.c (.own 39)))), (6, (sc (.bool true))), (12, (.t (.c (.d (.sl (List.map encOp l)))))), (13, (sc (.int .i64 (List.length l : Int)))), (14, (sc (.int .i64 (k2 : Int))))], [(3, (.cells 35 [(.d (.v (.string key))), (.d (.v (.bool has))), (.d (.v (.string val)))])), (39, (.arr 35 3 40 (List.map encOp (a3 ++ [(AOp.mk key12 has13 val14)]))))], []⟩ [⟨(Go.Op.buildSlice 23 1 #[(0, (Go.Operand.tmp 37))]), 23, [(.t (.agg [(.d (.v (.string key12))), (.d (.v (.bool has13))), (.d (.v (.string val14)))]))], [], (.t (.c (.d (.sl (List.map encOp ([(AOp.mk key12 has13 val14)])))))), []⟩, ⟨(Go.Op.call (Go.Call.mk (Go.Callee.builtin Go.Builtin.append) #[(Go.Operand.tmp 36), (Go.Operand.tmp 38)] #[23, 23])), 23, [(.t (.c (.own 1005))), (.t (.c (.d (.sl (List.map encOp ([(AOp.mk key12 has13 val14)]))))))], [(1005, (.arr 35 3 40 (List.map encOp a3)))], (.t (.c (.own 39))), [(39, (.arr 35 3 40 (List.map encOp (a3 ++ [(AOp.mk key12 has13 val14)]))))]⟩] mixed (by kernel_rfl) ⟨tri_slice_data (e := 35) (sz := 3) (bytes := 40) tab_ok (by kernel_rfl) rfl, tri_to (tri_append_sl (ex := 35) (bytes := 40) tab_ok rfl rfl rfl (all_map fun _ => rfl) (by (try simp only [List.length_map, List.length_append, List.length_cons, List.length_nil, cond_true, cond_false] at *); omega)) (by simp [encOp]), trivial⟩ ?_
        refine then_mv ⟨48, [(3, (.t (.c (.loc 3 0)))), (4, (sc (.slice none 0 0))), (5, (.t (.c (.own 1005)))), (6, (sc (.bool true))), (12, (.t (.c (.d (.sl (List.map encOp l)))))), (13, (sc (.int .i64 (List.length l : Int)))), (14, (sc (.int .i64 (k2 : Int))))], [(3, (.cells 35 [(.d (.v (.string key))), (.d (.v (.bool has))), (.d (.v (.string val)))])), (1005, (.arr 35 3 40 (List.map encOp (a3 ++ [(AOp.mk key12 has13 val14)]))))], []⟩ rfl ?_
        refine peel_block ?_
        refine peel_seq ?_
        refine awp_region_keep tab_ok boxes [(0, ⟨[], (sc (.int .i64 ((k2 : Int) + 1))), some []⟩)] [3, 4, 5, 6, 12, 13, 14] [3, 1005] ⟨48, [(3, (.t (.c (.loc 3 0)))), (4, (sc (.slice none 0 0))), (5, (.t (.c (.own 1005)))), (6, (sc (.bool true))), (12, (.t (.c (.d (.sl (List.map encOp l)))))), (13, (sc (.int .i64 (List.length l : Int)))), (14, (sc (.int .i64 ((k2 : Int) + 1))))], [(3, (.cells 35 [(.d (.v (.string key))), (.d (.v (.bool has))), (.d (.v (.string val)))])), (1005, (.arr 35 3 40 (List.map encOp (a3 ++ [(AOp.mk key12 has13 val14)]))))], []⟩ [⟨(Go.Op.binOp Go.BinOp.add 3 (Go.Operand.tmp 14) (Go.Operand.const (Go.Value.int Go.IntKind.i64 1)) 3), 3, [(sc (.int .i64 (k2 : Int))), (sc (.int .i64 1))], [], (sc (.int .i64 ((k2 : Int) + 1))), []⟩] mixed (by kernel_rfl) ⟨tri_int ((k2 : Int) + 1) (wrap_i64 (by omega)), trivial⟩ ?_
        exact peel_round (k2 + 1, (a3 ++ [(AOp.mk key12 has13 val14)]), true) rfl ⟨by (try simp only [List.length_map] at *); omega, by (try simp only [List.length_append, List.length_cons, List.length_nil, cond_true, cond_false] at *); omega, by have hj := hJ7; rw [hd11] at hj; simp only [rputF, hc18, hc18n, hc8, cond_true, cond_false, Bool.not_true, Bool.not_false] at hj ⊢; exact hj⟩ (by (try simp only [List.length_map] at *); omega)
      · skip
        have hc18n : (eqS key12 key) = true := by simpa using hc18
        have hc18np := eqS_true hc18n
        refine q_keep [3, 4, 5, 6, 12, 13, 14] [3, 1005] ?_
        refine awp_skip ?_
        refine peel_block ?_
        refine peel_seq ?_
        refine awp_region_keep tab_ok boxes [(0, ⟨[], (sc (.int .i64 ((k2 : Int) + 1))), some []⟩)] [3, 4, 5, 6, 12, 13, 14] [3, 1005] ⟨48, [(3, (.t (.c (.loc 3 0)))), (4, (sc (.slice none 0 0))), (5, (.t (.c (.own 1005)))), (6, (sc (.bool true))), (12, (.t (.c (.d (.sl (List.map encOp l)))))), (13, (sc (.int .i64 (List.length l : Int)))), (14, (sc (.int .i64 ((k2 : Int) + 1))))], [(3, (.cells 35 [(.d (.v (.string key))), (.d (.v (.bool has))), (.d (.v (.string val)))])), (1005, (.arr 35 3 40 (List.map encOp a3)))], []⟩ [⟨(Go.Op.binOp Go.BinOp.add 3 (Go.Operand.tmp 14) (Go.Operand.const (Go.Value.int Go.IntKind.i64 1)) 3), 3, [(sc (.int .i64 (k2 : Int))), (sc (.int .i64 1))], [], (sc (.int .i64 ((k2 : Int) + 1))), []⟩] mixed (by kernel_rfl) ⟨tri_int ((k2 : Int) + 1) (wrap_i64 (by omega)), trivial⟩ ?_
        exact peel_round (k2 + 1, a3, true) rfl ⟨by (try simp only [List.length_map] at *); omega, by (try simp only [List.length_append, List.length_cons, List.length_nil, cond_true, cond_false] at *); omega, by have hj := hJ7; rw [hd11] at hj; simp only [rputF, hc18, hc18n, hc8, cond_true, cond_false, Bool.not_true, Bool.not_false] at hj ⊢; exact hj⟩ (by (try simp only [List.length_map] at *); omega)
  · skip
    have hc8p := of_decide_eq_false hc8
    have hE19 := hJ7
    rw [at_end (l := l) (by (try simp only [List.length_map] at *); omega)] at hE19
    simp only [rputF, hc8, cond_true, cond_false, Bool.not_true, Bool.not_false] at hE19
    refine awp_exit ?_
    refine peel_seq_exit ?_
    refine peel_seq_exit ?_
    refine peel_hit ?_
    refine peel_seq ?_
    refine awp_seq ?_
    refine awp_seq ?_
    refine awp_region_keep tab_ok boxes [] [3, 4, 5, 42] [3, 1005] ⟨48, [(3, (.t (.c (.loc 3 0)))), (4, (sc (.slice none 0 0))), (5, (.t (.c (.own 1005)))), (42, (sc (.bool (!b4))))], [(3, (.cells 35 [(.d (.v (.string key))), (.d (.v (.bool has))), (.d (.v (.string val)))])), (1005, (.arr 35 3 40 (List.map encOp a3)))], []⟩ [] mixed (by kernel_rfl) trivial ?_
    refine peel_seq ?_
    cases b4 with
    | false =>
      refine awp_true rfl ?_
      refine awp_then [.sw 46 1005] ?_
      refine awp_region_keep tab_ok boxes [(2, ⟨[], (.t (.c (.d (.sl (List.map encOp ([(AOp.mk key has val)])))))), some []⟩), (3, ⟨[1005], (.t (.c (.own 46))), some [(46, (.arr 35 3 40 (List.map encOp (a3 ++ [(AOp.mk key has val)]))))]⟩)] [4, 5] [46] ⟨48, [(4, (sc (.slice none 0 0))), (5, (.t (.c (.own 46))))], [(46, (.arr 35 3 40 (List.map encOp (a3 ++ [(AOp.mk key has val)]))))], []⟩ [⟨(Go.Op.buildSlice 23 1 #[(0, (Go.Operand.tmp 44))]), 23, [(.t (.agg [(.d (.v (.string key))), (.d (.v (.bool has))), (.d (.v (.string val)))]))], [], (.t (.c (.d (.sl (List.map encOp ([(AOp.mk key has val)])))))), []⟩, ⟨(Go.Op.call (Go.Call.mk (Go.Callee.builtin Go.Builtin.append) #[(Go.Operand.tmp 43), (Go.Operand.tmp 45)] #[23, 23])), 23, [(.t (.c (.own 1005))), (.t (.c (.d (.sl (List.map encOp ([(AOp.mk key has val)]))))))], [(1005, (.arr 35 3 40 (List.map encOp a3)))], (.t (.c (.own 46))), [(46, (.arr 35 3 40 (List.map encOp (a3 ++ [(AOp.mk key has val)]))))]⟩] mixed (by kernel_rfl) ⟨tri_slice_data (e := 35) (sz := 3) (bytes := 40) tab_ok (by kernel_rfl) rfl, tri_to (tri_append_sl (ex := 35) (bytes := 40) tab_ok rfl rfl rfl (all_map fun _ => rfl) (by (try simp only [List.length_map, List.length_append, List.length_cons, List.length_nil, cond_true, cond_false] at *); omega)) (by simp [encOp]), trivial⟩ ?_
      refine then_mv ⟨48, [(4, (sc (.slice none 0 0))), (5, (.t (.c (.own 1005))))], [(1005, (.arr 35 3 40 (List.map encOp (a3 ++ [(AOp.mk key has val)]))))], []⟩ rfl ?_
      refine peel_seq ?_
      refine awp_seq ?_
      refine awp_region_keep tab_ok boxes [] [4] [1005] ⟨48, [(4, (.t (.c (.own 1005))))], [(1005, (.arr 35 3 40 (List.map encOp (a3 ++ [(AOp.mk key has val)]))))], []⟩ [] mixed (by kernel_rfl) trivial ?_
      refine peel_seq ?_
      refine awp_mv [.fz 1005] ⟨48, [(4, (.t (.c (.d (.sl (List.map encOp (a3 ++ [(AOp.mk key has val)])))))))], [], []⟩ rfl ?_
      refine awp_ret ?_
      exact ends_ret rfl (show some ((.t (.c (.d (.sl (List.map encOp (a3 ++ [(AOp.mk key has val)])))))) : SV) = some ((.t (.c (.d (.sl (List.map encOp (rput l (AOp.mk key has val))))))) : SV) from by first | rfl | ((try simp only [cond_true, cond_false, Bool.not_true, Bool.not_false] at hE19); (first | (simp only [hc8, ← hE19, cond_true, cond_false, Bool.not_true, Bool.not_false, List.map_nil]; done) | (simp only [rput, hc8, ← hE19, cond_true, cond_false, Bool.not_true, Bool.not_false, List.map_nil])))) rfl
    | true =>
      refine awp_false rfl ?_
      refine awp_skip ?_
      refine peel_seq ?_
      refine awp_seq ?_
      refine awp_region_keep tab_ok boxes [] [4] [1005] ⟨48, [(4, (.t (.c (.own 1005))))], [(1005, (.arr 35 3 40 (List.map encOp a3)))], []⟩ [] mixed (by kernel_rfl) trivial ?_
      refine peel_seq ?_
      refine awp_mv [.fz 1005] ⟨48, [(4, (.t (.c (.d (.sl (List.map encOp a3))))))], [], []⟩ rfl ?_
      refine awp_ret ?_
      exact ends_ret rfl (show some ((.t (.c (.d (.sl (List.map encOp a3))))) : SV) = some ((.t (.c (.d (.sl (List.map encOp (rput l (AOp.mk key has val))))))) : SV) from by first | rfl | ((try simp only [cond_true, cond_false, Bool.not_true, Bool.not_false] at hE19); (first | (simp only [hc8, ← hE19, cond_true, cond_false, Bool.not_true, Bool.not_false, List.map_nil]; done) | (simp only [rput, hc8, ← hE19, cond_true, cond_false, Bool.not_true, Bool.not_false, List.map_nil])))) rfl
theorem r_put (l : List AOp) (o : AOp) (hl : l.length ≤ 1000000) : Sat Try.prog 53 [(.t (.c (.d (.sl (List.map encOp l))))), (.t (.agg [(.d (.v (.string (AOp.key o)))), (.d (.v (.bool (AOp.has o)))), (.d (.v (.string (AOp.val o))))]))] [] (.t (.c (.d (.sl (List.map encOp (rput l o)))))) [] := by
  obtain ⟨k, h, v⟩ := o
  exact r_put0 l k h v hl
theorem r_Scan (l : List AOp) (f g : ByteArray) (hl : l.length ≤ 1000000) : Sat Try.prog 27 [(.t (.c (.loc 6000 0))), (sc (.string f)), (sc (.string g))] [(6000, (.cells 62 [(.d (.sl (List.map encOp l)))]))] (.t (.c (.d (.sl (List.map encOp (rscanF l f g [])))))) [(6000, (.cells 62 [(.d (.sl (List.map encOp l)))]))] := by
  refine sat_of_body tab_ok Try.func27 rfl (by kernel_rfl) (Nat.le_of_ble_eq_true rfl) rfl fun G => ?_
  refine awp_seq ?_
  refine awp_region_keep tab_ok boxes [] [0, 1, 2, 6] [6000] ⟨39, [(0, (.t (.c (.loc 6000 0)))), (1, (sc (.string f))), (2, (sc (.string g))), (6, (sc (.slice none 0 0)))], [(6000, (.cells 62 [(.d (.sl (List.map encOp l)))]))], [6000]⟩ [] mixed (by kernel_rfl) trivial ?_
  refine peel_seq ?_
  refine awp_seq ?_
  refine awp_region_keep tab_ok boxes [] [0, 1, 2, 6, 7] [6000] ⟨39, [(0, (.t (.c (.loc 6000 0)))), (1, (sc (.string f))), (2, (sc (.string g))), (6, (sc (.slice none 0 0))), (7, (sc (.slice none 0 0)))], [(6000, (.cells 62 [(.d (.sl (List.map encOp l)))]))], [6000]⟩ [] mixed (by kernel_rfl) trivial ?_
  refine peel_seq ?_
  refine awp_seq ?_
  refine awp_seq ?_
  refine awp_region_keep tab_ok boxes [(4, ⟨[], (sc (.int .i64 (List.length l : Int))), none⟩)] [1, 2, 6, 7, 13, 14, 15] [6000] ⟨39, [(1, (sc (.string f))), (2, (sc (.string g))), (6, (sc (.slice none 0 0))), (7, (sc (.slice none 0 0))), (13, (.t (.c (.d (.sl (List.map encOp l)))))), (14, (sc (.int .i64 (List.length l : Int)))), (15, (sc (.int .i64 0)))], [(6000, (.cells 62 [(.d (.sl (List.map encOp l)))]))], [6000]⟩ [⟨(Go.Op.call (Go.Call.mk (Go.Callee.builtin Go.Builtin.len) #[(Go.Operand.tmp 13)] #[23])), 3, [(.t (.c (.d (.sl (List.map encOp l)))))], [], (sc (.int .i64 (List.length l : Int))), []⟩] mixed (by kernel_rfl) ⟨tri_len_map tab_ok rfl, trivial⟩ ?_
  refine peel_seq ?_
  refine awp_block ?_
  refine awp_mv [.own 7 1007 35 3 40] ⟨39, [(7, (.t (.c (.own 1007)))), (1, (sc (.string f))), (2, (sc (.string g))), (6, (sc (.slice none 0 0))), (13, (.t (.c (.d (.sl (List.map encOp l)))))), (14, (sc (.int .i64 (List.length l : Int)))), (15, (sc (.int .i64 0)))], [(1007, (.arr 35 3 40 [])), (6000, (.cells 62 [(.d (.sl (List.map encOp l)))]))], [6000]⟩ rfl ?_
  refine q_keep [1, 2, 6, 7, 13, 14, 15] [1007, 6000] ?_
  refine awp_len 13 rfl (fun hlen1 => ?_)
  refine awp_loopP (ι := Nat × (List AOp)) (fun x => ⟨39, [(1, (sc (.string f))), (2, (sc (.string g))), (6, (sc (.slice none 0 0))), (7, (.t (.c (.own 1007)))), (13, (.t (.c (.d (.sl (List.map encOp l)))))), (14, (sc (.int .i64 (List.length l : Int)))), (15, (sc (.int .i64 (x.1 : Int))))], [(1007, (.arr 35 3 40 (List.map encOp x.2))), (6000, (.cells 62 [(.d (.sl (List.map encOp l)))]))], [6000]⟩) (fun x => x.1 ≤ List.length l ∧ (List.length x.2 ≤ x.1) ∧ rscanF (List.drop x.1 l) f g x.2 = rscanF l f g []) (fun x => List.length l - x.1) (0, []) rfl ⟨Nat.zero_le _, by simp, rfl⟩ ?_
  rintro ⟨k2, a3⟩ ⟨hk4, hx5, hJ6⟩
  try simp only at hk4 hx5 hJ6
  refine awp_seq ?_
  refine awp_region_keep tab_ok boxes [] [1, 2, 6, 7, 13, 14, 15, 16] [1007, 6000] ⟨39, [(1, (sc (.string f))), (2, (sc (.string g))), (6, (sc (.slice none 0 0))), (7, (.t (.c (.own 1007)))), (13, (.t (.c (.d (.sl (List.map encOp l)))))), (14, (sc (.int .i64 (List.length l : Int)))), (15, (sc (.int .i64 (k2 : Int)))), (16, (sc (.bool (decide ((k2 : Int) < (List.length l : Int))))))], [(1007, (.arr 35 3 40 (List.map encOp a3))), (6000, (.cells 62 [(.d (.sl (List.map encOp l)))]))], [6000]⟩ [] mixed (by kernel_rfl) trivial ?_
  refine peel_seq ?_
  refine awp_seq ?_
  refine awp_cond (b := (decide ((k2 : Int) < (List.length l : Int)))) rfl (fun hc7 => ?_) (fun hc7 => ?_)
  · skip
    have hc7p := of_decide_eq_true hc7
    refine awp_skip ?_
    refine peel_seq ?_
    refine awp_seq ?_
    refine awp_block ?_
    refine awp_seq ?_
    obtain ⟨⟨key11, has12, val13⟩, ha9, hd10⟩ := at_drop (l := l) (k := k2) (by (try simp only [List.length_map] at *); omega)
    refine awp_region_keep tab_ok boxes [(0, ⟨[], (.t (.c (.d (.ptr [(.v (.string key11)), (.v (.bool has12)), (.v (.string val13))])))), some []⟩)] [1, 2, 6, 7, 9, 13, 14, 15] [9, 1007, 6000] ⟨39, [(1, (sc (.string f))), (2, (sc (.string g))), (6, (sc (.slice none 0 0))), (7, (.t (.c (.own 1007)))), (9, (.t (.c (.loc 9 0)))), (13, (.t (.c (.d (.sl (List.map encOp l)))))), (14, (sc (.int .i64 (List.length l : Int)))), (15, (sc (.int .i64 (k2 : Int))))], [(9, (.cells 35 [(.d (.v (.string key11))), (.d (.v (.bool has12))), (.d (.v (.string val13)))])), (1007, (.arr 35 3 40 (List.map encOp a3))), (6000, (.cells 62 [(.d (.sl (List.map encOp l)))]))], [6000]⟩ [⟨(Go.Op.indexAddr 23 (Go.Operand.tmp 13) (Go.Operand.tmp 15)), 0, [(.t (.c (.d (.sl (List.map encOp l))))), (sc (.int .i64 (k2 : Int)))], [], (.t (.c (.d (.ptr [(.v (.string key11)), (.v (.bool has12)), (.v (.string val13))])))), []⟩] mixed (by kernel_rfl) ⟨tri_index_sl (e := 35) (sz := 3) (bytes := 40) (i := k2) tab_ok rfl (at_map encOp ha9) (all_map fun _ => rfl), trivial⟩ ?_
    refine peel_seq ?_
    refine awp_seq ?_
    cases hb14 : (ltS key11 f) with
    | false =>
      cases hb15 : (eqS g ⟨#[]⟩) with
      | false =>
        have hb15p := eqS_false hb15
        refine awp_region_keep tab_ok boxes [(3, ⟨[], (sc (.bool true)), some []⟩), (6, ⟨[], (sc (.bool false)), some []⟩), (11, ⟨[], (sc (.bool (ltS key11 g))), some []⟩)] [1, 2, 6, 7, 9, 13, 14, 15, 32] [9, 1007, 6000] ⟨39, [(1, (sc (.string f))), (2, (sc (.string g))), (6, (sc (.slice none 0 0))), (7, (.t (.c (.own 1007)))), (9, (.t (.c (.loc 9 0)))), (13, (.t (.c (.d (.sl (List.map encOp l)))))), (14, (sc (.int .i64 (List.length l : Int)))), (15, (sc (.int .i64 (k2 : Int)))), (32, (sc (.bool (ltS key11 g))))], [(9, (.cells 35 [(.d (.v (.string key11))), (.d (.v (.bool has12))), (.d (.v (.string val13)))])), (1007, (.arr 35 3 40 (List.map encOp a3))), (6000, (.cells 62 [(.d (.sl (List.map encOp l)))]))], [6000]⟩ [⟨(Go.Op.binOp Go.BinOp.geq 9 (Go.Operand.tmp 20) (Go.Operand.tmp 21) 9), 4, [(sc (.string key11)), (sc (.string f))], [], (sc (.bool true)), []⟩, ⟨(Go.Op.binOp Go.BinOp.eql 9 (Go.Operand.tmp 24) (Go.Operand.const (Go.Value.string (ByteArray.mk #[]))) 9), 4, [(sc (.string g)), (sc (.string ⟨#[]⟩))], [], (sc (.bool false)), []⟩, ⟨(Go.Op.binOp Go.BinOp.lss 9 (Go.Operand.tmp 28) (Go.Operand.tmp 29) 9), 4, [(sc (.string key11)), (sc (.string g))], [], (sc (.bool (ltS key11 g))), []⟩] mixed (by kernel_rfl) ⟨tri_as tri_str_geq (by rw [hb14]; rfl), tri_as tri_str_eql hb15, tri_str_lss, trivial⟩ ?_
        refine peel_seq ?_
        refine awp_cond (b := (ltS key11 g)) rfl (fun hc16 => ?_) (fun hc16 => ?_)
        · skip
          refine awp_then [.sw 36 1007] ?_
          refine awp_region_keep tab_ok boxes [(2, ⟨[], (.t (.c (.d (.sl (List.map encOp ([(AOp.mk key11 has12 val13)])))))), some []⟩), (3, ⟨[1007], (.t (.c (.own 36))), some [(36, (.arr 35 3 40 (List.map encOp (a3 ++ [(AOp.mk key11 has12 val13)]))))]⟩)] [1, 2, 6, 7, 13, 14, 15] [36, 6000] ⟨39, [(1, (sc (.string f))), (2, (sc (.string g))), (6, (sc (.slice none 0 0))), (7, (.t (.c (.own 36)))), (13, (.t (.c (.d (.sl (List.map encOp l)))))), (14, (sc (.int .i64 (List.length l : Int)))), (15, (sc (.int .i64 (k2 : Int))))], [(36, (.arr 35 3 40 (List.map encOp (a3 ++ [(AOp.mk key11 has12 val13)])))), (6000, (.cells 62 [(.d (.sl (List.map encOp l)))]))], [6000]⟩ [⟨(Go.Op.buildSlice 23 1 #[(0, (Go.Operand.tmp 34))]), 23, [(.t (.agg [(.d (.v (.string key11))), (.d (.v (.bool has12))), (.d (.v (.string val13)))]))], [], (.t (.c (.d (.sl (List.map encOp ([(AOp.mk key11 has12 val13)])))))), []⟩, ⟨(Go.Op.call (Go.Call.mk (Go.Callee.builtin Go.Builtin.append) #[(Go.Operand.tmp 33), (Go.Operand.tmp 35)] #[23, 23])), 23, [(.t (.c (.own 1007))), (.t (.c (.d (.sl (List.map encOp ([(AOp.mk key11 has12 val13)]))))))], [(1007, (.arr 35 3 40 (List.map encOp a3)))], (.t (.c (.own 36))), [(36, (.arr 35 3 40 (List.map encOp (a3 ++ [(AOp.mk key11 has12 val13)]))))]⟩] mixed (by kernel_rfl) ⟨tri_slice_data (e := 35) (sz := 3) (bytes := 40) tab_ok (by kernel_rfl) rfl, tri_to (tri_append_sl (ex := 35) (bytes := 40) tab_ok rfl rfl rfl (all_map fun _ => rfl) (by (try simp only [List.length_map, List.length_append, List.length_cons, List.length_nil] at *); omega)) (by simp [encOp]), trivial⟩ ?_
          refine then_mv ⟨39, [(1, (sc (.string f))), (2, (sc (.string g))), (6, (sc (.slice none 0 0))), (7, (.t (.c (.own 1007)))), (13, (.t (.c (.d (.sl (List.map encOp l)))))), (14, (sc (.int .i64 (List.length l : Int)))), (15, (sc (.int .i64 (k2 : Int))))], [(1007, (.arr 35 3 40 (List.map encOp (a3 ++ [(AOp.mk key11 has12 val13)])))), (6000, (.cells 62 [(.d (.sl (List.map encOp l)))]))], [6000]⟩ rfl ?_
          refine peel_block ?_
          refine peel_seq ?_
          refine awp_region_keep tab_ok boxes [(0, ⟨[], (sc (.int .i64 ((k2 : Int) + 1))), some []⟩)] [1, 2, 6, 7, 13, 14, 15] [1007, 6000] ⟨39, [(1, (sc (.string f))), (2, (sc (.string g))), (6, (sc (.slice none 0 0))), (7, (.t (.c (.own 1007)))), (13, (.t (.c (.d (.sl (List.map encOp l)))))), (14, (sc (.int .i64 (List.length l : Int)))), (15, (sc (.int .i64 ((k2 : Int) + 1))))], [(1007, (.arr 35 3 40 (List.map encOp (a3 ++ [(AOp.mk key11 has12 val13)])))), (6000, (.cells 62 [(.d (.sl (List.map encOp l)))]))], [6000]⟩ [⟨(Go.Op.binOp Go.BinOp.add 3 (Go.Operand.tmp 15) (Go.Operand.const (Go.Value.int Go.IntKind.i64 1)) 3), 3, [(sc (.int .i64 (k2 : Int))), (sc (.int .i64 1))], [], (sc (.int .i64 ((k2 : Int) + 1))), []⟩] mixed (by kernel_rfl) ⟨tri_int ((k2 : Int) + 1) (wrap_i64 (by omega)), trivial⟩ ?_
          exact peel_round (k2 + 1, (a3 ++ [(AOp.mk key11 has12 val13)])) rfl ⟨by (try simp only [List.length_map] at *); omega, by (try simp only [List.length_append, List.length_cons, List.length_nil] at *); omega, by have hj := hJ6; rw [hd10] at hj; simp only [rscanF, hb14, hb15, hc16, hc7, cond_true, cond_false, Bool.not_true, Bool.not_false] at hj ⊢; exact hj⟩ (by (try simp only [List.length_map] at *); omega)
        · skip
          refine q_keep [1, 2, 6, 7, 13, 14, 15] [1007, 6000] ?_
          refine awp_skip ?_
          refine peel_block ?_
          refine peel_seq ?_
          refine awp_region_keep tab_ok boxes [(0, ⟨[], (sc (.int .i64 ((k2 : Int) + 1))), some []⟩)] [1, 2, 6, 7, 13, 14, 15] [1007, 6000] ⟨39, [(1, (sc (.string f))), (2, (sc (.string g))), (6, (sc (.slice none 0 0))), (7, (.t (.c (.own 1007)))), (13, (.t (.c (.d (.sl (List.map encOp l)))))), (14, (sc (.int .i64 (List.length l : Int)))), (15, (sc (.int .i64 ((k2 : Int) + 1))))], [(1007, (.arr 35 3 40 (List.map encOp a3))), (6000, (.cells 62 [(.d (.sl (List.map encOp l)))]))], [6000]⟩ [⟨(Go.Op.binOp Go.BinOp.add 3 (Go.Operand.tmp 15) (Go.Operand.const (Go.Value.int Go.IntKind.i64 1)) 3), 3, [(sc (.int .i64 (k2 : Int))), (sc (.int .i64 1))], [], (sc (.int .i64 ((k2 : Int) + 1))), []⟩] mixed (by kernel_rfl) ⟨tri_int ((k2 : Int) + 1) (wrap_i64 (by omega)), trivial⟩ ?_
          exact peel_round (k2 + 1, a3) rfl ⟨by (try simp only [List.length_map] at *); omega, by (try simp only [List.length_append, List.length_cons, List.length_nil] at *); omega, by have hj := hJ6; rw [hd10] at hj; simp only [rscanF, hb14, hb15, hc16, hc7, cond_true, cond_false, Bool.not_true, Bool.not_false] at hj ⊢; exact hj⟩ (by (try simp only [List.length_map] at *); omega)
      | true =>
        have hb15p := eqS_true hb15
        refine awp_region_keep tab_ok boxes [(3, ⟨[], (sc (.bool true)), some []⟩), (6, ⟨[], (sc (.bool true)), some []⟩)] [1, 2, 6, 7, 9, 13, 14, 15, 32] [9, 1007, 6000] ⟨39, [(1, (sc (.string f))), (2, (sc (.string g))), (6, (sc (.slice none 0 0))), (7, (.t (.c (.own 1007)))), (9, (.t (.c (.loc 9 0)))), (13, (.t (.c (.d (.sl (List.map encOp l)))))), (14, (sc (.int .i64 (List.length l : Int)))), (15, (sc (.int .i64 (k2 : Int)))), (32, (sc (.bool true)))], [(9, (.cells 35 [(.d (.v (.string key11))), (.d (.v (.bool has12))), (.d (.v (.string val13)))])), (1007, (.arr 35 3 40 (List.map encOp a3))), (6000, (.cells 62 [(.d (.sl (List.map encOp l)))]))], [6000]⟩ [⟨(Go.Op.binOp Go.BinOp.geq 9 (Go.Operand.tmp 20) (Go.Operand.tmp 21) 9), 4, [(sc (.string key11)), (sc (.string f))], [], (sc (.bool true)), []⟩, ⟨(Go.Op.binOp Go.BinOp.eql 9 (Go.Operand.tmp 24) (Go.Operand.const (Go.Value.string (ByteArray.mk #[]))) 9), 4, [(sc (.string g)), (sc (.string ⟨#[]⟩))], [], (sc (.bool true)), []⟩] mixed (by kernel_rfl) ⟨tri_as tri_str_geq (by rw [hb14]; rfl), tri_as tri_str_eql hb15, trivial⟩ ?_
        refine peel_seq ?_
        refine awp_true rfl ?_
        refine awp_then [.sw 36 1007] ?_
        refine awp_region_keep tab_ok boxes [(2, ⟨[], (.t (.c (.d (.sl (List.map encOp ([(AOp.mk key11 has12 val13)])))))), some []⟩), (3, ⟨[1007], (.t (.c (.own 36))), some [(36, (.arr 35 3 40 (List.map encOp (a3 ++ [(AOp.mk key11 has12 val13)]))))]⟩)] [1, 2, 6, 7, 13, 14, 15] [36, 6000] ⟨39, [(1, (sc (.string f))), (2, (sc (.string g))), (6, (sc (.slice none 0 0))), (7, (.t (.c (.own 36)))), (13, (.t (.c (.d (.sl (List.map encOp l)))))), (14, (sc (.int .i64 (List.length l : Int)))), (15, (sc (.int .i64 (k2 : Int))))], [(36, (.arr 35 3 40 (List.map encOp (a3 ++ [(AOp.mk key11 has12 val13)])))), (6000, (.cells 62 [(.d (.sl (List.map encOp l)))]))], [6000]⟩ [⟨(Go.Op.buildSlice 23 1 #[(0, (Go.Operand.tmp 34))]), 23, [(.t (.agg [(.d (.v (.string key11))), (.d (.v (.bool has12))), (.d (.v (.string val13)))]))], [], (.t (.c (.d (.sl (List.map encOp ([(AOp.mk key11 has12 val13)])))))), []⟩, ⟨(Go.Op.call (Go.Call.mk (Go.Callee.builtin Go.Builtin.append) #[(Go.Operand.tmp 33), (Go.Operand.tmp 35)] #[23, 23])), 23, [(.t (.c (.own 1007))), (.t (.c (.d (.sl (List.map encOp ([(AOp.mk key11 has12 val13)]))))))], [(1007, (.arr 35 3 40 (List.map encOp a3)))], (.t (.c (.own 36))), [(36, (.arr 35 3 40 (List.map encOp (a3 ++ [(AOp.mk key11 has12 val13)]))))]⟩] mixed (by kernel_rfl) ⟨tri_slice_data (e := 35) (sz := 3) (bytes := 40) tab_ok (by kernel_rfl) rfl, tri_to (tri_append_sl (ex := 35) (bytes := 40) tab_ok rfl rfl rfl (all_map fun _ => rfl) (by (try simp only [List.length_map, List.length_append, List.length_cons, List.length_nil] at *); omega)) (by simp [encOp]), trivial⟩ ?_
        refine then_mv ⟨39, [(1, (sc (.string f))), (2, (sc (.string g))), (6, (sc (.slice none 0 0))), (7, (.t (.c (.own 1007)))), (13, (.t (.c (.d (.sl (List.map encOp l)))))), (14, (sc (.int .i64 (List.length l : Int)))), (15, (sc (.int .i64 (k2 : Int))))], [(1007, (.arr 35 3 40 (List.map encOp (a3 ++ [(AOp.mk key11 has12 val13)])))), (6000, (.cells 62 [(.d (.sl (List.map encOp l)))]))], [6000]⟩ rfl ?_
        refine peel_block ?_
        refine peel_seq ?_
        refine awp_region_keep tab_ok boxes [(0, ⟨[], (sc (.int .i64 ((k2 : Int) + 1))), some []⟩)] [1, 2, 6, 7, 13, 14, 15] [1007, 6000] ⟨39, [(1, (sc (.string f))), (2, (sc (.string g))), (6, (sc (.slice none 0 0))), (7, (.t (.c (.own 1007)))), (13, (.t (.c (.d (.sl (List.map encOp l)))))), (14, (sc (.int .i64 (List.length l : Int)))), (15, (sc (.int .i64 ((k2 : Int) + 1))))], [(1007, (.arr 35 3 40 (List.map encOp (a3 ++ [(AOp.mk key11 has12 val13)])))), (6000, (.cells 62 [(.d (.sl (List.map encOp l)))]))], [6000]⟩ [⟨(Go.Op.binOp Go.BinOp.add 3 (Go.Operand.tmp 15) (Go.Operand.const (Go.Value.int Go.IntKind.i64 1)) 3), 3, [(sc (.int .i64 (k2 : Int))), (sc (.int .i64 1))], [], (sc (.int .i64 ((k2 : Int) + 1))), []⟩] mixed (by kernel_rfl) ⟨tri_int ((k2 : Int) + 1) (wrap_i64 (by omega)), trivial⟩ ?_
        exact peel_round (k2 + 1, (a3 ++ [(AOp.mk key11 has12 val13)])) rfl ⟨by (try simp only [List.length_map] at *); omega, by (try simp only [List.length_append, List.length_cons, List.length_nil] at *); omega, by have hj := hJ6; rw [hd10] at hj; simp only [rscanF, hb14, hb15, hc7, cond_true, cond_false, Bool.not_true, Bool.not_false] at hj ⊢; exact hj⟩ (by (try simp only [List.length_map] at *); omega)
    | true =>
      refine awp_region_keep tab_ok boxes [(3, ⟨[], (sc (.bool false)), some []⟩)] [1, 2, 6, 7, 9, 13, 14, 15, 32] [9, 1007, 6000] ⟨39, [(1, (sc (.string f))), (2, (sc (.string g))), (6, (sc (.slice none 0 0))), (7, (.t (.c (.own 1007)))), (9, (.t (.c (.loc 9 0)))), (13, (.t (.c (.d (.sl (List.map encOp l)))))), (14, (sc (.int .i64 (List.length l : Int)))), (15, (sc (.int .i64 (k2 : Int)))), (32, (sc (.bool false)))], [(9, (.cells 35 [(.d (.v (.string key11))), (.d (.v (.bool has12))), (.d (.v (.string val13)))])), (1007, (.arr 35 3 40 (List.map encOp a3))), (6000, (.cells 62 [(.d (.sl (List.map encOp l)))]))], [6000]⟩ [⟨(Go.Op.binOp Go.BinOp.geq 9 (Go.Operand.tmp 20) (Go.Operand.tmp 21) 9), 4, [(sc (.string key11)), (sc (.string f))], [], (sc (.bool false)), []⟩] mixed (by kernel_rfl) ⟨tri_as tri_str_geq (by rw [hb14]; rfl), trivial⟩ ?_
      refine peel_seq ?_
      refine awp_false rfl ?_
      refine q_keep [1, 2, 6, 7, 13, 14, 15] [1007, 6000] ?_
      refine awp_skip ?_
      refine peel_block ?_
      refine peel_seq ?_
      refine awp_region_keep tab_ok boxes [(0, ⟨[], (sc (.int .i64 ((k2 : Int) + 1))), some []⟩)] [1, 2, 6, 7, 13, 14, 15] [1007, 6000] ⟨39, [(1, (sc (.string f))), (2, (sc (.string g))), (6, (sc (.slice none 0 0))), (7, (.t (.c (.own 1007)))), (13, (.t (.c (.d (.sl (List.map encOp l)))))), (14, (sc (.int .i64 (List.length l : Int)))), (15, (sc (.int .i64 ((k2 : Int) + 1))))], [(1007, (.arr 35 3 40 (List.map encOp a3))), (6000, (.cells 62 [(.d (.sl (List.map encOp l)))]))], [6000]⟩ [⟨(Go.Op.binOp Go.BinOp.add 3 (Go.Operand.tmp 15) (Go.Operand.const (Go.Value.int Go.IntKind.i64 1)) 3), 3, [(sc (.int .i64 (k2 : Int))), (sc (.int .i64 1))], [], (sc (.int .i64 ((k2 : Int) + 1))), []⟩] mixed (by kernel_rfl) ⟨tri_int ((k2 : Int) + 1) (wrap_i64 (by omega)), trivial⟩ ?_
      exact peel_round (k2 + 1, a3) rfl ⟨by (try simp only [List.length_map] at *); omega, by (try simp only [List.length_append, List.length_cons, List.length_nil] at *); omega, by have hj := hJ6; rw [hd10] at hj; simp only [rscanF, hb14, hc7, cond_true, cond_false, Bool.not_true, Bool.not_false] at hj ⊢; exact hj⟩ (by (try simp only [List.length_map] at *); omega)
  · skip
    have hc7p := of_decide_eq_false hc7
    have hE17 := hJ6
    rw [at_end (l := l) (by (try simp only [List.length_map] at *); omega)] at hE17
    simp only [rscanF, hc7, cond_true, cond_false, Bool.not_true, Bool.not_false] at hE17
    refine awp_exit ?_
    refine peel_seq_exit ?_
    refine peel_seq_exit ?_
    refine peel_hit ?_
    refine peel_seq ?_
    refine awp_seq ?_
    refine awp_region_keep tab_ok boxes [] [6] [1007, 6000] ⟨39, [(6, (.t (.c (.own 1007))))], [(1007, (.arr 35 3 40 (List.map encOp a3))), (6000, (.cells 62 [(.d (.sl (List.map encOp l)))]))], [6000]⟩ [] mixed (by kernel_rfl) trivial ?_
    refine peel_seq ?_
    refine awp_mv [.fz 1007] ⟨39, [(6, (.t (.c (.d (.sl (List.map encOp a3))))))], [(6000, (.cells 62 [(.d (.sl (List.map encOp l)))]))], [6000]⟩ rfl ?_
    refine awp_ret ?_
    exact ends_ret rfl (show some ((.t (.c (.d (.sl (List.map encOp a3))))) : SV) = some ((.t (.c (.d (.sl (List.map encOp (rscanF l f g [])))))) : SV) from by first | rfl | ((try simp only [cond_true, cond_false, Bool.not_true, Bool.not_false] at hE17); (first | (simp only [hc7, ← hE17, cond_true, cond_false, Bool.not_true, Bool.not_false, List.map_nil]; done) | (simp only [rscanF, hc7, ← hE17, cond_true, cond_false, Bool.not_true, Bool.not_false, List.map_nil])))) rfl
theorem r_Right (l : List AOp) (hs : (∀ x ∈ l, AOp.small x)) : Sat Try.prog 35 [(.t (.c (.d (.sl (List.map encOp l)))))] [] (sc (.int .i64 (rightF l []))) [] := by
  refine sat_of_body tab_ok Try.func35 rfl (by kernel_rfl) (Nat.le_of_ble_eq_true rfl) rfl fun G => ?_
  refine awp_seq ?_
  refine awp_region_keep tab_ok boxes [] [0, 2] [] ⟨49, [(0, (.t (.c (.d (.sl (List.map encOp l)))))), (2, (sc (.int .i64 0)))], [], []⟩ [] mixed (by kernel_rfl) trivial ?_
  refine peel_seq ?_
  refine awp_seq ?_
  refine awp_seq ?_
  refine awp_region_keep tab_ok boxes [(1, ⟨[], (sc (.int .i64 (List.length l : Int))), none⟩)] [0, 2, 6, 7, 8] [] ⟨49, [(0, (.t (.c (.d (.sl (List.map encOp l)))))), (2, (sc (.int .i64 0))), (6, (.t (.c (.d (.sl (List.map encOp l)))))), (7, (sc (.int .i64 (List.length l : Int)))), (8, (sc (.int .i64 0)))], [], []⟩ [⟨(Go.Op.call (Go.Call.mk (Go.Callee.builtin Go.Builtin.len) #[(Go.Operand.tmp 6)] #[23])), 3, [(.t (.c (.d (.sl (List.map encOp l)))))], [], (sc (.int .i64 (List.length l : Int))), []⟩] mixed (by kernel_rfl) ⟨tri_len_map tab_ok rfl, trivial⟩ ?_
  refine peel_seq ?_
  refine awp_block ?_
  refine awp_len 0 rfl (fun hlen1 => ?_)
  refine awp_loopP (ι := Nat) (fun x => ⟨49, [(0, (.t (.c (.d (.sl (List.map encOp l)))))), (2, (sc (.int .i64 0))), (6, (.t (.c (.d (.sl (List.map encOp l)))))), (7, (sc (.int .i64 (List.length l : Int)))), (8, (sc (.int .i64 (x : Int))))], [], []⟩) (fun x => x ≤ List.length l ∧ (True) ∧ rightF (List.drop x l) ((List.take x l).map AOp.key) = rightF l []) (fun x => List.length l - x) (0) rfl ⟨Nat.zero_le _, trivial, rfl⟩ ?_
  rintro k2 ⟨hk3, hx4, hJ5⟩
  try simp only at hk3 hx4 hJ5
  refine awp_seq ?_
  refine awp_region_keep tab_ok boxes [] [0, 2, 6, 7, 8, 9] [] ⟨49, [(0, (.t (.c (.d (.sl (List.map encOp l)))))), (2, (sc (.int .i64 0))), (6, (.t (.c (.d (.sl (List.map encOp l)))))), (7, (sc (.int .i64 (List.length l : Int)))), (8, (sc (.int .i64 (k2 : Int)))), (9, (sc (.bool (decide ((k2 : Int) < (List.length l : Int))))))], [], []⟩ [] mixed (by kernel_rfl) trivial ?_
  refine peel_seq ?_
  refine awp_seq ?_
  refine awp_cond (b := (decide ((k2 : Int) < (List.length l : Int)))) rfl (fun hc6 => ?_) (fun hc6 => ?_)
  · skip
    have hc6p := of_decide_eq_true hc6
    refine awp_skip ?_
    refine peel_seq ?_
    refine awp_seq ?_
    refine awp_block ?_
    refine awp_seq ?_
    obtain ⟨⟨key10, has11, val12⟩, ha8, hd9⟩ := at_drop (l := l) (k := k2) (by (try simp only [List.length_map] at *); omega)
    have hm13 := hs (AOp.mk key10 has11 val12) (List.mem_of_getElem? ha8)
    refine awp_region_keep tab_ok boxes [(1, ⟨[], (.t (.c (.d (.ptr [(.v (.string key10)), (.v (.bool has11)), (.v (.string val12))])))), some []⟩)] [0, 2, 3, 4, 6, 7, 8] [4] ⟨49, [(0, (.t (.c (.d (.sl (List.map encOp l)))))), (2, (sc (.int .i64 0))), (3, (sc (.int .i64 (k2 : Int)))), (4, (.t (.c (.loc 4 0)))), (6, (.t (.c (.d (.sl (List.map encOp l)))))), (7, (sc (.int .i64 (List.length l : Int)))), (8, (sc (.int .i64 (k2 : Int))))], [(4, (.cells 35 [(.d (.v (.string key10))), (.d (.v (.bool has11))), (.d (.v (.string val12)))]))], []⟩ [⟨(Go.Op.indexAddr 23 (Go.Operand.tmp 6) (Go.Operand.tmp 8)), 0, [(.t (.c (.d (.sl (List.map encOp l))))), (sc (.int .i64 (k2 : Int)))], [], (.t (.c (.d (.ptr [(.v (.string key10)), (.v (.bool has11)), (.v (.string val12))])))), []⟩] mixed (by kernel_rfl) ⟨tri_index_sl (e := 35) (sz := 3) (bytes := 40) (i := k2) tab_ok rfl (at_map encOp ha8) (all_map fun _ => rfl), trivial⟩ ?_
    refine peel_seq ?_
    refine awp_seq ?_
    refine awp_seq ?_
    refine awp_region_keep tab_ok boxes [(2, ⟨[], (sc (.int .i64 (keyE key10))), some []⟩)] [0, 2, 3, 4, 6, 7, 8, 16] [4] ⟨49, [(0, (.t (.c (.d (.sl (List.map encOp l)))))), (2, (sc (.int .i64 0))), (3, (sc (.int .i64 (k2 : Int)))), (4, (.t (.c (.loc 4 0)))), (6, (.t (.c (.d (.sl (List.map encOp l)))))), (7, (sc (.int .i64 (List.length l : Int)))), (8, (sc (.int .i64 (k2 : Int)))), (16, (sc (.bool ((keyE key10) != 0))))], [(4, (.cells 35 [(.d (.v (.string key10))), (.d (.v (.bool has11))), (.d (.v (.string val12)))]))], []⟩ [⟨(Go.Op.call (Go.Call.mk (Go.Callee.value (Go.Operand.func 60)) #[(Go.Operand.tmp 14)] #[9])), 37, [(sc (.func (.func 60) #[] #[])), (sc (.string key10))], [], (sc (.int .i64 (keyE key10))), []⟩] mixed (by kernel_rfl) ⟨tri_call (f_Key key10 (by (simp only [AOp.small] at *); omega)), trivial⟩ ?_
    refine peel_seq ?_
    refine awp_cond (b := ((keyE key10) != 0)) rfl (fun hc14 => ?_) (fun hc14 => ?_)
    · skip
      have hc14p : (keyE key10) ≠ 0 := by simpa using hc14
      refine awp_seq ?_
      refine awp_region_keep tab_ok boxes [] [0, 2, 3, 4, 6, 7, 8] [4] ⟨49, [(0, (.t (.c (.d (.sl (List.map encOp l)))))), (2, (sc (.int .i64 20))), (3, (sc (.int .i64 (k2 : Int)))), (4, (.t (.c (.loc 4 0)))), (6, (.t (.c (.d (.sl (List.map encOp l)))))), (7, (sc (.int .i64 (List.length l : Int)))), (8, (sc (.int .i64 (k2 : Int))))], [(4, (.cells 35 [(.d (.v (.string key10))), (.d (.v (.bool has11))), (.d (.v (.string val12)))]))], []⟩ [] mixed (by kernel_rfl) trivial ?_
      refine peel_seq ?_
      have hE15 := hJ5
      rw [hd9] at hE15
      simp only [rightF, badV, hc14, hc6, cond_true, cond_false, Bool.not_true, Bool.not_false] at hE15
      refine awp_ret ?_
      refine peel_seq_ret ?_
      refine peel_block_ret ?_
      refine peel_seq_ret ?_
      refine peel_seq_ret ?_
      refine peel_block_ret ?_
      refine peel_seq_ret ?_
      exact ends_ret rfl (show some ((sc (.int .i64 20)) : SV) = some ((sc (.int .i64 (rightF l []))) : SV) from by first | rfl | ((try simp only [cond_true, cond_false, Bool.not_true, Bool.not_false] at hE15); (first | (simp only [hc14, hc6, ← hE15, cond_true, cond_false, Bool.not_true, Bool.not_false, List.map_nil]; done) | (simp only [rightF, badV, hc14, hc6, ← hE15, cond_true, cond_false, Bool.not_true, Bool.not_false, List.map_nil])))) rfl
    · skip
      have hc14p : (keyE key10) = 0 := by simpa using hc14
      refine awp_skip ?_
      refine peel_seq ?_
      refine awp_seq ?_
      refine awp_seq ?_
      cases has11 with
      | false =>
        refine awp_region_keep tab_ok boxes [(15, ⟨[], (sc (.bool (!(eqS val12 ⟨#[]⟩)))), some []⟩)] [0, 2, 3, 4, 6, 7, 8, 34] [4] ⟨49, [(0, (.t (.c (.d (.sl (List.map encOp l)))))), (2, (sc (.int .i64 0))), (3, (sc (.int .i64 (k2 : Int)))), (4, (.t (.c (.loc 4 0)))), (6, (.t (.c (.d (.sl (List.map encOp l)))))), (7, (sc (.int .i64 (List.length l : Int)))), (8, (sc (.int .i64 (k2 : Int)))), (34, (sc (.bool (!(eqS val12 ⟨#[]⟩)))))], [(4, (.cells 35 [(.d (.v (.string key10))), (.d (.v (.bool false))), (.d (.v (.string val12)))]))], []⟩ [⟨(Go.Op.binOp Go.BinOp.neq 9 (Go.Operand.tmp 31) (Go.Operand.const (Go.Value.string (ByteArray.mk #[]))) 9), 4, [(sc (.string val12)), (sc (.string ⟨#[]⟩))], [], (sc (.bool (!(eqS val12 ⟨#[]⟩)))), []⟩] mixed (by kernel_rfl) ⟨tri_str_neq, trivial⟩ ?_
        refine peel_seq ?_
        refine awp_cond (b := (!(eqS val12 ⟨#[]⟩))) rfl (fun hc16 => ?_) (fun hc16 => ?_)
        · skip
          have hc16n : (eqS val12 ⟨#[]⟩) = false := by simpa using hc16
          have hc16np := eqS_false hc16n
          refine awp_seq ?_
          refine awp_region_keep tab_ok boxes [] [0, 2, 3, 4, 6, 7, 8] [4] ⟨49, [(0, (.t (.c (.d (.sl (List.map encOp l)))))), (2, (sc (.int .i64 21))), (3, (sc (.int .i64 (k2 : Int)))), (4, (.t (.c (.loc 4 0)))), (6, (.t (.c (.d (.sl (List.map encOp l)))))), (7, (sc (.int .i64 (List.length l : Int)))), (8, (sc (.int .i64 (k2 : Int))))], [(4, (.cells 35 [(.d (.v (.string key10))), (.d (.v (.bool false))), (.d (.v (.string val12)))]))], []⟩ [] mixed (by kernel_rfl) trivial ?_
          refine peel_seq ?_
          have hE17 := hJ5
          rw [hd9] at hE17
          simp only [rightF, badV, hc14, hc16, hc16n, hc6, cond_true, cond_false, Bool.not_true, Bool.not_false] at hE17
          refine awp_ret ?_
          refine peel_seq_ret ?_
          refine peel_block_ret ?_
          refine peel_seq_ret ?_
          refine peel_seq_ret ?_
          refine peel_block_ret ?_
          refine peel_seq_ret ?_
          exact ends_ret rfl (show some ((sc (.int .i64 21)) : SV) = some ((sc (.int .i64 (rightF l []))) : SV) from by first | rfl | ((try simp only [cond_true, cond_false, Bool.not_true, Bool.not_false] at hE17); (first | (simp only [hc14, hc16, hc16n, hc6, ← hE17, cond_true, cond_false, Bool.not_true, Bool.not_false, List.map_nil]; done) | (simp only [rightF, badV, hc14, hc16, hc16n, hc6, ← hE17, cond_true, cond_false, Bool.not_true, Bool.not_false, List.map_nil])))) rfl
        · skip
          have hc16n : (eqS val12 ⟨#[]⟩) = true := by simpa using hc16
          have hc16np := eqS_true hc16n
          refine awp_skip ?_
          refine peel_seq ?_
          refine awp_seq ?_
          refine awp_region_keep tab_ok boxes [] [0, 2, 4, 6, 7, 8, 35, 36] [4] ⟨49, [(0, (.t (.c (.d (.sl (List.map encOp l)))))), (2, (sc (.int .i64 0))), (4, (.t (.c (.loc 4 0)))), (6, (.t (.c (.d (.sl (List.map encOp l)))))), (7, (sc (.int .i64 (List.length l : Int)))), (8, (sc (.int .i64 (k2 : Int)))), (35, (sc (.int .i64 (k2 : Int)))), (36, (sc (.int .i64 0)))], [(4, (.cells 35 [(.d (.v (.string key10))), (.d (.v (.bool false))), (.d (.v (.string val12)))]))], []⟩ [] mixed (by kernel_rfl) trivial ?_
          refine peel_seq ?_
          refine awp_block ?_
          refine awp_loopP (ι := Nat) (fun x => ⟨49, [(0, (.t (.c (.d (.sl (List.map encOp l)))))), (2, (sc (.int .i64 0))), (4, (.t (.c (.loc 4 0)))), (6, (.t (.c (.d (.sl (List.map encOp l)))))), (7, (sc (.int .i64 (List.length l : Int)))), (8, (sc (.int .i64 (k2 : Int)))), (35, (sc (.int .i64 (k2 : Int)))), (36, (sc (.int .i64 (x : Int))))], [(4, (.cells 35 [(.d (.v (.string key10))), (.d (.v (.bool false))), (.d (.v (.string val12)))]))], []⟩) (fun x => x ≤ k2 ∧ hasK (((List.take k2 l).map AOp.key).drop x) key10 = hasK ((List.take k2 l).map AOp.key) key10) (fun x => k2 - x) 0 rfl ⟨Nat.zero_le _, rfl⟩ ?_
          rintro x18 ⟨hk19, hJ20⟩
          refine awp_seq ?_
          refine awp_region_keep tab_ok boxes [] [0, 2, 4, 6, 7, 8, 35, 36, 37] [4] ⟨49, [(0, (.t (.c (.d (.sl (List.map encOp l)))))), (2, (sc (.int .i64 0))), (4, (.t (.c (.loc 4 0)))), (6, (.t (.c (.d (.sl (List.map encOp l)))))), (7, (sc (.int .i64 (List.length l : Int)))), (8, (sc (.int .i64 (k2 : Int)))), (35, (sc (.int .i64 (k2 : Int)))), (36, (sc (.int .i64 (x18 : Int)))), (37, (sc (.bool (decide ((x18 : Int) < (k2 : Int))))))], [(4, (.cells 35 [(.d (.v (.string key10))), (.d (.v (.bool false))), (.d (.v (.string val12)))]))], []⟩ [] mixed (by kernel_rfl) trivial ?_
          refine peel_seq ?_
          refine awp_seq ?_
          refine awp_cond (b := (decide ((x18 : Int) < (k2 : Int)))) rfl (fun hc21 => ?_) (fun hc21 => ?_)
          · skip
            have hc21p := of_decide_eq_true hc21
            refine awp_skip ?_
            refine peel_seq ?_
            refine awp_seq ?_
            refine awp_block ?_
            refine awp_seq ?_
            refine awp_region_keep tab_ok boxes [] [0, 2, 4, 5, 6, 7, 8, 35, 36] [4] ⟨49, [(0, (.t (.c (.d (.sl (List.map encOp l)))))), (2, (sc (.int .i64 0))), (4, (.t (.c (.loc 4 0)))), (5, (sc (.int .i64 (x18 : Int)))), (6, (.t (.c (.d (.sl (List.map encOp l)))))), (7, (sc (.int .i64 (List.length l : Int)))), (8, (sc (.int .i64 (k2 : Int)))), (35, (sc (.int .i64 (k2 : Int)))), (36, (sc (.int .i64 (x18 : Int))))], [(4, (.cells 35 [(.d (.v (.string key10))), (.d (.v (.bool false))), (.d (.v (.string val12)))]))], []⟩ [] mixed (by kernel_rfl) trivial ?_
            refine peel_seq ?_
            refine awp_seq ?_
            obtain ⟨⟨key25, has26, val27⟩, ha23, hd24⟩ := at_drop (l := l) (k := x18) (by (try simp only [List.length_map] at *); omega)
            have hm28 := hs (AOp.mk key25 has26 val27) (List.mem_of_getElem? ha23)
            refine awp_region_keep tab_ok boxes [(2, ⟨[], (.t (.c (.d (.ptr [(.v (.string key25)), (.v (.bool has26)), (.v (.string val27))])))), some []⟩), (7, ⟨[], (sc (.bool (eqS key25 key10))), some []⟩)] [0, 2, 4, 6, 7, 8, 35, 36, 46] [4] ⟨49, [(0, (.t (.c (.d (.sl (List.map encOp l)))))), (2, (sc (.int .i64 0))), (4, (.t (.c (.loc 4 0)))), (6, (.t (.c (.d (.sl (List.map encOp l)))))), (7, (sc (.int .i64 (List.length l : Int)))), (8, (sc (.int .i64 (k2 : Int)))), (35, (sc (.int .i64 (k2 : Int)))), (36, (sc (.int .i64 (x18 : Int)))), (46, (sc (.bool (eqS key25 key10))))], [(4, (.cells 35 [(.d (.v (.string key10))), (.d (.v (.bool false))), (.d (.v (.string val12)))]))], []⟩ [⟨(Go.Op.indexAddr 23 (Go.Operand.tmp 39) (Go.Operand.tmp 40)), 0, [(.t (.c (.d (.sl (List.map encOp l))))), (sc (.int .i64 (x18 : Int)))], [], (.t (.c (.d (.ptr [(.v (.string key25)), (.v (.bool has26)), (.v (.string val27))])))), []⟩, ⟨(Go.Op.binOp Go.BinOp.eql 9 (Go.Operand.tmp 43) (Go.Operand.tmp 45) 9), 4, [(sc (.string key25)), (sc (.string key10))], [], (sc (.bool (eqS key25 key10))), []⟩] mixed (by kernel_rfl) ⟨tri_index_sl (e := 35) (sz := 3) (bytes := 40) (i := x18) tab_ok rfl (at_map encOp ha23) (all_map fun _ => rfl), tri_str_eql, trivial⟩ ?_
            refine peel_seq ?_
            refine awp_cond (b := (eqS key25 key10)) rfl (fun hc29 => ?_) (fun hc29 => ?_)
            · skip
              have hc29p := eqS_true hc29
              refine awp_seq ?_
              refine awp_region_keep tab_ok boxes [] [0, 2, 4, 6, 7, 8, 35, 36] [4] ⟨49, [(0, (.t (.c (.d (.sl (List.map encOp l)))))), (2, (sc (.int .i64 61))), (4, (.t (.c (.loc 4 0)))), (6, (.t (.c (.d (.sl (List.map encOp l)))))), (7, (sc (.int .i64 (List.length l : Int)))), (8, (sc (.int .i64 (k2 : Int)))), (35, (sc (.int .i64 (k2 : Int)))), (36, (sc (.int .i64 (x18 : Int))))], [(4, (.cells 35 [(.d (.v (.string key10))), (.d (.v (.bool false))), (.d (.v (.string val12)))]))], []⟩ [] mixed (by kernel_rfl) trivial ?_
              refine peel_seq ?_
              have hE30 : hasK ((List.take k2 l).map AOp.key) key10 = true := by rw [← hJ20, hasK_keys (by omega) ha23, hc29]; rfl
              have hE31 := hJ5
              rw [hd9] at hE31
              simp only [rightF, badV, hE30, hc14, hc16, hc16n, hc21, hc29, hc6, cond_true, cond_false, Bool.not_true, Bool.not_false] at hE31
              refine awp_ret ?_
              refine peel_block_ret ?_
              refine peel_seq_ret ?_
              refine peel_seq_ret ?_
              refine peel_block_ret ?_
              refine peel_block_ret ?_
              refine peel_seq_ret ?_
              refine peel_seq_ret ?_
              refine peel_block_ret ?_
              refine peel_seq_ret ?_
              exact ends_ret rfl (show some ((sc (.int .i64 61)) : SV) = some ((sc (.int .i64 (rightF l []))) : SV) from by first | rfl | ((try simp only [cond_true, cond_false, Bool.not_true, Bool.not_false] at hE31); (first | (simp only [hE30, hc14, hc16, hc16n, hc21, hc29, hc6, ← hE31, cond_true, cond_false, Bool.not_true, Bool.not_false, List.map_nil]; done) | (simp only [rightF, badV, hE30, hc14, hc16, hc16n, hc21, hc29, hc6, ← hE31, cond_true, cond_false, Bool.not_true, Bool.not_false, List.map_nil])))) rfl
            · skip
              have hc29p := eqS_false hc29
              refine q_keep [0, 2, 4, 6, 7, 8, 35, 36] [4] ?_
              refine awp_skip ?_
              refine peel_block ?_
              refine peel_seq ?_
              refine awp_region_keep tab_ok boxes [(0, ⟨[], (sc (.int .i64 ((x18 : Int) + 1))), some []⟩)] [0, 2, 4, 6, 7, 8, 35, 36] [4] ⟨49, [(0, (.t (.c (.d (.sl (List.map encOp l)))))), (2, (sc (.int .i64 0))), (4, (.t (.c (.loc 4 0)))), (6, (.t (.c (.d (.sl (List.map encOp l)))))), (7, (sc (.int .i64 (List.length l : Int)))), (8, (sc (.int .i64 (k2 : Int)))), (35, (sc (.int .i64 (k2 : Int)))), (36, (sc (.int .i64 ((x18 : Int) + 1))))], [(4, (.cells 35 [(.d (.v (.string key10))), (.d (.v (.bool false))), (.d (.v (.string val12)))]))], []⟩ [⟨(Go.Op.binOp Go.BinOp.add 3 (Go.Operand.tmp 36) (Go.Operand.const (Go.Value.int Go.IntKind.i64 1)) 3), 3, [(sc (.int .i64 (x18 : Int))), (sc (.int .i64 1))], [], (sc (.int .i64 ((x18 : Int) + 1))), []⟩] mixed (by kernel_rfl) ⟨tri_int ((x18 : Int) + 1) (wrap_i64 (by omega)), trivial⟩ ?_
              exact peel_round (x18 + 1) rfl ⟨by omega, by have hj := hJ20; rw [hasK_keys (by omega) ha23, hc29] at hj; simpa using hj⟩ (by omega)
          · skip
            have hc21p := of_decide_eq_false hc21
            have hE32 : hasK ((List.take k2 l).map AOp.key) key10 = false := by rw [← hJ20, hasK_end (by omega)]
            refine awp_exit ?_
            refine peel_seq_exit ?_
            refine peel_seq_exit ?_
            refine peel_hit ?_
            refine peel_block ?_
            refine peel_seq ?_
            refine awp_region_keep tab_ok boxes [(0, ⟨[], (sc (.int .i64 ((k2 : Int) + 1))), some []⟩)] [0, 2, 6, 7, 8] [] ⟨49, [(0, (.t (.c (.d (.sl (List.map encOp l)))))), (2, (sc (.int .i64 0))), (6, (.t (.c (.d (.sl (List.map encOp l)))))), (7, (sc (.int .i64 (List.length l : Int)))), (8, (sc (.int .i64 ((k2 : Int) + 1))))], [], []⟩ [⟨(Go.Op.binOp Go.BinOp.add 3 (Go.Operand.tmp 8) (Go.Operand.const (Go.Value.int Go.IntKind.i64 1)) 3), 3, [(sc (.int .i64 (k2 : Int))), (sc (.int .i64 1))], [], (sc (.int .i64 ((k2 : Int) + 1))), []⟩] mixed (by kernel_rfl) ⟨tri_int ((k2 : Int) + 1) (wrap_i64 (by omega)), trivial⟩ ?_
            exact peel_round (k2 + 1) rfl ⟨by (try simp only [List.length_map] at *); omega, trivial, by have hj := hJ5; rw [hd9] at hj; rw [keys_snoc ha8]; simp only [rightF, badV, hE32, hc14, hc16, hc16n, hc21, hc6, cond_true, cond_false, Bool.not_true, Bool.not_false] at hj ⊢; exact hj⟩ (by (try simp only [List.length_map] at *); omega)
      | true =>
        cases hb33 : ((valE val12) != 0) with
        | false =>
          have hb33p : (valE val12) = 0 := by simpa using hb33
          refine awp_region_keep tab_ok boxes [(5, ⟨[], (sc (.int .i64 (valE val12))), some []⟩), (6, ⟨[], (sc (.bool false)), some []⟩)] [0, 2, 3, 4, 6, 7, 8, 34] [4] ⟨49, [(0, (.t (.c (.d (.sl (List.map encOp l)))))), (2, (sc (.int .i64 0))), (3, (sc (.int .i64 (k2 : Int)))), (4, (.t (.c (.loc 4 0)))), (6, (.t (.c (.d (.sl (List.map encOp l)))))), (7, (sc (.int .i64 (List.length l : Int)))), (8, (sc (.int .i64 (k2 : Int)))), (34, (sc (.bool false)))], [(4, (.cells 35 [(.d (.v (.string key10))), (.d (.v (.bool true))), (.d (.v (.string val12)))]))], []⟩ [⟨(Go.Op.call (Go.Call.mk (Go.Callee.value (Go.Operand.func 61)) #[(Go.Operand.tmp 21)] #[9])), 37, [(sc (.func (.func 61) #[] #[])), (sc (.string val12))], [], (sc (.int .i64 (valE val12))), []⟩, ⟨(Go.Op.binOp Go.BinOp.neq 37 (Go.Operand.tmp 22) (Go.Operand.const (Go.Value.int Go.IntKind.i64 0)) 37), 4, [(sc (.int .i64 (valE val12))), (sc (.int .i64 0))], [], (sc (.bool false)), []⟩] mixed (by kernel_rfl) ⟨tri_call (f_Value val12 (by (simp only [AOp.small] at *); omega)), tri_scalar_eq [(.int .i64 (valE val12)), (.int .i64 0)] (.bool ((valE val12) != 0)) rfl rfl rfl (by kernel_rfl) (congrArg Value.bool hb33), trivial⟩ ?_
          refine peel_seq ?_
          refine awp_false rfl ?_
          refine awp_skip ?_
          refine peel_seq ?_
          refine awp_seq ?_
          refine awp_region_keep tab_ok boxes [] [0, 2, 4, 6, 7, 8, 35, 36] [4] ⟨49, [(0, (.t (.c (.d (.sl (List.map encOp l)))))), (2, (sc (.int .i64 0))), (4, (.t (.c (.loc 4 0)))), (6, (.t (.c (.d (.sl (List.map encOp l)))))), (7, (sc (.int .i64 (List.length l : Int)))), (8, (sc (.int .i64 (k2 : Int)))), (35, (sc (.int .i64 (k2 : Int)))), (36, (sc (.int .i64 0)))], [(4, (.cells 35 [(.d (.v (.string key10))), (.d (.v (.bool true))), (.d (.v (.string val12)))]))], []⟩ [] mixed (by kernel_rfl) trivial ?_
          refine peel_seq ?_
          refine awp_block ?_
          refine awp_loopP (ι := Nat) (fun x => ⟨49, [(0, (.t (.c (.d (.sl (List.map encOp l)))))), (2, (sc (.int .i64 0))), (4, (.t (.c (.loc 4 0)))), (6, (.t (.c (.d (.sl (List.map encOp l)))))), (7, (sc (.int .i64 (List.length l : Int)))), (8, (sc (.int .i64 (k2 : Int)))), (35, (sc (.int .i64 (k2 : Int)))), (36, (sc (.int .i64 (x : Int))))], [(4, (.cells 35 [(.d (.v (.string key10))), (.d (.v (.bool true))), (.d (.v (.string val12)))]))], []⟩) (fun x => x ≤ k2 ∧ hasK (((List.take k2 l).map AOp.key).drop x) key10 = hasK ((List.take k2 l).map AOp.key) key10) (fun x => k2 - x) 0 rfl ⟨Nat.zero_le _, rfl⟩ ?_
          rintro x34 ⟨hk35, hJ36⟩
          refine awp_seq ?_
          refine awp_region_keep tab_ok boxes [] [0, 2, 4, 6, 7, 8, 35, 36, 37] [4] ⟨49, [(0, (.t (.c (.d (.sl (List.map encOp l)))))), (2, (sc (.int .i64 0))), (4, (.t (.c (.loc 4 0)))), (6, (.t (.c (.d (.sl (List.map encOp l)))))), (7, (sc (.int .i64 (List.length l : Int)))), (8, (sc (.int .i64 (k2 : Int)))), (35, (sc (.int .i64 (k2 : Int)))), (36, (sc (.int .i64 (x34 : Int)))), (37, (sc (.bool (decide ((x34 : Int) < (k2 : Int))))))], [(4, (.cells 35 [(.d (.v (.string key10))), (.d (.v (.bool true))), (.d (.v (.string val12)))]))], []⟩ [] mixed (by kernel_rfl) trivial ?_
          refine peel_seq ?_
          refine awp_seq ?_
          refine awp_cond (b := (decide ((x34 : Int) < (k2 : Int)))) rfl (fun hc37 => ?_) (fun hc37 => ?_)
          · skip
            have hc37p := of_decide_eq_true hc37
            refine awp_skip ?_
            refine peel_seq ?_
            refine awp_seq ?_
            refine awp_block ?_
            refine awp_seq ?_
            refine awp_region_keep tab_ok boxes [] [0, 2, 4, 5, 6, 7, 8, 35, 36] [4] ⟨49, [(0, (.t (.c (.d (.sl (List.map encOp l)))))), (2, (sc (.int .i64 0))), (4, (.t (.c (.loc 4 0)))), (5, (sc (.int .i64 (x34 : Int)))), (6, (.t (.c (.d (.sl (List.map encOp l)))))), (7, (sc (.int .i64 (List.length l : Int)))), (8, (sc (.int .i64 (k2 : Int)))), (35, (sc (.int .i64 (k2 : Int)))), (36, (sc (.int .i64 (x34 : Int))))], [(4, (.cells 35 [(.d (.v (.string key10))), (.d (.v (.bool true))), (.d (.v (.string val12)))]))], []⟩ [] mixed (by kernel_rfl) trivial ?_
            refine peel_seq ?_
            refine awp_seq ?_
            obtain ⟨⟨key41, has42, val43⟩, ha39, hd40⟩ := at_drop (l := l) (k := x34) (by (try simp only [List.length_map] at *); omega)
            have hm44 := hs (AOp.mk key41 has42 val43) (List.mem_of_getElem? ha39)
            refine awp_region_keep tab_ok boxes [(2, ⟨[], (.t (.c (.d (.ptr [(.v (.string key41)), (.v (.bool has42)), (.v (.string val43))])))), some []⟩), (7, ⟨[], (sc (.bool (eqS key41 key10))), some []⟩)] [0, 2, 4, 6, 7, 8, 35, 36, 46] [4] ⟨49, [(0, (.t (.c (.d (.sl (List.map encOp l)))))), (2, (sc (.int .i64 0))), (4, (.t (.c (.loc 4 0)))), (6, (.t (.c (.d (.sl (List.map encOp l)))))), (7, (sc (.int .i64 (List.length l : Int)))), (8, (sc (.int .i64 (k2 : Int)))), (35, (sc (.int .i64 (k2 : Int)))), (36, (sc (.int .i64 (x34 : Int)))), (46, (sc (.bool (eqS key41 key10))))], [(4, (.cells 35 [(.d (.v (.string key10))), (.d (.v (.bool true))), (.d (.v (.string val12)))]))], []⟩ [⟨(Go.Op.indexAddr 23 (Go.Operand.tmp 39) (Go.Operand.tmp 40)), 0, [(.t (.c (.d (.sl (List.map encOp l))))), (sc (.int .i64 (x34 : Int)))], [], (.t (.c (.d (.ptr [(.v (.string key41)), (.v (.bool has42)), (.v (.string val43))])))), []⟩, ⟨(Go.Op.binOp Go.BinOp.eql 9 (Go.Operand.tmp 43) (Go.Operand.tmp 45) 9), 4, [(sc (.string key41)), (sc (.string key10))], [], (sc (.bool (eqS key41 key10))), []⟩] mixed (by kernel_rfl) ⟨tri_index_sl (e := 35) (sz := 3) (bytes := 40) (i := x34) tab_ok rfl (at_map encOp ha39) (all_map fun _ => rfl), tri_str_eql, trivial⟩ ?_
            refine peel_seq ?_
            refine awp_cond (b := (eqS key41 key10)) rfl (fun hc45 => ?_) (fun hc45 => ?_)
            · skip
              have hc45p := eqS_true hc45
              refine awp_seq ?_
              refine awp_region_keep tab_ok boxes [] [0, 2, 4, 6, 7, 8, 35, 36] [4] ⟨49, [(0, (.t (.c (.d (.sl (List.map encOp l)))))), (2, (sc (.int .i64 61))), (4, (.t (.c (.loc 4 0)))), (6, (.t (.c (.d (.sl (List.map encOp l)))))), (7, (sc (.int .i64 (List.length l : Int)))), (8, (sc (.int .i64 (k2 : Int)))), (35, (sc (.int .i64 (k2 : Int)))), (36, (sc (.int .i64 (x34 : Int))))], [(4, (.cells 35 [(.d (.v (.string key10))), (.d (.v (.bool true))), (.d (.v (.string val12)))]))], []⟩ [] mixed (by kernel_rfl) trivial ?_
              refine peel_seq ?_
              have hE46 : hasK ((List.take k2 l).map AOp.key) key10 = true := by rw [← hJ36, hasK_keys (by omega) ha39, hc45]; rfl
              have hE47 := hJ5
              rw [hd9] at hE47
              simp only [rightF, badV, hE46, hb33, hc14, hc37, hc45, hc6, cond_true, cond_false, Bool.not_true, Bool.not_false] at hE47
              refine awp_ret ?_
              refine peel_block_ret ?_
              refine peel_seq_ret ?_
              refine peel_seq_ret ?_
              refine peel_block_ret ?_
              refine peel_block_ret ?_
              refine peel_seq_ret ?_
              refine peel_seq_ret ?_
              refine peel_block_ret ?_
              refine peel_seq_ret ?_
              exact ends_ret rfl (show some ((sc (.int .i64 61)) : SV) = some ((sc (.int .i64 (rightF l []))) : SV) from by first | rfl | ((try simp only [cond_true, cond_false, Bool.not_true, Bool.not_false] at hE47); (first | (simp only [hE46, hb33, hc14, hc37, hc45, hc6, ← hE47, cond_true, cond_false, Bool.not_true, Bool.not_false, List.map_nil]; done) | (simp only [rightF, badV, hE46, hb33, hc14, hc37, hc45, hc6, ← hE47, cond_true, cond_false, Bool.not_true, Bool.not_false, List.map_nil])))) rfl
            · skip
              have hc45p := eqS_false hc45
              refine q_keep [0, 2, 4, 6, 7, 8, 35, 36] [4] ?_
              refine awp_skip ?_
              refine peel_block ?_
              refine peel_seq ?_
              refine awp_region_keep tab_ok boxes [(0, ⟨[], (sc (.int .i64 ((x34 : Int) + 1))), some []⟩)] [0, 2, 4, 6, 7, 8, 35, 36] [4] ⟨49, [(0, (.t (.c (.d (.sl (List.map encOp l)))))), (2, (sc (.int .i64 0))), (4, (.t (.c (.loc 4 0)))), (6, (.t (.c (.d (.sl (List.map encOp l)))))), (7, (sc (.int .i64 (List.length l : Int)))), (8, (sc (.int .i64 (k2 : Int)))), (35, (sc (.int .i64 (k2 : Int)))), (36, (sc (.int .i64 ((x34 : Int) + 1))))], [(4, (.cells 35 [(.d (.v (.string key10))), (.d (.v (.bool true))), (.d (.v (.string val12)))]))], []⟩ [⟨(Go.Op.binOp Go.BinOp.add 3 (Go.Operand.tmp 36) (Go.Operand.const (Go.Value.int Go.IntKind.i64 1)) 3), 3, [(sc (.int .i64 (x34 : Int))), (sc (.int .i64 1))], [], (sc (.int .i64 ((x34 : Int) + 1))), []⟩] mixed (by kernel_rfl) ⟨tri_int ((x34 : Int) + 1) (wrap_i64 (by omega)), trivial⟩ ?_
              exact peel_round (x34 + 1) rfl ⟨by omega, by have hj := hJ36; rw [hasK_keys (by omega) ha39, hc45] at hj; simpa using hj⟩ (by omega)
          · skip
            have hc37p := of_decide_eq_false hc37
            have hE48 : hasK ((List.take k2 l).map AOp.key) key10 = false := by rw [← hJ36, hasK_end (by omega)]
            refine awp_exit ?_
            refine peel_seq_exit ?_
            refine peel_seq_exit ?_
            refine peel_hit ?_
            refine peel_block ?_
            refine peel_seq ?_
            refine awp_region_keep tab_ok boxes [(0, ⟨[], (sc (.int .i64 ((k2 : Int) + 1))), some []⟩)] [0, 2, 6, 7, 8] [] ⟨49, [(0, (.t (.c (.d (.sl (List.map encOp l)))))), (2, (sc (.int .i64 0))), (6, (.t (.c (.d (.sl (List.map encOp l)))))), (7, (sc (.int .i64 (List.length l : Int)))), (8, (sc (.int .i64 ((k2 : Int) + 1))))], [], []⟩ [⟨(Go.Op.binOp Go.BinOp.add 3 (Go.Operand.tmp 8) (Go.Operand.const (Go.Value.int Go.IntKind.i64 1)) 3), 3, [(sc (.int .i64 (k2 : Int))), (sc (.int .i64 1))], [], (sc (.int .i64 ((k2 : Int) + 1))), []⟩] mixed (by kernel_rfl) ⟨tri_int ((k2 : Int) + 1) (wrap_i64 (by omega)), trivial⟩ ?_
            exact peel_round (k2 + 1) rfl ⟨by (try simp only [List.length_map] at *); omega, trivial, by have hj := hJ5; rw [hd9] at hj; rw [keys_snoc ha8]; simp only [rightF, badV, hE48, hb33, hc14, hc37, hc6, cond_true, cond_false, Bool.not_true, Bool.not_false] at hj ⊢; exact hj⟩ (by (try simp only [List.length_map] at *); omega)
        | true =>
          have hb33p : (valE val12) ≠ 0 := by simpa using hb33
          refine awp_region_keep tab_ok boxes [(5, ⟨[], (sc (.int .i64 (valE val12))), some []⟩), (6, ⟨[], (sc (.bool true)), some []⟩)] [0, 2, 3, 4, 6, 7, 8, 34] [4] ⟨49, [(0, (.t (.c (.d (.sl (List.map encOp l)))))), (2, (sc (.int .i64 0))), (3, (sc (.int .i64 (k2 : Int)))), (4, (.t (.c (.loc 4 0)))), (6, (.t (.c (.d (.sl (List.map encOp l)))))), (7, (sc (.int .i64 (List.length l : Int)))), (8, (sc (.int .i64 (k2 : Int)))), (34, (sc (.bool true)))], [(4, (.cells 35 [(.d (.v (.string key10))), (.d (.v (.bool true))), (.d (.v (.string val12)))]))], []⟩ [⟨(Go.Op.call (Go.Call.mk (Go.Callee.value (Go.Operand.func 61)) #[(Go.Operand.tmp 21)] #[9])), 37, [(sc (.func (.func 61) #[] #[])), (sc (.string val12))], [], (sc (.int .i64 (valE val12))), []⟩, ⟨(Go.Op.binOp Go.BinOp.neq 37 (Go.Operand.tmp 22) (Go.Operand.const (Go.Value.int Go.IntKind.i64 0)) 37), 4, [(sc (.int .i64 (valE val12))), (sc (.int .i64 0))], [], (sc (.bool true)), []⟩] mixed (by kernel_rfl) ⟨tri_call (f_Value val12 (by (simp only [AOp.small] at *); omega)), tri_scalar_eq [(.int .i64 (valE val12)), (.int .i64 0)] (.bool ((valE val12) != 0)) rfl rfl rfl (by kernel_rfl) (congrArg Value.bool hb33), trivial⟩ ?_
          refine peel_seq ?_
          refine awp_true rfl ?_
          refine awp_seq ?_
          refine awp_region_keep tab_ok boxes [] [0, 2, 3, 4, 6, 7, 8] [4] ⟨49, [(0, (.t (.c (.d (.sl (List.map encOp l)))))), (2, (sc (.int .i64 21))), (3, (sc (.int .i64 (k2 : Int)))), (4, (.t (.c (.loc 4 0)))), (6, (.t (.c (.d (.sl (List.map encOp l)))))), (7, (sc (.int .i64 (List.length l : Int)))), (8, (sc (.int .i64 (k2 : Int))))], [(4, (.cells 35 [(.d (.v (.string key10))), (.d (.v (.bool true))), (.d (.v (.string val12)))]))], []⟩ [] mixed (by kernel_rfl) trivial ?_
          refine peel_seq ?_
          have hE49 := hJ5
          rw [hd9] at hE49
          simp only [rightF, badV, hb33, hc14, hc6, cond_true, cond_false, Bool.not_true, Bool.not_false] at hE49
          refine awp_ret ?_
          refine peel_seq_ret ?_
          refine peel_block_ret ?_
          refine peel_seq_ret ?_
          refine peel_seq_ret ?_
          refine peel_block_ret ?_
          refine peel_seq_ret ?_
          exact ends_ret rfl (show some ((sc (.int .i64 21)) : SV) = some ((sc (.int .i64 (rightF l []))) : SV) from by first | rfl | ((try simp only [cond_true, cond_false, Bool.not_true, Bool.not_false] at hE49); (first | (simp only [hb33, hc14, hc6, ← hE49, cond_true, cond_false, Bool.not_true, Bool.not_false, List.map_nil]; done) | (simp only [rightF, badV, hb33, hc14, hc6, ← hE49, cond_true, cond_false, Bool.not_true, Bool.not_false, List.map_nil])))) rfl
  · skip
    have hc6p := of_decide_eq_false hc6
    have hE50 := hJ5
    rw [at_end (l := l) (by (try simp only [List.length_map] at *); omega)] at hE50
    simp only [rightF, badV, hc6, cond_true, cond_false, Bool.not_true, Bool.not_false] at hE50
    refine awp_exit ?_
    refine peel_seq_exit ?_
    refine peel_seq_exit ?_
    refine peel_hit ?_
    refine peel_seq ?_
    refine awp_seq ?_
    refine awp_region_keep tab_ok boxes [] [2] [] ⟨49, [(2, (sc (.int .i64 0)))], [], []⟩ [] mixed (by kernel_rfl) trivial ?_
    refine peel_seq ?_
    refine awp_ret ?_
    exact ends_ret rfl (show some ((sc (.int .i64 0)) : SV) = some ((sc (.int .i64 (rightF l []))) : SV) from by first | rfl | ((try simp only [cond_true, cond_false, Bool.not_true, Bool.not_false] at hE50); (first | (simp only [hc6, ← hE50, cond_true, cond_false, Bool.not_true, Bool.not_false, List.map_nil]; done) | (simp only [rightF, badV, hc6, ← hE50, cond_true, cond_false, Bool.not_true, Bool.not_false, List.map_nil])))) rfl
theorem r_Check (conds ops : List AOp) (h1 : (∀ x ∈ conds, AOp.small x)) (h2 : (∀ x ∈ ops, AOp.small x)) : Sat Try.prog 52 [(.t (.c (.d (.sl (List.map encOp conds))))), (.t (.c (.d (.sl (List.map encOp ops)))))] [] (sc (.int .i64 (rcheckE conds ops))) [] := by
  refine sat_of_body tab_ok Try.func52 rfl (by kernel_rfl) (Nat.le_of_ble_eq_true rfl) rfl fun G => ?_
  refine awp_seq ?_
  refine awp_region_keep tab_ok boxes [] [0, 1, 4] [] ⟨26, [(0, (.t (.c (.d (.sl (List.map encOp conds)))))), (1, (.t (.c (.d (.sl (List.map encOp ops)))))), (4, (sc (.int .i64 0)))], [], []⟩ [] mixed (by kernel_rfl) trivial ?_
  refine peel_seq ?_
  refine awp_seq ?_
  refine awp_seq ?_
  cases hb1 : (decide ((List.length ops : Int) < 1)) with
  | false =>
    have hb1p := of_decide_eq_false hb1
    cases hb2 : (decide ((List.length ops : Int) > 6)) with
    | false =>
      have hb2p := of_decide_eq_false hb2
      refine awp_region_keep tab_ok boxes [(1, ⟨[], (sc (.int .i64 (List.length ops : Int))), none⟩), (2, ⟨[], (sc (.bool false)), some []⟩), (5, ⟨[], (sc (.int .i64 (List.length ops : Int))), none⟩), (6, ⟨[], (sc (.bool false)), some []⟩), (10, ⟨[], (sc (.int .i64 (List.length conds : Int))), none⟩)] [0, 1, 4, 18] [] ⟨26, [(0, (.t (.c (.d (.sl (List.map encOp conds)))))), (1, (.t (.c (.d (.sl (List.map encOp ops)))))), (4, (sc (.int .i64 0))), (18, (sc (.bool (decide ((List.length conds : Int) > 6)))))], [], []⟩ [⟨(Go.Op.call (Go.Call.mk (Go.Callee.builtin Go.Builtin.len) #[(Go.Operand.tmp 6)] #[23])), 3, [(.t (.c (.d (.sl (List.map encOp ops)))))], [], (sc (.int .i64 (List.length ops : Int))), []⟩, ⟨(Go.Op.binOp Go.BinOp.lss 3 (Go.Operand.tmp 7) (Go.Operand.const (Go.Value.int Go.IntKind.i64 1)) 3), 4, [(sc (.int .i64 (List.length ops : Int))), (sc (.int .i64 1))], [], (sc (.bool false)), []⟩, ⟨(Go.Op.call (Go.Call.mk (Go.Callee.builtin Go.Builtin.len) #[(Go.Operand.tmp 10)] #[23])), 3, [(.t (.c (.d (.sl (List.map encOp ops)))))], [], (sc (.int .i64 (List.length ops : Int))), []⟩, ⟨(Go.Op.binOp Go.BinOp.gtr 3 (Go.Operand.tmp 11) (Go.Operand.const (Go.Value.int Go.IntKind.i64 6)) 3), 4, [(sc (.int .i64 (List.length ops : Int))), (sc (.int .i64 6))], [], (sc (.bool false)), []⟩, ⟨(Go.Op.call (Go.Call.mk (Go.Callee.builtin Go.Builtin.len) #[(Go.Operand.tmp 15)] #[23])), 3, [(.t (.c (.d (.sl (List.map encOp conds)))))], [], (sc (.int .i64 (List.length conds : Int))), []⟩] mixed (by kernel_rfl) ⟨tri_len_map tab_ok rfl, tri_scalar_eq [(.int .i64 (List.length ops : Int)), (.int .i64 1)] (.bool (decide ((List.length ops : Int) < 1))) rfl rfl rfl (by kernel_rfl) (congrArg Value.bool hb1), tri_len_map tab_ok rfl, tri_scalar_eq [(.int .i64 (List.length ops : Int)), (.int .i64 6)] (.bool (decide ((List.length ops : Int) > 6))) rfl rfl rfl (by kernel_rfl) (congrArg Value.bool hb2), tri_len_map tab_ok rfl, trivial⟩ ?_
      refine peel_seq ?_
      refine awp_cond (b := (decide ((List.length conds : Int) > 6))) rfl (fun hc3 => ?_) (fun hc3 => ?_)
      · skip
        have hc3p := of_decide_eq_true hc3
        refine awp_seq ?_
        refine awp_region_keep tab_ok boxes [] [0, 1, 4] [] ⟨26, [(0, (.t (.c (.d (.sl (List.map encOp conds)))))), (1, (.t (.c (.d (.sl (List.map encOp ops)))))), (4, (sc (.int .i64 61)))], [], []⟩ [] mixed (by kernel_rfl) trivial ?_
        refine peel_seq ?_
        refine awp_ret ?_
        refine peel_seq_ret ?_
        exact ends_ret rfl (show some ((sc (.int .i64 61)) : SV) = some ((sc (.int .i64 (rcheckE conds ops))) : SV) from by first | rfl | ((first | (simp only [hb1, hb2, hc3, cond_true, cond_false, Bool.not_true, Bool.not_false, List.map_nil]; done) | (simp only [rcheckE, hb1, hb2, hc3, cond_true, cond_false, Bool.not_true, Bool.not_false, List.map_nil])))) rfl
      · skip
        have hc3p := of_decide_eq_false hc3
        refine awp_skip ?_
        refine peel_seq ?_
        refine awp_seq ?_
        refine awp_seq ?_
        refine awp_region_keep tab_ok boxes [(1, ⟨[], (sc (.int .i64 (rightF conds []))), some []⟩)] [1, 4, 5] [] ⟨26, [(1, (.t (.c (.d (.sl (List.map encOp ops)))))), (4, (sc (.int .i64 0))), (5, (sc (.int .i64 (rightF conds []))))], [], []⟩ [⟨(Go.Op.call (Go.Call.mk (Go.Callee.value (Go.Operand.func 35)) #[(Go.Operand.tmp 19)] #[23])), 37, [(sc (.func (.func 35) #[] #[])), (.t (.c (.d (.sl (List.map encOp conds)))))], [], (sc (.int .i64 (rightF conds []))), []⟩] mixed (by kernel_rfl) ⟨tri_call (r_Right conds (by assumption)), trivial⟩ ?_
        refine peel_seq ?_
        refine awp_seq ?_
        refine awp_region_keep tab_ok boxes [] [1, 4, 5, 22] [] ⟨26, [(1, (.t (.c (.d (.sl (List.map encOp ops)))))), (4, (sc (.int .i64 0))), (5, (sc (.int .i64 (rightF conds [])))), (22, (sc (.bool ((rightF conds []) != 0))))], [], []⟩ [] mixed (by kernel_rfl) trivial ?_
        refine peel_seq ?_
        refine awp_cond (b := ((rightF conds []) != 0)) rfl (fun hc4 => ?_) (fun hc4 => ?_)
        · skip
          have hc4p : (rightF conds []) ≠ 0 := by simpa using hc4
          refine awp_seq ?_
          refine awp_region_keep tab_ok boxes [] [1, 4] [] ⟨26, [(1, (.t (.c (.d (.sl (List.map encOp ops)))))), (4, (sc (.int .i64 (rightF conds []))))], [], []⟩ [] mixed (by kernel_rfl) trivial ?_
          refine peel_seq ?_
          refine awp_ret ?_
          refine peel_seq_ret ?_
          exact ends_ret rfl (show some ((sc (.int .i64 (rightF conds []))) : SV) = some ((sc (.int .i64 (rcheckE conds ops))) : SV) from by first | rfl | ((first | (simp only [hb1, hb2, hc3, hc4, cond_true, cond_false, Bool.not_true, Bool.not_false, List.map_nil]; done) | (simp only [rcheckE, hb1, hb2, hc3, hc4, cond_true, cond_false, Bool.not_true, Bool.not_false, List.map_nil])))) rfl
        · skip
          have hc4p : (rightF conds []) = 0 := by simpa using hc4
          refine awp_skip ?_
          refine peel_seq ?_
          refine awp_seq ?_
          refine awp_region_keep tab_ok boxes [(1, ⟨[], (sc (.int .i64 (rightF ops []))), some []⟩)] [4] [] ⟨26, [(4, (sc (.int .i64 (rightF ops []))))], [], []⟩ [⟨(Go.Op.call (Go.Call.mk (Go.Callee.value (Go.Operand.func 35)) #[(Go.Operand.tmp 24)] #[23])), 37, [(sc (.func (.func 35) #[] #[])), (.t (.c (.d (.sl (List.map encOp ops)))))], [], (sc (.int .i64 (rightF ops []))), []⟩] mixed (by kernel_rfl) ⟨tri_call (r_Right ops (by assumption)), trivial⟩ ?_
          refine peel_seq ?_
          refine awp_ret ?_
          exact ends_ret rfl (show some ((sc (.int .i64 (rightF ops []))) : SV) = some ((sc (.int .i64 (rcheckE conds ops))) : SV) from by first | rfl | ((first | (simp only [hb1, hb2, hc3, hc4, cond_true, cond_false, Bool.not_true, Bool.not_false, List.map_nil]; done) | (simp only [rcheckE, hb1, hb2, hc3, hc4, cond_true, cond_false, Bool.not_true, Bool.not_false, List.map_nil])))) rfl
    | true =>
      have hb2p := of_decide_eq_true hb2
      refine awp_region_keep tab_ok boxes [(1, ⟨[], (sc (.int .i64 (List.length ops : Int))), none⟩), (2, ⟨[], (sc (.bool false)), some []⟩), (5, ⟨[], (sc (.int .i64 (List.length ops : Int))), none⟩), (6, ⟨[], (sc (.bool true)), some []⟩)] [0, 1, 4, 18] [] ⟨26, [(0, (.t (.c (.d (.sl (List.map encOp conds)))))), (1, (.t (.c (.d (.sl (List.map encOp ops)))))), (4, (sc (.int .i64 0))), (18, (sc (.bool true)))], [], []⟩ [⟨(Go.Op.call (Go.Call.mk (Go.Callee.builtin Go.Builtin.len) #[(Go.Operand.tmp 6)] #[23])), 3, [(.t (.c (.d (.sl (List.map encOp ops)))))], [], (sc (.int .i64 (List.length ops : Int))), []⟩, ⟨(Go.Op.binOp Go.BinOp.lss 3 (Go.Operand.tmp 7) (Go.Operand.const (Go.Value.int Go.IntKind.i64 1)) 3), 4, [(sc (.int .i64 (List.length ops : Int))), (sc (.int .i64 1))], [], (sc (.bool false)), []⟩, ⟨(Go.Op.call (Go.Call.mk (Go.Callee.builtin Go.Builtin.len) #[(Go.Operand.tmp 10)] #[23])), 3, [(.t (.c (.d (.sl (List.map encOp ops)))))], [], (sc (.int .i64 (List.length ops : Int))), []⟩, ⟨(Go.Op.binOp Go.BinOp.gtr 3 (Go.Operand.tmp 11) (Go.Operand.const (Go.Value.int Go.IntKind.i64 6)) 3), 4, [(sc (.int .i64 (List.length ops : Int))), (sc (.int .i64 6))], [], (sc (.bool true)), []⟩] mixed (by kernel_rfl) ⟨tri_len_map tab_ok rfl, tri_scalar_eq [(.int .i64 (List.length ops : Int)), (.int .i64 1)] (.bool (decide ((List.length ops : Int) < 1))) rfl rfl rfl (by kernel_rfl) (congrArg Value.bool hb1), tri_len_map tab_ok rfl, tri_scalar_eq [(.int .i64 (List.length ops : Int)), (.int .i64 6)] (.bool (decide ((List.length ops : Int) > 6))) rfl rfl rfl (by kernel_rfl) (congrArg Value.bool hb2), trivial⟩ ?_
      refine peel_seq ?_
      refine awp_true rfl ?_
      refine awp_seq ?_
      refine awp_region_keep tab_ok boxes [] [0, 1, 4] [] ⟨26, [(0, (.t (.c (.d (.sl (List.map encOp conds)))))), (1, (.t (.c (.d (.sl (List.map encOp ops)))))), (4, (sc (.int .i64 61)))], [], []⟩ [] mixed (by kernel_rfl) trivial ?_
      refine peel_seq ?_
      refine awp_ret ?_
      refine peel_seq_ret ?_
      exact ends_ret rfl (show some ((sc (.int .i64 61)) : SV) = some ((sc (.int .i64 (rcheckE conds ops))) : SV) from by first | rfl | ((first | (simp only [hb1, hb2, cond_true, cond_false, Bool.not_true, Bool.not_false, List.map_nil]; done) | (simp only [rcheckE, hb1, hb2, cond_true, cond_false, Bool.not_true, Bool.not_false, List.map_nil])))) rfl
  | true =>
    have hb1p := of_decide_eq_true hb1
    refine awp_region_keep tab_ok boxes [(1, ⟨[], (sc (.int .i64 (List.length ops : Int))), none⟩), (2, ⟨[], (sc (.bool true)), some []⟩)] [0, 1, 4, 18] [] ⟨26, [(0, (.t (.c (.d (.sl (List.map encOp conds)))))), (1, (.t (.c (.d (.sl (List.map encOp ops)))))), (4, (sc (.int .i64 0))), (18, (sc (.bool true)))], [], []⟩ [⟨(Go.Op.call (Go.Call.mk (Go.Callee.builtin Go.Builtin.len) #[(Go.Operand.tmp 6)] #[23])), 3, [(.t (.c (.d (.sl (List.map encOp ops)))))], [], (sc (.int .i64 (List.length ops : Int))), []⟩, ⟨(Go.Op.binOp Go.BinOp.lss 3 (Go.Operand.tmp 7) (Go.Operand.const (Go.Value.int Go.IntKind.i64 1)) 3), 4, [(sc (.int .i64 (List.length ops : Int))), (sc (.int .i64 1))], [], (sc (.bool true)), []⟩] mixed (by kernel_rfl) ⟨tri_len_map tab_ok rfl, tri_scalar_eq [(.int .i64 (List.length ops : Int)), (.int .i64 1)] (.bool (decide ((List.length ops : Int) < 1))) rfl rfl rfl (by kernel_rfl) (congrArg Value.bool hb1), trivial⟩ ?_
    refine peel_seq ?_
    refine awp_true rfl ?_
    refine awp_seq ?_
    refine awp_region_keep tab_ok boxes [] [0, 1, 4] [] ⟨26, [(0, (.t (.c (.d (.sl (List.map encOp conds)))))), (1, (.t (.c (.d (.sl (List.map encOp ops)))))), (4, (sc (.int .i64 61)))], [], []⟩ [] mixed (by kernel_rfl) trivial ?_
    refine peel_seq ?_
    refine awp_ret ?_
    refine peel_seq_ret ?_
    exact ends_ret rfl (show some ((sc (.int .i64 61)) : SV) = some ((sc (.int .i64 (rcheckE conds ops))) : SV) from by first | rfl | ((first | (simp only [hb1, cond_true, cond_false, Bool.not_true, Bool.not_false, List.map_nil]; done) | (simp only [rcheckE, hb1, cond_true, cond_false, Bool.not_true, Bool.not_false, List.map_nil])))) rfl
end Go.Proofs.Ytjbiaoajmdbigaa
