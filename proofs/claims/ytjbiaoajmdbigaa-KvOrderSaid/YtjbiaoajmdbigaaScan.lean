/- Walks of scan and Scan, of trees and of maps. -/
import Derived.Test.YtjbiaoajmdbigaaLaw1
set_option maxRecDepth 100000
set_option linter.unusedVariables false
set_option linter.unusedSimpArgs false
namespace Go.Proofs.Ytjbiaoajmdbigaa
open Go Go.E
theorem s_scan (t : Tr) (f g : ByteArray) (most : Int) (out : List APair) (hs : out.length + t.size ≤ 1000000) : Sat Try.prog 69 [(.t (.c (.d (encT t)))), (sc (.string f)), (sc (.string g)), (sc (.int .i64 most)), (.t (.c (.own 5000)))] [(5000, (.arr 81 2 32 (List.map encPair out)))] (.t (.c (.own 5001))) [(5001, (.arr 81 2 32 (List.map encPair (Tr.scan t f g most out))))] := by
  refine sat_of_body tab_ok Try.func69 rfl (by kernel_rfl) (Nat.le_of_ble_eq_true rfl) rfl fun G => ?_
  refine awp_seq ?_
  refine awp_region_keep tab_ok boxes [] [0, 1, 2, 3, 4, 10] [5000] ⟨82, [(0, (.t (.c (.d (encT t))))), (1, (sc (.string f))), (2, (sc (.string g))), (3, (sc (.int .i64 most))), (4, (.t (.c (.own 5000)))), (10, (sc (.slice none 0 0)))], [(5000, (.arr 81 2 32 (List.map encPair out)))], [5000]⟩ [] mixed (by kernel_rfl) trivial ?_
  refine peel_seq ?_
  refine awp_seq ?_
  refine awp_seq ?_
  cases t with
  | nil =>
    refine awp_region_keep tab_ok boxes [] [0, 1, 2, 3, 4, 10, 19] [5000] ⟨82, [(0, (.t (.c (.d (encT (Tr.nil)))))), (1, (sc (.string f))), (2, (sc (.string g))), (3, (sc (.int .i64 most))), (4, (.t (.c (.own 5000)))), (10, (sc (.slice none 0 0))), (19, (sc (.bool true)))], [(5000, (.arr 81 2 32 (List.map encPair out)))], [5000]⟩ [] mixed (by kernel_rfl) trivial ?_
    refine peel_seq ?_
    refine awp_true rfl ?_
    refine awp_seq ?_
    refine awp_region_keep tab_ok boxes [] [0, 1, 2, 3, 4, 10] [5000] ⟨82, [(0, (.t (.c (.d (encT (Tr.nil)))))), (1, (sc (.string f))), (2, (sc (.string g))), (3, (sc (.int .i64 most))), (4, (.t (.c (.own 5000)))), (10, (.t (.c (.own 5000))))], [(5000, (.arr 81 2 32 (List.map encPair out)))], [5000]⟩ [] mixed (by kernel_rfl) trivial ?_
    refine peel_seq ?_
    refine awp_mv [.mo 5000 5001] ⟨82, [(0, (.t (.c (.d (encT (Tr.nil)))))), (1, (sc (.string f))), (2, (sc (.string g))), (3, (sc (.int .i64 most))), (4, (.t (.c (.own 5001)))), (10, (.t (.c (.own 5001))))], [(5001, (.arr 81 2 32 (List.map encPair out)))], [5000]⟩ rfl ?_
    refine awp_ret ?_
    refine peel_seq_ret ?_
    exact ends_ret rfl rfl (show some ([(5001, (.arr 81 2 32 (List.map encPair out)))] : Objs) = some ([(5001, (.arr 81 2 32 (List.map encPair (Tr.scan (Tr.nil) f g most out))))] : Objs) from by first | rfl | (simp only [Tr.scan, cond_true, cond_false, Bool.not_true, Bool.not_false]))
  | node k2 v3 l4 r5 =>
    refine awp_region_keep tab_ok boxes [(4, ⟨[5000], (sc (.int .i64 (List.length out : Int))), none⟩)] [0, 1, 2, 3, 4, 10, 19] [5000] ⟨82, [(0, (.t (.c (.d (encT (Tr.node k2 v3 l4 r5)))))), (1, (sc (.string f))), (2, (sc (.string g))), (3, (sc (.int .i64 most))), (4, (.t (.c (.own 5000)))), (10, (sc (.slice none 0 0))), (19, (sc (.bool (decide ((List.length out : Int) ≥ most)))))], [(5000, (.arr 81 2 32 (List.map encPair out)))], [5000]⟩ [⟨(Go.Op.call (Go.Call.mk (Go.Callee.builtin Go.Builtin.len) #[(Go.Operand.tmp 15)] #[78])), 3, [(.t (.c (.own 5000)))], [(5000, (.arr 81 2 32 (List.map encPair out)))], (sc (.int .i64 (List.length out : Int))), [(5000, (.arr 81 2 32 (List.map encPair out)))]⟩] mixed (by kernel_rfl) ⟨tri_len_mapO tab_ok rfl, trivial⟩ ?_
    refine peel_seq ?_
    refine awp_cond (b := (decide ((List.length out : Int) ≥ most))) rfl (fun hc6 => ?_) (fun hc6 => ?_)
    · skip
      have hc6p := of_decide_eq_true hc6
      refine awp_seq ?_
      refine awp_region_keep tab_ok boxes [] [0, 1, 2, 3, 4, 10] [5000] ⟨82, [(0, (.t (.c (.d (encT (Tr.node k2 v3 l4 r5)))))), (1, (sc (.string f))), (2, (sc (.string g))), (3, (sc (.int .i64 most))), (4, (.t (.c (.own 5000)))), (10, (.t (.c (.own 5000))))], [(5000, (.arr 81 2 32 (List.map encPair out)))], [5000]⟩ [] mixed (by kernel_rfl) trivial ?_
      refine peel_seq ?_
      refine awp_mv [.mo 5000 5001] ⟨82, [(0, (.t (.c (.d (encT (Tr.node k2 v3 l4 r5)))))), (1, (sc (.string f))), (2, (sc (.string g))), (3, (sc (.int .i64 most))), (4, (.t (.c (.own 5001)))), (10, (.t (.c (.own 5001))))], [(5001, (.arr 81 2 32 (List.map encPair out)))], [5000]⟩ rfl ?_
      refine awp_ret ?_
      refine peel_seq_ret ?_
      exact ends_ret rfl rfl (show some ([(5001, (.arr 81 2 32 (List.map encPair out)))] : Objs) = some ([(5001, (.arr 81 2 32 (List.map encPair (Tr.scan (Tr.node k2 v3 l4 r5) f g most out))))] : Objs) from by first | rfl | (simp only [Tr.scan, hc6, cond_true, cond_false, Bool.not_true, Bool.not_false]))
    · skip
      have hc6p := of_decide_eq_false hc6
      refine awp_skip ?_
      refine peel_seq ?_
      refine awp_seq ?_
      refine awp_seq ?_
      refine awp_region_keep tab_ok boxes [(6, ⟨[], (sc (.bool (ltS f k2))), some []⟩)] [0, 1, 2, 3, 4, 10, 27] [5000] ⟨82, [(0, (.t (.c (.d (encT (Tr.node k2 v3 l4 r5)))))), (1, (sc (.string f))), (2, (sc (.string g))), (3, (sc (.int .i64 most))), (4, (.t (.c (.own 5000)))), (10, (sc (.slice none 0 0))), (27, (sc (.bool (ltS f k2))))], [(5000, (.arr 81 2 32 (List.map encPair out)))], [5000]⟩ [⟨(Go.Op.binOp Go.BinOp.lss 9 (Go.Operand.tmp 21) (Go.Operand.tmp 26) 9), 4, [(sc (.string f)), (sc (.string k2))], [], (sc (.bool (ltS f k2))), []⟩] mixed (by kernel_rfl) ⟨tri_str_lss, trivial⟩ ?_
      refine peel_seq ?_
      refine awp_cond (b := (ltS f k2)) rfl (fun hc7 => ?_) (fun hc7 => ?_)
      · skip
        refine awp_region_keep tab_ok boxes [(8, ⟨[5000], (.t (.c (.own 36))), some [(36, (.arr 81 2 32 (List.map encPair (Tr.scan l4 f g most out))))]⟩)] [0, 1, 2, 3, 4, 10] [36] ⟨82, [(0, (.t (.c (.d (encT (Tr.node k2 v3 l4 r5)))))), (1, (sc (.string f))), (2, (sc (.string g))), (3, (sc (.int .i64 most))), (4, (.t (.c (.own 36)))), (10, (sc (.slice none 0 0)))], [(36, (.arr 81 2 32 (List.map encPair (Tr.scan l4 f g most out))))], [5000]⟩ [⟨(Go.Op.call (Go.Call.mk (Go.Callee.value (Go.Operand.func 69)) #[(Go.Operand.tmp 31), (Go.Operand.tmp 32), (Go.Operand.tmp 33), (Go.Operand.tmp 34), (Go.Operand.tmp 35)] #[98, 9, 9, 3, 78])), 78, [(sc (.func (.func 69) #[] #[])), (.t (.c (.d (encT l4)))), (sc (.string f)), (sc (.string g)), (sc (.int .i64 most)), (.t (.c (.own 5000)))], [(5000, (.arr 81 2 32 (List.map encPair out)))], (.t (.c (.own 36))), [(36, (.arr 81 2 32 (List.map encPair (Tr.scan l4 f g most out))))]⟩] mixed (by kernel_rfl) ⟨tri_call (Sat.sw 5001 36 (s_scan l4 f g most out (by (try simp only [Tr.size, List.length_append, List.length_cons, List.length_nil] at *); omega))), trivial⟩ ?_
        refine peel_seq ?_
        refine awp_seq ?_
        cases hb8 : (eqS g ⟨#[]⟩) with
        | false =>
          have hb8p := eqS_false hb8
          refine awp_region_keep tab_ok boxes [(1, ⟨[], (sc (.bool false)), some []⟩), (9, ⟨[], (sc (.bool (ltS k2 g))), some []⟩)] [0, 1, 2, 3, 4, 10, 11] [36] ⟨82, [(0, (.t (.c (.d (encT (Tr.node k2 v3 l4 r5)))))), (1, (sc (.string f))), (2, (sc (.string g))), (3, (sc (.int .i64 most))), (4, (.t (.c (.own 36)))), (10, (sc (.slice none 0 0))), (11, (sc (.bool (ltS k2 g))))], [(36, (.arr 81 2 32 (List.map encPair (Tr.scan l4 f g most out))))], [5000]⟩ [⟨(Go.Op.binOp Go.BinOp.eql 9 (Go.Operand.tmp 37) (Go.Operand.const (Go.Value.string (ByteArray.mk #[]))) 9), 4, [(sc (.string g)), (sc (.string ⟨#[]⟩))], [], (sc (.bool false)), []⟩, ⟨(Go.Op.binOp Go.BinOp.lss 9 (Go.Operand.tmp 44) (Go.Operand.tmp 45) 9), 4, [(sc (.string k2)), (sc (.string g))], [], (sc (.bool (ltS k2 g))), []⟩] mixed (by kernel_rfl) ⟨tri_as tri_str_eql hb8, tri_str_lss, trivial⟩ ?_
          refine peel_seq ?_
          refine awp_seq ?_
          refine awp_seq ?_
          cases hb9 : (ltS k2 f) with
          | false =>
            cases hb10 : (ltS k2 g) with
            | false =>
              refine awp_region_keep tab_ok boxes [(6, ⟨[], (sc (.bool true)), some []⟩)] [0, 1, 2, 3, 4, 10, 11, 63] [36] ⟨82, [(0, (.t (.c (.d (encT (Tr.node k2 v3 l4 r5)))))), (1, (sc (.string f))), (2, (sc (.string g))), (3, (sc (.int .i64 most))), (4, (.t (.c (.own 36)))), (10, (sc (.slice none 0 0))), (11, (sc (.bool false))), (63, (sc (.bool false)))], [(36, (.arr 81 2 32 (List.map encPair (Tr.scan l4 f g most out))))], [5000]⟩ [⟨(Go.Op.binOp Go.BinOp.geq 9 (Go.Operand.tmp 52) (Go.Operand.tmp 53) 9), 4, [(sc (.string k2)), (sc (.string f))], [], (sc (.bool true)), []⟩] mixed (by kernel_rfl) ⟨tri_as tri_str_geq (by rw [hb9]; rfl), trivial⟩ ?_
              refine peel_seq ?_
              refine awp_false rfl ?_
              refine awp_skip ?_
              refine peel_seq ?_
              refine awp_seq ?_
              refine awp_seq ?_
              refine awp_region_keep tab_ok boxes [] [0, 1, 2, 3, 4, 10, 71] [36] ⟨82, [(0, (.t (.c (.d (encT (Tr.node k2 v3 l4 r5)))))), (1, (sc (.string f))), (2, (sc (.string g))), (3, (sc (.int .i64 most))), (4, (.t (.c (.own 36)))), (10, (sc (.slice none 0 0))), (71, (sc (.bool false)))], [(36, (.arr 81 2 32 (List.map encPair (Tr.scan l4 f g most out))))], [5000]⟩ [] mixed (by kernel_rfl) trivial ?_
              refine peel_seq ?_
              refine awp_false rfl ?_
              refine awp_skip ?_
              refine peel_seq ?_
              refine awp_seq ?_
              refine awp_region_keep tab_ok boxes [] [10] [36] ⟨82, [(10, (.t (.c (.own 36))))], [(36, (.arr 81 2 32 (List.map encPair (Tr.scan l4 f g most out))))], [5000]⟩ [] mixed (by kernel_rfl) trivial ?_
              refine peel_seq ?_
              refine awp_mv [.sw 36 5001] ⟨82, [(10, (.t (.c (.own 5001))))], [(5001, (.arr 81 2 32 (List.map encPair (Tr.scan l4 f g most out))))], [5000]⟩ rfl ?_
              refine awp_ret ?_
              exact ends_ret rfl rfl (show some ([(5001, (.arr 81 2 32 (List.map encPair (Tr.scan l4 f g most out))))] : Objs) = some ([(5001, (.arr 81 2 32 (List.map encPair (Tr.scan (Tr.node k2 v3 l4 r5) f g most out))))] : Objs) from by first | rfl | (simp only [Tr.scan, hb10, hb8, hb9, hc6, hc7, cond_true, cond_false, Bool.not_true, Bool.not_false]))
            | true =>
              refine awp_region_keep tab_ok boxes [(6, ⟨[], (sc (.bool true)), some []⟩), (12, ⟨[36], (sc (.int .i64 (List.length (Tr.scan l4 f g most out) : Int))), none⟩)] [0, 1, 2, 3, 4, 10, 11, 63] [36] ⟨82, [(0, (.t (.c (.d (encT (Tr.node k2 v3 l4 r5)))))), (1, (sc (.string f))), (2, (sc (.string g))), (3, (sc (.int .i64 most))), (4, (.t (.c (.own 36)))), (10, (sc (.slice none 0 0))), (11, (sc (.bool true))), (63, (sc (.bool (decide ((List.length (Tr.scan l4 f g most out) : Int) < most)))))], [(36, (.arr 81 2 32 (List.map encPair (Tr.scan l4 f g most out))))], [5000]⟩ [⟨(Go.Op.binOp Go.BinOp.geq 9 (Go.Operand.tmp 52) (Go.Operand.tmp 53) 9), 4, [(sc (.string k2)), (sc (.string f))], [], (sc (.bool true)), []⟩, ⟨(Go.Op.call (Go.Call.mk (Go.Callee.builtin Go.Builtin.len) #[(Go.Operand.tmp 59)] #[78])), 3, [(.t (.c (.own 36)))], [(36, (.arr 81 2 32 (List.map encPair (Tr.scan l4 f g most out))))], (sc (.int .i64 (List.length (Tr.scan l4 f g most out) : Int))), [(36, (.arr 81 2 32 (List.map encPair (Tr.scan l4 f g most out))))]⟩] mixed (by kernel_rfl) ⟨tri_as tri_str_geq (by rw [hb9]; rfl), tri_len_mapO tab_ok rfl, trivial⟩ ?_
              refine peel_seq ?_
              refine awp_cond (b := (decide ((List.length (Tr.scan l4 f g most out) : Int) < most))) rfl (fun hc11 => ?_) (fun hc11 => ?_)
              · skip
                have hc11p := of_decide_eq_true hc11
                refine awp_region_keep tab_ok boxes [(5, ⟨[], (.t (.c (.d (.sl (List.map encPair ([(Tr.APair.mk k2 v3)])))))), some []⟩), (6, ⟨[36], (.t (.c (.own 70))), some [(70, (.arr 81 2 32 (List.map encPair ((Tr.scan l4 f g most out) ++ [(Tr.APair.mk k2 v3)]))))]⟩)] [0, 1, 2, 3, 4, 10, 11] [70] ⟨82, [(0, (.t (.c (.d (encT (Tr.node k2 v3 l4 r5)))))), (1, (sc (.string f))), (2, (sc (.string g))), (3, (sc (.int .i64 most))), (4, (.t (.c (.own 70)))), (10, (sc (.slice none 0 0))), (11, (sc (.bool true)))], [(70, (.arr 81 2 32 (List.map encPair ((Tr.scan l4 f g most out) ++ [(Tr.APair.mk k2 v3)]))))], [5000]⟩ [⟨(Go.Op.buildSlice 78 1 #[(0, (Go.Operand.tmp 68))]), 78, [(.t (.agg [(.d (.v (.string k2))), (.d (.v (.string v3)))]))], [], (.t (.c (.d (.sl (List.map encPair ([(Tr.APair.mk k2 v3)])))))), []⟩, ⟨(Go.Op.call (Go.Call.mk (Go.Callee.builtin Go.Builtin.append) #[(Go.Operand.tmp 64), (Go.Operand.tmp 69)] #[78, 78])), 78, [(.t (.c (.own 36))), (.t (.c (.d (.sl (List.map encPair ([(Tr.APair.mk k2 v3)]))))))], [(36, (.arr 81 2 32 (List.map encPair (Tr.scan l4 f g most out))))], (.t (.c (.own 70))), [(70, (.arr 81 2 32 (List.map encPair ((Tr.scan l4 f g most out) ++ [(Tr.APair.mk k2 v3)]))))]⟩] mixed (by kernel_rfl) ⟨tri_slice_data (e := 81) (sz := 2) (bytes := 32) tab_ok (by kernel_rfl) rfl, tri_to (tri_append_sl (ex := 81) (bytes := 32) tab_ok rfl rfl rfl (all_map fun _ => rfl) (by have hsc0 := Tr.scan_len l4 f g most out; (try simp only [Tr.size, List.length_map, List.length_append, List.length_cons, List.length_nil] at *); omega)) (by simp [encPair]), trivial⟩ ?_
                refine peel_seq ?_
                refine awp_seq ?_
                refine awp_seq ?_
                refine awp_region_keep tab_ok boxes [] [0, 1, 2, 3, 4, 10, 71] [70] ⟨82, [(0, (.t (.c (.d (encT (Tr.node k2 v3 l4 r5)))))), (1, (sc (.string f))), (2, (sc (.string g))), (3, (sc (.int .i64 most))), (4, (.t (.c (.own 70)))), (10, (sc (.slice none 0 0))), (71, (sc (.bool true)))], [(70, (.arr 81 2 32 (List.map encPair ((Tr.scan l4 f g most out) ++ [(Tr.APair.mk k2 v3)]))))], [5000]⟩ [] mixed (by kernel_rfl) trivial ?_
                refine peel_seq ?_
                refine awp_true rfl ?_
                refine awp_region_keep tab_ok boxes [(8, ⟨[70], (.t (.c (.own 80))), some [(80, (.arr 81 2 32 (List.map encPair (Tr.scan r5 f g most ((Tr.scan l4 f g most out) ++ [(Tr.APair.mk k2 v3)])))))]⟩)] [4, 10] [80] ⟨82, [(4, (.t (.c (.own 80)))), (10, (sc (.slice none 0 0)))], [(80, (.arr 81 2 32 (List.map encPair (Tr.scan r5 f g most ((Tr.scan l4 f g most out) ++ [(Tr.APair.mk k2 v3)])))))], [5000]⟩ [⟨(Go.Op.call (Go.Call.mk (Go.Callee.value (Go.Operand.func 69)) #[(Go.Operand.tmp 75), (Go.Operand.tmp 76), (Go.Operand.tmp 77), (Go.Operand.tmp 78), (Go.Operand.tmp 79)] #[98, 9, 9, 3, 78])), 78, [(sc (.func (.func 69) #[] #[])), (.t (.c (.d (encT r5)))), (sc (.string f)), (sc (.string g)), (sc (.int .i64 most)), (.t (.c (.own 70)))], [(70, (.arr 81 2 32 (List.map encPair ((Tr.scan l4 f g most out) ++ [(Tr.APair.mk k2 v3)]))))], (.t (.c (.own 80))), [(80, (.arr 81 2 32 (List.map encPair (Tr.scan r5 f g most ((Tr.scan l4 f g most out) ++ [(Tr.APair.mk k2 v3)])))))]⟩] mixed (by kernel_rfl) ⟨tri_call (Sat.sw 5001 80 (Sat.sw 5000 70 (s_scan r5 f g most ((Tr.scan l4 f g most out) ++ [(Tr.APair.mk k2 v3)]) (by have hsc0 := Tr.scan_len l4 f g most out; (try simp only [Tr.size, List.length_append, List.length_cons, List.length_nil] at *); omega)))), trivial⟩ ?_
                refine peel_seq ?_
                refine awp_seq ?_
                refine awp_region_keep tab_ok boxes [] [10] [80] ⟨82, [(10, (.t (.c (.own 80))))], [(80, (.arr 81 2 32 (List.map encPair (Tr.scan r5 f g most ((Tr.scan l4 f g most out) ++ [(Tr.APair.mk k2 v3)])))))], [5000]⟩ [] mixed (by kernel_rfl) trivial ?_
                refine peel_seq ?_
                refine awp_mv [.sw 80 5001] ⟨82, [(10, (.t (.c (.own 5001))))], [(5001, (.arr 81 2 32 (List.map encPair (Tr.scan r5 f g most ((Tr.scan l4 f g most out) ++ [(Tr.APair.mk k2 v3)])))))], [5000]⟩ rfl ?_
                refine awp_ret ?_
                exact ends_ret rfl rfl (show some ([(5001, (.arr 81 2 32 (List.map encPair (Tr.scan r5 f g most ((Tr.scan l4 f g most out) ++ [(Tr.APair.mk k2 v3)])))))] : Objs) = some ([(5001, (.arr 81 2 32 (List.map encPair (Tr.scan (Tr.node k2 v3 l4 r5) f g most out))))] : Objs) from by first | rfl | (simp only [Tr.scan, hb10, hb8, hb9, hc11, hc6, hc7, cond_true, cond_false, Bool.not_true, Bool.not_false]))
              · skip
                have hc11p := of_decide_eq_false hc11
                refine awp_skip ?_
                refine peel_seq ?_
                refine awp_seq ?_
                refine awp_seq ?_
                refine awp_region_keep tab_ok boxes [] [0, 1, 2, 3, 4, 10, 71] [36] ⟨82, [(0, (.t (.c (.d (encT (Tr.node k2 v3 l4 r5)))))), (1, (sc (.string f))), (2, (sc (.string g))), (3, (sc (.int .i64 most))), (4, (.t (.c (.own 36)))), (10, (sc (.slice none 0 0))), (71, (sc (.bool true)))], [(36, (.arr 81 2 32 (List.map encPair (Tr.scan l4 f g most out))))], [5000]⟩ [] mixed (by kernel_rfl) trivial ?_
                refine peel_seq ?_
                refine awp_true rfl ?_
                refine awp_region_keep tab_ok boxes [(8, ⟨[36], (.t (.c (.own 80))), some [(80, (.arr 81 2 32 (List.map encPair (Tr.scan r5 f g most (Tr.scan l4 f g most out)))))]⟩)] [4, 10] [80] ⟨82, [(4, (.t (.c (.own 80)))), (10, (sc (.slice none 0 0)))], [(80, (.arr 81 2 32 (List.map encPair (Tr.scan r5 f g most (Tr.scan l4 f g most out)))))], [5000]⟩ [⟨(Go.Op.call (Go.Call.mk (Go.Callee.value (Go.Operand.func 69)) #[(Go.Operand.tmp 75), (Go.Operand.tmp 76), (Go.Operand.tmp 77), (Go.Operand.tmp 78), (Go.Operand.tmp 79)] #[98, 9, 9, 3, 78])), 78, [(sc (.func (.func 69) #[] #[])), (.t (.c (.d (encT r5)))), (sc (.string f)), (sc (.string g)), (sc (.int .i64 most)), (.t (.c (.own 36)))], [(36, (.arr 81 2 32 (List.map encPair (Tr.scan l4 f g most out))))], (.t (.c (.own 80))), [(80, (.arr 81 2 32 (List.map encPair (Tr.scan r5 f g most (Tr.scan l4 f g most out)))))]⟩] mixed (by kernel_rfl) ⟨tri_call (Sat.sw 5001 80 (Sat.sw 5000 36 (s_scan r5 f g most (Tr.scan l4 f g most out) (by have hsc0 := Tr.scan_len l4 f g most out; (try simp only [Tr.size, List.length_append, List.length_cons, List.length_nil] at *); omega)))), trivial⟩ ?_
                refine peel_seq ?_
                refine awp_seq ?_
                refine awp_region_keep tab_ok boxes [] [10] [80] ⟨82, [(10, (.t (.c (.own 80))))], [(80, (.arr 81 2 32 (List.map encPair (Tr.scan r5 f g most (Tr.scan l4 f g most out)))))], [5000]⟩ [] mixed (by kernel_rfl) trivial ?_
                refine peel_seq ?_
                refine awp_mv [.sw 80 5001] ⟨82, [(10, (.t (.c (.own 5001))))], [(5001, (.arr 81 2 32 (List.map encPair (Tr.scan r5 f g most (Tr.scan l4 f g most out)))))], [5000]⟩ rfl ?_
                refine awp_ret ?_
                exact ends_ret rfl rfl (show some ([(5001, (.arr 81 2 32 (List.map encPair (Tr.scan r5 f g most (Tr.scan l4 f g most out)))))] : Objs) = some ([(5001, (.arr 81 2 32 (List.map encPair (Tr.scan (Tr.node k2 v3 l4 r5) f g most out))))] : Objs) from by first | rfl | (simp only [Tr.scan, hb10, hb8, hb9, hc11, hc6, hc7, cond_true, cond_false, Bool.not_true, Bool.not_false]))
          | true =>
            refine awp_region_keep tab_ok boxes [(6, ⟨[], (sc (.bool false)), some []⟩)] [0, 1, 2, 3, 4, 10, 11, 63] [36] ⟨82, [(0, (.t (.c (.d (encT (Tr.node k2 v3 l4 r5)))))), (1, (sc (.string f))), (2, (sc (.string g))), (3, (sc (.int .i64 most))), (4, (.t (.c (.own 36)))), (10, (sc (.slice none 0 0))), (11, (sc (.bool (ltS k2 g)))), (63, (sc (.bool false)))], [(36, (.arr 81 2 32 (List.map encPair (Tr.scan l4 f g most out))))], [5000]⟩ [⟨(Go.Op.binOp Go.BinOp.geq 9 (Go.Operand.tmp 52) (Go.Operand.tmp 53) 9), 4, [(sc (.string k2)), (sc (.string f))], [], (sc (.bool false)), []⟩] mixed (by kernel_rfl) ⟨tri_as tri_str_geq (by rw [hb9]; rfl), trivial⟩ ?_
            refine peel_seq ?_
            refine awp_false rfl ?_
            refine awp_skip ?_
            refine peel_seq ?_
            refine awp_seq ?_
            refine awp_seq ?_
            refine awp_region_keep tab_ok boxes [] [0, 1, 2, 3, 4, 10, 71] [36] ⟨82, [(0, (.t (.c (.d (encT (Tr.node k2 v3 l4 r5)))))), (1, (sc (.string f))), (2, (sc (.string g))), (3, (sc (.int .i64 most))), (4, (.t (.c (.own 36)))), (10, (sc (.slice none 0 0))), (71, (sc (.bool (ltS k2 g))))], [(36, (.arr 81 2 32 (List.map encPair (Tr.scan l4 f g most out))))], [5000]⟩ [] mixed (by kernel_rfl) trivial ?_
            refine peel_seq ?_
            refine awp_cond (b := (ltS k2 g)) rfl (fun hc12 => ?_) (fun hc12 => ?_)
            · skip
              refine awp_region_keep tab_ok boxes [(8, ⟨[36], (.t (.c (.own 80))), some [(80, (.arr 81 2 32 (List.map encPair (Tr.scan r5 f g most (Tr.scan l4 f g most out)))))]⟩)] [4, 10] [80] ⟨82, [(4, (.t (.c (.own 80)))), (10, (sc (.slice none 0 0)))], [(80, (.arr 81 2 32 (List.map encPair (Tr.scan r5 f g most (Tr.scan l4 f g most out)))))], [5000]⟩ [⟨(Go.Op.call (Go.Call.mk (Go.Callee.value (Go.Operand.func 69)) #[(Go.Operand.tmp 75), (Go.Operand.tmp 76), (Go.Operand.tmp 77), (Go.Operand.tmp 78), (Go.Operand.tmp 79)] #[98, 9, 9, 3, 78])), 78, [(sc (.func (.func 69) #[] #[])), (.t (.c (.d (encT r5)))), (sc (.string f)), (sc (.string g)), (sc (.int .i64 most)), (.t (.c (.own 36)))], [(36, (.arr 81 2 32 (List.map encPair (Tr.scan l4 f g most out))))], (.t (.c (.own 80))), [(80, (.arr 81 2 32 (List.map encPair (Tr.scan r5 f g most (Tr.scan l4 f g most out)))))]⟩] mixed (by kernel_rfl) ⟨tri_call (Sat.sw 5001 80 (Sat.sw 5000 36 (s_scan r5 f g most (Tr.scan l4 f g most out) (by have hsc0 := Tr.scan_len l4 f g most out; (try simp only [Tr.size, List.length_append, List.length_cons, List.length_nil] at *); omega)))), trivial⟩ ?_
              refine peel_seq ?_
              refine awp_seq ?_
              refine awp_region_keep tab_ok boxes [] [10] [80] ⟨82, [(10, (.t (.c (.own 80))))], [(80, (.arr 81 2 32 (List.map encPair (Tr.scan r5 f g most (Tr.scan l4 f g most out)))))], [5000]⟩ [] mixed (by kernel_rfl) trivial ?_
              refine peel_seq ?_
              refine awp_mv [.sw 80 5001] ⟨82, [(10, (.t (.c (.own 5001))))], [(5001, (.arr 81 2 32 (List.map encPair (Tr.scan r5 f g most (Tr.scan l4 f g most out)))))], [5000]⟩ rfl ?_
              refine awp_ret ?_
              exact ends_ret rfl rfl (show some ([(5001, (.arr 81 2 32 (List.map encPair (Tr.scan r5 f g most (Tr.scan l4 f g most out)))))] : Objs) = some ([(5001, (.arr 81 2 32 (List.map encPair (Tr.scan (Tr.node k2 v3 l4 r5) f g most out))))] : Objs) from by first | rfl | (simp only [Tr.scan, hb8, hb9, hc12, hc6, hc7, cond_true, cond_false, Bool.not_true, Bool.not_false]))
            · skip
              refine awp_skip ?_
              refine peel_seq ?_
              refine awp_seq ?_
              refine awp_region_keep tab_ok boxes [] [10] [36] ⟨82, [(10, (.t (.c (.own 36))))], [(36, (.arr 81 2 32 (List.map encPair (Tr.scan l4 f g most out))))], [5000]⟩ [] mixed (by kernel_rfl) trivial ?_
              refine peel_seq ?_
              refine awp_mv [.sw 36 5001] ⟨82, [(10, (.t (.c (.own 5001))))], [(5001, (.arr 81 2 32 (List.map encPair (Tr.scan l4 f g most out))))], [5000]⟩ rfl ?_
              refine awp_ret ?_
              exact ends_ret rfl rfl (show some ([(5001, (.arr 81 2 32 (List.map encPair (Tr.scan l4 f g most out))))] : Objs) = some ([(5001, (.arr 81 2 32 (List.map encPair (Tr.scan (Tr.node k2 v3 l4 r5) f g most out))))] : Objs) from by first | rfl | (simp only [Tr.scan, hb8, hb9, hc12, hc6, hc7, cond_true, cond_false, Bool.not_true, Bool.not_false]))
        | true =>
          have hb8p := eqS_true hb8
          refine awp_region_keep tab_ok boxes [(1, ⟨[], (sc (.bool true)), some []⟩)] [0, 1, 2, 3, 4, 10, 11] [36] ⟨82, [(0, (.t (.c (.d (encT (Tr.node k2 v3 l4 r5)))))), (1, (sc (.string f))), (2, (sc (.string g))), (3, (sc (.int .i64 most))), (4, (.t (.c (.own 36)))), (10, (sc (.slice none 0 0))), (11, (sc (.bool true)))], [(36, (.arr 81 2 32 (List.map encPair (Tr.scan l4 f g most out))))], [5000]⟩ [⟨(Go.Op.binOp Go.BinOp.eql 9 (Go.Operand.tmp 37) (Go.Operand.const (Go.Value.string (ByteArray.mk #[]))) 9), 4, [(sc (.string g)), (sc (.string ⟨#[]⟩))], [], (sc (.bool true)), []⟩] mixed (by kernel_rfl) ⟨tri_as tri_str_eql hb8, trivial⟩ ?_
          refine peel_seq ?_
          refine awp_seq ?_
          refine awp_seq ?_
          cases hb13 : (ltS k2 f) with
          | false =>
            refine awp_region_keep tab_ok boxes [(6, ⟨[], (sc (.bool true)), some []⟩), (12, ⟨[36], (sc (.int .i64 (List.length (Tr.scan l4 f g most out) : Int))), none⟩)] [0, 1, 2, 3, 4, 10, 11, 63] [36] ⟨82, [(0, (.t (.c (.d (encT (Tr.node k2 v3 l4 r5)))))), (1, (sc (.string f))), (2, (sc (.string g))), (3, (sc (.int .i64 most))), (4, (.t (.c (.own 36)))), (10, (sc (.slice none 0 0))), (11, (sc (.bool true))), (63, (sc (.bool (decide ((List.length (Tr.scan l4 f g most out) : Int) < most)))))], [(36, (.arr 81 2 32 (List.map encPair (Tr.scan l4 f g most out))))], [5000]⟩ [⟨(Go.Op.binOp Go.BinOp.geq 9 (Go.Operand.tmp 52) (Go.Operand.tmp 53) 9), 4, [(sc (.string k2)), (sc (.string f))], [], (sc (.bool true)), []⟩, ⟨(Go.Op.call (Go.Call.mk (Go.Callee.builtin Go.Builtin.len) #[(Go.Operand.tmp 59)] #[78])), 3, [(.t (.c (.own 36)))], [(36, (.arr 81 2 32 (List.map encPair (Tr.scan l4 f g most out))))], (sc (.int .i64 (List.length (Tr.scan l4 f g most out) : Int))), [(36, (.arr 81 2 32 (List.map encPair (Tr.scan l4 f g most out))))]⟩] mixed (by kernel_rfl) ⟨tri_as tri_str_geq (by rw [hb13]; rfl), tri_len_mapO tab_ok rfl, trivial⟩ ?_
            refine peel_seq ?_
            refine awp_cond (b := (decide ((List.length (Tr.scan l4 f g most out) : Int) < most))) rfl (fun hc14 => ?_) (fun hc14 => ?_)
            · skip
              have hc14p := of_decide_eq_true hc14
              refine awp_region_keep tab_ok boxes [(5, ⟨[], (.t (.c (.d (.sl (List.map encPair ([(Tr.APair.mk k2 v3)])))))), some []⟩), (6, ⟨[36], (.t (.c (.own 70))), some [(70, (.arr 81 2 32 (List.map encPair ((Tr.scan l4 f g most out) ++ [(Tr.APair.mk k2 v3)]))))]⟩)] [0, 1, 2, 3, 4, 10, 11] [70] ⟨82, [(0, (.t (.c (.d (encT (Tr.node k2 v3 l4 r5)))))), (1, (sc (.string f))), (2, (sc (.string g))), (3, (sc (.int .i64 most))), (4, (.t (.c (.own 70)))), (10, (sc (.slice none 0 0))), (11, (sc (.bool true)))], [(70, (.arr 81 2 32 (List.map encPair ((Tr.scan l4 f g most out) ++ [(Tr.APair.mk k2 v3)]))))], [5000]⟩ [⟨(Go.Op.buildSlice 78 1 #[(0, (Go.Operand.tmp 68))]), 78, [(.t (.agg [(.d (.v (.string k2))), (.d (.v (.string v3)))]))], [], (.t (.c (.d (.sl (List.map encPair ([(Tr.APair.mk k2 v3)])))))), []⟩, ⟨(Go.Op.call (Go.Call.mk (Go.Callee.builtin Go.Builtin.append) #[(Go.Operand.tmp 64), (Go.Operand.tmp 69)] #[78, 78])), 78, [(.t (.c (.own 36))), (.t (.c (.d (.sl (List.map encPair ([(Tr.APair.mk k2 v3)]))))))], [(36, (.arr 81 2 32 (List.map encPair (Tr.scan l4 f g most out))))], (.t (.c (.own 70))), [(70, (.arr 81 2 32 (List.map encPair ((Tr.scan l4 f g most out) ++ [(Tr.APair.mk k2 v3)]))))]⟩] mixed (by kernel_rfl) ⟨tri_slice_data (e := 81) (sz := 2) (bytes := 32) tab_ok (by kernel_rfl) rfl, tri_to (tri_append_sl (ex := 81) (bytes := 32) tab_ok rfl rfl rfl (all_map fun _ => rfl) (by have hsc0 := Tr.scan_len l4 f g most out; (try simp only [Tr.size, List.length_map, List.length_append, List.length_cons, List.length_nil] at *); omega)) (by simp [encPair]), trivial⟩ ?_
              refine peel_seq ?_
              refine awp_seq ?_
              refine awp_seq ?_
              refine awp_region_keep tab_ok boxes [] [0, 1, 2, 3, 4, 10, 71] [70] ⟨82, [(0, (.t (.c (.d (encT (Tr.node k2 v3 l4 r5)))))), (1, (sc (.string f))), (2, (sc (.string g))), (3, (sc (.int .i64 most))), (4, (.t (.c (.own 70)))), (10, (sc (.slice none 0 0))), (71, (sc (.bool true)))], [(70, (.arr 81 2 32 (List.map encPair ((Tr.scan l4 f g most out) ++ [(Tr.APair.mk k2 v3)]))))], [5000]⟩ [] mixed (by kernel_rfl) trivial ?_
              refine peel_seq ?_
              refine awp_true rfl ?_
              refine awp_region_keep tab_ok boxes [(8, ⟨[70], (.t (.c (.own 80))), some [(80, (.arr 81 2 32 (List.map encPair (Tr.scan r5 f g most ((Tr.scan l4 f g most out) ++ [(Tr.APair.mk k2 v3)])))))]⟩)] [4, 10] [80] ⟨82, [(4, (.t (.c (.own 80)))), (10, (sc (.slice none 0 0)))], [(80, (.arr 81 2 32 (List.map encPair (Tr.scan r5 f g most ((Tr.scan l4 f g most out) ++ [(Tr.APair.mk k2 v3)])))))], [5000]⟩ [⟨(Go.Op.call (Go.Call.mk (Go.Callee.value (Go.Operand.func 69)) #[(Go.Operand.tmp 75), (Go.Operand.tmp 76), (Go.Operand.tmp 77), (Go.Operand.tmp 78), (Go.Operand.tmp 79)] #[98, 9, 9, 3, 78])), 78, [(sc (.func (.func 69) #[] #[])), (.t (.c (.d (encT r5)))), (sc (.string f)), (sc (.string g)), (sc (.int .i64 most)), (.t (.c (.own 70)))], [(70, (.arr 81 2 32 (List.map encPair ((Tr.scan l4 f g most out) ++ [(Tr.APair.mk k2 v3)]))))], (.t (.c (.own 80))), [(80, (.arr 81 2 32 (List.map encPair (Tr.scan r5 f g most ((Tr.scan l4 f g most out) ++ [(Tr.APair.mk k2 v3)])))))]⟩] mixed (by kernel_rfl) ⟨tri_call (Sat.sw 5001 80 (Sat.sw 5000 70 (s_scan r5 f g most ((Tr.scan l4 f g most out) ++ [(Tr.APair.mk k2 v3)]) (by have hsc0 := Tr.scan_len l4 f g most out; (try simp only [Tr.size, List.length_append, List.length_cons, List.length_nil] at *); omega)))), trivial⟩ ?_
              refine peel_seq ?_
              refine awp_seq ?_
              refine awp_region_keep tab_ok boxes [] [10] [80] ⟨82, [(10, (.t (.c (.own 80))))], [(80, (.arr 81 2 32 (List.map encPair (Tr.scan r5 f g most ((Tr.scan l4 f g most out) ++ [(Tr.APair.mk k2 v3)])))))], [5000]⟩ [] mixed (by kernel_rfl) trivial ?_
              refine peel_seq ?_
              refine awp_mv [.sw 80 5001] ⟨82, [(10, (.t (.c (.own 5001))))], [(5001, (.arr 81 2 32 (List.map encPair (Tr.scan r5 f g most ((Tr.scan l4 f g most out) ++ [(Tr.APair.mk k2 v3)])))))], [5000]⟩ rfl ?_
              refine awp_ret ?_
              exact ends_ret rfl rfl (show some ([(5001, (.arr 81 2 32 (List.map encPair (Tr.scan r5 f g most ((Tr.scan l4 f g most out) ++ [(Tr.APair.mk k2 v3)])))))] : Objs) = some ([(5001, (.arr 81 2 32 (List.map encPair (Tr.scan (Tr.node k2 v3 l4 r5) f g most out))))] : Objs) from by first | rfl | (simp only [Tr.scan, hb13, hb8, hc14, hc6, hc7, cond_true, cond_false, Bool.not_true, Bool.not_false]))
            · skip
              have hc14p := of_decide_eq_false hc14
              refine awp_skip ?_
              refine peel_seq ?_
              refine awp_seq ?_
              refine awp_seq ?_
              refine awp_region_keep tab_ok boxes [] [0, 1, 2, 3, 4, 10, 71] [36] ⟨82, [(0, (.t (.c (.d (encT (Tr.node k2 v3 l4 r5)))))), (1, (sc (.string f))), (2, (sc (.string g))), (3, (sc (.int .i64 most))), (4, (.t (.c (.own 36)))), (10, (sc (.slice none 0 0))), (71, (sc (.bool true)))], [(36, (.arr 81 2 32 (List.map encPair (Tr.scan l4 f g most out))))], [5000]⟩ [] mixed (by kernel_rfl) trivial ?_
              refine peel_seq ?_
              refine awp_true rfl ?_
              refine awp_region_keep tab_ok boxes [(8, ⟨[36], (.t (.c (.own 80))), some [(80, (.arr 81 2 32 (List.map encPair (Tr.scan r5 f g most (Tr.scan l4 f g most out)))))]⟩)] [4, 10] [80] ⟨82, [(4, (.t (.c (.own 80)))), (10, (sc (.slice none 0 0)))], [(80, (.arr 81 2 32 (List.map encPair (Tr.scan r5 f g most (Tr.scan l4 f g most out)))))], [5000]⟩ [⟨(Go.Op.call (Go.Call.mk (Go.Callee.value (Go.Operand.func 69)) #[(Go.Operand.tmp 75), (Go.Operand.tmp 76), (Go.Operand.tmp 77), (Go.Operand.tmp 78), (Go.Operand.tmp 79)] #[98, 9, 9, 3, 78])), 78, [(sc (.func (.func 69) #[] #[])), (.t (.c (.d (encT r5)))), (sc (.string f)), (sc (.string g)), (sc (.int .i64 most)), (.t (.c (.own 36)))], [(36, (.arr 81 2 32 (List.map encPair (Tr.scan l4 f g most out))))], (.t (.c (.own 80))), [(80, (.arr 81 2 32 (List.map encPair (Tr.scan r5 f g most (Tr.scan l4 f g most out)))))]⟩] mixed (by kernel_rfl) ⟨tri_call (Sat.sw 5001 80 (Sat.sw 5000 36 (s_scan r5 f g most (Tr.scan l4 f g most out) (by have hsc0 := Tr.scan_len l4 f g most out; (try simp only [Tr.size, List.length_append, List.length_cons, List.length_nil] at *); omega)))), trivial⟩ ?_
              refine peel_seq ?_
              refine awp_seq ?_
              refine awp_region_keep tab_ok boxes [] [10] [80] ⟨82, [(10, (.t (.c (.own 80))))], [(80, (.arr 81 2 32 (List.map encPair (Tr.scan r5 f g most (Tr.scan l4 f g most out)))))], [5000]⟩ [] mixed (by kernel_rfl) trivial ?_
              refine peel_seq ?_
              refine awp_mv [.sw 80 5001] ⟨82, [(10, (.t (.c (.own 5001))))], [(5001, (.arr 81 2 32 (List.map encPair (Tr.scan r5 f g most (Tr.scan l4 f g most out)))))], [5000]⟩ rfl ?_
              refine awp_ret ?_
              exact ends_ret rfl rfl (show some ([(5001, (.arr 81 2 32 (List.map encPair (Tr.scan r5 f g most (Tr.scan l4 f g most out)))))] : Objs) = some ([(5001, (.arr 81 2 32 (List.map encPair (Tr.scan (Tr.node k2 v3 l4 r5) f g most out))))] : Objs) from by first | rfl | (simp only [Tr.scan, hb13, hb8, hc14, hc6, hc7, cond_true, cond_false, Bool.not_true, Bool.not_false]))
          | true =>
            refine awp_region_keep tab_ok boxes [(6, ⟨[], (sc (.bool false)), some []⟩)] [0, 1, 2, 3, 4, 10, 11, 63] [36] ⟨82, [(0, (.t (.c (.d (encT (Tr.node k2 v3 l4 r5)))))), (1, (sc (.string f))), (2, (sc (.string g))), (3, (sc (.int .i64 most))), (4, (.t (.c (.own 36)))), (10, (sc (.slice none 0 0))), (11, (sc (.bool true))), (63, (sc (.bool false)))], [(36, (.arr 81 2 32 (List.map encPair (Tr.scan l4 f g most out))))], [5000]⟩ [⟨(Go.Op.binOp Go.BinOp.geq 9 (Go.Operand.tmp 52) (Go.Operand.tmp 53) 9), 4, [(sc (.string k2)), (sc (.string f))], [], (sc (.bool false)), []⟩] mixed (by kernel_rfl) ⟨tri_as tri_str_geq (by rw [hb13]; rfl), trivial⟩ ?_
            refine peel_seq ?_
            refine awp_false rfl ?_
            refine awp_skip ?_
            refine peel_seq ?_
            refine awp_seq ?_
            refine awp_seq ?_
            refine awp_region_keep tab_ok boxes [] [0, 1, 2, 3, 4, 10, 71] [36] ⟨82, [(0, (.t (.c (.d (encT (Tr.node k2 v3 l4 r5)))))), (1, (sc (.string f))), (2, (sc (.string g))), (3, (sc (.int .i64 most))), (4, (.t (.c (.own 36)))), (10, (sc (.slice none 0 0))), (71, (sc (.bool true)))], [(36, (.arr 81 2 32 (List.map encPair (Tr.scan l4 f g most out))))], [5000]⟩ [] mixed (by kernel_rfl) trivial ?_
            refine peel_seq ?_
            refine awp_true rfl ?_
            refine awp_region_keep tab_ok boxes [(8, ⟨[36], (.t (.c (.own 80))), some [(80, (.arr 81 2 32 (List.map encPair (Tr.scan r5 f g most (Tr.scan l4 f g most out)))))]⟩)] [4, 10] [80] ⟨82, [(4, (.t (.c (.own 80)))), (10, (sc (.slice none 0 0)))], [(80, (.arr 81 2 32 (List.map encPair (Tr.scan r5 f g most (Tr.scan l4 f g most out)))))], [5000]⟩ [⟨(Go.Op.call (Go.Call.mk (Go.Callee.value (Go.Operand.func 69)) #[(Go.Operand.tmp 75), (Go.Operand.tmp 76), (Go.Operand.tmp 77), (Go.Operand.tmp 78), (Go.Operand.tmp 79)] #[98, 9, 9, 3, 78])), 78, [(sc (.func (.func 69) #[] #[])), (.t (.c (.d (encT r5)))), (sc (.string f)), (sc (.string g)), (sc (.int .i64 most)), (.t (.c (.own 36)))], [(36, (.arr 81 2 32 (List.map encPair (Tr.scan l4 f g most out))))], (.t (.c (.own 80))), [(80, (.arr 81 2 32 (List.map encPair (Tr.scan r5 f g most (Tr.scan l4 f g most out)))))]⟩] mixed (by kernel_rfl) ⟨tri_call (Sat.sw 5001 80 (Sat.sw 5000 36 (s_scan r5 f g most (Tr.scan l4 f g most out) (by have hsc0 := Tr.scan_len l4 f g most out; (try simp only [Tr.size, List.length_append, List.length_cons, List.length_nil] at *); omega)))), trivial⟩ ?_
            refine peel_seq ?_
            refine awp_seq ?_
            refine awp_region_keep tab_ok boxes [] [10] [80] ⟨82, [(10, (.t (.c (.own 80))))], [(80, (.arr 81 2 32 (List.map encPair (Tr.scan r5 f g most (Tr.scan l4 f g most out)))))], [5000]⟩ [] mixed (by kernel_rfl) trivial ?_
            refine peel_seq ?_
            refine awp_mv [.sw 80 5001] ⟨82, [(10, (.t (.c (.own 5001))))], [(5001, (.arr 81 2 32 (List.map encPair (Tr.scan r5 f g most (Tr.scan l4 f g most out)))))], [5000]⟩ rfl ?_
            refine awp_ret ?_
            exact ends_ret rfl rfl (show some ([(5001, (.arr 81 2 32 (List.map encPair (Tr.scan r5 f g most (Tr.scan l4 f g most out)))))] : Objs) = some ([(5001, (.arr 81 2 32 (List.map encPair (Tr.scan (Tr.node k2 v3 l4 r5) f g most out))))] : Objs) from by first | rfl | (simp only [Tr.scan, hb13, hb8, hc6, hc7, cond_true, cond_false, Bool.not_true, Bool.not_false]))
      · skip
        refine awp_skip ?_
        refine peel_seq ?_
        refine awp_seq ?_
        cases hb15 : (eqS g ⟨#[]⟩) with
        | false =>
          have hb15p := eqS_false hb15
          refine awp_region_keep tab_ok boxes [(1, ⟨[], (sc (.bool false)), some []⟩), (9, ⟨[], (sc (.bool (ltS k2 g))), some []⟩)] [0, 1, 2, 3, 4, 10, 11] [5000] ⟨82, [(0, (.t (.c (.d (encT (Tr.node k2 v3 l4 r5)))))), (1, (sc (.string f))), (2, (sc (.string g))), (3, (sc (.int .i64 most))), (4, (.t (.c (.own 5000)))), (10, (sc (.slice none 0 0))), (11, (sc (.bool (ltS k2 g))))], [(5000, (.arr 81 2 32 (List.map encPair out)))], [5000]⟩ [⟨(Go.Op.binOp Go.BinOp.eql 9 (Go.Operand.tmp 37) (Go.Operand.const (Go.Value.string (ByteArray.mk #[]))) 9), 4, [(sc (.string g)), (sc (.string ⟨#[]⟩))], [], (sc (.bool false)), []⟩, ⟨(Go.Op.binOp Go.BinOp.lss 9 (Go.Operand.tmp 44) (Go.Operand.tmp 45) 9), 4, [(sc (.string k2)), (sc (.string g))], [], (sc (.bool (ltS k2 g))), []⟩] mixed (by kernel_rfl) ⟨tri_as tri_str_eql hb15, tri_str_lss, trivial⟩ ?_
          refine peel_seq ?_
          refine awp_seq ?_
          refine awp_seq ?_
          cases hb16 : (ltS k2 f) with
          | false =>
            cases hb17 : (ltS k2 g) with
            | false =>
              refine awp_region_keep tab_ok boxes [(6, ⟨[], (sc (.bool true)), some []⟩)] [0, 1, 2, 3, 4, 10, 11, 63] [5000] ⟨82, [(0, (.t (.c (.d (encT (Tr.node k2 v3 l4 r5)))))), (1, (sc (.string f))), (2, (sc (.string g))), (3, (sc (.int .i64 most))), (4, (.t (.c (.own 5000)))), (10, (sc (.slice none 0 0))), (11, (sc (.bool false))), (63, (sc (.bool false)))], [(5000, (.arr 81 2 32 (List.map encPair out)))], [5000]⟩ [⟨(Go.Op.binOp Go.BinOp.geq 9 (Go.Operand.tmp 52) (Go.Operand.tmp 53) 9), 4, [(sc (.string k2)), (sc (.string f))], [], (sc (.bool true)), []⟩] mixed (by kernel_rfl) ⟨tri_as tri_str_geq (by rw [hb16]; rfl), trivial⟩ ?_
              refine peel_seq ?_
              refine awp_false rfl ?_
              refine awp_skip ?_
              refine peel_seq ?_
              refine awp_seq ?_
              refine awp_seq ?_
              refine awp_region_keep tab_ok boxes [] [0, 1, 2, 3, 4, 10, 71] [5000] ⟨82, [(0, (.t (.c (.d (encT (Tr.node k2 v3 l4 r5)))))), (1, (sc (.string f))), (2, (sc (.string g))), (3, (sc (.int .i64 most))), (4, (.t (.c (.own 5000)))), (10, (sc (.slice none 0 0))), (71, (sc (.bool false)))], [(5000, (.arr 81 2 32 (List.map encPair out)))], [5000]⟩ [] mixed (by kernel_rfl) trivial ?_
              refine peel_seq ?_
              refine awp_false rfl ?_
              refine awp_skip ?_
              refine peel_seq ?_
              refine awp_seq ?_
              refine awp_region_keep tab_ok boxes [] [10] [5000] ⟨82, [(10, (.t (.c (.own 5000))))], [(5000, (.arr 81 2 32 (List.map encPair out)))], [5000]⟩ [] mixed (by kernel_rfl) trivial ?_
              refine peel_seq ?_
              refine awp_mv [.mo 5000 5001] ⟨82, [(10, (.t (.c (.own 5001))))], [(5001, (.arr 81 2 32 (List.map encPair out)))], [5000]⟩ rfl ?_
              refine awp_ret ?_
              exact ends_ret rfl rfl (show some ([(5001, (.arr 81 2 32 (List.map encPair out)))] : Objs) = some ([(5001, (.arr 81 2 32 (List.map encPair (Tr.scan (Tr.node k2 v3 l4 r5) f g most out))))] : Objs) from by first | rfl | (simp only [Tr.scan, hb15, hb16, hb17, hc6, hc7, cond_true, cond_false, Bool.not_true, Bool.not_false]))
            | true =>
              refine awp_region_keep tab_ok boxes [(6, ⟨[], (sc (.bool true)), some []⟩), (12, ⟨[5000], (sc (.int .i64 (List.length out : Int))), none⟩)] [0, 1, 2, 3, 4, 10, 11, 63] [5000] ⟨82, [(0, (.t (.c (.d (encT (Tr.node k2 v3 l4 r5)))))), (1, (sc (.string f))), (2, (sc (.string g))), (3, (sc (.int .i64 most))), (4, (.t (.c (.own 5000)))), (10, (sc (.slice none 0 0))), (11, (sc (.bool true))), (63, (sc (.bool (decide ((List.length out : Int) < most)))))], [(5000, (.arr 81 2 32 (List.map encPair out)))], [5000]⟩ [⟨(Go.Op.binOp Go.BinOp.geq 9 (Go.Operand.tmp 52) (Go.Operand.tmp 53) 9), 4, [(sc (.string k2)), (sc (.string f))], [], (sc (.bool true)), []⟩, ⟨(Go.Op.call (Go.Call.mk (Go.Callee.builtin Go.Builtin.len) #[(Go.Operand.tmp 59)] #[78])), 3, [(.t (.c (.own 5000)))], [(5000, (.arr 81 2 32 (List.map encPair out)))], (sc (.int .i64 (List.length out : Int))), [(5000, (.arr 81 2 32 (List.map encPair out)))]⟩] mixed (by kernel_rfl) ⟨tri_as tri_str_geq (by rw [hb16]; rfl), tri_len_mapO tab_ok rfl, trivial⟩ ?_
              refine peel_seq ?_
              refine awp_cond (b := (decide ((List.length out : Int) < most))) rfl (fun hc18 => ?_) (fun hc18 => ?_)
              · skip
                have hc18p := of_decide_eq_true hc18
                refine awp_region_keep tab_ok boxes [(5, ⟨[], (.t (.c (.d (.sl (List.map encPair ([(Tr.APair.mk k2 v3)])))))), some []⟩), (6, ⟨[5000], (.t (.c (.own 70))), some [(70, (.arr 81 2 32 (List.map encPair (out ++ [(Tr.APair.mk k2 v3)]))))]⟩)] [0, 1, 2, 3, 4, 10, 11] [70] ⟨82, [(0, (.t (.c (.d (encT (Tr.node k2 v3 l4 r5)))))), (1, (sc (.string f))), (2, (sc (.string g))), (3, (sc (.int .i64 most))), (4, (.t (.c (.own 70)))), (10, (sc (.slice none 0 0))), (11, (sc (.bool true)))], [(70, (.arr 81 2 32 (List.map encPair (out ++ [(Tr.APair.mk k2 v3)]))))], [5000]⟩ [⟨(Go.Op.buildSlice 78 1 #[(0, (Go.Operand.tmp 68))]), 78, [(.t (.agg [(.d (.v (.string k2))), (.d (.v (.string v3)))]))], [], (.t (.c (.d (.sl (List.map encPair ([(Tr.APair.mk k2 v3)])))))), []⟩, ⟨(Go.Op.call (Go.Call.mk (Go.Callee.builtin Go.Builtin.append) #[(Go.Operand.tmp 64), (Go.Operand.tmp 69)] #[78, 78])), 78, [(.t (.c (.own 5000))), (.t (.c (.d (.sl (List.map encPair ([(Tr.APair.mk k2 v3)]))))))], [(5000, (.arr 81 2 32 (List.map encPair out)))], (.t (.c (.own 70))), [(70, (.arr 81 2 32 (List.map encPair (out ++ [(Tr.APair.mk k2 v3)]))))]⟩] mixed (by kernel_rfl) ⟨tri_slice_data (e := 81) (sz := 2) (bytes := 32) tab_ok (by kernel_rfl) rfl, tri_to (tri_append_sl (ex := 81) (bytes := 32) tab_ok rfl rfl rfl (all_map fun _ => rfl) (by (try simp only [Tr.size, List.length_map, List.length_append, List.length_cons, List.length_nil] at *); omega)) (by simp [encPair]), trivial⟩ ?_
                refine peel_seq ?_
                refine awp_seq ?_
                refine awp_seq ?_
                refine awp_region_keep tab_ok boxes [] [0, 1, 2, 3, 4, 10, 71] [70] ⟨82, [(0, (.t (.c (.d (encT (Tr.node k2 v3 l4 r5)))))), (1, (sc (.string f))), (2, (sc (.string g))), (3, (sc (.int .i64 most))), (4, (.t (.c (.own 70)))), (10, (sc (.slice none 0 0))), (71, (sc (.bool true)))], [(70, (.arr 81 2 32 (List.map encPair (out ++ [(Tr.APair.mk k2 v3)]))))], [5000]⟩ [] mixed (by kernel_rfl) trivial ?_
                refine peel_seq ?_
                refine awp_true rfl ?_
                refine awp_region_keep tab_ok boxes [(8, ⟨[70], (.t (.c (.own 80))), some [(80, (.arr 81 2 32 (List.map encPair (Tr.scan r5 f g most (out ++ [(Tr.APair.mk k2 v3)])))))]⟩)] [4, 10] [80] ⟨82, [(4, (.t (.c (.own 80)))), (10, (sc (.slice none 0 0)))], [(80, (.arr 81 2 32 (List.map encPair (Tr.scan r5 f g most (out ++ [(Tr.APair.mk k2 v3)])))))], [5000]⟩ [⟨(Go.Op.call (Go.Call.mk (Go.Callee.value (Go.Operand.func 69)) #[(Go.Operand.tmp 75), (Go.Operand.tmp 76), (Go.Operand.tmp 77), (Go.Operand.tmp 78), (Go.Operand.tmp 79)] #[98, 9, 9, 3, 78])), 78, [(sc (.func (.func 69) #[] #[])), (.t (.c (.d (encT r5)))), (sc (.string f)), (sc (.string g)), (sc (.int .i64 most)), (.t (.c (.own 70)))], [(70, (.arr 81 2 32 (List.map encPair (out ++ [(Tr.APair.mk k2 v3)]))))], (.t (.c (.own 80))), [(80, (.arr 81 2 32 (List.map encPair (Tr.scan r5 f g most (out ++ [(Tr.APair.mk k2 v3)])))))]⟩] mixed (by kernel_rfl) ⟨tri_call (Sat.sw 5001 80 (Sat.sw 5000 70 (s_scan r5 f g most (out ++ [(Tr.APair.mk k2 v3)]) (by (try simp only [Tr.size, List.length_append, List.length_cons, List.length_nil] at *); omega)))), trivial⟩ ?_
                refine peel_seq ?_
                refine awp_seq ?_
                refine awp_region_keep tab_ok boxes [] [10] [80] ⟨82, [(10, (.t (.c (.own 80))))], [(80, (.arr 81 2 32 (List.map encPair (Tr.scan r5 f g most (out ++ [(Tr.APair.mk k2 v3)])))))], [5000]⟩ [] mixed (by kernel_rfl) trivial ?_
                refine peel_seq ?_
                refine awp_mv [.sw 80 5001] ⟨82, [(10, (.t (.c (.own 5001))))], [(5001, (.arr 81 2 32 (List.map encPair (Tr.scan r5 f g most (out ++ [(Tr.APair.mk k2 v3)])))))], [5000]⟩ rfl ?_
                refine awp_ret ?_
                exact ends_ret rfl rfl (show some ([(5001, (.arr 81 2 32 (List.map encPair (Tr.scan r5 f g most (out ++ [(Tr.APair.mk k2 v3)])))))] : Objs) = some ([(5001, (.arr 81 2 32 (List.map encPair (Tr.scan (Tr.node k2 v3 l4 r5) f g most out))))] : Objs) from by first | rfl | (simp only [Tr.scan, hb15, hb16, hb17, hc18, hc6, hc7, cond_true, cond_false, Bool.not_true, Bool.not_false]))
              · skip
                have hc18p := of_decide_eq_false hc18
                refine awp_skip ?_
                refine peel_seq ?_
                refine awp_seq ?_
                refine awp_seq ?_
                refine awp_region_keep tab_ok boxes [] [0, 1, 2, 3, 4, 10, 71] [5000] ⟨82, [(0, (.t (.c (.d (encT (Tr.node k2 v3 l4 r5)))))), (1, (sc (.string f))), (2, (sc (.string g))), (3, (sc (.int .i64 most))), (4, (.t (.c (.own 5000)))), (10, (sc (.slice none 0 0))), (71, (sc (.bool true)))], [(5000, (.arr 81 2 32 (List.map encPair out)))], [5000]⟩ [] mixed (by kernel_rfl) trivial ?_
                refine peel_seq ?_
                refine awp_true rfl ?_
                refine awp_region_keep tab_ok boxes [(8, ⟨[5000], (.t (.c (.own 80))), some [(80, (.arr 81 2 32 (List.map encPair (Tr.scan r5 f g most out))))]⟩)] [4, 10] [80] ⟨82, [(4, (.t (.c (.own 80)))), (10, (sc (.slice none 0 0)))], [(80, (.arr 81 2 32 (List.map encPair (Tr.scan r5 f g most out))))], [5000]⟩ [⟨(Go.Op.call (Go.Call.mk (Go.Callee.value (Go.Operand.func 69)) #[(Go.Operand.tmp 75), (Go.Operand.tmp 76), (Go.Operand.tmp 77), (Go.Operand.tmp 78), (Go.Operand.tmp 79)] #[98, 9, 9, 3, 78])), 78, [(sc (.func (.func 69) #[] #[])), (.t (.c (.d (encT r5)))), (sc (.string f)), (sc (.string g)), (sc (.int .i64 most)), (.t (.c (.own 5000)))], [(5000, (.arr 81 2 32 (List.map encPair out)))], (.t (.c (.own 80))), [(80, (.arr 81 2 32 (List.map encPair (Tr.scan r5 f g most out))))]⟩] mixed (by kernel_rfl) ⟨tri_call (Sat.sw 5001 80 (s_scan r5 f g most out (by (try simp only [Tr.size, List.length_append, List.length_cons, List.length_nil] at *); omega))), trivial⟩ ?_
                refine peel_seq ?_
                refine awp_seq ?_
                refine awp_region_keep tab_ok boxes [] [10] [80] ⟨82, [(10, (.t (.c (.own 80))))], [(80, (.arr 81 2 32 (List.map encPair (Tr.scan r5 f g most out))))], [5000]⟩ [] mixed (by kernel_rfl) trivial ?_
                refine peel_seq ?_
                refine awp_mv [.sw 80 5001] ⟨82, [(10, (.t (.c (.own 5001))))], [(5001, (.arr 81 2 32 (List.map encPair (Tr.scan r5 f g most out))))], [5000]⟩ rfl ?_
                refine awp_ret ?_
                exact ends_ret rfl rfl (show some ([(5001, (.arr 81 2 32 (List.map encPair (Tr.scan r5 f g most out))))] : Objs) = some ([(5001, (.arr 81 2 32 (List.map encPair (Tr.scan (Tr.node k2 v3 l4 r5) f g most out))))] : Objs) from by first | rfl | (simp only [Tr.scan, hb15, hb16, hb17, hc18, hc6, hc7, cond_true, cond_false, Bool.not_true, Bool.not_false]))
          | true =>
            refine awp_region_keep tab_ok boxes [(6, ⟨[], (sc (.bool false)), some []⟩)] [0, 1, 2, 3, 4, 10, 11, 63] [5000] ⟨82, [(0, (.t (.c (.d (encT (Tr.node k2 v3 l4 r5)))))), (1, (sc (.string f))), (2, (sc (.string g))), (3, (sc (.int .i64 most))), (4, (.t (.c (.own 5000)))), (10, (sc (.slice none 0 0))), (11, (sc (.bool (ltS k2 g)))), (63, (sc (.bool false)))], [(5000, (.arr 81 2 32 (List.map encPair out)))], [5000]⟩ [⟨(Go.Op.binOp Go.BinOp.geq 9 (Go.Operand.tmp 52) (Go.Operand.tmp 53) 9), 4, [(sc (.string k2)), (sc (.string f))], [], (sc (.bool false)), []⟩] mixed (by kernel_rfl) ⟨tri_as tri_str_geq (by rw [hb16]; rfl), trivial⟩ ?_
            refine peel_seq ?_
            refine awp_false rfl ?_
            refine awp_skip ?_
            refine peel_seq ?_
            refine awp_seq ?_
            refine awp_seq ?_
            refine awp_region_keep tab_ok boxes [] [0, 1, 2, 3, 4, 10, 71] [5000] ⟨82, [(0, (.t (.c (.d (encT (Tr.node k2 v3 l4 r5)))))), (1, (sc (.string f))), (2, (sc (.string g))), (3, (sc (.int .i64 most))), (4, (.t (.c (.own 5000)))), (10, (sc (.slice none 0 0))), (71, (sc (.bool (ltS k2 g))))], [(5000, (.arr 81 2 32 (List.map encPair out)))], [5000]⟩ [] mixed (by kernel_rfl) trivial ?_
            refine peel_seq ?_
            refine awp_cond (b := (ltS k2 g)) rfl (fun hc19 => ?_) (fun hc19 => ?_)
            · skip
              refine awp_region_keep tab_ok boxes [(8, ⟨[5000], (.t (.c (.own 80))), some [(80, (.arr 81 2 32 (List.map encPair (Tr.scan r5 f g most out))))]⟩)] [4, 10] [80] ⟨82, [(4, (.t (.c (.own 80)))), (10, (sc (.slice none 0 0)))], [(80, (.arr 81 2 32 (List.map encPair (Tr.scan r5 f g most out))))], [5000]⟩ [⟨(Go.Op.call (Go.Call.mk (Go.Callee.value (Go.Operand.func 69)) #[(Go.Operand.tmp 75), (Go.Operand.tmp 76), (Go.Operand.tmp 77), (Go.Operand.tmp 78), (Go.Operand.tmp 79)] #[98, 9, 9, 3, 78])), 78, [(sc (.func (.func 69) #[] #[])), (.t (.c (.d (encT r5)))), (sc (.string f)), (sc (.string g)), (sc (.int .i64 most)), (.t (.c (.own 5000)))], [(5000, (.arr 81 2 32 (List.map encPair out)))], (.t (.c (.own 80))), [(80, (.arr 81 2 32 (List.map encPair (Tr.scan r5 f g most out))))]⟩] mixed (by kernel_rfl) ⟨tri_call (Sat.sw 5001 80 (s_scan r5 f g most out (by (try simp only [Tr.size, List.length_append, List.length_cons, List.length_nil] at *); omega))), trivial⟩ ?_
              refine peel_seq ?_
              refine awp_seq ?_
              refine awp_region_keep tab_ok boxes [] [10] [80] ⟨82, [(10, (.t (.c (.own 80))))], [(80, (.arr 81 2 32 (List.map encPair (Tr.scan r5 f g most out))))], [5000]⟩ [] mixed (by kernel_rfl) trivial ?_
              refine peel_seq ?_
              refine awp_mv [.sw 80 5001] ⟨82, [(10, (.t (.c (.own 5001))))], [(5001, (.arr 81 2 32 (List.map encPair (Tr.scan r5 f g most out))))], [5000]⟩ rfl ?_
              refine awp_ret ?_
              exact ends_ret rfl rfl (show some ([(5001, (.arr 81 2 32 (List.map encPair (Tr.scan r5 f g most out))))] : Objs) = some ([(5001, (.arr 81 2 32 (List.map encPair (Tr.scan (Tr.node k2 v3 l4 r5) f g most out))))] : Objs) from by first | rfl | (simp only [Tr.scan, hb15, hb16, hc19, hc6, hc7, cond_true, cond_false, Bool.not_true, Bool.not_false]))
            · skip
              refine awp_skip ?_
              refine peel_seq ?_
              refine awp_seq ?_
              refine awp_region_keep tab_ok boxes [] [10] [5000] ⟨82, [(10, (.t (.c (.own 5000))))], [(5000, (.arr 81 2 32 (List.map encPair out)))], [5000]⟩ [] mixed (by kernel_rfl) trivial ?_
              refine peel_seq ?_
              refine awp_mv [.mo 5000 5001] ⟨82, [(10, (.t (.c (.own 5001))))], [(5001, (.arr 81 2 32 (List.map encPair out)))], [5000]⟩ rfl ?_
              refine awp_ret ?_
              exact ends_ret rfl rfl (show some ([(5001, (.arr 81 2 32 (List.map encPair out)))] : Objs) = some ([(5001, (.arr 81 2 32 (List.map encPair (Tr.scan (Tr.node k2 v3 l4 r5) f g most out))))] : Objs) from by first | rfl | (simp only [Tr.scan, hb15, hb16, hc19, hc6, hc7, cond_true, cond_false, Bool.not_true, Bool.not_false]))
        | true =>
          have hb15p := eqS_true hb15
          refine awp_region_keep tab_ok boxes [(1, ⟨[], (sc (.bool true)), some []⟩)] [0, 1, 2, 3, 4, 10, 11] [5000] ⟨82, [(0, (.t (.c (.d (encT (Tr.node k2 v3 l4 r5)))))), (1, (sc (.string f))), (2, (sc (.string g))), (3, (sc (.int .i64 most))), (4, (.t (.c (.own 5000)))), (10, (sc (.slice none 0 0))), (11, (sc (.bool true)))], [(5000, (.arr 81 2 32 (List.map encPair out)))], [5000]⟩ [⟨(Go.Op.binOp Go.BinOp.eql 9 (Go.Operand.tmp 37) (Go.Operand.const (Go.Value.string (ByteArray.mk #[]))) 9), 4, [(sc (.string g)), (sc (.string ⟨#[]⟩))], [], (sc (.bool true)), []⟩] mixed (by kernel_rfl) ⟨tri_as tri_str_eql hb15, trivial⟩ ?_
          refine peel_seq ?_
          refine awp_seq ?_
          refine awp_seq ?_
          cases hb20 : (ltS k2 f) with
          | false =>
            refine awp_region_keep tab_ok boxes [(6, ⟨[], (sc (.bool true)), some []⟩), (12, ⟨[5000], (sc (.int .i64 (List.length out : Int))), none⟩)] [0, 1, 2, 3, 4, 10, 11, 63] [5000] ⟨82, [(0, (.t (.c (.d (encT (Tr.node k2 v3 l4 r5)))))), (1, (sc (.string f))), (2, (sc (.string g))), (3, (sc (.int .i64 most))), (4, (.t (.c (.own 5000)))), (10, (sc (.slice none 0 0))), (11, (sc (.bool true))), (63, (sc (.bool (decide ((List.length out : Int) < most)))))], [(5000, (.arr 81 2 32 (List.map encPair out)))], [5000]⟩ [⟨(Go.Op.binOp Go.BinOp.geq 9 (Go.Operand.tmp 52) (Go.Operand.tmp 53) 9), 4, [(sc (.string k2)), (sc (.string f))], [], (sc (.bool true)), []⟩, ⟨(Go.Op.call (Go.Call.mk (Go.Callee.builtin Go.Builtin.len) #[(Go.Operand.tmp 59)] #[78])), 3, [(.t (.c (.own 5000)))], [(5000, (.arr 81 2 32 (List.map encPair out)))], (sc (.int .i64 (List.length out : Int))), [(5000, (.arr 81 2 32 (List.map encPair out)))]⟩] mixed (by kernel_rfl) ⟨tri_as tri_str_geq (by rw [hb20]; rfl), tri_len_mapO tab_ok rfl, trivial⟩ ?_
            refine peel_seq ?_
            refine awp_cond (b := (decide ((List.length out : Int) < most))) rfl (fun hc21 => ?_) (fun hc21 => ?_)
            · skip
              have hc21p := of_decide_eq_true hc21
              refine awp_region_keep tab_ok boxes [(5, ⟨[], (.t (.c (.d (.sl (List.map encPair ([(Tr.APair.mk k2 v3)])))))), some []⟩), (6, ⟨[5000], (.t (.c (.own 70))), some [(70, (.arr 81 2 32 (List.map encPair (out ++ [(Tr.APair.mk k2 v3)]))))]⟩)] [0, 1, 2, 3, 4, 10, 11] [70] ⟨82, [(0, (.t (.c (.d (encT (Tr.node k2 v3 l4 r5)))))), (1, (sc (.string f))), (2, (sc (.string g))), (3, (sc (.int .i64 most))), (4, (.t (.c (.own 70)))), (10, (sc (.slice none 0 0))), (11, (sc (.bool true)))], [(70, (.arr 81 2 32 (List.map encPair (out ++ [(Tr.APair.mk k2 v3)]))))], [5000]⟩ [⟨(Go.Op.buildSlice 78 1 #[(0, (Go.Operand.tmp 68))]), 78, [(.t (.agg [(.d (.v (.string k2))), (.d (.v (.string v3)))]))], [], (.t (.c (.d (.sl (List.map encPair ([(Tr.APair.mk k2 v3)])))))), []⟩, ⟨(Go.Op.call (Go.Call.mk (Go.Callee.builtin Go.Builtin.append) #[(Go.Operand.tmp 64), (Go.Operand.tmp 69)] #[78, 78])), 78, [(.t (.c (.own 5000))), (.t (.c (.d (.sl (List.map encPair ([(Tr.APair.mk k2 v3)]))))))], [(5000, (.arr 81 2 32 (List.map encPair out)))], (.t (.c (.own 70))), [(70, (.arr 81 2 32 (List.map encPair (out ++ [(Tr.APair.mk k2 v3)]))))]⟩] mixed (by kernel_rfl) ⟨tri_slice_data (e := 81) (sz := 2) (bytes := 32) tab_ok (by kernel_rfl) rfl, tri_to (tri_append_sl (ex := 81) (bytes := 32) tab_ok rfl rfl rfl (all_map fun _ => rfl) (by (try simp only [Tr.size, List.length_map, List.length_append, List.length_cons, List.length_nil] at *); omega)) (by simp [encPair]), trivial⟩ ?_
              refine peel_seq ?_
              refine awp_seq ?_
              refine awp_seq ?_
              refine awp_region_keep tab_ok boxes [] [0, 1, 2, 3, 4, 10, 71] [70] ⟨82, [(0, (.t (.c (.d (encT (Tr.node k2 v3 l4 r5)))))), (1, (sc (.string f))), (2, (sc (.string g))), (3, (sc (.int .i64 most))), (4, (.t (.c (.own 70)))), (10, (sc (.slice none 0 0))), (71, (sc (.bool true)))], [(70, (.arr 81 2 32 (List.map encPair (out ++ [(Tr.APair.mk k2 v3)]))))], [5000]⟩ [] mixed (by kernel_rfl) trivial ?_
              refine peel_seq ?_
              refine awp_true rfl ?_
              refine awp_region_keep tab_ok boxes [(8, ⟨[70], (.t (.c (.own 80))), some [(80, (.arr 81 2 32 (List.map encPair (Tr.scan r5 f g most (out ++ [(Tr.APair.mk k2 v3)])))))]⟩)] [4, 10] [80] ⟨82, [(4, (.t (.c (.own 80)))), (10, (sc (.slice none 0 0)))], [(80, (.arr 81 2 32 (List.map encPair (Tr.scan r5 f g most (out ++ [(Tr.APair.mk k2 v3)])))))], [5000]⟩ [⟨(Go.Op.call (Go.Call.mk (Go.Callee.value (Go.Operand.func 69)) #[(Go.Operand.tmp 75), (Go.Operand.tmp 76), (Go.Operand.tmp 77), (Go.Operand.tmp 78), (Go.Operand.tmp 79)] #[98, 9, 9, 3, 78])), 78, [(sc (.func (.func 69) #[] #[])), (.t (.c (.d (encT r5)))), (sc (.string f)), (sc (.string g)), (sc (.int .i64 most)), (.t (.c (.own 70)))], [(70, (.arr 81 2 32 (List.map encPair (out ++ [(Tr.APair.mk k2 v3)]))))], (.t (.c (.own 80))), [(80, (.arr 81 2 32 (List.map encPair (Tr.scan r5 f g most (out ++ [(Tr.APair.mk k2 v3)])))))]⟩] mixed (by kernel_rfl) ⟨tri_call (Sat.sw 5001 80 (Sat.sw 5000 70 (s_scan r5 f g most (out ++ [(Tr.APair.mk k2 v3)]) (by (try simp only [Tr.size, List.length_append, List.length_cons, List.length_nil] at *); omega)))), trivial⟩ ?_
              refine peel_seq ?_
              refine awp_seq ?_
              refine awp_region_keep tab_ok boxes [] [10] [80] ⟨82, [(10, (.t (.c (.own 80))))], [(80, (.arr 81 2 32 (List.map encPair (Tr.scan r5 f g most (out ++ [(Tr.APair.mk k2 v3)])))))], [5000]⟩ [] mixed (by kernel_rfl) trivial ?_
              refine peel_seq ?_
              refine awp_mv [.sw 80 5001] ⟨82, [(10, (.t (.c (.own 5001))))], [(5001, (.arr 81 2 32 (List.map encPair (Tr.scan r5 f g most (out ++ [(Tr.APair.mk k2 v3)])))))], [5000]⟩ rfl ?_
              refine awp_ret ?_
              exact ends_ret rfl rfl (show some ([(5001, (.arr 81 2 32 (List.map encPair (Tr.scan r5 f g most (out ++ [(Tr.APair.mk k2 v3)])))))] : Objs) = some ([(5001, (.arr 81 2 32 (List.map encPair (Tr.scan (Tr.node k2 v3 l4 r5) f g most out))))] : Objs) from by first | rfl | (simp only [Tr.scan, hb15, hb20, hc21, hc6, hc7, cond_true, cond_false, Bool.not_true, Bool.not_false]))
            · skip
              have hc21p := of_decide_eq_false hc21
              refine awp_skip ?_
              refine peel_seq ?_
              refine awp_seq ?_
              refine awp_seq ?_
              refine awp_region_keep tab_ok boxes [] [0, 1, 2, 3, 4, 10, 71] [5000] ⟨82, [(0, (.t (.c (.d (encT (Tr.node k2 v3 l4 r5)))))), (1, (sc (.string f))), (2, (sc (.string g))), (3, (sc (.int .i64 most))), (4, (.t (.c (.own 5000)))), (10, (sc (.slice none 0 0))), (71, (sc (.bool true)))], [(5000, (.arr 81 2 32 (List.map encPair out)))], [5000]⟩ [] mixed (by kernel_rfl) trivial ?_
              refine peel_seq ?_
              refine awp_true rfl ?_
              refine awp_region_keep tab_ok boxes [(8, ⟨[5000], (.t (.c (.own 80))), some [(80, (.arr 81 2 32 (List.map encPair (Tr.scan r5 f g most out))))]⟩)] [4, 10] [80] ⟨82, [(4, (.t (.c (.own 80)))), (10, (sc (.slice none 0 0)))], [(80, (.arr 81 2 32 (List.map encPair (Tr.scan r5 f g most out))))], [5000]⟩ [⟨(Go.Op.call (Go.Call.mk (Go.Callee.value (Go.Operand.func 69)) #[(Go.Operand.tmp 75), (Go.Operand.tmp 76), (Go.Operand.tmp 77), (Go.Operand.tmp 78), (Go.Operand.tmp 79)] #[98, 9, 9, 3, 78])), 78, [(sc (.func (.func 69) #[] #[])), (.t (.c (.d (encT r5)))), (sc (.string f)), (sc (.string g)), (sc (.int .i64 most)), (.t (.c (.own 5000)))], [(5000, (.arr 81 2 32 (List.map encPair out)))], (.t (.c (.own 80))), [(80, (.arr 81 2 32 (List.map encPair (Tr.scan r5 f g most out))))]⟩] mixed (by kernel_rfl) ⟨tri_call (Sat.sw 5001 80 (s_scan r5 f g most out (by (try simp only [Tr.size, List.length_append, List.length_cons, List.length_nil] at *); omega))), trivial⟩ ?_
              refine peel_seq ?_
              refine awp_seq ?_
              refine awp_region_keep tab_ok boxes [] [10] [80] ⟨82, [(10, (.t (.c (.own 80))))], [(80, (.arr 81 2 32 (List.map encPair (Tr.scan r5 f g most out))))], [5000]⟩ [] mixed (by kernel_rfl) trivial ?_
              refine peel_seq ?_
              refine awp_mv [.sw 80 5001] ⟨82, [(10, (.t (.c (.own 5001))))], [(5001, (.arr 81 2 32 (List.map encPair (Tr.scan r5 f g most out))))], [5000]⟩ rfl ?_
              refine awp_ret ?_
              exact ends_ret rfl rfl (show some ([(5001, (.arr 81 2 32 (List.map encPair (Tr.scan r5 f g most out))))] : Objs) = some ([(5001, (.arr 81 2 32 (List.map encPair (Tr.scan (Tr.node k2 v3 l4 r5) f g most out))))] : Objs) from by first | rfl | (simp only [Tr.scan, hb15, hb20, hc21, hc6, hc7, cond_true, cond_false, Bool.not_true, Bool.not_false]))
          | true =>
            refine awp_region_keep tab_ok boxes [(6, ⟨[], (sc (.bool false)), some []⟩)] [0, 1, 2, 3, 4, 10, 11, 63] [5000] ⟨82, [(0, (.t (.c (.d (encT (Tr.node k2 v3 l4 r5)))))), (1, (sc (.string f))), (2, (sc (.string g))), (3, (sc (.int .i64 most))), (4, (.t (.c (.own 5000)))), (10, (sc (.slice none 0 0))), (11, (sc (.bool true))), (63, (sc (.bool false)))], [(5000, (.arr 81 2 32 (List.map encPair out)))], [5000]⟩ [⟨(Go.Op.binOp Go.BinOp.geq 9 (Go.Operand.tmp 52) (Go.Operand.tmp 53) 9), 4, [(sc (.string k2)), (sc (.string f))], [], (sc (.bool false)), []⟩] mixed (by kernel_rfl) ⟨tri_as tri_str_geq (by rw [hb20]; rfl), trivial⟩ ?_
            refine peel_seq ?_
            refine awp_false rfl ?_
            refine awp_skip ?_
            refine peel_seq ?_
            refine awp_seq ?_
            refine awp_seq ?_
            refine awp_region_keep tab_ok boxes [] [0, 1, 2, 3, 4, 10, 71] [5000] ⟨82, [(0, (.t (.c (.d (encT (Tr.node k2 v3 l4 r5)))))), (1, (sc (.string f))), (2, (sc (.string g))), (3, (sc (.int .i64 most))), (4, (.t (.c (.own 5000)))), (10, (sc (.slice none 0 0))), (71, (sc (.bool true)))], [(5000, (.arr 81 2 32 (List.map encPair out)))], [5000]⟩ [] mixed (by kernel_rfl) trivial ?_
            refine peel_seq ?_
            refine awp_true rfl ?_
            refine awp_region_keep tab_ok boxes [(8, ⟨[5000], (.t (.c (.own 80))), some [(80, (.arr 81 2 32 (List.map encPair (Tr.scan r5 f g most out))))]⟩)] [4, 10] [80] ⟨82, [(4, (.t (.c (.own 80)))), (10, (sc (.slice none 0 0)))], [(80, (.arr 81 2 32 (List.map encPair (Tr.scan r5 f g most out))))], [5000]⟩ [⟨(Go.Op.call (Go.Call.mk (Go.Callee.value (Go.Operand.func 69)) #[(Go.Operand.tmp 75), (Go.Operand.tmp 76), (Go.Operand.tmp 77), (Go.Operand.tmp 78), (Go.Operand.tmp 79)] #[98, 9, 9, 3, 78])), 78, [(sc (.func (.func 69) #[] #[])), (.t (.c (.d (encT r5)))), (sc (.string f)), (sc (.string g)), (sc (.int .i64 most)), (.t (.c (.own 5000)))], [(5000, (.arr 81 2 32 (List.map encPair out)))], (.t (.c (.own 80))), [(80, (.arr 81 2 32 (List.map encPair (Tr.scan r5 f g most out))))]⟩] mixed (by kernel_rfl) ⟨tri_call (Sat.sw 5001 80 (s_scan r5 f g most out (by (try simp only [Tr.size, List.length_append, List.length_cons, List.length_nil] at *); omega))), trivial⟩ ?_
            refine peel_seq ?_
            refine awp_seq ?_
            refine awp_region_keep tab_ok boxes [] [10] [80] ⟨82, [(10, (.t (.c (.own 80))))], [(80, (.arr 81 2 32 (List.map encPair (Tr.scan r5 f g most out))))], [5000]⟩ [] mixed (by kernel_rfl) trivial ?_
            refine peel_seq ?_
            refine awp_mv [.sw 80 5001] ⟨82, [(10, (.t (.c (.own 5001))))], [(5001, (.arr 81 2 32 (List.map encPair (Tr.scan r5 f g most out))))], [5000]⟩ rfl ?_
            refine awp_ret ?_
            exact ends_ret rfl rfl (show some ([(5001, (.arr 81 2 32 (List.map encPair (Tr.scan r5 f g most out))))] : Objs) = some ([(5001, (.arr 81 2 32 (List.map encPair (Tr.scan (Tr.node k2 v3 l4 r5) f g most out))))] : Objs) from by first | rfl | (simp only [Tr.scan, hb15, hb20, hc6, hc7, cond_true, cond_false, Bool.not_true, Bool.not_false]))
termination_by structural t
theorem s_TScan (t : Tr) (f g : ByteArray) (most : Int) (hs : t.size ≤ 1000000) : Sat Try.prog 43 [(.t (.c (.d (.ptr [(encT t)])))), (sc (.string f)), (sc (.string g)), (sc (.int .i64 most))] [] (.t (.c (.d (.sl (List.map encPair (Tr.scan t f g most [])))))) [] := by
  refine sat_of_body tab_ok Try.func43 rfl (by kernel_rfl) (Nat.le_of_ble_eq_true rfl) rfl fun G => ?_
  refine awp_seq ?_
  refine awp_region_keep tab_ok boxes [] [0, 1, 2, 3, 8] [] ⟨15, [(0, (.t (.c (.d (.ptr [(encT t)]))))), (1, (sc (.string f))), (2, (sc (.string g))), (3, (sc (.int .i64 most))), (8, (sc (.slice none 0 0)))], [], []⟩ [] mixed (by kernel_rfl) trivial ?_
  refine peel_seq ?_
  refine awp_seq ?_
  refine awp_region_keep tab_ok boxes [(1, ⟨[], (.t (.c (.d (encT t)))), some []⟩), (5, ⟨[], (.t (.c (.own 14))), some [(14, (.arr 81 2 32 (List.map encPair (Tr.scan t f g most ([])))))]⟩)] [8] [14] ⟨15, [(8, (.t (.c (.own 14))))], [(14, (.arr 81 2 32 (List.map encPair (Tr.scan t f g most ([])))))], []⟩ [⟨(Go.Op.call (Go.Call.mk (Go.Callee.value (Go.Operand.func 70)) #[(Go.Operand.tmp 9)] #[49])), 98, [(sc (.func (.func 70) #[] #[])), (.t (.c (.d (.ptr [(encT t)]))))], [], (.t (.c (.d (encT t)))), []⟩, ⟨(Go.Op.call (Go.Call.mk (Go.Callee.value (Go.Operand.func 69)) #[(Go.Operand.tmp 10), (Go.Operand.tmp 11), (Go.Operand.tmp 12), (Go.Operand.tmp 13), (Go.Operand.const (Go.Value.slice Option.none 0 0))] #[98, 9, 9, 3, 78])), 78, [(sc (.func (.func 69) #[] #[])), (.t (.c (.d (encT t)))), (sc (.string f)), (sc (.string g)), (sc (.int .i64 most)), (sc (.slice none 0 0))], [], (.t (.c (.own 14))), [(14, (.arr 81 2 32 (List.map encPair (Tr.scan t f g most ([])))))]⟩] mixed (by kernel_rfl) ⟨tri_call (s_top t), tri_call (Sat.sw 5001 14 (Sat.nilOwn 4 5000 81 2 32 (s_scan t f g most ([]) (by (try simp only [Tr.size, List.length_append, List.length_cons, List.length_nil] at *); omega)) [(.t (.c (.d (encT t)))), (sc (.string f)), (sc (.string g)), (sc (.int .i64 most)), (sc (.slice none 0 0))] rfl rfl rfl)), trivial⟩ ?_
  refine peel_seq ?_
  refine awp_mv [.fz 14] ⟨15, [(8, (.t (.c (.d (.sl (List.map encPair (Tr.scan t f g most ([]))))))))], [], []⟩ rfl ?_
  refine awp_ret ?_
  exact ends_ret rfl rfl rfl
theorem k_Scan (t : Tr) (f g : ByteArray) (hs : t.size ≤ 1000000) : Sat Try.prog 17 [(.t (.c (.loc 5000 0))), (sc (.string f)), (sc (.string g))] [(5000, (.cells 51 [(.d (.ptr [(encT t)]))]))] (.t (.c (.d (.sl (List.map encOp (scanM t f g)))))) [(5000, (.cells 51 [(.d (.ptr [(encT t)]))]))] := by
  refine sat_of_body tab_ok Try.func17 rfl (by kernel_rfl) (Nat.le_of_ble_eq_true rfl) rfl fun G => ?_
  refine awp_seq ?_
  refine awp_region_keep tab_ok boxes [] [0, 1, 2, 6] [5000] ⟨41, [(0, (.t (.c (.loc 5000 0)))), (1, (sc (.string f))), (2, (sc (.string g))), (6, (sc (.slice none 0 0)))], [(5000, (.cells 51 [(.d (.ptr [(encT t)]))]))], [5000]⟩ [] mixed (by kernel_rfl) trivial ?_
  refine peel_seq ?_
  refine awp_seq ?_
  refine awp_region_keep tab_ok boxes [] [0, 1, 2, 6, 7] [5000] ⟨41, [(0, (.t (.c (.loc 5000 0)))), (1, (sc (.string f))), (2, (sc (.string g))), (6, (sc (.slice none 0 0))), (7, (sc (.slice none 0 0)))], [(5000, (.cells 51 [(.d (.ptr [(encT t)]))]))], [5000]⟩ [] mixed (by kernel_rfl) trivial ?_
  refine peel_seq ?_
  refine awp_seq ?_
  refine awp_seq ?_
  refine awp_region_keep tab_ok boxes [(1, ⟨[5000], (sc (.bool true)), none⟩)] [0, 1, 2, 6, 7, 12] [5000] ⟨41, [(0, (.t (.c (.loc 5000 0)))), (1, (sc (.string f))), (2, (sc (.string g))), (6, (sc (.slice none 0 0))), (7, (sc (.slice none 0 0))), (12, (sc (.bool false)))], [(5000, (.cells 51 [(.d (.ptr [(encT t)]))]))], [5000]⟩ [⟨(Go.Op.call (Go.Call.mk (Go.Callee.value (Go.Operand.func 42)) #[(Go.Operand.tmp 10)] #[28])), 4, [(sc (.func (.func 42) #[] #[])), (.t (.c (.loc 5000 0)))], [(5000, (.cells 51 [(.d (.ptr [(encT t)]))]))], (sc (.bool true)), [(5000, (.cells 51 [(.d (.ptr [(encT t)]))]))]⟩] mixed (by kernel_rfl) ⟨tri_call (k_made t), trivial⟩ ?_
  refine peel_seq ?_
  refine awp_false rfl ?_
  refine awp_skip ?_
  refine peel_seq ?_
  refine awp_seq ?_
  refine awp_seq ?_
  refine awp_region_keep tab_ok boxes [(10, ⟨[], (sc (.int .i64 (t.size : Int))), some []⟩), (11, ⟨[], (.t (.c (.d (.sl (List.map encPair (Tr.scan t f g (t.size : Int) [])))))), some []⟩), (12, ⟨[], (sc (.int .i64 (List.length (Tr.scan t f g (t.size : Int) []) : Int))), none⟩)] [6, 7, 25, 26, 27] [5000] ⟨41, [(6, (sc (.slice none 0 0))), (7, (sc (.slice none 0 0))), (25, (.t (.c (.d (.sl (List.map encPair (Tr.scan t f g (t.size : Int) []))))))), (26, (sc (.int .i64 (List.length (Tr.scan t f g (t.size : Int) []) : Int)))), (27, (sc (.int .i64 0)))], [(5000, (.cells 51 [(.d (.ptr [(encT t)]))]))], [5000]⟩ [⟨(Go.Op.call (Go.Call.mk (Go.Callee.value (Go.Operand.func 44)) #[(Go.Operand.tmp 23)] #[49])), 3, [(sc (.func (.func 44) #[] #[])), (.t (.c (.d (.ptr [(encT t)]))))], [], (sc (.int .i64 (t.size : Int))), []⟩, ⟨(Go.Op.call (Go.Call.mk (Go.Callee.value (Go.Operand.func 43)) #[(Go.Operand.tmp 17), (Go.Operand.tmp 18), (Go.Operand.tmp 19), (Go.Operand.tmp 24)] #[49, 9, 9, 3])), 78, [(sc (.func (.func 43) #[] #[])), (.t (.c (.d (.ptr [(encT t)])))), (sc (.string f)), (sc (.string g)), (sc (.int .i64 (t.size : Int)))], [], (.t (.c (.d (.sl (List.map encPair (Tr.scan t f g (t.size : Int) [])))))), []⟩, ⟨(Go.Op.call (Go.Call.mk (Go.Callee.builtin Go.Builtin.len) #[(Go.Operand.tmp 25)] #[78])), 3, [(.t (.c (.d (.sl (List.map encPair (Tr.scan t f g (t.size : Int) []))))))], [], (sc (.int .i64 (List.length (Tr.scan t f g (t.size : Int) []) : Int))), []⟩] mixed (by kernel_rfl) ⟨tri_call (s_Len t), tri_call (s_TScan t f g (t.size : Int) (by (try simp only [big] at *); omega)), tri_len_map tab_ok rfl, trivial⟩ ?_
  refine peel_seq ?_
  refine awp_block ?_
  refine awp_mv [.own 7 1007 35 3 40] ⟨41, [(7, (.t (.c (.own 1007)))), (6, (sc (.slice none 0 0))), (25, (.t (.c (.d (.sl (List.map encPair (Tr.scan t f g (t.size : Int) []))))))), (26, (sc (.int .i64 (List.length (Tr.scan t f g (t.size : Int) []) : Int)))), (27, (sc (.int .i64 0)))], [(1007, (.arr 35 3 40 [])), (5000, (.cells 51 [(.d (.ptr [(encT t)]))]))], [5000]⟩ rfl ?_
  refine q_keep [6, 7, 25, 26, 27] [1007, 5000] ?_
  refine awp_len 25 rfl (fun hlen1 => ?_)
  refine awp_loopP (ι := Nat × (List AOp)) (fun x => ⟨41, [(6, (sc (.slice none 0 0))), (7, (.t (.c (.own 1007)))), (25, (.t (.c (.d (.sl (List.map encPair (Tr.scan t f g (t.size : Int) []))))))), (26, (sc (.int .i64 (List.length (Tr.scan t f g (t.size : Int) []) : Int)))), (27, (sc (.int .i64 (x.1 : Int))))], [(1007, (.arr 35 3 40 (List.map encOp x.2))), (5000, (.cells 51 [(.d (.ptr [(encT t)]))]))], [5000]⟩) (fun x => x.1 ≤ List.length (Tr.scan t f g (t.size : Int) []) ∧ (List.length x.2 ≤ x.1) ∧ x.2 ++ List.map opOf (List.drop x.1 (Tr.scan t f g (t.size : Int) [])) = scanM t f g) (fun x => List.length (Tr.scan t f g (t.size : Int) []) - x.1) (0, []) rfl ⟨Nat.zero_le _, by simp, rfl⟩ ?_
  rintro ⟨k2, a3⟩ ⟨hk4, hx5, hJ6⟩
  try simp only at hk4 hx5 hJ6
  refine awp_seq ?_
  refine awp_region_keep tab_ok boxes [] [6, 7, 25, 26, 27, 28] [1007, 5000] ⟨41, [(6, (sc (.slice none 0 0))), (7, (.t (.c (.own 1007)))), (25, (.t (.c (.d (.sl (List.map encPair (Tr.scan t f g (t.size : Int) []))))))), (26, (sc (.int .i64 (List.length (Tr.scan t f g (t.size : Int) []) : Int)))), (27, (sc (.int .i64 (k2 : Int)))), (28, (sc (.bool (decide ((k2 : Int) < (List.length (Tr.scan t f g (t.size : Int) []) : Int))))))], [(1007, (.arr 35 3 40 (List.map encOp a3))), (5000, (.cells 51 [(.d (.ptr [(encT t)]))]))], [5000]⟩ [] mixed (by kernel_rfl) trivial ?_
  refine peel_seq ?_
  refine awp_seq ?_
  refine awp_cond (b := (decide ((k2 : Int) < (List.length (Tr.scan t f g (t.size : Int) []) : Int)))) rfl (fun hc7 => ?_) (fun hc7 => ?_)
  · skip
    have hc7p := of_decide_eq_true hc7
    refine awp_skip ?_
    refine peel_seq ?_
    refine awp_seq ?_
    refine awp_block ?_
    refine awp_seq ?_
    obtain ⟨⟨key11, val12⟩, ha9, hd10⟩ := at_drop (l := (Tr.scan t f g (t.size : Int) [])) (k := k2) (by (try simp only [List.length_map] at *); omega)
    refine awp_region_keep tab_ok boxes [(0, ⟨[], (.t (.c (.d (.ptr [(.v (.string key11)), (.v (.string val12))])))), some []⟩)] [6, 7, 9, 25, 26, 27] [9, 1007, 5000] ⟨41, [(6, (sc (.slice none 0 0))), (7, (.t (.c (.own 1007)))), (9, (.t (.c (.loc 9 0)))), (25, (.t (.c (.d (.sl (List.map encPair (Tr.scan t f g (t.size : Int) []))))))), (26, (sc (.int .i64 (List.length (Tr.scan t f g (t.size : Int) []) : Int)))), (27, (sc (.int .i64 (k2 : Int))))], [(9, (.cells 81 [(.d (.v (.string key11))), (.d (.v (.string val12)))])), (1007, (.arr 35 3 40 (List.map encOp a3))), (5000, (.cells 51 [(.d (.ptr [(encT t)]))]))], [5000]⟩ [⟨(Go.Op.indexAddr 78 (Go.Operand.tmp 25) (Go.Operand.tmp 27)), 0, [(.t (.c (.d (.sl (List.map encPair (Tr.scan t f g (t.size : Int) [])))))), (sc (.int .i64 (k2 : Int)))], [], (.t (.c (.d (.ptr [(.v (.string key11)), (.v (.string val12))])))), []⟩] mixed (by kernel_rfl) ⟨tri_index_sl (e := 81) (sz := 2) (bytes := 32) (i := k2) tab_ok rfl (at_map encPair ha9) (all_map fun _ => rfl), trivial⟩ ?_
    refine peel_seq ?_
    refine awp_then [.sw 38 1007] ?_
    refine awp_region_keep tab_ok boxes [(6, ⟨[], (.t (.c (.d (.sl (List.map encOp ([(AOp.mk key11 true val12)])))))), some []⟩), (7, ⟨[1007], (.t (.c (.own 38))), some [(38, (.arr 35 3 40 (List.map encOp (a3 ++ [(AOp.mk key11 true val12)]))))]⟩)] [6, 7, 25, 26, 27] [38, 5000] ⟨41, [(6, (sc (.slice none 0 0))), (7, (.t (.c (.own 38)))), (25, (.t (.c (.d (.sl (List.map encPair (Tr.scan t f g (t.size : Int) []))))))), (26, (sc (.int .i64 (List.length (Tr.scan t f g (t.size : Int) []) : Int)))), (27, (sc (.int .i64 (k2 : Int))))], [(38, (.arr 35 3 40 (List.map encOp (a3 ++ [(AOp.mk key11 true val12)])))), (5000, (.cells 51 [(.d (.ptr [(encT t)]))]))], [5000]⟩ [⟨(Go.Op.buildSlice 23 1 #[(0, (Go.Operand.tmp 36))]), 23, [(.t (.agg [(.d (.v (.string key11))), (.d (.v (.bool true))), (.d (.v (.string val12)))]))], [], (.t (.c (.d (.sl (List.map encOp ([(AOp.mk key11 true val12)])))))), []⟩, ⟨(Go.Op.call (Go.Call.mk (Go.Callee.builtin Go.Builtin.append) #[(Go.Operand.tmp 31), (Go.Operand.tmp 37)] #[23, 23])), 23, [(.t (.c (.own 1007))), (.t (.c (.d (.sl (List.map encOp ([(AOp.mk key11 true val12)]))))))], [(1007, (.arr 35 3 40 (List.map encOp a3)))], (.t (.c (.own 38))), [(38, (.arr 35 3 40 (List.map encOp (a3 ++ [(AOp.mk key11 true val12)]))))]⟩] mixed (by kernel_rfl) ⟨tri_slice_data (e := 35) (sz := 3) (bytes := 40) tab_ok (by kernel_rfl) rfl, tri_to (tri_append_sl (ex := 35) (bytes := 40) tab_ok rfl rfl rfl (all_map fun _ => rfl) (by have := Tr.scan_len t f g (t.size : Int) []; (try simp only [List.length_map, List.length_append, List.length_cons, List.length_nil] at *); omega)) (by simp [encOp]), trivial⟩ ?_
    refine then_mv ⟨41, [(6, (sc (.slice none 0 0))), (7, (.t (.c (.own 1007)))), (25, (.t (.c (.d (.sl (List.map encPair (Tr.scan t f g (t.size : Int) []))))))), (26, (sc (.int .i64 (List.length (Tr.scan t f g (t.size : Int) []) : Int)))), (27, (sc (.int .i64 (k2 : Int))))], [(1007, (.arr 35 3 40 (List.map encOp (a3 ++ [(AOp.mk key11 true val12)])))), (5000, (.cells 51 [(.d (.ptr [(encT t)]))]))], [5000]⟩ rfl ?_
    refine peel_block ?_
    refine peel_seq ?_
    refine awp_region_keep tab_ok boxes [(0, ⟨[], (sc (.int .i64 ((k2 : Int) + 1))), some []⟩)] [6, 7, 25, 26, 27] [1007, 5000] ⟨41, [(6, (sc (.slice none 0 0))), (7, (.t (.c (.own 1007)))), (25, (.t (.c (.d (.sl (List.map encPair (Tr.scan t f g (t.size : Int) []))))))), (26, (sc (.int .i64 (List.length (Tr.scan t f g (t.size : Int) []) : Int)))), (27, (sc (.int .i64 ((k2 : Int) + 1))))], [(1007, (.arr 35 3 40 (List.map encOp (a3 ++ [(AOp.mk key11 true val12)])))), (5000, (.cells 51 [(.d (.ptr [(encT t)]))]))], [5000]⟩ [⟨(Go.Op.binOp Go.BinOp.add 3 (Go.Operand.tmp 27) (Go.Operand.const (Go.Value.int Go.IntKind.i64 1)) 3), 3, [(sc (.int .i64 (k2 : Int))), (sc (.int .i64 1))], [], (sc (.int .i64 ((k2 : Int) + 1))), []⟩] mixed (by kernel_rfl) ⟨tri_int ((k2 : Int) + 1) (wrap_i64 (by omega)), trivial⟩ ?_
    exact peel_round (k2 + 1, (a3 ++ [(AOp.mk key11 true val12)])) rfl ⟨by (try simp only [List.length_map] at *); omega, by (try simp only [List.length_append, List.length_cons, List.length_nil]); omega, by have hj := hJ6; rw [hd10] at hj; rw [← hj]; simp [opOf]⟩ (by (try simp only [List.length_map] at *); omega)
  · skip
    have hc7p := of_decide_eq_false hc7
    have hE13 := hJ6
    rw [at_end (l := (Tr.scan t f g (t.size : Int) [])) (by (try simp only [List.length_map] at *); omega)] at hE13
    simp only [List.map_cons, List.map_nil, opOf, List.append_nil, hc7, cond_true, cond_false, Bool.not_true, Bool.not_false] at hE13
    refine awp_exit ?_
    refine peel_seq_exit ?_
    refine peel_seq_exit ?_
    refine peel_hit ?_
    refine peel_seq ?_
    refine awp_seq ?_
    refine awp_region_keep tab_ok boxes [] [6] [1007, 5000] ⟨41, [(6, (.t (.c (.own 1007))))], [(1007, (.arr 35 3 40 (List.map encOp a3))), (5000, (.cells 51 [(.d (.ptr [(encT t)]))]))], [5000]⟩ [] mixed (by kernel_rfl) trivial ?_
    refine peel_seq ?_
    refine awp_mv [.fz 1007] ⟨41, [(6, (.t (.c (.d (.sl (List.map encOp a3))))))], [(5000, (.cells 51 [(.d (.ptr [(encT t)]))]))], [5000]⟩ rfl ?_
    refine awp_ret ?_
    exact ends_ret rfl (show some ((.t (.c (.d (.sl (List.map encOp a3))))) : SV) = some ((.t (.c (.d (.sl (List.map encOp (scanM t f g)))))) : SV) from by first | rfl | (simp only [List.append_nil, hc7, ← hE13, cond_true, cond_false, Bool.not_true, Bool.not_false, List.map_nil])) rfl
theorem k_Scan_nil (f g : ByteArray) : Sat Try.prog 17 [(sc (.pointer none)), (sc (.string f)), (sc (.string g))] [] (.t (.c (.d (.sl [])))) [] := by
  refine sat_of_body tab_ok Try.func17 rfl (by kernel_rfl) (Nat.le_of_ble_eq_true rfl) rfl fun G => ?_
  refine awp_seq ?_
  refine awp_region_keep tab_ok boxes [] [0, 1, 2, 6] [] ⟨41, [(0, (sc (.pointer none))), (1, (sc (.string f))), (2, (sc (.string g))), (6, (sc (.slice none 0 0)))], [], []⟩ [] mixed (by kernel_rfl) trivial ?_
  refine peel_seq ?_
  refine awp_seq ?_
  refine awp_region_keep tab_ok boxes [] [0, 1, 2, 6, 7] [] ⟨41, [(0, (sc (.pointer none))), (1, (sc (.string f))), (2, (sc (.string g))), (6, (sc (.slice none 0 0))), (7, (sc (.slice none 0 0)))], [], []⟩ [] mixed (by kernel_rfl) trivial ?_
  refine peel_seq ?_
  refine awp_seq ?_
  refine awp_seq ?_
  refine awp_region_keep tab_ok boxes [(1, ⟨[], (sc (.bool false)), some []⟩)] [0, 1, 2, 6, 7, 12] [] ⟨41, [(0, (sc (.pointer none))), (1, (sc (.string f))), (2, (sc (.string g))), (6, (sc (.slice none 0 0))), (7, (sc (.slice none 0 0))), (12, (sc (.bool true)))], [], []⟩ [⟨(Go.Op.call (Go.Call.mk (Go.Callee.value (Go.Operand.func 42)) #[(Go.Operand.tmp 10)] #[28])), 4, [(sc (.func (.func 42) #[] #[])), (sc (.pointer none))], [], (sc (.bool false)), []⟩] mixed (by kernel_rfl) ⟨tri_call (k_made_nil), trivial⟩ ?_
  refine peel_seq ?_
  refine awp_true rfl ?_
  refine awp_seq ?_
  refine awp_region_keep tab_ok boxes [] [0, 1, 2, 6, 7] [] ⟨41, [(0, (sc (.pointer none))), (1, (sc (.string f))), (2, (sc (.string g))), (6, (sc (.slice none 0 0))), (7, (sc (.slice none 0 0)))], [], []⟩ [] mixed (by kernel_rfl) trivial ?_
  refine peel_seq ?_
  refine awp_mv [.own 6 906 0 0 0, .fz 906] ⟨41, [(6, (.t (.c (.d (.sl []))))), (0, (sc (.pointer none))), (1, (sc (.string f))), (2, (sc (.string g))), (7, (sc (.slice none 0 0)))], [], []⟩ rfl ?_
  refine awp_ret ?_
  refine peel_seq_ret ?_
  exact ends_ret rfl rfl rfl
theorem k_Scan_zero (f g : ByteArray) : Sat Try.prog 17 [(.t (.c (.d (.ptr [(.v (.pointer none))])))), (sc (.string f)), (sc (.string g))] [] (.t (.c (.d (.sl [])))) [] := by
  refine sat_of_body tab_ok Try.func17 rfl (by kernel_rfl) (Nat.le_of_ble_eq_true rfl) rfl fun G => ?_
  refine awp_seq ?_
  refine awp_region_keep tab_ok boxes [] [0, 1, 2, 6] [] ⟨41, [(0, (.t (.c (.d (.ptr [(.v (.pointer none))]))))), (1, (sc (.string f))), (2, (sc (.string g))), (6, (sc (.slice none 0 0)))], [], []⟩ [] mixed (by kernel_rfl) trivial ?_
  refine peel_seq ?_
  refine awp_seq ?_
  refine awp_region_keep tab_ok boxes [] [0, 1, 2, 6, 7] [] ⟨41, [(0, (.t (.c (.d (.ptr [(.v (.pointer none))]))))), (1, (sc (.string f))), (2, (sc (.string g))), (6, (sc (.slice none 0 0))), (7, (sc (.slice none 0 0)))], [], []⟩ [] mixed (by kernel_rfl) trivial ?_
  refine peel_seq ?_
  refine awp_seq ?_
  refine awp_seq ?_
  refine awp_region_keep tab_ok boxes [(1, ⟨[], (sc (.bool false)), some []⟩)] [0, 1, 2, 6, 7, 12] [] ⟨41, [(0, (.t (.c (.d (.ptr [(.v (.pointer none))]))))), (1, (sc (.string f))), (2, (sc (.string g))), (6, (sc (.slice none 0 0))), (7, (sc (.slice none 0 0))), (12, (sc (.bool true)))], [], []⟩ [⟨(Go.Op.call (Go.Call.mk (Go.Callee.value (Go.Operand.func 42)) #[(Go.Operand.tmp 10)] #[28])), 4, [(sc (.func (.func 42) #[] #[])), (.t (.c (.d (.ptr [(.v (.pointer none))]))))], [], (sc (.bool false)), []⟩] mixed (by kernel_rfl) ⟨tri_call (k_made_zero), trivial⟩ ?_
  refine peel_seq ?_
  refine awp_true rfl ?_
  refine awp_seq ?_
  refine awp_region_keep tab_ok boxes [] [0, 1, 2, 6, 7] [] ⟨41, [(0, (.t (.c (.d (.ptr [(.v (.pointer none))]))))), (1, (sc (.string f))), (2, (sc (.string g))), (6, (sc (.slice none 0 0))), (7, (sc (.slice none 0 0)))], [], []⟩ [] mixed (by kernel_rfl) trivial ?_
  refine peel_seq ?_
  refine awp_mv [.own 6 906 0 0 0, .fz 906] ⟨41, [(6, (.t (.c (.d (.sl []))))), (0, (.t (.c (.d (.ptr [(.v (.pointer none))]))))), (1, (sc (.string f))), (2, (sc (.string g))), (7, (sc (.slice none 0 0)))], [], []⟩ rfl ?_
  refine awp_ret ?_
  refine peel_seq_ret ?_
  exact ends_ret rfl rfl rfl
end Go.Proofs.Ytjbiaoajmdbigaa
