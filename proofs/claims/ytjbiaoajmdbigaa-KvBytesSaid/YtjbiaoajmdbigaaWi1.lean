/- Walks of packages wire and tidemarkref01: what is put. -/
import Derived.Test.YtjbiaoajmdbigaaRfA
import Derived.Test.YtjbiaoajmdbigaaWi
set_option maxRecDepth 100000
set_option linter.unusedVariables false
set_option linter.unusedSimpArgs false
namespace Go.Proofs.Ytjbiaoajmdbigaa
open Go Go.E
theorem w_Number (b : List Int) (n : Int) (hb : b.length ≤ 1000000000) (hn : n ≤ 9223372036854775807) : Sat Try.prog 54 [(vD (List.map encB b)), (vI n)] [] (vO 5001) [(5001, (.arr 5 1 1 (List.map encB (b ++ numB n))))] := by
 refine sat_of_body tab_ok Try.func54 rfl (by kernel_rfl) (Nat.le_of_ble_eq_true rfl) rfl fun G => ?_
 refine awp_seq ?_
 refine rk boxes [] [0, 1, 4] [] ⟨48, [(0, (vD (List.map encB b))), (1, (vI n)), (4, (sc (.slice none 0 0)))], [], []⟩ (by kernel_rfl) .n ?_
 refine peel_seq ?_
 refine awp_seq ?_
 refine rk boxes [⟨1, false, [(vI n), (vI 0)], [], (vI (max n 0)), []⟩] [0, 1, 4] [] ⟨48, [(0, (vD (List.map encB b))), (1, (vI (max n 0))), (4, (sc (.slice none 0 0)))], [], []⟩ (by kernel_rfl) (.c (tri_max) .n) ?_
 refine peel_seq ?_
 refine awp_seq ?_
 refine rk boxes [] [0, 1, 4, 5] [] ⟨48, [(0, (vD (List.map encB b))), (1, (vI (max n 0))), (4, (sc (.slice none 0 0))), (5, (vI 0))], [], []⟩ (by kernel_rfl) .n ?_
 refine peel_seq ?_
 refine awp_seq ?_
 refine awp_block ?_
 refine awp_loopP (ι := (Nat)) (fun x => ⟨48, [(0, (vD (List.map encB b))), (1, (vI (max n 0))), (4, (sc (.slice none 0 0))), (5, (vI (x : Int)))], [], []⟩) (fun x => x ≤ (be (max n 0).toNat).length) (fun x => (be (max n 0).toNat).length - x) (0) rfl (Nat.zero_le _) ?_
 rintro k1 hJ2
 try simp only at hJ2
 refine awp_seq ?_
 refine awp_seq ?_
 cases hb3 : (decide ((k1 : Int) < 8)) with
 | false =>
  have hb3p := of_decide_eq_false hb3
  refine rk boxes [⟨1, false, [(vI (k1 : Int)), (vI 8)], [], (vB false), []⟩] [0, 1, 4, 5, 18] [] ⟨48, [(0, (vD (List.map encB b))), (1, (vI (max n 0))), (4, (sc (.slice none 0 0))), (5, (vI (k1 : Int))), (18, (vB false))], [], []⟩ (by kernel_rfl) (.c (tri_scalar_eq [(.int .i64 (k1 : Int)), (.int .i64 8)] (.bool (decide ((k1 : Int) < 8))) rfl rfl rfl (by kernel_rfl) (congrArg Value.bool hb3)) .n) ?_
  refine peel_seq ?_
  refine awp_false rfl ?_
  have hKL := num_len n hn hJ2 (by first | exact Or.inl (by assumption) | exact Or.inr (by assumption))
  refine awp_exit ?_
  refine peel_seq_exit ?_
  refine peel_seq_exit ?_
  refine peel_hit ?_
  refine peel_seq ?_
  refine awp_seq ?_
  refine rk boxes [⟨1, true, [(vD (List.map encB b))], [], (vI (List.length b : Int)), []⟩, ⟨3, false, [(vI (List.length b : Int)), (vI (k1 : Int))], [], (vI ((List.length b : Int) + (k1 : Int))), []⟩, ⟨4, false, [(vI ((List.length b : Int) + (k1 : Int))), (vI 1)], [], (vI (((List.length b : Int) + (k1 : Int)) + 1)), []⟩, ⟨5, false, [(vI 0), (vI (((List.length b : Int) + (k1 : Int)) + 1))], [], (vO 26), [(26, (.arr 5 1 1 []))]⟩, ⟨7, false, [(vO 26), (vD (List.map encB b))], [(26, (.arr 5 1 1 []))], (vO 28), [(28, (.arr 5 1 1 (List.map encB b)))]⟩, ⟨10, false, [(sc (.int .u8 (IntKind.wrap .u8 (k1 : Int))))], [], (vD (List.map encB ([(IntKind.wrap .u8 (k1 : Int))]))), []⟩, ⟨11, false, [(vO 28), (vD (List.map encB ([(IntKind.wrap .u8 (k1 : Int))])))], [(28, (.arr 5 1 1 (List.map encB b)))], (vO 32), [(32, (.arr 5 1 1 (List.map encB (b ++ [(IntKind.wrap .u8 (k1 : Int))]))))]⟩] [1, 4, 5, 6] [32] ⟨48, [(1, (vI (max n 0))), (4, (sc (.slice none 0 0))), (5, (vI (k1 : Int))), (6, (vO 32))], [(32, (.arr 5 1 1 (List.map encB (b ++ [(IntKind.wrap .u8 (k1 : Int))]))))], []⟩ (by kernel_rfl) (.c (tri_len_map tab_ok rfl) (.c (tri_int ((List.length b : Int) + (k1 : Int)) (wrap_i64 (by omega))) (.c (tri_int (((List.length b : Int) + (k1 : Int)) + 1) (wrap_i64 (by omega))) (.c (tri_make_own (c := ((List.length b) + k1) + 1) tab_ok rfl (by omega)) (.c (tri_to (tri_append_sl (ex := 5) (bytes := 1) tab_ok rfl rfl rfl (all_map fun _ => rfl) (by (try simp only [List.length_map, List.length_append, List.length_cons, List.length_nil] at *); omega)) (by simp [encB])) (.c (tri_slice_data (e := 5) (sz := 1) (bytes := 1) tab_ok (by kernel_rfl) rfl) (.c (tri_to (tri_append_sl (ex := 5) (bytes := 1) tab_ok rfl rfl rfl (all_map fun _ => rfl) (by (try simp only [List.length_map, List.length_append, List.length_cons, List.length_nil] at *); omega)) (by simp [encB])) .n))))))) ?_
  refine peel_seq ?_
  refine awp_seq ?_
  refine awp_seq ?_
  refine rk boxes [⟨1, false, [(vI (k1 : Int)), (vI 1)], [], (vI ((k1 : Int) - 1)), []⟩] [1, 4, 6, 7] [32] ⟨48, [(1, (vI (max n 0))), (4, (sc (.slice none 0 0))), (6, (vO 32)), (7, (vI ((k1 : Int) - 1)))], [(32, (.arr 5 1 1 (List.map encB (b ++ [(IntKind.wrap .u8 (k1 : Int))]))))], []⟩ (by kernel_rfl) (.c (tri_int ((k1 : Int) - 1) (wrap_i64 (by omega))) .n) ?_
  refine peel_seq ?_
  refine awp_block ?_
  refine awp_loopP (ι := (Int) × (List Int)) (fun x => ⟨48, [(1, (vI (max n 0))), (4, (sc (.slice none 0 0))), (6, (vO 32)), (7, (vI x.1))], [(32, (.arr 5 1 1 (List.map encB x.2)))], []⟩) (fun x => (-1 ≤ x.1 ∧ x.1 + 1 ≤ k1) ∧ (List.length x.2 : Int) + (x.1 + 1) = List.length b + 1 + k1 ∧ x.2 ++ (be (max n 0).toNat).drop ((be (max n 0).toNat).length - (x.1 + 1).toNat) = (b ++ [IntKind.wrap .u8 (k1 : Int)]) ++ be (max n 0).toNat) (fun x => (x.1 + 1).toNat) (((k1 : Int) - 1), (b ++ [(IntKind.wrap .u8 (k1 : Int))])) rfl (by (have hK1 := hKL.1); (have eM : (max n 0).toNat = n.toNat := by omega); refine ⟨⟨by (try simp only); omega, by (try simp only); omega⟩, ?_, ?_⟩ <;> simp only [List.length_append, List.length_cons, List.length_nil, eM] <;> first | omega | (rw [show (be n.toNat).length - ((k1 : Int) - 1 + 1).toNat = 0 by omega]; rfl)) ?_
  rintro ⟨z4, o5⟩ hJ6
  try simp only at hJ6
  refine awp_seq ?_
  refine awp_seq ?_
  refine rk boxes [] [1, 4, 6, 7, 36] [32] ⟨48, [(1, (vI (max n 0))), (4, (sc (.slice none 0 0))), (6, (vO 32)), (7, (vI z4)), (36, (vB (decide (z4 ≥ 0))))], [(32, (.arr 5 1 1 (List.map encB o5)))], []⟩ (by kernel_rfl) .n ?_
  refine peel_seq ?_
  refine awp_cond (b := (decide (z4 ≥ 0))) rfl (fun hc7 => ?_) (fun hc7 => ?_)
  ·skip
   have hc7p := of_decide_eq_true hc7
   refine awp_skip ?_
   refine peel_seq ?_
   refine awp_seq ?_
   refine awp_block ?_
   refine awp_then [.sw 46 32] ?_
   refine rk boxes [⟨3, false, [(vI 8), (vI z4)], [], (vI (8 * z4)), []⟩, ⟨4, false, [(vI (max n 0)), (vI (8 * z4))], [], (vI (hiB (max n 0) (Int.toNat z4))), []⟩, ⟨6, false, [(sc (.int .u8 (IntKind.wrap .u8 (hiB (max n 0) (Int.toNat z4)))))], [], (vD (List.map encB ([(IntKind.wrap .u8 (hiB (max n 0) (Int.toNat z4)))]))), []⟩, ⟨7, false, [(vO 32), (vD (List.map encB ([(IntKind.wrap .u8 (hiB (max n 0) (Int.toNat z4)))])))], [(32, (.arr 5 1 1 (List.map encB o5)))], (vO 46), [(46, (.arr 5 1 1 (List.map encB (o5 ++ [(IntKind.wrap .u8 (hiB (max n 0) (Int.toNat z4)))]))))]⟩] [1, 4, 6, 7] [46] ⟨48, [(1, (vI (max n 0))), (4, (sc (.slice none 0 0))), (6, (vO 46)), (7, (vI z4))], [(46, (.arr 5 1 1 (List.map encB (o5 ++ [(IntKind.wrap .u8 (hiB (max n 0) (Int.toNat z4)))]))))], []⟩ (by kernel_rfl) (.c (tri_int (8 * z4) (wrap_i64 (by omega))) (.c (tri_shr (hiB (max n 0) (Int.toNat z4)) (by omega) (hiB_eq (by omega) (by omega) _ (by omega))) (.c (tri_slice_data (e := 5) (sz := 1) (bytes := 1) tab_ok (by kernel_rfl) rfl) (.c (tri_to (tri_append_sl (ex := 5) (bytes := 1) tab_ok rfl rfl rfl (all_map fun _ => rfl) (by (try simp only [List.length_map, List.length_append, List.length_cons, List.length_nil] at *); omega)) (by simp [encB])) .n)))) ?_
   refine then_mv ⟨48, [(1, (vI (max n 0))), (4, (sc (.slice none 0 0))), (6, (vO 32)), (7, (vI z4))], [(32, (.arr 5 1 1 (List.map encB (o5 ++ [(IntKind.wrap .u8 (hiB (max n 0) (Int.toNat z4)))]))))], []⟩ rfl ?_
   refine peel_block ?_
   refine peel_seq ?_
   refine rk boxes [⟨1, false, [(vI z4), (vI 1)], [], (vI (z4 - 1)), []⟩] [1, 4, 6, 7] [32] ⟨48, [(1, (vI (max n 0))), (4, (sc (.slice none 0 0))), (6, (vO 32)), (7, (vI (z4 - 1)))], [(32, (.arr 5 1 1 (List.map encB (o5 ++ [(IntKind.wrap .u8 (hiB (max n 0) (Int.toNat z4)))]))))], []⟩ (by kernel_rfl) (.c (tri_int (z4 - 1) (wrap_i64 (by omega))) .n) ?_
   exact peel_round ((z4 - 1), (o5 ++ [(IntKind.wrap .u8 (hiB (max n 0) (Int.toNat z4)))])) rfl ((by (have eM : (max n 0).toNat = n.toNat := by omega); (have hK1 := hKL.1); refine ⟨⟨by (try simp only); omega, by (try simp only); omega⟩, by simp only [List.length_append, List.length_cons, List.length_nil]; omega, num_step (by omega) (by rw [eM]; omega) hJ6.2.2⟩)) (by simp only; omega)
  ·skip
   have hc7p := of_decide_eq_false hc7
   refine awp_exit ?_
   refine peel_seq_exit ?_
   refine peel_seq_exit ?_
   refine peel_hit ?_
   refine peel_seq ?_
   refine awp_seq ?_
   refine rk boxes [] [4] [32] ⟨48, [(4, (vO 32))], [(32, (.arr 5 1 1 (List.map encB o5)))], []⟩ (by kernel_rfl) .n ?_
   refine peel_seq ?_
   refine awp_mv [.sw 32 5001] ⟨48, [(4, (vO 5001))], [(5001, (.arr 5 1 1 (List.map encB o5)))], []⟩ rfl ?_
   refine awp_ret ?_
   exact ends_ret rfl rfl (show some ([(5001, (.arr 5 1 1 (List.map encB o5)))] : Objs) = some ([(5001, (.arr 5 1 1 (List.map encB (b ++ numB n))))] : Objs) from by rw [show o5 = (b ++ numB n) from num_end hKL (by omega) hJ6.2.2])
 | true =>
  have hb3p := of_decide_eq_true hb3
  refine rk boxes [⟨1, false, [(vI (k1 : Int)), (vI 8)], [], (vB true), []⟩, ⟨5, false, [(vI 8), (vI (k1 : Int))], [], (vI (8 * (k1 : Int))), []⟩, ⟨6, false, [(vI (max n 0)), (vI (8 * (k1 : Int)))], [], (vI (hiB (max n 0) k1)), []⟩] [0, 1, 4, 5, 18] [] ⟨48, [(0, (vD (List.map encB b))), (1, (vI (max n 0))), (4, (sc (.slice none 0 0))), (5, (vI (k1 : Int))), (18, (vB (decide ((hiB (max n 0) k1) > 0))))], [], []⟩ (by kernel_rfl) (.c (tri_scalar_eq [(.int .i64 (k1 : Int)), (.int .i64 8)] (.bool (decide ((k1 : Int) < 8))) rfl rfl rfl (by kernel_rfl) (congrArg Value.bool hb3)) (.c (tri_int (8 * (k1 : Int)) (wrap_i64 (by omega))) (.c (tri_shr (hiB (max n 0) k1) (by omega) (hiB_eq (by omega) (by omega) _ (by omega))) .n))) ?_
  refine peel_seq ?_
  refine awp_cond (b := (decide ((hiB (max n 0) k1) > 0))) rfl (fun hc8 => ?_) (fun hc8 => ?_)
  ·skip
   have hc8p := of_decide_eq_true hc8
   refine awp_skip ?_
   refine peel_seq ?_
   refine awp_block ?_
   refine rk boxes [⟨1, false, [(vI (k1 : Int)), (vI 1)], [], (vI ((k1 : Int) + 1)), []⟩] [0, 1, 4, 5] [] ⟨48, [(0, (vD (List.map encB b))), (1, (vI (max n 0))), (4, (sc (.slice none 0 0))), (5, (vI ((k1 : Int) + 1)))], [], []⟩ (by kernel_rfl) (.c (tri_int ((k1 : Int) + 1) (wrap_i64 (by omega))) .n) ?_
   refine peel_block ?_
   exact peel_round (k1 + 1) rfl (by have hp := hiB_pos (max n 0) k1; (try simp only); omega) (by have hp := hiB_pos (max n 0) k1; (try simp only); omega)
  ·skip
   have hc8p := of_decide_eq_false hc8
   have hKL := num_len n hn hJ2 (by first | exact Or.inl (by assumption) | exact Or.inr (by assumption))
   refine awp_exit ?_
   refine peel_seq_exit ?_
   refine peel_seq_exit ?_
   refine peel_hit ?_
   refine peel_seq ?_
   refine awp_seq ?_
   refine rk boxes [⟨1, true, [(vD (List.map encB b))], [], (vI (List.length b : Int)), []⟩, ⟨3, false, [(vI (List.length b : Int)), (vI (k1 : Int))], [], (vI ((List.length b : Int) + (k1 : Int))), []⟩, ⟨4, false, [(vI ((List.length b : Int) + (k1 : Int))), (vI 1)], [], (vI (((List.length b : Int) + (k1 : Int)) + 1)), []⟩, ⟨5, false, [(vI 0), (vI (((List.length b : Int) + (k1 : Int)) + 1))], [], (vO 26), [(26, (.arr 5 1 1 []))]⟩, ⟨7, false, [(vO 26), (vD (List.map encB b))], [(26, (.arr 5 1 1 []))], (vO 28), [(28, (.arr 5 1 1 (List.map encB b)))]⟩, ⟨10, false, [(sc (.int .u8 (IntKind.wrap .u8 (k1 : Int))))], [], (vD (List.map encB ([(IntKind.wrap .u8 (k1 : Int))]))), []⟩, ⟨11, false, [(vO 28), (vD (List.map encB ([(IntKind.wrap .u8 (k1 : Int))])))], [(28, (.arr 5 1 1 (List.map encB b)))], (vO 32), [(32, (.arr 5 1 1 (List.map encB (b ++ [(IntKind.wrap .u8 (k1 : Int))]))))]⟩] [1, 4, 5, 6] [32] ⟨48, [(1, (vI (max n 0))), (4, (sc (.slice none 0 0))), (5, (vI (k1 : Int))), (6, (vO 32))], [(32, (.arr 5 1 1 (List.map encB (b ++ [(IntKind.wrap .u8 (k1 : Int))]))))], []⟩ (by kernel_rfl) (.c (tri_len_map tab_ok rfl) (.c (tri_int ((List.length b : Int) + (k1 : Int)) (wrap_i64 (by omega))) (.c (tri_int (((List.length b : Int) + (k1 : Int)) + 1) (wrap_i64 (by omega))) (.c (tri_make_own (c := ((List.length b) + k1) + 1) tab_ok rfl (by omega)) (.c (tri_to (tri_append_sl (ex := 5) (bytes := 1) tab_ok rfl rfl rfl (all_map fun _ => rfl) (by (try simp only [List.length_map, List.length_append, List.length_cons, List.length_nil] at *); omega)) (by simp [encB])) (.c (tri_slice_data (e := 5) (sz := 1) (bytes := 1) tab_ok (by kernel_rfl) rfl) (.c (tri_to (tri_append_sl (ex := 5) (bytes := 1) tab_ok rfl rfl rfl (all_map fun _ => rfl) (by (try simp only [List.length_map, List.length_append, List.length_cons, List.length_nil] at *); omega)) (by simp [encB])) .n))))))) ?_
   refine peel_seq ?_
   refine awp_seq ?_
   refine awp_seq ?_
   refine rk boxes [⟨1, false, [(vI (k1 : Int)), (vI 1)], [], (vI ((k1 : Int) - 1)), []⟩] [1, 4, 6, 7] [32] ⟨48, [(1, (vI (max n 0))), (4, (sc (.slice none 0 0))), (6, (vO 32)), (7, (vI ((k1 : Int) - 1)))], [(32, (.arr 5 1 1 (List.map encB (b ++ [(IntKind.wrap .u8 (k1 : Int))]))))], []⟩ (by kernel_rfl) (.c (tri_int ((k1 : Int) - 1) (wrap_i64 (by omega))) .n) ?_
   refine peel_seq ?_
   refine awp_block ?_
   refine awp_loopP (ι := (Int) × (List Int)) (fun x => ⟨48, [(1, (vI (max n 0))), (4, (sc (.slice none 0 0))), (6, (vO 32)), (7, (vI x.1))], [(32, (.arr 5 1 1 (List.map encB x.2)))], []⟩) (fun x => (-1 ≤ x.1 ∧ x.1 + 1 ≤ k1) ∧ (List.length x.2 : Int) + (x.1 + 1) = List.length b + 1 + k1 ∧ x.2 ++ (be (max n 0).toNat).drop ((be (max n 0).toNat).length - (x.1 + 1).toNat) = (b ++ [IntKind.wrap .u8 (k1 : Int)]) ++ be (max n 0).toNat) (fun x => (x.1 + 1).toNat) (((k1 : Int) - 1), (b ++ [(IntKind.wrap .u8 (k1 : Int))])) rfl (by (have hK1 := hKL.1); (have eM : (max n 0).toNat = n.toNat := by omega); refine ⟨⟨by (try simp only); omega, by (try simp only); omega⟩, ?_, ?_⟩ <;> simp only [List.length_append, List.length_cons, List.length_nil, eM] <;> first | omega | (rw [show (be n.toNat).length - ((k1 : Int) - 1 + 1).toNat = 0 by omega]; rfl)) ?_
   rintro ⟨z9, o10⟩ hJ11
   try simp only at hJ11
   refine awp_seq ?_
   refine awp_seq ?_
   refine rk boxes [] [1, 4, 6, 7, 36] [32] ⟨48, [(1, (vI (max n 0))), (4, (sc (.slice none 0 0))), (6, (vO 32)), (7, (vI z9)), (36, (vB (decide (z9 ≥ 0))))], [(32, (.arr 5 1 1 (List.map encB o10)))], []⟩ (by kernel_rfl) .n ?_
   refine peel_seq ?_
   refine awp_cond (b := (decide (z9 ≥ 0))) rfl (fun hc12 => ?_) (fun hc12 => ?_)
   ·skip
    have hc12p := of_decide_eq_true hc12
    refine awp_skip ?_
    refine peel_seq ?_
    refine awp_seq ?_
    refine awp_block ?_
    refine awp_then [.sw 46 32] ?_
    refine rk boxes [⟨3, false, [(vI 8), (vI z9)], [], (vI (8 * z9)), []⟩, ⟨4, false, [(vI (max n 0)), (vI (8 * z9))], [], (vI (hiB (max n 0) (Int.toNat z9))), []⟩, ⟨6, false, [(sc (.int .u8 (IntKind.wrap .u8 (hiB (max n 0) (Int.toNat z9)))))], [], (vD (List.map encB ([(IntKind.wrap .u8 (hiB (max n 0) (Int.toNat z9)))]))), []⟩, ⟨7, false, [(vO 32), (vD (List.map encB ([(IntKind.wrap .u8 (hiB (max n 0) (Int.toNat z9)))])))], [(32, (.arr 5 1 1 (List.map encB o10)))], (vO 46), [(46, (.arr 5 1 1 (List.map encB (o10 ++ [(IntKind.wrap .u8 (hiB (max n 0) (Int.toNat z9)))]))))]⟩] [1, 4, 6, 7] [46] ⟨48, [(1, (vI (max n 0))), (4, (sc (.slice none 0 0))), (6, (vO 46)), (7, (vI z9))], [(46, (.arr 5 1 1 (List.map encB (o10 ++ [(IntKind.wrap .u8 (hiB (max n 0) (Int.toNat z9)))]))))], []⟩ (by kernel_rfl) (.c (tri_int (8 * z9) (wrap_i64 (by omega))) (.c (tri_shr (hiB (max n 0) (Int.toNat z9)) (by omega) (hiB_eq (by omega) (by omega) _ (by omega))) (.c (tri_slice_data (e := 5) (sz := 1) (bytes := 1) tab_ok (by kernel_rfl) rfl) (.c (tri_to (tri_append_sl (ex := 5) (bytes := 1) tab_ok rfl rfl rfl (all_map fun _ => rfl) (by (try simp only [List.length_map, List.length_append, List.length_cons, List.length_nil] at *); omega)) (by simp [encB])) .n)))) ?_
    refine then_mv ⟨48, [(1, (vI (max n 0))), (4, (sc (.slice none 0 0))), (6, (vO 32)), (7, (vI z9))], [(32, (.arr 5 1 1 (List.map encB (o10 ++ [(IntKind.wrap .u8 (hiB (max n 0) (Int.toNat z9)))]))))], []⟩ rfl ?_
    refine peel_block ?_
    refine peel_seq ?_
    refine rk boxes [⟨1, false, [(vI z9), (vI 1)], [], (vI (z9 - 1)), []⟩] [1, 4, 6, 7] [32] ⟨48, [(1, (vI (max n 0))), (4, (sc (.slice none 0 0))), (6, (vO 32)), (7, (vI (z9 - 1)))], [(32, (.arr 5 1 1 (List.map encB (o10 ++ [(IntKind.wrap .u8 (hiB (max n 0) (Int.toNat z9)))]))))], []⟩ (by kernel_rfl) (.c (tri_int (z9 - 1) (wrap_i64 (by omega))) .n) ?_
    exact peel_round ((z9 - 1), (o10 ++ [(IntKind.wrap .u8 (hiB (max n 0) (Int.toNat z9)))])) rfl ((by (have eM : (max n 0).toNat = n.toNat := by omega); (have hK1 := hKL.1); refine ⟨⟨by (try simp only); omega, by (try simp only); omega⟩, by simp only [List.length_append, List.length_cons, List.length_nil]; omega, num_step (by omega) (by rw [eM]; omega) hJ11.2.2⟩)) (by simp only; omega)
   ·skip
    have hc12p := of_decide_eq_false hc12
    refine awp_exit ?_
    refine peel_seq_exit ?_
    refine peel_seq_exit ?_
    refine peel_hit ?_
    refine peel_seq ?_
    refine awp_seq ?_
    refine rk boxes [] [4] [32] ⟨48, [(4, (vO 32))], [(32, (.arr 5 1 1 (List.map encB o10)))], []⟩ (by kernel_rfl) .n ?_
    refine peel_seq ?_
    refine awp_mv [.sw 32 5001] ⟨48, [(4, (vO 5001))], [(5001, (.arr 5 1 1 (List.map encB o10)))], []⟩ rfl ?_
    refine awp_ret ?_
    exact ends_ret rfl rfl (show some ([(5001, (.arr 5 1 1 (List.map encB o10)))] : Objs) = some ([(5001, (.arr 5 1 1 (List.map encB (b ++ numB n))))] : Objs) from by rw [show o10 = (b ++ numB n) from num_end hKL (by omega) hJ11.2.2])
theorem q_Number (b : List Int) (n : Int) (hb : b.length ≤ 1000000000) (hn : n ≤ 9223372036854775807) : Sat Try.prog 57 [(vD (List.map encB b)), (vI n)] [] (vO 5001) [(5001, (.arr 5 1 1 (List.map encB (b ++ numB n))))] := by
 refine sat_of_body tab_ok Try.func57 rfl (by kernel_rfl) (Nat.le_of_ble_eq_true rfl) rfl fun G => ?_
 refine awp_seq ?_
 refine rk boxes [] [0, 1, 4] [] ⟨28, [(0, (vD (List.map encB b))), (1, (vI n)), (4, (sc (.slice none 0 0)))], [], []⟩ (by kernel_rfl) .n ?_
 refine peel_seq ?_
 refine awp_seq ?_
 refine rk boxes [] [0, 1, 4, 5] [] ⟨28, [(0, (vD (List.map encB b))), (1, (vI n)), (4, (sc (.slice none 0 0))), (5, (sc (.slice none 0 0)))], [], []⟩ (by kernel_rfl) .n ?_
 refine peel_seq ?_
 refine awp_seq ?_
 refine awp_seq ?_
 refine rk boxes [⟨1, false, [(vI n), (vI 0)], [], (vI (max n 0)), []⟩] [0, 1, 4, 5] [] ⟨28, [(0, (vD (List.map encB b))), (1, (vI (max n 0))), (4, (sc (.slice none 0 0))), (5, (sc (.slice none 0 0)))], [], []⟩ (by kernel_rfl) (.c (tri_max) .n) ?_
 refine peel_seq ?_
 refine awp_block ?_
 refine awp_mv [.own 5 1005 5 1 1] ⟨28, [(5, (vO 1005)), (0, (vD (List.map encB b))), (1, (vI (max n 0))), (4, (sc (.slice none 0 0)))], [(1005, (.arr 5 1 1 []))], []⟩ rfl ?_
 refine q_keep [0, 1, 4, 5] [1005] ?_
 refine awp_loopP (ι := (Int) × (List Int)) (fun x => ⟨28, [(0, (vD (List.map encB b))), (1, (vI x.1)), (4, (sc (.slice none 0 0))), (5, (vO 1005))], [(1005, (.arr 5 1 1 (List.map encB x.2)))], []⟩) (fun x => (0 ≤ x.1 ∧ x.1 ≤ 9223372036854775807) ∧ be x.1.toNat ++ x.2 = be (max n 0).toNat) (fun x => x.1.toNat) ((max n 0), []) rfl (by refine ⟨⟨by (try simp only); omega, by (try simp only); omega⟩, ?_⟩; simp) ?_
 rintro ⟨v1, l2⟩ hJ3
 try simp only at hJ3
 have hl8 := congrArg List.length hJ3.2
 have hm8 := be_len_lt (max n 0).toNat 8 (by omega)
 simp only [List.length_append] at hl8
 refine awp_seq ?_
 refine awp_seq ?_
 refine rk boxes [] [0, 1, 4, 5, 9] [1005] ⟨28, [(0, (vD (List.map encB b))), (1, (vI v1)), (4, (sc (.slice none 0 0))), (5, (vO 1005)), (9, (vB (decide (v1 > 0))))], [(1005, (.arr 5 1 1 (List.map encB l2)))], []⟩ (by kernel_rfl) .n ?_
 refine peel_seq ?_
 refine awp_cond (b := (decide (v1 > 0))) rfl (fun hc4 => ?_) (fun hc4 => ?_)
 ·skip
  have hc4p := of_decide_eq_true hc4
  refine awp_skip ?_
  refine peel_seq ?_
  refine awp_seq ?_
  refine awp_block ?_
  refine awp_then [.sw 17 1005] ?_
  refine rk boxes [⟨1, false, [(vI v1), (vI 256)], [], (vI (Int.tmod v1 256)), []⟩, ⟨5, false, [(vO 15), (vO 1005)], [(15, (.arr 5 1 1 [[(.v (.int .u8 (IntKind.wrap .u8 (Int.tmod v1 256))))]])), (1005, (.arr 5 1 1 (List.map encB l2)))], (vO 17), [(17, (.arr 5 1 1 (List.map encB ([(IntKind.wrap .u8 (Int.tmod v1 256))] ++ l2)))), (1005, (.arr 5 1 1 (List.map encB l2)))]⟩] [0, 1, 4, 5] [17, 1005] ⟨28, [(0, (vD (List.map encB b))), (1, (vI v1)), (4, (sc (.slice none 0 0))), (5, (vO 17))], [(17, (.arr 5 1 1 (List.map encB ([(IntKind.wrap .u8 (Int.tmod v1 256))] ++ l2)))), (1005, (.arr 5 1 1 (List.map encB l2)))], []⟩ (by kernel_rfl) (.c (tri_rem (Int.tmod v1 256) (by decide) rfl) (.c (tri_to (tri_append_own (bytes := 1) tab_ok rfl rfl rfl (by simp [encB]) (by (try simp only [List.length_map, List.length_append, List.length_cons, List.length_nil] at *); omega)) (by simp [encB])) .n)) ?_
  refine then_mv ⟨28, [(0, (vD (List.map encB b))), (1, (vI v1)), (4, (sc (.slice none 0 0))), (5, (vO 1005))], [(1005, (.arr 5 1 1 (List.map encB ([(IntKind.wrap .u8 (Int.tmod v1 256))] ++ l2)))), (17, (.arr 5 1 1 (List.map encB l2)))], []⟩ rfl ?_
  refine peel_block ?_
  refine peel_seq ?_
  refine rk boxes [⟨1, false, [(vI v1), (vI 256)], [], (vI (IntKind.wrap .i64 (Int.tdiv v1 256))), []⟩] [0, 1, 4, 5] [1005] ⟨28, [(0, (vD (List.map encB b))), (1, (vI (IntKind.wrap .i64 (Int.tdiv v1 256)))), (4, (sc (.slice none 0 0))), (5, (vO 1005))], [(1005, (.arr 5 1 1 (List.map encB ([(IntKind.wrap .u8 (Int.tmod v1 256))] ++ l2))))], []⟩ (by kernel_rfl) (.c (tri_quo (IntKind.wrap .i64 (Int.tdiv v1 256)) (by decide) rfl) .n) ?_
  exact peel_round ((IntKind.wrap .i64 (Int.tdiv v1 256)), ([(IntKind.wrap .u8 (Int.tmod v1 256))] ++ l2)) rfl ((by (have hq := quo_le (v := v1) (by omega) (by omega)); refine ⟨⟨by (try simp only); omega, by (try simp only); omega⟩, ?_⟩; (have h2 := hJ3.2); rw [be_step (by omega) (by omega)] at h2; rw [← h2]; simp)) (by (have hq := quo_le (v := v1) (by omega) (by omega)); simp only; omega)
 ·skip
  have hc4p := of_decide_eq_false hc4
  refine awp_exit ?_
  refine peel_seq_exit ?_
  refine peel_seq_exit ?_
  refine peel_hit ?_
  refine peel_seq ?_
  refine awp_seq ?_
  refine rk boxes [⟨2, false, [(vO 18), (vD (List.map encB b))], [(18, (.arr 5 1 1 []))], (vO 20), [(20, (.arr 5 1 1 (List.map encB b)))]⟩, ⟨4, true, [(vO 1005)], [(1005, (.arr 5 1 1 (List.map encB l2)))], (vI (List.length l2 : Int)), []⟩, ⟨6, false, [(sc (.int .u8 (IntKind.wrap .u8 (List.length l2 : Int))))], [], (vD (List.map encB ([(IntKind.wrap .u8 (List.length l2 : Int))]))), []⟩, ⟨7, false, [(vO 20), (vD (List.map encB ([(IntKind.wrap .u8 (List.length l2 : Int))])))], [(20, (.arr 5 1 1 (List.map encB b)))], (vO 25), [(25, (.arr 5 1 1 (List.map encB (b ++ [(IntKind.wrap .u8 (List.length l2 : Int))]))))]⟩, ⟨9, false, [(vO 25), (vO 1005)], [(25, (.arr 5 1 1 (List.map encB (b ++ [(IntKind.wrap .u8 (List.length l2 : Int))])))), (1005, (.arr 5 1 1 (List.map encB l2)))], (vO 27), [(27, (.arr 5 1 1 (List.map encB ((b ++ [(IntKind.wrap .u8 (List.length l2 : Int))]) ++ l2)))), (1005, (.arr 5 1 1 (List.map encB l2)))]⟩] [4] [27] ⟨28, [(4, (vO 27))], [(27, (.arr 5 1 1 (List.map encB ((b ++ [(IntKind.wrap .u8 (List.length l2 : Int))]) ++ l2))))], []⟩ (by kernel_rfl) (.c (tri_to (tri_append_sl (ex := 5) (bytes := 1) tab_ok rfl rfl rfl (all_map fun _ => rfl) (by (try simp only [List.length_map, List.length_append, List.length_cons, List.length_nil] at *); omega)) (by simp [encB])) (.c (tri_len_mapO tab_ok rfl) (.c (tri_slice_data (e := 5) (sz := 1) (bytes := 1) tab_ok (by kernel_rfl) rfl) (.c (tri_to (tri_append_sl (ex := 5) (bytes := 1) tab_ok rfl rfl rfl (all_map fun _ => rfl) (by (try simp only [List.length_map, List.length_append, List.length_cons, List.length_nil] at *); omega)) (by simp [encB])) (.c (tri_to (tri_append_own (bytes := 1) tab_ok rfl rfl rfl (by simp [encB]) (by (try simp only [List.length_map, List.length_append, List.length_cons, List.length_nil] at *); omega)) (by simp [encB])) .n))))) ?_
  refine peel_seq ?_
  refine awp_mv [.sw 27 5001] ⟨28, [(4, (vO 5001))], [(5001, (.arr 5 1 1 (List.map encB ((b ++ [(IntKind.wrap .u8 (List.length l2 : Int))]) ++ l2))))], []⟩ rfl ?_
  refine awp_ret ?_
  exact ends_ret rfl rfl (show some ([(5001, (.arr 5 1 1 (List.map encB ((b ++ [(IntKind.wrap .u8 (List.length l2 : Int))]) ++ l2))))] : Objs) = some ([(5001, (.arr 5 1 1 (List.map encB (b ++ numB n))))] : Objs) from by rw [show ((b ++ [(IntKind.wrap .u8 (List.length l2 : Int))]) ++ l2) = (b ++ numB n) from (by have := numq_end (b := b) hn (by assumption) hJ3.1.1 hJ3.2; simpa using this)])
theorem w_Text (b : List Int) (s : ByteArray) (hb : b.length ≤ 1000000000) (hs : s.size ≤ 1000000000) : Sat Try.prog 55 [(vD (List.map encB b)), (vS s)] [] (vO 5001) [(5001, (.arr 5 1 1 (List.map encB (b ++ textB s))))] := by
 refine sat_of_body tab_ok Try.func55 rfl (by kernel_rfl) (Nat.le_of_ble_eq_true rfl) rfl fun G => ?_
 refine awp_seq ?_
 refine rk boxes [] [0, 1, 4] [] ⟨11, [(0, (vD (List.map encB b))), (1, (vS s)), (4, (sc (.slice none 0 0)))], [], []⟩ (by kernel_rfl) .n ?_
 refine peel_seq ?_
 refine awp_seq ?_
 refine rk boxes [⟨3, false, [(sc (.func (.func 54) #[] #[])), (vD (List.map encB b)), (vI (s.size : Int))], [], (vO 8), [(8, (.arr 5 1 1 (List.map encB (b ++ numB (s.size : Int)))))]⟩, ⟨5, false, [(vO 8), (vS s)], [(8, (.arr 5 1 1 (List.map encB (b ++ numB (s.size : Int)))))], (vO 10), [(10, (.arr 5 1 1 (List.map encB ((b ++ numB (s.size : Int)) ++ (strB s)))))]⟩] [4] [10] ⟨11, [(4, (vO 10))], [(10, (.arr 5 1 1 (List.map encB ((b ++ numB (s.size : Int)) ++ (strB s)))))], []⟩ (by kernel_rfl) (.c (tri_call (Sat.sw 5001 8 (w_Number b (s.size : Int) (by omega) (by omega)))) (.c (tri_to (tri_append_str (bytes := 1) tab_ok rfl rfl rfl (by (have h9 := numB_len (s.size : Int) (by omega)); (try simp only [List.length_map, List.length_append, List.length_cons, List.length_nil] at *); omega)) (by simp [byteD_strB])) .n)) ?_
 refine peel_seq ?_
 refine awp_mv [.sw 10 5001] ⟨11, [(4, (vO 5001))], [(5001, (.arr 5 1 1 (List.map encB ((b ++ numB (s.size : Int)) ++ (strB s)))))], []⟩ rfl ?_
 refine awp_ret ?_
 exact ends_ret rfl rfl (show some ([(5001, (.arr 5 1 1 (List.map encB ((b ++ numB (s.size : Int)) ++ (strB s)))))] : Objs) = some ([(5001, (.arr 5 1 1 (List.map encB (b ++ textB s))))] : Objs) from by rw [show ((b ++ numB (s.size : Int)) ++ (strB s)) = (b ++ textB s) from (by simp [textB])])
theorem w_Flag (b : List Int) (f : Bool) (hb : b.length ≤ 1000000000) : Sat Try.prog 56 [(vD (List.map encB b)), (vB f)] [] (vO 5001) [(5001, (.arr 5 1 1 (List.map encB (b ++ flagB f))))] := by
 refine sat_of_body tab_ok Try.func56 rfl (by kernel_rfl) (Nat.le_of_ble_eq_true rfl) rfl fun G => ?_
 refine awp_seq ?_
 refine rk boxes [] [0, 1, 4] [] ⟨10, [(0, (vD (List.map encB b))), (1, (vB f)), (4, (sc (.slice none 0 0)))], [], []⟩ (by kernel_rfl) .n ?_
 refine peel_seq ?_
 refine awp_seq ?_
 refine awp_seq ?_
 refine rk boxes [] [0, 4, 5] [] ⟨10, [(0, (vD (List.map encB b))), (4, (sc (.slice none 0 0))), (5, (vB f))], [], []⟩ (by kernel_rfl) .n ?_
 refine peel_seq ?_
 cases f with
 | false =>
  refine awp_false rfl ?_
  refine awp_skip ?_
  refine peel_seq ?_
  refine awp_seq ?_
  refine rk boxes [⟨1, false, [(sc (.func (.func 54) #[] #[])), (vD (List.map encB b)), (vI 0)], [], (vO 9), [(9, (.arr 5 1 1 (List.map encB (b ++ numB 0))))]⟩] [4] [9] ⟨10, [(4, (vO 9))], [(9, (.arr 5 1 1 (List.map encB (b ++ numB 0))))], []⟩ (by kernel_rfl) (.c (tri_call (Sat.sw 5001 9 (w_Number b 0 (by omega) (by omega)))) .n) ?_
  refine peel_seq ?_
  refine awp_mv [.sw 9 5001] ⟨10, [(4, (vO 5001))], [(5001, (.arr 5 1 1 (List.map encB (b ++ numB 0))))], []⟩ rfl ?_
  refine awp_ret ?_
  exact ends_ret rfl rfl (show some ([(5001, (.arr 5 1 1 (List.map encB (b ++ numB 0))))] : Objs) = some ([(5001, (.arr 5 1 1 (List.map encB (b ++ flagB false))))] : Objs) from by rw [show (b ++ numB 0) = (b ++ flagB false) from (by first | rfl | simp [flagB])])
 | true =>
  refine awp_true rfl ?_
  refine awp_seq ?_
  refine rk boxes [⟨1, false, [(sc (.func (.func 54) #[] #[])), (vD (List.map encB b)), (vI 1)], [], (vO 7), [(7, (.arr 5 1 1 (List.map encB (b ++ numB 1))))]⟩] [0, 4] [7] ⟨10, [(0, (vD (List.map encB b))), (4, (vO 7))], [(7, (.arr 5 1 1 (List.map encB (b ++ numB 1))))], []⟩ (by kernel_rfl) (.c (tri_call (Sat.sw 5001 7 (w_Number b 1 (by omega) (by omega)))) .n) ?_
  refine peel_seq ?_
  refine awp_mv [.sw 7 5001] ⟨10, [(0, (vD (List.map encB b))), (4, (vO 5001))], [(5001, (.arr 5 1 1 (List.map encB (b ++ numB 1))))], []⟩ rfl ?_
  refine awp_ret ?_
  refine peel_seq_ret ?_
  exact ends_ret rfl rfl (show some ([(5001, (.arr 5 1 1 (List.map encB (b ++ numB 1))))] : Objs) = some ([(5001, (.arr 5 1 1 (List.map encB (b ++ flagB true))))] : Objs) from by rw [show (b ++ numB 1) = (b ++ flagB true) from (by first | rfl | simp [flagB])])
theorem q_Text (b : List Int) (s : ByteArray) (hb : b.length ≤ 1000000000) (hs : s.size ≤ 1000000000) : Sat Try.prog 58 [(vD (List.map encB b)), (vS s)] [] (vO 5001) [(5001, (.arr 5 1 1 (List.map encB (b ++ textB s))))] := by
 refine sat_of_body tab_ok Try.func58 rfl (by kernel_rfl) (Nat.le_of_ble_eq_true rfl) rfl fun G => ?_
 refine awp_seq ?_
 refine rk boxes [] [0, 1, 4] [] ⟨11, [(0, (vD (List.map encB b))), (1, (vS s)), (4, (sc (.slice none 0 0)))], [], []⟩ (by kernel_rfl) .n ?_
 refine peel_seq ?_
 refine awp_seq ?_
 refine rk boxes [⟨3, false, [(sc (.func (.func 57) #[] #[])), (vD (List.map encB b)), (vI (s.size : Int))], [], (vO 8), [(8, (.arr 5 1 1 (List.map encB (b ++ numB (s.size : Int)))))]⟩, ⟨5, false, [(vO 8), (vS s)], [(8, (.arr 5 1 1 (List.map encB (b ++ numB (s.size : Int)))))], (vO 10), [(10, (.arr 5 1 1 (List.map encB ((b ++ numB (s.size : Int)) ++ (strB s)))))]⟩] [4] [10] ⟨11, [(4, (vO 10))], [(10, (.arr 5 1 1 (List.map encB ((b ++ numB (s.size : Int)) ++ (strB s)))))], []⟩ (by kernel_rfl) (.c (tri_call (Sat.sw 5001 8 (q_Number b (s.size : Int) (by omega) (by omega)))) (.c (tri_to (tri_append_str (bytes := 1) tab_ok rfl rfl rfl (by (have h9 := numB_len (s.size : Int) (by omega)); (try simp only [List.length_map, List.length_append, List.length_cons, List.length_nil] at *); omega)) (by simp [byteD_strB])) .n)) ?_
 refine peel_seq ?_
 refine awp_mv [.sw 10 5001] ⟨11, [(4, (vO 5001))], [(5001, (.arr 5 1 1 (List.map encB ((b ++ numB (s.size : Int)) ++ (strB s)))))], []⟩ rfl ?_
 refine awp_ret ?_
 exact ends_ret rfl rfl (show some ([(5001, (.arr 5 1 1 (List.map encB ((b ++ numB (s.size : Int)) ++ (strB s)))))] : Objs) = some ([(5001, (.arr 5 1 1 (List.map encB (b ++ textB s))))] : Objs) from by rw [show ((b ++ numB (s.size : Int)) ++ (strB s)) = (b ++ textB s) from (by simp [textB])])
theorem q_Flag (b : List Int) (f : Bool) (hb : b.length ≤ 1000000000) : Sat Try.prog 59 [(vD (List.map encB b)), (vB f)] [] (vO 5001) [(5001, (.arr 5 1 1 (List.map encB (b ++ flagB f))))] := by
 refine sat_of_body tab_ok Try.func59 rfl (by kernel_rfl) (Nat.le_of_ble_eq_true rfl) rfl fun G => ?_
 refine awp_seq ?_
 refine rk boxes [] [0, 1, 4] [] ⟨10, [(0, (vD (List.map encB b))), (1, (vB f)), (4, (sc (.slice none 0 0)))], [], []⟩ (by kernel_rfl) .n ?_
 refine peel_seq ?_
 refine awp_seq ?_
 refine rk boxes [] [0, 1, 4, 5] [] ⟨10, [(0, (vD (List.map encB b))), (1, (vB f)), (4, (sc (.slice none 0 0))), (5, (vI 0))], [], []⟩ (by kernel_rfl) .n ?_
 refine peel_seq ?_
 refine awp_seq ?_
 refine awp_seq ?_
 refine rk boxes [] [0, 4, 5, 6] [] ⟨10, [(0, (vD (List.map encB b))), (4, (sc (.slice none 0 0))), (5, (vI 0)), (6, (vB f))], [], []⟩ (by kernel_rfl) .n ?_
 refine peel_seq ?_
 cases f with
 | false =>
  refine awp_false rfl ?_
  refine awp_skip ?_
  refine peel_seq ?_
  refine awp_seq ?_
  refine rk boxes [⟨2, false, [(sc (.func (.func 57) #[] #[])), (vD (List.map encB b)), (vI 0)], [], (vO 9), [(9, (.arr 5 1 1 (List.map encB (b ++ numB 0))))]⟩] [4] [9] ⟨10, [(4, (vO 9))], [(9, (.arr 5 1 1 (List.map encB (b ++ numB 0))))], []⟩ (by kernel_rfl) (.c (tri_call (Sat.sw 5001 9 (q_Number b 0 (by omega) (by omega)))) .n) ?_
  refine peel_seq ?_
  refine awp_mv [.sw 9 5001] ⟨10, [(4, (vO 5001))], [(5001, (.arr 5 1 1 (List.map encB (b ++ numB 0))))], []⟩ rfl ?_
  refine awp_ret ?_
  exact ends_ret rfl rfl (show some ([(5001, (.arr 5 1 1 (List.map encB (b ++ numB 0))))] : Objs) = some ([(5001, (.arr 5 1 1 (List.map encB (b ++ flagB false))))] : Objs) from by rw [show (b ++ numB 0) = (b ++ flagB false) from (by first | rfl | simp [flagB])])
 | true =>
  refine awp_true rfl ?_
  refine rk boxes [] [0, 4, 5] [] ⟨10, [(0, (vD (List.map encB b))), (4, (sc (.slice none 0 0))), (5, (vI 1))], [], []⟩ (by kernel_rfl) .n ?_
  refine peel_seq ?_
  refine awp_seq ?_
  refine rk boxes [⟨2, false, [(sc (.func (.func 57) #[] #[])), (vD (List.map encB b)), (vI 1)], [], (vO 9), [(9, (.arr 5 1 1 (List.map encB (b ++ numB 1))))]⟩] [4] [9] ⟨10, [(4, (vO 9))], [(9, (.arr 5 1 1 (List.map encB (b ++ numB 1))))], []⟩ (by kernel_rfl) (.c (tri_call (Sat.sw 5001 9 (q_Number b 1 (by omega) (by omega)))) .n) ?_
  refine peel_seq ?_
  refine awp_mv [.sw 9 5001] ⟨10, [(4, (vO 5001))], [(5001, (.arr 5 1 1 (List.map encB (b ++ numB 1))))], []⟩ rfl ?_
  refine awp_ret ?_
  exact ends_ret rfl rfl (show some ([(5001, (.arr 5 1 1 (List.map encB (b ++ numB 1))))] : Objs) = some ([(5001, (.arr 5 1 1 (List.map encB (b ++ flagB true))))] : Objs) from by rw [show (b ++ numB 1) = (b ++ flagB true) from (by first | rfl | simp [flagB])])
end Go.Proofs.Ytjbiaoajmdbigaa
