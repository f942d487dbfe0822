/- Walks of package tidemarkref01: what is read. -/
import Derived.Test.YtjbiaoajmdbigaaWi2
set_option maxRecDepth 100000
set_option linter.unusedVariables false
set_option linter.unusedSimpArgs false
namespace Go.Proofs.Ytjbiaoajmdbigaa
open Go Go.E
theorem q_number (l : List Int) (hl : l.length ≤ 1000000000) (hr : ∀ x ∈ l, 0 ≤ x ∧ x ≤ 255) : Sat Try.prog 81 [(vD (List.map encB l))] [] (.tup [(.c (cI (numM l).1)), (.c (cI ((numM l).2.1 : Int))), (.c (cI (numM l).2.2))]) [] := by
 refine sat_of_body tab_ok Try.func81 rfl (by kernel_rfl) (Nat.le_of_ble_eq_true rfl) rfl fun G => ?_
 refine awp_seq ?_
 refine rk boxes [] [0, 2, 3, 4] [] ⟨54, [(0, (vD (List.map encB l))), (2, (vI 0)), (3, (vI 0)), (4, (vI 0))], [], []⟩ (by kernel_rfl) .n ?_
 refine peel_seq ?_
 refine awp_seq ?_
 refine awp_seq ?_
 refine rk boxes [⟨1, true, [(vD (List.map encB l))], [], (vI (List.length l : Int)), []⟩] [0, 2, 3, 4, 10] [] ⟨54, [(0, (vD (List.map encB l))), (2, (vI 0)), (3, (vI 0)), (4, (vI 0)), (10, (vB ((List.length l : Int) == 0)))], [], []⟩ (by kernel_rfl) (.c (tri_len_map tab_ok rfl) .n) ?_
 refine peel_seq ?_
 refine awp_cond (b := ((List.length l : Int) == 0)) rfl (fun hc1 => ?_) (fun hc1 => ?_)
 ·skip
  have hc1p : (List.length l : Int) = 0 := by simpa using hc1
  refine awp_seq ?_
  refine rk boxes [] [0, 2, 3, 4] [] ⟨54, [(0, (vD (List.map encB l))), (2, (vI 0)), (3, (vI 0)), (4, (vI 2))], [], []⟩ (by kernel_rfl) .n ?_
  refine peel_seq ?_
  refine awp_ret ?_
  refine peel_seq_ret ?_
  exact (have hR : numM l = (0, 0, 2) := (by first | (exfalso; omega) | exact nm_nil (by assumption) | exact nm_form (by assumption) (by assumption) | exact nm_few (by assumption) (by omega) (by assumption) (by assumption) | exact nm_zero (by assumption) (by omega) (by assumption) (by assumption) (by assumption) (by assumption) (by assumption) | exact nm_great (by assumption) (by assumption) (by assumption) (by assumption) (by assumption) (by assumption) (by assumption)); ends_ret rfl (show some ((.tup [(.c (cI 0)), (.c (cI 0)), (.c (cI 2))]) : SV) = some ((.tup [(.c (cI (numM l).1)), (.c (cI ((numM l).2.1 : Int))), (.c (cI (numM l).2.2))]) : SV) from by first | (rw [hR]; done) | (rw [hR]; rfl)) rfl)
 ·skip
  have hc1p : (List.length l : Int) ≠ 0 := by simpa using hc1
  refine awp_skip ?_
  refine peel_seq ?_
  refine awp_seq ?_
  obtain ⟨x2, ha3, hd4⟩ := at_drop (l := l) (k := 0) (by (try simp only [List.length_map] at *); omega)
  have hr5 := hr x2 (List.mem_of_getElem? ha3)
  refine rk boxes [⟨1, false, [(vD (List.map encB l)), (vI 0)], [], (vT (dP [(.v (.int .u8 x2))])), []⟩, ⟨3, false, [(sc (.int .u8 x2))], [], (vI x2), []⟩] [0, 2, 3, 4, 5] [] ⟨54, [(0, (vD (List.map encB l))), (2, (vI 0)), (3, (vI 0)), (4, (vI 0)), (5, (vI x2))], [], []⟩ (by kernel_rfl) (.c (tri_index_sl (e := 5) (sz := 1) (bytes := 1) (i := 0) tab_ok rfl (at_map encB ha3) (all_map fun _ => rfl)) (.c (tri_scalar_eq [(.int .u8 x2)] (.int .i64 (IntKind.wrap .i64 x2)) rfl rfl rfl (by kernel_rfl) (congrArg (Value.int .i64) (wrap_i64 (by omega)))) .n)) ?_
  refine peel_seq ?_
  refine awp_seq ?_
  refine awp_seq ?_
  refine rk boxes [] [0, 2, 3, 4, 5, 16] [] ⟨54, [(0, (vD (List.map encB l))), (2, (vI 0)), (3, (vI 0)), (4, (vI 0)), (5, (vI x2)), (16, (vB (decide (x2 > 8))))], [], []⟩ (by kernel_rfl) .n ?_
  refine peel_seq ?_
  refine awp_cond (b := (decide (x2 > 8))) rfl (fun hc6 => ?_) (fun hc6 => ?_)
  ·skip
   have hc6p := of_decide_eq_true hc6
   refine awp_seq ?_
   refine rk boxes [] [0, 2, 3, 4, 5] [] ⟨54, [(0, (vD (List.map encB l))), (2, (vI 0)), (3, (vI 0)), (4, (vI 11)), (5, (vI x2))], [], []⟩ (by kernel_rfl) .n ?_
   refine peel_seq ?_
   refine awp_ret ?_
   refine peel_seq_ret ?_
   exact (have hR : numM l = (0, 0, 11) := (by first | (exfalso; omega) | exact nm_nil (by assumption) | exact nm_form (by assumption) (by assumption) | exact nm_few (by assumption) (by omega) (by assumption) (by assumption) | exact nm_zero (by assumption) (by omega) (by assumption) (by assumption) (by assumption) (by assumption) (by assumption) | exact nm_great (by assumption) (by assumption) (by assumption) (by assumption) (by assumption) (by assumption) (by assumption)); ends_ret rfl (show some ((.tup [(.c (cI 0)), (.c (cI 0)), (.c (cI 11))]) : SV) = some ((.tup [(.c (cI (numM l).1)), (.c (cI ((numM l).2.1 : Int))), (.c (cI (numM l).2.2))]) : SV) from by first | (rw [hR]; done) | (rw [hR]; rfl)) rfl)
  ·skip
   have hc6p := of_decide_eq_false hc6
   refine awp_skip ?_
   refine peel_seq ?_
   refine awp_seq ?_
   refine awp_seq ?_
   refine rk boxes [⟨1, true, [(vD (List.map encB l))], [], (vI (List.length l : Int)), []⟩, ⟨3, false, [(vI x2), (vI 1)], [], (vI (x2 + 1)), []⟩] [0, 2, 3, 4, 5, 21] [] ⟨54, [(0, (vD (List.map encB l))), (2, (vI 0)), (3, (vI 0)), (4, (vI 0)), (5, (vI x2)), (21, (vB (decide ((List.length l : Int) < (x2 + 1)))))], [], []⟩ (by kernel_rfl) (.c (tri_len_map tab_ok rfl) (.c (tri_int (x2 + 1) (wrap_i64 (by omega))) .n)) ?_
   refine peel_seq ?_
   refine awp_cond (b := (decide ((List.length l : Int) < (x2 + 1)))) rfl (fun hc7 => ?_) (fun hc7 => ?_)
   ·skip
    have hc7p := of_decide_eq_true hc7
    refine awp_seq ?_
    refine rk boxes [] [0, 2, 3, 4, 5] [] ⟨54, [(0, (vD (List.map encB l))), (2, (vI 0)), (3, (vI 0)), (4, (vI 2)), (5, (vI x2))], [], []⟩ (by kernel_rfl) .n ?_
    refine peel_seq ?_
    refine awp_ret ?_
    refine peel_seq_ret ?_
    exact (have hR : numM l = (0, 0, 2) := (by first | (exfalso; omega) | exact nm_nil (by assumption) | exact nm_form (by assumption) (by assumption) | exact nm_few (by assumption) (by omega) (by assumption) (by assumption) | exact nm_zero (by assumption) (by omega) (by assumption) (by assumption) (by assumption) (by assumption) (by assumption) | exact nm_great (by assumption) (by assumption) (by assumption) (by assumption) (by assumption) (by assumption) (by assumption)); ends_ret rfl (show some ((.tup [(.c (cI 0)), (.c (cI 0)), (.c (cI 2))]) : SV) = some ((.tup [(.c (cI (numM l).1)), (.c (cI ((numM l).2.1 : Int))), (.c (cI (numM l).2.2))]) : SV) from by first | (rw [hR]; done) | (rw [hR]; rfl)) rfl)
   ·skip
    have hc7p := of_decide_eq_false hc7
    refine awp_skip ?_
    refine peel_seq ?_
    refine awp_seq ?_
    refine awp_seq ?_
    cases hb8 : (decide (x2 > 0)) with
    | false =>
     have hb8p := of_decide_eq_false hb8
     refine rk boxes [⟨1, false, [(vI x2), (vI 0)], [], (vB false), []⟩] [0, 2, 3, 4, 5, 29] [] ⟨54, [(0, (vD (List.map encB l))), (2, (vI 0)), (3, (vI 0)), (4, (vI 0)), (5, (vI x2)), (29, (vB false))], [], []⟩ (by kernel_rfl) (.c (tri_scalar_eq [(.int .i64 x2), (.int .i64 0)] (.bool (decide (x2 > 0))) rfl rfl rfl (by kernel_rfl) (congrArg Value.bool hb8)) .n) ?_
     refine peel_seq ?_
     refine awp_false rfl ?_
     refine awp_skip ?_
     refine peel_seq ?_
     refine awp_seq ?_
     refine awp_seq ?_
     cases hb9 : (x2 == 8) with
     | false =>
      have hb9p : x2 ≠ 8 := by simpa using hb9
      refine rk boxes [⟨1, false, [(vI x2), (vI 8)], [], (vB false), []⟩] [0, 2, 3, 4, 5, 37] [] ⟨54, [(0, (vD (List.map encB l))), (2, (vI 0)), (3, (vI 0)), (4, (vI 0)), (5, (vI x2)), (37, (vB false))], [], []⟩ (by kernel_rfl) (.c (tri_scalar_eq [(.int .i64 x2), (.int .i64 8)] (.bool (x2 == 8)) rfl rfl rfl (by kernel_rfl) (congrArg Value.bool hb9)) .n) ?_
      refine peel_seq ?_
      refine awp_false rfl ?_
      refine awp_skip ?_
      refine peel_seq ?_
      refine awp_seq ?_
      refine rk boxes [] [0, 2, 3, 4, 5, 6] [] ⟨54, [(0, (vD (List.map encB l))), (2, (vI 0)), (3, (vI 0)), (4, (vI 0)), (5, (vI x2)), (6, (vI 0))], [], []⟩ (by kernel_rfl) .n ?_
      refine peel_seq ?_
      refine awp_seq ?_
      refine awp_seq ?_
      refine rk boxes [] [0, 2, 3, 4, 5, 6, 7] [] ⟨54, [(0, (vD (List.map encB l))), (2, (vI 0)), (3, (vI 0)), (4, (vI 0)), (5, (vI x2)), (6, (vI 0)), (7, (vI 1))], [], []⟩ (by kernel_rfl) .n ?_
      refine peel_seq ?_
      refine awp_block ?_
      have hN : numM l = (fold256 (List.take (Int.toNat x2) (List.drop 1 l)) 0, Int.toNat x2 + 1, 0) := nm_num (by assumption) (by assumption) (by assumption) (fun h0 y hy => by exfalso; omega) (fun h8 y hy => by exfalso; omega)
      have hS := (numM_spec hr).2.1
      rw [hN] at hS
      simp only at hS
      refine awp_loopP (ι := (Nat) × (Int)) (fun x => ⟨54, [(0, (vD (List.map encB l))), (2, (vI 0)), (3, (vI 0)), (4, (vI 0)), (5, (vI x2)), (6, (vI x.2)), (7, (vI (x.1 : Int)))], [], []⟩) (fun x => (1 ≤ x.1 ∧ (x.1 : Int) ≤ x2 + 1) ∧ x.2 = fold256 (List.take (x.1 - 1) (List.drop 1 l)) 0) (fun x => (x2 + 1).toNat - x.1) (1, 0) rfl ⟨⟨by (try simp only); omega, by (try simp only); omega⟩, rfl⟩ ?_
      rintro ⟨j10, n11⟩ hJ12
      try simp only at hJ12
      have hb1 := fold256_bound (List.take (j10 - 1) (List.drop 1 l)) 0 (Int.le_refl 0) (fun x hx => hr x (List.mem_of_mem_drop (List.mem_of_mem_take hx)))
      rw [← hJ12.2] at hb1
      refine awp_seq ?_
      refine awp_seq ?_
      refine rk boxes [] [0, 2, 3, 4, 5, 6, 7, 40] [] ⟨54, [(0, (vD (List.map encB l))), (2, (vI 0)), (3, (vI 0)), (4, (vI 0)), (5, (vI x2)), (6, (vI n11)), (7, (vI (j10 : Int))), (40, (vB (decide ((j10 : Int) ≤ x2))))], [], []⟩ (by kernel_rfl) .n ?_
      refine peel_seq ?_
      refine awp_cond (b := (decide ((j10 : Int) ≤ x2))) rfl (fun hc13 => ?_) (fun hc13 => ?_)
      ·skip
       have hc13p := of_decide_eq_true hc13
       refine awp_skip ?_
       refine peel_seq ?_
       refine awp_seq ?_
       refine awp_block ?_
       obtain ⟨x14, ha15, hd16⟩ := at_drop (l := l) (k := j10) (by (try simp only [List.length_map] at *); omega)
       have hr17 := hr x14 (List.mem_of_getElem? ha15)
       refine rk boxes [⟨1, false, [(vI 256), (vI n11)], [], (vI (256 * n11)), []⟩, ⟨4, false, [(vD (List.map encB l)), (vI (j10 : Int))], [], (vT (dP [(.v (.int .u8 x14))])), []⟩, ⟨6, false, [(sc (.int .u8 x14))], [], (vI x14), []⟩, ⟨7, false, [(vI (256 * n11)), (vI x14)], [], (vI (256 * n11 + x14)), []⟩] [0, 2, 3, 4, 5, 6, 7] [] ⟨54, [(0, (vD (List.map encB l))), (2, (vI 0)), (3, (vI 0)), (4, (vI 0)), (5, (vI x2)), (6, (vI (256 * n11 + x14))), (7, (vI (j10 : Int)))], [], []⟩ (by kernel_rfl) (.c (tri_int (256 * n11) (wrap_i64 (by (have ht := fold_take_le (l := (List.drop 1 l)) (fun x hx => hr x (List.mem_of_mem_drop hx)) (i := j10) (k := Int.toNat x2) (by omega)); rw [fold_next (by omega) ha15, ← hJ12.2] at ht; omega))) (.c (tri_index_sl (e := 5) (sz := 1) (bytes := 1) (i := j10) tab_ok rfl (at_map encB ha15) (all_map fun _ => rfl)) (.c (tri_scalar_eq [(.int .u8 x14)] (.int .i64 (IntKind.wrap .i64 x14)) rfl rfl rfl (by kernel_rfl) (congrArg (Value.int .i64) (wrap_i64 (by omega)))) (.c (tri_int (256 * n11 + x14) (wrap_i64 (by (have ht := fold_take_le (l := (List.drop 1 l)) (fun x hx => hr x (List.mem_of_mem_drop hx)) (i := j10) (k := Int.toNat x2) (by omega)); rw [fold_next (by omega) ha15, ← hJ12.2] at ht; omega))) .n)))) ?_
       refine peel_block ?_
       refine peel_seq ?_
       refine rk boxes [⟨1, false, [(vI (j10 : Int)), (vI 1)], [], (vI ((j10 : Int) + 1)), []⟩] [0, 2, 3, 4, 5, 6, 7] [] ⟨54, [(0, (vD (List.map encB l))), (2, (vI 0)), (3, (vI 0)), (4, (vI 0)), (5, (vI x2)), (6, (vI (256 * n11 + x14))), (7, (vI ((j10 : Int) + 1)))], [], []⟩ (by kernel_rfl) (.c (tri_int ((j10 : Int) + 1) (wrap_i64 (by omega))) .n) ?_
       exact peel_round (j10 + 1, (256 * n11 + x14)) rfl (⟨⟨by (try simp only); omega, by (try simp only); omega⟩, by simp only [Nat.add_sub_cancel]; rw [fold_next hJ12.1.1 ha15, ← hJ12.2]⟩) (by (try simp only); omega)
      ·skip
       have hc13p := of_decide_eq_false hc13
       have hE : n11 = fold256 (List.take (Int.toNat x2) (List.drop 1 l)) 0 := by rw [hJ12.2]; congr 2; omega
       refine awp_exit ?_
       refine peel_seq_exit ?_
       refine peel_seq_exit ?_
       refine peel_hit ?_
       refine peel_seq ?_
       refine awp_seq ?_
       refine rk boxes [⟨2, false, [(vI x2), (vI 1)], [], (vI ((Int.toNat x2 + 1 : Nat) : Int)), []⟩] [2, 3, 4] [] ⟨54, [(2, (vI n11)), (3, (vI ((Int.toNat x2 + 1 : Nat) : Int))), (4, (vI 0))], [], []⟩ (by kernel_rfl) (.c (tri_int ((Int.toNat x2 + 1 : Nat) : Int) ((wrap_i64 (by omega)).trans (by omega))) .n) ?_
       refine peel_seq ?_
       refine awp_ret ?_
       exact (have hR : numM l = (n11, Int.toNat x2 + 1, 0) := (by rw [hN, ← hE]); ends_ret rfl (show some ((.tup [(.c (cI n11)), (.c (cI ((Int.toNat x2 + 1 : Nat) : Int))), (.c (cI 0))]) : SV) = some ((.tup [(.c (cI (numM l).1)), (.c (cI ((numM l).2.1 : Int))), (.c (cI (numM l).2.2))]) : SV) from by first | (rw [hR]; done) | (rw [hR]; rfl)) rfl)
     | true =>
      have hb9p : x2 = 8 := by simpa using hb9
      obtain ⟨x18, ha19, hd20⟩ := at_drop (l := l) (k := 1) (by (try simp only [List.length_map] at *); omega)
      have hr21 := hr x18 (List.mem_of_getElem? ha19)
      refine rk boxes [⟨1, false, [(vI x2), (vI 8)], [], (vB true), []⟩, ⟨4, false, [(vD (List.map encB l)), (vI 1)], [], (vT (dP [(.v (.int .u8 x18))])), []⟩] [0, 2, 3, 4, 5, 37] [] ⟨54, [(0, (vD (List.map encB l))), (2, (vI 0)), (3, (vI 0)), (4, (vI 0)), (5, (vI x2)), (37, (vB (decide (x18 > 127))))], [], []⟩ (by kernel_rfl) (.c (tri_scalar_eq [(.int .i64 x2), (.int .i64 8)] (.bool (x2 == 8)) rfl rfl rfl (by kernel_rfl) (congrArg Value.bool hb9)) (.c (tri_index_sl (e := 5) (sz := 1) (bytes := 1) (i := 1) tab_ok rfl (at_map encB ha19) (all_map fun _ => rfl)) .n)) ?_
      refine peel_seq ?_
      refine awp_cond (b := (decide (x18 > 127))) rfl (fun hc22 => ?_) (fun hc22 => ?_)
      ·skip
       have hc22p := of_decide_eq_true hc22
       refine awp_seq ?_
       refine rk boxes [] [0, 2, 3, 4, 5] [] ⟨54, [(0, (vD (List.map encB l))), (2, (vI 0)), (3, (vI 0)), (4, (vI 5)), (5, (vI x2))], [], []⟩ (by kernel_rfl) .n ?_
       refine peel_seq ?_
       refine awp_ret ?_
       refine peel_seq_ret ?_
       exact (have hR : numM l = (0, 0, 5) := (by first | (exfalso; omega) | exact nm_nil (by assumption) | exact nm_form (by assumption) (by assumption) | exact nm_few (by assumption) (by omega) (by assumption) (by assumption) | exact nm_zero (by assumption) (by omega) (by assumption) (by assumption) (by assumption) (by assumption) (by assumption) | exact nm_great (by assumption) (by assumption) (by assumption) (by assumption) (by assumption) (by assumption) (by assumption)); ends_ret rfl (show some ((.tup [(.c (cI 0)), (.c (cI 0)), (.c (cI 5))]) : SV) = some ((.tup [(.c (cI (numM l).1)), (.c (cI ((numM l).2.1 : Int))), (.c (cI (numM l).2.2))]) : SV) from by first | (rw [hR]; done) | (rw [hR]; rfl)) rfl)
      ·skip
       have hc22p := of_decide_eq_false hc22
       refine awp_skip ?_
       refine peel_seq ?_
       refine awp_seq ?_
       refine rk boxes [] [0, 2, 3, 4, 5, 6] [] ⟨54, [(0, (vD (List.map encB l))), (2, (vI 0)), (3, (vI 0)), (4, (vI 0)), (5, (vI x2)), (6, (vI 0))], [], []⟩ (by kernel_rfl) .n ?_
       refine peel_seq ?_
       refine awp_seq ?_
       refine awp_seq ?_
       refine rk boxes [] [0, 2, 3, 4, 5, 6, 7] [] ⟨54, [(0, (vD (List.map encB l))), (2, (vI 0)), (3, (vI 0)), (4, (vI 0)), (5, (vI x2)), (6, (vI 0)), (7, (vI 1))], [], []⟩ (by kernel_rfl) .n ?_
       refine peel_seq ?_
       refine awp_block ?_
       have hN : numM l = (fold256 (List.take (Int.toNat x2) (List.drop 1 l)) 0, Int.toNat x2 + 1, 0) := nm_num (by assumption) (by assumption) (by assumption) (fun h0 y hy => by exfalso; omega) (fun _ y hy => by rw [ha19] at hy; cases hy; exact of_decide_eq_false hc22)
       have hS := (numM_spec hr).2.1
       rw [hN] at hS
       simp only at hS
       refine awp_loopP (ι := (Nat) × (Int)) (fun x => ⟨54, [(0, (vD (List.map encB l))), (2, (vI 0)), (3, (vI 0)), (4, (vI 0)), (5, (vI x2)), (6, (vI x.2)), (7, (vI (x.1 : Int)))], [], []⟩) (fun x => (1 ≤ x.1 ∧ (x.1 : Int) ≤ x2 + 1) ∧ x.2 = fold256 (List.take (x.1 - 1) (List.drop 1 l)) 0) (fun x => (x2 + 1).toNat - x.1) (1, 0) rfl ⟨⟨by (try simp only); omega, by (try simp only); omega⟩, rfl⟩ ?_
       rintro ⟨j23, n24⟩ hJ25
       try simp only at hJ25
       have hb1 := fold256_bound (List.take (j23 - 1) (List.drop 1 l)) 0 (Int.le_refl 0) (fun x hx => hr x (List.mem_of_mem_drop (List.mem_of_mem_take hx)))
       rw [← hJ25.2] at hb1
       refine awp_seq ?_
       refine awp_seq ?_
       refine rk boxes [] [0, 2, 3, 4, 5, 6, 7, 40] [] ⟨54, [(0, (vD (List.map encB l))), (2, (vI 0)), (3, (vI 0)), (4, (vI 0)), (5, (vI x2)), (6, (vI n24)), (7, (vI (j23 : Int))), (40, (vB (decide ((j23 : Int) ≤ x2))))], [], []⟩ (by kernel_rfl) .n ?_
       refine peel_seq ?_
       refine awp_cond (b := (decide ((j23 : Int) ≤ x2))) rfl (fun hc26 => ?_) (fun hc26 => ?_)
       ·skip
        have hc26p := of_decide_eq_true hc26
        refine awp_skip ?_
        refine peel_seq ?_
        refine awp_seq ?_
        refine awp_block ?_
        obtain ⟨x27, ha28, hd29⟩ := at_drop (l := l) (k := j23) (by (try simp only [List.length_map] at *); omega)
        have hr30 := hr x27 (List.mem_of_getElem? ha28)
        refine rk boxes [⟨1, false, [(vI 256), (vI n24)], [], (vI (256 * n24)), []⟩, ⟨4, false, [(vD (List.map encB l)), (vI (j23 : Int))], [], (vT (dP [(.v (.int .u8 x27))])), []⟩, ⟨6, false, [(sc (.int .u8 x27))], [], (vI x27), []⟩, ⟨7, false, [(vI (256 * n24)), (vI x27)], [], (vI (256 * n24 + x27)), []⟩] [0, 2, 3, 4, 5, 6, 7] [] ⟨54, [(0, (vD (List.map encB l))), (2, (vI 0)), (3, (vI 0)), (4, (vI 0)), (5, (vI x2)), (6, (vI (256 * n24 + x27))), (7, (vI (j23 : Int)))], [], []⟩ (by kernel_rfl) (.c (tri_int (256 * n24) (wrap_i64 (by (have ht := fold_take_le (l := (List.drop 1 l)) (fun x hx => hr x (List.mem_of_mem_drop hx)) (i := j23) (k := Int.toNat x2) (by omega)); rw [fold_next (by omega) ha28, ← hJ25.2] at ht; omega))) (.c (tri_index_sl (e := 5) (sz := 1) (bytes := 1) (i := j23) tab_ok rfl (at_map encB ha28) (all_map fun _ => rfl)) (.c (tri_scalar_eq [(.int .u8 x27)] (.int .i64 (IntKind.wrap .i64 x27)) rfl rfl rfl (by kernel_rfl) (congrArg (Value.int .i64) (wrap_i64 (by omega)))) (.c (tri_int (256 * n24 + x27) (wrap_i64 (by (have ht := fold_take_le (l := (List.drop 1 l)) (fun x hx => hr x (List.mem_of_mem_drop hx)) (i := j23) (k := Int.toNat x2) (by omega)); rw [fold_next (by omega) ha28, ← hJ25.2] at ht; omega))) .n)))) ?_
        refine peel_block ?_
        refine peel_seq ?_
        refine rk boxes [⟨1, false, [(vI (j23 : Int)), (vI 1)], [], (vI ((j23 : Int) + 1)), []⟩] [0, 2, 3, 4, 5, 6, 7] [] ⟨54, [(0, (vD (List.map encB l))), (2, (vI 0)), (3, (vI 0)), (4, (vI 0)), (5, (vI x2)), (6, (vI (256 * n24 + x27))), (7, (vI ((j23 : Int) + 1)))], [], []⟩ (by kernel_rfl) (.c (tri_int ((j23 : Int) + 1) (wrap_i64 (by omega))) .n) ?_
        exact peel_round (j23 + 1, (256 * n24 + x27)) rfl (⟨⟨by (try simp only); omega, by (try simp only); omega⟩, by simp only [Nat.add_sub_cancel]; rw [fold_next hJ25.1.1 ha28, ← hJ25.2]⟩) (by (try simp only); omega)
       ·skip
        have hc26p := of_decide_eq_false hc26
        have hE : n24 = fold256 (List.take (Int.toNat x2) (List.drop 1 l)) 0 := by rw [hJ25.2]; congr 2; omega
        refine awp_exit ?_
        refine peel_seq_exit ?_
        refine peel_seq_exit ?_
        refine peel_hit ?_
        refine peel_seq ?_
        refine awp_seq ?_
        refine rk boxes [⟨2, false, [(vI x2), (vI 1)], [], (vI ((Int.toNat x2 + 1 : Nat) : Int)), []⟩] [2, 3, 4] [] ⟨54, [(2, (vI n24)), (3, (vI ((Int.toNat x2 + 1 : Nat) : Int))), (4, (vI 0))], [], []⟩ (by kernel_rfl) (.c (tri_int ((Int.toNat x2 + 1 : Nat) : Int) ((wrap_i64 (by omega)).trans (by omega))) .n) ?_
        refine peel_seq ?_
        refine awp_ret ?_
        exact (have hR : numM l = (n24, Int.toNat x2 + 1, 0) := (by rw [hN, ← hE]); ends_ret rfl (show some ((.tup [(.c (cI n24)), (.c (cI ((Int.toNat x2 + 1 : Nat) : Int))), (.c (cI 0))]) : SV) = some ((.tup [(.c (cI (numM l).1)), (.c (cI ((numM l).2.1 : Int))), (.c (cI (numM l).2.2))]) : SV) from by first | (rw [hR]; done) | (rw [hR]; rfl)) rfl)
    | true =>
     have hb8p := of_decide_eq_true hb8
     obtain ⟨x31, ha32, hd33⟩ := at_drop (l := l) (k := 1) (by (try simp only [List.length_map] at *); omega)
     have hr34 := hr x31 (List.mem_of_getElem? ha32)
     refine rk boxes [⟨1, false, [(vI x2), (vI 0)], [], (vB true), []⟩, ⟨4, false, [(vD (List.map encB l)), (vI 1)], [], (vT (dP [(.v (.int .u8 x31))])), []⟩] [0, 2, 3, 4, 5, 29] [] ⟨54, [(0, (vD (List.map encB l))), (2, (vI 0)), (3, (vI 0)), (4, (vI 0)), (5, (vI x2)), (29, (vB (x31 == 0)))], [], []⟩ (by kernel_rfl) (.c (tri_scalar_eq [(.int .i64 x2), (.int .i64 0)] (.bool (decide (x2 > 0))) rfl rfl rfl (by kernel_rfl) (congrArg Value.bool hb8)) (.c (tri_index_sl (e := 5) (sz := 1) (bytes := 1) (i := 1) tab_ok rfl (at_map encB ha32) (all_map fun _ => rfl)) .n)) ?_
     refine peel_seq ?_
     refine awp_cond (b := (x31 == 0)) rfl (fun hc35 => ?_) (fun hc35 => ?_)
     ·skip
      have hc35p : x31 = 0 := by simpa using hc35
      refine awp_seq ?_
      refine rk boxes [] [0, 2, 3, 4, 5] [] ⟨54, [(0, (vD (List.map encB l))), (2, (vI 0)), (3, (vI 0)), (4, (vI 11)), (5, (vI x2))], [], []⟩ (by kernel_rfl) .n ?_
      refine peel_seq ?_
      refine awp_ret ?_
      refine peel_seq_ret ?_
      exact (have hR : numM l = (0, 0, 11) := (by first | (exfalso; omega) | exact nm_nil (by assumption) | exact nm_form (by assumption) (by assumption) | exact nm_few (by assumption) (by omega) (by assumption) (by assumption) | exact nm_zero (by assumption) (by omega) (by assumption) (by assumption) (by assumption) (by assumption) (by assumption) | exact nm_great (by assumption) (by assumption) (by assumption) (by assumption) (by assumption) (by assumption) (by assumption)); ends_ret rfl (show some ((.tup [(.c (cI 0)), (.c (cI 0)), (.c (cI 11))]) : SV) = some ((.tup [(.c (cI (numM l).1)), (.c (cI ((numM l).2.1 : Int))), (.c (cI (numM l).2.2))]) : SV) from by first | (rw [hR]; done) | (rw [hR]; rfl)) rfl)
     ·skip
      have hc35p : x31 ≠ 0 := by simpa using hc35
      refine awp_skip ?_
      refine peel_seq ?_
      refine awp_seq ?_
      refine awp_seq ?_
      cases hb36 : (x2 == 8) with
      | false =>
       have hb36p : x2 ≠ 8 := by simpa using hb36
       refine rk boxes [⟨1, false, [(vI x2), (vI 8)], [], (vB false), []⟩] [0, 2, 3, 4, 5, 37] [] ⟨54, [(0, (vD (List.map encB l))), (2, (vI 0)), (3, (vI 0)), (4, (vI 0)), (5, (vI x2)), (37, (vB false))], [], []⟩ (by kernel_rfl) (.c (tri_scalar_eq [(.int .i64 x2), (.int .i64 8)] (.bool (x2 == 8)) rfl rfl rfl (by kernel_rfl) (congrArg Value.bool hb36)) .n) ?_
       refine peel_seq ?_
       refine awp_false rfl ?_
       refine awp_skip ?_
       refine peel_seq ?_
       refine awp_seq ?_
       refine rk boxes [] [0, 2, 3, 4, 5, 6] [] ⟨54, [(0, (vD (List.map encB l))), (2, (vI 0)), (3, (vI 0)), (4, (vI 0)), (5, (vI x2)), (6, (vI 0))], [], []⟩ (by kernel_rfl) .n ?_
       refine peel_seq ?_
       refine awp_seq ?_
       refine awp_seq ?_
       refine rk boxes [] [0, 2, 3, 4, 5, 6, 7] [] ⟨54, [(0, (vD (List.map encB l))), (2, (vI 0)), (3, (vI 0)), (4, (vI 0)), (5, (vI x2)), (6, (vI 0)), (7, (vI 1))], [], []⟩ (by kernel_rfl) .n ?_
       refine peel_seq ?_
       refine awp_block ?_
       have hN : numM l = (fold256 (List.take (Int.toNat x2) (List.drop 1 l)) 0, Int.toNat x2 + 1, 0) := nm_num (by assumption) (by assumption) (by assumption) (fun _ y hy => by rw [ha32] at hy; cases hy; simpa using hc35) (fun h8 y hy => by exfalso; subst h8; simp at hb36)
       have hS := (numM_spec hr).2.1
       rw [hN] at hS
       simp only at hS
       refine awp_loopP (ι := (Nat) × (Int)) (fun x => ⟨54, [(0, (vD (List.map encB l))), (2, (vI 0)), (3, (vI 0)), (4, (vI 0)), (5, (vI x2)), (6, (vI x.2)), (7, (vI (x.1 : Int)))], [], []⟩) (fun x => (1 ≤ x.1 ∧ (x.1 : Int) ≤ x2 + 1) ∧ x.2 = fold256 (List.take (x.1 - 1) (List.drop 1 l)) 0) (fun x => (x2 + 1).toNat - x.1) (1, 0) rfl ⟨⟨by (try simp only); omega, by (try simp only); omega⟩, rfl⟩ ?_
       rintro ⟨j37, n38⟩ hJ39
       try simp only at hJ39
       have hb1 := fold256_bound (List.take (j37 - 1) (List.drop 1 l)) 0 (Int.le_refl 0) (fun x hx => hr x (List.mem_of_mem_drop (List.mem_of_mem_take hx)))
       rw [← hJ39.2] at hb1
       refine awp_seq ?_
       refine awp_seq ?_
       refine rk boxes [] [0, 2, 3, 4, 5, 6, 7, 40] [] ⟨54, [(0, (vD (List.map encB l))), (2, (vI 0)), (3, (vI 0)), (4, (vI 0)), (5, (vI x2)), (6, (vI n38)), (7, (vI (j37 : Int))), (40, (vB (decide ((j37 : Int) ≤ x2))))], [], []⟩ (by kernel_rfl) .n ?_
       refine peel_seq ?_
       refine awp_cond (b := (decide ((j37 : Int) ≤ x2))) rfl (fun hc40 => ?_) (fun hc40 => ?_)
       ·skip
        have hc40p := of_decide_eq_true hc40
        refine awp_skip ?_
        refine peel_seq ?_
        refine awp_seq ?_
        refine awp_block ?_
        obtain ⟨x41, ha42, hd43⟩ := at_drop (l := l) (k := j37) (by (try simp only [List.length_map] at *); omega)
        have hr44 := hr x41 (List.mem_of_getElem? ha42)
        refine rk boxes [⟨1, false, [(vI 256), (vI n38)], [], (vI (256 * n38)), []⟩, ⟨4, false, [(vD (List.map encB l)), (vI (j37 : Int))], [], (vT (dP [(.v (.int .u8 x41))])), []⟩, ⟨6, false, [(sc (.int .u8 x41))], [], (vI x41), []⟩, ⟨7, false, [(vI (256 * n38)), (vI x41)], [], (vI (256 * n38 + x41)), []⟩] [0, 2, 3, 4, 5, 6, 7] [] ⟨54, [(0, (vD (List.map encB l))), (2, (vI 0)), (3, (vI 0)), (4, (vI 0)), (5, (vI x2)), (6, (vI (256 * n38 + x41))), (7, (vI (j37 : Int)))], [], []⟩ (by kernel_rfl) (.c (tri_int (256 * n38) (wrap_i64 (by (have ht := fold_take_le (l := (List.drop 1 l)) (fun x hx => hr x (List.mem_of_mem_drop hx)) (i := j37) (k := Int.toNat x2) (by omega)); rw [fold_next (by omega) ha42, ← hJ39.2] at ht; omega))) (.c (tri_index_sl (e := 5) (sz := 1) (bytes := 1) (i := j37) tab_ok rfl (at_map encB ha42) (all_map fun _ => rfl)) (.c (tri_scalar_eq [(.int .u8 x41)] (.int .i64 (IntKind.wrap .i64 x41)) rfl rfl rfl (by kernel_rfl) (congrArg (Value.int .i64) (wrap_i64 (by omega)))) (.c (tri_int (256 * n38 + x41) (wrap_i64 (by (have ht := fold_take_le (l := (List.drop 1 l)) (fun x hx => hr x (List.mem_of_mem_drop hx)) (i := j37) (k := Int.toNat x2) (by omega)); rw [fold_next (by omega) ha42, ← hJ39.2] at ht; omega))) .n)))) ?_
        refine peel_block ?_
        refine peel_seq ?_
        refine rk boxes [⟨1, false, [(vI (j37 : Int)), (vI 1)], [], (vI ((j37 : Int) + 1)), []⟩] [0, 2, 3, 4, 5, 6, 7] [] ⟨54, [(0, (vD (List.map encB l))), (2, (vI 0)), (3, (vI 0)), (4, (vI 0)), (5, (vI x2)), (6, (vI (256 * n38 + x41))), (7, (vI ((j37 : Int) + 1)))], [], []⟩ (by kernel_rfl) (.c (tri_int ((j37 : Int) + 1) (wrap_i64 (by omega))) .n) ?_
        exact peel_round (j37 + 1, (256 * n38 + x41)) rfl (⟨⟨by (try simp only); omega, by (try simp only); omega⟩, by simp only [Nat.add_sub_cancel]; rw [fold_next hJ39.1.1 ha42, ← hJ39.2]⟩) (by (try simp only); omega)
       ·skip
        have hc40p := of_decide_eq_false hc40
        have hE : n38 = fold256 (List.take (Int.toNat x2) (List.drop 1 l)) 0 := by rw [hJ39.2]; congr 2; omega
        refine awp_exit ?_
        refine peel_seq_exit ?_
        refine peel_seq_exit ?_
        refine peel_hit ?_
        refine peel_seq ?_
        refine awp_seq ?_
        refine rk boxes [⟨2, false, [(vI x2), (vI 1)], [], (vI ((Int.toNat x2 + 1 : Nat) : Int)), []⟩] [2, 3, 4] [] ⟨54, [(2, (vI n38)), (3, (vI ((Int.toNat x2 + 1 : Nat) : Int))), (4, (vI 0))], [], []⟩ (by kernel_rfl) (.c (tri_int ((Int.toNat x2 + 1 : Nat) : Int) ((wrap_i64 (by omega)).trans (by omega))) .n) ?_
        refine peel_seq ?_
        refine awp_ret ?_
        exact (have hR : numM l = (n38, Int.toNat x2 + 1, 0) := (by rw [hN, ← hE]); ends_ret rfl (show some ((.tup [(.c (cI n38)), (.c (cI ((Int.toNat x2 + 1 : Nat) : Int))), (.c (cI 0))]) : SV) = some ((.tup [(.c (cI (numM l).1)), (.c (cI ((numM l).2.1 : Int))), (.c (cI (numM l).2.2))]) : SV) from by first | (rw [hR]; done) | (rw [hR]; rfl)) rfl)
      | true =>
       have hb36p : x2 = 8 := by simpa using hb36
       refine rk boxes [⟨1, false, [(vI x2), (vI 8)], [], (vB true), []⟩, ⟨4, false, [(vD (List.map encB l)), (vI 1)], [], (vT (dP [(.v (.int .u8 x31))])), []⟩] [0, 2, 3, 4, 5, 37] [] ⟨54, [(0, (vD (List.map encB l))), (2, (vI 0)), (3, (vI 0)), (4, (vI 0)), (5, (vI x2)), (37, (vB (decide (x31 > 127))))], [], []⟩ (by kernel_rfl) (.c (tri_scalar_eq [(.int .i64 x2), (.int .i64 8)] (.bool (x2 == 8)) rfl rfl rfl (by kernel_rfl) (congrArg Value.bool hb36)) (.c (tri_index_sl (e := 5) (sz := 1) (bytes := 1) (i := 1) tab_ok rfl (at_map encB ha32) (all_map fun _ => rfl)) .n)) ?_
       refine peel_seq ?_
       refine awp_cond (b := (decide (x31 > 127))) rfl (fun hc45 => ?_) (fun hc45 => ?_)
       ·skip
        have hc45p := of_decide_eq_true hc45
        refine awp_seq ?_
        refine rk boxes [] [0, 2, 3, 4, 5] [] ⟨54, [(0, (vD (List.map encB l))), (2, (vI 0)), (3, (vI 0)), (4, (vI 5)), (5, (vI x2))], [], []⟩ (by kernel_rfl) .n ?_
        refine peel_seq ?_
        refine awp_ret ?_
        refine peel_seq_ret ?_
        exact (have hR : numM l = (0, 0, 5) := (by first | (exfalso; omega) | exact nm_nil (by assumption) | exact nm_form (by assumption) (by assumption) | exact nm_few (by assumption) (by omega) (by assumption) (by assumption) | exact nm_zero (by assumption) (by omega) (by assumption) (by assumption) (by assumption) (by assumption) (by assumption) | exact nm_great (by assumption) (by assumption) (by assumption) (by assumption) (by assumption) (by assumption) (by assumption)); ends_ret rfl (show some ((.tup [(.c (cI 0)), (.c (cI 0)), (.c (cI 5))]) : SV) = some ((.tup [(.c (cI (numM l).1)), (.c (cI ((numM l).2.1 : Int))), (.c (cI (numM l).2.2))]) : SV) from by first | (rw [hR]; done) | (rw [hR]; rfl)) rfl)
       ·skip
        have hc45p := of_decide_eq_false hc45
        refine awp_skip ?_
        refine peel_seq ?_
        refine awp_seq ?_
        refine rk boxes [] [0, 2, 3, 4, 5, 6] [] ⟨54, [(0, (vD (List.map encB l))), (2, (vI 0)), (3, (vI 0)), (4, (vI 0)), (5, (vI x2)), (6, (vI 0))], [], []⟩ (by kernel_rfl) .n ?_
        refine peel_seq ?_
        refine awp_seq ?_
        refine awp_seq ?_
        refine rk boxes [] [0, 2, 3, 4, 5, 6, 7] [] ⟨54, [(0, (vD (List.map encB l))), (2, (vI 0)), (3, (vI 0)), (4, (vI 0)), (5, (vI x2)), (6, (vI 0)), (7, (vI 1))], [], []⟩ (by kernel_rfl) .n ?_
        refine peel_seq ?_
        refine awp_block ?_
        have hN : numM l = (fold256 (List.take (Int.toNat x2) (List.drop 1 l)) 0, Int.toNat x2 + 1, 0) := nm_num (by assumption) (by assumption) (by assumption) (fun _ y hy => by rw [ha32] at hy; cases hy; simpa using hc35) (fun _ y hy => by rw [ha32] at hy; cases hy; exact of_decide_eq_false hc45)
        have hS := (numM_spec hr).2.1
        rw [hN] at hS
        simp only at hS
        refine awp_loopP (ι := (Nat) × (Int)) (fun x => ⟨54, [(0, (vD (List.map encB l))), (2, (vI 0)), (3, (vI 0)), (4, (vI 0)), (5, (vI x2)), (6, (vI x.2)), (7, (vI (x.1 : Int)))], [], []⟩) (fun x => (1 ≤ x.1 ∧ (x.1 : Int) ≤ x2 + 1) ∧ x.2 = fold256 (List.take (x.1 - 1) (List.drop 1 l)) 0) (fun x => (x2 + 1).toNat - x.1) (1, 0) rfl ⟨⟨by (try simp only); omega, by (try simp only); omega⟩, rfl⟩ ?_
        rintro ⟨j46, n47⟩ hJ48
        try simp only at hJ48
        have hb1 := fold256_bound (List.take (j46 - 1) (List.drop 1 l)) 0 (Int.le_refl 0) (fun x hx => hr x (List.mem_of_mem_drop (List.mem_of_mem_take hx)))
        rw [← hJ48.2] at hb1
        refine awp_seq ?_
        refine awp_seq ?_
        refine rk boxes [] [0, 2, 3, 4, 5, 6, 7, 40] [] ⟨54, [(0, (vD (List.map encB l))), (2, (vI 0)), (3, (vI 0)), (4, (vI 0)), (5, (vI x2)), (6, (vI n47)), (7, (vI (j46 : Int))), (40, (vB (decide ((j46 : Int) ≤ x2))))], [], []⟩ (by kernel_rfl) .n ?_
        refine peel_seq ?_
        refine awp_cond (b := (decide ((j46 : Int) ≤ x2))) rfl (fun hc49 => ?_) (fun hc49 => ?_)
        ·skip
         have hc49p := of_decide_eq_true hc49
         refine awp_skip ?_
         refine peel_seq ?_
         refine awp_seq ?_
         refine awp_block ?_
         obtain ⟨x50, ha51, hd52⟩ := at_drop (l := l) (k := j46) (by (try simp only [List.length_map] at *); omega)
         have hr53 := hr x50 (List.mem_of_getElem? ha51)
         refine rk boxes [⟨1, false, [(vI 256), (vI n47)], [], (vI (256 * n47)), []⟩, ⟨4, false, [(vD (List.map encB l)), (vI (j46 : Int))], [], (vT (dP [(.v (.int .u8 x50))])), []⟩, ⟨6, false, [(sc (.int .u8 x50))], [], (vI x50), []⟩, ⟨7, false, [(vI (256 * n47)), (vI x50)], [], (vI (256 * n47 + x50)), []⟩] [0, 2, 3, 4, 5, 6, 7] [] ⟨54, [(0, (vD (List.map encB l))), (2, (vI 0)), (3, (vI 0)), (4, (vI 0)), (5, (vI x2)), (6, (vI (256 * n47 + x50))), (7, (vI (j46 : Int)))], [], []⟩ (by kernel_rfl) (.c (tri_int (256 * n47) (wrap_i64 (by (have ht := fold_take_le (l := (List.drop 1 l)) (fun x hx => hr x (List.mem_of_mem_drop hx)) (i := j46) (k := Int.toNat x2) (by omega)); rw [fold_next (by omega) ha51, ← hJ48.2] at ht; omega))) (.c (tri_index_sl (e := 5) (sz := 1) (bytes := 1) (i := j46) tab_ok rfl (at_map encB ha51) (all_map fun _ => rfl)) (.c (tri_scalar_eq [(.int .u8 x50)] (.int .i64 (IntKind.wrap .i64 x50)) rfl rfl rfl (by kernel_rfl) (congrArg (Value.int .i64) (wrap_i64 (by omega)))) (.c (tri_int (256 * n47 + x50) (wrap_i64 (by (have ht := fold_take_le (l := (List.drop 1 l)) (fun x hx => hr x (List.mem_of_mem_drop hx)) (i := j46) (k := Int.toNat x2) (by omega)); rw [fold_next (by omega) ha51, ← hJ48.2] at ht; omega))) .n)))) ?_
         refine peel_block ?_
         refine peel_seq ?_
         refine rk boxes [⟨1, false, [(vI (j46 : Int)), (vI 1)], [], (vI ((j46 : Int) + 1)), []⟩] [0, 2, 3, 4, 5, 6, 7] [] ⟨54, [(0, (vD (List.map encB l))), (2, (vI 0)), (3, (vI 0)), (4, (vI 0)), (5, (vI x2)), (6, (vI (256 * n47 + x50))), (7, (vI ((j46 : Int) + 1)))], [], []⟩ (by kernel_rfl) (.c (tri_int ((j46 : Int) + 1) (wrap_i64 (by omega))) .n) ?_
         exact peel_round (j46 + 1, (256 * n47 + x50)) rfl (⟨⟨by (try simp only); omega, by (try simp only); omega⟩, by simp only [Nat.add_sub_cancel]; rw [fold_next hJ48.1.1 ha51, ← hJ48.2]⟩) (by (try simp only); omega)
        ·skip
         have hc49p := of_decide_eq_false hc49
         have hE : n47 = fold256 (List.take (Int.toNat x2) (List.drop 1 l)) 0 := by rw [hJ48.2]; congr 2; omega
         refine awp_exit ?_
         refine peel_seq_exit ?_
         refine peel_seq_exit ?_
         refine peel_hit ?_
         refine peel_seq ?_
         refine awp_seq ?_
         refine rk boxes [⟨2, false, [(vI x2), (vI 1)], [], (vI ((Int.toNat x2 + 1 : Nat) : Int)), []⟩] [2, 3, 4] [] ⟨54, [(2, (vI n47)), (3, (vI ((Int.toNat x2 + 1 : Nat) : Int))), (4, (vI 0))], [], []⟩ (by kernel_rfl) (.c (tri_int ((Int.toNat x2 + 1 : Nat) : Int) ((wrap_i64 (by omega)).trans (by omega))) .n) ?_
         refine peel_seq ?_
         refine awp_ret ?_
         exact (have hR : numM l = (n47, Int.toNat x2 + 1, 0) := (by rw [hN, ← hE]); ends_ret rfl (show some ((.tup [(.c (cI n47)), (.c (cI ((Int.toNat x2 + 1 : Nat) : Int))), (.c (cI 0))]) : SV) = some ((.tup [(.c (cI (numM l).1)), (.c (cI ((numM l).2.1 : Int))), (.c (cI (numM l).2.2))]) : SV) from by first | (rw [hR]; done) | (rw [hR]; rfl)) rfl)
theorem q_on_err (b : List Int) (p : Nat) (e : Int) (k e2 : Int) (h : (e2 == 0) = false) : Sat Try.prog 82 [(vL 7000 0), (vI k), (vI e2)] [(7000, (.cells 74 [(cD (List.map encB b)), (cI (p : Int)), (cI e)]))] (vB false) [(7000, (.cells 74 [(cD (List.map encB b)), (cI (p : Int)), (cI e2)]))] := by
 refine sat_of_body tab_ok Try.func82 rfl (by kernel_rfl) (Nat.le_of_ble_eq_true rfl) rfl fun G => ?_
 refine awp_seq ?_
 refine rk boxes [] [0, 1, 2, 6] [7000] ⟨21, [(0, (vL 7000 0)), (1, (vI k)), (2, (vI e2)), (6, (vB false))], [(7000, (.cells 74 [(cD (List.map encB b)), (cI (p : Int)), (cI e)]))], [7000]⟩ (by kernel_rfl) .n ?_
 refine peel_seq ?_
 refine awp_seq ?_
 refine awp_seq ?_
 refine rk boxes [⟨1, false, [(vI e2), (vI 0)], [], (vB true), []⟩] [0, 1, 2, 6, 8] [7000] ⟨21, [(0, (vL 7000 0)), (1, (vI k)), (2, (vI e2)), (6, (vB false)), (8, (vB true))], [(7000, (.cells 74 [(cD (List.map encB b)), (cI (p : Int)), (cI e)]))], [7000]⟩ (by kernel_rfl) (.c (tri_scalar_eq [(.int .i64 e2), (.int .i64 0)] (.bool (e2 != 0)) rfl rfl rfl (by kernel_rfl) (congrArg Value.bool (show (e2 != 0) = true from by simpa using h))) .n) ?_
 refine peel_seq ?_
 refine awp_true rfl ?_
 refine awp_seq ?_
 refine rk boxes [] [0, 1, 6] [7000] ⟨21, [(0, (vL 7000 0)), (1, (vI k)), (6, (vB false))], [(7000, (.cells 74 [(cD (List.map encB b)), (cI (p : Int)), (cI e2)]))], [7000]⟩ (by kernel_rfl) .n ?_
 refine peel_seq ?_
 refine awp_seq ?_
 refine rk boxes [] [0, 1, 6] [7000] ⟨21, [(0, (vL 7000 0)), (1, (vI k)), (6, (vB false))], [(7000, (.cells 74 [(cD (List.map encB b)), (cI (p : Int)), (cI e2)]))], [7000]⟩ (by kernel_rfl) .n ?_
 refine peel_seq ?_
 refine awp_ret ?_
 refine peel_seq_ret ?_
 exact ends_ret rfl rfl rfl
theorem q_on_ok (b : List Int) (p : Nat) (e : Int) (k : Nat) (e2 : Int) (h : (e2 == 0) = true) (hk : (p : Int) + k ≤ 1000000000) : Sat Try.prog 82 [(vL 7000 0), (vI (k : Int)), (vI e2)] [(7000, (.cells 74 [(cD (List.map encB b)), (cI (p : Int)), (cI e)]))] (vB true) [(7000, (.cells 74 [(cD (List.map encB b)), (cI (((p + k) : Nat) : Int)), (cI e)]))] := by
 refine sat_of_body tab_ok Try.func82 rfl (by kernel_rfl) (Nat.le_of_ble_eq_true rfl) rfl fun G => ?_
 refine awp_seq ?_
 refine rk boxes [] [0, 1, 2, 6] [7000] ⟨21, [(0, (vL 7000 0)), (1, (vI (k : Int))), (2, (vI e2)), (6, (vB false))], [(7000, (.cells 74 [(cD (List.map encB b)), (cI (p : Int)), (cI e)]))], [7000]⟩ (by kernel_rfl) .n ?_
 refine peel_seq ?_
 refine awp_seq ?_
 refine awp_seq ?_
 refine rk boxes [⟨1, false, [(vI e2), (vI 0)], [], (vB false), []⟩] [0, 1, 2, 6, 8] [7000] ⟨21, [(0, (vL 7000 0)), (1, (vI (k : Int))), (2, (vI e2)), (6, (vB false)), (8, (vB false))], [(7000, (.cells 74 [(cD (List.map encB b)), (cI (p : Int)), (cI e)]))], [7000]⟩ (by kernel_rfl) (.c (tri_scalar_eq [(.int .i64 e2), (.int .i64 0)] (.bool (e2 != 0)) rfl rfl rfl (by kernel_rfl) (congrArg Value.bool (show (e2 != 0) = false from by simpa using h))) .n) ?_
 refine peel_seq ?_
 refine awp_false rfl ?_
 refine awp_skip ?_
 refine peel_seq ?_
 refine awp_seq ?_
 refine rk boxes [⟨5, false, [(vI (p : Int)), (vI (k : Int))], [], (vI ((p : Int) + (k : Int))), []⟩] [6] [7000] ⟨21, [(6, (vB false))], [(7000, (.cells 74 [(cD (List.map encB b)), (cI ((p : Int) + (k : Int))), (cI e)]))], [7000]⟩ (by kernel_rfl) (.c (tri_int ((p : Int) + (k : Int)) (wrap_i64 (by omega))) .n) ?_
 refine peel_seq ?_
 refine awp_seq ?_
 refine rk boxes [] [6] [7000] ⟨21, [(6, (vB true))], [(7000, (.cells 74 [(cD (List.map encB b)), (cI ((p : Int) + (k : Int))), (cI e)]))], [7000]⟩ (by kernel_rfl) .n ?_
 refine peel_seq ?_
 refine awp_ret ?_
 exact ends_ret rfl rfl rfl
theorem q_RWithin0 (b : List Int) (p : Nat) (e : Int) (hs : RS.ok (RS.mk b p e)) (lo : Int) (hi : Int) : Sat Try.prog 66 [(vL 7000 0), (vI lo), (vI hi)] [(7000, (.cells 74 [(cD (List.map encB b)), (cI (p : Int)), (cI e)]))] (vI (rdW (RS.mk b p e) lo hi).1) [(7000, (.cells 74 [(cD (List.map encB (RS.b ((rdW (RS.mk b p e) lo hi).2)))), (cI ((RS.at_ ((rdW (RS.mk b p e) lo hi).2)) : Int)), (cI (RS.e ((rdW (RS.mk b p e) lo hi).2)))]))] := by
 refine sat_of_body tab_ok Try.func66 rfl (by kernel_rfl) (Nat.le_of_ble_eq_true rfl) rfl fun G => ?_
 have hple : p ≤ b.length := hs.le
 have hbl : b.length ≤ 1000000 := hs.few
 have hrd : ∀ x ∈ (List.drop p b), 0 ≤ x ∧ x ≤ 255 := fun x hx => hs.rng x (List.mem_of_mem_drop hx)
 have hsp0 := numM_spec hrd
 simp only [List.length_drop] at hsp0
 refine awp_seq ?_
 refine rk boxes [] [0, 1, 2, 6] [7000] ⟨47, [(0, (vL 7000 0)), (1, (vI lo)), (2, (vI hi)), (6, (vI 0))], [(7000, (.cells 74 [(cD (List.map encB b)), (cI (p : Int)), (cI e)]))], [7000]⟩ (by kernel_rfl) .n ?_
 refine peel_seq ?_
 refine awp_seq ?_
 refine awp_seq ?_
 refine rk boxes [] [0, 1, 2, 6, 14] [7000] ⟨47, [(0, (vL 7000 0)), (1, (vI lo)), (2, (vI hi)), (6, (vI 0)), (14, (vB (e != 0)))], [(7000, (.cells 74 [(cD (List.map encB b)), (cI (p : Int)), (cI e)]))], [7000]⟩ (by kernel_rfl) .n ?_
 refine peel_seq ?_
 refine awp_cond (b := (e != 0)) rfl (fun hc1 => ?_) (fun hc1 => ?_)
 ·skip
  have hc1p : e ≠ 0 := by simpa using hc1
  refine awp_seq ?_
  refine rk boxes [] [0, 1, 2, 6] [7000] ⟨47, [(0, (vL 7000 0)), (1, (vI lo)), (2, (vI hi)), (6, (vI 0))], [(7000, (.cells 74 [(cD (List.map encB b)), (cI (p : Int)), (cI e)]))], [7000]⟩ (by kernel_rfl) .n ?_
  refine peel_seq ?_
  refine awp_ret ?_
  refine peel_seq_ret ?_
  exact (have hR : (rdW (RS.mk b p e) lo hi) = (0, RS.mk b p e) := (by (have hsp := numM_spec (l := (List.drop p b)) (fun x hx => hs.rng x (List.mem_of_mem_drop hx))); (have g2 : (e == 0) = false := by simpa using hc1); first | (simp only [rdW, rdN, g2, cond_true, cond_false, Bool.not_true, Bool.not_false, Nat.add_assoc]; done) | (simp only [rdW, rdN, g2, cond_true, cond_false, Bool.not_true, Bool.not_false, Nat.add_assoc]; rfl)); ends_ret rfl (show some ((vI 0) : SV) = some ((vI (rdW (RS.mk b p e) lo hi).1) : SV) from by rw [hR]) (show some ([(7000, (.cells 74 [(cD (List.map encB b)), (cI (p : Int)), (cI e)]))] : Objs) = some ([(7000, (.cells 74 [(cD (List.map encB (RS.b ((rdW (RS.mk b p e) lo hi).2)))), (cI ((RS.at_ ((rdW (RS.mk b p e) lo hi).2)) : Int)), (cI (RS.e ((rdW (RS.mk b p e) lo hi).2)))]))] : Objs) from by rw [hR]))
 ·skip
  have hc1p : e = 0 := by simpa using hc1
  refine awp_skip ?_
  refine peel_seq ?_
  refine awp_seq ?_
  refine rk boxes [⟨8, false, [(vD (List.map encB b)), (vI (p : Int))], [], (vD (List.map encB (List.drop p b))), []⟩, ⟨9, false, [(sc (.func (.func 81) #[] #[])), (vD (List.map encB (List.drop p b)))], [], (.tup [(.c (cI (numM (List.drop p b)).1)), (.c (cI ((numM (List.drop p b)).2.1 : Int))), (.c (cI (numM (List.drop p b)).2.2))]), []⟩] [0, 1, 2, 6, 7, 8, 9] [7000] ⟨47, [(0, (vL 7000 0)), (1, (vI lo)), (2, (vI hi)), (6, (vI 0)), (7, (vI (numM (List.drop p b)).1)), (8, (vI ((numM (List.drop p b)).2.1 : Int))), (9, (vI (numM (List.drop p b)).2.2))], [(7000, (.cells 74 [(cD (List.map encB b)), (cI (p : Int)), (cI e)]))], [7000]⟩ (by kernel_rfl) (.c (tri_res (tri_slice_from (e := 5) (bytes := 1) (l := p) tab_ok rfl (all_map fun _ => rfl) (by (try simp only [List.length_map] at *); omega)) (by simp only [List.map_drop]; rfl)) (.c (tri_call (q_number (List.drop p b) (by (simp only [List.length_drop]); omega) (by exact hrd))) .n)) ?_
  refine peel_seq ?_
  refine awp_seq ?_
  refine awp_seq ?_
  cases hb3 : ((numM (List.drop p b)).2.2 == 0) with
  | false =>
   have hb3p : (numM (List.drop p b)).2.2 ≠ 0 := by simpa using hb3
   refine rk boxes [⟨1, false, [(vI (numM (List.drop p b)).2.2), (vI 0)], [], (vB false), []⟩] [0, 6, 7, 8, 9, 40] [7000] ⟨47, [(0, (vL 7000 0)), (6, (vI 0)), (7, (vI (numM (List.drop p b)).1)), (8, (vI ((numM (List.drop p b)).2.1 : Int))), (9, (vI (numM (List.drop p b)).2.2)), (40, (vB false))], [(7000, (.cells 74 [(cD (List.map encB b)), (cI (p : Int)), (cI e)]))], [7000]⟩ (by kernel_rfl) (.c (tri_scalar_eq [(.int .i64 (numM (List.drop p b)).2.2), (.int .i64 0)] (.bool ((numM (List.drop p b)).2.2 == 0)) rfl rfl rfl (by kernel_rfl) (congrArg Value.bool hb3)) .n) ?_
   refine peel_seq ?_
   refine awp_false rfl ?_
   refine awp_skip ?_
   refine peel_seq ?_
   refine awp_seq ?_
   refine awp_seq ?_
   refine rk boxes [⟨3, false, [(sc (.func (.func 82) #[] #[])), (vL 7000 0), (vI ((numM (List.drop p b)).2.1 : Int)), (vI (numM (List.drop p b)).2.2)], [(7000, (.cells 74 [(cD (List.map encB b)), (cI (p : Int)), (cI e)]))], (vB false), [(7000, (.cells 74 [(cD (List.map encB b)), (cI (p : Int)), (cI (numM (List.drop p b)).2.2)]))]⟩] [6, 7, 45] [7000] ⟨47, [(6, (vI 0)), (7, (vI (numM (List.drop p b)).1)), (45, (vB true))], [(7000, (.cells 74 [(cD (List.map encB b)), (cI (p : Int)), (cI (numM (List.drop p b)).2.2)]))], [7000]⟩ (by kernel_rfl) (.c (tri_call (q_on_err b p e ((numM (List.drop p b)).2.1 : Int) ((numM (List.drop p b)).2.2) hb3)) .n) ?_
   refine peel_seq ?_
   refine awp_true rfl ?_
   refine awp_seq ?_
   refine rk boxes [] [6, 7] [7000] ⟨47, [(6, (vI 0)), (7, (vI (numM (List.drop p b)).1))], [(7000, (.cells 74 [(cD (List.map encB b)), (cI (p : Int)), (cI (numM (List.drop p b)).2.2)]))], [7000]⟩ (by kernel_rfl) .n ?_
   refine peel_seq ?_
   refine awp_ret ?_
   refine peel_seq_ret ?_
   exact (have hR : (rdW (RS.mk b p e) lo hi) = (0, RS.mk b p ((numM (List.drop p b)).2.2)) := (by (have hsp := numM_spec (l := (List.drop p b)) (fun x hx => hs.rng x (List.mem_of_mem_drop hx))); (have g4 : (e == 0) = true := by simpa using hc1); first | (simp only [rdW, rdN, g4, hb3, cond_true, cond_false, Bool.not_true, Bool.not_false, Nat.add_assoc]; done) | (simp only [rdW, rdN, g4, hb3, cond_true, cond_false, Bool.not_true, Bool.not_false, Nat.add_assoc]; rfl)); ends_ret rfl (show some ((vI 0) : SV) = some ((vI (rdW (RS.mk b p e) lo hi).1) : SV) from by rw [hR]) (show some ([(7000, (.cells 74 [(cD (List.map encB b)), (cI (p : Int)), (cI (numM (List.drop p b)).2.2)]))] : Objs) = some ([(7000, (.cells 74 [(cD (List.map encB (RS.b ((rdW (RS.mk b p e) lo hi).2)))), (cI ((RS.at_ ((rdW (RS.mk b p e) lo hi).2)) : Int)), (cI (RS.e ((rdW (RS.mk b p e) lo hi).2)))]))] : Objs) from by rw [hR]))
  | true =>
   have hb3p : (numM (List.drop p b)).2.2 = 0 := by simpa using hb3
   cases hb5 : (decide ((numM (List.drop p b)).1 < lo)) with
   | false =>
    have hb5p := of_decide_eq_false hb5
    refine rk boxes [⟨1, false, [(vI (numM (List.drop p b)).2.2), (vI 0)], [], (vB true), []⟩, ⟨5, false, [(vI (numM (List.drop p b)).1), (vI lo)], [], (vB false), []⟩] [0, 6, 7, 8, 9, 40] [7000] ⟨47, [(0, (vL 7000 0)), (6, (vI 0)), (7, (vI (numM (List.drop p b)).1)), (8, (vI ((numM (List.drop p b)).2.1 : Int))), (9, (vI (numM (List.drop p b)).2.2)), (40, (vB (decide ((numM (List.drop p b)).1 > hi))))], [(7000, (.cells 74 [(cD (List.map encB b)), (cI (p : Int)), (cI e)]))], [7000]⟩ (by kernel_rfl) (.c (tri_scalar_eq [(.int .i64 (numM (List.drop p b)).2.2), (.int .i64 0)] (.bool ((numM (List.drop p b)).2.2 == 0)) rfl rfl rfl (by kernel_rfl) (congrArg Value.bool hb3)) (.c (tri_scalar_eq [(.int .i64 (numM (List.drop p b)).1), (.int .i64 lo)] (.bool (decide ((numM (List.drop p b)).1 < lo))) rfl rfl rfl (by kernel_rfl) (congrArg Value.bool hb5)) .n)) ?_
    refine peel_seq ?_
    refine awp_cond (b := (decide ((numM (List.drop p b)).1 > hi))) rfl (fun hc6 => ?_) (fun hc6 => ?_)
    ·skip
     have hc6p := of_decide_eq_true hc6
     refine rk boxes [] [0, 6, 7, 8, 9] [7000] ⟨47, [(0, (vL 7000 0)), (6, (vI 0)), (7, (vI (numM (List.drop p b)).1)), (8, (vI ((numM (List.drop p b)).2.1 : Int))), (9, (vI 5))], [(7000, (.cells 74 [(cD (List.map encB b)), (cI (p : Int)), (cI e)]))], [7000]⟩ (by kernel_rfl) .n ?_
     refine peel_seq ?_
     refine awp_seq ?_
     refine awp_seq ?_
     refine rk boxes [⟨3, false, [(sc (.func (.func 82) #[] #[])), (vL 7000 0), (vI ((numM (List.drop p b)).2.1 : Int)), (vI 5)], [(7000, (.cells 74 [(cD (List.map encB b)), (cI (p : Int)), (cI e)]))], (vB false), [(7000, (.cells 74 [(cD (List.map encB b)), (cI (p : Int)), (cI 5)]))]⟩] [6, 7, 45] [7000] ⟨47, [(6, (vI 0)), (7, (vI (numM (List.drop p b)).1)), (45, (vB true))], [(7000, (.cells 74 [(cD (List.map encB b)), (cI (p : Int)), (cI 5)]))], [7000]⟩ (by kernel_rfl) (.c (tri_call (q_on_err b p e ((numM (List.drop p b)).2.1 : Int) 5 rfl)) .n) ?_
     refine peel_seq ?_
     refine awp_true rfl ?_
     refine awp_seq ?_
     refine rk boxes [] [6, 7] [7000] ⟨47, [(6, (vI 0)), (7, (vI (numM (List.drop p b)).1))], [(7000, (.cells 74 [(cD (List.map encB b)), (cI (p : Int)), (cI 5)]))], [7000]⟩ (by kernel_rfl) .n ?_
     refine peel_seq ?_
     refine awp_ret ?_
     refine peel_seq_ret ?_
     exact (have hR : (rdW (RS.mk b p e) lo hi) = (0, RS.mk b p 5) := (by (have hsp := numM_spec (l := (List.drop p b)) (fun x hx => hs.rng x (List.mem_of_mem_drop hx))); (have g7 : (e == 0) = true := by simpa using hc1); first | (simp only [rdW, rdN, g7, hb3, hb5, hc6, cond_true, cond_false, Bool.not_true, Bool.not_false, Nat.add_assoc]; done) | (simp only [rdW, rdN, g7, hb3, hb5, hc6, cond_true, cond_false, Bool.not_true, Bool.not_false, Nat.add_assoc]; rfl)); ends_ret rfl (show some ((vI 0) : SV) = some ((vI (rdW (RS.mk b p e) lo hi).1) : SV) from by rw [hR]) (show some ([(7000, (.cells 74 [(cD (List.map encB b)), (cI (p : Int)), (cI 5)]))] : Objs) = some ([(7000, (.cells 74 [(cD (List.map encB (RS.b ((rdW (RS.mk b p e) lo hi).2)))), (cI ((RS.at_ ((rdW (RS.mk b p e) lo hi).2)) : Int)), (cI (RS.e ((rdW (RS.mk b p e) lo hi).2)))]))] : Objs) from by rw [hR]))
    ·skip
     have hc6p := of_decide_eq_false hc6
     refine awp_skip ?_
     refine peel_seq ?_
     refine awp_seq ?_
     refine awp_seq ?_
     refine rk boxes [⟨3, false, [(sc (.func (.func 82) #[] #[])), (vL 7000 0), (vI ((numM (List.drop p b)).2.1 : Int)), (vI (numM (List.drop p b)).2.2)], [(7000, (.cells 74 [(cD (List.map encB b)), (cI (p : Int)), (cI e)]))], (vB true), [(7000, (.cells 74 [(cD (List.map encB b)), (cI (((p + ((numM (List.drop p b)).2.1)) : Nat) : Int)), (cI e)]))]⟩] [6, 7, 45] [7000] ⟨47, [(6, (vI 0)), (7, (vI (numM (List.drop p b)).1)), (45, (vB false))], [(7000, (.cells 74 [(cD (List.map encB b)), (cI (((p + ((numM (List.drop p b)).2.1)) : Nat) : Int)), (cI e)]))], [7000]⟩ (by kernel_rfl) (.c (tri_call (q_on_ok b p e ((numM (List.drop p b)).2.1) ((numM (List.drop p b)).2.2) hb3 (by omega))) .n) ?_
     refine peel_seq ?_
     refine awp_false rfl ?_
     refine awp_skip ?_
     refine peel_seq ?_
     refine awp_seq ?_
     refine rk boxes [] [6] [7000] ⟨47, [(6, (vI (numM (List.drop p b)).1))], [(7000, (.cells 74 [(cD (List.map encB b)), (cI (((p + ((numM (List.drop p b)).2.1)) : Nat) : Int)), (cI e)]))], [7000]⟩ (by kernel_rfl) .n ?_
     refine peel_seq ?_
     refine awp_ret ?_
     exact (have hR : (rdW (RS.mk b p e) lo hi) = ((numM (List.drop p b)).1, RS.mk b (p + ((numM (List.drop p b)).2.1)) e) := (by (have hsp := numM_spec (l := (List.drop p b)) (fun x hx => hs.rng x (List.mem_of_mem_drop hx))); (have g8 : (e == 0) = true := by simpa using hc1); first | (simp only [rdW, rdN, g8, hb3, hb5, hc6, cond_true, cond_false, Bool.not_true, Bool.not_false, Nat.add_assoc]; done) | (simp only [rdW, rdN, g8, hb3, hb5, hc6, cond_true, cond_false, Bool.not_true, Bool.not_false, Nat.add_assoc]; rfl)); ends_ret rfl (show some ((vI (numM (List.drop p b)).1) : SV) = some ((vI (rdW (RS.mk b p e) lo hi).1) : SV) from by rw [hR]) (show some ([(7000, (.cells 74 [(cD (List.map encB b)), (cI (((p + ((numM (List.drop p b)).2.1)) : Nat) : Int)), (cI e)]))] : Objs) = some ([(7000, (.cells 74 [(cD (List.map encB (RS.b ((rdW (RS.mk b p e) lo hi).2)))), (cI ((RS.at_ ((rdW (RS.mk b p e) lo hi).2)) : Int)), (cI (RS.e ((rdW (RS.mk b p e) lo hi).2)))]))] : Objs) from by rw [hR]))
   | true =>
    have hb5p := of_decide_eq_true hb5
    refine rk boxes [⟨1, false, [(vI (numM (List.drop p b)).2.2), (vI 0)], [], (vB true), []⟩, ⟨5, false, [(vI (numM (List.drop p b)).1), (vI lo)], [], (vB true), []⟩] [0, 6, 7, 8, 9, 40] [7000] ⟨47, [(0, (vL 7000 0)), (6, (vI 0)), (7, (vI (numM (List.drop p b)).1)), (8, (vI ((numM (List.drop p b)).2.1 : Int))), (9, (vI (numM (List.drop p b)).2.2)), (40, (vB true))], [(7000, (.cells 74 [(cD (List.map encB b)), (cI (p : Int)), (cI e)]))], [7000]⟩ (by kernel_rfl) (.c (tri_scalar_eq [(.int .i64 (numM (List.drop p b)).2.2), (.int .i64 0)] (.bool ((numM (List.drop p b)).2.2 == 0)) rfl rfl rfl (by kernel_rfl) (congrArg Value.bool hb3)) (.c (tri_scalar_eq [(.int .i64 (numM (List.drop p b)).1), (.int .i64 lo)] (.bool (decide ((numM (List.drop p b)).1 < lo))) rfl rfl rfl (by kernel_rfl) (congrArg Value.bool hb5)) .n)) ?_
    refine peel_seq ?_
    refine awp_true rfl ?_
    refine rk boxes [] [0, 6, 7, 8, 9] [7000] ⟨47, [(0, (vL 7000 0)), (6, (vI 0)), (7, (vI (numM (List.drop p b)).1)), (8, (vI ((numM (List.drop p b)).2.1 : Int))), (9, (vI 5))], [(7000, (.cells 74 [(cD (List.map encB b)), (cI (p : Int)), (cI e)]))], [7000]⟩ (by kernel_rfl) .n ?_
    refine peel_seq ?_
    refine awp_seq ?_
    refine awp_seq ?_
    refine rk boxes [⟨3, false, [(sc (.func (.func 82) #[] #[])), (vL 7000 0), (vI ((numM (List.drop p b)).2.1 : Int)), (vI 5)], [(7000, (.cells 74 [(cD (List.map encB b)), (cI (p : Int)), (cI e)]))], (vB false), [(7000, (.cells 74 [(cD (List.map encB b)), (cI (p : Int)), (cI 5)]))]⟩] [6, 7, 45] [7000] ⟨47, [(6, (vI 0)), (7, (vI (numM (List.drop p b)).1)), (45, (vB true))], [(7000, (.cells 74 [(cD (List.map encB b)), (cI (p : Int)), (cI 5)]))], [7000]⟩ (by kernel_rfl) (.c (tri_call (q_on_err b p e ((numM (List.drop p b)).2.1 : Int) 5 rfl)) .n) ?_
    refine peel_seq ?_
    refine awp_true rfl ?_
    refine awp_seq ?_
    refine rk boxes [] [6, 7] [7000] ⟨47, [(6, (vI 0)), (7, (vI (numM (List.drop p b)).1))], [(7000, (.cells 74 [(cD (List.map encB b)), (cI (p : Int)), (cI 5)]))], [7000]⟩ (by kernel_rfl) .n ?_
    refine peel_seq ?_
    refine awp_ret ?_
    refine peel_seq_ret ?_
    exact (have hR : (rdW (RS.mk b p e) lo hi) = (0, RS.mk b p 5) := (by (have hsp := numM_spec (l := (List.drop p b)) (fun x hx => hs.rng x (List.mem_of_mem_drop hx))); (have g9 : (e == 0) = true := by simpa using hc1); first | (simp only [rdW, rdN, g9, hb3, hb5, cond_true, cond_false, Bool.not_true, Bool.not_false, Nat.add_assoc]; done) | (simp only [rdW, rdN, g9, hb3, hb5, cond_true, cond_false, Bool.not_true, Bool.not_false, Nat.add_assoc]; rfl)); ends_ret rfl (show some ((vI 0) : SV) = some ((vI (rdW (RS.mk b p e) lo hi).1) : SV) from by rw [hR]) (show some ([(7000, (.cells 74 [(cD (List.map encB b)), (cI (p : Int)), (cI 5)]))] : Objs) = some ([(7000, (.cells 74 [(cD (List.map encB (RS.b ((rdW (RS.mk b p e) lo hi).2)))), (cI ((RS.at_ ((rdW (RS.mk b p e) lo hi).2)) : Int)), (cI (RS.e ((rdW (RS.mk b p e) lo hi).2)))]))] : Objs) from by rw [hR]))
theorem q_RWithin (s : RS) (hs : RS.ok s) (lo : Int) (hi : Int) : Sat Try.prog 66 [(vL 7000 0), (vI lo), (vI hi)] [(7000, (.cells 74 [(cD (List.map encB (RS.b s))), (cI ((RS.at_ s) : Int)), (cI (RS.e s))]))] (vI (rdW s lo hi).1) [(7000, (.cells 74 [(cD (List.map encB (RS.b ((rdW s lo hi).2)))), (cI ((RS.at_ ((rdW s lo hi).2)) : Int)), (cI (RS.e ((rdW s lo hi).2)))]))] := by
  obtain ⟨b, p, e⟩ := s
  exact q_RWithin0 b p e hs lo hi
theorem q_RText0 (b : List Int) (p : Nat) (e : Int) (hs : RS.ok (RS.mk b p e)) (m : Int) : Sat Try.prog 67 [(vL 7000 0), (vI m)] [(7000, (.cells 74 [(cD (List.map encB b)), (cI (p : Int)), (cI e)]))] (vS (rdT (RS.mk b p e) m).1) [(7000, (.cells 74 [(cD (List.map encB (RS.b ((rdT (RS.mk b p e) m).2)))), (cI ((RS.at_ ((rdT (RS.mk b p e) m).2)) : Int)), (cI (RS.e ((rdT (RS.mk b p e) m).2)))]))] := by
 refine sat_of_body tab_ok Try.func67 rfl (by kernel_rfl) (Nat.le_of_ble_eq_true rfl) rfl fun G => ?_
 have hple : p ≤ b.length := hs.le
 have hbl : b.length ≤ 1000000 := hs.few
 have hrd : ∀ x ∈ (List.drop p b), 0 ≤ x ∧ x ≤ 255 := fun x hx => hs.rng x (List.mem_of_mem_drop hx)
 have hsp0 := numM_spec hrd
 simp only [List.length_drop] at hsp0
 refine awp_seq ?_
 refine rk boxes [] [0, 1, 4] [7000] ⟨79, [(0, (vL 7000 0)), (1, (vI m)), (4, (vS ⟨#[]⟩))], [(7000, (.cells 74 [(cD (List.map encB b)), (cI (p : Int)), (cI e)]))], [7000]⟩ (by kernel_rfl) .n ?_
 refine peel_seq ?_
 refine awp_seq ?_
 refine awp_seq ?_
 refine rk boxes [] [0, 1, 4, 12] [7000] ⟨79, [(0, (vL 7000 0)), (1, (vI m)), (4, (vS ⟨#[]⟩)), (12, (vB (e != 0)))], [(7000, (.cells 74 [(cD (List.map encB b)), (cI (p : Int)), (cI e)]))], [7000]⟩ (by kernel_rfl) .n ?_
 refine peel_seq ?_
 refine awp_cond (b := (e != 0)) rfl (fun hc1 => ?_) (fun hc1 => ?_)
 ·skip
  have hc1p : e ≠ 0 := by simpa using hc1
  refine awp_seq ?_
  refine rk boxes [] [0, 1, 4] [7000] ⟨79, [(0, (vL 7000 0)), (1, (vI m)), (4, (vS ⟨#[]⟩))], [(7000, (.cells 74 [(cD (List.map encB b)), (cI (p : Int)), (cI e)]))], [7000]⟩ (by kernel_rfl) .n ?_
  refine peel_seq ?_
  refine awp_ret ?_
  refine peel_seq_ret ?_
  exact (have hR : (rdT (RS.mk b p e) m) = (⟨#[]⟩, RS.mk b p e) := (by (have hsp := numM_spec (l := (List.drop p b)) (fun x hx => hs.rng x (List.mem_of_mem_drop hx))); (have g2 : (e == 0) = false := by simpa using hc1); first | (simp only [rdT, rdN, g2, cond_true, cond_false, Bool.not_true, Bool.not_false, Nat.add_assoc]; done) | (simp only [rdT, rdN, g2, cond_true, cond_false, Bool.not_true, Bool.not_false, Nat.add_assoc]; rfl)); ends_ret rfl (show some ((vS ⟨#[]⟩) : SV) = some ((vS (rdT (RS.mk b p e) m).1) : SV) from by rw [hR]) (show some ([(7000, (.cells 74 [(cD (List.map encB b)), (cI (p : Int)), (cI e)]))] : Objs) = some ([(7000, (.cells 74 [(cD (List.map encB (RS.b ((rdT (RS.mk b p e) m).2)))), (cI ((RS.at_ ((rdT (RS.mk b p e) m).2)) : Int)), (cI (RS.e ((rdT (RS.mk b p e) m).2)))]))] : Objs) from by rw [hR]))
 ·skip
  have hc1p : e = 0 := by simpa using hc1
  refine awp_skip ?_
  refine peel_seq ?_
  refine awp_seq ?_
  refine rk boxes [⟨8, false, [(vD (List.map encB b)), (vI (p : Int))], [], (vD (List.map encB (List.drop p b))), []⟩, ⟨9, false, [(sc (.func (.func 81) #[] #[])), (vD (List.map encB (List.drop p b)))], [], (.tup [(.c (cI (numM (List.drop p b)).1)), (.c (cI ((numM (List.drop p b)).2.1 : Int))), (.c (cI (numM (List.drop p b)).2.2))]), []⟩] [0, 1, 4, 5, 6, 7] [7000] ⟨79, [(0, (vL 7000 0)), (1, (vI m)), (4, (vS ⟨#[]⟩)), (5, (vI (numM (List.drop p b)).1)), (6, (vI ((numM (List.drop p b)).2.1 : Int))), (7, (vI (numM (List.drop p b)).2.2))], [(7000, (.cells 74 [(cD (List.map encB b)), (cI (p : Int)), (cI e)]))], [7000]⟩ (by kernel_rfl) (.c (tri_res (tri_slice_from (e := 5) (bytes := 1) (l := p) tab_ok rfl (all_map fun _ => rfl) (by (try simp only [List.length_map] at *); omega)) (by simp only [List.map_drop]; rfl)) (.c (tri_call (q_number (List.drop p b) (by (simp only [List.length_drop]); omega) (by exact hrd))) .n)) ?_
  refine peel_seq ?_
  refine awp_seq ?_
  refine awp_seq ?_
  cases hb5 : ((numM (List.drop p b)).2.2 == 0) with
  | false =>
   have hb5p : (numM (List.drop p b)).2.2 ≠ 0 := by simpa using hb5
   refine rk boxes [⟨1, false, [(vI (numM (List.drop p b)).2.2), (vI 0)], [], (vB false), []⟩] [0, 4, 5, 6, 7, 37] [7000] ⟨79, [(0, (vL 7000 0)), (4, (vS ⟨#[]⟩)), (5, (vI (numM (List.drop p b)).1)), (6, (vI ((numM (List.drop p b)).2.1 : Int))), (7, (vI (numM (List.drop p b)).2.2)), (37, (vB false))], [(7000, (.cells 74 [(cD (List.map encB b)), (cI (p : Int)), (cI e)]))], [7000]⟩ (by kernel_rfl) (.c (tri_scalar_eq [(.int .i64 (numM (List.drop p b)).2.2), (.int .i64 0)] (.bool ((numM (List.drop p b)).2.2 == 0)) rfl rfl rfl (by kernel_rfl) (congrArg Value.bool hb5)) .n) ?_
   refine peel_seq ?_
   refine awp_false rfl ?_
   refine awp_skip ?_
   refine peel_seq ?_
   refine awp_seq ?_
   refine awp_seq ?_
   refine rk boxes [⟨1, false, [(vI (numM (List.drop p b)).2.2), (vI 0)], [], (vB false), []⟩] [0, 4, 5, 6, 7, 55] [7000] ⟨79, [(0, (vL 7000 0)), (4, (vS ⟨#[]⟩)), (5, (vI (numM (List.drop p b)).1)), (6, (vI ((numM (List.drop p b)).2.1 : Int))), (7, (vI (numM (List.drop p b)).2.2)), (55, (vB false))], [(7000, (.cells 74 [(cD (List.map encB b)), (cI (p : Int)), (cI e)]))], [7000]⟩ (by kernel_rfl) (.c (tri_scalar_eq [(.int .i64 (numM (List.drop p b)).2.2), (.int .i64 0)] (.bool ((numM (List.drop p b)).2.2 == 0)) rfl rfl rfl (by kernel_rfl) (congrArg Value.bool hb5)) .n) ?_
   refine peel_seq ?_
   refine awp_false rfl ?_
   refine awp_skip ?_
   refine peel_seq ?_
   refine awp_seq ?_
   refine awp_seq ?_
   refine rk boxes [⟨5, false, [(sc (.func (.func 82) #[] #[])), (vL 7000 0), (vI (IntKind.wrap .i64 (((numM (List.drop p b)).2.1 : Int) + (numM (List.drop p b)).1))), (vI (numM (List.drop p b)).2.2)], [(7000, (.cells 74 [(cD (List.map encB b)), (cI (p : Int)), (cI e)]))], (vB false), [(7000, (.cells 74 [(cD (List.map encB b)), (cI (p : Int)), (cI (numM (List.drop p b)).2.2)]))]⟩] [0, 4, 5, 62] [7000] ⟨79, [(0, (vL 7000 0)), (4, (vS ⟨#[]⟩)), (5, (vI (numM (List.drop p b)).1)), (62, (vB true))], [(7000, (.cells 74 [(cD (List.map encB b)), (cI (p : Int)), (cI (numM (List.drop p b)).2.2)]))], [7000]⟩ (by kernel_rfl) (.c (tri_call (q_on_err b p e (IntKind.wrap .i64 (((numM (List.drop p b)).2.1 : Int) + (numM (List.drop p b)).1)) ((numM (List.drop p b)).2.2) hb5)) .n) ?_
   refine peel_seq ?_
   refine awp_true rfl ?_
   refine awp_seq ?_
   refine rk boxes [] [0, 4, 5] [7000] ⟨79, [(0, (vL 7000 0)), (4, (vS ⟨#[]⟩)), (5, (vI (numM (List.drop p b)).1))], [(7000, (.cells 74 [(cD (List.map encB b)), (cI (p : Int)), (cI (numM (List.drop p b)).2.2)]))], [7000]⟩ (by kernel_rfl) .n ?_
   refine peel_seq ?_
   refine awp_ret ?_
   refine peel_seq_ret ?_
   exact (have hR : (rdT (RS.mk b p e) m) = (⟨#[]⟩, RS.mk b p ((numM (List.drop p b)).2.2)) := (by (have hsp := numM_spec (l := (List.drop p b)) (fun x hx => hs.rng x (List.mem_of_mem_drop hx))); (have g6 : (e == 0) = true := by simpa using hc1); first | (simp only [rdT, rdN, g6, hb5, cond_true, cond_false, Bool.not_true, Bool.not_false, Nat.add_assoc]; done) | (simp only [rdT, rdN, g6, hb5, cond_true, cond_false, Bool.not_true, Bool.not_false, Nat.add_assoc]; rfl)); ends_ret rfl (show some ((vS ⟨#[]⟩) : SV) = some ((vS (rdT (RS.mk b p e) m).1) : SV) from by rw [hR]) (show some ([(7000, (.cells 74 [(cD (List.map encB b)), (cI (p : Int)), (cI (numM (List.drop p b)).2.2)]))] : Objs) = some ([(7000, (.cells 74 [(cD (List.map encB (RS.b ((rdT (RS.mk b p e) m).2)))), (cI ((RS.at_ ((rdT (RS.mk b p e) m).2)) : Int)), (cI (RS.e ((rdT (RS.mk b p e) m).2)))]))] : Objs) from by rw [hR]))
  | true =>
   have hb5p : (numM (List.drop p b)).2.2 = 0 := by simpa using hb5
   cases hb9 : (decide ((numM (List.drop p b)).1 > 0)) with
   | false =>
    have hb9p := of_decide_eq_false hb9
    refine rk boxes [⟨1, false, [(vI (numM (List.drop p b)).2.2), (vI 0)], [], (vB true), []⟩, ⟨4, false, [(vI (numM (List.drop p b)).1), (vI 0)], [], (vB false), []⟩] [0, 4, 5, 6, 7, 37] [7000] ⟨79, [(0, (vL 7000 0)), (4, (vS ⟨#[]⟩)), (5, (vI (numM (List.drop p b)).1)), (6, (vI ((numM (List.drop p b)).2.1 : Int))), (7, (vI (numM (List.drop p b)).2.2)), (37, (vB false))], [(7000, (.cells 74 [(cD (List.map encB b)), (cI (p : Int)), (cI e)]))], [7000]⟩ (by kernel_rfl) (.c (tri_scalar_eq [(.int .i64 (numM (List.drop p b)).2.2), (.int .i64 0)] (.bool ((numM (List.drop p b)).2.2 == 0)) rfl rfl rfl (by kernel_rfl) (congrArg Value.bool hb5)) (.c (tri_scalar_eq [(.int .i64 (numM (List.drop p b)).1), (.int .i64 0)] (.bool (decide ((numM (List.drop p b)).1 > 0))) rfl rfl rfl (by kernel_rfl) (congrArg Value.bool hb9)) .n)) ?_
    refine peel_seq ?_
    refine awp_false rfl ?_
    refine awp_skip ?_
    refine peel_seq ?_
    refine awp_seq ?_
    refine awp_seq ?_
    refine rk boxes [⟨1, false, [(vI (numM (List.drop p b)).2.2), (vI 0)], [], (vB true), []⟩, ⟨8, true, [(vD (List.map encB b))], [], (vI (List.length b : Int)), []⟩, ⟨13, false, [(vI (List.length b : Int)), (vI (p : Int))], [], (vI ((List.length b : Int) - (p : Int))), []⟩, ⟨15, false, [(vI ((List.length b : Int) - (p : Int))), (vI ((numM (List.drop p b)).2.1 : Int))], [], (vI (((List.length b : Int) - (p : Int)) - ((numM (List.drop p b)).2.1 : Int))), []⟩] [0, 4, 5, 6, 7, 55] [7000] ⟨79, [(0, (vL 7000 0)), (4, (vS ⟨#[]⟩)), (5, (vI (numM (List.drop p b)).1)), (6, (vI ((numM (List.drop p b)).2.1 : Int))), (7, (vI (numM (List.drop p b)).2.2)), (55, (vB (decide ((numM (List.drop p b)).1 > (((List.length b : Int) - (p : Int)) - ((numM (List.drop p b)).2.1 : Int))))))], [(7000, (.cells 74 [(cD (List.map encB b)), (cI (p : Int)), (cI e)]))], [7000]⟩ (by kernel_rfl) (.c (tri_scalar_eq [(.int .i64 (numM (List.drop p b)).2.2), (.int .i64 0)] (.bool ((numM (List.drop p b)).2.2 == 0)) rfl rfl rfl (by kernel_rfl) (congrArg Value.bool hb5)) (.c (tri_len_map tab_ok rfl) (.c (tri_int ((List.length b : Int) - (p : Int)) (wrap_i64 (by omega))) (.c (tri_int (((List.length b : Int) - (p : Int)) - ((numM (List.drop p b)).2.1 : Int)) (wrap_i64 (by omega))) .n)))) ?_
    refine peel_seq ?_
    refine awp_cond (b := (decide ((numM (List.drop p b)).1 > (((List.length b : Int) - (p : Int)) - ((numM (List.drop p b)).2.1 : Int))))) rfl (fun hc10 => ?_) (fun hc10 => ?_)
    ·skip
     have hc10p := of_decide_eq_true hc10
     refine rk boxes [] [0, 4, 5, 6, 7] [7000] ⟨79, [(0, (vL 7000 0)), (4, (vS ⟨#[]⟩)), (5, (vI (numM (List.drop p b)).1)), (6, (vI ((numM (List.drop p b)).2.1 : Int))), (7, (vI 2))], [(7000, (.cells 74 [(cD (List.map encB b)), (cI (p : Int)), (cI e)]))], [7000]⟩ (by kernel_rfl) .n ?_
     refine peel_seq ?_
     refine awp_seq ?_
     refine awp_seq ?_
     refine rk boxes [⟨5, false, [(sc (.func (.func 82) #[] #[])), (vL 7000 0), (vI (IntKind.wrap .i64 (((numM (List.drop p b)).2.1 : Int) + (numM (List.drop p b)).1))), (vI 2)], [(7000, (.cells 74 [(cD (List.map encB b)), (cI (p : Int)), (cI e)]))], (vB false), [(7000, (.cells 74 [(cD (List.map encB b)), (cI (p : Int)), (cI 2)]))]⟩] [0, 4, 5, 62] [7000] ⟨79, [(0, (vL 7000 0)), (4, (vS ⟨#[]⟩)), (5, (vI (numM (List.drop p b)).1)), (62, (vB true))], [(7000, (.cells 74 [(cD (List.map encB b)), (cI (p : Int)), (cI 2)]))], [7000]⟩ (by kernel_rfl) (.c (tri_call (q_on_err b p e (IntKind.wrap .i64 (((numM (List.drop p b)).2.1 : Int) + (numM (List.drop p b)).1)) 2 rfl)) .n) ?_
     refine peel_seq ?_
     refine awp_true rfl ?_
     refine awp_seq ?_
     refine rk boxes [] [0, 4, 5] [7000] ⟨79, [(0, (vL 7000 0)), (4, (vS ⟨#[]⟩)), (5, (vI (numM (List.drop p b)).1))], [(7000, (.cells 74 [(cD (List.map encB b)), (cI (p : Int)), (cI 2)]))], [7000]⟩ (by kernel_rfl) .n ?_
     refine peel_seq ?_
     refine awp_ret ?_
     refine peel_seq_ret ?_
     exact (have hR : (rdT (RS.mk b p e) m) = (⟨#[]⟩, RS.mk b p 2) := (by (have hsp := numM_spec (l := (List.drop p b)) (fun x hx => hs.rng x (List.mem_of_mem_drop hx))); (have g11 : (e == 0) = true := by simpa using hc1); (have g12 : decide ((numM (List.drop p b)).1 > max m 0) = false := decide_eq_false (by omega)); (have g13 : decide ((numM (List.drop p b)).1 > ((List.length b : Int) - ((p + (numM (List.drop p b)).2.1 : Nat) : Int))) = true := decide_eq_true (by omega)); first | (simp only [rdT, rdN, g11, g12, g13, hb5, hb9, hc10, cond_true, cond_false, Bool.not_true, Bool.not_false, Nat.add_assoc]; done) | (simp only [rdT, rdN, g11, g12, g13, hb5, hb9, hc10, cond_true, cond_false, Bool.not_true, Bool.not_false, Nat.add_assoc]; rfl)); ends_ret rfl (show some ((vS ⟨#[]⟩) : SV) = some ((vS (rdT (RS.mk b p e) m).1) : SV) from by rw [hR]) (show some ([(7000, (.cells 74 [(cD (List.map encB b)), (cI (p : Int)), (cI 2)]))] : Objs) = some ([(7000, (.cells 74 [(cD (List.map encB (RS.b ((rdT (RS.mk b p e) m).2)))), (cI ((RS.at_ ((rdT (RS.mk b p e) m).2)) : Int)), (cI (RS.e ((rdT (RS.mk b p e) m).2)))]))] : Objs) from by rw [hR]))
    ·skip
     have hc10p := of_decide_eq_false hc10
     refine awp_skip ?_
     refine peel_seq ?_
     refine awp_seq ?_
     refine awp_seq ?_
     refine rk boxes [⟨3, false, [(vI ((numM (List.drop p b)).2.1 : Int)), (vI (numM (List.drop p b)).1)], [], (vI (((numM (List.drop p b)).2.1 + Int.toNat (numM (List.drop p b)).1 : Nat) : Int)), []⟩, ⟨5, false, [(sc (.func (.func 82) #[] #[])), (vL 7000 0), (vI (((numM (List.drop p b)).2.1 + Int.toNat (numM (List.drop p b)).1 : Nat) : Int)), (vI (numM (List.drop p b)).2.2)], [(7000, (.cells 74 [(cD (List.map encB b)), (cI (p : Int)), (cI e)]))], (vB true), [(7000, (.cells 74 [(cD (List.map encB b)), (cI (((p + ((numM (List.drop p b)).2.1 + Int.toNat (numM (List.drop p b)).1)) : Nat) : Int)), (cI e)]))]⟩] [0, 4, 5, 62] [7000] ⟨79, [(0, (vL 7000 0)), (4, (vS ⟨#[]⟩)), (5, (vI (numM (List.drop p b)).1)), (62, (vB false))], [(7000, (.cells 74 [(cD (List.map encB b)), (cI (((p + ((numM (List.drop p b)).2.1 + Int.toNat (numM (List.drop p b)).1)) : Nat) : Int)), (cI e)]))], [7000]⟩ (by kernel_rfl) (.c (tri_int (((numM (List.drop p b)).2.1 + Int.toNat (numM (List.drop p b)).1 : Nat) : Int) ((wrap_i64 (by omega)).trans (by omega))) (.c (tri_call (q_on_ok b p e ((numM (List.drop p b)).2.1 + Int.toNat (numM (List.drop p b)).1) ((numM (List.drop p b)).2.2) hb5 (by omega))) .n)) ?_
     refine peel_seq ?_
     refine awp_false rfl ?_
     refine awp_skip ?_
     refine peel_seq ?_
     refine awp_seq ?_
     refine rk boxes [⟨9, false, [(vI (((p + ((numM (List.drop p b)).2.1 + Int.toNat (numM (List.drop p b)).1)) : Nat) : Int)), (vI (numM (List.drop p b)).1)], [], (vI ((p + (numM (List.drop p b)).2.1 : Nat) : Int)), []⟩, ⟨14, false, [(vD (List.map encB b)), (vI ((p + (numM (List.drop p b)).2.1 : Nat) : Int)), (vI (((p + ((numM (List.drop p b)).2.1 + Int.toNat (numM (List.drop p b)).1)) : Nat) : Int))], [], (vD (List.map encB (List.drop (p + (numM (List.drop p b)).2.1 : Nat) (List.take ((p + ((numM (List.drop p b)).2.1 + Int.toNat (numM (List.drop p b)).1)) : Nat) b)))), []⟩, ⟨15, false, [(vD (List.map encB (List.drop (p + (numM (List.drop p b)).2.1 : Nat) (List.take ((p + ((numM (List.drop p b)).2.1 + Int.toNat (numM (List.drop p b)).1)) : Nat) b))))], [], (vS (bstr (List.drop (p + (numM (List.drop p b)).2.1 : Nat) (List.take ((p + ((numM (List.drop p b)).2.1 + Int.toNat (numM (List.drop p b)).1)) : Nat) b)))), []⟩] [4] [7000] ⟨79, [(4, (vS (bstr (List.drop (p + (numM (List.drop p b)).2.1 : Nat) (List.take ((p + ((numM (List.drop p b)).2.1 + Int.toNat (numM (List.drop p b)).1)) : Nat) b)))))], [(7000, (.cells 74 [(cD (List.map encB b)), (cI (((p + ((numM (List.drop p b)).2.1 + Int.toNat (numM (List.drop p b)).1)) : Nat) : Int)), (cI e)]))], [7000]⟩ (by kernel_rfl) (.c (tri_int ((p + (numM (List.drop p b)).2.1 : Nat) : Int) ((wrap_i64 (by omega)).trans (by omega))) (.c (tri_res (tri_slice_mid (e := 5) (bytes := 1) (l := (p + (numM (List.drop p b)).2.1 : Nat)) (h := ((p + ((numM (List.drop p b)).2.1 + Int.toNat (numM (List.drop p b)).1)) : Nat)) tab_ok rfl (all_map fun _ => rfl) (by (try simp only [List.length_map] at *); omega) (by (try simp only [List.length_map] at *); omega)) (by simp only [List.map_drop, List.map_take]; rfl)) (.c (tri_bytes_str (e := 5) (by kernel_rfl) (by kernel_rfl) (by kernel_rfl)) .n))) ?_
     refine peel_seq ?_
     refine awp_ret ?_
     exact (have hR : (rdT (RS.mk b p e) m) = ((bstr (List.drop (p + (numM (List.drop p b)).2.1 : Nat) (List.take ((p + ((numM (List.drop p b)).2.1 + Int.toNat (numM (List.drop p b)).1)) : Nat) b))), RS.mk b (p + ((numM (List.drop p b)).2.1 + Int.toNat (numM (List.drop p b)).1)) e) := (by (have hsp := numM_spec (l := (List.drop p b)) (fun x hx => hs.rng x (List.mem_of_mem_drop hx))); (have g14 : (e == 0) = true := by simpa using hc1); (have g15 : decide ((numM (List.drop p b)).1 > max m 0) = false := decide_eq_false (by omega)); (have g16 : decide ((numM (List.drop p b)).1 > ((List.length b : Int) - ((p + (numM (List.drop p b)).2.1 : Nat) : Int))) = false := decide_eq_false (by omega)); first | (simp only [rdT, rdN, g14, g15, g16, hb5, hb9, hc10, cond_true, cond_false, Bool.not_true, Bool.not_false, Nat.add_assoc]; done) | (simp only [rdT, rdN, g14, g15, g16, hb5, hb9, hc10, cond_true, cond_false, Bool.not_true, Bool.not_false, Nat.add_assoc]; rfl)); ends_ret rfl (show some ((vS (bstr (List.drop (p + (numM (List.drop p b)).2.1 : Nat) (List.take ((p + ((numM (List.drop p b)).2.1 + Int.toNat (numM (List.drop p b)).1)) : Nat) b)))) : SV) = some ((vS (rdT (RS.mk b p e) m).1) : SV) from by rw [hR]) (show some ([(7000, (.cells 74 [(cD (List.map encB b)), (cI (((p + ((numM (List.drop p b)).2.1 + Int.toNat (numM (List.drop p b)).1)) : Nat) : Int)), (cI e)]))] : Objs) = some ([(7000, (.cells 74 [(cD (List.map encB (RS.b ((rdT (RS.mk b p e) m).2)))), (cI ((RS.at_ ((rdT (RS.mk b p e) m).2)) : Int)), (cI (RS.e ((rdT (RS.mk b p e) m).2)))]))] : Objs) from by rw [hR]))
   | true =>
    have hb9p := of_decide_eq_true hb9
    refine rk boxes [⟨1, false, [(vI (numM (List.drop p b)).2.2), (vI 0)], [], (vB true), []⟩, ⟨4, false, [(vI (numM (List.drop p b)).1), (vI 0)], [], (vB true), []⟩] [0, 4, 5, 6, 7, 37] [7000] ⟨79, [(0, (vL 7000 0)), (4, (vS ⟨#[]⟩)), (5, (vI (numM (List.drop p b)).1)), (6, (vI ((numM (List.drop p b)).2.1 : Int))), (7, (vI (numM (List.drop p b)).2.2)), (37, (vB (decide ((numM (List.drop p b)).1 > m))))], [(7000, (.cells 74 [(cD (List.map encB b)), (cI (p : Int)), (cI e)]))], [7000]⟩ (by kernel_rfl) (.c (tri_scalar_eq [(.int .i64 (numM (List.drop p b)).2.2), (.int .i64 0)] (.bool ((numM (List.drop p b)).2.2 == 0)) rfl rfl rfl (by kernel_rfl) (congrArg Value.bool hb5)) (.c (tri_scalar_eq [(.int .i64 (numM (List.drop p b)).1), (.int .i64 0)] (.bool (decide ((numM (List.drop p b)).1 > 0))) rfl rfl rfl (by kernel_rfl) (congrArg Value.bool hb9)) .n)) ?_
    refine peel_seq ?_
    refine awp_cond (b := (decide ((numM (List.drop p b)).1 > m))) rfl (fun hc17 => ?_) (fun hc17 => ?_)
    ·skip
     have hc17p := of_decide_eq_true hc17
     refine rk boxes [] [0, 4, 5, 6, 7] [7000] ⟨79, [(0, (vL 7000 0)), (4, (vS ⟨#[]⟩)), (5, (vI (numM (List.drop p b)).1)), (6, (vI ((numM (List.drop p b)).2.1 : Int))), (7, (vI 4))], [(7000, (.cells 74 [(cD (List.map encB b)), (cI (p : Int)), (cI e)]))], [7000]⟩ (by kernel_rfl) .n ?_
     refine peel_seq ?_
     refine awp_seq ?_
     refine awp_seq ?_
     refine rk boxes [] [0, 4, 5, 6, 7, 55] [7000] ⟨79, [(0, (vL 7000 0)), (4, (vS ⟨#[]⟩)), (5, (vI (numM (List.drop p b)).1)), (6, (vI ((numM (List.drop p b)).2.1 : Int))), (7, (vI 4)), (55, (vB false))], [(7000, (.cells 74 [(cD (List.map encB b)), (cI (p : Int)), (cI e)]))], [7000]⟩ (by kernel_rfl) .n ?_
     refine peel_seq ?_
     refine awp_false rfl ?_
     refine awp_skip ?_
     refine peel_seq ?_
     refine awp_seq ?_
     refine awp_seq ?_
     refine rk boxes [⟨5, false, [(sc (.func (.func 82) #[] #[])), (vL 7000 0), (vI (IntKind.wrap .i64 (((numM (List.drop p b)).2.1 : Int) + (numM (List.drop p b)).1))), (vI 4)], [(7000, (.cells 74 [(cD (List.map encB b)), (cI (p : Int)), (cI e)]))], (vB false), [(7000, (.cells 74 [(cD (List.map encB b)), (cI (p : Int)), (cI 4)]))]⟩] [0, 4, 5, 62] [7000] ⟨79, [(0, (vL 7000 0)), (4, (vS ⟨#[]⟩)), (5, (vI (numM (List.drop p b)).1)), (62, (vB true))], [(7000, (.cells 74 [(cD (List.map encB b)), (cI (p : Int)), (cI 4)]))], [7000]⟩ (by kernel_rfl) (.c (tri_call (q_on_err b p e (IntKind.wrap .i64 (((numM (List.drop p b)).2.1 : Int) + (numM (List.drop p b)).1)) 4 rfl)) .n) ?_
     refine peel_seq ?_
     refine awp_true rfl ?_
     refine awp_seq ?_
     refine rk boxes [] [0, 4, 5] [7000] ⟨79, [(0, (vL 7000 0)), (4, (vS ⟨#[]⟩)), (5, (vI (numM (List.drop p b)).1))], [(7000, (.cells 74 [(cD (List.map encB b)), (cI (p : Int)), (cI 4)]))], [7000]⟩ (by kernel_rfl) .n ?_
     refine peel_seq ?_
     refine awp_ret ?_
     refine peel_seq_ret ?_
     exact (have hR : (rdT (RS.mk b p e) m) = (⟨#[]⟩, RS.mk b p 4) := (by (have hsp := numM_spec (l := (List.drop p b)) (fun x hx => hs.rng x (List.mem_of_mem_drop hx))); (have g18 : (e == 0) = true := by simpa using hc1); (have g19 : decide ((numM (List.drop p b)).1 > max m 0) = true := decide_eq_true (by omega)); first | (simp only [rdT, rdN, g18, g19, hb5, hb9, hc17, cond_true, cond_false, Bool.not_true, Bool.not_false, Nat.add_assoc]; done) | (simp only [rdT, rdN, g18, g19, hb5, hb9, hc17, cond_true, cond_false, Bool.not_true, Bool.not_false, Nat.add_assoc]; rfl)); ends_ret rfl (show some ((vS ⟨#[]⟩) : SV) = some ((vS (rdT (RS.mk b p e) m).1) : SV) from by rw [hR]) (show some ([(7000, (.cells 74 [(cD (List.map encB b)), (cI (p : Int)), (cI 4)]))] : Objs) = some ([(7000, (.cells 74 [(cD (List.map encB (RS.b ((rdT (RS.mk b p e) m).2)))), (cI ((RS.at_ ((rdT (RS.mk b p e) m).2)) : Int)), (cI (RS.e ((rdT (RS.mk b p e) m).2)))]))] : Objs) from by rw [hR]))
    ·skip
     have hc17p := of_decide_eq_false hc17
     refine awp_skip ?_
     refine peel_seq ?_
     refine awp_seq ?_
     refine awp_seq ?_
     refine rk boxes [⟨1, false, [(vI (numM (List.drop p b)).2.2), (vI 0)], [], (vB true), []⟩, ⟨8, true, [(vD (List.map encB b))], [], (vI (List.length b : Int)), []⟩, ⟨13, false, [(vI (List.length b : Int)), (vI (p : Int))], [], (vI ((List.length b : Int) - (p : Int))), []⟩, ⟨15, false, [(vI ((List.length b : Int) - (p : Int))), (vI ((numM (List.drop p b)).2.1 : Int))], [], (vI (((List.length b : Int) - (p : Int)) - ((numM (List.drop p b)).2.1 : Int))), []⟩] [0, 4, 5, 6, 7, 55] [7000] ⟨79, [(0, (vL 7000 0)), (4, (vS ⟨#[]⟩)), (5, (vI (numM (List.drop p b)).1)), (6, (vI ((numM (List.drop p b)).2.1 : Int))), (7, (vI (numM (List.drop p b)).2.2)), (55, (vB (decide ((numM (List.drop p b)).1 > (((List.length b : Int) - (p : Int)) - ((numM (List.drop p b)).2.1 : Int))))))], [(7000, (.cells 74 [(cD (List.map encB b)), (cI (p : Int)), (cI e)]))], [7000]⟩ (by kernel_rfl) (.c (tri_scalar_eq [(.int .i64 (numM (List.drop p b)).2.2), (.int .i64 0)] (.bool ((numM (List.drop p b)).2.2 == 0)) rfl rfl rfl (by kernel_rfl) (congrArg Value.bool hb5)) (.c (tri_len_map tab_ok rfl) (.c (tri_int ((List.length b : Int) - (p : Int)) (wrap_i64 (by omega))) (.c (tri_int (((List.length b : Int) - (p : Int)) - ((numM (List.drop p b)).2.1 : Int)) (wrap_i64 (by omega))) .n)))) ?_
     refine peel_seq ?_
     refine awp_cond (b := (decide ((numM (List.drop p b)).1 > (((List.length b : Int) - (p : Int)) - ((numM (List.drop p b)).2.1 : Int))))) rfl (fun hc21 => ?_) (fun hc21 => ?_)
     ·skip
      have hc21p := of_decide_eq_true hc21
      refine rk boxes [] [0, 4, 5, 6, 7] [7000] ⟨79, [(0, (vL 7000 0)), (4, (vS ⟨#[]⟩)), (5, (vI (numM (List.drop p b)).1)), (6, (vI ((numM (List.drop p b)).2.1 : Int))), (7, (vI 2))], [(7000, (.cells 74 [(cD (List.map encB b)), (cI (p : Int)), (cI e)]))], [7000]⟩ (by kernel_rfl) .n ?_
      refine peel_seq ?_
      refine awp_seq ?_
      refine awp_seq ?_
      refine rk boxes [⟨5, false, [(sc (.func (.func 82) #[] #[])), (vL 7000 0), (vI (IntKind.wrap .i64 (((numM (List.drop p b)).2.1 : Int) + (numM (List.drop p b)).1))), (vI 2)], [(7000, (.cells 74 [(cD (List.map encB b)), (cI (p : Int)), (cI e)]))], (vB false), [(7000, (.cells 74 [(cD (List.map encB b)), (cI (p : Int)), (cI 2)]))]⟩] [0, 4, 5, 62] [7000] ⟨79, [(0, (vL 7000 0)), (4, (vS ⟨#[]⟩)), (5, (vI (numM (List.drop p b)).1)), (62, (vB true))], [(7000, (.cells 74 [(cD (List.map encB b)), (cI (p : Int)), (cI 2)]))], [7000]⟩ (by kernel_rfl) (.c (tri_call (q_on_err b p e (IntKind.wrap .i64 (((numM (List.drop p b)).2.1 : Int) + (numM (List.drop p b)).1)) 2 rfl)) .n) ?_
      refine peel_seq ?_
      refine awp_true rfl ?_
      refine awp_seq ?_
      refine rk boxes [] [0, 4, 5] [7000] ⟨79, [(0, (vL 7000 0)), (4, (vS ⟨#[]⟩)), (5, (vI (numM (List.drop p b)).1))], [(7000, (.cells 74 [(cD (List.map encB b)), (cI (p : Int)), (cI 2)]))], [7000]⟩ (by kernel_rfl) .n ?_
      refine peel_seq ?_
      refine awp_ret ?_
      refine peel_seq_ret ?_
      exact (have hR : (rdT (RS.mk b p e) m) = (⟨#[]⟩, RS.mk b p 2) := (by (have hsp := numM_spec (l := (List.drop p b)) (fun x hx => hs.rng x (List.mem_of_mem_drop hx))); (have g22 : (e == 0) = true := by simpa using hc1); (have g23 : decide ((numM (List.drop p b)).1 > max m 0) = false := decide_eq_false (by omega)); (have g24 : decide ((numM (List.drop p b)).1 > ((List.length b : Int) - ((p + (numM (List.drop p b)).2.1 : Nat) : Int))) = true := decide_eq_true (by omega)); first | (simp only [rdT, rdN, g22, g23, g24, hb5, hb9, hc17, hc21, cond_true, cond_false, Bool.not_true, Bool.not_false, Nat.add_assoc]; done) | (simp only [rdT, rdN, g22, g23, g24, hb5, hb9, hc17, hc21, cond_true, cond_false, Bool.not_true, Bool.not_false, Nat.add_assoc]; rfl)); ends_ret rfl (show some ((vS ⟨#[]⟩) : SV) = some ((vS (rdT (RS.mk b p e) m).1) : SV) from by rw [hR]) (show some ([(7000, (.cells 74 [(cD (List.map encB b)), (cI (p : Int)), (cI 2)]))] : Objs) = some ([(7000, (.cells 74 [(cD (List.map encB (RS.b ((rdT (RS.mk b p e) m).2)))), (cI ((RS.at_ ((rdT (RS.mk b p e) m).2)) : Int)), (cI (RS.e ((rdT (RS.mk b p e) m).2)))]))] : Objs) from by rw [hR]))
     ·skip
      have hc21p := of_decide_eq_false hc21
      refine awp_skip ?_
      refine peel_seq ?_
      refine awp_seq ?_
      refine awp_seq ?_
      refine rk boxes [⟨3, false, [(vI ((numM (List.drop p b)).2.1 : Int)), (vI (numM (List.drop p b)).1)], [], (vI (((numM (List.drop p b)).2.1 + Int.toNat (numM (List.drop p b)).1 : Nat) : Int)), []⟩, ⟨5, false, [(sc (.func (.func 82) #[] #[])), (vL 7000 0), (vI (((numM (List.drop p b)).2.1 + Int.toNat (numM (List.drop p b)).1 : Nat) : Int)), (vI (numM (List.drop p b)).2.2)], [(7000, (.cells 74 [(cD (List.map encB b)), (cI (p : Int)), (cI e)]))], (vB true), [(7000, (.cells 74 [(cD (List.map encB b)), (cI (((p + ((numM (List.drop p b)).2.1 + Int.toNat (numM (List.drop p b)).1)) : Nat) : Int)), (cI e)]))]⟩] [0, 4, 5, 62] [7000] ⟨79, [(0, (vL 7000 0)), (4, (vS ⟨#[]⟩)), (5, (vI (numM (List.drop p b)).1)), (62, (vB false))], [(7000, (.cells 74 [(cD (List.map encB b)), (cI (((p + ((numM (List.drop p b)).2.1 + Int.toNat (numM (List.drop p b)).1)) : Nat) : Int)), (cI e)]))], [7000]⟩ (by kernel_rfl) (.c (tri_int (((numM (List.drop p b)).2.1 + Int.toNat (numM (List.drop p b)).1 : Nat) : Int) ((wrap_i64 (by omega)).trans (by omega))) (.c (tri_call (q_on_ok b p e ((numM (List.drop p b)).2.1 + Int.toNat (numM (List.drop p b)).1) ((numM (List.drop p b)).2.2) hb5 (by omega))) .n)) ?_
      refine peel_seq ?_
      refine awp_false rfl ?_
      refine awp_skip ?_
      refine peel_seq ?_
      refine awp_seq ?_
      refine rk boxes [⟨9, false, [(vI (((p + ((numM (List.drop p b)).2.1 + Int.toNat (numM (List.drop p b)).1)) : Nat) : Int)), (vI (numM (List.drop p b)).1)], [], (vI ((p + (numM (List.drop p b)).2.1 : Nat) : Int)), []⟩, ⟨14, false, [(vD (List.map encB b)), (vI ((p + (numM (List.drop p b)).2.1 : Nat) : Int)), (vI (((p + ((numM (List.drop p b)).2.1 + Int.toNat (numM (List.drop p b)).1)) : Nat) : Int))], [], (vD (List.map encB (List.drop (p + (numM (List.drop p b)).2.1 : Nat) (List.take ((p + ((numM (List.drop p b)).2.1 + Int.toNat (numM (List.drop p b)).1)) : Nat) b)))), []⟩, ⟨15, false, [(vD (List.map encB (List.drop (p + (numM (List.drop p b)).2.1 : Nat) (List.take ((p + ((numM (List.drop p b)).2.1 + Int.toNat (numM (List.drop p b)).1)) : Nat) b))))], [], (vS (bstr (List.drop (p + (numM (List.drop p b)).2.1 : Nat) (List.take ((p + ((numM (List.drop p b)).2.1 + Int.toNat (numM (List.drop p b)).1)) : Nat) b)))), []⟩] [4] [7000] ⟨79, [(4, (vS (bstr (List.drop (p + (numM (List.drop p b)).2.1 : Nat) (List.take ((p + ((numM (List.drop p b)).2.1 + Int.toNat (numM (List.drop p b)).1)) : Nat) b)))))], [(7000, (.cells 74 [(cD (List.map encB b)), (cI (((p + ((numM (List.drop p b)).2.1 + Int.toNat (numM (List.drop p b)).1)) : Nat) : Int)), (cI e)]))], [7000]⟩ (by kernel_rfl) (.c (tri_int ((p + (numM (List.drop p b)).2.1 : Nat) : Int) ((wrap_i64 (by omega)).trans (by omega))) (.c (tri_res (tri_slice_mid (e := 5) (bytes := 1) (l := (p + (numM (List.drop p b)).2.1 : Nat)) (h := ((p + ((numM (List.drop p b)).2.1 + Int.toNat (numM (List.drop p b)).1)) : Nat)) tab_ok rfl (all_map fun _ => rfl) (by (try simp only [List.length_map] at *); omega) (by (try simp only [List.length_map] at *); omega)) (by simp only [List.map_drop, List.map_take]; rfl)) (.c (tri_bytes_str (e := 5) (by kernel_rfl) (by kernel_rfl) (by kernel_rfl)) .n))) ?_
      refine peel_seq ?_
      refine awp_ret ?_
      exact (have hR : (rdT (RS.mk b p e) m) = ((bstr (List.drop (p + (numM (List.drop p b)).2.1 : Nat) (List.take ((p + ((numM (List.drop p b)).2.1 + Int.toNat (numM (List.drop p b)).1)) : Nat) b))), RS.mk b (p + ((numM (List.drop p b)).2.1 + Int.toNat (numM (List.drop p b)).1)) e) := (by (have hsp := numM_spec (l := (List.drop p b)) (fun x hx => hs.rng x (List.mem_of_mem_drop hx))); (have g25 : (e == 0) = true := by simpa using hc1); (have g26 : decide ((numM (List.drop p b)).1 > max m 0) = false := decide_eq_false (by omega)); (have g27 : decide ((numM (List.drop p b)).1 > ((List.length b : Int) - ((p + (numM (List.drop p b)).2.1 : Nat) : Int))) = false := decide_eq_false (by omega)); first | (simp only [rdT, rdN, g25, g26, g27, hb5, hb9, hc17, hc21, cond_true, cond_false, Bool.not_true, Bool.not_false, Nat.add_assoc]; done) | (simp only [rdT, rdN, g25, g26, g27, hb5, hb9, hc17, hc21, cond_true, cond_false, Bool.not_true, Bool.not_false, Nat.add_assoc]; rfl)); ends_ret rfl (show some ((vS (bstr (List.drop (p + (numM (List.drop p b)).2.1 : Nat) (List.take ((p + ((numM (List.drop p b)).2.1 + Int.toNat (numM (List.drop p b)).1)) : Nat) b)))) : SV) = some ((vS (rdT (RS.mk b p e) m).1) : SV) from by rw [hR]) (show some ([(7000, (.cells 74 [(cD (List.map encB b)), (cI (((p + ((numM (List.drop p b)).2.1 + Int.toNat (numM (List.drop p b)).1)) : Nat) : Int)), (cI e)]))] : Objs) = some ([(7000, (.cells 74 [(cD (List.map encB (RS.b ((rdT (RS.mk b p e) m).2)))), (cI ((RS.at_ ((rdT (RS.mk b p e) m).2)) : Int)), (cI (RS.e ((rdT (RS.mk b p e) m).2)))]))] : Objs) from by rw [hR]))
theorem q_RText (s : RS) (hs : RS.ok s) (m : Int) : Sat Try.prog 67 [(vL 7000 0), (vI m)] [(7000, (.cells 74 [(cD (List.map encB (RS.b s))), (cI ((RS.at_ s) : Int)), (cI (RS.e s))]))] (vS (rdT s m).1) [(7000, (.cells 74 [(cD (List.map encB (RS.b ((rdT s m).2)))), (cI ((RS.at_ ((rdT s m).2)) : Int)), (cI (RS.e ((rdT s m).2)))]))] := by
  obtain ⟨b, p, e⟩ := s
  exact q_RText0 b p e hs m
theorem q_RFlag0 (b : List Int) (p : Nat) (e : Int) (hs : RS.ok (RS.mk b p e)) : Sat Try.prog 68 [(vL 7000 0)] [(7000, (.cells 74 [(cD (List.map encB b)), (cI (p : Int)), (cI e)]))] (vB (rdF (RS.mk b p e)).1) [(7000, (.cells 74 [(cD (List.map encB (RS.b ((rdF (RS.mk b p e)).2)))), (cI ((RS.at_ ((rdF (RS.mk b p e)).2)) : Int)), (cI (RS.e ((rdF (RS.mk b p e)).2)))]))] := by
 refine sat_of_body tab_ok Try.func68 rfl (by kernel_rfl) (Nat.le_of_ble_eq_true rfl) rfl fun G => ?_
 have hple : p ≤ b.length := hs.le
 have hbl : b.length ≤ 1000000 := hs.few
 have hrd : ∀ x ∈ (List.drop p b), 0 ≤ x ∧ x ≤ 255 := fun x hx => hs.rng x (List.mem_of_mem_drop hx)
 have hsp0 := numM_spec hrd
 simp only [List.length_drop] at hsp0
 refine awp_seq ?_
 refine rk boxes [] [0, 2] [7000] ⟨39, [(0, (vL 7000 0)), (2, (vB false))], [(7000, (.cells 74 [(cD (List.map encB b)), (cI (p : Int)), (cI e)]))], [7000]⟩ (by kernel_rfl) .n ?_
 refine peel_seq ?_
 refine awp_seq ?_
 refine awp_seq ?_
 refine rk boxes [] [0, 2, 10] [7000] ⟨39, [(0, (vL 7000 0)), (2, (vB false)), (10, (vB (e != 0)))], [(7000, (.cells 74 [(cD (List.map encB b)), (cI (p : Int)), (cI e)]))], [7000]⟩ (by kernel_rfl) .n ?_
 refine peel_seq ?_
 refine awp_cond (b := (e != 0)) rfl (fun hc1 => ?_) (fun hc1 => ?_)
 ·skip
  have hc1p : e ≠ 0 := by simpa using hc1
  refine awp_seq ?_
  refine rk boxes [] [0, 2] [7000] ⟨39, [(0, (vL 7000 0)), (2, (vB false))], [(7000, (.cells 74 [(cD (List.map encB b)), (cI (p : Int)), (cI e)]))], [7000]⟩ (by kernel_rfl) .n ?_
  refine peel_seq ?_
  refine awp_ret ?_
  refine peel_seq_ret ?_
  exact (have hR : (rdF (RS.mk b p e)) = (false, RS.mk b p e) := (by (have hsp := numM_spec (l := (List.drop p b)) (fun x hx => hs.rng x (List.mem_of_mem_drop hx))); (have g2 : (e == 0) = false := by simpa using hc1); first | (simp only [rdF, rdN, g2, cond_true, cond_false, Bool.not_true, Bool.not_false, Nat.add_assoc]; done) | (simp only [rdF, rdN, g2, cond_true, cond_false, Bool.not_true, Bool.not_false, Nat.add_assoc]; rfl)); ends_ret rfl (show some ((vB false) : SV) = some ((vB (rdF (RS.mk b p e)).1) : SV) from by rw [hR]) (show some ([(7000, (.cells 74 [(cD (List.map encB b)), (cI (p : Int)), (cI e)]))] : Objs) = some ([(7000, (.cells 74 [(cD (List.map encB (RS.b ((rdF (RS.mk b p e)).2)))), (cI ((RS.at_ ((rdF (RS.mk b p e)).2)) : Int)), (cI (RS.e ((rdF (RS.mk b p e)).2)))]))] : Objs) from by rw [hR]))
 ·skip
  have hc1p : e = 0 := by simpa using hc1
  refine awp_skip ?_
  refine peel_seq ?_
  refine awp_seq ?_
  refine rk boxes [⟨8, false, [(vD (List.map encB b)), (vI (p : Int))], [], (vD (List.map encB (List.drop p b))), []⟩, ⟨9, false, [(sc (.func (.func 81) #[] #[])), (vD (List.map encB (List.drop p b)))], [], (.tup [(.c (cI (numM (List.drop p b)).1)), (.c (cI ((numM (List.drop p b)).2.1 : Int))), (.c (cI (numM (List.drop p b)).2.2))]), []⟩] [0, 2, 3, 4, 5] [7000] ⟨39, [(0, (vL 7000 0)), (2, (vB false)), (3, (vI (numM (List.drop p b)).1)), (4, (vI ((numM (List.drop p b)).2.1 : Int))), (5, (vI (numM (List.drop p b)).2.2))], [(7000, (.cells 74 [(cD (List.map encB b)), (cI (p : Int)), (cI e)]))], [7000]⟩ (by kernel_rfl) (.c (tri_res (tri_slice_from (e := 5) (bytes := 1) (l := p) tab_ok rfl (all_map fun _ => rfl) (by (try simp only [List.length_map] at *); omega)) (by simp only [List.map_drop]; rfl)) (.c (tri_call (q_number (List.drop p b) (by (simp only [List.length_drop]); omega) (by exact hrd))) .n)) ?_
  refine peel_seq ?_
  refine awp_seq ?_
  refine awp_seq ?_
  cases hb3 : ((numM (List.drop p b)).2.2 == 0) with
  | false =>
   have hb3p : (numM (List.drop p b)).2.2 ≠ 0 := by simpa using hb3
   refine rk boxes [⟨1, false, [(vI (numM (List.drop p b)).2.2), (vI 0)], [], (vB false), []⟩] [0, 2, 3, 4, 5, 30] [7000] ⟨39, [(0, (vL 7000 0)), (2, (vB false)), (3, (vI (numM (List.drop p b)).1)), (4, (vI ((numM (List.drop p b)).2.1 : Int))), (5, (vI (numM (List.drop p b)).2.2)), (30, (vB false))], [(7000, (.cells 74 [(cD (List.map encB b)), (cI (p : Int)), (cI e)]))], [7000]⟩ (by kernel_rfl) (.c (tri_scalar_eq [(.int .i64 (numM (List.drop p b)).2.2), (.int .i64 0)] (.bool ((numM (List.drop p b)).2.2 == 0)) rfl rfl rfl (by kernel_rfl) (congrArg Value.bool hb3)) .n) ?_
   refine peel_seq ?_
   refine awp_false rfl ?_
   refine awp_skip ?_
   refine peel_seq ?_
   refine awp_seq ?_
   refine rk boxes [⟨3, false, [(sc (.func (.func 82) #[] #[])), (vL 7000 0), (vI ((numM (List.drop p b)).2.1 : Int)), (vI (numM (List.drop p b)).2.2)], [(7000, (.cells 74 [(cD (List.map encB b)), (cI (p : Int)), (cI e)]))], (vB false), [(7000, (.cells 74 [(cD (List.map encB b)), (cI (p : Int)), (cI (numM (List.drop p b)).2.2)]))]⟩] [2] [7000] ⟨39, [(2, (vB false))], [(7000, (.cells 74 [(cD (List.map encB b)), (cI (p : Int)), (cI (numM (List.drop p b)).2.2)]))], [7000]⟩ (by kernel_rfl) (.c (tri_call (q_on_err b p e ((numM (List.drop p b)).2.1 : Int) ((numM (List.drop p b)).2.2) hb3)) .n) ?_
   refine peel_seq ?_
   refine awp_ret ?_
   exact (have hR : (rdF (RS.mk b p e)) = (false, RS.mk b p ((numM (List.drop p b)).2.2)) := (by (have hsp := numM_spec (l := (List.drop p b)) (fun x hx => hs.rng x (List.mem_of_mem_drop hx))); (have g4 : (e == 0) = true := by simpa using hc1); first | (simp only [rdF, rdN, g4, hb3, cond_true, cond_false, Bool.not_true, Bool.not_false, Nat.add_assoc]; done) | (simp only [rdF, rdN, g4, hb3, cond_true, cond_false, Bool.not_true, Bool.not_false, Nat.add_assoc]; rfl)); ends_ret rfl (show some ((vB false) : SV) = some ((vB (rdF (RS.mk b p e)).1) : SV) from by rw [hR]) (show some ([(7000, (.cells 74 [(cD (List.map encB b)), (cI (p : Int)), (cI (numM (List.drop p b)).2.2)]))] : Objs) = some ([(7000, (.cells 74 [(cD (List.map encB (RS.b ((rdF (RS.mk b p e)).2)))), (cI ((RS.at_ ((rdF (RS.mk b p e)).2)) : Int)), (cI (RS.e ((rdF (RS.mk b p e)).2)))]))] : Objs) from by rw [hR]))
  | true =>
   have hb3p : (numM (List.drop p b)).2.2 = 0 := by simpa using hb3
   refine rk boxes [⟨1, false, [(vI (numM (List.drop p b)).2.2), (vI 0)], [], (vB true), []⟩] [0, 2, 3, 4, 5, 30] [7000] ⟨39, [(0, (vL 7000 0)), (2, (vB false)), (3, (vI (numM (List.drop p b)).1)), (4, (vI ((numM (List.drop p b)).2.1 : Int))), (5, (vI (numM (List.drop p b)).2.2)), (30, (vB (decide ((numM (List.drop p b)).1 > 1))))], [(7000, (.cells 74 [(cD (List.map encB b)), (cI (p : Int)), (cI e)]))], [7000]⟩ (by kernel_rfl) (.c (tri_scalar_eq [(.int .i64 (numM (List.drop p b)).2.2), (.int .i64 0)] (.bool ((numM (List.drop p b)).2.2 == 0)) rfl rfl rfl (by kernel_rfl) (congrArg Value.bool hb3)) .n) ?_
   refine peel_seq ?_
   refine awp_cond (b := (decide ((numM (List.drop p b)).1 > 1))) rfl (fun hc5 => ?_) (fun hc5 => ?_)
   ·skip
    have hc5p := of_decide_eq_true hc5
    refine rk boxes [] [0, 2, 3, 4, 5] [7000] ⟨39, [(0, (vL 7000 0)), (2, (vB false)), (3, (vI (numM (List.drop p b)).1)), (4, (vI ((numM (List.drop p b)).2.1 : Int))), (5, (vI 11))], [(7000, (.cells 74 [(cD (List.map encB b)), (cI (p : Int)), (cI e)]))], [7000]⟩ (by kernel_rfl) .n ?_
    refine peel_seq ?_
    refine awp_seq ?_
    refine rk boxes [⟨3, false, [(sc (.func (.func 82) #[] #[])), (vL 7000 0), (vI ((numM (List.drop p b)).2.1 : Int)), (vI 11)], [(7000, (.cells 74 [(cD (List.map encB b)), (cI (p : Int)), (cI e)]))], (vB false), [(7000, (.cells 74 [(cD (List.map encB b)), (cI (p : Int)), (cI 11)]))]⟩] [2] [7000] ⟨39, [(2, (vB false))], [(7000, (.cells 74 [(cD (List.map encB b)), (cI (p : Int)), (cI 11)]))], [7000]⟩ (by kernel_rfl) (.c (tri_call (q_on_err b p e ((numM (List.drop p b)).2.1 : Int) 11 rfl)) .n) ?_
    refine peel_seq ?_
    refine awp_ret ?_
    exact (have hR : (rdF (RS.mk b p e)) = (false, RS.mk b p 11) := (by (have hsp := numM_spec (l := (List.drop p b)) (fun x hx => hs.rng x (List.mem_of_mem_drop hx))); (have g6 : (e == 0) = true := by simpa using hc1); first | (simp only [rdF, rdN, g6, hb3, hc5, cond_true, cond_false, Bool.not_true, Bool.not_false, Nat.add_assoc]; done) | (simp only [rdF, rdN, g6, hb3, hc5, cond_true, cond_false, Bool.not_true, Bool.not_false, Nat.add_assoc]; rfl)); ends_ret rfl (show some ((vB false) : SV) = some ((vB (rdF (RS.mk b p e)).1) : SV) from by rw [hR]) (show some ([(7000, (.cells 74 [(cD (List.map encB b)), (cI (p : Int)), (cI 11)]))] : Objs) = some ([(7000, (.cells 74 [(cD (List.map encB (RS.b ((rdF (RS.mk b p e)).2)))), (cI ((RS.at_ ((rdF (RS.mk b p e)).2)) : Int)), (cI (RS.e ((rdF (RS.mk b p e)).2)))]))] : Objs) from by rw [hR]))
   ·skip
    have hc5p := of_decide_eq_false hc5
    refine awp_skip ?_
    refine peel_seq ?_
    refine awp_seq ?_
    refine rk boxes [⟨3, false, [(sc (.func (.func 82) #[] #[])), (vL 7000 0), (vI ((numM (List.drop p b)).2.1 : Int)), (vI (numM (List.drop p b)).2.2)], [(7000, (.cells 74 [(cD (List.map encB b)), (cI (p : Int)), (cI e)]))], (vB true), [(7000, (.cells 74 [(cD (List.map encB b)), (cI (((p + ((numM (List.drop p b)).2.1)) : Nat) : Int)), (cI e)]))]⟩] [2] [7000] ⟨39, [(2, (vB ((numM (List.drop p b)).1 == 1)))], [(7000, (.cells 74 [(cD (List.map encB b)), (cI (((p + ((numM (List.drop p b)).2.1)) : Nat) : Int)), (cI e)]))], [7000]⟩ (by kernel_rfl) (.c (tri_call (q_on_ok b p e ((numM (List.drop p b)).2.1) ((numM (List.drop p b)).2.2) hb3 (by omega))) .n) ?_
    refine peel_seq ?_
    refine awp_ret ?_
    exact (have hR : (rdF (RS.mk b p e)) = (((numM (List.drop p b)).1 == 1), RS.mk b (p + ((numM (List.drop p b)).2.1)) e) := (by (have hsp := numM_spec (l := (List.drop p b)) (fun x hx => hs.rng x (List.mem_of_mem_drop hx))); (have g7 : (e == 0) = true := by simpa using hc1); first | (simp only [rdF, rdN, g7, hb3, hc5, cond_true, cond_false, Bool.not_true, Bool.not_false, Nat.add_assoc]; done) | (simp only [rdF, rdN, g7, hb3, hc5, cond_true, cond_false, Bool.not_true, Bool.not_false, Nat.add_assoc]; rfl)); ends_ret rfl (show some ((vB ((numM (List.drop p b)).1 == 1)) : SV) = some ((vB (rdF (RS.mk b p e)).1) : SV) from by rw [hR]) (show some ([(7000, (.cells 74 [(cD (List.map encB b)), (cI (((p + ((numM (List.drop p b)).2.1)) : Nat) : Int)), (cI e)]))] : Objs) = some ([(7000, (.cells 74 [(cD (List.map encB (RS.b ((rdF (RS.mk b p e)).2)))), (cI ((RS.at_ ((rdF (RS.mk b p e)).2)) : Int)), (cI (RS.e ((rdF (RS.mk b p e)).2)))]))] : Objs) from by rw [hR]))
theorem q_RFlag (s : RS) (hs : RS.ok s) : Sat Try.prog 68 [(vL 7000 0)] [(7000, (.cells 74 [(cD (List.map encB (RS.b s))), (cI ((RS.at_ s) : Int)), (cI (RS.e s))]))] (vB (rdF s).1) [(7000, (.cells 74 [(cD (List.map encB (RS.b ((rdF s).2)))), (cI ((RS.at_ ((rdF s).2)) : Int)), (cI (RS.e ((rdF s).2)))]))] := by
  obtain ⟨b, p, e⟩ := s
  exact q_RFlag0 b p e hs
end Go.Proofs.Ytjbiaoajmdbigaa
