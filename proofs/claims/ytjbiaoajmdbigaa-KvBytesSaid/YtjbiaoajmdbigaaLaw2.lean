/- Walks of what the laws of kv share: weigh, short, made. -/
import Derived.Test.YtjbiaoajmdbigaaLaw1
import Derived.Test.YtjbiaoajmdbigaaDo
set_option maxRecDepth 100000
set_option linter.unusedVariables false
set_option linter.unusedSimpArgs false
namespace Go.Proofs.Ytjbiaoajmdbigaa
open Go Go.E
theorem l_weigh (l : List AOp) : Sat Try.prog 10 [(vD (List.map encOp l))] [] (vI (weighM l)) [] := by
 refine sat_of_body tab_ok Try.func10 rfl (by kernel_rfl) (Nat.le_of_ble_eq_true rfl) rfl fun G => ?_
 refine awp_seq ?_
 refine rk boxes [] [0, 2] [] ⟨34, [(0, (vD (List.map encOp l))), (2, (vI 0))], [], []⟩ (by kernel_rfl) .n ?_
 refine peel_seq ?_
 refine awp_seq ?_
 refine rk boxes [] [0, 2, 3] [] ⟨34, [(0, (vD (List.map encOp l))), (2, (vI 0)), (3, (vI 0))], [], []⟩ (by kernel_rfl) .n ?_
 refine peel_seq ?_
 refine awp_seq ?_
 refine awp_seq ?_
 refine rk boxes [] [0, 2, 3, 4] [] ⟨34, [(0, (vD (List.map encOp l))), (2, (vI 0)), (3, (vI 0)), (4, (vI 0))], [], []⟩ (by kernel_rfl) .n ?_
 refine peel_seq ?_
 refine awp_block ?_
 refine awp_len 0 rfl (fun hlen1 => ?_)
 refine awp_loopP (ι := Nat × (Int)) (fun x => ⟨34, [(0, (vD (List.map encOp l))), (2, (vI 0)), (3, (vI x.2)), (4, (vI (x.1 : Int)))], [], []⟩) (fun x => x.1 ≤ List.length l ∧ (0 ≤ x.2 ∧ x.2 ≤ 200000) ∧ weighF (List.drop x.1 l) x.2 = weighF l 0) (fun x => List.length l - x.1) (0, 0) rfl ⟨Nat.zero_le _, ⟨by simp, by simp⟩, rfl⟩ ?_
 rintro ⟨k2, a3⟩ ⟨hk4, hx5, hJ6⟩
 try simp only at hk4 hx5 hJ6
 refine awp_seq ?_
 refine awp_seq ?_
 cases hb7 : (decide ((k2 : Int) < (List.length l : Int))) with
 | false =>
  have hb7p := of_decide_eq_false hb7
  refine rk boxes [⟨2, true, [(vD (List.map encOp l))], [], (vI (List.length l : Int)), []⟩, ⟨3, false, [(vI (k2 : Int)), (vI (List.length l : Int))], [], (vB false), []⟩] [0, 2, 3, 4, 12] [] ⟨34, [(0, (vD (List.map encOp l))), (2, (vI 0)), (3, (vI a3)), (4, (vI (k2 : Int))), (12, (vB false))], [], []⟩ (by kernel_rfl) (.c (tri_len_map tab_ok rfl) (.c (tri_scalar_eq [(.int .i64 (k2 : Int)), (.int .i64 (List.length l : Int))] (.bool (decide ((k2 : Int) < (List.length l : Int)))) rfl rfl rfl (by kernel_rfl) (congrArg Value.bool hb7)) .n)) ?_
  refine peel_seq ?_
  refine awp_false rfl ?_
  have hE8 := hJ6
  rw [at_end (l := l) (by (try simp only [List.length_map] at *); omega)] at hE8
  simp only [weighF, hb7, cond_true, cond_false, Bool.not_true, Bool.not_false] at hE8
  refine awp_exit ?_
  refine peel_seq_exit ?_
  refine peel_seq_exit ?_
  refine peel_hit ?_
  refine peel_seq ?_
  refine awp_seq ?_
  refine rk boxes [] [2] [] ⟨34, [(2, (vI a3))], [], []⟩ (by kernel_rfl) .n ?_
  refine peel_seq ?_
  refine awp_ret ?_
  exact ends_ret rfl (show some ((vI a3) : SV) = some ((vI (weighM l)) : SV) from by first | rfl | ((try simp only [cond_true, cond_false, Bool.not_true, Bool.not_false] at hE8); (first | (simp only [hb7, ← hE8, cond_true, cond_false, Bool.not_true, Bool.not_false, List.map_nil]; done) | (simp only [weighM, hb7, ← hE8, cond_true, cond_false, Bool.not_true, Bool.not_false, List.map_nil])))) rfl
 | true =>
  have hb7p := of_decide_eq_true hb7
  refine rk boxes [⟨2, true, [(vD (List.map encOp l))], [], (vI (List.length l : Int)), []⟩, ⟨3, false, [(vI (k2 : Int)), (vI (List.length l : Int))], [], (vB true), []⟩] [0, 2, 3, 4, 12] [] ⟨34, [(0, (vD (List.map encOp l))), (2, (vI 0)), (3, (vI a3)), (4, (vI (k2 : Int))), (12, (vB (decide (a3 ≤ 32768))))], [], []⟩ (by kernel_rfl) (.c (tri_len_map tab_ok rfl) (.c (tri_scalar_eq [(.int .i64 (k2 : Int)), (.int .i64 (List.length l : Int))] (.bool (decide ((k2 : Int) < (List.length l : Int)))) rfl rfl rfl (by kernel_rfl) (congrArg Value.bool hb7)) .n)) ?_
  refine peel_seq ?_
  refine awp_cond (b := (decide (a3 ≤ 32768))) rfl (fun hc9 => ?_) (fun hc9 => ?_)
  ·skip
   have hc9p := of_decide_eq_true hc9
   refine awp_skip ?_
   refine peel_seq ?_
   refine awp_seq ?_
   refine awp_block ?_
   obtain ⟨⟨key13, has14, val15⟩, ha11, hd12⟩ := at_drop (l := l) (k := k2) (by (try simp only [List.length_map] at *); omega)
   refine rk boxes [⟨3, false, [(vD (List.map encOp l)), (vI (k2 : Int))], [], (vT (dP [(dS key13), (dB has14), (dS val15)])), []⟩, ⟨7, false, [(vI (key13.size : Int)), (vI 32768)], [], (vI (min (key13.size : Int) 32768)), []⟩, ⟨8, false, [(vI 1), (vI (min (key13.size : Int) 32768))], [], (vI (1 + (min (key13.size : Int) 32768))), []⟩, ⟨11, false, [(vD (List.map encOp l)), (vI (k2 : Int))], [], (vT (dP [(dS key13), (dB has14), (dS val15)])), []⟩, ⟨15, false, [(vI (val15.size : Int)), (vI 32768)], [], (vI (min (val15.size : Int) 32768)), []⟩, ⟨16, false, [(vI (1 + (min (key13.size : Int) 32768))), (vI (min (val15.size : Int) 32768))], [], (vI ((1 + (min (key13.size : Int) 32768)) + (min (val15.size : Int) 32768))), []⟩, ⟨17, false, [(vI a3), (vI ((1 + (min (key13.size : Int) 32768)) + (min (val15.size : Int) 32768)))], [], (vI (a3 + ((1 + (min (key13.size : Int) 32768)) + (min (val15.size : Int) 32768)))), []⟩] [0, 2, 3, 4] [] ⟨34, [(0, (vD (List.map encOp l))), (2, (vI 0)), (3, (vI (a3 + ((1 + (min (key13.size : Int) 32768)) + (min (val15.size : Int) 32768))))), (4, (vI (k2 : Int)))], [], []⟩ (by kernel_rfl) (.c (tri_index_sl (e := 35) (sz := 3) (bytes := 40) (i := k2) tab_ok rfl (at_map encOp ha11) (all_map fun _ => rfl)) (.c (tri_min) (.c (tri_int (1 + (min (key13.size : Int) 32768)) (wrap_i64 (by omega))) (.c (tri_index_sl (e := 35) (sz := 3) (bytes := 40) (i := k2) tab_ok rfl (at_map encOp ha11) (all_map fun _ => rfl)) (.c (tri_min) (.c (tri_int ((1 + (min (key13.size : Int) 32768)) + (min (val15.size : Int) 32768)) (wrap_i64 (by omega))) (.c (tri_int (a3 + ((1 + (min (key13.size : Int) 32768)) + (min (val15.size : Int) 32768))) (wrap_i64 (by omega))) .n))))))) ?_
   refine peel_block ?_
   refine peel_seq ?_
   refine rk boxes [⟨1, false, [(vI (k2 : Int)), (vI 1)], [], (vI ((k2 : Int) + 1)), []⟩] [0, 2, 3, 4] [] ⟨34, [(0, (vD (List.map encOp l))), (2, (vI 0)), (3, (vI (a3 + ((1 + (min (key13.size : Int) 32768)) + (min (val15.size : Int) 32768))))), (4, (vI ((k2 : Int) + 1)))], [], []⟩ (by kernel_rfl) (.c (tri_int ((k2 : Int) + 1) (wrap_i64 (by omega))) .n) ?_
   exact peel_round (k2 + 1, (a3 + ((1 + (min (key13.size : Int) 32768)) + (min (val15.size : Int) 32768)))) rfl ⟨by (try simp only [List.length_map] at *); omega, ⟨by simp only; omega, by simp only; omega⟩, by have hj := hJ6; rw [hd12] at hj; simp only [weighF, hb7, hc9, cond_true, cond_false, Bool.not_true, Bool.not_false] at hj ⊢; exact hj⟩ (by (try simp only [List.length_map] at *); omega)
  ·skip
   have hc9p := of_decide_eq_false hc9
   have hE16 := hJ6
   obtain ⟨x17, ha18, hd19⟩ := at_drop (l := l) (k := k2) (by (try simp only [List.length_map] at *); omega)
   rw [hd19] at hE16
   simp only [weighF, hb7, hc9, cond_true, cond_false, Bool.not_true, Bool.not_false] at hE16
   refine awp_exit ?_
   refine peel_seq_exit ?_
   refine peel_seq_exit ?_
   refine peel_hit ?_
   refine peel_seq ?_
   refine awp_seq ?_
   refine rk boxes [] [2] [] ⟨34, [(2, (vI a3))], [], []⟩ (by kernel_rfl) .n ?_
   refine peel_seq ?_
   refine awp_ret ?_
   exact ends_ret rfl (show some ((vI a3) : SV) = some ((vI (weighM l)) : SV) from by first | rfl | ((try simp only [cond_true, cond_false, Bool.not_true, Bool.not_false] at hE16); (first | (simp only [hb7, hc9, ← hE16, cond_true, cond_false, Bool.not_true, Bool.not_false, List.map_nil]; done) | (simp only [weighM, hb7, hc9, ← hE16, cond_true, cond_false, Bool.not_true, Bool.not_false, List.map_nil])))) rfl
theorem l_short (l : List ADo) : Sat Try.prog 9 [(vD (List.map encDo l))] [] (vB (shortM l)) [] := by
 refine sat_of_body tab_ok Try.func9 rfl (by kernel_rfl) (Nat.le_of_ble_eq_true rfl) rfl fun G => ?_
 refine awp_seq ?_
 refine rk boxes [] [0, 2] [] ⟨75, [(0, (vD (List.map encDo l))), (2, (vB false))], [], []⟩ (by kernel_rfl) .n ?_
 refine peel_seq ?_
 refine awp_seq ?_
 refine rk boxes [] [0, 2, 3] [] ⟨75, [(0, (vD (List.map encDo l))), (2, (vB false)), (3, (vI 0))], [], []⟩ (by kernel_rfl) .n ?_
 refine peel_seq ?_
 refine awp_seq ?_
 refine awp_seq ?_
 refine rk boxes [] [0, 2, 3, 4] [] ⟨75, [(0, (vD (List.map encDo l))), (2, (vB false)), (3, (vI 0)), (4, (vI 0))], [], []⟩ (by kernel_rfl) .n ?_
 refine peel_seq ?_
 refine awp_block ?_
 refine awp_len 0 rfl (fun hlen1 => ?_)
 refine awp_loopP (ι := Nat × (Int)) (fun x => ⟨75, [(0, (vD (List.map encDo l))), (2, (vB false)), (3, (vI x.2)), (4, (vI (x.1 : Int)))], [], []⟩) (fun x => x.1 ≤ List.length l ∧ (0 ≤ x.2 ∧ x.2 ≤ 1000000) ∧ shortF (List.drop x.1 l) (x.1 : Int) x.2 = shortF l 0 0) (fun x => List.length l - x.1) (0, 0) rfl ⟨Nat.zero_le _, ⟨by simp, by simp⟩, rfl⟩ ?_
 rintro ⟨k2, a3⟩ ⟨hk4, hx5, hJ6⟩
 try simp only at hk4 hx5 hJ6
 refine awp_seq ?_
 refine awp_seq ?_
 cases hb7 : (decide ((k2 : Int) < (List.length l : Int))) with
 | false =>
  have hb7p := of_decide_eq_false hb7
  refine rk boxes [⟨2, true, [(vD (List.map encDo l))], [], (vI (List.length l : Int)), []⟩, ⟨3, false, [(vI (k2 : Int)), (vI (List.length l : Int))], [], (vB false), []⟩] [0, 2, 3, 4, 16] [] ⟨75, [(0, (vD (List.map encDo l))), (2, (vB false)), (3, (vI a3)), (4, (vI (k2 : Int))), (16, (vB false))], [], []⟩ (by kernel_rfl) (.c (tri_len_map tab_ok rfl) (.c (tri_scalar_eq [(.int .i64 (k2 : Int)), (.int .i64 (List.length l : Int))] (.bool (decide ((k2 : Int) < (List.length l : Int)))) rfl rfl rfl (by kernel_rfl) (congrArg Value.bool hb7)) .n)) ?_
  refine peel_seq ?_
  refine awp_false rfl ?_
  have hE8 := hJ6
  rw [at_end (l := l) (by (try simp only [List.length_map] at *); omega)] at hE8
  simp only [shortF, hb7, cond_true, cond_false, Bool.not_true, Bool.not_false] at hE8
  refine awp_exit ?_
  refine peel_seq_exit ?_
  refine peel_seq_exit ?_
  refine peel_hit ?_
  refine peel_seq ?_
  refine awp_seq ?_
  cases hb9 : (decide ((List.length l : Int) ≤ 100)) with
  | false =>
   have hb9p := of_decide_eq_false hb9
   refine rk boxes [⟨1, true, [(vD (List.map encDo l))], [], (vI (List.length l : Int)), []⟩, ⟨2, false, [(vI (List.length l : Int)), (vI 100)], [], (vB false), []⟩] [2] [] ⟨75, [(2, (vB false))], [], []⟩ (by kernel_rfl) (.c (tri_len_map tab_ok rfl) (.c (tri_scalar_eq [(.int .i64 (List.length l : Int)), (.int .i64 100)] (.bool (decide ((List.length l : Int) ≤ 100))) rfl rfl rfl (by kernel_rfl) (congrArg Value.bool hb9)) .n)) ?_
   refine peel_seq ?_
   refine awp_ret ?_
   exact ends_ret rfl (show some ((vB false) : SV) = some ((vB (shortM l)) : SV) from by first | rfl | ((try simp only [cond_true, cond_false, Bool.not_true, Bool.not_false] at hE8); (first | (simp only [hb7, hb9, ← hE8, cond_true, cond_false, Bool.not_true, Bool.not_false, List.map_nil]; done) | (simp only [shortM, hb7, hb9, ← hE8, cond_true, cond_false, Bool.not_true, Bool.not_false, List.map_nil])))) rfl
  | true =>
   have hb9p := of_decide_eq_true hb9
   refine rk boxes [⟨1, true, [(vD (List.map encDo l))], [], (vI (List.length l : Int)), []⟩, ⟨2, false, [(vI (List.length l : Int)), (vI 100)], [], (vB true), []⟩] [2] [] ⟨75, [(2, (vB (decide (a3 ≤ 32768))))], [], []⟩ (by kernel_rfl) (.c (tri_len_map tab_ok rfl) (.c (tri_scalar_eq [(.int .i64 (List.length l : Int)), (.int .i64 100)] (.bool (decide ((List.length l : Int) ≤ 100))) rfl rfl rfl (by kernel_rfl) (congrArg Value.bool hb9)) .n)) ?_
   refine peel_seq ?_
   refine awp_ret ?_
   exact ends_ret rfl (show some ((vB (decide (a3 ≤ 32768))) : SV) = some ((vB (shortM l)) : SV) from by first | rfl | ((try simp only [cond_true, cond_false, Bool.not_true, Bool.not_false] at hE8); (first | (simp only [hb7, hb9, ← hE8, cond_true, cond_false, Bool.not_true, Bool.not_false, List.map_nil]; done) | (simp only [shortM, hb7, hb9, ← hE8, cond_true, cond_false, Bool.not_true, Bool.not_false, List.map_nil])))) rfl
 | true =>
  have hb7p := of_decide_eq_true hb7
  cases hb10 : (decide ((k2 : Int) ≤ 100)) with
  | false =>
   have hb10p := of_decide_eq_false hb10
   refine rk boxes [⟨2, true, [(vD (List.map encDo l))], [], (vI (List.length l : Int)), []⟩, ⟨3, false, [(vI (k2 : Int)), (vI (List.length l : Int))], [], (vB true), []⟩, ⟨6, false, [(vI (k2 : Int)), (vI 100)], [], (vB false), []⟩] [0, 2, 3, 4, 16] [] ⟨75, [(0, (vD (List.map encDo l))), (2, (vB false)), (3, (vI a3)), (4, (vI (k2 : Int))), (16, (vB false))], [], []⟩ (by kernel_rfl) (.c (tri_len_map tab_ok rfl) (.c (tri_scalar_eq [(.int .i64 (k2 : Int)), (.int .i64 (List.length l : Int))] (.bool (decide ((k2 : Int) < (List.length l : Int)))) rfl rfl rfl (by kernel_rfl) (congrArg Value.bool hb7)) (.c (tri_scalar_eq [(.int .i64 (k2 : Int)), (.int .i64 100)] (.bool (decide ((k2 : Int) ≤ 100))) rfl rfl rfl (by kernel_rfl) (congrArg Value.bool hb10)) .n))) ?_
   refine peel_seq ?_
   refine awp_false rfl ?_
   have hE11 := hJ6
   obtain ⟨x12, ha13, hd14⟩ := at_drop (l := l) (k := k2) (by (try simp only [List.length_map] at *); omega)
   rw [hd14] at hE11
   simp only [shortF, hb10, hb7, cond_true, cond_false, Bool.not_true, Bool.not_false] at hE11
   refine awp_exit ?_
   refine peel_seq_exit ?_
   refine peel_seq_exit ?_
   refine peel_hit ?_
   refine peel_seq ?_
   refine awp_seq ?_
   cases hb15 : (decide ((List.length l : Int) ≤ 100)) with
   | false =>
    have hb15p := of_decide_eq_false hb15
    refine rk boxes [⟨1, true, [(vD (List.map encDo l))], [], (vI (List.length l : Int)), []⟩, ⟨2, false, [(vI (List.length l : Int)), (vI 100)], [], (vB false), []⟩] [2] [] ⟨75, [(2, (vB false))], [], []⟩ (by kernel_rfl) (.c (tri_len_map tab_ok rfl) (.c (tri_scalar_eq [(.int .i64 (List.length l : Int)), (.int .i64 100)] (.bool (decide ((List.length l : Int) ≤ 100))) rfl rfl rfl (by kernel_rfl) (congrArg Value.bool hb15)) .n)) ?_
    refine peel_seq ?_
    refine awp_ret ?_
    exact ends_ret rfl (show some ((vB false) : SV) = some ((vB (shortM l)) : SV) from by first | rfl | ((try simp only [cond_true, cond_false, Bool.not_true, Bool.not_false] at hE11); (first | (simp only [hb10, hb15, hb7, ← hE11, cond_true, cond_false, Bool.not_true, Bool.not_false, List.map_nil]; done) | (simp only [shortM, hb10, hb15, hb7, ← hE11, cond_true, cond_false, Bool.not_true, Bool.not_false, List.map_nil])))) rfl
   | true =>
    have hb15p := of_decide_eq_true hb15
    refine rk boxes [⟨1, true, [(vD (List.map encDo l))], [], (vI (List.length l : Int)), []⟩, ⟨2, false, [(vI (List.length l : Int)), (vI 100)], [], (vB true), []⟩] [2] [] ⟨75, [(2, (vB (decide (a3 ≤ 32768))))], [], []⟩ (by kernel_rfl) (.c (tri_len_map tab_ok rfl) (.c (tri_scalar_eq [(.int .i64 (List.length l : Int)), (.int .i64 100)] (.bool (decide ((List.length l : Int) ≤ 100))) rfl rfl rfl (by kernel_rfl) (congrArg Value.bool hb15)) .n)) ?_
    refine peel_seq ?_
    refine awp_ret ?_
    exact ends_ret rfl (show some ((vB (decide (a3 ≤ 32768))) : SV) = some ((vB (shortM l)) : SV) from by first | rfl | ((try simp only [cond_true, cond_false, Bool.not_true, Bool.not_false] at hE11); (first | (simp only [hb10, hb15, hb7, ← hE11, cond_true, cond_false, Bool.not_true, Bool.not_false, List.map_nil]; done) | (simp only [shortM, hb10, hb15, hb7, ← hE11, cond_true, cond_false, Bool.not_true, Bool.not_false, List.map_nil])))) rfl
  | true =>
   have hb10p := of_decide_eq_true hb10
   refine rk boxes [⟨2, true, [(vD (List.map encDo l))], [], (vI (List.length l : Int)), []⟩, ⟨3, false, [(vI (k2 : Int)), (vI (List.length l : Int))], [], (vB true), []⟩, ⟨6, false, [(vI (k2 : Int)), (vI 100)], [], (vB true), []⟩] [0, 2, 3, 4, 16] [] ⟨75, [(0, (vD (List.map encDo l))), (2, (vB false)), (3, (vI a3)), (4, (vI (k2 : Int))), (16, (vB (decide (a3 ≤ 32768))))], [], []⟩ (by kernel_rfl) (.c (tri_len_map tab_ok rfl) (.c (tri_scalar_eq [(.int .i64 (k2 : Int)), (.int .i64 (List.length l : Int))] (.bool (decide ((k2 : Int) < (List.length l : Int)))) rfl rfl rfl (by kernel_rfl) (congrArg Value.bool hb7)) (.c (tri_scalar_eq [(.int .i64 (k2 : Int)), (.int .i64 100)] (.bool (decide ((k2 : Int) ≤ 100))) rfl rfl rfl (by kernel_rfl) (congrArg Value.bool hb10)) .n))) ?_
   refine peel_seq ?_
   refine awp_cond (b := (decide (a3 ≤ 32768))) rfl (fun hc16 => ?_) (fun hc16 => ?_)
   ·skip
    have hc16p := of_decide_eq_true hc16
    refine awp_skip ?_
    refine peel_seq ?_
    refine awp_seq ?_
    refine awp_block ?_
    obtain ⟨⟨op20, pos21, conds22, ops23, fr24, to25, p126, p227, p328, p429, p530, p631⟩, ha18, hd19⟩ := at_drop (l := l) (k := k2) (by (try simp only [List.length_map] at *); omega)
    have hw32 := weighM_le conds22
    have hw33 := weighM_le ops23
    refine rk boxes [⟨3, false, [(vD (List.map encDo l)), (vI (k2 : Int))], [], (vT (dP [(dI op20), (dI pos21), (dD (List.map encOp conds22)), (dD (List.map encOp ops23)), (dS fr24), (dS to25), (dI p126), (dS p227), (dB p328), (dS p429), (dB p530), (dS p631)])), []⟩, ⟨6, false, [(sc (.func (.func 10) #[] #[])), (vD (List.map encOp conds22))], [], (vI (weighM conds22)), []⟩, ⟨9, false, [(vD (List.map encDo l)), (vI (k2 : Int))], [], (vT (dP [(dI op20), (dI pos21), (dD (List.map encOp conds22)), (dD (List.map encOp ops23)), (dS fr24), (dS to25), (dI p126), (dS p227), (dB p328), (dS p429), (dB p530), (dS p631)])), []⟩, ⟨12, false, [(sc (.func (.func 10) #[] #[])), (vD (List.map encOp ops23))], [], (vI (weighM ops23)), []⟩, ⟨13, false, [(vI (weighM conds22)), (vI (weighM ops23))], [], (vI ((weighM conds22) + (weighM ops23))), []⟩, ⟨16, false, [(vD (List.map encDo l)), (vI (k2 : Int))], [], (vT (dP [(dI op20), (dI pos21), (dD (List.map encOp conds22)), (dD (List.map encOp ops23)), (dS fr24), (dS to25), (dI p126), (dS p227), (dB p328), (dS p429), (dB p530), (dS p631)])), []⟩, ⟨20, false, [(vI (fr24.size : Int)), (vI 32768)], [], (vI (min (fr24.size : Int) 32768)), []⟩, ⟨21, false, [(vI ((weighM conds22) + (weighM ops23))), (vI (min (fr24.size : Int) 32768))], [], (vI (((weighM conds22) + (weighM ops23)) + (min (fr24.size : Int) 32768))), []⟩, ⟨24, false, [(vD (List.map encDo l)), (vI (k2 : Int))], [], (vT (dP [(dI op20), (dI pos21), (dD (List.map encOp conds22)), (dD (List.map encOp ops23)), (dS fr24), (dS to25), (dI p126), (dS p227), (dB p328), (dS p429), (dB p530), (dS p631)])), []⟩, ⟨28, false, [(vI (to25.size : Int)), (vI 32768)], [], (vI (min (to25.size : Int) 32768)), []⟩, ⟨29, false, [(vI (((weighM conds22) + (weighM ops23)) + (min (fr24.size : Int) 32768))), (vI (min (to25.size : Int) 32768))], [], (vI ((((weighM conds22) + (weighM ops23)) + (min (fr24.size : Int) 32768)) + (min (to25.size : Int) 32768))), []⟩, ⟨32, false, [(vD (List.map encDo l)), (vI (k2 : Int))], [], (vT (dP [(dI op20), (dI pos21), (dD (List.map encOp conds22)), (dD (List.map encOp ops23)), (dS fr24), (dS to25), (dI p126), (dS p227), (dB p328), (dS p429), (dB p530), (dS p631)])), []⟩, ⟨37, false, [(vI (p227.size : Int)), (vI 32768)], [], (vI (min (p227.size : Int) 32768)), []⟩, ⟨38, false, [(vI ((((weighM conds22) + (weighM ops23)) + (min (fr24.size : Int) 32768)) + (min (to25.size : Int) 32768))), (vI (min (p227.size : Int) 32768))], [], (vI (((((weighM conds22) + (weighM ops23)) + (min (fr24.size : Int) 32768)) + (min (to25.size : Int) 32768)) + (min (p227.size : Int) 32768))), []⟩, ⟨41, false, [(vD (List.map encDo l)), (vI (k2 : Int))], [], (vT (dP [(dI op20), (dI pos21), (dD (List.map encOp conds22)), (dD (List.map encOp ops23)), (dS fr24), (dS to25), (dI p126), (dS p227), (dB p328), (dS p429), (dB p530), (dS p631)])), []⟩, ⟨46, false, [(vI (p631.size : Int)), (vI 32768)], [], (vI (min (p631.size : Int) 32768)), []⟩, ⟨47, false, [(vI (((((weighM conds22) + (weighM ops23)) + (min (fr24.size : Int) 32768)) + (min (to25.size : Int) 32768)) + (min (p227.size : Int) 32768))), (vI (min (p631.size : Int) 32768))], [], (vI ((((((weighM conds22) + (weighM ops23)) + (min (fr24.size : Int) 32768)) + (min (to25.size : Int) 32768)) + (min (p227.size : Int) 32768)) + (min (p631.size : Int) 32768))), []⟩, ⟨48, false, [(vI a3), (vI ((((((weighM conds22) + (weighM ops23)) + (min (fr24.size : Int) 32768)) + (min (to25.size : Int) 32768)) + (min (p227.size : Int) 32768)) + (min (p631.size : Int) 32768)))], [], (vI (a3 + ((((((weighM conds22) + (weighM ops23)) + (min (fr24.size : Int) 32768)) + (min (to25.size : Int) 32768)) + (min (p227.size : Int) 32768)) + (min (p631.size : Int) 32768)))), []⟩] [0, 2, 3, 4] [] ⟨75, [(0, (vD (List.map encDo l))), (2, (vB false)), (3, (vI (a3 + ((((((weighM conds22) + (weighM ops23)) + (min (fr24.size : Int) 32768)) + (min (to25.size : Int) 32768)) + (min (p227.size : Int) 32768)) + (min (p631.size : Int) 32768))))), (4, (vI (k2 : Int)))], [], []⟩ (by kernel_rfl) (.c (tri_index_sl (e := 46) (sz := 12) (bytes := 168) (i := k2) tab_ok rfl (at_map encDo ha18) (all_map fun _ => rfl)) (.c (tri_call (l_weigh conds22)) (.c (tri_index_sl (e := 46) (sz := 12) (bytes := 168) (i := k2) tab_ok rfl (at_map encDo ha18) (all_map fun _ => rfl)) (.c (tri_call (l_weigh ops23)) (.c (tri_int ((weighM conds22) + (weighM ops23)) (wrap_i64 (by omega))) (.c (tri_index_sl (e := 46) (sz := 12) (bytes := 168) (i := k2) tab_ok rfl (at_map encDo ha18) (all_map fun _ => rfl)) (.c (tri_min) (.c (tri_int (((weighM conds22) + (weighM ops23)) + (min (fr24.size : Int) 32768)) (wrap_i64 (by omega))) (.c (tri_index_sl (e := 46) (sz := 12) (bytes := 168) (i := k2) tab_ok rfl (at_map encDo ha18) (all_map fun _ => rfl)) (.c (tri_min) (.c (tri_int ((((weighM conds22) + (weighM ops23)) + (min (fr24.size : Int) 32768)) + (min (to25.size : Int) 32768)) (wrap_i64 (by omega))) (.c (tri_index_sl (e := 46) (sz := 12) (bytes := 168) (i := k2) tab_ok rfl (at_map encDo ha18) (all_map fun _ => rfl)) (.c (tri_min) (.c (tri_int (((((weighM conds22) + (weighM ops23)) + (min (fr24.size : Int) 32768)) + (min (to25.size : Int) 32768)) + (min (p227.size : Int) 32768)) (wrap_i64 (by omega))) (.c (tri_index_sl (e := 46) (sz := 12) (bytes := 168) (i := k2) tab_ok rfl (at_map encDo ha18) (all_map fun _ => rfl)) (.c (tri_min) (.c (tri_int ((((((weighM conds22) + (weighM ops23)) + (min (fr24.size : Int) 32768)) + (min (to25.size : Int) 32768)) + (min (p227.size : Int) 32768)) + (min (p631.size : Int) 32768)) (wrap_i64 (by omega))) (.c (tri_int (a3 + ((((((weighM conds22) + (weighM ops23)) + (min (fr24.size : Int) 32768)) + (min (to25.size : Int) 32768)) + (min (p227.size : Int) 32768)) + (min (p631.size : Int) 32768))) (wrap_i64 (by omega))) .n)))))))))))))))))) ?_
    refine peel_block ?_
    refine peel_seq ?_
    refine rk boxes [⟨1, false, [(vI (k2 : Int)), (vI 1)], [], (vI ((k2 : Int) + 1)), []⟩] [0, 2, 3, 4] [] ⟨75, [(0, (vD (List.map encDo l))), (2, (vB false)), (3, (vI (a3 + ((((((weighM conds22) + (weighM ops23)) + (min (fr24.size : Int) 32768)) + (min (to25.size : Int) 32768)) + (min (p227.size : Int) 32768)) + (min (p631.size : Int) 32768))))), (4, (vI ((k2 : Int) + 1)))], [], []⟩ (by kernel_rfl) (.c (tri_int ((k2 : Int) + 1) (wrap_i64 (by omega))) .n) ?_
    exact peel_round (k2 + 1, (a3 + ((((((weighM conds22) + (weighM ops23)) + (min (fr24.size : Int) 32768)) + (min (to25.size : Int) 32768)) + (min (p227.size : Int) 32768)) + (min (p631.size : Int) 32768)))) rfl ⟨by (try simp only [List.length_map] at *); omega, ⟨by simp only; omega, by simp only; omega⟩, by have hj := hJ6; rw [hd19] at hj; simp only [shortF, hb10, hb7, hc16, cond_true, cond_false, Bool.not_true, Bool.not_false] at hj ⊢; exact hj⟩ (by (try simp only [List.length_map] at *); omega)
   ·skip
    have hc16p := of_decide_eq_false hc16
    have hE34 := hJ6
    obtain ⟨x35, ha36, hd37⟩ := at_drop (l := l) (k := k2) (by (try simp only [List.length_map] at *); omega)
    rw [hd37] at hE34
    simp only [shortF, hb10, hb7, hc16, cond_true, cond_false, Bool.not_true, Bool.not_false] at hE34
    refine awp_exit ?_
    refine peel_seq_exit ?_
    refine peel_seq_exit ?_
    refine peel_hit ?_
    refine peel_seq ?_
    refine awp_seq ?_
    cases hb38 : (decide ((List.length l : Int) ≤ 100)) with
    | false =>
     have hb38p := of_decide_eq_false hb38
     refine rk boxes [⟨1, true, [(vD (List.map encDo l))], [], (vI (List.length l : Int)), []⟩, ⟨2, false, [(vI (List.length l : Int)), (vI 100)], [], (vB false), []⟩] [2] [] ⟨75, [(2, (vB false))], [], []⟩ (by kernel_rfl) (.c (tri_len_map tab_ok rfl) (.c (tri_scalar_eq [(.int .i64 (List.length l : Int)), (.int .i64 100)] (.bool (decide ((List.length l : Int) ≤ 100))) rfl rfl rfl (by kernel_rfl) (congrArg Value.bool hb38)) .n)) ?_
     refine peel_seq ?_
     refine awp_ret ?_
     exact ends_ret rfl (show some ((vB false) : SV) = some ((vB (shortM l)) : SV) from by first | rfl | ((try simp only [cond_true, cond_false, Bool.not_true, Bool.not_false] at hE34); (first | (simp only [hb10, hb38, hb7, hc16, ← hE34, cond_true, cond_false, Bool.not_true, Bool.not_false, List.map_nil]; done) | (simp only [shortM, hb10, hb38, hb7, hc16, ← hE34, cond_true, cond_false, Bool.not_true, Bool.not_false, List.map_nil])))) rfl
    | true =>
     have hb38p := of_decide_eq_true hb38
     refine rk boxes [⟨1, true, [(vD (List.map encDo l))], [], (vI (List.length l : Int)), []⟩, ⟨2, false, [(vI (List.length l : Int)), (vI 100)], [], (vB true), []⟩, ⟨5, false, [(vI a3), (vI 32768)], [], (vB false), []⟩] [2] [] ⟨75, [(2, (vB false))], [], []⟩ (by kernel_rfl) (.c (tri_len_map tab_ok rfl) (.c (tri_scalar_eq [(.int .i64 (List.length l : Int)), (.int .i64 100)] (.bool (decide ((List.length l : Int) ≤ 100))) rfl rfl rfl (by kernel_rfl) (congrArg Value.bool hb38)) (.c (tri_scalar_eq [(.int .i64 a3), (.int .i64 32768)] (.bool (decide (a3 ≤ 32768))) rfl rfl rfl (by kernel_rfl) (congrArg Value.bool hc16)) .n))) ?_
     refine peel_seq ?_
     refine awp_ret ?_
     exact ends_ret rfl (show some ((vB false) : SV) = some ((vB (shortM l)) : SV) from by first | rfl | ((try simp only [cond_true, cond_false, Bool.not_true, Bool.not_false] at hE34); (first | (simp only [hb10, hb38, hb7, hc16, ← hE34, cond_true, cond_false, Bool.not_true, Bool.not_false, List.map_nil]; done) | (simp only [shortM, hb10, hb38, hb7, hc16, ← hE34, cond_true, cond_false, Bool.not_true, Bool.not_false, List.map_nil])))) rfl
theorem l_made (l : List ADo) (hl : l.length ≤ 100) : Sat Try.prog 12 [(vD (List.map encDo l))] [] (.tup [(.c (.loc 5001 0)), (.c (cD (List.map encEv ((madeM l).2))))]) [(5001, (.cells 51 [(.d (dP [(encT ((madeM l).1))]))]))] := by
 refine sat_of_body tab_ok Try.func12 rfl (by kernel_rfl) (Nat.le_of_ble_eq_true rfl) rfl fun G => ?_
 refine awp_seq ?_
 refine rk boxes [] [0, 2, 3] [] ⟨42, [(0, (vD (List.map encDo l))), (2, (sc (.pointer none))), (3, (sc (.slice none 0 0)))], [], []⟩ (by kernel_rfl) .n ?_
 refine peel_seq ?_
 refine awp_seq ?_
 refine rk boxes [⟨0, false, [(sc (.func (.func 24) #[] #[]))], [], (vL 11 0), [(11, (.cells 51 [(.d (dP [(encT (Tr.nil))]))]))]⟩] [0, 2, 3, 4] [11] ⟨42, [(0, (vD (List.map encDo l))), (2, (sc (.pointer none))), (3, (sc (.slice none 0 0))), (4, (vL 11 0))], [(11, (.cells 51 [(.d (dP [(encT (Tr.nil))]))]))], []⟩ (by kernel_rfl) (.c (tri_call (Sat.sw 5001 11 (k_New))) .n) ?_
 refine peel_seq ?_
 refine awp_seq ?_
 refine rk boxes [] [0, 2, 3, 4, 5] [11] ⟨42, [(0, (vD (List.map encDo l))), (2, (sc (.pointer none))), (3, (sc (.slice none 0 0))), (4, (vL 11 0)), (5, (sc (.slice none 0 0)))], [(11, (.cells 51 [(.d (dP [(encT (Tr.nil))]))]))], []⟩ (by kernel_rfl) .n ?_
 refine peel_seq ?_
 refine awp_seq ?_
 refine awp_seq ?_
 refine rk boxes [⟨1, true, [(vD (List.map encDo l))], [], (vI (List.length l : Int)), []⟩] [2, 3, 4, 5, 12, 13, 14] [11] ⟨42, [(2, (sc (.pointer none))), (3, (sc (.slice none 0 0))), (4, (vL 11 0)), (5, (sc (.slice none 0 0))), (12, (vD (List.map encDo l))), (13, (vI (List.length l : Int))), (14, (vI 0))], [(11, (.cells 51 [(.d (dP [(encT (Tr.nil))]))]))], []⟩ (by kernel_rfl) (.c (tri_len_map tab_ok rfl) .n) ?_
 refine peel_seq ?_
 refine awp_block ?_
 refine awp_mv [.own 5 1005 44 6 72] ⟨42, [(5, (vO 1005)), (2, (sc (.pointer none))), (3, (sc (.slice none 0 0))), (4, (vL 11 0)), (12, (vD (List.map encDo l))), (13, (vI (List.length l : Int))), (14, (vI 0))], [(1005, (.arr 44 6 72 [])), (11, (.cells 51 [(.d (dP [(encT (Tr.nil))]))]))], []⟩ rfl ?_
 refine q_keep [2, 3, 4, 5, 12, 13, 14] [11, 1005] ?_
 refine awp_len 12 rfl (fun hlen1 => ?_)
 refine awp_loopP (ι := Nat × (Tr) × (List AEv)) (fun x => ⟨42, [(2, (sc (.pointer none))), (3, (sc (.slice none 0 0))), (4, (vL 11 0)), (5, (vO 1005)), (12, (vD (List.map encDo l))), (13, (vI (List.length l : Int))), (14, (vI (x.1 : Int)))], [(11, (.cells 51 [(.d (dP [(encT x.2.1)]))])), (1005, (.arr 44 6 72 (List.map encEv x.2.2)))], []⟩) (fun x => x.1 ≤ List.length l ∧ (Tr.size x.2.1 ≤ 6 * x.1 ∧ List.length x.2.2 ≤ 6 * x.1) ∧ madeF (List.drop x.1 l) x.2.1 x.2.2 = madeF l Tr.nil []) (fun x => List.length l - x.1) (0, Tr.nil, []) rfl ⟨Nat.zero_le _, ⟨by simp [Tr.size], by simp⟩, rfl⟩ ?_
 rintro ⟨k2, a3, b4⟩ ⟨hk5, hx6, hJ7⟩
 try simp only at hk5 hx6 hJ7
 refine awp_seq ?_
 refine rk boxes [] [2, 3, 4, 5, 12, 13, 14, 15] [11, 1005] ⟨42, [(2, (sc (.pointer none))), (3, (sc (.slice none 0 0))), (4, (vL 11 0)), (5, (vO 1005)), (12, (vD (List.map encDo l))), (13, (vI (List.length l : Int))), (14, (vI (k2 : Int))), (15, (vB (decide ((k2 : Int) < (List.length l : Int)))))], [(11, (.cells 51 [(.d (dP [(encT a3)]))])), (1005, (.arr 44 6 72 (List.map encEv b4)))], []⟩ (by kernel_rfl) .n ?_
 refine peel_seq ?_
 refine awp_seq ?_
 refine awp_cond (b := (decide ((k2 : Int) < (List.length l : Int)))) rfl (fun hc8 => ?_) (fun hc8 => ?_)
 ·skip
  have hc8p := of_decide_eq_true hc8
  refine awp_skip ?_
  refine peel_seq ?_
  refine awp_seq ?_
  refine awp_block ?_
  refine awp_seq ?_
  obtain ⟨⟨op12, pos13, conds14, ops15, fr16, to17, p118, p219, p320, p421, p522, p623⟩, ha10, hd11⟩ := at_drop (l := l) (k := k2) (by (try simp only [List.length_map] at *); omega)
  refine rk boxes [⟨0, false, [(vD (List.map encDo l)), (vI (k2 : Int))], [], (vT (dP [(dI op12), (dI pos13), (dD (List.map encOp conds14)), (dD (List.map encOp ops15)), (dS fr16), (dS to17), (dI p118), (dS p219), (dB p320), (dS p421), (dB p522), (dS p623)])), []⟩] [2, 3, 4, 5, 7, 12, 13, 14] [7, 11, 1005] ⟨42, [(2, (sc (.pointer none))), (3, (sc (.slice none 0 0))), (4, (vL 11 0)), (5, (vO 1005)), (7, (vL 7 0)), (12, (vD (List.map encDo l))), (13, (vI (List.length l : Int))), (14, (vI (k2 : Int)))], [(7, (.cells 46 [(cI op12), (cI pos13), (cD (List.map encOp conds14)), (cD (List.map encOp ops15)), (cS fr16), (cS to17), (cI p118), (cS p219), (cB p320), (cS p421), (cB p522), (cS p623)])), (11, (.cells 51 [(.d (dP [(encT a3)]))])), (1005, (.arr 44 6 72 (List.map encEv b4)))], []⟩ (by kernel_rfl) (.c (tri_index_sl (e := 46) (sz := 12) (bytes := 168) (i := k2) tab_ok rfl (at_map encDo ha10) (all_map fun _ => rfl)) .n) ?_
  refine peel_seq ?_
  refine awp_seq ?_
  refine rk boxes [] [2, 3, 4, 5, 7, 8, 12, 13, 14] [7, 11, 1005] ⟨42, [(2, (sc (.pointer none))), (3, (sc (.slice none 0 0))), (4, (vL 11 0)), (5, (vO 1005)), (7, (vL 7 0)), (8, (vI (IntKind.wrap .i64 (Int.tmod (IntKind.wrap .u64 op12) 8)))), (12, (vD (List.map encDo l))), (13, (vI (List.length l : Int))), (14, (vI (k2 : Int)))], [(7, (.cells 46 [(cI op12), (cI pos13), (cD (List.map encOp conds14)), (cD (List.map encOp ops15)), (cS fr16), (cS to17), (cI p118), (cS p219), (cB p320), (cS p421), (cB p522), (cS p623)])), (11, (.cells 51 [(.d (dP [(encT a3)]))])), (1005, (.arr 44 6 72 (List.map encEv b4)))], []⟩ (by kernel_rfl) .n ?_
  refine peel_seq ?_
  refine awp_seq ?_
  refine rk boxes [] [2, 3, 4, 5, 7, 12, 13, 14, 24] [7, 11, 1005] ⟨42, [(2, (sc (.pointer none))), (3, (sc (.slice none 0 0))), (4, (vL 11 0)), (5, (vO 1005)), (7, (vL 7 0)), (12, (vD (List.map encDo l))), (13, (vI (List.length l : Int))), (14, (vI (k2 : Int))), (24, (vB (decide ((IntKind.wrap .i64 (Int.tmod (IntKind.wrap .u64 op12) 8)) < 4))))], [(7, (.cells 46 [(cI op12), (cI pos13), (cD (List.map encOp conds14)), (cD (List.map encOp ops15)), (cS fr16), (cS to17), (cI p118), (cS p219), (cB p320), (cS p421), (cB p522), (cS p623)])), (11, (.cells 51 [(.d (dP [(encT a3)]))])), (1005, (.arr 44 6 72 (List.map encEv b4)))], []⟩ (by kernel_rfl) .n ?_
  refine peel_seq ?_
  refine awp_cond (b := (decide ((IntKind.wrap .i64 (Int.tmod (IntKind.wrap .u64 op12) 8)) < 4))) rfl (fun hc24 => ?_) (fun hc24 => ?_)
  ·skip
   have hc24p := of_decide_eq_true hc24
   refine awp_seq ?_
   refine rk boxes [⟨7, false, [(sc (.func (.func 15) #[] #[])), (vL 11 0), (vI pos13), (vD (List.map encOp conds14)), (vD (List.map encOp ops15))], [(11, (.cells 51 [(.d (dP [(encT a3)]))]))], (.tup [(.c (cD (List.map encEv ((planM a3 pos13 conds14 ops15).1)))), (.c (cI (planM a3 pos13 conds14 ops15).2))]), [(11, (.cells 51 [(.d (dP [(encT (doT a3 pos13 conds14 ops15))]))]))]⟩] [2, 3, 4, 5, 9, 12, 13, 14] [11, 1005] ⟨42, [(2, (sc (.pointer none))), (3, (sc (.slice none 0 0))), (4, (vL 11 0)), (5, (vO 1005)), (9, (vD (List.map encEv ((planM a3 pos13 conds14 ops15).1)))), (12, (vD (List.map encDo l))), (13, (vI (List.length l : Int))), (14, (vI (k2 : Int)))], [(11, (.cells 51 [(.d (dP [(encT (doT a3 pos13 conds14 ops15))]))])), (1005, (.arr 44 6 72 (List.map encEv b4)))], []⟩ (by kernel_rfl) (.c (tri_call (Sat.sw 5000 11 (k_Do a3 pos13 conds14 ops15 (by omega)))) .n) ?_
   refine peel_seq ?_
   refine awp_then [.sw 38 1005] ?_
   refine rk boxes [⟨2, false, [(vO 1005), (vD (List.map encEv ((planM a3 pos13 conds14 ops15).1)))], [(1005, (.arr 44 6 72 (List.map encEv b4)))], (vO 38), [(38, (.arr 44 6 72 (List.map encEv (b4 ++ ((planM a3 pos13 conds14 ops15).1)))))]⟩] [2, 3, 4, 5, 12, 13, 14] [11, 38] ⟨42, [(2, (sc (.pointer none))), (3, (sc (.slice none 0 0))), (4, (vL 11 0)), (5, (vO 38)), (12, (vD (List.map encDo l))), (13, (vI (List.length l : Int))), (14, (vI (k2 : Int)))], [(11, (.cells 51 [(.d (dP [(encT (doT a3 pos13 conds14 ops15))]))])), (38, (.arr 44 6 72 (List.map encEv (b4 ++ ((planM a3 pos13 conds14 ops15).1)))))], []⟩ (by kernel_rfl) (.c (tri_to (tri_append_sl (ex := 44) (bytes := 72) tab_ok rfl rfl rfl (all_map fun _ => rfl) (by simp only [List.length_map]; exact Nat.le_trans (Nat.mul_le_mul_right _ (Nat.add_le_add_left (planM_len ..) _)) (by omega))) (by simp [encEv])) .n) ?_
   refine then_mv ⟨42, [(2, (sc (.pointer none))), (3, (sc (.slice none 0 0))), (4, (vL 11 0)), (5, (vO 1005)), (12, (vD (List.map encDo l))), (13, (vI (List.length l : Int))), (14, (vI (k2 : Int)))], [(11, (.cells 51 [(.d (dP [(encT (doT a3 pos13 conds14 ops15))]))])), (1005, (.arr 44 6 72 (List.map encEv (b4 ++ ((planM a3 pos13 conds14 ops15).1)))))], []⟩ rfl ?_
   refine peel_block ?_
   refine peel_seq ?_
   refine rk boxes [⟨0, false, [(vI (k2 : Int)), (vI 1)], [], (vI ((k2 : Int) + 1)), []⟩] [2, 3, 4, 5, 12, 13, 14] [11, 1005] ⟨42, [(2, (sc (.pointer none))), (3, (sc (.slice none 0 0))), (4, (vL 11 0)), (5, (vO 1005)), (12, (vD (List.map encDo l))), (13, (vI (List.length l : Int))), (14, (vI ((k2 : Int) + 1)))], [(11, (.cells 51 [(.d (dP [(encT (doT a3 pos13 conds14 ops15))]))])), (1005, (.arr 44 6 72 (List.map encEv (b4 ++ ((planM a3 pos13 conds14 ops15).1)))))], []⟩ (by kernel_rfl) (.c (tri_int ((k2 : Int) + 1) (wrap_i64 (by omega))) .n) ?_
   exact peel_round (k2 + 1, (doT a3 pos13 conds14 ops15), (b4 ++ ((planM a3 pos13 conds14 ops15).1))) rfl ⟨by (try simp only [List.length_map] at *); omega, by simp only; first | exact ⟨by omega, by omega⟩ | exact ⟨Nat.le_trans (doT_size ..) (by omega), by simp only [List.length_append]; exact Nat.le_trans (Nat.add_le_add_left (planM_len ..) _) (by omega)⟩, by have hj := hJ7; rw [hd11] at hj; simp only [madeF, hc24, hc8, cond_true, cond_false, Bool.not_true, Bool.not_false] at hj ⊢; exact hj⟩ (by (try simp only [List.length_map] at *); omega)
  ·skip
   have hc24p := of_decide_eq_false hc24
   refine q_keep [2, 3, 4, 5, 12, 13, 14] [11, 1005] ?_
   refine awp_skip ?_
   refine peel_block ?_
   refine peel_seq ?_
   refine rk boxes [⟨0, false, [(vI (k2 : Int)), (vI 1)], [], (vI ((k2 : Int) + 1)), []⟩] [2, 3, 4, 5, 12, 13, 14] [11, 1005] ⟨42, [(2, (sc (.pointer none))), (3, (sc (.slice none 0 0))), (4, (vL 11 0)), (5, (vO 1005)), (12, (vD (List.map encDo l))), (13, (vI (List.length l : Int))), (14, (vI ((k2 : Int) + 1)))], [(11, (.cells 51 [(.d (dP [(encT a3)]))])), (1005, (.arr 44 6 72 (List.map encEv b4)))], []⟩ (by kernel_rfl) (.c (tri_int ((k2 : Int) + 1) (wrap_i64 (by omega))) .n) ?_
   exact peel_round (k2 + 1, a3, b4) rfl ⟨by (try simp only [List.length_map] at *); omega, by simp only; first | exact ⟨by omega, by omega⟩ | exact ⟨Nat.le_trans (doT_size ..) (by omega), by simp only [List.length_append]; exact Nat.le_trans (Nat.add_le_add_left (planM_len ..) _) (by omega)⟩, by have hj := hJ7; rw [hd11] at hj; simp only [madeF, hc24, hc8, cond_true, cond_false, Bool.not_true, Bool.not_false] at hj ⊢; exact hj⟩ (by (try simp only [List.length_map] at *); omega)
 ·skip
  have hc8p := of_decide_eq_false hc8
  have hE25 := hJ7
  rw [at_end (l := l) (by (try simp only [List.length_map] at *); omega)] at hE25
  simp only [madeF, hc8, cond_true, cond_false, Bool.not_true, Bool.not_false] at hE25
  refine awp_exit ?_
  refine peel_seq_exit ?_
  refine peel_seq_exit ?_
  refine peel_hit ?_
  refine peel_seq ?_
  refine awp_seq ?_
  refine rk boxes [] [2, 3] [11, 1005] ⟨42, [(2, (vL 11 0)), (3, (vO 1005))], [(11, (.cells 51 [(.d (dP [(encT a3)]))])), (1005, (.arr 44 6 72 (List.map encEv b4)))], []⟩ (by kernel_rfl) .n ?_
  refine peel_seq ?_
  refine awp_mv [.fz 1005, .sw 11 5001] ⟨42, [(2, (vL 5001 0)), (3, (vD (List.map encEv b4)))], [(5001, (.cells 51 [(.d (dP [(encT a3)]))]))], []⟩ rfl ?_
  refine awp_ret ?_
  exact ends_ret rfl (show some ((.tup [(.c (.loc 5001 0)), (.c (cD (List.map encEv b4)))]) : SV) = some ((.tup [(.c (.loc 5001 0)), (.c (cD (List.map encEv ((madeM l).2))))]) : SV) from by first | rfl | ((try simp only [cond_true, cond_false, Bool.not_true, Bool.not_false] at hE25); (first | (simp only [hc8, ← hE25, cond_true, cond_false, Bool.not_true, Bool.not_false, List.map_nil]; done) | (simp only [madeM, hc8, ← hE25, cond_true, cond_false, Bool.not_true, Bool.not_false, List.map_nil])))) (show some ([(5001, (.cells 51 [(.d (dP [(encT a3)]))]))] : Objs) = some ([(5001, (.cells 51 [(.d (dP [(encT ((madeM l).1))]))]))] : Objs) from by first | rfl | ((try simp only [cond_true, cond_false, Bool.not_true, Bool.not_false] at hE25); (first | (simp only [hc8, ← hE25, cond_true, cond_false, Bool.not_true, Bool.not_false, List.map_nil]; done) | (simp only [madeM, hc8, ← hE25, cond_true, cond_false, Bool.not_true, Bool.not_false, List.map_nil]))))
end Go.Proofs.Ytjbiaoajmdbigaa
