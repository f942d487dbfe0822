/- Walks of package wire: what is read. -/
import Derived.Test.YtjbiaoajmdbigaaWi1
set_option maxRecDepth 100000
set_option linter.unusedVariables false
set_option linter.unusedSimpArgs false
namespace Go.Proofs.Ytjbiaoajmdbigaa
open Go Go.E
theorem one_byte {b : List Int} {p : Nat} {x : Int} (h : b[p]? = some x) : (b.take (p + 1)).drop p = [x] := by
  obtain ⟨hl, rfl⟩ := List.getElem?_eq_some_iff.1 h
  rw [mid_eq, List.drop_eq_getElem_cons hl]
  rfl
theorem w_dead (b : List Int) (p : Nat) (e : Int) : Sat Try.prog 65 [(vL 7000 0)] [(7000, (.cells 94 [(cD (List.map encB b)), (cI (p : Int)), (cI e), (cB true)]))] (vB false) [(7000, (.cells 94 [(cD (List.map encB b)), (cI (p : Int)), (cI e), (cB true)]))] := by
 refine sat_of_body tab_ok Try.func65 rfl (by kernel_rfl) (Nat.le_of_ble_eq_true rfl) rfl fun G => ?_
 refine awp_seq ?_
 refine rk boxes [] [0, 2] [7000] ⟨12, [(0, (vL 7000 0)), (2, (vB false))], [(7000, (.cells 94 [(cD (List.map encB b)), (cI (p : Int)), (cI e), (cB true)]))], [7000]⟩ (by kernel_rfl) .n ?_
 refine peel_seq ?_
 refine awp_seq ?_
 refine rk boxes [] [2] [7000] ⟨12, [(2, (vB false))], [(7000, (.cells 94 [(cD (List.map encB b)), (cI (p : Int)), (cI e), (cB true)]))], [7000]⟩ (by kernel_rfl) .n ?_
 refine peel_seq ?_
 refine awp_ret ?_
 exact ends_ret rfl rfl rfl
theorem w_Err (b : List Int) (p : Nat) (e : Int) : Sat Try.prog 38 [(vL 7000 0)] [(7000, (.cells 94 [(cD (List.map encB b)), (cI (p : Int)), (cI e), (cB true)]))] (vI e) [(7000, (.cells 94 [(cD (List.map encB b)), (cI (p : Int)), (cI e), (cB true)]))] := by
 refine sat_of_body tab_ok Try.func38 rfl (by kernel_rfl) (Nat.le_of_ble_eq_true rfl) rfl fun G => ?_
 refine awp_seq ?_
 refine rk boxes [] [0, 2] [7000] ⟨9, [(0, (vL 7000 0)), (2, (vI 0))], [(7000, (.cells 94 [(cD (List.map encB b)), (cI (p : Int)), (cI e), (cB true)]))], [7000]⟩ (by kernel_rfl) .n ?_
 refine peel_seq ?_
 refine awp_seq ?_
 refine awp_seq ?_
 refine rk boxes [⟨1, true, [(sc (.func (.func 65) #[] #[])), (vL 7000 0)], [(7000, (.cells 94 [(cD (List.map encB b)), (cI (p : Int)), (cI e), (cB true)]))], (vB false), []⟩] [0, 2, 4] [7000] ⟨9, [(0, (vL 7000 0)), (2, (vI 0)), (4, (vB false))], [(7000, (.cells 94 [(cD (List.map encB b)), (cI (p : Int)), (cI e), (cB true)]))], [7000]⟩ (by kernel_rfl) (.c (tri_call (w_dead b p e)) .n) ?_
 refine peel_seq ?_
 refine awp_false rfl ?_
 refine awp_skip ?_
 refine peel_seq ?_
 refine awp_seq ?_
 refine rk boxes [] [2] [7000] ⟨9, [(2, (vI e))], [(7000, (.cells 94 [(cD (List.map encB b)), (cI (p : Int)), (cI e), (cB true)]))], [7000]⟩ (by kernel_rfl) .n ?_
 refine peel_seq ?_
 refine awp_ret ?_
 exact ends_ret rfl rfl rfl
theorem w_Left (b : List Int) (p : Nat) (e : Int) (hp : p ≤ b.length) (hb : b.length ≤ 1000000000) : Sat Try.prog 39 [(vL 7000 0)] [(7000, (.cells 94 [(cD (List.map encB b)), (cI (p : Int)), (cI e), (cB true)]))] (vI ((List.length b : Int) - (p : Int))) [(7000, (.cells 94 [(cD (List.map encB b)), (cI (p : Int)), (cI e), (cB true)]))] := by
 refine sat_of_body tab_ok Try.func39 rfl (by kernel_rfl) (Nat.le_of_ble_eq_true rfl) rfl fun G => ?_
 refine awp_seq ?_
 refine rk boxes [] [0, 2] [7000] ⟨15, [(0, (vL 7000 0)), (2, (vI 0))], [(7000, (.cells 94 [(cD (List.map encB b)), (cI (p : Int)), (cI e), (cB true)]))], [7000]⟩ (by kernel_rfl) .n ?_
 refine peel_seq ?_
 refine awp_seq ?_
 refine awp_seq ?_
 refine rk boxes [⟨1, true, [(sc (.func (.func 65) #[] #[])), (vL 7000 0)], [(7000, (.cells 94 [(cD (List.map encB b)), (cI (p : Int)), (cI e), (cB true)]))], (vB false), []⟩] [0, 2, 4] [7000] ⟨15, [(0, (vL 7000 0)), (2, (vI 0)), (4, (vB false))], [(7000, (.cells 94 [(cD (List.map encB b)), (cI (p : Int)), (cI e), (cB true)]))], [7000]⟩ (by kernel_rfl) (.c (tri_call (w_dead b p e)) .n) ?_
 refine peel_seq ?_
 refine awp_false rfl ?_
 refine awp_skip ?_
 refine peel_seq ?_
 refine awp_seq ?_
 refine rk boxes [⟨4, true, [(vD (List.map encB b))], [], (vI (List.length b : Int)), []⟩, ⟨9, false, [(vI (List.length b : Int)), (vI (p : Int))], [], (vI ((List.length b : Int) - (p : Int))), []⟩] [2] [7000] ⟨15, [(2, (vI ((List.length b : Int) - (p : Int))))], [(7000, (.cells 94 [(cD (List.map encB b)), (cI (p : Int)), (cI e), (cB true)]))], [7000]⟩ (by kernel_rfl) (.c (tri_len_map tab_ok rfl) (.c (tri_int ((List.length b : Int) - (p : Int)) (wrap_i64 (by omega))) .n)) ?_
 refine peel_seq ?_
 refine awp_ret ?_
 exact ends_ret rfl rfl rfl
theorem w_Read (b : List Int) (hb : b.length ≤ 1000000000) : Sat Try.prog 36 [(vD (List.map encB b))] [] (vL 5001 0) [(5001, (.cells 94 [(cD (List.map encB b)), (cI ((0 : Nat) : Int)), (cI 0), (cB true)]))] := by
 refine sat_of_body tab_ok Try.func36 rfl (by kernel_rfl) (Nat.le_of_ble_eq_true rfl) rfl fun G => ?_
 refine awp_seq ?_
 refine rk boxes [] [0, 2] [] ⟨8, [(0, (vD (List.map encB b))), (2, (sc (.pointer none)))], [], []⟩ (by kernel_rfl) .n ?_
 refine peel_seq ?_
 refine awp_seq ?_
 refine rk boxes [⟨2, false, [(vO 3), (vD (List.map encB b))], [(3, (.arr 5 1 1 []))], (vO 5), [(5, (.arr 5 1 1 (List.map encB b)))]⟩] [2] [5, 7] ⟨8, [(2, (vL 7 0))], [(5, (.arr 5 1 1 (List.map encB b))), (7, (.cells 94 [(.own 5), (cI 0), (cI 0), (cB true)]))], []⟩ (by kernel_rfl) (.c (tri_to (tri_append_sl (ex := 5) (bytes := 1) tab_ok rfl rfl rfl (all_map fun _ => rfl) (by (try simp only [List.length_map, List.length_append, List.length_cons, List.length_nil] at *); omega)) (by simp [encB])) .n) ?_
 refine peel_seq ?_
 refine awp_mv [.fz 5, .sw 7 5001] ⟨8, [(2, (vL 5001 0))], [(5001, (.cells 94 [(cD (List.map encB b)), (cI 0), (cI 0), (cB true)]))], []⟩ rfl ?_
 refine awp_ret ?_
 exact ends_ret rfl rfl rfl
theorem w_fail (b : List Int) (p : Nat) (e : Int) (k : Int) (h0 : (e == 0) = true) : Sat Try.prog 79 [(vL 7000 0), (vI k)] [(7000, (.cells 94 [(cD (List.map encB b)), (cI (p : Int)), (cI e), (cB true)]))] (.tup []) [(7000, (.cells 94 [(cD (List.map encB b)), (cI (p : Int)), (cI k), (cB true)]))] := by
 refine sat_of_body tab_ok Try.func79 rfl (by kernel_rfl) (Nat.le_of_ble_eq_true rfl) rfl fun G => ?_
 refine awp_seq ?_
 refine rk boxes [⟨4, false, [(vI e), (vI 0)], [], (vB true), []⟩] [0, 1, 8] [7000] ⟨13, [(0, (vL 7000 0)), (1, (vI k)), (8, (vB true))], [(7000, (.cells 94 [(cD (List.map encB b)), (cI (p : Int)), (cI e), (cB true)]))], [7000]⟩ (by kernel_rfl) (.c (tri_scalar_eq [(.int .i64 e), (.int .i64 0)] (.bool (e == 0)) rfl rfl rfl (by kernel_rfl) (congrArg Value.bool h0)) .n) ?_
 refine peel_seq ?_
 refine awp_true rfl ?_
 refine rk boxes [] [] [7000] ⟨13, [], [(7000, (.cells 94 [(cD (List.map encB b)), (cI (p : Int)), (cI k), (cB true)]))], [7000]⟩ (by kernel_rfl) .n ?_
 exact ends_end rfl rfl rfl
theorem w_bytes_err (b : List Int) (p : Nat) (e : Int) (n : Int) (h0 : (e == 0) = false) : Sat Try.prog 80 [(vL 7000 0), (vI n)] [(7000, (.cells 94 [(cD (List.map encB b)), (cI (p : Int)), (cI e), (cB true)]))] (vD (List.map encB ([]))) [(7000, (.cells 94 [(cD (List.map encB b)), (cI (p : Int)), (cI e), (cB true)]))] := by
 refine sat_of_body tab_ok Try.func80 rfl (by kernel_rfl) (Nat.le_of_ble_eq_true rfl) rfl fun G => ?_
 have h0n : (e != 0) = true := by simpa using h0
 refine awp_seq ?_
 refine rk boxes [] [0, 1, 4] [7000] ⟨54, [(0, (vL 7000 0)), (1, (vI n)), (4, (sc (.slice none 0 0)))], [(7000, (.cells 94 [(cD (List.map encB b)), (cI (p : Int)), (cI e), (cB true)]))], [7000]⟩ (by kernel_rfl) .n ?_
 refine peel_seq ?_
 refine awp_seq ?_
 refine awp_seq ?_
 refine rk boxes [⟨4, false, [(vI e), (vI 0)], [], (vB false), []⟩] [0, 1, 4, 23] [7000] ⟨54, [(0, (vL 7000 0)), (1, (vI n)), (4, (sc (.slice none 0 0))), (23, (vB false))], [(7000, (.cells 94 [(cD (List.map encB b)), (cI (p : Int)), (cI e), (cB true)]))], [7000]⟩ (by kernel_rfl) (.c (tri_scalar_eq [(.int .i64 e), (.int .i64 0)] (.bool (e == 0)) rfl rfl rfl (by kernel_rfl) (congrArg Value.bool h0)) .n) ?_
 refine peel_seq ?_
 refine awp_false rfl ?_
 refine awp_skip ?_
 refine peel_seq ?_
 refine awp_seq ?_
 refine awp_seq ?_
 refine rk boxes [⟨4, false, [(vI e), (vI 0)], [], (vB true), []⟩] [0, 1, 4, 30] [7000] ⟨54, [(0, (vL 7000 0)), (1, (vI n)), (4, (sc (.slice none 0 0))), (30, (vB true))], [(7000, (.cells 94 [(cD (List.map encB b)), (cI (p : Int)), (cI e), (cB true)]))], [7000]⟩ (by kernel_rfl) (.c (tri_scalar_eq [(.int .i64 e), (.int .i64 0)] (.bool (e != 0)) rfl rfl rfl (by kernel_rfl) (congrArg Value.bool h0n)) .n) ?_
 refine peel_seq ?_
 refine awp_true rfl ?_
 refine awp_seq ?_
 refine rk boxes [] [0, 1, 4] [7000] ⟨54, [(0, (vL 7000 0)), (1, (vI n)), (4, (sc (.slice none 0 0)))], [(7000, (.cells 94 [(cD (List.map encB b)), (cI (p : Int)), (cI e), (cB true)]))], [7000]⟩ (by kernel_rfl) .n ?_
 refine peel_seq ?_
 refine awp_mv [.own 4 904 0 0 0, .fz 904] ⟨54, [(4, (vD [])), (0, (vL 7000 0)), (1, (vI n))], [(7000, (.cells 94 [(cD (List.map encB b)), (cI (p : Int)), (cI e), (cB true)]))], [7000]⟩ rfl ?_
 refine awp_ret ?_
 refine peel_seq_ret ?_
 exact ends_ret rfl rfl rfl
theorem w_bytes_short (b : List Int) (p : Nat) (e : Int) (n : Int) (h0 : (e == 0) = true) (h1 : (decide (n > ((List.length b : Int) - (p : Int)))) = true) (hp : p ≤ b.length) (hb : b.length ≤ 1000000000) : Sat Try.prog 80 [(vL 7000 0), (vI n)] [(7000, (.cells 94 [(cD (List.map encB b)), (cI (p : Int)), (cI e), (cB true)]))] (vD (List.map encB ([]))) [(7000, (.cells 94 [(cD (List.map encB b)), (cI (p : Int)), (cI 2), (cB true)]))] := by
 refine sat_of_body tab_ok Try.func80 rfl (by kernel_rfl) (Nat.le_of_ble_eq_true rfl) rfl fun G => ?_
 refine awp_seq ?_
 refine rk boxes [] [0, 1, 4] [7000] ⟨54, [(0, (vL 7000 0)), (1, (vI n)), (4, (sc (.slice none 0 0)))], [(7000, (.cells 94 [(cD (List.map encB b)), (cI (p : Int)), (cI e), (cB true)]))], [7000]⟩ (by kernel_rfl) .n ?_
 refine peel_seq ?_
 refine awp_seq ?_
 refine awp_seq ?_
 refine rk boxes [⟨4, false, [(vI e), (vI 0)], [], (vB true), []⟩, ⟨11, true, [(vD (List.map encB b))], [], (vI (List.length b : Int)), []⟩, ⟨16, false, [(vI (List.length b : Int)), (vI (p : Int))], [], (vI ((List.length b : Int) - (p : Int))), []⟩, ⟨17, false, [(vI n), (vI ((List.length b : Int) - (p : Int)))], [], (vB true), []⟩] [0, 1, 4, 23] [7000] ⟨54, [(0, (vL 7000 0)), (1, (vI n)), (4, (sc (.slice none 0 0))), (23, (vB true))], [(7000, (.cells 94 [(cD (List.map encB b)), (cI (p : Int)), (cI e), (cB true)]))], [7000]⟩ (by kernel_rfl) (.c (tri_scalar_eq [(.int .i64 e), (.int .i64 0)] (.bool (e == 0)) rfl rfl rfl (by kernel_rfl) (congrArg Value.bool h0)) (.c (tri_len_map tab_ok rfl) (.c (tri_int ((List.length b : Int) - (p : Int)) (wrap_i64 (by omega))) (.c (tri_scalar_eq [(.int .i64 n), (.int .i64 ((List.length b : Int) - (p : Int)))] (.bool (decide (n > ((List.length b : Int) - (p : Int))))) rfl rfl rfl (by kernel_rfl) (congrArg Value.bool h1)) .n)))) ?_
 refine peel_seq ?_
 refine awp_true rfl ?_
 refine rk boxes [⟨1, false, [(sc (.func (.func 79) #[] #[])), (vL 7000 0), (vI 2)], [(7000, (.cells 94 [(cD (List.map encB b)), (cI (p : Int)), (cI e), (cB true)]))], (.tup []), [(7000, (.cells 94 [(cD (List.map encB b)), (cI (p : Int)), (cI 2), (cB true)]))]⟩] [0, 1, 4] [7000] ⟨54, [(0, (vL 7000 0)), (1, (vI n)), (4, (sc (.slice none 0 0)))], [(7000, (.cells 94 [(cD (List.map encB b)), (cI (p : Int)), (cI 2), (cB true)]))], [7000]⟩ (by kernel_rfl) (.c (tri_call (w_fail b p e 2 h0)) .n) ?_
 refine peel_seq ?_
 refine awp_seq ?_
 refine awp_seq ?_
 refine rk boxes [] [0, 1, 4, 30] [7000] ⟨54, [(0, (vL 7000 0)), (1, (vI n)), (4, (sc (.slice none 0 0))), (30, (vB true))], [(7000, (.cells 94 [(cD (List.map encB b)), (cI (p : Int)), (cI 2), (cB true)]))], [7000]⟩ (by kernel_rfl) .n ?_
 refine peel_seq ?_
 refine awp_true rfl ?_
 refine awp_seq ?_
 refine rk boxes [] [0, 1, 4] [7000] ⟨54, [(0, (vL 7000 0)), (1, (vI n)), (4, (sc (.slice none 0 0)))], [(7000, (.cells 94 [(cD (List.map encB b)), (cI (p : Int)), (cI 2), (cB true)]))], [7000]⟩ (by kernel_rfl) .n ?_
 refine peel_seq ?_
 refine awp_mv [.own 4 904 0 0 0, .fz 904] ⟨54, [(4, (vD [])), (0, (vL 7000 0)), (1, (vI n))], [(7000, (.cells 94 [(cD (List.map encB b)), (cI (p : Int)), (cI 2), (cB true)]))], [7000]⟩ rfl ?_
 refine awp_ret ?_
 refine peel_seq_ret ?_
 exact ends_ret rfl rfl rfl
theorem w_bytes_ok (b : List Int) (p : Nat) (e : Int) (n : Int) (h0 : (e == 0) = true) (h1 : (decide (n > ((List.length b : Int) - (p : Int)))) = false) (hp : p ≤ b.length) (hn : 0 ≤ n) (hb : b.length ≤ 1000000000) : Sat Try.prog 80 [(vL 7000 0), (vI n)] [(7000, (.cells 94 [(cD (List.map encB b)), (cI (p : Int)), (cI e), (cB true)]))] (vD (List.map encB (List.drop p (List.take (p + Int.toNat n) b)))) [(7000, (.cells 94 [(cD (List.map encB b)), (cI (((p + Int.toNat n) : Nat) : Int)), (cI e), (cB true)]))] := by
 refine sat_of_body tab_ok Try.func80 rfl (by kernel_rfl) (Nat.le_of_ble_eq_true rfl) rfl fun G => ?_
 have h0n : (e != 0) = false := by simpa using h0
 have h1p := of_decide_eq_false h1
 refine awp_seq ?_
 refine rk boxes [] [0, 1, 4] [7000] ⟨54, [(0, (vL 7000 0)), (1, (vI n)), (4, (sc (.slice none 0 0)))], [(7000, (.cells 94 [(cD (List.map encB b)), (cI (p : Int)), (cI e), (cB true)]))], [7000]⟩ (by kernel_rfl) .n ?_
 refine peel_seq ?_
 refine awp_seq ?_
 refine awp_seq ?_
 refine rk boxes [⟨4, false, [(vI e), (vI 0)], [], (vB true), []⟩, ⟨11, true, [(vD (List.map encB b))], [], (vI (List.length b : Int)), []⟩, ⟨16, false, [(vI (List.length b : Int)), (vI (p : Int))], [], (vI ((List.length b : Int) - (p : Int))), []⟩, ⟨17, false, [(vI n), (vI ((List.length b : Int) - (p : Int)))], [], (vB false), []⟩] [0, 1, 4, 23] [7000] ⟨54, [(0, (vL 7000 0)), (1, (vI n)), (4, (sc (.slice none 0 0))), (23, (vB false))], [(7000, (.cells 94 [(cD (List.map encB b)), (cI (p : Int)), (cI e), (cB true)]))], [7000]⟩ (by kernel_rfl) (.c (tri_scalar_eq [(.int .i64 e), (.int .i64 0)] (.bool (e == 0)) rfl rfl rfl (by kernel_rfl) (congrArg Value.bool h0)) (.c (tri_len_map tab_ok rfl) (.c (tri_int ((List.length b : Int) - (p : Int)) (wrap_i64 (by omega))) (.c (tri_scalar_eq [(.int .i64 n), (.int .i64 ((List.length b : Int) - (p : Int)))] (.bool (decide (n > ((List.length b : Int) - (p : Int))))) rfl rfl rfl (by kernel_rfl) (congrArg Value.bool h1)) .n)))) ?_
 refine peel_seq ?_
 refine awp_false rfl ?_
 refine awp_skip ?_
 refine peel_seq ?_
 refine awp_seq ?_
 refine awp_seq ?_
 refine rk boxes [⟨4, false, [(vI e), (vI 0)], [], (vB false), []⟩] [0, 1, 4, 30] [7000] ⟨54, [(0, (vL 7000 0)), (1, (vI n)), (4, (sc (.slice none 0 0))), (30, (vB false))], [(7000, (.cells 94 [(cD (List.map encB b)), (cI (p : Int)), (cI e), (cB true)]))], [7000]⟩ (by kernel_rfl) (.c (tri_scalar_eq [(.int .i64 e), (.int .i64 0)] (.bool (e != 0)) rfl rfl rfl (by kernel_rfl) (congrArg Value.bool h0n)) .n) ?_
 refine peel_seq ?_
 refine awp_false rfl ?_
 refine awp_skip ?_
 refine peel_seq ?_
 refine awp_seq ?_
 refine rk boxes [⟨5, false, [(vI (p : Int)), (vI n)], [], (vI ((p + Int.toNat n : Nat) : Int)), []⟩] [0, 1, 4] [7000] ⟨54, [(0, (vL 7000 0)), (1, (vI n)), (4, (sc (.slice none 0 0)))], [(7000, (.cells 94 [(cD (List.map encB b)), (cI ((p + Int.toNat n : Nat) : Int)), (cI e), (cB true)]))], [7000]⟩ (by kernel_rfl) (.c (tri_int ((p + Int.toNat n : Nat) : Int) ((wrap_i64 (by omega)).trans (by omega))) .n) ?_
 refine peel_seq ?_
 refine awp_seq ?_
 refine rk boxes [⟨9, false, [(vI ((p + Int.toNat n : Nat) : Int)), (vI n)], [], (vI (p : Int)), []⟩, ⟨14, false, [(vD (List.map encB b)), (vI (p : Int)), (vI ((p + Int.toNat n : Nat) : Int))], [], (vD (List.map encB (List.drop p (List.take (p + Int.toNat n : Nat) b)))), []⟩] [4] [7000] ⟨54, [(4, (vD (List.map encB (List.drop p (List.take (p + Int.toNat n : Nat) b)))))], [(7000, (.cells 94 [(cD (List.map encB b)), (cI ((p + Int.toNat n : Nat) : Int)), (cI e), (cB true)]))], [7000]⟩ (by kernel_rfl) (.c (tri_int (p : Int) ((wrap_i64 (by omega)).trans (by omega))) (.c (tri_res (tri_slice_mid (e := 5) (bytes := 1) (l := p) (h := (p + Int.toNat n : Nat)) tab_ok rfl (all_map fun _ => rfl) (by (try simp only [List.length_map] at *); omega) (by (try simp only [List.length_map] at *); omega)) (by simp only [List.map_drop, List.map_take]; rfl)) .n)) ?_
 refine peel_seq ?_
 refine awp_ret ?_
 exact ends_ret rfl rfl rfl
theorem w_RNumber0 (b : List Int) (p : Nat) (e : Int) (hs : RS.ok (RS.mk b p e)) : Sat Try.prog 78 [(vL 7000 0)] [(7000, (.cells 94 [(cD (List.map encB b)), (cI (p : Int)), (cI e), (cB true)]))] (vI (rdN (RS.mk b p e)).1) [(7000, (.cells 94 [(cD (List.map encB (RS.b ((rdN (RS.mk b p e)).2)))), (cI ((RS.at_ ((rdN (RS.mk b p e)).2)) : Int)), (cI (RS.e ((rdN (RS.mk b p e)).2))), (cB true)]))] := by
 refine sat_of_body tab_ok Try.func78 rfl (by kernel_rfl) (Nat.le_of_ble_eq_true rfl) rfl fun G => ?_
 have hple : p ≤ b.length := hs.le
 have hbl : b.length ≤ 1000000 := hs.few
 refine awp_seq ?_
 refine rk boxes [] [0, 2] [7000] ⟨82, [(0, (vL 7000 0)), (2, (vI 0))], [(7000, (.cells 94 [(cD (List.map encB b)), (cI (p : Int)), (cI e), (cB true)]))], [7000]⟩ (by kernel_rfl) .n ?_
 refine peel_seq ?_
 refine awp_seq ?_
 refine awp_seq ?_
 refine rk boxes [⟨1, true, [(sc (.func (.func 65) #[] #[])), (vL 7000 0)], [(7000, (.cells 94 [(cD (List.map encB b)), (cI (p : Int)), (cI e), (cB true)]))], (vB false), []⟩] [0, 2, 10] [7000] ⟨82, [(0, (vL 7000 0)), (2, (vI 0)), (10, (vB false))], [(7000, (.cells 94 [(cD (List.map encB b)), (cI (p : Int)), (cI e), (cB true)]))], [7000]⟩ (by kernel_rfl) (.c (tri_call (w_dead b p e)) .n) ?_
 refine peel_seq ?_
 refine awp_false rfl ?_
 refine awp_skip ?_
 refine peel_seq ?_
 refine awp_seq ?_
 refine rk boxes [] [0, 2, 3] [7000] ⟨82, [(0, (vL 7000 0)), (2, (vI 0)), (3, (vI (p : Int)))], [(7000, (.cells 94 [(cD (List.map encB b)), (cI (p : Int)), (cI e), (cB true)]))], [7000]⟩ (by kernel_rfl) .n ?_
 refine peel_seq ?_
 refine awp_seq ?_
 cases hb1 : (e == 0) with
 | false =>
  have hb1p : e ≠ 0 := by simpa using hb1
  refine rk boxes [⟨1, true, [(sc (.func (.func 80) #[] #[])), (vL 7000 0), (vI 1)], [(7000, (.cells 94 [(cD (List.map encB b)), (cI (p : Int)), (cI e), (cB true)]))], (vD (List.map encB ([]))), []⟩] [0, 2, 3, 4] [7000] ⟨82, [(0, (vL 7000 0)), (2, (vI 0)), (3, (vI (p : Int))), (4, (vD (List.map encB ([]))))], [(7000, (.cells 94 [(cD (List.map encB b)), (cI (p : Int)), (cI e), (cB true)]))], [7000]⟩ (by kernel_rfl) (.c (tri_call (w_bytes_err b p e 1 hb1)) .n) ?_
  refine peel_seq ?_
  refine awp_seq ?_
  refine awp_seq ?_
  refine rk boxes [] [0, 2, 3, 4, 19] [7000] ⟨82, [(0, (vL 7000 0)), (2, (vI 0)), (3, (vI (p : Int))), (4, (vD (List.map encB ([])))), (19, (vB true))], [(7000, (.cells 94 [(cD (List.map encB b)), (cI (p : Int)), (cI e), (cB true)]))], [7000]⟩ (by kernel_rfl) .n ?_
  refine peel_seq ?_
  refine awp_true rfl ?_
  refine awp_seq ?_
  refine rk boxes [] [0, 2, 3, 4] [7000] ⟨82, [(0, (vL 7000 0)), (2, (vI 0)), (3, (vI (p : Int))), (4, (vD (List.map encB ([]))))], [(7000, (.cells 94 [(cD (List.map encB b)), (cI (p : Int)), (cI e), (cB true)]))], [7000]⟩ (by kernel_rfl) .n ?_
  refine peel_seq ?_
  refine awp_ret ?_
  refine peel_seq_ret ?_
  exact ends_ret rfl (show some ((vI 0) : SV) = some ((vI (rdN (RS.mk b p e)).1) : SV) from by rw [show (rdN (RS.mk b p e)) = (0, RS.mk b p e) from by first | exact rdN_err (by assumption) | exact rdN_none (by assumption) (by assumption) | exact rdN_form (by assumption) (by assumption) (by assumption) | exact rdN_few (by assumption) (by assumption) (by assumption) (by assumption) (by assumption) | exact rdN_zero (by assumption) (by assumption) (by assumption) (by assumption) (by assumption) (by assumption) (by assumption) | exact rdN_num (by assumption) hs.rng (by assumption) (by assumption) (by assumption) (fun _ _ _ => by exfalso; omega) (Eq.symm ‹_ = fold256 _ _›) (by assumption) | exact rdN_great (by assumption) hs.rng (by assumption) (by assumption) (by assumption) (fun _ _ _ => by exfalso; omega) (Eq.symm ‹_ = fold256 _ _›) (by assumption)]) (show some ([(7000, (.cells 94 [(cD (List.map encB b)), (cI (p : Int)), (cI e), (cB true)]))] : Objs) = some ([(7000, (.cells 94 [(cD (List.map encB (RS.b ((rdN (RS.mk b p e)).2)))), (cI ((RS.at_ ((rdN (RS.mk b p e)).2)) : Int)), (cI (RS.e ((rdN (RS.mk b p e)).2))), (cB true)]))] : Objs) from by rw [show (rdN (RS.mk b p e)) = (0, RS.mk b p e) from by first | exact rdN_err (by assumption) | exact rdN_none (by assumption) (by assumption) | exact rdN_form (by assumption) (by assumption) (by assumption) | exact rdN_few (by assumption) (by assumption) (by assumption) (by assumption) (by assumption) | exact rdN_zero (by assumption) (by assumption) (by assumption) (by assumption) (by assumption) (by assumption) (by assumption) | exact rdN_num (by assumption) hs.rng (by assumption) (by assumption) (by assumption) (fun _ _ _ => by exfalso; omega) (Eq.symm ‹_ = fold256 _ _›) (by assumption) | exact rdN_great (by assumption) hs.rng (by assumption) (by assumption) (by assumption) (fun _ _ _ => by exfalso; omega) (Eq.symm ‹_ = fold256 _ _›) (by assumption)])
 | true =>
  have hb1p : e = 0 := by simpa using hb1
  cases hb2 : (decide ((1 : Int) > ((List.length b : Int) - (p : Int)))) with
  | false =>
   have hb2p := of_decide_eq_false hb2
   obtain ⟨x3, ha4, hd5⟩ := at_drop (l := b) (k := p) (by (try simp only [List.length_map] at *); omega)
   have hr6 := hs.rng x3 (List.mem_of_getElem? ha4)
   refine rk boxes [⟨1, false, [(sc (.func (.func 80) #[] #[])), (vL 7000 0), (vI 1)], [(7000, (.cells 94 [(cD (List.map encB b)), (cI (p : Int)), (cI e), (cB true)]))], (vD (List.map encB ([x3]))), [(7000, (.cells 94 [(cD (List.map encB b)), (cI (((p + 1) : Nat) : Int)), (cI e), (cB true)]))]⟩] [0, 2, 3, 4] [7000] ⟨82, [(0, (vL 7000 0)), (2, (vI 0)), (3, (vI (p : Int))), (4, (vD (List.map encB ([x3]))))], [(7000, (.cells 94 [(cD (List.map encB b)), (cI (((p + 1) : Nat) : Int)), (cI e), (cB true)]))], [7000]⟩ (by kernel_rfl) (.c (tri_call (by have h := (w_bytes_ok b p e 1 hb1 hb2 (by omega) (by omega) (by omega)); rw [show ((1 : Int).toNat) = 1 from rfl, one_byte ha4] at h; exact h)) .n) ?_
   refine peel_seq ?_
   refine awp_seq ?_
   refine awp_seq ?_
   refine rk boxes [] [0, 2, 3, 4, 19] [7000] ⟨82, [(0, (vL 7000 0)), (2, (vI 0)), (3, (vI (p : Int))), (4, (vD (List.map encB ([x3])))), (19, (vB false))], [(7000, (.cells 94 [(cD (List.map encB b)), (cI (((p + 1) : Nat) : Int)), (cI e), (cB true)]))], [7000]⟩ (by kernel_rfl) .n ?_
   refine peel_seq ?_
   refine awp_false rfl ?_
   refine awp_skip ?_
   refine peel_seq ?_
   refine awp_seq ?_
   refine awp_seq ?_
   refine rk boxes [⟨1, false, [(vD (List.map encB ([x3]))), (vI 0)], [], (vT (dP [(.v (.int .u8 x3))])), []⟩] [0, 2, 3, 4, 23] [7000] ⟨82, [(0, (vL 7000 0)), (2, (vI 0)), (3, (vI (p : Int))), (4, (vD (List.map encB ([x3])))), (23, (vB (decide (x3 > 8))))], [(7000, (.cells 94 [(cD (List.map encB b)), (cI (((p + 1) : Nat) : Int)), (cI e), (cB true)]))], [7000]⟩ (by kernel_rfl) (.c (tri_index_sl (e := 5) (sz := 1) (bytes := 1) (i := 0) tab_ok rfl rfl (all_map fun _ => rfl)) .n) ?_
   refine peel_seq ?_
   refine awp_cond (b := (decide (x3 > 8))) rfl (fun hc7 => ?_) (fun hc7 => ?_)
   ·skip
    have hc7p := of_decide_eq_true hc7
    refine awp_seq ?_
    refine rk boxes [] [0, 2, 3, 4] [7000] ⟨82, [(0, (vL 7000 0)), (2, (vI 0)), (3, (vI (p : Int))), (4, (vD (List.map encB ([x3]))))], [(7000, (.cells 94 [(cD (List.map encB b)), (cI (p : Int)), (cI e), (cB true)]))], [7000]⟩ (by kernel_rfl) .n ?_
    refine peel_seq ?_
    refine awp_seq ?_
    refine rk boxes [⟨1, false, [(sc (.func (.func 79) #[] #[])), (vL 7000 0), (vI 11)], [(7000, (.cells 94 [(cD (List.map encB b)), (cI (p : Int)), (cI e), (cB true)]))], (.tup []), [(7000, (.cells 94 [(cD (List.map encB b)), (cI (p : Int)), (cI 11), (cB true)]))]⟩] [0, 2, 3, 4] [7000] ⟨82, [(0, (vL 7000 0)), (2, (vI 0)), (3, (vI (p : Int))), (4, (vD (List.map encB ([x3]))))], [(7000, (.cells 94 [(cD (List.map encB b)), (cI (p : Int)), (cI 11), (cB true)]))], [7000]⟩ (by kernel_rfl) (.c (tri_call (w_fail b p e 11 hb1)) .n) ?_
    refine peel_seq ?_
    refine awp_seq ?_
    refine rk boxes [] [0, 2, 3, 4] [7000] ⟨82, [(0, (vL 7000 0)), (2, (vI 0)), (3, (vI (p : Int))), (4, (vD (List.map encB ([x3]))))], [(7000, (.cells 94 [(cD (List.map encB b)), (cI (p : Int)), (cI 11), (cB true)]))], [7000]⟩ (by kernel_rfl) .n ?_
    refine peel_seq ?_
    refine awp_ret ?_
    refine peel_seq_ret ?_
    exact ends_ret rfl (show some ((vI 0) : SV) = some ((vI (rdN (RS.mk b p e)).1) : SV) from by rw [show (rdN (RS.mk b p e)) = (0, RS.mk b p 11) from by first | exact rdN_err (by assumption) | exact rdN_none (by assumption) (by assumption) | exact rdN_form (by assumption) (by assumption) (by assumption) | exact rdN_few (by assumption) (by assumption) (by assumption) (by assumption) (by assumption) | exact rdN_zero (by assumption) (by assumption) (by assumption) (by assumption) (by assumption) (by assumption) (by assumption) | exact rdN_num (by assumption) hs.rng (by assumption) (by assumption) (by assumption) (fun _ _ _ => by exfalso; omega) (Eq.symm ‹_ = fold256 _ _›) (by assumption) | exact rdN_great (by assumption) hs.rng (by assumption) (by assumption) (by assumption) (fun _ _ _ => by exfalso; omega) (Eq.symm ‹_ = fold256 _ _›) (by assumption)]) (show some ([(7000, (.cells 94 [(cD (List.map encB b)), (cI (p : Int)), (cI 11), (cB true)]))] : Objs) = some ([(7000, (.cells 94 [(cD (List.map encB (RS.b ((rdN (RS.mk b p e)).2)))), (cI ((RS.at_ ((rdN (RS.mk b p e)).2)) : Int)), (cI (RS.e ((rdN (RS.mk b p e)).2))), (cB true)]))] : Objs) from by rw [show (rdN (RS.mk b p e)) = (0, RS.mk b p 11) from by first | exact rdN_err (by assumption) | exact rdN_none (by assumption) (by assumption) | exact rdN_form (by assumption) (by assumption) (by assumption) | exact rdN_few (by assumption) (by assumption) (by assumption) (by assumption) (by assumption) | exact rdN_zero (by assumption) (by assumption) (by assumption) (by assumption) (by assumption) (by assumption) (by assumption) | exact rdN_num (by assumption) hs.rng (by assumption) (by assumption) (by assumption) (fun _ _ _ => by exfalso; omega) (Eq.symm ‹_ = fold256 _ _›) (by assumption) | exact rdN_great (by assumption) hs.rng (by assumption) (by assumption) (by assumption) (fun _ _ _ => by exfalso; omega) (Eq.symm ‹_ = fold256 _ _›) (by assumption)])
   ·skip
    have hc7p := of_decide_eq_false hc7
    refine awp_skip ?_
    refine peel_seq ?_
    refine awp_seq ?_
    refine rk boxes [] [0, 2, 3, 4, 5] [7000] ⟨82, [(0, (vL 7000 0)), (2, (vI 0)), (3, (vI (p : Int))), (4, (vD (List.map encB ([x3])))), (5, (sc (.int .u64 0)))], [(7000, (.cells 94 [(cD (List.map encB b)), (cI (((p + 1) : Nat) : Int)), (cI e), (cB true)]))], [7000]⟩ (by kernel_rfl) .n ?_
    refine peel_seq ?_
    refine awp_seq ?_
    cases hb8 : (decide (x3 > ((List.length b : Int) - (((p + 1) : Nat) : Int)))) with
    | false =>
     have hb8p := of_decide_eq_false hb8
     refine rk boxes [⟨2, false, [(vD (List.map encB ([x3]))), (vI 0)], [], (vT (dP [(.v (.int .u8 x3))])), []⟩, ⟨4, false, [(sc (.int .u8 x3))], [], (vI x3), []⟩, ⟨5, false, [(sc (.func (.func 80) #[] #[])), (vL 7000 0), (vI x3)], [(7000, (.cells 94 [(cD (List.map encB b)), (cI (((p + 1) : Nat) : Int)), (cI e), (cB true)]))], (vD (List.map encB (List.drop (p + 1) (List.take ((p + 1) + Int.toNat x3) b)))), [(7000, (.cells 94 [(cD (List.map encB b)), (cI ((((p + 1) + Int.toNat x3) : Nat) : Int)), (cI e), (cB true)]))]⟩] [0, 2, 3, 5, 6] [7000] ⟨82, [(0, (vL 7000 0)), (2, (vI 0)), (3, (vI (p : Int))), (5, (sc (.int .u64 0))), (6, (vD (List.map encB (List.drop (p + 1) (List.take ((p + 1) + Int.toNat x3) b)))))], [(7000, (.cells 94 [(cD (List.map encB b)), (cI ((((p + 1) + Int.toNat x3) : Nat) : Int)), (cI e), (cB true)]))], [7000]⟩ (by kernel_rfl) (.c (tri_index_sl (e := 5) (sz := 1) (bytes := 1) (i := 0) tab_ok rfl rfl (all_map fun _ => rfl)) (.c (tri_scalar_eq [(.int .u8 x3)] (.int .i64 (IntKind.wrap .i64 x3)) rfl rfl rfl (by kernel_rfl) (congrArg (Value.int .i64) (wrap_i64 (by omega)))) (.c (tri_call (w_bytes_ok b (p + 1) e x3 hb1 hb8 (by omega) (by omega) (by omega))) .n))) ?_
     refine peel_seq ?_
     refine awp_seq ?_
     refine awp_seq ?_
     refine rk boxes [⟨1, true, [(vD (List.map encB (List.drop (p + 1) (List.take ((p + 1) + Int.toNat x3) b))))], [], (vI (List.length (List.drop (p + 1) (List.take ((p + 1) + Int.toNat x3) b)) : Int)), []⟩] [0, 2, 3, 5, 6, 36, 37, 38] [7000] ⟨82, [(0, (vL 7000 0)), (2, (vI 0)), (3, (vI (p : Int))), (5, (sc (.int .u64 0))), (6, (vD (List.map encB (List.drop (p + 1) (List.take ((p + 1) + Int.toNat x3) b))))), (36, (vD (List.map encB (List.drop (p + 1) (List.take ((p + 1) + Int.toNat x3) b))))), (37, (vI (List.length (List.drop (p + 1) (List.take ((p + 1) + Int.toNat x3) b)) : Int))), (38, (vI 0))], [(7000, (.cells 94 [(cD (List.map encB b)), (cI ((((p + 1) + Int.toNat x3) : Nat) : Int)), (cI e), (cB true)]))], [7000]⟩ (by kernel_rfl) (.c (tri_len_map tab_ok rfl) .n) ?_
     refine peel_seq ?_
     refine awp_block ?_
     refine awp_len 6 rfl (fun hlen9 => ?_)
     have hLn := mid_len (b := b) (q := p + 1) (n := Int.toNat x3) (by omega)
     refine awp_loopP (ι := Nat × (Int)) (fun x => ⟨82, [(0, (vL 7000 0)), (2, (vI 0)), (3, (vI (p : Int))), (5, (sc (.int .u64 x.2))), (6, (vD (List.map encB (List.drop (p + 1) (List.take ((p + 1) + Int.toNat x3) b))))), (36, (vD (List.map encB (List.drop (p + 1) (List.take ((p + 1) + Int.toNat x3) b))))), (37, (vI (List.length (List.drop (p + 1) (List.take ((p + 1) + Int.toNat x3) b)) : Int))), (38, (vI (x.1 : Int)))], [(7000, (.cells 94 [(cD (List.map encB b)), (cI ((((p + 1) + Int.toNat x3) : Nat) : Int)), (cI e), (cB true)]))], [7000]⟩) (fun x => x.1 ≤ List.length (List.drop (p + 1) (List.take ((p + 1) + Int.toNat x3) b)) ∧ (0 ≤ x.2 ∧ x.2 < 256 ^ x.1) ∧ fold256 (List.drop x.1 (List.drop (p + 1) (List.take ((p + 1) + Int.toNat x3) b))) x.2 = fold256 (List.drop (p + 1) (List.take ((p + 1) + Int.toNat x3) b)) 0) (fun x => List.length (List.drop (p + 1) (List.take ((p + 1) + Int.toNat x3) b)) - x.1) (0, 0) rfl ⟨Nat.zero_le _, ⟨by simp, by simp⟩, rfl⟩ ?_
     rintro ⟨k10, a11⟩ ⟨hk12, hx13, hJ14⟩
     try simp only at hk12 hx13 hJ14
     refine awp_seq ?_
     refine rk boxes [] [0, 2, 3, 5, 6, 36, 37, 38, 39] [7000] ⟨82, [(0, (vL 7000 0)), (2, (vI 0)), (3, (vI (p : Int))), (5, (sc (.int .u64 a11))), (6, (vD (List.map encB (List.drop (p + 1) (List.take ((p + 1) + Int.toNat x3) b))))), (36, (vD (List.map encB (List.drop (p + 1) (List.take ((p + 1) + Int.toNat x3) b))))), (37, (vI (List.length (List.drop (p + 1) (List.take ((p + 1) + Int.toNat x3) b)) : Int))), (38, (vI (k10 : Int))), (39, (vB (decide ((k10 : Int) < (List.length (List.drop (p + 1) (List.take ((p + 1) + Int.toNat x3) b)) : Int)))))], [(7000, (.cells 94 [(cD (List.map encB b)), (cI ((((p + 1) + Int.toNat x3) : Nat) : Int)), (cI e), (cB true)]))], [7000]⟩ (by kernel_rfl) .n ?_
     refine peel_seq ?_
     refine awp_seq ?_
     refine awp_cond (b := (decide ((k10 : Int) < (List.length (List.drop (p + 1) (List.take ((p + 1) + Int.toNat x3) b)) : Int)))) rfl (fun hc15 => ?_) (fun hc15 => ?_)
     ·skip
      have hc15p := of_decide_eq_true hc15
      refine awp_skip ?_
      refine peel_seq ?_
      refine awp_seq ?_
      refine awp_block ?_
      refine awp_seq ?_
      obtain ⟨x16, ha17, hd18⟩ := at_drop (l := (List.drop (p + 1) (List.take ((p + 1) + Int.toNat x3) b))) (k := k10) (by (try simp only [List.length_map] at *); omega)
      have hr19 := hs.rng x16 (List.mem_of_mem_take (List.mem_of_mem_drop (List.mem_of_getElem? ha17)))
      refine rk boxes [⟨0, false, [(vD (List.map encB (List.drop (p + 1) (List.take ((p + 1) + Int.toNat x3) b)))), (vI (k10 : Int))], [], (vT (dP [(.v (.int .u8 x16))])), []⟩] [0, 2, 3, 5, 6, 8, 36, 37, 38] [7000] ⟨82, [(0, (vL 7000 0)), (2, (vI 0)), (3, (vI (p : Int))), (5, (sc (.int .u64 a11))), (6, (vD (List.map encB (List.drop (p + 1) (List.take ((p + 1) + Int.toNat x3) b))))), (8, (sc (.int .u8 x16))), (36, (vD (List.map encB (List.drop (p + 1) (List.take ((p + 1) + Int.toNat x3) b))))), (37, (vI (List.length (List.drop (p + 1) (List.take ((p + 1) + Int.toNat x3) b)) : Int))), (38, (vI (k10 : Int)))], [(7000, (.cells 94 [(cD (List.map encB b)), (cI ((((p + 1) + Int.toNat x3) : Nat) : Int)), (cI e), (cB true)]))], [7000]⟩ (by kernel_rfl) (.c (tri_index_sl (e := 5) (sz := 1) (bytes := 1) (i := k10) tab_ok rfl (at_map encB ha17) (all_map fun _ => rfl)) .n) ?_
      refine peel_seq ?_
      refine rk boxes [⟨1, false, [(sc (.int .u64 a11)), (sc (.int .u64 8))], [], (sc (.int .u64 (256 * a11))), []⟩, ⟨3, false, [(sc (.int .u8 x16))], [], (sc (.int .u64 x16)), []⟩, ⟨4, false, [(sc (.int .u64 (256 * a11))), (sc (.int .u64 x16))], [], (sc (.int .u64 (256 * a11 + x16))), []⟩] [0, 2, 3, 5, 6, 36, 37, 38] [7000] ⟨82, [(0, (vL 7000 0)), (2, (vI 0)), (3, (vI (p : Int))), (5, (sc (.int .u64 (256 * a11 + x16)))), (6, (vD (List.map encB (List.drop (p + 1) (List.take ((p + 1) + Int.toNat x3) b))))), (36, (vD (List.map encB (List.drop (p + 1) (List.take ((p + 1) + Int.toNat x3) b))))), (37, (vI (List.length (List.drop (p + 1) (List.take ((p + 1) + Int.toNat x3) b)) : Int))), (38, (vI (k10 : Int)))], [(7000, (.cells 94 [(cD (List.map encB b)), (cI ((((p + 1) + Int.toNat x3) : Nat) : Int)), (cI e), (cB true)]))], [7000]⟩ (by kernel_rfl) (.c (tri_shl (256 * a11) (by decide) (by rw [show ((2 : Int) ^ (min (Int.toNat 8) (IntKind.bits .u64))) = 256 from rfl, Int.mul_comm]; exact wrap_u64 (by (have hp7 := pow7 (k := k10) (by omega)); omega))) (.c (tri_scalar_eq [(.int .u8 x16)] (.int .u64 (IntKind.wrap .u64 x16)) rfl rfl rfl (by kernel_rfl) (congrArg (Value.int .u64) (wrap_u64 (by omega)))) (.c (tri_or_byte (a := a11) (b := x16) (256 * a11 + x16) (by omega) (by (have hp7 := pow7 (k := k10) (by omega)); omega) (by omega) (by omega) rfl) .n))) ?_
      refine peel_block ?_
      refine peel_seq ?_
      refine rk boxes [⟨0, false, [(vI (k10 : Int)), (vI 1)], [], (vI ((k10 : Int) + 1)), []⟩] [0, 2, 3, 5, 6, 36, 37, 38] [7000] ⟨82, [(0, (vL 7000 0)), (2, (vI 0)), (3, (vI (p : Int))), (5, (sc (.int .u64 (256 * a11 + x16)))), (6, (vD (List.map encB (List.drop (p + 1) (List.take ((p + 1) + Int.toNat x3) b))))), (36, (vD (List.map encB (List.drop (p + 1) (List.take ((p + 1) + Int.toNat x3) b))))), (37, (vI (List.length (List.drop (p + 1) (List.take ((p + 1) + Int.toNat x3) b)) : Int))), (38, (vI ((k10 : Int) + 1)))], [(7000, (.cells 94 [(cD (List.map encB b)), (cI ((((p + 1) + Int.toNat x3) : Nat) : Int)), (cI e), (cB true)]))], [7000]⟩ (by kernel_rfl) (.c (tri_int ((k10 : Int) + 1) (wrap_i64 (by omega))) .n) ?_
      exact peel_round (k10 + 1, (256 * a11 + x16)) rfl ⟨by (try simp only [List.length_map] at *); omega, ⟨by (try simp only); omega, by (try simp only); rw [Int.pow_succ]; omega⟩, by have hj := hJ14; rw [hd18] at hj; simp only [fold256_cons, fold256_nil, hb1, hb2, hb8, hc15, hc7, cond_true, cond_false, Bool.not_true, Bool.not_false] at hj ⊢; exact hj⟩ (by (try simp only [List.length_map] at *); omega)
     ·skip
      have hc15p := of_decide_eq_false hc15
      have hE20 := hJ14
      rw [at_end (l := (List.drop (p + 1) (List.take ((p + 1) + Int.toNat x3) b))) (by (try simp only [List.length_map] at *); omega)] at hE20
      simp only [fold256_cons, fold256_nil, hb1, hb2, hb8, hc15, hc7, cond_true, cond_false, Bool.not_true, Bool.not_false] at hE20
      refine awp_exit ?_
      refine peel_seq_exit ?_
      refine peel_seq_exit ?_
      refine peel_hit ?_
      refine peel_seq ?_
      refine awp_seq ?_
      refine awp_block ?_
      refine awp_seq ?_
      refine rk boxes [⟨4, false, [(vI e), (vI 0)], [], (vB false), []⟩] [0, 2, 3, 5, 6, 48] [7000] ⟨82, [(0, (vL 7000 0)), (2, (vI 0)), (3, (vI (p : Int))), (5, (sc (.int .u64 a11))), (6, (vD (List.map encB (List.drop (p + 1) (List.take ((p + 1) + Int.toNat x3) b))))), (48, (vB false))], [(7000, (.cells 94 [(cD (List.map encB b)), (cI ((((p + 1) + Int.toNat x3) : Nat) : Int)), (cI e), (cB true)]))], [7000]⟩ (by kernel_rfl) (.c (tri_scalar_eq [(.int .i64 e), (.int .i64 0)] (.bool (e != 0)) rfl rfl rfl (by kernel_rfl) (congrArg Value.bool (show (e != 0) = false from by simpa using hb1))) .n) ?_
      refine peel_seq ?_
      refine awp_false rfl ?_
      refine awp_seq ?_
      cases hb21 : (decide ((List.length (List.drop (p + 1) (List.take ((p + 1) + Int.toNat x3) b)) : Int) > 0)) with
      | false =>
       have hb21p := of_decide_eq_false hb21
       refine rk boxes [⟨1, true, [(vD (List.map encB (List.drop (p + 1) (List.take ((p + 1) + Int.toNat x3) b))))], [], (vI (List.length (List.drop (p + 1) (List.take ((p + 1) + Int.toNat x3) b)) : Int)), []⟩, ⟨2, false, [(vI (List.length (List.drop (p + 1) (List.take ((p + 1) + Int.toNat x3) b)) : Int)), (vI 0)], [], (vB false), []⟩] [0, 2, 3, 5, 54] [7000] ⟨82, [(0, (vL 7000 0)), (2, (vI 0)), (3, (vI (p : Int))), (5, (sc (.int .u64 a11))), (54, (vB false))], [(7000, (.cells 94 [(cD (List.map encB b)), (cI ((((p + 1) + Int.toNat x3) : Nat) : Int)), (cI e), (cB true)]))], [7000]⟩ (by kernel_rfl) (.c (tri_len_map tab_ok rfl) (.c (tri_scalar_eq [(.int .i64 (List.length (List.drop (p + 1) (List.take ((p + 1) + Int.toNat x3) b)) : Int)), (.int .i64 0)] (.bool (decide ((List.length (List.drop (p + 1) (List.take ((p + 1) + Int.toNat x3) b)) : Int) > 0))) rfl rfl rfl (by kernel_rfl) (congrArg Value.bool hb21)) .n)) ?_
       refine peel_seq ?_
       refine awp_false rfl ?_
       refine awp_seq ?_
       refine rk boxes [] [0, 2, 3, 5, 66] [7000] ⟨82, [(0, (vL 7000 0)), (2, (vI 0)), (3, (vI (p : Int))), (5, (sc (.int .u64 a11))), (66, (vB (decide (a11 > 9223372036854775807))))], [(7000, (.cells 94 [(cD (List.map encB b)), (cI ((((p + 1) + Int.toNat x3) : Nat) : Int)), (cI e), (cB true)]))], [7000]⟩ (by kernel_rfl) .n ?_
       refine peel_seq ?_
       refine awp_cond (b := (decide (a11 > 9223372036854775807))) rfl (fun hc22 => ?_) (fun hc22 => ?_)
       ·skip
        have hc22p := of_decide_eq_true hc22
        refine rk boxes [⟨1, false, [(sc (.func (.func 79) #[] #[])), (vL 7000 0), (vI 5)], [(7000, (.cells 94 [(cD (List.map encB b)), (cI ((((p + 1) + Int.toNat x3) : Nat) : Int)), (cI e), (cB true)]))], (.tup []), [(7000, (.cells 94 [(cD (List.map encB b)), (cI ((((p + 1) + Int.toNat x3) : Nat) : Int)), (cI 5), (cB true)]))]⟩] [0, 2, 3, 5] [7000] ⟨82, [(0, (vL 7000 0)), (2, (vI 0)), (3, (vI (p : Int))), (5, (sc (.int .u64 a11)))], [(7000, (.cells 94 [(cD (List.map encB b)), (cI ((((p + 1) + Int.toNat x3) : Nat) : Int)), (cI 5), (cB true)]))], [7000]⟩ (by kernel_rfl) (.c (tri_call (w_fail b ((p + 1) + Int.toNat x3) e 5 hb1)) .n) ?_
        refine peel_block ?_
        refine peel_seq ?_
        refine awp_seq ?_
        refine awp_seq ?_
        refine rk boxes [] [0, 2, 3, 5, 75] [7000] ⟨82, [(0, (vL 7000 0)), (2, (vI 0)), (3, (vI (p : Int))), (5, (sc (.int .u64 a11))), (75, (vB true))], [(7000, (.cells 94 [(cD (List.map encB b)), (cI ((((p + 1) + Int.toNat x3) : Nat) : Int)), (cI 5), (cB true)]))], [7000]⟩ (by kernel_rfl) .n ?_
        refine peel_seq ?_
        refine awp_true rfl ?_
        refine awp_seq ?_
        refine rk boxes [] [2, 5] [7000] ⟨82, [(2, (vI 0)), (5, (sc (.int .u64 a11)))], [(7000, (.cells 94 [(cD (List.map encB b)), (cI (p : Int)), (cI 5), (cB true)]))], [7000]⟩ (by kernel_rfl) .n ?_
        refine peel_seq ?_
        refine awp_seq ?_
        refine rk boxes [] [2, 5] [7000] ⟨82, [(2, (vI 0)), (5, (sc (.int .u64 a11)))], [(7000, (.cells 94 [(cD (List.map encB b)), (cI (p : Int)), (cI 5), (cB true)]))], [7000]⟩ (by kernel_rfl) .n ?_
        refine peel_seq ?_
        refine awp_ret ?_
        refine peel_seq_ret ?_
        exact ends_ret rfl (show some ((vI 0) : SV) = some ((vI (rdN (RS.mk b p e)).1) : SV) from by rw [show (rdN (RS.mk b p e)) = (0, RS.mk b p 5) from by first | exact rdN_err (by assumption) | exact rdN_none (by assumption) (by assumption) | exact rdN_form (by assumption) (by assumption) (by assumption) | exact rdN_few (by assumption) (by assumption) (by assumption) (by assumption) (by assumption) | exact rdN_zero (by assumption) (by assumption) (by assumption) (by assumption) (by assumption) (by assumption) (by assumption) | exact rdN_num (by assumption) hs.rng (by assumption) (by assumption) (by assumption) (fun _ _ _ => by exfalso; omega) (Eq.symm ‹_ = fold256 _ _›) (by assumption) | exact rdN_great (by assumption) hs.rng (by assumption) (by assumption) (by assumption) (fun _ _ _ => by exfalso; omega) (Eq.symm ‹_ = fold256 _ _›) (by assumption)]) (show some ([(7000, (.cells 94 [(cD (List.map encB b)), (cI (p : Int)), (cI 5), (cB true)]))] : Objs) = some ([(7000, (.cells 94 [(cD (List.map encB (RS.b ((rdN (RS.mk b p e)).2)))), (cI ((RS.at_ ((rdN (RS.mk b p e)).2)) : Int)), (cI (RS.e ((rdN (RS.mk b p e)).2))), (cB true)]))] : Objs) from by rw [show (rdN (RS.mk b p e)) = (0, RS.mk b p 5) from by first | exact rdN_err (by assumption) | exact rdN_none (by assumption) (by assumption) | exact rdN_form (by assumption) (by assumption) (by assumption) | exact rdN_few (by assumption) (by assumption) (by assumption) (by assumption) (by assumption) | exact rdN_zero (by assumption) (by assumption) (by assumption) (by assumption) (by assumption) (by assumption) (by assumption) | exact rdN_num (by assumption) hs.rng (by assumption) (by assumption) (by assumption) (fun _ _ _ => by exfalso; omega) (Eq.symm ‹_ = fold256 _ _›) (by assumption) | exact rdN_great (by assumption) hs.rng (by assumption) (by assumption) (by assumption) (fun _ _ _ => by exfalso; omega) (Eq.symm ‹_ = fold256 _ _›) (by assumption)])
       ·skip
        have hc22p := of_decide_eq_false hc22
        refine q_keep [0, 2, 3, 5] [7000] ?_
        refine awp_skip ?_
        refine peel_block ?_
        refine peel_seq ?_
        refine awp_seq ?_
        refine awp_seq ?_
        refine rk boxes [⟨4, false, [(vI e), (vI 0)], [], (vB false), []⟩] [0, 2, 3, 5, 75] [7000] ⟨82, [(0, (vL 7000 0)), (2, (vI 0)), (3, (vI (p : Int))), (5, (sc (.int .u64 a11))), (75, (vB false))], [(7000, (.cells 94 [(cD (List.map encB b)), (cI ((((p + 1) + Int.toNat x3) : Nat) : Int)), (cI e), (cB true)]))], [7000]⟩ (by kernel_rfl) (.c (tri_scalar_eq [(.int .i64 e), (.int .i64 0)] (.bool (e != 0)) rfl rfl rfl (by kernel_rfl) (congrArg Value.bool (show (e != 0) = false from by simpa using hb1))) .n) ?_
        refine peel_seq ?_
        refine awp_false rfl ?_
        refine awp_skip ?_
        refine peel_seq ?_
        refine awp_seq ?_
        refine rk boxes [⟨1, false, [(sc (.int .u64 a11))], [], (vI a11), []⟩] [2] [7000] ⟨82, [(2, (vI a11))], [(7000, (.cells 94 [(cD (List.map encB b)), (cI ((((p + 1) + Int.toNat x3) : Nat) : Int)), (cI e), (cB true)]))], [7000]⟩ (by kernel_rfl) (.c (tri_scalar_eq [(.int .u64 a11)] (.int .i64 (IntKind.wrap .i64 a11)) rfl rfl rfl (by kernel_rfl) (congrArg (Value.int .i64) (wrap_i64 (by omega)))) .n) ?_
        refine peel_seq ?_
        refine awp_ret ?_
        exact ends_ret rfl (show some ((vI a11) : SV) = some ((vI (rdN (RS.mk b p e)).1) : SV) from by rw [show (rdN (RS.mk b p e)) = (a11, RS.mk b ((p + 1) + Int.toNat x3) e) from by first | exact rdN_err (by assumption) | exact rdN_none (by assumption) (by assumption) | exact rdN_form (by assumption) (by assumption) (by assumption) | exact rdN_few (by assumption) (by assumption) (by assumption) (by assumption) (by assumption) | exact rdN_zero (by assumption) (by assumption) (by assumption) (by assumption) (by assumption) (by assumption) (by assumption) | exact rdN_num (by assumption) hs.rng (by assumption) (by assumption) (by assumption) (fun _ _ _ => by exfalso; omega) (Eq.symm ‹_ = fold256 _ _›) (by assumption) | exact rdN_great (by assumption) hs.rng (by assumption) (by assumption) (by assumption) (fun _ _ _ => by exfalso; omega) (Eq.symm ‹_ = fold256 _ _›) (by assumption)]) (show some ([(7000, (.cells 94 [(cD (List.map encB b)), (cI ((((p + 1) + Int.toNat x3) : Nat) : Int)), (cI e), (cB true)]))] : Objs) = some ([(7000, (.cells 94 [(cD (List.map encB (RS.b ((rdN (RS.mk b p e)).2)))), (cI ((RS.at_ ((rdN (RS.mk b p e)).2)) : Int)), (cI (RS.e ((rdN (RS.mk b p e)).2))), (cB true)]))] : Objs) from by rw [show (rdN (RS.mk b p e)) = (a11, RS.mk b ((p + 1) + Int.toNat x3) e) from by first | exact rdN_err (by assumption) | exact rdN_none (by assumption) (by assumption) | exact rdN_form (by assumption) (by assumption) (by assumption) | exact rdN_few (by assumption) (by assumption) (by assumption) (by assumption) (by assumption) | exact rdN_zero (by assumption) (by assumption) (by assumption) (by assumption) (by assumption) (by assumption) (by assumption) | exact rdN_num (by assumption) hs.rng (by assumption) (by assumption) (by assumption) (fun _ _ _ => by exfalso; omega) (Eq.symm ‹_ = fold256 _ _›) (by assumption) | exact rdN_great (by assumption) hs.rng (by assumption) (by assumption) (by assumption) (fun _ _ _ => by exfalso; omega) (Eq.symm ‹_ = fold256 _ _›) (by assumption)])
      | true =>
       have hb21p := of_decide_eq_true hb21
       obtain ⟨x23, ha24, hd25⟩ := at_drop (l := (List.drop (p + 1) (List.take ((p + 1) + Int.toNat x3) b))) (k := 0) (by (try simp only [List.length_map] at *); omega)
       have hr26 := hs.rng x23 (List.mem_of_mem_take (List.mem_of_mem_drop (List.mem_of_getElem? ha24)))
       refine rk boxes [⟨1, true, [(vD (List.map encB (List.drop (p + 1) (List.take ((p + 1) + Int.toNat x3) b))))], [], (vI (List.length (List.drop (p + 1) (List.take ((p + 1) + Int.toNat x3) b)) : Int)), []⟩, ⟨2, false, [(vI (List.length (List.drop (p + 1) (List.take ((p + 1) + Int.toNat x3) b)) : Int)), (vI 0)], [], (vB true), []⟩, ⟨5, false, [(vD (List.map encB (List.drop (p + 1) (List.take ((p + 1) + Int.toNat x3) b)))), (vI 0)], [], (vT (dP [(.v (.int .u8 x23))])), []⟩] [0, 2, 3, 5, 54] [7000] ⟨82, [(0, (vL 7000 0)), (2, (vI 0)), (3, (vI (p : Int))), (5, (sc (.int .u64 a11))), (54, (vB (x23 == 0)))], [(7000, (.cells 94 [(cD (List.map encB b)), (cI ((((p + 1) + Int.toNat x3) : Nat) : Int)), (cI e), (cB true)]))], [7000]⟩ (by kernel_rfl) (.c (tri_len_map tab_ok rfl) (.c (tri_scalar_eq [(.int .i64 (List.length (List.drop (p + 1) (List.take ((p + 1) + Int.toNat x3) b)) : Int)), (.int .i64 0)] (.bool (decide ((List.length (List.drop (p + 1) (List.take ((p + 1) + Int.toNat x3) b)) : Int) > 0))) rfl rfl rfl (by kernel_rfl) (congrArg Value.bool hb21)) (.c (tri_index_sl (e := 5) (sz := 1) (bytes := 1) (i := 0) tab_ok rfl (at_map encB ha24) (all_map fun _ => rfl)) .n))) ?_
       refine peel_seq ?_
       refine awp_cond (b := (x23 == 0)) rfl (fun hc27 => ?_) (fun hc27 => ?_)
       ·skip
        have hc27p : x23 = 0 := by simpa using hc27
        refine rk boxes [⟨1, false, [(sc (.func (.func 79) #[] #[])), (vL 7000 0), (vI 11)], [(7000, (.cells 94 [(cD (List.map encB b)), (cI ((((p + 1) + Int.toNat x3) : Nat) : Int)), (cI e), (cB true)]))], (.tup []), [(7000, (.cells 94 [(cD (List.map encB b)), (cI ((((p + 1) + Int.toNat x3) : Nat) : Int)), (cI 11), (cB true)]))]⟩] [0, 2, 3, 5] [7000] ⟨82, [(0, (vL 7000 0)), (2, (vI 0)), (3, (vI (p : Int))), (5, (sc (.int .u64 a11)))], [(7000, (.cells 94 [(cD (List.map encB b)), (cI ((((p + 1) + Int.toNat x3) : Nat) : Int)), (cI 11), (cB true)]))], [7000]⟩ (by kernel_rfl) (.c (tri_call (w_fail b ((p + 1) + Int.toNat x3) e 11 hb1)) .n) ?_
        refine peel_block ?_
        refine peel_seq ?_
        refine awp_seq ?_
        refine awp_seq ?_
        refine rk boxes [] [0, 2, 3, 5, 75] [7000] ⟨82, [(0, (vL 7000 0)), (2, (vI 0)), (3, (vI (p : Int))), (5, (sc (.int .u64 a11))), (75, (vB true))], [(7000, (.cells 94 [(cD (List.map encB b)), (cI ((((p + 1) + Int.toNat x3) : Nat) : Int)), (cI 11), (cB true)]))], [7000]⟩ (by kernel_rfl) .n ?_
        refine peel_seq ?_
        refine awp_true rfl ?_
        refine awp_seq ?_
        refine rk boxes [] [2, 5] [7000] ⟨82, [(2, (vI 0)), (5, (sc (.int .u64 a11)))], [(7000, (.cells 94 [(cD (List.map encB b)), (cI (p : Int)), (cI 11), (cB true)]))], [7000]⟩ (by kernel_rfl) .n ?_
        refine peel_seq ?_
        refine awp_seq ?_
        refine rk boxes [] [2, 5] [7000] ⟨82, [(2, (vI 0)), (5, (sc (.int .u64 a11)))], [(7000, (.cells 94 [(cD (List.map encB b)), (cI (p : Int)), (cI 11), (cB true)]))], [7000]⟩ (by kernel_rfl) .n ?_
        refine peel_seq ?_
        refine awp_ret ?_
        refine peel_seq_ret ?_
        exact ends_ret rfl (show some ((vI 0) : SV) = some ((vI (rdN (RS.mk b p e)).1) : SV) from by rw [show (rdN (RS.mk b p e)) = (0, RS.mk b p 11) from by first | exact rdN_err (by assumption) | exact rdN_none (by assumption) (by assumption) | exact rdN_form (by assumption) (by assumption) (by assumption) | exact rdN_few (by assumption) (by assumption) (by assumption) (by assumption) (by assumption) | exact rdN_zero (by assumption) (by assumption) (by assumption) (by assumption) (by assumption) (by assumption) (by assumption) | exact rdN_num (by assumption) hs.rng (by assumption) (by assumption) (by assumption) (fun _ y hy => by rw [ha24] at hy; cases hy; simpa using hc27) (Eq.symm ‹_ = fold256 _ _›) (by assumption) | exact rdN_great (by assumption) hs.rng (by assumption) (by assumption) (by assumption) (fun _ y hy => by rw [ha24] at hy; cases hy; simpa using hc27) (Eq.symm ‹_ = fold256 _ _›) (by assumption)]) (show some ([(7000, (.cells 94 [(cD (List.map encB b)), (cI (p : Int)), (cI 11), (cB true)]))] : Objs) = some ([(7000, (.cells 94 [(cD (List.map encB (RS.b ((rdN (RS.mk b p e)).2)))), (cI ((RS.at_ ((rdN (RS.mk b p e)).2)) : Int)), (cI (RS.e ((rdN (RS.mk b p e)).2))), (cB true)]))] : Objs) from by rw [show (rdN (RS.mk b p e)) = (0, RS.mk b p 11) from by first | exact rdN_err (by assumption) | exact rdN_none (by assumption) (by assumption) | exact rdN_form (by assumption) (by assumption) (by assumption) | exact rdN_few (by assumption) (by assumption) (by assumption) (by assumption) (by assumption) | exact rdN_zero (by assumption) (by assumption) (by assumption) (by assumption) (by assumption) (by assumption) (by assumption) | exact rdN_num (by assumption) hs.rng (by assumption) (by assumption) (by assumption) (fun _ y hy => by rw [ha24] at hy; cases hy; simpa using hc27) (Eq.symm ‹_ = fold256 _ _›) (by assumption) | exact rdN_great (by assumption) hs.rng (by assumption) (by assumption) (by assumption) (fun _ y hy => by rw [ha24] at hy; cases hy; simpa using hc27) (Eq.symm ‹_ = fold256 _ _›) (by assumption)])
       ·skip
        have hc27p : x23 ≠ 0 := by simpa using hc27
        refine awp_seq ?_
        refine rk boxes [] [0, 2, 3, 5, 66] [7000] ⟨82, [(0, (vL 7000 0)), (2, (vI 0)), (3, (vI (p : Int))), (5, (sc (.int .u64 a11))), (66, (vB (decide (a11 > 9223372036854775807))))], [(7000, (.cells 94 [(cD (List.map encB b)), (cI ((((p + 1) + Int.toNat x3) : Nat) : Int)), (cI e), (cB true)]))], [7000]⟩ (by kernel_rfl) .n ?_
        refine peel_seq ?_
        refine awp_cond (b := (decide (a11 > 9223372036854775807))) rfl (fun hc28 => ?_) (fun hc28 => ?_)
        ·skip
         have hc28p := of_decide_eq_true hc28
         refine rk boxes [⟨1, false, [(sc (.func (.func 79) #[] #[])), (vL 7000 0), (vI 5)], [(7000, (.cells 94 [(cD (List.map encB b)), (cI ((((p + 1) + Int.toNat x3) : Nat) : Int)), (cI e), (cB true)]))], (.tup []), [(7000, (.cells 94 [(cD (List.map encB b)), (cI ((((p + 1) + Int.toNat x3) : Nat) : Int)), (cI 5), (cB true)]))]⟩] [0, 2, 3, 5] [7000] ⟨82, [(0, (vL 7000 0)), (2, (vI 0)), (3, (vI (p : Int))), (5, (sc (.int .u64 a11)))], [(7000, (.cells 94 [(cD (List.map encB b)), (cI ((((p + 1) + Int.toNat x3) : Nat) : Int)), (cI 5), (cB true)]))], [7000]⟩ (by kernel_rfl) (.c (tri_call (w_fail b ((p + 1) + Int.toNat x3) e 5 hb1)) .n) ?_
         refine peel_block ?_
         refine peel_seq ?_
         refine awp_seq ?_
         refine awp_seq ?_
         refine rk boxes [] [0, 2, 3, 5, 75] [7000] ⟨82, [(0, (vL 7000 0)), (2, (vI 0)), (3, (vI (p : Int))), (5, (sc (.int .u64 a11))), (75, (vB true))], [(7000, (.cells 94 [(cD (List.map encB b)), (cI ((((p + 1) + Int.toNat x3) : Nat) : Int)), (cI 5), (cB true)]))], [7000]⟩ (by kernel_rfl) .n ?_
         refine peel_seq ?_
         refine awp_true rfl ?_
         refine awp_seq ?_
         refine rk boxes [] [2, 5] [7000] ⟨82, [(2, (vI 0)), (5, (sc (.int .u64 a11)))], [(7000, (.cells 94 [(cD (List.map encB b)), (cI (p : Int)), (cI 5), (cB true)]))], [7000]⟩ (by kernel_rfl) .n ?_
         refine peel_seq ?_
         refine awp_seq ?_
         refine rk boxes [] [2, 5] [7000] ⟨82, [(2, (vI 0)), (5, (sc (.int .u64 a11)))], [(7000, (.cells 94 [(cD (List.map encB b)), (cI (p : Int)), (cI 5), (cB true)]))], [7000]⟩ (by kernel_rfl) .n ?_
         refine peel_seq ?_
         refine awp_ret ?_
         refine peel_seq_ret ?_
         exact ends_ret rfl (show some ((vI 0) : SV) = some ((vI (rdN (RS.mk b p e)).1) : SV) from by rw [show (rdN (RS.mk b p e)) = (0, RS.mk b p 5) from by first | exact rdN_err (by assumption) | exact rdN_none (by assumption) (by assumption) | exact rdN_form (by assumption) (by assumption) (by assumption) | exact rdN_few (by assumption) (by assumption) (by assumption) (by assumption) (by assumption) | exact rdN_zero (by assumption) (by assumption) (by assumption) (by assumption) (by assumption) (by assumption) (by assumption) | exact rdN_num (by assumption) hs.rng (by assumption) (by assumption) (by assumption) (fun _ y hy => by rw [ha24] at hy; cases hy; simpa using hc27) (Eq.symm ‹_ = fold256 _ _›) (by assumption) | exact rdN_great (by assumption) hs.rng (by assumption) (by assumption) (by assumption) (fun _ y hy => by rw [ha24] at hy; cases hy; simpa using hc27) (Eq.symm ‹_ = fold256 _ _›) (by assumption)]) (show some ([(7000, (.cells 94 [(cD (List.map encB b)), (cI (p : Int)), (cI 5), (cB true)]))] : Objs) = some ([(7000, (.cells 94 [(cD (List.map encB (RS.b ((rdN (RS.mk b p e)).2)))), (cI ((RS.at_ ((rdN (RS.mk b p e)).2)) : Int)), (cI (RS.e ((rdN (RS.mk b p e)).2))), (cB true)]))] : Objs) from by rw [show (rdN (RS.mk b p e)) = (0, RS.mk b p 5) from by first | exact rdN_err (by assumption) | exact rdN_none (by assumption) (by assumption) | exact rdN_form (by assumption) (by assumption) (by assumption) | exact rdN_few (by assumption) (by assumption) (by assumption) (by assumption) (by assumption) | exact rdN_zero (by assumption) (by assumption) (by assumption) (by assumption) (by assumption) (by assumption) (by assumption) | exact rdN_num (by assumption) hs.rng (by assumption) (by assumption) (by assumption) (fun _ y hy => by rw [ha24] at hy; cases hy; simpa using hc27) (Eq.symm ‹_ = fold256 _ _›) (by assumption) | exact rdN_great (by assumption) hs.rng (by assumption) (by assumption) (by assumption) (fun _ y hy => by rw [ha24] at hy; cases hy; simpa using hc27) (Eq.symm ‹_ = fold256 _ _›) (by assumption)])
        ·skip
         have hc28p := of_decide_eq_false hc28
         refine q_keep [0, 2, 3, 5] [7000] ?_
         refine awp_skip ?_
         refine peel_block ?_
         refine peel_seq ?_
         refine awp_seq ?_
         refine awp_seq ?_
         refine rk boxes [⟨4, false, [(vI e), (vI 0)], [], (vB false), []⟩] [0, 2, 3, 5, 75] [7000] ⟨82, [(0, (vL 7000 0)), (2, (vI 0)), (3, (vI (p : Int))), (5, (sc (.int .u64 a11))), (75, (vB false))], [(7000, (.cells 94 [(cD (List.map encB b)), (cI ((((p + 1) + Int.toNat x3) : Nat) : Int)), (cI e), (cB true)]))], [7000]⟩ (by kernel_rfl) (.c (tri_scalar_eq [(.int .i64 e), (.int .i64 0)] (.bool (e != 0)) rfl rfl rfl (by kernel_rfl) (congrArg Value.bool (show (e != 0) = false from by simpa using hb1))) .n) ?_
         refine peel_seq ?_
         refine awp_false rfl ?_
         refine awp_skip ?_
         refine peel_seq ?_
         refine awp_seq ?_
         refine rk boxes [⟨1, false, [(sc (.int .u64 a11))], [], (vI a11), []⟩] [2] [7000] ⟨82, [(2, (vI a11))], [(7000, (.cells 94 [(cD (List.map encB b)), (cI ((((p + 1) + Int.toNat x3) : Nat) : Int)), (cI e), (cB true)]))], [7000]⟩ (by kernel_rfl) (.c (tri_scalar_eq [(.int .u64 a11)] (.int .i64 (IntKind.wrap .i64 a11)) rfl rfl rfl (by kernel_rfl) (congrArg (Value.int .i64) (wrap_i64 (by omega)))) .n) ?_
         refine peel_seq ?_
         refine awp_ret ?_
         exact ends_ret rfl (show some ((vI a11) : SV) = some ((vI (rdN (RS.mk b p e)).1) : SV) from by rw [show (rdN (RS.mk b p e)) = (a11, RS.mk b ((p + 1) + Int.toNat x3) e) from by first | exact rdN_err (by assumption) | exact rdN_none (by assumption) (by assumption) | exact rdN_form (by assumption) (by assumption) (by assumption) | exact rdN_few (by assumption) (by assumption) (by assumption) (by assumption) (by assumption) | exact rdN_zero (by assumption) (by assumption) (by assumption) (by assumption) (by assumption) (by assumption) (by assumption) | exact rdN_num (by assumption) hs.rng (by assumption) (by assumption) (by assumption) (fun _ y hy => by rw [ha24] at hy; cases hy; simpa using hc27) (Eq.symm ‹_ = fold256 _ _›) (by assumption) | exact rdN_great (by assumption) hs.rng (by assumption) (by assumption) (by assumption) (fun _ y hy => by rw [ha24] at hy; cases hy; simpa using hc27) (Eq.symm ‹_ = fold256 _ _›) (by assumption)]) (show some ([(7000, (.cells 94 [(cD (List.map encB b)), (cI ((((p + 1) + Int.toNat x3) : Nat) : Int)), (cI e), (cB true)]))] : Objs) = some ([(7000, (.cells 94 [(cD (List.map encB (RS.b ((rdN (RS.mk b p e)).2)))), (cI ((RS.at_ ((rdN (RS.mk b p e)).2)) : Int)), (cI (RS.e ((rdN (RS.mk b p e)).2))), (cB true)]))] : Objs) from by rw [show (rdN (RS.mk b p e)) = (a11, RS.mk b ((p + 1) + Int.toNat x3) e) from by first | exact rdN_err (by assumption) | exact rdN_none (by assumption) (by assumption) | exact rdN_form (by assumption) (by assumption) (by assumption) | exact rdN_few (by assumption) (by assumption) (by assumption) (by assumption) (by assumption) | exact rdN_zero (by assumption) (by assumption) (by assumption) (by assumption) (by assumption) (by assumption) (by assumption) | exact rdN_num (by assumption) hs.rng (by assumption) (by assumption) (by assumption) (fun _ y hy => by rw [ha24] at hy; cases hy; simpa using hc27) (Eq.symm ‹_ = fold256 _ _›) (by assumption) | exact rdN_great (by assumption) hs.rng (by assumption) (by assumption) (by assumption) (fun _ y hy => by rw [ha24] at hy; cases hy; simpa using hc27) (Eq.symm ‹_ = fold256 _ _›) (by assumption)])
    | true =>
     have hb8p := of_decide_eq_true hb8
     refine rk boxes [⟨2, false, [(vD (List.map encB ([x3]))), (vI 0)], [], (vT (dP [(.v (.int .u8 x3))])), []⟩, ⟨4, false, [(sc (.int .u8 x3))], [], (vI x3), []⟩, ⟨5, false, [(sc (.func (.func 80) #[] #[])), (vL 7000 0), (vI x3)], [(7000, (.cells 94 [(cD (List.map encB b)), (cI (((p + 1) : Nat) : Int)), (cI e), (cB true)]))], (vD (List.map encB ([]))), [(7000, (.cells 94 [(cD (List.map encB b)), (cI (((p + 1) : Nat) : Int)), (cI 2), (cB true)]))]⟩] [0, 2, 3, 5, 6] [7000] ⟨82, [(0, (vL 7000 0)), (2, (vI 0)), (3, (vI (p : Int))), (5, (sc (.int .u64 0))), (6, (vD (List.map encB ([]))))], [(7000, (.cells 94 [(cD (List.map encB b)), (cI (((p + 1) : Nat) : Int)), (cI 2), (cB true)]))], [7000]⟩ (by kernel_rfl) (.c (tri_index_sl (e := 5) (sz := 1) (bytes := 1) (i := 0) tab_ok rfl rfl (all_map fun _ => rfl)) (.c (tri_scalar_eq [(.int .u8 x3)] (.int .i64 (IntKind.wrap .i64 x3)) rfl rfl rfl (by kernel_rfl) (congrArg (Value.int .i64) (wrap_i64 (by omega)))) (.c (tri_call (w_bytes_short b (p + 1) e x3 hb1 hb8 (by omega) (by omega))) .n))) ?_
     refine peel_seq ?_
     refine awp_seq ?_
     refine awp_seq ?_
     refine rk boxes [] [0, 2, 3, 5, 6, 36, 37, 38] [7000] ⟨82, [(0, (vL 7000 0)), (2, (vI 0)), (3, (vI (p : Int))), (5, (sc (.int .u64 0))), (6, (vD (List.map encB ([])))), (36, (vD (List.map encB ([])))), (37, (vI 0)), (38, (vI 0))], [(7000, (.cells 94 [(cD (List.map encB b)), (cI (((p + 1) : Nat) : Int)), (cI 2), (cB true)]))], [7000]⟩ (by kernel_rfl) .n ?_
     refine peel_seq ?_
     refine awp_block ?_
     refine awp_rounds 1 ?_
     refine rounds_one ?_
     refine awp_seq ?_
     refine rk boxes [] [0, 2, 3, 5, 6, 36, 37, 38, 39] [7000] ⟨82, [(0, (vL 7000 0)), (2, (vI 0)), (3, (vI (p : Int))), (5, (sc (.int .u64 0))), (6, (vD (List.map encB ([])))), (36, (vD (List.map encB ([])))), (37, (vI 0)), (38, (vI 0)), (39, (vB false))], [(7000, (.cells 94 [(cD (List.map encB b)), (cI (((p + 1) : Nat) : Int)), (cI 2), (cB true)]))], [7000]⟩ (by kernel_rfl) .n ?_
     refine peel_seq ?_
     refine awp_seq ?_
     refine awp_false rfl ?_
     refine awp_exit ?_
     refine peel_seq_exit ?_
     refine peel_seq_exit ?_
     refine peel_hit ?_
     refine peel_seq ?_
     refine awp_seq ?_
     refine awp_block ?_
     refine awp_seq ?_
     refine rk boxes [] [0, 2, 3, 5, 6, 48] [7000] ⟨82, [(0, (vL 7000 0)), (2, (vI 0)), (3, (vI (p : Int))), (5, (sc (.int .u64 0))), (6, (vD (List.map encB ([])))), (48, (vB true))], [(7000, (.cells 94 [(cD (List.map encB b)), (cI (((p + 1) : Nat) : Int)), (cI 2), (cB true)]))], [7000]⟩ (by kernel_rfl) .n ?_
     refine peel_seq ?_
     refine awp_true rfl ?_
     refine q_keep [0, 2, 3, 5] [7000] ?_
     refine awp_skip ?_
     refine peel_block ?_
     refine peel_seq ?_
     refine awp_seq ?_
     refine awp_seq ?_
     refine rk boxes [] [0, 2, 3, 5, 75] [7000] ⟨82, [(0, (vL 7000 0)), (2, (vI 0)), (3, (vI (p : Int))), (5, (sc (.int .u64 0))), (75, (vB true))], [(7000, (.cells 94 [(cD (List.map encB b)), (cI (((p + 1) : Nat) : Int)), (cI 2), (cB true)]))], [7000]⟩ (by kernel_rfl) .n ?_
     refine peel_seq ?_
     refine awp_true rfl ?_
     refine awp_seq ?_
     refine rk boxes [] [2, 5] [7000] ⟨82, [(2, (vI 0)), (5, (sc (.int .u64 0)))], [(7000, (.cells 94 [(cD (List.map encB b)), (cI (p : Int)), (cI 2), (cB true)]))], [7000]⟩ (by kernel_rfl) .n ?_
     refine peel_seq ?_
     refine awp_seq ?_
     refine rk boxes [] [2, 5] [7000] ⟨82, [(2, (vI 0)), (5, (sc (.int .u64 0)))], [(7000, (.cells 94 [(cD (List.map encB b)), (cI (p : Int)), (cI 2), (cB true)]))], [7000]⟩ (by kernel_rfl) .n ?_
     refine peel_seq ?_
     refine awp_ret ?_
     refine peel_seq_ret ?_
     exact ends_ret rfl (show some ((vI 0) : SV) = some ((vI (rdN (RS.mk b p e)).1) : SV) from by rw [show (rdN (RS.mk b p e)) = (0, RS.mk b p 2) from by first | exact rdN_err (by assumption) | exact rdN_none (by assumption) (by assumption) | exact rdN_form (by assumption) (by assumption) (by assumption) | exact rdN_few (by assumption) (by assumption) (by assumption) (by assumption) (by assumption) | exact rdN_zero (by assumption) (by assumption) (by assumption) (by assumption) (by assumption) (by assumption) (by assumption) | exact rdN_num (by assumption) hs.rng (by assumption) (by assumption) (by assumption) (fun _ _ _ => by exfalso; omega) (Eq.symm ‹_ = fold256 _ _›) (by assumption) | exact rdN_great (by assumption) hs.rng (by assumption) (by assumption) (by assumption) (fun _ _ _ => by exfalso; omega) (Eq.symm ‹_ = fold256 _ _›) (by assumption)]) (show some ([(7000, (.cells 94 [(cD (List.map encB b)), (cI (p : Int)), (cI 2), (cB true)]))] : Objs) = some ([(7000, (.cells 94 [(cD (List.map encB (RS.b ((rdN (RS.mk b p e)).2)))), (cI ((RS.at_ ((rdN (RS.mk b p e)).2)) : Int)), (cI (RS.e ((rdN (RS.mk b p e)).2))), (cB true)]))] : Objs) from by rw [show (rdN (RS.mk b p e)) = (0, RS.mk b p 2) from by first | exact rdN_err (by assumption) | exact rdN_none (by assumption) (by assumption) | exact rdN_form (by assumption) (by assumption) (by assumption) | exact rdN_few (by assumption) (by assumption) (by assumption) (by assumption) (by assumption) | exact rdN_zero (by assumption) (by assumption) (by assumption) (by assumption) (by assumption) (by assumption) (by assumption) | exact rdN_num (by assumption) hs.rng (by assumption) (by assumption) (by assumption) (fun _ _ _ => by exfalso; omega) (Eq.symm ‹_ = fold256 _ _›) (by assumption) | exact rdN_great (by assumption) hs.rng (by assumption) (by assumption) (by assumption) (fun _ _ _ => by exfalso; omega) (Eq.symm ‹_ = fold256 _ _›) (by assumption)])
  | true =>
   have hb2p := of_decide_eq_true hb2
   refine rk boxes [⟨1, false, [(sc (.func (.func 80) #[] #[])), (vL 7000 0), (vI 1)], [(7000, (.cells 94 [(cD (List.map encB b)), (cI (p : Int)), (cI e), (cB true)]))], (vD (List.map encB ([]))), [(7000, (.cells 94 [(cD (List.map encB b)), (cI (p : Int)), (cI 2), (cB true)]))]⟩] [0, 2, 3, 4] [7000] ⟨82, [(0, (vL 7000 0)), (2, (vI 0)), (3, (vI (p : Int))), (4, (vD (List.map encB ([]))))], [(7000, (.cells 94 [(cD (List.map encB b)), (cI (p : Int)), (cI 2), (cB true)]))], [7000]⟩ (by kernel_rfl) (.c (tri_call (w_bytes_short b p e 1 hb1 hb2 (by omega) (by omega))) .n) ?_
   refine peel_seq ?_
   refine awp_seq ?_
   refine awp_seq ?_
   refine rk boxes [] [0, 2, 3, 4, 19] [7000] ⟨82, [(0, (vL 7000 0)), (2, (vI 0)), (3, (vI (p : Int))), (4, (vD (List.map encB ([])))), (19, (vB true))], [(7000, (.cells 94 [(cD (List.map encB b)), (cI (p : Int)), (cI 2), (cB true)]))], [7000]⟩ (by kernel_rfl) .n ?_
   refine peel_seq ?_
   refine awp_true rfl ?_
   refine awp_seq ?_
   refine rk boxes [] [0, 2, 3, 4] [7000] ⟨82, [(0, (vL 7000 0)), (2, (vI 0)), (3, (vI (p : Int))), (4, (vD (List.map encB ([]))))], [(7000, (.cells 94 [(cD (List.map encB b)), (cI (p : Int)), (cI 2), (cB true)]))], [7000]⟩ (by kernel_rfl) .n ?_
   refine peel_seq ?_
   refine awp_ret ?_
   refine peel_seq_ret ?_
   exact ends_ret rfl (show some ((vI 0) : SV) = some ((vI (rdN (RS.mk b p e)).1) : SV) from by rw [show (rdN (RS.mk b p e)) = (0, RS.mk b p 2) from by first | exact rdN_err (by assumption) | exact rdN_none (by assumption) (by assumption) | exact rdN_form (by assumption) (by assumption) (by assumption) | exact rdN_few (by assumption) (by assumption) (by assumption) (by assumption) (by assumption) | exact rdN_zero (by assumption) (by assumption) (by assumption) (by assumption) (by assumption) (by assumption) (by assumption) | exact rdN_num (by assumption) hs.rng (by assumption) (by assumption) (by assumption) (fun _ _ _ => by exfalso; omega) (Eq.symm ‹_ = fold256 _ _›) (by assumption) | exact rdN_great (by assumption) hs.rng (by assumption) (by assumption) (by assumption) (fun _ _ _ => by exfalso; omega) (Eq.symm ‹_ = fold256 _ _›) (by assumption)]) (show some ([(7000, (.cells 94 [(cD (List.map encB b)), (cI (p : Int)), (cI 2), (cB true)]))] : Objs) = some ([(7000, (.cells 94 [(cD (List.map encB (RS.b ((rdN (RS.mk b p e)).2)))), (cI ((RS.at_ ((rdN (RS.mk b p e)).2)) : Int)), (cI (RS.e ((rdN (RS.mk b p e)).2))), (cB true)]))] : Objs) from by rw [show (rdN (RS.mk b p e)) = (0, RS.mk b p 2) from by first | exact rdN_err (by assumption) | exact rdN_none (by assumption) (by assumption) | exact rdN_form (by assumption) (by assumption) (by assumption) | exact rdN_few (by assumption) (by assumption) (by assumption) (by assumption) (by assumption) | exact rdN_zero (by assumption) (by assumption) (by assumption) (by assumption) (by assumption) (by assumption) (by assumption) | exact rdN_num (by assumption) hs.rng (by assumption) (by assumption) (by assumption) (fun _ _ _ => by exfalso; omega) (Eq.symm ‹_ = fold256 _ _›) (by assumption) | exact rdN_great (by assumption) hs.rng (by assumption) (by assumption) (by assumption) (fun _ _ _ => by exfalso; omega) (Eq.symm ‹_ = fold256 _ _›) (by assumption)])
theorem w_RNumber (s : RS) (hs : RS.ok s) : Sat Try.prog 78 [(vL 7000 0)] [(7000, (.cells 94 [(cD (List.map encB (RS.b s))), (cI ((RS.at_ s) : Int)), (cI (RS.e s)), (cB true)]))] (vI (rdN s).1) [(7000, (.cells 94 [(cD (List.map encB (RS.b ((rdN s).2)))), (cI ((RS.at_ ((rdN s).2)) : Int)), (cI (RS.e ((rdN s).2))), (cB true)]))] := by
  obtain ⟨b, p, e⟩ := s
  exact w_RNumber0 b p e hs
theorem w_RWithin0 (b : List Int) (p : Nat) (e : Int) (hs : RS.ok (RS.mk b p e)) (lo : Int) (hi : Int) : Sat Try.prog 62 [(vL 7000 0), (vI lo), (vI hi)] [(7000, (.cells 94 [(cD (List.map encB b)), (cI (p : Int)), (cI e), (cB true)]))] (vI (rdW (RS.mk b p e) lo hi).1) [(7000, (.cells 94 [(cD (List.map encB (RS.b ((rdW (RS.mk b p e) lo hi).2)))), (cI ((RS.at_ ((rdW (RS.mk b p e) lo hi).2)) : Int)), (cI (RS.e ((rdW (RS.mk b p e) lo hi).2))), (cB true)]))] := by
 refine sat_of_body tab_ok Try.func62 rfl (by kernel_rfl) (Nat.le_of_ble_eq_true rfl) rfl fun G => ?_
 refine awp_seq ?_
 refine rk boxes [] [0, 1, 2, 6] [7000] ⟨44, [(0, (vL 7000 0)), (1, (vI lo)), (2, (vI hi)), (6, (vI 0))], [(7000, (.cells 94 [(cD (List.map encB b)), (cI (p : Int)), (cI e), (cB true)]))], [7000]⟩ (by kernel_rfl) .n ?_
 refine peel_seq ?_
 refine awp_seq ?_
 refine awp_seq ?_
 refine rk boxes [⟨1, true, [(sc (.func (.func 65) #[] #[])), (vL 7000 0)], [(7000, (.cells 94 [(cD (List.map encB b)), (cI (p : Int)), (cI e), (cB true)]))], (vB false), []⟩] [0, 1, 2, 6, 10] [7000] ⟨44, [(0, (vL 7000 0)), (1, (vI lo)), (2, (vI hi)), (6, (vI 0)), (10, (vB false))], [(7000, (.cells 94 [(cD (List.map encB b)), (cI (p : Int)), (cI e), (cB true)]))], [7000]⟩ (by kernel_rfl) (.c (tri_call (w_dead b p e)) .n) ?_
 refine peel_seq ?_
 refine awp_false rfl ?_
 refine awp_skip ?_
 refine peel_seq ?_
 refine awp_seq ?_
 refine rk boxes [] [0, 1, 2, 6, 7] [7000] ⟨44, [(0, (vL 7000 0)), (1, (vI lo)), (2, (vI hi)), (6, (vI 0)), (7, (vI (p : Int)))], [(7000, (.cells 94 [(cD (List.map encB b)), (cI (p : Int)), (cI e), (cB true)]))], [7000]⟩ (by kernel_rfl) .n ?_
 refine peel_seq ?_
 refine awp_seq ?_
 refine rk boxes [⟨1, false, [(sc (.func (.func 78) #[] #[])), (vL 7000 0)], [(7000, (.cells 94 [(cD (List.map encB b)), (cI (p : Int)), (cI e), (cB true)]))], (vI (rdN (RS.mk b p e)).1), [(7000, (.cells 94 [(cD (List.map encB (RS.b ((rdN (RS.mk b p e)).2)))), (cI ((RS.at_ ((rdN (RS.mk b p e)).2)) : Int)), (cI (RS.e ((rdN (RS.mk b p e)).2))), (cB true)]))]⟩] [0, 1, 2, 6, 7, 8] [7000] ⟨44, [(0, (vL 7000 0)), (1, (vI lo)), (2, (vI hi)), (6, (vI 0)), (7, (vI (p : Int))), (8, (vI (rdN (RS.mk b p e)).1))], [(7000, (.cells 94 [(cD (List.map encB (RS.b ((rdN (RS.mk b p e)).2)))), (cI ((RS.at_ ((rdN (RS.mk b p e)).2)) : Int)), (cI (RS.e ((rdN (RS.mk b p e)).2))), (cB true)]))], [7000]⟩ (by kernel_rfl) (.c (tri_call (w_RNumber (RS.mk b p e) hs)) .n) ?_
 refine peel_seq ?_
 refine awp_seq ?_
 refine awp_seq ?_
 cases hb1 : ((RS.e ((rdN (RS.mk b p e)).2)) == 0) with
 | false =>
  have hb1p : (RS.e ((rdN (RS.mk b p e)).2)) ≠ 0 := by simpa using hb1
  refine rk boxes [⟨4, false, [(vI (RS.e ((rdN (RS.mk b p e)).2))), (vI 0)], [], (vB false), []⟩] [0, 6, 7, 8, 31] [7000] ⟨44, [(0, (vL 7000 0)), (6, (vI 0)), (7, (vI (p : Int))), (8, (vI (rdN (RS.mk b p e)).1)), (31, (vB false))], [(7000, (.cells 94 [(cD (List.map encB (RS.b ((rdN (RS.mk b p e)).2)))), (cI ((RS.at_ ((rdN (RS.mk b p e)).2)) : Int)), (cI (RS.e ((rdN (RS.mk b p e)).2))), (cB true)]))], [7000]⟩ (by kernel_rfl) (.c (tri_scalar_eq [(.int .i64 (RS.e ((rdN (RS.mk b p e)).2))), (.int .i64 0)] (.bool ((RS.e ((rdN (RS.mk b p e)).2)) == 0)) rfl rfl rfl (by kernel_rfl) (congrArg Value.bool hb1)) .n) ?_
  refine peel_seq ?_
  refine awp_false rfl ?_
  refine awp_skip ?_
  refine peel_seq ?_
  refine awp_seq ?_
  refine awp_seq ?_
  refine rk boxes [⟨4, false, [(vI (RS.e ((rdN (RS.mk b p e)).2))), (vI 0)], [], (vB true), []⟩] [6, 8, 42] [7000] ⟨44, [(6, (vI 0)), (8, (vI (rdN (RS.mk b p e)).1)), (42, (vB true))], [(7000, (.cells 94 [(cD (List.map encB (RS.b ((rdN (RS.mk b p e)).2)))), (cI ((RS.at_ ((rdN (RS.mk b p e)).2)) : Int)), (cI (RS.e ((rdN (RS.mk b p e)).2))), (cB true)]))], [7000]⟩ (by kernel_rfl) (.c (tri_scalar_eq [(.int .i64 (RS.e ((rdN (RS.mk b p e)).2))), (.int .i64 0)] (.bool ((RS.e ((rdN (RS.mk b p e)).2)) != 0)) rfl rfl rfl (by kernel_rfl) (congrArg Value.bool (show ((RS.e ((rdN (RS.mk b p e)).2)) != 0) = true from by simpa using hb1))) .n) ?_
  refine peel_seq ?_
  refine awp_true rfl ?_
  refine awp_seq ?_
  refine rk boxes [] [6, 8] [7000] ⟨44, [(6, (vI 0)), (8, (vI (rdN (RS.mk b p e)).1))], [(7000, (.cells 94 [(cD (List.map encB (RS.b ((rdN (RS.mk b p e)).2)))), (cI ((RS.at_ ((rdN (RS.mk b p e)).2)) : Int)), (cI (RS.e ((rdN (RS.mk b p e)).2))), (cB true)]))], [7000]⟩ (by kernel_rfl) .n ?_
  refine peel_seq ?_
  refine awp_ret ?_
  refine peel_seq_ret ?_
  exact (have hR : (rdW (RS.mk b p e) lo hi) = (0, RS.mk (RS.b ((rdN (RS.mk b p e)).2)) (RS.at_ ((rdN (RS.mk b p e)).2)) (RS.e ((rdN (RS.mk b p e)).2))) := (by first | (simp only [rdW, hb1, cond_true, cond_false, Bool.not_true, Bool.not_false]; done) | (simp only [rdW, hb1, cond_true, cond_false, Bool.not_true, Bool.not_false]; rfl) | (simp only [rdW, hb1, cond_true, cond_false, Bool.not_true, Bool.not_false]; simp only [rdN_b]; done) | (simp only [rdW, hb1, cond_true, cond_false, Bool.not_true, Bool.not_false]; exact congrArg (Prod.mk _) (rdN_was (by assumption)))); ends_ret rfl (show some ((vI 0) : SV) = some ((vI (rdW (RS.mk b p e) lo hi).1) : SV) from by rw [hR]) (show some ([(7000, (.cells 94 [(cD (List.map encB (RS.b ((rdN (RS.mk b p e)).2)))), (cI ((RS.at_ ((rdN (RS.mk b p e)).2)) : Int)), (cI (RS.e ((rdN (RS.mk b p e)).2))), (cB true)]))] : Objs) = some ([(7000, (.cells 94 [(cD (List.map encB (RS.b ((rdW (RS.mk b p e) lo hi).2)))), (cI ((RS.at_ ((rdW (RS.mk b p e) lo hi).2)) : Int)), (cI (RS.e ((rdW (RS.mk b p e) lo hi).2))), (cB true)]))] : Objs) from by rw [hR]))
 | true =>
  have hb1p : (RS.e ((rdN (RS.mk b p e)).2)) = 0 := by simpa using hb1
  cases hb2 : (decide ((rdN (RS.mk b p e)).1 < lo)) with
  | false =>
   have hb2p := of_decide_eq_false hb2
   refine rk boxes [⟨4, false, [(vI (RS.e ((rdN (RS.mk b p e)).2))), (vI 0)], [], (vB true), []⟩, ⟨8, false, [(vI (rdN (RS.mk b p e)).1), (vI lo)], [], (vB false), []⟩] [0, 6, 7, 8, 31] [7000] ⟨44, [(0, (vL 7000 0)), (6, (vI 0)), (7, (vI (p : Int))), (8, (vI (rdN (RS.mk b p e)).1)), (31, (vB (decide ((rdN (RS.mk b p e)).1 > hi))))], [(7000, (.cells 94 [(cD (List.map encB (RS.b ((rdN (RS.mk b p e)).2)))), (cI ((RS.at_ ((rdN (RS.mk b p e)).2)) : Int)), (cI (RS.e ((rdN (RS.mk b p e)).2))), (cB true)]))], [7000]⟩ (by kernel_rfl) (.c (tri_scalar_eq [(.int .i64 (RS.e ((rdN (RS.mk b p e)).2))), (.int .i64 0)] (.bool ((RS.e ((rdN (RS.mk b p e)).2)) == 0)) rfl rfl rfl (by kernel_rfl) (congrArg Value.bool hb1)) (.c (tri_scalar_eq [(.int .i64 (rdN (RS.mk b p e)).1), (.int .i64 lo)] (.bool (decide ((rdN (RS.mk b p e)).1 < lo))) rfl rfl rfl (by kernel_rfl) (congrArg Value.bool hb2)) .n)) ?_
   refine peel_seq ?_
   refine awp_cond (b := (decide ((rdN (RS.mk b p e)).1 > hi))) rfl (fun hc3 => ?_) (fun hc3 => ?_)
   ·skip
    have hc3p := of_decide_eq_true hc3
    refine awp_seq ?_
    refine rk boxes [] [0, 6, 8] [7000] ⟨44, [(0, (vL 7000 0)), (6, (vI 0)), (8, (vI (rdN (RS.mk b p e)).1))], [(7000, (.cells 94 [(cD (List.map encB (RS.b ((rdN (RS.mk b p e)).2)))), (cI (p : Int)), (cI (RS.e ((rdN (RS.mk b p e)).2))), (cB true)]))], [7000]⟩ (by kernel_rfl) .n ?_
    refine peel_seq ?_
    refine rk boxes [⟨1, false, [(sc (.func (.func 79) #[] #[])), (vL 7000 0), (vI 5)], [(7000, (.cells 94 [(cD (List.map encB (RS.b ((rdN (RS.mk b p e)).2)))), (cI (p : Int)), (cI (RS.e ((rdN (RS.mk b p e)).2))), (cB true)]))], (.tup []), [(7000, (.cells 94 [(cD (List.map encB (RS.b ((rdN (RS.mk b p e)).2)))), (cI (p : Int)), (cI 5), (cB true)]))]⟩] [0, 6, 8] [7000] ⟨44, [(0, (vL 7000 0)), (6, (vI 0)), (8, (vI (rdN (RS.mk b p e)).1))], [(7000, (.cells 94 [(cD (List.map encB (RS.b ((rdN (RS.mk b p e)).2)))), (cI (p : Int)), (cI 5), (cB true)]))], [7000]⟩ (by kernel_rfl) (.c (tri_call (w_fail (RS.b ((rdN (RS.mk b p e)).2)) p (RS.e ((rdN (RS.mk b p e)).2)) 5 hb1)) .n) ?_
    refine peel_seq ?_
    refine awp_seq ?_
    refine awp_seq ?_
    refine rk boxes [] [6, 8, 42] [7000] ⟨44, [(6, (vI 0)), (8, (vI (rdN (RS.mk b p e)).1)), (42, (vB true))], [(7000, (.cells 94 [(cD (List.map encB (RS.b ((rdN (RS.mk b p e)).2)))), (cI (p : Int)), (cI 5), (cB true)]))], [7000]⟩ (by kernel_rfl) .n ?_
    refine peel_seq ?_
    refine awp_true rfl ?_
    refine awp_seq ?_
    refine rk boxes [] [6, 8] [7000] ⟨44, [(6, (vI 0)), (8, (vI (rdN (RS.mk b p e)).1))], [(7000, (.cells 94 [(cD (List.map encB (RS.b ((rdN (RS.mk b p e)).2)))), (cI (p : Int)), (cI 5), (cB true)]))], [7000]⟩ (by kernel_rfl) .n ?_
    refine peel_seq ?_
    refine awp_ret ?_
    refine peel_seq_ret ?_
    exact (have hR : (rdW (RS.mk b p e) lo hi) = (0, RS.mk (RS.b ((rdN (RS.mk b p e)).2)) p 5) := (by first | (simp only [rdW, hb1, hb2, hc3, cond_true, cond_false, Bool.not_true, Bool.not_false]; done) | (simp only [rdW, hb1, hb2, hc3, cond_true, cond_false, Bool.not_true, Bool.not_false]; rfl) | (simp only [rdW, hb1, hb2, hc3, cond_true, cond_false, Bool.not_true, Bool.not_false]; simp only [rdN_b]; done) | (simp only [rdW, hb1, hb2, hc3, cond_true, cond_false, Bool.not_true, Bool.not_false]; exact congrArg (Prod.mk _) (rdN_was (by assumption)))); ends_ret rfl (show some ((vI 0) : SV) = some ((vI (rdW (RS.mk b p e) lo hi).1) : SV) from by rw [hR]) (show some ([(7000, (.cells 94 [(cD (List.map encB (RS.b ((rdN (RS.mk b p e)).2)))), (cI (p : Int)), (cI 5), (cB true)]))] : Objs) = some ([(7000, (.cells 94 [(cD (List.map encB (RS.b ((rdW (RS.mk b p e) lo hi).2)))), (cI ((RS.at_ ((rdW (RS.mk b p e) lo hi).2)) : Int)), (cI (RS.e ((rdW (RS.mk b p e) lo hi).2))), (cB true)]))] : Objs) from by rw [hR]))
   ·skip
    have hc3p := of_decide_eq_false hc3
    refine awp_skip ?_
    refine peel_seq ?_
    refine awp_seq ?_
    refine awp_seq ?_
    refine rk boxes [⟨4, false, [(vI (RS.e ((rdN (RS.mk b p e)).2))), (vI 0)], [], (vB false), []⟩] [6, 8, 42] [7000] ⟨44, [(6, (vI 0)), (8, (vI (rdN (RS.mk b p e)).1)), (42, (vB false))], [(7000, (.cells 94 [(cD (List.map encB (RS.b ((rdN (RS.mk b p e)).2)))), (cI ((RS.at_ ((rdN (RS.mk b p e)).2)) : Int)), (cI (RS.e ((rdN (RS.mk b p e)).2))), (cB true)]))], [7000]⟩ (by kernel_rfl) (.c (tri_scalar_eq [(.int .i64 (RS.e ((rdN (RS.mk b p e)).2))), (.int .i64 0)] (.bool ((RS.e ((rdN (RS.mk b p e)).2)) != 0)) rfl rfl rfl (by kernel_rfl) (congrArg Value.bool (show ((RS.e ((rdN (RS.mk b p e)).2)) != 0) = false from by simpa using hb1))) .n) ?_
    refine peel_seq ?_
    refine awp_false rfl ?_
    refine awp_skip ?_
    refine peel_seq ?_
    refine awp_seq ?_
    refine rk boxes [] [6] [7000] ⟨44, [(6, (vI (rdN (RS.mk b p e)).1))], [(7000, (.cells 94 [(cD (List.map encB (RS.b ((rdN (RS.mk b p e)).2)))), (cI ((RS.at_ ((rdN (RS.mk b p e)).2)) : Int)), (cI (RS.e ((rdN (RS.mk b p e)).2))), (cB true)]))], [7000]⟩ (by kernel_rfl) .n ?_
    refine peel_seq ?_
    refine awp_ret ?_
    exact (have hR : (rdW (RS.mk b p e) lo hi) = ((rdN (RS.mk b p e)).1, RS.mk (RS.b ((rdN (RS.mk b p e)).2)) (RS.at_ ((rdN (RS.mk b p e)).2)) (RS.e ((rdN (RS.mk b p e)).2))) := (by first | (simp only [rdW, hb1, hb2, hc3, cond_true, cond_false, Bool.not_true, Bool.not_false]; done) | (simp only [rdW, hb1, hb2, hc3, cond_true, cond_false, Bool.not_true, Bool.not_false]; rfl) | (simp only [rdW, hb1, hb2, hc3, cond_true, cond_false, Bool.not_true, Bool.not_false]; simp only [rdN_b]; done) | (simp only [rdW, hb1, hb2, hc3, cond_true, cond_false, Bool.not_true, Bool.not_false]; exact congrArg (Prod.mk _) (rdN_was (by assumption)))); ends_ret rfl (show some ((vI (rdN (RS.mk b p e)).1) : SV) = some ((vI (rdW (RS.mk b p e) lo hi).1) : SV) from by rw [hR]) (show some ([(7000, (.cells 94 [(cD (List.map encB (RS.b ((rdN (RS.mk b p e)).2)))), (cI ((RS.at_ ((rdN (RS.mk b p e)).2)) : Int)), (cI (RS.e ((rdN (RS.mk b p e)).2))), (cB true)]))] : Objs) = some ([(7000, (.cells 94 [(cD (List.map encB (RS.b ((rdW (RS.mk b p e) lo hi).2)))), (cI ((RS.at_ ((rdW (RS.mk b p e) lo hi).2)) : Int)), (cI (RS.e ((rdW (RS.mk b p e) lo hi).2))), (cB true)]))] : Objs) from by rw [hR]))
  | true =>
   have hb2p := of_decide_eq_true hb2
   refine rk boxes [⟨4, false, [(vI (RS.e ((rdN (RS.mk b p e)).2))), (vI 0)], [], (vB true), []⟩, ⟨8, false, [(vI (rdN (RS.mk b p e)).1), (vI lo)], [], (vB true), []⟩] [0, 6, 7, 8, 31] [7000] ⟨44, [(0, (vL 7000 0)), (6, (vI 0)), (7, (vI (p : Int))), (8, (vI (rdN (RS.mk b p e)).1)), (31, (vB true))], [(7000, (.cells 94 [(cD (List.map encB (RS.b ((rdN (RS.mk b p e)).2)))), (cI ((RS.at_ ((rdN (RS.mk b p e)).2)) : Int)), (cI (RS.e ((rdN (RS.mk b p e)).2))), (cB true)]))], [7000]⟩ (by kernel_rfl) (.c (tri_scalar_eq [(.int .i64 (RS.e ((rdN (RS.mk b p e)).2))), (.int .i64 0)] (.bool ((RS.e ((rdN (RS.mk b p e)).2)) == 0)) rfl rfl rfl (by kernel_rfl) (congrArg Value.bool hb1)) (.c (tri_scalar_eq [(.int .i64 (rdN (RS.mk b p e)).1), (.int .i64 lo)] (.bool (decide ((rdN (RS.mk b p e)).1 < lo))) rfl rfl rfl (by kernel_rfl) (congrArg Value.bool hb2)) .n)) ?_
   refine peel_seq ?_
   refine awp_true rfl ?_
   refine awp_seq ?_
   refine rk boxes [] [0, 6, 8] [7000] ⟨44, [(0, (vL 7000 0)), (6, (vI 0)), (8, (vI (rdN (RS.mk b p e)).1))], [(7000, (.cells 94 [(cD (List.map encB (RS.b ((rdN (RS.mk b p e)).2)))), (cI (p : Int)), (cI (RS.e ((rdN (RS.mk b p e)).2))), (cB true)]))], [7000]⟩ (by kernel_rfl) .n ?_
   refine peel_seq ?_
   refine rk boxes [⟨1, false, [(sc (.func (.func 79) #[] #[])), (vL 7000 0), (vI 5)], [(7000, (.cells 94 [(cD (List.map encB (RS.b ((rdN (RS.mk b p e)).2)))), (cI (p : Int)), (cI (RS.e ((rdN (RS.mk b p e)).2))), (cB true)]))], (.tup []), [(7000, (.cells 94 [(cD (List.map encB (RS.b ((rdN (RS.mk b p e)).2)))), (cI (p : Int)), (cI 5), (cB true)]))]⟩] [0, 6, 8] [7000] ⟨44, [(0, (vL 7000 0)), (6, (vI 0)), (8, (vI (rdN (RS.mk b p e)).1))], [(7000, (.cells 94 [(cD (List.map encB (RS.b ((rdN (RS.mk b p e)).2)))), (cI (p : Int)), (cI 5), (cB true)]))], [7000]⟩ (by kernel_rfl) (.c (tri_call (w_fail (RS.b ((rdN (RS.mk b p e)).2)) p (RS.e ((rdN (RS.mk b p e)).2)) 5 hb1)) .n) ?_
   refine peel_seq ?_
   refine awp_seq ?_
   refine awp_seq ?_
   refine rk boxes [] [6, 8, 42] [7000] ⟨44, [(6, (vI 0)), (8, (vI (rdN (RS.mk b p e)).1)), (42, (vB true))], [(7000, (.cells 94 [(cD (List.map encB (RS.b ((rdN (RS.mk b p e)).2)))), (cI (p : Int)), (cI 5), (cB true)]))], [7000]⟩ (by kernel_rfl) .n ?_
   refine peel_seq ?_
   refine awp_true rfl ?_
   refine awp_seq ?_
   refine rk boxes [] [6, 8] [7000] ⟨44, [(6, (vI 0)), (8, (vI (rdN (RS.mk b p e)).1))], [(7000, (.cells 94 [(cD (List.map encB (RS.b ((rdN (RS.mk b p e)).2)))), (cI (p : Int)), (cI 5), (cB true)]))], [7000]⟩ (by kernel_rfl) .n ?_
   refine peel_seq ?_
   refine awp_ret ?_
   refine peel_seq_ret ?_
   exact (have hR : (rdW (RS.mk b p e) lo hi) = (0, RS.mk (RS.b ((rdN (RS.mk b p e)).2)) p 5) := (by first | (simp only [rdW, hb1, hb2, cond_true, cond_false, Bool.not_true, Bool.not_false]; done) | (simp only [rdW, hb1, hb2, cond_true, cond_false, Bool.not_true, Bool.not_false]; rfl) | (simp only [rdW, hb1, hb2, cond_true, cond_false, Bool.not_true, Bool.not_false]; simp only [rdN_b]; done) | (simp only [rdW, hb1, hb2, cond_true, cond_false, Bool.not_true, Bool.not_false]; exact congrArg (Prod.mk _) (rdN_was (by assumption)))); ends_ret rfl (show some ((vI 0) : SV) = some ((vI (rdW (RS.mk b p e) lo hi).1) : SV) from by rw [hR]) (show some ([(7000, (.cells 94 [(cD (List.map encB (RS.b ((rdN (RS.mk b p e)).2)))), (cI (p : Int)), (cI 5), (cB true)]))] : Objs) = some ([(7000, (.cells 94 [(cD (List.map encB (RS.b ((rdW (RS.mk b p e) lo hi).2)))), (cI ((RS.at_ ((rdW (RS.mk b p e) lo hi).2)) : Int)), (cI (RS.e ((rdW (RS.mk b p e) lo hi).2))), (cB true)]))] : Objs) from by rw [hR]))
theorem w_RWithin (s : RS) (hs : RS.ok s) (lo : Int) (hi : Int) : Sat Try.prog 62 [(vL 7000 0), (vI lo), (vI hi)] [(7000, (.cells 94 [(cD (List.map encB (RS.b s))), (cI ((RS.at_ s) : Int)), (cI (RS.e s)), (cB true)]))] (vI (rdW s lo hi).1) [(7000, (.cells 94 [(cD (List.map encB (RS.b ((rdW s lo hi).2)))), (cI ((RS.at_ ((rdW s lo hi).2)) : Int)), (cI (RS.e ((rdW s lo hi).2))), (cB true)]))] := by
  obtain ⟨b, p, e⟩ := s
  exact w_RWithin0 b p e hs lo hi
theorem w_RText0 (b : List Int) (p : Nat) (e : Int) (hs : RS.ok (RS.mk b p e)) (m : Int) : Sat Try.prog 63 [(vL 7000 0), (vI m)] [(7000, (.cells 94 [(cD (List.map encB b)), (cI (p : Int)), (cI e), (cB true)]))] (vS (rdT (RS.mk b p e) m).1) [(7000, (.cells 94 [(cD (List.map encB (RS.b ((rdT (RS.mk b p e) m).2)))), (cI ((RS.at_ ((rdT (RS.mk b p e) m).2)) : Int)), (cI (RS.e ((rdT (RS.mk b p e) m).2))), (cB true)]))] := by
 refine sat_of_body tab_ok Try.func63 rfl (by kernel_rfl) (Nat.le_of_ble_eq_true rfl) rfl fun G => ?_
 refine awp_seq ?_
 refine rk boxes [] [0, 1, 4] [7000] ⟨43, [(0, (vL 7000 0)), (1, (vI m)), (4, (vS ⟨#[]⟩))], [(7000, (.cells 94 [(cD (List.map encB b)), (cI (p : Int)), (cI e), (cB true)]))], [7000]⟩ (by kernel_rfl) .n ?_
 refine peel_seq ?_
 refine awp_seq ?_
 refine awp_seq ?_
 refine rk boxes [⟨1, true, [(sc (.func (.func 65) #[] #[])), (vL 7000 0)], [(7000, (.cells 94 [(cD (List.map encB b)), (cI (p : Int)), (cI e), (cB true)]))], (vB false), []⟩] [0, 1, 4, 9] [7000] ⟨43, [(0, (vL 7000 0)), (1, (vI m)), (4, (vS ⟨#[]⟩)), (9, (vB false))], [(7000, (.cells 94 [(cD (List.map encB b)), (cI (p : Int)), (cI e), (cB true)]))], [7000]⟩ (by kernel_rfl) (.c (tri_call (w_dead b p e)) .n) ?_
 refine peel_seq ?_
 refine awp_false rfl ?_
 refine awp_skip ?_
 refine peel_seq ?_
 refine awp_seq ?_
 refine rk boxes [] [0, 1, 4, 5] [7000] ⟨43, [(0, (vL 7000 0)), (1, (vI m)), (4, (vS ⟨#[]⟩)), (5, (vI (p : Int)))], [(7000, (.cells 94 [(cD (List.map encB b)), (cI (p : Int)), (cI e), (cB true)]))], [7000]⟩ (by kernel_rfl) .n ?_
 refine peel_seq ?_
 refine awp_seq ?_
 refine rk boxes [⟨1, false, [(sc (.func (.func 78) #[] #[])), (vL 7000 0)], [(7000, (.cells 94 [(cD (List.map encB b)), (cI (p : Int)), (cI e), (cB true)]))], (vI (rdN (RS.mk b p e)).1), [(7000, (.cells 94 [(cD (List.map encB (RS.b ((rdN (RS.mk b p e)).2)))), (cI ((RS.at_ ((rdN (RS.mk b p e)).2)) : Int)), (cI (RS.e ((rdN (RS.mk b p e)).2))), (cB true)]))]⟩] [0, 1, 4, 5, 6] [7000] ⟨43, [(0, (vL 7000 0)), (1, (vI m)), (4, (vS ⟨#[]⟩)), (5, (vI (p : Int))), (6, (vI (rdN (RS.mk b p e)).1))], [(7000, (.cells 94 [(cD (List.map encB (RS.b ((rdN (RS.mk b p e)).2)))), (cI ((RS.at_ ((rdN (RS.mk b p e)).2)) : Int)), (cI (RS.e ((rdN (RS.mk b p e)).2))), (cB true)]))], [7000]⟩ (by kernel_rfl) (.c (tri_call (w_RNumber (RS.mk b p e) hs)) .n) ?_
 refine peel_seq ?_
 refine awp_seq ?_
 refine awp_seq ?_
 cases hb1 : ((RS.e ((rdN (RS.mk b p e)).2)) == 0) with
 | false =>
  have hb1p : (RS.e ((rdN (RS.mk b p e)).2)) ≠ 0 := by simpa using hb1
  refine rk boxes [⟨4, false, [(vI (RS.e ((rdN (RS.mk b p e)).2))), (vI 0)], [], (vB false), []⟩] [0, 4, 5, 6, 26] [7000] ⟨43, [(0, (vL 7000 0)), (4, (vS ⟨#[]⟩)), (5, (vI (p : Int))), (6, (vI (rdN (RS.mk b p e)).1)), (26, (vB false))], [(7000, (.cells 94 [(cD (List.map encB (RS.b ((rdN (RS.mk b p e)).2)))), (cI ((RS.at_ ((rdN (RS.mk b p e)).2)) : Int)), (cI (RS.e ((rdN (RS.mk b p e)).2))), (cB true)]))], [7000]⟩ (by kernel_rfl) (.c (tri_scalar_eq [(.int .i64 (RS.e ((rdN (RS.mk b p e)).2))), (.int .i64 0)] (.bool ((RS.e ((rdN (RS.mk b p e)).2)) == 0)) rfl rfl rfl (by kernel_rfl) (congrArg Value.bool hb1)) .n) ?_
  refine peel_seq ?_
  refine awp_false rfl ?_
  refine awp_skip ?_
  refine peel_seq ?_
  refine awp_seq ?_
  refine rk boxes [⟨2, true, [(sc (.func (.func 80) #[] #[])), (vL 7000 0), (vI (rdN (RS.mk b p e)).1)], [(7000, (.cells 94 [(cD (List.map encB (RS.b ((rdN (RS.mk b p e)).2)))), (cI ((RS.at_ ((rdN (RS.mk b p e)).2)) : Int)), (cI (RS.e ((rdN (RS.mk b p e)).2))), (cB true)]))], (vD (List.map encB ([]))), []⟩, ⟨3, false, [(vD (List.map encB ([])))], [], (vS (bstr ([]))), []⟩] [0, 4, 5, 7] [7000] ⟨43, [(0, (vL 7000 0)), (4, (vS ⟨#[]⟩)), (5, (vI (p : Int))), (7, (vS (bstr ([]))))], [(7000, (.cells 94 [(cD (List.map encB (RS.b ((rdN (RS.mk b p e)).2)))), (cI ((RS.at_ ((rdN (RS.mk b p e)).2)) : Int)), (cI (RS.e ((rdN (RS.mk b p e)).2))), (cB true)]))], [7000]⟩ (by kernel_rfl) (.c (tri_call (w_bytes_err (RS.b ((rdN (RS.mk b p e)).2)) (RS.at_ ((rdN (RS.mk b p e)).2)) (RS.e ((rdN (RS.mk b p e)).2)) ((rdN (RS.mk b p e)).1) hb1)) (.c (tri_bytes_str (e := 5) (by kernel_rfl) (by kernel_rfl) (by kernel_rfl)) .n)) ?_
  refine peel_seq ?_
  refine awp_seq ?_
  refine awp_seq ?_
  refine rk boxes [⟨4, false, [(vI (RS.e ((rdN (RS.mk b p e)).2))), (vI 0)], [], (vB true), []⟩] [0, 4, 5, 7, 37] [7000] ⟨43, [(0, (vL 7000 0)), (4, (vS ⟨#[]⟩)), (5, (vI (p : Int))), (7, (vS (bstr ([])))), (37, (vB true))], [(7000, (.cells 94 [(cD (List.map encB (RS.b ((rdN (RS.mk b p e)).2)))), (cI ((RS.at_ ((rdN (RS.mk b p e)).2)) : Int)), (cI (RS.e ((rdN (RS.mk b p e)).2))), (cB true)]))], [7000]⟩ (by kernel_rfl) (.c (tri_scalar_eq [(.int .i64 (RS.e ((rdN (RS.mk b p e)).2))), (.int .i64 0)] (.bool ((RS.e ((rdN (RS.mk b p e)).2)) != 0)) rfl rfl rfl (by kernel_rfl) (congrArg Value.bool (show ((RS.e ((rdN (RS.mk b p e)).2)) != 0) = true from by simpa using hb1))) .n) ?_
  refine peel_seq ?_
  refine awp_true rfl ?_
  refine awp_seq ?_
  refine rk boxes [] [4, 7] [7000] ⟨43, [(4, (vS ⟨#[]⟩)), (7, (vS (bstr ([]))))], [(7000, (.cells 94 [(cD (List.map encB (RS.b ((rdN (RS.mk b p e)).2)))), (cI (p : Int)), (cI (RS.e ((rdN (RS.mk b p e)).2))), (cB true)]))], [7000]⟩ (by kernel_rfl) .n ?_
  refine peel_seq ?_
  refine awp_seq ?_
  refine rk boxes [] [4, 7] [7000] ⟨43, [(4, (vS ⟨#[]⟩)), (7, (vS (bstr ([]))))], [(7000, (.cells 94 [(cD (List.map encB (RS.b ((rdN (RS.mk b p e)).2)))), (cI (p : Int)), (cI (RS.e ((rdN (RS.mk b p e)).2))), (cB true)]))], [7000]⟩ (by kernel_rfl) .n ?_
  refine peel_seq ?_
  refine awp_ret ?_
  refine peel_seq_ret ?_
  exact (have hR : (rdT (RS.mk b p e) m) = (⟨#[]⟩, RS.mk (RS.b ((rdN (RS.mk b p e)).2)) p (RS.e ((rdN (RS.mk b p e)).2))) := (by first | (simp only [rdT, hb1, cond_true, cond_false, Bool.not_true, Bool.not_false]; done) | (simp only [rdT, hb1, cond_true, cond_false, Bool.not_true, Bool.not_false]; rfl) | (simp only [rdT, hb1, cond_true, cond_false, Bool.not_true, Bool.not_false]; simp only [rdN_b]; done) | (simp only [rdT, hb1, cond_true, cond_false, Bool.not_true, Bool.not_false]; exact congrArg (Prod.mk _) (rdN_was (by assumption)))); ends_ret rfl (show some ((vS ⟨#[]⟩) : SV) = some ((vS (rdT (RS.mk b p e) m).1) : SV) from by rw [hR]) (show some ([(7000, (.cells 94 [(cD (List.map encB (RS.b ((rdN (RS.mk b p e)).2)))), (cI (p : Int)), (cI (RS.e ((rdN (RS.mk b p e)).2))), (cB true)]))] : Objs) = some ([(7000, (.cells 94 [(cD (List.map encB (RS.b ((rdT (RS.mk b p e) m).2)))), (cI ((RS.at_ ((rdT (RS.mk b p e) m).2)) : Int)), (cI (RS.e ((rdT (RS.mk b p e) m).2))), (cB true)]))] : Objs) from by rw [hR]))
 | true =>
  have hb1p : (RS.e ((rdN (RS.mk b p e)).2)) = 0 := by simpa using hb1
  refine rk boxes [⟨4, false, [(vI (RS.e ((rdN (RS.mk b p e)).2))), (vI 0)], [], (vB true), []⟩, ⟨8, false, [(vI m), (vI 0)], [], (vI (max m 0)), []⟩] [0, 4, 5, 6, 26] [7000] ⟨43, [(0, (vL 7000 0)), (4, (vS ⟨#[]⟩)), (5, (vI (p : Int))), (6, (vI (rdN (RS.mk b p e)).1)), (26, (vB (decide ((rdN (RS.mk b p e)).1 > (max m 0)))))], [(7000, (.cells 94 [(cD (List.map encB (RS.b ((rdN (RS.mk b p e)).2)))), (cI ((RS.at_ ((rdN (RS.mk b p e)).2)) : Int)), (cI (RS.e ((rdN (RS.mk b p e)).2))), (cB true)]))], [7000]⟩ (by kernel_rfl) (.c (tri_scalar_eq [(.int .i64 (RS.e ((rdN (RS.mk b p e)).2))), (.int .i64 0)] (.bool ((RS.e ((rdN (RS.mk b p e)).2)) == 0)) rfl rfl rfl (by kernel_rfl) (congrArg Value.bool hb1)) (.c (tri_max) .n)) ?_
  refine peel_seq ?_
  refine awp_cond (b := (decide ((rdN (RS.mk b p e)).1 > (max m 0)))) rfl (fun hc2 => ?_) (fun hc2 => ?_)
  ·skip
   have hc2p := of_decide_eq_true hc2
   refine rk boxes [⟨1, false, [(sc (.func (.func 79) #[] #[])), (vL 7000 0), (vI 4)], [(7000, (.cells 94 [(cD (List.map encB (RS.b ((rdN (RS.mk b p e)).2)))), (cI ((RS.at_ ((rdN (RS.mk b p e)).2)) : Int)), (cI (RS.e ((rdN (RS.mk b p e)).2))), (cB true)]))], (.tup []), [(7000, (.cells 94 [(cD (List.map encB (RS.b ((rdN (RS.mk b p e)).2)))), (cI ((RS.at_ ((rdN (RS.mk b p e)).2)) : Int)), (cI 4), (cB true)]))]⟩] [0, 4, 5, 6] [7000] ⟨43, [(0, (vL 7000 0)), (4, (vS ⟨#[]⟩)), (5, (vI (p : Int))), (6, (vI (rdN (RS.mk b p e)).1))], [(7000, (.cells 94 [(cD (List.map encB (RS.b ((rdN (RS.mk b p e)).2)))), (cI ((RS.at_ ((rdN (RS.mk b p e)).2)) : Int)), (cI 4), (cB true)]))], [7000]⟩ (by kernel_rfl) (.c (tri_call (w_fail (RS.b ((rdN (RS.mk b p e)).2)) (RS.at_ ((rdN (RS.mk b p e)).2)) (RS.e ((rdN (RS.mk b p e)).2)) 4 hb1)) .n) ?_
   refine peel_seq ?_
   refine awp_seq ?_
   refine rk boxes [⟨2, true, [(sc (.func (.func 80) #[] #[])), (vL 7000 0), (vI (rdN (RS.mk b p e)).1)], [(7000, (.cells 94 [(cD (List.map encB (RS.b ((rdN (RS.mk b p e)).2)))), (cI ((RS.at_ ((rdN (RS.mk b p e)).2)) : Int)), (cI 4), (cB true)]))], (vD (List.map encB ([]))), []⟩, ⟨3, false, [(vD (List.map encB ([])))], [], (vS (bstr ([]))), []⟩] [0, 4, 5, 7] [7000] ⟨43, [(0, (vL 7000 0)), (4, (vS ⟨#[]⟩)), (5, (vI (p : Int))), (7, (vS (bstr ([]))))], [(7000, (.cells 94 [(cD (List.map encB (RS.b ((rdN (RS.mk b p e)).2)))), (cI ((RS.at_ ((rdN (RS.mk b p e)).2)) : Int)), (cI 4), (cB true)]))], [7000]⟩ (by kernel_rfl) (.c (tri_call (w_bytes_err (RS.b ((rdN (RS.mk b p e)).2)) (RS.at_ ((rdN (RS.mk b p e)).2)) 4 ((rdN (RS.mk b p e)).1) rfl)) (.c (tri_bytes_str (e := 5) (by kernel_rfl) (by kernel_rfl) (by kernel_rfl)) .n)) ?_
   refine peel_seq ?_
   refine awp_seq ?_
   refine awp_seq ?_
   refine rk boxes [] [0, 4, 5, 7, 37] [7000] ⟨43, [(0, (vL 7000 0)), (4, (vS ⟨#[]⟩)), (5, (vI (p : Int))), (7, (vS (bstr ([])))), (37, (vB true))], [(7000, (.cells 94 [(cD (List.map encB (RS.b ((rdN (RS.mk b p e)).2)))), (cI ((RS.at_ ((rdN (RS.mk b p e)).2)) : Int)), (cI 4), (cB true)]))], [7000]⟩ (by kernel_rfl) .n ?_
   refine peel_seq ?_
   refine awp_true rfl ?_
   refine awp_seq ?_
   refine rk boxes [] [4, 7] [7000] ⟨43, [(4, (vS ⟨#[]⟩)), (7, (vS (bstr ([]))))], [(7000, (.cells 94 [(cD (List.map encB (RS.b ((rdN (RS.mk b p e)).2)))), (cI (p : Int)), (cI 4), (cB true)]))], [7000]⟩ (by kernel_rfl) .n ?_
   refine peel_seq ?_
   refine awp_seq ?_
   refine rk boxes [] [4, 7] [7000] ⟨43, [(4, (vS ⟨#[]⟩)), (7, (vS (bstr ([]))))], [(7000, (.cells 94 [(cD (List.map encB (RS.b ((rdN (RS.mk b p e)).2)))), (cI (p : Int)), (cI 4), (cB true)]))], [7000]⟩ (by kernel_rfl) .n ?_
   refine peel_seq ?_
   refine awp_ret ?_
   refine peel_seq_ret ?_
   exact (have hR : (rdT (RS.mk b p e) m) = (⟨#[]⟩, RS.mk (RS.b ((rdN (RS.mk b p e)).2)) p 4) := (by first | (simp only [rdT, hb1, hc2, cond_true, cond_false, Bool.not_true, Bool.not_false]; done) | (simp only [rdT, hb1, hc2, cond_true, cond_false, Bool.not_true, Bool.not_false]; rfl) | (simp only [rdT, hb1, hc2, cond_true, cond_false, Bool.not_true, Bool.not_false]; simp only [rdN_b]; done) | (simp only [rdT, hb1, hc2, cond_true, cond_false, Bool.not_true, Bool.not_false]; exact congrArg (Prod.mk _) (rdN_was (by assumption)))); ends_ret rfl (show some ((vS ⟨#[]⟩) : SV) = some ((vS (rdT (RS.mk b p e) m).1) : SV) from by rw [hR]) (show some ([(7000, (.cells 94 [(cD (List.map encB (RS.b ((rdN (RS.mk b p e)).2)))), (cI (p : Int)), (cI 4), (cB true)]))] : Objs) = some ([(7000, (.cells 94 [(cD (List.map encB (RS.b ((rdT (RS.mk b p e) m).2)))), (cI ((RS.at_ ((rdT (RS.mk b p e) m).2)) : Int)), (cI (RS.e ((rdT (RS.mk b p e) m).2))), (cB true)]))] : Objs) from by rw [hR]))
  ·skip
   have hc2p := of_decide_eq_false hc2
   refine awp_skip ?_
   refine peel_seq ?_
   refine awp_seq ?_
   cases hb3 : (decide ((rdN (RS.mk b p e)).1 > ((List.length (RS.b ((rdN (RS.mk b p e)).2)) : Int) - ((RS.at_ ((rdN (RS.mk b p e)).2)) : Int)))) with
   | false =>
    have hb3p := of_decide_eq_false hb3
    refine rk boxes [⟨2, false, [(sc (.func (.func 80) #[] #[])), (vL 7000 0), (vI (rdN (RS.mk b p e)).1)], [(7000, (.cells 94 [(cD (List.map encB (RS.b ((rdN (RS.mk b p e)).2)))), (cI ((RS.at_ ((rdN (RS.mk b p e)).2)) : Int)), (cI (RS.e ((rdN (RS.mk b p e)).2))), (cB true)]))], (vD (List.map encB (List.drop (RS.at_ ((rdN (RS.mk b p e)).2)) (List.take ((RS.at_ ((rdN (RS.mk b p e)).2)) + Int.toNat ((rdN (RS.mk b p e)).1)) (RS.b ((rdN (RS.mk b p e)).2)))))), [(7000, (.cells 94 [(cD (List.map encB (RS.b ((rdN (RS.mk b p e)).2)))), (cI ((((RS.at_ ((rdN (RS.mk b p e)).2)) + Int.toNat ((rdN (RS.mk b p e)).1)) : Nat) : Int)), (cI (RS.e ((rdN (RS.mk b p e)).2))), (cB true)]))]⟩, ⟨3, false, [(vD (List.map encB (List.drop (RS.at_ ((rdN (RS.mk b p e)).2)) (List.take ((RS.at_ ((rdN (RS.mk b p e)).2)) + Int.toNat ((rdN (RS.mk b p e)).1)) (RS.b ((rdN (RS.mk b p e)).2))))))], [], (vS (bstr (List.drop (RS.at_ ((rdN (RS.mk b p e)).2)) (List.take ((RS.at_ ((rdN (RS.mk b p e)).2)) + Int.toNat ((rdN (RS.mk b p e)).1)) (RS.b ((rdN (RS.mk b p e)).2)))))), []⟩] [0, 4, 5, 7] [7000] ⟨43, [(0, (vL 7000 0)), (4, (vS ⟨#[]⟩)), (5, (vI (p : Int))), (7, (vS (bstr (List.drop (RS.at_ ((rdN (RS.mk b p e)).2)) (List.take ((RS.at_ ((rdN (RS.mk b p e)).2)) + Int.toNat ((rdN (RS.mk b p e)).1)) (RS.b ((rdN (RS.mk b p e)).2)))))))], [(7000, (.cells 94 [(cD (List.map encB (RS.b ((rdN (RS.mk b p e)).2)))), (cI ((((RS.at_ ((rdN (RS.mk b p e)).2)) + Int.toNat ((rdN (RS.mk b p e)).1)) : Nat) : Int)), (cI (RS.e ((rdN (RS.mk b p e)).2))), (cB true)]))], [7000]⟩ (by kernel_rfl) (.c (tri_call (w_bytes_ok (RS.b ((rdN (RS.mk b p e)).2)) (RS.at_ ((rdN (RS.mk b p e)).2)) (RS.e ((rdN (RS.mk b p e)).2)) ((rdN (RS.mk b p e)).1) hb1 hb3 (by (have hn0 := rdN_nonneg hs); (have hno := rdN_ok hs); (have hnl := hno.le); (have hnf := hno.few); (try simp only at *); omega) (by (have hn0 := rdN_nonneg hs); (have hno := rdN_ok hs); (have hnl := hno.le); (have hnf := hno.few); (try simp only at *); omega) (by (have hn0 := rdN_nonneg hs); (have hno := rdN_ok hs); (have hnl := hno.le); (have hnf := hno.few); (try simp only at *); omega))) (.c (tri_bytes_str (e := 5) (by kernel_rfl) (by kernel_rfl) (by kernel_rfl)) .n)) ?_
    refine peel_seq ?_
    refine awp_seq ?_
    refine awp_seq ?_
    refine rk boxes [⟨4, false, [(vI (RS.e ((rdN (RS.mk b p e)).2))), (vI 0)], [], (vB false), []⟩] [0, 4, 5, 7, 37] [7000] ⟨43, [(0, (vL 7000 0)), (4, (vS ⟨#[]⟩)), (5, (vI (p : Int))), (7, (vS (bstr (List.drop (RS.at_ ((rdN (RS.mk b p e)).2)) (List.take ((RS.at_ ((rdN (RS.mk b p e)).2)) + Int.toNat ((rdN (RS.mk b p e)).1)) (RS.b ((rdN (RS.mk b p e)).2))))))), (37, (vB false))], [(7000, (.cells 94 [(cD (List.map encB (RS.b ((rdN (RS.mk b p e)).2)))), (cI ((((RS.at_ ((rdN (RS.mk b p e)).2)) + Int.toNat ((rdN (RS.mk b p e)).1)) : Nat) : Int)), (cI (RS.e ((rdN (RS.mk b p e)).2))), (cB true)]))], [7000]⟩ (by kernel_rfl) (.c (tri_scalar_eq [(.int .i64 (RS.e ((rdN (RS.mk b p e)).2))), (.int .i64 0)] (.bool ((RS.e ((rdN (RS.mk b p e)).2)) != 0)) rfl rfl rfl (by kernel_rfl) (congrArg Value.bool (show ((RS.e ((rdN (RS.mk b p e)).2)) != 0) = false from by simpa using hb1))) .n) ?_
    refine peel_seq ?_
    refine awp_false rfl ?_
    refine awp_skip ?_
    refine peel_seq ?_
    refine awp_seq ?_
    refine rk boxes [] [4] [7000] ⟨43, [(4, (vS (bstr (List.drop (RS.at_ ((rdN (RS.mk b p e)).2)) (List.take ((RS.at_ ((rdN (RS.mk b p e)).2)) + Int.toNat ((rdN (RS.mk b p e)).1)) (RS.b ((rdN (RS.mk b p e)).2)))))))], [(7000, (.cells 94 [(cD (List.map encB (RS.b ((rdN (RS.mk b p e)).2)))), (cI ((((RS.at_ ((rdN (RS.mk b p e)).2)) + Int.toNat ((rdN (RS.mk b p e)).1)) : Nat) : Int)), (cI (RS.e ((rdN (RS.mk b p e)).2))), (cB true)]))], [7000]⟩ (by kernel_rfl) .n ?_
    refine peel_seq ?_
    refine awp_ret ?_
    exact (have hR : (rdT (RS.mk b p e) m) = ((bstr (List.drop (RS.at_ ((rdN (RS.mk b p e)).2)) (List.take ((RS.at_ ((rdN (RS.mk b p e)).2)) + Int.toNat ((rdN (RS.mk b p e)).1)) (RS.b ((rdN (RS.mk b p e)).2))))), RS.mk (RS.b ((rdN (RS.mk b p e)).2)) ((RS.at_ ((rdN (RS.mk b p e)).2)) + Int.toNat ((rdN (RS.mk b p e)).1)) (RS.e ((rdN (RS.mk b p e)).2))) := (by first | (simp only [rdT, hb1, hb3, hc2, cond_true, cond_false, Bool.not_true, Bool.not_false]; done) | (simp only [rdT, hb1, hb3, hc2, cond_true, cond_false, Bool.not_true, Bool.not_false]; rfl) | (simp only [rdT, hb1, hb3, hc2, cond_true, cond_false, Bool.not_true, Bool.not_false]; simp only [rdN_b]; done) | (simp only [rdT, hb1, hb3, hc2, cond_true, cond_false, Bool.not_true, Bool.not_false]; exact congrArg (Prod.mk _) (rdN_was (by assumption)))); ends_ret rfl (show some ((vS (bstr (List.drop (RS.at_ ((rdN (RS.mk b p e)).2)) (List.take ((RS.at_ ((rdN (RS.mk b p e)).2)) + Int.toNat ((rdN (RS.mk b p e)).1)) (RS.b ((rdN (RS.mk b p e)).2)))))) : SV) = some ((vS (rdT (RS.mk b p e) m).1) : SV) from by rw [hR]) (show some ([(7000, (.cells 94 [(cD (List.map encB (RS.b ((rdN (RS.mk b p e)).2)))), (cI ((((RS.at_ ((rdN (RS.mk b p e)).2)) + Int.toNat ((rdN (RS.mk b p e)).1)) : Nat) : Int)), (cI (RS.e ((rdN (RS.mk b p e)).2))), (cB true)]))] : Objs) = some ([(7000, (.cells 94 [(cD (List.map encB (RS.b ((rdT (RS.mk b p e) m).2)))), (cI ((RS.at_ ((rdT (RS.mk b p e) m).2)) : Int)), (cI (RS.e ((rdT (RS.mk b p e) m).2))), (cB true)]))] : Objs) from by rw [hR]))
   | true =>
    have hb3p := of_decide_eq_true hb3
    refine rk boxes [⟨2, false, [(sc (.func (.func 80) #[] #[])), (vL 7000 0), (vI (rdN (RS.mk b p e)).1)], [(7000, (.cells 94 [(cD (List.map encB (RS.b ((rdN (RS.mk b p e)).2)))), (cI ((RS.at_ ((rdN (RS.mk b p e)).2)) : Int)), (cI (RS.e ((rdN (RS.mk b p e)).2))), (cB true)]))], (vD (List.map encB ([]))), [(7000, (.cells 94 [(cD (List.map encB (RS.b ((rdN (RS.mk b p e)).2)))), (cI ((RS.at_ ((rdN (RS.mk b p e)).2)) : Int)), (cI 2), (cB true)]))]⟩, ⟨3, false, [(vD (List.map encB ([])))], [], (vS (bstr ([]))), []⟩] [0, 4, 5, 7] [7000] ⟨43, [(0, (vL 7000 0)), (4, (vS ⟨#[]⟩)), (5, (vI (p : Int))), (7, (vS (bstr ([]))))], [(7000, (.cells 94 [(cD (List.map encB (RS.b ((rdN (RS.mk b p e)).2)))), (cI ((RS.at_ ((rdN (RS.mk b p e)).2)) : Int)), (cI 2), (cB true)]))], [7000]⟩ (by kernel_rfl) (.c (tri_call (w_bytes_short (RS.b ((rdN (RS.mk b p e)).2)) (RS.at_ ((rdN (RS.mk b p e)).2)) (RS.e ((rdN (RS.mk b p e)).2)) ((rdN (RS.mk b p e)).1) hb1 hb3 (by (have hn0 := rdN_nonneg hs); (have hno := rdN_ok hs); (have hnl := hno.le); (have hnf := hno.few); (try simp only at *); omega) (by (have hn0 := rdN_nonneg hs); (have hno := rdN_ok hs); (have hnl := hno.le); (have hnf := hno.few); (try simp only at *); omega))) (.c (tri_bytes_str (e := 5) (by kernel_rfl) (by kernel_rfl) (by kernel_rfl)) .n)) ?_
    refine peel_seq ?_
    refine awp_seq ?_
    refine awp_seq ?_
    refine rk boxes [] [0, 4, 5, 7, 37] [7000] ⟨43, [(0, (vL 7000 0)), (4, (vS ⟨#[]⟩)), (5, (vI (p : Int))), (7, (vS (bstr ([])))), (37, (vB true))], [(7000, (.cells 94 [(cD (List.map encB (RS.b ((rdN (RS.mk b p e)).2)))), (cI ((RS.at_ ((rdN (RS.mk b p e)).2)) : Int)), (cI 2), (cB true)]))], [7000]⟩ (by kernel_rfl) .n ?_
    refine peel_seq ?_
    refine awp_true rfl ?_
    refine awp_seq ?_
    refine rk boxes [] [4, 7] [7000] ⟨43, [(4, (vS ⟨#[]⟩)), (7, (vS (bstr ([]))))], [(7000, (.cells 94 [(cD (List.map encB (RS.b ((rdN (RS.mk b p e)).2)))), (cI (p : Int)), (cI 2), (cB true)]))], [7000]⟩ (by kernel_rfl) .n ?_
    refine peel_seq ?_
    refine awp_seq ?_
    refine rk boxes [] [4, 7] [7000] ⟨43, [(4, (vS ⟨#[]⟩)), (7, (vS (bstr ([]))))], [(7000, (.cells 94 [(cD (List.map encB (RS.b ((rdN (RS.mk b p e)).2)))), (cI (p : Int)), (cI 2), (cB true)]))], [7000]⟩ (by kernel_rfl) .n ?_
    refine peel_seq ?_
    refine awp_ret ?_
    refine peel_seq_ret ?_
    exact (have hR : (rdT (RS.mk b p e) m) = (⟨#[]⟩, RS.mk (RS.b ((rdN (RS.mk b p e)).2)) p 2) := (by first | (simp only [rdT, hb1, hb3, hc2, cond_true, cond_false, Bool.not_true, Bool.not_false]; done) | (simp only [rdT, hb1, hb3, hc2, cond_true, cond_false, Bool.not_true, Bool.not_false]; rfl) | (simp only [rdT, hb1, hb3, hc2, cond_true, cond_false, Bool.not_true, Bool.not_false]; simp only [rdN_b]; done) | (simp only [rdT, hb1, hb3, hc2, cond_true, cond_false, Bool.not_true, Bool.not_false]; exact congrArg (Prod.mk _) (rdN_was (by assumption)))); ends_ret rfl (show some ((vS ⟨#[]⟩) : SV) = some ((vS (rdT (RS.mk b p e) m).1) : SV) from by rw [hR]) (show some ([(7000, (.cells 94 [(cD (List.map encB (RS.b ((rdN (RS.mk b p e)).2)))), (cI (p : Int)), (cI 2), (cB true)]))] : Objs) = some ([(7000, (.cells 94 [(cD (List.map encB (RS.b ((rdT (RS.mk b p e) m).2)))), (cI ((RS.at_ ((rdT (RS.mk b p e) m).2)) : Int)), (cI (RS.e ((rdT (RS.mk b p e) m).2))), (cB true)]))] : Objs) from by rw [hR]))
theorem w_RText (s : RS) (hs : RS.ok s) (m : Int) : Sat Try.prog 63 [(vL 7000 0), (vI m)] [(7000, (.cells 94 [(cD (List.map encB (RS.b s))), (cI ((RS.at_ s) : Int)), (cI (RS.e s)), (cB true)]))] (vS (rdT s m).1) [(7000, (.cells 94 [(cD (List.map encB (RS.b ((rdT s m).2)))), (cI ((RS.at_ ((rdT s m).2)) : Int)), (cI (RS.e ((rdT s m).2))), (cB true)]))] := by
  obtain ⟨b, p, e⟩ := s
  exact w_RText0 b p e hs m
theorem w_RFlag0 (b : List Int) (p : Nat) (e : Int) (hs : RS.ok (RS.mk b p e)) : Sat Try.prog 64 [(vL 7000 0)] [(7000, (.cells 94 [(cD (List.map encB b)), (cI (p : Int)), (cI e), (cB true)]))] (vB (rdF (RS.mk b p e)).1) [(7000, (.cells 94 [(cD (List.map encB (RS.b ((rdF (RS.mk b p e)).2)))), (cI ((RS.at_ ((rdF (RS.mk b p e)).2)) : Int)), (cI (RS.e ((rdF (RS.mk b p e)).2))), (cB true)]))] := by
 refine sat_of_body tab_ok Try.func64 rfl (by kernel_rfl) (Nat.le_of_ble_eq_true rfl) rfl fun G => ?_
 refine awp_seq ?_
 refine rk boxes [] [0, 2] [7000] ⟨37, [(0, (vL 7000 0)), (2, (vB false))], [(7000, (.cells 94 [(cD (List.map encB b)), (cI (p : Int)), (cI e), (cB true)]))], [7000]⟩ (by kernel_rfl) .n ?_
 refine peel_seq ?_
 refine awp_seq ?_
 refine awp_seq ?_
 refine rk boxes [⟨1, true, [(sc (.func (.func 65) #[] #[])), (vL 7000 0)], [(7000, (.cells 94 [(cD (List.map encB b)), (cI (p : Int)), (cI e), (cB true)]))], (vB false), []⟩] [0, 2, 6] [7000] ⟨37, [(0, (vL 7000 0)), (2, (vB false)), (6, (vB false))], [(7000, (.cells 94 [(cD (List.map encB b)), (cI (p : Int)), (cI e), (cB true)]))], [7000]⟩ (by kernel_rfl) (.c (tri_call (w_dead b p e)) .n) ?_
 refine peel_seq ?_
 refine awp_false rfl ?_
 refine awp_skip ?_
 refine peel_seq ?_
 refine awp_seq ?_
 refine rk boxes [] [0, 2, 3] [7000] ⟨37, [(0, (vL 7000 0)), (2, (vB false)), (3, (vI (p : Int)))], [(7000, (.cells 94 [(cD (List.map encB b)), (cI (p : Int)), (cI e), (cB true)]))], [7000]⟩ (by kernel_rfl) .n ?_
 refine peel_seq ?_
 refine awp_seq ?_
 refine rk boxes [⟨1, false, [(sc (.func (.func 78) #[] #[])), (vL 7000 0)], [(7000, (.cells 94 [(cD (List.map encB b)), (cI (p : Int)), (cI e), (cB true)]))], (vI (rdN (RS.mk b p e)).1), [(7000, (.cells 94 [(cD (List.map encB (RS.b ((rdN (RS.mk b p e)).2)))), (cI ((RS.at_ ((rdN (RS.mk b p e)).2)) : Int)), (cI (RS.e ((rdN (RS.mk b p e)).2))), (cB true)]))]⟩] [0, 2, 3, 4] [7000] ⟨37, [(0, (vL 7000 0)), (2, (vB false)), (3, (vI (p : Int))), (4, (vI (rdN (RS.mk b p e)).1))], [(7000, (.cells 94 [(cD (List.map encB (RS.b ((rdN (RS.mk b p e)).2)))), (cI ((RS.at_ ((rdN (RS.mk b p e)).2)) : Int)), (cI (RS.e ((rdN (RS.mk b p e)).2))), (cB true)]))], [7000]⟩ (by kernel_rfl) (.c (tri_call (w_RNumber (RS.mk b p e) hs)) .n) ?_
 refine peel_seq ?_
 refine awp_seq ?_
 refine awp_seq ?_
 cases hb1 : ((RS.e ((rdN (RS.mk b p e)).2)) == 0) with
 | false =>
  have hb1p : (RS.e ((rdN (RS.mk b p e)).2)) ≠ 0 := by simpa using hb1
  refine rk boxes [⟨4, false, [(vI (RS.e ((rdN (RS.mk b p e)).2))), (vI 0)], [], (vB false), []⟩] [0, 2, 3, 4, 21] [7000] ⟨37, [(0, (vL 7000 0)), (2, (vB false)), (3, (vI (p : Int))), (4, (vI (rdN (RS.mk b p e)).1)), (21, (vB false))], [(7000, (.cells 94 [(cD (List.map encB (RS.b ((rdN (RS.mk b p e)).2)))), (cI ((RS.at_ ((rdN (RS.mk b p e)).2)) : Int)), (cI (RS.e ((rdN (RS.mk b p e)).2))), (cB true)]))], [7000]⟩ (by kernel_rfl) (.c (tri_scalar_eq [(.int .i64 (RS.e ((rdN (RS.mk b p e)).2))), (.int .i64 0)] (.bool ((RS.e ((rdN (RS.mk b p e)).2)) == 0)) rfl rfl rfl (by kernel_rfl) (congrArg Value.bool hb1)) .n) ?_
  refine peel_seq ?_
  refine awp_false rfl ?_
  refine awp_skip ?_
  refine peel_seq ?_
  refine awp_seq ?_
  refine rk boxes [⟨4, false, [(vI (RS.e ((rdN (RS.mk b p e)).2))), (vI 0)], [], (vB false), []⟩] [2] [7000] ⟨37, [(2, (vB false))], [(7000, (.cells 94 [(cD (List.map encB (RS.b ((rdN (RS.mk b p e)).2)))), (cI ((RS.at_ ((rdN (RS.mk b p e)).2)) : Int)), (cI (RS.e ((rdN (RS.mk b p e)).2))), (cB true)]))], [7000]⟩ (by kernel_rfl) (.c (tri_scalar_eq [(.int .i64 (RS.e ((rdN (RS.mk b p e)).2))), (.int .i64 0)] (.bool ((RS.e ((rdN (RS.mk b p e)).2)) == 0)) rfl rfl rfl (by kernel_rfl) (congrArg Value.bool hb1)) .n) ?_
  refine peel_seq ?_
  refine awp_ret ?_
  exact (have hR : (rdF (RS.mk b p e)) = (false, RS.mk (RS.b ((rdN (RS.mk b p e)).2)) (RS.at_ ((rdN (RS.mk b p e)).2)) (RS.e ((rdN (RS.mk b p e)).2))) := (by first | (simp only [rdF, hb1, cond_true, cond_false, Bool.not_true, Bool.not_false]; done) | (simp only [rdF, hb1, cond_true, cond_false, Bool.not_true, Bool.not_false]; rfl) | (simp only [rdF, hb1, cond_true, cond_false, Bool.not_true, Bool.not_false]; simp only [rdN_b]; done) | (simp only [rdF, hb1, cond_true, cond_false, Bool.not_true, Bool.not_false]; exact congrArg (Prod.mk _) (rdN_was (by assumption)))); ends_ret rfl (show some ((vB false) : SV) = some ((vB (rdF (RS.mk b p e)).1) : SV) from by rw [hR]) (show some ([(7000, (.cells 94 [(cD (List.map encB (RS.b ((rdN (RS.mk b p e)).2)))), (cI ((RS.at_ ((rdN (RS.mk b p e)).2)) : Int)), (cI (RS.e ((rdN (RS.mk b p e)).2))), (cB true)]))] : Objs) = some ([(7000, (.cells 94 [(cD (List.map encB (RS.b ((rdF (RS.mk b p e)).2)))), (cI ((RS.at_ ((rdF (RS.mk b p e)).2)) : Int)), (cI (RS.e ((rdF (RS.mk b p e)).2))), (cB true)]))] : Objs) from by rw [hR]))
 | true =>
  have hb1p : (RS.e ((rdN (RS.mk b p e)).2)) = 0 := by simpa using hb1
  refine rk boxes [⟨4, false, [(vI (RS.e ((rdN (RS.mk b p e)).2))), (vI 0)], [], (vB true), []⟩] [0, 2, 3, 4, 21] [7000] ⟨37, [(0, (vL 7000 0)), (2, (vB false)), (3, (vI (p : Int))), (4, (vI (rdN (RS.mk b p e)).1)), (21, (vB (decide ((rdN (RS.mk b p e)).1 > 1))))], [(7000, (.cells 94 [(cD (List.map encB (RS.b ((rdN (RS.mk b p e)).2)))), (cI ((RS.at_ ((rdN (RS.mk b p e)).2)) : Int)), (cI (RS.e ((rdN (RS.mk b p e)).2))), (cB true)]))], [7000]⟩ (by kernel_rfl) (.c (tri_scalar_eq [(.int .i64 (RS.e ((rdN (RS.mk b p e)).2))), (.int .i64 0)] (.bool ((RS.e ((rdN (RS.mk b p e)).2)) == 0)) rfl rfl rfl (by kernel_rfl) (congrArg Value.bool hb1)) .n) ?_
  refine peel_seq ?_
  refine awp_cond (b := (decide ((rdN (RS.mk b p e)).1 > 1))) rfl (fun hc2 => ?_) (fun hc2 => ?_)
  ·skip
   have hc2p := of_decide_eq_true hc2
   refine awp_seq ?_
   refine rk boxes [] [0, 2, 4] [7000] ⟨37, [(0, (vL 7000 0)), (2, (vB false)), (4, (vI (rdN (RS.mk b p e)).1))], [(7000, (.cells 94 [(cD (List.map encB (RS.b ((rdN (RS.mk b p e)).2)))), (cI (p : Int)), (cI (RS.e ((rdN (RS.mk b p e)).2))), (cB true)]))], [7000]⟩ (by kernel_rfl) .n ?_
   refine peel_seq ?_
   refine rk boxes [⟨1, false, [(sc (.func (.func 79) #[] #[])), (vL 7000 0), (vI 11)], [(7000, (.cells 94 [(cD (List.map encB (RS.b ((rdN (RS.mk b p e)).2)))), (cI (p : Int)), (cI (RS.e ((rdN (RS.mk b p e)).2))), (cB true)]))], (.tup []), [(7000, (.cells 94 [(cD (List.map encB (RS.b ((rdN (RS.mk b p e)).2)))), (cI (p : Int)), (cI 11), (cB true)]))]⟩] [0, 2, 4] [7000] ⟨37, [(0, (vL 7000 0)), (2, (vB false)), (4, (vI (rdN (RS.mk b p e)).1))], [(7000, (.cells 94 [(cD (List.map encB (RS.b ((rdN (RS.mk b p e)).2)))), (cI (p : Int)), (cI 11), (cB true)]))], [7000]⟩ (by kernel_rfl) (.c (tri_call (w_fail (RS.b ((rdN (RS.mk b p e)).2)) p (RS.e ((rdN (RS.mk b p e)).2)) 11 hb1)) .n) ?_
   refine peel_seq ?_
   refine awp_seq ?_
   refine rk boxes [] [2] [7000] ⟨37, [(2, (vB false))], [(7000, (.cells 94 [(cD (List.map encB (RS.b ((rdN (RS.mk b p e)).2)))), (cI (p : Int)), (cI 11), (cB true)]))], [7000]⟩ (by kernel_rfl) .n ?_
   refine peel_seq ?_
   refine awp_ret ?_
   exact (have hR : (rdF (RS.mk b p e)) = (false, RS.mk (RS.b ((rdN (RS.mk b p e)).2)) p 11) := (by first | (simp only [rdF, hb1, hc2, cond_true, cond_false, Bool.not_true, Bool.not_false]; done) | (simp only [rdF, hb1, hc2, cond_true, cond_false, Bool.not_true, Bool.not_false]; rfl) | (simp only [rdF, hb1, hc2, cond_true, cond_false, Bool.not_true, Bool.not_false]; simp only [rdN_b]; done) | (simp only [rdF, hb1, hc2, cond_true, cond_false, Bool.not_true, Bool.not_false]; exact congrArg (Prod.mk _) (rdN_was (by assumption)))); ends_ret rfl (show some ((vB false) : SV) = some ((vB (rdF (RS.mk b p e)).1) : SV) from by rw [hR]) (show some ([(7000, (.cells 94 [(cD (List.map encB (RS.b ((rdN (RS.mk b p e)).2)))), (cI (p : Int)), (cI 11), (cB true)]))] : Objs) = some ([(7000, (.cells 94 [(cD (List.map encB (RS.b ((rdF (RS.mk b p e)).2)))), (cI ((RS.at_ ((rdF (RS.mk b p e)).2)) : Int)), (cI (RS.e ((rdF (RS.mk b p e)).2))), (cB true)]))] : Objs) from by rw [hR]))
  ·skip
   have hc2p := of_decide_eq_false hc2
   refine awp_skip ?_
   refine peel_seq ?_
   refine awp_seq ?_
   refine rk boxes [⟨4, false, [(vI (RS.e ((rdN (RS.mk b p e)).2))), (vI 0)], [], (vB true), []⟩] [2] [7000] ⟨37, [(2, (vB ((rdN (RS.mk b p e)).1 == 1)))], [(7000, (.cells 94 [(cD (List.map encB (RS.b ((rdN (RS.mk b p e)).2)))), (cI ((RS.at_ ((rdN (RS.mk b p e)).2)) : Int)), (cI (RS.e ((rdN (RS.mk b p e)).2))), (cB true)]))], [7000]⟩ (by kernel_rfl) (.c (tri_scalar_eq [(.int .i64 (RS.e ((rdN (RS.mk b p e)).2))), (.int .i64 0)] (.bool ((RS.e ((rdN (RS.mk b p e)).2)) == 0)) rfl rfl rfl (by kernel_rfl) (congrArg Value.bool hb1)) .n) ?_
   refine peel_seq ?_
   refine awp_ret ?_
   exact (have hR : (rdF (RS.mk b p e)) = (((rdN (RS.mk b p e)).1 == 1), RS.mk (RS.b ((rdN (RS.mk b p e)).2)) (RS.at_ ((rdN (RS.mk b p e)).2)) (RS.e ((rdN (RS.mk b p e)).2))) := (by first | (simp only [rdF, hb1, hc2, cond_true, cond_false, Bool.not_true, Bool.not_false]; done) | (simp only [rdF, hb1, hc2, cond_true, cond_false, Bool.not_true, Bool.not_false]; rfl) | (simp only [rdF, hb1, hc2, cond_true, cond_false, Bool.not_true, Bool.not_false]; simp only [rdN_b]; done) | (simp only [rdF, hb1, hc2, cond_true, cond_false, Bool.not_true, Bool.not_false]; exact congrArg (Prod.mk _) (rdN_was (by assumption)))); ends_ret rfl (show some ((vB ((rdN (RS.mk b p e)).1 == 1)) : SV) = some ((vB (rdF (RS.mk b p e)).1) : SV) from by rw [hR]) (show some ([(7000, (.cells 94 [(cD (List.map encB (RS.b ((rdN (RS.mk b p e)).2)))), (cI ((RS.at_ ((rdN (RS.mk b p e)).2)) : Int)), (cI (RS.e ((rdN (RS.mk b p e)).2))), (cB true)]))] : Objs) = some ([(7000, (.cells 94 [(cD (List.map encB (RS.b ((rdF (RS.mk b p e)).2)))), (cI ((RS.at_ ((rdF (RS.mk b p e)).2)) : Int)), (cI (RS.e ((rdF (RS.mk b p e)).2))), (cB true)]))] : Objs) from by rw [hR]))
theorem w_RFlag (s : RS) (hs : RS.ok s) : Sat Try.prog 64 [(vL 7000 0)] [(7000, (.cells 94 [(cD (List.map encB (RS.b s))), (cI ((RS.at_ s) : Int)), (cI (RS.e s)), (cB true)]))] (vB (rdF s).1) [(7000, (.cells 94 [(cD (List.map encB (RS.b ((rdF s).2)))), (cI ((RS.at_ ((rdF s).2)) : Int)), (cI (RS.e ((rdF s).2))), (cB true)]))] := by
  obtain ⟨b, p, e⟩ := s
  exact w_RFlag0 b p e hs
end Go.Proofs.Ytjbiaoajmdbigaa
