/- Walks of what the document's answers are made of: runes, texts, copies of slices. -/
import Derived.Test.YtjbiaoajmdbigaaLaw2
import Derived.Test.YtjbiaoajmdbigaaRf
set_option maxRecDepth 100000
set_option linter.unusedVariables false
set_option linter.unusedSimpArgs false
namespace Go.Proofs.Ytjbiaoajmdbigaa
open Go Go.E
theorem c_Ops_nil  : Sat Try.prog 14 [(sc (.slice none 0 0))] [] (vD (List.map encOp ([]))) [] := by
 refine sat_of_body tab_ok Try.func14 rfl (by kernel_rfl) (Nat.le_of_ble_eq_true rfl) rfl fun G => ?_
 refine awp_seq ?_
 refine rk boxes [] [0, 2] [] ⟨8, [(0, (sc (.slice none 0 0))), (2, (sc (.slice none 0 0)))], [], []⟩ (by kernel_rfl) .n ?_
 refine peel_seq ?_
 refine awp_seq ?_
 refine awp_seq ?_
 refine rk boxes [⟨1, false, [(sc (.slice none 0 0)), (sc (.slice none 0 0))], [], (vB true), []⟩] [0, 2, 4] [] ⟨8, [(0, (sc (.slice none 0 0))), (2, (sc (.slice none 0 0))), (4, (vB true))], [], []⟩ (by kernel_rfl) (.c (tri_nil_eql tab_ok false rfl) .n) ?_
 refine peel_seq ?_
 refine awp_true rfl ?_
 refine awp_seq ?_
 refine rk boxes [] [0, 2] [] ⟨8, [(0, (sc (.slice none 0 0))), (2, (sc (.slice none 0 0)))], [], []⟩ (by kernel_rfl) .n ?_
 refine peel_seq ?_
 refine awp_mv [.own 2 902 0 0 0, .fz 902] ⟨8, [(2, (vD [])), (0, (sc (.slice none 0 0)))], [], []⟩ rfl ?_
 refine awp_ret ?_
 refine peel_seq_ret ?_
 exact ends_ret rfl rfl rfl
theorem c_Ops_nn (l : List AOp) (hl : l.length ≤ 1000000) : Sat Try.prog 14 [(vO 5000)] [(5000, (.opq (nnR (List.map encOp l))))] (vD (List.map encOp l)) [] := by
 refine sat_of_body tab_ok Try.func14 rfl (by kernel_rfl) (Nat.le_of_ble_eq_true rfl) rfl fun G => ?_
 refine awp_seq ?_
 refine rk boxes [] [0, 2] [5000] ⟨8, [(0, (vO 5000)), (2, (sc (.slice none 0 0)))], [(5000, (.opq (nnR (List.map encOp l))))], [5000]⟩ (by kernel_rfl) .n ?_
 refine peel_seq ?_
 refine awp_seq ?_
 refine awp_seq ?_
 refine rk boxes [⟨1, true, [(vO 5000), (sc (.slice none 0 0))], [(5000, (.opq (nnR (List.map encOp l))))], (vB false), []⟩] [0, 2, 4] [5000] ⟨8, [(0, (vO 5000)), (2, (sc (.slice none 0 0))), (4, (vB false))], [(5000, (.opq (nnR (List.map encOp l))))], [5000]⟩ (by kernel_rfl) (.c (tri_nn_eql tab_ok false rfl) .n) ?_
 refine peel_seq ?_
 refine awp_false rfl ?_
 refine awp_skip ?_
 refine peel_seq ?_
 refine awp_seq ?_
 refine rk boxes [⟨2, false, [(vO 5), (vO 5000)], [(5, (.arr 35 3 40 [])), (5000, (.opq (nnR (List.map encOp l))))], (vO 7), [(7, (.arr 35 3 40 (List.map encOp l))), (5000, (.opq (nnR (List.map encOp l))))]⟩] [2] [7, 5000] ⟨8, [(2, (vO 7))], [(7, (.arr 35 3 40 (List.map encOp l))), (5000, (.opq (nnR (List.map encOp l))))], [5000]⟩ (by kernel_rfl) (.c (tri_to (tri_append_nn (ex := 35) (bytes := 40) tab_ok rfl rfl rfl (all_map fun _ => rfl) (by simp; omega)) (by simp [encOp])) .n) ?_
 refine peel_seq ?_
 refine awp_mv [.fz 7] ⟨8, [(2, (vD (List.map encOp l)))], [(5000, (.opq (nnR (List.map encOp l))))], [5000]⟩ rfl ?_
 refine awp_ret ?_
 exact ends_ret rfl rfl rfl
theorem c_Ops (l : List AOp) (hl : l.length ≤ 1000000) : Sat Try.prog 14 [(vD (List.map encOp l))] [] (vD (List.map encOp l)) [] :=
  Sat.nilOr 0 5000 (List.map encOp l) rfl (fun e => by
    have e : l = [] := by simpa using e
    subst e
    exact c_Ops_nil) (c_Ops_nn l hl) rfl
theorem co_Ops_nil  : Sat Try.prog 14 [(sc (.slice none 0 0))] [] (vO 5001) [(5001, (.arr 35 3 40 (List.map encOp ([]))))] := by
 refine sat_of_body tab_ok Try.func14 rfl (by kernel_rfl) (Nat.le_of_ble_eq_true rfl) rfl fun G => ?_
 refine awp_seq ?_
 refine rk boxes [] [0, 2] [] ⟨8, [(0, (sc (.slice none 0 0))), (2, (sc (.slice none 0 0)))], [], []⟩ (by kernel_rfl) .n ?_
 refine peel_seq ?_
 refine awp_seq ?_
 refine awp_seq ?_
 refine rk boxes [⟨1, false, [(sc (.slice none 0 0)), (sc (.slice none 0 0))], [], (vB true), []⟩] [0, 2, 4] [] ⟨8, [(0, (sc (.slice none 0 0))), (2, (sc (.slice none 0 0))), (4, (vB true))], [], []⟩ (by kernel_rfl) (.c (tri_nil_eql tab_ok false rfl) .n) ?_
 refine peel_seq ?_
 refine awp_true rfl ?_
 refine awp_seq ?_
 refine rk boxes [] [0, 2] [] ⟨8, [(0, (sc (.slice none 0 0))), (2, (sc (.slice none 0 0)))], [], []⟩ (by kernel_rfl) .n ?_
 refine peel_seq ?_
 refine awp_mv [.own 2 5001 35 3 40] ⟨8, [(2, (vO 5001)), (0, (sc (.slice none 0 0)))], [(5001, (.arr 35 3 40 []))], []⟩ rfl ?_
 refine awp_ret ?_
 refine peel_seq_ret ?_
 exact ends_ret rfl rfl rfl
theorem co_Ops_nn (l : List AOp) (hl : l.length ≤ 1000000) : Sat Try.prog 14 [(vO 5000)] [(5000, (.opq (nnR (List.map encOp l))))] (vO 5001) [(5001, (.arr 35 3 40 (List.map encOp l)))] := by
 refine sat_of_body tab_ok Try.func14 rfl (by kernel_rfl) (Nat.le_of_ble_eq_true rfl) rfl fun G => ?_
 refine awp_seq ?_
 refine rk boxes [] [0, 2] [5000] ⟨8, [(0, (vO 5000)), (2, (sc (.slice none 0 0)))], [(5000, (.opq (nnR (List.map encOp l))))], [5000]⟩ (by kernel_rfl) .n ?_
 refine peel_seq ?_
 refine awp_seq ?_
 refine awp_seq ?_
 refine rk boxes [⟨1, true, [(vO 5000), (sc (.slice none 0 0))], [(5000, (.opq (nnR (List.map encOp l))))], (vB false), []⟩] [0, 2, 4] [5000] ⟨8, [(0, (vO 5000)), (2, (sc (.slice none 0 0))), (4, (vB false))], [(5000, (.opq (nnR (List.map encOp l))))], [5000]⟩ (by kernel_rfl) (.c (tri_nn_eql tab_ok false rfl) .n) ?_
 refine peel_seq ?_
 refine awp_false rfl ?_
 refine awp_skip ?_
 refine peel_seq ?_
 refine awp_seq ?_
 refine rk boxes [⟨2, false, [(vO 5), (vO 5000)], [(5, (.arr 35 3 40 [])), (5000, (.opq (nnR (List.map encOp l))))], (vO 7), [(7, (.arr 35 3 40 (List.map encOp l))), (5000, (.opq (nnR (List.map encOp l))))]⟩] [2] [7, 5000] ⟨8, [(2, (vO 7))], [(7, (.arr 35 3 40 (List.map encOp l))), (5000, (.opq (nnR (List.map encOp l))))], [5000]⟩ (by kernel_rfl) (.c (tri_to (tri_append_nn (ex := 35) (bytes := 40) tab_ok rfl rfl rfl (all_map fun _ => rfl) (by simp; omega)) (by simp [encOp])) .n) ?_
 refine peel_seq ?_
 refine awp_mv [.sw 7 5001] ⟨8, [(2, (vO 5001))], [(5001, (.arr 35 3 40 (List.map encOp l))), (5000, (.opq (nnR (List.map encOp l))))], [5000]⟩ rfl ?_
 refine awp_ret ?_
 exact ends_ret rfl rfl rfl
theorem co_Ops (l : List AOp) (hl : l.length ≤ 1000000) : Sat Try.prog 14 [(vD (List.map encOp l))] [] (vO 5001) [(5001, (.arr 35 3 40 (List.map encOp l)))] :=
  Sat.nilOr 0 5000 (List.map encOp l) rfl (fun e => by
    have e : l = [] := by simpa using e
    subst e
    exact co_Ops_nil) (co_Ops_nn l hl) rfl
theorem f_plain (c : Int) : Sat Try.prog 89 [(sc (.int .i32 c))] [] (vB (plainQ c)) [] := by
 refine sat_of_body tab_ok Try.func89 rfl (by kernel_rfl) (Nat.le_of_ble_eq_true rfl) rfl fun G => ?_
 refine awp_seq ?_
 refine rk boxes [] [0, 2] [] ⟨13, [(0, (sc (.int .i32 c))), (2, (vB false))], [], []⟩ (by kernel_rfl) .n ?_
 refine peel_seq ?_
 refine awp_seq ?_
 cases hb1 : (decide (c > 31)) with
 | false =>
  have hb1p := of_decide_eq_false hb1
  refine rk boxes [⟨1, false, [(sc (.int .i32 c)), (sc (.int .i32 31))], [], (vB false), []⟩] [2] [] ⟨13, [(2, (vB false))], [], []⟩ (by kernel_rfl) (.c (tri_scalar_eq [(.int .i32 c), (.int .i32 31)] (.bool (decide (c > 31))) rfl rfl rfl (by kernel_rfl) (congrArg Value.bool hb1)) .n) ?_
  refine peel_seq ?_
  refine awp_ret ?_
  exact ends_ret rfl (show some ((vB false) : SV) = some ((vB (plainQ c)) : SV) from by first | rfl | (simp only [plainQ, hb1, cond_true, cond_false])) rfl
 | true =>
  have hb1p := of_decide_eq_true hb1
  cases hb2 : (c != 127) with
  | false =>
   have hb2p : c = 127 := by simpa using hb2
   refine rk boxes [⟨1, false, [(sc (.int .i32 c)), (sc (.int .i32 31))], [], (vB true), []⟩, ⟨4, false, [(sc (.int .i32 c)), (sc (.int .i32 127))], [], (vB false), []⟩] [2] [] ⟨13, [(2, (vB false))], [], []⟩ (by kernel_rfl) (.c (tri_scalar_eq [(.int .i32 c), (.int .i32 31)] (.bool (decide (c > 31))) rfl rfl rfl (by kernel_rfl) (congrArg Value.bool hb1)) (.c (tri_scalar_eq [(.int .i32 c), (.int .i32 127)] (.bool (c != 127)) rfl rfl rfl (by kernel_rfl) (congrArg Value.bool hb2)) .n)) ?_
   refine peel_seq ?_
   refine awp_ret ?_
   exact ends_ret rfl (show some ((vB false) : SV) = some ((vB (plainQ c)) : SV) from by first | rfl | (simp only [plainQ, hb1, hb2, cond_true, cond_false])) rfl
  | true =>
   have hb2p : c ≠ 127 := by simpa using hb2
   refine rk boxes [⟨1, false, [(sc (.int .i32 c)), (sc (.int .i32 31))], [], (vB true), []⟩, ⟨4, false, [(sc (.int .i32 c)), (sc (.int .i32 127))], [], (vB true), []⟩] [2] [] ⟨13, [(2, (vB (c != 65533)))], [], []⟩ (by kernel_rfl) (.c (tri_scalar_eq [(.int .i32 c), (.int .i32 31)] (.bool (decide (c > 31))) rfl rfl rfl (by kernel_rfl) (congrArg Value.bool hb1)) (.c (tri_scalar_eq [(.int .i32 c), (.int .i32 127)] (.bool (c != 127)) rfl rfl rfl (by kernel_rfl) (congrArg Value.bool hb2)) .n)) ?_
   refine peel_seq ?_
   refine awp_ret ?_
   exact ends_ret rfl (show some ((vB (c != 65533)) : SV) = some ((vB (plainQ c)) : SV) from by first | rfl | (simp only [plainQ, hb1, hb2, cond_true, cond_false])) rfl
theorem f_Runes (s : ByteArray) (hs : s.size ≤ 1000000000) : Sat Try.prog 88 [(vS s)] [] (vD (List.map encR (runes s))) [] := by
 refine sat_of_body tab_ok Try.func88 rfl (by kernel_rfl) (Nat.le_of_ble_eq_true rfl) rfl fun G => ?_
 refine awp_seq ?_
 refine rk boxes [] [0, 2] [] ⟨16, [(0, (vS s)), (2, (sc (.slice none 0 0)))], [], []⟩ (by kernel_rfl) .n ?_
 refine peel_seq ?_
 refine awp_seq ?_
 refine rk boxes [] [0, 2, 3] [] ⟨16, [(0, (vS s)), (2, (sc (.slice none 0 0))), (3, (sc (.slice none 0 0)))], [], []⟩ (by kernel_rfl) .n ?_
 refine peel_seq ?_
 refine awp_seq ?_
 refine awp_seq ?_
 refine rk boxes [⟨1, false, [(vS s)], [], (vL 7 0), [(7, (.it s 0))]⟩] [2, 3, 7] [7] ⟨16, [(2, (sc (.slice none 0 0))), (3, (sc (.slice none 0 0))), (7, (vL 7 0))], [(7, (.it s 0))], []⟩ (by kernel_rfl) (.c (tri_range_str tab_ok 7 rfl) .n) ?_
 refine peel_seq ?_
 refine awp_block ?_
 refine awp_mv [.own 3 1003 21 1 4] ⟨16, [(3, (vO 1003)), (2, (sc (.slice none 0 0))), (7, (vL 7 0))], [(1003, (.arr 21 1 4 [])), (7, (.it s 0))], []⟩ rfl ?_
 refine q_keep [2, 3, 7] [7, 1003] ?_
 refine awp_loopP (ι := Nat × (List Int)) (fun x => ⟨16, [(2, (sc (.slice none 0 0))), (3, (vO 1003)), (7, (vL 7 0))], [(7, (.it s x.1)), (1003, (.arr 21 1 4 (List.map encR x.2)))], []⟩) (fun x => (List.length x.2 ≤ x.1) ∧ x.2 ++ (runesAt s x.1) = runes s) (fun x => ByteArray.size s - x.1) (0, []) rfl ⟨by simp, rfl⟩ ?_
 rintro ⟨p1, a2⟩ ⟨hx3, hJ4⟩
 try simp only at hx3 hJ4
 have hw5 := width_pos s p1
 refine awp_seq ?_
 cases hb6 : (decide (p1 < ByteArray.size s)) with
 | false =>
  have hb6p := of_decide_eq_false hb6
  refine rk boxes [⟨0, false, [(vL 7 0)], [(7, (.it s p1))], (.tup [(.c (cB false))]), [(7, (.it s p1))]⟩] [2, 3, 7, 8, 9] [7, 1003] ⟨16, [(2, (sc (.slice none 0 0))), (3, (vO 1003)), (7, (vL 7 0)), (8, (.tup [(.c (cB false))])), (9, (vB false))], [(7, (.it s p1)), (1003, (.arr 21 1 4 (List.map encR a2)))], []⟩ (by kernel_rfl) (.c (tri_next_end (of_decide_eq_false hb6)) .n) ?_
  refine peel_seq ?_
  refine awp_seq ?_
  refine awp_false rfl ?_
  have hE7 := hJ4
  rw [runesAt_end hb6p] at hE7
  simp only [List.append_nil, hb6, cond_true, cond_false, Bool.not_true, Bool.not_false] at hE7
  refine awp_exit ?_
  refine peel_seq_exit ?_
  refine peel_seq_exit ?_
  refine peel_hit ?_
  refine peel_seq ?_
  refine awp_seq ?_
  refine rk boxes [] [2] [1003] ⟨16, [(2, (vO 1003))], [(1003, (.arr 21 1 4 (List.map encR a2)))], []⟩ (by kernel_rfl) .n ?_
  refine peel_seq ?_
  refine awp_mv [.fz 1003] ⟨16, [(2, (vD (List.map encR a2)))], [], []⟩ rfl ?_
  refine awp_ret ?_
  exact ends_ret rfl (show some ((vD (List.map encR a2)) : SV) = some ((vD (List.map encR (runes s))) : SV) from by first | rfl | ((try simp only [cond_true, cond_false, Bool.not_true, Bool.not_false] at hE7); (first | (simp only [hb6, ← hE7, cond_true, cond_false, Bool.not_true, Bool.not_false, List.map_nil]; done) | (simp only [List.append_nil, hb6, ← hE7, cond_true, cond_false, Bool.not_true, Bool.not_false, List.map_nil])))) rfl
 | true =>
  have hb6p := of_decide_eq_true hb6
  refine rk boxes [⟨0, false, [(vL 7 0)], [(7, (.it s p1))], (.tup [(.c (cB true)), (.c (cI (p1 : Int))), (.c (.d (.v (.int .i32 ((Utf8.decode s p1).1 : Int)))))]), [(7, (.it s (p1 + (Utf8.decode s p1).2)))]⟩] [2, 3, 7, 8, 9] [7, 1003] ⟨16, [(2, (sc (.slice none 0 0))), (3, (vO 1003)), (7, (vL 7 0)), (8, (.tup [(.c (cB true)), (.c (cI (p1 : Int))), (.c (.d (.v (.int .i32 ((Utf8.decode s p1).1 : Int)))))])), (9, (vB true))], [(7, (.it s (p1 + (Utf8.decode s p1).2))), (1003, (.arr 21 1 4 (List.map encR a2)))], []⟩ (by kernel_rfl) (.c (tri_next_more (of_decide_eq_true hb6)) .n) ?_
  refine peel_seq ?_
  refine awp_seq ?_
  refine awp_true rfl ?_
  refine awp_skip ?_
  refine peel_seq ?_
  refine awp_block ?_
  refine awp_seq ?_
  refine rk boxes [] [2, 3, 5, 7] [7, 1003] ⟨16, [(2, (sc (.slice none 0 0))), (3, (vO 1003)), (5, (sc (.int .i32 ((Utf8.decode s p1).1 : Int)))), (7, (vL 7 0))], [(7, (.it s (p1 + (Utf8.decode s p1).2))), (1003, (.arr 21 1 4 (List.map encR a2)))], []⟩ (by kernel_rfl) .n ?_
  refine peel_seq ?_
  refine awp_then [.sw 14 1003] ?_
  refine rk boxes [⟨2, false, [(sc (.int .i32 ((Utf8.decode s p1).1 : Int)))], [], (vD (List.map encR ([((Utf8.decode s p1).1 : Int)]))), []⟩, ⟨3, false, [(vO 1003), (vD (List.map encR ([((Utf8.decode s p1).1 : Int)])))], [(1003, (.arr 21 1 4 (List.map encR a2)))], (vO 14), [(14, (.arr 21 1 4 (List.map encR (a2 ++ [((Utf8.decode s p1).1 : Int)]))))]⟩] [2, 3, 7] [7, 14] ⟨16, [(2, (sc (.slice none 0 0))), (3, (vO 14)), (7, (vL 7 0))], [(7, (.it s (p1 + (Utf8.decode s p1).2))), (14, (.arr 21 1 4 (List.map encR (a2 ++ [((Utf8.decode s p1).1 : Int)]))))], []⟩ (by kernel_rfl) (.c (tri_slice_data (e := 21) (sz := 1) (bytes := 4) tab_ok (by kernel_rfl) rfl) (.c (tri_to (tri_append_sl (ex := 21) (bytes := 4) tab_ok rfl rfl rfl (all_map fun _ => rfl) (by (try simp only [List.length_map, List.length_cons, List.length_nil]); omega)) (by simp [encR])) .n)) ?_
  refine then_mv ⟨16, [(2, (sc (.slice none 0 0))), (3, (vO 1003)), (7, (vL 7 0))], [(7, (.it s (p1 + (Utf8.decode s p1).2))), (1003, (.arr 21 1 4 (List.map encR (a2 ++ [((Utf8.decode s p1).1 : Int)]))))], []⟩ rfl ?_
  refine peel_block ?_
  exact peel_round ((p1 + (Utf8.decode s p1).2), (a2 ++ [((Utf8.decode s p1).1 : Int)])) rfl ⟨by simp only [List.length_append, List.length_cons, List.length_nil]; omega, by have hj := hJ4; rw [runesAt_more hb6p] at hj; rw [← hj]; simp⟩ (by simp only; omega)
theorem f_many (s : ByteArray) (lo hi : Int) (hs : s.size ≤ 1000000000) : Sat Try.prog 77 [(vS s), (vI lo), (vI hi)] [] (vB (manyM s lo hi)) [] := by
 refine sat_of_body tab_ok Try.func77 rfl (by kernel_rfl) (Nat.le_of_ble_eq_true rfl) rfl fun G => ?_
 refine awp_seq ?_
 refine rk boxes [] [0, 1, 2, 6] [] ⟨36, [(0, (vS s)), (1, (vI lo)), (2, (vI hi)), (6, (vB false))], [], []⟩ (by kernel_rfl) .n ?_
 refine peel_seq ?_
 refine awp_seq ?_
 refine rk boxes [⟨1, false, [(sc (.func (.func 88) #[] #[])), (vS s)], [], (vD (List.map encR (runes s))), []⟩] [1, 2, 6, 7] [] ⟨36, [(1, (vI lo)), (2, (vI hi)), (6, (vB false)), (7, (vD (List.map encR (runes s))))], [], []⟩ (by kernel_rfl) (.c (tri_call (f_Runes s (by assumption))) .n) ?_
 refine peel_seq ?_
 refine awp_seq ?_
 cases hb1 : (decide ((List.length (runes s) : Int) ≥ lo)) with
 | false =>
  have hb1p := of_decide_eq_false hb1
  refine rk boxes [⟨1, true, [(vD (List.map encR (runes s)))], [], (vI (List.length (runes s) : Int)), []⟩, ⟨3, false, [(vI (List.length (runes s) : Int)), (vI lo)], [], (vB false), []⟩] [6, 7, 8] [] ⟨36, [(6, (vB false)), (7, (vD (List.map encR (runes s)))), (8, (vB false))], [], []⟩ (by kernel_rfl) (.c (tri_len_map tab_ok rfl) (.c (tri_scalar_eq [(.int .i64 (List.length (runes s) : Int)), (.int .i64 lo)] (.bool (decide ((List.length (runes s) : Int) ≥ lo))) rfl rfl rfl (by kernel_rfl) (congrArg Value.bool hb1)) .n)) ?_
  refine peel_seq ?_
  refine awp_seq ?_
  refine awp_seq ?_
  refine rk boxes [⟨1, true, [(vD (List.map encR (runes s)))], [], (vI (List.length (runes s) : Int)), []⟩] [6, 8, 23, 24, 25] [] ⟨36, [(6, (vB false)), (8, (vB false)), (23, (vD (List.map encR (runes s)))), (24, (vI (List.length (runes s) : Int))), (25, (vI 0))], [], []⟩ (by kernel_rfl) (.c (tri_len_map tab_ok rfl) .n) ?_
  refine peel_seq ?_
  refine awp_block ?_
  refine awp_len 23 rfl (fun hlen2 => ?_)
  refine awp_loopP (ι := Nat × (Bool)) (fun x => ⟨36, [(6, (vB false)), (8, (vB x.2)), (23, (vD (List.map encR (runes s)))), (24, (vI (List.length (runes s) : Int))), (25, (vI (x.1 : Int)))], [], []⟩) (fun x => x.1 ≤ List.length (runes s) ∧ (True) ∧ plainAll (List.drop x.1 (runes s)) x.2 = manyM s lo hi) (fun x => List.length (runes s) - x.1) (0, false) rfl ⟨Nat.zero_le _, trivial, by simp only [manyM, List.drop_zero, hb1, cond_true, cond_false]⟩ ?_
  rintro ⟨k3, a4⟩ ⟨hk5, hx6, hJ7⟩
  try simp only at hk5 hx6 hJ7
  refine awp_seq ?_
  refine rk boxes [] [6, 8, 23, 24, 25, 26] [] ⟨36, [(6, (vB false)), (8, (vB a4)), (23, (vD (List.map encR (runes s)))), (24, (vI (List.length (runes s) : Int))), (25, (vI (k3 : Int))), (26, (vB (decide ((k3 : Int) < (List.length (runes s) : Int)))))], [], []⟩ (by kernel_rfl) .n ?_
  refine peel_seq ?_
  refine awp_seq ?_
  refine awp_cond (b := (decide ((k3 : Int) < (List.length (runes s) : Int)))) rfl (fun hc8 => ?_) (fun hc8 => ?_)
  ·skip
   have hc8p := of_decide_eq_true hc8
   refine awp_skip ?_
   refine peel_seq ?_
   refine awp_seq ?_
   refine awp_block ?_
   refine awp_seq ?_
   obtain ⟨x9, ha10, hd11⟩ := at_drop (l := (runes s)) (k := k3) (by (try simp only [List.length_map] at *); omega)
   refine rk boxes [⟨0, false, [(vD (List.map encR (runes s))), (vI (k3 : Int))], [], (vT (dP [(.v (.int .i32 x9))])), []⟩] [6, 8, 10, 23, 24, 25] [] ⟨36, [(6, (vB false)), (8, (vB a4)), (10, (sc (.int .i32 x9))), (23, (vD (List.map encR (runes s)))), (24, (vI (List.length (runes s) : Int))), (25, (vI (k3 : Int)))], [], []⟩ (by kernel_rfl) (.c (tri_index_sl (e := 21) (sz := 1) (bytes := 4) (i := k3) tab_ok rfl (at_map encR ha10) (all_map fun _ => rfl)) .n) ?_
   refine peel_seq ?_
   cases a4 with
   | false =>
    refine rk boxes [] [6, 8, 23, 24, 25] [] ⟨36, [(6, (vB false)), (8, (vB false)), (23, (vD (List.map encR (runes s)))), (24, (vI (List.length (runes s) : Int))), (25, (vI (k3 : Int)))], [], []⟩ (by kernel_rfl) .n ?_
    refine peel_block ?_
    refine peel_seq ?_
    refine rk boxes [⟨0, false, [(vI (k3 : Int)), (vI 1)], [], (vI ((k3 : Int) + 1)), []⟩] [6, 8, 23, 24, 25] [] ⟨36, [(6, (vB false)), (8, (vB false)), (23, (vD (List.map encR (runes s)))), (24, (vI (List.length (runes s) : Int))), (25, (vI ((k3 : Int) + 1)))], [], []⟩ (by kernel_rfl) (.c (tri_int ((k3 : Int) + 1) (wrap_i64 (by omega))) .n) ?_
    exact peel_round (k3 + 1, false) rfl ⟨by (try simp only [List.length_map] at *); omega, trivial, by have hj := hJ7; rw [hd11] at hj; simp only [plainAll, hb1, hc8, cond_true, cond_false, Bool.not_true, Bool.not_false] at hj ⊢; exact hj⟩ (by (try simp only [List.length_map] at *); omega)
   | true =>
    refine rk boxes [⟨3, false, [(sc (.func (.func 89) #[] #[])), (sc (.int .i32 x9))], [], (vB (plainR x9)), []⟩] [6, 8, 23, 24, 25] [] ⟨36, [(6, (vB false)), (8, (vB (plainR x9))), (23, (vD (List.map encR (runes s)))), (24, (vI (List.length (runes s) : Int))), (25, (vI (k3 : Int)))], [], []⟩ (by kernel_rfl) (.c (tri_call ((plainQ_eq x9 ▸ f_plain x9))) .n) ?_
    refine peel_block ?_
    refine peel_seq ?_
    refine rk boxes [⟨0, false, [(vI (k3 : Int)), (vI 1)], [], (vI ((k3 : Int) + 1)), []⟩] [6, 8, 23, 24, 25] [] ⟨36, [(6, (vB false)), (8, (vB (plainR x9))), (23, (vD (List.map encR (runes s)))), (24, (vI (List.length (runes s) : Int))), (25, (vI ((k3 : Int) + 1)))], [], []⟩ (by kernel_rfl) (.c (tri_int ((k3 : Int) + 1) (wrap_i64 (by omega))) .n) ?_
    exact peel_round (k3 + 1, (plainR x9)) rfl ⟨by (try simp only [List.length_map] at *); omega, trivial, by have hj := hJ7; rw [hd11] at hj; simp only [plainAll, hb1, hc8, cond_true, cond_false, Bool.not_true, Bool.not_false] at hj ⊢; exact hj⟩ (by (try simp only [List.length_map] at *); omega)
  ·skip
   have hc8p := of_decide_eq_false hc8
   have hE12 := hJ7
   rw [at_end (l := (runes s)) (by (try simp only [List.length_map] at *); omega)] at hE12
   simp only [plainAll, hb1, hc8, cond_true, cond_false, Bool.not_true, Bool.not_false] at hE12
   refine awp_exit ?_
   refine peel_seq_exit ?_
   refine peel_seq_exit ?_
   refine peel_hit ?_
   refine peel_seq ?_
   refine awp_seq ?_
   refine rk boxes [] [6] [] ⟨36, [(6, (vB a4))], [], []⟩ (by kernel_rfl) .n ?_
   refine peel_seq ?_
   refine awp_ret ?_
   exact ends_ret rfl (show some ((vB a4) : SV) = some ((vB (manyM s lo hi)) : SV) from by first | rfl | ((try simp only [cond_true, cond_false, Bool.not_true, Bool.not_false] at hE12); (first | (simp only [hb1, hc8, ← hE12, cond_true, cond_false, Bool.not_true, Bool.not_false, List.map_nil]; done) | (simp only [hb1, hc8, ← hE12, cond_true, cond_false, Bool.not_true, Bool.not_false, List.map_nil])))) rfl
 | true =>
  have hb1p := of_decide_eq_true hb1
  refine rk boxes [⟨1, true, [(vD (List.map encR (runes s)))], [], (vI (List.length (runes s) : Int)), []⟩, ⟨3, false, [(vI (List.length (runes s) : Int)), (vI lo)], [], (vB true), []⟩, ⟨6, true, [(vD (List.map encR (runes s)))], [], (vI (List.length (runes s) : Int)), []⟩] [6, 7, 8] [] ⟨36, [(6, (vB false)), (7, (vD (List.map encR (runes s)))), (8, (vB (decide ((List.length (runes s) : Int) ≤ hi))))], [], []⟩ (by kernel_rfl) (.c (tri_len_map tab_ok rfl) (.c (tri_scalar_eq [(.int .i64 (List.length (runes s) : Int)), (.int .i64 lo)] (.bool (decide ((List.length (runes s) : Int) ≥ lo))) rfl rfl rfl (by kernel_rfl) (congrArg Value.bool hb1)) (.c (tri_len_map tab_ok rfl) .n))) ?_
  refine peel_seq ?_
  refine awp_seq ?_
  refine awp_seq ?_
  refine rk boxes [⟨1, true, [(vD (List.map encR (runes s)))], [], (vI (List.length (runes s) : Int)), []⟩] [6, 8, 23, 24, 25] [] ⟨36, [(6, (vB false)), (8, (vB (decide ((List.length (runes s) : Int) ≤ hi)))), (23, (vD (List.map encR (runes s)))), (24, (vI (List.length (runes s) : Int))), (25, (vI 0))], [], []⟩ (by kernel_rfl) (.c (tri_len_map tab_ok rfl) .n) ?_
  refine peel_seq ?_
  refine awp_block ?_
  refine awp_len 23 rfl (fun hlen13 => ?_)
  refine awp_loopP (ι := Nat × (Bool)) (fun x => ⟨36, [(6, (vB false)), (8, (vB x.2)), (23, (vD (List.map encR (runes s)))), (24, (vI (List.length (runes s) : Int))), (25, (vI (x.1 : Int)))], [], []⟩) (fun x => x.1 ≤ List.length (runes s) ∧ (True) ∧ plainAll (List.drop x.1 (runes s)) x.2 = manyM s lo hi) (fun x => List.length (runes s) - x.1) (0, (decide ((List.length (runes s) : Int) ≤ hi))) rfl ⟨Nat.zero_le _, trivial, by simp only [manyM, List.drop_zero, hb1, cond_true, cond_false]⟩ ?_
  rintro ⟨k14, a15⟩ ⟨hk16, hx17, hJ18⟩
  try simp only at hk16 hx17 hJ18
  refine awp_seq ?_
  refine rk boxes [] [6, 8, 23, 24, 25, 26] [] ⟨36, [(6, (vB false)), (8, (vB a15)), (23, (vD (List.map encR (runes s)))), (24, (vI (List.length (runes s) : Int))), (25, (vI (k14 : Int))), (26, (vB (decide ((k14 : Int) < (List.length (runes s) : Int)))))], [], []⟩ (by kernel_rfl) .n ?_
  refine peel_seq ?_
  refine awp_seq ?_
  refine awp_cond (b := (decide ((k14 : Int) < (List.length (runes s) : Int)))) rfl (fun hc19 => ?_) (fun hc19 => ?_)
  ·skip
   have hc19p := of_decide_eq_true hc19
   refine awp_skip ?_
   refine peel_seq ?_
   refine awp_seq ?_
   refine awp_block ?_
   refine awp_seq ?_
   obtain ⟨x20, ha21, hd22⟩ := at_drop (l := (runes s)) (k := k14) (by (try simp only [List.length_map] at *); omega)
   refine rk boxes [⟨0, false, [(vD (List.map encR (runes s))), (vI (k14 : Int))], [], (vT (dP [(.v (.int .i32 x20))])), []⟩] [6, 8, 10, 23, 24, 25] [] ⟨36, [(6, (vB false)), (8, (vB a15)), (10, (sc (.int .i32 x20))), (23, (vD (List.map encR (runes s)))), (24, (vI (List.length (runes s) : Int))), (25, (vI (k14 : Int)))], [], []⟩ (by kernel_rfl) (.c (tri_index_sl (e := 21) (sz := 1) (bytes := 4) (i := k14) tab_ok rfl (at_map encR ha21) (all_map fun _ => rfl)) .n) ?_
   refine peel_seq ?_
   cases a15 with
   | false =>
    refine rk boxes [] [6, 8, 23, 24, 25] [] ⟨36, [(6, (vB false)), (8, (vB false)), (23, (vD (List.map encR (runes s)))), (24, (vI (List.length (runes s) : Int))), (25, (vI (k14 : Int)))], [], []⟩ (by kernel_rfl) .n ?_
    refine peel_block ?_
    refine peel_seq ?_
    refine rk boxes [⟨0, false, [(vI (k14 : Int)), (vI 1)], [], (vI ((k14 : Int) + 1)), []⟩] [6, 8, 23, 24, 25] [] ⟨36, [(6, (vB false)), (8, (vB false)), (23, (vD (List.map encR (runes s)))), (24, (vI (List.length (runes s) : Int))), (25, (vI ((k14 : Int) + 1)))], [], []⟩ (by kernel_rfl) (.c (tri_int ((k14 : Int) + 1) (wrap_i64 (by omega))) .n) ?_
    exact peel_round (k14 + 1, false) rfl ⟨by (try simp only [List.length_map] at *); omega, trivial, by have hj := hJ18; rw [hd22] at hj; simp only [plainAll, hb1, hc19, cond_true, cond_false, Bool.not_true, Bool.not_false] at hj ⊢; exact hj⟩ (by (try simp only [List.length_map] at *); omega)
   | true =>
    refine rk boxes [⟨3, false, [(sc (.func (.func 89) #[] #[])), (sc (.int .i32 x20))], [], (vB (plainR x20)), []⟩] [6, 8, 23, 24, 25] [] ⟨36, [(6, (vB false)), (8, (vB (plainR x20))), (23, (vD (List.map encR (runes s)))), (24, (vI (List.length (runes s) : Int))), (25, (vI (k14 : Int)))], [], []⟩ (by kernel_rfl) (.c (tri_call ((plainQ_eq x20 ▸ f_plain x20))) .n) ?_
    refine peel_block ?_
    refine peel_seq ?_
    refine rk boxes [⟨0, false, [(vI (k14 : Int)), (vI 1)], [], (vI ((k14 : Int) + 1)), []⟩] [6, 8, 23, 24, 25] [] ⟨36, [(6, (vB false)), (8, (vB (plainR x20))), (23, (vD (List.map encR (runes s)))), (24, (vI (List.length (runes s) : Int))), (25, (vI ((k14 : Int) + 1)))], [], []⟩ (by kernel_rfl) (.c (tri_int ((k14 : Int) + 1) (wrap_i64 (by omega))) .n) ?_
    exact peel_round (k14 + 1, (plainR x20)) rfl ⟨by (try simp only [List.length_map] at *); omega, trivial, by have hj := hJ18; rw [hd22] at hj; simp only [plainAll, hb1, hc19, cond_true, cond_false, Bool.not_true, Bool.not_false] at hj ⊢; exact hj⟩ (by (try simp only [List.length_map] at *); omega)
  ·skip
   have hc19p := of_decide_eq_false hc19
   have hE23 := hJ18
   rw [at_end (l := (runes s)) (by (try simp only [List.length_map] at *); omega)] at hE23
   simp only [plainAll, hb1, hc19, cond_true, cond_false, Bool.not_true, Bool.not_false] at hE23
   refine awp_exit ?_
   refine peel_seq_exit ?_
   refine peel_seq_exit ?_
   refine peel_hit ?_
   refine peel_seq ?_
   refine awp_seq ?_
   refine rk boxes [] [6] [] ⟨36, [(6, (vB a15))], [], []⟩ (by kernel_rfl) .n ?_
   refine peel_seq ?_
   refine awp_ret ?_
   exact ends_ret rfl (show some ((vB a15) : SV) = some ((vB (manyM s lo hi)) : SV) from by first | rfl | ((try simp only [cond_true, cond_false, Bool.not_true, Bool.not_false] at hE23); (first | (simp only [hb1, hc19, ← hE23, cond_true, cond_false, Bool.not_true, Bool.not_false, List.map_nil]; done) | (simp only [hb1, hc19, ← hE23, cond_true, cond_false, Bool.not_true, Bool.not_false, List.map_nil])))) rfl
theorem f_Key (s : ByteArray) (hs : s.size ≤ 1000000000) : Sat Try.prog 60 [(vS s)] [] (vI (keyE s)) [] := by
 refine sat_of_body tab_ok Try.func60 rfl (by kernel_rfl) (Nat.le_of_ble_eq_true rfl) rfl fun G => ?_
 refine awp_seq ?_
 refine rk boxes [] [0, 2] [] ⟨6, [(0, (vS s)), (2, (vI 0))], [], []⟩ (by kernel_rfl) .n ?_
 refine peel_seq ?_
 refine awp_seq ?_
 refine awp_seq ?_
 refine rk boxes [⟨1, false, [(sc (.func (.func 77) #[] #[])), (vS s), (vI 1), (vI 24)], [], (vB (allR 1 24 (runes s) 0)), []⟩] [2, 5] [] ⟨6, [(2, (vI 0)), (5, (vB (!(allR 1 24 (runes s) 0))))], [], []⟩ (by kernel_rfl) (.c (tri_call ((manyM_eq s 1 24 (by decide) ▸ f_many s 1 24 (by assumption)))) .n) ?_
 refine peel_seq ?_
 refine awp_cond (b := (!(allR 1 24 (runes s) 0))) rfl (fun hc1 => ?_) (fun hc1 => ?_)
 ·skip
  have hc1n : (allR 1 24 (runes s) 0) = false := by simpa using hc1
  refine awp_seq ?_
  refine rk boxes [] [2] [] ⟨6, [(2, (vI 20))], [], []⟩ (by kernel_rfl) .n ?_
  refine peel_seq ?_
  refine awp_ret ?_
  refine peel_seq_ret ?_
  exact ends_ret rfl (show some ((vI 20) : SV) = some ((vI (keyE s)) : SV) from by first | rfl | (simp [keyE, hc1, hc1n])) rfl
 ·skip
  have hc1n : (allR 1 24 (runes s) 0) = true := by simpa using hc1
  refine awp_skip ?_
  refine peel_seq ?_
  refine awp_seq ?_
  refine rk boxes [] [2] [] ⟨6, [(2, (vI 0))], [], []⟩ (by kernel_rfl) .n ?_
  refine peel_seq ?_
  refine awp_ret ?_
  exact ends_ret rfl (show some ((vI 0) : SV) = some ((vI (keyE s)) : SV) from by first | rfl | (simp [keyE, hc1, hc1n])) rfl
theorem f_Value (s : ByteArray) (hs : s.size ≤ 1000000000) : Sat Try.prog 61 [(vS s)] [] (vI (valE s)) [] := by
 refine sat_of_body tab_ok Try.func61 rfl (by kernel_rfl) (Nat.le_of_ble_eq_true rfl) rfl fun G => ?_
 refine awp_seq ?_
 refine rk boxes [] [0, 2] [] ⟨6, [(0, (vS s)), (2, (vI 0))], [], []⟩ (by kernel_rfl) .n ?_
 refine peel_seq ?_
 refine awp_seq ?_
 refine awp_seq ?_
 refine rk boxes [⟨1, false, [(sc (.func (.func 77) #[] #[])), (vS s), (vI 0), (vI 48)], [], (vB (allR 0 48 (runes s) 0)), []⟩] [2, 5] [] ⟨6, [(2, (vI 0)), (5, (vB (!(allR 0 48 (runes s) 0))))], [], []⟩ (by kernel_rfl) (.c (tri_call ((manyM_eq s 0 48 (by decide) ▸ f_many s 0 48 (by assumption)))) .n) ?_
 refine peel_seq ?_
 refine awp_cond (b := (!(allR 0 48 (runes s) 0))) rfl (fun hc1 => ?_) (fun hc1 => ?_)
 ·skip
  have hc1n : (allR 0 48 (runes s) 0) = false := by simpa using hc1
  refine awp_seq ?_
  refine rk boxes [] [2] [] ⟨6, [(2, (vI 21))], [], []⟩ (by kernel_rfl) .n ?_
  refine peel_seq ?_
  refine awp_ret ?_
  refine peel_seq_ret ?_
  exact ends_ret rfl (show some ((vI 21) : SV) = some ((vI (valE s)) : SV) from by first | rfl | (simp [valE, hc1, hc1n])) rfl
 ·skip
  have hc1n : (allR 0 48 (runes s) 0) = true := by simpa using hc1
  refine awp_skip ?_
  refine peel_seq ?_
  refine awp_seq ?_
  refine rk boxes [] [2] [] ⟨6, [(2, (vI 0))], [], []⟩ (by kernel_rfl) .n ?_
  refine peel_seq ?_
  refine awp_ret ?_
  exact ends_ret rfl (show some ((vI 0) : SV) = some ((vI (valE s)) : SV) from by first | rfl | (simp [valE, hc1, hc1n])) rfl
end Go.Proofs.Ytjbiaoajmdbigaa
