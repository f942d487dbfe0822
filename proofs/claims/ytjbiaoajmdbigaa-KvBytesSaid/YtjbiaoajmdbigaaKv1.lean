/- Walks of package kv: whether a map is made, how many keys, what a key has; why operations can't be. -/
import Derived.Test.YtjbiaoajmdbigaaTree5
import Derived.Test.YtjbiaoajmdbigaaText1
import Derived.Test.YtjbiaoajmdbigaaKv
set_option maxRecDepth 100000
set_option linter.unusedVariables false
set_option linter.unusedSimpArgs false
namespace Go.Proofs.Ytjbiaoajmdbigaa
open Go Go.E
theorem k_made (t : Tr) : Sat Try.prog 42 [(vL 5000 0)] [(5000, (.cells 51 [(.d (dP [(encT t)]))]))] (vB true) [(5000, (.cells 51 [(.d (dP [(encT t)]))]))] := by
 refine sat_of_body tab_ok Try.func42 rfl (by kernel_rfl) (Nat.le_of_ble_eq_true rfl) rfl fun G => ?_
 refine awp_seq ?_
 refine rk boxes [] [0, 2] [5000] ⟨12, [(0, (vL 5000 0)), (2, (vB false))], [(5000, (.cells 51 [(.d (dP [(encT t)]))]))], [5000]⟩ (by kernel_rfl) .n ?_
 refine peel_seq ?_
 refine awp_seq ?_
 refine rk boxes [] [2] [5000] ⟨12, [(2, (vB true))], [(5000, (.cells 51 [(.d (dP [(encT t)]))]))], [5000]⟩ (by kernel_rfl) .n ?_
 refine peel_seq ?_
 refine awp_ret ?_
 exact ends_ret rfl rfl rfl
theorem k_made_nil  : Sat Try.prog 42 [(sc (.pointer none))] [] (vB false) [] := by
 refine sat_of_body tab_ok Try.func42 rfl (by kernel_rfl) (Nat.le_of_ble_eq_true rfl) rfl fun G => ?_
 refine awp_seq ?_
 refine rk boxes [] [0, 2] [] ⟨12, [(0, (sc (.pointer none))), (2, (vB false))], [], []⟩ (by kernel_rfl) .n ?_
 refine peel_seq ?_
 refine awp_seq ?_
 refine rk boxes [] [2] [] ⟨12, [(2, (vB false))], [], []⟩ (by kernel_rfl) .n ?_
 refine peel_seq ?_
 refine awp_ret ?_
 exact ends_ret rfl rfl rfl
theorem k_made_zero  : Sat Try.prog 42 [(vT (dP [(.v (.pointer none))]))] [] (vB false) [] := by
 refine sat_of_body tab_ok Try.func42 rfl (by kernel_rfl) (Nat.le_of_ble_eq_true rfl) rfl fun G => ?_
 refine awp_seq ?_
 refine rk boxes [] [0, 2] [] ⟨12, [(0, (vT (dP [(.v (.pointer none))]))), (2, (vB false))], [], []⟩ (by kernel_rfl) .n ?_
 refine peel_seq ?_
 refine awp_seq ?_
 refine rk boxes [] [2] [] ⟨12, [(2, (vB false))], [], []⟩ (by kernel_rfl) .n ?_
 refine peel_seq ?_
 refine awp_ret ?_
 exact ends_ret rfl rfl rfl
theorem k_Len (t : Tr) : Sat Try.prog 22 [(vL 5000 0)] [(5000, (.cells 51 [(.d (dP [(encT t)]))]))] (vI (t.size : Int)) [(5000, (.cells 51 [(.d (dP [(encT t)]))]))] := by
 refine sat_of_body tab_ok Try.func22 rfl (by kernel_rfl) (Nat.le_of_ble_eq_true rfl) rfl fun G => ?_
 refine awp_seq ?_
 refine rk boxes [] [0, 2] [5000] ⟨11, [(0, (vL 5000 0)), (2, (vI 0))], [(5000, (.cells 51 [(.d (dP [(encT t)]))]))], [5000]⟩ (by kernel_rfl) .n ?_
 refine peel_seq ?_
 refine awp_seq ?_
 refine awp_seq ?_
 refine rk boxes [⟨1, true, [(sc (.func (.func 42) #[] #[])), (vL 5000 0)], [(5000, (.cells 51 [(.d (dP [(encT t)]))]))], (vB true), []⟩] [0, 2, 5] [5000] ⟨11, [(0, (vL 5000 0)), (2, (vI 0)), (5, (vB false))], [(5000, (.cells 51 [(.d (dP [(encT t)]))]))], [5000]⟩ (by kernel_rfl) (.c (tri_call (k_made t)) .n) ?_
 refine peel_seq ?_
 refine awp_false rfl ?_
 refine awp_skip ?_
 refine peel_seq ?_
 refine awp_seq ?_
 refine rk boxes [⟨4, false, [(sc (.func (.func 44) #[] #[])), (vT (dP [(encT t)]))], [], (vI (t.size : Int)), []⟩] [2] [5000] ⟨11, [(2, (vI (t.size : Int)))], [(5000, (.cells 51 [(.d (dP [(encT t)]))]))], [5000]⟩ (by kernel_rfl) (.c (tri_call (s_Len t)) .n) ?_
 refine peel_seq ?_
 refine awp_ret ?_
 exact ends_ret rfl rfl rfl
theorem k_Len_nil  : Sat Try.prog 22 [(sc (.pointer none))] [] (vI 0) [] := by
 refine sat_of_body tab_ok Try.func22 rfl (by kernel_rfl) (Nat.le_of_ble_eq_true rfl) rfl fun G => ?_
 refine awp_seq ?_
 refine rk boxes [] [0, 2] [] ⟨11, [(0, (sc (.pointer none))), (2, (vI 0))], [], []⟩ (by kernel_rfl) .n ?_
 refine peel_seq ?_
 refine awp_seq ?_
 refine awp_seq ?_
 refine rk boxes [⟨1, false, [(sc (.func (.func 42) #[] #[])), (sc (.pointer none))], [], (vB false), []⟩] [0, 2, 5] [] ⟨11, [(0, (sc (.pointer none))), (2, (vI 0)), (5, (vB true))], [], []⟩ (by kernel_rfl) (.c (tri_call (k_made_nil)) .n) ?_
 refine peel_seq ?_
 refine awp_true rfl ?_
 refine awp_seq ?_
 refine rk boxes [] [0, 2] [] ⟨11, [(0, (sc (.pointer none))), (2, (vI 0))], [], []⟩ (by kernel_rfl) .n ?_
 refine peel_seq ?_
 refine awp_ret ?_
 refine peel_seq_ret ?_
 exact ends_ret rfl rfl rfl
theorem k_Len_zero  : Sat Try.prog 22 [(vT (dP [(.v (.pointer none))]))] [] (vI 0) [] := by
 refine sat_of_body tab_ok Try.func22 rfl (by kernel_rfl) (Nat.le_of_ble_eq_true rfl) rfl fun G => ?_
 refine awp_seq ?_
 refine rk boxes [] [0, 2] [] ⟨11, [(0, (vT (dP [(.v (.pointer none))]))), (2, (vI 0))], [], []⟩ (by kernel_rfl) .n ?_
 refine peel_seq ?_
 refine awp_seq ?_
 refine awp_seq ?_
 refine rk boxes [⟨1, false, [(sc (.func (.func 42) #[] #[])), (vT (dP [(.v (.pointer none))]))], [], (vB false), []⟩] [0, 2, 5] [] ⟨11, [(0, (vT (dP [(.v (.pointer none))]))), (2, (vI 0)), (5, (vB true))], [], []⟩ (by kernel_rfl) (.c (tri_call (k_made_zero)) .n) ?_
 refine peel_seq ?_
 refine awp_true rfl ?_
 refine awp_seq ?_
 refine rk boxes [] [0, 2] [] ⟨11, [(0, (vT (dP [(.v (.pointer none))]))), (2, (vI 0))], [], []⟩ (by kernel_rfl) .n ?_
 refine peel_seq ?_
 refine awp_ret ?_
 refine peel_seq_ret ?_
 exact ends_ret rfl rfl rfl
theorem k_Get (t : Tr) (k : ByteArray) : Sat Try.prog 20 [(vL 5000 0), (vS k)] [(5000, (.cells 51 [(.d (dP [(encT t)]))]))] (.tup [(.c (cS (Tr.getT t k).1)), (.c (cB (Tr.getT t k).2))]) [(5000, (.cells 51 [(.d (dP [(encT t)]))]))] := by
 refine sat_of_body tab_ok Try.func20 rfl (by kernel_rfl) (Nat.le_of_ble_eq_true rfl) rfl fun G => ?_
 refine awp_seq ?_
 refine rk boxes [] [0, 1, 4, 5] [5000] ⟨17, [(0, (vL 5000 0)), (1, (vS k)), (4, (vS ⟨#[]⟩)), (5, (vB false))], [(5000, (.cells 51 [(.d (dP [(encT t)]))]))], [5000]⟩ (by kernel_rfl) .n ?_
 refine peel_seq ?_
 refine awp_seq ?_
 refine awp_seq ?_
 refine rk boxes [⟨1, true, [(sc (.func (.func 42) #[] #[])), (vL 5000 0)], [(5000, (.cells 51 [(.d (dP [(encT t)]))]))], (vB true), []⟩] [0, 1, 4, 5, 8] [5000] ⟨17, [(0, (vL 5000 0)), (1, (vS k)), (4, (vS ⟨#[]⟩)), (5, (vB false)), (8, (vB false))], [(5000, (.cells 51 [(.d (dP [(encT t)]))]))], [5000]⟩ (by kernel_rfl) (.c (tri_call (k_made t)) .n) ?_
 refine peel_seq ?_
 refine awp_false rfl ?_
 refine awp_skip ?_
 refine peel_seq ?_
 refine awp_seq ?_
 refine rk boxes [⟨5, false, [(sc (.func (.func 49) #[] #[])), (vT (dP [(encT t)])), (vS k)], [], (.tup [(.c (cS (Tr.getT t k).1)), (.c (cB (Tr.getT t k).2))]), []⟩] [4, 5] [5000] ⟨17, [(4, (vS (Tr.getT t k).1)), (5, (vB (Tr.getT t k).2))], [(5000, (.cells 51 [(.d (dP [(encT t)]))]))], [5000]⟩ (by kernel_rfl) (.c (tri_call (s_TGet t k)) .n) ?_
 refine peel_seq ?_
 refine awp_ret ?_
 exact ends_ret rfl rfl rfl
theorem k_Get_nil (k : ByteArray) : Sat Try.prog 20 [(sc (.pointer none)), (vS k)] [] (.tup [(.c (cS ⟨#[]⟩)), (.c (cB false))]) [] := by
 refine sat_of_body tab_ok Try.func20 rfl (by kernel_rfl) (Nat.le_of_ble_eq_true rfl) rfl fun G => ?_
 refine awp_seq ?_
 refine rk boxes [] [0, 1, 4, 5] [] ⟨17, [(0, (sc (.pointer none))), (1, (vS k)), (4, (vS ⟨#[]⟩)), (5, (vB false))], [], []⟩ (by kernel_rfl) .n ?_
 refine peel_seq ?_
 refine awp_seq ?_
 refine awp_seq ?_
 refine rk boxes [⟨1, false, [(sc (.func (.func 42) #[] #[])), (sc (.pointer none))], [], (vB false), []⟩] [0, 1, 4, 5, 8] [] ⟨17, [(0, (sc (.pointer none))), (1, (vS k)), (4, (vS ⟨#[]⟩)), (5, (vB false)), (8, (vB true))], [], []⟩ (by kernel_rfl) (.c (tri_call (k_made_nil)) .n) ?_
 refine peel_seq ?_
 refine awp_true rfl ?_
 refine awp_seq ?_
 refine rk boxes [] [0, 1, 4, 5] [] ⟨17, [(0, (sc (.pointer none))), (1, (vS k)), (4, (vS ⟨#[]⟩)), (5, (vB false))], [], []⟩ (by kernel_rfl) .n ?_
 refine peel_seq ?_
 refine awp_ret ?_
 refine peel_seq_ret ?_
 exact ends_ret rfl rfl rfl
theorem k_Get_zero (k : ByteArray) : Sat Try.prog 20 [(vT (dP [(.v (.pointer none))])), (vS k)] [] (.tup [(.c (cS ⟨#[]⟩)), (.c (cB false))]) [] := by
 refine sat_of_body tab_ok Try.func20 rfl (by kernel_rfl) (Nat.le_of_ble_eq_true rfl) rfl fun G => ?_
 refine awp_seq ?_
 refine rk boxes [] [0, 1, 4, 5] [] ⟨17, [(0, (vT (dP [(.v (.pointer none))]))), (1, (vS k)), (4, (vS ⟨#[]⟩)), (5, (vB false))], [], []⟩ (by kernel_rfl) .n ?_
 refine peel_seq ?_
 refine awp_seq ?_
 refine awp_seq ?_
 refine rk boxes [⟨1, false, [(sc (.func (.func 42) #[] #[])), (vT (dP [(.v (.pointer none))]))], [], (vB false), []⟩] [0, 1, 4, 5, 8] [] ⟨17, [(0, (vT (dP [(.v (.pointer none))]))), (1, (vS k)), (4, (vS ⟨#[]⟩)), (5, (vB false)), (8, (vB true))], [], []⟩ (by kernel_rfl) (.c (tri_call (k_made_zero)) .n) ?_
 refine peel_seq ?_
 refine awp_true rfl ?_
 refine awp_seq ?_
 refine rk boxes [] [0, 1, 4, 5] [] ⟨17, [(0, (vT (dP [(.v (.pointer none))]))), (1, (vS k)), (4, (vS ⟨#[]⟩)), (5, (vB false))], [], []⟩ (by kernel_rfl) .n ?_
 refine peel_seq ?_
 refine awp_ret ?_
 refine peel_seq_ret ?_
 exact ends_ret rfl rfl rfl
theorem k_New  : Sat Try.prog 24 [] [] (vL 5001 0) [(5001, (.cells 51 [(.d (dP [(encT (Tr.nil))]))]))] := by
 refine sat_of_body tab_ok Try.func24 rfl (by kernel_rfl) (Nat.le_of_ble_eq_true rfl) rfl fun G => ?_
 refine awp_seq ?_
 refine rk boxes [] [0] [] ⟨4, [(0, (sc (.pointer none)))], [], []⟩ (by kernel_rfl) .n ?_
 refine peel_seq ?_
 refine awp_seq ?_
 refine rk boxes [⟨0, false, [(sc (.func (.func 46) #[] #[]))], [], (vT (dP [(encT (Tr.nil))])), []⟩] [0] [3] ⟨4, [(0, (vL 3 0))], [(3, (.cells 51 [(.d (dP [(encT (Tr.nil))]))]))], []⟩ (by kernel_rfl) (.c (tri_call (s_TNew)) .n) ?_
 refine peel_seq ?_
 refine awp_mv [.sw 3 5001] ⟨4, [(0, (vL 5001 0))], [(5001, (.cells 51 [(.d (dP [(encT (Tr.nil))]))]))], []⟩ rfl ?_
 refine awp_ret ?_
 exact ends_ret rfl rfl rfl
theorem k_right (l : List AOp) : Sat Try.prog 45 [(vD (List.map encOp l))] [] (vI (rightF l [])) [] := by
 refine sat_of_body tab_ok Try.func45 rfl (by kernel_rfl) (Nat.le_of_ble_eq_true rfl) rfl fun G => ?_
 refine awp_seq ?_
 refine rk boxes [] [0, 2] [] ⟨46, [(0, (vD (List.map encOp l))), (2, (vI 0))], [], []⟩ (by kernel_rfl) .n ?_
 refine peel_seq ?_
 refine awp_seq ?_
 refine rk boxes [⟨0, false, [], [], (vO 6), [(6, (.opq (setR [])))]⟩] [0, 2, 3] [6] ⟨46, [(0, (vD (List.map encOp l))), (2, (vI 0)), (3, (vO 6))], [(6, (.opq (setR [])))], []⟩ (by kernel_rfl) (.c (tri_set_new 6) .n) ?_
 refine peel_seq ?_
 refine awp_seq ?_
 refine awp_seq ?_
 refine rk boxes [⟨1, true, [(vD (List.map encOp l))], [], (vI (List.length l : Int)), []⟩] [2, 3, 7, 8, 9] [6] ⟨46, [(2, (vI 0)), (3, (vO 6)), (7, (vD (List.map encOp l))), (8, (vI (List.length l : Int))), (9, (vI 0))], [(6, (.opq (setR [])))], []⟩ (by kernel_rfl) (.c (tri_len_map tab_ok rfl) .n) ?_
 refine peel_seq ?_
 refine awp_block ?_
 refine awp_len 7 rfl (fun hlen1 => ?_)
 refine awp_loopP (ι := Nat × (List ByteArray)) (fun x => ⟨46, [(2, (vI 0)), (3, (vO 6)), (7, (vD (List.map encOp l))), (8, (vI (List.length l : Int))), (9, (vI (x.1 : Int)))], [(6, (.opq (setR x.2)))], []⟩) (fun x => x.1 ≤ List.length l ∧ (True) ∧ rightF (List.drop x.1 l) x.2 = rightF l []) (fun x => List.length l - x.1) (0, []) rfl ⟨Nat.zero_le _, trivial, rfl⟩ ?_
 rintro ⟨k2, a3⟩ ⟨hk4, hx5, hJ6⟩
 try simp only at hk4 hx5 hJ6
 refine awp_seq ?_
 refine rk boxes [] [2, 3, 7, 8, 9, 10] [6] ⟨46, [(2, (vI 0)), (3, (vO 6)), (7, (vD (List.map encOp l))), (8, (vI (List.length l : Int))), (9, (vI (k2 : Int))), (10, (vB (decide ((k2 : Int) < (List.length l : Int)))))], [(6, (.opq (setR a3)))], []⟩ (by kernel_rfl) .n ?_
 refine peel_seq ?_
 refine awp_seq ?_
 refine awp_cond (b := (decide ((k2 : Int) < (List.length l : Int)))) rfl (fun hc7 => ?_) (fun hc7 => ?_)
 ·skip
  have hc7p := of_decide_eq_true hc7
  refine awp_skip ?_
  refine peel_seq ?_
  refine awp_seq ?_
  refine awp_block ?_
  refine awp_seq ?_
  obtain ⟨⟨key11, has12, val13⟩, ha9, hd10⟩ := at_drop (l := l) (k := k2) (by (try simp only [List.length_map] at *); omega)
  refine rk boxes [⟨0, false, [(vD (List.map encOp l)), (vI (k2 : Int))], [], (vT (dP [(dS key11), (dB has12), (dS val13)])), []⟩] [2, 3, 5, 7, 8, 9] [5, 6] ⟨46, [(2, (vI 0)), (3, (vO 6)), (5, (vL 5 0)), (7, (vD (List.map encOp l))), (8, (vI (List.length l : Int))), (9, (vI (k2 : Int)))], [(5, (.cells 35 [(cS key11), (cB has12), (cS val13)])), (6, (.opq (setR a3)))], []⟩ (by kernel_rfl) (.c (tri_index_sl (e := 35) (sz := 3) (bytes := 40) (i := k2) tab_ok rfl (at_map encOp ha9) (all_map fun _ => rfl)) .n) ?_
  refine peel_seq ?_
  refine awp_seq ?_
  refine awp_block ?_
  refine awp_seq ?_
  refine rk boxes [⟨2, false, [(sc (.func (.func 72) #[] #[])), (vS key11)], [], (vI (keyE key11)), []⟩] [2, 3, 5, 7, 8, 9, 13] [5, 6] ⟨46, [(2, (vI 0)), (3, (vO 6)), (5, (vL 5 0)), (7, (vD (List.map encOp l))), (8, (vI (List.length l : Int))), (9, (vI (k2 : Int))), (13, (vB ((keyE key11) != 0)))], [(5, (.cells 35 [(cS key11), (cB has12), (cS val13)])), (6, (.opq (setR a3)))], []⟩ (by kernel_rfl) (.c (tri_call (s_Key key11)) .n) ?_
  refine peel_seq ?_
  refine awp_cond (b := ((keyE key11) != 0)) rfl (fun hc14 => ?_) (fun hc14 => ?_)
  ·skip
   have hc14p : (keyE key11) ≠ 0 := by simpa using hc14
   refine awp_seq ?_
   refine rk boxes [] [2, 3, 5, 7, 8, 9] [5, 6] ⟨46, [(2, (vI 20)), (3, (vO 6)), (5, (vL 5 0)), (7, (vD (List.map encOp l))), (8, (vI (List.length l : Int))), (9, (vI (k2 : Int)))], [(5, (.cells 35 [(cS key11), (cB has12), (cS val13)])), (6, (.opq (setR a3)))], []⟩ (by kernel_rfl) .n ?_
   refine peel_seq ?_
   have hE15 := hJ6
   rw [hd10] at hE15
   simp only [rightF, badV, hc14, hc7, cond_true, cond_false, Bool.not_true, Bool.not_false] at hE15
   refine awp_ret ?_
   refine peel_block_ret ?_
   refine peel_seq_ret ?_
   refine peel_block_ret ?_
   refine peel_seq_ret ?_
   refine peel_seq_ret ?_
   refine peel_block_ret ?_
   refine peel_seq_ret ?_
   exact ends_ret rfl (show some ((vI 20) : SV) = some ((vI (rightF l [])) : SV) from by first | rfl | ((try simp only [cond_true, cond_false, Bool.not_true, Bool.not_false] at hE15); (first | (simp only [hc14, hc7, ← hE15, cond_true, cond_false, Bool.not_true, Bool.not_false, List.map_nil]; done) | (simp only [rightF, badV, hc14, hc7, ← hE15, cond_true, cond_false, Bool.not_true, Bool.not_false, List.map_nil])))) rfl
  ·skip
   have hc14p : (keyE key11) = 0 := by simpa using hc14
   refine awp_seq ?_
   cases has12 with
   | false =>
    refine rk boxes [⟨15, false, [(vS val13), (vS ⟨#[]⟩)], [], (vB (!(eqS val13 ⟨#[]⟩))), []⟩] [2, 3, 5, 7, 8, 9, 18] [5, 6] ⟨46, [(2, (vI 0)), (3, (vO 6)), (5, (vL 5 0)), (7, (vD (List.map encOp l))), (8, (vI (List.length l : Int))), (9, (vI (k2 : Int))), (18, (vB (!(eqS val13 ⟨#[]⟩))))], [(5, (.cells 35 [(cS key11), (cB false), (cS val13)])), (6, (.opq (setR a3)))], []⟩ (by kernel_rfl) (.c (tri_str_neq) .n) ?_
    refine peel_seq ?_
    refine awp_cond (b := (!(eqS val13 ⟨#[]⟩))) rfl (fun hc16 => ?_) (fun hc16 => ?_)
    ·skip
     have hc16n : (eqS val13 ⟨#[]⟩) = false := by simpa using hc16
     have hc16np := eqS_false hc16n
     refine awp_seq ?_
     refine rk boxes [] [2, 3, 5, 7, 8, 9] [5, 6] ⟨46, [(2, (vI 21)), (3, (vO 6)), (5, (vL 5 0)), (7, (vD (List.map encOp l))), (8, (vI (List.length l : Int))), (9, (vI (k2 : Int)))], [(5, (.cells 35 [(cS key11), (cB false), (cS val13)])), (6, (.opq (setR a3)))], []⟩ (by kernel_rfl) .n ?_
     refine peel_seq ?_
     have hE17 := hJ6
     rw [hd10] at hE17
     simp only [rightF, badV, hc14, hc16, hc16n, hc7, cond_true, cond_false, Bool.not_true, Bool.not_false] at hE17
     refine awp_ret ?_
     refine peel_block_ret ?_
     refine peel_seq_ret ?_
     refine peel_block_ret ?_
     refine peel_seq_ret ?_
     refine peel_seq_ret ?_
     refine peel_block_ret ?_
     refine peel_seq_ret ?_
     exact ends_ret rfl (show some ((vI 21) : SV) = some ((vI (rightF l [])) : SV) from by first | rfl | ((try simp only [cond_true, cond_false, Bool.not_true, Bool.not_false] at hE17); (first | (simp only [hc14, hc16, hc16n, hc7, ← hE17, cond_true, cond_false, Bool.not_true, Bool.not_false, List.map_nil]; done) | (simp only [rightF, badV, hc14, hc16, hc16n, hc7, ← hE17, cond_true, cond_false, Bool.not_true, Bool.not_false, List.map_nil])))) rfl
    ·skip
     have hc16n : (eqS val13 ⟨#[]⟩) = true := by simpa using hc16
     have hc16np := eqS_true hc16n
     refine awp_seq ?_
     refine rk boxes [⟨3, true, [(vO 6), (vS key11)], [(6, (.opq (setR a3)))], (vB (hasK a3 key11)), []⟩] [2, 3, 5, 7, 8, 9, 37] [5, 6] ⟨46, [(2, (vI 0)), (3, (vO 6)), (5, (vL 5 0)), (7, (vD (List.map encOp l))), (8, (vI (List.length l : Int))), (9, (vI (k2 : Int))), (37, (vB (hasK a3 key11)))], [(5, (.cells 35 [(cS key11), (cB false), (cS val13)])), (6, (.opq (setR a3)))], []⟩ (by kernel_rfl) (.c (tri_set_get (kt := 9) (et := 4) (by kernel_rfl) (by kernel_rfl) (by kernel_rfl)) .n) ?_
     refine peel_seq ?_
     refine awp_cond (b := (hasK a3 key11)) rfl (fun hc18 => ?_) (fun hc18 => ?_)
     ·skip
      refine awp_seq ?_
      refine rk boxes [] [2, 3, 5, 7, 8, 9] [5, 6] ⟨46, [(2, (vI 61)), (3, (vO 6)), (5, (vL 5 0)), (7, (vD (List.map encOp l))), (8, (vI (List.length l : Int))), (9, (vI (k2 : Int)))], [(5, (.cells 35 [(cS key11), (cB false), (cS val13)])), (6, (.opq (setR a3)))], []⟩ (by kernel_rfl) .n ?_
      refine peel_seq ?_
      have hE19 := hJ6
      rw [hd10] at hE19
      simp only [rightF, badV, hc14, hc16, hc16n, hc18, hc7, cond_true, cond_false, Bool.not_true, Bool.not_false] at hE19
      refine awp_ret ?_
      refine peel_block_ret ?_
      refine peel_seq_ret ?_
      refine peel_block_ret ?_
      refine peel_seq_ret ?_
      refine peel_seq_ret ?_
      refine peel_block_ret ?_
      refine peel_seq_ret ?_
      exact ends_ret rfl (show some ((vI 61) : SV) = some ((vI (rightF l [])) : SV) from by first | rfl | ((try simp only [cond_true, cond_false, Bool.not_true, Bool.not_false] at hE19); (first | (simp only [hc14, hc16, hc16n, hc18, hc7, ← hE19, cond_true, cond_false, Bool.not_true, Bool.not_false, List.map_nil]; done) | (simp only [rightF, badV, hc14, hc16, hc16n, hc18, hc7, ← hE19, cond_true, cond_false, Bool.not_true, Bool.not_false, List.map_nil])))) rfl
     ·skip
      refine q_keep [2, 3, 5, 7, 8, 9] [5, 6] ?_
      refine awp_skip ?_
      refine peel_block ?_
      refine peel_seq ?_
      refine rk boxes [⟨3, false, [(vO 6), (vS key11), (vB true)], [(6, (.opq (setR a3)))], .any, [(6, (.opq (setR (a3 ++ [key11]))))]⟩] [2, 3, 7, 8, 9] [6] ⟨46, [(2, (vI 0)), (3, (vO 6)), (7, (vD (List.map encOp l))), (8, (vI (List.length l : Int))), (9, (vI (k2 : Int)))], [(6, (.opq (setR (a3 ++ [key11]))))], []⟩ (by kernel_rfl) (.c (tri_set_put (kt := 9) (et := 4) (by kernel_rfl) (by kernel_rfl) hc18) .n) ?_
      refine peel_block ?_
      refine peel_seq ?_
      refine rk boxes [⟨0, false, [(vI (k2 : Int)), (vI 1)], [], (vI ((k2 : Int) + 1)), []⟩] [2, 3, 7, 8, 9] [6] ⟨46, [(2, (vI 0)), (3, (vO 6)), (7, (vD (List.map encOp l))), (8, (vI (List.length l : Int))), (9, (vI ((k2 : Int) + 1)))], [(6, (.opq (setR (a3 ++ [key11]))))], []⟩ (by kernel_rfl) (.c (tri_int ((k2 : Int) + 1) (wrap_i64 (by omega))) .n) ?_
      exact peel_round (k2 + 1, (a3 ++ [key11])) rfl ⟨by (try simp only [List.length_map] at *); omega, trivial, by have hj := hJ6; rw [hd10] at hj; simp only [rightF, badV, hc14, hc16, hc16n, hc18, hc7, cond_true, cond_false, Bool.not_true, Bool.not_false] at hj ⊢; exact hj⟩ (by (try simp only [List.length_map] at *); omega)
   | true =>
    cases hb20 : ((valE val13) != 0) with
    | false =>
     have hb20p : (valE val13) = 0 := by simpa using hb20
     refine rk boxes [⟨5, false, [(sc (.func (.func 73) #[] #[])), (vS val13)], [], (vI (valE val13)), []⟩, ⟨6, false, [(vI (valE val13)), (vI 0)], [], (vB false), []⟩] [2, 3, 5, 7, 8, 9, 18] [5, 6] ⟨46, [(2, (vI 0)), (3, (vO 6)), (5, (vL 5 0)), (7, (vD (List.map encOp l))), (8, (vI (List.length l : Int))), (9, (vI (k2 : Int))), (18, (vB false))], [(5, (.cells 35 [(cS key11), (cB true), (cS val13)])), (6, (.opq (setR a3)))], []⟩ (by kernel_rfl) (.c (tri_call (s_Value val13)) (.c (tri_scalar_eq [(.int .i64 (valE val13)), (.int .i64 0)] (.bool ((valE val13) != 0)) rfl rfl rfl (by kernel_rfl) (congrArg Value.bool hb20)) .n)) ?_
     refine peel_seq ?_
     refine awp_false rfl ?_
     refine awp_seq ?_
     refine rk boxes [⟨3, true, [(vO 6), (vS key11)], [(6, (.opq (setR a3)))], (vB (hasK a3 key11)), []⟩] [2, 3, 5, 7, 8, 9, 37] [5, 6] ⟨46, [(2, (vI 0)), (3, (vO 6)), (5, (vL 5 0)), (7, (vD (List.map encOp l))), (8, (vI (List.length l : Int))), (9, (vI (k2 : Int))), (37, (vB (hasK a3 key11)))], [(5, (.cells 35 [(cS key11), (cB true), (cS val13)])), (6, (.opq (setR a3)))], []⟩ (by kernel_rfl) (.c (tri_set_get (kt := 9) (et := 4) (by kernel_rfl) (by kernel_rfl) (by kernel_rfl)) .n) ?_
     refine peel_seq ?_
     refine awp_cond (b := (hasK a3 key11)) rfl (fun hc21 => ?_) (fun hc21 => ?_)
     ·skip
      refine awp_seq ?_
      refine rk boxes [] [2, 3, 5, 7, 8, 9] [5, 6] ⟨46, [(2, (vI 61)), (3, (vO 6)), (5, (vL 5 0)), (7, (vD (List.map encOp l))), (8, (vI (List.length l : Int))), (9, (vI (k2 : Int)))], [(5, (.cells 35 [(cS key11), (cB true), (cS val13)])), (6, (.opq (setR a3)))], []⟩ (by kernel_rfl) .n ?_
      refine peel_seq ?_
      have hE22 := hJ6
      rw [hd10] at hE22
      simp only [rightF, badV, hb20, hc14, hc21, hc7, cond_true, cond_false, Bool.not_true, Bool.not_false] at hE22
      refine awp_ret ?_
      refine peel_block_ret ?_
      refine peel_seq_ret ?_
      refine peel_block_ret ?_
      refine peel_seq_ret ?_
      refine peel_seq_ret ?_
      refine peel_block_ret ?_
      refine peel_seq_ret ?_
      exact ends_ret rfl (show some ((vI 61) : SV) = some ((vI (rightF l [])) : SV) from by first | rfl | ((try simp only [cond_true, cond_false, Bool.not_true, Bool.not_false] at hE22); (first | (simp only [hb20, hc14, hc21, hc7, ← hE22, cond_true, cond_false, Bool.not_true, Bool.not_false, List.map_nil]; done) | (simp only [rightF, badV, hb20, hc14, hc21, hc7, ← hE22, cond_true, cond_false, Bool.not_true, Bool.not_false, List.map_nil])))) rfl
     ·skip
      refine q_keep [2, 3, 5, 7, 8, 9] [5, 6] ?_
      refine awp_skip ?_
      refine peel_block ?_
      refine peel_seq ?_
      refine rk boxes [⟨3, false, [(vO 6), (vS key11), (vB true)], [(6, (.opq (setR a3)))], .any, [(6, (.opq (setR (a3 ++ [key11]))))]⟩] [2, 3, 7, 8, 9] [6] ⟨46, [(2, (vI 0)), (3, (vO 6)), (7, (vD (List.map encOp l))), (8, (vI (List.length l : Int))), (9, (vI (k2 : Int)))], [(6, (.opq (setR (a3 ++ [key11]))))], []⟩ (by kernel_rfl) (.c (tri_set_put (kt := 9) (et := 4) (by kernel_rfl) (by kernel_rfl) hc21) .n) ?_
      refine peel_block ?_
      refine peel_seq ?_
      refine rk boxes [⟨0, false, [(vI (k2 : Int)), (vI 1)], [], (vI ((k2 : Int) + 1)), []⟩] [2, 3, 7, 8, 9] [6] ⟨46, [(2, (vI 0)), (3, (vO 6)), (7, (vD (List.map encOp l))), (8, (vI (List.length l : Int))), (9, (vI ((k2 : Int) + 1)))], [(6, (.opq (setR (a3 ++ [key11]))))], []⟩ (by kernel_rfl) (.c (tri_int ((k2 : Int) + 1) (wrap_i64 (by omega))) .n) ?_
      exact peel_round (k2 + 1, (a3 ++ [key11])) rfl ⟨by (try simp only [List.length_map] at *); omega, trivial, by have hj := hJ6; rw [hd10] at hj; simp only [rightF, badV, hb20, hc14, hc21, hc7, cond_true, cond_false, Bool.not_true, Bool.not_false] at hj ⊢; exact hj⟩ (by (try simp only [List.length_map] at *); omega)
    | true =>
     have hb20p : (valE val13) ≠ 0 := by simpa using hb20
     refine rk boxes [⟨5, false, [(sc (.func (.func 73) #[] #[])), (vS val13)], [], (vI (valE val13)), []⟩, ⟨6, false, [(vI (valE val13)), (vI 0)], [], (vB true), []⟩] [2, 3, 5, 7, 8, 9, 18] [5, 6] ⟨46, [(2, (vI 0)), (3, (vO 6)), (5, (vL 5 0)), (7, (vD (List.map encOp l))), (8, (vI (List.length l : Int))), (9, (vI (k2 : Int))), (18, (vB true))], [(5, (.cells 35 [(cS key11), (cB true), (cS val13)])), (6, (.opq (setR a3)))], []⟩ (by kernel_rfl) (.c (tri_call (s_Value val13)) (.c (tri_scalar_eq [(.int .i64 (valE val13)), (.int .i64 0)] (.bool ((valE val13) != 0)) rfl rfl rfl (by kernel_rfl) (congrArg Value.bool hb20)) .n)) ?_
     refine peel_seq ?_
     refine awp_true rfl ?_
     refine awp_seq ?_
     refine rk boxes [] [2, 3, 5, 7, 8, 9] [5, 6] ⟨46, [(2, (vI 21)), (3, (vO 6)), (5, (vL 5 0)), (7, (vD (List.map encOp l))), (8, (vI (List.length l : Int))), (9, (vI (k2 : Int)))], [(5, (.cells 35 [(cS key11), (cB true), (cS val13)])), (6, (.opq (setR a3)))], []⟩ (by kernel_rfl) .n ?_
     refine peel_seq ?_
     have hE23 := hJ6
     rw [hd10] at hE23
     simp only [rightF, badV, hb20, hc14, hc7, cond_true, cond_false, Bool.not_true, Bool.not_false] at hE23
     refine awp_ret ?_
     refine peel_block_ret ?_
     refine peel_seq_ret ?_
     refine peel_block_ret ?_
     refine peel_seq_ret ?_
     refine peel_seq_ret ?_
     refine peel_block_ret ?_
     refine peel_seq_ret ?_
     exact ends_ret rfl (show some ((vI 21) : SV) = some ((vI (rightF l [])) : SV) from by first | rfl | ((try simp only [cond_true, cond_false, Bool.not_true, Bool.not_false] at hE23); (first | (simp only [hb20, hc14, hc7, ← hE23, cond_true, cond_false, Bool.not_true, Bool.not_false, List.map_nil]; done) | (simp only [rightF, badV, hb20, hc14, hc7, ← hE23, cond_true, cond_false, Bool.not_true, Bool.not_false, List.map_nil])))) rfl
 ·skip
  have hc7p := of_decide_eq_false hc7
  have hE24 := hJ6
  rw [at_end (l := l) (by (try simp only [List.length_map] at *); omega)] at hE24
  simp only [rightF, badV, hc7, cond_true, cond_false, Bool.not_true, Bool.not_false] at hE24
  refine awp_exit ?_
  refine peel_seq_exit ?_
  refine peel_seq_exit ?_
  refine peel_hit ?_
  refine peel_seq ?_
  refine awp_seq ?_
  refine rk boxes [] [2] [] ⟨46, [(2, (vI 0))], [], []⟩ (by kernel_rfl) .n ?_
  refine peel_seq ?_
  refine awp_ret ?_
  exact ends_ret rfl (show some ((vI 0) : SV) = some ((vI (rightF l [])) : SV) from by first | rfl | ((try simp only [cond_true, cond_false, Bool.not_true, Bool.not_false] at hE24); (first | (simp only [hc7, ← hE24, cond_true, cond_false, Bool.not_true, Bool.not_false, List.map_nil]; done) | (simp only [rightF, badV, hc7, ← hE24, cond_true, cond_false, Bool.not_true, Bool.not_false, List.map_nil])))) rfl
theorem k_Check (conds ops : List AOp) : Sat Try.prog 48 [(vD (List.map encOp conds)), (vD (List.map encOp ops))] [] (vI (checkE conds ops)) [] := by
 refine sat_of_body tab_ok Try.func48 rfl (by kernel_rfl) (Nat.le_of_ble_eq_true rfl) rfl fun G => ?_
 refine awp_seq ?_
 refine rk boxes [] [0, 1, 4] [] ⟨27, [(0, (vD (List.map encOp conds))), (1, (vD (List.map encOp ops))), (4, (vI 0))], [], []⟩ (by kernel_rfl) .n ?_
 refine peel_seq ?_
 refine awp_seq ?_
 refine awp_block ?_
 refine awp_seq ?_
 cases hb1 : ((List.length ops : Int) == 0) with
 | false =>
  have hb1p : (List.length ops : Int) ≠ 0 := by simpa using hb1
  cases hb2 : (decide ((List.length ops : Int) > 6)) with
  | false =>
   have hb2p := of_decide_eq_false hb2
   refine rk boxes [⟨1, true, [(vD (List.map encOp ops))], [], (vI (List.length ops : Int)), []⟩, ⟨2, false, [(vI (List.length ops : Int)), (vI 0)], [], (vB false), []⟩, ⟨5, true, [(vD (List.map encOp ops))], [], (vI (List.length ops : Int)), []⟩, ⟨6, false, [(vI (List.length ops : Int)), (vI 6)], [], (vB false), []⟩, ⟨10, true, [(vD (List.map encOp conds))], [], (vI (List.length conds : Int)), []⟩] [0, 1, 4, 6] [] ⟨27, [(0, (vD (List.map encOp conds))), (1, (vD (List.map encOp ops))), (4, (vI 0)), (6, (vB (decide ((List.length conds : Int) > 6))))], [], []⟩ (by kernel_rfl) (.c (tri_len_map tab_ok rfl) (.c (tri_scalar_eq [(.int .i64 (List.length ops : Int)), (.int .i64 0)] (.bool ((List.length ops : Int) == 0)) rfl rfl rfl (by kernel_rfl) (congrArg Value.bool hb1)) (.c (tri_len_map tab_ok rfl) (.c (tri_scalar_eq [(.int .i64 (List.length ops : Int)), (.int .i64 6)] (.bool (decide ((List.length ops : Int) > 6))) rfl rfl rfl (by kernel_rfl) (congrArg Value.bool hb2)) (.c (tri_len_map tab_ok rfl) .n))))) ?_
   refine peel_seq ?_
   refine awp_cond (b := (decide ((List.length conds : Int) > 6))) rfl (fun hc3 => ?_) (fun hc3 => ?_)
   ·skip
    have hc3p := of_decide_eq_true hc3
    refine awp_seq ?_
    refine rk boxes [] [0, 1, 4] [] ⟨27, [(0, (vD (List.map encOp conds))), (1, (vD (List.map encOp ops))), (4, (vI 61))], [], []⟩ (by kernel_rfl) .n ?_
    refine peel_seq ?_
    refine awp_ret ?_
    refine peel_block_ret ?_
    refine peel_seq_ret ?_
    exact ends_ret rfl (show some ((vI 61) : SV) = some ((vI (checkE conds ops)) : SV) from by first | rfl | ((first | (simp only [hb1, hb2, hc3, cond_true, cond_false, Bool.not_true, Bool.not_false, List.map_nil]; done) | (simp only [checkE, hb1, hb2, hc3, cond_true, cond_false, Bool.not_true, Bool.not_false, List.map_nil])))) rfl
   ·skip
    have hc3p := of_decide_eq_false hc3
    refine q_keep [0, 1, 4] [] ?_
    refine awp_skip ?_
    refine peel_block ?_
    refine peel_seq ?_
    refine awp_seq ?_
    refine awp_seq ?_
    refine rk boxes [⟨1, false, [(sc (.func (.func 45) #[] #[])), (vD (List.map encOp conds))], [], (vI (rightF conds [])), []⟩] [1, 4, 5] [] ⟨27, [(1, (vD (List.map encOp ops))), (4, (vI 0)), (5, (vI (rightF conds [])))], [], []⟩ (by kernel_rfl) (.c (tri_call (k_right conds)) .n) ?_
    refine peel_seq ?_
    refine awp_seq ?_
    refine rk boxes [] [1, 4, 5, 23] [] ⟨27, [(1, (vD (List.map encOp ops))), (4, (vI 0)), (5, (vI (rightF conds []))), (23, (vB ((rightF conds []) != 0)))], [], []⟩ (by kernel_rfl) .n ?_
    refine peel_seq ?_
    refine awp_cond (b := ((rightF conds []) != 0)) rfl (fun hc4 => ?_) (fun hc4 => ?_)
    ·skip
     have hc4p : (rightF conds []) ≠ 0 := by simpa using hc4
     refine awp_seq ?_
     refine rk boxes [] [1, 4] [] ⟨27, [(1, (vD (List.map encOp ops))), (4, (vI (rightF conds [])))], [], []⟩ (by kernel_rfl) .n ?_
     refine peel_seq ?_
     refine awp_ret ?_
     refine peel_seq_ret ?_
     exact ends_ret rfl (show some ((vI (rightF conds [])) : SV) = some ((vI (checkE conds ops)) : SV) from by first | rfl | ((first | (simp only [hb1, hb2, hc3, hc4, cond_true, cond_false, Bool.not_true, Bool.not_false, List.map_nil]; done) | (simp only [checkE, hb1, hb2, hc3, hc4, cond_true, cond_false, Bool.not_true, Bool.not_false, List.map_nil])))) rfl
    ·skip
     have hc4p : (rightF conds []) = 0 := by simpa using hc4
     refine awp_skip ?_
     refine peel_seq ?_
     refine awp_seq ?_
     refine rk boxes [⟨1, false, [(sc (.func (.func 45) #[] #[])), (vD (List.map encOp ops))], [], (vI (rightF ops [])), []⟩] [4] [] ⟨27, [(4, (vI (rightF ops [])))], [], []⟩ (by kernel_rfl) (.c (tri_call (k_right ops)) .n) ?_
     refine peel_seq ?_
     refine awp_ret ?_
     exact ends_ret rfl (show some ((vI (rightF ops [])) : SV) = some ((vI (checkE conds ops)) : SV) from by first | rfl | ((first | (simp only [hb1, hb2, hc3, hc4, cond_true, cond_false, Bool.not_true, Bool.not_false, List.map_nil]; done) | (simp only [checkE, hb1, hb2, hc3, hc4, cond_true, cond_false, Bool.not_true, Bool.not_false, List.map_nil])))) rfl
  | true =>
   have hb2p := of_decide_eq_true hb2
   refine rk boxes [⟨1, true, [(vD (List.map encOp ops))], [], (vI (List.length ops : Int)), []⟩, ⟨2, false, [(vI (List.length ops : Int)), (vI 0)], [], (vB false), []⟩, ⟨5, true, [(vD (List.map encOp ops))], [], (vI (List.length ops : Int)), []⟩, ⟨6, false, [(vI (List.length ops : Int)), (vI 6)], [], (vB true), []⟩] [0, 1, 4, 6] [] ⟨27, [(0, (vD (List.map encOp conds))), (1, (vD (List.map encOp ops))), (4, (vI 0)), (6, (vB true))], [], []⟩ (by kernel_rfl) (.c (tri_len_map tab_ok rfl) (.c (tri_scalar_eq [(.int .i64 (List.length ops : Int)), (.int .i64 0)] (.bool ((List.length ops : Int) == 0)) rfl rfl rfl (by kernel_rfl) (congrArg Value.bool hb1)) (.c (tri_len_map tab_ok rfl) (.c (tri_scalar_eq [(.int .i64 (List.length ops : Int)), (.int .i64 6)] (.bool (decide ((List.length ops : Int) > 6))) rfl rfl rfl (by kernel_rfl) (congrArg Value.bool hb2)) .n)))) ?_
   refine peel_seq ?_
   refine awp_true rfl ?_
   refine awp_seq ?_
   refine rk boxes [] [0, 1, 4] [] ⟨27, [(0, (vD (List.map encOp conds))), (1, (vD (List.map encOp ops))), (4, (vI 61))], [], []⟩ (by kernel_rfl) .n ?_
   refine peel_seq ?_
   refine awp_ret ?_
   refine peel_block_ret ?_
   refine peel_seq_ret ?_
   exact ends_ret rfl (show some ((vI 61) : SV) = some ((vI (checkE conds ops)) : SV) from by first | rfl | ((first | (simp only [hb1, hb2, cond_true, cond_false, Bool.not_true, Bool.not_false, List.map_nil]; done) | (simp only [checkE, hb1, hb2, cond_true, cond_false, Bool.not_true, Bool.not_false, List.map_nil])))) rfl
 | true =>
  have hb1p : (List.length ops : Int) = 0 := by simpa using hb1
  refine rk boxes [⟨1, true, [(vD (List.map encOp ops))], [], (vI (List.length ops : Int)), []⟩, ⟨2, false, [(vI (List.length ops : Int)), (vI 0)], [], (vB true), []⟩] [0, 1, 4, 6] [] ⟨27, [(0, (vD (List.map encOp conds))), (1, (vD (List.map encOp ops))), (4, (vI 0)), (6, (vB true))], [], []⟩ (by kernel_rfl) (.c (tri_len_map tab_ok rfl) (.c (tri_scalar_eq [(.int .i64 (List.length ops : Int)), (.int .i64 0)] (.bool ((List.length ops : Int) == 0)) rfl rfl rfl (by kernel_rfl) (congrArg Value.bool hb1)) .n)) ?_
  refine peel_seq ?_
  refine awp_true rfl ?_
  refine awp_seq ?_
  refine rk boxes [] [0, 1, 4] [] ⟨27, [(0, (vD (List.map encOp conds))), (1, (vD (List.map encOp ops))), (4, (vI 61))], [], []⟩ (by kernel_rfl) .n ?_
  refine peel_seq ?_
  refine awp_ret ?_
  refine peel_block_ret ?_
  refine peel_seq_ret ?_
  exact ends_ret rfl (show some ((vI 61) : SV) = some ((vI (checkE conds ops)) : SV) from by first | rfl | ((first | (simp only [hb1, cond_true, cond_false, Bool.not_true, Bool.not_false, List.map_nil]; done) | (simp only [checkE, hb1, cond_true, cond_false, Bool.not_true, Bool.not_false, List.map_nil])))) rfl
end Go.Proofs.Ytjbiaoajmdbigaa
