/- Walks of what the laws of kv share. -/
import Derived.Test.YtjbiaoajmdbigaaKv3
set_option maxRecDepth 100000
set_option linter.unusedVariables false
set_option linter.unusedSimpArgs false
namespace Go.Proofs.Ytjbiaoajmdbigaa
open Go Go.E
theorem l_EqualOp (l m : List AOp) : Sat Try.prog 16 [(vD (List.map encOp l)), (vD (List.map encOp m))] [] (vB (eqL eqOpB l m)) [] := by
 refine sat_of_body tab_ok Try.func16 rfl (by kernel_rfl) (Nat.le_of_ble_eq_true rfl) rfl fun G => ?_
 refine awp_seq ?_
 refine rk boxes [] [0, 1, 4] [] ⟨26, [(0, (vD (List.map encOp l))), (1, (vD (List.map encOp m))), (4, (vB false))], [], []⟩ (by kernel_rfl) .n ?_
 refine peel_seq ?_
 refine awp_seq ?_
 refine awp_seq ?_
 refine rk boxes [⟨1, true, [(vD (List.map encOp l))], [], (vI (List.length l : Int)), []⟩, ⟨3, true, [(vD (List.map encOp m))], [], (vI (List.length m : Int)), []⟩] [0, 1, 4, 10] [] ⟨26, [(0, (vD (List.map encOp l))), (1, (vD (List.map encOp m))), (4, (vB false)), (10, (vB ((List.length l : Int) != (List.length m : Int))))], [], []⟩ (by kernel_rfl) (.c (tri_len_map tab_ok rfl) (.c (tri_len_map tab_ok rfl) .n)) ?_
 refine peel_seq ?_
 refine awp_cond (b := ((List.length l : Int) != (List.length m : Int))) rfl (fun hc1 => ?_) (fun hc1 => ?_)
 ·skip
  have hc1p : (List.length l : Int) ≠ (List.length m : Int) := by simpa using hc1
  refine awp_seq ?_
  refine rk boxes [] [0, 1, 4] [] ⟨26, [(0, (vD (List.map encOp l))), (1, (vD (List.map encOp m))), (4, (vB false))], [], []⟩ (by kernel_rfl) .n ?_
  refine peel_seq ?_
  refine awp_ret ?_
  refine peel_seq_ret ?_
  exact ends_ret rfl (show some ((vB false) : SV) = some ((vB (eqL eqOpB l m)) : SV) from by rw [eqL_len (by omega)]) rfl
 ·skip
  have hc1p : (List.length l : Int) = (List.length m : Int) := by simpa using hc1
  refine awp_skip ?_
  refine peel_seq ?_
  refine awp_seq ?_
  refine awp_seq ?_
  refine rk boxes [⟨1, true, [(vD (List.map encOp l))], [], (vI (List.length l : Int)), []⟩] [0, 1, 4, 12, 13] [] ⟨26, [(0, (vD (List.map encOp l))), (1, (vD (List.map encOp m))), (4, (vB false)), (12, (vI (List.length l : Int))), (13, (vI 0))], [], []⟩ (by kernel_rfl) (.c (tri_len_map tab_ok rfl) .n) ?_
  refine peel_seq ?_
  refine awp_block ?_
  refine awp_len 0 rfl (fun hlen2 => ?_)
  refine awp_loopP (ι := Nat) (fun x => ⟨26, [(0, (vD (List.map encOp l))), (1, (vD (List.map encOp m))), (4, (vB false)), (12, (vI (List.length l : Int))), (13, (vI (x : Int)))], [], []⟩) (fun x => x ≤ List.length l ∧ (True) ∧ eqL eqOpB (List.drop x l) (List.drop x m) = eqL eqOpB l m) (fun x => List.length l - x) (0) rfl ⟨Nat.zero_le _, trivial, rfl⟩ ?_
  rintro k3 ⟨hk4, hx5, hJ6⟩
  try simp only at hk4 hx5 hJ6
  refine awp_seq ?_
  refine rk boxes [] [0, 1, 4, 12, 13, 14] [] ⟨26, [(0, (vD (List.map encOp l))), (1, (vD (List.map encOp m))), (4, (vB false)), (12, (vI (List.length l : Int))), (13, (vI (k3 : Int))), (14, (vB (decide ((k3 : Int) < (List.length l : Int)))))], [], []⟩ (by kernel_rfl) .n ?_
  refine peel_seq ?_
  refine awp_seq ?_
  refine awp_cond (b := (decide ((k3 : Int) < (List.length l : Int)))) rfl (fun hc7 => ?_) (fun hc7 => ?_)
  ·skip
   have hc7p := of_decide_eq_true hc7
   refine awp_skip ?_
   refine peel_seq ?_
   refine awp_seq ?_
   refine awp_block ?_
   refine awp_seq ?_
   refine rk boxes [] [0, 1, 4, 5, 12, 13] [] ⟨26, [(0, (vD (List.map encOp l))), (1, (vD (List.map encOp m))), (4, (vB false)), (5, (vI (k3 : Int))), (12, (vI (List.length l : Int))), (13, (vI (k3 : Int)))], [], []⟩ (by kernel_rfl) .n ?_
   refine peel_seq ?_
   refine awp_seq ?_
   obtain ⟨⟨key11, has12, val13⟩, ha9, hd10⟩ := at_drop (l := l) (k := k3) (by (try simp only [List.length_map] at *); omega)
   obtain ⟨⟨key17, has18, val19⟩, ha15, hd16⟩ := at_drop (l := m) (k := k3) (by (try simp only [List.length_map] at *); omega)
   refine rk boxes [⟨2, false, [(vD (List.map encOp l)), (vI (k3 : Int))], [], (vT (dP [(dS key11), (dB has12), (dS val13)])), []⟩, ⟨6, false, [(vD (List.map encOp m)), (vI (k3 : Int))], [], (vT (dP [(dS key17), (dB has18), (dS val19)])), []⟩, ⟨8, false, [(.t (.agg [(cS key11), (cB has12), (cS val13)])), (.t (.agg [(cS key17), (cB has18), (cS val19)]))], [], (vB (!(eqOpB (AOp.mk key11 has12 val13) (AOp.mk key17 has18 val19)))), []⟩] [0, 1, 4, 12, 13, 24] [] ⟨26, [(0, (vD (List.map encOp l))), (1, (vD (List.map encOp m))), (4, (vB false)), (12, (vI (List.length l : Int))), (13, (vI (k3 : Int))), (24, (vB (!(eqOpB (AOp.mk key11 has12 val13) (AOp.mk key17 has18 val19)))))], [], []⟩ (by kernel_rfl) (.c (tri_index_sl (e := 35) (sz := 3) (bytes := 40) (i := k3) tab_ok rfl (at_map encOp ha9) (all_map fun _ => rfl)) (.c (tri_index_sl (e := 35) (sz := 3) (bytes := 40) (i := k3) tab_ok rfl (at_map encOp ha15) (all_map fun _ => rfl)) (.c (tri_eqStruct [(.string key11), (.bool has12), (.string val13)] [(.string key17), (.bool has18), (.string val19)] true (by kernel_rfl)) .n))) ?_
   refine peel_seq ?_
   refine awp_cond (b := (!(eqOpB (AOp.mk key11 has12 val13) (AOp.mk key17 has18 val19)))) rfl (fun hc20 => ?_) (fun hc20 => ?_)
   ·skip
    have hc20n : (eqOpB (AOp.mk key11 has12 val13) (AOp.mk key17 has18 val19)) = false := by simpa using hc20
    refine awp_seq ?_
    refine rk boxes [] [0, 1, 4, 12, 13] [] ⟨26, [(0, (vD (List.map encOp l))), (1, (vD (List.map encOp m))), (4, (vB false)), (12, (vI (List.length l : Int))), (13, (vI (k3 : Int)))], [], []⟩ (by kernel_rfl) .n ?_
    refine peel_seq ?_
    have hE21 := hJ6
    rw [hd10, hd16] at hE21
    simp only [eqL, hc1, hc20, hc20n, hc7, cond_true, cond_false, Bool.not_true, Bool.not_false] at hE21
    refine awp_ret ?_
    refine peel_block_ret ?_
    refine peel_seq_ret ?_
    refine peel_seq_ret ?_
    refine peel_block_ret ?_
    refine peel_seq_ret ?_
    exact ends_ret rfl (show some ((vB false) : SV) = some ((vB (eqL eqOpB l m)) : SV) from by first | rfl | ((try simp only [cond_true, cond_false, Bool.not_true, Bool.not_false] at hE21); (first | (simp only [hc1, hc20, hc20n, hc7, ← hE21, cond_true, cond_false, Bool.not_true, Bool.not_false, List.map_nil]; done) | (simp only [eqL, hc1, hc20, hc20n, hc7, ← hE21, cond_true, cond_false, Bool.not_true, Bool.not_false, List.map_nil])))) rfl
   ·skip
    have hc20n : (eqOpB (AOp.mk key11 has12 val13) (AOp.mk key17 has18 val19)) = true := by simpa using hc20
    refine q_keep [0, 1, 4, 12, 13] [] ?_
    refine awp_skip ?_
    refine peel_block ?_
    refine peel_seq ?_
    refine rk boxes [⟨0, false, [(vI (k3 : Int)), (vI 1)], [], (vI ((k3 : Int) + 1)), []⟩] [0, 1, 4, 12, 13] [] ⟨26, [(0, (vD (List.map encOp l))), (1, (vD (List.map encOp m))), (4, (vB false)), (12, (vI (List.length l : Int))), (13, (vI ((k3 : Int) + 1)))], [], []⟩ (by kernel_rfl) (.c (tri_int ((k3 : Int) + 1) (wrap_i64 (by omega))) .n) ?_
    exact peel_round (k3 + 1) rfl ⟨by (try simp only [List.length_map] at *); omega, trivial, by have hj := hJ6; rw [hd10, hd16] at hj; simp only [eqL, hc1, hc20, hc20n, hc7, cond_true, cond_false, Bool.not_true, Bool.not_false] at hj ⊢; exact hj⟩ (by (try simp only [List.length_map] at *); omega)
  ·skip
   have hc7p := of_decide_eq_false hc7
   have hE22 := hJ6
   rw [at_end (l := l) (by (try simp only [List.length_map] at *); omega), at_end (l := m) (by (try simp only [List.length_map] at *); omega)] at hE22
   simp only [eqL, hc1, hc7, cond_true, cond_false, Bool.not_true, Bool.not_false] at hE22
   refine awp_exit ?_
   refine peel_seq_exit ?_
   refine peel_seq_exit ?_
   refine peel_hit ?_
   refine peel_seq ?_
   refine awp_seq ?_
   refine rk boxes [] [4] [] ⟨26, [(4, (vB true))], [], []⟩ (by kernel_rfl) .n ?_
   refine peel_seq ?_
   refine awp_ret ?_
   exact ends_ret rfl (show some ((vB true) : SV) = some ((vB (eqL eqOpB l m)) : SV) from by first | rfl | ((try simp only [cond_true, cond_false, Bool.not_true, Bool.not_false] at hE22); (first | (simp only [hc1, hc7, ← hE22, cond_true, cond_false, Bool.not_true, Bool.not_false, List.map_nil]; done) | (simp only [eqL, hc1, hc7, ← hE22, cond_true, cond_false, Bool.not_true, Bool.not_false, List.map_nil])))) rfl
theorem l_EqualEvent (l m : List AEv) : Sat Try.prog 30 [(vD (List.map encEv l)), (vD (List.map encEv m))] [] (vB (eqL eqEvB l m)) [] := by
 refine sat_of_body tab_ok Try.func30 rfl (by kernel_rfl) (Nat.le_of_ble_eq_true rfl) rfl fun G => ?_
 refine awp_seq ?_
 refine rk boxes [] [0, 1, 4] [] ⟨26, [(0, (vD (List.map encEv l))), (1, (vD (List.map encEv m))), (4, (vB false))], [], []⟩ (by kernel_rfl) .n ?_
 refine peel_seq ?_
 refine awp_seq ?_
 refine awp_seq ?_
 refine rk boxes [⟨1, true, [(vD (List.map encEv l))], [], (vI (List.length l : Int)), []⟩, ⟨3, true, [(vD (List.map encEv m))], [], (vI (List.length m : Int)), []⟩] [0, 1, 4, 10] [] ⟨26, [(0, (vD (List.map encEv l))), (1, (vD (List.map encEv m))), (4, (vB false)), (10, (vB ((List.length l : Int) != (List.length m : Int))))], [], []⟩ (by kernel_rfl) (.c (tri_len_map tab_ok rfl) (.c (tri_len_map tab_ok rfl) .n)) ?_
 refine peel_seq ?_
 refine awp_cond (b := ((List.length l : Int) != (List.length m : Int))) rfl (fun hc1 => ?_) (fun hc1 => ?_)
 ·skip
  have hc1p : (List.length l : Int) ≠ (List.length m : Int) := by simpa using hc1
  refine awp_seq ?_
  refine rk boxes [] [0, 1, 4] [] ⟨26, [(0, (vD (List.map encEv l))), (1, (vD (List.map encEv m))), (4, (vB false))], [], []⟩ (by kernel_rfl) .n ?_
  refine peel_seq ?_
  refine awp_ret ?_
  refine peel_seq_ret ?_
  exact ends_ret rfl (show some ((vB false) : SV) = some ((vB (eqL eqEvB l m)) : SV) from by rw [eqL_len (by omega)]) rfl
 ·skip
  have hc1p : (List.length l : Int) = (List.length m : Int) := by simpa using hc1
  refine awp_skip ?_
  refine peel_seq ?_
  refine awp_seq ?_
  refine awp_seq ?_
  refine rk boxes [⟨1, true, [(vD (List.map encEv l))], [], (vI (List.length l : Int)), []⟩] [0, 1, 4, 12, 13] [] ⟨26, [(0, (vD (List.map encEv l))), (1, (vD (List.map encEv m))), (4, (vB false)), (12, (vI (List.length l : Int))), (13, (vI 0))], [], []⟩ (by kernel_rfl) (.c (tri_len_map tab_ok rfl) .n) ?_
  refine peel_seq ?_
  refine awp_block ?_
  refine awp_len 0 rfl (fun hlen2 => ?_)
  refine awp_loopP (ι := Nat) (fun x => ⟨26, [(0, (vD (List.map encEv l))), (1, (vD (List.map encEv m))), (4, (vB false)), (12, (vI (List.length l : Int))), (13, (vI (x : Int)))], [], []⟩) (fun x => x ≤ List.length l ∧ (True) ∧ eqL eqEvB (List.drop x l) (List.drop x m) = eqL eqEvB l m) (fun x => List.length l - x) (0) rfl ⟨Nat.zero_le _, trivial, rfl⟩ ?_
  rintro k3 ⟨hk4, hx5, hJ6⟩
  try simp only at hk4 hx5 hJ6
  refine awp_seq ?_
  refine rk boxes [] [0, 1, 4, 12, 13, 14] [] ⟨26, [(0, (vD (List.map encEv l))), (1, (vD (List.map encEv m))), (4, (vB false)), (12, (vI (List.length l : Int))), (13, (vI (k3 : Int))), (14, (vB (decide ((k3 : Int) < (List.length l : Int)))))], [], []⟩ (by kernel_rfl) .n ?_
  refine peel_seq ?_
  refine awp_seq ?_
  refine awp_cond (b := (decide ((k3 : Int) < (List.length l : Int)))) rfl (fun hc7 => ?_) (fun hc7 => ?_)
  ·skip
   have hc7p := of_decide_eq_true hc7
   refine awp_skip ?_
   refine peel_seq ?_
   refine awp_seq ?_
   refine awp_block ?_
   refine awp_seq ?_
   refine rk boxes [] [0, 1, 4, 5, 12, 13] [] ⟨26, [(0, (vD (List.map encEv l))), (1, (vD (List.map encEv m))), (4, (vB false)), (5, (vI (k3 : Int))), (12, (vI (List.length l : Int))), (13, (vI (k3 : Int)))], [], []⟩ (by kernel_rfl) .n ?_
   refine peel_seq ?_
   refine awp_seq ?_
   obtain ⟨⟨pos11, key12, had13, old14, has15, now16⟩, ha9, hd10⟩ := at_drop (l := l) (k := k3) (by (try simp only [List.length_map] at *); omega)
   obtain ⟨⟨pos20, key21, had22, old23, has24, now25⟩, ha18, hd19⟩ := at_drop (l := m) (k := k3) (by (try simp only [List.length_map] at *); omega)
   refine rk boxes [⟨2, false, [(vD (List.map encEv l)), (vI (k3 : Int))], [], (vT (dP [(dI pos11), (dS key12), (dB had13), (dS old14), (dB has15), (dS now16)])), []⟩, ⟨6, false, [(vD (List.map encEv m)), (vI (k3 : Int))], [], (vT (dP [(dI pos20), (dS key21), (dB had22), (dS old23), (dB has24), (dS now25)])), []⟩, ⟨8, false, [(.t (.agg [(cI pos11), (cS key12), (cB had13), (cS old14), (cB has15), (cS now16)])), (.t (.agg [(cI pos20), (cS key21), (cB had22), (cS old23), (cB has24), (cS now25)]))], [], (vB (!(eqEvB (AEv.mk pos11 key12 had13 old14 has15 now16) (AEv.mk pos20 key21 had22 old23 has24 now25)))), []⟩] [0, 1, 4, 12, 13, 24] [] ⟨26, [(0, (vD (List.map encEv l))), (1, (vD (List.map encEv m))), (4, (vB false)), (12, (vI (List.length l : Int))), (13, (vI (k3 : Int))), (24, (vB (!(eqEvB (AEv.mk pos11 key12 had13 old14 has15 now16) (AEv.mk pos20 key21 had22 old23 has24 now25)))))], [], []⟩ (by kernel_rfl) (.c (tri_index_sl (e := 44) (sz := 6) (bytes := 72) (i := k3) tab_ok rfl (at_map encEv ha9) (all_map fun _ => rfl)) (.c (tri_index_sl (e := 44) (sz := 6) (bytes := 72) (i := k3) tab_ok rfl (at_map encEv ha18) (all_map fun _ => rfl)) (.c (tri_eqStruct [(.int .i64 pos11), (.string key12), (.bool had13), (.string old14), (.bool has15), (.string now16)] [(.int .i64 pos20), (.string key21), (.bool had22), (.string old23), (.bool has24), (.string now25)] true (by kernel_rfl)) .n))) ?_
   refine peel_seq ?_
   refine awp_cond (b := (!(eqEvB (AEv.mk pos11 key12 had13 old14 has15 now16) (AEv.mk pos20 key21 had22 old23 has24 now25)))) rfl (fun hc26 => ?_) (fun hc26 => ?_)
   ·skip
    have hc26n : (eqEvB (AEv.mk pos11 key12 had13 old14 has15 now16) (AEv.mk pos20 key21 had22 old23 has24 now25)) = false := by simpa using hc26
    refine awp_seq ?_
    refine rk boxes [] [0, 1, 4, 12, 13] [] ⟨26, [(0, (vD (List.map encEv l))), (1, (vD (List.map encEv m))), (4, (vB false)), (12, (vI (List.length l : Int))), (13, (vI (k3 : Int)))], [], []⟩ (by kernel_rfl) .n ?_
    refine peel_seq ?_
    have hE27 := hJ6
    rw [hd10, hd19] at hE27
    simp only [eqL, hc1, hc26, hc26n, hc7, cond_true, cond_false, Bool.not_true, Bool.not_false] at hE27
    refine awp_ret ?_
    refine peel_block_ret ?_
    refine peel_seq_ret ?_
    refine peel_seq_ret ?_
    refine peel_block_ret ?_
    refine peel_seq_ret ?_
    exact ends_ret rfl (show some ((vB false) : SV) = some ((vB (eqL eqEvB l m)) : SV) from by first | rfl | ((try simp only [cond_true, cond_false, Bool.not_true, Bool.not_false] at hE27); (first | (simp only [hc1, hc26, hc26n, hc7, ← hE27, cond_true, cond_false, Bool.not_true, Bool.not_false, List.map_nil]; done) | (simp only [eqL, hc1, hc26, hc26n, hc7, ← hE27, cond_true, cond_false, Bool.not_true, Bool.not_false, List.map_nil])))) rfl
   ·skip
    have hc26n : (eqEvB (AEv.mk pos11 key12 had13 old14 has15 now16) (AEv.mk pos20 key21 had22 old23 has24 now25)) = true := by simpa using hc26
    refine q_keep [0, 1, 4, 12, 13] [] ?_
    refine awp_skip ?_
    refine peel_block ?_
    refine peel_seq ?_
    refine rk boxes [⟨0, false, [(vI (k3 : Int)), (vI 1)], [], (vI ((k3 : Int) + 1)), []⟩] [0, 1, 4, 12, 13] [] ⟨26, [(0, (vD (List.map encEv l))), (1, (vD (List.map encEv m))), (4, (vB false)), (12, (vI (List.length l : Int))), (13, (vI ((k3 : Int) + 1)))], [], []⟩ (by kernel_rfl) (.c (tri_int ((k3 : Int) + 1) (wrap_i64 (by omega))) .n) ?_
    exact peel_round (k3 + 1) rfl ⟨by (try simp only [List.length_map] at *); omega, trivial, by have hj := hJ6; rw [hd10, hd19] at hj; simp only [eqL, hc1, hc26, hc26n, hc7, cond_true, cond_false, Bool.not_true, Bool.not_false] at hj ⊢; exact hj⟩ (by (try simp only [List.length_map] at *); omega)
  ·skip
   have hc7p := of_decide_eq_false hc7
   have hE28 := hJ6
   rw [at_end (l := l) (by (try simp only [List.length_map] at *); omega), at_end (l := m) (by (try simp only [List.length_map] at *); omega)] at hE28
   simp only [eqL, hc1, hc7, cond_true, cond_false, Bool.not_true, Bool.not_false] at hE28
   refine awp_exit ?_
   refine peel_seq_exit ?_
   refine peel_seq_exit ?_
   refine peel_hit ?_
   refine peel_seq ?_
   refine awp_seq ?_
   refine rk boxes [] [4] [] ⟨26, [(4, (vB true))], [], []⟩ (by kernel_rfl) .n ?_
   refine peel_seq ?_
   refine awp_ret ?_
   exact ends_ret rfl (show some ((vB true) : SV) = some ((vB (eqL eqEvB l m)) : SV) from by first | rfl | ((try simp only [cond_true, cond_false, Bool.not_true, Bool.not_false] at hE28); (first | (simp only [hc1, hc7, ← hE28, cond_true, cond_false, Bool.not_true, Bool.not_false, List.map_nil]; done) | (simp only [eqL, hc1, hc7, ← hE28, cond_true, cond_false, Bool.not_true, Bool.not_false, List.map_nil])))) rfl
theorem l_put (k v : ByteArray) : Sat Try.prog 41 [(vS k), (vS v)] [] (.t (.agg [(cS k), (cB true), (cS v)])) [] := by
 refine sat_of_body tab_ok Try.func41 rfl (by kernel_rfl) (Nat.le_of_ble_eq_true rfl) rfl fun G => ?_
 refine awp_seq ?_
 refine rk boxes [] [0, 1, 4] [4] ⟨8, [(0, (vS k)), (1, (vS v)), (4, (vL 4 0))], [(4, (.cells 35 [(cS ⟨#[]⟩), (cB false), (cS ⟨#[]⟩)]))], []⟩ (by kernel_rfl) .n ?_
 refine peel_seq ?_
 refine awp_seq ?_
 refine rk boxes [] [4] [4] ⟨8, [(4, (vL 4 0))], [(4, (.cells 35 [(cS k), (cB true), (cS v)]))], []⟩ (by kernel_rfl) .n ?_
 refine peel_seq ?_
 refine awp_ret ?_
 exact ends_ret rfl rfl rfl
theorem l_awake  : Sat Try.prog 11 [] [] (vB true) [] := by
 refine sat_of_body tab_ok Try.func11 rfl (by kernel_rfl) (Nat.le_of_ble_eq_true rfl) rfl fun G => ?_
 refine awp_seq ?_
 refine rk boxes [] [0] [] ⟨75, [(0, (vB false))], [], []⟩ (by kernel_rfl) .n ?_
 refine peel_seq ?_
 refine awp_seq ?_
 refine rk boxes [⟨0, false, [(sc (.func (.func 24) #[] #[]))], [], (vL 10 0), [(10, (.cells 51 [(.d (dP [(encT (Tr.nil))]))]))]⟩] [0, 1] [10] ⟨75, [(0, (vB false)), (1, (vL 10 0))], [(10, (.cells 51 [(.d (dP [(encT (Tr.nil))]))]))], []⟩ (by kernel_rfl) (.c (tri_call (Sat.sw 5001 10 (k_New))) .n) ?_
 refine peel_seq ?_
 refine awp_seq ?_
 refine rk boxes [⟨1, false, [(sc (.func (.func 41) #[] #[])), (vS ⟨#[97]⟩), (vS ⟨#[49]⟩)], [], (.t (.agg [(cS ⟨#[97]⟩), (cB true), (cS ⟨#[49]⟩)])), []⟩, ⟨2, false, [(.t (.agg [(cS ⟨#[97]⟩), (cB true), (cS ⟨#[49]⟩)]))], [], (vD (List.map encOp ([(AOp.mk (⟨#[97]⟩) true (⟨#[49]⟩))]))), []⟩, ⟨3, false, [(sc (.func (.func 15) #[] #[])), (vL 10 0), (vI 5), (sc (.slice none 0 0)), (vD (List.map encOp ([(AOp.mk (⟨#[97]⟩) true (⟨#[49]⟩))])))], [(10, (.cells 51 [(.d (dP [(encT (Tr.nil))]))]))], (.tup [(.c (cD (List.map encEv ([(AEv.mk 5 ⟨#[97]⟩ false ⟨#[]⟩ true ⟨#[49]⟩)])))), (.c (cI 0))]), [(10, (.cells 51 [(.d (dP [(encT (Tr.node ⟨#[97]⟩ ⟨#[49]⟩ Tr.nil Tr.nil))]))]))]⟩] [0, 1, 2, 3] [10] ⟨75, [(0, (vB false)), (1, (vL 10 0)), (2, (vD (List.map encEv ([(AEv.mk 5 ⟨#[97]⟩ false ⟨#[]⟩ true ⟨#[49]⟩)])))), (3, (vI 0))], [(10, (.cells 51 [(.d (dP [(encT (Tr.node ⟨#[97]⟩ ⟨#[49]⟩ Tr.nil Tr.nil))]))]))], []⟩ (by kernel_rfl) (.c (tri_call (l_put (⟨#[97]⟩) (⟨#[49]⟩))) (.c (tri_slice_data (e := 35) (sz := 3) (bytes := 40) tab_ok (by kernel_rfl) rfl) (.c (tri_to (tri_res (tri_call (Sat.sw 5000 10 (Sat.sub (k_Do (Tr.nil) 5 ([]) ([(AOp.mk (⟨#[97]⟩) true (⟨#[49]⟩))]) (by decide)) (.same (.same (.no (.same .done))))))) (by kernel_rfl)) (by kernel_rfl)) .n))) ?_
 refine peel_seq ?_
 refine awp_seq ?_
 refine rk boxes [⟨1, false, [(sc (.func (.func 41) #[] #[])), (vS ⟨#[97]⟩), (vS ⟨#[49]⟩)], [], (.t (.agg [(cS ⟨#[97]⟩), (cB true), (cS ⟨#[49]⟩)])), []⟩, ⟨2, false, [(.t (.agg [(cS ⟨#[97]⟩), (cB true), (cS ⟨#[49]⟩)]))], [], (vD (List.map encOp ([(AOp.mk (⟨#[97]⟩) true (⟨#[49]⟩))]))), []⟩, ⟨4, false, [(sc (.func (.func 41) #[] #[])), (vS ⟨#[98]⟩), (vS ⟨#[50]⟩)], [], (.t (.agg [(cS ⟨#[98]⟩), (cB true), (cS ⟨#[50]⟩)])), []⟩, ⟨5, false, [(.t (.agg [(cS ⟨#[97]⟩), (cB false), (cS ⟨#[]⟩)])), (.t (.agg [(cS ⟨#[98]⟩), (cB true), (cS ⟨#[50]⟩)]))], [], (vD (List.map encOp ([(AOp.mk (⟨#[97]⟩) false (⟨#[]⟩)), (AOp.mk (⟨#[98]⟩) true (⟨#[50]⟩))]))), []⟩, ⟨6, false, [(sc (.func (.func 15) #[] #[])), (vL 10 0), (vI 6), (vD (List.map encOp ([(AOp.mk (⟨#[97]⟩) true (⟨#[49]⟩))]))), (vD (List.map encOp ([(AOp.mk (⟨#[97]⟩) false (⟨#[]⟩)), (AOp.mk (⟨#[98]⟩) true (⟨#[50]⟩))])))], [(10, (.cells 51 [(.d (dP [(encT (Tr.node ⟨#[97]⟩ ⟨#[49]⟩ Tr.nil Tr.nil))]))]))], (.tup [(.c (cD (List.map encEv ([(AEv.mk 6 ⟨#[97]⟩ true ⟨#[49]⟩ false ⟨#[]⟩), (AEv.mk 6 ⟨#[98]⟩ false ⟨#[]⟩ true ⟨#[50]⟩)])))), (.c (cI 0))]), [(10, (.cells 51 [(.d (dP [(encT (Tr.node ⟨#[98]⟩ ⟨#[50]⟩ Tr.nil Tr.nil))]))]))]⟩] [0, 1, 2, 3, 4, 5] [10] ⟨75, [(0, (vB false)), (1, (vL 10 0)), (2, (vD (List.map encEv ([(AEv.mk 5 ⟨#[97]⟩ false ⟨#[]⟩ true ⟨#[49]⟩)])))), (3, (vI 0)), (4, (vD (List.map encEv ([(AEv.mk 6 ⟨#[97]⟩ true ⟨#[49]⟩ false ⟨#[]⟩), (AEv.mk 6 ⟨#[98]⟩ false ⟨#[]⟩ true ⟨#[50]⟩)])))), (5, (vI 0))], [(10, (.cells 51 [(.d (dP [(encT (Tr.node ⟨#[98]⟩ ⟨#[50]⟩ Tr.nil Tr.nil))]))]))], []⟩ (by kernel_rfl) (.c (tri_call (l_put (⟨#[97]⟩) (⟨#[49]⟩))) (.c (tri_slice_data (e := 35) (sz := 3) (bytes := 40) tab_ok (by kernel_rfl) rfl) (.c (tri_call (l_put (⟨#[98]⟩) (⟨#[50]⟩))) (.c (tri_slice_data (e := 35) (sz := 3) (bytes := 40) tab_ok (by kernel_rfl) rfl) (.c (tri_to (tri_res (tri_call (Sat.sw 5000 10 (k_Do (Tr.node ⟨#[97]⟩ ⟨#[49]⟩ Tr.nil Tr.nil) 6 ([(AOp.mk (⟨#[97]⟩) true (⟨#[49]⟩))]) ([(AOp.mk (⟨#[97]⟩) false (⟨#[]⟩)), (AOp.mk (⟨#[98]⟩) true (⟨#[50]⟩))]) (by decide)))) (by kernel_rfl)) (by kernel_rfl)) .n))))) ?_
 refine peel_seq ?_
 refine awp_seq ?_
 refine rk boxes [⟨1, false, [(sc (.func (.func 41) #[] #[])), (vS ⟨#[97]⟩), (vS ⟨#[49]⟩)], [], (.t (.agg [(cS ⟨#[97]⟩), (cB true), (cS ⟨#[49]⟩)])), []⟩, ⟨2, false, [(.t (.agg [(cS ⟨#[97]⟩), (cB true), (cS ⟨#[49]⟩)]))], [], (vD (List.map encOp ([(AOp.mk (⟨#[97]⟩) true (⟨#[49]⟩))]))), []⟩, ⟨3, false, [(sc (.func (.func 41) #[] #[])), (vS ⟨#[98]⟩), (vS ⟨#[51]⟩)], [], (.t (.agg [(cS ⟨#[98]⟩), (cB true), (cS ⟨#[51]⟩)])), []⟩, ⟨4, false, [(.t (.agg [(cS ⟨#[98]⟩), (cB true), (cS ⟨#[51]⟩)]))], [], (vD (List.map encOp ([(AOp.mk (⟨#[98]⟩) true (⟨#[51]⟩))]))), []⟩, ⟨5, false, [(sc (.func (.func 15) #[] #[])), (vL 10 0), (vI 7), (vD (List.map encOp ([(AOp.mk (⟨#[97]⟩) true (⟨#[49]⟩))]))), (vD (List.map encOp ([(AOp.mk (⟨#[98]⟩) true (⟨#[51]⟩))])))], [(10, (.cells 51 [(.d (dP [(encT (Tr.node ⟨#[98]⟩ ⟨#[50]⟩ Tr.nil Tr.nil))]))]))], (.tup [(.c (cD (List.map encEv ([])))), (.c (cI 60))]), [(10, (.cells 51 [(.d (dP [(encT (Tr.node ⟨#[98]⟩ ⟨#[50]⟩ Tr.nil Tr.nil))]))]))]⟩] [0, 1, 2, 3, 4, 5, 7] [10] ⟨75, [(0, (vB false)), (1, (vL 10 0)), (2, (vD (List.map encEv ([(AEv.mk 5 ⟨#[97]⟩ false ⟨#[]⟩ true ⟨#[49]⟩)])))), (3, (vI 0)), (4, (vD (List.map encEv ([(AEv.mk 6 ⟨#[97]⟩ true ⟨#[49]⟩ false ⟨#[]⟩), (AEv.mk 6 ⟨#[98]⟩ false ⟨#[]⟩ true ⟨#[50]⟩)])))), (5, (vI 0)), (7, (vI 60))], [(10, (.cells 51 [(.d (dP [(encT (Tr.node ⟨#[98]⟩ ⟨#[50]⟩ Tr.nil Tr.nil))]))]))], []⟩ (by kernel_rfl) (.c (tri_call (l_put (⟨#[97]⟩) (⟨#[49]⟩))) (.c (tri_slice_data (e := 35) (sz := 3) (bytes := 40) tab_ok (by kernel_rfl) rfl) (.c (tri_call (l_put (⟨#[98]⟩) (⟨#[51]⟩))) (.c (tri_slice_data (e := 35) (sz := 3) (bytes := 40) tab_ok (by kernel_rfl) rfl) (.c (tri_to (tri_res (tri_call (Sat.sw 5000 10 (k_Do (Tr.node ⟨#[98]⟩ ⟨#[50]⟩ Tr.nil Tr.nil) 7 ([(AOp.mk (⟨#[97]⟩) true (⟨#[49]⟩))]) ([(AOp.mk (⟨#[98]⟩) true (⟨#[51]⟩))]) (by decide)))) (by kernel_rfl)) (by kernel_rfl)) .n))))) ?_
 refine peel_seq ?_
 refine awp_seq ?_
 refine rk boxes [⟨1, true, [(sc (.func (.func 20) #[] #[])), (vL 10 0), (vS ⟨#[98]⟩)], [(10, (.cells 51 [(.d (dP [(encT (Tr.node ⟨#[98]⟩ ⟨#[50]⟩ Tr.nil Tr.nil))]))]))], (.tup [(.c (cS ⟨#[50]⟩)), (.c (cB true))]), []⟩] [0, 1, 2, 3, 4, 5, 7, 8, 9] [10] ⟨75, [(0, (vB false)), (1, (vL 10 0)), (2, (vD (List.map encEv ([(AEv.mk 5 ⟨#[97]⟩ false ⟨#[]⟩ true ⟨#[49]⟩)])))), (3, (vI 0)), (4, (vD (List.map encEv ([(AEv.mk 6 ⟨#[97]⟩ true ⟨#[49]⟩ false ⟨#[]⟩), (AEv.mk 6 ⟨#[98]⟩ false ⟨#[]⟩ true ⟨#[50]⟩)])))), (5, (vI 0)), (7, (vI 60)), (8, (vS ⟨#[50]⟩)), (9, (vB true))], [(10, (.cells 51 [(.d (dP [(encT (Tr.node ⟨#[98]⟩ ⟨#[50]⟩ Tr.nil Tr.nil))]))]))], []⟩ (by kernel_rfl) (.c (tri_res (tri_call (Sat.sw 5000 10 (k_Get (Tr.node ⟨#[98]⟩ ⟨#[50]⟩ Tr.nil Tr.nil) (⟨#[98]⟩)))) (by kernel_rfl)) .n) ?_
 refine peel_seq ?_
 refine awp_seq ?_
 refine rk boxes [⟨13, false, [(.t (.agg [(cI 5), (cS ⟨#[97]⟩), (cB false), (cS ⟨#[]⟩), (cB true), (cS ⟨#[49]⟩)]))], [], (vD (List.map encEv ([(AEv.mk 5 (⟨#[97]⟩) false (⟨#[]⟩) true (⟨#[49]⟩))]))), []⟩, ⟨14, false, [(sc (.func (.func 30) #[] #[])), (vD (List.map encEv ([(AEv.mk 5 ⟨#[97]⟩ false ⟨#[]⟩ true ⟨#[49]⟩)]))), (vD (List.map encEv ([(AEv.mk 5 (⟨#[97]⟩) false (⟨#[]⟩) true (⟨#[49]⟩))])))], [], (vB true), []⟩, ⟨18, true, [(vD (List.map encEv ([(AEv.mk 6 ⟨#[97]⟩ true ⟨#[49]⟩ false ⟨#[]⟩), (AEv.mk 6 ⟨#[98]⟩ false ⟨#[]⟩ true ⟨#[50]⟩)])))], [], (vI 2), []⟩, ⟨23, false, [(vS ⟨#[50]⟩), (vS ⟨#[50]⟩)], [], (vB true), []⟩, ⟨30, true, [(sc (.func (.func 22) #[] #[])), (vL 10 0)], [(10, (.cells 51 [(.d (dP [(encT (Tr.node ⟨#[98]⟩ ⟨#[50]⟩ Tr.nil Tr.nil))]))]))], (vI 1), []⟩] [0] [] ⟨75, [(0, (vB true))], [], []⟩ (by kernel_rfl) (.c (tri_slice_data (e := 44) (sz := 6) (bytes := 72) tab_ok (by kernel_rfl) rfl) (.c (tri_res (tri_call (l_EqualEvent ([(AEv.mk 5 ⟨#[97]⟩ false ⟨#[]⟩ true ⟨#[49]⟩)]) ([(AEv.mk 5 (⟨#[97]⟩) false (⟨#[]⟩) true (⟨#[49]⟩))]))) (by kernel_rfl)) (.c (tri_res (tri_len_map tab_ok rfl) (by kernel_rfl)) (.c (tri_as tri_str_eql (by kernel_rfl)) (.c (tri_res (tri_call (Sat.sw 5000 10 (k_Len (Tr.node ⟨#[98]⟩ ⟨#[50]⟩ Tr.nil Tr.nil)))) (by kernel_rfl)) .n))))) ?_
 refine peel_seq ?_
 refine awp_ret ?_
 exact ends_ret rfl rfl rfl
end Go.Proofs.Ytjbiaoajmdbigaa
