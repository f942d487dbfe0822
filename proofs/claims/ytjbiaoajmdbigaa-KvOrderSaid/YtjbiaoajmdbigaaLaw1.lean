/- Walks of what the laws of kv share. -/
import Derived.Test.YtjbiaoajmdbigaaKv3
set_option maxRecDepth 100000
set_option linter.unusedVariables false
set_option linter.unusedSimpArgs false
namespace Go.Proofs.Ytjbiaoajmdbigaa
open Go Go.E
theorem l_EqualOp (l m : List AOp) : Sat Try.prog 16 [(.t (.c (.d (.sl (List.map encOp l))))), (.t (.c (.d (.sl (List.map encOp m)))))] [] (sc (.bool (eqL eqOpB l m))) [] := by
  refine sat_of_body tab_ok Try.func16 rfl (by kernel_rfl) (Nat.le_of_ble_eq_true rfl) rfl fun G => ?_
  refine awp_seq ?_
  refine awp_region_keep tab_ok boxes [] [0, 1, 4] [] ⟨26, [(0, (.t (.c (.d (.sl (List.map encOp l)))))), (1, (.t (.c (.d (.sl (List.map encOp m)))))), (4, (sc (.bool false)))], [], []⟩ [] mixed (by kernel_rfl) trivial ?_
  refine peel_seq ?_
  refine awp_seq ?_
  refine awp_seq ?_
  refine awp_region_keep tab_ok boxes [(1, ⟨[], (sc (.int .i64 (List.length l : Int))), none⟩), (3, ⟨[], (sc (.int .i64 (List.length m : Int))), none⟩)] [0, 1, 4, 10] [] ⟨26, [(0, (.t (.c (.d (.sl (List.map encOp l)))))), (1, (.t (.c (.d (.sl (List.map encOp m)))))), (4, (sc (.bool false))), (10, (sc (.bool ((List.length l : Int) != (List.length m : Int)))))], [], []⟩ [⟨(Go.Op.call (Go.Call.mk (Go.Callee.builtin Go.Builtin.len) #[(Go.Operand.tmp 6)] #[23])), 3, [(.t (.c (.d (.sl (List.map encOp l)))))], [], (sc (.int .i64 (List.length l : Int))), []⟩, ⟨(Go.Op.call (Go.Call.mk (Go.Callee.builtin Go.Builtin.len) #[(Go.Operand.tmp 8)] #[23])), 3, [(.t (.c (.d (.sl (List.map encOp m)))))], [], (sc (.int .i64 (List.length m : Int))), []⟩] mixed (by kernel_rfl) ⟨tri_len_map tab_ok rfl, tri_len_map tab_ok rfl, trivial⟩ ?_
  refine peel_seq ?_
  refine awp_cond (b := ((List.length l : Int) != (List.length m : Int))) rfl (fun hc1 => ?_) (fun hc1 => ?_)
  · skip
    have hc1p : (List.length l : Int) ≠ (List.length m : Int) := by simpa using hc1
    refine awp_seq ?_
    refine awp_region_keep tab_ok boxes [] [0, 1, 4] [] ⟨26, [(0, (.t (.c (.d (.sl (List.map encOp l)))))), (1, (.t (.c (.d (.sl (List.map encOp m)))))), (4, (sc (.bool false)))], [], []⟩ [] mixed (by kernel_rfl) trivial ?_
    refine peel_seq ?_
    refine awp_ret ?_
    refine peel_seq_ret ?_
    exact ends_ret rfl (show some ((sc (.bool false)) : SV) = some ((sc (.bool (eqL eqOpB l m))) : SV) from by rw [eqL_len (by omega)]) rfl
  · skip
    have hc1p : (List.length l : Int) = (List.length m : Int) := by simpa using hc1
    refine awp_skip ?_
    refine peel_seq ?_
    refine awp_seq ?_
    refine awp_seq ?_
    refine awp_region_keep tab_ok boxes [(1, ⟨[], (sc (.int .i64 (List.length l : Int))), none⟩)] [0, 1, 4, 12, 13] [] ⟨26, [(0, (.t (.c (.d (.sl (List.map encOp l)))))), (1, (.t (.c (.d (.sl (List.map encOp m)))))), (4, (sc (.bool false))), (12, (sc (.int .i64 (List.length l : Int)))), (13, (sc (.int .i64 0)))], [], []⟩ [⟨(Go.Op.call (Go.Call.mk (Go.Callee.builtin Go.Builtin.len) #[(Go.Operand.tmp 11)] #[23])), 3, [(.t (.c (.d (.sl (List.map encOp l)))))], [], (sc (.int .i64 (List.length l : Int))), []⟩] mixed (by kernel_rfl) ⟨tri_len_map tab_ok rfl, trivial⟩ ?_
    refine peel_seq ?_
    refine awp_block ?_
    refine awp_len 0 rfl (fun hlen2 => ?_)
    refine awp_loopP (ι := Nat) (fun x => ⟨26, [(0, (.t (.c (.d (.sl (List.map encOp l)))))), (1, (.t (.c (.d (.sl (List.map encOp m)))))), (4, (sc (.bool false))), (12, (sc (.int .i64 (List.length l : Int)))), (13, (sc (.int .i64 (x : Int))))], [], []⟩) (fun x => x ≤ List.length l ∧ (True) ∧ eqL eqOpB (List.drop x l) (List.drop x m) = eqL eqOpB l m) (fun x => List.length l - x) (0) rfl ⟨Nat.zero_le _, trivial, rfl⟩ ?_
    rintro k3 ⟨hk4, hx5, hJ6⟩
    try simp only at hk4 hx5 hJ6
    refine awp_seq ?_
    refine awp_region_keep tab_ok boxes [] [0, 1, 4, 12, 13, 14] [] ⟨26, [(0, (.t (.c (.d (.sl (List.map encOp l)))))), (1, (.t (.c (.d (.sl (List.map encOp m)))))), (4, (sc (.bool false))), (12, (sc (.int .i64 (List.length l : Int)))), (13, (sc (.int .i64 (k3 : Int)))), (14, (sc (.bool (decide ((k3 : Int) < (List.length l : Int))))))], [], []⟩ [] mixed (by kernel_rfl) trivial ?_
    refine peel_seq ?_
    refine awp_seq ?_
    refine awp_cond (b := (decide ((k3 : Int) < (List.length l : Int)))) rfl (fun hc7 => ?_) (fun hc7 => ?_)
    · skip
      have hc7p := of_decide_eq_true hc7
      refine awp_skip ?_
      refine peel_seq ?_
      refine awp_seq ?_
      refine awp_block ?_
      refine awp_seq ?_
      refine awp_region_keep tab_ok boxes [] [0, 1, 4, 5, 12, 13] [] ⟨26, [(0, (.t (.c (.d (.sl (List.map encOp l)))))), (1, (.t (.c (.d (.sl (List.map encOp m)))))), (4, (sc (.bool false))), (5, (sc (.int .i64 (k3 : Int)))), (12, (sc (.int .i64 (List.length l : Int)))), (13, (sc (.int .i64 (k3 : Int))))], [], []⟩ [] mixed (by kernel_rfl) trivial ?_
      refine peel_seq ?_
      refine awp_seq ?_
      obtain ⟨⟨key11, has12, val13⟩, ha9, hd10⟩ := at_drop (l := l) (k := k3) (by (try simp only [List.length_map] at *); omega)
      obtain ⟨⟨key17, has18, val19⟩, ha15, hd16⟩ := at_drop (l := m) (k := k3) (by (try simp only [List.length_map] at *); omega)
      refine awp_region_keep tab_ok boxes [(2, ⟨[], (.t (.c (.d (.ptr [(.v (.string key11)), (.v (.bool has12)), (.v (.string val13))])))), some []⟩), (6, ⟨[], (.t (.c (.d (.ptr [(.v (.string key17)), (.v (.bool has18)), (.v (.string val19))])))), some []⟩), (8, ⟨[], (sc (.bool (!(eqOpB (AOp.mk key11 has12 val13) (AOp.mk key17 has18 val19))))), some []⟩)] [0, 1, 4, 12, 13, 24] [] ⟨26, [(0, (.t (.c (.d (.sl (List.map encOp l)))))), (1, (.t (.c (.d (.sl (List.map encOp m)))))), (4, (sc (.bool false))), (12, (sc (.int .i64 (List.length l : Int)))), (13, (sc (.int .i64 (k3 : Int)))), (24, (sc (.bool (!(eqOpB (AOp.mk key11 has12 val13) (AOp.mk key17 has18 val19))))))], [], []⟩ [⟨(Go.Op.indexAddr 23 (Go.Operand.tmp 16) (Go.Operand.tmp 17)), 0, [(.t (.c (.d (.sl (List.map encOp l))))), (sc (.int .i64 (k3 : Int)))], [], (.t (.c (.d (.ptr [(.v (.string key11)), (.v (.bool has12)), (.v (.string val13))])))), []⟩, ⟨(Go.Op.indexAddr 23 (Go.Operand.tmp 20) (Go.Operand.tmp 21)), 0, [(.t (.c (.d (.sl (List.map encOp m))))), (sc (.int .i64 (k3 : Int)))], [], (.t (.c (.d (.ptr [(.v (.string key17)), (.v (.bool has18)), (.v (.string val19))])))), []⟩, ⟨(Go.Op.binOp Go.BinOp.neq 35 (Go.Operand.tmp 19) (Go.Operand.tmp 23) 35), 4, [(.t (.agg [(.d (.v (.string key11))), (.d (.v (.bool has12))), (.d (.v (.string val13)))])), (.t (.agg [(.d (.v (.string key17))), (.d (.v (.bool has18))), (.d (.v (.string val19)))]))], [], (sc (.bool (!(eqOpB (AOp.mk key11 has12 val13) (AOp.mk key17 has18 val19))))), []⟩] mixed (by kernel_rfl) ⟨tri_index_sl (e := 35) (sz := 3) (bytes := 40) (i := k3) tab_ok rfl (at_map encOp ha9) (all_map fun _ => rfl), tri_index_sl (e := 35) (sz := 3) (bytes := 40) (i := k3) tab_ok rfl (at_map encOp ha15) (all_map fun _ => rfl), tri_eqStruct [(.string key11), (.bool has12), (.string val13)] [(.string key17), (.bool has18), (.string val19)] true (by kernel_rfl), trivial⟩ ?_
      refine peel_seq ?_
      refine awp_cond (b := (!(eqOpB (AOp.mk key11 has12 val13) (AOp.mk key17 has18 val19)))) rfl (fun hc20 => ?_) (fun hc20 => ?_)
      · skip
        have hc20n : (eqOpB (AOp.mk key11 has12 val13) (AOp.mk key17 has18 val19)) = false := by simpa using hc20
        refine awp_seq ?_
        refine awp_region_keep tab_ok boxes [] [0, 1, 4, 12, 13] [] ⟨26, [(0, (.t (.c (.d (.sl (List.map encOp l)))))), (1, (.t (.c (.d (.sl (List.map encOp m)))))), (4, (sc (.bool false))), (12, (sc (.int .i64 (List.length l : Int)))), (13, (sc (.int .i64 (k3 : Int))))], [], []⟩ [] mixed (by kernel_rfl) trivial ?_
        refine peel_seq ?_
        have hE21 := hJ6
        rw [hd10, hd16] at hE21
        simp only [eqL, hc1, hc20, hc20n, hc7, cond_true, cond_false, Bool.not_true, Bool.not_false] at hE21
        refine awp_ret ?_
        refine peel_block_ret ?_
        refine peel_seq_ret ?_
        refine peel_seq_ret ?_
        refine peel_block_ret ?_
        refine peel_seq_ret ?_
        exact ends_ret rfl (show some ((sc (.bool false)) : SV) = some ((sc (.bool (eqL eqOpB l m))) : SV) from by first | rfl | (simp only [eqL, hc1, hc20, hc20n, hc7, ← hE21, cond_true, cond_false, Bool.not_true, Bool.not_false, List.map_nil])) rfl
      · skip
        have hc20n : (eqOpB (AOp.mk key11 has12 val13) (AOp.mk key17 has18 val19)) = true := by simpa using hc20
        refine q_keep [0, 1, 4, 12, 13] [] ?_
        refine awp_skip ?_
        refine peel_block ?_
        refine peel_seq ?_
        refine awp_region_keep tab_ok boxes [(0, ⟨[], (sc (.int .i64 ((k3 : Int) + 1))), some []⟩)] [0, 1, 4, 12, 13] [] ⟨26, [(0, (.t (.c (.d (.sl (List.map encOp l)))))), (1, (.t (.c (.d (.sl (List.map encOp m)))))), (4, (sc (.bool false))), (12, (sc (.int .i64 (List.length l : Int)))), (13, (sc (.int .i64 ((k3 : Int) + 1))))], [], []⟩ [⟨(Go.Op.binOp Go.BinOp.add 3 (Go.Operand.tmp 13) (Go.Operand.const (Go.Value.int Go.IntKind.i64 1)) 3), 3, [(sc (.int .i64 (k3 : Int))), (sc (.int .i64 1))], [], (sc (.int .i64 ((k3 : Int) + 1))), []⟩] mixed (by kernel_rfl) ⟨tri_int ((k3 : Int) + 1) (wrap_i64 (by omega)), trivial⟩ ?_
        exact peel_round (k3 + 1) rfl ⟨by (try simp only [List.length_map] at *); omega, trivial, by have hj := hJ6; rw [hd10, hd16] at hj; simp only [eqL, hc1, hc20, hc20n, hc7, cond_true, cond_false, Bool.not_true, Bool.not_false] at hj ⊢; exact hj⟩ (by (try simp only [List.length_map] at *); omega)
    · skip
      have hc7p := of_decide_eq_false hc7
      have hE22 := hJ6
      rw [at_end (l := l) (by (try simp only [List.length_map] at *); omega), at_end (l := m) (by (try simp only [List.length_map] at *); omega)] at hE22
      simp only [eqL, hc1, hc7, cond_true, cond_false, Bool.not_true, Bool.not_false] at hE22
      refine awp_exit ?_
      refine peel_seq_exit ?_
      refine peel_seq_exit ?_
      refine peel_hit ?_
      refine peel_seq ?_
      refine awp_seq ?_
      refine awp_region_keep tab_ok boxes [] [4] [] ⟨26, [(4, (sc (.bool true)))], [], []⟩ [] mixed (by kernel_rfl) trivial ?_
      refine peel_seq ?_
      refine awp_ret ?_
      exact ends_ret rfl (show some ((sc (.bool true)) : SV) = some ((sc (.bool (eqL eqOpB l m))) : SV) from by first | rfl | (simp only [eqL, hc1, hc7, ← hE22, cond_true, cond_false, Bool.not_true, Bool.not_false, List.map_nil])) rfl
theorem l_EqualEvent (l m : List AEv) : Sat Try.prog 30 [(.t (.c (.d (.sl (List.map encEv l))))), (.t (.c (.d (.sl (List.map encEv m)))))] [] (sc (.bool (eqL eqEvB l m))) [] := by
  refine sat_of_body tab_ok Try.func30 rfl (by kernel_rfl) (Nat.le_of_ble_eq_true rfl) rfl fun G => ?_
  refine awp_seq ?_
  refine awp_region_keep tab_ok boxes [] [0, 1, 4] [] ⟨26, [(0, (.t (.c (.d (.sl (List.map encEv l)))))), (1, (.t (.c (.d (.sl (List.map encEv m)))))), (4, (sc (.bool false)))], [], []⟩ [] mixed (by kernel_rfl) trivial ?_
  refine peel_seq ?_
  refine awp_seq ?_
  refine awp_seq ?_
  refine awp_region_keep tab_ok boxes [(1, ⟨[], (sc (.int .i64 (List.length l : Int))), none⟩), (3, ⟨[], (sc (.int .i64 (List.length m : Int))), none⟩)] [0, 1, 4, 10] [] ⟨26, [(0, (.t (.c (.d (.sl (List.map encEv l)))))), (1, (.t (.c (.d (.sl (List.map encEv m)))))), (4, (sc (.bool false))), (10, (sc (.bool ((List.length l : Int) != (List.length m : Int)))))], [], []⟩ [⟨(Go.Op.call (Go.Call.mk (Go.Callee.builtin Go.Builtin.len) #[(Go.Operand.tmp 6)] #[29])), 3, [(.t (.c (.d (.sl (List.map encEv l)))))], [], (sc (.int .i64 (List.length l : Int))), []⟩, ⟨(Go.Op.call (Go.Call.mk (Go.Callee.builtin Go.Builtin.len) #[(Go.Operand.tmp 8)] #[29])), 3, [(.t (.c (.d (.sl (List.map encEv m)))))], [], (sc (.int .i64 (List.length m : Int))), []⟩] mixed (by kernel_rfl) ⟨tri_len_map tab_ok rfl, tri_len_map tab_ok rfl, trivial⟩ ?_
  refine peel_seq ?_
  refine awp_cond (b := ((List.length l : Int) != (List.length m : Int))) rfl (fun hc1 => ?_) (fun hc1 => ?_)
  · skip
    have hc1p : (List.length l : Int) ≠ (List.length m : Int) := by simpa using hc1
    refine awp_seq ?_
    refine awp_region_keep tab_ok boxes [] [0, 1, 4] [] ⟨26, [(0, (.t (.c (.d (.sl (List.map encEv l)))))), (1, (.t (.c (.d (.sl (List.map encEv m)))))), (4, (sc (.bool false)))], [], []⟩ [] mixed (by kernel_rfl) trivial ?_
    refine peel_seq ?_
    refine awp_ret ?_
    refine peel_seq_ret ?_
    exact ends_ret rfl (show some ((sc (.bool false)) : SV) = some ((sc (.bool (eqL eqEvB l m))) : SV) from by rw [eqL_len (by omega)]) rfl
  · skip
    have hc1p : (List.length l : Int) = (List.length m : Int) := by simpa using hc1
    refine awp_skip ?_
    refine peel_seq ?_
    refine awp_seq ?_
    refine awp_seq ?_
    refine awp_region_keep tab_ok boxes [(1, ⟨[], (sc (.int .i64 (List.length l : Int))), none⟩)] [0, 1, 4, 12, 13] [] ⟨26, [(0, (.t (.c (.d (.sl (List.map encEv l)))))), (1, (.t (.c (.d (.sl (List.map encEv m)))))), (4, (sc (.bool false))), (12, (sc (.int .i64 (List.length l : Int)))), (13, (sc (.int .i64 0)))], [], []⟩ [⟨(Go.Op.call (Go.Call.mk (Go.Callee.builtin Go.Builtin.len) #[(Go.Operand.tmp 11)] #[29])), 3, [(.t (.c (.d (.sl (List.map encEv l)))))], [], (sc (.int .i64 (List.length l : Int))), []⟩] mixed (by kernel_rfl) ⟨tri_len_map tab_ok rfl, trivial⟩ ?_
    refine peel_seq ?_
    refine awp_block ?_
    refine awp_len 0 rfl (fun hlen2 => ?_)
    refine awp_loopP (ι := Nat) (fun x => ⟨26, [(0, (.t (.c (.d (.sl (List.map encEv l)))))), (1, (.t (.c (.d (.sl (List.map encEv m)))))), (4, (sc (.bool false))), (12, (sc (.int .i64 (List.length l : Int)))), (13, (sc (.int .i64 (x : Int))))], [], []⟩) (fun x => x ≤ List.length l ∧ (True) ∧ eqL eqEvB (List.drop x l) (List.drop x m) = eqL eqEvB l m) (fun x => List.length l - x) (0) rfl ⟨Nat.zero_le _, trivial, rfl⟩ ?_
    rintro k3 ⟨hk4, hx5, hJ6⟩
    try simp only at hk4 hx5 hJ6
    refine awp_seq ?_
    refine awp_region_keep tab_ok boxes [] [0, 1, 4, 12, 13, 14] [] ⟨26, [(0, (.t (.c (.d (.sl (List.map encEv l)))))), (1, (.t (.c (.d (.sl (List.map encEv m)))))), (4, (sc (.bool false))), (12, (sc (.int .i64 (List.length l : Int)))), (13, (sc (.int .i64 (k3 : Int)))), (14, (sc (.bool (decide ((k3 : Int) < (List.length l : Int))))))], [], []⟩ [] mixed (by kernel_rfl) trivial ?_
    refine peel_seq ?_
    refine awp_seq ?_
    refine awp_cond (b := (decide ((k3 : Int) < (List.length l : Int)))) rfl (fun hc7 => ?_) (fun hc7 => ?_)
    · skip
      have hc7p := of_decide_eq_true hc7
      refine awp_skip ?_
      refine peel_seq ?_
      refine awp_seq ?_
      refine awp_block ?_
      refine awp_seq ?_
      refine awp_region_keep tab_ok boxes [] [0, 1, 4, 5, 12, 13] [] ⟨26, [(0, (.t (.c (.d (.sl (List.map encEv l)))))), (1, (.t (.c (.d (.sl (List.map encEv m)))))), (4, (sc (.bool false))), (5, (sc (.int .i64 (k3 : Int)))), (12, (sc (.int .i64 (List.length l : Int)))), (13, (sc (.int .i64 (k3 : Int))))], [], []⟩ [] mixed (by kernel_rfl) trivial ?_
      refine peel_seq ?_
      refine awp_seq ?_
      obtain ⟨⟨pos11, key12, had13, old14, has15, now16⟩, ha9, hd10⟩ := at_drop (l := l) (k := k3) (by (try simp only [List.length_map] at *); omega)
      obtain ⟨⟨pos20, key21, had22, old23, has24, now25⟩, ha18, hd19⟩ := at_drop (l := m) (k := k3) (by (try simp only [List.length_map] at *); omega)
      refine awp_region_keep tab_ok boxes [(2, ⟨[], (.t (.c (.d (.ptr [(.v (.int .i64 pos11)), (.v (.string key12)), (.v (.bool had13)), (.v (.string old14)), (.v (.bool has15)), (.v (.string now16))])))), some []⟩), (6, ⟨[], (.t (.c (.d (.ptr [(.v (.int .i64 pos20)), (.v (.string key21)), (.v (.bool had22)), (.v (.string old23)), (.v (.bool has24)), (.v (.string now25))])))), some []⟩), (8, ⟨[], (sc (.bool (!(eqEvB (AEv.mk pos11 key12 had13 old14 has15 now16) (AEv.mk pos20 key21 had22 old23 has24 now25))))), some []⟩)] [0, 1, 4, 12, 13, 24] [] ⟨26, [(0, (.t (.c (.d (.sl (List.map encEv l)))))), (1, (.t (.c (.d (.sl (List.map encEv m)))))), (4, (sc (.bool false))), (12, (sc (.int .i64 (List.length l : Int)))), (13, (sc (.int .i64 (k3 : Int)))), (24, (sc (.bool (!(eqEvB (AEv.mk pos11 key12 had13 old14 has15 now16) (AEv.mk pos20 key21 had22 old23 has24 now25))))))], [], []⟩ [⟨(Go.Op.indexAddr 29 (Go.Operand.tmp 16) (Go.Operand.tmp 17)), 0, [(.t (.c (.d (.sl (List.map encEv l))))), (sc (.int .i64 (k3 : Int)))], [], (.t (.c (.d (.ptr [(.v (.int .i64 pos11)), (.v (.string key12)), (.v (.bool had13)), (.v (.string old14)), (.v (.bool has15)), (.v (.string now16))])))), []⟩, ⟨(Go.Op.indexAddr 29 (Go.Operand.tmp 20) (Go.Operand.tmp 21)), 0, [(.t (.c (.d (.sl (List.map encEv m))))), (sc (.int .i64 (k3 : Int)))], [], (.t (.c (.d (.ptr [(.v (.int .i64 pos20)), (.v (.string key21)), (.v (.bool had22)), (.v (.string old23)), (.v (.bool has24)), (.v (.string now25))])))), []⟩, ⟨(Go.Op.binOp Go.BinOp.neq 44 (Go.Operand.tmp 19) (Go.Operand.tmp 23) 44), 4, [(.t (.agg [(.d (.v (.int .i64 pos11))), (.d (.v (.string key12))), (.d (.v (.bool had13))), (.d (.v (.string old14))), (.d (.v (.bool has15))), (.d (.v (.string now16)))])), (.t (.agg [(.d (.v (.int .i64 pos20))), (.d (.v (.string key21))), (.d (.v (.bool had22))), (.d (.v (.string old23))), (.d (.v (.bool has24))), (.d (.v (.string now25)))]))], [], (sc (.bool (!(eqEvB (AEv.mk pos11 key12 had13 old14 has15 now16) (AEv.mk pos20 key21 had22 old23 has24 now25))))), []⟩] mixed (by kernel_rfl) ⟨tri_index_sl (e := 44) (sz := 6) (bytes := 72) (i := k3) tab_ok rfl (at_map encEv ha9) (all_map fun _ => rfl), tri_index_sl (e := 44) (sz := 6) (bytes := 72) (i := k3) tab_ok rfl (at_map encEv ha18) (all_map fun _ => rfl), tri_eqStruct [(.int .i64 pos11), (.string key12), (.bool had13), (.string old14), (.bool has15), (.string now16)] [(.int .i64 pos20), (.string key21), (.bool had22), (.string old23), (.bool has24), (.string now25)] true (by kernel_rfl), trivial⟩ ?_
      refine peel_seq ?_
      refine awp_cond (b := (!(eqEvB (AEv.mk pos11 key12 had13 old14 has15 now16) (AEv.mk pos20 key21 had22 old23 has24 now25)))) rfl (fun hc26 => ?_) (fun hc26 => ?_)
      · skip
        have hc26n : (eqEvB (AEv.mk pos11 key12 had13 old14 has15 now16) (AEv.mk pos20 key21 had22 old23 has24 now25)) = false := by simpa using hc26
        refine awp_seq ?_
        refine awp_region_keep tab_ok boxes [] [0, 1, 4, 12, 13] [] ⟨26, [(0, (.t (.c (.d (.sl (List.map encEv l)))))), (1, (.t (.c (.d (.sl (List.map encEv m)))))), (4, (sc (.bool false))), (12, (sc (.int .i64 (List.length l : Int)))), (13, (sc (.int .i64 (k3 : Int))))], [], []⟩ [] mixed (by kernel_rfl) trivial ?_
        refine peel_seq ?_
        have hE27 := hJ6
        rw [hd10, hd19] at hE27
        simp only [eqL, hc1, hc26, hc26n, hc7, cond_true, cond_false, Bool.not_true, Bool.not_false] at hE27
        refine awp_ret ?_
        refine peel_block_ret ?_
        refine peel_seq_ret ?_
        refine peel_seq_ret ?_
        refine peel_block_ret ?_
        refine peel_seq_ret ?_
        exact ends_ret rfl (show some ((sc (.bool false)) : SV) = some ((sc (.bool (eqL eqEvB l m))) : SV) from by first | rfl | (simp only [eqL, hc1, hc26, hc26n, hc7, ← hE27, cond_true, cond_false, Bool.not_true, Bool.not_false, List.map_nil])) rfl
      · skip
        have hc26n : (eqEvB (AEv.mk pos11 key12 had13 old14 has15 now16) (AEv.mk pos20 key21 had22 old23 has24 now25)) = true := by simpa using hc26
        refine q_keep [0, 1, 4, 12, 13] [] ?_
        refine awp_skip ?_
        refine peel_block ?_
        refine peel_seq ?_
        refine awp_region_keep tab_ok boxes [(0, ⟨[], (sc (.int .i64 ((k3 : Int) + 1))), some []⟩)] [0, 1, 4, 12, 13] [] ⟨26, [(0, (.t (.c (.d (.sl (List.map encEv l)))))), (1, (.t (.c (.d (.sl (List.map encEv m)))))), (4, (sc (.bool false))), (12, (sc (.int .i64 (List.length l : Int)))), (13, (sc (.int .i64 ((k3 : Int) + 1))))], [], []⟩ [⟨(Go.Op.binOp Go.BinOp.add 3 (Go.Operand.tmp 13) (Go.Operand.const (Go.Value.int Go.IntKind.i64 1)) 3), 3, [(sc (.int .i64 (k3 : Int))), (sc (.int .i64 1))], [], (sc (.int .i64 ((k3 : Int) + 1))), []⟩] mixed (by kernel_rfl) ⟨tri_int ((k3 : Int) + 1) (wrap_i64 (by omega)), trivial⟩ ?_
        exact peel_round (k3 + 1) rfl ⟨by (try simp only [List.length_map] at *); omega, trivial, by have hj := hJ6; rw [hd10, hd19] at hj; simp only [eqL, hc1, hc26, hc26n, hc7, cond_true, cond_false, Bool.not_true, Bool.not_false] at hj ⊢; exact hj⟩ (by (try simp only [List.length_map] at *); omega)
    · skip
      have hc7p := of_decide_eq_false hc7
      have hE28 := hJ6
      rw [at_end (l := l) (by (try simp only [List.length_map] at *); omega), at_end (l := m) (by (try simp only [List.length_map] at *); omega)] at hE28
      simp only [eqL, hc1, hc7, cond_true, cond_false, Bool.not_true, Bool.not_false] at hE28
      refine awp_exit ?_
      refine peel_seq_exit ?_
      refine peel_seq_exit ?_
      refine peel_hit ?_
      refine peel_seq ?_
      refine awp_seq ?_
      refine awp_region_keep tab_ok boxes [] [4] [] ⟨26, [(4, (sc (.bool true)))], [], []⟩ [] mixed (by kernel_rfl) trivial ?_
      refine peel_seq ?_
      refine awp_ret ?_
      exact ends_ret rfl (show some ((sc (.bool true)) : SV) = some ((sc (.bool (eqL eqEvB l m))) : SV) from by first | rfl | (simp only [eqL, hc1, hc7, ← hE28, cond_true, cond_false, Bool.not_true, Bool.not_false, List.map_nil])) rfl
theorem l_put (k v : ByteArray) : Sat Try.prog 41 [(sc (.string k)), (sc (.string v))] [] (.t (.agg [(.d (.v (.string k))), (.d (.v (.bool true))), (.d (.v (.string v)))])) [] := by
  refine sat_of_body tab_ok Try.func41 rfl (by kernel_rfl) (Nat.le_of_ble_eq_true rfl) rfl fun G => ?_
  refine awp_seq ?_
  refine awp_region_keep tab_ok boxes [] [0, 1, 4] [4] ⟨8, [(0, (sc (.string k))), (1, (sc (.string v))), (4, (.t (.c (.loc 4 0))))], [(4, (.cells 35 [(.d (.v (.string ⟨#[]⟩))), (.d (.v (.bool false))), (.d (.v (.string ⟨#[]⟩)))]))], []⟩ [] mixed (by kernel_rfl) trivial ?_
  refine peel_seq ?_
  refine awp_seq ?_
  refine awp_region_keep tab_ok boxes [] [4] [4] ⟨8, [(4, (.t (.c (.loc 4 0))))], [(4, (.cells 35 [(.d (.v (.string k))), (.d (.v (.bool true))), (.d (.v (.string v)))]))], []⟩ [] mixed (by kernel_rfl) trivial ?_
  refine peel_seq ?_
  refine awp_ret ?_
  exact ends_ret rfl rfl rfl
theorem l_awake  : Sat Try.prog 11 [] [] (sc (.bool true)) [] := by
  refine sat_of_body tab_ok Try.func11 rfl (by kernel_rfl) (Nat.le_of_ble_eq_true rfl) rfl fun G => ?_
  refine awp_seq ?_
  refine awp_region_keep tab_ok boxes [] [0] [] ⟨75, [(0, (sc (.bool false)))], [], []⟩ [] mixed (by kernel_rfl) trivial ?_
  refine peel_seq ?_
  refine awp_seq ?_
  refine awp_region_keep tab_ok boxes [(0, ⟨[], (.t (.c (.loc 10 0))), some [(10, (.cells 51 [(.d (.ptr [(encT (Tr.nil))]))]))]⟩)] [0, 1] [10] ⟨75, [(0, (sc (.bool false))), (1, (.t (.c (.loc 10 0))))], [(10, (.cells 51 [(.d (.ptr [(encT (Tr.nil))]))]))], []⟩ [⟨(Go.Op.call (Go.Call.mk (Go.Callee.value (Go.Operand.func 24)) #[] #[])), 28, [(sc (.func (.func 24) #[] #[]))], [], (.t (.c (.loc 10 0))), [(10, (.cells 51 [(.d (.ptr [(encT (Tr.nil))]))]))]⟩] mixed (by kernel_rfl) ⟨tri_call (Sat.sw 5001 10 (k_New)), trivial⟩ ?_
  refine peel_seq ?_
  refine awp_seq ?_
  refine awp_region_keep tab_ok boxes [(1, ⟨[], (.t (.agg [(.d (.v (.string ⟨#[97]⟩))), (.d (.v (.bool true))), (.d (.v (.string ⟨#[49]⟩)))])), some []⟩), (2, ⟨[], (.t (.c (.d (.sl (List.map encOp ([(AOp.mk (⟨#[97]⟩) true (⟨#[49]⟩))])))))), some []⟩), (3, ⟨[10], (.tup [(.c (.d (.sl (List.map encEv ([(AEv.mk 5 ⟨#[97]⟩ false ⟨#[]⟩ true ⟨#[49]⟩)]))))), (.c (.d (.v (.int .i64 0))))]), some [(10, (.cells 51 [(.d (.ptr [(encT (Tr.node ⟨#[97]⟩ ⟨#[49]⟩ Tr.nil Tr.nil))]))]))]⟩)] [0, 1, 2, 3] [10] ⟨75, [(0, (sc (.bool false))), (1, (.t (.c (.loc 10 0)))), (2, (.t (.c (.d (.sl (List.map encEv ([(AEv.mk 5 ⟨#[97]⟩ false ⟨#[]⟩ true ⟨#[49]⟩)]))))))), (3, (sc (.int .i64 0)))], [(10, (.cells 51 [(.d (.ptr [(encT (Tr.node ⟨#[97]⟩ ⟨#[49]⟩ Tr.nil Tr.nil))]))]))], []⟩ [⟨(Go.Op.call (Go.Call.mk (Go.Callee.value (Go.Operand.func 41)) #[(Go.Operand.const (Go.Value.string (ByteArray.mk #[97]))), (Go.Operand.const (Go.Value.string (ByteArray.mk #[49])))] #[9, 9])), 35, [(sc (.func (.func 41) #[] #[])), (sc (.string ⟨#[97]⟩)), (sc (.string ⟨#[49]⟩))], [], (.t (.agg [(.d (.v (.string ⟨#[97]⟩))), (.d (.v (.bool true))), (.d (.v (.string ⟨#[49]⟩)))])), []⟩, ⟨(Go.Op.buildSlice 23 1 #[(0, (Go.Operand.tmp 13))]), 23, [(.t (.agg [(.d (.v (.string ⟨#[97]⟩))), (.d (.v (.bool true))), (.d (.v (.string ⟨#[49]⟩)))]))], [], (.t (.c (.d (.sl (List.map encOp ([(AOp.mk (⟨#[97]⟩) true (⟨#[49]⟩))])))))), []⟩, ⟨(Go.Op.call (Go.Call.mk (Go.Callee.value (Go.Operand.func 15)) #[(Go.Operand.tmp 12), (Go.Operand.const (Go.Value.int Go.IntKind.i64 5)), (Go.Operand.const (Go.Value.slice Option.none 0 0)), (Go.Operand.tmp 14)] #[28, 3, 23, 23])), 38, [(sc (.func (.func 15) #[] #[])), (.t (.c (.loc 10 0))), (sc (.int .i64 5)), (sc (.slice none 0 0)), (.t (.c (.d (.sl (List.map encOp ([(AOp.mk (⟨#[97]⟩) true (⟨#[49]⟩))]))))))], [(10, (.cells 51 [(.d (.ptr [(encT (Tr.nil))]))]))], (.tup [(.c (.d (.sl (List.map encEv ([(AEv.mk 5 ⟨#[97]⟩ false ⟨#[]⟩ true ⟨#[49]⟩)]))))), (.c (.d (.v (.int .i64 0))))]), [(10, (.cells 51 [(.d (.ptr [(encT (Tr.node ⟨#[97]⟩ ⟨#[49]⟩ Tr.nil Tr.nil))]))]))]⟩] mixed (by kernel_rfl) ⟨tri_call (l_put (⟨#[97]⟩) (⟨#[49]⟩)), tri_slice_data (e := 35) (sz := 3) (bytes := 40) tab_ok (by kernel_rfl) rfl, tri_to (tri_res (tri_call (Sat.sw 5000 10 (Sat.sub (k_Do (Tr.nil) 5 ([]) ([(AOp.mk (⟨#[97]⟩) true (⟨#[49]⟩))]) (by decide)) (.same (.same (.no (.same .done))))))) (by kernel_rfl)) (by kernel_rfl), trivial⟩ ?_
  refine peel_seq ?_
  refine awp_seq ?_
  refine awp_region_keep tab_ok boxes [(1, ⟨[], (.t (.agg [(.d (.v (.string ⟨#[97]⟩))), (.d (.v (.bool true))), (.d (.v (.string ⟨#[49]⟩)))])), some []⟩), (2, ⟨[], (.t (.c (.d (.sl (List.map encOp ([(AOp.mk (⟨#[97]⟩) true (⟨#[49]⟩))])))))), some []⟩), (4, ⟨[], (.t (.agg [(.d (.v (.string ⟨#[98]⟩))), (.d (.v (.bool true))), (.d (.v (.string ⟨#[50]⟩)))])), some []⟩), (5, ⟨[], (.t (.c (.d (.sl (List.map encOp ([(AOp.mk (⟨#[97]⟩) false (⟨#[]⟩)), (AOp.mk (⟨#[98]⟩) true (⟨#[50]⟩))])))))), some []⟩), (6, ⟨[10], (.tup [(.c (.d (.sl (List.map encEv ([(AEv.mk 6 ⟨#[97]⟩ true ⟨#[49]⟩ false ⟨#[]⟩), (AEv.mk 6 ⟨#[98]⟩ false ⟨#[]⟩ true ⟨#[50]⟩)]))))), (.c (.d (.v (.int .i64 0))))]), some [(10, (.cells 51 [(.d (.ptr [(encT (Tr.node ⟨#[98]⟩ ⟨#[50]⟩ Tr.nil Tr.nil))]))]))]⟩)] [0, 1, 2, 3, 4, 5] [10] ⟨75, [(0, (sc (.bool false))), (1, (.t (.c (.loc 10 0)))), (2, (.t (.c (.d (.sl (List.map encEv ([(AEv.mk 5 ⟨#[97]⟩ false ⟨#[]⟩ true ⟨#[49]⟩)]))))))), (3, (sc (.int .i64 0))), (4, (.t (.c (.d (.sl (List.map encEv ([(AEv.mk 6 ⟨#[97]⟩ true ⟨#[49]⟩ false ⟨#[]⟩), (AEv.mk 6 ⟨#[98]⟩ false ⟨#[]⟩ true ⟨#[50]⟩)]))))))), (5, (sc (.int .i64 0)))], [(10, (.cells 51 [(.d (.ptr [(encT (Tr.node ⟨#[98]⟩ ⟨#[50]⟩ Tr.nil Tr.nil))]))]))], []⟩ [⟨(Go.Op.call (Go.Call.mk (Go.Callee.value (Go.Operand.func 41)) #[(Go.Operand.const (Go.Value.string (ByteArray.mk #[97]))), (Go.Operand.const (Go.Value.string (ByteArray.mk #[49])))] #[9, 9])), 35, [(sc (.func (.func 41) #[] #[])), (sc (.string ⟨#[97]⟩)), (sc (.string ⟨#[49]⟩))], [], (.t (.agg [(.d (.v (.string ⟨#[97]⟩))), (.d (.v (.bool true))), (.d (.v (.string ⟨#[49]⟩)))])), []⟩, ⟨(Go.Op.buildSlice 23 1 #[(0, (Go.Operand.tmp 20))]), 23, [(.t (.agg [(.d (.v (.string ⟨#[97]⟩))), (.d (.v (.bool true))), (.d (.v (.string ⟨#[49]⟩)))]))], [], (.t (.c (.d (.sl (List.map encOp ([(AOp.mk (⟨#[97]⟩) true (⟨#[49]⟩))])))))), []⟩, ⟨(Go.Op.call (Go.Call.mk (Go.Callee.value (Go.Operand.func 41)) #[(Go.Operand.const (Go.Value.string (ByteArray.mk #[98]))), (Go.Operand.const (Go.Value.string (ByteArray.mk #[50])))] #[9, 9])), 35, [(sc (.func (.func 41) #[] #[])), (sc (.string ⟨#[98]⟩)), (sc (.string ⟨#[50]⟩))], [], (.t (.agg [(.d (.v (.string ⟨#[98]⟩))), (.d (.v (.bool true))), (.d (.v (.string ⟨#[50]⟩)))])), []⟩, ⟨(Go.Op.buildSlice 23 2 #[(0, (Go.Operand.tmp 22)), (1, (Go.Operand.tmp 23))]), 23, [(.t (.agg [(.d (.v (.string ⟨#[97]⟩))), (.d (.v (.bool false))), (.d (.v (.string ⟨#[]⟩)))])), (.t (.agg [(.d (.v (.string ⟨#[98]⟩))), (.d (.v (.bool true))), (.d (.v (.string ⟨#[50]⟩)))]))], [], (.t (.c (.d (.sl (List.map encOp ([(AOp.mk (⟨#[97]⟩) false (⟨#[]⟩)), (AOp.mk (⟨#[98]⟩) true (⟨#[50]⟩))])))))), []⟩, ⟨(Go.Op.call (Go.Call.mk (Go.Callee.value (Go.Operand.func 15)) #[(Go.Operand.tmp 19), (Go.Operand.const (Go.Value.int Go.IntKind.i64 6)), (Go.Operand.tmp 21), (Go.Operand.tmp 24)] #[28, 3, 23, 23])), 38, [(sc (.func (.func 15) #[] #[])), (.t (.c (.loc 10 0))), (sc (.int .i64 6)), (.t (.c (.d (.sl (List.map encOp ([(AOp.mk (⟨#[97]⟩) true (⟨#[49]⟩))])))))), (.t (.c (.d (.sl (List.map encOp ([(AOp.mk (⟨#[97]⟩) false (⟨#[]⟩)), (AOp.mk (⟨#[98]⟩) true (⟨#[50]⟩))]))))))], [(10, (.cells 51 [(.d (.ptr [(encT (Tr.node ⟨#[97]⟩ ⟨#[49]⟩ Tr.nil Tr.nil))]))]))], (.tup [(.c (.d (.sl (List.map encEv ([(AEv.mk 6 ⟨#[97]⟩ true ⟨#[49]⟩ false ⟨#[]⟩), (AEv.mk 6 ⟨#[98]⟩ false ⟨#[]⟩ true ⟨#[50]⟩)]))))), (.c (.d (.v (.int .i64 0))))]), [(10, (.cells 51 [(.d (.ptr [(encT (Tr.node ⟨#[98]⟩ ⟨#[50]⟩ Tr.nil Tr.nil))]))]))]⟩] mixed (by kernel_rfl) ⟨tri_call (l_put (⟨#[97]⟩) (⟨#[49]⟩)), tri_slice_data (e := 35) (sz := 3) (bytes := 40) tab_ok (by kernel_rfl) rfl, tri_call (l_put (⟨#[98]⟩) (⟨#[50]⟩)), tri_slice_data (e := 35) (sz := 3) (bytes := 40) tab_ok (by kernel_rfl) rfl, tri_to (tri_res (tri_call (Sat.sw 5000 10 (k_Do (Tr.node ⟨#[97]⟩ ⟨#[49]⟩ Tr.nil Tr.nil) 6 ([(AOp.mk (⟨#[97]⟩) true (⟨#[49]⟩))]) ([(AOp.mk (⟨#[97]⟩) false (⟨#[]⟩)), (AOp.mk (⟨#[98]⟩) true (⟨#[50]⟩))]) (by decide)))) (by kernel_rfl)) (by kernel_rfl), trivial⟩ ?_
  refine peel_seq ?_
  refine awp_seq ?_
  refine awp_region_keep tab_ok boxes [(1, ⟨[], (.t (.agg [(.d (.v (.string ⟨#[97]⟩))), (.d (.v (.bool true))), (.d (.v (.string ⟨#[49]⟩)))])), some []⟩), (2, ⟨[], (.t (.c (.d (.sl (List.map encOp ([(AOp.mk (⟨#[97]⟩) true (⟨#[49]⟩))])))))), some []⟩), (3, ⟨[], (.t (.agg [(.d (.v (.string ⟨#[98]⟩))), (.d (.v (.bool true))), (.d (.v (.string ⟨#[51]⟩)))])), some []⟩), (4, ⟨[], (.t (.c (.d (.sl (List.map encOp ([(AOp.mk (⟨#[98]⟩) true (⟨#[51]⟩))])))))), some []⟩), (5, ⟨[10], (.tup [(.c (.d (.sl (List.map encEv ([]))))), (.c (.d (.v (.int .i64 60))))]), some [(10, (.cells 51 [(.d (.ptr [(encT (Tr.node ⟨#[98]⟩ ⟨#[50]⟩ Tr.nil Tr.nil))]))]))]⟩)] [0, 1, 2, 3, 4, 5, 7] [10] ⟨75, [(0, (sc (.bool false))), (1, (.t (.c (.loc 10 0)))), (2, (.t (.c (.d (.sl (List.map encEv ([(AEv.mk 5 ⟨#[97]⟩ false ⟨#[]⟩ true ⟨#[49]⟩)]))))))), (3, (sc (.int .i64 0))), (4, (.t (.c (.d (.sl (List.map encEv ([(AEv.mk 6 ⟨#[97]⟩ true ⟨#[49]⟩ false ⟨#[]⟩), (AEv.mk 6 ⟨#[98]⟩ false ⟨#[]⟩ true ⟨#[50]⟩)]))))))), (5, (sc (.int .i64 0))), (7, (sc (.int .i64 60)))], [(10, (.cells 51 [(.d (.ptr [(encT (Tr.node ⟨#[98]⟩ ⟨#[50]⟩ Tr.nil Tr.nil))]))]))], []⟩ [⟨(Go.Op.call (Go.Call.mk (Go.Callee.value (Go.Operand.func 41)) #[(Go.Operand.const (Go.Value.string (ByteArray.mk #[97]))), (Go.Operand.const (Go.Value.string (ByteArray.mk #[49])))] #[9, 9])), 35, [(sc (.func (.func 41) #[] #[])), (sc (.string ⟨#[97]⟩)), (sc (.string ⟨#[49]⟩))], [], (.t (.agg [(.d (.v (.string ⟨#[97]⟩))), (.d (.v (.bool true))), (.d (.v (.string ⟨#[49]⟩)))])), []⟩, ⟨(Go.Op.buildSlice 23 1 #[(0, (Go.Operand.tmp 30))]), 23, [(.t (.agg [(.d (.v (.string ⟨#[97]⟩))), (.d (.v (.bool true))), (.d (.v (.string ⟨#[49]⟩)))]))], [], (.t (.c (.d (.sl (List.map encOp ([(AOp.mk (⟨#[97]⟩) true (⟨#[49]⟩))])))))), []⟩, ⟨(Go.Op.call (Go.Call.mk (Go.Callee.value (Go.Operand.func 41)) #[(Go.Operand.const (Go.Value.string (ByteArray.mk #[98]))), (Go.Operand.const (Go.Value.string (ByteArray.mk #[51])))] #[9, 9])), 35, [(sc (.func (.func 41) #[] #[])), (sc (.string ⟨#[98]⟩)), (sc (.string ⟨#[51]⟩))], [], (.t (.agg [(.d (.v (.string ⟨#[98]⟩))), (.d (.v (.bool true))), (.d (.v (.string ⟨#[51]⟩)))])), []⟩, ⟨(Go.Op.buildSlice 23 1 #[(0, (Go.Operand.tmp 32))]), 23, [(.t (.agg [(.d (.v (.string ⟨#[98]⟩))), (.d (.v (.bool true))), (.d (.v (.string ⟨#[51]⟩)))]))], [], (.t (.c (.d (.sl (List.map encOp ([(AOp.mk (⟨#[98]⟩) true (⟨#[51]⟩))])))))), []⟩, ⟨(Go.Op.call (Go.Call.mk (Go.Callee.value (Go.Operand.func 15)) #[(Go.Operand.tmp 29), (Go.Operand.const (Go.Value.int Go.IntKind.i64 7)), (Go.Operand.tmp 31), (Go.Operand.tmp 33)] #[28, 3, 23, 23])), 38, [(sc (.func (.func 15) #[] #[])), (.t (.c (.loc 10 0))), (sc (.int .i64 7)), (.t (.c (.d (.sl (List.map encOp ([(AOp.mk (⟨#[97]⟩) true (⟨#[49]⟩))])))))), (.t (.c (.d (.sl (List.map encOp ([(AOp.mk (⟨#[98]⟩) true (⟨#[51]⟩))]))))))], [(10, (.cells 51 [(.d (.ptr [(encT (Tr.node ⟨#[98]⟩ ⟨#[50]⟩ Tr.nil Tr.nil))]))]))], (.tup [(.c (.d (.sl (List.map encEv ([]))))), (.c (.d (.v (.int .i64 60))))]), [(10, (.cells 51 [(.d (.ptr [(encT (Tr.node ⟨#[98]⟩ ⟨#[50]⟩ Tr.nil Tr.nil))]))]))]⟩] mixed (by kernel_rfl) ⟨tri_call (l_put (⟨#[97]⟩) (⟨#[49]⟩)), tri_slice_data (e := 35) (sz := 3) (bytes := 40) tab_ok (by kernel_rfl) rfl, tri_call (l_put (⟨#[98]⟩) (⟨#[51]⟩)), tri_slice_data (e := 35) (sz := 3) (bytes := 40) tab_ok (by kernel_rfl) rfl, tri_to (tri_res (tri_call (Sat.sw 5000 10 (k_Do (Tr.node ⟨#[98]⟩ ⟨#[50]⟩ Tr.nil Tr.nil) 7 ([(AOp.mk (⟨#[97]⟩) true (⟨#[49]⟩))]) ([(AOp.mk (⟨#[98]⟩) true (⟨#[51]⟩))]) (by decide)))) (by kernel_rfl)) (by kernel_rfl), trivial⟩ ?_
  refine peel_seq ?_
  refine awp_seq ?_
  refine awp_region_keep tab_ok boxes [(1, ⟨[10], (.tup [(.c (.d (.v (.string ⟨#[50]⟩)))), (.c (.d (.v (.bool true))))]), none⟩)] [0, 1, 2, 3, 4, 5, 7, 8, 9] [10] ⟨75, [(0, (sc (.bool false))), (1, (.t (.c (.loc 10 0)))), (2, (.t (.c (.d (.sl (List.map encEv ([(AEv.mk 5 ⟨#[97]⟩ false ⟨#[]⟩ true ⟨#[49]⟩)]))))))), (3, (sc (.int .i64 0))), (4, (.t (.c (.d (.sl (List.map encEv ([(AEv.mk 6 ⟨#[97]⟩ true ⟨#[49]⟩ false ⟨#[]⟩), (AEv.mk 6 ⟨#[98]⟩ false ⟨#[]⟩ true ⟨#[50]⟩)]))))))), (5, (sc (.int .i64 0))), (7, (sc (.int .i64 60))), (8, (sc (.string ⟨#[50]⟩))), (9, (sc (.bool true)))], [(10, (.cells 51 [(.d (.ptr [(encT (Tr.node ⟨#[98]⟩ ⟨#[50]⟩ Tr.nil Tr.nil))]))]))], []⟩ [⟨(Go.Op.call (Go.Call.mk (Go.Callee.value (Go.Operand.func 20)) #[(Go.Operand.tmp 38), (Go.Operand.const (Go.Value.string (ByteArray.mk #[98])))] #[28, 9])), 53, [(sc (.func (.func 20) #[] #[])), (.t (.c (.loc 10 0))), (sc (.string ⟨#[98]⟩))], [(10, (.cells 51 [(.d (.ptr [(encT (Tr.node ⟨#[98]⟩ ⟨#[50]⟩ Tr.nil Tr.nil))]))]))], (.tup [(.c (.d (.v (.string ⟨#[50]⟩)))), (.c (.d (.v (.bool true))))]), [(10, (.cells 51 [(.d (.ptr [(encT (Tr.node ⟨#[98]⟩ ⟨#[50]⟩ Tr.nil Tr.nil))]))]))]⟩] mixed (by kernel_rfl) ⟨tri_res (tri_call (Sat.sw 5000 10 (k_Get (Tr.node ⟨#[98]⟩ ⟨#[50]⟩ Tr.nil Tr.nil) (⟨#[98]⟩)))) (by kernel_rfl), trivial⟩ ?_
  refine peel_seq ?_
  refine awp_seq ?_
  refine awp_region_keep tab_ok boxes [(13, ⟨[], (.t (.c (.d (.sl (List.map encEv ([(AEv.mk 5 (⟨#[97]⟩) false (⟨#[]⟩) true (⟨#[49]⟩))])))))), some []⟩), (14, ⟨[], (sc (.bool true)), some []⟩), (18, ⟨[], (sc (.int .i64 2)), none⟩), (23, ⟨[], (sc (.bool true)), some []⟩), (30, ⟨[10], (sc (.int .i64 1)), none⟩)] [0] [] ⟨75, [(0, (sc (.bool true)))], [], []⟩ [⟨(Go.Op.buildSlice 29 1 #[(0, (Go.Operand.tmp 54))]), 29, [(.t (.agg [(.d (.v (.int .i64 5))), (.d (.v (.string ⟨#[97]⟩))), (.d (.v (.bool false))), (.d (.v (.string ⟨#[]⟩))), (.d (.v (.bool true))), (.d (.v (.string ⟨#[49]⟩)))]))], [], (.t (.c (.d (.sl (List.map encEv ([(AEv.mk 5 (⟨#[97]⟩) false (⟨#[]⟩) true (⟨#[49]⟩))])))))), []⟩, ⟨(Go.Op.call (Go.Call.mk (Go.Callee.value (Go.Operand.func 30)) #[(Go.Operand.tmp 53), (Go.Operand.tmp 55)] #[29, 29])), 4, [(sc (.func (.func 30) #[] #[])), (.t (.c (.d (.sl (List.map encEv ([(AEv.mk 5 ⟨#[97]⟩ false ⟨#[]⟩ true ⟨#[49]⟩)])))))), (.t (.c (.d (.sl (List.map encEv ([(AEv.mk 5 (⟨#[97]⟩) false (⟨#[]⟩) true (⟨#[49]⟩))]))))))], [], (sc (.bool true)), []⟩, ⟨(Go.Op.call (Go.Call.mk (Go.Callee.builtin Go.Builtin.len) #[(Go.Operand.tmp 59)] #[29])), 3, [(.t (.c (.d (.sl (List.map encEv ([(AEv.mk 6 ⟨#[97]⟩ true ⟨#[49]⟩ false ⟨#[]⟩), (AEv.mk 6 ⟨#[98]⟩ false ⟨#[]⟩ true ⟨#[50]⟩)]))))))], [], (sc (.int .i64 2)), []⟩, ⟨(Go.Op.binOp Go.BinOp.eql 9 (Go.Operand.tmp 64) (Go.Operand.const (Go.Value.string (ByteArray.mk #[50]))) 9), 4, [(sc (.string ⟨#[50]⟩)), (sc (.string ⟨#[50]⟩))], [], (sc (.bool true)), []⟩, ⟨(Go.Op.call (Go.Call.mk (Go.Callee.value (Go.Operand.func 22)) #[(Go.Operand.tmp 71)] #[28])), 3, [(sc (.func (.func 22) #[] #[])), (.t (.c (.loc 10 0)))], [(10, (.cells 51 [(.d (.ptr [(encT (Tr.node ⟨#[98]⟩ ⟨#[50]⟩ Tr.nil Tr.nil))]))]))], (sc (.int .i64 1)), [(10, (.cells 51 [(.d (.ptr [(encT (Tr.node ⟨#[98]⟩ ⟨#[50]⟩ Tr.nil Tr.nil))]))]))]⟩] mixed (by kernel_rfl) ⟨tri_slice_data (e := 44) (sz := 6) (bytes := 72) tab_ok (by kernel_rfl) rfl, tri_res (tri_call (l_EqualEvent ([(AEv.mk 5 ⟨#[97]⟩ false ⟨#[]⟩ true ⟨#[49]⟩)]) ([(AEv.mk 5 (⟨#[97]⟩) false (⟨#[]⟩) true (⟨#[49]⟩))]))) (by kernel_rfl), tri_res (tri_len_map tab_ok rfl) (by kernel_rfl), tri_as tri_str_eql (by kernel_rfl), tri_res (tri_call (Sat.sw 5000 10 (k_Len (Tr.node ⟨#[98]⟩ ⟨#[50]⟩ Tr.nil Tr.nil)))) (by kernel_rfl), trivial⟩ ?_
  refine peel_seq ?_
  refine awp_ret ?_
  exact ends_ret rfl rfl rfl
end Go.Proofs.Ytjbiaoajmdbigaa
