/- The walk of KvBytes. -/
import Derived.Test.YtjbiaoajmdbigaaWi4
import Derived.Test.YtjbiaoajmdbigaaRfR
set_option maxRecDepth 100000
set_option linter.unusedVariables false
set_option linter.unusedSimpArgs false
namespace Go.Proofs.Ytjbiaoajmdbigaa
open Go Go.E
theorem w_Bytes (l : List AOp) (b : List Int) (most : Int) (hb : Rng b) : Sat Try.prog 8 [(vD (List.map encOp l)), (vD (List.map encB b)), (vI most)] [] (vB true) [] := by
 refine sat_of_body tab_ok Try.func8 rfl (by kernel_rfl) (Nat.le_of_ble_eq_true rfl) rfl fun G => ?_
 refine awp_seq ?_
 refine rk boxes [] [0, 1, 2, 6] [] ⟨85, [(0, (vD (List.map encOp l))), (1, (vD (List.map encB b))), (2, (vI most)), (6, (vB false))], [], []⟩ (by kernel_rfl) .n ?_
 refine peel_seq ?_
 refine awp_seq ?_
 refine awp_seq ?_
 cases hb1 : (decide ((weighM l) > 32768)) with
 | false =>
  have hb1p := of_decide_eq_false hb1
  refine rk boxes [⟨1, false, [(sc (.func (.func 10) #[] #[])), (vD (List.map encOp l))], [], (vI (weighM l)), []⟩, ⟨2, false, [(vI (weighM l)), (vI 32768)], [], (vB false), []⟩, ⟨5, true, [(vD (List.map encB b))], [], (vI (List.length b : Int)), []⟩] [0, 1, 2, 6, 19] [] ⟨85, [(0, (vD (List.map encOp l))), (1, (vD (List.map encB b))), (2, (vI most)), (6, (vB false)), (19, (vB (decide ((List.length b : Int) > 32768))))], [], []⟩ (by kernel_rfl) (.c (tri_call (l_weigh l)) (.c (tri_scalar_eq [(.int .i64 (weighM l)), (.int .i64 32768)] (.bool (decide ((weighM l) > 32768))) rfl rfl rfl (by kernel_rfl) (congrArg Value.bool hb1)) (.c (tri_len_map tab_ok rfl) .n))) ?_
  refine peel_seq ?_
  refine awp_cond (b := (decide ((List.length b : Int) > 32768))) rfl (fun hc2 => ?_) (fun hc2 => ?_)
  ·skip
   have hc2p := of_decide_eq_true hc2
   refine awp_seq ?_
   refine rk boxes [⟨0, false, [(sc (.func (.func 11) #[] #[]))], [], (vB true), []⟩] [0, 1, 2, 6] [] ⟨85, [(0, (vD (List.map encOp l))), (1, (vD (List.map encB b))), (2, (vI most)), (6, (vB true))], [], []⟩ (by kernel_rfl) (.c (tri_call (l_awake)) .n) ?_
   refine peel_seq ?_
   refine awp_ret ?_
   refine peel_seq_ret ?_
   exact ends_ret rfl rfl rfl
  ·skip
   have hc2p := of_decide_eq_false hc2
   refine awp_skip ?_
   refine peel_seq ?_
   refine awp_seq ?_
   refine rk boxes [⟨2, false, [(sc (.func (.func 32) #[] #[])), (vD (List.map encB b)), (vD (List.map encOp l))], [], (vO 23), [(23, (.arr 5 1 1 (List.map encB (putB b l))))]⟩] [0, 1, 2, 6, 7] [23] ⟨85, [(0, (vD (List.map encOp l))), (1, (vD (List.map encB b))), (2, (vI most)), (6, (vB false)), (7, (vO 23))], [(23, (.arr 5 1 1 (List.map encB (putB b l))))], []⟩ (by kernel_rfl) (.c (tri_call (Sat.sw 5001 23 (k_Put b l (by first | omega | (simp only [List.length_nil]; omega)) (by omega) (by exact weighM_small (by omega))))) .n) ?_
   refine peel_seq ?_
   refine awp_seq ?_
   refine awp_seq ?_
   refine rk boxes [⟨3, false, [(sc (.func (.func 34) #[] #[])), (vD (List.map encB b)), (vD (List.map encOp l))], [], (vO 27), [(27, (.arr 5 1 1 (List.map encB (putB b l))))]⟩, ⟨4, false, [(sc (.func (.func 33) #[] #[])), (vO 23), (vO 27)], [(27, (.arr 5 1 1 (List.map encB (putB b l)))), (23, (.arr 5 1 1 (List.map encB (putB b l))))], (vB true), []⟩] [0, 1, 2, 6, 29] [] ⟨85, [(0, (vD (List.map encOp l))), (1, (vD (List.map encB b))), (2, (vI most)), (6, (vB false)), (29, (vB false))], [], []⟩ (by kernel_rfl) (.c (tri_call (Sat.sw 5001 27 (q_Put b l (by first | omega | (simp only [List.length_nil]; omega)) (by omega) (by exact weighM_small (by omega))))) (.c (tri_call (Sat.fzOwn 1 27 5 1 1 (List.map encB (putB b l)) (Sat.fzOwn 0 23 5 1 1 (List.map encB (putB b l)) (by have h := (y_Equal (putB b l) (putB b l)); rw [eqS_self] at h; exact h) [(vO 23), (vD (List.map encB (putB b l)))] rfl rfl rfl) [(vO 23), (vO 27)] rfl rfl rfl)) .n)) ?_
   refine peel_seq ?_
   refine awp_false rfl ?_
   refine awp_skip ?_
   refine peel_seq ?_
   refine awp_seq ?_
   refine awp_seq ?_
   cases hb3 : (decide ((List.length l : Int) < 20)) with
   | false =>
    have hb3p := of_decide_eq_false hb3
    refine rk boxes [⟨1, true, [(vD (List.map encOp l))], [], (vI (List.length l : Int)), []⟩, ⟨2, false, [(vI (List.length l : Int)), (vI 20)], [], (vB false), []⟩] [0, 1, 2, 6, 37] [] ⟨85, [(0, (vD (List.map encOp l))), (1, (vD (List.map encB b))), (2, (vI most)), (6, (vB false)), (37, (vB false))], [], []⟩ (by kernel_rfl) (.c (tri_len_map tab_ok rfl) (.c (tri_scalar_eq [(.int .i64 (List.length l : Int)), (.int .i64 20)] (.bool (decide ((List.length l : Int) < 20))) rfl rfl rfl (by kernel_rfl) (congrArg Value.bool hb3)) .n)) ?_
    refine peel_seq ?_
    refine awp_false rfl ?_
    refine awp_skip ?_
    refine peel_seq ?_
    refine awp_seq ?_
    refine rk boxes [⟨1, false, [(sc (.func (.func 36) #[] #[])), (vD (List.map encB b))], [], (vL 62 0), [(62, (.cells 94 [(cD (List.map encB b)), (cI ((0 : Nat) : Int)), (cI 0), (cB true)]))]⟩] [2, 6, 10, 11] [62, 65] ⟨85, [(2, (vI most)), (6, (vB false)), (10, (vL 62 0)), (11, (vL 65 0))], [(62, (.cells 94 [(cD (List.map encB b)), (cI ((0 : Nat) : Int)), (cI 0), (cB true)])), (65, (.cells 74 [(cD (List.map encB b)), (cI 0), (cI 0)]))], []⟩ (by kernel_rfl) (.c (tri_call (Sat.sw 5001 62 (w_Read b (by first | omega | ((have hp := putB_len (b := []) (l := l) (by omega)); (simp only [List.length_append, List.length_nil, List.length_map] at *); omega))))) .n) ?_
    refine peel_seq ?_
    refine awp_seq ?_
    refine rk boxes [⟨2, false, [(sc (.func (.func 37) #[] #[])), (vL 62 0), (vI most)], [(62, (.cells 94 [(cD (List.map encB b)), (cI ((0 : Nat) : Int)), (cI 0), (cB true)]))], (vD (List.map encOp ((getM (RS.mk b 0 0) most).1))), [(62, (.cells 94 [(cD (List.map encB (RS.b ((getM (RS.mk b 0 0) most).2)))), (cI ((RS.at_ ((getM (RS.mk b 0 0) most).2)) : Int)), (cI (RS.e ((getM (RS.mk b 0 0) most).2))), (cB true)]))]⟩, ⟨5, false, [(sc (.func (.func 40) #[] #[])), (vL 65 0), (vI most)], [(65, (.cells 74 [(cD (List.map encB b)), (cI 0), (cI 0)]))], (vD (List.map encOp ((getM (RS.mk b 0 0) most).1))), [(65, (.cells 74 [(cD (List.map encB (RS.b ((getM (RS.mk b 0 0) most).2)))), (cI ((RS.at_ ((getM (RS.mk b 0 0) most).2)) : Int)), (cI (RS.e ((getM (RS.mk b 0 0) most).2)))]))]⟩, ⟨6, false, [(sc (.func (.func 16) #[] #[])), (vD (List.map encOp ((getM (RS.mk b 0 0) most).1))), (vD (List.map encOp ((getM (RS.mk b 0 0) most).1)))], [], (vB true), []⟩, ⟨9, true, [(sc (.func (.func 38) #[] #[])), (vL 62 0)], [(62, (.cells 94 [(cD (List.map encB (RS.b ((getM (RS.mk b 0 0) most).2)))), (cI ((RS.at_ ((getM (RS.mk b 0 0) most).2)) : Int)), (cI (RS.e ((getM (RS.mk b 0 0) most).2))), (cB true)]))], (vI (RS.e ((getM (RS.mk b 0 0) most).2))), []⟩, ⟨14, false, [(vI (RS.e ((getM (RS.mk b 0 0) most).2))), (vI (RS.e ((getM (RS.mk b 0 0) most).2)))], [], (vB true), []⟩, ⟨17, false, [(sc (.func (.func 11) #[] #[]))], [], (vB true), []⟩] [6] [] ⟨85, [(6, (vB true))], [], []⟩ (by kernel_rfl) (.c (tri_call (Sat.sw 7000 62 (k_BGet (RS.mk b 0 0) (⟨Nat.zero_le _, by simp only; omega, hb⟩ : RS.ok (RS.mk b 0 0)) most))) (.c (tri_call (Sat.sw 7000 65 (q_BTake (RS.mk b 0 0) (⟨Nat.zero_le _, by simp only; omega, hb⟩ : RS.ok (RS.mk b 0 0)) most))) (.c (tri_call (by have h := (l_EqualOp ((getM (RS.mk b 0 0) most).1) ((getM (RS.mk b 0 0) most).1)); rw [eqOps_self ((getM (RS.mk b 0 0) most).1)] at h; exact h)) (.c (tri_call (Sat.sw 7000 62 (w_Err (RS.b ((getM (RS.mk b 0 0) most).2)) (RS.at_ ((getM (RS.mk b 0 0) most).2)) (RS.e ((getM (RS.mk b 0 0) most).2))))) (.c (tri_scalar_eq [(.int .i64 (RS.e ((getM (RS.mk b 0 0) most).2))), (.int .i64 (RS.e ((getM (RS.mk b 0 0) most).2)))] (.bool ((RS.e ((getM (RS.mk b 0 0) most).2)) == (RS.e ((getM (RS.mk b 0 0) most).2)))) rfl rfl rfl (by kernel_rfl) (congrArg Value.bool (show ((RS.e ((getM (RS.mk b 0 0) most).2)) == (RS.e ((getM (RS.mk b 0 0) most).2))) = true from by simp))) (.c (tri_call (l_awake)) .n)))))) ?_
    refine peel_seq ?_
    refine awp_ret ?_
    exact ends_ret rfl rfl rfl
   | true =>
    have hb3p := of_decide_eq_true hb3
    refine rk boxes [⟨1, true, [(vD (List.map encOp l))], [], (vI (List.length l : Int)), []⟩, ⟨2, false, [(vI (List.length l : Int)), (vI 20)], [], (vB true), []⟩, ⟨5, false, [(sc (.func (.func 35) #[] #[])), (vD (List.map encOp l))], [], (vI (rightF l [])), []⟩] [0, 1, 2, 6, 37] [] ⟨85, [(0, (vD (List.map encOp l))), (1, (vD (List.map encB b))), (2, (vI most)), (6, (vB false)), (37, (vB ((rightF l []) == 0)))], [], []⟩ (by kernel_rfl) (.c (tri_len_map tab_ok rfl) (.c (tri_scalar_eq [(.int .i64 (List.length l : Int)), (.int .i64 20)] (.bool (decide ((List.length l : Int) < 20))) rfl rfl rfl (by kernel_rfl) (congrArg Value.bool hb3)) (.c (tri_call (r_Right l (by exact weighM_small (by omega)))) .n))) ?_
    refine peel_seq ?_
    refine awp_cond (b := ((rightF l []) == 0)) rfl (fun hc4 => ?_) (fun hc4 => ?_)
    ·skip
     have hc4p : (rightF l []) = 0 := by simpa using hc4
     refine awp_seq ?_
     refine rk boxes [⟨1, false, [(sc (.func (.func 32) #[] #[])), (sc (.slice none 0 0)), (vD (List.map encOp l))], [], (vO 39), [(39, (.arr 5 1 1 (List.map encB (putB ([]) l))))]⟩, ⟨3, false, [(vO 39), (vD (List.map encB b))], [(39, (.arr 5 1 1 (List.map encB (putB ([]) l))))], (vO 41), [(41, (.arr 5 1 1 (List.map encB ((putB ([]) l) ++ b))))]⟩, ⟨4, false, [(sc (.func (.func 36) #[] #[])), (vO 41)], [(41, (.arr 5 1 1 (List.map encB ((putB ([]) l) ++ b))))], (vL 42 0), [(42, (.cells 94 [(cD (List.map encB ((putB ([]) l) ++ b))), (cI ((0 : Nat) : Int)), (cI 0), (cB true)]))]⟩] [0, 1, 2, 6, 8] [42] ⟨85, [(0, (vD (List.map encOp l))), (1, (vD (List.map encB b))), (2, (vI most)), (6, (vB false)), (8, (vL 42 0))], [(42, (.cells 94 [(cD (List.map encB ((putB ([]) l) ++ b))), (cI ((0 : Nat) : Int)), (cI 0), (cB true)]))], []⟩ (by kernel_rfl) (.c (tri_call (Sat.sw 5001 39 (Sat.sub (k_Put ([]) l (by first | omega | (simp only [List.length_nil]; omega)) (by omega) (by exact weighM_small (by omega))) (.no (.same .done))))) (.c (tri_to (tri_append_sl (ex := 5) (bytes := 1) tab_ok rfl rfl rfl (all_map fun _ => rfl) (by (have hp := putB_len (b := []) (l := l) (by omega)); (simp only [List.length_append, List.length_nil, List.length_map] at *); omega)) (by simp [encB])) (.c (tri_call (Sat.fzOwn 0 41 5 1 1 (List.map encB ((putB ([]) l) ++ b)) (Sat.sw 5001 42 (w_Read ((putB ([]) l) ++ b) (by first | omega | ((have hp := putB_len (b := []) (l := l) (by omega)); (simp only [List.length_append, List.length_nil, List.length_map] at *); omega)))) [(vO 41)] rfl rfl rfl)) .n))) ?_
     refine peel_seq ?_
     refine awp_seq ?_
     refine rk boxes [⟨1, false, [(sc (.func (.func 37) #[] #[])), (vL 42 0), (vI 20)], [(42, (.cells 94 [(cD (List.map encB ((putB ([]) l) ++ b))), (cI ((0 : Nat) : Int)), (cI 0), (cB true)]))], (vD (List.map encOp ((getM (RS.mk ((putB ([]) l) ++ b) 0 0) 20).1))), [(42, (.cells 94 [(cD (List.map encB (RS.b ((getM (RS.mk ((putB ([]) l) ++ b) 0 0) 20).2)))), (cI ((RS.at_ ((getM (RS.mk ((putB ([]) l) ++ b) 0 0) 20).2)) : Int)), (cI (RS.e ((getM (RS.mk ((putB ([]) l) ++ b) 0 0) 20).2))), (cB true)]))]⟩] [0, 1, 2, 6, 8, 9] [42] ⟨85, [(0, (vD (List.map encOp l))), (1, (vD (List.map encB b))), (2, (vI most)), (6, (vB false)), (8, (vL 42 0)), (9, (vD (List.map encOp ((getM (RS.mk ((putB ([]) l) ++ b) 0 0) 20).1))))], [(42, (.cells 94 [(cD (List.map encB (RS.b ((getM (RS.mk ((putB ([]) l) ++ b) 0 0) 20).2)))), (cI ((RS.at_ ((getM (RS.mk ((putB ([]) l) ++ b) 0 0) 20).2)) : Int)), (cI (RS.e ((getM (RS.mk ((putB ([]) l) ++ b) 0 0) 20).2))), (cB true)]))], []⟩ (by kernel_rfl) (.c (tri_call (Sat.sw 7000 42 (k_BGet (RS.mk ((putB ([]) l) ++ b) 0 0) (⟨Nat.zero_le _, by (have hp := putB_len (b := []) (l := l) (by omega)); simp only [List.length_append, List.length_nil] at *; omega, Rng.append (putB_rng (fun x hx => by cases hx) (by (have := weighM_len (l := l) (by omega)); omega) (weighM_small (by omega))) hb⟩ : RS.ok (RS.mk (putB [] l ++ b) 0 0)) 20))) .n) ?_
     refine peel_seq ?_
     refine awp_seq ?_
     cases hb5 : (eqL eqOpB ((getM (RS.mk ((putB ([]) l) ++ b) 0 0) 20).1) l) with
     | false =>
      refine rk boxes [⟨2, false, [(sc (.func (.func 16) #[] #[])), (vD (List.map encOp ((getM (RS.mk ((putB ([]) l) ++ b) 0 0) 20).1))), (vD (List.map encOp l))], [], (vB false), []⟩] [1, 2, 6, 60] [] ⟨85, [(1, (vD (List.map encB b))), (2, (vI most)), (6, (vB false)), (60, (vB true))], [], []⟩ (by kernel_rfl) (.c (tri_as (tri_call (l_EqualOp ((getM (RS.mk ((putB ([]) l) ++ b) 0 0) 20).1) l)) hb5) .n) ?_
      refine peel_seq ?_
      refine awp_true rfl ?_
      refine awp_seq ?_
      refine rk boxes [] [1, 2, 6] [] ⟨85, [(1, (vD (List.map encB b))), (2, (vI most)), (6, (vB false))], [], []⟩ (by kernel_rfl) .n ?_
      refine peel_seq ?_
      refine awp_ret ?_
      refine peel_seq_ret ?_
      exact ends_ret rfl (show some (sc (.bool false)) = some (sc (.bool true)) from by (have hg := get_put (l := l) (b := b) (by simpa using hc4) (by omega) hb); (have e3 := eqOps_self); simp_all <;> (exfalso; omega)) rfl
     | true =>
      cases hb6 : ((RS.e ((getM (RS.mk ((putB ([]) l) ++ b) 0 0) 20).2)) != 0) with
      | false =>
       have hb6p : (RS.e ((getM (RS.mk ((putB ([]) l) ++ b) 0 0) 20).2)) = 0 := by simpa using hb6
       refine rk boxes [⟨2, false, [(sc (.func (.func 16) #[] #[])), (vD (List.map encOp ((getM (RS.mk ((putB ([]) l) ++ b) 0 0) 20).1))), (vD (List.map encOp l))], [], (vB true), []⟩, ⟨6, true, [(sc (.func (.func 38) #[] #[])), (vL 42 0)], [(42, (.cells 94 [(cD (List.map encB (RS.b ((getM (RS.mk ((putB ([]) l) ++ b) 0 0) 20).2)))), (cI ((RS.at_ ((getM (RS.mk ((putB ([]) l) ++ b) 0 0) 20).2)) : Int)), (cI (RS.e ((getM (RS.mk ((putB ([]) l) ++ b) 0 0) 20).2))), (cB true)]))], (vI (RS.e ((getM (RS.mk ((putB ([]) l) ++ b) 0 0) 20).2))), []⟩, ⟨7, false, [(vI (RS.e ((getM (RS.mk ((putB ([]) l) ++ b) 0 0) 20).2))), (vI 0)], [], (vB false), []⟩, ⟨11, true, [(sc (.func (.func 39) #[] #[])), (vL 42 0)], [(42, (.cells 94 [(cD (List.map encB (RS.b ((getM (RS.mk ((putB ([]) l) ++ b) 0 0) 20).2)))), (cI ((RS.at_ ((getM (RS.mk ((putB ([]) l) ++ b) 0 0) 20).2)) : Int)), (cI (RS.e ((getM (RS.mk ((putB ([]) l) ++ b) 0 0) 20).2))), (cB true)]))], (vI ((List.length (RS.b ((getM (RS.mk ((putB ([]) l) ++ b) 0 0) 20).2)) : Int) - ((RS.at_ ((getM (RS.mk ((putB ([]) l) ++ b) 0 0) 20).2)) : Int))), []⟩, ⟨13, true, [(vD (List.map encB b))], [], (vI (List.length b : Int)), []⟩] [1, 2, 6, 60] [] ⟨85, [(1, (vD (List.map encB b))), (2, (vI most)), (6, (vB false)), (60, (vB (((List.length (RS.b ((getM (RS.mk ((putB ([]) l) ++ b) 0 0) 20).2)) : Int) - ((RS.at_ ((getM (RS.mk ((putB ([]) l) ++ b) 0 0) 20).2)) : Int)) != (List.length b : Int))))], [], []⟩ (by kernel_rfl) (.c (tri_as (tri_call (l_EqualOp ((getM (RS.mk ((putB ([]) l) ++ b) 0 0) 20).1) l)) hb5) (.c (tri_call (Sat.sw 7000 42 (w_Err (RS.b ((getM (RS.mk ((putB ([]) l) ++ b) 0 0) 20).2)) (RS.at_ ((getM (RS.mk ((putB ([]) l) ++ b) 0 0) 20).2)) (RS.e ((getM (RS.mk ((putB ([]) l) ++ b) 0 0) 20).2))))) (.c (tri_scalar_eq [(.int .i64 (RS.e ((getM (RS.mk ((putB ([]) l) ++ b) 0 0) 20).2))), (.int .i64 0)] (.bool ((RS.e ((getM (RS.mk ((putB ([]) l) ++ b) 0 0) 20).2)) != 0)) rfl rfl rfl (by kernel_rfl) (congrArg Value.bool hb6)) (.c (tri_call (Sat.sw 7000 42 (w_Left (RS.b ((getM (RS.mk ((putB ([]) l) ++ b) 0 0) 20).2)) (RS.at_ ((getM (RS.mk ((putB ([]) l) ++ b) 0 0) 20).2)) (RS.e ((getM (RS.mk ((putB ([]) l) ++ b) 0 0) 20).2)) (by (have hk := getM_ok (m := 20) (⟨Nat.zero_le _, by (have hp := putB_len (b := []) (l := l) (by omega)); simp only [List.length_append, List.length_nil] at *; omega, Rng.append (putB_rng (fun x hx => by cases hx) (by (have := weighM_len (l := l) (by omega)); omega) (weighM_small (by omega))) hb⟩ : RS.ok (RS.mk (putB [] l ++ b) 0 0))); (have h1 := hk.le); (have h2 := hk.few); omega) (by (have hk := getM_ok (m := 20) (⟨Nat.zero_le _, by (have hp := putB_len (b := []) (l := l) (by omega)); simp only [List.length_append, List.length_nil] at *; omega, Rng.append (putB_rng (fun x hx => by cases hx) (by (have := weighM_len (l := l) (by omega)); omega) (weighM_small (by omega))) hb⟩ : RS.ok (RS.mk (putB [] l ++ b) 0 0))); (have h1 := hk.le); (have h2 := hk.few); omega)))) (.c (tri_len_map tab_ok rfl) .n))))) ?_
       refine peel_seq ?_
       refine awp_cond (b := (((List.length (RS.b ((getM (RS.mk ((putB ([]) l) ++ b) 0 0) 20).2)) : Int) - ((RS.at_ ((getM (RS.mk ((putB ([]) l) ++ b) 0 0) 20).2)) : Int)) != (List.length b : Int))) rfl (fun hc7 => ?_) (fun hc7 => ?_)
       ·skip
        have hc7p : ((List.length (RS.b ((getM (RS.mk ((putB ([]) l) ++ b) 0 0) 20).2)) : Int) - ((RS.at_ ((getM (RS.mk ((putB ([]) l) ++ b) 0 0) 20).2)) : Int)) ≠ (List.length b : Int) := by simpa using hc7
        refine awp_seq ?_
        refine rk boxes [] [1, 2, 6] [] ⟨85, [(1, (vD (List.map encB b))), (2, (vI most)), (6, (vB false))], [], []⟩ (by kernel_rfl) .n ?_
        refine peel_seq ?_
        refine awp_ret ?_
        refine peel_seq_ret ?_
        exact ends_ret rfl (show some (sc (.bool false)) = some (sc (.bool true)) from by (have hg := get_put (l := l) (b := b) (by simpa using hc4) (by omega) hb); (have e3 := eqOps_self); simp_all <;> (exfalso; omega)) rfl
       ·skip
        have hc7p : ((List.length (RS.b ((getM (RS.mk ((putB ([]) l) ++ b) 0 0) 20).2)) : Int) - ((RS.at_ ((getM (RS.mk ((putB ([]) l) ++ b) 0 0) 20).2)) : Int)) = (List.length b : Int) := by simpa using hc7
        refine awp_skip ?_
        refine peel_seq ?_
        refine awp_seq ?_
        refine rk boxes [⟨1, false, [(sc (.func (.func 36) #[] #[])), (vD (List.map encB b))], [], (vL 62 0), [(62, (.cells 94 [(cD (List.map encB b)), (cI ((0 : Nat) : Int)), (cI 0), (cB true)]))]⟩] [2, 6, 10, 11] [62, 65] ⟨85, [(2, (vI most)), (6, (vB false)), (10, (vL 62 0)), (11, (vL 65 0))], [(62, (.cells 94 [(cD (List.map encB b)), (cI ((0 : Nat) : Int)), (cI 0), (cB true)])), (65, (.cells 74 [(cD (List.map encB b)), (cI 0), (cI 0)]))], []⟩ (by kernel_rfl) (.c (tri_call (Sat.sw 5001 62 (w_Read b (by first | omega | ((have hp := putB_len (b := []) (l := l) (by omega)); (simp only [List.length_append, List.length_nil, List.length_map] at *); omega))))) .n) ?_
        refine peel_seq ?_
        refine awp_seq ?_
        refine rk boxes [⟨2, false, [(sc (.func (.func 37) #[] #[])), (vL 62 0), (vI most)], [(62, (.cells 94 [(cD (List.map encB b)), (cI ((0 : Nat) : Int)), (cI 0), (cB true)]))], (vD (List.map encOp ((getM (RS.mk b 0 0) most).1))), [(62, (.cells 94 [(cD (List.map encB (RS.b ((getM (RS.mk b 0 0) most).2)))), (cI ((RS.at_ ((getM (RS.mk b 0 0) most).2)) : Int)), (cI (RS.e ((getM (RS.mk b 0 0) most).2))), (cB true)]))]⟩, ⟨5, false, [(sc (.func (.func 40) #[] #[])), (vL 65 0), (vI most)], [(65, (.cells 74 [(cD (List.map encB b)), (cI 0), (cI 0)]))], (vD (List.map encOp ((getM (RS.mk b 0 0) most).1))), [(65, (.cells 74 [(cD (List.map encB (RS.b ((getM (RS.mk b 0 0) most).2)))), (cI ((RS.at_ ((getM (RS.mk b 0 0) most).2)) : Int)), (cI (RS.e ((getM (RS.mk b 0 0) most).2)))]))]⟩, ⟨6, false, [(sc (.func (.func 16) #[] #[])), (vD (List.map encOp ((getM (RS.mk b 0 0) most).1))), (vD (List.map encOp ((getM (RS.mk b 0 0) most).1)))], [], (vB true), []⟩, ⟨9, true, [(sc (.func (.func 38) #[] #[])), (vL 62 0)], [(62, (.cells 94 [(cD (List.map encB (RS.b ((getM (RS.mk b 0 0) most).2)))), (cI ((RS.at_ ((getM (RS.mk b 0 0) most).2)) : Int)), (cI (RS.e ((getM (RS.mk b 0 0) most).2))), (cB true)]))], (vI (RS.e ((getM (RS.mk b 0 0) most).2))), []⟩, ⟨14, false, [(vI (RS.e ((getM (RS.mk b 0 0) most).2))), (vI (RS.e ((getM (RS.mk b 0 0) most).2)))], [], (vB true), []⟩, ⟨17, false, [(sc (.func (.func 11) #[] #[]))], [], (vB true), []⟩] [6] [] ⟨85, [(6, (vB true))], [], []⟩ (by kernel_rfl) (.c (tri_call (Sat.sw 7000 62 (k_BGet (RS.mk b 0 0) (⟨Nat.zero_le _, by simp only; omega, hb⟩ : RS.ok (RS.mk b 0 0)) most))) (.c (tri_call (Sat.sw 7000 65 (q_BTake (RS.mk b 0 0) (⟨Nat.zero_le _, by simp only; omega, hb⟩ : RS.ok (RS.mk b 0 0)) most))) (.c (tri_call (by have h := (l_EqualOp ((getM (RS.mk b 0 0) most).1) ((getM (RS.mk b 0 0) most).1)); rw [eqOps_self ((getM (RS.mk b 0 0) most).1)] at h; exact h)) (.c (tri_call (Sat.sw 7000 62 (w_Err (RS.b ((getM (RS.mk b 0 0) most).2)) (RS.at_ ((getM (RS.mk b 0 0) most).2)) (RS.e ((getM (RS.mk b 0 0) most).2))))) (.c (tri_scalar_eq [(.int .i64 (RS.e ((getM (RS.mk b 0 0) most).2))), (.int .i64 (RS.e ((getM (RS.mk b 0 0) most).2)))] (.bool ((RS.e ((getM (RS.mk b 0 0) most).2)) == (RS.e ((getM (RS.mk b 0 0) most).2)))) rfl rfl rfl (by kernel_rfl) (congrArg Value.bool (show ((RS.e ((getM (RS.mk b 0 0) most).2)) == (RS.e ((getM (RS.mk b 0 0) most).2))) = true from by simp))) (.c (tri_call (l_awake)) .n)))))) ?_
        refine peel_seq ?_
        refine awp_ret ?_
        exact ends_ret rfl rfl rfl
      | true =>
       have hb6p : (RS.e ((getM (RS.mk ((putB ([]) l) ++ b) 0 0) 20).2)) ≠ 0 := by simpa using hb6
       refine rk boxes [⟨2, false, [(sc (.func (.func 16) #[] #[])), (vD (List.map encOp ((getM (RS.mk ((putB ([]) l) ++ b) 0 0) 20).1))), (vD (List.map encOp l))], [], (vB true), []⟩, ⟨6, true, [(sc (.func (.func 38) #[] #[])), (vL 42 0)], [(42, (.cells 94 [(cD (List.map encB (RS.b ((getM (RS.mk ((putB ([]) l) ++ b) 0 0) 20).2)))), (cI ((RS.at_ ((getM (RS.mk ((putB ([]) l) ++ b) 0 0) 20).2)) : Int)), (cI (RS.e ((getM (RS.mk ((putB ([]) l) ++ b) 0 0) 20).2))), (cB true)]))], (vI (RS.e ((getM (RS.mk ((putB ([]) l) ++ b) 0 0) 20).2))), []⟩, ⟨7, false, [(vI (RS.e ((getM (RS.mk ((putB ([]) l) ++ b) 0 0) 20).2))), (vI 0)], [], (vB true), []⟩] [1, 2, 6, 60] [] ⟨85, [(1, (vD (List.map encB b))), (2, (vI most)), (6, (vB false)), (60, (vB true))], [], []⟩ (by kernel_rfl) (.c (tri_as (tri_call (l_EqualOp ((getM (RS.mk ((putB ([]) l) ++ b) 0 0) 20).1) l)) hb5) (.c (tri_call (Sat.sw 7000 42 (w_Err (RS.b ((getM (RS.mk ((putB ([]) l) ++ b) 0 0) 20).2)) (RS.at_ ((getM (RS.mk ((putB ([]) l) ++ b) 0 0) 20).2)) (RS.e ((getM (RS.mk ((putB ([]) l) ++ b) 0 0) 20).2))))) (.c (tri_scalar_eq [(.int .i64 (RS.e ((getM (RS.mk ((putB ([]) l) ++ b) 0 0) 20).2))), (.int .i64 0)] (.bool ((RS.e ((getM (RS.mk ((putB ([]) l) ++ b) 0 0) 20).2)) != 0)) rfl rfl rfl (by kernel_rfl) (congrArg Value.bool hb6)) .n))) ?_
       refine peel_seq ?_
       refine awp_true rfl ?_
       refine awp_seq ?_
       refine rk boxes [] [1, 2, 6] [] ⟨85, [(1, (vD (List.map encB b))), (2, (vI most)), (6, (vB false))], [], []⟩ (by kernel_rfl) .n ?_
       refine peel_seq ?_
       refine awp_ret ?_
       refine peel_seq_ret ?_
       exact ends_ret rfl (show some (sc (.bool false)) = some (sc (.bool true)) from by (have hg := get_put (l := l) (b := b) (by simpa using hc4) (by omega) hb); (have e3 := eqOps_self); simp_all <;> (exfalso; omega)) rfl
    ·skip
     have hc4p : (rightF l []) ≠ 0 := by simpa using hc4
     refine awp_skip ?_
     refine peel_seq ?_
     refine awp_seq ?_
     refine rk boxes [⟨1, false, [(sc (.func (.func 36) #[] #[])), (vD (List.map encB b))], [], (vL 62 0), [(62, (.cells 94 [(cD (List.map encB b)), (cI ((0 : Nat) : Int)), (cI 0), (cB true)]))]⟩] [2, 6, 10, 11] [62, 65] ⟨85, [(2, (vI most)), (6, (vB false)), (10, (vL 62 0)), (11, (vL 65 0))], [(62, (.cells 94 [(cD (List.map encB b)), (cI ((0 : Nat) : Int)), (cI 0), (cB true)])), (65, (.cells 74 [(cD (List.map encB b)), (cI 0), (cI 0)]))], []⟩ (by kernel_rfl) (.c (tri_call (Sat.sw 5001 62 (w_Read b (by first | omega | ((have hp := putB_len (b := []) (l := l) (by omega)); (simp only [List.length_append, List.length_nil, List.length_map] at *); omega))))) .n) ?_
     refine peel_seq ?_
     refine awp_seq ?_
     refine rk boxes [⟨2, false, [(sc (.func (.func 37) #[] #[])), (vL 62 0), (vI most)], [(62, (.cells 94 [(cD (List.map encB b)), (cI ((0 : Nat) : Int)), (cI 0), (cB true)]))], (vD (List.map encOp ((getM (RS.mk b 0 0) most).1))), [(62, (.cells 94 [(cD (List.map encB (RS.b ((getM (RS.mk b 0 0) most).2)))), (cI ((RS.at_ ((getM (RS.mk b 0 0) most).2)) : Int)), (cI (RS.e ((getM (RS.mk b 0 0) most).2))), (cB true)]))]⟩, ⟨5, false, [(sc (.func (.func 40) #[] #[])), (vL 65 0), (vI most)], [(65, (.cells 74 [(cD (List.map encB b)), (cI 0), (cI 0)]))], (vD (List.map encOp ((getM (RS.mk b 0 0) most).1))), [(65, (.cells 74 [(cD (List.map encB (RS.b ((getM (RS.mk b 0 0) most).2)))), (cI ((RS.at_ ((getM (RS.mk b 0 0) most).2)) : Int)), (cI (RS.e ((getM (RS.mk b 0 0) most).2)))]))]⟩, ⟨6, false, [(sc (.func (.func 16) #[] #[])), (vD (List.map encOp ((getM (RS.mk b 0 0) most).1))), (vD (List.map encOp ((getM (RS.mk b 0 0) most).1)))], [], (vB true), []⟩, ⟨9, true, [(sc (.func (.func 38) #[] #[])), (vL 62 0)], [(62, (.cells 94 [(cD (List.map encB (RS.b ((getM (RS.mk b 0 0) most).2)))), (cI ((RS.at_ ((getM (RS.mk b 0 0) most).2)) : Int)), (cI (RS.e ((getM (RS.mk b 0 0) most).2))), (cB true)]))], (vI (RS.e ((getM (RS.mk b 0 0) most).2))), []⟩, ⟨14, false, [(vI (RS.e ((getM (RS.mk b 0 0) most).2))), (vI (RS.e ((getM (RS.mk b 0 0) most).2)))], [], (vB true), []⟩, ⟨17, false, [(sc (.func (.func 11) #[] #[]))], [], (vB true), []⟩] [6] [] ⟨85, [(6, (vB true))], [], []⟩ (by kernel_rfl) (.c (tri_call (Sat.sw 7000 62 (k_BGet (RS.mk b 0 0) (⟨Nat.zero_le _, by simp only; omega, hb⟩ : RS.ok (RS.mk b 0 0)) most))) (.c (tri_call (Sat.sw 7000 65 (q_BTake (RS.mk b 0 0) (⟨Nat.zero_le _, by simp only; omega, hb⟩ : RS.ok (RS.mk b 0 0)) most))) (.c (tri_call (by have h := (l_EqualOp ((getM (RS.mk b 0 0) most).1) ((getM (RS.mk b 0 0) most).1)); rw [eqOps_self ((getM (RS.mk b 0 0) most).1)] at h; exact h)) (.c (tri_call (Sat.sw 7000 62 (w_Err (RS.b ((getM (RS.mk b 0 0) most).2)) (RS.at_ ((getM (RS.mk b 0 0) most).2)) (RS.e ((getM (RS.mk b 0 0) most).2))))) (.c (tri_scalar_eq [(.int .i64 (RS.e ((getM (RS.mk b 0 0) most).2))), (.int .i64 (RS.e ((getM (RS.mk b 0 0) most).2)))] (.bool ((RS.e ((getM (RS.mk b 0 0) most).2)) == (RS.e ((getM (RS.mk b 0 0) most).2)))) rfl rfl rfl (by kernel_rfl) (congrArg Value.bool (show ((RS.e ((getM (RS.mk b 0 0) most).2)) == (RS.e ((getM (RS.mk b 0 0) most).2))) = true from by simp))) (.c (tri_call (l_awake)) .n)))))) ?_
     refine peel_seq ?_
     refine awp_ret ?_
     exact ends_ret rfl rfl rfl
 | true =>
  have hb1p := of_decide_eq_true hb1
  refine rk boxes [⟨1, false, [(sc (.func (.func 10) #[] #[])), (vD (List.map encOp l))], [], (vI (weighM l)), []⟩, ⟨2, false, [(vI (weighM l)), (vI 32768)], [], (vB true), []⟩] [0, 1, 2, 6, 19] [] ⟨85, [(0, (vD (List.map encOp l))), (1, (vD (List.map encB b))), (2, (vI most)), (6, (vB false)), (19, (vB true))], [], []⟩ (by kernel_rfl) (.c (tri_call (l_weigh l)) (.c (tri_scalar_eq [(.int .i64 (weighM l)), (.int .i64 32768)] (.bool (decide ((weighM l) > 32768))) rfl rfl rfl (by kernel_rfl) (congrArg Value.bool hb1)) .n)) ?_
  refine peel_seq ?_
  refine awp_true rfl ?_
  refine awp_seq ?_
  refine rk boxes [⟨0, false, [(sc (.func (.func 11) #[] #[]))], [], (vB true), []⟩] [0, 1, 2, 6] [] ⟨85, [(0, (vD (List.map encOp l))), (1, (vD (List.map encB b))), (2, (vI most)), (6, (vB true))], [], []⟩ (by kernel_rfl) (.c (tri_call (l_awake)) .n) ?_
  refine peel_seq ?_
  refine awp_ret ?_
  refine peel_seq_ret ?_
  exact ends_ret rfl rfl rfl
end Go.Proofs.Ytjbiaoajmdbigaa
