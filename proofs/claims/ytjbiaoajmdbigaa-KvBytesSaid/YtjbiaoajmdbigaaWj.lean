/- What is put, read again, is what was put. -/
import Derived.Test.YtjbiaoajmdbigaaWi
import Derived.Test.YtjbiaoajmdbigaaOr
set_option linter.unusedVariables false
set_option linter.unusedSimpArgs false
namespace Go.Proofs.Ytjbiaoajmdbigaa
open Go Go.E

abbrev Rng (l : List Int) : Prop := ∀ x ∈ l, 0 ≤ x ∧ x ≤ 255
theorem Rng.append {a b : List Int} (h1 : Rng a) (h2 : Rng b) : Rng (a ++ b) := fun x hx => (List.mem_append.1 hx).elim (h1 x) (h2 x)
theorem numB_rng (n : Int) (h : n ≤ 9223372036854775807) : Rng (numB n) := fun x hx => by
  have h8 := be_len_lt n.toNat 8 (by omega)
  rcases List.mem_cons.1 hx with rfl | hx
  · omega
  · exact be_range _ x hx
theorem textB_rng (s : ByteArray) (h : s.size ≤ 1000000000) : Rng (textB s) := (numB_rng _ (by omega)).append (strB_range s)
theorem flagB_rng (f : Bool) : Rng (flagB f) := numB_rng _ (by cases f <;> decide)
theorem opB_rng (o : AOp) (h : o.small) : Rng (opB o) := ((textB_rng _ (by have := h.1; omega)).append (flagB_rng _)).append (textB_rng _ (by have := h.2; omega))
theorem ops_rng : ∀ (l : List AOp), (∀ o ∈ l, o.small) → Rng (l.flatMap opB)
  | [], _ => fun x hx => by simp at hx
  | o :: r, h => by
    rw [List.flatMap_cons]
    exact (opB_rng o (h o List.mem_cons_self)).append (ops_rng r fun x hx => h x (List.mem_cons_of_mem _ hx))
theorem putB_rng {b : List Int} {l : List AOp} (hb : Rng b) (hl : l.length ≤ 1000000000) (h : ∀ o ∈ l, o.small) : Rng (putB b l) := by
  rw [putB_eq]
  exact hb.append ((numB_rng _ (by omega)).append (ops_rng l h))
theorem textB_len {s : ByteArray} (h : s.size ≤ 1000000000) : (textB s).length ≤ 9 + s.size := by
  have h1 := numB_len (s.size : Int) (by omega)
  simp only [textB, List.length_append, strB_len]
  omega
theorem flagB_len (f : Bool) : (flagB f).length ≤ 9 := numB_len _ (by cases f <;> decide)
theorem opB_len (o : AOp) (h : o.small) : (opB o).length ≤ 27 + o.key.size + o.val.size := by
  have h1 := numB_len (o.key.size : Int) (by have := h.1; omega)
  have h2 := numB_len (o.val.size : Int) (by have := h.2; omega)
  have h3 := flagB_len o.has
  simp only [opB, textB, List.length_append, strB_len]
  omega
theorem ops_len : ∀ (l : List AOp) (n : Int), 0 ≤ n → weighF l n ≤ 32768 → ((l.flatMap opB).length : Int) ≤ 27 * (weighF l n - n)
  | [], n, _, _ => by simp [weighF]
  | o :: r, n, h0, h => by
    have hsm := weighF_small (o :: r) n h0 h o List.mem_cons_self
    have hg := weighF_ge (o :: r) n
    simp only [weighF] at h hg ⊢
    have hn : n ≤ 32768 := by omega
    rw [decide_eq_true hn] at h hg ⊢
    simp only [cond_true] at h hg ⊢
    have h1 := weighF_ge r (n + ((1 + min (o.key.size : Int) 32768) + min (o.val.size : Int) 32768))
    have ih := ops_len r (n + ((1 + min (o.key.size : Int) 32768) + min (o.val.size : Int) 32768)) (by omega) h
    have ho := opB_len o hsm
    simp only [List.flatMap_cons, List.length_append]
    have hk : (o.key.size : Int) ≤ 32768 := by omega
    have hv : (o.val.size : Int) ≤ 32768 := by omega
    omega
theorem putB_len {b : List Int} {l : List AOp} (hl : weighM l ≤ 32768) : (putB b l).length ≤ b.length + 900000 := by
  have h1 := ops_len l 0 (Int.le_refl 0) hl
  have h2 := numB_len (l.length : Int) (by have := weighM_len hl; omega)
  have h3 : weighF l 0 ≤ 32768 := hl
  rw [putB_eq]
  simp only [List.length_append]
  omega

/-! ### Read again -/
theorem numM_put {n : Int} (h0 : 0 ≤ n) (h1 : n ≤ 9223372036854775807) {r : List Int} (hr : Rng r) : numM (numB n ++ r) = (n, (numB n).length, 0) := by
  have h8 := be_len_lt n.toNat 8 (by omega)
  have e : numB n ++ r = ((be n.toNat).length : Int) :: (be n.toNat ++ r) := rfl
  rw [e, numM_rest ⟨by omega, by omega⟩ (by simp) (fun hp y hy => ?_) (Rng.append (be_range _) hr)]
  · have ht : (be n.toNat ++ r).take ((be n.toNat).length : Int).toNat = be n.toNat := by simp
    rw [ht, fold_be, if_neg (by omega)]
    simp [numB]; omega
  · have hne : n.toNat ≠ 0 := fun e => by rw [e, be_zero] at hp; simp at hp
    obtain ⟨x, q, e1, e2⟩ := be_head hne
    rw [e1] at hy
    simp at hy
    rw [← hy]; exact e2
theorem rdN_put {a r : List Int} {n : Int} (h0 : 0 ≤ n) (h1 : n ≤ 9223372036854775807) (hr : Rng r) : rdN ⟨a ++ (numB n ++ r), a.length, 0⟩ = (n, ⟨a ++ (numB n ++ r), a.length + (numB n).length, 0⟩) := by
  simp only [rdN]
  rw [show (a ++ (numB n ++ r)).drop a.length = numB n ++ r by simp, numM_put h0 h1 hr]
  rfl
theorem rdT_put {a r : List Int} {s : ByteArray} {m : Int} (hm : (s.size : Int) ≤ m) (h1 : s.size ≤ 1000000000) (hr : Rng r) : rdT ⟨a ++ (textB s ++ r), a.length, 0⟩ m = (s, ⟨a ++ (textB s ++ r), a.length + (textB s).length, 0⟩) := by
  have hn := rdN_put (a := a) (r := strB s ++ r) (n := s.size) (by omega) (by omega) (Rng.append (strB_range s) hr)
  have e : textB s ++ r = numB s.size ++ (strB s ++ r) := by simp [textB]
  unfold rdT
  rw [e, hn]
  simp only [Int.toNat_natCast]
  rw [decide_eq_false (by omega), decide_eq_false (by simp only [List.length_append, strB_len]; omega)]
  simp only [cond_false]
  have h2 : (0 : Int) == 0 := rfl
  have hd : List.drop (a.length + (numB (s.size : Int)).length) (List.take (a.length + (numB (s.size : Int)).length + s.size) (a ++ (numB (s.size : Int) ++ (strB s ++ r)))) = strB s := by
    rw [← List.append_assoc, mid_eq, ← List.length_append, List.drop_left, ← strB_len, List.take_left]
  rw [hd, bstr_strB]
  simp only [textB, List.length_append, strB_len, Nat.add_assoc]
  rfl
theorem rdF_put {a r : List Int} {f : Bool} (hr : Rng r) : rdF ⟨a ++ (flagB f ++ r), a.length, 0⟩ = (f, ⟨a ++ (flagB f ++ r), a.length + (flagB f).length, 0⟩) := by
  have hn := rdN_put (a := a) (r := r) (n := bif f then 1 else 0) (by cases f <;> decide) (by cases f <;> decide) hr
  unfold rdF flagB
  rw [hn]
  cases f <;> rfl
theorem rdO_put {a r : List Int} {o : AOp} (hk : o.key.size ≤ 96) (hv : o.val.size ≤ 192) (hr : Rng r) : rdO ⟨a ++ (opB o ++ r), a.length, 0⟩ = (o, ⟨a ++ (opB o ++ r), a.length + (opB o).length, 0⟩) := by
  have r2 : Rng (textB o.val ++ r) := (textB_rng _ (by omega)).append hr
  have r1 : Rng (flagB o.has ++ (textB o.val ++ r)) := (flagB_rng _).append r2
  have e0 : a ++ (opB o ++ r) = a ++ (textB o.key ++ (flagB o.has ++ (textB o.val ++ r))) := by simp [opB]
  have h1 := rdT_put (a := a) (r := flagB o.has ++ (textB o.val ++ r)) (s := o.key) (m := 96) (by omega) (by omega) r1
  have h2 := rdF_put (a := a ++ textB o.key) (r := textB o.val ++ r) (f := o.has) r2
  have h3 := rdT_put (a := a ++ textB o.key ++ flagB o.has) (r := r) (s := o.val) (m := 192) (by omega) (by omega) hr
  have e1 : a ++ textB o.key ++ (flagB o.has ++ (textB o.val ++ r)) = a ++ (textB o.key ++ (flagB o.has ++ (textB o.val ++ r))) := by simp
  have e2 : a ++ textB o.key ++ flagB o.has ++ (textB o.val ++ r) = a ++ (textB o.key ++ (flagB o.has ++ (textB o.val ++ r))) := by simp
  rw [e1, List.length_append] at h2
  rw [e2, List.length_append, List.length_append] at h3
  rw [e0]
  simp only [rdO, h1, h2, h3]
  simp [opB, Nat.add_assoc]
theorem getF_put : ∀ (l : List AOp) (a r : List Int) (acc : List AOp), (∀ o ∈ l, o.key.size ≤ 96 ∧ o.val.size ≤ 192) → Rng r → getF l.length ⟨a ++ (l.flatMap opB ++ r), a.length, 0⟩ acc = (acc ++ l, ⟨a ++ (l.flatMap opB ++ r), a.length + (l.flatMap opB).length, 0⟩)
  | [], a, r, acc, _, _ => by simp [getF]
  | o :: l, a, r, acc, h, hr => by
    have ho := h o List.mem_cons_self
    have hl : ∀ x ∈ l, x.key.size ≤ 96 ∧ x.val.size ≤ 192 := fun x hx => h x (List.mem_cons_of_mem _ hx)
    have rl : Rng (l.flatMap opB ++ r) := (ops_rng l fun x hx => ⟨by have := (hl x hx).1; omega, by have := (hl x hx).2; omega⟩).append hr
    have h1 := rdO_put (a := a) (r := l.flatMap opB ++ r) ho.1 ho.2 rl
    have ih := getF_put l (a ++ opB o) r (acc ++ [o]) hl hr
    have e : a ++ ((o :: l).flatMap opB ++ r) = a ++ (opB o ++ (l.flatMap opB ++ r)) := by simp
    have e2 : a ++ opB o ++ (l.flatMap opB ++ r) = a ++ (opB o ++ (l.flatMap opB ++ r)) := by simp
    rw [e2, List.length_append] at ih
    rw [e, List.length_cons, getF, h1]
    have h0 : (0 : Int) == 0 := rfl
    simp only [h0, cond_true, ih]
    simp [Nat.add_assoc]
theorem width_le (s : ByteArray) (pos : Nat) : (Utf8.decode s pos).2 ≤ 4 := by
  simp only [Utf8.decode]
  repeat' split
  all_goals simp
theorem runesF_size (s : ByteArray) : ∀ (n pos : Nat), s.size - pos ≤ n → s.size ≤ pos + 4 * (runesF s n pos).length
  | 0, pos, h => by simp [runesF]; omega
  | n + 1, pos, h => by
    simp only [runesF]
    cases c : Nat.blt pos s.size with
    | false =>
      have : ¬ pos < s.size := fun h => by rw [blt_iff.2 h] at c; cases c
      simp; omega
    | true =>
      have h1 := width_pos s pos
      have h2 := width_le s pos
      have := runesF_size s n (pos + (Utf8.decode s pos).2) (by omega)
      simp only [cond_true, List.length_cons]
      omega
theorem runes_size (s : ByteArray) : s.size ≤ 4 * (runes s).length := by
  have := runesF_size s (s.size - 0) 0 (by omega)
  simpa [runes, runesAt] using this
theorem key_size {s : ByteArray} (h : (keyE s != 0) = false) : s.size ≤ 96 := by
  have h1 := runes_size s
  unfold keyE at h
  rw [allR_eq 1 24 _ 0 (by decide)] at h
  split at h
  · rename_i c
    simp only [Bool.and_eq_true, decide_eq_true_eq] at c
    omega
  · cases h
theorem val_size {s : ByteArray} (h : (valE s != 0) = false) : s.size ≤ 192 := by
  have h1 := runes_size s
  unfold valE at h
  rw [allR_eq 0 48 _ 0 (by decide)] at h
  split at h
  · rename_i c
    simp only [Bool.and_eq_true, decide_eq_true_eq] at c
    omega
  · cases h
theorem right_sizes {l : List AOp} (h : rightF l [] = 0) : ∀ o ∈ l, o.key.size ≤ 96 ∧ o.val.size ≤ 192 := fun o ho => by
  have hok := ((rightF_iff l []).1 h).1 o ho
  refine ⟨key_size hok.1.1, ?_⟩
  have hb := hok.1.2
  unfold badV at hb
  cases hh : o.has with
  | true =>
    rw [hh] at hb
    cases c : (valE o.val != 0) with
    | true => rw [c] at hb; cases hb
    | false => exact val_size c
  | false =>
    rw [hh] at hb
    have : eqS o.val ⟨#[]⟩ = true := by simpa using hb
    rw [eqS_true this]; decide
theorem get_put {l : List AOp} {b : List Int} (hr : rightF l [] = 0) (hl : l.length < 20) (hb : Rng b) : getM ⟨putB [] l ++ b, 0, 0⟩ 20 = (l, ⟨putB [] l ++ b, (putB [] l).length, 0⟩) := by
  have hs := right_sizes hr
  have hsm : ∀ o ∈ l, o.small := fun o ho => ⟨by have := (hs o ho).1; omega, by have := (hs o ho).2; omega⟩
  have rl : Rng (l.flatMap opB ++ b) := (ops_rng l hsm).append hb
  have hn := rdN_put (a := []) (r := l.flatMap opB ++ b) (n := l.length) (by omega) (by omega) rl
  have hg := getF_put l (numB l.length) b [] hs hb
  have e : putB [] l ++ b = numB l.length ++ (l.flatMap opB ++ b) := by rw [putB_eq]; simp
  simp only [List.nil_append, List.length_nil, Nat.zero_add] at hn
  unfold getM rdW
  rw [e, hn]
  have h0 : (0 : Int) == 0 := rfl
  simp only [h0, cond_true]
  rw [decide_eq_false (by omega), decide_eq_false (by omega)]
  simp only [cond_false, Int.toNat_natCast, hg, List.nil_append]
  congr 2
  rw [putB_eq]; simp

/-- What is read may be gone on with; and how much was read. -/
theorem rdT_grow {s : RS} {m : Int} (h : s.ok) (h0 : ((rdT s m).2.e == 0) = true) : s.at_ + 1 ≤ (rdT s m).2.at_ := by
  have hg := @rdN_grow s h
  have hn := rdN_nonneg h
  unfold rdT at h0 ⊢
  cases c1 : ((rdN s).2.e == 0) with
  | false => rw [c1] at h0; simp only [cond_false] at h0; rw [c1] at h0; cases h0
  | true =>
    have := hg c1
    rw [c1] at h0
    cases c2 : decide ((rdN s).1 > max m 0) with
    | true => rw [c2] at h0; cases h0
    | false =>
      rw [c2] at h0
      cases c3 : decide ((rdN s).1 > ((List.length (rdN s).2.b : Int) - ((rdN s).2.at_ : Int))) with
      | true => rw [c3] at h0; cases h0
      | false => simp only [cond_true, cond_false]; omega
theorem rdT_flow {s : RS} {m : Int} (h0 : (s.e == 0) = false) : ((rdT s m).2.e == 0) = false := by
  have : (rdN s).2.e = s.e := by unfold rdN; rw [h0]; rfl
  unfold rdT
  rw [this, h0]
  simp only [cond_false]
  rw [this, h0]
theorem rdT_keep {s : RS} {m : Int} (h : s.ok) : s.at_ ≤ (rdT s m).2.at_ := by
  have hn := rdN_nonneg h
  have hm : s.at_ ≤ (rdN s).2.at_ := by
    cases c : ((rdN s).2.e == 0) with
    | true => have := rdN_grow h c; omega
    | false => rw [rdN_at_of c]; exact Nat.le_refl _
  unfold rdT
  cases ((rdN s).2.e == 0) with
  | false => exact hm
  | true =>
    cases decide ((rdN s).1 > max m 0) with
    | true => exact Nat.le_refl _
    | false =>
      cases decide ((rdN s).1 > ((List.length (rdN s).2.b : Int) - ((rdN s).2.at_ : Int))) with
      | true => exact Nat.le_refl _
      | false => simp only [cond_true, cond_false]; omega
theorem rdF_flow {s : RS} (h0 : (s.e == 0) = false) : ((rdF s).2.e == 0) = false := by
  have : (rdN s).2.e = s.e := by unfold rdN; rw [h0]; rfl
  unfold rdF
  rw [this, h0]
  simp only [cond_false]
  rw [this, h0]
theorem rdF_keep {s : RS} (h : s.ok) : s.at_ ≤ (rdF s).2.at_ := by
  have hm : s.at_ ≤ (rdN s).2.at_ := by
    cases c : ((rdN s).2.e == 0) with
    | true => have := rdN_grow h c; omega
    | false => rw [rdN_at_of c]; exact Nat.le_refl _
  unfold rdF
  cases ((rdN s).2.e == 0) with
  | false => exact hm
  | true =>
    cases decide ((rdN s).1 > 1) with
    | true => exact Nat.le_refl _
    | false => exact hm
theorem rdO_grow {s : RS} (h : s.ok) (h0 : ((rdO s).2.e == 0) = true) : s.at_ + 1 ≤ (rdO s).2.at_ := by
  have k1 := rdT_keep (m := 96) h
  have k2 := rdF_keep (rdT_ok (m := 96) h)
  have k3 := rdT_grow (m := 192) (rdF_ok (rdT_ok (m := 96) h)) h0
  have : (rdO s).2 = (rdT (rdF (rdT s 96).2).2 192).2 := rfl
  rw [this]
  omega
theorem rdW_le {s : RS} {lo hi : Int} (h : s.ok) : (rdW s lo hi).1 ≤ 9223372036854775807 := by
  have hn := rdN_nonneg h
  unfold rdW
  cases ((rdN s).2.e == 0) with
  | false => simp only [cond_false]; omega
  | true =>
    generalize (bif decide ((rdN s).1 < lo) then true else decide ((rdN s).1 > hi)) = c
    cases c with
    | true => simp only [cond_true]; omega
    | false => exact hn.2
theorem getF_next {n : Nat} {s : RS} {l : List AOp} (h : (s.e == 0) = true) : getF (n + 1) s l = getF n (rdO s).2 (l ++ [(rdO s).1]) := by
  simp only [getF, h, cond_true]
theorem getF_stop {n : Nat} {s : RS} {l : List AOp} (h : (s.e == 0) = false) : getF n s l = (l, s) := by
  cases n with
  | zero => rfl
  | succ n => simp only [getF, h, cond_false]
theorem getF_ok : ∀ (n : Nat) (s : RS) (l : List AOp), s.ok → (getF n s l).2.ok
  | 0, s, l, h => h
  | n + 1, s, l, h => by
    simp only [getF]
    cases s.e == 0 with
    | false => exact h
    | true => exact getF_ok n _ _ (rdO_ok h)
theorem getM_ok {s : RS} {m : Int} (h : s.ok) : (getM s m).2.ok := getF_ok _ _ _ (rdW_ok h)
theorem fits_sl_bytes {e : DV} (h : Fits (.sl [.i .u8]) e) : ∃ l : List Int, e = .sl (l.map encB) ∧ Rng l := by
  cases h with
  | sl _ es r =>
    induction es with
    | nil => exact ⟨[], rfl, fun x hx => by cases hx⟩
    | cons y es ih =>
      obtain _ | ⟨h1, h2⟩ := r
      obtain ⟨l, e, hl⟩ := ih h2
      obtain _ | ⟨h3, h4⟩ := h1
      obtain _ | _ := h4
      cases h3 with
      | i _ n hn =>
        have hes : es = l.map encB := by injection e
        subst hes
        refine ⟨n :: l, rfl, fun x hx => ?_⟩
        rcases List.mem_cons.1 hx with rfl | hx
        · have hw : (Lit.int IntKind.u8 x).wf = true := hn
          simp [Lit.wf, IntKind.min, IntKind.max, IntKind.bits, IntKind.signed] at hw
          omega
        · exact hl x hx
end Go.Proofs.Ytjbiaoajmdbigaa
