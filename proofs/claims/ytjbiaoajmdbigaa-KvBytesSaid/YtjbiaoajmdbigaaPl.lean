/- Trees as sorted lists: what the tree's functions come to. -/
import Derived.Test.YtjbiaoajmdbigaaDo
set_option linter.unusedVariables false
set_option linter.unusedSimpArgs false
namespace Go.Proofs.Ytjbiaoajmdbigaa
open Go Go.E

namespace Tr
def toL : Tr → List APair
  | nil => []
  | node k v l r => toL l ++ ⟨k, v⟩ :: toL r
theorem toL_length : ∀ t : Tr, (toL t).length = t.size
  | nil => rfl
  | node k v l r => by simp only [toL, size, List.length_append, List.length_cons, toL_length l, toL_length r]; omega
theorem toL_rotR : ∀ t : Tr, toL (rotR t) = toL t
  | nil => rfl
  | node _ _ nil _ => rfl
  | node _ _ (node _ _ _ _) _ => by simp [rotR, toL]
theorem toL_rotL : ∀ t : Tr, toL (rotL t) = toL t
  | nil => rfl
  | node _ _ _ nil => rfl
  | node _ _ _ (node _ _ _ _) => by simp [rotL, toL]
theorem toL_downLess : ∀ (l : Tr) (k v : ByteArray) (m : Tr), toL (downLess l k v m) = toL l ++ ⟨k, v⟩ :: toL m
  | nil, k, v, m => by simp [downLess, toL]
  | node lk lv ll lr, k, v, m => by
    have ih := toL_downLess lr k v m
    simp only [downLess]
    split
    · split
      · simp [toL]
      · rw [toL_rotL]; simp only [toL]; rw [toL_rotR]; simp [toL]
    · split
      · simp [toL, ih]
      · rw [toL_rotL]; simp [toL, ih]
theorem toL_downMore : ∀ (l : Tr) (k v : ByteArray) (m : Tr), toL (downMore l k v m) = toL l ++ ⟨k, v⟩ :: toL m
  | l, k, v, nil => by simp [downMore, toL]
  | l, k, v, node mk mv ml mr => by
    have ih := toL_downMore l k v ml
    simp only [downMore]
    split
    · split
      · simp [toL]
      · rw [toL_rotR]; simp only [toL]; rw [toL_rotL]; simp [toL]
    · split
      · simp [toL, ih]
      · rw [toL_rotR]; simp [toL, ih]
theorem toL_join (l : Tr) (k v : ByteArray) (m : Tr) : toL (join l k v m) = toL l ++ ⟨k, v⟩ :: toL m := by
  unfold join
  split
  · exact toL_downLess ..
  · split
    · exact toL_downMore ..
    · rfl
theorem toL_last : ∀ t : Tr, t ≠ nil → toL (last t).1 ++ [⟨(last t).2.1, (last t).2.2⟩] = toL t
  | nil, h => absurd rfl h
  | node k v l nil, _ => by simp [last, toL]
  | node k v l (node k2 v2 l2 r2), _ => by
    have ih := toL_last (node k2 v2 l2 r2) (by simp)
    rw [toL, ← ih]
    simp only [last, toL_join]
    simp
theorem toL_glue (l m : Tr) : toL (glue l m) = toL l ++ toL m := by
  cases l with
  | nil => simp [glue, toL]
  | node k v l2 r2 =>
    have := toL_last (node k v l2 r2) (by simp)
    simp only [glue, toL_join]
    rw [← this]
    simp
end Tr

/-! ### Sorted lists -/
abbrev Lt (a b : APair) : Prop := ltS a.key b.key = true
abbrev Srt (l : List APair) : Prop := l.Pairwise Lt
def putL (k v : ByteArray) : List APair → List APair
  | [] => [⟨k, v⟩]
  | p :: r => bif ltS k p.key then ⟨k, v⟩ :: p :: r else bif eqS p.key k then ⟨k, v⟩ :: r else p :: putL k v r
def dropL (k : ByteArray) (l : List APair) : List APair := l.filter fun p => !(eqS p.key k)
def getL (k : ByteArray) : List APair → Option ByteArray
  | [] => none
  | p :: r => bif eqS p.key k then some p.val else getL k r
theorem eqS_comm (a b : ByteArray) : eqS a b = eqS b a := by simp [eqS, eq_comm]
theorem eqS_of_ne {a b : ByteArray} (h : a ≠ b) : eqS a b = false := by simpa [eqS] using h
theorem ltS_ne' {a b : ByteArray} (h : ltS a b = true) : eqS a b = false := eqS_of_ne (ltS_ne h)
theorem ltS_ne2 {a b : ByteArray} (h : ltS a b = true) : eqS b a = false := by rw [eqS_comm]; exact ltS_ne' h

theorem putL_left {k v : ByteArray} {p : APair} {b : List APair} (h : ltS k p.key = true) : ∀ (a : List APair), putL k v (a ++ p :: b) = putL k v a ++ p :: b
  | [] => by simp [putL, h]
  | x :: a => by
    have ih := putL_left (v := v) (b := b) h a
    simp only [List.cons_append, putL]
    cases ltS k x.key with
    | true => rfl
    | false =>
      cases eqS x.key k with
      | true => rfl
      | false => simp [ih]
theorem putL_right {k v : ByteArray} {p : APair} {b : List APair} (h : ltS p.key k = true) : ∀ (a : List APair), (∀ x ∈ a, ltS x.key p.key = true) → putL k v (a ++ p :: b) = a ++ p :: putL k v b
  | [], _ => by simp [putL, ltS_asymm h, ltS_ne' h]
  | x :: a, ha => by
    have ih := putL_right (v := v) (b := b) h a fun y hy => ha y (List.mem_cons_of_mem _ hy)
    have hx := ltS_trans (ha x (by simp)) h
    simp [putL, ltS_asymm hx, ltS_ne' hx, ih]
theorem putL_mid {k v : ByteArray} {p : APair} {b : List APair} (h : p.key = k) : ∀ (a : List APair), (∀ x ∈ a, ltS x.key p.key = true) → putL k v (a ++ p :: b) = a ++ ⟨k, v⟩ :: b
  | [], _ => by subst h; simp [putL, ltS_irrefl, eqS_self]
  | x :: a, ha => by
    have ih := putL_mid (v := v) (b := b) h a fun y hy => ha y (List.mem_cons_of_mem _ hy)
    have hx := ha x (by simp)
    rw [h] at hx
    simp [putL, ltS_asymm hx, ltS_ne' hx, ih]

theorem srt_parts {a b : List APair} {p : APair} (h : Srt (a ++ p :: b)) : Srt a ∧ Srt b ∧ (∀ x ∈ a, ltS x.key p.key = true) ∧ (∀ x ∈ b, ltS p.key x.key = true) ∧ ∀ x ∈ a, ∀ y ∈ b, ltS x.key y.key = true := by
  obtain ⟨h1, h2, h3⟩ := List.pairwise_append.1 h
  obtain ⟨h4, h5⟩ := List.pairwise_cons.1 h2
  exact ⟨h1, h5, fun x hx => h3 x hx p (by simp), h4, fun x hx y hy => h3 x hx y (List.mem_cons_of_mem _ hy)⟩
theorem srt_mk {a b : List APair} {p : APair} (h1 : Srt a) (h2 : Srt b) (h3 : ∀ x ∈ a, ltS x.key p.key = true) (h4 : ∀ x ∈ b, ltS p.key x.key = true) : Srt (a ++ p :: b) :=
  List.pairwise_append.2 ⟨h1, List.pairwise_cons.2 ⟨h4, h2⟩, fun x hx y hy => by
    rcases List.mem_cons.1 hy with rfl | hy
    · exact h3 x hx
    · exact ltS_trans (h3 x hx) (h4 y hy)⟩

theorem putL_mem {k v : ByteArray} : ∀ {l : List APair} {x : APair}, x ∈ putL k v l → x = ⟨k, v⟩ ∨ x ∈ l
  | [], x, h => by simp [putL] at h; exact .inl h
  | p :: r, x, h => by
    simp only [putL] at h
    cases h1 : ltS k p.key with
    | true => simp [h1] at h; rcases h with h | h | h <;> simp [h]
    | false =>
      cases h2 : eqS p.key k with
      | true => simp [h1, h2] at h; rcases h with h | h <;> simp [h]
      | false =>
        simp only [h1, h2, cond_false, List.mem_cons] at h
        rcases h with h | h
        · simp [h]
        · rcases putL_mem h with h | h <;> simp [h]
theorem putL_srt {k v : ByteArray} : ∀ {l : List APair}, Srt l → Srt (putL k v l)
  | [], _ => by simp [putL]
  | p :: r, h => by
    obtain ⟨h1, h2⟩ := List.pairwise_cons.1 h
    simp only [putL]
    cases c1 : ltS k p.key with
    | true =>
      simp only [cond_true]
      refine List.pairwise_cons.2 ⟨fun x hx => ?_, h⟩
      rcases List.mem_cons.1 hx with rfl | hx
      · exact c1
      · exact ltS_trans c1 (h1 x hx)
    | false =>
      cases c2 : eqS p.key k with
      | true =>
        have e := eqS_true c2
        simp only [cond_true, cond_false]
        refine List.pairwise_cons.2 ⟨fun x hx => ?_, h2⟩
        show ltS k x.key = true
        rw [← e]; exact h1 x hx
      | false =>
        simp only [cond_false]
        refine List.pairwise_cons.2 ⟨fun x hx => ?_, putL_srt h2⟩
        rcases putL_mem hx with rfl | hx
        · show ltS p.key k = true
          cases c3 : ltS p.key k with
          | true => rfl
          | false => exact absurd (ltS_tri c3 c1) (eqS_false c2)
        · exact h1 x hx
theorem dropL_srt {k : ByteArray} {l : List APair} (h : Srt l) : Srt (dropL k l) := List.Pairwise.filter _ h
theorem dropL_none {k : ByteArray} {l : List APair} (h : ∀ x ∈ l, eqS x.key k = false) : dropL k l = l := by
  unfold dropL
  exact List.filter_eq_self.2 fun x hx => by rw [h x hx]; rfl

namespace Tr
theorem toL_put : ∀ (t : Tr) (k v : ByteArray), Srt (toL t) → toL (put t k v) = putL k v (toL t)
  | nil, k, v, _ => by simp [put, toL, putL]
  | node k0 v0 l r, k, v, h => by
    obtain ⟨h1, h2, h3, h4, _⟩ := srt_parts (show Srt (toL l ++ ⟨k0, v0⟩ :: toL r) from h)
    simp only [put]
    split
    · rename_i c; rw [toL_join, toL_put l k v h1]; exact (putL_left (p := ⟨k0, v0⟩) c _).symm
    · rename_i c
      split
      · rename_i c2; rw [toL_join, toL_put r k v h2]; exact (putL_right (p := ⟨k0, v0⟩) c2 _ h3).symm
      · rename_i c2
        have e : k0 = k := ltS_tri (by simpa using c2) (by simpa using c)
        exact (putL_mid (p := ⟨k0, v0⟩) e _ h3).symm
theorem toL_drop : ∀ (t : Tr) (k : ByteArray), Srt (toL t) → toL (drop t k) = dropL k (toL t)
  | nil, k, _ => rfl
  | node k0 v0 l r, k, h => by
    obtain ⟨h1, h2, h3, h4, _⟩ := srt_parts (show Srt (toL l ++ ⟨k0, v0⟩ :: toL r) from h)
    have e0 : toL (node k0 v0 l r) = toL l ++ ⟨k0, v0⟩ :: toL r := rfl
    simp only [drop]
    split
    · rename_i c
      rw [toL_join, toL_drop l k h1, e0]
      have : dropL k (toL r) = toL r := dropL_none fun x hx => ltS_ne2 (ltS_trans c (h4 x hx))
      unfold dropL at this ⊢
      simp [List.filter_append, List.filter_cons, ltS_ne2 c, this]
    · rename_i c
      split
      · rename_i c2
        rw [toL_join, toL_drop r k h2, e0]
        have : dropL k (toL l) = toL l := dropL_none fun x hx => ltS_ne' (ltS_trans (h3 x hx) c2)
        unfold dropL at this ⊢
        simp [List.filter_append, List.filter_cons, ltS_ne' c2, this]
      · rename_i c2
        have e : k0 = k := ltS_tri (by simpa using c2) (by simpa using c)
        subst e
        have e1 : dropL k0 (toL l) = toL l := dropL_none fun x hx => ltS_ne' (h3 x hx)
        have e2 : dropL k0 (toL r) = toL r := dropL_none fun x hx => ltS_ne2 (h4 x hx)
        rw [toL_glue, e0]
        unfold dropL at e1 e2 ⊢
        simp [List.filter_append, List.filter_cons, eqS_self, e1, e2]
theorem getL_append (k : ByteArray) : ∀ (a b : List APair), getL k (a ++ b) = match getL k a with | some v => some v | none => getL k b
  | [], b => rfl
  | p :: a, b => by
    simp only [List.cons_append, getL]
    cases eqS p.key k with
    | true => rfl
    | false => exact getL_append k a b
theorem getL_none {k : ByteArray} : ∀ {l : List APair}, (∀ x ∈ l, eqS x.key k = false) → getL k l = none
  | [], _ => rfl
  | p :: r, h => by simp [getL, h p (by simp), getL_none fun x hx => h x (List.mem_cons_of_mem _ hx)]
/-- What is found is what the list has. -/
theorem find_get : ∀ (t : Tr) (k : ByteArray), Srt (toL t) → (match find t k with | nil => none | node _ v _ _ => some v) = getL k (toL t)
  | nil, k, _ => rfl
  | node k0 v0 l r, k, h => by
    obtain ⟨h1, h2, h3, h4, _⟩ := srt_parts (show Srt (toL l ++ ⟨k0, v0⟩ :: toL r) from h)
    have e0 : toL (node k0 v0 l r) = toL l ++ ⟨k0, v0⟩ :: toL r := rfl
    simp only [find]
    rcases Bool.eq_false_or_eq_true (eqS k0 k) with c | c
    · rw [if_pos c]
      have e := eqS_true c
      subst e
      rw [e0, getL_append, getL_none fun x hx => ltS_ne' (h3 x hx)]
      simp [getL, eqS_self]
    · rw [if_neg (by rw [c]; simp)]
      rcases Bool.eq_false_or_eq_true (ltS k k0) with c2 | c2
      · rw [if_pos c2, find_get l k h1, e0, getL_append]
        have : getL k (⟨k0, v0⟩ :: toL r) = none := getL_none fun x hx => by
          rcases List.mem_cons.1 hx with rfl | hx
          · exact ltS_ne2 c2
          · exact ltS_ne2 (ltS_trans c2 (h4 x hx))
        rw [this]
        cases getL k (toL l) <;> rfl
      · have c3 : ltS k0 k = true := by
          cases c3 : ltS k0 k with
          | true => rfl
          | false => exact absurd (ltS_tri c3 c2) (eqS_false c)
        rw [if_neg (by rw [c2]; simp), find_get r k h2, e0, getL_append, getL_none fun x hx => ltS_ne' (ltS_trans (h3 x hx) c3)]
        simp [getL, ltS_ne' c3]
theorem getT_get (t : Tr) (k : ByteArray) (h : Srt (toL t)) : getT t k = match getL k (toL t) with | some v => (v, true) | none => (⟨#[]⟩, false) := by
  have := find_get t k h
  unfold getT
  cases hf : find t k with
  | nil => rw [hf] at this; rw [← this]
  | node a v b c => rw [hf] at this; rw [← this]
end Tr
theorem putL_same {k v : ByteArray} : ∀ {l : List APair}, Srt l → getL k l = some v → putL k v l = l
  | [], _, h => by simp [getL] at h
  | p :: r, hs, h => by
    obtain ⟨h1, h2⟩ := List.pairwise_cons.1 hs
    simp only [getL] at h
    cases c : eqS p.key k with
    | true =>
      rw [c] at h
      obtain rfl := Option.some.inj h
      have e := eqS_true c
      subst e
      simp [putL, ltS_irrefl, eqS_self]
    | false =>
      rw [c] at h
      have ih := putL_same h2 h
      have c1 : ltS k p.key = false := by
        cases c1 : ltS k p.key with
        | false => rfl
        | true =>
          have : getL k r = none := Tr.getL_none fun x hx => ltS_ne2 (ltS_trans c1 (h1 x hx))
          simp only [cond_false] at h
          rw [this] at h
          cases h
      simp [putL, c1, c, ih]
namespace Tr
theorem toL_putT (t : Tr) (k v : ByteArray) (h : Srt (toL t)) : toL (putT t k v) = putL k v (toL t) := by
  have hf := find_get t k h
  unfold putT
  cases hc : find t k with
  | nil => exact toL_put t k v h
  | node a v' b c =>
    rw [hc] at hf
    simp only
    split
    · rename_i e
      have := eqS_true e
      subst this
      exact (putL_same h hf.symm).symm
    · exact toL_put t k v h
theorem toL_dropT (t : Tr) (k : ByteArray) (h : Srt (toL t)) : toL (dropT t k) = dropL k (toL t) := by
  have hf := find_get t k h
  unfold dropT
  cases hc : find t k with
  | nil =>
    rw [hc] at hf
    refine (dropL_none fun x hx => ?_).symm
    cases e : eqS x.key k with
    | false => rfl
    | true =>
      exfalso
      have key : ∀ l : List APair, x ∈ l → getL k l ≠ none := by
        intro l
        induction l with
        | nil => intro h; cases h
        | cons p r ih =>
          intro hm
          simp only [getL]
          cases e2 : eqS p.key k with
          | true => simp
          | false =>
            rcases List.mem_cons.1 hm with rfl | hm
            · rw [e] at e2; cases e2
            · simpa using ih hm
      exact key _ hx hf.symm
  | node a v b c => exact toL_drop t k h
end Tr

/-! ### Scans -/
def inR (f g : ByteArray) (p : APair) : Bool := !(ltS p.key f) && (eqS g ⟨#[]⟩ || ltS p.key g)
theorem Tr.toL_scan : ∀ (t : Tr) (f g : ByteArray) (most : Int) (out : List APair), Srt (toL t) → (out.length : Int) + t.size ≤ most → scan t f g most out = out ++ (toL t).filter (inR f g)
  | nil, f, g, most, out, _, _ => by simp [scan, toL]
  | node k v l r, f, g, most, out, h, hm => by
    obtain ⟨h1, h2, h3, h4, _⟩ := srt_parts (show Srt (toL l ++ ⟨k, v⟩ :: toL r) from h)
    simp only [size] at hm
    have c0 : decide ((out.length : Int) ≥ most) = false := decide_eq_false (by omega)
    have e1 : (bif ltS f k then scan l f g most out else out) = out ++ (toL l).filter (inR f g) := by
      cases c : ltS f k with
      | true => exact toL_scan l f g most out h1 (by omega)
      | false =>
        have : (toL l).filter (inR f g) = [] := List.filter_eq_nil_iff.2 fun x hx => by
          have hx1 := h3 x hx
          have : ltS x.key f = true := by
            cases c2 : ltS k f with
            | true => exact ltS_trans hx1 c2
            | false => rw [ltS_tri c c2]; exact hx1
          simp [inR, this]
        simp [this]
    have hlen : ((out ++ (toL l).filter (inR f g)).length : Int) ≤ out.length + l.size := by
      have := List.length_filter_le (inR f g) (toL l)
      rw [toL_length] at this
      simp only [List.length_append]; omega
    have c1 : decide (((out ++ (toL l).filter (inR f g)).length : Int) < most) = true := decide_eq_true (by omega)
    have hin : (bif eqS g ⟨#[]⟩ then true else ltS k g) = (eqS g ⟨#[]⟩ || ltS k g) := by cases eqS g ⟨#[]⟩ <;> rfl
    have e2 : (bif (bif (bif !(ltS k f) then (bif eqS g ⟨#[]⟩ then true else ltS k g) else false) then decide (((out ++ (toL l).filter (inR f g)).length : Int) < most) else false) then out ++ (toL l).filter (inR f g) ++ [(⟨k, v⟩ : APair)] else out ++ (toL l).filter (inR f g)) =
        out ++ ((toL l).filter (inR f g) ++ (if inR f g ⟨k, v⟩ then [⟨k, v⟩] else [])) := by
      rw [c1, hin]
      rcases Bool.eq_false_or_eq_true (ltS k f) with c2 | c2 <;> rcases Bool.eq_false_or_eq_true (eqS g ⟨#[]⟩ || ltS k g) with c3 | c3 <;> simp [inR, c2, c3]
    simp only [scan, c0, cond_false]
    rw [e1, e2, hin]
    cases c : (eqS g ⟨#[]⟩ || ltS k g) with
    | true =>
      simp only [cond_true]
      rw [toL_scan r f g most _ h2 (by
        simp only [List.length_append] at hlen ⊢
        split <;> simp only [List.length_cons, List.length_nil] <;> omega)]
      simp [toL, List.filter_append, List.filter_cons] <;> (split <;> simp)
    | false =>
      simp only [cond_false]
      have : (toL r).filter (inR f g) = [] := List.filter_eq_nil_iff.2 fun x hx => by
        simp only [Bool.or_eq_false_iff] at c
        have hx1 := h4 x hx
        have : ltS x.key g = false := by
          cases c2 : ltS x.key g with
          | false => rfl
          | true => rw [ltS_trans hx1 c2] at c; cases c.2
        simp [inR, this, c.1]
      simp [toL, List.filter_append, List.filter_cons, this] <;> (split <;> simp)
theorem scanM_eq (t : Tr) (f g : ByteArray) (h : Srt (Tr.toL t)) : scanM t f g = ((Tr.toL t).filter (inR f g)).map opOf := by
  unfold scanM
  rw [Tr.toL_scan t f g t.size [] h (by simp)]
  rfl
end Go.Proofs.Ytjbiaoajmdbigaa
