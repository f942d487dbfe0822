/- Maps behind calls are sorted; what scans have; a scan of a stretch in two parts. -/
import Derived.Test.YtjbiaoajmdbigaaPl
set_option linter.unusedVariables false
set_option linter.unusedSimpArgs false
namespace Go.Proofs.Ytjbiaoajmdbigaa
open Go Go.E

theorem takeF_srt : ∀ (l : List AEv) (t : Tr), Srt (Tr.toL t) → Srt (Tr.toL (takeF t l))
  | [], t, h => h
  | e :: r, t, h => by
    simp only [takeF]
    cases e.has with
    | true => exact takeF_srt r _ (by simp only [cond_true]; rw [Tr.toL_putT t _ _ h]; exact putL_srt h)
    | false => exact takeF_srt r _ (by simp only [cond_false]; rw [Tr.toL_dropT t _ h]; exact dropL_srt h)
theorem doT_srt {t : Tr} (p : Int) (c o : List AOp) (h : Srt (Tr.toL t)) : Srt (Tr.toL (doT t p c o)) := by
  unfold doT
  cases ((planM t p c o).2 == 0) with
  | true => exact takeF_srt _ _ h
  | false => exact h
theorem madeF_srt : ∀ (l : List ADo) (t : Tr) (a : List AEv), Srt (Tr.toL t) → Srt (Tr.toL (madeF l t a).1)
  | [], t, a, h => h
  | d :: r, t, a, h => by
    simp only [madeF]
    cases decide (opN d.op < 4) with
    | true => exact madeF_srt r _ _ (doT_srt _ _ _ h)
    | false => exact madeF_srt r _ _ h
theorem made_srt (l : List ADo) : Srt (Tr.toL (madeM l).1) := madeF_srt l .nil [] List.Pairwise.nil
theorem getL_mem : ∀ {l : List APair} {p : APair}, Srt l → p ∈ l → getL p.key l = some p.val
  | q :: r, p, h, hm => by
    obtain ⟨h1, h2⟩ := List.pairwise_cons.1 h
    rcases List.mem_cons.1 hm with rfl | hm
    · simp [getL, eqS_self]
    · simp [getL, ltS_ne' (h1 p hm), getL_mem h2 hm]
theorem scan_at {t : Tr} {f g : ByteArray} (h : Srt (Tr.toL t)) {k : Nat} {key : ByteArray} {has : Bool} {vl : ByteArray} (ha : (scanM t f g)[k]? = some ⟨key, has, vl⟩) :
    Tr.getT t key = (vl, true) ∧ has = true ∧ ltS key f = false ∧ (eqS g ⟨#[]⟩ = true ∨ ltS key g = true) := by
  rw [scanM_eq t f g h] at ha
  have := List.mem_of_getElem? ha
  obtain ⟨p, hp, e⟩ := List.mem_map.1 this
  simp only [opOf, AOp.mk.injEq] at e
  obtain ⟨rfl, rfl, rfl⟩ := e
  obtain ⟨hm, hr⟩ := List.mem_filter.1 hp
  simp only [inR, Bool.and_eq_true, Bool.not_eq_true', Bool.or_eq_true] at hr
  exact ⟨by rw [Tr.getT_get t _ h, getL_mem h hm], rfl, hr.1, hr.2⟩
theorem scan_self {t : Tr} {f : ByteArray} (h : Srt (Tr.toL t)) (hf : eqS f ⟨#[]⟩ = false) : scanM t f f = [] := by
  rw [scanM_eq t f f h]
  have : (Tr.toL t).filter (inR f f) = [] := List.filter_eq_nil_iff.2 fun x _ => by simp [inR, hf]
  rw [this]
  rfl
theorem filter_split {f m g : ByteArray} (hm : eqS m ⟨#[]⟩ = false) (h1 : ltS m f = false) (h2 : eqS g ⟨#[]⟩ = true ∨ ltS g m = false) : ∀ l : List APair, Srt l → l.filter (inR f g) = l.filter (inR f m) ++ l.filter (inR m g)
  | [], _ => rfl
  | p :: r, h => by
    obtain ⟨a1, a2⟩ := List.pairwise_cons.1 h
    have ih := filter_split hm h1 h2 r a2
    cases c : ltS p.key m with
    | true =>
      have e1 : inR m g p = false := by simp [inR, c]
      have e2 : inR f g p = inR f m p := by
        have : (eqS g ⟨#[]⟩ || ltS p.key g) = true := by
          rcases h2 with h2 | h2
          · simp [h2]
          · have : ltS p.key g = true := by
              cases c2 : ltS m g with
              | true => exact ltS_trans c c2
              | false => rw [ltS_tri h2 c2]; exact c
            simp [this]
        simp [inR, c, hm, this]
      simp only [List.filter_cons, e1, e2, ih]
      cases inR f m p <;> simp
    | false =>
      have hr : r.filter (inR f m) = [] := List.filter_eq_nil_iff.2 fun x hx => by
        have : ltS x.key m = false := by
          cases c2 : ltS x.key m with
          | false => rfl
          | true => rw [ltS_trans (a1 x hx) c2] at c; cases c
        simp [inR, hm, this]
      have e1 : inR f m p = false := by simp [inR, hm, c]
      have e2 : inR f g p = inR m g p := by
        have : ltS p.key f = false := by
          cases c2 : ltS p.key f with
          | false => rfl
          | true =>
            cases c3 : ltS f m with
            | true => rw [ltS_trans c2 c3] at c; cases c
            | false => rw [← ltS_tri h1 c3, c] at c2; cases c2
        simp [inR, c, this]
      simp only [List.filter_cons, e1, e2, ih, hr]
      cases inR m g p <;> simp
theorem scan_split {t : Tr} {f m g : ByteArray} (h : Srt (Tr.toL t)) (hm : eqS m ⟨#[]⟩ = false) (h1 : ltS m f = false) (h2 : eqS g ⟨#[]⟩ = true ∨ ltS g m = false) : scanM t f g = scanM t f m ++ scanM t m g := by
  rw [scanM_eq t _ _ h, scanM_eq t _ _ h, scanM_eq t _ _ h, filter_split hm h1 h2 _ h, List.map_append]
end Go.Proofs.Ytjbiaoajmdbigaa
