/- What the document's answer of layer 9 computes of a map's keys is what package kv's functions compute. -/
import Derived.Test.YtjbiaoajmdbigaaRf
set_option linter.unusedVariables false
set_option linter.unusedSimpArgs false
namespace Go.Proofs.Ytjbiaoajmdbigaa
open Go Go.E

abbrev asL (t : Tr) : List AOp := (Tr.toL t).map opOf
theorem asL_len (t : Tr) : (asL t).length = t.size := by simp [asL, Tr.toL_length]
def putO (l : List APair) (o : AOp) : List APair := bif o.has then putL o.key o.val l else dropL o.key l
theorem putO_srt {l : List APair} (o : AOp) (h : Srt l) : Srt (putO l o) := by
  unfold putO
  cases o.has with
  | true => exact putL_srt h
  | false => exact dropL_srt h
theorem rget_get : ∀ (l : List APair) (k : ByteArray), rgetF (l.map opOf) k = match getL k l with | some v => (v, true) | none => (⟨#[]⟩, false)
  | [], k => rfl
  | p :: r, k => by
    simp only [List.map_cons, rgetF, getL, opOf]
    cases eqS p.key k with
    | true => rfl
    | false => simp only [cond_false]; exact rget_get r k
theorem rget_tree {t : Tr} (h : Srt (Tr.toL t)) (k : ByteArray) : rgetF (asL t) k = Tr.getT t k := by rw [rget_get, Tr.getT_get t k h]; cases getL k t.toL <;> rfl

/-- Behind the place. -/
theorem rputF_done (o : AOp) : ∀ (l : List APair) (out : List AOp), rputF (l.map opOf) o out true = out ++ (dropL o.key l).map opOf
  | [], out => by simp [rputF, dropL]
  | p :: r, out => by
    simp only [List.map_cons, rputF, opOf, Bool.not_true, cond_false]
    cases c : eqS p.key o.key with
    | true => simp only [Bool.not_true, cond_false]; rw [rputF_done o r out]; simp [dropL, c]
    | false => simp only [Bool.not_false, cond_true]; rw [rputF_done o r]; simp [dropL, c, opOf]
theorem rputF_put (o : AOp) (ho : o.has = true) : ∀ (l : List APair) (out : List AOp), Srt l → rputF (l.map opOf) o out false = out ++ (putL o.key o.val l).map opOf
  | [], out, _ => by
    obtain ⟨k, h, v⟩ := o
    simp only at ho
    subst ho
    simp [rputF, putL, opOf]
  | p :: r, out, hs => by
    obtain ⟨h1, h2⟩ := List.pairwise_cons.1 hs
    simp only [List.map_cons, rputF, opOf, Bool.not_false, cond_true]
    have heq : opOf ⟨o.key, o.val⟩ = o := by obtain ⟨k, h, v⟩ := o; simp only at ho; subst ho; rfl
    cases c : ltS p.key o.key with
    | true =>
      simp only [Bool.not_true, cond_false]
      rw [ltS_ne' c]
      simp only [Bool.not_false, cond_true]
      rw [rputF_put o ho r _ h2]
      simp [putL, ltS_asymm c, ltS_ne' c, opOf]
    | false =>
      simp only [Bool.not_false, cond_true]
      have hd : dropL o.key r = r := dropL_none fun x hx => ltS_ne2 (by
        cases c2 : ltS o.key p.key with
        | true => exact ltS_trans c2 (h1 x hx)
        | false => rw [ltS_tri c2 c]; exact h1 x hx)
      cases c2 : eqS p.key o.key with
      | true =>
        simp only [Bool.not_true, cond_false]
        rw [rputF_done, hd]
        have e := eqS_true c2
        have hlt : ltS o.key p.key = false := by rw [e]; exact ltS_irrefl _
        simp [putL, hlt, c2, heq]
      | false =>
        simp only [Bool.not_false, cond_true]
        rw [rputF_done, hd]
        have c3 : ltS o.key p.key = true := by
          cases c3 : ltS o.key p.key with
          | true => rfl
          | false => exact absurd (ltS_tri c c3) (eqS_false c2)
        simp only [putL, c3, cond_true, List.map_cons, heq, List.append_assoc, List.cons_append, List.nil_append]; rfl
theorem rput_put {l : List APair} (o : AOp) (h : Srt l) : rput (l.map opOf) o = (putO l o).map opOf := by
  unfold rput putO
  cases ho : o.has with
  | true => rw [show (!true) = false from rfl, rputF_put o ho l [] h]; rfl
  | false => rw [show (!false) = true from rfl, rputF_done o l []]; rfl
theorem rconds_conds {t : Tr} (h : Srt (Tr.toL t)) : ∀ c : List AOp, rcondsF (asL t) c = condsOK t c
  | [] => rfl
  | c :: r => by
    simp only [rcondsF, condsOK, condOK, rget_tree h, rconds_conds h r]
    cases (bif !((t.getT c.key).2 == c.has) then true else !(eqS (t.getT c.key).1 c.val)) <;> rfl
theorem rdiff_same {t : Tr} (h : Srt (Tr.toL t)) (o : AOp) : rdiff (asL t) o = !(sameOp t o) := by
  simp only [rdiff, sameOp, rget_tree h]
  cases ((t.getT o.key).2 == o.has) <;> simp
theorem revOf_evOf {t : Tr} (h : Srt (Tr.toL t)) (p : Int) (o : AOp) : revOf (asL t) p o = evOf t p o := by simp only [revOf, evOf, rget_tree h]

theorem getL_put (k : ByteArray) (v : ByteArray) (q : ByteArray) : ∀ (l : List APair), Srt l → getL q (putL k v l) = bif eqS k q then some v else getL q l
  | [], _ => by simp [putL, getL]
  | p :: r, hs => by
    obtain ⟨h1, h2⟩ := List.pairwise_cons.1 hs
    simp only [putL]
    cases c1 : ltS k p.key with
    | true => simp only [cond_true, getL]
    | false =>
      cases c2 : eqS p.key k with
      | true =>
        have e := eqS_true c2
        simp only [cond_true, cond_false, getL, e]
        cases eqS k q <;> rfl
      | false =>
        simp only [cond_false, getL, getL_put k v q r h2]
        cases c3 : eqS p.key q with
        | false => rfl
        | true =>
          have e := eqS_true c3
          rw [eqS_comm, e] at c2
          rw [c2]
          rfl
theorem getL_drop (k q : ByteArray) : ∀ (l : List APair), getL q (dropL k l) = bif eqS k q then none else getL q l
  | [] => by simp [dropL, getL]
  | p :: r => by
    have ih := getL_drop k q r
    unfold dropL at ih ⊢
    simp only [List.filter_cons]
    cases c1 : eqS p.key k with
    | true =>
      have e := eqS_true c1
      subst e
      simp only [Bool.not_true, Bool.false_eq_true, if_false, getL, ih]
      cases eqS p.key q <;> rfl
    | false =>
      simp only [Bool.not_false, if_true, getL, ih]
      cases c3 : eqS p.key q with
      | false => rfl
      | true =>
        have e := eqS_true c3
        rw [eqS_comm, e] at c1
        rw [c1]; rfl
theorem getL_putO {l : List APair} (o : AOp) (q : ByteArray) (h : Srt l) : getL q (putO l o) = bif eqS o.key q then (bif o.has then some o.val else none) else getL q l := by
  unfold putO
  cases o.has with
  | true => exact getL_put _ _ _ l h
  | false => exact getL_drop _ _ l
theorem putL_length (k v : ByteArray) : ∀ (l : List APair), Srt l → (putL k v l).length = l.length + (match getL k l with | some _ => 0 | none => 1)
  | [], _ => by simp [putL, getL]
  | p :: r, hs => by
    obtain ⟨h1, h2⟩ := List.pairwise_cons.1 hs
    simp only [putL, getL]
    cases c1 : ltS k p.key with
    | true =>
      have e1 : eqS p.key k = false := ltS_ne2 c1
      have e2 : getL k r = none := Tr.getL_none fun x hx => ltS_ne2 (ltS_trans c1 (h1 x hx))
      simp [e1, e2]
    | false =>
      cases c2 : eqS p.key k with
      | true => simp
      | false => simp only [cond_false, List.length_cons, putL_length k v r h2]; omega
theorem dropL_length (k : ByteArray) : ∀ (l : List APair), Srt l → (dropL k l).length + (match getL k l with | some _ => 1 | none => 0) = l.length
  | [], _ => by simp [dropL, getL]
  | p :: r, hs => by
    obtain ⟨h1, h2⟩ := List.pairwise_cons.1 hs
    have ih := dropL_length k r h2
    unfold dropL at ih ⊢
    simp only [List.filter_cons, getL]
    cases c1 : eqS p.key k with
    | true =>
      have e := eqS_true c1
      subst e
      have e2 : getL p.key r = none := Tr.getL_none fun x hx => ltS_ne2 (h1 x hx)
      rw [e2] at ih
      simp only at ih
      simp only [Bool.not_true, Bool.false_eq_true, if_false, cond_true, List.length_cons]
      omega
    | false => simp only [Bool.not_false, if_true, cond_false, List.length_cons]; omega

/-- How many keys there are behind an operation that is not empty-handed. -/
theorem putO_length {t : Tr} {l : List APair} (o : AOp) (h : Srt l) (hb : badV o = false) (hg : getL o.key l = getL o.key (Tr.toL t)) (ht : Srt (Tr.toL t)) :
    ((putO l o).length : Int) = bif sameOp t o then (l.length : Int) else bif !(t.getT o.key).2 then (l.length : Int) + 1 else bif !o.has then (l.length : Int) - 1 else (l.length : Int) := by
  have hT := Tr.getT_get t o.key ht
  have hempty : o.has = false → eqS o.val ⟨#[]⟩ = true := fun e => by
    unfold badV at hb
    rw [e] at hb
    simpa using hb
  unfold putO sameOp
  rw [hT, ← hg]
  cases ho : o.has with
  | true =>
    have hl := putL_length o.key o.val l h
    simp only [cond_true]
    cases hk : getL o.key l with
    | none => rw [hk] at hl; simp only at hl; simp [hl]
    | some v => rw [hk] at hl; simp only at hl; simp [hl]
  | false =>
    have hl := dropL_length o.key l h
    simp only [cond_false]
    cases hk : getL o.key l with
    | none =>
      rw [hk] at hl; simp only at hl
      have := eqS_true (hempty ho)
      simp [this, eqS_self]; omega
    | some v => rw [hk] at hl; simp only at hl; simp; omega

theorem rightF_cons {o : AOp} {r : List AOp} {had : List ByteArray} (h : rightF (o :: r) had = 0) : badV o = false ∧ hasK had o.key = false ∧ rightF r (had ++ [o.key]) = 0 := by
  simp only [rightF] at h
  cases c1 : (keyE o.key != 0) with
  | true => rw [c1] at h; cases h
  | false =>
    rw [c1] at h
    cases c2 : badV o with
    | true => rw [c2] at h; cases h
    | false =>
      rw [c2] at h
      cases c3 : hasK had o.key with
      | true => rw [c3] at h; cases h
      | false => rw [c3] at h; exact ⟨rfl, rfl, h⟩
theorem hasK_snoc (ks : List ByteArray) (a k : ByteArray) : hasK (ks ++ [a]) k = (hasK ks k || eqS a k) := by simp [hasK]
theorem hasK_mem {ks : List ByteArray} {k : ByteArray} (h : k ∈ ks) : hasK ks k = true := List.any_eq_true.2 ⟨k, h, eqS_self k⟩
theorem rplan_plan {t : Tr} (ht : Srt (Tr.toL t)) (p : Int) : ∀ (ops : List AOp) (had : List ByteArray) (e : List AEv) (l : List APair), rightF ops had = 0 → Srt l → (∀ q, hasK had q = false → getL q l = getL q (Tr.toL t)) →
    ∃ l', rplanF (asL t) p ops e (l.map opOf) = ((planF t p ops e l.length).1, l'.map opOf) ∧ Srt l' ∧ (l'.length : Int) = (planF t p ops e l.length).2
  | [], had, e, l, _, hs, _ => ⟨l, rfl, hs, rfl⟩
  | o :: r, had, e, l, hr, hs, hg => by
    obtain ⟨h1, h2, h3⟩ := rightF_cons hr
    have hl := putO_length (t := t) o hs h1 (hg _ h2) ht
    have hg' : ∀ q, hasK (had ++ [o.key]) q = false → getL q (putO l o) = getL q (Tr.toL t) := fun q hq => by
      rw [hasK_snoc, Bool.or_eq_false_iff] at hq
      rw [getL_putO o q hs, hq.2]
      exact hg q hq.1
    simp only [rplanF, planF, rdiff_same ht, rput_put o hs, revOf_evOf ht]
    cases c : sameOp t o with
    | true =>
      rw [c] at hl
      simp only [cond_true] at hl
      obtain ⟨l', q1, q2, q3⟩ := rplan_plan ht p r _ e (putO l o) h3 (putO_srt o hs) hg'
      simp only [Bool.not_true, cond_false, cond_true]
      rw [hl] at q1 q3
      exact ⟨l', q1, q2, q3⟩
    | false =>
      rw [c] at hl
      simp only [cond_false] at hl
      obtain ⟨l', q1, q2, q3⟩ := rplan_plan ht p r _ (e ++ [evOf t p o]) (putO l o) h3 (putO_srt o hs) hg'
      simp only [Bool.not_false, cond_false, cond_true]
      rw [hl] at q1 q3
      exact ⟨l', q1, q2, q3⟩
theorem checkE_right {c o : List AOp} (h : (checkE c o != 0) = false) : rightF o [] = 0 := by
  unfold checkE at h
  generalize (bif (bif (o.length : Int) == 0 then true else decide ((o.length : Int) > 6)) then true else decide ((c.length : Int) > 6)) = b at h
  cases b with
  | true => simp at h
  | false =>
    simp only [cond_false] at h
    cases c2 : (rightF c [] != 0) with
    | true => rw [c2] at h; simp only [cond_true] at h; rw [c2] at h; cases h
    | false => rw [c2] at h; simpa using h
theorem rplanM_eq {t : Tr} (ht : Srt (Tr.toL t)) (p : Int) (c o : List AOp) : rplanM (asL t) p c o = planM t p c o := by
  unfold rplanM planM
  cases h : (checkE c o != 0) with
  | true => rfl
  | false =>
    simp only [cond_false, rconds_conds ht]
    cases condsOK t c with
    | false => rfl
    | true =>
      obtain ⟨l', q1, _, q3⟩ := rplan_plan ht p o [] [] (Tr.toL t) (checkE_right h) ht (fun _ _ => rfl)
      rw [Tr.toL_length] at q1 q3
      simp only [cond_true, asL, q1, List.length_map, q3]
theorem toL_take : ∀ (e : List AEv) (t : Tr), Srt (Tr.toL t) → rtakeF (asL t) e = asL (takeF t e) ∧ Srt (Tr.toL (takeF t e))
  | [], t, h => ⟨rfl, h⟩
  | x :: r, t, h => by
    have e1 : putO (Tr.toL t) ⟨x.key, x.has, x.now⟩ = Tr.toL (bif x.has then t.putT x.key x.now else t.dropT x.key) := by
      unfold putO
      cases x.has with
      | true => exact (Tr.toL_putT t _ _ h).symm
      | false => exact (Tr.toL_dropT t _ h).symm
    have h2 : Srt (Tr.toL (bif x.has then t.putT x.key x.now else t.dropT x.key)) := e1 ▸ putO_srt _ h
    simp only [rtakeF, takeF, asL, rput_put _ h, e1]
    exact toL_take r _ h2
theorem doT_take (t : Tr) (p : Int) (c o : List AOp) : doT t p c o = takeF t (planM t p c o).1 := by
  unfold doT
  cases h : ((planM t p c o).2 == 0) with
  | true => rfl
  | false =>
    have : ((planM t p c o).2 != 0) = true := by simpa using h
    rw [(planM_err this).1]; rfl
theorem rdo_do {t : Tr} (ht : Srt (Tr.toL t)) (p : Int) (c o : List AOp) : rtakeF (asL t) (rplanM (asL t) p c o).1 = asL (doT t p c o) ∧ Srt (Tr.toL (doT t p c o)) := by
  rw [rplanM_eq ht, doT_take]
  exact toL_take _ t ht
theorem setF_set : ∀ (l : List AOp) (t : Tr), Srt (Tr.toL t) → rsetF (asL t) l = (setF t l).map asL ∧ ∀ t', setF t l = some t' → Srt (Tr.toL t')
  | [], t, h => ⟨rfl, fun t' e => by simp only [setF, Option.some.injEq] at e; subst e; exact h⟩
  | o :: r, t, h => by
    simp only [rsetF, setF]
    cases ho : o.has with
    | false => exact ⟨rfl, fun t' e => by cases e⟩
    | true =>
      have e1 : putO (Tr.toL t) o = Tr.toL (t.putT o.key o.val) := by unfold putO; rw [ho]; exact (Tr.toL_putT t _ _ h).symm
      simp only [Bool.not_true, cond_false, asL, rput_put o h, e1]
      exact setF_set r _ (e1 ▸ putO_srt o h)
theorem rset_set {t : Tr} (ht : Srt (Tr.toL t)) (l : List AOp) : rsetM (asL t) l = (asL (setM t l).1, (setM t l).2) ∧ Srt (Tr.toL (setM t l).1) := by
  unfold rsetM setM
  cases decide ((l.length : Int) > 24) with
  | true => exact ⟨rfl, ht⟩
  | false =>
    cases (rightF l [] != 0) with
    | true => exact ⟨rfl, ht⟩
    | false =>
      obtain ⟨q1, q2⟩ := setF_set l .nil List.Pairwise.nil
      simp only [cond_false]
      have q1' : rsetF [] l = (setF .nil l).map asL := q1
      rw [q1']
      cases hs : setF Tr.nil l with
      | none => exact ⟨rfl, ht⟩
      | some t' => exact ⟨rfl, q2 t' hs⟩
theorem rscan_filter (f g : ByteArray) : ∀ (l : List APair) (out : List AOp), rscanF (l.map opOf) f g out = out ++ (l.filter (inR f g)).map opOf
  | [], out => by simp [rscanF]
  | p :: r, out => by
    have e : (bif !(ltS p.key f) then (bif eqS g ⟨#[]⟩ then true else ltS p.key g) else false) = inR f g p := by
      unfold inR
      cases ltS p.key f <;> cases eqS g ⟨#[]⟩ <;> rfl
    simp only [List.map_cons, rscanF, List.filter_cons]
    rw [show (opOf p).key = p.key from rfl, e]
    cases inR f g p with
    | true => simp only [cond_true, if_true]; rw [rscan_filter f g r]; simp
    | false => simp only [cond_false, Bool.false_eq_true, if_false]; exact rscan_filter f g r out
theorem rscan_scan {t : Tr} (ht : Srt (Tr.toL t)) (f g : ByteArray) : rscanF (asL t) f g [] = scanM t f g := by
  rw [scanM_eq t f g ht, rscan_filter]; rfl
theorem ltS_nil (x : ByteArray) : ltS x ⟨#[]⟩ = false := by
  unfold ltS ltL
  cases x.data.toList <;> rfl
theorem scan_all {t : Tr} (ht : Srt (Tr.toL t)) : scanM t ⟨#[]⟩ ⟨#[]⟩ = asL t := by
  rw [scanM_eq t _ _ ht]
  have : (Tr.toL t).filter (inR ⟨#[]⟩ ⟨#[]⟩) = Tr.toL t := List.filter_eq_self.2 fun x _ => by simp [inR, ltS_nil, eqS_self]
  rw [this]
end Go.Proofs.Ytjbiaoajmdbigaa
