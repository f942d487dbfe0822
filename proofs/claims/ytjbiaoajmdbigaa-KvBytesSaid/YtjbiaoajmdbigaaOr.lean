/- Operations on unlike keys lead to the same in any order, and one by one. -/
import Derived.Test.YtjbiaoajmdbigaaRg
set_option linter.unusedVariables false
set_option linter.unusedSimpArgs false
namespace Go.Proofs.Ytjbiaoajmdbigaa
open Go Go.E

/-! ### Lists by what their keys have -/
theorem getL_head {p : APair} {r : List APair} : getL p.key (p :: r) = some p.val := by simp [getL, eqS_self]
theorem srt_ext : ∀ {a b : List APair}, Srt a → Srt b → (∀ q, getL q a = getL q b) → a = b
  | [], [], _, _, _ => rfl
  | [], p :: r, _, _, h => by have := h p.key; rw [getL_head] at this; cases this
  | p :: r, [], _, _, h => by have := h p.key; rw [getL_head] at this; cases this
  | p :: a, q :: b, ha, hb, h => by
    obtain ⟨h1, h2⟩ := List.pairwise_cons.1 ha
    obtain ⟨h3, h4⟩ := List.pairwise_cons.1 hb
    have below : ∀ {k : ByteArray} {x : APair} {l : List APair}, ltS k x.key = true → (∀ y ∈ l, Lt x y) → getL k (x :: l) = none := fun hk hl => by
      refine Tr.getL_none fun y hy => ?_
      rcases List.mem_cons.1 hy with rfl | hy
      · exact ltS_ne2 hk
      · exact ltS_ne2 (ltS_trans hk (hl y hy))
    have hk : p.key = q.key := by
      cases c1 : ltS p.key q.key with
      | true => have := h p.key; rw [getL_head, below c1 h3] at this; cases this
      | false =>
        cases c2 : ltS q.key p.key with
        | true => have := h q.key; rw [getL_head, below c2 h1] at this; cases this
        | false => exact ltS_tri c1 c2
    have hv : p.val = q.val := by
      have := h p.key
      rw [getL_head, hk, getL_head] at this
      exact Option.some.inj this
    have hpq : p = q := by obtain ⟨pk, pv⟩ := p; obtain ⟨qk, qv⟩ := q; simp only at hk hv; rw [hk, hv]
    subst hpq
    congr 1
    refine srt_ext h2 h4 fun k => ?_
    have := h k
    simp only [getL] at this
    cases c : eqS p.key k with
    | true =>
      have e := eqS_true c
      subst e
      rw [Tr.getL_none fun x hx => ltS_ne2 (h1 x hx), Tr.getL_none fun x hx => ltS_ne2 (h3 x hx)]
    | false => rw [c] at this; exact this

/-! ### Operations on unlike keys -/
def Unlike (ops : List AOp) : Prop := ops.Pairwise fun a b => eqS a.key b.key = false
def okOp (o : AOp) : Prop := (keyE o.key != 0) = false ∧ badV o = false
theorem rightF_iff : ∀ (ops : List AOp) (had : List ByteArray), rightF ops had = 0 ↔ (∀ o ∈ ops, okOp o ∧ hasK had o.key = false) ∧ Unlike ops
  | [], had => by simp [rightF, Unlike]
  | o :: r, had => by
    simp only [rightF, Unlike, List.pairwise_cons, List.mem_cons, forall_eq_or_imp]
    cases c1 : (keyE o.key != 0) with
    | true => simp [okOp, c1]
    | false =>
      cases c2 : badV o with
      | true => simp [okOp, c2]
      | false =>
        cases c3 : hasK had o.key with
        | true => simp
        | false =>
          simp only [cond_false, rightF_iff r, okOp, c1, c2, Unlike]
          constructor
          · rintro ⟨h1, h2⟩
            refine ⟨⟨by simp, fun x hx => ?_⟩, fun x hx => ?_, h2⟩
            · have := h1 x hx
              rw [hasK_snoc, Bool.or_eq_false_iff] at this
              exact ⟨this.1, this.2.1⟩
            · have := h1 x hx
              rw [hasK_snoc, Bool.or_eq_false_iff] at this
              exact this.2.2
          · rintro ⟨⟨_, h1⟩, h2, h3⟩
            refine ⟨fun x hx => ?_, h3⟩
            rw [hasK_snoc, Bool.or_eq_false_iff]
            exact ⟨(h1 x hx).1, (h1 x hx).2, h2 x hx⟩
theorem unlike_perm {a b : List AOp} (h : a.Perm b) : Unlike a ↔ Unlike b := h.pairwise_iff fun {x y} e => by rw [eqS_comm]; exact e
theorem right_perm {a b : List AOp} (h : a.Perm b) : rightF a [] = 0 ↔ rightF b [] = 0 := by
  rw [rightF_iff, rightF_iff, unlike_perm h]
  simp only [h.mem_iff]
def foldO (l : List APair) (ops : List AOp) : List APair := ops.foldl putO l
theorem foldO_srt : ∀ (ops : List AOp) {l : List APair}, Srt l → Srt (foldO l ops)
  | [], _, h => h
  | o :: r, _, h => foldO_srt r (putO_srt o h)
def eff (o : AOp) : Option ByteArray := bif o.has then some o.val else none
theorem getL_fold : ∀ (ops : List AOp) {l : List APair}, Srt l → Unlike ops → ∀ q, getL q (foldO l ops) = match ops.find? (fun o => eqS o.key q) with | some o => eff o | none => getL q l
  | [], _, _, _, _ => rfl
  | o :: r, l, h, hu, q => by
    obtain ⟨h1, h2⟩ := List.pairwise_cons.1 hu
    have ih := getL_fold r (putO_srt o h) h2 q
    show getL q (foldO (putO l o) r) = _
    rw [ih, getL_putO o q h, List.find?_cons]
    cases c : eqS o.key q with
    | true =>
      have e := eqS_true c
      have hn : r.find? (fun x => eqS x.key q) = none := List.find?_eq_none.2 fun x hx => by
        have := h1 x hx
        rw [← e, eqS_comm, this]; simp
      rw [hn]; rfl
    | false => simp
theorem find_perm {a b : List AOp} (h : a.Perm b) (hu : Unlike a) (q : ByteArray) : a.find? (fun o => eqS o.key q) = b.find? (fun o => eqS o.key q) := by
  have key : ∀ {x y : List AOp}, x.Perm y → Unlike y → ∀ o, x.find? (fun o => eqS o.key q) = some o → y.find? (fun o => eqS o.key q) = some o := fun {x y} hp hy o ho => by
    have hm := hp.mem_iff.1 (List.mem_of_find?_eq_some ho)
    have hk := List.find?_some ho
    cases e : y.find? (fun o => eqS o.key q) with
    | none =>
      have := List.find?_eq_none.1 e o hm
      exact absurd hk this
    | some o' =>
      have hm' := List.mem_of_find?_eq_some e
      have hk' := List.find?_some e
      congr 1
      have e1 := eqS_true hk
      have e2 := eqS_true hk'
      apply Classical.byContradiction
      intro hne
      have : ∀ (l : List AOp), Unlike l → o ∈ l → o' ∈ l → False := by
        intro l
        induction l with
        | nil => intro _ h; cases h
        | cons z r ih =>
          intro hl h1 h2
          obtain ⟨g1, g2⟩ := List.pairwise_cons.1 hl
          rcases List.mem_cons.1 h1 with c1 | c1
          · rcases List.mem_cons.1 h2 with c2 | c2
            · exact hne (c2.trans c1.symm)
            · have := g1 o' c2; rw [← c1, e1, e2, eqS_self] at this; cases this
          · rcases List.mem_cons.1 h2 with c2 | c2
            · have := g1 o c1; rw [← c2, e1, e2, eqS_self] at this; cases this
            · exact ih g2 c1 c2
      exact this y hy hm hm'
  cases e : a.find? (fun o => eqS o.key q) with
  | some o => exact (key h ((unlike_perm h).1 hu) o e).symm
  | none =>
    cases e2 : b.find? (fun o => eqS o.key q) with
    | none => rfl
    | some o => rw [key h.symm hu o e2] at e; cases e
theorem fold_perm {a b : List AOp} (h : a.Perm b) (hu : Unlike a) {l : List APair} (hl : Srt l) : foldO l a = foldO l b :=
  srt_ext (foldO_srt a hl) (foldO_srt b hl) fun q => by rw [getL_fold a hl hu, getL_fold b hl ((unlike_perm h).1 hu), find_perm h hu]

/-! ### Plans -/
theorem planF_ev (t : Tr) (p : Int) : ∀ (ops : List AOp) (e : List AEv) (n : Int), (planF t p ops e n).1 = e ++ (ops.filter fun o => !(sameOp t o)).map (evOf t p)
  | [], e, n => by simp [planF]
  | o :: r, e, n => by
    simp only [planF, List.filter_cons]
    cases sameOp t o with
    | true => simp only [cond_true]; rw [planF_ev t p r]; simp
    | false => simp only [cond_false]; rw [planF_ev t p r]; simp
theorem toL_takeF : ∀ (e : List AEv) (t : Tr), Srt (Tr.toL t) → Tr.toL (takeF t e) = foldO (Tr.toL t) (e.map fun x => ⟨x.key, x.has, x.now⟩)
  | [], t, h => rfl
  | x :: r, t, h => by
    have e1 : putO (Tr.toL t) ⟨x.key, x.has, x.now⟩ = Tr.toL (bif x.has then t.putT x.key x.now else t.dropT x.key) := by
      unfold putO
      cases x.has with
      | true => exact (Tr.toL_putT t _ _ h).symm
      | false => exact (Tr.toL_dropT t _ h).symm
    have h2 : Srt (Tr.toL (bif x.has then t.putT x.key x.now else t.dropT x.key)) := e1 ▸ putO_srt _ h
    show Tr.toL (takeF _ r) = foldO (putO (Tr.toL t) _) (r.map _)
    rw [toL_takeF r _ h2, e1]
theorem find_filter {α : Type} (p q : α → Bool) : ∀ l : List α, (l.filter p).find? q = l.find? (fun a => p a && q a)
  | [] => rfl
  | a :: r => by
    simp only [List.filter_cons, List.find?_cons]
    cases hp : p a with
    | true => simp only [if_true, List.find?_cons, Bool.true_and, find_filter p q r]
    | false => simp only [Bool.false_eq_true, if_false, Bool.false_and, find_filter p q r]
theorem take_plan {t : Tr} (ht : Srt (Tr.toL t)) (p : Int) {ops : List AOp} (hu : Unlike ops) (hok : ∀ o ∈ ops, okOp o) (n : Int) : Tr.toL (takeF t (planF t p ops [] n).1) = foldO (Tr.toL t) ops := by
  rw [toL_takeF _ t ht, planF_ev, List.nil_append, List.map_map]
  have e : ((fun x : AEv => (⟨x.key, x.has, x.now⟩ : AOp)) ∘ evOf t p) = id := by funext o; rfl
  rw [e, List.map_id]
  have hu2 : Unlike (ops.filter fun o => !(sameOp t o)) := List.Pairwise.filter _ hu
  refine srt_ext (foldO_srt _ ht) (foldO_srt _ ht) fun q => ?_
  rw [getL_fold _ ht hu2, getL_fold _ ht hu, find_filter]
  cases c : ops.find? (fun o => eqS o.key q) with
  | none =>
    have : ops.find? (fun a => !(sameOp t a) && eqS a.key q) = none := List.find?_eq_none.2 fun x hx => by
      have := List.find?_eq_none.1 c x hx
      simp only [Bool.not_eq_true] at this
      simp [this]
    rw [this]
  | some o =>
    have hm := List.mem_of_find?_eq_some c
    have hk := eqS_true (List.find?_some (p := fun o : AOp => eqS o.key q) c)
    cases hs : sameOp t o with
    | false =>
      have : ops.find? (fun a => !(sameOp t a) && eqS a.key q) = some o := by
        obtain ⟨_, as, bs, h1, h2⟩ := List.find?_eq_some_iff_append.1 c
        exact List.find?_eq_some_iff_append.2 ⟨by simp [hs, hk, eqS_self], as, bs, h1, fun a ha => by have := h2 a ha; simp only [Bool.not_eq_true'] at this; simp [this]⟩
      rw [this]
    | true =>
      have : ops.find? (fun a => !(sameOp t a) && eqS a.key q) = none := List.find?_eq_none.2 fun x hx => by
        cases c2 : eqS x.key q with
        | false => simp
        | true =>
          obtain ⟨_, as, bs, h1, h2⟩ := List.find?_eq_some_iff_append.1 c
          have hxo : x = o := by
            rw [h1] at hx hu
            rcases List.mem_append.1 hx with hx | hx
            · have := h2 x hx; rw [c2] at this; cases this
            · rcases List.mem_cons.1 hx with hx | hx
              · exact hx
              · have := (List.pairwise_cons.1 (List.pairwise_append.1 hu).2.1).1 x hx
                rw [hk, eqS_comm, c2] at this; cases this
          rw [hxo, hs]; simp
      rw [this]
      simp only
      unfold sameOp at hs
      rw [Tr.getT_get t o.key ht, hk] at hs
      have hb := (hok o hm).2
      unfold badV at hb
      unfold eff
      cases hg : getL q (Tr.toL t) with
      | none =>
        rw [hg] at hs
        cases ho : o.has with
        | true => rw [ho] at hs; simp at hs
        | false => rfl
      | some v =>
        rw [hg] at hs
        cases ho : o.has with
        | false => rw [ho] at hs; simp at hs
        | true => rw [ho] at hs; have := eqS_true (by simpa using hs); rw [this]; rfl
theorem fold_len {t : Tr} (ht : Srt (Tr.toL t)) (p : Int) : ∀ (ops : List AOp) (had : List ByteArray) (e : List AEv) (l : List APair), rightF ops had = 0 → Srt l → (∀ q, hasK had q = false → getL q l = getL q (Tr.toL t)) →
    ((foldO l ops).length : Int) = (planF t p ops e l.length).2
  | [], had, e, l, _, hs, _ => rfl
  | o :: r, had, e, l, hr, hs, hg => by
    obtain ⟨h1, h2, h3⟩ := rightF_cons hr
    have hl := putO_length (t := t) o hs h1 (hg _ h2) ht
    have hg' : ∀ q, hasK (had ++ [o.key]) q = false → getL q (putO l o) = getL q (Tr.toL t) := fun q hq => by
      rw [hasK_snoc, Bool.or_eq_false_iff] at hq
      rw [getL_putO o q hs, hq.2]
      exact hg q hq.1
    show ((foldO (putO l o) r).length : Int) = _
    simp only [planF]
    cases c : sameOp t o with
    | true =>
      rw [c] at hl
      simp only [cond_true] at hl ⊢
      have := fold_len ht p r _ e (putO l o) h3 (putO_srt o hs) hg'
      rw [hl] at this
      exact this
    | false =>
      rw [c] at hl
      simp only [cond_false] at hl ⊢
      have := fold_len ht p r _ (e ++ [evOf t p o]) (putO l o) h3 (putO_srt o hs) hg'
      rw [hl] at this
      exact this
theorem right_code : ∀ (ops : List AOp) (had : List ByteArray), rightF ops had ≠ 7
  | [], had => by simp [rightF]
  | o :: r, had => by
    simp only [rightF]
    have := right_code r (had ++ [o.key])
    cases (keyE o.key != 0) <;> cases badV o <;> cases hasK had o.key <;> simp [this]
theorem check_ops {ops : List AOp} : checkE [] ops = 0 ↔ (1 ≤ ops.length ∧ ops.length ≤ 6) ∧ rightF ops [] = 0 := by
  unfold checkE
  cases c1 : ((ops.length : Int) == 0) with
  | true =>
    have : ops.length = 0 := by simpa using c1
    simp [this]
  | false =>
    have h0 : ops.length ≠ 0 := by simpa using c1
    cases c2 : decide ((ops.length : Int) > 6) with
    | true =>
      have := of_decide_eq_true c2
      simp only [cond_true, cond_false, List.length_nil]
      constructor
      · intro h; cases h
      · intro h; omega
    | false =>
      have := of_decide_eq_false c2
      have e : decide (((([] : List AOp).length : Nat) : Int) > 6) = false := by decide
      rw [e]
      have e2 : (rightF ([] : List AOp) [] != 0) = false := by decide
      simp only [cond_false, e2]
      constructor
      · intro h; exact ⟨⟨by omega, by omega⟩, h⟩
      · intro h; exact h.2
theorem check_code (ops : List AOp) : checkE [] ops ≠ 7 := by
  unfold checkE
  have e2 : (rightF ([] : List AOp) [] != 0) = false := by decide
  rw [e2]
  have := right_code ops []
  generalize (bif (bif (ops.length : Int) == 0 then true else decide ((ops.length : Int) > 6)) then true else decide ((([] : List AOp).length : Int) > 6)) = b
  cases b <;> simp [this]
/-- What a plan without conditions comes to. -/
theorem plan_ops {t : Tr} (ht : Srt (Tr.toL t)) (p : Int) (ops : List AOp) :
    ((planM t p [] ops).2 = 0 ↔ ((1 ≤ ops.length ∧ ops.length ≤ 6) ∧ rightF ops [] = 0) ∧ (foldO (Tr.toL t) ops).length ≤ 24) ∧
    ((planM t p [] ops).2 = 7 ↔ ((1 ≤ ops.length ∧ ops.length ≤ 6) ∧ rightF ops [] = 0) ∧ ¬ (foldO (Tr.toL t) ops).length ≤ 24) ∧
    ((planM t p [] ops).2 = 0 → Tr.toL (doT t p [] ops) = foldO (Tr.toL t) ops) := by
  rw [← check_ops]
  have hc7 := check_code ops
  have hdo := doT_take t p [] ops
  unfold planM at hdo ⊢
  cases c : (checkE [] ops != 0) with
  | true =>
    have hne : checkE [] ops ≠ 0 := by simpa using c
    simp [hne, hc7]
  | false =>
    have he : checkE [] ops = 0 := by simpa using c
    have hr := (check_ops.1 he).2
    have hlen := fold_len ht p ops [] [] (Tr.toL t) hr ht (fun _ _ => rfl)
    rw [Tr.toL_length] at hlen
    rw [c] at hdo
    obtain ⟨hall, hu⟩ := (rightF_iff ops []).1 hr
    have htk := take_plan ht p hu (fun o ho => (hall o ho).1) t.size
    simp only [cond_false, condsOK, cond_true] at hdo ⊢
    cases c2 : decide ((planF t p ops [] t.size).2 > 24) with
    | true =>
      have := of_decide_eq_true c2
      simp [he]; omega
    | false =>
      have := of_decide_eq_false c2
      rw [c2] at hdo
      simp only [cond_false, he] at hdo ⊢
      refine ⟨⟨fun _ => ⟨trivial, by omega⟩, fun _ => trivial⟩, ⟨fun h => (by cases h), fun h => by omega⟩, fun _ => ?_⟩
      rw [hdo]
      exact htk
theorem order_perm {t : Tr} (ht : Srt (Tr.toL t)) {a b : List AOp} (h : a.Perm b) (p : Int) :
    ((planM t p [] a).2 = 7 → (planM t p [] b).2 = 7) ∧ ((planM t p [] a).2 = 0 → (planM t p [] b).2 = 0 ∧ asL (doT t p [] a) = asL (doT t p [] b)) := by
  obtain ⟨a1, a2, a3⟩ := plan_ops ht p a
  obtain ⟨b1, b2, b3⟩ := plan_ops ht p b
  rw [b1, b2, a1, a2, right_perm h.symm, h.symm.length_eq]
  refine ⟨fun hh => ?_, fun hh => ?_⟩
  · obtain ⟨h1, h2⟩ := hh
    have hu := ((rightF_iff a []).1 h1.2).2
    rw [fold_perm h hu ht] at h2
    exact ⟨h1, h2⟩
  · obtain ⟨h1, h2⟩ := hh
    have hu := ((rightF_iff a []).1 h1.2).2
    have e := fold_perm h hu ht
    have h0 : (planM t p [] a).2 = 0 := a1.2 ⟨h1, h2⟩
    have hb0 : (planM t p [] b).2 = 0 := b1.2 ⟨⟨by rw [h.symm.length_eq]; exact h1.1, (right_perm h).1 h1.2⟩, by rw [← e]; exact h2⟩
    refine ⟨⟨h1, by rw [← e]; exact h2⟩, ?_⟩
    unfold asL
    rw [a3 h0, b3 hb0, e]

/-! ### One by one -/
def delF : Tr → List AOp → Tr
  | t, [] => t
  | t, o :: r => delF (bif !o.has then doT t 1 [] [o] else t) r
def addF : Tr → List AOp → Tr
  | t, [] => t
  | t, o :: r => addF (bif o.has then doT t 1 [] [o] else t) r
theorem delF_size : ∀ (ops : List AOp) (t : Tr), (delF t ops).size ≤ t.size + 6 * ops.length
  | [], t => by simp [delF]
  | o :: r, t => by
    have h1 := delF_size r (bif !o.has then doT t 1 [] [o] else t)
    have h2 := doT_size t 1 [] [o]
    simp only [delF, List.length_cons]
    cases ho : o.has <;> simp only [ho, Bool.not_true, Bool.not_false, cond_true, cond_false] at h1 ⊢ <;> omega
theorem one_op {t : Tr} (ht : Srt (Tr.toL t)) {o : AOp} (hok : okOp o) (hn : (putO (Tr.toL t) o).length ≤ 24) : Tr.toL (doT t 1 [] [o]) = putO (Tr.toL t) o := by
  obtain ⟨h1, _, h3⟩ := plan_ops ht 1 [o]
  refine h3 (h1.2 ⟨⟨by simp, (rightF_iff [o] []).2 ⟨fun x hx => ?_, List.pairwise_singleton _ _⟩⟩, hn⟩)
  rw [List.mem_singleton] at hx
  subst hx
  exact ⟨hok, rfl⟩
theorem drop_le (l : List APair) (o : AOp) (h : o.has = false) : (putO l o).length ≤ l.length := by
  unfold putO
  rw [h]
  exact List.length_filter_le _ _
theorem put_ge {l : List APair} (hs : Srt l) (o : AOp) (h : o.has = true) : l.length ≤ (putO l o).length := by
  unfold putO
  rw [h]
  have := putL_length o.key o.val l hs
  simp only [cond_true]
  omega
theorem del_fold : ∀ (ops : List AOp) (t : Tr), Srt (Tr.toL t) → (∀ o ∈ ops, okOp o) → t.size ≤ 24 → Tr.toL (delF t ops) = foldO (Tr.toL t) (ops.filter fun o => !o.has) ∧ (delF t ops).size ≤ 24
  | [], t, _, _, h => ⟨rfl, h⟩
  | o :: r, t, ht, hok, h => by
    simp only [delF, List.filter_cons]
    cases ho : o.has with
    | true => simpa using del_fold r t ht (fun x hx => hok x (List.mem_cons_of_mem _ hx)) h
    | false =>
      have hl := drop_le (Tr.toL t) o ho
      rw [Tr.toL_length] at hl
      have e := one_op ht (hok o List.mem_cons_self) (by omega)
      have hs : Srt (Tr.toL (doT t 1 [] [o])) := e ▸ putO_srt o ht
      have hsz : (doT t 1 [] [o]).size ≤ 24 := by rw [← Tr.toL_length, e]; omega
      obtain ⟨q1, q2⟩ := del_fold r _ hs (fun x hx => hok x (List.mem_cons_of_mem _ hx)) hsz
      simp only [Bool.not_false, cond_true, if_true]
      rw [e] at q1
      exact ⟨q1, q2⟩
theorem fold_ge : ∀ (ops : List AOp) {l : List APair}, Srt l → (∀ o ∈ ops, o.has = true) → l.length ≤ (foldO l ops).length
  | [], _, _, _ => Nat.le_refl _
  | o :: r, l, h, hh => Nat.le_trans (put_ge h o (hh o List.mem_cons_self)) (fold_ge r (putO_srt o h) fun x hx => hh x (List.mem_cons_of_mem _ hx))
theorem add_fold : ∀ (ops : List AOp) (t : Tr), Srt (Tr.toL t) → (∀ o ∈ ops, okOp o) → (foldO (Tr.toL t) (ops.filter fun o => o.has)).length ≤ 24 → Tr.toL (addF t ops) = foldO (Tr.toL t) (ops.filter fun o => o.has)
  | [], t, _, _, _ => rfl
  | o :: r, t, ht, hok, h => by
    simp only [addF, List.filter_cons] at h ⊢
    cases ho : o.has with
    | false => rw [ho] at h; simpa using add_fold r t ht (fun x hx => hok x (List.mem_cons_of_mem _ hx)) (by simpa using h)
    | true =>
      rw [ho] at h
      simp only [if_true, cond_true] at h ⊢
      have hge := fold_ge (r.filter fun o => o.has) (putO_srt o ht) fun x hx => (List.mem_filter.1 hx).2
      have h' : (foldO (putO (Tr.toL t) o) (r.filter fun o => o.has)).length ≤ 24 := h
      have e := one_op ht (hok o List.mem_cons_self) (by omega)
      have hs : Srt (Tr.toL (doT t 1 [] [o])) := e ▸ putO_srt o ht
      have := add_fold r _ hs (fun x hx => hok x (List.mem_cons_of_mem _ hx)) (by rw [e]; exact h')
      rw [e] at this
      exact this
theorem order_one {t : Tr} (ht : Srt (Tr.toL t)) (hsz : t.size ≤ 24) {ops : List AOp} (h0 : (planM t 1 [] ops).2 = 0) : asL (doT t 1 [] ops) = asL (addF (delF t ops) ops) := by
  obtain ⟨h1, _, h3⟩ := plan_ops ht 1 ops
  obtain ⟨h4, h5⟩ := h1.1 h0
  obtain ⟨hall, hu⟩ := (rightF_iff ops []).1 h4.2
  have hok : ∀ o ∈ ops, okOp o := fun o ho => (hall o ho).1
  obtain ⟨q1, _⟩ := del_fold ops t ht hok hsz
  have hp : ((ops.filter fun o => !o.has) ++ ops.filter fun o => o.has).Perm ops := (List.perm_append_comm).trans (List.filter_append_perm (fun o => o.has) ops)
  have hu2 : Unlike ((ops.filter fun o => !o.has) ++ ops.filter fun o => o.has) := (unlike_perm hp).2 hu
  have e : foldO (Tr.toL (delF t ops)) (ops.filter fun o => o.has) = foldO (Tr.toL t) ops := by
    rw [q1, ← fold_perm hp hu2 ht]
    simp [foldO, List.foldl_append]
  have hs : Srt (Tr.toL (delF t ops)) := q1 ▸ foldO_srt _ ht
  unfold asL
  rw [h3 h0, add_fold ops _ hs hok (by rw [e]; exact h5), e]
theorem doT_24 {t : Tr} (ht : Srt (Tr.toL t)) (p : Int) (c o : List AOp) (h : t.size ≤ 24) : (doT t p c o).size ≤ 24 := by
  have hdo := doT_take t p c o
  unfold planM at hdo
  cases hc : (checkE c o != 0) with
  | true => rw [hc] at hdo; rw [hdo]; exact h
  | false =>
    rw [hc] at hdo
    have hr := checkE_right hc
    have hlen := fold_len ht p o [] [] (Tr.toL t) hr ht (fun _ _ => rfl)
    rw [Tr.toL_length] at hlen
    obtain ⟨hall, hu⟩ := (rightF_iff o []).1 hr
    have htk := take_plan ht p hu (fun x hx => (hall x hx).1) t.size
    cases hcc : condsOK t c with
    | false => rw [hcc] at hdo; simp only [cond_false] at hdo; rw [hdo]; exact h
    | true =>
      rw [hcc] at hdo
      simp only [cond_true, cond_false] at hdo
      cases c2 : decide ((planF t p o [] t.size).2 > 24) with
      | true => rw [c2] at hdo; rw [hdo]; exact h
      | false =>
        rw [c2] at hdo
        have := of_decide_eq_false c2
        rw [hdo]
        simp only [cond_false]
        rw [← Tr.toL_length, htk]
        omega
theorem madeF_24 : ∀ (l : List ADo) (t : Tr) (a : List AEv), Srt (Tr.toL t) → t.size ≤ 24 → (madeF l t a).1.size ≤ 24
  | [], t, a, _, h => h
  | d :: r, t, a, hs, h => by
    simp only [madeF]
    cases decide (opN d.op < 4) with
    | true => exact madeF_24 r _ _ (doT_srt _ _ _ hs) (doT_24 hs _ _ _ h)
    | false => exact madeF_24 r _ _ hs h
theorem made_24 (l : List ADo) : (madeM l).1.size ≤ 24 := madeF_24 l .nil [] List.Pairwise.nil (Nat.zero_le _)
theorem order_err {t : Tr} (ht : Srt (Tr.toL t)) {a b : List AOp} (h : a.Perm b) (p : Int) (h7 : ((planM t p [] a).2 != 7) = false) : ((planM t p [] a).2 == (planM t p [] b).2) = true := by
  have h7' : (planM t p [] a).2 = 7 := by simpa using h7
  rw [h7', (order_perm ht h p).1 h7']; rfl

/-! ### Two elements exchanged -/
def modN (a b : Nat) : Nat := a % b
theorem modN_lt {a b : Nat} (h : 0 < b) : modN a b < b := Nat.mod_lt _ h
theorem modN_eq (a b : Nat) : Int.tmod (a : Int) (b : Int) = (modN a b : Int) := rfl
theorem swap_perm {α : Type} {m : List α} {p q : Nat} {a b : α} (ha : m[p]? = some a) (hb : m[q]? = some b) : ((m.set p b).set q a).Perm m := by
  obtain ⟨hp, rfl⟩ := List.getElem?_eq_some_iff.1 ha
  obtain ⟨hq, rfl⟩ := List.getElem?_eq_some_iff.1 hb
  exact List.set_set_perm hp hq
theorem plan_six {t : Tr} {ops : List AOp} (h : ((planM t 1 [] ops).2 != 0) = false) : ops.length ≤ 6 := by
  unfold planM at h
  cases c : (checkE [] ops != 0) with
  | true => rw [c] at h; simp only [cond_true] at h; rw [c] at h; cases h
  | false => exact checkE_len c
theorem order_same {t : Tr} (ht : Srt (Tr.toL t)) {a b : List AOp} (h : a.Perm b) (h0 : ((planM t 1 [] a).2 != 0) = false) : (planM t 1 [] b).2 = 0 ∧ asL (doT t 1 [] a) = asL (doT t 1 [] b) :=
  (order_perm ht h 1).2 (by simpa using h0)
theorem order_seq {t : Tr} (ht : Srt (Tr.toL t)) (hsz : t.size ≤ 24) {ops : List AOp} (h0 : ((planM t 1 [] ops).2 != 0) = false) {d : Tr} (hd : d = delF t ops) {e : Tr} (he : e = addF d ops) : asL (doT t 1 [] ops) = asL e := by
  subst hd; subst he
  exact order_one ht hsz (by simpa using h0)
theorem fits_sl_ints {e : DV} (h : Fits (.sl [.i .i64]) e) : ∃ l : List Int, e = .sl (l.map encI) := by
  cases h with
  | sl _ _ r =>
    obtain ⟨l, rfl⟩ := r.list (enc := encI) fun e he => by
      obtain _ | ⟨⟨⟩, ⟨⟩⟩ := he
      exact ⟨_, rfl⟩
    exact ⟨l, rfl⟩
end Go.Proofs.Ytjbiaoajmdbigaa
