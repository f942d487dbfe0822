/- A logic over abstract states. Part 10: a region that leaves its order open comes to what the order of the text comes to. -/
import Derived.Test.YtjbiaoajmdbigaaEng9
set_option linter.unusedVariables false
set_option linter.unusedSimpArgs false
namespace Go.E
open Go

theorem runL_td {P : Program} {T : Tab} {D : List Nat} {ops : List Oper} {hints : List (Nat × Hint)} {S0 : St} {isF : List Info} : ∀ {r : List Oper} {i : Nat} {S S' : St} {is : List Info}, runL P T D ops hints i r S = some (S', is) →
    (∀ k, r[k]? = ops[i + k]?) → (∀ k, is[k]? = isF[i + k]?) → S = td ops isF (fun _ => true) S0 i →
    S' = td ops isF (fun _ => true) S0 (i + r.length) ∧ is.length = r.length ∧
      ∀ k o, r[k]? = some o → ∃ f, isF[i + k]? = some f ∧ runOne P T D ops hints (i + k) o (td ops isF (fun _ => true) S0 (i + k)) = some f ∧ okInfo (td ops isF (fun _ => true) S0 (i + k)) o.dst f = true
  | [], i, S, S', is, h, _, _, hS => by
    simp only [runL, Option.some.injEq, Prod.mk.injEq] at h
    obtain ⟨rfl, rfl⟩ := h
    exact ⟨hS, rfl, fun k o e => by simp at e⟩
  | o :: r, i, S, S', is, h, hr, hi, hS => by
    simp only [runL] at h
    split at h
    · rename_i f h0
      cases hok : okInfo S o.dst f with
      | false => simp [hok] at h
      | true =>
        simp only [hok, cond_true] at h
        split at h
        · rename_i S2 is2 h2
          simp only [Option.some.injEq, Prod.mk.injEq] at h
          obtain ⟨rfl, rfl⟩ := h
          have ho : ops[i]? = some o := by simpa using (hr 0).symm
          have hf : isF[i]? = some f := by simpa using (hi 0).symm
          obtain ⟨q1, q2, q3⟩ := runL_td (S0 := S0) h2 (fun k => by have := hr (k + 1); simpa [Nat.add_assoc, Nat.add_comm 1] using this) (fun k => by have := hi (k + 1); simpa [Nat.add_assoc, Nat.add_comm 1] using this) (by simp [td, ho, hf, hS])
          refine ⟨by rw [q1]; congr 1; simp; omega, by simp [q2], fun k o' e => ?_⟩
          cases k with
          | zero =>
            simp only [List.getElem?_cons_zero, Option.some.injEq] at e
            subst e
            rw [Nat.add_zero, ← hS]
            exact ⟨f, hf, h0, hok⟩
          | succ k =>
            have := q3 k o' (by simpa using e)
            rwa [show i + 1 + k = i + (k + 1) by omega] at this
        · cases h
    · cases h

theorem wantedA_congr {S T : St} {ops : List Oper} {o : Oper} (h : ∀ d ∈ reads ops o, look S.slots d = look T.slots d) : wantedA S ops o = wantedA T ops o := by
  unfold wantedA
  cases hg : o.guard with
  | none => rfl
  | some g =>
    obtain ⟨j, want⟩ := g
    dsimp only
    cases hj : ops[j]? with
    | none => rfl
    | some oj =>
      dsimp only
      cases hd : oj.dst with
      | none => rfl
      | some d =>
        dsimp only
        rw [h d (by simp [reads, hg, hj, hd])]
theorem opvs_congr {S T : St} : ∀ {l : List Operand}, (∀ t, .tmp t ∈ l → look S.slots t = look T.slots t) → opvs S l = opvs T l
  | [], _ => rfl
  | x :: l, h => by
    have h1 : opv S x = opv T x := by
      cases x with
      | tmp t => simp only [opv]; rw [h t (by simp)]
      | _ => rfl
    simp only [opvs, h1, opvs_congr (l := l) fun t ht => h t (by simp [ht])]

theorem mem_reads {ops : List Oper} {o : Oper} {t : Nat} (h : .tmp t ∈ o.op.operands.toList) : t ∈ reads ops o := by
  unfold reads
  exact List.mem_append_left _ (List.mem_filterMap.2 ⟨.tmp t, h, rfl⟩)

theorem any_put {α : Type} (p : Nat × α → Bool) (l : List (Nat × α)) (i : Nat) : (cut l i).any p = true → l.any p = true := by
  induction l with
  | nil => exact id
  | cons a r ih =>
    obtain ⟨j, x⟩ := a
    intro h
    by_cases c : j = i
    · subst c
      simp only [cut, Nat.beq_refl, cond_true] at h
      simp [ih h]
    · simp only [cut, beq_false c, cond_false, List.any_cons, Bool.or_eq_true] at h ⊢
      exact h.imp id ih
theorem any_cuts (p : Nat × LObj → Bool) : ∀ (m l : Objs), (cuts l m).any p = true → l.any p = true
  | [], _, h => h
  | (k, _) :: m, l, h => any_put p l k (any_cuts p m (cut l k) h)

theorem apply_has {S : St} {d : Option Nat} {f : Info} {h : Nat} (h1 : S.has h = false) (h2 : f.has h = false) : (S.apply d f).has h = false := by
  simp only [St.has, Bool.or_eq_false_iff] at h1 ⊢
  refine ⟨by rw [apply_old]; exact h1.1, ?_⟩
  replace h1 := h1.2
  have hcut : ∀ i, (cut S.slots i).any (fun p => p.2.has h) = false := fun i => by
    cases e : (cut S.slots i).any (fun p => p.2.has h) with
    | false => rfl
    | true => have := any_put _ _ _ e; rw [h1.1] at this; cases this
  have hput : ∀ res : SV, res.has h = false → (putD S.slots d res).any (fun p => p.2.has h) = false := fun res hr => by
    cases d with
    | none => exact h1.1
    | some d => simp only [putD, put, List.any_cons, Bool.or_eq_false_iff]; exact ⟨hr, hcut d⟩
  cases f with
  | skip =>
    refine ⟨?_, h1.2⟩
    cases d with
    | none => exact h1.1
    | some d => exact hcut d
  | read vals l res => exact ⟨hput res h2, h1.2⟩
  | run vals l res l' =>
    simp only [Info.has, Bool.or_eq_false_iff] at h2
    refine ⟨hput res h2.1, ?_⟩
    simp only [St.apply, St.step, app, List.any_append, Bool.or_eq_false_iff]
    refine ⟨h2.2, ?_⟩
    cases e : (cuts S.objs l).any (fun p => Nat.beq p.1 h || p.2.has h) with
    | false => rfl
    | true => have := any_cuts _ _ _ e; rw [h1.2] at this; cases this

theorem td_has {ops : List Oper} {is : List Info} {S : St} {D : Nat → Bool} {h : Nat} (h1 : S.has h = false) : ∀ n, (∀ j f, j < n → D j = true → is[j]? = some f → f.has h = false) → (td ops is D S n).has h = false
  | 0, _ => h1
  | n + 1, h2 => by
    have ih := td_has (ops := ops) h1 n fun j f hj => h2 j f (by omega)
    simp only [td]
    split
    · rename_i o f ho hf
      split
      · rename_i hd
        exact apply_has ih (h2 n f (by omega) hd hf)
      · exact ih
    · exact ih

theorem touch_writes {f : Info} {h : Nat} (e : f.touch h ≠ none) : h ∈ f.writes := by
  cases f with
  | skip => exact absurd rfl e
  | read _ _ _ => exact absurd rfl e
  | run vals l res l' =>
    simp only [Info.touch] at e
    split at e
    · rename_i hh
      simp only [Info.writes, List.mem_append, List.mem_map]
      simp only [Bool.or_eq_true, Option.isSome_iff_exists] at hh
      rcases hh with ⟨x, hx⟩ | ⟨x, hx⟩
      · exact .inl ⟨_, look_mem hx, rfl⟩
      · exact .inr ⟨_, look_mem hx, rfl⟩
    · exact absurd rfl e

section
variable {P : Program} {T : Tab} (hT : TabOK P T) {Dt : List Nat} {ops : List Oper} {hints : List (Nat × Hint)} {S0 S' : St} {is : List Info}
  (hrun : runL P T Dt ops hints 0 ops S0 = some (S', is)) (hgood : ∀ k o inf x, ops[k]? = some o → is[k]? = some inf → look hints k = some x → inf.good P o) (hopen : openOK S0 ops is = true)
include hT hrun hgood hopen

/-- One operation that may come up, in whatever order those ahead of it came. -/
theorem open_step {G : Gh} {Q : Exit → Act → World → Prop} {D : Nat → Bool} (hc : Closed ops D) {i : Nat} {o : Oper} (hi : ops[i]? = some o) (hD : D i = false) (hw : Waits ops D i) {a : Act} {w : World} (hR : Rel G (td ops is D S0 ops.length) a w)
    {K : Act → World → Prop} (hK : ∀ a' w', Rel G (td ops is (fun j => D j || decide (j = i)) S0 ops.length) a' w' → K a' w') : wpOp P ops.toArray Q i K a w := by
  obtain ⟨e1, e2, e3⟩ := runL_td (isF := is) (S0 := S0) hrun (fun k => by simp) (fun k => by simp) rfl
  simp only [Nat.zero_add] at e1 e2 e3
  obtain ⟨f, hf, hone, hok⟩ := e3 i o hi
  have hilt : i < ops.length := (List.getElem?_eq_some_iff.1 hi).1
  obtain ⟨g1, g2, g3⟩ := runOne_good hT hone (fun x hx => hgood i o f x hi hf hx)
  simp only [openOK, Bool.and_eq_true] at hopen
  have hms := masks_ok (ops := ops) ops [] (fun k => by simp) hopen.1 (fun i k hk => by simp at hk)
  obtain ⟨hrow, hnews⟩ := allOK_spec hopen.2 i o f hi hf
  simp only [Nat.zero_add] at hrow
  generalize hM : masks [] ops = ms at hms hrow
  -- another operation and this one: what is asked of the two
  have hpair : ∀ j oj fj, ops[j]? = some oj → is[j]? = some fj → j ≠ i → pairOK ops ms i j o oj f fj = true := fun j oj fj h1 h2 hne => by
    have := rowOK_spec hrow j oj fj h1 h2 (by omega)
    simpa using this
  -- whoever is bound to this one stands on one side of it, in D as in the text
  have hside : ∀ j, ((ms.getD i 0).testBit j || (ms.getD j 0).testBit i) = true → D j = decide (j < i) := fun j h => by
    simp only [Bool.or_eq_true] at h
    rcases h with h | h
    · obtain ⟨q1, q2⟩ := hms i j h
      rw [q2 D hc hw]; exact (decide_eq_true q1).symm
    · obtain ⟨q1, q2⟩ := hms j i h
      cases e : D j with
      | false => exact (decide_eq_false (by omega)).symm
      | true => have := q2 D hc (hc j e); rw [hD] at this; cases this
  have hisl : ∀ j, (∃ o, ops[j]? = some o) ↔ ∃ f, is[j]? = some f := fun j => by
    constructor
    · rintro ⟨o, h⟩
      have := (List.getElem?_eq_some_iff.1 h).1
      exact ⟨is[j]'(by omega), List.getElem?_eq_getElem _⟩
    · rintro ⟨o, h⟩
      have := (List.getElem?_eq_some_iff.1 h).1
      exact ⟨ops[j]'(by omega), List.getElem?_eq_getElem _⟩
  -- slots that are looked at
  have hslot : ∀ s ∈ reads ops o, look (td ops is D S0 ops.length).slots s = look (td ops is (fun _ => true) S0 i).slots s := fun s hs => by
    rw [td_slot, td_slot, ← lw_below ops.length (by omega)]
    refine lw_congr _ fun j hj ht => ?_
    unfold tS at ht
    split at ht
    · rename_i oj fj h1 h2
      split at ht
      · rename_i hd
        by_cases c : j = i
        · subst c; simp [hD]
        · have := hpair j oj fj h1 h2 c
          simp only [pairOK, hd, Bool.and_eq_true] at this
          have h3 := this.1.2
          rw [Bool.or_eq_true] at h3
          rcases h3 with h3 | h3
          · exact hside j h3
          · simp [memN_iff.2 hs] at h3
      · exact absurd rfl ht
    · exact absurd rfl ht
  have hobj : ∀ h ∈ f.looks, look (td ops is D S0 ops.length).objs h = look (td ops is (fun _ => true) S0 i).objs h := fun h hh => by
    rw [td_obj, td_obj, ← lw_below ops.length (by omega)]
    refine lw_congr _ fun j hj ht => ?_
    unfold tO at ht
    split at ht
    · rename_i oj fj h1 h2
      by_cases c : j = i
      · subst c; simp [hD]
      · have := hpair j oj fj h1 h2 c
        simp only [pairOK, Bool.and_eq_true] at this
        have h3 := this.1.2
        rw [Bool.or_eq_true] at h3
        rcases h3 with h3 | h3
        · exact hside j h3
        · rw [Bool.and_eq_true, List.all_eq_true] at h3
          have := h3.2 h (touch_writes ht)
          simp [memN_iff.2 hh] at this
    · exact absurd rfl ht
  have hvals : opvs (td ops is D S0 ops.length) o.op.operands.toList = opvs (td ops is (fun _ => true) S0 i) o.op.operands.toList := opvs_congr fun t ht => hslot t (mem_reads ht)
  have hfit : f.fits (td ops is D S0 ops.length) o := by
    cases f with
    | skip => trivial
    | read vals l res => exact ⟨g2.1.trans hvals.symm, fun h x e => (hobj h (by simp only [Info.looks, List.mem_map]; exact ⟨_, look_mem e, rfl⟩)).trans (g2.2 h x e)⟩
    | run vals l res l' => exact ⟨g2.1.trans hvals.symm, fun h x e => (hobj h (by simp only [Info.looks, List.mem_append, List.mem_map]; exact .inl ⟨_, look_mem e, rfl⟩)).trans (g2.2 h x e)⟩
  have hwa : wantedA (td ops is D S0 ops.length) ops o = wantedA (td ops is (fun _ => true) S0 i) ops o := wantedA_congr hslot
  have hdst : inDst (td ops is D S0 ops.length) o.dst = inDst (td ops is (fun _ => true) S0 i) o.dst := by simp only [inDst, td_n]
  have hok' : okInfo (td ops is D S0 ops.length) o.dst f = true := by
    cases f with
    | skip => exact hdst.trans hok
    | read vals l res => exact hdst.trans hok
    | run vals l res l' =>
      simp only [okInfo, Bool.and_eq_true] at hok ⊢
      refine ⟨hdst.trans hok.1, ?_⟩
      unfold freshIn
      rw [List.all_eq_true]
      intro p hp
      cases e : (look l p.1).isSome with
      | true => rfl
      | false =>
        simp only [Bool.false_or, Bool.not_eq_true']
        have hn : p.1 ∈ (Info.run vals l res l').news := by
          simp only [Info.news, List.mem_filter, List.mem_map]
          exact ⟨⟨p, hp, rfl⟩, by simp [e]⟩
        refine td_has (hnews _ hn) _ fun j fj hj hDj hfj => ?_
        obtain ⟨oj, hoj⟩ := (hisl j).2 ⟨fj, hfj⟩
        have hne : j ≠ i := fun c => by subst c; rw [hD] at hDj; cases hDj
        have := hpair j oj fj hoj hfj hne
        simp only [pairOK, Bool.and_eq_true] at this
        have h3 := this.2
        rw [Bool.or_eq_true] at h3
        rcases h3 with h3 | h3
        · have := (hms j i h3).2 D hc (hc j hDj)
          rw [hD] at this; cases this
        · rw [List.all_eq_true] at h3
          have := h3 p.1 hn
          simpa using this
  refine info_wp hi g1 hfit (by rw [hwa]; exact g3) hok' hR fun a' w' hR' => hK a' w' (hR'.like ⟨?_, ?_, fun s => ?_, fun h => ?_⟩)
  · rw [apply_n, td_n, td_n]
  · rw [apply_old, td_old, td_old]
  · rw [apply_slot, td_slot, td_slot]
    split
    · rename_i hd
      refine (lw_last (by simp) (i := i) (by simp [tS, hi, hf, hd]) _ hilt fun j h1 h2 _ => ?_).symm
      unfold tS
      split
      · rename_i oj fj h3 h4
        rw [if_neg]
        intro hd2
        have := hpair j oj fj h3 h4 (by omega)
        simp [pairOK, hd, hd2] at this
      · rfl
    · rename_i hd
      refine lw_congr _ fun j hj ht => ?_
      by_cases c : j = i
      · subst c
        exfalso
        apply ht
        simp [tS, hi, hf, hd]
      · simp [c]
  · rw [apply_obj, td_obj, td_obj]
    cases e : f.touch h with
    | some v =>
      refine (lw_last (by simp) (i := i) (by simp [tO, hi, hf, e]) _ hilt fun j h1 h2 hj => ?_).symm
      unfold tO
      split
      · rename_i oj fj h3 h4
        cases e2 : fj.touch h with
        | none => rfl
        | some v2 =>
          exfalso
          have := hpair j oj fj h3 h4 (by omega)
          simp only [pairOK, Bool.and_eq_true] at this
          have h5 := this.1.2
          rw [Bool.or_eq_true] at h5
          have hDj : D j = true := by
            have : ¬ j = i := by omega
            simpa [this] using hj
          rcases h5 with h5 | h5
          · have := hside j h5
            rw [hDj] at this
            simp at this
            omega
          · rw [Bool.and_eq_true, List.all_eq_true] at h5
            have h6 := h5.2 h (touch_writes (by rw [e2]; simp))
            have h7 : h ∈ f.looks := by
              have := touch_writes (f := f) (h := h) (by rw [e]; simp)
              cases f <;> first | exact this | cases this
            simp [memN_iff.2 h7] at h6
      · rfl
    | none =>
      refine lw_congr _ fun j hj ht => ?_
      by_cases c : j = i
      · subst c
        exfalso
        apply ht
        simp [tO, hi, hf, e]
      · simp [c]
end
end Go.E
