/- A logic over abstract states. Part 21: what is told of a function, under other names. -/
import Derived.Test.YtjbiaoajmdbigaaEng20
set_option linter.unusedVariables false
set_option linter.unusedSimpArgs false
namespace Go.E
open Go

theorem CV.sw_sw {a b : Nat} : ∀ y : CV, (y.sw a b).sw a b = y
  | .d _ => rfl
  | .loc h off => by simp [CV.sw, E.sw_sw]
  | .eloc h i off sz => by simp [CV.sw, E.sw_sw]
  | .own h => by simp [CV.sw, E.sw_sw]
  | .clo g caps => by simp [CV.sw, E.sw_sw, Function.comp_def]
theorem TV.sw_sw {a b : Nat} : ∀ y : TV, (y.sw a b).sw a b = y
  | .c y => by simp [TV.sw, CV.sw_sw]
  | .agg l => by simp [TV.sw, CV.sw_sw, Function.comp_def]
theorem SV.sw_sw {a b : Nat} : ∀ y : SV, (y.sw a b).sw a b = y
  | .t y => by simp [SV.sw, TV.sw_sw]
  | .tup l => by simp [SV.sw, TV.sw_sw, Function.comp_def]
  | .any => rfl
theorem LObj.sw_sw {a b : Nat} : ∀ y : LObj, (y.sw a b).sw a b = y
  | .cells t cs => by simp [LObj.sw, CV.sw_sw, Function.comp_def]
  | .arr .. => rfl
  | .it .. => rfl
  | .opq _ => rfl
theorem look_swO_eq {a b : Nat} : ∀ (l : Objs) (h : Nat), look (swO a b l) h = (look l (sw a b h)).map (LObj.sw a b)
  | [], h => rfl
  | (j, y) :: r, h => by
    by_cases c : sw a b j = h
    · subst c; simp [swO, look, E.sw_sw]
    · have c' : j ≠ sw a b h := fun e => c (by rw [e, E.sw_sw])
      simp only [swO, look, beq_false c, beq_false c', cond_false]
      exact look_swO_eq r h
theorem swO_swO {a b : Nat} : ∀ l : Objs, swO a b (swO a b l) = l
  | [] => rfl
  | (j, y) :: r => by simp [swO, E.sw_sw, LObj.sw_sw, swO_swO r]

theorem OKs.sw {F : Nat → Prop} {σ : Nat → Value} {X : Nat → Nat → Prop} {w : World} {l : Objs} {a b : Nat} (h : OKs F σ X w l) : OKs F (fun k => σ (E.sw a b k)) (fun k => X (E.sw a b k)) w (swO a b l) := by
  have key : ∀ k o, look (swO a b l) k = some o → ∃ y, look l (E.sw a b k) = some y ∧ o = y.sw a b := fun k o e => look_swO e
  refine ⟨fun k o e => ?_, fun k k' o o' e e' hne => ?_, fun k o e => ?_⟩
  · obtain ⟨y, h1, rfl⟩ := key k o e; exact ObjOK.sw (h.ok _ y h1)
  · obtain ⟨y, h1, rfl⟩ := key k o e
    obtain ⟨y', h2, rfl⟩ := key k' o' e'
    exact h.apart _ _ y y' h1 h2 fun c => hne (by have := congrArg (E.sw a b) c; simpa only [E.sw_sw] using this)
  · obtain ⟨y, h1, rfl⟩ := key k o e; exact h.live _ y h1

theorem Sat.sw {P : Program} {f : FuncId} {as : List SV} {l l' : Objs} {res : SV} (a b : Nat) (h : Sat P f as l res l') : Sat P f (as.map (SV.sw a b)) (swO a b l) (res.sw a b) (swO a b l') := by
  obtain ⟨h1, h2⟩ := h
  refine ⟨h1, fun F σ X w vs hn hv hok hF => ?_⟩
  refine Calls.mono (h2 F (fun k => σ (E.sw a b k)) (fun k => X (E.sw a b k)) w vs (by simpa using hn) (fun i hi => ?_) ?_ hF) fun e w' he => ?_
  · have := RepS.sw (a := a) (b := b) (hv i (by simpa using hi))
    simpa [SV.sw_sw] using this
  · have := OKs.sw (a := a) (b := b) hok
    rwa [swO_swO] at this
  · obtain ⟨v, rfl, F', σ', X', q1, q2, q3⟩ := he
    have n1 : ∀ (m : Objs) k, look (swO a b m) k = none ↔ look m (E.sw a b k) = none := fun m k => by rw [look_swO_eq]; cases look m (E.sw a b k) <;> simp
    refine ⟨v, rfl, F', fun k => σ' (E.sw a b k), fun k => X' (E.sw a b k), RepS.sw q1, OKs.sw q2, q3.os, q3.tape, q3.output, q3.size, fun k hk hx => q3.same k hk fun h o e => ?_, q3.frz, fun k hk => ?_, fun h o e k hk => ?_, fun h hh => ?_⟩
    · have := hx (E.sw a b h) (o.sw a b) (by rw [look_swO_eq, E.sw_sw, e]; rfl)
      exact this
    · rcases q3.new k hk with c | ⟨c, d⟩
      · exact .inl c
      · refine .inr ⟨c, d.imp id ?_⟩
        rintro ⟨h, o, e, hx⟩
        exact ⟨E.sw a b h, o.sw a b, by rw [look_swO_eq, E.sw_sw, e]; rfl, hx⟩
    · obtain ⟨y, e1, rfl⟩ := look_swO e
      refine (q3.foot _ y e1 k hk).imp id ?_
      rintro ⟨h', o', e', hx⟩
      exact ⟨E.sw a b h', o'.sw a b, by rw [look_swO_eq, E.sw_sw, e']; rfl, by simpa only [E.sw_sw] using hx⟩
    · have := q3.sig (E.sw a b h) (by rw [← n1, ne_eq, ← n1]; exact hh)
      simpa only [E.sw_sw] using this
/-- A nil slice where an array of one's own without elements is asked. -/
theorem Sat.nilOwn {P : Program} {f : FuncId} {as : List SV} {l l' : Objs} {res : SV} (i h0 e sz bytes : Nat) (h : Sat P f as ((h0, .arr e sz bytes []) :: l) res l') (as' : List SV) (ha : as' = as.set i (sc (.slice none 0 0)))
    (hc : (match as[i]? with | some (.t (.c (.own k))) => Nat.beq k h0 | _ => false) = true) (hf : (as'.any (SV.has h0) || (l.any fun p => Nat.beq p.1 h0 || p.2.has h0) || (l'.any fun p => Nat.beq p.1 h0 || p.2.has h0) || res.has h0) = false) : Sat P f as' l res l' := by
  obtain ⟨h1, h2⟩ := h
  simp only [Bool.or_eq_false_iff] at hf
  obtain ⟨⟨⟨f1, f2⟩, f3⟩, f4⟩ := hf
  have hci : ∃ hi : i < as.length, as[i] = cc (.own h0) := by
    split at hc
    · rename_i k hk
      obtain ⟨hi, e⟩ := List.getElem?_eq_some_iff.1 hk
      rw [beq_iff.1 hc] at e
      exact ⟨hi, e⟩
    · cases hc
  obtain ⟨hi, hai⟩ := hci
  have hob : ∀ {m : Objs}, (m.any fun p => Nat.beq p.1 h0 || p.2.has h0) = false → ∀ k o, look m k = some o → k ≠ h0 ∧ o.has h0 = false := fun hm k o e => by
    rw [List.any_eq_false] at hm
    have := hm _ (look_mem e)
    simp only [Bool.or_eq_true, not_or, Bool.not_eq_true] at this
    exact ⟨fun c => by subst c; simp at this, this.2⟩
  refine ⟨h1, fun F σ X w vs hn hv hok hF => ?_⟩
  have hlen : as'.length = as.length := by rw [ha]; simp
  have hσ : ∀ k, k ≠ h0 → (fun k => if k = h0 then Value.slice none 0 0 else σ k) k = σ k := fun k hk => if_neg hk
  have hl : ∀ k o, look ((h0, LObj.arr e sz bytes []) :: l) k = some o → (k = h0 ∧ o = .arr e sz bytes []) ∨ (k ≠ h0 ∧ look l k = some o) := fun k o e1 => by
    by_cases c : h0 = k
    · subst c; simp only [look, Nat.beq_refl, cond_true, Option.some.injEq] at e1; exact .inl ⟨rfl, e1.symm⟩
    · simp only [look, beq_false c, cond_false] at e1; exact .inr ⟨fun d => c d.symm, e1⟩
  have hl2 : ∀ k o, look l k = some o → look ((h0, LObj.arr e sz bytes []) :: l) k = some o := fun k o e1 => by
    simp only [look, beq_false (hob f2 k o e1).1.symm, cond_false]; exact e1
  refine Calls.mono (h2 F (fun k => if k = h0 then .slice none 0 0 else σ k) (fun k b => if k = h0 then False else X k b) w vs (hn.trans hlen) (fun j hj => ?_) ⟨fun k o e1 => ?_, fun k k' o o' e1 e2 hk b hb hb' => ?_, fun k o e1 b hb => ?_⟩ hF) fun ex w' he => ?_
  · have hj' : j < as'.length := by omega
    have := hv j hj'
    by_cases c : i = j
    · subst c
      have e1 : as'[i] = sc (.slice none 0 0) := by simp [ha]
      rw [e1] at this
      rw [hai, scal_rep this rfl]
      exact ⟨by simp, by simp [Value.oneCell']⟩
    · have e1 : as'[j] = as[j] := by simp [ha, c]
      rw [← e1]
      refine RepS.mono (fun _ h => h) (fun _ _ => rfl) (fun k hk => hσ k fun d => ?_) this
      subst d
      rw [List.any_eq_false] at f1
      have := f1 _ (List.getElem_mem hj')
      rw [hk] at this
      exact this rfl
  · rcases hl k o e1 with ⟨rfl, rfl⟩ | ⟨c, e1⟩
    · simp only [if_true]
      exact ⟨[], World.ownsRow_nil w 0 e sz, fun b => by simp [Value.ownBlock], by simp, by simp, fun i hi => absurd hi (by simp)⟩
    · simp only [if_neg c]
      exact ObjOK.mono (fun _ h => h) (fun _ _ => rfl) (fun j hj => hσ j fun d => by rw [d, (hob f2 k o e1).2] at hj; cases hj) (hok.ok k o e1)
  · rcases hl k o e1 with ⟨rfl, rfl⟩ | ⟨c, e1⟩
    · simp only [if_true] at hb
    · rcases hl k' o' e2 with ⟨rfl, rfl⟩ | ⟨c', e2⟩
      · simp only [if_true] at hb'
      · simp only [if_neg c, if_neg c'] at hb hb'
        exact hok.apart k k' o o' e1 e2 hk b hb hb'
  · rcases hl k o e1 with ⟨rfl, rfl⟩ | ⟨c, e1⟩
    · simp only [if_true] at hb
    · simp only [if_neg c] at hb
      exact hok.live k o e1 b hb
  · obtain ⟨v, rfl, F', σ', X', q1, q2, q3⟩ := he
    have hσ' : ∀ k, k ≠ h0 → (fun k => if k = h0 then σ h0 else σ' k) k = σ' k := fun k hk => if_neg hk
    refine ⟨v, rfl, F', fun k => if k = h0 then σ h0 else σ' k, X', RepS.mono (fun _ h => h) (fun _ _ => rfl) (fun k hk => hσ' k fun d => by rw [d, f4] at hk; cases hk) q1, ⟨fun k o e1 => ?_, q2.apart, q2.live⟩, q3.os, q3.tape, q3.output, q3.size, fun k hk hx => q3.same k hk fun h o e1 => ?_, q3.frz, fun k hk => ?_, fun h o e1 k hk => ?_, fun k hk => ?_⟩
    · have hk := hob f3 k o e1
      simp only [if_neg hk.1]
      exact ObjOK.mono (fun _ h => h) (fun _ _ => rfl) (fun j hj => hσ' j fun d => by rw [d, hk.2] at hj; cases hj) (q2.ok k o e1)
    · rcases hl h o e1 with ⟨rfl, rfl⟩ | ⟨c, e1⟩
      · simp
      · simp only [if_neg c]; exact hx h o e1
    · rcases q3.new k hk with c | ⟨c, d⟩
      · exact .inl c
      · refine .inr ⟨c, d.imp id ?_⟩
        rintro ⟨h, o, e1, hx⟩
        rcases hl h o e1 with ⟨rfl, rfl⟩ | ⟨c2, e1⟩
        · simp at hx
        · simp only [if_neg c2] at hx; exact ⟨h, o, e1, hx⟩
    · refine (q3.foot h o e1 k hk).imp id ?_
      rintro ⟨h', o', e2, hx⟩
      rcases hl h' o' e2 with ⟨rfl, rfl⟩ | ⟨c2, e2⟩
      · simp at hx
      · simp only [if_neg c2] at hx; exact ⟨h', o', e2, hx⟩
    · by_cases c : k = h0
      · simp [c]
      · simp only [if_neg c]
        have := q3.sig k (hk.imp id fun d => by simp only [look, beq_false (fun e => c e.symm : ¬ h0 = k), cond_false]; exact d)
        rw [this]
        exact if_neg c
/-- An array of one's own where data is asked: it is not written any more. -/
theorem Sat.fzOwn {P : Program} {f : FuncId} {as : List SV} {l l' : Objs} {res : SV} (i h0 e sz bytes : Nat) (es : List (List DV)) (h : Sat P f as l res l') (as' : List SV) (ha : as' = as.set i (cc (.own h0)))
    (hc : as[i]? = some (cc (.d (.sl es)))) (hf : ((look l h0).isSome || (look l' h0).isSome) = false) : Sat P f as' ((h0, .arr e sz bytes es) :: l) res l' := by
  obtain ⟨h1, h2⟩ := h
  simp only [Bool.or_eq_false_iff] at hf
  have f1 : look l h0 = none := by simpa using hf.1
  have f2 : look l' h0 = none := by simpa using hf.2
  obtain ⟨hi, hai⟩ := List.getElem?_eq_some_iff.1 hc
  have hne : ∀ k o, look l k = some o → k ≠ h0 := fun k o e c => by subst c; rw [f1] at e; cases e
  have hl2 : ∀ k o, look l k = some o → look ((h0, LObj.arr e sz bytes es) :: l) k = some o := fun k o e1 => by
    simp only [look, beq_false (hne k o e1).symm, cond_false]; exact e1
  have hl0 : look ((h0, LObj.arr e sz bytes es) :: l) h0 = some (.arr e sz bytes es) := by simp [look]
  refine ⟨h1, fun F σ X w vs hn hv hok hF => ?_⟩
  have hlen : as'.length = as.length := by rw [ha]; simp
  have h0ok := hok.ok h0 _ hl0
  refine Calls.mono (h2 (fun k => F k ∨ X h0 k) σ X w vs (hn.trans hlen) (fun j hj => ?_) ⟨fun k o e1 => ?_, fun k k' o o' e1 e2 hk b hb hb' => ?_, fun k o e1 b hb => ?_⟩ fun k hk => ?_) fun ex w' he => ?_
  · have hj' : j < as'.length := by omega
    have := hv j hj'
    by_cases c : i = j
    · subst c
      have e1 : as'[i] = cc (.own h0) := by simp [ha]
      rw [e1] at this
      obtain ⟨hv0, _⟩ := (show RepC F σ w _ (.own h0) from this)
      rw [hai, hv0]
      exact arr_data h0ok
    · have e1 : as'[j] = as[j] := by simp [ha, c]
      rw [← e1]
      exact RepS.mono (fun _ h => .inl h) (fun _ _ => rfl) (fun _ _ => rfl) this
  · exact ObjOK.mono (fun _ h => .inl h) (fun _ _ => rfl) (fun _ _ => rfl) (hok.ok k o (hl2 k o e1))
  · exact hok.apart k k' o o' (hl2 k o e1) (hl2 k' o' e2) hk b hb hb'
  · have := hok.live k o (hl2 k o e1) b hb
    exact ⟨this.1, fun d => d.elim this.2 fun d => hok.apart k h0 o _ (hl2 k o e1) hl0 (hne k o e1) b hb d⟩
  · exact hk.elim (hF k) fun hk => (hok.live h0 _ hl0 k hk).1
  · obtain ⟨v, rfl, F', σ', X', q1, q2, q3⟩ := he
    refine ⟨v, rfl, F', σ', X', q1, q2, q3.os, q3.tape, q3.output, q3.size, fun k hk hx => q3.same k hk fun h o e1 => hx h o (hl2 h o e1), fun k hk => q3.frz k (.inl hk), fun k hk => ?_, fun h o e1 k hk => ?_, fun k hk => q3.sig k ?_⟩
    · rcases q3.new k hk with (c | c) | ⟨c, d⟩
      · exact .inl c
      · exact .inr ⟨Nat.lt_of_lt_of_le (hok.live h0 _ hl0 k c).1 q3.size, .inr ⟨h0, _, hl0, c⟩⟩
      · refine .inr ⟨c, d.imp id ?_⟩
        rintro ⟨h, o, e1, hx⟩
        exact ⟨h, o, hl2 h o e1, hx⟩
    · refine (q3.foot h o e1 k hk).imp id ?_
      rintro ⟨h', o', e2, hx⟩
      exact ⟨h', o', hl2 h' o' e2, hx⟩
    · rcases hk with hk | hk
      · exact .inl hk
      · by_cases c : k = h0
        · subst c; exact .inl f2
        · refine .inr ?_
          simp only [look, beq_false (fun e => c e.symm : ¬ h0 = k), cond_false] at hk
          exact hk
end Go.E
