/- A logic over abstract states. Part 21: what is told of a function, under other names. -/
import Derived.Test.YtjbiaoajmdbigaaEng20
namespace Go.E
open Go

theorem CV.sw_sw {a b : Nat} : ∀ y : CV, (y.sw a b).sw a b = y
  | .d _ => rfl
  | .loc h off => by simp [CV.sw, E.sw_sw]
  | .eloc h i off sz => by simp [CV.sw, E.sw_sw]
  | .own h => by simp [CV.sw, E.sw_sw]
  | .clo g caps => by simp [CV.sw, E.sw_sw, Function.comp_def]
theorem TV.sw_sw {a b : Nat} : ∀ y : TV, (y.sw a b).sw a b = y
  | .c y => by simp [TV.sw, CV.sw_sw]
  | .agg l => by simp [TV.sw, CV.sw_sw, Function.comp_def]
theorem SV.sw_sw {a b : Nat} : ∀ y : SV, (y.sw a b).sw a b = y
  | .t y => by simp [SV.sw, TV.sw_sw]
  | .tup l => by simp [SV.sw, TV.sw_sw, Function.comp_def]
  | .any => rfl
theorem LObj.sw_sw {a b : Nat} : ∀ y : LObj, (y.sw a b).sw a b = y
  | .cells t cs => by simp [LObj.sw, CV.sw_sw, Function.comp_def]
  | .arr .. => rfl
  | .it .. => rfl
  | .opq _ => rfl
theorem look_swO_eq {a b : Nat} : ∀ (l : Objs) (h : Nat), look (swO a b l) h = (look l (sw a b h)).map (LObj.sw a b)
  | [], h => rfl
  | (j, y) :: r, h => by
    by_cases c : sw a b j = h
    · subst c; simp [swO, look, E.sw_sw]
    · have c' : j ≠ sw a b h := fun e => c (by rw [e, E.sw_sw])
      simp only [swO, look, beq_false c, beq_false c', cond_false]
      exact look_swO_eq r h
theorem swO_swO {a b : Nat} : ∀ l : Objs, swO a b (swO a b l) = l
  | [] => rfl
  | (j, y) :: r => by simp [swO, E.sw_sw, LObj.sw_sw, swO_swO r]

theorem OKs.sw {F : Nat → Prop} {σ : Nat → Value} {X : Nat → Nat → Prop} {w : World} {l : Objs} {a b : Nat} (h : OKs F σ X w l) : OKs F (fun k => σ (E.sw a b k)) (fun k => X (E.sw a b k)) w (swO a b l) := by
  have key : ∀ k o, look (swO a b l) k = some o → ∃ y, look l (E.sw a b k) = some y ∧ o = y.sw a b := fun k o e => look_swO e
  refine ⟨fun k o e => ?_, fun k k' o o' e e' hne => ?_, fun k o e => ?_⟩
  · obtain ⟨y, h1, rfl⟩ := key k o e; exact ObjOK.sw (h.ok _ y h1)
  · obtain ⟨y, h1, rfl⟩ := key k o e
    obtain ⟨y', h2, rfl⟩ := key k' o' e'
    exact h.apart _ _ y y' h1 h2 fun c => hne (by have := congrArg (E.sw a b) c; simpa only [E.sw_sw] using this)
  · obtain ⟨y, h1, rfl⟩ := key k o e; exact h.live _ y h1

theorem Sat.sw {P : Program} {f : FuncId} {as : List SV} {l l' : Objs} {res : SV} (a b : Nat) (h : Sat P f as l res l') : Sat P f (as.map (SV.sw a b)) (swO a b l) (res.sw a b) (swO a b l') := by
  obtain ⟨h1, h2⟩ := h
  refine ⟨h1, fun F σ X w vs hn hv hok hF => ?_⟩
  refine Calls.mono (h2 F (fun k => σ (E.sw a b k)) (fun k => X (E.sw a b k)) w vs (by simpa using hn) (fun i hi => ?_) ?_ hF) fun e w' he => ?_
  · have := RepS.sw (a := a) (b := b) (hv i (by simpa using hi))
    simpa [SV.sw_sw] using this
  · have := OKs.sw (a := a) (b := b) hok
    rwa [swO_swO] at this
  · obtain ⟨v, rfl, F', σ', X', q1, q2, q3⟩ := he
    have n1 : ∀ (m : Objs) k, look (swO a b m) k = none ↔ look m (E.sw a b k) = none := fun m k => by rw [look_swO_eq]; cases look m (E.sw a b k) <;> simp
    refine ⟨v, rfl, F', fun k => σ' (E.sw a b k), fun k => X' (E.sw a b k), RepS.sw q1, OKs.sw q2, q3.os, q3.tape, q3.output, q3.size, fun k hk hx => q3.same k hk fun h o e => ?_, q3.frz, fun k hk => ?_, fun h o e k hk => ?_, fun h hh => ?_⟩
    · have := hx (E.sw a b h) (o.sw a b) (by rw [look_swO_eq, E.sw_sw, e]; rfl)
      exact this
    · rcases q3.new k hk with c | ⟨c, d⟩
      · exact .inl c
      · refine .inr ⟨c, d.imp id ?_⟩
        rintro ⟨h, o, e, hx⟩
        exact ⟨E.sw a b h, o.sw a b, by rw [look_swO_eq, E.sw_sw, e]; rfl, hx⟩
    · obtain ⟨y, e1, rfl⟩ := look_swO e
      refine (q3.foot _ y e1 k hk).imp id ?_
      rintro ⟨h', o', e', hx⟩
      exact ⟨E.sw a b h', o'.sw a b, by rw [look_swO_eq, E.sw_sw, e']; rfl, by simpa only [E.sw_sw] using hx⟩
    · have := q3.sig (E.sw a b h) (by rw [← n1, ne_eq, ← n1]; exact hh)
      simpa only [E.sw_sw] using this
end Go.E
