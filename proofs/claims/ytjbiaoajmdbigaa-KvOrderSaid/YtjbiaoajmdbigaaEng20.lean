/- A logic over abstract states. Part 20: states put in other words behind a piece of code; arguments in other words; rounds one by one; lists. -/
import Derived.Test.YtjbiaoajmdbigaaEng19
set_option linter.unusedVariables false
set_option linter.unusedSimpArgs false
namespace Go.E
open Go

/-! A name for one's own object, old or not, given up for a new one. -/
theorem beq_sw (a b j k : Nat) : Nat.beq (sw a b j) k = Nat.beq j (sw a b k) := by
  by_cases c : sw a b j = k
  · subst c; simp [sw_sw]
  · have c' : j ≠ sw a b k := fun e => c (by rw [e, sw_sw])
    rw [beq_false c, beq_false c']
theorem CV.has_sw {a b k : Nat} : ∀ y : CV, (y.sw a b).has k = y.has (E.sw a b k)
  | .d _ => rfl
  | .loc h off => beq_sw a b h k
  | .eloc h i off sz => beq_sw a b h k
  | .own h => beq_sw a b h k
  | .clo g caps => by simp [CV.sw, CV.has, beq_sw, Function.comp_def]
theorem TV.has_sw {a b k : Nat} : ∀ y : TV, (y.sw a b).has k = y.has (E.sw a b k)
  | .c y => CV.has_sw y
  | .agg l => by simp [TV.sw, TV.has, CV.has_sw, Function.comp_def]
theorem SV.has_sw {a b k : Nat} : ∀ y : SV, (y.sw a b).has k = y.has (E.sw a b k)
  | .t y => TV.has_sw y
  | .tup l => by simp [SV.sw, SV.has, TV.has_sw, Function.comp_def]
  | .any => rfl
theorem LObj.has_sw {a b k : Nat} : ∀ y : LObj, (y.sw a b).has k = y.has (E.sw a b k)
  | .cells t cs => by simp [LObj.sw, LObj.has, CV.has_sw, Function.comp_def]
  | .arr .. => rfl
  | .it .. => rfl
  | .opq _ => rfl
theorem sw_left (a b : Nat) : sw a b a = b := by simp [sw]
def St.mo (S : St) (a b : Nat) : Option St := bif S.has b then none else some (S.sw a b)
theorem Rel.mo {G : Gh} {S S' : St} {ac : Act} {w : World} {a b : Nat} (h : Rel G S ac w) (hs : S.mo a b = some S') : Rel G S' ac w := by
  unfold St.mo at hs
  cases hb : S.has b with
  | true => simp [hb] at hs
  | false =>
    simp only [hb, cond_false, Option.some.injEq] at hs
    subst hs
    obtain ⟨F, σ, X, r⟩ := h
    have hσ : ∀ k, k ≠ a → (fun k => if k = a then σ a else σ (E.sw a b k)) k = (fun k => σ (E.sw a b k)) k := fun k hk => if_neg hk
    have hob : ∀ h o, look (swO a b S.objs) h = some o → ∃ y, look S.objs (E.sw a b h) = some y ∧ o = y.sw a b := fun h o e => look_swO e
    have hne : ∀ h o, look (swO a b S.objs) h = some o → h ≠ a := fun h o e c => by
      obtain ⟨y, e1, _⟩ := hob h o e
      subst c
      rw [sw_left] at e1
      exact (St.has_obj hb e1).1 rfl
    refine ⟨F, fun k => if k = a then σ a else σ (E.sw a b k), fun k => X (E.sw a b k), r.defers, r.size, fun i sv e => ?_, ⟨fun k o e => ?_, fun k k' o o' e e' hk => ?_, fun k o e => ?_⟩, fun k hk => ?_, fun k o e => ?_, r.frz, r.frz0, r.grow, r.same, r.os, r.tape, r.output⟩
    · obtain ⟨y, e1, rfl⟩ := look_swS e
      refine RepS.mono (fun _ h => h) (fun _ _ => rfl) (fun k hk => hσ k fun c => ?_) (RepS.sw (a := a) (b := b) (r.slots i y e1))
      subst c
      rw [SV.has_sw, sw_left, St.has_slot hb e1] at hk
      cases hk
    · have hka := hne k o e
      obtain ⟨y, e1, rfl⟩ := hob k o e
      simp only [if_neg hka]
      refine ObjOK.mono (fun _ h => h) (fun _ _ => rfl) (fun j hj => hσ j fun c => ?_) (ObjOK.sw (a := a) (b := b) (r.oks.ok _ y e1))
      subst c
      rw [LObj.has_sw, sw_left, (St.has_obj hb e1).2] at hj
      cases hj
    · obtain ⟨y, e1, rfl⟩ := hob k o e
      obtain ⟨y', e2, rfl⟩ := hob k' o' e'
      exact r.oks.apart _ _ y y' e1 e2 fun c => hk (by have := congrArg (E.sw a b) c; simpa only [sw_sw] using this)
    · obtain ⟨y, e1, rfl⟩ := hob k o e
      exact r.oks.live _ y e1
    · have hk' : S.old.any (Nat.beq k) = true := hk
      refine Eq.trans ?_ (r.sig0 k hk')
      by_cases c : k = a
      · subst c; simp
      · have c2 : k ≠ b := fun e => by subst e; have := St.has_old hb; rw [hk'] at this; cases this
        simp only [if_neg c]
        simp [E.sw, beq_false c, beq_false c2]
    · obtain ⟨y, e1, rfl⟩ := hob k o e
      exact r.foot _ y e1

/-- A nil slice told of as data without elements. -/
def noAt : Nat → List CV → Option (List CV)
  | 0, .d (.v (.slice none 0 0)) :: r => some (.d (.sl []) :: r)
  | k + 1, c :: r => match noAt k r with
    | some r' => some (c :: r')
    | none => none
  | _, _ => none
theorem RepD.no {F : Nat → Prop} {w : World} : RepD F w (.slice none 0 0) (.sl []) :=
  RepD.sl none 0 0 [] (fun _ _ => undef) (Nat.le_refl _) (by simp) (by simp) (fun h => by simp at h) (fun _ => rfl) (fun i h => by simp at h)
theorem noAt_rep {F : Nat → Prop} {σ : Nat → Value} {w : World} : ∀ {k : Nat} {cs cs' : List CV} (f : Nat → Value), noAt k cs = some cs' → (∀ i (h : i < cs.length), RepC F σ w (f i) cs[i]) → cs'.length = cs.length ∧ ∀ i (h : i < cs'.length), RepC F σ w (f i) cs'[i]
  | 0, [], _, f, h, _ => by simp [noAt] at h
  | _ + 1, [], _, f, h, _ => by simp [noAt] at h
  | 0, c :: r, cs', f, h, hr => by
    unfold noAt at h
    split at h
    · rename_i heq
      obtain rfl := Option.some.inj h
      obtain ⟨rfl, rfl⟩ := List.cons.inj heq
      refine ⟨rfl, fun i hi => ?_⟩
      cases i with
      | zero =>
        have h0 : RepD F w (f 0) (.v (.slice none 0 0)) := hr 0 (Nat.succ_pos _)
        show RepD F w (f 0) (.sl [])
        generalize f 0 = x at h0
        cases h0
        exact RepD.no
      | succ i => exact hr (i + 1) hi
    · rename_i c1 c2; exact absurd c1 (by omega)
    · cases h
  | k + 1, c :: r, cs', f, h, hr => by
    simp only [noAt] at h
    cases e : noAt k r with
    | none => simp [e] at h
    | some r' =>
      simp only [e, Option.some.injEq] at h
      subst h
      obtain ⟨h1, h2⟩ := noAt_rep (fun i => f (i + 1)) e (fun i hi => hr (i + 1) (Nat.succ_lt_succ hi))
      refine ⟨by simp [h1], fun i hi => ?_⟩
      cases i with
      | zero => exact hr 0 (Nat.succ_pos _)
      | succ i => exact h2 i (Nat.lt_of_succ_lt_succ hi)
def St.no (S : St) (i k : Nat) : Option St :=
  match look S.slots i with
  | some (.t (.c y)) => match noAt 0 [y] with
    | some [z] => some { S with slots := put S.slots i (cc z) }
    | _ => none
  | some (.t (.agg l)) => match noAt k l with
    | some l' => some { S with slots := put S.slots i (.t (.agg l')) }
    | none => none
  | _ => none
def St.noO (S : St) (h k : Nat) : Option St :=
  match look S.objs h with
  | some (.cells t cs) => match noAt k cs with
    | some cs' => some { S with objs := put S.objs h (.cells t cs') }
    | none => none
  | _ => none
theorem RelX.slot {G : Gh} {F : Nat → Prop} {σ : Nat → Value} {X : Nat → Nat → Prop} {S : St} {a : Act} {w : World} (r : RelX G F σ X S a w) (i : Nat) (sv : SV) (h : RepS F σ w (a.tmps.getD i undef) sv) : RelX G F σ X { S with slots := put S.slots i sv } a w :=
  ⟨r.defers, r.size, fun j x e => by
    rw [look_put] at e
    by_cases c : i = j
    · subst c; simp only [if_true, Option.some.injEq] at e; subst e; exact h
    · simp only [c, if_false] at e; exact r.slots j x e, r.oks, r.sig0, r.foot, r.frz, r.frz0, r.grow, r.same, r.os, r.tape, r.output⟩
theorem Rel.no {G : Gh} {S S' : St} {a : Act} {w : World} {i k : Nat} (hR : Rel G S a w) (hs : S.no i k = some S') : Rel G S' a w := by
  obtain ⟨F, σ, X, r⟩ := hR
  unfold St.no at hs
  split at hs
  · rename_i y hy
    split at hs
    · rename_i z hz
      obtain rfl := Option.some.inj hs
      have hy' : RepC F σ w (a.tmps.getD i undef) y := r.slots i _ hy
      obtain ⟨_, h2⟩ := noAt_rep (F := F) (σ := σ) (w := w) (fun _ => a.tmps.getD i undef) hz (fun j hj => by
        have : j = 0 := by simp at hj; omega
        subst this; exact hy')
      exact ⟨F, σ, X, r.slot i _ (by have := h2 0 (by simp); exact this)⟩
    · cases hs
  · rename_i l hl
    split at hs
    · rename_i l' hz
      obtain rfl := Option.some.inj hs
      obtain ⟨cs, h1, h2, h3⟩ := (show RepT F σ w (a.tmps.getD i undef) (.agg l) from r.slots i _ hl)
      obtain ⟨g1, g2⟩ := noAt_rep (fun j => cs.getD j undef) hz h3
      exact ⟨F, σ, X, r.slot i _ ⟨cs, h1, by rw [h2, g1], g2⟩⟩
    · cases hs
  · cases hs
theorem Rel.noO {G : Gh} {S S' : St} {a : Act} {w : World} {h k : Nat} (hR : Rel G S a w) (hs : S.noO h k = some S') : Rel G S' a w := by
  obtain ⟨F, σ, X, r⟩ := hR
  unfold St.noO at hs
  split at hs
  · rename_i t cs hy
    split at hs
    · rename_i cs' hz
      obtain rfl := Option.some.inj hs
      obtain ⟨b, vs, h1, h2, h3, h4, h5⟩ := r.oks.ok h _ hy
      obtain ⟨g1, g2⟩ := noAt_rep (fun j => vs.getD j undef) hz h5
      have key : ∀ j o, look (put S.objs h (.cells t cs')) j = some o → (j = h ∧ o = .cells t cs') ∨ (j ≠ h ∧ look S.objs j = some o) := fun j o e => by
        rw [look_put] at e
        by_cases c : h = j
        · subst c; simp only [if_true, Option.some.injEq] at e; exact .inl ⟨rfl, e.symm⟩
        · simp only [c, if_false] at e; exact .inr ⟨fun d => c d.symm, e⟩
      have old : ∀ j o, look (put S.objs h (.cells t cs')) j = some o → ∃ o', look S.objs j = some o' := fun j o e => by
        rcases key j o e with ⟨rfl, _⟩ | ⟨_, e⟩
        · exact ⟨_, hy⟩
        · exact ⟨_, e⟩
      refine ⟨F, σ, X, r.defers, r.size, r.slots, ⟨fun j o e => ?_, fun j j' o o' e e' hne => ?_, fun j o e => ?_⟩, r.sig0, fun j o e => ?_, r.frz, r.frz0, r.grow, r.same, r.os, r.tape, r.output⟩
      · rcases key j o e with ⟨rfl, rfl⟩ | ⟨_, e⟩
        · exact ⟨b, vs, h1, h2, h3, by rw [h4, g1], g2⟩
        · exact r.oks.ok j o e
      · obtain ⟨_, e1⟩ := old j o e
        obtain ⟨_, e2⟩ := old j' o' e'
        exact r.oks.apart j j' _ _ e1 e2 hne
      · obtain ⟨_, e1⟩ := old j o e
        exact r.oks.live j _ e1
      · obtain ⟨_, e1⟩ := old j o e
        exact r.foot j _ e1
    · cases hs
  · cases hs

inductive Mv where
  | mo (a b : Nat)
  | sw (a b : Nat)
  | fz (h : Nat)
  | own (i h e sz bytes : Nat)
  | no (i k : Nat)
  | noO (h k : Nat)
def St.mv (S : St) : Mv → Option St
  | .mo a b => S.mo a b
  | .sw a b => bif (S.old.any (Nat.beq a) || S.old.any (Nat.beq b)) then none else some (S.sw a b)
  | .fz h => S.fz h
  | .own i h e sz bytes => S.ownNil i h e sz bytes
  | .no i k => S.no i k
  | .noO h k => S.noO h k
def St.mvs (S : St) : List Mv → Option St
  | [] => some S
  | m :: r => match S.mv m with
    | some S' => S'.mvs r
    | none => none
theorem Rel.mv {G : Gh} {S S' : St} {a : Act} {w : World} {m : Mv} (hR : Rel G S a w) (h : S.mv m = some S') : Rel G S' a w := by
  cases m with
  | mo x y => exact hR.mo h
  | sw x y =>
    simp only [St.mv] at h
    cases e : (S.old.any (Nat.beq x) || S.old.any (Nat.beq y)) with
    | true => simp [e] at h
    | false => simp only [e, cond_false, Option.some.injEq] at h; subst h; exact hR.sw e
  | fz k => exact hR.fz h
  | own i k e sz bytes => exact hR.own h
  | no i k => exact hR.no h
  | noO i k => exact hR.noO h
theorem Rel.mvs {G : Gh} {a : Act} {w : World} : ∀ {ms : List Mv} {S S' : St}, Rel G S a w → S.mvs ms = some S' → Rel G S' a w
  | [], S, S', hR, h => by simp only [St.mvs, Option.some.injEq] at h; subst h; exact hR
  | m :: r, S, S', hR, h => by
    simp only [St.mvs] at h
    cases e : S.mv m with
    | none => simp [e] at h
    | some S1 => simp only [e] at h; exact (hR.mv e).mvs h
section
variable {P : Program} {G : Gh} {c : Code} {Q : Exit → St → Prop} {S : St}
/-- Ahead of a piece of code. -/
theorem awp_mv (ms : List Mv) (S' : St) (h : S.mvs ms = some S') (hw : AWp P G c Q S') : AWp P G c Q S := fun a w hR => hw a w (hR.mvs h)
/-- Behind it. -/
theorem awp_then (ms : List Mv) (h : AWp P G c (fun e S1 => ∃ S2, S1.mvs ms = some S2 ∧ Q e S2) S) : AWp P G c Q S := fun a w hR =>
  wp_mono (h a w hR) fun _ _ _ ⟨_, ⟨S2, h1, h2⟩, r⟩ => ⟨S2, h2, r.mvs h1⟩
theorem then_mv {e : Exit} {ms : List Mv} {S1 : St} (S2 : St) (h : S1.mvs ms = some S2) (hq : Q e S2) : (fun e S1 => ∃ S2, St.mvs S1 ms = some S2 ∧ Q e S2) e S1 := ⟨S2, h, hq⟩

/-- So many rounds of a loop. -/
def Rounds (P : Program) (G : Gh) (c : Code) (Q : Exit → St → Prop) : Nat → St → Prop
  | 0, _ => False
  | n + 1, S => AWp P G c (QSeq (Rounds P G c Q n) Q) S
theorem awp_rounds (n : Nat) (h : Rounds P G c Q n S) : AWp P G (.loop c) Q S :=
  awp_loopP (ι := St × Nat) (fun x => x.1) (fun x => Rounds P G c Q x.2 x.1) (fun x => x.2) (S, n) rfl h fun ⟨T, m⟩ hJ => by
    cases m with
    | zero => exact hJ.elim
    | succ m =>
      refine awp_mono hJ fun e S' q => ?_
      cases e with
      | normal => exact ⟨(S', m), rfl, q, Nat.lt_succ_self m⟩
      | _ => exact q
theorem rounds_one {n : Nat} (h : AWp P G c (QSeq (Rounds P G c Q n) Q) S) : Rounds P G c Q (n + 1) S := h
theorem peel_next {n : Nat} (h : Rounds P G c Q n S) : QSeq (Rounds P G c Q n) Q .normal S := h
end

/-! ### Arguments in other words -/
inductive SubA : List SV → List SV → Prop
  | done : SubA [] []
  | same {x : SV} {xs ys : List SV} (h : SubA xs ys) : SubA (x :: xs) (x :: ys)
  | no {xs ys : List SV} (h : SubA xs ys) : SubA (sc (.slice none 0 0) :: xs) (cc (.d (.sl [])) :: ys)
theorem SubA.rep {xs ys : List SV} (h : SubA xs ys) : xs.length = ys.length ∧ ∀ (F : Nat → Prop) (σ : Nat → Value) (w : World) (f : Nat → Value), (∀ i (h : i < xs.length), RepS F σ w (f i) xs[i]) → ∀ i (h : i < ys.length), RepS F σ w (f i) ys[i] := by
  induction h with
  | done => exact ⟨rfl, fun _ _ _ _ _ i h => by simp at h⟩
  | same h ih =>
    refine ⟨by simp [ih.1], fun F σ w f hf i hi => ?_⟩
    cases i with
    | zero => exact hf 0 (by simp)
    | succ i => exact ih.2 F σ w (fun i => f (i + 1)) (fun j hj => hf (j + 1) (by simpa using hj)) i (by simpa using hi)
  | no h ih =>
    refine ⟨by simp [ih.1], fun F σ w f hf i hi => ?_⟩
    cases i with
    | zero =>
      have : f 0 = .slice none 0 0 := scal_rep (hf 0 (by simp)) rfl
      show RepD F w (f 0) (.sl [])
      rw [this]
      exact RepD.sl none 0 0 [] (fun _ _ => undef) (Nat.le_refl _) (by simp) (by simp) (fun h => by simp at h) (fun _ => rfl) (fun i h => by simp at h)
    | succ i => exact ih.2 F σ w (fun i => f (i + 1)) (fun j hj => hf (j + 1) (by simpa using hj)) i (by simpa using hi)
theorem Sat.sub {P : Program} {f : FuncId} {as as' : List SV} {l l' : Objs} {res : SV} (h : Sat P f as l res l') (hs : SubA as' as) : Sat P f as' l res l' := by
  obtain ⟨h1, h2⟩ := h
  obtain ⟨h3, h4⟩ := hs.rep
  exact ⟨h1, fun F σ X w vs hn hv => h2 F σ X w vs (hn.trans h3) (h4 F σ w (fun i => vs.getD i undef) hv)⟩
theorem tri_to {P : Program} {o : Oper} {vals : List SV} {l l' l'' : Objs} {res : SV} (h : Tri P o vals l res l') (e : l' = l'') : Tri P o vals l res l'' := e ▸ h
theorem tri_res {P : Program} {o : Oper} {vals : List SV} {l l' : Objs} {res res' : SV} (h : Tri P o vals l res l') (e : res = res') : Tri P o vals l res' l' := e ▸ h

/-! ### Lists, place by place -/
theorem tri_len_map {P : Program} {T : Tab} (hT : TabOK P T) {α : Type} {f : α → List DV} {l : List α} {t ty : TypeId} {x : Operand} (hk : ((look T t).map (·.kind)) = some 2) :
    Tri P (mkO (.call { callee := .builtin .len, args := #[x], argTypes := #[t] }) ty) [cc (.d (.sl (l.map f)))] [] (sc (.int .i64 l.length)) [] := by
  cases e : look T t with
  | none => rw [e] at hk; cases hk
  | some ti =>
    rw [e] at hk
    have := tri_len_sl (o := mkO (.call { callee := .builtin .len, args := #[x], argTypes := #[t] }) ty) hT (es := l.map f) rfl e (by simpa using hk)
    simpa using this
theorem tri_len_mapO {P : Program} {T : Tab} (hT : TabOK P T) {α : Type} {f : α → List DV} {l : List α} {t ty : TypeId} {x : Operand} {h e sz bytes : Nat} (hk : ((look T t).map (·.kind)) = some 2) :
    Tri P (mkO (.call { callee := .builtin .len, args := #[x], argTypes := #[t] }) ty) [cc (.own h)] [(h, .arr e sz bytes (l.map f))] (sc (.int .i64 l.length)) [(h, .arr e sz bytes (l.map f))] := by
  cases e1 : look T t with
  | none => rw [e1] at hk; cases hk
  | some ti =>
    rw [e1] at hk
    have := tri_len_own (o := mkO (.call { callee := .builtin .len, args := #[x], argTypes := #[t] }) ty) hT (h := h) (e := e) (sz := sz) (bytes := bytes) (es := l.map f) rfl e1 (by simpa using hk)
    simpa using this
/-- A slice is not longer than any may be. -/
theorem awp_len {P : Program} {G : Gh} {c : Code} {Q : Exit → St → Prop} {S : St} {α : Type} {f : α → List DV} {l : List α} (i : Nat) (hi : look S.slots i = some (cc (.d (.sl (l.map f))))) (h : l.length ≤ 9223372036854775807 → AWp P G c Q S) : AWp P G c Q S := fun a w hR => by
  refine h ?_ a w hR
  obtain ⟨F, σ, X, r⟩ := hR
  have hs := r.slots i _ hi
  generalize hv : a.tmps.getD i undef = v at hs
  have hs' : RepD F w v (.sl (l.map f)) := hs
  generalize he : l.map f = es at hs'
  cases hs' with
  | sl ad cap sz es val hcap hm =>
    have : l.length = es.length := by rw [← he]; simp
    simp only [maxLen] at hm
    omega
theorem at_drop {α : Type} {l : List α} {k : Nat} (h : k < l.length) : ∃ x, l[k]? = some x ∧ l.drop k = x :: l.drop (k + 1) := ⟨l[k], by simp [h], by simp⟩
theorem at_end {α : Type} {l : List α} {k : Nat} (h : ¬ k < l.length) : l.drop k = [] := List.drop_eq_nil_of_le (by omega)
theorem at_map {α β : Type} (f : α → β) {l : List α} {k : Nat} {x : α} (h : l[k]? = some x) : (l.map f)[k]? = some (f x) := by simp [h]
theorem all_map {α : Type} {f : α → List DV} {l : List α} {n : Nat} (h : ∀ x, (f x).length = n) : ∀ y ∈ l.map f, y.length = n := fun y hy => by
  obtain ⟨x, _, rfl⟩ := List.mem_map.1 hy
  exact h x
theorem len_map {α β : Type} {f : α → β} {l : List α} : ((l.map f).length : Int) = (l.length : Int) := by simp
end Go.E
