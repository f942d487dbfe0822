/- A logic over abstract states. Part 14: from a body to what is told of a function. -/
import Derived.Test.YtjbiaoajmdbigaaEng13
set_option linter.unusedVariables false
set_option linter.unusedSimpArgs false
namespace Go.E
open Go

theorem loadVar_loc {P : Program} {T : Tab} (hT : TabOK P T) {t ct : TypeId} {ti : TI} {h off : Nat} {cs : List CV} {r : TV} (ht : look T t = some ti) (h1 : ti.agg = false → ti.size = 1) (hp : piece ti.agg ti.size (cs.drop off) = some r)
    {F : Nat → Prop} {σ : Nat → Value} {X : Nat → Prop} {w : World} {x : Value} (hx : RepC F σ w x (.loc h off)) (hok : ObjOK F σ w (σ h) X (.cells ct cs)) : ∃ ad v, x = .pointer (some ad) ∧ (loadVar t ad).run P w = .ok v w ∧ RepT F σ w v r := by
  obtain ⟨b, hb, rfl⟩ := hx
  obtain ⟨b', vs, e1, _, e3, e4, e5⟩ := hok
  rw [hb] at e1
  obtain rfl : b = b' := by simpa using e1
  obtain ⟨q1, q2, q3⟩ := piece_rep (F := F) (σ := σ) (w := w) hp (fun i => vs.getD (off + i) undef) (fun i hi => by
    simp only [List.length_drop] at hi
    simpa using e5 (off + i) (by omega))
  simp only [List.length_drop] at q2 q3
  have hle : 0 < ti.size → off + ti.size ≤ cs.length := by
    cases e : ti.agg with
    | true => have := q2 e; intro; omega
    | false => have := q3 e; have := h1 e; omega
  exact ⟨_, _, rfl, run_loadVar_ti (hT t ti ht) w b off _ (fun j hj => by
    rw [cell_of_row w b _ vs ct _ e3]
    have : off + j < vs.size := by rw [e4]; have := hle (by omega); omega
    simp [this]) (fun e => by have := h1 e; omega), q1⟩

/-- What a function hands back. -/
def resT (T : Tab) (S : St) : ResultVar → Option TV
  | .tmp t => match look S.slots t with
    | some (.t y) => some y
    | _ => none
  | .cell a t => match look S.slots a, look T t with
    | some (.t (.c (.loc h off))), some ti => match look S.objs h with
      | some (.cells _ cs) => bif ti.agg || Nat.beq ti.size 1 then piece ti.agg ti.size (cs.drop off) else none
      | _ => none
    | _, _ => none
def resL (T : Tab) (S : St) : List ResultVar → Option (List TV)
  | [] => some []
  | r :: rs => match resT T S r, resL T S rs with
    | some y, some l => some (y :: l)
    | _, _ => none
def resOf (T : Tab) (S : St) (rs : List ResultVar) : Option SV :=
  match resL T S rs with
  | some [y] => some (.t y)
  | some l => some (.tup l)
  | none => none

def resV (tmps : Array Value) : ResultVar → Sem Value
  | .tmp t => pure (tmps.getD t undef)
  | .cell p t => do loadVar t (← asAddr (tmps.getD p undef))
theorem results_eq (fn : Func) (tmps : Array Value) : results fn tmps = (do
    let vs ← fn.results.mapM (resV tmps)
    pure (if h : vs.size = 1 then vs[0] else .tuple vs)) := rfl

section
variable {P : Program} {T : Tab} (hT : TabOK P T) {G : Gh} {F : Nat → Prop} {σ : Nat → Value} {X : Nat → Nat → Prop} {S : St} {a : Act} {w : World} (r : RelX G F σ X S a w)
include hT r

theorem resT_run {v : ResultVar} {y : TV} (h : resT T S v = some y) : ∃ x, (resV a.tmps v).run P w = .ok x w ∧ RepT F σ w x y := by
  unfold resT at h
  cases v with
  | tmp t =>
    dsimp only at h ⊢
    split at h
    · rename_i z hz
      obtain rfl := Option.some.inj h
      exact ⟨_, rfl, r.slots t _ hz⟩
    · cases h
  | cell p t =>
    dsimp only at h ⊢
    split at h
    · rename_i hh off ti hs ht
      split at h
      · rename_i ct cs ho
        cases h1 : (ti.agg || Nat.beq ti.size 1) with
        | false => simp [h1] at h
        | true =>
          simp only [h1, cond_true] at h
          obtain ⟨ad, v, e1, e2, e3⟩ := loadVar_loc hT ht (fun e => by simp only [e, Bool.false_or] at h1; exact beq_iff.1 h1) h (r.slots p _ hs) (r.oks.ok hh _ ho)
          refine ⟨v, ?_, e3⟩
          simp only [resV, e1, asAddr, Sem.run_bind, Sem.run_pure, Result.andThen_ok, e2]
      · cases h
    · cases h

theorem resL_run : ∀ {vs : List ResultVar} {ys : List TV}, resL T S vs = some ys → ∃ xs : List Value, (vs.mapM (resV a.tmps) : Sem (List Value)).run P w = .ok xs w ∧
    xs.length = ys.length ∧ ∀ i (h : i < ys.length), RepT F σ w (xs.getD i undef) ys[i]
  | [], ys, h => by
    simp only [resL, Option.some.injEq] at h
    subst h
    exact ⟨[], rfl, rfl, fun i h => by simp at h⟩
  | v :: vs, ys, h => by
    simp only [resL] at h
    cases e1 : resT T S v with
    | none => simp [e1] at h
    | some y =>
      cases e2 : resL T S vs with
      | none => simp [e1, e2] at h
      | some l =>
        simp only [e1, e2, Option.some.injEq] at h
        subst h
        obtain ⟨x, h1, h2⟩ := resT_run hT r e1
        obtain ⟨xs, h3, h4, h5⟩ := resL_run e2
        refine ⟨x :: xs, ?_, by simp [h4], fun i hi => ?_⟩
        · rw [List.mapM_cons, Sem.run_bind]
          rw [h1]
          simp only [Result.andThen_ok, Sem.run_bind, h3]
          rfl
        · cases i with
          | zero => simpa using h2
          | succ i => simpa using h5 i (by simpa using hi)

theorem resOf_run {fn : Func} {res : SV} (h : resOf T S fn.results.toList = some res) : ∃ v, (results fn a.tmps).run P w = .ok v w ∧ RepS F σ w v res := by
  unfold resOf at h
  have key : ∀ ys, resL T S fn.results.toList = some ys → ∃ xs : List Value, xs.length = ys.length ∧ (∀ i (h : i < ys.length), RepT F σ w (xs.getD i undef) ys[i]) ∧
      (results fn a.tmps).run P w = .ok (if h : xs.toArray.size = 1 then xs.toArray[0] else .tuple xs.toArray) w := fun ys hy => by
    obtain ⟨xs, h1, h2, h3⟩ := resL_run hT r hy
    refine ⟨xs, h2, h3, ?_⟩
    rw [results_eq, Array.mapM_eq_mapM_toList]
    simp only [map_eq_pure_bind, Sem.run_bind, h1, Result.andThen_ok, Sem.run_pure]
  split at h
  · rename_i y hy
    obtain rfl := Option.some.inj h
    obtain ⟨xs, h1, h2, h3⟩ := key _ hy
    match xs, h1, h2, h3 with
    | [x], _, h2, h3 => exact ⟨x, by simpa using h3, show RepT F σ w x y by simpa using h2 0 (by simp)⟩
  · rename_i l hne hl
    obtain rfl := Option.some.inj h
    obtain ⟨xs, h1, h2, h3⟩ := key _ hl
    have : xs.toArray.size ≠ 1 := fun e => by
      have e' : l.length = 1 := by rw [← h1]; simpa using e
      match l, e', hne with
      | [y], _, hne => exact hne y rfl
    rw [dif_neg this] at h3
    refine ⟨_, h3, xs.toArray, rfl, by simpa using h1, fun i hi => ?_⟩
    have := h2 i hi
    simpa [List.getD_eq_getElem?_getD, Array.getD_eq_getD_getElem?] using this
  · cases h
end

def enum (i : Nat) : List SV → List (Nat × SV)
  | [] => []
  | x :: r => (i, x) :: enum (i + 1) r
theorem look_enum : ∀ {l : List SV} {i j : Nat} {x : SV}, look (enum i l) j = some x → i ≤ j ∧ l[j - i]? = some x
  | [], i, j, x, h => by simp [enum, look] at h
  | y :: r, i, j, x, h => by
    by_cases c : i = j
    · subst c
      simp only [enum, look, Nat.beq_refl, cond_true, Option.some.injEq] at h
      exact ⟨Nat.le_refl _, by simpa using h⟩
    · simp only [enum, look, beq_false c, cond_false] at h
      obtain ⟨h1, h2⟩ := look_enum h
      refine ⟨by omega, ?_⟩
      rw [show j - i = (j - (i + 1)) + 1 by omega]
      simpa using h2

/-- Names that a value, an object bears. -/
def CV.names : CV → List Nat
  | .d _ => []
  | .loc k _ | .eloc k _ _ _ | .own k => [k]
  | .clo _ caps => caps.map (·.1)
def TV.names : TV → List Nat
  | .c x => x.names
  | .agg l => l.flatMap CV.names
def SV.names : SV → List Nat
  | .t x => x.names
  | .tup l => l.flatMap TV.names
  | .any => []
def LObj.names : LObj → List Nat
  | .cells _ cs => cs.flatMap CV.names
  | _ => []

theorem CV.has_names {h : Nat} : ∀ {y : CV}, y.has h = true → h ∈ y.names
  | .d _, e => by simp [CV.has] at e
  | .loc k _, e => by simp only [CV.has] at e; simp [CV.names, beq_iff.1 e]
  | .eloc k _ _ _, e => by simp only [CV.has] at e; simp [CV.names, beq_iff.1 e]
  | .own k, e => by simp only [CV.has] at e; simp [CV.names, beq_iff.1 e]
  | .clo g caps, e => by
    simp only [CV.has, List.any_eq_true] at e
    obtain ⟨c, hc, he⟩ := e
    simp only [CV.names, List.mem_map]
    exact ⟨c, hc, beq_iff.1 he⟩
theorem TV.has_names {h : Nat} : ∀ {y : TV}, y.has h = true → h ∈ y.names
  | .c x, e => CV.has_names e
  | .agg l, e => by
    simp only [TV.has, List.any_eq_true] at e
    obtain ⟨c, hc, he⟩ := e
    simp only [TV.names, List.mem_flatMap]
    exact ⟨c, hc, CV.has_names he⟩
theorem SV.has_names {h : Nat} : ∀ {y : SV}, y.has h = true → h ∈ y.names
  | .t x, e => TV.has_names e
  | .tup l, e => by
    simp only [SV.has, List.any_eq_true] at e
    obtain ⟨c, hc, he⟩ := e
    simp only [SV.names, List.mem_flatMap]
    exact ⟨c, hc, TV.has_names he⟩
  | .any, e => by simp [SV.has] at e
theorem LObj.has_names {h : Nat} : ∀ {y : LObj}, y.has h = true → h ∈ y.names
  | .cells t cs, e => by
    simp only [LObj.has, List.any_eq_true] at e
    obtain ⟨c, hc, he⟩ := e
    simp only [LObj.names, List.mem_flatMap]
    exact ⟨c, hc, CV.has_names he⟩
  | .arr _ _ _ _, e => by simp [LObj.has] at e
  | .it _ _, e => by simp [LObj.has] at e
  | .opq _, e => by simp [LObj.has] at e

/-- Every name that the results bear is one of an object told of, ahead or behind. -/
def closedR (l : Objs) (res : SV) (l' : Objs) : Bool :=
  let ok := fun h => (look l h).isSome || (look l' h).isSome
  res.names.all ok && l'.all fun p => p.2.names.all ok

def start (n : Nat) (args : List SV) (l : Objs) : St := { n := n, slots := enum 0 args, objs := l, old := l.map (·.1) }

/-- How a body must end. -/
def Ends (T : Tab) (rs : List ResultVar) (l : Objs) (res : SV) (l' : Objs) : Exit → St → Prop := fun e S => (e = .ret ∨ e = .normal) ∧ S.old = l.map (·.1) ∧ resOf T S rs = some res ∧ ∀ h o, look l' h = some o → look S.objs h = some o

theorem any_map_fst {l : Objs} {h : Nat} : (l.map (·.1)).any (Nat.beq h) = true ↔ (look l h).isSome = true := by
  induction l with
  | nil => simp [look]
  | cons p r ih =>
    obtain ⟨j, o⟩ := p
    simp only [List.map_cons, List.any_cons, Bool.or_eq_true]
    by_cases c : j = h
    · subst c; simp [look]
    · simp only [look, beq_false c, cond_false, beq_false (Ne.symm c), Bool.false_eq_true, false_or]; exact ih

theorem sat_of_body {P : Program} {T : Tab} (hT : TabOK P T) {f : FuncId} {fn : Func} {c : Code} {args : List SV} {l l' : Objs} {res : SV} (hf : P.funcs[f]? = some fn) (hb : fn.body = some c) (hn : (fn.name == "runtime.NumGoroutine") = false)
    (hlen : args.length ≤ fn.ntmps) (hcl : closedR l res l' = true) (h : ∀ G, AWp P G c (Ends T fn.results.toList l res l') (start fn.ntmps args l)) : Sat P f args l res l' := by
  refine ⟨⟨fn, hf, by simp [hb], hn⟩, fun F σ X w vs hvs hrep hok hF => ?_⟩
  refine calls_of_wp hf hb ?_
  let G : Gh := { σ0 := σ, w0 := w, F0 := F, D0 := fun k => ∃ h o, look l h = some o ∧ X h k }
  have hR : Rel G (start fn.ntmps args l) { tmps := vs ++ Array.replicate (fn.ntmps - vs.size) undef, defers := [] } w := by
    refine ⟨F, σ, X, rfl, by simp [start]; omega, fun i sv e => ?_, hok, fun h _ => rfl, fun h o e k hk => .inr ⟨h, o, e, hk⟩, fun k hk => ⟨hF k hk, .inl hk⟩, fun _ h => h, Nat.le_refl _, fun _ _ _ => rfl, rfl, rfl, rfl⟩
    obtain ⟨_, h2⟩ := look_enum e
    simp only [Nat.sub_zero] at h2
    obtain ⟨hi, rfl⟩ := List.getElem?_eq_some_iff.1 h2
    have := hrep i hi
    have hi' : i < vs.size := by omega
    simpa [Array.getElem?_append_left hi', hi'] using this
  refine wp_mono (h G _ w hR) ?_
  rintro e a' w' ⟨S', ⟨he, hold, hres, hobj⟩, F', σ', X', r⟩
  obtain ⟨v, hrun, hv⟩ := resOf_run (fn := fn) hT r hres
  have hnames : ∀ h, ((look l h).isSome || (look l' h).isSome) = true → (if (look l' h).isSome && !(look l h).isSome then σ' h else σ h) = σ' h := fun h hh => by
    split
    · rfl
    · rename_i hn
      cases e1 : look l h with
      | some x =>
        refine (r.sig0 h ?_).symm
        rw [hold, any_map_fst, e1]
        rfl
      | none =>
        simp only [e1, Option.isSome_none, Bool.false_or] at hh
        simp [e1, hh] at hn
  have hret : bodyPost P fn (fun e w' => ∃ v, e = .returned v ∧ ∃ F' σ' X', RepS F' σ' w' v res ∧ OKs F' σ' X' w' l' ∧ Post l l' F σ X w F' σ' X' w') .normal a' w' := by
    refine ⟨r.defers, v, hrun, v, rfl, F', fun h => if (look l' h).isSome && !(look l h).isSome then σ' h else σ h, X', ?_, ⟨fun h o e => ?_, fun h h' o o' e e' => r.oks.apart h h' o o' (hobj h o e) (hobj h' o' e'), fun h o e => r.oks.live h o (hobj h o e)⟩, r.os, r.tape, r.output, r.grow, fun k hk hx => ?_, r.frz0, fun k hk => ?_, fun h o e k hk => r.foot h o (hobj h o e) k hk, fun h hh => ?_⟩
    · -- the result
      refine RepS.mono (fun _ h => h) (fun _ _ => rfl) (fun h hh => hnames h ?_) hv
      have := SV.has_names hh
      simp only [closedR, Bool.and_eq_true, List.all_eq_true] at hcl
      exact hcl.1 h this
    · rw [hnames h (by rw [e]; simp)]
      refine ObjOK.mono (fun _ h => h) (fun _ _ => rfl) (fun k hk => hnames k ?_) (r.oks.ok h o (hobj h o e))
      have := LObj.has_names hk
      simp only [closedR, Bool.and_eq_true, List.all_eq_true] at hcl
      exact hcl.2 _ (look_mem e) k this
    · exact r.same k hk fun ⟨h, o, e, hx'⟩ => hx h o e hx'
    · obtain ⟨h1, h2⟩ := r.frz k hk
      rcases h2 with h2 | h2 | h2
      · exact .inl h2
      · exact .inr ⟨h1, .inl h2⟩
      · exact .inr ⟨h1, .inr h2⟩
    · refine if_neg ?_
      rcases hh with hh | hh
      · simp [hh]
      · cases e : look l h with
        | none => exact absurd e hh
        | some x => simp
  rcases he with rfl | rfl
  · exact hret
  · exact hret
end Go.E
