/- A logic over abstract states: Eng13 .. Eng26. -/
import Derived.Test.YtjbiaoajmdbigaaEA
import Derived.Deep.AppendSrc
import Derived.Deep.Upon
import Derived.MapKept
import Derived.Laws.StructEq
import Derived.ProofKit
import Derived.OpenShut
import Derived.Deep.Slices
import Derived.Laws.MakeOwn
import Derived.Laws.IdiomStrings
set_option linter.unusedVariables false
set_option linter.unusedSimpArgs false
set_option linter.unusedSectionVars false
/- A logic over abstract states. Part 13: an array that is no longer written becomes data; calls. -/
namespace Go.E
open Go

def CV.fz (h : Nat) (es : List (List DV)) : CV → CV
  | .own k => bif Nat.beq k h then .d (.sl es) else .own k
  | y => y
def TV.fz (h : Nat) (es : List (List DV)) : TV → TV
  | .c y => .c (y.fz h es)
  | .agg l => .agg (l.map (CV.fz h es))
def SV.fz (h : Nat) (es : List (List DV)) : SV → SV
  | .t y => .t (y.fz h es)
  | .tup l => .tup (l.map (TV.fz h es))
  | .any => .any
def LObj.fz (h : Nat) (es : List (List DV)) : LObj → LObj
  | .cells t cs => .cells t (cs.map (CV.fz h es))
  | o => o
def fzS (h : Nat) (es : List (List DV)) : List (Nat × SV) → List (Nat × SV)
  | [] => []
  | (i, x) :: r => (i, x.fz h es) :: fzS h es r
def fzO (h : Nat) (es : List (List DV)) : Objs → Objs
  | [] => []
  | (k, o) :: r => (k, o.fz h es) :: fzO h es r
def St.fz (h : Nat) (S : St) : Option St :=
  match look S.objs h with
  | some (.arr _ _ _ es) => some { S with slots := fzS h es S.slots, objs := fzO h es (cut S.objs h) }
  | _ => none

theorem look_fzS {h : Nat} {es : List (List DV)} : ∀ {l : List (Nat × SV)} {i : Nat} {x : SV}, look (fzS h es l) i = some x → ∃ y, look l i = some y ∧ x = y.fz h es
  | [], i, x, h => by simp [fzS, look] at h
  | (j, y) :: r, i, x, h => by
    by_cases c : j = i
    · subst c
      simp only [fzS, look, Nat.beq_refl, cond_true, Option.some.injEq] at h
      exact ⟨y, by simp [look], h.symm⟩
    · simp only [fzS, look, beq_false c, cond_false] at h
      obtain ⟨z, h1, h2⟩ := look_fzS h
      exact ⟨z, by simp only [look, beq_false c, cond_false]; exact h1, h2⟩
theorem look_fzO {h : Nat} {es : List (List DV)} : ∀ {l : Objs} {i : Nat} {x : LObj}, look (fzO h es l) i = some x → ∃ y, look l i = some y ∧ x = y.fz h es
  | [], i, x, h => by simp [fzO, look] at h
  | (j, y) :: r, i, x, h => by
    by_cases c : j = i
    · subst c
      simp only [fzO, look, Nat.beq_refl, cond_true, Option.some.injEq] at h
      exact ⟨y, by simp [look], h.symm⟩
    · simp only [fzO, look, beq_false c, cond_false] at h
      obtain ⟨z, h1, h2⟩ := look_fzO h
      exact ⟨z, by simp only [look, beq_false c, cond_false]; exact h1, h2⟩

section
variable {F : Nat → Prop} {σ : Nat → Value} {w : World} {h : Nat} {es : List (List DV)} (hd : RepD F w (σ h) (.sl es))
include hd
theorem RepC.fz {x : Value} {y : CV} (r : RepC F σ w x y) : RepC F σ w x (y.fz h es) := by
  cases y with
  | own k =>
    simp only [CV.fz]
    by_cases c : k = h
    · subst c
      simp only [Nat.beq_refl, cond_true]
      obtain ⟨rfl, _⟩ := r
      exact hd
    · simp only [beq_false c, cond_false]; exact r
  | _ => exact r
theorem RepT.fz {x : Value} {y : TV} (r : RepT F σ w x y) : RepT F σ w x (y.fz h es) := by
  cases y with
  | c y => exact RepC.fz hd r
  | agg l => obtain ⟨cs, h1, h2, h3⟩ := r; exact ⟨cs, h1, by simpa using h2, fun i hi => by simpa using RepC.fz hd (h3 i (by simpa using hi))⟩
theorem RepS.fz {x : Value} {y : SV} (r : RepS F σ w x y) : RepS F σ w x (y.fz h es) := by
  cases y with
  | t y => exact RepT.fz hd r
  | tup l => obtain ⟨cs, h1, h2, h3⟩ := r; exact ⟨cs, h1, by simpa using h2, fun i hi => by simpa using RepT.fz hd (h3 i (by simpa using hi))⟩
  | any => trivial
theorem ObjOK.fz {x : Value} {X : Nat → Prop} {o : LObj} (r : ObjOK F σ w x X o) : ObjOK F σ w x X (o.fz h es) := by
  cases o with
  | cells t cs => obtain ⟨c, vs, h1, h2, h3, h4, h5⟩ := r; exact ⟨c, vs, h1, h2, h3, by simpa using h4, fun i hi => by simpa using RepC.fz hd (h5 i (by simpa using hi))⟩
  | arr => exact r
  | it => exact r
  | opq => exact r
end

/-- What an array holds, as data. -/
theorem arr_data {F : Nat → Prop} {σ : Nat → Value} {w : World} {x : Value} {X : Nat → Prop} {e sz bytes : Nat} {es : List (List DV)} (h : ObjOK F σ w x X (.arr e sz bytes es)) : RepD (fun k => F k ∨ X k) w x (.sl es) := by
  obtain ⟨xs, h1, h2, h3, _, h5⟩ := h
  have hmono : ∀ {x y}, RepD F w x y → RepD (fun k => F k ∨ X k) w x y := fun r => RepD.mono (fun _ h => .inl h) (fun _ _ => rfl) r
  rcases h1.2 with ⟨rfl, h0⟩ | ⟨g, cap, cur, rfl, _, hh, h6, h7, h8, h9⟩
  · obtain rfl : es = [] := List.eq_nil_of_length_eq_zero h0
    exact RepD.sl none 0 sz [] (fun _ _ => undef) (Nat.le_refl _) (by simp) (by simp) (fun h => by simp at h) (fun _ => rfl) (fun i h => by simp at h)
  · refine RepD.sl (some ⟨g, 0, none⟩) cap sz es (fun i j => xs.getD (i * sz + j) undef) h6 h7 h3 (fun _ => ⟨g, 0, rfl, .inr ((h2 g).2 rfl), fun i j hi hj => ?_⟩) (fun e => by cases e) fun i hi j hj => hmono (h5 i hi j hj)
    have hmul : (i + 1) * sz ≤ es.length * sz := Nat.mul_le_mul_right _ hi
    have hlt : i * sz + j < es.length * sz := by rw [Nat.add_mul, Nat.one_mul] at hmul; omega
    rw [Nat.zero_add, cell_of_row w g _ cur _ _ hh]
    have hx2 : xs[i * sz + j]? = cur[i * sz + j]? := by rw [← h9, List.getElem?_take_of_lt hlt]; simp
    rw [← hx2]
    have hl := h1.1
    simp [show i * sz + j < xs.length by omega]

theorem Rel.fz {G : Gh} {S S' : St} {a : Act} {w : World} {h : Nat} (hR : Rel G S a w) (hs : S.fz h = some S') : Rel G S' a w := by
  obtain ⟨F, σ, X, r⟩ := hR
  unfold St.fz at hs
  split at hs
  · rename_i e sz bytes es ho
    obtain rfl := Option.some.inj hs
    have hok := r.oks.ok h _ ho
    have hd := arr_data hok
    have hF : ∀ b, F b → F b ∨ X h b := fun _ h => .inl h
    have hcut : ∀ k o, look (cut S.objs h) k = some o → h ≠ k ∧ look S.objs k = some o := fun k o e => by
      rw [look_cut] at e
      by_cases c : h = k
      · simp [c] at e
      · simp only [c, if_false] at e; exact ⟨c, e⟩
    have hob : ∀ k o, look (fzO h es (cut S.objs h)) k = some o → ∃ y, h ≠ k ∧ look S.objs k = some y ∧ o = y.fz h es := fun k o e => by
      obtain ⟨y, h1, h2⟩ := look_fzO e
      obtain ⟨c, h3⟩ := hcut k y h1
      exact ⟨y, c, h3, h2⟩
    refine ⟨fun k => F k ∨ X h k, σ, X, r.defers, r.size, fun i sv e => ?_, ⟨fun k o e => ?_, fun k k' o o' e e' hne => ?_, fun k o e => ?_⟩, r.sig0, fun k o e => ?_, fun k hk => ?_, fun k hk => .inl (r.frz0 k hk), r.grow, r.same, r.os, r.tape, r.output⟩
    · obtain ⟨y, h1, rfl⟩ := look_fzS e
      exact RepS.fz hd (RepS.mono hF (fun _ _ => rfl) (fun _ _ => rfl) (r.slots i y h1))
    · obtain ⟨y, _, h1, rfl⟩ := hob k o e
      exact ObjOK.fz hd (ObjOK.mono hF (fun _ _ => rfl) (fun _ _ => rfl) (r.oks.ok k y h1))
    · obtain ⟨y, _, h1, rfl⟩ := hob k o e
      obtain ⟨y', _, h1', rfl⟩ := hob k' o' e'
      exact r.oks.apart k k' y y' h1 h1' hne
    · obtain ⟨y, c, h1, rfl⟩ := hob k o e
      intro j hj
      obtain ⟨h2, h3⟩ := r.oks.live k y h1 j hj
      exact ⟨h2, fun h4 => h4.elim h3 fun h5 => r.oks.apart h k _ y ho h1 c j h5 hj⟩
    · obtain ⟨y, _, h1, rfl⟩ := hob k o e
      exact r.foot k y h1
    · rcases hk with hk | hk
      · exact r.frz k hk
      · exact ⟨(r.oks.live h _ ho k hk).1, (r.foot h _ ho k hk).elim (fun h => .inr (.inl h)) fun h => .inr (.inr h)⟩
  · cases hs
theorem awp_fz {P : Program} {G : Gh} {c : Code} {Q : Exit → St → Prop} {S S' : St} {h : Nat} (hs : S.fz h = some S') (hw : AWp P G c Q S') : AWp P G c Q S := fun a w hR => hw a w (hR.fz hs)

/-! ### Calls -/
/-- A function that is entered when it is called. -/
def Ent (P : Program) (f : FuncId) : Prop := ∃ fn, P.funcs[f]? = some fn ∧ fn.body.isNone = false ∧ (fn.name == "runtime.NumGoroutine") = false

/-- What is told of a function: at arguments that represent 'args', in a world with the objects of l, it returns what represents 'res', and leaves the objects of l'. -/
def Sat (P : Program) (f : FuncId) (args : List SV) (l : Objs) (res : SV) (l' : Objs) : Prop :=
  Ent P f ∧ ∀ (F : Nat → Prop) (σ : Nat → Value) (X : Nat → Nat → Prop) (w : World) (vs : Array Value), vs.size = args.length → (∀ i (h : i < args.length), RepS F σ w (vs.getD i undef) args[i]) → OKs F σ X w l → (∀ k, F k → k < w.heap.size) →
    Calls P f vs w fun e w' => ∃ v, e = .returned v ∧ ∃ F' σ' X', RepS F' σ' w' v res ∧ OKs F' σ' X' w' l' ∧ Post l l' F σ X w F' σ' X' w'

theorem Reps.get {F : Nat → Prop} {σ : Nat → Value} {w : World} {a : Act} : ∀ {xs : List Operand} {ss : List SV}, Reps F σ w a xs ss → xs.length = ss.length ∧ ∀ i (h : i < ss.length), ∃ x, xs[i]? = some x ∧ RepS F σ w (a.eval x) ss[i]
  | [], [], _ => ⟨rfl, fun i h => by simp at h⟩
  | x :: xs, s :: ss, ⟨h1, h2⟩ => by
    obtain ⟨h3, h4⟩ := Reps.get h2
    refine ⟨by simp [h3], fun i hi => ?_⟩
    cases i with
    | zero => exact ⟨x, rfl, h1⟩
    | succ i =>
      obtain ⟨y, h5, h6⟩ := h4 i (by simpa using hi)
      exact ⟨y, by simpa using h5, by simpa using h6⟩

def fnv (f : FuncId) : SV := sc (.func (.func f) #[] #[])

theorem tri_call {P : Program} {f : FuncId} {g : Operand} {as : Array Operand} {ats : Array TypeId} {t : TypeId} {args : List SV} {l l' : Objs} {res : SV} (h : Sat P f args l res l') :
    Tri P (mkO (.call { callee := .value g, args := as, argTypes := ats }) t) (fnv f :: args) l res l' := by
  intro F σ X w a hr hok hF
  obtain ⟨⟨fn, hf, hb, hn⟩, hc⟩ := h
  have hops : (mkO (.call { callee := .value g, args := as, argTypes := ats }) t).op.operands.toList = g :: as.toList := by simp [mkO, Op.operands, Call.operands]
  rw [hops] at hr
  obtain ⟨h1, h2⟩ := hr
  have hg : a.eval g = .func (.func f) #[] #[] := scal_rep h1 rfl
  have hrun : (execOp a.eval (mkO (.call { callee := .value g, args := as, argTypes := ats }) t)).run P w = .ok (.enter f (as.map a.eval)) w := by
    simp only [execOp, mkO, resolve, hg, Deferred.ofValue, Sem.run_bind, Sem.run_pure, Result.andThen_ok, invoke, callFunc, program, Sem.run, hf, hn, hb]
    simp
  rw [hrun]
  obtain ⟨h3, h4⟩ := h2.get
  refine Calls.mono (hc F σ X w (as.map a.eval) (by simpa using h3) (fun i hi => ?_) hok hF) fun e w' he => he
  obtain ⟨x, h5, h6⟩ := h4 i hi
  have h5' : as[i]? = some x := by simpa using h5
  simpa [h5'] using h6
end Go.E

/- A logic over abstract states. Part 14: from a body to what is told of a function. -/
namespace Go.E
open Go

theorem loadVar_loc {P : Program} {T : Tab} (hT : TabOK P T) {t ct : TypeId} {ti : TI} {h off : Nat} {cs : List CV} {r : TV} (ht : look T t = some ti) (h1 : ti.agg = false → ti.size = 1) (hp : piece ti.agg ti.size (cs.drop off) = some r)
    {F : Nat → Prop} {σ : Nat → Value} {X : Nat → Prop} {w : World} {x : Value} (hx : RepC F σ w x (.loc h off)) (hok : ObjOK F σ w (σ h) X (.cells ct cs)) : ∃ ad v, x = .pointer (some ad) ∧ (loadVar t ad).run P w = .ok v w ∧ RepT F σ w v r := by
  obtain ⟨b, hb, rfl⟩ := hx
  obtain ⟨b', vs, e1, _, e3, e4, e5⟩ := hok
  rw [hb] at e1
  obtain rfl : b = b' := by simpa using e1
  obtain ⟨q1, q2, q3⟩ := piece_rep (F := F) (σ := σ) (w := w) hp (fun i => vs.getD (off + i) undef) (fun i hi => by
    simp only [List.length_drop] at hi
    simpa using e5 (off + i) (by omega))
  simp only [List.length_drop] at q2 q3
  have hle : 0 < ti.size → off + ti.size ≤ cs.length := by
    cases e : ti.agg with
    | true => have := q2 e; intro; omega
    | false => have := q3 e; have := h1 e; omega
  exact ⟨_, _, rfl, run_loadVar_ti (hT t ti ht) w b off _ (fun j hj => by
    rw [cell_of_row w b _ vs ct _ e3]
    have : off + j < vs.size := by rw [e4]; have := hle (by omega); omega
    simp [this]) (fun e => by have := h1 e; omega), q1⟩

/-- What a function hands back. -/
def resT (T : Tab) (S : St) : ResultVar → Option TV
  | .tmp t => match look S.slots t with
    | some (.t y) => some y
    | _ => none
  | .cell a t => match look S.slots a, look T t with
    | some (.t (.c (.loc h off))), some ti => match look S.objs h with
      | some (.cells _ cs) => bif ti.agg || Nat.beq ti.size 1 then piece ti.agg ti.size (cs.drop off) else none
      | _ => none
    | _, _ => none
def resL (T : Tab) (S : St) : List ResultVar → Option (List TV)
  | [] => some []
  | r :: rs => match resT T S r, resL T S rs with
    | some y, some l => some (y :: l)
    | _, _ => none
def resOf (T : Tab) (S : St) (rs : List ResultVar) : Option SV :=
  match resL T S rs with
  | some [y] => some (.t y)
  | some l => some (.tup l)
  | none => none

def resV (tmps : Array Value) : ResultVar → Sem Value
  | .tmp t => pure (tmps.getD t undef)
  | .cell p t => do loadVar t (← asAddr (tmps.getD p undef))
theorem results_eq (fn : Func) (tmps : Array Value) : results fn tmps = (do
    let vs ← fn.results.mapM (resV tmps)
    pure (if h : vs.size = 1 then vs[0] else .tuple vs)) := rfl

section
variable {P : Program} {T : Tab} (hT : TabOK P T) {G : Gh} {F : Nat → Prop} {σ : Nat → Value} {X : Nat → Nat → Prop} {S : St} {a : Act} {w : World} (r : RelX G F σ X S a w)
include hT r

theorem resT_run {v : ResultVar} {y : TV} (h : resT T S v = some y) : ∃ x, (resV a.tmps v).run P w = .ok x w ∧ RepT F σ w x y := by
  unfold resT at h
  cases v with
  | tmp t =>
    dsimp only at h ⊢
    split at h
    · rename_i z hz
      obtain rfl := Option.some.inj h
      exact ⟨_, rfl, r.slots t _ hz⟩
    · cases h
  | cell p t =>
    dsimp only at h ⊢
    split at h
    · rename_i hh off ti hs ht
      split at h
      · rename_i ct cs ho
        cases h1 : (ti.agg || Nat.beq ti.size 1) with
        | false => simp [h1] at h
        | true =>
          simp only [h1, cond_true] at h
          obtain ⟨ad, v, e1, e2, e3⟩ := loadVar_loc hT ht (fun e => by simp only [e, Bool.false_or] at h1; exact beq_iff.1 h1) h (r.slots p _ hs) (r.oks.ok hh _ ho)
          refine ⟨v, ?_, e3⟩
          simp only [resV, e1, asAddr, Sem.run_bind, Sem.run_pure, Result.andThen_ok, e2]
      · cases h
    · cases h

theorem resL_run : ∀ {vs : List ResultVar} {ys : List TV}, resL T S vs = some ys → ∃ xs : List Value, (vs.mapM (resV a.tmps) : Sem (List Value)).run P w = .ok xs w ∧
    xs.length = ys.length ∧ ∀ i (h : i < ys.length), RepT F σ w (xs.getD i undef) ys[i]
  | [], ys, h => by
    simp only [resL, Option.some.injEq] at h
    subst h
    exact ⟨[], rfl, rfl, fun i h => by simp at h⟩
  | v :: vs, ys, h => by
    simp only [resL] at h
    cases e1 : resT T S v with
    | none => simp [e1] at h
    | some y =>
      cases e2 : resL T S vs with
      | none => simp [e1, e2] at h
      | some l =>
        simp only [e1, e2, Option.some.injEq] at h
        subst h
        obtain ⟨x, h1, h2⟩ := resT_run hT r e1
        obtain ⟨xs, h3, h4, h5⟩ := resL_run e2
        refine ⟨x :: xs, ?_, by simp [h4], fun i hi => ?_⟩
        · rw [List.mapM_cons, Sem.run_bind]
          rw [h1]
          simp only [Result.andThen_ok, Sem.run_bind, h3]
          rfl
        · cases i with
          | zero => simpa using h2
          | succ i => simpa using h5 i (by simpa using hi)

theorem resOf_run {fn : Func} {res : SV} (h : resOf T S fn.results.toList = some res) : ∃ v, (results fn a.tmps).run P w = .ok v w ∧ RepS F σ w v res := by
  unfold resOf at h
  have key : ∀ ys, resL T S fn.results.toList = some ys → ∃ xs : List Value, xs.length = ys.length ∧ (∀ i (h : i < ys.length), RepT F σ w (xs.getD i undef) ys[i]) ∧
      (results fn a.tmps).run P w = .ok (if h : xs.toArray.size = 1 then xs.toArray[0] else .tuple xs.toArray) w := fun ys hy => by
    obtain ⟨xs, h1, h2, h3⟩ := resL_run hT r hy
    refine ⟨xs, h2, h3, ?_⟩
    rw [results_eq, Array.mapM_eq_mapM_toList]
    simp only [map_eq_pure_bind, Sem.run_bind, h1, Result.andThen_ok, Sem.run_pure]
  split at h
  · rename_i y hy
    obtain rfl := Option.some.inj h
    obtain ⟨xs, h1, h2, h3⟩ := key _ hy
    match xs, h1, h2, h3 with
    | [x], _, h2, h3 => exact ⟨x, by simpa using h3, show RepT F σ w x y by simpa using h2 0 (by simp)⟩
  · rename_i l hne hl
    obtain rfl := Option.some.inj h
    obtain ⟨xs, h1, h2, h3⟩ := key _ hl
    have : xs.toArray.size ≠ 1 := fun e => by
      have e' : l.length = 1 := by rw [← h1]; simpa using e
      match l, e', hne with
      | [y], _, hne => exact hne y rfl
    rw [dif_neg this] at h3
    refine ⟨_, h3, xs.toArray, rfl, by simpa using h1, fun i hi => ?_⟩
    have := h2 i hi
    simpa [List.getD_eq_getElem?_getD, Array.getD_eq_getD_getElem?] using this
  · cases h
end

def enum (i : Nat) : List SV → List (Nat × SV)
  | [] => []
  | x :: r => (i, x) :: enum (i + 1) r
theorem look_enum : ∀ {l : List SV} {i j : Nat} {x : SV}, look (enum i l) j = some x → i ≤ j ∧ l[j - i]? = some x
  | [], i, j, x, h => by simp [enum, look] at h
  | y :: r, i, j, x, h => by
    by_cases c : i = j
    · subst c
      simp only [enum, look, Nat.beq_refl, cond_true, Option.some.injEq] at h
      exact ⟨Nat.le_refl _, by simpa using h⟩
    · simp only [enum, look, beq_false c, cond_false] at h
      obtain ⟨h1, h2⟩ := look_enum h
      refine ⟨by omega, ?_⟩
      rw [show j - i = (j - (i + 1)) + 1 by omega]
      simpa using h2

/-- Names that a value, an object bears. -/
def CV.names : CV → List Nat
  | .d _ => []
  | .loc k _ | .eloc k _ _ _ | .own k => [k]
  | .clo _ caps => caps.map (·.1)
def TV.names : TV → List Nat
  | .c x => x.names
  | .agg l => l.flatMap CV.names
def SV.names : SV → List Nat
  | .t x => x.names
  | .tup l => l.flatMap TV.names
  | .any => []
def LObj.names : LObj → List Nat
  | .cells _ cs => cs.flatMap CV.names
  | _ => []

theorem CV.has_names {h : Nat} : ∀ {y : CV}, y.has h = true → h ∈ y.names
  | .d _, e => by simp [CV.has] at e
  | .loc k _, e => by simp only [CV.has] at e; simp [CV.names, beq_iff.1 e]
  | .eloc k _ _ _, e => by simp only [CV.has] at e; simp [CV.names, beq_iff.1 e]
  | .own k, e => by simp only [CV.has] at e; simp [CV.names, beq_iff.1 e]
  | .clo g caps, e => by
    simp only [CV.has, List.any_eq_true] at e
    obtain ⟨c, hc, he⟩ := e
    simp only [CV.names, List.mem_map]
    exact ⟨c, hc, beq_iff.1 he⟩
theorem TV.has_names {h : Nat} : ∀ {y : TV}, y.has h = true → h ∈ y.names
  | .c x, e => CV.has_names e
  | .agg l, e => by
    simp only [TV.has, List.any_eq_true] at e
    obtain ⟨c, hc, he⟩ := e
    simp only [TV.names, List.mem_flatMap]
    exact ⟨c, hc, CV.has_names he⟩
theorem SV.has_names {h : Nat} : ∀ {y : SV}, y.has h = true → h ∈ y.names
  | .t x, e => TV.has_names e
  | .tup l, e => by
    simp only [SV.has, List.any_eq_true] at e
    obtain ⟨c, hc, he⟩ := e
    simp only [SV.names, List.mem_flatMap]
    exact ⟨c, hc, TV.has_names he⟩
  | .any, e => by simp [SV.has] at e
theorem LObj.has_names {h : Nat} : ∀ {y : LObj}, y.has h = true → h ∈ y.names
  | .cells t cs, e => by
    simp only [LObj.has, List.any_eq_true] at e
    obtain ⟨c, hc, he⟩ := e
    simp only [LObj.names, List.mem_flatMap]
    exact ⟨c, hc, CV.has_names he⟩
  | .arr _ _ _ _, e => by simp [LObj.has] at e
  | .it _ _, e => by simp [LObj.has] at e
  | .opq _, e => by simp [LObj.has] at e

/-- Every name that the results bear is one of an object told of, ahead or behind. -/
def closedR (l : Objs) (res : SV) (l' : Objs) : Bool :=
  let ok := fun h => (look l h).isSome || (look l' h).isSome
  res.names.all ok && l'.all fun p => p.2.names.all ok

def start (n : Nat) (args : List SV) (l : Objs) : St := { n := n, slots := enum 0 args, objs := l, old := l.map (·.1) }

/-- How a body must end. -/
def Ends (T : Tab) (rs : List ResultVar) (l : Objs) (res : SV) (l' : Objs) : Exit → St → Prop := fun e S => (e = .ret ∨ e = .normal) ∧ S.old = l.map (·.1) ∧ resOf T S rs = some res ∧ ∀ h o, look l' h = some o → look S.objs h = some o

theorem any_map_fst {l : Objs} {h : Nat} : (l.map (·.1)).any (Nat.beq h) = true ↔ (look l h).isSome = true := by
  induction l with
  | nil => simp [look]
  | cons p r ih =>
    obtain ⟨j, o⟩ := p
    simp only [List.map_cons, List.any_cons, Bool.or_eq_true]
    by_cases c : j = h
    · subst c; simp [look]
    · simp only [look, beq_false c, cond_false, beq_false (Ne.symm c), Bool.false_eq_true, false_or]; exact ih

theorem sat_of_body {P : Program} {T : Tab} (hT : TabOK P T) {f : FuncId} {fn : Func} {c : Code} {args : List SV} {l l' : Objs} {res : SV} (hf : P.funcs[f]? = some fn) (hb : fn.body = some c) (hn : (fn.name == "runtime.NumGoroutine") = false)
    (hlen : args.length ≤ fn.ntmps) (hcl : closedR l res l' = true) (h : ∀ G, AWp P G c (Ends T fn.results.toList l res l') (start fn.ntmps args l)) : Sat P f args l res l' := by
  refine ⟨⟨fn, hf, by simp [hb], hn⟩, fun F σ X w vs hvs hrep hok hF => ?_⟩
  refine calls_of_wp hf hb ?_
  let G : Gh := { σ0 := σ, w0 := w, F0 := F, D0 := fun k => ∃ h o, look l h = some o ∧ X h k }
  have hR : Rel G (start fn.ntmps args l) { tmps := vs ++ Array.replicate (fn.ntmps - vs.size) undef, defers := [] } w := by
    refine ⟨F, σ, X, rfl, by simp [start]; omega, fun i sv e => ?_, hok, fun h _ => rfl, fun h o e k hk => .inr ⟨h, o, e, hk⟩, fun k hk => ⟨hF k hk, .inl hk⟩, fun _ h => h, Nat.le_refl _, fun _ _ _ => rfl, rfl, rfl, rfl⟩
    obtain ⟨_, h2⟩ := look_enum e
    simp only [Nat.sub_zero] at h2
    obtain ⟨hi, rfl⟩ := List.getElem?_eq_some_iff.1 h2
    have := hrep i hi
    have hi' : i < vs.size := by omega
    simpa [Array.getElem?_append_left hi', hi'] using this
  refine wp_mono (h G _ w hR) ?_
  rintro e a' w' ⟨S', ⟨he, hold, hres, hobj⟩, F', σ', X', r⟩
  obtain ⟨v, hrun, hv⟩ := resOf_run (fn := fn) hT r hres
  have hnames : ∀ h, ((look l h).isSome || (look l' h).isSome) = true → (if (look l' h).isSome && !(look l h).isSome then σ' h else σ h) = σ' h := fun h hh => by
    split
    · rfl
    · rename_i hn
      cases e1 : look l h with
      | some x =>
        refine (r.sig0 h ?_).symm
        rw [hold, any_map_fst, e1]
        rfl
      | none =>
        simp only [e1, Option.isSome_none, Bool.false_or] at hh
        simp [e1, hh] at hn
  have hret : bodyPost P fn (fun e w' => ∃ v, e = .returned v ∧ ∃ F' σ' X', RepS F' σ' w' v res ∧ OKs F' σ' X' w' l' ∧ Post l l' F σ X w F' σ' X' w') .normal a' w' := by
    refine ⟨r.defers, v, hrun, v, rfl, F', fun h => if (look l' h).isSome && !(look l h).isSome then σ' h else σ h, X', ?_, ⟨fun h o e => ?_, fun h h' o o' e e' => r.oks.apart h h' o o' (hobj h o e) (hobj h' o' e'), fun h o e => r.oks.live h o (hobj h o e)⟩, r.os, r.tape, r.output, r.grow, fun k hk hx => ?_, r.frz0, fun k hk => ?_, fun h o e k hk => r.foot h o (hobj h o e) k hk, fun h hh => ?_⟩
    · -- the result
      refine RepS.mono (fun _ h => h) (fun _ _ => rfl) (fun h hh => hnames h ?_) hv
      have := SV.has_names hh
      simp only [closedR, Bool.and_eq_true, List.all_eq_true] at hcl
      exact hcl.1 h this
    · rw [hnames h (by rw [e]; simp)]
      refine ObjOK.mono (fun _ h => h) (fun _ _ => rfl) (fun k hk => hnames k ?_) (r.oks.ok h o (hobj h o e))
      have := LObj.has_names hk
      simp only [closedR, Bool.and_eq_true, List.all_eq_true] at hcl
      exact hcl.2 _ (look_mem e) k this
    · exact r.same k hk fun ⟨h, o, e, hx'⟩ => hx h o e hx'
    · obtain ⟨h1, h2⟩ := r.frz k hk
      rcases h2 with h2 | h2 | h2
      · exact .inl h2
      · exact .inr ⟨h1, .inl h2⟩
      · exact .inr ⟨h1, .inr h2⟩
    · refine if_neg ?_
      rcases hh with hh | hh
      · simp [hh]
      · cases e : look l h with
        | none => exact absurd e hh
        | some x => simp
  rcases he with rfl | rfl
  · exact hret
  · exact hret
end Go.E

/- A logic over abstract states. Part 15: what a walk is put together of. -/
namespace Go.E
open Go

/-- A region, and what is kept of the state behind it. -/
def runK (P : Program) (T : Tab) (D : List Nat) (hints : List (Nat × Hint)) (ops : List Oper) (open_ : Bool) (ks hs : List Nat) (S : St) : Option (St × List Ob) :=
  match runR P T D hints ops open_ S with
  | some (S', obs) => some (S'.keep ks hs, obs)
  | none => none

section
variable {P : Program} {T : Tab} (hT : TabOK P T) {G : Gh}

include hT in
theorem awp_region_keep (D : List Nat) (hints : List (Nat × Hint)) {ops : List Oper} {open_ : Bool} (ks hs : List Nat) {S : St} (S' : St) (obs : List Ob) (hm : P.follows .mixedOrders = true) (h : runK P T D hints ops open_ ks hs S = some (S', obs)) (ho : AllHold P obs)
    {id : Nat} {Q : Exit → St → Prop} (hQ : Q .normal S') : AWp P G (.region id ops.toArray open_) Q S := by
  unfold runK at h
  split at h
  · rename_i S2 obs2 hr
    obtain ⟨rfl, rfl⟩ := Prod.mk.inj (Option.some.inj h)
    intro a w hR
    refine wp_mono (awp_region (Q := fun e S => e = .normal ∧ S = S2) hT hr ho (fun _ => hm) ⟨rfl, rfl⟩ a w hR) ?_
    rintro e a' w' ⟨S3, ⟨rfl, rfl⟩, hR'⟩
    exact ⟨_, hQ, hR'.less (St.keep_tells _ ks hs)⟩
  · cases h
end

section peel
variable {P : Program} {G : Gh} {c : Code} {Q : Exit → St → Prop} {S : St} {K : St → Prop} {id id' : Nat}
theorem peel_seq (h : AWp P G c Q S) : QSeq (AWp P G c Q) Q .normal S := h
theorem peel_seq_exit (h : Q (.exit id) S) : QSeq K Q (.exit id) S := h
theorem peel_seq_ret (h : Q .ret S) : QSeq K Q .ret S := h
theorem peel_block (h : Q .normal S) : QBlock id Q .normal S := h
theorem peel_block_ret (h : Q .ret S) : QBlock id Q .ret S := h
theorem peel_hit (h : Q .normal S) : QBlock id Q (.exit id) S := by simp only [QBlock, if_true]; exact h
theorem peel_miss (hne : id' ≠ id) (h : Q (.exit id') S) : QBlock id Q (.exit id') S := by simp only [QBlock, if_neg hne]; exact h
theorem peel_round {ι : Type} {I : ι → St} {J : ι → Prop} {μ : ι → Nat} {x : ι} (y : ι) (hs : S = I y) (hj : J y) (hm : μ y < μ x) : QSeq (fun S' => ∃ y, S' = I y ∧ J y ∧ μ y < μ x) Q .normal S := ⟨y, hs, hj, hm⟩
/-- Where ways meet again: the state that both come to. -/
theorem awp_meet {x y : Code} (S1 : St) (h1 : AWp P G x (QSeq (fun S' => S' = S1) Q) S) (h2 : AWp P G y Q S1) : AWp P G (.seq x y) Q S := awp_seq (awp_mono h1 fun e S' q => by
  cases e with
  | normal => exact (show S' = S1 from q) ▸ h2
  | _ => exact q)
theorem peel_met {S1 : St} (h : S = S1) : QSeq (fun S' => S' = S1) Q .normal S := h
end peel

theorem ends_ret {T : Tab} {rs : List ResultVar} {l l' : Objs} {res : SV} {S : St} (h1 : S.old = l.map (·.1)) (h2 : resOf T S rs = some res) (h3 : gather S.objs (l'.map (·.1)) = some l') : Ends T rs l res l' .ret S := ⟨.inl rfl, h1, h2, gather_look h3⟩
theorem ends_end {T : Tab} {rs : List ResultVar} {l l' : Objs} {res : SV} {S : St} (h1 : S.old = l.map (·.1)) (h2 : resOf T S rs = some res) (h3 : gather S.objs (l'.map (·.1)) = some l') : Ends T rs l res l' .normal S := ⟨.inr rfl, h1, h2, gather_look h3⟩
/-- The state is written otherwise. -/
theorem awp_as {P : Program} {G : Gh} {c : Code} {Q : Exit → St → Prop} {S : St} (S' : St) (h : S = S') (hw : AWp P G c Q S') : AWp P G c Q S := h ▸ hw
theorem q_as {Q : Exit → St → Prop} {e : Exit} {S : St} (S' : St) (h : S = S') (hq : Q e S') : Q e S := h ▸ hq
theorem q_keep {P : Program} {G : Gh} {c : Code} {Q : Exit → St → Prop} {S : St} (ks hs : List Nat) (h : AWp P G c Q (S.keep ks hs)) : AWp P G c Q S := awp_less (St.keep_tells S ks hs) h

/-! ### Numbers -/
theorem tri_scalar_eq {P : Program} {op : Op} {ty : TypeId} {vals : List SV} (vs : List Value) (r : Value) {r' : Value} (h1 : r.oneCell' = true) (hn : noSel op = true) (hs : scals vals = some vs) (hp : runP P (execOp (asg op.operands.toList vs) (mkO op ty)) = some (.value r)) (he : r = r') :
    Tri P (mkO op ty) vals [] (sc r') [] := he ▸ tri_scalar h1 hn hs hp

theorem tri_int {P : Program} {op : BinOp} {t u ty : TypeId} {x y : Operand} {k : IntKind} {a b : Int} (c : Int) (h : (match op with | .add => k.wrap (a + b) | .sub => k.wrap (a - b) | .mul => k.wrap (a * b) | _ => c + 1) = c) :
    Tri P (mkO (.binOp op t x y u) ty) [sc (.int k a), sc (.int k b)] [] (sc (.int k c)) [] :=
  tri_of_value fun F σ X w ac hr _ => by
    have hx : ac.eval x = .int k a := scal_rep hr.1 rfl
    have hy : ac.eval y = .int k b := scal_rep hr.2.1 rfl
    refine ⟨.int k c, ?_, RepD.v _ rfl⟩
    cases op <;> first
      | (simp only [execOp, mkO, hx, hy, eqGuard, binOp, Op.intArith] at h ⊢; simp [h]; done)
      | (exfalso; dsimp only at h; omega)

theorem tri_max {P : Program} {ty : TypeId} {x y : Operand} {ats : Array TypeId} {k : IntKind} {a b : Int} : Tri P (mkO (.call { callee := .builtin .max, args := #[x, y], argTypes := ats }) ty) [sc (.int k a), sc (.int k b)] [] (sc (.int k (max a b))) [] :=
  tri_of_value fun F σ X w ac hr _ => by
    have hx : ac.eval x = .int k a := scal_rep hr.1 rfl
    have hy : ac.eval y = .int k b := scal_rep hr.2.1 rfl
    refine ⟨.int k (max a b), ?_, RepD.v _ rfl⟩
    have : (if b > a then b else a) = max a b := by split <;> omega
    simp [execOp, mkO, hx, hy, resolve, invoke, builtin, Builtin.max_, Builtin.max2, this]
theorem tri_min {P : Program} {ty : TypeId} {x y : Operand} {ats : Array TypeId} {k : IntKind} {a b : Int} : Tri P (mkO (.call { callee := .builtin .min, args := #[x, y], argTypes := ats }) ty) [sc (.int k a), sc (.int k b)] [] (sc (.int k (min a b))) [] :=
  tri_of_value fun F σ X w ac hr _ => by
    have hx : ac.eval x = .int k a := scal_rep hr.1 rfl
    have hy : ac.eval y = .int k b := scal_rep hr.2.1 rfl
    refine ⟨.int k (min a b), ?_, RepD.v _ rfl⟩
    have : (if b < a then b else a) = min a b := by split <;> omega
    simp [execOp, mkO, hx, hy, resolve, invoke, builtin, Builtin.min_, Builtin.min2, this]

theorem wrap_i64 {n : Int} (h : -9223372036854775808 ≤ n ∧ n ≤ 9223372036854775807) : IntKind.i64.wrap n = n := IntWalk.i64_in n h
end Go.E

/- A logic over abstract states. Part 16: strings. -/
namespace Go.E
open Go

/-- Are two strings one? Does one stand ahead of the other, byte by byte? -/
def eqS (x y : ByteArray) : Bool := decide (x = y)
def ltL : List UInt8 → List UInt8 → Bool := Op.bytesLess
def ltS (x y : ByteArray) : Bool := ltL x.data.toList y.data.toList

theorem eqS_true {x y : ByteArray} (h : eqS x y = true) : x = y := of_decide_eq_true h
theorem eqS_false {x y : ByteArray} (h : eqS x y = false) : x ≠ y := of_decide_eq_false h
theorem eqS_self (x : ByteArray) : eqS x x = true := by simp [eqS]
theorem data_inj {x y : ByteArray} (h : x.data.toList = y.data.toList) : x = y := by
  obtain ⟨⟨a⟩⟩ := x
  obtain ⟨⟨b⟩⟩ := y
  simp only at h
  rw [h]
theorem eqS_eq (x y : ByteArray) : (x.toList == y.toList) = eqS x y := by
  rw [ByteArray.toList_eq, ByteArray.toList_eq]
  unfold eqS
  by_cases h : x = y
  · subst h; simp
  · have : x.data ≠ y.data := fun e => h (data_inj (by rw [e]))
    simp [h, this]

theorem ltL_irrefl : ∀ x : List UInt8, ltL x x = false
  | [] => rfl
  | a :: x => by simp [ltL, Op.bytesLess]; exact ltL_irrefl x
theorem ltL_trans : ∀ {x y z : List UInt8}, ltL x y = true → ltL y z = true → ltL x z = true
  | _, _, [], _, h => by simp [ltL, Op.bytesLess] at h
  | [], _, c :: z, _, _ => by simp [ltL, Op.bytesLess]
  | a :: x, [], c :: z, h, _ => by simp [ltL, Op.bytesLess] at h
  | a :: x, b :: y, c :: z, h1, h2 => by
    simp only [ltL, Op.bytesLess, Bool.or_eq_true, decide_eq_true_eq, Bool.and_eq_true, beq_iff_eq] at h1 h2 ⊢
    rcases h1 with h1 | ⟨rfl, h1⟩
    · rcases h2 with h2 | ⟨rfl, h2⟩
      · exact .inl (UInt8.lt_trans h1 h2)
      · exact .inl h1
    · rcases h2 with h2 | ⟨rfl, h2⟩
      · exact .inl h2
      · exact .inr ⟨rfl, ltL_trans h1 h2⟩
theorem ltL_tri : ∀ (x y : List UInt8), ltL x y = false → ltL y x = false → x = y
  | [], [], _, _ => rfl
  | [], b :: y, h, _ => by simp [ltL, Op.bytesLess] at h
  | a :: x, [], _, h => by simp [ltL, Op.bytesLess] at h
  | a :: x, b :: y, h1, h2 => by
    simp only [ltL, Op.bytesLess, Bool.or_eq_false_iff, decide_eq_false_iff_not, Bool.and_eq_false_iff, beq_eq_false_iff_ne] at h1 h2
    have hab : a = b := by
      have h3 := h1.1
      have h4 := h2.1
      rw [UInt8.lt_iff_toNat_lt] at h3 h4
      exact UInt8.toNat_inj.1 (by omega)
    subst hab
    simp only [ne_eq, not_true, false_or] at h1 h2
    rw [ltL_tri x y h1.2 h2.2]
theorem ltS_irrefl (x : ByteArray) : ltS x x = false := ltL_irrefl _
theorem ltS_trans {x y z : ByteArray} (h1 : ltS x y = true) (h2 : ltS y z = true) : ltS x z = true := ltL_trans h1 h2
theorem ltS_tri {x y : ByteArray} (h1 : ltS x y = false) (h2 : ltS y x = false) : x = y := data_inj (ltL_tri _ _ h1 h2)
theorem ltS_asymm {x y : ByteArray} (h : ltS x y = true) : ltS y x = false := by
  cases e : ltS y x with
  | false => rfl
  | true => have := ltS_trans h e; rw [ltS_irrefl] at this; cases this
theorem ltS_ne {x y : ByteArray} (h : ltS x y = true) : x ≠ y := fun e => by subst e; rw [ltS_irrefl] at h; cases h

section
variable {P : Program} {t u ty : TypeId} {x y : Operand} {a b : ByteArray}
theorem ltS_eq : Op.bytesLess a.toList b.toList = ltS a b := by rw [ByteArray.toList_eq, ByteArray.toList_eq]; rfl
theorem leS_eq : (Op.bytesLess a.toList b.toList || (a.toList == b.toList)) = !(ltS b a) := by
  rw [ltS_eq, eqS_eq]
  cases e1 : ltS a b with
  | true => rw [ltS_asymm e1]; rfl
  | false =>
    cases e2 : ltS b a with
    | false => rw [ltS_tri e1 e2, eqS_self]; rfl
    | true => simp [eqS, (ltS_ne e2).symm]
theorem tri_str {op : BinOp} {r : Bool} (h : ∀ w : World, (binOp op t (.string a) (.string b)).run P w = .ok (.bool r) w) : Tri P (mkO (.binOp op t x y u) ty) [sc (.string a), sc (.string b)] [] (sc (.bool r)) [] :=
  tri_of_value fun F σ X w ac hr _ => by
    have hx : ac.eval x = .string a := scal_rep hr.1 rfl
    have hy : ac.eval y = .string b := scal_rep hr.2.1 rfl
    refine ⟨.bool r, ?_, RepD.v _ rfl⟩
    cases op <;> simp [execOp, mkO, hx, hy, eqGuard, h]
theorem tri_str_eql : Tri P (mkO (.binOp .eql t x y u) ty) [sc (.string a), sc (.string b)] [] (sc (.bool (eqS a b))) [] := tri_str fun w => by simp [binOp, Op.stringOp, ← eqS_eq]
theorem tri_str_neq : Tri P (mkO (.binOp .neq t x y u) ty) [sc (.string a), sc (.string b)] [] (sc (.bool (!(eqS a b)))) [] := tri_str fun w => by simp [binOp, Op.stringOp, ← eqS_eq]
theorem tri_str_lss : Tri P (mkO (.binOp .lss t x y u) ty) [sc (.string a), sc (.string b)] [] (sc (.bool (ltS a b))) [] := tri_str fun w => by simp only [binOp, Op.stringOp, ltS_eq]; rfl
theorem tri_str_geq : Tri P (mkO (.binOp .geq t x y u) ty) [sc (.string a), sc (.string b)] [] (sc (.bool (!(ltS a b)))) [] := tri_str fun w => by simp only [binOp, Op.stringOp, ltS_eq]; rfl
theorem tri_str_leq : Tri P (mkO (.binOp .leq t x y u) ty) [sc (.string a), sc (.string b)] [] (sc (.bool (!(ltS b a)))) [] := tri_str fun w => by simp only [binOp, Op.stringOp, leS_eq]; rfl
theorem tri_str_gtr : Tri P (mkO (.binOp .gtr t x y u) ty) [sc (.string a), sc (.string b)] [] (sc (.bool (ltS b a))) [] := tri_str fun w => by simp only [binOp, Op.stringOp, leS_eq, Bool.not_not]; rfl
theorem tri_as {o : Oper} {vals : List SV} {l l' : Objs} {b c : Bool} (h : Tri P o vals l (sc (.bool b)) l') (e : b = c) : Tri P o vals l (sc (.bool c)) l' := e ▸ h
end
end Go.E

/- A logic over abstract states. Part 17: elements of slices; append. -/
namespace Go.E
open Go

section
variable {P : Program} (w : World)
/-- append onto a slice of one's own, out of whatever source. -/
theorem append_src (t tx ty e : TypeId) (i : TypeInfo) (z : Value) (size bytes : Nat) (ht : P.underlying t = some (.slice e)) (hi : P.info? e = some i) (hz : i.zero = some z)
    (hsize : i.size = size) (hby : i.bytes = bytes) (hzs : z.cells.size = size)
    (v : Value) (n : Nat) (xs : List Value) (hown : w.ownsRow 0 e size v n xs) (x : Value) (m : Nat) (news : List Value) (hs : Src P size tx x m news w)
    (h63 : n + m ≤ maxLen) (hbytes : (n + m) * bytes ≤ 140737488355328) :
    ∃ v' w', (Builtin.append_ #[t, tx] ty #[v, x]).run P w = .ok v' w' ∧ w'.ownsRow 0 e size v' (n + m) (xs ++ news) ∧ w.grownBy w' v.ownBlock ∧ (v'.ownBlock = v.ownBlock ∨ v'.ownBlock = some w.heap.size) := by
  subst hsize
  subst hby
  have hsmall : n + m ≤ 9223372036854775807 := by simp only [maxLen] at h63; omega
  have hlen : (xs ++ news).length = (n + m) * i.size := by rw [List.length_append, hown.1, hs.newsLen, Nat.add_mul]
  by_cases hm : m = 0
  · subst hm
    have hn : news = [] := List.eq_nil_of_length_eq_zero (by simpa using hs.newsLen)
    subst hn
    refine ⟨v, w, ?_, by simpa using hown, ⟨rfl, rfl, rfl, Nat.le_refl _, fun _ _ _ => rfl⟩, .inl rfl⟩
    rcases hown.2 with ⟨rfl, rfl⟩ | ⟨g, cap, cur, rfl, _, _, hnc, _⟩
    · exact run_append_nothing w t tx ty e i ht hi none 0 0 (Nat.le_refl _) x hs
    · exact run_append_nothing w t tx ty e i ht hi (some ⟨g, 0, none⟩) n cap hnc x hs
  have grown : ∀ (old : Nat), old < n + m → ∀ (row : Option Nat),
      (w.drew.alloc (.cells ((xs ++ news).toArray ++ Builtin.zeroCells z.cells (grownCap w (n + m) old e - (n + m))) e)).ownsRow 0 e i.size
        (.slice (some ⟨w.heap.size, 0, none⟩) (n + m) (grownCap w (n + m) old e)) (n + m) (xs ++ news) ∧
      w.grownBy (w.drew.alloc (.cells ((xs ++ news).toArray ++ Builtin.zeroCells z.cells (grownCap w (n + m) old e - (n + m))) e)) row := by
    intro old ho row
    have hge := grownCap_ge w (n + m) old e
    have hcm : grownCap w (n + m) old e ≤ maxLen := grownCap_le_maxLen w (n + m) old e h63
    refine ⟨⟨hlen, .inr ⟨w.heap.size, _, _, rfl, Nat.zero_le _, heap_alloc_new w.drew _, hge, hcm, ?_, ?_⟩⟩, ⟨rfl, rfl, rfl, by simp, fun k hk _ => alloc_old w.drew _ k hk⟩⟩
    · simp only [Array.size_append, List.size_toArray, size_zeroCells, hzs, hlen, ← Nat.add_mul]
      congr 1
      omega
    · simp only [Array.toList_append]
      rw [← hlen]
      exact List.take_left
  rcases hown.2 with ⟨rfl, rfl⟩ | ⟨g, cap, cur, rfl, hbg, hg, hnc, hcm, hcs, htake⟩
  · have hx : xs = [] := List.eq_nil_of_length_eq_zero (by simpa using hown.1)
    subst hx
    have hr := run_append_grow_src (P := P) w t tx ty e i z ht hi hz none 0 0 [] (run_firstCells_none w.drew _ 0 0 0) x m news hs (by omega) (by simp only [Nat.zero_add] at hsmall; omega)
      (growslice_fits (by omega) hbytes)
    have hgr := grown 0 (by omega) (Value.ownBlock (.slice none 0 0))
    exact ⟨_, _, hr, hgr.1, hgr.2, .inr rfl⟩
  · by_cases hroom : n + m ≤ cap
    · have hfit : n * i.size + news.length ≤ cur.size := by rw [hs.newsLen, hcs, ← Nat.add_mul]; exact Nat.mul_le_mul_right _ hroom
      have hst := run_storeCells_at P g (n * i.size) e news 0 cur w hg (by simpa using hfit) hs.one
      simp only [Nat.add_zero] at hst
      have hr : (Builtin.append_ #[t, tx] ty #[.slice (some ⟨g, 0, none⟩) n cap, x]).run P w = .ok (.slice (some ⟨g, 0, none⟩) (n + m) cap) (w.setRow g (cur.toList.take (n * i.size) ++ news ++ cur.toList.drop (n * i.size + news.length)).toArray) := by
        rcases hs.kind with ⟨e', hk⟩ | hk <;> simp [Builtin.append_, run_underlying ht, run_underlying hk, sizeOf, typeInfo, hi, hs.len, hroom, hs.cells, Addr.add_lit, hst]
      refine ⟨_, _, hr, ⟨hlen, .inr ⟨g, cap, _, rfl, hbg, setRow_heap w g cur _ e _ hg, hroom, hcm, ?_, ?_⟩⟩, ⟨rfl, rfl, rfl, by simp, fun k _ hk => setRow_other w g k _ (fun e => hk (by simp [Value.ownBlock, e]))⟩, .inl rfl⟩
      · simp only [List.size_toArray, List.length_append, List.length_take, List.length_drop, Array.length_toList]
        omega
      · rw [htake, ← hlen]
        exact List.take_left
    · have holds : ∀ j u, xs[j]? = some u → w.cell? ((⟨g, 0, none⟩ : Addr).add j) = some u := hown.cells (g := g) rfl
      have hr := run_append_grow_src (P := P) w t tx ty e i z ht hi hz (some ⟨g, 0, none⟩) n cap xs (run_firstCells_some w.drew i.size n ⟨g, 0, none⟩ n cap xs hown.1 (by simpa using holds)) x m news hs (by omega) (by omega)
        (growslice_fits (by omega) hbytes)
      have hgr := grown cap (by omega) (Value.ownBlock (.slice (some ⟨g, 0, none⟩) n cap))
      exact ⟨_, _, hr, hgr.1, hgr.2, .inr rfl⟩
end

/-- What a second operand of append holds. -/
def SrcD (P : Program) (F : Nat → Prop) (w : World) (sz : Nat) (tx : TypeId) (x : Value) (es : List (List DV)) : Prop :=
  ∃ news, Src P sz tx x es.length news w ∧ ∀ i (h : i < es.length) j (h' : j < es[i].length), RepD F w (news.getD (i * sz + j) undef) es[i][j]

def appOK (T : Tab) (t e sz bytes : Nat) : Bool :=
  match look T t, look T e with
  | some ti, some ei => ti.elem == some e && (ei.size == sz && (ei.bytes == bytes && (Nat.ble 1 bytes && (match ei.zero with | some z => z.length == sz | none => false))))
  | _, _ => false

theorem appOK_parts {P : Program} {T : Tab} (hT : TabOK P T) {t e sz bytes : Nat} (h : appOK T t e sz bytes = true) :
    P.underlying t = some (.slice e) ∧ 1 ≤ bytes ∧ ∃ i z, P.info? e = some i ∧ i.zero = some z ∧ i.size = sz ∧ i.bytes = bytes ∧ z.cells.size = sz := by
  unfold appOK at h
  split at h
  · rename_i ti ei h1 h2
    simp only [Bool.and_eq_true, beq_iff_eq] at h
    obtain ⟨g1, g2, g3, g4, g5⟩ := h
    obtain ⟨i, d, hi, hd, _, _, _, _, hel, _⟩ := ti_parts (hT t ti h1)
    obtain rfl := hel e g1
    obtain ⟨i2, d2, hi2, hd2, _, hs2, hb2, hz2, _⟩ := ti_parts (hT e ei h2)
    refine ⟨hd, Nat.le_of_ble_eq_true g4, i2, ?_⟩
    cases hz : i2.zero with
    | none => rw [hz] at hz2; simp only [Option.map_none] at hz2; rw [hz2] at g5; cases g5
    | some z =>
      rw [hz] at hz2
      simp only [Option.map_some] at hz2
      rw [hz2] at g5
      simp only [beq_iff_eq] at g5
      exact ⟨z, hi2, rfl, by omega, by omega, by simpa using g5⟩
  · cases h

/-- An array of one's own that grows, whatever the operation: what its run comes to. -/
theorem tri_grow {P : Program} {o : Oper} {vals : List SV} {e sz bytes h0 n : Nat} {es es2 : List (List DV)} {r : Objs}
    (hk : (look r h0).isNone = true ∧ (look r n).isNone = true ∧ Nat.beq n h0 = false ∧ (r.any fun p => p.2.has n) = false)
    (hrun0 : ∀ F σ X w a, Reps F σ w a o.op.operands.toList vals → OKs F σ X w ((h0, .arr e sz bytes es) :: r) → ∀ xs, w.ownsRow 0 e sz (σ h0) es.length xs →
      ∃ news v' w', (execOp a.eval o).run P w = .ok (.value v') w' ∧ w'.ownsRow 0 e sz v' (es.length + es2.length) (xs ++ news) ∧ w.grownBy w' (σ h0).ownBlock ∧ (v'.ownBlock = (σ h0).ownBlock ∨ v'.ownBlock = some w.heap.size) ∧
        ∀ i (h : i < es2.length) j (h' : j < es2[i].length), RepD F w (news.getD (i * sz + j) undef) es2[i][j])
    (hes : ∀ y ∈ es2, y.length = sz) (hb : (es.length + es2.length) * bytes ≤ 140737488355328) : Tri P o vals ((h0, .arr e sz bytes es) :: r) (cc (.own n)) ((n, .arr e sz bytes (es ++ es2)) :: r) := by
  intro F σ X w a hr hok hF
  obtain ⟨k1, k2, k3, k4⟩ := hk
  rw [Option.isNone_iff_eq_none] at k1 k2
  have hne : n ≠ h0 := fun c => by subst c; simp at k3
  have hrne : ∀ h o, look r h = some o → h ≠ h0 ∧ h ≠ n ∧ o.has n = false := fun h o e => by
    refine ⟨fun c => by (subst c; rw [k1] at e; cases e), fun c => by (subst c; rw [k2] at e; cases e), ?_⟩
    rw [List.any_eq_false] at k4
    simpa using k4 _ (look_mem e)
  have hl0 : look ((h0, LObj.arr e sz bytes es) :: r) h0 = some (.arr e sz bytes es) := by simp [look]
  have hlr : ∀ h o, look r h = some o → look ((h0, LObj.arr e sz bytes es) :: r) h = some o := fun h o e => by
    simp only [look, beq_false (hrne h o e).1.symm, cond_false]; exact e
  have hl' : ∀ h o, look ((n, LObj.arr e sz bytes (es ++ es2)) :: r) h = some o → (h = n ∧ o = .arr e sz bytes (es ++ es2)) ∨ (h ≠ n ∧ look r h = some o) := fun h o e => by
    by_cases c : n = h
    · subst c; simp only [look, Nat.beq_refl, cond_true, Option.some.injEq] at e; exact .inl ⟨rfl, e.symm⟩
    · simp only [look, beq_false c, cond_false] at e; exact .inr ⟨fun d => c d.symm, e⟩
  obtain ⟨xs, e1, e2, e3, e4, e5⟩ := hok.ok h0 _ hl0
  obtain ⟨news, v', w', hrun, g2, g3, g4, hn⟩ := hrun0 F σ X w a hr hok xs e1
  rw [hrun]
  have hown : ∀ k, (σ h0).ownBlock = some k → X h0 k := fun k hk => (e2 k).2 hk
  have hFw : ∀ b, F b → w'.heap[b]? = w.heap[b]? := fun b hb => g3.block b (hF b hb) fun c => (hok.live h0 _ hl0 b (hown b c.symm)).2 hb
  have hσ : ∀ k, k ≠ n → (fun k => if k = n then v' else σ k) k = σ k := fun k hk => if_neg hk
  have hshape : ∃ a' n' c', v' = .slice a' n' c' := by
    rcases g2.2 with ⟨c, _⟩ | ⟨g, cap, cur, c, _⟩
    · exact ⟨_, _, _, c⟩
    · exact ⟨_, _, _, c⟩
  have hblk : ∀ k, v'.ownBlock = some k → X h0 k ∨ k = w.heap.size := fun k hk => by
    rcases g4 with c | c
    · rw [c] at hk; exact .inl (hown k hk)
    · rw [c] at hk; exact .inr (Option.some.inj hk).symm
  refine ⟨F, fun k => if k = n then v' else σ k, fun h k => if h = n then v'.ownBlock = some k else X h k, ⟨by simp, ?_⟩, ⟨?_, ?_, ?_⟩, g3.os, g3.tape, g3.output, g3.size, ?_, fun _ h => h, fun _ h => .inl h, ?_, ?_⟩
  · obtain ⟨_, _, _, c⟩ := hshape
    simp [c, Value.oneCell']
  · intro h o ho
    rcases hl' h o ho with ⟨rfl, rfl⟩ | ⟨c, hq⟩
    · simp only [if_true]
      refine ⟨xs ++ news, by simpa using g2, fun k => Iff.rfl, ?_, by simpa using hb, ?_⟩
      · intro y hy
        rcases List.mem_append.1 hy with hy | hy
        · exact e3 y hy
        · exact hes y hy
      · intro i hi j hj
        have hx1 : xs.length = es.length * sz := e1.1
        by_cases c : i < es.length
        · simp only [List.getElem_append_left c] at hj ⊢
          have hjs : j < sz := by rw [e3 _ (List.getElem_mem c)] at hj; exact hj
          have hlt : i * sz + j < xs.length := by
            have := Nat.mul_le_mul_right sz (show i + 1 ≤ es.length from c)
            rw [Nat.add_mul, Nat.one_mul] at this
            omega
          have := RepD.mono (fun _ h => h) hFw (e5 i c j hj)
          simp only [List.getD_eq_getElem?_getD, List.getElem?_append_left hlt] at this ⊢
          exact this
        · have hi' : i - es.length < es2.length := by simp only [List.length_append] at hi; omega
          have hidx : (es ++ es2)[i] = es2[i - es.length] := List.getElem_append_right (by omega)
          simp only [hidx] at hj ⊢
          have := RepD.mono (fun _ h => h) hFw (hn (i - es.length) hi' j hj)
          have hsub : i * sz + j - xs.length = (i - es.length) * sz + j := by
            rw [hx1, Nat.sub_mul]
            have := Nat.mul_le_mul_right sz (show es.length ≤ i by omega)
            omega
          have hge : xs.length ≤ i * sz + j := by
            rw [hx1]
            have := Nat.mul_le_mul_right sz (show es.length ≤ i by omega)
            omega
          simp only [List.getD_eq_getElem?_getD, List.getElem?_append_right hge, hsub] at this ⊢
          exact this
    · simp only [if_neg c]
      refine ObjOK.mono (fun _ h => h) (fun b hb => hb.elim (hFw b) fun hx => ?_) (fun k hk => hσ k fun d => ?_) (hok.ok h o (hlr h o hq))
      · exact g3.block b (hok.live h o (hlr h o hq) b hx).1 fun d => hok.apart h h0 o _ (hlr h o hq) hl0 (hrne h o hq).1 b hx (hown b d.symm)
      · rw [d, (hrne h o hq).2.2] at hk; cases hk
  · intro h h' o o' h1 h2 hd k hx hx'
    rcases hl' h o h1 with ⟨e7, rfl⟩ | ⟨c, q1⟩ <;> rcases hl' h' o' h2 with ⟨e8, rfl⟩ | ⟨c', q2⟩
    · exact hd (e7.trans e8.symm)
    · simp only [e7, if_true, if_neg c'] at hx hx'
      rcases hblk k hx with d | d
      · exact hok.apart h0 h' _ o' hl0 (hlr h' o' q2) (hrne h' o' q2).1.symm k d hx'
      · have := (hok.live h' o' (hlr h' o' q2) k hx').1; omega
    · simp only [e8, if_true, if_neg c] at hx hx'
      rcases hblk k hx' with d | d
      · exact hok.apart h0 h _ o hl0 (hlr h o q1) (hrne h o q1).1.symm k d hx
      · have := (hok.live h o (hlr h o q1) k hx).1; omega
    · simp only [if_neg c, if_neg c'] at hx hx'
      exact hok.apart h h' o o' (hlr h o q1) (hlr h' o' q2) hd k hx hx'
  · intro h o h1 k hx
    rcases hl' h o h1 with ⟨rfl, rfl⟩ | ⟨c, q1⟩
    · simp only [if_true] at hx
      refine ⟨(g2.lt k hx).2, fun hf => ?_⟩
      rcases hblk k hx with d | d
      · exact (hok.live h0 _ hl0 k d).2 hf
      · have := hF k hf; omega
    · simp only [if_neg c] at hx
      have := hok.live h o (hlr h o q1) k hx
      exact ⟨Nat.lt_of_lt_of_le this.1 g3.size, this.2⟩
  · intro k hk hx
    exact g3.block k hk fun d => hx h0 _ hl0 (hown k d.symm)
  · intro h o h1 k hx
    rcases hl' h o h1 with ⟨rfl, rfl⟩ | ⟨c, h1⟩
    · simp only [if_true] at hx
      rcases hblk k hx with d | d
      · exact .inr ⟨h0, _, hl0, d⟩
      · exact .inl (by omega)
    · simp only [if_neg c] at hx
      exact .inr ⟨h, o, hlr h o h1, hx⟩
  · intro h hh
    refine hσ h fun c => ?_
    subst c
    rcases hh with hh | hh
    · simp [look] at hh
    · simp only [look, beq_false hne.symm, cond_false] at hh
      exact hh k2
theorem tri_append {P : Program} {T : Tab} (hT : TabOK P T) {t tx ty : TypeId} {s x : Operand} {e sz bytes h0 n : Nat} {es es2 : List (List DV)} {sv2 : SV} {r : Objs} (ho : appOK T t e sz bytes = true)
    (hk : (look r h0).isNone = true ∧ (look r n).isNone = true ∧ Nat.beq n h0 = false ∧ (r.any fun p => p.2.has n) = false)
    (hsrc : ∀ F σ X w x, RepS F σ w x sv2 → OKs F σ X w r → SrcD P F w sz tx x es2) (hes : ∀ y ∈ es2, y.length = sz) (hb : (es.length + es2.length) * bytes ≤ 140737488355328) :
    Tri P (mkO (.call { callee := .builtin .append, args := #[s, x], argTypes := #[t, tx] }) ty) [cc (.own h0), sv2] ((h0, .arr e sz bytes es) :: r) (cc (.own n)) ((n, .arr e sz bytes (es ++ es2)) :: r) := by
  intro F σ X w a hr hok hF
  obtain ⟨ht, hb1, i, z, hi, hz, hsize, hby, hzs⟩ := appOK_parts hT ho
  obtain ⟨k1, k2, k3, k4⟩ := hk
  rw [Option.isNone_iff_eq_none] at k1 k2
  have hne : n ≠ h0 := fun c => by subst c; simp at k3
  have hrne : ∀ h o, look r h = some o → h ≠ h0 ∧ h ≠ n ∧ o.has n = false := fun h o e => by
    refine ⟨fun c => by (subst c; rw [k1] at e; cases e), fun c => by (subst c; rw [k2] at e; cases e), ?_⟩
    rw [List.any_eq_false] at k4
    simpa using k4 _ (look_mem e)
  have hl0 : look ((h0, LObj.arr e sz bytes es) :: r) h0 = some (.arr e sz bytes es) := by simp [look]
  have hlr : ∀ h o, look r h = some o → look ((h0, LObj.arr e sz bytes es) :: r) h = some o := fun h o e => by
    simp only [look, beq_false (hrne h o e).1.symm, cond_false]; exact e
  have hl' : ∀ h o, look ((n, LObj.arr e sz bytes (es ++ es2)) :: r) h = some o → (h = n ∧ o = .arr e sz bytes (es ++ es2)) ∨ (h ≠ n ∧ look r h = some o) := fun h o e => by
    by_cases c : n = h
    · subst c; simp only [look, Nat.beq_refl, cond_true, Option.some.injEq] at e; exact .inl ⟨rfl, e.symm⟩
    · simp only [look, beq_false c, cond_false] at e; exact .inr ⟨fun d => c d.symm, e⟩
  obtain ⟨hr1, hr2, _⟩ := (show RepS F σ w (a.eval s) (cc (.own h0)) ∧ RepS F σ w (a.eval x) sv2 ∧ True from hr)
  obtain ⟨hv0, _⟩ := (show RepC F σ w _ (.own h0) from hr1)
  obtain ⟨xs, e1, e2, e3, e4, e5⟩ := hok.ok h0 _ hl0
  rw [← hv0] at e1 e2
  obtain ⟨news, hs, hn⟩ := hsrc F σ X w (a.eval x) hr2 ⟨fun h o e => hok.ok h o (hlr h o e), fun h h' o o' e e' => hok.apart h h' o o' (hlr h o e) (hlr h' o' e'), fun h o e => hok.live h o (hlr h o e)⟩
  have hmul : es.length + es2.length ≤ (es.length + es2.length) * bytes := Nat.le_mul_of_pos_right _ hb1
  obtain ⟨v', w', g1, g2, g3, g4⟩ := append_src (P := P) w t tx ty e i z sz bytes ht hi hz hsize hby hzs _ _ xs e1 (a.eval x) es2.length news hs (by simp only [maxLen]; omega) hb
  have hrun : (execOp a.eval (mkO (.call { callee := .builtin .append, args := #[s, x], argTypes := #[t, tx] }) ty)).run P w = .ok (.value v') w' := by
    simp only [execOp, mkO, resolve, invoke, builtin, Sem.run_bind, Sem.run_pure, Result.andThen_ok, List.map_toArray, List.map_cons, List.map_nil, g1]
  rw [hrun]
  have hown : ∀ k, (a.eval s).ownBlock = some k → X h0 k := fun k hk => (e2 k).2 hk
  have hFw : ∀ b, F b → w'.heap[b]? = w.heap[b]? := fun b hb => g3.block b (hF b hb) fun c => (hok.live h0 _ hl0 b (hown b c.symm)).2 hb
  have hσ : ∀ k, k ≠ n → (fun k => if k = n then v' else σ k) k = σ k := fun k hk => if_neg hk
  have hshape : ∃ a' n' c', v' = .slice a' n' c' := by
    rcases g2.2 with ⟨c, _⟩ | ⟨g, cap, cur, c, _⟩
    · exact ⟨_, _, _, c⟩
    · exact ⟨_, _, _, c⟩
  have hblk : ∀ k, v'.ownBlock = some k → X h0 k ∨ k = w.heap.size := fun k hk => by
    rcases g4 with c | c
    · rw [c] at hk; exact .inl (hown k hk)
    · rw [c] at hk; exact .inr (Option.some.inj hk).symm
  refine ⟨F, fun k => if k = n then v' else σ k, fun h k => if h = n then v'.ownBlock = some k else X h k, ⟨by simp, ?_⟩, ⟨?_, ?_, ?_⟩, g3.os, g3.tape, g3.output, g3.size, ?_, fun _ h => h, fun _ h => .inl h, ?_, ?_⟩
  · obtain ⟨_, _, _, c⟩ := hshape
    simp [c, Value.oneCell']
  · intro h o ho
    rcases hl' h o ho with ⟨rfl, rfl⟩ | ⟨c, hq⟩
    · simp only [if_true]
      refine ⟨xs ++ news, by simpa using g2, fun k => Iff.rfl, ?_, by simpa using hb, ?_⟩
      · intro y hy
        rcases List.mem_append.1 hy with hy | hy
        · exact e3 y hy
        · exact hes y hy
      · intro i hi j hj
        have hx1 : xs.length = es.length * sz := e1.1
        by_cases c : i < es.length
        · simp only [List.getElem_append_left c] at hj ⊢
          have hjs : j < sz := by rw [e3 _ (List.getElem_mem c)] at hj; exact hj
          have hlt : i * sz + j < xs.length := by
            have := Nat.mul_le_mul_right sz (show i + 1 ≤ es.length from c)
            rw [Nat.add_mul, Nat.one_mul] at this
            omega
          have := RepD.mono (fun _ h => h) hFw (e5 i c j hj)
          simp only [List.getD_eq_getElem?_getD, List.getElem?_append_left hlt] at this ⊢
          exact this
        · have hi' : i - es.length < es2.length := by simp only [List.length_append] at hi; omega
          have hidx : (es ++ es2)[i] = es2[i - es.length] := List.getElem_append_right (by omega)
          simp only [hidx] at hj ⊢
          have := RepD.mono (fun _ h => h) hFw (hn (i - es.length) hi' j hj)
          have hsub : i * sz + j - xs.length = (i - es.length) * sz + j := by
            rw [hx1, Nat.sub_mul]
            have := Nat.mul_le_mul_right sz (show es.length ≤ i by omega)
            omega
          have hge : xs.length ≤ i * sz + j := by
            rw [hx1]
            have := Nat.mul_le_mul_right sz (show es.length ≤ i by omega)
            omega
          simp only [List.getD_eq_getElem?_getD, List.getElem?_append_right hge, hsub] at this ⊢
          exact this
    · simp only [if_neg c]
      refine ObjOK.mono (fun _ h => h) (fun b hb => hb.elim (hFw b) fun hx => ?_) (fun k hk => hσ k fun d => ?_) (hok.ok h o (hlr h o hq))
      · exact g3.block b (hok.live h o (hlr h o hq) b hx).1 fun d => hok.apart h h0 o _ (hlr h o hq) hl0 (hrne h o hq).1 b hx (hown b d.symm)
      · rw [d, (hrne h o hq).2.2] at hk; cases hk
  · intro h h' o o' h1 h2 hd k hx hx'
    rcases hl' h o h1 with ⟨e7, rfl⟩ | ⟨c, q1⟩ <;> rcases hl' h' o' h2 with ⟨e8, rfl⟩ | ⟨c', q2⟩
    · exact hd (e7.trans e8.symm)
    · simp only [e7, if_true, if_neg c'] at hx hx'
      rcases hblk k hx with d | d
      · exact hok.apart h0 h' _ o' hl0 (hlr h' o' q2) (hrne h' o' q2).1.symm k d hx'
      · have := (hok.live h' o' (hlr h' o' q2) k hx').1; omega
    · simp only [e8, if_true, if_neg c] at hx hx'
      rcases hblk k hx' with d | d
      · exact hok.apart h0 h _ o hl0 (hlr h o q1) (hrne h o q1).1.symm k d hx
      · have := (hok.live h o (hlr h o q1) k hx).1; omega
    · simp only [if_neg c, if_neg c'] at hx hx'
      exact hok.apart h h' o o' (hlr h o q1) (hlr h' o' q2) hd k hx hx'
  · intro h o h1 k hx
    rcases hl' h o h1 with ⟨rfl, rfl⟩ | ⟨c, q1⟩
    · simp only [if_true] at hx
      refine ⟨(g2.lt k hx).2, fun hf => ?_⟩
      rcases hblk k hx with d | d
      · exact (hok.live h0 _ hl0 k d).2 hf
      · have := hF k hf; omega
    · simp only [if_neg c] at hx
      have := hok.live h o (hlr h o q1) k hx
      exact ⟨Nat.lt_of_lt_of_le this.1 g3.size, this.2⟩
  · intro k hk hx
    exact g3.block k hk fun d => hx h0 _ hl0 (hown k d.symm)
  · intro h o h1 k hx
    rcases hl' h o h1 with ⟨rfl, rfl⟩ | ⟨c, h1⟩
    · simp only [if_true] at hx
      rcases hblk k hx with d | d
      · exact .inr ⟨h0, _, hl0, d⟩
      · exact .inl (by omega)
    · simp only [if_neg c] at hx
      exact .inr ⟨h, o, hlr h o h1, hx⟩
  · intro h hh
    refine hσ h fun c => ?_
    subst c
    rcases hh with hh | hh
    · simp [look] at hh
    · simp only [look, beq_false hne.symm, cond_false] at hh
      exact hh k2
end Go.E

/- A logic over abstract states. Part 18: what append takes; elements of slices; a nil slice as an array of one's own; other words for an argument. -/
namespace Go.E
open Go

theorem div_mod_row {k sz n : Nat} (h : k < n * sz) : k / sz < n ∧ k % sz < sz ∧ k / sz * sz + k % sz = k := by
  have hs : 0 < sz := by rcases Nat.eq_zero_or_pos sz with c | c
                         · subst c; simp at h
                         · exact c
  exact ⟨Nat.div_lt_of_lt_mul (by rw [Nat.mul_comm]; exact h), Nat.mod_lt _ hs, by rw [Nat.mul_comm]; exact Nat.div_add_mod k sz⟩
theorem row_div_mod {i j sz : Nat} (h : j < sz) : (i * sz + j) / sz = i ∧ (i * sz + j) % sz = j := by
  have hs : 0 < sz := by omega
  constructor
  · rw [Nat.mul_comm, Nat.mul_add_div hs, Nat.div_eq_of_lt h, Nat.add_zero]
  · rw [Nat.mul_comm, Nat.mul_add_mod, Nat.mod_eq_of_lt h]

theorem slice_kind {P : Program} {T : Tab} (hT : TabOK P T) {t e sz bytes : Nat} (h : appOK T t e sz bytes = true) : P.underlying t = some (.slice e) := (appOK_parts hT h).1

theorem srcD_sl {P : Program} {F : Nat → Prop} {w : World} {sz t e : Nat} {x : Value} {es : List (List DV)} (hk : P.underlying t = some (.slice e)) (hes : ∀ y ∈ es, y.length = sz) (h : RepD F w x (.sl es)) : SrcD P F w sz t x es := by
  cases h with
  | sl a cap sz' es val hcap hm hsz ha _ hr =>
    by_cases h0 : es.length = 0
    · obtain rfl := List.eq_nil_of_length_eq_zero h0
      cases a with
      | none => exact ⟨[], Src.ofNil w hk _, fun i hi => absurd hi (by simp)⟩
      | some a => exact ⟨[], Src.ofSlice w hk a 0 _ [] (by simp) (by simp) (by simp), fun i hi => absurd hi (by simp)⟩
    · obtain ⟨b, off, rfl, hF, hc⟩ := ha (by omega)
      have hszz : sz' = sz := by
        have := hsz _ (List.getElem_mem (show 0 < es.length by omega))
        have := hes _ (List.getElem_mem (show 0 < es.length by omega))
        omega
      subst hszz
      refine ⟨(List.range (es.length * sz')).map fun k => val (k / sz') (k % sz'), Src.ofSlice w hk ⟨b, off, none⟩ _ _ _ (by simp) (fun k u hu => ?_) (fun u hu => ?_), fun i hi j hj => ?_⟩
      · rw [List.getElem?_map] at hu
        have hlt : k < es.length * sz' := by
          rcases Nat.lt_or_ge k (es.length * sz') with c | c
          · exact c
          · rw [List.getElem?_eq_none (by simpa using c)] at hu; simp at hu
        simp only [List.getElem?_range hlt, Option.map_some, Option.some.injEq] at hu
        subst hu
        obtain ⟨q1, q2, q3⟩ := div_mod_row hlt
        rw [add_none]
        have := hc _ _ q1 q2
        rwa [Nat.add_assoc, q3] at this
      · obtain ⟨k, hk, rfl⟩ := List.mem_map.1 hu
        obtain ⟨q1, q2, q3⟩ := div_mod_row (List.mem_range.1 hk)
        exact (hr _ q1 _ (by rw [hes _ (List.getElem_mem q1)]; exact q2)).one
      · have hjs : j < sz' := by rw [hes _ (List.getElem_mem hi)] at hj; exact hj
        obtain ⟨q1, q2⟩ := row_div_mod (i := i) hjs
        have hlt : i * sz' + j < es.length * sz' := by
          have := Nat.mul_le_mul_right sz' (show i + 1 ≤ es.length from hi)
          rw [Nat.add_mul, Nat.one_mul] at this
          omega
        have := hr i hi j hj
        simpa [List.getD_eq_getElem?_getD, hlt, q1, q2] using this

theorem srcD_own {P : Program} {F : Nat → Prop} {σ : Nat → Value} {w : World} {X : Nat → Prop} {sz t e bytes : Nat} {x : Value} {es : List (List DV)} (hk : P.underlying t = some (.slice e)) (h : ObjOK F σ w x X (.arr e sz bytes es)) : SrcD P F w sz t x es := by
  obtain ⟨xs, e1, _, e3, _, e5⟩ := h
  refine ⟨xs, ?_, e5⟩
  rcases e1.2 with ⟨c, h0⟩ | ⟨g, cap, cur, c, _⟩
  · have hx : xs = [] := List.eq_nil_of_length_eq_zero (by rw [e1.1, h0, Nat.zero_mul])
    subst hx
    rw [c, h0]
    exact Src.ofNil w hk 0
  · rw [c] at e1 ⊢
    refine Src.ofSlice w hk _ _ _ _ e1.1 (e1.cells rfl) (fun u hu => ?_)
    obtain ⟨k, hk', rfl⟩ := List.getElem_of_mem hu
    have hlt : k < es.length * sz := by rw [← e1.1]; exact hk'
    obtain ⟨q1, q2, q3⟩ := div_mod_row hlt
    have := (e5 _ q1 _ (by rw [e3 _ (List.getElem_mem q1)]; exact q2)).one
    rw [q3] at this
    simpa [List.getD_eq_getElem?_getD, hk'] using this

/-- A string's bytes as elements. -/
def byteD (l : List UInt8) : List (List DV) := l.map fun b => [.v (.int .u8 b.toNat)]
theorem srcD_str {P : Program} {F : Nat → Prop} {w : World} {t : Nat} {s : ByteArray} (hk : P.underlying t = some .string) : SrcD P F w 1 t (.string s) (byteD s.data.toList) := by
  refine ⟨byteCells s, ?_, fun i hi j hj => ?_⟩
  · have := Src.ofString (P := P) w hk s
    have e : s.size = (byteD s.data.toList).length := by simp [byteD]
    rwa [e] at this
  · simp only [byteD, List.length_map] at hi
    simp only [byteD, List.getElem_map, List.length_cons, List.length_nil] at hj ⊢
    have : j = 0 := by omega
    subst this
    simp only [List.getElem_cons_zero, Nat.mul_one, Nat.add_zero, byteCells, List.getD_eq_getElem?_getD, List.getElem?_map, List.getElem?_eq_getElem hi, Option.map_some, Option.getD_some]
    exact RepD.v _ rfl

section
variable {P : Program} {T : Tab} (hT : TabOK P T)
include hT
theorem tri_append_sl {t tx ty : TypeId} {s x : Operand} {e ex sz bytes h0 n : Nat} {es es2 : List (List DV)} (ho : appOK T t e sz bytes = true) (hx : appOK T tx ex sz bytes = true) (hk : Nat.beq n h0 = false) (hes : ∀ y ∈ es2, y.length = sz) (hb : (es.length + es2.length) * bytes ≤ 140737488355328) :
    Tri P (mkO (.call { callee := .builtin .append, args := #[s, x], argTypes := #[t, tx] }) ty) [cc (.own h0), cc (.d (.sl es2))] [(h0, .arr e sz bytes es)] (cc (.own n)) [(n, .arr e sz bytes (es ++ es2))] :=
  tri_append hT ho ⟨rfl, rfl, hk, rfl⟩ (fun F σ X w x h _ => srcD_sl (slice_kind hT hx) hes h) hes hb
theorem tri_append_own {t tx ty : TypeId} {s x : Operand} {e sz bytes h0 h1 n : Nat} {es es2 : List (List DV)} (ho : appOK T t e sz bytes = true) (hx : appOK T tx e sz bytes = true) (hk : (Nat.beq n h0 || (Nat.beq h1 h0 || Nat.beq h1 n)) = false) (hes : ∀ y ∈ es2, y.length = sz) (hb : (es.length + es2.length) * bytes ≤ 140737488355328) :
    Tri P (mkO (.call { callee := .builtin .append, args := #[s, x], argTypes := #[t, tx] }) ty) [cc (.own h0), cc (.own h1)] [(h0, .arr e sz bytes es), (h1, .arr e sz bytes es2)] (cc (.own n)) [(n, .arr e sz bytes (es ++ es2)), (h1, .arr e sz bytes es2)] := by
  simp only [Bool.or_eq_false_iff] at hk
  refine tri_append hT ho ⟨?_, ?_, hk.1, rfl⟩ (fun F σ X w x h hok => ?_) hes hb
  · simp [look, hk.2.1]
  · simp [look, hk.2.2]
  · have := hok.ok h1 (.arr e sz bytes es2) (by simp [look])
    obtain ⟨hv, _⟩ := (show RepC F σ w x (.own h1) from h)
    rw [hv]
    exact srcD_own (slice_kind hT hx) this
theorem tri_append_str {t tx ty : TypeId} {s x : Operand} {e bytes h0 n : Nat} {es : List (List DV)} {b : ByteArray} (ho : appOK T t e 1 bytes = true) (hx : ((look T tx).map (·.kind)) = some 4) (hk : Nat.beq n h0 = false) (hb : (es.length + b.size) * bytes ≤ 140737488355328) :
    Tri P (mkO (.call { callee := .builtin .append, args := #[s, x], argTypes := #[t, tx] }) ty) [cc (.own h0), sc (.string b)] [(h0, .arr e 1 bytes es)] (cc (.own n)) [(n, .arr e 1 bytes (es ++ byteD b.data.toList))] := by
  refine tri_append hT ho ⟨rfl, rfl, hk, rfl⟩ (fun F σ X w x h _ => ?_) (fun y hy => ?_) ?_
  · rw [scal_rep h rfl]
    refine srcD_str ?_
    cases e1 : look T tx with
    | none => rw [e1] at hx; cases hx
    | some ti =>
      rw [e1] at hx
      obtain ⟨i, d, _, hd, _, _, _, _, _, _, _, hkd⟩ := ti_parts (hT tx ti e1)
      rw [hd]
      simp only [Option.map_some, Option.some.injEq] at hx
      rw [hkd] at hx
      cases d <;> simp_all [kindD]
  · obtain ⟨b, _, rfl⟩ := List.mem_map.1 hy; rfl
  · simpa [byteD] using hb

/-- An element of a slice that is data. -/
theorem tri_index_sl {t ty : TypeId} {x ix : Operand} {e sz bytes i : Nat} {k : IntKind} {es : List (List DV)} {y : List DV} (ho : appOK T t e sz bytes = true) (hy : es[i]? = some y) (hes : ∀ y ∈ es, y.length = sz) :
    Tri P (mkO (.indexAddr t x ix) ty) [cc (.d (.sl es)), sc (.int k i)] [] (cc (.d (.ptr y))) [] :=
  tri_of_value fun F σ X w a hr _ => by
    obtain ⟨ht, _, inf, z, hi, _, hsize, _⟩ := appOK_parts hT ho
    obtain ⟨h1, h2, _⟩ := (show RepS F σ w (a.eval x) (cc (.d (.sl es))) ∧ RepS F σ w (a.eval ix) (sc (.int k i)) ∧ True from hr)
    have hix : a.eval ix = .int k i := scal_rep h2 rfl
    have h1' : RepD F w (a.eval x) (.sl es) := h1
    obtain ⟨hlt, rfl⟩ := List.getElem?_eq_some_iff.1 hy
    generalize hv : a.eval x = v at *
    cases h1' with
    | sl ad cap sz' es val hcap hm hsz ha _ hr =>
      obtain ⟨b, off, rfl, hF, hc⟩ := ha (by omega)
      have hszz : sz' = sz := (hsz _ (List.getElem_mem hlt)).symm.trans (hes _ (List.getElem_mem hlt))
      subst hszz
      refine ⟨.pointer (some ⟨b, off + i * sz', none⟩), ?_, RepD.ptr b _ _ (fun j => val i j) hF (fun j hj => hc i j hlt (by rw [hsz _ (List.getElem_mem hlt)] at hj; exact hj)) (fun j hj => hr i hlt j hj)⟩
      simp [execOp, mkO, hv, hix, Instr.indexAt, asIntOf, run_underlying ht, sizeOf, typeInfo, hi, hsize, hlt, add_none]
/-- An element of an array of one's own. -/
theorem tri_index_own {t ty : TypeId} {x ix : Operand} {e sz bytes i h : Nat} {k : IntKind} {es : List (List DV)} (ho : appOK T t e sz bytes = true) (hi0 : i < es.length) :
    Tri P (mkO (.indexAddr t x ix) ty) [cc (.own h), sc (.int k i)] [(h, .arr e sz bytes es)] (cc (.eloc h i 0 sz)) [(h, .arr e sz bytes es)] :=
  tri_of_value fun F σ X w a hr hok => by
    obtain ⟨ht, _, inf, z, hi, _, hsize, _⟩ := appOK_parts hT ho
    obtain ⟨h1, h2, _⟩ := (show RepS F σ w (a.eval x) (cc (.own h)) ∧ RepS F σ w (a.eval ix) (sc (.int k i)) ∧ True from hr)
    have hix : a.eval ix = .int k i := scal_rep h2 rfl
    obtain ⟨hv, _⟩ := (show RepC F σ w (a.eval x) (.own h) from h1)
    obtain ⟨xs, e1, _, e3, _, e5⟩ := hok.ok h (.arr e sz bytes es) (by simp [look])
    rcases e1.2 with ⟨_, c⟩ | ⟨g, cap, cur, c, _⟩
    · omega
    · refine ⟨.pointer (some ⟨g, i * sz, none⟩), ?_, ⟨g, es.length, cap, c, by simp⟩⟩
      simp [execOp, mkO, hv, c, hix, Instr.indexAt, asIntOf, run_underlying ht, sizeOf, typeInfo, hi, hsize, hi0, add_none]
end

theorem look_none_put {α : Type} {l : List (Nat × α)} {i k : Nat} {x y : α} (h : look (put l i x) k = some y) : (i = k ∧ x = y) ∨ (i ≠ k ∧ look l k = some y) := by
  rw [look_put] at h
  split at h
  · rename_i c; exact .inl ⟨c, Option.some.inj h⟩
  · rename_i c; exact .inr ⟨c, h⟩

/-- A nil slice in a slot, as an array of one's own without elements. -/
def St.ownNil (S : St) (i h e sz bytes : Nat) : Option St :=
  match look S.slots i with
  | some (.t (.c (.d (.v (.slice none 0 0))))) => bif S.has h then none else some { S with slots := put S.slots i (cc (.own h)), objs := put S.objs h (.arr e sz bytes []) }
  | _ => none
theorem Rel.own {G : Gh} {S S' : St} {a : Act} {w : World} {i h e sz bytes : Nat} (hR : Rel G S a w) (hs : S.ownNil i h e sz bytes = some S') : Rel G S' a w := by
  unfold St.ownNil at hs
  split at hs
  · rename_i hi
    cases hh : S.has h with
    | true => simp [hh] at hs
    | false =>
      simp only [hh, cond_false, Option.some.injEq] at hs
      subst hs
      obtain ⟨F, σ, X, r⟩ := hR
      have hv : a.tmps.getD i undef = .slice none 0 0 := by
        exact scal_rep (r.slots i _ hi) rfl
      have hσ : ∀ k, k ≠ h → (fun k => if k = h then Value.slice none 0 0 else σ k) k = σ k := fun k hk => if_neg hk
      have hobj : ∀ k o, look S.objs k = some o → k ≠ h ∧ o.has h = false := fun k o e => St.has_obj hh e
      refine ⟨F, fun k => if k = h then .slice none 0 0 else σ k, fun k b => if k = h then False else X k b, r.defers, r.size, fun k sv hk => ?_, ⟨fun k o hk => ?_, fun k k' o o' h1 h2 hne b hb hb' => ?_, fun k o hk b hb => ?_⟩, fun k hk => ?_, fun k o hk b hb => ?_, r.frz, r.frz0, r.grow, r.same, r.os, r.tape, r.output⟩
      · rcases look_none_put hk with ⟨rfl, rfl⟩ | ⟨c, hq⟩
        · rw [hv]
          exact ⟨by simp, by simp [Value.oneCell']⟩
        · exact RepS.mono (fun _ h => h) (fun _ _ => rfl) (fun j hj => hσ j fun d => by rw [d, St.has_slot hh hq] at hj; cases hj) (r.slots k sv hq)
      · rcases look_none_put hk with ⟨rfl, rfl⟩ | ⟨c, hq⟩
        · simp only [if_true]
          exact ⟨[], World.ownsRow_nil w 0 e sz, fun b => by simp [Value.ownBlock], by simp, by simp, fun i hi => absurd hi (by simp)⟩
        · simp only [if_neg c.symm]
          exact ObjOK.mono (fun _ h => h) (fun _ _ => rfl) (fun j hj => hσ j fun d => by rw [d, (hobj k o hq).2] at hj; cases hj) (r.oks.ok k o hq)
      · rcases look_none_put h1 with ⟨rfl, rfl⟩ | ⟨c, h1⟩
        · simp only [if_true] at hb
        · rcases look_none_put h2 with ⟨rfl, rfl⟩ | ⟨c', h2⟩
          · simp only [if_true] at hb'
          · simp only [if_neg c.symm, if_neg c'.symm] at hb hb'
            exact r.oks.apart k k' o o' h1 h2 hne b hb hb'
      · rcases look_none_put hk with ⟨rfl, rfl⟩ | ⟨c, hk⟩
        · simp only [if_true] at hb
        · simp only [if_neg c.symm] at hb
          exact r.oks.live k o hk b hb
      · have hk' : S.old.any (Nat.beq k) = true := hk
        refine (hσ k fun d => ?_).trans (r.sig0 k hk')
        have := St.has_old hh
        rw [← d, hk'] at this
        cases this
      · rcases look_none_put hk with ⟨rfl, rfl⟩ | ⟨c, hk⟩
        · simp only [if_true] at hb
        · simp only [if_neg c.symm] at hb
          exact r.foot k o hk b hb
  · cases hs
end Go.E

/- A logic over abstract states. Part 19: a string's runes; sets of strings as maps. -/
namespace Go.E
open Go Go.MapKept

theorem blt_iff {a b : Nat} : Nat.blt a b = true ↔ a < b := by rw [Nat.blt_eq]
/-! ### Runes -/
theorem width_pos (s : ByteArray) (pos : Nat) : 1 ≤ (Utf8.decode s pos).2 := by
  simp only [Utf8.decode]
  repeat' split
  all_goals simp
def runesF (s : ByteArray) : Nat → Nat → List Int
  | 0, _ => []
  | n + 1, pos => bif Nat.blt pos s.size then ((Utf8.decode s pos).1 : Int) :: runesF s n (pos + (Utf8.decode s pos).2) else []
theorem runesF_more (s : ByteArray) : ∀ (n m pos : Nat), s.size - pos ≤ n → s.size - pos ≤ m → runesF s n pos = runesF s m pos
  | 0, 0, _, _, _ => rfl
  | 0, m + 1, pos, h, _ => by
    have : Nat.blt pos s.size = false := by
      cases e : Nat.blt pos s.size with
      | false => rfl
      | true => have := blt_iff.1 e; omega
    simp [runesF, this]
  | n + 1, 0, pos, _, h => by
    have : Nat.blt pos s.size = false := by
      cases e : Nat.blt pos s.size with
      | false => rfl
      | true => have := blt_iff.1 e; omega
    simp [runesF, this]
  | n + 1, m + 1, pos, h1, h2 => by
    simp only [runesF]
    cases e : Nat.blt pos s.size with
    | false => rfl
    | true =>
      have := blt_iff.1 e
      have := width_pos s pos
      simp only [cond_true]
      rw [runesF_more s n m _ (by omega) (by omega)]
/-- A string's runes from a place on. -/
def runesAt (s : ByteArray) (pos : Nat) : List Int := runesF s (s.size - pos) pos
def runes (s : ByteArray) : List Int := runesAt s 0
theorem runesAt_more {s : ByteArray} {pos : Nat} (h : pos < s.size) : runesAt s pos = ((Utf8.decode s pos).1 : Int) :: runesAt s (pos + (Utf8.decode s pos).2) := by
  have hw := width_pos s pos
  unfold runesAt
  rw [show s.size - pos = (s.size - pos - 1) + 1 by omega]
  simp only [runesF, blt_iff.2 h, cond_true]
  rw [runesF_more s (s.size - pos - 1) (s.size - (pos + (Utf8.decode s pos).2)) _ (by omega) (by omega)]
theorem runesAt_end {s : ByteArray} {pos : Nat} (h : ¬ pos < s.size) : runesAt s pos = [] := by
  unfold runesAt
  rw [show s.size - pos = 0 by omega]
  rfl
theorem runesAt_length (s : ByteArray) : ∀ (n pos : Nat), (runesF s n pos).length ≤ n
  | 0, _ => by simp [runesF]
  | n + 1, pos => by
    simp only [runesF]
    cases Nat.blt pos s.size with
    | false => simp
    | true => have := runesAt_length s n (pos + (Utf8.decode s pos).2); simp; omega
theorem runes_length (s : ByteArray) : (runes s).length ≤ s.size := by
  have := runesAt_length s (s.size - 0) 0
  simpa [runes, runesAt] using this

section
variable {P : Program} {T : Tab} (hT : TabOK P T)

include hT in
theorem tri_range_str {t ty : TypeId} {x : Operand} {s : ByteArray} (n : Nat) (hk : ((look T t).map (·.kind)) = some 4) : Tri P (mkO (.range t x) ty) [sc (.string s)] [] (cc (.loc n 0)) [(n, .it s 0)] :=
  tri_new fun F σ w a hr => by
    have hx : a.eval x = .string s := scal_rep (show RepS F σ w (a.eval x) (sc (.string s)) from hr.1) rfl
    have hu : P.underlying t = some .string := by
      cases e1 : look T t with
      | none => rw [e1] at hk; cases hk
      | some ti =>
        rw [e1] at hk
        obtain ⟨i, d, _, hd, _, _, _, _, _, _, _, hkd⟩ := ti_parts (hT t ti e1)
        rw [hd]
        simp only [Option.map_some, Option.some.injEq] at hk
        rw [hkd] at hk
        cases d <;> simp_all [kindD]
    exact ⟨.pointer (some ⟨w.heap.size, 0, none⟩), .stringIter s 0, by simp [execOp, mkO, hx, Instr.range, run_underlying hu], fun σ' _ hn _ _ hh => ⟨⟨_, hn, rfl⟩, _, rfl, fun k => Iff.rfl, hh⟩⟩

theorem heap_put {w : World} {r : Nat} {o o' : Obj} (hb : w.heap[r]? = some o) : (w.heap.setIfInBounds r o')[r]? = some o' ∧ ∀ r', r' ≠ r → (w.heap.setIfInBounds r o')[r']? = w.heap[r']? := heap_set hb

theorem tri_next_end {ty : TypeId} {x : Operand} {s : ByteArray} {h pos : Nat} (hp : ¬ pos < s.size) : Tri P (mkO (.next x true) ty) [cc (.loc h 0)] [(h, .it s pos)] (.tup [.c (.d (.v (.bool false)))]) [(h, .it s pos)] :=
  tri_of_value fun F σ X w a hr hok => by
    obtain ⟨b, hb, hx⟩ := (show RepC F σ w (a.eval x) (.loc h 0) from hr.1)
    obtain ⟨b', hb', _, hh⟩ := hok.ok h (.it s pos) (by simp [look])
    rw [hb] at hb'
    simp only [Value.pointer.injEq, Option.some.injEq, Addr.mk.injEq] at hb'
    obtain ⟨rfl, _⟩ := hb'
    refine ⟨.tuple #[.bool false], by simp [execOp, mkO, hx, Instr.next, getObj, Sem.run, hh, hp], ⟨_, rfl, rfl, fun i hi => ?_⟩⟩
    simp only [List.length_cons, List.length_nil] at hi
    have : i = 0 := by omega
    subst this
    exact RepD.v _ rfl

/-- One object is changed in its place. -/
theorem tri_set {P : Program} {o : Oper} {vals : List SV} {res : SV} {h : Nat} {ob ob' : LObj}
    (hh : ∀ F σ X w a, Reps F σ w a o.op.operands.toList vals → OKs F σ X w [(h, ob)] → ∃ b old new v, X h b ∧ (∀ k, X h k → k = b) ∧ w.heap[b]? = some old ∧ ((execOp a.eval o).run P w = .ok (.value v) { w with heap := w.heap.setIfInBounds b new } ∨ v = undef ∧ (execOp a.eval o).run P w = .ok .skip { w with heap := w.heap.setIfInBounds b new }) ∧
      ((∀ k, k ≠ b → ({ w with heap := w.heap.setIfInBounds b new } : World).heap[k]? = w.heap[k]?) → ({ w with heap := w.heap.setIfInBounds b new } : World).heap[b]? = some new →
        RepS F σ { w with heap := w.heap.setIfInBounds b new } v res ∧ ObjOK F σ { w with heap := w.heap.setIfInBounds b new } (σ h) (X h) ob')) : Tri P o vals [(h, ob)] res [(h, ob')] := by
  intro F σ X w a hr hok hF
  obtain ⟨b, old, new, v, hx, hx', hb, hrun, hpost⟩ := hh F σ X w a hr hok
  refine (show ∀ r, (r = .ok (.value v) { w with heap := w.heap.setIfInBounds b new } ∨ v = undef ∧ r = .ok .skip { w with heap := w.heap.setIfInBounds b new }) → Upon P (fun v w' => ∃ F' σ' X', RepS F' σ' w' v res ∧ OKs F' σ' X' w' [(h, ob')] ∧ Post [(h, ob)] [(h, ob')] F σ X w F' σ' X' w') r from fun r hr => ?_) _ hrun
  suffices hS : ∃ F' σ' X', RepS F' σ' { w with heap := w.heap.setIfInBounds b new } v res ∧ OKs F' σ' X' { w with heap := w.heap.setIfInBounds b new } [(h, ob')] ∧ Post [(h, ob)] [(h, ob')] F σ X w F' σ' X' { w with heap := w.heap.setIfInBounds b new } by
    rcases hr with rfl | ⟨rfl, rfl⟩ <;> exact hS
  obtain ⟨h1, h2⟩ := heap_put (o' := new) hb
  obtain ⟨h3, h4⟩ := hpost h2 h1
  have hl : look [(h, ob)] h = some ob := by simp [look]
  refine ⟨F, σ, X, h3, ⟨fun k o e => ?_, fun k k' o o' e e' hne => ?_, fun k o e j hj => ?_⟩, rfl, rfl, rfl, by simp, fun k hk hx2 => h2 k fun e => hx2 h ob hl (e ▸ hx), fun _ h => h, fun _ h => .inl h, fun k o e j hj => ?_, fun _ _ => rfl⟩
  · obtain ⟨rfl, rfl⟩ := look_one e; exact h4
  · obtain ⟨rfl, rfl⟩ := look_one e; exact absurd (look_one e').1.symm hne
  · obtain ⟨rfl, rfl⟩ := look_one e
    have := hok.live _ _ hl j hj
    exact ⟨by simpa using this.1, this.2⟩
  · obtain ⟨rfl, rfl⟩ := look_one e
    exact .inr ⟨_, _, hl, hj⟩

theorem tri_next_more {ty : TypeId} {x : Operand} {s : ByteArray} {h pos : Nat} (hp : pos < s.size) :
    Tri P (mkO (.next x true) ty) [cc (.loc h 0)] [(h, .it s pos)] (.tup [.c (.d (.v (.bool true))), .c (.d (.v (.int .i64 pos))), .c (.d (.v (.int .i32 (Utf8.decode s pos).1)))]) [(h, .it s (pos + (Utf8.decode s pos).2))] :=
  tri_set fun F σ X w a hr hok => by
    obtain ⟨b, hb, hx⟩ := (show RepC F σ w (a.eval x) (.loc h 0) from hr.1)
    obtain ⟨b', hb', hX, hh⟩ := hok.ok h (.it s pos) (by simp [look])
    have hbb := hb'
    rw [hb] at hb'
    simp only [Value.pointer.injEq, Option.some.injEq, Addr.mk.injEq] at hb'
    obtain ⟨rfl, _⟩ := hb'
    refine ⟨b, _, .stringIter s (pos + (Utf8.decode s pos).2), .tuple #[.bool true, .int .i64 pos, .int .i32 (Utf8.decode s pos).1], (hX b).2 rfl, fun k hk => (hX k).1 hk, hh, .inl ?_, fun _ hnew => ⟨⟨_, rfl, rfl, fun i hi => ?_⟩, b, hb, hX, hnew⟩⟩
    · simp [execOp, mkO, hx, Instr.next, getObj, setObj, Sem.run, hh, hp, goInt]
    · simp only [List.length_cons, List.length_nil] at hi
      rcases (by omega : i = 0 ∨ i = 1 ∨ i = 2) with rfl | rfl | rfl <;> exact RepD.v _ rfl
end

/-! ### Sets of strings -/
def hasK (ks : List ByteArray) (k : ByteArray) : Bool := ks.any fun x => eqS x k
/-- A map that has these keys, each with true. -/
def setR (ks : List ByteArray) : (Nat → Prop) → World → Value → (Nat → Prop) → Prop := fun _ w x X =>
  ∃ b es clock, x = .map (some b) ∧ (∀ k, X k ↔ k = b) ∧ w.heap[b]? = some (.map es clock) ∧ es.toList.map (fun e => (e.key, e.val)) = ks.map fun k => (Value.string k, Value.bool true)
theorem setR_ok {F : Nat → Prop} {σ : Nat → Value} {w : World} {x : Value} {X : Nat → Prop} {ks : List ByteArray} : ObjOK F σ w x X (.opq (setR ks)) ↔ setR ks F w x X := by
  refine ⟨fun h => h.1, fun h => ⟨h, fun F' w' _ hw => ?_⟩⟩
  obtain ⟨b, es, clock, h1, h2, h3, h4⟩ := h
  exact ⟨b, es, clock, h1, h2, (hw b (.inr ((h2 b).2 rfl))).trans h3, h4⟩

theorem set_find {es : Array MapEntry} {ks : List ByteArray} (h : es.toList.map (fun e => (e.key, e.val)) = ks.map fun k => (Value.string k, Value.bool true)) (k : ByteArray) :
    (hasK ks k = false ∧ Instr.findNow .string (.string k) es.toList 0 = some none) ∨ (hasK ks k = true ∧ ∃ i, Instr.findNow .string (.string k) es.toList 0 = some (some (i, .bool true))) := by
  have hkeys : ∀ x ∈ es.toList, ∃ q, q ∈ ks ∧ x.key = .string q ∧ x.val = .bool true := fun x hx => by
    have : (x.key, x.val) ∈ ks.map fun k => (Value.string k, Value.bool true) := h ▸ List.mem_map.2 ⟨x, hx, rfl⟩
    obtain ⟨q, hq, e⟩ := List.mem_map.1 this
    simp only [Prod.mk.injEq] at e
    exact ⟨q, hq, e.1.symm, e.2.symm⟩
  rcases findNow_spec (d := .string) (k := .string k) trivial es.toList 0 (fun x hx => by obtain ⟨q, _, e, _⟩ := hkeys x hx; rw [e]; trivial) with ⟨h1, h2⟩ | ⟨j, e, h1, h2, h3⟩
  · refine .inl ⟨?_, h1⟩
    cases hh : hasK ks k with
    | false => rfl
    | true =>
      obtain ⟨q, hq, e⟩ := List.any_eq_true.1 hh
      obtain rfl := eqS_true e
      have : (Value.string q, Value.bool true) ∈ es.toList.map (fun e => (e.key, e.val)) := h ▸ List.mem_map.2 ⟨q, hq, rfl⟩
      obtain ⟨x, hx, e2⟩ := List.mem_map.1 this
      simp only [Prod.mk.injEq] at e2
      exact absurd e2.1 (h2 x hx)
  · obtain ⟨q, hq, e1, e2⟩ := hkeys e (List.mem_of_getElem? h2)
    rw [h3] at e1
    simp only [Value.string.injEq] at e1
    subst e1
    exact .inr ⟨List.any_eq_true.2 ⟨k, hq, eqS_self k⟩, _, by rw [h1, e2]⟩

section
variable {P : Program}
theorem tri_set_new {t ty : TypeId} (n : Nat) : Tri P (mkO (.makeMap t none) ty) [] [] (cc (.own n)) [(n, .opq (setR []))] :=
  tri_new fun F σ w a hr => ⟨.map (some w.heap.size), .map #[] 0, by simp [execOp, mkO, Instr.makeMap], fun σ' _ hn _ _ hh => ⟨⟨hn.symm, by rw [hn]; rfl⟩, setR_ok.2 ⟨_, _, _, rfl, fun _ => Iff.rfl, hh, by simp⟩⟩⟩

theorem tri_set_get {t kt et ty : TypeId} {x y : Operand} {h : Nat} {ks : List ByteArray} {k : ByteArray} (hm : P.underlying t = some (.map kt et)) (hd : P.underlying kt = some .string) (hz : (P.info? et).bind (·.zero) = some (.bool false)) :
    Tri P (mkO (.lookup t x y false) ty) [cc (.own h), sc (.string k)] [(h, .opq (setR ks))] (sc (.bool (hasK ks k))) [(h, .opq (setR ks))] :=
  tri_of_value fun F σ X w a hr hok => by
    obtain ⟨h1, h2, _⟩ := (show RepS F σ w (a.eval x) (cc (.own h)) ∧ RepS F σ w (a.eval y) (sc (.string k)) ∧ True from hr)
    have hy : a.eval y = .string k := scal_rep h2 rfl
    obtain ⟨hv, _⟩ := (show RepC F σ w (a.eval x) (.own h) from h1)
    obtain ⟨b, es, clock, e1, _, e3, e4⟩ := setR_ok.1 (hok.ok h (.opq (setR ks)) (by simp [look]))
    refine ⟨.bool (hasK ks k), ?_, RepD.v _ rfl⟩
    obtain ⟨i, hi, hiz⟩ := Option.bind_eq_some_iff.1 hz
    rcases set_find e4 k with ⟨q, hf⟩ | ⟨q, i, hf⟩
    · simp [execOp, mkO, hv, e1, hy, Instr.lookup, run_underlying hm, MapKept.run_getObj_map e3, MapKept.run_checkKey hd (show IsKey .string (.string k) from trivial), MapKept.run_findKey hd hf, q, zeroValue, typeInfo, hi, hiz]
    · simp [execOp, mkO, hv, e1, hy, Instr.lookup, run_underlying hm, MapKept.run_getObj_map e3, MapKept.run_checkKey hd (show IsKey .string (.string k) from trivial), MapKept.run_findKey hd hf, q]

theorem tri_set_put {t kt et ty : TypeId} {x y z : Operand} {h : Nat} {ks : List ByteArray} {k : ByteArray} (hm : P.underlying t = some (.map kt et)) (hd : P.underlying kt = some .string) (hk : hasK ks k = false) :
    Tri P (mkO (.mapUpdate t x y z) ty) [cc (.own h), sc (.string k), sc (.bool true)] [(h, .opq (setR ks))] .any [(h, .opq (setR (ks ++ [k])))] :=
  tri_set fun F σ X w a hr hok => by
    obtain ⟨h1, h2, h3, _⟩ := (show RepS F σ w (a.eval x) (cc (.own h)) ∧ RepS F σ w (a.eval y) (sc (.string k)) ∧ RepS F σ w (a.eval z) (sc (.bool true)) ∧ True from hr)
    have hy : a.eval y = .string k := scal_rep h2 rfl
    have hz : a.eval z = .bool true := scal_rep h3 rfl
    obtain ⟨hv, _⟩ := (show RepC F σ w (a.eval x) (.own h) from h1)
    obtain ⟨b, es, clock, e1, e2, e3, e4⟩ := setR_ok.1 (hok.ok h (.opq (setR ks)) (by simp [look]))
    rcases set_find e4 k with ⟨q, hf⟩ | ⟨q, i, hf⟩
    · refine ⟨b, _, .map (es.push { key := .string k, val := .bool true, born := clock }) (clock + 1), undef, (e2 b).2 rfl, fun j hj => (e2 j).1 hj, e3, .inr ⟨rfl, ?_⟩, fun _ hnew => ⟨trivial, setR_ok.2 ⟨b, _, _, e1, e2, hnew, by simp [e4]⟩⟩⟩
      simp [execOp, mkO, hv, e1, hy, hz, Instr.mapUpdate, run_underlying hm, MapKept.run_getObj_map e3, MapKept.run_checkKey hd (show IsKey .string (.string k) from trivial), MapKept.run_findKey hd hf, MapKept.run_setObj_map _ e3]
    · rw [hk] at q; cases q
end
end Go.E

/- A logic over abstract states. Part 20: states put in other words behind a piece of code; arguments in other words; rounds one by one; lists. -/
namespace Go.E
open Go

/-! A name for one's own object, old or not, given up for a new one. -/
theorem beq_sw (a b j k : Nat) : Nat.beq (sw a b j) k = Nat.beq j (sw a b k) := by
  by_cases c : sw a b j = k
  · subst c; simp [sw_sw]
  · have c' : j ≠ sw a b k := fun e => c (by rw [e, sw_sw])
    rw [beq_false c, beq_false c']
theorem CV.has_sw {a b k : Nat} : ∀ y : CV, (y.sw a b).has k = y.has (E.sw a b k)
  | .d _ => rfl
  | .loc h off => beq_sw a b h k
  | .eloc h i off sz => beq_sw a b h k
  | .own h => beq_sw a b h k
  | .clo g caps => by simp [CV.sw, CV.has, beq_sw, Function.comp_def]
theorem TV.has_sw {a b k : Nat} : ∀ y : TV, (y.sw a b).has k = y.has (E.sw a b k)
  | .c y => CV.has_sw y
  | .agg l => by simp [TV.sw, TV.has, CV.has_sw, Function.comp_def]
theorem SV.has_sw {a b k : Nat} : ∀ y : SV, (y.sw a b).has k = y.has (E.sw a b k)
  | .t y => TV.has_sw y
  | .tup l => by simp [SV.sw, SV.has, TV.has_sw, Function.comp_def]
  | .any => rfl
theorem LObj.has_sw {a b k : Nat} : ∀ y : LObj, (y.sw a b).has k = y.has (E.sw a b k)
  | .cells t cs => by simp [LObj.sw, LObj.has, CV.has_sw, Function.comp_def]
  | .arr .. => rfl
  | .it .. => rfl
  | .opq _ => rfl
theorem sw_left (a b : Nat) : sw a b a = b := by simp [sw]
def St.mo (S : St) (a b : Nat) : Option St := bif S.has b then none else some (S.sw a b)
theorem Rel.mo {G : Gh} {S S' : St} {ac : Act} {w : World} {a b : Nat} (h : Rel G S ac w) (hs : S.mo a b = some S') : Rel G S' ac w := by
  unfold St.mo at hs
  cases hb : S.has b with
  | true => simp [hb] at hs
  | false =>
    simp only [hb, cond_false, Option.some.injEq] at hs
    subst hs
    obtain ⟨F, σ, X, r⟩ := h
    have hσ : ∀ k, k ≠ a → (fun k => if k = a then σ a else σ (E.sw a b k)) k = (fun k => σ (E.sw a b k)) k := fun k hk => if_neg hk
    have hob : ∀ h o, look (swO a b S.objs) h = some o → ∃ y, look S.objs (E.sw a b h) = some y ∧ o = y.sw a b := fun h o e => look_swO e
    have hne : ∀ h o, look (swO a b S.objs) h = some o → h ≠ a := fun h o e c => by
      obtain ⟨y, e1, _⟩ := hob h o e
      subst c
      rw [sw_left] at e1
      exact (St.has_obj hb e1).1 rfl
    refine ⟨F, fun k => if k = a then σ a else σ (E.sw a b k), fun k => X (E.sw a b k), r.defers, r.size, fun i sv e => ?_, ⟨fun k o e => ?_, fun k k' o o' e e' hk => ?_, fun k o e => ?_⟩, fun k hk => ?_, fun k o e => ?_, r.frz, r.frz0, r.grow, r.same, r.os, r.tape, r.output⟩
    · obtain ⟨y, e1, rfl⟩ := look_swS e
      refine RepS.mono (fun _ h => h) (fun _ _ => rfl) (fun k hk => hσ k fun c => ?_) (RepS.sw (a := a) (b := b) (r.slots i y e1))
      subst c
      rw [SV.has_sw, sw_left, St.has_slot hb e1] at hk
      cases hk
    · have hka := hne k o e
      obtain ⟨y, e1, rfl⟩ := hob k o e
      simp only [if_neg hka]
      refine ObjOK.mono (fun _ h => h) (fun _ _ => rfl) (fun j hj => hσ j fun c => ?_) (ObjOK.sw (a := a) (b := b) (r.oks.ok _ y e1))
      subst c
      rw [LObj.has_sw, sw_left, (St.has_obj hb e1).2] at hj
      cases hj
    · obtain ⟨y, e1, rfl⟩ := hob k o e
      obtain ⟨y', e2, rfl⟩ := hob k' o' e'
      exact r.oks.apart _ _ y y' e1 e2 fun c => hk (by have := congrArg (E.sw a b) c; simpa only [sw_sw] using this)
    · obtain ⟨y, e1, rfl⟩ := hob k o e
      exact r.oks.live _ y e1
    · have hk' : S.old.any (Nat.beq k) = true := hk
      refine Eq.trans ?_ (r.sig0 k hk')
      by_cases c : k = a
      · subst c; simp
      · have c2 : k ≠ b := fun e => by subst e; have := St.has_old hb; rw [hk'] at this; cases this
        simp only [if_neg c]
        simp [E.sw, beq_false c, beq_false c2]
    · obtain ⟨y, e1, rfl⟩ := hob k o e
      exact r.foot _ y e1

/-- A nil slice told of as data without elements. -/
def noAt : Nat → List CV → Option (List CV)
  | 0, .d (.v (.slice none 0 0)) :: r => some (.d (.sl []) :: r)
  | k + 1, c :: r => match noAt k r with
    | some r' => some (c :: r')
    | none => none
  | _, _ => none
theorem RepD.no {F : Nat → Prop} {w : World} : RepD F w (.slice none 0 0) (.sl []) :=
  RepD.sl none 0 0 [] (fun _ _ => undef) (Nat.le_refl _) (by simp) (by simp) (fun h => by simp at h) (fun _ => rfl) (fun i h => by simp at h)
theorem noAt_rep {F : Nat → Prop} {σ : Nat → Value} {w : World} : ∀ {k : Nat} {cs cs' : List CV} (f : Nat → Value), noAt k cs = some cs' → (∀ i (h : i < cs.length), RepC F σ w (f i) cs[i]) → cs'.length = cs.length ∧ ∀ i (h : i < cs'.length), RepC F σ w (f i) cs'[i]
  | 0, [], _, f, h, _ => by simp [noAt] at h
  | _ + 1, [], _, f, h, _ => by simp [noAt] at h
  | 0, c :: r, cs', f, h, hr => by
    unfold noAt at h
    split at h
    · rename_i heq
      obtain rfl := Option.some.inj h
      obtain ⟨rfl, rfl⟩ := List.cons.inj heq
      refine ⟨rfl, fun i hi => ?_⟩
      cases i with
      | zero =>
        have h0 : RepD F w (f 0) (.v (.slice none 0 0)) := hr 0 (Nat.succ_pos _)
        show RepD F w (f 0) (.sl [])
        generalize f 0 = x at h0
        cases h0
        exact RepD.no
      | succ i => exact hr (i + 1) hi
    · rename_i c1 c2; exact absurd c1 (by omega)
    · cases h
  | k + 1, c :: r, cs', f, h, hr => by
    simp only [noAt] at h
    cases e : noAt k r with
    | none => simp [e] at h
    | some r' =>
      simp only [e, Option.some.injEq] at h
      subst h
      obtain ⟨h1, h2⟩ := noAt_rep (fun i => f (i + 1)) e (fun i hi => hr (i + 1) (Nat.succ_lt_succ hi))
      refine ⟨by simp [h1], fun i hi => ?_⟩
      cases i with
      | zero => exact hr 0 (Nat.succ_pos _)
      | succ i => exact h2 i (Nat.lt_of_succ_lt_succ hi)
def St.no (S : St) (i k : Nat) : Option St :=
  match look S.slots i with
  | some (.t (.c y)) => match noAt 0 [y] with
    | some [z] => some { S with slots := put S.slots i (cc z) }
    | _ => none
  | some (.t (.agg l)) => match noAt k l with
    | some l' => some { S with slots := put S.slots i (.t (.agg l')) }
    | none => none
  | _ => none
def St.noO (S : St) (h k : Nat) : Option St :=
  match look S.objs h with
  | some (.cells t cs) => match noAt k cs with
    | some cs' => some { S with objs := put S.objs h (.cells t cs') }
    | none => none
  | _ => none
theorem RelX.slot {G : Gh} {F : Nat → Prop} {σ : Nat → Value} {X : Nat → Nat → Prop} {S : St} {a : Act} {w : World} (r : RelX G F σ X S a w) (i : Nat) (sv : SV) (h : RepS F σ w (a.tmps.getD i undef) sv) : RelX G F σ X { S with slots := put S.slots i sv } a w :=
  ⟨r.defers, r.size, fun j x e => by
    rw [look_put] at e
    by_cases c : i = j
    · subst c; simp only [if_true, Option.some.injEq] at e; subst e; exact h
    · simp only [c, if_false] at e; exact r.slots j x e, r.oks, r.sig0, r.foot, r.frz, r.frz0, r.grow, r.same, r.os, r.tape, r.output⟩
theorem Rel.no {G : Gh} {S S' : St} {a : Act} {w : World} {i k : Nat} (hR : Rel G S a w) (hs : S.no i k = some S') : Rel G S' a w := by
  obtain ⟨F, σ, X, r⟩ := hR
  unfold St.no at hs
  split at hs
  · rename_i y hy
    split at hs
    · rename_i z hz
      obtain rfl := Option.some.inj hs
      have hy' : RepC F σ w (a.tmps.getD i undef) y := r.slots i _ hy
      obtain ⟨_, h2⟩ := noAt_rep (F := F) (σ := σ) (w := w) (fun _ => a.tmps.getD i undef) hz (fun j hj => by
        have : j = 0 := by simp at hj; omega
        subst this; exact hy')
      exact ⟨F, σ, X, r.slot i _ (by have := h2 0 (by simp); exact this)⟩
    · cases hs
  · rename_i l hl
    split at hs
    · rename_i l' hz
      obtain rfl := Option.some.inj hs
      obtain ⟨cs, h1, h2, h3⟩ := (show RepT F σ w (a.tmps.getD i undef) (.agg l) from r.slots i _ hl)
      obtain ⟨g1, g2⟩ := noAt_rep (fun j => cs.getD j undef) hz h3
      exact ⟨F, σ, X, r.slot i _ ⟨cs, h1, by rw [h2, g1], g2⟩⟩
    · cases hs
  · cases hs
theorem Rel.noO {G : Gh} {S S' : St} {a : Act} {w : World} {h k : Nat} (hR : Rel G S a w) (hs : S.noO h k = some S') : Rel G S' a w := by
  obtain ⟨F, σ, X, r⟩ := hR
  unfold St.noO at hs
  split at hs
  · rename_i t cs hy
    split at hs
    · rename_i cs' hz
      obtain rfl := Option.some.inj hs
      obtain ⟨b, vs, h1, h2, h3, h4, h5⟩ := r.oks.ok h _ hy
      obtain ⟨g1, g2⟩ := noAt_rep (fun j => vs.getD j undef) hz h5
      have key : ∀ j o, look (put S.objs h (.cells t cs')) j = some o → (j = h ∧ o = .cells t cs') ∨ (j ≠ h ∧ look S.objs j = some o) := fun j o e => by
        rw [look_put] at e
        by_cases c : h = j
        · subst c; simp only [if_true, Option.some.injEq] at e; exact .inl ⟨rfl, e.symm⟩
        · simp only [c, if_false] at e; exact .inr ⟨fun d => c d.symm, e⟩
      have old : ∀ j o, look (put S.objs h (.cells t cs')) j = some o → ∃ o', look S.objs j = some o' := fun j o e => by
        rcases key j o e with ⟨rfl, _⟩ | ⟨_, e⟩
        · exact ⟨_, hy⟩
        · exact ⟨_, e⟩
      refine ⟨F, σ, X, r.defers, r.size, r.slots, ⟨fun j o e => ?_, fun j j' o o' e e' hne => ?_, fun j o e => ?_⟩, r.sig0, fun j o e => ?_, r.frz, r.frz0, r.grow, r.same, r.os, r.tape, r.output⟩
      · rcases key j o e with ⟨rfl, rfl⟩ | ⟨_, e⟩
        · exact ⟨b, vs, h1, h2, h3, by rw [h4, g1], g2⟩
        · exact r.oks.ok j o e
      · obtain ⟨_, e1⟩ := old j o e
        obtain ⟨_, e2⟩ := old j' o' e'
        exact r.oks.apart j j' _ _ e1 e2 hne
      · obtain ⟨_, e1⟩ := old j o e
        exact r.oks.live j _ e1
      · obtain ⟨_, e1⟩ := old j o e
        exact r.foot j _ e1
    · cases hs
  · cases hs

inductive Mv where
  | mo (a b : Nat)
  | sw (a b : Nat)
  | fz (h : Nat)
  | own (i h e sz bytes : Nat)
  | no (i k : Nat)
  | noO (h k : Nat)
def St.mv (S : St) : Mv → Option St
  | .mo a b => S.mo a b
  | .sw a b => bif (S.old.any (Nat.beq a) || S.old.any (Nat.beq b)) then none else some (S.sw a b)
  | .fz h => S.fz h
  | .own i h e sz bytes => S.ownNil i h e sz bytes
  | .no i k => S.no i k
  | .noO h k => S.noO h k
def St.mvs (S : St) : List Mv → Option St
  | [] => some S
  | m :: r => match S.mv m with
    | some S' => S'.mvs r
    | none => none
theorem Rel.mv {G : Gh} {S S' : St} {a : Act} {w : World} {m : Mv} (hR : Rel G S a w) (h : S.mv m = some S') : Rel G S' a w := by
  cases m with
  | mo x y => exact hR.mo h
  | sw x y =>
    simp only [St.mv] at h
    cases e : (S.old.any (Nat.beq x) || S.old.any (Nat.beq y)) with
    | true => simp [e] at h
    | false => simp only [e, cond_false, Option.some.injEq] at h; subst h; exact hR.sw e
  | fz k => exact hR.fz h
  | own i k e sz bytes => exact hR.own h
  | no i k => exact hR.no h
  | noO i k => exact hR.noO h
theorem Rel.mvs {G : Gh} {a : Act} {w : World} : ∀ {ms : List Mv} {S S' : St}, Rel G S a w → S.mvs ms = some S' → Rel G S' a w
  | [], S, S', hR, h => by simp only [St.mvs, Option.some.injEq] at h; subst h; exact hR
  | m :: r, S, S', hR, h => by
    simp only [St.mvs] at h
    cases e : S.mv m with
    | none => simp [e] at h
    | some S1 => simp only [e] at h; exact (hR.mv e).mvs h
section
variable {P : Program} {G : Gh} {c : Code} {Q : Exit → St → Prop} {S : St}
/-- Ahead of a piece of code. -/
theorem awp_mv (ms : List Mv) (S' : St) (h : S.mvs ms = some S') (hw : AWp P G c Q S') : AWp P G c Q S := fun a w hR => hw a w (hR.mvs h)
/-- Behind it. -/
theorem awp_then (ms : List Mv) (h : AWp P G c (fun e S1 => ∃ S2, S1.mvs ms = some S2 ∧ Q e S2) S) : AWp P G c Q S := fun a w hR =>
  wp_mono (h a w hR) fun _ _ _ ⟨_, ⟨S2, h1, h2⟩, r⟩ => ⟨S2, h2, r.mvs h1⟩
theorem then_mv {e : Exit} {ms : List Mv} {S1 : St} (S2 : St) (h : S1.mvs ms = some S2) (hq : Q e S2) : (fun e S1 => ∃ S2, St.mvs S1 ms = some S2 ∧ Q e S2) e S1 := ⟨S2, h, hq⟩

/-- So many rounds of a loop. -/
def Rounds (P : Program) (G : Gh) (c : Code) (Q : Exit → St → Prop) : Nat → St → Prop
  | 0, _ => False
  | n + 1, S => AWp P G c (QSeq (Rounds P G c Q n) Q) S
theorem awp_rounds (n : Nat) (h : Rounds P G c Q n S) : AWp P G (.loop c) Q S :=
  awp_loopP (ι := St × Nat) (fun x => x.1) (fun x => Rounds P G c Q x.2 x.1) (fun x => x.2) (S, n) rfl h fun ⟨T, m⟩ hJ => by
    cases m with
    | zero => exact hJ.elim
    | succ m =>
      refine awp_mono hJ fun e S' q => ?_
      cases e with
      | normal => exact ⟨(S', m), rfl, q, Nat.lt_succ_self m⟩
      | _ => exact q
theorem rounds_one {n : Nat} (h : AWp P G c (QSeq (Rounds P G c Q n) Q) S) : Rounds P G c Q (n + 1) S := h
theorem peel_next {n : Nat} (h : Rounds P G c Q n S) : QSeq (Rounds P G c Q n) Q .normal S := h
end

/-! ### Arguments in other words -/
inductive SubA : List SV → List SV → Prop
  | done : SubA [] []
  | same {x : SV} {xs ys : List SV} (h : SubA xs ys) : SubA (x :: xs) (x :: ys)
  | no {xs ys : List SV} (h : SubA xs ys) : SubA (sc (.slice none 0 0) :: xs) (cc (.d (.sl [])) :: ys)
theorem SubA.rep {xs ys : List SV} (h : SubA xs ys) : xs.length = ys.length ∧ ∀ (F : Nat → Prop) (σ : Nat → Value) (w : World) (f : Nat → Value), (∀ i (h : i < xs.length), RepS F σ w (f i) xs[i]) → ∀ i (h : i < ys.length), RepS F σ w (f i) ys[i] := by
  induction h with
  | done => exact ⟨rfl, fun _ _ _ _ _ i h => by simp at h⟩
  | same h ih =>
    refine ⟨by simp [ih.1], fun F σ w f hf i hi => ?_⟩
    cases i with
    | zero => exact hf 0 (by simp)
    | succ i => exact ih.2 F σ w (fun i => f (i + 1)) (fun j hj => hf (j + 1) (by simpa using hj)) i (by simpa using hi)
  | no h ih =>
    refine ⟨by simp [ih.1], fun F σ w f hf i hi => ?_⟩
    cases i with
    | zero =>
      have : f 0 = .slice none 0 0 := scal_rep (hf 0 (by simp)) rfl
      show RepD F w (f 0) (.sl [])
      rw [this]
      exact RepD.sl none 0 0 [] (fun _ _ => undef) (Nat.le_refl _) (by simp) (by simp) (fun h => by simp at h) (fun _ => rfl) (fun i h => by simp at h)
    | succ i => exact ih.2 F σ w (fun i => f (i + 1)) (fun j hj => hf (j + 1) (by simpa using hj)) i (by simpa using hi)
theorem Sat.sub {P : Program} {f : FuncId} {as as' : List SV} {l l' : Objs} {res : SV} (h : Sat P f as l res l') (hs : SubA as' as) : Sat P f as' l res l' := by
  obtain ⟨h1, h2⟩ := h
  obtain ⟨h3, h4⟩ := hs.rep
  exact ⟨h1, fun F σ X w vs hn hv => h2 F σ X w vs (hn.trans h3) (h4 F σ w (fun i => vs.getD i undef) hv)⟩
theorem tri_to {P : Program} {o : Oper} {vals : List SV} {l l' l'' : Objs} {res : SV} (h : Tri P o vals l res l') (e : l' = l'') : Tri P o vals l res l'' := e ▸ h
theorem tri_res {P : Program} {o : Oper} {vals : List SV} {l l' : Objs} {res res' : SV} (h : Tri P o vals l res l') (e : res = res') : Tri P o vals l res' l' := e ▸ h

/-! ### Lists, place by place -/
theorem tri_len_map {P : Program} {T : Tab} (hT : TabOK P T) {α : Type} {f : α → List DV} {l : List α} {t ty : TypeId} {x : Operand} (hk : ((look T t).map (·.kind)) = some 2) :
    Tri P (mkO (.call { callee := .builtin .len, args := #[x], argTypes := #[t] }) ty) [cc (.d (.sl (l.map f)))] [] (sc (.int .i64 l.length)) [] := by
  cases e : look T t with
  | none => rw [e] at hk; cases hk
  | some ti =>
    rw [e] at hk
    have := tri_len_sl (o := mkO (.call { callee := .builtin .len, args := #[x], argTypes := #[t] }) ty) hT (es := l.map f) rfl e (by simpa using hk)
    simpa using this
theorem tri_len_mapO {P : Program} {T : Tab} (hT : TabOK P T) {α : Type} {f : α → List DV} {l : List α} {t ty : TypeId} {x : Operand} {h e sz bytes : Nat} (hk : ((look T t).map (·.kind)) = some 2) :
    Tri P (mkO (.call { callee := .builtin .len, args := #[x], argTypes := #[t] }) ty) [cc (.own h)] [(h, .arr e sz bytes (l.map f))] (sc (.int .i64 l.length)) [(h, .arr e sz bytes (l.map f))] := by
  cases e1 : look T t with
  | none => rw [e1] at hk; cases hk
  | some ti =>
    rw [e1] at hk
    have := tri_len_own (o := mkO (.call { callee := .builtin .len, args := #[x], argTypes := #[t] }) ty) hT (h := h) (e := e) (sz := sz) (bytes := bytes) (es := l.map f) rfl e1 (by simpa using hk)
    simpa using this
/-- A slice is not longer than any may be. -/
theorem awp_len {P : Program} {G : Gh} {c : Code} {Q : Exit → St → Prop} {S : St} {α : Type} {f : α → List DV} {l : List α} (i : Nat) (hi : look S.slots i = some (cc (.d (.sl (l.map f))))) (h : l.length ≤ 9223372036854775807 → AWp P G c Q S) : AWp P G c Q S := fun a w hR => by
  refine h ?_ a w hR
  obtain ⟨F, σ, X, r⟩ := hR
  have hs := r.slots i _ hi
  generalize hv : a.tmps.getD i undef = v at hs
  have hs' : RepD F w v (.sl (l.map f)) := hs
  generalize he : l.map f = es at hs'
  cases hs' with
  | sl ad cap sz es val hcap hm =>
    have : l.length = es.length := by rw [← he]; simp
    simp only [maxLen] at hm
    omega
theorem at_drop {α : Type} {l : List α} {k : Nat} (h : k < l.length) : ∃ x, l[k]? = some x ∧ l.drop k = x :: l.drop (k + 1) := ⟨l[k], by simp [h], by simp⟩
theorem at_end {α : Type} {l : List α} {k : Nat} (h : ¬ k < l.length) : l.drop k = [] := List.drop_eq_nil_of_le (by omega)
theorem at_map {α β : Type} (f : α → β) {l : List α} {k : Nat} {x : α} (h : l[k]? = some x) : (l.map f)[k]? = some (f x) := by simp [h]
theorem all_map {α : Type} {f : α → List DV} {l : List α} {n : Nat} (h : ∀ x, (f x).length = n) : ∀ y ∈ l.map f, y.length = n := fun y hy => by
  obtain ⟨x, _, rfl⟩ := List.mem_map.1 hy
  exact h x
theorem len_map {α β : Type} {f : α → β} {l : List α} : ((l.map f).length : Int) = (l.length : Int) := by simp
end Go.E

/- A logic over abstract states. Part 21: what is told of a function, under other names. -/
namespace Go.E
open Go

theorem CV.sw_sw {a b : Nat} : ∀ y : CV, (y.sw a b).sw a b = y
  | .d _ => rfl
  | .loc h off => by simp [CV.sw, E.sw_sw]
  | .eloc h i off sz => by simp [CV.sw, E.sw_sw]
  | .own h => by simp [CV.sw, E.sw_sw]
  | .clo g caps => by simp [CV.sw, E.sw_sw, Function.comp_def]
theorem TV.sw_sw {a b : Nat} : ∀ y : TV, (y.sw a b).sw a b = y
  | .c y => by simp [TV.sw, CV.sw_sw]
  | .agg l => by simp [TV.sw, CV.sw_sw, Function.comp_def]
theorem SV.sw_sw {a b : Nat} : ∀ y : SV, (y.sw a b).sw a b = y
  | .t y => by simp [SV.sw, TV.sw_sw]
  | .tup l => by simp [SV.sw, TV.sw_sw, Function.comp_def]
  | .any => rfl
theorem LObj.sw_sw {a b : Nat} : ∀ y : LObj, (y.sw a b).sw a b = y
  | .cells t cs => by simp [LObj.sw, CV.sw_sw, Function.comp_def]
  | .arr .. => rfl
  | .it .. => rfl
  | .opq _ => rfl
theorem look_swO_eq {a b : Nat} : ∀ (l : Objs) (h : Nat), look (swO a b l) h = (look l (sw a b h)).map (LObj.sw a b)
  | [], h => rfl
  | (j, y) :: r, h => by
    by_cases c : sw a b j = h
    · subst c; simp [swO, look, E.sw_sw]
    · have c' : j ≠ sw a b h := fun e => c (by rw [e, E.sw_sw])
      simp only [swO, look, beq_false c, beq_false c', cond_false]
      exact look_swO_eq r h
theorem swO_swO {a b : Nat} : ∀ l : Objs, swO a b (swO a b l) = l
  | [] => rfl
  | (j, y) :: r => by simp [swO, E.sw_sw, LObj.sw_sw, swO_swO r]

theorem OKs.sw {F : Nat → Prop} {σ : Nat → Value} {X : Nat → Nat → Prop} {w : World} {l : Objs} {a b : Nat} (h : OKs F σ X w l) : OKs F (fun k => σ (E.sw a b k)) (fun k => X (E.sw a b k)) w (swO a b l) := by
  have key : ∀ k o, look (swO a b l) k = some o → ∃ y, look l (E.sw a b k) = some y ∧ o = y.sw a b := fun k o e => look_swO e
  refine ⟨fun k o e => ?_, fun k k' o o' e e' hne => ?_, fun k o e => ?_⟩
  · obtain ⟨y, h1, rfl⟩ := key k o e; exact ObjOK.sw (h.ok _ y h1)
  · obtain ⟨y, h1, rfl⟩ := key k o e
    obtain ⟨y', h2, rfl⟩ := key k' o' e'
    exact h.apart _ _ y y' h1 h2 fun c => hne (by have := congrArg (E.sw a b) c; simpa only [E.sw_sw] using this)
  · obtain ⟨y, h1, rfl⟩ := key k o e; exact h.live _ y h1

theorem Sat.sw {P : Program} {f : FuncId} {as : List SV} {l l' : Objs} {res : SV} (a b : Nat) (h : Sat P f as l res l') : Sat P f (as.map (SV.sw a b)) (swO a b l) (res.sw a b) (swO a b l') := by
  obtain ⟨h1, h2⟩ := h
  refine ⟨h1, fun F σ X w vs hn hv hok hF => ?_⟩
  refine Calls.mono (h2 F (fun k => σ (E.sw a b k)) (fun k => X (E.sw a b k)) w vs (by simpa using hn) (fun i hi => ?_) ?_ hF) fun e w' he => ?_
  · have := RepS.sw (a := a) (b := b) (hv i (by simpa using hi))
    simpa [SV.sw_sw] using this
  · have := OKs.sw (a := a) (b := b) hok
    rwa [swO_swO] at this
  · obtain ⟨v, rfl, F', σ', X', q1, q2, q3⟩ := he
    have n1 : ∀ (m : Objs) k, look (swO a b m) k = none ↔ look m (E.sw a b k) = none := fun m k => by rw [look_swO_eq]; cases look m (E.sw a b k) <;> simp
    refine ⟨v, rfl, F', fun k => σ' (E.sw a b k), fun k => X' (E.sw a b k), RepS.sw q1, OKs.sw q2, q3.os, q3.tape, q3.output, q3.size, fun k hk hx => q3.same k hk fun h o e => ?_, q3.frz, fun k hk => ?_, fun h o e k hk => ?_, fun h hh => ?_⟩
    · have := hx (E.sw a b h) (o.sw a b) (by rw [look_swO_eq, E.sw_sw, e]; rfl)
      exact this
    · rcases q3.new k hk with c | ⟨c, d⟩
      · exact .inl c
      · refine .inr ⟨c, d.imp id ?_⟩
        rintro ⟨h, o, e, hx⟩
        exact ⟨E.sw a b h, o.sw a b, by rw [look_swO_eq, E.sw_sw, e]; rfl, hx⟩
    · obtain ⟨y, e1, rfl⟩ := look_swO e
      refine (q3.foot _ y e1 k hk).imp id ?_
      rintro ⟨h', o', e', hx⟩
      exact ⟨E.sw a b h', o'.sw a b, by rw [look_swO_eq, E.sw_sw, e']; rfl, by simpa only [E.sw_sw] using hx⟩
    · have := q3.sig (E.sw a b h) (by rw [← n1, ne_eq, ← n1]; exact hh)
      simpa only [E.sw_sw] using this
/-- A nil slice where an array of one's own without elements is asked. -/
theorem Sat.nilOwn {P : Program} {f : FuncId} {as : List SV} {l l' : Objs} {res : SV} (i h0 e sz bytes : Nat) (h : Sat P f as ((h0, .arr e sz bytes []) :: l) res l') (as' : List SV) (ha : as' = as.set i (sc (.slice none 0 0)))
    (hc : (match as[i]? with | some (.t (.c (.own k))) => Nat.beq k h0 | _ => false) = true) (hf : (as'.any (SV.has h0) || (l.any fun p => Nat.beq p.1 h0 || p.2.has h0) || (l'.any fun p => Nat.beq p.1 h0 || p.2.has h0) || res.has h0) = false) : Sat P f as' l res l' := by
  obtain ⟨h1, h2⟩ := h
  simp only [Bool.or_eq_false_iff] at hf
  obtain ⟨⟨⟨f1, f2⟩, f3⟩, f4⟩ := hf
  have hci : ∃ hi : i < as.length, as[i] = cc (.own h0) := by
    split at hc
    · rename_i k hk
      obtain ⟨hi, e⟩ := List.getElem?_eq_some_iff.1 hk
      rw [beq_iff.1 hc] at e
      exact ⟨hi, e⟩
    · cases hc
  obtain ⟨hi, hai⟩ := hci
  have hob : ∀ {m : Objs}, (m.any fun p => Nat.beq p.1 h0 || p.2.has h0) = false → ∀ k o, look m k = some o → k ≠ h0 ∧ o.has h0 = false := fun hm k o e => by
    rw [List.any_eq_false] at hm
    have := hm _ (look_mem e)
    simp only [Bool.or_eq_true, not_or, Bool.not_eq_true] at this
    exact ⟨fun c => by subst c; simp at this, this.2⟩
  refine ⟨h1, fun F σ X w vs hn hv hok hF => ?_⟩
  have hlen : as'.length = as.length := by rw [ha]; simp
  have hσ : ∀ k, k ≠ h0 → (fun k => if k = h0 then Value.slice none 0 0 else σ k) k = σ k := fun k hk => if_neg hk
  have hl : ∀ k o, look ((h0, LObj.arr e sz bytes []) :: l) k = some o → (k = h0 ∧ o = .arr e sz bytes []) ∨ (k ≠ h0 ∧ look l k = some o) := fun k o e1 => by
    by_cases c : h0 = k
    · subst c; simp only [look, Nat.beq_refl, cond_true, Option.some.injEq] at e1; exact .inl ⟨rfl, e1.symm⟩
    · simp only [look, beq_false c, cond_false] at e1; exact .inr ⟨fun d => c d.symm, e1⟩
  have hl2 : ∀ k o, look l k = some o → look ((h0, LObj.arr e sz bytes []) :: l) k = some o := fun k o e1 => by
    simp only [look, beq_false (hob f2 k o e1).1.symm, cond_false]; exact e1
  refine Calls.mono (h2 F (fun k => if k = h0 then .slice none 0 0 else σ k) (fun k b => if k = h0 then False else X k b) w vs (hn.trans hlen) (fun j hj => ?_) ⟨fun k o e1 => ?_, fun k k' o o' e1 e2 hk b hb hb' => ?_, fun k o e1 b hb => ?_⟩ hF) fun ex w' he => ?_
  · have hj' : j < as'.length := by omega
    have := hv j hj'
    by_cases c : i = j
    · subst c
      have e1 : as'[i] = sc (.slice none 0 0) := by simp [ha]
      rw [e1] at this
      rw [hai, scal_rep this rfl]
      exact ⟨by simp, by simp [Value.oneCell']⟩
    · have e1 : as'[j] = as[j] := by simp [ha, c]
      rw [← e1]
      refine RepS.mono (fun _ h => h) (fun _ _ => rfl) (fun k hk => hσ k fun d => ?_) this
      subst d
      rw [List.any_eq_false] at f1
      have := f1 _ (List.getElem_mem hj')
      rw [hk] at this
      exact this rfl
  · rcases hl k o e1 with ⟨rfl, rfl⟩ | ⟨c, e1⟩
    · simp only [if_true]
      exact ⟨[], World.ownsRow_nil w 0 e sz, fun b => by simp [Value.ownBlock], by simp, by simp, fun i hi => absurd hi (by simp)⟩
    · simp only [if_neg c]
      exact ObjOK.mono (fun _ h => h) (fun _ _ => rfl) (fun j hj => hσ j fun d => by rw [d, (hob f2 k o e1).2] at hj; cases hj) (hok.ok k o e1)
  · rcases hl k o e1 with ⟨rfl, rfl⟩ | ⟨c, e1⟩
    · simp only [if_true] at hb
    · rcases hl k' o' e2 with ⟨rfl, rfl⟩ | ⟨c', e2⟩
      · simp only [if_true] at hb'
      · simp only [if_neg c, if_neg c'] at hb hb'
        exact hok.apart k k' o o' e1 e2 hk b hb hb'
  · rcases hl k o e1 with ⟨rfl, rfl⟩ | ⟨c, e1⟩
    · simp only [if_true] at hb
    · simp only [if_neg c] at hb
      exact hok.live k o e1 b hb
  · obtain ⟨v, rfl, F', σ', X', q1, q2, q3⟩ := he
    have hσ' : ∀ k, k ≠ h0 → (fun k => if k = h0 then σ h0 else σ' k) k = σ' k := fun k hk => if_neg hk
    refine ⟨v, rfl, F', fun k => if k = h0 then σ h0 else σ' k, X', RepS.mono (fun _ h => h) (fun _ _ => rfl) (fun k hk => hσ' k fun d => by rw [d, f4] at hk; cases hk) q1, ⟨fun k o e1 => ?_, q2.apart, q2.live⟩, q3.os, q3.tape, q3.output, q3.size, fun k hk hx => q3.same k hk fun h o e1 => ?_, q3.frz, fun k hk => ?_, fun h o e1 k hk => ?_, fun k hk => ?_⟩
    · have hk := hob f3 k o e1
      simp only [if_neg hk.1]
      exact ObjOK.mono (fun _ h => h) (fun _ _ => rfl) (fun j hj => hσ' j fun d => by rw [d, hk.2] at hj; cases hj) (q2.ok k o e1)
    · rcases hl h o e1 with ⟨rfl, rfl⟩ | ⟨c, e1⟩
      · simp
      · simp only [if_neg c]; exact hx h o e1
    · rcases q3.new k hk with c | ⟨c, d⟩
      · exact .inl c
      · refine .inr ⟨c, d.imp id ?_⟩
        rintro ⟨h, o, e1, hx⟩
        rcases hl h o e1 with ⟨rfl, rfl⟩ | ⟨c2, e1⟩
        · simp at hx
        · simp only [if_neg c2] at hx; exact ⟨h, o, e1, hx⟩
    · refine (q3.foot h o e1 k hk).imp id ?_
      rintro ⟨h', o', e2, hx⟩
      rcases hl h' o' e2 with ⟨rfl, rfl⟩ | ⟨c2, e2⟩
      · simp at hx
      · simp only [if_neg c2] at hx; exact ⟨h', o', e2, hx⟩
    · by_cases c : k = h0
      · simp [c]
      · simp only [if_neg c]
        have := q3.sig k (hk.imp id fun d => by simp only [look, beq_false (fun e => c e.symm : ¬ h0 = k), cond_false]; exact d)
        rw [this]
        exact if_neg c
/-- An array of one's own where data is asked: it is not written any more. -/
theorem Sat.fzOwn {P : Program} {f : FuncId} {as : List SV} {l l' : Objs} {res : SV} (i h0 e sz bytes : Nat) (es : List (List DV)) (h : Sat P f as l res l') (as' : List SV) (ha : as' = as.set i (cc (.own h0)))
    (hc : as[i]? = some (cc (.d (.sl es)))) (hf : ((look l h0).isSome || (look l' h0).isSome) = false) : Sat P f as' ((h0, .arr e sz bytes es) :: l) res l' := by
  obtain ⟨h1, h2⟩ := h
  simp only [Bool.or_eq_false_iff] at hf
  have f1 : look l h0 = none := by simpa using hf.1
  have f2 : look l' h0 = none := by simpa using hf.2
  obtain ⟨hi, hai⟩ := List.getElem?_eq_some_iff.1 hc
  have hne : ∀ k o, look l k = some o → k ≠ h0 := fun k o e c => by subst c; rw [f1] at e; cases e
  have hl2 : ∀ k o, look l k = some o → look ((h0, LObj.arr e sz bytes es) :: l) k = some o := fun k o e1 => by
    simp only [look, beq_false (hne k o e1).symm, cond_false]; exact e1
  have hl0 : look ((h0, LObj.arr e sz bytes es) :: l) h0 = some (.arr e sz bytes es) := by simp [look]
  refine ⟨h1, fun F σ X w vs hn hv hok hF => ?_⟩
  have hlen : as'.length = as.length := by rw [ha]; simp
  have h0ok := hok.ok h0 _ hl0
  refine Calls.mono (h2 (fun k => F k ∨ X h0 k) σ X w vs (hn.trans hlen) (fun j hj => ?_) ⟨fun k o e1 => ?_, fun k k' o o' e1 e2 hk b hb hb' => ?_, fun k o e1 b hb => ?_⟩ fun k hk => ?_) fun ex w' he => ?_
  · have hj' : j < as'.length := by omega
    have := hv j hj'
    by_cases c : i = j
    · subst c
      have e1 : as'[i] = cc (.own h0) := by simp [ha]
      rw [e1] at this
      obtain ⟨hv0, _⟩ := (show RepC F σ w _ (.own h0) from this)
      rw [hai, hv0]
      exact arr_data h0ok
    · have e1 : as'[j] = as[j] := by simp [ha, c]
      rw [← e1]
      exact RepS.mono (fun _ h => .inl h) (fun _ _ => rfl) (fun _ _ => rfl) this
  · exact ObjOK.mono (fun _ h => .inl h) (fun _ _ => rfl) (fun _ _ => rfl) (hok.ok k o (hl2 k o e1))
  · exact hok.apart k k' o o' (hl2 k o e1) (hl2 k' o' e2) hk b hb hb'
  · have := hok.live k o (hl2 k o e1) b hb
    exact ⟨this.1, fun d => d.elim this.2 fun d => hok.apart k h0 o _ (hl2 k o e1) hl0 (hne k o e1) b hb d⟩
  · exact hk.elim (hF k) fun hk => (hok.live h0 _ hl0 k hk).1
  · obtain ⟨v, rfl, F', σ', X', q1, q2, q3⟩ := he
    refine ⟨v, rfl, F', σ', X', q1, q2, q3.os, q3.tape, q3.output, q3.size, fun k hk hx => q3.same k hk fun h o e1 => hx h o (hl2 h o e1), fun k hk => q3.frz k (.inl hk), fun k hk => ?_, fun h o e1 k hk => ?_, fun k hk => q3.sig k ?_⟩
    · rcases q3.new k hk with (c | c) | ⟨c, d⟩
      · exact .inl c
      · exact .inr ⟨Nat.lt_of_lt_of_le (hok.live h0 _ hl0 k c).1 q3.size, .inr ⟨h0, _, hl0, c⟩⟩
      · refine .inr ⟨c, d.imp id ?_⟩
        rintro ⟨h, o, e1, hx⟩
        exact ⟨h, o, hl2 h o e1, hx⟩
    · refine (q3.foot h o e1 k hk).imp id ?_
      rintro ⟨h', o', e2, hx⟩
      exact ⟨h', o', hl2 h' o' e2, hx⟩
    · rcases hk with hk | hk
      · exact .inl hk
      · by_cases c : k = h0
        · subst c; exact .inl f2
        · refine .inr ?_
          simp only [look, beq_false (fun e => c e.symm : ¬ h0 = k), cond_false] at hk
          exact hk
end Go.E

/- A logic over abstract states. Part 22: slices written out as data; structs of plain fields, equal or not. -/
namespace Go.E
open Go

/-- A new array that is data at once. -/
theorem tri_data {P : Program} {o : Oper} {vals : List SV} {n e sz bytes : Nat} {es : List (List DV)} (h : Tri P o vals [] (cc (.own n)) [(n, .arr e sz bytes es)]) : Tri P o vals [] (cc (.d (.sl es))) [] := by
  intro F σ X w a hr hok hF
  refine Upon.mono (h F σ X w a hr hok hF) ?_
  rintro v w' ⟨F', σ', X', h1, h2, h3⟩
  have hl : look [(n, LObj.arr e sz bytes es)] n = some (.arr e sz bytes es) := by simp [look]
  obtain ⟨hv, _⟩ := (show RepC F' σ' w' v (.own n) from h1)
  refine ⟨fun k => F' k ∨ X' n k, σ, X', ?_, OKs.nil, h3.os, h3.tape, h3.output, h3.size, h3.same, fun k hk => .inl (h3.frz k hk), fun k hk => ?_, fun h o e => by simp [look] at e, fun _ _ => rfl⟩
  · show RepD _ w' v (.sl es)
    rw [hv]
    exact arr_data (h2.ok n _ hl)
  · rcases hk with hk | hk
    · rcases h3.new k hk with c | ⟨c, d⟩
      · exact .inl c
      · exact .inr ⟨c, d⟩
    · exact .inr ⟨(h2.live n _ hl k hk).1, h3.foot n _ hl k hk⟩

def sliceOK (T : Tab) (t e sz bytes len : Nat) (idx : List Nat) : Bool :=
  match look T t, look T e with
  | some ti, some ei => ti.elem == some e && (ei.size == sz && (ei.bytes == bytes && (ei.zero.isSome && (idx == List.range' 0 len && (Nat.ble (len * sz) (2 ^ 24) && (Nat.ble len (2 ^ 24) && Nat.ble (len * bytes) 140737488355328))))))
  | _, _ => false
theorem tri_slice_data {P : Program} {T : Tab} (hT : TabOK P T) {t ty e sz bytes len : Nat} {parts : Array (Nat × Operand)} {ss : List SV} {es : List (List DV)} (h : sliceOK T t e sz bytes len (parts.toList.map (·.1)) = true) (hs : elems sz ss = some es) :
    Tri P (mkO (.buildSlice t len parts) ty) ss [] (cc (.d (.sl es))) [] := by
  unfold sliceOK at h
  split at h
  · rename_i ti ei h1 h2
    simp only [Bool.and_eq_true, beq_iff_eq] at h
    obtain ⟨g1, rfl, rfl, g4, g5, g6, g7, g8⟩ := h
    obtain ⟨z, hz⟩ := Option.isSome_iff_exists.1 g4
    exact tri_data (tri_buildSlice hT 0 rfl h1 g1 h2 hz g5 hs (Nat.le_of_ble_eq_true g6) (Nat.le_of_ble_eq_true g7) (Nat.le_of_ble_eq_true g8))
  · cases h

/-! ### Structs of plain fields -/
def eqV : Value → Value → Bool
  | .bool a, .bool b => a == b
  | .int _ a, .int _ b => a == b
  | .string a, .string b => eqS a b
  | _, _ => false
def fitsV : TypeDesc → Value → Bool
  | .bool, .bool _ => true
  | .int _, .int _ _ => true
  | .string, .string _ => true
  | _, _ => false
def kindV (d : TypeDesc) (x y : Value) : Bool := match d, x, y with
  | .bool, .bool _, .bool _ => true
  | .int _, .int k _, .int k' _ => decide (k = k')
  | .string, .string _, .string _ => true
  | _, _, _ => false
def eqVs : List Value → List Value → Bool
  | a :: as, b :: bs => eqV a b && eqVs as bs
  | _, _ => true
/-- Fields of one plain cell each, one behind the other, and what they hold on both sides. -/
def eqFit (P : Program) : List Field → Nat → List Value → List Value → Bool
  | [], _, [], [] => true
  | f :: fs, i, a :: as, b :: bs => (f.name != "_") && ((f.offset == i) && ((match P.underlying f.type with | some d => kindV d a b | none => false) && eqFit P fs (i + 1) as bs))
  | _, _, _, _ => false

theorem run_part_one {P : Program} {w : World} {t : TypeId} {d : TypeDesc} (hd : P.underlying t = some d) (hs : aggD d = false) (xs : Array Value) (i : Nat) (h : i < xs.size) : (part t xs i).run P w = .ok (xs.getD i undef) w := by
  have hia : (isAgg t).run P w = .ok false w := by
    unfold isAgg
    rw [Sem.run_bind, run_underlying hd w]
    cases d <;> first | rfl | cases hs
  simp [part, hia, h]

theorem run_eq_plain {P : Program} {w : World} {d : Nat} {xs ys : Array Value} : ∀ {fs : List Field} {i : Nat} {as bs : List Value}, eqFit P fs i as bs = true → (∀ j (h : j < as.length), xs.getD (i + j) undef = as[j]) → (∀ j (h : j < bs.length), ys.getD (i + j) undef = bs[j]) → i + as.length ≤ xs.size → i + bs.length ≤ ys.size →
    (Op.eqFields (d + 1) xs ys fs).run P w = .ok (eqVs as bs) w
  | [], i, [], [], _, _, _, _, _ => by simp [Op.eqFields, eqVs]
  | f :: fs, i, a :: as, b :: bs, h, hx, hy, h1, h2 => by
    simp only [eqFit, Bool.and_eq_true, beq_iff_eq, bne_iff_ne, ne_eq] at h
    obtain ⟨g1, rfl, g3, g4⟩ := h
    simp only [List.length_cons] at h1 h2
    cases hd : P.underlying f.type with
    | none => rw [hd] at g3; cases g3
    | some de =>
      rw [hd] at g3
      replace g3 : kindV de a b = true := g3
      have hagg : aggD de = false := by
        unfold kindV at g3
        split at g3 <;> first | rfl | cases g3
      have e1 := run_part_one (P := P) (w := w) hd hagg xs f.offset (by omega)
      have e2 := run_part_one (P := P) (w := w) hd hagg ys f.offset (by omega)
      have hx0 := hx 0 (by simp)
      have hy0 := hy 0 (by simp)
      simp only [Nat.add_zero, List.getElem_cons_zero] at hx0 hy0
      rw [hx0] at e1
      rw [hy0] at e2
      have e3 : (Op.equalIn (d + 1) f.type a b).run P w = .ok (eqV a b) w := by
        unfold kindV at g3
        split at g3
        · exact run_equalIn_bool' w d _ _ _ hd
        · obtain rfl := of_decide_eq_true g3; exact run_equalIn_int w d _ _ _ _ _ hd
        · rw [run_equalIn_string w d _ _ _ hd, eqS_eq]; rfl
        · cases g3
      have ih := run_eq_plain (d := d) (w := w) (xs := xs) (ys := ys) g4 (fun j hj => by have := hx (j + 1) (by simpa using hj); simpa [Nat.add_assoc, Nat.add_comm 1 j] using this) (fun j hj => by have := hy (j + 1) (by simpa using hj); simpa [Nat.add_assoc, Nat.add_comm 1 j] using this) (by omega) (by omega)
      rw [Op.eqFields]
      simp only [ne_eq, g1, not_false_eq_true, if_true, Sem.run_bind, e1, e2, e3, Result.andThen_ok, eqVs]
      cases eqV a b with
      | false => simp
      | true => simpa using ih
  | [], _, _ :: _, _, h, _, _, _, _ => by simp [eqFit] at h
  | [], _, [], _ :: _, h, _, _, _, _ => by simp [eqFit] at h
  | _ :: _, _, [], _, h, _, _, _, _ => by simp [eqFit] at h
  | _ :: _, _, _ :: _, [], h, _, _, _, _ => by simp [eqFit] at h

def dvs (l : List Value) : SV := .t (.agg (l.map fun x => .d (.v x)))
def eqTy (P : Program) (t : TypeId) (as bs : List Value) : Bool :=
  match P.underlying t with
  | some (.struct fs) => !(P.stoodInHeld t) && (!(P.eqGuardType P.depth t) && eqFit P fs.toList 0 as bs)
  | _ => false
theorem rep_dvs {F : Nat → Prop} {σ : Nat → Value} {w : World} {x : Value} {l : List Value} (h : RepS F σ w x (dvs l)) : ∃ cs : Array Value, x = .agg cs ∧ cs.size = l.length ∧ ∀ j (h : j < l.length), cs.getD j undef = l[j] := by
  obtain ⟨cs, h1, h2, h3⟩ := h
  refine ⟨cs, h1, by simpa using h2, fun j hj => ?_⟩
  have := h3 j (by simpa using hj)
  simp only [List.getElem_map] at this
  exact scal_rep (show RepS F σ w _ (sc l[j]) from this) rfl
theorem tri_eqStruct {P : Program} {t u ty : TypeId} {x y : Operand} (as bs : List Value) (neg : Bool) (h : eqTy P t as bs = true) :
    Tri P (mkO (.binOp (bif neg then .neq else .eql) t x y u) ty) [dvs as, dvs bs] [] (sc (.bool (bif neg then !(eqVs as bs) else eqVs as bs))) [] :=
  tri_of_value fun F σ X w a hr _ => by
    obtain ⟨h1, h2, _⟩ := (show RepS F σ w (a.eval x) (dvs as) ∧ RepS F σ w (a.eval y) (dvs bs) ∧ True by cases neg <;> exact hr)
    obtain ⟨xs, e1, s1, g1⟩ := rep_dvs h1
    obtain ⟨ys, e2, s2, g2⟩ := rep_dvs h2
    unfold eqTy at h
    split at h
    · rename_i fs hu
      simp only [Bool.and_eq_true, Bool.not_eq_true'] at h
      obtain ⟨k1, k2, k3⟩ := h
      have hf : P.fieldsOf t = fs := by simp [Program.fieldsOf, hu]
      have hrun : (Op.equalIn 10000 t (.agg xs) (.agg ys)).run P w = .ok (eqVs as bs) w := by
        rw [run_equalIn_struct (P := P) w 9999 t xs ys (by rw [hf]; exact hu) k1, hf]
        exact run_eq_plain (d := 9998) k3 (fun j hj => by simpa using g1 j hj) (fun j hj => by simpa using g2 j hj) (by omega) (by omega)
      refine ⟨.bool (bif neg then !(eqVs as bs) else eqVs as bs), ?_, RepD.v _ rfl⟩
      cases neg with
      | false => simp only [execOp, mkO, e1, e2, cond_false, Sem.run_bind, run_eqGuard_agg w _ _ _ _ _ _ k2, Result.andThen_ok, run_eql_struct w, hrun]; rfl
      | true => simp only [execOp, mkO, e1, e2, cond_true, Sem.run_bind, run_eqGuard_agg w _ _ _ _ _ _ k2, Result.andThen_ok, run_neq_struct w, hrun]; rfl
    · cases h
end Go.E

/- A logic over abstract states. Part 23: what an argument reads as, in the words of the logic. -/
namespace Go.E
open Go

inductive CSh where
  | b
  | i (k : IntKind)
  | s
  | sl (l : List CSh)
mutual
inductive Fits : CSh → DV → Prop
  | b (x : Bool) : Fits .b (.v (.bool x))
  | i (k : IntKind) (n : Int) (h : (Lit.int k n).wf = true) : Fits (.i k) (.v (.int k n))
  | s (x : ByteArray) (h : x.size ≤ maxLen) : Fits .s (.v (.string x))
  | sl (l : List CSh) (es : List (List DV)) (h : FitsRows l es) : Fits (.sl l) (.sl es)
inductive FitsAll : List CSh → List DV → Prop
  | nil : FitsAll [] []
  | cons {c : CSh} {d : DV} {cs : List CSh} {ds : List DV} (h : Fits c d) (hs : FitsAll cs ds) : FitsAll (c :: cs) (d :: ds)
inductive FitsRows : List CSh → List (List DV) → Prop
  | nil {l : List CSh} : FitsRows l []
  | cons {l : List CSh} {e : List DV} {es : List (List DV)} (h : FitsAll l e) (hs : FitsRows l es) : FitsRows l (e :: es)
end
theorem FitsAll.len : ∀ {cs : List CSh} {ds : List DV}, FitsAll cs ds → ds.length = cs.length
  | [], [], _ => rfl
  | _ :: _, _ :: _, .cons _ hs => by simp [hs.len]
theorem FitsAll.append : ∀ {a : List CSh} {x : List DV} {b : List CSh} {y : List DV}, FitsAll a x → FitsAll b y → FitsAll (a ++ b) (x ++ y)
  | [], [], _, _, _, h => h
  | _ :: _, _ :: _, _, _, .cons h hs, h2 => .cons h (hs.append h2)
theorem FitsRows.snoc : ∀ {l : List CSh} {es : List (List DV)} {e : List DV}, FitsRows l es → FitsAll l e → FitsRows l (es ++ [e])
  | _, [], _, _, h => .cons h .nil
  | _, _ :: _, _, .cons h hs, h2 => .cons h (hs.snoc h2)
theorem FitsRows.len : ∀ {l : List CSh} {es : List (List DV)}, FitsRows l es → ∀ e ∈ es, e.length = l.length
  | _, [], _, e, he => by cases he
  | _, x :: r, .cons h hs, e, he => by
    rcases List.mem_cons.1 he with rfl | he
    · exact h.len
    · exact hs.len e he
/-- Rows as a list of what they encode. -/
theorem FitsRows.list {α : Type} {enc : α → List DV} {l : List CSh} (h : ∀ e, FitsAll l e → ∃ x, e = enc x) : ∀ {es : List (List DV)}, FitsRows l es → ∃ xs : List α, es = xs.map enc
  | [], _ => ⟨[], rfl⟩
  | _ :: _, .cons h1 h2 => by
    obtain ⟨x, rfl⟩ := h _ h1
    obtain ⟨xs, rfl⟩ := h2.list h
    exact ⟨x :: xs, rfl⟩

def flatFs (F : TypeId → Option (List CSh)) (P : Program) : List Field → Nat → Option (List CSh)
  | [], _ => some []
  | f :: r, off => match F f.type with
    | some l => bif (f.offset == off) && (l.length == P.cellsOf f.type) then (flatFs F P r (off + l.length)).map (l ++ ·) else none
    | none => none
def flat (P : Program) : Nat → TypeId → Option (List CSh)
  | 0, _ => none
  | n + 1, t => match P.underlying t with
    | some .bool => some [.b]
    | some (.int k) => some [.i k]
    | some .string => some [.s]
    | some (.slice e) => match flat P n e with
      | some l => bif (l.length == P.cellsOf e) && Nat.ble 1 l.length then some [.sl l] else none
      | none => none
    | some (.struct fs) => match flatFs (flat P n) P fs.toList 0 with
      | some l => bif l.length == P.cellsOf t then some l else none
      | none => none
    | _ => none

abbrev OldF (w : World) : Nat → Prop := fun k => k < w.heap.size
section
variable {H : Type} {enc : TypeId × Value → H} {P : Program} {w : World} {base : Nat} {spare : Nat → Bool} {held : Bool}

def RepRow (w : World) (f : Nat → Value) (ds : List DV) : Prop := ∀ j (h : j < ds.length), RepD (OldF w) w (f j) ds[j]
theorem RepRow.append {f : Nat → Value} {a b : List DV} (ha : RepRow w f a) (hb : RepRow w (fun j => f (a.length + j)) b) : RepRow w f (a ++ b) := fun j hj => by
  by_cases c : j < a.length
  · rw [List.getElem_append_left c]; exact ha j c
  · rw [List.getElem_append_right (by omega)]
    have := hb (j - a.length) (by simp only [List.length_append] at hj; omega)
    simpa [show a.length + (j - a.length) = j by omega] using this

theorem rep_fields {F : TypeId → Option (List CSh)} {n : Nat} {cs : List Value}
    (ih : ∀ t l cs x, F t = some l → DataW.trod enc P w base spare held n t cs = some x → cs.length = l.length ∧ ∃ ds, FitsAll l ds ∧ RepRow w (fun j => cs.getD j undef) ds) :
    ∀ (fs : List Field) (off : Nat) (l : List CSh), flatFs F P fs off = some l → off ≤ cs.length → (∀ f ∈ fs, ∃ x, DataW.trod enc P w base spare held n f.type ((cs.drop f.offset).take (P.cellsOf f.type)) = some x) →
      ∃ ds, FitsAll l ds ∧ RepRow w (fun j => cs.getD (off + j) undef) ds
  | [], off, l, h, _, _ => by
    simp only [flatFs, Option.some.injEq] at h
    subst h
    exact ⟨[], .nil, fun j hj => by simp at hj⟩
  | f :: r, off, l, h, ho, hx => by
    simp only [flatFs] at h
    cases hF : F f.type with
    | none => simp [hF] at h
    | some l1 =>
      simp only [hF] at h
      cases hc : (f.offset == off) && (l1.length == P.cellsOf f.type) with
      | false => simp [hc] at h
      | true =>
        simp only [hc, cond_true, Option.map_eq_some_iff] at h
        obtain ⟨l2, h2, rfl⟩ := h
        simp only [Bool.and_eq_true, beq_iff_eq] at hc
        obtain ⟨rfl, hl⟩ := hc
        obtain ⟨x, hx1⟩ := hx f (by simp)
        obtain ⟨g1, ds1, g2, g3⟩ := ih _ _ _ _ hF hx1
        have hlen : f.offset + l1.length ≤ cs.length := by
          simp only [List.length_take, List.length_drop] at g1
          omega
        obtain ⟨ds2, g4, g5⟩ := rep_fields ih r (f.offset + l1.length) l2 h2 hlen (fun q hq => hx q (List.mem_cons_of_mem _ hq))
        refine ⟨ds1 ++ ds2, g2.append g4, RepRow.append (fun j hj => ?_) (fun j hj => ?_)⟩
        · have hj' : j < l1.length := by rw [← g2.len]; exact hj
          have := g3 j hj
          simpa [List.getD_eq_getElem?_getD, List.getElem?_take, List.getElem?_drop, ← hl, hj'] using this
        · have := g5 j hj
          rw [g2.len]
          simpa [Nat.add_assoc] using this

theorem rep_of_trod : ∀ (n fuel : Nat) (t : TypeId) (cs : List Value) (x : DataW H × List MemPlace) (l : List CSh), flat P n t = some l → DataW.trod enc P w base spare held fuel t cs = some x →
    cs.length = l.length ∧ ∃ ds, FitsAll l ds ∧ RepRow w (fun j => cs.getD j undef) ds
  | 0, _, _, _, _, _, h, _ => by simp [flat] at h
  | n + 1, fuel, t, cs, x, l, h, hx => by
    have one : ∀ (v : Value) (c : CSh) (d : DV), Fits c d → RepD (OldF w) w v d → cs = [v] → l = [c] → cs.length = l.length ∧ ∃ ds, FitsAll l ds ∧ RepRow w (fun j => cs.getD j undef) ds := fun v c d h1 h2 e1 e2 => by
      subst e1; subst e2
      refine ⟨rfl, [d], .cons h1 .nil, fun j hj => ?_⟩
      simp only [List.length_cons, List.length_nil] at hj
      have : j = 0 := by omega
      subst this
      exact h2
    simp only [flat] at h
    split at h
    · rename_i hu
      obtain ⟨b, rfl, _⟩ := DataW.trod_bool hu hx
      exact one _ .b _ (.b b) (.v _ rfl) rfl (Option.some.inj h).symm
    · rename_i k hu
      obtain ⟨m, rfl, _, hw⟩ := DataW.trod_int hu hx
      exact one _ (.i k) _ (.i k m hw) (.v _ rfl) rfl (Option.some.inj h).symm
    · rename_i hu
      obtain ⟨s, rfl, _, hw⟩ := DataW.trod_string hu hx
      exact one _ .s _ (.s s hw) (.v _ rfl) rfl (Option.some.inj h).symm
    · rename_i e hu
      split at h
      · rename_i l1 hl1
        obtain ⟨hc, h⟩ := bif_some h
        simp only [Bool.and_eq_true, beq_iff_eq] at hc
        obtain ⟨hc1, hc2⟩ := hc
        have hc2 := Nat.le_of_ble_eq_true hc2
        rcases Go.Deep.open_slice hu hx with ⟨rfl, _⟩ | ⟨a, len, cap, m, n', D, Pl, rfl, hb, hl, hm, hmm, _, hel⟩
        · exact one _ (.sl l1) _ (.sl _ [] .nil) (RepD.sl none 0 0 [] (fun _ _ => undef) (Nat.le_refl _) (by simp) (by simp) (fun h => by simp at h) (fun _ => rfl) (fun i h => by simp at h)) rfl h.symm
        · have hlm : len ≤ m := by rw [hmm]; split <;> omega
          -- the elements, one by one
          have key : ∀ i, i < len → ∃ ds, FitsAll l1 ds ∧ ∀ j (hj : j < ds.length), ∃ v, w.cell? ((a.add (i * P.cellsOf e)).add j) = some v ∧ RepD (OldF w) w v ds[j] := fun i hi => by
            obtain ⟨cs', h1, h2⟩ := hel i (by omega)
            obtain ⟨g1, ds, g2, g3⟩ := rep_of_trod n n' e cs' _ l1 hl1 h2
            obtain ⟨_, q2, q3⟩ := World.cells?_some h1
            refine ⟨ds, g2, fun j hj => ⟨_, ?_, g3 j hj⟩⟩
            have hj' : j < cs'.length := by rw [g1, ← g2.len]; exact hj
            rw [q3 j (by rw [← q2]; exact hj')]
            simp [List.getD_eq_getElem?_getD, hj']
          have all : ∀ k, k ≤ len → ∃ es : List (List DV), es.length = k ∧ FitsRows l1 es ∧ ∀ i (hi : i < es.length) j (hj : j < es[i].length), ∃ v, w.cell? ((a.add (i * P.cellsOf e)).add j) = some v ∧ RepD (OldF w) w v es[i][j] := by
            intro k
            induction k with
            | zero => exact fun _ => ⟨[], rfl, .nil, fun i hi => by simp at hi⟩
            | succ k ih =>
              intro hk
              obtain ⟨es, e1, e2, e3⟩ := ih (by omega)
              obtain ⟨ds, d1, d2⟩ := key k (by omega)
              refine ⟨es ++ [ds], by simp [e1], e2.snoc d1, fun i hi j hj => ?_⟩
              by_cases c : i < es.length
              · simp only [List.getElem_append_left c] at hj ⊢
                exact e3 i c j hj
              · have hik : i = es.length := by simp only [List.length_append, List.length_cons, List.length_nil] at hi; omega
                subst hik
                simp only [List.getElem_append_right (Nat.le_refl _), Nat.sub_self, List.getElem_cons_zero] at hj ⊢
                have := d2 j hj
                rwa [← e1] at this
          obtain ⟨es, e1, e2, e3⟩ := all len (Nat.le_refl _)
          refine one (.slice (some a) len cap) (.sl l1) (.sl es) (.sl _ _ e2) ?_ rfl h.symm
          rw [← e1]
          have hes := e2.len
          refine RepD.sl (some a) cap l1.length es (fun i j => (w.cell? ((a.add (i * P.cellsOf e)).add j)).getD undef) (by omega) hm hes (fun h0 => ?_) (fun e => by cases e) (fun i hi j hj => ?_)
          · have hsp : a.spot = none := by
              obtain ⟨v, hv, _⟩ := e3 0 h0 0 (by rw [hes _ (List.getElem_mem h0)]; omega)
              simp only [Nat.zero_mul, Addr.add, if_true] at hv
              unfold World.cell? at hv
              split at hv
              · split at hv
                · cases hv
                · rename_i c; cases hs : a.spot with
                  | none => rfl
                  | some z => rw [hs] at c; simp at c
              · cases hv
            obtain ⟨b, off, spot⟩ := a
            simp only at hsp
            subst hsp
            refine ⟨b, off, rfl, ?_, fun i j hi hj => ?_⟩
            · obtain ⟨v, hv, _⟩ := e3 0 h0 0 (by rw [hes _ (List.getElem_mem h0)]; omega)
              rw [add_none, add_none] at hv
              unfold World.cell? at hv
              show b < w.heap.size
              rcases Nat.lt_or_ge b w.heap.size with c | c
              · exact c
              · simp [Array.getElem?_eq_none c] at hv
            · obtain ⟨v, hv, _⟩ := e3 i hi j (by rw [hes _ (List.getElem_mem hi)]; exact hj)
              rw [add_none, add_none, ← hc1] at hv
              simp only [add_none, ← hc1, hv, Option.getD_some]
          · obtain ⟨v, hv, hr⟩ := e3 i hi j hj
            simp only [hv, Option.getD_some]
            exact hr
      · cases h
    · rename_i fs hu
      split at h
      · rename_i l1 hl1
        obtain ⟨hc, rfl⟩ := bif_some h
        simp only [beq_iff_eq] at hc
        obtain ⟨xs, n', _, _, hlen, hxs, hel⟩ := DataW.trod_struct hu hx
        obtain ⟨ds, g1, g2⟩ := rep_fields (n := n') (cs := cs) (fun t l cs x h1 h2 => rep_of_trod n n' t cs x l h1 h2) fs.toList 0 l1 hl1 (Nat.zero_le _) (fun f hf => by
          obtain ⟨i, hi, rfl⟩ := List.getElem_of_mem hf
          have hi' : i < fs.size := by simpa using hi
          have := hel i fs[i] (by simp [hi'])
          rw [List.getElem?_eq_getElem (by omega)] at this
          exact ⟨_, by simpa using this⟩)
        exact ⟨hlen.trans hc.symm, ds, g1, by simpa using g2⟩
      · cases h
    · cases h

/-- An argument of one cell. -/
theorem arg_one {n : Nat} {t : TypeId} {v : Value} {d : DataW H} {ps : List MemPlace} {c : CSh} {W : World} {r : Reach} {b0 : Nat} (hf : flat P n t = some [c]) (hs : (match P.underlying t with | some (.struct _) | some (.array _ _) => true | _ => false) = false)
    (hval : Value.okWide P W r b0 t v) (h : DataW.Trod enc P w base spare held t v d ps) : ∃ x, Fits c x ∧ RepD (OldF w) w v x := by
  obtain ⟨fuel, h⟩ := h
  obtain ⟨h1, ds, h2, h3⟩ := rep_of_trod n fuel t _ _ _ hf h
  have hone : v.oneCell' = true := by
    unfold Value.okWide at hval
    split at hval
    · rename_i hu; rw [hu] at hs; cases hs
    · rename_i hu; rw [hu] at hs; cases hs
    · cases v <;> first | rfl | (exfalso; revert hval; unfold Cell.okWide Cell.ok; cases P.underlying t with | none => simp | some d => cases d <;> simp)
  rw [one_cells hone] at h3
  cases h2 with
  | cons hd hn =>
    cases hn
    have := h3 0 (by simp)
    exact ⟨_, hd, by simpa using this⟩
/-- An argument that is a struct. -/
theorem arg_agg {n : Nat} {t : TypeId} {v : Value} {d : DataW H} {ps : List MemPlace} {l : List CSh} {W : World} {r : Reach} {b0 : Nat} (hf : flat P n t = some l) (hs : (match P.underlying t with | some (.struct _) => true | _ => false) = true)
    (hval : Value.okWide P W r b0 t v) (h : DataW.Trod enc P w base spare held t v d ps) : ∃ ds, FitsAll l ds ∧ ∀ σ : Nat → Value, RepS (OldF w) σ w v (.t (.agg (ds.map .d))) := by
  obtain ⟨fuel, h⟩ := h
  obtain ⟨h1, ds, h2, h3⟩ := rep_of_trod n fuel t _ _ _ hf h
  refine ⟨ds, h2, fun σ => ?_⟩
  have hagg : ∃ cs, v = .agg cs := by
    unfold Value.okWide at hval
    split at hval
    · obtain ⟨cs, e, _⟩ := hval; exact ⟨cs, e⟩
    · obtain ⟨cs, e, _⟩ := hval; exact ⟨cs, e⟩
    · rename_i h1 h2
      split at hs
      · rename_i fs hu; exact absurd hu (h1 fs)
      · cases hs
  obtain ⟨cs, rfl⟩ := hagg
  have hcs : (Value.agg cs).cells = cs := rfl
  rw [hcs] at h1 h3
  refine ⟨cs, rfl, by rw [List.length_map, h2.len, ← h1]; simp, fun i hi => ?_⟩
  have := h3 i (by simpa using hi)
  simpa [List.getD_eq_getElem?_getD, Array.getD_eq_getD_getElem?, RepC] using this
end

/-- What a call that satisfies a contract without objects leaves: everything that was, as it was. -/
theorem Sat.below {P : Program} {f : FuncId} {args : List SV} {r : Value} {W : World} {vs : Array Value} (h : Sat P f args [] (sc r) []) (hn : vs.size = args.length) (hv : ∀ i (h : i < args.length), RepS (OldF W) (fun _ => undef) W (vs.getD i undef) args[i]) :
    Calls P f vs W fun e w' => e = .returned r ∧ RowKit.Below W.heap.size W w' :=
  Calls.mono (h.2 (OldF W) (fun _ => undef) (fun _ _ => False) W vs hn hv OKs.nil (fun _ h => h)) fun e w' he => by
    obtain ⟨v, rfl, F', σ', X', h1, _, h3⟩ := he
    obtain rfl := scal_rep h1 rfl
    exact ⟨rfl, h3.os, h3.tape, h3.output, h3.size, fun k hk => h3.same k hk fun h o e => by simp [look] at e⟩
end Go.E

/- A logic over abstract states. Part 24: room made by append of a make; a slice cut short. -/
namespace Go.E
open Go

/-- What makes an object behind a draw. -/
theorem tri_newD {P : Program} {o : Oper} {vals : List SV} {res : SV} {n : Nat} {ob : LObj}
    (h : ∀ F σ w a, Reps F σ w a o.op.operands.toList vals → ∃ v obj, (execOp a.eval o).run P w = .ok (.value v) (w.drew.alloc obj) ∧
      ∀ σ' : Nat → Value, (∀ k, k ≠ n → σ' k = σ k) → σ' n = v → (w.drew.alloc obj).heap[w.heap.size]? = some obj → RepS F σ' (w.drew.alloc obj) v res ∧ ObjOK F σ' (w.drew.alloc obj) v (fun k => k = w.heap.size) ob) : Tri P o vals [] res [(n, ob)] := by
  intro F σ X w a hr _ hF
  obtain ⟨v, obj, h1, h2⟩ := h F σ w a hr
  rw [h1]
  have hs : ∀ k, k ≠ n → (fun k => if k = n then v else σ k) k = σ k := fun k hk => if_neg hk
  obtain ⟨h3, h4⟩ := h2 (fun k => if k = n then v else σ k) hs (if_pos rfl) (alloc_new w.drew obj)
  refine ⟨F, _, fun h => if h = n then (fun k => k = w.heap.size) else X h, h3, ⟨?_, ?_, ?_⟩, rfl, rfl, rfl, by simp, fun k hk _ => alloc_old w.drew obj k hk, fun _ h => h, fun _ h => .inl h, ?_, fun k hk => ?_⟩
  · intro k x e
    obtain ⟨rfl, rfl⟩ := look_one e
    simpa using h4
  · intro k k' x x' e e' hne
    obtain ⟨rfl, rfl⟩ := look_one e
    exact absurd (look_one e').1.symm hne
  · intro k x e j hj
    obtain ⟨rfl, rfl⟩ := look_one e
    simp only [if_true] at hj
    subst hj
    exact ⟨by simp, fun hf => by have := hF _ hf; omega⟩
  · intro k x e j hj
    obtain ⟨rfl, rfl⟩ := look_one e
    simp only [if_true] at hj
    exact .inl (by omega)
  · refine if_neg fun e => ?_
    subst e
    rcases hk with hk | hk
    · simp [look] at hk
    · exact hk rfl

section
variable {P : Program} {T : Tab} (hT : TabOK P T)
include hT
/-- The first elements of an array of one's own. -/
theorem tri_cut_own {t ty : TypeId} {x hi : Operand} {e sz bytes h k n : Nat} {q : IntKind} {es : List (List DV)} (ho : appOK T t e sz bytes = true) (hk : k ≤ es.length) (hn : Nat.beq n h = false) :
    Tri P (mkO (.slice t x none (some hi) none) ty) [cc (.own h), sc (.int q k)] [(h, .arr e sz bytes es)] (cc (.own n)) [(n, .arr e sz bytes (es.take k))] := by
  intro F σ X w a hr hok hF
  obtain ⟨ht, _, inf, z, hinf, _, hsize, _⟩ := appOK_parts hT ho
  obtain ⟨h1, h2, _⟩ := (show RepS F σ w (a.eval x) (cc (.own h)) ∧ RepS F σ w (a.eval hi) (sc (.int q k)) ∧ True from hr)
  have hix : a.eval hi = .int q k := scal_rep h2 rfl
  obtain ⟨hv, _⟩ := (show RepC F σ w (a.eval x) (.own h) from h1)
  have hl : look [(h, LObj.arr e sz bytes es)] h = some (.arr e sz bytes es) := by simp [look]
  obtain ⟨xs, e1, e2, e3, e4, e5⟩ := hok.ok h _ hl
  have hne : n ≠ h := fun c => by subst c; simp at hn
  have key : ∃ v', (execOp a.eval (mkO (.slice t x none (some hi) none) ty)).run P w = .ok (.value v') w ∧ v'.ownBlock = (σ h).ownBlock ∧ v'.oneCell' = true ∧ w.ownsRow 0 e sz v' k (xs.take (k * sz)) := by
    have hlen : (xs.take (k * sz)).length = k * sz := by
      rw [List.length_take, e1.1]
      have := Nat.mul_le_mul_right sz hk
      omega
    rcases e1.2 with ⟨c, c0⟩ | ⟨g, cap, cur, c, hb, hg, hnc, hcm, hcs, htake⟩
    · have hk0 : k = 0 := by omega
      subst hk0
      refine ⟨.slice none 0 0, ?_, by rw [c], rfl, ⟨hlen, .inl ⟨rfl, rfl⟩⟩⟩
      rw [c] at hv
      simp [execOp, mkO, hv, hix, Instr.sliceAt, Instr.slice, run_underlying ht, Instr.sliceBounds, Instr.sliceBound, sizeOf, typeInfo, hinf, asIntOf]
    · refine ⟨.slice (some ⟨g, 0, none⟩) k cap, ?_, by rw [c]; rfl, rfl, ⟨hlen, .inr ⟨g, cap, cur, rfl, hb, hg, by omega, hcm, hcs, ?_⟩⟩⟩
      · rw [c] at hv
        have hkc : k ≤ cap := by omega
        simp [execOp, mkO, hv, hix, Instr.sliceAt, Instr.slice, run_underlying ht, Instr.sliceBounds, Instr.sliceBound, sizeOf, typeInfo, hinf, asIntOf, hkc, add_none]
      · rw [← htake, List.take_take]
        congr 1
        have := Nat.mul_le_mul_right sz hk
        omega
  obtain ⟨v', hrun, hob, hone, hrow⟩ := key
  rw [hrun]
  have htk : (es.take k).length = k := by simp; omega
  refine ⟨F, fun j => if j = n then v' else σ j, fun j b => if j = n then X h b else X j b, ⟨by simp, by simpa using hone⟩, ⟨fun j o e0 => ?_, fun j j' o o' e0 e0' hd => ?_, fun j o e0 b hb => ?_⟩, rfl, rfl, rfl, Nat.le_refl _, fun _ _ _ => rfl, fun _ h => h, fun _ h => .inl h, fun j o e0 b hb => ?_, fun j hj => ?_⟩
  · obtain ⟨rfl, rfl⟩ := look_one e0
    simp only [if_true]
    refine ⟨xs.take (k * sz), by rw [htk]; exact hrow, fun b => by rw [hob]; exact e2 b, fun y hy => e3 y (List.mem_of_mem_take hy), ?_, fun i hi j hj => ?_⟩
    · rw [htk]; exact Nat.le_trans (Nat.mul_le_mul_right _ hk) e4
    · have hi' : i < es.length := by omega
      have hik : i < k := by omega
      simp only [List.getElem_take] at hj ⊢
      have := e5 i hi' j hj
      have hjs : j < sz := by rw [e3 _ (List.getElem_mem hi')] at hj; exact hj
      have hlt : i * sz + j < k * sz := by
        have := Nat.mul_le_mul_right sz (show i + 1 ≤ k from hik)
        rw [Nat.add_mul, Nat.one_mul] at this
        omega
      simpa [List.getD_eq_getElem?_getD, List.getElem?_take, hlt] using this
  · obtain ⟨rfl, rfl⟩ := look_one e0
    exact absurd (look_one e0').1.symm hd
  · obtain ⟨rfl, rfl⟩ := look_one e0
    simp only [if_true] at hb
    exact hok.live h _ hl b hb
  · obtain ⟨rfl, rfl⟩ := look_one e0
    simp only [if_true] at hb
    exact .inr ⟨h, _, hl, hb⟩
  · refine if_neg fun c => ?_
    subst c
    rcases hj with hj | hj
    · simp [look] at hj
    · exact hj (by simp [look, beq_false hne.symm])
/-- Room for so many elements: zeros behind nothing. -/
theorem tri_zeros_nil {t ti ty : TypeId} {s x : Operand} {e sz bytes n m : Nat} {q : IntKind} {zs : List Value} (ho : appOK T t e sz bytes = true) (hint : ∃ k, P.underlying ti = some (.int k))
    (hz : ((look T e).bind (·.zero)) = some zs) (hz1 : zs.all Value.oneCell' = true) (hm : 0 < m) (hs0 : 0 < sz) (hb : m * bytes ≤ 140737488355328) :
    Tri P (mkO (.call { callee := .builtin .append, args := #[s, x], argTypes := #[t, ti] }) ty) [sc (.slice none 0 0), sc (.int q m)] [] (cc (.own n)) [(n, .arr e sz bytes (List.replicate m (zs.map .v)))] :=
  tri_newD fun F σ w a hr => by
    obtain ⟨ht, hb1, i, z, hi, hiz, hsize, hby, hzs⟩ := appOK_parts hT ho
    obtain ⟨k, hk⟩ := hint
    obtain ⟨h1, h2, _⟩ := (show RepS F σ w (a.eval s) (sc (.slice none 0 0)) ∧ RepS F σ w (a.eval x) (sc (.int q m)) ∧ True from hr)
    have hs : a.eval s = .slice none 0 0 := scal_rep h1 rfl
    have hx : a.eval x = .int q m := scal_rep h2 rfl
    subst hsize
    subst hby
    have hzc : z.cells.toList = zs := by
      cases h3 : look T e with
      | none => rw [h3] at hz; cases hz
      | some ei =>
        rw [h3] at hz
        obtain ⟨i2, d2, hi2, _, _, _, _, hz2, _⟩ := ti_parts (hT e ei h3)
        rw [hi] at hi2
        obtain rfl := Option.some.inj hi2
        rw [hiz] at hz2
        simp only [Option.map_some] at hz2
        have hz' : ei.zero = some zs := by simpa using hz
        rw [hz'] at hz2
        exact (Option.some.inj hz2).symm
    have hmle : m ≤ 140737488355328 := Nat.le_trans (Nat.le_mul_of_pos_right _ hb1) hb
    have hw : IntKind.i64.wrap (m : Int) = m := by rw [IntKind.wrap_i64]; omega
    have hneg : ¬ ((m : Int) < 0) := by omega
    have hbig : ¬ (281474976710656 < (m : Int) * (i.bytes : Int)) := by rw [← Int.natCast_mul]; omega
    have hm0 : ¬ (m = 0) := by omega
    have h63' : ¬ (9223372036854775807 < (m : Int)) := by omega
    have hfit := growslice_fits (need := m) (old := 0) (by omega) hb
    have h48' : ¬ (281474976710656 < Builtin.nextslicecap m 0 * i.bytes) := by omega
    have hge := grownCap_ge w m 0 e
    have hcm : grownCap w m 0 e ≤ maxLen := grownCap_le_maxLen w m 0 e (by simp only [maxLen]; omega)
    have hsz : z.cells.size = i.size := hzs
    have hzl : zs.length = i.size := by rw [← hzc, Array.length_toList, hsz]
    refine ⟨.slice (some ⟨w.heap.size, 0, none⟩) m (grownCap w m 0 e), .cells (Builtin.zeroCells z.cells m ++ Builtin.zeroCells z.cells (grownCap w m 0 e - m)) e, ?_, fun σ' _ hn hh => ⟨⟨hn.symm, by rw [hn]; rfl⟩, (Builtin.zeroCells z.cells m).toList, ⟨?_, .inr ⟨w.heap.size, _, _, by simp, Nat.zero_le _, hh, ?_, hcm, ?_, ?_⟩⟩, fun k => by simp [Value.ownBlock, eq_comm], ?_, by simpa using hb, fun a' ha' j hj => ?_⟩⟩
    · have hms : ¬ (m * i.size = 0) := Nat.mul_ne_zero hm0 (by omega)
      simp [execOp, mkO, resolve, invoke, builtin, hs, hx, Builtin.append_, run_underlying ht, run_underlying hk, sizeOf, typeInfo, zeroValue, hi, hiz, asInt, asIntOf, hw, hneg, hbig, hm0, h63', h48', Question.forced, Builtin.firstCells, newRow, grownCap, hms]
    · rw [Array.length_toList, size_zeroCells, hsz, List.length_replicate]
    · rw [List.length_replicate]; exact hge
    · rw [Array.size_append, size_zeroCells, size_zeroCells, hsz, ← Nat.add_mul]
      congr 1
      omega
    · rw [List.length_replicate, Array.toList_append]
      have : (Builtin.zeroCells z.cells m).toList.length = m * i.size := by rw [Array.length_toList, size_zeroCells, hsz]
      rw [← this]
      exact List.take_left
    · intro y hy
      rw [List.eq_of_mem_replicate hy, List.length_map, hzl]
    · rw [List.length_replicate] at ha'
      simp only [List.getElem_replicate, List.length_map, List.getElem_map] at hj ⊢
      have hjs : j < i.size := by omega
      have hlt : a' * i.size + j < m * z.cells.size := by
        have := Nat.mul_le_mul_right i.size (show a' + 1 ≤ m from ha')
        rw [Nat.add_mul, Nat.one_mul] at this
        rw [hsz]; omega
      have hmod : (a' * i.size + j) % z.cells.size = j := by rw [hsz]; exact (row_div_mod hjs).2
      have hval : (Builtin.zeroCells z.cells m).toList.getD (a' * i.size + j) undef = zs[j] := by
        have hjz : j < z.cells.size := by omega
        simp only [List.getD_eq_getElem?_getD, Array.getElem?_toList, Builtin.zeroCells, Array.getElem?_map, Array.getElem?_range, hlt, if_true, Option.map_some, Option.getD_some, hmod]
        rw [getElem!_pos z.cells j hjz]
        simp only [← hzc, Array.getElem_toList]
      rw [hval]
      exact RepD.v _ (List.all_eq_true.1 hz1 _ (List.getElem_mem _))
end
end Go.E

/- A logic over abstract states. Part 25: slices that may be nil or not; elements of arrays of one's own, written. -/
namespace Go.E
open Go

/-- A slice that is not nil. -/
def nnR (es : List (List DV)) : (Nat → Prop) → World → Value → (Nat → Prop) → Prop := fun F w x X => (∃ a n c, x = .slice (some a) n c) ∧ RepD F w x (.sl es) ∧ ∀ k, ¬ X k
theorem nnR_ok {F : Nat → Prop} {σ : Nat → Value} {w : World} {x : Value} {X : Nat → Prop} {es : List (List DV)} : ObjOK F σ w x X (.opq (nnR es)) ↔ nnR es F w x X := by
  refine ⟨fun h => h.1, fun h => ⟨h, fun F' w' hF hw => ?_⟩⟩
  obtain ⟨h1, h2, h3⟩ := h
  exact ⟨h1, RepD.mono hF (fun b hb => hw b (.inl hb)) h2, h3⟩
theorem sl_shape {F : Nat → Prop} {w : World} {x : Value} {es : List (List DV)} (h : RepD F w x (.sl es)) : (x = .slice none 0 0 ∧ es = []) ∨ ∃ a c, x = .slice (some a) es.length c := by
  cases h with
  | sl a cap sz _ val hcap hm hsz ha hnil _ =>
    cases a with
    | some a => exact .inr ⟨a, cap, rfl⟩
    | none =>
      have hl : ¬ 0 < es.length := fun h => by obtain ⟨b, off, e, _⟩ := ha h; cases e
      have hes : es = [] := List.eq_nil_of_length_eq_zero (by omega)
      subst hes
      exact .inl ⟨by rw [hnil rfl]; rfl, rfl⟩

/-- What is told of a function at a slice, from what is told of it at nil and at one that is not nil. -/
theorem Sat.nilOr {P : Program} {f : FuncId} {as : List SV} {l l' : Objs} {res : SV} (i h0 : Nat) (es : List (List DV)) (hi : as[i]? = some (cc (.d (.sl es)))) (hz : es = [] → Sat P f (as.set i (sc (.slice none 0 0))) l res l')
    (hn : Sat P f (as.set i (cc (.own h0))) ((h0, .opq (nnR es)) :: l) res l') (hf : (as.any (SV.has h0) || (l.any fun p => Nat.beq p.1 h0 || p.2.has h0) || (l'.any fun p => Nat.beq p.1 h0 || p.2.has h0) || res.has h0) = false) : Sat P f as l res l' := by
  obtain ⟨hlt, hai⟩ := List.getElem?_eq_some_iff.1 hi
  obtain ⟨h1, h2⟩ := hn
  simp only [Bool.or_eq_false_iff] at hf
  obtain ⟨⟨⟨f1, f2⟩, f3⟩, f4⟩ := hf
  have hob : ∀ {m : Objs}, (m.any fun p => Nat.beq p.1 h0 || p.2.has h0) = false → ∀ k o, look m k = some o → k ≠ h0 ∧ o.has h0 = false := fun hm k o e => by
    rw [List.any_eq_false] at hm
    have := hm _ (look_mem e)
    simp only [Bool.or_eq_true, not_or, Bool.not_eq_true] at this
    exact ⟨fun c => by subst c; simp at this, this.2⟩
  refine ⟨h1, fun F σ X w vs hn hv hok hF => ?_⟩
  have hvi := hv i hlt
  rw [hai] at hvi
  have hd : RepD F w (vs.getD i undef) (.sl es) := hvi
  rcases sl_shape hd with ⟨hnil, hes⟩ | ⟨a, c, hsome⟩
  · refine (hz hes).2 F σ X w vs (by simpa using hn) (fun j hj => ?_) hok hF
    have hj' : j < as.length := by simpa using hj
    by_cases c : i = j
    · subst c
      have e1 : (as.set i (sc (.slice none 0 0)))[i] = sc (.slice none 0 0) := by simp
      rw [e1, hnil]
      exact RepD.v _ rfl
    · have e1 : (as.set i (sc (.slice none 0 0)))[j] = as[j] := by simp [c]
      rw [e1]
      exact hv j hj'
  · have hσ : ∀ k, k ≠ h0 → (fun k => if k = h0 then vs.getD i undef else σ k) k = σ k := fun k hk => if_neg hk
    have hl : ∀ k o, look ((h0, LObj.opq (nnR es)) :: l) k = some o → (k = h0 ∧ o = .opq (nnR es)) ∨ (k ≠ h0 ∧ look l k = some o) := fun k o e1 => by
      by_cases c : h0 = k
      · subst c; simp only [look, Nat.beq_refl, cond_true, Option.some.injEq] at e1; exact .inl ⟨rfl, e1.symm⟩
      · simp only [look, beq_false c, cond_false] at e1; exact .inr ⟨fun d => c d.symm, e1⟩
    refine Calls.mono (h2 F (fun k => if k = h0 then vs.getD i undef else σ k) (fun k b => if k = h0 then False else X k b) w vs (by simpa using hn) (fun j hj => ?_) ⟨fun k o e1 => ?_, fun k k' o o' e1 e2 hk b hb hb' => ?_, fun k o e1 b hb => ?_⟩ hF) fun ex w' he => ?_
    · have hj' : j < as.length := by simpa using hj
      by_cases c' : i = j
      · subst c'
        have e1 : (as.set i (cc (.own h0)))[i] = cc (.own h0) := by simp
        rw [e1]
        exact ⟨by simp, by simp [hsome, Value.oneCell']⟩
      · have e1 : (as.set i (cc (.own h0)))[j] = as[j] := by simp [c']
        rw [e1]
        refine RepS.mono (fun _ h => h) (fun _ _ => rfl) (fun k hk => hσ k fun d => ?_) (hv j hj')
        subst d
        rw [List.any_eq_false] at f1
        have := f1 _ (List.getElem_mem hj')
        rw [hk] at this
        exact this rfl
    · rcases hl k o e1 with ⟨rfl, rfl⟩ | ⟨c', e1⟩
      · simp only [if_true]
        exact nnR_ok.2 ⟨⟨a, _, c, hsome⟩, hd, fun _ h => h⟩
      · simp only [if_neg c']
        exact ObjOK.mono (fun _ h => h) (fun _ _ => rfl) (fun j hj => hσ j fun d => by rw [d, (hob f2 k o e1).2] at hj; cases hj) (hok.ok k o e1)
    · rcases hl k o e1 with ⟨rfl, rfl⟩ | ⟨c1, e1⟩
      · simp only [if_true] at hb
      · rcases hl k' o' e2 with ⟨rfl, rfl⟩ | ⟨c', e2⟩
        · simp only [if_true] at hb'
        · simp only [if_neg c1, if_neg c'] at hb hb'
          exact hok.apart k k' o o' e1 e2 hk b hb hb'
    · rcases hl k o e1 with ⟨rfl, rfl⟩ | ⟨c1, e1⟩
      · simp only [if_true] at hb
      · simp only [if_neg c1] at hb
        exact hok.live k o e1 b hb
    · obtain ⟨v, rfl, F', σ', X', q1, q2, q3⟩ := he
      have hσ' : ∀ k, k ≠ h0 → (fun k => if k = h0 then σ h0 else σ' k) k = σ' k := fun k hk => if_neg hk
      refine ⟨v, rfl, F', fun k => if k = h0 then σ h0 else σ' k, X', RepS.mono (fun _ h => h) (fun _ _ => rfl) (fun k hk => hσ' k fun d => by rw [d, f4] at hk; cases hk) q1, ⟨fun k o e1 => ?_, q2.apart, q2.live⟩, q3.os, q3.tape, q3.output, q3.size, fun k hk hx => q3.same k hk fun h o e1 => ?_, q3.frz, fun k hk => ?_, fun h o e1 k hk => ?_, fun k hk => ?_⟩
      · have hk := hob f3 k o e1
        simp only [if_neg hk.1]
        exact ObjOK.mono (fun _ h => h) (fun _ _ => rfl) (fun j hj => hσ' j fun d => by rw [d, hk.2] at hj; cases hj) (q2.ok k o e1)
      · rcases hl h o e1 with ⟨rfl, rfl⟩ | ⟨c1, e1⟩
        · simp
        · simp only [if_neg c1]; exact hx h o e1
      · rcases q3.new k hk with c1 | ⟨c1, d⟩
        · exact .inl c1
        · refine .inr ⟨c1, d.imp id ?_⟩
          rintro ⟨h, o, e1, hx⟩
          rcases hl h o e1 with ⟨rfl, rfl⟩ | ⟨c2, e1⟩
          · simp at hx
          · simp only [if_neg c2] at hx; exact ⟨h, o, e1, hx⟩
      · refine (q3.foot h o e1 k hk).imp id ?_
        rintro ⟨h', o', e2, hx⟩
        rcases hl h' o' e2 with ⟨rfl, rfl⟩ | ⟨c2, e2⟩
        · simp at hx
        · simp only [if_neg c2] at hx; exact ⟨h', o', e2, hx⟩
      · by_cases c1 : k = h0
        · simp [c1]
        · simp only [if_neg c1]
          have := q3.sig k (hk.imp id fun d => by simp only [look, beq_false (fun e => c1 e.symm : ¬ h0 = k), cond_false]; exact d)
          rw [this]
          exact if_neg c1

section
variable {P : Program} {T : Tab} (hT : TabOK P T)
include hT
theorem sl_kind {t : TypeId} (hk : ((look T t).map (·.kind)) = some 2) : ∃ e, P.underlying t = some (.slice e) := by
  cases e1 : look T t with
  | none => rw [e1] at hk; cases hk
  | some ti =>
    rw [e1] at hk
    obtain ⟨i, d, _, hd, _, _, _, _, _, _, _, hkd⟩ := ti_parts (hT t ti e1)
    simp only [Option.map_some, Option.some.injEq] at hk
    rw [hkd] at hk
    cases d <;> simp [kindD] at hk
    exact ⟨_, hd⟩
omit hT in
theorem run_equalIn_sl_nil (w : World) (d : Nat) {t e : TypeId} (a : Option Addr) (l c : Nat) (h : P.underlying t = some (.slice e)) : (Op.equalIn (d + 1) t (.slice a l c) (.slice none 0 0)).run P w = .ok a.isNone w := by
  cases a <;> simp [Op.equalIn, run_underlying h]
omit hT in
theorem run_equal_sl_nil (w : World) {t e : TypeId} (a : Option Addr) (l c : Nat) (h : P.underlying t = some (.slice e)) : (Op.equal t (.slice a l c) (.slice none 0 0)).run P w = .ok a.isNone w := run_equalIn_sl_nil w 9999 a l c h
theorem tri_nn_eql {t u ty : TypeId} {x y : Operand} {h : Nat} {es : List (List DV)} (neg : Bool) (hk : ((look T t).map (·.kind)) = some 2) :
    Tri P (mkO (.binOp (bif neg then .neq else .eql) t x y u) ty) [cc (.own h), sc (.slice none 0 0)] [(h, .opq (nnR es))] (sc (.bool neg)) [(h, .opq (nnR es))] :=
  tri_of_value fun F σ X w a hr hok => by
    obtain ⟨e, he⟩ := sl_kind hT hk
    obtain ⟨h1, h2, _⟩ := (show RepS F σ w (a.eval x) (cc (.own h)) ∧ RepS F σ w (a.eval y) (sc (.slice none 0 0)) ∧ True by cases neg <;> exact hr)
    obtain ⟨hv, _⟩ := (show RepC F σ w (a.eval x) (.own h) from h1)
    have hy : a.eval y = .slice none 0 0 := scal_rep h2 rfl
    obtain ⟨⟨ad, n, c, e1⟩, _⟩ := nnR_ok.1 (hok.ok h (.opq (nnR es)) (by simp [look]))
    rw [e1] at hv
    refine ⟨.bool neg, ?_, RepD.v _ rfl⟩
    cases neg <;> simp [execOp, mkO, hv, hy, eqGuard, binOp, run_equal_sl_nil w (some ad) n c he]
theorem tri_nil_eql {t u ty : TypeId} {x y : Operand} (neg : Bool) (hk : ((look T t).map (·.kind)) = some 2) :
    Tri P (mkO (.binOp (bif neg then .neq else .eql) t x y u) ty) [sc (.slice none 0 0), sc (.slice none 0 0)] [] (sc (.bool (!neg))) [] :=
  tri_of_value fun F σ X w a hr hok => by
    obtain ⟨e, he⟩ := sl_kind hT hk
    obtain ⟨h1, h2, _⟩ := (show RepS F σ w (a.eval x) (sc (.slice none 0 0)) ∧ RepS F σ w (a.eval y) (sc (.slice none 0 0)) ∧ True by cases neg <;> exact hr)
    have hx : a.eval x = .slice none 0 0 := scal_rep h1 rfl
    have hy : a.eval y = .slice none 0 0 := scal_rep h2 rfl
    refine ⟨.bool (!neg), ?_, RepD.v _ rfl⟩
    cases neg <;> simp [execOp, mkO, hx, hy, eqGuard, binOp, run_equal_sl_nil w none 0 0 he]
theorem tri_append_nn {t tx ty : TypeId} {s x : Operand} {e ex sz bytes h0 h1 n : Nat} {es es2 : List (List DV)} (ho : appOK T t e sz bytes = true) (hx : appOK T tx ex sz bytes = true) (hk : (Nat.beq n h0 || (Nat.beq h1 h0 || Nat.beq h1 n)) = false) (hes : ∀ y ∈ es2, y.length = sz) (hb : (es.length + es2.length) * bytes ≤ 140737488355328) :
    Tri P (mkO (.call { callee := .builtin .append, args := #[s, x], argTypes := #[t, tx] }) ty) [cc (.own h0), cc (.own h1)] [(h0, .arr e sz bytes es), (h1, .opq (nnR es2))] (cc (.own n)) [(n, .arr e sz bytes (es ++ es2)), (h1, .opq (nnR es2))] := by
  simp only [Bool.or_eq_false_iff] at hk
  refine tri_append hT ho ⟨?_, ?_, hk.1, rfl⟩ (fun F σ X w x h hok => ?_) hes hb
  · simp [look, hk.2.1]
  · simp [look, hk.2.2]
  · have := nnR_ok.1 (hok.ok h1 (.opq (nnR es2)) (by simp [look]))
    obtain ⟨hv, _⟩ := (show RepC F σ w x (.own h1) from h)
    rw [hv]
    exact srcD_sl (slice_kind hT hx) hes this.2.1

/-- An element of an array of one's own, or a piece of it, is written. -/
theorem tri_store_eloc {t ty : TypeId} {x y : Operand} {ti : TI} {h i off sz e bytes : Nat} {es : List (List DV)} {z ds : List DV} {s : SV} (ht : look T t = some ti) (hs : cellsS s = some (ds.map .d)) (hn : ds.length = ti.size)
    (hz : es[i]? = some z) (hle : off + ds.length ≤ sz) :
    Tri P (mkO (.store t x y) ty) [cc (.eloc h i off sz), s] [(h, .arr e sz bytes es)] .any [(h, .arr e sz bytes (es.set i (z.take off ++ (ds ++ z.drop (off + ds.length)))))] := by
  intro F σ X w a hr hok hF
  obtain ⟨b, n, cap, hb, hx⟩ := (show RepC F σ w _ (.eloc h i off sz) from hr.1)
  have hl : look [(h, LObj.arr e sz bytes es)] h = some (.arr e sz bytes es) := by simp [look]
  obtain ⟨xs, e1, e2, e3, e4, e5⟩ := hok.ok h _ hl
  obtain ⟨hi, hzi⟩ := List.getElem?_eq_some_iff.1 hz
  have hzl : z.length = sz := by rw [← hzi]; exact e3 _ (List.getElem_mem hi)
  obtain ⟨q1, q2, q3⟩ := cellsS_rep (show RepS F σ w (a.eval y) s from hr.2.1) hs
  generalize hu : a.eval y = u at q1 q2 q3
  simp only [List.length_map] at q1 q2
  have hlen : xs.length = es.length * sz := e1.1
  have hmul : (i + 1) * sz ≤ es.length * sz := Nat.mul_le_mul_right _ hi
  have hmul2 : (i + 1) * sz = i * sz + sz := by rw [Nat.add_mul, Nat.one_mul]
  rw [hb] at e1
  have hrow : ∃ cur, w.heap[b]? = some (.cells cur e (0, 0)) ∧ n = es.length ∧ n ≤ cap ∧ cap ≤ maxLen ∧ cur.size = cap * sz ∧ cur.toList.take (n * sz) = xs := by
    rcases e1.2 with ⟨c, _⟩ | ⟨g, cap', cur, c, _, hh, h6, h7, h8, h9⟩
    · cases c
    · simp only [Value.slice.injEq, Option.some.injEq, Addr.mk.injEq] at c
      obtain ⟨⟨rfl, _⟩, rfl, rfl⟩ := c
      exact ⟨cur, hh, rfl, h6, h7, h8, h9⟩
  obtain ⟨cur, hh, rfl, h6, h7, h8, h9⟩ := hrow
  have hcap : es.length * sz ≤ cap * sz := Nat.mul_le_mul_right _ h6
  have hus : u.cells.toList.length = ds.length := by simpa using q1
  have hcl : cur.toList.length = cap * sz := by simpa using h8
  have hfit : i * sz + off + u.cells.toList.length ≤ cur.toList.length := by rw [hus, hcl]; omega
  have hst := run_storeCells_at P b (i * sz + off) e u.cells.toList 0 cur w hh (by simp only [Nat.add_zero]; simpa using hfit) q3
  simp only [Nat.add_zero] at hst
  generalize hnew : (cur.toList.take (i * sz + off) ++ u.cells.toList ++ cur.toList.drop (i * sz + off + u.cells.toList.length)).toArray = new at hst
  have hrun : (execOp a.eval (mkO (.store t x y) ty)).run P w = .ok .skip (w.setRow b new) := by
    simp only [execOp, mkO, hx, hu, Instr.storeAt, Instr.sureAddr, storeVar, Sem.run_bind, Sem.run_pure, Result.andThen_ok, run_sizeOf_ti (hT t ti ht)]
    rw [if_neg (by rw [q1, hn]; simp)]
    rw [hst]
    rfl
  rw [hrun]
  have hnl : new.toList = cur.toList.take (i * sz + off) ++ (u.cells.toList ++ cur.toList.drop (i * sz + off + u.cells.toList.length)) := by rw [← hnew]; simp
  have hget : ∀ j : Nat, new.toList[j]? = if j < i * sz + off then cur.toList[j]? else if j < i * sz + off + ds.length then u.cells.toList[j - (i * sz + off)]? else cur.toList[j]? := fun j => by
    rw [hnl, spliced cur.toList u.cells.toList (i * sz + off) hfit j, hus]
  have hnewl : new.toList.length = cap * sz := by rw [hnl]; simp only [List.length_append, List.length_take, List.length_drop, hus, hcl]; rw [hus, hcl] at hfit; omega
  have hX : ∀ k, X h k ↔ k = b := fun k => by rw [e2 k, hb]; simp [Value.ownBlock, eq_comm]
  have hFo : ∀ k, F k → (w.setRow b new).heap[k]? = w.heap[k]? := fun k hk => heap_setRow _ _ _ _ fun c => (hok.live h _ hl k ((hX k).2 c)).2 hk
  refine ⟨F, σ, X, trivial, ⟨?_, ?_, ?_⟩, ⟨rfl, rfl, rfl, by simp [World.setRow], fun k _ hk => heap_setRow _ _ _ _ fun c => hk h _ hl ((hX k).2 c), fun _ h => h, fun _ h => .inl h, ?_, fun _ _ => rfl⟩⟩
  · intro k o eo
    obtain ⟨rfl, rfl⟩ := look_one eo
    refine ⟨new.toList.take (es.length * sz), ?_, e2, ?_, by simpa using e4, ?_⟩
    · rw [hb]
      refine ⟨?_, .inr ⟨b, cap, new, by simp, Nat.zero_le _, setRow_heap w b cur new e (0, 0) hh, by simpa using h6, h7, by simpa using hnewl, by simp⟩⟩
      rw [List.length_take, hnewl, List.length_set]; omega
    · intro y hy
      obtain ⟨j, hj, rfl⟩ := List.getElem_of_mem hy
      by_cases c : i = j
      · subst c
        simp only [List.getElem_set_self, List.length_append, List.length_take, List.length_drop]
        omega
      · simp only [List.getElem_set_ne c]
        exact e3 _ (List.getElem_mem _)
    · intro j hj q hq
      have hj' : j < es.length := by simpa using hj
      have hmj : (j + 1) * sz ≤ es.length * sz := Nat.mul_le_mul_right _ hj'
      have hmj2 : (j + 1) * sz = j * sz + sz := by rw [Nat.add_mul, Nat.one_mul]
      have hqs : q < sz := by
        by_cases c : i = j
        · subst c
          simp only [List.getElem_set_self, List.length_append, List.length_take, List.length_drop] at hq
          omega
        · simp only [List.getElem_set_ne c] at hq
          rwa [e3 _ (List.getElem_mem _)] at hq
      have hidx : (new.toList.take (es.length * sz)).getD (j * sz + q) undef = (new.toList[j * sz + q]?).getD undef := by
        rw [List.getD_eq_getElem?_getD, List.getElem?_take_of_lt (by omega)]
      rw [hidx, hget]
      have hold : (cur.toList[j * sz + q]?).getD undef = xs.getD (j * sz + q) undef := by
        rw [← h9, List.getD_eq_getElem?_getD, List.getElem?_take_of_lt (by omega)]
      by_cases c : i = j
      · subst c
        simp only [List.getElem_set_self] at hq ⊢
        by_cases c1 : q < off
        · rw [if_pos (by omega), hold]
          rw [List.getElem_append_left (by simp; omega), List.getElem_take]
          have := e5 i hi q (by rw [hzi, hzl]; exact hqs)
          simp only [hzi] at this
          exact RepD.mono (fun _ h => h) hFo this
        · by_cases c2 : q < off + ds.length
          · rw [if_neg (by omega), if_pos (by omega)]
            rw [List.getElem_append_right (by simp; omega)]
            rw [List.getElem_append_left (by simp; omega)]
            simp only [List.length_take]
            have hm : min off z.length = off := by omega
            have := q2 (q - off) (by omega)
            simp only [List.getElem_map, Array.getD_eq_getD_getElem?] at this
            have e7 : i * sz + q - (i * sz + off) = q - off := by omega
            simp only [hm, e7, Array.getElem?_toList]
            exact RepD.mono (fun _ h => h) hFo this
          · rw [if_neg (by omega), if_neg (by omega), hold]
            rw [List.getElem_append_right (by simp; omega)]
            rw [List.getElem_append_right (by simp; omega)]
            simp only [List.length_take, List.getElem_drop]
            have hm : min off z.length = off := by omega
            have e7 : off + ds.length + (q - min off z.length - ds.length) = q := by omega
            have := e5 i hi q (by rw [hzi, hzl]; exact hqs)
            simp only [hzi] at this
            simp only [e7]
            exact RepD.mono (fun _ h => h) hFo this
      · simp only [List.getElem_set_ne c] at hq ⊢
        have : ¬ (i * sz + off ≤ j * sz + q ∧ j * sz + q < i * sz + off + ds.length) := by
          rintro ⟨c1, c2⟩
          rcases Nat.lt_or_gt_of_ne c with c3 | c3
          · have := Nat.mul_le_mul_right sz (show i + 1 ≤ j from c3); omega
          · have := Nat.mul_le_mul_right sz (show j + 1 ≤ i from c3); omega
        have e8 : (if j * sz + q < i * sz + off then cur.toList[j * sz + q]? else if j * sz + q < i * sz + off + ds.length then u.cells.toList[j * sz + q - (i * sz + off)]? else cur.toList[j * sz + q]?) = cur.toList[j * sz + q]? := by
          split
          · rfl
          · split
            · omega
            · rfl
        rw [e8, hold]
        exact RepD.mono (fun _ h => h) hFo (e5 j hj' q hq)
  · intro k k' o o' a1 a2 hne
    obtain ⟨rfl, _⟩ := look_one a1
    exact absurd (look_one a2).1.symm hne
  · intro k o a1 j hj
    obtain ⟨rfl, rfl⟩ := look_one a1
    have := hok.live k _ hl j hj
    exact ⟨by simpa [World.setRow] using this.1, this.2⟩
  · intro k o a1 j hj
    obtain ⟨rfl, rfl⟩ := look_one a1
    exact .inr ⟨k, _, hl, hj⟩
end

theorem tri_rem {P : Program} {t u ty : TypeId} {x y : Operand} {k : IntKind} {a b : Int} (c : Int) (h0 : b ≠ 0) (h : a.tmod b = c) : Tri P (mkO (.binOp .rem t x y u) ty) [sc (.int k a), sc (.int k b)] [] (sc (.int k c)) [] :=
  tri_of_value fun F σ X w ac hr _ => by
    have hx : ac.eval x = .int k a := scal_rep hr.1 rfl
    have hy : ac.eval y = .int k b := scal_rep hr.2.1 rfl
    refine ⟨.int k c, ?_, RepD.v _ rfl⟩
    simp [execOp, mkO, hx, hy, eqGuard, binOp, Op.intDiv, h0, h]
theorem tri_quo {P : Program} {t u ty : TypeId} {x y : Operand} {k : IntKind} {a b : Int} (c : Int) (h0 : b ≠ 0) (h : k.wrap (a.tdiv b) = c) : Tri P (mkO (.binOp .quo t x y u) ty) [sc (.int k a), sc (.int k b)] [] (sc (.int k c)) [] :=
  tri_of_value fun F σ X w ac hr _ => by
    have hx : ac.eval x = .int k a := scal_rep hr.1 rfl
    have hy : ac.eval y = .int k b := scal_rep hr.2.1 rfl
    refine ⟨.int k c, ?_, RepD.v _ rfl⟩
    simp [execOp, mkO, hx, hy, eqGuard, binOp, Op.intDiv, h0, h]
theorem wrap_u64 {n : Int} (h : 0 ≤ n ∧ n ≤ 18446744073709551615) : IntKind.wrap .u64 n = n := by rw [IntKind.wrap_u64]; omega
theorem wrap_u64_nonneg (n : Int) : 0 ≤ IntKind.wrap .u64 n := by rw [IntKind.wrap_u64]; omega
/-- What a number's remainder is, as a place in a list. -/
def placeU (t : Int) (n : Nat) : Nat := (Int.tmod (IntKind.wrap .u64 t) (n : Int)).toNat
theorem placeU_lt {t : Int} {n : Nat} (h : 0 < n) : placeU t n < n := by
  unfold placeU
  have h1 := wrap_u64_nonneg t
  rw [Int.tmod_eq_emod_of_nonneg h1]
  have := Int.emod_lt_of_pos (IntKind.wrap .u64 t) (show (0 : Int) < n by omega)
  have := Int.emod_nonneg (IntKind.wrap .u64 t) (show (n : Int) ≠ 0 by omega)
  omega
theorem placeU_eq {t : Int} {n : Nat} (h : 0 < n) : Int.tmod (IntKind.wrap .u64 t) (n : Int) = (placeU t n : Int) := by
  unfold placeU
  have h1 := wrap_u64_nonneg t
  rw [Int.tmod_eq_emod_of_nonneg h1]
  have := Int.emod_nonneg (IntKind.wrap .u64 t) (show (n : Int) ≠ 0 by omega)
  omega
end Go.E

/- A logic over abstract states. Part 26: room that is made; pieces of slices that are data; bytes as texts; shifts. -/
namespace Go.E
open Go

/-- A new array of one's own. -/
theorem tri_fresh {P : Program} {o : Oper} {vals : List SV} {n e sz bytes : Nat}
    (h : ∀ F σ w a, Reps F σ w a o.op.operands.toList vals → ∃ c w', (execOp a.eval o).run P w = .ok (.value (.slice (some ⟨w.heap.size, 0, none⟩) 0 c)) w' ∧ w'.ownsRow 0 e sz (.slice (some ⟨w.heap.size, 0, none⟩) 0 c) 0 [] ∧ w.grownBy w' none) :
    Tri P o vals [] (cc (.own n)) [(n, .arr e sz bytes [])] := by
  intro F σ X w a hr _ hF
  obtain ⟨c, w', h1, h2, h3⟩ := h F σ w a hr
  rw [h1]
  have hlt := (h2.lt w.heap.size (by simp [Value.ownBlock])).2
  have hs : ∀ k, k ≠ n → (fun k => if k = n then Value.slice (some ⟨w.heap.size, 0, none⟩) 0 c else σ k) k = σ k := fun k hk => if_neg hk
  refine ⟨F, fun k => if k = n then .slice (some ⟨w.heap.size, 0, none⟩) 0 c else σ k, fun h => if h = n then (fun k => k = w.heap.size) else X h, ⟨by simp, by simp [Value.oneCell']⟩, ⟨?_, ?_, ?_⟩, h3.os, h3.tape, h3.output, h3.size, fun k hk _ => h3.block k hk (by simp), fun _ h => h, fun _ h => .inl h, ?_, fun k hk => ?_⟩
  · intro k x e0
    obtain ⟨rfl, rfl⟩ := look_one e0
    simp only [if_true]
    exact ⟨[], h2, fun b => by simp [Value.ownBlock, eq_comm], by simp, by simp, fun i hi => absurd hi (by simp)⟩
  · intro k k' x x' e0 e' hne
    obtain ⟨rfl, rfl⟩ := look_one e0
    exact absurd (look_one e').1.symm hne
  · intro k x e0 j hj
    obtain ⟨rfl, rfl⟩ := look_one e0
    simp only [if_true] at hj
    subst hj
    exact ⟨hlt, fun hf => by have := hF _ hf; omega⟩
  · intro k x e0 j hj
    obtain ⟨rfl, rfl⟩ := look_one e0
    simp only [if_true] at hj
    exact .inl (by omega)
  · refine if_neg fun e0 => ?_
    subst e0
    rcases hk with hk | hk
    · simp [look] at hk
    · exact hk rfl

section
variable {P : Program} {T : Tab} (hT : TabOK P T)
include hT
theorem tri_make_own {t ty : TypeId} {x y : Operand} {e sz bytes n c : Nat} {kl kc : IntKind} (ho : appOK T t e sz bytes = true) (hb : c * bytes ≤ 140737488355328) :
    Tri P (mkO (.makeSlice t x y) ty) [sc (.int kl 0), sc (.int kc c)] [] (cc (.own n)) [(n, .arr e sz bytes [])] :=
  tri_fresh fun F σ w a hr => by
    obtain ⟨ht, hb1, i, z, hi, hz, hsize, hby, hzs⟩ := appOK_parts hT ho
    obtain ⟨h1, h2, _⟩ := (show RepS F σ w (a.eval x) (sc (.int kl 0)) ∧ RepS F σ w (a.eval y) (sc (.int kc c)) ∧ True from hr)
    have hx : a.eval x = .int kl 0 := scal_rep h1 rfl
    have hy : a.eval y = .int kc c := scal_rep h2 rfl
    have hc : c ≤ c * bytes := Nat.le_mul_of_pos_right _ hb1
    obtain ⟨w', g1, g2, g3⟩ := run_make_own w 0 t e i z sz ht hi hz hsize kl kc c (by rw [hby, Nat.mul_comm]; omega) (by simp only [maxLen]; omega) (Nat.zero_le _)
    exact ⟨c, w', by simp [execOp, mkO, hx, hy, g1], g2, g3⟩

/-- A piece of a slice that is data. -/
theorem slice_data {F : Nat → Prop} {w : World} {es : List (List DV)} {a : Option Addr} {cap lo hi sz' : Nat} (hd : RepD F w (.slice a es.length cap) (.sl es)) (hlo : lo ≤ hi) (hhi : hi ≤ es.length) (hs : ∀ y ∈ es, y.length = sz') :
    RepD F w (.slice (if cap = lo then a else a.map (·.add (lo * sz'))) (hi - lo) (cap - lo)) (.sl ((es.take hi).drop lo)) := by
  generalize hv : Value.slice a es.length cap = v at hd
  cases hd with
  | sl a2 cap2 sz _ val hcap hm hsz ha hnil hr =>
    simp only [Value.slice.injEq] at hv
    obtain ⟨rfl, _, rfl⟩ := hv
    have hlen : ((es.take hi).drop lo).length = hi - lo := by simp; omega
    rw [← hlen]
    refine RepD.sl _ (cap - lo) sz' _ (fun i j => val (lo + i) j) (by omega) (by omega) (fun e he => hs e (List.mem_of_mem_take (List.mem_of_mem_drop he))) (fun h0 => ?_) (fun hn => ?_) (fun i hi' j hj => ?_)
    · rw [hlen] at h0
      obtain ⟨b, off, rfl, hF, hc⟩ := ha (by omega)
      have hne : ¬ cap = lo := by omega
      refine ⟨b, off + lo * sz', by simp [hne, add_none], hF, fun i j hi' hj => ?_⟩
      rw [hlen] at hi'
      have hszz : sz = sz' := (hsz _ (List.getElem_mem (show 0 < es.length by omega))).symm.trans (hs _ (List.getElem_mem _))
      subst hszz
      have := hc (lo + i) j (by omega) hj
      rw [Nat.add_mul] at this
      rw [← this]
      congr 2
      omega
    · by_cases c : cap = lo
      · omega
      · simp only [c, if_false] at hn
        cases a with
        | none => have := hnil rfl; omega
        | some x => simp at hn
    · rw [hlen] at hi'
      have h1 : lo + i < es.length := by omega
      have e1 : ((es.take hi).drop lo)[i] = es[lo + i] := by simp
      simp only [e1] at hj ⊢
      exact hr (lo + i) h1 j hj
theorem run_slice_data {t e : TypeId} {sz bytes : Nat} (ho : appOK T t e sz bytes = true) (w : World) {a : Option Addr} {len cap lo hi : Nat} {q q' : IntKind} (hlo : lo ≤ hi) (hhi : hi ≤ cap) (b1 b2 : Bool) (h1 : b1 = false → lo = 0) (h2 : b2 = false → hi = len) :
    (Instr.slice t (.slice a len cap) (bif b1 then some (.int q lo) else none) (bif b2 then some (.int q' hi) else none) none).run P w = .ok (.slice (if cap = lo then a else a.map (·.add (lo * sz))) (hi - lo) (cap - lo)) w := by
  obtain ⟨ht, _, inf, z, hinf, _, hsize, _⟩ := appOK_parts hT ho
  cases b1 with
  | true =>
    cases b2 with
    | true => simp [Instr.slice, run_underlying ht, Instr.sliceBounds, Instr.sliceBound, asIntOf, sizeOf, typeInfo, hinf, hsize, hhi, hlo]
    | false =>
      obtain rfl := h2 rfl
      simp [Instr.slice, run_underlying ht, Instr.sliceBounds, Instr.sliceBound, asIntOf, sizeOf, typeInfo, hinf, hsize, hlo]
  | false =>
    obtain rfl := h1 rfl
    cases b2 with
    | true => simp [Instr.slice, run_underlying ht, Instr.sliceBounds, Instr.sliceBound, asIntOf, sizeOf, typeInfo, hinf, hsize, hhi]
    | false =>
      obtain rfl := h2 rfl
      simp [Instr.slice, run_underlying ht, Instr.sliceBounds, Instr.sliceBound, asIntOf, sizeOf, typeInfo, hinf, hsize]
theorem sl_len {F : Nat → Prop} {w : World} {x : Value} {es : List (List DV)} (h : RepD F w x (.sl es)) : ∃ a cap, x = .slice a es.length cap ∧ es.length ≤ cap := by
  cases h with
  | sl a cap sz _ val hcap => exact ⟨a, cap, rfl, hcap⟩
theorem tri_slice_mid {t ty : TypeId} {x lo hi : Operand} {e sz bytes l h : Nat} {q q' : IntKind} {es : List (List DV)} (ho : appOK T t e sz bytes = true) (hs : ∀ y ∈ es, y.length = sz) (hlo : l ≤ h) (hhi : h ≤ es.length) :
    Tri P (mkO (.slice t x (some lo) (some hi) none) ty) [cc (.d (.sl es)), sc (.int q l), sc (.int q' h)] [] (cc (.d (.sl ((es.take h).drop l)))) [] :=
  tri_of_value fun F σ X w a hr _ => by
    obtain ⟨h1, h2, h3, _⟩ := (show RepS F σ w (a.eval x) (cc (.d (.sl es))) ∧ RepS F σ w (a.eval lo) (sc (.int q l)) ∧ RepS F σ w (a.eval hi) (sc (.int q' h)) ∧ True from hr)
    have hl : a.eval lo = .int q l := scal_rep h2 rfl
    have hh : a.eval hi = .int q' h := scal_rep h3 rfl
    have hd : RepD F w (a.eval x) (.sl es) := h1
    obtain ⟨ad, cap, e1, hcap⟩ := sl_len hT hd
    rw [e1] at hd
    have hrun := run_slice_data hT ho w (a := ad) (len := es.length) (cap := cap) (q := q) (q' := q') hlo (by omega) true true (by simp) (by simp)
    refine ⟨_, ?_, slice_data hT hd hlo hhi hs⟩
    simp only [cond_true] at hrun
    simp [execOp, mkO, e1, hl, hh, Instr.sliceAt, run_underlying (slice_kind hT ho), hrun]
theorem tri_slice_from {t ty : TypeId} {x lo : Operand} {e sz bytes l : Nat} {q : IntKind} {es : List (List DV)} (ho : appOK T t e sz bytes = true) (hs : ∀ y ∈ es, y.length = sz) (hlo : l ≤ es.length) :
    Tri P (mkO (.slice t x (some lo) none none) ty) [cc (.d (.sl es)), sc (.int q l)] [] (cc (.d (.sl (es.drop l)))) [] :=
  tri_of_value fun F σ X w a hr _ => by
    obtain ⟨h1, h2, _⟩ := (show RepS F σ w (a.eval x) (cc (.d (.sl es))) ∧ RepS F σ w (a.eval lo) (sc (.int q l)) ∧ True from hr)
    have hl : a.eval lo = .int q l := scal_rep h2 rfl
    have hd : RepD F w (a.eval x) (.sl es) := h1
    obtain ⟨ad, cap, e1, hcap⟩ := sl_len hT hd
    rw [e1] at hd
    have hrun := run_slice_data hT ho w (a := ad) (len := es.length) (cap := cap) (q := q) (q' := q) (lo := l) (hi := es.length) hlo hcap true false (by simp) (by simp)
    have hrep := slice_data hT hd hlo (Nat.le_refl _) hs
    rw [List.take_length] at hrep
    refine ⟨_, ?_, hrep⟩
    simp only [cond_true, cond_false] at hrun
    simp [execOp, mkO, e1, hl, Instr.sliceAt, run_underlying (slice_kind hT ho), hrun]
theorem tri_slice_to {t ty : TypeId} {x hi : Operand} {e sz bytes h : Nat} {q : IntKind} {es : List (List DV)} (ho : appOK T t e sz bytes = true) (hs : ∀ y ∈ es, y.length = sz) (hhi : h ≤ es.length) :
    Tri P (mkO (.slice t x none (some hi) none) ty) [cc (.d (.sl es)), sc (.int q h)] [] (cc (.d (.sl (es.take h)))) [] :=
  tri_of_value fun F σ X w a hr _ => by
    obtain ⟨h1, h2, _⟩ := (show RepS F σ w (a.eval x) (cc (.d (.sl es))) ∧ RepS F σ w (a.eval hi) (sc (.int q h)) ∧ True from hr)
    have hh : a.eval hi = .int q h := scal_rep h2 rfl
    have hd : RepD F w (a.eval x) (.sl es) := h1
    obtain ⟨ad, cap, e1, hcap⟩ := sl_len hT hd
    rw [e1] at hd
    have hrun := run_slice_data hT ho w (a := ad) (len := es.length) (cap := cap) (q := q) (q' := q) (lo := 0) (hi := h) (Nat.zero_le _) (by omega) false true (by simp) (by simp)
    have hrep := slice_data hT hd (Nat.zero_le _) hhi hs
    rw [List.drop_zero] at hrep
    refine ⟨_, ?_, hrep⟩
    simp only [cond_true, cond_false] at hrun
    simp [execOp, mkO, e1, hh, Instr.sliceAt, run_underlying (slice_kind hT ho), hrun]
end

/-! ### Bytes -/
def encB (c : Int) : List DV := [.v (.int .u8 c)]
/-- A text's bytes; the text that bytes are. -/
def strB (s : ByteArray) : List Int := s.data.toList.map fun b => (b.toNat : Int)
def bstr (l : List Int) : ByteArray := ⟨(l.map fun n => UInt8.ofNat n.toNat).toArray⟩
theorem strB_len (s : ByteArray) : (strB s).length = s.size := by simp [strB]
theorem byteD_strB (s : ByteArray) : byteD s.data.toList = (strB s).map encB := by simp [byteD, strB, encB]
theorem bstr_strB (s : ByteArray) : bstr (strB s) = s := by
  obtain ⟨⟨l⟩⟩ := s
  have : l.map ((fun n : Int => UInt8.ofNat n.toNat) ∘ fun b : UInt8 => (b.toNat : Int)) = l := by
    conv => rhs; rw [← List.map_id l]
    refine List.map_congr_left fun x _ => ?_
    simp
  simp [bstr, strB, this]
theorem strB_bstr {l : List Int} (h : ∀ x ∈ l, 0 ≤ x ∧ x ≤ 255) : strB (bstr l) = l := by
  simp only [strB, bstr, List.map_map]
  conv => rhs; rw [← List.map_id l]
  refine List.map_congr_left fun x hx => ?_
  have := h x hx
  simp only [Function.comp, id, UInt8.toNat_ofNat']
  omega
theorem strB_range (s : ByteArray) : ∀ x ∈ strB s, 0 ≤ x ∧ x ≤ 255 := fun x hx => by
  obtain ⟨b, _, rfl⟩ := List.mem_map.1 hx
  have := b.toNat_lt
  omega
theorem run_bytes_ints {P : Program} (w : World) (src dst e : TypeId) (a : Addr) (cap : Nat) (l : List Int) (hs : P.underlying src = some (.slice e)) (he : P.underlying e = some (.int .u8)) (hd : P.underlying dst = some .string)
    (hc : ∀ j (hj : j < l.length), w.cell? (a.add j) = some (.int .u8 l[j])) : (convert src dst (.slice (some a) l.length cap)).run P w = .ok (.string (bstr l)) w := by
  rw [run_convert_bytes_string w src dst e (some a) l.length cap hs he hd]
  have hl := run_loadCells_list (P := P) w a (l.map (Value.int .u8)) (fun j v hj => by
    have hj' : j < l.length := by
      have := (List.getElem?_eq_some_iff.1 hj).1
      simpa using this
    rw [hc j hj']
    simp [List.getElem?_eq_getElem hj'] at hj
    rw [← hj])
  simp only [List.length_map] at hl
  rw [run_bytesToString w a l.length cap _ hl]
  have : ∀ (l : List Int) (r : ByteArray), l.foldl (fun r n => r.push (UInt8.ofNat n.toNat)) r = ⟨r.data ++ (l.map fun n => UInt8.ofNat n.toNat).toArray⟩ := by
    intro l
    induction l with
    | nil => intro r; simp
    | cons n l ih => intro r; rw [List.foldl_cons, ih]; simp [ByteArray.push]
  rw [this]
  have he0 : ByteArray.empty.data = #[] := rfl
  rw [he0]
  simp [bstr]
theorem tri_bytes_str {P : Program} {src dst e ty : TypeId} {x : Operand} {l : List Int} (hs : P.underlying src = some (.slice e)) (he : P.underlying e = some (.int .u8)) (hd : P.underlying dst = some .string) :
    Tri P (mkO (.convert src dst x) ty) [cc (.d (.sl (l.map encB)))] [] (sc (.string (bstr l))) [] :=
  tri_of_value fun F σ X w a hr _ => by
    have hx : RepD F w (a.eval x) (.sl (l.map encB)) := hr.1
    refine ⟨.string (bstr l), ?_, RepD.v _ rfl⟩
    have key : (convert src dst (a.eval x)).run P w = .ok (.string (bstr l)) w := by
      generalize hv : a.eval x = v at hx
      generalize hes : l.map encB = es at hx
      cases hx with
      | sl ad cap sz _ val hcap hm hsz ha hnil hr2 =>
        have hlen : es.length = l.length := by rw [← hes]; simp
        rcases Nat.eq_zero_or_pos l.length with c | c
        · have hl0 : l = [] := List.eq_nil_of_length_eq_zero c
          subst hl0
          have he0 : es = [] := by rw [← hes]; rfl
          subst he0
          cases ad with
          | none =>
            rw [run_convert_bytes_string w src dst e none _ cap hs he hd]
            simp [Conv.bytesToString, bstr]; rfl
          | some ad =>
            have := run_bytes_ints (P := P) w src dst e ad cap [] hs he hd (fun j hj => absurd hj (by simp))
            simpa using this
        · obtain ⟨b, off, rfl, _, hc⟩ := ha (by omega)
          rw [hlen]
          have hsz1 : sz = 1 := by
            have := hsz (es[0]'(by omega)) (List.getElem_mem _)
            subst hes
            simp [encB] at this
            exact this.symm
          subst hsz1
          refine run_bytes_ints (P := P) w src dst e ⟨b, off, none⟩ cap l hs he hd fun j hj => ?_
          have h1 := hc j 0 (by omega) (by omega)
          have h2 := hr2 j (by omega) 0 (by subst hes; simp [encB])
          subst hes
          have h3 : RepD F w (val j 0) (.v (.int .u8 l[j])) := by simpa [encB] using h2
          have h4 : val j 0 = .int .u8 l[j] := scal_rep (σ := σ) (show RepS F σ w (val j 0) (sc (.int .u8 l[j])) from h3) rfl
          rw [add_none, ← h4, ← h1]
          simp
    simp [execOp, mkO, key]

theorem tri_shr {P : Program} {t u ty : TypeId} {x y : Operand} {k k' : IntKind} {a b : Int} (c : Int) (h0 : 0 ≤ b) (h : a.fdiv (2 ^ (min b.toNat k.bits)) = c) : Tri P (mkO (.binOp .shr t x y u) ty) [sc (.int k a), sc (.int k' b)] [] (sc (.int k c)) [] :=
  tri_of_value fun F σ X w ac hr _ => by
    have hx : ac.eval x = .int k a := scal_rep hr.1 rfl
    have hy : ac.eval y = .int k' b := scal_rep hr.2.1 rfl
    refine ⟨.int k c, ?_, RepD.v _ rfl⟩
    have : ¬ b < 0 := by omega
    simp [execOp, mkO, hx, hy, eqGuard, binOp, Op.shift, this, h]
theorem tri_shl {P : Program} {t u ty : TypeId} {x y : Operand} {k k' : IntKind} {a b : Int} (c : Int) (h0 : 0 ≤ b) (h : k.wrap (a * 2 ^ (min b.toNat k.bits)) = c) : Tri P (mkO (.binOp .shl t x y u) ty) [sc (.int k a), sc (.int k' b)] [] (sc (.int k c)) [] :=
  tri_of_value fun F σ X w ac hr _ => by
    have hx : ac.eval x = .int k a := scal_rep hr.1 rfl
    have hy : ac.eval y = .int k' b := scal_rep hr.2.1 rfl
    refine ⟨.int k c, ?_, RepD.v _ rfl⟩
    have : ¬ b < 0 := by omega
    simp [execOp, mkO, hx, hy, eqGuard, binOp, Op.shift, this, h]
/-- A number whose last eight bits are free, and a byte. -/
theorem or_byte {a b : Int} (h1 : 0 ≤ a) (h2 : a < 72057594037927936) (h3 : 0 ≤ b) (h4 : b ≤ 255) :
    IntKind.wrap .u64 ((BitVec.ofInt 64 (256 * a) ||| BitVec.ofInt 64 b).toNat : Int) = 256 * a + b := by
  obtain ⟨n, rfl⟩ := Int.eq_ofNat_of_zero_le h1
  obtain ⟨m, rfl⟩ := Int.eq_ofNat_of_zero_le h3
  have hm : m < 2 ^ 8 := by omega
  have e1 : BitVec.ofInt 64 (256 * (n : Int)) = BitVec.ofNat 64 (n <<< 8) := by
    rw [Nat.shiftLeft_eq, show (256 * (n : Int)) = ((n * 2 ^ 8 : Nat) : Int) by omega, BitVec.ofInt_natCast]
  have e2 : BitVec.ofInt 64 (m : Int) = BitVec.ofNat 64 m := BitVec.ofInt_natCast ..
  rw [e1, e2, BitVec.toNat_or, BitVec.toNat_ofNat, BitVec.toNat_ofNat]
  have hn : n <<< 8 < 2 ^ 64 := by rw [Nat.shiftLeft_eq]; omega
  rw [Nat.mod_eq_of_lt hn, Nat.mod_eq_of_lt (by omega), ← Nat.shiftLeft_add_eq_or_of_lt hm, wrap_u64 (by rw [Nat.shiftLeft_eq]; omega), Nat.shiftLeft_eq]
  omega
theorem tri_or_byte {P : Program} {t u ty : TypeId} {x y : Operand} {a b : Int} (c : Int) (h1 : 0 ≤ a) (h2 : a < 72057594037927936) (h3 : 0 ≤ b) (h4 : b ≤ 255) (h : 256 * a + b = c) :
    Tri P (mkO (.binOp .or t x y u) ty) [sc (.int .u64 (256 * a)), sc (.int .u64 b)] [] (sc (.int .u64 c)) [] :=
  tri_of_value fun F σ X w ac hr _ => by
    have hx : ac.eval x = .int .u64 (256 * a) := scal_rep hr.1 rfl
    have hy : ac.eval y = .int .u64 b := scal_rep hr.2.1 rfl
    refine ⟨.int .u64 c, ?_, RepD.v _ rfl⟩
    have := or_byte h1 h2 h3 h4
    have hb : IntKind.u64.bits = 64 := rfl
    simp only [execOp, mkO, hx, hy, eqGuard, binOp, Op.intBits, Sem.run_bind, Sem.run_pure, Result.andThen_ok]
    simp
    rw [← h, ← this]
    rfl
/-! ### In short -/
abbrev dI (n : Int) : DV := .v (.int .i64 n)
abbrev dB (b : Bool) : DV := .v (.bool b)
abbrev dS (s : ByteArray) : DV := .v (.string s)
abbrev dP (l : List DV) : DV := .ptr l
abbrev dD (l : List (List DV)) : DV := .sl l
abbrev cI (n : Int) : CV := .d (.v (.int .i64 n))
abbrev cB (b : Bool) : CV := .d (.v (.bool b))
abbrev cS (s : ByteArray) : CV := .d (.v (.string s))
abbrev cD (l : List (List DV)) : CV := .d (.sl l)
abbrev vI (n : Int) : SV := .t (.c (.d (.v (.int .i64 n))))
abbrev vB (b : Bool) : SV := .t (.c (.d (.v (.bool b))))
abbrev vS (s : ByteArray) : SV := .t (.c (.d (.v (.string s))))
abbrev vD (l : List (List DV)) : SV := .t (.c (.d (.sl l)))
abbrev vT (x : DV) : SV := .t (.c (.d x))
abbrev vL (h o : Nat) : SV := .t (.c (.loc h o))
abbrev vO (h : Nat) : SV := .t (.c (.own h))

/-- A hint, with all that is told of its operation. -/
structure Hk where
  i : Nat
  ro : Bool
  vals : List SV
  l : Objs
  res : SV
  l' : Objs
def hintsK : List Hk → List (Nat × Hint)
  | [] => []
  | h :: r => (h.i, ⟨h.l.map (·.1), h.res, bif h.ro then none else some h.l'⟩) :: hintsK r
def HoldOne (P : Program) (ops : List Oper) (h : Hk) : Prop :=
  match ops[h.i]? with
  | some o => Tri P (mkO o.op o.type) h.vals h.l h.res (bif h.ro then h.l else h.l')
  | none => True
inductive HoldK (P : Program) (ops : List Oper) : List Hk → Prop
  | n : HoldK P ops []
  | c {h : Hk} {r : List Hk} (p : HoldOne P ops h) (q : HoldK P ops r) : HoldK P ops (h :: r)
def obOf (ops : List Oper) (h : Hk) : Option Ob :=
  match ops[h.i]? with
  | some o => some ⟨o.op, o.type, h.vals, h.l, h.res, bif h.ro then h.l else h.l'⟩
  | none => none
def obsK (ops : List Oper) : List Hk → Option (List Ob)
  | [] => some []
  | h :: r => match obOf ops h, obsK ops r with
    | some o, some l => some (o :: l)
    | _, _ => none
theorem holdK {P : Program} {ops : List Oper} : ∀ {hs : List Hk} {obs : List Ob}, HoldK P ops hs → obsK ops hs = some obs → AllHold P obs
  | [], obs, _, h => by simp only [obsK, Option.some.injEq] at h; subst h; trivial
  | h :: r, obs, .c p q, e => by
    simp only [obsK] at e
    cases e1 : obOf ops h with
    | none => simp [e1] at e
    | some o =>
      cases e2 : obsK ops r with
      | none => simp [e1, e2] at e
      | some l =>
        simp only [e1, e2, Option.some.injEq] at e
        subst e
        refine ⟨?_, holdK q e2⟩
        unfold obOf at e1
        unfold HoldOne at p
        split at e1
        · rename_i o' ho
          rw [ho] at p
          obtain rfl := Option.some.inj e1
          exact p
        · cases e1
theorem awp_rk {P : Program} {T : Tab} (hT : TabOK P T) (hm : P.follows .mixedOrders = true) {G : Gh} (D : List Nat) (hs : List Hk) {ops : List Oper} {open_ : Bool} (ks ho : List Nat) {S : St} (S' : St)
    (h : (runK P T D (hintsK hs) ops open_ ks ho S, (obsK ops hs).isSome) = ((obsK ops hs).map fun obs => (S', obs), true)) (hh : HoldK P ops hs)
    {id : Nat} {Q : Exit → St → Prop} (hQ : Q .normal S') : AWp P G (.region id ops.toArray open_) Q S := by
  obtain ⟨h1, h2⟩ := Prod.mk.inj h
  obtain ⟨obs, e⟩ := Option.isSome_iff_exists.1 h2
  rw [e] at h1
  exact awp_region_keep hT D (hintsK hs) ks ho S' obs hm h1 (holdK hh e) hQ
end Go.E
