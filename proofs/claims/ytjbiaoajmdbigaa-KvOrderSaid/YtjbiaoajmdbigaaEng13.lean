/- A logic over abstract states. Part 13: an array that is no longer written becomes data; calls. -/
import Derived.Test.YtjbiaoajmdbigaaEng12
set_option linter.unusedVariables false
set_option linter.unusedSimpArgs false
namespace Go.E
open Go

def CV.fz (h : Nat) (es : List (List DV)) : CV → CV
  | .own k => bif Nat.beq k h then .d (.sl es) else .own k
  | y => y
def TV.fz (h : Nat) (es : List (List DV)) : TV → TV
  | .c y => .c (y.fz h es)
  | .agg l => .agg (l.map (CV.fz h es))
def SV.fz (h : Nat) (es : List (List DV)) : SV → SV
  | .t y => .t (y.fz h es)
  | .tup l => .tup (l.map (TV.fz h es))
  | .any => .any
def LObj.fz (h : Nat) (es : List (List DV)) : LObj → LObj
  | .cells t cs => .cells t (cs.map (CV.fz h es))
  | o => o
def fzS (h : Nat) (es : List (List DV)) : List (Nat × SV) → List (Nat × SV)
  | [] => []
  | (i, x) :: r => (i, x.fz h es) :: fzS h es r
def fzO (h : Nat) (es : List (List DV)) : Objs → Objs
  | [] => []
  | (k, o) :: r => (k, o.fz h es) :: fzO h es r
def St.fz (h : Nat) (S : St) : Option St :=
  match look S.objs h with
  | some (.arr _ _ _ es) => some { S with slots := fzS h es S.slots, objs := fzO h es (cut S.objs h) }
  | _ => none

theorem look_fzS {h : Nat} {es : List (List DV)} : ∀ {l : List (Nat × SV)} {i : Nat} {x : SV}, look (fzS h es l) i = some x → ∃ y, look l i = some y ∧ x = y.fz h es
  | [], i, x, h => by simp [fzS, look] at h
  | (j, y) :: r, i, x, h => by
    by_cases c : j = i
    · subst c
      simp only [fzS, look, Nat.beq_refl, cond_true, Option.some.injEq] at h
      exact ⟨y, by simp [look], h.symm⟩
    · simp only [fzS, look, beq_false c, cond_false] at h
      obtain ⟨z, h1, h2⟩ := look_fzS h
      exact ⟨z, by simp only [look, beq_false c, cond_false]; exact h1, h2⟩
theorem look_fzO {h : Nat} {es : List (List DV)} : ∀ {l : Objs} {i : Nat} {x : LObj}, look (fzO h es l) i = some x → ∃ y, look l i = some y ∧ x = y.fz h es
  | [], i, x, h => by simp [fzO, look] at h
  | (j, y) :: r, i, x, h => by
    by_cases c : j = i
    · subst c
      simp only [fzO, look, Nat.beq_refl, cond_true, Option.some.injEq] at h
      exact ⟨y, by simp [look], h.symm⟩
    · simp only [fzO, look, beq_false c, cond_false] at h
      obtain ⟨z, h1, h2⟩ := look_fzO h
      exact ⟨z, by simp only [look, beq_false c, cond_false]; exact h1, h2⟩

section
variable {F : Nat → Prop} {σ : Nat → Value} {w : World} {h : Nat} {es : List (List DV)} (hd : RepD F w (σ h) (.sl es))
include hd
theorem RepC.fz {x : Value} {y : CV} (r : RepC F σ w x y) : RepC F σ w x (y.fz h es) := by
  cases y with
  | own k =>
    simp only [CV.fz]
    by_cases c : k = h
    · subst c
      simp only [Nat.beq_refl, cond_true]
      obtain ⟨rfl, _⟩ := r
      exact hd
    · simp only [beq_false c, cond_false]; exact r
  | _ => exact r
theorem RepT.fz {x : Value} {y : TV} (r : RepT F σ w x y) : RepT F σ w x (y.fz h es) := by
  cases y with
  | c y => exact RepC.fz hd r
  | agg l => obtain ⟨cs, h1, h2, h3⟩ := r; exact ⟨cs, h1, by simpa using h2, fun i hi => by simpa using RepC.fz hd (h3 i (by simpa using hi))⟩
theorem RepS.fz {x : Value} {y : SV} (r : RepS F σ w x y) : RepS F σ w x (y.fz h es) := by
  cases y with
  | t y => exact RepT.fz hd r
  | tup l => obtain ⟨cs, h1, h2, h3⟩ := r; exact ⟨cs, h1, by simpa using h2, fun i hi => by simpa using RepT.fz hd (h3 i (by simpa using hi))⟩
  | any => trivial
theorem ObjOK.fz {x : Value} {X : Nat → Prop} {o : LObj} (r : ObjOK F σ w x X o) : ObjOK F σ w x X (o.fz h es) := by
  cases o with
  | cells t cs => obtain ⟨c, vs, h1, h2, h3, h4, h5⟩ := r; exact ⟨c, vs, h1, h2, h3, by simpa using h4, fun i hi => by simpa using RepC.fz hd (h5 i (by simpa using hi))⟩
  | arr => exact r
  | it => exact r
  | opq => exact r
end

/-- What an array holds, as data. -/
theorem arr_data {F : Nat → Prop} {σ : Nat → Value} {w : World} {x : Value} {X : Nat → Prop} {e sz bytes : Nat} {es : List (List DV)} (h : ObjOK F σ w x X (.arr e sz bytes es)) : RepD (fun k => F k ∨ X k) w x (.sl es) := by
  obtain ⟨xs, h1, h2, h3, _, h5⟩ := h
  have hmono : ∀ {x y}, RepD F w x y → RepD (fun k => F k ∨ X k) w x y := fun r => RepD.mono (fun _ h => .inl h) (fun _ _ => rfl) r
  rcases h1.2 with ⟨rfl, h0⟩ | ⟨g, cap, cur, rfl, _, hh, h6, h7, h8, h9⟩
  · obtain rfl : es = [] := List.eq_nil_of_length_eq_zero h0
    exact RepD.sl none 0 sz [] (fun _ _ => undef) (Nat.le_refl _) (by simp) (by simp) (fun h => by simp at h) (fun _ => rfl) (fun i h => by simp at h)
  · refine RepD.sl (some ⟨g, 0, none⟩) cap sz es (fun i j => xs.getD (i * sz + j) undef) h6 h7 h3 (fun _ => ⟨g, 0, rfl, .inr ((h2 g).2 rfl), fun i j hi hj => ?_⟩) (fun e => by cases e) fun i hi j hj => hmono (h5 i hi j hj)
    have hmul : (i + 1) * sz ≤ es.length * sz := Nat.mul_le_mul_right _ hi
    have hlt : i * sz + j < es.length * sz := by rw [Nat.add_mul, Nat.one_mul] at hmul; omega
    rw [Nat.zero_add, cell_of_row w g _ cur _ _ hh]
    have hx2 : xs[i * sz + j]? = cur[i * sz + j]? := by rw [← h9, List.getElem?_take_of_lt hlt]; simp
    rw [← hx2]
    have hl := h1.1
    simp [show i * sz + j < xs.length by omega]

theorem Rel.fz {G : Gh} {S S' : St} {a : Act} {w : World} {h : Nat} (hR : Rel G S a w) (hs : S.fz h = some S') : Rel G S' a w := by
  obtain ⟨F, σ, X, r⟩ := hR
  unfold St.fz at hs
  split at hs
  · rename_i e sz bytes es ho
    obtain rfl := Option.some.inj hs
    have hok := r.oks.ok h _ ho
    have hd := arr_data hok
    have hF : ∀ b, F b → F b ∨ X h b := fun _ h => .inl h
    have hcut : ∀ k o, look (cut S.objs h) k = some o → h ≠ k ∧ look S.objs k = some o := fun k o e => by
      rw [look_cut] at e
      by_cases c : h = k
      · simp [c] at e
      · simp only [c, if_false] at e; exact ⟨c, e⟩
    have hob : ∀ k o, look (fzO h es (cut S.objs h)) k = some o → ∃ y, h ≠ k ∧ look S.objs k = some y ∧ o = y.fz h es := fun k o e => by
      obtain ⟨y, h1, h2⟩ := look_fzO e
      obtain ⟨c, h3⟩ := hcut k y h1
      exact ⟨y, c, h3, h2⟩
    refine ⟨fun k => F k ∨ X h k, σ, X, r.defers, r.size, fun i sv e => ?_, ⟨fun k o e => ?_, fun k k' o o' e e' hne => ?_, fun k o e => ?_⟩, r.sig0, fun k o e => ?_, fun k hk => ?_, fun k hk => .inl (r.frz0 k hk), r.grow, r.same, r.os, r.tape, r.output⟩
    · obtain ⟨y, h1, rfl⟩ := look_fzS e
      exact RepS.fz hd (RepS.mono hF (fun _ _ => rfl) (fun _ _ => rfl) (r.slots i y h1))
    · obtain ⟨y, _, h1, rfl⟩ := hob k o e
      exact ObjOK.fz hd (ObjOK.mono hF (fun _ _ => rfl) (fun _ _ => rfl) (r.oks.ok k y h1))
    · obtain ⟨y, _, h1, rfl⟩ := hob k o e
      obtain ⟨y', _, h1', rfl⟩ := hob k' o' e'
      exact r.oks.apart k k' y y' h1 h1' hne
    · obtain ⟨y, c, h1, rfl⟩ := hob k o e
      intro j hj
      obtain ⟨h2, h3⟩ := r.oks.live k y h1 j hj
      exact ⟨h2, fun h4 => h4.elim h3 fun h5 => r.oks.apart h k _ y ho h1 c j h5 hj⟩
    · obtain ⟨y, _, h1, rfl⟩ := hob k o e
      exact r.foot k y h1
    · rcases hk with hk | hk
      · exact r.frz k hk
      · exact ⟨(r.oks.live h _ ho k hk).1, (r.foot h _ ho k hk).elim (fun h => .inr (.inl h)) fun h => .inr (.inr h)⟩
  · cases hs
theorem awp_fz {P : Program} {G : Gh} {c : Code} {Q : Exit → St → Prop} {S S' : St} {h : Nat} (hs : S.fz h = some S') (hw : AWp P G c Q S') : AWp P G c Q S := fun a w hR => hw a w (hR.fz hs)

/-! ### Calls -/
/-- A function that is entered when it is called. -/
def Ent (P : Program) (f : FuncId) : Prop := ∃ fn, P.funcs[f]? = some fn ∧ fn.body.isNone = false ∧ (fn.name == "runtime.NumGoroutine") = false

/-- What is told of a function: at arguments that represent 'args', in a world with the objects of l, it returns what represents 'res', and leaves the objects of l'. -/
def Sat (P : Program) (f : FuncId) (args : List SV) (l : Objs) (res : SV) (l' : Objs) : Prop :=
  Ent P f ∧ ∀ (F : Nat → Prop) (σ : Nat → Value) (X : Nat → Nat → Prop) (w : World) (vs : Array Value), vs.size = args.length → (∀ i (h : i < args.length), RepS F σ w (vs.getD i undef) args[i]) → OKs F σ X w l → (∀ k, F k → k < w.heap.size) →
    Calls P f vs w fun e w' => ∃ v, e = .returned v ∧ ∃ F' σ' X', RepS F' σ' w' v res ∧ OKs F' σ' X' w' l' ∧ Post l l' F σ X w F' σ' X' w'

theorem Reps.get {F : Nat → Prop} {σ : Nat → Value} {w : World} {a : Act} : ∀ {xs : List Operand} {ss : List SV}, Reps F σ w a xs ss → xs.length = ss.length ∧ ∀ i (h : i < ss.length), ∃ x, xs[i]? = some x ∧ RepS F σ w (a.eval x) ss[i]
  | [], [], _ => ⟨rfl, fun i h => by simp at h⟩
  | x :: xs, s :: ss, ⟨h1, h2⟩ => by
    obtain ⟨h3, h4⟩ := Reps.get h2
    refine ⟨by simp [h3], fun i hi => ?_⟩
    cases i with
    | zero => exact ⟨x, rfl, h1⟩
    | succ i =>
      obtain ⟨y, h5, h6⟩ := h4 i (by simpa using hi)
      exact ⟨y, by simpa using h5, by simpa using h6⟩

def fnv (f : FuncId) : SV := sc (.func (.func f) #[] #[])

theorem tri_call {P : Program} {f : FuncId} {g : Operand} {as : Array Operand} {ats : Array TypeId} {t : TypeId} {args : List SV} {l l' : Objs} {res : SV} (h : Sat P f args l res l') :
    Tri P (mkO (.call { callee := .value g, args := as, argTypes := ats }) t) (fnv f :: args) l res l' := by
  intro F σ X w a hr hok hF
  obtain ⟨⟨fn, hf, hb, hn⟩, hc⟩ := h
  have hops : (mkO (.call { callee := .value g, args := as, argTypes := ats }) t).op.operands.toList = g :: as.toList := by simp [mkO, Op.operands, Call.operands]
  rw [hops] at hr
  obtain ⟨h1, h2⟩ := hr
  have hg : a.eval g = .func (.func f) #[] #[] := scal_rep h1 rfl
  have hrun : (execOp a.eval (mkO (.call { callee := .value g, args := as, argTypes := ats }) t)).run P w = .ok (.enter f (as.map a.eval)) w := by
    simp only [execOp, mkO, resolve, hg, Deferred.ofValue, Sem.run_bind, Sem.run_pure, Result.andThen_ok, invoke, callFunc, program, Sem.run, hf, hn, hb]
    simp
  rw [hrun]
  obtain ⟨h3, h4⟩ := h2.get
  refine Calls.mono (hc F σ X w (as.map a.eval) (by simpa using h3) (fun i hi => ?_) hok hF) fun e w' he => he
  obtain ⟨x, h5, h6⟩ := h4 i hi
  have h5' : as[i]? = some x := by simpa using h5
  simpa [h5'] using h6
end Go.E
