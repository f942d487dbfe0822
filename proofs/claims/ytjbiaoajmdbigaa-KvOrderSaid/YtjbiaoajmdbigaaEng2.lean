/- A logic over abstract states. Part 2: the operations that need no proof of their own. -/
import Derived.Test.YtjbiaoajmdbigaaEng1
import Derived.Laws.CopyRow
import Derived.Laws.Rows
set_option linter.unusedVariables false
set_option linter.unusedSimpArgs false
namespace Go.E
open Go

/-! ### What is told of types -/
structure TI where
  kind : Nat
  agg : Bool
  size : Nat
  bytes : Nat
  zero : Option (List Value)
  elem : Option Nat
  places : Option (List (Nat × Nat))
  ftypes : List Nat
  arr : Option (Nat × Nat)

def aggD : TypeDesc → Bool
  | .struct _ | .array _ _ => true
  | _ => false
def kindD : TypeDesc → Nat
  | .pointer _ => 1
  | .slice _ => 2
  | .map _ _ => 3
  | .string => 4
  | .interface _ => 5
  | .func _ _ _ => 6
  | _ => 0
def tiOf (P : Program) (t : TypeId) : Option TI :=
  match P.info? t, P.underlying t with
  | some i, some d => some {
      kind := kindD d, agg := aggD d, size := i.size, bytes := i.bytes, zero := i.zero.map (·.cells.toList)
      elem := match d with | .slice e => some e | _ => none
      places := match d with | .struct fs => fs.toList.mapM (fun f => (P.info? f.type).map fun i => (f.offset, i.size)) | _ => none
      ftypes := match d with | .struct fs => fs.toList.map (·.type) | _ => []
      arr := match d with | .array n e => some (n, e) | _ => none }
  | _, _ => none
abbrev Tab := List (Nat × TI)
def TabOK (P : Program) (T : Tab) : Prop := ∀ t ti, look T t = some ti → tiOf P t = some ti
def TabAll (P : Program) : Tab → Prop
  | [] => True
  | (t, ti) :: r => tiOf P t = some ti ∧ TabAll P r
theorem TabAll.ok {P : Program} : ∀ {T : Tab}, TabAll P T → TabOK P T
  | [], _ => fun t ti h => by simp [look] at h
  | (u, x) :: r, ⟨h1, h2⟩ => fun t ti h => by
    by_cases e : u = t
    · subst e
      simp only [look, Nat.beq_refl, cond_true, Option.some.injEq] at h
      subst h; exact h1
    · simp only [look, beq_false e, cond_false] at h
      exact h2.ok t ti h

theorem places_at {P : Program} : ∀ {fs : List Field} {pl : List (Nat × Nat)}, fs.mapM (fun f => (P.info? f.type).map fun i => (f.offset, i.size)) = some pl → ∀ {k off sz : Nat}, pl[k]? = some (off, sz) →
    ∃ f i, fs[k]? = some f ∧ P.info? f.type = some i ∧ f.offset = off ∧ i.size = sz
  | [], pl, h, k, off, sz, hk => by simp at h; subst h; simp at hk
  | f :: fs, pl, h, k, off, sz, hk => by
    simp only [List.mapM_cons, Option.bind_eq_bind, Option.pure_def] at h
    cases hi : P.info? f.type with
    | none => simp [hi] at h
    | some i =>
      cases hr : fs.mapM (fun f => (P.info? f.type).map fun i => (f.offset, i.size)) with
      | none => simp [hi, hr] at h
      | some rest =>
        simp [hi, hr] at h
        subst h
        cases k with
        | zero =>
          simp only [List.getElem?_cons_zero, Option.some.injEq, Prod.mk.injEq] at hk
          exact ⟨f, i, rfl, hi, hk.1, hk.2⟩
        | succ k =>
          obtain ⟨g, j, h1, h2⟩ := places_at hr (k := k) (by simpa using hk)
          exact ⟨g, j, by simpa using h1, h2⟩

section
variable {P : Program} {t : TypeId} {ti : TI} (h : tiOf P t = some ti)
include h
theorem ti_parts : ∃ i d, P.info? t = some i ∧ P.underlying t = some d ∧ ti.agg = aggD d ∧ ti.size = i.size ∧ ti.bytes = i.bytes ∧ ti.zero = i.zero.map (·.cells.toList) ∧
    (∀ e, ti.elem = some e → d = .slice e) ∧ (∀ pl, ti.places = some pl → ∃ fs : Array Field, d = .struct fs ∧ fs.toList.mapM (fun f => (P.info? f.type).map fun i => (f.offset, i.size)) = some pl ∧ ti.ftypes = fs.toList.map (·.type)) ∧ (∀ n e, ti.arr = some (n, e) → d = .array n e) ∧ ti.kind = kindD d := by
  unfold tiOf at h
  split at h
  · rename_i i d hi hd
    obtain rfl := Option.some.inj h
    refine ⟨i, d, hi, hd, rfl, rfl, rfl, rfl, fun e he => ?_, fun pl hp => ?_, fun n e he => ?_, rfl⟩
    · cases d <;> simp_all
    · cases d <;> first | (cases hp; done) | exact ⟨_, rfl, hp, rfl⟩
    · cases d <;> simp_all
  · cases h
theorem run_sizeOf_ti (w : World) : (sizeOf t).run P w = .ok ti.size w := by
  obtain ⟨i, d, hi, _, _, hs, _⟩ := ti_parts h
  simp [sizeOf, typeInfo, hi, hs]
theorem run_isAgg_ti (w : World) : (isAgg t).run P w = .ok ti.agg w := by
  obtain ⟨i, d, _, hd, ha, _⟩ := ti_parts h
  unfold isAgg
  rw [Sem.run_bind, run_underlying hd w, ha]
  cases d <;> rfl
theorem run_zero_ti (w : World) {z : List Value} (hz : ti.zero = some z) : ∃ v : Value, (zeroValue t).run P w = .ok v w ∧ v.cells.toList = z := by
  obtain ⟨i, d, hi, _, _, _, _, hzz, _⟩ := ti_parts h
  rw [hz] at hzz
  cases hv : i.zero with
  | none => rw [hv] at hzz; cases hzz
  | some v =>
    rw [hv] at hzz
    refine ⟨v, by simp [zeroValue, typeInfo, hi, hv], ?_⟩
    simpa using hzz.symm
end

theorem add_none (b off j : Nat) : (⟨b, off, none⟩ : Addr).add j = ⟨b, off + j, none⟩ := by unfold Addr.add; split <;> simp_all

theorem run_loadVar_ti {P : Program} {t : TypeId} {ti : TI} (h : tiOf P t = some ti) (w : World) (b off : Nat) (val : Nat → Value) (hc : ∀ j, j < ti.size → w.cell? ⟨b, off + j, none⟩ = some (val j)) (h0 : ti.agg = false → 0 < ti.size) :
    (loadVar t ⟨b, off, none⟩).run P w = .ok (if ti.agg then .agg ((List.range ti.size).map val).toArray else val 0) w := by
  have hl := run_loadCells_list (P := P) w ⟨b, off, none⟩ ((List.range ti.size).map val) (fun j v hv => by
    rw [add_none]
    have hj : j < ti.size := by
      have := (List.getElem?_eq_some_iff.1 hv).1
      simpa using this
    rw [hc j hj]
    simpa [hj] using hv)
  simp only [List.length_map, List.length_range] at hl
  simp only [loadVar, Sem.run_bind, run_isAgg_ti h, Result.andThen_ok]
  cases ha : ti.agg with
  | true => simp [run_sizeOf_ti h, hl]
  | false =>
    have hc0 : w.cell? ⟨b, off, none⟩ = some (val 0) := by simpa using hc 0 (h0 ha)
    simp [load, Sem.run, hc0]

/-! ### The operations -/
def scal : SV → Option Value
  | .t (.c (.d (.v x))) => some x
  | _ => none
def sc (x : Value) : SV := .t (.c (.d (.v x)))
def scals : List SV → Option (List Value)
  | [] => some []
  | x :: r => match scal x, scals r with
    | some v, some l => some (v :: l)
    | _, _ => none
def tv : List Operand → List Value → Nat → Option Value
  | .tmp a :: xs, v :: vs, t => bif Nat.beq a t then some v else tv xs vs t
  | _ :: xs, _ :: vs, t => tv xs vs t
  | _, _, _ => none
def asg (l : List Operand) (vs : List Value) : Operand → Value
  | .tmp t => (tv l vs t).getD undef
  | .const v => v
  | .global g => .pointer (some ⟨g, 0, none⟩)
  | .func f => .func (.func f) #[] #[]
def runP (P : Program) {α : Type} : Sem α → Option α
  | .pure a => some a
  | .program k => runP P (k P)
  | _ => none
theorem runP_run {P : Program} {α : Type} {s : Sem α} {a : α} (h : runP P s = some a) (w : World) : s.run P w = .ok a w := by
  induction s with
  | pure b => simp only [runP, Option.some.injEq] at h; subst h; rfl
  | program k ih => simp only [runP] at h; simp only [Sem.run]; exact ih _ h
  | _ => simp [runP] at h

theorem scal_rep {F : Nat → Prop} {σ : Nat → Value} {w : World} {x v : Value} {s : SV} (h : RepS F σ w x s) (hs : scal s = some v) : x = v := by
  unfold scal at hs
  split at hs
  · obtain rfl := Option.some.inj hs
    cases (show RepD F w x (.v _) from h)
    rfl
  · cases hs
theorem asg_eq {F : Nat → Prop} {σ : Nat → Value} {w : World} {a : Act} : ∀ {l : List Operand} {ss : List SV} {vs : List Value}, Reps F σ w a l ss → scals ss = some vs → ∀ t, .tmp t ∈ l → tv l vs t = some (a.eval (.tmp t))
  | [], [], vs, _, _, t, h => by cases h
  | x :: l, s :: ss, vs, ⟨hx, hr⟩, hs, t, hm => by
    simp only [scals] at hs
    cases e1 : scal s with
    | none => simp [e1] at hs
    | some v =>
      cases e2 : scals ss with
      | none => simp [e1, e2] at hs
      | some l' =>
        simp only [e1, e2, Option.some.injEq] at hs
        subst hs
        have hv := scal_rep hx e1
        have ih := asg_eq hr e2 t
        cases x with
        | tmp b =>
          by_cases hb : b = t
          · subst hb; simp [tv, hv]
          · simp only [tv, beq_false hb, cond_false]
            exact ih (by simpa [Ne.symm hb] using hm)
        | const u => simp only [tv]; exact ih (by simpa using hm)
        | global u => simp only [tv]; exact ih (by simpa using hm)
        | func u => simp only [tv]; exact ih (by simpa using hm)

def noSel : Op → Bool
  | .select _ _ => false
  | _ => true

theorem OKs.nil {F : Nat → Prop} {σ : Nat → Value} {X : Nat → Nat → Prop} {w : World} : OKs F σ X w [] := ⟨fun h o e => by simp [look] at e, fun h h' o o' e => by simp [look] at e, fun h o e => by simp [look] at e⟩
theorem Post.refl {l : Objs} {F : Nat → Prop} {σ : Nat → Value} {X : Nat → Nat → Prop} {w : World} : Post l l F σ X w F σ X w :=
  ⟨rfl, rfl, rfl, Nat.le_refl _, fun _ _ _ => rfl, fun _ h => h, fun _ h => .inl h, fun h o e _ hk => .inr ⟨h, o, e, hk⟩, fun _ _ => rfl⟩

/-- What an operation yields that leaves the world alone. -/
theorem tri_of_value {P : Program} {o : Oper} {vals : List SV} {l : Objs} {res : SV}
    (h : ∀ F σ X w a, Reps F σ w a o.op.operands.toList vals → OKs F σ X w l → ∃ v, (execOp a.eval o).run P w = .ok (.value v) w ∧ RepS F σ w v res) : Tri P o vals l res l := by
  intro F σ X w a hr hok _
  obtain ⟨v, h1, h2⟩ := h F σ X w a hr hok
  rw [h1]
  exact ⟨F, σ, X, h2, hok, .refl⟩

theorem tri_scalar {P : Program} {o : Oper} {vals : List SV} {vs : List Value} {r : Value} (h1 : r.oneCell' = true) (hn : noSel o.op = true) (hs : scals vals = some vs) (hp : runP P (execOp (asg o.op.operands.toList vs) o) = some (.value r)) : Tri P o vals [] (sc r) [] :=
  tri_of_value fun F σ X w a hr _ => ⟨r, by
    have he : execOp a.eval o = execOp (asg o.op.operands.toList vs) o := execOp_congr o (fun cs b e => by rw [e] at hn; cases hn) fun x hx => by
      cases x with
      | tmp t => simp only [asg]; rw [asg_eq hr hs t (by simpa using hx)]; rfl
      | const v => rfl
      | global g => rfl
      | func f => rfl
    rw [he]; exact runP_run hp w, RepD.v r h1⟩

theorem Reps.one {F : Nat → Prop} {σ : Nat → Value} {w : World} {a : Act} {x : Operand} {s : SV} (h : Reps F σ w a [x] [s]) : RepS F σ w (a.eval x) s := h.1

theorem tri_move {P : Program} {o : Oper} {x : Operand} {s : SV} (ho : o.op = .move x ∨ o.op = .assign x) : Tri P o [s] [] s [] :=
  tri_of_value fun F σ X w a hr _ => by
    rcases ho with ho | ho <;> rw [ho] at hr <;> exact ⟨a.eval x, by simp [execOp, ho], hr.1⟩

def pickV (b : Bool) (x y : SV) : SV :=
  match x, y with
  | .t (.c (.d (.v (.bool p)))), .t (.c (.d (.v (.bool q)))) => sc (.bool (bif b then p else q))
  | x, y => bif b then x else y
theorem pickV_rep {F : Nat → Prop} {σ : Nat → Value} {w : World} {u v : Value} {x y : SV} (b : Bool) (hx : RepS F σ w u x) (hy : RepS F σ w v y) : RepS F σ w (if b then u else v) (pickV b x y) := by
  cases b
  · simp only [Bool.false_eq_true, if_false]
    unfold pickV
    split
    · cases (show RepD F w v (.v _) from hy)
      exact RepD.v _ rfl
    · exact hy
  · simp only [if_true]
    unfold pickV
    split
    · cases (show RepD F w u (.v _) from hx)
      exact RepD.v _ rfl
    · exact hx
theorem tri_pick {P : Program} {o : Oper} {c x y : Operand} {b : Bool} {s t : SV} (ho : o.op = .pick c x y) : Tri P o [sc (.bool b), s, t] [] (pickV b s t) [] :=
  tri_of_value fun F σ X w a hr _ => by
    rw [ho] at hr
    obtain ⟨h1, h2, h3, _⟩ := hr
    have hc : a.eval c = .bool b := scal_rep h1 rfl
    exact ⟨if b then a.eval x else a.eval y, by simp [execOp, ho, hc, asBool], pickV_rep b h2 h3⟩

theorem tri_extract {P : Program} {o : Oper} {x : Operand} {i : Nat} {l : List TV} {y : TV} (ho : o.op = .extract x i) (hy : l[i]? = some y) : Tri P o [.tup l] [] (.t y) [] :=
  tri_of_value fun F σ X w a hr _ => by
    rw [ho] at hr
    obtain ⟨cs, h1, h2, h3⟩ := hr.1
    obtain ⟨hi, rfl⟩ := List.getElem?_eq_some_iff.1 hy
    have hi' : i < cs.size := by omega
    refine ⟨cs.getD i undef, ?_, h3 i hi⟩
    simp [execOp, ho, h1, Instr.extract, hi']

/-! Pieces of structs -/
def piece (agg : Bool) (n : Nat) (cs : List CV) : Option TV :=
  bif agg then (bif Nat.ble n cs.length then some (.agg (cs.take n)) else none)
  else match cs with
    | c :: _ => some (.c c)
    | [] => none

theorem piece_rep {F : Nat → Prop} {σ : Nat → Value} {w : World} {agg : Bool} {n : Nat} {cs : List CV} {r : TV} (h : piece agg n cs = some r) (val : Nat → Value) (hr : ∀ i (h : i < cs.length), RepC F σ w (val i) cs[i]) :
    RepT F σ w (if agg then .agg ((List.range n).map val).toArray else val 0) r ∧ (agg = true → n ≤ cs.length) ∧ (agg = false → 0 < cs.length) := by
  unfold piece at h
  cases agg with
  | true =>
    cases e : Nat.ble n cs.length with
    | false => simp [e] at h
    | true =>
      have hn := Nat.le_of_ble_eq_true e
      simp only [e, cond_true, Option.some.injEq] at h
      subst h
      refine ⟨⟨_, rfl, by simp [hn], fun i hi => ?_⟩, fun _ => hn, fun h => by cases h⟩
      have hi' : i < n := by simp at hi; omega
      simpa [hi'] using hr i (by omega)
  | false =>
    cases cs with
    | nil => simp at h
    | cons c r' =>
      simp only [cond_false, Option.some.injEq] at h
      subst h
      exact ⟨(show RepC F σ w (val 0) c from hr 0 (by simp)), fun h => (by cases h), fun _ => by simp⟩
end Go.E
