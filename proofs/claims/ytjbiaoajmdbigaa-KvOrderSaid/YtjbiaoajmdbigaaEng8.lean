/- A logic over abstract states. Part 8: a region's operations, in the order of the text. -/
import Derived.Test.YtjbiaoajmdbigaaEng7
set_option linter.unusedVariables false
set_option linter.unusedSimpArgs false
namespace Go.E
open Go

/-- What is said of an operation that has a proof of its own: the objects on which it works, what it yields, the objects behind it (none, if it only reads). -/
structure Hint where
  keys : List Nat
  res : SV
  objs : Option Objs

inductive Info where
  | skip
  | read (vals : List SV) (l : Objs) (res : SV)
  | run (vals : List SV) (l : Objs) (res : SV) (l' : Objs)

def gather (objs : Objs) : List Nat → Option Objs
  | [] => some []
  | h :: r => match look objs h, gather objs r with
    | some o, some l => some ((h, o) :: l)
    | _, _ => none
theorem gather_look {objs : Objs} : ∀ {ks : List Nat} {l : Objs}, gather objs ks = some l → ∀ h o, look l h = some o → look objs h = some o
  | [], l, e, h, o, hl => by simp only [gather, Option.some.injEq] at e; subst e; simp [look] at hl
  | k :: ks, l, e, h, o, hl => by
    simp only [gather] at e
    cases e1 : look objs k with
    | none => simp [e1] at e
    | some x =>
      cases e2 : gather objs ks with
      | none => simp [e1, e2] at e
      | some r =>
        simp only [e1, e2, Option.some.injEq] at e
        subst e
        by_cases c : k = h
        · subst c; simp only [look, Nat.beq_refl, cond_true, Option.some.injEq] at hl; subst hl; exact e1
        · simp only [look, beq_false c, cond_false] at hl; exact gather_look e2 h o hl

def wantedA (S : St) (ops : List Oper) (o : Oper) : Option Bool :=
  match o.guard with
  | none => some true
  | some (j, want) => match ops[j]? with
    | some oj => match oj.dst with
      | some d => match look S.slots d with
        | some (.t (.c (.d (.v (.bool b))))) => some (b == want)
        | some (.tup _) => some false
        | _ => none
      | none => none
    | none => none

theorem wantedA_eq {S : St} {ops : List Oper} {o : Oper} {b : Bool} (h : wantedA S ops o = some b) {G : Gh} {a : Act} {w : World} (hR : Rel G S a w) : Region.wanted o (yielded ops.toArray a.tmps) = b := by
  unfold wantedA at h
  unfold Region.wanted
  split at h
  · rename_i hg; rw [hg]; exact Option.some.inj h
  · rename_i j want hg
    rw [hg]
    split at h
    · rename_i oj hj
      split at h
      · rename_i d hd
        split at h
        · rename_i v hv
          obtain ⟨F, σ, X, r⟩ := hR
          have hx : a.tmps.getD d undef = .bool v := scal_rep (r.slots d _ hv) rfl
          have hx' : a.tmps[d]? = some (.bool v) := by
            rw [Array.getD_eq_getD_getElem?] at hx
            cases e : a.tmps[d]? with
            | none => rw [e] at hx; cases hx
            | some u => rw [e] at hx; simpa using hx
          have hy : yielded ops.toArray a.tmps j = some v := by
            unfold yielded
            simp [hj, hd, hx']
          rw [← Option.some.inj h]
          simp only [hy]
          cases v <;> cases want <;> rfl
        · rename_i l hv
          obtain ⟨F, σ, X, r⟩ := hR
          obtain ⟨cs, hx, _⟩ := (show RepS F σ w (a.tmps.getD d undef) (.tup l) from r.slots d _ hv)
          have hy : yielded ops.toArray a.tmps j = none := by
            unfold yielded
            rw [Array.getD_eq_getD_getElem?] at hx
            cases e : a.tmps[d]? with
            | none => simp [hj, hd, e]
            | some u => rw [e] at hx; simp only [Option.getD_some] at hx; subst hx; simp [hj, hd, e]
          rw [← Option.some.inj h]
          simp [hy]
        · cases h
      · cases h
    · cases h

def coreI (P : Program) (T : Tab) (D : List Nat) (o : Oper) (vals : List SV) (ob : Nat → Option LObj) (n : Nat) : Option Info :=
  match readCore T o vals ob with
  | some (l, res) => some (.read vals l res)
  | none => match special T D o vals ob n with
    | some (l, res, l') => some (.run vals l res l')
    | none => match scalarCore P o vals with
      | some (l, res, l') => some (.run vals l res l')
      | none => none

def runOne (P : Program) (T : Tab) (D : List Nat) (ops : List Oper) (hints : List (Nat × Hint)) (i : Nat) (o : Oper) (S : St) : Option Info :=
  match wantedA S ops o with
  | some false => some .skip
  | some true => match look hints i with
    | some h => match gather S.objs h.keys with
      | some l => match h.objs with
        | some l' => some (.run (opvs S o.op.operands.toList) l h.res l')
        | none => some (.read (opvs S o.op.operands.toList) l h.res)
      | none => none
    | none => coreI P T D o (opvs S o.op.operands.toList) (look S.objs) (o.dst.getD 0)
  | none => none

/-- May the new names be taken? -/
def freshIn (S : St) (l l' : Objs) : Bool := l'.all fun p => (look l p.1).isSome || !S.has p.1
def inDst (S : St) (d : Option Nat) : Bool := match d with
  | some d => Nat.blt d S.n
  | none => true

def St.apply (S : St) (d : Option Nat) : Info → St
  | .skip => { S with slots := putD S.slots d (.tup []) }
  | .read _ _ res => { S with slots := putD S.slots d res }
  | .run _ l res l' => S.step d res l l'

def okInfo (S : St) (d : Option Nat) : Info → Bool
  | .skip => inDst S d
  | .read _ _ _ => inDst S d
  | .run _ l _ l' => inDst S d && freshIn S l l'

def runL (P : Program) (T : Tab) (D : List Nat) (ops : List Oper) (hints : List (Nat × Hint)) : Nat → List Oper → St → Option (St × List Info)
  | _, [], S => some (S, [])
  | i, o :: r, S => match runOne P T D ops hints i o S with
    | some inf => bif okInfo S o.dst inf then
        (match runL P T D ops hints (i + 1) r (S.apply o.dst inf) with
         | some (S', is) => some (S', inf :: is)
         | none => none)
      else none
    | none => none

/-- What is owed: of each operation that has a proof of its own. -/
structure Ob where
  op : Op
  type : TypeId
  vals : List SV
  l : Objs
  res : SV
  l' : Objs
def mkO (op : Op) (t : TypeId) : Oper := { dst := none, op := op, type := t, pos := "", after := #[], guard := none }
def Ob.holds (P : Program) (x : Ob) : Prop := Tri P (mkO x.op x.type) x.vals x.l x.res x.l'
def obsOf (hints : List (Nat × Hint)) : Nat → List Oper → List Info → List Ob
  | i, o :: r, inf :: is => match look hints i, inf with
    | some _, .read vals l res => ⟨o.op, o.type, vals, l, res, l⟩ :: obsOf hints (i + 1) r is
    | some _, .run vals l res l' => ⟨o.op, o.type, vals, l, res, l'⟩ :: obsOf hints (i + 1) r is
    | _, _ => obsOf hints (i + 1) r is
  | _, _, _ => []
def AllHold (P : Program) : List Ob → Prop
  | [] => True
  | x :: r => x.holds P ∧ AllHold P r

def Info.good (P : Program) (o : Oper) : Info → Prop
  | .skip => True
  | .read vals l res => Tri P o vals l res l
  | .run vals l res l' => Tri P o vals l res l'

/-- What an information tells of the state in which it was got. -/
def Info.fits (S : St) (o : Oper) : Info → Prop
  | .skip => True
  | .read vals l _ => vals = opvs S o.op.operands.toList ∧ ∀ h x, look l h = some x → look S.objs h = some x
  | .run vals l _ _ => vals = opvs S o.op.operands.toList ∧ ∀ h x, look l h = some x → look S.objs h = some x

theorem coreI_good {P : Program} {T : Tab} (hT : TabOK P T) {D : List Nat} {o : Oper} {S : St} {n : Nat} {inf : Info} (h : coreI P T D o (opvs S o.op.operands.toList) (look S.objs) n = some inf) : inf.good P o ∧ inf.fits S o := by
  unfold coreI at h
  split at h
  · rename_i l res hr
    obtain rfl := Option.some.inj h
    obtain ⟨h1, h2⟩ := readCore_tri hT hr
    exact ⟨h1, rfl, h2⟩
  · split at h
    · rename_i l res l' hr
      obtain rfl := Option.some.inj h
      obtain ⟨h1, h2⟩ := special_tri hT hr
      exact ⟨h1, rfl, h2⟩
    · split at h
      · rename_i l res l' hr
        obtain rfl := Option.some.inj h
        obtain ⟨h1, rfl⟩ := scalarCore_tri hr
        exact ⟨h1, rfl, fun _ _ e => (look_nil e).elim⟩
      · cases h

theorem runOne_good {P : Program} {T : Tab} (hT : TabOK P T) {D : List Nat} {ops : List Oper} {hints : List (Nat × Hint)} {i : Nat} {o : Oper} {S : St} {inf : Info} (h : runOne P T D ops hints i o S = some inf)
    (hg : ∀ x, look hints i = some x → inf.good P o) : inf.good P o ∧ inf.fits S o ∧ (wantedA S ops o = some false ∧ inf = .skip ∨ wantedA S ops o = some true ∧ inf ≠ .skip) := by
  unfold runOne at h
  split at h
  · rename_i hw
    obtain rfl := Option.some.inj h
    exact ⟨trivial, trivial, .inl ⟨hw, rfl⟩⟩
  · rename_i hw
    split at h
    · rename_i x hx
      have hg' := hg x hx
      split at h
      · rename_i l hl
        split at h <;> obtain rfl := Option.some.inj h <;> exact ⟨hg', ⟨rfl, gather_look hl⟩, .inr ⟨hw, by simp⟩⟩
      · cases h
    · obtain ⟨h1, h2⟩ := coreI_good hT h
      refine ⟨h1, h2, .inr ⟨hw, fun e => ?_⟩⟩
      subst e
      unfold coreI at h
      split at h
      · cases h
      · split at h
        · cases h
        · split at h <;> cases h
  · cases h

theorem put_rel {P : Program} {G : Gh} {S : St} {o : Oper} {l : Objs} {res : SV} {a : Act} {w : World} (hT : Tri P o (opvs S o.op.operands.toList) l res l)
    (hd : ∀ d, o.dst = some d → d < S.n) (hl : ∀ h o, look l h = some o → look S.objs h = some o) (hR : Rel G S a w)
    {K : Act → World → Prop} {Q : Exit → Act → World → Prop} (hK : ∀ a' w', Rel G { S with slots := putD S.slots o.dst res } a' w' → K a' w') : o.wp P a w K Q :=
  step_rel hT hd hl (fun h x e => .inl (by rw [e]; simp)) hR fun a' w' h => hK a' w' (h.like ⟨rfl, rfl, fun _ => rfl, fun k => by
    show look (app l (cuts S.objs l)) k = look S.objs k
    rw [look_app, look_cuts]
    cases e : look l k with
    | none => simp
    | some x => exact (hl k x e).symm⟩)

theorem inDst_lt {S : St} {d : Option Nat} (h : inDst S d = true) : ∀ k, d = some k → k < S.n := fun k e => by
  subst e
  simp only [inDst, Nat.blt] at h
  exact Nat.le_of_ble_eq_true h

theorem freshIn_spec {S : St} {l l' : Objs} (h : freshIn S l l' = true) : ∀ k o, look l' k = some o → look l k ≠ none ∨ S.has k = false := fun k o e => by
  unfold freshIn at h
  rw [List.all_eq_true] at h
  have := h _ (look_mem e)
  simp only [Bool.or_eq_true, Bool.not_eq_true'] at this
  rcases this with h1 | h1
  · left; intro e2; rw [e2] at h1; cases h1
  · exact .inr h1

/-- One operation, by what was found of it in this very state or in one that tells the same of what it looks at. -/
theorem info_wp {P : Program} {ops : List Oper} {G : Gh} {S : St} {o : Oper} {inf : Info} {i : Nat} (hi : ops[i]? = some o) (hg : inf.good P o) (hf : inf.fits S o) (hw : wantedA S ops o = some false ∧ inf = .skip ∨ wantedA S ops o = some true ∧ inf ≠ .skip)
    (hok : okInfo S o.dst inf = true) {a : Act} {w : World} (hR : Rel G S a w) {K : Act → World → Prop} {Q : Exit → Act → World → Prop} (hK : ∀ a' w', Rel G (S.apply o.dst inf) a' w' → K a' w') : wpOp P ops.toArray Q i K a w := by
  unfold wpOp
  simp only [List.getElem?_toArray, hi]
  rcases hw with ⟨hw, rfl⟩ | ⟨hw, hne⟩
  · rw [if_neg (by rw [wantedA_eq hw hR]; simp)]
    exact hK _ _ (skip_rel hR o.dst (inDst_lt hok))
  · rw [if_pos (wantedA_eq hw hR)]
    left
    cases inf with
    | skip => exact absurd rfl hne
    | read vals l res =>
      obtain ⟨rfl, hl⟩ := hf
      exact put_rel hg (inDst_lt hok) hl hR hK
    | run vals l res l' =>
      obtain ⟨rfl, hl⟩ := hf
      simp only [okInfo, Bool.and_eq_true] at hok
      exact step_rel hg (inDst_lt hok.1) hl (freshIn_spec hok.2) hR hK

/-- What was found of the operations from i on is good, if what is owed holds. -/
theorem obs_good {P : Program} {T : Tab} {D : List Nat} {ops : List Oper} {hints : List (Nat × Hint)} : ∀ {r : List Oper} {i : Nat} {S S' : St} {is : List Info}, runL P T D ops hints i r S = some (S', is) → AllHold P (obsOf hints i r is) →
    ∀ k o inf x, r[k]? = some o → is[k]? = some inf → look hints (i + k) = some x → inf.good P o
  | [], i, S, S', is, h, _, k, o, inf, x, ho, _, _ => by simp at ho
  | o0 :: r, i, S, S', is, h, hh, k, o, inf, x, ho, hinf, hx => by
    simp only [runL] at h
    split at h
    · rename_i i0 h0
      cases hok : okInfo S o0.dst i0 with
      | false => simp [hok] at h
      | true =>
        simp only [hok, cond_true] at h
        split at h
        · rename_i S2 is2 hr
          simp only [Option.some.injEq, Prod.mk.injEq] at h
          obtain ⟨rfl, rfl⟩ := h
          cases k with
          | zero =>
            simp only [List.getElem?_cons_zero, Option.some.injEq] at ho hinf
            subst ho hinf
            simp only [Nat.add_zero] at hx
            simp only [obsOf, hx] at hh
            cases i0 with
            | skip => trivial
            | read vals l res => exact tri_congr rfl rfl hh.1
            | run vals l res l' => exact tri_congr rfl rfl hh.1
          | succ k =>
            simp only [List.getElem?_cons_succ] at ho hinf
            refine obs_good hr ?_ k o inf x ho hinf (by rw [← hx]; congr 1; omega)
            simp only [obsOf] at hh
            split at hh
            · exact hh.2
            · exact hh.2
            · exact hh
        · cases h
    · cases h

/-- A region that keeps the order of the text. -/
theorem runL_wp {P : Program} {T : Tab} (hT : TabOK P T) {D : List Nat} {ops : List Oper} {hints : List (Nat × Hint)} {G : Gh} {Q : Exit → Act → World → Prop} :
    ∀ {r : List Oper} {i : Nat} {S S' : St} {is : List Info}, runL P T D ops hints i r S = some (S', is) → (∀ k o inf x, r[k]? = some o → is[k]? = some inf → look hints (i + k) = some x → inf.good P o) → (∀ k, r[k]? = ops[i + k]?) →
      ∀ {a w}, Rel G S a w → (∀ a' w', Rel G S' a' w' → Q .normal a' w') → wpOps P ops.toArray Q (List.range' i r.length) a w
  | [], i, S, S', is, h, _, _, a, w, hR, hQ => by
    simp only [runL, Option.some.injEq, Prod.mk.injEq] at h
    obtain ⟨rfl, rfl⟩ := h
    exact hQ a w hR
  | o :: r, i, S, S', is, h, hh, hops, a, w, hR, hQ => by
    simp only [runL] at h
    split at h
    · rename_i i0 h0
      cases hok : okInfo S o.dst i0 with
      | false => simp [hok] at h
      | true =>
        simp only [hok, cond_true] at h
        split at h
        · rename_i S2 is2 hr
          simp only [Option.some.injEq, Prod.mk.injEq] at h
          obtain ⟨rfl, rfl⟩ := h
          have hi : ops[i]? = some o := by simpa using (hops 0).symm
          obtain ⟨g1, g2, g3⟩ := runOne_good hT h0 (fun x hx => hh 0 o i0 x rfl rfl (by simpa using hx))
          rw [List.length_cons, List.range'_succ, wpOps_cons]
          refine info_wp hi g1 g2 g3 hok hR fun a' w' hR' => ?_
          exact runL_wp hT hr (fun k o' inf x e1 e2 e3 => hh (k + 1) o' inf x (by simpa using e1) (by simpa using e2) (by rw [← e3]; congr 1; omega)) (fun k => by
            have := hops (k + 1)
            simpa [Nat.add_assoc, Nat.add_comm 1] using this) hR' hQ
        · cases h
    · cases h
end Go.E
