/- A logic over abstract states. Part 7: operations one behind the other. -/
import Derived.Test.YtjbiaoajmdbigaaEng6
set_option linter.unusedVariables false
set_option linter.unusedSimpArgs false
namespace Go.E
open Go

theorem tri_congr {P : Program} {o o' : Oper} {vals : List SV} {l l' : Objs} {res : SV} (h1 : o.op = o'.op) (h2 : o.type = o'.type) (h : Tri P o vals l res l') : Tri P o' vals l res l' := by
  intro F σ X w a hr hok hF
  have := h F σ X w a (by rw [h1]; exact hr) hok hF
  have e : execOp a.eval o = execOp a.eval o' := by
    cases o; cases o'
    dsimp only at h1 h2
    subst h1 h2
    rfl
  rw [← e]; exact this

/-! ### What needs no proof of its own -/
def scalarCore (P : Program) (o : Oper) (vals : List SV) : Option (Objs × SV × Objs) :=
  match scals vals with
  | some vs => match runP P (execOp (asg o.op.operands.toList vs) o) with
    | some (.value r) => bif noSel o.op && r.oneCell' then some ([], sc r, []) else none
    | _ => none
  | none => none

def loadCore (ti : TI) (ob : Nat → Option LObj) (y : CV) : Option (Objs × SV) :=
  match y with
  | .loc h off => match ob h with
    | some (.cells ct cs) => match piece ti.agg ti.size (cs.drop off) with
      | some r => some ([(h, .cells ct cs)], .t r)
      | none => none
    | _ => none
  | .d (.ptr ds) => match piece ti.agg ti.size (ds.map .d) with
    | some r => some ([], .t r)
    | none => none
  | _ => none

/-- What only reads. -/
def readCore (T : Tab) (o : Oper) (vals : List SV) (ob : Nat → Option LObj) : Option (Objs × SV) :=
  match o.op, vals with
  | .load t _, [.t (.c y)] => match look T t with
    | some ti => bif ti.agg || Nat.beq ti.size 1 then loadCore ti ob y else none
    | none => none
  | .call { callee := .builtin .len, args := _, argTypes := ⟨[t]⟩ }, [.t (.c (.d (.sl es)))] => match look T t with
    | some ti => bif Nat.beq ti.kind 2 then some ([], sc (.int .i64 es.length)) else none
    | none => none
  | .call { callee := .builtin .len, args := _, argTypes := ⟨[t]⟩ }, [.t (.c (.own h))] => match look T t, ob h with
    | some ti, some (.arr e sz bytes es) => bif Nat.beq ti.kind 2 then some ([(h, .arr e sz bytes es)], sc (.int .i64 es.length)) else none
    | _, _ => none
  | _, _ => none

def storeCore (ti : TI) (ob : Nat → Option LObj) (y : CV) (s : SV) : Option (Objs × SV × Objs) :=
  match y, cellsS s with
  | .loc h off, some ys => match ob h with
    | some (.cells ct cs) => bif Nat.beq ys.length ti.size && Nat.ble (off + ys.length) cs.length then some ([(h, .cells ct cs)], .any, [(h, .cells ct (splice cs off ys))]) else none
    | _ => none
  | _, _ => none

def sliceCore (T : Tab) (t : TypeId) (len : Nat) (idx : List Nat) (vals : List SV) (n : Nat) : Option (Objs × SV × Objs) :=
  match look T t with
  | some ti => match ti.elem with
    | some e => match look T e with
      | some ei => match ei.zero, elems ei.size vals with
        | some _, some es => bif (idx == List.range' 0 len) && (Nat.ble (len * ei.size) (2 ^ 24) && (Nat.ble len (2 ^ 24) && Nat.ble (len * ei.bytes) 140737488355328)) then some ([], cc (.own n), [(n, .arr e ei.size ei.bytes es)]) else none
        | _, _ => none
      | none => none
    | none => none
  | none => none

/-- Types whose boxes are data at once, where their cells are data: D. -/
def special (T : Tab) (D : List Nat) (o : Oper) (vals : List SV) (ob : Nat → Option LObj) (n : Nat) : Option (Objs × SV × Objs) :=
  match o.op, vals with
  | .move _, [s] => some ([], s, [])
  | .assign _, [s] => some ([], s, [])
  | .pick _ _ _, [.t (.c (.d (.v (.bool b)))), s, t] => some ([], pickV b s t, [])
  | .extract _ i, [.tup l] => match l[i]? with
    | some y => some ([], .t y, [])
    | none => none
  | .fieldAddr s _ f, [.t (.c y)] => match look T s with
    | some ti => match ti.places with
      | some pl => match pl[f]? with
        | some (off, sz) => match shiftC off y with
          | some z => bif Nat.beq sz 0 then none else some ([], cc z, [])
          | none => none
        | none => none
      | none => none
    | none => none
  | .field s _ f, [.t (.agg l)] => match look T s with
    | some ti => match ti.places, ti.ftypes[f]? with
      | some pl, some ft => match pl[f]?, look T ft with
        | some (off, _), some fi => match piece fi.agg fi.size (l.drop off) with
          | some r => some ([], .t r, [])
          | none => none
        | _, _ => none
      | _, _ => none
    | none => none
  | .store t _ _, [.t (.c y), s] => match look T t with
    | some ti => storeCore ti ob y s
    | none => none
  | .nilCheck _, [.t (.c y)] => bif notNil y then some ([], cc y, []) else none
  | .alloc t, [] => match look T t with
    | some ti => match ti.zero with
      | some z => bif z.all Value.oneCell' then some ([], cc (.loc n 0), [(n, .cells t (z.map fun x => .d (.v x)))]) else none
      | none => none
    | none => none
  | .box t _, [s] => match cellsS s with
    | some ys => bif D.any (Nat.beq t) then (match datas ys with | some ds => some ([], cc (.d (.ptr ds)), []) | none => none)
         else bif ys.any (CV.has n) then none else some ([], cc (.loc n 0), [(n, .cells t ys)])
    | none => none
  | .build t parts, vals => match look T t with
    | some ti => match ti.places, ti.zero with
      | some pl, some z => match fillA (pl[·]?) (z.map fun x => .d (.v x)) (parts.toList.map (·.1)) vals with
        | some out => bif z.all Value.oneCell' then some ([], .t (.agg out), []) else none
        | none => none
      | _, _ => none
    | none => none
  | .buildSlice t len parts, vals => sliceCore T t len (parts.toList.map (·.1)) vals n
  | .binOp .eql t _ _ _, [.t (.c z), .t (.c (.d (.v (.pointer none))))] => match look T t with
    | some ti => bif Nat.beq ti.kind 1 && notNil z then some ([], sc (.bool false), []) else none
    | none => none
  | .binOp .neq t _ _ _, [.t (.c z), .t (.c (.d (.v (.pointer none))))] => match look T t with
    | some ti => bif Nat.beq ti.kind 1 && notNil z then some ([], sc (.bool true), []) else none
    | none => none
  | _, _ => none

theorem bif_some {α : Type} {b : Bool} {x y : α} (h : (bif b then some x else none) = some y) : b = true ∧ x = y := by
  cases b with
  | false => simp at h
  | true => exact ⟨rfl, by simpa using h⟩

theorem scalarCore_tri {P : Program} {o : Oper} {vals : List SV} {l l' : Objs} {res : SV} (h : scalarCore P o vals = some (l, res, l')) : Tri P o vals l res l' ∧ l = [] := by
  unfold scalarCore at h
  split at h
  · rename_i vs hs
    split at h
    · rename_i r hp
      obtain ⟨hn, h⟩ := bif_some h
      simp only [Bool.and_eq_true] at hn
      simp only [Prod.mk.injEq] at h
      obtain ⟨rfl, rfl, rfl⟩ := h
      exact ⟨tri_scalar hn.2 hn.1 hs hp, rfl⟩
    · cases h
  · cases h

theorem look_nil {h : Nat} {x : LObj} (e : look ([] : Objs) h = some x) : False := by simp [look] at e

theorem len_congr {P : Program} {o : Oper} {args : Array Operand} {t : TypeId} {vals : List SV} {l l' : Objs} {res : SV} {s : SV} (hv : vals = [s]) (ho : o.op = .call { callee := .builtin .len, args := args, argTypes := #[t] })
    (h : ∀ x, o.op = .call { callee := .builtin .len, args := #[x], argTypes := #[t] } → Tri P o vals l res l') : Tri P o vals l res l' := by
  intro F σ X w a hr hok hF
  have hr' := hr
  rw [ho, hv] at hr'
  obtain ⟨as⟩ := args
  simp only [Op.operands, Call.operands, List.nil_append, List.append_toArray] at hr'
  match as, hr' with
  | [y], _ => exact h y ho F σ X w a hr hok hF
  | [], hr' => exact hr'.elim
  | _ :: _ :: _, hr' => exact hr'.2.elim

theorem special_tri {P : Program} {T : Tab} (hT : TabOK P T) {D : List Nat} {o : Oper} {vals : List SV} {ob : Nat → Option LObj} {n : Nat} {l l' : Objs} {res : SV} (h : special T D o vals ob n = some (l, res, l')) :
    Tri P o vals l res l' ∧ ∀ h x, look l h = some x → ob h = some x := by
  unfold special at h
  split at h
  · rename_i x s ho
    simp only [Option.some.injEq, Prod.mk.injEq] at h
    obtain ⟨rfl, rfl, rfl⟩ := h
    exact ⟨tri_move (.inl ho), fun _ _ e => (look_nil e).elim⟩
  · rename_i x s ho
    simp only [Option.some.injEq, Prod.mk.injEq] at h
    obtain ⟨rfl, rfl, rfl⟩ := h
    exact ⟨tri_move (.inr ho), fun _ _ e => (look_nil e).elim⟩
  · rename_i c x y b s t ho
    simp only [Option.some.injEq, Prod.mk.injEq] at h
    obtain ⟨rfl, rfl, rfl⟩ := h
    exact ⟨tri_pick ho, fun _ _ e => (look_nil e).elim⟩
  · rename_i x i tl ho
    split at h
    · rename_i y hy
      simp only [Option.some.injEq, Prod.mk.injEq] at h
      obtain ⟨rfl, rfl, rfl⟩ := h
      exact ⟨tri_extract ho hy, fun _ _ e => (look_nil e).elim⟩
    · cases h
  · rename_i s x f y ho
    split at h
    · rename_i ti ht
      split at h
      · rename_i pl hp
        split at h
        · rename_i off sz hf
          split at h
          · rename_i z hz
            cases h0 : Nat.beq sz 0 with
            | true => simp [h0] at h
            | false =>
              simp only [h0, cond_false, Option.some.injEq, Prod.mk.injEq] at h
              obtain ⟨rfl, rfl, rfl⟩ := h
              exact ⟨tri_fieldAddr hT ho ht hp hf (fun e => by subst e; simp at h0) hz, fun _ _ e => (look_nil e).elim⟩
          · cases h
        · cases h
      · cases h
    · cases h
  · rename_i s x f tl ho
    split at h
    · rename_i ti ht
      split at h
      · rename_i pl ft hp hft
        split at h
        · rename_i off sz fi hf htf
          split at h
          · rename_i r hr
            simp only [Option.some.injEq, Prod.mk.injEq] at h
            obtain ⟨rfl, rfl, rfl⟩ := h
            exact ⟨tri_field hT ho ht hp hf hft htf hr, fun _ _ e => (look_nil e).elim⟩
          · cases h
        · cases h
      · cases h
    · cases h
  · rename_i t x y z s ho
    split at h
    · rename_i ti ht
      unfold storeCore at h
      split at h
      · rename_i hh off ys hs
        split at h
        · rename_i ct cs hob
          cases h1 : (Nat.beq ys.length ti.size && Nat.ble (off + ys.length) cs.length) with
          | false => simp [h1] at h
          | true =>
            simp only [h1, cond_true, Option.some.injEq, Prod.mk.injEq] at h
            obtain ⟨rfl, rfl, rfl⟩ := h
            simp only [Bool.and_eq_true] at h1
            exact ⟨tri_store_loc hT ho ht hs (beq_iff.1 h1.1) (Nat.le_of_ble_eq_true h1.2), fun k x e => by obtain ⟨rfl, rfl⟩ := look_one e; exact hob⟩
        · cases h
      · cases h
    · cases h
  · rename_i x y ho
    cases h1 : notNil y with
    | false => simp [h1] at h
    | true =>
      simp only [h1, cond_true, Option.some.injEq, Prod.mk.injEq] at h
      obtain ⟨rfl, rfl, rfl⟩ := h
      refine ⟨tri_nilCheck ho ?_, fun _ _ e => (look_nil e).elim⟩
      cases y <;> first | rfl | (rename_i d; cases d <;> first | rfl | cases h1) | cases h1
  · rename_i t ho
    split at h
    · rename_i ti ht
      split at h
      · rename_i z hz
        obtain ⟨h1, h⟩ := bif_some h
        simp only [Prod.mk.injEq] at h
        obtain ⟨rfl, rfl, rfl⟩ := h
        exact ⟨tri_alloc hT n ho ht hz h1, fun _ _ e => (look_nil e).elim⟩
      · cases h
    · cases h
  · rename_i t x s ho
    split at h
    · rename_i ys hs
      cases h2 : D.any (Nat.beq t) with
      | true =>
        simp only [h2, cond_true] at h
        split at h
        · rename_i ds hd
          simp only [Option.some.injEq, Prod.mk.injEq] at h
          obtain ⟨rfl, rfl, rfl⟩ := h
          exact ⟨tri_box_data ho hs hd, fun _ _ e => (look_nil e).elim⟩
        · cases h
      | false =>
        simp only [h2, cond_false] at h
        cases h3 : ys.any (CV.has n) with
        | true => simp [h3] at h
        | false =>
          simp only [h3, cond_false, Option.some.injEq, Prod.mk.injEq] at h
          obtain ⟨rfl, rfl, rfl⟩ := h
          exact ⟨tri_box n ho hs h3, fun _ _ e => (look_nil e).elim⟩
    · cases h
  · rename_i t parts vals ho
    split at h
    · rename_i ti ht
      split at h
      · rename_i pl z hp hz
        split at h
        · rename_i out hf
          obtain ⟨h1, h⟩ := bif_some h
          simp only [Prod.mk.injEq] at h
          obtain ⟨rfl, rfl, rfl⟩ := h
          exact ⟨tri_build hT ho ht hp hz h1 hf, fun _ _ e => (look_nil e).elim⟩
        · cases h
      · cases h
    · cases h
  · rename_i t len parts vals ho
    unfold sliceCore at h
    split at h
    · rename_i ti ht
      split at h
      · rename_i e hte
        split at h
        · rename_i ei hei
          split at h
          · rename_i z es hz hs
            obtain ⟨h1, h⟩ := bif_some h
            · simp only [Prod.mk.injEq] at h
              obtain ⟨rfl, rfl, rfl⟩ := h
              simp only [Bool.and_eq_true] at h1
              exact ⟨tri_buildSlice hT n ho ht hte hei hz (by simpa using h1.1) hs (Nat.le_of_ble_eq_true h1.2.1) (Nat.le_of_ble_eq_true h1.2.2.1) (Nat.le_of_ble_eq_true h1.2.2.2), fun _ _ e => (look_nil e).elim⟩
          · cases h
        · cases h
      · cases h
    · cases h
  · rename_i t x y u z ho
    split at h
    · rename_i ti ht
      cases h1 : (Nat.beq ti.kind 1 && notNil z) with
      | false => simp [h1] at h
      | true =>
        simp only [h1, cond_true, Option.some.injEq, Prod.mk.injEq] at h
        obtain ⟨rfl, rfl, rfl⟩ := h
        simp only [Bool.and_eq_true] at h1
        exact ⟨tri_eqNil hT ho ht (beq_iff.1 h1.1) h1.2, fun _ _ e => (look_nil e).elim⟩
    · cases h
  · rename_i t x y u z ho
    split at h
    · rename_i ti ht
      cases h1 : (Nat.beq ti.kind 1 && notNil z) with
      | false => simp [h1] at h
      | true =>
        simp only [h1, cond_true, Option.some.injEq, Prod.mk.injEq] at h
        obtain ⟨rfl, rfl, rfl⟩ := h
        simp only [Bool.and_eq_true] at h1
        exact ⟨tri_neNil hT ho ht (beq_iff.1 h1.1) h1.2, fun _ _ e => (look_nil e).elim⟩
    · cases h
  · cases h

theorem readCore_tri {P : Program} {T : Tab} (hT : TabOK P T) {o : Oper} {vals : List SV} {ob : Nat → Option LObj} {l : Objs} {res : SV} (h : readCore T o vals ob = some (l, res)) :
    Tri P o vals l res l ∧ ∀ h x, look l h = some x → ob h = some x := by
  unfold readCore at h
  split at h
  · rename_i t x y ho
    split at h
    · rename_i ti ht
      cases h1 : (ti.agg || Nat.beq ti.size 1) with
      | false => simp [h1] at h
      | true =>
        simp only [h1, cond_true] at h
        have h1' : ti.agg = false → ti.size = 1 := fun e => by simp only [e, Bool.false_or] at h1; exact beq_iff.1 h1
        unfold loadCore at h
        split at h
        · split at h
          · rename_i ct cs hob
            split at h
            · rename_i r hr
              simp only [Option.some.injEq, Prod.mk.injEq] at h
              obtain ⟨rfl, rfl⟩ := h
              exact ⟨tri_load_loc hT ho ht h1' hr, fun k x e => by obtain ⟨rfl, rfl⟩ := look_one e; exact hob⟩
            · cases h
          · cases h
        · split at h
          · rename_i r hr
            simp only [Option.some.injEq, Prod.mk.injEq] at h
            obtain ⟨rfl, rfl⟩ := h
            exact ⟨tri_load_ptr hT ho ht h1' hr, fun _ _ e => (look_nil e).elim⟩
          · cases h
        · cases h
    · cases h
  · rename_i args t es ho
    split at h
    · rename_i ti ht
      cases h1 : Nat.beq ti.kind 2 with
      | false => simp [h1] at h
      | true =>
        simp only [h1, cond_true, Option.some.injEq, Prod.mk.injEq] at h
        obtain ⟨rfl, rfl⟩ := h
        exact ⟨len_congr rfl ho fun x ho' => tri_len_sl hT ho' ht (beq_iff.1 h1), fun _ _ e => (look_nil e).elim⟩
    · cases h
  · rename_i args t hh ho
    split at h
    · rename_i ti e sz bytes es ht hob
      cases h1 : Nat.beq ti.kind 2 with
      | false => simp [h1] at h
      | true =>
        simp only [h1, cond_true, Option.some.injEq, Prod.mk.injEq] at h
        obtain ⟨rfl, rfl⟩ := h
        exact ⟨len_congr rfl ho fun x ho' => tri_len_own hT ho' ht (beq_iff.1 h1), fun k x e => by obtain ⟨rfl, rfl⟩ := look_one e; exact hob⟩
    · cases h
  · cases h
end Go.E
