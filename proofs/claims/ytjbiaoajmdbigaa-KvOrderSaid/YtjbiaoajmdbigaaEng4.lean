/- A logic over abstract states. Part 4: operations that make memory; structs by value; nil; len. -/
import Derived.Test.YtjbiaoajmdbigaaEng3
set_option linter.unusedVariables false
set_option linter.unusedSimpArgs false
namespace Go.E
open Go

theorem alloc_old (w : World) (o : Obj) (k : Nat) (h : k < w.heap.size) : (w.alloc o).heap[k]? = w.heap[k]? := by
  show (w.heap.push o)[k]? = _
  rw [Array.getElem?_push, if_neg (by omega)]
theorem alloc_new (w : World) (o : Obj) : (w.alloc o).heap[w.heap.size]? = some o := by
  show (w.heap.push o)[w.heap.size]? = _
  simp

theorem look_one {n h : Nat} {o x : LObj} (e : look [(n, o)] h = some x) : h = n ∧ x = o := by
  by_cases c : n = h
  · subst c; simp only [look, Nat.beq_refl, cond_true, Option.some.injEq] at e; exact ⟨rfl, e.symm⟩
  · simp [look, beq_false c] at e

theorem tri_new {P : Program} {o : Oper} {vals : List SV} {res : SV} {n : Nat} {ob : LObj}
    (h : ∀ F σ w a, Reps F σ w a o.op.operands.toList vals → ∃ v obj, (execOp a.eval o).run P w = .ok (.value v) (w.alloc obj) ∧
      ∀ σ' : Nat → Value, (∀ k, k ≠ n → σ' k = σ k) → σ' n = v → (∀ x y, RepD F w x y → RepD F (w.alloc obj) x y) → (∀ x (y : CV), RepC F σ w x y → y.has n = false → RepC F σ' (w.alloc obj) x y) →
        (w.alloc obj).heap[w.heap.size]? = some obj → RepS F σ' (w.alloc obj) v res ∧ ObjOK F σ' (w.alloc obj) v (fun k => k = w.heap.size) ob) : Tri P o vals [] res [(n, ob)] := by
  intro F σ X w a hr _ hF
  obtain ⟨v, obj, h1, h2⟩ := h F σ w a hr
  rw [h1]
  have hw : ∀ b, F b → (w.alloc obj).heap[b]? = w.heap[b]? := fun b hb => alloc_old w obj b (hF b hb)
  have hs : ∀ k, k ≠ n → (fun k => if k = n then v else σ k) k = σ k := fun k hk => if_neg hk
  obtain ⟨h3, h4⟩ := h2 (fun k => if k = n then v else σ k) hs (if_pos rfl) (fun x y h => RepD.mono (fun _ h => h) hw h) (fun x y hc hn => RepC.mono (fun _ h => h) hw (fun k hk => hs k fun e => by subst e; rw [hk] at hn; cases hn) hc) (alloc_new w obj)
  refine ⟨F, _, fun h => if h = n then (fun k => k = w.heap.size) else X h, h3, ⟨?_, ?_, ?_⟩, rfl, rfl, rfl, by simp, fun k hk _ => alloc_old w obj k hk, fun _ h => h, fun _ h => .inl h, ?_, fun k hk => ?_⟩
  · intro k x e
    obtain ⟨rfl, rfl⟩ := look_one e
    simpa using h4
  · intro k k' x x' e e' hne
    obtain ⟨rfl, rfl⟩ := look_one e
    exact absurd (look_one e').1.symm hne
  · intro k x e j hj
    obtain ⟨rfl, rfl⟩ := look_one e
    simp only [if_true] at hj
    subst hj
    exact ⟨by simp, fun hf => by have := hF _ hf; omega⟩
  · intro k x e j hj
    obtain ⟨rfl, rfl⟩ := look_one e
    simp only [if_true] at hj
    exact .inl (by omega)
  · refine if_neg fun e => ?_
    subst e
    rcases hk with hk | hk
    · simp [look] at hk
    · exact hk rfl

/-- Cells that are data alone. -/
def datas : List CV → Option (List DV)
  | [] => some []
  | .d x :: r => match datas r with
    | some l => some (x :: l)
    | none => none
  | _ => none
theorem datas_eq : ∀ {l : List CV} {ds : List DV}, datas l = some ds → l = ds.map .d
  | [], ds, h => by simp only [datas, Option.some.injEq] at h; subst h; rfl
  | .d x :: r, ds, h => by
    simp only [datas] at h
    cases e : datas r with
    | none => simp [e] at h
    | some l => simp only [e, Option.some.injEq] at h; subst h; simp [datas_eq e]
  | .loc _ _ :: _, _, h => by simp [datas] at h
  | .eloc _ _ _ _ :: _, _, h => by simp [datas] at h
  | .own _ :: _, _, h => by simp [datas] at h
  | .clo _ _ :: _, _, h => by simp [datas] at h

/-- Values laid side by side: their elements. -/
def elems (sz : Nat) : List SV → Option (List (List DV))
  | [] => some []
  | s :: r => match cellsS s, elems sz r with
    | some ys, some l => bif Nat.beq ys.length sz then (match datas ys with | some ds => some (ds :: l) | none => none) else none
    | _, _ => none

section
variable {P : Program} {o : Oper} {T : Tab} (hT : TabOK P T)
include hT

theorem tri_alloc {t : TypeId} {ti : TI} {z : List Value} (n : Nat) (ho : o.op = .alloc t) (ht : look T t = some ti) (hz : ti.zero = some z) (h1 : z.all Value.oneCell' = true) :
    Tri P o [] [] (cc (.loc n 0)) [(n, .cells t (z.map fun x => .d (.v x)))] :=
  tri_new fun F σ w a _ => by
    obtain ⟨v, h1, h2⟩ := run_zero_ti (hT t ti ht) w hz
    refine ⟨.pointer (some ⟨w.heap.size, 0, none⟩), .cells v.cells t, ?_, fun σ' _ hn _ _ hh => ⟨⟨_, hn, rfl⟩, _, _, rfl, fun _ => Iff.rfl, hh, by simp [← h2], fun i hi => ?_⟩⟩
    · simp only [execOp, ho, Instr.alloc, Sem.run_bind, h1, Result.andThen_ok]
      rfl
    · subst h2
      have hi' : i < v.cells.size := by simpa using hi
      simp only [List.getElem_map, Array.getElem_toList]
      rw [show v.cells.getD i undef = v.cells[i] by simp [hi']]
      rw [List.all_eq_true] at h1
      exact RepD.v _ (h1 _ (by simp))

omit hT in
theorem tri_box {t : TypeId} {x : Operand} {s : SV} {ys : List CV} (n : Nat) (ho : o.op = .box t x) (hs : cellsS s = some ys) (hn : ys.any (CV.has n) = false) :
    Tri P o [s] [] (cc (.loc n 0)) [(n, .cells t ys)] :=
  tri_new fun F σ w a hr => by
    rw [ho] at hr
    obtain ⟨q1, q2, _⟩ := cellsS_rep hr.1 hs
    refine ⟨.pointer (some ⟨w.heap.size, 0, none⟩), .cells (a.eval x).cells t, ?_, fun σ' _ hn' _ hc hh => ⟨⟨_, hn', rfl⟩, _, _, rfl, fun _ => Iff.rfl, hh, q1, fun i hi => hc _ _ (q2 i hi) (any_false hn i hi)⟩⟩
    simp only [execOp, ho, Instr.box]
    rfl

end

/-- &T{..}: what is boxed and never turned: it is data at once. -/
theorem tri_box_data {P : Program} {o : Oper} {t : TypeId} {x : Operand} {s : SV} {ys : List CV} {ds : List DV} (ho : o.op = .box t x) (hs : cellsS s = some ys) (hd : datas ys = some ds) :
    Tri P o [s] [] (cc (.d (.ptr ds))) [] := by
  intro F σ X w a hr _ hF
  rw [ho] at hr
  obtain ⟨q1, q2, _⟩ := cellsS_rep hr.1 hs
  have hrun : (execOp a.eval o).run P w = .ok (.value (.pointer (some ⟨w.heap.size, 0, none⟩))) (w.alloc (.cells (a.eval x).cells t)) := by
    simp only [execOp, ho, Instr.box]
    rfl
  rw [hrun]
  generalize (a.eval x).cells = vs at q1 q2
  obtain rfl := datas_eq hd
  simp only [List.length_map] at q1 q2
  refine ⟨fun k => F k ∨ k = w.heap.size, σ, X, ?_, OKs.nil, rfl, rfl, rfl, by simp, fun k hk _ => alloc_old w _ k hk, fun _ h => .inl h, fun k hk => ?_, fun h x e => by simp [look] at e, fun _ _ => rfl⟩
  · refine RepD.ptr w.heap.size 0 ds (fun i => vs.getD i undef) (.inr rfl) (fun i hi => ?_) fun i hi => ?_
    · rw [Nat.zero_add, cell_of_row _ _ i vs t _ (alloc_new w _)]
      simp [show i < vs.size by omega]
    · have := q2 i hi
      simp only [List.getElem_map] at this
      exact RepD.mono (fun _ h => .inl h) (fun b hb => alloc_old w _ b (hF b hb)) this
  · rcases hk with hk | rfl
    · exact .inl hk
    · exact .inr ⟨by simp, .inl (Nat.le_refl _)⟩

theorem tri_nilCheck {P : Program} {o : Oper} {x : Operand} {y : CV} (ho : o.op = .nilCheck x) (hy : (match y with | .loc _ _ | .eloc _ _ _ _ | .d (.ptr _) => true | _ => false) = true) : Tri P o [cc y] [] (cc y) [] :=
  tri_of_value fun F σ X w a hr _ => by
    rw [ho] at hr
    have hx : RepC F σ w (a.eval x) y := hr.1
    have hp : ∃ ad, a.eval x = .pointer (some ad) := by
      cases y with
      | loc k off => obtain ⟨b, _, e⟩ := hx; exact ⟨_, e⟩
      | eloc k i off sz => obtain ⟨b, n, c, _, e⟩ := hx; exact ⟨_, e⟩
      | d d =>
        generalize a.eval x = u at hx
        cases d with
        | ptr cs => cases (show RepD F w u (.ptr cs) from hx) with | ptr b off => exact ⟨_, rfl⟩
        | v x => cases hy
        | sl x => cases hy
      | own k => cases hy
      | clo g c => cases hy
    obtain ⟨ad, he⟩ := hp
    exact ⟨a.eval x, by simp [execOp, ho, he], hx⟩
end Go.E
