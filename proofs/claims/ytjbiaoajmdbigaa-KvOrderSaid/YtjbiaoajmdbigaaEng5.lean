/- A logic over abstract states. Part 5: structs by value; slices written out; nil; len. -/
import Derived.Test.YtjbiaoajmdbigaaEng4
import Derived.Laws.Tables
set_option linter.unusedVariables false
set_option linter.unusedSimpArgs false
namespace Go.E
open Go

section
variable {P : Program} {o : Oper} {T : Tab} (hT : TabOK P T)
include hT

theorem tri_field {s ft : TypeId} {x : Operand} {f off sz : Nat} {pl : List (Nat × Nat)} {ti fi : TI} {l : List CV} {r : TV} (ho : o.op = .field s x f) (ht : look T s = some ti) (hp : ti.places = some pl) (hf : pl[f]? = some (off, sz))
    (hft : ti.ftypes[f]? = some ft) (htf : look T ft = some fi) (hr : piece fi.agg fi.size (l.drop off) = some r) : Tri P o [.t (.agg l)] [] (.t r) [] :=
  tri_of_value fun F σ X w a hrr _ => by
    rw [ho] at hrr
    obtain ⟨cs, hx, h2, h3⟩ := hrr.1
    obtain ⟨i, d, hi, hd, _, _, _, _, _, hfl, _⟩ := ti_parts (hT s ti ht)
    obtain ⟨fs, rfl, hm, hty⟩ := hfl pl hp
    obtain ⟨g, j, hg, hj, rfl, rfl⟩ := places_at hm hf
    have hg' : fs[f]? = some g := by simpa using hg
    have hgt : g.type = ft := by
      rw [hty] at hft
      simpa [hg'] using hft
    obtain ⟨q1, q2, q3⟩ := piece_rep (F := F) (σ := σ) (w := w) hr (fun i => cs.getD (g.offset + i) undef) (fun i hi => by
      simp only [List.length_drop] at hi
      simpa using h3 (g.offset + i) (by omega))
    simp only [List.length_drop] at q2 q3
    refine ⟨_, ?_, q1⟩
    subst hgt
    have hia := run_isAgg_ti (hT g.type fi htf) w
    have his := run_sizeOf_ti (hT g.type fi htf) w
    simp only [execOp, ho, hx, Instr.field, run_underlying hd, hg', asAgg, part, Sem.run_bind, Sem.run_pure, Result.andThen_ok, hia]
    cases ha : fi.agg with
    | true =>
      have := q2 ha
      simp only [his, Sem.run_bind, Sem.run_pure, Result.andThen_ok, if_true]
      congr 2
      refine congrArg Value.agg (Array.ext (by simp; omega) fun i h1 h2' => ?_)
      simp only [Array.size_extract] at h1
      simp [show g.offset + i < cs.size by omega]
    | false =>
      have := q3 ha
      simp [show g.offset < cs.size by omega]

/-- The cells of a value built out of parts. -/
def fillA (pl : Nat → Option (Nat × Nat)) (cells : List CV) : List Nat → List SV → Option (List CV)
  | [], [] => some cells
  | i :: is, s :: ss => match pl i, cellsS s with
    | some (off, sz), some ys => bif Nat.beq ys.length sz && Nat.ble (off + ys.length) cells.length then fillA pl (splice cells off ys) is ss else none
    | _, _ => none
  | _, _ => none

omit hT in
theorem fold_set (off : Nat) : ∀ (ys : List Value) (k : Nat) (cs : Array Value), off + k + ys.length ≤ cs.size →
    ∀ i, ((ys.zipIdx k).foldl (fun cs (p : Value × Nat) => cs.setIfInBounds (off + p.2) p.1) cs)[i]? = if off + k ≤ i ∧ i < off + k + ys.length then ys[i - (off + k)]? else cs[i]?
  | [], k, cs, _, i => by simp; omega
  | y :: ys, k, cs, h, i => by
    simp only [List.length_cons] at h
    rw [List.zipIdx_cons, List.foldl_cons, fold_set off ys (k + 1) _ (by simp; omega) i]
    simp only [List.length_cons]
    by_cases c1 : off + (k + 1) ≤ i ∧ i < off + (k + 1) + ys.length
    · rw [if_pos c1, if_pos (by omega)]
      rw [show i - (off + k) = i - (off + (k + 1)) + 1 by omega, List.getElem?_cons_succ]
    · rw [if_neg c1]
      by_cases c2 : i = off + k
      · subst c2
        rw [if_pos (by omega)]
        simp [show off + k < cs.size by omega]
      · rw [if_neg (by omega), Array.getElem?_setIfInBounds, if_neg (by omega)]

omit hT in
theorem fold_size (off : Nat) : ∀ (L : List (Value × Nat)) (cs : Array Value), (L.foldl (fun cs (p : Value × Nat) => cs.setIfInBounds (off + p.2) p.1) cs).size = cs.size
  | [], _ => rfl
  | p :: L, cs => by rw [List.foldl_cons, fold_size off L]; simp

omit hT in
theorem fill_rep {F : Nat → Prop} {σ : Nat → Value} {w : World} {a : Act} {pl : Nat → Option (Nat × Nat)} : ∀ (parts : List (Nat × Operand)) {ss : List SV} {cells : List CV} {cs : Array Value} {out : List CV},
    Reps F σ w a (parts.map (·.2)) ss → fillA pl cells (parts.map (·.1)) ss = some out → cs.size = cells.length → (∀ i (h : i < cells.length), RepC F σ w (cs.getD i undef) cells[i]) →
    ∃ cs', Instr.fill pl cs (parts.map fun p => (p.1, a.eval p.2)) = some cs' ∧ cs'.size = out.length ∧ ∀ i (h : i < out.length), RepC F σ w (cs'.getD i undef) out[i]
  | [], [], cells, cs, out, _, h, hs, hr => by simp only [List.map_nil, fillA, Option.some.injEq] at h; subst h; exact ⟨cs, rfl, hs, hr⟩
  | (i, x) :: parts, s :: ss, cells, cs, out, ⟨hx, hrest⟩, h, hs, hr => by
    simp only [List.map_cons, fillA] at h
    cases e1 : pl i with
    | none => simp [e1] at h
    | some q =>
      obtain ⟨off, sz⟩ := q
      cases e2 : cellsS s with
      | none => simp [e1, e2] at h
      | some ys =>
        simp only [e1, e2] at h
        cases e3 : (Nat.beq ys.length sz && Nat.ble (off + ys.length) cells.length) with
        | false => simp [e3] at h
        | true =>
          simp only [e3, cond_true] at h
          simp only [Bool.and_eq_true] at e3
          obtain ⟨e4, e6⟩ := e3
          have e4' := beq_iff.1 e4
          have e6' := Nat.le_of_ble_eq_true e6
          obtain ⟨q1, q2, _⟩ := cellsS_rep hx e2
          generalize hu : (a.eval x).cells = us at q1 q2
          have hus : us.toList.length = ys.length := by simpa using q1
          have hfold : ∀ (i : Nat), (us.zipIdx.foldl (fun cs (p : Value × Nat) => cs.setIfInBounds (off + p.2) p.1) cs)[i]? = if off ≤ i ∧ i < off + us.size then us[i - off]? else cs[i]? := fun i => by
            have := fold_set off us.toList 0 cs (by simp; omega) i
            simp only [Nat.add_zero] at this
            rw [← Array.foldl_toList]
            simpa using this
          have hsz : (us.zipIdx.foldl (fun cs (p : Value × Nat) => cs.setIfInBounds (off + p.2) p.1) cs).size = cs.size := by
            rw [← Array.foldl_toList]
            exact fold_size off _ _
          generalize hcs : us.zipIdx.foldl (fun cs (p : Value × Nat) => cs.setIfInBounds (off + p.2) p.1) cs = cs2 at hfold hsz
          obtain ⟨cs', g1, g2, g3⟩ := fill_rep parts (cs := cs2) hrest h (by rw [hsz, hs, splice_length e6']) (fun j hj => by
            have g1 := spliced cells ys off e6' j
            rw [show cells.take off ++ (ys ++ cells.drop (off + ys.length)) = splice cells off ys from rfl, List.getElem?_eq_getElem hj] at g1
            rw [splice_length e6'] at hj
            rw [Array.getD_eq_getD_getElem?, hfold j, q1]
            by_cases c1 : j < off
            · simp only [c1, if_true] at g1
              rw [List.getElem?_eq_getElem hj, Option.some.injEq] at g1
              rw [g1, if_neg (by omega)]
              simpa [Array.getD_eq_getD_getElem?] using hr j hj
            · by_cases c2 : j < off + ys.length
              · simp only [c1, c2, if_true, if_false] at g1
                rw [List.getElem?_eq_getElem (show j - off < ys.length by omega), Option.some.injEq] at g1
                rw [g1, if_pos (by omega)]
                simpa [Array.getD_eq_getD_getElem?] using q2 (j - off) (by omega)
              · simp only [c1, c2, if_false] at g1
                rw [List.getElem?_eq_getElem hj, Option.some.injEq] at g1
                rw [g1, if_neg (by omega)]
                simpa [Array.getD_eq_getD_getElem?] using hr j hj)
          refine ⟨cs', ?_, g2, g3⟩
          simp only [List.map_cons, Instr.fill, e1, hu]
          rw [if_neg (by simp [q1, e4', hs]; omega), hcs]
          exact g1

theorem tri_build {t : TypeId} {parts : Array (Nat × Operand)} {ti : TI} {pl : List (Nat × Nat)} {z : List Value} {ss : List SV} {out : List CV} (ho : o.op = .build t parts) (ht : look T t = some ti) (hp : ti.places = some pl) (hz : ti.zero = some z) (h1 : z.all Value.oneCell' = true)
    (hf : fillA (pl[·]?) (z.map fun x => .d (.v x)) (parts.toList.map (·.1)) ss = some out) : Tri P o ss [] (.t (.agg out)) [] :=
  tri_of_value fun F σ X w a hr _ => by
    rw [ho] at hr
    obtain ⟨i, d, hi, hd, _, _, _, hzz, _, hfl, _⟩ := ti_parts (hT t ti ht)
    obtain ⟨fs, rfl, hm, _⟩ := hfl pl hp
    rw [hz] at hzz
    cases hzi : i.zero with
    | none => rw [hzi] at hzz; cases hzz
    | some zv =>
      rw [hzi] at hzz
      have hzc : zv.cells.toList = z := by simpa using hzz.symm
      obtain ⟨cs', g1, g2, g3⟩ := fill_rep parts.toList (cs := zv.cells) (show Reps F σ w a (parts.toList.map (·.2)) ss by simpa [Op.operands] using hr) hf (by simp [← hzc]) (fun i hi => by
        simp only [List.length_map, ← hzc] at hi
        have hi' : i < zv.cells.size := by simpa using hi
        simp only [← hzc, List.getElem_map, Array.getElem_toList]
        rw [show zv.cells.getD i undef = zv.cells[i] by simp [hi']]
        rw [List.all_eq_true, ← hzc] at h1
        exact RepD.v _ (h1 _ (by simp)))
      refine ⟨.agg cs', ?_, cs', rfl, g2, g3⟩
      have hb : P.built t (parts.map fun (i, x) => (i, a.eval x)).toList = some cs' := by
        unfold Program.built
        simp only [hi, hd, hzi, hm]
        have : (parts.map fun (i, x) => (i, a.eval x)).toList = parts.toList.map fun p => (p.1, a.eval p.2) := by simp
        rw [this]
        simpa using g1
      have := run_build (P := P) w t (parts.map fun (i, x) => (i, a.eval x)) cs' hb
      simp only [execOp, ho, Sem.run_bind, this, Result.andThen_ok]
      rfl
end
end Go.E
