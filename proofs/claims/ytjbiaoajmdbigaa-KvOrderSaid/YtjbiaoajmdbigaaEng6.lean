/- A logic over abstract states. Part 6: slices written out; comparisons with nil; len. -/
import Derived.Test.YtjbiaoajmdbigaaEng5
set_option linter.unusedVariables false
set_option linter.unusedSimpArgs false
namespace Go.E
open Go

theorem elems_cons {sz : Nat} {s : SV} {r : List SV} {es : List (List DV)} (h : elems sz (s :: r) = some es) : ∃ ys ds l, cellsS s = some ys ∧ elems sz r = some l ∧ ys.length = sz ∧ datas ys = some ds ∧ es = ds :: l := by
  simp only [elems] at h
  cases e1 : cellsS s with
  | none => simp [e1] at h
  | some ys =>
    cases e2 : elems sz r with
    | none => simp [e1, e2] at h
    | some l =>
      simp only [e1, e2] at h
      cases e3 : Nat.beq ys.length sz with
      | false => simp [e3] at h
      | true =>
        simp only [e3, cond_true] at h
        cases e4 : datas ys with
        | none => simp [e4] at h
        | some ds =>
          simp only [e4, Option.some.injEq] at h
          exact ⟨ys, ds, l, rfl, rfl, beq_iff.1 e3, e4, h.symm⟩

theorem fill_run {F : Nat → Prop} {σ : Nat → Value} {w : World} {a : Act} (sz : Nat) : ∀ (parts : List (Nat × Operand)) (k : Nat) {ss : List SV} {es : List (List DV)} {cs : Array Value},
    parts.map (·.1) = List.range' k parts.length → Reps F σ w a (parts.map (·.2)) ss → elems sz ss = some es → (k + parts.length) * sz ≤ cs.size →
    ∃ cs', Instr.fill (fun i => some (i * sz, sz)) cs (parts.map fun p => (p.1, a.eval p.2)) = some cs' ∧ cs'.size = cs.size ∧ (∀ i, i < k * sz → cs'[i]? = cs[i]?) ∧ es.length = parts.length ∧ (∀ e ∈ es, e.length = sz) ∧
      (∀ i, k * sz ≤ i → i < (k + parts.length) * sz → ∃ x, cs'[i]? = some x ∧ x.oneCell' = true) ∧
      ∀ i (h : i < es.length) j (h' : j < es[i].length), RepD F w (cs'.getD ((k + i) * sz + j) undef) es[i][j]
  | [], k, [], es, cs, _, _, he, _ => by
    simp only [elems, Option.some.injEq] at he
    subst he
    exact ⟨cs, rfl, rfl, fun _ _ => rfl, rfl, by simp, fun i h1 h2 => by simp at h2; omega, fun i h => by simp at h⟩
  | (i0, x) :: parts, k, s :: ss, es, cs, hp, ⟨hx, hrest⟩, he, hle => by
    obtain ⟨ys, ds, l, e1, e2, e3, e5, rfl⟩ := elems_cons he
    simp only [List.map_cons, List.length_cons, List.range'_succ, List.cons.injEq] at hp
    obtain ⟨rfl, hp⟩ := hp
    obtain ⟨q1, q2, q3⟩ := cellsS_rep hx e1
    dsimp only at q1 q2 q3
    generalize hu : (a.eval x).cells = us at q1 q2 q3
    simp only [List.length_cons] at hle
    have hk1 : (i0 + 1) * sz = i0 * sz + sz := by rw [Nat.add_mul, Nat.one_mul]
    have hk2 : (i0 + 1) * sz ≤ (i0 + (parts.length + 1)) * sz := Nat.mul_le_mul_right _ (by omega)
    have hus : us.toList.length = sz := by simpa [e3] using q1
    have hfold : ∀ (i : Nat), (us.zipIdx.foldl (fun cs (p : Value × Nat) => cs.setIfInBounds (i0 * sz + p.2) p.1) cs)[i]? = if i0 * sz ≤ i ∧ i < i0 * sz + us.size then us[i - i0 * sz]? else cs[i]? := fun i => by
      have := fold_set (i0 * sz) us.toList 0 cs (by simp; omega) i
      simp only [Nat.add_zero] at this
      rw [← Array.foldl_toList]
      simpa using this
    have hsz : (us.zipIdx.foldl (fun cs (p : Value × Nat) => cs.setIfInBounds (i0 * sz + p.2) p.1) cs).size = cs.size := by
      rw [← Array.foldl_toList]
      exact fold_size _ _ _
    generalize hcs : us.zipIdx.foldl (fun cs (p : Value × Nat) => cs.setIfInBounds (i0 * sz + p.2) p.1) cs = cs2 at hfold hsz
    obtain ⟨cs', g1, g2, g3, g4, g5, g6, g7⟩ := fill_run sz parts (i0 + 1) (cs := cs2) hp hrest e2 (by rw [hsz]; simpa [Nat.add_assoc, Nat.add_comm 1] using hle)
    have hus' : us.size = sz := by simpa using hus
    refine ⟨cs', ?_, g2.trans hsz, fun i hi => ?_, by simp [g4], fun e he => ?_, fun i h1 h2 => ?_, fun i hi j hj => ?_⟩
    · simp only [List.map_cons, Instr.fill, hu]
      rw [if_neg (by simp [hus']; omega), hcs]
      exact g1
    · rw [g3 i (by omega), hfold i, if_neg (by omega)]
    · simp only [List.mem_cons] at he
      rcases he with rfl | he
      · rw [datas_eq e5] at e3; simpa using e3
      · exact g5 e he
    · by_cases c : i < (i0 + 1) * sz
      · rw [g3 i c, hfold i, if_pos (by omega)]
        have hlt : i - i0 * sz < us.size := by omega
        exact ⟨us[i - i0 * sz], by simp [hlt], q3 _ (by simp)⟩
      · refine g6 i (by omega) ?_
        rw [show i0 + 1 + parts.length = i0 + (parts.length + 1) by omega]; exact h2
    · cases i with
      | zero =>
        simp only [List.getElem_cons_zero] at hj ⊢
        have hd := datas_eq e5
        have hdl : ds.length = sz := by rw [hd] at e3; simpa using e3
        rw [Array.getD_eq_getD_getElem?, g3 _ (by simp; omega), hfold _, if_pos (by simp; omega)]
        have := q2 j (by omega)
        subst hd
        simp only [List.getElem_map] at this
        simpa [Array.getD_eq_getD_getElem?, RepC] using this
      | succ i =>
        have := g7 i (by simpa using hi) j (by simpa using hj)
        simpa [show i0 + 1 + i = i0 + (i + 1) by omega] using this

section
variable {P : Program} {o : Oper} {T : Tab} (hT : TabOK P T)
include hT

theorem tri_buildSlice {t e : TypeId} {len : Nat} {parts : Array (Nat × Operand)} {ti ei : TI} {z : List Value} {ss : List SV} {es : List (List DV)} (n : Nat) (ho : o.op = .buildSlice t len parts) (ht : look T t = some ti) (hte : ti.elem = some e)
    (hei : look T e = some ei) (hz : ei.zero = some z) (hp : parts.toList.map (·.1) = List.range' 0 len) (hs : elems ei.size ss = some es) (h24 : len * ei.size ≤ 2 ^ 24) (hl : len ≤ 2 ^ 24) (h47 : len * ei.bytes ≤ 140737488355328) :
    Tri P o ss [] (cc (.own n)) [(n, .arr e ei.size ei.bytes es)] :=
  tri_new fun F σ w a hr => by
    rw [ho] at hr
    obtain ⟨i, d, hi, hd, _, _, _, _, hel, _, _⟩ := ti_parts (hT t ti ht)
    obtain rfl := hel e hte
    have hlen : parts.toList.length = len := by have := congrArg List.length hp; simpa using this
    obtain ⟨zv, hz1, hz2⟩ := run_zero_ti (hT e ei hei) w hz
    let z0 : Array Value := if len * ei.size = 0 then #[] else zv.cells
    obtain ⟨cs', g1, g2, _, g4, g5, _, g7⟩ := fill_run (F := F) (σ := σ) (w := w) (a := a) ei.size parts.toList 0 (cs := (Array.range (len * ei.size)).map (z0[· % z0.size]!)) (by rw [hp, hlen]) (show Reps F σ w a (parts.toList.map (·.2)) ss by simpa [Op.operands] using hr) hs (by simp [hlen])
    simp only [Array.size_map, Array.size_range, Nat.zero_add] at g2 g7
    have hesl : es.length = len := g4.trans hlen
    refine ⟨.slice (some ⟨w.heap.size, 0, none⟩) len len, .cells cs' e, ?_, fun σ' _ hn hd' _ hh => ⟨⟨hn.symm, by rw [hn]; rfl⟩, cs'.toList, ⟨by simp [g2, hesl], .inr ⟨w.heap.size, len, cs', by rw [hesl], Nat.zero_le _, hh, by omega, ?_, g2, ?_⟩⟩, fun k => by simp [Value.ownBlock, eq_comm], g5, by rw [hesl]; exact h47, fun i hi j hj => ?_⟩⟩
    · have hbig : ¬ len * ei.size > 2 ^ 24 := by omega
      have hpm : (parts.map fun (i, x) => (i, a.eval x)).toList = parts.toList.map fun p => (p.1, a.eval p.2) := by simp
      by_cases c : len * ei.size = 0
      · simp only [z0, if_pos c] at g1
        simp only [execOp, ho, Instr.buildSlice, Sem.run_bind, run_underlying hd, Result.andThen_ok, run_sizeOf_ti (hT e ei hei), if_neg hbig, if_pos c, Sem.run_pure, hpm, g1]
        rfl
      · simp only [z0, if_neg c] at g1
        simp only [execOp, ho, Instr.buildSlice, Sem.run_bind, run_underlying hd, Result.andThen_ok, run_sizeOf_ti (hT e ei hei), if_neg hbig, if_neg c, hz1, Sem.run_pure, hpm, g1]
        rfl
    · simp only [maxLen]; omega
    · rw [hesl, ← g2]; exact List.take_of_length_le (by simp)
    · have := g7 i hi j hj
      have e2 : cs'.toList.getD (i * ei.size + j) undef = cs'.getD (i * ei.size + j) undef := by simp [List.getD_eq_getElem?_getD]
      rw [e2]
      exact hd' _ _ this
end

/-- A pointer that is one against nil. -/
def notNil : CV → Bool
  | .loc _ _ | .eloc _ _ _ _ | .d (.ptr _) => true
  | _ => false
theorem notNil_rep {F : Nat → Prop} {σ : Nat → Value} {w : World} {x : Value} {y : CV} (h : RepC F σ w x y) (hy : notNil y = true) : ∃ ad, x = .pointer (some ad) := by
  cases y with
  | loc k off => obtain ⟨b, _, e⟩ := h; exact ⟨_, e⟩
  | eloc k i off sz => obtain ⟨b, n, c, _, e⟩ := h; exact ⟨_, e⟩
  | d d =>
    cases d with
    | ptr cs => cases (show RepD F w x (.ptr cs) from h) with | ptr b off => exact ⟨_, rfl⟩
    | v x => cases hy
    | sl x => cases hy
  | own k => cases hy
  | clo g c => cases hy

section
variable {P : Program} {o : Oper}
variable {T : Tab} (hT : TabOK P T)
include hT

theorem tri_eqNil {t u : TypeId} {x y : Operand} {ti : TI} {z : CV} (ho : o.op = .binOp .eql t x y u) (ht : look T t = some ti) (hk : ti.kind = 1) (hz : notNil z = true) : Tri P o [cc z, sc (.pointer none)] [] (sc (.bool false)) [] :=
  tri_of_value fun F σ X w a hr _ => by
    rw [ho] at hr
    obtain ⟨ad, hx⟩ := notNil_rep hr.1 hz
    have hy : a.eval y = .pointer none := scal_rep hr.2.1 rfl
    obtain ⟨i, d, hi, hd, _, _, _, _, _, _, _, hkd⟩ := ti_parts (hT t ti ht)
    rw [hk] at hkd
    have hp : ∃ e, P.underlying t = some (.pointer e) := by cases d <;> simp [kindD] at hkd; exact ⟨_, hd⟩
    obtain ⟨e, hp⟩ := hp
    refine ⟨.bool false, ?_, RepD.v _ rfl⟩
    simp [execOp, ho, hx, hy, eqGuard, run_eql_pointer_nil w t (some ad) (by rw [hp]; simp [Program.pointee, hp])]
theorem tri_neNil {t u : TypeId} {x y : Operand} {ti : TI} {z : CV} (ho : o.op = .binOp .neq t x y u) (ht : look T t = some ti) (hk : ti.kind = 1) (hz : notNil z = true) : Tri P o [cc z, sc (.pointer none)] [] (sc (.bool true)) [] :=
  tri_of_value fun F σ X w a hr _ => by
    rw [ho] at hr
    obtain ⟨ad, hx⟩ := notNil_rep hr.1 hz
    have hy : a.eval y = .pointer none := scal_rep hr.2.1 rfl
    obtain ⟨i, d, hi, hd, _, _, _, _, _, _, _, hkd⟩ := ti_parts (hT t ti ht)
    rw [hk] at hkd
    have hp : ∃ e, P.underlying t = some (.pointer e) := by cases d <;> simp [kindD] at hkd; exact ⟨_, hd⟩
    obtain ⟨e, hp⟩ := hp
    refine ⟨.bool true, ?_, RepD.v _ rfl⟩
    simp [execOp, ho, hx, hy, eqGuard, run_neq_pointer_nil w t (some ad) (by rw [hp]; simp [Program.pointee, hp])]

theorem tri_len_sl {t : TypeId} {x : Operand} {ti : TI} {es : List (List DV)} (ho : o.op = .call { callee := .builtin .len, args := #[x], argTypes := #[t] }) (ht : look T t = some ti) (hk : ti.kind = 2) :
    Tri P o [cc (.d (.sl es))] [] (sc (.int .i64 es.length)) [] :=
  tri_of_value fun F σ X w a hr _ => by
    rw [ho] at hr
    have hx : RepC F σ w (a.eval x) (.d (.sl es)) := hr.1
    generalize hu : a.eval x = v at hx
    obtain ⟨i, d, hi, hd, _, _, _, _, _, _, _, hkd⟩ := ti_parts (hT t ti ht)
    rw [hk] at hkd
    have hp : ∃ e, P.underlying t = some (.slice e) := by cases d <;> simp [kindD] at hkd; exact ⟨_, hd⟩
    obtain ⟨e, hp⟩ := hp
    cases (show RepD F w v (.sl es) from hx) with
    | sl ad cap sz _ val =>
      refine ⟨_, ?_, RepD.v _ rfl⟩
      simp [execOp, ho, hu, resolve, invoke, builtin, Builtin.len_, run_underlying hp, goInt]
theorem tri_len_own {t : TypeId} {x : Operand} {ti : TI} {h e sz bytes : Nat} {es : List (List DV)} (ho : o.op = .call { callee := .builtin .len, args := #[x], argTypes := #[t] }) (ht : look T t = some ti) (hk : ti.kind = 2) :
    Tri P o [cc (.own h)] [(h, .arr e sz bytes es)] (sc (.int .i64 es.length)) [(h, .arr e sz bytes es)] :=
  tri_of_value fun F σ X w a hr hok => by
    rw [ho] at hr
    obtain ⟨hx, _⟩ := (show RepC F σ w (a.eval x) (.own h) from hr.1)
    obtain ⟨i, d, hi, hd, _, _, _, _, _, _, _, hkd⟩ := ti_parts (hT t ti ht)
    rw [hk] at hkd
    have hp : ∃ e, P.underlying t = some (.slice e) := by cases d <;> simp [kindD] at hkd; exact ⟨_, hd⟩
    obtain ⟨e', hp⟩ := hp
    obtain ⟨xs, e1, _⟩ := hok.ok h (.arr e sz bytes es) (by simp [look])
    refine ⟨_, ?_, RepD.v _ rfl⟩
    rcases e1.2 with ⟨e6, e7⟩ | ⟨g, cap', cur, e6, _⟩ <;> rw [e6] at hx <;> simp [execOp, ho, hx, resolve, invoke, builtin, Builtin.len_, run_underlying hp, goInt]
    omega
end
end Go.E
