/- A logic over abstract states. Part 3: operations on memory. -/
import Derived.Test.YtjbiaoajmdbigaaEng2
set_option linter.unusedVariables false
set_option linter.unusedSimpArgs false
namespace Go.E
open Go

def cc (x : CV) : SV := .t (.c x)

theorem RepD.one {F : Nat → Prop} {w : World} {x : Value} {d : DV} (h : RepD F w x d) : x.oneCell' = true := by
  cases h with
  | v x h1 => exact h1
  | ptr => rfl
  | sl => rfl
theorem RepC.one {F : Nat → Prop} {σ : Nat → Value} {w : World} {x : Value} {y : CV} (h : RepC F σ w x y) : x.oneCell' = true := by
  cases y with
  | d d => exact RepD.one h
  | loc k off => obtain ⟨b, _, rfl⟩ := h; rfl
  | eloc k i off sz => obtain ⟨b, n, cap, _, rfl⟩ := h; rfl
  | own k => obtain ⟨h2, h3⟩ := h; rw [h2]; exact h3
  | clo g caps => obtain ⟨cs, rfl, _⟩ := h; rfl

def cellsS : SV → Option (List CV)
  | .t (.c y) => some [y]
  | .t (.agg l) => some l
  | _ => none

theorem one_cells {v : Value} (h : v.oneCell' = true) : v.cells = #[v] := by cases v <;> first | rfl | simp [Value.oneCell'] at h

theorem cellsS_rep {F : Nat → Prop} {σ : Nat → Value} {w : World} {x : Value} {s : SV} {ys : List CV} (h : RepS F σ w x s) (hs : cellsS s = some ys) :
    x.cells.size = ys.length ∧ (∀ i (h : i < ys.length), RepC F σ w (x.cells.getD i undef) ys[i]) ∧ ∀ v ∈ x.cells.toList, v.oneCell' = true := by
  unfold cellsS at hs
  split at hs
  · rename_i y
    obtain rfl := Option.some.inj hs
    have hy : RepC F σ w x y := h
    have ho := hy.one
    rw [one_cells ho]
    refine ⟨rfl, fun i hi => ?_, fun v hv => by simpa using (by simpa using hv : v = x) ▸ ho⟩
    obtain rfl : i = 0 := by simp at hi; omega
    exact hy
  · rename_i l
    obtain rfl := Option.some.inj hs
    obtain ⟨cs, rfl, h2, h3⟩ := h
    refine ⟨h2, h3, fun v hv => ?_⟩
    obtain ⟨i, hi, rfl⟩ := List.getElem_of_mem (show v ∈ cs.toList from hv)
    have hi' : i < l.length := by rw [← h2]; simpa using hi
    have := (h3 i hi').one
    simpa [show i < cs.size by omega] using this
  · cases hs

def shiftC (o : Nat) : CV → Option CV
  | .loc h off => some (.loc h (off + o))
  | .eloc h i off sz => some (.eloc h i (off + o) sz)
  | .d (.ptr cs) => some (.d (.ptr (cs.drop o)))
  | _ => none

theorem shiftC_rep {F : Nat → Prop} {σ : Nat → Value} {w : World} {x : Value} {y z : CV} {o : Nat} (h : RepC F σ w x y) (hs : shiftC o y = some z) :
    ∃ b off, x = .pointer (some ⟨b, off, none⟩) ∧ RepC F σ w (.pointer (some ⟨b, off + o, none⟩)) z := by
  unfold shiftC at hs
  split at hs
  · obtain rfl := Option.some.inj hs
    obtain ⟨b, h1, rfl⟩ := h
    exact ⟨b, _, rfl, b, h1, rfl⟩
  · obtain rfl := Option.some.inj hs
    obtain ⟨b, n, cap, h1, rfl⟩ := h
    exact ⟨b, _, rfl, b, n, cap, h1, by simp [Nat.add_assoc]⟩
  · rename_i cs
    obtain rfl := Option.some.inj hs
    cases (show RepD F w x (.ptr cs) from h) with
    | ptr b off cs val hF hc hr =>
      refine ⟨b, off, rfl, RepD.ptr b (off + o) (cs.drop o) (fun i => val (o + i)) hF (fun i hi => ?_) fun i hi => ?_⟩
      · simp only [List.length_drop] at hi
        simpa [Nat.add_assoc] using hc (o + i) (by omega)
      · simp only [List.length_drop] at hi
        simpa using hr (o + i) (by omega)
  · cases hs

theorem spliced {α : Type} (A Y : List α) (off : Nat) (h : off + Y.length ≤ A.length) (i : Nat) : (A.take off ++ (Y ++ A.drop (off + Y.length)))[i]? = if i < off then A[i]? else if i < off + Y.length then Y[i - off]? else A[i]? := by
  by_cases c1 : i < off
  · rw [if_pos c1, List.getElem?_append_left (by simp; omega), List.getElem?_take_of_lt c1]
  · rw [if_neg c1, List.getElem?_append_right (by simp; omega)]
    have hm : min off A.length = off := by omega
    simp only [List.length_take, hm]
    by_cases c2 : i < off + Y.length
    · rw [if_pos c2, List.getElem?_append_left (by omega)]
    · rw [if_neg c2, List.getElem?_append_right (by omega), List.getElem?_drop]
      congr 1; omega

def splice (cs : List CV) (off : Nat) (ys : List CV) : List CV := cs.take off ++ (ys ++ cs.drop (off + ys.length))
theorem splice_length {cs : List CV} {off : Nat} {ys : List CV} (h : off + ys.length ≤ cs.length) : (splice cs off ys).length = cs.length := by simp [splice]; omega

theorem heap_setRow (w : World) (g : Nat) (cs : Array Value) (k : Nat) (h : k ≠ g) : (w.setRow g cs).heap[k]? = w.heap[k]? := by
  simp only [World.setRow, Array.getElem?_modify]
  rw [if_neg (by omega)]

section
variable {P : Program} {o : Oper} {T : Tab} (hT : TabOK P T)
include hT

theorem tri_fieldAddr {s : TypeId} {x : Operand} {f off sz : Nat} {pl : List (Nat × Nat)} {ti : TI} {y z : CV} (ho : o.op = .fieldAddr s x f) (ht : look T s = some ti) (hp : ti.places = some pl) (hf : pl[f]? = some (off, sz)) (h0 : sz ≠ 0)
    (hs : shiftC off y = some z) : Tri P o [cc y] [] (cc z) [] :=
  tri_of_value fun F σ X w a hr _ => by
    rw [ho] at hr
    obtain ⟨b, o1, hx, hz⟩ := shiftC_rep (show RepC F σ w _ y from hr.1) hs
    obtain ⟨i, d, hi, hd, _, _, _, _, _, hfl, _⟩ := ti_parts (hT s ti ht)
    obtain ⟨fs, rfl, hm, _⟩ := hfl pl hp
    obtain ⟨g, j, hg, hj, rfl, rfl⟩ := places_at hm hf
    refine ⟨_, ?_, hz⟩
    have hg' : fs[f]? = some g := by simpa using hg
    have hsz : (sizeOf g.type).run P w = .ok j.size w := by simp [sizeOf, typeInfo, hj]
    simp [execOp, ho, hx, Instr.fieldAt, run_underlying hd, hg', Instr.sureAddr, fieldPlace, hsz, h0, add_none]

theorem run_load {t : TypeId} {x : Operand} {ti : TI} {w : World} {a : Act} {b off : Nat} {val : Nat → Value} (ho : o.op = .load t x) (ht : look T t = some ti) (hx : a.eval x = .pointer (some ⟨b, off, none⟩))
    (hc : ∀ j, j < ti.size → w.cell? ⟨b, off + j, none⟩ = some (val j)) (h0 : ti.agg = false → 0 < ti.size) :
    (execOp a.eval o).run P w = .ok (.value (if ti.agg then .agg ((List.range ti.size).map val).toArray else val 0)) w := by
  have := run_loadVar_ti (hT t ti ht) w b off val hc h0
  simp [execOp, ho, hx, Instr.loadAt, Instr.sureAddr, this]

theorem tri_load_ptr {t : TypeId} {x : Operand} {ti : TI} {ds : List DV} {r : TV} (ho : o.op = .load t x) (ht : look T t = some ti) (h1 : ti.agg = false → ti.size = 1) (hp : piece ti.agg ti.size (ds.map .d) = some r) :
    Tri P o [cc (.d (.ptr ds))] [] (.t r) [] :=
  tri_of_value fun F σ X w a hr _ => by
    rw [ho] at hr
    have hx := hr.1
    generalize hu : a.eval x = u at hx
    cases (show RepD F w u (.ptr ds) from hx) with
    | ptr b off cs val hF hc hrr =>
      obtain ⟨q1, q2, q3⟩ := piece_rep (F := F) (σ := σ) (w := w) hp val (fun i hi => by
        simp only [List.length_map] at hi
        simpa [RepC] using hrr i hi)
      simp only [List.length_map] at q2 q3
      have hle : ti.size ≤ ds.length := by
        cases e : ti.agg with
        | true => exact q2 e
        | false => have := q3 e; have := h1 e; omega
      exact ⟨_, run_load hT ho ht hu (fun j hj => hc j (by omega)) (fun e => by have := h1 e; omega), q1⟩

theorem tri_load_loc {t ct : TypeId} {x : Operand} {ti : TI} {h off : Nat} {cs : List CV} {r : TV} (ho : o.op = .load t x) (ht : look T t = some ti) (h1 : ti.agg = false → ti.size = 1) (hp : piece ti.agg ti.size (cs.drop off) = some r) :
    Tri P o [cc (.loc h off)] [(h, .cells ct cs)] (.t r) [(h, .cells ct cs)] :=
  tri_of_value fun F σ X w a hr hok => by
    rw [ho] at hr
    obtain ⟨b, hb, hx⟩ := (show RepC F σ w _ (.loc h off) from hr.1)
    obtain ⟨b', vs, e1, _, e3, e4, e5⟩ := hok.ok h (.cells ct cs) (by simp [look])
    rw [hb] at e1
    obtain rfl : b = b' := by simpa using e1
    obtain ⟨q1, q2, q3⟩ := piece_rep (F := F) (σ := σ) (w := w) hp (fun i => vs.getD (off + i) undef) (fun i hi => by
      simp only [List.length_drop] at hi
      simpa using e5 (off + i) (by omega))
    simp only [List.length_drop] at q2 q3
    have hle : 0 < ti.size → off + ti.size ≤ cs.length := by
      cases e : ti.agg with
      | true => have := q2 e; intro; omega
      | false => have := q3 e; have := h1 e; omega
    exact ⟨_, run_load hT ho ht hx (fun j hj => by
      rw [cell_of_row w b _ vs ct _ e3]
      have : off + j < vs.size := by rw [e4]; have := hle (by omega); omega
      simp [this]) (fun e => by have := h1 e; omega), q1⟩

/-- An element of an array that may grow. -/
theorem tri_load_eloc {t : TypeId} {x : Operand} {ti : TI} {h i off sz e bytes : Nat} {es : List (List DV)} {y : List DV} {r : TV} (ho : o.op = .load t x) (ht : look T t = some ti) (h1 : ti.agg = false → ti.size = 1)
    (hy : es[i]? = some y) (hp : piece ti.agg ti.size ((y.drop off).map .d) = some r) :
    Tri P o [cc (.eloc h i off sz)] [(h, .arr e sz bytes es)] (.t r) [(h, .arr e sz bytes es)] :=
  tri_of_value fun F σ X w a hr hok => by
    rw [ho] at hr
    obtain ⟨b, n, cap, hb, hx⟩ := (show RepC F σ w _ (.eloc h i off sz) from hr.1)
    obtain ⟨xs, e1, _, e3, _, e5⟩ := hok.ok h (.arr e sz bytes es) (by simp [look])
    obtain ⟨hi, rfl⟩ := List.getElem?_eq_some_iff.1 hy
    have hsz := e3 _ (List.getElem_mem hi)
    rw [hb] at e1
    have hlen : xs.length = es.length * sz := e1.1
    have hmul : (i + 1) * sz ≤ es.length * sz := Nat.mul_le_mul_right _ hi
    have hcell : ∀ j, j < sz → w.cell? ⟨b, i * sz + j, none⟩ = some (xs.getD (i * sz + j) undef) := fun j hj => by
      rcases e1.2 with ⟨e6, e7⟩ | ⟨g, cap', cur, e6, _, e7, _, _, e8, e9⟩
      · omega
      · simp only [Value.slice.injEq, Option.some.injEq, Addr.mk.injEq] at e6
        obtain ⟨⟨rfl, _⟩, _, _⟩ := e6
        rw [cell_of_row w b _ cur _ _ e7]
        have hlt : i * sz + j < es.length * sz := by rw [Nat.add_mul, Nat.one_mul] at hmul; omega
        have hx2 : xs[i * sz + j]? = cur[i * sz + j]? := by rw [← e9, List.getElem?_take_of_lt hlt]; simp
        rw [← hx2]
        simp [show i * sz + j < xs.length by omega]
    obtain ⟨q1, q2, q3⟩ := piece_rep (F := F) (σ := σ) (w := w) hp (fun j => xs.getD (i * sz + (off + j)) undef) (fun j hj => by
      simp only [List.length_map, List.length_drop] at hj
      have := e5 i hi (off + j) (by omega)
      simpa [RepC, Nat.add_assoc] using this)
    simp only [List.length_map, List.length_drop] at q2 q3
    have hle : 0 < ti.size → off + ti.size ≤ sz := by
      cases e : ti.agg with
      | true => have := q2 e; intro; omega
      | false => have := q3 e; have := h1 e; omega
    exact ⟨_, run_load hT ho ht hx (fun j hj => by
      have := hcell (off + j) (by have := hle (by omega); omega)
      simpa [Nat.add_assoc] using this) (fun e => by have := h1 e; omega), q1⟩

theorem tri_store_loc {t ct : TypeId} {x y : Operand} {ti : TI} {h off : Nat} {cs ys : List CV} {s : SV} (ho : o.op = .store t x y) (ht : look T t = some ti) (hs : cellsS s = some ys) (hn : ys.length = ti.size)
    (hle : off + ys.length ≤ cs.length) : Tri P o [cc (.loc h off), s] [(h, .cells ct cs)] .any [(h, .cells ct (splice cs off ys))] := by
  intro F σ X w a hr hok _
  rw [ho] at hr
  obtain ⟨b, hb, hx⟩ := (show RepC F σ w _ (.loc h off) from hr.1)
  obtain ⟨b', vs, e1, e2, e3, e4, e5⟩ := hok.ok h (.cells ct cs) (by simp [look])
  rw [hb] at e1
  obtain rfl : b = b' := by simpa using e1
  obtain ⟨q1, q2, q3⟩ := cellsS_rep (show RepS F σ w (a.eval y) s from hr.2.1) hs
  generalize hu : a.eval y = u at q1 q2 q3
  have hst := run_storeCells_at P b off ct u.cells.toList 0 vs w e3 (by simp [q1]; omega) q3
  simp only [Nat.add_zero] at hst
  have hrun : (execOp a.eval o).run P w = .ok .skip (w.setRow b (vs.toList.take off ++ u.cells.toList ++ vs.toList.drop (off + u.cells.toList.length)).toArray) := by
    simp only [execOp, ho, hx, hu, Instr.storeAt, Instr.sureAddr, storeVar, Sem.run_bind, Sem.run_pure, Result.andThen_ok, run_sizeOf_ti (hT t ti ht)]
    rw [if_neg (by rw [q1, hn]; simp)]
    rw [hst]
    rfl
  rw [hrun]
  have hlv : vs.toList.length = cs.length := by simpa using e4
  have hlu : u.cells.toList.length = ys.length := by simpa using q1
  have hall : ∀ k, X h k ↔ k = b := e2
  refine ⟨F, σ, X, trivial, ⟨?_, ?_, ?_⟩, ⟨rfl, rfl, rfl, ?_, ?_, fun _ h => h, fun _ h => .inl h, ?_, fun _ _ => rfl⟩⟩
  · intro h' o' e
    by_cases eh : h = h'
    · subst eh
      simp only [look, Nat.beq_refl, cond_true, Option.some.injEq] at e
      subst e
      refine ⟨b, _, hb, hall, setRow_heap w b vs _ ct (0, 0) e3, by rw [splice_length hle]; simp; omega, fun i hi => ?_⟩
      have hF : ∀ k, F k → (w.setRow b (vs.toList.take off ++ u.cells.toList ++ vs.toList.drop (off + u.cells.toList.length)).toArray).heap[k]? = w.heap[k]? := fun k hk => heap_setRow _ _ _ _ fun e => (hok.live h (.cells ct cs) (by simp [look]) k ((hall k).2 e)).2 hk
      refine RepC.mono (F := F) (σ := σ) (w := w) (fun _ h => h) hF (fun _ _ => rfl) ?_
      have g1 := spliced cs ys off hle i
      rw [show cs.take off ++ (ys ++ cs.drop (off + ys.length)) = splice cs off ys from rfl, List.getElem?_eq_getElem hi] at g1
      have g2 := spliced vs.toList u.cells.toList off (by omega) i
      rw [hlu] at g2
      have g3 : (vs.toList.take off ++ u.cells.toList ++ vs.toList.drop (off + u.cells.toList.length)).toArray.getD i undef = ((vs.toList.take off ++ (u.cells.toList ++ vs.toList.drop (off + ys.length)))[i]?).getD undef := by
        rw [Array.getD_eq_getD_getElem?, List.getElem?_toArray, List.append_assoc, hlu]
      rw [g3, g2]
      rw [splice_length hle] at hi
      by_cases c1 : i < off
      · simp only [c1, if_true] at g1 ⊢
        rw [List.getElem?_eq_getElem hi, Option.some.injEq] at g1
        rw [g1]
        simpa [Array.getD_eq_getD_getElem?] using e5 i hi
      · by_cases c2 : i < off + ys.length
        · simp only [c1, c2, if_true, if_false] at g1 ⊢
          rw [List.getElem?_eq_getElem (show i - off < ys.length by omega), Option.some.injEq] at g1
          rw [g1]
          simpa [Array.getD_eq_getD_getElem?] using q2 (i - off) (by omega)
        · simp only [c1, c2, if_false] at g1 ⊢
          rw [List.getElem?_eq_getElem hi, Option.some.injEq] at g1
          rw [g1]
          simpa [Array.getD_eq_getD_getElem?] using e5 i hi
    · simp [look, beq_false eh] at e
  · intro h1 h2 o1 o2 a1 a2 hne
    by_cases c1 : h = h1
    · by_cases c2 : h = h2
      · exact absurd (c1.symm.trans c2) hne
      · simp [look, beq_false c2] at a2
    · simp [look, beq_false c1] at a1
  · intro h1 o1 a1 k hk
    by_cases c1 : h = h1
    · subst c1
      have := hok.live h (.cells ct cs) (by simp [look]) k hk
      exact ⟨by simpa [World.setRow] using this.1, this.2⟩
    · simp [look, beq_false c1] at a1
  · simp [World.setRow]
  · intro k _ hk
    refine heap_setRow _ _ _ _ fun e => hk h (.cells ct cs) (by simp [look]) ((hall k).2 e)
  · intro h1 o1 a1 k hk
    by_cases c1 : h = h1
    · subst c1; exact .inr ⟨h, .cells ct cs, by simp [look], hk⟩
    · simp [look, beq_false c1] at a1
end
end Go.E
