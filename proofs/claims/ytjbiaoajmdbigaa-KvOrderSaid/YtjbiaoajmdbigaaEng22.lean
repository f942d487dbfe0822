/- A logic over abstract states. Part 22: slices written out as data; structs of plain fields, equal or not. -/
import Derived.Test.YtjbiaoajmdbigaaEng21
import Derived.Laws.StructEq
set_option linter.unusedVariables false
set_option linter.unusedSimpArgs false
namespace Go.E
open Go

/-- A new array that is data at once. -/
theorem tri_data {P : Program} {o : Oper} {vals : List SV} {n e sz bytes : Nat} {es : List (List DV)} (h : Tri P o vals [] (cc (.own n)) [(n, .arr e sz bytes es)]) : Tri P o vals [] (cc (.d (.sl es))) [] := by
  intro F σ X w a hr hok hF
  refine Upon.mono (h F σ X w a hr hok hF) ?_
  rintro v w' ⟨F', σ', X', h1, h2, h3⟩
  have hl : look [(n, LObj.arr e sz bytes es)] n = some (.arr e sz bytes es) := by simp [look]
  obtain ⟨hv, _⟩ := (show RepC F' σ' w' v (.own n) from h1)
  refine ⟨fun k => F' k ∨ X' n k, σ, X', ?_, OKs.nil, h3.os, h3.tape, h3.output, h3.size, h3.same, fun k hk => .inl (h3.frz k hk), fun k hk => ?_, fun h o e => by simp [look] at e, fun _ _ => rfl⟩
  · show RepD _ w' v (.sl es)
    rw [hv]
    exact arr_data (h2.ok n _ hl)
  · rcases hk with hk | hk
    · rcases h3.new k hk with c | ⟨c, d⟩
      · exact .inl c
      · exact .inr ⟨c, d⟩
    · exact .inr ⟨(h2.live n _ hl k hk).1, h3.foot n _ hl k hk⟩

def sliceOK (T : Tab) (t e sz bytes len : Nat) (idx : List Nat) : Bool :=
  match look T t, look T e with
  | some ti, some ei => ti.elem == some e && (ei.size == sz && (ei.bytes == bytes && (ei.zero.isSome && (idx == List.range' 0 len && (Nat.ble (len * sz) (2 ^ 24) && (Nat.ble len (2 ^ 24) && Nat.ble (len * bytes) 140737488355328))))))
  | _, _ => false
theorem tri_slice_data {P : Program} {T : Tab} (hT : TabOK P T) {t ty e sz bytes len : Nat} {parts : Array (Nat × Operand)} {ss : List SV} {es : List (List DV)} (h : sliceOK T t e sz bytes len (parts.toList.map (·.1)) = true) (hs : elems sz ss = some es) :
    Tri P (mkO (.buildSlice t len parts) ty) ss [] (cc (.d (.sl es))) [] := by
  unfold sliceOK at h
  split at h
  · rename_i ti ei h1 h2
    simp only [Bool.and_eq_true, beq_iff_eq] at h
    obtain ⟨g1, rfl, rfl, g4, g5, g6, g7, g8⟩ := h
    obtain ⟨z, hz⟩ := Option.isSome_iff_exists.1 g4
    exact tri_data (tri_buildSlice hT 0 rfl h1 g1 h2 hz g5 hs (Nat.le_of_ble_eq_true g6) (Nat.le_of_ble_eq_true g7) (Nat.le_of_ble_eq_true g8))
  · cases h

/-! ### Structs of plain fields -/
def eqV : Value → Value → Bool
  | .bool a, .bool b => a == b
  | .int _ a, .int _ b => a == b
  | .string a, .string b => eqS a b
  | _, _ => false
def fitsV : TypeDesc → Value → Bool
  | .bool, .bool _ => true
  | .int _, .int _ _ => true
  | .string, .string _ => true
  | _, _ => false
def kindV (d : TypeDesc) (x y : Value) : Bool := match d, x, y with
  | .bool, .bool _, .bool _ => true
  | .int _, .int k _, .int k' _ => decide (k = k')
  | .string, .string _, .string _ => true
  | _, _, _ => false
def eqVs : List Value → List Value → Bool
  | a :: as, b :: bs => eqV a b && eqVs as bs
  | _, _ => true
/-- Fields of one plain cell each, one behind the other, and what they hold on both sides. -/
def eqFit (P : Program) : List Field → Nat → List Value → List Value → Bool
  | [], _, [], [] => true
  | f :: fs, i, a :: as, b :: bs => (f.name != "_") && ((f.offset == i) && ((match P.underlying f.type with | some d => kindV d a b | none => false) && eqFit P fs (i + 1) as bs))
  | _, _, _, _ => false

theorem run_part_one {P : Program} {w : World} {t : TypeId} {d : TypeDesc} (hd : P.underlying t = some d) (hs : aggD d = false) (xs : Array Value) (i : Nat) (h : i < xs.size) : (part t xs i).run P w = .ok (xs.getD i undef) w := by
  have hia : (isAgg t).run P w = .ok false w := by
    unfold isAgg
    rw [Sem.run_bind, run_underlying hd w]
    cases d <;> first | rfl | cases hs
  simp [part, hia, h]

theorem run_eq_plain {P : Program} {w : World} {d : Nat} {xs ys : Array Value} : ∀ {fs : List Field} {i : Nat} {as bs : List Value}, eqFit P fs i as bs = true → (∀ j (h : j < as.length), xs.getD (i + j) undef = as[j]) → (∀ j (h : j < bs.length), ys.getD (i + j) undef = bs[j]) → i + as.length ≤ xs.size → i + bs.length ≤ ys.size →
    (Op.eqFields (d + 1) xs ys fs).run P w = .ok (eqVs as bs) w
  | [], i, [], [], _, _, _, _, _ => by simp [Op.eqFields, eqVs]
  | f :: fs, i, a :: as, b :: bs, h, hx, hy, h1, h2 => by
    simp only [eqFit, Bool.and_eq_true, beq_iff_eq, bne_iff_ne, ne_eq] at h
    obtain ⟨g1, rfl, g3, g4⟩ := h
    simp only [List.length_cons] at h1 h2
    cases hd : P.underlying f.type with
    | none => rw [hd] at g3; cases g3
    | some de =>
      rw [hd] at g3
      replace g3 : kindV de a b = true := g3
      have hagg : aggD de = false := by
        unfold kindV at g3
        split at g3 <;> first | rfl | cases g3
      have e1 := run_part_one (P := P) (w := w) hd hagg xs f.offset (by omega)
      have e2 := run_part_one (P := P) (w := w) hd hagg ys f.offset (by omega)
      have hx0 := hx 0 (by simp)
      have hy0 := hy 0 (by simp)
      simp only [Nat.add_zero, List.getElem_cons_zero] at hx0 hy0
      rw [hx0] at e1
      rw [hy0] at e2
      have e3 : (Op.equalIn (d + 1) f.type a b).run P w = .ok (eqV a b) w := by
        unfold kindV at g3
        split at g3
        · exact run_equalIn_bool' w d _ _ _ hd
        · obtain rfl := of_decide_eq_true g3; exact run_equalIn_int w d _ _ _ _ _ hd
        · rw [run_equalIn_string w d _ _ _ hd, eqS_eq]; rfl
        · cases g3
      have ih := run_eq_plain (d := d) (w := w) (xs := xs) (ys := ys) g4 (fun j hj => by have := hx (j + 1) (by simpa using hj); simpa [Nat.add_assoc, Nat.add_comm 1 j] using this) (fun j hj => by have := hy (j + 1) (by simpa using hj); simpa [Nat.add_assoc, Nat.add_comm 1 j] using this) (by omega) (by omega)
      rw [Op.eqFields]
      simp only [ne_eq, g1, not_false_eq_true, if_true, Sem.run_bind, e1, e2, e3, Result.andThen_ok, eqVs]
      cases eqV a b with
      | false => simp
      | true => simpa using ih
  | [], _, _ :: _, _, h, _, _, _, _ => by simp [eqFit] at h
  | [], _, [], _ :: _, h, _, _, _, _ => by simp [eqFit] at h
  | _ :: _, _, [], _, h, _, _, _, _ => by simp [eqFit] at h
  | _ :: _, _, _ :: _, [], h, _, _, _, _ => by simp [eqFit] at h

def dvs (l : List Value) : SV := .t (.agg (l.map fun x => .d (.v x)))
def eqTy (P : Program) (t : TypeId) (as bs : List Value) : Bool :=
  match P.underlying t with
  | some (.struct fs) => !(P.stoodInHeld t) && (!(P.eqGuardType P.depth t) && eqFit P fs.toList 0 as bs)
  | _ => false
theorem rep_dvs {F : Nat → Prop} {σ : Nat → Value} {w : World} {x : Value} {l : List Value} (h : RepS F σ w x (dvs l)) : ∃ cs : Array Value, x = .agg cs ∧ cs.size = l.length ∧ ∀ j (h : j < l.length), cs.getD j undef = l[j] := by
  obtain ⟨cs, h1, h2, h3⟩ := h
  refine ⟨cs, h1, by simpa using h2, fun j hj => ?_⟩
  have := h3 j (by simpa using hj)
  simp only [List.getElem_map] at this
  exact scal_rep (show RepS F σ w _ (sc l[j]) from this) rfl
theorem tri_eqStruct {P : Program} {t u ty : TypeId} {x y : Operand} (as bs : List Value) (neg : Bool) (h : eqTy P t as bs = true) :
    Tri P (mkO (.binOp (bif neg then .neq else .eql) t x y u) ty) [dvs as, dvs bs] [] (sc (.bool (bif neg then !(eqVs as bs) else eqVs as bs))) [] :=
  tri_of_value fun F σ X w a hr _ => by
    obtain ⟨h1, h2, _⟩ := (show RepS F σ w (a.eval x) (dvs as) ∧ RepS F σ w (a.eval y) (dvs bs) ∧ True by cases neg <;> exact hr)
    obtain ⟨xs, e1, s1, g1⟩ := rep_dvs h1
    obtain ⟨ys, e2, s2, g2⟩ := rep_dvs h2
    unfold eqTy at h
    split at h
    · rename_i fs hu
      simp only [Bool.and_eq_true, Bool.not_eq_true'] at h
      obtain ⟨k1, k2, k3⟩ := h
      have hf : P.fieldsOf t = fs := by simp [Program.fieldsOf, hu]
      have hrun : (Op.equalIn 10000 t (.agg xs) (.agg ys)).run P w = .ok (eqVs as bs) w := by
        rw [run_equalIn_struct (P := P) w 9999 t xs ys (by rw [hf]; exact hu) k1, hf]
        exact run_eq_plain (d := 9998) k3 (fun j hj => by simpa using g1 j hj) (fun j hj => by simpa using g2 j hj) (by omega) (by omega)
      refine ⟨.bool (bif neg then !(eqVs as bs) else eqVs as bs), ?_, RepD.v _ rfl⟩
      cases neg with
      | false => simp only [execOp, mkO, e1, e2, cond_false, Sem.run_bind, run_eqGuard_agg w _ _ _ _ _ _ k2, Result.andThen_ok, run_eql_struct w, hrun]; rfl
      | true => simp only [execOp, mkO, e1, e2, cond_true, Sem.run_bind, run_eqGuard_agg w _ _ _ _ _ _ k2, Result.andThen_ok, run_neq_struct w, hrun]; rfl
    · cases h
end Go.E
