/- A logic over abstract states. Part 24: room made by append of a make; a slice cut short. -/
import Derived.Test.YtjbiaoajmdbigaaEng22
set_option linter.unusedVariables false
set_option linter.unusedSimpArgs false
namespace Go.E
open Go

/-- What makes an object behind a draw. -/
theorem tri_newD {P : Program} {o : Oper} {vals : List SV} {res : SV} {n : Nat} {ob : LObj}
    (h : ∀ F σ w a, Reps F σ w a o.op.operands.toList vals → ∃ v obj, (execOp a.eval o).run P w = .ok (.value v) (w.drew.alloc obj) ∧
      ∀ σ' : Nat → Value, (∀ k, k ≠ n → σ' k = σ k) → σ' n = v → (w.drew.alloc obj).heap[w.heap.size]? = some obj → RepS F σ' (w.drew.alloc obj) v res ∧ ObjOK F σ' (w.drew.alloc obj) v (fun k => k = w.heap.size) ob) : Tri P o vals [] res [(n, ob)] := by
  intro F σ X w a hr _ hF
  obtain ⟨v, obj, h1, h2⟩ := h F σ w a hr
  rw [h1]
  have hs : ∀ k, k ≠ n → (fun k => if k = n then v else σ k) k = σ k := fun k hk => if_neg hk
  obtain ⟨h3, h4⟩ := h2 (fun k => if k = n then v else σ k) hs (if_pos rfl) (alloc_new w.drew obj)
  refine ⟨F, _, fun h => if h = n then (fun k => k = w.heap.size) else X h, h3, ⟨?_, ?_, ?_⟩, rfl, rfl, rfl, by simp, fun k hk _ => alloc_old w.drew obj k hk, fun _ h => h, fun _ h => .inl h, ?_, fun k hk => ?_⟩
  · intro k x e
    obtain ⟨rfl, rfl⟩ := look_one e
    simpa using h4
  · intro k k' x x' e e' hne
    obtain ⟨rfl, rfl⟩ := look_one e
    exact absurd (look_one e').1.symm hne
  · intro k x e j hj
    obtain ⟨rfl, rfl⟩ := look_one e
    simp only [if_true] at hj
    subst hj
    exact ⟨by simp, fun hf => by have := hF _ hf; omega⟩
  · intro k x e j hj
    obtain ⟨rfl, rfl⟩ := look_one e
    simp only [if_true] at hj
    exact .inl (by omega)
  · refine if_neg fun e => ?_
    subst e
    rcases hk with hk | hk
    · simp [look] at hk
    · exact hk rfl

section
variable {P : Program} {T : Tab} (hT : TabOK P T)
include hT
/-- The first elements of an array of one's own. -/
theorem tri_cut_own {t ty : TypeId} {x hi : Operand} {e sz bytes h k n : Nat} {q : IntKind} {es : List (List DV)} (ho : appOK T t e sz bytes = true) (hk : k ≤ es.length) (hn : Nat.beq n h = false) :
    Tri P (mkO (.slice t x none (some hi) none) ty) [cc (.own h), sc (.int q k)] [(h, .arr e sz bytes es)] (cc (.own n)) [(n, .arr e sz bytes (es.take k))] := by
  intro F σ X w a hr hok hF
  obtain ⟨ht, _, inf, z, hinf, _, hsize, _⟩ := appOK_parts hT ho
  obtain ⟨h1, h2, _⟩ := (show RepS F σ w (a.eval x) (cc (.own h)) ∧ RepS F σ w (a.eval hi) (sc (.int q k)) ∧ True from hr)
  have hix : a.eval hi = .int q k := scal_rep h2 rfl
  obtain ⟨hv, _⟩ := (show RepC F σ w (a.eval x) (.own h) from h1)
  have hl : look [(h, LObj.arr e sz bytes es)] h = some (.arr e sz bytes es) := by simp [look]
  obtain ⟨xs, e1, e2, e3, e4, e5⟩ := hok.ok h _ hl
  have hne : n ≠ h := fun c => by subst c; simp at hn
  have key : ∃ v', (execOp a.eval (mkO (.slice t x none (some hi) none) ty)).run P w = .ok (.value v') w ∧ v'.ownBlock = (σ h).ownBlock ∧ v'.oneCell' = true ∧ w.ownsRow 0 e sz v' k (xs.take (k * sz)) := by
    have hlen : (xs.take (k * sz)).length = k * sz := by
      rw [List.length_take, e1.1]
      have := Nat.mul_le_mul_right sz hk
      omega
    rcases e1.2 with ⟨c, c0⟩ | ⟨g, cap, cur, c, hb, hg, hnc, hcm, hcs, htake⟩
    · have hk0 : k = 0 := by omega
      subst hk0
      refine ⟨.slice none 0 0, ?_, by rw [c], rfl, ⟨hlen, .inl ⟨rfl, rfl⟩⟩⟩
      rw [c] at hv
      simp [execOp, mkO, hv, hix, Instr.sliceAt, Instr.slice, run_underlying ht, Instr.sliceBounds, Instr.sliceBound, sizeOf, typeInfo, hinf, asIntOf]
    · refine ⟨.slice (some ⟨g, 0, none⟩) k cap, ?_, by rw [c]; rfl, rfl, ⟨hlen, .inr ⟨g, cap, cur, rfl, hb, hg, by omega, hcm, hcs, ?_⟩⟩⟩
      · rw [c] at hv
        have hkc : k ≤ cap := by omega
        simp [execOp, mkO, hv, hix, Instr.sliceAt, Instr.slice, run_underlying ht, Instr.sliceBounds, Instr.sliceBound, sizeOf, typeInfo, hinf, asIntOf, hkc, add_none]
      · rw [← htake, List.take_take]
        congr 1
        have := Nat.mul_le_mul_right sz hk
        omega
  obtain ⟨v', hrun, hob, hone, hrow⟩ := key
  rw [hrun]
  have htk : (es.take k).length = k := by simp; omega
  refine ⟨F, fun j => if j = n then v' else σ j, fun j b => if j = n then X h b else X j b, ⟨by simp, by simpa using hone⟩, ⟨fun j o e0 => ?_, fun j j' o o' e0 e0' hd => ?_, fun j o e0 b hb => ?_⟩, rfl, rfl, rfl, Nat.le_refl _, fun _ _ _ => rfl, fun _ h => h, fun _ h => .inl h, fun j o e0 b hb => ?_, fun j hj => ?_⟩
  · obtain ⟨rfl, rfl⟩ := look_one e0
    simp only [if_true]
    refine ⟨xs.take (k * sz), by rw [htk]; exact hrow, fun b => by rw [hob]; exact e2 b, fun y hy => e3 y (List.mem_of_mem_take hy), ?_, fun i hi j hj => ?_⟩
    · rw [htk]; exact Nat.le_trans (Nat.mul_le_mul_right _ hk) e4
    · have hi' : i < es.length := by omega
      have hik : i < k := by omega
      simp only [List.getElem_take] at hj ⊢
      have := e5 i hi' j hj
      have hjs : j < sz := by rw [e3 _ (List.getElem_mem hi')] at hj; exact hj
      have hlt : i * sz + j < k * sz := by
        have := Nat.mul_le_mul_right sz (show i + 1 ≤ k from hik)
        rw [Nat.add_mul, Nat.one_mul] at this
        omega
      simpa [List.getD_eq_getElem?_getD, List.getElem?_take, hlt] using this
  · obtain ⟨rfl, rfl⟩ := look_one e0
    exact absurd (look_one e0').1.symm hd
  · obtain ⟨rfl, rfl⟩ := look_one e0
    simp only [if_true] at hb
    exact hok.live h _ hl b hb
  · obtain ⟨rfl, rfl⟩ := look_one e0
    simp only [if_true] at hb
    exact .inr ⟨h, _, hl, hb⟩
  · refine if_neg fun c => ?_
    subst c
    rcases hj with hj | hj
    · simp [look] at hj
    · exact hj (by simp [look, beq_false hne.symm])
/-- Room for so many elements: zeros behind nothing. -/
theorem tri_zeros_nil {t ti ty : TypeId} {s x : Operand} {e sz bytes n m : Nat} {q : IntKind} {zs : List Value} (ho : appOK T t e sz bytes = true) (hint : ∃ k, P.underlying ti = some (.int k))
    (hz : ((look T e).bind (·.zero)) = some zs) (hz1 : zs.all Value.oneCell' = true) (hm : 0 < m) (hs0 : 0 < sz) (hb : m * bytes ≤ 140737488355328) :
    Tri P (mkO (.call { callee := .builtin .append, args := #[s, x], argTypes := #[t, ti] }) ty) [sc (.slice none 0 0), sc (.int q m)] [] (cc (.own n)) [(n, .arr e sz bytes (List.replicate m (zs.map .v)))] :=
  tri_newD fun F σ w a hr => by
    obtain ⟨ht, hb1, i, z, hi, hiz, hsize, hby, hzs⟩ := appOK_parts hT ho
    obtain ⟨k, hk⟩ := hint
    obtain ⟨h1, h2, _⟩ := (show RepS F σ w (a.eval s) (sc (.slice none 0 0)) ∧ RepS F σ w (a.eval x) (sc (.int q m)) ∧ True from hr)
    have hs : a.eval s = .slice none 0 0 := scal_rep h1 rfl
    have hx : a.eval x = .int q m := scal_rep h2 rfl
    subst hsize
    subst hby
    have hzc : z.cells.toList = zs := by
      cases h3 : look T e with
      | none => rw [h3] at hz; cases hz
      | some ei =>
        rw [h3] at hz
        obtain ⟨i2, d2, hi2, _, _, _, _, hz2, _⟩ := ti_parts (hT e ei h3)
        rw [hi] at hi2
        obtain rfl := Option.some.inj hi2
        rw [hiz] at hz2
        simp only [Option.map_some] at hz2
        have hz' : ei.zero = some zs := by simpa using hz
        rw [hz'] at hz2
        exact (Option.some.inj hz2).symm
    have hmle : m ≤ 140737488355328 := Nat.le_trans (Nat.le_mul_of_pos_right _ hb1) hb
    have hw : IntKind.i64.wrap (m : Int) = m := by rw [IntKind.wrap_i64]; omega
    have hneg : ¬ ((m : Int) < 0) := by omega
    have hbig : ¬ (281474976710656 < (m : Int) * (i.bytes : Int)) := by rw [← Int.natCast_mul]; omega
    have hm0 : ¬ (m = 0) := by omega
    have h63' : ¬ (9223372036854775807 < (m : Int)) := by omega
    have hfit := growslice_fits (need := m) (old := 0) (by omega) hb
    have h48' : ¬ (281474976710656 < Builtin.nextslicecap m 0 * i.bytes) := by omega
    have hge := grownCap_ge w m 0 e
    have hcm : grownCap w m 0 e ≤ maxLen := grownCap_le_maxLen w m 0 e (by simp only [maxLen]; omega)
    have hsz : z.cells.size = i.size := hzs
    have hzl : zs.length = i.size := by rw [← hzc, Array.length_toList, hsz]
    refine ⟨.slice (some ⟨w.heap.size, 0, none⟩) m (grownCap w m 0 e), .cells (Builtin.zeroCells z.cells m ++ Builtin.zeroCells z.cells (grownCap w m 0 e - m)) e, ?_, fun σ' _ hn hh => ⟨⟨hn.symm, by rw [hn]; rfl⟩, (Builtin.zeroCells z.cells m).toList, ⟨?_, .inr ⟨w.heap.size, _, _, by simp, Nat.zero_le _, hh, ?_, hcm, ?_, ?_⟩⟩, fun k => by simp [Value.ownBlock, eq_comm], ?_, by simpa using hb, fun a' ha' j hj => ?_⟩⟩
    · have hms : ¬ (m * i.size = 0) := Nat.mul_ne_zero hm0 (by omega)
      simp [execOp, mkO, resolve, invoke, builtin, hs, hx, Builtin.append_, run_underlying ht, run_underlying hk, sizeOf, typeInfo, zeroValue, hi, hiz, asInt, asIntOf, hw, hneg, hbig, hm0, h63', h48', Question.forced, Builtin.firstCells, newRow, grownCap, hms]
    · rw [Array.length_toList, size_zeroCells, hsz, List.length_replicate]
    · rw [List.length_replicate]; exact hge
    · rw [Array.size_append, size_zeroCells, size_zeroCells, hsz, ← Nat.add_mul]
      congr 1
      omega
    · rw [List.length_replicate, Array.toList_append]
      have : (Builtin.zeroCells z.cells m).toList.length = m * i.size := by rw [Array.length_toList, size_zeroCells, hsz]
      rw [← this]
      exact List.take_left
    · intro y hy
      rw [List.eq_of_mem_replicate hy, List.length_map, hzl]
    · rw [List.length_replicate] at ha'
      simp only [List.getElem_replicate, List.length_map, List.getElem_map] at hj ⊢
      have hjs : j < i.size := by omega
      have hlt : a' * i.size + j < m * z.cells.size := by
        have := Nat.mul_le_mul_right i.size (show a' + 1 ≤ m from ha')
        rw [Nat.add_mul, Nat.one_mul] at this
        rw [hsz]; omega
      have hmod : (a' * i.size + j) % z.cells.size = j := by rw [hsz]; exact (row_div_mod hjs).2
      have hval : (Builtin.zeroCells z.cells m).toList.getD (a' * i.size + j) undef = zs[j] := by
        have hjz : j < z.cells.size := by omega
        simp only [List.getD_eq_getElem?_getD, Array.getElem?_toList, Builtin.zeroCells, Array.getElem?_map, Array.getElem?_range, hlt, if_true, Option.map_some, Option.getD_some, hmod]
        rw [getElem!_pos z.cells j hjz]
        simp only [← hzc, Array.getElem_toList]
      rw [hval]
      exact RepD.v _ (List.all_eq_true.1 hz1 _ (List.getElem_mem _))
end
end Go.E
