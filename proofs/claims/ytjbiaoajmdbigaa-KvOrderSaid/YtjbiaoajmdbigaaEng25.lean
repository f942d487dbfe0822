/- A logic over abstract states. Part 25: slices that may be nil or not; elements of arrays of one's own, written. -/
import Derived.Test.YtjbiaoajmdbigaaEng24
set_option linter.unusedVariables false
set_option linter.unusedSimpArgs false
namespace Go.E
open Go

/-- A slice that is not nil. -/
def nnR (es : List (List DV)) : (Nat → Prop) → World → Value → (Nat → Prop) → Prop := fun F w x X => (∃ a n c, x = .slice (some a) n c) ∧ RepD F w x (.sl es) ∧ ∀ k, ¬ X k
theorem nnR_ok {F : Nat → Prop} {σ : Nat → Value} {w : World} {x : Value} {X : Nat → Prop} {es : List (List DV)} : ObjOK F σ w x X (.opq (nnR es)) ↔ nnR es F w x X := by
  refine ⟨fun h => h.1, fun h => ⟨h, fun F' w' hF hw => ?_⟩⟩
  obtain ⟨h1, h2, h3⟩ := h
  exact ⟨h1, RepD.mono hF (fun b hb => hw b (.inl hb)) h2, h3⟩
theorem sl_shape {F : Nat → Prop} {w : World} {x : Value} {es : List (List DV)} (h : RepD F w x (.sl es)) : (x = .slice none 0 0 ∧ es = []) ∨ ∃ a c, x = .slice (some a) es.length c := by
  cases h with
  | sl a cap sz _ val hcap hm hsz ha hnil _ =>
    cases a with
    | some a => exact .inr ⟨a, cap, rfl⟩
    | none =>
      have hl : ¬ 0 < es.length := fun h => by obtain ⟨b, off, e, _⟩ := ha h; cases e
      have hes : es = [] := List.eq_nil_of_length_eq_zero (by omega)
      subst hes
      exact .inl ⟨by rw [hnil rfl]; rfl, rfl⟩

/-- What is told of a function at a slice, from what is told of it at nil and at one that is not nil. -/
theorem Sat.nilOr {P : Program} {f : FuncId} {as : List SV} {l l' : Objs} {res : SV} (i h0 : Nat) (es : List (List DV)) (hi : as[i]? = some (cc (.d (.sl es)))) (hz : es = [] → Sat P f (as.set i (sc (.slice none 0 0))) l res l')
    (hn : Sat P f (as.set i (cc (.own h0))) ((h0, .opq (nnR es)) :: l) res l') (hf : (as.any (SV.has h0) || (l.any fun p => Nat.beq p.1 h0 || p.2.has h0) || (l'.any fun p => Nat.beq p.1 h0 || p.2.has h0) || res.has h0) = false) : Sat P f as l res l' := by
  obtain ⟨hlt, hai⟩ := List.getElem?_eq_some_iff.1 hi
  obtain ⟨h1, h2⟩ := hn
  simp only [Bool.or_eq_false_iff] at hf
  obtain ⟨⟨⟨f1, f2⟩, f3⟩, f4⟩ := hf
  have hob : ∀ {m : Objs}, (m.any fun p => Nat.beq p.1 h0 || p.2.has h0) = false → ∀ k o, look m k = some o → k ≠ h0 ∧ o.has h0 = false := fun hm k o e => by
    rw [List.any_eq_false] at hm
    have := hm _ (look_mem e)
    simp only [Bool.or_eq_true, not_or, Bool.not_eq_true] at this
    exact ⟨fun c => by subst c; simp at this, this.2⟩
  refine ⟨h1, fun F σ X w vs hn hv hok hF => ?_⟩
  have hvi := hv i hlt
  rw [hai] at hvi
  have hd : RepD F w (vs.getD i undef) (.sl es) := hvi
  rcases sl_shape hd with ⟨hnil, hes⟩ | ⟨a, c, hsome⟩
  · refine (hz hes).2 F σ X w vs (by simpa using hn) (fun j hj => ?_) hok hF
    have hj' : j < as.length := by simpa using hj
    by_cases c : i = j
    · subst c
      have e1 : (as.set i (sc (.slice none 0 0)))[i] = sc (.slice none 0 0) := by simp
      rw [e1, hnil]
      exact RepD.v _ rfl
    · have e1 : (as.set i (sc (.slice none 0 0)))[j] = as[j] := by simp [c]
      rw [e1]
      exact hv j hj'
  · have hσ : ∀ k, k ≠ h0 → (fun k => if k = h0 then vs.getD i undef else σ k) k = σ k := fun k hk => if_neg hk
    have hl : ∀ k o, look ((h0, LObj.opq (nnR es)) :: l) k = some o → (k = h0 ∧ o = .opq (nnR es)) ∨ (k ≠ h0 ∧ look l k = some o) := fun k o e1 => by
      by_cases c : h0 = k
      · subst c; simp only [look, Nat.beq_refl, cond_true, Option.some.injEq] at e1; exact .inl ⟨rfl, e1.symm⟩
      · simp only [look, beq_false c, cond_false] at e1; exact .inr ⟨fun d => c d.symm, e1⟩
    refine Calls.mono (h2 F (fun k => if k = h0 then vs.getD i undef else σ k) (fun k b => if k = h0 then False else X k b) w vs (by simpa using hn) (fun j hj => ?_) ⟨fun k o e1 => ?_, fun k k' o o' e1 e2 hk b hb hb' => ?_, fun k o e1 b hb => ?_⟩ hF) fun ex w' he => ?_
    · have hj' : j < as.length := by simpa using hj
      by_cases c' : i = j
      · subst c'
        have e1 : (as.set i (cc (.own h0)))[i] = cc (.own h0) := by simp
        rw [e1]
        exact ⟨by simp, by simp [hsome, Value.oneCell']⟩
      · have e1 : (as.set i (cc (.own h0)))[j] = as[j] := by simp [c']
        rw [e1]
        refine RepS.mono (fun _ h => h) (fun _ _ => rfl) (fun k hk => hσ k fun d => ?_) (hv j hj')
        subst d
        rw [List.any_eq_false] at f1
        have := f1 _ (List.getElem_mem hj')
        rw [hk] at this
        exact this rfl
    · rcases hl k o e1 with ⟨rfl, rfl⟩ | ⟨c', e1⟩
      · simp only [if_true]
        exact nnR_ok.2 ⟨⟨a, _, c, hsome⟩, hd, fun _ h => h⟩
      · simp only [if_neg c']
        exact ObjOK.mono (fun _ h => h) (fun _ _ => rfl) (fun j hj => hσ j fun d => by rw [d, (hob f2 k o e1).2] at hj; cases hj) (hok.ok k o e1)
    · rcases hl k o e1 with ⟨rfl, rfl⟩ | ⟨c1, e1⟩
      · simp only [if_true] at hb
      · rcases hl k' o' e2 with ⟨rfl, rfl⟩ | ⟨c', e2⟩
        · simp only [if_true] at hb'
        · simp only [if_neg c1, if_neg c'] at hb hb'
          exact hok.apart k k' o o' e1 e2 hk b hb hb'
    · rcases hl k o e1 with ⟨rfl, rfl⟩ | ⟨c1, e1⟩
      · simp only [if_true] at hb
      · simp only [if_neg c1] at hb
        exact hok.live k o e1 b hb
    · obtain ⟨v, rfl, F', σ', X', q1, q2, q3⟩ := he
      have hσ' : ∀ k, k ≠ h0 → (fun k => if k = h0 then σ h0 else σ' k) k = σ' k := fun k hk => if_neg hk
      refine ⟨v, rfl, F', fun k => if k = h0 then σ h0 else σ' k, X', RepS.mono (fun _ h => h) (fun _ _ => rfl) (fun k hk => hσ' k fun d => by rw [d, f4] at hk; cases hk) q1, ⟨fun k o e1 => ?_, q2.apart, q2.live⟩, q3.os, q3.tape, q3.output, q3.size, fun k hk hx => q3.same k hk fun h o e1 => ?_, q3.frz, fun k hk => ?_, fun h o e1 k hk => ?_, fun k hk => ?_⟩
      · have hk := hob f3 k o e1
        simp only [if_neg hk.1]
        exact ObjOK.mono (fun _ h => h) (fun _ _ => rfl) (fun j hj => hσ' j fun d => by rw [d, hk.2] at hj; cases hj) (q2.ok k o e1)
      · rcases hl h o e1 with ⟨rfl, rfl⟩ | ⟨c1, e1⟩
        · simp
        · simp only [if_neg c1]; exact hx h o e1
      · rcases q3.new k hk with c1 | ⟨c1, d⟩
        · exact .inl c1
        · refine .inr ⟨c1, d.imp id ?_⟩
          rintro ⟨h, o, e1, hx⟩
          rcases hl h o e1 with ⟨rfl, rfl⟩ | ⟨c2, e1⟩
          · simp at hx
          · simp only [if_neg c2] at hx; exact ⟨h, o, e1, hx⟩
      · refine (q3.foot h o e1 k hk).imp id ?_
        rintro ⟨h', o', e2, hx⟩
        rcases hl h' o' e2 with ⟨rfl, rfl⟩ | ⟨c2, e2⟩
        · simp at hx
        · simp only [if_neg c2] at hx; exact ⟨h', o', e2, hx⟩
      · by_cases c1 : k = h0
        · simp [c1]
        · simp only [if_neg c1]
          have := q3.sig k (hk.imp id fun d => by simp only [look, beq_false (fun e => c1 e.symm : ¬ h0 = k), cond_false]; exact d)
          rw [this]
          exact if_neg c1

section
variable {P : Program} {T : Tab} (hT : TabOK P T)
include hT
theorem sl_kind {t : TypeId} (hk : ((look T t).map (·.kind)) = some 2) : ∃ e, P.underlying t = some (.slice e) := by
  cases e1 : look T t with
  | none => rw [e1] at hk; cases hk
  | some ti =>
    rw [e1] at hk
    obtain ⟨i, d, _, hd, _, _, _, _, _, _, _, hkd⟩ := ti_parts (hT t ti e1)
    simp only [Option.map_some, Option.some.injEq] at hk
    rw [hkd] at hk
    cases d <;> simp [kindD] at hk
    exact ⟨_, hd⟩
omit hT in
theorem run_equalIn_sl_nil (w : World) (d : Nat) {t e : TypeId} (a : Option Addr) (l c : Nat) (h : P.underlying t = some (.slice e)) : (Op.equalIn (d + 1) t (.slice a l c) (.slice none 0 0)).run P w = .ok a.isNone w := by
  cases a <;> simp [Op.equalIn, run_underlying h]
omit hT in
theorem run_equal_sl_nil (w : World) {t e : TypeId} (a : Option Addr) (l c : Nat) (h : P.underlying t = some (.slice e)) : (Op.equal t (.slice a l c) (.slice none 0 0)).run P w = .ok a.isNone w := run_equalIn_sl_nil w 9999 a l c h
theorem tri_nn_eql {t u ty : TypeId} {x y : Operand} {h : Nat} {es : List (List DV)} (neg : Bool) (hk : ((look T t).map (·.kind)) = some 2) :
    Tri P (mkO (.binOp (bif neg then .neq else .eql) t x y u) ty) [cc (.own h), sc (.slice none 0 0)] [(h, .opq (nnR es))] (sc (.bool neg)) [(h, .opq (nnR es))] :=
  tri_of_value fun F σ X w a hr hok => by
    obtain ⟨e, he⟩ := sl_kind hT hk
    obtain ⟨h1, h2, _⟩ := (show RepS F σ w (a.eval x) (cc (.own h)) ∧ RepS F σ w (a.eval y) (sc (.slice none 0 0)) ∧ True by cases neg <;> exact hr)
    obtain ⟨hv, _⟩ := (show RepC F σ w (a.eval x) (.own h) from h1)
    have hy : a.eval y = .slice none 0 0 := scal_rep h2 rfl
    obtain ⟨⟨ad, n, c, e1⟩, _⟩ := nnR_ok.1 (hok.ok h (.opq (nnR es)) (by simp [look]))
    rw [e1] at hv
    refine ⟨.bool neg, ?_, RepD.v _ rfl⟩
    cases neg <;> simp [execOp, mkO, hv, hy, eqGuard, binOp, run_equal_sl_nil w (some ad) n c he]
theorem tri_nil_eql {t u ty : TypeId} {x y : Operand} (neg : Bool) (hk : ((look T t).map (·.kind)) = some 2) :
    Tri P (mkO (.binOp (bif neg then .neq else .eql) t x y u) ty) [sc (.slice none 0 0), sc (.slice none 0 0)] [] (sc (.bool (!neg))) [] :=
  tri_of_value fun F σ X w a hr hok => by
    obtain ⟨e, he⟩ := sl_kind hT hk
    obtain ⟨h1, h2, _⟩ := (show RepS F σ w (a.eval x) (sc (.slice none 0 0)) ∧ RepS F σ w (a.eval y) (sc (.slice none 0 0)) ∧ True by cases neg <;> exact hr)
    have hx : a.eval x = .slice none 0 0 := scal_rep h1 rfl
    have hy : a.eval y = .slice none 0 0 := scal_rep h2 rfl
    refine ⟨.bool (!neg), ?_, RepD.v _ rfl⟩
    cases neg <;> simp [execOp, mkO, hx, hy, eqGuard, binOp, run_equal_sl_nil w none 0 0 he]
theorem tri_append_nn {t tx ty : TypeId} {s x : Operand} {e ex sz bytes h0 h1 n : Nat} {es es2 : List (List DV)} (ho : appOK T t e sz bytes = true) (hx : appOK T tx ex sz bytes = true) (hk : (Nat.beq n h0 || (Nat.beq h1 h0 || Nat.beq h1 n)) = false) (hes : ∀ y ∈ es2, y.length = sz) (hb : (es.length + es2.length) * bytes ≤ 140737488355328) :
    Tri P (mkO (.call { callee := .builtin .append, args := #[s, x], argTypes := #[t, tx] }) ty) [cc (.own h0), cc (.own h1)] [(h0, .arr e sz bytes es), (h1, .opq (nnR es2))] (cc (.own n)) [(n, .arr e sz bytes (es ++ es2)), (h1, .opq (nnR es2))] := by
  simp only [Bool.or_eq_false_iff] at hk
  refine tri_append hT ho ⟨?_, ?_, hk.1, rfl⟩ (fun F σ X w x h hok => ?_) hes hb
  · simp [look, hk.2.1]
  · simp [look, hk.2.2]
  · have := nnR_ok.1 (hok.ok h1 (.opq (nnR es2)) (by simp [look]))
    obtain ⟨hv, _⟩ := (show RepC F σ w x (.own h1) from h)
    rw [hv]
    exact srcD_sl (slice_kind hT hx) hes this.2.1

/-- An element of an array of one's own, or a piece of it, is written. -/
theorem tri_store_eloc {t ty : TypeId} {x y : Operand} {ti : TI} {h i off sz e bytes : Nat} {es : List (List DV)} {z ds : List DV} {s : SV} (ht : look T t = some ti) (hs : cellsS s = some (ds.map .d)) (hn : ds.length = ti.size)
    (hz : es[i]? = some z) (hle : off + ds.length ≤ sz) :
    Tri P (mkO (.store t x y) ty) [cc (.eloc h i off sz), s] [(h, .arr e sz bytes es)] .any [(h, .arr e sz bytes (es.set i (z.take off ++ (ds ++ z.drop (off + ds.length)))))] := by
  intro F σ X w a hr hok hF
  obtain ⟨b, n, cap, hb, hx⟩ := (show RepC F σ w _ (.eloc h i off sz) from hr.1)
  have hl : look [(h, LObj.arr e sz bytes es)] h = some (.arr e sz bytes es) := by simp [look]
  obtain ⟨xs, e1, e2, e3, e4, e5⟩ := hok.ok h _ hl
  obtain ⟨hi, hzi⟩ := List.getElem?_eq_some_iff.1 hz
  have hzl : z.length = sz := by rw [← hzi]; exact e3 _ (List.getElem_mem hi)
  obtain ⟨q1, q2, q3⟩ := cellsS_rep (show RepS F σ w (a.eval y) s from hr.2.1) hs
  generalize hu : a.eval y = u at q1 q2 q3
  simp only [List.length_map] at q1 q2
  have hlen : xs.length = es.length * sz := e1.1
  have hmul : (i + 1) * sz ≤ es.length * sz := Nat.mul_le_mul_right _ hi
  have hmul2 : (i + 1) * sz = i * sz + sz := by rw [Nat.add_mul, Nat.one_mul]
  rw [hb] at e1
  have hrow : ∃ cur, w.heap[b]? = some (.cells cur e (0, 0)) ∧ n = es.length ∧ n ≤ cap ∧ cap ≤ maxLen ∧ cur.size = cap * sz ∧ cur.toList.take (n * sz) = xs := by
    rcases e1.2 with ⟨c, _⟩ | ⟨g, cap', cur, c, _, hh, h6, h7, h8, h9⟩
    · cases c
    · simp only [Value.slice.injEq, Option.some.injEq, Addr.mk.injEq] at c
      obtain ⟨⟨rfl, _⟩, rfl, rfl⟩ := c
      exact ⟨cur, hh, rfl, h6, h7, h8, h9⟩
  obtain ⟨cur, hh, rfl, h6, h7, h8, h9⟩ := hrow
  have hcap : es.length * sz ≤ cap * sz := Nat.mul_le_mul_right _ h6
  have hus : u.cells.toList.length = ds.length := by simpa using q1
  have hcl : cur.toList.length = cap * sz := by simpa using h8
  have hfit : i * sz + off + u.cells.toList.length ≤ cur.toList.length := by rw [hus, hcl]; omega
  have hst := run_storeCells_at P b (i * sz + off) e u.cells.toList 0 cur w hh (by simp only [Nat.add_zero]; simpa using hfit) q3
  simp only [Nat.add_zero] at hst
  generalize hnew : (cur.toList.take (i * sz + off) ++ u.cells.toList ++ cur.toList.drop (i * sz + off + u.cells.toList.length)).toArray = new at hst
  have hrun : (execOp a.eval (mkO (.store t x y) ty)).run P w = .ok .skip (w.setRow b new) := by
    simp only [execOp, mkO, hx, hu, Instr.storeAt, Instr.sureAddr, storeVar, Sem.run_bind, Sem.run_pure, Result.andThen_ok, run_sizeOf_ti (hT t ti ht)]
    rw [if_neg (by rw [q1, hn]; simp)]
    rw [hst]
    rfl
  rw [hrun]
  have hnl : new.toList = cur.toList.take (i * sz + off) ++ (u.cells.toList ++ cur.toList.drop (i * sz + off + u.cells.toList.length)) := by rw [← hnew]; simp
  have hget : ∀ j : Nat, new.toList[j]? = if j < i * sz + off then cur.toList[j]? else if j < i * sz + off + ds.length then u.cells.toList[j - (i * sz + off)]? else cur.toList[j]? := fun j => by
    rw [hnl, spliced cur.toList u.cells.toList (i * sz + off) hfit j, hus]
  have hnewl : new.toList.length = cap * sz := by rw [hnl]; simp only [List.length_append, List.length_take, List.length_drop, hus, hcl]; rw [hus, hcl] at hfit; omega
  have hX : ∀ k, X h k ↔ k = b := fun k => by rw [e2 k, hb]; simp [Value.ownBlock, eq_comm]
  have hFo : ∀ k, F k → (w.setRow b new).heap[k]? = w.heap[k]? := fun k hk => heap_setRow _ _ _ _ fun c => (hok.live h _ hl k ((hX k).2 c)).2 hk
  refine ⟨F, σ, X, trivial, ⟨?_, ?_, ?_⟩, ⟨rfl, rfl, rfl, by simp [World.setRow], fun k _ hk => heap_setRow _ _ _ _ fun c => hk h _ hl ((hX k).2 c), fun _ h => h, fun _ h => .inl h, ?_, fun _ _ => rfl⟩⟩
  · intro k o eo
    obtain ⟨rfl, rfl⟩ := look_one eo
    refine ⟨new.toList.take (es.length * sz), ?_, e2, ?_, by simpa using e4, ?_⟩
    · rw [hb]
      refine ⟨?_, .inr ⟨b, cap, new, by simp, Nat.zero_le _, setRow_heap w b cur new e (0, 0) hh, by simpa using h6, h7, by simpa using hnewl, by simp⟩⟩
      rw [List.length_take, hnewl, List.length_set]; omega
    · intro y hy
      obtain ⟨j, hj, rfl⟩ := List.getElem_of_mem hy
      by_cases c : i = j
      · subst c
        simp only [List.getElem_set_self, List.length_append, List.length_take, List.length_drop]
        omega
      · simp only [List.getElem_set_ne c]
        exact e3 _ (List.getElem_mem _)
    · intro j hj q hq
      have hj' : j < es.length := by simpa using hj
      have hmj : (j + 1) * sz ≤ es.length * sz := Nat.mul_le_mul_right _ hj'
      have hmj2 : (j + 1) * sz = j * sz + sz := by rw [Nat.add_mul, Nat.one_mul]
      have hqs : q < sz := by
        by_cases c : i = j
        · subst c
          simp only [List.getElem_set_self, List.length_append, List.length_take, List.length_drop] at hq
          omega
        · simp only [List.getElem_set_ne c] at hq
          rwa [e3 _ (List.getElem_mem _)] at hq
      have hidx : (new.toList.take (es.length * sz)).getD (j * sz + q) undef = (new.toList[j * sz + q]?).getD undef := by
        rw [List.getD_eq_getElem?_getD, List.getElem?_take_of_lt (by omega)]
      rw [hidx, hget]
      have hold : (cur.toList[j * sz + q]?).getD undef = xs.getD (j * sz + q) undef := by
        rw [← h9, List.getD_eq_getElem?_getD, List.getElem?_take_of_lt (by omega)]
      by_cases c : i = j
      · subst c
        simp only [List.getElem_set_self] at hq ⊢
        by_cases c1 : q < off
        · rw [if_pos (by omega), hold]
          rw [List.getElem_append_left (by simp; omega), List.getElem_take]
          have := e5 i hi q (by rw [hzi, hzl]; exact hqs)
          simp only [hzi] at this
          exact RepD.mono (fun _ h => h) hFo this
        · by_cases c2 : q < off + ds.length
          · rw [if_neg (by omega), if_pos (by omega)]
            rw [List.getElem_append_right (by simp; omega)]
            rw [List.getElem_append_left (by simp; omega)]
            simp only [List.length_take]
            have hm : min off z.length = off := by omega
            have := q2 (q - off) (by omega)
            simp only [List.getElem_map, Array.getD_eq_getD_getElem?] at this
            have e7 : i * sz + q - (i * sz + off) = q - off := by omega
            simp only [hm, e7, Array.getElem?_toList]
            exact RepD.mono (fun _ h => h) hFo this
          · rw [if_neg (by omega), if_neg (by omega), hold]
            rw [List.getElem_append_right (by simp; omega)]
            rw [List.getElem_append_right (by simp; omega)]
            simp only [List.length_take, List.getElem_drop]
            have hm : min off z.length = off := by omega
            have e7 : off + ds.length + (q - min off z.length - ds.length) = q := by omega
            have := e5 i hi q (by rw [hzi, hzl]; exact hqs)
            simp only [hzi] at this
            simp only [e7]
            exact RepD.mono (fun _ h => h) hFo this
      · simp only [List.getElem_set_ne c] at hq ⊢
        have : ¬ (i * sz + off ≤ j * sz + q ∧ j * sz + q < i * sz + off + ds.length) := by
          rintro ⟨c1, c2⟩
          rcases Nat.lt_or_gt_of_ne c with c3 | c3
          · have := Nat.mul_le_mul_right sz (show i + 1 ≤ j from c3); omega
          · have := Nat.mul_le_mul_right sz (show j + 1 ≤ i from c3); omega
        have e8 : (if j * sz + q < i * sz + off then cur.toList[j * sz + q]? else if j * sz + q < i * sz + off + ds.length then u.cells.toList[j * sz + q - (i * sz + off)]? else cur.toList[j * sz + q]?) = cur.toList[j * sz + q]? := by
          split
          · rfl
          · split
            · omega
            · rfl
        rw [e8, hold]
        exact RepD.mono (fun _ h => h) hFo (e5 j hj' q hq)
  · intro k k' o o' a1 a2 hne
    obtain ⟨rfl, _⟩ := look_one a1
    exact absurd (look_one a2).1.symm hne
  · intro k o a1 j hj
    obtain ⟨rfl, rfl⟩ := look_one a1
    have := hok.live k _ hl j hj
    exact ⟨by simpa [World.setRow] using this.1, this.2⟩
  · intro k o a1 j hj
    obtain ⟨rfl, rfl⟩ := look_one a1
    exact .inr ⟨k, _, hl, hj⟩
end

theorem tri_rem {P : Program} {t u ty : TypeId} {x y : Operand} {k : IntKind} {a b : Int} (c : Int) (h0 : b ≠ 0) (h : a.tmod b = c) : Tri P (mkO (.binOp .rem t x y u) ty) [sc (.int k a), sc (.int k b)] [] (sc (.int k c)) [] :=
  tri_of_value fun F σ X w ac hr _ => by
    have hx : ac.eval x = .int k a := scal_rep hr.1 rfl
    have hy : ac.eval y = .int k b := scal_rep hr.2.1 rfl
    refine ⟨.int k c, ?_, RepD.v _ rfl⟩
    simp [execOp, mkO, hx, hy, eqGuard, binOp, Op.intDiv, h0, h]
theorem tri_quo {P : Program} {t u ty : TypeId} {x y : Operand} {k : IntKind} {a b : Int} (c : Int) (h0 : b ≠ 0) (h : k.wrap (a.tdiv b) = c) : Tri P (mkO (.binOp .quo t x y u) ty) [sc (.int k a), sc (.int k b)] [] (sc (.int k c)) [] :=
  tri_of_value fun F σ X w ac hr _ => by
    have hx : ac.eval x = .int k a := scal_rep hr.1 rfl
    have hy : ac.eval y = .int k b := scal_rep hr.2.1 rfl
    refine ⟨.int k c, ?_, RepD.v _ rfl⟩
    simp [execOp, mkO, hx, hy, eqGuard, binOp, Op.intDiv, h0, h]
theorem wrap_u64 {n : Int} (h : 0 ≤ n ∧ n ≤ 18446744073709551615) : IntKind.wrap .u64 n = n := by rw [IntKind.wrap_u64]; omega
theorem wrap_u64_nonneg (n : Int) : 0 ≤ IntKind.wrap .u64 n := by rw [IntKind.wrap_u64]; omega
/-- What a number's remainder is, as a place in a list. -/
def placeU (t : Int) (n : Nat) : Nat := (Int.tmod (IntKind.wrap .u64 t) (n : Int)).toNat
theorem placeU_lt {t : Int} {n : Nat} (h : 0 < n) : placeU t n < n := by
  unfold placeU
  have h1 := wrap_u64_nonneg t
  rw [Int.tmod_eq_emod_of_nonneg h1]
  have := Int.emod_lt_of_pos (IntKind.wrap .u64 t) (show (0 : Int) < n by omega)
  have := Int.emod_nonneg (IntKind.wrap .u64 t) (show (n : Int) ≠ 0 by omega)
  omega
theorem placeU_eq {t : Int} {n : Nat} (h : 0 < n) : Int.tmod (IntKind.wrap .u64 t) (n : Int) = (placeU t n : Int) := by
  unfold placeU
  have h1 := wrap_u64_nonneg t
  rw [Int.tmod_eq_emod_of_nonneg h1]
  have := Int.emod_nonneg (IntKind.wrap .u64 t) (show (n : Int) ≠ 0 by omega)
  omega
end Go.E
