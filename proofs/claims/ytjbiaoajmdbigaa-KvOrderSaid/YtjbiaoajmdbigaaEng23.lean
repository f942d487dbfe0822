/- A logic over abstract states. Part 23: what an argument reads as, in the words of the logic. -/
import Derived.Test.YtjbiaoajmdbigaaEng22
import Derived.ProofKit
import Derived.OpenShut
import Derived.Deep.Slices
set_option linter.unusedVariables false
set_option linter.unusedSimpArgs false
namespace Go.E
open Go

inductive CSh where
  | b
  | i (k : IntKind)
  | s
  | sl (l : List CSh)
mutual
inductive Fits : CSh → DV → Prop
  | b (x : Bool) : Fits .b (.v (.bool x))
  | i (k : IntKind) (n : Int) (h : (Lit.int k n).wf = true) : Fits (.i k) (.v (.int k n))
  | s (x : ByteArray) (h : x.size ≤ maxLen) : Fits .s (.v (.string x))
  | sl (l : List CSh) (es : List (List DV)) (h : FitsRows l es) : Fits (.sl l) (.sl es)
inductive FitsAll : List CSh → List DV → Prop
  | nil : FitsAll [] []
  | cons {c : CSh} {d : DV} {cs : List CSh} {ds : List DV} (h : Fits c d) (hs : FitsAll cs ds) : FitsAll (c :: cs) (d :: ds)
inductive FitsRows : List CSh → List (List DV) → Prop
  | nil {l : List CSh} : FitsRows l []
  | cons {l : List CSh} {e : List DV} {es : List (List DV)} (h : FitsAll l e) (hs : FitsRows l es) : FitsRows l (e :: es)
end
theorem FitsAll.len : ∀ {cs : List CSh} {ds : List DV}, FitsAll cs ds → ds.length = cs.length
  | [], [], _ => rfl
  | _ :: _, _ :: _, .cons _ hs => by simp [hs.len]
theorem FitsAll.append : ∀ {a : List CSh} {x : List DV} {b : List CSh} {y : List DV}, FitsAll a x → FitsAll b y → FitsAll (a ++ b) (x ++ y)
  | [], [], _, _, _, h => h
  | _ :: _, _ :: _, _, _, .cons h hs, h2 => .cons h (hs.append h2)
theorem FitsRows.snoc : ∀ {l : List CSh} {es : List (List DV)} {e : List DV}, FitsRows l es → FitsAll l e → FitsRows l (es ++ [e])
  | _, [], _, _, h => .cons h .nil
  | _, _ :: _, _, .cons h hs, h2 => .cons h (hs.snoc h2)
theorem FitsRows.len : ∀ {l : List CSh} {es : List (List DV)}, FitsRows l es → ∀ e ∈ es, e.length = l.length
  | _, [], _, e, he => by cases he
  | _, x :: r, .cons h hs, e, he => by
    rcases List.mem_cons.1 he with rfl | he
    · exact h.len
    · exact hs.len e he
/-- Rows as a list of what they encode. -/
theorem FitsRows.list {α : Type} {enc : α → List DV} {l : List CSh} (h : ∀ e, FitsAll l e → ∃ x, e = enc x) : ∀ {es : List (List DV)}, FitsRows l es → ∃ xs : List α, es = xs.map enc
  | [], _ => ⟨[], rfl⟩
  | _ :: _, .cons h1 h2 => by
    obtain ⟨x, rfl⟩ := h _ h1
    obtain ⟨xs, rfl⟩ := h2.list h
    exact ⟨x :: xs, rfl⟩

def flatFs (F : TypeId → Option (List CSh)) (P : Program) : List Field → Nat → Option (List CSh)
  | [], _ => some []
  | f :: r, off => match F f.type with
    | some l => bif (f.offset == off) && (l.length == P.cellsOf f.type) then (flatFs F P r (off + l.length)).map (l ++ ·) else none
    | none => none
def flat (P : Program) : Nat → TypeId → Option (List CSh)
  | 0, _ => none
  | n + 1, t => match P.underlying t with
    | some .bool => some [.b]
    | some (.int k) => some [.i k]
    | some .string => some [.s]
    | some (.slice e) => match flat P n e with
      | some l => bif (l.length == P.cellsOf e) && Nat.ble 1 l.length then some [.sl l] else none
      | none => none
    | some (.struct fs) => match flatFs (flat P n) P fs.toList 0 with
      | some l => bif l.length == P.cellsOf t then some l else none
      | none => none
    | _ => none

abbrev OldF (w : World) : Nat → Prop := fun k => k < w.heap.size
section
variable {H : Type} {enc : TypeId × Value → H} {P : Program} {w : World} {base : Nat} {spare : Nat → Bool} {held : Bool}

def RepRow (w : World) (f : Nat → Value) (ds : List DV) : Prop := ∀ j (h : j < ds.length), RepD (OldF w) w (f j) ds[j]
theorem RepRow.append {f : Nat → Value} {a b : List DV} (ha : RepRow w f a) (hb : RepRow w (fun j => f (a.length + j)) b) : RepRow w f (a ++ b) := fun j hj => by
  by_cases c : j < a.length
  · rw [List.getElem_append_left c]; exact ha j c
  · rw [List.getElem_append_right (by omega)]
    have := hb (j - a.length) (by simp only [List.length_append] at hj; omega)
    simpa [show a.length + (j - a.length) = j by omega] using this

theorem rep_fields {F : TypeId → Option (List CSh)} {n : Nat} {cs : List Value}
    (ih : ∀ t l cs x, F t = some l → DataW.trod enc P w base spare held n t cs = some x → cs.length = l.length ∧ ∃ ds, FitsAll l ds ∧ RepRow w (fun j => cs.getD j undef) ds) :
    ∀ (fs : List Field) (off : Nat) (l : List CSh), flatFs F P fs off = some l → off ≤ cs.length → (∀ f ∈ fs, ∃ x, DataW.trod enc P w base spare held n f.type ((cs.drop f.offset).take (P.cellsOf f.type)) = some x) →
      ∃ ds, FitsAll l ds ∧ RepRow w (fun j => cs.getD (off + j) undef) ds
  | [], off, l, h, _, _ => by
    simp only [flatFs, Option.some.injEq] at h
    subst h
    exact ⟨[], .nil, fun j hj => by simp at hj⟩
  | f :: r, off, l, h, ho, hx => by
    simp only [flatFs] at h
    cases hF : F f.type with
    | none => simp [hF] at h
    | some l1 =>
      simp only [hF] at h
      cases hc : (f.offset == off) && (l1.length == P.cellsOf f.type) with
      | false => simp [hc] at h
      | true =>
        simp only [hc, cond_true, Option.map_eq_some_iff] at h
        obtain ⟨l2, h2, rfl⟩ := h
        simp only [Bool.and_eq_true, beq_iff_eq] at hc
        obtain ⟨rfl, hl⟩ := hc
        obtain ⟨x, hx1⟩ := hx f (by simp)
        obtain ⟨g1, ds1, g2, g3⟩ := ih _ _ _ _ hF hx1
        have hlen : f.offset + l1.length ≤ cs.length := by
          simp only [List.length_take, List.length_drop] at g1
          omega
        obtain ⟨ds2, g4, g5⟩ := rep_fields ih r (f.offset + l1.length) l2 h2 hlen (fun q hq => hx q (List.mem_cons_of_mem _ hq))
        refine ⟨ds1 ++ ds2, g2.append g4, RepRow.append (fun j hj => ?_) (fun j hj => ?_)⟩
        · have hj' : j < l1.length := by rw [← g2.len]; exact hj
          have := g3 j hj
          simpa [List.getD_eq_getElem?_getD, List.getElem?_take, List.getElem?_drop, ← hl, hj'] using this
        · have := g5 j hj
          rw [g2.len]
          simpa [Nat.add_assoc] using this

theorem rep_of_trod : ∀ (n fuel : Nat) (t : TypeId) (cs : List Value) (x : DataW H × List MemPlace) (l : List CSh), flat P n t = some l → DataW.trod enc P w base spare held fuel t cs = some x →
    cs.length = l.length ∧ ∃ ds, FitsAll l ds ∧ RepRow w (fun j => cs.getD j undef) ds
  | 0, _, _, _, _, _, h, _ => by simp [flat] at h
  | n + 1, fuel, t, cs, x, l, h, hx => by
    have one : ∀ (v : Value) (c : CSh) (d : DV), Fits c d → RepD (OldF w) w v d → cs = [v] → l = [c] → cs.length = l.length ∧ ∃ ds, FitsAll l ds ∧ RepRow w (fun j => cs.getD j undef) ds := fun v c d h1 h2 e1 e2 => by
      subst e1; subst e2
      refine ⟨rfl, [d], .cons h1 .nil, fun j hj => ?_⟩
      simp only [List.length_cons, List.length_nil] at hj
      have : j = 0 := by omega
      subst this
      exact h2
    simp only [flat] at h
    split at h
    · rename_i hu
      obtain ⟨b, rfl, _⟩ := DataW.trod_bool hu hx
      exact one _ .b _ (.b b) (.v _ rfl) rfl (Option.some.inj h).symm
    · rename_i k hu
      obtain ⟨m, rfl, _, hw⟩ := DataW.trod_int hu hx
      exact one _ (.i k) _ (.i k m hw) (.v _ rfl) rfl (Option.some.inj h).symm
    · rename_i hu
      obtain ⟨s, rfl, _, hw⟩ := DataW.trod_string hu hx
      exact one _ .s _ (.s s hw) (.v _ rfl) rfl (Option.some.inj h).symm
    · rename_i e hu
      split at h
      · rename_i l1 hl1
        obtain ⟨hc, h⟩ := bif_some h
        simp only [Bool.and_eq_true, beq_iff_eq] at hc
        obtain ⟨hc1, hc2⟩ := hc
        have hc2 := Nat.le_of_ble_eq_true hc2
        rcases Go.Deep.open_slice hu hx with ⟨rfl, _⟩ | ⟨a, len, cap, m, n', D, Pl, rfl, hb, hl, hm, hmm, _, hel⟩
        · exact one _ (.sl l1) _ (.sl _ [] .nil) (RepD.sl none 0 0 [] (fun _ _ => undef) (Nat.le_refl _) (by simp) (by simp) (fun h => by simp at h) (fun _ => rfl) (fun i h => by simp at h)) rfl h.symm
        · have hlm : len ≤ m := by rw [hmm]; split <;> omega
          -- the elements, one by one
          have key : ∀ i, i < len → ∃ ds, FitsAll l1 ds ∧ ∀ j (hj : j < ds.length), ∃ v, w.cell? ((a.add (i * P.cellsOf e)).add j) = some v ∧ RepD (OldF w) w v ds[j] := fun i hi => by
            obtain ⟨cs', h1, h2⟩ := hel i (by omega)
            obtain ⟨g1, ds, g2, g3⟩ := rep_of_trod n n' e cs' _ l1 hl1 h2
            obtain ⟨_, q2, q3⟩ := World.cells?_some h1
            refine ⟨ds, g2, fun j hj => ⟨_, ?_, g3 j hj⟩⟩
            have hj' : j < cs'.length := by rw [g1, ← g2.len]; exact hj
            rw [q3 j (by rw [← q2]; exact hj')]
            simp [List.getD_eq_getElem?_getD, hj']
          have all : ∀ k, k ≤ len → ∃ es : List (List DV), es.length = k ∧ FitsRows l1 es ∧ ∀ i (hi : i < es.length) j (hj : j < es[i].length), ∃ v, w.cell? ((a.add (i * P.cellsOf e)).add j) = some v ∧ RepD (OldF w) w v es[i][j] := by
            intro k
            induction k with
            | zero => exact fun _ => ⟨[], rfl, .nil, fun i hi => by simp at hi⟩
            | succ k ih =>
              intro hk
              obtain ⟨es, e1, e2, e3⟩ := ih (by omega)
              obtain ⟨ds, d1, d2⟩ := key k (by omega)
              refine ⟨es ++ [ds], by simp [e1], e2.snoc d1, fun i hi j hj => ?_⟩
              by_cases c : i < es.length
              · simp only [List.getElem_append_left c] at hj ⊢
                exact e3 i c j hj
              · have hik : i = es.length := by simp only [List.length_append, List.length_cons, List.length_nil] at hi; omega
                subst hik
                simp only [List.getElem_append_right (Nat.le_refl _), Nat.sub_self, List.getElem_cons_zero] at hj ⊢
                have := d2 j hj
                rwa [← e1] at this
          obtain ⟨es, e1, e2, e3⟩ := all len (Nat.le_refl _)
          refine one (.slice (some a) len cap) (.sl l1) (.sl es) (.sl _ _ e2) ?_ rfl h.symm
          rw [← e1]
          have hes := e2.len
          refine RepD.sl (some a) cap l1.length es (fun i j => (w.cell? ((a.add (i * P.cellsOf e)).add j)).getD undef) (by omega) hm hes (fun h0 => ?_) (fun e => by cases e) (fun i hi j hj => ?_)
          · have hsp : a.spot = none := by
              obtain ⟨v, hv, _⟩ := e3 0 h0 0 (by rw [hes _ (List.getElem_mem h0)]; omega)
              simp only [Nat.zero_mul, Addr.add, if_true] at hv
              unfold World.cell? at hv
              split at hv
              · split at hv
                · cases hv
                · rename_i c; cases hs : a.spot with
                  | none => rfl
                  | some z => rw [hs] at c; simp at c
              · cases hv
            obtain ⟨b, off, spot⟩ := a
            simp only at hsp
            subst hsp
            refine ⟨b, off, rfl, ?_, fun i j hi hj => ?_⟩
            · obtain ⟨v, hv, _⟩ := e3 0 h0 0 (by rw [hes _ (List.getElem_mem h0)]; omega)
              rw [add_none, add_none] at hv
              unfold World.cell? at hv
              show b < w.heap.size
              rcases Nat.lt_or_ge b w.heap.size with c | c
              · exact c
              · simp [Array.getElem?_eq_none c] at hv
            · obtain ⟨v, hv, _⟩ := e3 i hi j (by rw [hes _ (List.getElem_mem hi)]; exact hj)
              rw [add_none, add_none, ← hc1] at hv
              simp only [add_none, ← hc1, hv, Option.getD_some]
          · obtain ⟨v, hv, hr⟩ := e3 i hi j hj
            simp only [hv, Option.getD_some]
            exact hr
      · cases h
    · rename_i fs hu
      split at h
      · rename_i l1 hl1
        obtain ⟨hc, rfl⟩ := bif_some h
        simp only [beq_iff_eq] at hc
        obtain ⟨xs, n', _, _, hlen, hxs, hel⟩ := DataW.trod_struct hu hx
        obtain ⟨ds, g1, g2⟩ := rep_fields (n := n') (cs := cs) (fun t l cs x h1 h2 => rep_of_trod n n' t cs x l h1 h2) fs.toList 0 l1 hl1 (Nat.zero_le _) (fun f hf => by
          obtain ⟨i, hi, rfl⟩ := List.getElem_of_mem hf
          have hi' : i < fs.size := by simpa using hi
          have := hel i fs[i] (by simp [hi'])
          rw [List.getElem?_eq_getElem (by omega)] at this
          exact ⟨_, by simpa using this⟩)
        exact ⟨hlen.trans hc.symm, ds, g1, by simpa using g2⟩
      · cases h
    · cases h

/-- An argument of one cell. -/
theorem arg_one {n : Nat} {t : TypeId} {v : Value} {d : DataW H} {ps : List MemPlace} {c : CSh} {W : World} {r : Reach} {b0 : Nat} (hf : flat P n t = some [c]) (hs : (match P.underlying t with | some (.struct _) | some (.array _ _) => true | _ => false) = false)
    (hval : Value.okWide P W r b0 t v) (h : DataW.Trod enc P w base spare held t v d ps) : ∃ x, Fits c x ∧ RepD (OldF w) w v x := by
  obtain ⟨fuel, h⟩ := h
  obtain ⟨h1, ds, h2, h3⟩ := rep_of_trod n fuel t _ _ _ hf h
  have hone : v.oneCell' = true := by
    unfold Value.okWide at hval
    split at hval
    · rename_i hu; rw [hu] at hs; cases hs
    · rename_i hu; rw [hu] at hs; cases hs
    · cases v <;> first | rfl | (exfalso; revert hval; unfold Cell.okWide Cell.ok; cases P.underlying t with | none => simp | some d => cases d <;> simp)
  rw [one_cells hone] at h3
  cases h2 with
  | cons hd hn =>
    cases hn
    have := h3 0 (by simp)
    exact ⟨_, hd, by simpa using this⟩
/-- An argument that is a struct. -/
theorem arg_agg {n : Nat} {t : TypeId} {v : Value} {d : DataW H} {ps : List MemPlace} {l : List CSh} {W : World} {r : Reach} {b0 : Nat} (hf : flat P n t = some l) (hs : (match P.underlying t with | some (.struct _) => true | _ => false) = true)
    (hval : Value.okWide P W r b0 t v) (h : DataW.Trod enc P w base spare held t v d ps) : ∃ ds, FitsAll l ds ∧ ∀ σ : Nat → Value, RepS (OldF w) σ w v (.t (.agg (ds.map .d))) := by
  obtain ⟨fuel, h⟩ := h
  obtain ⟨h1, ds, h2, h3⟩ := rep_of_trod n fuel t _ _ _ hf h
  refine ⟨ds, h2, fun σ => ?_⟩
  have hagg : ∃ cs, v = .agg cs := by
    unfold Value.okWide at hval
    split at hval
    · obtain ⟨cs, e, _⟩ := hval; exact ⟨cs, e⟩
    · obtain ⟨cs, e, _⟩ := hval; exact ⟨cs, e⟩
    · rename_i h1 h2
      split at hs
      · rename_i fs hu; exact absurd hu (h1 fs)
      · cases hs
  obtain ⟨cs, rfl⟩ := hagg
  have hcs : (Value.agg cs).cells = cs := rfl
  rw [hcs] at h1 h3
  refine ⟨cs, rfl, by rw [List.length_map, h2.len, ← h1]; simp, fun i hi => ?_⟩
  have := h3 i (by simpa using hi)
  simpa [List.getD_eq_getElem?_getD, Array.getD_eq_getD_getElem?, RepC] using this
end

/-- What a call that satisfies a contract without objects leaves: everything that was, as it was. -/
theorem Sat.below {P : Program} {f : FuncId} {args : List SV} {r : Value} {W : World} {vs : Array Value} (h : Sat P f args [] (sc r) []) (hn : vs.size = args.length) (hv : ∀ i (h : i < args.length), RepS (OldF W) (fun _ => undef) W (vs.getD i undef) args[i]) :
    Calls P f vs W fun e w' => e = .returned r ∧ RowKit.Below W.heap.size W w' :=
  Calls.mono (h.2 (OldF W) (fun _ => undef) (fun _ _ => False) W vs hn hv OKs.nil (fun _ h => h)) fun e w' he => by
    obtain ⟨v, rfl, F', σ', X', h1, _, h3⟩ := he
    obtain rfl := scal_rep h1 rfl
    exact ⟨rfl, h3.os, h3.tape, h3.output, h3.size, fun k hk => h3.same k hk fun h o e => by simp [look] at e⟩
end Go.E
