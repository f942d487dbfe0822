/- A logic over abstract states. Part 18: what append takes; elements of slices; a nil slice as an array of one's own; other words for an argument. -/
import Derived.Test.YtjbiaoajmdbigaaEng17
set_option linter.unusedVariables false
set_option linter.unusedSimpArgs false
namespace Go.E
open Go

theorem div_mod_row {k sz n : Nat} (h : k < n * sz) : k / sz < n ∧ k % sz < sz ∧ k / sz * sz + k % sz = k := by
  have hs : 0 < sz := by rcases Nat.eq_zero_or_pos sz with c | c
                         · subst c; simp at h
                         · exact c
  exact ⟨Nat.div_lt_of_lt_mul (by rw [Nat.mul_comm]; exact h), Nat.mod_lt _ hs, by rw [Nat.mul_comm]; exact Nat.div_add_mod k sz⟩
theorem row_div_mod {i j sz : Nat} (h : j < sz) : (i * sz + j) / sz = i ∧ (i * sz + j) % sz = j := by
  have hs : 0 < sz := by omega
  constructor
  · rw [Nat.mul_comm, Nat.mul_add_div hs, Nat.div_eq_of_lt h, Nat.add_zero]
  · rw [Nat.mul_comm, Nat.mul_add_mod, Nat.mod_eq_of_lt h]

theorem slice_kind {P : Program} {T : Tab} (hT : TabOK P T) {t e sz bytes : Nat} (h : appOK T t e sz bytes = true) : P.underlying t = some (.slice e) := (appOK_parts hT h).1

theorem srcD_sl {P : Program} {F : Nat → Prop} {w : World} {sz t e : Nat} {x : Value} {es : List (List DV)} (hk : P.underlying t = some (.slice e)) (hes : ∀ y ∈ es, y.length = sz) (h : RepD F w x (.sl es)) : SrcD P F w sz t x es := by
  cases h with
  | sl a cap sz' es val hcap hm hsz ha _ hr =>
    by_cases h0 : es.length = 0
    · obtain rfl := List.eq_nil_of_length_eq_zero h0
      cases a with
      | none => exact ⟨[], Src.ofNil w hk _, fun i hi => absurd hi (by simp)⟩
      | some a => exact ⟨[], Src.ofSlice w hk a 0 _ [] (by simp) (by simp) (by simp), fun i hi => absurd hi (by simp)⟩
    · obtain ⟨b, off, rfl, hF, hc⟩ := ha (by omega)
      have hszz : sz' = sz := by
        have := hsz _ (List.getElem_mem (show 0 < es.length by omega))
        have := hes _ (List.getElem_mem (show 0 < es.length by omega))
        omega
      subst hszz
      refine ⟨(List.range (es.length * sz')).map fun k => val (k / sz') (k % sz'), Src.ofSlice w hk ⟨b, off, none⟩ _ _ _ (by simp) (fun k u hu => ?_) (fun u hu => ?_), fun i hi j hj => ?_⟩
      · rw [List.getElem?_map] at hu
        have hlt : k < es.length * sz' := by
          rcases Nat.lt_or_ge k (es.length * sz') with c | c
          · exact c
          · rw [List.getElem?_eq_none (by simpa using c)] at hu; simp at hu
        simp only [List.getElem?_range hlt, Option.map_some, Option.some.injEq] at hu
        subst hu
        obtain ⟨q1, q2, q3⟩ := div_mod_row hlt
        rw [add_none]
        have := hc _ _ q1 q2
        rwa [Nat.add_assoc, q3] at this
      · obtain ⟨k, hk, rfl⟩ := List.mem_map.1 hu
        obtain ⟨q1, q2, q3⟩ := div_mod_row (List.mem_range.1 hk)
        exact (hr _ q1 _ (by rw [hes _ (List.getElem_mem q1)]; exact q2)).one
      · have hjs : j < sz' := by rw [hes _ (List.getElem_mem hi)] at hj; exact hj
        obtain ⟨q1, q2⟩ := row_div_mod (i := i) hjs
        have hlt : i * sz' + j < es.length * sz' := by
          have := Nat.mul_le_mul_right sz' (show i + 1 ≤ es.length from hi)
          rw [Nat.add_mul, Nat.one_mul] at this
          omega
        have := hr i hi j hj
        simpa [List.getD_eq_getElem?_getD, hlt, q1, q2] using this

theorem srcD_own {P : Program} {F : Nat → Prop} {σ : Nat → Value} {w : World} {X : Nat → Prop} {sz t e bytes : Nat} {x : Value} {es : List (List DV)} (hk : P.underlying t = some (.slice e)) (h : ObjOK F σ w x X (.arr e sz bytes es)) : SrcD P F w sz t x es := by
  obtain ⟨xs, e1, _, e3, _, e5⟩ := h
  refine ⟨xs, ?_, e5⟩
  rcases e1.2 with ⟨c, h0⟩ | ⟨g, cap, cur, c, _⟩
  · have hx : xs = [] := List.eq_nil_of_length_eq_zero (by rw [e1.1, h0, Nat.zero_mul])
    subst hx
    rw [c, h0]
    exact Src.ofNil w hk 0
  · rw [c] at e1 ⊢
    refine Src.ofSlice w hk _ _ _ _ e1.1 (e1.cells rfl) (fun u hu => ?_)
    obtain ⟨k, hk', rfl⟩ := List.getElem_of_mem hu
    have hlt : k < es.length * sz := by rw [← e1.1]; exact hk'
    obtain ⟨q1, q2, q3⟩ := div_mod_row hlt
    have := (e5 _ q1 _ (by rw [e3 _ (List.getElem_mem q1)]; exact q2)).one
    rw [q3] at this
    simpa [List.getD_eq_getElem?_getD, hk'] using this

/-- A string's bytes as elements. -/
def byteD (l : List UInt8) : List (List DV) := l.map fun b => [.v (.int .u8 b.toNat)]
theorem srcD_str {P : Program} {F : Nat → Prop} {w : World} {t : Nat} {s : ByteArray} (hk : P.underlying t = some .string) : SrcD P F w 1 t (.string s) (byteD s.data.toList) := by
  refine ⟨byteCells s, ?_, fun i hi j hj => ?_⟩
  · have := Src.ofString (P := P) w hk s
    have e : s.size = (byteD s.data.toList).length := by simp [byteD]
    rwa [e] at this
  · simp only [byteD, List.length_map] at hi
    simp only [byteD, List.getElem_map, List.length_cons, List.length_nil] at hj ⊢
    have : j = 0 := by omega
    subst this
    simp only [List.getElem_cons_zero, Nat.mul_one, Nat.add_zero, byteCells, List.getD_eq_getElem?_getD, List.getElem?_map, List.getElem?_eq_getElem hi, Option.map_some, Option.getD_some]
    exact RepD.v _ rfl

section
variable {P : Program} {T : Tab} (hT : TabOK P T)
include hT
theorem tri_append_sl {t tx ty : TypeId} {s x : Operand} {e ex sz bytes h0 n : Nat} {es es2 : List (List DV)} (ho : appOK T t e sz bytes = true) (hx : appOK T tx ex sz bytes = true) (hk : Nat.beq n h0 = false) (hes : ∀ y ∈ es2, y.length = sz) (hb : (es.length + es2.length) * bytes ≤ 140737488355328) :
    Tri P (mkO (.call { callee := .builtin .append, args := #[s, x], argTypes := #[t, tx] }) ty) [cc (.own h0), cc (.d (.sl es2))] [(h0, .arr e sz bytes es)] (cc (.own n)) [(n, .arr e sz bytes (es ++ es2))] :=
  tri_append hT ho ⟨rfl, rfl, hk, rfl⟩ (fun F σ X w x h _ => srcD_sl (slice_kind hT hx) hes h) hes hb
theorem tri_append_own {t tx ty : TypeId} {s x : Operand} {e sz bytes h0 h1 n : Nat} {es es2 : List (List DV)} (ho : appOK T t e sz bytes = true) (hx : appOK T tx e sz bytes = true) (hk : (Nat.beq n h0 || (Nat.beq h1 h0 || Nat.beq h1 n)) = false) (hes : ∀ y ∈ es2, y.length = sz) (hb : (es.length + es2.length) * bytes ≤ 140737488355328) :
    Tri P (mkO (.call { callee := .builtin .append, args := #[s, x], argTypes := #[t, tx] }) ty) [cc (.own h0), cc (.own h1)] [(h0, .arr e sz bytes es), (h1, .arr e sz bytes es2)] (cc (.own n)) [(n, .arr e sz bytes (es ++ es2)), (h1, .arr e sz bytes es2)] := by
  simp only [Bool.or_eq_false_iff] at hk
  refine tri_append hT ho ⟨?_, ?_, hk.1, rfl⟩ (fun F σ X w x h hok => ?_) hes hb
  · simp [look, hk.2.1]
  · simp [look, hk.2.2]
  · have := hok.ok h1 (.arr e sz bytes es2) (by simp [look])
    obtain ⟨hv, _⟩ := (show RepC F σ w x (.own h1) from h)
    rw [hv]
    exact srcD_own (slice_kind hT hx) this
theorem tri_append_str {t tx ty : TypeId} {s x : Operand} {e bytes h0 n : Nat} {es : List (List DV)} {b : ByteArray} (ho : appOK T t e 1 bytes = true) (hx : ((look T tx).map (·.kind)) = some 4) (hk : Nat.beq n h0 = false) (hb : (es.length + b.size) * bytes ≤ 140737488355328) :
    Tri P (mkO (.call { callee := .builtin .append, args := #[s, x], argTypes := #[t, tx] }) ty) [cc (.own h0), sc (.string b)] [(h0, .arr e 1 bytes es)] (cc (.own n)) [(n, .arr e 1 bytes (es ++ byteD b.data.toList))] := by
  refine tri_append hT ho ⟨rfl, rfl, hk, rfl⟩ (fun F σ X w x h _ => ?_) (fun y hy => ?_) ?_
  · rw [scal_rep h rfl]
    refine srcD_str ?_
    cases e1 : look T tx with
    | none => rw [e1] at hx; cases hx
    | some ti =>
      rw [e1] at hx
      obtain ⟨i, d, _, hd, _, _, _, _, _, _, _, hkd⟩ := ti_parts (hT tx ti e1)
      rw [hd]
      simp only [Option.map_some, Option.some.injEq] at hx
      rw [hkd] at hx
      cases d <;> simp_all [kindD]
  · obtain ⟨b, _, rfl⟩ := List.mem_map.1 hy; rfl
  · simpa [byteD] using hb

/-- An element of a slice that is data. -/
theorem tri_index_sl {t ty : TypeId} {x ix : Operand} {e sz bytes i : Nat} {k : IntKind} {es : List (List DV)} {y : List DV} (ho : appOK T t e sz bytes = true) (hy : es[i]? = some y) (hes : ∀ y ∈ es, y.length = sz) :
    Tri P (mkO (.indexAddr t x ix) ty) [cc (.d (.sl es)), sc (.int k i)] [] (cc (.d (.ptr y))) [] :=
  tri_of_value fun F σ X w a hr _ => by
    obtain ⟨ht, _, inf, z, hi, _, hsize, _⟩ := appOK_parts hT ho
    obtain ⟨h1, h2, _⟩ := (show RepS F σ w (a.eval x) (cc (.d (.sl es))) ∧ RepS F σ w (a.eval ix) (sc (.int k i)) ∧ True from hr)
    have hix : a.eval ix = .int k i := scal_rep h2 rfl
    have h1' : RepD F w (a.eval x) (.sl es) := h1
    obtain ⟨hlt, rfl⟩ := List.getElem?_eq_some_iff.1 hy
    generalize hv : a.eval x = v at *
    cases h1' with
    | sl ad cap sz' es val hcap hm hsz ha _ hr =>
      obtain ⟨b, off, rfl, hF, hc⟩ := ha (by omega)
      have hszz : sz' = sz := (hsz _ (List.getElem_mem hlt)).symm.trans (hes _ (List.getElem_mem hlt))
      subst hszz
      refine ⟨.pointer (some ⟨b, off + i * sz', none⟩), ?_, RepD.ptr b _ _ (fun j => val i j) hF (fun j hj => hc i j hlt (by rw [hsz _ (List.getElem_mem hlt)] at hj; exact hj)) (fun j hj => hr i hlt j hj)⟩
      simp [execOp, mkO, hv, hix, Instr.indexAt, asIntOf, run_underlying ht, sizeOf, typeInfo, hi, hsize, hlt, add_none]
/-- An element of an array of one's own. -/
theorem tri_index_own {t ty : TypeId} {x ix : Operand} {e sz bytes i h : Nat} {k : IntKind} {es : List (List DV)} (ho : appOK T t e sz bytes = true) (hi0 : i < es.length) :
    Tri P (mkO (.indexAddr t x ix) ty) [cc (.own h), sc (.int k i)] [(h, .arr e sz bytes es)] (cc (.eloc h i 0 sz)) [(h, .arr e sz bytes es)] :=
  tri_of_value fun F σ X w a hr hok => by
    obtain ⟨ht, _, inf, z, hi, _, hsize, _⟩ := appOK_parts hT ho
    obtain ⟨h1, h2, _⟩ := (show RepS F σ w (a.eval x) (cc (.own h)) ∧ RepS F σ w (a.eval ix) (sc (.int k i)) ∧ True from hr)
    have hix : a.eval ix = .int k i := scal_rep h2 rfl
    obtain ⟨hv, _⟩ := (show RepC F σ w (a.eval x) (.own h) from h1)
    obtain ⟨xs, e1, _, e3, _, e5⟩ := hok.ok h (.arr e sz bytes es) (by simp [look])
    rcases e1.2 with ⟨_, c⟩ | ⟨g, cap, cur, c, _⟩
    · omega
    · refine ⟨.pointer (some ⟨g, i * sz, none⟩), ?_, ⟨g, es.length, cap, c, by simp⟩⟩
      simp [execOp, mkO, hv, c, hix, Instr.indexAt, asIntOf, run_underlying ht, sizeOf, typeInfo, hi, hsize, hi0, add_none]
end

theorem look_none_put {α : Type} {l : List (Nat × α)} {i k : Nat} {x y : α} (h : look (put l i x) k = some y) : (i = k ∧ x = y) ∨ (i ≠ k ∧ look l k = some y) := by
  rw [look_put] at h
  split at h
  · rename_i c; exact .inl ⟨c, Option.some.inj h⟩
  · rename_i c; exact .inr ⟨c, h⟩

/-- A nil slice in a slot, as an array of one's own without elements. -/
def St.ownNil (S : St) (i h e sz bytes : Nat) : Option St :=
  match look S.slots i with
  | some (.t (.c (.d (.v (.slice none 0 0))))) => bif S.has h then none else some { S with slots := put S.slots i (cc (.own h)), objs := put S.objs h (.arr e sz bytes []) }
  | _ => none
theorem Rel.own {G : Gh} {S S' : St} {a : Act} {w : World} {i h e sz bytes : Nat} (hR : Rel G S a w) (hs : S.ownNil i h e sz bytes = some S') : Rel G S' a w := by
  unfold St.ownNil at hs
  split at hs
  · rename_i hi
    cases hh : S.has h with
    | true => simp [hh] at hs
    | false =>
      simp only [hh, cond_false, Option.some.injEq] at hs
      subst hs
      obtain ⟨F, σ, X, r⟩ := hR
      have hv : a.tmps.getD i undef = .slice none 0 0 := by
        exact scal_rep (r.slots i _ hi) rfl
      have hσ : ∀ k, k ≠ h → (fun k => if k = h then Value.slice none 0 0 else σ k) k = σ k := fun k hk => if_neg hk
      have hobj : ∀ k o, look S.objs k = some o → k ≠ h ∧ o.has h = false := fun k o e => St.has_obj hh e
      refine ⟨F, fun k => if k = h then .slice none 0 0 else σ k, fun k b => if k = h then False else X k b, r.defers, r.size, fun k sv hk => ?_, ⟨fun k o hk => ?_, fun k k' o o' h1 h2 hne b hb hb' => ?_, fun k o hk b hb => ?_⟩, fun k hk => ?_, fun k o hk b hb => ?_, r.frz, r.frz0, r.grow, r.same, r.os, r.tape, r.output⟩
      · rcases look_none_put hk with ⟨rfl, rfl⟩ | ⟨c, hq⟩
        · rw [hv]
          exact ⟨by simp, by simp [Value.oneCell']⟩
        · exact RepS.mono (fun _ h => h) (fun _ _ => rfl) (fun j hj => hσ j fun d => by rw [d, St.has_slot hh hq] at hj; cases hj) (r.slots k sv hq)
      · rcases look_none_put hk with ⟨rfl, rfl⟩ | ⟨c, hq⟩
        · simp only [if_true]
          exact ⟨[], World.ownsRow_nil w 0 e sz, fun b => by simp [Value.ownBlock], by simp, by simp, fun i hi => absurd hi (by simp)⟩
        · simp only [if_neg c.symm]
          exact ObjOK.mono (fun _ h => h) (fun _ _ => rfl) (fun j hj => hσ j fun d => by rw [d, (hobj k o hq).2] at hj; cases hj) (r.oks.ok k o hq)
      · rcases look_none_put h1 with ⟨rfl, rfl⟩ | ⟨c, h1⟩
        · simp only [if_true] at hb
        · rcases look_none_put h2 with ⟨rfl, rfl⟩ | ⟨c', h2⟩
          · simp only [if_true] at hb'
          · simp only [if_neg c.symm, if_neg c'.symm] at hb hb'
            exact r.oks.apart k k' o o' h1 h2 hne b hb hb'
      · rcases look_none_put hk with ⟨rfl, rfl⟩ | ⟨c, hk⟩
        · simp only [if_true] at hb
        · simp only [if_neg c.symm] at hb
          exact r.oks.live k o hk b hb
      · have hk' : S.old.any (Nat.beq k) = true := hk
        refine (hσ k fun d => ?_).trans (r.sig0 k hk')
        have := St.has_old hh
        rw [← d, hk'] at this
        cases this
      · rcases look_none_put hk with ⟨rfl, rfl⟩ | ⟨c, hk⟩
        · simp only [if_true] at hb
        · simp only [if_neg c.symm] at hb
          exact r.foot k o hk b hb
  · cases hs
end Go.E
