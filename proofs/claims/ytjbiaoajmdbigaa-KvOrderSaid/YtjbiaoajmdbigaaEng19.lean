/- A logic over abstract states. Part 19: a string's runes; sets of strings as maps. -/
import Derived.Test.YtjbiaoajmdbigaaEng18
import Derived.MapKept
set_option linter.unusedVariables false
set_option linter.unusedSimpArgs false
namespace Go.E
open Go Go.MapKept

theorem blt_iff {a b : Nat} : Nat.blt a b = true ↔ a < b := by rw [Nat.blt_eq]
/-! ### Runes -/
theorem width_pos (s : ByteArray) (pos : Nat) : 1 ≤ (Utf8.decode s pos).2 := by
  simp only [Utf8.decode]
  repeat' split
  all_goals simp
def runesF (s : ByteArray) : Nat → Nat → List Int
  | 0, _ => []
  | n + 1, pos => bif Nat.blt pos s.size then ((Utf8.decode s pos).1 : Int) :: runesF s n (pos + (Utf8.decode s pos).2) else []
theorem runesF_more (s : ByteArray) : ∀ (n m pos : Nat), s.size - pos ≤ n → s.size - pos ≤ m → runesF s n pos = runesF s m pos
  | 0, 0, _, _, _ => rfl
  | 0, m + 1, pos, h, _ => by
    have : Nat.blt pos s.size = false := by
      cases e : Nat.blt pos s.size with
      | false => rfl
      | true => have := blt_iff.1 e; omega
    simp [runesF, this]
  | n + 1, 0, pos, _, h => by
    have : Nat.blt pos s.size = false := by
      cases e : Nat.blt pos s.size with
      | false => rfl
      | true => have := blt_iff.1 e; omega
    simp [runesF, this]
  | n + 1, m + 1, pos, h1, h2 => by
    simp only [runesF]
    cases e : Nat.blt pos s.size with
    | false => rfl
    | true =>
      have := blt_iff.1 e
      have := width_pos s pos
      simp only [cond_true]
      rw [runesF_more s n m _ (by omega) (by omega)]
/-- A string's runes from a place on. -/
def runesAt (s : ByteArray) (pos : Nat) : List Int := runesF s (s.size - pos) pos
def runes (s : ByteArray) : List Int := runesAt s 0
theorem runesAt_more {s : ByteArray} {pos : Nat} (h : pos < s.size) : runesAt s pos = ((Utf8.decode s pos).1 : Int) :: runesAt s (pos + (Utf8.decode s pos).2) := by
  have hw := width_pos s pos
  unfold runesAt
  rw [show s.size - pos = (s.size - pos - 1) + 1 by omega]
  simp only [runesF, blt_iff.2 h, cond_true]
  rw [runesF_more s (s.size - pos - 1) (s.size - (pos + (Utf8.decode s pos).2)) _ (by omega) (by omega)]
theorem runesAt_end {s : ByteArray} {pos : Nat} (h : ¬ pos < s.size) : runesAt s pos = [] := by
  unfold runesAt
  rw [show s.size - pos = 0 by omega]
  rfl
theorem runesAt_length (s : ByteArray) : ∀ (n pos : Nat), (runesF s n pos).length ≤ n
  | 0, _ => by simp [runesF]
  | n + 1, pos => by
    simp only [runesF]
    cases Nat.blt pos s.size with
    | false => simp
    | true => have := runesAt_length s n (pos + (Utf8.decode s pos).2); simp; omega
theorem runes_length (s : ByteArray) : (runes s).length ≤ s.size := by
  have := runesAt_length s (s.size - 0) 0
  simpa [runes, runesAt] using this

section
variable {P : Program} {T : Tab} (hT : TabOK P T)

include hT in
theorem tri_range_str {t ty : TypeId} {x : Operand} {s : ByteArray} (n : Nat) (hk : ((look T t).map (·.kind)) = some 4) : Tri P (mkO (.range t x) ty) [sc (.string s)] [] (cc (.loc n 0)) [(n, .it s 0)] :=
  tri_new fun F σ w a hr => by
    have hx : a.eval x = .string s := scal_rep (show RepS F σ w (a.eval x) (sc (.string s)) from hr.1) rfl
    have hu : P.underlying t = some .string := by
      cases e1 : look T t with
      | none => rw [e1] at hk; cases hk
      | some ti =>
        rw [e1] at hk
        obtain ⟨i, d, _, hd, _, _, _, _, _, _, _, hkd⟩ := ti_parts (hT t ti e1)
        rw [hd]
        simp only [Option.map_some, Option.some.injEq] at hk
        rw [hkd] at hk
        cases d <;> simp_all [kindD]
    exact ⟨.pointer (some ⟨w.heap.size, 0, none⟩), .stringIter s 0, by simp [execOp, mkO, hx, Instr.range, run_underlying hu], fun σ' _ hn _ _ hh => ⟨⟨_, hn, rfl⟩, _, rfl, fun k => Iff.rfl, hh⟩⟩

theorem heap_put {w : World} {r : Nat} {o o' : Obj} (hb : w.heap[r]? = some o) : (w.heap.setIfInBounds r o')[r]? = some o' ∧ ∀ r', r' ≠ r → (w.heap.setIfInBounds r o')[r']? = w.heap[r']? := heap_set hb

theorem tri_next_end {ty : TypeId} {x : Operand} {s : ByteArray} {h pos : Nat} (hp : ¬ pos < s.size) : Tri P (mkO (.next x true) ty) [cc (.loc h 0)] [(h, .it s pos)] (.tup [.c (.d (.v (.bool false)))]) [(h, .it s pos)] :=
  tri_of_value fun F σ X w a hr hok => by
    obtain ⟨b, hb, hx⟩ := (show RepC F σ w (a.eval x) (.loc h 0) from hr.1)
    obtain ⟨b', hb', _, hh⟩ := hok.ok h (.it s pos) (by simp [look])
    rw [hb] at hb'
    simp only [Value.pointer.injEq, Option.some.injEq, Addr.mk.injEq] at hb'
    obtain ⟨rfl, _⟩ := hb'
    refine ⟨.tuple #[.bool false], by simp [execOp, mkO, hx, Instr.next, getObj, Sem.run, hh, hp], ⟨_, rfl, rfl, fun i hi => ?_⟩⟩
    simp only [List.length_cons, List.length_nil] at hi
    have : i = 0 := by omega
    subst this
    exact RepD.v _ rfl

/-- One object is changed in its place. -/
theorem tri_set {P : Program} {o : Oper} {vals : List SV} {res : SV} {h : Nat} {ob ob' : LObj}
    (hh : ∀ F σ X w a, Reps F σ w a o.op.operands.toList vals → OKs F σ X w [(h, ob)] → ∃ b old new v, X h b ∧ (∀ k, X h k → k = b) ∧ w.heap[b]? = some old ∧ ((execOp a.eval o).run P w = .ok (.value v) { w with heap := w.heap.setIfInBounds b new } ∨ v = undef ∧ (execOp a.eval o).run P w = .ok .skip { w with heap := w.heap.setIfInBounds b new }) ∧
      ((∀ k, k ≠ b → ({ w with heap := w.heap.setIfInBounds b new } : World).heap[k]? = w.heap[k]?) → ({ w with heap := w.heap.setIfInBounds b new } : World).heap[b]? = some new →
        RepS F σ { w with heap := w.heap.setIfInBounds b new } v res ∧ ObjOK F σ { w with heap := w.heap.setIfInBounds b new } (σ h) (X h) ob')) : Tri P o vals [(h, ob)] res [(h, ob')] := by
  intro F σ X w a hr hok hF
  obtain ⟨b, old, new, v, hx, hx', hb, hrun, hpost⟩ := hh F σ X w a hr hok
  refine (show ∀ r, (r = .ok (.value v) { w with heap := w.heap.setIfInBounds b new } ∨ v = undef ∧ r = .ok .skip { w with heap := w.heap.setIfInBounds b new }) → Upon P (fun v w' => ∃ F' σ' X', RepS F' σ' w' v res ∧ OKs F' σ' X' w' [(h, ob')] ∧ Post [(h, ob)] [(h, ob')] F σ X w F' σ' X' w') r from fun r hr => ?_) _ hrun
  suffices hS : ∃ F' σ' X', RepS F' σ' { w with heap := w.heap.setIfInBounds b new } v res ∧ OKs F' σ' X' { w with heap := w.heap.setIfInBounds b new } [(h, ob')] ∧ Post [(h, ob)] [(h, ob')] F σ X w F' σ' X' { w with heap := w.heap.setIfInBounds b new } by
    rcases hr with rfl | ⟨rfl, rfl⟩ <;> exact hS
  obtain ⟨h1, h2⟩ := heap_put (o' := new) hb
  obtain ⟨h3, h4⟩ := hpost h2 h1
  have hl : look [(h, ob)] h = some ob := by simp [look]
  refine ⟨F, σ, X, h3, ⟨fun k o e => ?_, fun k k' o o' e e' hne => ?_, fun k o e j hj => ?_⟩, rfl, rfl, rfl, by simp, fun k hk hx2 => h2 k fun e => hx2 h ob hl (e ▸ hx), fun _ h => h, fun _ h => .inl h, fun k o e j hj => ?_, fun _ _ => rfl⟩
  · obtain ⟨rfl, rfl⟩ := look_one e; exact h4
  · obtain ⟨rfl, rfl⟩ := look_one e; exact absurd (look_one e').1.symm hne
  · obtain ⟨rfl, rfl⟩ := look_one e
    have := hok.live _ _ hl j hj
    exact ⟨by simpa using this.1, this.2⟩
  · obtain ⟨rfl, rfl⟩ := look_one e
    exact .inr ⟨_, _, hl, hj⟩

theorem tri_next_more {ty : TypeId} {x : Operand} {s : ByteArray} {h pos : Nat} (hp : pos < s.size) :
    Tri P (mkO (.next x true) ty) [cc (.loc h 0)] [(h, .it s pos)] (.tup [.c (.d (.v (.bool true))), .c (.d (.v (.int .i64 pos))), .c (.d (.v (.int .i32 (Utf8.decode s pos).1)))]) [(h, .it s (pos + (Utf8.decode s pos).2))] :=
  tri_set fun F σ X w a hr hok => by
    obtain ⟨b, hb, hx⟩ := (show RepC F σ w (a.eval x) (.loc h 0) from hr.1)
    obtain ⟨b', hb', hX, hh⟩ := hok.ok h (.it s pos) (by simp [look])
    have hbb := hb'
    rw [hb] at hb'
    simp only [Value.pointer.injEq, Option.some.injEq, Addr.mk.injEq] at hb'
    obtain ⟨rfl, _⟩ := hb'
    refine ⟨b, _, .stringIter s (pos + (Utf8.decode s pos).2), .tuple #[.bool true, .int .i64 pos, .int .i32 (Utf8.decode s pos).1], (hX b).2 rfl, fun k hk => (hX k).1 hk, hh, .inl ?_, fun _ hnew => ⟨⟨_, rfl, rfl, fun i hi => ?_⟩, b, hb, hX, hnew⟩⟩
    · simp [execOp, mkO, hx, Instr.next, getObj, setObj, Sem.run, hh, hp, goInt]
    · simp only [List.length_cons, List.length_nil] at hi
      rcases (by omega : i = 0 ∨ i = 1 ∨ i = 2) with rfl | rfl | rfl <;> exact RepD.v _ rfl
end

/-! ### Sets of strings -/
def hasK (ks : List ByteArray) (k : ByteArray) : Bool := ks.any fun x => eqS x k
/-- A map that has these keys, each with true. -/
def setR (ks : List ByteArray) : (Nat → Prop) → World → Value → (Nat → Prop) → Prop := fun _ w x X =>
  ∃ b es clock, x = .map (some b) ∧ (∀ k, X k ↔ k = b) ∧ w.heap[b]? = some (.map es clock) ∧ es.toList.map (fun e => (e.key, e.val)) = ks.map fun k => (Value.string k, Value.bool true)
theorem setR_ok {F : Nat → Prop} {σ : Nat → Value} {w : World} {x : Value} {X : Nat → Prop} {ks : List ByteArray} : ObjOK F σ w x X (.opq (setR ks)) ↔ setR ks F w x X := by
  refine ⟨fun h => h.1, fun h => ⟨h, fun F' w' _ hw => ?_⟩⟩
  obtain ⟨b, es, clock, h1, h2, h3, h4⟩ := h
  exact ⟨b, es, clock, h1, h2, (hw b (.inr ((h2 b).2 rfl))).trans h3, h4⟩

theorem set_find {es : Array MapEntry} {ks : List ByteArray} (h : es.toList.map (fun e => (e.key, e.val)) = ks.map fun k => (Value.string k, Value.bool true)) (k : ByteArray) :
    (hasK ks k = false ∧ Instr.findNow .string (.string k) es.toList 0 = some none) ∨ (hasK ks k = true ∧ ∃ i, Instr.findNow .string (.string k) es.toList 0 = some (some (i, .bool true))) := by
  have hkeys : ∀ x ∈ es.toList, ∃ q, q ∈ ks ∧ x.key = .string q ∧ x.val = .bool true := fun x hx => by
    have : (x.key, x.val) ∈ ks.map fun k => (Value.string k, Value.bool true) := h ▸ List.mem_map.2 ⟨x, hx, rfl⟩
    obtain ⟨q, hq, e⟩ := List.mem_map.1 this
    simp only [Prod.mk.injEq] at e
    exact ⟨q, hq, e.1.symm, e.2.symm⟩
  rcases findNow_spec (d := .string) (k := .string k) trivial es.toList 0 (fun x hx => by obtain ⟨q, _, e, _⟩ := hkeys x hx; rw [e]; trivial) with ⟨h1, h2⟩ | ⟨j, e, h1, h2, h3⟩
  · refine .inl ⟨?_, h1⟩
    cases hh : hasK ks k with
    | false => rfl
    | true =>
      obtain ⟨q, hq, e⟩ := List.any_eq_true.1 hh
      obtain rfl := eqS_true e
      have : (Value.string q, Value.bool true) ∈ es.toList.map (fun e => (e.key, e.val)) := h ▸ List.mem_map.2 ⟨q, hq, rfl⟩
      obtain ⟨x, hx, e2⟩ := List.mem_map.1 this
      simp only [Prod.mk.injEq] at e2
      exact absurd e2.1 (h2 x hx)
  · obtain ⟨q, hq, e1, e2⟩ := hkeys e (List.mem_of_getElem? h2)
    rw [h3] at e1
    simp only [Value.string.injEq] at e1
    subst e1
    exact .inr ⟨List.any_eq_true.2 ⟨k, hq, eqS_self k⟩, _, by rw [h1, e2]⟩

section
variable {P : Program}
theorem tri_set_new {t ty : TypeId} (n : Nat) : Tri P (mkO (.makeMap t none) ty) [] [] (cc (.own n)) [(n, .opq (setR []))] :=
  tri_new fun F σ w a hr => ⟨.map (some w.heap.size), .map #[] 0, by simp [execOp, mkO, Instr.makeMap], fun σ' _ hn _ _ hh => ⟨⟨hn.symm, by rw [hn]; rfl⟩, setR_ok.2 ⟨_, _, _, rfl, fun _ => Iff.rfl, hh, by simp⟩⟩⟩

theorem tri_set_get {t kt et ty : TypeId} {x y : Operand} {h : Nat} {ks : List ByteArray} {k : ByteArray} (hm : P.underlying t = some (.map kt et)) (hd : P.underlying kt = some .string) (hz : (P.info? et).bind (·.zero) = some (.bool false)) :
    Tri P (mkO (.lookup t x y false) ty) [cc (.own h), sc (.string k)] [(h, .opq (setR ks))] (sc (.bool (hasK ks k))) [(h, .opq (setR ks))] :=
  tri_of_value fun F σ X w a hr hok => by
    obtain ⟨h1, h2, _⟩ := (show RepS F σ w (a.eval x) (cc (.own h)) ∧ RepS F σ w (a.eval y) (sc (.string k)) ∧ True from hr)
    have hy : a.eval y = .string k := scal_rep h2 rfl
    obtain ⟨hv, _⟩ := (show RepC F σ w (a.eval x) (.own h) from h1)
    obtain ⟨b, es, clock, e1, _, e3, e4⟩ := setR_ok.1 (hok.ok h (.opq (setR ks)) (by simp [look]))
    refine ⟨.bool (hasK ks k), ?_, RepD.v _ rfl⟩
    obtain ⟨i, hi, hiz⟩ := Option.bind_eq_some_iff.1 hz
    rcases set_find e4 k with ⟨q, hf⟩ | ⟨q, i, hf⟩
    · simp [execOp, mkO, hv, e1, hy, Instr.lookup, run_underlying hm, MapKept.run_getObj_map e3, MapKept.run_checkKey hd (show IsKey .string (.string k) from trivial), MapKept.run_findKey hd hf, q, zeroValue, typeInfo, hi, hiz]
    · simp [execOp, mkO, hv, e1, hy, Instr.lookup, run_underlying hm, MapKept.run_getObj_map e3, MapKept.run_checkKey hd (show IsKey .string (.string k) from trivial), MapKept.run_findKey hd hf, q]

theorem tri_set_put {t kt et ty : TypeId} {x y z : Operand} {h : Nat} {ks : List ByteArray} {k : ByteArray} (hm : P.underlying t = some (.map kt et)) (hd : P.underlying kt = some .string) (hk : hasK ks k = false) :
    Tri P (mkO (.mapUpdate t x y z) ty) [cc (.own h), sc (.string k), sc (.bool true)] [(h, .opq (setR ks))] .any [(h, .opq (setR (ks ++ [k])))] :=
  tri_set fun F σ X w a hr hok => by
    obtain ⟨h1, h2, h3, _⟩ := (show RepS F σ w (a.eval x) (cc (.own h)) ∧ RepS F σ w (a.eval y) (sc (.string k)) ∧ RepS F σ w (a.eval z) (sc (.bool true)) ∧ True from hr)
    have hy : a.eval y = .string k := scal_rep h2 rfl
    have hz : a.eval z = .bool true := scal_rep h3 rfl
    obtain ⟨hv, _⟩ := (show RepC F σ w (a.eval x) (.own h) from h1)
    obtain ⟨b, es, clock, e1, e2, e3, e4⟩ := setR_ok.1 (hok.ok h (.opq (setR ks)) (by simp [look]))
    rcases set_find e4 k with ⟨q, hf⟩ | ⟨q, i, hf⟩
    · refine ⟨b, _, .map (es.push { key := .string k, val := .bool true, born := clock }) (clock + 1), undef, (e2 b).2 rfl, fun j hj => (e2 j).1 hj, e3, .inr ⟨rfl, ?_⟩, fun _ hnew => ⟨trivial, setR_ok.2 ⟨b, _, _, e1, e2, hnew, by simp [e4]⟩⟩⟩
      simp [execOp, mkO, hv, e1, hy, hz, Instr.mapUpdate, run_underlying hm, MapKept.run_getObj_map e3, MapKept.run_checkKey hd (show IsKey .string (.string k) from trivial), MapKept.run_findKey hd hf, MapKept.run_setObj_map _ e3]
    · rw [hk] at q; cases q
end
end Go.E
