/- A logic over abstract states. Part 9: a region that leaves its order open. -/
import Derived.Test.YtjbiaoajmdbigaaEng8
set_option linter.unusedVariables false
set_option linter.unusedSimpArgs false
namespace Go.E
open Go

/-! ### Who waits for whom: masks of bits -/
def maskOf (acc : List Nat) (o : Oper) : Nat := o.after.toList.foldl (fun m e => bif Region.binds .any e then m ||| (2 ^ e.on ||| acc.getD e.on 0) else m) 0
def masks (acc : List Nat) : List Oper → List Nat
  | [] => acc
  | o :: r => masks (acc ++ [maskOf acc o]) r
def lower : Nat → List Oper → Bool
  | _, [] => true
  | i, o :: r => (o.after.toList.all fun e => !Region.binds .any e || Nat.blt e.on i) && lower (i + 1) r

theorem foldl_mask (acc : List Nat) (k : Nat) : ∀ (l : List Edge) (m : Nat), (l.foldl (fun m e => bif Region.binds .any e then m ||| (2 ^ e.on ||| acc.getD e.on 0) else m) m).testBit k = true →
    m.testBit k = true ∨ ∃ e ∈ l, Region.binds .any e = true ∧ (k = e.on ∨ (acc.getD e.on 0).testBit k = true)
  | [], m, h => .inl h
  | e :: l, m, h => by
    rw [List.foldl_cons] at h
    rcases foldl_mask acc k l _ h with h1 | ⟨e', he, hb, h2⟩
    · cases hb : Region.binds .any e with
      | false => simp only [hb, cond_false] at h1; exact .inl h1
      | true =>
        simp only [hb, cond_true, Nat.testBit_or, Nat.testBit_two_pow, Bool.or_eq_true, decide_eq_true_eq] at h1
        rcases h1 with h1 | h1 | h1
        · exact .inl h1
        · exact .inr ⟨e, by simp, hb, .inl h1.symm⟩
        · exact .inr ⟨e, by simp, hb, .inr h1⟩
    · exact .inr ⟨e', by simp [he], hb, h2⟩

/-- All that i waits for is in D. -/
def Waits (ops : List Oper) (D : Nat → Bool) (i : Nat) : Prop := ∀ o, ops[i]? = some o → ∀ e ∈ o.after, Region.binds .any e = true → D e.on = true
def Closed (ops : List Oper) (D : Nat → Bool) : Prop := ∀ i, D i = true → Waits ops D i

def MaskOK (ops : List Oper) (acc : List Nat) : Prop := ∀ i k, (acc.getD i 0).testBit k = true → k < i ∧ ∀ D, Closed ops D → Waits ops D i → D k = true

theorem masks_ok {ops : List Oper} : ∀ (r : List Oper) (acc : List Nat), (∀ k, r[k]? = ops[acc.length + k]?) → lower acc.length r = true → MaskOK ops acc → MaskOK ops (masks acc r)
  | [], acc, _, _, h => h
  | o :: r, acc, hr, hl, h => by
    simp only [lower, Bool.and_eq_true] at hl
    refine masks_ok r _ (fun k => by have := hr (k + 1); simpa [Nat.add_assoc, Nat.add_comm 1] using this) (by simpa using hl.2) fun i k hk => ?_
    rcases Nat.lt_trichotomy i acc.length with hi | hi | hi
    · refine h i k ?_
      simpa [List.getD_eq_getElem?_getD, List.getElem?_append_left hi] using hk
    · subst hi
      have hk' : (maskOf acc o).testBit k = true := by simpa [List.getD_eq_getElem?_getD] using hk
      have ho : ops[acc.length]? = some o := by simpa using (hr 0).symm
      rcases foldl_mask acc k _ _ hk' with h1 | ⟨e, he, hb, h2⟩
      · simp at h1
      · have hlt : e.on < acc.length := by
          have := hl.1
          rw [List.all_eq_true] at this
          have := this e he
          simp only [hb, Bool.not_true, Bool.false_or, Nat.blt] at this
          exact Nat.le_of_ble_eq_true this
        rcases h2 with rfl | h2
        · exact ⟨hlt, fun D _ hw => hw o ho e (by simpa using he) hb⟩
        · obtain ⟨q1, q2⟩ := h e.on k h2
          exact ⟨by omega, fun D hc hw => q2 D hc (hc e.on (hw o ho e (by simpa using he) hb))⟩
    · have : (acc ++ [maskOf acc o]).getD i 0 = 0 := by
        rw [List.getD_eq_getElem?_getD, List.getElem?_eq_none (by simp; omega)]; rfl
      rw [this] at hk
      simp at hk

/-! ### The last who wrote -/
def lw {β : Type} (D : Nat → Bool) (t : Nat → Option (Option β)) : Nat → Option β → Option β
  | 0, acc => acc
  | n + 1, acc => if D n = true then (match t n with | some v => v | none => lw D t n acc) else lw D t n acc

theorem lw_congr {β : Type} {D D' : Nat → Bool} {t : Nat → Option (Option β)} {acc : Option β} : ∀ n, (∀ j, j < n → t j ≠ none → D j = D' j) → lw D t n acc = lw D' t n acc
  | 0, _ => rfl
  | n + 1, h => by
    have ih := lw_congr (acc := acc) n fun j hj => h j (by omega)
    simp only [lw]
    cases e : t n with
    | none => simp [ih]
    | some v => rw [h n (by omega) (by simp [e]), ih]
theorem lw_last {β : Type} {D : Nat → Bool} {t : Nat → Option (Option β)} {acc v : Option β} {i : Nat} (hd : D i = true) (ht : t i = some v) : ∀ n, i < n → (∀ j, i < j → j < n → D j = true → t j = none) → lw D t n acc = v
  | 0, h, _ => by omega
  | n + 1, h, hj => by
    simp only [lw]
    by_cases c : i = n
    · subst c; simp [hd, ht]
    · have ih := lw_last (acc := acc) hd ht n (by omega) fun j h1 h2 => hj j h1 (by omega)
      cases e : D n with
      | false => simpa using ih
      | true => simp [hj n (by omega) (by omega) e, ih]
theorem lw_below {β : Type} {t : Nat → Option (Option β)} {acc : Option β} {i : Nat} : ∀ n, i ≤ n → lw (fun j => decide (j < i)) t n acc = lw (fun _ => true) t i acc
  | 0, h => by obtain rfl : i = 0 := by omega
               rfl
  | n + 1, h => by
    by_cases c : i = n + 1
    · subst c
      exact lw_congr _ fun j hj _ => by simp [hj]
    · simp only [lw]
      rw [if_neg (by simp; omega)]
      exact lw_below n (by omega)

/-! ### The state behind some of the operations -/
def td (ops : List Oper) (is : List Info) (D : Nat → Bool) (S : St) : Nat → St
  | 0 => S
  | n + 1 => match ops[n]?, is[n]? with
    | some o, some f => if D n = true then (td ops is D S n).apply o.dst f else td ops is D S n
    | _, _ => td ops is D S n

def Info.val : Info → Option SV
  | .skip => some (.tup [])
  | .read _ _ res => some res
  | .run _ _ res _ => some res
def Info.touch (h : Nat) : Info → Option (Option LObj)
  | .run _ l _ l' => if (look l h).isSome || (look l' h).isSome then some (look l' h) else none
  | _ => none
def tS (ops : List Oper) (is : List Info) (s : Nat) (j : Nat) : Option (Option SV) :=
  match ops[j]?, is[j]? with
  | some o, some f => if o.dst = some s then some f.val else none
  | _, _ => none
def tO (ops : List Oper) (is : List Info) (h : Nat) (j : Nat) : Option (Option LObj) :=
  match ops[j]?, is[j]? with
  | some _, some f => f.touch h
  | _, _ => none

theorem apply_slot (S : St) (d : Option Nat) (f : Info) (s : Nat) : look (S.apply d f).slots s = if d = some s then f.val else look S.slots s := by
  cases d with
  | none => cases f <;> simp [St.apply, St.step, putD]
  | some d =>
    cases f <;> simp only [St.apply, St.step, putD, look_put, Info.val, Option.some.injEq]
theorem apply_obj (S : St) (d : Option Nat) (f : Info) (h : Nat) : look (S.apply d f).objs h = match f.touch h with | some v => v | none => look S.objs h := by
  cases f with
  | skip => rfl
  | read _ _ _ => rfl
  | run vals l res l' =>
    simp only [St.apply, St.step, look_app, look_cuts, Info.touch]
    cases e1 : look l' h with
    | some x => simp
    | none =>
      cases e2 : look l h with
      | none => simp
      | some y => simp
theorem apply_old (S : St) (d : Option Nat) (f : Info) : (S.apply d f).old = S.old := by cases f <;> rfl
theorem apply_n (S : St) (d : Option Nat) (f : Info) : (S.apply d f).n = S.n := by cases f <;> rfl

section
variable {ops : List Oper} {is : List Info} {S : St}
theorem td_n (D : Nat → Bool) : ∀ n, (td ops is D S n).n = S.n
  | 0 => rfl
  | n + 1 => by
    simp only [td]
    split
    · split
      · rw [apply_n]; exact td_n D n
      · exact td_n D n
    · exact td_n D n
theorem td_old (D : Nat → Bool) : ∀ n, (td ops is D S n).old = S.old
  | 0 => rfl
  | n + 1 => by
    simp only [td]
    split
    · split
      · rw [apply_old]; exact td_old D n
      · exact td_old D n
    · exact td_old D n
theorem td_slot (D : Nat → Bool) (s : Nat) : ∀ n, look (td ops is D S n).slots s = lw D (tS ops is s) n (look S.slots s)
  | 0 => rfl
  | n + 1 => by
    have ih := td_slot D s n
    simp only [td, lw, tS]
    cases e1 : ops[n]? with
    | none => simp [ih]
    | some o =>
      cases e2 : is[n]? with
      | none => simp [ih]
      | some f =>
        dsimp only
        by_cases hd : D n = true
        · simp only [hd, if_true, apply_slot]
          split
          · rfl
          · exact ih
        · simp only [hd, if_false, Bool.false_eq_true]; exact ih
theorem td_obj (D : Nat → Bool) (h : Nat) : ∀ n, look (td ops is D S n).objs h = lw D (tO ops is h) n (look S.objs h)
  | 0 => rfl
  | n + 1 => by
    have ih := td_obj D h n
    simp only [td, lw, tO]
    cases e1 : ops[n]? with
    | none => simp [ih]
    | some o =>
      cases e2 : is[n]? with
      | none => simp [ih]
      | some f =>
        dsimp only
        by_cases hd : D n = true
        · simp only [hd, if_true, apply_obj]
          cases e3 : f.touch h with
          | none => exact ih
          | some v => rfl
        · simp only [hd, if_false, Bool.false_eq_true]; exact ih
end

/-! ### What the order must not matter to -/
def reads (ops : List Oper) (o : Oper) : List Nat := (o.op.operands.toList.filterMap fun x => match x with | .tmp t => some t | _ => none) ++ (match o.guard with | some (j, _) => (match (ops[j]?).bind (·.dst) with | some d => [d] | none => []) | none => [])
def Info.looks : Info → List Nat
  | .skip => []
  | .read _ l _ => l.map (·.1)
  | .run _ l _ l' => l.map (·.1) ++ l'.map (·.1)
def Info.writes : Info → List Nat
  | .run _ l _ l' => l.map (·.1) ++ l'.map (·.1)
  | _ => []
def Info.news : Info → List Nat
  | .run _ l _ l' => (l'.map (·.1)).filter fun h => !(look l h).isSome
  | _ => []
def Info.has (h : Nat) : Info → Bool
  | .skip => false
  | .read _ _ res => res.has h
  | .run _ _ res l' => res.has h || l'.any fun p => Nat.beq p.1 h || p.2.has h

def memN (a : Nat) (l : List Nat) : Bool := l.any (Nat.beq a)
theorem memN_iff {a : Nat} {l : List Nat} : memN a l = true ↔ a ∈ l := by
  simp only [memN, List.any_eq_true, beq_iff]
  exact ⟨fun ⟨x, hx, e⟩ => e ▸ hx, fun h => ⟨a, h, rfl⟩⟩

/-- What is asked of i against j. -/
def pairOK (ops : List Oper) (ms : List Nat) (i j : Nat) (oi oj : Oper) (fi fj : Info) : Bool :=
  let comp := (ms.getD i 0).testBit j || (ms.getD j 0).testBit i
  (match oi.dst, oj.dst with | some a, some b => !Nat.beq a b | _, _ => true) &&
  (comp || ((match oj.dst with | some d => !memN d (reads ops oi) | none => true) && fj.writes.all fun h => !memN h fi.looks)) &&
  ((ms.getD j 0).testBit i || fi.news.all fun h => !fj.has h)

def rowOK (ops : List Oper) (ms : List Nat) (i : Nat) (oi : Oper) (fi : Info) : Nat → List Oper → List Info → Bool
  | j, oj :: r, fj :: fs => (Nat.beq i j || pairOK ops ms i j oi oj fi fj) && rowOK ops ms i oi fi (j + 1) r fs
  | _, _, _ => true
def allOK (S : St) (ops : List Oper) (is : List Info) (ms : List Nat) : Nat → List Oper → List Info → Bool
  | i, o :: r, f :: fs => (rowOK ops ms i o f 0 ops is && f.news.all fun h => !S.has h) && allOK S ops is ms (i + 1) r fs
  | _, _, _ => true
def openOK (S : St) (ops : List Oper) (is : List Info) : Bool := lower 0 ops && allOK S ops is (masks [] ops) 0 ops is

theorem rowOK_spec {ops : List Oper} {ms : List Nat} {i : Nat} {oi : Oper} {fi : Info} : ∀ {r : List Oper} {fs : List Info} {j : Nat}, rowOK ops ms i oi fi j r fs = true → ∀ k oj fj, r[k]? = some oj → fs[k]? = some fj → i ≠ j + k → pairOK ops ms i (j + k) oi oj fi fj = true
  | [], fs, j, _, k, oj, fj, h1, _, _ => by simp at h1
  | o :: r, [], j, _, k, oj, fj, _, h2, _ => by simp at h2
  | o :: r, f :: fs, j, h, k, oj, fj, h1, h2, hne => by
    simp only [rowOK, Bool.and_eq_true, Bool.or_eq_true] at h
    cases k with
    | zero =>
      simp only [List.getElem?_cons_zero, Option.some.injEq] at h1 h2
      subst h1 h2
      rcases h.1 with h3 | h3
      · exact absurd (beq_iff.1 h3) hne
      · exact h3
    | succ k =>
      simp only [List.getElem?_cons_succ] at h1 h2
      have := rowOK_spec h.2 k oj fj h1 h2 (by omega)
      rwa [show j + 1 + k = j + (k + 1) by omega] at this
theorem allOK_spec {S : St} {ops : List Oper} {is : List Info} {ms : List Nat} : ∀ {r : List Oper} {fs : List Info} {i : Nat}, allOK S ops is ms i r fs = true → ∀ k o f, r[k]? = some o → fs[k]? = some f →
    rowOK ops ms (i + k) o f 0 ops is = true ∧ ∀ h ∈ f.news, S.has h = false
  | [], fs, i, _, k, o, f, h1, _ => by simp at h1
  | o0 :: r, [], i, _, k, o, f, _, h2 => by simp at h2
  | o0 :: r, f0 :: fs, i, h, k, o, f, h1, h2 => by
    simp only [allOK, Bool.and_eq_true] at h
    cases k with
    | zero =>
      simp only [List.getElem?_cons_zero, Option.some.injEq] at h1 h2
      subst h1 h2
      refine ⟨h.1.1, fun x hx => ?_⟩
      have := h.1.2
      rw [List.all_eq_true] at this
      simpa using this x hx
    | succ k =>
      simp only [List.getElem?_cons_succ] at h1 h2
      have := allOK_spec h.2 k o f h1 h2
      rwa [show i + 1 + k = i + (k + 1) by omega] at this
end Go.E
