/- A logic over abstract states: what slots and memory hold, as data. Part 0: the words, and what stays true when the world grows. -/
import Derived.WalkKit
import Derived.Orders
import Derived.Maps.AppendAt
set_option linter.unusedVariables false
set_option linter.unusedSimpArgs false
namespace Go.E

/-- Data that never changes: a plain value; a pointer to cells; a slice, each element's cells. -/
inductive DV where
  | v (x : Value)
  | ptr (cs : List DV)
  | sl (es : List (List DV))

instance : Inhabited DV := ⟨.v undef⟩

/-- What a cell or a slot of one cell holds: data; a pointer into object h at a cell; a pointer to element i of array h (of sz cells each), at a cell of it; the slice that array h is; a closure. -/
inductive CV where
  | d (x : DV)
  | loc (h off : Nat)
  | eloc (h i off sz : Nat)
  | own (h : Nat)
  | clo (g : Nat) (caps : List (Nat × Nat))

inductive TV where
  | c (x : CV)
  | agg (l : List CV)

inductive SV where
  | t (x : TV)
  | tup (l : List TV)
  | any

instance : Inhabited SV := ⟨.any⟩

/-- Objects: a row of cells; an array that may grow; a string that is gone through; another one, by a word of its own. -/
inductive LObj where
  | cells (t : TypeId) (cs : List CV)
  | arr (e sz bytes : Nat) (es : List (List DV))
  | it (s : ByteArray) (pos : Nat)
  | opq (R : (Nat → Prop) → World → Value → (Nat → Prop) → Prop)

def look {α : Type} : List (Nat × α) → Nat → Option α
  | [], _ => none
  | (j, x) :: r, i => bif Nat.beq j i then some x else look r i
def cut {α : Type} : List (Nat × α) → Nat → List (Nat × α)
  | [], _ => []
  | (j, x) :: r, i => bif Nat.beq j i then cut r i else (j, x) :: cut r i
def put {α : Type} (l : List (Nat × α)) (i : Nat) (x : α) : List (Nat × α) := (i, x) :: cut l i

theorem beq_iff {a b : Nat} : Nat.beq a b = true ↔ a = b := ⟨Nat.eq_of_beq_eq_true, fun h => by subst h; exact Nat.beq_refl a⟩
theorem beq_false {a b : Nat} (h : a ≠ b) : Nat.beq a b = false := by
  cases e : Nat.beq a b with
  | false => rfl
  | true => exact absurd (beq_iff.1 e) h
theorem look_cut_same {α : Type} (l : List (Nat × α)) (i : Nat) : look (cut l i) i = none := by
  induction l with
  | nil => rfl
  | cons a r ih =>
    obtain ⟨j, x⟩ := a
    by_cases h : j = i
    · subst h; simp only [cut, Nat.beq_refl, cond_true]; exact ih
    · simp only [cut, beq_false h, cond_false, look]; exact ih
theorem look_cut_ne {α : Type} (l : List (Nat × α)) {i k : Nat} (h : i ≠ k) : look (cut l i) k = look l k := by
  induction l with
  | nil => rfl
  | cons a r ih =>
    obtain ⟨j, x⟩ := a
    by_cases hj : j = i
    · subst hj; simp only [cut, Nat.beq_refl, cond_true, look, beq_false h, cond_false]; exact ih
    · simp only [cut, beq_false hj, cond_false, look]
      by_cases hk : j = k
      · subst hk; simp only [Nat.beq_refl, cond_true]
      · simp only [beq_false hk, cond_false]; exact ih
theorem look_cut {α : Type} (l : List (Nat × α)) (i k : Nat) : look (cut l i) k = if i = k then none else look l k := by
  split
  · rename_i h; subst h; exact look_cut_same _ _
  · rename_i h; exact look_cut_ne _ h
theorem look_put {α : Type} (l : List (Nat × α)) (i k : Nat) (x : α) : look (put l i x) k = if i = k then some x else look l k := by
  simp only [put, look]
  by_cases h : i = k
  · subst h; simp
  · simp only [beq_false h, cond_false, if_neg h]; exact look_cut_ne _ h

/-! ### What represents what -/
inductive RepD (F : Nat → Prop) (w : World) : Value → DV → Prop
  | v (x : Value) (h1 : x.oneCell' = true) : RepD F w x (.v x)
  | ptr (b off : Nat) (cs : List DV) (val : Nat → Value) (hF : F b)
      (hc : ∀ i, i < cs.length → w.cell? ⟨b, off + i, none⟩ = some (val i))
      (hr : ∀ i (h : i < cs.length), RepD F w (val i) cs[i]) : RepD F w (.pointer (some ⟨b, off, none⟩)) (.ptr cs)
  | sl (a : Option Addr) (cap sz : Nat) (es : List (List DV)) (val : Nat → Nat → Value)
      (hcap : es.length ≤ cap) (hm : cap ≤ maxLen) (hsz : ∀ e ∈ es, e.length = sz)
      (ha : 0 < es.length → ∃ b off, a = some ⟨b, off, none⟩ ∧ F b ∧ ∀ i j, i < es.length → j < sz → w.cell? ⟨b, off + i * sz + j, none⟩ = some (val i j))
      (hnil : a = none → cap = 0)
      (hr : ∀ i (h : i < es.length) j (h' : j < es[i].length), RepD F w (val i j) es[i][j]) : RepD F w (.slice a es.length cap) (.sl es)

theorem RepD.mono {F F' : Nat → Prop} {w w' : World} (hF : ∀ b, F b → F' b) (hw : ∀ b, F b → w'.heap[b]? = w.heap[b]?) {x : Value} {d : DV} (h : RepD F w x d) : RepD F' w' x d := by
  induction h with
  | v x h1 => exact .v x h1
  | ptr b off cs val hb hc _ ih => exact .ptr b off cs val (hF b hb) (fun i hi => (World.cell?_of_block (w := w) (hw b hb)).trans (hc i hi)) ih
  | sl a cap sz es val hcap hm hsz ha hnil _ ih =>
    refine .sl a cap sz es val hcap hm hsz (fun h0 => ?_) hnil ih
    obtain ⟨b, off, e, hb, hc⟩ := ha h0
    exact ⟨b, off, e, hF b hb, fun i j hi hj => (World.cell?_of_block (w := w) (hw b hb)).trans (hc i j hi hj)⟩


def RepC (F : Nat → Prop) (σ : Nat → Value) (w : World) (x : Value) : CV → Prop
  | .d d => RepD F w x d
  | .loc h off => ∃ b, σ h = .pointer (some ⟨b, 0, none⟩) ∧ x = .pointer (some ⟨b, off, none⟩)
  | .eloc h i off sz => ∃ b n cap, σ h = .slice (some ⟨b, 0, none⟩) n cap ∧ x = .pointer (some ⟨b, i * sz + off, none⟩)
  | .own h => x = σ h ∧ (σ h).oneCell' = true
  | .clo g caps => ∃ cs : Array Value, x = .func (.func g) #[] cs ∧ cs.size = caps.length ∧ ∀ i (h : i < caps.length), ∃ b, σ caps[i].1 = .pointer (some ⟨b, 0, none⟩) ∧ cs.getD i undef = .pointer (some ⟨b, caps[i].2, none⟩)

def RepT (F : Nat → Prop) (σ : Nat → Value) (w : World) (x : Value) : TV → Prop
  | .c y => RepC F σ w x y
  | .agg l => ∃ cs : Array Value, x = .agg cs ∧ cs.size = l.length ∧ ∀ i (h : i < l.length), RepC F σ w (cs.getD i undef) l[i]

def RepS (F : Nat → Prop) (σ : Nat → Value) (w : World) (x : Value) : SV → Prop
  | .t y => RepT F σ w x y
  | .tup l => ∃ cs : Array Value, x = .tuple cs ∧ cs.size = l.length ∧ ∀ i (h : i < l.length), RepT F σ w (cs.getD i undef) l[i]
  | .any => True

/-- Is handle h named? -/
def CV.has (h : Nat) : CV → Bool
  | .d _ => false
  | .loc k _ | .eloc k _ _ _ | .own k => Nat.beq k h
  | .clo _ caps => caps.any fun c => Nat.beq c.1 h
def TV.has (h : Nat) : TV → Bool
  | .c x => x.has h
  | .agg l => l.any (CV.has h)
def SV.has (h : Nat) : SV → Bool
  | .t x => x.has h
  | .tup l => l.any (TV.has h)
  | .any => false
def LObj.has (h : Nat) : LObj → Bool
  | .cells _ cs => cs.any (CV.has h)
  | _ => false

theorem any_false {α : Type} {p : α → Bool} {l : List α} (h : l.any p = false) (i : Nat) (hi : i < l.length) : p l[i] = false := by
  rw [List.any_eq_false] at h
  simpa using h _ (List.getElem_mem hi)

section mono
variable {F F' : Nat → Prop} {σ σ' : Nat → Value} {w w' : World}
theorem RepC.mono (hF : ∀ b, F b → F' b) (hw : ∀ b, F b → w'.heap[b]? = w.heap[b]?) {x : Value} {y : CV} (hs : ∀ h, y.has h = true → σ' h = σ h) (h : RepC F σ w x y) : RepC F' σ' w' x y := by
  cases y with
  | d d => exact RepD.mono hF hw h
  | loc k off => obtain ⟨b, h1, h2⟩ := h; exact ⟨b, (hs k (by simp [CV.has])).trans h1, h2⟩
  | eloc k i off sz => obtain ⟨b, n, cap, h1, h2⟩ := h; exact ⟨b, n, cap, (hs k (by simp [CV.has])).trans h1, h2⟩
  | own k =>
    obtain ⟨h1, h2⟩ := h
    have e := hs k (by simp [CV.has])
    exact ⟨h1.trans e.symm, by rw [e]; exact h2⟩
  | clo g caps =>
    obtain ⟨cs, h1, h2, h3⟩ := h
    refine ⟨cs, h1, h2, fun i hi => ?_⟩
    obtain ⟨b, h4, h5⟩ := h3 i hi
    exact ⟨b, (hs _ (by simp only [CV.has, List.any_eq_true]; exact ⟨_, List.getElem_mem hi, by simp⟩)).trans h4, h5⟩
theorem RepT.mono (hF : ∀ b, F b → F' b) (hw : ∀ b, F b → w'.heap[b]? = w.heap[b]?) {x : Value} {y : TV} (hs : ∀ h, y.has h = true → σ' h = σ h) (h : RepT F σ w x y) : RepT F' σ' w' x y := by
  cases y with
  | c y => exact RepC.mono hF hw hs h
  | agg l =>
    obtain ⟨cs, h1, h2, h3⟩ := h
    exact ⟨cs, h1, h2, fun i hi => RepC.mono hF hw (fun k hk => hs k (by simp only [TV.has, List.any_eq_true]; exact ⟨_, List.getElem_mem hi, hk⟩)) (h3 i hi)⟩
theorem RepS.mono (hF : ∀ b, F b → F' b) (hw : ∀ b, F b → w'.heap[b]? = w.heap[b]?) {x : Value} {y : SV} (hs : ∀ h, y.has h = true → σ' h = σ h) (h : RepS F σ w x y) : RepS F' σ' w' x y := by
  cases y with
  | t y => exact RepT.mono hF hw hs h
  | tup l =>
    obtain ⟨cs, h1, h2, h3⟩ := h
    exact ⟨cs, h1, h2, fun i hi => RepT.mono hF hw (fun k hk => hs k (by simp only [SV.has, List.any_eq_true]; exact ⟨_, List.getElem_mem hi, hk⟩)) (h3 i hi)⟩
  | any => trivial
end mono

/-- What is told of an object: its value (a pointer, a slice), and the blocks that it takes up. -/
def ObjOK (F : Nat → Prop) (σ : Nat → Value) (w : World) (x : Value) (X : Nat → Prop) : LObj → Prop
  | .cells t cs => ∃ b vs, x = .pointer (some ⟨b, 0, none⟩) ∧ (∀ k, X k ↔ k = b) ∧ w.heap[b]? = some (.cells vs t (0, 0)) ∧ vs.size = cs.length ∧ ∀ i (h : i < cs.length), RepC F σ w (vs.getD i undef) cs[i]
  | .arr e sz bytes es => ∃ xs : List Value, w.ownsRow 0 e sz x es.length xs ∧ (∀ k, X k ↔ x.ownBlock = some k) ∧ (∀ y ∈ es, y.length = sz) ∧ es.length * bytes ≤ 140737488355328 ∧
      ∀ i (h : i < es.length) j (h' : j < es[i].length), RepD F w (xs.getD (i * sz + j) undef) es[i][j]
  | .it s pos => ∃ b, x = .pointer (some ⟨b, 0, none⟩) ∧ (∀ k, X k ↔ k = b) ∧ w.heap[b]? = some (.stringIter s pos)
  | .opq R => R F w x X ∧ ∀ F' w', (∀ k, F k → F' k) → (∀ k, F k ∨ X k → w'.heap[k]? = w.heap[k]?) → R F' w' x X

theorem ownsRow_same {w w' : World} {base e sz : Nat} {x : Value} {n : Nat} {xs : List Value} (h : w.ownsRow base e sz x n xs) (hw : ∀ k, x.ownBlock = some k → w'.heap[k]? = w.heap[k]?) : w'.ownsRow base e sz x n xs := by
  obtain ⟨h1, h2⟩ := h
  refine ⟨h1, ?_⟩
  rcases h2 with h2 | ⟨g, cap, cur, hv, hg, hh, r⟩
  · exact .inl h2
  · exact .inr ⟨g, cap, cur, hv, hg, by rw [hw g (by rw [hv]; rfl)]; exact hh, r⟩

theorem ObjOK.mono {F F' : Nat → Prop} {σ σ' : Nat → Value} {w w' : World} {x : Value} {X : Nat → Prop} {o : LObj} (hF : ∀ b, F b → F' b) (hw : ∀ b, F b ∨ X b → w'.heap[b]? = w.heap[b]?)
    (hs : ∀ h, o.has h = true → σ' h = σ h) (h : ObjOK F σ w x X o) : ObjOK F' σ' w' x X o := by
  cases o with
  | cells t cs =>
    obtain ⟨b, vs, h1, h2, h3, h4, h5⟩ := h
    exact ⟨b, vs, h1, h2, (hw b (.inr ((h2 b).2 rfl))).trans h3, h4, fun i hi => RepC.mono hF (fun b hb => hw b (.inl hb)) (fun k hk => hs k (by simp only [LObj.has, List.any_eq_true]; exact ⟨_, List.getElem_mem hi, hk⟩)) (h5 i hi)⟩
  | arr e sz bytes es =>
    obtain ⟨xs, h1, h2, h3, h4, h5⟩ := h
    exact ⟨xs, ownsRow_same h1 (fun k hk => hw k (.inr ((h2 k).2 hk))), h2, h3, h4, fun i hi j hj => RepD.mono hF (fun b hb => hw b (.inl hb)) (h5 i hi j hj)⟩
  | it s pos =>
    obtain ⟨b, h1, h2, h3⟩ := h
    exact ⟨b, h1, h2, (hw b (.inr ((h2 b).2 rfl))).trans h3⟩
  | opq R =>
    obtain ⟨h1, h2⟩ := h
    refine ⟨h2 F' w' hF hw, fun F2 w2 hF2 hw2 => h2 F2 w2 (fun k hk => hF2 k (hF k hk)) fun k hk => ?_⟩
    have := hw k hk
    rw [← this]
    exact hw2 k (hk.imp (hF k) id)

abbrev Objs := List (Nat × LObj)

/-- Objects, each as told, apart from one another and from what is frozen. -/
structure OKs (F : Nat → Prop) (σ : Nat → Value) (X : Nat → Nat → Prop) (w : World) (l : Objs) : Prop where
  ok : ∀ h o, look l h = some o → ObjOK F σ w (σ h) (X h) o
  apart : ∀ h h' o o', look l h = some o → look l h' = some o' → h ≠ h' → ∀ k, X h k → ¬ X h' k
  live : ∀ h o, look l h = some o → ∀ k, X h k → k < w.heap.size ∧ ¬ F k

/-- What a step does to the world, where it works on the objects of l and leaves those of l'. -/
structure Post (l l' : Objs) (F : Nat → Prop) (σ : Nat → Value) (X : Nat → Nat → Prop) (w : World) (F' : Nat → Prop) (σ' : Nat → Value) (X' : Nat → Nat → Prop) (w' : World) : Prop where
  os : w'.os = w.os
  tape : w'.tape = w.tape
  output : w'.output = w.output
  size : w.heap.size ≤ w'.heap.size
  same : ∀ k, k < w.heap.size → (∀ h o, look l h = some o → ¬ X h k) → w'.heap[k]? = w.heap[k]?
  frz : ∀ k, F k → F' k
  new : ∀ k, F' k → F k ∨ (k < w'.heap.size ∧ (w.heap.size ≤ k ∨ ∃ h o, look l h = some o ∧ X h k))
  foot : ∀ h o, look l' h = some o → ∀ k, X' h k → w.heap.size ≤ k ∨ ∃ h' o', look l h' = some o' ∧ X h' k
  sig : ∀ h, (look l' h = none ∨ look l h ≠ none) → σ' h = σ h

/-- What an operation comes to. -/
def Upon (P : Program) (K : Value → World → Prop) : Result Next → Prop
  | .ok (.value v) w => K v w
  | .ok .skip w => K undef w
  | .ok (.enter f args) w => Calls P f args w fun e w' => ∃ v, e = .returned v ∧ K v w'
  | _ => False

theorem wp_of_upon {P : Program} {o : Oper} {a : Act} {w : World} {K : Act → World → Prop} {Q : Exit → Act → World → Prop}
    (h : Upon P (fun v w' => K (a.put o.dst v) w') ((execOp a.eval o).run P w)) : o.wp P a w K Q := by
  unfold Oper.wp
  generalize (execOp a.eval o).run P w = r at *
  cases r with
  | ok n w' =>
    cases n <;> simp only [Upon, Oper.upon] at h ⊢ <;> first | exact h | exact h.elim | skip
    refine Calls.mono h fun e w'' he => ?_
    obtain ⟨v, rfl, hk⟩ := he
    exact hk
  | halt x w' => exact h.elim

theorem Upon.mono {P : Program} {K K' : Value → World → Prop} {r : Result Next} (h : Upon P K r) (hk : ∀ v w, K v w → K' v w) : Upon P K' r := by
  cases r with
  | ok n w' =>
    cases n <;> simp only [Upon] at h ⊢ <;> first | exact hk _ _ h | exact h.elim | skip
    exact Calls.mono h fun e w'' he => by obtain ⟨v, rfl, h'⟩ := he; exact ⟨v, rfl, hk _ _ h'⟩
  | halt x w' => exact h.elim

/-- Operands, and what represents them. -/
def Reps (F : Nat → Prop) (σ : Nat → Value) (w : World) (a : Act) : List Operand → List SV → Prop
  | [], [] => True
  | x :: xs, s :: ss => RepS F σ w (a.eval x) s ∧ Reps F σ w a xs ss
  | _, _ => False

/-- An operation, told: at operands that represent 'vals' (in the operation's own order), in a world with the objects of l, it yields what represents 'res', and leaves the objects of l'. -/
def Tri (P : Program) (o : Oper) (vals : List SV) (l : Objs) (res : SV) (l' : Objs) : Prop :=
  ∀ (F : Nat → Prop) (σ : Nat → Value) (X : Nat → Nat → Prop) (w : World) (a : Act),
    Reps F σ w a o.op.operands.toList vals → OKs F σ X w l → (∀ k, F k → k < w.heap.size) →
    Upon P (fun v w' => ∃ F' σ' X', RepS F' σ' w' v res ∧ OKs F' σ' X' w' l' ∧ Post l l' F σ X w F' σ' X' w') ((execOp a.eval o).run P w)

/-! ### States -/
structure St where
  n : Nat
  slots : List (Nat × SV)
  objs : Objs
  old : List Nat

structure Gh where
  σ0 : Nat → Value
  w0 : World
  F0 : Nat → Prop
  D0 : Nat → Prop

structure RelX (G : Gh) (F : Nat → Prop) (σ : Nat → Value) (X : Nat → Nat → Prop) (S : St) (a : Act) (w : World) : Prop where
  defers : a.defers = []
  size : a.tmps.size = S.n
  slots : ∀ i sv, look S.slots i = some sv → RepS F σ w (a.tmps.getD i undef) sv
  oks : OKs F σ X w S.objs
  sig0 : ∀ h, S.old.any (Nat.beq h) = true → σ h = G.σ0 h
  foot : ∀ h o, look S.objs h = some o → ∀ k, X h k → G.w0.heap.size ≤ k ∨ G.D0 k
  frz : ∀ k, F k → k < w.heap.size ∧ (G.F0 k ∨ G.w0.heap.size ≤ k ∨ G.D0 k)
  frz0 : ∀ k, G.F0 k → F k
  grow : G.w0.heap.size ≤ w.heap.size
  same : ∀ k, k < G.w0.heap.size → ¬ G.D0 k → w.heap[k]? = G.w0.heap[k]?
  os : w.os = G.w0.os
  tape : w.tape = G.w0.tape
  output : w.output = G.w0.output

def Rel (G : Gh) (S : St) (a : Act) (w : World) : Prop := ∃ F σ X, RelX G F σ X S a w

def St.has (S : St) (h : Nat) : Bool := S.old.any (Nat.beq h) || ((S.slots.any fun p => p.2.has h) || (S.objs.any fun p => Nat.beq p.1 h || p.2.has h))

theorem look_mem {α : Type} {l : List (Nat × α)} {i : Nat} {x : α} (h : look l i = some x) : (i, x) ∈ l := by
  induction l with
  | nil => simp [look] at h
  | cons p r ih =>
    obtain ⟨j, y⟩ := p
    by_cases hj : j = i
    · subst hj
      simp only [look, Nat.beq_refl, cond_true, Option.some.injEq] at h
      subst h
      exact List.mem_cons_self
    · simp only [look, beq_false hj, cond_false] at h
      exact List.mem_cons_of_mem _ (ih h)

theorem St.has_slot {S : St} {h i : Nat} {sv : SV} (hn : S.has h = false) (hl : look S.slots i = some sv) : sv.has h = false := by
  simp only [St.has, Bool.or_eq_false_iff, List.any_eq_false] at hn
  simpa using hn.2.1 _ (look_mem hl)
theorem St.has_old {S : St} {h : Nat} (hn : S.has h = false) : S.old.any (Nat.beq h) = false := by
  simp only [St.has, Bool.or_eq_false_iff] at hn
  exact hn.1
theorem St.has_obj {S : St} {h i : Nat} {o : LObj} (hn : S.has h = false) (hl : look S.objs i = some o) : i ≠ h ∧ o.has h = false := by
  simp only [St.has, Bool.or_eq_false_iff, List.any_eq_false] at hn
  have := hn.2.2 _ (look_mem hl)
  simp only [Bool.or_eq_true, not_or, Bool.not_eq_true] at this
  exact ⟨fun e => by subst e; simp at this, this.2⟩
end Go.E
