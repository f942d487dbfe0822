/- A logic over abstract states. Part 1: one operation in a state; operations in the order of the text. -/
import Derived.Test.YtjbiaoajmdbigaaEng0
set_option linter.unusedVariables false
set_option linter.unusedSimpArgs false
namespace Go.E

/-- What stands for an operand. -/
def opv (S : St) : Operand → SV
  | .tmp t => (look S.slots t).getD .any
  | .const v => bif v.oneCell' then .t (.c (.d (.v v))) else .any
  | .func f => .t (.c (.d (.v (.func (.func f) #[] #[]))))
  | .global g => .t (.c (.d (.v (.pointer (some ⟨g, 0, none⟩)))))

def opvs (S : St) : List Operand → List SV
  | [] => []
  | x :: r => opv S x :: opvs S r

/-- A list of objects without those of another one. -/
def cuts (l : Objs) : Objs → Objs
  | [] => l
  | (h, _) :: r => cuts (cut l h) r

theorem look_cuts (k : Nat) : ∀ (m l : Objs), look (cuts l m) k = if look m k = none then look l k else none
  | [], l => by simp [cuts, look]
  | (h, o) :: r, l => by
    simp only [cuts]
    rw [look_cuts k r, look_cut]
    by_cases hk : h = k
    · subst hk; simp [look]
    · simp [look, beq_false hk, hk]

def app (l' l : Objs) : Objs := l' ++ l
theorem look_app (k : Nat) : ∀ (l' l : Objs), look (app l' l) k = match look l' k with | some o => some o | none => look l k
  | [], l => by simp [app, look]
  | (h, o) :: r, l => by
    have ih := look_app k r l
    by_cases hk : h = k
    · subst hk; simp [app, look]
    · simp only [app, List.cons_append, look, beq_false hk, cond_false] at ih ⊢; exact ih

def putD (s : List (Nat × SV)) (dst : Option Nat) (v : SV) : List (Nat × SV) :=
  match dst with
  | some d => put s d v
  | none => s

/-- The state behind an operation. -/
def St.step (S : St) (dst : Option Nat) (res : SV) (l l' : Objs) : St := { S with slots := putD S.slots dst res, objs := app l' (cuts S.objs l) }

theorem Rel.heap {G : Gh} {S : St} {a : Act} {w w' : World} (h : Rel G S a w) (hh : w'.heap = w.heap) (h1 : w'.os = w.os) (h2 : w'.tape = w.tape) (h3 : w'.output = w.output) : Rel G S a w' := by
  obtain ⟨F, σ, X, r⟩ := h
  have hc : ∀ b : Nat, w'.heap[b]? = w.heap[b]? := fun b => by rw [hh]
  refine ⟨F, σ, X, r.defers, r.size, fun i sv hl => RepS.mono (fun _ h => h) (fun b _ => hc b) (fun _ _ => rfl) (r.slots i sv hl), ⟨fun h o hl => ObjOK.mono (fun _ h => h) (fun b _ => hc b) (fun _ _ => rfl) (r.oks.ok h o hl), r.oks.apart, fun h o hl k hk => by rw [hh]; exact r.oks.live h o hl k hk⟩, r.sig0, r.foot,
    fun k hk => by rw [hh]; exact r.frz k hk, r.frz0, by rw [hh]; exact r.grow, fun k h1 h2 => (hc k).trans (r.same k h1 h2), h1.trans r.os, h2.trans r.tape, h3.trans r.output⟩

/-- Two states that tell the same. -/
def St.like (S T : St) : Prop := S.n = T.n ∧ S.old = T.old ∧ (∀ i, look S.slots i = look T.slots i) ∧ ∀ h, look S.objs h = look T.objs h
theorem Rel.like {G : Gh} {S T : St} {a : Act} {w : World} (h : Rel G S a w) (hl : S.like T) : Rel G T a w := by
  obtain ⟨F, σ, X, r⟩ := h
  obtain ⟨h1, h0, h2, h3⟩ := hl
  exact ⟨F, σ, X, r.defers, r.size.trans h1, fun i sv hi => r.slots i sv ((h2 i).trans hi), ⟨fun h o hh => r.oks.ok h o ((h3 h).trans hh), fun h h' o o' e e' => r.oks.apart h h' o o' ((h3 h).trans e) ((h3 h').trans e'), fun h o hh => r.oks.live h o ((h3 h).trans hh)⟩,
    fun h => by rw [← h0]; exact r.sig0 h, fun h o hh => r.foot h o ((h3 h).trans hh), r.frz, r.frz0, r.grow, r.same, r.os, r.tape, r.output⟩

theorem RelX.opv {G : Gh} {F : Nat → Prop} {σ : Nat → Value} {X : Nat → Nat → Prop} {S : St} {a : Act} {w : World} (r : RelX G F σ X S a w) (x : Operand) : RepS F σ w (a.eval x) (opv S x) := by
  cases x with
  | tmp t =>
    simp only [E.opv, Act.eval]
    cases h : look S.slots t with
    | none => trivial
    | some sv => exact r.slots t sv h
  | const v =>
    simp only [E.opv]
    cases h : v.oneCell' with
    | false => trivial
    | true => exact RepD.v v h
  | func f => exact RepD.v _ rfl
  | global g => exact RepD.v _ rfl
theorem RelX.opvs {G : Gh} {F : Nat → Prop} {σ : Nat → Value} {X : Nat → Nat → Prop} {S : St} {a : Act} {w : World} (r : RelX G F σ X S a w) : ∀ l : List Operand, Reps F σ w a l (opvs S l)
  | [] => trivial
  | x :: l => ⟨r.opv x, r.opvs l⟩

theorem getD_set {a : Array Value} {d i : Nat} {v : Value} (hd : d < a.size) : (a.setIfInBounds d v).getD i undef = if d = i then v else a.getD i undef := by
  rw [Array.getD_eq_getD_getElem?, Array.getElem?_setIfInBounds]
  by_cases h : d = i
  · subst h; simp [hd]
  · simp [h]

/-- One operation, in a state. -/
theorem step_rel {P : Program} {G : Gh} {S : St} {o : Oper} {l l' : Objs} {res : SV} {a : Act} {w : World} (hT : Tri P o (opvs S o.op.operands.toList) l res l')
    (hd : ∀ d, o.dst = some d → d < S.n) (hl : ∀ h o, look l h = some o → look S.objs h = some o) (hf : ∀ h o, look l' h = some o → look l h ≠ none ∨ S.has h = false) (hR : Rel G S a w)
    {K : Act → World → Prop} {Q : Exit → Act → World → Prop} (hK : ∀ a' w', Rel G (S.step o.dst res l l') a' w' → K a' w') : o.wp P a w K Q := by
  obtain ⟨F, σ, X, r⟩ := hR
  refine wp_of_upon (Upon.mono (hT F σ X w a (r.opvs _) ⟨fun h o e => r.oks.ok h o (hl h o e), fun h h' o o' e e' => r.oks.apart h h' o o' (hl h o e) (hl h' o' e'), fun h o e => r.oks.live h o (hl h o e)⟩ (fun k hk => (r.frz k hk).1)) ?_)
  rintro v w' ⟨F', σ', X', hres, hok, hp⟩
  refine hK _ _ ⟨F', σ', fun h => if look l' h = none then X h else X' h, ?_⟩
  -- what is frozen stays
  have hFw : ∀ b, F b → w'.heap[b]? = w.heap[b]? := fun b hb => hp.same b (r.frz b hb).1 fun h o e hx => (r.oks.live h o (hl h o e) b hx).2 hb
  -- names that stood before mean what they meant
  have hold : ∀ h, S.has h = true → σ' h = σ h := fun h hh => hp.sig h (by
    cases e : look l' h with
    | none => exact .inl rfl
    | some o => rcases hf h o e with h1 | h1
                · exact .inr h1
                · rw [hh] at h1; cases h1)
  -- a block of another object stays
  have hoth : ∀ h o, look l h = none → look S.objs h = some o → ∀ k, X h k → w'.heap[k]? = w.heap[k]? := fun h o e e' k hk =>
    hp.same k (r.oks.live h o e' k hk).1 fun h2 o2 e2 hx => r.oks.apart h2 h o2 o (hl h2 o2 e2) e' (fun e3 => by subst e3; rw [e] at e2; cases e2) k hx hk
  have hobj : ∀ h o, look (app l' (cuts S.objs l)) h = some o → (look l' h = some o) ∨ (look l' h = none ∧ look l h = none ∧ look S.objs h = some o) := fun h o e => by
    rw [look_app, look_cuts] at e
    cases e1 : look l' h with
    | some o1 => rw [e1] at e; exact .inl e
    | none =>
      rw [e1] at e
      by_cases e2 : look l h = none
      · simp only [e2, if_true] at e; exact .inr ⟨rfl, e2, e⟩
      · simp only [e2, if_false] at e; cases e
  have hkeep : ∀ h o, look l h = none → look S.objs h = some o → ∀ k, X h k → k < w'.heap.size ∧ ¬ F' k := fun h o e1 e2 k hk => by
    have h1 := r.oks.live h o e2 k hk
    refine ⟨Nat.lt_of_lt_of_le h1.1 hp.size, fun hF => ?_⟩
    rcases hp.new k hF with h2 | ⟨_, h2 | ⟨h3, o3, e3, hx⟩⟩
    · exact h1.2 h2
    · omega
    · exact r.oks.apart h3 h o3 o (hl h3 o3 e3) e2 (fun e4 => by subst e4; rw [e1] at e3; cases e3) k hx hk
  refine ⟨?_, ?_, ?_, ⟨?_, ?_, ?_⟩, fun h hh => (hold h (by simp only [St.has, Bool.or_eq_true]; exact .inl hh)).trans (r.sig0 h hh), ?_, ?_, fun k hk => hp.frz k (r.frz0 k hk), Nat.le_trans r.grow hp.size, ?_, hp.os.trans r.os, hp.tape.trans r.tape, hp.output.trans r.output⟩
  · cases o.dst <;> exact r.defers
  · cases o.dst <;> simp [Act.put, St.step, r.size]
  · intro i sv hi
    have hslot : ∀ i sv, look S.slots i = some sv → RepS F' σ' w' (a.tmps.getD i undef) sv := fun i sv e => RepS.mono hp.frz hFw (fun h hh => hold h (by
      cases e2 : S.has h with
      | true => rfl
      | false => have := St.has_slot e2 e; rw [hh] at this; cases this)) (r.slots i sv e)
    cases hdst : o.dst with
    | none => rw [hdst] at hi; exact hslot i sv hi
    | some d =>
      rw [hdst] at hi
      simp only [St.step, putD, look_put] at hi
      simp only [Act.put]
      rw [getD_set (by rw [r.size]; exact hd d hdst)]
      by_cases hdi : d = i
      · simp only [hdi, if_true, Option.some.injEq] at hi ⊢; subst hi; exact hres
      · simp only [hdi, if_false] at hi ⊢; exact hslot i sv hi
  · intro h o2 e
    rcases hobj h o2 e with h1 | ⟨h1, h2, h3⟩
    · simp only [h1, if_neg (by simp : ¬ (some o2 = none))]; exact hok.ok h o2 h1
    · simp only [h1, if_true]
      have hs : σ' h = σ h := hp.sig h (.inl h1)
      rw [hs]
      refine ObjOK.mono hp.frz (fun b hb => hb.elim (hFw b) (hoth h o2 h2 h3 b)) (fun k hk => hold k ?_) (r.oks.ok h o2 h3)
      cases e2 : S.has k with
      | true => rfl
      | false => have := (St.has_obj e2 h3).2; rw [hk] at this; cases this
  · intro h h' o1 o2 e1 e2 hne k hk hk'
    rcases hobj h o1 e1 with a1 | ⟨a1, a2, a3⟩ <;> rcases hobj h' o2 e2 with b1 | ⟨b1, b2, b3⟩
    · simp only [a1, b1, if_neg (by simp : ¬ (some o1 = none)), if_neg (by simp : ¬ (some o2 = none))] at hk hk'
      exact hok.apart h h' o1 o2 a1 b1 hne k hk hk'
    · simp only [a1, b1, if_neg (by simp : ¬ (some o1 = none)), if_true] at hk hk'
      have hlt := (r.oks.live h' o2 b3 k hk').1
      rcases hp.foot h o1 a1 k hk with h2 | ⟨h3, o3, e3, hx⟩
      · omega
      · exact r.oks.apart h3 h' o3 o2 (hl h3 o3 e3) b3 (fun e4 => by subst e4; rw [b2] at e3; cases e3) k hx hk'
    · simp only [a1, b1, if_neg (by simp : ¬ (some o2 = none)), if_true] at hk hk'
      have hlt := (r.oks.live h o1 a3 k hk).1
      rcases hp.foot h' o2 b1 k hk' with h2 | ⟨h3, o3, e3, hx⟩
      · omega
      · exact r.oks.apart h3 h o3 o1 (hl h3 o3 e3) a3 (fun e4 => by subst e4; rw [a2] at e3; cases e3) k hx hk
    · simp only [a1, b1, if_true] at hk hk'
      exact r.oks.apart h h' o1 o2 a3 b3 hne k hk hk'
  · intro h o2 e k hk
    rcases hobj h o2 e with h1 | ⟨h1, h2, h3⟩
    · simp only [h1, if_neg (by simp : ¬ (some o2 = none))] at hk; exact hok.live h o2 h1 k hk
    · simp only [h1, if_true] at hk; exact hkeep h o2 h2 h3 k hk
  · intro h o2 e k hk
    rcases hobj h o2 e with h1 | ⟨h1, h2, h3⟩
    · simp only [h1, if_neg (by simp : ¬ (some o2 = none))] at hk
      rcases hp.foot h o2 h1 k hk with h4 | ⟨h3, o3, e3, hx⟩
      · exact .inl (Nat.le_trans r.grow h4)
      · exact r.foot h3 o3 (hl h3 o3 e3) k hx
    · simp only [h1, if_true] at hk; exact r.foot h o2 h3 k hk
  · intro k hk
    rcases hp.new k hk with h1 | ⟨h1, h2⟩
    · exact ⟨Nat.lt_of_lt_of_le (r.frz k h1).1 hp.size, (r.frz k h1).2⟩
    · refine ⟨h1, ?_⟩
      rcases h2 with h2 | ⟨h3, o3, e3, hx⟩
      · exact .inr (.inl (Nat.le_trans r.grow h2))
      · exact .inr (r.foot h3 o3 (hl h3 o3 e3) k hx)
  · intro k hk hd0
    refine (hp.same k (Nat.lt_of_lt_of_le hk r.grow) fun h o e hx => ?_).trans (r.same k hk hd0)
    rcases r.foot h o (hl h o e) k hx with h1 | h1
    · omega
    · exact hd0 h1

def cutD (s : List (Nat × SV)) (d : Option Nat) : List (Nat × SV) := match d with
  | some d => cut s d
  | none => s

/-- What an operation that was not wanted leaves. -/
theorem skip_rel {G : Gh} {S : St} {a : Act} {w : World} (hR : Rel G S a w) (dst : Option Nat) (hd : ∀ d, dst = some d → d < S.n) :
    Rel G { S with slots := putD S.slots dst (.tup []) } (a.put dst undef) w := by
  obtain ⟨F, σ, X, r⟩ := hR
  refine ⟨F, σ, X, by cases dst <;> exact r.defers, by cases dst <;> simp [Act.put, r.size], fun i sv hi => ?_, r.oks, r.sig0, r.foot, r.frz, r.frz0, r.grow, r.same, r.os, r.tape, r.output⟩
  cases dst with
  | none => exact r.slots i sv hi
  | some d =>
    simp only [putD, look_put] at hi
    simp only [Act.put]
    rw [getD_set (by rw [r.size]; exact hd d rfl)]
    by_cases hdi : d = i
    · simp only [hdi, if_true, Option.some.injEq] at hi ⊢; subst hi; exact ⟨#[], rfl, rfl, fun i h => by simp at h⟩
    · simp only [hdi, if_false] at hi ⊢; exact r.slots i sv hi

/-- A slot that is struck: what it holds is not told. -/
theorem cut_rel {G : Gh} {S : St} {a : Act} {w : World} (hR : Rel G S a w) (dst : Option Nat) (v : Value) (hd : ∀ d, dst = some d → d < S.n) :
    Rel G { S with slots := cutD S.slots dst } (a.put dst v) w := by
  obtain ⟨F, σ, X, r⟩ := hR
  refine ⟨F, σ, X, by cases dst <;> exact r.defers, by cases dst <;> simp [Act.put, r.size], fun i sv hi => ?_, r.oks, r.sig0, r.foot, r.frz, r.frz0, r.grow, r.same, r.os, r.tape, r.output⟩
  cases dst with
  | none => exact r.slots i sv hi
  | some d =>
    simp only [cutD, look_cut] at hi
    simp only [Act.put]
    rw [getD_set (by rw [r.size]; exact hd d rfl)]
    by_cases hdi : d = i
    · simp only [hdi, if_true] at hi; cases hi
    · simp only [hdi, if_false] at hi ⊢; exact r.slots i sv hi
end Go.E
