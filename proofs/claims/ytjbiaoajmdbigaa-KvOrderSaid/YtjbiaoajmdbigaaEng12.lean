/- A logic over abstract states. Part 12: code; states made less; names exchanged. -/
import Derived.Test.YtjbiaoajmdbigaaEng11
import Derived.Deep.LoopGhost
set_option linter.unusedVariables false
set_option linter.unusedSimpArgs false
namespace Go.E
open Go

section code
variable {P : Program} {G : Gh} {Q : Exit → St → Prop} {S : St}

theorem awp_mono {c : Code} {Q' : Exit → St → Prop} (h : AWp P G c Q S) (hq : ∀ e S, Q e S → Q' e S) : AWp P G c Q' S :=
  fun a w hR => wp_mono (h a w hR) fun e _ _ ⟨S', q, r⟩ => ⟨S', hq e S' q, r⟩

def QSeq (K : St → Prop) (Q : Exit → St → Prop) : Exit → St → Prop
  | .normal, S => K S
  | e, S => Q e S
theorem awp_seq {x y : Code} (h : AWp P G x (QSeq (AWp P G y Q) Q) S) : AWp P G (.seq x y) Q S := fun a w hR => by
  refine wp_seq (wp_mono (h a w hR) ?_)
  rintro e a' w' ⟨S', q, r⟩
  cases e with
  | normal => exact q a' w' r
  | _ => exact ⟨S', q, r⟩
theorem awp_skip (h : Q .normal S) : AWp P G .skip Q S := fun _ _ hR => wp_skip ⟨S, h, hR⟩
theorem awp_exit {id : Nat} (h : Q (.exit id) S) : AWp P G (.exit id) Q S := fun _ _ hR => wp_exit ⟨S, h, hR⟩
theorem awp_ret (h : Q .ret S) : AWp P G .ret Q S := fun _ _ hR => wp_ret ⟨S, h, hR⟩
theorem awp_label {l : Nat} (h : Q .normal S) : AWp P G (.label l) Q S := fun _ _ hR => wp_label ⟨S, h, hR⟩

def QBlock (id : Nat) (Q : Exit → St → Prop) : Exit → St → Prop
  | .exit id', S => if id' = id then Q .normal S else Q (.exit id') S
  | e, S => Q e S
theorem awp_block {id : Nat} {c : Code} (h : AWp P G c (QBlock id Q) S) : AWp P G (.block id c) Q S := fun a w hR => by
  refine wp_block (wp_mono (h a w hR) ?_)
  rintro e a' w' ⟨S', q, r⟩
  cases e with
  | exit id' =>
    simp only [QBlock] at q
    simp only [Exit.inBlock]
    split
    · rename_i h; simp only [h, if_true] at q; exact ⟨S', q, r⟩
    · rename_i h; simp only [h, if_false] at q; exact ⟨S', q, r⟩
  | _ => exact ⟨S', q, r⟩

theorem awp_cond {c : Operand} {x y : Code} {b : Bool} (hc : opv S c = sc (.bool b)) (ht : b = true → AWp P G x Q S) (hf : b = false → AWp P G y Q S) : AWp P G (.cond c x y) Q S := fun a w hR => by
  have hb : a.eval c = .bool b := by
    obtain ⟨F, σ, X, r⟩ := hR
    have := r.opv c
    rw [hc] at this
    exact scal_rep this rfl
  exact wp_cond_split hb (fun h => ht h a w hR) (fun h => hf h a w hR)
theorem awp_true {c : Operand} {x y : Code} (hc : opv S c = sc (.bool true)) (h : AWp P G x Q S) : AWp P G (.cond c x y) Q S := awp_cond hc (fun _ => h) (fun e => by cases e)
theorem awp_false {c : Operand} {x y : Code} (hc : opv S c = sc (.bool false)) (h : AWp P G y Q S) : AWp P G (.cond c x y) Q S := awp_cond hc (fun e => by cases e) (fun _ => h)

/-- A loop: a family of states, each with a bound on the rounds to come. -/
theorem awp_loop {c : Code} {ι : Type} (I : ι → St) (μ : ι → Nat) (x0 : ι) (h0 : S = I x0)
    (round : ∀ x, AWp P G c (QSeq (fun S' => ∃ y, S' = I y ∧ μ y < μ x) Q) (I x)) : AWp P G (.loop c) Q S := fun a w hR => by
  refine wp_loop_ghost (fun n a w => ∃ x, μ x = n ∧ Rel G (I x) a w) (μ x0) ⟨x0, rfl, h0 ▸ hR⟩ ?_
  rintro n a w ⟨x, rfl, hR⟩
  refine wp_mono (round x a w hR) ?_
  rintro e a' w' ⟨S', q, r⟩
  cases e with
  | normal =>
    obtain ⟨y, rfl, hlt⟩ := q
    exact ⟨μ y, hlt, y, rfl, r⟩
  | _ => exact ⟨S', q, r⟩

/-- A loop, its rounds told by what is still to come: the states may carry facts. -/
theorem awp_loopP {c : Code} {ι : Type} (I : ι → St) (J : ι → Prop) (μ : ι → Nat) (x0 : ι) (h0 : S = I x0) (j0 : J x0)
    (round : ∀ x, J x → AWp P G c (QSeq (fun S' => ∃ y, S' = I y ∧ J y ∧ μ y < μ x) Q) (I x)) : AWp P G (.loop c) Q S := fun a w hR => by
  refine wp_loop_ghost (fun n a w => ∃ x, μ x = n ∧ J x ∧ Rel G (I x) a w) (μ x0) ⟨x0, rfl, j0, h0 ▸ hR⟩ ?_
  rintro n a w ⟨x, rfl, hJ, hR⟩
  refine wp_mono (round x hJ a w hR) ?_
  rintro e a' w' ⟨S', q, r⟩
  cases e with
  | normal =>
    obtain ⟨y, rfl, hy, hlt⟩ := q
    exact ⟨μ y, hlt, y, rfl, hy, r⟩
  | _ => exact ⟨S', q, r⟩
end code

/-! ### Less is told -/
def pick {α : Type} (l : List (Nat × α)) : List Nat → List (Nat × α)
  | [] => []
  | i :: r => match look l i with
    | some x => (i, x) :: pick l r
    | none => pick l r
theorem look_pick {α : Type} {l : List (Nat × α)} : ∀ {ks : List Nat} {i : Nat} {x : α}, look (pick l ks) i = some x → look l i = some x
  | [], i, x, h => by simp [pick, look] at h
  | k :: ks, i, x, h => by
    simp only [pick] at h
    cases e : look l k with
    | none => rw [e] at h; exact look_pick h
    | some y =>
      rw [e] at h
      by_cases c : k = i
      · subst c; simp only [look, Nat.beq_refl, cond_true, Option.some.injEq] at h; subst h; exact e
      · simp only [look, beq_false c, cond_false] at h; exact look_pick h
def St.keep (S : St) (ks hs : List Nat) : St := { S with slots := pick S.slots ks, objs := pick S.objs hs }

/-- All that T tells is told of S. -/
def St.tells (S T : St) : Prop := T.n = S.n ∧ T.old = S.old ∧ (∀ i x, look T.slots i = some x → look S.slots i = some x) ∧ ∀ h o, look T.objs h = some o → look S.objs h = some o
theorem Rel.less {G : Gh} {S T : St} {a : Act} {w : World} (h : Rel G S a w) (ht : S.tells T) : Rel G T a w := by
  obtain ⟨F, σ, X, r⟩ := h
  obtain ⟨h1, h2, h3, h4⟩ := ht
  exact ⟨F, σ, X, r.defers, r.size.trans h1.symm, fun i sv e => r.slots i sv (h3 i sv e), ⟨fun h o e => r.oks.ok h o (h4 h o e), fun h h' o o' e e' => r.oks.apart h h' o o' (h4 h o e) (h4 h' o' e'), fun h o e => r.oks.live h o (h4 h o e)⟩,
    fun h => by rw [h2]; exact r.sig0 h, fun h o e => r.foot h o (h4 h o e), r.frz, r.frz0, r.grow, r.same, r.os, r.tape, r.output⟩
theorem St.keep_tells (S : St) (ks hs : List Nat) : S.tells (S.keep ks hs) := ⟨rfl, rfl, fun _ _ e => look_pick e, fun _ _ e => look_pick e⟩
theorem awp_less {P : Program} {G : Gh} {c : Code} {Q : Exit → St → Prop} {S T : St} (ht : S.tells T) (h : AWp P G c Q T) : AWp P G c Q S := fun a w hR => h a w (hR.less ht)

/-! ### Names exchanged -/
def sw (a b h : Nat) : Nat := bif Nat.beq h a then b else bif Nat.beq h b then a else h
theorem sw_sw (a b h : Nat) : sw a b (sw a b h) = h := by
  unfold sw
  by_cases c1 : h = a
  · subst c1
    simp only [Nat.beq_refl, cond_true]
    by_cases c2 : b = h
    · subst c2; simp
    · simp [beq_false c2]
  · by_cases c2 : h = b
    · subst c2; simp [beq_false c1]
    · simp [beq_false c1, beq_false c2]
def CV.sw (a b : Nat) : CV → CV
  | .d x => .d x
  | .loc h off => .loc (E.sw a b h) off
  | .eloc h i off sz => .eloc (E.sw a b h) i off sz
  | .own h => .own (E.sw a b h)
  | .clo g caps => .clo g (caps.map fun c => (E.sw a b c.1, c.2))
def TV.sw (a b : Nat) : TV → TV
  | .c x => .c (x.sw a b)
  | .agg l => .agg (l.map (CV.sw a b))
def SV.sw (a b : Nat) : SV → SV
  | .t x => .t (x.sw a b)
  | .tup l => .tup (l.map (TV.sw a b))
  | .any => .any
def LObj.sw (a b : Nat) : LObj → LObj
  | .cells t cs => .cells t (cs.map (CV.sw a b))
  | o => o
def swS (a b : Nat) : List (Nat × SV) → List (Nat × SV)
  | [] => []
  | (i, x) :: r => (i, x.sw a b) :: swS a b r
def swO (a b : Nat) : Objs → Objs
  | [] => []
  | (h, o) :: r => (E.sw a b h, o.sw a b) :: swO a b r
def St.sw (a b : Nat) (S : St) : St := { S with slots := swS a b S.slots, objs := swO a b S.objs }

section
variable {F : Nat → Prop} {σ : Nat → Value} {w : World} {a b : Nat}
theorem RepC.sw {x : Value} {y : CV} (h : RepC F σ w x y) : RepC F (fun k => σ (E.sw a b k)) w x (y.sw a b) := by
  cases y with
  | d d => exact h
  | loc k off => obtain ⟨c, h1, h2⟩ := h; exact ⟨c, by simp only [sw_sw]; exact h1, h2⟩
  | eloc k i off sz => obtain ⟨c, n, cap, h1, h2⟩ := h; exact ⟨c, n, cap, by simp only [sw_sw]; exact h1, h2⟩
  | own k => obtain ⟨h1, h2⟩ := h; exact ⟨by simp only [sw_sw]; exact h1, by simp only [sw_sw]; exact h2⟩
  | clo g caps =>
    obtain ⟨cs, h1, h2, h3⟩ := h
    refine ⟨cs, h1, by simpa using h2, fun i hi => ?_⟩
    obtain ⟨c, h4, h5⟩ := h3 i (by simpa using hi)
    exact ⟨c, by simp only [List.getElem_map, sw_sw]; exact h4, by simpa using h5⟩
theorem RepT.sw {x : Value} {y : TV} (h : RepT F σ w x y) : RepT F (fun k => σ (E.sw a b k)) w x (y.sw a b) := by
  cases y with
  | c y => exact RepC.sw h
  | agg l => obtain ⟨cs, h1, h2, h3⟩ := h; exact ⟨cs, h1, by simpa using h2, fun i hi => by simpa using RepC.sw (h3 i (by simpa using hi))⟩
theorem RepS.sw {x : Value} {y : SV} (h : RepS F σ w x y) : RepS F (fun k => σ (E.sw a b k)) w x (y.sw a b) := by
  cases y with
  | t y => exact RepT.sw h
  | tup l => obtain ⟨cs, h1, h2, h3⟩ := h; exact ⟨cs, h1, by simpa using h2, fun i hi => by simpa using RepT.sw (h3 i (by simpa using hi))⟩
  | any => trivial
theorem ObjOK.sw {x : Value} {X : Nat → Prop} {o : LObj} (h : ObjOK F σ w x X o) : ObjOK F (fun k => σ (E.sw a b k)) w x X (o.sw a b) := by
  cases o with
  | cells t cs => obtain ⟨c, vs, h1, h2, h3, h4, h5⟩ := h; exact ⟨c, vs, h1, h2, h3, by simpa using h4, fun i hi => by simpa using RepC.sw (h5 i (by simpa using hi))⟩
  | arr => exact h
  | it => exact h
  | opq => exact h
end

theorem look_swS {a b : Nat} : ∀ {l : List (Nat × SV)} {i : Nat} {x : SV}, look (swS a b l) i = some x → ∃ y, look l i = some y ∧ x = y.sw a b
  | [], i, x, h => by simp [swS, look] at h
  | (j, y) :: r, i, x, h => by
    by_cases c : j = i
    · subst c
      simp only [swS, look, Nat.beq_refl, cond_true, Option.some.injEq] at h
      exact ⟨y, by simp [look], h.symm⟩
    · simp only [swS, look, beq_false c, cond_false] at h
      obtain ⟨z, h1, h2⟩ := look_swS h
      exact ⟨z, by simp only [look, beq_false c, cond_false]; exact h1, h2⟩
theorem look_swO {a b : Nat} : ∀ {l : Objs} {h : Nat} {x : LObj}, look (swO a b l) h = some x → ∃ y, look l (sw a b h) = some y ∧ x = y.sw a b
  | [], i, x, h => by simp [swO, look] at h
  | (j, y) :: r, i, x, h => by
    by_cases c : sw a b j = i
    · subst c
      simp only [swO, look, Nat.beq_refl, cond_true, Option.some.injEq] at h
      exact ⟨y, by simp [look, sw_sw], h.symm⟩
    · simp only [swO, look, beq_false c, cond_false] at h
      obtain ⟨z, h1, h2⟩ := look_swO h
      refine ⟨z, ?_, h2⟩
      have c' : j ≠ sw a b i := fun e => c (by rw [e, sw_sw])
      simp only [look, beq_false c', cond_false]; exact h1

theorem Rel.sw {G : Gh} {S : St} {ac : Act} {w : World} {a b : Nat} (h : Rel G S ac w) (ho : (S.old.any (Nat.beq a) || S.old.any (Nat.beq b)) = false) : Rel G (S.sw a b) ac w := by
  obtain ⟨F, σ, X, r⟩ := h
  have hob : ∀ h o, look (swO a b S.objs) h = some o → ∃ y, look S.objs (E.sw a b h) = some y ∧ o = y.sw a b := fun h o e => look_swO e
  refine ⟨F, fun k => σ (E.sw a b k), fun k => X (E.sw a b k), r.defers, r.size, fun i sv e => ?_, ⟨fun h o e => ?_, fun h h' o o' e e' hne => ?_, fun h o e => ?_⟩, fun h hh => ?_, fun h o e => ?_, r.frz, r.frz0, r.grow, r.same, r.os, r.tape, r.output⟩
  · obtain ⟨y, h1, rfl⟩ := look_swS e
    exact (r.slots i y h1).sw
  · obtain ⟨y, h1, rfl⟩ := hob h o e
    exact (r.oks.ok _ y h1).sw
  · obtain ⟨y, h1, rfl⟩ := hob h o e
    obtain ⟨y', h1', rfl⟩ := hob h' o' e'
    exact r.oks.apart _ _ y y' h1 h1' fun c => hne (by rw [← sw_sw a b h, c, sw_sw])
  · obtain ⟨y, h1, rfl⟩ := hob h o e
    exact r.oks.live _ y h1
  · have : E.sw a b h = h := by
      simp only [Bool.or_eq_false_iff, List.any_eq_false] at ho
      simp only [St.sw, List.any_eq_true] at hh
      obtain ⟨x, hx, hxe⟩ := hh
      have hxe := beq_iff.1 hxe
      subst hxe
      have n1 : h ≠ a := fun c => by subst c; exact ho.1 _ hx (Nat.beq_refl _)
      have n2 : h ≠ b := fun c => by subst c; exact ho.2 _ hx (Nat.beq_refl _)
      simp [E.sw, beq_false n1, beq_false n2]
    show σ (E.sw a b h) = G.σ0 h
    rw [this]
    exact r.sig0 h hh
  · obtain ⟨y, h1, rfl⟩ := hob h o e
    exact r.foot _ y h1
theorem awp_sw {P : Program} {G : Gh} {c : Code} {Q : Exit → St → Prop} {S : St} (a b : Nat) (ho : (S.old.any (Nat.beq a) || S.old.any (Nat.beq b)) = false) (h : AWp P G c Q (S.sw a b)) : AWp P G c Q S := fun ac w hR => h ac w (hR.sw ho)
end Go.E
