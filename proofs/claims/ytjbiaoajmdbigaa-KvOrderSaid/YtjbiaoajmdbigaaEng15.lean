/- A logic over abstract states. Part 15: what a walk is put together of. -/
import Derived.Test.YtjbiaoajmdbigaaEng14
set_option linter.unusedVariables false
set_option linter.unusedSimpArgs false
namespace Go.E
open Go

/-- A region, and what is kept of the state behind it. -/
def runK (P : Program) (T : Tab) (D : List Nat) (hints : List (Nat × Hint)) (ops : List Oper) (open_ : Bool) (ks hs : List Nat) (S : St) : Option (St × List Ob) :=
  match runR P T D hints ops open_ S with
  | some (S', obs) => some (S'.keep ks hs, obs)
  | none => none

section
variable {P : Program} {T : Tab} (hT : TabOK P T) {G : Gh}

include hT in
theorem awp_region_keep (D : List Nat) (hints : List (Nat × Hint)) {ops : List Oper} {open_ : Bool} (ks hs : List Nat) {S : St} (S' : St) (obs : List Ob) (hm : P.follows .mixedOrders = true) (h : runK P T D hints ops open_ ks hs S = some (S', obs)) (ho : AllHold P obs)
    {id : Nat} {Q : Exit → St → Prop} (hQ : Q .normal S') : AWp P G (.region id ops.toArray open_) Q S := by
  unfold runK at h
  split at h
  · rename_i S2 obs2 hr
    obtain ⟨rfl, rfl⟩ := Prod.mk.inj (Option.some.inj h)
    intro a w hR
    refine wp_mono (awp_region (Q := fun e S => e = .normal ∧ S = S2) hT hr ho (fun _ => hm) ⟨rfl, rfl⟩ a w hR) ?_
    rintro e a' w' ⟨S3, ⟨rfl, rfl⟩, hR'⟩
    exact ⟨_, hQ, hR'.less (St.keep_tells _ ks hs)⟩
  · cases h
end

section peel
variable {P : Program} {G : Gh} {c : Code} {Q : Exit → St → Prop} {S : St} {K : St → Prop} {id id' : Nat}
theorem peel_seq (h : AWp P G c Q S) : QSeq (AWp P G c Q) Q .normal S := h
theorem peel_seq_exit (h : Q (.exit id) S) : QSeq K Q (.exit id) S := h
theorem peel_seq_ret (h : Q .ret S) : QSeq K Q .ret S := h
theorem peel_block (h : Q .normal S) : QBlock id Q .normal S := h
theorem peel_block_ret (h : Q .ret S) : QBlock id Q .ret S := h
theorem peel_hit (h : Q .normal S) : QBlock id Q (.exit id) S := by simp only [QBlock, if_true]; exact h
theorem peel_miss (hne : id' ≠ id) (h : Q (.exit id') S) : QBlock id Q (.exit id') S := by simp only [QBlock, if_neg hne]; exact h
theorem peel_round {ι : Type} {I : ι → St} {J : ι → Prop} {μ : ι → Nat} {x : ι} (y : ι) (hs : S = I y) (hj : J y) (hm : μ y < μ x) : QSeq (fun S' => ∃ y, S' = I y ∧ J y ∧ μ y < μ x) Q .normal S := ⟨y, hs, hj, hm⟩
/-- Where ways meet again: the state that both come to. -/
theorem awp_meet {x y : Code} (S1 : St) (h1 : AWp P G x (QSeq (fun S' => S' = S1) Q) S) (h2 : AWp P G y Q S1) : AWp P G (.seq x y) Q S := awp_seq (awp_mono h1 fun e S' q => by
  cases e with
  | normal => exact (show S' = S1 from q) ▸ h2
  | _ => exact q)
theorem peel_met {S1 : St} (h : S = S1) : QSeq (fun S' => S' = S1) Q .normal S := h
end peel

theorem ends_ret {T : Tab} {rs : List ResultVar} {l l' : Objs} {res : SV} {S : St} (h1 : S.old = l.map (·.1)) (h2 : resOf T S rs = some res) (h3 : gather S.objs (l'.map (·.1)) = some l') : Ends T rs l res l' .ret S := ⟨.inl rfl, h1, h2, gather_look h3⟩
theorem ends_end {T : Tab} {rs : List ResultVar} {l l' : Objs} {res : SV} {S : St} (h1 : S.old = l.map (·.1)) (h2 : resOf T S rs = some res) (h3 : gather S.objs (l'.map (·.1)) = some l') : Ends T rs l res l' .normal S := ⟨.inr rfl, h1, h2, gather_look h3⟩
/-- The state is written otherwise. -/
theorem awp_as {P : Program} {G : Gh} {c : Code} {Q : Exit → St → Prop} {S : St} (S' : St) (h : S = S') (hw : AWp P G c Q S') : AWp P G c Q S := h ▸ hw
theorem q_as {Q : Exit → St → Prop} {e : Exit} {S : St} (S' : St) (h : S = S') (hq : Q e S') : Q e S := h ▸ hq
theorem q_keep {P : Program} {G : Gh} {c : Code} {Q : Exit → St → Prop} {S : St} (ks hs : List Nat) (h : AWp P G c Q (S.keep ks hs)) : AWp P G c Q S := awp_less (St.keep_tells S ks hs) h

/-! ### Numbers -/
theorem tri_scalar_eq {P : Program} {op : Op} {ty : TypeId} {vals : List SV} (vs : List Value) (r : Value) {r' : Value} (h1 : r.oneCell' = true) (hn : noSel op = true) (hs : scals vals = some vs) (hp : runP P (execOp (asg op.operands.toList vs) (mkO op ty)) = some (.value r)) (he : r = r') :
    Tri P (mkO op ty) vals [] (sc r') [] := he ▸ tri_scalar h1 hn hs hp

theorem tri_int {P : Program} {op : BinOp} {t u ty : TypeId} {x y : Operand} {k : IntKind} {a b : Int} (c : Int) (h : (match op with | .add => k.wrap (a + b) | .sub => k.wrap (a - b) | .mul => k.wrap (a * b) | _ => c + 1) = c) :
    Tri P (mkO (.binOp op t x y u) ty) [sc (.int k a), sc (.int k b)] [] (sc (.int k c)) [] :=
  tri_of_value fun F σ X w ac hr _ => by
    have hx : ac.eval x = .int k a := scal_rep hr.1 rfl
    have hy : ac.eval y = .int k b := scal_rep hr.2.1 rfl
    refine ⟨.int k c, ?_, RepD.v _ rfl⟩
    cases op <;> first
      | (simp only [execOp, mkO, hx, hy, eqGuard, binOp, Op.intArith] at h ⊢; simp [h]; done)
      | (exfalso; dsimp only at h; omega)

theorem tri_max {P : Program} {ty : TypeId} {x y : Operand} {ats : Array TypeId} {k : IntKind} {a b : Int} : Tri P (mkO (.call { callee := .builtin .max, args := #[x, y], argTypes := ats }) ty) [sc (.int k a), sc (.int k b)] [] (sc (.int k (max a b))) [] :=
  tri_of_value fun F σ X w ac hr _ => by
    have hx : ac.eval x = .int k a := scal_rep hr.1 rfl
    have hy : ac.eval y = .int k b := scal_rep hr.2.1 rfl
    refine ⟨.int k (max a b), ?_, RepD.v _ rfl⟩
    have : (if b > a then b else a) = max a b := by split <;> omega
    simp [execOp, mkO, hx, hy, resolve, invoke, builtin, Builtin.max_, Builtin.max2, this]
theorem tri_min {P : Program} {ty : TypeId} {x y : Operand} {ats : Array TypeId} {k : IntKind} {a b : Int} : Tri P (mkO (.call { callee := .builtin .min, args := #[x, y], argTypes := ats }) ty) [sc (.int k a), sc (.int k b)] [] (sc (.int k (min a b))) [] :=
  tri_of_value fun F σ X w ac hr _ => by
    have hx : ac.eval x = .int k a := scal_rep hr.1 rfl
    have hy : ac.eval y = .int k b := scal_rep hr.2.1 rfl
    refine ⟨.int k (min a b), ?_, RepD.v _ rfl⟩
    have : (if b < a then b else a) = min a b := by split <;> omega
    simp [execOp, mkO, hx, hy, resolve, invoke, builtin, Builtin.min_, Builtin.min2, this]

theorem wrap_i64 {n : Int} (h : -9223372036854775808 ≤ n ∧ n ≤ 9223372036854775807) : IntKind.i64.wrap n = n := IntWalk.i64_in n h
end Go.E
