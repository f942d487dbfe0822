/- A logic over abstract states. Part 16: strings. -/
import Derived.Test.YtjbiaoajmdbigaaEng15
set_option linter.unusedVariables false
set_option linter.unusedSimpArgs false
namespace Go.E
open Go

/-- Are two strings one? Does one stand ahead of the other, byte by byte? -/
def eqS (x y : ByteArray) : Bool := decide (x = y)
def ltL : List UInt8 → List UInt8 → Bool := Op.bytesLess
def ltS (x y : ByteArray) : Bool := ltL x.data.toList y.data.toList

theorem eqS_true {x y : ByteArray} (h : eqS x y = true) : x = y := of_decide_eq_true h
theorem eqS_false {x y : ByteArray} (h : eqS x y = false) : x ≠ y := of_decide_eq_false h
theorem eqS_self (x : ByteArray) : eqS x x = true := by simp [eqS]
theorem data_inj {x y : ByteArray} (h : x.data.toList = y.data.toList) : x = y := by
  obtain ⟨⟨a⟩⟩ := x
  obtain ⟨⟨b⟩⟩ := y
  simp only at h
  rw [h]
theorem eqS_eq (x y : ByteArray) : (x.toList == y.toList) = eqS x y := by
  rw [ByteArray.toList_eq, ByteArray.toList_eq]
  unfold eqS
  by_cases h : x = y
  · subst h; simp
  · have : x.data ≠ y.data := fun e => h (data_inj (by rw [e]))
    simp [h, this]

theorem ltL_irrefl : ∀ x : List UInt8, ltL x x = false
  | [] => rfl
  | a :: x => by simp [ltL, Op.bytesLess]; exact ltL_irrefl x
theorem ltL_trans : ∀ {x y z : List UInt8}, ltL x y = true → ltL y z = true → ltL x z = true
  | _, _, [], _, h => by simp [ltL, Op.bytesLess] at h
  | [], _, c :: z, _, _ => by simp [ltL, Op.bytesLess]
  | a :: x, [], c :: z, h, _ => by simp [ltL, Op.bytesLess] at h
  | a :: x, b :: y, c :: z, h1, h2 => by
    simp only [ltL, Op.bytesLess, Bool.or_eq_true, decide_eq_true_eq, Bool.and_eq_true, beq_iff_eq] at h1 h2 ⊢
    rcases h1 with h1 | ⟨rfl, h1⟩
    · rcases h2 with h2 | ⟨rfl, h2⟩
      · exact .inl (UInt8.lt_trans h1 h2)
      · exact .inl h1
    · rcases h2 with h2 | ⟨rfl, h2⟩
      · exact .inl h2
      · exact .inr ⟨rfl, ltL_trans h1 h2⟩
theorem ltL_tri : ∀ (x y : List UInt8), ltL x y = false → ltL y x = false → x = y
  | [], [], _, _ => rfl
  | [], b :: y, h, _ => by simp [ltL, Op.bytesLess] at h
  | a :: x, [], _, h => by simp [ltL, Op.bytesLess] at h
  | a :: x, b :: y, h1, h2 => by
    simp only [ltL, Op.bytesLess, Bool.or_eq_false_iff, decide_eq_false_iff_not, Bool.and_eq_false_iff, beq_eq_false_iff_ne] at h1 h2
    have hab : a = b := by
      have h3 := h1.1
      have h4 := h2.1
      rw [UInt8.lt_iff_toNat_lt] at h3 h4
      exact UInt8.toNat_inj.1 (by omega)
    subst hab
    simp only [ne_eq, not_true, false_or] at h1 h2
    rw [ltL_tri x y h1.2 h2.2]
theorem ltS_irrefl (x : ByteArray) : ltS x x = false := ltL_irrefl _
theorem ltS_trans {x y z : ByteArray} (h1 : ltS x y = true) (h2 : ltS y z = true) : ltS x z = true := ltL_trans h1 h2
theorem ltS_tri {x y : ByteArray} (h1 : ltS x y = false) (h2 : ltS y x = false) : x = y := data_inj (ltL_tri _ _ h1 h2)
theorem ltS_asymm {x y : ByteArray} (h : ltS x y = true) : ltS y x = false := by
  cases e : ltS y x with
  | false => rfl
  | true => have := ltS_trans h e; rw [ltS_irrefl] at this; cases this
theorem ltS_ne {x y : ByteArray} (h : ltS x y = true) : x ≠ y := fun e => by subst e; rw [ltS_irrefl] at h; cases h

section
variable {P : Program} {t u ty : TypeId} {x y : Operand} {a b : ByteArray}
theorem ltS_eq : Op.bytesLess a.toList b.toList = ltS a b := by rw [ByteArray.toList_eq, ByteArray.toList_eq]; rfl
theorem leS_eq : (Op.bytesLess a.toList b.toList || (a.toList == b.toList)) = !(ltS b a) := by
  rw [ltS_eq, eqS_eq]
  cases e1 : ltS a b with
  | true => rw [ltS_asymm e1]; rfl
  | false =>
    cases e2 : ltS b a with
    | false => rw [ltS_tri e1 e2, eqS_self]; rfl
    | true => simp [eqS, (ltS_ne e2).symm]
theorem tri_str {op : BinOp} {r : Bool} (h : ∀ w : World, (binOp op t (.string a) (.string b)).run P w = .ok (.bool r) w) : Tri P (mkO (.binOp op t x y u) ty) [sc (.string a), sc (.string b)] [] (sc (.bool r)) [] :=
  tri_of_value fun F σ X w ac hr _ => by
    have hx : ac.eval x = .string a := scal_rep hr.1 rfl
    have hy : ac.eval y = .string b := scal_rep hr.2.1 rfl
    refine ⟨.bool r, ?_, RepD.v _ rfl⟩
    cases op <;> simp [execOp, mkO, hx, hy, eqGuard, h]
theorem tri_str_eql : Tri P (mkO (.binOp .eql t x y u) ty) [sc (.string a), sc (.string b)] [] (sc (.bool (eqS a b))) [] := tri_str fun w => by simp [binOp, Op.stringOp, ← eqS_eq]
theorem tri_str_neq : Tri P (mkO (.binOp .neq t x y u) ty) [sc (.string a), sc (.string b)] [] (sc (.bool (!(eqS a b)))) [] := tri_str fun w => by simp [binOp, Op.stringOp, ← eqS_eq]
theorem tri_str_lss : Tri P (mkO (.binOp .lss t x y u) ty) [sc (.string a), sc (.string b)] [] (sc (.bool (ltS a b))) [] := tri_str fun w => by simp only [binOp, Op.stringOp, ltS_eq]; rfl
theorem tri_str_geq : Tri P (mkO (.binOp .geq t x y u) ty) [sc (.string a), sc (.string b)] [] (sc (.bool (!(ltS a b)))) [] := tri_str fun w => by simp only [binOp, Op.stringOp, ltS_eq]; rfl
theorem tri_str_leq : Tri P (mkO (.binOp .leq t x y u) ty) [sc (.string a), sc (.string b)] [] (sc (.bool (!(ltS b a)))) [] := tri_str fun w => by simp only [binOp, Op.stringOp, leS_eq]; rfl
theorem tri_str_gtr : Tri P (mkO (.binOp .gtr t x y u) ty) [sc (.string a), sc (.string b)] [] (sc (.bool (ltS b a))) [] := tri_str fun w => by simp only [binOp, Op.stringOp, leS_eq, Bool.not_not]; rfl
theorem tri_as {o : Oper} {vals : List SV} {l l' : Objs} {b c : Bool} (h : Tri P o vals l (sc (.bool b)) l') (e : b = c) : Tri P o vals l (sc (.bool c)) l' := e ▸ h
end
end Go.E
