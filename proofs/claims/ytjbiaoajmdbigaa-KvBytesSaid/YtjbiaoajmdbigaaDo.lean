/- What the laws of kv take: operations, calls; how they read. -/
import Derived.Test.YtjbiaoajmdbigaaKv
import Derived.Test.YtjbiaoajmdbigaaEB
set_option linter.unusedVariables false
set_option linter.unusedSimpArgs false
namespace Go.Proofs.Ytjbiaoajmdbigaa
open Go Go.E

structure ADo where
  op : Int
  pos : Int
  conds : List AOp
  ops : List AOp
  fr : ByteArray
  to : ByteArray
  p1 : Int
  p2 : ByteArray
  p3 : Bool
  p4 : ByteArray
  p5 : Bool
  p6 : ByteArray
def encDo (d : ADo) : List DV := [.v (.int .i64 d.op), .v (.int .i64 d.pos), .sl (d.conds.map encOp), .sl (d.ops.map encOp), .v (.string d.fr), .v (.string d.to),
  .v (.int .i64 d.p1), .v (.string d.p2), .v (.bool d.p3), .v (.string d.p4), .v (.bool d.p5), .v (.string d.p6)]
def shOp : List CSh := [.s, .b, .s]
def shDo : List CSh := [.i .i64, .i .i64, .sl shOp, .sl shOp, .s, .s, .i .i64, .s, .b, .s, .b, .s]
theorem fits_op {e : List DV} (h : FitsAll shOp e) : ∃ x : AOp, e = encOp x := by
  obtain _ | ⟨⟨⟩, _ | ⟨⟨⟩, _ | ⟨⟨⟩, ⟨⟩⟩⟩⟩ := h
  exact ⟨⟨_, _, _⟩, rfl⟩
theorem fits_ops {es : List (List DV)} (h : FitsRows shOp es) : ∃ l : List AOp, es = l.map encOp := h.list fun _ => fits_op
theorem fits_do {e : List DV} (h : FitsAll shDo e) : ∃ x : ADo, e = encDo x := by
  obtain _ | ⟨⟨⟩, _ | ⟨⟨⟩, _ | ⟨h1, _ | ⟨h2, _ | ⟨⟨⟩, _ | ⟨⟨⟩, _ | ⟨⟨⟩, _ | ⟨⟨⟩, _ | ⟨⟨⟩, _ | ⟨⟨⟩, _ | ⟨⟨⟩, _ | ⟨⟨⟩, ⟨⟩⟩⟩⟩⟩⟩⟩⟩⟩⟩⟩⟩⟩ := h
  cases h1 with
  | sl _ _ r1 =>
    cases h2 with
    | sl _ _ r2 =>
      obtain ⟨l1, rfl⟩ := fits_ops r1
      obtain ⟨l2, rfl⟩ := fits_ops r2
      exact ⟨⟨_, _, l1, l2, _, _, _, _, _, _, _, _⟩, rfl⟩
theorem fits_dos {es : List (List DV)} (h : FitsRows shDo es) : ∃ l : List ADo, es = l.map encDo := h.list fun _ => fits_do
theorem fits_sl_dos {e : DV} (h : Fits (.sl shDo) e) : ∃ l : List ADo, e = .sl (l.map encDo) := by
  cases h with
  | sl _ _ r => obtain ⟨l, rfl⟩ := fits_dos r; exact ⟨l, rfl⟩
theorem fits_sl_ops {e : DV} (h : Fits (.sl shOp) e) : ∃ l : List AOp, e = .sl (l.map encOp) := by
  cases h with
  | sl _ _ r => obtain ⟨l, rfl⟩ := fits_ops r; exact ⟨l, rfl⟩
theorem fits_str {e : DV} (h : Fits .s e) : ∃ s : ByteArray, e = .v (.string s) ∧ s.size ≤ maxLen := by
  cases h with
  | s x h => exact ⟨x, rfl, h⟩
theorem fits_int {k : IntKind} {e : DV} (h : Fits (.i k) e) : ∃ n : Int, e = .v (.int k n) ∧ (Lit.int k n).wf = true := by
  cases h with
  | i _ n h => exact ⟨n, rfl, h⟩
/-! How much there is. -/
def weighF : List AOp → Int → Int
  | [], n => n
  | o :: r, n => bif decide (n ≤ 32768) then weighF r (n + ((1 + min (o.key.size : Int) 32768) + min (o.val.size : Int) 32768)) else n
def weighM (l : List AOp) : Int := weighF l 0
theorem weighF_le : ∀ (l : List AOp) (n : Int), 0 ≤ n → n ≤ 200000 → 0 ≤ weighF l n ∧ weighF l n ≤ 200000
  | [], n, h1, h2 => ⟨h1, h2⟩
  | o :: r, n, h1, h2 => by
    simp only [weighF]
    cases h : decide (n ≤ 32768) with
    | false => exact ⟨h1, h2⟩
    | true =>
      have := of_decide_eq_true h
      exact weighF_le r _ (by omega) (by omega)
theorem weighM_le (l : List AOp) : 0 ≤ weighM l ∧ weighM l ≤ 200000 := weighF_le l 0 (by omega) (by omega)
def shortF : List ADo → Int → Int → Int
  | [], _, n => n
  | d :: r, i, n => bif decide (i ≤ 100) then (bif decide (n ≤ 32768) then shortF r (i + 1) (n + (((((weighM d.conds + weighM d.ops) + min (d.fr.size : Int) 32768) + min (d.to.size : Int) 32768) + min (d.p2.size : Int) 32768) + min (d.p6.size : Int) 32768)) else n) else n
def shortM (l : List ADo) : Bool := bif decide ((l.length : Int) ≤ 100) then decide (shortF l 0 0 ≤ 32768) else false
abbrev opN (op : Int) : Int := IntKind.wrap .i64 (Int.tmod (IntKind.wrap .u64 op) 8)
def madeF : List ADo → Tr → List AEv → Tr × List AEv
  | [], t, l => (t, l)
  | d :: r, t, l => bif decide (opN d.op < 4) then madeF r (doT t d.pos d.conds d.ops) (l ++ (planM t d.pos d.conds d.ops).1) else madeF r t l
def madeM (l : List ADo) : Tr × List AEv := madeF l .nil []
theorem doT_size (t : Tr) (p : Int) (c o : List AOp) : (doT t p c o).size ≤ t.size + 6 := by
  have h1 := takeF_size t (planM t p c o).1
  have h2 := planM_len t p c o
  unfold doT
  cases ((planM t p c o).2 == 0) <;> simp only [cond_true, cond_false] <;> omega
theorem madeF_size : ∀ (l : List ADo) (t : Tr) (a : List AEv), (madeF l t a).1.size ≤ t.size + 6 * l.length
  | [], t, a => by simp [madeF]
  | d :: r, t, a => by
    simp only [madeF, List.length_cons]
    cases decide (opN d.op < 4) with
    | false => have := madeF_size r t a; simp only [cond_false]; omega
    | true =>
      have := madeF_size r (doT t d.pos d.conds d.ops) (a ++ (planM t d.pos d.conds d.ops).1)
      have := doT_size t d.pos d.conds d.ops
      simp only [cond_true]; omega
theorem madeM_size {l : List ADo} (h : l.length ≤ 100) : (madeM l).1.size ≤ 600 := by
  have := madeF_size l .nil []
  simp only [Tr.size] at this
  unfold madeM
  omega
theorem shortM_len {l : List ADo} (h : shortM l = true) : l.length ≤ 100 := by
  unfold shortM at h
  cases h1 : decide ((l.length : Int) ≤ 100) with
  | true => have := of_decide_eq_true h1; omega
  | false => rw [h1] at h; cases h
theorem planM_err {t : Tr} {p : Int} {c o : List AOp} (h : ((planM t p c o).2 != 0) = true) : (planM t p c o).1 = [] ∧ doT t p c o = t := by
  refine ⟨?_, ?_⟩
  · unfold planM at h ⊢
    cases h1 : (checkE c o != 0) with
    | true => rfl
    | false =>
      rw [h1] at h
      cases h2 : condsOK t c with
      | false => rfl
      | true =>
        rw [h2] at h
        cases h3 : decide ((planF t p o [] t.size).2 > 24) with
        | true => rfl
        | false => rw [h3] at h; cases h
  · unfold doT
    have : ((planM t p c o).2 == 0) = false := by simpa using h
    rw [this]
    rfl
theorem setF_size : ∀ (l : List AOp) (t t' : Tr), setF t l = some t' → t'.size ≤ t.size + l.length
  | [], t, t', h => by simp only [setF, Option.some.injEq] at h; subst h; simp
  | o :: r, t, t', h => by
    simp only [setF] at h
    cases ho : o.has with
    | false => simp [ho] at h
    | true =>
      simp only [ho, Bool.not_true, cond_false] at h
      have := setF_size r _ t' h
      have := Tr.size_putT t o.key o.val
      simp only [List.length_cons]; omega
theorem setM_err {t : Tr} {l : List AOp} (h : ((setM t l).2 == 0) = false) : (setM t l).1 = t := by
  unfold setM at h ⊢
  cases h1 : decide ((l.length : Int) > 24) with
  | true => rfl
  | false =>
    rw [h1] at h
    cases h2 : (rightF l [] != 0) with
    | true => rfl
    | false =>
      rw [h2] at h
      simp only [cond_false] at h ⊢
      cases h3 : setF .nil l with
      | none => rfl
      | some t' => rw [h3] at h; cases h
theorem setM_size (t : Tr) (l : List AOp) : (setM t l).1.size ≤ max t.size 24 := by
  unfold setM
  cases h1 : decide ((l.length : Int) > 24) with
  | true => simp only [cond_true]; omega
  | false =>
    have h1 := of_decide_eq_false h1
    cases rightF l [] != 0 with
    | true => simp only [cond_true, cond_false]; omega
    | false =>
      simp only [cond_false]
      cases h3 : setF .nil l with
      | none => simp only; omega
      | some t' => have := setF_size l _ t' h3; simp only [Tr.size] at this ⊢; omega
theorem eqOps_self (l : List AOp) : eqL eqOpB l l = true := (eqL_iff (fun _ _ => eqOpB_iff)).2 rfl
end Go.Proofs.Ytjbiaoajmdbigaa
