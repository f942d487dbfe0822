/- What the document's answer of layer 9 computes, as data; and that it is what package kv's functions compute. -/
import Derived.Test.YtjbiaoajmdbigaaPl2
set_option linter.unusedVariables false
set_option linter.unusedSimpArgs false
namespace Go.Proofs.Ytjbiaoajmdbigaa
open Go Go.E

def encI (c : Int) : List DV := [.v (.int .i64 c)]
def encR (c : Int) : List DV := [.v (.int .i32 c)]
/-! ### Texts -/
def plainQ (c : Int) : Bool := bif decide (c > 31) then (bif c != 127 then c != 65533 else false) else false
theorem plainQ_eq (c : Int) : plainQ c = plainR c := by
  unfold plainQ plainR
  have : decide (c > 31) = decide (c ≥ 32) := by apply decide_eq_decide.2; omega
  rw [this]
def plainAll : List Int → Bool → Bool
  | [], ok => ok
  | c :: r, ok => plainAll r (bif ok then plainR c else false)
def manyM (s : ByteArray) (lo hi : Int) : Bool := plainAll (runes s) (bif decide (((runes s).length : Int) ≥ lo) then decide (((runes s).length : Int) ≤ hi) else false)
theorem plainAll_eq : ∀ (l : List Int) (ok : Bool), plainAll l ok = (ok && l.all plainR)
  | [], ok => by simp [plainAll]
  | c :: r, ok => by simp only [plainAll, plainAll_eq r, List.all_cons]; cases ok <;> simp
theorem allR_eq (lo hi : Int) : ∀ (l : List Int) (n : Int), n ≤ hi → allR lo hi l n = (decide (lo ≤ n + l.length) && (decide (n + l.length ≤ hi) && l.all plainR))
  | [], n, h => by simp [allR, h]
  | c :: r, n, h => by
    simp only [allR, List.length_cons, List.all_cons]
    split
    · rename_i c1
      have : decide (n + ((r.length + 1 : Nat) : Int) ≤ hi) = false := decide_eq_false (by omega)
      rw [this]; simp
    · rename_i c1
      split
      · rename_i c2
        rw [allR_eq lo hi r (n + 1) (by omega), c2]
        have e1 : n + 1 + (r.length : Int) = n + ((r.length + 1 : Nat) : Int) := by omega
        simp [e1]
      · rename_i c2
        simp [c2]
theorem manyM_eq (s : ByteArray) (lo hi : Int) (h : 0 ≤ hi) : manyM s lo hi = allR lo hi (runes s) 0 := by
  rw [allR_eq lo hi _ 0 h]
  unfold manyM
  rw [plainAll_eq, Int.zero_add]
  have e : decide (((runes s).length : Int) ≥ lo) = decide (lo ≤ ((runes s).length : Int)) := rfl
  rw [e]
  cases decide (lo ≤ ((runes s).length : Int)) <;> simp
theorem hasK_keys {l : List AOp} {j n : Nat} {x : AOp} (h : j < n) (ha : l[j]? = some x) (k : ByteArray) : hasK (((l.take n).map AOp.key).drop j) k = (eqS x.key k || hasK (((l.take n).map AOp.key).drop (j + 1)) k) := by
  obtain ⟨hl, rfl⟩ := List.getElem?_eq_some_iff.1 ha
  have h1 : j < ((l.take n).map AOp.key).length := by simp; omega
  rw [List.drop_eq_getElem_cons h1]
  simp [hasK]
theorem hasK_end {l : List AOp} {j n : Nat} (h : ¬ j < n) (k : ByteArray) : hasK (((l.take n).map AOp.key).drop j) k = false := by
  rw [List.drop_eq_nil_of_le (by simp; omega)]; rfl
theorem keys_snoc {l : List AOp} {j : Nat} {x : AOp} (ha : l[j]? = some x) : (l.take (j + 1)).map AOp.key = (l.take j).map AOp.key ++ [x.key] := by
  obtain ⟨hl, rfl⟩ := List.getElem?_eq_some_iff.1 ha
  rw [List.take_add_one, List.getElem?_eq_getElem hl, List.map_append]; rfl

/-! ### Lists -/
def rgetF : List AOp → ByteArray → ByteArray × Bool
  | [], _ => (⟨#[]⟩, false)
  | o :: r, k => bif eqS o.key k then (o.val, true) else rgetF r k
def rputF : List AOp → AOp → List AOp → Bool → List AOp
  | [], o, out, done => bif !done then out ++ [o] else out
  | x :: r, o, out, done =>
    bif (bif !done then !(ltS x.key o.key) else false) then
      (bif !(eqS x.key o.key) then rputF r o (out ++ [o] ++ [x]) true else rputF r o (out ++ [o]) true)
    else (bif !(eqS x.key o.key) then rputF r o (out ++ [x]) done else rputF r o out done)
def rput (l : List AOp) (o : AOp) : List AOp := rputF l o [] (!o.has)
def rscanF : List AOp → ByteArray → ByteArray → List AOp → List AOp
  | [], _, _, out => out
  | o :: r, f, g, out => bif (bif !(ltS o.key f) then (bif eqS g ⟨#[]⟩ then true else ltS o.key g) else false) then rscanF r f g (out ++ [o]) else rscanF r f g out
def rcheckE (conds ops : List AOp) : Int :=
  bif (bif (bif decide ((ops.length : Int) < 1) then true else decide ((ops.length : Int) > 6)) then true else decide ((conds.length : Int) > 6)) then 61 else
  bif rightF conds [] != 0 then rightF conds [] else rightF ops []
theorem rcheckE_eq (c o : List AOp) : rcheckE c o = checkE c o := by
  unfold rcheckE checkE
  have : decide ((o.length : Int) < 1) = ((o.length : Int) == 0) := by
    cases o with
    | nil => rfl
    | cons a r => simp only [List.length_cons]; rw [decide_eq_false (by omega)]; symm; simp; omega
  rw [this]
def rcondsF (l : List AOp) : List AOp → Bool
  | [] => true
  | c :: r => bif (bif !((rgetF l c.key).2 == c.has) then true else !(eqS (rgetF l c.key).1 c.val)) then false else rcondsF l r
def rdiff (l : List AOp) (o : AOp) : Bool := bif !((rgetF l o.key).2 == o.has) then true else !(eqS (rgetF l o.key).1 o.val)
def revOf (l : List AOp) (pos : Int) (o : AOp) : AEv := ⟨pos, o.key, (rgetF l o.key).2, (rgetF l o.key).1, o.has, o.val⟩
def rplanF (l : List AOp) (pos : Int) : List AOp → List AEv → List AOp → List AEv × List AOp
  | [], e, b => (e, b)
  | o :: r, e, b => bif rdiff l o then rplanF l pos r (e ++ [revOf l pos o]) (rput b o) else rplanF l pos r e (rput b o)
def rplanM (l : List AOp) (pos : Int) (conds ops : List AOp) : List AEv × Int :=
  bif checkE conds ops != 0 then ([], checkE conds ops) else
  bif rcondsF l conds then (bif decide (((rplanF l pos ops [] l).2.length : Int) > 24) then ([], 7) else ((rplanF l pos ops [] l).1, 0)) else ([], 60)
def rtakeF : List AOp → List AEv → List AOp
  | l, [] => l
  | l, e :: r => rtakeF (rput l ⟨e.key, e.has, e.now⟩) r
def rsetF : List AOp → List AOp → Option (List AOp)
  | l, [] => some l
  | l, o :: r => bif !o.has then none else rsetF (rput l o) r
def rsetM (l : List AOp) (ops : List AOp) : List AOp × Int :=
  bif decide ((ops.length : Int) > 24) then (l, 7) else bif rightF ops [] != 0 then (l, rightF ops []) else
  match rsetF [] ops with
  | some l' => (l', 0)
  | none => (l, 61)
theorem rputF_len : ∀ (l : List AOp) (o : AOp) (out : List AOp) (done : Bool), (rputF l o out done).length ≤ out.length + l.length + (bif done then 0 else 1)
  | [], o, out, done => by cases done <;> simp [rputF]
  | x :: r, o, out, done => by
    simp only [rputF]
    have h1 := rputF_len r o (out ++ [o] ++ [x]) true
    have h2 := rputF_len r o (out ++ [o]) true
    have h3 := rputF_len r o (out ++ [x]) done
    have h4 := rputF_len r o out done
    simp only [List.length_append, List.length_cons, List.length_nil] at h1 h2 h3 h4
    generalize (!(ltS x.key o.key)) = b
    generalize (!(eqS x.key o.key)) = c
    cases done <;> cases b <;> cases c <;> simp only [cond_true, cond_false, Bool.not_true, Bool.not_false, List.length_append, List.length_cons, List.length_nil] at * <;> omega
theorem rput_len (l : List AOp) (o : AOp) : (rput l o).length ≤ l.length + 1 := by
  have h := rputF_len l o [] (!o.has)
  have h1 : (bif !o.has then 0 else 1) ≤ 1 := by cases o.has <;> decide
  simp only [List.length_nil] at h
  unfold rput
  omega
theorem rtakeF_len : ∀ (e : List AEv) (l : List AOp), (rtakeF l e).length ≤ l.length + e.length
  | [], l => by simp [rtakeF]
  | x :: r, l => by
    have h1 := rtakeF_len r (rput l ⟨x.key, x.has, x.now⟩)
    have h2 := rput_len l ⟨x.key, x.has, x.now⟩
    simp only [rtakeF, List.length_cons]; omega
theorem rplanF_len (l : List AOp) (p : Int) : ∀ (o : List AOp) (e : List AEv) (b : List AOp), (rplanF l p o e b).1.length ≤ e.length + o.length ∧ (rplanF l p o e b).2.length ≤ b.length + o.length
  | [], e, b => by simp [rplanF]
  | o :: r, e, b => by
    have h0 := rput_len b o
    simp only [rplanF, List.length_cons]
    cases rdiff l o with
    | true =>
      have h1 := rplanF_len l p r (e ++ [revOf l p o]) (rput b o)
      simp only [List.length_append, List.length_cons, List.length_nil, cond_true] at h1 ⊢
      omega
    | false =>
      have h1 := rplanF_len l p r e (rput b o)
      simp only [cond_false]
      omega
theorem rplanM_len (l : List AOp) (p : Int) (c o : List AOp) : (rplanM l p c o).1.length ≤ 6 := by
  unfold rplanM
  cases h : (checkE c o != 0) with
  | true => simp
  | false =>
    have := checkE_len h
    have h2 := (rplanF_len l p o [] l).1
    simp only [List.length_nil] at h2
    cases rcondsF l c with
    | false => simp
    | true =>
      simp only [cond_true, cond_false]
      cases decide (((rplanF l p o [] l).2.length : Int) > 24) with
      | true => simp
      | false => simp only [cond_false]; omega
/-- Of texts that are not beyond what is gone through here. -/
def AOp.small (o : AOp) : Prop := o.key.size ≤ 1000000 ∧ o.val.size ≤ 1000000
theorem weighF_ge : ∀ (l : List AOp) (n : Int), n ≤ weighF l n
  | [], n => Int.le_refl n
  | o :: r, n => by
    simp only [weighF]
    cases decide (n ≤ 32768) with
    | false => exact Int.le_refl n
    | true =>
      have := weighF_ge r (n + ((1 + min (o.key.size : Int) 32768) + min (o.val.size : Int) 32768))
      simp only [cond_true]; omega
theorem weighF_small : ∀ (l : List AOp) (n : Int), 0 ≤ n → weighF l n ≤ 32768 → ∀ x ∈ l, x.small
  | [], _, _, _, x, hx => by cases hx
  | o :: r, n, h0, h, x, hx => by
    simp only [weighF] at h
    have hg := weighF_ge (o :: r) n
    simp only [weighF] at hg
    cases c : decide (n ≤ 32768) with
    | false => rw [c] at h; have := of_decide_eq_false c; simp only [cond_false] at h; omega
    | true =>
      rw [c] at h
      simp only [cond_true] at h
      have h1 := weighF_ge r (n + ((1 + min (o.key.size : Int) 32768) + min (o.val.size : Int) 32768))
      rcases List.mem_cons.1 hx with rfl | hx
      · exact ⟨by omega, by omega⟩
      · exact weighF_small r _ (by omega) h x hx
theorem weighM_small {l : List AOp} (h : weighM l ≤ 32768) : ∀ x ∈ l, x.small := weighF_small l 0 (Int.le_refl 0) h
def ADo.small (d : ADo) : Prop := (∀ x ∈ d.conds, x.small) ∧ (∀ x ∈ d.ops, x.small)
theorem shortF_ge : ∀ (l : List ADo) (i n : Int), n ≤ shortF l i n
  | [], i, n => Int.le_refl n
  | d :: r, i, n => by
    simp only [shortF]
    have h1 := (weighM_le d.conds).1
    have h2 := (weighM_le d.ops).1
    have := shortF_ge r (i + 1) (n + (((((weighM d.conds + weighM d.ops) + min (d.fr.size : Int) 32768) + min (d.to.size : Int) 32768) + min (d.p2.size : Int) 32768) + min (d.p6.size : Int) 32768))
    cases decide (i ≤ 100) <;> cases decide (n ≤ 32768) <;> simp only [cond_true, cond_false] <;> omega
theorem shortF_small : ∀ (l : List ADo) (i n : Int), 0 ≤ n → i + l.length ≤ 101 → shortF l i n ≤ 32768 → ∀ d ∈ l, d.small
  | [], _, _, _, _, _, d, hd => by cases hd
  | d0 :: r, i, n, h0, hi, h, d, hd => by
    have hg := shortF_ge (d0 :: r) i n
    simp only [List.length_cons] at hi
    simp only [shortF] at h hg
    rw [decide_eq_true (by omega : i ≤ 100)] at h hg
    simp only [cond_true] at h hg
    have h1 := (weighM_le d0.conds).1
    have h2 := (weighM_le d0.ops).1
    cases c : decide (n ≤ 32768) with
    | false => rw [c] at h; have := of_decide_eq_false c; simp only [cond_false] at h; omega
    | true =>
      rw [c] at h
      simp only [cond_true] at h
      have h3 := shortF_ge r (i + 1) (n + (((((weighM d0.conds + weighM d0.ops) + min (d0.fr.size : Int) 32768) + min (d0.to.size : Int) 32768) + min (d0.p2.size : Int) 32768) + min (d0.p6.size : Int) 32768))
      rcases List.mem_cons.1 hd with rfl | hd
      · exact ⟨weighM_small (by omega), weighM_small (by omega)⟩
      · exact shortF_small r _ _ (by omega) (by omega) h d hd
theorem shortM_small {l : List ADo} (h : shortM l = true) : ∀ d ∈ l, d.small := by
  have hl := shortM_len h
  unfold shortM at h
  rw [decide_eq_true (by omega)] at h
  exact shortF_small l 0 0 (Int.le_refl 0) (by omega) (of_decide_eq_true h)
theorem weighM_count : ∀ (l : List AOp) (n : Int), 0 ≤ n → weighF l n ≤ 32768 → n + l.length ≤ weighF l n
  | [], n, _, _ => by simp [weighF]
  | o :: r, n, h0, h => by
    have hg := weighF_ge (o :: r) n
    simp only [weighF] at h hg ⊢
    have hn : n ≤ 32768 := by omega
    rw [decide_eq_true hn] at h ⊢
    simp only [cond_true] at h ⊢
    have := weighM_count r _ (by omega) h
    simp only [List.length_cons]
    omega
theorem weighM_len {l : List AOp} (h : weighM l ≤ 32768) : l.length ≤ 32768 := by
  have := weighM_count l 0 (Int.le_refl 0) h
  unfold weighM at h
  omega
def ADo.few (d : ADo) : Prop := d.conds.length ≤ 32768 ∧ d.ops.length ≤ 32768
theorem shortF_few : ∀ (l : List ADo) (i n : Int), 0 ≤ n → i + l.length ≤ 101 → shortF l i n ≤ 32768 → ∀ d ∈ l, d.few
  | [], _, _, _, _, _, d, hd => by cases hd
  | d0 :: r, i, n, h0, hi, h, d, hd => by
    have hg := shortF_ge (d0 :: r) i n
    simp only [List.length_cons] at hi
    simp only [shortF] at h hg
    rw [decide_eq_true (by omega : i ≤ 100)] at h hg
    simp only [cond_true] at h hg
    have h1 := (weighM_le d0.conds).1
    have h2 := (weighM_le d0.ops).1
    cases c : decide (n ≤ 32768) with
    | false => rw [c] at h; have := of_decide_eq_false c; simp only [cond_false] at h; omega
    | true =>
      rw [c] at h
      simp only [cond_true] at h
      have h3 := shortF_ge r (i + 1) (n + (((((weighM d0.conds + weighM d0.ops) + min (d0.fr.size : Int) 32768) + min (d0.to.size : Int) 32768) + min (d0.p2.size : Int) 32768) + min (d0.p6.size : Int) 32768))
      rcases List.mem_cons.1 hd with rfl | hd
      · exact ⟨weighM_len (by omega), weighM_len (by omega)⟩
      · exact shortF_few r _ _ (by omega) (by omega) h d hd
theorem shortM_few {l : List ADo} (h : shortM l = true) : ∀ d ∈ l, d.few := by
  have hl := shortM_len h
  unfold shortM at h
  rw [decide_eq_true (by omega)] at h
  exact shortF_few l 0 0 (Int.le_refl 0) (by omega) (of_decide_eq_true h)
end Go.Proofs.Ytjbiaoajmdbigaa
