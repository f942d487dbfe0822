/- Numbers, texts, flags as bytes; read again. -/
import Derived.Test.YtjbiaoajmdbigaaRf
import Derived.Test.YtjbiaoajmdbigaaEB
set_option linter.unusedVariables false
set_option linter.unusedSimpArgs false
namespace Go.Proofs.Ytjbiaoajmdbigaa
open Go Go.E

/-- A number's bytes, the highest one first. -/
def be (n : Nat) : List Int := if h : n = 0 then [] else be (n / 256) ++ [((n % 256 : Nat) : Int)]
termination_by n
decreasing_by omega
theorem be_zero : be 0 = [] := by rw [be]; simp
theorem be_pos {n : Nat} (h : n ≠ 0) : be n = be (n / 256) ++ [((n % 256 : Nat) : Int)] := by rw [be, dif_neg h]
theorem be_len_lt (n k : Nat) : n < 256 ^ k → (be n).length ≤ k := by
  induction k generalizing n with
  | zero => intro h; have : n = 0 := by simpa using h
            subst this; simp [be_zero]
  | succ k ih =>
    intro h
    by_cases h0 : n = 0
    · subst h0; simp [be_zero]
    · rw [be_pos h0, List.length_append, List.length_cons, List.length_nil]
      have := ih (n / 256) (by rw [Nat.div_lt_iff_lt_mul (by omega), ← Nat.pow_succ]; exact h)
      omega
theorem be_len_gt (n k : Nat) : k < (be n).length ↔ 0 < n / 256 ^ k := by
  induction k generalizing n with
  | zero =>
    by_cases h0 : n = 0
    · subst h0; simp [be_zero]
    · rw [be_pos h0]; simp; omega
  | succ k ih =>
    by_cases h0 : n = 0
    · subst h0; simp [be_zero]
    · rw [be_pos h0, List.length_append, List.length_cons, List.length_nil]
      have := ih (n / 256)
      rw [Nat.div_div_eq_div_mul, ← Nat.pow_succ'] at this
      have h2 : k < (be (n / 256)).length ↔ 0 < n / 256 ^ (k + 1) := this
      omega
theorem be_range (n : Nat) : ∀ x ∈ be n, 0 ≤ x ∧ x ≤ 255 := by
  induction n using Nat.strongRecOn with
  | _ n ih =>
    by_cases h0 : n = 0
    · subst h0; simp [be_zero]
    · rw [be_pos h0]
      intro x hx
      rcases List.mem_append.1 hx with hx | hx
      · exact ih (n / 256) (by omega) x hx
      · rw [List.mem_singleton] at hx; omega
/-- The byte of weight i. -/
theorem be_get (n i : Nat) (h : i < (be n).length) : (be n)[(be n).length - 1 - i]? = some (((n / 256 ^ i) % 256 : Nat) : Int) := by
  induction i generalizing n with
  | zero =>
    have h0 : n ≠ 0 := fun e => by subst e; simp [be_zero] at h
    rw [be_pos h0]
    simp
  | succ i ih =>
    have h0 : n ≠ 0 := fun e => by subst e; simp [be_zero] at h
    rw [be_pos h0] at h ⊢
    simp only [List.length_append, List.length_cons, List.length_nil] at h ⊢
    have := ih (n / 256) (by omega)
    rw [Nat.div_div_eq_div_mul, ← Nat.pow_succ'] at this
    rw [List.getElem?_append_left (by omega), ← this]
    congr 1
    omega
theorem be_drop (n i : Nat) (h : i < (be n).length) : (be n).drop ((be n).length - 1 - i) = (((n / 256 ^ i) % 256 : Nat) : Int) :: (be n).drop ((be n).length - i) := by
  have hg := be_get n i h
  obtain ⟨hl, e⟩ := List.getElem?_eq_some_iff.1 hg
  rw [List.drop_eq_getElem_cons hl, e]
  congr 2
  omega
theorem be_head {n : Nat} (h : n ≠ 0) : ∃ x r, be n = x :: r ∧ x ≠ 0 := by
  induction n using Nat.strongRecOn with
  | _ n ih =>
    rw [be_pos h]
    by_cases h1 : n / 256 = 0
    · rw [h1, be_zero]
      exact ⟨_, [], rfl, by omega⟩
    · obtain ⟨x, r, e, hx⟩ := ih (n / 256) (by omega) h1
      exact ⟨x, r ++ _, by rw [e]; rfl, hx⟩
def fold256 (l : List Int) (n : Int) : Int := l.foldl (fun n x => 256 * n + x) n
theorem fold_be (n : Nat) : fold256 (be n) 0 = n := by
  induction n using Nat.strongRecOn with
  | _ n ih =>
    by_cases h0 : n = 0
    · subst h0; simp [be_zero, fold256]
    · rw [be_pos h0]
      have := ih (n / 256) (by omega)
      unfold fold256 at this ⊢
      rw [List.foldl_append, this]
      simp only [List.foldl_cons, List.foldl_nil]
      omega
def natI (n : Int) : Nat := n.toNat
def numB (n : Int) : List Int := ((be n.toNat).length : Int) :: be n.toNat
def textB (s : ByteArray) : List Int := numB s.size ++ strB s
def flagB (b : Bool) : List Int := numB (bif b then 1 else 0)
def opB (o : AOp) : List Int := textB o.key ++ flagB o.has ++ textB o.val
def putF : List AOp → List Int → List Int
  | [], b => b
  | o :: r, b => putF r (b ++ textB o.key ++ flagB o.has ++ textB o.val)
def putB (b : List Int) (l : List AOp) : List Int := putF l (b ++ numB l.length)
theorem putF_eq : ∀ (l : List AOp) (b : List Int), putF l b = b ++ l.flatMap opB
  | [], b => by simp [putF]
  | o :: r, b => by simp [putF, putF_eq r, opB]
theorem putB_eq (b : List Int) (l : List AOp) : putB b l = b ++ (numB l.length ++ l.flatMap opB) := by unfold putB; rw [putF_eq]; simp
theorem numB_len (n : Int) (h : n ≤ 9223372036854775807) : (numB n).length ≤ 9 := by
  have := be_len_lt n.toNat 8 (by omega)
  simp only [numB, List.length_cons]; omega
/-- What stands in the higher bytes. -/
def hiB (n : Int) (k : Nat) : Int := ((n.toNat / 256 ^ k : Nat) : Int)
theorem hiB_eq {n : Int} {k : Nat} (h0 : 0 ≤ n) (hk : k ≤ 8) (b : Int) (hb : b = 8 * (k : Int)) : n.fdiv (2 ^ (min b.toNat 64)) = hiB n k := by
  obtain ⟨m, rfl⟩ := Int.eq_ofNat_of_zero_le h0
  subst hb
  have e1 : min (8 * (k : Int)).toNat 64 = 8 * k := by omega
  rw [e1, Int.pow_mul]
  have e2 : ((2 : Int) ^ 8) = ((256 : Nat) : Int) := by decide
  rw [e2, ← Int.natCast_pow, Int.fdiv_eq_ediv_of_nonneg _ (Int.natCast_nonneg _)]
  simp [hiB]
theorem hiB_pos (n : Int) (k : Nat) : hiB n k > 0 ↔ k < (be n.toNat).length := by
  rw [be_len_gt]
  unfold hiB
  omega
theorem hiB_byte (n : Int) (k : Nat) : IntKind.wrap .u8 (hiB n k) = (((n.toNat / 256 ^ k) % 256 : Nat) : Int) := by
  rw [IntKind.wrap_u8]; unfold hiB; omega
theorem wrap_u8 {n : Int} (h : 0 ≤ n ∧ n ≤ 255) : IntKind.wrap .u8 n = n := by rw [IntKind.wrap_u8]; omega

theorem num_len (n : Int) {k : Nat} (hn : n ≤ 9223372036854775807) (hk : k ≤ (be (max n 0).toNat).length) (h : ¬ (k : Int) < 8 ∨ ¬ hiB (max n 0) k > 0) : k = (be n.toNat).length ∧ (be n.toNat).length ≤ 8 := by
  have e : (max n 0).toNat = n.toNat := by omega
  have h8 := be_len_lt n.toNat 8 (by omega)
  have hp := hiB_pos (max n 0) k
  rw [e] at hk hp
  omega
theorem num_step {n : Int} {o W : List Int} {z : Int} (hz : 0 ≤ z) (hl : z.toNat < (be n.toNat).length) (h : o ++ (be n.toNat).drop ((be n.toNat).length - (z + 1).toNat) = W) :
    (o ++ [IntKind.wrap .u8 (hiB n z.toNat)]) ++ (be n.toNat).drop ((be n.toNat).length - (z - 1 + 1).toNat) = W := by
  have := be_drop n.toNat z.toNat hl
  rw [show (be n.toNat).length - (z + 1).toNat = (be n.toNat).length - 1 - z.toNat by omega, this] at h
  rw [← h, hiB_byte, show (z - 1 + 1).toNat = z.toNat by omega]
  simp
theorem num_end {n : Int} {o b : List Int} {z : Int} {k : Nat} (hk : k = (be n.toNat).length ∧ (be n.toNat).length ≤ 8) (hz : z = -1) (h : o ++ (be (max n 0).toNat).drop ((be (max n 0).toNat).length - (z + 1).toNat) = (b ++ [IntKind.wrap .u8 (k : Int)]) ++ be (max n 0).toNat) : o = b ++ numB n := by
  have e : (max n 0).toNat = n.toNat := by omega
  rw [e] at h
  subst hz
  simp only [Int.reduceNeg, Int.reduceAdd, Int.toNat_zero, Nat.sub_zero, List.drop_length, List.append_nil] at h
  rw [h, wrap_u8 (by omega), hk.1, numB]
  simp
theorem be_step {v : Int} (h : v > 0) (hm : v ≤ 9223372036854775807) : be v.toNat = be (IntKind.wrap .i64 (Int.tdiv v 256)).toNat ++ [IntKind.wrap .u8 (Int.tmod v 256)] := by
  obtain ⟨m, rfl⟩ := Int.eq_ofNat_of_zero_le (show 0 ≤ v by omega)
  have e1 : Int.tdiv (m : Int) 256 = ((m / 256 : Nat) : Int) := rfl
  have e2 : Int.tmod (m : Int) 256 = ((m % 256 : Nat) : Int) := rfl
  rw [e1, e2, wrap_i64 (by omega), wrap_u8 (by omega), Int.toNat_natCast, Int.toNat_natCast, be_pos (by omega)]
theorem quo_le {v : Int} (h : v > 0) (hm : v ≤ 9223372036854775807) : 0 ≤ IntKind.wrap .i64 (Int.tdiv v 256) ∧ IntKind.wrap .i64 (Int.tdiv v 256) < v := by
  obtain ⟨m, rfl⟩ := Int.eq_ofNat_of_zero_le (show 0 ≤ v by omega)
  have e1 : Int.tdiv (m : Int) 256 = ((m / 256 : Nat) : Int) := rfl
  rw [e1, wrap_i64 (by omega)]
  omega
theorem numq_end {n : Int} {l b : List Int} {v : Int} (hn : n ≤ 9223372036854775807) (hv : ¬ v > 0) (h0 : 0 ≤ v) (h : be v.toNat ++ l = be (max n 0).toNat) : b ++ [IntKind.wrap .u8 (l.length : Int)] ++ l = b ++ numB n := by
  have e : (max n 0).toNat = n.toNat := by omega
  have hv0 : v = 0 := by omega
  subst hv0
  rw [Int.toNat_zero, be_zero, List.nil_append, e] at h
  have h8 := be_len_lt n.toNat 8 (by omega)
  rw [h, wrap_u8 (by omega), numB]
  simp
/-! ### Reading -/
/-- The number with which bytes begin: it, how many bytes it has, why there is none. -/
def numM : List Int → Int × Nat × Int
  | [] => (0, 0, 2)
  | k :: r => if k > 8 then (0, 0, 11) else if r.length < k.toNat then (0, 0, 2) else if 0 < k ∧ r.head? = some 0 then (0, 0, 11) else if k = 8 ∧ 127 < r.headD 0 then (0, 0, 5) else (fold256 (r.take k.toNat) 0, k.toNat + 1, 0)
/-- A reader: bytes, a place, the first error. -/
structure RS where
  b : List Int
  at_ : Nat
  e : Int
def rdN (s : RS) : Int × RS := bif s.e == 0 then (bif (numM (s.b.drop s.at_)).2.2 == 0 then ((numM (s.b.drop s.at_)).1, { s with at_ := s.at_ + (numM (s.b.drop s.at_)).2.1 }) else (0, { s with e := (numM (s.b.drop s.at_)).2.2 })) else (0, s)
def rdW (s : RS) (lo hi : Int) : Int × RS := bif (rdN s).2.e == 0 then (bif (bif decide ((rdN s).1 < lo) then true else decide ((rdN s).1 > hi)) then (0, { s with e := 5 }) else rdN s) else (0, (rdN s).2)
def rdT (s : RS) (most : Int) : ByteArray × RS :=
  bif (rdN s).2.e == 0 then (bif decide ((rdN s).1 > max most 0) then (⟨#[]⟩, { s with e := 4 }) else
    bif decide ((rdN s).1 > ((List.length (rdN s).2.b : Int) - ((rdN s).2.at_ : Int))) then (⟨#[]⟩, { s with e := 2 }) else
    (bstr (List.drop (rdN s).2.at_ (List.take ((rdN s).2.at_ + Int.toNat (rdN s).1) (rdN s).2.b)), { (rdN s).2 with at_ := (rdN s).2.at_ + Int.toNat (rdN s).1 })) else (⟨#[]⟩, (rdN s).2)
def rdF (s : RS) : Bool × RS := bif (rdN s).2.e == 0 then (bif decide ((rdN s).1 > 1) then (false, { s with e := 11 }) else ((rdN s).1 == 1, (rdN s).2)) else (false, (rdN s).2)
def rdO (s : RS) : AOp × RS := (⟨(rdT s 96).1, (rdF (rdT s 96).2).1, (rdT (rdF (rdT s 96).2).2 192).1⟩, (rdT (rdF (rdT s 96).2).2 192).2)
def getF : Nat → RS → List AOp → List AOp × RS
  | 0, s, l => (l, s)
  | n + 1, s, l => bif s.e == 0 then getF n (rdO s).2 (l ++ [(rdO s).1]) else (l, s)
def getM (s : RS) (most : Int) : List AOp × RS := getF (rdW s 0 most).1.toNat (rdW s 0 most).2 []
def fresh (b : List Int) : RS := ⟨b, 0, 0⟩
/-- A reader that may be gone on with. -/
structure RS.ok (s : RS) : Prop where
  le : s.at_ ≤ s.b.length
  few : s.b.length ≤ 1000000
  rng : ∀ x ∈ s.b, 0 ≤ x ∧ x ≤ 255
theorem numM_two {l : List Int} {k : Int} {r : List Int} (h : l = k :: r) : numM l = if k > 8 then (0, 0, 11) else if r.length < k.toNat then (0, 0, 2) else if 0 < k ∧ r.head? = some 0 then (0, 0, 11) else if k = 8 ∧ 127 < r.headD 0 then (0, 0, 5) else (fold256 (r.take k.toNat) 0, k.toNat + 1, 0) := by rw [h]; rfl
theorem fold256_bound : ∀ (l : List Int) (n : Int), 0 ≤ n → (∀ x ∈ l, 0 ≤ x ∧ x ≤ 255) → 0 ≤ fold256 l n ∧ fold256 l n < (n + 1) * 256 ^ l.length
  | [], n, h0, _ => by simp [fold256]; omega
  | x :: r, n, h0, h => by
    have hx := h x List.mem_cons_self
    have ih := fold256_bound r (256 * n + x) (by omega) fun y hy => h y (List.mem_cons_of_mem _ hy)
    refine ⟨ih.1, Int.lt_of_lt_of_le ih.2 ?_⟩
    rw [List.length_cons, Int.pow_succ]
    have h1 : 0 ≤ (256 : Int) ^ r.length := Int.pow_nonneg (by decide)
    have h2 : (256 * n + x + 1) * 256 ^ r.length ≤ ((n + 1) * 256) * 256 ^ r.length := Int.mul_le_mul_of_nonneg_right (by omega) h1
    calc (256 * n + x + 1) * 256 ^ r.length ≤ ((n + 1) * 256) * 256 ^ r.length := h2
      _ = (n + 1) * (256 ^ r.length * 256) := by rw [Int.mul_assoc, Int.mul_comm 256]
theorem fold256_snoc (l : List Int) (x n : Int) : fold256 (l ++ [x]) n = 256 * fold256 l n + x := by simp [fold256]
theorem numM_spec {l : List Int} (hr : ∀ x ∈ l, 0 ≤ x ∧ x ≤ 255) : 0 ≤ (numM l).1 ∧ (numM l).1 ≤ 9223372036854775807 ∧ (numM l).2.1 ≤ l.length ∧ ((numM l).2.2 = 0 → 1 ≤ (numM l).2.1) ∧ ((numM l).2.2 ≠ 0 → (numM l).1 = 0 ∧ (numM l).2.1 = 0) := by
  cases l with
  | nil => simp [numM]
  | cons k r =>
    have hk := hr k List.mem_cons_self
    have hr' : ∀ x ∈ r, 0 ≤ x ∧ x ≤ 255 := fun x hx => hr x (List.mem_cons_of_mem _ hx)
    rw [numM_two rfl]
    split
    · simp
    · rename_i h1
      split
      · simp
      · rename_i h2
        split
        · simp
        · rename_i h3
          split
          · simp
          · rename_i h4
            have hb := fold256_bound (r.take k.toNat) 0 (Int.le_refl 0) fun x hx => hr' x (List.mem_of_mem_take hx)
            have hlen : (r.take k.toNat).length = k.toNat := by simp; omega
            refine ⟨hb.1, ?_, by simp only [List.length_cons]; omega, fun _ => by simp only; omega, fun h => absurd rfl h⟩
            show fold256 (r.take k.toNat) 0 ≤ _
            by_cases h8 : k = 8
            · cases r with
              | nil => simp at h2; omega
              | cons y q =>
                have hy := hr' y List.mem_cons_self
                simp only [List.headD_cons, not_and, Int.not_lt] at h4
                have h4' := h4 h8
                subst h8
                have e : (y :: q).take (8 : Int).toNat = y :: q.take 7 := rfl
                rw [e]
                have hb2 := fold256_bound (q.take 7) (256 * 0 + y) (by omega) fun x hx => hr' x (List.mem_cons_of_mem _ (List.mem_of_mem_take hx))
                have hl7 : (q.take 7).length ≤ 7 := by simp; omega
                have h3 : fold256 (y :: q.take 7) 0 = fold256 (q.take 7) (256 * 0 + y) := rfl
                rw [h3]
                have h5 : (256 : Int) ^ (q.take 7).length ≤ 256 ^ 7 := by
                  have : (256 : Nat) ^ (q.take 7).length ≤ 256 ^ 7 := Nat.pow_le_pow_right (by decide) hl7
                  have h6 : ((256 ^ (q.take 7).length : Nat) : Int) ≤ ((256 ^ 7 : Nat) : Int) := Int.ofNat_le.2 this
                  simpa using h6
                have h6 : (256 * 0 + y + 1) * (256 : Int) ^ (q.take 7).length ≤ (256 * 0 + y + 1) * 256 ^ 7 := Int.mul_le_mul_of_nonneg_left h5 (by omega)
                have h7 : (256 * 0 + y + 1) * (256 : Int) ^ 7 ≤ 128 * 256 ^ 7 := Int.mul_le_mul_of_nonneg_right (by omega) (by decide)
                have h8 : (128 : Int) * 256 ^ 7 = 9223372036854775808 := by decide
                omega
            · have hb2 := hb.2
              rw [hlen] at hb2
              have h5 : (256 : Int) ^ k.toNat ≤ 256 ^ 7 := by
                have : (256 : Nat) ^ k.toNat ≤ 256 ^ 7 := Nat.pow_le_pow_right (by decide) (by omega)
                have h6 : ((256 ^ k.toNat : Nat) : Int) ≤ ((256 ^ 7 : Nat) : Int) := Int.ofNat_le.2 this
                simpa using h6
              have h6 : ((0 : Int) + 1) * 256 ^ k.toNat = 256 ^ k.toNat := by rw [Int.zero_add, Int.one_mul]
              have h7 : (256 : Int) ^ 7 = 72057594037927936 := by decide
              omega
theorem pow7 {k : Nat} (h : k ≤ 7) : (256 : Int) ^ k ≤ 72057594037927936 := by
  have : (256 : Nat) ^ k ≤ 256 ^ 7 := Nat.pow_le_pow_right (by decide) h
  have h6 : ((256 ^ k : Nat) : Int) ≤ ((256 ^ 7 : Nat) : Int) := Int.ofNat_le.2 this
  have h7 : ((256 ^ 7 : Nat) : Int) = 72057594037927936 := by decide
  rw [h7] at h6
  simpa using h6
theorem fold256_cons (x : Int) (r : List Int) (n : Int) : fold256 (x :: r) n = fold256 r (256 * n + x) := rfl
theorem fold256_nil (n : Int) : fold256 [] n = n := rfl

section
variable {b : List Int} {p : Nat} {e : Int}
theorem rdN_err (h : (e == 0) = false) : rdN ⟨b, p, e⟩ = (0, ⟨b, p, e⟩) := by simp only [rdN, h, cond_false]
theorem rdN_of (h0 : (e == 0) = true) : rdN ⟨b, p, e⟩ = bif (numM (b.drop p)).2.2 == 0 then ((numM (b.drop p)).1, ⟨b, p + (numM (b.drop p)).2.1, e⟩) else (0, ⟨b, p, (numM (b.drop p)).2.2⟩) := by simp only [rdN, h0, cond_true]
theorem drop_at {x : Int} (hx : b[p]? = some x) : b.drop p = x :: b.drop (p + 1) := by
  obtain ⟨h, rfl⟩ := List.getElem?_eq_some_iff.1 hx
  exact List.drop_eq_getElem_cons h
theorem rdN_none (h0 : (e == 0) = true) (h : decide ((1 : Int) > (b.length : Int) - (p : Int)) = true) : rdN ⟨b, p, e⟩ = (0, ⟨b, p, 2⟩) := by
  have := of_decide_eq_true h
  rw [rdN_of h0, List.drop_eq_nil_of_le (by omega)]
  simp [numM]
theorem rdN_form {x : Int} (h0 : (e == 0) = true) (hx : b[p]? = some x) (h : decide (x > 8) = true) : rdN ⟨b, p, e⟩ = (0, ⟨b, p, 11⟩) := by
  rw [rdN_of h0, numM_two (drop_at hx), if_pos (of_decide_eq_true h)]
  simp
theorem rdN_few {x : Int} (h0 : (e == 0) = true) (hx : b[p]? = some x) (hr : 0 ≤ x ∧ x ≤ 255) (h8 : decide (x > 8) = false) (h : decide (x > (b.length : Int) - ((p + 1 : Nat) : Int)) = true) : rdN ⟨b, p, e⟩ = (0, ⟨b, p, 2⟩) := by
  have h1 := of_decide_eq_false h8
  have h2 := of_decide_eq_true h
  have hp : p < b.length := (List.getElem?_eq_some_iff.1 hx).1
  have hN : numM (b.drop p) = (0, 0, 2) := by rw [numM_two (drop_at hx), if_neg h1, if_pos (by simp only [List.length_drop]; omega)]
  rw [rdN_of h0, hN]
  simp
theorem mid_eq (q n : Nat) : (b.take (q + n)).drop q = (b.drop q).take n := by rw [List.drop_take]; congr 1; omega
theorem mid_len {q n : Nat} (h : q + n ≤ b.length) : ((b.take (q + n)).drop q).length = n := by simp; omega
theorem rdN_zero {x y : Int} (h0 : (e == 0) = true) (hx : b[p]? = some x) (hr : 0 ≤ x ∧ x ≤ 255) (h8 : decide (x > 8) = false) (h : decide (x > (b.length : Int) - ((p + 1 : Nat) : Int)) = false) (hy : ((b.take (p + 1 + x.toNat)).drop (p + 1))[0]? = some y) (h3 : (y == 0) = true) :
    rdN ⟨b, p, e⟩ = (0, ⟨b, p, 11⟩) := by
  have h1 := of_decide_eq_false h8
  have h2 := of_decide_eq_false h
  have hp : p < b.length := (List.getElem?_eq_some_iff.1 hx).1
  have hy0 : y = 0 := by simpa using h3
  subst hy0
  rw [mid_eq] at hy
  have hn : 0 < x.toNat := by
    have := (List.getElem?_eq_some_iff.1 hy).1
    simp at this; omega
  rw [List.getElem?_take_of_lt hn, List.getElem?_drop] at hy
  have hN : numM (b.drop p) = (0, 0, 11) := by rw [numM_two (drop_at hx), if_neg h1, if_neg (by simp only [List.length_drop]; omega), if_pos ⟨by omega, by simpa [List.head?_drop] using hy⟩]
  rw [rdN_of h0, hN]
  simp
/-- The first of at least one, not nothing: then what is said of all. -/
theorem numM_rest {x : Int} {r : List Int} (hr : 0 ≤ x ∧ x ≤ 8) (hf : x.toNat ≤ r.length) (hz : 0 < x → ∀ y, r.head? = some y → y ≠ 0) (hrng : ∀ y ∈ r, 0 ≤ y ∧ y ≤ 255) :
    numM (x :: r) = if fold256 (r.take x.toNat) 0 > 9223372036854775807 then (0, 0, 5) else (fold256 (r.take x.toNat) 0, x.toNat + 1, 0) := by
  rw [numM_two rfl, if_neg (by omega), if_neg (by omega), if_neg (fun h => hz h.1 0 h.2 rfl)]
  by_cases h8 : x = 8
  · subst h8
    cases r with
    | nil => simp at hf
    | cons y q =>
      have hy := hrng y List.mem_cons_self
      have hl7 : (q.take 7).length = 7 := by simp at hf ⊢; omega
      have e : (y :: q).take (8 : Int).toNat = y :: q.take 7 := rfl
      rw [e, fold256_cons]
      have hrng' : ∀ z ∈ q.take 7, 0 ≤ z ∧ z ≤ 255 := fun z hz => hrng z (List.mem_cons_of_mem _ (List.mem_of_mem_take hz))
      have hlin : ∀ (l : List Int) (n : Int), fold256 l n = n * 256 ^ l.length + fold256 l 0 := by
        intro l
        induction l with
        | nil => intro n; simp [fold256]
        | cons z l ih =>
          intro n
          rw [fold256_cons, fold256_cons, ih, ih (256 * 0 + z), List.length_cons, Int.pow_succ]
          have : (256 * n + z) * 256 ^ l.length = n * (256 ^ l.length * 256) + z * 256 ^ l.length := by rw [Int.add_mul, ← Int.mul_assoc, Int.mul_comm 256 n, Int.mul_assoc, Int.mul_comm 256 (256 ^ l.length), Int.mul_assoc]
          simp only [Int.mul_zero, Int.zero_add]
          omega
      have hb := fold256_bound (q.take 7) 0 (Int.le_refl 0) hrng'
      rw [hlin, hl7]
      rw [hl7] at hb
      have h7 : (256 : Int) ^ 7 = 72057594037927936 := by decide
      rw [h7] at hb ⊢
      simp only [List.headD_cons, true_and, Int.mul_zero, Int.zero_add]
      by_cases c : 127 < y
      · rw [if_pos c, if_pos (by omega)]
      · rw [if_neg c, if_neg (by omega)]
  · rw [if_neg (fun h => h8 h.1)]
    have hb := fold256_bound (r.take x.toNat) 0 (Int.le_refl 0) fun z hz => hrng z (List.mem_of_mem_take hz)
    have hlen : (r.take x.toNat).length = x.toNat := by simp; omega
    rw [hlen] at hb
    have := pow7 (k := x.toNat) (by omega)
    have hb2 := hb.2
    have h6 : ((0 : Int) + 1) * 256 ^ x.toNat = 256 ^ x.toNat := by rw [Int.zero_add, Int.one_mul]
    rw [if_neg (by omega)]
theorem rdN_rest {x : Int} (h0 : (e == 0) = true) (hrng : ∀ y ∈ b, 0 ≤ y ∧ y ≤ 255) (hx : b[p]? = some x) (h8 : decide (x > 8) = false) (h : decide (x > (b.length : Int) - ((p + 1 : Nat) : Int)) = false)
    (hz : 0 < x → ∀ y, ((b.take (p + 1 + x.toNat)).drop (p + 1))[0]? = some y → y ≠ 0) :
    rdN ⟨b, p, e⟩ = if fold256 ((b.take (p + 1 + x.toNat)).drop (p + 1)) 0 > 9223372036854775807 then (0, ⟨b, p, 5⟩) else (fold256 ((b.take (p + 1 + x.toNat)).drop (p + 1)) 0, ⟨b, p + 1 + x.toNat, e⟩) := by
  have h1 := of_decide_eq_false h8
  have h2 := of_decide_eq_false h
  have hr := hrng x (List.mem_of_getElem? hx)
  have hp : p < b.length := (List.getElem?_eq_some_iff.1 hx).1
  rw [rdN_of h0, drop_at hx, numM_rest ⟨hr.1, by omega⟩ (by simp only [List.length_drop]; omega) (fun hx0 y hy => hz hx0 y (by
    rw [mid_eq, List.getElem?_take_of_lt (by omega), List.getElem?_drop]
    simpa [List.head?_drop] using hy)) (fun y hy => hrng y (List.mem_of_mem_drop hy)), ← mid_eq]
  by_cases c : fold256 ((b.take (p + 1 + x.toNat)).drop (p + 1)) 0 > 9223372036854775807
  · rw [if_pos c, if_pos c]; simp
  · rw [if_neg c, if_neg c]; simp; omega
theorem rdN_num {x : Int} (h0 : (e == 0) = true) (hrng : ∀ y ∈ b, 0 ≤ y ∧ y ≤ 255) (hx : b[p]? = some x) (h8 : decide (x > 8) = false) (h : decide (x > (b.length : Int) - ((p + 1 : Nat) : Int)) = false)
    (hz : 0 < x → ∀ y, ((b.take (p + 1 + x.toNat)).drop (p + 1))[0]? = some y → y ≠ 0) {n : Int} (hn : fold256 ((b.take (p + 1 + x.toNat)).drop (p + 1)) 0 = n) (h5 : decide (n > 9223372036854775807) = false) :
    rdN ⟨b, p, e⟩ = (n, ⟨b, p + 1 + x.toNat, e⟩) := by
  rw [rdN_rest h0 hrng hx h8 h hz, hn, if_neg (of_decide_eq_false h5)]
theorem rdN_great {x : Int} (h0 : (e == 0) = true) (hrng : ∀ y ∈ b, 0 ≤ y ∧ y ≤ 255) (hx : b[p]? = some x) (h8 : decide (x > 8) = false) (h : decide (x > (b.length : Int) - ((p + 1 : Nat) : Int)) = false)
    (hz : 0 < x → ∀ y, ((b.take (p + 1 + x.toNat)).drop (p + 1))[0]? = some y → y ≠ 0) {n : Int} (hn : fold256 ((b.take (p + 1 + x.toNat)).drop (p + 1)) 0 = n) (h5 : decide (n > 9223372036854775807) = true) :
    rdN ⟨b, p, e⟩ = (0, ⟨b, p, 5⟩) := by
  rw [rdN_rest h0 hrng hx h8 h hz, hn, if_pos (of_decide_eq_true h5)]
end
theorem rdN_b (s : RS) : (rdN s).2.b = s.b := by
  unfold rdN
  cases (s.e == 0) <;> cases ((numM (s.b.drop s.at_)).2.2 == 0) <;> rfl
theorem rdN_ok {s : RS} (h : s.ok) : (rdN s).2.ok := by
  have hs := numM_spec (l := s.b.drop s.at_) fun x hx => h.rng x (List.mem_of_mem_drop hx)
  have hl := h.le
  refine ⟨?_, by rw [rdN_b]; exact h.few, by rw [rdN_b]; exact h.rng⟩
  rw [rdN_b]
  unfold rdN
  have := hs.2.2.1
  simp only [List.length_drop] at this
  cases (s.e == 0) <;> cases ((numM (s.b.drop s.at_)).2.2 == 0) <;> simp only [cond_true, cond_false] <;> omega
theorem rdN_nonneg {s : RS} (h : s.ok) : 0 ≤ (rdN s).1 ∧ (rdN s).1 ≤ 9223372036854775807 := by
  have hs := numM_spec (l := s.b.drop s.at_) fun x hx => h.rng x (List.mem_of_mem_drop hx)
  unfold rdN
  cases (s.e == 0) <;> cases ((numM (s.b.drop s.at_)).2.2 == 0) <;> simp only [cond_true, cond_false] <;> omega
theorem rdN_zero_of {s : RS} (h : ((rdN s).2.e == 0) = false) : (rdN s).1 = 0 := by
  unfold rdN at h ⊢
  cases c1 : (s.e == 0) with
  | false => rfl
  | true =>
    rw [c1] at h
    cases c2 : ((numM (s.b.drop s.at_)).2.2 == 0) with
    | false => rfl
    | true => rw [c2] at h; simp only [cond_true] at h; rw [c1] at h; cases h
theorem rdN_at_of {s : RS} (h : ((rdN s).2.e == 0) = false) : (rdN s).2.at_ = s.at_ := by
  unfold rdN at h ⊢
  cases c1 : (s.e == 0) with
  | false => rfl
  | true =>
    rw [c1] at h
    cases c2 : ((numM (s.b.drop s.at_)).2.2 == 0) with
    | false => rfl
    | true => rw [c2] at h; simp only [cond_true] at h; rw [c1] at h; cases h
theorem rdN_grow {s : RS} (h : s.ok) (h0 : ((rdN s).2.e == 0) = true) : s.at_ + 1 ≤ (rdN s).2.at_ := by
  have hs := numM_spec (l := s.b.drop s.at_) fun x hx => h.rng x (List.mem_of_mem_drop hx)
  unfold rdN at h0 ⊢
  cases c1 : (s.e == 0) with
  | false => rw [c1] at h0; simp only [cond_false] at h0; rw [c1] at h0; cases h0
  | true =>
    rw [c1] at h0
    cases c2 : ((numM (s.b.drop s.at_)).2.2 == 0) with
    | false => rw [c2] at h0; simp only [cond_true, cond_false] at h0; rw [c2] at h0; cases h0
    | true => have := hs.2.2.2.1 (by simpa using c2); simp only [cond_true]; omega
theorem rdW_ok {s : RS} {lo hi : Int} (h : s.ok) : (rdW s lo hi).2.ok := by
  have hn := rdN_ok h
  unfold rdW
  cases ((rdN s).2.e == 0) with
  | false => exact hn
  | true =>
    generalize (bif decide ((rdN s).1 < lo) then true else decide ((rdN s).1 > hi)) = c
    cases c with
    | true => exact ⟨h.le, h.few, h.rng⟩
    | false => exact hn
theorem rdT_ok {s : RS} {m : Int} (h : s.ok) : (rdT s m).2.ok := by
  have hn := rdN_ok h
  unfold rdT
  cases ((rdN s).2.e == 0) with
  | false => exact hn
  | true =>
    cases decide ((rdN s).1 > max m 0) with
    | true => exact ⟨h.le, h.few, h.rng⟩
    | false =>
      cases c : decide ((rdN s).1 > ((List.length (rdN s).2.b : Int) - ((rdN s).2.at_ : Int))) with
      | true => exact ⟨h.le, h.few, h.rng⟩
      | false =>
        have h1 := of_decide_eq_false c
        have h2 := rdN_nonneg h
        have h3 := hn.le
        exact ⟨by simp only [cond_true, cond_false]; omega, hn.few, hn.rng⟩
theorem rdF_ok {s : RS} (h : s.ok) : (rdF s).2.ok := by
  have hn := rdN_ok h
  unfold rdF
  cases ((rdN s).2.e == 0) with
  | false => exact hn
  | true =>
    cases decide ((rdN s).1 > 1) with
    | true => exact ⟨h.le, h.few, h.rng⟩
    | false => exact hn
theorem rdO_ok {s : RS} (h : s.ok) : (rdO s).2.ok := rdT_ok (rdF_ok (rdT_ok h))
theorem rdN_flow {s : RS} (h : s.ok) : (s.e == 0) = false → (rdN s).2.e = s.e ∧ ((rdN s).2.e == 0) = false := fun h0 => by
  unfold rdN; rw [h0]; exact ⟨rfl, h0⟩
theorem rdN_was {b : List Int} {p : Nat} {e : Int} (h : ((rdN ⟨b, p, e⟩).2.e == 0) = false) : (rdN ⟨b, p, e⟩).2 = ⟨(rdN ⟨b, p, e⟩).2.b, p, (rdN ⟨b, p, e⟩).2.e⟩ := by
  have h1 := rdN_at_of h
  generalize (rdN ⟨b, p, e⟩).2 = X at h1 ⊢
  obtain ⟨x, y, z⟩ := X
  simp only at h1
  rw [h1]
section
variable {l : List Int} {x y : Int}
theorem nm_nil (h : ((l.length : Int) == 0) = true) : numM l = (0, 0, 2) := by
  have : l = [] := List.eq_nil_of_length_eq_zero (by simpa using h)
  rw [this]; rfl
theorem at_zero (hx : l[0]? = some x) : l = x :: l.drop 1 := by simpa using drop_at (b := l) (p := 0) hx
theorem nm_form (hx : l[0]? = some x) (h : decide (x > 8) = true) : numM l = (0, 0, 11) := by
  rw [numM_two (at_zero hx), if_pos (of_decide_eq_true h)]
theorem nm_few (hx : l[0]? = some x) (hr : 0 ≤ x) (h8 : decide (x > 8) = false) (h : decide ((l.length : Int) < x + 1) = true) : numM l = (0, 0, 2) := by
  have h1 := of_decide_eq_true h
  have hp := (List.getElem?_eq_some_iff.1 hx).1
  rw [numM_two (at_zero hx), if_neg (of_decide_eq_false h8), if_pos (by simp only [List.length_drop]; omega)]
theorem head_one (hy : l[1]? = some y) : (l.drop 1).head? = some y := by simpa [List.head?_drop] using hy
theorem nm_zero (hx : l[0]? = some x) (hr : 0 ≤ x) (h8 : decide (x > 8) = false) (h : decide ((l.length : Int) < x + 1) = false) (h0 : decide (x > 0) = true) (hy : l[1]? = some y) (hz : (y == 0) = true) : numM l = (0, 0, 11) := by
  have h1 := of_decide_eq_false h
  have hy0 : y = 0 := by simpa using hz
  subst hy0
  rw [numM_two (at_zero hx), if_neg (of_decide_eq_false h8), if_neg (by simp only [List.length_drop]; omega), if_pos ⟨of_decide_eq_true h0, head_one hy⟩]
theorem nm_great (hx : l[0]? = some x) (h8 : decide (x > 8) = false) (h : decide ((l.length : Int) < x + 1) = false) (hz : (y == 0) = false) (hy : l[1]? = some y) (h9 : (x == 8) = true) (hg : decide (y > 127) = true) : numM l = (0, 0, 5) := by
  have h1 := of_decide_eq_false h
  have h2 := of_decide_eq_true hg
  have e : x = 8 := by simpa using h9
  have hh : 127 < (l.drop 1).headD 0 := by
    rw [List.headD_eq_head?_getD, head_one hy]
    exact h2
  rw [numM_two (at_zero hx), if_neg (of_decide_eq_false h8), if_neg (by simp only [List.length_drop]; omega), if_neg (fun c => by rw [head_one hy] at c; simp at c; simp [c.2] at hz), if_pos ⟨e, hh⟩]
theorem nm_num (hx : l[0]? = some x) (h8 : decide (x > 8) = false) (h : decide ((l.length : Int) < x + 1) = false) (hz : 0 < x → ∀ y, l[1]? = some y → y ≠ 0) (hg : x = 8 → ∀ y, l[1]? = some y → ¬ y > 127) : numM l = (fold256 ((l.drop 1).take x.toNat) 0, x.toNat + 1, 0) := by
  have h1 := of_decide_eq_false h
  rw [numM_two (at_zero hx), if_neg (of_decide_eq_false h8), if_neg (by simp only [List.length_drop]; omega), if_neg (fun c => ?_), if_neg (fun c => ?_)]
  · obtain ⟨c1, c2⟩ := c
    cases hd : l.drop 1 with
    | nil => rw [hd] at c2; simp at c2
    | cons z r =>
      rw [hd] at c2
      simp only [List.headD_cons] at c2
      exact hg c1 z (by have : (l.drop 1)[0]? = some z := by rw [hd]; rfl
                        simpa using this) c2
  · obtain ⟨c1, c2⟩ := c
    exact hz c1 0 (by rw [List.head?_drop] at c2; exact c2) rfl
end
theorem fold256_append (a b : List Int) (n : Int) : fold256 (a ++ b) n = fold256 b (fold256 a n) := by simp [fold256]
theorem fold256_mono : ∀ (b : List Int) (n : Int), 0 ≤ n → (∀ x ∈ b, 0 ≤ x ∧ x ≤ 255) → n ≤ fold256 b n
  | [], n, _, _ => Int.le_refl n
  | x :: r, n, h0, h => by
    have hx := h x List.mem_cons_self
    have := fold256_mono r (256 * n + x) (by omega) fun y hy => h y (List.mem_cons_of_mem _ hy)
    rw [fold256_cons]; omega
theorem fold_take_le {l : List Int} (h : ∀ x ∈ l, 0 ≤ x ∧ x ≤ 255) {i k : Nat} (hik : i ≤ k) : fold256 (l.take i) 0 ≤ fold256 (l.take k) 0 := by
  obtain ⟨d, rfl⟩ := Nat.exists_eq_add_of_le hik
  rw [List.take_add, fold256_append]
  exact fold256_mono _ _ (fold256_bound _ 0 (Int.le_refl 0) fun x hx => h x (List.mem_of_mem_take hx)).1 fun x hx => h x (List.mem_of_mem_drop (List.mem_of_mem_take hx))
theorem fold_next {l : List Int} {j : Nat} {y : Int} (h1 : 1 ≤ j) (hy : l[j]? = some y) : fold256 ((l.drop 1).take j) 0 = 256 * fold256 ((l.drop 1).take (j - 1)) 0 + y := by
  have hj : (l.drop 1)[j - 1]? = some y := by rw [List.getElem?_drop, ← hy]; congr 1; omega
  obtain ⟨hl, e⟩ := List.getElem?_eq_some_iff.1 hj
  have : (l.drop 1).take j = (l.drop 1).take (j - 1) ++ [y] := by
    rw [show j = j - 1 + 1 by omega, List.take_add_one, hj]; rfl
  rw [this, fold256_snoc]
end Go.Proofs.Ytjbiaoajmdbigaa
