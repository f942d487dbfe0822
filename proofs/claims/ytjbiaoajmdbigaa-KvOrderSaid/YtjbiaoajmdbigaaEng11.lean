/- A logic over abstract states. Part 11: regions; calls. -/
import Derived.Test.YtjbiaoajmdbigaaEng10
set_option linter.unusedVariables false
set_option linter.unusedSimpArgs false
namespace Go.E
open Go

theorem lower_spec : ∀ {r : List Oper} {i : Nat}, lower i r = true → ∀ k o e, r[k]? = some o → e ∈ o.after → Region.binds .any e = true → e.on < i + k
  | [], i, _, k, o, e, h1, _, _ => by simp at h1
  | o0 :: r, i, h, k, o, e, h1, h2, h3 => by
    simp only [lower, Bool.and_eq_true] at h
    cases k with
    | zero =>
      simp only [List.getElem?_cons_zero, Option.some.injEq] at h1
      subst h1
      have := h.1
      rw [List.all_eq_true] at this
      have := this e (by simpa using h2)
      simp only [h3, Bool.not_true, Bool.false_or, Nat.blt] at this
      exact Nat.le_of_ble_eq_true this
    | succ k =>
      have := lower_spec h.2 k o e (by simpa using h1) h2 h3
      omega

def cnt (p : Nat → Bool) : Nat → Nat
  | 0 => 0
  | n + 1 => cnt p n + if p n = true then 1 else 0
theorem cnt_congr {p q : Nat → Bool} : ∀ n, (∀ j, j < n → p j = q j) → cnt p n = cnt q n
  | 0, _ => rfl
  | n + 1, h => by simp only [cnt]; rw [cnt_congr n fun j hj => h j (by omega), h n (by omega)]
theorem cnt_drop {p q : Nat → Bool} {i : Nat} (hp : p i = true) (hq : q i = false) (h : ∀ j, j ≠ i → p j = q j) : ∀ n, i < n → cnt p n = cnt q n + 1
  | 0, hi => by omega
  | n + 1, hi => by
    simp only [cnt]
    by_cases c : i = n
    · subst c
      rw [cnt_congr i fun j hj => h j (by omega)]
      simp [hp, hq]
    · rw [cnt_drop hp hq h n (by omega), h n (by omega)]; omega
theorem cnt_zero {p : Nat → Bool} : ∀ n, cnt p n = 0 → ∀ j, j < n → p j = false
  | 0, _, j, hj => by omega
  | n + 1, h, j, hj => by
    simp only [cnt] at h
    by_cases c : j = n
    · subst c
      cases e : p j with
      | false => rfl
      | true => simp [e] at h
    · exact cnt_zero n (by omega) j (by omega)
theorem cnt_true : ∀ n, cnt (fun _ => true) n = n
  | 0 => rfl
  | n + 1 => by simp [cnt, cnt_true n]

theorem getD_listed {listed : Array Bool} {i : Nat} (h : i < listed.size) : listed.getD i true = listed.getD i false := by simp [h]
theorem getD_setB {listed : Array Bool} {i j : Nat} (h : i < listed.size) : (listed.setIfInBounds i true).getD j false = (listed.getD j false || decide (j = i)) := by
  rw [Array.getD_eq_getD_getElem?, Array.getElem?_setIfInBounds]
  by_cases c : i = j
  · subst c; simp [h]
  · simp [c, Ne.symm c]

section
variable {P : Program} {T : Tab} (hT : TabOK P T) {Dt : List Nat} {ops : List Oper} {hints : List (Nat × Hint)} {S0 S' : St} {is : List Info}
  (hrun : runL P T Dt ops hints 0 ops S0 = some (S', is)) (hgood : ∀ k o inf x, ops[k]? = some o → is[k]? = some inf → look hints k = some x → inf.good P o) (hopen : openOK S0 ops is = true)
include hT hrun hgood hopen

theorem any_wp {G : Gh} {Q : Exit → Act → World → Prop} (hQ : ∀ a w, Rel G S' a w → Q .normal a w) : ∀ (fuel : Nat) (listed : Array Bool) (a : Act) (w : World), listed.size = ops.length → Closed ops (fun j => listed.getD j false) →
    cnt (fun j => !listed.getD j false) ops.length ≤ fuel → Rel G (td ops is (fun j => listed.getD j false) S0 ops.length) a w → wpAny P .any ops.toArray Q fuel listed a w := by
  have hlow : ∀ k o e, ops[k]? = some o → e ∈ o.after → Region.binds .any e = true → e.on < k := fun k o e h1 h2 h3 => by
    simp only [openOK, Bool.and_eq_true] at hopen
    simpa using lower_spec hopen.1 k o e h1 h2 h3
  obtain ⟨e1, e2, _⟩ := runL_td (isF := is) (S0 := S0) hrun (fun k => by simp) (fun k => by simp) rfl
  simp only [Nat.zero_add] at e1
  have hend : ∀ (listed : Array Bool) a w, (∀ j, j < ops.length → listed.getD j false = true) → Rel G (td ops is (fun j => listed.getD j false) S0 ops.length) a w → Q .normal a w := fun listed a w hall hR => by
    refine hQ a w (hR.like ⟨by rw [e1, td_n, td_n], by rw [e1, td_old, td_old], fun s => ?_, fun h => ?_⟩)
    · rw [e1, td_slot, td_slot]; exact lw_congr _ fun j hj _ => hall j hj
    · rw [e1, td_obj, td_obj]; exact lw_congr _ fun j hj _ => hall j hj
  have hready : ∀ (listed : Array Bool), listed.size = ops.length → Region.ready .any ops.toArray listed = [] → ∀ j, j < ops.length → listed.getD j false = true := fun listed hs h j => by
    induction j using Nat.strongRecOn with
    | _ j ih =>
      intro hj
      cases e : listed.getD j false with
      | true => rfl
      | false =>
        have : j ∈ Region.ready .any ops.toArray listed := mem_ready.2 ⟨by rw [getD_listed (by omega)]; exact e, ops[j], by simp [hj], fun e he hb => by
          have := hlow j ops[j] e (List.getElem?_eq_getElem hj) he hb
          exact ih e.on this (by omega)⟩
        rw [h] at this
        cases this
  intro fuel
  induction fuel with
  | zero =>
    intro listed a w hs hc hcnt hR
    have hall : ∀ j, j < ops.length → listed.getD j false = true := fun j hj => by
      have := cnt_zero _ (Nat.le_zero.1 hcnt) j hj
      simpa using this
    refine ⟨?_, hend listed a w hall hR⟩
    cases e : Region.ready .any ops.toArray listed with
    | nil => rfl
    | cons i r =>
      have : i ∈ Region.ready .any ops.toArray listed := by rw [e]; simp
      obtain ⟨h1, o, h2, _⟩ := mem_ready.1 this
      have hi : i < ops.length := by
        have h2' : ops[i]? = some o := by simpa using h2
        exact (List.getElem?_eq_some_iff.1 h2').1
      rw [getD_listed (by omega), hall i hi] at h1
      cases h1
  | succ fuel ih =>
    intro listed a w hs hc hcnt hR
    refine ⟨fun h => hend listed a w (hready listed hs h) hR, fun i hi => ?_⟩
    obtain ⟨h1, o, h2, h3⟩ := mem_ready.1 hi
    have h2' : ops[i]? = some o := by simpa using h2
    have hilt : i < ops.length := (List.getElem?_eq_some_iff.1 h2').1
    rw [getD_listed (by omega)] at h1
    refine open_step hT hrun hgood hopen hc h2' h1 (fun o' ho' e he hb => ?_) hR fun a' w' hR' => ?_
    · rw [h2'] at ho'
      obtain rfl := Option.some.inj ho'
      exact h3 e he hb
    · have hset : ∀ j, (listed.setIfInBounds i true).getD j false = (listed.getD j false || decide (j = i)) := fun j => getD_setB (by omega)
      refine ih _ a' w' (by simp [hs]) (fun j hj o' ho' e he hb => ?_) ?_ ?_
      · dsimp only at hj ⊢
        rw [hset] at hj ⊢
        simp only [Bool.or_eq_true, decide_eq_true_eq] at hj ⊢
        left
        rcases hj with hj | hj
        · exact hc j hj o' ho' e he hb
        · subst hj
          rw [h2'] at ho'
          obtain rfl := Option.some.inj ho'
          exact h3 e he hb
      · have := cnt_drop (p := fun j => !listed.getD j false) (q := fun j => !(listed.setIfInBounds i true).getD j false) (i := i) (by rw [h1]; rfl) (by rw [hset]; simp) (fun j hj => by rw [hset]; simp [hj]) ops.length hilt
        omega
      · have : (fun j => (listed.setIfInBounds i true).getD j false) = fun j => listed.getD j false || decide (j = i) := funext hset
        rw [this]; exact hR'
end

/-! ### A region -/
/-- What a region comes to: the state behind it, and what is owed. -/
def runR (P : Program) (T : Tab) (D : List Nat) (hints : List (Nat × Hint)) (ops : List Oper) (open_ : Bool) (S : St) : Option (St × List Ob) :=
  match runL P T D ops hints 0 ops S with
  | some (S', is) => bif !open_ || openOK S ops is then some (S', obsOf hints 0 ops is) else none
  | none => none

/-- A piece of code, told. -/
def AWp (P : Program) (G : Gh) (c : Code) (Q : Exit → St → Prop) (S : St) : Prop := ∀ a w, Rel G S a w → c.wp P (fun e a' w' => ∃ S', Q e S' ∧ Rel G S' a' w') a w

theorem td_zero {ops : List Oper} {is : List Info} {S : St} {D : Nat → Bool} : ∀ n, (∀ j, j < n → D j = false) → td ops is D S n = S
  | 0, _ => rfl
  | n + 1, h => by
    simp only [td]
    split
    · rw [if_neg (by rw [h n (by omega)]; simp)]; exact td_zero n fun j hj => h j (by omega)
    · exact td_zero n fun j hj => h j (by omega)

theorem awp_region {P : Program} {T : Tab} (hT : TabOK P T) {D : List Nat} {hints : List (Nat × Hint)} {ops : List Oper} {open_ : Bool} {S S' : St} {obs : List Ob} (h : runR P T D hints ops open_ S = some (S', obs)) (ho : AllHold P obs)
    (hm : open_ = true → P.follows .mixedOrders = true) {id : Nat} {G : Gh} {Q : Exit → St → Prop} (hQ : Q .normal S') : AWp P G (.region id ops.toArray open_) Q S := by
  intro a w hR
  unfold runR at h
  split at h
  · rename_i S2 is hrun
    obtain ⟨h1, h2⟩ := bif_some h
    simp only [Prod.mk.injEq] at h2
    obtain ⟨rfl, rfl⟩ := h2
    have hg : ∀ k o inf x, ops[k]? = some o → is[k]? = some inf → look hints k = some x → inf.good P o := fun k o inf x e1 e2 e3 => obs_good hrun ho k o inf x e1 e2 (by simpa using e3)
    cases open_ with
    | false =>
      refine wp_region ?_
      have := runL_wp (G := G) (Q := fun e a' w' => ∃ S', Q e S' ∧ Rel G S' a' w') hT hrun (fun k o inf x e1 e2 e3 => hg k o inf x e1 e2 (by simpa using e3)) (fun k => by simp) hR fun a' w' h => ⟨S2, hQ, h⟩
      rw [List.range_eq_range']
      simpa using this
    | true =>
      simp only [Bool.not_true, Bool.false_or] at h1
      refine wp_region_any (hm rfl) ?_
      have hsz : (Array.replicate ops.toArray.size false).size = ops.length := by simp
      refine any_wp hT hrun hg h1 (fun a' w' h => ⟨S2, hQ, h⟩) _ _ _ _ hsz (fun j hj => ?_) ?_ ?_
      · simp [Array.getElem?_replicate] at hj
        split at hj <;> simp at hj
      · have : (fun j => !(Array.replicate ops.toArray.size false).getD j false) = fun _ => true := by
          funext j
          simp [Array.getElem?_replicate]
          split <;> simp
        rw [this, cnt_true]
        simp
      · rw [td_zero]
        · exact hR.heap rfl rfl rfl rfl
        · intro j _
          simp [Array.getElem?_replicate]
          split <;> simp
  · cases h
end Go.E
