/- Sorted trees that never change, as data: what the tree package's functions compute. -/
import Derived.Test.YtjbiaoajmdbigaaEB
set_option linter.unusedVariables false
set_option linter.unusedSimpArgs false
namespace Go.Proofs.Ytjbiaoajmdbigaa
open Go Go.E

inductive Tr where
  | nil
  | node (k v : ByteArray) (l r : Tr)

namespace Tr
def depth : Tr → Nat
  | nil => 0
  | node _ _ l r => 1 + max l.depth r.depth
def size : Tr → Nat
  | nil => 0
  | node _ _ l r => 1 + l.size + r.size
theorem depth_le : ∀ t : Tr, t.depth ≤ t.size
  | nil => Nat.le_refl _
  | node _ _ l r => by have := depth_le l; have := depth_le r; simp only [depth, size]; omega
def rotR : Tr → Tr
  | node k v (node k2 v2 l2 r2) r => node k2 v2 l2 (node k v r2 r)
  | t => t
def rotL : Tr → Tr
  | node k v l (node k2 v2 l2 r2) => node k2 v2 (node k v l l2) r2
  | t => t
def downLess : Tr → ByteArray → ByteArray → Tr → Tr
  | nil, k, v, m => node k v nil m
  | node lk lv ll lr, k, v, m =>
    if lr.depth ≤ m.depth + 1 then
      if (node k v lr m).depth ≤ ll.depth + 1 then node lk lv ll (node k v lr m) else rotL (node lk lv ll (rotR (node k v lr m)))
    else
      if (downLess lr k v m).depth ≤ ll.depth + 1 then node lk lv ll (downLess lr k v m) else rotL (node lk lv ll (downLess lr k v m))
def downMore : Tr → ByteArray → ByteArray → Tr → Tr
  | l, k, v, nil => node k v l nil
  | l, k, v, node mk mv ml mr =>
    if ml.depth ≤ l.depth + 1 then
      if (node k v l ml).depth ≤ mr.depth + 1 then node mk mv (node k v l ml) mr else rotR (node mk mv (rotL (node k v l ml)) mr)
    else
      if (downMore l k v ml).depth ≤ mr.depth + 1 then node mk mv (downMore l k v ml) mr else rotR (node mk mv (downMore l k v ml) mr)
def join (l : Tr) (k v : ByteArray) (m : Tr) : Tr :=
  if m.depth + 1 < l.depth then downLess l k v m else if l.depth + 1 < m.depth then downMore l k v m else node k v l m

theorem size_rotR : ∀ t : Tr, (rotR t).size = t.size
  | nil => rfl
  | node _ _ nil _ => rfl
  | node _ _ (node _ _ _ _) _ => by simp only [rotR, size]; omega
theorem size_rotL : ∀ t : Tr, (rotL t).size = t.size
  | nil => rfl
  | node _ _ _ nil => rfl
  | node _ _ _ (node _ _ _ _) => by simp only [rotL, size]; omega
theorem size_downLess : ∀ (l : Tr) (k v : ByteArray) (m : Tr), (downLess l k v m).size = 1 + l.size + m.size
  | nil, k, v, m => by simp [downLess, size]
  | node lk lv ll lr, k, v, m => by
    have ih := size_downLess lr k v m
    simp only [downLess]
    split
    · split
      · simp only [size]; omega
      · rw [size_rotL]; simp only [size]; rw [size_rotR]; simp only [size]; omega
    · split
      · simp only [size, ih]; omega
      · rw [size_rotL]; simp only [size, ih]; omega
theorem size_downMore : ∀ (l : Tr) (k v : ByteArray) (m : Tr), (downMore l k v m).size = 1 + l.size + m.size
  | l, k, v, nil => by simp [downMore, size]
  | l, k, v, node mk mv ml mr => by
    have ih := size_downMore l k v ml
    simp only [downMore]
    split
    · split
      · simp only [size]; omega
      · rw [size_rotR]; simp only [size]; rw [size_rotL]; simp only [size]; omega
    · split
      · simp only [size, ih]; omega
      · rw [size_rotR]; simp only [size, ih]; omega
theorem size_join (l : Tr) (k v : ByteArray) (m : Tr) : (join l k v m).size = 1 + l.size + m.size := by
  unfold join
  split
  · exact size_downLess ..
  · split
    · exact size_downMore ..
    · rfl
theorem rotL_node (t : Tr) (h : t ≠ nil) : rotL t ≠ nil := by
  cases t with
  | nil => exact absurd rfl h
  | node k v l r => cases r <;> simp [rotL]
theorem rotR_node (t : Tr) (h : t ≠ nil) : rotR t ≠ nil := by
  cases t with
  | nil => exact absurd rfl h
  | node k v l r => cases l <;> simp [rotR]
theorem downLess_node (l : Tr) (k v : ByteArray) (m : Tr) : downLess l k v m ≠ nil := by
  cases l with
  | nil => simp [downLess]
  | node lk lv ll lr =>
    simp only [downLess]
    split <;> split <;> first | exact rotL_node _ (by simp) | (simp; done)
theorem downMore_node (l : Tr) (k v : ByteArray) (m : Tr) : downMore l k v m ≠ nil := by
  cases m with
  | nil => simp [downMore]
  | node mk mv ml mr =>
    simp only [downMore]
    split <;> split <;> first | exact rotR_node _ (by simp) | (simp; done)
theorem join_node (l : Tr) (k v : ByteArray) (m : Tr) : join l k v m ≠ nil := by
  unfold join
  split
  · exact downLess_node l k v m
  · split
    · exact downMore_node l k v m
    · simp

/-- A tree without its last pair, and that. -/
def last : Tr → Tr × ByteArray × ByteArray
  | nil => (nil, .empty, .empty)
  | node k v l nil => (l, k, v)
  | node k v l (node k2 v2 l2 r2) => (join l k v (last (node k2 v2 l2 r2)).1, (last (node k2 v2 l2 r2)).2)
def glue (l m : Tr) : Tr :=
  match l with
  | nil => m
  | node k v l2 r2 => join (last (node k v l2 r2)).1 (last (node k v l2 r2)).2.1 (last (node k v l2 r2)).2.2 m
def put : Tr → ByteArray → ByteArray → Tr
  | nil, k, v => node k v nil nil
  | node k0 v0 l r, k, v => if ltS k k0 = true then join (put l k v) k0 v0 r else if ltS k0 k = true then join l k0 v0 (put r k v) else node k v l r
def drop : Tr → ByteArray → Tr
  | nil, _ => nil
  | node k0 v0 l r, k => if ltS k k0 = true then join (drop l k) k0 v0 r else if ltS k0 k = true then join l k0 v0 (drop r k) else glue l r
def find : Tr → ByteArray → Tr
  | nil, _ => nil
  | node k0 v0 l r, k => if eqS k0 k = true then node k0 v0 l r else if ltS k k0 = true then find l k else find r k
def getT (t : Tr) (k : ByteArray) : ByteArray × Bool := match find t k with
  | nil => (⟨#[]⟩, false)
  | node _ v _ _ => (v, true)
def putT (t : Tr) (k v : ByteArray) : Tr := match find t k with
  | nil => put t k v
  | node _ v' _ _ => if eqS v' v = true then t else put t k v
def dropT (t : Tr) (k : ByteArray) : Tr := match find t k with
  | nil => t
  | node _ _ _ _ => drop t k
theorem size_last : ∀ t : Tr, t ≠ nil → (last t).1.size + 1 = t.size
  | nil, h => absurd rfl h
  | node k v l nil, _ => by simp [last, size]; omega
  | node k v l (node k2 v2 l2 r2), _ => by
    have ih := size_last (node k2 v2 l2 r2) (by simp)
    simp only [last, size_join, size] at ih ⊢
    omega
theorem size_glue (l m : Tr) : (glue l m).size = l.size + m.size := by
  cases l with
  | nil => simp [glue, size]
  | node k v l2 r2 =>
    have := size_last (node k v l2 r2) (by simp)
    simp only [glue, size_join]
    omega
theorem size_put : ∀ (t : Tr) (k v : ByteArray), (put t k v).size ≤ t.size + 1
  | nil, k, v => by simp [put, size]
  | node k0 v0 l r, k, v => by
    have := size_put l k v
    have := size_put r k v
    simp only [put]
    split
    · rw [size_join]; simp only [size]; omega
    · split
      · rw [size_join]; simp only [size]; omega
      · simp only [size]; omega
theorem size_drop : ∀ (t : Tr) (k : ByteArray), (drop t k).size ≤ t.size
  | nil, k => by simp [drop]
  | node k0 v0 l r, k => by
    have := size_drop l k
    have := size_drop r k
    simp only [drop]
    split
    · rw [size_join]; simp only [size]; omega
    · split
      · rw [size_join]; simp only [size]; omega
      · rw [size_glue]; simp only [size]; omega
structure APair where
  key : ByteArray
  val : ByteArray
/-- The pairs from one key on, ahead of another one, at most so many, behind others. -/
def scan : Tr → ByteArray → ByteArray → Int → List APair → List APair
  | nil, _, _, _, out => out
  | node k v l r, f, g, most, out =>
    bif decide ((out.length : Int) ≥ most) then out else
    let o1 := bif ltS f k then scan l f g most out else out
    let o2 := bif (bif (bif !(ltS k f) then (bif eqS g ⟨#[]⟩ then true else ltS k g) else false) then decide ((o1.length : Int) < most) else false) then o1 ++ [⟨k, v⟩] else o1
    bif (bif eqS g ⟨#[]⟩ then true else ltS k g) then scan r f g most o2 else o2
theorem scan_len : ∀ (t : Tr) (f g : ByteArray) (most : Int) (out : List APair), (scan t f g most out).length ≤ out.length + t.size
  | nil, f, g, most, out => by simp [scan]
  | node k v l r, f, g, most, out => by
    simp only [scan, size]
    cases decide ((out.length : Int) ≥ most) with
    | true => simp only [cond_true]; omega
    | false =>
      simp only [cond_false]
      have h1 : (bif ltS f k then scan l f g most out else out).length ≤ out.length + l.size := by
        cases ltS f k with
        | true => exact scan_len l f g most out
        | false => simp only [cond_false]; omega
      generalize (bif ltS f k then scan l f g most out else out) = o1 at h1 ⊢
      have h2 : (bif (bif (bif !(ltS k f) then (bif eqS g ⟨#[]⟩ then true else ltS k g) else false) then decide ((o1.length : Int) < most) else false) then o1 ++ [(⟨k, v⟩ : APair)] else o1).length ≤ o1.length + 1 := by
        generalize (bif (bif !(ltS k f) then (bif eqS g ⟨#[]⟩ then true else ltS k g) else false) then decide ((o1.length : Int) < most) else false) = b
        cases b <;> simp
      generalize (bif (bif (bif !(ltS k f) then (bif eqS g ⟨#[]⟩ then true else ltS k g) else false) then decide ((o1.length : Int) < most) else false) then o1 ++ [(⟨k, v⟩ : APair)] else o1) = o2 at h2 ⊢
      cases (bif eqS g ⟨#[]⟩ then true else ltS k g) with
      | true => have := scan_len r f g most o2; simp only [cond_true]; omega
      | false => simp only [cond_false]; omega
theorem size_putT (t : Tr) (k v : ByteArray) : (putT t k v).size ≤ t.size + 1 := by
  have := size_put t k v
  unfold putT
  split
  · exact this
  · split <;> omega
theorem size_dropT (t : Tr) (k : ByteArray) : (dropT t k).size ≤ t.size := by
  have := size_drop t k
  unfold dropT
  split <;> omega
end Tr

def encT : Tr → DV
  | .nil => .v (.pointer none)
  | .node k v l r => .ptr [.v (.string k), .v (.string v), encT l, encT r, .v (.int .i64 ((Tr.node k v l r).depth : Int)), .v (.int .i64 ((Tr.node k v l r).size : Int))]
abbrev APair := Tr.APair
def encPair (p : APair) : List DV := [.v (.string p.key), .v (.string p.val)]
/-- How great a tree may be here. -/
def big : Nat := 1152921504606846976
end Go.Proofs.Ytjbiaoajmdbigaa
