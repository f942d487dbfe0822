/- Maps that tell what changes, as data: what package kv's functions compute. -/
import Derived.Test.YtjbiaoajmdbigaaTr
import Derived.Test.YtjbiaoajmdbigaaTx
set_option linter.unusedVariables false
set_option linter.unusedSimpArgs false
namespace Go.Proofs.Ytjbiaoajmdbigaa
open Go Go.E

structure AOp where
  key : ByteArray
  has : Bool
  val : ByteArray
structure AEv where
  pos : Int
  key : ByteArray
  had : Bool
  old : ByteArray
  has : Bool
  now : ByteArray
def encOp (o : AOp) : List DV := [.v (.string o.key), .v (.bool o.has), .v (.string o.val)]
def encEv (e : AEv) : List DV := [.v (.int .i64 e.pos), .v (.string e.key), .v (.bool e.had), .v (.string e.old), .v (.bool e.has), .v (.string e.now)]

def badV (o : AOp) : Bool := bif (bif o.has then (valE o.val != 0) else false) then true else (bif !o.has then !(eqS o.val ⟨#[]⟩) else false)
def rightF : List AOp → List ByteArray → Int
  | [], _ => 0
  | o :: r, had => bif keyE o.key != 0 then 20 else bif badV o then 21 else bif hasK had o.key then 61 else rightF r (had ++ [o.key])
def checkE (conds ops : List AOp) : Int :=
  bif (bif (bif (ops.length : Int) == 0 then true else decide ((ops.length : Int) > 6)) then true else decide ((conds.length : Int) > 6)) then 61 else
  bif rightF conds [] != 0 then rightF conds [] else rightF ops []
def condOK (t : Tr) (c : AOp) : Bool := !(bif !((t.getT c.key).2 == c.has) then true else !(eqS (t.getT c.key).1 c.val))
def condsOK (t : Tr) : List AOp → Bool
  | [] => true
  | c :: r => bif condOK t c then condsOK t r else false
def sameOp (t : Tr) (o : AOp) : Bool := bif ((t.getT o.key).2 == o.has) then eqS (t.getT o.key).1 o.val else false
def evOf (t : Tr) (pos : Int) (o : AOp) : AEv := ⟨pos, o.key, (t.getT o.key).2, (t.getT o.key).1, o.has, o.val⟩
def planF (t : Tr) (pos : Int) : List AOp → List AEv → Int → List AEv × Int
  | [], l, n => (l, n)
  | o :: r, l, n => bif sameOp t o then planF t pos r l n else planF t pos r (l ++ [evOf t pos o]) (bif !(t.getT o.key).2 then n + 1 else bif !o.has then n - 1 else n)
def planM (t : Tr) (pos : Int) (conds ops : List AOp) : List AEv × Int :=
  bif checkE conds ops != 0 then ([], checkE conds ops) else
  bif condsOK t conds then (bif decide ((planF t pos ops [] t.size).2 > 24) then ([], 7) else ((planF t pos ops [] t.size).1, 0)) else ([], 60)
def takeF : Tr → List AEv → Tr
  | t, [] => t
  | t, e :: r => takeF (bif e.has then t.putT e.key e.now else t.dropT e.key) r
def doT (t : Tr) (pos : Int) (conds ops : List AOp) : Tr := bif (planM t pos conds ops).2 == 0 then takeF t (planM t pos conds ops).1 else t
def setF : Tr → List AOp → Option Tr
  | t, [] => some t
  | t, o :: r => bif !o.has then none else setF (t.putT o.key o.val) r
def setM (t : Tr) (l : List AOp) : Tr × Int :=
  bif decide ((l.length : Int) > 24) then (t, 7) else bif rightF l [] != 0 then (t, rightF l []) else
  match setF .nil l with
  | some t' => (t', 0)
  | none => (t, 61)

def eqOpB (a b : AOp) : Bool := eqS a.key b.key && ((a.has == b.has) && (eqS a.val b.val && true))
def eqEvB (a b : AEv) : Bool := (a.pos == b.pos) && (eqS a.key b.key && ((a.had == b.had) && (eqS a.old b.old && ((a.has == b.has) && (eqS a.now b.now && true)))))
def eqL {α : Type} (f : α → α → Bool) : List α → List α → Bool
  | [], [] => true
  | a :: as, b :: bs => bif f a b then eqL f as bs else false
  | _, _ => false
theorem eqL_len {α : Type} {f : α → α → Bool} : ∀ {l m : List α}, l.length ≠ m.length → eqL f l m = false
  | [], [], h => absurd rfl h
  | [], _ :: _, _ => rfl
  | _ :: _, [], _ => rfl
  | a :: as, b :: bs, h => by
    simp only [eqL, eqL_len (l := as) (m := bs) (by simpa using h)]
    cases f a b <;> rfl
theorem eqOpB_iff {a b : AOp} : eqOpB a b = true ↔ a = b := by
  obtain ⟨a1, a2, a3⟩ := a
  obtain ⟨b1, b2, b3⟩ := b
  simp [eqOpB, eqS]
theorem eqEvB_iff {a b : AEv} : eqEvB a b = true ↔ a = b := by
  obtain ⟨a1, a2, a3, a4, a5, a6⟩ := a
  obtain ⟨b1, b2, b3, b4, b5, b6⟩ := b
  simp [eqEvB, eqS]
theorem eqL_iff {α : Type} {f : α → α → Bool} (hf : ∀ a b, f a b = true ↔ a = b) : ∀ {l m : List α}, eqL f l m = true ↔ l = m
  | [], [] => by simp [eqL]
  | [], _ :: _ => by simp [eqL]
  | _ :: _, [] => by simp [eqL]
  | a :: as, b :: bs => by
    simp only [eqL, List.cons.injEq, ← hf a b, ← eqL_iff hf (l := as) (m := bs)]
    cases f a b <;> simp
def opOf (p : APair) : AOp := ⟨p.key, true, p.val⟩
def scanM (t : Tr) (f g : ByteArray) : List AOp := (Tr.scan t f g t.size []).map opOf
theorem scanM_len (t : Tr) (f g : ByteArray) : (scanM t f g).length ≤ t.size := by
  have := Tr.scan_len t f g t.size []
  simpa [scanM] using this
theorem checkE_len {conds ops : List AOp} (h : (checkE conds ops != 0) = false) : ops.length ≤ 6 := by
  unfold checkE at h
  cases h1 : ((ops.length : Int) == 0) with
  | true => simp [h1] at h
  | false =>
    cases h2 : decide ((ops.length : Int) > 6) with
    | true => simp only [h1, h2, cond_false, cond_true] at h; cases h
    | false => have := of_decide_eq_false h2; omega
theorem planF_len (t : Tr) (pos : Int) : ∀ (r : List AOp) (l : List AEv) (n : Int), (planF t pos r l n).1.length ≤ l.length + r.length
  | [], l, n => by simp [planF]
  | o :: r, l, n => by
    simp only [planF]
    cases sameOp t o with
    | true => have := planF_len t pos r l n; simp; omega
    | false =>
      have := planF_len t pos r (l ++ [evOf t pos o]) (bif !(t.getT o.key).2 then n + 1 else bif !o.has then n - 1 else n)
      simp only [List.length_append, List.length_cons, List.length_nil] at this
      simp only [cond_false, List.length_cons]; omega
theorem planM_len (t : Tr) (pos : Int) (conds ops : List AOp) : (planM t pos conds ops).1.length ≤ 6 := by
  unfold planM
  cases h : (checkE conds ops != 0) with
  | true => simp
  | false =>
    have := checkE_len h
    have h2 := planF_len t pos ops [] t.size
    simp only [List.length_nil] at h2
    cases condsOK t conds with
    | false => simp
    | true =>
      simp only [cond_true, cond_false]
      cases decide ((planF t pos ops [] t.size).2 > 24) with
      | true => simp
      | false => simp only [cond_false]; omega
theorem takeF_size : ∀ (t : Tr) (l : List AEv), (takeF t l).size ≤ t.size + l.length
  | t, [] => by simp [takeF]
  | t, e :: r => by
    have h1 := takeF_size (bif e.has then t.putT e.key e.now else t.dropT e.key) r
    have h2 := Tr.size_putT t e.key e.now
    have h3 := Tr.size_dropT t e.key
    simp only [takeF, List.length_cons]
    cases hh : e.has <;> simp only [hh, cond_true, cond_false] at h1 ⊢ <;> omega
end Go.Proofs.Ytjbiaoajmdbigaa
