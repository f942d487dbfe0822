/- KvScans: for every input of bulk at most 1048576 the function returns true, and the input reads as it did. -/
import Derived.Test.YtjbiaoajmdbigaaScans
import Derived.Test.YtjbiaoajmdbigaaDo
import Derived.Test.YtjbiaoajmdbigaaBulk
import Derived.Test.YtjbiaoajmdbigaaRows
import Derived.WalkKit
import Derived.ProofKit
namespace Go.Proofs.Ytjbiaoajmdbigaa
open Go Go.E Go.ChangeShapes Go.WideShapes Go.ChangeAt Go.RowKit
set_option maxRecDepth 100000
set_option linter.unusedVariables false

theorem kvScans_own : ownKnob Try.prog.godebug = none := by kernel_rfl
theorem kvScans_laid : laidOutB Try.prog = true := by kernel_rfl
theorem kvScans_contract (H : Type) (enc : TypeId × Value → H) (W : World) (base : Nat) (args : Array Value) (ds gs : List (DataW H)) (before : List MemPlace)
    (hval : ∀ (j : Nat) t v, Try.f6.params[j]? = some t → args[j]? = some v → Value.okWide Try.prog W .any base t v)
    (hW : DataW.Whole enc Try.prog Try.f6.params.toList Rows.kvScansSpec.vars false W args.toList ds gs before) (hk0 : Rows.uptoSmall H (ds ++ gs) = true) :
    Calls Try.prog 6 args W fun e W' => ∃ v, e = .returned v ∧ Rows.kvScansSpec.post enc Try.prog Try.f6 false true false false W args v W' := by
  have hval0 := hval
  have hW' := hW
  obtain ⟨p, q, hA0, hV, rfl, hfz, hnd⟩ := hW
  have hA : DataW.TrodAll enc Try.prog W 0 (fun _ => true) true Try.f6.params.toList args.toList ds p := hA0
  rw [Try.params6] at hA hval
  obtain ⟨v0, vs0, d0, ds0, p0, q0, hargs, rfl, rfl, h0, r0⟩ := trodAll_cons hA
  obtain ⟨v1, vs1, d1, ds1, p1, q1, rfl, rfl, rfl, h1, r1⟩ := trodAll_cons r0
  obtain ⟨v2, vs2, d2, ds2, p2, q2, rfl, rfl, rfl, h2, r2⟩ := trodAll_cons r1
  obtain ⟨v3, vs3, d3, ds3, p3, q3, rfl, rfl, rfl, h3, r3⟩ := trodAll_cons r2
  obtain ⟨rfl, rfl, rfl⟩ := trodAll_nil r3
  obtain rfl : args = #[v0, v1, v2, v3] := by cases args; simp_all
  obtain ⟨rfl, rfl⟩ := trodVars_none hV
  obtain ⟨e0, f0, g0⟩ := arg_one (n := 8) (c := (.sl shDo)) (by kernel_rfl) (by kernel_rfl) (hval 0 22 v0 rfl rfl) h0
  obtain ⟨x0, rfl⟩ := fits_sl_dos f0
  obtain ⟨e1, f1, g1⟩ := arg_one (n := 8) (c := .s) (by kernel_rfl) (by kernel_rfl) (hval 1 9 v1 rfl rfl) h1
  obtain ⟨x1, rfl, w1⟩ := fits_str f1
  obtain ⟨e2, f2, g2⟩ := arg_one (n := 8) (c := .s) (by kernel_rfl) (by kernel_rfl) (hval 2 9 v2 rfl rfl) h2
  obtain ⟨x2, rfl, w2⟩ := fits_str f2
  obtain ⟨e3, f3, g3⟩ := arg_one (n := 8) (c := .s) (by kernel_rfl) (by kernel_rfl) (hval 3 9 v3 rfl rfl) h3
  obtain ⟨x3, rfl, w3⟩ := fits_str f3
  have hk := bulk_bound hk0
  simp only [List.append_nil, Rows.uptoBulkAll] at hk
  have b1 : x1.size ≤ 1048576 := by have := bulk_str (by kernel_rfl) h1 g1; omega
  have b2 : x2.size ≤ 1048576 := by have := bulk_str (by kernel_rfl) h2 g2; omega
  clear hA0 hval0
  refine (Sat.below (vs := #[v0, v1, v2, v3]) (w_Scans x0 x1 x2 x3 b1 b2) rfl (fun i hi => ?_)).mono fun e W' ⟨he, hb⟩ => ?_
  · match i, hi with
    | 0, _ => exact g0
    | 1, _ => exact g1
    | 2, _ => exact g2
    | 3, _ => exact g3
    | i + 4, hi => exact absurd hi (by simp only [List.length_cons, List.length_nil]; omega)
  · subst he
    have lt0 : ∀ x ∈ p0, x.block < W.heap.size := fun x hx => by simpa using hW'.lt x (by simp [hx])
    have lt1 : ∀ x ∈ p1, x.block < W.heap.size := fun x hx => by simpa using hW'.lt x (by simp [hx])
    have lt2 : ∀ x ∈ p2, x.block < W.heap.size := fun x hx => by simpa using hW'.lt x (by simp [hx])
    have lt3 : ∀ x ∈ p3, x.block < W.heap.size := fun x hx => by simpa using hW'.lt x (by simp [hx])
    exact ⟨_, rfl, _, _, _, [], _, [], hW', trodAll_mk1 (shut_bool Try.underlying4 true), (trodAll_cons_mk (Below.trod kvScans_laid (by kernel_rfl) (of_decide_eq_true (by kernel_rfl)) h0 hb lt0) (trodAll_cons_mk (Below.trod kvScans_laid (by kernel_rfl) (of_decide_eq_true (by kernel_rfl)) h1 hb lt1) (trodAll_cons_mk (Below.trod kvScans_laid (by kernel_rfl) (of_decide_eq_true (by kernel_rfl)) h2 hb lt2) (trodAll_cons_mk (Below.trod kvScans_laid (by kernel_rfl) (of_decide_eq_true (by kernel_rfl)) h3 hb lt3) trodAll_mk0)))), rfl, hb.frame _, fun h => by cases h⟩
theorem kvScans_lifted (os : Os) (started : os.Started) (H : Type) (enc : TypeId × Value → H) (F : Stop.Interp) :
    ReturnsInHanded {} Try.checked os 6 .any ((Rows.OpenSpec.upto Rows.kvScansSpec).pre6 enc Try.prog Try.f6 Rows.kvScansUptoRow.domain false) (((Rows.OpenSpec.upto Rows.kvScansSpec).at F).post enc Try.prog Try.f6 false true false false) := by
  refine returnsInHanded_of_cond (C := Try.checked) (s := Rows.OpenSpec.upto Rows.kvScansSpec) (k := Rows.uptoSmall) rfl kvScans_own started (by kernel_rfl) Try.func6
    (OpenSpec.witness (enc := enc) (C := Try.checked) (s := Rows.OpenSpec.upto Rows.kvScansSpec) (k := Rows.uptoSmall) rfl false ⟨#[], #[.slice none 0 0, .string ⟨#[]⟩, .string ⟨#[]⟩, .string ⟨#[]⟩], []⟩ 8 (by kernel_rfl) (by kernel_rfl) (by kernel_rfl)
      (x := ([.nil, .lit (.string []), .lit (.string []), .lit (.string [])], [], [])) (by kernel_rfl) rfl (by kernel_rfl)) ?_
  intro W base args ds gs before hval hW _ hk _
  exact kvScans_contract H enc W base args ds gs before hval hW hk
theorem kvScans_holds : Rows.KvScansUptoSaid :=
  OpenClaim.holds_of_cond 6 Try.f6 rfl rfl rfl rfl rfl rfl rfl ⟨rfl, rfl, rfl, rfl, rfl⟩ rfl rfl rfl rfl rfl (by kernel_rfl) Try.func6 (by kernel_rfl)
    (of_decide_eq_true (by kernel_rfl)) (by unfold Func.isWrapper; first | (rw [if_pos (by decide +kernel)]; kernel_rfl) | (rw [if_neg (by decide +kernel)]; exact ⟨rfl, rfl⟩))
    (fun os started H enc _ F => kvScans_lifted os started H enc F)
end Go.Proofs.Ytjbiaoajmdbigaa
