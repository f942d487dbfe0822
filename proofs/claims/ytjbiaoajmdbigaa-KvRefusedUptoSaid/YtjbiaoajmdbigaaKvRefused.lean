/- KvRefused: for every input of bulk at most 1048576 the function returns true, and the input reads as it did. -/
import Derived.Test.YtjbiaoajmdbigaaRefused
import Derived.Test.YtjbiaoajmdbigaaDo
import Derived.Test.YtjbiaoajmdbigaaBulk
import Derived.Test.YtjbiaoajmdbigaaRows
import Derived.WalkKit
import Derived.ProofKit
namespace Go.Proofs.Ytjbiaoajmdbigaa
open Go Go.E Go.ChangeShapes Go.WideShapes Go.ChangeAt Go.RowKit
set_option maxRecDepth 100000
set_option linter.unusedVariables false

theorem kvRefused_own : ownKnob Try.prog.godebug = none := by kernel_rfl
theorem kvRefused_laid : laidOutB Try.prog = true := by kernel_rfl
theorem kvRefused_contract (H : Type) (enc : TypeId × Value → H) (W : World) (base : Nat) (args : Array Value) (ds gs : List (DataW H)) (before : List MemPlace)
    (hval : ∀ (j : Nat) t v, Try.f4.params[j]? = some t → args[j]? = some v → Value.okWide Try.prog W .any base t v)
    (hW : DataW.Whole enc Try.prog Try.f4.params.toList Rows.kvRefusedSpec.vars false W args.toList ds gs before) (hk0 : Rows.uptoSmall H (ds ++ gs) = true) :
    Calls Try.prog 4 args W fun e W' => ∃ v, e = .returned v ∧ Rows.kvRefusedSpec.post enc Try.prog Try.f4 false true false false W args v W' := by
  have hval0 := hval
  have hW' := hW
  obtain ⟨p, q, hA0, hV, rfl, hfz, hnd⟩ := hW
  have hA : DataW.TrodAll enc Try.prog W 0 (fun _ => true) true Try.f4.params.toList args.toList ds p := hA0
  rw [Try.params4] at hA hval
  obtain ⟨v0, vs0, d0, ds0, p0, q0, hargs, rfl, rfl, h0, r0⟩ := trodAll_cons hA
  obtain ⟨v1, vs1, d1, ds1, p1, q1, rfl, rfl, rfl, h1, r1⟩ := trodAll_cons r0
  obtain ⟨rfl, rfl, rfl⟩ := trodAll_nil r1
  obtain rfl : args = #[v0, v1] := by cases args; simp_all
  obtain ⟨rfl, rfl⟩ := trodVars_none hV
  obtain ⟨e0, f0, g0⟩ := arg_one (n := 8) (c := (.sl shDo)) (by kernel_rfl) (by kernel_rfl) (hval 0 22 v0 rfl rfl) h0
  obtain ⟨x0, rfl⟩ := fits_sl_dos f0
  obtain ⟨e1, f1, g1⟩ := arg_agg (n := 8) (l := shDo) (by kernel_rfl) (by kernel_rfl) (hval 1 46 v1 rfl rfl) h1
  obtain ⟨x1, rfl⟩ := fits_do f1
  have hk := bulk_bound hk0
  simp only [List.append_nil, Rows.uptoBulkAll] at hk
  have b0 : x0.length ≤ 1048576 := by have := bulk_sl (e := 46) (by kernel_rfl) h0 g0; simp only [List.length_map] at this; omega
  clear hA0 hval0
  refine (Sat.below (vs := #[v0, v1]) (w_Refused x0 x1.op x1.pos x1.conds x1.ops x1.fr x1.to x1.p1 x1.p2 x1.p3 x1.p4 x1.p5 x1.p6 b0) rfl (fun i hi => ?_)).mono fun e W' ⟨he, hb⟩ => ?_
  · match i, hi with
    | 0, _ => exact g0
    | 1, _ => exact g1 _
    | i + 2, hi => exact absurd hi (by simp only [List.length_cons, List.length_nil]; omega)
  · subst he
    have lt0 : ∀ x ∈ p0, x.block < W.heap.size := fun x hx => by simpa using hW'.lt x (by simp [hx])
    have lt1 : ∀ x ∈ p1, x.block < W.heap.size := fun x hx => by simpa using hW'.lt x (by simp [hx])
    exact ⟨_, rfl, _, _, _, [], _, [], hW', trodAll_mk1 (shut_bool Try.underlying4 true), (trodAll_cons_mk (Below.trod kvRefused_laid (by kernel_rfl) (of_decide_eq_true (by kernel_rfl)) h0 hb lt0) (trodAll_cons_mk (Below.trod kvRefused_laid (by kernel_rfl) (of_decide_eq_true (by kernel_rfl)) h1 hb lt1) trodAll_mk0)), rfl, hb.frame _, fun h => by cases h⟩
theorem kvRefused_lifted (os : Os) (started : os.Started) (H : Type) (enc : TypeId × Value → H) (F : Stop.Interp) :
    ReturnsInHanded {} Try.checked os 4 .any ((Rows.OpenSpec.upto Rows.kvRefusedSpec).pre6 enc Try.prog Try.f4 Rows.kvRefusedUptoRow.domain false) (((Rows.OpenSpec.upto Rows.kvRefusedSpec).at F).post enc Try.prog Try.f4 false true false false) := by
  refine returnsInHanded_of_cond (C := Try.checked) (s := Rows.OpenSpec.upto Rows.kvRefusedSpec) (k := Rows.uptoSmall) rfl kvRefused_own started (by kernel_rfl) Try.func4
    (OpenSpec.witness (enc := enc) (C := Try.checked) (s := Rows.OpenSpec.upto Rows.kvRefusedSpec) (k := Rows.uptoSmall) rfl false ⟨#[], #[.slice none 0 0, .agg #[.int .i64 0, .int .i64 0, .slice none 0 0, .slice none 0 0, .string ⟨#[]⟩, .string ⟨#[]⟩, .int .i64 0, .string ⟨#[]⟩, .bool false, .string ⟨#[]⟩, .bool false, .string ⟨#[]⟩]], []⟩ 8 (by kernel_rfl) (by kernel_rfl) (by kernel_rfl)
      (x := ([.nil, .agg [.lit (.int .i64 0), .lit (.int .i64 0), .nil, .nil, .lit (.string []), .lit (.string []), .agg [.lit (.int .i64 0), .lit (.string []), .lit (.bool false), .lit (.string []), .lit (.bool false), .lit (.string [])]]], [], [])) (by kernel_rfl) rfl (by kernel_rfl)) ?_
  intro W base args ds gs before hval hW _ hk _
  exact kvRefused_contract H enc W base args ds gs before hval hW hk
theorem kvRefused_holds : Rows.KvRefusedUptoSaid :=
  OpenClaim.holds_of_cond 4 Try.f4 rfl rfl rfl rfl rfl rfl rfl ⟨rfl, rfl, rfl, rfl, rfl⟩ rfl rfl rfl rfl rfl (by kernel_rfl) Try.func4 (by kernel_rfl)
    (of_decide_eq_true (by kernel_rfl)) (by unfold Func.isWrapper; first | (rw [if_pos (by decide +kernel)]; kernel_rfl) | (rw [if_neg (by decide +kernel)]; exact ⟨rfl, rfl⟩))
    (fun os started H enc _ F => kvRefused_lifted os started H enc F)
end Go.Proofs.Ytjbiaoajmdbigaa
