/- What the bound on what a law reads gives: how long its slices are. -/
import Derived.Test.YtjbiaoajmdbigaaRows
import Derived.Test.YtjbiaoajmdbigaaEng23
import Derived.JoinedCond
namespace Go.Proofs.Ytjbiaoajmdbigaa
open Go Go.E

theorem bulk_one {H : Type} (d : DataW H) : 1 ≤ Rows.uptoBulk d := by
  cases d with
  | lit l => cases l <;> simp [Rows.uptoBulk]
  | _ => simp [Rows.uptoBulk]
theorem bulk_len {H : Type} : ∀ l : List (DataW H), l.length ≤ Rows.uptoBulkAll l
  | [] => by simp [Rows.uptoBulkAll]
  | x :: r => by have := bulk_one x; have := bulk_len r; simp only [Rows.uptoBulkAll, List.length_cons]; omega
theorem bulk_sl {H : Type} {enc : TypeId × Value → H} {P : Program} {w : World} {base : Nat} {spare : Nat → Bool} {held : Bool} {F : Nat → Prop} {t e : TypeId} {v : Value} {d : DataW H} {ps : List MemPlace} {es : List (List DV)} (hu : P.underlying t = some (.slice e))
    (h : DataW.Trod enc P w base spare held t v d ps) (hr : RepD F w v (.sl es)) : es.length ≤ Rows.uptoBulk d := by
  obtain ⟨fuel, h⟩ := h
  cases hr with
  | sl a cap sz es val =>
    have hc : (Value.slice a es.length cap).cells.toList = [Value.slice a es.length cap] := rfl
    rw [hc] at h
    rcases Go.Deep.open_slice hu h with ⟨h1, _⟩ | ⟨a', len, cap', m, n', D, Pl, h1, _, _, _, _, h2, _⟩
    · simp only [List.cons.injEq, Value.slice.injEq] at h1
      omega
    · simp only [List.cons.injEq, Value.slice.injEq] at h1
      simp only [Prod.mk.injEq] at h2
      rw [h2.1]
      have := bulk_len ((List.range len).map D)
      simp only [Rows.uptoBulk, List.length_map, List.length_range] at this ⊢
      omega
theorem bulk_str {H : Type} {enc : TypeId × Value → H} {P : Program} {w : World} {base : Nat} {spare : Nat → Bool} {held : Bool} {F : Nat → Prop} {t : TypeId} {v : Value} {d : DataW H} {ps : List MemPlace} {s : ByteArray} (hu : P.underlying t = some .string)
    (h : DataW.Trod enc P w base spare held t v d ps) (hr : RepD F w v (.v (.string s))) : s.size ≤ Rows.uptoBulk d := by
  obtain ⟨fuel, h⟩ := h
  have hv : v = .string s := scal_rep (σ := fun _ => undef) (show RepS F _ w v (sc (.string s)) from hr) rfl
  subst hv
  obtain ⟨s', h1, h2, _⟩ := DataW.trod_string hu h
  have h1' : s = s' := by simpa [Value.cells] using h1
  subst h1'
  simp only [Prod.mk.injEq] at h2
  rw [h2.1]
  have e : s.data.toList.length = s.size := by rw [Array.length_toList]; rfl
  simp only [Rows.uptoBulk]
  omega
theorem bulk_bound {H : Type} {l : List (DataW H)} (hk : Rows.uptoSmall H l = true) : Rows.uptoBulkAll l ≤ 1048576 := of_decide_eq_true hk
end Go.Proofs.Ytjbiaoajmdbigaa
