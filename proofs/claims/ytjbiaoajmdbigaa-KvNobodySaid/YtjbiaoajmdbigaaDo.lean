/- What the laws of kv take: operations, calls; how they read. -/
import Derived.Test.YtjbiaoajmdbigaaKv
import Derived.Test.YtjbiaoajmdbigaaEng23
namespace Go.Proofs.Ytjbiaoajmdbigaa
open Go Go.E

structure ADo where
  op : Int
  pos : Int
  conds : List AOp
  ops : List AOp
  fr : ByteArray
  to : ByteArray
  p1 : Int
  p2 : ByteArray
  p3 : Bool
  p4 : ByteArray
  p5 : Bool
  p6 : ByteArray
def encDo (d : ADo) : List DV := [.v (.int .i64 d.op), .v (.int .i64 d.pos), .sl (d.conds.map encOp), .sl (d.ops.map encOp), .v (.string d.fr), .v (.string d.to),
  .v (.int .i64 d.p1), .v (.string d.p2), .v (.bool d.p3), .v (.string d.p4), .v (.bool d.p5), .v (.string d.p6)]
def shOp : List CSh := [.s, .b, .s]
def shDo : List CSh := [.i .i64, .i .i64, .sl shOp, .sl shOp, .s, .s, .i .i64, .s, .b, .s, .b, .s]
theorem fits_op {e : List DV} (h : FitsAll shOp e) : ∃ x : AOp, e = encOp x := by
  obtain _ | ⟨⟨⟩, _ | ⟨⟨⟩, _ | ⟨⟨⟩, ⟨⟩⟩⟩⟩ := h
  exact ⟨⟨_, _, _⟩, rfl⟩
theorem fits_ops {es : List (List DV)} (h : FitsRows shOp es) : ∃ l : List AOp, es = l.map encOp := h.list fun _ => fits_op
theorem fits_do {e : List DV} (h : FitsAll shDo e) : ∃ x : ADo, e = encDo x := by
  obtain _ | ⟨⟨⟩, _ | ⟨⟨⟩, _ | ⟨h1, _ | ⟨h2, _ | ⟨⟨⟩, _ | ⟨⟨⟩, _ | ⟨⟨⟩, _ | ⟨⟨⟩, _ | ⟨⟨⟩, _ | ⟨⟨⟩, _ | ⟨⟨⟩, _ | ⟨⟨⟩, ⟨⟩⟩⟩⟩⟩⟩⟩⟩⟩⟩⟩⟩⟩ := h
  cases h1 with
  | sl _ _ r1 =>
    cases h2 with
    | sl _ _ r2 =>
      obtain ⟨l1, rfl⟩ := fits_ops r1
      obtain ⟨l2, rfl⟩ := fits_ops r2
      exact ⟨⟨_, _, l1, l2, _, _, _, _, _, _, _, _⟩, rfl⟩
theorem fits_dos {es : List (List DV)} (h : FitsRows shDo es) : ∃ l : List ADo, es = l.map encDo := h.list fun _ => fits_do
end Go.Proofs.Ytjbiaoajmdbigaa
