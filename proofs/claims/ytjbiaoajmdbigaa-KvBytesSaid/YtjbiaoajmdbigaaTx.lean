/- Texts by their runes: what package text computes, and what the document says. -/
import Derived.Test.YtjbiaoajmdbigaaEB
set_option linter.unusedVariables false
set_option linter.unusedSimpArgs false
namespace Go.Proofs.Ytjbiaoajmdbigaa
open Go Go.E

def plainR (c : Int) : Bool := bif decide (c ≥ 32) then (bif c != 127 then c != 65533 else false) else false
/-- At least lo and at most hi runes, all plain; n were seen. -/
def allR (lo hi : Int) : List Int → Int → Bool
  | [], n => decide (lo ≤ n)
  | c :: r, n => if hi < n + 1 then false else if plainR c = true then allR lo hi r (n + 1) else false
def keyE (s : ByteArray) : Int := if allR 1 24 (runes s) 0 = true then 0 else 20
def valE (s : ByteArray) : Int := if allR 0 48 (runes s) 0 = true then 0 else 21
end Go.Proofs.Ytjbiaoajmdbigaa
