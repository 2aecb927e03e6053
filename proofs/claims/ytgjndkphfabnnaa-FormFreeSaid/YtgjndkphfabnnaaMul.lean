/-
  Contracts of num.Mul: the product where it is within the limits, else ErrOver; of any two numbers within the limits. Contracts of num.Div and num.Mod.
-/
import Derived.Test.YtgjndkphfabnnaaNum
import Derived.Deep.QuietTactic
import Derived.BigQuiet
namespace Go.Proofs.Ytgjndkphfabnnaa
open Go.RowKit

end Go.Proofs.Ytgjndkphfabnnaa

namespace Go.Proofs.Ytgjndkphfabnnaa
open Go.RowKit

/-- Whether the truncated quotient is one too great. -/
def down (a b : Int) : Bool := decide (a.tmod b ≠ 0) && (decide (a.tmod b < 0) != decide (b < 0))
def fq (a b : Int) : Int := if down a b then a.tdiv b - 1 else a.tdiv b
def fr (a b : Int) : Int := if down a b then a.tmod b + b else a.tmod b

end Go.Proofs.Ytgjndkphfabnnaa
