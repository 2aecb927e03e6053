/-
  Well typed formulas are of their types, in plain words.
-/
import Derived.Test.YtmoahpojchndiaaGreatZQ27
namespace Go.Proofs.YtmoahpojchndiaaGreat
open Go.RowKit
structure NotYet (B:Vl→Prop):Prop where
 kind:∀ v,B v→v.k=4∨v.k=5
 over:B (xK 7)
 zero:B (xK 8)
 size:B (xK 1)
end Go.Proofs.YtmoahpojchndiaaGreat
