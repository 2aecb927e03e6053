/-
  Well typed formulas are of their types, in plain words.
-/
import Derived.Test.YtmoahpojchndiaaGreatZL27
namespace Go.Proofs.YtmoahpojchndiaaGreat
open Go.RowKit
structure NotYet (B:Vl→Prop):Prop where
 kind:∀ v,B v→v.k=4∨v.k=5
 over:B (wK 7)
 zero:B (wK 8)
 size:B (wK 1)
end Go.Proofs.YtmoahpojchndiaaGreat
