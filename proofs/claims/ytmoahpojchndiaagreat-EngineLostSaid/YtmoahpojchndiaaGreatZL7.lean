/-
  In a drawn region: a store into a map of the call's own; a call that reads a row of the caller's own and gives a new one.
-/
import Derived.Test.YtmoahpojchndiaaGreatZL6
namespace Go.Proofs.YtmoahpojchndiaaGreat
open Go.RowKit
set_option linter.unusedVariables false
section
variable {P:Program} {Q:Exit→Act→World→Prop} {R:Reg} {ops:Array Oper} {i:Nat}
end
section
variable {P:Program} {c0:Code} {Q:Exit→Act→World→Prop} {a:Act} {w:World} {p:List Nat} {ks:List Kt}
end
end Go.Proofs.YtmoahpojchndiaaGreat
