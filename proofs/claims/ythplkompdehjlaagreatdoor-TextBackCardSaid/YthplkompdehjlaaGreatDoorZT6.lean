/-
  A call in a drawn region that gives a row of the caller's own.
-/
import Derived.Test.YthplkompdehjlaaGreatDoorZT5
namespace Go.Proofs.YthplkompdehjlaaGreatDoor
open Go.RowKit
set_option linter.unusedVariables false
section
variable {P:Program} {Q:Exit→Act→World→Prop} {R:Reg} {ops:Array Oper} {i:Nat}
end
end Go.Proofs.YthplkompdehjlaaGreatDoor
