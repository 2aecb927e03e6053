/-
  Contract of the laws' Form. What holds of the laws' forms. The fields of the laws' forms may be.
-/
import Derived.Test.YthplkompdehjlaaGreatDoorZO9
import Derived.Test.YthplkompdehjlaaGreatDoorZO20
import Derived.Test.YthplkompdehjlaaGreatDoorZO39
import Derived.Test.YthplkompdehjlaaGreatDoorZO37
namespace Go.Proofs.YthplkompdehjlaaGreatDoor
open Go.RowKit
section
variable {P:Program} {C:Fx} {E:List (Nat × Value)} {B:List Ent} {F:List Fac} {h:Vw} {a:Act} {w w':World} {Q:Exit→Act→World→Prop} {c0:Code} {p:List Nat} {n:Nat} {ks:List Kt}
end
end Go.Proofs.YthplkompdehjlaaGreatDoor
namespace Go.Proofs.YthplkompdehjlaaGreatDoor
open Go.RowKit
set_option linter.unusedVariables false
end Go.Proofs.YthplkompdehjlaaGreatDoor
namespace Go.Proofs.YthplkompdehjlaaGreatDoor
open Go.RowKit
set_option linter.unusedVariables false
end Go.Proofs.YthplkompdehjlaaGreatDoor
namespace Go.Proofs.YthplkompdehjlaaGreatDoor
open Go.RowKit
end Go.Proofs.YthplkompdehjlaaGreatDoor
