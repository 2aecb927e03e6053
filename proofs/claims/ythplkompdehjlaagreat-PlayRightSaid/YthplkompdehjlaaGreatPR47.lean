/-
  The laws' Form, Inputs and Oracle, and what whole.All gives of them.
-/
import Derived.Test.YthplkompdehjlaaGreatPR46
namespace Go.Proofs.YthplkompdehjlaaGreat
open Go.RowKit
set_option linter.unusedVariables false
end Go.Proofs.YthplkompdehjlaaGreat
