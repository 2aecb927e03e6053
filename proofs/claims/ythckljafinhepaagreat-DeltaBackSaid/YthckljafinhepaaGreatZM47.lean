/-
  The laws' Form, Inputs and Oracle, and what whole.All gives of them.
-/
import Derived.Test.YthckljafinhepaaGreatZM46
namespace Go.Proofs.YthckljafinhepaaGreat
open Go.RowKit
set_option linter.unusedVariables false
end Go.Proofs.YthckljafinhepaaGreat
