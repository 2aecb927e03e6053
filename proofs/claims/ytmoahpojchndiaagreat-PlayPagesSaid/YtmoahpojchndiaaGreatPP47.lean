/-
  The laws' Form, Inputs and Oracle, and what whole.All gives of them.
-/
import Derived.Test.YtmoahpojchndiaaGreatPP46
namespace Go.Proofs.YtmoahpojchndiaaGreat
open Go.RowKit
set_option linter.unusedVariables false
end Go.Proofs.YtmoahpojchndiaaGreat
