/-
  Contracts of lex.Tokens, parted by what comes of the text.
-/
import Derived.Test.YthplkompdehjlaaGreatDoorZO30
import Derived.Test.YthplkompdehjlaaGreatDoorZO24
namespace Go.Proofs.YthplkompdehjlaaGreatDoor
open Go.RowKit
end Go.Proofs.YthplkompdehjlaaGreatDoor
