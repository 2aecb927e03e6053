/-
  Contracts of lex.Tokens, parted by what comes of the text.
-/
import Derived.Test.YthplkompdehjlaaGreatDoorZR30
import Derived.Test.YthplkompdehjlaaGreatDoorZR24
namespace Go.Proofs.YthplkompdehjlaaGreatDoor
open Go.RowKit
end Go.Proofs.YthplkompdehjlaaGreatDoor
