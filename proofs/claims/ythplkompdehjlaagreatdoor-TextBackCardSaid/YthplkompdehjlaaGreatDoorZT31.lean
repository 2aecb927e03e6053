/-
  Contracts of lex.Tokens, parted by what comes of the text.
-/
import Derived.Test.YthplkompdehjlaaGreatDoorZT30
import Derived.Test.YthplkompdehjlaaGreatDoorZT24
namespace Go.Proofs.YthplkompdehjlaaGreatDoor
open Go.RowKit
end Go.Proofs.YthplkompdehjlaaGreatDoor
