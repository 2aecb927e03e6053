/-
  How values are shown, in plain Lean: quoting and its undoing, numerals and their reading.
-/
import Derived.Test.YthgcgciceejicaaGreatDoorZU22
import Derived.Lib.Replace
import Derived.Lib.ItoaMem
import Derived.Lib.AtoiAllCases
import Derived.Lib.Small
namespace Go.Proofs.YthgcgciceejicaaGreatDoor
open Go.RowKit
set_option linter.unusedVariables false
end Go.Proofs.YthgcgciceejicaaGreatDoor
