/-
  Rows of the call's own that are turned in place: what is left behind a delete.
-/
import Derived.Test.YthplkompdehjlaaGreatDoorZR4
import Derived.Lib.SliceRun
import Derived.Deep.Upon
import Derived.Deep.MidRow
import Derived.Deep.RegionLaw
namespace Go.Proofs.YthplkompdehjlaaGreatDoor
open Go.RowKit
end Go.Proofs.YthplkompdehjlaaGreatDoor
