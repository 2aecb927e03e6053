/-
  How values are shown, in plain Lean: quoting and its undoing, numerals and their reading.
-/
import Derived.Test.YthgcgciceejicaaGreatDoorZT22
import Derived.Lib.Replace
import Derived.Lib.ItoaMem
import Derived.Lib.AtoiAllCases
import Derived.Lib.Small
namespace Go.Proofs.YthgcgciceejicaaGreatDoor
open Go.RowKit
set_option linter.unusedVariables false
def rp (c:UInt8) (new:List UInt8) (b:UInt8):List UInt8:=if b=c then new else [b]
end Go.Proofs.YthgcgciceejicaaGreatDoor
