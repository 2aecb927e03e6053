/-
  Contracts of package num and of the law's own picked and within, over the given translation; no condition but that the numbers are int64's.
-/
import Derived.Test.YthgcgciceejicaaRows
import Derived.WalkKit
import Derived.WalkSpells
import Derived.WalkLawsBesides
import Derived.Lib.Hide
import Derived.Test.YthgcgciceejicaaPick
namespace Go.Proofs.Ythgcgciceejicaa
open Go.RowKit

end Go.Proofs.Ythgcgciceejicaa
