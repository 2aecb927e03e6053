/-
  What every law's proof here uses: the program's own facts, and how the arguments are opened.
-/
import Derived.Test.YtgjndkphfabnnaaRows
import Derived.WalkKit
import Derived.ProofKit
import Derived.OpenShut
import Derived.ShutString
import Derived.ChangeOld
import Derived.Below
import Derived.SizedLaws
namespace Go.Proofs.Ytgjndkphfabnnaa
open Go.ChangeShapes Go.WideShapes Go.ChangeAt Go.RowKit

theorem ownNone : ownKnob Try.prog.godebug = none := by kernel_rfl
theorem laidOutTrue : laidOutB Try.prog = true := by kernel_rfl

theorem int_lo {n : Int} (h : (Lit.int .i64 n).wf = true) : -9223372036854775808 ≤ n := by
  have := bounds_i64 h; omega
theorem int_hi {n : Int} (h : (Lit.int .i64 n).wf = true) : n ≤ 9223372036854775807 := by
  have := bounds_i64 h; omega

end Go.Proofs.Ytgjndkphfabnnaa
