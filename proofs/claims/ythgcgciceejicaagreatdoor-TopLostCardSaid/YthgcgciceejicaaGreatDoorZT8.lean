/-
  What every law's proof here uses: the program's own facts, and how the arguments are opened. Whether two strings are the same, as the program asks it.
-/
import Derived.Test.YthgcgciceejicaaGreatDoorRows
import Derived.WalkKit
import Derived.ProofKit
import Derived.OpenShut
import Derived.ShutString
import Derived.SizedLaws
namespace Go.Proofs.YthgcgciceejicaaGreatDoor
open Go.ChangeShapes Go.WideShapes Go.ChangeAt Go.RowKit
theorem ownNone:ownKnob Tryz.prog.godebug=none:=by kernel_rfl
theorem laidOutTrue:laidOutB Tryz.prog=true:=by kernel_rfl
theorem int_lo {n:Int} (h:(Lit.int .i64 n).wf=true) : -9223372036854775808<=n:=by
 have:=bounds_i64 h; omega
theorem int_hi {n:Int} (h:(Lit.int .i64 n).wf=true):n<=9223372036854775807:=by
 have:=bounds_i64 h; omega
theorem tl_no {a b:ByteArray} (h:a≠b):(a.toList == b.toList)=false:=by
 cases hb:a.toList == b.toList with
 | false=>rfl
 | true =>
  have:=beq_iff_eq.1 hb
  rw [ByteArray.toList_eq,ByteArray.toList_eq] at this;exact absurd (by cases a; cases b; simp_all) h
theorem tl_yes {a b:ByteArray} (h:a=b):(a.toList == b.toList)=true:=by rw [h]; exact beq_self_eq_true _
theorem tl_dec (a b:ByteArray):(a.toList == b.toList)=decide (a=b):=by
 by_cases e:a=b
 ·rw [tl_yes e,decide_eq_true e]
 ·rw [tl_no e,decide_eq_false e]
end Go.Proofs.YthgcgciceejicaaGreatDoor
