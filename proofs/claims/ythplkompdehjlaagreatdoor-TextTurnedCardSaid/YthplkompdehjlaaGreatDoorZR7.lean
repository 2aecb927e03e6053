/-
  In a drawn region: a store into a map of the call's own; a call that reads a row of the caller's own and gives a new one.
-/
import Derived.Test.YthplkompdehjlaaGreatDoorZR6
namespace Go.Proofs.YthplkompdehjlaaGreatDoor
open Go.RowKit
set_option linter.unusedVariables false
section
variable {P:Program} {Q:Exit→Act→World→Prop} {R:Reg} {ops:Array Oper} {i:Nat}
end
section
variable {P:Program} {c0:Code} {Q:Exit→Act→World→Prop} {a:Act} {w:World} {p:List Nat} {ks:List Kt}
theorem x_cut (I:Act→World→Prop) (h:Goal P c0 (Exit.then I (post P c0 Q ks)) (.code p) [] a w) (k:∀ a w,I a w→Goal P c0 Q (.out .normal) ks a w):Goal P c0 Q (.code p) ks a w:=by
 show (sub c0 p).wp P (post P c0 Q ks) a w
 refine Code.wp_mono (fun e a' w' q=>?_) (show (sub c0 p).wp P (Exit.then I (post P c0 Q ks)) a w from h)
 cases e <;> first | exact k _ _ q | exact q
end
end Go.Proofs.YthplkompdehjlaaGreatDoor
