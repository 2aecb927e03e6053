/-
  What a card's row says of the library's variables, as the walks want it.
-/
import Derived.Test.YtmoahpojchndiaaGreatDoorZD47
import Derived.Test.YtmoahpojchndiaaGreatDoorZD10
import Derived.Test.YtmoahpojchndiaaGreatDoorZD48
import Derived.Test.YtmoahpojchndiaaGreatDoorZD49
import Derived.Deep.DeepHandedRow
import Derived.Lib.LaidTab
import Derived.LaidLaws
import Derived.LaidMore
import Derived.Lay
import Derived.MakeChecks
import Derived.Shelf.Vars
import Derived.Stop.LaidErr
namespace Go.Proofs.YtmoahpojchndiaaGreatDoor
open Go.RowKit
set_option linter.unusedVariables false
theorem lawC {f:FuncId} {args:Array Value} {w:World} (hc:C0 Tryz.prog f args ⟨w,[]⟩ (fun v _=>v=.bool true)):Calls Tryz.prog f args w fun e w'=>e=.returned (.bool true)∧Below w.heap.size w w':=by
 refine (hc (by intro x hx; cases hx) (by simp) (by simp) (by simp)).mono ?_
 rintro e w' ⟨v,Bo,rfl,hl,-,-,rfl⟩
 exact ⟨rfl,Low.below hl⟩
theorem laid_at {P:Program} {w:World} {x:String × DataW Unit}:∀ {l:List (String × DataW Unit)} (i:Nat),laidMet P l w→l[i]?=some x→∃ r,laidMet P (x :: r) w
 | [],i,_,hi=>by simp at hi
 | y :: l,0,h,hi=>by simp at hi; subst hi; exact ⟨l,h⟩
 | y :: l,i + 1,h,hi=>laid_at i h.tail (by simpa using hi)
theorem Lk.of_laid {w:World} (hL:laidMet Tryz.prog Rows.submitOnceRow.laid w) (hsh:w.ShapedOpen Tryz.prog):Lk ⟨w,[]⟩:=by
 obtain ⟨m,hm⟩:=cell_of_shapedOpen_int (P:=Tryz.prog) (g:=1) (t:=3) (zero:=#[.int .i64 0]) hsh (of_decide_eq_true (by kernel_rfl)) (by kernel_rfl) rfl (by kernel_rfl) (by kernel_rfl) Tryz.underlying3
 obtain ⟨r2,h2⟩:=laid_at 2 hL rfl
 have e2:Rows.laid_internal_strconv_uint64pow10 (H:=Unit)=Lib.tabData .u64 Lib.pow10Tab:=by kernel_rfl
 rw [e2] at h2
 have tb:=Lib.tabIs_of_head gTab (t:=192) (e:=160) (n:=20) (by kernel_rfl) Tryz.underlying192 Tryz.underlying160 (by kernel_rfl) (by kernel_rfl) h2
 have lt2:0 < w.heap.size:=World.block_lt_of_cell? w _ (tb.cell gTab 0 (by decide))
 refine ⟨⟨m,⟨World.block_lt_of_cell? w _ hm,by simp,fun j u hj=>?_⟩⟩,lt2,by simp,tb⟩
 cases j with
 | zero=>simp at hj; subst hj; exact hm
 | succ j=>simp at hj
end Go.Proofs.YtmoahpojchndiaaGreatDoor
