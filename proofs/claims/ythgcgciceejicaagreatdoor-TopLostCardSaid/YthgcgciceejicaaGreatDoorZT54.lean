/-
  What a card's row says of the library's variables, as the walks want it.
-/
import Derived.Test.YthgcgciceejicaaGreatDoorZT25
import Derived.Test.YthgcgciceejicaaGreatDoorZT52
import Derived.Test.YthgcgciceejicaaGreatDoorZT53
import Derived.Deep.DeepHandedRow
import Derived.LaidMore
import Derived.Lay
import Derived.Stop.LaidErr
namespace Go.Proofs.YthgcgciceejicaaGreatDoor
open Go.RowKit
set_option linter.unusedVariables false
theorem lawC {f:FuncId} {args:Array Value} {w:World} (hc:C0 Tryz.prog f args ⟨w,[]⟩ (λv _=>v=.bool true)):Calls Tryz.prog f args w λe w'=>e=.returned (.bool true)/\Below w.heap.size w w':=by
 refine (hc (by intro x hx; cases hx) (by simp) (by simp) (by simp)).mono ?_;rintro e w' ⟨v,Bo,rfl,hl,-,-,rfl⟩;exact ⟨rfl,Low.below hl⟩
theorem one_cell {w:World} {g:Nat} {v:Value} {name:String} (hg:Tryz.prog.globalNamed name=some g) (hv:w.var? Tryz.prog name=some #[v]):Cells ⟨w,[]⟩ g 0 [v]:=by
 have hc:=World.var?_cell hg hv 0;simp at hc;refine ⟨Rx w _ hc,by simp,λj u hj=>?_⟩
 have:j=0/\u=v:=by
  cases j with
  | zero=>simp at hj; exact ⟨rfl,hj.symm⟩
  | succ j=>simp at hj
 obtain ⟨rfl,rfl⟩:=this;exact hc
theorem laid_at {P:Program} {w:World} {x:String × DataW Unit}:∀ {l:List (String × DataW Unit)} (i:Nat),laidMet P l w->l[i]?=some x->∃ r,laidMet P (x :: r) w
 | [],i,_,hi=>by simp at hi
 | y :: l,0,h,hi=>by simp at hi; subst hi; exact ⟨l,h⟩
 | y :: l,i + 1,h,hi=>laid_at i h.tail (by simpa using hi)
theorem err_at {P:Program} {w:World} {name nm:String} {d:DataW Unit} {r:List (String × DataW Unit)} {g:Nat} {t:TypeId} {ms:Array (String × TypeId)} (hg:P.globalNamed name=some g) (hty:(P.globals[g]?).map (·.type)=some t) (ht:P.underlying t=some (.interface ms))
  (h:laidMet P ((name,.iface nm d) :: r) w):∃ e,w.var? P name=some #[e]/\(e=.nilIface\/∃ t p,e=.iface t p):=by
 obtain ⟨ps,⟨g',t',cs,fuel,p,q,hg',ht',hvar,hd,_,_⟩,_⟩:=h;obtain rfl:=Dk (hg.symm.trans hg');obtain rfl:=Dk (hty.symm.trans ht');obtain ⟨f,u,v,hcs,-,-⟩:=iface_of_trod ht hd;obtain ⟨l⟩:=cs;simp only at hcs;subst hcs;exact ⟨_,hvar,.inr ⟨_,_,rfl⟩⟩
theorem gSy : Tryz.prog.globalNamed "strconv.ErrSyntax" = some 4 := by kernel_rfl
theorem gRg : Tryz.prog.globalNamed "strconv.ErrRange" = some 5 := by kernel_rfl
theorem Lk.of_laid {w:World} (hL:laidMet Tryz.prog Rows.topCalmRow.laid w) (hsh:w.ShapedOpen Tryz.prog):Lk ⟨w,[]⟩:=by
 obtain ⟨m,hm⟩:=cell_of_shapedOpen_int (P:=Tryz.prog) (g:=0) (t:=3) (zero:=#[.int .i64 0]) hsh (Yq (by kernel_rfl)) (by kernel_rfl) rfl (by kernel_rfl) (by kernel_rfl) Tryz.underlying3;obtain ⟨r2,h2⟩:=laid_at 2 hL rfl;obtain ⟨r4,h4⟩:=laid_at 4 hL rfl;obtain ⟨r5,h5⟩:=laid_at 5 hL rfl;have e2:Rows.laid_internal_strconv_uint64pow10 (H:=Unit)=Lib.tabData .u64 Lib.pow10Tab:=by kernel_rfl
 rw [e2] at h2;have tb:=Lib.tabIs_of_head gTab (t:=389) (e:=375) (n:=20) (by kernel_rfl) Tryz.underlying389 Tryz.underlying375 (by kernel_rfl) (by kernel_rfl) h2;obtain ⟨e4,c4,k4⟩:=err_at gRg (by kernel_rfl) Tryz.underlying219 h4;obtain ⟨e5,c5,k5⟩:=err_at gSy (by kernel_rfl) Tryz.underlying219 h5;have lt2:3 < w.heap.size:=Rx w _ (tb.cell gTab 0 (by decide));refine ⟨⟨m,⟨Rx w _ hm,by simp,λj u hj=>?_⟩⟩,lt2,by simp,tb,⟨e5,one_cell gSy c5,k5⟩,⟨e4,one_cell gRg c4,k4⟩⟩
 cases j with
 | zero=>simp at hj; subst hj; exact hm
 | succ j=>simp at hj
end Go.Proofs.YthgcgciceejicaaGreatDoor
