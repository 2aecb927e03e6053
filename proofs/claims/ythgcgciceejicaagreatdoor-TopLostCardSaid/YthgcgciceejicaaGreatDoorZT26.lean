/-
  Walks of functions that defer a call.
-/
import Derived.Test.YthgcgciceejicaaGreatDoorZT7
namespace Go.Proofs.YthgcgciceejicaaGreatDoor
open Go.RowKit
set_option linter.unusedVariables false
def Fx.dfr (C:Fx) (d:Deferred):Fx:=⟨C.N,C.w0,C.bad0,C.wr,d :: C.df⟩
section
variable {P:Program} {C:Fx} {c0:Code} {Q:Exit->Act->World->Prop} {h:Vw} {s:Z} {E:List (Nat × Value)} {B:List Ent} {F:List Fac} {a:Act} {w:World} {p:List Nat} {n:Nat} {ks:List Kt}
theorem J.dfr (hJ:J C E B h a w) (d:Deferred):J (C.dfr d) E B h { a with defers:=d :: a.defers } w :=
 ⟨λt u ht=>hJ.fits t u ht,hJ.size,by show _ :: _=_ :: _; rw [hJ.defers],hJ.low,hJ.sees,hJ.ents,hJ.nodup,hJ.own,hJ.badlt⟩
theorem x_defer (hK:K C E B F h a w) (d:Deferred) (hk:goodOp0 E (fX c0 p) n=true) (hr:∀ w,(execOp (evD E) (dX (fX c0 p) n)).run P w=.ok (.defer d) w)
  (k:∀ a w,K (C.dfr d) E B F h a w->Goal P c0 Q (.ops p (n + 1)) ks a w):Goal P c0 Q (.ops p n) ks a w:=by
 unfold goodOp0 at hk
 split at hk
 ·rename_i o r hl;simp only [Uj] at hk;obtain ⟨⟨k1,k2⟩,k3⟩:=hk;have hg:gKnown E (fX c0 p) o=some true:=by
   split at k1
   ·assumption
   ·cases k1
  have hr':=kK hl;have hrun:=hr w;rw [drop_opAt hl] at hrun;have hd:o.dst=none:=by simpa using k2
  refine kJ hl (iQ hK.j.fits hg) (Vk rfl λKK hKK=>?_);unfold Oper.wp;rw [kY (o:={ o with guard:=none }) hK.j.fits k3];have hrun2:(execOp (evD E) { o with guard:=none }).run P w=.ok (.defer d) w:=hrun;rw [hrun2,Oper.upon_defer];have hput:({ a with defers:=d :: a.defers }:Act).put ({ o with guard:=none }:Oper).dst undef={ a with defers:=d :: a.defers }:=by
   show ({ a with defers:=d :: a.defers }:Act).put o.dst undef=_;rw [hd]; rfl
  rw [hput];refine hKK _ _ ?_;rw [hr'];exact k _ _ ⟨hK.j.dfr d,hK.f⟩
 ·cases hk
theorem g_defer (d:Deferred) (k:Go P (C.dfr d) c0 Q h s.nx0) (hp:isOps s.p=true:=by kernel_rfl) (hk:goodOp0 s.E (s.ops c0) (nnOf s.p)=true:=by kernel_rfl)
  (hr:∀ w,(execOp (evD s.E) (s.op c0)).run P w=.ok (.defer d) w:=by intro _; kernel_rfl):Go P C c0 Q h s :=
 g_ops hp λa w hK=>x_defer hK d hk hr k.go
def Idle (P:Program) (d:Deferred):Prop:=∃ (fv:Fn) (cap:Array Value) (g:FuncId) (ga:Array Value),d.target=.fn fv cap/\(∀ w,(invoke d.target d.args).run P w=.ok (.enter g ga) w)/\∀ w,CallsD P g ga .returning w λe u' w'=>e=.returned (.tuple #[])/\u'=.returning/\w'=w
structure EndD (P:Program) (C:Fx) (c0:Code) (Q:Exit->Act->World->Prop) (fn:Func) (R:Value->Vw->Prop) (d:Deferred):Prop where
 go:∀ {s:Z} {h:Vw} (vs:List Value) (ix:List Nat),(endZ P s fn.results.toList ix vs [] []).map (·.1)=(endZ P s fn.results.toList ix vs [] []).map (·.2)->(∀ a w,K (C.dfr d) s.E s.B s.F h a w->R (pack vs) ⟨w,C.bad0⟩)->Go P (C.dfr d) c0 Q h s
theorem EndD.to {fn:Func} {R:Value->Vw->Prop} {d:Deferred} (hQ:EndD P C c0 Q fn R d) (vs:List Value) (k:∀ H,Sees h H->R (pack vs) H) (ix:List Nat:=[]) (hc:(endZ P s fn.results.toList ix vs [] []).map (·.1)=(endZ P s fn.results.toList ix vs [] []).map (·.2):=by kernel_rfl):Go P (C.dfr d) c0 Q h s :=
 hQ.go vs ix hc λa w hK=>k _ hK.j.out
theorem bodyEnd {s:Z} {fn:Func} {vs:List Value} {ix:List Nat} {a:Act} {w:World} {K':Prop} (hc:(endZ P s fn.results.toList ix vs [] []).map (·.1)=(endZ P s fn.results.toList ix vs [] []).map (·.2)) (hK:K C s.E s.B s.F h a w) (q:Res P a w fn.results.toList vs->Q .normal a w/\Q .ret a w):Goal P c0 Q s.p s.ks a w:=by
 have hc:=map_pair hc;have c1:=hc _ (Zk ..);have c3:∀ e∈resZ P s fn.results.toList ix vs,e.1=e.2:=λe he=>hc e (Gk _ (Gk _ he));simp only [Any.b.injEq,Uj] at c1;obtain ⟨⟨e1,e2⟩,-⟩:=c1;have hks:s.ks=[]:=by simpa using e2
 have q:=q (resZ_res hK c3);rw [hks];generalize s.p=pt at *;unfold isEnd at e1
 split at e1
 ·exact q.1
 ·exact q.2
 ·cases e1
theorem g_conD {f:FuncId} {fn:Func} {args:Array Value} {R:Value->Vw->Prop} (hf:P.funcs[f]?=some fn)
  (body:∀ (Q:Exit->Act->World->Prop),EndQ P ⟨fn.ntmps,h.w,h.bad,[],[]⟩ (fn.body.getD .skip) Q fn [] (λv _ h'=>R v h')->(∀ d,Idle P d->EndD P ⟨fn.ntmps,h.w,h.bad,[],[]⟩ (fn.body.getD .skip) Q fn R d)->Go P ⟨fn.ntmps,h.w,h.bad,[],[]⟩ (fn.body.getD .skip) Q h ⟨.code [],[],argE 0 args.toList,[],[]⟩)
  (hb:fn.body=some (fn.body.getD .skip):=by kernel_rfl) (hle:Nat.ble args.size fn.ntmps=true:=by kernel_rfl):C0 P f args h R:=by
 intro hbox hnd hbad hlt;have hle:=Nq hle;refine calls_of_wp_defers hf hb ?_;refine x_start ((body _ (λ{s h'} vs ix css hc hR=>.mk λa w hK'=>?_) (λd hi=>⟨λ{s h'} vs ix hc hR=>.mk λa w hK'=>?_⟩)).go _ _ ⟨⟨λd v hv=>?_,by simp; omega,rfl,Low.refl _ _,⟨Hj _,λ_ _ _=>rfl,λb hb _=>hb⟩,(λe he=>by cases he),List.nodup_nil,(λb hb=>by cases hb),hlt⟩,λx hx=>by cases hx⟩)
 ·have hcs:css=[]:=by
   have:=map_pair hc _ (Zk ..)
   simp only [Any.b.injEq,Uj] at this;have e:=Zj this.2;exact Wq.1 e.symm
  subst hcs;refine bodyEnd (K':=True) hc hK' λhres=>?_;have hp:bodyPostD P fn (λe w'=>∃ v Bo,e=.returned v/\Low (([]:List (Nat × List Value)).map (·.1)) h.w w'/\BoxesOk w' Bo/\Bo.map (·.1)=([]:List (Nat × List Value)).map (·.1)/\R v ⟨w',h.bad⟩) .ret a w:=by
   show Leaves P fn a.tmps _ a.defers .returning w;rw [hK'.j.defers];exact ⟨pack vs,run_results hres,_,[],rfl,hK'.j.low,(λx hx=>by cases hx),rfl,hR a w hK'⟩
  exact ⟨hp,hp⟩
 ·refine bodyEnd (K':=True) hc hK' λhres=>?_;have hp:bodyPostD P fn (λe w'=>∃ v Bo,e=.returned v/\Low (([]:List (Nat × List Value)).map (·.1)) h.w w'/\BoxesOk w' Bo/\Bo.map (·.1)=([]:List (Nat × List Value)).map (·.1)/\R v ⟨w',h.bad⟩) .ret a w:=by
   show Leaves P fn a.tmps _ a.defers .returning w;rw [hK'.j.defers];obtain ⟨fv,cap,g,ga,ht,hinv,hcall⟩:=hi;refine ⟨by simp,fv,cap,g,ga,ht,hinv w,(hcall w).mono ?_⟩;rintro e u' w' ⟨rfl,rfl,hw'⟩;replace hw':=hw'.symm;subst hw';exact ⟨pack vs,run_results hres,_,[],rfl,hK'.j.low,(λx hx=>by cases hx),rfl,hR a w hK'⟩
  exact ⟨hp,hp⟩
 ·obtain ⟨h1,h2⟩:=argE_lookup _ _ _ _ hv;simp only [Nat.sub_zero,Qv] at h2;have hd:=(Nk.1 h2).1;simp only [Act.eval,Pq];rw [Array.getElem?_append_left hd,h2]
  rfl
end
end Go.Proofs.YthgcgciceejicaaGreatDoor
