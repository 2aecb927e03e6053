/-
  In a drawn region: a store into a map of the call's own; a call that reads a row of the caller's own and gives a new one.
-/
import Derived.Test.YthplkompdehjlaaGreatPR6
namespace Go.Proofs.YthplkompdehjlaaGreat
open Go.RowKit
set_option linter.unusedVariables false
section
variable {P:Program} {Q:Exit->Act->World->Prop} {R:Reg} {ops:Array Oper} {i:Nat}
theorem r_callqf (hT:fK R=true) (hA:eK R ops=true) (hmono:∀ q∈R.F,∀ x h h',Sees h h'->q.2 x h->q.2 x h') (hi:Ind R i) (d:Nat) (F:Value->Value) (dp:List Nat) (p:Nat) (hp:R.T[p]?=some (i,d,λx=>F (x i))) (ho:only R i none=true) (hk:∀ x,okR R ops i d dp x=true)
  (e2:Nat) (g2:Gent) (hg2:R.G[e2]?=some g2) (hs2:sync R i g2=true) (v2:Gh->Value) (t2:TypeId) (kk:Nat) (l2:List (List Value)) (hc2:∀ x,lK (R.an i) x g2=some (.row (v2 x) t2 kk l2)) {te:TypeId} {k1:Nat} (l:List (List Value))
  (n:Nat) (hn:R.F[n]?=some (i,λx h=>RS h k1 (F (x i)) l)) (hon:(R.F.zipIdx.all λ(p,j)=>p.1 != i || j == n)=true)
  (k:FuncId) (args:Gh->Array Value) (hr:∀ x w,(execOp (evD (rdE R i dp x)) (gX ops i)).run P w=.ok (.enter k (args x)) w)
  (hc:∀ x H,H.bad=[]->Sees R.h H->(∀ (j:Nat) (q:Nat × (Gh->Vw->Prop)),R.F[j]?=some q->(R.an i).contains q.1=true->q.2 x H)->RS H kk (v2 x) l2 ->
   C0 P k (args x) H (λv H'=>∃ u lu,Ent.ok H.w.heap.size H'.w (.row u te k1 lu)/\(∃ z,u=F z)/\v=u/\lu=l)):StepAt' P ops Q R i:=by
 refine .mk λo D x h a w hio hnD hd I=>?_;obtain ⟨h1,h2,h3,h4⟩:=yW hio (hk x);have han:=sJ hA hio I hd;have hcur2:=(mK (x':=x) I hnD han hs2).trans (hc2 x);have hm2:Ent.row (v2 x) t2 kk l2∈BD R.G D x:=by rw [nJ hg2,hcur2]; simp
 obtain ⟨j2,hj2⟩:=Yq.1 hm2;have sQ:Sees h ⟨w,[]⟩:=I.mem.seesQ;have hcc:=hc x ⟨w,[]⟩ rfl (I.sees.trans sQ) (λj q hq hc=>hmono q (Dj hq) x _ _ sQ (I.facts q (Dj hq) (han _ (by simpa using hc)))) (I.mem.rowQ j2 hj2);refine fA hio (pQ hio (mY hio h1 I hd hnD) h2) (by rw [yY (mY hio h1 I hd hnD) h4,<- jX hio]; exact hr x w) ((hcc (by intro y hy; cases hy) (by simp) (by simp) (by intro b hb; cases hb)).mono ?_);rintro e' w' ⟨v,Bo,rfl,hl,-,-,u,lu,hok,⟨z,rfl⟩,rfl,rfl⟩;obtain ⟨j,s⟩:=I.mem.called hl;refine ⟨F z,rfl,upd x i z,⟨w',blk (BD R.G D x)++R.C.bad0⟩,?_⟩;rw [h3];have hself:upd x i z i=z:=by simp [upd]
 refine I.next hio hT hA hnD hd ?_ s (hi.at_t I hnD z) (.inl ⟨d,_,Dj hp,by simp only [hself]⟩) (zK hi hmono I hnD z s (λj q hq he=>?_))
 ·rw [eX ho,hi.at_g I hnD z _ (λ_ h=>h)];exact j.putN _ _
 ·have:=Sj.1 hon (q,j) (Lw.2 hq)
  simp only [he,bne_self_eq_false,Bool.false_or,Zj] at this;subst this;rw [hn] at hq;simp only [Wj] at hq;subst hq;show RS _ k1 (F (upd x i z i)) _;rw [hself];refine row_rs hok λb hb hm=>?_;have hlt:=vJ I.mem b hm
  have:=(hok.1.lt b hb).1
  simp only at this;omega
end
section
variable {P:Program} {c0:Code} {Q:Exit->Act->World->Prop} {a:Act} {w:World} {p:List Nat} {ks:List Kt}
theorem x_cut (I:Act->World->Prop) (h:Goal P c0 (Exit.then I (post P c0 Q ks)) (.code p) [] a w) (k:∀ a w,I a w->Goal P c0 Q (.out .normal) ks a w):Goal P c0 Q (.code p) ks a w:=by
 show (sub c0 p).wp P (post P c0 Q ks) a w;refine Code.wp_mono (λe a' w' q=>?_) (show (sub c0 p).wp P (Exit.then I (post P c0 Q ks)) a w from h)
 cases e <;> first | exact k _ _ q | exact q
end
end Go.Proofs.YthplkompdehjlaaGreat
