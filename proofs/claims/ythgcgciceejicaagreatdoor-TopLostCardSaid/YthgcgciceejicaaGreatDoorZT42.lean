/-
  Calls that change blocks, rows and maps of the caller's own, and may give new ones.
-/
import Derived.Test.YthgcgciceejicaaGreatDoorZT41
set_option maxHeartbeats 4000000
set_option maxRecDepth 100000
namespace Go.Proofs.YthgcgciceejicaaGreatDoor
open Go.RowKit
set_option linter.unusedVariables false
def qX {α:Type} (ix:List Nat) (B:List α):List α:=(B.zipIdx.filter λp=>ix.contains p.2).map (·.1)
def restI {α:Type} (ix:List Nat) (B:List α):List α:=(B.zipIdx.filter λp => !(ix.contains p.2)).map (·.1)
theorem zip_fst {α:Type} (B:List α):B.zipIdx.map (·.1)=B:=by simp
theorem pickI_sub {α:Type} (ix:List Nat) (B:List α):(qX ix B).Sublist B:=by
 have h:=(List.filter_sublist (p:=λp:α × Nat=>ix.contains p.2) (l:=B.zipIdx)).map (·.1)
 rwa [zip_fst] at h
theorem restI_sub {α:Type} (ix:List Nat) (B:List α):(restI ix B).Sublist B:=by
 have h:=(List.filter_sublist (p:=λp:α × Nat => !(ix.contains p.2)) (l:=B.zipIdx)).map (·.1)
 rwa [zip_fst] at h
theorem pick_rest {α:Type} (ix:List Nat) (B:List α):B.Perm (qX ix B++restI ix B):=by
 have h:=(List.filter_append_perm (λp:α × Nat=>ix.contains p.2) B.zipIdx).map (·.1);rw [Mk,zip_fst] at h;exact h.symm
theorem blk_sub {l m:List Ent} (h:l.Sublist m):(blk l).Sublist (blk m):=sub_flat h
theorem Ent.ok_base {base base':Nat} {w:World} {e:Ent} (h:e.ok base w) (hb:∀ b∈e.blocks,base' <= b):e.ok base' w:=by
 cases e with
 | box b cs=>exact h
 | map b es=>exact h
 | row v t k l =>
  obtain ⟨⟨h0,h1⟩,h2⟩:=h;refine ⟨⟨h0,?_⟩,h2⟩;rcases h1 with h1 | ⟨g,cap,cur,rfl,hb',r⟩
  ·exact .inl h1
  ·exact .inr ⟨g,cap,cur,rfl,hb g (by simp [Ent.blocks,Value.ownBlock]),r⟩
theorem Fx.base_wr {C:Fx} {b:Nat} (h:C.w0.heap.size <= b\/b∈C.wr):C.base <= b:=by
 rcases h with h | h
 ·exact Yk C.base_le h
 ·unfold Fx.base
  split
  ·rename_i e; rw [e] at h; cases h
  ·exact Mj _
def ConE (P:Program) (f:FuncId) (args:Array Value) (h:Vw) (Bi:List Ent) (R:Value -> List Ent -> Vw -> Prop):Prop :=
 (∀ e∈Bi,e.ok 0 h.w) -> (blk Bi).Nodup -> (∀ b∈blk Bi,b∈h.bad) -> (∀ b∈h.bad,b < h.w.heap.size) ->
 Calls P f args h.w λen w'=>∃ v Bo,en=.returned v /\ Low (blk Bi) h.w w' /\ (∀ e∈Bo,e.ok 0 w') /\ (blk Bo).Nodup /\ (∀ b∈blk Bo,b∈blk Bi\/h.w.heap.size <= b) /\ R v Bo ⟨w',blk Bo++h.bad⟩
theorem ConE.mono {P:Program} {f:FuncId} {args:Array Value} {h:Vw} {Bi:List Ent} {R R':Value -> List Ent -> Vw -> Prop} (hc:ConE P f args h Bi R) (k:∀ v Bo H,R v Bo H -> R' v Bo H):ConE P f args h Bi R':=λh1 h2 h3 h4 =>
 (hc h1 h2 h3 h4).mono λen w' ⟨v,Bo,e1,e2,e3,e4,e5,e6⟩=>⟨v,Bo,e1,e2,e3,e4,e5,k _ _ _ e6⟩
section
variable {P:Program} {C:Fx} {E:List (Nat × Value)} {B:List Ent} {F:List Fac} {c0:Code} {Q:Exit -> Act -> World -> Prop} {h:Vw} {s:Z} {a:Act} {w w':World} {p:List Nat} {n:Nat} {ks:List Kt}
theorem J.calledX (hJ:J C E B h a w) {Bi Br Bo:List Ent} (hB:B.Perm (Bi++Br)) (hl:Low (blk Bi) w w') (hok:∀ e∈Bo,e.ok 0 w') (hnd:(blk Bo).Nodup) (hbo:∀ b∈blk Bo,b∈blk Bi\/w.heap.size <= b) :
  Sees h ⟨w',blk Bo++(blk B++C.bad0)⟩ /\ J C E (Bo++Br) ⟨w',blk Bo++(blk B++C.bad0)⟩ a w':=by
 have hp:(blk B).Perm (blk Bi++blk Br):=by rw [<- vJ]; exact hB.flatMap_right _
 have hbl:=blk_lt hJ;have hi:∀ b∈blk Bi,b∈blk B:=λb hb=>hp.mem_iff.2 (Ek _ hb);have hr:∀ b∈blk Br,b∈blk B:=λb hb=>hp.mem_iff.2 (Vj _ hb);have hdis:=(Dq.1 (hp.nodup_iff.1 hJ.nodup)).2.2;have hsz:=hJ.sees.size;have hbad:∀ b∈blk Bo++(blk B++C.bad0),b < h.w.heap.size -> b∈h.bad:=λb hb hlt=>by
  rcases Qj.1 hb with q | q
  ·rcases hbo b q with q | q
   ·exact hJ.sees.bad b (Ek _ (hi b q)) hlt
   ·simp only at hsz; omega
  ·exact hJ.sees.bad b q hlt
 have hs:Sees h ⟨w',blk Bo++(blk B++C.bad0)⟩:=⟨Yk hsz hl.size,λb hb hn=>(hl.block b (Cq hb hsz) (λq=>hn (hJ.sees.bad b (Ek _ (hi b q)) hb))).trans (hJ.sees.block b hb hn),hbad⟩;have hown:∀ b∈blk Bo,C.w0.heap.size <= b\/b∈C.wr:=λb hb=>by
  rcases hbo b hb with q | q
  ·exact hJ.own b (hi b q)
  ·exact .inl (Yk hJ.low.size q)
 refine ⟨hs,hJ.fits,hJ.size,hJ.defers,⟨hl.os.trans hJ.low.os,hl.tape.trans hJ.low.tape,hl.output.trans hJ.low.output,Yk hJ.low.size hl.size,λk hk hm=>?_⟩,⟨Hj _,λ_ _ _=>rfl,λb hb _=>?_⟩,λe he=>?_,?_,λb hb=>?_,hJ.badlt⟩
 ·refine (hl.block k (Cq hk hJ.low.size) (λq=>?_)).trans (hJ.low.block k hk hm);rcases hJ.own k (hi k q) with g | g
  ·omega
  ·exact hm g
 ·rw [vJ,Lq] at hb;rcases Qj.1 hb with q | q
  ·exact Ek _ q
  ·refine Vj _ ?_;rcases Qj.1 q with q | q
   ·exact Ek _ (hr b q)
   ·exact Vj _ q
 ·rcases Qj.1 he with q | q
  ·exact Ent.ok_base (hok e q) λb hb=>Fx.base_wr (hown b (Fk.2 ⟨e,q,hb⟩))
  ·have he:e∈B:=hB.mem_iff.2 (Vj _ q);refine ok_block (hJ.ents e he) hl.size λb hb=>?_;have hbr:b∈blk Br:=Fk.2 ⟨e,q,hb⟩;exact hl.block b (hbl b (hr b hbr)) λq'=>hdis b q' b hbr rfl
 ·rw [vJ,Dq];refine ⟨hnd,(Dq.1 (hp.nodup_iff.1 hJ.nodup)).2.1,λx hx y hy e=>?_⟩;subst e;rcases hbo x hx with q | q
  ·exact hdis x q x hy rfl
  ·have:=hbl x (hr x hy); omega
 ·rw [vJ] at hb;rcases Qj.1 hb with q | q
  ·exact hown b q
  ·exact hJ.own b (hr b q)
theorem J.pre (hJ:J C E B h a w) (ix:List Nat):(∀ e∈qX ix B,e.ok 0 w) /\ (blk (qX ix B)).Nodup /\ (∀ b∈blk (qX ix B),b∈blk B++C.bad0) :=
 ⟨λe he=>Ent.ok_base (hJ.ents e ((pickI_sub ix B).mem he)) λ_ _=>Mj _,hJ.nodup.sublist (blk_sub (pickI_sub ix B)),λb hb=>Ek _ ((blk_sub (pickI_sub ix B)).mem hb)⟩
theorem x_callE {f:FuncId} {args:Array Value} {R:Value -> List Ent -> Vw -> Prop} (hK:K C E B F h a w) (d:Nat) (ix:List Nat) (hc:ConE P f args ⟨w,blk B++C.bad0⟩ (qX ix B) R) (hk:∀ w,callAt P C E (fX c0 p) ((fX c0 p).toList.drop n) d w=[.b true,.r (.ok (.enter f args) w)])
  (k:∀ v Bo h' a w,Sees h h' -> R v Bo h' -> K C ((d,v) :: E) (Bo++restI ix B) F h' a w -> Goal P c0 Q (.ops p (n + 1)) ks a w):Goal P c0 Q (.ops p n) ks a w:=by
 obtain ⟨o,r,hl,hg,hd,hlt,hkn,hrun⟩:=zJ hk;have hr:=kK hl;refine kJ hl (iQ hK.j.fits hg) (Vk rfl λKK hKK=>?_);unfold Oper.wp;have hrun':∀ w,(execOp (evD E) { o with guard:=none }).run P w=.ok (.enter f args) w:=λw=>by
  have:=hrun w
  unfold execOp at this ⊢;exact this
 rw [kY (o:={ o with guard:=none }) hK.j.fits hkn,hrun'];obtain ⟨p1,p2,p3⟩:=hK.j.pre ix;refine (hc p1 p2 p3 (bad_lt hK.j)).mono ?_;rintro e' w' ⟨v,Bo,rfl,hlo,hok,hnd,hbo,hR⟩;refine hKK _ _ ?_;rw [hr];obtain ⟨s1,j1⟩:=hK.j.calledX (pick_rest ix B) hlo hok hnd hbo;exact k v Bo _ _ _ s1 hR ⟨j1.putd v hd hlt,hK.facs s1⟩
def Z.eB (s:Z) (ix:List Nat) (Bo:List Ent):Z:=⟨s.p,s.ks,s.E,Bo++restI ix s.B,s.F⟩
theorem g_callEJ {f:FuncId} {args:Array Value} {Bi:List Ent} {R:Value -> List Ent -> Vw -> Prop} (ix:List Nat) (hc:∀ a w,K C s.E s.B s.F h a w -> ConE P f args ⟨w,blk s.B++C.bad0⟩ Bi R) (k:∀ v Bo h',Sees h h' -> R v Bo h' -> Go P C c0 Q h' ((s.nx c0 v).eB ix Bo)) (hB:qX ix s.B=Bi:=by kernel_rfl) (hk:s.callOk P C c0 f args:=by intro _; kernel_rfl):Go P C c0 Q h s:=by
 subst hB;exact g_ops (aK hk).1 λa w hK=>x_callE hK (s.d c0) ix (hc a w hK) (aK hk).2 λv Bo h' a w s' r hK'=>(k v Bo h' s' r).go a w hK'
theorem nQ {f:FuncId} {args:Array Value} {Bi:List Ent} {R:Value -> List Ent -> Vw -> Prop} (ix:List Nat) (hc:∀ H,Sees h H -> ConE P f args H Bi R) (k:∀ v Bo h',Sees h h' -> R v Bo h' -> Go P C c0 Q h' ((s.nx c0 v).eB ix Bo)) (hB:qX ix s.B=Bi:=by kernel_rfl) (hk:s.callOk P C c0 f args:=by intro _; kernel_rfl):Go P C c0 Q h s :=
 g_callEJ ix (λ_ _ hK=>hc _ hK.j.sees) k hB hk
def EndE (P:Program) (C:Fx) (c0:Code) (Q:Exit -> Act -> World -> Prop) (fn:Func) (R:Value -> List Ent -> Vw -> Prop):Prop :=
 ∀ {s:Z} {h:Vw} (vs:List Value) (ix:List Nat) (jx:List Nat) (Bo:List Ent),(endZ P s fn.results.toList ix vs [] []).map (·.1)=(endZ P s fn.results.toList ix vs [] []).map (·.2) -> qX jx s.B=Bo -> (∀ a w,K C s.E s.B s.F h a w -> R (pack vs) Bo ⟨w,blk Bo++C.bad0⟩) -> Go P C c0 Q h s
theorem EndE.to {fn:Func} {R:Value -> List Ent -> Vw -> Prop} (hQ:EndE P C c0 Q fn R) (vs:List Value) (jx:List Nat) (Bo:List Ent) (k:∀ H,Sees h H -> R (pack vs) Bo H) (ix:List Nat:=[]) (hc:(endZ P s fn.results.toList ix vs [] []).map (·.1)=(endZ P s fn.results.toList ix vs [] []).map (·.2):=by kernel_rfl) (hB:qX jx s.B=Bo:=by kernel_rfl):Go P C c0 Q h s :=
 hQ vs ix jx Bo hc hB λa w hK=>k _ (hK.j.sees.less λb hb=>by
  subst hB;rcases Qj.1 hb with q | q
  ·exact Ek _ ((blk_sub (pickI_sub jx s.B)).mem q)
  ·exact Vj _ q)
theorem g_conE {f:FuncId} {fn:Func} {args:Array Value} {Bi:List Ent} {R:Value -> List Ent -> Vw -> Prop} (hf:P.funcs[f]?=some fn)
  (body:(∀ b∈blk Bi,b∈h.bad) -> ∀ (Q:Exit -> Act -> World -> Prop),EndE P ⟨fn.ntmps,h.w,h.bad,blk Bi,[]⟩ (fn.body.getD .skip) Q fn R -> Go P ⟨fn.ntmps,h.w,h.bad,blk Bi,[]⟩ (fn.body.getD .skip) Q h ⟨.code [],[],argE 0 args.toList,Bi,[]⟩)
  (hb:fn.body=some (fn.body.getD .skip):=by kernel_rfl) (hle:Nat.ble args.size fn.ntmps=true:=by kernel_rfl):ConE P f args h Bi R:=by
 intro hok hnd hbad hlt;have hle:=Nq hle;refine calls_of_wp hf hb ?_;refine x_start ((body hbad _ (λ{s h'} vs ix jx Bo hc hB hR=>.mk λa w hK'=>?_)).go _ _ ⟨⟨λd v hv=>?_,by simp; omega,rfl,Low.refl _ _,⟨Hj _,λ_ _ _=>rfl,λb hb _=>?_⟩,λe he=>?_,hnd,λb hb=>.inr hb,hlt⟩,λx hx=>by cases hx⟩)
 ·have hc:=map_pair hc;have c1:=hc _ (Zk ..);have c3:∀ e∈resZ P s fn.results.toList ix vs,e.1=e.2:=λe he=>hc e (Gk _ (Gk _ he));simp only [Any.b.injEq,Uj] at c1;obtain ⟨⟨e1,e2⟩,-⟩:=c1;have hks:s.ks=[]:=by simpa using e2
  subst hB;have hsub:=blk_sub (pickI_sub jx s.B);have hp:bodyPost P fn (λen w'=>∃ v Bo,en=.returned v /\ Low (blk Bi) h.w w' /\ (∀ e∈Bo,e.ok 0 w') /\ (blk Bo).Nodup /\ (∀ b∈blk Bo,b∈blk Bi\/h.w.heap.size <= b) /\ R v Bo ⟨w',blk Bo++h.bad⟩) .ret a w :=
   ⟨hK'.j.defers,pack vs,run_results (resZ_res hK' c3),_,qX jx s.B,rfl,hK'.j.low,λe he=>Ent.ok_base (hK'.j.ents e ((pickI_sub jx s.B).mem he)) λ_ _=>Mj _,hK'.j.nodup.sublist hsub,λb hb=>(hK'.j.own b (hsub.mem hb)).symm,hR a w hK'⟩
  rw [hks];generalize s.p=pt at *;unfold isEnd at e1
  split at e1
  ·exact hp
  ·exact hp
  ·cases e1
 ·obtain ⟨h1,h2⟩:=argE_lookup _ _ _ _ hv;simp only [Nat.sub_zero,Qv] at h2;have hd:=(Nk.1 h2).1;simp only [Act.eval,Pq];rw [Array.getElem?_append_left hd,h2]
  rfl
 ·rcases Qj.1 hb with g | g
  ·exact hbad b g
  ·exact g
 ·exact Ent.ok_base (hok e he) λb hb=>Fx.base_wr (C:=⟨fn.ntmps,h.w,h.bad,blk Bi,[]⟩) (.inr (Fk.2 ⟨e,he,hb⟩))
end
section
variable {P:Program} {Q:Exit -> Act -> World -> Prop} {R:Reg} {ops:Array Oper} {i:Nat} {D:Nat -> Prop} {x x':Gh} {h h':Vw} {a:Act} {w:World}
theorem BD_pick (ix:List Nat) (G:List Gent):(BD G D x).Perm (BD (qX ix G) D x++BD (restI ix G) D x):=by
 have:=(pick_rest ix G).filterMap (cur D x)
 rwa [List.filterMap_append] at this
def onlyL (R:Reg) (i:Nat) (ix:List Nat):Bool:=(restI ix R.G).all λg=>g.vers.all λp=>p.1 != i
theorem r_callE (hT:dK R=true) (hA:cK R ops=true) (hmono:∀ q∈R.F,∀ x h h',Sees h h' -> q.2 x h -> q.2 x h') (hi:Ind R i) (d:Nat) (F:Value -> Value) (dp:List Nat) (p:Nat) (hp:R.T[p]?=some (i,d,λx=>F (x i))) (hk:∀ x,okR R ops i d dp x=true)
  (ix:List Nat) (ho:onlyL R i ix=true) (hs:((qX ix R.G).all λg=>sync R i g)=true) (Bi Bo:Gh -> List Ent) (hc0:∀ x,(qX ix R.G).filterMap (iK (R.an i) x)=Bi x) (hc1:∀ x,(qX ix R.G).filterMap (iK (i :: R.an i) x)=Bo x) (hl:∀ x v,Bi (upd x i v)=Bi x)
  (k:FuncId) (args:Gh -> Array Value) (hr:∀ x w,(execOp (evD (rdE R i dp x)) (dX ops i)).run P w=.ok (.enter k (args x)) w)
  (hc:∀ x H,Sees R.h H -> (∀ (j:Nat) (q:Nat × (Gh -> Vw -> Prop)),R.F[j]?=some q -> (R.an i).contains q.1=true -> q.2 x H) ->
   ConE P k (args x) H (Bi x) (λv B' H'=>∃ u,v=F u /\ B'=Bo (upd x i u) /\ ∀ (j:Nat) (q:Nat × (Gh -> Vw -> Prop)),R.F[j]?=some q -> q.1=i -> q.2 (upd x i u) H')):StepAt' P ops Q R i:=by
 refine .mk λo D x h a w hio hn hd I=>?_;obtain ⟨h1,h2,h3,h4⟩:=vW hio (hk x);have han:=rJ hA hio I hd;have hsg:∀ g∈qX ix R.G,sync R i g=true:=λg hg=>Sj.1 hs g hg;have hbi:BD (qX ix R.G) D x=Bi x:=(fm_congr λg hg=>jK (x':=x) I hn han (hsg g hg)).trans (hc0 x);have hperm:=BD_pick (D:=D) (x:=x) ix R.G;rw [hbi] at hperm;have hmem:=hperm.symm.subset;have hcc:=hc x ⟨w,blk (BD R.G D x)++R.C.bad0⟩ (I.sees.trans I.mem.sees) (λj q hq hc=>hmono q (Ej hq) x _ _ I.mem.sees (I.facts q (Ej hq) (han _ (by simpa using hc))));have hb:(blk (BD R.G D x)).Perm (blk (Bi x)++blk (BD (restI ix R.G) D x)):=by rw [<- vJ]; exact hperm.flatMap_right _
 have p1:∀ e∈Bi x,e.ok 0 w:=λe he=>Ent.ok_base (I.mem.ents e (hmem (Ek _ he))) λ_ _=>Mj _;have p2:(blk (Bi x)).Nodup:=(Dq.1 (hb.nodup_iff.1 I.mem.nodup)).1;have p3:∀ b∈blk (Bi x),b∈blk (BD R.G D x)++R.C.bad0:=λb hb'=>Ek _ (hb.mem_iff.2 (Ek _ hb'));refine wpOp_call hio (jQ hio (xX hio h1 I hd hn) h2) (by rw [kY (xX hio h1 I hd hn) h4, <- eX hio]; exact hr x w) ((hcc p1 p2 p3 (bad_lt I.mem)).mono ?_);rintro en w' ⟨v,Bo',rfl,hlo,hok,hnd,hbo,u,rfl,rfl,hv⟩;obtain ⟨s1,j1⟩:=I.mem.calledX hperm hlo hok hnd hbo;have hself:upd x i u i=u:=by simp [upd]
 refine ⟨F u,rfl,upd x i u,⟨w',blk (Bo (upd x i u))++(blk (BD R.G D x)++R.C.bad0)⟩,?_⟩;rw [h3];have hb1:BD (qX ix R.G) (λj=>j=i\/D j) (upd x i u)=Bo (upd x i u):=(fm_congr λg hg=>at_next I hn han (hsg g hg) (upd x i u)).trans (hc1 (upd x i u));have hb2:BD (restI ix R.G) (λj=>j=i\/D j) (upd x i u)=BD (restI ix R.G) D x:=by
  rw [BD_same λg hg p hp=>by simpa using Sj.1 (Sj.1 ho g hg) p hp];exact hi.at_g I hn u _ λg hg=>(restI_sub ix R.G).mem hg
 have hp2:=BD_pick (D:=λj=>j=i\/D j) (x:=upd x i u) ix R.G;rw [hb1,hb2] at hp2;exact I.next hio hT hA hn hd ((j1.perm hp2.symm).putN _ _) s1 (hi.at_t I hn u) (.inl ⟨d,_,Ej hp,by simp only [hself]⟩) (tK hi hmono I hn u s1 hv)
theorem r_callE' (hT:dK R=true) (hA:cK R ops=true) (hmono:∀ q∈R.F,∀ x h h',Sees h h' -> q.2 x h -> q.2 x h') (hi:Ind R i) (hF:(R.F.all λt=>t.1 != i)=true) (d:Nat) (F:Value -> Value) (dp:List Nat) (p:Nat) (hp:R.T[p]?=some (i,d,λx=>F (x i))) (hk:∀ x,okR R ops i d dp x=true)
  (ix:List Nat) (ho:onlyL R i ix=true) (hs:((qX ix R.G).all λg=>sync R i g)=true) (Bi:Gh -> List Ent) (Bo:Gh -> Value -> List Ent) (hc0:∀ x,(qX ix R.G).filterMap (iK (R.an i) x)=Bi x) (hc1:∀ x,(qX ix R.G).filterMap (iK (i :: R.an i) x)=Bo x (x i)) (hl:∀ x v,(Bi (upd x i v),Bo (upd x i v) v)=(Bi x,Bo x v))
  (k:FuncId) (args:Gh -> Array Value) (hr:∀ x w,(execOp (evD (rdE R i dp x)) (dX ops i)).run P w=.ok (.enter k (args x)) w)
  (hc:∀ x H,Sees R.h H -> (∀ (j:Nat) (q:Nat × (Gh -> Vw -> Prop)),R.F[j]?=some q -> (R.an i).contains q.1=true -> q.2 x H) ->
   ConE P k (args x) H (Bi x) (λv B' _=>∃ u,v=F u /\ B'=Bo x u)):StepAt' P ops Q R i:=by
 refine r_callE hT hA hmono hi d F dp p hp hk ix ho hs Bi (λx=>Bo x (x i)) hc0 hc1 (λx v=>(Prod.mk.inj (hl x v)).1) k args hr λx H s f=>(hc x H s f).mono ?_;rintro v B' H' ⟨u,rfl,rfl⟩;refine ⟨u,rfl,?_,λj q hq he=>?_⟩
 ·have:upd x i u i=u:=by simp [upd]
  rw [this];exact (Prod.mk.inj (hl x u)).2.symm
 ·have:=Sj.1 hF q (Ej hq)
  simp [he] at this
theorem cur_any {q:Option Ent -> Prop} {g:Gent} (h0:q g.start) (hv:∀ p∈g.vers,q (some (p.2 x))):q (cur D x g):=by
 unfold cur;obtain ⟨s,vs⟩:=g;simp only at h0 hv ⊢
 induction vs generalizing s with
 | nil=>exact h0
 | cons p vs ih =>
  refine ih _ ?_ (λq hq=>hv q (by simp [hq]))
  by_cases hp:D p.1
  ·show q (sel _ _ _);rw [sel_pos hp]; exact hv p (by simp)
  ·show q (sel _ _ _);rw [sel_neg hp]; exact h0
theorem r_loadY (hT:dK R=true) (hA:cK R ops=true) (d:Nat) (f:Gh -> Value) (dp:List Nat) (p:Nat) (hp:R.T[p]?=some (i,d,f)) (ho:only R i none=true) (hF:(R.F.all λt=>t.1 != i)=true) (hk:∀ x,okR R ops i d dp x=true)
  (e:Nat) (g:Gent) (hg:R.G[e]?=some g) (b:Nat) (t:TypeId) (y:Operand) (off:Nat) (cs:List Value) (L:List (Gh -> List Value)) (h0:g.start=some (.box b cs)) (hl:∀ x,g.vers.map (λp=>p.2 x)=L.map λc=>.box b (c x)) (hop:(dX ops i).op=.load t y) (hy:∀ x,evE (rdE R i dp x) y=some (.pointer (some ⟨b,off,none⟩)))
  (hv0:∀ x,dW P t cs off=some (f x)) (hv:∀ x,L.map (λc=>dW P t (c x) off)=L.map λ_=>some (f x)):StepAt' P ops Q R i:=by
 refine .mk λo D x h a w hio hn hd I=>?_;obtain ⟨h1,h2,h3,h4⟩:=vW hio (hk x);have hq:∃ cs,cur D x g=some (.box b cs) /\ dW P t cs off=some (f x):=by
  refine cur_any (q:=λc=>∃ cs,c=some (.box b cs) /\ dW P t cs off=some (f x)) ⟨cs,h0,hv0 x⟩ λp hp'=>?_;have hm:p.2 x∈g.vers.map (λp=>p.2 x):=Rj.2 ⟨p,hp',rfl⟩;rw [hl x] at hm;obtain ⟨c,hc,e⟩:=Rj.1 hm;refine ⟨c x,by rw [e],map_at (hv x) c hc⟩
 obtain ⟨cs,hcur,hvv⟩:=hq;have hm:Ent.box b cs∈BD R.G D x:=by
  rw [nJ hg,hcur]; simp
 have hld:=lY (P:=P) (o0:=0) (off:=off) (box_range (I.mem.ents _ hm)) hvv;rw [Gq] at hld;refine vZ hio (jQ hio (xX hio h1 I hd hn) h2) (v:=f x) (w':=w) ?_ ⟨x,h,?_⟩
 ·rw [eX hio] at hop;unfold execOp;simp only [hop,(xX hio h1 I hd hn).ev (hy x),Kk,Wk,Hq,hld]
 ·rw [h3];refine I.next hio hT hA hn hd ?_ (Sees.refl _) (λ_ _ _=>rfl) (.inl ⟨d,f,Ej hp,rfl⟩) (λq hq hD=>I.facts q hq (hD.resolve_left λe=>?_))
  ·rw [zW ho]; exact I.mem.putN _ _
  ·have:=Sj.1 hF q hq
   simp [e] at this
theorem r_make (hT:dK R=true) (hA:cK R ops=true) (hmono:∀ q∈R.F,∀ x h h',Sees h h' -> q.2 x h -> q.2 x h') (hi:Ind R i) (hF:(R.F.all λt=>t.1 != i)=true) (d:Nat) (dp:List Nat) (p m:Nat) (hp:R.T[p]?=some (i,d,λx=>.slice (some ⟨uJ (x i),0,none⟩) m m)) (hk:∀ x,okR R ops i d dp x=true)
  (e:Nat) (g:Gent) (hg:R.G[e]?=some g) (ho:only R i (some e)=true) (hs:sync R i g=true) {t te:TypeId} {z:Value} {cs:List Value} {y:Operand} {by_ kk:Nat} (hc0:∀ x,iK (R.an i) x g=none) (hc1:∀ x,iK (i :: R.an i) x g=some (.row (.slice (some ⟨uJ (x i),0,none⟩) m m) te kk (List.replicate m cs)))
  (hop:(dX ops i).op=.makeSlice t y y) (hy:∀ x,evE (rdE R i dp x) y=some (Vi (m:Int)))
  (ht:P.underlying t=some (.slice te)) (hI:(P.info? te).map (λi=>(i.zero,i.size,i.bytes))=some (some z,kk,by_)) (hz:z.cells=cs.toArray) (hkk:cs.length=kk) (k0:0 < kk) (hcm:m * kk <= 16777216) (hb:by_ * m <= 281474976710656) (h63:m <= maxLen):StepAt' P ops Q R i:=by
 refine .mk λo D x h a w hio hn hd I=>?_;obtain ⟨h1,h2,h3,h4⟩:=vW hio (hk x);have han:=rJ hA hio I hd
 cases hI2:P.info? te with
 | none=>rw [hI2] at hI; cases hI
 | some inf =>
  rw [hI2] at hI;simp only [Bv,Yj,Kq] at hI;obtain ⟨i1,i2,i3⟩:=hI;have hf:=xX hio h1 I hd hn;obtain ⟨w',g1,g2,g3⟩:=run_makeSlice_full (P:=P) (w:=w) w.heap.size t te inf z kk ht hI2 i1 i2 .i64 .i64 m hcm (by rw [i3]; exact hb) h63 (Hj _);refine vZ hio (jQ hio hf h2) (v:=.slice (some ⟨w.heap.size,0,none⟩) m m) (w':=w') ?_ ?_
  ·rw [eX hio] at hop;unfold execOp;simp only [hop,hf.ev (hy x)];simp [g1,Result.andThen]
  subst hkk;rw [hz,made_flat cs k0] at g2;have hlow:Low [] w w':=⟨g3.os,g3.tape,g3.output,g3.size,λq hq _=>g3.block q hq (by simp)⟩;have hrow:Ent.ok w.heap.size w' (.row (.slice (some ⟨w.heap.size,0,none⟩) m m) te cs.length (List.replicate m cs)):=⟨by rw [Sv]; exact g2,λq hq=>by rw [(List.mem_replicate.1 hq).2]⟩;have j1:=I.mem.addRow hlow hrow;have s1:=j1.sees;refine ⟨upd x i (.pointer (some ⟨w.heap.size,0,none⟩)),⟨w',blk (.row (.slice (some ⟨w.heap.size,0,none⟩) m m) te cs.length (List.replicate m cs) :: BD R.G D x)++R.C.bad0⟩,?_⟩;rw [h3];have hself:upd x i (.pointer (some ⟨w.heap.size,0,none⟩)) i=.pointer (some ⟨w.heap.size,0,none⟩):=by simp [upd]
  have hcur:=(jK (x':=x) I hn han hs).trans (hc0 x);have hcur1:cur (λj=>j=i\/D j) (upd x i (.pointer (some ⟨w.heap.size,0,none⟩))) g=some (.row (.slice (some ⟨w.heap.size,0,none⟩) m m) te cs.length (List.replicate m cs)):=by
   rw [at_next I hn han hs,hc1,hself]; rfl
  have hBD:BD R.G D x=BD (R.G.take e) D x++BD (R.G.drop (e + 1)) D x:=by rw [nJ hg,hcur]; simp
  have hmem:J R.C [] (BD R.G (λj=>j=i\/D j) (upd x i (.pointer (some ⟨w.heap.size,0,none⟩)))) ⟨w',blk (.row (.slice (some ⟨w.heap.size,0,none⟩) m m) te cs.length (List.replicate m cs) :: BD R.G D x)++R.C.bad0⟩ a w':=by
   refine j1.now.perm ?_;rw [aX ho hg,hcur1,hi.at_g I hn _ _ mem_take,hi.at_g I hn _ _ mem_drop,hBD];simp only [Xw,Lq,Uw];exact List.perm_middle.symm
  refine I.next hio hT hA hn hd (hmem.putN _ _) s1 (hi.at_t I hn _) (.inl ⟨d,_,Ej hp,by simp only [hself,uJ]⟩) (tK hi hmono I hn _ s1 (λj q hq he=>?_))
  have:=Sj.1 hF q (Ej hq)
  simp [he] at this
end
def Z.front (s:Z) (i:Nat):Z:=⟨s.p,s.ks,s.E,(s.B[i]?).toList++s.B.eraseIdx i,s.F⟩
theorem perm_front {α:Type}:∀ (l:List α) (i:Nat),l.Perm ((l[i]?).toList++l.eraseIdx i)
 | [],i=>by simp
 | x :: l,0=>by simp
 | x :: l,i + 1=>by
  rw [List.getElem?_cons_succ,List.eraseIdx_cons_succ];exact ((perm_front l i).cons x).trans List.perm_middle.symm
theorem g_front {P:Program} {C:Fx} {c0:Code} {Q:Exit -> Act -> World -> Prop} {h:Vw} {s:Z} (i:Nat) (k:Go P C c0 Q h (s.front i)):Go P C c0 Q h s :=
 .mk λa w hK=>k.go a w ⟨hK.j.perm (perm_front s.B i),hK.f⟩
def AskR (lt:List Lt) (x:Lt) (b:Nat) (pre:List Value) (cl:Ent) (v:Value) (Bo:List Ent):Prop:=∃ u,v=.tuple #[] /\ Bo=[.row (sL u) 57 8 (gW (lt++[x])),.box b (pre++[sL u]),cl]
theorem ask_con (b i n nc:Nat) (A A2:Option Addr) (c c2:Nat) (gv iv vv lv:Value) (p:Pol) (now last:Int) (fs:List Fd) (cls:List Cl) (lt:List Lt) (g:Fd) (x:Cl) (h:Vw) (hf:IsFds h (.slice A n c) fs) (hg:fs[i]?=some g) (hx:cls[i]?=some x) (h1:x.st=1) (hlt:lt.length <= 1000) (hcl:cls.length=nc) :
  ConE Tryz.prog 57 #[.pointer (some ⟨b,0,none⟩),Vi (i:Int)] h
   [.row (sL lv) 57 8 (gW lt),.box b [.slice A n c,sL gv,Vi p.t,Vi p.b,Vi p.c,sL iv,.slice A2 nc c2,sL vv,Vi now,Vi last,sL lv],.row (.slice A2 nc c2) 130 10 (fK cls)]
   (λv Bo _=>AskR lt (ltOf g.name x) b [.slice A n c,sL gv,Vi p.t,Vi p.b,Vi p.c,sL iv,.slice A2 nc c2,sL vv,Vi now,Vi last] (.row (.slice A2 nc c2) 130 10 (fK cls)) v Bo):=by
 have hL:=c_letter g.name x h1;obtain ⟨vs,A3,c3,e3,-,-,hr3,hs3,hl3,hsl⟩:=bQ hf;simp only [Tk] at e3;obtain ⟨rfl,hn,rfl⟩:=e3;rw [<- hn] at hr3 hl3;have hil:=(Nj.1 hg).1;obtain ⟨u,hu⟩:∃ u,vs[i]?=some u:=⟨_,Gj (by omega)⟩;have hrow:=yK hg hu;have hrc:=clRows_get hx;obtain ⟨Au,nu,cu,rfl⟩:=(AllSrc.get hs3 hg hu).slice;have hil2:=(Nj.1 hx).1;refine g_conE Tryz.func57 λhbad Q hQ=>?_;refine g_get (λa w hJ=>own_some (hJ.rowOwn (v:=.slice A2 nc c2) (e:=130) (kk:=10) (l:=fK cls) 2 (by kernel_rfl)) ((by rw [Ij]; omega))) ?_; rintro ⟨b2,rfl⟩;refine go0 1 [] [] ?_;obtain ⟨b1,o2,rfl,-,c3⟩:=RS.row hr3 (hrow);refine qQ (c3.sees (Sees.refl _)) ?_;refine fV 25 1 [.pu,.pu,.pu,.pu,.pu,.ld 2 0,.pu,.v (λgh=>.pointer (some ⟨b1,o2 + i * 9,none⟩)),.pu,.lf 0 0,.pu,.pu,.pu,.pu,.ld 2 6,.pu,.v (λgh=>.pointer (some ⟨b2,0 + i * 10,none⟩)),.v (λgh=>.agg #[Vi x.st,Vi x.id,Vi x.tr,Vi x.key.k,Vi x.key.n,.string x.key.s,Vi x.has.k,Vi x.has.n,.string x.has.s,Vi x.nx]),.v (λgh=>.tuple #[.agg #[Vt g.name,Vi x.id,Vi x.key.k,Vi x.key.n,.string x.key.s,Vi 0,Vi 0,Ve],Vi 0]),.pu,.pu,.pu,.al 0,.st 0 0,.pu] [(22,true)] (trivial) ?_ ?_
 ·intro R hT hA hmono;refine Aj (bZ hT hA b1 o2 n c i (λgh=>.pointer (some ⟨b1,o2 + i * 9,none⟩)) (by first | omega | (simp; omega))) ?_;refine Aj (bZ hT hA b2 0 nc c2 i (λgh=>.pointer (some ⟨b2,0 + i * 10,none⟩)) (by first | omega | (simp; omega))) ?_;refine Aj (r_rowget' hT hA 24 (λgh=>.agg #[Vi x.st,Vi x.id,Vi x.tr,Vi x.key.k,Vi x.key.n,.string x.key.s,Vi x.has.k,Vi x.has.n,.string x.has.s,Vi x.nx]) [16] 17 3 (GN R 3) b2 nc c2 10 130 (fK cls) i 0 (r:=[Vi x.st,Vi x.id,Vi x.tr,Vi x.key.k,Vi x.key.n,.string x.key.s,Vi x.has.k,Vi x.has.n,.string x.has.s,Vi x.nx]) (hrc) 130 (.tmp 23)) ?_;refine Aj (t_v hT hA hmono (k:=106) (args:=(λgh=>#[Vt g.name,.agg #[Vi x.st,Vi x.id,Vi x.tr,Vi x.key.k,Vi x.key.n,.string x.key.s,Vi x.has.k,Vi x.has.n,.string x.has.s,Vi x.nx]])) (f:=λgh=>.tuple #[.agg #[Vt g.name,Vi x.id,Vi x.key.k,Vi x.key.n,.string x.key.s,Vi 0,Vi 0,Ve],Vi 0]) (λgh H sH fH lent=>hL _)) ?_
  trivial
 rintro b4 W5 S6 -;refine go0 1 [] [] ?_;refine fV 11 0 [.pu,.pu,.pu,.pu,.ld 2 10,.ld 0 0,.f (λgh=>.slice (some ⟨(uJ (gh 6)),0,none⟩) 1 1) (λgh hh=>Cells hh (uJ (gh 6)) 0 [Vt g.name,Vi x.id,Vi x.key.k,Vi x.key.n,.string x.key.s,Vi 0,Vi 0,Ve]),.e (λgh=>sL (gh 7)) 1 (λgh=>.row (sL (gh 7)) 57 8 ((gW lt)++[[Vt g.name,Vi x.id,Vi x.key.k,Vi x.key.n,.string x.key.s,Vi 0,Vi 0,Ve]])),.pu,.pu,.st 2 10] [(6,true),(7,false)] (Aj (λ_ _ _ s c=>c.sees s) (trivial)) ?_ ?_
 ·intro R hT hA hmono;refine Aj (r_fact hT hA hmono ⟨λ_ _=>by kernel_rfl,λ_ _=>by kernel_rfl,λ_ _=>by kernel_rfl⟩ 34 (λg=>Vs g 1 1) [5] 6 (by kernel_rfl) (by kernel_rfl) (λ_=>by kernel_rfl) (λgh=>[Vt g.name,Vi x.id,Vi x.key.k,Vi x.key.n,.string x.key.s,Vi 0,Vi 0,Ve]) 57 (λ_ _=>by kernel_rfl) (λgh zb zH zc zj zq zhq zhe=>own_fact (i:=6) (k:=0) (f:=λgh hh=>Cells hh (uJ (gh 6)) 0 [Vt g.name,Vi x.id,Vi x.key.k,Vi x.key.n,.string x.key.s,Vi 0,Vi 0,Ve]) (by kernel_rfl) (by kernel_rfl) zc zj zq zhq zhe)) ?_;refine Aj (r_append hT hA hmono ⟨λ_ _=>by kernel_rfl,λ_ _=>by kernel_rfl,λ_ _=>by kernel_rfl⟩ (by kernel_rfl) 35 [4,6] 7 (by kernel_rfl) (λ_=>by kernel_rfl) 1 (GN R 1) (by kernel_rfl) (by kernel_rfl) (by kernel_rfl) (λgh=>sL lv) 37 57 8 (λgh=>gW lt) (λgh=>[[Vt g.name,Vi x.id,Vi x.key.k,Vi x.key.n,.string x.key.s,Vi 0,Vi 0,Ve]]) (λ_=>by kernel_rfl) (λ_=>by kernel_rfl) (λ_ _=>by kernel_rfl) (.tmp 32) (.tmp 34) (by kernel_rfl) (by kernel_rfl) (λgh=>(uJ (gh 6))) 1 1 (λ_=>by kernel_rfl) (λ_=>by kernel_rfl) 0 6 (λgh hh=>Cells hh (uJ (gh 6)) 0 [Vt g.name,Vi x.id,Vi x.key.k,Vi x.key.n,.string x.key.s,Vi 0,Vi 0,Ve]) (by kernel_rfl) (by kernel_rfl) (λ_ _ c=>c) Tryz.underlying37 (zv:=.agg #[Ve,Vi 0,Vi 0,Vi 0,Ve,Vi 0,Vi 0,Ve]) (bytes:=88) (by kernel_rfl) (by kernel_rfl) (λ_=>by kernel_rfl) (λ_=>by simp; omega)) ?_
  trivial
 rintro b8 v35 W9 S10 ⟨f7,-⟩;replace f7:Cells W9 b8 0 [Vt g.name,Vi x.id,Vi x.key.k,Vi x.key.n,.string x.key.s,Vi 0,Vi 0,Ve]:=f7;refine qQ f7 ?_;refine hQ.to [] [1,2,3] [.row (sL v35) 57 8 ((gW lt)++[[Vt g.name,Vi x.id,Vi x.key.k,Vi x.key.n,.string x.key.s,Vi 0,Vi 0,Ve]]),.box b [.slice (some ⟨b1,o2,none⟩) n c,sL gv,Vi p.t,Vi p.b,Vi p.c,sL iv,Vs b2 nc c2,sL vv,Vi now,Vi last,sL v35],.row (Vs b2 nc c2) 130 10 (fK cls)] (λH sH=>?_);exact ⟨v35,rfl,by rw [ltRows_snoc]; rfl⟩
theorem turn_st {p:Pol} {id now:Int} {key:Vl} {c:Cl} (h:(hZ p id now key c).2=true):(hZ p id now key c).1.st=1:=by
 by_cases q:key.k <= 3
 ·by_cases e:c.st≠0 /\ eqB c.key key=true
  ·rw [kZ q e.1 e.2] at h; cases h
  ·rw [iZ q e]
 ·rw [jZ q] at h; cases h
def LookR (lt:List Lt) (nm:ByteArray) (key:Vl) (r:Cl × Bool) (last:Int) (b:Nat) (pre:List Value) (sl:Value) (rows:List (List Value)) (v:Value) (Bo:List Ent):Prop :=
 ∃ u,v=(aW key r.1).val /\ Bo=[.row (sL u) 57 8 (gW (if r.2=true then lt++[ltOf nm r.1] else lt)),.box b (pre++[Vi (if r.2=true then last + 1 else last),sL u]),.row sl 130 10 rows]
theorem lookup_con (b i n nc:Nat) (A A2:Option Addr) (c c2:Nat) (gv iv vv lv:Value) (p:Pol) (hp:p.ok) (now last:Int) (n0:0 <= now) (n1:now <= 1073741824) (l0:0 <= last) (l1:last + 1 <= 1073741824) (fs:List Fd) (cls:List Cl) (lt:List Lt) (g:Fd) (x:Cl) (key:Vl) (hk:OkV key) (h:Vw) (hf:IsFds h (.slice A n c) fs) (hg:fs[i]?=some g) (hx:cls[i]?=some x) (hxo:ClOk p x) (hlt:lt.length <= 1000) (hcl:cls.length=nc) :
  ConE Tryz.prog 152 #[.pointer (some ⟨b,0,none⟩),Vi (i:Int),.agg #[Vi key.k,Vi key.n,.string key.s]] h
   [.row (sL lv) 57 8 (gW lt),.box b [.slice A n c,sL gv,Vi p.t,Vi p.b,Vi p.c,sL iv,.slice A2 nc c2,sL vv,Vi now,Vi last,sL lv],.row (.slice A2 nc c2) 130 10 (fK cls)]
   (λv Bo _=>LookR lt g.name key (hZ p (last + 1) now key x) last b [.slice A n c,sL gv,Vi p.t,Vi p.b,Vi p.c,sL iv,.slice A2 nc c2,sL vv,Vi now] (.slice A2 nc c2) (fK (cls.set i (hZ p (last + 1) now key x).1)) v Bo):=by
 have hTu:=c_turn p hp x hxo (last + 1) now key hk (by omega) l1 n0 n1;have hts:=turn_st (p:=p) (id:=last + 1) (now:=now) (key:=key) (c:=x);generalize hZ p (last + 1) now key x=rr at *;have hA:=c_ansC rr.1;have hrc:=clRows_get hx;have hil2:=(Nj.1 hx).1;have hcs:=clRows_set cls i rr.1;have hgx:(cls.set i rr.1)[i]?=some rr.1:=Zq (by omega);have hk1:=λ(q:rr.1.st=1) H qf lv' last'=>ask_con b i n nc A A2 c c2 gv iv vv lv' p now last' fs (cls.set i rr.1) lt g rr.1 H qf hg hgx q hlt (by rw [Qq]; exact hcl);obtain ⟨av,hav⟩:∃ av,ansC rr.1=av:=⟨_,rfl⟩;rw [hav] at hA;refine g_conE Tryz.func152 λhbad Q hQ=>?_;refine g_get (λa w hJ=>own_some (hJ.rowOwn (v:=.slice A2 nc c2) (e:=130) (kk:=10) (l:=fK cls) 2 (by kernel_rfl)) ((by rw [Ij]; omega))) ?_; rintro ⟨b9,rfl⟩;refine go2 7 [.own,.own] [] ?_;intro b1 b2;refine fV 34 1 [.pu,.pu,.pu,.pu,.ld 4 6,.pu,.v (λgh=>.pointer (some ⟨b9,0 + i * 10,none⟩)),.v (λgh=>.agg #[Vi x.st,Vi x.id,Vi x.tr,Vi x.key.k,Vi x.key.n,.string x.key.s,Vi x.has.k,Vi x.has.n,.string x.has.s,Vi x.nx]),.pu,.pu,.pu,.pu,.ld 4 2,.pu,.pu,.pu,.pu,.ld 4 9,.v (λgh=>Vi (last + 1)),.ld 2 0,.pu,.pu,.pu,.pu,.ld 4 8,.v (λgh=>.tuple #[.agg #[Vi rr.1.st,Vi rr.1.id,Vi rr.1.tr,Vi rr.1.key.k,Vi rr.1.key.n,.string rr.1.key.s,Vi rr.1.has.k,Vi rr.1.has.n,.string rr.1.has.s,Vi rr.1.nx],.bool rr.2,Vi 0]),.pu,.pu,.pu,.pu,.al 0,.st 0 0,.pu,.pu] [(30,true)] (by exact trivial) ?_ ?_
 ·intro R hT hA hmono;refine Aj (bZ hT hA b9 0 nc c2 i (λgh=>.pointer (some ⟨b9,0 + i * 10,none⟩)) (by first | omega | (simp; omega))) ?_;refine Aj (r_rowget' hT hA 18 (λgh=>.agg #[Vi x.st,Vi x.id,Vi x.tr,Vi x.key.k,Vi x.key.n,.string x.key.s,Vi x.has.k,Vi x.has.n,.string x.has.s,Vi x.nx]) [6] 7 5 (GN R 5) b9 nc c2 10 130 (fK cls) i 0 (r:=[Vi x.st,Vi x.id,Vi x.tr,Vi x.key.k,Vi x.key.n,.string x.key.s,Vi x.has.k,Vi x.has.n,.string x.has.s,Vi x.nx]) (hrc) 130 (.tmp 17)) ?_;refine Aj (aZ hT hA (λgh=>Vi (last + 1)) (λgh=>Vi (IntKind.i64.wrap (last + 1))) (λgh=>jJ (by omega) (by omega))) ?_;refine Aj (t_v hT hA hmono (k:=194) (args:=(λgh=>#[.agg #[Vi x.st,Vi x.id,Vi x.tr,Vi x.key.k,Vi x.key.n,.string x.key.s,Vi x.has.k,Vi x.has.n,.string x.has.s,Vi x.nx],.agg #[Vi p.t,Vi p.b,Vi p.c],Vi (last + 1),.agg #[Vi key.k,Vi key.n,.string key.s],Vi now])) (f:=λgh=>.tuple #[.agg #[Vi rr.1.st,Vi rr.1.id,Vi rr.1.tr,Vi rr.1.key.k,Vi rr.1.key.n,.string rr.1.key.s,Vi rr.1.has.k,Vi rr.1.has.n,.string rr.1.has.s,Vi rr.1.nx],.bool rr.2,Vi 0]) (λgh H sH fH lent=>hTu _)) ?_
  trivial
 rintro b3 W4 S5 -;refine go0 2 [] [] ?_;refine fV 9 0 [.pu,.pu,.pu,.pu,.ld 4 6,.pu,.ld 0 0,.v (λgh=>.pointer (some ⟨b9,0 + i * 10,none⟩)),.s 5 (λgh=>.row (Vs b9 nc c2) 130 10 ((fK cls).set i [Vi rr.1.st,Vi rr.1.id,Vi rr.1.tr,Vi rr.1.key.k,Vi rr.1.key.n,.string rr.1.key.s,Vi rr.1.has.k,Vi rr.1.has.n,.string rr.1.has.s,Vi rr.1.nx]))] [] (trivial) ?_ ?_
 ·intro R hT hA hmono;refine Aj (bZ hT hA b9 0 nc c2 i (λgh=>.pointer (some ⟨b9,0 + i * 10,none⟩)) (by first | omega | (simp; omega))) ?_;refine Aj (r_rowset hT hA [0,1,2,3,4,5,6,7] (by kernel_rfl) (by kernel_rfl) (λ_=>by kernel_rfl) 5 (GN R 5) (by kernel_rfl) (by kernel_rfl) (by kernel_rfl) i 0 (g:=b9) (m:=nc) (cap:=c2) (kk:=10) (te:=130) (l:=fK cls) (r:=[Vi x.st,Vi x.id,Vi x.tr,Vi x.key.k,Vi x.key.n,.string x.key.s,Vi x.has.k,Vi x.has.n,.string x.has.s,Vi x.nx]) (λgh=>.agg #[Vi rr.1.st,Vi rr.1.id,Vi rr.1.tr,Vi rr.1.key.k,Vi rr.1.key.n,.string rr.1.key.s,Vi rr.1.has.k,Vi rr.1.has.n,.string rr.1.has.s,Vi rr.1.nx]) (λ_=>by kernel_rfl) (λ_=>by kernel_rfl) 130 (.tmp 47) (.tmp 46) (by kernel_rfl) (λ_=>by kernel_rfl) (λ_=>by kernel_rfl) (hrc) (λ_=>by kernel_rfl)) ?_
  trivial
 rintro W6 S7 -;refine go0 7 [] [] ?_;refine wQ [(0,Vp b),(1,Vi (i:Int)),(5,Vp b1),(6,Vp b2),(7,Vp b3),(48,.bool rr.2)] [.box b3 [Vi rr.1.st,Vi rr.1.id,Vi rr.1.tr,Vi rr.1.key.k,Vi rr.1.key.n,.string rr.1.key.s,Vi rr.1.has.k,Vi rr.1.has.n,.string rr.1.has.s,Vi rr.1.nx],.box b2 [Vi 0,Vi 0,Ve],.box b1 [Vi key.k,Vi key.n,.string key.s],.row (sL lv) 57 8 (gW lt),.box b [.slice A n c,sL gv,Vi p.t,Vi p.b,Vi p.c,sL iv,Vs b9 nc c2,sL vv,Vi now,Vi last,sL lv],.row (Vs b9 nc c2) 130 10 ((fK cls).set i [Vi rr.1.st,Vi rr.1.id,Vi rr.1.tr,Vi rr.1.key.k,Vi rr.1.key.n,.string rr.1.key.s,Vi rr.1.has.k,Vi rr.1.has.n,.string rr.1.has.s,Vi rr.1.nx])] [] ?_;rw [hcs];rcases Px rr.2 with e | e
 ·have h1:=hts e;refine jV (t:=rr.2) (e) ?_;refine go0 17 [.b 4 9,.b 4 9] [(54,Vi (IntKind.i64.wrap (last + 1)),Vi (last + 1))] ?_ (hc:=(Aj (jJ (by omega) (by omega)) (trivial)));refine nQ (Bi:=[.row (sL lv) 57 8 (gW lt),.box b [.slice A n c,sL gv,Vi p.t,Vi p.b,Vi p.c,sL iv,Vs b9 nc c2,sL vv,Vi now,Vi (last + 1),sL lv],.row (Vs b9 nc c2) 130 10 (fK (cls.set i rr.1))]) [3,4,5] (λH sH=>hk1 h1 _ (hf.sees (S5.trans (S7.trans sH))) _ _) ?_; rintro _ _ W8 S9 ⟨u,rfl,rfl⟩;refine go0 10 [.b 3 0] [] ?_;refine tQ (t:=rr.1.st == 0) (Lj.2 (by omega)) ?_;refine go0 5 [.b 3 0] [] ?_;refine kQ (λH sH=>hA _) ?_; rintro _ W10 S11 rfl;refine go0 4 [.b 4 0] [] ?_;refine hQ.to [.agg #[Vi av.k,Vi av.n,.string av.s]] [0,1,2] [.row (sL u) 57 8 (gW (lt++[ltOf g.name rr.1])),.box b [.slice A n c,sL gv,Vi p.t,Vi p.b,Vi p.c,sL iv,Vs b9 nc c2,sL vv,Vi now,Vi (last + 1),sL u],.row (Vs b9 nc c2) 130 10 (fK (cls.set i rr.1))] (λH sH=>?_) (ix:=[4]);exact ⟨u,Dj Vl.val (show av=aW key rr.1 by unfold aW; rw [Bj (by omega),hav]),by rw [e]; rfl⟩
 ·skip;refine tQ (t:=rr.2) (e) ?_
  refine go0 10 [.b 0 0] [] ?_
  by_cases h0:rr.1.st=0
  ·refine jV (t:=rr.1.st == 0) (Xj.2 h0) ?_;refine go0 8 [.b 2 0,.b 1 0] [] ?_;refine hQ.to [.agg #[Vi key.k,Vi key.n,.string key.s]] [3,4,5] [.row (sL lv) 57 8 (gW lt),.box b [.slice A n c,sL gv,Vi p.t,Vi p.b,Vi p.c,sL iv,Vs b9 nc c2,sL vv,Vi now,Vi last,sL lv],.row (Vs b9 nc c2) 130 10 (fK (cls.set i rr.1))] (λH sH=>?_) (ix:=[1]);exact ⟨lv,Dj Vl.val (show key=aW key rr.1 by unfold aW; rw [Cj h0]),by rw [e]; rfl⟩
  ·skip;refine tQ (t:=rr.1.st == 0) (Lj.2 h0) ?_
   refine go0 5 [.b 0 0] [] ?_;refine kQ (λH sH=>hA _) ?_; rintro _ W12 S13 rfl;refine go0 4 [.b 1 0] [] ?_;refine hQ.to [.agg #[Vi av.k,Vi av.n,.string av.s]] [3,4,5] [.row (sL lv) 57 8 (gW lt),.box b [.slice A n c,sL gv,Vi p.t,Vi p.b,Vi p.c,sL iv,Vs b9 nc c2,sL vv,Vi now,Vi last,sL lv],.row (Vs b9 nc c2) 130 10 (fK (cls.set i rr.1))] (λH sH=>?_) (ix:=[1]);exact ⟨lv,Dj Vl.val (show av=aW key rr.1 by unfold aW; rw [Bj h0,hav]),by rw [e]; rfl⟩
theorem LookR.to {lt:List Lt} {nm:ByteArray} {key xv:Vl} {r:Cl × Bool} {last:Int} {b:Nat} {pre:List Value} {sl:Value} {rows:List (List Value)} {v:Value} {Bo:List Ent} (k:LookR lt nm key r last b pre sl rows v Bo) (hx:aW key r.1=xv) :
  ∃ u,v=xv.val /\ Bo=[.row (sL u) 57 8 (gW (if r.2=true then lt++[ltOf nm r.1] else lt)),.box b (pre++[Vi (if r.2=true then last + 1 else last),sL u]),.row sl 130 10 rows]:=by
 obtain ⟨u,rfl,rfl⟩:=k;exact ⟨u,by rw [hx],rfl⟩
def SetR (S:Sst) (b:Nat) (pre:List Value) (slc slv:Value) (v:Value) (Bo:List Ent):Prop :=
 ∃ u,v=.tuple #[] /\ Bo=[.row (sL u) 57 8 (gW S.out),.box b (pre++[Vi S.last,sL u]),.row slc 130 10 (fK S.calls),.row slv 44 3 (lZ S.vals)]
theorem settle_con (f:Fm) (ρ:List Int) (lv:Nat -> Nat) (hok:OkFm f ρ lv) (b n:Nat) (A A2 A3:Option Addr) (c c2 c3:Nat) (gv iv lw0:Value) (p:Pol) (hp:p.ok) (now last:Int) (n0:0 <= now) (n1:now <= 1073741824) (l0:0 <= last) (l1:last + n <= 1073741824) (cls:List Cl) (vals:List Vl) (lt:List Lt) (inp:Env) (h:Vw)
  (hf:IsFds h (.slice A n c) f.fields) (hn:n=f.fields.length) (h1:1 <= n) (hcs:CallsOk f.fields p last cls) (hvl:vals.length=n) (hi:RS h 7 (sL iv) (wK inp)) (ki:∀ q∈inp,q.2.known) (li:inp.length <= 1000) (hlt:lt.length <= 100) :
  ConE Tryz.prog 94 #[.pointer (some ⟨b,0,none⟩)] h
   [.row (sL lw0) 57 8 (gW lt),.box b [.slice A n c,sL gv,Vi p.t,Vi p.b,Vi p.c,sL iv,.slice A2 n c2,.slice A3 n c3,Vi now,Vi last,sL lw0],.row (.slice A2 n c2) 130 10 (fK cls),.row (.slice A3 n c3) 44 3 (lZ vals)]
   (λv Bo _=>SetR (jY f.fields p now inp ⟨cls,vals,[],last,lt⟩ (iX ρ n)) b [.slice A n c,sL gv,Vi p.t,Vi p.b,Vi p.c,sL iv,.slice A2 n c2,.slice A3 n c3,Vi now] (.slice A2 n c2) (.slice A3 n c3) v Bo):=by
 have few:=hok.fields.few;have hOr:=λH q=>order_any f.fields (.slice A n c) H hok.fields q ρ lv hok.rank (by omega) (by omega);rw [<- hn] at hOr;have hod:Ordd f.fields ρ lv (iX ρ n):=by rw [hn]; exact jX hok.rank (by omega)
 have hol:=hod.len;have hlt':=λi (q:i∈iX ρ n)=>hod.lt q;have hinv:=runS_inv (s0:=⟨cls,vals,[],last,lt⟩) (os:=iX ρ n) hp hok.fields ki n0 n1 hcs (hvl.trans hn) rfl l0 (by rw [hol, <- hn]; exact l1) hlt';have hstep:=λk i q=>runS_at f.fields p now inp ⟨cls,vals,[],last,lt⟩ (iX ρ n) k i q;have hw0:jY f.fields p now inp ⟨cls,vals,[],last,lt⟩ ((iX ρ n).take 0)=⟨cls,vals,[],last,lt⟩:=rfl;have hev:∀ (g:Fd) (u sk:Value) (kn:Env) (H:Vw),g∈f.fields -> g.kind=3 -> IsArgs H g.src u -> RS H 7 sk (wK kn) -> kn.length <= 1000 -> (∀ q∈kn,OkV q.2) -> _:=λg u sk kn H q0 q1 q2 q3 q4 q5=>eval_any g.src u kn sk H q2 ((hok.fields.each g q0).wf (by omega)).1 ((hok.fields.each g q0).wf (by omega)).2.1 (chk_deep ((hok.fields.each g q0).wf (by omega)).2.2) q3 q5 q4;have hon:∀ (g:Fd) (u sk:Value) (kn:Env) (H:Vw),g∈f.fields -> IsArgs H g.src u -> RS H 7 (sL iv) (wK inp) -> RS H 7 sk (wK kn) -> kn.length <= 1000 -> (∀ q∈kn,OkV q.2) -> _:=λg u sk kn H q0 q1 q2 q3 q4 q5=>one_any f.fields g u inp (sL iv) [] (.slice none 0 0) kn sk H (hok.fields.each g q0) q1 q2 (RS.nil H 7) q3 li (by simp) q4 q5;have hek:∀ (g:Fd) (kn:Env),g∈f.fields -> g.kind=3 -> (∀ q∈kn,OkV q.2) -> OkV (mK kn g.src):=λg kn q0 q1 q2=>evalE_ok (get_ok q2) _ g.src (Hj _) ((hok.fields.each g q0).wf (by omega)).1;have hsl:=λi g x s q1 q2 q3 key r q4 q5=>vY (fs:=f.fields) (p:=p) (now:=now) (inp:=inp) (s:=s) (i:=i) (f:=g) (c:=x) (key:=key) (r:=r) q1 q2 q3 q4 q5;have hso:=λi g s q1 q2=>stepS_one (fs:=f.fields) (p:=p) (now:=now) (inp:=inp) (s:=s) (i:=i) (f:=g) q1 q2;obtain ⟨vs,A4,c4,e4,-,-,hr4,hs4,hl4,-⟩:=bQ hf;simp only [Tk] at e4;obtain ⟨rfl,-,rfl⟩:=e4;rw [<- hn] at hr4 hl4 hol;rw [<- hn] at hlt';have hlu:=λi x (g:Fd) key lk cv ot lw (q1:f.fields[i]?=some g) (q2:cv[i]?=some x) (q3:ClOk p x) (q4:OkV key) (q5:0 <= lk) (q6:lk + 1 <= 1073741824) (q7:ot.length <= 1000) (q8:cv.length=n) H (q9:IsFds H (.slice A n c) f.fields)=>lookup_con b i n n A A2 c c2 gv iv (.slice A3 n c3) lw p hp now lk n0 n1 q5 q6 f.fields cv ot g x key q4 H q9 q1 q2 q3 q7 q8;have hfl:f.fields.length=n:=hn.symm;clear hod;generalize iX ρ n=os at *;generalize jY f.fields p now inp ⟨cls,vals,[],last,lt⟩=rS at *;refine g_conE Tryz.func94 λhbad Q hQ=>?_;refine g_get (λa w hJ=>own_some (hJ.rowOwn (v:=.slice A3 n c3) (e:=44) (kk:=3) (l:=lZ vals) 3 (by kernel_rfl)) ((by rw [Ij]; omega))) ?_; rintro ⟨b3,rfl⟩;refine go0 8 [.b 1 0] [] ?_;refine kQ (λH sH=>hOr _ (hf.sees sH)) ?_; rintro _ W1 S2 ⟨A5,c5,rfl,hro⟩;refine go0 20 [] [] ?_;refine cV 122 7 ?_;refine yQ [0,1,1,1] [.block 0] (λ(k:Nat) X=>∃ (W3:Vw) (v:Value) (kv:Env) (lw:Value) (ot:List Lt) (lk:Int) (cv:List Cl) (ov:List Vl),X W3 [(0,Vp b),(20,.slice A5 n c5),(21,Vi (n:Int)),(22,Vi (k:Int)),(4,v)] [.row v 122 7 (wK kv),.row (sL lw) 57 8 (gW ot),.box b [.slice A n c,sL gv,Vi p.t,Vi p.b,Vi p.c,sL iv,.slice A2 n c2,Vs b3 n c3,Vi now,Vi lk,sL lw],.row (.slice A2 n c2) 130 10 (fK cv),.row (Vs b3 n c3) 44 3 (lZ ov)] [] /\ Sees W1 W3 /\ (k <= n) /\ (rS (os.take k)=⟨cv,ov,kv,lk,ot⟩)) (λk=>n - k) (0) (λX q=>⟨W1,(Vz),[],lw0,lt,last,cls,vals,q _ _ _ _ ⟨rfl,by kernel_rfl⟩,Sees.refl _,Mj _,hw0⟩) ?_;rintro k a w ⟨W3,v,kv,lw,ot,lk,cv,ov,hJ,S4,hk,hv⟩; refine dV hJ ?_; clear hJ a w;refine go0 6 [] [] ?_;rcases (by omega:k < n\/k=n) with hlt2 | hke
 ·obtain ⟨i,hoi⟩:∃ i,os[k]?=some i:=⟨_,Gj (by omega)⟩;have hil:=hlt' i (Ej hoi);obtain ⟨g,hg⟩:∃ g,f.fields[i]?=some g:=⟨_,Gj (by omega)⟩;have hgm:=Ej hg;obtain ⟨u,hu⟩:∃ u,vs[i]?=some u:=⟨_,Gj (by omega)⟩;have hrow:=yK hg hu;have hga:=AllSrc.get hs4 hg hu;obtain ⟨Au,nu,cu,rfl⟩:=hga.slice;have hro1:(oW os)[k]?=some [Vi (i:Int)]:=by rw [Oj,hoi]; rfl
  have I:=hinv k (by omega);have hst:=hstep k i hoi;rw [hv] at I hst;have i1:=I.calls.len;have i2:=I.vlen;have i3:=I.klen;have i4:=I.ok;have i5:=I.lo;have i6:=I.hi;have i7:=I.olen;simp only at i1 i2 i3 i4 i5 i6 i7;have htl:(os.take k).length=k:=by rw [Ck]; omega
  rw [htl] at i3 i6 i7;obtain ⟨x,hx⟩:∃ x,cv[i]?=some x:=⟨_,Gj (by omega)⟩;have hxo:=(I.calls.at_ i g x hg hx).1;obtain ⟨x0,hx0⟩:∃ x,ov[i]?=some x:=⟨_,Gj (by omega)⟩;have hx1:=vlRows_get hx0;have hfr:(wK kv).length=kv.length:=Ij _;refine jV (t:=decide ((k:Int) < (n:Int))) (Jj (by omega)) ?_;refine go0 6 [] [] ?_;obtain ⟨b5,o6,rfl,-,c7⟩:=RS.row hro (hro1);refine qQ (c7.sees S4) ?_;refine go0 14 [.ix b5 o6 n c5 k,.f 0 0,.b 2 0] [] ?_ (ho:=(Aj (by first | omega | (simp; omega)) (trivial)));obtain ⟨b8,o9,rfl,-,c10⟩:=RS.row hr4 (hrow);refine qQ (c10.sees (S2.trans S4)) ?_;refine go1 14 [.ix b8 o9 n c i,.f 0 0,.own,.b 0 0,.b 0 1] [] ?_ (ho:=(Aj (by first | omega | (simp; omega)) (trivial)));intro b11
  by_cases h3:g.kind=3
  ·have hke':=hek g kv hgm h3 i4;have hev':=λsk H q1 q2=>hev g (.slice Au nu cu) sk kv H hgm h3 q1 q2 (by omega) i4;have hst':=hsl i g x ⟨cv,ov,kv,lk,ot⟩ hg h3 hx (mK kv g.src) (hZ p (lk + 1) now (mK kv g.src) x) rfl rfl;rw [hst'] at hst;generalize mK kv g.src=key at *;have hlu':=λlw H q=>hlu i x g key lk cv ot lw hg hx hxo hke' (by omega) (by omega) (by omega) (by omega) H q;generalize hZ p (lk + 1) now key x=rr at *;simp only at hst;obtain ⟨xv,hxv⟩:∃ xv,aW key rr.1=xv:=⟨_,rfl⟩;rw [hxv] at hst;refine jV (t:=g.kind == 3) (Xj.2 h3) ?_;refine go0 5 [.b 0 3] [] ?_;have hx2:((lZ ov).set i [Vi xv.k,Vi xv.n,.string xv.s])[i]?=some [Vi xv.k,Vi xv.n,.string xv.s]:=Zq (by rw [Ij]; omega);refine g_callq (λa w hJ=>hev' _ _ (hga.sees (S2.trans (S4.trans hJ.j.seesQ))) (hJ.j.rowQ (v:=v) (e:=122) (k:=7) (l:=wK kv) 1 (by kernel_rfl))) ?_; intro W12 S13;refine go1 8 [.own,.b 0 0] [] ?_;intro b14;refine fV 12 0 [.pu,.pu,.pu,.pu,.v (λgh=>Vs b3 n c3),.pu,.pu,.pu,.ld 0 0,.m (λgh=>.agg #[Vi xv.k,Vi xv.n,.string xv.s]) [(3,λgh=>.row (sL (gh 9)) 57 8 (gW (if rr.2=true then ot++[ltOf g.name rr.1] else ot))),(4,λgh=>.box b [.slice (some ⟨b8,o9,none⟩) n c,sL gv,Vi p.t,Vi p.b,Vi p.c,sL iv,.slice A2 n c2,Vs b3 n c3,Vi now,Vi (if rr.2=true then lk + 1 else lk),sL (gh 9)]),(5,λgh=>.row (.slice A2 n c2) 130 10 (fK (cv.set i rr.1)))],.v (λgh=>.pointer (some ⟨b3,0 + i * 3,none⟩)),.s 6 (λgh=>.row (Vs b3 n c3) 44 3 ((lZ ov).set i [Vi xv.k,Vi xv.n,.string xv.s]))] [(9,false)] (trivial) ?_ ?_
   ·intro R hT hA hmono;refine Aj (r_loadY hT hA 49 (λgh=>Vs b3 n c3) [3] 4 (by kernel_rfl) (by kernel_rfl) (by kernel_rfl) (λ_=>by kernel_rfl) 4 (GN R 4) (by kernel_rfl) b 34 (.tmp 48) 7 [.slice (some ⟨b8,o9,none⟩) n c,sL gv,Vi p.t,Vi p.b,Vi p.c,sL iv,.slice A2 n c2,Vs b3 n c3,Vi now,Vi lk,sL lw] [λgh=>[.slice (some ⟨b8,o9,none⟩) n c,sL gv,Vi p.t,Vi p.b,Vi p.c,sL iv,.slice A2 n c2,Vs b3 n c3,Vi now,Vi (if rr.2=true then lk + 1 else lk),sL (gh 9)]] (by kernel_rfl) (λ_=>by kernel_rfl) (by kernel_rfl) (λ_=>by kernel_rfl) (λ_=>by kernel_rfl) (λ_=>by kernel_rfl)) ?_;refine Aj (r_callE' hT hA hmono ⟨λ_ _=>by kernel_rfl,λ_ _=>by kernel_rfl,λ_ _=>by kernel_rfl⟩ (by kernel_rfl) 54 (λu=>.agg #[Vi xv.k,Vi xv.n,.string xv.s]) [6,7,8] 9 (by kernel_rfl) (λ_=>by kernel_rfl) [3,4,5] (by kernel_rfl) (by kernel_rfl) (λgh=>[.row (sL lw) 57 8 (gW ot),.box b [.slice (some ⟨b8,o9,none⟩) n c,sL gv,Vi p.t,Vi p.b,Vi p.c,sL iv,.slice A2 n c2,Vs b3 n c3,Vi now,Vi lk,sL lw],.row (.slice A2 n c2) 130 10 (fK cv)]) (λgh u=>[.row (sL u) 57 8 (gW (if rr.2=true then ot++[ltOf g.name rr.1] else ot)),.box b [.slice (some ⟨b8,o9,none⟩) n c,sL gv,Vi p.t,Vi p.b,Vi p.c,sL iv,.slice A2 n c2,Vs b3 n c3,Vi now,Vi (if rr.2=true then lk + 1 else lk),sL u],.row (.slice A2 n c2) 130 10 (fK (cv.set i rr.1))]) (λ_=>by kernel_rfl) (λ_=>by kernel_rfl) (λ_ _=>by kernel_rfl) 152 (λgh=>#[Vp b,Vi (i:Int),.agg #[Vi key.k,Vi key.n,.string key.s]]) (λ_ _=>by kernel_rfl) (λgh H sH fH=>(hlu' _ _ (hf.sees (S2.trans (S4.trans (S13.trans sH))))).mono λv Bo H z=>z.to hxv)) ?_;refine Aj (bZ hT hA b3 0 n c3 i (λgh=>.pointer (some ⟨b3,0 + i * 3,none⟩)) (by first | omega | (simp; omega))) ?_;refine Aj (r_rowset hT hA [0,1,2,3,4,5,6,7,8,9,10] (by kernel_rfl) (by kernel_rfl) (λ_=>by kernel_rfl) 6 (GN R 6) (by kernel_rfl) (by kernel_rfl) (by kernel_rfl) i 0 (g:=b3) (m:=n) (cap:=c3) (kk:=3) (te:=44) (l:=lZ ov) (r:=[Vi x0.k,Vi x0.n,.string x0.s]) (λgh=>.agg #[Vi xv.k,Vi xv.n,.string xv.s]) (λ_=>by kernel_rfl) (λ_=>by kernel_rfl) 44 (.tmp 55) (.tmp 54) (by kernel_rfl) (λ_=>by kernel_rfl) (λ_=>by kernel_rfl) (hx1) (λ_=>by kernel_rfl)) ?_
    trivial
   rintro u54 W15 S16 -;refine go0 1 [] [] ?_;refine fV 15 0 [.pu,.pu,.ld 1 0,.pu,.pu,.pu,.pu,.ld 4 7,.pu,.v (λgh=>.pointer (some ⟨b3,0 + i * 3,none⟩)),.v (λgh=>.agg #[Vi xv.k,Vi xv.n,.string xv.s]),.pu,.f (λgh=>.slice (some ⟨(uJ (gh 12)),0,none⟩) 1 1) (λgh hh=>Cells hh (uJ (gh 12)) 0 [Vt g.name,Vi 0,Vi 0,Ve,Vi xv.k,Vi xv.n,.string xv.s]),.e (λgh=>sL (gh 13)) 2 (λgh=>.row (sL (gh 13)) 122 7 ((wK kv)++[[Vt g.name,Vi 0,Vi 0,Ve,Vi xv.k,Vi xv.n,.string xv.s]])),.pu] [(12,true),(13,false)] (Aj (λ_ _ _ s c=>c.sees s) (trivial)) ?_ ?_
   ·intro R hT hA hmono;refine Aj (bZ hT hA b3 0 n c3 i (λgh=>.pointer (some ⟨b3,0 + i * 3,none⟩)) (by first | omega | (simp; omega))) ?_;refine Aj (r_rowget' hT hA 81 (λgh=>.agg #[Vi xv.k,Vi xv.n,.string xv.s]) [9] 10 6 (GN R 6) b3 n c3 3 44 ((lZ ov).set i [Vi xv.k,Vi xv.n,.string xv.s]) i 0 (r:=[Vi xv.k,Vi xv.n,.string xv.s]) (hx2) 44 (.tmp 80)) ?_;refine Aj (r_fact hT hA hmono ⟨λ_ _=>by kernel_rfl,λ_ _=>by kernel_rfl,λ_ _=>by kernel_rfl⟩ 83 (λg=>Vs g 1 1) [11] 12 (by kernel_rfl) (by kernel_rfl) (λ_=>by kernel_rfl) (λgh=>[Vt g.name,Vi 0,Vi 0,Ve,Vi xv.k,Vi xv.n,.string xv.s]) 122 (λ_ _=>by kernel_rfl) (λgh zb zH zc zj zq zhq zhe=>own_fact (i:=12) (k:=0) (f:=λgh hh=>Cells hh (uJ (gh 12)) 0 [Vt g.name,Vi 0,Vi 0,Ve,Vi xv.k,Vi xv.n,.string xv.s]) (by kernel_rfl) (by kernel_rfl) zc zj zq zhq zhe)) ?_;refine Aj (r_append hT hA hmono ⟨λ_ _=>by kernel_rfl,λ_ _=>by kernel_rfl,λ_ _=>by kernel_rfl⟩ (by kernel_rfl) 84 [0,12] 13 (by kernel_rfl) (λ_=>by kernel_rfl) 2 (GN R 2) (by kernel_rfl) (by kernel_rfl) (by kernel_rfl) (λgh=>v) 32 122 7 (λgh=>wK kv) (λgh=>[[Vt g.name,Vi 0,Vi 0,Ve,Vi xv.k,Vi xv.n,.string xv.s]]) (λ_=>by kernel_rfl) (λ_=>by kernel_rfl) (λ_ _=>by kernel_rfl) (.tmp 71) (.tmp 83) (by kernel_rfl) (by kernel_rfl) (λgh=>(uJ (gh 12))) 1 1 (λ_=>by kernel_rfl) (λ_=>by kernel_rfl) 0 12 (λgh hh=>Cells hh (uJ (gh 12)) 0 [Vt g.name,Vi 0,Vi 0,Ve,Vi xv.k,Vi xv.n,.string xv.s]) (by kernel_rfl) (by kernel_rfl) (λ_ _ c=>c) Tryz.underlying32 (zv:=.agg #[Ve,Vi 0,Vi 0,Ve,Vi 0,Vi 0,Ve]) (bytes:=80) (by kernel_rfl) (by kernel_rfl) (λ_=>by kernel_rfl) (λ_=>by rw [hfr]; simp; omega)) ?_
    trivial
   rintro b18 v84 W19 S20 ⟨f17,-⟩;replace f17:Cells W19 b18 0 [Vt g.name,Vi 0,Vi 0,Ve,Vi xv.k,Vi xv.n,.string xv.s]:=f17;refine qQ f17 ?_;refine go0 6 [] [(85,Vi (IntKind.i64.wrap ((k:Int) + 1)),Vi ((k:Int) + 1))] ?_ (hc:=(Aj (jJ (by omega) (by omega)) (trivial)));refine wQ [(0,Vp b),(20,.slice (some ⟨b5,o6,none⟩) n c5),(21,Vi (n:Int)),(4,sL v84),(22,Vi ((k:Int) + 1))] [.row (sL v84) 122 7 ((wK kv)++[[Vt g.name,Vi 0,Vi 0,Ve,Vi xv.k,Vi xv.n,.string xv.s]]),.row (sL u54) 57 8 (gW (if rr.2=true then ot++[ltOf g.name rr.1] else ot)),.box b [.slice (some ⟨b8,o9,none⟩) n c,sL gv,Vi p.t,Vi p.b,Vi p.c,sL iv,.slice A2 n c2,Vs b3 n c3,Vi now,Vi (if rr.2=true then lk + 1 else lk),sL u54],.row (.slice A2 n c2) 130 10 (fK (cv.set i rr.1)),.row (Vs b3 n c3) 44 3 ((lZ ov).set i [Vi xv.k,Vi xv.n,.string xv.s])] [] ?_;exact iV (k + 1) (λX q=>⟨W19,sL v84,kv++[(g.name,xv)],u54,(if rr.2=true then ot++[ltOf g.name rr.1] else ot),(if rr.2=true then lk + 1 else lk),cv.set i rr.1,ov.set i xv,q _ _ _ _ (mY (by rw [fcRows_snoc, <- vlRows_set])),(S4.trans (S13.trans (S16.trans S20))),by omega,hst⟩)
  ·skip;have hon':=λsk H q1 q2 q3=>hon g (.slice Au nu cu) sk kv H hgm q1 q2 q3 (by omega) i4
   have hst':=hso i g ⟨cv,ov,kv,lk,ot⟩ hg h3;rw [hst'] at hst;simp only at hst;generalize yW g inp [] kv=xv at *;have hx2:((lZ ov).set i [Vi xv.k,Vi xv.n,.string xv.s])[i]?=some [Vi xv.k,Vi xv.n,.string xv.s]:=Zq (by rw [Ij]; omega);refine tQ (t:=g.kind == 3) (Lj.2 h3) ?_;refine fV 16 0 [.pu,.pu,.pu,.pu,.ld 3 7,.pu,.ld 0 0,.pu,.pu,.pu,.pu,.ld 3 5,.pu,.v (λgh=>.agg #[Vi xv.k,Vi xv.n,.string xv.s]),.v (λgh=>.pointer (some ⟨b3,0 + i * 3,none⟩)),.s 5 (λgh=>.row (Vs b3 n c3) 44 3 ((lZ ov).set i [Vi xv.k,Vi xv.n,.string xv.s]))] [] (trivial) ?_ ?_
   ·intro R hT hA hmono;refine Aj (r_callq hT hA hmono 69 (λgh=>.agg #[Vi xv.k,Vi xv.n,.string xv.s]) [6,11,12] 13 (by kernel_rfl) (by kernel_rfl) (by kernel_rfl) (λ_=>by kernel_rfl) 1 (GN R 1) (by kernel_rfl) (by kernel_rfl) (λgh=>v) 122 7 (wK kv) (λ_=>by kernel_rfl) 65 (λgh=>#[.agg #[Vt g.name,Vi g.kind,Vi g.ty,Vi g.src.op,Vi g.src.k,Vi g.src.n,.string g.src.s,.string g.src.nm,.slice Au nu cu],sL iv,Vz,v]) (λ_ _=>by kernel_rfl) (λgh H bH sH fH rQ=>hon' _ _ (hga.sees (S2.trans (S4.trans sH))) (hi.sees (S2.trans (S4.trans sH))) rQ)) ?_;refine Aj (bZ hT hA b3 0 n c3 i (λgh=>.pointer (some ⟨b3,0 + i * 3,none⟩)) (by first | omega | (simp; omega))) ?_;refine Aj (r_rowset hT hA [0,1,2,3,4,5,6,7,8,9,10,11,12,13,14] (by kernel_rfl) (by kernel_rfl) (λ_=>by kernel_rfl) 5 (GN R 5) (by kernel_rfl) (by kernel_rfl) (by kernel_rfl) i 0 (g:=b3) (m:=n) (cap:=c3) (kk:=3) (te:=44) (l:=lZ ov) (r:=[Vi x0.k,Vi x0.n,.string x0.s]) (λgh=>.agg #[Vi xv.k,Vi xv.n,.string xv.s]) (λ_=>by kernel_rfl) (λ_=>by kernel_rfl) 44 (.tmp 70) (.tmp 69) (by kernel_rfl) (λ_=>by kernel_rfl) (λ_=>by kernel_rfl) (hx1) (λ_=>by kernel_rfl)) ?_
    trivial
   rintro W21 S22 -;refine go0 1 [] [] ?_;refine fV 15 0 [.pu,.pu,.ld 0 0,.pu,.pu,.pu,.pu,.ld 3 7,.pu,.v (λgh=>.pointer (some ⟨b3,0 + i * 3,none⟩)),.v (λgh=>.agg #[Vi xv.k,Vi xv.n,.string xv.s]),.pu,.f (λgh=>.slice (some ⟨(uJ (gh 12)),0,none⟩) 1 1) (λgh hh=>Cells hh (uJ (gh 12)) 0 [Vt g.name,Vi 0,Vi 0,Ve,Vi xv.k,Vi xv.n,.string xv.s]),.e (λgh=>sL (gh 13)) 1 (λgh=>.row (sL (gh 13)) 122 7 ((wK kv)++[[Vt g.name,Vi 0,Vi 0,Ve,Vi xv.k,Vi xv.n,.string xv.s]])),.pu] [(12,true),(13,false)] (Aj (λ_ _ _ s c=>c.sees s) (trivial)) ?_ ?_
   ·intro R hT hA hmono;refine Aj (bZ hT hA b3 0 n c3 i (λgh=>.pointer (some ⟨b3,0 + i * 3,none⟩)) (by first | omega | (simp; omega))) ?_;refine Aj (r_rowget' hT hA 81 (λgh=>.agg #[Vi xv.k,Vi xv.n,.string xv.s]) [9] 10 5 (GN R 5) b3 n c3 3 44 ((lZ ov).set i [Vi xv.k,Vi xv.n,.string xv.s]) i 0 (r:=[Vi xv.k,Vi xv.n,.string xv.s]) (hx2) 44 (.tmp 80)) ?_;refine Aj (r_fact hT hA hmono ⟨λ_ _=>by kernel_rfl,λ_ _=>by kernel_rfl,λ_ _=>by kernel_rfl⟩ 83 (λg=>Vs g 1 1) [11] 12 (by kernel_rfl) (by kernel_rfl) (λ_=>by kernel_rfl) (λgh=>[Vt g.name,Vi 0,Vi 0,Ve,Vi xv.k,Vi xv.n,.string xv.s]) 122 (λ_ _=>by kernel_rfl) (λgh zb zH zc zj zq zhq zhe=>own_fact (i:=12) (k:=0) (f:=λgh hh=>Cells hh (uJ (gh 12)) 0 [Vt g.name,Vi 0,Vi 0,Ve,Vi xv.k,Vi xv.n,.string xv.s]) (by kernel_rfl) (by kernel_rfl) zc zj zq zhq zhe)) ?_;refine Aj (r_append hT hA hmono ⟨λ_ _=>by kernel_rfl,λ_ _=>by kernel_rfl,λ_ _=>by kernel_rfl⟩ (by kernel_rfl) 84 [0,12] 13 (by kernel_rfl) (λ_=>by kernel_rfl) 1 (GN R 1) (by kernel_rfl) (by kernel_rfl) (by kernel_rfl) (λgh=>v) 32 122 7 (λgh=>wK kv) (λgh=>[[Vt g.name,Vi 0,Vi 0,Ve,Vi xv.k,Vi xv.n,.string xv.s]]) (λ_=>by kernel_rfl) (λ_=>by kernel_rfl) (λ_ _=>by kernel_rfl) (.tmp 71) (.tmp 83) (by kernel_rfl) (by kernel_rfl) (λgh=>(uJ (gh 12))) 1 1 (λ_=>by kernel_rfl) (λ_=>by kernel_rfl) 0 12 (λgh hh=>Cells hh (uJ (gh 12)) 0 [Vt g.name,Vi 0,Vi 0,Ve,Vi xv.k,Vi xv.n,.string xv.s]) (by kernel_rfl) (by kernel_rfl) (λ_ _ c=>c) Tryz.underlying32 (zv:=.agg #[Ve,Vi 0,Vi 0,Ve,Vi 0,Vi 0,Ve]) (bytes:=80) (by kernel_rfl) (by kernel_rfl) (λ_=>by kernel_rfl) (λ_=>by rw [hfr]; simp; omega)) ?_
    trivial
   rintro b24 v84 W25 S26 ⟨f23,-⟩;replace f23:Cells W25 b24 0 [Vt g.name,Vi 0,Vi 0,Ve,Vi xv.k,Vi xv.n,.string xv.s]:=f23;refine qQ f23 ?_;refine go0 6 [] [(85,Vi (IntKind.i64.wrap ((k:Int) + 1)),Vi ((k:Int) + 1))] ?_ (hc:=(Aj (jJ (by omega) (by omega)) (trivial)));refine wQ [(0,Vp b),(20,.slice (some ⟨b5,o6,none⟩) n c5),(21,Vi (n:Int)),(4,sL v84),(22,Vi ((k:Int) + 1))] [.row (sL v84) 122 7 ((wK kv)++[[Vt g.name,Vi 0,Vi 0,Ve,Vi xv.k,Vi xv.n,.string xv.s]]),.row (sL lw) 57 8 (gW ot),.box b [.slice (some ⟨b8,o9,none⟩) n c,sL gv,Vi p.t,Vi p.b,Vi p.c,sL iv,.slice A2 n c2,Vs b3 n c3,Vi now,Vi lk,sL lw],.row (.slice A2 n c2) 130 10 (fK cv),.row (Vs b3 n c3) 44 3 ((lZ ov).set i [Vi xv.k,Vi xv.n,.string xv.s])] [] ?_;exact iV (k + 1) (λX q=>⟨W25,sL v84,kv++[(g.name,xv)],lw,ot,lk,cv,ov.set i xv,q _ _ _ _ (mY (by rw [fcRows_snoc, <- vlRows_set])),(S4.trans (S22.trans S26)),by omega,hst⟩)
 ·skip;have hta:os.take k=os:=by rw [hke, <- hol,Pk]
  rw [hta] at hv;refine tQ (t:=decide ((k:Int) < (n:Int))) (Kj (by omega)) ?_;refine go0 2 [] [] ?_;refine xQ ?_;refine go0 1 [] [] ?_;refine hQ.to [] [1,2,3,4] [.row (sL lw) 57 8 (gW ot),.box b [.slice A n c,sL gv,Vi p.t,Vi p.b,Vi p.c,sL iv,.slice A2 n c2,Vs b3 n c3,Vi now,Vi lk,sL lw],.row (.slice A2 n c2) 130 10 (fK cv),.row (Vs b3 n c3) 44 3 (lZ ov)] (λH sH=>?_);exact ⟨lw,rfl,by rw [hv]; rfl⟩
end Go.Proofs.YthgcgciceejicaaGreatDoor
