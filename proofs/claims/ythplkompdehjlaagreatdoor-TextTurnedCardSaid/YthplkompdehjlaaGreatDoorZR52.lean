/-
  Calls that change blocks, rows and maps of the caller's own, and may give new ones.
-/
import Derived.Test.YthplkompdehjlaaGreatDoorZR9
namespace Go.Proofs.YthplkompdehjlaaGreatDoor
open Go.RowKit
set_option linter.unusedVariables false
def sW {α:Type} (ix:List Nat) (B:List α):List α:=(B.zipIdx.filter fun p=>ix.contains p.2).map (·.1)
def restI {α:Type} (ix:List Nat) (B:List α):List α:=(B.zipIdx.filter fun p => !(ix.contains p.2)).map (·.1)
theorem zip_fst {α:Type} (B:List α):B.zipIdx.map (·.1)=B:=by simp
theorem pickI_sub {α:Type} (ix:List Nat) (B:List α):(sW ix B).Sublist B:=by
 have h:=(List.filter_sublist (p:=fun p:α × Nat=>ix.contains p.2) (l:=B.zipIdx)).map (·.1)
 rwa [zip_fst] at h
theorem restI_sub {α:Type} (ix:List Nat) (B:List α):(restI ix B).Sublist B:=by
 have h:=(List.filter_sublist (p:=fun p:α × Nat => !(ix.contains p.2)) (l:=B.zipIdx)).map (·.1)
 rwa [zip_fst] at h
theorem pick_rest {α:Type} (ix:List Nat) (B:List α):B.Perm (sW ix B++restI ix B):=by
 have h:=(List.filter_append_perm (fun p:α × Nat=>ix.contains p.2) B.zipIdx).map (·.1)
 rw [List.map_append,zip_fst] at h
 exact h.symm
theorem blk_sub {l m:List Ent} (h:l.Sublist m):(blk l).Sublist (blk m):=sub_flat h
theorem Ent.ok_base {base base':Nat} {w:World} {e:Ent} (h:e.ok base w) (hb:∀ b∈e.blocks,base'≤b):e.ok base' w:=by
 cases e with
 | box b cs=>exact h
 | map b es=>exact h
 | row v t k l =>
  obtain ⟨⟨h0,h1⟩,h2⟩:=h
  refine ⟨⟨h0,?_⟩,h2⟩
  rcases h1 with h1 | ⟨g,cap,cur,rfl,hb',r⟩
  ·exact .inl h1
  ·exact .inr ⟨g,cap,cur,rfl,hb g (by simp [Ent.blocks,Value.ownBlock]),r⟩
theorem Fx.base_wr {C:Fx} {b:Nat} (h:C.w0.heap.size≤b∨b∈C.wr):C.base≤b:=by
 rcases h with h | h
 ·exact Nat.le_trans C.base_le h
 ·unfold Fx.base
  split
  ·rename_i e; rw [e] at h; cases h
  ·exact Nat.zero_le _
def ConE (P:Program) (f:FuncId) (args:Array Value) (h:Vw) (Bi:List Ent) (R:Value→List Ent→Vw→Prop):Prop :=
 (∀ e∈Bi,e.ok 0 h.w)→(blk Bi).Nodup→(∀ b∈blk Bi,b∈h.bad)→(∀ b∈h.bad,b < h.w.heap.size) →
 Calls P f args h.w fun en w'=>∃ v Bo,en=.returned v∧Low (blk Bi) h.w w'∧(∀ e∈Bo,e.ok 0 w')∧(blk Bo).Nodup∧(∀ b∈blk Bo,b∈blk Bi∨h.w.heap.size≤b)∧R v Bo ⟨w',blk Bo++h.bad⟩
theorem ConE.mono {P:Program} {f:FuncId} {args:Array Value} {h:Vw} {Bi:List Ent} {R R':Value→List Ent→Vw→Prop} (hc:ConE P f args h Bi R) (k:∀ v Bo H,R v Bo H→R' v Bo H):ConE P f args h Bi R':=fun h1 h2 h3 h4 =>
 (hc h1 h2 h3 h4).mono fun en w' ⟨v,Bo,e1,e2,e3,e4,e5,e6⟩=>⟨v,Bo,e1,e2,e3,e4,e5,k _ _ _ e6⟩
section
variable {P:Program} {C:Fx} {E:List (Nat × Value)} {B:List Ent} {F:List Fac} {c0:Code} {Q:Exit→Act→World→Prop} {h:Vw} {s:Z} {a:Act} {w w':World} {p:List Nat} {n:Nat} {ks:List Kt}
theorem J.calledX (hJ:J C E B h a w) {Bi Br Bo:List Ent} (hB:B.Perm (Bi++Br)) (hl:Low (blk Bi) w w') (hok:∀ e∈Bo,e.ok 0 w') (hnd:(blk Bo).Nodup) (hbo:∀ b∈blk Bo,b∈blk Bi∨w.heap.size≤b) :
  Sees h ⟨w',blk Bo++(blk B++C.bad0)⟩∧J C E (Bo++Br) ⟨w',blk Bo++(blk B++C.bad0)⟩ a w':=by
 have hp:(blk B).Perm (blk Bi++blk Br):=by rw [← tJ]; exact hB.flatMap_right _
 have hbl:=blk_lt hJ
 have hi:∀ b∈blk Bi,b∈blk B:=fun b hb=>hp.mem_iff.2 (List.mem_append_left _ hb)
 have hr:∀ b∈blk Br,b∈blk B:=fun b hb=>hp.mem_iff.2 (List.mem_append_right _ hb)
 have hdis:=(List.nodup_append.1 (hp.nodup_iff.1 hJ.nodup)).2.2
 have hsz:=hJ.sees.size
 have hbad:∀ b∈blk Bo++(blk B++C.bad0),b < h.w.heap.size→b∈h.bad:=fun b hb hlt=>by
  rcases List.mem_append.1 hb with q | q
  ·rcases hbo b q with q | q
   ·exact hJ.sees.bad b (List.mem_append_left _ (hi b q)) hlt
   ·simp only at hsz; omega
  ·exact hJ.sees.bad b q hlt
 have hs:Sees h ⟨w',blk Bo++(blk B++C.bad0)⟩:=⟨Nat.le_trans hsz hl.size,fun b hb hn=>(hl.block b (Nat.lt_of_lt_of_le hb hsz) (fun q=>hn (hJ.sees.bad b (List.mem_append_left _ (hi b q)) hb))).trans (hJ.sees.block b hb hn),hbad⟩
 have hown:∀ b∈blk Bo,C.w0.heap.size≤b∨b∈C.wr:=fun b hb=>by
  rcases hbo b hb with q | q
  ·exact hJ.own b (hi b q)
  ·exact .inl (Nat.le_trans hJ.low.size q)
 refine ⟨hs,hJ.fits,hJ.size,hJ.defers,⟨hl.os.trans hJ.low.os,hl.tape.trans hJ.low.tape,hl.output.trans hJ.low.output,Nat.le_trans hJ.low.size hl.size,fun k hk hm=>?_⟩,⟨Nat.le_refl _,fun _ _ _=>rfl,fun b hb _=>?_⟩,fun e he=>?_,?_,fun b hb=>?_,hJ.badlt⟩
 ·refine (hl.block k (Nat.lt_of_lt_of_le hk hJ.low.size) (fun q=>?_)).trans (hJ.low.block k hk hm)
  rcases hJ.own k (hi k q) with g | g
  ·omega
  ·exact hm g
 ·rw [tJ,List.append_assoc] at hb
  rcases List.mem_append.1 hb with q | q
  ·exact List.mem_append_left _ q
  ·refine List.mem_append_right _ ?_
   rcases List.mem_append.1 q with q | q
   ·exact List.mem_append_left _ (hr b q)
   ·exact List.mem_append_right _ q
 ·rcases List.mem_append.1 he with q | q
  ·exact Ent.ok_base (hok e q) fun b hb=>Fx.base_wr (hown b (List.mem_flatMap.2 ⟨e,q,hb⟩))
  ·have he:e∈B:=hB.mem_iff.2 (List.mem_append_right _ q)
   refine ok_block (hJ.ents e he) hl.size fun b hb=>?_
   have hbr:b∈blk Br:=List.mem_flatMap.2 ⟨e,q,hb⟩
   exact hl.block b (hbl b (hr b hbr)) fun q'=>hdis b q' b hbr rfl
 ·rw [tJ,List.nodup_append]
  refine ⟨hnd,(List.nodup_append.1 (hp.nodup_iff.1 hJ.nodup)).2.1,fun x hx y hy e=>?_⟩
  subst e
  rcases hbo x hx with q | q
  ·exact hdis x q x hy rfl
  ·have:=hbl x (hr x hy); omega
 ·rw [tJ] at hb
  rcases List.mem_append.1 hb with q | q
  ·exact hown b q
  ·exact hJ.own b (hr b q)
theorem J.pre (hJ:J C E B h a w) (ix:List Nat):(∀ e∈sW ix B,e.ok 0 w)∧(blk (sW ix B)).Nodup∧(∀ b∈blk (sW ix B),b∈blk B++C.bad0) :=
 ⟨fun e he=>Ent.ok_base (hJ.ents e ((pickI_sub ix B).mem he)) fun _ _=>Nat.zero_le _,hJ.nodup.sublist (blk_sub (pickI_sub ix B)),fun b hb=>List.mem_append_left _ ((blk_sub (pickI_sub ix B)).mem hb)⟩
theorem x_callE {f:FuncId} {args:Array Value} {R:Value→List Ent→Vw→Prop} (hK:K C E B F h a w) (d:Nat) (ix:List Nat) (hc:ConE P f args ⟨w,blk B++C.bad0⟩ (sW ix B) R) (hk:∀ w,callAt P C E (iW c0 p) ((iW c0 p).toList.drop n) d w=[.b true,.r (.ok (.enter f args) w)])
  (k:∀ v Bo h' a w,Sees h h'→R v Bo h'→K C ((d,v) :: E) (Bo++restI ix B) F h' a w→Goal P c0 Q (.ops p (n + 1)) ks a w):Goal P c0 Q (.ops p n) ks a w:=by
 obtain ⟨o,r,hl,hg,hd,hlt,hkn,hrun⟩:=xJ hk
 have hr:=iK hl
 refine kJ hl (zK hK.j.fits hg) (wpList_plain rfl fun KK hKK=>?_)
 unfold Oper.wp
 have hrun':∀ w,(execOp (evD E) { o with guard:=none }).run P w=.ok (.enter f args) w:=fun w=>by
  have:=hrun w
  unfold execOp at this ⊢
  exact this
 rw [pX (o:={ o with guard:=none }) hK.j.fits hkn,hrun']
 obtain ⟨p1,p2,p3⟩:=hK.j.pre ix
 refine (hc p1 p2 p3 (bad_lt hK.j)).mono ?_
 rintro e' w' ⟨v,Bo,rfl,hlo,hok,hnd,hbo,hR⟩
 refine hKK _ _ ?_
 rw [hr]
 obtain ⟨s1,j1⟩:=hK.j.calledX (pick_rest ix B) hlo hok hnd hbo
 exact k v Bo _ _ _ s1 hR ⟨j1.putd v hd hlt,hK.facs s1⟩
def Z.eB (s:Z) (ix:List Nat) (Bo:List Ent):Z:=⟨s.p,s.ks,s.E,Bo++restI ix s.B,s.F⟩
theorem g_callEJ {f:FuncId} {args:Array Value} {Bi:List Ent} {R:Value→List Ent→Vw→Prop} (ix:List Nat) (hc:∀ a w,K C s.E s.B s.F h a w→ConE P f args ⟨w,blk s.B++C.bad0⟩ Bi R) (k:∀ v Bo h',Sees h h'→R v Bo h'→Go P C c0 Q h' ((s.nx c0 v).eB ix Bo)) (hB:sW ix s.B=Bi:=by kernel_rfl) (hk:s.callOk P C c0 f args:=by intro _; kernel_rfl):Go P C c0 Q h s:=by
 subst hB
 exact g_ops (yJ hk).1 fun a w hK=>x_callE hK (s.d c0) ix (hc a w hK) (yJ hk).2 fun v Bo h' a w s' r hK'=>(k v Bo h' s' r).go a w hK'
theorem g_callE {f:FuncId} {args:Array Value} {Bi:List Ent} {R:Value→List Ent→Vw→Prop} (ix:List Nat) (hc:∀ H,Sees h H→ConE P f args H Bi R) (k:∀ v Bo h',Sees h h'→R v Bo h'→Go P C c0 Q h' ((s.nx c0 v).eB ix Bo)) (hB:sW ix s.B=Bi:=by kernel_rfl) (hk:s.callOk P C c0 f args:=by intro _; kernel_rfl):Go P C c0 Q h s :=
 g_callEJ ix (fun _ _ hK=>hc _ hK.j.sees) k hB hk
def EndE (P:Program) (C:Fx) (c0:Code) (Q:Exit→Act→World→Prop) (fn:Func) (R:Value→List Ent→Vw→Prop):Prop :=
 ∀ {s:Z} {h:Vw} (vs:List Value) (ix:List Nat) (jx:List Nat) (Bo:List Ent),(endZ P s fn.results.toList ix vs [] []).map (·.1)=(endZ P s fn.results.toList ix vs [] []).map (·.2)→sW jx s.B=Bo→(∀ a w,K C s.E s.B s.F h a w→R (pack vs) Bo ⟨w,blk Bo++C.bad0⟩)→Go P C c0 Q h s
theorem EndE.to {fn:Func} {R:Value→List Ent→Vw→Prop} (hQ:EndE P C c0 Q fn R) (vs:List Value) (jx:List Nat) (Bo:List Ent) (k:∀ H,Sees h H→R (pack vs) Bo H) (ix:List Nat:=[]) (hc:(endZ P s fn.results.toList ix vs [] []).map (·.1)=(endZ P s fn.results.toList ix vs [] []).map (·.2):=by kernel_rfl) (hB:sW jx s.B=Bo:=by kernel_rfl):Go P C c0 Q h s :=
 hQ vs ix jx Bo hc hB fun a w hK=>k _ (hK.j.sees.less fun b hb=>by
  subst hB
  rcases List.mem_append.1 hb with q | q
  ·exact List.mem_append_left _ ((blk_sub (pickI_sub jx s.B)).mem q)
  ·exact List.mem_append_right _ q)
end
end Go.Proofs.YthplkompdehjlaaGreatDoor
namespace Go.Proofs.YthplkompdehjlaaGreatDoor
open Go.RowKit
set_option linter.unusedVariables false
section
variable {P:Program} {Q:Exit→Act→World→Prop} {R:Reg} {ops:Array Oper} {i:Nat} {D:Nat→Prop} {x x':Gh} {h h':Vw} {a:Act} {w:World}
theorem BD_pick (ix:List Nat) (G:List Gent):(BD G D x).Perm (BD (sW ix G) D x++BD (restI ix G) D x):=by
 have:=(pick_rest ix G).filterMap (cur D x)
 rwa [List.filterMap_append] at this
def onlyL (R:Reg) (i:Nat) (ix:List Nat):Bool:=(restI ix R.G).all fun g=>g.vers.all fun p=>p.1 != i
theorem r_callE (hT:aK R=true) (hA:zJ R ops=true) (hmono:∀ q∈R.F,∀ x h h',Sees h h'→q.2 x h→q.2 x h') (hi:Ind R i) (d:Nat) (F:Value→Value) (dp:List Nat) (p:Nat) (hp:R.T[p]?=some (i,d,fun x=>F (x i))) (hk:∀ x,okR R ops i d dp x=true)
  (ix:List Nat) (ho:onlyL R i ix=true) (hs:((sW ix R.G).all fun g=>sync R i g)=true) (Bi Bo:Gh→List Ent) (hc0:∀ x,(sW ix R.G).filterMap (fK (R.an i) x)=Bi x) (hc1:∀ x,(sW ix R.G).filterMap (fK (i :: R.an i) x)=Bo x) (hl:∀ x v,Bi (upd x i v)=Bi x)
  (k:FuncId) (args:Gh→Array Value) (hr:∀ x w,(execOp (evD (rdE R i dp x)) (fW ops i)).run P w=.ok (.enter k (args x)) w)
  (hc:∀ x H,Sees R.h H→(∀ (j:Nat) (q:Nat × (Gh→Vw→Prop)),R.F[j]?=some q→(R.an i).contains q.1=true→q.2 x H) →
   ConE P k (args x) H (Bi x) (fun v B' H'=>∃ u,v=F u∧B'=Bo (upd x i u)∧∀ (j:Nat) (q:Nat × (Gh→Vw→Prop)),R.F[j]?=some q→q.1=i→q.2 (upd x i u) H')):StepAt' P ops Q R i:=by
 refine .mk fun o D x h a w hio hn hd I=>?_
 obtain ⟨h1,h2,h3,h4⟩:=yV hio (hk x)
 have han:=pJ hA hio I hd
 have hsg:∀ g∈sW ix R.G,sync R i g=true:=fun g hg=>List.all_eq_true.1 hs g hg
 have hbi:BD (sW ix R.G) D x=Bi x:=(fm_congr fun g hg=>gK (x':=x) I hn han (hsg g hg)).trans (hc0 x)
 have hperm:=BD_pick (D:=D) (x:=x) ix R.G
 rw [hbi] at hperm
 have hmem:=hperm.symm.subset
 have hcc:=hc x ⟨w,blk (BD R.G D x)++R.C.bad0⟩ (I.sees.trans I.mem.sees) (fun j q hq hc=>hmono q (List.mem_of_getElem? hq) x _ _ I.mem.sees (I.facts q (List.mem_of_getElem? hq) (han _ (by simpa using hc))))
 have hb:(blk (BD R.G D x)).Perm (blk (Bi x)++blk (BD (restI ix R.G) D x)):=by rw [← tJ]; exact hperm.flatMap_right _
 have p1:∀ e∈Bi x,e.ok 0 w:=fun e he=>Ent.ok_base (I.mem.ents e (hmem (List.mem_append_left _ he))) fun _ _=>Nat.zero_le _
 have p2:(blk (Bi x)).Nodup:=(List.nodup_append.1 (hb.nodup_iff.1 I.mem.nodup)).1
 have p3:∀ b∈blk (Bi x),b∈blk (BD R.G D x)++R.C.bad0:=fun b hb'=>List.mem_append_left _ (hb.mem_iff.2 (List.mem_append_left _ hb'))
 refine wpOp_call hio (aQ hio (gX hio h1 I hd hn) h2) (by rw [pX (gX hio h1 I hd hn) h4,← gW hio]; exact hr x w) ((hcc p1 p2 p3 (bad_lt I.mem)).mono ?_)
 rintro en w' ⟨v,Bo',rfl,hlo,hok,hnd,hbo,u,rfl,rfl,hv⟩
 obtain ⟨s1,j1⟩:=I.mem.calledX hperm hlo hok hnd hbo
 have hself:upd x i u i=u:=by simp [upd]
 refine ⟨F u,rfl,upd x i u,⟨w',blk (Bo (upd x i u))++(blk (BD R.G D x)++R.C.bad0)⟩,?_⟩
 rw [h3]
 have hb1:BD (sW ix R.G) (fun j=>j=i∨D j) (upd x i u)=Bo (upd x i u):=(fm_congr fun g hg=>at_next I hn han (hsg g hg) (upd x i u)).trans (hc1 (upd x i u))
 have hb2:BD (restI ix R.G) (fun j=>j=i∨D j) (upd x i u)=BD (restI ix R.G) D x:=by
  rw [BD_same fun g hg p hp=>by simpa using List.all_eq_true.1 (List.all_eq_true.1 ho g hg) p hp]
  exact hi.at_g I hn u _ fun g hg=>(restI_sub ix R.G).mem hg
 have hp2:=BD_pick (D:=fun j=>j=i∨D j) (x:=upd x i u) ix R.G
 rw [hb1,hb2] at hp2
 exact I.next hio hT hA hn hd ((j1.perm hp2.symm).putN _ _) s1 (hi.at_t I hn u) (.inl ⟨d,_,List.mem_of_getElem? hp,by simp only [hself]⟩) (oK hi hmono I hn u s1 hv)
theorem r_callE' (hT:aK R=true) (hA:zJ R ops=true) (hmono:∀ q∈R.F,∀ x h h',Sees h h'→q.2 x h→q.2 x h') (hi:Ind R i) (hF:(R.F.all fun t=>t.1 != i)=true) (d:Nat) (F:Value→Value) (dp:List Nat) (p:Nat) (hp:R.T[p]?=some (i,d,fun x=>F (x i))) (hk:∀ x,okR R ops i d dp x=true)
  (ix:List Nat) (ho:onlyL R i ix=true) (hs:((sW ix R.G).all fun g=>sync R i g)=true) (Bi:Gh→List Ent) (Bo:Gh→Value→List Ent) (hc0:∀ x,(sW ix R.G).filterMap (fK (R.an i) x)=Bi x) (hc1:∀ x,(sW ix R.G).filterMap (fK (i :: R.an i) x)=Bo x (x i)) (hl:∀ x v,(Bi (upd x i v),Bo (upd x i v) v)=(Bi x,Bo x v))
  (k:FuncId) (args:Gh→Array Value) (hr:∀ x w,(execOp (evD (rdE R i dp x)) (fW ops i)).run P w=.ok (.enter k (args x)) w)
  (hc:∀ x H,Sees R.h H→(∀ (j:Nat) (q:Nat × (Gh→Vw→Prop)),R.F[j]?=some q→(R.an i).contains q.1=true→q.2 x H) →
   ConE P k (args x) H (Bi x) (fun v B' _=>∃ u,v=F u∧B'=Bo x u)):StepAt' P ops Q R i:=by
 refine r_callE hT hA hmono hi d F dp p hp hk ix ho hs Bi (fun x=>Bo x (x i)) hc0 hc1 (fun x v=>(Prod.mk.inj (hl x v)).1) k args hr fun x H s f=>(hc x H s f).mono ?_
 rintro v B' H' ⟨u,rfl,rfl⟩
 refine ⟨u,rfl,?_,fun j q hq he=>?_⟩
 ·have:upd x i u i=u:=by simp [upd]
  rw [this]
  exact (Prod.mk.inj (hl x u)).2.symm
 ·have:=List.all_eq_true.1 hF q (List.mem_of_getElem? hq)
  simp [he] at this
theorem r_allocF (hT:aK R=true) (hA:zJ R ops=true) (hmono:∀ q∈R.F,∀ x h h',Sees h h'→q.2 x h→q.2 x h') (hi:Ind R i) (hF:(R.F.all fun t=>t.1 != i)=true) (d:Nat) (f:Nat→Value) (dp:List Nat) (p:Nat) (hp:R.T[p]?=some (i,d,fun x=>f (sJ (x i)))) (hk:∀ x,okR R ops i d dp x=true)
  (e:Nat) (g:Gent) (hg:R.G[e]?=some g) (ho:only R i (some e)=true) (hs:sync R i g=true) (cs:Gh→List Value) (hc0:∀ x,fK (R.an i) x g=none) (hc1:∀ x,fK (i :: R.an i) x g=some (.box (sJ (x i)) (cs x)))
  (t:TypeId) (hr:∀ x w,(execOp (evD (rdE R i dp x)) (fW ops i)).run P w=.ok (.value (f w.heap.size)) (w.alloc (.cells (cs x).toArray t))) (hcs:∀ x v,cs (upd x i v)=cs x):StepAt' P ops Q R i:=by
 refine .mk fun o D x h a w hio hn hd I=>?_
 obtain ⟨h1,h2,h3,h4⟩:=yV hio (hk x)
 have han:=pJ hA hio I hd
 refine oY hio (aQ hio (gX hio h1 I hd hn) h2) (by rw [pX (gX hio h1 I hd hn) h4,← gW hio]; exact hr x w) ?_
 have hl:Low [] w (w.alloc (.cells (cs x).toArray t)):=Low.of_below ((Below.refl _ _).alloc (Nat.le_refl _) _)
 have s:=(I.mem.grow hl).sees
 have hcur:=(gK (x':=x) I hn han hs).trans (hc0 x)
 refine ⟨upd x i (.pointer (some ⟨w.heap.size,0,none⟩)),⟨w.alloc (.cells (cs x).toArray t),w.heap.size :: (blk (BD R.G D x)++R.C.bad0)⟩,?_⟩
 rw [h3]
 have hself:upd x i (.pointer (some ⟨w.heap.size,0,none⟩)) i=.pointer (some ⟨w.heap.size,0,none⟩):=by simp [upd]
 have hcur1:cur (fun j=>j=i∨D j) (upd x i (.pointer (some ⟨w.heap.size,0,none⟩))) g=some (.box w.heap.size (cs x)):=by
  rw [cur_at (A:=i :: R.an i) (fun p hp=>?_),hc1,hself,hcs]; rfl
  have:=List.all_eq_true.1 hs p hp
  simp only [Bool.or_eq_true] at this
  by_cases hpi:p.1=i
  ·exact .inl ⟨by simp [hpi],.inl hpi⟩
  ·cases hc:(R.an i).contains p.1 with
   | true=>exact .inl ⟨by simp only [List.contains_cons,hc,Bool.or_true],.inr (han _ (by simpa using hc))⟩
   | false =>
    refine .inr ⟨by simp only [List.contains_cons,hc,Bool.or_false]; simpa using hpi,fun hD=>?_⟩
    rcases hD with hD | hD
    ·exact hpi hD
    ·rw [hc] at this
     rcases this with (k | k) | k
     ·cases k
     ·exact hpi (by simpa using k)
     ·exact hn (I.closed _ hD _ (by simpa using k))
 have hnew:=(I.mem.new (cs x) t)
 have hBD:BD R.G D x=BD (R.G.take e) D x++BD (R.G.drop (e + 1)) D x:=by rw [nJ hg,hcur]; simp
 have hmem:J R.C [] (BD R.G (fun j=>j=i∨D j) (upd x i (.pointer (some ⟨w.heap.size,0,none⟩)))) ⟨w.alloc (.cells (cs x).toArray t),w.heap.size :: (blk (BD R.G D x)++R.C.bad0)⟩ a (w.alloc (.cells (cs x).toArray t)):=by
  have hn':=hnew.now
  have hsee:Sees (⟨w.alloc (.cells (cs x).toArray t),w.heap.size :: (blk (BD R.G D x)++R.C.bad0)⟩:Vw) ⟨w.alloc (.cells (cs x).toArray t),blk (.box w.heap.size (cs x) :: BD R.G D x)++R.C.bad0⟩:=⟨Nat.le_refl _,fun _ _ _=>rfl,fun b hb _=>by simpa [blk,Ent.blocks] using hb⟩
  have hj:J R.C [] (.box w.heap.size (cs x) :: BD R.G D x) ⟨w.alloc (.cells (cs x).toArray t),w.heap.size :: (blk (BD R.G D x)++R.C.bad0)⟩ a (w.alloc (.cells (cs x).toArray t)) :=
   ⟨hn'.fits,hn'.size,hn'.defers,hn'.low,hsee,hn'.ents,hn'.nodup,hn'.own,hn'.badlt⟩
  refine hj.perm ?_
  rw [only_some ho hg,hcur1,hi.at_g I hn _ _ mem_take,hi.at_g I hn _ _ mem_drop,hBD]
  simp only [Option.toList_some,List.append_assoc,List.singleton_append]
  exact List.perm_middle.symm
 have hs2:Sees h ⟨w.alloc (.cells (cs x).toArray t),w.heap.size :: (blk (BD R.G D x)++R.C.bad0)⟩:=by
  refine ⟨s.size,s.block,fun b hb hlt=>?_⟩
  rcases List.mem_cons.1 hb with rfl | hb
  ·have:=I.mem.sees.size
   simp only at this
   omega
  ·exact s.bad b hb hlt
 refine I.next hio hT hA hn hd (hmem.putN _ _) hs2 (hi.at_t I hn _) (.inl ⟨d,_,List.mem_of_getElem? hp,by simp only [hself,sJ]⟩) (oK hi hmono I hn _ hs2 (fun j q hq he=>?_))
 have:=List.all_eq_true.1 hF q (List.mem_of_getElem? hq)
 simp [he] at this
end
def Z.front (s:Z) (i:Nat):Z:=⟨s.p,s.ks,s.E,(s.B[i]?).toList++s.B.eraseIdx i,s.F⟩
theorem perm_front {α:Type}:∀ (l:List α) (i:Nat),l.Perm ((l[i]?).toList++l.eraseIdx i)
 | [],i=>by simp
 | x :: l,0=>by simp
 | x :: l,i + 1=>by
  rw [List.getElem?_cons_succ,List.eraseIdx_cons_succ]
  exact ((perm_front l i).cons x).trans List.perm_middle.symm
theorem g_front {P:Program} {C:Fx} {c0:Code} {Q:Exit→Act→World→Prop} {h:Vw} {s:Z} (i:Nat) (k:Go P C c0 Q h (s.front i)):Go P C c0 Q h s :=
 .mk fun a w hK=>k.go a w ⟨hK.j.perm (perm_front s.B i),hK.f⟩
end Go.Proofs.YthplkompdehjlaaGreatDoor
