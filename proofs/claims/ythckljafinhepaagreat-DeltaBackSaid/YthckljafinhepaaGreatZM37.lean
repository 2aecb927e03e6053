/-
  Contract of the laws' Form. What holds of the laws' forms. The fields of the laws' forms may be.
-/
import Derived.Test.YthckljafinhepaaGreatZM25
import Derived.Test.YthckljafinhepaaGreatZM34
import Derived.Test.YthckljafinhepaaGreatZM36
import Derived.Test.YthckljafinhepaaGreatZM31
import Derived.Test.YthckljafinhepaaGreatZM33
import Derived.Test.YthckljafinhepaaGreatZM29
import Derived.Test.YthckljafinhepaaGreatZM21
set_option maxRecDepth 100000
namespace Go.Proofs.YthckljafinhepaaGreat
open Go.RowKit
section
variable {P:Program} {C:Fx} {E:List (Nat × Value)} {B:List Ent} {F:List Fac} {h:Vw} {a:Act} {w w':World} {Q:Exit→Act→World→Prop} {c0:Code} {p:List Nat} {n:Nat} {ks:List Kt}
theorem own_sees (hJ:J C E B h a w) (i:Nat) {v:Value} {e:TypeId} {kk:Nat} {l:List (List Value)} (hB:B[i]?=some (.row v e kk l)):Sees h ⟨w,v.ownBlock.toList++C.bad0⟩ :=
 hJ.sees.less fun b hb=>by
  rcases List.mem_append.1 hb with q | q
  ·exact List.mem_append_left _ (List.mem_flatMap.2 ⟨_,List.mem_of_getElem? hB,q⟩)
  ·exact List.mem_append_right _ q
theorem own_apart (hJ:J C E B h a w) (i j:Nat) {v u:Value} {e e':TypeId} {kk kk':Nat} {l l':List (List Value)} (hB:B[i]?=some (.row v e kk l)) (hj:B[j]?=some (.row u e' kk' l')) (hne:Nat.beq i j=false) (hC:C.wr=[]):RS ⟨w,u.ownBlock.toList++C.bad0⟩ kk v l:=by
 have hm:=List.mem_of_getElem? hB
 refine row_rs (hJ.ents _ hm) fun b hb hbad=>?_
 rcases List.mem_append.1 hbad with q | q
 ·exact ent_apart hJ.nodup hB hj (Nat.ne_of_beq_eq_false hne) b (by simp [Ent.blocks,hb]) (by simpa [Ent.blocks] using q)
 ·rcases hJ.own b (List.mem_flatMap.2 ⟨_,hm,by simp [Ent.blocks,hb]⟩) with g | g
  ·have:=hJ.badlt b q; omega
  ·rw [hC] at g; cases g
theorem x_callown {f:FuncId} {args:Array Value} {e:TypeId} {kk:Nat} {R:Value→Value→List (List Value)→Vw→Prop} (hK:K C E B F h a w) (d:Nat) (hc:C0 P f args ⟨w,blk B++C.bad0⟩ (fun v h'=>∃ u l,Ent.ok w.heap.size h'.w (.row u e kk l)∧R v u l ⟨h'.w,u.ownBlock.toList++h'.bad⟩)) (hk:∀ w,callAt P C E (eW c0 p) ((eW c0 p).toList.drop n) d w=[.b true,.r (.ok (.enter f args) w)])
  (k:∀ v u l h' a w,Sees h h'→R v u l h'→K C ((d,v) :: E) (.row u e kk l :: B) F h' a w→Goal P c0 Q (.ops p (n + 1)) ks a w):Goal P c0 Q (.ops p n) ks a w:=by
 obtain ⟨o,r,hl,hg,hd,hlt,hkn,hrun⟩:=dK hk
 have hr:=lK hl
 refine nJ hl (qQ hK.j.fits hg) (wpList_plain rfl fun KK hKK=>?_)
 unfold Oper.wp
 have hrun':∀ w,(execOp (evD E) { o with guard:=none }).run P w=.ok (.enter f args) w:=fun w=>by
  have:=hrun w
  unfold execOp at this ⊢
  exact this
 rw [iX (o:={ o with guard:=none }) hK.j.fits hkn,hrun']
 refine (hc (by intro x hx; cases hx) (by simp) (by simp) (bad_lt hK.j)).mono ?_
 rintro e' w' ⟨v,Bo,rfl,hlo,-,-,u,l,hok,hR⟩
 refine hKK _ _ ?_
 rw [hr]
 have j1:=(hK.j.addRow hlo hok).putd v hd hlt
 have ev:(⟨w',u.ownBlock.toList++(blk B++C.bad0)⟩:Vw)=⟨w',blk (.row u e kk l :: B)++C.bad0⟩:=by
  show Vw.mk _ _=Vw.mk _ ((u.ownBlock.toList++blk B)++C.bad0)
  rw [List.append_assoc]
 have hR':R v u l ⟨w',blk (.row u e kk l :: B)++C.bad0⟩:=ev ▸ hR
 exact k v u l _ _ _ j1.sees hR' ⟨j1.now,hK.facs j1.sees⟩
end
theorem names10 (k:Nat) (hk:k < 10) (h:Vw):C0 Tryz.prog 54 #[] h (fun v h'=>∃ u,v=.slice (some ⟨zJ u,0,none⟩) 10 10∧Cells h' (zJ u) (0 + k * 1) [.string (fname k)]):=by
 refine fY Tryz.func54 (c:=Tryz.f54.body.getD .skip) (N:=2) ?_
 intro hbx hbad Q hQ a w hJ
 refine rx' hJ true 12 [.fix] [] (.new fun bs=>.ok (.out .ret) [] [(0,Vs bs 10 10)] [] [(bs,0,[.string ⟨#[97]⟩,.string ⟨#[98]⟩,.string ⟨#[99]⟩,.string ⟨#[100,97,121]⟩,.string ⟨#[101,49]⟩,.string ⟨#[102,101,101]⟩,.string ⟨#[103,111,110,101]⟩,.string ⟨#[104,111,109,101]⟩,.string ⟨#[105,116,101,109]⟩,.string ⟨#[106,111,98]⟩])]) (fun bs _=>by kernel_rfl) ?_
 clear hJ a w; intro bs h1 a w s2 hJ
 have s:Cells h1 bs 0 [.string ⟨#[97]⟩,.string ⟨#[98]⟩,.string ⟨#[99]⟩,.string ⟨#[100,97,121]⟩,.string ⟨#[101,49]⟩,.string ⟨#[102,101,101]⟩,.string ⟨#[103,111,110,101]⟩,.string ⟨#[104,111,109,101]⟩,.string ⟨#[105,116,101,109]⟩,.string ⟨#[106,111,98]⟩]:=hJ.f _ (List.mem_of_getElem? (i:=0) rfl)
 refine gY (hQ [Vs bs 10 10] _ [] hJ (.rtm hJ.j .nil) (fJ _) rfl ?_).1
 have c:Cells ⟨w,h.bad⟩ bs 0 (sX fnames).flatten:=(hJ.f _ List.mem_cons_self).sees hJ.j.out
 exact ⟨.pointer (some ⟨bs,0,none⟩),rfl,RS.cell (rs_cells (k:=1) (sX fnames) (fun r hr=>by obtain ⟨x,-,rfl⟩:=List.mem_map.1 hr; rfl) (by decide) c) (fname_at hk)⟩
theorem fldT_step (l:List RawD) (k:Nat) {x:Ex} {n:Nat} (h:srcE l (gJ l k).1 (aJ l (gJ l k).2) (bJ l (gJ l k).2)=(x,n)) :
  (gJ l (k + 1)).1=(gJ l k).1++[⟨fname k,1 + cJ (aJ l (gJ l k).2).k 3,1 + cJ (aJ l (gJ l k).2).b 3,x⟩]∧(gJ l (k + 1)).2=n:=by
 refine ⟨?_,?_⟩
 ·show (gJ l k).1++[_]=_; rw [h]
 ·show (srcE l (gJ l k).1 (aJ l (gJ l k).2) (bJ l (gJ l k).2)).2=_; rw [h]
theorem fld_src {l:List RawD} {k:Nat} {x:Ex} {u:Value} {h:Vw} {vs:List Value} (e:(gJ l (k + 1)).1=(gJ l k).1++[⟨fname k,1 + cJ (aJ l (gJ l k).2).k 3,1 + cJ (aJ l (gJ l k).2).b 3,x⟩])
  (hvs:AllSrc h (gJ l k).1 vs) (hu:IsArgs h x u):AllSrc h (gJ l (k + 1)).1 (vs++[u]):=by rw [e]; exact AllSrc.snoc hvs hu
theorem slu_snoc {vs:List Value} (h:∀ u∈vs,.slice (sA u) (sN u) (sC u)=u) {v:Value} (hv:.slice (sA v) (sN v) (sC v)=v):∀ u∈vs++[v],.slice (sA u) (sN u) (sC u)=u:=fun u hu=>(List.mem_append.1 hu).elim (h u) (fun e=>by rw [List.mem_singleton.1 e]; exact hv)
theorem bnd2:bnd 2=22:=rfl
theorem bnd1:bnd 1=7:=rfl
theorem pgT_step (l:List RawD) (fs:List Fd) (n n0 k:Nat) {x:Ex} {m:Nat} (h:skipE l fs (aJ l (pJ l fs n n0 k).2) (bJ l (pJ l fs n n0 k).2)=(x,m)) :
  (pJ l fs n n0 (k + 1)).1=(pJ l fs n n0 k).1++[⟨iW k,jW fs n k,x⟩]∧(pJ l fs n n0 (k + 1)).2=m:=by
 refine ⟨?_,?_⟩
 ·show (pJ l fs n n0 k).1++[_]=_; rw [h]
 ·show (skipE l fs (aJ l (pJ l fs n n0 k).2) (bJ l (pJ l fs n n0 k).2)).2=_; rw [h]
theorem byte_of (k:Nat) (h:k < 4):Value.int .u8 (IntKind.u8.wrap (49 + (k:Int)))=.int .u8 (((UInt8.ofNat (49 + k)).toNat:Nat):Int):=by
 match k,h with
 | 0,_=>rfl
 | 1,_=>rfl
 | 2,_=>rfl
 | 3,_=>rfl
theorem pg_name (k:Nat) (h:k < 4):Value.string ((⟨#[112]⟩:ByteArray)++⟨([UInt8.ofNat (49 + k)]).toArray⟩)=.string (iW k):=by
 match k,h with
 | 0,_=>rfl
 | 1,_=>rfl
 | 2,_=>rfl
 | 3,_=>rfl
theorem mod_eq (a n k:Nat):((a:Int) % ((n:Int) + 1) == (k:Int))=decide (a % (n + 1)=k):=by
 have e:(a:Int) % ((n:Int) + 1)=((a % (n + 1):Nat):Int):=(Int.natCast_emod a (n + 1)).symm
 rw [e,Bool.eq_iff_iff,beq_iff_eq,decide_eq_true_iff]; omega
theorem fdRows_one:∀ (fs:List Fd) (vs:List Value),(∀ v∈vs,.slice (sA v) (sN v) (sC v)=v)→∀ r∈aQ fs vs,∀ u∈r,u.oneCell'=true
 | [],_,_,r,hr=>by simp [aQ] at hr
 | _ :: _,[],_,r,hr=>by simp [aQ] at hr
 | f :: fs,v :: vs,h,r,hr=>by
  have hr:r∈fdRow f v :: aQ fs vs:=hr
  rcases List.mem_cons.1 hr with rfl | hr
  ·intro u hu
   have hv:=h v (by simp)
   rw [← hv] at hu
   simp [fdRow] at hu
   rcases hu with rfl | rfl | rfl | rfl | rfl | rfl | rfl | rfl | rfl <;> rfl
  ·exact fdRows_one fs vs (fun v hv=>h v (by simp [hv])) r hr
theorem fdRows_rev (fs:List Fd) (vs:List Value) (h:vs.length=fs.length):(aQ fs vs).reverse=aQ fs.reverse vs.reverse:=by
 induction fs generalizing vs with
 | nil=>rw [List.length_eq_zero_iff.1 (show vs.length=0 from h)]; rfl
 | cons f fs ih =>
  match vs,h with
  | v :: vs,h =>
   have h:vs.length=fs.length:=by simpa using h
   show (fdRow f v :: aQ fs vs).reverse=_
   rw [List.reverse_cons,ih vs h,List.reverse_cons,List.reverse_cons,fdRows_snoc (by simpa using h)]
theorem AllSrc.rev {h:Vw} {fs:List Fd} {vs:List Value} (k:AllSrc h fs vs):AllSrc h fs.reverse vs.reverse:=by
 induction fs generalizing vs with
 | nil =>
  have e:=List.length_eq_zero_iff.1 (show vs.length=0 from k.len)
  subst e; exact k
 | cons f fs ih =>
  have hl:=k.len
  match vs,hl with
  | v :: vs,hl =>
   obtain ⟨u,r,e,k1,k2⟩:=k
   simp only [List.cons.injEq] at e
   obtain ⟨rfl,rfl⟩:=e
   rw [List.reverse_cons,List.reverse_cons]
   exact AllSrc.snoc (ih k2) k1
def FormO (l:List RawD) (v u:Value) (fl:List (List Value)) (h:Vw):Prop:=∃ u2 vs,v=.agg #[u,u2]∧fl=aQ (mQ l).fields vs∧AllSrc h (mQ l).fields vs∧IsPgs h u2 (mQ l).pages
set_option maxHeartbeats 4000000 in
theorem form_o (l:List RawD) (sl:Value) (h:Vw) (hr:RS h 4 sl (l.map RawD.cs)) (hlen:l.length * 40≤reachBytes) (hok:∀ r∈l,r.ok) :
  C0 Tryz.prog 15 #[sl] h (fun v h'=>∃ u fl,Ent.ok h.w.heap.size h'.w (.row u 43 9 fl)∧FormO l v u fl ⟨h'.w,u.ownBlock.toList++h'.bad⟩):=by
 obtain ⟨A,cap,rfl,-,-,-⟩:=hr.form
 rw [List.length_map] at *
 obtain ⟨nf1,nf2,nf3⟩:=mV l
 have rok:=rawAt_ok hok 0
 obtain ⟨⟨k0,k1⟩,⟨a0,a1⟩,⟨rb0,rb1⟩,-⟩:=rok
 refine fY Tryz.func15 (c:=Tryz.f15.body.getD .skip) (N:=136) ?_
 intro hbx hbad Q hQ a w hJ
 refine rx' hJ false 21 [.own,.own,.own] [] (.new fun br=>.new fun bg=>.new fun bf=>.ok (.ops [0,1,1,1] 1) [.seq [1,1,1,1]] [(2,Vp br),(3,Vp bg),(4,Vp bf),(18,Vp bg)] [.box bf [Vz,Vz],.box bg [.slice A l.length cap,Vi 0],.box br [Vz,Vz]] []) (fun br bg bf _=>by kernel_rfl) ?_
 clear hJ a w; intro br bg bf a w hJ
 refine eY hJ 19 1 (vQ bg l (.slice A l.length cap) 0 _ (hr.sees hJ.j.sees) (by omega) hlen) ?_; clear hJ a w; rintro _ _ h1 a w s2 ⟨rfl,rfl⟩ hJ
 refine rk' hJ false 6 [.own,.b 0 0] [] (.new fun bq=>.m (.code [0,0,1,1,1,1]) [.seq [1,0,1,1,1,1],.seq [1,1,1,1,1]] [2,3,4] [(5,Vp bq)] [.box bq [Vi ((aJ l 0).k),Vi ((aJ l 0).a),Vi ((aJ l 0).b),.string ((aJ l 0).t)],.box bf [Vz,Vz],.box bg [.slice A l.length cap,Vi ((bJ l 0:Nat):Int)],.box br [Vz,Vz]] []) (hr:=fun bq _=>by kernel_rfl) ?_
 clear hJ a w; intro bq a w hJ
 let R:Reg:=⟨⟨136,h.w,h.bad,[]⟩,[(0,20,fun gh=>.pointer (some ⟨bq,1,none⟩)),(1,21,fun gh=>Vi ((aJ l 0).a)),(2,22,fun gh=>.slice (some ⟨zJ (gh 2),0,none⟩) 10 10),(3,23,fun gh=>Vi 10),(4,24,fun gh=>Vi (cJ (aJ l 0).a 10)),(5,25,fun gh=>Vi (1 + (cJ (aJ l 0).a 10))),(6,26,fun gh=>Vi 0)],[(2,Vp br),(3,Vp bg),(4,Vp bf),(5,Vp bq)],[⟨some (.box bq [Vi ((aJ l 0).k),Vi ((aJ l 0).a),Vi ((aJ l 0).b),.string ((aJ l 0).t)]),[]⟩,⟨some (.box bf [Vz,Vz]),[]⟩,⟨some (.box bg [.slice A l.length cap,Vi ((bJ l 0:Nat):Int)]),[]⟩,⟨some (.box br [Vz,Vz]),[]⟩],[(2,fun gh hh=>Cells hh (zJ (gh 2)) (0 + 0 * 1) [.string (fname 0)])],[[],[0],[],[2],[0,1,2,3],[0,1,2,3,4],[]],h1⟩
 have hmono:∀ zq∈R.F,∀ zx zh zi,Sees zh zi→zq.2 zx zh→zq.2 zx zi:=jV (fun _ _ _ s c=>c.sees s) (lJ)
 refine oY (by kernel_rfl) R hJ 7 [.pu,.ld 0 1,.cl,.pu,.cl,.cl,.pu] (by kernel_rfl) hmono (fun _ _ _=>by kernel_rfl) (fun hT hA=>?_) ?_
 ·clear hJ
  refine And.intro (r_call hT hA hmono ⟨fun _ _=>by kernel_rfl,fun _ _=>by kernel_rfl,fun _ _=>by kernel_rfl⟩ 22 (fun u=>.slice (some ⟨zJ u,0,none⟩) 10 10) [] 2 (by kernel_rfl) (by kernel_rfl) (fun _=>by kernel_rfl) 54 (fun gh=>#[]) (fun _ _=>by kernel_rfl) (fun gh H sH fH lent=>C0.facts (R:=R) (x:=gh) (i:=2) (n:=0) (F:=(fun u=>.slice (some ⟨zJ u,0,none⟩) 10 10)) (G:=fun u hh=>Cells hh (zJ u) (0 + 0 * 1) [.string (fname 0)]) (f:=fun gh hh=>Cells hh (zJ (gh 2)) (0 + 0 * 1) [.string (fname 0)]) (names10 0 (by omega) _) (by kernel_rfl) (by kernel_rfl) (fun _ _ r=>r))) ?_
  refine And.intro (rW hT hA hmono 24 (fun gh=>Vi (cJ (aJ l 0).a 10)) [1,2,3] 4 24 (fun gh=>#[Vi ((aJ l 0).a),Vi 10]) (fun gh H sH fH lent=>cK _ 10 _ a0 a1 (by omega) (by omega))) ?_
  refine And.intro (sW hT hA 25 (fun gh=>Vi (1 + (cJ (aJ l 0).a 10))) [4] 5 (fun gh w=>gX (by kernel_rfl) (kJ (by omega) (by omega)))) ?_
  trivial
 clear hJ a w; intro gh h3 a w sR hJ1 hF; have s4:Sees h1 h3:=sR; clear sR
 have hJ:K ⟨136,h.w,h.bad,[]⟩ [(2,Vp br),(3,Vp bg),(4,Vp bf),(5,Vp bq),(25,Vi (1 + (cJ (aJ l 0).a 10))),(26,Vi 0)] [.box bq [Vi ((aJ l 0).k),Vi ((aJ l 0).a),Vi ((aJ l 0).b),.string ((aJ l 0).t)],.box bf [Vz,Vz],.box bg [.slice A l.length cap,Vi ((bJ l 0:Nat):Int)],.box br [Vz,Vz]] [] h3 a w:=hJ1.tw
 have f22:Cells h3 (zJ (gh 2)) (0 + 0 * 1) [.string (fname 0)]:=Reg.fact (i:=2) (f:=fun gh hh=>Cells hh (zJ (gh 2)) (0 + 0 * 1) [.string (fname 0)]) hF 0 (by kernel_rfl)
 replace hJ:=hJ.fact f22
 clear hJ1 hF hmono R
 generalize gh 2=u22 at *
 clear gh
 refine rk' hJ false 2 [] [] (.k (.code [0,1,0,1,1,1,1]) [.block 0,.seq [1,1,1,1,1]] [2,3,4,5,25,26] []) ?_
 clear hJ a w; intro a w hJ
 replace hJ:=hJ.nilrow 43 9
 refine kY (fun (k:Nat) a w=>∃ (h5:Vw) (v:Value) (vs:List Value),K ⟨136,h.w,h.bad,[]⟩ [(2,Vp br),(3,Vp bg),(4,Vp bf),(5,Vp bq),(25,Vi (1 + (cJ (aJ l 0).a 10))),(26,Vi (k:Int))] [.row v 43 9 (aQ (gJ l k).1 vs),.box bq [Vi ((aJ l 0).k),Vi ((aJ l 0).a),Vi ((aJ l 0).b),.string ((aJ l 0).t)],.box bf [v,Vz],.box bg [.slice A l.length cap,Vi (((gJ l k).2:Nat):Int)],.box br [Vz,Vz]] [((zJ u22),0 + 0 * 1,[.string (fname 0)])] h5 a w∧Sees h3 h5∧(k≤jJ l)∧(AllSrc h5 (gJ l k).1 vs)∧(∀ u∈vs,.slice (sA u) (sN u) (sC u)=u)) (fun k=>jJ l - k) (0) ⟨h3,(Vz),[],hJ.tw,Sees.refl _,Nat.zero_le _,by unfold AllSrc AllArgs; rfl,fun _ h=>by cases h⟩ ?_
 clear hJ a w; rintro k a w ⟨h5,v,vs,hJ,s6,hk,hvs,hvl⟩
 refine rk' hJ false 6 [] [] (.k (.code [0,1,0,0,1,0,1,1,1,1]) [.seq [1,1,0,0,1,0,1,1,1,1]] [2,3,4,5,25,26] [(27,.bool (decide ((k:Int) < (1 + (cJ (aJ l 0).a 10)))))]) ?_
 clear hJ a w; intro a w hJ
 rcases (by omega:k < jJ l∨k=jJ l) with hlt | hke
 ·have fle:=fldT_le l k
  obtain ⟨⟨rk0,rk1⟩,⟨ra0,ra1⟩,⟨rb0',rb1'⟩,-⟩:=rawAt_ok hok (gJ l k).2
  have hE2:=exprC_all l (gJ l k).1 hlen hok (by rw [lQ]; omega) 2 (by omega)
  have hE1:=exprC_all l (gJ l k).1 hlen hok (by rw [lQ]; omega) 1 (by omega)
  have pk:=pW (aJ l (gJ l k).2).k 3 (by omega)
  have pb:=pW (aJ l (gJ l k).2).b 3 (by omega)
  have pa:=pW (aJ l (gJ l k).2).a 3 (by omega)
  have anx:=yJ l (gJ l k).2
  refine qY hJ (t:=decide ((k:Int) < (1 + (cJ (aJ l 0).a 10)))) (decide_eq_true (by omega)) ?_
  refine rk' hJ false 13 [] [] (.k (.ops [0,1,0,0,1,1,0,0,1,0,1,1,1,1] 1) [.seq [1,1,0,0,1,1,0,0,1,0,1,1,1,1],.block 1,.seq [1,1,1,0,0,1,0,1,1,1,1]] [2,3,4,5,25,26] [(6,Vi (k:Int)),(29,Vp bg)]) ?_
  clear hJ a w; intro a w hJ
  refine eY hJ 30 3 (vQ bg l (.slice A l.length cap) (gJ l k).2 _ (hr.sees (s2.trans (s4.trans (s6.trans hJ.j.sees)))) (by omega) hlen) ?_; clear hJ a w; rintro _ _ h7 a w s8 ⟨rfl,rfl⟩ hJ
  refine rk' hJ false 5 [.own,.b 0 0] [] (.new fun b9=>.f (.code [0,1,1,0,0,1,1,0,0,1,0,1,1,1,1]) [.seq [1,1,1,0,0,1,1,0,0,1,0,1,1,1,1],.block 1,.seq [1,1,1,0,0,1,0,1,1,1,1]] [2,3,4,5,25,26,6] [(7,Vp b9)] [.box b9 [Vi ((aJ l (gJ l k).2).k),Vi ((aJ l (gJ l k).2).a),Vi ((aJ l (gJ l k).2).b),.string ((aJ l (gJ l k).2).t)],.row v 43 9 (aQ (gJ l k).1 vs),.box bq [Vi ((aJ l 0).k),Vi ((aJ l 0).a),Vi ((aJ l 0).b),.string ((aJ l 0).t)],.box bf [v,Vz],.box bg [.slice A l.length cap,Vi ((bJ l (gJ l k).2:Nat):Int)],.box br [Vz,Vz]] [.o 0]) (hr:=fun b9 _=>by kernel_rfl) ?_
  clear hJ a w; intro b9 a w hJ
  let R:Reg:=⟨⟨136,h.w,h.bad,[]⟩,[(0,31,fun gh=>.slice (some ⟨zJ (gh 0),0,none⟩) 10 10),(1,32,fun gh=>Vi (k:Int)),(2,33,fun gh=>.pointer (some ⟨zJ (gh 0),0 + k * 1,none⟩)),(3,34,fun gh=>.string (fname k)),(4,35,fun gh=>Vp b9),(5,36,fun gh=>Vi ((aJ l (gJ l k).2).k)),(6,37,fun gh=>Vi (cJ (aJ l (gJ l k).2).k 3)),(7,38,fun gh=>Vi (1 + (cJ (aJ l (gJ l k).2).k 3))),(8,39,fun gh=>.pointer (some ⟨b9,2,none⟩)),(9,40,fun gh=>Vi ((aJ l (gJ l k).2).b)),(10,41,fun gh=>Vi (cJ (aJ l (gJ l k).2).b 3)),(11,42,fun gh=>Vi (1 + (cJ (aJ l (gJ l k).2).b 3))),(12,43,fun gh=>.agg #[.string (fname k),Vi (1 + (cJ (aJ l (gJ l k).2).k 3)),Vi (1 + (cJ (aJ l (gJ l k).2).b 3)),Vi 0,Vi 0,Vi 0,Ve,Ve,Vz]),(13,8,fun gh=>.pointer (some ⟨(zJ (gh 13)),0,none⟩))],[(2,Vp br),(3,Vp bg),(4,Vp bf),(5,Vp bq),(25,Vi (1 + (cJ (aJ l 0).a 10))),(26,Vi (k:Int)),(6,Vi (k:Int)),(7,Vp b9)],[⟨none,[(13,fun gh=>.box (zJ (gh 13)) [Ve,Vi 0,Vi 0,Vi 0,Vi 0,Vi 0,Ve,Ve,Vz]),(14,fun gh=>.box (zJ (gh 13)) [.string (fname k),Vi (1 + (cJ (aJ l (gJ l k).2).k 3)),Vi (1 + (cJ (aJ l (gJ l k).2).b 3)),Vi 0,Vi 0,Vi 0,Ve,Ve,Vz])]⟩,⟨some (.box b9 [Vi ((aJ l (gJ l k).2).k),Vi ((aJ l (gJ l k).2).a),Vi ((aJ l (gJ l k).2).b),.string ((aJ l (gJ l k).2).t)]),[]⟩,⟨some (.row v 43 9 (aQ (gJ l k).1 vs)),[]⟩,⟨some (.box bq [Vi ((aJ l 0).k),Vi ((aJ l 0).a),Vi ((aJ l 0).b),.string ((aJ l 0).t)]),[]⟩,⟨some (.box bf [v,Vz]),[]⟩,⟨some (.box bg [.slice A l.length cap,Vi ((bJ l (gJ l k).2:Nat):Int)]),[]⟩,⟨some (.box br [Vz,Vz]),[]⟩],[(0,fun gh hh=>Cells hh (zJ (gh 0)) (0 + k * 1) [.string (fname k)])],[[],[],[0,1],[0,1,2],[],[4],[0,4,5],[0,4,5,6],[],[8],[0,4,5,6,8,9],[0,4,5,6,8,9,10],[0,1,2,3,4,5,6,7,8,9,10,11],[],[0,1,2,3,4,5,6,7,8,9,10,11,12,13]],h7⟩
  have hmono:∀ zq∈R.F,∀ zx zh zi,Sees zh zi→zq.2 zx zh→zq.2 zx zi:=jV (fun _ _ _ s c=>c.sees s) (lJ)
  refine oY (by kernel_rfl) R hJ 15 [.cl,.pu,.cl,.cl,.pu,.ld 1 0,.cl,.cl,.pu,.ld 1 2,.cl,.cl,.pu,.al 0,.st 0 0] (by kernel_rfl) hmono (fun _ _ _=>by kernel_rfl) (fun hT hA=>?_) ?_
  ·clear hJ
   refine And.intro (r_call hT hA hmono ⟨fun _ _=>by kernel_rfl,fun _ _=>by kernel_rfl,fun _ _=>by kernel_rfl⟩ 31 (fun u=>.slice (some ⟨zJ u,0,none⟩) 10 10) [] 0 (by kernel_rfl) (by kernel_rfl) (fun _=>by kernel_rfl) 54 (fun gh=>#[]) (fun _ _=>by kernel_rfl) (fun gh H sH fH lent=>C0.facts (R:=R) (x:=gh) (i:=0) (n:=0) (F:=(fun u=>.slice (some ⟨zJ u,0,none⟩) 10 10)) (G:=fun u hh=>Cells hh (zJ u) (0 + k * 1) [.string (fname k)]) (f:=fun gh hh=>Cells hh (zJ (gh 0)) (0 + k * 1) [.string (fname k)]) (names10 k (by omega) _) (by kernel_rfl) (by kernel_rfl) (fun _ _ r=>r))) ?_
   refine And.intro (sW hT hA 33 (fun gh=>.pointer (some ⟨zJ (gh 0),0 + k * 1,none⟩)) [0,1] 2 (fun gh w=>jX (t:=58) (x:=(.tmp 31)) (y:=(.tmp 32)) (b:=zJ (gh 0)) (off:=0) (n:=10) (cap:=10) (k:=k) (e:=9) (kk:=1) (by kernel_rfl) (by kernel_rfl) (by kernel_rfl) ((by omega)) Tryz.underlying58 (by kernel_rfl))) ?_
   refine And.intro (r_loadfx hT hA 34 (fun gh=>.string (fname k)) [2] 3 (by kernel_rfl) (by kernel_rfl) (by kernel_rfl) (fun _=>by kernel_rfl) 0 (0,fun gh hh=>Cells hh (zJ (gh 0)) (0 + k * 1) [.string (fname k)]) (by kernel_rfl) (by kernel_rfl) (fun gh=>(zJ (gh 0))) (fun gh=>(0 + k * 1)) (fun gh=>[.string (fname k)]) 0 (fun _ _ c=>c) 9 (.tmp 33) (by kernel_rfl) (fun _=>by kernel_rfl) (fun _=>by kernel_rfl)) ?_
   refine And.intro (rW hT hA hmono 37 (fun gh=>Vi (cJ (aJ l (gJ l k).2).k 3)) [0,5] 6 24 (fun gh=>#[Vi ((aJ l (gJ l k).2).k),Vi 3]) (fun gh H sH fH lent=>cK _ 3 _ rk0 rk1 (by omega) (by omega))) ?_
   refine And.intro (sW hT hA 38 (fun gh=>Vi (1 + (cJ (aJ l (gJ l k).2).k 3))) [6] 7 (fun gh w=>gX (by kernel_rfl) (kJ (by omega) (by omega)))) ?_
   refine And.intro (rW hT hA hmono 41 (fun gh=>Vi (cJ (aJ l (gJ l k).2).b 3)) [6,9] 10 24 (fun gh=>#[Vi ((aJ l (gJ l k).2).b),Vi 3]) (fun gh H sH fH lent=>cK _ 3 _ rb0' rb1' (by omega) (by omega))) ?_
   refine And.intro (sW hT hA 42 (fun gh=>Vi (1 + (cJ (aJ l (gJ l k).2).b 3))) [10] 11 (fun gh w=>gX (by kernel_rfl) (kJ (by omega) (by omega)))) ?_
   trivial
  clear hJ a w; intro gh h11 a w sR hJ1 hF; have s12:Sees h7 h11:=sR; clear sR
  have hJ:K ⟨136,h.w,h.bad,[]⟩ [(2,Vp br),(3,Vp bg),(4,Vp bf),(5,Vp bq),(25,Vi (1 + (cJ (aJ l 0).a 10))),(26,Vi (k:Int)),(7,Vp b9),(8,.pointer (some ⟨(zJ (gh 13)),0,none⟩))] [.box (zJ (gh 13)) [.string (fname k),Vi (1 + (cJ (aJ l (gJ l k).2).k 3)),Vi (1 + (cJ (aJ l (gJ l k).2).b 3)),Vi 0,Vi 0,Vi 0,Ve,Ve,Vz],.box b9 [Vi ((aJ l (gJ l k).2).k),Vi ((aJ l (gJ l k).2).a),Vi ((aJ l (gJ l k).2).b),.string ((aJ l (gJ l k).2).t)],.row v 43 9 (aQ (gJ l k).1 vs),.box bq [Vi ((aJ l 0).k),Vi ((aJ l 0).a),Vi ((aJ l 0).b),.string ((aJ l 0).t)],.box bf [v,Vz],.box bg [.slice A l.length cap,Vi ((bJ l (gJ l k).2:Nat):Int)],.box br [Vz,Vz]] [((zJ u22),0 + 0 * 1,[.string (fname 0)])] h11 a w:=hJ1.tw
  have f31:Cells h11 (zJ (gh 0)) (0 + k * 1) [.string (fname k)]:=Reg.fact (i:=0) (f:=fun gh hh=>Cells hh (zJ (gh 0)) (0 + k * 1) [.string (fname k)]) hF 0 (by kernel_rfl)
  replace hJ:=hJ.fact f31
  clear hJ1 hF hmono R
  generalize gh 0=u31 at *
  generalize zJ (gh 13)=b10 at *
  clear gh
  refine rk' hJ false 15 [.b 0 1] [] (.k (.code [1,0,1,0,1,1,1,0,0,1,1,0,0,1,0,1,1,1,1]) [.block 2,.seq [1,1,1,1,0,0,1,1,0,0,1,0,1,1,1,1],.block 1,.seq [1,1,1,0,0,1,0,1,1,1,1]] [2,3,4,5,25,26,7,8] [(45,Vi (1 + (cJ (aJ l (gJ l k).2).k 3))),(46,.bool ((1 + (cJ (aJ l (gJ l k).2).k 3)) == 2))]) ?_
  clear hJ a w; intro a w hJ
  have frl:(aQ (gJ l k).1 vs).length=k:=by rw [cQ hvs.len,lQ]
  have hvn:=hvs.len
  have b2:=bnd2
  have b1:=bnd1
  by_cases q1:cJ (aJ l (gJ l k).2).k 3=1
  ·obtain ⟨e1,e2⟩:=fldT_step l k (show srcE l (gJ l k).1 (aJ l (gJ l k).2) (bJ l (gJ l k).2)=_ by unfold srcE; rw [if_pos q1])
   refine qY hJ (t:=(1 + (cJ (aJ l (gJ l k).2).k 3)) == 2) (beq_iff_eq.2 (by omega)) ?_
   refine rk' hJ false 6 [.b 0 2,.b 4 0] [] (.k (.ops [0,1,0,1,0,1,1,1,0,0,1,1,0,0,1,0,1,1,1,1] 5) [.block 2,.seq [1,1,1,1,0,0,1,1,0,0,1,0,1,1,1,1],.block 1,.seq [1,1,1,0,0,1,0,1,1,1,1]] [2,3,4,5,25,26,8] [(48,Vp bg),(50,Vi (1 + (cJ (aJ l (gJ l k).2).b 3))),(52,v)]) ?_
   clear hJ a w; intro a w hJ
   refine eY hJ 53 5 (hE2 bg (.slice A l.length cap) (bJ l (gJ l k).2) (1 + cJ (aJ l (gJ l k).2).b 3) _ _ _ (hr.sees (s2.trans (s4.trans (s6.trans (s8.trans (s12.trans hJ.j.sees)))))) (by omega) (by omega) (by omega) ⟨vs,(hJ.j.rowLent (v:=v) (e:=43) (k:=9) (l:=aQ (gJ l k).1 vs) (b:=bg) (cs:=[.slice A l.length cap,Vi ((bJ l (gJ l k).2:Nat):Int)]) 2 5 rfl rfl),((hvs.sees (s8.trans (s12.trans hJ.j.sees)))).sees ((Sees.refl _).less (hJ.j.boxBad (b:=bg) (cs:=[.slice A l.length cap,Vi ((bJ l (gJ l k).2:Nat):Int)]) 5 rfl))⟩ (by simp)) ?_; clear hJ a w; rintro _ _ h13 a w s14 ⟨u,rfl,rfl,hu⟩ hJ
   refine rk' hJ true 10 [.b 0 3,.b 4 0,.b 0 0,.fix] [] (.new fun b15=>.f (.ops [1,1,1,1,0,0,1,1,0,0,1,0,1,1,1,1] 4) [.block 1,.seq [1,1,1,0,0,1,0,1,1,1,1]] [2,3,4,5,25,26] [(67,v),(69,Vs b15 1 1)] [.box b10 [.string (fname k),Vi (1 + (cJ (aJ l (gJ l k).2).k 3)),Vi (1 + (cJ (aJ l (gJ l k).2).b 3)),Vi (((iJ l (gJ l k).1 2 (1 + cJ (aJ l (gJ l k).2).b 3) (bJ l (gJ l k).2)).1).op),Vi (((iJ l (gJ l k).1 2 (1 + cJ (aJ l (gJ l k).2).b 3) (bJ l (gJ l k).2)).1).k),Vi (((iJ l (gJ l k).1 2 (1 + cJ (aJ l (gJ l k).2).b 3) (bJ l (gJ l k).2)).1).n),.string (((iJ l (gJ l k).1 2 (1 + cJ (aJ l (gJ l k).2).b 3) (bJ l (gJ l k).2)).1).s),.string (((iJ l (gJ l k).1 2 (1 + cJ (aJ l (gJ l k).2).b 3) (bJ l (gJ l k).2)).1).nm),.slice (sA u) (sN u) (sC u)],.box b9 [Vi ((aJ l (gJ l k).2).k),Vi ((aJ l (gJ l k).2).a),Vi ((aJ l (gJ l k).2).b),.string ((aJ l (gJ l k).2).t)],.row v 43 9 (aQ (gJ l k).1 vs),.box bq [Vi ((aJ l 0).k),Vi ((aJ l 0).a),Vi ((aJ l 0).b),.string ((aJ l 0).t)],.box bf [v,Vz],.box bg [.slice A l.length cap,Vi (((iJ l (gJ l k).1 2 (1 + cJ (aJ l (gJ l k).2).b 3) (bJ l (gJ l k).2)).2:Nat):Int)],.box br [Vz,Vz]] [.n (b15,0,[.string (fname k),Vi (1 + (cJ (aJ l (gJ l k).2).k 3)),Vi (1 + (cJ (aJ l (gJ l k).2).b 3)),Vi (((iJ l (gJ l k).1 2 (1 + cJ (aJ l (gJ l k).2).b 3) (bJ l (gJ l k).2)).1).op),Vi (((iJ l (gJ l k).1 2 (1 + cJ (aJ l (gJ l k).2).b 3) (bJ l (gJ l k).2)).1).k),Vi (((iJ l (gJ l k).1 2 (1 + cJ (aJ l (gJ l k).2).b 3) (bJ l (gJ l k).2)).1).n),.string (((iJ l (gJ l k).1 2 (1 + cJ (aJ l (gJ l k).2).b 3) (bJ l (gJ l k).2)).1).s),.string (((iJ l (gJ l k).1 2 (1 + cJ (aJ l (gJ l k).2).b 3) (bJ l (gJ l k).2)).1).nm),.slice (sA u) (sN u) (sC u)]),.o 0,.o 1]) (hr:=fun b15 _=>by kernel_rfl) ?_
   clear hJ a w; intro b15 h16 a w s17 hJ
   refine rx hJ true 10 [.ap 2 0 (aQ (gJ l k).1 vs) [[.string (fname k),Vi (1 + (cJ (aJ l (gJ l k).2).k 3)),Vi (1 + (cJ (aJ l (gJ l k).2).b 3)),Vi (((iJ l (gJ l k).1 2 (1 + cJ (aJ l (gJ l k).2).b 3) (bJ l (gJ l k).2)).1).op),Vi (((iJ l (gJ l k).1 2 (1 + cJ (aJ l (gJ l k).2).b 3) (bJ l (gJ l k).2)).1).k),Vi (((iJ l (gJ l k).1 2 (1 + cJ (aJ l (gJ l k).2).b 3) (bJ l (gJ l k).2)).1).n),.string (((iJ l (gJ l k).1 2 (1 + cJ (aJ l (gJ l k).2).b 3) (bJ l (gJ l k).2)).1).s),.string (((iJ l (gJ l k).1 2 (1 + cJ (aJ l (gJ l k).2).b 3) (bJ l (gJ l k).2)).1).nm),.slice (sA u) (sN u) (sC u)]],.b 4 0] [(72,Vi (IntKind.i64.wrap ((k:Int) + 1)),Vi ((k:Int) + 1))] (.nv fun v70=>.ok (.out .normal) [] [(2,Vp br),(3,Vp bg),(4,Vp bf),(5,Vp bq),(25,Vi (1 + (cJ (aJ l 0).a 10))),(26,Vi ((k:Int) + 1))] [.box b10 [.string (fname k),Vi (1 + (cJ (aJ l (gJ l k).2).k 3)),Vi (1 + (cJ (aJ l (gJ l k).2).b 3)),Vi (((iJ l (gJ l k).1 2 (1 + cJ (aJ l (gJ l k).2).b 3) (bJ l (gJ l k).2)).1).op),Vi (((iJ l (gJ l k).1 2 (1 + cJ (aJ l (gJ l k).2).b 3) (bJ l (gJ l k).2)).1).k),Vi (((iJ l (gJ l k).1 2 (1 + cJ (aJ l (gJ l k).2).b 3) (bJ l (gJ l k).2)).1).n),.string (((iJ l (gJ l k).1 2 (1 + cJ (aJ l (gJ l k).2).b 3) (bJ l (gJ l k).2)).1).s),.string (((iJ l (gJ l k).1 2 (1 + cJ (aJ l (gJ l k).2).b 3) (bJ l (gJ l k).2)).1).nm),.slice (sA u) (sN u) (sC u)],.box b9 [Vi ((aJ l (gJ l k).2).k),Vi ((aJ l (gJ l k).2).a),Vi ((aJ l (gJ l k).2).b),.string ((aJ l (gJ l k).2).t)],.row (.slice (sA v70) (sN v70) (sC v70)) 43 9 ((aQ (gJ l k).1 vs)++[[.string (fname k),Vi (1 + (cJ (aJ l (gJ l k).2).k 3)),Vi (1 + (cJ (aJ l (gJ l k).2).b 3)),Vi (((iJ l (gJ l k).1 2 (1 + cJ (aJ l (gJ l k).2).b 3) (bJ l (gJ l k).2)).1).op),Vi (((iJ l (gJ l k).1 2 (1 + cJ (aJ l (gJ l k).2).b 3) (bJ l (gJ l k).2)).1).k),Vi (((iJ l (gJ l k).1 2 (1 + cJ (aJ l (gJ l k).2).b 3) (bJ l (gJ l k).2)).1).n),.string (((iJ l (gJ l k).1 2 (1 + cJ (aJ l (gJ l k).2).b 3) (bJ l (gJ l k).2)).1).s),.string (((iJ l (gJ l k).1 2 (1 + cJ (aJ l (gJ l k).2).b 3) (bJ l (gJ l k).2)).1).nm),.slice (sA u) (sN u) (sC u)]]),.box bq [Vi ((aJ l 0).k),Vi ((aJ l 0).a),Vi ((aJ l 0).b),.string ((aJ l 0).t)],.box bf [.slice (sA v70) (sN v70) (sC v70),Vz],.box bg [.slice A l.length cap,Vi (((iJ l (gJ l k).1 2 (1 + cJ (aJ l (gJ l k).2).b 3) (bJ l (gJ l k).2)).2:Nat):Int)],.box br [Vz,Vz]] [(b15,0,[.string (fname k),Vi (1 + (cJ (aJ l (gJ l k).2).k 3)),Vi (1 + (cJ (aJ l (gJ l k).2).b 3)),Vi (((iJ l (gJ l k).1 2 (1 + cJ (aJ l (gJ l k).2).b 3) (bJ l (gJ l k).2)).1).op),Vi (((iJ l (gJ l k).1 2 (1 + cJ (aJ l (gJ l k).2).b 3) (bJ l (gJ l k).2)).1).k),Vi (((iJ l (gJ l k).1 2 (1 + cJ (aJ l (gJ l k).2).b 3) (bJ l (gJ l k).2)).1).n),.string (((iJ l (gJ l k).1 2 (1 + cJ (aJ l (gJ l k).2).b 3) (bJ l (gJ l k).2)).1).s),.string (((iJ l (gJ l k).1 2 (1 + cJ (aJ l (gJ l k).2).b 3) (bJ l (gJ l k).2)).1).nm),.slice (sA u) (sN u) (sC u)]),((zJ u31),0 + k * 1,[.string (fname k)]),((zJ u22),0 + 0 * 1,[.string (fname 0)])]) (And.intro (by rw [frl]; simp; omega) (trivial)) (And.intro (kJ (by omega) (by omega)) (trivial)) (fun v70 _=>by kernel_rfl) ?_
   clear hJ a w; intro v70 h18 a w s19 hJ
   replace hJ:=hJ.drop 1
   replace hJ:=hJ.drop 0
   exact pY ⟨k + 1,⟨h18,.slice (sA v70) (sN v70) (sC v70),vs++[.slice (sA u) (sN u) (sC u)],(hJ.tof [2] (F':=[((zJ u22),0 + 0 * 1,[.string (fname 0)])]) (by kernel_rfl)).to (by kernel_rfl) (by rw [e1,fdRows_snoc hvn,e2]; rfl) rfl,(s6.trans (s8.trans (s12.trans (s14.trans (s17.trans s19))))),by omega,fld_src e1 (hvs.sees (s8.trans (s12.trans (s14.trans (s17.trans s19))))) (hu.sees (s17.trans s19)),slu_snoc hvl rfl⟩,by omega⟩
  ·skip
   by_cases q2:cJ (aJ l (gJ l k).2).k 3=2
   ·obtain ⟨e1,e2⟩:=fldT_step l k (show srcE l (gJ l k).1 (aJ l (gJ l k).2) (bJ l (gJ l k).2)=_ by unfold srcE; rw [if_neg q1,if_pos q2])
    refine iY hJ (t:=(1 + (cJ (aJ l (gJ l k).2).k 3)) == 2) (beq_eq_false_iff_ne.2 (by omega)) ?_
    refine rk' hJ false 6 [] [] (.k (.code [1,1,1,0,1,0,1,1,1,0,0,1,1,0,0,1,0,1,1,1,1]) [.block 2,.seq [1,1,1,1,0,0,1,1,0,0,1,0,1,1,1,1],.block 1,.seq [1,1,1,0,0,1,0,1,1,1,1]] [2,3,4,5,25,26,7,8] [(55,.bool ((1 + (cJ (aJ l (gJ l k).2).k 3)) == 3))]) ?_
    clear hJ a w; intro a w hJ
    refine qY hJ (t:=(1 + (cJ (aJ l (gJ l k).2).k 3)) == 3) (beq_iff_eq.2 (by omega)) ?_
    let R:Reg:=⟨⟨136,h.w,h.bad,[]⟩,[(0,57,fun gh=>Vp bg),(1,58,fun gh=>.pointer (some ⟨b9,1,none⟩)),(2,59,fun gh=>Vi ((aJ l (gJ l k).2).a)),(3,60,fun gh=>Vi (cJ (aJ l (gJ l k).2).a 3)),(4,61,fun gh=>Vi (1 + (cJ (aJ l (gJ l k).2).a 3))),(5,62,fun gh=>Vp bf),(6,63,fun gh=>v),(7,64,fun gh=>.agg #[Vi (((iJ l (gJ l k).1 1 (1 + cJ (aJ l (gJ l k).2).a 3) (bJ l (gJ l k).2)).1).op),Vi (((iJ l (gJ l k).1 1 (1 + cJ (aJ l (gJ l k).2).a 3) (bJ l (gJ l k).2)).1).k),Vi (((iJ l (gJ l k).1 1 (1 + cJ (aJ l (gJ l k).2).a 3) (bJ l (gJ l k).2)).1).n),.string (((iJ l (gJ l k).1 1 (1 + cJ (aJ l (gJ l k).2).a 3) (bJ l (gJ l k).2)).1).s),.string (((iJ l (gJ l k).1 1 (1 + cJ (aJ l (gJ l k).2).a 3) (bJ l (gJ l k).2)).1).nm),.slice (sA (gh 7)) (sN (gh 7)) (sC (gh 7))]),(8,65,fun gh=>.pointer (some ⟨b10,3,none⟩))],[(2,Vp br),(3,Vp bg),(4,Vp bf),(5,Vp bq),(25,Vi (1 + (cJ (aJ l 0).a 10))),(26,Vi (k:Int)),(7,Vp b9),(8,Vp b10),(55,.bool ((1 + (cJ (aJ l (gJ l k).2).k 3)) == 3))],[⟨some (.box b10 [.string (fname k),Vi (1 + (cJ (aJ l (gJ l k).2).k 3)),Vi (1 + (cJ (aJ l (gJ l k).2).b 3)),Vi 0,Vi 0,Vi 0,Ve,Ve,Vz]),[(9,fun gh=>.box b10 [.string (fname k),Vi (1 + (cJ (aJ l (gJ l k).2).k 3)),Vi (1 + (cJ (aJ l (gJ l k).2).b 3)),Vi (((iJ l (gJ l k).1 1 (1 + cJ (aJ l (gJ l k).2).a 3) (bJ l (gJ l k).2)).1).op),Vi (((iJ l (gJ l k).1 1 (1 + cJ (aJ l (gJ l k).2).a 3) (bJ l (gJ l k).2)).1).k),Vi (((iJ l (gJ l k).1 1 (1 + cJ (aJ l (gJ l k).2).a 3) (bJ l (gJ l k).2)).1).n),.string (((iJ l (gJ l k).1 1 (1 + cJ (aJ l (gJ l k).2).a 3) (bJ l (gJ l k).2)).1).s),.string (((iJ l (gJ l k).1 1 (1 + cJ (aJ l (gJ l k).2).a 3) (bJ l (gJ l k).2)).1).nm),.slice (sA (gh 7)) (sN (gh 7)) (sC (gh 7))])]⟩,⟨some (.box b9 [Vi ((aJ l (gJ l k).2).k),Vi ((aJ l (gJ l k).2).a),Vi ((aJ l (gJ l k).2).b),.string ((aJ l (gJ l k).2).t)]),[]⟩,⟨some (.row v 43 9 (aQ (gJ l k).1 vs)),[]⟩,⟨some (.box bq [Vi ((aJ l 0).k),Vi ((aJ l 0).a),Vi ((aJ l 0).b),.string ((aJ l 0).t)]),[]⟩,⟨some (.box bf [v,Vz]),[]⟩,⟨some (.box bg [.slice A l.length cap,Vi ((bJ l (gJ l k).2:Nat):Int)]),[(7,fun gh=>.box bg [.slice A l.length cap,Vi (((iJ l (gJ l k).1 1 (1 + cJ (aJ l (gJ l k).2).a 3) (bJ l (gJ l k).2)).2:Nat):Int)])]⟩,⟨some (.box br [Vz,Vz]),[]⟩],[(7,fun gh hh=>IsArgs hh (iJ l (gJ l k).1 1 (1 + cJ (aJ l (gJ l k).2).a 3) (bJ l (gJ l k).2)).1 (.slice (sA (gh 7)) (sN (gh 7)) (sC (gh 7))))],[[],[],[1],[1,2],[1,2,3],[],[5],[0,1,2,3,4,5,6],[0,1,2,3,4,5,6,7],[0,1,2,3,4,5,6,7,8]],h11⟩
    have hmono:∀ zq∈R.F,∀ zx zh zi,Sees zh zi→zq.2 zx zh→zq.2 zx zi:=jV (fun _ _ _ s c=>c.sees s) (lJ)
    refine oY (by kernel_rfl) R hJ 10 [.pu,.pu,.ld 1 1,.cl,.cl,.pu,.ld 4 0,.cl,.pu,.st 0 3] (by kernel_rfl) hmono (fun _ _ _=>by kernel_rfl) (fun hT hA=>?_) ?_
    ·clear hJ
     refine And.intro (rW hT hA hmono 60 (fun gh=>Vi (cJ (aJ l (gJ l k).2).a 3)) [2] 3 24 (fun gh=>#[Vi ((aJ l (gJ l k).2).a),Vi 3]) (fun gh H sH fH lent=>cK _ 3 _ ra0 ra1 (by omega) (by omega))) ?_
     refine And.intro (sW hT hA 61 (fun gh=>Vi (1 + (cJ (aJ l (gJ l k).2).a 3))) [3] 4 (fun gh w=>gX (by kernel_rfl) (kJ (by omega) (by omega)))) ?_
     refine And.intro (r_call1r hT hA hmono ⟨fun _ _=>by kernel_rfl,fun _ _=>by kernel_rfl,fun _ _=>by kernel_rfl⟩ 64 (fun u=>.agg #[Vi ((iJ l (gJ l k).1 1 (1 + cJ (aJ l (gJ l k).2).a 3) (bJ l (gJ l k).2)).1).op,Vi ((iJ l (gJ l k).1 1 (1 + cJ (aJ l (gJ l k).2).a 3) (bJ l (gJ l k).2)).1).k,Vi ((iJ l (gJ l k).1 1 (1 + cJ (aJ l (gJ l k).2).a 3) (bJ l (gJ l k).2)).1).n,.string ((iJ l (gJ l k).1 1 (1 + cJ (aJ l (gJ l k).2).a 3) (bJ l (gJ l k).2)).1).s,.string ((iJ l (gJ l k).1 1 (1 + cJ (aJ l (gJ l k).2).a 3) (bJ l (gJ l k).2)).1).nm,.slice (sA u) (sN u) (sC u)]) [0,3,4,6] 7 (by kernel_rfl) (fun _=>by kernel_rfl) 5 ⟨some (.box bg [.slice A l.length cap,Vi ((bJ l (gJ l k).2:Nat):Int)]),[(7,fun gh=>.box bg [.slice A l.length cap,Vi (((iJ l (gJ l k).1 1 (1 + cJ (aJ l (gJ l k).2).a 3) (bJ l (gJ l k).2)).2:Nat):Int)])]⟩ (by kernel_rfl) (by kernel_rfl) (by kernel_rfl) bg (fun gh=>[.slice A l.length cap,Vi ((bJ l (gJ l k).2:Nat):Int)]) (fun gh=>[.slice A l.length cap,Vi (((iJ l (gJ l k).1 1 (1 + cJ (aJ l (gJ l k).2).a 3) (bJ l (gJ l k).2)).2:Nat):Int)]) (fun _=>by kernel_rfl) (fun _=>by kernel_rfl) 2 ⟨some (.row v 43 9 (aQ (gJ l k).1 vs)),[]⟩ (by kernel_rfl) (by kernel_rfl) v 43 9 (aQ (gJ l k).1 vs) (fun _=>by kernel_rfl) 55 (fun gh=>#[Vp bg,Vi (1 + (cJ (aJ l (gJ l k).2).a 3)),v,Vi 1]) (fun _ _=>by kernel_rfl) (fun gh H sH fH rL bL=>C1.facts (R:=R) (x:=gh) (N':=fun gh=>[.slice A l.length cap,Vi (((iJ l (gJ l k).1 1 (1 + cJ (aJ l (gJ l k).2).a 3) (bJ l (gJ l k).2)).2:Nat):Int)]) (i:=7) (n:=0) (F:=(fun u=>.agg #[Vi ((iJ l (gJ l k).1 1 (1 + cJ (aJ l (gJ l k).2).a 3) (bJ l (gJ l k).2)).1).op,Vi ((iJ l (gJ l k).1 1 (1 + cJ (aJ l (gJ l k).2).a 3) (bJ l (gJ l k).2)).1).k,Vi ((iJ l (gJ l k).1 1 (1 + cJ (aJ l (gJ l k).2).a 3) (bJ l (gJ l k).2)).1).n,.string ((iJ l (gJ l k).1 1 (1 + cJ (aJ l (gJ l k).2).a 3) (bJ l (gJ l k).2)).1).s,.string ((iJ l (gJ l k).1 1 (1 + cJ (aJ l (gJ l k).2).a 3) (bJ l (gJ l k).2)).1).nm,.slice (sA u) (sN u) (sC u)])) (N:=fun u=>[.slice A l.length cap,Vi (((iJ l (gJ l k).1 1 (1 + cJ (aJ l (gJ l k).2).a 3) (bJ l (gJ l k).2)).2:Nat):Int)]) (G:=fun u hh=>IsArgs hh (iJ l (gJ l k).1 1 (1 + cJ (aJ l (gJ l k).2).a 3) (bJ l (gJ l k).2)).1 (.slice (sA u) (sN u) (sC u))) (f:=fun gh hh=>IsArgs hh (iJ l (gJ l k).1 1 (1 + cJ (aJ l (gJ l k).2).a 3) (bJ l (gJ l k).2)).1 (.slice (sA (gh 7)) (sN (gh 7)) (sC (gh 7)))) (hE1 bg (.slice A l.length cap) (bJ l (gJ l k).2) (1 + cJ (aJ l (gJ l k).2).a 3) _ _ _ (hr.sees (s2.trans (s4.trans (s6.trans (s8.trans (s12.trans sH)))))) (by omega) (by omega) (by omega) ⟨vs,rL,((hvs.sees (s8.trans (s12.trans sH)))).sees ((Sees.refl _).less bL)⟩ (by simp)) (by kernel_rfl) (by kernel_rfl) (fun _=>by kernel_rfl) (fun _ _ r=>r))) ?_
     trivial
    clear hJ a w; intro gh h20 a w sR hJ1 hF; have s21:Sees h11 h20:=sR; clear sR
    have hJ:K ⟨136,h.w,h.bad,[]⟩ [(2,Vp br),(3,Vp bg),(4,Vp bf),(5,Vp bq),(25,Vi (1 + (cJ (aJ l 0).a 10))),(26,Vi (k:Int)),(8,Vp b10)] [.box b10 [.string (fname k),Vi (1 + (cJ (aJ l (gJ l k).2).k 3)),Vi (1 + (cJ (aJ l (gJ l k).2).b 3)),Vi (((iJ l (gJ l k).1 1 (1 + cJ (aJ l (gJ l k).2).a 3) (bJ l (gJ l k).2)).1).op),Vi (((iJ l (gJ l k).1 1 (1 + cJ (aJ l (gJ l k).2).a 3) (bJ l (gJ l k).2)).1).k),Vi (((iJ l (gJ l k).1 1 (1 + cJ (aJ l (gJ l k).2).a 3) (bJ l (gJ l k).2)).1).n),.string (((iJ l (gJ l k).1 1 (1 + cJ (aJ l (gJ l k).2).a 3) (bJ l (gJ l k).2)).1).s),.string (((iJ l (gJ l k).1 1 (1 + cJ (aJ l (gJ l k).2).a 3) (bJ l (gJ l k).2)).1).nm),.slice (sA (gh 7)) (sN (gh 7)) (sC (gh 7))],.box b9 [Vi ((aJ l (gJ l k).2).k),Vi ((aJ l (gJ l k).2).a),Vi ((aJ l (gJ l k).2).b),.string ((aJ l (gJ l k).2).t)],.row v 43 9 (aQ (gJ l k).1 vs),.box bq [Vi ((aJ l 0).k),Vi ((aJ l 0).a),Vi ((aJ l 0).b),.string ((aJ l 0).t)],.box bf [v,Vz],.box bg [.slice A l.length cap,Vi (((iJ l (gJ l k).1 1 (1 + cJ (aJ l (gJ l k).2).a 3) (bJ l (gJ l k).2)).2:Nat):Int)],.box br [Vz,Vz]] [((zJ u31),0 + k * 1,[.string (fname k)]),((zJ u22),0 + 0 * 1,[.string (fname 0)])] h20 a w:=hJ1.tw
    have hu:IsArgs h20 (iJ l (gJ l k).1 1 (1 + cJ (aJ l (gJ l k).2).a 3) (bJ l (gJ l k).2)).1 (.slice (sA (gh 7)) (sN (gh 7)) (sC (gh 7))):=Reg.fact (i:=7) (f:=fun gh hh=>IsArgs hh (iJ l (gJ l k).1 1 (1 + cJ (aJ l (gJ l k).2).a 3) (bJ l (gJ l k).2)).1 (.slice (sA (gh 7)) (sN (gh 7)) (sC (gh 7)))) hF 0 (by kernel_rfl)
    clear hJ1 hF hmono R
    generalize gh 7=u at *
    clear gh
    refine rk' hJ true 7 [.b 4 0,.b 0 0,.fix] [] (.new fun b22=>.g (.ops [1,1,1,1,0,0,1,1,0,0,1,0,1,1,1,1] 4) [.block 1,.seq [1,1,1,0,0,1,0,1,1,1,1]] [2,3,4,5,25,26] [(67,v),(69,Vs b22 1 1)] [.n (b22,0,[.string (fname k),Vi (1 + (cJ (aJ l (gJ l k).2).k 3)),Vi (1 + (cJ (aJ l (gJ l k).2).b 3)),Vi (((iJ l (gJ l k).1 1 (1 + cJ (aJ l (gJ l k).2).a 3) (bJ l (gJ l k).2)).1).op),Vi (((iJ l (gJ l k).1 1 (1 + cJ (aJ l (gJ l k).2).a 3) (bJ l (gJ l k).2)).1).k),Vi (((iJ l (gJ l k).1 1 (1 + cJ (aJ l (gJ l k).2).a 3) (bJ l (gJ l k).2)).1).n),.string (((iJ l (gJ l k).1 1 (1 + cJ (aJ l (gJ l k).2).a 3) (bJ l (gJ l k).2)).1).s),.string (((iJ l (gJ l k).1 1 (1 + cJ (aJ l (gJ l k).2).a 3) (bJ l (gJ l k).2)).1).nm),.slice (sA u) (sN u) (sC u)]),.o 0,.o 1]) (hr:=fun b22 _=>by kernel_rfl) ?_
    clear hJ a w; intro b22 h23 a w s24 hJ
    refine rk hJ true 10 [.ap 2 0 (aQ (gJ l k).1 vs) [[.string (fname k),Vi (1 + (cJ (aJ l (gJ l k).2).k 3)),Vi (1 + (cJ (aJ l (gJ l k).2).b 3)),Vi (((iJ l (gJ l k).1 1 (1 + cJ (aJ l (gJ l k).2).a 3) (bJ l (gJ l k).2)).1).op),Vi (((iJ l (gJ l k).1 1 (1 + cJ (aJ l (gJ l k).2).a 3) (bJ l (gJ l k).2)).1).k),Vi (((iJ l (gJ l k).1 1 (1 + cJ (aJ l (gJ l k).2).a 3) (bJ l (gJ l k).2)).1).n),.string (((iJ l (gJ l k).1 1 (1 + cJ (aJ l (gJ l k).2).a 3) (bJ l (gJ l k).2)).1).s),.string (((iJ l (gJ l k).1 1 (1 + cJ (aJ l (gJ l k).2).a 3) (bJ l (gJ l k).2)).1).nm),.slice (sA u) (sN u) (sC u)]],.b 4 0] [(72,Vi (IntKind.i64.wrap ((k:Int) + 1)),Vi ((k:Int) + 1))] (.nv fun v70=>.f (.out .normal) [] [2,3,4,5,25] [(26,Vi ((k:Int) + 1))] [.box b10 [.string (fname k),Vi (1 + (cJ (aJ l (gJ l k).2).k 3)),Vi (1 + (cJ (aJ l (gJ l k).2).b 3)),Vi (((iJ l (gJ l k).1 1 (1 + cJ (aJ l (gJ l k).2).a 3) (bJ l (gJ l k).2)).1).op),Vi (((iJ l (gJ l k).1 1 (1 + cJ (aJ l (gJ l k).2).a 3) (bJ l (gJ l k).2)).1).k),Vi (((iJ l (gJ l k).1 1 (1 + cJ (aJ l (gJ l k).2).a 3) (bJ l (gJ l k).2)).1).n),.string (((iJ l (gJ l k).1 1 (1 + cJ (aJ l (gJ l k).2).a 3) (bJ l (gJ l k).2)).1).s),.string (((iJ l (gJ l k).1 1 (1 + cJ (aJ l (gJ l k).2).a 3) (bJ l (gJ l k).2)).1).nm),.slice (sA u) (sN u) (sC u)],.box b9 [Vi ((aJ l (gJ l k).2).k),Vi ((aJ l (gJ l k).2).a),Vi ((aJ l (gJ l k).2).b),.string ((aJ l (gJ l k).2).t)],.row (.slice (sA v70) (sN v70) (sC v70)) 43 9 ((aQ (gJ l k).1 vs)++[[.string (fname k),Vi (1 + (cJ (aJ l (gJ l k).2).k 3)),Vi (1 + (cJ (aJ l (gJ l k).2).b 3)),Vi (((iJ l (gJ l k).1 1 (1 + cJ (aJ l (gJ l k).2).a 3) (bJ l (gJ l k).2)).1).op),Vi (((iJ l (gJ l k).1 1 (1 + cJ (aJ l (gJ l k).2).a 3) (bJ l (gJ l k).2)).1).k),Vi (((iJ l (gJ l k).1 1 (1 + cJ (aJ l (gJ l k).2).a 3) (bJ l (gJ l k).2)).1).n),.string (((iJ l (gJ l k).1 1 (1 + cJ (aJ l (gJ l k).2).a 3) (bJ l (gJ l k).2)).1).s),.string (((iJ l (gJ l k).1 1 (1 + cJ (aJ l (gJ l k).2).a 3) (bJ l (gJ l k).2)).1).nm),.slice (sA u) (sN u) (sC u)]]),.box bq [Vi ((aJ l 0).k),Vi ((aJ l 0).a),Vi ((aJ l 0).b),.string ((aJ l 0).t)],.box bf [.slice (sA v70) (sN v70) (sC v70),Vz],.box bg [.slice A l.length cap,Vi (((iJ l (gJ l k).1 1 (1 + cJ (aJ l (gJ l k).2).a 3) (bJ l (gJ l k).2)).2:Nat):Int)],.box br [Vz,Vz]] [.o 0,.o 1,.o 2]) (And.intro (by rw [frl]; simp; omega) (trivial)) (And.intro (kJ (by omega) (by omega)) (trivial)) (fun v70 _=>by kernel_rfl) ?_
    clear hJ a w; intro v70 h25 a w s26 hJ
    replace hJ:=hJ.drop 1
    replace hJ:=hJ.drop 0
    exact pY ⟨k + 1,⟨h25,.slice (sA v70) (sN v70) (sC v70),vs++[.slice (sA u) (sN u) (sC u)],(hJ.tof [2] (F':=[((zJ u22),0 + 0 * 1,[.string (fname 0)])]) (by kernel_rfl)).to (by kernel_rfl) (by rw [e1,fdRows_snoc hvn,e2]; rfl) rfl,(s6.trans (s8.trans (s12.trans (s21.trans (s24.trans s26))))),by omega,fld_src e1 (hvs.sees (s8.trans (s12.trans (s21.trans (s24.trans s26))))) (hu.sees (s24.trans s26)),slu_snoc hvl rfl⟩,by omega⟩
   ·skip
    obtain ⟨e1,e2⟩:=fldT_step l k (show srcE l (gJ l k).1 (aJ l (gJ l k).2) (bJ l (gJ l k).2)=_ by unfold srcE; rw [if_neg q1,if_neg q2])
    refine iY hJ (t:=(1 + (cJ (aJ l (gJ l k).2).k 3)) == 2) (beq_eq_false_iff_ne.2 (by omega)) ?_
    refine rk' hJ false 6 [] [] (.k (.code [1,1,1,0,1,0,1,1,1,0,0,1,1,0,0,1,0,1,1,1,1]) [.block 2,.seq [1,1,1,1,0,0,1,1,0,0,1,0,1,1,1,1],.block 1,.seq [1,1,1,0,0,1,0,1,1,1,1]] [2,3,4,5,25,26,7,8] [(55,.bool ((1 + (cJ (aJ l (gJ l k).2).k 3)) == 3))]) ?_
    clear hJ a w; intro a w hJ
    refine iY hJ (t:=(1 + (cJ (aJ l (gJ l k).2).k 3)) == 3) (beq_eq_false_iff_ne.2 (by omega)) ?_
    refine rk' hJ true 8 [.b 4 0,.b 0 0,.fix] [] (.new fun b27=>.g (.ops [1,1,1,1,0,0,1,1,0,0,1,0,1,1,1,1] 4) [.block 1,.seq [1,1,1,0,0,1,0,1,1,1,1]] [2,3,4,5,25,26] [(67,v),(69,Vs b27 1 1)] [.n (b27,0,[.string (fname k),Vi (1 + (cJ (aJ l (gJ l k).2).k 3)),Vi (1 + (cJ (aJ l (gJ l k).2).b 3)),Vi 0,Vi 0,Vi 0,Ve,Ve,Vz]),.o 0,.o 1]) (hr:=fun b27 _=>by kernel_rfl) ?_
    clear hJ a w; intro b27 h28 a w s29 hJ
    refine rk hJ true 10 [.ap 2 0 (aQ (gJ l k).1 vs) [[.string (fname k),Vi (1 + (cJ (aJ l (gJ l k).2).k 3)),Vi (1 + (cJ (aJ l (gJ l k).2).b 3)),Vi 0,Vi 0,Vi 0,Ve,Ve,Vz]],.b 4 0] [(72,Vi (IntKind.i64.wrap ((k:Int) + 1)),Vi ((k:Int) + 1))] (.nv fun v70=>.f (.out .normal) [] [2,3,4,5,25] [(26,Vi ((k:Int) + 1))] [.box b10 [.string (fname k),Vi (1 + (cJ (aJ l (gJ l k).2).k 3)),Vi (1 + (cJ (aJ l (gJ l k).2).b 3)),Vi 0,Vi 0,Vi 0,Ve,Ve,Vz],.box b9 [Vi ((aJ l (gJ l k).2).k),Vi ((aJ l (gJ l k).2).a),Vi ((aJ l (gJ l k).2).b),.string ((aJ l (gJ l k).2).t)],.row (.slice (sA v70) (sN v70) (sC v70)) 43 9 ((aQ (gJ l k).1 vs)++[[.string (fname k),Vi (1 + (cJ (aJ l (gJ l k).2).k 3)),Vi (1 + (cJ (aJ l (gJ l k).2).b 3)),Vi 0,Vi 0,Vi 0,Ve,Ve,Vz]]),.box bq [Vi ((aJ l 0).k),Vi ((aJ l 0).a),Vi ((aJ l 0).b),.string ((aJ l 0).t)],.box bf [.slice (sA v70) (sN v70) (sC v70),Vz],.box bg [.slice A l.length cap,Vi ((bJ l (gJ l k).2:Nat):Int)],.box br [Vz,Vz]] [.o 0,.o 1,.o 2]) (And.intro (by rw [frl]; simp; omega) (trivial)) (And.intro (kJ (by omega) (by omega)) (trivial)) (fun v70 _=>by kernel_rfl) ?_
    clear hJ a w; intro v70 h30 a w s31 hJ
    replace hJ:=hJ.drop 1
    replace hJ:=hJ.drop 0
    exact pY ⟨k + 1,⟨h30,.slice (sA v70) (sN v70) (sC v70),vs++[Vz],(hJ.tof [2] (F':=[((zJ u22),0 + 0 * 1,[.string (fname 0)])]) (by kernel_rfl)).to (by kernel_rfl) (by rw [e1,fdRows_snoc hvn,e2]; rfl) rfl,(s6.trans (s8.trans (s12.trans (s29.trans s31)))),by omega,fld_src e1 (hvs.sees (s8.trans (s12.trans (s29.trans s31)))) (args_nil _ _ rfl),slu_snoc hvl rfl⟩,by omega⟩
 ·skip
  subst hke
  have tle:=fldT_le l (jJ l)
  have fle:=lQ l (jJ l)
  have frl:(aQ (gJ l (jJ l)).1 vs).length=jJ l:=by rw [cQ hvs.len,fle]
  have hskp:∀ d,d < 1000→ExprC l (gJ l (jJ l)).1 d:=exprC_all l _ hlen hok (by omega)
  have hE1:=hskp 1 (by omega)
  have hfm:mQ l=⟨if cJ (aJ l 0).k 2=0 then (gJ l (jJ l)).1.reverse else (gJ l (jJ l)).1,(pJ l (gJ l (jJ l)).1 (eJ l) (gJ l (jJ l)).2 (eJ l)).1⟩:=rfl
  generalize gJ l (jJ l)=T at *
  obtain ⟨Af,cf,hE_v,hc_v,hm_v⟩:=hJ.form (v:=v) (e:=43) (k:=9) (l:=aQ T.1 vs) 0 (by kernel_rfl)
  rw [show (aQ T.1 vs).length=(jJ l) from by first | omega | (simp; done) | (simp; omega)] at hE_v hc_v
  rw [hE_v] at hJ
  obtain ⟨bF,rfl⟩:=own_some (hJ.rowOwn (v:=.slice Af (jJ l) cf) (e:=43) (kk:=9) (l:=aQ T.1 vs) 0 rfl) ((by omega))
  obtain ⟨np1,np2,np3⟩:=nPages_le l
  refine iY hJ (t:=decide (((jJ l:Nat):Int) < (1 + (cJ (aJ l 0).a 10)))) (decide_eq_false (by omega)) ?_
  refine rk' hJ false 2 [] [] (.k (.out (.exit 0)) [] [2,3,4,5] []) ?_
  clear hJ a w; intro a w hJ
  refine jY rfl ?_
  refine rk' hJ false 19 [.b 1 2,.cl 24 #[Vi ((aJ l 0).b),Vi 4] (Vi (cJ (aJ l 0).b 4))] [(76,Vi (IntKind.i64.wrap (1 + (cJ (aJ l 0).b 4))),Vi ((eJ l:Nat):Int))] (.k (.code [0,1,0,1,1,1,1,1,1]) [.block 3,.seq [1,1,1,1,1,1,1]] [2,3,4,5] [(9,Vi ((eJ l:Nat):Int)),(77,Vi ((eJ l:Nat):Int)),(78,Vi 0)]) (ho:=And.intro (fun H sH=>cK _ 4 _ rb0 rb1 (by omega) (by omega)) (trivial)) (hc:=And.intro (by rw [np3]; exact kJ (by omega) (by omega)) (trivial)) ?_
  clear hJ a w; intro a w hJ
  replace hJ:=hJ.nilrow 79 8
  refine kY (fun (kp:Nat) a w=>∃ (h32:Vw) (pv:Value) (us:List Value) (ws:List Value),K ⟨136,h.w,h.bad,[]⟩ [(2,Vp br),(3,Vp bg),(4,Vp bf),(5,Vp bq),(9,Vi ((eJ l:Nat):Int)),(77,Vi ((eJ l:Nat):Int)),(78,Vi (kp:Int))] [.row pv 79 8 (kW (pJ l T.1 (eJ l) T.2 kp).1 us ws),.row (Vs bF (jJ l) cf) 43 9 (aQ T.1 vs),.box bq [Vi ((aJ l 0).k),Vi ((aJ l 0).a),Vi ((aJ l 0).b),.string ((aJ l 0).t)],.box bf [Vs bF (jJ l) cf,pv],.box bg [.slice A l.length cap,Vi (((pJ l T.1 (eJ l) T.2 kp).2:Nat):Int)],.box br [Vz,Vz]] [((zJ u22),0 + 0 * 1,[.string (fname 0)])] h32 a w∧Sees h5 h32∧(kp≤eJ l)∧(AllStr h32 ((pJ l T.1 (eJ l) T.2 kp).1.map (·.fields)) us)∧(AllArgs h32 ((pJ l T.1 (eJ l) T.2 kp).1.map (·.skip)) ws)∧(∀ u∈us,.slice (sA u) (sN u) (sC u)=u)∧(∀ u∈ws,.slice (sA u) (sN u) (sC u)=u)) (fun kp=>eJ l - kp) (0) ⟨h5,(Vz),[],[],hJ.tw,Sees.refl _,Nat.zero_le _,rfl,by unfold AllArgs; rfl,(fun _ h=>by cases h),fun _ h=>by cases h⟩ ?_
  clear hJ a w; rintro kp a w ⟨h32,pv,us,ws,hJ,s33,hkp,hus,hws,hul,hwl⟩
  refine rx' hJ false 6 [] [] (.ok (.code [0,1,0,0,1,0,1,1,1,1,1,1]) [.seq [1,1,0,0,1,0,1,1,1,1,1,1]] [(2,Vp br),(3,Vp bg),(4,Vp bf),(5,Vp bq),(9,Vi ((eJ l:Nat):Int)),(77,Vi ((eJ l:Nat):Int)),(78,Vi (kp:Int)),(79,.bool (decide ((kp:Int) < ((eJ l:Nat):Int))))] [.row pv 79 8 (kW (pJ l T.1 (eJ l) T.2 kp).1 us ws),.row (Vs bF (jJ l) cf) 43 9 (aQ T.1 vs),.box bq [Vi ((aJ l 0).k),Vi ((aJ l 0).a),Vi ((aJ l 0).b),.string ((aJ l 0).t)],.box bf [Vs bF (jJ l) cf,pv],.box bg [.slice A l.length cap,Vi (((pJ l T.1 (eJ l) T.2 kp).2:Nat):Int)],.box br [Vz,Vz]] [((zJ u22),0 + 0 * 1,[.string (fname 0)])]) (fun _=>by kernel_rfl) ?_
  clear hJ a w; intro a w hJ
  rcases (by omega:kp < eJ l∨kp=eJ l) with hpl | hpe
  ·have ple:=pgT_le l T.1 (eJ l) T.2 kp
   have anp:=yJ l (pJ l T.1 (eJ l) T.2 kp).2
   obtain ⟨⟨rk0,rk1⟩,-,-,-⟩:=rawAt_ok hok (pJ l T.1 (eJ l) T.2 kp).2
   refine qY hJ (t:=decide ((kp:Int) < ((eJ l:Nat):Int))) (decide_eq_true (by omega)) ?_
   refine rk' hJ false 13 [] [] (.k (.ops [0,1,0,0,1,1,0,0,1,0,1,1,1,1,1,1] 1) [.seq [1,1,0,0,1,1,0,0,1,0,1,1,1,1,1,1],.block 4,.seq [1,1,1,0,0,1,0,1,1,1,1,1,1]] [2,3,4,5,9,77,78] [(10,Vi (kp:Int)),(81,Vp bg)]) ?_
   clear hJ a w; intro a w hJ
   refine eY hJ 82 4 (vQ bg l (.slice A l.length cap) (pJ l T.1 (eJ l) T.2 kp).2 _ (hr.sees (s2.trans (s4.trans (s6.trans (s33.trans hJ.j.sees))))) (by omega) hlen) ?_; clear hJ a w; rintro _ _ h34 a w s35 ⟨rfl,rfl⟩ hJ
   refine rk hJ false 8 [.own,.b 0 0] [(84,Vi (IntKind.i64.wrap (49 + (kp:Int))),Vi (49 + (kp:Int)))] (.new fun b36=>.f (.ops [0,1,1,0,0,1,1,0,0,1,0,1,1,1,1,1,1] 2) [.seq [1,1,1,0,0,1,1,0,0,1,0,1,1,1,1,1,1],.block 4,.seq [1,1,1,0,0,1,0,1,1,1,1,1,1]] [2,3,4,5,9,77,78,10] [(11,Vp b36),(84,Vi (49 + (kp:Int)))] [.box b36 [Vi ((aJ l (pJ l T.1 (eJ l) T.2 kp).2).k),Vi ((aJ l (pJ l T.1 (eJ l) T.2 kp).2).a),Vi ((aJ l (pJ l T.1 (eJ l) T.2 kp).2).b),.string ((aJ l (pJ l T.1 (eJ l) T.2 kp).2).t)],.row pv 79 8 (kW (pJ l T.1 (eJ l) T.2 kp).1 us ws),.row (Vs bF (jJ l) cf) 43 9 (aQ T.1 vs),.box bq [Vi ((aJ l 0).k),Vi ((aJ l 0).a),Vi ((aJ l 0).b),.string ((aJ l 0).t)],.box bf [Vs bF (jJ l) cf,pv],.box bg [.slice A l.length cap,Vi ((bJ l (pJ l T.1 (eJ l) T.2 kp).2:Nat):Int)],.box br [Vz,Vz]] [.o 0]) trivial (And.intro (kJ (by omega) (by omega)) (trivial)) (fun b36 _=>by kernel_rfl) ?_
   clear hJ a w; intro b36 a w hJ
   refine x_pure hJ 85 (.int .u8 (((UInt8.ofNat (49 + kp)).toNat:Nat):Int)) (by kernel_rfl) (fun w=>gX (v0:=.int .u8 (IntKind.u8.wrap (49 + (kp:Int)))) (by kernel_rfl) (byte_of kp (by omega))) ?_; clear hJ a w; intro a w hJ
   refine rk' hJ true 1 [.fix] [] (.new fun bz=>.g (.ops [0,1,1,0,0,1,1,0,0,1,0,1,1,1,1,1,1] 4) [.seq [1,1,1,0,0,1,1,0,0,1,0,1,1,1,1,1,1],.block 4,.seq [1,1,1,0,0,1,0,1,1,1,1,1,1]] [2,3,4,5,9,77,78,10,11] [(86,Vs bz 1 1)] [.n (bz,0,[.int .u8 (((UInt8.ofNat (49 + kp)).toNat:Nat):Int)]),.o 0]) (hr:=fun bz _=>by kernel_rfl) ?_
   clear hJ a w; intro bz h37 a w s38 hJ
   have z:Cells h37 bz 0 [.int .u8 (((UInt8.ofNat (49 + kp)).toNat:Nat):Int)]:=hJ.f _ (List.mem_of_getElem? (i:=0) rfl)
   refine x_purew hJ 87 (.string ⟨([UInt8.ofNat (49 + kp)]).toArray⟩) (by kernel_rfl) (run_text (src:=100) (dst:=9) (x:=(.tmp 86)) (b:=bz) (m:=1) (cap:=1) (l:=[UInt8.ofNat (49 + kp)]) (by kernel_rfl) (by kernel_rfl) (by kernel_rfl) Tryz.underlying100 Tryz.underlying5 Tryz.underlying9 (hJ.f _ (List.mem_of_getElem? (i:=0) rfl)) hJ.j.sees) ?_; clear hJ a w; intro a w hJ
   refine rk hJ false 16 [.own,.b 0 0,.b 5 0] [(88,.string (⟨#[112]⟩++⟨([UInt8.ofNat (49 + kp)]).toArray⟩),.string (iW kp))] (.new fun bp=>.f (.code [0,1,0,1,1,1,0,0,1,1,0,0,1,0,1,1,1,1,1,1]) [.block 5,.seq [1,1,1,1,0,0,1,1,0,0,1,0,1,1,1,1,1,1],.block 4,.seq [1,1,1,0,0,1,0,1,1,1,1,1,1]] [2,3,4,5,9,77,78,10,11] [(12,Vp bp),(91,Vs bF (jJ l) cf),(92,Vi (jJ l:Int)),(93,Vi 0)] [.box bp [.string (iW kp),Vz,Vi 0,Vi 0,Vi 0,Ve,Ve,Vz],.box b36 [Vi ((aJ l (pJ l T.1 (eJ l) T.2 kp).2).k),Vi ((aJ l (pJ l T.1 (eJ l) T.2 kp).2).a),Vi ((aJ l (pJ l T.1 (eJ l) T.2 kp).2).b),.string ((aJ l (pJ l T.1 (eJ l) T.2 kp).2).t)],.row pv 79 8 (kW (pJ l T.1 (eJ l) T.2 kp).1 us ws),.row (Vs bF (jJ l) cf) 43 9 (aQ T.1 vs),.box bq [Vi ((aJ l 0).k),Vi ((aJ l 0).a),Vi ((aJ l 0).b),.string ((aJ l 0).t)],.box bf [Vs bF (jJ l) cf,pv],.box bg [.slice A l.length cap,Vi ((bJ l (pJ l T.1 (eJ l) T.2 kp).2:Nat):Int)],.box br [Vz,Vz]] [.o 0,.o 1]) trivial (And.intro (pg_name kp (by omega)) (trivial)) (fun bp _=>by kernel_rfl) ?_
   clear hJ a w; intro bp a w hJ
   replace hJ:=hJ.nilrow 9 1
   refine kY (fun (ki:Nat) a w=>∃ (h39:Vw) (nv:Value),K ⟨136,h.w,h.bad,[]⟩ [(2,Vp br),(3,Vp bg),(4,Vp bf),(5,Vp bq),(9,Vi ((eJ l:Nat):Int)),(77,Vi ((eJ l:Nat):Int)),(78,Vi (kp:Int)),(10,Vi (kp:Int)),(11,Vp b36),(12,Vp bp),(91,Vs bF (jJ l) cf),(92,Vi (jJ l:Int)),(93,Vi (ki:Int))] [.row nv 9 1 (sX (jW (T.1.take ki) (eJ l) kp)),.box bp [.string (iW kp),nv,Vi 0,Vi 0,Vi 0,Ve,Ve,Vz],.box b36 [Vi ((aJ l (pJ l T.1 (eJ l) T.2 kp).2).k),Vi ((aJ l (pJ l T.1 (eJ l) T.2 kp).2).a),Vi ((aJ l (pJ l T.1 (eJ l) T.2 kp).2).b),.string ((aJ l (pJ l T.1 (eJ l) T.2 kp).2).t)],.row pv 79 8 (kW (pJ l T.1 (eJ l) T.2 kp).1 us ws),.row (Vs bF (jJ l) cf) 43 9 (aQ T.1 vs),.box bq [Vi ((aJ l 0).k),Vi ((aJ l 0).a),Vi ((aJ l 0).b),.string ((aJ l 0).t)],.box bf [Vs bF (jJ l) cf,pv],.box bg [.slice A l.length cap,Vi ((bJ l (pJ l T.1 (eJ l) T.2 kp).2:Nat):Int)],.box br [Vz,Vz]] [(bz,0,[.int .u8 (((UInt8.ofNat (49 + kp)).toNat:Nat):Int)]),((zJ u22),0 + 0 * 1,[.string (fname 0)])] h39 a w∧Sees h37 h39∧(ki≤jJ l)) (fun ki=>jJ l - ki) (0) ⟨h37,(Vz),hJ.tw,Sees.refl _,Nat.zero_le _⟩ ?_
   clear hJ a w; rintro ki a w ⟨h39,nv,hJ,s40,hki⟩
   refine rk' hJ false 6 [] [] (.k (.code [0,1,0,0,1,0,1,1,1,0,0,1,1,0,0,1,0,1,1,1,1,1,1]) [.seq [1,1,0,0,1,0,1,1,1,0,0,1,1,0,0,1,0,1,1,1,1,1,1]] [2,3,4,5,9,77,78,10,11,12,91,92,93] [(94,.bool (decide ((ki:Int) < (jJ l:Int))))]) ?_
   clear hJ a w; intro a w hJ
   rcases (by omega:ki < jJ l∨ki=jJ l) with hil | hie
   ·obtain ⟨f,hfk⟩:∃ f,T.1[ki]?=some f:=⟨_,List.getElem?_eq_getElem (by omega)⟩
    obtain ⟨u,huk⟩:∃ u,vs[ki]?=some u:=⟨_,List.getElem?_eq_getElem (by have:=hvs.len; omega)⟩
    have hslu:=hvl u (List.mem_of_getElem? huk)
    have hrow:(aQ T.1 vs)[ki]?=some (fdRow f (.slice (sA u) (sN u) (sC u))):=by rw [hslu]; exact bQ hfk huk
    have hsn:=pgNames_snoc (T.1.take ki) (eJ l) kp f ki (by rw [List.length_take]; omega)
    rw [← tX T.1 ki f hfk] at hsn
    have hnl:=pgNames_len (T.1.take ki) (eJ l) kp
    rw [List.length_take] at hnl
    have hme:=mod_eq ki (eJ l) kp
    refine qY hJ (t:=decide ((ki:Int) < (jJ l:Int))) (decide_eq_true (by omega)) ?_
    refine rk' hJ false 8 [.ix bF 0 (jJ l) cf ki] [] (.k (.ops [0,0,0,1,1,0,0,1,0,1,1,1,0,0,1,1,0,0,1,0,1,1,1,1,1,1] 2) [.seq [1,0,0,1,1,0,0,1,0,1,1,1,0,0,1,1,0,0,1,0,1,1,1,1,1,1],.block 6,.seq [1,1,1,0,0,1,0,1,1,1,0,0,1,1,0,0,1,0,1,1,1,1,1,1]] [2,3,4,5,9,77,78,10,11,12,91,92,93] [(95,Vi (ki:Int)),(96,.pointer (some ⟨bF,0 + ki * 9,none⟩))]) (ho:=And.intro (by first | omega | (simp; omega)) (trivial)) ?_
    clear hJ a w; intro a w hJ
    refine x_rowget hJ 97 4 ki 0 (g:=bF) (m:=(jJ l)) (cap:=cf) (kk:=9) (e:=43) (l:=aQ T.1 vs) (r:=[.string f.name,Vi f.kind,Vi f.ty,Vi f.src.op,Vi f.src.k,Vi f.src.n,.string f.src.s,.string f.src.nm,.slice (sA u) (sN u) (sC u)]) (t:=43) (x:=(.tmp 96)) (u:=.agg #[.string f.name,Vi f.kind,Vi f.ty,Vi f.src.op,Vi f.src.k,Vi f.src.n,.string f.src.s,.string f.src.nm,.slice (sA u) (sN u) (sC u)]) (by kernel_rfl) (by kernel_rfl) (by kernel_rfl) (by kernel_rfl) (hrow) (by kernel_rfl) ?_; clear hJ a w; intro a w hJ
    refine rk hJ false 10 [.own,.b 0 0] [(100,Vi (IntKind.i64.wrap (((eJ l:Nat):Int) + 1)),Vi (((eJ l:Nat):Int) + 1))] (.new fun b41=>.f (.ops [0,1,0,0,1,1,0,0,1,0,1,1,1,0,0,1,1,0,0,1,0,1,1,1,1,1,1] 3) [.seq [1,1,0,0,1,1,0,0,1,0,1,1,1,0,0,1,1,0,0,1,0,1,1,1,1,1,1],.block 6,.seq [1,1,1,0,0,1,0,1,1,1,0,0,1,1,0,0,1,0,1,1,1,1,1,1]] [2,3,4,5,9,77,78,10,11,12,91,92,93] [(14,Vp b41),(98,Vi (ki:Int)),(100,Vi (((eJ l:Nat):Int) + 1))] [.box b41 [.string f.name,Vi f.kind,Vi f.ty,Vi f.src.op,Vi f.src.k,Vi f.src.n,.string f.src.s,.string f.src.nm,.slice (sA u) (sN u) (sC u)],.row nv 9 1 (sX (jW (T.1.take ki) (eJ l) kp)),.box bp [.string (iW kp),nv,Vi 0,Vi 0,Vi 0,Ve,Ve,Vz],.box b36 [Vi ((aJ l (pJ l T.1 (eJ l) T.2 kp).2).k),Vi ((aJ l (pJ l T.1 (eJ l) T.2 kp).2).a),Vi ((aJ l (pJ l T.1 (eJ l) T.2 kp).2).b),.string ((aJ l (pJ l T.1 (eJ l) T.2 kp).2).t)],.row pv 79 8 (kW (pJ l T.1 (eJ l) T.2 kp).1 us ws),.row (Vs bF (jJ l) cf) 43 9 (aQ T.1 vs),.box bq [Vi ((aJ l 0).k),Vi ((aJ l 0).a),Vi ((aJ l 0).b),.string ((aJ l 0).t)],.box bf [Vs bF (jJ l) cf,pv],.box bg [.slice A l.length cap,Vi ((bJ l (pJ l T.1 (eJ l) T.2 kp).2:Nat):Int)],.box br [Vz,Vz]] [.o 0,.o 1]) trivial (And.intro (kJ (by omega) (by omega)) (trivial)) (fun b41 _=>by kernel_rfl) ?_
    clear hJ a w; intro b41 a w hJ
    refine x_pure hJ 101 (Vi ((ki:Int) % (((eJ l:Nat):Int) + 1))) (by kernel_rfl) (fun w=>run_bin (op:=.rem) (t:=3) (x:=(.tmp 98)) (y:=(.tmp 100)) (yt:=3) (by kernel_rfl) (by kernel_rfl) (by kernel_rfl) (by kernel_rfl) (run_rem (ki:Int) (((eJ l:Nat):Int) + 1) w (by omega) (by omega))) ?_; clear hJ a w; intro a w hJ
    refine rk' hJ false 4 [] [] (.k (.code [1,1,0,0,1,1,0,0,1,0,1,1,1,0,0,1,1,0,0,1,0,1,1,1,1,1,1]) [.block 6,.seq [1,1,1,0,0,1,0,1,1,1,0,0,1,1,0,0,1,0,1,1,1,1,1,1]] [2,3,4,5,9,77,78,10,11,12,91,92,93,14] [(103,.bool (((ki:Int) % (((eJ l:Nat):Int) + 1)) == (kp:Int)))]) ?_
    clear hJ a w; intro a w hJ
    by_cases hq:ki % (eJ l + 1)=kp
    ·rw [if_pos hq] at hsn
     rw [decide_eq_true hq] at hme
     refine qY hJ (t:=((ki:Int) % (((eJ l:Nat):Int) + 1)) == (kp:Int)) (hme) ?_
     refine rx' hJ true 6 [.b 2 1,.b 0 0,.fix] [] (.new fun b42=>.ok (.ops [0,1,1,0,0,1,1,0,0,1,0,1,1,1,0,0,1,1,0,0,1,0,1,1,1,1,1,1] 5) [.block 6,.seq [1,1,1,0,0,1,0,1,1,1,0,0,1,1,0,0,1,0,1,1,1,1,1,1]] [(2,Vp br),(3,Vp bg),(4,Vp bf),(5,Vp bq),(9,Vi ((eJ l:Nat):Int)),(77,Vi ((eJ l:Nat):Int)),(78,Vi (kp:Int)),(10,Vi (kp:Int)),(11,Vp b36),(12,Vp bp),(91,Vs bF (jJ l) cf),(92,Vi (jJ l:Int)),(93,Vi (ki:Int)),(105,nv),(108,Vs b42 1 1)] [.box b41 [.string f.name,Vi f.kind,Vi f.ty,Vi f.src.op,Vi f.src.k,Vi f.src.n,.string f.src.s,.string f.src.nm,.slice (sA u) (sN u) (sC u)],.row nv 9 1 (sX (jW (T.1.take ki) (eJ l) kp)),.box bp [.string (iW kp),nv,Vi 0,Vi 0,Vi 0,Ve,Ve,Vz],.box b36 [Vi ((aJ l (pJ l T.1 (eJ l) T.2 kp).2).k),Vi ((aJ l (pJ l T.1 (eJ l) T.2 kp).2).a),Vi ((aJ l (pJ l T.1 (eJ l) T.2 kp).2).b),.string ((aJ l (pJ l T.1 (eJ l) T.2 kp).2).t)],.row pv 79 8 (kW (pJ l T.1 (eJ l) T.2 kp).1 us ws),.row (Vs bF (jJ l) cf) 43 9 (aQ T.1 vs),.box bq [Vi ((aJ l 0).k),Vi ((aJ l 0).a),Vi ((aJ l 0).b),.string ((aJ l 0).t)],.box bf [Vs bF (jJ l) cf,pv],.box bg [.slice A l.length cap,Vi ((bJ l (pJ l T.1 (eJ l) T.2 kp).2:Nat):Int)],.box br [Vz,Vz]] [(b42,0,[.string f.name]),(bz,0,[.int .u8 (((UInt8.ofNat (49 + kp)).toNat:Nat):Int)]),((zJ u22),0 + 0 * 1,[.string (fname 0)])]) (fun b42 _=>by kernel_rfl) ?_
     clear hJ a w; intro b42 h43 a w s44 hJ
     refine rk hJ true 10 [.ap 1 0 (sX (jW (T.1.take ki) (eJ l) kp)) [[.string f.name]],.b 2 1] [(111,Vi (IntKind.i64.wrap ((ki:Int) + 1)),Vi ((ki:Int) + 1))] (.nv fun nv2=>.f (.out .normal) [] [2,3,4,5,9,77,78,10,11,12,91,92] [(93,Vi ((ki:Int) + 1))] [.box b41 [.string f.name,Vi f.kind,Vi f.ty,Vi f.src.op,Vi f.src.k,Vi f.src.n,.string f.src.s,.string f.src.nm,.slice (sA u) (sN u) (sC u)],.row (.slice (sA nv2) (sN nv2) (sC nv2)) 9 1 ((sX (jW (T.1.take ki) (eJ l) kp))++[[.string f.name]]),.box bp [.string (iW kp),.slice (sA nv2) (sN nv2) (sC nv2),Vi 0,Vi 0,Vi 0,Ve,Ve,Vz],.box b36 [Vi ((aJ l (pJ l T.1 (eJ l) T.2 kp).2).k),Vi ((aJ l (pJ l T.1 (eJ l) T.2 kp).2).a),Vi ((aJ l (pJ l T.1 (eJ l) T.2 kp).2).b),.string ((aJ l (pJ l T.1 (eJ l) T.2 kp).2).t)],.row pv 79 8 (kW (pJ l T.1 (eJ l) T.2 kp).1 us ws),.row (Vs bF (jJ l) cf) 43 9 (aQ T.1 vs),.box bq [Vi ((aJ l 0).k),Vi ((aJ l 0).a),Vi ((aJ l 0).b),.string ((aJ l 0).t)],.box bf [Vs bF (jJ l) cf,pv],.box bg [.slice A l.length cap,Vi ((bJ l (pJ l T.1 (eJ l) T.2 kp).2:Nat):Int)],.box br [Vz,Vz]] [.o 0,.o 1,.o 2]) (And.intro (by simp; omega) (trivial)) (And.intro (kJ (by omega) (by omega)) (trivial)) (fun nv2 _=>by kernel_rfl) ?_
     clear hJ a w; intro nv2 h45 a w s46 hJ
     replace hJ:=hJ.drop 0
     exact pY ⟨ki + 1,⟨h45,.slice (sA nv2) (sN nv2) (sC nv2),(hJ.tof [1,2] (F':=[(bz,0,[.int .u8 (((UInt8.ofNat (49 + kp)).toNat:Nat):Int)]),((zJ u22),0 + 0 * 1,[.string (fname 0)])]) (by kernel_rfl)).to (by kernel_rfl) (by rw [hsn]; simp [sX]) rfl,(s40.trans (s44.trans s46)),by omega⟩,by omega⟩
    ·skip
     rw [if_neg hq] at hsn
     rw [decide_eq_false hq] at hme
     refine iY hJ (t:=((ki:Int) % (((eJ l:Nat):Int) + 1)) == (kp:Int)) (hme) ?_
     refine rk' hJ false 7 [] [(111,Vi (IntKind.i64.wrap ((ki:Int) + 1)),Vi ((ki:Int) + 1))] (.k (.out .normal) [] [2,3,4,5,9,77,78,10,11,12,91,92] [(93,Vi ((ki:Int) + 1))]) (hc:=And.intro (kJ (by omega) (by omega)) (trivial)) ?_
     clear hJ a w; intro a w hJ
     replace hJ:=hJ.drop 0
     exact pY ⟨ki + 1,⟨h39,nv,hJ.to (by kernel_rfl) (by rw [hsn]; rfl) rfl,s40,by omega⟩,by omega⟩
   ·skip
    subst hie
    have htk:T.1.take (jJ l)=T.1:=by rw [← fle,List.take_length]
    rw [htk] at hJ
    have spn:(sX (jW T.1 (eJ l) kp)).length=(jW T.1 (eJ l) kp).length:=List.length_map _
    obtain ⟨An,cn,hE_nv,hc_nv,hm_nv⟩:=hJ.form (v:=nv) (e:=9) (k:=1) (l:=sX (jW T.1 (eJ l) kp)) 0 (by kernel_rfl)
    rw [show (sX (jW T.1 (eJ l) kp)).length=(jW T.1 (eJ l) kp).length from by first | omega | (simp; done) | (simp; omega)] at hE_nv hc_nv
    rw [hE_nv] at hJ
    obtain ⟨h47,s48,fnm,hJn⟩:=hJ.frozen (v:=.slice An ((jW T.1 (eJ l) kp).length) cn) (e:=9) (k:=1) (l:=sX (jW T.1 (eJ l) kp)) 0 (by kernel_rfl) (hJ.j.rowOut0 (v:=.slice An ((jW T.1 (eJ l) kp).length) cn) (e:=9) (k:=1) (l:=sX (jW T.1 (eJ l) kp)) 0 (by kernel_rfl) rfl); clear hJ; have hJ:=hJn; clear hJn
    have prl:(kW (pJ l T.1 (eJ l) T.2 kp).1 us ws).length=kp:=by rw [lW (by rw [hus.len,List.length_map]) (by rw [hws.len,List.length_map]),pgT_len]
    have hul':us.length=(pJ l T.1 (eJ l) T.2 kp).1.length:=by rw [hus.len,List.length_map]
    have hwl':ws.length=(pJ l T.1 (eJ l) T.2 kp).1.length:=by rw [hws.len,List.length_map]
    have b1:=bnd1
    refine iY hJ (t:=decide (((jJ l:Nat):Int) < (jJ l:Int))) (decide_eq_false (by omega)) ?_
    refine rk' hJ false 2 [] [] (.k (.out (.exit 5)) [] [2,3,4,5,9,77,78,11,12] []) ?_
    clear hJ a w; intro a w hJ
    refine jY rfl ?_
    refine rk' hJ false 11 [.b 1 0,.cl 24 #[Vi ((aJ l (pJ l T.1 (eJ l) T.2 kp).2).k),Vi 2] (Vi (cJ (aJ l (pJ l T.1 (eJ l) T.2 kp).2).k 2))] [] (.k (.code [1,0,1,1,1,1,0,0,1,1,0,0,1,0,1,1,1,1,1,1]) [.seq [1,1,1,1,1,0,0,1,1,0,0,1,0,1,1,1,1,1,1],.block 4,.seq [1,1,1,0,0,1,0,1,1,1,1,1,1]] [2,3,4,5,9,77,78,12] [(115,.bool ((cJ (aJ l (pJ l T.1 (eJ l) T.2 kp).2).k 2) == 0))]) (ho:=And.intro (fun H sH=>cK _ 2 _ rk0 rk1 (by omega) (by omega)) (trivial)) ?_
    clear hJ a w; intro a w hJ
    by_cases q0:cJ (aJ l (pJ l T.1 (eJ l) T.2 kp).2).k 2=0
    ·obtain ⟨e1,e2⟩:=pgT_step l T.1 (eJ l) T.2 kp (show skipE l T.1 (aJ l (pJ l T.1 (eJ l) T.2 kp).2) (bJ l (pJ l T.1 (eJ l) T.2 kp).2)=_ by unfold skipE; rw [if_pos q0])
     refine qY hJ (t:=(cJ (aJ l (pJ l T.1 (eJ l) T.2 kp).2).k 2) == 0) (beq_iff_eq.2 q0) ?_
     refine rk' hJ false 4 [.b 5 0] [] (.k (.ops [0,1,0,1,1,1,1,0,0,1,1,0,0,1,0,1,1,1,1,1,1] 3) [.seq [1,1,1,1,1,0,0,1,1,0,0,1,0,1,1,1,1,1,1],.block 4,.seq [1,1,1,0,0,1,0,1,1,1,1,1,1]] [2,3,4,5,9,77,78,12] [(116,Vp bg),(118,Vs bF (jJ l) cf)]) ?_
     clear hJ a w; intro a w hJ
     refine eY hJ 119 6 (hE1 bg (.slice A l.length cap) (bJ l (pJ l T.1 (eJ l) T.2 kp).2) 2 _ _ _ (hr.sees (s2.trans (s4.trans (s6.trans (s33.trans (s35.trans (s38.trans (s40.trans (s48.trans hJ.j.sees))))))))) (by omega) (by omega) (by omega) ⟨vs,(hJ.j.rowLent (v:=Vs bF (jJ l) cf) (e:=43) (k:=9) (l:=aQ T.1 vs) (b:=bg) (cs:=[.slice A l.length cap,Vi ((bJ l (pJ l T.1 (eJ l) T.2 kp).2:Nat):Int)]) 3 6 rfl rfl),((hvs.sees (s33.trans (s35.trans (s38.trans (s40.trans (s48.trans hJ.j.sees))))))).sees ((Sees.refl _).less (hJ.j.boxBad (b:=bg) (cs:=[.slice A l.length cap,Vi ((bJ l (pJ l T.1 (eJ l) T.2 kp).2:Nat):Int)]) 6 rfl))⟩ (by simp)) ?_; clear hJ a w; rintro _ _ h49 a w s50 ⟨u,rfl,rfl,hu⟩ hJ
     refine rk' hJ true 9 [.b 0 2,.b 5 1,.b 0 0,.fix] [] (.new fun b51=>.f (.ops [1,1,1,1,1,0,0,1,1,0,0,1,0,1,1,1,1,1,1] 4) [.block 4,.seq [1,1,1,0,0,1,0,1,1,1,1,1,1]] [2,3,4,5,9,77,78] [(122,pv),(124,Vs b51 1 1)] [.box bp [.string (iW kp),.slice An ((jW T.1 (eJ l) kp).length) cn,Vi (((iJ l T.1 1 2 (bJ l (pJ l T.1 (eJ l) T.2 kp).2)).1).op),Vi (((iJ l T.1 1 2 (bJ l (pJ l T.1 (eJ l) T.2 kp).2)).1).k),Vi (((iJ l T.1 1 2 (bJ l (pJ l T.1 (eJ l) T.2 kp).2)).1).n),.string (((iJ l T.1 1 2 (bJ l (pJ l T.1 (eJ l) T.2 kp).2)).1).s),.string (((iJ l T.1 1 2 (bJ l (pJ l T.1 (eJ l) T.2 kp).2)).1).nm),.slice (sA u) (sN u) (sC u)],.box b36 [Vi ((aJ l (pJ l T.1 (eJ l) T.2 kp).2).k),Vi ((aJ l (pJ l T.1 (eJ l) T.2 kp).2).a),Vi ((aJ l (pJ l T.1 (eJ l) T.2 kp).2).b),.string ((aJ l (pJ l T.1 (eJ l) T.2 kp).2).t)],.row pv 79 8 (kW (pJ l T.1 (eJ l) T.2 kp).1 us ws),.row (Vs bF (jJ l) cf) 43 9 (aQ T.1 vs),.box bq [Vi ((aJ l 0).k),Vi ((aJ l 0).a),Vi ((aJ l 0).b),.string ((aJ l 0).t)],.box bf [Vs bF (jJ l) cf,pv],.box bg [.slice A l.length cap,Vi (((iJ l T.1 1 2 (bJ l (pJ l T.1 (eJ l) T.2 kp).2)).2:Nat):Int)],.box br [Vz,Vz]] [.n (b51,0,[.string (iW kp),.slice An ((jW T.1 (eJ l) kp).length) cn,Vi (((iJ l T.1 1 2 (bJ l (pJ l T.1 (eJ l) T.2 kp).2)).1).op),Vi (((iJ l T.1 1 2 (bJ l (pJ l T.1 (eJ l) T.2 kp).2)).1).k),Vi (((iJ l T.1 1 2 (bJ l (pJ l T.1 (eJ l) T.2 kp).2)).1).n),.string (((iJ l T.1 1 2 (bJ l (pJ l T.1 (eJ l) T.2 kp).2)).1).s),.string (((iJ l T.1 1 2 (bJ l (pJ l T.1 (eJ l) T.2 kp).2)).1).nm),.slice (sA u) (sN u) (sC u)]),.o 0,.o 1]) (hr:=fun b51 _=>by kernel_rfl) ?_
     clear hJ a w; intro b51 h52 a w s53 hJ
     refine rk hJ true 10 [.ap 2 0 (kW (pJ l T.1 (eJ l) T.2 kp).1 us ws) [[.string (iW kp),.slice An ((jW T.1 (eJ l) kp).length) cn,Vi (((iJ l T.1 1 2 (bJ l (pJ l T.1 (eJ l) T.2 kp).2)).1).op),Vi (((iJ l T.1 1 2 (bJ l (pJ l T.1 (eJ l) T.2 kp).2)).1).k),Vi (((iJ l T.1 1 2 (bJ l (pJ l T.1 (eJ l) T.2 kp).2)).1).n),.string (((iJ l T.1 1 2 (bJ l (pJ l T.1 (eJ l) T.2 kp).2)).1).s),.string (((iJ l T.1 1 2 (bJ l (pJ l T.1 (eJ l) T.2 kp).2)).1).nm),.slice (sA u) (sN u) (sC u)]],.b 5 1] [(127,Vi (IntKind.i64.wrap ((kp:Int) + 1)),Vi ((kp:Int) + 1))] (.nv fun v125=>.f (.out .normal) [] [2,3,4,5,9,77] [(78,Vi ((kp:Int) + 1))] [.box bp [.string (iW kp),.slice An ((jW T.1 (eJ l) kp).length) cn,Vi (((iJ l T.1 1 2 (bJ l (pJ l T.1 (eJ l) T.2 kp).2)).1).op),Vi (((iJ l T.1 1 2 (bJ l (pJ l T.1 (eJ l) T.2 kp).2)).1).k),Vi (((iJ l T.1 1 2 (bJ l (pJ l T.1 (eJ l) T.2 kp).2)).1).n),.string (((iJ l T.1 1 2 (bJ l (pJ l T.1 (eJ l) T.2 kp).2)).1).s),.string (((iJ l T.1 1 2 (bJ l (pJ l T.1 (eJ l) T.2 kp).2)).1).nm),.slice (sA u) (sN u) (sC u)],.box b36 [Vi ((aJ l (pJ l T.1 (eJ l) T.2 kp).2).k),Vi ((aJ l (pJ l T.1 (eJ l) T.2 kp).2).a),Vi ((aJ l (pJ l T.1 (eJ l) T.2 kp).2).b),.string ((aJ l (pJ l T.1 (eJ l) T.2 kp).2).t)],.row (.slice (sA v125) (sN v125) (sC v125)) 79 8 ((kW (pJ l T.1 (eJ l) T.2 kp).1 us ws)++[[.string (iW kp),.slice An ((jW T.1 (eJ l) kp).length) cn,Vi (((iJ l T.1 1 2 (bJ l (pJ l T.1 (eJ l) T.2 kp).2)).1).op),Vi (((iJ l T.1 1 2 (bJ l (pJ l T.1 (eJ l) T.2 kp).2)).1).k),Vi (((iJ l T.1 1 2 (bJ l (pJ l T.1 (eJ l) T.2 kp).2)).1).n),.string (((iJ l T.1 1 2 (bJ l (pJ l T.1 (eJ l) T.2 kp).2)).1).s),.string (((iJ l T.1 1 2 (bJ l (pJ l T.1 (eJ l) T.2 kp).2)).1).nm),.slice (sA u) (sN u) (sC u)]]),.row (Vs bF (jJ l) cf) 43 9 (aQ T.1 vs),.box bq [Vi ((aJ l 0).k),Vi ((aJ l 0).a),Vi ((aJ l 0).b),.string ((aJ l 0).t)],.box bf [Vs bF (jJ l) cf,.slice (sA v125) (sN v125) (sC v125)],.box bg [.slice A l.length cap,Vi (((iJ l T.1 1 2 (bJ l (pJ l T.1 (eJ l) T.2 kp).2)).2:Nat):Int)],.box br [Vz,Vz]] [.o 0,.o 1,.o 2]) (And.intro (by rw [prl]; simp; omega) (trivial)) (And.intro (kJ (by omega) (by omega)) (trivial)) (fun v125 _=>by kernel_rfl) ?_
     clear hJ a w; intro v125 h54 a w s55 hJ
     replace hJ:=hJ.drop 1
     replace hJ:=hJ.drop 0
     exact pY ⟨kp + 1,⟨h54,.slice (sA v125) (sN v125) (sC v125),us++[.slice An (jW T.1 (eJ l) kp).length cn],ws++[.slice (sA u) (sN u) (sC u)],(hJ.tof [2] (F':=[((zJ u22),0 + 0 * 1,[.string (fname 0)])]) (by kernel_rfl)).to (by kernel_rfl) (by rw [e1,pgRows_snoc hul' hwl',e2]; rfl) rfl,(s33.trans (s35.trans (s38.trans (s40.trans (s48.trans (s50.trans (s53.trans s55))))))),by omega,by rw [e1,List.map_append]; exact AllStr.snoc (fnm.sees (s50.trans (s53.trans s55))) (hus.sees (s35.trans (s38.trans (s40.trans (s48.trans (s50.trans (s53.trans s55))))))),by rw [e1,List.map_append]; exact AllArgs.snoc (hu.sees (s53.trans s55)) (hws.sees (s35.trans (s38.trans (s40.trans (s48.trans (s50.trans (s53.trans s55))))))),slu_snoc hul rfl,slu_snoc hwl rfl⟩,by omega⟩
    ·skip
     obtain ⟨e1,e2⟩:=pgT_step l T.1 (eJ l) T.2 kp (show skipE l T.1 (aJ l (pJ l T.1 (eJ l) T.2 kp).2) (bJ l (pJ l T.1 (eJ l) T.2 kp).2)=_ by unfold skipE; rw [if_neg q0])
     refine iY hJ (t:=(cJ (aJ l (pJ l T.1 (eJ l) T.2 kp).2).k 2) == 0) (beq_eq_false_iff_ne.2 q0) ?_
     refine rk' hJ true 7 [.b 5 1,.b 0 0,.fix] [] (.new fun b56=>.g (.ops [1,1,1,1,1,0,0,1,1,0,0,1,0,1,1,1,1,1,1] 4) [.block 4,.seq [1,1,1,0,0,1,0,1,1,1,1,1,1]] [2,3,4,5,9,77,78] [(122,pv),(124,Vs b56 1 1)] [.n (b56,0,[.string (iW kp),.slice An ((jW T.1 (eJ l) kp).length) cn,Vi 0,Vi 0,Vi 0,Ve,Ve,Vz]),.o 0,.o 1]) (hr:=fun b56 _=>by kernel_rfl) ?_
     clear hJ a w; intro b56 h57 a w s58 hJ
     refine rx hJ true 10 [.ap 2 0 (kW (pJ l T.1 (eJ l) T.2 kp).1 us ws) [[.string (iW kp),.slice An ((jW T.1 (eJ l) kp).length) cn,Vi 0,Vi 0,Vi 0,Ve,Ve,Vz]],.b 5 1] [(127,Vi (IntKind.i64.wrap ((kp:Int) + 1)),Vi ((kp:Int) + 1))] (.nv fun v125=>.ok (.out .normal) [] [(2,Vp br),(3,Vp bg),(4,Vp bf),(5,Vp bq),(9,Vi ((eJ l:Nat):Int)),(77,Vi ((eJ l:Nat):Int)),(78,Vi ((kp:Int) + 1))] [.box bp [.string (iW kp),.slice An ((jW T.1 (eJ l) kp).length) cn,Vi 0,Vi 0,Vi 0,Ve,Ve,Vz],.box b36 [Vi ((aJ l (pJ l T.1 (eJ l) T.2 kp).2).k),Vi ((aJ l (pJ l T.1 (eJ l) T.2 kp).2).a),Vi ((aJ l (pJ l T.1 (eJ l) T.2 kp).2).b),.string ((aJ l (pJ l T.1 (eJ l) T.2 kp).2).t)],.row (.slice (sA v125) (sN v125) (sC v125)) 79 8 ((kW (pJ l T.1 (eJ l) T.2 kp).1 us ws)++[[.string (iW kp),.slice An ((jW T.1 (eJ l) kp).length) cn,Vi 0,Vi 0,Vi 0,Ve,Ve,Vz]]),.row (Vs bF (jJ l) cf) 43 9 (aQ T.1 vs),.box bq [Vi ((aJ l 0).k),Vi ((aJ l 0).a),Vi ((aJ l 0).b),.string ((aJ l 0).t)],.box bf [Vs bF (jJ l) cf,.slice (sA v125) (sN v125) (sC v125)],.box bg [.slice A l.length cap,Vi ((bJ l (pJ l T.1 (eJ l) T.2 kp).2:Nat):Int)],.box br [Vz,Vz]] [(b56,0,[.string (iW kp),.slice An ((jW T.1 (eJ l) kp).length) cn,Vi 0,Vi 0,Vi 0,Ve,Ve,Vz]),(bz,0,[.int .u8 (((UInt8.ofNat (49 + kp)).toNat:Nat):Int)]),((zJ u22),0 + 0 * 1,[.string (fname 0)])]) (And.intro (by rw [prl]; simp; omega) (trivial)) (And.intro (kJ (by omega) (by omega)) (trivial)) (fun v125 _=>by kernel_rfl) ?_
     clear hJ a w; intro v125 h59 a w s60 hJ
     replace hJ:=hJ.drop 1
     replace hJ:=hJ.drop 0
     exact pY ⟨kp + 1,⟨h59,.slice (sA v125) (sN v125) (sC v125),us++[.slice An (jW T.1 (eJ l) kp).length cn],ws++[Vz],(hJ.tof [2] (F':=[((zJ u22),0 + 0 * 1,[.string (fname 0)])]) (by kernel_rfl)).to (by kernel_rfl) (by rw [e1,pgRows_snoc hul' hwl',e2]; rfl) rfl,(s33.trans (s35.trans (s38.trans (s40.trans (s48.trans (s58.trans s60)))))),by omega,by rw [e1,List.map_append]; exact AllStr.snoc (fnm.sees (s58.trans s60)) (hus.sees (s35.trans (s38.trans (s40.trans (s48.trans (s58.trans s60)))))),by rw [e1,List.map_append]; exact AllArgs.snoc (args_nil _ _ rfl) (hws.sees (s35.trans (s38.trans (s40.trans (s48.trans (s58.trans s60)))))),slu_snoc hul rfl,slu_snoc hwl rfl⟩,by omega⟩
  ·skip
   subst hpe
   have prl:(kW (pJ l T.1 (eJ l) T.2 (eJ l)).1 us ws).length=eJ l:=by rw [lW (by rw [hus.len,List.length_map]) (by rw [hws.len,List.length_map]),pgT_len]
   obtain ⟨Ap,cp,hE_pv,hc_pv,hm_pv⟩:=hJ.form (v:=pv) (e:=79) (k:=8) (l:=kW (pJ l T.1 (eJ l) T.2 (eJ l)).1 us ws) 0 (by kernel_rfl)
   rw [show (kW (pJ l T.1 (eJ l) T.2 (eJ l)).1 us ws).length=(eJ l) from by first | omega | (simp; done) | (simp; omega)] at hE_pv hc_pv
   rw [hE_pv] at hJ
   refine iY hJ (t:=decide (((eJ l:Nat):Int) < ((eJ l:Nat):Int))) (decide_eq_false (by omega)) ?_
   refine rk' hJ false 2 [] [] (.k (.out (.exit 3)) [] [2,4,5] []) ?_
   clear hJ a w; intro a w hJ
   refine jY rfl ?_
   refine rk' hJ false 11 [.b 2 0,.cl 24 #[Vi ((aJ l 0).k),Vi 2] (Vi (cJ (aJ l 0).k 2))] [] (.k (.code [1,0,1,1,1,1,1,1,1]) [.seq [1,1,1,1,1,1,1,1]] [2,4] [(131,.bool ((cJ (aJ l 0).k 2) == 0))]) (ho:=And.intro (fun H sH=>cK _ 2 _ k0 k1 (by omega) (by omega)) (trivial)) ?_
   clear hJ a w; intro a w hJ
   by_cases q0:cJ (aJ l 0).k 2=0
   ·refine qY hJ (t:=(cJ (aJ l 0).k 2) == 0) (beq_iff_eq.2 q0) ?_
    refine rk' hJ false 3 [.b 3 0] [] (.k (.ops [0,1,0,1,1,1,1,1,1,1] 2) [.seq [1,1,1,1,1,1,1,1]] [2,4] [(133,Vs bF (jJ l) cf)]) ?_
    clear hJ a w; intro a w hJ
    refine x_callset hJ 134 1 (g:=bF) (m:=(jJ l)) (cap:=cf) (kk:=9) (e:=43) (l:=aQ T.1 vs) rfl (rev_set _ _ _ _ _ (fdRows_one T.1 vs hvl) (by omega)) (fun _=>by kernel_rfl) ?_; clear hJ a w; intro a w hJ
    replace hJ:K ⟨136,h.w,h.bad,[]⟩ [(2,Vp br),(4,Vp bf),(133,Vs bF (jJ l) cf),(134,.tuple #[])] [.row (.slice Ap (eJ l) cp) 79 8 (kW (pJ l T.1 (eJ l) T.2 (eJ l)).1 us ws),.row (Vs bF (jJ l) cf) 43 9 ((aQ T.1 vs).reverse),.box bq [Vi ((aJ l 0).k),Vi ((aJ l 0).a),Vi ((aJ l 0).b),.string ((aJ l 0).t)],.box bf [Vs bF (jJ l) cf,.slice Ap (eJ l) cp],.box bg [.slice A l.length cap,Vi (((pJ l T.1 (eJ l) T.2 (eJ l)).2:Nat):Int)],.box br [Vz,Vz]] [((zJ u22),0 + 0 * 1,[.string (fname 0)])] h32 a w:=hJ.tw
    refine rk' hJ false 9 [.b 3 0,.b 5 0] [] (.f (.out .ret) [] [2] [] [.row (.slice Ap (eJ l) cp) 79 8 (kW (pJ l T.1 (eJ l) T.2 (eJ l)).1 us ws),.row (Vs bF (jJ l) cf) 43 9 ((aQ T.1 vs).reverse),.box bq [Vi ((aJ l 0).k),Vi ((aJ l 0).a),Vi ((aJ l 0).b),.string ((aJ l 0).t)],.box bf [Vs bF (jJ l) cf,.slice Ap (eJ l) cp],.box bg [.slice A l.length cap,Vi (((pJ l T.1 (eJ l) T.2 (eJ l)).2:Nat):Int)],.box br [Vs bF (jJ l) cf,.slice Ap (eJ l) cp]] [.o 0]) ?_
    clear hJ a w; intro a w hJ
    have rF:=fdRows_rev _ _ hvs.len
    have oF:=hJ.rowOwn (v:=Vs bF (jJ l) cf) (e:=43) (kk:=9) (l:=(aQ T.1 vs).reverse) 1 (by kernel_rfl)
    have oP:=own_apart hJ.j 0 1 rfl rfl rfl rfl
    rw [rF] at oF
    refine gY (hQ [.agg #[Vs bF (jJ l) cf,.slice Ap (eJ l) cp]] _ [] hJ (.rcel hJ.j 5 .nil) (fJ _) rfl ?_).1
    exact ⟨_,_,oF,.slice Ap (eJ l) cp,vs.reverse,rfl,by rw [hfm,if_pos q0],by rw [hfm,if_pos q0]; exact AllSrc.rev (hvs.sees (s33.trans (own_sees hJ.j 1 rfl))),by rw [hfm]; exact ⟨us,ws,oP,(hus.sees (own_sees hJ.j 1 rfl)),(hws.sees (own_sees hJ.j 1 rfl))⟩⟩
   ·skip
    refine iY hJ (t:=(cJ (aJ l 0).k 2) == 0) (beq_eq_false_iff_ne.2 q0) ?_
    refine rk' hJ false 9 [.b 3 0,.b 5 0] [] (.f (.out .ret) [] [2] [] [.row (.slice Ap (eJ l) cp) 79 8 (kW (pJ l T.1 (eJ l) T.2 (eJ l)).1 us ws),.row (Vs bF (jJ l) cf) 43 9 (aQ T.1 vs),.box bq [Vi ((aJ l 0).k),Vi ((aJ l 0).a),Vi ((aJ l 0).b),.string ((aJ l 0).t)],.box bf [Vs bF (jJ l) cf,.slice Ap (eJ l) cp],.box bg [.slice A l.length cap,Vi (((pJ l T.1 (eJ l) T.2 (eJ l)).2:Nat):Int)],.box br [Vs bF (jJ l) cf,.slice Ap (eJ l) cp]] [.o 0]) ?_
    clear hJ a w; intro a w hJ
    have oF:=hJ.rowOwn (v:=Vs bF (jJ l) cf) (e:=43) (kk:=9) (l:=aQ T.1 vs) 1 (by kernel_rfl)
    have oP:=own_apart hJ.j 0 1 rfl rfl rfl rfl
    refine gY (hQ [.agg #[Vs bF (jJ l) cf,.slice Ap (eJ l) cp]] _ [] hJ (.rcel hJ.j 5 .nil) (fJ _) rfl ?_).1
    exact ⟨_,_,oF,.slice Ap (eJ l) cp,vs,rfl,by rw [hfm,if_neg q0],by rw [hfm,if_neg q0]; exact (hvs.sees (s33.trans (own_sees hJ.j 1 rfl))),by rw [hfm]; exact ⟨us,ws,oP,(hus.sees (own_sees hJ.j 1 rfl)),(hws.sees (own_sees hJ.j 1 rfl))⟩⟩
theorem form_any (l:List RawD) (sl:Value) (h:Vw) (hr:RS h 4 sl (l.map RawD.cs)) (hlen:l.length * 40≤reachBytes) (hok:∀ r∈l,r.ok) :
  C0 Tryz.prog 15 #[sl] h (fun v h'=>∃ u1 u2,v=.agg #[.slice (sA u1) (sN u1) (sC u1),.slice (sA u2) (sN u2) (sC u2)]∧IsForm h' (.slice (sA u1) (sN u1) (sC u1)) (.slice (sA u2) (sN u2) (sC u2)) (mQ l)):=by
 intro q1 q2 q3 q4
 refine (form_o l sl h hr hlen hok q1 q2 q3 q4).mono ?_
 rintro e w' ⟨v,Bo,rfl,hl,hB,hm,u,fl,ho,u2,vs,rfl,rfl,h2,h3⟩
 have s:Sees ⟨w',u.ownBlock.toList++h.bad⟩ ⟨w',h.bad⟩:=⟨Nat.le_refl _,fun _ _ _=>rfl,fun b hb _=>List.mem_append_right _ hb⟩
 have r1:RS ⟨w',h.bad⟩ 9 u (aQ (mQ l).fields vs):=row_rs ho fun b hb hbad=>by have:=(ho.1.lt b hb).1; have:=q4 b hbad; omega
 have k3:=h3.sees s
 have k2:=h2.sees s
 obtain ⟨A,c,rfl,-⟩:=r1.form
 obtain ⟨us,ws,r2,-⟩:=id k3
 obtain ⟨A',c',rfl,-⟩:=r2.form
 exact ⟨_,Bo,rfl,hl,hB,hm,.slice A _ c,.slice A' _ c',rfl,⟨vs,r1,k2⟩,k3⟩
end Go.Proofs.YthckljafinhepaaGreat
namespace Go.Proofs.YthckljafinhepaaGreat
open Go.RowKit
set_option linter.unusedVariables false
theorem fname_inj {i j:Nat} (hi:i < 10) (hj:j < 10) (h:fname i=fname j):i=j:=by
 have key:∀ i,i < 10→∀ j,j < 10→(fname i).data=(fname j).data→i=j:=by decide
 exact key i hi j hj (congrArg ByteArray.data h)
theorem fldT_names (l:List RawD):∀ k,(gJ l k).1.map (fun f:Fd=>f.name)=(List.range k).map fname
 | 0=>rfl
 | k + 1=>by
  show ((gJ l k).1++[_]).map (fun f:Fd=>f.name)=_
  rw [List.map_append,fldT_names l k,List.range_succ,List.map_append]; rfl
theorem form_mem {l:List RawD} {f:Fd}:f∈(mQ l).fields↔f∈(gJ l (jJ l)).1:=by
 show f∈formF l↔_
 unfold formF
 split
 ·rw [List.mem_reverse]
 ·exact Iff.rfl
theorem oQ (l:List RawD):((mQ l).fields.map (·.name)).Nodup:=by
 have hn:=(mV l).2.1
 have h:((gJ l (jJ l)).1.map (·.name)).Nodup:=by
  rw [fldT_names]
  refine List.pairwise_map.2 (List.nodup_range.imp_of_mem ?_)
  intro a b ha hb hab e
  exact hab (fname_inj (by have:=List.mem_range.1 ha; omega) (by have:=List.mem_range.1 hb; omega) e)
 show ((formF l).map (·.name)).Nodup
 unfold formF
 split
 ·rw [List.map_reverse]; exact (List.reverse_perm _).nodup_iff.2 h
 ·exact h
theorem nQ (l:List RawD):(mQ l).fields.length=jJ l:=by
 show (formF l).length=_
 unfold formF
 split
 ·rw [List.length_reverse,lQ]
 ·exact lQ l _
theorem form_pages (l:List RawD):(mQ l).pages.length=eJ l:=pgT_len _ _ _ _ _
theorem fldT_each (l:List RawD):∀ k,∀ f∈(gJ l k).1,∃ i,i < k∧f.name=fname i∧(1≤f.kind∧f.kind≤3)∧(1≤f.ty∧f.ty≤3)∧(f.kind=1→f.src=zE)
 | 0,f,hf=>by cases hf
 | k + 1,f,hf=>by
  have hf:f∈(gJ l k).1++[_]:=hf
  rcases List.mem_append.1 hf with hf | hf
  ·obtain ⟨i,h1,h2⟩:=fldT_each l k f hf
   exact ⟨i,by omega,h2⟩
  ·obtain rfl:=List.mem_singleton.1 hf
   have p1:=pW (aJ l (gJ l k).2).k 3 (by omega)
   have p2:=pW (aJ l (gJ l k).2).b 3 (by omega)
   refine ⟨k,by omega,rfl,⟨by simp only; omega,by simp only; omega⟩,⟨by simp only; omega,by simp only; omega⟩,fun h=>?_⟩
   have h:1 + cJ (aJ l (gJ l k).2).k 3=1:=h
   show (srcE l (gJ l k).1 (aJ l (gJ l k).2) (bJ l (gJ l k).2)).1=zE
   unfold srcE
   rw [if_neg (by omega),if_neg (by omega)]
theorem form_each {l:List RawD} {f:Fd} (hf:f∈(mQ l).fields):∃ i,i < 10∧f.name=fname i∧(1≤f.kind∧f.kind≤3)∧(1≤f.ty∧f.ty≤3)∧(f.kind=1→f.src=zE):=by
 obtain ⟨i,h1,h2⟩:=fldT_each l _ f (form_mem.1 hf)
 exact ⟨i,by have:=(mV l).2.1; omega,h2⟩
theorem form_c (l:List RawD) (sl:Value) (h:Vw) (hr:RS h 4 sl (l.map RawD.cs)) (hlen:l.length * 40≤reachBytes) (hok:∀ r∈l,r.ok) :
  C0 Tryz.prog 15 #[sl] h (fun v h'=>∃ A c B d,v=.agg #[.slice A (mQ l).fields.length c,.slice B (mQ l).pages.length d]∧IsForm h' (.slice A (mQ l).fields.length c) (.slice B (mQ l).pages.length d) (mQ l)):=by
 refine (form_any l sl h hr hlen hok).mono fun v h' _=>?_
 rintro ⟨u1,u2,rfl,hf⟩
 obtain ⟨vs,hrs,hsrc⟩:=hf.fields
 obtain ⟨us,ws,hps,hst,hag⟩:=hf.pages
 obtain ⟨A,c,e1,-⟩:=hrs.form
 obtain ⟨B,d,e2,-⟩:=hps.form
 rw [cQ hsrc.len] at e1
 rw [lW (by rw [hst.len,List.length_map]) (by rw [hag.len,List.length_map])] at e2
 rw [e1,e2] at hf ⊢
 exact ⟨A,c,B,d,rfl,hf⟩
end Go.Proofs.YthckljafinhepaaGreat
namespace Go.Proofs.YthckljafinhepaaGreat
open Go.RowKit
set_option linter.unusedVariables false
theorem fname_ok {k:Nat} (h:k < 10):sJ (fname k).data.toList:=by
 match k,h with
 | 0,_=>exact ⟨by decide,by decide,⟨_,rfl,by decide⟩,by decide,by decide⟩
 | 1,_=>exact ⟨by decide,by decide,⟨_,rfl,by decide⟩,by decide,by decide⟩
 | 2,_=>exact ⟨by decide,by decide,⟨_,rfl,by decide⟩,by decide,by decide⟩
 | 3,_=>exact ⟨by decide,by decide,⟨_,rfl,by decide⟩,by decide,by decide⟩
 | 4,_=>exact ⟨by decide,by decide,⟨_,rfl,by decide⟩,by decide,by decide⟩
 | 5,_=>exact ⟨by decide,by decide,⟨_,rfl,by decide⟩,by decide,by decide⟩
 | 6,_=>exact ⟨by decide,by decide,⟨_,rfl,by decide⟩,by decide,by decide⟩
 | 7,_=>exact ⟨by decide,by decide,⟨_,rfl,by decide⟩,by decide,by decide⟩
 | 8,_=>exact ⟨by decide,by decide,⟨_,rfl,by decide⟩,by decide,by decide⟩
 | 9,_=>exact ⟨by decide,by decide,⟨_,rfl,by decide⟩,by decide,by decide⟩
theorem tyF_mem:∀ {fs:List Fd},(fs.map (fun f:Fd=>f.name)).Nodup→∀ f∈fs,tyF fs f.name=some f.ty
 | [],_,f,hf=>by cases hf
 | g :: fs,hd,f,hf=>by
  have hd':=List.nodup_cons.1 hd
  unfold tyF
  rcases List.mem_cons.1 hf with rfl | hf
  ·rw [if_pos ((Go.MapKept.bytes_beq _ _).2 rfl)]
  ·rw [if_neg (fun q=>?_)]
   ·exact tyF_mem hd'.2 f hf
   ·have e:=(Go.MapKept.bytes_beq _ _).1 q
    exact hd'.1 (List.mem_map.2 ⟨f,hf,e⟩)
theorem fldT_made (l:List RawD):∀ k,∀ f∈(gJ l k).1,∃ i,i < k∧f=⟨fname i,1 + cJ (aJ l (gJ l i).2).k 3,1 + cJ (aJ l (gJ l i).2).b 3,(srcE l (gJ l i).1 (aJ l (gJ l i).2) (bJ l (gJ l i).2)).1⟩
 | 0,f,hf=>by cases hf
 | k + 1,f,hf=>by
  have hf:f∈(gJ l k).1++[_]:=hf
  rcases List.mem_append.1 hf with hf | hf
  ·obtain ⟨i,h1,h2⟩:=fldT_made l k f hf
   exact ⟨i,by omega,h2⟩
  ·exact ⟨k,by omega,List.mem_singleton.1 hf⟩
theorem fldT_sub (l:List RawD) {i k:Nat} (h:i≤k):∀ f∈(gJ l i).1,f∈(gJ l k).1:=by
 induction k with
 | zero=>intro f hf; rw [show i=0 by omega] at hf; cases hf
 | succ k ih =>
  intro f hf
  by_cases e:i=k + 1
  ·rw [e] at hf; exact hf
  ·show f∈(gJ l k).1++[_]
   exact List.mem_append_left _ (ih (by omega) f hf)
theorem fldT_names_ok (l:List RawD) {k:Nat} (hk:k≤10):∀ f∈(gJ l k).1,sJ f.name.data.toList:=fun f hf=>by
 obtain ⟨i,h1,rfl⟩:=fldT_made l k f hf
 exact fname_ok (by omega)
theorem src_ok (l:List RawD) (i:Nat) (hi:i < 10) {g:ByteArray→Option Int} (hg:∀ f∈(gJ l i).1,g f.name=some f.ty) (h:cJ (aJ l (gJ l i).2).k 3≠0) :
  ∃ t,1≤t∧t≤3∧(cJ (aJ l (gJ l i).2).k 3=1→t=1 + cJ (aJ l (gJ l i).2).b 3)∧tyE g (srcE l (gJ l i).1 (aJ l (gJ l i).2) (bJ l (gJ l i).2)).1=(t,0) ∧
   WfE (srcE l (gJ l i).1 (aJ l (gJ l i).2) (bJ l (gJ l i).2)).1∧(szE (srcE l (gJ l i).1 (aJ l (gJ l i).2) (bJ l (gJ l i).2)).1).1≤13∧(szE (srcE l (gJ l i).1 (aJ l (gJ l i).2) (bJ l (gJ l i).2)).1).2≤3:=by
 have hn:=fldT_names_ok l (k:=i) (by omega)
 have pk:=pW (aJ l (gJ l i).2).k 3 (by omega)
 have pb:=pW (aJ l (gJ l i).2).b 3 (by omega)
 have pa:=pW (aJ l (gJ l i).2).a 3 (by omega)
 unfold srcE
 by_cases h1:cJ (aJ l (gJ l i).2).k 3=1
 ·rw [if_pos h1]
  obtain ⟨a,b,c⟩:=genE_ok l (gJ l i).1 hn 2 (1 + cJ (aJ l (gJ l i).2).b 3) (bJ l (gJ l i).2) (by omega) (by omega)
  exact ⟨1 + cJ (aJ l (gJ l i).2).b 3,by omega,by omega,fun _=>rfl,ty_gen hg l 2 _ _ (by omega) (by omega),a,b,c⟩
 ·rw [if_neg h1,if_pos (by omega)]
  obtain ⟨a,b,c⟩:=genE_ok l (gJ l i).1 hn 1 (1 + cJ (aJ l (gJ l i).2).a 3) (bJ l (gJ l i).2) (by omega) (by omega)
  have e1:cntE 1=4:=rfl
  exact ⟨1 + cJ (aJ l (gJ l i).2).a 3,by omega,by omega,fun q=>absurd q h1,ty_gen hg l 1 _ _ (by omega) (by omega),a,by omega,by omega⟩
theorem form_okF (l:List RawD) (fs:List Fd) (hd:(fs.map (fun f:Fd=>f.name)).Nodup) (hs:∀ f∈(gJ l (jJ l)).1,f∈fs):∀ f∈(gJ l (jJ l)).1,OkF fs f:=fun f hf=>by
 have hn:=(mV l).2.1
 obtain ⟨i,hi,rfl⟩:=fldT_made l _ f hf
 have pk:=pW (aJ l (gJ l i).2).k 3 (by omega)
 have pb:=pW (aJ l (gJ l i).2).b 3 (by omega)
 have hg:∀ f∈(gJ l i).1,tyF fs f.name=some f.ty:=fun f hf=>tyF_mem hd f (hs f (fldT_sub l (by omega) f hf))
 have hso:=fun h=>src_ok l i (by omega) hg h
 refine ⟨fname_ok (by omega),by simp only; omega,by simp only; omega,by simp only; omega,by simp only; omega,fun h=>?_,fun h=>?_,fun h=>?_,fun h=>?_⟩
 ·simp only at h ⊢
  unfold srcE
  rw [if_neg (by omega),if_neg (by omega)]
 ·simp only at h ⊢
  obtain ⟨t,-,-,-,-,a,b,c⟩:=hso (by omega)
  exact ⟨a,by omega,by unfold chkE; rw [if_neg (by omega),if_neg (by omega)]⟩
 ·simp only at h ⊢
  obtain ⟨t,-,-,e,q,-⟩:=hso (by omega)
  rw [q,e (by omega)]
 ·simp only at h ⊢
  obtain ⟨t,a,b,-,q,-⟩:=hso (by omega)
  exact ⟨t,a,b,q⟩
theorem form_okFs (l:List RawD) (fs:List Fd) (hd:(fs.map (fun f:Fd=>f.name)).Nodup) (hm:∀ f,f∈fs↔f∈(mQ l).fields) (hl:fs.length≤14):OkFs fs :=
 ⟨fun f hf=>form_okF l fs hd (fun g hg=>(hm g).2 (form_mem.2 hg)) f (form_mem.1 ((hm f).1 hf)),hd,hl⟩
end Go.Proofs.YthckljafinhepaaGreat
namespace Go.Proofs.YthckljafinhepaaGreat
open Go.RowKit
def smallX:Ex:=.mk 8 0 0 ⟨#[]⟩ ⟨#[]⟩ [.mk 2 0 0 ⟨#[]⟩ ⟨#[97]⟩ [],.mk 1 1 1 ⟨#[]⟩ ⟨#[]⟩ []]
def smallB:Ex:=.mk 2 0 0 ⟨#[]⟩ ⟨#[98]⟩ []
def smallF:Fm:=⟨[⟨⟨#[98]⟩,2,1,smallX⟩,⟨⟨#[97]⟩,1,1,zE⟩,⟨⟨#[99]⟩,3,3,smallB⟩],[⟨⟨#[112,49]⟩,[⟨#[97]⟩],zE⟩,⟨⟨#[112,50]⟩,[⟨#[99]⟩],zE⟩]⟩
theorem small_any (h:Vw):C0 Tryz.prog 45 #[] h (fun v h'=>∃ A c B d,v=.agg #[.slice A 3 c,.slice B 2 d]∧IsForm h' (.slice A 3 c) (.slice B 2 d) smallF):=by
 refine fY Tryz.func45 (c:=Tryz.f45.body.getD .skip) (N:=19) ?_
 intro hbx hbad Q hQ a w hJ
 refine rx' hJ true 34 [.own,.fix,.own,.b 0 0,.b 0 0,.fix,.fix,.fix,.fix,.b 1 0] [] (.new fun b1=>.new fun bx=>.new fun b2=>.new fun bf=>.new fun bs=>.new fun bt=>.new fun bp=>.ok (.out .ret) [] [(0,Vp b1)] [.box b2 [Vi 8,Vi 0,Vi 0,Ve,Ve,Vs bx 2 2],.box b1 [Vs bf 3 3,Vs bp 2 2]] [(bp,0,[.string ⟨#[112,49]⟩,Vs bs 1 1,Vi 0,Vi 0,Vi 0,Ve,Ve,Vz,.string ⟨#[112,50]⟩,Vs bt 1 1,Vi 0,Vi 0,Vi 0,Ve,Ve,Vz]),(bt,0,[.string ⟨#[99]⟩]),(bs,0,[.string ⟨#[97]⟩]),(bf,0,[.string ⟨#[98]⟩,Vi 2,Vi 1,Vi 8,Vi 0,Vi 0,Ve,Ve,Vs bx 2 2,.string ⟨#[97]⟩,Vi 1,Vi 1,Vi 0,Vi 0,Vi 0,Ve,Ve,Vz,.string ⟨#[99]⟩,Vi 3,Vi 3,Vi 2,Vi 0,Vi 0,Ve,.string ⟨#[98]⟩,Vz]),(bx,0,[Vi 2,Vi 0,Vi 0,Ve,.string ⟨#[97]⟩,Vz,Vi 1,Vi 1,Vi 1,Ve,Ve,Vz])]) (fun b1 bx b2 bf bs bt bp _=>by kernel_rfl) ?_
 clear hJ a w; intro b1 bx b2 bf bs bt bp h3 a w s4 hJ
 have x:Cells h3 bx 0 [Vi 2,Vi 0,Vi 0,Ve,.string ⟨#[97]⟩,Vz,Vi 1,Vi 1,Vi 1,Ve,Ve,Vz]:=hJ.f _ (List.mem_of_getElem? (i:=4) rfl)
 have f:Cells h3 bf 0 [.string ⟨#[98]⟩,Vi 2,Vi 1,Vi 8,Vi 0,Vi 0,Ve,Ve,Vs bx 2 2,.string ⟨#[97]⟩,Vi 1,Vi 1,Vi 0,Vi 0,Vi 0,Ve,Ve,Vz,.string ⟨#[99]⟩,Vi 3,Vi 3,Vi 2,Vi 0,Vi 0,Ve,.string ⟨#[98]⟩,Vz]:=hJ.f _ (List.mem_of_getElem? (i:=3) rfl)
 have s:Cells h3 bs 0 [.string ⟨#[97]⟩]:=hJ.f _ (List.mem_of_getElem? (i:=2) rfl)
 have t:Cells h3 bt 0 [.string ⟨#[99]⟩]:=hJ.f _ (List.mem_of_getElem? (i:=1) rfl)
 have p:Cells h3 bp 0 [.string ⟨#[112,49]⟩,Vs bs 1 1,Vi 0,Vi 0,Vi 0,Ve,Ve,Vz,.string ⟨#[112,50]⟩,Vs bt 1 1,Vi 0,Vi 0,Vi 0,Ve,Ve,Vz]:=hJ.f _ (List.mem_of_getElem? (i:=0) rfl)
 refine gY (hQ [.agg #[Vs bf 3 3,Vs bp 2 2]] _ [] hJ (.rcel hJ.j 1 .nil) (fJ _) rfl ?_).1
 have N:∀ x:Ex,x.args=[]→IsArgs ⟨w,h.bad⟩ x (.slice none 0 0):=args_nil _
 have cx:Cells ⟨w,h.bad⟩ bx 0 (sK smallX.args [.slice none 0 0,.slice none 0 0]).flatten:=(hJ.f _ (List.mem_of_getElem? (i:=4) rfl)).sees hJ.j.out
 have cf:Cells ⟨w,h.bad⟩ bf 0 (aQ smallF.fields [.slice (some ⟨bx,0,none⟩) 2 2,.slice none 0 0,.slice none 0 0]).flatten:=(hJ.f _ (List.mem_of_getElem? (i:=3) rfl)).sees hJ.j.out
 have cs:Cells ⟨w,h.bad⟩ bs 0 (sX [⟨#[97]⟩]).flatten:=(hJ.f _ (List.mem_of_getElem? (i:=2) rfl)).sees hJ.j.out
 have ct:Cells ⟨w,h.bad⟩ bt 0 (sX [⟨#[99]⟩]).flatten:=(hJ.f _ (List.mem_of_getElem? (i:=1) rfl)).sees hJ.j.out
 have cp:Cells ⟨w,h.bad⟩ bp 0 (kW smallF.pages [.slice (some ⟨bs,0,none⟩) 1 1,.slice (some ⟨bt,0,none⟩) 1 1] [.slice none 0 0,.slice none 0 0]).flatten:=(hJ.f _ (List.mem_of_getElem? (i:=0) rfl)).sees hJ.j.out
 have rx:=rs_cells (k:=6) (sK smallX.args [.slice none 0 0,.slice none 0 0]) (fun r hr=>by simp [smallX,Ex.args] at hr; rcases hr with rfl | rfl <;> rfl) (show (2:Nat)≤maxLen by decide) cx
 have rf:=rs_cells (k:=9) (aQ smallF.fields [.slice (some ⟨bx,0,none⟩) 2 2,.slice none 0 0,.slice none 0 0]) (fun r hr=>by simp [smallF,aQ] at hr; rcases hr with rfl | rfl | rfl <;> rfl) (show (3:Nat)≤maxLen by decide) cf
 have rs:=rs_cells (k:=1) (sX [⟨#[97]⟩]) (fun r hr=>by simp at hr; rw [hr]; rfl) (by decide) cs
 have rt:=rs_cells (k:=1) (sX [⟨#[99]⟩]) (fun r hr=>by simp at hr; rw [hr]; rfl) (by decide) ct
 have rp:=rs_cells (k:=8) (kW smallF.pages [.slice (some ⟨bs,0,none⟩) 1 1,.slice (some ⟨bt,0,none⟩) 1 1] [.slice none 0 0,.slice none 0 0]) (fun r hr=>by simp [smallF,kW] at hr; rcases hr with rfl | rfl <;> rfl) (show (2:Nat)≤maxLen by decide) cp
 have nil0:AllArgs ⟨w,h.bad⟩ [] []:=by unfold AllArgs; rfl
 have one:∀ {x:Ex} {l:List Ex} {u:Value} {us:List Value},IsArgs ⟨w,h.bad⟩ x u→AllArgs ⟨w,h.bad⟩ l us→AllArgs ⟨w,h.bad⟩ (x :: l) (u :: us):=fun a b=>by unfold AllArgs; exact ⟨_,_,rfl,a,b⟩
 have ax:IsArgs ⟨w,h.bad⟩ smallX (.slice (some ⟨bx,0,none⟩) 2 2):=IsArgs.mk rx (one (N _ rfl) (one (N _ rfl) nil0))
 exact ⟨some ⟨bf,0,none⟩,3,some ⟨bp,0,none⟩,2,rfl,⟨_,rf,one ax (one (N _ rfl) (one (N smallB rfl) nil0))⟩,⟨_,_,rp,⟨_,_,rfl,rs,_,_,rfl,rt,rfl⟩,one (N _ rfl) (one (N _ rfl) nil0)⟩⟩
end Go.Proofs.YthckljafinhepaaGreat
namespace Go.Proofs.YthckljafinhepaaGreat
open Go.RowKit
set_option linter.unusedVariables false
theorem ofc_any (x:Int) (h:Vw):C0 Tryz.prog 120 #[.int .i64 x] h (fun r _=>r=.bool (decide (x < 0))):=by
 refine fY Tryz.func120 (c:=Tryz.f120.body.getD .skip) (N:=5) ?_
 intro hbx hbad Q hQ a w hJ
 refine rx' hJ false 13 [] [] (.ok (.out .ret) [] [(2,.bool (decide (x < 0)))] [] []) (fun _=>by kernel_rfl) ?_
 clear hJ a w; intro a w hJ
 refine gY (hQ [.bool (decide (x < 0))] _ [] hJ (.rtm hJ.j .nil) (fJ _) rfl ?_).1
 exact rfl
theorem rk_row {l:List Int} {k:Nat} {x:Int} (h:l[k]?=some x):(zW l)[k]?=some [.int .i64 x]:=by show (l.map _)[k]?=_; rw [List.getElem?_map,h]; rfl
theorem idxI_any (l:List Int) (A:Option Addr) (cap:Nat) (h:Vw) (hr:RS h 1 (.slice A l.length cap) (zW l)) (hl:l.length≤1000000) (hn:∀ x∈l,0≤x) :
  C0 Tryz.prog 103 #[.slice A l.length cap,.func (.func 120) #[] #[]] h (fun r _=>r=.int .i64 (-1)):=by
 generalize hL:l.length=len at *
 refine fY Tryz.func103 (c:=Tryz.f103.body.getD .skip) (N:=19) ?_
 intro hbx hbad Q hQ a w hJ
 refine rk' hJ false 14 [] [] (.k (.code [0,1,0,1]) [.block 0,.seq [1,1]] [0,1] [(7,Vi (len:Int)),(8,Vi 0)]) ?_
 clear hJ a w; intro a w hJ
 refine kY (fun (k:Nat) a w=>∃ (h1:Vw) ,K ⟨19,h.w,h.bad,[]⟩ [(0,.slice A len cap),(1,.func (.func 120) #[] #[]),(7,Vi (len:Int)),(8,Vi (k:Int))] [] [] h1 a w∧Sees h h1∧(k≤len)) (fun k=>len - k) (0) ⟨h,hJ.tw,Sees.refl _,Nat.zero_le _⟩ ?_
 clear hJ a w; rintro k a w ⟨h1,hJ,s2,hk⟩
 refine rk' hJ false 6 [] [] (.k (.code [0,1,0,0,1,0,1]) [.seq [1,1,0,0,1,0,1]] [0,1,7,8] [(9,.bool (decide ((k:Int) < (len:Int))))]) ?_
 clear hJ a w; intro a w hJ
 rcases (by omega:k < len∨k=len) with hlt | hke
 ·obtain ⟨x,hxk⟩:∃ x,l[k]?=some x:=⟨_,List.getElem?_eq_getElem (by omega)⟩
  have hrow:=rk_row hxk
  have hx0:=hn x (List.mem_of_getElem? hxk)
  have hof:=fun H=>ofc_any x H
  rw [show decide (x < 0)=false from decide_eq_false (by omega)] at hof
  refine qY hJ (t:=decide ((k:Int) < (len:Int))) (decide_eq_true (by omega)) ?_
  refine rk' hJ false 15 [] [] (.k (.ops [0,1,0,0,1,1,0,0,1,0,1] 3) [.seq [1,1,0,0,1,1,0,0,1,0,1],.block 1,.seq [1,1,1,0,0,1,0,1]] [0,1,7,8] [(5,Vi (k:Int)),(11,.func (.func 120) #[] #[]),(12,.slice A len cap),(13,Vi (k:Int))]) ?_
  clear hJ a w; intro a w hJ
  obtain ⟨b3,o4,rfl,-,c5⟩:=RS.row hr (hrow)
  replace hJ:=hJ.fact (c5.sees s2)
  refine rk' hJ false 13 [.ix b3 o4 len cap k,.f 0 0,.cl 120 #[Vi x] (.bool false)] [(18,Vi (IntKind.i64.wrap ((k:Int) + 1)),Vi ((k:Int) + 1))] (.k (.out .normal) [] [0,1,7] [(8,Vi ((k:Int) + 1))]) (ho:=And.intro (by first | omega | (simp; omega)) (And.intro (fun H sH=>hof _) (trivial))) (hc:=And.intro (kJ (by omega) (by omega)) (trivial)) ?_
  clear hJ a w; intro a w hJ
  exact pY ⟨k + 1,⟨h1,(hJ.tof [] (F':=[]) (by kernel_rfl)).to (by kernel_rfl) (by kernel_rfl) rfl,s2,by omega⟩,by omega⟩
 ·skip
  refine iY hJ (t:=decide ((k:Int) < (len:Int))) (decide_eq_false (by omega)) ?_
  refine rx' hJ false 2 [] [] (.ok (.out (.exit 0)) [] [] [] []) (fun _=>by kernel_rfl) ?_
  clear hJ a w; intro a w hJ
  refine jY rfl ?_
  refine rx' hJ false 8 [] [] (.ok (.out .ret) [] [(4,Vi (-1))] [] []) (fun _=>by kernel_rfl) ?_
  clear hJ a w; intro a w hJ
  refine gY (hQ [Vi (-1)] _ [] hJ (.rtm hJ.j .nil) (fJ _) rfl ?_).1
  exact rfl
theorem cfI_any (l:List Int) (A:Option Addr) (cap:Nat) (h:Vw) (hr:RS h 1 (.slice A l.length cap) (zW l)) (hl:l.length≤1000000) (hn:∀ x∈l,0≤x) :
  C0 Tryz.prog 78 #[.slice A l.length cap,.func (.func 120) #[] #[]] h (fun r _=>r=.bool false):=by
 have hi:=fun H q=>idxI_any l A cap H q hl hn
 refine fY Tryz.func78 (c:=Tryz.f78.body.getD .skip) (N:=9) ?_
 intro hbx hbad Q hQ a w hJ
 refine rx' hJ false 15 [.cl 103 #[.slice A l.length cap,.func (.func 120) #[] #[]] (Vi (-1))] [] (.ok (.out .ret) [] [(4,.bool false)] [] []) (ho:=And.intro (fun H sH=>hi _ (hr.sees sH)) (trivial)) (fun _=>by kernel_rfl) ?_
 clear hJ a w; intro a w hJ
 refine gY (hQ [.bool false] _ [] hJ (.rtm hJ.j .nil) (fJ _) rfl ?_).1
 exact rfl
theorem mem_getD {l:List Int} {x:Int} (h:x∈l):∃ i,i < l.length∧x=l.getD i 0:=by
 obtain ⟨i,hi,e⟩:=List.mem_iff_getElem.1 h
 exact ⟨i,hi,by rw [List.getD_eq_getElem?_getD,List.getElem?_eq_getElem hi,e]; rfl⟩
theorem rankOf_any (fs:List Fd) (fv:Value) (h:Vw) (hok:OkFs fs) (hfs:IsFds h fv fs) (ρ:List Int) (lv:Nat→Nat) (hρ:Ranked (qV fs) ρ lv) :
  C0 Tryz.prog 92 #[fv] h (fun r h'=>∃ b,r=.tuple #[.slice (some ⟨b,0,none⟩) fs.length fs.length,.slice none 0 0,.int .i64 0]∧RS h' 1 (.slice (some ⟨b,0,none⟩) fs.length fs.length) (zW ρ)):=by
 have few:=hok.few
 have hck:=fun H q=>check_fields fs fv H hok q
 have hne:=fun H q=>needs_any fs fv H hok q
 have hnl:(qV fs).length=fs.length:=by unfold qV; rw [List.length_map]
 have hb:∀ l∈qV fs,l.length≤1000∧∀ k∈l,k < (qV fs).length:=fun l hl=>by
  obtain ⟨i,hi⟩:=List.mem_iff_getElem?.1 hl
  have hil:=(List.getElem?_eq_some_iff.1 hi).1
  have hg:(qV fs).getD i []=l:=by rw [List.getD_eq_getElem?_getD,hi]; rfl
  refine ⟨?_,fun k hk=>(hρ.low i hil k (by rw [hg]; exact hk)).1⟩
  obtain ⟨f,hf,rfl⟩:=List.mem_map.1 hl
  unfold needE
  split
  ·simp
  ·rename_i g
   obtain ⟨-,w2,-⟩:=(hok.each f hf).wf g
   have:=Nat.le_trans (namesE_len f.src) (refs_le f.src)
   rw [List.length_map]; omega
 have hrk:=fun A cap us H q1 q2=>ranks_any (qV fs) A cap us H q1 q2 (by omega) hb
 rw [ranks_true hρ,hnl] at hrk
 have hρl:ρ.length=fs.length:=hρ.len.trans hnl
 have hnn:∀ x∈ρ,0≤x:=fun x hx=>by
  obtain ⟨i,hi,rfl⟩:=mem_getD hx
  exact rank_nn hρ (by have:=hρ.len; omega)
 have hcf:=fun b H q=>cfI_any ρ (some ⟨b,0,none⟩) fs.length H q (by omega) hnn
 rw [hρl] at hcf
 obtain ⟨-,A,c,rfl,-,-,-,-,-,-⟩:=dQ hfs
 generalize qV fs=need at *
 generalize hL:fs.length=len at *
 refine fY Tryz.func92 (c:=Tryz.f92.body.getD .skip) (N:=42) ?_
 intro hbx hbad Q hQ a w hJ
 refine rk' hJ false 27 [.cl 118 #[.slice A len c] (Vi 0)] [] (.k (.ops [0,1,1] 1) [.seq [1,1,1]] [0] [(16,.slice A len c)]) (ho:=And.intro (fun H sH=>hck _ (hfs.sees sH)) (trivial)) ?_
 clear hJ a w; intro a w hJ
 refine dY hJ 17 (hne _ (hfs.sees hJ.j.sees)) (fun _=>by kernel_rfl) ?_; clear hJ a w; rintro _ h1 a w s2 ⟨An,cn,us,rfl,hrn,hna⟩ hJ
 refine rk' hJ false 6 [] [] (.k (.ops [0,1,1,1] 1) [.seq [1,1,1,1]] [0] [(6,.slice An len cn),(18,.slice An len cn)]) ?_
 clear hJ a w; intro a w hJ
 refine dY hJ 19 (hrk _ _ us _ (hrn.sees hJ.j.sees) (hna.sees hJ.j.sees)) (fun _=>by kernel_rfl) ?_; clear hJ a w; rintro _ h3 a w s4 ⟨b,rfl,hro⟩ hJ
 refine rk' hJ false 7 [] [] (.k (.ops [0,0,1,1,1,1] 1) [.seq [1,0,1,1,1,1],.seq [1,1,1,1,1]] [0,6] [(7,Vs b len len),(20,Vs b len len)]) ?_
 clear hJ a w; intro a w hJ
 refine rx' hJ false 15 [.cl 78 #[Vs b len len,.func (.func 120) #[] #[]] (.bool false)] [] (.ok (.out .ret) [] [(2,Vs b len len),(3,Vz),(4,Vi 0)] [] []) (ho:=And.intro (fun H sH=>hcf b _ (hro.sees sH)) (trivial)) (fun _=>by kernel_rfl) ?_
 clear hJ a w; intro a w hJ
 refine gY (hQ [Vs b len len,Vz,Vi 0] _ [] hJ (.rtm hJ.j (.rtm hJ.j (.rtm hJ.j .nil))) (fJ _) rfl ?_).1
 exact ⟨b,rfl,(hro.sees hJ.j.out)⟩
end Go.Proofs.YthckljafinhepaaGreat
namespace Go.Proofs.YthckljafinhepaaGreat
open Go.RowKit
set_option linter.unusedVariables false
def xQ (fs:List Fd) (l:List RawD):Nat→Env × Nat
 | 0=>([],0)
 | k + 1=>((xQ fs l k).1++(match fs[k]? with
   | some f=>if f.kind=1∧0 < cJ (aJ l (xQ fs l k).2).k 4 then [(f.name,valR f.ty (aJ l (xQ fs l k).2))] else []
   | none=>[]),bJ l (xQ fs l k).2)
def inpE (fs:List Fd) (l:List RawD):Env:=(xQ fs l fs.length).1
theorem inpF_le (fs:List Fd) (l:List RawD):∀ k,(xQ fs l k).2≤k∧(xQ fs l k).1.length≤k
 | 0=>⟨Nat.le_refl _,Nat.le_refl _⟩
 | k + 1=>by
  obtain ⟨h1,h2⟩:=inpF_le fs l k
  have h3:=yJ l (xQ fs l k).2
  refine ⟨by show bJ l (xQ fs l k).2≤_; omega,?_⟩
  show ((xQ fs l k).1++_).length≤_
  rw [List.length_append]
  have:(match fs[k]? with
   | some f=>if f.kind=1∧0 < cJ (aJ l (xQ fs l k).2).k 4 then [(f.name,valR f.ty (aJ l (xQ fs l k).2))] else []
   | none=>([]:Env)).length≤1:=by
   split
   ·split <;> simp
   ·simp
  exact Nat.add_le_add h2 this
theorem inpF_yes {fs:List Fd} {l:List RawD} {k:Nat} {f:Fd} (hf:fs[k]?=some f) (h1:f.kind=1) (h2:0 < cJ (aJ l (xQ fs l k).2).k 4):(xQ fs l (k + 1)).1=(xQ fs l k).1++[(f.name,valR f.ty (aJ l (xQ fs l k).2))]:=by
 show (xQ fs l k).1++_=_
 rw [hf]
 simp only
 rw [if_pos ⟨h1,h2⟩]
theorem inpF_no {fs:List Fd} {l:List RawD} {k:Nat} {f:Fd} (hf:fs[k]?=some f) (h:¬ (f.kind=1∧0 < cJ (aJ l (xQ fs l k).2).k 4)):(xQ fs l (k + 1)).1=(xQ fs l k).1:=by
 show (xQ fs l k).1++_=_
 rw [hf]
 simp only
 rw [if_neg h,List.append_nil]
theorem inpF_each {fs:List Fd} {l:List RawD}:∀ k,k≤fs.length→∀ p∈(xQ fs l k).1,∃ i f r,i < k∧fs[i]?=some f∧f.kind=1∧p=(f.name,valR f.ty r)
 | 0,_,p,hp=>by cases hp
 | k + 1,hk,p,hp=>by
  obtain ⟨f,hf⟩:∃ f,fs[k]?=some f:=⟨_,List.getElem?_eq_getElem (by omega)⟩
  by_cases h:f.kind=1∧0 < cJ (aJ l (xQ fs l k).2).k 4
  ·rw [inpF_yes hf h.1 h.2] at hp
   rcases List.mem_append.1 hp with hp | hp
   ·obtain ⟨i,g,r,h1,h2⟩:=inpF_each k (by omega) p hp
    exact ⟨i,g,r,by omega,h2⟩
   ·exact ⟨k,f,_,by omega,hf,h.1,List.mem_singleton.1 hp⟩
  ·rw [inpF_no hf h] at hp
   obtain ⟨i,g,r,h1,h2⟩:=inpF_each k (by omega) p hp
   exact ⟨i,g,r,by omega,h2⟩
theorem inpF_nodup {fs:List Fd} {l:List RawD} (hd:(fs.map (fun f:Fd=>f.name)).Nodup):∀ k,k≤fs.length→((xQ fs l k).1.map (·.1)).Nodup
 | 0,_=>List.nodup_nil
 | k + 1,hk=>by
  obtain ⟨f,hf⟩:∃ f,fs[k]?=some f:=⟨_,List.getElem?_eq_getElem (by omega)⟩
  have ih:=inpF_nodup (l:=l) hd k (by omega)
  by_cases h:f.kind=1∧0 < cJ (aJ l (xQ fs l k).2).k 4
  ·rw [inpF_yes hf h.1 h.2,List.map_append,List.nodup_append]
   refine ⟨ih,by simp,fun a ha b hb e=>?_⟩
   obtain ⟨p,hp,rfl⟩:=List.mem_map.1 ha
   obtain ⟨i,g,r,h1,h2,-,rfl⟩:=inpF_each k (by omega) p hp
   have hb:=List.mem_singleton.1 hb
   simp only at e hb
   have q1:(fs.map (fun f:Fd=>f.name))[i]?=some f.name:=by rw [List.getElem?_map,h2]; simp [e,hb]
   have q2:(fs.map (fun f:Fd=>f.name))[k]?=some f.name:=by rw [List.getElem?_map,hf]; rfl
   have:=(List.getElem?_inj (by rw [List.length_map]; omega) hd).1 (q1.trans q2.symm)
   omega
  ·rw [inpF_no hf h]; exact ih
set_option maxHeartbeats 4000000 in
theorem inputs_any (fs:List Fd) (pv:Value) (fv:Value) (l:List RawD) (sl:Value) (h:Vw) (hf:IsFds h fv fs) (hpv:.slice (sA pv) (sN pv) (sC pv)=pv) (hfl:fs.length≤100) (hty:∀ f∈fs,1≤f.ty∧f.ty≤3) (hl:RS h 4 sl (l.map RawD.cs)) (ll:l.length * 40≤reachBytes) (ol:∀ r∈l,r.ok) :
  CRow Tryz.prog 16 #[.agg #[fv,pv],sl] h 54 7 (fun v rows=>rows=zK (inpE fs l)):=by
 obtain ⟨vs,A,c,rfl,-,-,hr,-,hvl,hsl⟩:=dQ hf
 have hP:=fun n H=>cK n 4 H
 have hV:=fun k r H=>c_value k r H
 have he:inpE fs l=(xQ fs l fs.length).1:=rfl
 rw [he]
 clear he
 obtain ⟨A0,c0,rfl,-,-,-⟩:=hl.form
 rw [List.length_map] at *
 rw [← hpv]
 generalize hL:fs.length=len at *
 refine fY Tryz.func16 (c:=Tryz.f16.body.getD .skip) (N:=43) ?_
 intro hbx hbad Q hQ a w hJ
 refine rx' hJ false 29 [.own,.own,.b 1 0] [] (.new fun b1=>.new fun bg=>.ok (.code [0,1,0,1,1,1]) [.block 0,.seq [1,1,1,1]] [(5,Vp bg),(6,Vz),(14,.slice A len c),(15,Vi (len:Int)),(16,Vi 0)] [.box bg [.slice A0 l.length c0,Vi 0],.box b1 [.slice A len c,.slice (sA pv) (sN pv) (sC pv)]] []) (fun b1 bg _=>by kernel_rfl) ?_
 clear hJ a w; intro b1 bg a w hJ
 replace hJ:=hJ.nilrow 54 7
 refine kY (fun (k:Nat) a w=>∃ (h2:Vw) (v:Value),K ⟨43,h.w,h.bad,[]⟩ [(5,Vp bg),(14,.slice A len c),(15,Vi (len:Int)),(16,Vi (k:Int)),(6,v)] [.row v 54 7 (zK (xQ fs l k).1),.box bg [.slice A0 l.length c0,Vi (((xQ fs l k).2:Nat):Int)],.box b1 [.slice A len c,.slice (sA pv) (sN pv) (sC pv)]] [] h2 a w∧Sees h h2∧(k≤len)) (fun k=>len - k) (0) ⟨h,(Vz),hJ.tw,Sees.refl _,Nat.zero_le _⟩ ?_
 clear hJ a w; rintro k a w ⟨h2,v,hJ,s3,hk⟩
 refine rk' hJ false 6 [] [] (.k (.code [0,1,0,0,1,0,1,1,1]) [.seq [1,1,0,0,1,0,1,1,1]] [5,14,15,16,6] [(17,.bool (decide ((k:Int) < (len:Int))))]) ?_
 clear hJ a w; intro a w hJ
 rcases (by omega:k < len∨k=len) with hlt | hke
 ·obtain ⟨f,hfk⟩:∃ f,fs[k]?=some f:=⟨_,List.getElem?_eq_getElem (by omega)⟩
  obtain ⟨u,huk⟩:∃ u,vs[k]?=some u:=⟨_,List.getElem?_eq_getElem (by omega)⟩
  have hrow:(aQ fs vs)[k]?=some (fdRow f (.slice (sA u) (sN u) (sC u))):=by rw [hsl u (List.mem_of_getElem? huk)]; exact bQ hfk huk
  obtain ⟨t1,t2⟩:=hty f (List.mem_of_getElem? hfk)
  obtain ⟨le1,le2⟩:=inpF_le fs l k
  have rok:=rawAt_ok ol (xQ fs l k).2
  obtain ⟨⟨rk0,rk1⟩,-,-,-⟩:=rawAt_ok ol (xQ fs l k).2
  have hyes := @inpF_yes fs l k f hfk
  have hno := @inpF_no fs l k f hfk
  have h2:(xQ fs l (k + 1)).2=bJ l (xQ fs l k).2:=rfl
  have hvr:∀ r,valR f.ty r=⟨f.ty,wX f.ty r.k r.a,valS f.ty r.t⟩:=fun _=>rfl
  refine qY hJ (t:=decide ((k:Int) < (len:Int))) (decide_eq_true (by omega)) ?_
  refine rk' hJ false 6 [] [] (.k (.ops [0,0,0,1,1,0,0,1,0,1,1,1] 0) [.seq [1,0,0,1,1,0,0,1,0,1,1,1],.block 1,.seq [1,1,1,0,0,1,0,1,1,1]] [5,14,15,16,6] []) ?_
  clear hJ a w; intro a w hJ
  obtain ⟨b4,o5,rfl,-,c6⟩:=RS.row hr (hrow)
  replace hJ:=hJ.fact (c6.sees s3)
  refine rk hJ false 9 [.ix b4 o5 len c k,.f 0 0,.own,.b 0 0] [] (.new fun b7=>.f (.ops [0,1,0,0,1,1,0,0,1,0,1,1,1] 1) [.seq [1,1,0,0,1,1,0,0,1,0,1,1,1],.block 1,.seq [1,1,1,0,0,1,0,1,1,1]] [5,14,15,16,6] [(8,Vp b7),(20,Vp bg)] [.box b7 [.string f.name,Vi f.kind,Vi f.ty,Vi f.src.op,Vi f.src.k,Vi f.src.n,.string f.src.s,.string f.src.nm,.slice (sA u) (sN u) (sC u)],.row v 54 7 (zK (xQ fs l k).1),.box bg [.slice A0 l.length c0,Vi (((xQ fs l k).2:Nat):Int)],.box b1 [.slice (some ⟨b4,o5,none⟩) len c,.slice (sA pv) (sN pv) (sC pv)]] [.o 0]) (And.intro (by first | omega | (simp; omega)) (trivial)) trivial (fun b7 _=>by kernel_rfl) ?_
  clear hJ a w; intro b7 a w hJ
  refine eY hJ 21 2 (vQ bg l (.slice A0 l.length c0) (xQ fs l k).2 _ (hl.sees (s3.trans hJ.j.sees)) (by omega) ll) ?_; clear hJ a w; rintro _ _ h8 a w s9 ⟨rfl,rfl⟩ hJ
  refine rk' hJ false 10 [.own,.b 0 0,.b 1 1] [] (.new fun b10=>.f (.ops [0,1,1,0,0,1,1,0,0,1,0,1,1,1] 4) [.seq [1,1,1,0,0,1,1,0,0,1,0,1,1,1],.block 1,.seq [1,1,1,0,0,1,0,1,1,1]] [5,14,15,16,6,8] [(9,Vp b10),(25,.bool (f.kind == 1))] [.box b10 [Vi ((aJ l (xQ fs l k).2).k),Vi ((aJ l (xQ fs l k).2).a),Vi ((aJ l (xQ fs l k).2).b),.string ((aJ l (xQ fs l k).2).t)],.box b7 [.string f.name,Vi f.kind,Vi f.ty,Vi f.src.op,Vi f.src.k,Vi f.src.n,.string f.src.s,.string f.src.nm,.slice (sA u) (sN u) (sC u)],.row v 54 7 (zK (xQ fs l k).1),.box bg [.slice A0 l.length c0,Vi ((bJ l (xQ fs l k).2:Nat):Int)],.box b1 [.slice (some ⟨b4,o5,none⟩) len c,.slice (sA pv) (sN pv) (sC pv)]] [.o 0]) (hr:=fun b10 _=>by kernel_rfl) ?_
  clear hJ a w; intro b10 a w hJ
  by_cases h1:f.kind=1
  ·replace hJ:=hJ.rew 25 (v:=.bool (f.kind == 1)) (v':=.bool true) (congrArg Value.bool (beq_iff_eq.2 h1)) (by kernel_rfl)
   replace hJ:K ⟨43,h.w,h.bad,[]⟩ [(5,Vp bg),(14,.slice (some ⟨b4,o5,none⟩) len c),(15,Vi (len:Int)),(16,Vi (k:Int)),(6,v),(8,Vp b7),(9,Vp b10),(25,.bool true)] [.box b10 [Vi ((aJ l (xQ fs l k).2).k),Vi ((aJ l (xQ fs l k).2).a),Vi ((aJ l (xQ fs l k).2).b),.string ((aJ l (xQ fs l k).2).t)],.box b7 [.string f.name,Vi f.kind,Vi f.ty,Vi f.src.op,Vi f.src.k,Vi f.src.n,.string f.src.s,.string f.src.nm,.slice (sA u) (sN u) (sC u)],.row v 54 7 (zK (xQ fs l k).1),.box bg [.slice A0 l.length c0,Vi ((bJ l (xQ fs l k).2:Nat):Int)],.box b1 [.slice (some ⟨b4,o5,none⟩) len c,.slice (sA pv) (sN pv) (sC pv)]] [(b4,o5 + k * 9,[.string f.name,Vi f.kind,Vi f.ty,Vi f.src.op,Vi f.src.k,Vi f.src.n,.string f.src.s,.string f.src.nm,.slice (sA u) (sN u) (sC u)])] h8 a w:=hJ.to (by kernel_rfl) rfl rfl
   refine rk' hJ false 7 [.b 0 0,.cl 24 #[Vi ((aJ l (xQ fs l k).2).k),Vi 4] (Vi (cJ (aJ l (xQ fs l k).2).k 4))] [] (.k (.code [1,1,1,0,0,1,1,0,0,1,0,1,1,1]) [.block 1,.seq [1,1,1,0,0,1,0,1,1,1]] [5,14,15,16,6,8,9] [(30,.bool (decide ((cJ (aJ l (xQ fs l k).2).k 4) > 0)))]) (ho:=And.intro (fun H sH=>hP _ _ rk0 rk1 (by omega) (by omega)) (trivial)) ?_
   clear hJ a w; intro a w hJ
   by_cases hq:0 < cJ (aJ l (xQ fs l k).2).k 4
   ·skip
    refine qY hJ (t:=decide ((cJ (aJ l (xQ fs l k).2).k 4) > 0)) (decide_eq_true hq) ?_
    let R:Reg:=⟨⟨43,h.w,h.bad,[]⟩,[(0,31,fun gh=>v),(1,32,fun gh=>Vp b7),(2,33,fun gh=>.string f.name),(3,34,fun gh=>.pointer (some ⟨b7,2,none⟩)),(4,35,fun gh=>Vi f.ty),(5,36,fun gh=>.agg #[Vi ((aJ l (xQ fs l k).2).k),Vi ((aJ l (xQ fs l k).2).a),Vi ((aJ l (xQ fs l k).2).b),.string ((aJ l (xQ fs l k).2).t)]),(6,37,fun gh=>.agg #[Vi f.ty,Vi (wX f.ty (aJ l (xQ fs l k).2).k (aJ l (xQ fs l k).2).a),.string (valS f.ty (aJ l (xQ fs l k).2).t)]),(7,38,fun gh=>.agg #[.string f.name,Vi 0,Vi 0,Ve,Vi f.ty,Vi (wX f.ty (aJ l (xQ fs l k).2).k (aJ l (xQ fs l k).2).a),.string (valS f.ty (aJ l (xQ fs l k).2).t)]),(8,39,fun gh=>.slice (some ⟨(zJ (gh 8)),0,none⟩) 1 1),(9,40,fun gh=>.slice (sA (gh 9)) (sN (gh 9)) (sC (gh 9))),(10,6,fun gh=>.slice (sA (gh 9)) (sN (gh 9)) (sC (gh 9)))],[(5,Vp bg),(14,.slice (some ⟨b4,o5,none⟩) len c),(15,Vi (len:Int)),(16,Vi (k:Int)),(6,v),(8,Vp b7),(9,Vp b10),(30,.bool (decide ((cJ (aJ l (xQ fs l k).2).k 4) > 0)))],[⟨some (.box b10 [Vi ((aJ l (xQ fs l k).2).k),Vi ((aJ l (xQ fs l k).2).a),Vi ((aJ l (xQ fs l k).2).b),.string ((aJ l (xQ fs l k).2).t)]),[]⟩,⟨some (.box b7 [.string f.name,Vi f.kind,Vi f.ty,Vi f.src.op,Vi f.src.k,Vi f.src.n,.string f.src.s,.string f.src.nm,.slice (sA u) (sN u) (sC u)]),[]⟩,⟨some (.row v 54 7 (zK (xQ fs l k).1)),[(9,fun gh=>.row (.slice (sA (gh 9)) (sN (gh 9)) (sC (gh 9))) 54 7 ((zK (xQ fs l k).1)++[[.string f.name,Vi 0,Vi 0,Ve,Vi f.ty,Vi (wX f.ty (aJ l (xQ fs l k).2).k (aJ l (xQ fs l k).2).a),.string (valS f.ty (aJ l (xQ fs l k).2).t)]]))]⟩,⟨some (.box bg [.slice A0 l.length c0,Vi ((bJ l (xQ fs l k).2:Nat):Int)]),[]⟩,⟨some (.box b1 [.slice (some ⟨b4,o5,none⟩) len c,.slice (sA pv) (sN pv) (sC pv)]),[]⟩],[(8,fun gh hh=>Cells hh (zJ (gh 8)) 0 [.string f.name,Vi 0,Vi 0,Ve,Vi f.ty,Vi (wX f.ty (aJ l (xQ fs l k).2).k (aJ l (xQ fs l k).2).a),.string (valS f.ty (aJ l (xQ fs l k).2).t)])],[[],[],[1],[],[3],[],[3,4,5],[1,2,3,4,5,6],[1,2,3,4,5,6,7],[0,1,2,3,4,5,6,7,8],[0,1,2,3,4,5,6,7,8,9]],h8⟩
    have hmono:∀ zq∈R.F,∀ zx zh zi,Sees zh zi→zq.2 zx zh→zq.2 zx zi:=jV (fun _ _ _ s c=>c.sees s) (lJ)
    refine oY (by kernel_rfl) R hJ 11 [.pu,.pu,.ld 1 0,.pu,.ld 1 2,.ld 0 0,.cl,.pu,.cl,.cl,.pu] (by kernel_rfl) hmono (fun _ _ _=>by kernel_rfl) (fun hT hA=>?_) ?_
    ·clear hJ
     refine And.intro (rW hT hA hmono 37 (fun gh=>.agg #[Vi f.ty,Vi (wX f.ty (aJ l (xQ fs l k).2).k (aJ l (xQ fs l k).2).a),.string (valS f.ty (aJ l (xQ fs l k).2).t)]) [4,5] 6 34 (fun gh=>#[Vi f.ty,.agg #[Vi ((aJ l (xQ fs l k).2).k),Vi ((aJ l (xQ fs l k).2).a),Vi ((aJ l (xQ fs l k).2).b),.string ((aJ l (xQ fs l k).2).t)]]) (fun gh H sH fH lent=>hV f.ty _ _ t1 t2 rok)) ?_
     refine And.intro (r_fact hT hA hmono ⟨fun _ _=>by kernel_rfl,fun _ _=>by kernel_rfl,fun _ _=>by kernel_rfl⟩ 39 (fun g=>Vs g 1 1) [7] 8 (by kernel_rfl) (by kernel_rfl) (fun _=>by kernel_rfl) (fun gh=>[.string f.name,Vi 0,Vi 0,Ve,Vi f.ty,Vi (wX f.ty (aJ l (xQ fs l k).2).k (aJ l (xQ fs l k).2).a),.string (valS f.ty (aJ l (xQ fs l k).2).t)]) 54 (fun _ _=>by kernel_rfl) (fun gh zb zH zc zj zq zhq zhe=>own_fact (i:=8) (k:=0) (f:=fun gh hh=>Cells hh (zJ (gh 8)) 0 [.string f.name,Vi 0,Vi 0,Ve,Vi f.ty,Vi (wX f.ty (aJ l (xQ fs l k).2).k (aJ l (xQ fs l k).2).a),.string (valS f.ty (aJ l (xQ fs l k).2).t)]) (by kernel_rfl) (by kernel_rfl) zc zj zq zhq zhe)) ?_
     refine And.intro (r_append hT hA hmono ⟨fun _ _=>by kernel_rfl,fun _ _=>by kernel_rfl,fun _ _=>by kernel_rfl⟩ (by kernel_rfl) 40 [0,6,8] 9 (by kernel_rfl) (fun _=>by kernel_rfl) 2 ⟨some (.row v 54 7 (zK (xQ fs l k).1)),[(9,fun gh=>.row (.slice (sA (gh 9)) (sN (gh 9)) (sC (gh 9))) 54 7 ((zK (xQ fs l k).1)++[[.string f.name,Vi 0,Vi 0,Ve,Vi f.ty,Vi (wX f.ty (aJ l (xQ fs l k).2).k (aJ l (xQ fs l k).2).a),.string (valS f.ty (aJ l (xQ fs l k).2).t)]]))]⟩ (by kernel_rfl) (by kernel_rfl) (by kernel_rfl) (fun gh=>v) 28 54 7 (fun gh=>zK (xQ fs l k).1) (fun gh=>[[.string f.name,Vi 0,Vi 0,Ve,Vi f.ty,Vi (wX f.ty (aJ l (xQ fs l k).2).k (aJ l (xQ fs l k).2).a),.string (valS f.ty (aJ l (xQ fs l k).2).t)]]) (fun _=>by kernel_rfl) (fun _=>by kernel_rfl) (fun _ _=>by kernel_rfl) (.tmp 31) (.tmp 39) (by kernel_rfl) (by kernel_rfl) (fun gh=>(zJ (gh 8))) 1 1 (fun _=>by kernel_rfl) (fun _=>by kernel_rfl) 0 8 (fun gh hh=>Cells hh (zJ (gh 8)) 0 [.string f.name,Vi 0,Vi 0,Ve,Vi f.ty,Vi (wX f.ty (aJ l (xQ fs l k).2).k (aJ l (xQ fs l k).2).a),.string (valS f.ty (aJ l (xQ fs l k).2).t)]) (by kernel_rfl) (by kernel_rfl) (fun _ _ c=>c) Tryz.underlying28 (zv:=.agg #[Ve,Vi 0,Vi 0,Ve,Vi 0,Vi 0,Ve]) (bytes:=80) (by kernel_rfl) (by kernel_rfl) (fun _=>by kernel_rfl) (fun _=>by constructor <;> (simp; omega))) ?_
     trivial
    clear hJ a w; intro gh h13 a w sR hJ1 hF; have s14:Sees h8 h13:=sR; clear sR
    have hJ:K ⟨43,h.w,h.bad,[]⟩ [(5,Vp bg),(14,.slice (some ⟨b4,o5,none⟩) len c),(15,Vi (len:Int)),(16,Vi (k:Int)),(6,.slice (sA (gh 9)) (sN (gh 9)) (sC (gh 9)))] [.box b10 [Vi ((aJ l (xQ fs l k).2).k),Vi ((aJ l (xQ fs l k).2).a),Vi ((aJ l (xQ fs l k).2).b),.string ((aJ l (xQ fs l k).2).t)],.box b7 [.string f.name,Vi f.kind,Vi f.ty,Vi f.src.op,Vi f.src.k,Vi f.src.n,.string f.src.s,.string f.src.nm,.slice (sA u) (sN u) (sC u)],.row (.slice (sA (gh 9)) (sN (gh 9)) (sC (gh 9))) 54 7 ((zK (xQ fs l k).1)++[[.string f.name,Vi 0,Vi 0,Ve,Vi f.ty,Vi (wX f.ty (aJ l (xQ fs l k).2).k (aJ l (xQ fs l k).2).a),.string (valS f.ty (aJ l (xQ fs l k).2).t)]]),.box bg [.slice A0 l.length c0,Vi ((bJ l (xQ fs l k).2:Nat):Int)],.box b1 [.slice (some ⟨b4,o5,none⟩) len c,.slice (sA pv) (sN pv) (sC pv)]] [(b4,o5 + k * 9,[.string f.name,Vi f.kind,Vi f.ty,Vi f.src.op,Vi f.src.k,Vi f.src.n,.string f.src.s,.string f.src.nm,.slice (sA u) (sN u) (sC u)])] h13 a w:=hJ1.tw
    have f11:Cells h13 (zJ (gh 8)) 0 [.string f.name,Vi 0,Vi 0,Ve,Vi f.ty,Vi (wX f.ty (aJ l (xQ fs l k).2).k (aJ l (xQ fs l k).2).a),.string (valS f.ty (aJ l (xQ fs l k).2).t)]:=Reg.fact (i:=8) (f:=fun gh hh=>Cells hh (zJ (gh 8)) 0 [.string f.name,Vi 0,Vi 0,Ve,Vi f.ty,Vi (wX f.ty (aJ l (xQ fs l k).2).k (aJ l (xQ fs l k).2).a),.string (valS f.ty (aJ l (xQ fs l k).2).t)]) hF 0 (by kernel_rfl)
    replace hJ:=hJ.fact f11
    clear hJ1 hF hmono R
    generalize zJ (gh 8)=b12 at *
    generalize gh 9=v40 at *
    clear gh
    refine rk' hJ false 6 [] [(41,Vi (IntKind.i64.wrap ((k:Int) + 1)),Vi ((k:Int) + 1))] (.k (.out .normal) [] [5,14,15,6] [(16,Vi ((k:Int) + 1))]) (hc:=And.intro (kJ (by omega) (by omega)) (trivial)) ?_
    clear hJ a w; intro a w hJ
    replace hJ:=hJ.drop 1
    replace hJ:=hJ.drop 0
    exact pY ⟨k + 1,⟨h13,.slice (sA v40) (sN v40) (sC v40),(hJ.tof [] (F':=[]) (by kernel_rfl)).to (by kernel_rfl) (by rw [hyes h1 hq,fcRows_snoc,h2]; rfl) rfl,(s3.trans (s9.trans s14)),by omega⟩,by omega⟩
   ·skip
    refine iY hJ (t:=decide ((cJ (aJ l (xQ fs l k).2).k 4) > 0)) (decide_eq_false hq) ?_
    refine rk' hJ false 7 [] [(41,Vi (IntKind.i64.wrap ((k:Int) + 1)),Vi ((k:Int) + 1))] (.k (.out .normal) [] [5,14,15,6] [(16,Vi ((k:Int) + 1))]) (hc:=And.intro (kJ (by omega) (by omega)) (trivial)) ?_
    clear hJ a w; intro a w hJ
    replace hJ:=hJ.drop 1
    replace hJ:=hJ.drop 0
    exact pY ⟨k + 1,⟨h8,v,(hJ.tof [] (F':=[]) (by kernel_rfl)).to (by kernel_rfl) (by rw [hno (fun q=>hq q.2),h2]; rfl) rfl,(s3.trans s9),by omega⟩,by omega⟩
  ·skip
   replace hJ:=hJ.rew 25 (v:=.bool (f.kind == 1)) (v':=.bool false) (congrArg Value.bool (beq_eq_false_iff_ne.2 h1)) (by kernel_rfl)
   replace hJ:K ⟨43,h.w,h.bad,[]⟩ [(5,Vp bg),(14,.slice (some ⟨b4,o5,none⟩) len c),(15,Vi (len:Int)),(16,Vi (k:Int)),(6,v),(8,Vp b7),(9,Vp b10),(25,.bool false)] [.box b10 [Vi ((aJ l (xQ fs l k).2).k),Vi ((aJ l (xQ fs l k).2).a),Vi ((aJ l (xQ fs l k).2).b),.string ((aJ l (xQ fs l k).2).t)],.box b7 [.string f.name,Vi f.kind,Vi f.ty,Vi f.src.op,Vi f.src.k,Vi f.src.n,.string f.src.s,.string f.src.nm,.slice (sA u) (sN u) (sC u)],.row v 54 7 (zK (xQ fs l k).1),.box bg [.slice A0 l.length c0,Vi ((bJ l (xQ fs l k).2:Nat):Int)],.box b1 [.slice (some ⟨b4,o5,none⟩) len c,.slice (sA pv) (sN pv) (sC pv)]] [(b4,o5 + k * 9,[.string f.name,Vi f.kind,Vi f.ty,Vi f.src.op,Vi f.src.k,Vi f.src.n,.string f.src.s,.string f.src.nm,.slice (sA u) (sN u) (sC u)])] h8 a w:=hJ.to (by kernel_rfl) rfl rfl
   refine rk' hJ false 15 [] [(41,Vi (IntKind.i64.wrap ((k:Int) + 1)),Vi ((k:Int) + 1))] (.k (.out .normal) [] [5,14,15,6] [(16,Vi ((k:Int) + 1))]) (hc:=And.intro (kJ (by omega) (by omega)) (trivial)) ?_
   clear hJ a w; intro a w hJ
   replace hJ:=hJ.drop 1
   replace hJ:=hJ.drop 0
   exact pY ⟨k + 1,⟨h8,v,(hJ.tof [] (F':=[]) (by kernel_rfl)).to (by kernel_rfl) (by rw [hno (fun q=>h1 q.1),h2]; rfl) rfl,(s3.trans s9),by omega⟩,by omega⟩
 ·skip
  refine iY hJ (t:=decide ((k:Int) < (len:Int))) (decide_eq_false (by omega)) ?_
  refine rx' hJ false 2 [] [] (.ok (.out (.exit 0)) [] [(6,v)] [.row v 54 7 (zK (xQ fs l k).1),.box bg [.slice A0 l.length c0,Vi (((xQ fs l k).2:Nat):Int)],.box b1 [.slice A len c,.slice (sA pv) (sN pv) (sC pv)]] []) (fun _=>by kernel_rfl) ?_
  clear hJ a w; intro a w hJ
  refine jY rfl ?_
  refine rk' hJ false 9 [] [] (.k (.out .ret) [] [] [(4,v)]) ?_
  clear hJ a w; intro a w hJ
  have hown:=hJ.rowOwn (v:=v) (e:=54) (kk:=7) (l:=zK (xQ fs l k).1) 0 (by kernel_rfl)
  refine gY (hQ [v] _ [] hJ (.rtm hJ.j .nil) (fJ _) rfl ?_).1
  exact ⟨_,hown,by rw [hke]⟩
end Go.Proofs.YthckljafinhepaaGreat
namespace Go.Proofs.YthckljafinhepaaGreat
open Go.RowKit
set_option linter.unusedVariables false
def vK (fs:List Fd):Env→Env→Int
 | _,[]=>0
 | pre,p :: rest=>if toldE fs p.1 p.2.k=0 then (if pre.any (fun q=>q.1.toList == p.1.toList) then 6 else vK fs (pre++[p]) rest) else toldE fs p.1 p.2.k
theorem facts1_any (p:ByteArray × Vl) (b:Nat) (x:ByteArray × Vl) (h:Vw) (hc:Cells h b 0 (fcRow x)):C0 Tryz.prog 115 #[.agg #[.string p.1,.int .i64 0,.int .i64 0,.string ⟨#[]⟩,.int .i64 p.2.k,.int .i64 p.2.n,.string p.2.s],.pointer (some ⟨b,0,none⟩)] h (fun r _=>r=.bool (p.1.toList == x.1.toList)):=by
 refine fY Tryz.func115 (c:=Tryz.f115.body.getD .skip) (N:=9) ?_
 intro hbx hbad Q hQ a w hJ
 replace hJ:K ⟨9,h.w,h.bad,[]⟩ [(0,.agg #[.string p.1,Vi 0,Vi 0,Ve,Vi p.2.k,Vi p.2.n,.string p.2.s]),(1,Vp b)] [] [] h a w:=hJ.tw
 replace hJ:=hJ.fact (hc.sees (Sees.refl _))
 refine rk' hJ false 17 [.own,.b 0 0,.f 0 0] [] (.new fun b1=>.f (.out .ret) [] [] [(3,.bool (p.1.toList == x.1.toList))] [.box b1 [.string p.1,Vi 0,Vi 0,Ve,Vi p.2.k,Vi p.2.n,.string p.2.s]] [.o 0]) (hr:=fun b1 _=>by kernel_rfl) ?_
 clear hJ a w; intro b1 a w hJ
 refine gY (hQ [.bool (p.1.toList == x.1.toList)] _ [] hJ (.rtm hJ.j .nil) (fJ _) rfl ?_).1
 exact rfl
theorem idxFc_any (l:Env) (A:Option Addr) (cap:Nat) (b:Nat) (x:ByteArray × Vl) (h:Vw) (hr:RS h 7 (.slice A l.length cap) (zK l)) (hl:l.length≤1000000) (hc:Cells h b 0 (fcRow x)) :
  C0 Tryz.prog 68 #[.slice A l.length cap,.func (.func 115) #[] #[.pointer (some ⟨b,0,none⟩)]] h (fun r _=>r=.int .i64 (fidx (fun q:ByteArray × Vl=>q.1.toList == x.1.toList) l)):=by
 generalize hL:l.length=len at *
 refine fY Tryz.func68 (c:=Tryz.f68.body.getD .skip) (N:=19) ?_
 intro hbx hbad Q hQ a w hJ
 refine rk' hJ false 14 [] [] (.k (.code [0,1,0,1]) [.block 0,.seq [1,1]] [0,1] [(7,Vi (len:Int)),(8,Vi 0)]) ?_
 clear hJ a w; intro a w hJ
 refine kY (fun (k:Nat) a w=>∃ (h1:Vw) ,K ⟨19,h.w,h.bad,[]⟩ [(0,.slice A len cap),(1,.func (.func 115) #[] #[Vp b]),(7,Vi (len:Int)),(8,Vi (k:Int))] [] [] h1 a w∧Sees h h1∧(k≤len)∧(∀ y∈l.take k,(y.1.toList == x.1.toList)=false)) (fun k=>len - k) (0) ⟨h,hJ.tw,Sees.refl _,Nat.zero_le _,fun y hy=>by simp at hy⟩ ?_
 clear hJ a w; rintro k a w ⟨h1,hJ,s2,hk,hn⟩
 refine rk' hJ false 6 [] [] (.k (.code [0,1,0,0,1,0,1]) [.seq [1,1,0,0,1,0,1]] [0,1,7,8] [(9,.bool (decide ((k:Int) < (len:Int))))]) ?_
 clear hJ a w; intro a w hJ
 rcases (by omega:k < len∨k=len) with hlt | hke
 ·obtain ⟨f,hfk⟩:∃ f,l[k]?=some f:=⟨_,List.getElem?_eq_getElem (by omega)⟩
  have hrow:(zK l)[k]?=some (fcRow f):=by rw [List.getElem?_map,hfk]; rfl
  refine qY hJ (t:=decide ((k:Int) < (len:Int))) (decide_eq_true (by omega)) ?_
  refine rk' hJ false 15 [] [] (.k (.ops [0,1,0,0,1,1,0,0,1,0,1] 3) [.seq [1,1,0,0,1,1,0,0,1,0,1],.block 1,.seq [1,1,1,0,0,1,0,1]] [0,1,7,8] [(5,Vi (k:Int)),(11,.func (.func 115) #[] #[Vp b]),(12,.slice A len cap),(13,Vi (k:Int))]) ?_
  clear hJ a w; intro a w hJ
  obtain ⟨b3,o4,rfl,-,c5⟩:=RS.row hr (hrow)
  replace hJ:=hJ.fact (c5.sees s2)
  refine rk' hJ false 5 [.ix b3 o4 len cap k,.f 0 0,.cl 115 #[.agg #[.string f.1,Vi 0,Vi 0,Ve,Vi f.2.k,Vi f.2.n,.string f.2.s],Vp b] (.bool (f.1.toList == x.1.toList))] [] (.k (.code [1,1,0,0,1,1,0,0,1,0,1]) [.block 1,.seq [1,1,1,0,0,1,0,1]] [0,1,7,8,5] [(16,.bool (f.1.toList == x.1.toList))]) (ho:=And.intro (by first | omega | (simp; omega)) (And.intro (fun H sH=>facts1_any f b x _ (hc.sees (s2.trans sH))) (trivial))) ?_
  clear hJ a w; intro a w hJ
  cases hq:f.1.toList == x.1.toList with
  | true =>
   refine qY hJ (t:=f.1.toList == x.1.toList) (hq) ?_
   refine rk' hJ false 9 [] [] (.k (.out .ret) [] [] [(4,Vi (k:Int))]) ?_
   clear hJ a w; intro a w hJ
   refine jY rfl ?_
   refine rk' hJ false 2 [] [] (.k (.out .ret) [] [4] []) ?_
   clear hJ a w; intro a w hJ
   refine gY (hQ [Vi (k:Int)] _ [] hJ (.rtm hJ.j .nil) (fJ _) rfl ?_).1
   exact congrArg (Value.int .i64) (eQ _ l k f hn hfk hq).symm
  | false =>
   refine iY hJ (t:=f.1.toList == x.1.toList) (hq) ?_
   refine rk' hJ false 7 [] [(18,Vi (IntKind.i64.wrap ((k:Int) + 1)),Vi ((k:Int) + 1))] (.k (.out .normal) [] [0,1,7] [(8,Vi ((k:Int) + 1))]) (hc:=And.intro (kJ (by omega) (by omega)) (trivial)) ?_
   clear hJ a w; intro a w hJ
   exact pY ⟨k + 1,⟨h1,(hJ.tof [] (F':=[]) (by kernel_rfl)).to (by kernel_rfl) (by kernel_rfl) rfl,s2,by omega,(by rw [tX l k f hfk]; exact fun y hy=>(List.mem_append.1 hy).elim (hn y) (fun e=>by rw [List.mem_singleton.1 e]; exact hq))⟩,by omega⟩
 ·skip
  have htk:l.take k=l:=by rw [hke,← hL,List.take_length]
  rw [htk] at hn
  refine iY hJ (t:=decide ((k:Int) < (len:Int))) (decide_eq_false (by omega)) ?_
  refine rx' hJ false 2 [] [] (.ok (.out (.exit 0)) [] [] [] []) (fun _=>by kernel_rfl) ?_
  clear hJ a w; intro a w hJ
  refine jY rfl ?_
  refine rx' hJ false 8 [] [] (.ok (.out .ret) [] [(4,Vi (-1))] [] []) (fun _=>by kernel_rfl) ?_
  clear hJ a w; intro a w hJ
  refine gY (hQ [Vi (-1)] _ [] hJ (.rtm hJ.j .nil) (fJ _) rfl ?_).1
  exact congrArg (Value.int .i64) (fQ _ l hn).symm
theorem contFc_any (l:Env) (A:Option Addr) (cap:Nat) (b:Nat) (x:ByteArray × Vl) (h:Vw) (hr:RS h 7 (.slice A l.length cap) (zK l)) (hl:l.length≤1000000) (hc:Cells h b 0 (fcRow x)) :
  C0 Tryz.prog 58 #[.slice A l.length cap,.func (.func 115) #[] #[.pointer (some ⟨b,0,none⟩)]] h (fun r _=>r=.bool (l.any (fun q=>q.1.toList == x.1.toList))):=by
 have hi:=fun H q1 q2=>idxFc_any l A cap b x H q1 hl q2
 have e:=fidx_dec (fun q:ByteArray × Vl=>q.1.toList == x.1.toList) l
 generalize fidx (fun q:ByteArray × Vl=>q.1.toList == x.1.toList) l=p at *
 refine fY Tryz.func58 (c:=Tryz.f58.body.getD .skip) (N:=9) ?_
 intro hbx hbad Q hQ a w hJ
 refine rx' hJ false 15 [.cl 68 #[.slice A l.length cap,.func (.func 115) #[] #[Vp b]] (Vi p)] [] (.ok (.out .ret) [] [(4,.bool (decide (p ≥ 0)))] [] []) (ho:=And.intro (fun H sH=>hi _ (hr.sees sH) (hc.sees sH)) (trivial)) (fun _=>by kernel_rfl) ?_
 clear hJ a w; intro a w hJ
 refine gY (hQ [.bool (decide (p ≥ 0))] _ [] hJ (.rtm hJ.j .nil) (fJ _) rfl ?_).1
 exact congrArg Value.bool e
set_option maxHeartbeats 4000000 in
theorem facts_v (fs:List Fd) (fv pv:Value) (l:Env) (sl:Value) (h:Vw) (hf:IsFds h fv fs) (hpv:.slice (sA pv) (sN pv) (sC pv)=pv) (hfl:fs.length≤1000000) (hl:RS h 7 sl (zK l)) (hll:l.length≤1000000) (hk:∀ p∈l,p.2.known) :
  C0 Tryz.prog 90 #[.agg #[fv,pv],sl] h (fun r _=>r=.int .i64 (vK fs [] l)):=by
 obtain ⟨vs,A,c,rfl,-,-,hr,-,hvl,hsl⟩:=dQ hf
 obtain ⟨A0,c0,rfl,hc1,-,-⟩:=hl.form
 rw [List.length_map] at *
 rw [← hpv]
 have hT:=fun H s k n t q1 q2=>told_any fs (.slice A fs.length c) s k n t H q1 hfl q2
 generalize hL:l.length=len at *
 refine fY Tryz.func90 (c:=Tryz.f90.body.getD .skip) (N:=35) ?_
 intro hbx hbad Q hQ a w hJ
 refine rk' hJ false 15 [.own] [] (.new fun b1=>.m (.code [0,1,0,1]) [.block 0,.seq [1,1]] [1] [(2,Vp b1),(8,.slice A0 len c0),(9,Vi (len:Int)),(10,Vi 0)] [.box b1 [.slice A fs.length c,.slice (sA pv) (sN pv) (sC pv)]] []) (hr:=fun b1 _=>by kernel_rfl) ?_
 clear hJ a w; intro b1 a w hJ
 refine kY (fun (k:Nat) a w=>∃ (h2:Vw) ,K ⟨35,h.w,h.bad,[]⟩ [(1,.slice A0 len c0),(2,Vp b1),(8,.slice A0 len c0),(9,Vi (len:Int)),(10,Vi (k:Int))] [.box b1 [.slice A fs.length c,.slice (sA pv) (sN pv) (sC pv)]] [] h2 a w∧Sees h h2∧(k≤len)∧(vK fs (l.take k) (l.drop k)=vK fs [] l)) (fun k=>len - k) (0) ⟨h,hJ.tw,Sees.refl _,Nat.zero_le _,rfl⟩ ?_
 clear hJ a w; rintro k a w ⟨h2,hJ,s3,hkl,hv⟩
 refine rk' hJ false 6 [] [] (.k (.code [0,1,0,0,1,0,1]) [.seq [1,1,0,0,1,0,1]] [1,2,8,9,10] [(11,.bool (decide ((k:Int) < (len:Int))))]) ?_
 clear hJ a w; intro a w hJ
 rcases (by omega:k < len∨k=len) with hlt | hke
 ·obtain ⟨x,hxk⟩:∃ x,l[k]?=some x:=⟨_,List.getElem?_eq_getElem (by omega)⟩
  have hrow:(zK l)[k]?=some (fcRow x):=by rw [List.getElem?_map,hxk]; rfl
  have hxn:=hk x (List.mem_of_getElem? hxk)
  have hdr:l.drop k=x :: l.drop (k + 1):=by
   obtain ⟨h1,h2⟩:=List.getElem?_eq_some_iff.1 hxk
   rw [List.drop_eq_getElem_cons h1,h2]
  have htk:=tX l k x hxk
  rw [hdr] at hv
  have hv1:vK fs (l.take k) (x :: l.drop (k + 1))=if toldE fs x.1 x.2.k=0 then (if (l.take k).any (fun q=>q.1.toList == x.1.toList) then 6 else vK fs (l.take k++[x]) (l.drop (k + 1))) else toldE fs x.1 x.2.k:=rfl
  rw [hv1] at hv
  have htl:(l.take k).length=k:=by rw [List.length_take]; omega
  have htr:RS h 7 (.slice A0 k c0) (zK (l.take k)):=by have:=hl.take k (by rw [List.length_map]; omega); rwa [← List.map_take] at this
  have hC:=fun H b q1 q2=>contFc_any (l.take k) A0 c0 b x H q1 (by omega) q2
  rw [htl] at hC
  have hTx:=fun H q=>hT H x.1 x.2.k x.2.n x.2.s q hxn
  generalize toldE fs x.1 x.2.k=z at *
  generalize hany:(l.take k).any (fun q=>q.1.toList == x.1.toList)=y at *
  refine qY hJ (t:=decide ((k:Int) < (len:Int))) (decide_eq_true (by omega)) ?_
  refine rk' hJ false 7 [] [] (.k (.ops [0,0,0,1,1,0,0,1,0,1] 1) [.seq [1,0,0,1,1,0,0,1,0,1],.block 1,.seq [1,1,1,0,0,1,0,1]] [1,2,8,9,10] [(12,Vi (k:Int))]) ?_
  clear hJ a w; intro a w hJ
  obtain ⟨b4,o5,rfl,-,c6⟩:=RS.row hl (hrow)
  replace hJ:=hJ.fact (c6.sees s3)
  refine rk hJ false 26 [.ix b4 o5 len c0 k,.f 0 0,.own,.b 0 0,.b 1 0,.b 0 0,.b 0 4,.cl 114 #[.slice A fs.length c,.string x.1,.agg #[Vi x.2.k,Vi x.2.n,.string x.2.s]] (Vi z)] [] (.new fun bx=>.f (.code [1,1,0,1,0,0,1,1,0,0,1,0,1]) [.seq [1,1,0,0,1,1,0,0,1,0,1],.block 1,.seq [1,1,1,0,0,1,0,1]] [1,2,8,9,10] [(6,Vp bx),(5,Vi (k:Int)),(7,Vi z),(23,.bool (z != 0))] [.box bx [.string x.1,Vi 0,Vi 0,Ve,Vi x.2.k,Vi x.2.n,.string x.2.s],.box b1 [.slice A fs.length c,.slice (sA pv) (sN pv) (sC pv)]] [.o 0]) (And.intro (by first | omega | (simp; omega)) (And.intro (fun H sH=>hTx _ (hf.sees (s3.trans sH))) (trivial))) trivial (fun bx _=>by kernel_rfl) ?_
  clear hJ a w; intro bx a w hJ
  by_cases h1:z=0
  ·rw [if_pos h1] at hv
   refine iY hJ (t:=z != 0) ((by rw [bne_eq_false_iff_eq]; exact h1)) ?_
   refine rk' hJ false 18 [.b 0 1] [] (.k (.ops [0,1,1,1,0,0,1,1,0,0,1,0,1] 2) [.seq [1,1,1,1,0,0,1,1,0,0,1,0,1],.block 1,.seq [1,1,1,0,0,1,0,1]] [1,2,8,9,10,6] [(29,.slice (some ⟨b4,o5,none⟩) len c0),(30,Vi (k:Int))]) ?_
   clear hJ a w; intro a w hJ
   refine x_pure hJ 31 (.slice (some ⟨b4,o5,none⟩) k c0) (by kernel_rfl) (fun w=>run_hi (t:=28) (e:=54) (x:=(.tmp 29)) (y:=(.tmp 30)) (A:=(some ⟨b4,o5,none⟩)) (n:=len) (cap:=c0) (k:=k) (kk:=7) (by kernel_rfl) (by kernel_rfl) (by kernel_rfl) (by omega) Tryz.underlying28 (by kernel_rfl)) ?_; clear hJ a w; intro a w hJ
   refine rk' hJ false 1 [] [] (.k (.ops [0,1,1,1,0,0,1,1,0,0,1,0,1] 4) [.seq [1,1,1,1,0,0,1,1,0,0,1,0,1],.block 1,.seq [1,1,1,0,0,1,0,1]] [1,2,8,9,10,31] [(32,.func (.func 115) #[] #[Vp bx])]) ?_
   clear hJ a w; intro a w hJ
   refine x_callq hJ 33 (hC _ bx (htr.sees (s3.trans hJ.j.seesQ)) (hJ.j.boxQ (b:=bx) (cs:=[.string x.1,Vi 0,Vi 0,Ve,Vi x.2.k,Vi x.2.n,.string x.2.s]) 0 rfl)) (fun _=>by kernel_rfl) ?_; clear hJ a w; intro h7 a w s8 hJ
   refine rk' hJ false 2 [] [] (.k (.code [1,1,1,1,0,0,1,1,0,0,1,0,1]) [.block 1,.seq [1,1,1,0,0,1,0,1]] [1,2,8,9,10,33] []) ?_
   clear hJ a w; intro a w hJ
   rcases Bool.eq_false_or_eq_true y with hy | hy
   ·rw [if_pos hy] at hv
    refine qY hJ (t:=y) (hy) ?_
    refine rk' hJ false 8 [] [] (.k (.out .ret) [] [] [(4,Vi 6)]) ?_
    clear hJ a w; intro a w hJ
    refine jY rfl ?_
    refine rx' hJ false 2 [] [] (.ok (.out .ret) [] [(4,Vi 6)] [.box bx [.string x.1,Vi 0,Vi 0,Ve,Vi x.2.k,Vi x.2.n,.string x.2.s],.box b1 [.slice A fs.length c,.slice (sA pv) (sN pv) (sC pv)]] [(b4,o5 + k * 7,[.string x.1,Vi 0,Vi 0,Ve,Vi x.2.k,Vi x.2.n,.string x.2.s])]) (fun _=>by kernel_rfl) ?_
    clear hJ a w; intro a w hJ
    refine gY (hQ [Vi 6] _ [] hJ (.rtm hJ.j .nil) (fJ _) rfl ?_).1
    exact congrArg (Value.int .i64) hv
   ·skip
    rw [if_neg (by rw [hy]; exact Bool.false_ne_true)] at hv
    refine iY hJ (t:=y) (hy) ?_
    refine rk' hJ false 7 [] [(34,Vi (IntKind.i64.wrap ((k:Int) + 1)),Vi ((k:Int) + 1))] (.k (.out .normal) [] [1,2,8,9] [(10,Vi ((k:Int) + 1))]) (hc:=And.intro (kJ (by omega) (by omega)) (trivial)) ?_
    clear hJ a w; intro a w hJ
    replace hJ:=hJ.drop 0
    exact pY ⟨k + 1,⟨h7,(hJ.tof [] (F':=[]) (by kernel_rfl)).to (by kernel_rfl) (by kernel_rfl) rfl,(s3.trans s8),by omega,(by rw [htk]; exact hv)⟩,by omega⟩
  ·skip
   rw [if_neg h1] at hv
   refine qY hJ (t:=z != 0) (bne_iff_ne.2 h1) ?_
   refine rk' hJ false 10 [] [] (.k (.out .ret) [] [] [(4,Vi z)]) ?_
   clear hJ a w; intro a w hJ
   refine jY rfl ?_
   refine rk' hJ false 2 [] [] (.k (.out .ret) [] [4] []) ?_
   clear hJ a w; intro a w hJ
   refine gY (hQ [Vi z] _ [] hJ (.rtm hJ.j .nil) (fJ _) rfl ?_).1
   exact congrArg (Value.int .i64) hv
 ·skip
  have hd:l.drop k=[]:=List.drop_eq_nil_of_le (by omega)
  rw [hd] at hv
  have hv:(0:Int)=vK fs [] l:=hv
  refine iY hJ (t:=decide ((k:Int) < (len:Int))) (decide_eq_false (by omega)) ?_
  refine rk' hJ false 2 [] [] (.k (.out (.exit 0)) [] [] []) ?_
  clear hJ a w; intro a w hJ
  refine jY rfl ?_
  refine rk' hJ false 8 [] [] (.k (.out .ret) [] [] [(4,Vi 0)]) ?_
  clear hJ a w; intro a w hJ
  refine gY (hQ [Vi 0] _ [] hJ (.rtm hJ.j .nil) (fJ _) rfl ?_).1
  exact congrArg (Value.int .i64) hv
end Go.Proofs.YthckljafinhepaaGreat
namespace Go.Proofs.YthckljafinhepaaGreat
open Go.RowKit
set_option linter.unusedVariables false
theorem any_name {pre:Env} {p:ByteArray × Vl}:pre.any (fun q=>q.1.toList == p.1.toList)=true↔p.1∈pre.map (·.1):=by
 rw [List.any_eq_true,List.mem_map]
 constructor
 ·rintro ⟨q,hq,e⟩
  rw [tl_dec] at e
  exact ⟨q,hq,of_decide_eq_true e⟩
 ·rintro ⟨q,hq,e⟩
  exact ⟨q,hq,by rw [tl_dec]; exact decide_eq_true e⟩
theorem factsV_ok (fs:List Fd):∀ (rest pre:Env),(∀ p∈rest,toldE fs p.1 p.2.k=0)→((pre++rest).map (·.1)).Nodup→vK fs pre rest=0
 | [],_,_,_=>rfl
 | p :: rest,pre,h,hd=>by
  have h0:=h p (by simp)
  have hd':(((pre++[p])++rest).map (·.1)).Nodup:=by simpa using hd
  have hn:¬ pre.any (fun q=>q.1.toList == p.1.toList)=true:=fun q=>by
   rw [any_name] at q
   rw [List.map_append,List.nodup_append] at hd
   exact hd.2.2 _ q p.1 (by simp) rfl
  unfold vK
  rw [if_pos h0,if_neg hn]
  exact factsV_ok fs rest (pre++[p]) (fun q hq=>h q (by simp [hq])) hd'
theorem inp_told {fs:List Fd} {l:List RawD} (hd:(fs.map (fun f:Fd=>f.name)).Nodup):∀ p∈inpE fs l,toldE fs p.1 p.2.k=0:=fun p hp=>by
 obtain ⟨i,f,r,-,h2,h3,rfl⟩:=inpF_each fs.length (Nat.le_refl _) p hp
 unfold toldE
 rw [iQ hd h2,if_neg (by omega),Int.toNat_natCast,h2]
 simp only
 rw [if_pos h3,if_pos (show (valR f.ty r).k=f.ty from rfl)]
theorem inp_known {fs:List Fd} {l:List RawD} (ht:∀ f∈fs,1≤f.ty∧f.ty≤3):∀ p∈inpE fs l,p.2.known:=fun p hp=>by
 obtain ⟨i,f,r,-,h2,h3,rfl⟩:=inpF_each fs.length (Nat.le_refl _) p hp
 obtain ⟨a,b⟩:=ht f (List.mem_of_getElem? h2)
 exact valR_known _ _ a b
end Go.Proofs.YthckljafinhepaaGreat
