/-
  Contract of the laws' Form. What holds of the laws' forms. The fields of the laws' forms may be.
-/
import Derived.Test.YthplkompdehjlaaGreatDoorZR9
import Derived.Test.YthplkompdehjlaaGreatDoorZR20
import Derived.Test.YthplkompdehjlaaGreatDoorZR39
import Derived.Test.YthplkompdehjlaaGreatDoorZR37
set_option maxRecDepth 100000
namespace Go.Proofs.YthplkompdehjlaaGreatDoor
open Go.RowKit
section
variable {P:Program} {C:Fx} {E:List (Nat × Value)} {B:List Ent} {F:List Fac} {h:Vw} {a:Act} {w w':World} {Q:Exit→Act→World→Prop} {c0:Code} {p:List Nat} {n:Nat} {ks:List Kt}
theorem own_sees (hJ:J C E B h a w) (i:Nat) {v:Value} {e:TypeId} {kk:Nat} {l:List (List Value)} (hB:B[i]?=some (.row v e kk l)):Sees h ⟨w,v.ownBlock.toList++C.bad0⟩ :=
 hJ.sees.less fun b hb=>by
  rcases List.mem_append.1 hb with q | q
  ·exact List.mem_append_left _ (List.mem_flatMap.2 ⟨_,List.mem_of_getElem? hB,q⟩)
  ·exact List.mem_append_right _ q
theorem own_apart (hJ:J C E B h a w) (i j:Nat) {v u:Value} {e e':TypeId} {kk kk':Nat} {l l':List (List Value)} (hB:B[i]?=some (.row v e kk l)) (hj:B[j]?=some (.row u e' kk' l')) (hne:Nat.beq i j=false) (hC:C.wr=[]):RS ⟨w,u.ownBlock.toList++C.bad0⟩ kk v l:=by
 have hm:=List.mem_of_getElem? hB
 refine row_rs (hJ.ents _ hm) fun b hb hbad=>?_
 rcases List.mem_append.1 hbad with q | q
 ·exact ent_apart hJ.nodup hB hj (Nat.ne_of_beq_eq_false hne) b (by simp [Ent.blocks,hb]) (by simpa [Ent.blocks] using q)
 ·rcases hJ.own b (List.mem_flatMap.2 ⟨_,hm,by simp [Ent.blocks,hb]⟩) with g | g
  ·have:=hJ.badlt b q; omega
  ·rw [hC] at g; cases g
end
theorem names10 (k:Nat) (hk:k < 10) (h:Vw):C0 Tryz.prog 38 #[] h (fun v h'=>∃ u,v=.slice (some ⟨sJ u,0,none⟩) 10 10∧Cells h' (sJ u) (0 + k * 1) [.string (fname k)]):=by
 refine fQ Tryz.func38 (c:=Tryz.f38.body.getD .skip) (N:=2) ?_
 intro hbx hbad Q hQ
 refine aV 12 [.fix] [] ?_
 intro bs W1 S2
 refine eQ 0 bs 0 [.string ⟨#[97]⟩,.string ⟨#[98]⟩,.string ⟨#[99]⟩,.string ⟨#[100,97,121]⟩,.string ⟨#[101,49]⟩,.string ⟨#[102,101,101]⟩,.string ⟨#[103,111,110,101]⟩,.string ⟨#[104,111,109,101]⟩,.string ⟨#[105,116,101,109]⟩,.string ⟨#[106,111,98]⟩] fun s=>?_
 refine hQ.toJ [Vs bs 10 10] [] (fun a w hJ=>?_)
 have c:Cells ⟨w,h.bad⟩ bs 0 (eY fnames).flatten:=(hJ.f (_,_,_) (List.mem_of_getElem? (i:=0) (by kernel_rfl))).sees hJ.j.out
 exact ⟨.pointer (some ⟨bs,0,none⟩),rfl,RS.cell (mX (k:=1) (eY fnames) (fun r hr=>by obtain ⟨x,-,rfl⟩:=List.mem_map.1 hr; rfl) (by decide) c) (fname_at hk)⟩
theorem fldT_step (l:List RawD) (k:Nat) {x:Ex} {n:Nat} (h:srcE l (fJ l k).1 (aJ l (fJ l k).2) (bJ l (fJ l k).2)=(x,n)) :
  (fJ l (k + 1)).1=(fJ l k).1++[⟨fname k,1 + cJ (aJ l (fJ l k).2).k 3,1 + cJ (aJ l (fJ l k).2).b 3,x⟩]∧(fJ l (k + 1)).2=n:=by
 refine ⟨?_,?_⟩
 ·show (fJ l k).1++[_]=_; rw [h]
 ·show (srcE l (fJ l k).1 (aJ l (fJ l k).2) (bJ l (fJ l k).2)).2=_; rw [h]
theorem fld_src {l:List RawD} {k:Nat} {x:Ex} {u:Value} {h:Vw} {vs:List Value} (e:(fJ l (k + 1)).1=(fJ l k).1++[⟨fname k,1 + cJ (aJ l (fJ l k).2).k 3,1 + cJ (aJ l (fJ l k).2).b 3,x⟩])
  (hvs:AllSrc h (fJ l k).1 vs) (hu:IsArgs h x u):AllSrc h (fJ l (k + 1)).1 (vs++[u]):=by rw [e]; exact AllSrc.snoc hvs hu
theorem slu_snoc {vs:List Value} (h:∀ u∈vs,.slice (sA u) (sN u) (sC u)=u) {v:Value} (hv:.slice (sA v) (sN v) (sC v)=v):∀ u∈vs++[v],.slice (sA u) (sN u) (sC u)=u:=fun u hu=>(List.mem_append.1 hu).elim (h u) (fun e=>by rw [List.mem_singleton.1 e]; exact hv)
theorem bnd2:bnd 2=22:=rfl
theorem bnd1:bnd 1=7:=rfl
theorem pgT_step (l:List RawD) (fs:List Fd) (n n0 k:Nat) {x:Ex} {m:Nat} (h:wX l fs (aJ l (mJ l fs n n0 k).2) (bJ l (mJ l fs n n0 k).2)=(x,m)) :
  (mJ l fs n n0 (k + 1)).1=(mJ l fs n n0 k).1++[⟨mW k,nW fs n k,x⟩]∧(mJ l fs n n0 (k + 1)).2=m:=by
 refine ⟨?_,?_⟩
 ·show (mJ l fs n n0 k).1++[_]=_; rw [h]
 ·show (wX l fs (aJ l (mJ l fs n n0 k).2) (bJ l (mJ l fs n n0 k).2)).2=_; rw [h]
theorem byte_of (k:Nat) (h:k < 4):Value.int .u8 (IntKind.u8.wrap (49 + (k:Int)))=.int .u8 (((UInt8.ofNat (49 + k)).toNat:Nat):Int):=by
 match k,h with
 | 0,_=>rfl
 | 1,_=>rfl
 | 2,_=>rfl
 | 3,_=>rfl
theorem pg_name (k:Nat) (h:k < 4):Value.string ((⟨#[112]⟩:ByteArray)++⟨([UInt8.ofNat (49 + k)]).toArray⟩)=.string (mW k):=by
 match k,h with
 | 0,_=>rfl
 | 1,_=>rfl
 | 2,_=>rfl
 | 3,_=>rfl
theorem mod_eq (a n k:Nat):((a:Int) % ((n:Int) + 1) == (k:Int))=decide (a % (n + 1)=k):=by
 have e:(a:Int) % ((n:Int) + 1)=((a % (n + 1):Nat):Int):=(Int.natCast_emod a (n + 1)).symm
 rw [e,Bool.eq_iff_iff,beq_iff_eq,decide_eq_true_iff]; omega
theorem fdRows_one:∀ (fs:List Fd) (vs:List Value),(∀ v∈vs,.slice (sA v) (sN v) (sC v)=v)→∀ r∈qK fs vs,∀ u∈r,u.oneCell'=true
 | [],_,_,r,hr=>by simp [qK] at hr
 | _ :: _,[],_,r,hr=>by simp [qK] at hr
 | f :: fs,v :: vs,h,r,hr=>by
  have hr:r∈fdRow f v :: qK fs vs:=hr
  rcases List.mem_cons.1 hr with rfl | hr
  ·intro u hu
   have hv:=h v (by simp)
   rw [← hv] at hu
   simp [fdRow] at hu
   rcases hu with rfl | rfl | rfl | rfl | rfl | rfl | rfl | rfl | rfl <;> rfl
  ·exact fdRows_one fs vs (fun v hv=>h v (by simp [hv])) r hr
theorem fdRows_rev (fs:List Fd) (vs:List Value) (h:vs.length=fs.length):(qK fs vs).reverse=qK fs.reverse vs.reverse:=by
 induction fs generalizing vs with
 | nil=>rw [List.length_eq_zero_iff.1 (show vs.length=0 from h)]; rfl
 | cons f fs ih =>
  match vs,h with
  | v :: vs,h =>
   have h:vs.length=fs.length:=by simpa using h
   show (fdRow f v :: qK fs vs).reverse=_
   rw [List.reverse_cons,ih vs h,List.reverse_cons,List.reverse_cons,tK (by simpa using h)]
theorem AllSrc.rev {h:Vw} {fs:List Fd} {vs:List Value} (k:AllSrc h fs vs):AllSrc h fs.reverse vs.reverse:=by
 induction fs generalizing vs with
 | nil =>
  have e:=List.length_eq_zero_iff.1 (show vs.length=0 from k.len)
  subst e; exact k
 | cons f fs ih =>
  have hl:=k.len
  match vs,hl with
  | v :: vs,hl =>
   obtain ⟨u,r,e,k1,k2⟩:=k
   simp only [List.cons.injEq] at e
   obtain ⟨rfl,rfl⟩:=e
   rw [List.reverse_cons,List.reverse_cons]
   exact AllSrc.snoc (ih k2) k1
def FormO (l:List RawD) (v u:Value) (fl:List (List Value)) (h:Vw):Prop:=∃ u2 vs,v=.agg #[u,u2]∧fl=qK (yK l).fields vs∧AllSrc h (yK l).fields vs∧IsPgs h u2 (yK l).pages
set_option maxHeartbeats 4000000 in
theorem form_o (l:List RawD) (sl:Value) (h:Vw) (hr:RS h 4 sl (l.map RawD.cs)) (hlen:l.length * 40≤reachBytes) (hok:∀ r∈l,r.ok) :
  C0 Tryz.prog 15 #[sl] h (fun v h'=>∃ u fl,Ent.ok h.w.heap.size h'.w (.row u 46 9 fl)∧FormO l v u fl ⟨h'.w,u.ownBlock.toList++h'.bad⟩):=by
 obtain ⟨A,cap,rfl,-,-,-⟩:=hr.form
 rw [List.length_map] at *
 obtain ⟨nf1,nf2,nf3⟩:=rV l
 have rok:=rawAt_ok hok 0
 obtain ⟨⟨k0,k1⟩,⟨a0,a1⟩,⟨rb0,rb1⟩,-⟩:=rok
 refine fQ Tryz.func15 (c:=Tryz.f15.body.getD .skip) (N:=136) ?_
 intro hbx hbad Q hQ
 refine go3 21 [.own,.own,.own] [] ?_
 intro br bg bf
 refine cQ 1 (fun H sH=>yQ bg l (.slice A l.length cap) 0 _ (hr.sees sH) (by omega) hlen) ?_; rintro _ _ W1 S2 ⟨rfl,rfl⟩
 refine go1 6 [.own,.b 0 0] [] ?_
 intro bq
 refine tQ 7 0 [.pu,.ld 0 1,.f (fun gh=>.slice (some ⟨sJ (gh 2),0,none⟩) 10 10) (fun gh hh=>Cells hh (sJ (gh 2)) (0 + 0 * 1) [.string (fname 0)]),.pu,.v (fun gh=>Vi (cJ (aJ l 0).a 10)),.v (fun gh=>Vi (1 + (cJ (aJ l 0).a 10))),.pu] [(2,false)] (And.intro (fun _ _ _ s c=>c.sees s) (trivial)) ?_ ?_
 ·intro R hT hA hmono
  refine And.intro (r_call hT hA hmono ⟨fun _ _=>by kernel_rfl,fun _ _=>by kernel_rfl,fun _ _=>by kernel_rfl⟩ 22 (fun u=>.slice (some ⟨sJ u,0,none⟩) 10 10) [] 2 (by kernel_rfl) (by kernel_rfl) (fun _=>by kernel_rfl) 38 (fun gh=>#[]) (fun _ _=>by kernel_rfl) (fun gh H sH fH lent=>C0.facts (R:=R) (x:=gh) (i:=2) (n:=0) (F:=(fun u=>.slice (some ⟨sJ u,0,none⟩) 10 10)) (G:=fun u hh=>Cells hh (sJ u) (0 + 0 * 1) [.string (fname 0)]) (f:=fun gh hh=>Cells hh (sJ (gh 2)) (0 + 0 * 1) [.string (fname 0)]) (names10 0 (by omega) _) (by kernel_rfl) (by kernel_rfl) (fun _ _ r=>r))) ?_
  refine And.intro (t_v hT hA hmono (k:=9) (args:=(fun gh=>#[Vi ((aJ l 0).a),Vi 10])) (f:=fun gh=>Vi (cJ (aJ l 0).a 10)) (fun gh H sH fH lent=>wJ _ 10 _ a0 a1 (by omega) (by omega))) ?_
  refine And.intro (t_p hT hA (fun gh=>Vi (1 + (cJ (aJ l 0).a 10))) (fun gh w=>run_eq (by kernel_rfl) (jJ (by omega) (by omega)))) ?_
  trivial
 rintro u22 W3 S4 ⟨f22,-⟩
 replace f22:Cells W3 (sJ u22) (0 + 0 * 1) [.string (fname 0)]:=f22
 refine gQ f22 ?_
 refine go0 2 [] [] ?_
 refine oQ 46 9 ?_
 refine mQ [0,1,0,1,1,1,1] [.block 0,.seq [1,1,1,1,1]] (fun (k:Nat) X=>∃ (W5:Vw) (v:Value) (vs:List Value),X W5 [(2,Vp br),(3,Vp bg),(4,Vp bf),(5,Vp bq),(25,Vi (1 + (cJ (aJ l 0).a 10))),(26,Vi (k:Int))] [.row v 46 9 (qK (fJ l k).1 vs),.box bq [Vi ((aJ l 0).k),Vi ((aJ l 0).a),Vi ((aJ l 0).b),.string ((aJ l 0).t)],.box bf [v,Vz],.box bg [.slice A l.length cap,Vi (((fJ l k).2:Nat):Int)],.box br [Vz,Vz]] [((sJ u22),0 + 0 * 1,[.string (fname 0)])]∧Sees W3 W5∧(k≤iJ l)∧(AllSrc W5 (fJ l k).1 vs)∧(∀ u∈vs,.slice (sA u) (sN u) (sC u)=u)) (fun k=>iJ l - k) (0) (fun X q=>⟨W3,(Vz),[],q _ _ _ _ ⟨rfl,by kernel_rfl⟩,Sees.refl _,Nat.zero_le _,by unfold AllSrc AllArgs; rfl,fun _ h=>by cases h⟩) ?_
 rintro k a w ⟨W5,v,vs,hJ,S6,hk,hvs,hvl⟩; refine pQ hJ ?_; clear hJ a w
 refine go0 6 [] [] ?_
 rcases (by omega:k < iJ l∨k=iJ l) with hlt | hke
 ·have fle:=fldT_le l k
  obtain ⟨⟨rk0,rk1⟩,⟨ra0,ra1⟩,⟨rb0',rb1'⟩,-⟩:=rawAt_ok hok (fJ l k).2
  have hE2:=exprC_all l (fJ l k).1 hlen hok (by rw [xK]; omega) 2 (by omega)
  have hE1:=exprC_all l (fJ l k).1 hlen hok (by rw [xK]; omega) 1 (by omega)
  have pk:=wW (aJ l (fJ l k).2).k 3 (by omega)
  have pb:=wW (aJ l (fJ l k).2).b 3 (by omega)
  have pa:=wW (aJ l (fJ l k).2).a 3 (by omega)
  have anx:=rJ l (fJ l k).2
  refine wQ (t:=decide ((k:Int) < (1 + (cJ (aJ l 0).a 10)))) (decide_eq_true (by omega)) ?_
  refine go0 13 [] [] ?_
  refine cQ 3 (fun H sH=>yQ bg l (.slice A l.length cap) (fJ l k).2 _ (hr.sees (S2.trans (S4.trans (S6.trans sH)))) (by omega) hlen) ?_; rintro _ _ W7 S8 ⟨rfl,rfl⟩
  refine go1 5 [.own,.b 0 0] [] ?_
  intro b9
  refine tQ 15 1 [.f (fun gh=>.slice (some ⟨sJ (gh 0),0,none⟩) 10 10) (fun gh hh=>Cells hh (sJ (gh 0)) (0 + k * 1) [.string (fname k)]),.pu,.v (fun gh=>.pointer (some ⟨sJ (gh 0),0 + k * 1,none⟩)),.v (fun gh=>.string (fname k)),.pu,.ld 1 0,.v (fun gh=>Vi (cJ (aJ l (fJ l k).2).k 3)),.v (fun gh=>Vi (1 + (cJ (aJ l (fJ l k).2).k 3))),.pu,.ld 1 2,.v (fun gh=>Vi (cJ (aJ l (fJ l k).2).b 3)),.v (fun gh=>Vi (1 + (cJ (aJ l (fJ l k).2).b 3))),.pu,.al 0,.st 0 0] [(0,false),(13,true)] (And.intro (fun _ _ _ s c=>c.sees s) (trivial)) ?_ ?_
  ·intro R hT hA hmono
   refine And.intro (r_call hT hA hmono ⟨fun _ _=>by kernel_rfl,fun _ _=>by kernel_rfl,fun _ _=>by kernel_rfl⟩ 31 (fun u=>.slice (some ⟨sJ u,0,none⟩) 10 10) [] 0 (by kernel_rfl) (by kernel_rfl) (fun _=>by kernel_rfl) 38 (fun gh=>#[]) (fun _ _=>by kernel_rfl) (fun gh H sH fH lent=>C0.facts (R:=R) (x:=gh) (i:=0) (n:=0) (F:=(fun u=>.slice (some ⟨sJ u,0,none⟩) 10 10)) (G:=fun u hh=>Cells hh (sJ u) (0 + k * 1) [.string (fname k)]) (f:=fun gh hh=>Cells hh (sJ (gh 0)) (0 + k * 1) [.string (fname k)]) (names10 k (by omega) _) (by kernel_rfl) (by kernel_rfl) (fun _ _ r=>r))) ?_
   refine And.intro (t_p hT hA (fun gh=>.pointer (some ⟨sJ (gh 0),0 + k * 1,none⟩)) (fun gh w=>run_indexAddr (t:=44) (x:=(.tmp 31)) (y:=(.tmp 32)) (b:=sJ (gh 0)) (off:=0) (n:=10) (cap:=10) (k:=k) (e:=9) (kk:=1) (by kernel_rfl) (by kernel_rfl) (by kernel_rfl) ((by omega)) Tryz.underlying44 (by kernel_rfl))) ?_
   refine And.intro (r_loadfx hT hA 34 (fun gh=>.string (fname k)) [2] 3 (by kernel_rfl) (by kernel_rfl) (by kernel_rfl) (fun _=>by kernel_rfl) 0 (0,fun gh hh=>Cells hh (sJ (gh 0)) (0 + k * 1) [.string (fname k)]) (by kernel_rfl) (by kernel_rfl) (fun gh=>(sJ (gh 0))) (fun gh=>(0 + k * 1)) (fun gh=>[.string (fname k)]) 0 (fun _ _ c=>c) 9 (.tmp 33) (by kernel_rfl) (fun _=>by kernel_rfl) (fun _=>by kernel_rfl)) ?_
   refine And.intro (t_v hT hA hmono (k:=9) (args:=(fun gh=>#[Vi ((aJ l (fJ l k).2).k),Vi 3])) (f:=fun gh=>Vi (cJ (aJ l (fJ l k).2).k 3)) (fun gh H sH fH lent=>wJ _ 3 _ rk0 rk1 (by omega) (by omega))) ?_
   refine And.intro (t_p hT hA (fun gh=>Vi (1 + (cJ (aJ l (fJ l k).2).k 3))) (fun gh w=>run_eq (by kernel_rfl) (jJ (by omega) (by omega)))) ?_
   refine And.intro (t_v hT hA hmono (k:=9) (args:=(fun gh=>#[Vi ((aJ l (fJ l k).2).b),Vi 3])) (f:=fun gh=>Vi (cJ (aJ l (fJ l k).2).b 3)) (fun gh H sH fH lent=>wJ _ 3 _ rb0' rb1' (by omega) (by omega))) ?_
   refine And.intro (t_p hT hA (fun gh=>Vi (1 + (cJ (aJ l (fJ l k).2).b 3))) (fun gh w=>run_eq (by kernel_rfl) (jJ (by omega) (by omega)))) ?_
   trivial
  rintro u31 b10 W11 S12 ⟨f31,-⟩
  replace f31:Cells W11 (sJ u31) (0 + k * 1) [.string (fname k)]:=f31
  refine gQ f31 ?_
  refine go0 15 [.b 0 1] [] ?_
  have frl:(qK (fJ l k).1 vs).length=k:=by rw [sK hvs.len,xK]
  have hvn:=hvs.len
  have b2:=bnd2
  have b1:=bnd1
  by_cases q1:cJ (aJ l (fJ l k).2).k 3=1
  ·obtain ⟨e1,e2⟩:=fldT_step l k (show srcE l (fJ l k).1 (aJ l (fJ l k).2) (bJ l (fJ l k).2)=_ by unfold srcE; rw [if_pos q1])
   refine wQ (t:=(1 + (cJ (aJ l (fJ l k).2).k 3)) == 2) (beq_iff_eq.2 (by omega)) ?_
   refine go0 6 [.b 0 2,.b 4 0] [] ?_
   refine dQ 5 (fun a w hJ=>hE2 bg (.slice A l.length cap) (bJ l (fJ l k).2) (1 + cJ (aJ l (fJ l k).2).b 3) _ _ _ (hr.sees (S2.trans (S4.trans (S6.trans (S8.trans (S12.trans hJ.j.sees)))))) (by omega) (by omega) (by omega) ⟨vs,(hJ.j.rowLent (v:=v) (e:=46) (k:=9) (l:=qK (fJ l k).1 vs) (b:=bg) (cs:=[.slice A l.length cap,Vi ((bJ l (fJ l k).2:Nat):Int)]) 2 5 (by kernel_rfl) (by kernel_rfl)),((hvs.sees (S8.trans (S12.trans hJ.j.sees)))).sees ((Sees.refl _).less (hJ.j.boxBad (b:=bg) (cs:=[.slice A l.length cap,Vi ((bJ l (fJ l k).2:Nat):Int)]) 5 (by kernel_rfl)))⟩ (by simp)) ?_; rintro _ _ W13 S14 ⟨u,rfl,rfl,hu⟩
   refine aV 10 [.b 0 3,.b 4 0,.b 0 0,.fix] [] ?_
   intro b15 W16 S17
   refine goa0 10 [.ap 2 0 (qK (fJ l k).1 vs) [[.string (fname k),Vi (1 + (cJ (aJ l (fJ l k).2).k 3)),Vi (1 + (cJ (aJ l (fJ l k).2).b 3)),Vi (((gJ l (fJ l k).1 2 (1 + cJ (aJ l (fJ l k).2).b 3) (bJ l (fJ l k).2)).1).op),Vi (((gJ l (fJ l k).1 2 (1 + cJ (aJ l (fJ l k).2).b 3) (bJ l (fJ l k).2)).1).k),Vi (((gJ l (fJ l k).1 2 (1 + cJ (aJ l (fJ l k).2).b 3) (bJ l (fJ l k).2)).1).n),.string (((gJ l (fJ l k).1 2 (1 + cJ (aJ l (fJ l k).2).b 3) (bJ l (fJ l k).2)).1).s),.string (((gJ l (fJ l k).1 2 (1 + cJ (aJ l (fJ l k).2).b 3) (bJ l (fJ l k).2)).1).nm),.slice (sA u) (sN u) (sC u)]],.b 4 0] [(72,Vi (IntKind.i64.wrap ((k:Int) + 1)),Vi ((k:Int) + 1))] ?_ (ho:=(And.intro (by rw [frl]; simp; omega) (trivial))) (hc:=(And.intro (jJ (by omega) (by omega)) (trivial)))
   intro v70 W18 S19
   refine kQ [(2,Vp br),(3,Vp bg),(4,Vp bf),(5,Vp bq),(25,Vi (1 + (cJ (aJ l 0).a 10))),(26,Vi ((k:Int) + 1))] [.row (.slice (sA v70) (sN v70) (sC v70)) 46 9 ((qK (fJ l k).1 vs)++[[.string (fname k),Vi (1 + (cJ (aJ l (fJ l k).2).k 3)),Vi (1 + (cJ (aJ l (fJ l k).2).b 3)),Vi (((gJ l (fJ l k).1 2 (1 + cJ (aJ l (fJ l k).2).b 3) (bJ l (fJ l k).2)).1).op),Vi (((gJ l (fJ l k).1 2 (1 + cJ (aJ l (fJ l k).2).b 3) (bJ l (fJ l k).2)).1).k),Vi (((gJ l (fJ l k).1 2 (1 + cJ (aJ l (fJ l k).2).b 3) (bJ l (fJ l k).2)).1).n),.string (((gJ l (fJ l k).1 2 (1 + cJ (aJ l (fJ l k).2).b 3) (bJ l (fJ l k).2)).1).s),.string (((gJ l (fJ l k).1 2 (1 + cJ (aJ l (fJ l k).2).b 3) (bJ l (fJ l k).2)).1).nm),.slice (sA u) (sN u) (sC u)]]),.box bq [Vi ((aJ l 0).k),Vi ((aJ l 0).a),Vi ((aJ l 0).b),.string ((aJ l 0).t)],.box bf [.slice (sA v70) (sN v70) (sC v70),Vz],.box bg [.slice A l.length cap,Vi (((gJ l (fJ l k).1 2 (1 + cJ (aJ l (fJ l k).2).b 3) (bJ l (fJ l k).2)).2:Nat):Int)],.box br [Vz,Vz]] [((sJ u22),0 + 0 * 1,[.string (fname 0)])] ?_
   exact vQ (k + 1) (fun X q=>⟨W18,.slice (sA v70) (sN v70) (sC v70),vs++[.slice (sA u) (sN u) (sC u)],q _ _ _ _ (qX (by rw [e1,tK hvn,e2]; try rfl)),(S6.trans (S8.trans (S12.trans (S14.trans (S17.trans S19))))),by omega,fld_src e1 (hvs.sees (S8.trans (S12.trans (S14.trans (S17.trans S19))))) (hu.sees (S17.trans S19)),slu_snoc hvl rfl⟩) (by omega)
  ·skip
   by_cases q2:cJ (aJ l (fJ l k).2).k 3=2
   ·obtain ⟨e1,e2⟩:=fldT_step l k (show srcE l (fJ l k).1 (aJ l (fJ l k).2) (bJ l (fJ l k).2)=_ by unfold srcE; rw [if_neg q1,if_pos q2])
    refine iQ (t:=(1 + (cJ (aJ l (fJ l k).2).k 3)) == 2) (beq_eq_false_iff_ne.2 (by omega)) ?_
    refine go0 6 [] [] ?_
    refine wQ (t:=(1 + (cJ (aJ l (fJ l k).2).k 3)) == 3) (beq_iff_eq.2 (by omega)) ?_
    refine tQ 10 0 [.pu,.pu,.ld 1 1,.v (fun gh=>Vi (cJ (aJ l (fJ l k).2).a 3)),.v (fun gh=>Vi (1 + (cJ (aJ l (fJ l k).2).a 3))),.pu,.ld 4 0,.ef (fun gh=>.agg #[Vi (((gJ l (fJ l k).1 1 (1 + cJ (aJ l (fJ l k).2).a 3) (bJ l (fJ l k).2)).1).op),Vi (((gJ l (fJ l k).1 1 (1 + cJ (aJ l (fJ l k).2).a 3) (bJ l (fJ l k).2)).1).k),Vi (((gJ l (fJ l k).1 1 (1 + cJ (aJ l (fJ l k).2).a 3) (bJ l (fJ l k).2)).1).n),.string (((gJ l (fJ l k).1 1 (1 + cJ (aJ l (fJ l k).2).a 3) (bJ l (fJ l k).2)).1).s),.string (((gJ l (fJ l k).1 1 (1 + cJ (aJ l (fJ l k).2).a 3) (bJ l (fJ l k).2)).1).nm),.slice (sA (gh 7)) (sN (gh 7)) (sC (gh 7))]) 5 (fun gh=>.box bg [.slice A l.length cap,Vi (((gJ l (fJ l k).1 1 (1 + cJ (aJ l (fJ l k).2).a 3) (bJ l (fJ l k).2)).2:Nat):Int)]) (fun gh hh=>IsArgs hh (gJ l (fJ l k).1 1 (1 + cJ (aJ l (fJ l k).2).a 3) (bJ l (fJ l k).2)).1 (.slice (sA (gh 7)) (sN (gh 7)) (sC (gh 7)))),.pu,.st 0 3] [(7,false)] (And.intro (fun _ _ _ s c=>c.sees s) (trivial)) ?_ ?_
    ·intro R hT hA hmono
     refine And.intro (t_v hT hA hmono (k:=9) (args:=(fun gh=>#[Vi ((aJ l (fJ l k).2).a),Vi 3])) (f:=fun gh=>Vi (cJ (aJ l (fJ l k).2).a 3)) (fun gh H sH fH lent=>wJ _ 3 _ ra0 ra1 (by omega) (by omega))) ?_
     refine And.intro (t_p hT hA (fun gh=>Vi (1 + (cJ (aJ l (fJ l k).2).a 3))) (fun gh w=>run_eq (by kernel_rfl) (jJ (by omega) (by omega)))) ?_
     refine And.intro (r_call1r hT hA hmono ⟨fun _ _=>by kernel_rfl,fun _ _=>by kernel_rfl,fun _ _=>by kernel_rfl⟩ 64 (fun u=>.agg #[Vi ((gJ l (fJ l k).1 1 (1 + cJ (aJ l (fJ l k).2).a 3) (bJ l (fJ l k).2)).1).op,Vi ((gJ l (fJ l k).1 1 (1 + cJ (aJ l (fJ l k).2).a 3) (bJ l (fJ l k).2)).1).k,Vi ((gJ l (fJ l k).1 1 (1 + cJ (aJ l (fJ l k).2).a 3) (bJ l (fJ l k).2)).1).n,.string ((gJ l (fJ l k).1 1 (1 + cJ (aJ l (fJ l k).2).a 3) (bJ l (fJ l k).2)).1).s,.string ((gJ l (fJ l k).1 1 (1 + cJ (aJ l (fJ l k).2).a 3) (bJ l (fJ l k).2)).1).nm,.slice (sA u) (sN u) (sC u)]) [0,3,4,6] 7 (by kernel_rfl) (fun _=>by kernel_rfl) 5 (GN R 5) (by kernel_rfl) (by kernel_rfl) (by kernel_rfl) bg (fun gh=>[.slice A l.length cap,Vi ((bJ l (fJ l k).2:Nat):Int)]) (fun gh=>[.slice A l.length cap,Vi (((gJ l (fJ l k).1 1 (1 + cJ (aJ l (fJ l k).2).a 3) (bJ l (fJ l k).2)).2:Nat):Int)]) (fun _=>by kernel_rfl) (fun _=>by kernel_rfl) 2 (GN R 2) (by kernel_rfl) (by kernel_rfl) v 46 9 (qK (fJ l k).1 vs) (fun _=>by kernel_rfl) 24 (fun gh=>#[Vp bg,Vi (1 + (cJ (aJ l (fJ l k).2).a 3)),v,Vi 1]) (fun _ _=>by kernel_rfl) (fun gh H sH fH rL bL=>C1.facts (R:=R) (x:=gh) (N':=fun gh=>[.slice A l.length cap,Vi (((gJ l (fJ l k).1 1 (1 + cJ (aJ l (fJ l k).2).a 3) (bJ l (fJ l k).2)).2:Nat):Int)]) (i:=7) (n:=0) (F:=(fun u=>.agg #[Vi ((gJ l (fJ l k).1 1 (1 + cJ (aJ l (fJ l k).2).a 3) (bJ l (fJ l k).2)).1).op,Vi ((gJ l (fJ l k).1 1 (1 + cJ (aJ l (fJ l k).2).a 3) (bJ l (fJ l k).2)).1).k,Vi ((gJ l (fJ l k).1 1 (1 + cJ (aJ l (fJ l k).2).a 3) (bJ l (fJ l k).2)).1).n,.string ((gJ l (fJ l k).1 1 (1 + cJ (aJ l (fJ l k).2).a 3) (bJ l (fJ l k).2)).1).s,.string ((gJ l (fJ l k).1 1 (1 + cJ (aJ l (fJ l k).2).a 3) (bJ l (fJ l k).2)).1).nm,.slice (sA u) (sN u) (sC u)])) (N:=fun u=>[.slice A l.length cap,Vi (((gJ l (fJ l k).1 1 (1 + cJ (aJ l (fJ l k).2).a 3) (bJ l (fJ l k).2)).2:Nat):Int)]) (G:=fun u hh=>IsArgs hh (gJ l (fJ l k).1 1 (1 + cJ (aJ l (fJ l k).2).a 3) (bJ l (fJ l k).2)).1 (.slice (sA u) (sN u) (sC u))) (f:=fun gh hh=>IsArgs hh (gJ l (fJ l k).1 1 (1 + cJ (aJ l (fJ l k).2).a 3) (bJ l (fJ l k).2)).1 (.slice (sA (gh 7)) (sN (gh 7)) (sC (gh 7)))) (hE1 bg (.slice A l.length cap) (bJ l (fJ l k).2) (1 + cJ (aJ l (fJ l k).2).a 3) _ _ _ (hr.sees (S2.trans (S4.trans (S6.trans (S8.trans (S12.trans sH)))))) (by omega) (by omega) (by omega) ⟨vs,rL,((hvs.sees (S8.trans (S12.trans sH)))).sees ((Sees.refl _).less bL)⟩ (by simp)) (by kernel_rfl) (by kernel_rfl) (fun _=>by kernel_rfl) (fun _ _ r=>r))) ?_
     trivial
    rintro u W20 S21 ⟨hu,-⟩
    replace hu:IsArgs W20 (gJ l (fJ l k).1 1 (1 + cJ (aJ l (fJ l k).2).a 3) (bJ l (fJ l k).2)).1 (.slice (sA u) (sN u) (sC u)):=hu
    refine aV 7 [.b 4 0,.b 0 0,.fix] [] ?_
    intro b22 W23 S24
    refine goa0 10 [.ap 2 0 (qK (fJ l k).1 vs) [[.string (fname k),Vi (1 + (cJ (aJ l (fJ l k).2).k 3)),Vi (1 + (cJ (aJ l (fJ l k).2).b 3)),Vi (((gJ l (fJ l k).1 1 (1 + cJ (aJ l (fJ l k).2).a 3) (bJ l (fJ l k).2)).1).op),Vi (((gJ l (fJ l k).1 1 (1 + cJ (aJ l (fJ l k).2).a 3) (bJ l (fJ l k).2)).1).k),Vi (((gJ l (fJ l k).1 1 (1 + cJ (aJ l (fJ l k).2).a 3) (bJ l (fJ l k).2)).1).n),.string (((gJ l (fJ l k).1 1 (1 + cJ (aJ l (fJ l k).2).a 3) (bJ l (fJ l k).2)).1).s),.string (((gJ l (fJ l k).1 1 (1 + cJ (aJ l (fJ l k).2).a 3) (bJ l (fJ l k).2)).1).nm),.slice (sA u) (sN u) (sC u)]],.b 4 0] [(72,Vi (IntKind.i64.wrap ((k:Int) + 1)),Vi ((k:Int) + 1))] ?_ (ho:=(And.intro (by rw [frl]; simp; omega) (trivial))) (hc:=(And.intro (jJ (by omega) (by omega)) (trivial)))
    intro v70 W25 S26
    refine kQ [(2,Vp br),(3,Vp bg),(4,Vp bf),(5,Vp bq),(25,Vi (1 + (cJ (aJ l 0).a 10))),(26,Vi ((k:Int) + 1))] [.row (.slice (sA v70) (sN v70) (sC v70)) 46 9 ((qK (fJ l k).1 vs)++[[.string (fname k),Vi (1 + (cJ (aJ l (fJ l k).2).k 3)),Vi (1 + (cJ (aJ l (fJ l k).2).b 3)),Vi (((gJ l (fJ l k).1 1 (1 + cJ (aJ l (fJ l k).2).a 3) (bJ l (fJ l k).2)).1).op),Vi (((gJ l (fJ l k).1 1 (1 + cJ (aJ l (fJ l k).2).a 3) (bJ l (fJ l k).2)).1).k),Vi (((gJ l (fJ l k).1 1 (1 + cJ (aJ l (fJ l k).2).a 3) (bJ l (fJ l k).2)).1).n),.string (((gJ l (fJ l k).1 1 (1 + cJ (aJ l (fJ l k).2).a 3) (bJ l (fJ l k).2)).1).s),.string (((gJ l (fJ l k).1 1 (1 + cJ (aJ l (fJ l k).2).a 3) (bJ l (fJ l k).2)).1).nm),.slice (sA u) (sN u) (sC u)]]),.box bq [Vi ((aJ l 0).k),Vi ((aJ l 0).a),Vi ((aJ l 0).b),.string ((aJ l 0).t)],.box bf [.slice (sA v70) (sN v70) (sC v70),Vz],.box bg [.slice A l.length cap,Vi (((gJ l (fJ l k).1 1 (1 + cJ (aJ l (fJ l k).2).a 3) (bJ l (fJ l k).2)).2:Nat):Int)],.box br [Vz,Vz]] [((sJ u22),0 + 0 * 1,[.string (fname 0)])] ?_
    exact vQ (k + 1) (fun X q=>⟨W25,.slice (sA v70) (sN v70) (sC v70),vs++[.slice (sA u) (sN u) (sC u)],q _ _ _ _ (qX (by rw [e1,tK hvn,e2]; try rfl)),(S6.trans (S8.trans (S12.trans (S21.trans (S24.trans S26))))),by omega,fld_src e1 (hvs.sees (S8.trans (S12.trans (S21.trans (S24.trans S26))))) (hu.sees (S24.trans S26)),slu_snoc hvl rfl⟩) (by omega)
   ·skip
    obtain ⟨e1,e2⟩:=fldT_step l k (show srcE l (fJ l k).1 (aJ l (fJ l k).2) (bJ l (fJ l k).2)=_ by unfold srcE; rw [if_neg q1,if_neg q2])
    refine iQ (t:=(1 + (cJ (aJ l (fJ l k).2).k 3)) == 2) (beq_eq_false_iff_ne.2 (by omega)) ?_
    refine go0 6 [] [] ?_
    refine iQ (t:=(1 + (cJ (aJ l (fJ l k).2).k 3)) == 3) (beq_eq_false_iff_ne.2 (by omega)) ?_
    refine aV 8 [.b 4 0,.b 0 0,.fix] [] ?_
    intro b27 W28 S29
    refine goa0 10 [.ap 2 0 (qK (fJ l k).1 vs) [[.string (fname k),Vi (1 + (cJ (aJ l (fJ l k).2).k 3)),Vi (1 + (cJ (aJ l (fJ l k).2).b 3)),Vi 0,Vi 0,Vi 0,Ve,Ve,Vz]],.b 4 0] [(72,Vi (IntKind.i64.wrap ((k:Int) + 1)),Vi ((k:Int) + 1))] ?_ (ho:=(And.intro (by rw [frl]; simp; omega) (trivial))) (hc:=(And.intro (jJ (by omega) (by omega)) (trivial)))
    intro v70 W30 S31
    refine kQ [(2,Vp br),(3,Vp bg),(4,Vp bf),(5,Vp bq),(25,Vi (1 + (cJ (aJ l 0).a 10))),(26,Vi ((k:Int) + 1))] [.row (.slice (sA v70) (sN v70) (sC v70)) 46 9 ((qK (fJ l k).1 vs)++[[.string (fname k),Vi (1 + (cJ (aJ l (fJ l k).2).k 3)),Vi (1 + (cJ (aJ l (fJ l k).2).b 3)),Vi 0,Vi 0,Vi 0,Ve,Ve,Vz]]),.box bq [Vi ((aJ l 0).k),Vi ((aJ l 0).a),Vi ((aJ l 0).b),.string ((aJ l 0).t)],.box bf [.slice (sA v70) (sN v70) (sC v70),Vz],.box bg [.slice A l.length cap,Vi ((bJ l (fJ l k).2:Nat):Int)],.box br [Vz,Vz]] [((sJ u22),0 + 0 * 1,[.string (fname 0)])] ?_
    exact vQ (k + 1) (fun X q=>⟨W30,.slice (sA v70) (sN v70) (sC v70),vs++[Vz],q _ _ _ _ (qX (by rw [e1,tK hvn,e2]; try rfl)),(S6.trans (S8.trans (S12.trans (S29.trans S31)))),by omega,fld_src e1 (hvs.sees (S8.trans (S12.trans (S29.trans S31)))) (qJ _ _ rfl),slu_snoc hvl rfl⟩) (by omega)
 ·skip
  subst hke
  have tle:=fldT_le l (iJ l)
  have fle:=xK l (iJ l)
  have frl:(qK (fJ l (iJ l)).1 vs).length=iJ l:=by rw [sK hvs.len,fle]
  have hskp:∀ d,d < 1000→ExprC l (fJ l (iJ l)).1 d:=exprC_all l _ hlen hok (by omega)
  have hE1:=hskp 1 (by omega)
  have hfm:yK l=⟨if cJ (aJ l 0).k 2=0 then (fJ l (iJ l)).1.reverse else (fJ l (iJ l)).1,(mJ l (fJ l (iJ l)).1 (eJ l) (fJ l (iJ l)).2 (eJ l)).1⟩:=rfl
  generalize fJ l (iJ l)=T at *
  refine jQ 0 (v:=v) (e:=46) (kk:=9) (l:=qK T.1 vs) ?_; intro Af cf hE_v hc_v hm_v
  rw [show (qK T.1 vs).length=(iJ l) from by first | omega | (simp; done) | (simp; omega)] at hE_v hc_v
  rw [hE_v]
  refine g_get (fun a w hJ=>own_some (hJ.rowOwn (v:=.slice Af (iJ l) cf) (e:=46) (kk:=9) (l:=qK T.1 vs) 0 (by kernel_rfl)) ((by omega))) ?_; rintro ⟨bF,rfl⟩
  obtain ⟨np1,np2,np3⟩:=nPages_le l
  refine iQ (t:=decide (((iJ l:Nat):Int) < (1 + (cJ (aJ l 0).a 10)))) (decide_eq_false (by omega)) ?_
  refine go0 2 [] [] ?_
  refine lQ ?_
  refine go0 19 [.b 1 2,.cl 9 #[Vi ((aJ l 0).b),Vi 4] (Vi (cJ (aJ l 0).b 4))] [(76,Vi (IntKind.i64.wrap (1 + (cJ (aJ l 0).b 4))),Vi ((eJ l:Nat):Int))] ?_ (ho:=(And.intro (fun H sH=>wJ _ 4 _ rb0 rb1 (by omega) (by omega)) (trivial))) (hc:=(And.intro (by rw [np3]; exact jJ (by omega) (by omega)) (trivial)))
  refine oQ 80 8 ?_
  refine mQ [0,1,0,1,1,1,1,1,1] [.block 3,.seq [1,1,1,1,1,1,1]] (fun (kp:Nat) X=>∃ (W32:Vw) (pv:Value) (us:List Value) (ws:List Value),X W32 [(2,Vp br),(3,Vp bg),(4,Vp bf),(5,Vp bq),(9,Vi ((eJ l:Nat):Int)),(77,Vi ((eJ l:Nat):Int)),(78,Vi (kp:Int))] [.row pv 80 8 (oW (mJ l T.1 (eJ l) T.2 kp).1 us ws),.row (Vs bF (iJ l) cf) 46 9 (qK T.1 vs),.box bq [Vi ((aJ l 0).k),Vi ((aJ l 0).a),Vi ((aJ l 0).b),.string ((aJ l 0).t)],.box bf [Vs bF (iJ l) cf,pv],.box bg [.slice A l.length cap,Vi (((mJ l T.1 (eJ l) T.2 kp).2:Nat):Int)],.box br [Vz,Vz]] [((sJ u22),0 + 0 * 1,[.string (fname 0)])]∧Sees W5 W32∧(kp≤eJ l)∧(AllStr W32 ((mJ l T.1 (eJ l) T.2 kp).1.map (·.fields)) us)∧(AllArgs W32 ((mJ l T.1 (eJ l) T.2 kp).1.map (·.skip)) ws)∧(∀ u∈us,.slice (sA u) (sN u) (sC u)=u)∧(∀ u∈ws,.slice (sA u) (sN u) (sC u)=u)) (fun kp=>eJ l - kp) (0) (fun X q=>⟨W5,(Vz),[],[],q _ _ _ _ ⟨rfl,by kernel_rfl⟩,Sees.refl _,Nat.zero_le _,rfl,by unfold AllArgs; rfl,(fun _ h=>by cases h),fun _ h=>by cases h⟩) ?_
  rintro kp a w ⟨W32,pv,us,ws,hJ,S33,hkp,hus,hws,hul,hwl⟩; refine pQ hJ ?_; clear hJ a w
  refine go0 6 [] [] ?_
  rcases (by omega:kp < eJ l∨kp=eJ l) with hpl | hpe
  ·have ple:=pgT_le l T.1 (eJ l) T.2 kp
   have anp:=rJ l (mJ l T.1 (eJ l) T.2 kp).2
   obtain ⟨⟨rk0,rk1⟩,-,-,-⟩:=rawAt_ok hok (mJ l T.1 (eJ l) T.2 kp).2
   refine wQ (t:=decide ((kp:Int) < ((eJ l:Nat):Int))) (decide_eq_true (by omega)) ?_
   refine go0 13 [] [] ?_
   refine cQ 4 (fun H sH=>yQ bg l (.slice A l.length cap) (mJ l T.1 (eJ l) T.2 kp).2 _ (hr.sees (S2.trans (S4.trans (S6.trans (S33.trans sH))))) (by omega) hlen) ?_; rintro _ _ W34 S35 ⟨rfl,rfl⟩
   refine go1 8 [.own,.b 0 0] [(84,Vi (IntKind.i64.wrap (49 + (kp:Int))),Vi (49 + (kp:Int)))] ?_ (hc:=(And.intro (jJ (by omega) (by omega)) (trivial)))
   intro b36
   refine qQ (.int .u8 (((UInt8.ofNat (49 + kp)).toNat:Nat):Int)) (fun w=>run_eq (v0:=.int .u8 (IntKind.u8.wrap (49 + (kp:Int)))) (by kernel_rfl) (byte_of kp (by omega))) ?_
   refine aV 1 [.fix] [] ?_
   intro bz W37 S38
   refine eQ 0 bz 0 [.int .u8 (((UInt8.ofNat (49 + kp)).toNat:Nat):Int)] fun z=>?_
   refine g_purew (.string ⟨([UInt8.ofNat (49 + kp)]).toArray⟩) (fun a w hJ=>run_text (src:=90) (dst:=9) (x:=(.tmp 86)) (b:=bz) (m:=1) (cap:=1) (l:=[UInt8.ofNat (49 + kp)]) (by kernel_rfl) (by kernel_rfl) (by kernel_rfl) Tryz.underlying90 Tryz.underlying5 Tryz.underlying9 (hJ.f (bz,0,_) (List.mem_of_getElem? (i:=0) (by kernel_rfl))) hJ.j.sees) ?_
   refine go1 16 [.own,.b 0 0,.b 5 0] [(88,.string (⟨#[112]⟩++⟨([UInt8.ofNat (49 + kp)]).toArray⟩),.string (mW kp))] ?_ (hc:=(And.intro (pg_name kp (by omega)) (trivial)))
   intro bp
   refine oQ 9 1 ?_
   refine mQ [0,1,0,1,1,1,0,0,1,1,0,0,1,0,1,1,1,1,1,1] [.block 5,.seq [1,1,1,1,0,0,1,1,0,0,1,0,1,1,1,1,1,1],.block 4,.seq [1,1,1,0,0,1,0,1,1,1,1,1,1]] (fun (ki:Nat) X=>∃ (W39:Vw) (nv:Value),X W39 [(2,Vp br),(3,Vp bg),(4,Vp bf),(5,Vp bq),(9,Vi ((eJ l:Nat):Int)),(77,Vi ((eJ l:Nat):Int)),(78,Vi (kp:Int)),(10,Vi (kp:Int)),(11,Vp b36),(12,Vp bp),(91,Vs bF (iJ l) cf),(92,Vi (iJ l:Int)),(93,Vi (ki:Int))] [.row nv 9 1 (eY (nW (T.1.take ki) (eJ l) kp)),.box bp [.string (mW kp),nv,Vi 0,Vi 0,Vi 0,Ve,Ve,Vz],.box b36 [Vi ((aJ l (mJ l T.1 (eJ l) T.2 kp).2).k),Vi ((aJ l (mJ l T.1 (eJ l) T.2 kp).2).a),Vi ((aJ l (mJ l T.1 (eJ l) T.2 kp).2).b),.string ((aJ l (mJ l T.1 (eJ l) T.2 kp).2).t)],.row pv 80 8 (oW (mJ l T.1 (eJ l) T.2 kp).1 us ws),.row (Vs bF (iJ l) cf) 46 9 (qK T.1 vs),.box bq [Vi ((aJ l 0).k),Vi ((aJ l 0).a),Vi ((aJ l 0).b),.string ((aJ l 0).t)],.box bf [Vs bF (iJ l) cf,pv],.box bg [.slice A l.length cap,Vi ((bJ l (mJ l T.1 (eJ l) T.2 kp).2:Nat):Int)],.box br [Vz,Vz]] [(bz,0,[.int .u8 (((UInt8.ofNat (49 + kp)).toNat:Nat):Int)]),((sJ u22),0 + 0 * 1,[.string (fname 0)])]∧Sees W37 W39∧(ki≤iJ l)) (fun ki=>iJ l - ki) (0) (fun X q=>⟨W37,(Vz),q _ _ _ _ ⟨rfl,by kernel_rfl⟩,Sees.refl _,Nat.zero_le _⟩) ?_
   rintro ki a w ⟨W39,nv,hJ,S40,hki⟩; refine pQ hJ ?_; clear hJ a w
   refine go0 6 [] [] ?_
   rcases (by omega:ki < iJ l∨ki=iJ l) with hil | hie
   ·obtain ⟨f,hfk⟩:∃ f,T.1[ki]?=some f:=⟨_,List.getElem?_eq_getElem (by omega)⟩
    obtain ⟨u,huk⟩:∃ u,vs[ki]?=some u:=⟨_,List.getElem?_eq_getElem (by have:=hvs.len; omega)⟩
    have hslu:=hvl u (List.mem_of_getElem? huk)
    have hrow:(qK T.1 vs)[ki]?=some (fdRow f (.slice (sA u) (sN u) (sC u))):=by rw [hslu]; exact rK hfk huk
    have hsn:=pgNames_snoc (T.1.take ki) (eJ l) kp f ki (by rw [List.length_take]; omega)
    rw [← jY T.1 ki f hfk] at hsn
    have hnl:=pgNames_len (T.1.take ki) (eJ l) kp
    rw [List.length_take] at hnl
    have hme:=mod_eq ki (eJ l) kp
    refine wQ (t:=decide ((ki:Int) < (iJ l:Int))) (decide_eq_true (by omega)) ?_
    refine go0 8 [.ix bF 0 (iJ l) cf ki] [] ?_ (ho:=(And.intro (by first | omega | (simp; omega)) (trivial)))
    refine g_rowget 4 ki 0 (g:=bF) (m:=(iJ l)) (cap:=cf) (kk:=9) (e:=46) (l:=qK T.1 vs) (r:=[.string f.name,Vi f.kind,Vi f.ty,Vi f.src.op,Vi f.src.k,Vi f.src.n,.string f.src.s,.string f.src.nm,.slice (sA u) (sN u) (sC u)]) (t:=46) (x:=(.tmp 96)) (v:=.agg #[.string f.name,Vi f.kind,Vi f.ty,Vi f.src.op,Vi f.src.k,Vi f.src.n,.string f.src.s,.string f.src.nm,.slice (sA u) (sN u) (sC u)]) (hrow) ?_
    refine go1 10 [.own,.b 0 0] [(100,Vi (IntKind.i64.wrap (((eJ l:Nat):Int) + 1)),Vi (((eJ l:Nat):Int) + 1))] ?_ (hc:=(And.intro (jJ (by omega) (by omega)) (trivial)))
    intro b41
    refine qQ (Vi ((ki:Int) % (((eJ l:Nat):Int) + 1))) (fun w=>nX (op:=.rem) (t:=3) (x:=(.tmp 98)) (y:=(.tmp 100)) (yt:=3) (by kernel_rfl) (by kernel_rfl) (by kernel_rfl) (by kernel_rfl) (run_rem (ki:Int) (((eJ l:Nat):Int) + 1) w (by omega) (by omega))) ?_
    refine go0 4 [] [] ?_
    by_cases hq:ki % (eJ l + 1)=kp
    ·rw [if_pos hq] at hsn
     rw [decide_eq_true hq] at hme
     refine wQ (t:=((ki:Int) % (((eJ l:Nat):Int) + 1)) == (kp:Int)) (hme) ?_
     refine aV 6 [.b 2 1,.b 0 0,.fix] [] ?_
     intro b42 W43 S44
     refine goa0 10 [.ap 1 0 (eY (nW (T.1.take ki) (eJ l) kp)) [[.string f.name]],.b 2 1] [(111,Vi (IntKind.i64.wrap ((ki:Int) + 1)),Vi ((ki:Int) + 1))] ?_ (ho:=(And.intro (by simp; omega) (trivial))) (hc:=(And.intro (jJ (by omega) (by omega)) (trivial)))
     intro nv2 W45 S46
     refine kQ [(2,Vp br),(3,Vp bg),(4,Vp bf),(5,Vp bq),(9,Vi ((eJ l:Nat):Int)),(77,Vi ((eJ l:Nat):Int)),(78,Vi (kp:Int)),(10,Vi (kp:Int)),(11,Vp b36),(12,Vp bp),(91,Vs bF (iJ l) cf),(92,Vi (iJ l:Int)),(93,Vi ((ki:Int) + 1))] [.row (.slice (sA nv2) (sN nv2) (sC nv2)) 9 1 ((eY (nW (T.1.take ki) (eJ l) kp))++[[.string f.name]]),.box bp [.string (mW kp),.slice (sA nv2) (sN nv2) (sC nv2),Vi 0,Vi 0,Vi 0,Ve,Ve,Vz],.box b36 [Vi ((aJ l (mJ l T.1 (eJ l) T.2 kp).2).k),Vi ((aJ l (mJ l T.1 (eJ l) T.2 kp).2).a),Vi ((aJ l (mJ l T.1 (eJ l) T.2 kp).2).b),.string ((aJ l (mJ l T.1 (eJ l) T.2 kp).2).t)],.row pv 80 8 (oW (mJ l T.1 (eJ l) T.2 kp).1 us ws),.row (Vs bF (iJ l) cf) 46 9 (qK T.1 vs),.box bq [Vi ((aJ l 0).k),Vi ((aJ l 0).a),Vi ((aJ l 0).b),.string ((aJ l 0).t)],.box bf [Vs bF (iJ l) cf,pv],.box bg [.slice A l.length cap,Vi ((bJ l (mJ l T.1 (eJ l) T.2 kp).2:Nat):Int)],.box br [Vz,Vz]] [(bz,0,[.int .u8 (((UInt8.ofNat (49 + kp)).toNat:Nat):Int)]),((sJ u22),0 + 0 * 1,[.string (fname 0)])] ?_
     exact vQ (ki + 1) (fun X q=>⟨W45,.slice (sA nv2) (sN nv2) (sC nv2),q _ _ _ _ (qX (by rw [hsn]; simp [eY])),(S40.trans (S44.trans S46)),by omega⟩) (by omega)
    ·skip
     rw [if_neg hq] at hsn
     rw [decide_eq_false hq] at hme
     refine iQ (t:=((ki:Int) % (((eJ l:Nat):Int) + 1)) == (kp:Int)) (hme) ?_
     refine go0 7 [] [(111,Vi (IntKind.i64.wrap ((ki:Int) + 1)),Vi ((ki:Int) + 1))] ?_ (hc:=(And.intro (jJ (by omega) (by omega)) (trivial)))
     refine kQ [(2,Vp br),(3,Vp bg),(4,Vp bf),(5,Vp bq),(9,Vi ((eJ l:Nat):Int)),(77,Vi ((eJ l:Nat):Int)),(78,Vi (kp:Int)),(10,Vi (kp:Int)),(11,Vp b36),(12,Vp bp),(91,Vs bF (iJ l) cf),(92,Vi (iJ l:Int)),(93,Vi ((ki:Int) + 1))] [.row nv 9 1 (eY (nW (T.1.take ki) (eJ l) kp)),.box bp [.string (mW kp),nv,Vi 0,Vi 0,Vi 0,Ve,Ve,Vz],.box b36 [Vi ((aJ l (mJ l T.1 (eJ l) T.2 kp).2).k),Vi ((aJ l (mJ l T.1 (eJ l) T.2 kp).2).a),Vi ((aJ l (mJ l T.1 (eJ l) T.2 kp).2).b),.string ((aJ l (mJ l T.1 (eJ l) T.2 kp).2).t)],.row pv 80 8 (oW (mJ l T.1 (eJ l) T.2 kp).1 us ws),.row (Vs bF (iJ l) cf) 46 9 (qK T.1 vs),.box bq [Vi ((aJ l 0).k),Vi ((aJ l 0).a),Vi ((aJ l 0).b),.string ((aJ l 0).t)],.box bf [Vs bF (iJ l) cf,pv],.box bg [.slice A l.length cap,Vi ((bJ l (mJ l T.1 (eJ l) T.2 kp).2:Nat):Int)],.box br [Vz,Vz]] [(bz,0,[.int .u8 (((UInt8.ofNat (49 + kp)).toNat:Nat):Int)]),((sJ u22),0 + 0 * 1,[.string (fname 0)])] ?_
     exact vQ (ki + 1) (fun X q=>⟨W39,nv,q _ _ _ _ (qX (by rw [hsn]; try rfl)),S40,by omega⟩) (by omega)
   ·skip
    subst hie
    have htk:T.1.take (iJ l)=T.1:=by rw [← fle,List.take_length]
    rw [htk]
    have spn:(eY (nW T.1 (eJ l) kp)).length=(nW T.1 (eJ l) kp).length:=List.length_map _
    refine jQ 0 (v:=nv) (e:=9) (kk:=1) (l:=eY (nW T.1 (eJ l) kp)) ?_; intro An cn hE_nv hc_nv hm_nv
    rw [show (eY (nW T.1 (eJ l) kp)).length=(nW T.1 (eJ l) kp).length from by first | omega | (simp; done) | (simp; omega)] at hE_nv hc_nv
    rw [hE_nv]
    refine g_freeze 0 (v:=.slice An ((nW T.1 (eJ l) kp).length) cn) (e:=9) (kk:=1) (l:=eY (nW T.1 (eJ l) kp)) ?_; intro W47 S48 fnm
    have prl:(oW (mJ l T.1 (eJ l) T.2 kp).1 us ws).length=kp:=by rw [pW (by rw [hus.len,List.length_map]) (by rw [hws.len,List.length_map]),pgT_len]
    have hul':us.length=(mJ l T.1 (eJ l) T.2 kp).1.length:=by rw [hus.len,List.length_map]
    have hwl':ws.length=(mJ l T.1 (eJ l) T.2 kp).1.length:=by rw [hws.len,List.length_map]
    have b1:=bnd1
    refine iQ (t:=decide (((iJ l:Nat):Int) < (iJ l:Int))) (decide_eq_false (by omega)) ?_
    refine go0 2 [] [] ?_
    refine lQ ?_
    refine go0 11 [.b 1 0,.cl 9 #[Vi ((aJ l (mJ l T.1 (eJ l) T.2 kp).2).k),Vi 2] (Vi (cJ (aJ l (mJ l T.1 (eJ l) T.2 kp).2).k 2))] [] ?_ (ho:=(And.intro (fun H sH=>wJ _ 2 _ rk0 rk1 (by omega) (by omega)) (trivial)))
    by_cases q0:cJ (aJ l (mJ l T.1 (eJ l) T.2 kp).2).k 2=0
    ·obtain ⟨e1,e2⟩:=pgT_step l T.1 (eJ l) T.2 kp (show wX l T.1 (aJ l (mJ l T.1 (eJ l) T.2 kp).2) (bJ l (mJ l T.1 (eJ l) T.2 kp).2)=_ by unfold wX; rw [if_pos q0])
     refine wQ (t:=(cJ (aJ l (mJ l T.1 (eJ l) T.2 kp).2).k 2) == 0) (beq_iff_eq.2 q0) ?_
     refine go0 4 [.b 5 0] [] ?_
     refine dQ 6 (fun a w hJ=>hE1 bg (.slice A l.length cap) (bJ l (mJ l T.1 (eJ l) T.2 kp).2) 2 _ _ _ (hr.sees (S2.trans (S4.trans (S6.trans (S33.trans (S35.trans (S38.trans (S40.trans (S48.trans hJ.j.sees))))))))) (by omega) (by omega) (by omega) ⟨vs,(hJ.j.rowLent (v:=Vs bF (iJ l) cf) (e:=46) (k:=9) (l:=qK T.1 vs) (b:=bg) (cs:=[.slice A l.length cap,Vi ((bJ l (mJ l T.1 (eJ l) T.2 kp).2:Nat):Int)]) 3 6 (by kernel_rfl) (by kernel_rfl)),((hvs.sees (S33.trans (S35.trans (S38.trans (S40.trans (S48.trans hJ.j.sees))))))).sees ((Sees.refl _).less (hJ.j.boxBad (b:=bg) (cs:=[.slice A l.length cap,Vi ((bJ l (mJ l T.1 (eJ l) T.2 kp).2:Nat):Int)]) 6 (by kernel_rfl)))⟩ (by simp)) ?_; rintro _ _ W49 S50 ⟨u,rfl,rfl,hu⟩
     refine aV 9 [.b 0 2,.b 5 1,.b 0 0,.fix] [] ?_
     intro b51 W52 S53
     refine goa0 10 [.ap 2 0 (oW (mJ l T.1 (eJ l) T.2 kp).1 us ws) [[.string (mW kp),.slice An ((nW T.1 (eJ l) kp).length) cn,Vi (((gJ l T.1 1 2 (bJ l (mJ l T.1 (eJ l) T.2 kp).2)).1).op),Vi (((gJ l T.1 1 2 (bJ l (mJ l T.1 (eJ l) T.2 kp).2)).1).k),Vi (((gJ l T.1 1 2 (bJ l (mJ l T.1 (eJ l) T.2 kp).2)).1).n),.string (((gJ l T.1 1 2 (bJ l (mJ l T.1 (eJ l) T.2 kp).2)).1).s),.string (((gJ l T.1 1 2 (bJ l (mJ l T.1 (eJ l) T.2 kp).2)).1).nm),.slice (sA u) (sN u) (sC u)]],.b 5 1] [(127,Vi (IntKind.i64.wrap ((kp:Int) + 1)),Vi ((kp:Int) + 1))] ?_ (ho:=(And.intro (by rw [prl]; simp; omega) (trivial))) (hc:=(And.intro (jJ (by omega) (by omega)) (trivial)))
     intro v125 W54 S55
     refine kQ [(2,Vp br),(3,Vp bg),(4,Vp bf),(5,Vp bq),(9,Vi ((eJ l:Nat):Int)),(77,Vi ((eJ l:Nat):Int)),(78,Vi ((kp:Int) + 1))] [.row (.slice (sA v125) (sN v125) (sC v125)) 80 8 ((oW (mJ l T.1 (eJ l) T.2 kp).1 us ws)++[[.string (mW kp),.slice An ((nW T.1 (eJ l) kp).length) cn,Vi (((gJ l T.1 1 2 (bJ l (mJ l T.1 (eJ l) T.2 kp).2)).1).op),Vi (((gJ l T.1 1 2 (bJ l (mJ l T.1 (eJ l) T.2 kp).2)).1).k),Vi (((gJ l T.1 1 2 (bJ l (mJ l T.1 (eJ l) T.2 kp).2)).1).n),.string (((gJ l T.1 1 2 (bJ l (mJ l T.1 (eJ l) T.2 kp).2)).1).s),.string (((gJ l T.1 1 2 (bJ l (mJ l T.1 (eJ l) T.2 kp).2)).1).nm),.slice (sA u) (sN u) (sC u)]]),.row (Vs bF (iJ l) cf) 46 9 (qK T.1 vs),.box bq [Vi ((aJ l 0).k),Vi ((aJ l 0).a),Vi ((aJ l 0).b),.string ((aJ l 0).t)],.box bf [Vs bF (iJ l) cf,.slice (sA v125) (sN v125) (sC v125)],.box bg [.slice A l.length cap,Vi (((gJ l T.1 1 2 (bJ l (mJ l T.1 (eJ l) T.2 kp).2)).2:Nat):Int)],.box br [Vz,Vz]] [((sJ u22),0 + 0 * 1,[.string (fname 0)])] ?_
     exact vQ (kp + 1) (fun X q=>⟨W54,.slice (sA v125) (sN v125) (sC v125),us++[.slice An (nW T.1 (eJ l) kp).length cn],ws++[.slice (sA u) (sN u) (sC u)],q _ _ _ _ (qX (by rw [e1,qW hul' hwl',e2]; try rfl)),(S33.trans (S35.trans (S38.trans (S40.trans (S48.trans (S50.trans (S53.trans S55))))))),by omega,by rw [e1,List.map_append]; exact AllStr.snoc (fnm.sees (S50.trans (S53.trans S55))) (hus.sees (S35.trans (S38.trans (S40.trans (S48.trans (S50.trans (S53.trans S55))))))),by rw [e1,List.map_append]; exact AllArgs.snoc (hu.sees (S53.trans S55)) (hws.sees (S35.trans (S38.trans (S40.trans (S48.trans (S50.trans (S53.trans S55))))))),slu_snoc hul rfl,slu_snoc hwl rfl⟩) (by omega)
    ·skip
     obtain ⟨e1,e2⟩:=pgT_step l T.1 (eJ l) T.2 kp (show wX l T.1 (aJ l (mJ l T.1 (eJ l) T.2 kp).2) (bJ l (mJ l T.1 (eJ l) T.2 kp).2)=_ by unfold wX; rw [if_neg q0])
     refine iQ (t:=(cJ (aJ l (mJ l T.1 (eJ l) T.2 kp).2).k 2) == 0) (beq_eq_false_iff_ne.2 q0) ?_
     refine aV 7 [.b 5 1,.b 0 0,.fix] [] ?_
     intro b56 W57 S58
     refine goa0 10 [.ap 2 0 (oW (mJ l T.1 (eJ l) T.2 kp).1 us ws) [[.string (mW kp),.slice An ((nW T.1 (eJ l) kp).length) cn,Vi 0,Vi 0,Vi 0,Ve,Ve,Vz]],.b 5 1] [(127,Vi (IntKind.i64.wrap ((kp:Int) + 1)),Vi ((kp:Int) + 1))] ?_ (ho:=(And.intro (by rw [prl]; simp; omega) (trivial))) (hc:=(And.intro (jJ (by omega) (by omega)) (trivial)))
     intro v125 W59 S60
     refine kQ [(2,Vp br),(3,Vp bg),(4,Vp bf),(5,Vp bq),(9,Vi ((eJ l:Nat):Int)),(77,Vi ((eJ l:Nat):Int)),(78,Vi ((kp:Int) + 1))] [.row (.slice (sA v125) (sN v125) (sC v125)) 80 8 ((oW (mJ l T.1 (eJ l) T.2 kp).1 us ws)++[[.string (mW kp),.slice An ((nW T.1 (eJ l) kp).length) cn,Vi 0,Vi 0,Vi 0,Ve,Ve,Vz]]),.row (Vs bF (iJ l) cf) 46 9 (qK T.1 vs),.box bq [Vi ((aJ l 0).k),Vi ((aJ l 0).a),Vi ((aJ l 0).b),.string ((aJ l 0).t)],.box bf [Vs bF (iJ l) cf,.slice (sA v125) (sN v125) (sC v125)],.box bg [.slice A l.length cap,Vi ((bJ l (mJ l T.1 (eJ l) T.2 kp).2:Nat):Int)],.box br [Vz,Vz]] [((sJ u22),0 + 0 * 1,[.string (fname 0)])] ?_
     exact vQ (kp + 1) (fun X q=>⟨W59,.slice (sA v125) (sN v125) (sC v125),us++[.slice An (nW T.1 (eJ l) kp).length cn],ws++[Vz],q _ _ _ _ (qX (by rw [e1,qW hul' hwl',e2]; try rfl)),(S33.trans (S35.trans (S38.trans (S40.trans (S48.trans (S58.trans S60)))))),by omega,by rw [e1,List.map_append]; exact AllStr.snoc (fnm.sees (S58.trans S60)) (hus.sees (S35.trans (S38.trans (S40.trans (S48.trans (S58.trans S60)))))),by rw [e1,List.map_append]; exact AllArgs.snoc (qJ _ _ rfl) (hws.sees (S35.trans (S38.trans (S40.trans (S48.trans (S58.trans S60)))))),slu_snoc hul rfl,slu_snoc hwl rfl⟩) (by omega)
  ·skip
   subst hpe
   have prl:(oW (mJ l T.1 (eJ l) T.2 (eJ l)).1 us ws).length=eJ l:=by rw [pW (by rw [hus.len,List.length_map]) (by rw [hws.len,List.length_map]),pgT_len]
   refine jQ 0 (v:=pv) (e:=80) (kk:=8) (l:=oW (mJ l T.1 (eJ l) T.2 (eJ l)).1 us ws) ?_; intro Ap cp hE_pv hc_pv hm_pv
   rw [show (oW (mJ l T.1 (eJ l) T.2 (eJ l)).1 us ws).length=(eJ l) from by first | omega | (simp; done) | (simp; omega)] at hE_pv hc_pv
   rw [hE_pv]
   refine iQ (t:=decide (((eJ l:Nat):Int) < ((eJ l:Nat):Int))) (decide_eq_false (by omega)) ?_
   refine go0 2 [] [] ?_
   refine lQ ?_
   refine go0 11 [.b 2 0,.cl 9 #[Vi ((aJ l 0).k),Vi 2] (Vi (cJ (aJ l 0).k 2))] [] ?_ (ho:=(And.intro (fun H sH=>wJ _ 2 _ k0 k1 (by omega) (by omega)) (trivial)))
   by_cases q0:cJ (aJ l 0).k 2=0
   ·refine wQ (t:=(cJ (aJ l 0).k 2) == 0) (beq_iff_eq.2 q0) ?_
    refine go0 3 [.b 3 0] [] ?_
    refine g_callset 1 (g:=bF) (m:=(iJ l)) (cap:=cf) (kk:=9) (e:=46) (l:=qK T.1 vs) (l':=(qK T.1 vs).reverse) (rev_set _ _ _ _ _ (fdRows_one T.1 vs hvl) (by omega)) ?_
    refine go0 9 [.b 3 0,.b 5 0] [] ?_
    have rF:=fdRows_rev _ _ hvs.len
    refine kQ [(2,Vp br)] [.row (.slice Ap (eJ l) cp) 80 8 (oW (mJ l T.1 (eJ l) T.2 (eJ l)).1 us ws),.row (Vs bF (iJ l) cf) 46 9 ((qK T.1 vs).reverse),.box bq [Vi ((aJ l 0).k),Vi ((aJ l 0).a),Vi ((aJ l 0).b),.string ((aJ l 0).t)],.box bf [Vs bF (iJ l) cf,.slice Ap (eJ l) cp],.box bg [.slice A l.length cap,Vi (((mJ l T.1 (eJ l) T.2 (eJ l)).2:Nat):Int)],.box br [Vs bF (iJ l) cf,.slice Ap (eJ l) cp]] [((sJ u22),0 + 0 * 1,[.string (fname 0)])] ?_
    refine hQ.toJ [.agg #[Vs bF (iJ l) cf,.slice Ap (eJ l) cp]] [] (fun a w hJ=>?_) (ix:=[5])
    have oF:=hJ.rowOwn (v:=Vs bF (iJ l) cf) (e:=46) (kk:=9) (l:=(qK T.1 vs).reverse) 1 (by kernel_rfl)
    have oP:=own_apart hJ.j 0 1 rfl rfl rfl rfl
    rw [rF] at oF
    exact ⟨_,_,oF,.slice Ap (eJ l) cp,vs.reverse,rfl,by rw [hfm,if_pos q0],by rw [hfm,if_pos q0]; exact AllSrc.rev (hvs.sees (S33.trans (own_sees hJ.j 1 rfl))),by rw [hfm]; exact ⟨us,ws,oP,(hus.sees (own_sees hJ.j 1 rfl)),(hws.sees (own_sees hJ.j 1 rfl))⟩⟩
   ·skip
    refine iQ (t:=(cJ (aJ l 0).k 2) == 0) (beq_eq_false_iff_ne.2 q0) ?_
    refine go0 9 [.b 3 0,.b 5 0] [] ?_
    refine kQ [(2,Vp br)] [.row (.slice Ap (eJ l) cp) 80 8 (oW (mJ l T.1 (eJ l) T.2 (eJ l)).1 us ws),.row (Vs bF (iJ l) cf) 46 9 (qK T.1 vs),.box bq [Vi ((aJ l 0).k),Vi ((aJ l 0).a),Vi ((aJ l 0).b),.string ((aJ l 0).t)],.box bf [Vs bF (iJ l) cf,.slice Ap (eJ l) cp],.box bg [.slice A l.length cap,Vi (((mJ l T.1 (eJ l) T.2 (eJ l)).2:Nat):Int)],.box br [Vs bF (iJ l) cf,.slice Ap (eJ l) cp]] [((sJ u22),0 + 0 * 1,[.string (fname 0)])] ?_
    refine hQ.toJ [.agg #[Vs bF (iJ l) cf,.slice Ap (eJ l) cp]] [] (fun a w hJ=>?_) (ix:=[5])
    have oF:=hJ.rowOwn (v:=Vs bF (iJ l) cf) (e:=46) (kk:=9) (l:=qK T.1 vs) 1 (by kernel_rfl)
    have oP:=own_apart hJ.j 0 1 rfl rfl rfl rfl
    exact ⟨_,_,oF,.slice Ap (eJ l) cp,vs,rfl,by rw [hfm,if_neg q0],by rw [hfm,if_neg q0]; exact (hvs.sees (S33.trans (own_sees hJ.j 1 rfl))),by rw [hfm]; exact ⟨us,ws,oP,(hus.sees (own_sees hJ.j 1 rfl)),(hws.sees (own_sees hJ.j 1 rfl))⟩⟩
theorem form_any (l:List RawD) (sl:Value) (h:Vw) (hr:RS h 4 sl (l.map RawD.cs)) (hlen:l.length * 40≤reachBytes) (hok:∀ r∈l,r.ok) :
  C0 Tryz.prog 15 #[sl] h (fun v h'=>∃ u1 u2,v=.agg #[.slice (sA u1) (sN u1) (sC u1),.slice (sA u2) (sN u2) (sC u2)]∧IsForm h' (.slice (sA u1) (sN u1) (sC u1)) (.slice (sA u2) (sN u2) (sC u2)) (yK l)):=by
 intro q1 q2 q3 q4
 refine (form_o l sl h hr hlen hok q1 q2 q3 q4).mono ?_
 rintro e w' ⟨v,Bo,rfl,hl,hB,hm,u,fl,ho,u2,vs,rfl,rfl,h2,h3⟩
 have s:Sees ⟨w',u.ownBlock.toList++h.bad⟩ ⟨w',h.bad⟩:=⟨Nat.le_refl _,fun _ _ _=>rfl,fun b hb _=>List.mem_append_right _ hb⟩
 have r1:RS ⟨w',h.bad⟩ 9 u (qK (yK l).fields vs):=row_rs ho fun b hb hbad=>by have:=(ho.1.lt b hb).1; have:=q4 b hbad; omega
 have k3:=h3.sees s
 have k2:=h2.sees s
 obtain ⟨A,c,rfl,-⟩:=r1.form
 obtain ⟨us,ws,r2,-⟩:=id k3
 obtain ⟨A',c',rfl,-⟩:=r2.form
 exact ⟨_,Bo,rfl,hl,hB,hm,.slice A _ c,.slice A' _ c',rfl,⟨vs,r1,k2⟩,k3⟩
end Go.Proofs.YthplkompdehjlaaGreatDoor
namespace Go.Proofs.YthplkompdehjlaaGreatDoor
open Go.RowKit
set_option linter.unusedVariables false
theorem fname_inj {i j:Nat} (hi:i < 10) (hj:j < 10) (h:fname i=fname j):i=j:=by
 have key:∀ i,i < 10→∀ j,j < 10→(fname i).data=(fname j).data→i=j:=by decide
 exact key i hi j hj (congrArg ByteArray.data h)
theorem fldT_names (l:List RawD):∀ k,(fJ l k).1.map (fun f:Fd=>f.name)=(List.range k).map fname
 | 0=>rfl
 | k + 1=>by
  show ((fJ l k).1++[_]).map (fun f:Fd=>f.name)=_
  rw [List.map_append,fldT_names l k,List.range_succ,List.map_append]; rfl
theorem form_mem {l:List RawD} {f:Fd}:f∈(yK l).fields↔f∈(fJ l (iJ l)).1:=by
 show f∈formF l↔_
 unfold formF
 split
 ·rw [List.mem_reverse]
 ·exact Iff.rfl
theorem form_nodup (l:List RawD):((yK l).fields.map (·.name)).Nodup:=by
 have hn:=(rV l).2.1
 have h:((fJ l (iJ l)).1.map (·.name)).Nodup:=by
  rw [fldT_names]
  refine List.pairwise_map.2 (List.nodup_range.imp_of_mem ?_)
  intro a b ha hb hab e
  exact hab (fname_inj (by have:=List.mem_range.1 ha; omega) (by have:=List.mem_range.1 hb; omega) e)
 show ((formF l).map (·.name)).Nodup
 unfold formF
 split
 ·rw [List.map_reverse]; exact (List.reverse_perm _).nodup_iff.2 h
 ·exact h
theorem form_len (l:List RawD):(yK l).fields.length=iJ l:=by
 show (formF l).length=_
 unfold formF
 split
 ·rw [List.length_reverse,xK]
 ·exact xK l _
theorem form_pages (l:List RawD):(yK l).pages.length=eJ l:=pgT_len _ _ _ _ _
theorem fldT_each (l:List RawD):∀ k,∀ f∈(fJ l k).1,∃ i,i < k∧f.name=fname i∧(1≤f.kind∧f.kind≤3)∧(1≤f.ty∧f.ty≤3)∧(f.kind=1→f.src=zE)
 | 0,f,hf=>by cases hf
 | k + 1,f,hf=>by
  have hf:f∈(fJ l k).1++[_]:=hf
  rcases List.mem_append.1 hf with hf | hf
  ·obtain ⟨i,h1,h2⟩:=fldT_each l k f hf
   exact ⟨i,by omega,h2⟩
  ·obtain rfl:=List.mem_singleton.1 hf
   have p1:=wW (aJ l (fJ l k).2).k 3 (by omega)
   have p2:=wW (aJ l (fJ l k).2).b 3 (by omega)
   refine ⟨k,by omega,rfl,⟨by simp only; omega,by simp only; omega⟩,⟨by simp only; omega,by simp only; omega⟩,fun h=>?_⟩
   have h:1 + cJ (aJ l (fJ l k).2).k 3=1:=h
   show (srcE l (fJ l k).1 (aJ l (fJ l k).2) (bJ l (fJ l k).2)).1=zE
   unfold srcE
   rw [if_neg (by omega),if_neg (by omega)]
theorem form_c (l:List RawD) (sl:Value) (h:Vw) (hr:RS h 4 sl (l.map RawD.cs)) (hlen:l.length * 40≤reachBytes) (hok:∀ r∈l,r.ok) :
  C0 Tryz.prog 15 #[sl] h (fun v h'=>∃ A c B d,v=.agg #[.slice A (yK l).fields.length c,.slice B (yK l).pages.length d]∧IsForm h' (.slice A (yK l).fields.length c) (.slice B (yK l).pages.length d) (yK l)):=by
 refine (form_any l sl h hr hlen hok).mono fun v h' _=>?_
 rintro ⟨u1,u2,rfl,hf⟩
 obtain ⟨vs,hrs,hsrc⟩:=hf.fields
 obtain ⟨us,ws,hps,hst,hag⟩:=hf.pages
 obtain ⟨A,c,e1,-⟩:=hrs.form
 obtain ⟨B,d,e2,-⟩:=hps.form
 rw [sK hsrc.len] at e1
 rw [pW (by rw [hst.len,List.length_map]) (by rw [hag.len,List.length_map])] at e2
 rw [e1,e2] at hf ⊢
 exact ⟨A,c,B,d,rfl,hf⟩
end Go.Proofs.YthplkompdehjlaaGreatDoor
namespace Go.Proofs.YthplkompdehjlaaGreatDoor
open Go.RowKit
set_option linter.unusedVariables false
theorem fname_ok {k:Nat} (h:k < 10):oJ (fname k).data.toList:=by
 match k,h with
 | 0,_=>exact ⟨by decide,by decide,⟨_,rfl,by decide⟩,by decide,by decide⟩
 | 1,_=>exact ⟨by decide,by decide,⟨_,rfl,by decide⟩,by decide,by decide⟩
 | 2,_=>exact ⟨by decide,by decide,⟨_,rfl,by decide⟩,by decide,by decide⟩
 | 3,_=>exact ⟨by decide,by decide,⟨_,rfl,by decide⟩,by decide,by decide⟩
 | 4,_=>exact ⟨by decide,by decide,⟨_,rfl,by decide⟩,by decide,by decide⟩
 | 5,_=>exact ⟨by decide,by decide,⟨_,rfl,by decide⟩,by decide,by decide⟩
 | 6,_=>exact ⟨by decide,by decide,⟨_,rfl,by decide⟩,by decide,by decide⟩
 | 7,_=>exact ⟨by decide,by decide,⟨_,rfl,by decide⟩,by decide,by decide⟩
 | 8,_=>exact ⟨by decide,by decide,⟨_,rfl,by decide⟩,by decide,by decide⟩
 | 9,_=>exact ⟨by decide,by decide,⟨_,rfl,by decide⟩,by decide,by decide⟩
theorem tyF_mem:∀ {fs:List Fd},(fs.map (fun f:Fd=>f.name)).Nodup→∀ f∈fs,tyF fs f.name=some f.ty
 | [],_,f,hf=>by cases hf
 | g :: fs,hd,f,hf=>by
  have hd':=List.nodup_cons.1 hd
  unfold tyF
  rcases List.mem_cons.1 hf with rfl | hf
  ·rw [if_pos ((Go.MapKept.bytes_beq _ _).2 rfl)]
  ·rw [if_neg (fun q=>?_)]
   ·exact tyF_mem hd'.2 f hf
   ·have e:=(Go.MapKept.bytes_beq _ _).1 q
    exact hd'.1 (List.mem_map.2 ⟨f,hf,e⟩)
theorem fldT_made (l:List RawD):∀ k,∀ f∈(fJ l k).1,∃ i,i < k∧f=⟨fname i,1 + cJ (aJ l (fJ l i).2).k 3,1 + cJ (aJ l (fJ l i).2).b 3,(srcE l (fJ l i).1 (aJ l (fJ l i).2) (bJ l (fJ l i).2)).1⟩
 | 0,f,hf=>by cases hf
 | k + 1,f,hf=>by
  have hf:f∈(fJ l k).1++[_]:=hf
  rcases List.mem_append.1 hf with hf | hf
  ·obtain ⟨i,h1,h2⟩:=fldT_made l k f hf
   exact ⟨i,by omega,h2⟩
  ·exact ⟨k,by omega,List.mem_singleton.1 hf⟩
theorem fldT_sub (l:List RawD) {i k:Nat} (h:i≤k):∀ f∈(fJ l i).1,f∈(fJ l k).1:=by
 induction k with
 | zero=>intro f hf; rw [show i=0 by omega] at hf; cases hf
 | succ k ih =>
  intro f hf
  by_cases e:i=k + 1
  ·rw [e] at hf; exact hf
  ·show f∈(fJ l k).1++[_]
   exact List.mem_append_left _ (ih (by omega) f hf)
theorem fldT_names_ok (l:List RawD) {k:Nat} (hk:k≤10):∀ f∈(fJ l k).1,oJ f.name.data.toList:=fun f hf=>by
 obtain ⟨i,h1,rfl⟩:=fldT_made l k f hf
 exact fname_ok (by omega)
theorem src_ok (l:List RawD) (i:Nat) (hi:i < 10) {g:ByteArray→Option Int} (hg:∀ f∈(fJ l i).1,g f.name=some f.ty) (h:cJ (aJ l (fJ l i).2).k 3≠0) :
  ∃ t,1≤t∧t≤3∧(cJ (aJ l (fJ l i).2).k 3=1→t=1 + cJ (aJ l (fJ l i).2).b 3)∧tyE g (srcE l (fJ l i).1 (aJ l (fJ l i).2) (bJ l (fJ l i).2)).1=(t,0) ∧
   WfE (srcE l (fJ l i).1 (aJ l (fJ l i).2) (bJ l (fJ l i).2)).1∧(szE (srcE l (fJ l i).1 (aJ l (fJ l i).2) (bJ l (fJ l i).2)).1).1≤13∧(szE (srcE l (fJ l i).1 (aJ l (fJ l i).2) (bJ l (fJ l i).2)).1).2≤3:=by
 have hn:=fldT_names_ok l (k:=i) (by omega)
 have pk:=wW (aJ l (fJ l i).2).k 3 (by omega)
 have pb:=wW (aJ l (fJ l i).2).b 3 (by omega)
 have pa:=wW (aJ l (fJ l i).2).a 3 (by omega)
 unfold srcE
 by_cases h1:cJ (aJ l (fJ l i).2).k 3=1
 ·rw [if_pos h1]
  obtain ⟨a,b,c⟩:=genE_ok l (fJ l i).1 hn 2 (1 + cJ (aJ l (fJ l i).2).b 3) (bJ l (fJ l i).2) (by omega) (by omega)
  exact ⟨1 + cJ (aJ l (fJ l i).2).b 3,by omega,by omega,fun _=>rfl,ty_gen hg l 2 _ _ (by omega) (by omega),a,b,c⟩
 ·rw [if_neg h1,if_pos (by omega)]
  obtain ⟨a,b,c⟩:=genE_ok l (fJ l i).1 hn 1 (1 + cJ (aJ l (fJ l i).2).a 3) (bJ l (fJ l i).2) (by omega) (by omega)
  have e1:cntE 1=4:=rfl
  exact ⟨1 + cJ (aJ l (fJ l i).2).a 3,by omega,by omega,fun q=>absurd q h1,ty_gen hg l 1 _ _ (by omega) (by omega),a,by omega,by omega⟩
theorem form_okF (l:List RawD) (fs:List Fd) (hd:(fs.map (fun f:Fd=>f.name)).Nodup) (hs:∀ f∈(fJ l (iJ l)).1,f∈fs):∀ f∈(fJ l (iJ l)).1,OkF fs f:=fun f hf=>by
 have hn:=(rV l).2.1
 obtain ⟨i,hi,rfl⟩:=fldT_made l _ f hf
 have pk:=wW (aJ l (fJ l i).2).k 3 (by omega)
 have pb:=wW (aJ l (fJ l i).2).b 3 (by omega)
 have hg:∀ f∈(fJ l i).1,tyF fs f.name=some f.ty:=fun f hf=>tyF_mem hd f (hs f (fldT_sub l (by omega) f hf))
 have hso:=fun h=>src_ok l i (by omega) hg h
 refine ⟨fname_ok (by omega),by simp only; omega,by simp only; omega,by simp only; omega,by simp only; omega,fun h=>?_,fun h=>?_,fun h=>?_,fun h=>?_⟩
 ·simp only at h ⊢
  unfold srcE
  rw [if_neg (by omega),if_neg (by omega)]
 ·simp only at h ⊢
  obtain ⟨t,-,-,-,-,a,b,c⟩:=hso (by omega)
  exact ⟨a,by omega,by unfold chkE; rw [if_neg (by omega),if_neg (by omega)]⟩
 ·simp only at h ⊢
  obtain ⟨t,-,-,e,q,-⟩:=hso (by omega)
  rw [q,e (by omega)]
 ·simp only at h ⊢
  obtain ⟨t,a,b,-,q,-⟩:=hso (by omega)
  exact ⟨t,a,b,q⟩
theorem form_okFs (l:List RawD) (fs:List Fd) (hd:(fs.map (fun f:Fd=>f.name)).Nodup) (hm:∀ f,f∈fs↔f∈(yK l).fields) (hl:fs.length≤14):OkFs fs :=
 ⟨fun f hf=>form_okF l fs hd (fun g hg=>(hm g).2 (form_mem.2 hg)) f (form_mem.1 ((hm f).1 hf)),hd,hl⟩
end Go.Proofs.YthplkompdehjlaaGreatDoor
namespace Go.Proofs.YthplkompdehjlaaGreatDoor
open Go.RowKit
def smallX:Ex:=.mk 8 0 0 ⟨#[]⟩ ⟨#[]⟩ [.mk 2 0 0 ⟨#[]⟩ ⟨#[97]⟩ [],.mk 1 1 1 ⟨#[]⟩ ⟨#[]⟩ []]
def smallB:Ex:=.mk 2 0 0 ⟨#[]⟩ ⟨#[98]⟩ []
def smallF:Fm:=⟨[⟨⟨#[98]⟩,2,1,smallX⟩,⟨⟨#[97]⟩,1,1,zE⟩,⟨⟨#[99]⟩,3,3,smallB⟩],[⟨⟨#[112,49]⟩,[⟨#[97]⟩],zE⟩,⟨⟨#[112,50]⟩,[⟨#[99]⟩],zE⟩]⟩
theorem small_any (h:Vw):C0 Tryz.prog 17 #[] h (fun v h'=>∃ A c B d,v=.agg #[.slice A 3 c,.slice B 2 d]∧IsForm h' (.slice A 3 c) (.slice B 2 d) smallF):=by
 refine fQ Tryz.func17 (c:=Tryz.f17.body.getD .skip) (N:=19) ?_
 intro hbx hbad Q hQ
 refine gov3 23 [.own,.fix,.own,.b 0 0,.b 0 0] [] ?_
 intro b1 bx b2 W3 S4
 refine eQ 0 bx 0 [Vi 2,Vi 0,Vi 0,Ve,.string ⟨#[97]⟩,Vz,Vi 1,Vi 1,Vi 1,Ve,Ve,Vz] fun x=>?_
 refine gov3 5 [.fix,.fix,.fix] [] ?_
 intro bf bs bt W5 S6
 refine eQ 2 bf 0 [.string ⟨#[98]⟩,Vi 2,Vi 1,Vi 8,Vi 0,Vi 0,Ve,Ve,Vs bx 2 2,.string ⟨#[97]⟩,Vi 1,Vi 1,Vi 0,Vi 0,Vi 0,Ve,Ve,Vz,.string ⟨#[99]⟩,Vi 3,Vi 3,Vi 2,Vi 0,Vi 0,Ve,.string ⟨#[98]⟩,Vz] fun f=>?_
 refine eQ 1 bs 0 [.string ⟨#[97]⟩] fun s=>?_
 refine eQ 0 bt 0 [.string ⟨#[99]⟩] fun t=>?_
 refine aV 6 [.fix,.b 1 0] [] ?_
 intro bp W7 S8
 refine eQ 0 bp 0 [.string ⟨#[112,49]⟩,Vs bs 1 1,Vi 0,Vi 0,Vi 0,Ve,Ve,Vz,.string ⟨#[112,50]⟩,Vs bt 1 1,Vi 0,Vi 0,Vi 0,Ve,Ve,Vz] fun p=>?_
 refine hQ.toJ [.agg #[Vs bf 3 3,Vs bp 2 2]] [] (fun a w hJ=>?_) (ix:=[1])
 have N:∀ x:Ex,x.args=[]→IsArgs ⟨w,h.bad⟩ x (.slice none 0 0):=qJ _
 have cx:Cells ⟨w,h.bad⟩ bx 0 (mK smallX.args [.slice none 0 0,.slice none 0 0]).flatten:=(hJ.f (_,_,_) (List.mem_of_getElem? (i:=4) (by kernel_rfl))).sees hJ.j.out
 have cf:Cells ⟨w,h.bad⟩ bf 0 (qK smallF.fields [.slice (some ⟨bx,0,none⟩) 2 2,.slice none 0 0,.slice none 0 0]).flatten:=(hJ.f (_,_,_) (List.mem_of_getElem? (i:=3) (by kernel_rfl))).sees hJ.j.out
 have cs:Cells ⟨w,h.bad⟩ bs 0 (eY [⟨#[97]⟩]).flatten:=(hJ.f (_,_,_) (List.mem_of_getElem? (i:=2) (by kernel_rfl))).sees hJ.j.out
 have ct:Cells ⟨w,h.bad⟩ bt 0 (eY [⟨#[99]⟩]).flatten:=(hJ.f (_,_,_) (List.mem_of_getElem? (i:=1) (by kernel_rfl))).sees hJ.j.out
 have cp:Cells ⟨w,h.bad⟩ bp 0 (oW smallF.pages [.slice (some ⟨bs,0,none⟩) 1 1,.slice (some ⟨bt,0,none⟩) 1 1] [.slice none 0 0,.slice none 0 0]).flatten:=(hJ.f (_,_,_) (List.mem_of_getElem? (i:=0) (by kernel_rfl))).sees hJ.j.out
 have rx:=mX (k:=6) (mK smallX.args [.slice none 0 0,.slice none 0 0]) (fun r hr=>by simp [smallX,Ex.args] at hr; rcases hr with rfl | rfl <;> rfl) (show (2:Nat)≤maxLen by decide) cx
 have rf:=mX (k:=9) (qK smallF.fields [.slice (some ⟨bx,0,none⟩) 2 2,.slice none 0 0,.slice none 0 0]) (fun r hr=>by simp [smallF,qK] at hr; rcases hr with rfl | rfl | rfl <;> rfl) (show (3:Nat)≤maxLen by decide) cf
 have rs:=mX (k:=1) (eY [⟨#[97]⟩]) (fun r hr=>by simp at hr; rw [hr]; rfl) (by decide) cs
 have rt:=mX (k:=1) (eY [⟨#[99]⟩]) (fun r hr=>by simp at hr; rw [hr]; rfl) (by decide) ct
 have rp:=mX (k:=8) (oW smallF.pages [.slice (some ⟨bs,0,none⟩) 1 1,.slice (some ⟨bt,0,none⟩) 1 1] [.slice none 0 0,.slice none 0 0]) (fun r hr=>by simp [smallF,oW] at hr; rcases hr with rfl | rfl <;> rfl) (show (2:Nat)≤maxLen by decide) cp
 have nil0:AllArgs ⟨w,h.bad⟩ [] []:=by unfold AllArgs; rfl
 have one:∀ {x:Ex} {l:List Ex} {u:Value} {us:List Value},IsArgs ⟨w,h.bad⟩ x u→AllArgs ⟨w,h.bad⟩ l us→AllArgs ⟨w,h.bad⟩ (x :: l) (u :: us):=fun a b=>by unfold AllArgs; exact ⟨_,_,rfl,a,b⟩
 have ax:IsArgs ⟨w,h.bad⟩ smallX (.slice (some ⟨bx,0,none⟩) 2 2):=IsArgs.mk rx (one (N _ rfl) (one (N _ rfl) nil0))
 exact ⟨some ⟨bf,0,none⟩,3,some ⟨bp,0,none⟩,2,rfl,⟨_,rf,one ax (one (N _ rfl) (one (N smallB rfl) nil0))⟩,⟨_,_,rp,⟨_,_,rfl,rs,_,_,rfl,rt,rfl⟩,one (N _ rfl) (one (N _ rfl) nil0)⟩⟩
end Go.Proofs.YthplkompdehjlaaGreatDoor
