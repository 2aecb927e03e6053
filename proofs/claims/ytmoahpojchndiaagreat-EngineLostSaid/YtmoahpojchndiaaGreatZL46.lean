/-
  Contracts of package engine: Copy, numbers, calls, done.
-/
import Derived.Test.YtmoahpojchndiaaGreatZL9
import Derived.Test.YtmoahpojchndiaaGreatZL42
import Derived.Test.YtmoahpojchndiaaGreatZL44
import Derived.Test.YtmoahpojchndiaaGreatZL45
import Derived.Test.YtmoahpojchndiaaGreatZL34
import Derived.Test.YtmoahpojchndiaaGreatZL28
import Derived.Test.YtmoahpojchndiaaGreatZL38
import Derived.Test.YtmoahpojchndiaaGreatZL41
set_option maxRecDepth 100000
namespace Go.Proofs.YtmoahpojchndiaaGreat
open Go.RowKit
set_option linter.unusedVariables false
def agJ (i:Nat):Value→Value
 | .agg vs=>vs.getD i undef
 | _=>undef
theorem zE_small:(szE zE).1 < 1000000:=by
 rw [qY]
 show 1 + (szL ([]:List Ex)).1 < 1000000
 rw [szL]; decide
theorem OkFm.small {f:Fm} {ρ:List Int} {lv:Nat→Nat} (h:OkFm f ρ lv):(∀ g∈f.fields,(szE g.src).1 < 1000000)∧∀ g∈f.pages,(szE g.skip).1 < 1000000:=by
 refine ⟨fun g hg=>?_,fun g hg=>?_⟩
 ·have hF:=h.fields.each g hg
  by_cases k:g.kind=1
  ·rw [hF.inp k]; exact zE_small
  ·have:=(hF.wf k).2.1; omega
 ·rcases h.pages.skip g hg with e | e
  ·rw [e]; exact zE_small
  ·exact e.2.2.1
theorem shCopy_any (f:Fm) (ρ:List Int) (lv:Nat→Nat) (hok:OkFm f ρ lv) (fv pv:Value) (h:Vw) (hf:IsForm h fv pv f) :
  C0 Tryz.prog 49 #[.agg #[fv,pv]] h (fun r h'=>∃ u,r=.agg #[.slice (sA (agJ 0 u)) (sN (agJ 0 u)) (sC (agJ 0 u)),.slice (sA (agJ 1 u)) (sN (agJ 1 u)) (sC (agJ 1 u))]∧IsForm h' (.slice (sA (agJ 0 u)) (sN (agJ 0 u)) (sC (agJ 0 u))) (.slice (sA (agJ 1 u)) (sN (agJ 1 u)) (sC (agJ 1 u))) f):=by
 obtain ⟨hs1,hs2⟩:=hok.small
 have few:=hok.fields.few
 have hm:=hok.pages.few
 have hF:=fun v H q=>fdCopy_any f.fields v H q hs1 (by omega)
 have hP:=fun v H q=>pgCopy_any f.pages v H q hs2 (fun p hp=>by have:=hok.pages.fl p hp; omega) (by omega)
 obtain ⟨vs,A,c,rfl,-,-,-,-,-,-⟩:=cQ hf.fields
 obtain ⟨us,ws,B,d,rfl,-,-,-,-,-,-⟩:=pgs_open hf.pages
 generalize f.fields.length=n at *
 generalize f.pages.length=m at *
 refine oQ Tryz.func49 (c:=Tryz.f49.body.getD .skip) (N:=10) ?_
 intro hbx hbad Q hQ
 refine go2 7 [.own,.own] [] ?_
 intro b1 b2
 refine cV 8 0 [.pu,.ld 1 0,.f (fun gh=>.slice (sA (gh 2)) (sN (gh 2)) (sC (gh 2))) (fun gh hh=>IsFds hh (.slice (sA (gh 2)) (sN (gh 2)) (sC (gh 2))) f.fields),.pu,.ld 1 1,.f (fun gh=>.slice (sA (gh 5)) (sN (gh 5)) (sC (gh 5))) (fun gh hh=>IsPgs hh (.slice (sA (gh 5)) (sN (gh 5)) (sC (gh 5))) f.pages),.pu,.st 0 0] [(2,false),(5,false)] (And.intro (fun _ _ _ s c=>c.sees s) (And.intro (fun _ _ _ s c=>c.sees s) (trivial))) ?_ ?_
 ·intro R hT hA hmono
  refine And.intro (jX hT hA hmono ⟨fun _ _=>by kernel_rfl,fun _ _=>by kernel_rfl,fun _ _=>by kernel_rfl⟩ 5 (fun u=>.slice (sA u) (sN u) (sC u)) [1] 2 94 (fun gh=>#[.slice A n c]) (fun gh H sH fH lent=>C0.facts (R:=R) (x:=gh) (i:=2) (n:=0) (F:=(fun u=>.slice (sA u) (sN u) (sC u))) (G:=fun u hh=>IsFds hh (.slice (sA u) (sN u) (sC u)) f.fields) (f:=fun gh hh=>IsFds hh (.slice (sA (gh 2)) (sN (gh 2)) (sC (gh 2))) f.fields) (hF _ _ ((hf.sees sH)).fields) (by kernel_rfl) (by kernel_rfl) (fun _ _ r=>r))) ?_
  refine And.intro (jX hT hA hmono ⟨fun _ _=>by kernel_rfl,fun _ _=>by kernel_rfl,fun _ _=>by kernel_rfl⟩ 8 (fun u=>.slice (sA u) (sN u) (sC u)) [2,4] 5 95 (fun gh=>#[.slice B m d]) (fun gh H sH fH lent=>C0.facts (R:=R) (x:=gh) (i:=5) (n:=1) (F:=(fun u=>.slice (sA u) (sN u) (sC u))) (G:=fun u hh=>IsPgs hh (.slice (sA u) (sN u) (sC u)) f.pages) (f:=fun gh hh=>IsPgs hh (.slice (sA (gh 5)) (sN (gh 5)) (sC (gh 5))) f.pages) (hP _ _ ((hf.sees sH)).pages) (by kernel_rfl) (by kernel_rfl) (fun _ _ r=>r))) ?_
  trivial
 rintro u5 u8 W3 S4 ⟨f5,f8,-⟩
 replace f5:IsFds W3 (.slice (sA u5) (sN u5) (sC u5)) f.fields:=f5
 replace f8:IsPgs W3 (.slice (sA u8) (sN u8) (sC u8)) f.pages:=f8
 refine go0 2 [] [] ?_
 refine hQ.to [.agg #[.slice (sA u5) (sN u5) (sC u5),.slice (sA u8) (sN u8) (sC u8)]] (fun H sH=>?_) (ix:=[0])
 exact ⟨.agg #[u5,u8],rfl,(f5.sees sH),(f8.sees sH)⟩
structure Eg where
 fm:Fm
 pol:Pol
 inp:Env
 calls:List Cl
 vals:List Vl
 now:Int
 last:Int
structure IsEng (h:Vw) (u:Value) (E:Eg):Prop where
 form:IsForm h (.slice (sA (agJ 0 u)) (sN (agJ 0 u)) (sC (agJ 0 u))) (.slice (sA (agJ 1 u)) (sN (agJ 1 u)) (sC (agJ 1 u))) E.fm
 inp:RS h 7 (.slice (sA (agJ 2 u)) (sN (agJ 2 u)) (sC (agJ 2 u))) (yK E.inp)
 calls:RS h 10 (.slice (sA (agJ 3 u)) (sN (agJ 3 u)) (sC (agJ 3 u))) (gK E.calls)
 vals:RS h 3 (.slice (sA (agJ 4 u)) (sN (agJ 4 u)) (sC (agJ 4 u))) (xY E.vals)
theorem IsEng.sees {h h':Vw} {u:Value} {E:Eg} (k:IsEng h u E) (s:Sees h h'):IsEng h' u E:=⟨k.form.sees s,k.inp.sees s,k.calls.sees s,k.vals.sees s⟩
structure EgOk (E:Eg) (ρ:List Int) (lv:Nat→Nat):Prop where
 fm:OkFm E.fm ρ lv
 one:1≤E.fm.fields.length
 pol:E.pol.ok
 ki:∀ q∈E.inp,q.2.known
 k0:∀ q∈E.inp,toldE E.fm.fields q.1 q.2.k=0
 once:(E.inp.map (·.1)).Nodup
 li:E.inp.length≤100
 calls:CallsOk E.fm.fields E.pol E.last E.calls
 vlen:E.vals.length=E.fm.fields.length
 n0:0≤E.now
 n1:E.now≤1073741824
 l0:0≤E.last
 l1:E.last≤1073741810
theorem EgOk.ti {E:Eg} {ρ:List Int} {lv:Nat→Nat} (h:EgOk E ρ lv):factsV E.fm.fields [] E.inp=0:=factsV_ok _ _ [] h.k0 h.once
def CopR (E:Eg) (v:Value) (Bo:List Ent) (H:Vw):Prop:=∃ u,v=.agg #[.slice (sA (agJ 0 u)) (sN (agJ 0 u)) (sC (agJ 0 u)),.slice (sA (agJ 1 u)) (sN (agJ 1 u)) (sC (agJ 1 u)),.int .i64 E.pol.t,.int .i64 E.pol.b,.int .i64 E.pol.c,.slice (sA (agJ 2 u)) (sN (agJ 2 u)) (sC (agJ 2 u)),.slice (sA (agJ 3 u)) (sN (agJ 3 u)) (sC (agJ 3 u)),.slice (sA (agJ 4 u)) (sN (agJ 4 u)) (sC (agJ 4 u)),.int .i64 E.now,.int .i64 E.last]∧Bo=[.row (.slice (sA (agJ 2 u)) (sN (agJ 2 u)) (sC (agJ 2 u))) 51 7 (yK E.inp),.row (.slice (sA (agJ 3 u)) (sN (agJ 3 u)) (sC (agJ 3 u))) 44 10 (gK E.calls),.row (.slice (sA (agJ 4 u)) (sN (agJ 4 u)) (sC (agJ 4 u))) 42 3 (xY E.vals)]∧IsForm H (.slice (sA (agJ 0 u)) (sN (agJ 0 u)) (sC (agJ 0 u))) (.slice (sA (agJ 1 u)) (sN (agJ 1 u)) (sC (agJ 1 u))) E.fm
theorem engCopy_con (E:Eg) (ρ:List Int) (lv:Nat→Nat) (hok:EgOk E ρ lv) (w:Value) (h:Vw) (hE:IsEng h w E) :
  ConE Tryz.prog 16 #[.agg #[.slice (sA (agJ 0 w)) (sN (agJ 0 w)) (sC (agJ 0 w)),.slice (sA (agJ 1 w)) (sN (agJ 1 w)) (sC (agJ 1 w)),.int .i64 E.pol.t,.int .i64 E.pol.b,.int .i64 E.pol.c,.slice (sA (agJ 2 w)) (sN (agJ 2 w)) (sC (agJ 2 w)),.slice (sA (agJ 3 w)) (sN (agJ 3 w)) (sC (agJ 3 w)),.slice (sA (agJ 4 w)) (sN (agJ 4 w)) (sC (agJ 4 w)),.int .i64 E.now,.int .i64 E.last]] h [] (CopR E):=by
 have few:=hok.fm.fields.few
 have hcl:=hok.calls.len
 have hvl:=hok.vlen
 have hli:=hok.li
 have hS:=fun fv pv H q=>shCopy_any E.fm ρ lv hok.fm fv pv H q
 have h1:=fun v H q=>c_cloneFt (h:=H) (v:=v) (l:=E.inp) q (by omega)
 have h2:=fun v H q=>c_cloneCl (h:=H) (v:=v) (l:=E.calls) q (by omega)
 have h3:=fun v H q=>c_cloneVl (h:=H) (v:=v) (l:=E.vals) q (by omega)
 refine g_conE Tryz.func16 (c:=Tryz.f16.body.getD .skip) (N:=20) ?_
 intro hbad Q hQ
 refine go2 10 [.own,.own,.b 1 0] [] ?_
 intro b1 b2
 refine lQ (fun H sH=>hS _ _ _ ((hE.sees sH)).form) ?_; rintro _ W3 S4 ⟨uc,rfl,hfc⟩
 refine go0 5 [.b 1 0] [] ?_
 refine cV 15 3 [.pu,.ld 4 5,.e (fun gh=>.slice (sA (gh 2)) (sN (gh 2)) (sC (gh 2))) 0 (fun gh=>.row (.slice (sA (gh 2)) (sN (gh 2)) (sC (gh 2))) 51 7 (yK E.inp)),.pu,.ld 4 6,.e (fun gh=>.slice (sA (gh 5)) (sN (gh 5)) (sC (gh 5))) 1 (fun gh=>.row (.slice (sA (gh 5)) (sN (gh 5)) (sC (gh 5))) 44 10 (gK E.calls)),.pu,.ld 4 7,.e (fun gh=>.slice (sA (gh 8)) (sN (gh 8)) (sC (gh 8))) 2 (fun gh=>.row (.slice (sA (gh 8)) (sN (gh 8)) (sC (gh 8))) 42 3 (xY E.vals)),.pu,.st 4 5,.pu,.st 4 6,.pu,.st 4 7] [(2,false),(5,false),(8,false)] (trivial) ?_ ?_
 ·intro R hT hA hmono
  refine And.intro (r_callown hT hA hmono ⟨fun _ _=>by kernel_rfl,fun _ _=>by kernel_rfl,fun _ _=>by kernel_rfl⟩ (by kernel_rfl) 9 (fun u=>.slice (sA u) (sN u) (sC u)) [1] 2 (by kernel_rfl) (fun _=>by kernel_rfl) 0 (GN R 0) (by kernel_rfl) (by kernel_rfl) (by kernel_rfl) 51 7 (fun gh=>yK E.inp) (fun _=>by kernel_rfl) (fun _=>by kernel_rfl) (fun _ _=>rfl) 50 (fun gh=>#[.slice (sA (agJ 2 w)) (sN (agJ 2 w)) (sC (agJ 2 w))]) (fun _ _=>by kernel_rfl) (fun gh H sH fH=>h1 _ _ ((hE.sees (S4.trans sH))).inp)) ?_
  refine And.intro (r_callown hT hA hmono ⟨fun _ _=>by kernel_rfl,fun _ _=>by kernel_rfl,fun _ _=>by kernel_rfl⟩ (by kernel_rfl) 12 (fun u=>.slice (sA u) (sN u) (sC u)) [2,4] 5 (by kernel_rfl) (fun _=>by kernel_rfl) 1 (GN R 1) (by kernel_rfl) (by kernel_rfl) (by kernel_rfl) 44 10 (fun gh=>gK E.calls) (fun _=>by kernel_rfl) (fun _=>by kernel_rfl) (fun _ _=>rfl) 51 (fun gh=>#[.slice (sA (agJ 3 w)) (sN (agJ 3 w)) (sC (agJ 3 w))]) (fun _ _=>by kernel_rfl) (fun gh H sH fH=>h2 _ _ ((hE.sees (S4.trans sH))).calls)) ?_
  refine And.intro (r_callown hT hA hmono ⟨fun _ _=>by kernel_rfl,fun _ _=>by kernel_rfl,fun _ _=>by kernel_rfl⟩ (by kernel_rfl) 15 (fun u=>.slice (sA u) (sN u) (sC u)) [5,7] 8 (by kernel_rfl) (fun _=>by kernel_rfl) 2 (GN R 2) (by kernel_rfl) (by kernel_rfl) (by kernel_rfl) 42 3 (fun gh=>xY E.vals) (fun _=>by kernel_rfl) (fun _=>by kernel_rfl) (fun _ _=>rfl) 52 (fun gh=>#[.slice (sA (agJ 4 w)) (sN (agJ 4 w)) (sC (agJ 4 w))]) (fun _ _=>by kernel_rfl) (fun gh H sH fH=>h3 _ _ ((hE.sees (S4.trans sH))).vals)) ?_
  trivial
 rintro u9 u12 u15 W5 S6 -
 refine go0 8 [.b 4 0,.b 3 0] [] ?_
 refine hQ.to [.agg #[.slice (sA (agJ 0 uc)) (sN (agJ 0 uc)) (sC (agJ 0 uc)),.slice (sA (agJ 1 uc)) (sN (agJ 1 uc)) (sC (agJ 1 uc)),Vi E.pol.t,Vi E.pol.b,Vi E.pol.c,.slice (sA u9) (sN u9) (sC u9),.slice (sA u12) (sN u12) (sC u12),.slice (sA u15) (sN u15) (sC u15),Vi E.now,Vi E.last]] [0,1,2] [.row (.slice (sA u9) (sN u9) (sC u9)) 51 7 (yK E.inp),.row (.slice (sA u12) (sN u12) (sC u12)) 44 10 (gK E.calls),.row (.slice (sA u15) (sN u15) (sC u15)) 42 3 (xY E.vals)] (fun H sH=>?_) (ix:=[3])
 exact ⟨.agg #[agJ 0 uc,agJ 1 uc,u9,u12,u15],rfl,rfl,(hfc.sees (S6.trans sH))⟩
theorem numbers_any (a0 a1 a2 a3 a4:Value) (p:Pol) (now last:Int) (h:Vw) (n0:0≤now) (n1:now≤1073741824) (l0:0≤last) (l1:last≤1073741810) :
  C0 Tryz.prog 87 #[.agg #[.slice (sA a0) (sN a0) (sC a0),.slice (sA a1) (sN a1) (sC a1),.int .i64 p.t,.int .i64 p.b,.int .i64 p.c,.slice (sA a2) (sN a2) (sC a2),.slice (sA a3) (sN a3) (sC a3),.slice (sA a4) (sN a4) (sC a4),.int .i64 now,.int .i64 last]] h (fun r _=>r=.bool true):=by
 refine oQ Tryz.func87 (c:=Tryz.f87.body.getD .skip) (N:=21) ?_
 intro hbx hbad Q hQ
 refine go1 30 [.own,.b 0 8,.b 0 8,.b 0 9,.b 0 9] [(5,.bool (decide (now ≥ 0)),.bool true),(9,.bool (decide (now≤1073741824)),.bool true),(14,.bool (decide (last ≥ 0)),.bool true),(19,.bool (decide (last≤1073741810)),.bool true)] ?_ (hc:=(And.intro (congrArg Value.bool (decide_eq_true n0)) (And.intro (congrArg Value.bool (decide_eq_true n1)) (And.intro (congrArg Value.bool (decide_eq_true l0)) (And.intro (congrArg Value.bool (decide_eq_true l1)) (trivial))))))
 intro b1
 refine hQ.to [.bool true] (fun H sH=>?_)
 exact rfl
set_option maxHeartbeats 1000000 in
theorem calls_any (E:Eg) (ρ:List Int) (lv:Nat→Nat) (hok:EgOk E ρ lv) (w:Value) (h:Vw) (hE:IsEng h w E):C0 Tryz.prog 86 #[.agg #[.slice (sA (agJ 0 w)) (sN (agJ 0 w)) (sC (agJ 0 w)),.slice (sA (agJ 1 w)) (sN (agJ 1 w)) (sC (agJ 1 w)),.int .i64 E.pol.t,.int .i64 E.pol.b,.int .i64 E.pol.c,.slice (sA (agJ 2 w)) (sN (agJ 2 w)) (sC (agJ 2 w)),.slice (sA (agJ 3 w)) (sN (agJ 3 w)) (sC (agJ 3 w)),.slice (sA (agJ 4 w)) (sN (agJ 4 w)) (sC (agJ 4 w)),.int .i64 E.now,.int .i64 E.last]] h (fun r _=>r=.int .i64 0):=by
 have few:=hok.fm.fields.few
 have hcl:=hok.calls.len
 have hvl:=hok.vlen
 have hck:=fun x (hx:ClOk E.pol x) H=>c_chk E.pol hok.pol x hx H
 obtain ⟨vs,A,c,e0,-,-,hr4,hs4,hl4,-⟩:=cQ hE.form.fields
 obtain ⟨A2,c2,e2,-,-,-⟩:=hE.calls.form
 obtain ⟨A3,c3,e3,-,-,-⟩:=hE.vals.form
 have hrc:=hE.calls
 rw [e2] at hrc
 rw [e0,e2,e3]
 have hca:=hok.calls.at_
 rw [List.length_map] at *
 rw [List.length_map] at *
 rw [hcl] at hrc ⊢
 rw [hvl]
 generalize hn:E.fm.fields.length=n at *
 refine oQ Tryz.func86 (c:=Tryz.f86.body.getD .skip) (N:=78) ?_
 intro hbx hbad Q hQ
 refine go1 42 [.own,.b 0 6,.b 0 0,.b 0 7,.b 0 0,.b 0 6] [(13,.bool ((n:Int) != (n:Int)),.bool false),(22,.bool ((n:Int) != (n:Int)),.bool false)] ?_ (hc:=(And.intro (congrArg Value.bool (by simp)) (And.intro (congrArg Value.bool (by simp)) (trivial))))
 intro b1
 refine wQ [0,1,0,1,1] [.block 0,.seq [1,1,1]] (fun (k:Nat) X=>∃ (W2:Vw) ,X W2 [(1,Vp b1),(25,.slice A2 n c2),(26,Vi (n:Int)),(27,Vi (k:Int))] [.box b1 [.slice A n c,.slice (sA (agJ 1 w)) (sN (agJ 1 w)) (sC (agJ 1 w)),Vi E.pol.t,Vi E.pol.b,Vi E.pol.c,.slice (sA (agJ 2 w)) (sN (agJ 2 w)) (sC (agJ 2 w)),.slice A2 n c2,.slice A3 n c3,Vi E.now,Vi E.last]] []∧Sees h W2∧(k≤n)) (fun k=>n - k) (0) (fun X q=>⟨h,q _ _ _ _ ⟨rfl,by kernel_rfl⟩,Sees.refl _,Nat.zero_le _⟩) ?_
 rintro k a w ⟨W2,hJ,S3,hk⟩; refine aV hJ ?_; clear hJ a w
 refine go0 6 [] [] ?_
 rcases (by omega:k < n∨k=n) with hlt | hke
 ·obtain ⟨g,hg⟩:∃ g,E.fm.fields[k]?=some g:=⟨_,List.getElem?_eq_getElem (by omega)⟩
  obtain ⟨x,hx⟩:∃ x,E.calls[k]?=some x:=⟨_,List.getElem?_eq_getElem (by omega)⟩
  obtain ⟨u,hu⟩:∃ u,vs[k]?=some u:=⟨_,List.getElem?_eq_getElem (by omega)⟩
  have hrow:=aQ hg hu
  have hrx:=clRows_get hx
  obtain ⟨Au,nu,cu,rfl⟩:=(AllSrc.get hs4 hg hu).slice
  obtain ⟨x1,x2,x3⟩:=hca k g x hg hx
  have hck':=hck x x1
  refine eV (t:=decide ((k:Int) < (n:Int))) (decide_eq_true (by omega)) ?_
  refine go0 7 [] [] ?_
  obtain ⟨b4,o5,rfl,-,c6⟩:=RS.row hrc (hrx)
  refine pQ (c6.sees S3) ?_
  refine go1 13 [.ix b4 o5 n c2 k,.f 0 0,.own,.b 0 0,.b 0 0,.b 1 2] [] ?_ (ho:=(And.intro (by first | omega | (simp; omega)) (trivial)))
  intro b7
  refine go0 14 [.cl 91 #[.agg #[Vi x.st,Vi x.id,Vi x.tr,Vi x.key.k,Vi x.key.n,.string x.key.s,Vi x.has.k,Vi x.has.n,.string x.has.s,Vi x.nx],.agg #[Vi E.pol.t,Vi E.pol.b,Vi E.pol.c]] (Vi 0)] [] ?_ (ho:=(And.intro (fun H sH=>hck' _) (trivial)))
  obtain ⟨b8,o9,rfl,-,c10⟩:=RS.row hr4 (hrow)
  refine pQ (c10.sees S3) ?_
  have c11:=RS.cell hr4 (hrow)
  refine pQ (c11.sees S3) ?_
  by_cases s0:x.st=0
  ·skip
   have c8:=RS.cell hr4 (hrow)
   refine pQ (c8.sees S3) ?_
   have c9:=RS.cell hr4 (hrow)
   refine pQ (c9.sees S3) ?_
   refine cV 38 0 [.pu,.ld 0 0,.v (fun gh=>.bool false),.pu,.ps,.ps,.ps,.ps,.ps,.ps,.ps,.ps,.ps,.ps,.ps,.ps,.ps,.ps,.ps,.ps,.ps,.ps,.ps,.ps,.ps,.ps,.ps,.ps,.ps,.ps,.ps,.ps,.ps,.ps,.ps,.ps,.ps,.pu] [] (by exact trivial) ?_ ?_
   ·intro R hT hA hmono
    refine And.intro (t_eq hT hA (fun gh=>.bool false) (fun gh=>.bool (x.st != 0)) (fun gh=>congrArg Value.bool (bne_eq_false_iff_eq.2 s0))) ?_
    trivial
   rintro W10 S11 -
   refine go0 9 [] [(77,Vi (IntKind.i64.wrap ((k:Int) + 1)),Vi ((k:Int) + 1))] ?_ (hc:=(And.intro (jJ (by omega) (by omega)) (trivial)))
   exact dV (k + 1) (fun X q=>⟨W10,q _ _ _ _ ⟨rfl,by kernel_rfl⟩,(S3.trans S11),by omega⟩) (by omega)
  ·skip
   obtain ⟨y1,y2⟩:=x2 s0
   by_cases s2:x.st=2
   ·skip
    have c12:=RS.cell hr4 (hrow)
    refine pQ (c12.sees S3) ?_
    have c13:=RS.cell hr4 (hrow)
    refine pQ (c13.sees S3) ?_
    refine cV 38 0 [.pu,.ld 0 0,.v (fun gh=>.bool true),.pu,.pu,.pu,.ld 1 0,.pu,.v (fun gh=>.pointer (some ⟨b8,o9 + k * 9,none⟩)),.pu,.lf 0 1,.v (fun gh=>.bool false),.pu,.pu,.ld 0 1,.pu,.ld 1 9,.v (fun gh=>.bool false),.pu,.pu,.pu,.ld 0 0,.v (fun gh=>.bool true),.pu,.pu,.pu,.ld 0 6,.pu,.pu,.ld 1 0,.pu,.v (fun gh=>.pointer (some ⟨b8,o9 + k * 9,none⟩)),.pu,.lf 0 2,.v (fun gh=>.bool false),.pu,.pu,.pu] [] (by exact trivial) ?_ ?_
    ·intro R hT hA hmono
     refine And.intro (t_eq hT hA (fun gh=>.bool true) (fun gh=>.bool (x.st != 0)) (fun gh=>congrArg Value.bool (bne_iff_ne.2 s0))) ?_
     refine And.intro (rY hT hA b8 o9 n c k (fun gh=>.pointer (some ⟨b8,o9 + k * 9,none⟩)) (by first | omega | (simp; omega))) ?_
     refine And.intro (t_eq hT hA (fun gh=>.bool false) (fun gh=>.bool (g.kind != 3)) (fun gh=>congrArg Value.bool (bne_eq_false_iff_eq.2 y1))) ?_
     refine And.intro (t_eq hT hA (fun gh=>.bool false) (fun gh=>.bool (decide (x.id > E.last))) (fun gh=>congrArg Value.bool (decide_eq_false (by omega)))) ?_
     refine And.intro (t_eq hT hA (fun gh=>.bool true) (fun gh=>.bool (x.st == 2)) (fun gh=>congrArg Value.bool (beq_iff_eq.2 s2))) ?_
     refine And.intro (rY hT hA b8 o9 n c k (fun gh=>.pointer (some ⟨b8,o9 + k * 9,none⟩)) (by first | omega | (simp; omega))) ?_
     refine And.intro (t_eq hT hA (fun gh=>.bool false) (fun gh=>.bool (x.has.k != g.ty)) (fun gh=>congrArg Value.bool (bne_eq_false_iff_eq.2 (x3 s2)))) ?_
     trivial
    rintro W14 S15 -
    refine go0 9 [] [(77,Vi (IntKind.i64.wrap ((k:Int) + 1)),Vi ((k:Int) + 1))] ?_ (hc:=(And.intro (jJ (by omega) (by omega)) (trivial)))
    exact dV (k + 1) (fun X q=>⟨W14,q _ _ _ _ ⟨rfl,by kernel_rfl⟩,(S3.trans S15),by omega⟩) (by omega)
   ·skip
    have c16:=RS.cell hr4 (hrow)
    refine pQ (c16.sees S3) ?_
    have c17:=RS.cell hr4 (hrow)
    refine pQ (c17.sees S3) ?_
    refine cV 38 0 [.pu,.ld 0 0,.v (fun gh=>.bool true),.pu,.pu,.pu,.ld 1 0,.pu,.v (fun gh=>.pointer (some ⟨b8,o9 + k * 9,none⟩)),.pu,.lf 0 1,.v (fun gh=>.bool false),.pu,.pu,.ld 0 1,.pu,.ld 1 9,.v (fun gh=>.bool false),.pu,.pu,.pu,.ld 0 0,.v (fun gh=>.bool false),.pu,.ps,.ps,.ps,.ps,.ps,.ps,.ps,.ps,.ps,.ps,.ps,.pu,.pu,.pu] [] (by exact trivial) ?_ ?_
    ·intro R hT hA hmono
     refine And.intro (t_eq hT hA (fun gh=>.bool true) (fun gh=>.bool (x.st != 0)) (fun gh=>congrArg Value.bool (bne_iff_ne.2 s0))) ?_
     refine And.intro (rY hT hA b8 o9 n c k (fun gh=>.pointer (some ⟨b8,o9 + k * 9,none⟩)) (by first | omega | (simp; omega))) ?_
     refine And.intro (t_eq hT hA (fun gh=>.bool false) (fun gh=>.bool (g.kind != 3)) (fun gh=>congrArg Value.bool (bne_eq_false_iff_eq.2 y1))) ?_
     refine And.intro (t_eq hT hA (fun gh=>.bool false) (fun gh=>.bool (decide (x.id > E.last))) (fun gh=>congrArg Value.bool (decide_eq_false (by omega)))) ?_
     refine And.intro (t_eq hT hA (fun gh=>.bool false) (fun gh=>.bool (x.st == 2)) (fun gh=>congrArg Value.bool (beq_eq_false_iff_ne.2 s2))) ?_
     trivial
    rintro W18 S19 -
    refine go0 9 [] [(77,Vi (IntKind.i64.wrap ((k:Int) + 1)),Vi ((k:Int) + 1))] ?_ (hc:=(And.intro (jJ (by omega) (by omega)) (trivial)))
    exact dV (k + 1) (fun X q=>⟨W18,q _ _ _ _ ⟨rfl,by kernel_rfl⟩,(S3.trans S19),by omega⟩) (by omega)
 ·skip
  refine qQ (t:=decide ((k:Int) < (n:Int))) (decide_eq_false (by omega)) ?_
  refine go0 2 [] [] ?_
  refine vQ ?_
  refine go0 8 [] [] ?_
  refine hQ.to [Vi 0] (fun H sH=>?_)
  exact rfl
def DonR (S:Sst) (b:Nat) (pre:List Value) (slc slv:Value) (v:Value) (Bo:List Ent):Prop :=
 ∃ u,v=.tuple #[.agg (pre++[Value.int .i64 S.last]).toArray,.slice (sA u) (sN u) (sC u),.int .i64 0]∧Bo=[.row (.slice (sA u) (sN u) (sC u)) 67 8 (vV S.out),.box b (pre++[.int .i64 S.last,.slice (sA u) (sN u) (sC u)]),.row slc 44 10 (gK S.calls),.row slv 42 3 (xY S.vals)]
theorem done_con (S:Sst) (b n:Nat) (A A2 A3:Option Addr) (c c2 c3:Nat) (gv iv lw0:Value) (p:Pol) (now last:Int) (n0:0≤now) (n1:now≤1073741824) (cls:List Cl) (vals:List Vl) (lt:List Lt) (h:Vw) (l0:0≤S.last) (l1:S.last≤1073741810)
  (hst:∀ H,Sees h H→ConE Tryz.prog 88 #[.pointer (some ⟨b,0,none⟩)] H
   [.row (.slice (sA lw0) (sN lw0) (sC lw0)) 67 8 (vV lt),.box b [.slice A n c,.slice (sA gv) (sN gv) (sC gv),.int .i64 p.t,.int .i64 p.b,.int .i64 p.c,.slice (sA iv) (sN iv) (sC iv),.slice A2 n c2,.slice A3 n c3,.int .i64 now,.int .i64 last,.slice (sA lw0) (sN lw0) (sC lw0)],.row (.slice A2 n c2) 44 10 (gK cls),.row (.slice A3 n c3) 42 3 (xY vals)]
   (fun v Bo _=>SetR S b [.slice A n c,.slice (sA gv) (sN gv) (sC gv),.int .i64 p.t,.int .i64 p.b,.int .i64 p.c,.slice (sA iv) (sN iv) (sC iv),.slice A2 n c2,.slice A3 n c3,.int .i64 now] (.slice A2 n c2) (.slice A3 n c3) v Bo)) :
  ConE Tryz.prog 48 #[.pointer (some ⟨b,0,none⟩)] h
   [.row (.slice (sA lw0) (sN lw0) (sC lw0)) 67 8 (vV lt),.box b [.slice A n c,.slice (sA gv) (sN gv) (sC gv),.int .i64 p.t,.int .i64 p.b,.int .i64 p.c,.slice (sA iv) (sN iv) (sC iv),.slice A2 n c2,.slice A3 n c3,.int .i64 now,.int .i64 last,.slice (sA lw0) (sN lw0) (sC lw0)],.row (.slice A2 n c2) 44 10 (gK cls),.row (.slice A3 n c3) 42 3 (xY vals)]
   (fun v Bo _=>DonR S b [.slice A n c,.slice (sA gv) (sN gv) (sC gv),.int .i64 p.t,.int .i64 p.b,.int .i64 p.c,.slice (sA iv) (sN iv) (sC iv),.slice A2 n c2,.slice A3 n c3,.int .i64 now] (.slice A2 n c2) (.slice A3 n c3) v Bo):=by
 have hN:=fun H=>numbers_any (.slice A n c) gv iv (.slice A2 n c2) (.slice A3 n c3) p now S.last H n0 n1 l0 l1
 refine g_conE Tryz.func48 (c:=Tryz.f48.body.getD .skip) (N:=22) ?_
 intro hbad Q hQ
 refine go1 10 [.own] [] ?_
 intro b1
 refine g_callE (Bi:=[.row (.slice (sA lw0) (sN lw0) (sC lw0)) 67 8 (vV lt),.box b [.slice A n c,.slice (sA gv) (sN gv) (sC gv),Vi p.t,Vi p.b,Vi p.c,.slice (sA iv) (sN iv) (sC iv),.slice A2 n c2,.slice A3 n c3,Vi now,Vi last,.slice (sA lw0) (sN lw0) (sC lw0)],.row (.slice A2 n c2) 44 10 (gK cls),.row (.slice A3 n c3) 42 3 (xY vals)]) [1,2,3,4] (fun H sH=>hst H sH) ?_; rintro _ _ W2 S3 ⟨u,rfl,rfl⟩
 refine go0 9 [.b 1 0] [] ?_
 refine lQ (fun H sH=>hN _) ?_; rintro _ W4 S5 rfl
 refine go0 7 [] [] ?_
 refine cV 11 0 [.pu,.pu,.pu,.ld 1 0,.pu,.pu,.pu,.ld 1 10,.st 4 0,.pu,.pu] [] (trivial) ?_ ?_
 ·intros; trivial
 rintro W6 S7 -
 refine go0 2 [] [] ?_
 refine hQ.to [.agg #[.slice A n c,.slice (sA gv) (sN gv) (sC gv),Vi p.t,Vi p.b,Vi p.c,.slice (sA iv) (sN iv) (sC iv),.slice A2 n c2,.slice A3 n c3,Vi now,Vi S.last],.slice (sA u) (sN u) (sC u),Vi 0] [0,1,2,3] [.row (.slice (sA u) (sN u) (sC u)) 67 8 (vV S.out),.box b [.slice A n c,.slice (sA gv) (sN gv) (sC gv),Vi p.t,Vi p.b,Vi p.c,.slice (sA iv) (sN iv) (sC iv),.slice A2 n c2,.slice A3 n c3,Vi now,Vi S.last,.slice (sA u) (sN u) (sC u)],.row (.slice A2 n c2) 44 10 (gK S.calls),.row (.slice A3 n c3) 42 3 (xY S.vals)] (fun H sH=>?_) (ix:=[4])
 exact ⟨u,rfl,rfl⟩
end Go.Proofs.YtmoahpojchndiaaGreat
namespace Go.Proofs.YtmoahpojchndiaaGreat
open Go.RowKit
set_option linter.unusedVariables false
def CopF (E:Eg) (n m:Nat) (v:Value) (Bo:List Ent) (H:Vw):Prop:=∃ (A:Option Addr) (c:Nat) (B:Option Addr) (d:Nat) (A1:Option Addr) (c1:Nat) (A2:Option Addr) (c2:Nat) (A3:Option Addr) (c3:Nat),
 v=.agg #[.slice A n c,.slice B m d,.int .i64 E.pol.t,.int .i64 E.pol.b,.int .i64 E.pol.c,.slice A1 E.inp.length c1,.slice A2 n c2,.slice A3 n c3,.int .i64 E.now,.int .i64 E.last] ∧
 Bo=[.row (.slice A1 E.inp.length c1) 51 7 (yK E.inp),.row (.slice A2 n c2) 44 10 (gK E.calls),.row (.slice A3 n c3) 42 3 (xY E.vals)]∧IsForm H (.slice A n c) (.slice B m d) E.fm
theorem engCopy_form (E:Eg) (ρ:List Int) (lv:Nat→Nat) (hok:EgOk E ρ lv) (w:Value) (n m:Nat) (hn:E.fm.fields.length=n) (hm:E.fm.pages.length=m) (h:Vw) (hE:IsEng h w E):ConE Tryz.prog 16 #[.agg #[.slice (sA (agJ 0 w)) (sN (agJ 0 w)) (sC (agJ 0 w)),.slice (sA (agJ 1 w)) (sN (agJ 1 w)) (sC (agJ 1 w)),.int .i64 E.pol.t,.int .i64 E.pol.b,.int .i64 E.pol.c,.slice (sA (agJ 2 w)) (sN (agJ 2 w)) (sC (agJ 2 w)),.slice (sA (agJ 3 w)) (sN (agJ 3 w)) (sC (agJ 3 w)),.slice (sA (agJ 4 w)) (sN (agJ 4 w)) (sC (agJ 4 w)),.int .i64 E.now,.int .i64 E.last]] h [] (CopF E n m):=by
 intro a1 a2 a3 a4
 refine (engCopy_con E ρ lv hok w h hE a1 a2 a3 a4).mono ?_
 rintro en w' ⟨v,Bo,e1,e2,e3,e4,e5,u,rfl,rfl,hf⟩
 obtain ⟨A1,c1,q1,-,-⟩:=tX (e3 _ (List.mem_cons_self ..))
 obtain ⟨A2,c2,q2,-,-⟩:=tX (e3 _ (List.mem_cons_of_mem _ (List.mem_cons_self ..)))
 obtain ⟨A3,c3,q3,-,-⟩:=tX (e3 _ (List.mem_cons_of_mem _ (List.mem_cons_of_mem _ (List.mem_cons_self ..))))
 obtain ⟨vs,A,c,q4,-,-,-,-,-,-⟩:=cQ hf.fields
 obtain ⟨us,ws,B,d,q5,-,-,-,-,-,-⟩:=pgs_open hf.pages
 rw [List.length_map] at q1 q2 q3
 rw [hok.calls.len,hn] at q2
 rw [hok.vlen,hn] at q3
 rw [hn] at q4
 rw [hm] at q5
 rw [q1,q2,q3] at e3 e4 e5 hf
 rw [q4,q5] at hf
 refine ⟨_,_,e1,e2,e3,e4,e5,A,c,B,d,A1,c1,A2,c2,A3,c3,?_,rfl,hf⟩
 rw [q1,q2,q3,q4,q5]
def Settled (E:Eg) (ρ:List Int):Prop:=∃ kn,wX E.fm.fields E.pol E.now E.inp ⟨E.calls,E.vals,[],E.last,[]⟩ (uW ρ E.fm.fields.length)=⟨E.calls,E.vals,kn,E.last,[]⟩
set_option maxHeartbeats 2000000 in
theorem egCheck_any (E:Eg) (ρ:List Int) (lv:Nat→Nat) (hok:EgOk E ρ lv) (hse:Settled E ρ) (w:Value) (h:Vw) (hE:IsEng h w E):C0 Tryz.prog 42 #[.agg #[.slice (sA (agJ 0 w)) (sN (agJ 0 w)) (sC (agJ 0 w)),.slice (sA (agJ 1 w)) (sN (agJ 1 w)) (sC (agJ 1 w)),.int .i64 E.pol.t,.int .i64 E.pol.b,.int .i64 E.pol.c,.slice (sA (agJ 2 w)) (sN (agJ 2 w)) (sC (agJ 2 w)),.slice (sA (agJ 3 w)) (sN (agJ 3 w)) (sC (agJ 3 w)),.slice (sA (agJ 4 w)) (sN (agJ 4 w)) (sC (agJ 4 w)),.int .i64 E.now,.int .i64 E.last]] h (fun r _=>r=.int .i64 0):=by
 have few:=hok.fm.fields.few
 have hli:=hok.li
 have hl1:=hok.l1
 obtain ⟨kn,hkn⟩:=hse
 have hcp:=fun H q=>engCopy_form E ρ lv hok w _ _ rfl rfl H q
 have hca:=fun H q=>calls_any E ρ lv hok w H q
 have hnm:=fun a0 a1 a2 a3 a4 H=>numbers_any a0 a1 a2 a3 a4 E.pol E.now E.last H hok.n0 hok.n1 hok.l0 hok.l1
 have hse:=fun b A A2 A3 c c2 c3 gv iv lw0 H q1 q2=>settle_con E.fm ρ lv hok.fm b E.fm.fields.length A A2 A3 c c2 c3 gv iv lw0 E.pol hok.pol E.now E.last hok.n0 hok.n1 hok.l0 (by omega) E.calls E.vals [] E.inp H q1 rfl hok.one hok.calls hok.vlen q2 hok.ki (by omega) (by simp)
 rw [hkn] at hse
 have hgc:=c_gapChk E.pol hok.pol
 obtain ⟨vs,A,c,e0,-,-,-,-,-,-⟩:=cQ hE.form.fields
 obtain ⟨us,ws,B,d,e1,-,-,-,-,-,-⟩:=pgs_open hE.form.pages
 have hsc:=fun H q=>shCheck_any E.fm ρ lv A E.fm.fields.length c B E.fm.pages.length d H hok.fm q rfl
 have hfa:=fun H q1 q2=>facts_v E.fm.fields (.slice A E.fm.fields.length c) (.slice B E.fm.pages.length d) E.inp (.slice (sA (agJ 2 w)) (sN (agJ 2 w)) (sC (agJ 2 w))) H q1 rfl (by omega) q2 (by omega) hok.ki
 rw [hok.ti] at hfa
 have hfm:=hE.form
 have hin:=hE.inp
 have hcl:=hE.calls
 have hvl:=hE.vals
 rw [e0,e1] at hfm hcp hca ⊢
 generalize hn:E.fm.fields.length=n at *
 generalize hm:E.fm.pages.length=m at *
 refine oQ Tryz.func42 (c:=Tryz.f42.body.getD .skip) (N:=64) ?_
 intro hbx hbad Q hQ
 refine go1 8 [.own] [] ?_
 intro b1
 refine cV 15 0 [.pu,.ld 0 0,.v (fun gh=>Vi 0),.pu,.ld 0 2,.v (fun gh=>Vi 0),.pu,.ld 0 0,.pu,.ld 0 5,.v (fun gh=>Vi 0),.ld 0 0,.v (fun gh=>Vi 0),.pu,.pu] [] (trivial) ?_ ?_
 ·intro R hT hA hmono
  refine And.intro (t_v hT hA hmono (k:=83) (args:=(fun gh=>#[.agg #[.slice A n c,.slice B m d]])) (f:=fun gh=>Vi 0) (fun gh H sH fH lent=>hsc _ (hfm.sees sH))) ?_
  refine And.intro (t_v hT hA hmono (k:=84) (args:=(fun gh=>#[.agg #[Vi E.pol.t,Vi E.pol.b,Vi E.pol.c]])) (f:=fun gh=>Vi 0) (fun gh H sH fH lent=>hgc _)) ?_
  refine And.intro (t_v hT hA hmono (k:=85) (args:=(fun gh=>#[.agg #[.slice A n c,.slice B m d],.slice (sA (agJ 2 w)) (sN (agJ 2 w)) (sC (agJ 2 w))])) (f:=fun gh=>Vi 0) (fun gh H sH fH lent=>hfa _ ((hfm.sees sH)).fields (hin.sees sH))) ?_
  refine And.intro (t_v hT hA hmono (k:=86) (args:=(fun gh=>#[.agg #[.slice A n c,.slice B m d,Vi E.pol.t,Vi E.pol.b,Vi E.pol.c,.slice (sA (agJ 2 w)) (sN (agJ 2 w)) (sC (agJ 2 w)),.slice (sA (agJ 3 w)) (sN (agJ 3 w)) (sC (agJ 3 w)),.slice (sA (agJ 4 w)) (sN (agJ 4 w)) (sC (agJ 4 w)),Vi E.now,Vi E.last]])) (f:=fun gh=>Vi 0) (fun gh H sH fH lent=>hca _ (hE.sees sH))) ?_
  trivial
 rintro W2 S3 -
 refine go0 2 [] [] ?_
 refine wQ [0,1,0,1] [.block 0,.seq [1,1]] (fun (k:Nat) X=>∃ (W4:Vw) ,X W4 [(1,Vp b1),(19,.agg #[Vi 0,Vi 0,Vi 0,Vi 0]),(20,Vi (k:Int))] [.box b1 [.slice A n c,.slice B m d,Vi E.pol.t,Vi E.pol.b,Vi E.pol.c,.slice (sA (agJ 2 w)) (sN (agJ 2 w)) (sC (agJ 2 w)),.slice (sA (agJ 3 w)) (sN (agJ 3 w)) (sC (agJ 3 w)),.slice (sA (agJ 4 w)) (sN (agJ 4 w)) (sC (agJ 4 w)),Vi E.now,Vi E.last]] []∧Sees W2 W4∧(k≤4)) (fun k=>4 - k) (0) (fun X q=>⟨W2,q _ _ _ _ ⟨rfl,by kernel_rfl⟩,Sees.refl _,Nat.zero_le _⟩) ?_
 rintro k a w ⟨W4,hJ,S5,hk⟩; refine aV hJ ?_; clear hJ a w
 refine go0 6 [] [] ?_
 rcases (by omega:k < 4∨k=4) with hlt | hke
 ·skip
  refine eV (t:=decide ((k:Int) < 4)) (decide_eq_true (by omega)) ?_
  refine go0 6 [] [] ?_
  refine g_pure (Vi 0) (fun w=>by rcases (by omega:k=0∨k=1∨k=2∨k=3) with rfl | rfl | rfl | rfl <;> kernel_rfl) ?_
  refine go0 17 [] [(26,Vi (IntKind.i64.wrap ((k:Int) + 1)),Vi ((k:Int) + 1))] ?_ (hc:=(And.intro (jJ (by omega) (by omega)) (trivial)))
  exact dV (k + 1) (fun X q=>⟨W4,q _ _ _ _ ⟨rfl,by kernel_rfl⟩,S5,by omega⟩) (by omega)
 ·skip
  refine qQ (t:=decide ((k:Int) < 4)) (decide_eq_false (by omega)) ?_
  refine go0 2 [] [] ?_
  refine vQ ?_
  refine go0 16 [.b 0 0,.cl 87 #[.agg #[.slice A n c,.slice B m d,Vi E.pol.t,Vi E.pol.b,Vi E.pol.c,.slice (sA (agJ 2 w)) (sN (agJ 2 w)) (sC (agJ 2 w)),.slice (sA (agJ 3 w)) (sN (agJ 3 w)) (sC (agJ 3 w)),.slice (sA (agJ 4 w)) (sN (agJ 4 w)) (sC (agJ 4 w)),Vi E.now,Vi E.last]] (.bool true),.b 0 0] [] ?_ (ho:=(And.intro (fun H sH=>hnm (.slice A n c) (.slice B m d) (agJ 2 w) (agJ 3 w) (agJ 4 w) _) (trivial)))
  refine g_callE (Bi:=[]) [] (fun H sH=>hcp _ (hE.sees (S3.trans (S5.trans sH)))) ?_; rintro _ _ W6 S7 ⟨A',c',B',d',A1,c1,A2,c2,A3,c3,rfl,rfl,hfu⟩
  refine go1 8 [.own] [] ?_
  intro bm
  refine tQ 1 (v:=.slice A1 E.inp.length c1) (e:=51) (kk:=7) (l:=yK E.inp) ?_; intro W8 S9 fri
  refine zQ 67 8 ?_
  refine g_callE (Bi:=[.row (Vz) 67 8 ([]),.box bm [.slice A' n c',.slice B' m d',Vi E.pol.t,Vi E.pol.b,Vi E.pol.c,.slice A1 E.inp.length c1,.slice A2 n c2,.slice A3 n c3,Vi E.now,Vi E.last,Vz],.row (.slice A2 n c2) 44 10 (gK E.calls),.row (.slice A3 n c3) 42 3 (xY E.vals)]) [0,1,2,3] (fun H sH=>hse _ _ _ _ _ _ _ (.slice B' m d') (.slice A1 E.inp.length c1) (Vz) _ ((hfu.sees (S9.trans sH))).fields (fri.sees sH)) ?_; rintro _ _ W10 S11 ⟨ul,rfl,rfl⟩
  refine go0 4 [] [] ?_
  refine g_form 0 (v:=.slice (sA ul) (sN ul) (sC ul)) (e:=67) (kk:=8) (l:=vV []) ?_; intro Al cl hE_ul hc_ul hm_ul
  rw [show (vV []).length=0 from by first | omega | (simp; done) | (simp; omega)] at hE_ul hc_ul
  rw [hE_ul]
  refine cV 28 0 [.pu,.pu,.pu,.ld 1 10,.pu,.pu,.pu,.pu,.pu,.pu,.pu,.ld 1 6,.pu,.ld 4 6,.v (fun gh=>.bool true),.pu,.pu,.pu,.pu,.pu,.pu,.pu,.ld 1 7,.pu,.ld 4 7,.v (fun gh=>.bool true),.pu,.pu] [] (trivial) ?_ ?_
  ·intro R hT hA hmono
   refine And.intro (r_callq hT hA hmono 50 (fun gh=>.bool true) [6,11,13] 14 (by kernel_rfl) (by kernel_rfl) (by kernel_rfl) (fun _=>by kernel_rfl) 2 (GN R 2) (by kernel_rfl) (by kernel_rfl) (fun gh=>.slice A2 n c2) 44 10 (gK E.calls) (fun _=>by kernel_rfl) 55 (fun gh=>#[.slice A2 n c2,.slice (sA (agJ 3 w)) (sN (agJ 3 w)) (sC (agJ 3 w))]) (fun _ _=>by kernel_rfl) (fun gh H bH sH fH rQ=>c_equalCl rQ (hcl.sees (S3.trans (S5.trans (S7.trans (S9.trans (S11.trans sH)))))) (by have:=hok.calls.len; omega))) ?_
   refine And.intro (r_callq hT hA hmono 61 (fun gh=>.bool true) [17,22,24] 25 (by kernel_rfl) (by kernel_rfl) (by kernel_rfl) (fun _=>by kernel_rfl) 3 (GN R 3) (by kernel_rfl) (by kernel_rfl) (fun gh=>.slice A3 n c3) 42 3 (xY E.vals) (fun _=>by kernel_rfl) 26 (fun gh=>#[.slice A3 n c3,.slice (sA (agJ 4 w)) (sN (agJ 4 w)) (sC (agJ 4 w))]) (fun _ _=>by kernel_rfl) (fun gh H bH sH fH rQ=>c_equalVl rQ (hvl.sees (S3.trans (S5.trans (S7.trans (S9.trans (S11.trans sH)))))) (by have:=hok.vlen; omega))) ?_
   trivial
  rintro W12 S13 -
  refine go0 10 [] [] ?_
  refine hQ.to [Vi 0] (fun H sH=>?_)
  exact rfl
end Go.Proofs.YtmoahpojchndiaaGreat
namespace Go.Proofs.YtmoahpojchndiaaGreat
open Go.RowKit
set_option linter.unusedVariables false
def putV (s:ByteArray) (v:Vl):Env→Env
 | []=>[(s,v)]
 | p :: l=>if (p.1.toList == s.toList)=true then (p.1,v) :: l else p :: putV s v l
def gY (E:Eg) (ρ:List Int):Sst:=wX E.fm.fields E.pol E.now E.inp ⟨E.calls,E.vals,[],E.last,[]⟩ (uW ρ E.fm.fields.length)
def iY (E:Eg) (ρ:List Int):Eg:={ E with calls:=(gY E ρ).calls,vals:=(gY E ρ).vals,last:=(gY E ρ).last }
theorem setE_run {E:Eg} {ρ:List Int} {lv:Nat→Nat} (hok:EgOk E ρ lv):RunS E.fm.fields E.pol E.now E.inp ⟨E.calls,E.vals,[],E.last,[]⟩ (uW ρ E.fm.fields.length) (gY E ρ):=by
 have few:=hok.fm.fields.few
 have one:=hok.one
 have hl:=hok.l1
 have hod:Ordd E.fm.fields ρ lv (uW ρ E.fm.fields.length):=vW hok.fm.rank (by omega)
 have h:=runS_inv (s0:=⟨E.calls,E.vals,[],E.last,[]⟩) (os:=uW ρ E.fm.fields.length) hok.pol hok.fm.fields hok.ki hok.n0 hok.n1 hok.calls hok.vlen rfl hok.l0 (by rw [hod.len]; show E.last + _≤_; omega) (fun i q=>hod.lt q) _ (Nat.le_refl _)
 rw [List.take_length] at h
 exact h
theorem settE_ok {E:Eg} {ρ:List Int} {lv:Nat→Nat} (hok:EgOk E ρ lv) (hl:(gY E ρ).last≤1073741810):EgOk (iY E ρ) ρ lv:=by
 have R:=setE_run hok
 have h0:=hok.l0
 have h1:=R.lo
 simp only at h1
 exact ⟨hok.fm,hok.one,hok.pol,hok.ki,hok.k0,hok.once,hok.li,R.calls,R.vlen,hok.n0,hok.n1,by show 0≤(gY E ρ).last; omega,hl⟩
theorem ordL_nodup {fs:List Fd} {ρ:List Int} {lv:Nat→Nat} {os:List Nat} (h:Ordd fs ρ lv os):os.Nodup:=by
 exact h.perm.nodup_iff.2 List.nodup_range
theorem settE_settled {E:Eg} {ρ:List Int} {lv:Nat→Nat} (hok:EgOk E ρ lv):Settled (iY E ρ) ρ:=by
 have few:=hok.fm.fields.few
 have one:=hok.one
 have hod:Ordd E.fm.fields ρ lv (uW ρ E.fm.fields.length):=vW hok.fm.rank (by omega)
 have h:=runS_fix E.fm.fields E.pol E.now E.inp ⟨E.calls,E.vals,[],E.last,[]⟩ (ordL_nodup hod) hok.calls.len hok.vlen rfl E.now (gY E ρ).last _ (Nat.le_refl _)
 rw [List.take_length] at h
 exact ⟨_,h⟩
def tellE (E:Eg) (nm:ByteArray) (v:Vl):Eg:={ E with inp:=putV nm v E.inp }
theorem settle_eg (E:Eg) (ρ:List Int) (lv:Nat→Nat) (hok:EgOk E ρ lv) (b n:Nat) (hn:E.fm.fields.length=n) (A A2 A3:Option Addr) (c c2 c3:Nat) (gv iv lw0:Value) (h:Vw) (hf:IsFds h (.slice A n c) E.fm.fields) (hi:RS h 7 (.slice (sA iv) (sN iv) (sC iv)) (yK E.inp)) (hl:(gY E ρ).last≤1073741810) :
  ConE Tryz.prog 48 #[.pointer (some ⟨b,0,none⟩)] h
   [.row (.slice (sA lw0) (sN lw0) (sC lw0)) 67 8 (vV []),.box b [.slice A n c,.slice (sA gv) (sN gv) (sC gv),.int .i64 E.pol.t,.int .i64 E.pol.b,.int .i64 E.pol.c,.slice (sA iv) (sN iv) (sC iv),.slice A2 n c2,.slice A3 n c3,.int .i64 E.now,.int .i64 E.last,.slice (sA lw0) (sN lw0) (sC lw0)],.row (.slice A2 n c2) 44 10 (gK E.calls),.row (.slice A3 n c3) 42 3 (xY E.vals)]
   (fun v Bo _=>DonR (gY E ρ) b [.slice A n c,.slice (sA gv) (sN gv) (sC gv),.int .i64 E.pol.t,.int .i64 E.pol.b,.int .i64 E.pol.c,.slice (sA iv) (sN iv) (sC iv),.slice A2 n c2,.slice A3 n c3,.int .i64 E.now] (.slice A2 n c2) (.slice A3 n c3) v Bo):=by
 have few:=hok.fm.fields.few
 have hl1:=hok.l1
 have hli:=hok.li
 have h0:=hok.l0
 have R:=(setE_run hok).lo
 simp only at R
 have hs:=fun H (s:Sees h H)=>settle_con E.fm ρ lv hok.fm b n A A2 A3 c c2 c3 gv iv lw0 E.pol hok.pol E.now E.last hok.n0 hok.n1 hok.l0 (by omega) E.calls E.vals [] E.inp H (hf.sees s) hn.symm (by have:=hok.one; omega) hok.calls (hok.vlen.trans hn) (hi.sees s) hok.ki (by omega) (by simp)
 subst hn
 exact done_con (gY E ρ) b _ A A2 A3 c c2 c3 gv iv lw0 E.pol E.now E.last hok.n0 hok.n1 E.calls E.vals [] h (by omega) hl hs
structure TelF (h:Vw) (u:Value) (E:Eg) (lt:List Lt):Prop where
 eng:IsEng h u E
 out:RS h 8 (.slice (sA (agJ 5 u)) (sN (agJ 5 u)) (sC (agJ 5 u))) (vV lt)
theorem TelF.sees {h h':Vw} {u:Value} {E:Eg} {lt:List Lt} (k:TelF h u E lt) (s:Sees h h'):TelF h' u E lt:=⟨k.eng.sees s,k.out.sees s⟩
def TelR (E:Eg) (lt:List Lt) (r:Value) (h:Vw):Prop:=∃ u,r=.tuple #[.agg #[.slice (sA (agJ 0 u)) (sN (agJ 0 u)) (sC (agJ 0 u)),.slice (sA (agJ 1 u)) (sN (agJ 1 u)) (sC (agJ 1 u)),.int .i64 E.pol.t,.int .i64 E.pol.b,.int .i64 E.pol.c,.slice (sA (agJ 2 u)) (sN (agJ 2 u)) (sC (agJ 2 u)),.slice (sA (agJ 3 u)) (sN (agJ 3 u)) (sC (agJ 3 u)),.slice (sA (agJ 4 u)) (sN (agJ 4 u)) (sC (agJ 4 u)),.int .i64 E.now,.int .i64 E.last],.slice (sA (agJ 5 u)) (sN (agJ 5 u)) (sC (agJ 5 u)),.int .i64 0]∧TelF h u E lt
end Go.Proofs.YtmoahpojchndiaaGreat
namespace Go.Proofs.YtmoahpojchndiaaGreat
open Go.RowKit
set_option linter.unusedVariables false
def orcC:List Fd→List Cl→List Aw
 | f :: fs,c :: cs=>(if c.st=2∨c.st=3 then [⟨f.name,c.key,ansC c⟩] else [])++orcC fs cs
 | _,_=>[]
theorem orcC_mem {x:Aw}:∀ {fs:List Fd} {cs:List Cl},x∈orcC fs cs→∃ (i:Nat) (f:Fd) (c:Cl),fs[i]?=some f∧cs[i]?=some c∧(c.st=2∨c.st=3)∧x=⟨f.name,c.key,ansC c⟩
 | [],_,h=>by cases h
 | _ :: _,[],h=>by cases h
 | f :: fs,c :: cs,h=>by
  rcases List.mem_append.1 h with q | q
  ·by_cases hw:c.st=2∨c.st=3
   ·rw [if_pos hw] at q
    exact ⟨0,f,c,rfl,rfl,hw,List.mem_singleton.1 q⟩
   ·rw [if_neg hw] at q; cases q
  ·obtain ⟨i,g,d,q1,q2,q3⟩:=orcC_mem q
   exact ⟨i + 1,g,d,q1,q2,q3⟩
theorem hit_name {s:ByteArray} {key:Vl} {p:Aw} (h:p.nm≠s):p.hit s key=false:=by
 unfold Aw.hit
 rw [tl_no h,Bool.false_and]
theorem orcC_none {s:ByteArray} {key:Vl}:∀ {fs:List Fd} {cs:List Cl},(∀ f∈fs,f.name≠s)→askL s key (orcC fs cs)=pdV
 | [],_,_=>rfl
 | _ :: _,[],_=>rfl
 | f :: fs,c :: cs,h=>by
  have ih:=orcC_none (s:=s) (key:=key) (fs:=fs) (cs:=cs) fun g hg=>h g (by simp [hg])
  show askL s key ((if c.st=2∨c.st=3 then [(⟨f.name,c.key,ansC c⟩:Aw)] else [])++orcC fs cs)=pdV
  by_cases hw:c.st=2∨c.st=3
  ·rw [if_pos hw]
   show askL s key (⟨f.name,c.key,ansC c⟩ :: orcC fs cs)=pdV
   rw [askL,hit_name (show (⟨f.name,c.key,ansC c⟩:Aw).nm≠s from h f (by simp)),if_neg (by decide),ih]
  ·rw [if_neg hw]; exact ih
theorem orcC_ask {key:Vl}:∀ {fs:List Fd} {cs:List Cl} {i:Nat} {f:Fd} {c:Cl},(fs.map (fun f:Fd=>f.name)).Nodup→fs[i]?=some f→cs[i]?=some c→askL f.name key (orcC fs cs)=if (c.st=2∨c.st=3)∧eqB c.key key=true then ansC c else pdV
 | [],_,_,_,_,_,h,_=>by simp at h
 | _ :: _,[],_,_,_,_,_,h=>by simp at h
 | g :: fs,d :: cs,0,f,c,hd,h1,h2=>by
  simp only [List.getElem?_cons_zero,Option.some.injEq] at h1 h2
  subst h1 h2
  rw [List.map_cons,List.nodup_cons] at hd
  have hn:=orcC_none (s:=g.name) (key:=key) (fs:=fs) (cs:=cs) fun x hx e=>hd.1 (List.mem_map.2 ⟨x,hx,e⟩)
  show askL g.name key ((if d.st=2∨d.st=3 then [(⟨g.name,d.key,ansC d⟩:Aw)] else [])++orcC fs cs)=_
  by_cases hw:d.st=2∨d.st=3
  ·rw [if_pos hw]
   show askL g.name key (⟨g.name,d.key,ansC d⟩ :: orcC fs cs)=_
   have hh:Aw.hit ⟨g.name,d.key,ansC d⟩ g.name key=eqB d.key key:=by
    show (g.name.toList == g.name.toList && eqB d.key key)=_
    rw [tl_yes rfl,Bool.true_and]
   rw [askL,hh]
   by_cases he:eqB d.key key=true
   ·rw [if_pos he,if_pos ⟨hw,he⟩]
   ·rw [if_neg he,if_neg fun q=>he q.2,hn]
  ·rw [if_neg hw,if_neg fun q=>hw q.1]
   exact hn
 | g :: fs,d :: cs,i + 1,f,c,hd,h1,h2=>by
  rw [List.map_cons,List.nodup_cons] at hd
  have h1:fs[i]?=some f:=by simpa using h1
  have ih:=orcC_ask (key:=key) hd.2 h1 (by simpa using h2:cs[i]?=some c)
  have hne:g.name≠f.name:=fun e=>hd.1 (List.mem_map.2 ⟨f,List.mem_of_getElem? h1,e.symm⟩)
  show askL f.name key ((if d.st=2∨d.st=3 then [(⟨g.name,d.key,ansC d⟩:Aw)] else [])++orcC fs cs)=_
  by_cases hw:d.st=2∨d.st=3
  ·rw [if_pos hw]
   show askL f.name key (⟨g.name,d.key,ansC d⟩ :: orcC fs cs)=_
   rw [askL,hit_name (show (⟨g.name,d.key,ansC d⟩:Aw).nm≠f.name from hne),if_neg (by decide),ih]
  ·rw [if_neg hw]; exact ih
theorem stepW_pre (fs:List Fd) (inp:Env) (orc:List Aw) (s:List Vl × Env) (i:Nat):∃ m,(stepW fs inp orc s i).2=s.2++m:=by
 unfold stepW
 split
 ·exact ⟨_,rfl⟩
 ·exact ⟨[],by simp⟩
theorem foldW_pre (fs:List Fd) (inp:Env) (orc:List Aw):∀ (os:List Nat) (s:List Vl × Env),∃ m,(os.foldl (stepW fs inp orc) s).2=s.2++m
 | [],s=>⟨[],by simp⟩
 | i :: os,s=>by
  obtain ⟨m,hm⟩:=stepW_pre fs inp orc s i
  obtain ⟨m',hm'⟩:=foldW_pre fs inp orc os (stepW fs inp orc s i)
  exact ⟨m++m',by show (os.foldl (stepW fs inp orc) (stepW fs inp orc s i)).2=_; rw [hm',hm,List.append_assoc]⟩
theorem runW_pre (fs:List Fd) (inp:Env) (orc:List Aw) (os:List Nat) (t:Nat):∃ m,(runW fs inp orc os).2=(runW fs inp orc (os.take t)).2++m:=by
 have e:runW fs inp orc os=(os.drop t).foldl (stepW fs inp orc) (runW fs inp orc (os.take t)):=by
  unfold runW
  rw [← List.foldl_append,List.take_append_drop]
 rw [e]
 exact foldW_pre fs inp orc _ _
theorem ev_turn {fs:List Fd} (hok:OkFs fs) {inp:Env} (hi:∀ p∈inp,p.2.known) {orc:List Aw} (ho:∀ p∈orc,OkV p.has) {ρ:List Int} {lv:Nat→Nat} {os:List Nat} (h:Ordd fs ρ lv os) {t i:Nat} {f:Fd} (ht:os[t]?=some i) (hf:fs[i]?=some f) (hk:f.kind≠1) :
  nK (runW fs inp orc (os.take t)).2 f.src=nK (fcs fs (allW fs inp orc os)) f.src∧nW f inp orc (runW fs inp orc (os.take t)).2=nW f inp orc (fcs fs (allW fs inp orc os)):=by
 have hI:=run_inv hok hi ho h os.length (Nat.le_refl _)
 rw [List.take_length] at hI
 have htl:=(List.getElem?_eq_some_iff.1 ht).1
 have hT:=run_inv hok hi ho h t (by omega)
 have hin:∀ {i:Nat},i < fs.length→i∈os:=fun q=>h.perm.mem_iff.2 (List.mem_range.2 q)
 obtain ⟨m,hm⟩:=runW_pre fs inp orc os t
 have key:∀ s∈nX f.src,(runW fs inp orc (os.take t)).2.get s=(fcs fs (allW fs inp orc os)).get s:=fun s hs=>by
  obtain ⟨j,g,g1,g2,g3⟩:=refs_need hok hf hk hs
  obtain ⟨x,-,x2,-⟩:=hT.at_ j (h.ahead ht j g3) g g1
  obtain ⟨y,y1,y2,-⟩:=hI.at_ j (hin (List.getElem?_eq_some_iff.1 g1).1) g g1
  have e:(runW fs inp orc os).2.get g.name=some x:=by rw [hm]; exact get_app x2
  rw [← g2,x2,← e,y2]
  exact (fcs_get hok.nodup g1 y1).symm
 exact ⟨eval_local key,oneV_congr fun _=>key⟩
theorem settled_fix {E:Eg} {ρ:List Int} {lv:Nat→Nat} (hok:EgOk E ρ lv) (hse:Settled E ρ) (t:Nat) (ht:t≤(uW ρ E.fm.fields.length).length) :
  wX E.fm.fields E.pol E.now E.inp ⟨E.calls,E.vals,[],E.last,[]⟩ ((uW ρ E.fm.fields.length).take t)=⟨E.calls,E.vals,(wX E.fm.fields E.pol E.now E.inp ⟨E.calls,E.vals,[],E.last,[]⟩ ((uW ρ E.fm.fields.length).take t)).kn,E.last,[]⟩:=by
 obtain ⟨kn,hkn⟩:=hse
 have few:=hok.fm.fields.few
 have one:=hok.one
 have hod:Ordd E.fm.fields ρ lv (uW ρ E.fm.fields.length):=vW hok.fm.rank (by omega)
 have h:=runS_fix E.fm.fields E.pol E.now E.inp ⟨E.calls,E.vals,[],E.last,[]⟩ (ordL_nodup hod) hok.calls.len hok.vlen rfl E.now E.last t ht
 rw [hkn] at h
 exact h
theorem settled_turn {E:Eg} {ρ:List Int} {lv:Nat→Nat} (hok:EgOk E ρ lv) (hse:Settled E ρ) {t i:Nat} {f:Fd} {c:Cl} (ht:(uW ρ E.fm.fields.length)[t]?=some i) (hf:E.fm.fields[i]?=some f) (h3:f.kind=3) (hc:E.calls[i]?=some c) {kn:Env} (hk:(wX E.fm.fields E.pol E.now E.inp ⟨E.calls,E.vals,[],E.last,[]⟩ ((uW ρ E.fm.fields.length).take t)).kn=kn) :
  ((nK kn f.src).k≤3→c.st≠0∧c.key=nK kn f.src)∧(¬ (nK kn f.src).k≤3→c=clZ)∧E.vals[i]?=some (tV (nK kn f.src) c) ∧
   (wX E.fm.fields E.pol E.now E.inp ⟨E.calls,E.vals,[],E.last,[]⟩ ((uW ρ E.fm.fields.length).take (t + 1))).kn=kn++[(f.name,tV (nK kn f.src) c)]:=by
 have htl:=(List.getElem?_eq_some_iff.1 ht).1
 have h1:=settled_fix hok hse t (by omega)
 have h2:=settled_fix hok hse (t + 1) (by omega)
 have hil:=(List.getElem?_eq_some_iff.1 hf).1
 have hcl:=hok.calls.len
 have hvl:=hok.vlen
 rw [runS_at _ _ _ _ _ _ t i ht] at h2 ⊢
 rw [hk] at h1
 rw [h1] at h2 ⊢
 rw [stepS_look hf h3 hc rfl rfl] at h2 ⊢
 simp only [Sst.mk.injEq] at h2
 obtain ⟨a1,a2,-⟩:=h2
 have b1:(E.calls.set i (vY E.pol (E.last + 1) E.now (nK kn f.src) c).1)[i]?=some c:=by rw [a1]; exact hc
 rw [List.getElem?_set_self (by omega)] at b1
 have b1:=Option.some.inj b1
 have b2:E.vals[i]?=some (tV (nK kn f.src) (vY E.pol (E.last + 1) E.now (nK kn f.src) c).1):=by
  rw [← List.getElem?_set_self (l:=E.vals) (i:=i) (by omega)]
  exact congrArg (fun l:List Vl=>l[i]?) a2.symm
 rw [b1] at b2 ⊢
 refine ⟨fun q=>?_,fun q=>?_,b2,rfl⟩
 ·have:=turn_key (p:=E.pol) (id:=E.last + 1) (now:=E.now) (c:=c) q
  rw [b1] at this
  exact this
 ·rw [turn_no q] at b1
  exact b1.symm
theorem settled_one {E:Eg} {ρ:List Int} {lv:Nat→Nat} (hok:EgOk E ρ lv) (hse:Settled E ρ) {t i:Nat} {f:Fd} (ht:(uW ρ E.fm.fields.length)[t]?=some i) (hf:E.fm.fields[i]?=some f) (h3:f.kind≠3) {kn:Env} (hk:(wX E.fm.fields E.pol E.now E.inp ⟨E.calls,E.vals,[],E.last,[]⟩ ((uW ρ E.fm.fields.length).take t)).kn=kn) :
  E.vals[i]?=some (nW f E.inp [] kn)∧(wX E.fm.fields E.pol E.now E.inp ⟨E.calls,E.vals,[],E.last,[]⟩ ((uW ρ E.fm.fields.length).take (t + 1))).kn=kn++[(f.name,nW f E.inp [] kn)]:=by
 have htl:=(List.getElem?_eq_some_iff.1 ht).1
 have h1:=settled_fix hok hse t (by omega)
 have h2:=settled_fix hok hse (t + 1) (by omega)
 have hil:=(List.getElem?_eq_some_iff.1 hf).1
 have hvl:=hok.vlen
 rw [runS_at _ _ _ _ _ _ t i ht] at h2 ⊢
 rw [hk] at h1
 rw [h1] at h2 ⊢
 rw [stepS_one hf h3] at h2 ⊢
 simp only [Sst.mk.injEq] at h2
 obtain ⟨-,a2,-⟩:=h2
 refine ⟨?_,rfl⟩
 rw [← List.getElem?_set_self (l:=E.vals) (i:=i) (a:=nW f E.inp [] kn) (by omega)]
 exact congrArg (fun l:List Vl=>l[i]?) a2.symm
theorem oneV_nolook {f:Fd} (h:f.kind≠3) (inp:Env) (o1 o2:List Aw) (kn:Env):nW f inp o1 kn=nW f inp o2 kn:=by
 unfold nW
 rw [if_neg h,if_neg h]
theorem lkup_ask {fs:List Fd} {cs:List Cl} {p:Pol} {i:Nat} {f:Fd} {c:Cl} {key:Vl} (hd:(fs.map (fun f:Fd=>f.name)).Nodup) (hf:fs[i]?=some f) (hc:cs[i]?=some c) (hco:ClOk p c) (h1:key.k≤3→c.st≠0∧c.key=key) (h2:¬ key.k≤3→c=clZ):tV key c=askV (orcC fs cs) f.name key:=by
 unfold tV askV
 by_cases hk:key.k≤3
 ·obtain ⟨a,b⟩:=h1 hk
  have hb:=hco.live a
  rw [if_neg a,if_pos hk,orcC_ask hd hf hc]
  have he:eqB c.key key=true:=eqB_iff.2 b
  by_cases hs:c.st=2∨c.st=3
  ·rw [if_pos ⟨hs,he⟩]
  ·have s1:c.st=1:=by have:=hb.s1; have:=hb.s3; omega
   rw [if_neg fun q=>hs q.1]
   unfold ansC
   rw [if_neg (by omega),if_neg (by omega)]
 ·rw [if_neg hk,h2 hk,if_pos rfl]
theorem orcC_has {fs:List Fd} {p:Pol} {last:Int} {cs:List Cl} (h:CallsOk fs p last cs):∀ q∈orcC fs cs,OkV q.has:=fun q hq=>by
 obtain ⟨i,f,c,hf,hc,hs,rfl⟩:=orcC_mem hq
 have hb:=(h.at_ i f c hf hc).1.live (by omega)
 show OkV (ansC c)
 unfold ansC
 by_cases s2:c.st=2
 ·rw [if_pos s2]; exact .inl (hb.knw s2).1
 ·rw [if_neg s2,if_pos (by omega)]; exact .inr (.inr ⟨rfl,by decide,by decide,rfl⟩)
structure SolE (E:Eg):Prop where
 sol:Sol E.fm.fields E.inp (orcC E.fm.fields E.calls) E.vals
 ok:∀ x∈E.vals,OkV x
 call:∀ (i:Nat) (f:Fd) (c:Cl),E.fm.fields[i]?=some f→f.kind=3→E.calls[i]?=some c→((nK (fcs E.fm.fields E.vals) f.src).k≤3→c.st≠0∧c.key=nK (fcs E.fm.fields E.vals) f.src)∧(¬ (nK (fcs E.fm.fields E.vals) f.src).k≤3→c=clZ)∧E.vals[i]?=some (tV (nK (fcs E.fm.fields E.vals) f.src) c)
theorem settled_all {E:Eg} {ρ:List Int} {lv:Nat→Nat} (hok:EgOk E ρ lv) (hse:Settled E ρ) :
  (∀ t,t≤(uW ρ E.fm.fields.length).length→(runW E.fm.fields E.inp (orcC E.fm.fields E.calls) ((uW ρ E.fm.fields.length).take t)).2=(wX E.fm.fields E.pol E.now E.inp ⟨E.calls,E.vals,[],E.last,[]⟩ ((uW ρ E.fm.fields.length).take t)).kn) ∧
  E.vals=allW E.fm.fields E.inp (orcC E.fm.fields E.calls) (uW ρ E.fm.fields.length):=by
 have few:=hok.fm.fields.few
 have one:=hok.one
 have hod:Ordd E.fm.fields ρ lv (uW ρ E.fm.fields.length):=vW hok.fm.rank (by omega)
 have hoh:=orcC_has hok.calls
 have hat:∀ (t i:Nat) (f:Fd) (kn:Env),(uW ρ E.fm.fields.length)[t]?=some i→E.fm.fields[i]?=some f→(wX E.fm.fields E.pol E.now E.inp ⟨E.calls,E.vals,[],E.last,[]⟩ ((uW ρ E.fm.fields.length).take t)).kn=kn→E.vals[i]?=some (nW f E.inp (orcC E.fm.fields E.calls) kn)∧(wX E.fm.fields E.pol E.now E.inp ⟨E.calls,E.vals,[],E.last,[]⟩ ((uW ρ E.fm.fields.length).take (t + 1))).kn=kn++[(f.name,nW f E.inp (orcC E.fm.fields E.calls) kn)]:=fun t i f kn ht hf hk=>by
  by_cases h3:f.kind=3
  ·obtain ⟨c,hc⟩:∃ c,E.calls[i]?=some c:=⟨_,List.getElem?_eq_getElem (by rw [hok.calls.len]; exact (List.getElem?_eq_some_iff.1 hf).1)⟩
   obtain ⟨a1,a2,a3,a4⟩:=settled_turn hok hse ht hf h3 hc hk
   have e:nW f E.inp (orcC E.fm.fields E.calls) kn=tV (nK kn f.src) c:=by
    unfold nW
    rw [if_neg (by omega),if_pos h3]
    exact (lkup_ask hok.fm.fields.nodup hf hc (hok.calls.at_ i f c hf hc).1 a1 a2).symm
   rw [e]
   exact ⟨a3,a4⟩
  ·rw [oneV_nolook h3 E.inp _ []]
   exact settled_one hok hse ht hf h3 hk
 have hkn:∀ t,t≤(uW ρ E.fm.fields.length).length→(runW E.fm.fields E.inp (orcC E.fm.fields E.calls) ((uW ρ E.fm.fields.length).take t)).2=(wX E.fm.fields E.pol E.now E.inp ⟨E.calls,E.vals,[],E.last,[]⟩ ((uW ρ E.fm.fields.length).take t)).kn:=fun t=>by
  induction t with
  | zero=>intro _; rfl
  | succ t ih =>
   intro ht
   obtain ⟨i,hti⟩:∃ i,(uW ρ E.fm.fields.length)[t]?=some i:=⟨_,List.getElem?_eq_getElem (by omega)⟩
   obtain ⟨f,hf⟩:∃ f,E.fm.fields[i]?=some f:=⟨_,List.getElem?_eq_getElem (hod.lt (List.mem_of_getElem? hti))⟩
   have ih:=ih (by omega)
   rw [run_at _ _ _ _ t i hti f hf,(hat t i f _ hti hf rfl).2,ih]
 refine ⟨hkn,?_⟩
 have hI:=run_inv hok.fm.fields hok.ki hoh hod (uW ρ E.fm.fields.length).length (Nat.le_refl _)
 rw [List.take_length] at hI
 refine List.ext_getElem? fun i=>?_
 rcases Nat.lt_or_ge i E.fm.fields.length with q | q
 ·obtain ⟨f,hf⟩:∃ f,E.fm.fields[i]?=some f:=⟨_,List.getElem?_eq_getElem q⟩
  obtain ⟨t,ht⟩:=List.getElem?_of_mem (hod.perm.mem_iff.2 (List.mem_range.2 q))
  obtain ⟨x,x1,-,x3⟩:=hI.at_ i (hod.perm.mem_iff.2 (List.mem_range.2 q)) f hf
  have htl:=(List.getElem?_eq_some_iff.1 ht).1
  have hT:=run_inv hok.fm.fields hok.ki hoh hod t (by omega)
  obtain ⟨m,hm⟩:=runW_pre E.fm.fields E.inp (orcC E.fm.fields E.calls) (uW ρ E.fm.fields.length) t
  have h1:=(hat t i f _ ht hf rfl).1
  rw [← hkn t (by omega)] at h1
  rw [h1]
  show _=(runW _ _ _ _).1[i]?
  rw [x1,x3]
  refine congrArg some (oneV_congr fun hk s hs=>?_)
  obtain ⟨j,g,g1,g2,g3⟩:=refs_need hok.fm.fields hf hk hs
  obtain ⟨y,-,y2,-⟩:=hT.at_ j (hod.ahead ht j g3) g g1
  rw [← g2,y2,hm,get_app y2]
 ·rw [List.getElem?_eq_none (by rw [hok.vlen]; exact q),List.getElem?_eq_none (by show (runW _ _ _ _).1.length≤i; rw [hI.len]; exact q)]
theorem settled_sol {E:Eg} {ρ:List Int} {lv:Nat→Nat} (hok:EgOk E ρ lv) (hse:Settled E ρ):SolE E:=by
 have few:=hok.fm.fields.few
 have one:=hok.one
 have hod:Ordd E.fm.fields ρ lv (uW ρ E.fm.fields.length):=vW hok.fm.rank (by omega)
 have hoh:=orcC_has hok.calls
 obtain ⟨hkn,hv⟩:=settled_all hok hse
 obtain ⟨s1,s2⟩:=all_sol hok.fm.fields hok.ki hoh hod
 rw [← hv] at s1 s2
 refine ⟨s1,s2,fun i f c hf h3 hc=>?_⟩
 obtain ⟨t,ht⟩:=List.getElem?_of_mem (hod.perm.mem_iff.2 (List.mem_range.2 (List.getElem?_eq_some_iff.1 hf).1))
 have htl:=(List.getElem?_eq_some_iff.1 ht).1
 obtain ⟨a1,a2,a3,-⟩:=settled_turn hok hse ht hf h3 hc rfl
 have e:=(ev_turn hok.fm.fields hok.ki hoh hod ht hf (by omega)).1
 rw [hkn t (by omega),← hv] at e
 rw [e] at a1 a2 a3
 exact ⟨a1,a2,a3⟩
end Go.Proofs.YtmoahpojchndiaaGreat
namespace Go.Proofs.YtmoahpojchndiaaGreat
open Go.RowKit
set_option linter.unusedVariables false
def Sst.pre (s:Sst) (lt:List Lt):Sst:={ s with out:=lt++s.out }
theorem stepS_pre (fs:List Fd) (p:Pol) (now:Int) (inp:Env) (s:Sst) (lt:List Lt) (i:Nat):mY fs p now inp (s.pre lt) i=(mY fs p now inp s i).pre lt:=by
 unfold mY
 split
 ·split
  ·unfold Sst.pre
   simp only
   split <;> simp
  ·rfl
 ·rfl
theorem runS_pre (fs:List Fd) (p:Pol) (now:Int) (inp:Env) (lt:List Lt):∀ (os:List Nat) (s:Sst),wX fs p now inp (s.pre lt) os=(wX fs p now inp s os).pre lt
 | [],_=>rfl
 | i :: os,s=>by
  show wX fs p now inp (mY fs p now inp (s.pre lt) i) os=_
  rw [stepS_pre]
  exact runS_pre fs p now inp lt os _
theorem settle_lt (E:Eg) (ρ:List Int) (lv:Nat→Nat) (hok:EgOk E ρ lv) (lt:List Lt) (hlt:lt.length≤100) (b n:Nat) (hn:E.fm.fields.length=n) (A A2 A3:Option Addr) (c c2 c3:Nat) (gv iv lw0:Value) (h:Vw) (hf:IsFds h (.slice A n c) E.fm.fields) (hi:RS h 7 (.slice (sA iv) (sN iv) (sC iv)) (yK E.inp)) (hl:(gY E ρ).last≤1073741810) :
  ConE Tryz.prog 48 #[.pointer (some ⟨b,0,none⟩)] h
   [.row (.slice (sA lw0) (sN lw0) (sC lw0)) 67 8 (vV lt),.box b [.slice A n c,.slice (sA gv) (sN gv) (sC gv),.int .i64 E.pol.t,.int .i64 E.pol.b,.int .i64 E.pol.c,.slice (sA iv) (sN iv) (sC iv),.slice A2 n c2,.slice A3 n c3,.int .i64 E.now,.int .i64 E.last,.slice (sA lw0) (sN lw0) (sC lw0)],.row (.slice A2 n c2) 44 10 (gK E.calls),.row (.slice A3 n c3) 42 3 (xY E.vals)]
   (fun v Bo _=>DonR ((gY E ρ).pre lt) b [.slice A n c,.slice (sA gv) (sN gv) (sC gv),.int .i64 E.pol.t,.int .i64 E.pol.b,.int .i64 E.pol.c,.slice (sA iv) (sN iv) (sC iv),.slice A2 n c2,.slice A3 n c3,.int .i64 E.now] (.slice A2 n c2) (.slice A3 n c3) v Bo):=by
 have few:=hok.fm.fields.few
 have hl1:=hok.l1
 have hli:=hok.li
 have h0:=hok.l0
 have R:=(setE_run hok).lo
 simp only at R
 have hs:=fun H (s:Sees h H)=>settle_con E.fm ρ lv hok.fm b n A A2 A3 c c2 c3 gv iv lw0 E.pol hok.pol E.now E.last hok.n0 hok.n1 hok.l0 (by omega) E.calls E.vals lt E.inp H (hf.sees s) hn.symm (by have:=hok.one; omega) hok.calls (hok.vlen.trans hn) (hi.sees s) hok.ki (by omega) hlt
 subst hn
 have e:wX E.fm.fields E.pol E.now E.inp ⟨E.calls,E.vals,[],E.last,lt⟩ (uW ρ E.fm.fields.length)=(gY E ρ).pre lt:=by
  have:=runS_pre E.fm.fields E.pol E.now E.inp lt (uW ρ E.fm.fields.length) ⟨E.calls,E.vals,[],E.last,[]⟩
  unfold Sst.pre at this
  rw [List.append_nil] at this
  exact this
 rw [e] at hs
 exact done_con ((gY E ρ).pre lt) b _ A A2 A3 c c2 c3 gv iv lw0 E.pol E.now E.last hok.n0 hok.n1 E.calls E.vals lt h (by show 0≤(gY E ρ).last; omega) hl hs
def zY (p:Pol) (now:Int) (cs:List Cl):List Cl:=cs.map fun c=>(yY p now c).1
def askT (p:Pol) (now:Int):List Fd→List Cl→List Lt
 | f :: fs,c :: cs=>(if (yY p now c).2=true then [ltOf f.name (yY p now c).1] else [])++askT p now fs cs
 | _,_=>[]
theorem askT_snoc {p:Pol} {now:Int}:∀ {fs:List Fd} {cs:List Cl} (f:Fd) (c:Cl),cs.length=fs.length→askT p now (fs++[f]) (cs++[c])=askT p now fs cs++(if (yY p now c).2=true then [ltOf f.name (yY p now c).1] else [])
 | [],[],f,c,_=>by show _++[]=[]++_; simp
 | [],_ :: _,_,_,h=>by simp at h
 | _ :: _,[],_,_,h=>by simp at h
 | g :: fs,d :: cs,f,c,h=>by
  show _++askT p now (fs++[f]) (cs++[c])=(_++askT p now fs cs)++_
  rw [askT_snoc f c (by simpa using h),List.append_assoc]
theorem askT_len {p:Pol} {now:Int}:∀ {fs:List Fd} {cs:List Cl},(askT p now fs cs).length≤fs.length
 | [],_=>Nat.zero_le _
 | _ :: _,[]=>Nat.zero_le _
 | g :: fs,d :: cs=>by
  show (_++askT p now fs cs).length≤fs.length + 1
  have:=askT_len (p:=p) (now:=now) (fs:=fs) (cs:=cs)
  rw [List.length_append]
  split <;> simp <;> omega
def tY (E:Eg) (n:Int):Eg:={ E with now:=E.now + n,calls:=zY E.pol (E.now + n) E.calls }
def tickT (E:Eg) (n:Int):List Lt:=askT E.pol (E.now + n) E.fm.fields E.calls
theorem wakeL_at {p:Pol} {now:Int} {cs:List Cl} {i:Nat} {c:Cl} (h:(zY p now cs)[i]?=some c):∃ d,cs[i]?=some d∧c=(yY p now d).1:=by
 unfold zY at h
 rw [List.getElem?_map] at h
 obtain ⟨d,hd,rfl⟩:=Option.map_eq_some_iff.1 h
 exact ⟨d,hd,rfl⟩
theorem tickE_ok {E:Eg} {ρ:List Int} {lv:Nat→Nat} (hok:EgOk E ρ lv) {n:Int} (h0:0≤n) (h1:E.now + n≤1073741824):EgOk (tY E n) ρ lv:=by
 have n0:=hok.n0
 refine ⟨hok.fm,hok.one,hok.pol,hok.ki,hok.k0,hok.once,hok.li,⟨by show (zY _ _ E.calls).length=_; unfold zY; rw [List.length_map]; exact hok.calls.len,fun i f c hf hc=>?_⟩,hok.vlen,by show 0≤E.now + n; omega,h1,hok.l0,hok.l1⟩
 obtain ⟨d,hd,rfl⟩:=wakeL_at hc
 obtain ⟨d1,d2,d3⟩:=hok.calls.at_ i f d hf hd
 obtain ⟨w1,w2,w3,w4,w5⟩:=wake_ok hok.pol d1 (now:=E.now + n) (by omega) h1
 refine ⟨w1,fun q=>?_,fun q=>?_⟩
 ·obtain ⟨k1,k2⟩:=d2 (w3 q)
  exact ⟨k1,by show (yY E.pol (E.now + n) d).1.id≤E.last; rw [w2]; exact k2⟩
 ·have e:=w4 q
  rw [e] at q ⊢
  exact d3 q
theorem wakeL_step {p:Pol} {now:Int} {cs:List Cl} {k:Nat} {c:Cl} (h:cs[k]?=some c):(zY p now (cs.take k)++cs.drop k).set k (yY p now c).1=zY p now (cs.take (k + 1))++cs.drop (k + 1):=by
 obtain ⟨hk,e⟩:=List.getElem?_eq_some_iff.1 h
 have hl:(zY p now (cs.take k)).length=k:=by unfold zY; rw [List.length_map,List.length_take]; omega
 have hd:cs.drop k=c :: cs.drop (k + 1):=by rw [List.drop_eq_getElem_cons hk,e]
 rw [hd,List.set_append_right k _ (by omega),hl,Nat.sub_self,List.set_cons_zero,List.take_add_one,h]
 unfold zY
 rw [List.map_append,List.append_assoc]
 rfl
theorem wakeL_now {p:Pol} {now:Int} {cs:List Cl} {k:Nat} {c:Cl} (h:cs[k]?=some c):(zY p now (cs.take k)++cs.drop k)[k]?=some c:=by
 obtain ⟨hk,e⟩:=List.getElem?_eq_some_iff.1 h
 have hl:(zY p now (cs.take k)).length=k:=by unfold zY; rw [List.length_map,List.length_take]; omega
 rw [List.getElem?_append_right (by omega),hl,Nat.sub_self,List.getElem?_drop,Nat.add_zero,h]
theorem wake_st {p:Pol} {now:Int} {c:Cl} (h:(yY p now c).2=true):(yY p now c).1.st=1:=by
 by_cases q:c.st≠1∨now < c.nx
 ·rw [aZ q] at h; cases h
 ·by_cases q2:c.tr=p.t
  ·rw [wake_gives q q2] at h; cases h
  ·rw [wake_again q q2]; show c.st=1; omega
theorem wakeL_len {p:Pol} {now:Int} {cs:List Cl} {k:Nat}:(zY p now (cs.take k)++cs.drop k).length=cs.length:=by
 unfold zY
 rw [List.length_append,List.length_map,← List.length_append,List.take_append_drop]
theorem tick_step {p:Pol} {now:Int} {fs:List Fd} {cs:List Cl} {k:Nat} {g:Fd} {x:Cl} (hl:cs.length=fs.length) (hg:fs[k]?=some g) (hx:cs[k]?=some x) {rr:Cl × Bool} (hr:yY p now x=rr) :
  (rr.2=true→askT p now (fs.take k) (cs.take k)++[ltOf g.name rr.1]=askT p now (fs.take (k + 1)) (cs.take (k + 1)))∧(rr.2=false→askT p now (fs.take k) (cs.take k)=askT p now (fs.take (k + 1)) (cs.take (k + 1))):=by
 have e:=askT_snoc (p:=p) (now:=now) (fs:=fs.take k) (cs:=cs.take k) g x (by rw [List.length_take,List.length_take,hl])
 rw [sY fs k g hg,sY cs k x hx,e,hr]
 exact ⟨fun q=>by rw [if_pos q],fun q=>by rw [if_neg (by rw [q]; decide),List.append_nil]⟩
set_option maxHeartbeats 2000000 in
theorem tick_any (E:Eg) (ρ:List Int) (lv:Nat→Nat) (hok:EgOk E ρ lv) (hse:Settled E ρ) (dt:Int) (d1:1≤dt) (d2:dt≤1000) (d3:E.now + dt≤1073741824) (hl:(gY (tY E dt) ρ).last≤1073741810) (w:Value) (h:Vw) (hE:IsEng h w E) :
  C0 Tryz.prog 15 #[.agg #[.slice (sA (agJ 0 w)) (sN (agJ 0 w)) (sC (agJ 0 w)),.slice (sA (agJ 1 w)) (sN (agJ 1 w)) (sC (agJ 1 w)),.int .i64 E.pol.t,.int .i64 E.pol.b,.int .i64 E.pol.c,.slice (sA (agJ 2 w)) (sN (agJ 2 w)) (sC (agJ 2 w)),.slice (sA (agJ 3 w)) (sN (agJ 3 w)) (sC (agJ 3 w)),.slice (sA (agJ 4 w)) (sN (agJ 4 w)) (sC (agJ 4 w)),.int .i64 E.now,.int .i64 E.last],.int .i64 dt] h (fun r h'=>TelR (iY (tY E dt) ρ) (tickT E dt++(gY (tY E dt) ρ).out) r h'):=by
 have few:=hok.fm.fields.few
 have one:=hok.one
 have n0:=hok.n0
 have n1:=hok.n1
 have hcl:=hok.calls.len
 have hck:=fun H q=>egCheck_any E ρ lv hok hse w H q
 have hcp:=fun H q=>engCopy_form E ρ lv hok w _ _ rfl rfl H q
 have hok':=tickE_ok hok (by omega) d3
 have htl:(tickT E dt).length≤100:=by
  have:=askT_len (p:=E.pol) (now:=E.now + dt) (fs:=E.fm.fields) (cs:=E.calls)
  unfold tickT; omega
 have hdn:=fun b n hn A A2 A3 c c2 c3 gv iv lw0 H q1 q2=>settle_lt (tY E dt) ρ lv hok' (tickT E dt) htl b n hn A A2 A3 c c2 c3 gv iv lw0 H q1 q2 hl
 have hat:=hok.calls.at_
 have hwk:=fun (i:Nat) (f:Fd) (x:Cl) (q1:E.fm.fields[i]?=some f) (q2:E.calls[i]?=some x) H=>c_wake E.pol hok.pol x (hat i f x q1 q2).1 (E.now + dt) (by omega) d3 H
 have hask:=fun n b i A A2 c c2 gv iv vv lw cv ot g x H (q0:IsFds H (.slice A n c) E.fm.fields) (q1:E.fm.fields[i]?=some g) (q2:cv[i]?=some x) (q3:x.st=1) (q4:ot.length≤1000) (q5:cv.length=n)=>ask_con b i n n A A2 c c2 gv iv vv lw E.pol (E.now + dt) E.last E.fm.fields cv ot g x H q0 q1 q2 q3 q4 q5
 have hnow:=fun k x=>wakeL_now (p:=E.pol) (now:=E.now + dt) (cs:=E.calls) (k:=k) (c:=x)
 have hstp:=fun k x=>wakeL_step (p:=E.pol) (now:=E.now + dt) (cs:=E.calls) (k:=k) (c:=x)
 have hwl:=fun k=>wakeL_len (p:=E.pol) (now:=E.now + dt) (cs:=E.calls) (k:=k)
 have hts:=fun k g x q1 q2 rr=>tick_step (p:=E.pol) (now:=E.now + dt) (fs:=E.fm.fields) (cs:=E.calls) (k:=k) (g:=g) (x:=x) hcl q1 q2 (rr:=rr)
 have hal:=fun k=>askT_len (p:=E.pol) (now:=E.now + dt) (fs:=E.fm.fields.take k) (cs:=E.calls.take k)
 have hend:∀ k,k=E.fm.fields.length→(zY E.pol (E.now + dt) (E.calls.take k)++E.calls.drop k=(tY E dt).calls)∧askT E.pol (E.now + dt) (E.fm.fields.take k) (E.calls.take k)=tickT E dt:=fun k hk=>by
  subst hk
  rw [List.take_length,← hcl,List.take_length,List.drop_length,List.append_nil]
  exact ⟨rfl,rfl⟩
 have h00:zY E.pol (E.now + dt) (E.calls.take 0)++E.calls.drop 0=E.calls:=rfl
 have h01:askT E.pol (E.now + dt) (E.fm.fields.take 0) (E.calls.take 0)=[]:=rfl
 have hwst:=fun x=>wake_st (p:=E.pol) (now:=E.now + dt) (c:=x)
 obtain ⟨S,hS⟩:∃ S,(gY (tY E dt) ρ).pre (tickT E dt)=S:=⟨_,rfl⟩
 have hres:iY (tY E dt) ρ={ E with now:=E.now + dt,calls:=S.calls,vals:=S.vals,last:=S.last }:=by rw [← hS]; rfl
 have hlt:tickT E dt++(gY (tY E dt) ρ).out=S.out:=by rw [← hS]; rfl
 rw [hS] at hdn
 have ht1:(tY E dt).fm=E.fm:=rfl
 have ht2:(tY E dt).inp=E.inp:=rfl
 have ht3:(tY E dt).pol=E.pol:=rfl
 have ht4:(tY E dt).now=E.now + dt:=rfl
 have ht5:(tY E dt).last=E.last:=rfl
 have ht6:(tY E dt).vals=E.vals:=rfl
 rw [hres,hlt]
 rw [ht1,ht2,ht3,ht4,ht5,ht6] at hdn
 generalize (tY E dt).calls=wcs at *
 generalize tickT E dt=tks at *
 generalize hnw:E.now + dt=nw at *
 generalize hn:E.fm.fields.length=n at *
 generalize hm:E.fm.pages.length=m at *
 generalize hlen:E.inp.length=len at *
 refine oQ Tryz.func15 (c:=Tryz.f15.body.getD .skip) (N:=93) ?_
 intro hbx hbad Q hQ
 refine go2 49 [.own,.own,.b 1 0,.cl 42 #[.agg #[.slice (sA (agJ 0 w)) (sN (agJ 0 w)) (sC (agJ 0 w)),.slice (sA (agJ 1 w)) (sN (agJ 1 w)) (sC (agJ 1 w)),Vi E.pol.t,Vi E.pol.b,Vi E.pol.c,.slice (sA (agJ 2 w)) (sN (agJ 2 w)) (sC (agJ 2 w)),.slice (sA (agJ 3 w)) (sN (agJ 3 w)) (sC (agJ 3 w)),.slice (sA (agJ 4 w)) (sN (agJ 4 w)) (sC (agJ 4 w)),Vi E.now,Vi E.last]] (Vi 0),.b 1 8,.b 1 0] [(21,.bool (decide (dt < 1)),.bool false),(24,.bool (decide (dt > 1000)),.bool false),(30,Vi (IntKind.i64.wrap (1073741824 - E.now)),Vi (1073741824 - E.now)),(31,.bool (decide (dt > (1073741824 - E.now))),.bool false)] ?_ (ho:=(And.intro (fun H sH=>hck _ (hE.sees sH)) (trivial))) (hc:=(And.intro (congrArg Value.bool (decide_eq_false (by omega))) (And.intro (congrArg Value.bool (decide_eq_false (by omega))) (And.intro (jJ (by omega) (by omega)) (And.intro (congrArg Value.bool (decide_eq_false (by omega))) (trivial))))))
 intro b1 b2
 refine g_callE (Bi:=[]) [] (fun H sH=>hcp _ (hE.sees sH)) ?_; rintro _ _ W3 S4 ⟨A',c',B',d',A1,c1,A2,c2,A3,c3,rfl,rfl,hfu⟩
 refine go1 33 [.own,.b 0 8,.b 0 8,.b 0 6] [(44,Vi (IntKind.i64.wrap (E.now + dt)),Vi (E.now + dt))] ?_ (hc:=(And.intro (jJ (by omega) (by omega)) (trivial)))
 intro bm
 refine tQ 1 (v:=.slice A1 len c1) (e:=51) (kk:=7) (l:=yK E.inp) ?_; intro W5 S6 fri
 refine g_get (fun a w hJ=>own_some (hJ.rowOwn (v:=.slice A2 n c2) (e:=44) (kk:=10) (l:=gK E.calls) 1 (by kernel_rfl)) ((by rw [List.length_map]; omega))) ?_; rintro ⟨bcs,rfl⟩
 refine zQ 67 8 ?_
 refine wQ [0,1,0,1,1,1,1,1] [.block 0,.seq [1,1,1,1,1,1]] (fun (k:Nat) X=>∃ (W7:Vw) (lw:Value) (ot:List Lt) (cv:List Cl),X W7 [(4,Vp b2),(8,Vp bm),(52,Vs bcs n c2),(53,Vi (n:Int)),(54,Vi (k:Int))] [.row (.slice (sA lw) (sN lw) (sC lw)) 67 8 (vV ot),.box bm [.slice A' n c',.slice B' m d',Vi E.pol.t,Vi E.pol.b,Vi E.pol.c,.slice A1 len c1,Vs bcs n c2,.slice A3 n c3,Vi nw,Vi E.last,.slice (sA lw) (sN lw) (sC lw)],.row (Vs bcs n c2) 44 10 (gK cv),.row (.slice A3 n c3) 42 3 (xY E.vals),.box b2 [Vz,Vz,Vi 0,Vi 0,Vi 0,Vz,Vz,Vz,Vi 0,Vi 0],.box b1 [.slice (sA (agJ 0 w)) (sN (agJ 0 w)) (sC (agJ 0 w)),.slice (sA (agJ 1 w)) (sN (agJ 1 w)) (sC (agJ 1 w)),Vi E.pol.t,Vi E.pol.b,Vi E.pol.c,.slice (sA (agJ 2 w)) (sN (agJ 2 w)) (sC (agJ 2 w)),.slice (sA (agJ 3 w)) (sN (agJ 3 w)) (sC (agJ 3 w)),.slice (sA (agJ 4 w)) (sN (agJ 4 w)) (sC (agJ 4 w)),Vi E.now,Vi E.last]] []∧Sees W5 W7∧(k≤n)∧(zY E.pol nw (E.calls.take k)++E.calls.drop k=cv)∧(askT E.pol nw (E.fm.fields.take k) (E.calls.take k)=ot)) (fun k=>n - k) (0) (fun X q=>⟨W5,(Vz),[],E.calls,q _ _ _ _ ⟨rfl,by kernel_rfl⟩,Sees.refl _,Nat.zero_le _,h00,h01⟩) ?_
 rintro k a w ⟨W7,lw,ot,cv,hJ,S8,hk,hv,ho⟩; refine aV hJ ?_; clear hJ a w
 refine go0 6 [] [] ?_
 rcases (by omega:k < n∨k=n) with hlt2 | hke
 ·obtain ⟨g,hg⟩:∃ g,E.fm.fields[k]?=some g:=⟨_,List.getElem?_eq_getElem (by omega)⟩
  obtain ⟨x,hx⟩:∃ x,E.calls[k]?=some x:=⟨_,List.getElem?_eq_getElem (by omega)⟩
  have hxv:=hnow k x hx
  have hsv:=hstp k x hx
  have hcv:=hwl k
  have hotl:=hal k
  rw [hv] at hxv hsv hcv
  rw [ho,List.length_take] at hotl
  have hwx:=hwk k g x hg hx
  have hws:=hwst x
  obtain ⟨rr,hrr⟩:∃ rr,yY E.pol nw x=rr:=⟨_,rfl⟩
  obtain ⟨ht1,ht2⟩:=hts k g x hg hx rr hrr
  rw [hrr] at hwx hws hsv
  rw [ho] at ht1 ht2
  have hrc:=clRows_get hxv
  have hcs:=clRows_set cv k rr.1
  have hgx:(cv.set k rr.1)[k]?=some rr.1:=List.getElem?_set_self (by omega)
  have hk1:=fun (q:rr.1.st=1) H q' lw'=>hask n bm k A' (some ⟨bcs,0,none⟩) c' c2 (.slice B' m d') (.slice A1 len c1) (.slice A3 n c3) lw' (cv.set k rr.1) ot g rr.1 H q' hg hgx q (by omega) (by rw [List.length_set]; omega)
  refine eV (t:=decide ((k:Int) < (n:Int))) (decide_eq_true (by omega)) ?_
  refine go0 7 [] [] ?_
  refine go0 1 [.ix bcs 0 n c2 k] [] ?_ (ho:=(And.intro (by first | omega | (simp; omega)) (trivial)))
  refine g_rowget 2 k 0 (g:=bcs) (m:=n) (cap:=c2) (kk:=10) (e:=44) (l:=gK cv) (r:=[Vi x.st,Vi x.id,Vi x.tr,Vi x.key.k,Vi x.key.n,.string x.key.s,Vi x.has.k,Vi x.has.n,.string x.has.s,Vi x.nx]) (t:=44) (x:=(.tmp 57)) (v:=.agg #[Vi x.st,Vi x.id,Vi x.tr,Vi x.key.k,Vi x.key.n,.string x.key.s,Vi x.has.k,Vi x.has.n,.string x.has.s,Vi x.nx]) (hrc) ?_
  refine go1 6 [.own,.b 0 0] [] ?_
  intro b9
  refine cV 20 1 [.ld 1 0,.pu,.pu,.pu,.pu,.ld 3 2,.pu,.pu,.pu,.pu,.ld 3 8,.v (fun gh=>.tuple #[.agg #[Vi rr.1.st,Vi rr.1.id,Vi rr.1.tr,Vi rr.1.key.k,Vi rr.1.key.n,.string rr.1.key.s,Vi rr.1.has.k,Vi rr.1.has.n,.string rr.1.has.s,Vi rr.1.nx],.bool rr.2,Vi 0]),.pu,.pu,.pu,.pu,.al 0,.st 0 0,.pu,.pu] [(16,true)] (trivial) ?_ ?_
  ·intro R hT hA hmono
   refine And.intro (t_v hT hA hmono (k:=46) (args:=(fun gh=>#[.agg #[Vi x.st,Vi x.id,Vi x.tr,Vi x.key.k,Vi x.key.n,.string x.key.s,Vi x.has.k,Vi x.has.n,.string x.has.s,Vi x.nx],.agg #[Vi E.pol.t,Vi E.pol.b,Vi E.pol.c],Vi nw])) (f:=fun gh=>.tuple #[.agg #[Vi rr.1.st,Vi rr.1.id,Vi rr.1.tr,Vi rr.1.key.k,Vi rr.1.key.n,.string rr.1.key.s,Vi rr.1.has.k,Vi rr.1.has.n,.string rr.1.has.s,Vi rr.1.nx],.bool rr.2,Vi 0]) (fun gh H sH fH lent=>hwx _)) ?_
   trivial
  rintro b10 W11 S12 -
  refine go0 2 [] [] ?_
  refine cV 9 0 [.pu,.pu,.pu,.pu,.ld 3 6,.pu,.ld 0 0,.v (fun gh=>.pointer (some ⟨bcs,0 + k * 10,none⟩)),.s 4 (fun gh=>.row (Vs bcs n c2) 44 10 ((gK cv).set k [Vi rr.1.st,Vi rr.1.id,Vi rr.1.tr,Vi rr.1.key.k,Vi rr.1.key.n,.string rr.1.key.s,Vi rr.1.has.k,Vi rr.1.has.n,.string rr.1.has.s,Vi rr.1.nx]))] [] (trivial) ?_ ?_
  ·intro R hT hA hmono
   refine And.intro (rY hT hA bcs 0 n c2 k (fun gh=>.pointer (some ⟨bcs,0 + k * 10,none⟩)) (by first | omega | (simp; omega))) ?_
   refine And.intro (r_rowset hT hA [0,1,2,3,4,5,6,7] (by kernel_rfl) (by kernel_rfl) (fun _=>by kernel_rfl) 4 (GN R 4) (by kernel_rfl) (by kernel_rfl) (by kernel_rfl) k 0 (g:=bcs) (m:=n) (cap:=c2) (kk:=10) (te:=44) (l:=gK cv) (r:=[Vi x.st,Vi x.id,Vi x.tr,Vi x.key.k,Vi x.key.n,.string x.key.s,Vi x.has.k,Vi x.has.n,.string x.has.s,Vi x.nx]) (fun gh=>.agg #[Vi rr.1.st,Vi rr.1.id,Vi rr.1.tr,Vi rr.1.key.k,Vi rr.1.key.n,.string rr.1.key.s,Vi rr.1.has.k,Vi rr.1.has.n,.string rr.1.has.s,Vi rr.1.nx]) (fun _=>by kernel_rfl) (fun _=>by kernel_rfl) 44 (.tmp 82) (.tmp 81) (by kernel_rfl) (fun _=>by kernel_rfl) (fun _=>by kernel_rfl) (hrc) (fun _=>by kernel_rfl)) ?_
   trivial
  rintro W13 S14 -
  refine go0 6 [] [] ?_
  refine uQ [(4,Vp b2),(8,Vp bm),(52,Vs bcs n c2),(53,Vi (n:Int)),(54,Vi (k:Int)),(9,Vi (k:Int)),(83,.bool rr.2)] [.box b10 [Vi rr.1.st,Vi rr.1.id,Vi rr.1.tr,Vi rr.1.key.k,Vi rr.1.key.n,.string rr.1.key.s,Vi rr.1.has.k,Vi rr.1.has.n,.string rr.1.has.s,Vi rr.1.nx],.box b9 [Vi x.st,Vi x.id,Vi x.tr,Vi x.key.k,Vi x.key.n,.string x.key.s,Vi x.has.k,Vi x.has.n,.string x.has.s,Vi x.nx],.row (.slice (sA lw) (sN lw) (sC lw)) 67 8 (vV ot),.box bm [.slice A' n c',.slice B' m d',Vi E.pol.t,Vi E.pol.b,Vi E.pol.c,.slice A1 len c1,Vs bcs n c2,.slice A3 n c3,Vi nw,Vi E.last,.slice (sA lw) (sN lw) (sC lw)],.row (Vs bcs n c2) 44 10 ((gK cv).set k [Vi rr.1.st,Vi rr.1.id,Vi rr.1.tr,Vi rr.1.key.k,Vi rr.1.key.n,.string rr.1.key.s,Vi rr.1.has.k,Vi rr.1.has.n,.string rr.1.has.s,Vi rr.1.nx]),.row (.slice A3 n c3) 42 3 (xY E.vals),.box b2 [Vz,Vz,Vi 0,Vi 0,Vi 0,Vz,Vz,Vz,Vi 0,Vi 0],.box b1 [.slice (sA (agJ 0 w)) (sN (agJ 0 w)) (sC (agJ 0 w)),.slice (sA (agJ 1 w)) (sN (agJ 1 w)) (sC (agJ 1 w)),Vi E.pol.t,Vi E.pol.b,Vi E.pol.c,.slice (sA (agJ 2 w)) (sN (agJ 2 w)) (sC (agJ 2 w)),.slice (sA (agJ 3 w)) (sN (agJ 3 w)) (sC (agJ 3 w)),.slice (sA (agJ 4 w)) (sN (agJ 4 w)) (sC (agJ 4 w)),Vi E.now,Vi E.last]] [] ?_
  rw [hcs]
  rcases Bool.eq_false_or_eq_true rr.2 with e | e
  ·refine eV (t:=rr.2) (e) ?_
   refine go0 3 [] [] ?_
   refine g_callE (Bi:=[.row (.slice (sA lw) (sN lw) (sC lw)) 67 8 (vV ot),.box bm [.slice A' n c',.slice B' m d',Vi E.pol.t,Vi E.pol.b,Vi E.pol.c,.slice A1 len c1,Vs bcs n c2,.slice A3 n c3,Vi nw,Vi E.last,.slice (sA lw) (sN lw) (sC lw)],.row (Vs bcs n c2) 44 10 (gK (cv.set k rr.1))]) [2,3,4] (fun H sH=>hk1 (hws e) _ ((hfu.sees (S6.trans (S8.trans (S12.trans (S14.trans sH)))))).fields _) ?_; rintro _ _ W15 S16 ⟨u,rfl,rfl⟩
   refine go0 7 [] [(87,Vi (IntKind.i64.wrap ((k:Int) + 1)),Vi ((k:Int) + 1))] ?_ (hc:=(And.intro (jJ (by omega) (by omega)) (trivial)))
   refine g_drop 4 ?_
   refine g_drop 3 ?_
   exact dV (k + 1) (fun X q=>⟨W15,u,(ot++[ltOf g.name rr.1]),(cv.set k rr.1),q _ _ _ _ ⟨rfl,by kernel_rfl⟩,(S8.trans (S12.trans (S14.trans S16))),by omega,hsv.symm,(ht1 e).symm⟩) (by omega)
  ·skip
   refine qQ (t:=rr.2) (e) ?_
   refine go0 7 [] [(87,Vi (IntKind.i64.wrap ((k:Int) + 1)),Vi ((k:Int) + 1))] ?_ (hc:=(And.intro (jJ (by omega) (by omega)) (trivial)))
   exact dV (k + 1) (fun X q=>⟨W13,lw,ot,(cv.set k rr.1),q _ _ _ _ ⟨rfl,by kernel_rfl⟩,(S8.trans (S12.trans S14)),by omega,hsv.symm,(ht2 e).symm⟩) (by omega)
 ·skip
  obtain ⟨he1,he2⟩:=hend k hke
  rw [hv] at he1
  rw [ho] at he2
  have he1:=he1.symm
  have he2:=he2.symm
  subst he1 he2
  refine qQ (t:=decide ((k:Int) < (n:Int))) (decide_eq_false (by omega)) ?_
  refine go0 2 [] [] ?_
  refine vQ ?_
  refine go0 5 [] [] ?_
  refine g_callE (Bi:=[.row (.slice (sA lw) (sN lw) (sC lw)) 67 8 (vV tks),.box bm [.slice A' n c',.slice B' m d',Vi E.pol.t,Vi E.pol.b,Vi E.pol.c,.slice A1 len c1,Vs bcs n c2,.slice A3 n c3,Vi nw,Vi E.last,.slice (sA lw) (sN lw) (sC lw)],.row (Vs bcs n c2) 44 10 (gK wcs),.row (.slice A3 n c3) 42 3 (xY E.vals)]) [0,1,2,3] (fun H sH=>hdn bm n rfl A' (some ⟨bcs,0,none⟩) A3 c' c2 c3 (.slice B' m d') (.slice A1 len c1) lw _ ((hfu.sees (S6.trans (S8.trans sH)))).fields (fri.sees (S8.trans sH))) ?_; rintro _ _ W17 S18 ⟨ul,rfl,rfl⟩
  refine go0 9 [.b 4 0] [] ?_
  refine tQ 0 (v:=.slice (sA ul) (sN ul) (sC ul)) (e:=67) (kk:=8) (l:=vV S.out) ?_; intro W19 S20 fl
  refine tQ 1 (v:=Vs bcs n c2) (e:=44) (kk:=10) (l:=gK S.calls) ?_; intro W21 S22 fc
  refine tQ 1 (v:=.slice A3 n c3) (e:=42) (kk:=3) (l:=xY S.vals) ?_; intro W23 S24 fv
  refine hQ.to [.agg #[.slice A' n c',.slice B' m d',Vi E.pol.t,Vi E.pol.b,Vi E.pol.c,.slice A1 len c1,Vs bcs n c2,.slice A3 n c3,Vi nw,Vi S.last],.slice (sA ul) (sN ul) (sC ul),Vi 0] (fun H sH=>?_) (ix:=[1])
  exact (⟨.agg #[.slice A' n c',.slice B' m d',.slice A1 len c1,Vs bcs n c2,.slice A3 n c3,ul],rfl,⟨⟨(hfu.sees (S6.trans (S8.trans (S18.trans (S20.trans (S22.trans (S24.trans sH))))))),(fri.sees (S8.trans (S18.trans (S20.trans (S22.trans (S24.trans sH)))))),(fc.sees (S24.trans sH)),(fv.sees sH)⟩,(fl.sees (S22.trans (S24.trans sH)))⟩⟩:TelR { E with now:=nw,calls:=S.calls,vals:=S.vals,last:=S.last } S.out _ _)
end Go.Proofs.YtmoahpojchndiaaGreat
namespace Go.Proofs.YtmoahpojchndiaaGreat
open Go.RowKit
set_option linter.unusedVariables false
def newE (f:Fm) (p:Pol):Eg:=⟨f,p,[],List.replicate f.fields.length clZ,List.replicate f.fields.length zV,0,0⟩
theorem newE_ok {f:Fm} {ρ:List Int} {lv:Nat→Nat} (hok:OkFm f ρ lv) (h1:1≤f.fields.length) {p:Pol} (hp:p.ok):EgOk (newE f p) ρ lv:=by
 refine ⟨hok,h1,hp,fun q hq=>(by cases hq),fun q hq=>(by cases hq),List.Pairwise.nil,Nat.zero_le _,⟨List.length_replicate,fun i g c hg hc=>?_⟩,List.length_replicate,Int.le_refl 0,by show (0:Int)≤_; decide,Int.le_refl 0,by show (0:Int)≤_; decide⟩
 obtain rfl:=(List.mem_replicate.1 (List.mem_of_getElem? hc)).2
 exact ⟨.inl rfl,fun q=>absurd rfl q,fun q=>absurd (show (0:Int)=2 from q) (by decide)⟩
theorem newE_last {f:Fm} {ρ:List Int} {lv:Nat→Nat} (hok:OkFm f ρ lv) (h1:1≤f.fields.length) {p:Pol} (hp:p.ok):0≤(gY (newE f p) ρ).last∧(gY (newE f p) ρ).last≤14:=by
 have R:=setE_run (newE_ok hok h1 hp)
 have few:=hok.fields.few
 have hod:Ordd f.fields ρ lv (uW ρ f.fields.length):=vW hok.rank (by omega)
 have h1:=R.lo
 have h2:=R.hi
 have h3:(uW ρ (newE f p).fm.fields.length).length=f.fields.length:=hod.len
 rw [h3] at h2
 have h4:(newE f p).last=0:=rfl
 simp only [h4] at h1 h2
 omega
def FormU (h:Vw) (u:Value) (f:Fm):Prop:=IsForm h (.slice (sA (agJ 0 u)) (sN (agJ 0 u)) (sC (agJ 0 u))) (.slice (sA (agJ 1 u)) (sN (agJ 1 u)) (sC (agJ 1 u))) f
theorem FormU.sees {h h':Vw} {u:Value} {f:Fm} (k:FormU h u f) (s:Sees h h'):FormU h' u f:=IsForm.sees k s
theorem rep_cl (n:Nat):List.replicate n [.int .i64 0,.int .i64 0,.int .i64 0,.int .i64 0,.int .i64 0,.string ⟨#[]⟩,.int .i64 0,.int .i64 0,.string ⟨#[]⟩,.int .i64 0]=gK (List.replicate n clZ):=by unfold gK; rw [List.map_replicate]; rfl
theorem rep_vl (n:Nat):List.replicate n [.int .i64 0,.int .i64 0,.string ⟨#[]⟩]=xY (List.replicate n zV):=by unfold xY; rw [List.map_replicate]; rfl
set_option maxHeartbeats 2000000 in
theorem new_any (f:Fm) (ρ:List Int) (lv:Nat→Nat) (hok:OkFm f ρ lv) (h1:1≤f.fields.length) (p:Pol) (hp:p.ok) (fv pv:Value) (h:Vw) (hf:IsForm h fv pv f) :
  C0 Tryz.prog 44 #[.agg #[fv,pv],.agg #[.int .i64 p.t,.int .i64 p.b,.int .i64 p.c]] h (fun r h'=>TelR (iY (newE f p) ρ) (gY (newE f p) ρ).out r h'):=by
 have few:=hok.fields.few
 have hgc:=c_gapChk p hp
 have hnl:=(newE_last hok h1 hp).2
 have hok':=newE_ok hok h1 hp
 have hdn:=fun b n hn A A2 A3 c c2 c3 gv iv lw0 H q1 q2=>settle_eg (newE f p) ρ lv hok' b n hn A A2 A3 c c2 c3 gv iv lw0 H q1 q2 (by omega)
 have hS:=fun fv pv H q=>shCopy_any f ρ lv hok fv pv H q
 obtain ⟨vs,A,c,rfl,-,-,-,-,-,-⟩:=cQ hf.fields
 obtain ⟨us,ws,B,d,rfl,-,-,-,-,-,-⟩:=pgs_open hf.pages
 have hsc:=fun H q=>shCheck_any f ρ lv A f.fields.length c B f.pages.length d H hok q rfl
 obtain ⟨S,hS'⟩:∃ S,gY (newE f p) ρ=S:=⟨_,rfl⟩
 have hres:iY (newE f p) ρ={ newE f p with calls:=S.calls,vals:=S.vals,last:=S.last }:=by unfold iY; rw [hS']
 rw [hS'] at hdn
 have hcl:List.replicate f.fields.length [.int .i64 0,.int .i64 0,.int .i64 0,.int .i64 0,.int .i64 0,.string ⟨#[]⟩,.int .i64 0,.int .i64 0,.string ⟨#[]⟩,.int .i64 0]=gK (newE f p).calls:=rep_cl f.fields.length
 have hvl:List.replicate f.fields.length [.int .i64 0,.int .i64 0,.string ⟨#[]⟩]=xY (newE f p).vals:=rep_vl f.fields.length
 generalize hn:f.fields.length=n at *
 generalize hm:f.pages.length=m at *
 refine oQ Tryz.func44 (c:=Tryz.f44.body.getD .skip) (N:=41) ?_
 intro hbx hbad Q hQ
 refine go3 52 [.own,.own,.own,.b 2 0,.cl 83 #[.agg #[.slice A n c,.slice B m d]] (Vi 0),.b 1 0,.cl 84 #[.agg #[Vi p.t,Vi p.b,Vi p.c]] (Vi 0),.b 2 0] [] ?_ (ho:=(And.intro (fun H sH=>hsc _ (hf.sees sH)) (And.intro (fun H sH=>hgc _) (trivial))))
 intro b1 b2 b3
 refine cV 11 3 [.ld 5 0,.f (fun gh=>.agg #[.slice (sA (agJ 0 (gh 1))) (sN (agJ 0 (gh 1))) (sC (agJ 0 (gh 1))),.slice (sA (agJ 1 (gh 1))) (sN (agJ 1 (gh 1))) (sC (agJ 1 (gh 1)))]) (fun gh hh=>FormU hh (gh 1) f),.ld 4 0,.pu,.e (fun gh=>.slice (some ⟨(vJ (gh 4)),0,none⟩) n n) 0 (fun gh=>.row (.slice (some ⟨(vJ (gh 4)),0,none⟩) n n) 44 10 (List.replicate n [Vi 0,Vi 0,Vi 0,Vi 0,Vi 0,Ve,Vi 0,Vi 0,Ve,Vi 0])),.pu,.e (fun gh=>.slice (some ⟨(vJ (gh 6)),0,none⟩) n n) 1 (fun gh=>.row (.slice (some ⟨(vJ (gh 6)),0,none⟩) n n) 42 3 (List.replicate n [Vi 0,Vi 0,Ve])),.pu,.pu,.al 2,.pu] [(1,false),(4,true),(6,true),(9,true)] (And.intro (fun _ _ _ s c=>c.sees s) (trivial)) ?_ ?_
 ·intro R hT hA hmono
  refine And.intro (jX hT hA hmono ⟨fun _ _=>by kernel_rfl,fun _ _=>by kernel_rfl,fun _ _=>by kernel_rfl⟩ 27 (fun u=>.agg #[.slice (sA (agJ 0 u)) (sN (agJ 0 u)) (sC (agJ 0 u)),.slice (sA (agJ 1 u)) (sN (agJ 1 u)) (sC (agJ 1 u))]) [0] 1 49 (fun gh=>#[.agg #[.slice A n c,.slice B m d]]) (fun gh H sH fH lent=>C0.facts (R:=R) (x:=gh) (i:=1) (n:=0) (F:=(fun u=>.agg #[.slice (sA (agJ 0 u)) (sN (agJ 0 u)) (sC (agJ 0 u)),.slice (sA (agJ 1 u)) (sN (agJ 1 u)) (sC (agJ 1 u))])) (G:=fun u hh=>FormU hh u f) (f:=fun gh hh=>FormU hh (gh 1) f) (hS _ _ _ (hf.sees sH)) (by kernel_rfl) (by kernel_rfl) (fun _ _ r=>r))) ?_
  refine And.intro (r_make hT hA hmono ⟨fun _ _=>by kernel_rfl,fun _ _=>by kernel_rfl,fun _ _=>by kernel_rfl⟩ (by kernel_rfl) 30 [3] 4 n (by kernel_rfl) (fun _=>by kernel_rfl) 0 (GN R 0) (by kernel_rfl) (by kernel_rfl) (by kernel_rfl) (t:=31) (te:=44) (z:=.agg #[Vi 0,Vi 0,Vi 0,Vi 0,Vi 0,Ve,Vi 0,Vi 0,Ve,Vi 0]) (cs:=[Vi 0,Vi 0,Vi 0,Vi 0,Vi 0,Ve,Vi 0,Vi 0,Ve,Vi 0]) (y:=(.tmp 29)) (by_:=96) (kk:=10) (fun _=>by kernel_rfl) (fun _=>by kernel_rfl) (by kernel_rfl) (fun _=>by kernel_rfl) Tryz.underlying31 (by kernel_rfl) rfl rfl (by decide) (by omega) (by omega) (by simp only [maxLen]; omega)) ?_
  refine And.intro (r_make hT hA hmono ⟨fun _ _=>by kernel_rfl,fun _ _=>by kernel_rfl,fun _ _=>by kernel_rfl⟩ (by kernel_rfl) 32 [5] 6 n (by kernel_rfl) (fun _=>by kernel_rfl) 1 (GN R 1) (by kernel_rfl) (by kernel_rfl) (by kernel_rfl) (t:=32) (te:=42) (z:=.agg #[Vi 0,Vi 0,Ve]) (cs:=[Vi 0,Vi 0,Ve]) (y:=(.tmp 31)) (by_:=32) (kk:=3) (fun _=>by kernel_rfl) (fun _=>by kernel_rfl) (by kernel_rfl) (fun _=>by kernel_rfl) Tryz.underlying32 (by kernel_rfl) rfl rfl (by decide) (by omega) (by omega) (by simp only [maxLen]; omega)) ?_
  trivial
 rintro u27 bcq bvq bm W4 S5 ⟨f27,-⟩
 replace f27:FormU W4 u27 f:=f27
 refine go0 4 [] [] ?_
 obtain ⟨-,A6,c6,e6,-,-,-,-,-,-⟩:=cQ f27.fields
 rw [hn] at e6
 refine uQ [(4,Vp b3),(36,Vp bm)] [.row (Vs bcq n n) 44 10 (List.replicate n [Vi 0,Vi 0,Vi 0,Vi 0,Vi 0,Ve,Vi 0,Vi 0,Ve,Vi 0]),.row (Vs bvq n n) 42 3 (List.replicate n [Vi 0,Vi 0,Ve]),.box bm [.slice (sA (agJ 0 u27)) (sN (agJ 0 u27)) (sC (agJ 0 u27)),.slice (sA (agJ 1 u27)) (sN (agJ 1 u27)) (sC (agJ 1 u27)),Vi p.t,Vi p.b,Vi p.c,Vz,Vs bcq n n,Vs bvq n n,Vi 0,Vi 0,Vz],.box b3 [Vz,Vz,Vi 0,Vi 0,Vi 0,Vz,Vz,Vz,Vi 0,Vi 0],.box b2 [Vi p.t,Vi p.b,Vi p.c],.box b1 [.slice A n c,.slice B m d]] [] ?_
 rw [e6,hcl,hvl]
 have f28:=f27.fields
 rw [e6] at f28
 refine g_front 2 ?_
 refine zQ 67 8 ?_
 refine g_callE (Bi:=[.row (Vz) 67 8 ([]),.box bm [.slice A6 n c6,.slice (sA (agJ 1 u27)) (sN (agJ 1 u27)) (sC (agJ 1 u27)),Vi p.t,Vi p.b,Vi p.c,Vz,Vs bcq n n,Vs bvq n n,Vi 0,Vi 0,Vz],.row (Vs bcq n n) 44 10 (gK (newE f p).calls),.row (Vs bvq n n) 42 3 (xY (newE f p).vals)]) [0,1,2,3] (fun H sH=>hdn bm n hn A6 (some ⟨bcq,0,none⟩) (some ⟨bvq,0,none⟩) c6 n n (agJ 1 u27) (Vz) (Vz) _ (f28.sees sH) (RS.nil _ 7)) ?_; rintro _ _ W6 S7 ⟨ul,rfl,rfl⟩
 refine go0 9 [.b 4 0] [] ?_
 refine tQ 0 (v:=.slice (sA ul) (sN ul) (sC ul)) (e:=67) (kk:=8) (l:=vV S.out) ?_; intro W8 S9 fl
 refine tQ 1 (v:=Vs bcq n n) (e:=44) (kk:=10) (l:=gK S.calls) ?_; intro W10 S11 fc
 refine tQ 1 (v:=Vs bvq n n) (e:=42) (kk:=3) (l:=xY S.vals) ?_; intro W12 S13 fv
 refine hQ.to [.agg #[.slice A6 n c6,.slice (sA (agJ 1 u27)) (sN (agJ 1 u27)) (sC (agJ 1 u27)),Vi p.t,Vi p.b,Vi p.c,Vz,Vs bcq n n,Vs bvq n n,Vi 0,Vi S.last],.slice (sA ul) (sN ul) (sC ul),Vi 0] (fun H sH=>?_) (ix:=[1])
 exact (by rw [hres,hS']; exact ⟨.agg #[.slice A6 n c6,agJ 1 u27,Vz,Vs bcq n n,Vs bvq n n,ul],rfl,⟨⟨⟨(f28.sees (S7.trans (S9.trans (S11.trans (S13.trans sH))))),IsForm.pages (f27.sees (S7.trans (S9.trans (S11.trans (S13.trans sH)))))⟩,RS.nil _ 7,(fc.sees (S13.trans sH)),(fv.sees sH)⟩,(fl.sees (S11.trans (S13.trans sH)))⟩⟩:TelR (iY (newE f p) ρ) (gY (newE f p) ρ).out _ _)
end Go.Proofs.YtmoahpojchndiaaGreat
namespace Go.Proofs.YtmoahpojchndiaaGreat
open Go.RowKit
set_option linter.unusedVariables false
theorem small_ord:uW [1,0,2] 3=[1,0,2]:=by
 obtain ⟨hp,hr⟩:=ordL_spec [1,0,2] 3 (by decide)
 generalize uW [1,0,2] 3=os at *
 have hl:os.length=3:=hp.length_eq
 obtain ⟨a,b,c,rfl⟩:∃ a b c,os=[a,b,c]:=by
  match os,hl with
  | [a,b,c],_=>exact ⟨a,b,c,rfl⟩
 have h1:=hr 0 1 a b (by decide) rfl rfl
 have h2:=hr 1 2 b c (by decide) rfl rfl
 have hn:=hp.nodup_iff.2 List.nodup_range
 have ha:=List.mem_range.1 (hp.mem_iff.1 (show a∈[a,b,c] by simp))
 have hb:=List.mem_range.1 (hp.mem_iff.1 (show b∈[a,b,c] by simp))
 have hc:=List.mem_range.1 (hp.mem_iff.1 (show c∈[a,b,c] by simp))
 simp only [List.nodup_cons,List.mem_cons,List.not_mem_nil,or_false,not_or] at hn
 rcases (by omega:a=0∨a=1∨a=2) with rfl | rfl | rfl <;> rcases (by omega:b=0∨b=1∨b=2) with rfl | rfl | rfl <;> rcases (by omega:c=0∨c=1∨c=2) with rfl | rfl | rfl <;> first | rfl | omega | (exfalso; revert h1 h2; decide)
theorem small_set (p:Pol):∃ y z,gY (newE smallF p) [1,0,2]=⟨y,[⟨1,1,⟨#[]⟩⟩,⟨1,0,⟨#[]⟩⟩,pdV],z,1,[⟨⟨#[99]⟩,1,⟨1,1,⟨#[]⟩⟩,zV⟩]⟩:=by
 refine ⟨[clZ,clZ,⟨1,1,1,⟨1,1,⟨#[]⟩⟩,zV,0 + p.b⟩],[(⟨#[97]⟩,⟨1,0,⟨#[]⟩⟩),(⟨#[98]⟩,⟨1,1,⟨#[]⟩⟩),(⟨#[99]⟩,pdV)],?_⟩
 unfold gY
 show wX _ _ _ _ _ (uW [1,0,2] 3)=_
 rw [small_ord]
 kernel_rfl
def polE (a b c:Int):Pol:=⟨1 + cJ a 6,1 + cJ b 50,1 + cJ b 50 + cJ c 200⟩
theorem polE_ok (a b c:Int):(polE a b c).ok:=by
 have h1:=gX a 6 (by decide)
 have h2:=gX b 50 (by decide)
 have h3:=gX c 200 (by decide)
 exact ⟨by show 1≤1 + cJ a 6; omega,by show 1 + cJ a 6≤6; omega,by show 1≤1 + cJ b 50; omega,by show 1 + cJ b 50≤1 + cJ b 50 + cJ c 200; omega,by show 1 + cJ b 50 + cJ c 200≤1000; omega⟩
theorem c_policy (a b c:Int) (h:Vw) (a0 : -9223372036854775808≤a) (a1:a≤9223372036854775807) (b0 : -9223372036854775808≤b) (b1:b≤9223372036854775807) (c0 : -9223372036854775808≤c) (c1:c≤9223372036854775807) :
  C0 Tryz.prog 13 #[.int .i64 a,.int .i64 b,.int .i64 c] h (fun r _=>r=(polE a b c).val):=by
 have h1:=gX a 6 (by decide)
 have h2:=gX b 50 (by decide)
 have h3:=gX c 200 (by decide)
 have e1:=fun H=>zJ a 6 H a0 a1 (by decide) (by decide)
 have e2:=fun H=>zJ b 50 H b0 b1 (by decide) (by decide)
 have e3:=fun H=>zJ c 200 H c0 c1 (by decide) (by decide)
 have hr:(polE a b c).val=.agg #[.int .i64 (1 + cJ a 6),.int .i64 (1 + cJ b 50),.int .i64 (1 + cJ b 50 + cJ c 200)]:=rfl
 generalize cJ a 6=x at *
 generalize cJ b 50=y at *
 generalize cJ c 200=z at *
 refine oQ Tryz.func13 (c:=Tryz.f13.body.getD .skip) (N:=20) ?_
 intro hbx hbad Q hQ
 refine go1 28 [.own,.cl 19 #[Vi b,Vi 50] (Vi y),.cl 19 #[Vi a,Vi 6] (Vi x),.cl 19 #[Vi c,Vi 200] (Vi z),.b 0 0] [(10,Vi (IntKind.i64.wrap (1 + y)),Vi (1 + y)),(13,Vi (IntKind.i64.wrap (1 + x)),Vi (1 + x)),(18,Vi (IntKind.i64.wrap (1 + y + z)),Vi (1 + y + z))] ?_ (ho:=(And.intro (fun H sH=>e2 _) (And.intro (fun H sH=>e1 _) (And.intro (fun H sH=>e3 _) (trivial))))) (hc:=(And.intro (jJ (by omega) (by omega)) (And.intro (jJ (by omega) (by omega)) (And.intro (jJ (by omega) (by omega)) (trivial)))))
 intro b1
 refine hQ.to [.agg #[Vi (1 + x),Vi (1 + y),Vi (1 + y + z)]] (fun H sH=>?_) (ix:=[0])
 exact hr.symm
def begE (l:List RawD) (p:Pol):Eg:=iY (newE (iQ l) p) (rhoL (fW (iQ l).fields))
def begL (l:List RawD) (p:Pol):List Lt:=(gY (newE (iQ l) p) (rhoL (fW (iQ l).fields))).out
theorem form_one (l:List RawD):1≤(iQ l).fields.length:=by have:=form_len l; have:=nFields_le l; omega
theorem begE_ok (l:List RawD) {p:Pol} (hp:p.ok):EgOk (begE l p) (rhoL (fW (iQ l).fields)) (lvF l):=settE_ok (newE_ok (form_okFm l) (form_one l) hp) (by have:=(newE_last (form_okFm l) (form_one l) hp).2; omega)
theorem begE_settled (l:List RawD) {p:Pol} (hp:p.ok):Settled (begE l p) (rhoL (fW (iQ l).fields)):=settE_settled (newE_ok (form_okFm l) (form_one l) hp)
set_option maxHeartbeats 2000000 in
theorem begun_any (l:List RawD) (sl:Value) (p:Pol) (hp:p.ok) (h:Vw) (hl:RS h 4 sl (l.map RawD.cs)) (ll:l.length * 40≤reachBytes) (ol:∀ r∈l,r.ok) :
  C0 Tryz.prog 14 #[sl,.agg #[.int .i64 p.t,.int .i64 p.b,.int .i64 p.c]] h (fun r h'=>∃ u,r=.tuple #[.agg #[.slice (sA (agJ 0 u)) (sN (agJ 0 u)) (sC (agJ 0 u)),.slice (sA (agJ 1 u)) (sN (agJ 1 u)) (sC (agJ 1 u)),.int .i64 ((begE l p).pol).t,.int .i64 ((begE l p).pol).b,.int .i64 ((begE l p).pol).c,.slice (sA (agJ 2 u)) (sN (agJ 2 u)) (sC (agJ 2 u)),.slice (sA (agJ 3 u)) (sN (agJ 3 u)) (sC (agJ 3 u)),.slice (sA (agJ 4 u)) (sN (agJ 4 u)) (sC (agJ 4 u)),.int .i64 (begE l p).now,.int .i64 (begE l p).last],.slice (sA (agJ 5 u)) (sN (agJ 5 u)) (sC (agJ 5 u)),.bool true]∧TelF h' u (begE l p) (begL l p)):=by
 have hFm:∀ H,RS H 4 sl (l.map RawD.cs)→C0 Tryz.prog 33 #[sl] H (fun r h'=>∃ u,r=.agg #[.slice (sA (agJ 0 u)) (sN (agJ 0 u)) (sC (agJ 0 u)),.slice (sA (agJ 1 u)) (sN (agJ 1 u)) (sC (agJ 1 u))]∧FormU h' u (iQ l)):=fun H q=>(form_any l sl H q ll ol).mono fun v h' _=>by
  rintro ⟨u1,u2,rfl,hf⟩
  exact ⟨.agg #[u1,u2],rfl,hf⟩
 have hSm:∀ H,C0 Tryz.prog 45 #[] H (fun r h'=>∃ u,r=.agg #[.slice (sA (agJ 0 u)) (sN (agJ 0 u)) (sC (agJ 0 u)),.slice (sA (agJ 1 u)) (sN (agJ 1 u)) (sC (agJ 1 u))]∧FormU h' u smallF):=fun H=>(small_any H).mono fun v h' _=>by
  rintro ⟨A,c,B,d,rfl,hf⟩
  exact ⟨.agg #[.slice A 3 c,.slice B 2 d],rfl,hf⟩
 have hN1:=fun fv pv H q=>new_any (iQ l) _ _ (form_okFm l) (form_one l) p hp fv pv H q
 have hN2:=fun fv pv H q=>new_any smallF _ _ ⟨small_ok,small_okG,small_ranked⟩ (by decide) p hp fv pv H q
 obtain ⟨y,z,hs⟩:=small_set p
 obtain ⟨E1,hE1⟩:∃ E1,begE l p=E1:=⟨_,rfl⟩
 obtain ⟨lt,hlt⟩:∃ lt,begL l p=lt:=⟨_,rfl⟩
 have hN1:∀ fv pv H,IsForm H fv pv (iQ l)→C0 Tryz.prog 44 #[.agg #[fv,pv],.agg #[.int .i64 p.t,.int .i64 p.b,.int .i64 p.c]] H (fun r h'=>TelR (begE l p) (begL l p) r h'):=hN1
 rw [hE1,hlt] at hN1 ⊢
 obtain ⟨E2,hE2⟩:∃ E2,iY (newE smallF p) [1,0,2]=E2:=⟨_,rfl⟩
 rw [hE2,hs] at hN2
 have hv2:E2.vals=[⟨1,1,⟨#[]⟩⟩,⟨1,0,⟨#[]⟩⟩,pdV]:=by rw [← hE2]; show (gY (newE smallF p) [1,0,2]).vals=_; rw [hs]
 clear hE1 hlt hE2 hs
 obtain ⟨A0,c0,rfl,-,-,-⟩:=hl.form
 rw [List.length_map] at *
 generalize l.length=len at *
 refine oQ Tryz.func14 (c:=Tryz.f14.body.getD .skip) (N:=57) ?_
 intro hbx hbad Q hQ
 refine go2 9 [.own,.own] [] ?_
 intro b1 b2
 refine cV 12 1 [.pu,.f (fun gh=>.agg #[.slice (sA (agJ 0 (gh 1))) (sN (agJ 0 (gh 1))) (sC (agJ 0 (gh 1))),.slice (sA (agJ 1 (gh 1))) (sN (agJ 1 (gh 1))) (sC (agJ 1 (gh 1)))]) (fun gh hh=>FormU hh (gh 1) (iQ l)),.ld 2 0,.f (fun gh=>.tuple #[.agg #[.slice (sA (agJ 0 (gh 3))) (sN (agJ 0 (gh 3))) (sC (agJ 0 (gh 3))),.slice (sA (agJ 1 (gh 3))) (sN (agJ 1 (gh 3))) (sC (agJ 1 (gh 3))),Vi E1.pol.t,Vi E1.pol.b,Vi E1.pol.c,.slice (sA (agJ 2 (gh 3))) (sN (agJ 2 (gh 3))) (sC (agJ 2 (gh 3))),.slice (sA (agJ 3 (gh 3))) (sN (agJ 3 (gh 3))) (sC (agJ 3 (gh 3))),.slice (sA (agJ 4 (gh 3))) (sN (agJ 4 (gh 3))) (sC (agJ 4 (gh 3))),Vi E1.now,Vi E1.last],.slice (sA (agJ 5 (gh 3))) (sN (agJ 5 (gh 3))) (sC (agJ 5 (gh 3))),Vi 0]) (fun gh hh=>TelF hh (gh 3) E1 lt),.pu,.pu,.pu,.pu,.al 0,.st 0 0,.pu,.pu] [(1,false),(3,false),(8,true)] (And.intro (fun _ _ _ s c=>c.sees s) (And.intro (fun _ _ _ s c=>c.sees s) (trivial))) ?_ ?_
 ·intro R hT hA hmono
  refine And.intro (jX hT hA hmono ⟨fun _ _=>by kernel_rfl,fun _ _=>by kernel_rfl,fun _ _=>by kernel_rfl⟩ 15 (fun u=>.agg #[.slice (sA (agJ 0 u)) (sN (agJ 0 u)) (sC (agJ 0 u)),.slice (sA (agJ 1 u)) (sN (agJ 1 u)) (sC (agJ 1 u))]) [0] 1 33 (fun gh=>#[.slice A0 len c0]) (fun gh H sH fH lent=>C0.facts (R:=R) (x:=gh) (i:=1) (n:=0) (F:=(fun u=>.agg #[.slice (sA (agJ 0 u)) (sN (agJ 0 u)) (sC (agJ 0 u)),.slice (sA (agJ 1 u)) (sN (agJ 1 u)) (sC (agJ 1 u))])) (G:=fun u hh=>FormU hh u (iQ l)) (f:=fun gh hh=>FormU hh (gh 1) (iQ l)) (hFm _ (hl.sees sH)) (by kernel_rfl) (by kernel_rfl) (fun _ _ r=>r))) ?_
  refine And.intro (jX hT hA hmono ⟨fun _ _=>by kernel_rfl,fun _ _=>by kernel_rfl,fun _ _=>by kernel_rfl⟩ 17 (fun u=>.tuple #[.agg #[.slice (sA (agJ 0 u)) (sN (agJ 0 u)) (sC (agJ 0 u)),.slice (sA (agJ 1 u)) (sN (agJ 1 u)) (sC (agJ 1 u)),Vi E1.pol.t,Vi E1.pol.b,Vi E1.pol.c,.slice (sA (agJ 2 u)) (sN (agJ 2 u)) (sC (agJ 2 u)),.slice (sA (agJ 3 u)) (sN (agJ 3 u)) (sC (agJ 3 u)),.slice (sA (agJ 4 u)) (sN (agJ 4 u)) (sC (agJ 4 u)),Vi E1.now,Vi E1.last],.slice (sA (agJ 5 u)) (sN (agJ 5 u)) (sC (agJ 5 u)),Vi 0]) [1,2] 3 44 (fun gh=>#[.agg #[.slice (sA (agJ 0 (gh 1))) (sN (agJ 0 (gh 1))) (sC (agJ 0 (gh 1))),.slice (sA (agJ 1 (gh 1))) (sN (agJ 1 (gh 1))) (sC (agJ 1 (gh 1)))],.agg #[Vi p.t,Vi p.b,Vi p.c]]) (fun gh H sH fH lent=>C0.facts (R:=R) (x:=gh) (i:=3) (n:=1) (F:=(fun u=>.tuple #[.agg #[.slice (sA (agJ 0 u)) (sN (agJ 0 u)) (sC (agJ 0 u)),.slice (sA (agJ 1 u)) (sN (agJ 1 u)) (sC (agJ 1 u)),Vi E1.pol.t,Vi E1.pol.b,Vi E1.pol.c,.slice (sA (agJ 2 u)) (sN (agJ 2 u)) (sC (agJ 2 u)),.slice (sA (agJ 3 u)) (sN (agJ 3 u)) (sC (agJ 3 u)),.slice (sA (agJ 4 u)) (sN (agJ 4 u)) (sC (agJ 4 u)),Vi E1.now,Vi E1.last],.slice (sA (agJ 5 u)) (sN (agJ 5 u)) (sC (agJ 5 u)),Vi 0])) (G:=fun u hh=>TelF hh u E1 lt) (f:=fun gh hh=>TelF hh (gh 3) E1 lt) (hN1 _ _ _ (fH 0 _ rfl (by kernel_rfl))) (by kernel_rfl) (by kernel_rfl) (fun _ _ r=>r))) ?_
  trivial
 rintro u15 u17 b3 W4 S5 ⟨f15,f17,-⟩
 replace f15:FormU W4 u15 (iQ l):=f15
 replace f17:TelF W4 u17 E1 lt:=f17
 refine go0 2 [] [] ?_
 refine cV 11 1 [.f (fun gh=>.agg #[.slice (sA (agJ 0 (gh 0))) (sN (agJ 0 (gh 0))) (sC (agJ 0 (gh 0))),.slice (sA (agJ 1 (gh 0))) (sN (agJ 1 (gh 0))) (sC (agJ 1 (gh 0)))]) (fun gh hh=>FormU hh (gh 0) smallF),.ld 3 0,.f (fun gh=>.tuple #[.agg #[.slice (sA (agJ 0 (gh 2))) (sN (agJ 0 (gh 2))) (sC (agJ 0 (gh 2))),.slice (sA (agJ 1 (gh 2))) (sN (agJ 1 (gh 2))) (sC (agJ 1 (gh 2))),Vi E2.pol.t,Vi E2.pol.b,Vi E2.pol.c,.slice (sA (agJ 2 (gh 2))) (sN (agJ 2 (gh 2))) (sC (agJ 2 (gh 2))),.slice (sA (agJ 3 (gh 2))) (sN (agJ 3 (gh 2))) (sC (agJ 3 (gh 2))),.slice (sA (agJ 4 (gh 2))) (sN (agJ 4 (gh 2))) (sC (agJ 4 (gh 2))),Vi E2.now,Vi E2.last],.slice (sA (agJ 5 (gh 2))) (sN (agJ 5 (gh 2))) (sC (agJ 5 (gh 2))),Vi 0]) (fun gh hh=>TelF hh (gh 2) E2 [⟨⟨#[99]⟩,1,⟨1,1,⟨#[]⟩⟩,zV⟩]),.pu,.pu,.pu,.pu,.al 0,.st 0 0,.pu,.pu] [(0,false),(2,false),(7,true)] (And.intro (fun _ _ _ s c=>c.sees s) (And.intro (fun _ _ _ s c=>c.sees s) (trivial))) ?_ ?_
 ·intro R hT hA hmono
  refine And.intro (jX hT hA hmono ⟨fun _ _=>by kernel_rfl,fun _ _=>by kernel_rfl,fun _ _=>by kernel_rfl⟩ 22 (fun u=>.agg #[.slice (sA (agJ 0 u)) (sN (agJ 0 u)) (sC (agJ 0 u)),.slice (sA (agJ 1 u)) (sN (agJ 1 u)) (sC (agJ 1 u))]) [] 0 45 (fun gh=>#[]) (fun gh H sH fH lent=>C0.facts (R:=R) (x:=gh) (i:=0) (n:=0) (F:=(fun u=>.agg #[.slice (sA (agJ 0 u)) (sN (agJ 0 u)) (sC (agJ 0 u)),.slice (sA (agJ 1 u)) (sN (agJ 1 u)) (sC (agJ 1 u))])) (G:=fun u hh=>FormU hh u smallF) (f:=fun gh hh=>FormU hh (gh 0) smallF) (hSm _) (by kernel_rfl) (by kernel_rfl) (fun _ _ r=>r))) ?_
  refine And.intro (jX hT hA hmono ⟨fun _ _=>by kernel_rfl,fun _ _=>by kernel_rfl,fun _ _=>by kernel_rfl⟩ 24 (fun u=>.tuple #[.agg #[.slice (sA (agJ 0 u)) (sN (agJ 0 u)) (sC (agJ 0 u)),.slice (sA (agJ 1 u)) (sN (agJ 1 u)) (sC (agJ 1 u)),Vi E2.pol.t,Vi E2.pol.b,Vi E2.pol.c,.slice (sA (agJ 2 u)) (sN (agJ 2 u)) (sC (agJ 2 u)),.slice (sA (agJ 3 u)) (sN (agJ 3 u)) (sC (agJ 3 u)),.slice (sA (agJ 4 u)) (sN (agJ 4 u)) (sC (agJ 4 u)),Vi E2.now,Vi E2.last],.slice (sA (agJ 5 u)) (sN (agJ 5 u)) (sC (agJ 5 u)),Vi 0]) [0,1] 2 44 (fun gh=>#[.agg #[.slice (sA (agJ 0 (gh 0))) (sN (agJ 0 (gh 0))) (sC (agJ 0 (gh 0))),.slice (sA (agJ 1 (gh 0))) (sN (agJ 1 (gh 0))) (sC (agJ 1 (gh 0)))],.agg #[Vi p.t,Vi p.b,Vi p.c]]) (fun gh H sH fH lent=>C0.facts (R:=R) (x:=gh) (i:=2) (n:=1) (F:=(fun u=>.tuple #[.agg #[.slice (sA (agJ 0 u)) (sN (agJ 0 u)) (sC (agJ 0 u)),.slice (sA (agJ 1 u)) (sN (agJ 1 u)) (sC (agJ 1 u)),Vi E2.pol.t,Vi E2.pol.b,Vi E2.pol.c,.slice (sA (agJ 2 u)) (sN (agJ 2 u)) (sC (agJ 2 u)),.slice (sA (agJ 3 u)) (sN (agJ 3 u)) (sC (agJ 3 u)),.slice (sA (agJ 4 u)) (sN (agJ 4 u)) (sC (agJ 4 u)),Vi E2.now,Vi E2.last],.slice (sA (agJ 5 u)) (sN (agJ 5 u)) (sC (agJ 5 u)),Vi 0])) (G:=fun u hh=>TelF hh u E2 [⟨⟨#[99]⟩,1,⟨1,1,⟨#[]⟩⟩,zV⟩]) (f:=fun gh hh=>TelF hh (gh 2) E2 [⟨⟨#[99]⟩,1,⟨1,1,⟨#[]⟩⟩,zV⟩]) (hN2 _ _ _ (fH 0 _ rfl (by kernel_rfl))) (by kernel_rfl) (by kernel_rfl) (fun _ _ r=>r))) ?_
  trivial
 rintro u22 u24 b6 W7 S8 ⟨f22,f24,-⟩
 replace f22:FormU W7 u22 smallF:=f22
 replace f24:TelF W7 u24 E2 [⟨⟨#[99]⟩,1,⟨1,1,⟨#[]⟩⟩,zV⟩]:=f24
 refine go0 2 [] [] ?_
 obtain ⟨A5,c5,e5,-⟩:=f24.out.form
 obtain ⟨A4,c4,e4,-⟩:=f24.eng.vals.form
 have f25:=f24.out
 have f26:=f24.eng.vals
 rw [e5] at f25
 rw [e4] at f26
 rw [hv2] at e4 f26
 refine uQ [(4,Vp b2),(7,Vp b3),(8,.slice (sA (agJ 5 u17)) (sN (agJ 5 u17)) (sC (agJ 5 u17))),(9,Vi 0),(10,Vp b6),(11,.slice (sA (agJ 5 u24)) (sN (agJ 5 u24)) (sC (agJ 5 u24))),(12,Vi 0)] [.box b6 [.slice (sA (agJ 0 u24)) (sN (agJ 0 u24)) (sC (agJ 0 u24)),.slice (sA (agJ 1 u24)) (sN (agJ 1 u24)) (sC (agJ 1 u24)),Vi E2.pol.t,Vi E2.pol.b,Vi E2.pol.c,.slice (sA (agJ 2 u24)) (sN (agJ 2 u24)) (sC (agJ 2 u24)),.slice (sA (agJ 3 u24)) (sN (agJ 3 u24)) (sC (agJ 3 u24)),.slice (sA (agJ 4 u24)) (sN (agJ 4 u24)) (sC (agJ 4 u24)),Vi E2.now,Vi E2.last],.box b3 [.slice (sA (agJ 0 u17)) (sN (agJ 0 u17)) (sC (agJ 0 u17)),.slice (sA (agJ 1 u17)) (sN (agJ 1 u17)) (sC (agJ 1 u17)),Vi E1.pol.t,Vi E1.pol.b,Vi E1.pol.c,.slice (sA (agJ 2 u17)) (sN (agJ 2 u17)) (sC (agJ 2 u17)),.slice (sA (agJ 3 u17)) (sN (agJ 3 u17)) (sC (agJ 3 u17)),.slice (sA (agJ 4 u17)) (sN (agJ 4 u17)) (sC (agJ 4 u17)),Vi E1.now,Vi E1.last],.box b2 [Vz,Vz,Vi 0,Vi 0,Vi 0,Vz,Vz,Vz,Vi 0,Vi 0],.box b1 [Vi p.t,Vi p.b,Vi p.c]] [] ?_
 rw [e4,e5]
 have hr5:(vV [⟨⟨#[99]⟩,1,⟨1,1,⟨#[]⟩⟩,zV⟩])[0]?=some [.string ⟨#[99]⟩,.int .i64 1,.int .i64 1,.int .i64 1,.string ⟨#[]⟩,.int .i64 0,.int .i64 0,.string ⟨#[]⟩]:=rfl
 have hr4:(xY [⟨1,1,⟨#[]⟩⟩,⟨1,0,⟨#[]⟩⟩,pdV])[0]?=some [.int .i64 1,.int .i64 1,.string ⟨#[]⟩]:=rfl
 obtain ⟨b9,o10,rfl,-,c11⟩:=RS.row f25 (hr5)
 refine pQ (c11.sees (Sees.refl _)) ?_
 obtain ⟨b12,o13,rfl,-,c14⟩:=RS.row f26 (hr4)
 refine pQ (c14.sees (Sees.refl _)) ?_
 refine cV 32 0 [.ld 1 0,.pu,.pu,.pu,.pu,.pu,.pu,.pu,.pu,.pu,.pu,.pu,.pu,.pu,.pu,.v (fun gh=>.pointer (some ⟨b9,o10 + 0 * 8,none⟩)),.pu,.pu,.lf 1 3,.pu,.pu,.pu,.pu,.ld 0 7,.v (fun gh=>.pointer (some ⟨b12,o13 + 0 * 3,none⟩)),.pu,.lf 0 1,.pu,.pu,.st 2 0,.pu,.pu] [] (trivial) ?_ ?_
 ·intro R hT hA hmono
  refine And.intro (rY hT hA b9 o10 1 c5 0 (fun gh=>.pointer (some ⟨b9,o10 + 0 * 8,none⟩)) (by first | omega | (simp; omega))) ?_
  refine And.intro (rY hT hA b12 o13 3 c4 0 (fun gh=>.pointer (some ⟨b12,o13 + 0 * 3,none⟩)) (by first | omega | (simp; omega))) ?_
  trivial
 rintro W15 S16 -
 refine go0 2 [] [] ?_
 refine hQ.to [.agg #[.slice (sA (agJ 0 u17)) (sN (agJ 0 u17)) (sC (agJ 0 u17)),.slice (sA (agJ 1 u17)) (sN (agJ 1 u17)) (sC (agJ 1 u17)),Vi E1.pol.t,Vi E1.pol.b,Vi E1.pol.c,.slice (sA (agJ 2 u17)) (sN (agJ 2 u17)) (sC (agJ 2 u17)),.slice (sA (agJ 3 u17)) (sN (agJ 3 u17)) (sC (agJ 3 u17)),.slice (sA (agJ 4 u17)) (sN (agJ 4 u17)) (sC (agJ 4 u17)),Vi E1.now,Vi E1.last],.slice (sA (agJ 5 u17)) (sN (agJ 5 u17)) (sC (agJ 5 u17)),.bool true] (fun H sH=>?_) (ix:=[2])
 exact ⟨u17,rfl,(f17.sees (S8.trans (S16.trans sH)))⟩
end Go.Proofs.YtmoahpojchndiaaGreat
namespace Go.Proofs.YtmoahpojchndiaaGreat
open Go.RowKit
set_option linter.unusedVariables false
def heardC (x:Lt) (c:Cl):Cl:=⟨2,c.id,c.tr,c.key,x.ans,0⟩
def hearE (E:Eg) (i:Nat) (x:Lt) (c:Cl):Eg:={ E with calls:=E.calls.set i (heardC x c) }
def Takes (f:Fd) (x:Lt) (c:Cl):Prop:=c.st=1∧c.id=x.id∧eqB c.key x.key=true∧x.ans.k≤3∧x.ans.k=f.ty
end Go.Proofs.YtmoahpojchndiaaGreat
namespace Go.Proofs.YtmoahpojchndiaaGreat
open Go.RowKit
set_option linter.unusedVariables false
structure LtOk (fs:List Fd) (x:Lt):Prop where
 at_:∃ (i:Nat) (f:Fd),fs[i]?=some f∧x.nm=f.name∧f.kind=3
 key:x.key.known
 ans:x.ans=zV
theorem setE_few {E:Eg} {ρ:List Int} {lv:Nat→Nat} (hok:EgOk E ρ lv):(gY E ρ).out.length≤14∧(gY E ρ).last≤E.last + 14∧E.last≤(gY E ρ).last:=by
 have R:=setE_run hok
 have few:=hok.fm.fields.few
 have one:=hok.one
 have hod:Ordd E.fm.fields ρ lv (uW ρ E.fm.fields.length):=vW hok.fm.rank (by omega)
 have h1:=R.olen
 have h2:=R.hi
 have h3:=R.lo
 rw [hod.len] at h1 h2
 simp only [List.length_nil] at h1 h2 h3
 exact ⟨by omega,by omega,h3⟩
inductive MStep (ρ:List Int) (E:Eg) (lt:List Lt):Eg→List Lt→Prop
 | stay:MStep ρ E lt E lt
 | tick (dt:Int):1≤dt→dt≤60→MStep ρ E lt (iY (tY E dt) ρ) (lt++(tickT E dt++(gY (tY E dt) ρ).out))
 | tell (nm:ByteArray) (v:Vl):v.known→toldE E.fm.fields nm v.k=0→MStep ρ E lt (iY (tellE E nm v) ρ) (lt++(gY (tellE E nm v) ρ).out)
 | hear (i:Nat) (f:Fd) (x:Lt) (c:Cl):E.fm.fields[i]?=some f→E.calls[i]?=some c→OkV x.ans→Takes f x c→MStep ρ E lt (iY (hearE E i x c) ρ) (lt++(gY (hearE E i x c) ρ).out)
structure MOk (fm:Fm) (p:Pol) (ρ:List Int) (lv:Nat→Nat) (k:Nat) (E:Eg) (lt:List Lt):Prop where
 ok:EgOk E ρ lv
 se:Settled E ρ
 efm:E.fm=fm
 epol:E.pol=p
 now:E.now≤60 * k
 last:E.last≤14 + 14 * k
 inp:E.inp.length≤k
 len:lt.length≤14 + 28 * k
 ltr:∀ x∈lt,LtOk fm.fields x∧x.id≤E.last
instance (f:Fd) (x:Lt) (c:Cl):Decidable (Takes f x c):=by unfold Takes; infer_instance
end Go.Proofs.YtmoahpojchndiaaGreat
