/-
  Contracts of package engine: Copy, numbers, calls, done.
-/
import Derived.Test.YtmoahpojchndiaaGreatZQ9
import Derived.Test.YtmoahpojchndiaaGreatZQ42
import Derived.Test.YtmoahpojchndiaaGreatZQ45
import Derived.Test.YtmoahpojchndiaaGreatZQ46
import Derived.Test.YtmoahpojchndiaaGreatZQ34
import Derived.Test.YtmoahpojchndiaaGreatZQ28
import Derived.Test.YtmoahpojchndiaaGreatZQ41
import Derived.Test.YtmoahpojchndiaaGreatZQ38
set_option maxRecDepth 100000
namespace Go.Proofs.YtmoahpojchndiaaGreat
open Go.RowKit
set_option linter.unusedVariables false
def agJ (i:Nat):Value→Value
 | .agg vs=>vs.getD i undef
 | _=>undef
theorem zE_small:(szE zE).1 < 1000000:=by
 rw [xY]
 show 1 + (szL ([]:List Ex)).1 < 1000000
 rw [szL]; decide
theorem OkFm.small {f:Fm} {ρ:List Int} {lv:Nat→Nat} (h:OkFm f ρ lv):(∀ g∈f.fields,(szE g.src).1 < 1000000)∧∀ g∈f.pages,(szE g.skip).1 < 1000000:=by
 refine ⟨fun g hg=>?_,fun g hg=>?_⟩
 ·have hF:=h.fields.each g hg
  by_cases k:g.kind=1
  ·rw [hF.inp k]; exact zE_small
  ·have:=(hF.wf k).2.1; omega
 ·rcases h.pages.skip g hg with e | e
  ·rw [e]; exact zE_small
  ·exact e.2.2.1
theorem shCopy_any (f:Fm) (ρ:List Int) (lv:Nat→Nat) (hok:OkFm f ρ lv) (fv pv:Value) (h:Vw) (hf:IsForm h fv pv f) :
  C0 Tryz.prog 49 #[.agg #[fv,pv]] h (fun r h'=>∃ u,r=.agg #[.slice (sA (agJ 0 u)) (sN (agJ 0 u)) (sC (agJ 0 u)),.slice (sA (agJ 1 u)) (sN (agJ 1 u)) (sC (agJ 1 u))]∧IsForm h' (.slice (sA (agJ 0 u)) (sN (agJ 0 u)) (sC (agJ 0 u))) (.slice (sA (agJ 1 u)) (sN (agJ 1 u)) (sC (agJ 1 u))) f):=by
 obtain ⟨hs1,hs2⟩:=hok.small
 have few:=hok.fields.few
 have hm:=hok.pages.few
 have hF:=fun v H q=>fdCopy_any f.fields v H q hs1 (by omega)
 have hP:=fun v H q=>pgCopy_any f.pages v H q hs2 (fun p hp=>by have:=hok.pages.fl p hp; omega) (by omega)
 obtain ⟨vs,A,c,rfl,-,-,-,-,-,-⟩:=dQ hf.fields
 obtain ⟨us,ws,B,d,rfl,-,-,-,-,-,-⟩:=iX hf.pages
 generalize f.fields.length=n at *
 generalize f.pages.length=m at *
 refine qQ Tryz.func49 (c:=Tryz.f49.body.getD .skip) (N:=10) ?_
 intro hbx hbad Q hQ
 refine go2 7 [.own,.own] [] ?_
 intro b1 b2
 refine fV 8 0 [.pu,.ld 1 0,.f (fun gh=>.slice (sA (gh 2)) (sN (gh 2)) (sC (gh 2))) (fun gh hh=>IsFds hh (.slice (sA (gh 2)) (sN (gh 2)) (sC (gh 2))) f.fields),.pu,.ld 1 1,.f (fun gh=>.slice (sA (gh 5)) (sN (gh 5)) (sC (gh 5))) (fun gh hh=>IsPgs hh (.slice (sA (gh 5)) (sN (gh 5)) (sC (gh 5))) f.pages),.pu,.st 0 0] [(2,false),(5,false)] (And.intro (fun _ _ _ s c=>c.sees s) (And.intro (fun _ _ _ s c=>c.sees s) (trivial))) ?_ ?_
 ·intro R hT hA hmono
  refine And.intro (pX hT hA hmono ⟨fun _ _=>by kernel_rfl,fun _ _=>by kernel_rfl,fun _ _=>by kernel_rfl⟩ 5 (fun u=>.slice (sA u) (sN u) (sC u)) [1] 2 94 (fun gh=>#[.slice A n c]) (fun gh H sH fH lent=>C0.facts (R:=R) (x:=gh) (i:=2) (n:=0) (F:=(fun u=>.slice (sA u) (sN u) (sC u))) (G:=fun u hh=>IsFds hh (.slice (sA u) (sN u) (sC u)) f.fields) (f:=fun gh hh=>IsFds hh (.slice (sA (gh 2)) (sN (gh 2)) (sC (gh 2))) f.fields) (hF _ _ ((hf.sees sH)).fields) (by kernel_rfl) (by kernel_rfl) (fun _ _ r=>r))) ?_
  refine And.intro (pX hT hA hmono ⟨fun _ _=>by kernel_rfl,fun _ _=>by kernel_rfl,fun _ _=>by kernel_rfl⟩ 8 (fun u=>.slice (sA u) (sN u) (sC u)) [2,4] 5 95 (fun gh=>#[.slice B m d]) (fun gh H sH fH lent=>C0.facts (R:=R) (x:=gh) (i:=5) (n:=1) (F:=(fun u=>.slice (sA u) (sN u) (sC u))) (G:=fun u hh=>IsPgs hh (.slice (sA u) (sN u) (sC u)) f.pages) (f:=fun gh hh=>IsPgs hh (.slice (sA (gh 5)) (sN (gh 5)) (sC (gh 5))) f.pages) (hP _ _ ((hf.sees sH)).pages) (by kernel_rfl) (by kernel_rfl) (fun _ _ r=>r))) ?_
  trivial
 rintro u5 u8 W3 S4 ⟨f5,f8,-⟩
 replace f5:IsFds W3 (.slice (sA u5) (sN u5) (sC u5)) f.fields:=f5
 replace f8:IsPgs W3 (.slice (sA u8) (sN u8) (sC u8)) f.pages:=f8
 refine go0 2 [] [] ?_
 refine hQ.to [.agg #[.slice (sA u5) (sN u5) (sC u5),.slice (sA u8) (sN u8) (sC u8)]] (fun H sH=>?_) (ix:=[0])
 exact ⟨.agg #[u5,u8],rfl,(f5.sees sH),(f8.sees sH)⟩
structure Eg where
 fm:Fm
 pol:Pol
 inp:Env
 calls:List Cl
 vals:List Vl
 now:Int
 last:Int
structure IsEng (h:Vw) (u:Value) (E:Eg):Prop where
 form:IsForm h (.slice (sA (agJ 0 u)) (sN (agJ 0 u)) (sC (agJ 0 u))) (.slice (sA (agJ 1 u)) (sN (agJ 1 u)) (sC (agJ 1 u))) E.fm
 inp:RS h 7 (.slice (sA (agJ 2 u)) (sN (agJ 2 u)) (sC (agJ 2 u))) (zK E.inp)
 calls:RS h 10 (.slice (sA (agJ 3 u)) (sN (agJ 3 u)) (sC (agJ 3 u))) (iK E.calls)
 vals:RS h 3 (.slice (sA (agJ 4 u)) (sN (agJ 4 u)) (sC (agJ 4 u))) (jZ E.vals)
theorem IsEng.sees {h h':Vw} {u:Value} {E:Eg} (k:IsEng h u E) (s:Sees h h'):IsEng h' u E:=⟨k.form.sees s,k.inp.sees s,k.calls.sees s,k.vals.sees s⟩
structure EgOk (E:Eg) (ρ:List Int) (lv:Nat→Nat):Prop where
 fm:OkFm E.fm ρ lv
 one:1≤E.fm.fields.length
 pol:E.pol.ok
 ki:∀ q∈E.inp,q.2.known
 k0:∀ q∈E.inp,toldE E.fm.fields q.1 q.2.k=0
 once:(E.inp.map (·.1)).Nodup
 li:E.inp.length≤100
 calls:CallsOk E.fm.fields E.pol E.last E.calls
 vlen:E.vals.length=E.fm.fields.length
 n0:0≤E.now
 n1:E.now≤1073741824
 l0:0≤E.last
 l1:E.last≤1073741810
theorem EgOk.ti {E:Eg} {ρ:List Int} {lv:Nat→Nat} (h:EgOk E ρ lv):factsV E.fm.fields [] E.inp=0:=factsV_ok _ _ [] h.k0 h.once
def CopR (E:Eg) (v:Value) (Bo:List Ent) (H:Vw):Prop:=∃ u,v=.agg #[.slice (sA (agJ 0 u)) (sN (agJ 0 u)) (sC (agJ 0 u)),.slice (sA (agJ 1 u)) (sN (agJ 1 u)) (sC (agJ 1 u)),.int .i64 E.pol.t,.int .i64 E.pol.b,.int .i64 E.pol.c,.slice (sA (agJ 2 u)) (sN (agJ 2 u)) (sC (agJ 2 u)),.slice (sA (agJ 3 u)) (sN (agJ 3 u)) (sC (agJ 3 u)),.slice (sA (agJ 4 u)) (sN (agJ 4 u)) (sC (agJ 4 u)),.int .i64 E.now,.int .i64 E.last]∧Bo=[.row (.slice (sA (agJ 2 u)) (sN (agJ 2 u)) (sC (agJ 2 u))) 51 7 (zK E.inp),.row (.slice (sA (agJ 3 u)) (sN (agJ 3 u)) (sC (agJ 3 u))) 44 10 (iK E.calls),.row (.slice (sA (agJ 4 u)) (sN (agJ 4 u)) (sC (agJ 4 u))) 42 3 (jZ E.vals)]∧IsForm H (.slice (sA (agJ 0 u)) (sN (agJ 0 u)) (sC (agJ 0 u))) (.slice (sA (agJ 1 u)) (sN (agJ 1 u)) (sC (agJ 1 u))) E.fm
theorem engCopy_con (E:Eg) (ρ:List Int) (lv:Nat→Nat) (hok:EgOk E ρ lv) (w:Value) (h:Vw) (hE:IsEng h w E) :
  ConE Tryz.prog 16 #[.agg #[.slice (sA (agJ 0 w)) (sN (agJ 0 w)) (sC (agJ 0 w)),.slice (sA (agJ 1 w)) (sN (agJ 1 w)) (sC (agJ 1 w)),.int .i64 E.pol.t,.int .i64 E.pol.b,.int .i64 E.pol.c,.slice (sA (agJ 2 w)) (sN (agJ 2 w)) (sC (agJ 2 w)),.slice (sA (agJ 3 w)) (sN (agJ 3 w)) (sC (agJ 3 w)),.slice (sA (agJ 4 w)) (sN (agJ 4 w)) (sC (agJ 4 w)),.int .i64 E.now,.int .i64 E.last]] h [] (CopR E):=by
 have few:=hok.fm.fields.few
 have hcl:=hok.calls.len
 have hvl:=hok.vlen
 have hli:=hok.li
 have hS:=fun fv pv H q=>shCopy_any E.fm ρ lv hok.fm fv pv H q
 have h1:=fun v H q=>c_cloneFt (h:=H) (v:=v) (l:=E.inp) q (by omega)
 have h2:=fun v H q=>c_cloneCl (h:=H) (v:=v) (l:=E.calls) q (by omega)
 have h3:=fun v H q=>c_cloneVl (h:=H) (v:=v) (l:=E.vals) q (by omega)
 refine g_conE Tryz.func16 (c:=Tryz.f16.body.getD .skip) (N:=20) ?_
 intro hbad Q hQ
 refine go2 10 [.own,.own,.b 1 0] [] ?_
 intro b1 b2
 refine nQ (fun H sH=>hS _ _ _ ((hE.sees sH)).form) ?_; rintro _ W3 S4 ⟨uc,rfl,hfc⟩
 refine go0 5 [.b 1 0] [] ?_
 refine fV 15 3 [.pu,.ld 4 5,.e (fun gh=>.slice (sA (gh 2)) (sN (gh 2)) (sC (gh 2))) 0 (fun gh=>.row (.slice (sA (gh 2)) (sN (gh 2)) (sC (gh 2))) 51 7 (zK E.inp)),.pu,.ld 4 6,.e (fun gh=>.slice (sA (gh 5)) (sN (gh 5)) (sC (gh 5))) 1 (fun gh=>.row (.slice (sA (gh 5)) (sN (gh 5)) (sC (gh 5))) 44 10 (iK E.calls)),.pu,.ld 4 7,.e (fun gh=>.slice (sA (gh 8)) (sN (gh 8)) (sC (gh 8))) 2 (fun gh=>.row (.slice (sA (gh 8)) (sN (gh 8)) (sC (gh 8))) 42 3 (jZ E.vals)),.pu,.st 4 5,.pu,.st 4 6,.pu,.st 4 7] [(2,false),(5,false),(8,false)] (trivial) ?_ ?_
 ·intro R hT hA hmono
  refine And.intro (r_callown hT hA hmono ⟨fun _ _=>by kernel_rfl,fun _ _=>by kernel_rfl,fun _ _=>by kernel_rfl⟩ (by kernel_rfl) 9 (fun u=>.slice (sA u) (sN u) (sC u)) [1] 2 (by kernel_rfl) (fun _=>by kernel_rfl) 0 (GN R 0) (by kernel_rfl) (by kernel_rfl) (by kernel_rfl) 51 7 (fun gh=>zK E.inp) (fun _=>by kernel_rfl) (fun _=>by kernel_rfl) (fun _ _=>rfl) 50 (fun gh=>#[.slice (sA (agJ 2 w)) (sN (agJ 2 w)) (sC (agJ 2 w))]) (fun _ _=>by kernel_rfl) (fun gh H sH fH=>h1 _ _ ((hE.sees (S4.trans sH))).inp)) ?_
  refine And.intro (r_callown hT hA hmono ⟨fun _ _=>by kernel_rfl,fun _ _=>by kernel_rfl,fun _ _=>by kernel_rfl⟩ (by kernel_rfl) 12 (fun u=>.slice (sA u) (sN u) (sC u)) [2,4] 5 (by kernel_rfl) (fun _=>by kernel_rfl) 1 (GN R 1) (by kernel_rfl) (by kernel_rfl) (by kernel_rfl) 44 10 (fun gh=>iK E.calls) (fun _=>by kernel_rfl) (fun _=>by kernel_rfl) (fun _ _=>rfl) 51 (fun gh=>#[.slice (sA (agJ 3 w)) (sN (agJ 3 w)) (sC (agJ 3 w))]) (fun _ _=>by kernel_rfl) (fun gh H sH fH=>h2 _ _ ((hE.sees (S4.trans sH))).calls)) ?_
  refine And.intro (r_callown hT hA hmono ⟨fun _ _=>by kernel_rfl,fun _ _=>by kernel_rfl,fun _ _=>by kernel_rfl⟩ (by kernel_rfl) 15 (fun u=>.slice (sA u) (sN u) (sC u)) [5,7] 8 (by kernel_rfl) (fun _=>by kernel_rfl) 2 (GN R 2) (by kernel_rfl) (by kernel_rfl) (by kernel_rfl) 42 3 (fun gh=>jZ E.vals) (fun _=>by kernel_rfl) (fun _=>by kernel_rfl) (fun _ _=>rfl) 52 (fun gh=>#[.slice (sA (agJ 4 w)) (sN (agJ 4 w)) (sC (agJ 4 w))]) (fun _ _=>by kernel_rfl) (fun gh H sH fH=>h3 _ _ ((hE.sees (S4.trans sH))).vals)) ?_
  trivial
 rintro u9 u12 u15 W5 S6 -
 refine go0 8 [.b 4 0,.b 3 0] [] ?_
 refine hQ.to [.agg #[.slice (sA (agJ 0 uc)) (sN (agJ 0 uc)) (sC (agJ 0 uc)),.slice (sA (agJ 1 uc)) (sN (agJ 1 uc)) (sC (agJ 1 uc)),Vi E.pol.t,Vi E.pol.b,Vi E.pol.c,.slice (sA u9) (sN u9) (sC u9),.slice (sA u12) (sN u12) (sC u12),.slice (sA u15) (sN u15) (sC u15),Vi E.now,Vi E.last]] [0,1,2] [.row (.slice (sA u9) (sN u9) (sC u9)) 51 7 (zK E.inp),.row (.slice (sA u12) (sN u12) (sC u12)) 44 10 (iK E.calls),.row (.slice (sA u15) (sN u15) (sC u15)) 42 3 (jZ E.vals)] (fun H sH=>?_) (ix:=[3])
 exact ⟨.agg #[agJ 0 uc,agJ 1 uc,u9,u12,u15],rfl,rfl,(hfc.sees (S6.trans sH))⟩
theorem numbers_any (a0 a1 a2 a3 a4:Value) (p:Pol) (now last:Int) (h:Vw) (n0:0≤now) (n1:now≤1073741824) (l0:0≤last) (l1:last≤1073741810) :
  C0 Tryz.prog 87 #[.agg #[.slice (sA a0) (sN a0) (sC a0),.slice (sA a1) (sN a1) (sC a1),.int .i64 p.t,.int .i64 p.b,.int .i64 p.c,.slice (sA a2) (sN a2) (sC a2),.slice (sA a3) (sN a3) (sC a3),.slice (sA a4) (sN a4) (sC a4),.int .i64 now,.int .i64 last]] h (fun r _=>r=.bool true):=by
 refine qQ Tryz.func87 (c:=Tryz.f87.body.getD .skip) (N:=21) ?_
 intro hbx hbad Q hQ
 refine go1 30 [.own,.b 0 8,.b 0 8,.b 0 9,.b 0 9] [(5,.bool (decide (now ≥ 0)),.bool true),(9,.bool (decide (now≤1073741824)),.bool true),(14,.bool (decide (last ≥ 0)),.bool true),(19,.bool (decide (last≤1073741810)),.bool true)] ?_ (hc:=(And.intro (congrArg Value.bool (decide_eq_true n0)) (And.intro (congrArg Value.bool (decide_eq_true n1)) (And.intro (congrArg Value.bool (decide_eq_true l0)) (And.intro (congrArg Value.bool (decide_eq_true l1)) (trivial))))))
 intro b1
 refine hQ.to [.bool true] (fun H sH=>?_)
 exact rfl
set_option maxHeartbeats 1000000 in
theorem calls_any (E:Eg) (ρ:List Int) (lv:Nat→Nat) (hok:EgOk E ρ lv) (w:Value) (h:Vw) (hE:IsEng h w E):C0 Tryz.prog 86 #[.agg #[.slice (sA (agJ 0 w)) (sN (agJ 0 w)) (sC (agJ 0 w)),.slice (sA (agJ 1 w)) (sN (agJ 1 w)) (sC (agJ 1 w)),.int .i64 E.pol.t,.int .i64 E.pol.b,.int .i64 E.pol.c,.slice (sA (agJ 2 w)) (sN (agJ 2 w)) (sC (agJ 2 w)),.slice (sA (agJ 3 w)) (sN (agJ 3 w)) (sC (agJ 3 w)),.slice (sA (agJ 4 w)) (sN (agJ 4 w)) (sC (agJ 4 w)),.int .i64 E.now,.int .i64 E.last]] h (fun r _=>r=.int .i64 0):=by
 have few:=hok.fm.fields.few
 have hcl:=hok.calls.len
 have hvl:=hok.vlen
 have hck:=fun x (hx:ClOk E.pol x) H=>c_chk E.pol hok.pol x hx H
 obtain ⟨vs,A,c,e0,-,-,hr4,hs4,hl4,-⟩:=dQ hE.form.fields
 obtain ⟨A2,c2,e2,-,-,-⟩:=hE.calls.form
 obtain ⟨A3,c3,e3,-,-,-⟩:=hE.vals.form
 have hrc:=hE.calls
 rw [e2] at hrc
 rw [e0,e2,e3]
 have hca:=hok.calls.at_
 rw [List.length_map] at *
 rw [List.length_map] at *
 rw [hcl] at hrc ⊢
 rw [hvl]
 generalize hn:E.fm.fields.length=n at *
 refine qQ Tryz.func86 (c:=Tryz.f86.body.getD .skip) (N:=78) ?_
 intro hbx hbad Q hQ
 refine go1 42 [.own,.b 0 6,.b 0 0,.b 0 7,.b 0 0,.b 0 6] [(13,.bool ((n:Int) != (n:Int)),.bool false),(22,.bool ((n:Int) != (n:Int)),.bool false)] ?_ (hc:=(And.intro (congrArg Value.bool (by simp)) (And.intro (congrArg Value.bool (by simp)) (trivial))))
 intro b1
 refine yQ [0,1,0,1,1] [.block 0,.seq [1,1,1]] (fun (k:Nat) X=>∃ (W2:Vw) ,X W2 [(1,Vp b1),(25,.slice A2 n c2),(26,Vi (n:Int)),(27,Vi (k:Int))] [.box b1 [.slice A n c,.slice (sA (agJ 1 w)) (sN (agJ 1 w)) (sC (agJ 1 w)),Vi E.pol.t,Vi E.pol.b,Vi E.pol.c,.slice (sA (agJ 2 w)) (sN (agJ 2 w)) (sC (agJ 2 w)),.slice A2 n c2,.slice A3 n c3,Vi E.now,Vi E.last]] []∧Sees h W2∧(k≤n)) (fun k=>n - k) (0) (fun X q=>⟨h,q _ _ _ _ ⟨rfl,by kernel_rfl⟩,Sees.refl _,Nat.zero_le _⟩) ?_
 rintro k a w ⟨W2,hJ,S3,hk⟩; refine dV hJ ?_; clear hJ a w
 refine go0 6 [] [] ?_
 rcases (by omega:k < n∨k=n) with hlt | hke
 ·obtain ⟨g,hg⟩:∃ g,E.fm.fields[k]?=some g:=⟨_,List.getElem?_eq_getElem (by omega)⟩
  obtain ⟨x,hx⟩:∃ x,E.calls[k]?=some x:=⟨_,List.getElem?_eq_getElem (by omega)⟩
  obtain ⟨u,hu⟩:∃ u,vs[k]?=some u:=⟨_,List.getElem?_eq_getElem (by omega)⟩
  have hrow:=bQ hg hu
  have hrx:=clRows_get hx
  obtain ⟨Au,nu,cu,rfl⟩:=(AllSrc.get hs4 hg hu).slice
  obtain ⟨x1,x2,x3⟩:=hca k g x hg hx
  have hck':=hck x x1
  refine jV (t:=decide ((k:Int) < (n:Int))) (decide_eq_true (by omega)) ?_
  refine go0 7 [] [] ?_
  obtain ⟨b4,o5,rfl,-,c6⟩:=RS.row hrc (hrx)
  refine tQ (c6.sees S3) ?_
  refine go1 13 [.ix b4 o5 n c2 k,.f 0 0,.own,.b 0 0,.b 0 0,.b 1 2] [] ?_ (ho:=(And.intro (by first | omega | (simp; omega)) (trivial)))
  intro b7
  refine go0 14 [.cl 91 #[.agg #[Vi x.st,Vi x.id,Vi x.tr,Vi x.key.k,Vi x.key.n,.string x.key.s,Vi x.has.k,Vi x.has.n,.string x.has.s,Vi x.nx],.agg #[Vi E.pol.t,Vi E.pol.b,Vi E.pol.c]] (Vi 0)] [] ?_ (ho:=(And.intro (fun H sH=>hck' _) (trivial)))
  obtain ⟨b8,o9,rfl,-,c10⟩:=RS.row hr4 (hrow)
  refine tQ (c10.sees S3) ?_
  have c11:=RS.cell hr4 (hrow)
  refine tQ (c11.sees S3) ?_
  by_cases s0:x.st=0
  ·skip
   have c8:=RS.cell hr4 (hrow)
   refine tQ (c8.sees S3) ?_
   have c9:=RS.cell hr4 (hrow)
   refine tQ (c9.sees S3) ?_
   refine fV 38 0 [.pu,.ld 0 0,.v (fun gh=>.bool false),.pu,.ps,.ps,.ps,.ps,.ps,.ps,.ps,.ps,.ps,.ps,.ps,.ps,.ps,.ps,.ps,.ps,.ps,.ps,.ps,.ps,.ps,.ps,.ps,.ps,.ps,.ps,.ps,.ps,.ps,.ps,.ps,.ps,.ps,.pu] [] (by exact trivial) ?_ ?_
   ·intro R hT hA hmono
    refine And.intro (aZ hT hA (fun gh=>.bool false) (fun gh=>.bool (x.st != 0)) (fun gh=>congrArg Value.bool (bne_eq_false_iff_eq.2 s0))) ?_
    trivial
   rintro W10 S11 -
   refine go0 9 [] [(77,Vi (IntKind.i64.wrap ((k:Int) + 1)),Vi ((k:Int) + 1))] ?_ (hc:=(And.intro (jJ (by omega) (by omega)) (trivial)))
   exact iV (k + 1) (fun X q=>⟨W10,q _ _ _ _ ⟨rfl,by kernel_rfl⟩,(S3.trans S11),by omega⟩) (by omega)
  ·skip
   obtain ⟨y1,y2⟩:=x2 s0
   by_cases s2:x.st=2
   ·skip
    have c12:=RS.cell hr4 (hrow)
    refine tQ (c12.sees S3) ?_
    have c13:=RS.cell hr4 (hrow)
    refine tQ (c13.sees S3) ?_
    refine fV 38 0 [.pu,.ld 0 0,.v (fun gh=>.bool true),.pu,.pu,.pu,.ld 1 0,.pu,.v (fun gh=>.pointer (some ⟨b8,o9 + k * 9,none⟩)),.pu,.lf 0 1,.v (fun gh=>.bool false),.pu,.pu,.ld 0 1,.pu,.ld 1 9,.v (fun gh=>.bool false),.pu,.pu,.pu,.ld 0 0,.v (fun gh=>.bool true),.pu,.pu,.pu,.ld 0 6,.pu,.pu,.ld 1 0,.pu,.v (fun gh=>.pointer (some ⟨b8,o9 + k * 9,none⟩)),.pu,.lf 0 2,.v (fun gh=>.bool false),.pu,.pu,.pu] [] (by exact trivial) ?_ ?_
    ·intro R hT hA hmono
     refine And.intro (aZ hT hA (fun gh=>.bool true) (fun gh=>.bool (x.st != 0)) (fun gh=>congrArg Value.bool (bne_iff_ne.2 s0))) ?_
     refine And.intro (bZ hT hA b8 o9 n c k (fun gh=>.pointer (some ⟨b8,o9 + k * 9,none⟩)) (by first | omega | (simp; omega))) ?_
     refine And.intro (aZ hT hA (fun gh=>.bool false) (fun gh=>.bool (g.kind != 3)) (fun gh=>congrArg Value.bool (bne_eq_false_iff_eq.2 y1))) ?_
     refine And.intro (aZ hT hA (fun gh=>.bool false) (fun gh=>.bool (decide (x.id > E.last))) (fun gh=>congrArg Value.bool (decide_eq_false (by omega)))) ?_
     refine And.intro (aZ hT hA (fun gh=>.bool true) (fun gh=>.bool (x.st == 2)) (fun gh=>congrArg Value.bool (beq_iff_eq.2 s2))) ?_
     refine And.intro (bZ hT hA b8 o9 n c k (fun gh=>.pointer (some ⟨b8,o9 + k * 9,none⟩)) (by first | omega | (simp; omega))) ?_
     refine And.intro (aZ hT hA (fun gh=>.bool false) (fun gh=>.bool (x.has.k != g.ty)) (fun gh=>congrArg Value.bool (bne_eq_false_iff_eq.2 (x3 s2)))) ?_
     trivial
    rintro W14 S15 -
    refine go0 9 [] [(77,Vi (IntKind.i64.wrap ((k:Int) + 1)),Vi ((k:Int) + 1))] ?_ (hc:=(And.intro (jJ (by omega) (by omega)) (trivial)))
    exact iV (k + 1) (fun X q=>⟨W14,q _ _ _ _ ⟨rfl,by kernel_rfl⟩,(S3.trans S15),by omega⟩) (by omega)
   ·skip
    have c16:=RS.cell hr4 (hrow)
    refine tQ (c16.sees S3) ?_
    have c17:=RS.cell hr4 (hrow)
    refine tQ (c17.sees S3) ?_
    refine fV 38 0 [.pu,.ld 0 0,.v (fun gh=>.bool true),.pu,.pu,.pu,.ld 1 0,.pu,.v (fun gh=>.pointer (some ⟨b8,o9 + k * 9,none⟩)),.pu,.lf 0 1,.v (fun gh=>.bool false),.pu,.pu,.ld 0 1,.pu,.ld 1 9,.v (fun gh=>.bool false),.pu,.pu,.pu,.ld 0 0,.v (fun gh=>.bool false),.pu,.ps,.ps,.ps,.ps,.ps,.ps,.ps,.ps,.ps,.ps,.ps,.pu,.pu,.pu] [] (by exact trivial) ?_ ?_
    ·intro R hT hA hmono
     refine And.intro (aZ hT hA (fun gh=>.bool true) (fun gh=>.bool (x.st != 0)) (fun gh=>congrArg Value.bool (bne_iff_ne.2 s0))) ?_
     refine And.intro (bZ hT hA b8 o9 n c k (fun gh=>.pointer (some ⟨b8,o9 + k * 9,none⟩)) (by first | omega | (simp; omega))) ?_
     refine And.intro (aZ hT hA (fun gh=>.bool false) (fun gh=>.bool (g.kind != 3)) (fun gh=>congrArg Value.bool (bne_eq_false_iff_eq.2 y1))) ?_
     refine And.intro (aZ hT hA (fun gh=>.bool false) (fun gh=>.bool (decide (x.id > E.last))) (fun gh=>congrArg Value.bool (decide_eq_false (by omega)))) ?_
     refine And.intro (aZ hT hA (fun gh=>.bool false) (fun gh=>.bool (x.st == 2)) (fun gh=>congrArg Value.bool (beq_eq_false_iff_ne.2 s2))) ?_
     trivial
    rintro W18 S19 -
    refine go0 9 [] [(77,Vi (IntKind.i64.wrap ((k:Int) + 1)),Vi ((k:Int) + 1))] ?_ (hc:=(And.intro (jJ (by omega) (by omega)) (trivial)))
    exact iV (k + 1) (fun X q=>⟨W18,q _ _ _ _ ⟨rfl,by kernel_rfl⟩,(S3.trans S19),by omega⟩) (by omega)
 ·skip
  refine uQ (t:=decide ((k:Int) < (n:Int))) (decide_eq_false (by omega)) ?_
  refine go0 2 [] [] ?_
  refine xQ ?_
  refine go0 8 [] [] ?_
  refine hQ.to [Vi 0] (fun H sH=>?_)
  exact rfl
def DonR (S:Sst) (b:Nat) (pre:List Value) (slc slv:Value) (v:Value) (Bo:List Ent):Prop :=
 ∃ u,v=.tuple #[.agg (pre++[Value.int .i64 S.last]).toArray,.slice (sA u) (sN u) (sC u),.int .i64 0]∧Bo=[.row (.slice (sA u) (sN u) (sC u)) 67 8 (dW S.out),.box b (pre++[.int .i64 S.last,.slice (sA u) (sN u) (sC u)]),.row slc 44 10 (iK S.calls),.row slv 42 3 (jZ S.vals)]
theorem done_con (S:Sst) (b n:Nat) (A A2 A3:Option Addr) (c c2 c3:Nat) (gv iv lw0:Value) (p:Pol) (now last:Int) (n0:0≤now) (n1:now≤1073741824) (cls:List Cl) (vals:List Vl) (lt:List Lt) (h:Vw) (l0:0≤S.last) (l1:S.last≤1073741810)
  (hst:∀ H,Sees h H→ConE Tryz.prog 88 #[.pointer (some ⟨b,0,none⟩)] H
   [.row (.slice (sA lw0) (sN lw0) (sC lw0)) 67 8 (dW lt),.box b [.slice A n c,.slice (sA gv) (sN gv) (sC gv),.int .i64 p.t,.int .i64 p.b,.int .i64 p.c,.slice (sA iv) (sN iv) (sC iv),.slice A2 n c2,.slice A3 n c3,.int .i64 now,.int .i64 last,.slice (sA lw0) (sN lw0) (sC lw0)],.row (.slice A2 n c2) 44 10 (iK cls),.row (.slice A3 n c3) 42 3 (jZ vals)]
   (fun v Bo _=>SetR S b [.slice A n c,.slice (sA gv) (sN gv) (sC gv),.int .i64 p.t,.int .i64 p.b,.int .i64 p.c,.slice (sA iv) (sN iv) (sC iv),.slice A2 n c2,.slice A3 n c3,.int .i64 now] (.slice A2 n c2) (.slice A3 n c3) v Bo)) :
  ConE Tryz.prog 48 #[.pointer (some ⟨b,0,none⟩)] h
   [.row (.slice (sA lw0) (sN lw0) (sC lw0)) 67 8 (dW lt),.box b [.slice A n c,.slice (sA gv) (sN gv) (sC gv),.int .i64 p.t,.int .i64 p.b,.int .i64 p.c,.slice (sA iv) (sN iv) (sC iv),.slice A2 n c2,.slice A3 n c3,.int .i64 now,.int .i64 last,.slice (sA lw0) (sN lw0) (sC lw0)],.row (.slice A2 n c2) 44 10 (iK cls),.row (.slice A3 n c3) 42 3 (jZ vals)]
   (fun v Bo _=>DonR S b [.slice A n c,.slice (sA gv) (sN gv) (sC gv),.int .i64 p.t,.int .i64 p.b,.int .i64 p.c,.slice (sA iv) (sN iv) (sC iv),.slice A2 n c2,.slice A3 n c3,.int .i64 now] (.slice A2 n c2) (.slice A3 n c3) v Bo):=by
 have hN:=fun H=>numbers_any (.slice A n c) gv iv (.slice A2 n c2) (.slice A3 n c3) p now S.last H n0 n1 l0 l1
 refine g_conE Tryz.func48 (c:=Tryz.f48.body.getD .skip) (N:=22) ?_
 intro hbad Q hQ
 refine go1 10 [.own] [] ?_
 intro b1
 refine g_callE (Bi:=[.row (.slice (sA lw0) (sN lw0) (sC lw0)) 67 8 (dW lt),.box b [.slice A n c,.slice (sA gv) (sN gv) (sC gv),Vi p.t,Vi p.b,Vi p.c,.slice (sA iv) (sN iv) (sC iv),.slice A2 n c2,.slice A3 n c3,Vi now,Vi last,.slice (sA lw0) (sN lw0) (sC lw0)],.row (.slice A2 n c2) 44 10 (iK cls),.row (.slice A3 n c3) 42 3 (jZ vals)]) [1,2,3,4] (fun H sH=>hst H sH) ?_; rintro _ _ W2 S3 ⟨u,rfl,rfl⟩
 refine go0 9 [.b 1 0] [] ?_
 refine nQ (fun H sH=>hN _) ?_; rintro _ W4 S5 rfl
 refine go0 7 [] [] ?_
 refine fV 11 0 [.pu,.pu,.pu,.ld 1 0,.pu,.pu,.pu,.ld 1 10,.st 4 0,.pu,.pu] [] (trivial) ?_ ?_
 ·intros; trivial
 rintro W6 S7 -
 refine go0 2 [] [] ?_
 refine hQ.to [.agg #[.slice A n c,.slice (sA gv) (sN gv) (sC gv),Vi p.t,Vi p.b,Vi p.c,.slice (sA iv) (sN iv) (sC iv),.slice A2 n c2,.slice A3 n c3,Vi now,Vi S.last],.slice (sA u) (sN u) (sC u),Vi 0] [0,1,2,3] [.row (.slice (sA u) (sN u) (sC u)) 67 8 (dW S.out),.box b [.slice A n c,.slice (sA gv) (sN gv) (sC gv),Vi p.t,Vi p.b,Vi p.c,.slice (sA iv) (sN iv) (sC iv),.slice A2 n c2,.slice A3 n c3,Vi now,Vi S.last,.slice (sA u) (sN u) (sC u)],.row (.slice A2 n c2) 44 10 (iK S.calls),.row (.slice A3 n c3) 42 3 (jZ S.vals)] (fun H sH=>?_) (ix:=[4])
 exact ⟨u,rfl,rfl⟩
end Go.Proofs.YtmoahpojchndiaaGreat
namespace Go.Proofs.YtmoahpojchndiaaGreat
open Go.RowKit
set_option linter.unusedVariables false
def CopF (E:Eg) (n m:Nat) (v:Value) (Bo:List Ent) (H:Vw):Prop:=∃ (A:Option Addr) (c:Nat) (B:Option Addr) (d:Nat) (A1:Option Addr) (c1:Nat) (A2:Option Addr) (c2:Nat) (A3:Option Addr) (c3:Nat),
 v=.agg #[.slice A n c,.slice B m d,.int .i64 E.pol.t,.int .i64 E.pol.b,.int .i64 E.pol.c,.slice A1 E.inp.length c1,.slice A2 n c2,.slice A3 n c3,.int .i64 E.now,.int .i64 E.last] ∧
 Bo=[.row (.slice A1 E.inp.length c1) 51 7 (zK E.inp),.row (.slice A2 n c2) 44 10 (iK E.calls),.row (.slice A3 n c3) 42 3 (jZ E.vals)]∧IsForm H (.slice A n c) (.slice B m d) E.fm
theorem engCopy_form (E:Eg) (ρ:List Int) (lv:Nat→Nat) (hok:EgOk E ρ lv) (w:Value) (n m:Nat) (hn:E.fm.fields.length=n) (hm:E.fm.pages.length=m) (h:Vw) (hE:IsEng h w E):ConE Tryz.prog 16 #[.agg #[.slice (sA (agJ 0 w)) (sN (agJ 0 w)) (sC (agJ 0 w)),.slice (sA (agJ 1 w)) (sN (agJ 1 w)) (sC (agJ 1 w)),.int .i64 E.pol.t,.int .i64 E.pol.b,.int .i64 E.pol.c,.slice (sA (agJ 2 w)) (sN (agJ 2 w)) (sC (agJ 2 w)),.slice (sA (agJ 3 w)) (sN (agJ 3 w)) (sC (agJ 3 w)),.slice (sA (agJ 4 w)) (sN (agJ 4 w)) (sC (agJ 4 w)),.int .i64 E.now,.int .i64 E.last]] h [] (CopF E n m):=by
 intro a1 a2 a3 a4
 refine (engCopy_con E ρ lv hok w h hE a1 a2 a3 a4).mono ?_
 rintro en w' ⟨v,Bo,e1,e2,e3,e4,e5,u,rfl,rfl,hf⟩
 obtain ⟨A1,c1,q1,-,-⟩:=zX (e3 _ (List.mem_cons_self ..))
 obtain ⟨A2,c2,q2,-,-⟩:=zX (e3 _ (List.mem_cons_of_mem _ (List.mem_cons_self ..)))
 obtain ⟨A3,c3,q3,-,-⟩:=zX (e3 _ (List.mem_cons_of_mem _ (List.mem_cons_of_mem _ (List.mem_cons_self ..))))
 obtain ⟨vs,A,c,q4,-,-,-,-,-,-⟩:=dQ hf.fields
 obtain ⟨us,ws,B,d,q5,-,-,-,-,-,-⟩:=iX hf.pages
 rw [List.length_map] at q1 q2 q3
 rw [hok.calls.len,hn] at q2
 rw [hok.vlen,hn] at q3
 rw [hn] at q4
 rw [hm] at q5
 rw [q1,q2,q3] at e3 e4 e5 hf
 rw [q4,q5] at hf
 refine ⟨_,_,e1,e2,e3,e4,e5,A,c,B,d,A1,c1,A2,c2,A3,c3,?_,rfl,hf⟩
 rw [q1,q2,q3,q4,q5]
def Settled (E:Eg) (ρ:List Int):Prop:=∃ kn,eY E.fm.fields E.pol E.now E.inp ⟨E.calls,E.vals,[],E.last,[]⟩ (zW ρ E.fm.fields.length)=⟨E.calls,E.vals,kn,E.last,[]⟩
set_option maxHeartbeats 2000000 in
theorem egCheck_any (E:Eg) (ρ:List Int) (lv:Nat→Nat) (hok:EgOk E ρ lv) (hse:Settled E ρ) (w:Value) (h:Vw) (hE:IsEng h w E):C0 Tryz.prog 42 #[.agg #[.slice (sA (agJ 0 w)) (sN (agJ 0 w)) (sC (agJ 0 w)),.slice (sA (agJ 1 w)) (sN (agJ 1 w)) (sC (agJ 1 w)),.int .i64 E.pol.t,.int .i64 E.pol.b,.int .i64 E.pol.c,.slice (sA (agJ 2 w)) (sN (agJ 2 w)) (sC (agJ 2 w)),.slice (sA (agJ 3 w)) (sN (agJ 3 w)) (sC (agJ 3 w)),.slice (sA (agJ 4 w)) (sN (agJ 4 w)) (sC (agJ 4 w)),.int .i64 E.now,.int .i64 E.last]] h (fun r _=>r=.int .i64 0):=by
 have few:=hok.fm.fields.few
 have hli:=hok.li
 have hl1:=hok.l1
 obtain ⟨kn,hkn⟩:=hse
 have hcp:=fun H q=>engCopy_form E ρ lv hok w _ _ rfl rfl H q
 have hca:=fun H q=>calls_any E ρ lv hok w H q
 have hnm:=fun a0 a1 a2 a3 a4 H=>numbers_any a0 a1 a2 a3 a4 E.pol E.now E.last H hok.n0 hok.n1 hok.l0 hok.l1
 have hse:=fun b A A2 A3 c c2 c3 gv iv lw0 H q1 q2=>settle_con E.fm ρ lv hok.fm b E.fm.fields.length A A2 A3 c c2 c3 gv iv lw0 E.pol hok.pol E.now E.last hok.n0 hok.n1 hok.l0 (by omega) E.calls E.vals [] E.inp H q1 rfl hok.one hok.calls hok.vlen q2 hok.ki (by omega) (by simp)
 rw [hkn] at hse
 have hgc:=c_gapChk E.pol hok.pol
 obtain ⟨vs,A,c,e0,-,-,-,-,-,-⟩:=dQ hE.form.fields
 obtain ⟨us,ws,B,d,e1,-,-,-,-,-,-⟩:=iX hE.form.pages
 have hsc:=fun H q=>shCheck_any E.fm ρ lv A E.fm.fields.length c B E.fm.pages.length d H hok.fm q rfl
 have hfa:=fun H q1 q2=>facts_v E.fm.fields (.slice A E.fm.fields.length c) (.slice B E.fm.pages.length d) E.inp (.slice (sA (agJ 2 w)) (sN (agJ 2 w)) (sC (agJ 2 w))) H q1 rfl (by omega) q2 (by omega) hok.ki
 rw [hok.ti] at hfa
 have hfm:=hE.form
 have hin:=hE.inp
 have hcl:=hE.calls
 have hvl:=hE.vals
 rw [e0,e1] at hfm hcp hca ⊢
 generalize hn:E.fm.fields.length=n at *
 generalize hm:E.fm.pages.length=m at *
 refine qQ Tryz.func42 (c:=Tryz.f42.body.getD .skip) (N:=64) ?_
 intro hbx hbad Q hQ
 refine go1 8 [.own] [] ?_
 intro b1
 refine fV 15 0 [.pu,.ld 0 0,.v (fun gh=>Vi 0),.pu,.ld 0 2,.v (fun gh=>Vi 0),.pu,.ld 0 0,.pu,.ld 0 5,.v (fun gh=>Vi 0),.ld 0 0,.v (fun gh=>Vi 0),.pu,.pu] [] (trivial) ?_ ?_
 ·intro R hT hA hmono
  refine And.intro (t_v hT hA hmono (k:=83) (args:=(fun gh=>#[.agg #[.slice A n c,.slice B m d]])) (f:=fun gh=>Vi 0) (fun gh H sH fH lent=>hsc _ (hfm.sees sH))) ?_
  refine And.intro (t_v hT hA hmono (k:=84) (args:=(fun gh=>#[.agg #[Vi E.pol.t,Vi E.pol.b,Vi E.pol.c]])) (f:=fun gh=>Vi 0) (fun gh H sH fH lent=>hgc _)) ?_
  refine And.intro (t_v hT hA hmono (k:=85) (args:=(fun gh=>#[.agg #[.slice A n c,.slice B m d],.slice (sA (agJ 2 w)) (sN (agJ 2 w)) (sC (agJ 2 w))])) (f:=fun gh=>Vi 0) (fun gh H sH fH lent=>hfa _ ((hfm.sees sH)).fields (hin.sees sH))) ?_
  refine And.intro (t_v hT hA hmono (k:=86) (args:=(fun gh=>#[.agg #[.slice A n c,.slice B m d,Vi E.pol.t,Vi E.pol.b,Vi E.pol.c,.slice (sA (agJ 2 w)) (sN (agJ 2 w)) (sC (agJ 2 w)),.slice (sA (agJ 3 w)) (sN (agJ 3 w)) (sC (agJ 3 w)),.slice (sA (agJ 4 w)) (sN (agJ 4 w)) (sC (agJ 4 w)),Vi E.now,Vi E.last]])) (f:=fun gh=>Vi 0) (fun gh H sH fH lent=>hca _ (hE.sees sH))) ?_
  trivial
 rintro W2 S3 -
 refine go0 2 [] [] ?_
 refine yQ [0,1,0,1] [.block 0,.seq [1,1]] (fun (k:Nat) X=>∃ (W4:Vw) ,X W4 [(1,Vp b1),(19,.agg #[Vi 0,Vi 0,Vi 0,Vi 0]),(20,Vi (k:Int))] [.box b1 [.slice A n c,.slice B m d,Vi E.pol.t,Vi E.pol.b,Vi E.pol.c,.slice (sA (agJ 2 w)) (sN (agJ 2 w)) (sC (agJ 2 w)),.slice (sA (agJ 3 w)) (sN (agJ 3 w)) (sC (agJ 3 w)),.slice (sA (agJ 4 w)) (sN (agJ 4 w)) (sC (agJ 4 w)),Vi E.now,Vi E.last]] []∧Sees W2 W4∧(k≤4)) (fun k=>4 - k) (0) (fun X q=>⟨W2,q _ _ _ _ ⟨rfl,by kernel_rfl⟩,Sees.refl _,Nat.zero_le _⟩) ?_
 rintro k a w ⟨W4,hJ,S5,hk⟩; refine dV hJ ?_; clear hJ a w
 refine go0 6 [] [] ?_
 rcases (by omega:k < 4∨k=4) with hlt | hke
 ·skip
  refine jV (t:=decide ((k:Int) < 4)) (decide_eq_true (by omega)) ?_
  refine go0 6 [] [] ?_
  refine eV (Vi 0) (fun w=>by rcases (by omega:k=0∨k=1∨k=2∨k=3) with rfl | rfl | rfl | rfl <;> kernel_rfl) ?_
  refine go0 17 [] [(26,Vi (IntKind.i64.wrap ((k:Int) + 1)),Vi ((k:Int) + 1))] ?_ (hc:=(And.intro (jJ (by omega) (by omega)) (trivial)))
  exact iV (k + 1) (fun X q=>⟨W4,q _ _ _ _ ⟨rfl,by kernel_rfl⟩,S5,by omega⟩) (by omega)
 ·skip
  refine uQ (t:=decide ((k:Int) < 4)) (decide_eq_false (by omega)) ?_
  refine go0 2 [] [] ?_
  refine xQ ?_
  refine go0 16 [.b 0 0,.cl 87 #[.agg #[.slice A n c,.slice B m d,Vi E.pol.t,Vi E.pol.b,Vi E.pol.c,.slice (sA (agJ 2 w)) (sN (agJ 2 w)) (sC (agJ 2 w)),.slice (sA (agJ 3 w)) (sN (agJ 3 w)) (sC (agJ 3 w)),.slice (sA (agJ 4 w)) (sN (agJ 4 w)) (sC (agJ 4 w)),Vi E.now,Vi E.last]] (.bool true),.b 0 0] [] ?_ (ho:=(And.intro (fun H sH=>hnm (.slice A n c) (.slice B m d) (agJ 2 w) (agJ 3 w) (agJ 4 w) _) (trivial)))
  refine g_callE (Bi:=[]) [] (fun H sH=>hcp _ (hE.sees (S3.trans (S5.trans sH)))) ?_; rintro _ _ W6 S7 ⟨A',c',B',d',A1,c1,A2,c2,A3,c3,rfl,rfl,hfu⟩
  refine go1 8 [.own] [] ?_
  intro bm
  refine vQ 1 (v:=.slice A1 E.inp.length c1) (e:=51) (kk:=7) (l:=zK E.inp) ?_; intro W8 S9 fri
  refine cV 67 8 ?_
  refine g_callE (Bi:=[.row (Vz) 67 8 ([]),.box bm [.slice A' n c',.slice B' m d',Vi E.pol.t,Vi E.pol.b,Vi E.pol.c,.slice A1 E.inp.length c1,.slice A2 n c2,.slice A3 n c3,Vi E.now,Vi E.last,Vz],.row (.slice A2 n c2) 44 10 (iK E.calls),.row (.slice A3 n c3) 42 3 (jZ E.vals)]) [0,1,2,3] (fun H sH=>hse _ _ _ _ _ _ _ (.slice B' m d') (.slice A1 E.inp.length c1) (Vz) _ ((hfu.sees (S9.trans sH))).fields (fri.sees sH)) ?_; rintro _ _ W10 S11 ⟨ul,rfl,rfl⟩
  refine go0 4 [] [] ?_
  refine g_form 0 (v:=.slice (sA ul) (sN ul) (sC ul)) (e:=67) (kk:=8) (l:=dW []) ?_; intro Al cl hE_ul hc_ul hm_ul
  rw [show (dW []).length=0 from by first | omega | (simp; done) | (simp; omega)] at hE_ul hc_ul
  rw [hE_ul]
  refine fV 28 0 [.pu,.pu,.pu,.ld 1 10,.pu,.pu,.pu,.pu,.pu,.pu,.pu,.ld 1 6,.pu,.ld 4 6,.v (fun gh=>.bool true),.pu,.pu,.pu,.pu,.pu,.pu,.pu,.ld 1 7,.pu,.ld 4 7,.v (fun gh=>.bool true),.pu,.pu] [] (trivial) ?_ ?_
  ·intro R hT hA hmono
   refine And.intro (r_callq hT hA hmono 50 (fun gh=>.bool true) [6,11,13] 14 (by kernel_rfl) (by kernel_rfl) (by kernel_rfl) (fun _=>by kernel_rfl) 2 (GN R 2) (by kernel_rfl) (by kernel_rfl) (fun gh=>.slice A2 n c2) 44 10 (iK E.calls) (fun _=>by kernel_rfl) 55 (fun gh=>#[.slice A2 n c2,.slice (sA (agJ 3 w)) (sN (agJ 3 w)) (sC (agJ 3 w))]) (fun _ _=>by kernel_rfl) (fun gh H bH sH fH rQ=>c_equalCl rQ (hcl.sees (S3.trans (S5.trans (S7.trans (S9.trans (S11.trans sH)))))) (by have:=hok.calls.len; omega))) ?_
   refine And.intro (r_callq hT hA hmono 61 (fun gh=>.bool true) [17,22,24] 25 (by kernel_rfl) (by kernel_rfl) (by kernel_rfl) (fun _=>by kernel_rfl) 3 (GN R 3) (by kernel_rfl) (by kernel_rfl) (fun gh=>.slice A3 n c3) 42 3 (jZ E.vals) (fun _=>by kernel_rfl) 26 (fun gh=>#[.slice A3 n c3,.slice (sA (agJ 4 w)) (sN (agJ 4 w)) (sC (agJ 4 w))]) (fun _ _=>by kernel_rfl) (fun gh H bH sH fH rQ=>c_equalVl rQ (hvl.sees (S3.trans (S5.trans (S7.trans (S9.trans (S11.trans sH)))))) (by have:=hok.vlen; omega))) ?_
   trivial
  rintro W12 S13 -
  refine go0 10 [] [] ?_
  refine hQ.to [Vi 0] (fun H sH=>?_)
  exact rfl
end Go.Proofs.YtmoahpojchndiaaGreat
namespace Go.Proofs.YtmoahpojchndiaaGreat
open Go.RowKit
set_option linter.unusedVariables false
def putV (s:ByteArray) (v:Vl):Env→Env
 | []=>[(s,v)]
 | p :: l=>if (p.1.toList == s.toList)=true then (p.1,v) :: l else p :: putV s v l
theorem putV_mem {s:ByteArray} {v:Vl}:∀ {l:Env} {p:ByteArray × Vl},p∈putV s v l→p∈l∨(p.1=s∧p.2=v)
 | [],p,h=>by rw [List.mem_singleton.1 h]; exact .inr ⟨rfl,rfl⟩
 | q :: l,p,h=>by
  rw [putV] at h
  split at h
  ·rename_i hq
   rw [tl_dec,decide_eq_true_iff] at hq
   rcases List.mem_cons.1 h with rfl | h
   ·exact .inr ⟨hq,rfl⟩
   ·exact .inl (List.mem_cons_of_mem _ h)
  ·rcases List.mem_cons.1 h with rfl | h
   ·exact .inl (List.mem_cons_self ..)
   ·exact (putV_mem h).imp (List.mem_cons_of_mem _) id
theorem putV_len {s:ByteArray} {v:Vl}:∀ {l:Env},(putV s v l).length≤l.length + 1
 | []=>Nat.le_refl _
 | q :: l=>by
  rw [putV]
  split
  ·exact Nat.le_succ _
  ·exact Nat.succ_le_succ (putV_len (l:=l))
theorem putV_names {s:ByteArray} {v:Vl}:∀ {l:Env},(putV s v l).map (·.1)=l.map (·.1)∨(putV s v l).map (·.1)=l.map (·.1)++[s]∧s ∉ l.map (·.1)
 | []=>.inr ⟨rfl,by simp⟩
 | q :: l=>by
  rw [putV]
  split
  ·exact .inl rfl
  ·rename_i hq
   rw [tl_dec,decide_eq_true_iff] at hq
   rcases putV_names (s:=s) (v:=v) (l:=l) with e | ⟨e,hn⟩
   ·exact .inl (by rw [List.map_cons,e]; rfl)
   ·refine .inr ⟨by rw [List.map_cons,e]; rfl,fun hm=>?_⟩
    rcases List.mem_cons.1 hm with h | h
    ·exact hq h.symm
    ·exact hn h
theorem putV_once {s:ByteArray} {v:Vl} {l:Env} (h:(l.map (·.1)).Nodup):((putV s v l).map (·.1)).Nodup:=by
 rcases putV_names (s:=s) (v:=v) (l:=l) with e | ⟨e,hn⟩
 ·rw [e]; exact h
 ·rw [e]
  exact List.nodup_append.2 ⟨h,by simp,fun a ha b hb q=>by rw [List.mem_singleton.1 hb] at q; exact hn (q ▸ ha)⟩
def nY (E:Eg) (ρ:List Int):Sst:=eY E.fm.fields E.pol E.now E.inp ⟨E.calls,E.vals,[],E.last,[]⟩ (zW ρ E.fm.fields.length)
def oY (E:Eg) (ρ:List Int):Eg:={ E with calls:=(nY E ρ).calls,vals:=(nY E ρ).vals,last:=(nY E ρ).last }
theorem setE_run {E:Eg} {ρ:List Int} {lv:Nat→Nat} (hok:EgOk E ρ lv):RunS E.fm.fields E.pol E.now E.inp ⟨E.calls,E.vals,[],E.last,[]⟩ (zW ρ E.fm.fields.length) (nY E ρ):=by
 have few:=hok.fm.fields.few
 have one:=hok.one
 have hl:=hok.l1
 have hod:Ordd E.fm.fields ρ lv (zW ρ E.fm.fields.length):=aX hok.fm.rank (by omega)
 have h:=runS_inv (s0:=⟨E.calls,E.vals,[],E.last,[]⟩) (os:=zW ρ E.fm.fields.length) hok.pol hok.fm.fields hok.ki hok.n0 hok.n1 hok.calls hok.vlen rfl hok.l0 (by rw [hod.len]; show E.last + _≤_; omega) (fun i q=>hod.lt q) _ (Nat.le_refl _)
 rw [List.take_length] at h
 exact h
theorem settE_ok {E:Eg} {ρ:List Int} {lv:Nat→Nat} (hok:EgOk E ρ lv) (hl:(nY E ρ).last≤1073741810):EgOk (oY E ρ) ρ lv:=by
 have R:=setE_run hok
 have h0:=hok.l0
 have h1:=R.lo
 simp only at h1
 exact ⟨hok.fm,hok.one,hok.pol,hok.ki,hok.k0,hok.once,hok.li,R.calls,R.vlen,hok.n0,hok.n1,by show 0≤(nY E ρ).last; omega,hl⟩
theorem ordL_nodup {fs:List Fd} {ρ:List Int} {lv:Nat→Nat} {os:List Nat} (h:Ordd fs ρ lv os):os.Nodup:=by
 exact h.perm.nodup_iff.2 List.nodup_range
theorem settE_settled {E:Eg} {ρ:List Int} {lv:Nat→Nat} (hok:EgOk E ρ lv):Settled (oY E ρ) ρ:=by
 have few:=hok.fm.fields.few
 have one:=hok.one
 have hod:Ordd E.fm.fields ρ lv (zW ρ E.fm.fields.length):=aX hok.fm.rank (by omega)
 have h:=runS_fix E.fm.fields E.pol E.now E.inp ⟨E.calls,E.vals,[],E.last,[]⟩ (ordL_nodup hod) hok.calls.len hok.vlen rfl E.now (nY E ρ).last _ (Nat.le_refl _)
 rw [List.take_length] at h
 exact ⟨_,h⟩
def tellE (E:Eg) (nm:ByteArray) (v:Vl):Eg:={ E with inp:=putV nm v E.inp }
theorem tellE_ok {E:Eg} {ρ:List Int} {lv:Nat→Nat} (hok:EgOk E ρ lv) {nm:ByteArray} {v:Vl} (hv:v.known) (ht:toldE E.fm.fields nm v.k=0) (hl:E.inp.length≤99):EgOk (tellE E nm v) ρ lv:=by
 refine ⟨hok.fm,hok.one,hok.pol,fun q hq=>?_,fun q hq=>?_,putV_once hok.once,?_,hok.calls,hok.vlen,hok.n0,hok.n1,hok.l0,hok.l1⟩
 ·rcases putV_mem hq with h | ⟨h1,h2⟩
  ·exact hok.ki q h
  ·rw [h2]; exact hv
 ·rcases putV_mem hq with h | ⟨h1,h2⟩
  ·exact hok.k0 q h
  ·rw [h1,h2]; exact ht
 ·have:=putV_len (s:=nm) (v:=v) (l:=E.inp)
  show (putV nm v E.inp).length≤100
  omega
theorem settle_eg (E:Eg) (ρ:List Int) (lv:Nat→Nat) (hok:EgOk E ρ lv) (b n:Nat) (hn:E.fm.fields.length=n) (A A2 A3:Option Addr) (c c2 c3:Nat) (gv iv lw0:Value) (h:Vw) (hf:IsFds h (.slice A n c) E.fm.fields) (hi:RS h 7 (.slice (sA iv) (sN iv) (sC iv)) (zK E.inp)) (hl:(nY E ρ).last≤1073741810) :
  ConE Tryz.prog 48 #[.pointer (some ⟨b,0,none⟩)] h
   [.row (.slice (sA lw0) (sN lw0) (sC lw0)) 67 8 (dW []),.box b [.slice A n c,.slice (sA gv) (sN gv) (sC gv),.int .i64 E.pol.t,.int .i64 E.pol.b,.int .i64 E.pol.c,.slice (sA iv) (sN iv) (sC iv),.slice A2 n c2,.slice A3 n c3,.int .i64 E.now,.int .i64 E.last,.slice (sA lw0) (sN lw0) (sC lw0)],.row (.slice A2 n c2) 44 10 (iK E.calls),.row (.slice A3 n c3) 42 3 (jZ E.vals)]
   (fun v Bo _=>DonR (nY E ρ) b [.slice A n c,.slice (sA gv) (sN gv) (sC gv),.int .i64 E.pol.t,.int .i64 E.pol.b,.int .i64 E.pol.c,.slice (sA iv) (sN iv) (sC iv),.slice A2 n c2,.slice A3 n c3,.int .i64 E.now] (.slice A2 n c2) (.slice A3 n c3) v Bo):=by
 have few:=hok.fm.fields.few
 have hl1:=hok.l1
 have hli:=hok.li
 have h0:=hok.l0
 have R:=(setE_run hok).lo
 simp only at R
 have hs:=fun H (s:Sees h H)=>settle_con E.fm ρ lv hok.fm b n A A2 A3 c c2 c3 gv iv lw0 E.pol hok.pol E.now E.last hok.n0 hok.n1 hok.l0 (by omega) E.calls E.vals [] E.inp H (hf.sees s) hn.symm (by have:=hok.one; omega) hok.calls (hok.vlen.trans hn) (hi.sees s) hok.ki (by omega) (by simp)
 subst hn
 exact done_con (nY E ρ) b _ A A2 A3 c c2 c3 gv iv lw0 E.pol E.now E.last hok.n0 hok.n1 E.calls E.vals [] h (by omega) hl hs
structure TelF (h:Vw) (u:Value) (E:Eg) (lt:List Lt):Prop where
 eng:IsEng h u E
 out:RS h 8 (.slice (sA (agJ 5 u)) (sN (agJ 5 u)) (sC (agJ 5 u))) (dW lt)
theorem TelF.sees {h h':Vw} {u:Value} {E:Eg} {lt:List Lt} (k:TelF h u E lt) (s:Sees h h'):TelF h' u E lt:=⟨k.eng.sees s,k.out.sees s⟩
def TelR (E:Eg) (lt:List Lt) (r:Value) (h:Vw):Prop:=∃ u,r=.tuple #[.agg #[.slice (sA (agJ 0 u)) (sN (agJ 0 u)) (sC (agJ 0 u)),.slice (sA (agJ 1 u)) (sN (agJ 1 u)) (sC (agJ 1 u)),.int .i64 E.pol.t,.int .i64 E.pol.b,.int .i64 E.pol.c,.slice (sA (agJ 2 u)) (sN (agJ 2 u)) (sC (agJ 2 u)),.slice (sA (agJ 3 u)) (sN (agJ 3 u)) (sC (agJ 3 u)),.slice (sA (agJ 4 u)) (sN (agJ 4 u)) (sC (agJ 4 u)),.int .i64 E.now,.int .i64 E.last],.slice (sA (agJ 5 u)) (sN (agJ 5 u)) (sC (agJ 5 u)),.int .i64 0]∧TelF h u E lt
end Go.Proofs.YtmoahpojchndiaaGreat
namespace Go.Proofs.YtmoahpojchndiaaGreat
open Go.RowKit
set_option linter.unusedVariables false
def Sst.pre (s:Sst) (lt:List Lt):Sst:={ s with out:=lt++s.out }
theorem stepS_pre (fs:List Fd) (p:Pol) (now:Int) (inp:Env) (s:Sst) (lt:List Lt) (i:Nat):sY fs p now inp (s.pre lt) i=(sY fs p now inp s i).pre lt:=by
 unfold sY
 split
 ·split
  ·unfold Sst.pre
   simp only
   split <;> simp
  ·rfl
 ·rfl
theorem runS_pre (fs:List Fd) (p:Pol) (now:Int) (inp:Env) (lt:List Lt):∀ (os:List Nat) (s:Sst),eY fs p now inp (s.pre lt) os=(eY fs p now inp s os).pre lt
 | [],_=>rfl
 | i :: os,s=>by
  show eY fs p now inp (sY fs p now inp (s.pre lt) i) os=_
  rw [stepS_pre]
  exact runS_pre fs p now inp lt os _
theorem settle_lt (E:Eg) (ρ:List Int) (lv:Nat→Nat) (hok:EgOk E ρ lv) (lt:List Lt) (hlt:lt.length≤100) (b n:Nat) (hn:E.fm.fields.length=n) (A A2 A3:Option Addr) (c c2 c3:Nat) (gv iv lw0:Value) (h:Vw) (hf:IsFds h (.slice A n c) E.fm.fields) (hi:RS h 7 (.slice (sA iv) (sN iv) (sC iv)) (zK E.inp)) (hl:(nY E ρ).last≤1073741810) :
  ConE Tryz.prog 48 #[.pointer (some ⟨b,0,none⟩)] h
   [.row (.slice (sA lw0) (sN lw0) (sC lw0)) 67 8 (dW lt),.box b [.slice A n c,.slice (sA gv) (sN gv) (sC gv),.int .i64 E.pol.t,.int .i64 E.pol.b,.int .i64 E.pol.c,.slice (sA iv) (sN iv) (sC iv),.slice A2 n c2,.slice A3 n c3,.int .i64 E.now,.int .i64 E.last,.slice (sA lw0) (sN lw0) (sC lw0)],.row (.slice A2 n c2) 44 10 (iK E.calls),.row (.slice A3 n c3) 42 3 (jZ E.vals)]
   (fun v Bo _=>DonR ((nY E ρ).pre lt) b [.slice A n c,.slice (sA gv) (sN gv) (sC gv),.int .i64 E.pol.t,.int .i64 E.pol.b,.int .i64 E.pol.c,.slice (sA iv) (sN iv) (sC iv),.slice A2 n c2,.slice A3 n c3,.int .i64 E.now] (.slice A2 n c2) (.slice A3 n c3) v Bo):=by
 have few:=hok.fm.fields.few
 have hl1:=hok.l1
 have hli:=hok.li
 have h0:=hok.l0
 have R:=(setE_run hok).lo
 simp only at R
 have hs:=fun H (s:Sees h H)=>settle_con E.fm ρ lv hok.fm b n A A2 A3 c c2 c3 gv iv lw0 E.pol hok.pol E.now E.last hok.n0 hok.n1 hok.l0 (by omega) E.calls E.vals lt E.inp H (hf.sees s) hn.symm (by have:=hok.one; omega) hok.calls (hok.vlen.trans hn) (hi.sees s) hok.ki (by omega) hlt
 subst hn
 have e:eY E.fm.fields E.pol E.now E.inp ⟨E.calls,E.vals,[],E.last,lt⟩ (zW ρ E.fm.fields.length)=(nY E ρ).pre lt:=by
  have:=runS_pre E.fm.fields E.pol E.now E.inp lt (zW ρ E.fm.fields.length) ⟨E.calls,E.vals,[],E.last,[]⟩
  unfold Sst.pre at this
  rw [List.append_nil] at this
  exact this
 rw [e] at hs
 exact done_con ((nY E ρ).pre lt) b _ A A2 A3 c c2 c3 gv iv lw0 E.pol E.now E.last hok.n0 hok.n1 E.calls E.vals lt h (by show 0≤(nY E ρ).last; omega) hl hs
def lZ (p:Pol) (now:Int) (cs:List Cl):List Cl:=cs.map fun c=>(kZ p now c).1
def askT (p:Pol) (now:Int):List Fd→List Cl→List Lt
 | f :: fs,c :: cs=>(if (kZ p now c).2=true then [ltOf f.name (kZ p now c).1] else [])++askT p now fs cs
 | _,_=>[]
theorem askT_snoc {p:Pol} {now:Int}:∀ {fs:List Fd} {cs:List Cl} (f:Fd) (c:Cl),cs.length=fs.length→askT p now (fs++[f]) (cs++[c])=askT p now fs cs++(if (kZ p now c).2=true then [ltOf f.name (kZ p now c).1] else [])
 | [],[],f,c,_=>by show _++[]=[]++_; simp
 | [],_ :: _,_,_,h=>by simp at h
 | _ :: _,[],_,_,h=>by simp at h
 | g :: fs,d :: cs,f,c,h=>by
  show _++askT p now (fs++[f]) (cs++[c])=(_++askT p now fs cs)++_
  rw [askT_snoc f c (by simpa using h),List.append_assoc]
theorem askT_len {p:Pol} {now:Int}:∀ {fs:List Fd} {cs:List Cl},(askT p now fs cs).length≤fs.length
 | [],_=>Nat.zero_le _
 | _ :: _,[]=>Nat.zero_le _
 | g :: fs,d :: cs=>by
  show (_++askT p now fs cs).length≤fs.length + 1
  have:=askT_len (p:=p) (now:=now) (fs:=fs) (cs:=cs)
  rw [List.length_append]
  split <;> simp <;> omega
def dZ (E:Eg) (n:Int):Eg:={ E with now:=E.now + n,calls:=lZ E.pol (E.now + n) E.calls }
def tickT (E:Eg) (n:Int):List Lt:=askT E.pol (E.now + n) E.fm.fields E.calls
theorem wakeL_at {p:Pol} {now:Int} {cs:List Cl} {i:Nat} {c:Cl} (h:(lZ p now cs)[i]?=some c):∃ d,cs[i]?=some d∧c=(kZ p now d).1:=by
 unfold lZ at h
 rw [List.getElem?_map] at h
 obtain ⟨d,hd,rfl⟩:=Option.map_eq_some_iff.1 h
 exact ⟨d,hd,rfl⟩
theorem tickE_ok {E:Eg} {ρ:List Int} {lv:Nat→Nat} (hok:EgOk E ρ lv) {n:Int} (h0:0≤n) (h1:E.now + n≤1073741824):EgOk (dZ E n) ρ lv:=by
 have n0:=hok.n0
 refine ⟨hok.fm,hok.one,hok.pol,hok.ki,hok.k0,hok.once,hok.li,⟨by show (lZ _ _ E.calls).length=_; unfold lZ; rw [List.length_map]; exact hok.calls.len,fun i f c hf hc=>?_⟩,hok.vlen,by show 0≤E.now + n; omega,h1,hok.l0,hok.l1⟩
 obtain ⟨d,hd,rfl⟩:=wakeL_at hc
 obtain ⟨d1,d2,d3⟩:=hok.calls.at_ i f d hf hd
 obtain ⟨w1,w2,w3,w4,w5⟩:=wake_ok hok.pol d1 (now:=E.now + n) (by omega) h1
 refine ⟨w1,fun q=>?_,fun q=>?_⟩
 ·obtain ⟨k1,k2⟩:=d2 (w3 q)
  exact ⟨k1,by show (kZ E.pol (E.now + n) d).1.id≤E.last; rw [w2]; exact k2⟩
 ·have e:=w4 q
  rw [e] at q ⊢
  exact d3 q
theorem wakeL_step {p:Pol} {now:Int} {cs:List Cl} {k:Nat} {c:Cl} (h:cs[k]?=some c):(lZ p now (cs.take k)++cs.drop k).set k (kZ p now c).1=lZ p now (cs.take (k + 1))++cs.drop (k + 1):=by
 obtain ⟨hk,e⟩:=List.getElem?_eq_some_iff.1 h
 have hl:(lZ p now (cs.take k)).length=k:=by unfold lZ; rw [List.length_map,List.length_take]; omega
 have hd:cs.drop k=c :: cs.drop (k + 1):=by rw [List.drop_eq_getElem_cons hk,e]
 rw [hd,List.set_append_right k _ (by omega),hl,Nat.sub_self,List.set_cons_zero,List.take_add_one,h]
 unfold lZ
 rw [List.map_append,List.append_assoc]
 rfl
theorem wakeL_now {p:Pol} {now:Int} {cs:List Cl} {k:Nat} {c:Cl} (h:cs[k]?=some c):(lZ p now (cs.take k)++cs.drop k)[k]?=some c:=by
 obtain ⟨hk,e⟩:=List.getElem?_eq_some_iff.1 h
 have hl:(lZ p now (cs.take k)).length=k:=by unfold lZ; rw [List.length_map,List.length_take]; omega
 rw [List.getElem?_append_right (by omega),hl,Nat.sub_self,List.getElem?_drop,Nat.add_zero,h]
theorem wake_st {p:Pol} {now:Int} {c:Cl} (h:(kZ p now c).2=true):(kZ p now c).1.st=1:=by
 by_cases q:c.st≠1∨now < c.nx
 ·rw [mZ q] at h; cases h
 ·by_cases q2:c.tr=p.t
  ·rw [wake_gives q q2] at h; cases h
  ·rw [wake_again q q2]; show c.st=1; omega
theorem wakeL_len {p:Pol} {now:Int} {cs:List Cl} {k:Nat}:(lZ p now (cs.take k)++cs.drop k).length=cs.length:=by
 unfold lZ
 rw [List.length_append,List.length_map,← List.length_append,List.take_append_drop]
theorem tick_step {p:Pol} {now:Int} {fs:List Fd} {cs:List Cl} {k:Nat} {g:Fd} {x:Cl} (hl:cs.length=fs.length) (hg:fs[k]?=some g) (hx:cs[k]?=some x) {rr:Cl × Bool} (hr:kZ p now x=rr) :
  (rr.2=true→askT p now (fs.take k) (cs.take k)++[ltOf g.name rr.1]=askT p now (fs.take (k + 1)) (cs.take (k + 1)))∧(rr.2=false→askT p now (fs.take k) (cs.take k)=askT p now (fs.take (k + 1)) (cs.take (k + 1))):=by
 have e:=askT_snoc (p:=p) (now:=now) (fs:=fs.take k) (cs:=cs.take k) g x (by rw [List.length_take,List.length_take,hl])
 rw [cZ fs k g hg,cZ cs k x hx,e,hr]
 exact ⟨fun q=>by rw [if_pos q],fun q=>by rw [if_neg (by rw [q]; decide),List.append_nil]⟩
set_option maxHeartbeats 2000000 in
theorem tick_any (E:Eg) (ρ:List Int) (lv:Nat→Nat) (hok:EgOk E ρ lv) (hse:Settled E ρ) (dt:Int) (d1:1≤dt) (d2:dt≤1000) (d3:E.now + dt≤1073741824) (hl:(nY (dZ E dt) ρ).last≤1073741810) (w:Value) (h:Vw) (hE:IsEng h w E) :
  C0 Tryz.prog 15 #[.agg #[.slice (sA (agJ 0 w)) (sN (agJ 0 w)) (sC (agJ 0 w)),.slice (sA (agJ 1 w)) (sN (agJ 1 w)) (sC (agJ 1 w)),.int .i64 E.pol.t,.int .i64 E.pol.b,.int .i64 E.pol.c,.slice (sA (agJ 2 w)) (sN (agJ 2 w)) (sC (agJ 2 w)),.slice (sA (agJ 3 w)) (sN (agJ 3 w)) (sC (agJ 3 w)),.slice (sA (agJ 4 w)) (sN (agJ 4 w)) (sC (agJ 4 w)),.int .i64 E.now,.int .i64 E.last],.int .i64 dt] h (fun r h'=>TelR (oY (dZ E dt) ρ) (tickT E dt++(nY (dZ E dt) ρ).out) r h'):=by
 have few:=hok.fm.fields.few
 have one:=hok.one
 have n0:=hok.n0
 have n1:=hok.n1
 have hcl:=hok.calls.len
 have hck:=fun H q=>egCheck_any E ρ lv hok hse w H q
 have hcp:=fun H q=>engCopy_form E ρ lv hok w _ _ rfl rfl H q
 have hok':=tickE_ok hok (by omega) d3
 have htl:(tickT E dt).length≤100:=by
  have:=askT_len (p:=E.pol) (now:=E.now + dt) (fs:=E.fm.fields) (cs:=E.calls)
  unfold tickT; omega
 have hdn:=fun b n hn A A2 A3 c c2 c3 gv iv lw0 H q1 q2=>settle_lt (dZ E dt) ρ lv hok' (tickT E dt) htl b n hn A A2 A3 c c2 c3 gv iv lw0 H q1 q2 hl
 have hat:=hok.calls.at_
 have hwk:=fun (i:Nat) (f:Fd) (x:Cl) (q1:E.fm.fields[i]?=some f) (q2:E.calls[i]?=some x) H=>c_wake E.pol hok.pol x (hat i f x q1 q2).1 (E.now + dt) (by omega) d3 H
 have hask:=fun n b i A A2 c c2 gv iv vv lw cv ot g x H (q0:IsFds H (.slice A n c) E.fm.fields) (q1:E.fm.fields[i]?=some g) (q2:cv[i]?=some x) (q3:x.st=1) (q4:ot.length≤1000) (q5:cv.length=n)=>ask_con b i n n A A2 c c2 gv iv vv lw E.pol (E.now + dt) E.last E.fm.fields cv ot g x H q0 q1 q2 q3 q4 q5
 have hnow:=fun k x=>wakeL_now (p:=E.pol) (now:=E.now + dt) (cs:=E.calls) (k:=k) (c:=x)
 have hstp:=fun k x=>wakeL_step (p:=E.pol) (now:=E.now + dt) (cs:=E.calls) (k:=k) (c:=x)
 have hwl:=fun k=>wakeL_len (p:=E.pol) (now:=E.now + dt) (cs:=E.calls) (k:=k)
 have hts:=fun k g x q1 q2 rr=>tick_step (p:=E.pol) (now:=E.now + dt) (fs:=E.fm.fields) (cs:=E.calls) (k:=k) (g:=g) (x:=x) hcl q1 q2 (rr:=rr)
 have hal:=fun k=>askT_len (p:=E.pol) (now:=E.now + dt) (fs:=E.fm.fields.take k) (cs:=E.calls.take k)
 have hend:∀ k,k=E.fm.fields.length→(lZ E.pol (E.now + dt) (E.calls.take k)++E.calls.drop k=(dZ E dt).calls)∧askT E.pol (E.now + dt) (E.fm.fields.take k) (E.calls.take k)=tickT E dt:=fun k hk=>by
  subst hk
  rw [List.take_length,← hcl,List.take_length,List.drop_length,List.append_nil]
  exact ⟨rfl,rfl⟩
 have h00:lZ E.pol (E.now + dt) (E.calls.take 0)++E.calls.drop 0=E.calls:=rfl
 have h01:askT E.pol (E.now + dt) (E.fm.fields.take 0) (E.calls.take 0)=[]:=rfl
 have hwst:=fun x=>wake_st (p:=E.pol) (now:=E.now + dt) (c:=x)
 obtain ⟨S,hS⟩:∃ S,(nY (dZ E dt) ρ).pre (tickT E dt)=S:=⟨_,rfl⟩
 have hres:oY (dZ E dt) ρ={ E with now:=E.now + dt,calls:=S.calls,vals:=S.vals,last:=S.last }:=by rw [← hS]; rfl
 have hlt:tickT E dt++(nY (dZ E dt) ρ).out=S.out:=by rw [← hS]; rfl
 rw [hS] at hdn
 have ht1:(dZ E dt).fm=E.fm:=rfl
 have ht2:(dZ E dt).inp=E.inp:=rfl
 have ht3:(dZ E dt).pol=E.pol:=rfl
 have ht4:(dZ E dt).now=E.now + dt:=rfl
 have ht5:(dZ E dt).last=E.last:=rfl
 have ht6:(dZ E dt).vals=E.vals:=rfl
 rw [hres,hlt]
 rw [ht1,ht2,ht3,ht4,ht5,ht6] at hdn
 generalize (dZ E dt).calls=wcs at *
 generalize tickT E dt=tks at *
 generalize hnw:E.now + dt=nw at *
 generalize hn:E.fm.fields.length=n at *
 generalize hm:E.fm.pages.length=m at *
 generalize hlen:E.inp.length=len at *
 refine qQ Tryz.func15 (c:=Tryz.f15.body.getD .skip) (N:=93) ?_
 intro hbx hbad Q hQ
 refine go2 49 [.own,.own,.b 1 0,.cl 42 #[.agg #[.slice (sA (agJ 0 w)) (sN (agJ 0 w)) (sC (agJ 0 w)),.slice (sA (agJ 1 w)) (sN (agJ 1 w)) (sC (agJ 1 w)),Vi E.pol.t,Vi E.pol.b,Vi E.pol.c,.slice (sA (agJ 2 w)) (sN (agJ 2 w)) (sC (agJ 2 w)),.slice (sA (agJ 3 w)) (sN (agJ 3 w)) (sC (agJ 3 w)),.slice (sA (agJ 4 w)) (sN (agJ 4 w)) (sC (agJ 4 w)),Vi E.now,Vi E.last]] (Vi 0),.b 1 8,.b 1 0] [(21,.bool (decide (dt < 1)),.bool false),(24,.bool (decide (dt > 1000)),.bool false),(30,Vi (IntKind.i64.wrap (1073741824 - E.now)),Vi (1073741824 - E.now)),(31,.bool (decide (dt > (1073741824 - E.now))),.bool false)] ?_ (ho:=(And.intro (fun H sH=>hck _ (hE.sees sH)) (trivial))) (hc:=(And.intro (congrArg Value.bool (decide_eq_false (by omega))) (And.intro (congrArg Value.bool (decide_eq_false (by omega))) (And.intro (jJ (by omega) (by omega)) (And.intro (congrArg Value.bool (decide_eq_false (by omega))) (trivial))))))
 intro b1 b2
 refine g_callE (Bi:=[]) [] (fun H sH=>hcp _ (hE.sees sH)) ?_; rintro _ _ W3 S4 ⟨A',c',B',d',A1,c1,A2,c2,A3,c3,rfl,rfl,hfu⟩
 refine go1 33 [.own,.b 0 8,.b 0 8,.b 0 6] [(44,Vi (IntKind.i64.wrap (E.now + dt)),Vi (E.now + dt))] ?_ (hc:=(And.intro (jJ (by omega) (by omega)) (trivial)))
 intro bm
 refine vQ 1 (v:=.slice A1 len c1) (e:=51) (kk:=7) (l:=zK E.inp) ?_; intro W5 S6 fri
 refine g_get (fun a w hJ=>own_some (hJ.rowOwn (v:=.slice A2 n c2) (e:=44) (kk:=10) (l:=iK E.calls) 1 (by kernel_rfl)) ((by rw [List.length_map]; omega))) ?_; rintro ⟨bcs,rfl⟩
 refine cV 67 8 ?_
 refine yQ [0,1,0,1,1,1,1,1] [.block 0,.seq [1,1,1,1,1,1]] (fun (k:Nat) X=>∃ (W7:Vw) (lw:Value) (ot:List Lt) (cv:List Cl),X W7 [(4,Vp b2),(8,Vp bm),(52,Vs bcs n c2),(53,Vi (n:Int)),(54,Vi (k:Int))] [.row (.slice (sA lw) (sN lw) (sC lw)) 67 8 (dW ot),.box bm [.slice A' n c',.slice B' m d',Vi E.pol.t,Vi E.pol.b,Vi E.pol.c,.slice A1 len c1,Vs bcs n c2,.slice A3 n c3,Vi nw,Vi E.last,.slice (sA lw) (sN lw) (sC lw)],.row (Vs bcs n c2) 44 10 (iK cv),.row (.slice A3 n c3) 42 3 (jZ E.vals),.box b2 [Vz,Vz,Vi 0,Vi 0,Vi 0,Vz,Vz,Vz,Vi 0,Vi 0],.box b1 [.slice (sA (agJ 0 w)) (sN (agJ 0 w)) (sC (agJ 0 w)),.slice (sA (agJ 1 w)) (sN (agJ 1 w)) (sC (agJ 1 w)),Vi E.pol.t,Vi E.pol.b,Vi E.pol.c,.slice (sA (agJ 2 w)) (sN (agJ 2 w)) (sC (agJ 2 w)),.slice (sA (agJ 3 w)) (sN (agJ 3 w)) (sC (agJ 3 w)),.slice (sA (agJ 4 w)) (sN (agJ 4 w)) (sC (agJ 4 w)),Vi E.now,Vi E.last]] []∧Sees W5 W7∧(k≤n)∧(lZ E.pol nw (E.calls.take k)++E.calls.drop k=cv)∧(askT E.pol nw (E.fm.fields.take k) (E.calls.take k)=ot)) (fun k=>n - k) (0) (fun X q=>⟨W5,(Vz),[],E.calls,q _ _ _ _ ⟨rfl,by kernel_rfl⟩,Sees.refl _,Nat.zero_le _,h00,h01⟩) ?_
 rintro k a w ⟨W7,lw,ot,cv,hJ,S8,hk,hv,ho⟩; refine dV hJ ?_; clear hJ a w
 refine go0 6 [] [] ?_
 rcases (by omega:k < n∨k=n) with hlt2 | hke
 ·obtain ⟨g,hg⟩:∃ g,E.fm.fields[k]?=some g:=⟨_,List.getElem?_eq_getElem (by omega)⟩
  obtain ⟨x,hx⟩:∃ x,E.calls[k]?=some x:=⟨_,List.getElem?_eq_getElem (by omega)⟩
  have hxv:=hnow k x hx
  have hsv:=hstp k x hx
  have hcv:=hwl k
  have hotl:=hal k
  rw [hv] at hxv hsv hcv
  rw [ho,List.length_take] at hotl
  have hwx:=hwk k g x hg hx
  have hws:=hwst x
  obtain ⟨rr,hrr⟩:∃ rr,kZ E.pol nw x=rr:=⟨_,rfl⟩
  obtain ⟨ht1,ht2⟩:=hts k g x hg hx rr hrr
  rw [hrr] at hwx hws hsv
  rw [ho] at ht1 ht2
  have hrc:=clRows_get hxv
  have hcs:=clRows_set cv k rr.1
  have hgx:(cv.set k rr.1)[k]?=some rr.1:=List.getElem?_set_self (by omega)
  have hk1:=fun (q:rr.1.st=1) H q' lw'=>hask n bm k A' (some ⟨bcs,0,none⟩) c' c2 (.slice B' m d') (.slice A1 len c1) (.slice A3 n c3) lw' (cv.set k rr.1) ot g rr.1 H q' hg hgx q (by omega) (by rw [List.length_set]; omega)
  refine jV (t:=decide ((k:Int) < (n:Int))) (decide_eq_true (by omega)) ?_
  refine go0 7 [] [] ?_
  refine go0 1 [.ix bcs 0 n c2 k] [] ?_ (ho:=(And.intro (by first | omega | (simp; omega)) (trivial)))
  refine g_rowget 2 k 0 (g:=bcs) (m:=n) (cap:=c2) (kk:=10) (e:=44) (l:=iK cv) (r:=[Vi x.st,Vi x.id,Vi x.tr,Vi x.key.k,Vi x.key.n,.string x.key.s,Vi x.has.k,Vi x.has.n,.string x.has.s,Vi x.nx]) (t:=44) (x:=(.tmp 57)) (v:=.agg #[Vi x.st,Vi x.id,Vi x.tr,Vi x.key.k,Vi x.key.n,.string x.key.s,Vi x.has.k,Vi x.has.n,.string x.has.s,Vi x.nx]) (hrc) ?_
  refine go1 6 [.own,.b 0 0] [] ?_
  intro b9
  refine fV 20 1 [.ld 1 0,.pu,.pu,.pu,.pu,.ld 3 2,.pu,.pu,.pu,.pu,.ld 3 8,.v (fun gh=>.tuple #[.agg #[Vi rr.1.st,Vi rr.1.id,Vi rr.1.tr,Vi rr.1.key.k,Vi rr.1.key.n,.string rr.1.key.s,Vi rr.1.has.k,Vi rr.1.has.n,.string rr.1.has.s,Vi rr.1.nx],.bool rr.2,Vi 0]),.pu,.pu,.pu,.pu,.al 0,.st 0 0,.pu,.pu] [(16,true)] (trivial) ?_ ?_
  ·intro R hT hA hmono
   refine And.intro (t_v hT hA hmono (k:=46) (args:=(fun gh=>#[.agg #[Vi x.st,Vi x.id,Vi x.tr,Vi x.key.k,Vi x.key.n,.string x.key.s,Vi x.has.k,Vi x.has.n,.string x.has.s,Vi x.nx],.agg #[Vi E.pol.t,Vi E.pol.b,Vi E.pol.c],Vi nw])) (f:=fun gh=>.tuple #[.agg #[Vi rr.1.st,Vi rr.1.id,Vi rr.1.tr,Vi rr.1.key.k,Vi rr.1.key.n,.string rr.1.key.s,Vi rr.1.has.k,Vi rr.1.has.n,.string rr.1.has.s,Vi rr.1.nx],.bool rr.2,Vi 0]) (fun gh H sH fH lent=>hwx _)) ?_
   trivial
  rintro b10 W11 S12 -
  refine go0 2 [] [] ?_
  refine fV 9 0 [.pu,.pu,.pu,.pu,.ld 3 6,.pu,.ld 0 0,.v (fun gh=>.pointer (some ⟨bcs,0 + k * 10,none⟩)),.s 4 (fun gh=>.row (Vs bcs n c2) 44 10 ((iK cv).set k [Vi rr.1.st,Vi rr.1.id,Vi rr.1.tr,Vi rr.1.key.k,Vi rr.1.key.n,.string rr.1.key.s,Vi rr.1.has.k,Vi rr.1.has.n,.string rr.1.has.s,Vi rr.1.nx]))] [] (trivial) ?_ ?_
  ·intro R hT hA hmono
   refine And.intro (bZ hT hA bcs 0 n c2 k (fun gh=>.pointer (some ⟨bcs,0 + k * 10,none⟩)) (by first | omega | (simp; omega))) ?_
   refine And.intro (r_rowset hT hA [0,1,2,3,4,5,6,7] (by kernel_rfl) (by kernel_rfl) (fun _=>by kernel_rfl) 4 (GN R 4) (by kernel_rfl) (by kernel_rfl) (by kernel_rfl) k 0 (g:=bcs) (m:=n) (cap:=c2) (kk:=10) (te:=44) (l:=iK cv) (r:=[Vi x.st,Vi x.id,Vi x.tr,Vi x.key.k,Vi x.key.n,.string x.key.s,Vi x.has.k,Vi x.has.n,.string x.has.s,Vi x.nx]) (fun gh=>.agg #[Vi rr.1.st,Vi rr.1.id,Vi rr.1.tr,Vi rr.1.key.k,Vi rr.1.key.n,.string rr.1.key.s,Vi rr.1.has.k,Vi rr.1.has.n,.string rr.1.has.s,Vi rr.1.nx]) (fun _=>by kernel_rfl) (fun _=>by kernel_rfl) 44 (.tmp 82) (.tmp 81) (by kernel_rfl) (fun _=>by kernel_rfl) (fun _=>by kernel_rfl) (hrc) (fun _=>by kernel_rfl)) ?_
   trivial
  rintro W13 S14 -
  refine go0 6 [] [] ?_
  refine wQ [(4,Vp b2),(8,Vp bm),(52,Vs bcs n c2),(53,Vi (n:Int)),(54,Vi (k:Int)),(9,Vi (k:Int)),(83,.bool rr.2)] [.box b10 [Vi rr.1.st,Vi rr.1.id,Vi rr.1.tr,Vi rr.1.key.k,Vi rr.1.key.n,.string rr.1.key.s,Vi rr.1.has.k,Vi rr.1.has.n,.string rr.1.has.s,Vi rr.1.nx],.box b9 [Vi x.st,Vi x.id,Vi x.tr,Vi x.key.k,Vi x.key.n,.string x.key.s,Vi x.has.k,Vi x.has.n,.string x.has.s,Vi x.nx],.row (.slice (sA lw) (sN lw) (sC lw)) 67 8 (dW ot),.box bm [.slice A' n c',.slice B' m d',Vi E.pol.t,Vi E.pol.b,Vi E.pol.c,.slice A1 len c1,Vs bcs n c2,.slice A3 n c3,Vi nw,Vi E.last,.slice (sA lw) (sN lw) (sC lw)],.row (Vs bcs n c2) 44 10 ((iK cv).set k [Vi rr.1.st,Vi rr.1.id,Vi rr.1.tr,Vi rr.1.key.k,Vi rr.1.key.n,.string rr.1.key.s,Vi rr.1.has.k,Vi rr.1.has.n,.string rr.1.has.s,Vi rr.1.nx]),.row (.slice A3 n c3) 42 3 (jZ E.vals),.box b2 [Vz,Vz,Vi 0,Vi 0,Vi 0,Vz,Vz,Vz,Vi 0,Vi 0],.box b1 [.slice (sA (agJ 0 w)) (sN (agJ 0 w)) (sC (agJ 0 w)),.slice (sA (agJ 1 w)) (sN (agJ 1 w)) (sC (agJ 1 w)),Vi E.pol.t,Vi E.pol.b,Vi E.pol.c,.slice (sA (agJ 2 w)) (sN (agJ 2 w)) (sC (agJ 2 w)),.slice (sA (agJ 3 w)) (sN (agJ 3 w)) (sC (agJ 3 w)),.slice (sA (agJ 4 w)) (sN (agJ 4 w)) (sC (agJ 4 w)),Vi E.now,Vi E.last]] [] ?_
  rw [hcs]
  rcases Bool.eq_false_or_eq_true rr.2 with e | e
  ·refine jV (t:=rr.2) (e) ?_
   refine go0 3 [] [] ?_
   refine g_callE (Bi:=[.row (.slice (sA lw) (sN lw) (sC lw)) 67 8 (dW ot),.box bm [.slice A' n c',.slice B' m d',Vi E.pol.t,Vi E.pol.b,Vi E.pol.c,.slice A1 len c1,Vs bcs n c2,.slice A3 n c3,Vi nw,Vi E.last,.slice (sA lw) (sN lw) (sC lw)],.row (Vs bcs n c2) 44 10 (iK (cv.set k rr.1))]) [2,3,4] (fun H sH=>hk1 (hws e) _ ((hfu.sees (S6.trans (S8.trans (S12.trans (S14.trans sH)))))).fields _) ?_; rintro _ _ W15 S16 ⟨u,rfl,rfl⟩
   refine go0 7 [] [(87,Vi (IntKind.i64.wrap ((k:Int) + 1)),Vi ((k:Int) + 1))] ?_ (hc:=(And.intro (jJ (by omega) (by omega)) (trivial)))
   refine g_drop 4 ?_
   refine g_drop 3 ?_
   exact iV (k + 1) (fun X q=>⟨W15,u,(ot++[ltOf g.name rr.1]),(cv.set k rr.1),q _ _ _ _ ⟨rfl,by kernel_rfl⟩,(S8.trans (S12.trans (S14.trans S16))),by omega,hsv.symm,(ht1 e).symm⟩) (by omega)
  ·skip
   refine uQ (t:=rr.2) (e) ?_
   refine go0 7 [] [(87,Vi (IntKind.i64.wrap ((k:Int) + 1)),Vi ((k:Int) + 1))] ?_ (hc:=(And.intro (jJ (by omega) (by omega)) (trivial)))
   exact iV (k + 1) (fun X q=>⟨W13,lw,ot,(cv.set k rr.1),q _ _ _ _ ⟨rfl,by kernel_rfl⟩,(S8.trans (S12.trans S14)),by omega,hsv.symm,(ht2 e).symm⟩) (by omega)
 ·skip
  obtain ⟨he1,he2⟩:=hend k hke
  rw [hv] at he1
  rw [ho] at he2
  have he1:=he1.symm
  have he2:=he2.symm
  subst he1 he2
  refine uQ (t:=decide ((k:Int) < (n:Int))) (decide_eq_false (by omega)) ?_
  refine go0 2 [] [] ?_
  refine xQ ?_
  refine go0 5 [] [] ?_
  refine g_callE (Bi:=[.row (.slice (sA lw) (sN lw) (sC lw)) 67 8 (dW tks),.box bm [.slice A' n c',.slice B' m d',Vi E.pol.t,Vi E.pol.b,Vi E.pol.c,.slice A1 len c1,Vs bcs n c2,.slice A3 n c3,Vi nw,Vi E.last,.slice (sA lw) (sN lw) (sC lw)],.row (Vs bcs n c2) 44 10 (iK wcs),.row (.slice A3 n c3) 42 3 (jZ E.vals)]) [0,1,2,3] (fun H sH=>hdn bm n rfl A' (some ⟨bcs,0,none⟩) A3 c' c2 c3 (.slice B' m d') (.slice A1 len c1) lw _ ((hfu.sees (S6.trans (S8.trans sH)))).fields (fri.sees (S8.trans sH))) ?_; rintro _ _ W17 S18 ⟨ul,rfl,rfl⟩
  refine go0 9 [.b 4 0] [] ?_
  refine vQ 0 (v:=.slice (sA ul) (sN ul) (sC ul)) (e:=67) (kk:=8) (l:=dW S.out) ?_; intro W19 S20 fl
  refine vQ 1 (v:=Vs bcs n c2) (e:=44) (kk:=10) (l:=iK S.calls) ?_; intro W21 S22 fc
  refine vQ 1 (v:=.slice A3 n c3) (e:=42) (kk:=3) (l:=jZ S.vals) ?_; intro W23 S24 fv
  refine hQ.to [.agg #[.slice A' n c',.slice B' m d',Vi E.pol.t,Vi E.pol.b,Vi E.pol.c,.slice A1 len c1,Vs bcs n c2,.slice A3 n c3,Vi nw,Vi S.last],.slice (sA ul) (sN ul) (sC ul),Vi 0] (fun H sH=>?_) (ix:=[1])
  exact (⟨.agg #[.slice A' n c',.slice B' m d',.slice A1 len c1,Vs bcs n c2,.slice A3 n c3,ul],rfl,⟨⟨(hfu.sees (S6.trans (S8.trans (S18.trans (S20.trans (S22.trans (S24.trans sH))))))),(fri.sees (S8.trans (S18.trans (S20.trans (S22.trans (S24.trans sH)))))),(fc.sees (S24.trans sH)),(fv.sees sH)⟩,(fl.sees (S22.trans (S24.trans sH)))⟩⟩:TelR { E with now:=nw,calls:=S.calls,vals:=S.vals,last:=S.last } S.out _ _)
end Go.Proofs.YtmoahpojchndiaaGreat
namespace Go.Proofs.YtmoahpojchndiaaGreat
open Go.RowKit
set_option linter.unusedVariables false
def heardC (x:Lt) (c:Cl):Cl:=⟨2,c.id,c.tr,c.key,x.ans,0⟩
def pV (E:Eg) (i:Nat) (x:Lt) (c:Cl):Eg:={ E with calls:=E.calls.set i (heardC x c) }
def Takes (f:Fd) (x:Lt) (c:Cl):Prop:=c.st=1∧c.id=x.id∧eqB c.key x.key=true∧x.ans.k≤3∧x.ans.k=f.ty
theorem hearE_ok {E:Eg} {ρ:List Int} {lv:Nat→Nat} (hok:EgOk E ρ lv) {i:Nat} {f:Fd} {x:Lt} {c:Cl} (hf:E.fm.fields[i]?=some f) (hc:E.calls[i]?=some c) (hx:OkV x.ans) (ht:Takes f x c):EgOk (pV E i x c) ρ lv:=by
 obtain ⟨t1,t2,t3,t4,t5⟩:=ht
 obtain ⟨d1,d2,d3⟩:=hok.calls.at_ i f c hf hc
 have h1:=(hear_ok (id:=x.id) (key:=x.key) d1 hx).1
 rw [hear_yes t1 t2 t3 t4] at h1
 refine ⟨hok.fm,hok.one,hok.pol,hok.ki,hok.k0,hok.once,hok.li,⟨by show (E.calls.set i _).length=_; rw [List.length_set]; exact hok.calls.len,fun j g d hg hd=>?_⟩,hok.vlen,hok.n0,hok.n1,hok.l0,hok.l1⟩
 rcases set_at hd with ⟨rfl,rfl⟩ | ⟨-,hd⟩
 ·have hg:E.fm.fields[j]?=some g:=hg
  rw [hf] at hg
  obtain rfl:=Option.some.inj hg
  exact ⟨h1,fun _=>⟨(d2 (by omega)).1,(d2 (by omega)).2⟩,fun _=>t5⟩
 ·exact hok.calls.at_ j g d hg hd
def HeaR (E:Eg) (lt:List Lt) (t:Bool) (r:Value) (h:Vw):Prop:=∃ u,r=.tuple #[.agg #[.slice (sA (agJ 0 u)) (sN (agJ 0 u)) (sC (agJ 0 u)),.slice (sA (agJ 1 u)) (sN (agJ 1 u)) (sC (agJ 1 u)),.int .i64 E.pol.t,.int .i64 E.pol.b,.int .i64 E.pol.c,.slice (sA (agJ 2 u)) (sN (agJ 2 u)) (sC (agJ 2 u)),.slice (sA (agJ 3 u)) (sN (agJ 3 u)) (sC (agJ 3 u)),.slice (sA (agJ 4 u)) (sN (agJ 4 u)) (sC (agJ 4 u)),.int .i64 E.now,.int .i64 E.last],.slice (sA (agJ 5 u)) (sN (agJ 5 u)) (sC (agJ 5 u)),.bool t,.int .i64 0]∧TelF h u E lt
set_option maxHeartbeats 2000000 in
theorem hear_any (E:Eg) (ρ:List Int) (lv:Nat→Nat) (hok:EgOk E ρ lv) (hse:Settled E ρ) (i:Nat) (f:Fd) (x:Lt) (c:Cl) (hf:E.fm.fields[i]?=some f) (hc:E.calls[i]?=some c) (hn:x.nm=f.name) (hx:OkV x.ans) (ht:Takes f x c) (hl:(nY (pV E i x c) ρ).last≤1073741810) (w:Value) (h:Vw) (hE:IsEng h w E) :
  C0 Tryz.prog 22 #[.agg #[.slice (sA (agJ 0 w)) (sN (agJ 0 w)) (sC (agJ 0 w)),.slice (sA (agJ 1 w)) (sN (agJ 1 w)) (sC (agJ 1 w)),.int .i64 E.pol.t,.int .i64 E.pol.b,.int .i64 E.pol.c,.slice (sA (agJ 2 w)) (sN (agJ 2 w)) (sC (agJ 2 w)),.slice (sA (agJ 3 w)) (sN (agJ 3 w)) (sC (agJ 3 w)),.slice (sA (agJ 4 w)) (sN (agJ 4 w)) (sC (agJ 4 w)),.int .i64 E.now,.int .i64 E.last],.agg #[.string x.nm,.int .i64 x.id,.int .i64 x.key.k,.int .i64 x.key.n,.string x.key.s,.int .i64 x.ans.k,.int .i64 x.ans.n,.string x.ans.s]] h (fun r h'=>HeaR (oY (pV E i x c) ρ) (nY (pV E i x c) ρ).out true r h'):=by
 have few:=hok.fm.fields.few
 have hck:=fun H q=>egCheck_any E ρ lv hok hse w H q
 have hcp:=fun H q=>engCopy_form E ρ lv hok w _ _ rfl rfl H q
 have hfi:=fun H q=>find_yes E.fm.fields (.slice (sA (agJ 0 w)) (sN (agJ 0 w)) (sC (agJ 0 w))) x.nm i H q (by omega) (by rw [hn]; exact gQ hok.fm.fields.nodup hf)
 have hhe:=fun H=>c_hear E.pol hok.pol c (hok.calls.at_ i f c hf hc).1 x.id x.key x.ans hx H
 have hok':=hearE_ok hok hf hc hx ht
 have hdn:=fun b n hn A A2 A3 c1 c2 c3 gv iv lw0 H q1 q2=>settle_eg (pV E i x c) ρ lv hok' b n hn A A2 A3 c1 c2 c3 gv iv lw0 H q1 q2 hl
 obtain ⟨t1,t2,t3,t4,t5⟩:=ht
 rw [hear_yes t1 t2 t3 t4] at hhe
 have hhe:∀ H,C0 Tryz.prog 61 #[.agg #[.int .i64 c.st,.int .i64 c.id,.int .i64 c.tr,.int .i64 c.key.k,.int .i64 c.key.n,.string c.key.s,.int .i64 c.has.k,.int .i64 c.has.n,.string c.has.s,.int .i64 c.nx],.agg #[.int .i64 E.pol.t,.int .i64 E.pol.b,.int .i64 E.pol.c],.int .i64 x.id,.agg #[.int .i64 x.key.k,.int .i64 x.key.n,.string x.key.s],.agg #[.int .i64 x.ans.k,.int .i64 x.ans.n,.string x.ans.s]] H (fun r _=>r=wakeR (heardC x c,true)):=hhe
 have hrc:=clRows_get hc
 have hil:=(List.getElem?_eq_some_iff.1 hf).1
 have hcl:=hok.calls.len
 have hcs:=clRows_set E.calls i (heardC x c)
 have ht1:(pV E i x c).fm=E.fm:=rfl
 have ht2:(pV E i x c).inp=E.inp:=rfl
 have ht3:(pV E i x c).pol=E.pol:=rfl
 have ht4:(pV E i x c).now=E.now:=rfl
 have ht5:(pV E i x c).last=E.last:=rfl
 have ht6:(pV E i x c).vals=E.vals:=rfl
 have ht7:(pV E i x c).calls=E.calls.set i (heardC x c):=rfl
 generalize heardC x c=y at *
 obtain ⟨S,hS⟩:∃ S,nY (pV E i x c) ρ=S:=⟨_,rfl⟩
 have hres:oY (pV E i x c) ρ={ E with calls:=S.calls,vals:=S.vals,last:=S.last }:=by rw [← hS]; rfl
 rw [hres]
 rw [hS] at hdn ⊢
 rw [ht1,ht2,ht3,ht4,ht5,ht6,ht7] at hdn
 generalize hn:E.fm.fields.length=n at *
 generalize hm:E.fm.pages.length=m at *
 generalize hlen:E.inp.length=len at *
 refine qQ Tryz.func22 (c:=Tryz.f22.body.getD .skip) (N:=105) ?_
 intro hbx hbad Q hQ
 refine go3 55 [.own,.own,.own,.b 2 0,.cl 42 #[.agg #[.slice (sA (agJ 0 w)) (sN (agJ 0 w)) (sC (agJ 0 w)),.slice (sA (agJ 1 w)) (sN (agJ 1 w)) (sC (agJ 1 w)),Vi E.pol.t,Vi E.pol.b,Vi E.pol.c,.slice (sA (agJ 2 w)) (sN (agJ 2 w)) (sC (agJ 2 w)),.slice (sA (agJ 3 w)) (sN (agJ 3 w)) (sC (agJ 3 w)),.slice (sA (agJ 4 w)) (sN (agJ 4 w)) (sC (agJ 4 w)),Vi E.now,Vi E.last]] (Vi 0),.b 2 0,.b 1 0,.cl 60 #[.slice (sA (agJ 0 w)) (sN (agJ 0 w)) (sC (agJ 0 w)),.string x.nm] (.tuple #[Vi (i:Int),Vi 0]),.b 2 0] [] ?_ (ho:=(And.intro (fun H sH=>hck _ (hE.sees sH)) (And.intro (fun H sH=>hfi _ ((hE.sees sH)).form.fields) (trivial))))
 intro b1 b2 b3
 refine g_callE (Bi:=[]) [] (fun H sH=>hcp _ (hE.sees sH)) ?_; rintro _ _ W4 S5 ⟨A',c',B',d',A1,c1,A2,c2,A3,c3,rfl,rfl,hfu⟩
 refine go1 6 [.own] [] ?_
 intro bm
 refine vQ 1 (v:=.slice A1 len c1) (e:=51) (kk:=7) (l:=zK E.inp) ?_; intro W6 S7 fri
 refine g_get (fun a w hJ=>own_some (hJ.rowOwn (v:=.slice A2 n c2) (e:=44) (kk:=10) (l:=iK E.calls) 1 (by kernel_rfl)) ((by rw [List.length_map]; omega))) ?_; rintro ⟨bcs,rfl⟩
 obtain ⟨vs,A4,c4,e4,-,-,hr4,hs4,hl4,-⟩:=dQ hfu.fields
 rw [hn] at e4 hr4 hl4
 simp only [Value.slice.injEq] at e4
 obtain ⟨rfl,-,rfl⟩:=e4
 obtain ⟨u,hu⟩:∃ u,vs[i]?=some u:=⟨_,List.getElem?_eq_getElem (by omega)⟩
 have hrow:=bQ hf hu
 obtain ⟨Au,nu,cu,rfl⟩:=(AllSrc.get hs4 hf hu).slice
 refine fV 28 1 [.pu,.pu,.pu,.pu,.ld 1 6,.pu,.v (fun gh=>.pointer (some ⟨bcs,0 + i * 10,none⟩)),.v (fun gh=>.agg #[Vi c.st,Vi c.id,Vi c.tr,Vi c.key.k,Vi c.key.n,.string c.key.s,Vi c.has.k,Vi c.has.n,.string c.has.s,Vi c.nx]),.pu,.pu,.pu,.pu,.ld 1 2,.pu,.ld 5 1,.pu,.ld 5 2,.pu,.ld 5 5,.v (fun gh=>.tuple #[.agg #[Vi y.st,Vi y.id,Vi y.tr,Vi y.key.k,Vi y.key.n,.string y.key.s,Vi y.has.k,Vi y.has.n,.string y.has.s,Vi y.nx],.bool true,Vi 0]),.pu,.pu,.pu,.pu,.al 0,.st 0 0,.pu,.pu] [(24,true)] (trivial) ?_ ?_
 ·intro R hT hA hmono
  refine And.intro (bZ hT hA bcs 0 n c2 i (fun gh=>.pointer (some ⟨bcs,0 + i * 10,none⟩)) (by first | omega | (simp; omega))) ?_
  refine And.intro (r_rowget hT hA 48 (fun gh=>.agg #[Vi c.st,Vi c.id,Vi c.tr,Vi c.key.k,Vi c.key.n,.string c.key.s,Vi c.has.k,Vi c.has.n,.string c.has.s,Vi c.nx]) [6] 7 (by kernel_rfl) (by kernel_rfl) (by kernel_rfl) (fun _=>by kernel_rfl) 2 (GN R 2) (by kernel_rfl) (by kernel_rfl) bcs n c2 10 44 (iK E.calls) (fun _=>by kernel_rfl) i 0 (r:=[Vi c.st,Vi c.id,Vi c.tr,Vi c.key.k,Vi c.key.n,.string c.key.s,Vi c.has.k,Vi c.has.n,.string c.has.s,Vi c.nx]) (hrc) 44 (.tmp 47) (by kernel_rfl) (fun _=>by kernel_rfl) (fun _=>by kernel_rfl)) ?_
  refine And.intro (t_v hT hA hmono (k:=61) (args:=(fun gh=>#[.agg #[Vi c.st,Vi c.id,Vi c.tr,Vi c.key.k,Vi c.key.n,.string c.key.s,Vi c.has.k,Vi c.has.n,.string c.has.s,Vi c.nx],.agg #[Vi E.pol.t,Vi E.pol.b,Vi E.pol.c],Vi x.id,.agg #[Vi x.key.k,Vi x.key.n,.string x.key.s],.agg #[Vi x.ans.k,Vi x.ans.n,.string x.ans.s]])) (f:=fun gh=>.tuple #[.agg #[Vi y.st,Vi y.id,Vi y.tr,Vi y.key.k,Vi y.key.n,.string y.key.s,Vi y.has.k,Vi y.has.n,.string y.has.s,Vi y.nx],.bool true,Vi 0]) (fun gh H sH fH lent=>hhe _)) ?_
  trivial
 rintro b8 W9 S10 -
 refine go0 3 [] [] ?_
 obtain ⟨b11,o12,rfl,-,c13⟩:=RS.row hr4 (hrow)
 refine tQ (c13.sees (S7.trans S10)) ?_
 refine fV 18 0 [.pu,.pu,.pu,.pu,.pu,.ld 5 5,.pu,.pu,.pu,.pu,.pu,.ld 1 0,.pu,.v (fun gh=>.pointer (some ⟨b11,o12 + i * 9,none⟩)),.pu,.lf 0 2,.v (fun gh=>.bool false),.pu] [] (trivial) ?_ ?_
 ·intro R hT hA hmono
  refine And.intro (bZ hT hA b11 o12 n c' i (fun gh=>.pointer (some ⟨b11,o12 + i * 9,none⟩)) (by first | omega | (simp; omega))) ?_
  refine And.intro (aZ hT hA (fun gh=>.bool false) (fun gh=>.bool (x.ans.k != f.ty)) (fun gh=>congrArg Value.bool (bne_eq_false_iff_eq.2 t5))) ?_
  trivial
 rintro W14 S15 -
 refine go0 5 [] [] ?_
 refine fV 9 0 [.pu,.pu,.pu,.pu,.ld 1 6,.pu,.ld 0 0,.v (fun gh=>.pointer (some ⟨bcs,0 + i * 10,none⟩)),.s 2 (fun gh=>.row (Vs bcs n c2) 44 10 ((iK E.calls).set i [Vi y.st,Vi y.id,Vi y.tr,Vi y.key.k,Vi y.key.n,.string y.key.s,Vi y.has.k,Vi y.has.n,.string y.has.s,Vi y.nx]))] [] (trivial) ?_ ?_
 ·intro R hT hA hmono
  refine And.intro (bZ hT hA bcs 0 n c2 i (fun gh=>.pointer (some ⟨bcs,0 + i * 10,none⟩)) (by first | omega | (simp; omega))) ?_
  refine And.intro (r_rowset hT hA [0,1,2,3,4,5,6,7] (by kernel_rfl) (by kernel_rfl) (fun _=>by kernel_rfl) 2 (GN R 2) (by kernel_rfl) (by kernel_rfl) (by kernel_rfl) i 0 (g:=bcs) (m:=n) (cap:=c2) (kk:=10) (te:=44) (l:=iK E.calls) (r:=[Vi c.st,Vi c.id,Vi c.tr,Vi c.key.k,Vi c.key.n,.string c.key.s,Vi c.has.k,Vi c.has.n,.string c.has.s,Vi c.nx]) (fun gh=>.agg #[Vi y.st,Vi y.id,Vi y.tr,Vi y.key.k,Vi y.key.n,.string y.key.s,Vi y.has.k,Vi y.has.n,.string y.has.s,Vi y.nx]) (fun _=>by kernel_rfl) (fun _=>by kernel_rfl) 44 (.tmp 93) (.tmp 92) (by kernel_rfl) (fun _=>by kernel_rfl) (fun _=>by kernel_rfl) (hrc) (fun _=>by kernel_rfl)) ?_
  trivial
 rintro W16 S17 -
 refine go0 4 [] [] ?_
 refine wQ [(4,Vp b3),(95,Vp bm)] [.box b8 [Vi y.st,Vi y.id,Vi y.tr,Vi y.key.k,Vi y.key.n,.string y.key.s,Vi y.has.k,Vi y.has.n,.string y.has.s,Vi y.nx],.box bm [.slice (some ⟨b11,o12,none⟩) n c',.slice B' m d',Vi E.pol.t,Vi E.pol.b,Vi E.pol.c,.slice A1 len c1,Vs bcs n c2,.slice A3 n c3,Vi E.now,Vi E.last,Vz],.row (Vs bcs n c2) 44 10 ((iK E.calls).set i [Vi y.st,Vi y.id,Vi y.tr,Vi y.key.k,Vi y.key.n,.string y.key.s,Vi y.has.k,Vi y.has.n,.string y.has.s,Vi y.nx]),.row (.slice A3 n c3) 42 3 (jZ E.vals),.box b3 [Vz,Vz,Vi 0,Vi 0,Vi 0,Vz,Vz,Vz,Vi 0,Vi 0],.box b2 [.string x.nm,Vi x.id,Vi x.key.k,Vi x.key.n,.string x.key.s,Vi x.ans.k,Vi x.ans.n,.string x.ans.s],.box b1 [.slice (sA (agJ 0 w)) (sN (agJ 0 w)) (sC (agJ 0 w)),.slice (sA (agJ 1 w)) (sN (agJ 1 w)) (sC (agJ 1 w)),Vi E.pol.t,Vi E.pol.b,Vi E.pol.c,.slice (sA (agJ 2 w)) (sN (agJ 2 w)) (sC (agJ 2 w)),.slice (sA (agJ 3 w)) (sN (agJ 3 w)) (sC (agJ 3 w)),.slice (sA (agJ 4 w)) (sN (agJ 4 w)) (sC (agJ 4 w)),Vi E.now,Vi E.last]] [(b11,o12 + i * 9,[.string f.name,Vi f.kind,Vi f.ty,Vi f.src.op,Vi f.src.k,Vi f.src.n,.string f.src.s,.string f.src.nm,.slice Au nu cu])] ?_
 rw [hcs]
 refine cV 67 8 ?_
 refine g_callE (Bi:=[.row (Vz) 67 8 ([]),.box bm [.slice (some ⟨b11,o12,none⟩) n c',.slice B' m d',Vi E.pol.t,Vi E.pol.b,Vi E.pol.c,.slice A1 len c1,Vs bcs n c2,.slice A3 n c3,Vi E.now,Vi E.last,Vz],.row (Vs bcs n c2) 44 10 (iK (E.calls.set i y)),.row (.slice A3 n c3) 42 3 (jZ E.vals)]) [0,2,3,4] (fun H sH=>hdn bm n rfl _ (some ⟨bcs,0,none⟩) A3 c' c2 c3 (.slice B' m d') (.slice A1 len c1) (Vz) _ ((hfu.sees (S7.trans (S10.trans (S15.trans (S17.trans sH)))))).fields (fri.sees (S10.trans (S15.trans (S17.trans sH))))) ?_; rintro _ _ W18 S19 ⟨ul,rfl,rfl⟩
 refine go1 24 [.own,.b 0 0,.b 0 0,.b 6 0] [] ?_
 intro b20
 refine vQ 1 (v:=.slice (sA ul) (sN ul) (sC ul)) (e:=67) (kk:=8) (l:=dW S.out) ?_; intro W21 S22 fl
 refine vQ 2 (v:=Vs bcs n c2) (e:=44) (kk:=10) (l:=iK S.calls) ?_; intro W23 S24 fc
 refine vQ 2 (v:=.slice A3 n c3) (e:=42) (kk:=3) (l:=jZ S.vals) ?_; intro W25 S26 fv
 refine hQ.to [.agg #[.slice (some ⟨b11,o12,none⟩) n c',.slice B' m d',Vi E.pol.t,Vi E.pol.b,Vi E.pol.c,.slice A1 len c1,Vs bcs n c2,.slice A3 n c3,Vi E.now,Vi S.last],.slice (sA ul) (sN ul) (sC ul),.bool true,Vi 0] (fun H sH=>?_) (ix:=[3])
 exact (⟨.agg #[.slice _ n c',.slice B' m d',.slice A1 len c1,Vs bcs n c2,.slice A3 n c3,ul],rfl,⟨⟨(hfu.sees (S7.trans (S10.trans (S15.trans (S17.trans (S19.trans (S22.trans (S24.trans (S26.trans sH))))))))),(fri.sees (S10.trans (S15.trans (S17.trans (S19.trans (S22.trans (S24.trans (S26.trans sH)))))))),(fc.sees (S26.trans sH)),(fv.sees sH)⟩,(fl.sees (S24.trans (S26.trans sH)))⟩⟩:HeaR { E with calls:=S.calls,vals:=S.vals,last:=S.last } S.out true _ _)
end Go.Proofs.YtmoahpojchndiaaGreat
namespace Go.Proofs.YtmoahpojchndiaaGreat
open Go.RowKit
set_option linter.unusedVariables false
structure LtOk (fs:List Fd) (x:Lt):Prop where
 at_:∃ (i:Nat) (f:Fd),fs[i]?=some f∧x.nm=f.name∧f.kind=3
 key:x.key.known
 ans:x.ans=zV
theorem known_le {v:Vl} (h:OkV v) (k:v.k≤3):v.known:=by
 rcases h with q | rfl | ⟨q,-⟩
 ·exact q
 ·exact absurd k (by decide)
 ·omega
theorem turn_asks {p:Pol} {id now:Int} {key:Vl} {c:Cl} (h:(fZ p id now key c).2=true):key.k≤3∧(fZ p id now key c).1=⟨1,id,1,key,zV,now + p.b⟩:=by
 by_cases q:key.k≤3
 ·by_cases e:c.st≠0∧eqB c.key key=true
  ·rw [iZ q e.1 e.2] at h; cases h
  ·rw [gZ q e]; exact ⟨q,rfl⟩
 ·rw [hZ q] at h; cases h
theorem wake_asks {p:Pol} {now:Int} {c:Cl} (h:(kZ p now c).2=true):c.st=1∧c.tr≠p.t∧(kZ p now c).1=⟨c.st,c.id,c.tr + 1,c.key,c.has,now + gapV p.b p.c (c.tr + 1)⟩:=by
 by_cases q:c.st≠1∨now < c.nx
 ·rw [mZ q] at h; cases h
 ·by_cases q2:c.tr=p.t
  ·rw [wake_gives q q2] at h; cases h
  ·rw [wake_again q q2]; exact ⟨by omega,q2,rfl⟩
theorem runS_out {fs:List Fd} {p:Pol} {now:Int} {inp:Env} {s0:Sst} {os:List Nat} (hp:p.ok) (hok:OkFs fs) (ki:∀ q∈inp,q.2.known) (n0:0≤now) (n1:now≤1073741824) (h0:CallsOk fs p s0.last s0.calls) (v0:s0.vals.length=fs.length) (k0:s0.kn=[]) (l0:0≤s0.last) (l1:s0.last + os.length≤1073741824) (hlt:∀ i∈os,i < fs.length) :
  ∀ t,t≤os.length→∀ x∈(eY fs p now inp s0 (os.take t)).out,x∈s0.out∨(LtOk fs x∧s0.last < x.id∧x.id≤(eY fs p now inp s0 (os.take t)).last)
 | 0,_=>fun x hx=>.inl hx
 | t + 1,ht=>fun x hx=>by
  have I:=runS_inv hp hok ki n0 n1 h0 v0 k0 l0 l1 hlt t (by omega)
  have ih:=runS_out hp hok ki n0 n1 h0 v0 k0 l0 l1 hlt t (by omega)
  obtain ⟨i,hti⟩:∃ i,os[t]?=some i:=⟨_,List.getElem?_eq_getElem (by omega)⟩
  have hil:=hlt i (List.mem_of_getElem? hti)
  obtain ⟨f,hf⟩:∃ f,fs[i]?=some f:=⟨_,List.getElem?_eq_getElem hil⟩
  have hF:=hok.each f (List.mem_of_getElem? hf)
  rw [runS_at fs p now inp s0 os t i hti] at hx ⊢
  generalize eY fs p now inp s0 (os.take t)=s at *
  have hlo:=I.lo
  obtain ⟨c,hc⟩:∃ c,s.calls[i]?=some c:=⟨_,List.getElem?_eq_getElem (by rw [I.calls.len]; exact hil)⟩
  by_cases h3:f.kind=3
  ·have hkey:=evalE_ok (get_ok I.ok) _ f.src (Nat.le_refl _) (hF.wf (by omega)).1
   rw [tY hf h3 hc rfl rfl] at hx ⊢
   simp only at hx ⊢
   by_cases hr:(fZ p (s.last + 1) now (oK s.kn f.src) c).2=true
   ·obtain ⟨q1,q2⟩:=turn_asks hr
    rw [if_pos hr] at hx ⊢
    rcases List.mem_append.1 hx with hx | hx
    ·rcases ih x hx with q | ⟨a1,a2,a3⟩
     ·exact .inl q
     ·exact .inr ⟨a1,a2,by omega⟩
    ·rw [List.mem_singleton.1 hx,q2]
     exact .inr ⟨⟨⟨i,f,hf,rfl,h3⟩,known_le hkey q1,rfl⟩,by show s0.last < s.last + 1; omega,Int.le_refl _⟩
   ·rw [if_neg hr] at hx ⊢
    exact ih x hx
  ·rw [stepS_one hf h3] at hx ⊢
   exact ih x hx
theorem setE_out {E:Eg} {ρ:List Int} {lv:Nat→Nat} (hok:EgOk E ρ lv):∀ x∈(nY E ρ).out,LtOk E.fm.fields x∧E.last < x.id∧x.id≤(nY E ρ).last:=fun x hx=>by
 have few:=hok.fm.fields.few
 have one:=hok.one
 have hl:=hok.l1
 have hod:Ordd E.fm.fields ρ lv (zW ρ E.fm.fields.length):=aX hok.fm.rank (by omega)
 have h:=runS_out (s0:=⟨E.calls,E.vals,[],E.last,[]⟩) (os:=zW ρ E.fm.fields.length) hok.pol hok.fm.fields hok.ki hok.n0 hok.n1 hok.calls hok.vlen rfl hok.l0 (by rw [hod.len]; show E.last + _≤_; omega) (fun i q=>hod.lt q) _ (Nat.le_refl _) x
 rw [List.take_length] at h
 rcases h hx with q | q
 ·cases q
 ·exact q
theorem setE_few {E:Eg} {ρ:List Int} {lv:Nat→Nat} (hok:EgOk E ρ lv):(nY E ρ).out.length≤14∧(nY E ρ).last≤E.last + 14∧E.last≤(nY E ρ).last:=by
 have R:=setE_run hok
 have few:=hok.fm.fields.few
 have one:=hok.one
 have hod:Ordd E.fm.fields ρ lv (zW ρ E.fm.fields.length):=aX hok.fm.rank (by omega)
 have h1:=R.olen
 have h2:=R.hi
 have h3:=R.lo
 rw [hod.len] at h1 h2
 simp only [List.length_nil] at h1 h2 h3
 exact ⟨by omega,by omega,h3⟩
theorem askT_mem {p:Pol} {now:Int} {x:Lt}:∀ {fs:List Fd} {cs:List Cl},x∈askT p now fs cs→∃ (i:Nat) (f:Fd) (c:Cl),fs[i]?=some f∧cs[i]?=some c∧(kZ p now c).2=true∧x=ltOf f.name (kZ p now c).1
 | [],_,h=>by cases h
 | _ :: _,[],h=>by cases h
 | f :: fs,c :: cs,h=>by
  rcases List.mem_append.1 h with q | q
  ·by_cases hw:(kZ p now c).2=true
   ·rw [if_pos hw] at q
    exact ⟨0,f,c,rfl,rfl,hw,List.mem_singleton.1 q⟩
   ·rw [if_neg hw] at q; cases q
  ·obtain ⟨i,g,d,q1,q2,q3⟩:=askT_mem q
   exact ⟨i + 1,g,d,q1,q2,q3⟩
theorem tickT_ok {E:Eg} {ρ:List Int} {lv:Nat→Nat} (hok:EgOk E ρ lv) {n:Int}:∀ x∈tickT E n,LtOk E.fm.fields x∧x.id≤E.last:=fun x hx=>by
 obtain ⟨i,f,c,hf,hc,hw,rfl⟩:=askT_mem hx
 obtain ⟨w1,w2,w3⟩:=wake_asks hw
 obtain ⟨d1,d2,d3⟩:=hok.calls.at_ i f c hf hc
 obtain ⟨k1,k2⟩:=d2 (by omega)
 rw [w3]
 exact ⟨⟨⟨i,f,hf,rfl,k1⟩,(d1.live (by omega)).key,rfl⟩,k2⟩
inductive MStep (ρ:List Int) (E:Eg) (lt:List Lt):Eg→List Lt→Prop
 | stay:MStep ρ E lt E lt
 | tick (dt:Int):1≤dt→dt≤60→MStep ρ E lt (oY (dZ E dt) ρ) (lt++(tickT E dt++(nY (dZ E dt) ρ).out))
 | tell (nm:ByteArray) (v:Vl):v.known→toldE E.fm.fields nm v.k=0→MStep ρ E lt (oY (tellE E nm v) ρ) (lt++(nY (tellE E nm v) ρ).out)
 | hear (i:Nat) (f:Fd) (x:Lt) (c:Cl):E.fm.fields[i]?=some f→E.calls[i]?=some c→OkV x.ans→Takes f x c→MStep ρ E lt (oY (pV E i x c) ρ) (lt++(nY (pV E i x c) ρ).out)
structure MOk (fm:Fm) (p:Pol) (ρ:List Int) (lv:Nat→Nat) (k:Nat) (E:Eg) (lt:List Lt):Prop where
 ok:EgOk E ρ lv
 se:Settled E ρ
 efm:E.fm=fm
 epol:E.pol=p
 now:E.now≤60 * k
 last:E.last≤14 + 14 * k
 inp:E.inp.length≤k
 len:lt.length≤14 + 28 * k
 ltr:∀ x∈lt,LtOk fm.fields x∧x.id≤E.last
theorem MOk.set {fm:Fm} {p:Pol} {ρ:List Int} {lv:Nat→Nat} {k:Nat} {E E1:Eg} {lt lt1:List Lt} (h:MOk fm p ρ lv k E lt) (hk:k≤90) (h1:EgOk E1 ρ lv) (e1:E1.fm=E.fm) (e2:E1.pol=E.pol) (e3:E1.now≤E.now + 60) (e4:E1.last=E.last) (e5:E1.inp.length≤E.inp.length + 1) (e6:lt1.length≤14) (e7:∀ x∈lt1,LtOk fm.fields x∧x.id≤E.last) :
  MOk fm p ρ lv (k + 1) (oY E1 ρ) (lt++(lt1++(nY E1 ρ).out)):=by
 obtain ⟨q1,q2,q3⟩:=setE_few h1
 have hl:=h.last
 have hn:=h.now
 have hi:=h.inp
 have hlen:=h.len
 refine ⟨settE_ok h1 (by omega),settE_settled h1,e1.trans h.efm,e2.trans h.epol,by show E1.now≤_; omega,by show (nY E1 ρ).last≤_; omega,by show E1.inp.length≤_; omega,by rw [List.length_append,List.length_append]; omega,fun x hx=>?_⟩
 show _∧x.id≤(nY E1 ρ).last
 rcases List.mem_append.1 hx with hx | hx
 ·obtain ⟨a,b⟩:=h.ltr x hx
  exact ⟨a,by omega⟩
 ·rcases List.mem_append.1 hx with hx | hx
  ·obtain ⟨a,b⟩:=e7 x hx
   exact ⟨a,by omega⟩
  ·obtain ⟨a,b,c⟩:=setE_out h1 x hx
   rw [e1,h.efm] at a
   exact ⟨a,c⟩
theorem MOk.step {fm:Fm} {p:Pol} {ρ:List Int} {lv:Nat→Nat} {k:Nat} {E E':Eg} {lt lt':List Lt} (h:MOk fm p ρ lv k E lt) (hk:k≤90) (hs:MStep ρ E lt E' lt'):MOk fm p ρ lv (k + 1) E' lt':=by
 have hl:=h.last
 have hn:=h.now
 have hi:=h.inp
 have hlen:=h.len
 cases hs with
 | stay=>exact ⟨h.ok,h.se,h.efm,h.epol,by omega,by omega,by omega,by omega,h.ltr⟩
 | tick dt d1 d2 =>
  have h1:=tickE_ok h.ok (n:=dt) (by omega) (by omega)
  have few:=h.ok.fm.fields.few
  have ha:=askT_len (p:=E.pol) (now:=E.now + dt) (fs:=E.fm.fields) (cs:=E.calls)
  exact h.set hk h1 rfl rfl (by show E.now + dt≤_; omega) rfl (by show E.inp.length≤_; omega) (by unfold tickT; omega) (by rw [← h.efm]; exact tickT_ok h.ok)
 | tell nm v hv ht =>
  have h1:=tellE_ok h.ok hv ht (by omega)
  have hpl:=putV_len (s:=nm) (v:=v) (l:=E.inp)
  exact h.set (lt1:=[]) hk h1 rfl rfl (by show E.now≤_; omega) rfl hpl (Nat.zero_le _) (fun x hx=>by cases hx)
 | hear i f x c hf hc hx ht =>
  have h1:=hearE_ok h.ok hf hc hx ht
  exact h.set (lt1:=[]) hk h1 rfl rfl (by show E.now≤_; omega) rfl (by show E.inp.length≤_; omega) (Nat.zero_le _) (fun x hx=>by cases hx)
instance (f:Fd) (x:Lt) (c:Cl):Decidable (Takes f x c):=by unfold Takes; infer_instance
end Go.Proofs.YtmoahpojchndiaaGreat
namespace Go.Proofs.YtmoahpojchndiaaGreat
open Go.RowKit
set_option linter.unusedVariables false
def mW (f:Fm) (p:Pol):Eg:=⟨f,p,[],List.replicate f.fields.length clZ,List.replicate f.fields.length zV,0,0⟩
theorem newE_ok {f:Fm} {ρ:List Int} {lv:Nat→Nat} (hok:OkFm f ρ lv) (h1:1≤f.fields.length) {p:Pol} (hp:p.ok):EgOk (mW f p) ρ lv:=by
 refine ⟨hok,h1,hp,fun q hq=>(by cases hq),fun q hq=>(by cases hq),List.Pairwise.nil,Nat.zero_le _,⟨List.length_replicate,fun i g c hg hc=>?_⟩,List.length_replicate,Int.le_refl 0,by show (0:Int)≤_; decide,Int.le_refl 0,by show (0:Int)≤_; decide⟩
 obtain rfl:=(List.mem_replicate.1 (List.mem_of_getElem? hc)).2
 exact ⟨.inl rfl,fun q=>absurd rfl q,fun q=>absurd (show (0:Int)=2 from q) (by decide)⟩
theorem newE_last {f:Fm} {ρ:List Int} {lv:Nat→Nat} (hok:OkFm f ρ lv) (h1:1≤f.fields.length) {p:Pol} (hp:p.ok):0≤(nY (mW f p) ρ).last∧(nY (mW f p) ρ).last≤14:=by
 have R:=setE_run (newE_ok hok h1 hp)
 have few:=hok.fields.few
 have hod:Ordd f.fields ρ lv (zW ρ f.fields.length):=aX hok.rank (by omega)
 have h1:=R.lo
 have h2:=R.hi
 have h3:(zW ρ (mW f p).fm.fields.length).length=f.fields.length:=hod.len
 rw [h3] at h2
 have h4:(mW f p).last=0:=rfl
 simp only [h4] at h1 h2
 omega
def FormU (h:Vw) (u:Value) (f:Fm):Prop:=IsForm h (.slice (sA (agJ 0 u)) (sN (agJ 0 u)) (sC (agJ 0 u))) (.slice (sA (agJ 1 u)) (sN (agJ 1 u)) (sC (agJ 1 u))) f
theorem FormU.sees {h h':Vw} {u:Value} {f:Fm} (k:FormU h u f) (s:Sees h h'):FormU h' u f:=IsForm.sees k s
theorem rep_cl (n:Nat):List.replicate n [.int .i64 0,.int .i64 0,.int .i64 0,.int .i64 0,.int .i64 0,.string ⟨#[]⟩,.int .i64 0,.int .i64 0,.string ⟨#[]⟩,.int .i64 0]=iK (List.replicate n clZ):=by unfold iK; rw [List.map_replicate]; rfl
theorem rep_vl (n:Nat):List.replicate n [.int .i64 0,.int .i64 0,.string ⟨#[]⟩]=jZ (List.replicate n zV):=by unfold jZ; rw [List.map_replicate]; rfl
set_option maxHeartbeats 2000000 in
theorem new_any (f:Fm) (ρ:List Int) (lv:Nat→Nat) (hok:OkFm f ρ lv) (h1:1≤f.fields.length) (p:Pol) (hp:p.ok) (fv pv:Value) (h:Vw) (hf:IsForm h fv pv f) :
  C0 Tryz.prog 44 #[.agg #[fv,pv],.agg #[.int .i64 p.t,.int .i64 p.b,.int .i64 p.c]] h (fun r h'=>TelR (oY (mW f p) ρ) (nY (mW f p) ρ).out r h'):=by
 have few:=hok.fields.few
 have hgc:=c_gapChk p hp
 have hnl:=(newE_last hok h1 hp).2
 have hok':=newE_ok hok h1 hp
 have hdn:=fun b n hn A A2 A3 c c2 c3 gv iv lw0 H q1 q2=>settle_eg (mW f p) ρ lv hok' b n hn A A2 A3 c c2 c3 gv iv lw0 H q1 q2 (by omega)
 have hS:=fun fv pv H q=>shCopy_any f ρ lv hok fv pv H q
 obtain ⟨vs,A,c,rfl,-,-,-,-,-,-⟩:=dQ hf.fields
 obtain ⟨us,ws,B,d,rfl,-,-,-,-,-,-⟩:=iX hf.pages
 have hsc:=fun H q=>shCheck_any f ρ lv A f.fields.length c B f.pages.length d H hok q rfl
 obtain ⟨S,hS'⟩:∃ S,nY (mW f p) ρ=S:=⟨_,rfl⟩
 have hres:oY (mW f p) ρ={ mW f p with calls:=S.calls,vals:=S.vals,last:=S.last }:=by unfold oY; rw [hS']
 rw [hS'] at hdn
 have hcl:List.replicate f.fields.length [.int .i64 0,.int .i64 0,.int .i64 0,.int .i64 0,.int .i64 0,.string ⟨#[]⟩,.int .i64 0,.int .i64 0,.string ⟨#[]⟩,.int .i64 0]=iK (mW f p).calls:=rep_cl f.fields.length
 have hvl:List.replicate f.fields.length [.int .i64 0,.int .i64 0,.string ⟨#[]⟩]=jZ (mW f p).vals:=rep_vl f.fields.length
 generalize hn:f.fields.length=n at *
 generalize hm:f.pages.length=m at *
 refine qQ Tryz.func44 (c:=Tryz.f44.body.getD .skip) (N:=41) ?_
 intro hbx hbad Q hQ
 refine go3 52 [.own,.own,.own,.b 2 0,.cl 83 #[.agg #[.slice A n c,.slice B m d]] (Vi 0),.b 1 0,.cl 84 #[.agg #[Vi p.t,Vi p.b,Vi p.c]] (Vi 0),.b 2 0] [] ?_ (ho:=(And.intro (fun H sH=>hsc _ (hf.sees sH)) (And.intro (fun H sH=>hgc _) (trivial))))
 intro b1 b2 b3
 refine fV 11 3 [.ld 5 0,.f (fun gh=>.agg #[.slice (sA (agJ 0 (gh 1))) (sN (agJ 0 (gh 1))) (sC (agJ 0 (gh 1))),.slice (sA (agJ 1 (gh 1))) (sN (agJ 1 (gh 1))) (sC (agJ 1 (gh 1)))]) (fun gh hh=>FormU hh (gh 1) f),.ld 4 0,.pu,.e (fun gh=>.slice (some ⟨(wJ (gh 4)),0,none⟩) n n) 0 (fun gh=>.row (.slice (some ⟨(wJ (gh 4)),0,none⟩) n n) 44 10 (List.replicate n [Vi 0,Vi 0,Vi 0,Vi 0,Vi 0,Ve,Vi 0,Vi 0,Ve,Vi 0])),.pu,.e (fun gh=>.slice (some ⟨(wJ (gh 6)),0,none⟩) n n) 1 (fun gh=>.row (.slice (some ⟨(wJ (gh 6)),0,none⟩) n n) 42 3 (List.replicate n [Vi 0,Vi 0,Ve])),.pu,.pu,.al 2,.pu] [(1,false),(4,true),(6,true),(9,true)] (And.intro (fun _ _ _ s c=>c.sees s) (trivial)) ?_ ?_
 ·intro R hT hA hmono
  refine And.intro (pX hT hA hmono ⟨fun _ _=>by kernel_rfl,fun _ _=>by kernel_rfl,fun _ _=>by kernel_rfl⟩ 27 (fun u=>.agg #[.slice (sA (agJ 0 u)) (sN (agJ 0 u)) (sC (agJ 0 u)),.slice (sA (agJ 1 u)) (sN (agJ 1 u)) (sC (agJ 1 u))]) [0] 1 49 (fun gh=>#[.agg #[.slice A n c,.slice B m d]]) (fun gh H sH fH lent=>C0.facts (R:=R) (x:=gh) (i:=1) (n:=0) (F:=(fun u=>.agg #[.slice (sA (agJ 0 u)) (sN (agJ 0 u)) (sC (agJ 0 u)),.slice (sA (agJ 1 u)) (sN (agJ 1 u)) (sC (agJ 1 u))])) (G:=fun u hh=>FormU hh u f) (f:=fun gh hh=>FormU hh (gh 1) f) (hS _ _ _ (hf.sees sH)) (by kernel_rfl) (by kernel_rfl) (fun _ _ r=>r))) ?_
  refine And.intro (r_make hT hA hmono ⟨fun _ _=>by kernel_rfl,fun _ _=>by kernel_rfl,fun _ _=>by kernel_rfl⟩ (by kernel_rfl) 30 [3] 4 n (by kernel_rfl) (fun _=>by kernel_rfl) 0 (GN R 0) (by kernel_rfl) (by kernel_rfl) (by kernel_rfl) (t:=31) (te:=44) (z:=.agg #[Vi 0,Vi 0,Vi 0,Vi 0,Vi 0,Ve,Vi 0,Vi 0,Ve,Vi 0]) (cs:=[Vi 0,Vi 0,Vi 0,Vi 0,Vi 0,Ve,Vi 0,Vi 0,Ve,Vi 0]) (y:=(.tmp 29)) (by_:=96) (kk:=10) (fun _=>by kernel_rfl) (fun _=>by kernel_rfl) (by kernel_rfl) (fun _=>by kernel_rfl) Tryz.underlying31 (by kernel_rfl) rfl rfl (by decide) (by omega) (by omega) (by simp only [maxLen]; omega)) ?_
  refine And.intro (r_make hT hA hmono ⟨fun _ _=>by kernel_rfl,fun _ _=>by kernel_rfl,fun _ _=>by kernel_rfl⟩ (by kernel_rfl) 32 [5] 6 n (by kernel_rfl) (fun _=>by kernel_rfl) 1 (GN R 1) (by kernel_rfl) (by kernel_rfl) (by kernel_rfl) (t:=32) (te:=42) (z:=.agg #[Vi 0,Vi 0,Ve]) (cs:=[Vi 0,Vi 0,Ve]) (y:=(.tmp 31)) (by_:=32) (kk:=3) (fun _=>by kernel_rfl) (fun _=>by kernel_rfl) (by kernel_rfl) (fun _=>by kernel_rfl) Tryz.underlying32 (by kernel_rfl) rfl rfl (by decide) (by omega) (by omega) (by simp only [maxLen]; omega)) ?_
  trivial
 rintro u27 bcq bvq bm W4 S5 ⟨f27,-⟩
 replace f27:FormU W4 u27 f:=f27
 refine go0 4 [] [] ?_
 obtain ⟨-,A6,c6,e6,-,-,-,-,-,-⟩:=dQ f27.fields
 rw [hn] at e6
 refine wQ [(4,Vp b3),(36,Vp bm)] [.row (Vs bcq n n) 44 10 (List.replicate n [Vi 0,Vi 0,Vi 0,Vi 0,Vi 0,Ve,Vi 0,Vi 0,Ve,Vi 0]),.row (Vs bvq n n) 42 3 (List.replicate n [Vi 0,Vi 0,Ve]),.box bm [.slice (sA (agJ 0 u27)) (sN (agJ 0 u27)) (sC (agJ 0 u27)),.slice (sA (agJ 1 u27)) (sN (agJ 1 u27)) (sC (agJ 1 u27)),Vi p.t,Vi p.b,Vi p.c,Vz,Vs bcq n n,Vs bvq n n,Vi 0,Vi 0,Vz],.box b3 [Vz,Vz,Vi 0,Vi 0,Vi 0,Vz,Vz,Vz,Vi 0,Vi 0],.box b2 [Vi p.t,Vi p.b,Vi p.c],.box b1 [.slice A n c,.slice B m d]] [] ?_
 rw [e6,hcl,hvl]
 have f28:=f27.fields
 rw [e6] at f28
 refine g_front 2 ?_
 refine cV 67 8 ?_
 refine g_callE (Bi:=[.row (Vz) 67 8 ([]),.box bm [.slice A6 n c6,.slice (sA (agJ 1 u27)) (sN (agJ 1 u27)) (sC (agJ 1 u27)),Vi p.t,Vi p.b,Vi p.c,Vz,Vs bcq n n,Vs bvq n n,Vi 0,Vi 0,Vz],.row (Vs bcq n n) 44 10 (iK (mW f p).calls),.row (Vs bvq n n) 42 3 (jZ (mW f p).vals)]) [0,1,2,3] (fun H sH=>hdn bm n hn A6 (some ⟨bcq,0,none⟩) (some ⟨bvq,0,none⟩) c6 n n (agJ 1 u27) (Vz) (Vz) _ (f28.sees sH) (RS.nil _ 7)) ?_; rintro _ _ W6 S7 ⟨ul,rfl,rfl⟩
 refine go0 9 [.b 4 0] [] ?_
 refine vQ 0 (v:=.slice (sA ul) (sN ul) (sC ul)) (e:=67) (kk:=8) (l:=dW S.out) ?_; intro W8 S9 fl
 refine vQ 1 (v:=Vs bcq n n) (e:=44) (kk:=10) (l:=iK S.calls) ?_; intro W10 S11 fc
 refine vQ 1 (v:=Vs bvq n n) (e:=42) (kk:=3) (l:=jZ S.vals) ?_; intro W12 S13 fv
 refine hQ.to [.agg #[.slice A6 n c6,.slice (sA (agJ 1 u27)) (sN (agJ 1 u27)) (sC (agJ 1 u27)),Vi p.t,Vi p.b,Vi p.c,Vz,Vs bcq n n,Vs bvq n n,Vi 0,Vi S.last],.slice (sA ul) (sN ul) (sC ul),Vi 0] (fun H sH=>?_) (ix:=[1])
 exact (by rw [hres,hS']; exact ⟨.agg #[.slice A6 n c6,agJ 1 u27,Vz,Vs bcq n n,Vs bvq n n,ul],rfl,⟨⟨⟨(f28.sees (S7.trans (S9.trans (S11.trans (S13.trans sH))))),IsForm.pages (f27.sees (S7.trans (S9.trans (S11.trans (S13.trans sH)))))⟩,RS.nil _ 7,(fc.sees (S13.trans sH)),(fv.sees sH)⟩,(fl.sees (S11.trans (S13.trans sH)))⟩⟩:TelR (oY (mW f p) ρ) (nY (mW f p) ρ).out _ _)
end Go.Proofs.YtmoahpojchndiaaGreat
namespace Go.Proofs.YtmoahpojchndiaaGreat
open Go.RowKit
set_option linter.unusedVariables false
theorem small_ord:zW [1,0,2] 3=[1,0,2]:=by
 obtain ⟨hp,hr⟩:=ordL_spec [1,0,2] 3 (by decide)
 generalize zW [1,0,2] 3=os at *
 have hl:os.length=3:=hp.length_eq
 obtain ⟨a,b,c,rfl⟩:∃ a b c,os=[a,b,c]:=by
  match os,hl with
  | [a,b,c],_=>exact ⟨a,b,c,rfl⟩
 have h1:=hr 0 1 a b (by decide) rfl rfl
 have h2:=hr 1 2 b c (by decide) rfl rfl
 have hn:=hp.nodup_iff.2 List.nodup_range
 have ha:=List.mem_range.1 (hp.mem_iff.1 (show a∈[a,b,c] by simp))
 have hb:=List.mem_range.1 (hp.mem_iff.1 (show b∈[a,b,c] by simp))
 have hc:=List.mem_range.1 (hp.mem_iff.1 (show c∈[a,b,c] by simp))
 simp only [List.nodup_cons,List.mem_cons,List.not_mem_nil,or_false,not_or] at hn
 rcases (by omega:a=0∨a=1∨a=2) with rfl | rfl | rfl <;> rcases (by omega:b=0∨b=1∨b=2) with rfl | rfl | rfl <;> rcases (by omega:c=0∨c=1∨c=2) with rfl | rfl | rfl <;> first | rfl | omega | (exfalso; revert h1 h2; decide)
theorem small_set (p:Pol):∃ y z,nY (mW smallF p) [1,0,2]=⟨y,[⟨1,1,⟨#[]⟩⟩,⟨1,0,⟨#[]⟩⟩,pdV],z,1,[⟨⟨#[99]⟩,1,⟨1,1,⟨#[]⟩⟩,zV⟩]⟩:=by
 refine ⟨[clZ,clZ,⟨1,1,1,⟨1,1,⟨#[]⟩⟩,zV,0 + p.b⟩],[(⟨#[97]⟩,⟨1,0,⟨#[]⟩⟩),(⟨#[98]⟩,⟨1,1,⟨#[]⟩⟩),(⟨#[99]⟩,pdV)],?_⟩
 unfold nY
 show eY _ _ _ _ _ (zW [1,0,2] 3)=_
 rw [small_ord]
 kernel_rfl
def polE (a b c:Int):Pol:=⟨1 + cJ a 6,1 + cJ b 50,1 + cJ b 50 + cJ c 200⟩
theorem polE_ok (a b c:Int):(polE a b c).ok:=by
 have h1:=nX a 6 (by decide)
 have h2:=nX b 50 (by decide)
 have h3:=nX c 200 (by decide)
 exact ⟨by show 1≤1 + cJ a 6; omega,by show 1 + cJ a 6≤6; omega,by show 1≤1 + cJ b 50; omega,by show 1 + cJ b 50≤1 + cJ b 50 + cJ c 200; omega,by show 1 + cJ b 50 + cJ c 200≤1000; omega⟩
theorem c_policy (a b c:Int) (h:Vw) (a0 : -9223372036854775808≤a) (a1:a≤9223372036854775807) (b0 : -9223372036854775808≤b) (b1:b≤9223372036854775807) (c0 : -9223372036854775808≤c) (c1:c≤9223372036854775807) :
  C0 Tryz.prog 13 #[.int .i64 a,.int .i64 b,.int .i64 c] h (fun r _=>r=(polE a b c).val):=by
 have h1:=nX a 6 (by decide)
 have h2:=nX b 50 (by decide)
 have h3:=nX c 200 (by decide)
 have e1:=fun H=>aK a 6 H a0 a1 (by decide) (by decide)
 have e2:=fun H=>aK b 50 H b0 b1 (by decide) (by decide)
 have e3:=fun H=>aK c 200 H c0 c1 (by decide) (by decide)
 have hr:(polE a b c).val=.agg #[.int .i64 (1 + cJ a 6),.int .i64 (1 + cJ b 50),.int .i64 (1 + cJ b 50 + cJ c 200)]:=rfl
 generalize cJ a 6=x at *
 generalize cJ b 50=y at *
 generalize cJ c 200=z at *
 refine qQ Tryz.func13 (c:=Tryz.f13.body.getD .skip) (N:=20) ?_
 intro hbx hbad Q hQ
 refine go1 28 [.own,.cl 19 #[Vi b,Vi 50] (Vi y),.cl 19 #[Vi a,Vi 6] (Vi x),.cl 19 #[Vi c,Vi 200] (Vi z),.b 0 0] [(10,Vi (IntKind.i64.wrap (1 + y)),Vi (1 + y)),(13,Vi (IntKind.i64.wrap (1 + x)),Vi (1 + x)),(18,Vi (IntKind.i64.wrap (1 + y + z)),Vi (1 + y + z))] ?_ (ho:=(And.intro (fun H sH=>e2 _) (And.intro (fun H sH=>e1 _) (And.intro (fun H sH=>e3 _) (trivial))))) (hc:=(And.intro (jJ (by omega) (by omega)) (And.intro (jJ (by omega) (by omega)) (And.intro (jJ (by omega) (by omega)) (trivial)))))
 intro b1
 refine hQ.to [.agg #[Vi (1 + x),Vi (1 + y),Vi (1 + y + z)]] (fun H sH=>?_) (ix:=[0])
 exact hr.symm
def begE (l:List RawD) (p:Pol):Eg:=oY (mW (kQ l) p) (rhoL (lW (kQ l).fields))
def begL (l:List RawD) (p:Pol):List Lt:=(nY (mW (kQ l) p) (rhoL (lW (kQ l).fields))).out
theorem form_one (l:List RawD):1≤(kQ l).fields.length:=by have:=form_len l; have:=nFields_le l; omega
theorem begE_ok (l:List RawD) {p:Pol} (hp:p.ok):EgOk (begE l p) (rhoL (lW (kQ l).fields)) (lvF l):=settE_ok (newE_ok (form_okFm l) (form_one l) hp) (by have:=(newE_last (form_okFm l) (form_one l) hp).2; omega)
theorem begE_settled (l:List RawD) {p:Pol} (hp:p.ok):Settled (begE l p) (rhoL (lW (kQ l).fields)):=settE_settled (newE_ok (form_okFm l) (form_one l) hp)
set_option maxHeartbeats 2000000 in
theorem begun_any (l:List RawD) (sl:Value) (p:Pol) (hp:p.ok) (h:Vw) (hl:RS h 4 sl (l.map RawD.cs)) (ll:l.length * 40≤reachBytes) (ol:∀ r∈l,r.ok) :
  C0 Tryz.prog 14 #[sl,.agg #[.int .i64 p.t,.int .i64 p.b,.int .i64 p.c]] h (fun r h'=>∃ u,r=.tuple #[.agg #[.slice (sA (agJ 0 u)) (sN (agJ 0 u)) (sC (agJ 0 u)),.slice (sA (agJ 1 u)) (sN (agJ 1 u)) (sC (agJ 1 u)),.int .i64 ((begE l p).pol).t,.int .i64 ((begE l p).pol).b,.int .i64 ((begE l p).pol).c,.slice (sA (agJ 2 u)) (sN (agJ 2 u)) (sC (agJ 2 u)),.slice (sA (agJ 3 u)) (sN (agJ 3 u)) (sC (agJ 3 u)),.slice (sA (agJ 4 u)) (sN (agJ 4 u)) (sC (agJ 4 u)),.int .i64 (begE l p).now,.int .i64 (begE l p).last],.slice (sA (agJ 5 u)) (sN (agJ 5 u)) (sC (agJ 5 u)),.bool true]∧TelF h' u (begE l p) (begL l p)):=by
 have hFm:∀ H,RS H 4 sl (l.map RawD.cs)→C0 Tryz.prog 33 #[sl] H (fun r h'=>∃ u,r=.agg #[.slice (sA (agJ 0 u)) (sN (agJ 0 u)) (sC (agJ 0 u)),.slice (sA (agJ 1 u)) (sN (agJ 1 u)) (sC (agJ 1 u))]∧FormU h' u (kQ l)):=fun H q=>(form_any l sl H q ll ol).mono fun v h' _=>by
  rintro ⟨u1,u2,rfl,hf⟩
  exact ⟨.agg #[u1,u2],rfl,hf⟩
 have hSm:∀ H,C0 Tryz.prog 45 #[] H (fun r h'=>∃ u,r=.agg #[.slice (sA (agJ 0 u)) (sN (agJ 0 u)) (sC (agJ 0 u)),.slice (sA (agJ 1 u)) (sN (agJ 1 u)) (sC (agJ 1 u))]∧FormU h' u smallF):=fun H=>(small_any H).mono fun v h' _=>by
  rintro ⟨A,c,B,d,rfl,hf⟩
  exact ⟨.agg #[.slice A 3 c,.slice B 2 d],rfl,hf⟩
 have hN1:=fun fv pv H q=>new_any (kQ l) _ _ (form_okFm l) (form_one l) p hp fv pv H q
 have hN2:=fun fv pv H q=>new_any smallF _ _ ⟨small_ok,small_okG,small_ranked⟩ (by decide) p hp fv pv H q
 obtain ⟨y,z,hs⟩:=small_set p
 obtain ⟨E1,hE1⟩:∃ E1,begE l p=E1:=⟨_,rfl⟩
 obtain ⟨lt,hlt⟩:∃ lt,begL l p=lt:=⟨_,rfl⟩
 have hN1:∀ fv pv H,IsForm H fv pv (kQ l)→C0 Tryz.prog 44 #[.agg #[fv,pv],.agg #[.int .i64 p.t,.int .i64 p.b,.int .i64 p.c]] H (fun r h'=>TelR (begE l p) (begL l p) r h'):=hN1
 rw [hE1,hlt] at hN1 ⊢
 obtain ⟨E2,hE2⟩:∃ E2,oY (mW smallF p) [1,0,2]=E2:=⟨_,rfl⟩
 rw [hE2,hs] at hN2
 have hv2:E2.vals=[⟨1,1,⟨#[]⟩⟩,⟨1,0,⟨#[]⟩⟩,pdV]:=by rw [← hE2]; show (nY (mW smallF p) [1,0,2]).vals=_; rw [hs]
 clear hE1 hlt hE2 hs
 obtain ⟨A0,c0,rfl,-,-,-⟩:=hl.form
 rw [List.length_map] at *
 generalize l.length=len at *
 refine qQ Tryz.func14 (c:=Tryz.f14.body.getD .skip) (N:=57) ?_
 intro hbx hbad Q hQ
 refine go2 9 [.own,.own] [] ?_
 intro b1 b2
 refine fV 12 1 [.pu,.f (fun gh=>.agg #[.slice (sA (agJ 0 (gh 1))) (sN (agJ 0 (gh 1))) (sC (agJ 0 (gh 1))),.slice (sA (agJ 1 (gh 1))) (sN (agJ 1 (gh 1))) (sC (agJ 1 (gh 1)))]) (fun gh hh=>FormU hh (gh 1) (kQ l)),.ld 2 0,.f (fun gh=>.tuple #[.agg #[.slice (sA (agJ 0 (gh 3))) (sN (agJ 0 (gh 3))) (sC (agJ 0 (gh 3))),.slice (sA (agJ 1 (gh 3))) (sN (agJ 1 (gh 3))) (sC (agJ 1 (gh 3))),Vi E1.pol.t,Vi E1.pol.b,Vi E1.pol.c,.slice (sA (agJ 2 (gh 3))) (sN (agJ 2 (gh 3))) (sC (agJ 2 (gh 3))),.slice (sA (agJ 3 (gh 3))) (sN (agJ 3 (gh 3))) (sC (agJ 3 (gh 3))),.slice (sA (agJ 4 (gh 3))) (sN (agJ 4 (gh 3))) (sC (agJ 4 (gh 3))),Vi E1.now,Vi E1.last],.slice (sA (agJ 5 (gh 3))) (sN (agJ 5 (gh 3))) (sC (agJ 5 (gh 3))),Vi 0]) (fun gh hh=>TelF hh (gh 3) E1 lt),.pu,.pu,.pu,.pu,.al 0,.st 0 0,.pu,.pu] [(1,false),(3,false),(8,true)] (And.intro (fun _ _ _ s c=>c.sees s) (And.intro (fun _ _ _ s c=>c.sees s) (trivial))) ?_ ?_
 ·intro R hT hA hmono
  refine And.intro (pX hT hA hmono ⟨fun _ _=>by kernel_rfl,fun _ _=>by kernel_rfl,fun _ _=>by kernel_rfl⟩ 15 (fun u=>.agg #[.slice (sA (agJ 0 u)) (sN (agJ 0 u)) (sC (agJ 0 u)),.slice (sA (agJ 1 u)) (sN (agJ 1 u)) (sC (agJ 1 u))]) [0] 1 33 (fun gh=>#[.slice A0 len c0]) (fun gh H sH fH lent=>C0.facts (R:=R) (x:=gh) (i:=1) (n:=0) (F:=(fun u=>.agg #[.slice (sA (agJ 0 u)) (sN (agJ 0 u)) (sC (agJ 0 u)),.slice (sA (agJ 1 u)) (sN (agJ 1 u)) (sC (agJ 1 u))])) (G:=fun u hh=>FormU hh u (kQ l)) (f:=fun gh hh=>FormU hh (gh 1) (kQ l)) (hFm _ (hl.sees sH)) (by kernel_rfl) (by kernel_rfl) (fun _ _ r=>r))) ?_
  refine And.intro (pX hT hA hmono ⟨fun _ _=>by kernel_rfl,fun _ _=>by kernel_rfl,fun _ _=>by kernel_rfl⟩ 17 (fun u=>.tuple #[.agg #[.slice (sA (agJ 0 u)) (sN (agJ 0 u)) (sC (agJ 0 u)),.slice (sA (agJ 1 u)) (sN (agJ 1 u)) (sC (agJ 1 u)),Vi E1.pol.t,Vi E1.pol.b,Vi E1.pol.c,.slice (sA (agJ 2 u)) (sN (agJ 2 u)) (sC (agJ 2 u)),.slice (sA (agJ 3 u)) (sN (agJ 3 u)) (sC (agJ 3 u)),.slice (sA (agJ 4 u)) (sN (agJ 4 u)) (sC (agJ 4 u)),Vi E1.now,Vi E1.last],.slice (sA (agJ 5 u)) (sN (agJ 5 u)) (sC (agJ 5 u)),Vi 0]) [1,2] 3 44 (fun gh=>#[.agg #[.slice (sA (agJ 0 (gh 1))) (sN (agJ 0 (gh 1))) (sC (agJ 0 (gh 1))),.slice (sA (agJ 1 (gh 1))) (sN (agJ 1 (gh 1))) (sC (agJ 1 (gh 1)))],.agg #[Vi p.t,Vi p.b,Vi p.c]]) (fun gh H sH fH lent=>C0.facts (R:=R) (x:=gh) (i:=3) (n:=1) (F:=(fun u=>.tuple #[.agg #[.slice (sA (agJ 0 u)) (sN (agJ 0 u)) (sC (agJ 0 u)),.slice (sA (agJ 1 u)) (sN (agJ 1 u)) (sC (agJ 1 u)),Vi E1.pol.t,Vi E1.pol.b,Vi E1.pol.c,.slice (sA (agJ 2 u)) (sN (agJ 2 u)) (sC (agJ 2 u)),.slice (sA (agJ 3 u)) (sN (agJ 3 u)) (sC (agJ 3 u)),.slice (sA (agJ 4 u)) (sN (agJ 4 u)) (sC (agJ 4 u)),Vi E1.now,Vi E1.last],.slice (sA (agJ 5 u)) (sN (agJ 5 u)) (sC (agJ 5 u)),Vi 0])) (G:=fun u hh=>TelF hh u E1 lt) (f:=fun gh hh=>TelF hh (gh 3) E1 lt) (hN1 _ _ _ (fH 0 _ rfl (by kernel_rfl))) (by kernel_rfl) (by kernel_rfl) (fun _ _ r=>r))) ?_
  trivial
 rintro u15 u17 b3 W4 S5 ⟨f15,f17,-⟩
 replace f15:FormU W4 u15 (kQ l):=f15
 replace f17:TelF W4 u17 E1 lt:=f17
 refine go0 2 [] [] ?_
 refine fV 11 1 [.f (fun gh=>.agg #[.slice (sA (agJ 0 (gh 0))) (sN (agJ 0 (gh 0))) (sC (agJ 0 (gh 0))),.slice (sA (agJ 1 (gh 0))) (sN (agJ 1 (gh 0))) (sC (agJ 1 (gh 0)))]) (fun gh hh=>FormU hh (gh 0) smallF),.ld 3 0,.f (fun gh=>.tuple #[.agg #[.slice (sA (agJ 0 (gh 2))) (sN (agJ 0 (gh 2))) (sC (agJ 0 (gh 2))),.slice (sA (agJ 1 (gh 2))) (sN (agJ 1 (gh 2))) (sC (agJ 1 (gh 2))),Vi E2.pol.t,Vi E2.pol.b,Vi E2.pol.c,.slice (sA (agJ 2 (gh 2))) (sN (agJ 2 (gh 2))) (sC (agJ 2 (gh 2))),.slice (sA (agJ 3 (gh 2))) (sN (agJ 3 (gh 2))) (sC (agJ 3 (gh 2))),.slice (sA (agJ 4 (gh 2))) (sN (agJ 4 (gh 2))) (sC (agJ 4 (gh 2))),Vi E2.now,Vi E2.last],.slice (sA (agJ 5 (gh 2))) (sN (agJ 5 (gh 2))) (sC (agJ 5 (gh 2))),Vi 0]) (fun gh hh=>TelF hh (gh 2) E2 [⟨⟨#[99]⟩,1,⟨1,1,⟨#[]⟩⟩,zV⟩]),.pu,.pu,.pu,.pu,.al 0,.st 0 0,.pu,.pu] [(0,false),(2,false),(7,true)] (And.intro (fun _ _ _ s c=>c.sees s) (And.intro (fun _ _ _ s c=>c.sees s) (trivial))) ?_ ?_
 ·intro R hT hA hmono
  refine And.intro (pX hT hA hmono ⟨fun _ _=>by kernel_rfl,fun _ _=>by kernel_rfl,fun _ _=>by kernel_rfl⟩ 22 (fun u=>.agg #[.slice (sA (agJ 0 u)) (sN (agJ 0 u)) (sC (agJ 0 u)),.slice (sA (agJ 1 u)) (sN (agJ 1 u)) (sC (agJ 1 u))]) [] 0 45 (fun gh=>#[]) (fun gh H sH fH lent=>C0.facts (R:=R) (x:=gh) (i:=0) (n:=0) (F:=(fun u=>.agg #[.slice (sA (agJ 0 u)) (sN (agJ 0 u)) (sC (agJ 0 u)),.slice (sA (agJ 1 u)) (sN (agJ 1 u)) (sC (agJ 1 u))])) (G:=fun u hh=>FormU hh u smallF) (f:=fun gh hh=>FormU hh (gh 0) smallF) (hSm _) (by kernel_rfl) (by kernel_rfl) (fun _ _ r=>r))) ?_
  refine And.intro (pX hT hA hmono ⟨fun _ _=>by kernel_rfl,fun _ _=>by kernel_rfl,fun _ _=>by kernel_rfl⟩ 24 (fun u=>.tuple #[.agg #[.slice (sA (agJ 0 u)) (sN (agJ 0 u)) (sC (agJ 0 u)),.slice (sA (agJ 1 u)) (sN (agJ 1 u)) (sC (agJ 1 u)),Vi E2.pol.t,Vi E2.pol.b,Vi E2.pol.c,.slice (sA (agJ 2 u)) (sN (agJ 2 u)) (sC (agJ 2 u)),.slice (sA (agJ 3 u)) (sN (agJ 3 u)) (sC (agJ 3 u)),.slice (sA (agJ 4 u)) (sN (agJ 4 u)) (sC (agJ 4 u)),Vi E2.now,Vi E2.last],.slice (sA (agJ 5 u)) (sN (agJ 5 u)) (sC (agJ 5 u)),Vi 0]) [0,1] 2 44 (fun gh=>#[.agg #[.slice (sA (agJ 0 (gh 0))) (sN (agJ 0 (gh 0))) (sC (agJ 0 (gh 0))),.slice (sA (agJ 1 (gh 0))) (sN (agJ 1 (gh 0))) (sC (agJ 1 (gh 0)))],.agg #[Vi p.t,Vi p.b,Vi p.c]]) (fun gh H sH fH lent=>C0.facts (R:=R) (x:=gh) (i:=2) (n:=1) (F:=(fun u=>.tuple #[.agg #[.slice (sA (agJ 0 u)) (sN (agJ 0 u)) (sC (agJ 0 u)),.slice (sA (agJ 1 u)) (sN (agJ 1 u)) (sC (agJ 1 u)),Vi E2.pol.t,Vi E2.pol.b,Vi E2.pol.c,.slice (sA (agJ 2 u)) (sN (agJ 2 u)) (sC (agJ 2 u)),.slice (sA (agJ 3 u)) (sN (agJ 3 u)) (sC (agJ 3 u)),.slice (sA (agJ 4 u)) (sN (agJ 4 u)) (sC (agJ 4 u)),Vi E2.now,Vi E2.last],.slice (sA (agJ 5 u)) (sN (agJ 5 u)) (sC (agJ 5 u)),Vi 0])) (G:=fun u hh=>TelF hh u E2 [⟨⟨#[99]⟩,1,⟨1,1,⟨#[]⟩⟩,zV⟩]) (f:=fun gh hh=>TelF hh (gh 2) E2 [⟨⟨#[99]⟩,1,⟨1,1,⟨#[]⟩⟩,zV⟩]) (hN2 _ _ _ (fH 0 _ rfl (by kernel_rfl))) (by kernel_rfl) (by kernel_rfl) (fun _ _ r=>r))) ?_
  trivial
 rintro u22 u24 b6 W7 S8 ⟨f22,f24,-⟩
 replace f22:FormU W7 u22 smallF:=f22
 replace f24:TelF W7 u24 E2 [⟨⟨#[99]⟩,1,⟨1,1,⟨#[]⟩⟩,zV⟩]:=f24
 refine go0 2 [] [] ?_
 obtain ⟨A5,c5,e5,-⟩:=f24.out.form
 obtain ⟨A4,c4,e4,-⟩:=f24.eng.vals.form
 have f25:=f24.out
 have f26:=f24.eng.vals
 rw [e5] at f25
 rw [e4] at f26
 rw [hv2] at e4 f26
 refine wQ [(4,Vp b2),(7,Vp b3),(8,.slice (sA (agJ 5 u17)) (sN (agJ 5 u17)) (sC (agJ 5 u17))),(9,Vi 0),(10,Vp b6),(11,.slice (sA (agJ 5 u24)) (sN (agJ 5 u24)) (sC (agJ 5 u24))),(12,Vi 0)] [.box b6 [.slice (sA (agJ 0 u24)) (sN (agJ 0 u24)) (sC (agJ 0 u24)),.slice (sA (agJ 1 u24)) (sN (agJ 1 u24)) (sC (agJ 1 u24)),Vi E2.pol.t,Vi E2.pol.b,Vi E2.pol.c,.slice (sA (agJ 2 u24)) (sN (agJ 2 u24)) (sC (agJ 2 u24)),.slice (sA (agJ 3 u24)) (sN (agJ 3 u24)) (sC (agJ 3 u24)),.slice (sA (agJ 4 u24)) (sN (agJ 4 u24)) (sC (agJ 4 u24)),Vi E2.now,Vi E2.last],.box b3 [.slice (sA (agJ 0 u17)) (sN (agJ 0 u17)) (sC (agJ 0 u17)),.slice (sA (agJ 1 u17)) (sN (agJ 1 u17)) (sC (agJ 1 u17)),Vi E1.pol.t,Vi E1.pol.b,Vi E1.pol.c,.slice (sA (agJ 2 u17)) (sN (agJ 2 u17)) (sC (agJ 2 u17)),.slice (sA (agJ 3 u17)) (sN (agJ 3 u17)) (sC (agJ 3 u17)),.slice (sA (agJ 4 u17)) (sN (agJ 4 u17)) (sC (agJ 4 u17)),Vi E1.now,Vi E1.last],.box b2 [Vz,Vz,Vi 0,Vi 0,Vi 0,Vz,Vz,Vz,Vi 0,Vi 0],.box b1 [Vi p.t,Vi p.b,Vi p.c]] [] ?_
 rw [e4,e5]
 have hr5:(dW [⟨⟨#[99]⟩,1,⟨1,1,⟨#[]⟩⟩,zV⟩])[0]?=some [.string ⟨#[99]⟩,.int .i64 1,.int .i64 1,.int .i64 1,.string ⟨#[]⟩,.int .i64 0,.int .i64 0,.string ⟨#[]⟩]:=rfl
 have hr4:(jZ [⟨1,1,⟨#[]⟩⟩,⟨1,0,⟨#[]⟩⟩,pdV])[0]?=some [.int .i64 1,.int .i64 1,.string ⟨#[]⟩]:=rfl
 obtain ⟨b9,o10,rfl,-,c11⟩:=RS.row f25 (hr5)
 refine tQ (c11.sees (Sees.refl _)) ?_
 obtain ⟨b12,o13,rfl,-,c14⟩:=RS.row f26 (hr4)
 refine tQ (c14.sees (Sees.refl _)) ?_
 refine fV 32 0 [.ld 1 0,.pu,.pu,.pu,.pu,.pu,.pu,.pu,.pu,.pu,.pu,.pu,.pu,.pu,.pu,.v (fun gh=>.pointer (some ⟨b9,o10 + 0 * 8,none⟩)),.pu,.pu,.lf 1 3,.pu,.pu,.pu,.pu,.ld 0 7,.v (fun gh=>.pointer (some ⟨b12,o13 + 0 * 3,none⟩)),.pu,.lf 0 1,.pu,.pu,.st 2 0,.pu,.pu] [] (trivial) ?_ ?_
 ·intro R hT hA hmono
  refine And.intro (bZ hT hA b9 o10 1 c5 0 (fun gh=>.pointer (some ⟨b9,o10 + 0 * 8,none⟩)) (by first | omega | (simp; omega))) ?_
  refine And.intro (bZ hT hA b12 o13 3 c4 0 (fun gh=>.pointer (some ⟨b12,o13 + 0 * 3,none⟩)) (by first | omega | (simp; omega))) ?_
  trivial
 rintro W15 S16 -
 refine go0 2 [] [] ?_
 refine hQ.to [.agg #[.slice (sA (agJ 0 u17)) (sN (agJ 0 u17)) (sC (agJ 0 u17)),.slice (sA (agJ 1 u17)) (sN (agJ 1 u17)) (sC (agJ 1 u17)),Vi E1.pol.t,Vi E1.pol.b,Vi E1.pol.c,.slice (sA (agJ 2 u17)) (sN (agJ 2 u17)) (sC (agJ 2 u17)),.slice (sA (agJ 3 u17)) (sN (agJ 3 u17)) (sC (agJ 3 u17)),.slice (sA (agJ 4 u17)) (sN (agJ 4 u17)) (sC (agJ 4 u17)),Vi E1.now,Vi E1.last],.slice (sA (agJ 5 u17)) (sN (agJ 5 u17)) (sC (agJ 5 u17)),.bool true] (fun H sH=>?_) (ix:=[2])
 exact ⟨u17,rfl,(f17.sees (S8.trans (S16.trans sH)))⟩
end Go.Proofs.YtmoahpojchndiaaGreat
namespace Go.Proofs.YtmoahpojchndiaaGreat
open Go.RowKit
set_option linter.unusedVariables false
def orcC:List Fd→List Cl→List Aw
 | f :: fs,c :: cs=>(if c.st=2∨c.st=3 then [⟨f.name,c.key,ansC c⟩] else [])++orcC fs cs
 | _,_=>[]
theorem orcC_mem {x:Aw}:∀ {fs:List Fd} {cs:List Cl},x∈orcC fs cs→∃ (i:Nat) (f:Fd) (c:Cl),fs[i]?=some f∧cs[i]?=some c∧(c.st=2∨c.st=3)∧x=⟨f.name,c.key,ansC c⟩
 | [],_,h=>by cases h
 | _ :: _,[],h=>by cases h
 | f :: fs,c :: cs,h=>by
  rcases List.mem_append.1 h with q | q
  ·by_cases hw:c.st=2∨c.st=3
   ·rw [if_pos hw] at q
    exact ⟨0,f,c,rfl,rfl,hw,List.mem_singleton.1 q⟩
   ·rw [if_neg hw] at q; cases q
  ·obtain ⟨i,g,d,q1,q2,q3⟩:=orcC_mem q
   exact ⟨i + 1,g,d,q1,q2,q3⟩
theorem hit_name {s:ByteArray} {key:Vl} {p:Aw} (h:p.nm≠s):p.hit s key=false:=by
 unfold Aw.hit
 rw [tl_no h,Bool.false_and]
theorem orcC_none {s:ByteArray} {key:Vl}:∀ {fs:List Fd} {cs:List Cl},(∀ f∈fs,f.name≠s)→askL s key (orcC fs cs)=pdV
 | [],_,_=>rfl
 | _ :: _,[],_=>rfl
 | f :: fs,c :: cs,h=>by
  have ih:=orcC_none (s:=s) (key:=key) (fs:=fs) (cs:=cs) fun g hg=>h g (by simp [hg])
  show askL s key ((if c.st=2∨c.st=3 then [(⟨f.name,c.key,ansC c⟩:Aw)] else [])++orcC fs cs)=pdV
  by_cases hw:c.st=2∨c.st=3
  ·rw [if_pos hw]
   show askL s key (⟨f.name,c.key,ansC c⟩ :: orcC fs cs)=pdV
   rw [askL,hit_name (show (⟨f.name,c.key,ansC c⟩:Aw).nm≠s from h f (by simp)),if_neg (by decide),ih]
  ·rw [if_neg hw]; exact ih
theorem orcC_ask {key:Vl}:∀ {fs:List Fd} {cs:List Cl} {i:Nat} {f:Fd} {c:Cl},(fs.map (fun f:Fd=>f.name)).Nodup→fs[i]?=some f→cs[i]?=some c→askL f.name key (orcC fs cs)=if (c.st=2∨c.st=3)∧eqB c.key key=true then ansC c else pdV
 | [],_,_,_,_,_,h,_=>by simp at h
 | _ :: _,[],_,_,_,_,_,h=>by simp at h
 | g :: fs,d :: cs,0,f,c,hd,h1,h2=>by
  simp only [List.getElem?_cons_zero,Option.some.injEq] at h1 h2
  subst h1 h2
  rw [List.map_cons,List.nodup_cons] at hd
  have hn:=orcC_none (s:=g.name) (key:=key) (fs:=fs) (cs:=cs) fun x hx e=>hd.1 (List.mem_map.2 ⟨x,hx,e⟩)
  show askL g.name key ((if d.st=2∨d.st=3 then [(⟨g.name,d.key,ansC d⟩:Aw)] else [])++orcC fs cs)=_
  by_cases hw:d.st=2∨d.st=3
  ·rw [if_pos hw]
   show askL g.name key (⟨g.name,d.key,ansC d⟩ :: orcC fs cs)=_
   have hh:Aw.hit ⟨g.name,d.key,ansC d⟩ g.name key=eqB d.key key:=by
    show (g.name.toList == g.name.toList && eqB d.key key)=_
    rw [tl_yes rfl,Bool.true_and]
   rw [askL,hh]
   by_cases he:eqB d.key key=true
   ·rw [if_pos he,if_pos ⟨hw,he⟩]
   ·rw [if_neg he,if_neg fun q=>he q.2,hn]
  ·rw [if_neg hw,if_neg fun q=>hw q.1]
   exact hn
 | g :: fs,d :: cs,i + 1,f,c,hd,h1,h2=>by
  rw [List.map_cons,List.nodup_cons] at hd
  have h1:fs[i]?=some f:=by simpa using h1
  have ih:=orcC_ask (key:=key) hd.2 h1 (by simpa using h2:cs[i]?=some c)
  have hne:g.name≠f.name:=fun e=>hd.1 (List.mem_map.2 ⟨f,List.mem_of_getElem? h1,e.symm⟩)
  show askL f.name key ((if d.st=2∨d.st=3 then [(⟨g.name,d.key,ansC d⟩:Aw)] else [])++orcC fs cs)=_
  by_cases hw:d.st=2∨d.st=3
  ·rw [if_pos hw]
   show askL f.name key (⟨g.name,d.key,ansC d⟩ :: orcC fs cs)=_
   rw [askL,hit_name (show (⟨g.name,d.key,ansC d⟩:Aw).nm≠f.name from hne),if_neg (by decide),ih]
  ·rw [if_neg hw]; exact ih
theorem stepW_pre (fs:List Fd) (inp:Env) (orc:List Aw) (s:List Vl × Env) (i:Nat):∃ m,(stepW fs inp orc s i).2=s.2++m:=by
 unfold stepW
 split
 ·exact ⟨_,rfl⟩
 ·exact ⟨[],by simp⟩
theorem foldW_pre (fs:List Fd) (inp:Env) (orc:List Aw):∀ (os:List Nat) (s:List Vl × Env),∃ m,(os.foldl (stepW fs inp orc) s).2=s.2++m
 | [],s=>⟨[],by simp⟩
 | i :: os,s=>by
  obtain ⟨m,hm⟩:=stepW_pre fs inp orc s i
  obtain ⟨m',hm'⟩:=foldW_pre fs inp orc os (stepW fs inp orc s i)
  exact ⟨m++m',by show (os.foldl (stepW fs inp orc) (stepW fs inp orc s i)).2=_; rw [hm',hm,List.append_assoc]⟩
theorem runW_pre (fs:List Fd) (inp:Env) (orc:List Aw) (os:List Nat) (t:Nat):∃ m,(runW fs inp orc os).2=(runW fs inp orc (os.take t)).2++m:=by
 have e:runW fs inp orc os=(os.drop t).foldl (stepW fs inp orc) (runW fs inp orc (os.take t)):=by
  unfold runW
  rw [← List.foldl_append,List.take_append_drop]
 rw [e]
 exact foldW_pre fs inp orc _ _
theorem ev_turn {fs:List Fd} (hok:OkFs fs) {inp:Env} (hi:∀ p∈inp,p.2.known) {orc:List Aw} (ho:∀ p∈orc,OkV p.has) {ρ:List Int} {lv:Nat→Nat} {os:List Nat} (h:Ordd fs ρ lv os) {t i:Nat} {f:Fd} (ht:os[t]?=some i) (hf:fs[i]?=some f) (hk:f.kind≠1) :
  oK (runW fs inp orc (os.take t)).2 f.src=oK (fcs fs (allW fs inp orc os)) f.src∧sW f inp orc (runW fs inp orc (os.take t)).2=sW f inp orc (fcs fs (allW fs inp orc os)):=by
 have hI:=run_inv hok hi ho h os.length (Nat.le_refl _)
 rw [List.take_length] at hI
 have htl:=(List.getElem?_eq_some_iff.1 ht).1
 have hT:=run_inv hok hi ho h t (by omega)
 have hin:∀ {i:Nat},i < fs.length→i∈os:=fun q=>h.perm.mem_iff.2 (List.mem_range.2 q)
 obtain ⟨m,hm⟩:=runW_pre fs inp orc os t
 have key:∀ s∈tX f.src,(runW fs inp orc (os.take t)).2.get s=(fcs fs (allW fs inp orc os)).get s:=fun s hs=>by
  obtain ⟨j,g,g1,g2,g3⟩:=refs_need hok hf hk hs
  obtain ⟨x,-,x2,-⟩:=hT.at_ j (h.ahead ht j g3) g g1
  obtain ⟨y,y1,y2,-⟩:=hI.at_ j (hin (List.getElem?_eq_some_iff.1 g1).1) g g1
  have e:(runW fs inp orc os).2.get g.name=some x:=by rw [hm]; exact get_app x2
  rw [← g2,x2,← e,y2]
  exact (fcs_get hok.nodup g1 y1).symm
 exact ⟨eval_local key,oneV_congr fun _=>key⟩
theorem settled_fix {E:Eg} {ρ:List Int} {lv:Nat→Nat} (hok:EgOk E ρ lv) (hse:Settled E ρ) (t:Nat) (ht:t≤(zW ρ E.fm.fields.length).length) :
  eY E.fm.fields E.pol E.now E.inp ⟨E.calls,E.vals,[],E.last,[]⟩ ((zW ρ E.fm.fields.length).take t)=⟨E.calls,E.vals,(eY E.fm.fields E.pol E.now E.inp ⟨E.calls,E.vals,[],E.last,[]⟩ ((zW ρ E.fm.fields.length).take t)).kn,E.last,[]⟩:=by
 obtain ⟨kn,hkn⟩:=hse
 have few:=hok.fm.fields.few
 have one:=hok.one
 have hod:Ordd E.fm.fields ρ lv (zW ρ E.fm.fields.length):=aX hok.fm.rank (by omega)
 have h:=runS_fix E.fm.fields E.pol E.now E.inp ⟨E.calls,E.vals,[],E.last,[]⟩ (ordL_nodup hod) hok.calls.len hok.vlen rfl E.now E.last t ht
 rw [hkn] at h
 exact h
theorem settled_turn {E:Eg} {ρ:List Int} {lv:Nat→Nat} (hok:EgOk E ρ lv) (hse:Settled E ρ) {t i:Nat} {f:Fd} {c:Cl} (ht:(zW ρ E.fm.fields.length)[t]?=some i) (hf:E.fm.fields[i]?=some f) (h3:f.kind=3) (hc:E.calls[i]?=some c) {kn:Env} (hk:(eY E.fm.fields E.pol E.now E.inp ⟨E.calls,E.vals,[],E.last,[]⟩ ((zW ρ E.fm.fields.length).take t)).kn=kn) :
  ((oK kn f.src).k≤3→c.st≠0∧c.key=oK kn f.src)∧(¬ (oK kn f.src).k≤3→c=clZ)∧E.vals[i]?=some (yV (oK kn f.src) c) ∧
   (eY E.fm.fields E.pol E.now E.inp ⟨E.calls,E.vals,[],E.last,[]⟩ ((zW ρ E.fm.fields.length).take (t + 1))).kn=kn++[(f.name,yV (oK kn f.src) c)]:=by
 have htl:=(List.getElem?_eq_some_iff.1 ht).1
 have h1:=settled_fix hok hse t (by omega)
 have h2:=settled_fix hok hse (t + 1) (by omega)
 have hil:=(List.getElem?_eq_some_iff.1 hf).1
 have hcl:=hok.calls.len
 have hvl:=hok.vlen
 rw [runS_at _ _ _ _ _ _ t i ht] at h2 ⊢
 rw [hk] at h1
 rw [h1] at h2 ⊢
 rw [tY hf h3 hc rfl rfl] at h2 ⊢
 simp only [Sst.mk.injEq] at h2
 obtain ⟨a1,a2,-⟩:=h2
 have b1:(E.calls.set i (fZ E.pol (E.last + 1) E.now (oK kn f.src) c).1)[i]?=some c:=by rw [a1]; exact hc
 rw [List.getElem?_set_self (by omega)] at b1
 have b1:=Option.some.inj b1
 have b2:E.vals[i]?=some (yV (oK kn f.src) (fZ E.pol (E.last + 1) E.now (oK kn f.src) c).1):=by
  rw [← List.getElem?_set_self (l:=E.vals) (i:=i) (by omega)]
  exact congrArg (fun l:List Vl=>l[i]?) a2.symm
 rw [b1] at b2 ⊢
 refine ⟨fun q=>?_,fun q=>?_,b2,rfl⟩
 ·have:=turn_key (p:=E.pol) (id:=E.last + 1) (now:=E.now) (c:=c) q
  rw [b1] at this
  exact this
 ·rw [hZ q] at b1
  exact b1.symm
theorem settled_one {E:Eg} {ρ:List Int} {lv:Nat→Nat} (hok:EgOk E ρ lv) (hse:Settled E ρ) {t i:Nat} {f:Fd} (ht:(zW ρ E.fm.fields.length)[t]?=some i) (hf:E.fm.fields[i]?=some f) (h3:f.kind≠3) {kn:Env} (hk:(eY E.fm.fields E.pol E.now E.inp ⟨E.calls,E.vals,[],E.last,[]⟩ ((zW ρ E.fm.fields.length).take t)).kn=kn) :
  E.vals[i]?=some (sW f E.inp [] kn)∧(eY E.fm.fields E.pol E.now E.inp ⟨E.calls,E.vals,[],E.last,[]⟩ ((zW ρ E.fm.fields.length).take (t + 1))).kn=kn++[(f.name,sW f E.inp [] kn)]:=by
 have htl:=(List.getElem?_eq_some_iff.1 ht).1
 have h1:=settled_fix hok hse t (by omega)
 have h2:=settled_fix hok hse (t + 1) (by omega)
 have hil:=(List.getElem?_eq_some_iff.1 hf).1
 have hvl:=hok.vlen
 rw [runS_at _ _ _ _ _ _ t i ht] at h2 ⊢
 rw [hk] at h1
 rw [h1] at h2 ⊢
 rw [stepS_one hf h3] at h2 ⊢
 simp only [Sst.mk.injEq] at h2
 obtain ⟨-,a2,-⟩:=h2
 refine ⟨?_,rfl⟩
 rw [← List.getElem?_set_self (l:=E.vals) (i:=i) (a:=sW f E.inp [] kn) (by omega)]
 exact congrArg (fun l:List Vl=>l[i]?) a2.symm
theorem oneV_nolook {f:Fd} (h:f.kind≠3) (inp:Env) (o1 o2:List Aw) (kn:Env):sW f inp o1 kn=sW f inp o2 kn:=by
 unfold sW
 rw [if_neg h,if_neg h]
theorem lkup_ask {fs:List Fd} {cs:List Cl} {p:Pol} {i:Nat} {f:Fd} {c:Cl} {key:Vl} (hd:(fs.map (fun f:Fd=>f.name)).Nodup) (hf:fs[i]?=some f) (hc:cs[i]?=some c) (hco:ClOk p c) (h1:key.k≤3→c.st≠0∧c.key=key) (h2:¬ key.k≤3→c=clZ):yV key c=askV (orcC fs cs) f.name key:=by
 unfold yV askV
 by_cases hk:key.k≤3
 ·obtain ⟨a,b⟩:=h1 hk
  have hb:=hco.live a
  rw [if_neg a,if_pos hk,orcC_ask hd hf hc]
  have he:eqB c.key key=true:=eqB_iff.2 b
  by_cases hs:c.st=2∨c.st=3
  ·rw [if_pos ⟨hs,he⟩]
  ·have s1:c.st=1:=by have:=hb.s1; have:=hb.s3; omega
   rw [if_neg fun q=>hs q.1]
   unfold ansC
   rw [if_neg (by omega),if_neg (by omega)]
 ·rw [if_neg hk,h2 hk,if_pos rfl]
theorem orcC_has {fs:List Fd} {p:Pol} {last:Int} {cs:List Cl} (h:CallsOk fs p last cs):∀ q∈orcC fs cs,OkV q.has:=fun q hq=>by
 obtain ⟨i,f,c,hf,hc,hs,rfl⟩:=orcC_mem hq
 have hb:=(h.at_ i f c hf hc).1.live (by omega)
 show OkV (ansC c)
 unfold ansC
 by_cases s2:c.st=2
 ·rw [if_pos s2]; exact .inl (hb.knw s2).1
 ·rw [if_neg s2,if_pos (by omega)]; exact .inr (.inr ⟨rfl,by decide,by decide,rfl⟩)
structure SolE (E:Eg):Prop where
 sol:Sol E.fm.fields E.inp (orcC E.fm.fields E.calls) E.vals
 ok:∀ x∈E.vals,OkV x
 call:∀ (i:Nat) (f:Fd) (c:Cl),E.fm.fields[i]?=some f→f.kind=3→E.calls[i]?=some c→((oK (fcs E.fm.fields E.vals) f.src).k≤3→c.st≠0∧c.key=oK (fcs E.fm.fields E.vals) f.src)∧(¬ (oK (fcs E.fm.fields E.vals) f.src).k≤3→c=clZ)∧E.vals[i]?=some (yV (oK (fcs E.fm.fields E.vals) f.src) c)
theorem settled_all {E:Eg} {ρ:List Int} {lv:Nat→Nat} (hok:EgOk E ρ lv) (hse:Settled E ρ) :
  (∀ t,t≤(zW ρ E.fm.fields.length).length→(runW E.fm.fields E.inp (orcC E.fm.fields E.calls) ((zW ρ E.fm.fields.length).take t)).2=(eY E.fm.fields E.pol E.now E.inp ⟨E.calls,E.vals,[],E.last,[]⟩ ((zW ρ E.fm.fields.length).take t)).kn) ∧
  E.vals=allW E.fm.fields E.inp (orcC E.fm.fields E.calls) (zW ρ E.fm.fields.length):=by
 have few:=hok.fm.fields.few
 have one:=hok.one
 have hod:Ordd E.fm.fields ρ lv (zW ρ E.fm.fields.length):=aX hok.fm.rank (by omega)
 have hoh:=orcC_has hok.calls
 have hat:∀ (t i:Nat) (f:Fd) (kn:Env),(zW ρ E.fm.fields.length)[t]?=some i→E.fm.fields[i]?=some f→(eY E.fm.fields E.pol E.now E.inp ⟨E.calls,E.vals,[],E.last,[]⟩ ((zW ρ E.fm.fields.length).take t)).kn=kn→E.vals[i]?=some (sW f E.inp (orcC E.fm.fields E.calls) kn)∧(eY E.fm.fields E.pol E.now E.inp ⟨E.calls,E.vals,[],E.last,[]⟩ ((zW ρ E.fm.fields.length).take (t + 1))).kn=kn++[(f.name,sW f E.inp (orcC E.fm.fields E.calls) kn)]:=fun t i f kn ht hf hk=>by
  by_cases h3:f.kind=3
  ·obtain ⟨c,hc⟩:∃ c,E.calls[i]?=some c:=⟨_,List.getElem?_eq_getElem (by rw [hok.calls.len]; exact (List.getElem?_eq_some_iff.1 hf).1)⟩
   obtain ⟨a1,a2,a3,a4⟩:=settled_turn hok hse ht hf h3 hc hk
   have e:sW f E.inp (orcC E.fm.fields E.calls) kn=yV (oK kn f.src) c:=by
    unfold sW
    rw [if_neg (by omega),if_pos h3]
    exact (lkup_ask hok.fm.fields.nodup hf hc (hok.calls.at_ i f c hf hc).1 a1 a2).symm
   rw [e]
   exact ⟨a3,a4⟩
  ·rw [oneV_nolook h3 E.inp _ []]
   exact settled_one hok hse ht hf h3 hk
 have hkn:∀ t,t≤(zW ρ E.fm.fields.length).length→(runW E.fm.fields E.inp (orcC E.fm.fields E.calls) ((zW ρ E.fm.fields.length).take t)).2=(eY E.fm.fields E.pol E.now E.inp ⟨E.calls,E.vals,[],E.last,[]⟩ ((zW ρ E.fm.fields.length).take t)).kn:=fun t=>by
  induction t with
  | zero=>intro _; rfl
  | succ t ih =>
   intro ht
   obtain ⟨i,hti⟩:∃ i,(zW ρ E.fm.fields.length)[t]?=some i:=⟨_,List.getElem?_eq_getElem (by omega)⟩
   obtain ⟨f,hf⟩:∃ f,E.fm.fields[i]?=some f:=⟨_,List.getElem?_eq_getElem (hod.lt (List.mem_of_getElem? hti))⟩
   have ih:=ih (by omega)
   rw [run_at _ _ _ _ t i hti f hf,(hat t i f _ hti hf rfl).2,ih]
 refine ⟨hkn,?_⟩
 have hI:=run_inv hok.fm.fields hok.ki hoh hod (zW ρ E.fm.fields.length).length (Nat.le_refl _)
 rw [List.take_length] at hI
 refine List.ext_getElem? fun i=>?_
 rcases Nat.lt_or_ge i E.fm.fields.length with q | q
 ·obtain ⟨f,hf⟩:∃ f,E.fm.fields[i]?=some f:=⟨_,List.getElem?_eq_getElem q⟩
  obtain ⟨t,ht⟩:=List.getElem?_of_mem (hod.perm.mem_iff.2 (List.mem_range.2 q))
  obtain ⟨x,x1,-,x3⟩:=hI.at_ i (hod.perm.mem_iff.2 (List.mem_range.2 q)) f hf
  have htl:=(List.getElem?_eq_some_iff.1 ht).1
  have hT:=run_inv hok.fm.fields hok.ki hoh hod t (by omega)
  obtain ⟨m,hm⟩:=runW_pre E.fm.fields E.inp (orcC E.fm.fields E.calls) (zW ρ E.fm.fields.length) t
  have h1:=(hat t i f _ ht hf rfl).1
  rw [← hkn t (by omega)] at h1
  rw [h1]
  show _=(runW _ _ _ _).1[i]?
  rw [x1,x3]
  refine congrArg some (oneV_congr fun hk s hs=>?_)
  obtain ⟨j,g,g1,g2,g3⟩:=refs_need hok.fm.fields hf hk hs
  obtain ⟨y,-,y2,-⟩:=hT.at_ j (hod.ahead ht j g3) g g1
  rw [← g2,y2,hm,get_app y2]
 ·rw [List.getElem?_eq_none (by rw [hok.vlen]; exact q),List.getElem?_eq_none (by show (runW _ _ _ _).1.length≤i; rw [hI.len]; exact q)]
theorem settled_sol {E:Eg} {ρ:List Int} {lv:Nat→Nat} (hok:EgOk E ρ lv) (hse:Settled E ρ):SolE E:=by
 have few:=hok.fm.fields.few
 have one:=hok.one
 have hod:Ordd E.fm.fields ρ lv (zW ρ E.fm.fields.length):=aX hok.fm.rank (by omega)
 have hoh:=orcC_has hok.calls
 obtain ⟨hkn,hv⟩:=settled_all hok hse
 obtain ⟨s1,s2⟩:=all_sol hok.fm.fields hok.ki hoh hod
 rw [← hv] at s1 s2
 refine ⟨s1,s2,fun i f c hf h3 hc=>?_⟩
 obtain ⟨t,ht⟩:=List.getElem?_of_mem (hod.perm.mem_iff.2 (List.mem_range.2 (List.getElem?_eq_some_iff.1 hf).1))
 have htl:=(List.getElem?_eq_some_iff.1 ht).1
 obtain ⟨a1,a2,a3,-⟩:=settled_turn hok hse ht hf h3 hc rfl
 have e:=(ev_turn hok.fm.fields hok.ki hoh hod ht hf (by omega)).1
 rw [hkn t (by omega),← hv] at e
 rw [e] at a1 a2 a3
 exact ⟨a1,a2,a3⟩
end Go.Proofs.YtmoahpojchndiaaGreat
namespace Go.Proofs.YtmoahpojchndiaaGreat
open Go.RowKit
set_option linter.unusedVariables false
set_option maxHeartbeats 4000000 in
theorem equal_fctE (v v':Value) (l:List (ByteArray × Vl)) (w:World) (h:Sl w 7 v (l.map fcRow)) (h':Sl w 7 v' (l.map fcRow)) (hl:l.length≤9223372036854775806) :
  Calls Tryz.prog 54 #[v,v'] w (GivesE (.bool true) w):=by
 obtain ⟨A,cap,rfl,hcap,-⟩:=h.form
 obtain ⟨A',cap',rfl,hcap',-⟩:=h'.form
 rw [List.length_map] at *
 have HR:=Lib.hid h
 have HS:=Lib.hid h'
 clear h h'
 go_enter Tryz.func54,Tryz.ntmps54
 go_wp2_with fail
 go_loopw [13] (fun n wr=>∃ k:Nat,k≤l.length∧n=.int .i64 k∧Evo w wr) (fun n _=>l.length - (intOf n).toNat)
 case atStart=>exact ⟨0,Nat.zero_le _,rfl,Evo.refl _⟩
 case round =>
  obtain ⟨k,hk,rfl,hb⟩:=hrel
  by_cases hlt:k < l.length
  ·obtain ⟨x,hd⟩:∃ x,l[k]?=some x:=⟨_,List.getElem?_eq_getElem hlt⟩
   obtain ⟨b,off,rfl,hbl,hc⟩:=HR.out.row (i:=k) (r:=fcRow x) (by rw [List.getElem?_map,hd]; rfl)
   have c0:∀ W,Evo w W→W.cell? ⟨b,off + k * 7,none⟩=some _:=hc 0 _ rfl
   have c1:∀ W,Evo w W→W.cell? ⟨b,off + k * 7 + 1,none⟩=some _:=hc 1 _ rfl
   have c2:∀ W,Evo w W→W.cell? ⟨b,off + k * 7 + 2,none⟩=some _:=hc 2 _ rfl
   have c3:∀ W,Evo w W→W.cell? ⟨b,off + k * 7 + 3,none⟩=some _:=hc 3 _ rfl
   have c4:∀ W,Evo w W→W.cell? ⟨b,off + k * 7 + 4,none⟩=some _:=hc 4 _ rfl
   have c5:∀ W,Evo w W→W.cell? ⟨b,off + k * 7 + 5,none⟩=some _:=hc 5 _ rfl
   have c6:∀ W,Evo w W→W.cell? ⟨b,off + k * 7 + 6,none⟩=some _:=hc 6 _ rfl
   obtain ⟨b',off',rfl,hbl',hc'⟩:=HS.out.row (i:=k) (r:=fcRow x) (by rw [List.getElem?_map,hd]; rfl)
   have d0:∀ W,Evo w W→W.cell? ⟨b',off' + k * 7,none⟩=some _:=hc' 0 _ rfl
   have d1:∀ W,Evo w W→W.cell? ⟨b',off' + k * 7 + 1,none⟩=some _:=hc' 1 _ rfl
   have d2:∀ W,Evo w W→W.cell? ⟨b',off' + k * 7 + 2,none⟩=some _:=hc' 2 _ rfl
   have d3:∀ W,Evo w W→W.cell? ⟨b',off' + k * 7 + 3,none⟩=some _:=hc' 3 _ rfl
   have d4:∀ W,Evo w W→W.cell? ⟨b',off' + k * 7 + 4,none⟩=some _:=hc' 4 _ rfl
   have d5:∀ W,Evo w W→W.cell? ⟨b',off' + k * 7 + 5,none⟩=some _:=hc' 5 _ rfl
   have d6:∀ W,Evo w W→W.cell? ⟨b',off' + k * 7 + 6,none⟩=some _:=hc' 6 _ rfl
   have k0:(0:Int)≤(k:Int):=by omega
   have k1:(k:Int) < (l.length:Int):=by omega
   clear hc hc' hd
   go_wp2_with fail
   go_quiet (fail)
   go_wp2_with fail
   go_roundw
   case rel=>exact ⟨k + 1,by omega,by go_num,by (first | assumption | (exact Evo.drew (Evo.refl _)) | (exact Evo.drew (by assumption)) | (exact Evo.drewN (by assumption) _) | (exact Evo.drewN (Evo.refl _) _) | (exact Evo.trans (by assumption) ⟨by assumption⟩) | (exact Evo.alloc (by assumption) _) | (exact Evo.trans (by assumption) hE))⟩
   case measure=>simp [intOf]; omega
  ·have hkn:k=l.length:=by omega
   subst hkn
   clear hlt hk
   go_wp2_with fail
   go_ret
   exact ⟨rfl,hb⟩
theorem eqfE (l:List Ex) (us vs:List Value) (n:Nat) (A B:Option Addr) (c d:Nat) (h:Vw) (hn:l.length=n) (ha:RS h 6 (.slice A n c) (tK l us)) (hb:RS h 6 (.slice B n d) (tK l vs)) (hu:AllArgs h l us) (hv:AllArgs h l vs) (hl:n≤1000000)
  (ih:∀ y∈l,∀ u u' H,IsArgs H y u→IsArgs H y u'→C0 Tryz.prog 98 #[.agg #[.int .i64 y.op,.int .i64 y.k,.int .i64 y.n,.string y.s,.string y.nm,u],.agg #[.int .i64 y.op,.int .i64 y.k,.int .i64 y.n,.string y.s,.string y.nm,u']] H (fun r _=>r=.bool true)) :
  C0 Tryz.prog 132 #[.slice A n c,.slice B n d,.func (.func 98) #[] #[]] h (fun r _=>r=.bool true):=by
 have hul:=hu.len
 have hvl:=hv.len
 refine qQ Tryz.func132 (c:=Tryz.f132.body.getD .skip) (N:=32) ?_
 intro hbx hbad Q hQ
 refine go0 15 [] [] ?_
 refine uQ (t:=(n:Int) != (n:Int)) ((by simp)) ?_
 refine go0 11 [] [] ?_
 refine yQ [0,1,0,1,1] [.block 0,.seq [1,1,1]] (fun (k:Nat) X=>∃ (W1:Vw) ,X W1 [(1,.slice B n d),(2,.func (.func 98) #[] #[]),(15,.slice A n c),(16,Vi (n:Int)),(17,Vi (k:Int))] [] []∧Sees h W1∧(k≤n)) (fun k=>n - k) (0) (fun X q=>⟨h,q _ _ _ _ ⟨rfl,by kernel_rfl⟩,Sees.refl _,Nat.zero_le _⟩) ?_
 rintro k a w ⟨W1,hJ,S2,hk⟩; refine dV hJ ?_; clear hJ a w
 refine go0 6 [] [] ?_
 rcases (by omega:k < n∨k=n) with hlt | hke
 ·obtain ⟨y,hy⟩:∃ y,l[k]?=some y:=⟨_,List.getElem?_eq_getElem (by omega)⟩
  obtain ⟨u,hu1⟩:∃ y,us[k]?=some y:=⟨_,List.getElem?_eq_getElem (by omega)⟩
  obtain ⟨u',hu2⟩:∃ y,vs[k]?=some y:=⟨_,List.getElem?_eq_getElem (by omega)⟩
  have hga:=AllArgs.get hu hy hu1
  have hgb:=AllArgs.get hv hy hu2
  obtain ⟨Au,nu,cu,rfl⟩:=hga.slice
  obtain ⟨Bu,mu,du,rfl⟩:=hgb.slice
  have hra:(tK l us)[k]?=some (exRow y (.slice Au nu cu)):=by show (List.zipWith exRow _ _)[k]?=_; rw [List.getElem?_zipWith,hy,hu1]
  have hrb:(tK l vs)[k]?=some (exRow y (.slice Bu mu du)):=by show (List.zipWith exRow _ _)[k]?=_; rw [List.getElem?_zipWith,hy,hu2]
  have hi:=ih y (List.mem_of_getElem? hy)
  refine jV (t:=decide ((k:Int) < (n:Int))) (decide_eq_true (by omega)) ?_
  refine go0 7 [] [] ?_
  obtain ⟨b3,o4,rfl,-,c5⟩:=RS.row ha (hra)
  refine tQ (c5.sees S2) ?_
  refine go1 11 [.ix b3 o4 n c k,.f 0 0,.own,.b 0 0] [] ?_ (ho:=(And.intro (by first | omega | (simp; omega)) (trivial)))
  intro b6
  obtain ⟨b7,o8,rfl,-,c9⟩:=RS.row hb (hrb)
  refine tQ (c9.sees S2) ?_
  refine go1 23 [.ix b7 o8 n d k,.f 0 0,.own,.b 0 0,.b 1 0,.b 0 0,.cl 98 #[.agg #[Vi y.op,Vi y.k,Vi y.n,.string y.s,.string y.nm,.slice Au nu cu],.agg #[Vi y.op,Vi y.k,Vi y.n,.string y.s,.string y.nm,.slice Bu mu du]] (.bool true)] [(31,Vi (IntKind.i64.wrap ((k:Int) + 1)),Vi ((k:Int) + 1))] ?_ (ho:=(And.intro (by first | omega | (simp; omega)) (And.intro (fun H sH=>hi _ _ _ (hga.sees (S2.trans sH)) (hgb.sees (S2.trans sH))) (trivial)))) (hc:=(And.intro (jJ (by omega) (by omega)) (trivial)))
  intro b10
  exact iV (k + 1) (fun X q=>⟨W1,q _ _ _ _ ⟨rfl,by kernel_rfl⟩,S2,by omega⟩) (by omega)
 ·skip
  refine uQ (t:=decide ((k:Int) < (n:Int))) (decide_eq_false (by omega)) ?_
  refine go0 2 [] [] ?_
  refine xQ ?_
  refine go0 8 [] [] ?_
  refine hQ.to [.bool true] (fun H sH=>?_)
  exact rfl
theorem same_rec:∀ (m:Nat) (x:Ex) (v v':Value) (h:Vw),(szE x).1≤m→IsArgs h x v→IsArgs h x v'→(szE x).1 < 1000000 →
  C0 Tryz.prog 98 #[.agg #[.int .i64 x.op,.int .i64 x.k,.int .i64 x.n,.string x.s,.string x.nm,v],.agg #[.int .i64 x.op,.int .i64 x.k,.int .i64 x.n,.string x.s,.string x.nm,v']] h (fun r _=>r=.bool true)
 | 0,x,v,v',h,hm,_,_,_=>by have:=yY x; omega
 | m + 1,x,v,v',h,hm,hx,hx',hb=>by
  have IH:=same_rec m
  have hse:=xY x
  have hlen:=szL_len x.args
  obtain ⟨ws,hr,hws⟩:=hx.form
  obtain ⟨ws',hr',hws'⟩:=hx'.form
  obtain ⟨A,ca,rfl,hc1,hc2,-⟩:=hr.form
  obtain ⟨B,cb,rfl,-,-,-⟩:=hr'.form
  rw [uK hws.len] at hr ⊢
  rw [uK hws'.len] at hr' ⊢
  rw [hse] at hm hb
  simp only at hm hb
  have hE:=fun H q1 q2 q3 q4=>eqfE x.args ws ws' x.args.length A B ca cb H rfl q1 q2 q3 q4 (by omega) (fun y hy u u' H' q5 q6=>IH y u u' H' (by have:=zY hy; omega) q5 q6 (by have:=zY hy; omega))
  generalize x.args.length=len at *
  refine qQ Tryz.func98 (c:=Tryz.f98.body.getD .skip) (N:=31) ?_
  intro hbx hbad Q hQ
  refine go2 19 [.own,.own,.b 1 0,.b 0 0,.b 1 1,.b 0 1] [(9,.bool (x.op == x.op),.bool true)] ?_ (hc:=(And.intro (congrArg Value.bool (beq_self_eq_true _)) (trivial)))
  intro b1 b2
  refine eV (.bool true) (fun w=>run_eqop (x:=(.tmp 12)) (y:=(.tmp 14)) (v:=⟨x.k,x.n,x.s⟩) (w:=⟨x.k,x.n,x.s⟩) (by kernel_rfl) (by kernel_rfl) (by kernel_rfl) (eqB_iff.2 rfl)) ?_
  refine go0 19 [.b 1 4,.b 0 4,.b 1 5,.b 0 5,.cl 132 #[.slice A len ca,.slice B len cb,.func (.func 98) #[] #[]] (.bool true)] [(22,.bool (x.nm.toList == x.nm.toList),.bool true)] ?_ (ho:=(And.intro (fun H sH=>hE _ (hr.sees sH) (hr'.sees sH) (hws.sees sH) (hws'.sees sH)) (trivial))) (hc:=(And.intro (congrArg Value.bool (beq_self_eq_true _)) (trivial)))
  refine hQ.to [.bool true] (fun H sH=>?_)
  exact rfl
theorem same_any (x:Ex) (v v':Value) (h:Vw) (hx:IsArgs h x v) (hx':IsArgs h x v') (hb:(szE x).1 < 1000000):C0 Tryz.prog 98 #[.agg #[.int .i64 x.op,.int .i64 x.k,.int .i64 x.n,.string x.s,.string x.nm,v],.agg #[.int .i64 x.op,.int .i64 x.k,.int .i64 x.n,.string x.s,.string x.nm,v']] h (fun r _=>r=.bool true):=same_rec _ x v v' h (Nat.le_refl _) hx hx' hb
theorem sameF (f:Fd) (A B:Option Addr) (n m c d:Nat) (h:Vw) (ha:IsArgs h f.src (.slice A n c)) (hb:IsArgs h f.src (.slice B m d)) (hsz:(szE f.src).1 < 1000000) :
  C0 Tryz.prog 97 #[.agg #[.string f.name,.int .i64 f.kind,.int .i64 f.ty,.int .i64 f.src.op,.int .i64 f.src.k,.int .i64 f.src.n,.string f.src.s,.string f.src.nm,.slice A n c],.agg #[.string f.name,.int .i64 f.kind,.int .i64 f.ty,.int .i64 f.src.op,.int .i64 f.src.k,.int .i64 f.src.n,.string f.src.s,.string f.src.nm,.slice B m d]] h (fun r _=>r=.bool true):=by
 have hS:=fun H q1 q2=>same_any f.src (.slice A n c) (.slice B m d) H q1 q2 hsz
 refine qQ Tryz.func97 (c:=Tryz.f97.body.getD .skip) (N:=31) ?_
 intro hbx hbad Q hQ
 refine go2 39 [.own,.own,.b 1 0,.b 0 0,.b 1 1,.b 0 1,.b 1 2,.b 0 2,.b 1 3,.b 0 3,.cl 98 #[.agg #[Vi f.src.op,Vi f.src.k,Vi f.src.n,.string f.src.s,.string f.src.nm,.slice A n c],.agg #[Vi f.src.op,Vi f.src.k,Vi f.src.n,.string f.src.s,.string f.src.nm,.slice B m d]] (.bool true)] [(9,.bool (f.name.toList == f.name.toList),.bool true),(15,.bool (f.kind == f.kind),.bool true),(22,.bool (f.ty == f.ty),.bool true)] ?_ (ho:=(And.intro (fun H sH=>hS _ (ha.sees sH) (hb.sees sH)) (trivial))) (hc:=(And.intro (congrArg Value.bool (beq_self_eq_true _)) (And.intro (congrArg Value.bool (beq_self_eq_true _)) (And.intro (congrArg Value.bool (beq_self_eq_true _)) (trivial)))))
 intro b1 b2
 refine hQ.to [.bool true] (fun H sH=>?_)
 exact rfl
theorem eqfF (fs:List Fd) (us vs:List Value) (n:Nat) (A B:Option Addr) (c d:Nat) (h:Vw) (hn:fs.length=n) (ha:RS h 9 (.slice A n c) (aQ fs us)) (hb:RS h 9 (.slice B n d) (aQ fs vs)) (hu:AllSrc h fs us) (hv:AllSrc h fs vs) (hl:n≤1000000) (hsz:∀ g∈fs,(szE g.src).1 < 1000000) :
  C0 Tryz.prog 96 #[.slice A n c,.slice B n d,.func (.func 97) #[] #[]] h (fun r _=>r=.bool true):=by
 have hul:=hu.len
 have hvl:=hv.len
 refine qQ Tryz.func96 (c:=Tryz.f96.body.getD .skip) (N:=32) ?_
 intro hbx hbad Q hQ
 refine go0 15 [] [] ?_
 refine uQ (t:=(n:Int) != (n:Int)) ((by simp)) ?_
 refine go0 11 [] [] ?_
 refine yQ [0,1,0,1,1] [.block 0,.seq [1,1,1]] (fun (k:Nat) X=>∃ (W1:Vw) ,X W1 [(1,.slice B n d),(2,.func (.func 97) #[] #[]),(15,.slice A n c),(16,Vi (n:Int)),(17,Vi (k:Int))] [] []∧Sees h W1∧(k≤n)) (fun k=>n - k) (0) (fun X q=>⟨h,q _ _ _ _ ⟨rfl,by kernel_rfl⟩,Sees.refl _,Nat.zero_le _⟩) ?_
 rintro k a w ⟨W1,hJ,S2,hk⟩; refine dV hJ ?_; clear hJ a w
 refine go0 6 [] [] ?_
 rcases (by omega:k < n∨k=n) with hlt | hke
 ·obtain ⟨y,hy⟩:∃ y,fs[k]?=some y:=⟨_,List.getElem?_eq_getElem (by omega)⟩
  obtain ⟨u,hu1⟩:∃ y,us[k]?=some y:=⟨_,List.getElem?_eq_getElem (by omega)⟩
  obtain ⟨u',hu2⟩:∃ y,vs[k]?=some y:=⟨_,List.getElem?_eq_getElem (by omega)⟩
  have hga:=AllSrc.get hu hy hu1
  have hgb:=AllSrc.get hv hy hu2
  obtain ⟨Au,nu,cu,rfl⟩:=hga.slice
  obtain ⟨Bu,mu,du,rfl⟩:=hgb.slice
  have hra:=bQ hy hu1
  have hrb:=bQ hy hu2
  have hi:=fun H q1 q2=>sameF y Au Bu nu mu cu du H q1 q2 (hsz y (List.mem_of_getElem? hy))
  refine jV (t:=decide ((k:Int) < (n:Int))) (decide_eq_true (by omega)) ?_
  refine go0 7 [] [] ?_
  obtain ⟨b3,o4,rfl,-,c5⟩:=RS.row ha (hra)
  refine tQ (c5.sees S2) ?_
  refine go1 11 [.ix b3 o4 n c k,.f 0 0,.own,.b 0 0] [] ?_ (ho:=(And.intro (by first | omega | (simp; omega)) (trivial)))
  intro b6
  obtain ⟨b7,o8,rfl,-,c9⟩:=RS.row hb (hrb)
  refine tQ (c9.sees S2) ?_
  refine go1 23 [.ix b7 o8 n d k,.f 0 0,.own,.b 0 0,.b 1 0,.b 0 0,.cl 97 #[.agg #[.string y.name,Vi y.kind,Vi y.ty,Vi y.src.op,Vi y.src.k,Vi y.src.n,.string y.src.s,.string y.src.nm,.slice Au nu cu],.agg #[.string y.name,Vi y.kind,Vi y.ty,Vi y.src.op,Vi y.src.k,Vi y.src.n,.string y.src.s,.string y.src.nm,.slice Bu mu du]] (.bool true)] [(31,Vi (IntKind.i64.wrap ((k:Int) + 1)),Vi ((k:Int) + 1))] ?_ (ho:=(And.intro (by first | omega | (simp; omega)) (And.intro (fun H sH=>hi _ (hga.sees (S2.trans sH)) (hgb.sees (S2.trans sH))) (trivial)))) (hc:=(And.intro (jJ (by omega) (by omega)) (trivial)))
  intro b10
  exact iV (k + 1) (fun X q=>⟨W1,q _ _ _ _ ⟨rfl,by kernel_rfl⟩,S2,by omega⟩) (by omega)
 ·skip
  refine uQ (t:=decide ((k:Int) < (n:Int))) (decide_eq_false (by omega)) ?_
  refine go0 2 [] [] ?_
  refine xQ ?_
  refine go0 8 [] [] ?_
  refine hQ.to [.bool true] (fun H sH=>?_)
  exact rfl
theorem eqStr (l:List ByteArray) (v u:Value) (h:Vw) (ha:RS h 1 v (wY l)) (hb:RS h 1 u (wY l)) (hl:l.length≤1000000):C0 Tryz.prog 101 #[v,u] h (fun r _=>r=.bool true):=by
 obtain ⟨A1,c1,rfl,-,-,-⟩:=ha.form
 obtain ⟨A2,c2,rfl,-,-,-⟩:=hb.form
 rw [List.length_map] at *
 generalize hL:l.length=n at *
 refine qQ Tryz.func101 (c:=Tryz.f101.body.getD .skip) (N:=26) ?_
 intro hbx hbad Q hQ
 refine go0 15 [] [] ?_
 refine uQ (t:=(n:Int) != (n:Int)) ((by simp)) ?_
 refine go0 11 [] [] ?_
 refine yQ [0,1,0,1,1] [.block 0,.seq [1,1,1]] (fun (k:Nat) X=>∃ (W1:Vw) ,X W1 [(0,.slice A1 n c1),(1,.slice A2 n c2),(12,Vi (n:Int)),(13,Vi (k:Int))] [] []∧Sees h W1∧(k≤n)) (fun k=>n - k) (0) (fun X q=>⟨h,q _ _ _ _ ⟨rfl,by kernel_rfl⟩,Sees.refl _,Nat.zero_le _⟩) ?_
 rintro k a w ⟨W1,hJ,S2,hk⟩; refine dV hJ ?_; clear hJ a w
 refine go0 6 [] [] ?_
 rcases (by omega:k < n∨k=n) with hlt | hke
 ·obtain ⟨x,hx⟩:∃ x,l[k]?=some x:=⟨_,List.getElem?_eq_getElem (by omega)⟩
  have hrow:(wY l)[k]?=some [.string x]:=by rw [List.getElem?_map,hx]; rfl
  refine jV (t:=decide ((k:Int) < (n:Int))) (decide_eq_true (by omega)) ?_
  refine go0 11 [] [] ?_
  obtain ⟨b3,o4,rfl,-,c5⟩:=RS.row ha (hrow)
  refine tQ (c5.sees S2) ?_
  obtain ⟨b6,o7,rfl,-,c8⟩:=RS.row hb (hrow)
  refine tQ (c8.sees S2) ?_
  refine fV 9 0 [.pu,.pu,.v (fun gh=>.pointer (some ⟨b3,o4 + k * 1,none⟩)),.lf 1 0,.pu,.pu,.v (fun gh=>.pointer (some ⟨b6,o7 + k * 1,none⟩)),.lf 0 0,.v (fun gh=>.bool false)] [] (trivial) ?_ ?_
  ·intro R hT hA hmono
   refine And.intro (bZ hT hA b3 o4 n c1 k (fun gh=>.pointer (some ⟨b3,o4 + k * 1,none⟩)) (by first | omega | (simp; omega))) ?_
   refine And.intro (bZ hT hA b6 o7 n c2 k (fun gh=>.pointer (some ⟨b6,o7 + k * 1,none⟩)) (by first | omega | (simp; omega))) ?_
   refine And.intro (aZ hT hA (fun gh=>.bool false) (fun gh=>.bool (x.toList != x.toList)) (fun gh=>congrArg Value.bool (by simp))) ?_
   trivial
  rintro W9 S10 -
  refine go0 9 [] [(25,Vi (IntKind.i64.wrap ((k:Int) + 1)),Vi ((k:Int) + 1))] ?_ (hc:=(And.intro (jJ (by omega) (by omega)) (trivial)))
  exact iV (k + 1) (fun X q=>⟨W9,q _ _ _ _ ⟨rfl,by kernel_rfl⟩,(S2.trans S10),by omega⟩) (by omega)
 ·skip
  refine uQ (t:=decide ((k:Int) < (n:Int))) (decide_eq_false (by omega)) ?_
  refine go0 2 [] [] ?_
  refine xQ ?_
  refine go0 8 [] [] ?_
  refine hQ.to [.bool true] (fun H sH=>?_)
  exact rfl
theorem sameP (p:Pg) (Af Bf A B:Option Addr) (nf cf df n m c d:Nat) (h:Vw) (hfa:RS h 1 (.slice Af nf cf) (wY p.fields)) (hfb:RS h 1 (.slice Bf nf df) (wY p.fields)) (hfl:p.fields.length≤1000000) (ha:IsArgs h p.skip (.slice A n c)) (hb:IsArgs h p.skip (.slice B m d)) (hsz:(szE p.skip).1 < 1000000) :
  C0 Tryz.prog 100 #[.agg #[.string p.name,.slice Af nf cf,.int .i64 p.skip.op,.int .i64 p.skip.k,.int .i64 p.skip.n,.string p.skip.s,.string p.skip.nm,.slice A n c],.agg #[.string p.name,.slice Bf nf df,.int .i64 p.skip.op,.int .i64 p.skip.k,.int .i64 p.skip.n,.string p.skip.s,.string p.skip.nm,.slice B m d]] h (fun r _=>r=.bool true):=by
 have hS:=fun H q1 q2=>same_any p.skip (.slice A n c) (.slice B m d) H q1 q2 hsz
 have hT':=fun H q1 q2=>eqStr p.fields (.slice Af nf cf) (.slice Bf nf df) H q1 q2 hfl
 refine qQ Tryz.func100 (c:=Tryz.f100.body.getD .skip) (N:=24) ?_
 intro hbx hbad Q hQ
 refine go2 32 [.own,.own,.b 1 0,.b 0 0,.b 1 1,.b 0 1,.cl 101 #[.slice Af nf cf,.slice Bf nf df] (.bool true),.b 1 2,.b 0 2,.cl 98 #[.agg #[Vi p.skip.op,Vi p.skip.k,Vi p.skip.n,.string p.skip.s,.string p.skip.nm,.slice A n c],.agg #[Vi p.skip.op,Vi p.skip.k,Vi p.skip.n,.string p.skip.s,.string p.skip.nm,.slice B m d]] (.bool true)] [(9,.bool (p.name.toList == p.name.toList),.bool true)] ?_ (ho:=(And.intro (fun H sH=>hT' _ (hfa.sees sH) (hfb.sees sH)) (And.intro (fun H sH=>hS _ (ha.sees sH) (hb.sees sH)) (trivial)))) (hc:=(And.intro (congrArg Value.bool (beq_self_eq_true _)) (trivial)))
 intro b1 b2
 refine hQ.to [.bool true] (fun H sH=>?_)
 exact rfl
theorem eqfP (ps:List Pg) (xs us ys vs:List Value) (n:Nat) (A B:Option Addr) (c d:Nat) (h:Vw) (hn:ps.length=n) (ha:RS h 8 (.slice A n c) (fX ps xs us)) (hb:RS h 8 (.slice B n d) (fX ps ys vs)) (hx:AllStr h (ps.map (·.fields)) xs) (hy:AllStr h (ps.map (·.fields)) ys) (hu:AllArgs h (ps.map (·.skip)) us) (hv:AllArgs h (ps.map (·.skip)) vs) (hl:n≤1000000) (hsz:∀ g∈ps,(szE g.skip).1 < 1000000) (hfl:∀ p∈ps,p.fields.length≤1000000) :
  C0 Tryz.prog 99 #[.slice A n c,.slice B n d,.func (.func 100) #[] #[]] h (fun r _=>r=.bool true):=by
 have hxl:=hx.len
 have hyl:=hy.len
 have hul:=hu.len
 have hvl:=hv.len
 rw [List.length_map] at hxl hyl hul hvl
 refine qQ Tryz.func99 (c:=Tryz.f99.body.getD .skip) (N:=32) ?_
 intro hbx hbad Q hQ
 refine go0 15 [] [] ?_
 refine uQ (t:=(n:Int) != (n:Int)) ((by simp)) ?_
 refine go0 11 [] [] ?_
 refine yQ [0,1,0,1,1] [.block 0,.seq [1,1,1]] (fun (k:Nat) X=>∃ (W1:Vw) ,X W1 [(1,.slice B n d),(2,.func (.func 100) #[] #[]),(15,.slice A n c),(16,Vi (n:Int)),(17,Vi (k:Int))] [] []∧Sees h W1∧(k≤n)) (fun k=>n - k) (0) (fun X q=>⟨h,q _ _ _ _ ⟨rfl,by kernel_rfl⟩,Sees.refl _,Nat.zero_le _⟩) ?_
 rintro k a w ⟨W1,hJ,S2,hk⟩; refine dV hJ ?_; clear hJ a w
 refine go0 6 [] [] ?_
 rcases (by omega:k < n∨k=n) with hlt | hke
 ·obtain ⟨p,hp⟩:∃ y,ps[k]?=some y:=⟨_,List.getElem?_eq_getElem (by omega)⟩
  obtain ⟨u,hu1⟩:∃ y,us[k]?=some y:=⟨_,List.getElem?_eq_getElem (by omega)⟩
  obtain ⟨u',hu2⟩:∃ y,vs[k]?=some y:=⟨_,List.getElem?_eq_getElem (by omega)⟩
  obtain ⟨x,hx1⟩:∃ y,xs[k]?=some y:=⟨_,List.getElem?_eq_getElem (by omega)⟩
  obtain ⟨x',hx2⟩:∃ y,ys[k]?=some y:=⟨_,List.getElem?_eq_getElem (by omega)⟩
  have hga:=AllArgs.get hu (x:=p.skip) (by rw [List.getElem?_map,hp]; rfl) hu1
  have hgb:=AllArgs.get hv (x:=p.skip) (by rw [List.getElem?_map,hp]; rfl) hu2
  have hfa:=AllStr.get hx (x:=p.fields) (by rw [List.getElem?_map,hp]; rfl) hx1
  have hfb:=AllStr.get hy (x:=p.fields) (by rw [List.getElem?_map,hp]; rfl) hx2
  obtain ⟨Au,nu,cu,rfl⟩:=hga.slice
  obtain ⟨Bu,mu,du,rfl⟩:=hgb.slice
  obtain ⟨Ax,cx,rfl,-⟩:=hfa.form
  obtain ⟨Bx,dx,rfl,-⟩:=hfb.form
  have hra:=pgRows_get hp hx1 hu1
  have hrb:=pgRows_get hp hx2 hu2
  have hi:=fun H q1 q2 q3 q4=>sameP p Ax Bx Au Bu (wY p.fields).length cx dx nu mu cu du H q1 q2 (hfl p (List.mem_of_getElem? hp)) q3 q4 (hsz p (List.mem_of_getElem? hp))
  refine jV (t:=decide ((k:Int) < (n:Int))) (decide_eq_true (by omega)) ?_
  refine go0 7 [] [] ?_
  obtain ⟨b3,o4,rfl,-,c5⟩:=RS.row ha (hra)
  refine tQ (c5.sees S2) ?_
  refine go1 11 [.ix b3 o4 n c k,.f 0 0,.own,.b 0 0] [] ?_ (ho:=(And.intro (by first | omega | (simp; omega)) (trivial)))
  intro b6
  obtain ⟨b7,o8,rfl,-,c9⟩:=RS.row hb (hrb)
  refine tQ (c9.sees S2) ?_
  refine go1 23 [.ix b7 o8 n d k,.f 0 0,.own,.b 0 0,.b 1 0,.b 0 0,.cl 100 #[.agg #[.string p.name,.slice Ax ((wY p.fields).length) cx,Vi p.skip.op,Vi p.skip.k,Vi p.skip.n,.string p.skip.s,.string p.skip.nm,.slice Au nu cu],.agg #[.string p.name,.slice Bx ((wY p.fields).length) dx,Vi p.skip.op,Vi p.skip.k,Vi p.skip.n,.string p.skip.s,.string p.skip.nm,.slice Bu mu du]] (.bool true)] [(31,Vi (IntKind.i64.wrap ((k:Int) + 1)),Vi ((k:Int) + 1))] ?_ (ho:=(And.intro (by first | omega | (simp; omega)) (And.intro (fun H sH=>hi _ (hfa.sees (S2.trans sH)) (hfb.sees (S2.trans sH)) (hga.sees (S2.trans sH)) (hgb.sees (S2.trans sH))) (trivial)))) (hc:=(And.intro (jJ (by omega) (by omega)) (trivial)))
  intro b10
  exact iV (k + 1) (fun X q=>⟨W1,q _ _ _ _ ⟨rfl,by kernel_rfl⟩,S2,by omega⟩) (by omega)
 ·skip
  refine uQ (t:=decide ((k:Int) < (n:Int))) (decide_eq_false (by omega)) ?_
  refine go0 2 [] [] ?_
  refine xQ ?_
  refine go0 8 [] [] ?_
  refine hQ.to [.bool true] (fun H sH=>?_)
  exact rfl
theorem run_eqP (p:Pol) (W:World):((binOp .eql 24 p.val p.val).run Tryz.prog W)=.ok (.bool true) W:=by
 simp [go_sem,Tryz.underlying24,Tryz.underlying3]
theorem run_eqPol {r:Operand→Value} {o:Oper} {x y:Operand} {p:Pol} {W:World} (ho:o.op=.binOp .eql 24 x y 24) (hx:r x=p.val) (hy:r y=p.val):(execOp r o).run Tryz.prog W=.ok (.value (.bool true)) W:=by
 unfold execOp
 simp only [ho,hx,hy,Sem.run_bind,run_eqGuard_agg W .eql 24 x y _ _ (show Tryz.prog.eqGuardType Tryz.prog.depth 24=false by kernel_rfl),run_eqP,Sem.run_pure,Result.andThen_ok]
theorem sameForm_any (f:Fm) (ρ:List Int) (lv:Nat→Nat) (hok:OkFm f ρ lv) (fv pv fv' pv':Value) (h:Vw) (h1:IsForm h fv pv f) (h2:IsForm h fv' pv' f):C0 Tryz.prog 53 #[.agg #[fv,pv],.agg #[fv',pv']] h (fun r _=>r=.bool true):=by
 obtain ⟨s1,s2⟩:=hok.small
 have few:=hok.fields.few
 have hm:=hok.pages.few
 have hfl:∀ p∈f.pages,p.fields.length≤1000000:=fun p hp=>by have:=hok.pages.fl p hp; omega
 obtain ⟨vs,A,c,rfl,-,-,ha,hv,-,-⟩:=dQ h1.fields
 obtain ⟨us,ws,B,d,rfl,-,hb,hu,hw,-,-⟩:=iX h1.pages
 obtain ⟨vs',A',c',rfl,-,-,ha',hv',-,-⟩:=dQ h2.fields
 obtain ⟨us',ws',B',d',rfl,-,hb',hu',hw',-,-⟩:=iX h2.pages
 have hF:=fun H q1 q2 q3 q4=>eqfF f.fields vs vs' f.fields.length A A' c c' H rfl q1 q2 q3 q4 (by omega) s1
 have hP:=fun H q1 q2 q3 q4 q5 q6=>eqfP f.pages us ws us' ws' f.pages.length B B' d d' H rfl q1 q2 q3 q4 q5 q6 (by omega) s2 hfl
 generalize f.fields.length=n at *
 generalize f.pages.length=m at *
 refine qQ Tryz.func53 (c:=Tryz.f53.body.getD .skip) (N:=17) ?_
 intro hbx hbad Q hQ
 refine go2 25 [.own,.own,.b 1 0,.b 0 0,.cl 96 #[.slice A n c,.slice A' n c',.func (.func 97) #[] #[]] (.bool true),.b 1 1,.b 0 1,.cl 99 #[.slice B m d,.slice B' m d',.func (.func 100) #[] #[]] (.bool true)] [] ?_ (ho:=(And.intro (fun H sH=>hF _ (ha.sees sH) (ha'.sees sH) (hv.sees sH) (hv'.sees sH)) (And.intro (fun H sH=>hP _ (hb.sees sH) (hb'.sees sH) (hu.sees sH) (hu'.sees sH) (hw.sees sH) (hw'.sees sH)) (trivial))))
 intro b1 b2
 refine hQ.to [.bool true] (fun H sH=>?_)
 exact rfl
theorem c_equalFt {h:Vw} {v v':Value} {l:Env} (hr:RS h 7 v (zK l)) (hr':RS h 7 v' (zK l)) (hl:l.length≤1000):C0 Tryz.prog 54 #[v,v'] h (fun r _=>r=.bool true) :=
 C0.of_e (equal_fctE v v' l h.w (rs_sl hr) (rs_sl hr') (by omega))
theorem sameEng_any (E:Eg) (ρ:List Int) (lv:Nat→Nat) (hok:EgOk E ρ lv) (u u':Value) (h:Vw) (h1:IsEng h u E) (h2:IsEng h u' E):C0 Tryz.prog 17 #[.agg #[.slice (sA (agJ 0 u)) (sN (agJ 0 u)) (sC (agJ 0 u)),.slice (sA (agJ 1 u)) (sN (agJ 1 u)) (sC (agJ 1 u)),.int .i64 E.pol.t,.int .i64 E.pol.b,.int .i64 E.pol.c,.slice (sA (agJ 2 u)) (sN (agJ 2 u)) (sC (agJ 2 u)),.slice (sA (agJ 3 u)) (sN (agJ 3 u)) (sC (agJ 3 u)),.slice (sA (agJ 4 u)) (sN (agJ 4 u)) (sC (agJ 4 u)),.int .i64 E.now,.int .i64 E.last],.agg #[.slice (sA (agJ 0 u')) (sN (agJ 0 u')) (sC (agJ 0 u')),.slice (sA (agJ 1 u')) (sN (agJ 1 u')) (sC (agJ 1 u')),.int .i64 E.pol.t,.int .i64 E.pol.b,.int .i64 E.pol.c,.slice (sA (agJ 2 u')) (sN (agJ 2 u')) (sC (agJ 2 u')),.slice (sA (agJ 3 u')) (sN (agJ 3 u')) (sC (agJ 3 u')),.slice (sA (agJ 4 u')) (sN (agJ 4 u')) (sC (agJ 4 u')),.int .i64 E.now,.int .i64 E.last]] h (fun r _=>r=.bool true):=by
 have few:=hok.fm.fields.few
 have hcl:=hok.calls.len
 have hvl:=hok.vlen
 have hli:=hok.li
 have hF:=fun H q1 q2=>sameForm_any E.fm ρ lv hok.fm (.slice (sA (agJ 0 u)) (sN (agJ 0 u)) (sC (agJ 0 u))) (.slice (sA (agJ 1 u)) (sN (agJ 1 u)) (sC (agJ 1 u))) (.slice (sA (agJ 0 u')) (sN (agJ 0 u')) (sC (agJ 0 u'))) (.slice (sA (agJ 1 u')) (sN (agJ 1 u')) (sC (agJ 1 u'))) H q1 q2
 have hI:=fun H q1 q2=>c_equalFt (h:=H) (v:=.slice (sA (agJ 2 u)) (sN (agJ 2 u)) (sC (agJ 2 u))) (v':=.slice (sA (agJ 2 u')) (sN (agJ 2 u')) (sC (agJ 2 u'))) (l:=E.inp) q1 q2 (by omega)
 have hC:=fun H q1 q2=>c_equalCl (h:=H) (v:=.slice (sA (agJ 3 u)) (sN (agJ 3 u)) (sC (agJ 3 u))) (v':=.slice (sA (agJ 3 u')) (sN (agJ 3 u')) (sC (agJ 3 u'))) (l:=E.calls) q1 q2 (by omega)
 have hV:=fun H q1 q2=>c_equalVl (h:=H) (v:=.slice (sA (agJ 4 u)) (sN (agJ 4 u)) (sC (agJ 4 u))) (v':=.slice (sA (agJ 4 u')) (sN (agJ 4 u')) (sC (agJ 4 u'))) (l:=E.vals) q1 q2 (by omega)
 refine qQ Tryz.func17 (c:=Tryz.f17.body.getD .skip) (N:=52) ?_
 intro hbx hbad Q hQ
 refine go2 19 [.own,.own,.b 1 0,.b 0 0,.cl 53 #[.agg #[.slice (sA (agJ 0 u)) (sN (agJ 0 u)) (sC (agJ 0 u)),.slice (sA (agJ 1 u)) (sN (agJ 1 u)) (sC (agJ 1 u))],.agg #[.slice (sA (agJ 0 u')) (sN (agJ 0 u')) (sC (agJ 0 u')),.slice (sA (agJ 1 u')) (sN (agJ 1 u')) (sC (agJ 1 u'))]] (.bool true),.b 1 2,.b 0 2] [] ?_ (ho:=(And.intro (fun H sH=>hF _ ((h1.sees sH)).form ((h2.sees sH)).form) (trivial)))
 intro b1 b2
 refine eV (.bool true) (fun w=>run_eqPol (x:=.tmp 12) (y:=.tmp 14) (p:=E.pol) (by kernel_rfl) (by kernel_rfl) (by kernel_rfl)) ?_
 refine go0 40 [.b 1 5,.b 0 5,.cl 54 #[.slice (sA (agJ 2 u)) (sN (agJ 2 u)) (sC (agJ 2 u)),.slice (sA (agJ 2 u')) (sN (agJ 2 u')) (sC (agJ 2 u'))] (.bool true),.b 1 6,.b 0 6,.cl 55 #[.slice (sA (agJ 3 u)) (sN (agJ 3 u)) (sC (agJ 3 u)),.slice (sA (agJ 3 u')) (sN (agJ 3 u')) (sC (agJ 3 u'))] (.bool true),.b 1 7,.b 0 7,.cl 26 #[.slice (sA (agJ 4 u)) (sN (agJ 4 u)) (sC (agJ 4 u)),.slice (sA (agJ 4 u')) (sN (agJ 4 u')) (sC (agJ 4 u'))] (.bool true),.b 1 8,.b 0 8,.b 1 9,.b 0 9] [(43,.bool (E.now == E.now),.bool true),(50,.bool (E.last == E.last),.bool true)] ?_ (ho:=(And.intro (fun H sH=>hI _ ((h1.sees sH)).inp ((h2.sees sH)).inp) (And.intro (fun H sH=>hC _ ((h1.sees sH)).calls ((h2.sees sH)).calls) (And.intro (fun H sH=>hV _ ((h1.sees sH)).vals ((h2.sees sH)).vals) (trivial))))) (hc:=(And.intro (congrArg Value.bool (beq_self_eq_true _)) (And.intro (congrArg Value.bool (beq_self_eq_true _)) (trivial))))
 refine hQ.to [.bool true] (fun H sH=>?_)
 exact rfl
end Go.Proofs.YtmoahpojchndiaaGreat
