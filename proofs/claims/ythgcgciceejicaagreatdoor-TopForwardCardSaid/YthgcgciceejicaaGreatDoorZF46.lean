/-
  Contracts of package engine: Copy, numbers, calls, done.
-/
import Derived.Test.YthgcgciceejicaaGreatDoorZF42
import Derived.Test.YthgcgciceejicaaGreatDoorZF44
import Derived.Test.YthgcgciceejicaaGreatDoorZF45
set_option maxHeartbeats 2000000
set_option maxRecDepth 100000
namespace Go.Proofs.YthgcgciceejicaaGreatDoor
open Go.RowKit
set_option linter.unusedVariables false
def agJ (i:Nat):Value -> Value
 | .agg vs=>vs.getD i undef
 | _=>undef
theorem shCopy_any (f:Fm) (ρ:List Int) (lv:Nat -> Nat) (hok:OkFm f ρ lv) (fv pv:Value) (h:Vw) (hf:IsForm h fv pv f) :
  C0 Tryz.prog 43 #[.agg #[fv,pv]] h (λr h'=>∃ u,r=.agg #[sL (agJ 0 u),sL (agJ 1 u)] /\ IsForm h' (sL (agJ 0 u)) (sL (agJ 1 u)) f):=by
 obtain ⟨hs1,hs2⟩:=hok.small;have few:=hok.fields.few;have hm:=hok.pages.few;have hF:=λv H q=>fdCopy_any f.fields v H q hs1 (by omega);have hP:=λv H q=>pgCopy_any f.pages v H q hs2 (λp hp=>by have:=hok.pages.fl p hp; omega) (by omega);obtain ⟨vs,A,c,rfl,-,-,-,-,-,-⟩:=fQ hf.fields;obtain ⟨us,ws,B,d,rfl,-,-,-,-,-,-⟩:=sX hf.pages;generalize f.fields.length=n at *;generalize f.pages.length=m at *;refine yQ Tryz.func43 λhbx hbad Q hQ=>?_;refine go2 7 [.own,.own] [] ?_;intro b1 b2;refine oV 8 0 [.pu,.ld 1 0,.f (λgh=>sL (gh 2)) (λgh hh=>IsFds hh (sL (gh 2)) f.fields),.pu,.ld 1 1,.f (λgh=>sL (gh 5)) (λgh hh=>IsPgs hh (sL (gh 5)) f.pages),.pu,.st 0 0] [(2,false),(5,false)] (Aj (λ_ _ _ s c=>c.sees s) (Aj (λ_ _ _ s c=>c.sees s) (trivial))) ?_ ?_
 ·intro R hT hA hmono;refine Aj (aY hT hA hmono 5 (λu=>sL u) [1] 2 92 (λgh=>#[.slice A n c]) (λgh H sH fH lent=>C0.facts (R:=R) (x:=gh) (i:=2) (n:=0) (F:=(λu=>sL u)) (G:=λu hh=>IsFds hh (sL u) f.fields) (f:=λgh hh=>IsFds hh (sL (gh 2)) f.fields) (hF _ _ ((hf.sees sH)).fields) (by kernel_rfl) (by kernel_rfl) (λ_ _ r=>r))) ?_;refine Aj (aY hT hA hmono 8 (λu=>sL u) [2,4] 5 93 (λgh=>#[.slice B m d]) (λgh H sH fH lent=>C0.facts (R:=R) (x:=gh) (i:=5) (n:=1) (F:=(λu=>sL u)) (G:=λu hh=>IsPgs hh (sL u) f.pages) (f:=λgh hh=>IsPgs hh (sL (gh 5)) f.pages) (hP _ _ ((hf.sees sH)).pages) (by kernel_rfl) (by kernel_rfl) (λ_ _ r=>r))) ?_
  trivial
 rintro u5 u8 W3 S4 ⟨f5,f8,-⟩;replace f5:IsFds W3 (sL u5) f.fields:=f5;replace f8:IsPgs W3 (sL u8) f.pages:=f8;refine go0 2 [] [] ?_;refine hQ.to [.agg #[sL u5,sL u8]] (λH sH=>?_) (ix:=[0]);exact ⟨.agg #[u5,u8],rfl,(f5.sees sH),(f8.sees sH)⟩
structure Eg where
 fm:Fm
 pol:Pol
 inp:Env
 calls:List Cl
 vals:List Vl
 now:Int
 last:Int
abbrev eL (u:Value) (E:Eg):List Value:=[sL (agJ 0 u),sL (agJ 1 u),Vi E.pol.t,Vi E.pol.b,Vi E.pol.c,sL (agJ 2 u),sL (agJ 3 u),sL (agJ 4 u),Vi E.now,Vi E.last]
abbrev eA (u:Value) (E:Eg):Array Value:=#[sL (agJ 0 u),sL (agJ 1 u),Vi E.pol.t,Vi E.pol.b,Vi E.pol.c,sL (agJ 2 u),sL (agJ 3 u),sL (agJ 4 u),Vi E.now,Vi E.last]
structure IsEng (h:Vw) (u:Value) (E:Eg):Prop where
 form:IsForm h (sL (agJ 0 u)) (sL (agJ 1 u)) E.fm
 inp:RS h 7 (sL (agJ 2 u)) (zK E.inp)
 calls:RS h 10 (sL (agJ 3 u)) (iK E.calls)
 vals:RS h 3 (sL (agJ 4 u)) (kZ E.vals)
theorem IsEng.sees {h h':Vw} {u:Value} {E:Eg} (k:IsEng h u E) (s:Sees h h'):IsEng h' u E:=⟨k.form.sees s,k.inp.sees s,k.calls.sees s,k.vals.sees s⟩
structure EgOk (E:Eg) (ρ:List Int) (lv:Nat -> Nat):Prop where
 fm:OkFm E.fm ρ lv
 one:1 <= E.fm.fields.length
 pol:E.pol.ok
 ki:∀ q∈E.inp,q.2.known
 k0:∀ q∈E.inp,toldE E.fm.fields q.1 q.2.k=0
 once:(E.inp.map (·.1)).Nodup
 li:E.inp.length <= 100
 calls:CallsOk E.fm.fields E.pol E.last E.calls
 vlen:E.vals.length=E.fm.fields.length
 n0:0 <= E.now
 n1:E.now <= 1073741824
 l0:0 <= E.last
 l1:E.last <= 1073741810
theorem EgOk.ti {E:Eg} {ρ:List Int} {lv:Nat -> Nat} (h:EgOk E ρ lv):vK E.fm.fields [] E.inp=0:=factsV_ok _ _ [] h.k0 h.once
def CopR (E:Eg) (v:Value) (Bo:List Ent) (H:Vw):Prop:=∃ u,v=.agg #[sL (agJ 0 u),sL (agJ 1 u),Vi E.pol.t,Vi E.pol.b,Vi E.pol.c,sL (agJ 2 u),sL (agJ 3 u),sL (agJ 4 u),Vi E.now,Vi E.last] /\ Bo=[.row (sL (agJ 2 u)) 122 7 (zK E.inp),.row (sL (agJ 3 u)) 130 10 (iK E.calls),.row (sL (agJ 4 u)) 44 3 (kZ E.vals)] /\ IsForm H (sL (agJ 0 u)) (sL (agJ 1 u)) E.fm
theorem engCopy_con (E:Eg) (ρ:List Int) (lv:Nat -> Nat) (hok:EgOk E ρ lv) (w:Value) (h:Vw) (hE:IsEng h w E) :
  ConE Tryz.prog 49 #[.agg #[sL (agJ 0 w),sL (agJ 1 w),Vi E.pol.t,Vi E.pol.b,Vi E.pol.c,sL (agJ 2 w),sL (agJ 3 w),sL (agJ 4 w),Vi E.now,Vi E.last]] h [] (CopR E):=by
 have few:=hok.fm.fields.few;have hcl:=hok.calls.len;have hvl:=hok.vlen;have hli:=hok.li;have hS:=λfv pv H q=>shCopy_any E.fm ρ lv hok.fm fv pv H q;have h1:=λv H q=>c_cloneFt (h:=H) (v:=v) (l:=E.inp) q (by omega);have h2:=λv H q=>c_cloneCl (h:=H) (v:=v) (l:=E.calls) q (by omega);have h3:=λv H q=>c_cloneVl (h:=H) (v:=v) (l:=E.vals) q (by omega);refine g_conE Tryz.func49 λhbad Q hQ=>?_;refine go2 10 [.own,.own,.b 1 0] [] ?_;intro b1 b2;refine uQ (λH sH=>hS _ _ _ ((hE.sees sH)).form) ?_; rintro _ W3 S4 ⟨uc,rfl,hfc⟩;refine go0 5 [.b 1 0] [] ?_;refine oV 15 3 [.pu,.ld 4 5,.e (λgh=>sL (gh 2)) 0 (λgh=>.row (sL (gh 2)) 122 7 (zK E.inp)),.pu,.ld 4 6,.e (λgh=>sL (gh 5)) 1 (λgh=>.row (sL (gh 5)) 130 10 (iK E.calls)),.pu,.ld 4 7,.e (λgh=>sL (gh 8)) 2 (λgh=>.row (sL (gh 8)) 44 3 (kZ E.vals)),.pu,.st 4 5,.pu,.st 4 6,.pu,.st 4 7] [(2,false),(5,false),(8,false)] (trivial) ?_ ?_
 ·intro R hT hA hmono;refine Aj (r_callown hT hA hmono ⟨λ_ _=>by kernel_rfl,λ_ _=>by kernel_rfl,λ_ _=>by kernel_rfl⟩ (by kernel_rfl) 9 (λu=>sL u) [1] 2 (by kernel_rfl) (λ_=>by kernel_rfl) 0 (GN R 0) (by kernel_rfl) (by kernel_rfl) (by kernel_rfl) 122 7 (λgh=>zK E.inp) (λ_=>by kernel_rfl) (λ_=>by kernel_rfl) (λ_ _=>rfl) 101 (λgh=>#[sL (agJ 2 w)]) (λ_ _=>by kernel_rfl) (λgh H sH fH=>h1 _ _ ((hE.sees (S4.trans sH))).inp)) ?_;refine Aj (r_callown hT hA hmono ⟨λ_ _=>by kernel_rfl,λ_ _=>by kernel_rfl,λ_ _=>by kernel_rfl⟩ (by kernel_rfl) 12 (λu=>sL u) [2,4] 5 (by kernel_rfl) (λ_=>by kernel_rfl) 1 (GN R 1) (by kernel_rfl) (by kernel_rfl) (by kernel_rfl) 130 10 (λgh=>iK E.calls) (λ_=>by kernel_rfl) (λ_=>by kernel_rfl) (λ_ _=>rfl) 102 (λgh=>#[sL (agJ 3 w)]) (λ_ _=>by kernel_rfl) (λgh H sH fH=>h2 _ _ ((hE.sees (S4.trans sH))).calls)) ?_;refine Aj (r_callown hT hA hmono ⟨λ_ _=>by kernel_rfl,λ_ _=>by kernel_rfl,λ_ _=>by kernel_rfl⟩ (by kernel_rfl) 15 (λu=>sL u) [5,7] 8 (by kernel_rfl) (λ_=>by kernel_rfl) 2 (GN R 2) (by kernel_rfl) (by kernel_rfl) (by kernel_rfl) 44 3 (λgh=>kZ E.vals) (λ_=>by kernel_rfl) (λ_=>by kernel_rfl) (λ_ _=>rfl) 103 (λgh=>#[sL (agJ 4 w)]) (λ_ _=>by kernel_rfl) (λgh H sH fH=>h3 _ _ ((hE.sees (S4.trans sH))).vals)) ?_
  trivial
 rintro u9 u12 u15 W5 S6 -;refine go0 8 [.b 4 0,.b 3 0] [] ?_;refine hQ.to [.agg #[sL (agJ 0 uc),sL (agJ 1 uc),Vi E.pol.t,Vi E.pol.b,Vi E.pol.c,sL u9,sL u12,sL u15,Vi E.now,Vi E.last]] [0,1,2] [.row (sL u9) 122 7 (zK E.inp),.row (sL u12) 130 10 (iK E.calls),.row (sL u15) 44 3 (kZ E.vals)] (λH sH=>?_) (ix:=[3]);exact ⟨.agg #[agJ 0 uc,agJ 1 uc,u9,u12,u15],rfl,rfl,(hfc.sees (S6.trans sH))⟩
theorem numbers_any (a0 a1 a2 a3 a4:Value) (p:Pol) (now last:Int) (h:Vw) (n0:0 <= now) (n1:now <= 1073741824) (l0:0 <= last) (l1:last <= 1073741810) :
  C0 Tryz.prog 95 #[.agg #[sL a0,sL a1,Vi p.t,Vi p.b,Vi p.c,sL a2,sL a3,sL a4,Vi now,Vi last]] h (λr _=>r=.bool true):=by
 refine yQ Tryz.func95 λhbx hbad Q hQ=>?_;refine go1 30 [.own,.b 0 8,.b 0 8,.b 0 9,.b 0 9] [(5,.bool (decide (now ≥ 0)),.bool true),(9,.bool (decide (now <= 1073741824)),.bool true),(14,.bool (decide (last ≥ 0)),.bool true),(19,.bool (decide (last <= 1073741810)),.bool true)] ?_ (hc:=(Aj (Dj Value.bool (Kj n0)) (Aj (Dj Value.bool (Kj n1)) (Aj (Dj Value.bool (Kj l0)) (Aj (Dj Value.bool (Kj l1)) (trivial))))));intro b1;refine hQ.to [.bool true] (λH sH=>?_);exact rfl
theorem calls_any (E:Eg) (ρ:List Int) (lv:Nat -> Nat) (hok:EgOk E ρ lv) (w:Value) (h:Vw) (hE:IsEng h w E):C0 Tryz.prog 99 #[.agg #[sL (agJ 0 w),sL (agJ 1 w),Vi E.pol.t,Vi E.pol.b,Vi E.pol.c,sL (agJ 2 w),sL (agJ 3 w),sL (agJ 4 w),Vi E.now,Vi E.last]] h (λr _=>r=Vi 0):=by
 have few:=hok.fm.fields.few;have hcl:=hok.calls.len;have hvl:=hok.vlen;have hck:=λx (hx:ClOk E.pol x) H=>c_chk E.pol hok.pol x hx H;obtain ⟨vs,A,c,e0,-,-,hr4,hs4,hl4,-⟩:=fQ hE.form.fields;obtain ⟨A2,c2,e2,-,-,-⟩:=hE.calls.form;obtain ⟨A3,c3,e3,-,-,-⟩:=hE.vals.form;have hrc:=hE.calls;rw [e2] at hrc;rw [e0,e2,e3];have hca:=hok.calls.at_;rw [Gj] at *;rw [Gj] at *;rw [hcl] at hrc ⊢;rw [hvl];generalize hn:E.fm.fields.length=n at *;refine yQ Tryz.func99 λhbx hbad Q hQ=>?_;refine go1 42 [.own,.b 0 6,.b 0 0,.b 0 7,.b 0 0,.b 0 6] [(13,.bool ((n:Int) != (n:Int)),.bool false),(22,.bool ((n:Int) != (n:Int)),.bool false)] ?_ (hc:=(Aj (Dj Value.bool (by simp)) (Aj (Dj Value.bool (by simp)) (trivial))));intro b1;refine gV [0,1,0,1,1] [.block 0,.seq [1,1,1]] (λ(k:Nat) X=>∃ (W2:Vw) ,X W2 [(1,Vp b1),(25,.slice A2 n c2),(26,Vi (n:Int)),(27,Vi (k:Int))] [.box b1 [.slice A n c,sL (agJ 1 w),Vi E.pol.t,Vi E.pol.b,Vi E.pol.c,sL (agJ 2 w),.slice A2 n c2,.slice A3 n c3,Vi E.now,Vi E.last]] [] /\ Sees h W2 /\ (k <= n)) (λk=>n - k) (0) (λX q=>⟨h,q _ _ _ _ ⟨rfl,by kernel_rfl⟩,Sees.refl _,Mj _⟩) ?_;rintro k a w ⟨W2,hJ,S3,hk⟩; refine lV hJ ?_; clear hJ a w;refine go0 6 [] [] ?_;rcases (by omega:k < n\/k=n) with hlt | hke
 ·obtain ⟨g,hg⟩:∃ g,E.fm.fields[k]?=some g:=⟨_,Fj (by omega)⟩;obtain ⟨x,hx⟩:∃ x,E.calls[k]?=some x:=⟨_,Fj (by omega)⟩;obtain ⟨u,hu⟩:∃ u,vs[k]?=some u:=⟨_,Fj (by omega)⟩;have hrow:=cQ hg hu;have hrx:=clRows_get hx;obtain ⟨Au,nu,cu,rfl⟩:=(AllSrc.get hs4 hg hu).slice;obtain ⟨x1,x2,x3⟩:=hca k g x hg hx;have hck':=hck x x1;refine rV (t:=decide ((k:Int) < (n:Int))) (Kj (by omega)) ?_;refine go0 7 [] [] ?_;obtain ⟨b4,o5,rfl,-,c6⟩:=RS.row hrc (hrx);refine zQ (c6.sees S3) ?_;refine go1 13 [.ix b4 o5 n c2 k,.f 0 0,.own,.b 0 0,.b 0 0,.b 1 2] [] ?_ (ho:=(Aj (by first | omega | (simp; omega)) (trivial)));intro b7;refine go0 14 [.cl 104 #[.agg #[Vi x.st,Vi x.id,Vi x.tr,Vi x.key.k,Vi x.key.n,.string x.key.s,Vi x.has.k,Vi x.has.n,.string x.has.s,Vi x.nx],.agg #[Vi E.pol.t,Vi E.pol.b,Vi E.pol.c]] (Vi 0)] [] ?_ (ho:=(Aj (λH sH=>hck' _) (trivial)));obtain ⟨b8,o9,rfl,-,c10⟩:=RS.row hr4 (hrow);refine zQ (c10.sees S3) ?_;have c11:=RS.cell hr4 (hrow);refine zQ (c11.sees S3) ?_
  by_cases s0:x.st=0
  ·skip;have c8:=RS.cell hr4 (hrow)
   refine zQ (c8.sees S3) ?_;have c9:=RS.cell hr4 (hrow);refine zQ (c9.sees S3) ?_;refine oV 38 0 [.pu,.ld 0 0,.v (λgh=>.bool false),.pu,.ps,.ps,.ps,.ps,.ps,.ps,.ps,.ps,.ps,.ps,.ps,.ps,.ps,.ps,.ps,.ps,.ps,.ps,.ps,.ps,.ps,.ps,.ps,.ps,.ps,.ps,.ps,.ps,.ps,.ps,.ps,.ps,.ps,.pu] [] (by exact trivial) ?_ ?_
   ·intro R hT hA hmono;refine Aj (dZ hT hA (λgh=>.bool false) (λgh=>.bool (x.st != 0)) (λgh=>Dj Value.bool (Ik.2 s0))) ?_
    trivial
   rintro W10 S11 -;refine go0 9 [] [(77,Vi (IntKind.i64.wrap ((k:Int) + 1)),Vi ((k:Int) + 1))] ?_ (hc:=(Aj (jJ (by omega) (by omega)) (trivial)));exact qV (k + 1) (λX q=>⟨W10,q _ _ _ _ ⟨rfl,by kernel_rfl⟩,(S3.trans S11),by omega⟩)
  ·skip;obtain ⟨y1,y2⟩:=x2 s0
   by_cases s2:x.st=2
   ·skip;have c12:=RS.cell hr4 (hrow)
    refine zQ (c12.sees S3) ?_;have c13:=RS.cell hr4 (hrow);refine zQ (c13.sees S3) ?_;refine oV 38 0 [.pu,.ld 0 0,.v (λgh=>.bool true),.pu,.pu,.pu,.ld 1 0,.pu,.v (λgh=>.pointer (some ⟨b8,o9 + k * 9,none⟩)),.pu,.lf 0 1,.v (λgh=>.bool false),.pu,.pu,.ld 0 1,.pu,.ld 1 9,.v (λgh=>.bool false),.pu,.pu,.pu,.ld 0 0,.v (λgh=>.bool true),.pu,.pu,.pu,.ld 0 6,.pu,.pu,.ld 1 0,.pu,.v (λgh=>.pointer (some ⟨b8,o9 + k * 9,none⟩)),.pu,.lf 0 2,.v (λgh=>.bool false),.pu,.pu,.pu] [] (by exact trivial) ?_ ?_
    ·intro R hT hA hmono;refine Aj (dZ hT hA (λgh=>.bool true) (λgh=>.bool (x.st != 0)) (λgh=>Dj Value.bool (Fk.2 s0))) ?_;refine Aj (eZ hT hA b8 o9 n c k (λgh=>.pointer (some ⟨b8,o9 + k * 9,none⟩)) (by first | omega | (simp; omega))) ?_;refine Aj (dZ hT hA (λgh=>.bool false) (λgh=>.bool (g.kind != 3)) (λgh=>Dj Value.bool (Ik.2 y1))) ?_;refine Aj (dZ hT hA (λgh=>.bool false) (λgh=>.bool (decide (x.id > E.last))) (λgh=>Dj Value.bool (Jj (by omega)))) ?_;refine Aj (dZ hT hA (λgh=>.bool true) (λgh=>.bool (x.st == 2)) (λgh=>Dj Value.bool (Xj.2 s2))) ?_;refine Aj (eZ hT hA b8 o9 n c k (λgh=>.pointer (some ⟨b8,o9 + k * 9,none⟩)) (by first | omega | (simp; omega))) ?_;refine Aj (dZ hT hA (λgh=>.bool false) (λgh=>.bool (x.has.k != g.ty)) (λgh=>Dj Value.bool (Ik.2 (x3 s2)))) ?_
     trivial
    rintro W14 S15 -;refine go0 9 [] [(77,Vi (IntKind.i64.wrap ((k:Int) + 1)),Vi ((k:Int) + 1))] ?_ (hc:=(Aj (jJ (by omega) (by omega)) (trivial)));exact qV (k + 1) (λX q=>⟨W14,q _ _ _ _ ⟨rfl,by kernel_rfl⟩,(S3.trans S15),by omega⟩)
   ·skip;have c16:=RS.cell hr4 (hrow)
    refine zQ (c16.sees S3) ?_;have c17:=RS.cell hr4 (hrow);refine zQ (c17.sees S3) ?_;refine oV 38 0 [.pu,.ld 0 0,.v (λgh=>.bool true),.pu,.pu,.pu,.ld 1 0,.pu,.v (λgh=>.pointer (some ⟨b8,o9 + k * 9,none⟩)),.pu,.lf 0 1,.v (λgh=>.bool false),.pu,.pu,.ld 0 1,.pu,.ld 1 9,.v (λgh=>.bool false),.pu,.pu,.pu,.ld 0 0,.v (λgh=>.bool false),.pu,.ps,.ps,.ps,.ps,.ps,.ps,.ps,.ps,.ps,.ps,.ps,.pu,.pu,.pu] [] (by exact trivial) ?_ ?_
    ·intro R hT hA hmono;refine Aj (dZ hT hA (λgh=>.bool true) (λgh=>.bool (x.st != 0)) (λgh=>Dj Value.bool (Fk.2 s0))) ?_;refine Aj (eZ hT hA b8 o9 n c k (λgh=>.pointer (some ⟨b8,o9 + k * 9,none⟩)) (by first | omega | (simp; omega))) ?_;refine Aj (dZ hT hA (λgh=>.bool false) (λgh=>.bool (g.kind != 3)) (λgh=>Dj Value.bool (Ik.2 y1))) ?_;refine Aj (dZ hT hA (λgh=>.bool false) (λgh=>.bool (decide (x.id > E.last))) (λgh=>Dj Value.bool (Jj (by omega)))) ?_;refine Aj (dZ hT hA (λgh=>.bool false) (λgh=>.bool (x.st == 2)) (λgh=>Dj Value.bool (Lj.2 s2))) ?_
     trivial
    rintro W18 S19 -;refine go0 9 [] [(77,Vi (IntKind.i64.wrap ((k:Int) + 1)),Vi ((k:Int) + 1))] ?_ (hc:=(Aj (jJ (by omega) (by omega)) (trivial)));exact qV (k + 1) (λX q=>⟨W18,q _ _ _ _ ⟨rfl,by kernel_rfl⟩,(S3.trans S19),by omega⟩)
 ·skip;refine aV (t:=decide ((k:Int) < (n:Int))) (Jj (by omega)) ?_
  refine go0 2 [] [] ?_;refine fV ?_;refine go0 8 [] [] ?_;refine hQ.to [Vi 0] (λH sH=>?_);exact rfl
def DonR (S:Sst) (b:Nat) (pre:List Value) (slc slv:Value) (v:Value) (Bo:List Ent):Prop :=
 ∃ u,v=.tuple #[.agg (pre++[Value.int .i64 S.last]).toArray,sL u,Vi 0] /\ Bo=[.row (sL u) 57 8 (nW S.out),.box b (pre++[Vi S.last,sL u]),.row slc 130 10 (iK S.calls),.row slv 44 3 (kZ S.vals)]
theorem done_con (S:Sst) (b n:Nat) (A A2 A3:Option Addr) (c c2 c3:Nat) (gv iv lw0:Value) (p:Pol) (now last:Int) (n0:0 <= now) (n1:now <= 1073741824) (cls:List Cl) (vals:List Vl) (lt:List Lt) (h:Vw) (l0:0 <= S.last) (l1:S.last <= 1073741810)
  (hst:∀ H,Sees h H -> ConE Tryz.prog 94 #[.pointer (some ⟨b,0,none⟩)] H
   [.row (sL lw0) 57 8 (nW lt),.box b [.slice A n c,sL gv,Vi p.t,Vi p.b,Vi p.c,sL iv,.slice A2 n c2,.slice A3 n c3,Vi now,Vi last,sL lw0],.row (.slice A2 n c2) 130 10 (iK cls),.row (.slice A3 n c3) 44 3 (kZ vals)]
   (λv Bo _=>SetR S b [.slice A n c,sL gv,Vi p.t,Vi p.b,Vi p.c,sL iv,.slice A2 n c2,.slice A3 n c3,Vi now] (.slice A2 n c2) (.slice A3 n c3) v Bo)) :
  ConE Tryz.prog 44 #[.pointer (some ⟨b,0,none⟩)] h
   [.row (sL lw0) 57 8 (nW lt),.box b [.slice A n c,sL gv,Vi p.t,Vi p.b,Vi p.c,sL iv,.slice A2 n c2,.slice A3 n c3,Vi now,Vi last,sL lw0],.row (.slice A2 n c2) 130 10 (iK cls),.row (.slice A3 n c3) 44 3 (kZ vals)]
   (λv Bo _=>DonR S b [.slice A n c,sL gv,Vi p.t,Vi p.b,Vi p.c,sL iv,.slice A2 n c2,.slice A3 n c3,Vi now] (.slice A2 n c2) (.slice A3 n c3) v Bo):=by
 have hN:=λH=>numbers_any (.slice A n c) gv iv (.slice A2 n c2) (.slice A3 n c3) p now S.last H n0 n1 l0 l1;refine g_conE Tryz.func44 λhbad Q hQ=>?_;refine go1 10 [.own] [] ?_;intro b1;refine g_callE (Bi:=[.row (sL lw0) 57 8 (nW lt),.box b [.slice A n c,sL gv,Vi p.t,Vi p.b,Vi p.c,sL iv,.slice A2 n c2,.slice A3 n c3,Vi now,Vi last,sL lw0],.row (.slice A2 n c2) 130 10 (iK cls),.row (.slice A3 n c3) 44 3 (kZ vals)]) [1,2,3,4] (λH sH=>hst H sH) ?_; rintro _ _ W2 S3 ⟨u,rfl,rfl⟩;refine go0 9 [.b 1 0] [] ?_;refine uQ (λH sH=>hN _) ?_; rintro _ W4 S5 rfl;refine go0 7 [] [] ?_;refine oV 11 0 [.pu,.pu,.pu,.ld 1 0,.pu,.pu,.pu,.ld 1 10,.st 4 0,.pu,.pu] [] (trivial) ?_ ?_
 ·intros; trivial
 rintro W6 S7 -;refine go0 2 [] [] ?_;refine hQ.to [.agg #[.slice A n c,sL gv,Vi p.t,Vi p.b,Vi p.c,sL iv,.slice A2 n c2,.slice A3 n c3,Vi now,Vi S.last],sL u,Vi 0] [0,1,2,3] [.row (sL u) 57 8 (nW S.out),.box b [.slice A n c,sL gv,Vi p.t,Vi p.b,Vi p.c,sL iv,.slice A2 n c2,.slice A3 n c3,Vi now,Vi S.last,sL u],.row (.slice A2 n c2) 130 10 (iK S.calls),.row (.slice A3 n c3) 44 3 (kZ S.vals)] (λH sH=>?_) (ix:=[4]);exact ⟨u,rfl,rfl⟩
def CopF (E:Eg) (n m:Nat) (v:Value) (Bo:List Ent) (H:Vw):Prop:=∃ (A:Option Addr) (c:Nat) (B:Option Addr) (d:Nat) (A1:Option Addr) (c1:Nat) (A2:Option Addr) (c2:Nat) (A3:Option Addr) (c3:Nat),
 v=.agg #[.slice A n c,.slice B m d,Vi E.pol.t,Vi E.pol.b,Vi E.pol.c,.slice A1 E.inp.length c1,.slice A2 n c2,.slice A3 n c3,Vi E.now,Vi E.last] /\
 Bo=[.row (.slice A1 E.inp.length c1) 122 7 (zK E.inp),.row (.slice A2 n c2) 130 10 (iK E.calls),.row (.slice A3 n c3) 44 3 (kZ E.vals)] /\ IsForm H (.slice A n c) (.slice B m d) E.fm
theorem engCopy_form (E:Eg) (ρ:List Int) (lv:Nat -> Nat) (hok:EgOk E ρ lv) (w:Value) (n m:Nat) (hn:E.fm.fields.length=n) (hm:E.fm.pages.length=m) (h:Vw) (hE:IsEng h w E):ConE Tryz.prog 49 #[.agg #[sL (agJ 0 w),sL (agJ 1 w),Vi E.pol.t,Vi E.pol.b,Vi E.pol.c,sL (agJ 2 w),sL (agJ 3 w),sL (agJ 4 w),Vi E.now,Vi E.last]] h [] (CopF E n m):=by
 intro a1 a2 a3 a4;refine (engCopy_con E ρ lv hok w h hE a1 a2 a3 a4).mono ?_;rintro en w' ⟨v,Bo,e1,e2,e3,e4,e5,u,rfl,rfl,hf⟩;obtain ⟨A1,c1,q1,-,-⟩:=nY (e3 _ (Cq ..));obtain ⟨A2,c2,q2,-,-⟩:=nY (e3 _ (Mk _ (Cq ..)));obtain ⟨A3,c3,q3,-,-⟩:=nY (e3 _ (Mk _ (Mk _ (Cq ..))));obtain ⟨vs,A,c,q4,-,-,-,-,-,-⟩:=fQ hf.fields;obtain ⟨us,ws,B,d,q5,-,-,-,-,-,-⟩:=sX hf.pages;rw [Gj] at q1 q2 q3;rw [hok.calls.len,hn] at q2;rw [hok.vlen,hn] at q3;rw [hn] at q4;rw [hm] at q5;rw [q1,q2,q3] at e3 e4 e5 hf;rw [q4,q5] at hf;refine ⟨_,_,e1,e2,e3,e4,e5,A,c,B,d,A1,c1,A2,c2,A3,c3,?_,rfl,hf⟩;rw [q1,q2,q3,q4,q5]
def Settled (E:Eg) (ρ:List Int):Prop:=∃ kn,qY E.fm.fields E.pol E.now E.inp ⟨E.calls,E.vals,[],E.last,[]⟩ (mX ρ E.fm.fields.length)=⟨E.calls,E.vals,kn,E.last,[]⟩
theorem egCheck_any (E:Eg) (ρ:List Int) (lv:Nat -> Nat) (hok:EgOk E ρ lv) (hse:Settled E ρ) (w:Value) (h:Vw) (hE:IsEng h w E):C0 Tryz.prog 47 #[.agg #[sL (agJ 0 w),sL (agJ 1 w),Vi E.pol.t,Vi E.pol.b,Vi E.pol.c,sL (agJ 2 w),sL (agJ 3 w),sL (agJ 4 w),Vi E.now,Vi E.last]] h (λr _=>r=Vi 0):=by
 have few:=hok.fm.fields.few;have hli:=hok.li;have hl1:=hok.l1;obtain ⟨kn,hkn⟩:=hse;have hcp:=λH q=>engCopy_form E ρ lv hok w _ _ rfl rfl H q;have hca:=λH q=>calls_any E ρ lv hok w H q;have hnm:=λa0 a1 a2 a3 a4 H=>numbers_any a0 a1 a2 a3 a4 E.pol E.now E.last H hok.n0 hok.n1 hok.l0 hok.l1;have hse:=λb A A2 A3 c c2 c3 gv iv lw0 H q1 q2=>settle_con E.fm ρ lv hok.fm b E.fm.fields.length A A2 A3 c c2 c3 gv iv lw0 E.pol hok.pol E.now E.last hok.n0 hok.n1 hok.l0 (by omega) E.calls E.vals [] E.inp H q1 rfl hok.one hok.calls hok.vlen q2 hok.ki (by omega) (by simp);rw [hkn] at hse;have hgc:=c_gapChk E.pol hok.pol;obtain ⟨vs,A,c,e0,-,-,-,-,-,-⟩:=fQ hE.form.fields;obtain ⟨us,ws,B,d,e1,-,-,-,-,-,-⟩:=sX hE.form.pages;have hsc:=λH q=>shCheck_any E.fm ρ lv A E.fm.fields.length c B E.fm.pages.length d H hok.fm q rfl;have hfa:=λH q1 q2=>facts_v E.fm.fields (.slice A E.fm.fields.length c) (.slice B E.fm.pages.length d) E.inp (sL (agJ 2 w)) H q1 rfl (by omega) q2 (by omega) hok.ki;rw [hok.ti] at hfa;have hfm:=hE.form;have hin:=hE.inp;have hcl:=hE.calls;have hvl:=hE.vals;rw [e0,e1] at hfm hcp hca ⊢;generalize hn:E.fm.fields.length=n at *;generalize hm:E.fm.pages.length=m at *;refine yQ Tryz.func47 λhbx hbad Q hQ=>?_;refine go1 8 [.own] [] ?_;intro b1;refine oV 15 0 [.pu,.ld 0 0,.v (λgh=>Vi 0),.pu,.ld 0 2,.v (λgh=>Vi 0),.pu,.ld 0 0,.pu,.ld 0 5,.v (λgh=>Vi 0),.ld 0 0,.v (λgh=>Vi 0),.pu,.pu] [] (trivial) ?_ ?_
 ·intro R hT hA hmono;refine Aj (t_v hT hA hmono (k:=41) (args:=(λgh=>#[.agg #[.slice A n c,.slice B m d]])) (f:=λgh=>Vi 0) (λgh H sH fH lent=>hsc _ (hfm.sees sH))) ?_;refine Aj (t_v hT hA hmono (k:=42) (args:=(λgh=>#[.agg #[Vi E.pol.t,Vi E.pol.b,Vi E.pol.c]])) (f:=λgh=>Vi 0) (λgh H sH fH lent=>hgc _)) ?_;refine Aj (t_v hT hA hmono (k:=98) (args:=(λgh=>#[.agg #[.slice A n c,.slice B m d],sL (agJ 2 w)])) (f:=λgh=>Vi 0) (λgh H sH fH lent=>hfa _ ((hfm.sees sH)).fields (hin.sees sH))) ?_;refine Aj (t_v hT hA hmono (k:=99) (args:=(λgh=>#[.agg #[.slice A n c,.slice B m d,Vi E.pol.t,Vi E.pol.b,Vi E.pol.c,sL (agJ 2 w),sL (agJ 3 w),sL (agJ 4 w),Vi E.now,Vi E.last]])) (f:=λgh=>Vi 0) (λgh H sH fH lent=>hca _ (hE.sees sH))) ?_
  trivial
 rintro W2 S3 -;refine go0 2 [] [] ?_;refine gV [0,1,0,1] [.block 0,.seq [1,1]] (λ(k:Nat) X=>∃ (W4:Vw) ,X W4 [(1,Vp b1),(19,.agg #[Vi 0,Vi 0,Vi 0,Vi 0]),(20,Vi (k:Int))] [.box b1 [.slice A n c,.slice B m d,Vi E.pol.t,Vi E.pol.b,Vi E.pol.c,sL (agJ 2 w),sL (agJ 3 w),sL (agJ 4 w),Vi E.now,Vi E.last]] [] /\ Sees W2 W4 /\ (k <= 4)) (λk=>4 - k) (0) (λX q=>⟨W2,q _ _ _ _ ⟨rfl,by kernel_rfl⟩,Sees.refl _,Mj _⟩) ?_;rintro k a w ⟨W4,hJ,S5,hk⟩; refine lV hJ ?_; clear hJ a w;refine go0 6 [] [] ?_;rcases (by omega:k < 4\/k=4) with hlt | hke
 ·skip;refine rV (t:=decide ((k:Int) < 4)) (Kj (by omega)) ?_
  refine go0 6 [] [] ?_;refine nV (Vi 0) (λw=>by rcases (by omega:k=0\/k=1\/k=2\/k=3) with rfl | rfl | rfl | rfl <;> kernel_rfl) ?_;refine go0 17 [] [(26,Vi (IntKind.i64.wrap ((k:Int) + 1)),Vi ((k:Int) + 1))] ?_ (hc:=(Aj (jJ (by omega) (by omega)) (trivial)));exact qV (k + 1) (λX q=>⟨W4,q _ _ _ _ ⟨rfl,by kernel_rfl⟩,S5,by omega⟩)
 ·skip;refine aV (t:=decide ((k:Int) < 4)) (Jj (by omega)) ?_
  refine go0 2 [] [] ?_;refine fV ?_;refine go0 16 [.b 0 0,.cl 95 #[.agg #[.slice A n c,.slice B m d,Vi E.pol.t,Vi E.pol.b,Vi E.pol.c,sL (agJ 2 w),sL (agJ 3 w),sL (agJ 4 w),Vi E.now,Vi E.last]] (.bool true),.b 0 0] [] ?_ (ho:=(Aj (λH sH=>hnm (.slice A n c) (.slice B m d) (agJ 2 w) (agJ 3 w) (agJ 4 w) _) (trivial)));refine g_callE (Bi:=[]) [] (λH sH=>hcp _ (hE.sees (S3.trans (S5.trans sH)))) ?_; rintro _ _ W6 S7 ⟨A',c',B',d',A1,c1,A2,c2,A3,c3,rfl,rfl,hfu⟩;refine go1 8 [.own] [] ?_;intro bm;refine dV 1 (v:=.slice A1 E.inp.length c1) (e:=122) (kk:=7) (l:=zK E.inp) ?_; intro W8 S9 fri;refine kV 57 8 ?_;refine g_callE (Bi:=[.row (Vz) 57 8 ([]),.box bm [.slice A' n c',.slice B' m d',Vi E.pol.t,Vi E.pol.b,Vi E.pol.c,.slice A1 E.inp.length c1,.slice A2 n c2,.slice A3 n c3,Vi E.now,Vi E.last,Vz],.row (.slice A2 n c2) 130 10 (iK E.calls),.row (.slice A3 n c3) 44 3 (kZ E.vals)]) [0,1,2,3] (λH sH=>hse _ _ _ _ _ _ _ (.slice B' m d') (.slice A1 E.inp.length c1) (Vz) _ ((hfu.sees (S9.trans sH))).fields (fri.sees sH)) ?_; rintro _ _ W10 S11 ⟨ul,rfl,rfl⟩;refine go0 4 [] [] ?_;refine cV 0 (v:=sL ul) (e:=57) (kk:=8) (l:=nW []) ?_; intro Al cl hE_ul hc_ul hm_ul;rw [show (nW []).length=0 from by first | omega | (simp; done) | (simp; omega)] at hE_ul hc_ul;rw [hE_ul];refine oV 28 0 [.pu,.pu,.pu,.ld 1 10,.pu,.pu,.pu,.pu,.pu,.pu,.pu,.ld 1 6,.pu,.ld 4 6,.v (λgh=>.bool true),.pu,.pu,.pu,.pu,.pu,.pu,.pu,.ld 1 7,.pu,.ld 4 7,.v (λgh=>.bool true),.pu,.pu] [] (trivial) ?_ ?_
  ·intro R hT hA hmono;refine Aj (r_callq hT hA hmono 50 (λgh=>.bool true) [6,11,13] 14 (by kernel_rfl) (by kernel_rfl) (by kernel_rfl) (λ_=>by kernel_rfl) 2 (GN R 2) (by kernel_rfl) (by kernel_rfl) (λgh=>.slice A2 n c2) 130 10 (iK E.calls) (λ_=>by kernel_rfl) 100 (λgh=>#[.slice A2 n c2,sL (agJ 3 w)]) (λ_ _=>by kernel_rfl) (λgh H bH sH fH rQ=>c_equalCl rQ (hcl.sees (S3.trans (S5.trans (S7.trans (S9.trans (S11.trans sH)))))) (by have:=hok.calls.len; omega))) ?_;refine Aj (r_callq hT hA hmono 61 (λgh=>.bool true) [17,22,24] 25 (by kernel_rfl) (by kernel_rfl) (by kernel_rfl) (λ_=>by kernel_rfl) 3 (GN R 3) (by kernel_rfl) (by kernel_rfl) (λgh=>.slice A3 n c3) 44 3 (kZ E.vals) (λ_=>by kernel_rfl) 19 (λgh=>#[.slice A3 n c3,sL (agJ 4 w)]) (λ_ _=>by kernel_rfl) (λgh H bH sH fH rQ=>c_equalVl rQ (hvl.sees (S3.trans (S5.trans (S7.trans (S9.trans (S11.trans sH)))))) (by have:=hok.vlen; omega))) ?_
   trivial
  rintro W12 S13 -;refine go0 10 [] [] ?_;refine hQ.to [Vi 0] (λH sH=>?_);exact rfl
def setE (E:Eg) (ρ:List Int):Sst:=qY E.fm.fields E.pol E.now E.inp ⟨E.calls,E.vals,[],E.last,[]⟩ (mX ρ E.fm.fields.length)
def settE (E:Eg) (ρ:List Int):Eg:={ E with calls:=(setE E ρ).calls,vals:=(setE E ρ).vals,last:=(setE E ρ).last }
theorem setE_run {E:Eg} {ρ:List Int} {lv:Nat -> Nat} (hok:EgOk E ρ lv):RunS E.fm.fields E.pol E.now E.inp ⟨E.calls,E.vals,[],E.last,[]⟩ (mX ρ E.fm.fields.length) (setE E ρ):=by
 have few:=hok.fm.fields.few;have one:=hok.one;have hl:=hok.l1;have hod:Ordd E.fm.fields ρ lv (mX ρ E.fm.fields.length):=ordL_ordd hok.fm.rank (by omega);have h:=runS_inv (s0:=⟨E.calls,E.vals,[],E.last,[]⟩) (os:=mX ρ E.fm.fields.length) hok.pol hok.fm.fields hok.ki hok.n0 hok.n1 hok.calls hok.vlen rfl hok.l0 (by rw [hod.len]; show E.last + _ <= _; omega) (λi q=>hod.lt q) _ (Ij _);rw [Qk] at h;exact h
theorem settE_ok {E:Eg} {ρ:List Int} {lv:Nat -> Nat} (hok:EgOk E ρ lv) (hl:(setE E ρ).last <= 1073741810):EgOk (settE E ρ) ρ lv:=by
 have R:=setE_run hok;have h0:=hok.l0;have h1:=R.lo;simp only at h1;exact ⟨hok.fm,hok.one,hok.pol,hok.ki,hok.k0,hok.once,hok.li,R.calls,R.vlen,hok.n0,hok.n1,by show 0 <= (setE E ρ).last; omega,hl⟩
theorem ordL_nodup {fs:List Fd} {ρ:List Int} {lv:Nat -> Nat} {os:List Nat} (h:Ordd fs ρ lv os):os.Nodup:=by
 exact h.perm.nodup_iff.2 Rw
theorem settE_settled {E:Eg} {ρ:List Int} {lv:Nat -> Nat} (hok:EgOk E ρ lv):Settled (settE E ρ) ρ:=by
 have few:=hok.fm.fields.few;have one:=hok.one;have hod:Ordd E.fm.fields ρ lv (mX ρ E.fm.fields.length):=ordL_ordd hok.fm.rank (by omega);have h:=runS_fix E.fm.fields E.pol E.now E.inp ⟨E.calls,E.vals,[],E.last,[]⟩ (ordL_nodup hod) hok.calls.len hok.vlen rfl E.now (setE E ρ).last _ (Ij _);rw [Qk] at h;exact ⟨_,h⟩
theorem settle_eg (E:Eg) (ρ:List Int) (lv:Nat -> Nat) (hok:EgOk E ρ lv) (b n:Nat) (hn:E.fm.fields.length=n) (A A2 A3:Option Addr) (c c2 c3:Nat) (gv iv lw0:Value) (h:Vw) (hf:IsFds h (.slice A n c) E.fm.fields) (hi:RS h 7 (sL iv) (zK E.inp)) (hl:(setE E ρ).last <= 1073741810) :
  ConE Tryz.prog 44 #[.pointer (some ⟨b,0,none⟩)] h
   [.row (sL lw0) 57 8 (nW []),.box b [.slice A n c,sL gv,Vi E.pol.t,Vi E.pol.b,Vi E.pol.c,sL iv,.slice A2 n c2,.slice A3 n c3,Vi E.now,Vi E.last,sL lw0],.row (.slice A2 n c2) 130 10 (iK E.calls),.row (.slice A3 n c3) 44 3 (kZ E.vals)]
   (λv Bo _=>DonR (setE E ρ) b [.slice A n c,sL gv,Vi E.pol.t,Vi E.pol.b,Vi E.pol.c,sL iv,.slice A2 n c2,.slice A3 n c3,Vi E.now] (.slice A2 n c2) (.slice A3 n c3) v Bo):=by
 have few:=hok.fm.fields.few;have hl1:=hok.l1;have hli:=hok.li;have h0:=hok.l0;have R:=(setE_run hok).lo;simp only at R;have hs:=λH (s:Sees h H)=>settle_con E.fm ρ lv hok.fm b n A A2 A3 c c2 c3 gv iv lw0 E.pol hok.pol E.now E.last hok.n0 hok.n1 hok.l0 (by omega) E.calls E.vals [] E.inp H (hf.sees s) hn.symm (by have:=hok.one; omega) hok.calls (hok.vlen.trans hn) (hi.sees s) hok.ki (by omega) (by simp);subst hn;exact done_con (setE E ρ) b _ A A2 A3 c c2 c3 gv iv lw0 E.pol E.now E.last hok.n0 hok.n1 E.calls E.vals [] h (by omega) hl hs
structure TelF (h:Vw) (u:Value) (E:Eg) (lt:List Lt):Prop where
 eng:IsEng h u E
 out:RS h 8 (sL (agJ 5 u)) (nW lt)
theorem TelF.sees {h h':Vw} {u:Value} {E:Eg} {lt:List Lt} (k:TelF h u E lt) (s:Sees h h'):TelF h' u E lt:=⟨k.eng.sees s,k.out.sees s⟩
def newE (f:Fm) (p:Pol):Eg:=⟨f,p,[],List.replicate f.fields.length clZ,List.replicate f.fields.length zV,0,0⟩
theorem newE_ok {f:Fm} {ρ:List Int} {lv:Nat -> Nat} (hok:OkFm f ρ lv) (h1:1 <= f.fields.length) {p:Pol} (hp:p.ok):EgOk (newE f p) ρ lv:=by
 refine ⟨hok,h1,hp,λq hq=>(by cases hq),λq hq=>(by cases hq),List.Pairwise.nil,Mj _,⟨Rv,λi g c hg hc=>?_⟩,Rv,Gv 0,by show (0:Int) <= _; decide,Gv 0,by show (0:Int) <= _; decide⟩;obtain rfl:=(List.mem_replicate.1 (Ej hc)).2;exact ⟨.inl rfl,λq=>absurd rfl q,λq=>absurd (show (0:Int)=2 from q) (by decide)⟩
theorem newE_last {f:Fm} {ρ:List Int} {lv:Nat -> Nat} (hok:OkFm f ρ lv) (h1:1 <= f.fields.length) {p:Pol} (hp:p.ok):0 <= (setE (newE f p) ρ).last /\ (setE (newE f p) ρ).last <= 14:=by
 have R:=setE_run (newE_ok hok h1 hp);have few:=hok.fields.few;have hod:Ordd f.fields ρ lv (mX ρ f.fields.length):=ordL_ordd hok.rank (by omega);have h1:=R.lo;have h2:=R.hi;have h3:(mX ρ (newE f p).fm.fields.length).length=f.fields.length:=hod.len;rw [h3] at h2;have h4:(newE f p).last=0:=rfl;simp only [h4] at h1 h2;omega
def FormU (h:Vw) (u:Value) (f:Fm):Prop:=IsForm h (sL (agJ 0 u)) (sL (agJ 1 u)) f
theorem FormU.sees {h h':Vw} {u:Value} {f:Fm} (k:FormU h u f) (s:Sees h h'):FormU h' u f:=IsForm.sees k s
theorem rep_cl (n:Nat):List.replicate n [Vi 0,Vi 0,Vi 0,Vi 0,Vi 0,.string ⟨#[]⟩,Vi 0,Vi 0,.string ⟨#[]⟩,Vi 0]=iK (List.replicate n clZ):=by unfold iK; rw [List.map_replicate]; rfl
theorem rep_vl (n:Nat):List.replicate n [Vi 0,Vi 0,.string ⟨#[]⟩]=kZ (List.replicate n zV):=by unfold kZ; rw [List.map_replicate]; rfl
theorem form_one (l:List RawD):1 <= (nQ l).fields.length:=by have:=oQ l; have:=rW l; omega
def Sst.pre (s:Sst) (lt:List Lt):Sst:={ s with out:=lt++s.out }
def heardC (x:Lt) (c:Cl):Cl:=⟨2,c.id,c.tr,c.key,x.ans,0⟩
def hearE (E:Eg) (i:Nat) (x:Lt) (c:Cl):Eg:={ E with calls:=E.calls.set i (heardC x c) }
def Takes (f:Fd) (x:Lt) (c:Cl):Prop:=c.st=1 /\ c.id=x.id /\ eqB c.key x.key=true /\ x.ans.k <= 3 /\ x.ans.k=f.ty
theorem hearE_ok {E:Eg} {ρ:List Int} {lv:Nat -> Nat} (hok:EgOk E ρ lv) {i:Nat} {f:Fd} {x:Lt} {c:Cl} (hf:E.fm.fields[i]?=some f) (hc:E.calls[i]?=some c) (hx:OkV x.ans) (ht:Takes f x c):EgOk (hearE E i x c) ρ lv:=by
 obtain ⟨t1,t2,t3,t4,t5⟩:=ht;obtain ⟨d1,d2,d3⟩:=hok.calls.at_ i f c hf hc;have h1:=(hear_ok (id:=x.id) (key:=x.key) d1 hx).1;rw [hear_yes t1 t2 t3 t4] at h1;refine ⟨hok.fm,hok.one,hok.pol,hok.ki,hok.k0,hok.once,hok.li,⟨by show (E.calls.set i _).length=_; rw [Wq]; exact hok.calls.len,λj g d hg hd=>?_⟩,hok.vlen,hok.n0,hok.n1,hok.l0,hok.l1⟩;rcases set_at hd with ⟨rfl,rfl⟩ | ⟨-,hd⟩
 ·have hg:E.fm.fields[j]?=some g:=hg;rw [hf] at hg;obtain rfl:=Zk hg;exact ⟨h1,λ_=>⟨(d2 (by omega)).1,(d2 (by omega)).2⟩,λ_=>t5⟩
 ·exact hok.calls.at_ j g d hg hd
def HeaR (E:Eg) (lt:List Lt) (t:Bool) (r:Value) (h:Vw):Prop:=∃ u,r=.tuple #[.agg (eA u E),sL (agJ 5 u),.bool t,Vi 0] /\ TelF h u E lt
theorem hear_any (E:Eg) (ρ:List Int) (lv:Nat -> Nat) (hok:EgOk E ρ lv) (hse:Settled E ρ) (i:Nat) (f:Fd) (x:Lt) (c:Cl) (hf:E.fm.fields[i]?=some f) (hc:E.calls[i]?=some c) (hn:x.nm=f.name) (hx:OkV x.ans) (ht:Takes f x c) (hl:(setE (hearE E i x c) ρ).last <= 1073741810) (w:Value) (h:Vw) (hE:IsEng h w E) :
  C0 Tryz.prog 45 #[.agg (eA w E),.agg #[Vt x.nm,Vi x.id,Vi x.key.k,Vi x.key.n,.string x.key.s,Vi x.ans.k,Vi x.ans.n,.string x.ans.s]] h (λr h'=>HeaR (settE (hearE E i x c) ρ) (setE (hearE E i x c) ρ).out true r h'):=by
 have few:=hok.fm.fields.few;have hck:=λH q=>egCheck_any E ρ lv hok hse w H q;have hcp:=λH q=>engCopy_form E ρ lv hok w _ _ rfl rfl H q;have hfi:=λH q=>find_yes E.fm.fields (sL (agJ 0 w)) x.nm i H q (by omega) (by rw [hn]; exact kQ hok.fm.fields.nodup hf);have hhe:=λH=>c_hear E.pol hok.pol c (hok.calls.at_ i f c hf hc).1 x.id x.key x.ans hx H;have hok':=hearE_ok hok hf hc hx ht;have hdn:=λb n hn A A2 A3 c1 c2 c3 gv iv lw0 H q1 q2=>settle_eg (hearE E i x c) ρ lv hok' b n hn A A2 A3 c1 c2 c3 gv iv lw0 H q1 q2 hl;obtain ⟨t1,t2,t3,t4,t5⟩:=ht;rw [hear_yes t1 t2 t3 t4] at hhe;have hhe:∀ H,C0 Tryz.prog 97 #[.agg #[Vi c.st,Vi c.id,Vi c.tr,Vi c.key.k,Vi c.key.n,.string c.key.s,Vi c.has.k,Vi c.has.n,.string c.has.s,Vi c.nx],.agg #[Vi E.pol.t,Vi E.pol.b,Vi E.pol.c],Vi x.id,.agg #[Vi x.key.k,Vi x.key.n,.string x.key.s],.agg #[Vi x.ans.k,Vi x.ans.n,.string x.ans.s]] H (λr _=>r=wakeR (heardC x c,true)):=hhe;have hrc:=clRows_get hc;have hil:=(Qj.1 hf).1;have hcl:=hok.calls.len;have hcs:=clRows_set E.calls i (heardC x c);have ht1:(hearE E i x c).fm=E.fm:=rfl;have ht2:(hearE E i x c).inp=E.inp:=rfl;have ht3:(hearE E i x c).pol=E.pol:=rfl;have ht4:(hearE E i x c).now=E.now:=rfl;have ht5:(hearE E i x c).last=E.last:=rfl;have ht6:(hearE E i x c).vals=E.vals:=rfl;have ht7:(hearE E i x c).calls=E.calls.set i (heardC x c):=rfl;generalize heardC x c=y at *;obtain ⟨S,hS⟩:∃ S,setE (hearE E i x c) ρ=S:=⟨_,rfl⟩;have hres:settE (hearE E i x c) ρ={ E with calls:=S.calls,vals:=S.vals,last:=S.last }:=by rw [<- hS]; rfl
 rw [hres];rw [hS] at hdn ⊢;rw [ht1,ht2,ht3,ht4,ht5,ht6,ht7] at hdn;generalize hn:E.fm.fields.length=n at *;generalize hm:E.fm.pages.length=m at *;generalize hlen:E.inp.length=len at *;refine yQ Tryz.func45 λhbx hbad Q hQ=>?_;refine go3 55 [.own,.own,.own,.b 2 0,.cl 47 #[.agg (eA w E)] (Vi 0),.b 2 0,.b 1 0,.cl 96 #[sL (agJ 0 w),.string x.nm] (.tuple #[Vi (i:Int),Vi 0]),.b 2 0] [] ?_ (ho:=(Aj (λH sH=>hck _ (hE.sees sH)) (Aj (λH sH=>hfi _ ((hE.sees sH)).form.fields) (trivial))));intro b1 b2 b3;refine g_callE (Bi:=[]) [] (λH sH=>hcp _ (hE.sees sH)) ?_; rintro _ _ W4 S5 ⟨A',c',B',d',A1,c1,A2,c2,A3,c3,rfl,rfl,hfu⟩;refine go1 6 [.own] [] ?_;intro bm;refine dV 1 (v:=.slice A1 len c1) (e:=122) (kk:=7) (l:=zK E.inp) ?_; intro W6 S7 fri;refine g_get (λa w hJ=>own_some (hJ.rowOwn (v:=.slice A2 n c2) (e:=130) (kk:=10) (l:=iK E.calls) 1 (by kernel_rfl)) ((by rw [Gj]; omega))) ?_; rintro ⟨bcs,rfl⟩;obtain ⟨vs,A4,c4,e4,-,-,hr4,hs4,hl4,-⟩:=fQ hfu.fields;rw [hn] at e4 hr4 hl4;simp only [Kk] at e4;obtain ⟨rfl,-,rfl⟩:=e4;obtain ⟨u,hu⟩:∃ u,vs[i]?=some u:=⟨_,Fj (by omega)⟩;have hrow:=cQ hf hu;obtain ⟨Au,nu,cu,rfl⟩:=(AllSrc.get hs4 hf hu).slice;refine oV 28 1 [.pu,.pu,.pu,.pu,.ld 1 6,.pu,.v (λgh=>.pointer (some ⟨bcs,0 + i * 10,none⟩)),.v (λgh=>.agg #[Vi c.st,Vi c.id,Vi c.tr,Vi c.key.k,Vi c.key.n,.string c.key.s,Vi c.has.k,Vi c.has.n,.string c.has.s,Vi c.nx]),.pu,.pu,.pu,.pu,.ld 1 2,.pu,.ld 5 1,.pu,.ld 5 2,.pu,.ld 5 5,.v (λgh=>.tuple #[.agg #[Vi y.st,Vi y.id,Vi y.tr,Vi y.key.k,Vi y.key.n,.string y.key.s,Vi y.has.k,Vi y.has.n,.string y.has.s,Vi y.nx],.bool true,Vi 0]),.pu,.pu,.pu,.pu,.al 0,.st 0 0,.pu,.pu] [(24,true)] (trivial) ?_ ?_
 ·intro R hT hA hmono;refine Aj (eZ hT hA bcs 0 n c2 i (λgh=>.pointer (some ⟨bcs,0 + i * 10,none⟩)) (by first | omega | (simp; omega))) ?_;refine Aj (r_rowget' hT hA 48 (λgh=>.agg #[Vi c.st,Vi c.id,Vi c.tr,Vi c.key.k,Vi c.key.n,.string c.key.s,Vi c.has.k,Vi c.has.n,.string c.has.s,Vi c.nx]) [6] 7 2 (GN R 2) bcs n c2 10 130 (iK E.calls) i 0 (r:=[Vi c.st,Vi c.id,Vi c.tr,Vi c.key.k,Vi c.key.n,.string c.key.s,Vi c.has.k,Vi c.has.n,.string c.has.s,Vi c.nx]) (hrc) 130 (.tmp 47)) ?_;refine Aj (t_v hT hA hmono (k:=97) (args:=(λgh=>#[.agg #[Vi c.st,Vi c.id,Vi c.tr,Vi c.key.k,Vi c.key.n,.string c.key.s,Vi c.has.k,Vi c.has.n,.string c.has.s,Vi c.nx],.agg #[Vi E.pol.t,Vi E.pol.b,Vi E.pol.c],Vi x.id,.agg #[Vi x.key.k,Vi x.key.n,.string x.key.s],.agg #[Vi x.ans.k,Vi x.ans.n,.string x.ans.s]])) (f:=λgh=>.tuple #[.agg #[Vi y.st,Vi y.id,Vi y.tr,Vi y.key.k,Vi y.key.n,.string y.key.s,Vi y.has.k,Vi y.has.n,.string y.has.s,Vi y.nx],.bool true,Vi 0]) (λgh H sH fH lent=>hhe _)) ?_
  trivial
 rintro b8 W9 S10 -;refine go0 3 [] [] ?_;obtain ⟨b11,o12,rfl,-,c13⟩:=RS.row hr4 (hrow);refine zQ (c13.sees (S7.trans S10)) ?_;refine oV 18 0 [.pu,.pu,.pu,.pu,.pu,.ld 5 5,.pu,.pu,.pu,.pu,.pu,.ld 1 0,.pu,.v (λgh=>.pointer (some ⟨b11,o12 + i * 9,none⟩)),.pu,.lf 0 2,.v (λgh=>.bool false),.pu] [] (trivial) ?_ ?_
 ·intro R hT hA hmono;refine Aj (eZ hT hA b11 o12 n c' i (λgh=>.pointer (some ⟨b11,o12 + i * 9,none⟩)) (by first | omega | (simp; omega))) ?_;refine Aj (dZ hT hA (λgh=>.bool false) (λgh=>.bool (x.ans.k != f.ty)) (λgh=>Dj Value.bool (Ik.2 t5))) ?_
  trivial
 rintro W14 S15 -;refine go0 5 [] [] ?_;refine oV 9 0 [.pu,.pu,.pu,.pu,.ld 1 6,.pu,.ld 0 0,.v (λgh=>.pointer (some ⟨bcs,0 + i * 10,none⟩)),.s 2 (λgh=>.row (Vs bcs n c2) 130 10 ((iK E.calls).set i [Vi y.st,Vi y.id,Vi y.tr,Vi y.key.k,Vi y.key.n,.string y.key.s,Vi y.has.k,Vi y.has.n,.string y.has.s,Vi y.nx]))] [] (trivial) ?_ ?_
 ·intro R hT hA hmono;refine Aj (eZ hT hA bcs 0 n c2 i (λgh=>.pointer (some ⟨bcs,0 + i * 10,none⟩)) (by first | omega | (simp; omega))) ?_;refine Aj (r_rowset hT hA [0,1,2,3,4,5,6,7] (by kernel_rfl) (by kernel_rfl) (λ_=>by kernel_rfl) 2 (GN R 2) (by kernel_rfl) (by kernel_rfl) (by kernel_rfl) i 0 (g:=bcs) (m:=n) (cap:=c2) (kk:=10) (te:=130) (l:=iK E.calls) (r:=[Vi c.st,Vi c.id,Vi c.tr,Vi c.key.k,Vi c.key.n,.string c.key.s,Vi c.has.k,Vi c.has.n,.string c.has.s,Vi c.nx]) (λgh=>.agg #[Vi y.st,Vi y.id,Vi y.tr,Vi y.key.k,Vi y.key.n,.string y.key.s,Vi y.has.k,Vi y.has.n,.string y.has.s,Vi y.nx]) (λ_=>by kernel_rfl) (λ_=>by kernel_rfl) 130 (.tmp 93) (.tmp 92) (by kernel_rfl) (λ_=>by kernel_rfl) (λ_=>by kernel_rfl) (hrc) (λ_=>by kernel_rfl)) ?_
  trivial
 rintro W16 S17 -;refine go0 4 [] [] ?_;refine eV [(4,Vp b3),(95,Vp bm)] [.box b8 [Vi y.st,Vi y.id,Vi y.tr,Vi y.key.k,Vi y.key.n,.string y.key.s,Vi y.has.k,Vi y.has.n,.string y.has.s,Vi y.nx],.box bm [.slice (some ⟨b11,o12,none⟩) n c',.slice B' m d',Vi E.pol.t,Vi E.pol.b,Vi E.pol.c,.slice A1 len c1,Vs bcs n c2,.slice A3 n c3,Vi E.now,Vi E.last,Vz],.row (Vs bcs n c2) 130 10 ((iK E.calls).set i [Vi y.st,Vi y.id,Vi y.tr,Vi y.key.k,Vi y.key.n,.string y.key.s,Vi y.has.k,Vi y.has.n,.string y.has.s,Vi y.nx]),.row (.slice A3 n c3) 44 3 (kZ E.vals),.box b3 [Vz,Vz,Vi 0,Vi 0,Vi 0,Vz,Vz,Vz,Vi 0,Vi 0],.box b2 [Vt x.nm,Vi x.id,Vi x.key.k,Vi x.key.n,.string x.key.s,Vi x.ans.k,Vi x.ans.n,.string x.ans.s],.box b1 (eL w E)] [(b11,o12 + i * 9,[Vt f.name,Vi f.kind,Vi f.ty,Vi f.src.op,Vi f.src.k,Vi f.src.n,.string f.src.s,.string f.src.nm,.slice Au nu cu])] ?_;rw [hcs];refine kV 57 8 ?_;refine g_callE (Bi:=[.row (Vz) 57 8 ([]),.box bm [.slice (some ⟨b11,o12,none⟩) n c',.slice B' m d',Vi E.pol.t,Vi E.pol.b,Vi E.pol.c,.slice A1 len c1,Vs bcs n c2,.slice A3 n c3,Vi E.now,Vi E.last,Vz],.row (Vs bcs n c2) 130 10 (iK (E.calls.set i y)),.row (.slice A3 n c3) 44 3 (kZ E.vals)]) [0,2,3,4] (λH sH=>hdn bm n rfl _ (some ⟨bcs,0,none⟩) A3 c' c2 c3 (.slice B' m d') (.slice A1 len c1) (Vz) _ ((hfu.sees (S7.trans (S10.trans (S15.trans (S17.trans sH)))))).fields (fri.sees (S10.trans (S15.trans (S17.trans sH))))) ?_; rintro _ _ W18 S19 ⟨ul,rfl,rfl⟩;refine go1 24 [.own,.b 0 0,.b 0 0,.b 6 0] [] ?_;intro b20;refine dV 1 (v:=sL ul) (e:=57) (kk:=8) (l:=nW S.out) ?_; intro W21 S22 fl;refine dV 2 (v:=Vs bcs n c2) (e:=130) (kk:=10) (l:=iK S.calls) ?_; intro W23 S24 fc;refine dV 2 (v:=.slice A3 n c3) (e:=44) (kk:=3) (l:=kZ S.vals) ?_; intro W25 S26 fv;refine hQ.to [.agg #[.slice (some ⟨b11,o12,none⟩) n c',.slice B' m d',Vi E.pol.t,Vi E.pol.b,Vi E.pol.c,.slice A1 len c1,Vs bcs n c2,.slice A3 n c3,Vi E.now,Vi S.last],sL ul,.bool true,Vi 0] (λH sH=>?_) (ix:=[3]);exact (⟨.agg #[.slice _ n c',.slice B' m d',.slice A1 len c1,Vs bcs n c2,.slice A3 n c3,ul],rfl,⟨⟨(hfu.sees (S7.trans (S10.trans (S15.trans (S17.trans (S19.trans (S22.trans (S24.trans (S26.trans sH))))))))),(fri.sees (S10.trans (S15.trans (S17.trans (S19.trans (S22.trans (S24.trans (S26.trans sH)))))))),(fc.sees (S26.trans sH)),(fv.sees sH)⟩,(fl.sees (S24.trans (S26.trans sH)))⟩⟩:HeaR { E with calls:=S.calls,vals:=S.vals,last:=S.last } S.out true _ _)
def cntX:Ex:=.mk 5 0 0 ⟨#[]⟩ ⟨#[]⟩ [refE ⟨#[97]⟩,.mk 1 1 2 ⟨#[]⟩ ⟨#[]⟩ []]
def cntB:Ex:=refE ⟨#[98]⟩
def cntF:Fm:=⟨[⟨⟨#[97]⟩,1,1,zE⟩,⟨⟨#[98]⟩,2,1,cntX⟩,⟨⟨#[99]⟩,3,3,cntB⟩],[⟨⟨#[112]⟩,[⟨#[97]⟩,⟨#[99]⟩],zE⟩]⟩
theorem cntX_wf:WfE cntX:=by
 refine WfE.mk' (.inr (.inr ⟨(by decide:(3:Int) <= 5),(by decide:(5:Int) <= 18),rfl,rfl,rfl,rfl,rfl⟩)) (WfL.all λy hy=>?_);have hy:y∈[refE ⟨#[97]⟩,Ex.mk 1 1 2 ⟨#[]⟩ ⟨#[]⟩ []]:=hy;rcases Tj.1 hy with rfl | hy
 ·exact (wf_leaf (refE_ok ⟨by decide,by decide,⟨_,rfl,by decide⟩,by decide,by decide⟩) rfl).1
 ·rw [Oj.1 hy];exact (wf_leaf (x:=.mk 1 1 2 ⟨#[]⟩ ⟨#[]⟩ []) (.inl ⟨rfl,.inl ⟨rfl,(by unfold Lim; decide:Lim 2),rfl⟩,λ_=>(by decide:(0:Int) <= 2),rfl,rfl⟩) rfl).1
theorem cntB_wf:WfE cntB:=(wf_leaf (refE_ok (s:=⟨#[98]⟩) ⟨by decide,by decide,⟨_,rfl,by decide⟩,by decide,by decide⟩) rfl).1
theorem cnt_ok:OkFs cntF.fields:=by
 refine ⟨λf hf=>?_,by decide,by decide⟩;have hf:f∈[(⟨⟨#[97]⟩,1,1,zE⟩:Fd),⟨⟨#[98]⟩,2,1,cntX⟩,⟨⟨#[99]⟩,3,3,cntB⟩]:=hf;rcases Tj.1 hf with rfl | hf
 ·exact ⟨⟨by decide,by decide,⟨_,rfl,by decide⟩,by decide,by decide⟩,by decide,by decide,by decide,by decide,λ_=>rfl,λh=>absurd rfl h,λh=>absurd h (show ¬ (1:Int)=2 by decide),λh=>absurd h (show ¬ (1:Int)=3 by decide)⟩
 ·rcases Tj.1 hf with rfl | hf
  ·exact ⟨⟨by decide,by decide,⟨_,rfl,by decide⟩,by decide,by decide⟩,by decide,by decide,by decide,by decide,λh=>absurd h (show ¬ (2:Int)=1 by decide),λ_=>⟨cntX_wf,by decide,by decide⟩,λ_=>by decide,λh=>absurd h (show ¬ (2:Int)=3 by decide)⟩
  ·rw [Oj.1 hf];exact ⟨⟨by decide,by decide,⟨_,rfl,by decide⟩,by decide,by decide⟩,by decide,by decide,by decide,by decide,λh=>absurd h (show ¬ (3:Int)=1 by decide),λ_=>⟨cntB_wf,by decide,by decide⟩,λh=>absurd h (show ¬ (3:Int)=2 by decide),λ_=>⟨1,by decide,by decide,by decide⟩⟩
theorem cnt_one {x:Ex} {s:ByteArray} (h:gY x=[s]):sW x=[s]:=by
 unfold sW namesB;rw [h];have e:dd ([s].map λs:ByteArray=>s.data.toList)=[s.data.toList]:=by simp [dd]
 rw [e,List.mergeSort_singleton];simp
theorem cnt_needs:wW cntF.fields=[[],[0],[1]]:=by
 have e1:sW cntX=[⟨#[97]⟩]:=cnt_one (by decide);have e2:sW cntB=[⟨#[98]⟩]:=cnt_one (by decide);show [needE cntF.fields ⟨⟨#[97]⟩,1,1,zE⟩,needE cntF.fields ⟨⟨#[98]⟩,2,1,cntX⟩,needE cntF.fields ⟨⟨#[99]⟩,3,3,cntB⟩]=_;unfold needE;rw [Cj rfl,Bj (by decide),Bj (by decide)];have p1:plc cntF.fields ⟨#[97]⟩=0:=by
  unfold plc;rw [show (⟨#[97]⟩:ByteArray)=(⟨⟨#[97]⟩,1,1,zE⟩:Fd).name from rfl,kQ cnt_ok.nodup (i:=0) rfl]; rfl
 have p2:plc cntF.fields ⟨#[98]⟩=1:=by
  unfold plc;rw [show (⟨#[98]⟩:ByteArray)=(⟨⟨#[98]⟩,2,1,cntX⟩:Fd).name from rfl,kQ cnt_ok.nodup (i:=1) rfl]; rfl
 simp only [e1,e2,Gk,Zq,p1,p2]
def cntL (i:Nat):Nat:=[0,1,2].getD i 0
theorem cnt_ranked:Ranked (wW cntF.fields) [0,1,2] cntL:=by
 rw [cnt_needs];exact ranked_ex (need:=[[],[0],[1]]) (lv:=cntL) (by decide) (by decide)
theorem cnt_okG:OkGs cntF.fields cntF.pages:=by
 have hm:∀ p∈cntF.pages,p=⟨⟨#[112]⟩,[⟨#[97]⟩,⟨#[99]⟩],zE⟩:=λp hp=>Oj.1 hp;have p1:jQ cntF.fields ⟨#[97]⟩=(0:Nat):=kQ cnt_ok.nodup (i:=0) (f:=⟨⟨#[97]⟩,1,1,zE⟩) rfl;have p2:jQ cntF.fields ⟨#[99]⟩=(2:Nat):=kQ cnt_ok.nodup (i:=2) (f:=⟨⟨#[99]⟩,3,3,cntB⟩) rfl;refine ⟨by decide,by decide,λp h=>?_,by decide,λp h=>?_,λp h s hs=>?_,by decide,λp h=>?_⟩
 ·rw [hm p h]; exact ⟨by decide,by decide,⟨_,rfl,by decide⟩,by decide,by decide⟩
 ·rw [hm p h]; decide
 ·rw [hm p h] at hs;have hs:s∈[(⟨#[97]⟩:ByteArray),⟨#[99]⟩]:=hs;rcases Tj.1 hs with rfl | hs
  ·rw [p1]; decide
  ·rw [Oj.1 hs,p2]; decide
 ·rw [hm p h]; exact .inl rfl
theorem cnt_fm:OkFm cntF [0,1,2] cntL:=⟨cnt_ok,cnt_okG,cnt_ranked⟩
theorem cnt_ord:mX [0,1,2] 3=[0,1,2]:=by
 obtain ⟨hp,hr⟩:=ordL_spec [0,1,2] 3 (by decide);generalize mX [0,1,2] 3=os at *;have hl:os.length=3:=hp.length_eq;obtain ⟨a,b,c,rfl⟩:∃ a b c,os=[a,b,c]:=by
  match os,hl with
  | [a,b,c],_=>exact ⟨a,b,c,rfl⟩
 have h1:=hr 0 1 a b (by decide) rfl rfl;have h2:=hr 1 2 b c (by decide) rfl rfl;have hn:=hp.nodup_iff.2 Rw;have ha:=Uk.1 (hp.mem_iff.1 (show a∈[a,b,c] by simp));have hb:=Uk.1 (hp.mem_iff.1 (show b∈[a,b,c] by simp));have hc:=Uk.1 (hp.mem_iff.1 (show c∈[a,b,c] by simp));simp only [Uq,Tj,Qv,or_false,not_or] at hn;rcases (by omega:a=0\/a=1\/a=2) with rfl | rfl | rfl <;> rcases (by omega:b=0\/b=1\/b=2) with rfl | rfl | rfl <;> rcases (by omega:c=0\/c=1\/c=2) with rfl | rfl | rfl <;> first | rfl | omega | (exfalso; revert h1 h2; decide)
def cntP:Pol:=⟨2,3,9⟩
theorem cntP_ok:cntP.ok:=⟨by decide,by decide,by decide,by decide,by decide⟩
def cntC:Cl:=⟨1,1,1,⟨1,0,⟨#[]⟩⟩,zV,3⟩
def cnt0:Lt:=⟨⟨#[99]⟩,1,⟨1,0,⟨#[]⟩⟩,zV⟩
def cnt1:Lt:=⟨⟨#[99]⟩,1,⟨1,0,⟨#[]⟩⟩,⟨3,0,⟨#[111,107]⟩⟩⟩
theorem cnt_set:setE (newE cntF cntP) [0,1,2]=⟨[clZ,clZ,cntC],[⟨1,0,⟨#[]⟩⟩,⟨1,0,⟨#[]⟩⟩,pdV],[(⟨#[97]⟩,⟨1,0,⟨#[]⟩⟩),(⟨#[98]⟩,⟨1,0,⟨#[]⟩⟩),(⟨#[99]⟩,pdV)],1,[cnt0]⟩:=by
 unfold setE;show qY _ _ _ _ _ (mX [0,1,2] 3)=_;rw [cnt_ord]
 kernel_rfl
def cntEg:Eg:=⟨cntF,cntP,[],[clZ,clZ,cntC],[⟨1,0,⟨#[]⟩⟩,⟨1,0,⟨#[]⟩⟩,pdV],0,1⟩
theorem cnt_sett:settE (newE cntF cntP) [0,1,2]=cntEg:=by unfold settE; rw [cnt_set]; rfl
theorem cnt_hear:(setE (hearE cntEg 2 cnt1 cntC) [0,1,2]).vals=[⟨1,0,⟨#[]⟩⟩,⟨1,0,⟨#[]⟩⟩,⟨3,0,⟨#[111,107]⟩⟩] /\ (setE (hearE cntEg 2 cnt1 cntC) [0,1,2]).last=1:=by
 unfold setE;show (qY _ _ _ _ _ (mX [0,1,2] 3)).vals=_ /\ (qY _ _ _ _ _ (mX [0,1,2] 3)).last=_;rw [cnt_ord];exact ⟨by kernel_rfl,by kernel_rfl⟩
theorem cntE_ok:EgOk cntEg [0,1,2] cntL:=by
 have:=settE_ok (newE_ok cnt_fm (by decide) cntP_ok) (by rw [cnt_set]; decide)
 rwa [cnt_sett] at this
theorem cntE_settled:Settled cntEg [0,1,2]:=by
 have:=settE_settled (newE_ok cnt_fm (by decide) cntP_ok)
 rwa [cnt_sett] at this
theorem cnt_takes:Takes ⟨⟨#[99]⟩,3,3,cntB⟩ cnt1 cntC:=⟨rfl,rfl,by kernel_rfl,by decide,rfl⟩
def NewR (E:Eg) (lt:List Lt) (v:Value) (Bo:List Ent) (H:Vw):Prop:=∃ u A c,v=.tuple #[.agg (eA u E),.slice A lt.length c,Vi 0] /\ Bo=[.row (.slice A lt.length c) 57 8 (nW lt)] /\ IsEng H u E
theorem new_con (f:Fm) (ρ:List Int) (lv:Nat -> Nat) (hok:OkFm f ρ lv) (h1:1 <= f.fields.length) (p:Pol) (hp:p.ok) (fv pv:Value) (h:Vw) (hf:IsForm h fv pv f) :
  ConE Tryz.prog 11 #[.agg #[fv,pv],.agg #[Vi p.t,Vi p.b,Vi p.c]] h [] (NewR (settE (newE f p) ρ) (setE (newE f p) ρ).out):=by
 have few:=hok.fields.few;have hgc:=c_gapChk p hp;have hnl:=(newE_last hok h1 hp).2;have hok':=newE_ok hok h1 hp;have hdn:=λb n hn A A2 A3 c c2 c3 gv iv lw0 H q1 q2=>settle_eg (newE f p) ρ lv hok' b n hn A A2 A3 c c2 c3 gv iv lw0 H q1 q2 (by omega);have hS:=λfv pv H q=>shCopy_any f ρ lv hok fv pv H q;obtain ⟨vs,A,c,rfl,-,-,-,-,-,-⟩:=fQ hf.fields;obtain ⟨us,ws,B,d,rfl,-,-,-,-,-,-⟩:=sX hf.pages;have hsc:=λH q=>shCheck_any f ρ lv A f.fields.length c B f.pages.length d H hok q rfl;obtain ⟨S,hS'⟩:∃ S,setE (newE f p) ρ=S:=⟨_,rfl⟩;have hres:settE (newE f p) ρ={ newE f p with calls:=S.calls,vals:=S.vals,last:=S.last }:=by unfold settE; rw [hS']
 rw [hS'] at hdn;have hcl:List.replicate f.fields.length [Vi 0,Vi 0,Vi 0,Vi 0,Vi 0,.string ⟨#[]⟩,Vi 0,Vi 0,.string ⟨#[]⟩,Vi 0]=iK (newE f p).calls:=rep_cl f.fields.length;have hvl:List.replicate f.fields.length [Vi 0,Vi 0,.string ⟨#[]⟩]=kZ (newE f p).vals:=rep_vl f.fields.length;generalize hn:f.fields.length=n at *;generalize hm:f.pages.length=m at *;refine g_conE Tryz.func11 λhbad Q hQ=>?_;refine go3 52 [.own,.own,.own,.b 2 0,.cl 41 #[.agg #[.slice A n c,.slice B m d]] (Vi 0),.b 1 0,.cl 42 #[.agg #[Vi p.t,Vi p.b,Vi p.c]] (Vi 0),.b 2 0] [] ?_ (ho:=(Aj (λH sH=>hsc _ (hf.sees sH)) (Aj (λH sH=>hgc _) (trivial))));intro b1 b2 b3;refine oV 11 3 [.ld 5 0,.f (λgh=>.agg #[sL (agJ 0 (gh 1)),sL (agJ 1 (gh 1))]) (λgh hh=>FormU hh (gh 1) f),.ld 4 0,.pu,.e (λgh=>.slice (some ⟨(vJ (gh 4)),0,none⟩) n n) 0 (λgh=>.row (.slice (some ⟨(vJ (gh 4)),0,none⟩) n n) 130 10 (List.replicate n [Vi 0,Vi 0,Vi 0,Vi 0,Vi 0,Ve,Vi 0,Vi 0,Ve,Vi 0])),.pu,.e (λgh=>.slice (some ⟨(vJ (gh 6)),0,none⟩) n n) 1 (λgh=>.row (.slice (some ⟨(vJ (gh 6)),0,none⟩) n n) 44 3 (List.replicate n [Vi 0,Vi 0,Ve])),.pu,.pu,.al 2,.pu] [(1,false),(4,true),(6,true),(9,true)] (Aj (λ_ _ _ s c=>c.sees s) (trivial)) ?_ ?_
 ·intro R hT hA hmono;refine Aj (aY hT hA hmono 27 (λu=>.agg #[sL (agJ 0 u),sL (agJ 1 u)]) [0] 1 43 (λgh=>#[.agg #[.slice A n c,.slice B m d]]) (λgh H sH fH lent=>C0.facts (R:=R) (x:=gh) (i:=1) (n:=0) (F:=(λu=>.agg #[sL (agJ 0 u),sL (agJ 1 u)])) (G:=λu hh=>FormU hh u f) (f:=λgh hh=>FormU hh (gh 1) f) (hS _ _ _ (hf.sees sH)) (by kernel_rfl) (by kernel_rfl) (λ_ _ r=>r))) ?_;refine Aj (r_make hT hA hmono ⟨λ_ _=>by kernel_rfl,λ_ _=>by kernel_rfl,λ_ _=>by kernel_rfl⟩ (by kernel_rfl) 30 [3] 4 n (by kernel_rfl) (λ_=>by kernel_rfl) 0 (GN R 0) (by kernel_rfl) (by kernel_rfl) (by kernel_rfl) (t:=33) (te:=130) (z:=.agg #[Vi 0,Vi 0,Vi 0,Vi 0,Vi 0,Ve,Vi 0,Vi 0,Ve,Vi 0]) (cs:=[Vi 0,Vi 0,Vi 0,Vi 0,Vi 0,Ve,Vi 0,Vi 0,Ve,Vi 0]) (y:=(.tmp 29)) (by_:=96) (kk:=10) (λ_=>by kernel_rfl) (λ_=>by kernel_rfl) (by kernel_rfl) (λ_=>by kernel_rfl) Tryz.underlying33 (by kernel_rfl) rfl rfl (by decide) (by omega) (by omega) (by simp only [maxLen]; omega)) ?_;refine Aj (r_make hT hA hmono ⟨λ_ _=>by kernel_rfl,λ_ _=>by kernel_rfl,λ_ _=>by kernel_rfl⟩ (by kernel_rfl) 32 [5] 6 n (by kernel_rfl) (λ_=>by kernel_rfl) 1 (GN R 1) (by kernel_rfl) (by kernel_rfl) (by kernel_rfl) (t:=34) (te:=44) (z:=.agg #[Vi 0,Vi 0,Ve]) (cs:=[Vi 0,Vi 0,Ve]) (y:=(.tmp 31)) (by_:=32) (kk:=3) (λ_=>by kernel_rfl) (λ_=>by kernel_rfl) (by kernel_rfl) (λ_=>by kernel_rfl) Tryz.underlying34 (by kernel_rfl) rfl rfl (by decide) (by omega) (by omega) (by simp only [maxLen]; omega)) ?_
  trivial
 rintro u27 bcq bvq bm W4 S5 ⟨f27,-⟩;replace f27:FormU W4 u27 f:=f27;refine go0 4 [] [] ?_;obtain ⟨-,A6,c6,e6,-,-,-,-,-,-⟩:=fQ f27.fields;rw [hn] at e6;refine eV [(4,Vp b3),(36,Vp bm)] [.row (Vs bcq n n) 130 10 (List.replicate n [Vi 0,Vi 0,Vi 0,Vi 0,Vi 0,Ve,Vi 0,Vi 0,Ve,Vi 0]),.row (Vs bvq n n) 44 3 (List.replicate n [Vi 0,Vi 0,Ve]),.box bm [sL (agJ 0 u27),sL (agJ 1 u27),Vi p.t,Vi p.b,Vi p.c,Vz,Vs bcq n n,Vs bvq n n,Vi 0,Vi 0,Vz],.box b3 [Vz,Vz,Vi 0,Vi 0,Vi 0,Vz,Vz,Vz,Vi 0,Vi 0],.box b2 [Vi p.t,Vi p.b,Vi p.c],.box b1 [.slice A n c,.slice B m d]] [] ?_;rw [e6,hcl,hvl];have f28:=f27.fields;rw [e6] at f28;refine g_front 2 ?_;refine kV 57 8 ?_;refine g_callE (Bi:=[.row (Vz) 57 8 ([]),.box bm [.slice A6 n c6,sL (agJ 1 u27),Vi p.t,Vi p.b,Vi p.c,Vz,Vs bcq n n,Vs bvq n n,Vi 0,Vi 0,Vz],.row (Vs bcq n n) 130 10 (iK (newE f p).calls),.row (Vs bvq n n) 44 3 (kZ (newE f p).vals)]) [0,1,2,3] (λH sH=>hdn bm n hn A6 (some ⟨bcq,0,none⟩) (some ⟨bvq,0,none⟩) c6 n n (agJ 1 u27) (Vz) (Vz) _ (f28.sees sH) (RS.nil _ 7)) ?_; rintro _ _ W6 S7 ⟨ul,rfl,rfl⟩;refine go0 9 [.b 4 0] [] ?_;refine dV 2 (v:=Vs bcq n n) (e:=130) (kk:=10) (l:=iK S.calls) ?_; intro W8 S9 fc;refine dV 2 (v:=Vs bvq n n) (e:=44) (kk:=3) (l:=kZ S.vals) ?_; intro W10 S11 fv;refine cV 0 (v:=sL ul) (e:=57) (kk:=8) (l:=nW S.out) ?_; intro Al cl hE_ul hc_ul hm_ul;rw [show (nW S.out).length=S.out.length from by first | omega | (simp; done) | (simp; omega)] at hE_ul hc_ul;rw [hE_ul];refine hQ.to [.agg #[.slice A6 n c6,sL (agJ 1 u27),Vi p.t,Vi p.b,Vi p.c,Vz,Vs bcq n n,Vs bvq n n,Vi 0,Vi S.last],.slice Al S.out.length cl,Vi 0] [0] [.row (.slice Al S.out.length cl) 57 8 (nW S.out)] (λH sH=>?_) (ix:=[2]);exact (by rw [hres,hS']; exact ⟨.agg #[.slice A6 n c6,agJ 1 u27,Vz,Vs bcq n n,Vs bvq n n,ul],Al,cl,rfl,rfl,⟨⟨(f28.sees (S7.trans (S9.trans (S11.trans sH)))),IsForm.pages (f27.sees (S7.trans (S9.trans (S11.trans sH))))⟩,RS.nil _ 7,(fc.sees (S11.trans sH)),(fv.sees sH)⟩⟩:NewR (settE (newE f p) ρ) (setE (newE f p) ρ).out _ _ _)
def tkM:List TokA:=[⟨⟨2,[97],0,0,[]⟩,0⟩,⟨⟨4,[42],0,0,[]⟩,2⟩,⟨⟨1,[50],1,2,[]⟩,4⟩]
def tkN:List TokA:=[⟨⟨2,[98],0,0,[]⟩,0⟩]
theorem sim_m:SimT (tkM.map (·.t)):=λk=>by
 match k with
 | 0=>decide
 | 1=>decide
 | 2=>decide
 | k + 3=>exact ⟨rfl,rfl,rfl,rfl,rfl,rfl,rfl⟩
theorem sim_n:SimT (tkN.map (·.t)):=λk=>by
 match k with
 | 0=>decide
 | k + 1=>exact ⟨rfl,rfl,rfl,rfl,rfl,rfl,rfl⟩
theorem tok_m:TokS ⟨#[97,32,42,32,50]⟩ tkM (λj=>[0,1,1,2,2,3].getD j 0):=by
 refine ⟨by decide,by decide,rfl,rfl,λj h e=>?_,λj h e=>?_⟩
 ·have h5:j < 5:=h;rcases (by omega:j=0\/j=1\/j=2\/j=3\/j=4) with rfl | rfl | rfl | rfl | rfl <;> first | rfl | exact absurd e (show ¬ (97:UInt8)=32 by decide) | exact absurd e (show ¬ (42:UInt8)=32 by decide) | exact absurd e (show ¬ (50:UInt8)=32 by decide)
 ·have h5:j < 5:=h;rcases (by omega:j=0\/j=1\/j=2\/j=3\/j=4) with rfl | rfl | rfl | rfl | rfl
  ·exact ⟨rfl,_,rfl,rfl,rfl,rfl,one_a⟩
  ·exact absurd rfl e
  ·exact ⟨rfl,_,rfl,rfl,rfl,rfl,one_m⟩
  ·exact absurd rfl e
  ·exact ⟨rfl,_,rfl,rfl,rfl,rfl,one_2⟩
theorem tok_n:TokS ⟨#[98]⟩ tkN id:=by
 refine ⟨by decide,by decide,rfl,rfl,λj h e=>?_,λj h e=>?_⟩
 ·obtain rfl:j=0:=by have:j < 1:=h; omega
  exact absurd e (show ¬ (98:UInt8)=32 by decide)
 ·obtain rfl:j=0:=by have:j < 1:=h; omega
  exact ⟨rfl,_,rfl,rfl,rfl,rfl,one_b⟩
theorem src_m (H:Vw):C0 Tryz.prog 119 #[Vt ⟨#[97,32,42,32,50]⟩] H (λr h'=>∃ u,r=.tuple #[.agg #[Vi cntX.op,Vi cntX.k,Vi cntX.n,.string cntX.s,.string cntX.nm,sL u],Vi 0] /\ IsArgs h' cntX (sL u)) :=
 parse_s _ tkM cntX 12 H (λH=>tokens_c _ tkM _ tok_m H) sim_m (by decide) (by kernel_rfl) cntX_wf (by decide) (by kernel_rfl)
theorem src_n (H:Vw):C0 Tryz.prog 119 #[Vt ⟨#[98]⟩] H (λr h'=>∃ u,r=.tuple #[.agg #[Vi cntB.op,Vi cntB.k,Vi cntB.n,.string cntB.s,.string cntB.nm,sL u],Vi 0] /\ IsArgs h' cntB (sL u)) :=
 parse_s _ tkN cntB 12 H (λH=>tokens_c _ tkN _ tok_n H) sim_n (by decide) (by kernel_rfl) cntB_wf (by decide) (by kernel_rfl)
theorem cutp_k (s t:ByteArray) (b:Bool) (e1:mkB (Lib.trimPrefix s.data.toList [112,97,103,101,32])=t) (e2:Lib.hasPrefix s.data.toList [112,97,103,101,32]=b) (H:Vw):C0 Tryz.prog 68 #[Vt s,.string ⟨#[112,97,103,101,32]⟩] H (λr _=>r=.tuple #[Vt t,.bool b]):=by
 rw [<- e1, <- e2];exact c_cutp s ⟨#[112,97,103,101,32]⟩ H
theorem ixK (s:ByteArray) (k:Int) (e:wix [105,110,112,117,116] [102,111,114,109,117,108,97] [108,111,111,107,117,112] s.data.toList=k) (H:Vw):C0 Tryz.prog 121 #[.agg #[Vt ⟨#[]⟩,.string ⟨#[105,110,112,117,116]⟩,.string ⟨#[102,111,114,109,117,108,97]⟩,.string ⟨#[108,111,111,107,117,112]⟩],.string s] H (λr _=>r=Vi k):=by
 rw [<- e];exact index_any _ _ _ s H
theorem ixT (s:ByteArray) (k:Int) (e:wix [105,110,116] [98,111,111,108] [116,101,120,116] s.data.toList=k) (H:Vw):C0 Tryz.prog 121 #[.agg #[Vt ⟨#[]⟩,.string ⟨#[105,110,116]⟩,.string ⟨#[98,111,111,108]⟩,.string ⟨#[116,101,120,116]⟩],.string s] H (λr _=>r=Vi k):=by
 rw [<- e];exact index_any _ _ _ s H
theorem str_flat:∀ l:List ByteArray,(l.map λs=>s.data.toList).map (λx=>Value.string (mkB x))=(bZ l).flatten
 | []=>rfl
 | s :: l=>by
  show Value.string (mkB s.data.toList) :: (l.map λs=>s.data.toList).map (λx=>Value.string (mkB x))=Value.string s :: (bZ l).flatten;rw [str_flat l, <- (mkB_eq rfl:s=mkB s.data.toList)]
theorem c_splitR (s sep:ByteArray) (l:List ByteArray) (n:Nat) (hn:l.length=n) (H:Vw) (q:Lk H) (hs:s.size <= 1000) (h1:1 <= sep.size) (n1:n <= 100) (e:Lib.split s.data.toList sep.data.toList=l.map λs=>s.data.toList):C0 Tryz.prog 67 #[Vt s,.string sep] H (λr h'=>∃ b,r=.slice (some ⟨b,0,none⟩) n n /\ RS h' 1 (.slice (some ⟨b,0,none⟩) n n) (bZ l)):=by
 refine (c_splitC s sep _ H q (by omega) h1 e).mono λv h' _ k=>?_;obtain ⟨b,e,c⟩:=k;rw [Gj,hn] at e;rw [str_flat] at c;have hr:=rs_cells (k:=1) (bZ l) (λr hr=>by obtain ⟨s,-,rfl⟩:=Rj.1 hr; rfl) (by rw [Gj]; unfold maxLen; omega) c;rw [Gj,hn] at hr;exact ⟨b,e,hr⟩
def lnA:ByteArray:=⟨#[105,110,112,117,116,32,97,32,105,110,116]⟩
def lnB:ByteArray:=⟨#[102,111,114,109,117,108,97,32,98,32,105,110,116,32,61,32,97,32,42,32,50]⟩
def lnC:ByteArray:=⟨#[108,111,111,107,117,112,32,99,32,116,101,120,116,32,61,32,98]⟩
def lnP:ByteArray:=⟨#[112,97,103,101,32,112,58,32,97,44,32,99]⟩
def lnQ:ByteArray:=⟨#[112,58,32,97,44,32,99]⟩
theorem rd_a (H:Vw) (q:Lk H):C0 Tryz.prog 70 #[Vt lnA] H (λr h'=>∃ u,r=.tuple #[.agg #[Vt ⟨#[97]⟩,Vi 1,Vi 1,Vi zE.op,Vi zE.k,Vi zE.n,.string zE.s,.string zE.nm,sL u],Vi 0] /\ IsArgs h' zE (sL u)) :=
 (rdF_inp lnA (mkB [105,110,112,117,116,32,97,32,105,110,116]) (mkB [105,110,112,117,116]) ⟨#[97]⟩ (mkB [105,110,116]) 1 H q (by decide)
  (λH q=>c_cut lnA ⟨#[32,61,32]⟩ _ _ _ H q (by decide) (by kernel_rfl))
  (λH q=>c_splitC (mkB [105,110,112,117,116,32,97,32,105,110,116]) ⟨#[32]⟩ [[105,110,112,117,116],[97],[105,110,116]] H q (by decide) (by decide) (by kernel_rfl))
  (ixK _ 1 (by kernel_rfl)) (ixT _ 1 (by kernel_rfl)) (λH=>c_name ⟨#[97]⟩ H (cnt_ok.each ⟨⟨#[97]⟩,1,1,zE⟩ (Ej (i:=0) rfl)).name)).mono λv h' _ e=>⟨.slice none 0 0,e,sJ _ _ rfl⟩
theorem rd_b (H:Vw) (q:Lk H):C0 Tryz.prog 70 #[Vt lnB] H (λr h'=>∃ u,r=.tuple #[.agg #[Vt ⟨#[98]⟩,Vi 2,Vi 1,Vi cntX.op,Vi cntX.k,Vi cntX.n,.string cntX.s,.string cntX.nm,sL u],Vi 0] /\ IsArgs h' cntX (sL u)) :=
 rdF_src cntF.fields ⟨⟨#[98]⟩,2,1,cntX⟩ lnB (mkB [102,111,114,109,117,108,97,32,98,32,105,110,116]) ⟨#[97,32,42,32,50]⟩ (mkB [102,111,114,109,117,108,97]) (mkB [105,110,116]) H q (cnt_ok.each _ (Ej (i:=1) rfl)) (by decide)
  (λH q=>c_cut lnB ⟨#[32,61,32]⟩ _ [97,32,42,32,50] _ H q (by decide) (by kernel_rfl))
  (λH q=>c_splitC (mkB [102,111,114,109,117,108,97,32,98,32,105,110,116]) ⟨#[32]⟩ [[102,111,114,109,117,108,97],[98],[105,110,116]] H q (by decide) (by decide) (by kernel_rfl))
  (ixK _ 2 (by kernel_rfl)) (ixT _ 1 (by kernel_rfl)) src_m
theorem rd_c (H:Vw) (q:Lk H):C0 Tryz.prog 70 #[Vt lnC] H (λr h'=>∃ u,r=.tuple #[.agg #[Vt ⟨#[99]⟩,Vi 3,Vi 3,Vi cntB.op,Vi cntB.k,Vi cntB.n,.string cntB.s,.string cntB.nm,sL u],Vi 0] /\ IsArgs h' cntB (sL u)) :=
 rdF_src cntF.fields ⟨⟨#[99]⟩,3,3,cntB⟩ lnC (mkB [108,111,111,107,117,112,32,99,32,116,101,120,116]) ⟨#[98]⟩ (mkB [108,111,111,107,117,112]) (mkB [116,101,120,116]) H q (cnt_ok.each _ (Ej (i:=2) rfl)) (by decide)
  (λH q=>c_cut lnC ⟨#[32,61,32]⟩ _ [98] _ H q (by decide) (by kernel_rfl))
  (λH q=>c_splitC (mkB [108,111,111,107,117,112,32,99,32,116,101,120,116]) ⟨#[32]⟩ [[108,111,111,107,117,112],[99],[116,101,120,116]] H q (by decide) (by decide) (by kernel_rfl))
  (ixK _ 3 (by kernel_rfl)) (ixT _ 3 (by kernel_rfl)) src_n
theorem nm_ok {c:UInt8} (h:isLet c=true) (hk:isKey [c]=false):pJ [c]:=⟨Ij 1,(by decide:1 <= 10),⟨c,rfl,h⟩,by unfold yY; rw [List.takeWhile_cons,show dW c=true by unfold dW; rw [h]; rfl]; rfl,hk⟩
theorem rd_p (H:Vw) (q:Lk H):C0 Tryz.prog 69 #[Vt lnQ] H (λr h'=>∃ u v,r=.tuple #[.agg #[Vt ⟨#[112]⟩,sL u,Vi zE.op,Vi zE.k,Vi zE.n,.string zE.s,.string zE.nm,sL v],Vi 0] /\ RS h' 1 (sL u) (bZ [⟨#[97]⟩,⟨#[99]⟩]) /\ IsArgs h' zE (sL v)) :=
 rdP_c lnQ (mkB [97,44,32,99]) ⟨#[112]⟩ [⟨#[97]⟩,⟨#[99]⟩] 2 H q rfl (by decide) (by rw [Lib.toList_data,Lib.toList_data]; decide)
  (λH q=>c_cut lnQ ⟨#[58,32]⟩ [112] _ _ H q (by decide) (by kernel_rfl))
  (λH q=>c_cut (mkB [97,44,32,99]) ⟨#[59,32]⟩ _ _ _ H q (by decide) (by kernel_rfl))
  (λH q=>c_splitR (mkB [97,44,32,99]) ⟨#[44,32]⟩ [⟨#[97]⟩,⟨#[99]⟩] 2 rfl H q (by decide) (by decide) (by decide) (by kernel_rfl))
  (nm_ok (c:=112) (by decide) (by decide)) (λs hs=>by
   rcases Tj.1 hs with rfl | hs
   ·exact nm_ok (c:=97) (by decide) (by decide)
   ·rw [Oj.1 hs]; exact nm_ok (c:=99) (by decide) (by decide))
def txtK:ByteArray:=⟨#[105,110,112,117,116,32,97,32,105,110,116,10,102,111,114,109,117,108,97,32,98,32,105,110,116,32,61,32,97,32,42,32,50,10,108,111,111,107,117,112,32,99,32,116,101,120,116,32,61,32,98,10,112,97,103,101,32,112,58,32,97,44,32,99]⟩
theorem cnt_rdf:RdF cntF [lnA,lnB,lnC,lnP] (λ_=>lnQ):=by
 refine ⟨λk f hk=>?_,λk p hk=>?_⟩
 ·have h3:k < 3:=(Qj.1 hk).1;rcases (by omega:k=0\/k=1\/k=2) with rfl | rfl | rfl
  ·obtain rfl:⟨⟨#[97]⟩,1,1,zE⟩=f:=Zk hk;exact ⟨lnA,rfl,cutp_k _ _ _ (by kernel_rfl) (by kernel_rfl),λH q=>rd_a H q⟩
  ·obtain rfl:⟨⟨#[98]⟩,2,1,cntX⟩=f:=Zk hk;exact ⟨lnB,rfl,cutp_k _ _ _ (by kernel_rfl) (by kernel_rfl),λH q=>rd_b H q⟩
  ·obtain rfl:⟨⟨#[99]⟩,3,3,cntB⟩=f:=Zk hk;exact ⟨lnC,rfl,cutp_k _ _ _ (by kernel_rfl) (by kernel_rfl),λH q=>rd_c H q⟩
 ·have h1:k < 1:=(Qj.1 hk).1;obtain rfl:k=0:=by omega
  obtain rfl:⟨⟨#[112]⟩,[⟨#[97]⟩,⟨#[99]⟩],zE⟩=p:=Zk hk;exact ⟨lnP,rfl,cutp_k _ _ _ (by kernel_rfl) (by kernel_rfl),λH q=>rd_p H q⟩
theorem read_k (H:Vw) (q:Lk H):C0 Tryz.prog 25 #[Vt txtK] H (λr h'=>∃ u v,r=.tuple #[.agg #[sL u,sL v],Vi 0,Vi 0] /\ IsForm h' (sL u) (sL v) cntF) :=
 read_c cntF _ _ txtK _ _ H q cnt_fm cnt_rdf λH q=>c_splitR txtK ⟨#[10]⟩ [lnA,lnB,lnC,lnP] 4 rfl H q (by decide) (by decide) (by decide) (by kernel_rfl)
theorem hear_k (w:Value) (H:Vw) (hE:IsEng H w cntEg):C0 Tryz.prog 45 #[.agg (eA w cntEg),.agg #[Vt ⟨#[99]⟩,Vi 1,Vi 1,Vi 0,.string ⟨#[]⟩,Vi 3,Vi 0,.string ⟨#[111,107]⟩]] H (λr h'=>∃ u,r=.tuple #[.agg #[sL (agJ 0 u),sL (agJ 1 u),Vi 2,Vi 3,Vi 9,sL (agJ 2 u),sL (agJ 3 u),.slice (sA (agJ 4 u)) 3 (sC (agJ 4 u)),Vi 0,Vi 1],sL (agJ 5 u),.bool true,Vi 0] /\ RS h' 3 (.slice (sA (agJ 4 u)) 3 (sC (agJ 4 u))) (kZ [⟨1,0,⟨#[]⟩⟩,⟨1,0,⟨#[]⟩⟩,⟨3,0,⟨#[111,107]⟩⟩])):=by
 refine (hear_any cntEg [0,1,2] cntL cntE_ok cntE_settled 2 ⟨⟨#[99]⟩,3,3,cntB⟩ cnt1 cntC rfl rfl rfl (.inl (.inr (.inr ⟨rfl,rfl,by decide,by decide⟩))) cnt_takes (by rw [cnt_hear.2]; decide) w H hE).mono λr h' _ k=>?_;obtain ⟨u,e,hT⟩:=k;have hv:=hT.eng.vals;have e1:(settE (hearE cntEg 2 cnt1 cntC) [0,1,2]).vals=_:=cnt_hear.1;rw [e1] at hv;obtain ⟨A,c,e2,-⟩:=hv.form;have e3:sN (agJ 4 u)=3:=Dj sN e2;have e4:(settE (hearE cntEg 2 cnt1 cntC) [0,1,2]).last=1:=cnt_hear.2;have k1:∀ (m:Nat) (t:Int),m=3 -> t=1 -> Value.tuple #[.agg #[sL (agJ 0 u),sL (agJ 1 u),Vi 2,Vi 3,Vi 9,sL (agJ 2 u),sL (agJ 3 u),.slice (sA (agJ 4 u)) m (sC (agJ 4 u)),Vi 0,Vi t],sL (agJ 5 u),.bool true,Vi 0]=.tuple #[.agg #[sL (agJ 0 u),sL (agJ 1 u),Vi 2,Vi 3,Vi 9,sL (agJ 2 u),sL (agJ 3 u),.slice (sA (agJ 4 u)) 3 (sC (agJ 4 u)),Vi 0,Vi 1],sL (agJ 5 u),.bool true,Vi 0]:=by
  intro m t q1 q2;rw [q1,q2]
 have k2:∀ m:Nat,m=3 -> RS h' 3 (.slice (sA (agJ 4 u)) m (sC (agJ 4 u))) (kZ [⟨1,0,⟨#[]⟩⟩,⟨1,0,⟨#[]⟩⟩,⟨3,0,⟨#[111,107]⟩⟩]) -> RS h' 3 (.slice (sA (agJ 4 u)) 3 (sC (agJ 4 u))) (kZ [⟨1,0,⟨#[]⟩⟩,⟨1,0,⟨#[]⟩⟩,⟨3,0,⟨#[111,107]⟩⟩]):=by
  intro m q1 q2;rw [q1] at q2;exact q2
 exact ⟨u,e.trans (k1 _ _ e3 e4),k2 _ e3 hv⟩
theorem new_k (H:Vw) (fv pv:Value) (q:IsForm H fv pv cntF):ConE Tryz.prog 11 #[.agg #[fv,pv],.agg #[Vi 2,Vi 3,Vi 9]] H [] (NewR cntEg [cnt0]):=by
 have:=new_con cntF _ _ cnt_fm (by decide) cntP cntP_ok fv pv H q
 rw [cnt_sett,cnt_set] at this;exact this
theorem counts_c (h:Vw) (lk:Lk h):C0 Tryz.prog 13 #[] h (λv _=>v=.bool true):=by
 have hR:=λH q=>read_k H q;unfold txtK at hR;have hN:=λH fv pv q=>new_k H fv pv q;have hH:=λw H q=>hear_k w H q;have hrl:(nW [cnt0])[0]?=some [Vt ⟨#[99]⟩,Vi 1,Vi 1,Vi 0,.string ⟨#[]⟩,Vi 0,Vi 0,.string ⟨#[]⟩]:=rfl;have hrv:(kZ [⟨1,0,⟨#[]⟩⟩,⟨1,0,⟨#[]⟩⟩,⟨3,0,⟨#[111,107]⟩⟩])[2]?=some [Vi 3,Vi 0,.string ⟨#[111,107]⟩]:=rfl;refine yQ Tryz.func13 λhbx hbad Q hQ=>?_;refine go0 7 [] [] ?_;refine uQ (λH sH=>hR _ (lk.sees sH)) ?_; rintro _ W1 S2 ⟨u,v,rfl,hf⟩;refine go1 14 [.own,.b 0 0,.b 0 0] [] ?_;intro b3;refine g_callE (Bi:=[]) [] (λH sH=>hN _ _ _ (hf.sees sH)) ?_; rintro _ _ W4 S5 ⟨ue,A,c,rfl,rfl,hE⟩;refine go1 33 [.own,.b 0 0] [] ?_;intro b6;refine g_get (λa w hJ=>own_some (hJ.rowOwn (v:=.slice A 1 c) (e:=57) (kk:=8) (l:=nW [cnt0]) 1 (by kernel_rfl)) ((by decide))) ?_; rintro ⟨bl,rfl⟩;refine go0 2 [.ix bl 0 1 c 0] [] ?_ (ho:=(Aj (by first | omega | (simp; omega)) (trivial)));refine g_rowset 1 0 5 (g:=bl) (m:=1) (cap:=c) (kk:=8) (e:=57) (l:=nW [cnt0]) (r:=[Vt ⟨#[99]⟩,Vi 1,Vi 1,Vi 0,Ve,Vi 0,Vi 0,Ve]) (r':=[Vt ⟨#[99]⟩,Vi 1,Vi 1,Vi 0,Ve,Vi 3,Vi 0,.string ⟨#[111,107]⟩]) (t:=44) (x:=(.tmp 37)) (y:=(.tmp 35)) (v:=.agg #[Vi 3,Vi 0,.string ⟨#[111,107]⟩]) (hrl) ?_;refine go0 3 [] [] ?_;refine oV 15 1 [.ld 1 0,.pu,.v (λgh=>.pointer (some ⟨bl,0 + 0 * 8,none⟩)),.v (λgh=>.agg #[Vt ⟨#[99]⟩,Vi 1,Vi 1,Vi 0,Ve,Vi 3,Vi 0,.string ⟨#[111,107]⟩]),.f (λgh=>.tuple #[.agg #[sL (agJ 0 (gh 4)),sL (agJ 1 (gh 4)),Vi 2,Vi 3,Vi 9,sL (agJ 2 (gh 4)),sL (agJ 3 (gh 4)),.slice (sA (agJ 4 (gh 4))) 3 (sC (agJ 4 (gh 4))),Vi 0,Vi 1],sL (agJ 5 (gh 4)),.bool true,Vi 0]) (λgh hh=>RS hh 3 (.slice (sA (agJ 4 (gh 4))) 3 (sC (agJ 4 (gh 4)))) (kZ [⟨1,0,⟨#[]⟩⟩,⟨1,0,⟨#[]⟩⟩,⟨3,0,⟨#[111,107]⟩⟩])),.pu,.pu,.pu,.pu,.pu,.al 0,.st 0 0,.pu,.pu,.pu] [(4,false),(10,true)] (Aj (λ_ _ _ s c=>c.sees s) (trivial)) ?_ ?_
 ·intro R hT hA hmono;refine Aj (eZ hT hA bl 0 1 c 0 (λgh=>.pointer (some ⟨bl,0 + 0 * 8,none⟩)) (by first | omega | (simp; omega))) ?_;refine Aj (r_rowget' hT hA 42 (λgh=>.agg #[Vt ⟨#[99]⟩,Vi 1,Vi 1,Vi 0,Ve,Vi 3,Vi 0,.string ⟨#[111,107]⟩]) [2] 3 2 (GN R 2) bl 1 c 8 57 ((nW [cnt0]).set 0 [Vt ⟨#[99]⟩,Vi 1,Vi 1,Vi 0,Ve,Vi 3,Vi 0,.string ⟨#[111,107]⟩]) 0 0 (r:=[Vt ⟨#[99]⟩,Vi 1,Vi 1,Vi 0,Ve,Vi 3,Vi 0,.string ⟨#[111,107]⟩]) (rfl) 57 (.tmp 41)) ?_;refine Aj (aY hT hA hmono 43 (λu=>.tuple #[.agg #[sL (agJ 0 u),sL (agJ 1 u),Vi 2,Vi 3,Vi 9,sL (agJ 2 u),sL (agJ 3 u),.slice (sA (agJ 4 u)) 3 (sC (agJ 4 u)),Vi 0,Vi 1],sL (agJ 5 u),.bool true,Vi 0]) [0,3] 4 45 (λgh=>#[.agg (eA ue cntEg),.agg #[Vt ⟨#[99]⟩,Vi 1,Vi 1,Vi 0,Ve,Vi 3,Vi 0,.string ⟨#[111,107]⟩]]) (λgh H sH fH lent=>C0.facts (R:=R) (x:=gh) (i:=4) (n:=0) (F:=(λu=>.tuple #[.agg #[sL (agJ 0 u),sL (agJ 1 u),Vi 2,Vi 3,Vi 9,sL (agJ 2 u),sL (agJ 3 u),.slice (sA (agJ 4 u)) 3 (sC (agJ 4 u)),Vi 0,Vi 1],sL (agJ 5 u),.bool true,Vi 0])) (G:=λu hh=>RS hh 3 (.slice (sA (agJ 4 u)) 3 (sC (agJ 4 u))) (kZ [⟨1,0,⟨#[]⟩⟩,⟨1,0,⟨#[]⟩⟩,⟨3,0,⟨#[111,107]⟩⟩])) (f:=λgh hh=>RS hh 3 (.slice (sA (agJ 4 (gh 4))) 3 (sC (agJ 4 (gh 4)))) (kZ [⟨1,0,⟨#[]⟩⟩,⟨1,0,⟨#[]⟩⟩,⟨3,0,⟨#[111,107]⟩⟩])) (hH _ _ (hE.sees sH)) (by kernel_rfl) (by kernel_rfl) (λ_ _ r=>r))) ?_
  trivial
 rintro u43 b7 W8 S9 ⟨f43,-⟩;replace f43:RS W8 3 (.slice (sA (agJ 4 u43)) 3 (sC (agJ 4 u43))) (kZ [⟨1,0,⟨#[]⟩⟩,⟨1,0,⟨#[]⟩⟩,⟨3,0,⟨#[111,107]⟩⟩]):=f43;refine go0 17 [.b 0 7,.b 0 7] [] ?_;obtain ⟨A6,hA6⟩:∃ A,sA (agJ 4 u43)=A:=⟨_,rfl⟩;obtain ⟨c6,hc6⟩:∃ c,sC (agJ 4 u43)=c:=⟨_,rfl⟩;rw [hA6,hc6] at f43;refine eV [(59,.bool true),(61,.slice (sA (agJ 4 u43)) 3 (sC (agJ 4 u43)))] [.box b7 [sL (agJ 0 u43),sL (agJ 1 u43),Vi 2,Vi 3,Vi 9,sL (agJ 2 u43),sL (agJ 3 u43),.slice (sA (agJ 4 u43)) 3 (sC (agJ 4 u43)),Vi 0,Vi 1],.box b6 (eL ue cntEg),.row (Vs bl 1 c) 57 8 ((nW [cnt0]).set 0 [Vt ⟨#[99]⟩,Vi 1,Vi 1,Vi 0,Ve,Vi 3,Vi 0,.string ⟨#[111,107]⟩]),.box b3 [sL u,sL v]] [] ?_;rw [hA6,hc6];obtain ⟨b10,o11,rfl,-,c12⟩:=RS.row f43 (hrv);refine zQ (c12.sees (Sees.refl _)) ?_;refine go0 9 [.ix b10 o11 3 c6 2,.f 0 2] [] ?_ (ho:=(Aj (by first | omega | (simp; omega)) (trivial)));refine hQ.to [.bool true] (λH sH=>?_);exact rfl
end Go.Proofs.YthgcgciceejicaaGreatDoor
