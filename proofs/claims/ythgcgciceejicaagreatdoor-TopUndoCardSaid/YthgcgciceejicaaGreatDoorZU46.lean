/-
  Contracts of package engine: Copy, numbers, calls, done.
-/
import Derived.Test.YthgcgciceejicaaGreatDoorZU42
import Derived.Test.YthgcgciceejicaaGreatDoorZU44
import Derived.Test.YthgcgciceejicaaGreatDoorZU45
set_option maxHeartbeats 2000000
set_option maxRecDepth 100000
namespace Go.Proofs.YthgcgciceejicaaGreatDoor
open Go.RowKit
set_option linter.unusedVariables false
def agJ (i:Nat):Value -> Value
 | .agg vs=>vs.getD i undef
 | _=>undef
theorem shCopy_any (f:Fm) (ρ:List Int) (lv:Nat -> Nat) (hok:OkFm f ρ lv) (fv pv:Value) (h:Vw) (hf:IsForm h fv pv f) :
  C0 Tryz.prog 43 #[.agg #[fv,pv]] h (λr h'=>∃ u,r=.agg #[sL (agJ 0 u),sL (agJ 1 u)] /\ IsForm h' (sL (agJ 0 u)) (sL (agJ 1 u)) f):=by
 obtain ⟨hs1,hs2⟩:=hok.small;have few:=hok.fields.few;have hm:=hok.pages.few;have hF:=λv H q=>fdCopy_any f.fields v H q hs1 (by omega);have hP:=λv H q=>pgCopy_any f.pages v H q hs2 (λp hp=>by have:=hok.pages.fl p hp; omega) (by omega);obtain ⟨vs,A,c,rfl,-,-,-,-,-,-⟩:=iQ hf.fields;obtain ⟨us,ws,B,d,rfl,-,-,-,-,-,-⟩:=pgs_open hf.pages;generalize f.fields.length=n at *;generalize f.pages.length=m at *;refine zQ Tryz.func43 λhbx hbad Q hQ=>?_;refine go2 7 [.own,.own] [] ?_;intro b1 b2;refine oV 8 0 [.pu,.ld 1 0,.f (λgh=>sL (gh 2)) (λgh hh=>IsFds hh (sL (gh 2)) f.fields),.pu,.ld 1 1,.f (λgh=>sL (gh 5)) (λgh hh=>IsPgs hh (sL (gh 5)) f.pages),.pu,.st 0 0] [(2,false),(5,false)] (Aj (λ_ _ _ s c=>c.sees s) (Aj (λ_ _ _ s c=>c.sees s) (trivial))) ?_ ?_
 ·intro R hT hA hmono;refine Aj (lY hT hA hmono 5 (λu=>sL u) [1] 2 92 (λgh=>#[.slice A n c]) (λgh H sH fH lent=>C0.facts (R:=R) (x:=gh) (i:=2) (n:=0) (F:=(λu=>sL u)) (G:=λu hh=>IsFds hh (sL u) f.fields) (f:=λgh hh=>IsFds hh (sL (gh 2)) f.fields) (hF _ _ ((hf.sees sH)).fields) (by kernel_rfl) (by kernel_rfl) (λ_ _ r=>r))) ?_;refine Aj (lY hT hA hmono 8 (λu=>sL u) [2,4] 5 93 (λgh=>#[.slice B m d]) (λgh H sH fH lent=>C0.facts (R:=R) (x:=gh) (i:=5) (n:=1) (F:=(λu=>sL u)) (G:=λu hh=>IsPgs hh (sL u) f.pages) (f:=λgh hh=>IsPgs hh (sL (gh 5)) f.pages) (hP _ _ ((hf.sees sH)).pages) (by kernel_rfl) (by kernel_rfl) (λ_ _ r=>r))) ?_
  trivial
 rintro u5 u8 W3 S4 ⟨f5,f8,-⟩;replace f5:IsFds W3 (sL u5) f.fields:=f5;replace f8:IsPgs W3 (sL u8) f.pages:=f8;refine go0 2 [] [] ?_;refine hQ.to [.agg #[sL u5,sL u8]] (λH sH=>?_) (ix:=[0]);exact ⟨.agg #[u5,u8],rfl,(f5.sees sH),(f8.sees sH)⟩
structure Eg where
 fm:Fm
 pol:Pol
 inp:Env
 calls:List Cl
 vals:List Vl
 now:Int
 last:Int
abbrev eL (u:Value) (E:Eg):List Value:=[sL (agJ 0 u),sL (agJ 1 u),Vi E.pol.t,Vi E.pol.b,Vi E.pol.c,sL (agJ 2 u),sL (agJ 3 u),sL (agJ 4 u),Vi E.now,Vi E.last]
abbrev eA (u:Value) (E:Eg):Array Value:=#[sL (agJ 0 u),sL (agJ 1 u),Vi E.pol.t,Vi E.pol.b,Vi E.pol.c,sL (agJ 2 u),sL (agJ 3 u),sL (agJ 4 u),Vi E.now,Vi E.last]
structure IsEng (h:Vw) (u:Value) (E:Eg):Prop where
 form:IsForm h (sL (agJ 0 u)) (sL (agJ 1 u)) E.fm
 inp:RS h 7 (sL (agJ 2 u)) (bQ E.inp)
 calls:RS h 10 (sL (agJ 3 u)) (jK E.calls)
 vals:RS h 3 (sL (agJ 4 u)) (gA E.vals)
theorem IsEng.sees {h h':Vw} {u:Value} {E:Eg} (k:IsEng h u E) (s:Sees h h'):IsEng h' u E:=⟨k.form.sees s,k.inp.sees s,k.calls.sees s,k.vals.sees s⟩
structure EgOk (E:Eg) (ρ:List Int) (lv:Nat -> Nat):Prop where
 fm:OkFm E.fm ρ lv
 one:1 <= E.fm.fields.length
 pol:E.pol.ok
 ki:∀ q∈E.inp,q.2.known
 k0:∀ q∈E.inp,zZ E.fm.fields q.1 q.2.k=0
 once:(E.inp.map (·.1)).Nodup
 li:E.inp.length <= 100
 calls:CallsOk E.fm.fields E.pol E.last E.calls
 vlen:E.vals.length=E.fm.fields.length
 n0:0 <= E.now
 n1:E.now <= 1073741824
 l0:0 <= E.last
 l1:E.last <= 1073741810
theorem EgOk.ti {E:Eg} {ρ:List Int} {lv:Nat -> Nat} (h:EgOk E ρ lv):xK E.fm.fields [] E.inp=0:=factsV_ok _ _ [] h.k0 h.once
def CopR (E:Eg) (v:Value) (Bo:List Ent) (H:Vw):Prop:=∃ u,v=.agg #[sL (agJ 0 u),sL (agJ 1 u),Vi E.pol.t,Vi E.pol.b,Vi E.pol.c,sL (agJ 2 u),sL (agJ 3 u),sL (agJ 4 u),Vi E.now,Vi E.last] /\ Bo=[.row (sL (agJ 2 u)) 122 7 (bQ E.inp),.row (sL (agJ 3 u)) 130 10 (jK E.calls),.row (sL (agJ 4 u)) 44 3 (gA E.vals)] /\ IsForm H (sL (agJ 0 u)) (sL (agJ 1 u)) E.fm
theorem engCopy_con (E:Eg) (ρ:List Int) (lv:Nat -> Nat) (hok:EgOk E ρ lv) (w:Value) (h:Vw) (hE:IsEng h w E) :
  ConE Tryz.prog 49 #[.agg #[sL (agJ 0 w),sL (agJ 1 w),Vi E.pol.t,Vi E.pol.b,Vi E.pol.c,sL (agJ 2 w),sL (agJ 3 w),sL (agJ 4 w),Vi E.now,Vi E.last]] h [] (CopR E):=by
 have few:=hok.fm.fields.few;have hcl:=hok.calls.len;have hvl:=hok.vlen;have hli:=hok.li;have hS:=λfv pv H q=>shCopy_any E.fm ρ lv hok.fm fv pv H q;have h1:=λv H q=>c_cloneFt (h:=H) (v:=v) (l:=E.inp) q (by omega);have h2:=λv H q=>c_cloneCl (h:=H) (v:=v) (l:=E.calls) q (by omega);have h3:=λv H q=>c_cloneVl (h:=H) (v:=v) (l:=E.vals) q (by omega);refine g_conE Tryz.func49 λhbad Q hQ=>?_;refine go2 10 [.own,.own,.b 1 0] [] ?_;intro b1 b2;refine uQ (λH sH=>hS _ _ _ ((hE.sees sH)).form) ?_; rintro _ W3 S4 ⟨uc,rfl,hfc⟩;refine go0 5 [.b 1 0] [] ?_;refine oV 15 3 [.pu,.ld 4 5,.e (λgh=>sL (gh 2)) 0 (λgh=>.row (sL (gh 2)) 122 7 (bQ E.inp)),.pu,.ld 4 6,.e (λgh=>sL (gh 5)) 1 (λgh=>.row (sL (gh 5)) 130 10 (jK E.calls)),.pu,.ld 4 7,.e (λgh=>sL (gh 8)) 2 (λgh=>.row (sL (gh 8)) 44 3 (gA E.vals)),.pu,.st 4 5,.pu,.st 4 6,.pu,.st 4 7] [(2,false),(5,false),(8,false)] (trivial) ?_ ?_
 ·intro R hT hA hmono;refine Aj (r_callown hT hA hmono ⟨λ_ _=>by kernel_rfl,λ_ _=>by kernel_rfl,λ_ _=>by kernel_rfl⟩ (by kernel_rfl) 9 (λu=>sL u) [1] 2 (by kernel_rfl) (λ_=>by kernel_rfl) 0 (GN R 0) (by kernel_rfl) (by kernel_rfl) (by kernel_rfl) 122 7 (λgh=>bQ E.inp) (λ_=>by kernel_rfl) (λ_=>by kernel_rfl) (λ_ _=>rfl) 101 (λgh=>#[sL (agJ 2 w)]) (λ_ _=>by kernel_rfl) (λgh H sH fH=>h1 _ _ ((hE.sees (S4.trans sH))).inp)) ?_;refine Aj (r_callown hT hA hmono ⟨λ_ _=>by kernel_rfl,λ_ _=>by kernel_rfl,λ_ _=>by kernel_rfl⟩ (by kernel_rfl) 12 (λu=>sL u) [2,4] 5 (by kernel_rfl) (λ_=>by kernel_rfl) 1 (GN R 1) (by kernel_rfl) (by kernel_rfl) (by kernel_rfl) 130 10 (λgh=>jK E.calls) (λ_=>by kernel_rfl) (λ_=>by kernel_rfl) (λ_ _=>rfl) 102 (λgh=>#[sL (agJ 3 w)]) (λ_ _=>by kernel_rfl) (λgh H sH fH=>h2 _ _ ((hE.sees (S4.trans sH))).calls)) ?_;refine Aj (r_callown hT hA hmono ⟨λ_ _=>by kernel_rfl,λ_ _=>by kernel_rfl,λ_ _=>by kernel_rfl⟩ (by kernel_rfl) 15 (λu=>sL u) [5,7] 8 (by kernel_rfl) (λ_=>by kernel_rfl) 2 (GN R 2) (by kernel_rfl) (by kernel_rfl) (by kernel_rfl) 44 3 (λgh=>gA E.vals) (λ_=>by kernel_rfl) (λ_=>by kernel_rfl) (λ_ _=>rfl) 103 (λgh=>#[sL (agJ 4 w)]) (λ_ _=>by kernel_rfl) (λgh H sH fH=>h3 _ _ ((hE.sees (S4.trans sH))).vals)) ?_
  trivial
 rintro u9 u12 u15 W5 S6 -;refine go0 8 [.b 4 0,.b 3 0] [] ?_;refine hQ.to [.agg #[sL (agJ 0 uc),sL (agJ 1 uc),Vi E.pol.t,Vi E.pol.b,Vi E.pol.c,sL u9,sL u12,sL u15,Vi E.now,Vi E.last]] [0,1,2] [.row (sL u9) 122 7 (bQ E.inp),.row (sL u12) 130 10 (jK E.calls),.row (sL u15) 44 3 (gA E.vals)] (λH sH=>?_) (ix:=[3]);exact ⟨.agg #[agJ 0 uc,agJ 1 uc,u9,u12,u15],rfl,rfl,(hfc.sees (S6.trans sH))⟩
theorem numbers_any (a0 a1 a2 a3 a4:Value) (p:Pol) (now last:Int) (h:Vw) (n0:0 <= now) (n1:now <= 1073741824) (l0:0 <= last) (l1:last <= 1073741810) :
  C0 Tryz.prog 95 #[.agg #[sL a0,sL a1,Vi p.t,Vi p.b,Vi p.c,sL a2,sL a3,sL a4,Vi now,Vi last]] h (λr _=>r=.bool true):=by
 refine zQ Tryz.func95 λhbx hbad Q hQ=>?_;refine go1 30 [.own,.b 0 8,.b 0 8,.b 0 9,.b 0 9] [(5,.bool (decide (now ≥ 0)),.bool true),(9,.bool (decide (now <= 1073741824)),.bool true),(14,.bool (decide (last ≥ 0)),.bool true),(19,.bool (decide (last <= 1073741810)),.bool true)] ?_ (hc:=(Aj (Dj Value.bool (Jj n0)) (Aj (Dj Value.bool (Jj n1)) (Aj (Dj Value.bool (Jj l0)) (Aj (Dj Value.bool (Jj l1)) (trivial))))));intro b1;refine hQ.to [.bool true] (λH sH=>?_);exact rfl
theorem calls_any (E:Eg) (ρ:List Int) (lv:Nat -> Nat) (hok:EgOk E ρ lv) (w:Value) (h:Vw) (hE:IsEng h w E):C0 Tryz.prog 99 #[.agg #[sL (agJ 0 w),sL (agJ 1 w),Vi E.pol.t,Vi E.pol.b,Vi E.pol.c,sL (agJ 2 w),sL (agJ 3 w),sL (agJ 4 w),Vi E.now,Vi E.last]] h (λr _=>r=Vi 0):=by
 have few:=hok.fm.fields.few;have hcl:=hok.calls.len;have hvl:=hok.vlen;have hck:=λx (hx:ClOk E.pol x) H=>c_chk E.pol hok.pol x hx H;obtain ⟨vs,A,c,e0,-,-,hr4,hs4,hl4,-⟩:=iQ hE.form.fields;obtain ⟨A2,c2,e2,-,-,-⟩:=hE.calls.form;obtain ⟨A3,c3,e3,-,-,-⟩:=hE.vals.form;have hrc:=hE.calls;rw [e2] at hrc;rw [e0,e2,e3];have hca:=hok.calls.at_;rw [Hj] at *;rw [Hj] at *;rw [hcl] at hrc ⊢;rw [hvl];generalize hn:E.fm.fields.length=n at *;refine zQ Tryz.func99 λhbx hbad Q hQ=>?_;refine go1 42 [.own,.b 0 6,.b 0 0,.b 0 7,.b 0 0,.b 0 6] [(13,.bool ((n:Int) != (n:Int)),.bool false),(22,.bool ((n:Int) != (n:Int)),.bool false)] ?_ (hc:=(Aj (Dj Value.bool (by simp)) (Aj (Dj Value.bool (by simp)) (trivial))));intro b1;refine iV [0,1,0,1,1] [.block 0,.seq [1,1,1]] (λ(k:Nat) X=>∃ (W2:Vw) ,X W2 [(1,Vp b1),(25,.slice A2 n c2),(26,Vi (n:Int)),(27,Vi (k:Int))] [.box b1 [.slice A n c,sL (agJ 1 w),Vi E.pol.t,Vi E.pol.b,Vi E.pol.c,sL (agJ 2 w),.slice A2 n c2,.slice A3 n c3,Vi E.now,Vi E.last]] [] /\ Sees h W2 /\ (k <= n)) (λk=>n - k) (0) (λX q=>⟨h,q _ _ _ _ ⟨rfl,by kernel_rfl⟩,Sees.refl _,Oj _⟩) ?_;rintro k a w ⟨W2,hJ,S3,hk⟩; refine mV hJ ?_; clear hJ a w;refine go0 6 [] [] ?_;rcases (by omega:k < n\/k=n) with hlt | hke
 ·obtain ⟨g,hg⟩:∃ g,E.fm.fields[k]?=some g:=⟨_,Fj (by omega)⟩;obtain ⟨x,hx⟩:∃ x,E.calls[k]?=some x:=⟨_,Fj (by omega)⟩;obtain ⟨u,hu⟩:∃ u,vs[k]?=some u:=⟨_,Fj (by omega)⟩;have hrow:=eQ hg hu;have hrx:=clRows_get hx;obtain ⟨Au,nu,cu,rfl⟩:=(AllSrc.get hs4 hg hu).slice;obtain ⟨x1,x2,x3⟩:=hca k g x hg hx;have hck':=hck x x1;refine rV (t:=decide ((k:Int) < (n:Int))) (Jj (by omega)) ?_;refine go0 7 [] [] ?_;obtain ⟨b4,o5,rfl,-,c6⟩:=RS.row hrc (hrx);refine aV (c6.sees S3) ?_;refine go1 13 [.ix b4 o5 n c2 k,.f 0 0,.own,.b 0 0,.b 0 0,.b 1 2] [] ?_ (ho:=(Aj (by first | omega | (simp; omega)) (trivial)));intro b7;refine go0 14 [.cl 104 #[.agg #[Vi x.st,Vi x.id,Vi x.tr,Vi x.key.k,Vi x.key.n,.string x.key.s,Vi x.has.k,Vi x.has.n,.string x.has.s,Vi x.nx],.agg #[Vi E.pol.t,Vi E.pol.b,Vi E.pol.c]] (Vi 0)] [] ?_ (ho:=(Aj (λH sH=>hck' _) (trivial)));obtain ⟨b8,o9,rfl,-,c10⟩:=RS.row hr4 (hrow);refine aV (c10.sees S3) ?_;have c11:=RS.cell hr4 (hrow);refine aV (c11.sees S3) ?_
  by_cases s0:x.st=0
  ·skip;have c8:=RS.cell hr4 (hrow)
   refine aV (c8.sees S3) ?_;have c9:=RS.cell hr4 (hrow);refine aV (c9.sees S3) ?_;refine oV 38 0 [.pu,.ld 0 0,.v (λgh=>.bool false),.pu,.ps,.ps,.ps,.ps,.ps,.ps,.ps,.ps,.ps,.ps,.ps,.ps,.ps,.ps,.ps,.ps,.ps,.ps,.ps,.ps,.ps,.ps,.ps,.ps,.ps,.ps,.ps,.ps,.ps,.ps,.ps,.ps,.ps,.pu] [] (by exact trivial) ?_ ?_
   ·intro R hT hA hmono;refine Aj (uZ hT hA (λgh=>.bool false) (λgh=>.bool (x.st != 0)) (λgh=>Dj Value.bool (Nk.2 s0))) ?_
    trivial
   rintro W10 S11 -;refine go0 9 [] [(77,Vi (IntKind.i64.wrap ((k:Int) + 1)),Vi ((k:Int) + 1))] ?_ (hc:=(Aj (jJ (by omega) (by omega)) (trivial)));exact qV (k + 1) (λX q=>⟨W10,q _ _ _ _ ⟨rfl,by kernel_rfl⟩,(S3.trans S11),by omega⟩)
  ·skip;obtain ⟨y1,y2⟩:=x2 s0
   by_cases s2:x.st=2
   ·skip;have c12:=RS.cell hr4 (hrow)
    refine aV (c12.sees S3) ?_;have c13:=RS.cell hr4 (hrow);refine aV (c13.sees S3) ?_;refine oV 38 0 [.pu,.ld 0 0,.v (λgh=>.bool true),.pu,.pu,.pu,.ld 1 0,.pu,.v (λgh=>.pointer (some ⟨b8,o9 + k * 9,none⟩)),.pu,.lf 0 1,.v (λgh=>.bool false),.pu,.pu,.ld 0 1,.pu,.ld 1 9,.v (λgh=>.bool false),.pu,.pu,.pu,.ld 0 0,.v (λgh=>.bool true),.pu,.pu,.pu,.ld 0 6,.pu,.pu,.ld 1 0,.pu,.v (λgh=>.pointer (some ⟨b8,o9 + k * 9,none⟩)),.pu,.lf 0 2,.v (λgh=>.bool false),.pu,.pu,.pu] [] (by exact trivial) ?_ ?_
    ·intro R hT hA hmono;refine Aj (uZ hT hA (λgh=>.bool true) (λgh=>.bool (x.st != 0)) (λgh=>Dj Value.bool (Fk.2 s0))) ?_;refine Aj (vZ hT hA b8 o9 n c k (λgh=>.pointer (some ⟨b8,o9 + k * 9,none⟩)) (by first | omega | (simp; omega))) ?_;refine Aj (uZ hT hA (λgh=>.bool false) (λgh=>.bool (g.kind != 3)) (λgh=>Dj Value.bool (Nk.2 y1))) ?_;refine Aj (uZ hT hA (λgh=>.bool false) (λgh=>.bool (decide (x.id > E.last))) (λgh=>Dj Value.bool (Kj (by omega)))) ?_;refine Aj (uZ hT hA (λgh=>.bool true) (λgh=>.bool (x.st == 2)) (λgh=>Dj Value.bool (Yj.2 s2))) ?_;refine Aj (vZ hT hA b8 o9 n c k (λgh=>.pointer (some ⟨b8,o9 + k * 9,none⟩)) (by first | omega | (simp; omega))) ?_;refine Aj (uZ hT hA (λgh=>.bool false) (λgh=>.bool (x.has.k != g.ty)) (λgh=>Dj Value.bool (Nk.2 (x3 s2)))) ?_
     trivial
    rintro W14 S15 -;refine go0 9 [] [(77,Vi (IntKind.i64.wrap ((k:Int) + 1)),Vi ((k:Int) + 1))] ?_ (hc:=(Aj (jJ (by omega) (by omega)) (trivial)));exact qV (k + 1) (λX q=>⟨W14,q _ _ _ _ ⟨rfl,by kernel_rfl⟩,(S3.trans S15),by omega⟩)
   ·skip;have c16:=RS.cell hr4 (hrow)
    refine aV (c16.sees S3) ?_;have c17:=RS.cell hr4 (hrow);refine aV (c17.sees S3) ?_;refine oV 38 0 [.pu,.ld 0 0,.v (λgh=>.bool true),.pu,.pu,.pu,.ld 1 0,.pu,.v (λgh=>.pointer (some ⟨b8,o9 + k * 9,none⟩)),.pu,.lf 0 1,.v (λgh=>.bool false),.pu,.pu,.ld 0 1,.pu,.ld 1 9,.v (λgh=>.bool false),.pu,.pu,.pu,.ld 0 0,.v (λgh=>.bool false),.pu,.ps,.ps,.ps,.ps,.ps,.ps,.ps,.ps,.ps,.ps,.ps,.pu,.pu,.pu] [] (by exact trivial) ?_ ?_
    ·intro R hT hA hmono;refine Aj (uZ hT hA (λgh=>.bool true) (λgh=>.bool (x.st != 0)) (λgh=>Dj Value.bool (Fk.2 s0))) ?_;refine Aj (vZ hT hA b8 o9 n c k (λgh=>.pointer (some ⟨b8,o9 + k * 9,none⟩)) (by first | omega | (simp; omega))) ?_;refine Aj (uZ hT hA (λgh=>.bool false) (λgh=>.bool (g.kind != 3)) (λgh=>Dj Value.bool (Nk.2 y1))) ?_;refine Aj (uZ hT hA (λgh=>.bool false) (λgh=>.bool (decide (x.id > E.last))) (λgh=>Dj Value.bool (Kj (by omega)))) ?_;refine Aj (uZ hT hA (λgh=>.bool false) (λgh=>.bool (x.st == 2)) (λgh=>Dj Value.bool (Lj.2 s2))) ?_
     trivial
    rintro W18 S19 -;refine go0 9 [] [(77,Vi (IntKind.i64.wrap ((k:Int) + 1)),Vi ((k:Int) + 1))] ?_ (hc:=(Aj (jJ (by omega) (by omega)) (trivial)));exact qV (k + 1) (λX q=>⟨W18,q _ _ _ _ ⟨rfl,by kernel_rfl⟩,(S3.trans S19),by omega⟩)
 ·skip;refine cV (t:=decide ((k:Int) < (n:Int))) (Kj (by omega)) ?_
  refine go0 2 [] [] ?_;refine gV ?_;refine go0 8 [] [] ?_;refine hQ.to [Vi 0] (λH sH=>?_);exact rfl
def DonR (S:Sst) (b:Nat) (pre:List Value) (slc slv:Value) (v:Value) (Bo:List Ent):Prop :=
 ∃ u,v=.tuple #[.agg (pre++[Value.int .i64 S.last]).toArray,sL u,Vi 0] /\ Bo=[.row (sL u) 57 8 (oW S.out),.box b (pre++[Vi S.last,sL u]),.row slc 130 10 (jK S.calls),.row slv 44 3 (gA S.vals)]
theorem done_con (S:Sst) (b n:Nat) (A A2 A3:Option Addr) (c c2 c3:Nat) (gv iv lw0:Value) (p:Pol) (now last:Int) (n0:0 <= now) (n1:now <= 1073741824) (cls:List Cl) (vals:List Vl) (lt:List Lt) (h:Vw) (l0:0 <= S.last) (l1:S.last <= 1073741810)
  (hst:∀ H,Sees h H -> ConE Tryz.prog 94 #[.pointer (some ⟨b,0,none⟩)] H
   [.row (sL lw0) 57 8 (oW lt),.box b [.slice A n c,sL gv,Vi p.t,Vi p.b,Vi p.c,sL iv,.slice A2 n c2,.slice A3 n c3,Vi now,Vi last,sL lw0],.row (.slice A2 n c2) 130 10 (jK cls),.row (.slice A3 n c3) 44 3 (gA vals)]
   (λv Bo _=>SetR S b [.slice A n c,sL gv,Vi p.t,Vi p.b,Vi p.c,sL iv,.slice A2 n c2,.slice A3 n c3,Vi now] (.slice A2 n c2) (.slice A3 n c3) v Bo)) :
  ConE Tryz.prog 44 #[.pointer (some ⟨b,0,none⟩)] h
   [.row (sL lw0) 57 8 (oW lt),.box b [.slice A n c,sL gv,Vi p.t,Vi p.b,Vi p.c,sL iv,.slice A2 n c2,.slice A3 n c3,Vi now,Vi last,sL lw0],.row (.slice A2 n c2) 130 10 (jK cls),.row (.slice A3 n c3) 44 3 (gA vals)]
   (λv Bo _=>DonR S b [.slice A n c,sL gv,Vi p.t,Vi p.b,Vi p.c,sL iv,.slice A2 n c2,.slice A3 n c3,Vi now] (.slice A2 n c2) (.slice A3 n c3) v Bo):=by
 have hN:=λH=>numbers_any (.slice A n c) gv iv (.slice A2 n c2) (.slice A3 n c3) p now S.last H n0 n1 l0 l1;refine g_conE Tryz.func44 λhbad Q hQ=>?_;refine go1 10 [.own] [] ?_;intro b1;refine xQ (Bi:=[.row (sL lw0) 57 8 (oW lt),.box b [.slice A n c,sL gv,Vi p.t,Vi p.b,Vi p.c,sL iv,.slice A2 n c2,.slice A3 n c3,Vi now,Vi last,sL lw0],.row (.slice A2 n c2) 130 10 (jK cls),.row (.slice A3 n c3) 44 3 (gA vals)]) [1,2,3,4] (λH sH=>hst H sH) ?_; rintro _ _ W2 S3 ⟨u,rfl,rfl⟩;refine go0 9 [.b 1 0] [] ?_;refine uQ (λH sH=>hN _) ?_; rintro _ W4 S5 rfl;refine go0 7 [] [] ?_;refine oV 11 0 [.pu,.pu,.pu,.ld 1 0,.pu,.pu,.pu,.ld 1 10,.st 4 0,.pu,.pu] [] (trivial) ?_ ?_
 ·intros; trivial
 rintro W6 S7 -;refine go0 2 [] [] ?_;refine hQ.to [.agg #[.slice A n c,sL gv,Vi p.t,Vi p.b,Vi p.c,sL iv,.slice A2 n c2,.slice A3 n c3,Vi now,Vi S.last],sL u,Vi 0] [0,1,2,3] [.row (sL u) 57 8 (oW S.out),.box b [.slice A n c,sL gv,Vi p.t,Vi p.b,Vi p.c,sL iv,.slice A2 n c2,.slice A3 n c3,Vi now,Vi S.last,sL u],.row (.slice A2 n c2) 130 10 (jK S.calls),.row (.slice A3 n c3) 44 3 (gA S.vals)] (λH sH=>?_) (ix:=[4]);exact ⟨u,rfl,rfl⟩
def CopF (E:Eg) (n m:Nat) (v:Value) (Bo:List Ent) (H:Vw):Prop:=∃ (A:Option Addr) (c:Nat) (B:Option Addr) (d:Nat) (A1:Option Addr) (c1:Nat) (A2:Option Addr) (c2:Nat) (A3:Option Addr) (c3:Nat),
 v=.agg #[.slice A n c,.slice B m d,Vi E.pol.t,Vi E.pol.b,Vi E.pol.c,.slice A1 E.inp.length c1,.slice A2 n c2,.slice A3 n c3,Vi E.now,Vi E.last] /\
 Bo=[.row (.slice A1 E.inp.length c1) 122 7 (bQ E.inp),.row (.slice A2 n c2) 130 10 (jK E.calls),.row (.slice A3 n c3) 44 3 (gA E.vals)] /\ IsForm H (.slice A n c) (.slice B m d) E.fm
theorem engCopy_form (E:Eg) (ρ:List Int) (lv:Nat -> Nat) (hok:EgOk E ρ lv) (w:Value) (n m:Nat) (hn:E.fm.fields.length=n) (hm:E.fm.pages.length=m) (h:Vw) (hE:IsEng h w E):ConE Tryz.prog 49 #[.agg #[sL (agJ 0 w),sL (agJ 1 w),Vi E.pol.t,Vi E.pol.b,Vi E.pol.c,sL (agJ 2 w),sL (agJ 3 w),sL (agJ 4 w),Vi E.now,Vi E.last]] h [] (CopF E n m):=by
 intro a1 a2 a3 a4;refine (engCopy_con E ρ lv hok w h hE a1 a2 a3 a4).mono ?_;rintro en w' ⟨v,Bo,e1,e2,e3,e4,e5,u,rfl,rfl,hf⟩;obtain ⟨A1,c1,q1,-,-⟩:=yY (e3 _ (Cq ..));obtain ⟨A2,c2,q2,-,-⟩:=yY (e3 _ (Mk _ (Cq ..)));obtain ⟨A3,c3,q3,-,-⟩:=yY (e3 _ (Mk _ (Mk _ (Cq ..))));obtain ⟨vs,A,c,q4,-,-,-,-,-,-⟩:=iQ hf.fields;obtain ⟨us,ws,B,d,q5,-,-,-,-,-,-⟩:=pgs_open hf.pages;rw [Hj] at q1 q2 q3;rw [hok.calls.len,hn] at q2;rw [hok.vlen,hn] at q3;rw [hn] at q4;rw [hm] at q5;rw [q1,q2,q3] at e3 e4 e5 hf;rw [q4,q5] at hf;refine ⟨_,_,e1,e2,e3,e4,e5,A,c,B,d,A1,c1,A2,c2,A3,c3,?_,rfl,hf⟩;rw [q1,q2,q3,q4,q5]
def Settled (E:Eg) (ρ:List Int):Prop:=∃ kn,bZ E.fm.fields E.pol E.now E.inp ⟨E.calls,E.vals,[],E.last,[]⟩ (rX ρ E.fm.fields.length)=⟨E.calls,E.vals,kn,E.last,[]⟩
theorem egCheck_any (E:Eg) (ρ:List Int) (lv:Nat -> Nat) (hok:EgOk E ρ lv) (hse:Settled E ρ) (w:Value) (h:Vw) (hE:IsEng h w E):C0 Tryz.prog 47 #[.agg #[sL (agJ 0 w),sL (agJ 1 w),Vi E.pol.t,Vi E.pol.b,Vi E.pol.c,sL (agJ 2 w),sL (agJ 3 w),sL (agJ 4 w),Vi E.now,Vi E.last]] h (λr _=>r=Vi 0):=by
 have few:=hok.fm.fields.few;have hli:=hok.li;have hl1:=hok.l1;obtain ⟨kn,hkn⟩:=hse;have hcp:=λH q=>engCopy_form E ρ lv hok w _ _ rfl rfl H q;have hca:=λH q=>calls_any E ρ lv hok w H q;have hnm:=λa0 a1 a2 a3 a4 H=>numbers_any a0 a1 a2 a3 a4 E.pol E.now E.last H hok.n0 hok.n1 hok.l0 hok.l1;have hse:=λb A A2 A3 c c2 c3 gv iv lw0 H q1 q2=>settle_con E.fm ρ lv hok.fm b E.fm.fields.length A A2 A3 c c2 c3 gv iv lw0 E.pol hok.pol E.now E.last hok.n0 hok.n1 hok.l0 (by omega) E.calls E.vals [] E.inp H q1 rfl hok.one hok.calls hok.vlen q2 hok.ki (by omega) (by simp);rw [hkn] at hse;have hgc:=c_gapChk E.pol hok.pol;obtain ⟨vs,A,c,e0,-,-,-,-,-,-⟩:=iQ hE.form.fields;obtain ⟨us,ws,B,d,e1,-,-,-,-,-,-⟩:=pgs_open hE.form.pages;have hsc:=λH q=>shCheck_any E.fm ρ lv A E.fm.fields.length c B E.fm.pages.length d H hok.fm q rfl;have hfa:=λH q1 q2=>facts_v E.fm.fields (.slice A E.fm.fields.length c) (.slice B E.fm.pages.length d) E.inp (sL (agJ 2 w)) H q1 rfl (by omega) q2 (by omega) hok.ki;rw [hok.ti] at hfa;have hfm:=hE.form;have hin:=hE.inp;have hcl:=hE.calls;have hvl:=hE.vals;rw [e0,e1] at hfm hcp hca ⊢;generalize hn:E.fm.fields.length=n at *;generalize hm:E.fm.pages.length=m at *;refine zQ Tryz.func47 λhbx hbad Q hQ=>?_;refine go1 8 [.own] [] ?_;intro b1;refine oV 15 0 [.pu,.ld 0 0,.v (λgh=>Vi 0),.pu,.ld 0 2,.v (λgh=>Vi 0),.pu,.ld 0 0,.pu,.ld 0 5,.v (λgh=>Vi 0),.ld 0 0,.v (λgh=>Vi 0),.pu,.pu] [] (trivial) ?_ ?_
 ·intro R hT hA hmono;refine Aj (t_v hT hA hmono (k:=41) (args:=(λgh=>#[.agg #[.slice A n c,.slice B m d]])) (f:=λgh=>Vi 0) (λgh H sH fH lent=>hsc _ (hfm.sees sH))) ?_;refine Aj (t_v hT hA hmono (k:=42) (args:=(λgh=>#[.agg #[Vi E.pol.t,Vi E.pol.b,Vi E.pol.c]])) (f:=λgh=>Vi 0) (λgh H sH fH lent=>hgc _)) ?_;refine Aj (t_v hT hA hmono (k:=98) (args:=(λgh=>#[.agg #[.slice A n c,.slice B m d],sL (agJ 2 w)])) (f:=λgh=>Vi 0) (λgh H sH fH lent=>hfa _ ((hfm.sees sH)).fields (hin.sees sH))) ?_;refine Aj (t_v hT hA hmono (k:=99) (args:=(λgh=>#[.agg #[.slice A n c,.slice B m d,Vi E.pol.t,Vi E.pol.b,Vi E.pol.c,sL (agJ 2 w),sL (agJ 3 w),sL (agJ 4 w),Vi E.now,Vi E.last]])) (f:=λgh=>Vi 0) (λgh H sH fH lent=>hca _ (hE.sees sH))) ?_
  trivial
 rintro W2 S3 -;refine go0 2 [] [] ?_;refine iV [0,1,0,1] [.block 0,.seq [1,1]] (λ(k:Nat) X=>∃ (W4:Vw) ,X W4 [(1,Vp b1),(19,.agg #[Vi 0,Vi 0,Vi 0,Vi 0]),(20,Vi (k:Int))] [.box b1 [.slice A n c,.slice B m d,Vi E.pol.t,Vi E.pol.b,Vi E.pol.c,sL (agJ 2 w),sL (agJ 3 w),sL (agJ 4 w),Vi E.now,Vi E.last]] [] /\ Sees W2 W4 /\ (k <= 4)) (λk=>4 - k) (0) (λX q=>⟨W2,q _ _ _ _ ⟨rfl,by kernel_rfl⟩,Sees.refl _,Oj _⟩) ?_;rintro k a w ⟨W4,hJ,S5,hk⟩; refine mV hJ ?_; clear hJ a w;refine go0 6 [] [] ?_;rcases (by omega:k < 4\/k=4) with hlt | hke
 ·skip;refine rV (t:=decide ((k:Int) < 4)) (Jj (by omega)) ?_
  refine go0 6 [] [] ?_;refine nV (Vi 0) (λw=>by rcases (by omega:k=0\/k=1\/k=2\/k=3) with rfl | rfl | rfl | rfl <;> kernel_rfl) ?_;refine go0 17 [] [(26,Vi (IntKind.i64.wrap ((k:Int) + 1)),Vi ((k:Int) + 1))] ?_ (hc:=(Aj (jJ (by omega) (by omega)) (trivial)));exact qV (k + 1) (λX q=>⟨W4,q _ _ _ _ ⟨rfl,by kernel_rfl⟩,S5,by omega⟩)
 ·skip;refine cV (t:=decide ((k:Int) < 4)) (Kj (by omega)) ?_
  refine go0 2 [] [] ?_;refine gV ?_;refine go0 16 [.b 0 0,.cl 95 #[.agg #[.slice A n c,.slice B m d,Vi E.pol.t,Vi E.pol.b,Vi E.pol.c,sL (agJ 2 w),sL (agJ 3 w),sL (agJ 4 w),Vi E.now,Vi E.last]] (.bool true),.b 0 0] [] ?_ (ho:=(Aj (λH sH=>hnm (.slice A n c) (.slice B m d) (agJ 2 w) (agJ 3 w) (agJ 4 w) _) (trivial)));refine xQ (Bi:=[]) [] (λH sH=>hcp _ (hE.sees (S3.trans (S5.trans sH)))) ?_; rintro _ _ W6 S7 ⟨A',c',B',d',A1,c1,A2,c2,A3,c3,rfl,rfl,hfu⟩;refine go1 8 [.own] [] ?_;intro bm;refine eV 1 (v:=.slice A1 E.inp.length c1) (e:=122) (kk:=7) (l:=bQ E.inp) ?_; intro W8 S9 fri;refine lV 57 8 ?_;refine xQ (Bi:=[.row (Vz) 57 8 ([]),.box bm [.slice A' n c',.slice B' m d',Vi E.pol.t,Vi E.pol.b,Vi E.pol.c,.slice A1 E.inp.length c1,.slice A2 n c2,.slice A3 n c3,Vi E.now,Vi E.last,Vz],.row (.slice A2 n c2) 130 10 (jK E.calls),.row (.slice A3 n c3) 44 3 (gA E.vals)]) [0,1,2,3] (λH sH=>hse _ _ _ _ _ _ _ (.slice B' m d') (.slice A1 E.inp.length c1) (Vz) _ ((hfu.sees (S9.trans sH))).fields (fri.sees sH)) ?_; rintro _ _ W10 S11 ⟨ul,rfl,rfl⟩;refine go0 4 [] [] ?_;refine dV 0 (v:=sL ul) (e:=57) (kk:=8) (l:=oW []) ?_; intro Al cl hE_ul hc_ul hm_ul;rw [show (oW []).length=0 from by first | omega | (simp; done) | (simp; omega)] at hE_ul hc_ul;rw [hE_ul];refine oV 28 0 [.pu,.pu,.pu,.ld 1 10,.pu,.pu,.pu,.pu,.pu,.pu,.pu,.ld 1 6,.pu,.ld 4 6,.v (λgh=>.bool true),.pu,.pu,.pu,.pu,.pu,.pu,.pu,.ld 1 7,.pu,.ld 4 7,.v (λgh=>.bool true),.pu,.pu] [] (trivial) ?_ ?_
  ·intro R hT hA hmono;refine Aj (r_callq hT hA hmono 50 (λgh=>.bool true) [6,11,13] 14 (by kernel_rfl) (by kernel_rfl) (by kernel_rfl) (λ_=>by kernel_rfl) 2 (GN R 2) (by kernel_rfl) (by kernel_rfl) (λgh=>.slice A2 n c2) 130 10 (jK E.calls) (λ_=>by kernel_rfl) 100 (λgh=>#[.slice A2 n c2,sL (agJ 3 w)]) (λ_ _=>by kernel_rfl) (λgh H bH sH fH rQ=>c_equalCl rQ (hcl.sees (S3.trans (S5.trans (S7.trans (S9.trans (S11.trans sH)))))) (by have:=hok.calls.len; omega))) ?_;refine Aj (r_callq hT hA hmono 61 (λgh=>.bool true) [17,22,24] 25 (by kernel_rfl) (by kernel_rfl) (by kernel_rfl) (λ_=>by kernel_rfl) 3 (GN R 3) (by kernel_rfl) (by kernel_rfl) (λgh=>.slice A3 n c3) 44 3 (gA E.vals) (λ_=>by kernel_rfl) 19 (λgh=>#[.slice A3 n c3,sL (agJ 4 w)]) (λ_ _=>by kernel_rfl) (λgh H bH sH fH rQ=>c_equalVl rQ (hvl.sees (S3.trans (S5.trans (S7.trans (S9.trans (S11.trans sH)))))) (by have:=hok.vlen; omega))) ?_
   trivial
  rintro W12 S13 -;refine go0 10 [] [] ?_;refine hQ.to [Vi 0] (λH sH=>?_);exact rfl
def idxV (s:ByteArray):Env -> Option Nat
 | []=>none
 | p :: l=>if (p.1.toList == s.toList)=true then some 0 else (idxV s l).map (· + 1)
def jY (s:ByteArray) (v:Vl):Env -> Env
 | []=>[(s,v)]
 | p :: l=>if (p.1.toList == s.toList)=true then (p.1,v) :: l else p :: jY s v l
def idxI:Option Nat -> Int
 | some i=>(i:Int)
 | none => -1
theorem idxV_found {s:ByteArray}:∀ {l:Env} {k:Nat} {p:ByteArray × Vl},(∀ y∈l.take k,(y.1.toList == s.toList)=false) -> l[k]?=some p -> (p.1.toList == s.toList)=true -> idxV s l=some k
 | [],_,_,_,h,_=>by simp at h
 | q :: l,0,p,_,h,hp=>by
  simp only [Iw,Wj] at h;subst h;rw [idxV,Cj hp]
 | q :: l,k + 1,p,hn,h,hp=>by
  have hq:=hn q (by simp);rw [idxV,Bj (by rw [hq]; exact Iv),idxV_found (l:=l) (k:=k) (λy hy=>hn y (by simp [hy])) (by simpa using h) hp]; rfl
theorem idxV_none {s:ByteArray}:∀ {l:Env},(∀ y∈l,(y.1.toList == s.toList)=false) -> idxV s l=none
 | [],_=>rfl
 | q :: l,hn=>by
  have hq:=hn q (by simp);rw [idxV,Bj (by rw [hq]; exact Iv),idxV_none (l:=l) λy hy=>hn y (by simp [hy])]; rfl
theorem putV_none {s:ByteArray} {v:Vl}:∀ {l:Env},idxV s l=none -> jY s v l=l++[(s,v)]
 | [],_=>rfl
 | q :: l,h=>by
  rw [idxV] at h
  split at h
  ·cases h
  ·rename_i hq;rw [jY,Bj hq,putV_none (l:=l) (by simpa using h)]; rfl
theorem putV_some {s:ByteArray} {v:Vl}:∀ {l:Env} {i:Nat},idxV s l=some i -> ∃ p,l[i]?=some p /\ p.1=s /\ jY s v l=l.set i (p.1,v)
 | [],_,h=>by cases h
 | q :: l,i,h=>by
  rw [idxV] at h
  split at h
  ·rename_i hq;simp only [Wj] at h;subst h;refine ⟨q,rfl,?_,by rw [jY,Cj hq]; rfl⟩;rw [tl_dec,Kv] at hq;exact hq
  ·rename_i hq;obtain ⟨j,hj,rfl⟩:=Yv.1 h;obtain ⟨p,h1,h2,h3⟩:=putV_some (v:=v) (l:=l) hj;exact ⟨p,by simpa using h1,h2,by rw [jY,Bj hq,h3]; rfl⟩
theorem putV_mem {s:ByteArray} {v:Vl}:∀ {l:Env} {p:ByteArray × Vl},p∈jY s v l -> p∈l\/(p.1=s /\ p.2=v)
 | [],p,h=>by rw [Pj.1 h]; exact .inr ⟨rfl,rfl⟩
 | q :: l,p,h=>by
  rw [jY] at h
  split at h
  ·rename_i hq;rw [tl_dec,Kv] at hq;rcases Tj.1 h with rfl | h
   ·exact .inr ⟨hq,rfl⟩
   ·exact .inl (Mk _ h)
  ·rcases Tj.1 h with rfl | h
   ·exact .inl (Cq ..)
   ·exact (putV_mem h).imp (Mk _) id
theorem putV_len {s:ByteArray} {v:Vl}:∀ {l:Env},(jY s v l).length <= l.length + 1
 | []=>Ij _
 | q :: l=>by
  rw [jY]
  split
  ·exact Nat.le_succ _
  ·exact Nat.succ_le_succ (putV_len (l:=l))
theorem putV_names {s:ByteArray} {v:Vl}:∀ {l:Env},(jY s v l).map (·.1)=l.map (·.1)\/(jY s v l).map (·.1)=l.map (·.1)++[s] /\ s ∉ l.map (·.1)
 | []=>.inr ⟨rfl,by simp⟩
 | q :: l=>by
  rw [jY]
  split
  ·exact .inl rfl
  ·rename_i hq;rw [tl_dec,Kv] at hq;rcases putV_names (s:=s) (v:=v) (l:=l) with e | ⟨e,hn⟩
   ·exact .inl (by rw [Dk,e]; rfl)
   ·refine .inr ⟨by rw [Dk,e]; rfl,λhm=>?_⟩;rcases Tj.1 hm with h | h
    ·exact hq h.symm
    ·exact hn h
theorem putV_once {s:ByteArray} {v:Vl} {l:Env} (h:(l.map (·.1)).Nodup):((jY s v l).map (·.1)).Nodup:=by
 rcases putV_names (s:=s) (v:=v) (l:=l) with e | ⟨e,hn⟩
 ·rw [e]; exact h
 ·rw [e];exact Eq.2 ⟨h,by simp,λa ha b hb q=>by rw [Pj.1 hb] at q; exact hn (q ▸ ha)⟩
theorem tellFn (p:ByteArray × Vl) (s:ByteArray) (b:Nat) (h:Vw) (hc:Cells h b 0 [Vt s]) :
  C0 Tryz.prog 51 #[.agg #[Vt p.1,Vi 0,Vi 0,.string ⟨#[]⟩,Vi p.2.k,Vi p.2.n,.string p.2.s],.pointer (some ⟨b,0,none⟩)] h (λr _=>r=.bool (p.1.toList == s.toList)):=by
 refine zQ Tryz.func51 λhbx hbad Q hQ=>?_;refine aV (hc.sees (Sees.refl _)) ?_;refine go1 16 [.own,.b 0 0,.f 0 0] [] ?_;intro b1;refine hQ.to [.bool (p.1.toList == s.toList)] (λH sH=>?_);exact rfl
theorem idxFact (inp:Env) (sl:Value) (s:ByteArray) (b:Nat) (h:Vw) (hr:RS h 7 sl (bQ inp)) (hl:inp.length <= 1000000) (hc:Cells h b 0 [Vt s]) :
  C0 Tryz.prog 50 #[sl,.func (.func 51) #[] #[.pointer (some ⟨b,0,none⟩)]] h (λr _=>r=Vi (idxI (idxV s inp))):=by
 obtain ⟨A,cap,rfl,-,-,-⟩:=hr.form;rw [Hj] at *;generalize hL:inp.length=len at *;refine zQ Tryz.func50 λhbx hbad Q hQ=>?_;refine go0 14 [] [] ?_;refine iV [0,1,0,1] [.block 0,.seq [1,1]] (λ(k:Nat) X=>∃ (W1:Vw) ,X W1 [(0,.slice A len cap),(1,.func (.func 51) #[] #[Vp b]),(7,Vi (len:Int)),(8,Vi (k:Int))] [] [] /\ Sees h W1 /\ (k <= len) /\ (∀ y∈inp.take k,(y.1.toList == s.toList)=false)) (λk=>len - k) (0) (λX q=>⟨h,q _ _ _ _ ⟨rfl,by kernel_rfl⟩,Sees.refl _,Oj _,λy hy=>by simp at hy⟩) ?_;rintro k a w ⟨W1,hJ,S2,hk,hn⟩; refine mV hJ ?_; clear hJ a w;refine go0 6 [] [] ?_;rcases (by omega:k < len\/k=len) with hlt | hke
 ·obtain ⟨p,hp⟩:∃ p,inp[k]?=some p:=⟨_,Fj (by omega)⟩;have hrow:(bQ inp)[k]?=some (fcRow p):=by rw [Mj,hp]; rfl
  refine rV (t:=decide ((k:Int) < (len:Int))) (Jj (by omega)) ?_;refine go0 15 [] [] ?_;obtain ⟨b3,o4,rfl,-,c5⟩:=RS.row hr (hrow);refine aV (c5.sees S2) ?_;refine go0 5 [.ix b3 o4 len cap k,.f 0 0,.cl 51 #[.agg #[Vt p.1,Vi 0,Vi 0,Ve,Vi p.2.k,Vi p.2.n,.string p.2.s],Vp b] (.bool (p.1.toList == s.toList))] [] ?_ (ho:=(Aj (by first | omega | (simp; omega)) (Aj (λH sH=>tellFn p s b _ (hc.sees (S2.trans sH))) (trivial))))
  cases boolIs (p.1.toList == s.toList) with
  | true hq =>
   have e:=idxV_found hn hp hq;refine rV (t:=p.1.toList == s.toList) (hq) ?_;refine go0 9 [] [] ?_;refine gV ?_;refine go0 2 [] [] ?_;refine hQ.to [Vi (k:Int)] (λH sH=>?_);exact Dj (λx=>Value.int .i64 (idxI x)) e.symm
  | false hq =>
   refine cV (t:=p.1.toList == s.toList) (hq) ?_;refine go0 7 [] [(18,Vi (IntKind.i64.wrap ((k:Int) + 1)),Vi ((k:Int) + 1))] ?_ (hc:=(Aj (jJ (by omega) (by omega)) (trivial)));exact qV (k + 1) (λX q=>⟨W1,q _ _ _ _ ⟨rfl,by kernel_rfl⟩,S2,by omega,(by rw [wZ inp k p hp]; exact λy hy=>(Qj.1 hy).elim (hn y) (λe=>by rw [Pj.1 e]; exact hq))⟩)
 ·skip;have htk:inp.take k=inp:=by rw [hke, <- hL,Pk]
  rw [htk] at hn;have e:=idxV_none hn;refine cV (t:=decide ((k:Int) < (len:Int))) (Kj (by omega)) ?_;refine go0 2 [] [] ?_;refine gV ?_;refine go0 8 [] [] ?_;refine hQ.to [Vi (-1)] (λH sH=>?_);exact Dj (λx=>Value.int .i64 (idxI x)) e.symm
def gZ (E:Eg) (ρ:List Int):Sst:=bZ E.fm.fields E.pol E.now E.inp ⟨E.calls,E.vals,[],E.last,[]⟩ (rX ρ E.fm.fields.length)
def hZ (E:Eg) (ρ:List Int):Eg:={ E with calls:=(gZ E ρ).calls,vals:=(gZ E ρ).vals,last:=(gZ E ρ).last }
theorem setE_run {E:Eg} {ρ:List Int} {lv:Nat -> Nat} (hok:EgOk E ρ lv):RunS E.fm.fields E.pol E.now E.inp ⟨E.calls,E.vals,[],E.last,[]⟩ (rX ρ E.fm.fields.length) (gZ E ρ):=by
 have few:=hok.fm.fields.few;have one:=hok.one;have hl:=hok.l1;have hod:Ordd E.fm.fields ρ lv (rX ρ E.fm.fields.length):=sX hok.fm.rank (by omega);have h:=runS_inv (s0:=⟨E.calls,E.vals,[],E.last,[]⟩) (os:=rX ρ E.fm.fields.length) hok.pol hok.fm.fields hok.ki hok.n0 hok.n1 hok.calls hok.vlen rfl hok.l0 (by rw [hod.len]; show E.last + _ <= _; omega) (λi q=>hod.lt q) _ (Ij _);rw [Pk] at h;exact h
theorem settE_ok {E:Eg} {ρ:List Int} {lv:Nat -> Nat} (hok:EgOk E ρ lv) (hl:(gZ E ρ).last <= 1073741810):EgOk (hZ E ρ) ρ lv:=by
 have R:=setE_run hok;have h0:=hok.l0;have h1:=R.lo;simp only at h1;exact ⟨hok.fm,hok.one,hok.pol,hok.ki,hok.k0,hok.once,hok.li,R.calls,R.vlen,hok.n0,hok.n1,by show 0 <= (gZ E ρ).last; omega,hl⟩
theorem ordL_nodup {fs:List Fd} {ρ:List Int} {lv:Nat -> Nat} {os:List Nat} (h:Ordd fs ρ lv os):os.Nodup:=by
 exact h.perm.nodup_iff.2 Zw
theorem iZ {E:Eg} {ρ:List Int} {lv:Nat -> Nat} (hok:EgOk E ρ lv):Settled (hZ E ρ) ρ:=by
 have few:=hok.fm.fields.few;have one:=hok.one;have hod:Ordd E.fm.fields ρ lv (rX ρ E.fm.fields.length):=sX hok.fm.rank (by omega);have h:=runS_fix E.fm.fields E.pol E.now E.inp ⟨E.calls,E.vals,[],E.last,[]⟩ (ordL_nodup hod) hok.calls.len hok.vlen rfl E.now (gZ E ρ).last _ (Ij _);rw [Pk] at h;exact ⟨_,h⟩
def xZ (E:Eg) (nm:ByteArray) (v:Vl):Eg:={ E with inp:=jY nm v E.inp }
theorem tellE_ok {E:Eg} {ρ:List Int} {lv:Nat -> Nat} (hok:EgOk E ρ lv) {nm:ByteArray} {v:Vl} (hv:v.known) (ht:zZ E.fm.fields nm v.k=0) (hl:E.inp.length <= 99):EgOk (xZ E nm v) ρ lv:=by
 refine ⟨hok.fm,hok.one,hok.pol,λq hq=>?_,λq hq=>?_,putV_once hok.once,?_,hok.calls,hok.vlen,hok.n0,hok.n1,hok.l0,hok.l1⟩
 ·rcases putV_mem hq with h | ⟨h1,h2⟩
  ·exact hok.ki q h
  ·rw [h2]; exact hv
 ·rcases putV_mem hq with h | ⟨h1,h2⟩
  ·exact hok.k0 q h
  ·rw [h1,h2]; exact ht
 ·have:=putV_len (s:=nm) (v:=v) (l:=E.inp)
  show (jY nm v E.inp).length <= 100;omega
theorem settle_eg (E:Eg) (ρ:List Int) (lv:Nat -> Nat) (hok:EgOk E ρ lv) (b n:Nat) (hn:E.fm.fields.length=n) (A A2 A3:Option Addr) (c c2 c3:Nat) (gv iv lw0:Value) (h:Vw) (hf:IsFds h (.slice A n c) E.fm.fields) (hi:RS h 7 (sL iv) (bQ E.inp)) (hl:(gZ E ρ).last <= 1073741810) :
  ConE Tryz.prog 44 #[.pointer (some ⟨b,0,none⟩)] h
   [.row (sL lw0) 57 8 (oW []),.box b [.slice A n c,sL gv,Vi E.pol.t,Vi E.pol.b,Vi E.pol.c,sL iv,.slice A2 n c2,.slice A3 n c3,Vi E.now,Vi E.last,sL lw0],.row (.slice A2 n c2) 130 10 (jK E.calls),.row (.slice A3 n c3) 44 3 (gA E.vals)]
   (λv Bo _=>DonR (gZ E ρ) b [.slice A n c,sL gv,Vi E.pol.t,Vi E.pol.b,Vi E.pol.c,sL iv,.slice A2 n c2,.slice A3 n c3,Vi E.now] (.slice A2 n c2) (.slice A3 n c3) v Bo):=by
 have few:=hok.fm.fields.few;have hl1:=hok.l1;have hli:=hok.li;have h0:=hok.l0;have R:=(setE_run hok).lo;simp only at R;have hs:=λH (s:Sees h H)=>settle_con E.fm ρ lv hok.fm b n A A2 A3 c c2 c3 gv iv lw0 E.pol hok.pol E.now E.last hok.n0 hok.n1 hok.l0 (by omega) E.calls E.vals [] E.inp H (hf.sees s) hn.symm (by have:=hok.one; omega) hok.calls (hok.vlen.trans hn) (hi.sees s) hok.ki (by omega) (by simp);subst hn;exact done_con (gZ E ρ) b _ A A2 A3 c c2 c3 gv iv lw0 E.pol E.now E.last hok.n0 hok.n1 E.calls E.vals [] h (by omega) hl hs
structure TelF (h:Vw) (u:Value) (E:Eg) (lt:List Lt):Prop where
 eng:IsEng h u E
 out:RS h 8 (sL (agJ 5 u)) (oW lt)
theorem TelF.sees {h h':Vw} {u:Value} {E:Eg} {lt:List Lt} (k:TelF h u E lt) (s:Sees h h'):TelF h' u E lt:=⟨k.eng.sees s,k.out.sees s⟩
def TelR (E:Eg) (lt:List Lt) (r:Value) (h:Vw):Prop:=∃ u,r=.tuple #[.agg (eA u E),sL (agJ 5 u),Vi 0] /\ TelF h u E lt
theorem tell_any (E:Eg) (ρ:List Int) (lv:Nat -> Nat) (hok:EgOk E ρ lv) (hse:Settled E ρ) (nm:ByteArray) (v:Vl) (hv:v.known) (ht:zZ E.fm.fields nm v.k=0) (hli:E.inp.length <= 99) (hl:(gZ (xZ E nm v) ρ).last <= 1073741810) (w:Value) (h:Vw) (hE:IsEng h w E) :
  C0 Tryz.prog 16 #[.agg (eA w E),.string nm,.agg #[Vi v.k,Vi v.n,.string v.s]] h (λr h'=>TelR (hZ (xZ E nm v) ρ) (gZ (xZ E nm v) ρ).out r h'):=by
 have few:=hok.fm.fields.few;have hck:=λH q=>egCheck_any E ρ lv hok hse w H q;have hcp:=λH q=>engCopy_form E ρ lv hok w _ _ rfl rfl H q;have htl:=λH q=>told_any E.fm.fields (sL (agJ 0 w)) nm v.k v.n v.s H q (by omega) hv;rw [ht] at htl;have hok':=tellE_ok hok hv ht hli;have hdn:=λb n hn A A2 A3 c c2 c3 gv iv lw0 H q1 q2=>settle_eg (xZ E nm v) ρ lv hok' b n hn A A2 A3 c c2 c3 gv iv lw0 H q1 q2 hl;have hix:=λsl b H q1 q2=>idxFact E.inp sl nm b H q1 (by omega) q2;have hfr:(bQ E.inp).length=E.inp.length:=Hj _;have hcase:(idxI (idxV nm E.inp) = -1 /\ jY nm v E.inp=E.inp++[(nm,v)])\/∃ (i:Nat) (q:ByteArray × Vl),idxI (idxV nm E.inp)=(i:Int) /\ E.inp[i]?=some q /\ jY nm v E.inp=E.inp.set i (q.1,v):=by
  cases hq:idxV nm E.inp with
  | none=>exact .inl ⟨rfl,putV_none hq⟩
  | some i =>
   obtain ⟨q,q1,-,q2⟩:=putV_some (v:=v) hq;exact .inr ⟨i,q,rfl,q1,q2⟩
 generalize idxI (idxV nm E.inp)=iv at *;generalize hn:E.fm.fields.length=n at *;generalize hm:E.fm.pages.length=m at *;generalize hlen:E.inp.length=len at *;obtain ⟨S,hS⟩:∃ S,gZ (xZ E nm v) ρ=S:=⟨_,rfl⟩;have hres:hZ (xZ E nm v) ρ={ xZ E nm v with calls:=S.calls,vals:=S.vals,last:=S.last }:=by unfold hZ; rw [hS]
 rw [hS] at hdn;refine zQ Tryz.func16 λhbx hbad Q hQ=>?_;refine go3 5 [.own,.own,.own] [] ?_;intro b1 b2 b3;refine go1 46 [.own,.b 3 0,.cl 47 #[.agg (eA w E)] (Vi 0),.b 3 0,.b 2 0,.b 1 0,.cl 48 #[sL (agJ 0 w),.string nm,.agg #[Vi v.k,Vi v.n,.string v.s]] (Vi 0),.b 3 0] [] ?_ (ho:=(Aj (λH sH=>hck _ (hE.sees sH)) (Aj (λH sH=>htl _ ((hE.sees sH)).form.fields) (trivial))));intro b4;refine xQ (Bi:=[]) [] (λH sH=>hcp _ (hE.sees sH)) ?_; rintro _ _ W5 S6 ⟨A',c',B',d',A1,c1,A2,c2,A3,c3,rfl,rfl,hfu⟩;refine go1 13 [.own,.b 0 5] [] ?_;intro bm;refine g_callq (λa w hJ=>hix _ _ _ (hJ.j.rowQ (v:=.slice A1 len c1) (e:=122) (k:=7) (l:=bQ E.inp) 1 (by kernel_rfl)) (hJ.j.boxQ (b:=b2) (cs:=[Vt nm]) 6 (by kernel_rfl))) ?_; intro W7 S8;refine go0 10 [] [] ?_;rcases hcase with ⟨hiv,hput⟩ | ⟨i,q,hiv,hqi,hput⟩
 ·have hnew:(bQ E.inp++([[Vt nm,Vi 0,Vi 0,.string ⟨#[]⟩,Vi 0,Vi 0,.string ⟨#[]⟩]]:List (List Value)))[len]?=some [Vt nm,Vi 0,Vi 0,.string ⟨#[]⟩,Vi 0,Vi 0,.string ⟨#[]⟩]:=by rw [<- hfr]; simp
  have hfin:(bQ E.inp++([[Vt nm,Vi 0,Vi 0,.string ⟨#[]⟩,Vi 0,Vi 0,.string ⟨#[]⟩]]:List (List Value))).set len [Vt nm,Vi 0,Vi 0,.string ⟨#[]⟩,Vi v.k,Vi v.n,.string v.s]=bQ (jY nm v E.inp):=by rw [hput,fcRows_snoc, <- hfr]; simp
  refine rV (t:=decide (iv < 0)) (Jj (by omega)) ?_;refine go0 11 [.b 0 5] [] ?_;refine oV 14 0 [.pu,.pu,.pu,.pu,.pu,.ld 0 5,.ld 6 0,.pu,.f (λgh=>.slice (some ⟨(xJ (gh 8)),0,none⟩) 1 1) (λgh hh=>Cells hh (xJ (gh 8)) 0 [Vt nm,Vi 0,Vi 0,Ve,Vi 0,Vi 0,Ve]),.e (λgh=>sL (gh 9)) 1 (λgh=>.row (sL (gh 9)) 122 7 ((bQ E.inp)++[[Vt nm,Vi 0,Vi 0,Ve,Vi 0,Vi 0,Ve]])),.pu,.pu,.pu,.st 0 5] [(8,true),(9,false)] (Aj (λ_ _ _ s c=>c.sees s) (trivial)) ?_ ?_
  ·intro R hT hA hmono;refine Aj (mY hT hA hmono 56 (λg=>Vs g 1 1) [7] 8 (λgh=>[Vt nm,Vi 0,Vi 0,Ve,Vi 0,Vi 0,Ve]) 122 (λgh zb zH zc zj zq zhq zhe=>tX (i:=8) (k:=0) (f:=λgh hh=>Cells hh (xJ (gh 8)) 0 [Vt nm,Vi 0,Vi 0,Ve,Vi 0,Vi 0,Ve]) zc zj zq zhq zhe)) ?_;refine Aj (kY hT hA hmono 57 [5,8] 9 1 (GN R 1) (λgh=>.slice A1 len c1) 32 122 7 (λgh=>bQ E.inp) (λgh=>[[Vt nm,Vi 0,Vi 0,Ve,Vi 0,Vi 0,Ve]]) (.tmp 53) (.tmp 56) (λgh=>(xJ (gh 8))) 1 1 0 8 (λgh hh=>Cells hh (xJ (gh 8)) 0 [Vt nm,Vi 0,Vi 0,Ve,Vi 0,Vi 0,Ve]) (λ_ _ c=>c) Tryz.underlying32 (zv:=.agg #[Ve,Vi 0,Vi 0,Ve,Vi 0,Vi 0,Ve]) (bytes:=80) (λ_=>by rw [hfr]; simp; omega)) ?_
   trivial
  rintro b10 v57 W11 S12 ⟨f9,-⟩;replace f9:Cells W11 b10 0 [Vt nm,Vi 0,Vi 0,Ve,Vi 0,Vi 0,Ve]:=f9;refine aV f9 ?_;refine go0 2 [] [] ?_;refine fV [(5,Vp b3),(6,Vp b4),(11,Vp bm),(12,Vi (len:Int))] [.box bm [.slice A' n c',.slice B' m d',Vi E.pol.t,Vi E.pol.b,Vi E.pol.c,sL v57,.slice A2 n c2,.slice A3 n c3,Vi E.now,Vi E.last,Vz],.row (sL v57) 122 7 ((bQ E.inp)++[[Vt nm,Vi 0,Vi 0,Ve,Vi 0,Vi 0,Ve]]),.row (.slice A2 n c2) 130 10 (jK E.calls),.row (.slice A3 n c3) 44 3 (gA E.vals),.box b4 [Vz,Vz,Vi 0,Vi 0,Vi 0,Vz,Vz,Vz,Vi 0,Vi 0],.box b3 [Vi v.k,Vi v.n,.string v.s],.box b2 [Vt nm],.box b1 (eL w E)] [(b10,0,[Vt nm,Vi 0,Vi 0,Ve,Vi 0,Vi 0,Ve])] ?_;refine dV 1 (v:=sL v57) (e:=122) (kk:=7) (l:=(bQ E.inp)++[[Vt nm,Vi 0,Vi 0,Ve,Vi 0,Vi 0,Ve]]) ?_; intro A7 c7 hE_v57 hc_v57 hm_v57;rw [show ((bQ E.inp)++[[Vt nm,Vi 0,Vi 0,Ve,Vi 0,Vi 0,Ve]]).length=(len + 1) from by first | omega | (simp; done) | (simp; omega)] at hE_v57 hc_v57;rw [hE_v57];refine g_get (λa w hJ=>uX (hJ.rowOwn (v:=.slice A7 (len + 1) c7) (e:=122) (kk:=7) (l:=(bQ E.inp)++[[Vt nm,Vi 0,Vi 0,Ve,Vi 0,Vi 0,Ve]]) 1 (by kernel_rfl)) ((by simp))) ?_; rintro ⟨b7,rfl⟩;refine oV 10 0 [.pu,.pu,.pu,.pu,.ld 0 5,.pu,.ld 5 0,.v (λgh=>.pointer (some ⟨b7,0 + len * 7,none⟩)),.pu,.s 1 (λgh=>.row (Vs b7 (len + 1) c7) 122 7 (((bQ E.inp)++[[Vt nm,Vi 0,Vi 0,Ve,Vi 0,Vi 0,Ve]]).set len [Vt nm,Vi 0,Vi 0,Ve,Vi v.k,Vi v.n,.string v.s]))] [] (trivial) ?_ ?_
  ·intro R hT hA hmono;refine Aj (vZ hT hA b7 0 (len + 1) c7 len (λgh=>.pointer (some ⟨b7,0 + len * 7,none⟩)) (by first | omega | (simp; omega))) ?_;refine Aj (r_rowset' hT hA [0,1,2,3,4,5,6,8] 1 (GN R 1) len 4 (g:=b7) (m:=(len + 1)) (cap:=c7) (kk:=7) (te:=122) (l:=(bQ E.inp)++[[Vt nm,Vi 0,Vi 0,Ve,Vi 0,Vi 0,Ve]]) (r:=[Vt nm,Vi 0,Vi 0,Ve,Vi 0,Vi 0,Ve]) (λgh=>.agg #[Vi v.k,Vi v.n,.string v.s]) 44 (.tmp 69) (.tmp 67) (hnew)) ?_
   trivial
  rintro W13 S14 -;refine go0 4 [] [] ?_;refine eV 1 (v:=Vs b7 (len + 1) c7) (e:=122) (kk:=7) (l:=((bQ E.inp)++[[Vt nm,Vi 0,Vi 0,Ve,Vi 0,Vi 0,Ve]]).set len [Vt nm,Vi 0,Vi 0,Ve,Vi v.k,Vi v.n,.string v.s]) ?_; intro W15 S16 fri;rw [hfin] at fri;refine lV 57 8 ?_;refine xQ (Bi:=[.row (Vz) 57 8 ([]),.box bm [.slice A' n c',.slice B' m d',Vi E.pol.t,Vi E.pol.b,Vi E.pol.c,Vs b7 (len + 1) c7,.slice A2 n c2,.slice A3 n c3,Vi E.now,Vi E.last,Vz],.row (.slice A2 n c2) 130 10 (jK E.calls),.row (.slice A3 n c3) 44 3 (gA E.vals)]) [0,1,2,3] (λH sH=>hdn bm n hn A' A2 A3 c' c2 c3 (.slice B' m d') (Vs b7 (len + 1) c7) (Vz) _ ((hfu.sees (S8.trans (S12.trans (S14.trans (S16.trans sH)))))).fields (fri.sees sH)) ?_; rintro _ _ W17 S18 ⟨ul,rfl,rfl⟩;refine go0 9 [.b 4 0] [] ?_;refine eV 0 (v:=sL ul) (e:=57) (kk:=8) (l:=oW S.out) ?_; intro W19 S20 fl;refine eV 1 (v:=.slice A2 n c2) (e:=130) (kk:=10) (l:=jK S.calls) ?_; intro W21 S22 fc;refine eV 1 (v:=.slice A3 n c3) (e:=44) (kk:=3) (l:=gA S.vals) ?_; intro W23 S24 fv;refine hQ.to [.agg #[.slice A' n c',.slice B' m d',Vi E.pol.t,Vi E.pol.b,Vi E.pol.c,Vs b7 (len + 1) c7,.slice A2 n c2,.slice A3 n c3,Vi E.now,Vi S.last],sL ul,Vi 0] (λH sH=>?_) (ix:=[1]);exact (by rw [hres,hS]; exact ⟨.agg #[.slice A' n c',.slice B' m d',Vs b7 (len + 1) c7,.slice A2 n c2,.slice A3 n c3,ul],rfl,⟨⟨(hfu.sees (S8.trans (S12.trans (S14.trans (S16.trans (S18.trans (S20.trans (S22.trans (S24.trans sH))))))))),(fri.sees (S18.trans (S20.trans (S22.trans (S24.trans sH))))),(fc.sees (S24.trans sH)),(fv.sees sH)⟩,(fl.sees (S22.trans (S24.trans sH)))⟩⟩:TelR (hZ (xZ E nm v) ρ) (gZ (xZ E nm v) ρ).out _ _)
 ·skip;subst hiv
  have hil:=(Nj.1 hqi).1;have hx1:(bQ E.inp)[i]?=some (fcRow q):=by rw [Mj,hqi]; rfl
  have hfin:(bQ E.inp).set i [Vt q.1,Vi 0,Vi 0,.string ⟨#[]⟩,Vi v.k,Vi v.n,.string v.s]=bQ (jY nm v E.inp):=by rw [hput]; exact (List.map_set (f:=fcRow) (l:=E.inp) (i:=i) (a:=(q.1,v))).symm
  refine cV (t:=decide ((i:Int) < 0)) (Kj (by omega)) ?_;refine go0 3 [] [] ?_;refine g_get (λa w hJ=>uX (hJ.rowOwn (v:=.slice A1 len c1) (e:=122) (kk:=7) (l:=bQ E.inp) 1 (by kernel_rfl)) ((by rw [hfr]; omega))) ?_; rintro ⟨b7,rfl⟩;refine oV 10 0 [.pu,.pu,.pu,.pu,.ld 0 5,.pu,.ld 5 0,.v (λgh=>.pointer (some ⟨b7,0 + i * 7,none⟩)),.pu,.s 1 (λgh=>.row (Vs b7 len c1) 122 7 ((bQ E.inp).set i [Vt q.1,Vi 0,Vi 0,Ve,Vi v.k,Vi v.n,.string v.s]))] [] (trivial) ?_ ?_
  ·intro R hT hA hmono;refine Aj (vZ hT hA b7 0 len c1 i (λgh=>.pointer (some ⟨b7,0 + i * 7,none⟩)) (by first | omega | (simp; omega))) ?_;refine Aj (r_rowset' hT hA [0,1,2,3,4,5,6,8] 1 (GN R 1) i 4 (g:=b7) (m:=len) (cap:=c1) (kk:=7) (te:=122) (l:=bQ E.inp) (r:=[Vt q.1,Vi 0,Vi 0,Ve,Vi q.2.k,Vi q.2.n,.string q.2.s]) (λgh=>.agg #[Vi v.k,Vi v.n,.string v.s]) 44 (.tmp 69) (.tmp 67) (hx1)) ?_
   trivial
  rintro W25 S26 -;refine go0 4 [] [] ?_;rw [hfin];refine eV 1 (v:=Vs b7 len c1) (e:=122) (kk:=7) (l:=bQ (jY nm v E.inp)) ?_; intro W27 S28 fri;refine lV 57 8 ?_;refine xQ (Bi:=[.row (Vz) 57 8 ([]),.box bm [.slice A' n c',.slice B' m d',Vi E.pol.t,Vi E.pol.b,Vi E.pol.c,Vs b7 len c1,.slice A2 n c2,.slice A3 n c3,Vi E.now,Vi E.last,Vz],.row (.slice A2 n c2) 130 10 (jK E.calls),.row (.slice A3 n c3) 44 3 (gA E.vals)]) [0,1,2,3] (λH sH=>hdn bm n hn A' A2 A3 c' c2 c3 (.slice B' m d') (Vs b7 len c1) (Vz) _ ((hfu.sees (S8.trans (S26.trans (S28.trans sH))))).fields (fri.sees sH)) ?_; rintro _ _ W29 S30 ⟨ul,rfl,rfl⟩;refine go0 9 [.b 4 0] [] ?_;refine eV 0 (v:=sL ul) (e:=57) (kk:=8) (l:=oW S.out) ?_; intro W31 S32 fl;refine eV 1 (v:=.slice A2 n c2) (e:=130) (kk:=10) (l:=jK S.calls) ?_; intro W33 S34 fc;refine eV 1 (v:=.slice A3 n c3) (e:=44) (kk:=3) (l:=gA S.vals) ?_; intro W35 S36 fv;refine hQ.to [.agg #[.slice A' n c',.slice B' m d',Vi E.pol.t,Vi E.pol.b,Vi E.pol.c,Vs b7 len c1,.slice A2 n c2,.slice A3 n c3,Vi E.now,Vi S.last],sL ul,Vi 0] (λH sH=>?_) (ix:=[1]);exact (by rw [hres,hS]; exact ⟨.agg #[.slice A' n c',.slice B' m d',Vs b7 len c1,.slice A2 n c2,.slice A3 n c3,ul],rfl,⟨⟨(hfu.sees (S8.trans (S26.trans (S28.trans (S30.trans (S32.trans (S34.trans (S36.trans sH)))))))),(fri.sees (S30.trans (S32.trans (S34.trans (S36.trans sH))))),(fc.sees (S36.trans sH)),(fv.sees sH)⟩,(fl.sees (S34.trans (S36.trans sH)))⟩⟩:TelR (hZ (xZ E nm v) ρ) (gZ (xZ E nm v) ρ).out _ _)
def zW (f:Fm) (p:Pol):Eg:=⟨f,p,[],List.replicate f.fields.length clZ,List.replicate f.fields.length zV,0,0⟩
theorem newE_ok {f:Fm} {ρ:List Int} {lv:Nat -> Nat} (hok:OkFm f ρ lv) (h1:1 <= f.fields.length) {p:Pol} (hp:p.ok):EgOk (zW f p) ρ lv:=by
 refine ⟨hok,h1,hp,λq hq=>(by cases hq),λq hq=>(by cases hq),List.Pairwise.nil,Oj _,⟨Rv,λi g c hg hc=>?_⟩,Rv,Cv 0,by show (0:Int) <= _; decide,Cv 0,by show (0:Int) <= _; decide⟩;obtain rfl:=(List.mem_replicate.1 (Ej hc)).2;exact ⟨.inl rfl,λq=>absurd rfl q,λq=>absurd (show (0:Int)=2 from q) (by decide)⟩
theorem newE_last {f:Fm} {ρ:List Int} {lv:Nat -> Nat} (hok:OkFm f ρ lv) (h1:1 <= f.fields.length) {p:Pol} (hp:p.ok):0 <= (gZ (zW f p) ρ).last /\ (gZ (zW f p) ρ).last <= 14:=by
 have R:=setE_run (newE_ok hok h1 hp);have few:=hok.fields.few;have hod:Ordd f.fields ρ lv (rX ρ f.fields.length):=sX hok.rank (by omega);have h1:=R.lo;have h2:=R.hi;have h3:(rX ρ (zW f p).fm.fields.length).length=f.fields.length:=hod.len;rw [h3] at h2;have h4:(zW f p).last=0:=rfl;simp only [h4] at h1 h2;omega
def FormU (h:Vw) (u:Value) (f:Fm):Prop:=IsForm h (sL (agJ 0 u)) (sL (agJ 1 u)) f
theorem FormU.sees {h h':Vw} {u:Value} {f:Fm} (k:FormU h u f) (s:Sees h h'):FormU h' u f:=IsForm.sees k s
theorem rep_cl (n:Nat):List.replicate n [Vi 0,Vi 0,Vi 0,Vi 0,Vi 0,.string ⟨#[]⟩,Vi 0,Vi 0,.string ⟨#[]⟩,Vi 0]=jK (List.replicate n clZ):=by unfold jK; rw [List.map_replicate]; rfl
theorem rep_vl (n:Nat):List.replicate n [Vi 0,Vi 0,.string ⟨#[]⟩]=gA (List.replicate n zV):=by unfold gA; rw [List.map_replicate]; rfl
theorem new_any (f:Fm) (ρ:List Int) (lv:Nat -> Nat) (hok:OkFm f ρ lv) (h1:1 <= f.fields.length) (p:Pol) (hp:p.ok) (fv pv:Value) (h:Vw) (hf:IsForm h fv pv f) :
  C0 Tryz.prog 11 #[.agg #[fv,pv],.agg #[Vi p.t,Vi p.b,Vi p.c]] h (λr h'=>TelR (hZ (zW f p) ρ) (gZ (zW f p) ρ).out r h'):=by
 have few:=hok.fields.few;have hgc:=c_gapChk p hp;have hnl:=(newE_last hok h1 hp).2;have hok':=newE_ok hok h1 hp;have hdn:=λb n hn A A2 A3 c c2 c3 gv iv lw0 H q1 q2=>settle_eg (zW f p) ρ lv hok' b n hn A A2 A3 c c2 c3 gv iv lw0 H q1 q2 (by omega);have hS:=λfv pv H q=>shCopy_any f ρ lv hok fv pv H q;obtain ⟨vs,A,c,rfl,-,-,-,-,-,-⟩:=iQ hf.fields;obtain ⟨us,ws,B,d,rfl,-,-,-,-,-,-⟩:=pgs_open hf.pages;have hsc:=λH q=>shCheck_any f ρ lv A f.fields.length c B f.pages.length d H hok q rfl;obtain ⟨S,hS'⟩:∃ S,gZ (zW f p) ρ=S:=⟨_,rfl⟩;have hres:hZ (zW f p) ρ={ zW f p with calls:=S.calls,vals:=S.vals,last:=S.last }:=by unfold hZ; rw [hS']
 rw [hS'] at hdn;have hcl:List.replicate f.fields.length [Vi 0,Vi 0,Vi 0,Vi 0,Vi 0,.string ⟨#[]⟩,Vi 0,Vi 0,.string ⟨#[]⟩,Vi 0]=jK (zW f p).calls:=rep_cl f.fields.length;have hvl:List.replicate f.fields.length [Vi 0,Vi 0,.string ⟨#[]⟩]=gA (zW f p).vals:=rep_vl f.fields.length;generalize hn:f.fields.length=n at *;generalize hm:f.pages.length=m at *;refine zQ Tryz.func11 λhbx hbad Q hQ=>?_;refine go3 52 [.own,.own,.own,.b 2 0,.cl 41 #[.agg #[.slice A n c,.slice B m d]] (Vi 0),.b 1 0,.cl 42 #[.agg #[Vi p.t,Vi p.b,Vi p.c]] (Vi 0),.b 2 0] [] ?_ (ho:=(Aj (λH sH=>hsc _ (hf.sees sH)) (Aj (λH sH=>hgc _) (trivial))));intro b1 b2 b3;refine oV 11 3 [.ld 5 0,.f (λgh=>.agg #[sL (agJ 0 (gh 1)),sL (agJ 1 (gh 1))]) (λgh hh=>FormU hh (gh 1) f),.ld 4 0,.pu,.e (λgh=>.slice (some ⟨(xJ (gh 4)),0,none⟩) n n) 0 (λgh=>.row (.slice (some ⟨(xJ (gh 4)),0,none⟩) n n) 130 10 (List.replicate n [Vi 0,Vi 0,Vi 0,Vi 0,Vi 0,Ve,Vi 0,Vi 0,Ve,Vi 0])),.pu,.e (λgh=>.slice (some ⟨(xJ (gh 6)),0,none⟩) n n) 1 (λgh=>.row (.slice (some ⟨(xJ (gh 6)),0,none⟩) n n) 44 3 (List.replicate n [Vi 0,Vi 0,Ve])),.pu,.pu,.al 2,.pu] [(1,false),(4,true),(6,true),(9,true)] (Aj (λ_ _ _ s c=>c.sees s) (trivial)) ?_ ?_
 ·intro R hT hA hmono;refine Aj (lY hT hA hmono 27 (λu=>.agg #[sL (agJ 0 u),sL (agJ 1 u)]) [0] 1 43 (λgh=>#[.agg #[.slice A n c,.slice B m d]]) (λgh H sH fH lent=>C0.facts (R:=R) (x:=gh) (i:=1) (n:=0) (F:=(λu=>.agg #[sL (agJ 0 u),sL (agJ 1 u)])) (G:=λu hh=>FormU hh u f) (f:=λgh hh=>FormU hh (gh 1) f) (hS _ _ _ (hf.sees sH)) (by kernel_rfl) (by kernel_rfl) (λ_ _ r=>r))) ?_;refine Aj (r_make hT hA hmono ⟨λ_ _=>by kernel_rfl,λ_ _=>by kernel_rfl,λ_ _=>by kernel_rfl⟩ (by kernel_rfl) 30 [3] 4 n (by kernel_rfl) (λ_=>by kernel_rfl) 0 (GN R 0) (by kernel_rfl) (by kernel_rfl) (by kernel_rfl) (t:=33) (te:=130) (z:=.agg #[Vi 0,Vi 0,Vi 0,Vi 0,Vi 0,Ve,Vi 0,Vi 0,Ve,Vi 0]) (cs:=[Vi 0,Vi 0,Vi 0,Vi 0,Vi 0,Ve,Vi 0,Vi 0,Ve,Vi 0]) (y:=(.tmp 29)) (by_:=96) (kk:=10) (λ_=>by kernel_rfl) (λ_=>by kernel_rfl) (by kernel_rfl) (λ_=>by kernel_rfl) Tryz.underlying33 (by kernel_rfl) rfl rfl (by decide) (by omega) (by omega) (by simp only [maxLen]; omega)) ?_;refine Aj (r_make hT hA hmono ⟨λ_ _=>by kernel_rfl,λ_ _=>by kernel_rfl,λ_ _=>by kernel_rfl⟩ (by kernel_rfl) 32 [5] 6 n (by kernel_rfl) (λ_=>by kernel_rfl) 1 (GN R 1) (by kernel_rfl) (by kernel_rfl) (by kernel_rfl) (t:=34) (te:=44) (z:=.agg #[Vi 0,Vi 0,Ve]) (cs:=[Vi 0,Vi 0,Ve]) (y:=(.tmp 31)) (by_:=32) (kk:=3) (λ_=>by kernel_rfl) (λ_=>by kernel_rfl) (by kernel_rfl) (λ_=>by kernel_rfl) Tryz.underlying34 (by kernel_rfl) rfl rfl (by decide) (by omega) (by omega) (by simp only [maxLen]; omega)) ?_
  trivial
 rintro u27 bcq bvq bm W4 S5 ⟨f27,-⟩;replace f27:FormU W4 u27 f:=f27;refine go0 4 [] [] ?_;obtain ⟨-,A6,c6,e6,-,-,-,-,-,-⟩:=iQ f27.fields;rw [hn] at e6;refine fV [(4,Vp b3),(36,Vp bm)] [.row (Vs bcq n n) 130 10 (List.replicate n [Vi 0,Vi 0,Vi 0,Vi 0,Vi 0,Ve,Vi 0,Vi 0,Ve,Vi 0]),.row (Vs bvq n n) 44 3 (List.replicate n [Vi 0,Vi 0,Ve]),.box bm [sL (agJ 0 u27),sL (agJ 1 u27),Vi p.t,Vi p.b,Vi p.c,Vz,Vs bcq n n,Vs bvq n n,Vi 0,Vi 0,Vz],.box b3 [Vz,Vz,Vi 0,Vi 0,Vi 0,Vz,Vz,Vz,Vi 0,Vi 0],.box b2 [Vi p.t,Vi p.b,Vi p.c],.box b1 [.slice A n c,.slice B m d]] [] ?_;rw [e6,hcl,hvl];have f28:=f27.fields;rw [e6] at f28;refine g_front 2 ?_;refine lV 57 8 ?_;refine xQ (Bi:=[.row (Vz) 57 8 ([]),.box bm [.slice A6 n c6,sL (agJ 1 u27),Vi p.t,Vi p.b,Vi p.c,Vz,Vs bcq n n,Vs bvq n n,Vi 0,Vi 0,Vz],.row (Vs bcq n n) 130 10 (jK (zW f p).calls),.row (Vs bvq n n) 44 3 (gA (zW f p).vals)]) [0,1,2,3] (λH sH=>hdn bm n hn A6 (some ⟨bcq,0,none⟩) (some ⟨bvq,0,none⟩) c6 n n (agJ 1 u27) (Vz) (Vz) _ (f28.sees sH) (RS.nil _ 7)) ?_; rintro _ _ W6 S7 ⟨ul,rfl,rfl⟩;refine go0 9 [.b 4 0] [] ?_;refine eV 0 (v:=sL ul) (e:=57) (kk:=8) (l:=oW S.out) ?_; intro W8 S9 fl;refine eV 1 (v:=Vs bcq n n) (e:=130) (kk:=10) (l:=jK S.calls) ?_; intro W10 S11 fc;refine eV 1 (v:=Vs bvq n n) (e:=44) (kk:=3) (l:=gA S.vals) ?_; intro W12 S13 fv;refine hQ.to [.agg #[.slice A6 n c6,sL (agJ 1 u27),Vi p.t,Vi p.b,Vi p.c,Vz,Vs bcq n n,Vs bvq n n,Vi 0,Vi S.last],sL ul,Vi 0] (λH sH=>?_) (ix:=[1]);exact (by rw [hres,hS']; exact ⟨.agg #[.slice A6 n c6,agJ 1 u27,Vz,Vs bcq n n,Vs bvq n n,ul],rfl,⟨⟨⟨(f28.sees (S7.trans (S9.trans (S11.trans (S13.trans sH))))),IsForm.pages (f27.sees (S7.trans (S9.trans (S11.trans (S13.trans sH)))))⟩,RS.nil _ 7,(fc.sees (S13.trans sH)),(fv.sees sH)⟩,(fl.sees (S11.trans (S13.trans sH)))⟩⟩:TelR (hZ (zW f p) ρ) (gZ (zW f p) ρ).out _ _)
def polE (a b c:Int):Pol:=⟨1 + cJ a 6,1 + cJ b 50,1 + cJ b 50 + cJ c 200⟩
theorem polE_ok (a b c:Int):(polE a b c).ok:=by
 have h1:=fY a 6 (by decide);have h2:=fY b 50 (by decide);have h3:=fY c 200 (by decide);exact ⟨by show 1 <= 1 + cJ a 6; omega,by show 1 + cJ a 6 <= 6; omega,by show 1 <= 1 + cJ b 50; omega,by show 1 + cJ b 50 <= 1 + cJ b 50 + cJ c 200; omega,by show 1 + cJ b 50 + cJ c 200 <= 1000; omega⟩
theorem c_policy (a b c:Int) (h:Vw) (a0 : -9223372036854775808 <= a) (a1:a <= 9223372036854775807) (b0 : -9223372036854775808 <= b) (b1:b <= 9223372036854775807) (c0 : -9223372036854775808 <= c) (c1:c <= 9223372036854775807) :
  C0 Tryz.prog 12 #[Vi a,Vi b,Vi c] h (λr _=>r=(polE a b c).val):=by
 have h1:=fY a 6 (by decide);have h2:=fY b 50 (by decide);have h3:=fY c 200 (by decide);have e1:=λH=>bK a 6 H a0 a1 (by decide) (by decide);have e2:=λH=>bK b 50 H b0 b1 (by decide) (by decide);have e3:=λH=>bK c 200 H c0 c1 (by decide) (by decide);have hr:(polE a b c).val=.agg #[Vi (1 + cJ a 6),Vi (1 + cJ b 50),Vi (1 + cJ b 50 + cJ c 200)]:=rfl;generalize cJ a 6=x at *;generalize cJ b 50=y at *;generalize cJ c 200=z at *;refine zQ Tryz.func12 λhbx hbad Q hQ=>?_;refine go1 28 [.own,.cl 37 #[Vi b,Vi 50] (Vi y),.cl 37 #[Vi a,Vi 6] (Vi x),.cl 37 #[Vi c,Vi 200] (Vi z),.b 0 0] [(10,Vi (IntKind.i64.wrap (1 + y)),Vi (1 + y)),(13,Vi (IntKind.i64.wrap (1 + x)),Vi (1 + x)),(18,Vi (IntKind.i64.wrap (1 + y + z)),Vi (1 + y + z))] ?_ (ho:=(Aj (λH sH=>e2 _) (Aj (λH sH=>e1 _) (Aj (λH sH=>e3 _) (trivial))))) (hc:=(Aj (jJ (by omega) (by omega)) (Aj (jJ (by omega) (by omega)) (Aj (jJ (by omega) (by omega)) (trivial)))));intro b1;refine hQ.to [.agg #[Vi (1 + x),Vi (1 + y),Vi (1 + y + z)]] (λH sH=>?_) (ix:=[0]);exact hr.symm
def begE (l:List RawD) (p:Pol):Eg:=hZ (zW (pQ l) p) (rhoL (xW (pQ l).fields))
def begL (l:List RawD) (p:Pol):List Lt:=(gZ (zW (pQ l) p) (rhoL (xW (pQ l).fields))).out
theorem form_one (l:List RawD):1 <= (pQ l).fields.length:=by have:=form_len l; have:=sW l; omega
theorem begE_ok (l:List RawD) {p:Pol} (hp:p.ok):EgOk (begE l p) (rhoL (xW (pQ l).fields)) (lvF l):=settE_ok (newE_ok (form_okFm l) (form_one l) hp) (by have:=(newE_last (form_okFm l) (form_one l) hp).2; omega)
theorem begE_settled (l:List RawD) {p:Pol} (hp:p.ok):Settled (begE l p) (rhoL (xW (pQ l).fields)):=iZ (newE_ok (form_okFm l) (form_one l) hp)
def Sst.pre (s:Sst) (lt:List Lt):Sst:={ s with out:=lt++s.out }
def wakeL (p:Pol) (now:Int) (cs:List Cl):List Cl:=cs.map λc=>(iA p now c).1
def askT (p:Pol) (now:Int):List Fd -> List Cl -> List Lt
 | f :: fs,c :: cs=>(if (iA p now c).2=true then [ltOf f.name (iA p now c).1] else [])++askT p now fs cs
 | _,_=>[]
theorem askT_len {p:Pol} {now:Int}:∀ {fs:List Fd} {cs:List Cl},(askT p now fs cs).length <= fs.length
 | [],_=>Oj _
 | _ :: _,[]=>Oj _
 | g :: fs,d :: cs=>by
  show (_++askT p now fs cs).length <= fs.length + 1
  have:=askT_len (p:=p) (now:=now) (fs:=fs) (cs:=cs)
  rw [Bk]
  split <;> simp <;> omega
def tickE (E:Eg) (n:Int):Eg:={ E with now:=E.now + n,calls:=wakeL E.pol (E.now + n) E.calls }
def tickT (E:Eg) (n:Int):List Lt:=askT E.pol (E.now + n) E.fm.fields E.calls
theorem wakeL_at {p:Pol} {now:Int} {cs:List Cl} {i:Nat} {c:Cl} (h:(wakeL p now cs)[i]?=some c):∃ d,cs[i]?=some d /\ c=(iA p now d).1:=by
 unfold wakeL at h;rw [Mj] at h;obtain ⟨d,hd,rfl⟩:=Yv.1 h;exact ⟨d,hd,rfl⟩
theorem tickE_ok {E:Eg} {ρ:List Int} {lv:Nat -> Nat} (hok:EgOk E ρ lv) {n:Int} (h0:0 <= n) (h1:E.now + n <= 1073741824):EgOk (tickE E n) ρ lv:=by
 have n0:=hok.n0;refine ⟨hok.fm,hok.one,hok.pol,hok.ki,hok.k0,hok.once,hok.li,⟨by show (wakeL _ _ E.calls).length=_; unfold wakeL; rw [Hj]; exact hok.calls.len,λi f c hf hc=>?_⟩,hok.vlen,by show 0 <= E.now + n; omega,h1,hok.l0,hok.l1⟩;obtain ⟨d,hd,rfl⟩:=wakeL_at hc;obtain ⟨d1,d2,d3⟩:=hok.calls.at_ i f d hf hd;obtain ⟨w1,w2,w3,w4,w5⟩:=wake_ok hok.pol d1 (now:=E.now + n) (by omega) h1;refine ⟨w1,λq=>?_,λq=>?_⟩
 ·obtain ⟨k1,k2⟩:=d2 (w3 q);exact ⟨k1,by show (iA E.pol (E.now + n) d).1.id <= E.last; rw [w2]; exact k2⟩
 ·have e:=w4 q;rw [e] at q ⊢;exact d3 q
def heardC (x:Lt) (c:Cl):Cl:=⟨2,c.id,c.tr,c.key,x.ans,0⟩
def xV (E:Eg) (i:Nat) (x:Lt) (c:Cl):Eg:={ E with calls:=E.calls.set i (heardC x c) }
def Takes (f:Fd) (x:Lt) (c:Cl):Prop:=c.st=1 /\ c.id=x.id /\ eqB c.key x.key=true /\ x.ans.k <= 3 /\ x.ans.k=f.ty
theorem hearE_ok {E:Eg} {ρ:List Int} {lv:Nat -> Nat} (hok:EgOk E ρ lv) {i:Nat} {f:Fd} {x:Lt} {c:Cl} (hf:E.fm.fields[i]?=some f) (hc:E.calls[i]?=some c) (hx:OkV x.ans) (ht:Takes f x c):EgOk (xV E i x c) ρ lv:=by
 obtain ⟨t1,t2,t3,t4,t5⟩:=ht;obtain ⟨d1,d2,d3⟩:=hok.calls.at_ i f c hf hc;have h1:=(hear_ok (id:=x.id) (key:=x.key) d1 hx).1;rw [hear_yes t1 t2 t3 t4] at h1;refine ⟨hok.fm,hok.one,hok.pol,hok.ki,hok.k0,hok.once,hok.li,⟨by show (E.calls.set i _).length=_; rw [Bv]; exact hok.calls.len,λj g d hg hd=>?_⟩,hok.vlen,hok.n0,hok.n1,hok.l0,hok.l1⟩;rcases set_at hd with ⟨rfl,rfl⟩ | ⟨-,hd⟩
 ·have hg:E.fm.fields[j]?=some g:=hg;rw [hf] at hg;obtain rfl:=Zj hg;exact ⟨h1,λ_=>⟨(d2 (by omega)).1,(d2 (by omega)).2⟩,λ_=>t5⟩
 ·exact hok.calls.at_ j g d hg hd
def HeaR (E:Eg) (lt:List Lt) (t:Bool) (r:Value) (h:Vw):Prop:=∃ u,r=.tuple #[.agg (eA u E),sL (agJ 5 u),.bool t,Vi 0] /\ TelF h u E lt
theorem hear_no_any (E:Eg) (ρ:List Int) (lv:Nat -> Nat) (hok:EgOk E ρ lv) (hse:Settled E ρ) (i:Nat) (f:Fd) (x:Lt) (c:Cl) (hf:E.fm.fields[i]?=some f) (hc:E.calls[i]?=some c) (hn:x.nm=f.name) (hx:OkV x.ans) (ht:¬ Takes f x c) (w:Value) (h:Vw) (hE:IsEng h w E) :
  C0 Tryz.prog 45 #[.agg (eA w E),.agg #[Vt x.nm,Vi x.id,Vi x.key.k,Vi x.key.n,.string x.key.s,Vi x.ans.k,Vi x.ans.n,.string x.ans.s]] h (λr h'=>HeaR E [] false r h'):=by
 have few:=hok.fm.fields.few;have hck:=λH q=>egCheck_any E ρ lv hok hse w H q;have hcp:=λH q=>engCopy_form E ρ lv hok w _ _ rfl rfl H q;have hfi:=λH q=>find_yes E.fm.fields (sL (agJ 0 w)) x.nm i H q (by omega) (by rw [hn]; exact mQ hok.fm.fields.nodup hf);have hhe:=λH=>c_hear E.pol hok.pol c (hok.calls.at_ i f c hf hc).1 x.id x.key x.ans hx H;have hcase:(hearC x.id x.key x.ans c).2=true -> x.ans.k≠f.ty:=λq e=>ht (by
  by_cases k:c.st=1 /\ c.id=x.id /\ eqB c.key x.key=true /\ x.ans.k <= 3
  ·exact ⟨k.1,k.2.1,k.2.2.1,k.2.2.2,e⟩
  ·rw [hear_no k] at q; cases q)
 generalize hearC x.id x.key x.ans c=rr at *;have hrc:=clRows_get hc;have hil:=(Nj.1 hf).1;have hcl:=hok.calls.len;generalize hn:E.fm.fields.length=n at *;generalize hm:E.fm.pages.length=m at *;generalize hlen:E.inp.length=len at *;refine zQ Tryz.func45 λhbx hbad Q hQ=>?_;refine go3 55 [.own,.own,.own,.b 2 0,.cl 47 #[.agg (eA w E)] (Vi 0),.b 2 0,.b 1 0,.cl 96 #[sL (agJ 0 w),.string x.nm] (.tuple #[Vi (i:Int),Vi 0]),.b 2 0] [] ?_ (ho:=(Aj (λH sH=>hck _ (hE.sees sH)) (Aj (λH sH=>hfi _ ((hE.sees sH)).form.fields) (trivial))));intro b1 b2 b3;refine xQ (Bi:=[]) [] (λH sH=>hcp _ (hE.sees sH)) ?_; rintro _ _ W4 S5 ⟨A',c',B',d',A1,c1,A2,c2,A3,c3,rfl,rfl,hfu⟩;refine go1 6 [.own] [] ?_;intro bm;refine eV 1 (v:=.slice A1 len c1) (e:=122) (kk:=7) (l:=bQ E.inp) ?_; intro W6 S7 fri;refine g_get (λa w hJ=>uX (hJ.rowOwn (v:=.slice A2 n c2) (e:=130) (kk:=10) (l:=jK E.calls) 1 (by kernel_rfl)) ((by rw [Hj]; omega))) ?_; rintro ⟨bcs,rfl⟩;obtain ⟨vs,A4,c4,e4,-,-,hr4,hs4,hl4,-⟩:=iQ hfu.fields;rw [hn] at e4 hr4 hl4;simp only [Jk] at e4;obtain ⟨rfl,-,rfl⟩:=e4;obtain ⟨u,hu⟩:∃ u,vs[i]?=some u:=⟨_,Fj (by omega)⟩;have hrow:=eQ hf hu;obtain ⟨Au,nu,cu,rfl⟩:=(AllSrc.get hs4 hf hu).slice;rcases Bw rr.2 with e | e
 ·have hne:=hcase e;refine oV 28 1 [.pu,.pu,.pu,.pu,.ld 1 6,.pu,.v (λgh=>.pointer (some ⟨bcs,0 + i * 10,none⟩)),.v (λgh=>.agg #[Vi c.st,Vi c.id,Vi c.tr,Vi c.key.k,Vi c.key.n,.string c.key.s,Vi c.has.k,Vi c.has.n,.string c.has.s,Vi c.nx]),.pu,.pu,.pu,.pu,.ld 1 2,.pu,.ld 5 1,.pu,.ld 5 2,.pu,.ld 5 5,.v (λgh=>.tuple #[.agg #[Vi rr.1.st,Vi rr.1.id,Vi rr.1.tr,Vi rr.1.key.k,Vi rr.1.key.n,.string rr.1.key.s,Vi rr.1.has.k,Vi rr.1.has.n,.string rr.1.has.s,Vi rr.1.nx],.bool rr.2,Vi 0]),.pu,.pu,.pu,.pu,.al 0,.st 0 0,.pu,.pu] [(24,true)] (trivial) ?_ ?_
  ·intro R hT hA hmono;refine Aj (vZ hT hA bcs 0 n c2 i (λgh=>.pointer (some ⟨bcs,0 + i * 10,none⟩)) (by first | omega | (simp; omega))) ?_;refine Aj (nY hT hA 48 (λgh=>.agg #[Vi c.st,Vi c.id,Vi c.tr,Vi c.key.k,Vi c.key.n,.string c.key.s,Vi c.has.k,Vi c.has.n,.string c.has.s,Vi c.nx]) [6] 7 2 (GN R 2) bcs n c2 10 130 (jK E.calls) i 0 (r:=[Vi c.st,Vi c.id,Vi c.tr,Vi c.key.k,Vi c.key.n,.string c.key.s,Vi c.has.k,Vi c.has.n,.string c.has.s,Vi c.nx]) (hrc) 130 (.tmp 47)) ?_;refine Aj (t_v hT hA hmono (k:=97) (args:=(λgh=>#[.agg #[Vi c.st,Vi c.id,Vi c.tr,Vi c.key.k,Vi c.key.n,.string c.key.s,Vi c.has.k,Vi c.has.n,.string c.has.s,Vi c.nx],.agg #[Vi E.pol.t,Vi E.pol.b,Vi E.pol.c],Vi x.id,.agg #[Vi x.key.k,Vi x.key.n,.string x.key.s],.agg #[Vi x.ans.k,Vi x.ans.n,.string x.ans.s]])) (f:=λgh=>.tuple #[.agg #[Vi rr.1.st,Vi rr.1.id,Vi rr.1.tr,Vi rr.1.key.k,Vi rr.1.key.n,.string rr.1.key.s,Vi rr.1.has.k,Vi rr.1.has.n,.string rr.1.has.s,Vi rr.1.nx],.bool rr.2,Vi 0]) (λgh H sH fH lent=>hhe _)) ?_
   trivial
  rintro b8 W9 S10 -;refine go0 3 [] [] ?_;obtain ⟨b11,o12,rfl,-,c13⟩:=RS.row hr4 (hrow);refine aV (c13.sees (S7.trans S10)) ?_;refine oV 18 0 [.pu,.v (λgh=>.bool false),.pu,.pu,.pu,.ld 5 5,.pu,.pu,.pu,.pu,.pu,.ld 1 0,.pu,.v (λgh=>.pointer (some ⟨b11,o12 + i * 9,none⟩)),.pu,.lf 0 2,.v (λgh=>.bool true),.pu] [] (trivial) ?_ ?_
  ·intro R hT hA hmono;refine Aj (uZ hT hA (λgh=>.bool false) (λgh=>.bool (!rr.2)) (λgh=>Dj Value.bool (by rw [e]; rfl))) ?_;refine Aj (vZ hT hA b11 o12 n c' i (λgh=>.pointer (some ⟨b11,o12 + i * 9,none⟩)) (by first | omega | (simp; omega))) ?_;refine Aj (uZ hT hA (λgh=>.bool true) (λgh=>.bool (x.ans.k != f.ty)) (λgh=>Dj Value.bool (Fk.2 hne))) ?_
   trivial
  rintro W14 S15 -;refine go0 16 [.b 1 0,.b 4 0] [] ?_;refine eV 2 (v:=Vs bcs n c2) (e:=130) (kk:=10) (l:=jK E.calls) ?_; intro W16 S17 fc;refine eV 2 (v:=.slice A3 n c3) (e:=44) (kk:=3) (l:=gA E.vals) ?_; intro W18 S19 fv;refine hQ.to [.agg #[.slice (some ⟨b11,o12,none⟩) n c',.slice B' m d',Vi E.pol.t,Vi E.pol.b,Vi E.pol.c,.slice A1 len c1,Vs bcs n c2,.slice A3 n c3,Vi E.now,Vi E.last],Vz,.bool false,Vi 0] (λH sH=>?_) (ix:=[2]);exact (⟨.agg #[.slice _ n c',.slice B' m d',.slice A1 len c1,Vs bcs n c2,.slice A3 n c3,Vz],rfl,⟨⟨(hfu.sees (S7.trans (S10.trans (S15.trans (S17.trans (S19.trans sH)))))),(fri.sees (S10.trans (S15.trans (S17.trans (S19.trans sH))))),(fc.sees (S19.trans sH)),(fv.sees sH)⟩,RS.nil _ 8⟩⟩:HeaR E [] false _ _)
 ·skip;refine oV 28 1 [.pu,.pu,.pu,.pu,.ld 1 6,.pu,.v (λgh=>.pointer (some ⟨bcs,0 + i * 10,none⟩)),.v (λgh=>.agg #[Vi c.st,Vi c.id,Vi c.tr,Vi c.key.k,Vi c.key.n,.string c.key.s,Vi c.has.k,Vi c.has.n,.string c.has.s,Vi c.nx]),.pu,.pu,.pu,.pu,.ld 1 2,.pu,.ld 5 1,.pu,.ld 5 2,.pu,.ld 5 5,.v (λgh=>.tuple #[.agg #[Vi rr.1.st,Vi rr.1.id,Vi rr.1.tr,Vi rr.1.key.k,Vi rr.1.key.n,.string rr.1.key.s,Vi rr.1.has.k,Vi rr.1.has.n,.string rr.1.has.s,Vi rr.1.nx],.bool rr.2,Vi 0]),.pu,.pu,.pu,.pu,.al 0,.st 0 0,.pu,.pu] [(24,true)] (trivial) ?_ ?_
  ·intro R hT hA hmono;refine Aj (vZ hT hA bcs 0 n c2 i (λgh=>.pointer (some ⟨bcs,0 + i * 10,none⟩)) (by first | omega | (simp; omega))) ?_;refine Aj (nY hT hA 48 (λgh=>.agg #[Vi c.st,Vi c.id,Vi c.tr,Vi c.key.k,Vi c.key.n,.string c.key.s,Vi c.has.k,Vi c.has.n,.string c.has.s,Vi c.nx]) [6] 7 2 (GN R 2) bcs n c2 10 130 (jK E.calls) i 0 (r:=[Vi c.st,Vi c.id,Vi c.tr,Vi c.key.k,Vi c.key.n,.string c.key.s,Vi c.has.k,Vi c.has.n,.string c.has.s,Vi c.nx]) (hrc) 130 (.tmp 47)) ?_;refine Aj (t_v hT hA hmono (k:=97) (args:=(λgh=>#[.agg #[Vi c.st,Vi c.id,Vi c.tr,Vi c.key.k,Vi c.key.n,.string c.key.s,Vi c.has.k,Vi c.has.n,.string c.has.s,Vi c.nx],.agg #[Vi E.pol.t,Vi E.pol.b,Vi E.pol.c],Vi x.id,.agg #[Vi x.key.k,Vi x.key.n,.string x.key.s],.agg #[Vi x.ans.k,Vi x.ans.n,.string x.ans.s]])) (f:=λgh=>.tuple #[.agg #[Vi rr.1.st,Vi rr.1.id,Vi rr.1.tr,Vi rr.1.key.k,Vi rr.1.key.n,.string rr.1.key.s,Vi rr.1.has.k,Vi rr.1.has.n,.string rr.1.has.s,Vi rr.1.nx],.bool rr.2,Vi 0]) (λgh H sH fH lent=>hhe _)) ?_
   trivial
  rintro b20 W21 S22 -;refine go0 3 [] [] ?_;refine oV 18 0 [.pu,.v (λgh=>.bool true),.pu,.ps,.ps,.ps,.ps,.ps,.ps,.ps,.ps,.ps,.ps,.ps,.ps,.ps,.ps,.pu] [] (trivial) ?_ ?_
  ·intro R hT hA hmono;refine Aj (uZ hT hA (λgh=>.bool true) (λgh=>.bool (!rr.2)) (λgh=>Dj Value.bool (by rw [e]; rfl))) ?_
   trivial
  rintro W23 S24 -;refine go0 16 [.b 1 0,.b 4 0] [] ?_;refine eV 2 (v:=Vs bcs n c2) (e:=130) (kk:=10) (l:=jK E.calls) ?_; intro W25 S26 fc;refine eV 2 (v:=.slice A3 n c3) (e:=44) (kk:=3) (l:=gA E.vals) ?_; intro W27 S28 fv;refine hQ.to [.agg #[.slice A' n c',.slice B' m d',Vi E.pol.t,Vi E.pol.b,Vi E.pol.c,.slice A1 len c1,Vs bcs n c2,.slice A3 n c3,Vi E.now,Vi E.last],Vz,.bool false,Vi 0] (λH sH=>?_) (ix:=[2]);exact (⟨.agg #[.slice _ n c',.slice B' m d',.slice A1 len c1,Vs bcs n c2,.slice A3 n c3,Vz],rfl,⟨⟨(hfu.sees (S7.trans (S22.trans (S24.trans (S26.trans (S28.trans sH)))))),(fri.sees (S22.trans (S24.trans (S26.trans (S28.trans sH))))),(fc.sees (S28.trans sH)),(fv.sees sH)⟩,RS.nil _ 8⟩⟩:HeaR E [] false _ _)
theorem hear_any (E:Eg) (ρ:List Int) (lv:Nat -> Nat) (hok:EgOk E ρ lv) (hse:Settled E ρ) (i:Nat) (f:Fd) (x:Lt) (c:Cl) (hf:E.fm.fields[i]?=some f) (hc:E.calls[i]?=some c) (hn:x.nm=f.name) (hx:OkV x.ans) (ht:Takes f x c) (hl:(gZ (xV E i x c) ρ).last <= 1073741810) (w:Value) (h:Vw) (hE:IsEng h w E) :
  C0 Tryz.prog 45 #[.agg (eA w E),.agg #[Vt x.nm,Vi x.id,Vi x.key.k,Vi x.key.n,.string x.key.s,Vi x.ans.k,Vi x.ans.n,.string x.ans.s]] h (λr h'=>HeaR (hZ (xV E i x c) ρ) (gZ (xV E i x c) ρ).out true r h'):=by
 have few:=hok.fm.fields.few;have hck:=λH q=>egCheck_any E ρ lv hok hse w H q;have hcp:=λH q=>engCopy_form E ρ lv hok w _ _ rfl rfl H q;have hfi:=λH q=>find_yes E.fm.fields (sL (agJ 0 w)) x.nm i H q (by omega) (by rw [hn]; exact mQ hok.fm.fields.nodup hf);have hhe:=λH=>c_hear E.pol hok.pol c (hok.calls.at_ i f c hf hc).1 x.id x.key x.ans hx H;have hok':=hearE_ok hok hf hc hx ht;have hdn:=λb n hn A A2 A3 c1 c2 c3 gv iv lw0 H q1 q2=>settle_eg (xV E i x c) ρ lv hok' b n hn A A2 A3 c1 c2 c3 gv iv lw0 H q1 q2 hl;obtain ⟨t1,t2,t3,t4,t5⟩:=ht;rw [hear_yes t1 t2 t3 t4] at hhe;have hhe:∀ H,C0 Tryz.prog 97 #[.agg #[Vi c.st,Vi c.id,Vi c.tr,Vi c.key.k,Vi c.key.n,.string c.key.s,Vi c.has.k,Vi c.has.n,.string c.has.s,Vi c.nx],.agg #[Vi E.pol.t,Vi E.pol.b,Vi E.pol.c],Vi x.id,.agg #[Vi x.key.k,Vi x.key.n,.string x.key.s],.agg #[Vi x.ans.k,Vi x.ans.n,.string x.ans.s]] H (λr _=>r=wakeR (heardC x c,true)):=hhe;have hrc:=clRows_get hc;have hil:=(Nj.1 hf).1;have hcl:=hok.calls.len;have hcs:=clRows_set E.calls i (heardC x c);have ht1:(xV E i x c).fm=E.fm:=rfl;have ht2:(xV E i x c).inp=E.inp:=rfl;have ht3:(xV E i x c).pol=E.pol:=rfl;have ht4:(xV E i x c).now=E.now:=rfl;have ht5:(xV E i x c).last=E.last:=rfl;have ht6:(xV E i x c).vals=E.vals:=rfl;have ht7:(xV E i x c).calls=E.calls.set i (heardC x c):=rfl;generalize heardC x c=y at *;obtain ⟨S,hS⟩:∃ S,gZ (xV E i x c) ρ=S:=⟨_,rfl⟩;have hres:hZ (xV E i x c) ρ={ E with calls:=S.calls,vals:=S.vals,last:=S.last }:=by rw [<- hS]; rfl
 rw [hres];rw [hS] at hdn ⊢;rw [ht1,ht2,ht3,ht4,ht5,ht6,ht7] at hdn;generalize hn:E.fm.fields.length=n at *;generalize hm:E.fm.pages.length=m at *;generalize hlen:E.inp.length=len at *;refine zQ Tryz.func45 λhbx hbad Q hQ=>?_;refine go3 55 [.own,.own,.own,.b 2 0,.cl 47 #[.agg (eA w E)] (Vi 0),.b 2 0,.b 1 0,.cl 96 #[sL (agJ 0 w),.string x.nm] (.tuple #[Vi (i:Int),Vi 0]),.b 2 0] [] ?_ (ho:=(Aj (λH sH=>hck _ (hE.sees sH)) (Aj (λH sH=>hfi _ ((hE.sees sH)).form.fields) (trivial))));intro b1 b2 b3;refine xQ (Bi:=[]) [] (λH sH=>hcp _ (hE.sees sH)) ?_; rintro _ _ W4 S5 ⟨A',c',B',d',A1,c1,A2,c2,A3,c3,rfl,rfl,hfu⟩;refine go1 6 [.own] [] ?_;intro bm;refine eV 1 (v:=.slice A1 len c1) (e:=122) (kk:=7) (l:=bQ E.inp) ?_; intro W6 S7 fri;refine g_get (λa w hJ=>uX (hJ.rowOwn (v:=.slice A2 n c2) (e:=130) (kk:=10) (l:=jK E.calls) 1 (by kernel_rfl)) ((by rw [Hj]; omega))) ?_; rintro ⟨bcs,rfl⟩;obtain ⟨vs,A4,c4,e4,-,-,hr4,hs4,hl4,-⟩:=iQ hfu.fields;rw [hn] at e4 hr4 hl4;simp only [Jk] at e4;obtain ⟨rfl,-,rfl⟩:=e4;obtain ⟨u,hu⟩:∃ u,vs[i]?=some u:=⟨_,Fj (by omega)⟩;have hrow:=eQ hf hu;obtain ⟨Au,nu,cu,rfl⟩:=(AllSrc.get hs4 hf hu).slice;refine oV 28 1 [.pu,.pu,.pu,.pu,.ld 1 6,.pu,.v (λgh=>.pointer (some ⟨bcs,0 + i * 10,none⟩)),.v (λgh=>.agg #[Vi c.st,Vi c.id,Vi c.tr,Vi c.key.k,Vi c.key.n,.string c.key.s,Vi c.has.k,Vi c.has.n,.string c.has.s,Vi c.nx]),.pu,.pu,.pu,.pu,.ld 1 2,.pu,.ld 5 1,.pu,.ld 5 2,.pu,.ld 5 5,.v (λgh=>.tuple #[.agg #[Vi y.st,Vi y.id,Vi y.tr,Vi y.key.k,Vi y.key.n,.string y.key.s,Vi y.has.k,Vi y.has.n,.string y.has.s,Vi y.nx],.bool true,Vi 0]),.pu,.pu,.pu,.pu,.al 0,.st 0 0,.pu,.pu] [(24,true)] (trivial) ?_ ?_
 ·intro R hT hA hmono;refine Aj (vZ hT hA bcs 0 n c2 i (λgh=>.pointer (some ⟨bcs,0 + i * 10,none⟩)) (by first | omega | (simp; omega))) ?_;refine Aj (nY hT hA 48 (λgh=>.agg #[Vi c.st,Vi c.id,Vi c.tr,Vi c.key.k,Vi c.key.n,.string c.key.s,Vi c.has.k,Vi c.has.n,.string c.has.s,Vi c.nx]) [6] 7 2 (GN R 2) bcs n c2 10 130 (jK E.calls) i 0 (r:=[Vi c.st,Vi c.id,Vi c.tr,Vi c.key.k,Vi c.key.n,.string c.key.s,Vi c.has.k,Vi c.has.n,.string c.has.s,Vi c.nx]) (hrc) 130 (.tmp 47)) ?_;refine Aj (t_v hT hA hmono (k:=97) (args:=(λgh=>#[.agg #[Vi c.st,Vi c.id,Vi c.tr,Vi c.key.k,Vi c.key.n,.string c.key.s,Vi c.has.k,Vi c.has.n,.string c.has.s,Vi c.nx],.agg #[Vi E.pol.t,Vi E.pol.b,Vi E.pol.c],Vi x.id,.agg #[Vi x.key.k,Vi x.key.n,.string x.key.s],.agg #[Vi x.ans.k,Vi x.ans.n,.string x.ans.s]])) (f:=λgh=>.tuple #[.agg #[Vi y.st,Vi y.id,Vi y.tr,Vi y.key.k,Vi y.key.n,.string y.key.s,Vi y.has.k,Vi y.has.n,.string y.has.s,Vi y.nx],.bool true,Vi 0]) (λgh H sH fH lent=>hhe _)) ?_
  trivial
 rintro b8 W9 S10 -;refine go0 3 [] [] ?_;obtain ⟨b11,o12,rfl,-,c13⟩:=RS.row hr4 (hrow);refine aV (c13.sees (S7.trans S10)) ?_;refine oV 18 0 [.pu,.pu,.pu,.pu,.pu,.ld 5 5,.pu,.pu,.pu,.pu,.pu,.ld 1 0,.pu,.v (λgh=>.pointer (some ⟨b11,o12 + i * 9,none⟩)),.pu,.lf 0 2,.v (λgh=>.bool false),.pu] [] (trivial) ?_ ?_
 ·intro R hT hA hmono;refine Aj (vZ hT hA b11 o12 n c' i (λgh=>.pointer (some ⟨b11,o12 + i * 9,none⟩)) (by first | omega | (simp; omega))) ?_;refine Aj (uZ hT hA (λgh=>.bool false) (λgh=>.bool (x.ans.k != f.ty)) (λgh=>Dj Value.bool (Nk.2 t5))) ?_
  trivial
 rintro W14 S15 -;refine go0 5 [] [] ?_;refine oV 9 0 [.pu,.pu,.pu,.pu,.ld 1 6,.pu,.ld 0 0,.v (λgh=>.pointer (some ⟨bcs,0 + i * 10,none⟩)),.s 2 (λgh=>.row (Vs bcs n c2) 130 10 ((jK E.calls).set i [Vi y.st,Vi y.id,Vi y.tr,Vi y.key.k,Vi y.key.n,.string y.key.s,Vi y.has.k,Vi y.has.n,.string y.has.s,Vi y.nx]))] [] (trivial) ?_ ?_
 ·intro R hT hA hmono;refine Aj (vZ hT hA bcs 0 n c2 i (λgh=>.pointer (some ⟨bcs,0 + i * 10,none⟩)) (by first | omega | (simp; omega))) ?_;refine Aj (r_rowset' hT hA [0,1,2,3,4,5,6,7] 2 (GN R 2) i 0 (g:=bcs) (m:=n) (cap:=c2) (kk:=10) (te:=130) (l:=jK E.calls) (r:=[Vi c.st,Vi c.id,Vi c.tr,Vi c.key.k,Vi c.key.n,.string c.key.s,Vi c.has.k,Vi c.has.n,.string c.has.s,Vi c.nx]) (λgh=>.agg #[Vi y.st,Vi y.id,Vi y.tr,Vi y.key.k,Vi y.key.n,.string y.key.s,Vi y.has.k,Vi y.has.n,.string y.has.s,Vi y.nx]) 130 (.tmp 93) (.tmp 92) (hrc)) ?_
  trivial
 rintro W16 S17 -;refine go0 4 [] [] ?_;refine fV [(4,Vp b3),(95,Vp bm)] [.box b8 [Vi y.st,Vi y.id,Vi y.tr,Vi y.key.k,Vi y.key.n,.string y.key.s,Vi y.has.k,Vi y.has.n,.string y.has.s,Vi y.nx],.box bm [.slice (some ⟨b11,o12,none⟩) n c',.slice B' m d',Vi E.pol.t,Vi E.pol.b,Vi E.pol.c,.slice A1 len c1,Vs bcs n c2,.slice A3 n c3,Vi E.now,Vi E.last,Vz],.row (Vs bcs n c2) 130 10 ((jK E.calls).set i [Vi y.st,Vi y.id,Vi y.tr,Vi y.key.k,Vi y.key.n,.string y.key.s,Vi y.has.k,Vi y.has.n,.string y.has.s,Vi y.nx]),.row (.slice A3 n c3) 44 3 (gA E.vals),.box b3 [Vz,Vz,Vi 0,Vi 0,Vi 0,Vz,Vz,Vz,Vi 0,Vi 0],.box b2 [Vt x.nm,Vi x.id,Vi x.key.k,Vi x.key.n,.string x.key.s,Vi x.ans.k,Vi x.ans.n,.string x.ans.s],.box b1 (eL w E)] [(b11,o12 + i * 9,[Vt f.name,Vi f.kind,Vi f.ty,Vi f.src.op,Vi f.src.k,Vi f.src.n,.string f.src.s,.string f.src.nm,.slice Au nu cu])] ?_;rw [hcs];refine lV 57 8 ?_;refine xQ (Bi:=[.row (Vz) 57 8 ([]),.box bm [.slice (some ⟨b11,o12,none⟩) n c',.slice B' m d',Vi E.pol.t,Vi E.pol.b,Vi E.pol.c,.slice A1 len c1,Vs bcs n c2,.slice A3 n c3,Vi E.now,Vi E.last,Vz],.row (Vs bcs n c2) 130 10 (jK (E.calls.set i y)),.row (.slice A3 n c3) 44 3 (gA E.vals)]) [0,2,3,4] (λH sH=>hdn bm n rfl _ (some ⟨bcs,0,none⟩) A3 c' c2 c3 (.slice B' m d') (.slice A1 len c1) (Vz) _ ((hfu.sees (S7.trans (S10.trans (S15.trans (S17.trans sH)))))).fields (fri.sees (S10.trans (S15.trans (S17.trans sH))))) ?_; rintro _ _ W18 S19 ⟨ul,rfl,rfl⟩;refine go1 24 [.own,.b 0 0,.b 0 0,.b 6 0] [] ?_;intro b20;refine eV 1 (v:=sL ul) (e:=57) (kk:=8) (l:=oW S.out) ?_; intro W21 S22 fl;refine eV 2 (v:=Vs bcs n c2) (e:=130) (kk:=10) (l:=jK S.calls) ?_; intro W23 S24 fc;refine eV 2 (v:=.slice A3 n c3) (e:=44) (kk:=3) (l:=gA S.vals) ?_; intro W25 S26 fv;refine hQ.to [.agg #[.slice (some ⟨b11,o12,none⟩) n c',.slice B' m d',Vi E.pol.t,Vi E.pol.b,Vi E.pol.c,.slice A1 len c1,Vs bcs n c2,.slice A3 n c3,Vi E.now,Vi S.last],sL ul,.bool true,Vi 0] (λH sH=>?_) (ix:=[3]);exact (⟨.agg #[.slice _ n c',.slice B' m d',.slice A1 len c1,Vs bcs n c2,.slice A3 n c3,ul],rfl,⟨⟨(hfu.sees (S7.trans (S10.trans (S15.trans (S17.trans (S19.trans (S22.trans (S24.trans (S26.trans sH))))))))),(fri.sees (S10.trans (S15.trans (S17.trans (S19.trans (S22.trans (S24.trans (S26.trans sH)))))))),(fc.sees (S26.trans sH)),(fv.sees sH)⟩,(fl.sees (S24.trans (S26.trans sH)))⟩⟩:HeaR { E with calls:=S.calls,vals:=S.vals,last:=S.last } S.out true _ _)
def cntX:Ex:=.mk 5 0 0 ⟨#[]⟩ ⟨#[]⟩ [refE ⟨#[97]⟩,.mk 1 1 2 ⟨#[]⟩ ⟨#[]⟩ []]
def cntB:Ex:=refE ⟨#[98]⟩
def cntF:Fm:=⟨[⟨⟨#[97]⟩,1,1,zE⟩,⟨⟨#[98]⟩,2,1,cntX⟩,⟨⟨#[99]⟩,3,3,cntB⟩],[⟨⟨#[112]⟩,[⟨#[97]⟩,⟨#[99]⟩],zE⟩]⟩
theorem cntX_wf:WfE cntX:=by
 refine WfE.mk' (.inr (.inr ⟨(by decide:(3:Int) <= 5),(by decide:(5:Int) <= 18),rfl,rfl,rfl,rfl,rfl⟩)) (WfL.all λy hy=>?_);have hy:y∈[refE ⟨#[97]⟩,Ex.mk 1 1 2 ⟨#[]⟩ ⟨#[]⟩ []]:=hy;rcases Tj.1 hy with rfl | hy
 ·exact (wf_leaf (refE_ok ⟨by decide,by decide,⟨_,rfl,by decide⟩,by decide,by decide⟩) rfl).1
 ·rw [Pj.1 hy];exact (wf_leaf (x:=.mk 1 1 2 ⟨#[]⟩ ⟨#[]⟩ []) (.inl ⟨rfl,.inl ⟨rfl,(by unfold Lim; decide:Lim 2),rfl⟩,λ_=>(by decide:(0:Int) <= 2),rfl,rfl⟩) rfl).1
theorem cntB_wf:WfE cntB:=(wf_leaf (refE_ok (s:=⟨#[98]⟩) ⟨by decide,by decide,⟨_,rfl,by decide⟩,by decide,by decide⟩) rfl).1
theorem cnt_ok:OkFs cntF.fields:=by
 refine ⟨λf hf=>?_,by decide,by decide⟩;have hf:f∈[(⟨⟨#[97]⟩,1,1,zE⟩:Fd),⟨⟨#[98]⟩,2,1,cntX⟩,⟨⟨#[99]⟩,3,3,cntB⟩]:=hf;rcases Tj.1 hf with rfl | hf
 ·exact ⟨⟨by decide,by decide,⟨_,rfl,by decide⟩,by decide,by decide⟩,by decide,by decide,by decide,by decide,λ_=>rfl,λh=>absurd rfl h,λh=>absurd h (show ¬ (1:Int)=2 by decide),λh=>absurd h (show ¬ (1:Int)=3 by decide)⟩
 ·rcases Tj.1 hf with rfl | hf
  ·exact ⟨⟨by decide,by decide,⟨_,rfl,by decide⟩,by decide,by decide⟩,by decide,by decide,by decide,by decide,λh=>absurd h (show ¬ (2:Int)=1 by decide),λ_=>⟨cntX_wf,by decide,by decide⟩,λ_=>by decide,λh=>absurd h (show ¬ (2:Int)=3 by decide)⟩
  ·rw [Pj.1 hf];exact ⟨⟨by decide,by decide,⟨_,rfl,by decide⟩,by decide,by decide⟩,by decide,by decide,by decide,by decide,λh=>absurd h (show ¬ (3:Int)=1 by decide),λ_=>⟨cntB_wf,by decide,by decide⟩,λh=>absurd h (show ¬ (3:Int)=2 by decide),λ_=>⟨1,by decide,by decide,by decide⟩⟩
theorem cnt_one {x:Ex} {s:ByteArray} (h:qY x=[s]):uW x=[s]:=by
 unfold uW namesB;rw [h];have e:dd ([s].map λs:ByteArray=>s.data.toList)=[s.data.toList]:=by simp [dd]
 rw [e,List.mergeSort_singleton];simp
theorem cnt_needs:xW cntF.fields=[[],[0],[1]]:=by
 have e1:uW cntX=[⟨#[97]⟩]:=cnt_one (by decide);have e2:uW cntB=[⟨#[98]⟩]:=cnt_one (by decide);show [needE cntF.fields ⟨⟨#[97]⟩,1,1,zE⟩,needE cntF.fields ⟨⟨#[98]⟩,2,1,cntX⟩,needE cntF.fields ⟨⟨#[99]⟩,3,3,cntB⟩]=_;unfold needE;rw [Cj rfl,Bj (by decide),Bj (by decide)];have p1:plc cntF.fields ⟨#[97]⟩=0:=by
  unfold plc;rw [show (⟨#[97]⟩:ByteArray)=(⟨⟨#[97]⟩,1,1,zE⟩:Fd).name from rfl,mQ cnt_ok.nodup (i:=0) rfl]; rfl
 have p2:plc cntF.fields ⟨#[98]⟩=1:=by
  unfold plc;rw [show (⟨#[98]⟩:ByteArray)=(⟨⟨#[98]⟩,2,1,cntX⟩:Fd).name from rfl,mQ cnt_ok.nodup (i:=1) rfl]; rfl
 simp only [e1,e2,Dk,Gv,p1,p2]
def cntL (i:Nat):Nat:=[0,1,2].getD i 0
theorem cnt_ranked:Ranked (xW cntF.fields) [0,1,2] cntL:=by
 rw [cnt_needs];exact ranked_ex (need:=[[],[0],[1]]) (lv:=cntL) (by decide) (by decide)
theorem cnt_okG:OkGs cntF.fields cntF.pages:=by
 have hm:∀ p∈cntF.pages,p=⟨⟨#[112]⟩,[⟨#[97]⟩,⟨#[99]⟩],zE⟩:=λp hp=>Pj.1 hp;have p1:lQ cntF.fields ⟨#[97]⟩=(0:Nat):=mQ cnt_ok.nodup (i:=0) (f:=⟨⟨#[97]⟩,1,1,zE⟩) rfl;have p2:lQ cntF.fields ⟨#[99]⟩=(2:Nat):=mQ cnt_ok.nodup (i:=2) (f:=⟨⟨#[99]⟩,3,3,cntB⟩) rfl;refine ⟨by decide,by decide,λp h=>?_,by decide,λp h=>?_,λp h s hs=>?_,by decide,λp h=>?_⟩
 ·rw [hm p h]; exact ⟨by decide,by decide,⟨_,rfl,by decide⟩,by decide,by decide⟩
 ·rw [hm p h]; decide
 ·rw [hm p h] at hs;have hs:s∈[(⟨#[97]⟩:ByteArray),⟨#[99]⟩]:=hs;rcases Tj.1 hs with rfl | hs
  ·rw [p1]; decide
  ·rw [Pj.1 hs,p2]; decide
 ·rw [hm p h]; exact .inl rfl
theorem cnt_fm:OkFm cntF [0,1,2] cntL:=⟨cnt_ok,cnt_okG,cnt_ranked⟩
theorem cnt_ord:rX [0,1,2] 3=[0,1,2]:=by
 obtain ⟨hp,hr⟩:=ordL_spec [0,1,2] 3 (by decide);generalize rX [0,1,2] 3=os at *;have hl:os.length=3:=hp.length_eq;obtain ⟨a,b,c,rfl⟩:∃ a b c,os=[a,b,c]:=by
  match os,hl with
  | [a,b,c],_=>exact ⟨a,b,c,rfl⟩
 have h1:=hr 0 1 a b (by decide) rfl rfl;have h2:=hr 1 2 b c (by decide) rfl rfl;have hn:=hp.nodup_iff.2 Zw;have ha:=Qk.1 (hp.mem_iff.1 (show a∈[a,b,c] by simp));have hb:=Qk.1 (hp.mem_iff.1 (show b∈[a,b,c] by simp));have hc:=Qk.1 (hp.mem_iff.1 (show c∈[a,b,c] by simp));simp only [Mq,Tj,Xv,or_false,not_or] at hn;rcases (by omega:a=0\/a=1\/a=2) with rfl | rfl | rfl <;> rcases (by omega:b=0\/b=1\/b=2) with rfl | rfl | rfl <;> rcases (by omega:c=0\/c=1\/c=2) with rfl | rfl | rfl <;> first | rfl | omega | (exfalso; revert h1 h2; decide)
def cntP:Pol:=⟨2,3,9⟩
theorem cntP_ok:cntP.ok:=⟨by decide,by decide,by decide,by decide,by decide⟩
def cntC:Cl:=⟨1,1,1,⟨1,0,⟨#[]⟩⟩,zV,3⟩
def cnt0:Lt:=⟨⟨#[99]⟩,1,⟨1,0,⟨#[]⟩⟩,zV⟩
def cnt1:Lt:=⟨⟨#[99]⟩,1,⟨1,0,⟨#[]⟩⟩,⟨3,0,⟨#[111,107]⟩⟩⟩
theorem cnt_set:gZ (zW cntF cntP) [0,1,2]=⟨[clZ,clZ,cntC],[⟨1,0,⟨#[]⟩⟩,⟨1,0,⟨#[]⟩⟩,pdV],[(⟨#[97]⟩,⟨1,0,⟨#[]⟩⟩),(⟨#[98]⟩,⟨1,0,⟨#[]⟩⟩),(⟨#[99]⟩,pdV)],1,[cnt0]⟩:=by
 unfold gZ;show bZ _ _ _ _ _ (rX [0,1,2] 3)=_;rw [cnt_ord]
 kernel_rfl
def cntEg:Eg:=⟨cntF,cntP,[],[clZ,clZ,cntC],[⟨1,0,⟨#[]⟩⟩,⟨1,0,⟨#[]⟩⟩,pdV],0,1⟩
theorem cnt_sett:hZ (zW cntF cntP) [0,1,2]=cntEg:=by unfold hZ; rw [cnt_set]; rfl
theorem cnt_hear:(gZ (xV cntEg 2 cnt1 cntC) [0,1,2]).vals=[⟨1,0,⟨#[]⟩⟩,⟨1,0,⟨#[]⟩⟩,⟨3,0,⟨#[111,107]⟩⟩] /\ (gZ (xV cntEg 2 cnt1 cntC) [0,1,2]).last=1:=by
 unfold gZ;show (bZ _ _ _ _ _ (rX [0,1,2] 3)).vals=_ /\ (bZ _ _ _ _ _ (rX [0,1,2] 3)).last=_;rw [cnt_ord];exact ⟨by kernel_rfl,by kernel_rfl⟩
theorem cntE_ok:EgOk cntEg [0,1,2] cntL:=by
 have:=settE_ok (newE_ok cnt_fm (by decide) cntP_ok) (by rw [cnt_set]; decide)
 rwa [cnt_sett] at this
theorem cntE_settled:Settled cntEg [0,1,2]:=by
 have:=iZ (newE_ok cnt_fm (by decide) cntP_ok)
 rwa [cnt_sett] at this
theorem cnt_takes:Takes ⟨⟨#[99]⟩,3,3,cntB⟩ cnt1 cntC:=⟨rfl,rfl,by kernel_rfl,by decide,rfl⟩
def NewR (E:Eg) (lt:List Lt) (v:Value) (Bo:List Ent) (H:Vw):Prop:=∃ u A c,v=.tuple #[.agg (eA u E),.slice A lt.length c,Vi 0] /\ Bo=[.row (.slice A lt.length c) 57 8 (oW lt)] /\ IsEng H u E
theorem new_con (f:Fm) (ρ:List Int) (lv:Nat -> Nat) (hok:OkFm f ρ lv) (h1:1 <= f.fields.length) (p:Pol) (hp:p.ok) (fv pv:Value) (h:Vw) (hf:IsForm h fv pv f) :
  ConE Tryz.prog 11 #[.agg #[fv,pv],.agg #[Vi p.t,Vi p.b,Vi p.c]] h [] (NewR (hZ (zW f p) ρ) (gZ (zW f p) ρ).out):=by
 have few:=hok.fields.few;have hgc:=c_gapChk p hp;have hnl:=(newE_last hok h1 hp).2;have hok':=newE_ok hok h1 hp;have hdn:=λb n hn A A2 A3 c c2 c3 gv iv lw0 H q1 q2=>settle_eg (zW f p) ρ lv hok' b n hn A A2 A3 c c2 c3 gv iv lw0 H q1 q2 (by omega);have hS:=λfv pv H q=>shCopy_any f ρ lv hok fv pv H q;obtain ⟨vs,A,c,rfl,-,-,-,-,-,-⟩:=iQ hf.fields;obtain ⟨us,ws,B,d,rfl,-,-,-,-,-,-⟩:=pgs_open hf.pages;have hsc:=λH q=>shCheck_any f ρ lv A f.fields.length c B f.pages.length d H hok q rfl;obtain ⟨S,hS'⟩:∃ S,gZ (zW f p) ρ=S:=⟨_,rfl⟩;have hres:hZ (zW f p) ρ={ zW f p with calls:=S.calls,vals:=S.vals,last:=S.last }:=by unfold hZ; rw [hS']
 rw [hS'] at hdn;have hcl:List.replicate f.fields.length [Vi 0,Vi 0,Vi 0,Vi 0,Vi 0,.string ⟨#[]⟩,Vi 0,Vi 0,.string ⟨#[]⟩,Vi 0]=jK (zW f p).calls:=rep_cl f.fields.length;have hvl:List.replicate f.fields.length [Vi 0,Vi 0,.string ⟨#[]⟩]=gA (zW f p).vals:=rep_vl f.fields.length;generalize hn:f.fields.length=n at *;generalize hm:f.pages.length=m at *;refine g_conE Tryz.func11 λhbad Q hQ=>?_;refine go3 52 [.own,.own,.own,.b 2 0,.cl 41 #[.agg #[.slice A n c,.slice B m d]] (Vi 0),.b 1 0,.cl 42 #[.agg #[Vi p.t,Vi p.b,Vi p.c]] (Vi 0),.b 2 0] [] ?_ (ho:=(Aj (λH sH=>hsc _ (hf.sees sH)) (Aj (λH sH=>hgc _) (trivial))));intro b1 b2 b3;refine oV 11 3 [.ld 5 0,.f (λgh=>.agg #[sL (agJ 0 (gh 1)),sL (agJ 1 (gh 1))]) (λgh hh=>FormU hh (gh 1) f),.ld 4 0,.pu,.e (λgh=>.slice (some ⟨(xJ (gh 4)),0,none⟩) n n) 0 (λgh=>.row (.slice (some ⟨(xJ (gh 4)),0,none⟩) n n) 130 10 (List.replicate n [Vi 0,Vi 0,Vi 0,Vi 0,Vi 0,Ve,Vi 0,Vi 0,Ve,Vi 0])),.pu,.e (λgh=>.slice (some ⟨(xJ (gh 6)),0,none⟩) n n) 1 (λgh=>.row (.slice (some ⟨(xJ (gh 6)),0,none⟩) n n) 44 3 (List.replicate n [Vi 0,Vi 0,Ve])),.pu,.pu,.al 2,.pu] [(1,false),(4,true),(6,true),(9,true)] (Aj (λ_ _ _ s c=>c.sees s) (trivial)) ?_ ?_
 ·intro R hT hA hmono;refine Aj (lY hT hA hmono 27 (λu=>.agg #[sL (agJ 0 u),sL (agJ 1 u)]) [0] 1 43 (λgh=>#[.agg #[.slice A n c,.slice B m d]]) (λgh H sH fH lent=>C0.facts (R:=R) (x:=gh) (i:=1) (n:=0) (F:=(λu=>.agg #[sL (agJ 0 u),sL (agJ 1 u)])) (G:=λu hh=>FormU hh u f) (f:=λgh hh=>FormU hh (gh 1) f) (hS _ _ _ (hf.sees sH)) (by kernel_rfl) (by kernel_rfl) (λ_ _ r=>r))) ?_;refine Aj (r_make hT hA hmono ⟨λ_ _=>by kernel_rfl,λ_ _=>by kernel_rfl,λ_ _=>by kernel_rfl⟩ (by kernel_rfl) 30 [3] 4 n (by kernel_rfl) (λ_=>by kernel_rfl) 0 (GN R 0) (by kernel_rfl) (by kernel_rfl) (by kernel_rfl) (t:=33) (te:=130) (z:=.agg #[Vi 0,Vi 0,Vi 0,Vi 0,Vi 0,Ve,Vi 0,Vi 0,Ve,Vi 0]) (cs:=[Vi 0,Vi 0,Vi 0,Vi 0,Vi 0,Ve,Vi 0,Vi 0,Ve,Vi 0]) (y:=(.tmp 29)) (by_:=96) (kk:=10) (λ_=>by kernel_rfl) (λ_=>by kernel_rfl) (by kernel_rfl) (λ_=>by kernel_rfl) Tryz.underlying33 (by kernel_rfl) rfl rfl (by decide) (by omega) (by omega) (by simp only [maxLen]; omega)) ?_;refine Aj (r_make hT hA hmono ⟨λ_ _=>by kernel_rfl,λ_ _=>by kernel_rfl,λ_ _=>by kernel_rfl⟩ (by kernel_rfl) 32 [5] 6 n (by kernel_rfl) (λ_=>by kernel_rfl) 1 (GN R 1) (by kernel_rfl) (by kernel_rfl) (by kernel_rfl) (t:=34) (te:=44) (z:=.agg #[Vi 0,Vi 0,Ve]) (cs:=[Vi 0,Vi 0,Ve]) (y:=(.tmp 31)) (by_:=32) (kk:=3) (λ_=>by kernel_rfl) (λ_=>by kernel_rfl) (by kernel_rfl) (λ_=>by kernel_rfl) Tryz.underlying34 (by kernel_rfl) rfl rfl (by decide) (by omega) (by omega) (by simp only [maxLen]; omega)) ?_
  trivial
 rintro u27 bcq bvq bm W4 S5 ⟨f27,-⟩;replace f27:FormU W4 u27 f:=f27;refine go0 4 [] [] ?_;obtain ⟨-,A6,c6,e6,-,-,-,-,-,-⟩:=iQ f27.fields;rw [hn] at e6;refine fV [(4,Vp b3),(36,Vp bm)] [.row (Vs bcq n n) 130 10 (List.replicate n [Vi 0,Vi 0,Vi 0,Vi 0,Vi 0,Ve,Vi 0,Vi 0,Ve,Vi 0]),.row (Vs bvq n n) 44 3 (List.replicate n [Vi 0,Vi 0,Ve]),.box bm [sL (agJ 0 u27),sL (agJ 1 u27),Vi p.t,Vi p.b,Vi p.c,Vz,Vs bcq n n,Vs bvq n n,Vi 0,Vi 0,Vz],.box b3 [Vz,Vz,Vi 0,Vi 0,Vi 0,Vz,Vz,Vz,Vi 0,Vi 0],.box b2 [Vi p.t,Vi p.b,Vi p.c],.box b1 [.slice A n c,.slice B m d]] [] ?_;rw [e6,hcl,hvl];have f28:=f27.fields;rw [e6] at f28;refine g_front 2 ?_;refine lV 57 8 ?_;refine xQ (Bi:=[.row (Vz) 57 8 ([]),.box bm [.slice A6 n c6,sL (agJ 1 u27),Vi p.t,Vi p.b,Vi p.c,Vz,Vs bcq n n,Vs bvq n n,Vi 0,Vi 0,Vz],.row (Vs bcq n n) 130 10 (jK (zW f p).calls),.row (Vs bvq n n) 44 3 (gA (zW f p).vals)]) [0,1,2,3] (λH sH=>hdn bm n hn A6 (some ⟨bcq,0,none⟩) (some ⟨bvq,0,none⟩) c6 n n (agJ 1 u27) (Vz) (Vz) _ (f28.sees sH) (RS.nil _ 7)) ?_; rintro _ _ W6 S7 ⟨ul,rfl,rfl⟩;refine go0 9 [.b 4 0] [] ?_;refine eV 2 (v:=Vs bcq n n) (e:=130) (kk:=10) (l:=jK S.calls) ?_; intro W8 S9 fc;refine eV 2 (v:=Vs bvq n n) (e:=44) (kk:=3) (l:=gA S.vals) ?_; intro W10 S11 fv;refine dV 0 (v:=sL ul) (e:=57) (kk:=8) (l:=oW S.out) ?_; intro Al cl hE_ul hc_ul hm_ul;rw [show (oW S.out).length=S.out.length from by first | omega | (simp; done) | (simp; omega)] at hE_ul hc_ul;rw [hE_ul];refine hQ.to [.agg #[.slice A6 n c6,sL (agJ 1 u27),Vi p.t,Vi p.b,Vi p.c,Vz,Vs bcq n n,Vs bvq n n,Vi 0,Vi S.last],.slice Al S.out.length cl,Vi 0] [0] [.row (.slice Al S.out.length cl) 57 8 (oW S.out)] (λH sH=>?_) (ix:=[2]);exact (by rw [hres,hS']; exact ⟨.agg #[.slice A6 n c6,agJ 1 u27,Vz,Vs bcq n n,Vs bvq n n,ul],Al,cl,rfl,rfl,⟨⟨(f28.sees (S7.trans (S9.trans (S11.trans sH)))),IsForm.pages (f27.sees (S7.trans (S9.trans (S11.trans sH))))⟩,RS.nil _ 7,(fc.sees (S11.trans sH)),(fv.sees sH)⟩⟩:NewR (hZ (zW f p) ρ) (gZ (zW f p) ρ).out _ _ _)
def tkM:List TokA:=[⟨⟨2,[97],0,0,[]⟩,0⟩,⟨⟨4,[42],0,0,[]⟩,2⟩,⟨⟨1,[50],1,2,[]⟩,4⟩]
def tkN:List TokA:=[⟨⟨2,[98],0,0,[]⟩,0⟩]
theorem sim_m:SimT (tkM.map (·.t)):=λk=>by
 match k with
 | 0=>decide
 | 1=>decide
 | 2=>decide
 | k + 3=>exact ⟨rfl,rfl,rfl,rfl,rfl,rfl,rfl⟩
theorem sim_n:SimT (tkN.map (·.t)):=λk=>by
 match k with
 | 0=>decide
 | k + 1=>exact ⟨rfl,rfl,rfl,rfl,rfl,rfl,rfl⟩
theorem tok_m:TokS ⟨#[97,32,42,32,50]⟩ tkM (λj=>[0,1,1,2,2,3].getD j 0):=by
 refine ⟨by decide,by decide,rfl,rfl,λj h e=>?_,λj h e=>?_⟩
 ·have h5:j < 5:=h;rcases (by omega:j=0\/j=1\/j=2\/j=3\/j=4) with rfl | rfl | rfl | rfl | rfl <;> first | rfl | exact absurd e (show ¬ (97:UInt8)=32 by decide) | exact absurd e (show ¬ (42:UInt8)=32 by decide) | exact absurd e (show ¬ (50:UInt8)=32 by decide)
 ·have h5:j < 5:=h;rcases (by omega:j=0\/j=1\/j=2\/j=3\/j=4) with rfl | rfl | rfl | rfl | rfl
  ·exact ⟨rfl,_,rfl,rfl,rfl,rfl,one_a⟩
  ·exact absurd rfl e
  ·exact ⟨rfl,_,rfl,rfl,rfl,rfl,one_m⟩
  ·exact absurd rfl e
  ·exact ⟨rfl,_,rfl,rfl,rfl,rfl,one_2⟩
theorem tok_n:TokS ⟨#[98]⟩ tkN id:=by
 refine ⟨by decide,by decide,rfl,rfl,λj h e=>?_,λj h e=>?_⟩
 ·obtain rfl:j=0:=by have:j < 1:=h; omega
  exact absurd e (show ¬ (98:UInt8)=32 by decide)
 ·obtain rfl:j=0:=by have:j < 1:=h; omega
  exact ⟨rfl,_,rfl,rfl,rfl,rfl,one_b⟩
theorem src_m (H:Vw):C0 Tryz.prog 119 #[Vt ⟨#[97,32,42,32,50]⟩] H (λr h'=>∃ u,r=.tuple #[.agg #[Vi cntX.op,Vi cntX.k,Vi cntX.n,.string cntX.s,.string cntX.nm,sL u],Vi 0] /\ IsArgs h' cntX (sL u)) :=
 parse_s _ tkM cntX 12 H (λH=>tokens_c _ tkM _ tok_m H) sim_m (by decide) (by kernel_rfl) cntX_wf (by decide) (by kernel_rfl)
theorem src_n (H:Vw):C0 Tryz.prog 119 #[Vt ⟨#[98]⟩] H (λr h'=>∃ u,r=.tuple #[.agg #[Vi cntB.op,Vi cntB.k,Vi cntB.n,.string cntB.s,.string cntB.nm,sL u],Vi 0] /\ IsArgs h' cntB (sL u)) :=
 parse_s _ tkN cntB 12 H (λH=>tokens_c _ tkN _ tok_n H) sim_n (by decide) (by kernel_rfl) cntB_wf (by decide) (by kernel_rfl)
theorem cutp_k (s t:ByteArray) (b:Bool) (e1:mkB (Lib.trimPrefix s.data.toList [112,97,103,101,32])=t) (e2:Lib.hasPrefix s.data.toList [112,97,103,101,32]=b) (H:Vw):C0 Tryz.prog 68 #[Vt s,.string ⟨#[112,97,103,101,32]⟩] H (λr _=>r=.tuple #[Vt t,.bool b]):=by
 rw [<- e1, <- e2];exact c_cutp s ⟨#[112,97,103,101,32]⟩ H
theorem ixK (s:ByteArray) (k:Int) (e:wix [105,110,112,117,116] [102,111,114,109,117,108,97] [108,111,111,107,117,112] s.data.toList=k) (H:Vw):C0 Tryz.prog 121 #[.agg #[Vt ⟨#[]⟩,.string ⟨#[105,110,112,117,116]⟩,.string ⟨#[102,111,114,109,117,108,97]⟩,.string ⟨#[108,111,111,107,117,112]⟩],.string s] H (λr _=>r=Vi k):=by
 rw [<- e];exact index_any _ _ _ s H
theorem ixT (s:ByteArray) (k:Int) (e:wix [105,110,116] [98,111,111,108] [116,101,120,116] s.data.toList=k) (H:Vw):C0 Tryz.prog 121 #[.agg #[Vt ⟨#[]⟩,.string ⟨#[105,110,116]⟩,.string ⟨#[98,111,111,108]⟩,.string ⟨#[116,101,120,116]⟩],.string s] H (λr _=>r=Vi k):=by
 rw [<- e];exact index_any _ _ _ s H
theorem str_flat:∀ l:List ByteArray,(l.map λs=>s.data.toList).map (λx=>Value.string (mkB x))=(sZ l).flatten
 | []=>rfl
 | s :: l=>by
  show Value.string (mkB s.data.toList) :: (l.map λs=>s.data.toList).map (λx=>Value.string (mkB x))=Value.string s :: (sZ l).flatten;rw [str_flat l, <- (mkB_eq rfl:s=mkB s.data.toList)]
theorem c_splitR (s sep:ByteArray) (l:List ByteArray) (n:Nat) (hn:l.length=n) (H:Vw) (q:Lk H) (hs:s.size <= 1000) (h1:1 <= sep.size) (n1:n <= 100) (e:Lib.split s.data.toList sep.data.toList=l.map λs=>s.data.toList):C0 Tryz.prog 67 #[Vt s,.string sep] H (λr h'=>∃ b,r=.slice (some ⟨b,0,none⟩) n n /\ RS h' 1 (.slice (some ⟨b,0,none⟩) n n) (sZ l)):=by
 refine (c_splitC s sep _ H q (by omega) h1 e).mono λv h' _ k=>?_;obtain ⟨b,e,c⟩:=k;rw [Hj,hn] at e;rw [str_flat] at c;have hr:=rs_cells (k:=1) (sZ l) (λr hr=>by obtain ⟨s,-,rfl⟩:=Rj.1 hr; rfl) (by rw [Hj]; unfold maxLen; omega) c;rw [Hj,hn] at hr;exact ⟨b,e,hr⟩
def lnA:ByteArray:=⟨#[105,110,112,117,116,32,97,32,105,110,116]⟩
def lnB:ByteArray:=⟨#[102,111,114,109,117,108,97,32,98,32,105,110,116,32,61,32,97,32,42,32,50]⟩
def lnC:ByteArray:=⟨#[108,111,111,107,117,112,32,99,32,116,101,120,116,32,61,32,98]⟩
def lnP:ByteArray:=⟨#[112,97,103,101,32,112,58,32,97,44,32,99]⟩
def lnQ:ByteArray:=⟨#[112,58,32,97,44,32,99]⟩
theorem rd_a (H:Vw) (q:Lk H):C0 Tryz.prog 70 #[Vt lnA] H (λr h'=>∃ u,r=.tuple #[.agg #[Vt ⟨#[97]⟩,Vi 1,Vi 1,Vi zE.op,Vi zE.k,Vi zE.n,.string zE.s,.string zE.nm,sL u],Vi 0] /\ IsArgs h' zE (sL u)) :=
 (rdF_inp lnA (mkB [105,110,112,117,116,32,97,32,105,110,116]) (mkB [105,110,112,117,116]) ⟨#[97]⟩ (mkB [105,110,116]) 1 H q (by decide)
  (λH q=>c_cut lnA ⟨#[32,61,32]⟩ _ _ _ H q (by decide) (by kernel_rfl))
  (λH q=>c_splitC (mkB [105,110,112,117,116,32,97,32,105,110,116]) ⟨#[32]⟩ [[105,110,112,117,116],[97],[105,110,116]] H q (by decide) (by decide) (by kernel_rfl))
  (ixK _ 1 (by kernel_rfl)) (ixT _ 1 (by kernel_rfl)) (λH=>c_name ⟨#[97]⟩ H (cnt_ok.each ⟨⟨#[97]⟩,1,1,zE⟩ (Ej (i:=0) rfl)).name)).mono λv h' _ e=>⟨.slice none 0 0,e,uJ _ _ rfl⟩
theorem rd_b (H:Vw) (q:Lk H):C0 Tryz.prog 70 #[Vt lnB] H (λr h'=>∃ u,r=.tuple #[.agg #[Vt ⟨#[98]⟩,Vi 2,Vi 1,Vi cntX.op,Vi cntX.k,Vi cntX.n,.string cntX.s,.string cntX.nm,sL u],Vi 0] /\ IsArgs h' cntX (sL u)) :=
 rdF_src cntF.fields ⟨⟨#[98]⟩,2,1,cntX⟩ lnB (mkB [102,111,114,109,117,108,97,32,98,32,105,110,116]) ⟨#[97,32,42,32,50]⟩ (mkB [102,111,114,109,117,108,97]) (mkB [105,110,116]) H q (cnt_ok.each _ (Ej (i:=1) rfl)) (by decide)
  (λH q=>c_cut lnB ⟨#[32,61,32]⟩ _ [97,32,42,32,50] _ H q (by decide) (by kernel_rfl))
  (λH q=>c_splitC (mkB [102,111,114,109,117,108,97,32,98,32,105,110,116]) ⟨#[32]⟩ [[102,111,114,109,117,108,97],[98],[105,110,116]] H q (by decide) (by decide) (by kernel_rfl))
  (ixK _ 2 (by kernel_rfl)) (ixT _ 1 (by kernel_rfl)) src_m
theorem rd_c (H:Vw) (q:Lk H):C0 Tryz.prog 70 #[Vt lnC] H (λr h'=>∃ u,r=.tuple #[.agg #[Vt ⟨#[99]⟩,Vi 3,Vi 3,Vi cntB.op,Vi cntB.k,Vi cntB.n,.string cntB.s,.string cntB.nm,sL u],Vi 0] /\ IsArgs h' cntB (sL u)) :=
 rdF_src cntF.fields ⟨⟨#[99]⟩,3,3,cntB⟩ lnC (mkB [108,111,111,107,117,112,32,99,32,116,101,120,116]) ⟨#[98]⟩ (mkB [108,111,111,107,117,112]) (mkB [116,101,120,116]) H q (cnt_ok.each _ (Ej (i:=2) rfl)) (by decide)
  (λH q=>c_cut lnC ⟨#[32,61,32]⟩ _ [98] _ H q (by decide) (by kernel_rfl))
  (λH q=>c_splitC (mkB [108,111,111,107,117,112,32,99,32,116,101,120,116]) ⟨#[32]⟩ [[108,111,111,107,117,112],[99],[116,101,120,116]] H q (by decide) (by decide) (by kernel_rfl))
  (ixK _ 3 (by kernel_rfl)) (ixT _ 3 (by kernel_rfl)) src_n
theorem nm_ok {c:UInt8} (h:isLet c=true) (hk:isKey [c]=false):qJ [c]:=⟨Ij 1,(by decide:1 <= 10),⟨c,rfl,h⟩,by unfold nZ; rw [List.takeWhile_cons,show dW c=true by unfold dW; rw [h]; rfl]; rfl,hk⟩
theorem rd_p (H:Vw) (q:Lk H):C0 Tryz.prog 69 #[Vt lnQ] H (λr h'=>∃ u v,r=.tuple #[.agg #[Vt ⟨#[112]⟩,sL u,Vi zE.op,Vi zE.k,Vi zE.n,.string zE.s,.string zE.nm,sL v],Vi 0] /\ RS h' 1 (sL u) (sZ [⟨#[97]⟩,⟨#[99]⟩]) /\ IsArgs h' zE (sL v)) :=
 rdP_c lnQ (mkB [97,44,32,99]) ⟨#[112]⟩ [⟨#[97]⟩,⟨#[99]⟩] 2 H q rfl (by decide) (by rw [Lib.toList_data,Lib.toList_data]; decide)
  (λH q=>c_cut lnQ ⟨#[58,32]⟩ [112] _ _ H q (by decide) (by kernel_rfl))
  (λH q=>c_cut (mkB [97,44,32,99]) ⟨#[59,32]⟩ _ _ _ H q (by decide) (by kernel_rfl))
  (λH q=>c_splitR (mkB [97,44,32,99]) ⟨#[44,32]⟩ [⟨#[97]⟩,⟨#[99]⟩] 2 rfl H q (by decide) (by decide) (by decide) (by kernel_rfl))
  (nm_ok (c:=112) (by decide) (by decide)) (λs hs=>by
   rcases Tj.1 hs with rfl | hs
   ·exact nm_ok (c:=97) (by decide) (by decide)
   ·rw [Pj.1 hs]; exact nm_ok (c:=99) (by decide) (by decide))
def txtK:ByteArray:=⟨#[105,110,112,117,116,32,97,32,105,110,116,10,102,111,114,109,117,108,97,32,98,32,105,110,116,32,61,32,97,32,42,32,50,10,108,111,111,107,117,112,32,99,32,116,101,120,116,32,61,32,98,10,112,97,103,101,32,112,58,32,97,44,32,99]⟩
theorem cnt_rdf:RdF cntF [lnA,lnB,lnC,lnP] (λ_=>lnQ):=by
 refine ⟨λk f hk=>?_,λk p hk=>?_⟩
 ·have h3:k < 3:=(Nj.1 hk).1;rcases (by omega:k=0\/k=1\/k=2) with rfl | rfl | rfl
  ·obtain rfl:⟨⟨#[97]⟩,1,1,zE⟩=f:=Zj hk;exact ⟨lnA,rfl,cutp_k _ _ _ (by kernel_rfl) (by kernel_rfl),λH q=>rd_a H q⟩
  ·obtain rfl:⟨⟨#[98]⟩,2,1,cntX⟩=f:=Zj hk;exact ⟨lnB,rfl,cutp_k _ _ _ (by kernel_rfl) (by kernel_rfl),λH q=>rd_b H q⟩
  ·obtain rfl:⟨⟨#[99]⟩,3,3,cntB⟩=f:=Zj hk;exact ⟨lnC,rfl,cutp_k _ _ _ (by kernel_rfl) (by kernel_rfl),λH q=>rd_c H q⟩
 ·have h1:k < 1:=(Nj.1 hk).1;obtain rfl:k=0:=by omega
  obtain rfl:⟨⟨#[112]⟩,[⟨#[97]⟩,⟨#[99]⟩],zE⟩=p:=Zj hk;exact ⟨lnP,rfl,cutp_k _ _ _ (by kernel_rfl) (by kernel_rfl),λH q=>rd_p H q⟩
theorem read_k (H:Vw) (q:Lk H):C0 Tryz.prog 25 #[Vt txtK] H (λr h'=>∃ u v,r=.tuple #[.agg #[sL u,sL v],Vi 0,Vi 0] /\ IsForm h' (sL u) (sL v) cntF) :=
 read_c cntF _ _ txtK _ _ H q cnt_fm cnt_rdf λH q=>c_splitR txtK ⟨#[10]⟩ [lnA,lnB,lnC,lnP] 4 rfl H q (by decide) (by decide) (by decide) (by kernel_rfl)
theorem hear_k (w:Value) (H:Vw) (hE:IsEng H w cntEg):C0 Tryz.prog 45 #[.agg (eA w cntEg),.agg #[Vt ⟨#[99]⟩,Vi 1,Vi 1,Vi 0,.string ⟨#[]⟩,Vi 3,Vi 0,.string ⟨#[111,107]⟩]] H (λr h'=>∃ u,r=.tuple #[.agg #[sL (agJ 0 u),sL (agJ 1 u),Vi 2,Vi 3,Vi 9,sL (agJ 2 u),sL (agJ 3 u),.slice (sA (agJ 4 u)) 3 (sC (agJ 4 u)),Vi 0,Vi 1],sL (agJ 5 u),.bool true,Vi 0] /\ RS h' 3 (.slice (sA (agJ 4 u)) 3 (sC (agJ 4 u))) (gA [⟨1,0,⟨#[]⟩⟩,⟨1,0,⟨#[]⟩⟩,⟨3,0,⟨#[111,107]⟩⟩])):=by
 refine (hear_any cntEg [0,1,2] cntL cntE_ok cntE_settled 2 ⟨⟨#[99]⟩,3,3,cntB⟩ cnt1 cntC rfl rfl rfl (.inl (.inr (.inr ⟨rfl,rfl,by decide,by decide⟩))) cnt_takes (by rw [cnt_hear.2]; decide) w H hE).mono λr h' _ k=>?_;obtain ⟨u,e,hT⟩:=k;have hv:=hT.eng.vals;have e1:(hZ (xV cntEg 2 cnt1 cntC) [0,1,2]).vals=_:=cnt_hear.1;rw [e1] at hv;obtain ⟨A,c,e2,-⟩:=hv.form;have e3:sN (agJ 4 u)=3:=Dj sN e2;have e4:(hZ (xV cntEg 2 cnt1 cntC) [0,1,2]).last=1:=cnt_hear.2;have k1:∀ (m:Nat) (t:Int),m=3 -> t=1 -> Value.tuple #[.agg #[sL (agJ 0 u),sL (agJ 1 u),Vi 2,Vi 3,Vi 9,sL (agJ 2 u),sL (agJ 3 u),.slice (sA (agJ 4 u)) m (sC (agJ 4 u)),Vi 0,Vi t],sL (agJ 5 u),.bool true,Vi 0]=.tuple #[.agg #[sL (agJ 0 u),sL (agJ 1 u),Vi 2,Vi 3,Vi 9,sL (agJ 2 u),sL (agJ 3 u),.slice (sA (agJ 4 u)) 3 (sC (agJ 4 u)),Vi 0,Vi 1],sL (agJ 5 u),.bool true,Vi 0]:=by
  intro m t q1 q2;rw [q1,q2]
 have k2:∀ m:Nat,m=3 -> RS h' 3 (.slice (sA (agJ 4 u)) m (sC (agJ 4 u))) (gA [⟨1,0,⟨#[]⟩⟩,⟨1,0,⟨#[]⟩⟩,⟨3,0,⟨#[111,107]⟩⟩]) -> RS h' 3 (.slice (sA (agJ 4 u)) 3 (sC (agJ 4 u))) (gA [⟨1,0,⟨#[]⟩⟩,⟨1,0,⟨#[]⟩⟩,⟨3,0,⟨#[111,107]⟩⟩]):=by
  intro m q1 q2;rw [q1] at q2;exact q2
 exact ⟨u,e.trans (k1 _ _ e3 e4),k2 _ e3 hv⟩
theorem new_k (H:Vw) (fv pv:Value) (q:IsForm H fv pv cntF):ConE Tryz.prog 11 #[.agg #[fv,pv],.agg #[Vi 2,Vi 3,Vi 9]] H [] (NewR cntEg [cnt0]):=by
 have:=new_con cntF _ _ cnt_fm (by decide) cntP cntP_ok fv pv H q
 rw [cnt_sett,cnt_set] at this;exact this
theorem counts_c (h:Vw) (lk:Lk h):C0 Tryz.prog 13 #[] h (λv _=>v=.bool true):=by
 have hR:=λH q=>read_k H q;unfold txtK at hR;have hN:=λH fv pv q=>new_k H fv pv q;have hH:=λw H q=>hear_k w H q;have hrl:(oW [cnt0])[0]?=some [Vt ⟨#[99]⟩,Vi 1,Vi 1,Vi 0,.string ⟨#[]⟩,Vi 0,Vi 0,.string ⟨#[]⟩]:=rfl;have hrv:(gA [⟨1,0,⟨#[]⟩⟩,⟨1,0,⟨#[]⟩⟩,⟨3,0,⟨#[111,107]⟩⟩])[2]?=some [Vi 3,Vi 0,.string ⟨#[111,107]⟩]:=rfl;refine zQ Tryz.func13 λhbx hbad Q hQ=>?_;refine go0 7 [] [] ?_;refine uQ (λH sH=>hR _ (lk.sees sH)) ?_; rintro _ W1 S2 ⟨u,v,rfl,hf⟩;refine go1 14 [.own,.b 0 0,.b 0 0] [] ?_;intro b3;refine xQ (Bi:=[]) [] (λH sH=>hN _ _ _ (hf.sees sH)) ?_; rintro _ _ W4 S5 ⟨ue,A,c,rfl,rfl,hE⟩;refine go1 33 [.own,.b 0 0] [] ?_;intro b6;refine g_get (λa w hJ=>uX (hJ.rowOwn (v:=.slice A 1 c) (e:=57) (kk:=8) (l:=oW [cnt0]) 1 (by kernel_rfl)) ((by decide))) ?_; rintro ⟨bl,rfl⟩;refine go0 2 [.ix bl 0 1 c 0] [] ?_ (ho:=(Aj (by first | omega | (simp; omega)) (trivial)));refine g_rowset 1 0 5 (g:=bl) (m:=1) (cap:=c) (kk:=8) (e:=57) (l:=oW [cnt0]) (r:=[Vt ⟨#[99]⟩,Vi 1,Vi 1,Vi 0,Ve,Vi 0,Vi 0,Ve]) (r':=[Vt ⟨#[99]⟩,Vi 1,Vi 1,Vi 0,Ve,Vi 3,Vi 0,.string ⟨#[111,107]⟩]) (t:=44) (x:=(.tmp 37)) (y:=(.tmp 35)) (v:=.agg #[Vi 3,Vi 0,.string ⟨#[111,107]⟩]) (hrl) ?_;refine go0 3 [] [] ?_;refine oV 15 1 [.ld 1 0,.pu,.v (λgh=>.pointer (some ⟨bl,0 + 0 * 8,none⟩)),.v (λgh=>.agg #[Vt ⟨#[99]⟩,Vi 1,Vi 1,Vi 0,Ve,Vi 3,Vi 0,.string ⟨#[111,107]⟩]),.f (λgh=>.tuple #[.agg #[sL (agJ 0 (gh 4)),sL (agJ 1 (gh 4)),Vi 2,Vi 3,Vi 9,sL (agJ 2 (gh 4)),sL (agJ 3 (gh 4)),.slice (sA (agJ 4 (gh 4))) 3 (sC (agJ 4 (gh 4))),Vi 0,Vi 1],sL (agJ 5 (gh 4)),.bool true,Vi 0]) (λgh hh=>RS hh 3 (.slice (sA (agJ 4 (gh 4))) 3 (sC (agJ 4 (gh 4)))) (gA [⟨1,0,⟨#[]⟩⟩,⟨1,0,⟨#[]⟩⟩,⟨3,0,⟨#[111,107]⟩⟩])),.pu,.pu,.pu,.pu,.pu,.al 0,.st 0 0,.pu,.pu,.pu] [(4,false),(10,true)] (Aj (λ_ _ _ s c=>c.sees s) (trivial)) ?_ ?_
 ·intro R hT hA hmono;refine Aj (vZ hT hA bl 0 1 c 0 (λgh=>.pointer (some ⟨bl,0 + 0 * 8,none⟩)) (by first | omega | (simp; omega))) ?_;refine Aj (nY hT hA 42 (λgh=>.agg #[Vt ⟨#[99]⟩,Vi 1,Vi 1,Vi 0,Ve,Vi 3,Vi 0,.string ⟨#[111,107]⟩]) [2] 3 2 (GN R 2) bl 1 c 8 57 ((oW [cnt0]).set 0 [Vt ⟨#[99]⟩,Vi 1,Vi 1,Vi 0,Ve,Vi 3,Vi 0,.string ⟨#[111,107]⟩]) 0 0 (r:=[Vt ⟨#[99]⟩,Vi 1,Vi 1,Vi 0,Ve,Vi 3,Vi 0,.string ⟨#[111,107]⟩]) (rfl) 57 (.tmp 41)) ?_;refine Aj (lY hT hA hmono 43 (λu=>.tuple #[.agg #[sL (agJ 0 u),sL (agJ 1 u),Vi 2,Vi 3,Vi 9,sL (agJ 2 u),sL (agJ 3 u),.slice (sA (agJ 4 u)) 3 (sC (agJ 4 u)),Vi 0,Vi 1],sL (agJ 5 u),.bool true,Vi 0]) [0,3] 4 45 (λgh=>#[.agg (eA ue cntEg),.agg #[Vt ⟨#[99]⟩,Vi 1,Vi 1,Vi 0,Ve,Vi 3,Vi 0,.string ⟨#[111,107]⟩]]) (λgh H sH fH lent=>C0.facts (R:=R) (x:=gh) (i:=4) (n:=0) (F:=(λu=>.tuple #[.agg #[sL (agJ 0 u),sL (agJ 1 u),Vi 2,Vi 3,Vi 9,sL (agJ 2 u),sL (agJ 3 u),.slice (sA (agJ 4 u)) 3 (sC (agJ 4 u)),Vi 0,Vi 1],sL (agJ 5 u),.bool true,Vi 0])) (G:=λu hh=>RS hh 3 (.slice (sA (agJ 4 u)) 3 (sC (agJ 4 u))) (gA [⟨1,0,⟨#[]⟩⟩,⟨1,0,⟨#[]⟩⟩,⟨3,0,⟨#[111,107]⟩⟩])) (f:=λgh hh=>RS hh 3 (.slice (sA (agJ 4 (gh 4))) 3 (sC (agJ 4 (gh 4)))) (gA [⟨1,0,⟨#[]⟩⟩,⟨1,0,⟨#[]⟩⟩,⟨3,0,⟨#[111,107]⟩⟩])) (hH _ _ (hE.sees sH)) (by kernel_rfl) (by kernel_rfl) (λ_ _ r=>r))) ?_
  trivial
 rintro u43 b7 W8 S9 ⟨f43,-⟩;replace f43:RS W8 3 (.slice (sA (agJ 4 u43)) 3 (sC (agJ 4 u43))) (gA [⟨1,0,⟨#[]⟩⟩,⟨1,0,⟨#[]⟩⟩,⟨3,0,⟨#[111,107]⟩⟩]):=f43;refine go0 17 [.b 0 7,.b 0 7] [] ?_;obtain ⟨A6,hA6⟩:∃ A,sA (agJ 4 u43)=A:=⟨_,rfl⟩;obtain ⟨c6,hc6⟩:∃ c,sC (agJ 4 u43)=c:=⟨_,rfl⟩;rw [hA6,hc6] at f43;refine fV [(59,.bool true),(61,.slice (sA (agJ 4 u43)) 3 (sC (agJ 4 u43)))] [.box b7 [sL (agJ 0 u43),sL (agJ 1 u43),Vi 2,Vi 3,Vi 9,sL (agJ 2 u43),sL (agJ 3 u43),.slice (sA (agJ 4 u43)) 3 (sC (agJ 4 u43)),Vi 0,Vi 1],.box b6 (eL ue cntEg),.row (Vs bl 1 c) 57 8 ((oW [cnt0]).set 0 [Vt ⟨#[99]⟩,Vi 1,Vi 1,Vi 0,Ve,Vi 3,Vi 0,.string ⟨#[111,107]⟩]),.box b3 [sL u,sL v]] [] ?_;rw [hA6,hc6];obtain ⟨b10,o11,rfl,-,c12⟩:=RS.row f43 (hrv);refine aV (c12.sees (Sees.refl _)) ?_;refine go0 9 [.ix b10 o11 3 c6 2,.f 0 2] [] ?_ (ho:=(Aj (by first | omega | (simp; omega)) (trivial)));refine hQ.to [.bool true] (λH sH=>?_);exact rfl
structure LtOk (fs:List Fd) (x:Lt):Prop where
 at_:∃ (i:Nat) (f:Fd),fs[i]?=some f /\ x.nm=f.name /\ f.kind=3
 key:x.key.known
 ans:x.ans=zV
theorem known_le {v:Vl} (h:OkV v) (k:v.k <= 3):v.known:=by
 rcases h with q | rfl | ⟨q,-⟩
 ·exact q
 ·exact absurd k (by decide)
 ·omega
theorem turn_asks {p:Pol} {id now:Int} {key:Vl} {c:Cl} (h:(bA p id now key c).2=true):key.k <= 3 /\ (bA p id now key c).1=⟨1,id,1,key,zV,now + p.b⟩:=by
 by_cases q:key.k <= 3
 ·by_cases e:c.st≠0 /\ eqB c.key key=true
  ·rw [fA q e.1 e.2] at h; cases h
  ·rw [dA q e]; exact ⟨q,rfl⟩
 ·rw [eAz q] at h; cases h
theorem wake_asks {p:Pol} {now:Int} {c:Cl} (h:(iA p now c).2=true):c.st=1 /\ c.tr≠p.t /\ (iA p now c).1=⟨c.st,c.id,c.tr + 1,c.key,c.has,now + gapV p.b p.c (c.tr + 1)⟩:=by
 by_cases q:c.st≠1\/now < c.nx
 ·rw [wake_stays q] at h; cases h
 ·by_cases q2:c.tr=p.t
  ·rw [wake_gives q q2] at h; cases h
  ·rw [wake_again q q2]; exact ⟨by omega,q2,rfl⟩
theorem runS_out {fs:List Fd} {p:Pol} {now:Int} {inp:Env} {s0:Sst} {os:List Nat} (hp:p.ok) (hok:OkFs fs) (ki:∀ q∈inp,q.2.known) (n0:0 <= now) (n1:now <= 1073741824) (h0:CallsOk fs p s0.last s0.calls) (v0:s0.vals.length=fs.length) (k0:s0.kn=[]) (l0:0 <= s0.last) (l1:s0.last + os.length <= 1073741824) (hlt:∀ i∈os,i < fs.length) :
  ∀ t,t <= os.length -> ∀ x∈(bZ fs p now inp s0 (os.take t)).out,x∈s0.out\/(LtOk fs x /\ s0.last < x.id /\ x.id <= (bZ fs p now inp s0 (os.take t)).last)
 | 0,_=>λx hx=>.inl hx
 | t + 1,ht=>λx hx=>by
  have I:=runS_inv hp hok ki n0 n1 h0 v0 k0 l0 l1 hlt t (by omega);have ih:=runS_out hp hok ki n0 n1 h0 v0 k0 l0 l1 hlt t (by omega);obtain ⟨i,hti⟩:∃ i,os[t]?=some i:=⟨_,Fj (by omega)⟩;have hil:=hlt i (Ej hti);obtain ⟨f,hf⟩:∃ f,fs[i]?=some f:=⟨_,Fj hil⟩;have hF:=hok.each f (Ej hf);rw [runS_at fs p now inp s0 os t i hti] at hx ⊢;generalize bZ fs p now inp s0 (os.take t)=s at *;have hlo:=I.lo;obtain ⟨c,hc⟩:∃ c,s.calls[i]?=some c:=⟨_,Fj (by rw [I.calls.len]; exact hil)⟩
  by_cases h3:f.kind=3
  ·have hkey:=qK (get_ok I.ok) _ f.src (Ij _) (hF.wf (by omega)).1;rw [oZ hf h3 hc rfl rfl] at hx ⊢;simp only at hx ⊢
   by_cases hr:(bA p (s.last + 1) now (pK s.kn f.src) c).2=true
   ·obtain ⟨q1,q2⟩:=turn_asks hr;rw [Cj hr] at hx ⊢;rcases Qj.1 hx with hx | hx
    ·rcases ih x hx with q | ⟨a1,a2,a3⟩
     ·exact .inl q
     ·exact .inr ⟨a1,a2,by omega⟩
    ·rw [Pj.1 hx,q2];exact .inr ⟨⟨⟨i,f,hf,rfl,h3⟩,known_le hkey q1,rfl⟩,by show s0.last < s.last + 1; omega,Cv _⟩
   ·rw [Bj hr] at hx ⊢;exact ih x hx
  ·rw [stepS_one hf h3] at hx ⊢;exact ih x hx
theorem setE_out {E:Eg} {ρ:List Int} {lv:Nat -> Nat} (hok:EgOk E ρ lv):∀ x∈(gZ E ρ).out,LtOk E.fm.fields x /\ E.last < x.id /\ x.id <= (gZ E ρ).last:=λx hx=>by
 have few:=hok.fm.fields.few;have one:=hok.one;have hl:=hok.l1;have hod:Ordd E.fm.fields ρ lv (rX ρ E.fm.fields.length):=sX hok.fm.rank (by omega);have h:=runS_out (s0:=⟨E.calls,E.vals,[],E.last,[]⟩) (os:=rX ρ E.fm.fields.length) hok.pol hok.fm.fields hok.ki hok.n0 hok.n1 hok.calls hok.vlen rfl hok.l0 (by rw [hod.len]; show E.last + _ <= _; omega) (λi q=>hod.lt q) _ (Ij _) x;rw [Pk] at h;rcases h hx with q | q
 ·cases q
 ·exact q
theorem setE_few {E:Eg} {ρ:List Int} {lv:Nat -> Nat} (hok:EgOk E ρ lv):(gZ E ρ).out.length <= 14 /\ (gZ E ρ).last <= E.last + 14 /\ E.last <= (gZ E ρ).last:=by
 have R:=setE_run hok;have few:=hok.fm.fields.few;have one:=hok.one;have hod:Ordd E.fm.fields ρ lv (rX ρ E.fm.fields.length):=sX hok.fm.rank (by omega);have h1:=R.olen;have h2:=R.hi;have h3:=R.lo;rw [hod.len] at h1 h2;simp only [Vq] at h1 h2 h3;exact ⟨by omega,by omega,h3⟩
theorem askT_mem {p:Pol} {now:Int} {x:Lt}:∀ {fs:List Fd} {cs:List Cl},x∈askT p now fs cs -> ∃ (i:Nat) (f:Fd) (c:Cl),fs[i]?=some f /\ cs[i]?=some c /\ (iA p now c).2=true /\ x=ltOf f.name (iA p now c).1
 | [],_,h=>by cases h
 | _ :: _,[],h=>by cases h
 | f :: fs,c :: cs,h=>by
  rcases Qj.1 h with q | q
  ·by_cases hw:(iA p now c).2=true
   ·rw [Cj hw] at q;exact ⟨0,f,c,rfl,rfl,hw,Pj.1 q⟩
   ·rw [Bj hw] at q; cases q
  ·obtain ⟨i,g,d,q1,q2,q3⟩:=askT_mem q;exact ⟨i + 1,g,d,q1,q2,q3⟩
theorem tickT_ok {E:Eg} {ρ:List Int} {lv:Nat -> Nat} (hok:EgOk E ρ lv) {n:Int}:∀ x∈tickT E n,LtOk E.fm.fields x /\ x.id <= E.last:=λx hx=>by
 obtain ⟨i,f,c,hf,hc,hw,rfl⟩:=askT_mem hx;obtain ⟨w1,w2,w3⟩:=wake_asks hw;obtain ⟨d1,d2,d3⟩:=hok.calls.at_ i f c hf hc;obtain ⟨k1,k2⟩:=d2 (by omega);rw [w3];exact ⟨⟨⟨i,f,hf,rfl,k1⟩,(d1.live (by omega)).key,rfl⟩,k2⟩
inductive MStep (ρ:List Int) (E:Eg) (lt:List Lt):Eg -> List Lt -> Prop
 | stay:MStep ρ E lt E lt
 | tick (dt:Int):1 <= dt -> dt <= 100 -> MStep ρ E lt (hZ (tickE E dt) ρ) (lt++(tickT E dt++(gZ (tickE E dt) ρ).out))
 | tell (nm:ByteArray) (v:Vl):v.known -> zZ E.fm.fields nm v.k=0 -> MStep ρ E lt (hZ (xZ E nm v) ρ) (lt++(gZ (xZ E nm v) ρ).out)
 | hear (i:Nat) (f:Fd) (x:Lt) (c:Cl):E.fm.fields[i]?=some f -> E.calls[i]?=some c -> OkV x.ans -> Takes f x c -> MStep ρ E lt (hZ (xV E i x c) ρ) (lt++(gZ (xV E i x c) ρ).out)
structure MOk (fm:Fm) (p:Pol) (ρ:List Int) (lv:Nat -> Nat) (k:Nat) (E:Eg) (lt:List Lt):Prop where
 ok:EgOk E ρ lv
 se:Settled E ρ
 efm:E.fm=fm
 epol:E.pol=p
 now:E.now <= 100 * k
 last:E.last <= 14 + 14 * k
 inp:E.inp.length <= k
 len:lt.length <= 14 + 28 * k
 ltr:∀ x∈lt,LtOk fm.fields x /\ x.id <= E.last
theorem MOk.set {fm:Fm} {p:Pol} {ρ:List Int} {lv:Nat -> Nat} {k:Nat} {E E1:Eg} {lt lt1:List Lt} (h:MOk fm p ρ lv k E lt) (hk:k <= 90) (h1:EgOk E1 ρ lv) (e1:E1.fm=E.fm) (e2:E1.pol=E.pol) (e3:E1.now <= E.now + 100) (e4:E1.last=E.last) (e5:E1.inp.length <= E.inp.length + 1) (e6:lt1.length <= 14) (e7:∀ x∈lt1,LtOk fm.fields x /\ x.id <= E.last) :
  MOk fm p ρ lv (k + 1) (hZ E1 ρ) (lt++(lt1++(gZ E1 ρ).out)):=by
 obtain ⟨q1,q2,q3⟩:=setE_few h1;have hl:=h.last;have hn:=h.now;have hi:=h.inp;have hlen:=h.len;refine ⟨settE_ok h1 (by omega),iZ h1,e1.trans h.efm,e2.trans h.epol,by show E1.now <= _; omega,by show (gZ E1 ρ).last <= _; omega,by show E1.inp.length <= _; omega,by rw [Bk,Bk]; omega,λx hx=>?_⟩;show _ /\ x.id <= (gZ E1 ρ).last;rcases Qj.1 hx with hx | hx
 ·obtain ⟨a,b⟩:=h.ltr x hx;exact ⟨a,by omega⟩
 ·rcases Qj.1 hx with hx | hx
  ·obtain ⟨a,b⟩:=e7 x hx;exact ⟨a,by omega⟩
  ·obtain ⟨a,b,c⟩:=setE_out h1 x hx;rw [e1,h.efm] at a;exact ⟨a,c⟩
theorem MOk.step {fm:Fm} {p:Pol} {ρ:List Int} {lv:Nat -> Nat} {k:Nat} {E E':Eg} {lt lt':List Lt} (h:MOk fm p ρ lv k E lt) (hk:k <= 90) (hs:MStep ρ E lt E' lt'):MOk fm p ρ lv (k + 1) E' lt':=by
 have hl:=h.last;have hn:=h.now;have hi:=h.inp;have hlen:=h.len
 cases hs with
 | stay=>exact ⟨h.ok,h.se,h.efm,h.epol,by omega,by omega,by omega,by omega,h.ltr⟩
 | tick dt d1 d2 =>
  have h1:=tickE_ok h.ok (n:=dt) (by omega) (by omega);have few:=h.ok.fm.fields.few;have ha:=askT_len (p:=E.pol) (now:=E.now + dt) (fs:=E.fm.fields) (cs:=E.calls);exact h.set hk h1 rfl rfl (by show E.now + dt <= _; omega) rfl (by show E.inp.length <= _; omega) (by unfold tickT; omega) (by rw [<- h.efm]; exact tickT_ok h.ok)
 | tell nm v hv ht =>
  have h1:=tellE_ok h.ok hv ht (by omega);have hpl:=putV_len (s:=nm) (v:=v) (l:=E.inp);exact h.set (lt1:=[]) hk h1 rfl rfl (by show E.now <= _; omega) rfl hpl (Oj _) (λx hx=>by cases hx)
 | hear i f x c hf hc hx ht =>
  have h1:=hearE_ok h.ok hf hc hx ht;exact h.set (lt1:=[]) hk h1 rfl rfl (by show E.now <= _; omega) rfl (by show E.inp.length <= _; omega) (Oj _) (λx hx=>by cases hx)
instance (f:Fd) (x:Lt) (c:Cl):Decidable (Takes f x c):=by unfold Takes; infer_instance
def hrdE (E:Eg) (ρ:List Int) (i:Nat) (f:Fd) (x:Lt) (c:Cl):Eg:=if Takes f x c then hZ (xV E i x c) ρ else E
def hrdT (E:Eg) (ρ:List Int) (i:Nat) (f:Fd) (x:Lt) (c:Cl):List Lt:=if Takes f x c then (gZ (xV E i x c) ρ).out else []
def hrdB (f:Fd) (x:Lt) (c:Cl):Bool:=decide (Takes f x c)
theorem hrd_yes {E:Eg} {ρ:List Int} {i:Nat} {f:Fd} {x:Lt} {c:Cl} (h:Takes f x c):hrdE E ρ i f x c=hZ (xV E i x c) ρ /\ hrdT E ρ i f x c=(gZ (xV E i x c) ρ).out /\ hrdB f x c=true:=⟨Cj h,Cj h,Jj h⟩
theorem hrd_no {E:Eg} {ρ:List Int} {i:Nat} {f:Fd} {x:Lt} {c:Cl} (h:¬ Takes f x c):hrdE E ρ i f x c=E /\ hrdT E ρ i f x c=[] /\ hrdB f x c=false:=⟨Bj h,Bj h,Kj h⟩
theorem hear_all (E:Eg) (ρ:List Int) (lv:Nat -> Nat) (hok:EgOk E ρ lv) (hse:Settled E ρ) (i:Nat) (f:Fd) (x:Lt) (c:Cl) (hf:E.fm.fields[i]?=some f) (hc:E.calls[i]?=some c) (hn:x.nm=f.name) (hx:OkV x.ans) (hl:E.last <= 1073741000) (w:Value) (h:Vw) (hE:IsEng h w E) :
  C0 Tryz.prog 45 #[.agg (eA w E),.agg #[Vt x.nm,Vi x.id,Vi x.key.k,Vi x.key.n,.string x.key.s,Vi x.ans.k,Vi x.ans.n,.string x.ans.s]] h (λr h'=>HeaR (hrdE E ρ i f x c) (hrdT E ρ i f x c) (hrdB f x c) r h'):=by
 by_cases ht:Takes f x c
 ·obtain ⟨e1,e2,e3⟩:=hrd_yes (E:=E) (ρ:=ρ) (i:=i) ht;rw [e1,e2,e3]
  have:=(setE_few (hearE_ok hok hf hc hx ht)).2.1
  have e:(xV E i x c).last=E.last:=rfl;exact hear_any E ρ lv hok hse i f x c hf hc hn hx ht (by omega) w h hE
 ·obtain ⟨e1,e2,e3⟩:=hrd_no (E:=E) (ρ:=ρ) (i:=i) ht;rw [e1,e2,e3];exact hear_no_any E ρ lv hok hse i f x c hf hc hn hx ht w h hE
def orcC:List Fd -> List Cl -> List Aw
 | f :: fs,c :: cs=>(if c.st=2\/c.st=3 then [⟨f.name,c.key,ansC c⟩] else [])++orcC fs cs
 | _,_=>[]
theorem orcC_mem {x:Aw}:∀ {fs:List Fd} {cs:List Cl},x∈orcC fs cs -> ∃ (i:Nat) (f:Fd) (c:Cl),fs[i]?=some f /\ cs[i]?=some c /\ (c.st=2\/c.st=3) /\ x=⟨f.name,c.key,ansC c⟩
 | [],_,h=>by cases h
 | _ :: _,[],h=>by cases h
 | f :: fs,c :: cs,h=>by
  rcases Qj.1 h with q | q
  ·by_cases hw:c.st=2\/c.st=3
   ·rw [Cj hw] at q;exact ⟨0,f,c,rfl,rfl,hw,Pj.1 q⟩
   ·rw [Bj hw] at q; cases q
  ·obtain ⟨i,g,d,q1,q2,q3⟩:=orcC_mem q;exact ⟨i + 1,g,d,q1,q2,q3⟩
theorem hit_name {s:ByteArray} {key:Vl} {p:Aw} (h:p.nm≠s):p.hit s key=false:=by
 unfold Aw.hit;rw [tl_no h,Bool.false_and]
theorem orcC_none {s:ByteArray} {key:Vl}:∀ {fs:List Fd} {cs:List Cl},(∀ f∈fs,f.name≠s) -> vJ s key (orcC fs cs)=pdV
 | [],_,_=>rfl
 | _ :: _,[],_=>rfl
 | f :: fs,c :: cs,h=>by
  have ih:=orcC_none (s:=s) (key:=key) (fs:=fs) (cs:=cs) λg hg=>h g (by simp [hg]);show vJ s key ((if c.st=2\/c.st=3 then [(⟨f.name,c.key,ansC c⟩:Aw)] else [])++orcC fs cs)=pdV
  by_cases hw:c.st=2\/c.st=3
  ·rw [Cj hw];show vJ s key (⟨f.name,c.key,ansC c⟩ :: orcC fs cs)=pdV;rw [vJ,hit_name (show (⟨f.name,c.key,ansC c⟩:Aw).nm≠s from h f (by simp)),Bj (by decide),ih]
  ·rw [Bj hw]; exact ih
theorem orcC_ask {key:Vl}:∀ {fs:List Fd} {cs:List Cl} {i:Nat} {f:Fd} {c:Cl},(fs.map (λf:Fd=>f.name)).Nodup -> fs[i]?=some f -> cs[i]?=some c -> vJ f.name key (orcC fs cs)=if (c.st=2\/c.st=3) /\ eqB c.key key=true then ansC c else pdV
 | [],_,_,_,_,_,h,_=>by simp at h
 | _ :: _,[],_,_,_,_,_,h=>by simp at h
 | g :: fs,d :: cs,0,f,c,hd,h1,h2=>by
  simp only [Iw,Wj] at h1 h2;subst h1 h2;rw [Dk,Mq] at hd;have hn:=orcC_none (s:=g.name) (key:=key) (fs:=fs) (cs:=cs) λx hx e=>hd.1 (Rj.2 ⟨x,hx,e⟩);show vJ g.name key ((if d.st=2\/d.st=3 then [(⟨g.name,d.key,ansC d⟩:Aw)] else [])++orcC fs cs)=_
  by_cases hw:d.st=2\/d.st=3
  ·rw [Cj hw];show vJ g.name key (⟨g.name,d.key,ansC d⟩ :: orcC fs cs)=_;have hh:Aw.hit ⟨g.name,d.key,ansC d⟩ g.name key=eqB d.key key:=by
    show (g.name.toList == g.name.toList && eqB d.key key)=_;rw [tl_yes rfl,Bool.true_and]
   rw [vJ,hh]
   by_cases he:eqB d.key key=true
   ·rw [Cj he,Cj ⟨hw,he⟩]
   ·rw [Bj he,Bj λq=>he q.2,hn]
  ·rw [Bj hw,Bj λq=>hw q.1];exact hn
 | g :: fs,d :: cs,i + 1,f,c,hd,h1,h2=>by
  rw [Dk,Mq] at hd;have h1:fs[i]?=some f:=by simpa using h1
  have ih:=orcC_ask (key:=key) hd.2 h1 (by simpa using h2:cs[i]?=some c);have hne:g.name≠f.name:=λe=>hd.1 (Rj.2 ⟨f,Ej h1,e.symm⟩);show vJ f.name key ((if d.st=2\/d.st=3 then [(⟨g.name,d.key,ansC d⟩:Aw)] else [])++orcC fs cs)=_
  by_cases hw:d.st=2\/d.st=3
  ·rw [Cj hw];show vJ f.name key (⟨g.name,d.key,ansC d⟩ :: orcC fs cs)=_;rw [vJ,hit_name (show (⟨g.name,d.key,ansC d⟩:Aw).nm≠f.name from hne),Bj (by decide),ih]
  ·rw [Bj hw]; exact ih
theorem stepW_pre (fs:List Fd) (inp:Env) (orc:List Aw) (s:List Vl × Env) (i:Nat):∃ m,(stepW fs inp orc s i).2=s.2++m:=by
 unfold stepW
 split
 ·exact ⟨_,rfl⟩
 ·exact ⟨[],by simp⟩
theorem foldW_pre (fs:List Fd) (inp:Env) (orc:List Aw):∀ (os:List Nat) (s:List Vl × Env),∃ m,(os.foldl (stepW fs inp orc) s).2=s.2++m
 | [],s=>⟨[],by simp⟩
 | i :: os,s=>by
  obtain ⟨m,hm⟩:=stepW_pre fs inp orc s i;obtain ⟨m',hm'⟩:=foldW_pre fs inp orc os (stepW fs inp orc s i);exact ⟨m++m',by show (os.foldl (stepW fs inp orc) (stepW fs inp orc s i)).2=_; rw [hm',hm,Oq]⟩
theorem runW_pre (fs:List Fd) (inp:Env) (orc:List Aw) (os:List Nat) (t:Nat):∃ m,(cZ fs inp orc os).2=(cZ fs inp orc (os.take t)).2++m:=by
 have e:cZ fs inp orc os=(os.drop t).foldl (stepW fs inp orc) (cZ fs inp orc (os.take t)):=by
  unfold cZ;rw [<- Yw,Jw]
 rw [e];exact foldW_pre fs inp orc _ _
theorem ev_turn {fs:List Fd} (hok:OkFs fs) {inp:Env} (hi:∀ p∈inp,p.2.known) {orc:List Aw} (ho:∀ p∈orc,OkV p.has) {ρ:List Int} {lv:Nat -> Nat} {os:List Nat} (h:Ordd fs ρ lv os) {t i:Nat} {f:Fd} (ht:os[t]?=some i) (hf:fs[i]?=some f) (hk:f.kind≠1) :
  pK (cZ fs inp orc (os.take t)).2 f.src=pK (fcs fs (allW fs inp orc os)) f.src /\ iX f inp orc (cZ fs inp orc (os.take t)).2=iX f inp orc (fcs fs (allW fs inp orc os)):=by
 have hI:=run_inv hok hi ho h os.length (Ij _);rw [Pk] at hI;have htl:=(Nj.1 ht).1;have hT:=run_inv hok hi ho h t (by omega);have hin:∀ {i:Nat},i < fs.length -> i∈os:=λq=>h.perm.mem_iff.2 (Qk.2 q);obtain ⟨m,hm⟩:=runW_pre fs inp orc os t;have key:∀ s∈qY f.src,(cZ fs inp orc (os.take t)).2.get s=(fcs fs (allW fs inp orc os)).get s:=λs hs=>by
  obtain ⟨j,g,g1,g2,g3⟩:=tY hok hf hk hs;obtain ⟨x,-,x2,-⟩:=hT.at_ j (h.ahead ht j g3) g g1;obtain ⟨y,y1,y2,-⟩:=hI.at_ j (hin (Nj.1 g1).1) g g1;have e:(cZ fs inp orc os).2.get g.name=some x:=by rw [hm]; exact get_app x2
  rw [<- g2,x2, <- e,y2];exact (cQ hok.nodup g1 y1).symm
 exact ⟨eval_local key,oneV_congr λ_=>key⟩
theorem settled_fix {E:Eg} {ρ:List Int} {lv:Nat -> Nat} (hok:EgOk E ρ lv) (hse:Settled E ρ) (t:Nat) (ht:t <= (rX ρ E.fm.fields.length).length) :
  bZ E.fm.fields E.pol E.now E.inp ⟨E.calls,E.vals,[],E.last,[]⟩ ((rX ρ E.fm.fields.length).take t)=⟨E.calls,E.vals,(bZ E.fm.fields E.pol E.now E.inp ⟨E.calls,E.vals,[],E.last,[]⟩ ((rX ρ E.fm.fields.length).take t)).kn,E.last,[]⟩:=by
 obtain ⟨kn,hkn⟩:=hse;have few:=hok.fm.fields.few;have one:=hok.one;have hod:Ordd E.fm.fields ρ lv (rX ρ E.fm.fields.length):=sX hok.fm.rank (by omega);have h:=runS_fix E.fm.fields E.pol E.now E.inp ⟨E.calls,E.vals,[],E.last,[]⟩ (ordL_nodup hod) hok.calls.len hok.vlen rfl E.now E.last t ht;rw [hkn] at h;exact h
theorem settled_turn {E:Eg} {ρ:List Int} {lv:Nat -> Nat} (hok:EgOk E ρ lv) (hse:Settled E ρ) {t i:Nat} {f:Fd} {c:Cl} (ht:(rX ρ E.fm.fields.length)[t]?=some i) (hf:E.fm.fields[i]?=some f) (h3:f.kind=3) (hc:E.calls[i]?=some c) {kn:Env} (hk:(bZ E.fm.fields E.pol E.now E.inp ⟨E.calls,E.vals,[],E.last,[]⟩ ((rX ρ E.fm.fields.length).take t)).kn=kn) :
  ((pK kn f.src).k <= 3 -> c.st≠0 /\ c.key=pK kn f.src) /\ (¬ (pK kn f.src).k <= 3 -> c=clZ) /\ E.vals[i]?=some (mW (pK kn f.src) c) /\
   (bZ E.fm.fields E.pol E.now E.inp ⟨E.calls,E.vals,[],E.last,[]⟩ ((rX ρ E.fm.fields.length).take (t + 1))).kn=kn++[(f.name,mW (pK kn f.src) c)]:=by
 have htl:=(Nj.1 ht).1;have h1:=settled_fix hok hse t (by omega);have h2:=settled_fix hok hse (t + 1) (by omega);have hil:=(Nj.1 hf).1;have hcl:=hok.calls.len;have hvl:=hok.vlen;rw [runS_at _ _ _ _ _ _ t i ht] at h2 ⊢;rw [hk] at h1;rw [h1] at h2 ⊢;rw [oZ hf h3 hc rfl rfl] at h2 ⊢;simp only [Sst.mk.injEq] at h2;obtain ⟨a1,a2,-⟩:=h2;have b1:(E.calls.set i (bA E.pol (E.last + 1) E.now (pK kn f.src) c).1)[i]?=some c:=by rw [a1]; exact hc
 rw [Wq (by omega)] at b1;have b1:=Zj b1;have b2:E.vals[i]?=some (mW (pK kn f.src) (bA E.pol (E.last + 1) E.now (pK kn f.src) c).1):=by
  rw [<- Wq (l:=E.vals) (i:=i) (by omega)];exact Dj (λl:List Vl=>l[i]?) a2.symm
 rw [b1] at b2 ⊢;refine ⟨λq=>?_,λq=>?_,b2,rfl⟩
 ·have:=turn_key (p:=E.pol) (id:=E.last + 1) (now:=E.now) (c:=c) q
  rw [b1] at this;exact this
 ·rw [eAz q] at b1;exact b1.symm
theorem settled_one {E:Eg} {ρ:List Int} {lv:Nat -> Nat} (hok:EgOk E ρ lv) (hse:Settled E ρ) {t i:Nat} {f:Fd} (ht:(rX ρ E.fm.fields.length)[t]?=some i) (hf:E.fm.fields[i]?=some f) (h3:f.kind≠3) {kn:Env} (hk:(bZ E.fm.fields E.pol E.now E.inp ⟨E.calls,E.vals,[],E.last,[]⟩ ((rX ρ E.fm.fields.length).take t)).kn=kn) :
  E.vals[i]?=some (iX f E.inp [] kn) /\ (bZ E.fm.fields E.pol E.now E.inp ⟨E.calls,E.vals,[],E.last,[]⟩ ((rX ρ E.fm.fields.length).take (t + 1))).kn=kn++[(f.name,iX f E.inp [] kn)]:=by
 have htl:=(Nj.1 ht).1;have h1:=settled_fix hok hse t (by omega);have h2:=settled_fix hok hse (t + 1) (by omega);have hil:=(Nj.1 hf).1;have hvl:=hok.vlen;rw [runS_at _ _ _ _ _ _ t i ht] at h2 ⊢;rw [hk] at h1;rw [h1] at h2 ⊢;rw [stepS_one hf h3] at h2 ⊢;simp only [Sst.mk.injEq] at h2;obtain ⟨-,a2,-⟩:=h2;refine ⟨?_,rfl⟩;rw [<- Wq (l:=E.vals) (i:=i) (a:=iX f E.inp [] kn) (by omega)];exact Dj (λl:List Vl=>l[i]?) a2.symm
theorem oneV_nolook {f:Fd} (h:f.kind≠3) (inp:Env) (o1 o2:List Aw) (kn:Env):iX f inp o1 kn=iX f inp o2 kn:=by
 unfold iX;rw [Bj h,Bj h]
theorem lkup_ask {fs:List Fd} {cs:List Cl} {p:Pol} {i:Nat} {f:Fd} {c:Cl} {key:Vl} (hd:(fs.map (λf:Fd=>f.name)).Nodup) (hf:fs[i]?=some f) (hc:cs[i]?=some c) (hco:ClOk p c) (h1:key.k <= 3 -> c.st≠0 /\ c.key=key) (h2:¬ key.k <= 3 -> c=clZ):mW key c=askV (orcC fs cs) f.name key:=by
 unfold mW askV
 by_cases hk:key.k <= 3
 ·obtain ⟨a,b⟩:=h1 hk;have hb:=hco.live a;rw [Bj a,Cj hk,orcC_ask hd hf hc];have he:eqB c.key key=true:=eqB_iff.2 b
  by_cases hs:c.st=2\/c.st=3
  ·rw [Cj ⟨hs,he⟩]
  ·have s1:c.st=1:=by have:=hb.s1; have:=hb.s3; omega
   rw [Bj λq=>hs q.1];unfold ansC;rw [Bj (by omega),Bj (by omega)]
 ·rw [Bj hk,h2 hk,Cj rfl]
theorem orcC_has {fs:List Fd} {p:Pol} {last:Int} {cs:List Cl} (h:CallsOk fs p last cs):∀ q∈orcC fs cs,OkV q.has:=λq hq=>by
 obtain ⟨i,f,c,hf,hc,hs,rfl⟩:=orcC_mem hq;have hb:=(h.at_ i f c hf hc).1.live (by omega);show OkV (ansC c);unfold ansC
 by_cases s2:c.st=2
 ·rw [Cj s2]; exact .inl (hb.knw s2).1
 ·rw [Bj s2,Cj (by omega)]; exact .inr (.inr ⟨rfl,by decide,by decide,rfl⟩)
structure SolE (E:Eg):Prop where
 sol:Sol E.fm.fields E.inp (orcC E.fm.fields E.calls) E.vals
 ok:∀ x∈E.vals,OkV x
 call:∀ (i:Nat) (f:Fd) (c:Cl),E.fm.fields[i]?=some f -> f.kind=3 -> E.calls[i]?=some c -> ((pK (fcs E.fm.fields E.vals) f.src).k <= 3 -> c.st≠0 /\ c.key=pK (fcs E.fm.fields E.vals) f.src) /\ (¬ (pK (fcs E.fm.fields E.vals) f.src).k <= 3 -> c=clZ) /\ E.vals[i]?=some (mW (pK (fcs E.fm.fields E.vals) f.src) c)
theorem settled_all {E:Eg} {ρ:List Int} {lv:Nat -> Nat} (hok:EgOk E ρ lv) (hse:Settled E ρ) :
  (∀ t,t <= (rX ρ E.fm.fields.length).length -> (cZ E.fm.fields E.inp (orcC E.fm.fields E.calls) ((rX ρ E.fm.fields.length).take t)).2=(bZ E.fm.fields E.pol E.now E.inp ⟨E.calls,E.vals,[],E.last,[]⟩ ((rX ρ E.fm.fields.length).take t)).kn) /\
  E.vals=allW E.fm.fields E.inp (orcC E.fm.fields E.calls) (rX ρ E.fm.fields.length):=by
 have few:=hok.fm.fields.few;have one:=hok.one;have hod:Ordd E.fm.fields ρ lv (rX ρ E.fm.fields.length):=sX hok.fm.rank (by omega);have hoh:=orcC_has hok.calls;have hat:∀ (t i:Nat) (f:Fd) (kn:Env),(rX ρ E.fm.fields.length)[t]?=some i -> E.fm.fields[i]?=some f -> (bZ E.fm.fields E.pol E.now E.inp ⟨E.calls,E.vals,[],E.last,[]⟩ ((rX ρ E.fm.fields.length).take t)).kn=kn -> E.vals[i]?=some (iX f E.inp (orcC E.fm.fields E.calls) kn) /\ (bZ E.fm.fields E.pol E.now E.inp ⟨E.calls,E.vals,[],E.last,[]⟩ ((rX ρ E.fm.fields.length).take (t + 1))).kn=kn++[(f.name,iX f E.inp (orcC E.fm.fields E.calls) kn)]:=λt i f kn ht hf hk=>by
  by_cases h3:f.kind=3
  ·obtain ⟨c,hc⟩:∃ c,E.calls[i]?=some c:=⟨_,Fj (by rw [hok.calls.len]; exact (Nj.1 hf).1)⟩;obtain ⟨a1,a2,a3,a4⟩:=settled_turn hok hse ht hf h3 hc hk;have e:iX f E.inp (orcC E.fm.fields E.calls) kn=mW (pK kn f.src) c:=by
    unfold iX;rw [Bj (by omega),Cj h3];exact (lkup_ask hok.fm.fields.nodup hf hc (hok.calls.at_ i f c hf hc).1 a1 a2).symm
   rw [e];exact ⟨a3,a4⟩
  ·rw [oneV_nolook h3 E.inp _ []];exact settled_one hok hse ht hf h3 hk
 have hkn:∀ t,t <= (rX ρ E.fm.fields.length).length -> (cZ E.fm.fields E.inp (orcC E.fm.fields E.calls) ((rX ρ E.fm.fields.length).take t)).2=(bZ E.fm.fields E.pol E.now E.inp ⟨E.calls,E.vals,[],E.last,[]⟩ ((rX ρ E.fm.fields.length).take t)).kn:=λt=>by
  induction t with
  | zero=>intro _; rfl
  | succ t ih =>
   intro ht;obtain ⟨i,hti⟩:∃ i,(rX ρ E.fm.fields.length)[t]?=some i:=⟨_,Fj (by omega)⟩;obtain ⟨f,hf⟩:∃ f,E.fm.fields[i]?=some f:=⟨_,Fj (hod.lt (Ej hti))⟩;have ih:=ih (by omega);rw [run_at _ _ _ _ t i hti f hf,(hat t i f _ hti hf rfl).2,ih]
 refine ⟨hkn,?_⟩;have hI:=run_inv hok.fm.fields hok.ki hoh hod (rX ρ E.fm.fields.length).length (Ij _);rw [Pk] at hI;refine Pq λi=>?_;rcases Xq i E.fm.fields.length with q | q
 ·obtain ⟨f,hf⟩:∃ f,E.fm.fields[i]?=some f:=⟨_,Fj q⟩;obtain ⟨t,ht⟩:=Xk (hod.perm.mem_iff.2 (Qk.2 q));obtain ⟨x,x1,-,x3⟩:=hI.at_ i (hod.perm.mem_iff.2 (Qk.2 q)) f hf;have htl:=(Nj.1 ht).1;have hT:=run_inv hok.fm.fields hok.ki hoh hod t (by omega);obtain ⟨m,hm⟩:=runW_pre E.fm.fields E.inp (orcC E.fm.fields E.calls) (rX ρ E.fm.fields.length) t;have h1:=(hat t i f _ ht hf rfl).1;rw [<- hkn t (by omega)] at h1;rw [h1];show _=(cZ _ _ _ _).1[i]?;rw [x1,x3];refine Dj some (oneV_congr λhk s hs=>?_);obtain ⟨j,g,g1,g2,g3⟩:=tY hok.fm.fields hf hk hs;obtain ⟨y,-,y2,-⟩:=hT.at_ j (hod.ahead ht j g3) g g1;rw [<- g2,y2,hm,get_app y2]
 ·rw [Jq (by rw [hok.vlen]; exact q),Jq (by show (cZ _ _ _ _).1.length <= i; rw [hI.len]; exact q)]
theorem settled_sol {E:Eg} {ρ:List Int} {lv:Nat -> Nat} (hok:EgOk E ρ lv) (hse:Settled E ρ):SolE E:=by
 have few:=hok.fm.fields.few;have one:=hok.one;have hod:Ordd E.fm.fields ρ lv (rX ρ E.fm.fields.length):=sX hok.fm.rank (by omega);have hoh:=orcC_has hok.calls;obtain ⟨hkn,hv⟩:=settled_all hok hse;obtain ⟨s1,s2⟩:=all_sol hok.fm.fields hok.ki hoh hod;rw [<- hv] at s1 s2;refine ⟨s1,s2,λi f c hf h3 hc=>?_⟩;obtain ⟨t,ht⟩:=Xk (hod.perm.mem_iff.2 (Qk.2 (Nj.1 hf).1));have htl:=(Nj.1 ht).1;obtain ⟨a1,a2,a3,-⟩:=settled_turn hok hse ht hf h3 hc rfl;have e:=(ev_turn hok.fm.fields hok.ki hoh hod ht hf (by omega)).1;rw [hkn t (by omega), <- hv] at e;rw [e] at a1 a2 a3;exact ⟨a1,a2,a3⟩
end Go.Proofs.YthgcgciceejicaaGreatDoor
