/-
  Contracts of package engine: Copy, numbers, calls, done.
-/
import Derived.Test.YthgcgciceejicaaGreatDoorZT42
import Derived.Test.YthgcgciceejicaaGreatDoorZT44
import Derived.Test.YthgcgciceejicaaGreatDoorZT45
set_option maxHeartbeats 2000000
set_option maxRecDepth 100000
namespace Go.Proofs.YthgcgciceejicaaGreatDoor
open Go.RowKit
set_option linter.unusedVariables false
def agJ (i:Nat):Value -> Value
 | .agg vs=>vs.getD i undef
 | _=>undef
theorem shCopy_any (f:Fm) (ρ:List Int) (lv:Nat -> Nat) (hok:OkFm f ρ lv) (fv pv:Value) (h:Vw) (hf:IsForm h fv pv f) :
  C0 Tryz.prog 43 #[.agg #[fv,pv]] h (λr h'=>∃ u,r=.agg #[sL (agJ 0 u),sL (agJ 1 u)] /\ IsForm h' (sL (agJ 0 u)) (sL (agJ 1 u)) f):=by
 obtain ⟨hs1,hs2⟩:=hok.small;have few:=hok.fields.few;have hm:=hok.pages.few;have hF:=λv H q=>fdCopy_any f.fields v H q hs1 (by omega);have hP:=λv H q=>pgCopy_any f.pages v H q hs2 (λp hp=>by have:=hok.pages.fl p hp; omega) (by omega);obtain ⟨vs,A,c,rfl,-,-,-,-,-,-⟩:=bQ hf.fields;obtain ⟨us,ws,B,d,rfl,-,-,-,-,-,-⟩:=oX hf.pages;generalize f.fields.length=n at *;generalize f.pages.length=m at *;refine pQ Tryz.func43 λhbx hbad Q hQ=>?_;refine go2 7 [.own,.own] [] ?_;intro b1 b2;refine fV 8 0 [.pu,.ld 1 0,.f (λgh=>sL (gh 2)) (λgh hh=>IsFds hh (sL (gh 2)) f.fields),.pu,.ld 1 1,.f (λgh=>sL (gh 5)) (λgh hh=>IsPgs hh (sL (gh 5)) f.pages),.pu,.st 0 0] [(2,false),(5,false)] (Aj (λ_ _ _ s c=>c.sees s) (Aj (λ_ _ _ s c=>c.sees s) (trivial))) ?_ ?_
 ·intro R hT hA hmono;refine Aj (vX hT hA hmono 5 (λu=>sL u) [1] 2 92 (λgh=>#[.slice A n c]) (λgh H sH fH lent=>C0.facts (R:=R) (x:=gh) (i:=2) (n:=0) (F:=(λu=>sL u)) (G:=λu hh=>IsFds hh (sL u) f.fields) (f:=λgh hh=>IsFds hh (sL (gh 2)) f.fields) (hF _ _ ((hf.sees sH)).fields) (by kernel_rfl) (by kernel_rfl) (λ_ _ r=>r))) ?_;refine Aj (vX hT hA hmono 8 (λu=>sL u) [2,4] 5 93 (λgh=>#[.slice B m d]) (λgh H sH fH lent=>C0.facts (R:=R) (x:=gh) (i:=5) (n:=1) (F:=(λu=>sL u)) (G:=λu hh=>IsPgs hh (sL u) f.pages) (f:=λgh hh=>IsPgs hh (sL (gh 5)) f.pages) (hP _ _ ((hf.sees sH)).pages) (by kernel_rfl) (by kernel_rfl) (λ_ _ r=>r))) ?_
  trivial
 rintro u5 u8 W3 S4 ⟨f5,f8,-⟩;replace f5:IsFds W3 (sL u5) f.fields:=f5;replace f8:IsPgs W3 (sL u8) f.pages:=f8;refine go0 2 [] [] ?_;refine hQ.to [.agg #[sL u5,sL u8]] (λH sH=>?_) (ix:=[0]);exact ⟨.agg #[u5,u8],rfl,(f5.sees sH),(f8.sees sH)⟩
structure Eg where
 fm:Fm
 pol:Pol
 inp:Env
 calls:List Cl
 vals:List Vl
 now:Int
 last:Int
abbrev eL (u:Value) (E:Eg):List Value:=[sL (agJ 0 u),sL (agJ 1 u),Vi E.pol.t,Vi E.pol.b,Vi E.pol.c,sL (agJ 2 u),sL (agJ 3 u),sL (agJ 4 u),Vi E.now,Vi E.last]
abbrev eA (u:Value) (E:Eg):Array Value:=#[sL (agJ 0 u),sL (agJ 1 u),Vi E.pol.t,Vi E.pol.b,Vi E.pol.c,sL (agJ 2 u),sL (agJ 3 u),sL (agJ 4 u),Vi E.now,Vi E.last]
structure IsEng (h:Vw) (u:Value) (E:Eg):Prop where
 form:IsForm h (sL (agJ 0 u)) (sL (agJ 1 u)) E.fm
 inp:RS h 7 (sL (agJ 2 u)) (wK E.inp)
 calls:RS h 10 (sL (agJ 3 u)) (fK E.calls)
 vals:RS h 3 (sL (agJ 4 u)) (lZ E.vals)
theorem IsEng.sees {h h':Vw} {u:Value} {E:Eg} (k:IsEng h u E) (s:Sees h h'):IsEng h' u E:=⟨k.form.sees s,k.inp.sees s,k.calls.sees s,k.vals.sees s⟩
structure EgOk (E:Eg) (ρ:List Int) (lv:Nat -> Nat):Prop where
 fm:OkFm E.fm ρ lv
 one:1 <= E.fm.fields.length
 pol:E.pol.ok
 ki:∀ q∈E.inp,q.2.known
 k0:∀ q∈E.inp,fZ E.fm.fields q.1 q.2.k=0
 once:(E.inp.map (·.1)).Nodup
 li:E.inp.length <= 100
 calls:CallsOk E.fm.fields E.pol E.last E.calls
 vlen:E.vals.length=E.fm.fields.length
 n0:0 <= E.now
 n1:E.now <= 1073741824
 l0:0 <= E.last
 l1:E.last <= 1073741810
theorem EgOk.ti {E:Eg} {ρ:List Int} {lv:Nat -> Nat} (h:EgOk E ρ lv):factsV E.fm.fields [] E.inp=0:=factsV_ok _ _ [] h.k0 h.once
def CopR (E:Eg) (v:Value) (Bo:List Ent) (H:Vw):Prop:=∃ u,v=.agg #[sL (agJ 0 u),sL (agJ 1 u),Vi E.pol.t,Vi E.pol.b,Vi E.pol.c,sL (agJ 2 u),sL (agJ 3 u),sL (agJ 4 u),Vi E.now,Vi E.last] /\ Bo=[.row (sL (agJ 2 u)) 122 7 (wK E.inp),.row (sL (agJ 3 u)) 130 10 (fK E.calls),.row (sL (agJ 4 u)) 44 3 (lZ E.vals)] /\ IsForm H (sL (agJ 0 u)) (sL (agJ 1 u)) E.fm
theorem engCopy_con (E:Eg) (ρ:List Int) (lv:Nat -> Nat) (hok:EgOk E ρ lv) (w:Value) (h:Vw) (hE:IsEng h w E) :
  ConE Tryz.prog 49 #[.agg #[sL (agJ 0 w),sL (agJ 1 w),Vi E.pol.t,Vi E.pol.b,Vi E.pol.c,sL (agJ 2 w),sL (agJ 3 w),sL (agJ 4 w),Vi E.now,Vi E.last]] h [] (CopR E):=by
 have few:=hok.fm.fields.few;have hcl:=hok.calls.len;have hvl:=hok.vlen;have hli:=hok.li;have hS:=λfv pv H q=>shCopy_any E.fm ρ lv hok.fm fv pv H q;have h1:=λv H q=>c_cloneFt (h:=H) (v:=v) (l:=E.inp) q (by omega);have h2:=λv H q=>c_cloneCl (h:=H) (v:=v) (l:=E.calls) q (by omega);have h3:=λv H q=>c_cloneVl (h:=H) (v:=v) (l:=E.vals) q (by omega);refine g_conE Tryz.func49 λhbad Q hQ=>?_;refine go2 10 [.own,.own,.b 1 0] [] ?_;intro b1 b2;refine kQ (λH sH=>hS _ _ _ ((hE.sees sH)).form) ?_; rintro _ W3 S4 ⟨uc,rfl,hfc⟩;refine go0 5 [.b 1 0] [] ?_;refine fV 15 3 [.pu,.ld 4 5,.e (λgh=>sL (gh 2)) 0 (λgh=>.row (sL (gh 2)) 122 7 (wK E.inp)),.pu,.ld 4 6,.e (λgh=>sL (gh 5)) 1 (λgh=>.row (sL (gh 5)) 130 10 (fK E.calls)),.pu,.ld 4 7,.e (λgh=>sL (gh 8)) 2 (λgh=>.row (sL (gh 8)) 44 3 (lZ E.vals)),.pu,.st 4 5,.pu,.st 4 6,.pu,.st 4 7] [(2,false),(5,false),(8,false)] (trivial) ?_ ?_
 ·intro R hT hA hmono;refine Aj (r_callown hT hA hmono ⟨λ_ _=>by kernel_rfl,λ_ _=>by kernel_rfl,λ_ _=>by kernel_rfl⟩ (by kernel_rfl) 9 (λu=>sL u) [1] 2 (by kernel_rfl) (λ_=>by kernel_rfl) 0 (GN R 0) (by kernel_rfl) (by kernel_rfl) (by kernel_rfl) 122 7 (λgh=>wK E.inp) (λ_=>by kernel_rfl) (λ_=>by kernel_rfl) (λ_ _=>rfl) 101 (λgh=>#[sL (agJ 2 w)]) (λ_ _=>by kernel_rfl) (λgh H sH fH=>h1 _ _ ((hE.sees (S4.trans sH))).inp)) ?_;refine Aj (r_callown hT hA hmono ⟨λ_ _=>by kernel_rfl,λ_ _=>by kernel_rfl,λ_ _=>by kernel_rfl⟩ (by kernel_rfl) 12 (λu=>sL u) [2,4] 5 (by kernel_rfl) (λ_=>by kernel_rfl) 1 (GN R 1) (by kernel_rfl) (by kernel_rfl) (by kernel_rfl) 130 10 (λgh=>fK E.calls) (λ_=>by kernel_rfl) (λ_=>by kernel_rfl) (λ_ _=>rfl) 102 (λgh=>#[sL (agJ 3 w)]) (λ_ _=>by kernel_rfl) (λgh H sH fH=>h2 _ _ ((hE.sees (S4.trans sH))).calls)) ?_;refine Aj (r_callown hT hA hmono ⟨λ_ _=>by kernel_rfl,λ_ _=>by kernel_rfl,λ_ _=>by kernel_rfl⟩ (by kernel_rfl) 15 (λu=>sL u) [5,7] 8 (by kernel_rfl) (λ_=>by kernel_rfl) 2 (GN R 2) (by kernel_rfl) (by kernel_rfl) (by kernel_rfl) 44 3 (λgh=>lZ E.vals) (λ_=>by kernel_rfl) (λ_=>by kernel_rfl) (λ_ _=>rfl) 103 (λgh=>#[sL (agJ 4 w)]) (λ_ _=>by kernel_rfl) (λgh H sH fH=>h3 _ _ ((hE.sees (S4.trans sH))).vals)) ?_
  trivial
 rintro u9 u12 u15 W5 S6 -;refine go0 8 [.b 4 0,.b 3 0] [] ?_;refine hQ.to [.agg #[sL (agJ 0 uc),sL (agJ 1 uc),Vi E.pol.t,Vi E.pol.b,Vi E.pol.c,sL u9,sL u12,sL u15,Vi E.now,Vi E.last]] [0,1,2] [.row (sL u9) 122 7 (wK E.inp),.row (sL u12) 130 10 (fK E.calls),.row (sL u15) 44 3 (lZ E.vals)] (λH sH=>?_) (ix:=[3]);exact ⟨.agg #[agJ 0 uc,agJ 1 uc,u9,u12,u15],rfl,rfl,(hfc.sees (S6.trans sH))⟩
theorem numbers_any (a0 a1 a2 a3 a4:Value) (p:Pol) (now last:Int) (h:Vw) (n0:0 <= now) (n1:now <= 1073741824) (l0:0 <= last) (l1:last <= 1073741810) :
  C0 Tryz.prog 95 #[.agg #[sL a0,sL a1,Vi p.t,Vi p.b,Vi p.c,sL a2,sL a3,sL a4,Vi now,Vi last]] h (λr _=>r=.bool true):=by
 refine pQ Tryz.func95 λhbx hbad Q hQ=>?_;refine go1 30 [.own,.b 0 8,.b 0 8,.b 0 9,.b 0 9] [(5,.bool (decide (now ≥ 0)),.bool true),(9,.bool (decide (now <= 1073741824)),.bool true),(14,.bool (decide (last ≥ 0)),.bool true),(19,.bool (decide (last <= 1073741810)),.bool true)] ?_ (hc:=(Aj (Dj Value.bool (Jj n0)) (Aj (Dj Value.bool (Jj n1)) (Aj (Dj Value.bool (Jj l0)) (Aj (Dj Value.bool (Jj l1)) (trivial))))));intro b1;refine hQ.to [.bool true] (λH sH=>?_);exact rfl
theorem calls_any (E:Eg) (ρ:List Int) (lv:Nat -> Nat) (hok:EgOk E ρ lv) (w:Value) (h:Vw) (hE:IsEng h w E):C0 Tryz.prog 99 #[.agg #[sL (agJ 0 w),sL (agJ 1 w),Vi E.pol.t,Vi E.pol.b,Vi E.pol.c,sL (agJ 2 w),sL (agJ 3 w),sL (agJ 4 w),Vi E.now,Vi E.last]] h (λr _=>r=Vi 0):=by
 have few:=hok.fm.fields.few;have hcl:=hok.calls.len;have hvl:=hok.vlen;have hck:=λx (hx:ClOk E.pol x) H=>c_chk E.pol hok.pol x hx H;obtain ⟨vs,A,c,e0,-,-,hr4,hs4,hl4,-⟩:=bQ hE.form.fields;obtain ⟨A2,c2,e2,-,-,-⟩:=hE.calls.form;obtain ⟨A3,c3,e3,-,-,-⟩:=hE.vals.form;have hrc:=hE.calls;rw [e2] at hrc;rw [e0,e2,e3];have hca:=hok.calls.at_;rw [Ij] at *;rw [Ij] at *;rw [hcl] at hrc ⊢;rw [hvl];generalize hn:E.fm.fields.length=n at *;refine pQ Tryz.func99 λhbx hbad Q hQ=>?_;refine go1 42 [.own,.b 0 6,.b 0 0,.b 0 7,.b 0 0,.b 0 6] [(13,.bool ((n:Int) != (n:Int)),.bool false),(22,.bool ((n:Int) != (n:Int)),.bool false)] ?_ (hc:=(Aj (Dj Value.bool (by simp)) (Aj (Dj Value.bool (by simp)) (trivial))));intro b1;refine yQ [0,1,0,1,1] [.block 0,.seq [1,1,1]] (λ(k:Nat) X=>∃ (W2:Vw) ,X W2 [(1,Vp b1),(25,.slice A2 n c2),(26,Vi (n:Int)),(27,Vi (k:Int))] [.box b1 [.slice A n c,sL (agJ 1 w),Vi E.pol.t,Vi E.pol.b,Vi E.pol.c,sL (agJ 2 w),.slice A2 n c2,.slice A3 n c3,Vi E.now,Vi E.last]] [] /\ Sees h W2 /\ (k <= n)) (λk=>n - k) (0) (λX q=>⟨h,q _ _ _ _ ⟨rfl,by kernel_rfl⟩,Sees.refl _,Mj _⟩) ?_;rintro k a w ⟨W2,hJ,S3,hk⟩; refine dV hJ ?_; clear hJ a w;refine go0 6 [] [] ?_;rcases (by omega:k < n\/k=n) with hlt | hke
 ·obtain ⟨g,hg⟩:∃ g,E.fm.fields[k]?=some g:=⟨_,Gj (by omega)⟩;obtain ⟨x,hx⟩:∃ x,E.calls[k]?=some x:=⟨_,Gj (by omega)⟩;obtain ⟨u,hu⟩:∃ u,vs[k]?=some u:=⟨_,Gj (by omega)⟩;have hrow:=yK hg hu;have hrx:=clRows_get hx;obtain ⟨Au,nu,cu,rfl⟩:=(AllSrc.get hs4 hg hu).slice;obtain ⟨x1,x2,x3⟩:=hca k g x hg hx;have hck':=hck x x1;refine jV (t:=decide ((k:Int) < (n:Int))) (Jj (by omega)) ?_;refine go0 7 [] [] ?_;obtain ⟨b4,o5,rfl,-,c6⟩:=RS.row hrc (hrx);refine qQ (c6.sees S3) ?_;refine go1 13 [.ix b4 o5 n c2 k,.f 0 0,.own,.b 0 0,.b 0 0,.b 1 2] [] ?_ (ho:=(Aj (by first | omega | (simp; omega)) (trivial)));intro b7;refine go0 14 [.cl 104 #[.agg #[Vi x.st,Vi x.id,Vi x.tr,Vi x.key.k,Vi x.key.n,.string x.key.s,Vi x.has.k,Vi x.has.n,.string x.has.s,Vi x.nx],.agg #[Vi E.pol.t,Vi E.pol.b,Vi E.pol.c]] (Vi 0)] [] ?_ (ho:=(Aj (λH sH=>hck' _) (trivial)));obtain ⟨b8,o9,rfl,-,c10⟩:=RS.row hr4 (hrow);refine qQ (c10.sees S3) ?_;have c11:=RS.cell hr4 (hrow);refine qQ (c11.sees S3) ?_
  by_cases s0:x.st=0
  ·skip;have c8:=RS.cell hr4 (hrow)
   refine qQ (c8.sees S3) ?_;have c9:=RS.cell hr4 (hrow);refine qQ (c9.sees S3) ?_;refine fV 38 0 [.pu,.ld 0 0,.v (λgh=>.bool false),.pu,.ps,.ps,.ps,.ps,.ps,.ps,.ps,.ps,.ps,.ps,.ps,.ps,.ps,.ps,.ps,.ps,.ps,.ps,.ps,.ps,.ps,.ps,.ps,.ps,.ps,.ps,.ps,.ps,.ps,.ps,.ps,.ps,.ps,.pu] [] (by exact trivial) ?_ ?_
   ·intro R hT hA hmono;refine Aj (aZ hT hA (λgh=>.bool false) (λgh=>.bool (x.st != 0)) (λgh=>Dj Value.bool (Rk.2 s0))) ?_
    trivial
   rintro W10 S11 -;refine go0 9 [] [(77,Vi (IntKind.i64.wrap ((k:Int) + 1)),Vi ((k:Int) + 1))] ?_ (hc:=(Aj (jJ (by omega) (by omega)) (trivial)));exact iV (k + 1) (λX q=>⟨W10,q _ _ _ _ ⟨rfl,by kernel_rfl⟩,(S3.trans S11),by omega⟩)
  ·skip;obtain ⟨y1,y2⟩:=x2 s0
   by_cases s2:x.st=2
   ·skip;have c12:=RS.cell hr4 (hrow)
    refine qQ (c12.sees S3) ?_;have c13:=RS.cell hr4 (hrow);refine qQ (c13.sees S3) ?_;refine fV 38 0 [.pu,.ld 0 0,.v (λgh=>.bool true),.pu,.pu,.pu,.ld 1 0,.pu,.v (λgh=>.pointer (some ⟨b8,o9 + k * 9,none⟩)),.pu,.lf 0 1,.v (λgh=>.bool false),.pu,.pu,.ld 0 1,.pu,.ld 1 9,.v (λgh=>.bool false),.pu,.pu,.pu,.ld 0 0,.v (λgh=>.bool true),.pu,.pu,.pu,.ld 0 6,.pu,.pu,.ld 1 0,.pu,.v (λgh=>.pointer (some ⟨b8,o9 + k * 9,none⟩)),.pu,.lf 0 2,.v (λgh=>.bool false),.pu,.pu,.pu] [] (by exact trivial) ?_ ?_
    ·intro R hT hA hmono;refine Aj (aZ hT hA (λgh=>.bool true) (λgh=>.bool (x.st != 0)) (λgh=>Dj Value.bool (Hk.2 s0))) ?_;refine Aj (bZ hT hA b8 o9 n c k (λgh=>.pointer (some ⟨b8,o9 + k * 9,none⟩)) (by first | omega | (simp; omega))) ?_;refine Aj (aZ hT hA (λgh=>.bool false) (λgh=>.bool (g.kind != 3)) (λgh=>Dj Value.bool (Rk.2 y1))) ?_;refine Aj (aZ hT hA (λgh=>.bool false) (λgh=>.bool (decide (x.id > E.last))) (λgh=>Dj Value.bool (Kj (by omega)))) ?_;refine Aj (aZ hT hA (λgh=>.bool true) (λgh=>.bool (x.st == 2)) (λgh=>Dj Value.bool (Xj.2 s2))) ?_;refine Aj (bZ hT hA b8 o9 n c k (λgh=>.pointer (some ⟨b8,o9 + k * 9,none⟩)) (by first | omega | (simp; omega))) ?_;refine Aj (aZ hT hA (λgh=>.bool false) (λgh=>.bool (x.has.k != g.ty)) (λgh=>Dj Value.bool (Rk.2 (x3 s2)))) ?_
     trivial
    rintro W14 S15 -;refine go0 9 [] [(77,Vi (IntKind.i64.wrap ((k:Int) + 1)),Vi ((k:Int) + 1))] ?_ (hc:=(Aj (jJ (by omega) (by omega)) (trivial)));exact iV (k + 1) (λX q=>⟨W14,q _ _ _ _ ⟨rfl,by kernel_rfl⟩,(S3.trans S15),by omega⟩)
   ·skip;have c16:=RS.cell hr4 (hrow)
    refine qQ (c16.sees S3) ?_;have c17:=RS.cell hr4 (hrow);refine qQ (c17.sees S3) ?_;refine fV 38 0 [.pu,.ld 0 0,.v (λgh=>.bool true),.pu,.pu,.pu,.ld 1 0,.pu,.v (λgh=>.pointer (some ⟨b8,o9 + k * 9,none⟩)),.pu,.lf 0 1,.v (λgh=>.bool false),.pu,.pu,.ld 0 1,.pu,.ld 1 9,.v (λgh=>.bool false),.pu,.pu,.pu,.ld 0 0,.v (λgh=>.bool false),.pu,.ps,.ps,.ps,.ps,.ps,.ps,.ps,.ps,.ps,.ps,.ps,.pu,.pu,.pu] [] (by exact trivial) ?_ ?_
    ·intro R hT hA hmono;refine Aj (aZ hT hA (λgh=>.bool true) (λgh=>.bool (x.st != 0)) (λgh=>Dj Value.bool (Hk.2 s0))) ?_;refine Aj (bZ hT hA b8 o9 n c k (λgh=>.pointer (some ⟨b8,o9 + k * 9,none⟩)) (by first | omega | (simp; omega))) ?_;refine Aj (aZ hT hA (λgh=>.bool false) (λgh=>.bool (g.kind != 3)) (λgh=>Dj Value.bool (Rk.2 y1))) ?_;refine Aj (aZ hT hA (λgh=>.bool false) (λgh=>.bool (decide (x.id > E.last))) (λgh=>Dj Value.bool (Kj (by omega)))) ?_;refine Aj (aZ hT hA (λgh=>.bool false) (λgh=>.bool (x.st == 2)) (λgh=>Dj Value.bool (Lj.2 s2))) ?_
     trivial
    rintro W18 S19 -;refine go0 9 [] [(77,Vi (IntKind.i64.wrap ((k:Int) + 1)),Vi ((k:Int) + 1))] ?_ (hc:=(Aj (jJ (by omega) (by omega)) (trivial)));exact iV (k + 1) (λX q=>⟨W18,q _ _ _ _ ⟨rfl,by kernel_rfl⟩,(S3.trans S19),by omega⟩)
 ·skip;refine tQ (t:=decide ((k:Int) < (n:Int))) (Kj (by omega)) ?_
  refine go0 2 [] [] ?_;refine xQ ?_;refine go0 8 [] [] ?_;refine hQ.to [Vi 0] (λH sH=>?_);exact rfl
def DonR (S:Sst) (b:Nat) (pre:List Value) (slc slv:Value) (v:Value) (Bo:List Ent):Prop :=
 ∃ u,v=.tuple #[.agg (pre++[Value.int .i64 S.last]).toArray,sL u,Vi 0] /\ Bo=[.row (sL u) 57 8 (gW S.out),.box b (pre++[Vi S.last,sL u]),.row slc 130 10 (fK S.calls),.row slv 44 3 (lZ S.vals)]
theorem done_con (S:Sst) (b n:Nat) (A A2 A3:Option Addr) (c c2 c3:Nat) (gv iv lw0:Value) (p:Pol) (now last:Int) (n0:0 <= now) (n1:now <= 1073741824) (cls:List Cl) (vals:List Vl) (lt:List Lt) (h:Vw) (l0:0 <= S.last) (l1:S.last <= 1073741810)
  (hst:∀ H,Sees h H -> ConE Tryz.prog 94 #[.pointer (some ⟨b,0,none⟩)] H
   [.row (sL lw0) 57 8 (gW lt),.box b [.slice A n c,sL gv,Vi p.t,Vi p.b,Vi p.c,sL iv,.slice A2 n c2,.slice A3 n c3,Vi now,Vi last,sL lw0],.row (.slice A2 n c2) 130 10 (fK cls),.row (.slice A3 n c3) 44 3 (lZ vals)]
   (λv Bo _=>SetR S b [.slice A n c,sL gv,Vi p.t,Vi p.b,Vi p.c,sL iv,.slice A2 n c2,.slice A3 n c3,Vi now] (.slice A2 n c2) (.slice A3 n c3) v Bo)) :
  ConE Tryz.prog 44 #[.pointer (some ⟨b,0,none⟩)] h
   [.row (sL lw0) 57 8 (gW lt),.box b [.slice A n c,sL gv,Vi p.t,Vi p.b,Vi p.c,sL iv,.slice A2 n c2,.slice A3 n c3,Vi now,Vi last,sL lw0],.row (.slice A2 n c2) 130 10 (fK cls),.row (.slice A3 n c3) 44 3 (lZ vals)]
   (λv Bo _=>DonR S b [.slice A n c,sL gv,Vi p.t,Vi p.b,Vi p.c,sL iv,.slice A2 n c2,.slice A3 n c3,Vi now] (.slice A2 n c2) (.slice A3 n c3) v Bo):=by
 have hN:=λH=>numbers_any (.slice A n c) gv iv (.slice A2 n c2) (.slice A3 n c3) p now S.last H n0 n1 l0 l1;refine g_conE Tryz.func44 λhbad Q hQ=>?_;refine go1 10 [.own] [] ?_;intro b1;refine nQ (Bi:=[.row (sL lw0) 57 8 (gW lt),.box b [.slice A n c,sL gv,Vi p.t,Vi p.b,Vi p.c,sL iv,.slice A2 n c2,.slice A3 n c3,Vi now,Vi last,sL lw0],.row (.slice A2 n c2) 130 10 (fK cls),.row (.slice A3 n c3) 44 3 (lZ vals)]) [1,2,3,4] (λH sH=>hst H sH) ?_; rintro _ _ W2 S3 ⟨u,rfl,rfl⟩;refine go0 9 [.b 1 0] [] ?_;refine kQ (λH sH=>hN _) ?_; rintro _ W4 S5 rfl;refine go0 7 [] [] ?_;refine fV 11 0 [.pu,.pu,.pu,.ld 1 0,.pu,.pu,.pu,.ld 1 10,.st 4 0,.pu,.pu] [] (trivial) ?_ ?_
 ·intros; trivial
 rintro W6 S7 -;refine go0 2 [] [] ?_;refine hQ.to [.agg #[.slice A n c,sL gv,Vi p.t,Vi p.b,Vi p.c,sL iv,.slice A2 n c2,.slice A3 n c3,Vi now,Vi S.last],sL u,Vi 0] [0,1,2,3] [.row (sL u) 57 8 (gW S.out),.box b [.slice A n c,sL gv,Vi p.t,Vi p.b,Vi p.c,sL iv,.slice A2 n c2,.slice A3 n c3,Vi now,Vi S.last,sL u],.row (.slice A2 n c2) 130 10 (fK S.calls),.row (.slice A3 n c3) 44 3 (lZ S.vals)] (λH sH=>?_) (ix:=[4]);exact ⟨u,rfl,rfl⟩
def CopF (E:Eg) (n m:Nat) (v:Value) (Bo:List Ent) (H:Vw):Prop:=∃ (A:Option Addr) (c:Nat) (B:Option Addr) (d:Nat) (A1:Option Addr) (c1:Nat) (A2:Option Addr) (c2:Nat) (A3:Option Addr) (c3:Nat),
 v=.agg #[.slice A n c,.slice B m d,Vi E.pol.t,Vi E.pol.b,Vi E.pol.c,.slice A1 E.inp.length c1,.slice A2 n c2,.slice A3 n c3,Vi E.now,Vi E.last] /\
 Bo=[.row (.slice A1 E.inp.length c1) 122 7 (wK E.inp),.row (.slice A2 n c2) 130 10 (fK E.calls),.row (.slice A3 n c3) 44 3 (lZ E.vals)] /\ IsForm H (.slice A n c) (.slice B m d) E.fm
theorem engCopy_form (E:Eg) (ρ:List Int) (lv:Nat -> Nat) (hok:EgOk E ρ lv) (w:Value) (n m:Nat) (hn:E.fm.fields.length=n) (hm:E.fm.pages.length=m) (h:Vw) (hE:IsEng h w E):ConE Tryz.prog 49 #[.agg #[sL (agJ 0 w),sL (agJ 1 w),Vi E.pol.t,Vi E.pol.b,Vi E.pol.c,sL (agJ 2 w),sL (agJ 3 w),sL (agJ 4 w),Vi E.now,Vi E.last]] h [] (CopF E n m):=by
 intro a1 a2 a3 a4;refine (engCopy_con E ρ lv hok w h hE a1 a2 a3 a4).mono ?_;rintro en w' ⟨v,Bo,e1,e2,e3,e4,e5,u,rfl,rfl,hf⟩;obtain ⟨A1,c1,q1,-,-⟩:=gY (e3 _ (Zk ..));obtain ⟨A2,c2,q2,-,-⟩:=gY (e3 _ (Gk _ (Zk ..)));obtain ⟨A3,c3,q3,-,-⟩:=gY (e3 _ (Gk _ (Gk _ (Zk ..))));obtain ⟨vs,A,c,q4,-,-,-,-,-,-⟩:=bQ hf.fields;obtain ⟨us,ws,B,d,q5,-,-,-,-,-,-⟩:=oX hf.pages;rw [Ij] at q1 q2 q3;rw [hok.calls.len,hn] at q2;rw [hok.vlen,hn] at q3;rw [hn] at q4;rw [hm] at q5;rw [q1,q2,q3] at e3 e4 e5 hf;rw [q4,q5] at hf;refine ⟨_,_,e1,e2,e3,e4,e5,A,c,B,d,A1,c1,A2,c2,A3,c3,?_,rfl,hf⟩;rw [q1,q2,q3,q4,q5]
def Settled (E:Eg) (ρ:List Int):Prop:=∃ kn,jY E.fm.fields E.pol E.now E.inp ⟨E.calls,E.vals,[],E.last,[]⟩ (iX ρ E.fm.fields.length)=⟨E.calls,E.vals,kn,E.last,[]⟩
theorem egCheck_any (E:Eg) (ρ:List Int) (lv:Nat -> Nat) (hok:EgOk E ρ lv) (hse:Settled E ρ) (w:Value) (h:Vw) (hE:IsEng h w E):C0 Tryz.prog 47 #[.agg #[sL (agJ 0 w),sL (agJ 1 w),Vi E.pol.t,Vi E.pol.b,Vi E.pol.c,sL (agJ 2 w),sL (agJ 3 w),sL (agJ 4 w),Vi E.now,Vi E.last]] h (λr _=>r=Vi 0):=by
 have few:=hok.fm.fields.few;have hli:=hok.li;have hl1:=hok.l1;obtain ⟨kn,hkn⟩:=hse;have hcp:=λH q=>engCopy_form E ρ lv hok w _ _ rfl rfl H q;have hca:=λH q=>calls_any E ρ lv hok w H q;have hnm:=λa0 a1 a2 a3 a4 H=>numbers_any a0 a1 a2 a3 a4 E.pol E.now E.last H hok.n0 hok.n1 hok.l0 hok.l1;have hse:=λb A A2 A3 c c2 c3 gv iv lw0 H q1 q2=>settle_con E.fm ρ lv hok.fm b E.fm.fields.length A A2 A3 c c2 c3 gv iv lw0 E.pol hok.pol E.now E.last hok.n0 hok.n1 hok.l0 (by omega) E.calls E.vals [] E.inp H q1 rfl hok.one hok.calls hok.vlen q2 hok.ki (by omega) (by simp);rw [hkn] at hse;have hgc:=c_gapChk E.pol hok.pol;obtain ⟨vs,A,c,e0,-,-,-,-,-,-⟩:=bQ hE.form.fields;obtain ⟨us,ws,B,d,e1,-,-,-,-,-,-⟩:=oX hE.form.pages;have hsc:=λH q=>shCheck_any E.fm ρ lv A E.fm.fields.length c B E.fm.pages.length d H hok.fm q rfl;have hfa:=λH q1 q2=>facts_v E.fm.fields (.slice A E.fm.fields.length c) (.slice B E.fm.pages.length d) E.inp (sL (agJ 2 w)) H q1 rfl (by omega) q2 (by omega) hok.ki;rw [hok.ti] at hfa;have hfm:=hE.form;have hin:=hE.inp;have hcl:=hE.calls;have hvl:=hE.vals;rw [e0,e1] at hfm hcp hca ⊢;generalize hn:E.fm.fields.length=n at *;generalize hm:E.fm.pages.length=m at *;refine pQ Tryz.func47 λhbx hbad Q hQ=>?_;refine go1 8 [.own] [] ?_;intro b1;refine fV 15 0 [.pu,.ld 0 0,.v (λgh=>Vi 0),.pu,.ld 0 2,.v (λgh=>Vi 0),.pu,.ld 0 0,.pu,.ld 0 5,.v (λgh=>Vi 0),.ld 0 0,.v (λgh=>Vi 0),.pu,.pu] [] (trivial) ?_ ?_
 ·intro R hT hA hmono;refine Aj (t_v hT hA hmono (k:=41) (args:=(λgh=>#[.agg #[.slice A n c,.slice B m d]])) (f:=λgh=>Vi 0) (λgh H sH fH lent=>hsc _ (hfm.sees sH))) ?_;refine Aj (t_v hT hA hmono (k:=42) (args:=(λgh=>#[.agg #[Vi E.pol.t,Vi E.pol.b,Vi E.pol.c]])) (f:=λgh=>Vi 0) (λgh H sH fH lent=>hgc _)) ?_;refine Aj (t_v hT hA hmono (k:=98) (args:=(λgh=>#[.agg #[.slice A n c,.slice B m d],sL (agJ 2 w)])) (f:=λgh=>Vi 0) (λgh H sH fH lent=>hfa _ ((hfm.sees sH)).fields (hin.sees sH))) ?_;refine Aj (t_v hT hA hmono (k:=99) (args:=(λgh=>#[.agg #[.slice A n c,.slice B m d,Vi E.pol.t,Vi E.pol.b,Vi E.pol.c,sL (agJ 2 w),sL (agJ 3 w),sL (agJ 4 w),Vi E.now,Vi E.last]])) (f:=λgh=>Vi 0) (λgh H sH fH lent=>hca _ (hE.sees sH))) ?_
  trivial
 rintro W2 S3 -;refine go0 2 [] [] ?_;refine yQ [0,1,0,1] [.block 0,.seq [1,1]] (λ(k:Nat) X=>∃ (W4:Vw) ,X W4 [(1,Vp b1),(19,.agg #[Vi 0,Vi 0,Vi 0,Vi 0]),(20,Vi (k:Int))] [.box b1 [.slice A n c,.slice B m d,Vi E.pol.t,Vi E.pol.b,Vi E.pol.c,sL (agJ 2 w),sL (agJ 3 w),sL (agJ 4 w),Vi E.now,Vi E.last]] [] /\ Sees W2 W4 /\ (k <= 4)) (λk=>4 - k) (0) (λX q=>⟨W2,q _ _ _ _ ⟨rfl,by kernel_rfl⟩,Sees.refl _,Mj _⟩) ?_;rintro k a w ⟨W4,hJ,S5,hk⟩; refine dV hJ ?_; clear hJ a w;refine go0 6 [] [] ?_;rcases (by omega:k < 4\/k=4) with hlt | hke
 ·skip;refine jV (t:=decide ((k:Int) < 4)) (Jj (by omega)) ?_
  refine go0 6 [] [] ?_;refine eV (Vi 0) (λw=>by rcases (by omega:k=0\/k=1\/k=2\/k=3) with rfl | rfl | rfl | rfl <;> kernel_rfl) ?_;refine go0 17 [] [(26,Vi (IntKind.i64.wrap ((k:Int) + 1)),Vi ((k:Int) + 1))] ?_ (hc:=(Aj (jJ (by omega) (by omega)) (trivial)));exact iV (k + 1) (λX q=>⟨W4,q _ _ _ _ ⟨rfl,by kernel_rfl⟩,S5,by omega⟩)
 ·skip;refine tQ (t:=decide ((k:Int) < 4)) (Kj (by omega)) ?_
  refine go0 2 [] [] ?_;refine xQ ?_;refine go0 16 [.b 0 0,.cl 95 #[.agg #[.slice A n c,.slice B m d,Vi E.pol.t,Vi E.pol.b,Vi E.pol.c,sL (agJ 2 w),sL (agJ 3 w),sL (agJ 4 w),Vi E.now,Vi E.last]] (.bool true),.b 0 0] [] ?_ (ho:=(Aj (λH sH=>hnm (.slice A n c) (.slice B m d) (agJ 2 w) (agJ 3 w) (agJ 4 w) _) (trivial)));refine nQ (Bi:=[]) [] (λH sH=>hcp _ (hE.sees (S3.trans (S5.trans sH)))) ?_; rintro _ _ W6 S7 ⟨A',c',B',d',A1,c1,A2,c2,A3,c3,rfl,rfl,hfu⟩;refine go1 8 [.own] [] ?_;intro bm;refine vQ 1 (v:=.slice A1 E.inp.length c1) (e:=122) (kk:=7) (l:=wK E.inp) ?_; intro W8 S9 fri;refine cV 57 8 ?_;refine nQ (Bi:=[.row (Vz) 57 8 ([]),.box bm [.slice A' n c',.slice B' m d',Vi E.pol.t,Vi E.pol.b,Vi E.pol.c,.slice A1 E.inp.length c1,.slice A2 n c2,.slice A3 n c3,Vi E.now,Vi E.last,Vz],.row (.slice A2 n c2) 130 10 (fK E.calls),.row (.slice A3 n c3) 44 3 (lZ E.vals)]) [0,1,2,3] (λH sH=>hse _ _ _ _ _ _ _ (.slice B' m d') (.slice A1 E.inp.length c1) (Vz) _ ((hfu.sees (S9.trans sH))).fields (fri.sees sH)) ?_; rintro _ _ W10 S11 ⟨ul,rfl,rfl⟩;refine go0 4 [] [] ?_;refine uQ 0 (v:=sL ul) (e:=57) (kk:=8) (l:=gW []) ?_; intro Al cl hE_ul hc_ul hm_ul;rw [show (gW []).length=0 from by first | omega | (simp; done) | (simp; omega)] at hE_ul hc_ul;rw [hE_ul];refine fV 28 0 [.pu,.pu,.pu,.ld 1 10,.pu,.pu,.pu,.pu,.pu,.pu,.pu,.ld 1 6,.pu,.ld 4 6,.v (λgh=>.bool true),.pu,.pu,.pu,.pu,.pu,.pu,.pu,.ld 1 7,.pu,.ld 4 7,.v (λgh=>.bool true),.pu,.pu] [] (trivial) ?_ ?_
  ·intro R hT hA hmono;refine Aj (r_callq hT hA hmono 50 (λgh=>.bool true) [6,11,13] 14 (by kernel_rfl) (by kernel_rfl) (by kernel_rfl) (λ_=>by kernel_rfl) 2 (GN R 2) (by kernel_rfl) (by kernel_rfl) (λgh=>.slice A2 n c2) 130 10 (fK E.calls) (λ_=>by kernel_rfl) 100 (λgh=>#[.slice A2 n c2,sL (agJ 3 w)]) (λ_ _=>by kernel_rfl) (λgh H bH sH fH rQ=>c_equalCl rQ (hcl.sees (S3.trans (S5.trans (S7.trans (S9.trans (S11.trans sH)))))) (by have:=hok.calls.len; omega))) ?_;refine Aj (r_callq hT hA hmono 61 (λgh=>.bool true) [17,22,24] 25 (by kernel_rfl) (by kernel_rfl) (by kernel_rfl) (λ_=>by kernel_rfl) 3 (GN R 3) (by kernel_rfl) (by kernel_rfl) (λgh=>.slice A3 n c3) 44 3 (lZ E.vals) (λ_=>by kernel_rfl) 19 (λgh=>#[.slice A3 n c3,sL (agJ 4 w)]) (λ_ _=>by kernel_rfl) (λgh H bH sH fH rQ=>c_equalVl rQ (hvl.sees (S3.trans (S5.trans (S7.trans (S9.trans (S11.trans sH)))))) (by have:=hok.vlen; omega))) ?_
   trivial
  rintro W12 S13 -;refine go0 10 [] [] ?_;refine hQ.to [Vi 0] (λH sH=>?_);exact rfl
def putV (s:ByteArray) (v:Vl):Env -> Env
 | []=>[(s,v)]
 | p :: l=>if (p.1.toList == s.toList)=true then (p.1,v) :: l else p :: putV s v l
theorem putV_mem {s:ByteArray} {v:Vl}:∀ {l:Env} {p:ByteArray × Vl},p∈putV s v l -> p∈l\/(p.1=s /\ p.2=v)
 | [],p,h=>by rw [Pj.1 h]; exact .inr ⟨rfl,rfl⟩
 | q :: l,p,h=>by
  rw [putV] at h
  split at h
  ·rename_i hq;rw [tl_dec,decide_eq_true_iff] at hq;rcases Tj.1 h with rfl | h
   ·exact .inr ⟨hq,rfl⟩
   ·exact .inl (Gk _ h)
  ·rcases Tj.1 h with rfl | h
   ·exact .inl (Zk ..)
   ·exact (putV_mem h).imp (Gk _) id
theorem putV_len {s:ByteArray} {v:Vl}:∀ {l:Env},(putV s v l).length <= l.length + 1
 | []=>Hj _
 | q :: l=>by
  rw [putV]
  split
  ·exact Nat.le_succ _
  ·exact Nat.succ_le_succ (putV_len (l:=l))
theorem putV_names {s:ByteArray} {v:Vl}:∀ {l:Env},(putV s v l).map (·.1)=l.map (·.1)\/(putV s v l).map (·.1)=l.map (·.1)++[s] /\ s ∉ l.map (·.1)
 | []=>.inr ⟨rfl,by simp⟩
 | q :: l=>by
  rw [putV]
  split
  ·exact .inl rfl
  ·rename_i hq;rw [tl_dec,decide_eq_true_iff] at hq;rcases putV_names (s:=s) (v:=v) (l:=l) with e | ⟨e,hn⟩
   ·exact .inl (by rw [Ik,e]; rfl)
   ·refine .inr ⟨by rw [Ik,e]; rfl,λhm=>?_⟩;rcases Tj.1 hm with h | h
    ·exact hq h.symm
    ·exact hn h
theorem putV_once {s:ByteArray} {v:Vl} {l:Env} (h:(l.map (·.1)).Nodup):((putV s v l).map (·.1)).Nodup:=by
 rcases putV_names (s:=s) (v:=v) (l:=l) with e | ⟨e,hn⟩
 ·rw [e]; exact h
 ·rw [e];exact Dq.2 ⟨h,by simp,λa ha b hb q=>by rw [Pj.1 hb] at q; exact hn (q ▸ ha)⟩
def nY (E:Eg) (ρ:List Int):Sst:=jY E.fm.fields E.pol E.now E.inp ⟨E.calls,E.vals,[],E.last,[]⟩ (iX ρ E.fm.fields.length)
def oY (E:Eg) (ρ:List Int):Eg:={ E with calls:=(nY E ρ).calls,vals:=(nY E ρ).vals,last:=(nY E ρ).last }
theorem setE_run {E:Eg} {ρ:List Int} {lv:Nat -> Nat} (hok:EgOk E ρ lv):RunS E.fm.fields E.pol E.now E.inp ⟨E.calls,E.vals,[],E.last,[]⟩ (iX ρ E.fm.fields.length) (nY E ρ):=by
 have few:=hok.fm.fields.few;have one:=hok.one;have hl:=hok.l1;have hod:Ordd E.fm.fields ρ lv (iX ρ E.fm.fields.length):=jX hok.fm.rank (by omega);have h:=runS_inv (s0:=⟨E.calls,E.vals,[],E.last,[]⟩) (os:=iX ρ E.fm.fields.length) hok.pol hok.fm.fields hok.ki hok.n0 hok.n1 hok.calls hok.vlen rfl hok.l0 (by rw [hod.len]; show E.last + _ <= _; omega) (λi q=>hod.lt q) _ (Hj _);rw [Pk] at h;exact h
theorem settE_ok {E:Eg} {ρ:List Int} {lv:Nat -> Nat} (hok:EgOk E ρ lv) (hl:(nY E ρ).last <= 1073741810):EgOk (oY E ρ) ρ lv:=by
 have R:=setE_run hok;have h0:=hok.l0;have h1:=R.lo;simp only at h1;exact ⟨hok.fm,hok.one,hok.pol,hok.ki,hok.k0,hok.once,hok.li,R.calls,R.vlen,hok.n0,hok.n1,by show 0 <= (nY E ρ).last; omega,hl⟩
theorem ordL_nodup {fs:List Fd} {ρ:List Int} {lv:Nat -> Nat} {os:List Nat} (h:Ordd fs ρ lv os):os.Nodup:=by
 exact h.perm.nodup_iff.2 Dx
theorem pY {E:Eg} {ρ:List Int} {lv:Nat -> Nat} (hok:EgOk E ρ lv):Settled (oY E ρ) ρ:=by
 have few:=hok.fm.fields.few;have one:=hok.one;have hod:Ordd E.fm.fields ρ lv (iX ρ E.fm.fields.length):=jX hok.fm.rank (by omega);have h:=runS_fix E.fm.fields E.pol E.now E.inp ⟨E.calls,E.vals,[],E.last,[]⟩ (ordL_nodup hod) hok.calls.len hok.vlen rfl E.now (nY E ρ).last _ (Hj _);rw [Pk] at h;exact ⟨_,h⟩
def tellE (E:Eg) (nm:ByteArray) (v:Vl):Eg:={ E with inp:=putV nm v E.inp }
theorem tellE_ok {E:Eg} {ρ:List Int} {lv:Nat -> Nat} (hok:EgOk E ρ lv) {nm:ByteArray} {v:Vl} (hv:v.known) (ht:fZ E.fm.fields nm v.k=0) (hl:E.inp.length <= 99):EgOk (tellE E nm v) ρ lv:=by
 refine ⟨hok.fm,hok.one,hok.pol,λq hq=>?_,λq hq=>?_,putV_once hok.once,?_,hok.calls,hok.vlen,hok.n0,hok.n1,hok.l0,hok.l1⟩
 ·rcases putV_mem hq with h | ⟨h1,h2⟩
  ·exact hok.ki q h
  ·rw [h2]; exact hv
 ·rcases putV_mem hq with h | ⟨h1,h2⟩
  ·exact hok.k0 q h
  ·rw [h1,h2]; exact ht
 ·have:=putV_len (s:=nm) (v:=v) (l:=E.inp)
  show (putV nm v E.inp).length <= 100;omega
theorem settle_eg (E:Eg) (ρ:List Int) (lv:Nat -> Nat) (hok:EgOk E ρ lv) (b n:Nat) (hn:E.fm.fields.length=n) (A A2 A3:Option Addr) (c c2 c3:Nat) (gv iv lw0:Value) (h:Vw) (hf:IsFds h (.slice A n c) E.fm.fields) (hi:RS h 7 (sL iv) (wK E.inp)) (hl:(nY E ρ).last <= 1073741810) :
  ConE Tryz.prog 44 #[.pointer (some ⟨b,0,none⟩)] h
   [.row (sL lw0) 57 8 (gW []),.box b [.slice A n c,sL gv,Vi E.pol.t,Vi E.pol.b,Vi E.pol.c,sL iv,.slice A2 n c2,.slice A3 n c3,Vi E.now,Vi E.last,sL lw0],.row (.slice A2 n c2) 130 10 (fK E.calls),.row (.slice A3 n c3) 44 3 (lZ E.vals)]
   (λv Bo _=>DonR (nY E ρ) b [.slice A n c,sL gv,Vi E.pol.t,Vi E.pol.b,Vi E.pol.c,sL iv,.slice A2 n c2,.slice A3 n c3,Vi E.now] (.slice A2 n c2) (.slice A3 n c3) v Bo):=by
 have few:=hok.fm.fields.few;have hl1:=hok.l1;have hli:=hok.li;have h0:=hok.l0;have R:=(setE_run hok).lo;simp only at R;have hs:=λH (s:Sees h H)=>settle_con E.fm ρ lv hok.fm b n A A2 A3 c c2 c3 gv iv lw0 E.pol hok.pol E.now E.last hok.n0 hok.n1 hok.l0 (by omega) E.calls E.vals [] E.inp H (hf.sees s) hn.symm (by have:=hok.one; omega) hok.calls (hok.vlen.trans hn) (hi.sees s) hok.ki (by omega) (by simp);subst hn;exact done_con (nY E ρ) b _ A A2 A3 c c2 c3 gv iv lw0 E.pol E.now E.last hok.n0 hok.n1 E.calls E.vals [] h (by omega) hl hs
structure TelF (h:Vw) (u:Value) (E:Eg) (lt:List Lt):Prop where
 eng:IsEng h u E
 out:RS h 8 (sL (agJ 5 u)) (gW lt)
theorem TelF.sees {h h':Vw} {u:Value} {E:Eg} {lt:List Lt} (k:TelF h u E lt) (s:Sees h h'):TelF h' u E lt:=⟨k.eng.sees s,k.out.sees s⟩
def TelR (E:Eg) (lt:List Lt) (r:Value) (h:Vw):Prop:=∃ u,r=.tuple #[.agg (eA u E),sL (agJ 5 u),Vi 0] /\ TelF h u E lt
def rW (f:Fm) (p:Pol):Eg:=⟨f,p,[],List.replicate f.fields.length clZ,List.replicate f.fields.length zV,0,0⟩
theorem newE_ok {f:Fm} {ρ:List Int} {lv:Nat -> Nat} (hok:OkFm f ρ lv) (h1:1 <= f.fields.length) {p:Pol} (hp:p.ok):EgOk (rW f p) ρ lv:=by
 refine ⟨hok,h1,hp,λq hq=>(by cases hq),λq hq=>(by cases hq),List.Pairwise.nil,Mj _,⟨Sv,λi g c hg hc=>?_⟩,Sv,Tq 0,by show (0:Int) <= _; decide,Tq 0,by show (0:Int) <= _; decide⟩;obtain rfl:=(List.mem_replicate.1 (Ej hc)).2;exact ⟨.inl rfl,λq=>absurd rfl q,λq=>absurd (show (0:Int)=2 from q) (by decide)⟩
theorem newE_last {f:Fm} {ρ:List Int} {lv:Nat -> Nat} (hok:OkFm f ρ lv) (h1:1 <= f.fields.length) {p:Pol} (hp:p.ok):0 <= (nY (rW f p) ρ).last /\ (nY (rW f p) ρ).last <= 14:=by
 have R:=setE_run (newE_ok hok h1 hp);have few:=hok.fields.few;have hod:Ordd f.fields ρ lv (iX ρ f.fields.length):=jX hok.rank (by omega);have h1:=R.lo;have h2:=R.hi;have h3:(iX ρ (rW f p).fm.fields.length).length=f.fields.length:=hod.len;rw [h3] at h2;have h4:(rW f p).last=0:=rfl;simp only [h4] at h1 h2;omega
def FormU (h:Vw) (u:Value) (f:Fm):Prop:=IsForm h (sL (agJ 0 u)) (sL (agJ 1 u)) f
theorem FormU.sees {h h':Vw} {u:Value} {f:Fm} (k:FormU h u f) (s:Sees h h'):FormU h' u f:=IsForm.sees k s
theorem rep_cl (n:Nat):List.replicate n [Vi 0,Vi 0,Vi 0,Vi 0,Vi 0,.string ⟨#[]⟩,Vi 0,Vi 0,.string ⟨#[]⟩,Vi 0]=fK (List.replicate n clZ):=by unfold fK; rw [List.map_replicate]; rfl
theorem rep_vl (n:Nat):List.replicate n [Vi 0,Vi 0,.string ⟨#[]⟩]=lZ (List.replicate n zV):=by unfold lZ; rw [List.map_replicate]; rfl
theorem new_any (f:Fm) (ρ:List Int) (lv:Nat -> Nat) (hok:OkFm f ρ lv) (h1:1 <= f.fields.length) (p:Pol) (hp:p.ok) (fv pv:Value) (h:Vw) (hf:IsForm h fv pv f) :
  C0 Tryz.prog 11 #[.agg #[fv,pv],.agg #[Vi p.t,Vi p.b,Vi p.c]] h (λr h'=>TelR (oY (rW f p) ρ) (nY (rW f p) ρ).out r h'):=by
 have few:=hok.fields.few;have hgc:=c_gapChk p hp;have hnl:=(newE_last hok h1 hp).2;have hok':=newE_ok hok h1 hp;have hdn:=λb n hn A A2 A3 c c2 c3 gv iv lw0 H q1 q2=>settle_eg (rW f p) ρ lv hok' b n hn A A2 A3 c c2 c3 gv iv lw0 H q1 q2 (by omega);have hS:=λfv pv H q=>shCopy_any f ρ lv hok fv pv H q;obtain ⟨vs,A,c,rfl,-,-,-,-,-,-⟩:=bQ hf.fields;obtain ⟨us,ws,B,d,rfl,-,-,-,-,-,-⟩:=oX hf.pages;have hsc:=λH q=>shCheck_any f ρ lv A f.fields.length c B f.pages.length d H hok q rfl;obtain ⟨S,hS'⟩:∃ S,nY (rW f p) ρ=S:=⟨_,rfl⟩;have hres:oY (rW f p) ρ={ rW f p with calls:=S.calls,vals:=S.vals,last:=S.last }:=by unfold oY; rw [hS']
 rw [hS'] at hdn;have hcl:List.replicate f.fields.length [Vi 0,Vi 0,Vi 0,Vi 0,Vi 0,.string ⟨#[]⟩,Vi 0,Vi 0,.string ⟨#[]⟩,Vi 0]=fK (rW f p).calls:=rep_cl f.fields.length;have hvl:List.replicate f.fields.length [Vi 0,Vi 0,.string ⟨#[]⟩]=lZ (rW f p).vals:=rep_vl f.fields.length;generalize hn:f.fields.length=n at *;generalize hm:f.pages.length=m at *;refine pQ Tryz.func11 λhbx hbad Q hQ=>?_;refine go3 52 [.own,.own,.own,.b 2 0,.cl 41 #[.agg #[.slice A n c,.slice B m d]] (Vi 0),.b 1 0,.cl 42 #[.agg #[Vi p.t,Vi p.b,Vi p.c]] (Vi 0),.b 2 0] [] ?_ (ho:=(Aj (λH sH=>hsc _ (hf.sees sH)) (Aj (λH sH=>hgc _) (trivial))));intro b1 b2 b3;refine fV 11 3 [.ld 5 0,.f (λgh=>.agg #[sL (agJ 0 (gh 1)),sL (agJ 1 (gh 1))]) (λgh hh=>FormU hh (gh 1) f),.ld 4 0,.pu,.e (λgh=>.slice (some ⟨(uJ (gh 4)),0,none⟩) n n) 0 (λgh=>.row (.slice (some ⟨(uJ (gh 4)),0,none⟩) n n) 130 10 (List.replicate n [Vi 0,Vi 0,Vi 0,Vi 0,Vi 0,Ve,Vi 0,Vi 0,Ve,Vi 0])),.pu,.e (λgh=>.slice (some ⟨(uJ (gh 6)),0,none⟩) n n) 1 (λgh=>.row (.slice (some ⟨(uJ (gh 6)),0,none⟩) n n) 44 3 (List.replicate n [Vi 0,Vi 0,Ve])),.pu,.pu,.al 2,.pu] [(1,false),(4,true),(6,true),(9,true)] (Aj (λ_ _ _ s c=>c.sees s) (trivial)) ?_ ?_
 ·intro R hT hA hmono;refine Aj (vX hT hA hmono 27 (λu=>.agg #[sL (agJ 0 u),sL (agJ 1 u)]) [0] 1 43 (λgh=>#[.agg #[.slice A n c,.slice B m d]]) (λgh H sH fH lent=>C0.facts (R:=R) (x:=gh) (i:=1) (n:=0) (F:=(λu=>.agg #[sL (agJ 0 u),sL (agJ 1 u)])) (G:=λu hh=>FormU hh u f) (f:=λgh hh=>FormU hh (gh 1) f) (hS _ _ _ (hf.sees sH)) (by kernel_rfl) (by kernel_rfl) (λ_ _ r=>r))) ?_;refine Aj (r_make hT hA hmono ⟨λ_ _=>by kernel_rfl,λ_ _=>by kernel_rfl,λ_ _=>by kernel_rfl⟩ (by kernel_rfl) 30 [3] 4 n (by kernel_rfl) (λ_=>by kernel_rfl) 0 (GN R 0) (by kernel_rfl) (by kernel_rfl) (by kernel_rfl) (t:=33) (te:=130) (z:=.agg #[Vi 0,Vi 0,Vi 0,Vi 0,Vi 0,Ve,Vi 0,Vi 0,Ve,Vi 0]) (cs:=[Vi 0,Vi 0,Vi 0,Vi 0,Vi 0,Ve,Vi 0,Vi 0,Ve,Vi 0]) (y:=(.tmp 29)) (by_:=96) (kk:=10) (λ_=>by kernel_rfl) (λ_=>by kernel_rfl) (by kernel_rfl) (λ_=>by kernel_rfl) Tryz.underlying33 (by kernel_rfl) rfl rfl (by decide) (by omega) (by omega) (by simp only [maxLen]; omega)) ?_;refine Aj (r_make hT hA hmono ⟨λ_ _=>by kernel_rfl,λ_ _=>by kernel_rfl,λ_ _=>by kernel_rfl⟩ (by kernel_rfl) 32 [5] 6 n (by kernel_rfl) (λ_=>by kernel_rfl) 1 (GN R 1) (by kernel_rfl) (by kernel_rfl) (by kernel_rfl) (t:=34) (te:=44) (z:=.agg #[Vi 0,Vi 0,Ve]) (cs:=[Vi 0,Vi 0,Ve]) (y:=(.tmp 31)) (by_:=32) (kk:=3) (λ_=>by kernel_rfl) (λ_=>by kernel_rfl) (by kernel_rfl) (λ_=>by kernel_rfl) Tryz.underlying34 (by kernel_rfl) rfl rfl (by decide) (by omega) (by omega) (by simp only [maxLen]; omega)) ?_
  trivial
 rintro u27 bcq bvq bm W4 S5 ⟨f27,-⟩;replace f27:FormU W4 u27 f:=f27;refine go0 4 [] [] ?_;obtain ⟨-,A6,c6,e6,-,-,-,-,-,-⟩:=bQ f27.fields;rw [hn] at e6;refine wQ [(4,Vp b3),(36,Vp bm)] [.row (Vs bcq n n) 130 10 (List.replicate n [Vi 0,Vi 0,Vi 0,Vi 0,Vi 0,Ve,Vi 0,Vi 0,Ve,Vi 0]),.row (Vs bvq n n) 44 3 (List.replicate n [Vi 0,Vi 0,Ve]),.box bm [sL (agJ 0 u27),sL (agJ 1 u27),Vi p.t,Vi p.b,Vi p.c,Vz,Vs bcq n n,Vs bvq n n,Vi 0,Vi 0,Vz],.box b3 [Vz,Vz,Vi 0,Vi 0,Vi 0,Vz,Vz,Vz,Vi 0,Vi 0],.box b2 [Vi p.t,Vi p.b,Vi p.c],.box b1 [.slice A n c,.slice B m d]] [] ?_;rw [e6,hcl,hvl];have f28:=f27.fields;rw [e6] at f28;refine g_front 2 ?_;refine cV 57 8 ?_;refine nQ (Bi:=[.row (Vz) 57 8 ([]),.box bm [.slice A6 n c6,sL (agJ 1 u27),Vi p.t,Vi p.b,Vi p.c,Vz,Vs bcq n n,Vs bvq n n,Vi 0,Vi 0,Vz],.row (Vs bcq n n) 130 10 (fK (rW f p).calls),.row (Vs bvq n n) 44 3 (lZ (rW f p).vals)]) [0,1,2,3] (λH sH=>hdn bm n hn A6 (some ⟨bcq,0,none⟩) (some ⟨bvq,0,none⟩) c6 n n (agJ 1 u27) (Vz) (Vz) _ (f28.sees sH) (RS.nil _ 7)) ?_; rintro _ _ W6 S7 ⟨ul,rfl,rfl⟩;refine go0 9 [.b 4 0] [] ?_;refine vQ 0 (v:=sL ul) (e:=57) (kk:=8) (l:=gW S.out) ?_; intro W8 S9 fl;refine vQ 1 (v:=Vs bcq n n) (e:=130) (kk:=10) (l:=fK S.calls) ?_; intro W10 S11 fc;refine vQ 1 (v:=Vs bvq n n) (e:=44) (kk:=3) (l:=lZ S.vals) ?_; intro W12 S13 fv;refine hQ.to [.agg #[.slice A6 n c6,sL (agJ 1 u27),Vi p.t,Vi p.b,Vi p.c,Vz,Vs bcq n n,Vs bvq n n,Vi 0,Vi S.last],sL ul,Vi 0] (λH sH=>?_) (ix:=[1]);exact (by rw [hres,hS']; exact ⟨.agg #[.slice A6 n c6,agJ 1 u27,Vz,Vs bcq n n,Vs bvq n n,ul],rfl,⟨⟨⟨(f28.sees (S7.trans (S9.trans (S11.trans (S13.trans sH))))),IsForm.pages (f27.sees (S7.trans (S9.trans (S11.trans (S13.trans sH)))))⟩,RS.nil _ 7,(fc.sees (S13.trans sH)),(fv.sees sH)⟩,(fl.sees (S11.trans (S13.trans sH)))⟩⟩:TelR (oY (rW f p) ρ) (nY (rW f p) ρ).out _ _)
def polE (a b c:Int):Pol:=⟨1 + cJ a 6,1 + cJ b 50,1 + cJ b 50 + cJ c 200⟩
theorem polE_ok (a b c:Int):(polE a b c).ok:=by
 have h1:=tX a 6 (by decide);have h2:=tX b 50 (by decide);have h3:=tX c 200 (by decide);exact ⟨by show 1 <= 1 + cJ a 6; omega,by show 1 + cJ a 6 <= 6; omega,by show 1 <= 1 + cJ b 50; omega,by show 1 + cJ b 50 <= 1 + cJ b 50 + cJ c 200; omega,by show 1 + cJ b 50 + cJ c 200 <= 1000; omega⟩
theorem c_policy (a b c:Int) (h:Vw) (a0 : -9223372036854775808 <= a) (a1:a <= 9223372036854775807) (b0 : -9223372036854775808 <= b) (b1:b <= 9223372036854775807) (c0 : -9223372036854775808 <= c) (c1:c <= 9223372036854775807) :
  C0 Tryz.prog 12 #[Vi a,Vi b,Vi c] h (λr _=>r=(polE a b c).val):=by
 have h1:=tX a 6 (by decide);have h2:=tX b 50 (by decide);have h3:=tX c 200 (by decide);have e1:=λH=>yJ a 6 H a0 a1 (by decide) (by decide);have e2:=λH=>yJ b 50 H b0 b1 (by decide) (by decide);have e3:=λH=>yJ c 200 H c0 c1 (by decide) (by decide);have hr:(polE a b c).val=.agg #[Vi (1 + cJ a 6),Vi (1 + cJ b 50),Vi (1 + cJ b 50 + cJ c 200)]:=rfl;generalize cJ a 6=x at *;generalize cJ b 50=y at *;generalize cJ c 200=z at *;refine pQ Tryz.func12 λhbx hbad Q hQ=>?_;refine go1 28 [.own,.cl 37 #[Vi b,Vi 50] (Vi y),.cl 37 #[Vi a,Vi 6] (Vi x),.cl 37 #[Vi c,Vi 200] (Vi z),.b 0 0] [(10,Vi (IntKind.i64.wrap (1 + y)),Vi (1 + y)),(13,Vi (IntKind.i64.wrap (1 + x)),Vi (1 + x)),(18,Vi (IntKind.i64.wrap (1 + y + z)),Vi (1 + y + z))] ?_ (ho:=(Aj (λH sH=>e2 _) (Aj (λH sH=>e1 _) (Aj (λH sH=>e3 _) (trivial))))) (hc:=(Aj (jJ (by omega) (by omega)) (Aj (jJ (by omega) (by omega)) (Aj (jJ (by omega) (by omega)) (trivial)))));intro b1;refine hQ.to [.agg #[Vi (1 + x),Vi (1 + y),Vi (1 + y + z)]] (λH sH=>?_) (ix:=[0]);exact hr.symm
def begE (l:List RawD) (p:Pol):Eg:=oY (rW (gQ l) p) (rhoL (pW (gQ l).fields))
theorem form_one (l:List RawD):1 <= (gQ l).fields.length:=by have:=form_len l; have:=lW l; omega
theorem begE_ok (l:List RawD) {p:Pol} (hp:p.ok):EgOk (begE l p) (rhoL (pW (gQ l).fields)) (lvF l):=settE_ok (newE_ok (form_okFm l) (form_one l) hp) (by have:=(newE_last (form_okFm l) (form_one l) hp).2; omega)
theorem begE_settled (l:List RawD) {p:Pol} (hp:p.ok):Settled (begE l p) (rhoL (pW (gQ l).fields)):=pY (newE_ok (form_okFm l) (form_one l) hp)
def Sst.pre (s:Sst) (lt:List Lt):Sst:={ s with out:=lt++s.out }
theorem stepS_pre (fs:List Fd) (p:Pol) (now:Int) (inp:Env) (s:Sst) (lt:List Lt) (i:Nat):uY fs p now inp (s.pre lt) i=(uY fs p now inp s i).pre lt:=by
 unfold uY
 split
 ·split
  ·unfold Sst.pre;simp only
   split <;> simp
  ·rfl
 ·rfl
theorem runS_pre (fs:List Fd) (p:Pol) (now:Int) (inp:Env) (lt:List Lt):∀ (os:List Nat) (s:Sst),jY fs p now inp (s.pre lt) os=(jY fs p now inp s os).pre lt
 | [],_=>rfl
 | i :: os,s=>by
  show jY fs p now inp (uY fs p now inp (s.pre lt) i) os=_;rw [stepS_pre];exact runS_pre fs p now inp lt os _
theorem settle_lt (E:Eg) (ρ:List Int) (lv:Nat -> Nat) (hok:EgOk E ρ lv) (lt:List Lt) (hlt:lt.length <= 100) (b n:Nat) (hn:E.fm.fields.length=n) (A A2 A3:Option Addr) (c c2 c3:Nat) (gv iv lw0:Value) (h:Vw) (hf:IsFds h (.slice A n c) E.fm.fields) (hi:RS h 7 (sL iv) (wK E.inp)) (hl:(nY E ρ).last <= 1073741810) :
  ConE Tryz.prog 44 #[.pointer (some ⟨b,0,none⟩)] h
   [.row (sL lw0) 57 8 (gW lt),.box b [.slice A n c,sL gv,Vi E.pol.t,Vi E.pol.b,Vi E.pol.c,sL iv,.slice A2 n c2,.slice A3 n c3,Vi E.now,Vi E.last,sL lw0],.row (.slice A2 n c2) 130 10 (fK E.calls),.row (.slice A3 n c3) 44 3 (lZ E.vals)]
   (λv Bo _=>DonR ((nY E ρ).pre lt) b [.slice A n c,sL gv,Vi E.pol.t,Vi E.pol.b,Vi E.pol.c,sL iv,.slice A2 n c2,.slice A3 n c3,Vi E.now] (.slice A2 n c2) (.slice A3 n c3) v Bo):=by
 have few:=hok.fm.fields.few;have hl1:=hok.l1;have hli:=hok.li;have h0:=hok.l0;have R:=(setE_run hok).lo;simp only at R;have hs:=λH (s:Sees h H)=>settle_con E.fm ρ lv hok.fm b n A A2 A3 c c2 c3 gv iv lw0 E.pol hok.pol E.now E.last hok.n0 hok.n1 hok.l0 (by omega) E.calls E.vals lt E.inp H (hf.sees s) hn.symm (by have:=hok.one; omega) hok.calls (hok.vlen.trans hn) (hi.sees s) hok.ki (by omega) hlt;subst hn;have e:jY E.fm.fields E.pol E.now E.inp ⟨E.calls,E.vals,[],E.last,lt⟩ (iX ρ E.fm.fields.length)=(nY E ρ).pre lt:=by
  have:=runS_pre E.fm.fields E.pol E.now E.inp lt (iX ρ E.fm.fields.length) ⟨E.calls,E.vals,[],E.last,[]⟩
  unfold Sst.pre at this;rw [Lw] at this;exact this
 rw [e] at hs;exact done_con ((nY E ρ).pre lt) b _ A A2 A3 c c2 c3 gv iv lw0 E.pol E.now E.last hok.n0 hok.n1 E.calls E.vals lt h (by show 0 <= (nY E ρ).last; omega) hl hs
def nZ (p:Pol) (now:Int) (cs:List Cl):List Cl:=cs.map λc=>(mZ p now c).1
def askT (p:Pol) (now:Int):List Fd -> List Cl -> List Lt
 | f :: fs,c :: cs=>(if (mZ p now c).2=true then [ltOf f.name (mZ p now c).1] else [])++askT p now fs cs
 | _,_=>[]
theorem askT_snoc {p:Pol} {now:Int}:∀ {fs:List Fd} {cs:List Cl} (f:Fd) (c:Cl),cs.length=fs.length -> askT p now (fs++[f]) (cs++[c])=askT p now fs cs++(if (mZ p now c).2=true then [ltOf f.name (mZ p now c).1] else [])
 | [],[],f,c,_=>by show _++[]=[]++_; simp
 | [],_ :: _,_,_,h=>by simp at h
 | _ :: _,[],_,_,h=>by simp at h
 | g :: fs,d :: cs,f,c,h=>by
  show _++askT p now (fs++[f]) (cs++[c])=(_++askT p now fs cs)++_;rw [askT_snoc f c (by simpa using h),Lq]
theorem askT_len {p:Pol} {now:Int}:∀ {fs:List Fd} {cs:List Cl},(askT p now fs cs).length <= fs.length
 | [],_=>Mj _
 | _ :: _,[]=>Mj _
 | g :: fs,d :: cs=>by
  show (_++askT p now fs cs).length <= fs.length + 1
  have:=askT_len (p:=p) (now:=now) (fs:=fs) (cs:=cs)
  rw [Bk]
  split <;> simp <;> omega
def dZ (E:Eg) (n:Int):Eg:={ E with now:=E.now + n,calls:=nZ E.pol (E.now + n) E.calls }
def tickT (E:Eg) (n:Int):List Lt:=askT E.pol (E.now + n) E.fm.fields E.calls
theorem wakeL_at {p:Pol} {now:Int} {cs:List Cl} {i:Nat} {c:Cl} (h:(nZ p now cs)[i]?=some c):∃ d,cs[i]?=some d /\ c=(mZ p now d).1:=by
 unfold nZ at h;rw [Oj] at h;obtain ⟨d,hd,rfl⟩:=Zw.1 h;exact ⟨d,hd,rfl⟩
theorem tickE_ok {E:Eg} {ρ:List Int} {lv:Nat -> Nat} (hok:EgOk E ρ lv) {n:Int} (h0:0 <= n) (h1:E.now + n <= 1073741824):EgOk (dZ E n) ρ lv:=by
 have n0:=hok.n0;refine ⟨hok.fm,hok.one,hok.pol,hok.ki,hok.k0,hok.once,hok.li,⟨by show (nZ _ _ E.calls).length=_; unfold nZ; rw [Ij]; exact hok.calls.len,λi f c hf hc=>?_⟩,hok.vlen,by show 0 <= E.now + n; omega,h1,hok.l0,hok.l1⟩;obtain ⟨d,hd,rfl⟩:=wakeL_at hc;obtain ⟨d1,d2,d3⟩:=hok.calls.at_ i f d hf hd;obtain ⟨w1,w2,w3,w4,w5⟩:=wake_ok hok.pol d1 (now:=E.now + n) (by omega) h1;refine ⟨w1,λq=>?_,λq=>?_⟩
 ·obtain ⟨k1,k2⟩:=d2 (w3 q);exact ⟨k1,by show (mZ E.pol (E.now + n) d).1.id <= E.last; rw [w2]; exact k2⟩
 ·have e:=w4 q;rw [e] at q ⊢;exact d3 q
theorem wakeL_step {p:Pol} {now:Int} {cs:List Cl} {k:Nat} {c:Cl} (h:cs[k]?=some c):(nZ p now (cs.take k)++cs.drop k).set k (mZ p now c).1=nZ p now (cs.take (k + 1))++cs.drop (k + 1):=by
 obtain ⟨hk,e⟩:=Nj.1 h;have hl:(nZ p now (cs.take k)).length=k:=by unfold nZ; rw [Ij,Ck]; omega
 have hd:cs.drop k=c :: cs.drop (k + 1):=by rw [Tv hk,e]
 rw [hd,List.set_append_right k _ (by omega),hl,Cw,List.set_cons_zero,Ov,h];unfold nZ;rw [Mk,Lq]
 rfl
theorem wakeL_now {p:Pol} {now:Int} {cs:List Cl} {k:Nat} {c:Cl} (h:cs[k]?=some c):(nZ p now (cs.take k)++cs.drop k)[k]?=some c:=by
 obtain ⟨hk,e⟩:=Nj.1 h;have hl:(nZ p now (cs.take k)).length=k:=by unfold nZ; rw [Ij,Ck]; omega
 rw [Tw (by omega),hl,Cw,Wv,Pv,h]
theorem wake_st {p:Pol} {now:Int} {c:Cl} (h:(mZ p now c).2=true):(mZ p now c).1.st=1:=by
 by_cases q:c.st≠1\/now < c.nx
 ·rw [qZ q] at h; cases h
 ·by_cases q2:c.tr=p.t
  ·rw [pZ q q2] at h; cases h
  ·rw [oZ q q2]; show c.st=1; omega
theorem wakeL_len {p:Pol} {now:Int} {cs:List Cl} {k:Nat}:(nZ p now (cs.take k)++cs.drop k).length=cs.length:=by
 unfold nZ;rw [Bk,Ij, <- Bk,Mw]
theorem tick_step {p:Pol} {now:Int} {fs:List Fd} {cs:List Cl} {k:Nat} {g:Fd} {x:Cl} (hl:cs.length=fs.length) (hg:fs[k]?=some g) (hx:cs[k]?=some x) {rr:Cl × Bool} (hr:mZ p now x=rr) :
  (rr.2=true -> askT p now (fs.take k) (cs.take k)++[ltOf g.name rr.1]=askT p now (fs.take (k + 1)) (cs.take (k + 1))) /\ (rr.2=false -> askT p now (fs.take k) (cs.take k)=askT p now (fs.take (k + 1)) (cs.take (k + 1))):=by
 have e:=askT_snoc (p:=p) (now:=now) (fs:=fs.take k) (cs:=cs.take k) g x (by rw [Ck,Ck,hl]);rw [cZ fs k g hg,cZ cs k x hx,e,hr];exact ⟨λq=>by rw [Cj q],λq=>by rw [Bj (by rw [q]; decide),Lw]⟩
theorem tick_any (E:Eg) (ρ:List Int) (lv:Nat -> Nat) (hok:EgOk E ρ lv) (hse:Settled E ρ) (dt:Int) (d1:1 <= dt) (d2:dt <= 1000) (d3:E.now + dt <= 1073741824) (hl:(nY (dZ E dt) ρ).last <= 1073741810) (w:Value) (h:Vw) (hE:IsEng h w E) :
  C0 Tryz.prog 20 #[.agg (eA w E),Vi dt] h (λr h'=>TelR (oY (dZ E dt) ρ) (tickT E dt++(nY (dZ E dt) ρ).out) r h'):=by
 have few:=hok.fm.fields.few;have one:=hok.one;have n0:=hok.n0;have n1:=hok.n1;have hcl:=hok.calls.len;have hck:=λH q=>egCheck_any E ρ lv hok hse w H q;have hcp:=λH q=>engCopy_form E ρ lv hok w _ _ rfl rfl H q;have hok':=tickE_ok hok (by omega) d3;have htl:(tickT E dt).length <= 100:=by
  have:=askT_len (p:=E.pol) (now:=E.now + dt) (fs:=E.fm.fields) (cs:=E.calls)
  unfold tickT; omega
 have hdn:=λb n hn A A2 A3 c c2 c3 gv iv lw0 H q1 q2=>settle_lt (dZ E dt) ρ lv hok' (tickT E dt) htl b n hn A A2 A3 c c2 c3 gv iv lw0 H q1 q2 hl;have hat:=hok.calls.at_;have hwk:=λ(i:Nat) (f:Fd) (x:Cl) (q1:E.fm.fields[i]?=some f) (q2:E.calls[i]?=some x) H=>c_wake E.pol hok.pol x (hat i f x q1 q2).1 (E.now + dt) (by omega) d3 H;have hask:=λn b i A A2 c c2 gv iv vv lw cv ot g x H (q0:IsFds H (.slice A n c) E.fm.fields) (q1:E.fm.fields[i]?=some g) (q2:cv[i]?=some x) (q3:x.st=1) (q4:ot.length <= 1000) (q5:cv.length=n)=>ask_con b i n n A A2 c c2 gv iv vv lw E.pol (E.now + dt) E.last E.fm.fields cv ot g x H q0 q1 q2 q3 q4 q5;have hnow:=λk x=>wakeL_now (p:=E.pol) (now:=E.now + dt) (cs:=E.calls) (k:=k) (c:=x);have hstp:=λk x=>wakeL_step (p:=E.pol) (now:=E.now + dt) (cs:=E.calls) (k:=k) (c:=x);have hwl:=λk=>wakeL_len (p:=E.pol) (now:=E.now + dt) (cs:=E.calls) (k:=k);have hts:=λk g x q1 q2 rr=>tick_step (p:=E.pol) (now:=E.now + dt) (fs:=E.fm.fields) (cs:=E.calls) (k:=k) (g:=g) (x:=x) hcl q1 q2 (rr:=rr);have hal:=λk=>askT_len (p:=E.pol) (now:=E.now + dt) (fs:=E.fm.fields.take k) (cs:=E.calls.take k);have hend:∀ k,k=E.fm.fields.length -> (nZ E.pol (E.now + dt) (E.calls.take k)++E.calls.drop k=(dZ E dt).calls) /\ askT E.pol (E.now + dt) (E.fm.fields.take k) (E.calls.take k)=tickT E dt:=λk hk=>by
  subst hk;rw [Pk, <- hcl,Pk,List.drop_length,Lw];exact ⟨rfl,rfl⟩
 have h00:nZ E.pol (E.now + dt) (E.calls.take 0)++E.calls.drop 0=E.calls:=rfl;have h01:askT E.pol (E.now + dt) (E.fm.fields.take 0) (E.calls.take 0)=[]:=rfl;have hwst:=λx=>wake_st (p:=E.pol) (now:=E.now + dt) (c:=x);obtain ⟨S,hS⟩:∃ S,(nY (dZ E dt) ρ).pre (tickT E dt)=S:=⟨_,rfl⟩;have hres:oY (dZ E dt) ρ={ E with now:=E.now + dt,calls:=S.calls,vals:=S.vals,last:=S.last }:=by rw [<- hS]; rfl
 have hlt:tickT E dt++(nY (dZ E dt) ρ).out=S.out:=by rw [<- hS]; rfl
 rw [hS] at hdn;have ht1:(dZ E dt).fm=E.fm:=rfl;have ht2:(dZ E dt).inp=E.inp:=rfl;have ht3:(dZ E dt).pol=E.pol:=rfl;have ht4:(dZ E dt).now=E.now + dt:=rfl;have ht5:(dZ E dt).last=E.last:=rfl;have ht6:(dZ E dt).vals=E.vals:=rfl;rw [hres,hlt];rw [ht1,ht2,ht3,ht4,ht5,ht6] at hdn;generalize (dZ E dt).calls=wcs at *;generalize tickT E dt=tks at *;generalize hnw:E.now + dt=nw at *;generalize hn:E.fm.fields.length=n at *;generalize hm:E.fm.pages.length=m at *;generalize hlen:E.inp.length=len at *;refine pQ Tryz.func20 λhbx hbad Q hQ=>?_;refine go2 49 [.own,.own,.b 1 0,.cl 47 #[.agg (eA w E)] (Vi 0),.b 1 8,.b 1 0] [(21,.bool (decide (dt < 1)),.bool false),(24,.bool (decide (dt > 1000)),.bool false),(30,Vi (IntKind.i64.wrap (1073741824 - E.now)),Vi (1073741824 - E.now)),(31,.bool (decide (dt > (1073741824 - E.now))),.bool false)] ?_ (ho:=(Aj (λH sH=>hck _ (hE.sees sH)) (trivial))) (hc:=(Aj (Dj Value.bool (Kj (by omega))) (Aj (Dj Value.bool (Kj (by omega))) (Aj (jJ (by omega) (by omega)) (Aj (Dj Value.bool (Kj (by omega))) (trivial))))));intro b1 b2;refine nQ (Bi:=[]) [] (λH sH=>hcp _ (hE.sees sH)) ?_; rintro _ _ W3 S4 ⟨A',c',B',d',A1,c1,A2,c2,A3,c3,rfl,rfl,hfu⟩;refine go1 33 [.own,.b 0 8,.b 0 8,.b 0 6] [(44,Vi (IntKind.i64.wrap (E.now + dt)),Vi (E.now + dt))] ?_ (hc:=(Aj (jJ (by omega) (by omega)) (trivial)));intro bm;refine vQ 1 (v:=.slice A1 len c1) (e:=122) (kk:=7) (l:=wK E.inp) ?_; intro W5 S6 fri;refine g_get (λa w hJ=>own_some (hJ.rowOwn (v:=.slice A2 n c2) (e:=130) (kk:=10) (l:=fK E.calls) 1 (by kernel_rfl)) ((by rw [Ij]; omega))) ?_; rintro ⟨bcs,rfl⟩;refine cV 57 8 ?_;refine yQ [0,1,0,1,1,1,1,1] [.block 0,.seq [1,1,1,1,1,1]] (λ(k:Nat) X=>∃ (W7:Vw) (lw:Value) (ot:List Lt) (cv:List Cl),X W7 [(4,Vp b2),(8,Vp bm),(52,Vs bcs n c2),(53,Vi (n:Int)),(54,Vi (k:Int))] [.row (sL lw) 57 8 (gW ot),.box bm [.slice A' n c',.slice B' m d',Vi E.pol.t,Vi E.pol.b,Vi E.pol.c,.slice A1 len c1,Vs bcs n c2,.slice A3 n c3,Vi nw,Vi E.last,sL lw],.row (Vs bcs n c2) 130 10 (fK cv),.row (.slice A3 n c3) 44 3 (lZ E.vals),.box b2 [Vz,Vz,Vi 0,Vi 0,Vi 0,Vz,Vz,Vz,Vi 0,Vi 0],.box b1 (eL w E)] [] /\ Sees W5 W7 /\ (k <= n) /\ (nZ E.pol nw (E.calls.take k)++E.calls.drop k=cv) /\ (askT E.pol nw (E.fm.fields.take k) (E.calls.take k)=ot)) (λk=>n - k) (0) (λX q=>⟨W5,(Vz),[],E.calls,q _ _ _ _ ⟨rfl,by kernel_rfl⟩,Sees.refl _,Mj _,h00,h01⟩) ?_;rintro k a w ⟨W7,lw,ot,cv,hJ,S8,hk,hv,ho⟩; refine dV hJ ?_; clear hJ a w;refine go0 6 [] [] ?_;rcases (by omega:k < n\/k=n) with hlt2 | hke
 ·obtain ⟨g,hg⟩:∃ g,E.fm.fields[k]?=some g:=⟨_,Gj (by omega)⟩;obtain ⟨x,hx⟩:∃ x,E.calls[k]?=some x:=⟨_,Gj (by omega)⟩;have hxv:=hnow k x hx;have hsv:=hstp k x hx;have hcv:=hwl k;have hotl:=hal k;rw [hv] at hxv hsv hcv;rw [ho,Ck] at hotl;have hwx:=hwk k g x hg hx;have hws:=hwst x;obtain ⟨rr,hrr⟩:∃ rr,mZ E.pol nw x=rr:=⟨_,rfl⟩;obtain ⟨ht1,ht2⟩:=hts k g x hg hx rr hrr;rw [hrr] at hwx hws hsv;rw [ho] at ht1 ht2;have hrc:=clRows_get hxv;have hcs:=clRows_set cv k rr.1;have hgx:(cv.set k rr.1)[k]?=some rr.1:=Zq (by omega);have hk1:=λ(q:rr.1.st=1) H q' lw'=>hask n bm k A' (some ⟨bcs,0,none⟩) c' c2 (.slice B' m d') (.slice A1 len c1) (.slice A3 n c3) lw' (cv.set k rr.1) ot g rr.1 H q' hg hgx q (by omega) (by rw [Qq]; omega);refine jV (t:=decide ((k:Int) < (n:Int))) (Jj (by omega)) ?_;refine go0 7 [] [] ?_;refine go0 1 [.ix bcs 0 n c2 k] [] ?_ (ho:=(Aj (by first | omega | (simp; omega)) (trivial)));refine g_rowget 2 k 0 (g:=bcs) (m:=n) (cap:=c2) (kk:=10) (e:=130) (l:=fK cv) (r:=[Vi x.st,Vi x.id,Vi x.tr,Vi x.key.k,Vi x.key.n,.string x.key.s,Vi x.has.k,Vi x.has.n,.string x.has.s,Vi x.nx]) (t:=130) (x:=(.tmp 57)) (v:=.agg #[Vi x.st,Vi x.id,Vi x.tr,Vi x.key.k,Vi x.key.n,.string x.key.s,Vi x.has.k,Vi x.has.n,.string x.has.s,Vi x.nx]) (hrc) ?_;refine go1 6 [.own,.b 0 0] [] ?_;intro b9;refine fV 20 1 [.ld 1 0,.pu,.pu,.pu,.pu,.ld 3 2,.pu,.pu,.pu,.pu,.ld 3 8,.v (λgh=>.tuple #[.agg #[Vi rr.1.st,Vi rr.1.id,Vi rr.1.tr,Vi rr.1.key.k,Vi rr.1.key.n,.string rr.1.key.s,Vi rr.1.has.k,Vi rr.1.has.n,.string rr.1.has.s,Vi rr.1.nx],.bool rr.2,Vi 0]),.pu,.pu,.pu,.pu,.al 0,.st 0 0,.pu,.pu] [(16,true)] (trivial) ?_ ?_
  ·intro R hT hA hmono;refine Aj (t_v hT hA hmono (k:=56) (args:=(λgh=>#[.agg #[Vi x.st,Vi x.id,Vi x.tr,Vi x.key.k,Vi x.key.n,.string x.key.s,Vi x.has.k,Vi x.has.n,.string x.has.s,Vi x.nx],.agg #[Vi E.pol.t,Vi E.pol.b,Vi E.pol.c],Vi nw])) (f:=λgh=>.tuple #[.agg #[Vi rr.1.st,Vi rr.1.id,Vi rr.1.tr,Vi rr.1.key.k,Vi rr.1.key.n,.string rr.1.key.s,Vi rr.1.has.k,Vi rr.1.has.n,.string rr.1.has.s,Vi rr.1.nx],.bool rr.2,Vi 0]) (λgh H sH fH lent=>hwx _)) ?_
   trivial
  rintro b10 W11 S12 -;refine go0 2 [] [] ?_;refine fV 9 0 [.pu,.pu,.pu,.pu,.ld 3 6,.pu,.ld 0 0,.v (λgh=>.pointer (some ⟨bcs,0 + k * 10,none⟩)),.s 4 (λgh=>.row (Vs bcs n c2) 130 10 ((fK cv).set k [Vi rr.1.st,Vi rr.1.id,Vi rr.1.tr,Vi rr.1.key.k,Vi rr.1.key.n,.string rr.1.key.s,Vi rr.1.has.k,Vi rr.1.has.n,.string rr.1.has.s,Vi rr.1.nx]))] [] (trivial) ?_ ?_
  ·intro R hT hA hmono;refine Aj (bZ hT hA bcs 0 n c2 k (λgh=>.pointer (some ⟨bcs,0 + k * 10,none⟩)) (by first | omega | (simp; omega))) ?_;refine Aj (r_rowset hT hA [0,1,2,3,4,5,6,7] (by kernel_rfl) (by kernel_rfl) (λ_=>by kernel_rfl) 4 (GN R 4) (by kernel_rfl) (by kernel_rfl) (by kernel_rfl) k 0 (g:=bcs) (m:=n) (cap:=c2) (kk:=10) (te:=130) (l:=fK cv) (r:=[Vi x.st,Vi x.id,Vi x.tr,Vi x.key.k,Vi x.key.n,.string x.key.s,Vi x.has.k,Vi x.has.n,.string x.has.s,Vi x.nx]) (λgh=>.agg #[Vi rr.1.st,Vi rr.1.id,Vi rr.1.tr,Vi rr.1.key.k,Vi rr.1.key.n,.string rr.1.key.s,Vi rr.1.has.k,Vi rr.1.has.n,.string rr.1.has.s,Vi rr.1.nx]) (λ_=>by kernel_rfl) (λ_=>by kernel_rfl) 130 (.tmp 82) (.tmp 81) (by kernel_rfl) (λ_=>by kernel_rfl) (λ_=>by kernel_rfl) (hrc) (λ_=>by kernel_rfl)) ?_
   trivial
  rintro W13 S14 -;refine go0 6 [] [] ?_;refine wQ [(4,Vp b2),(8,Vp bm),(52,Vs bcs n c2),(53,Vi (n:Int)),(54,Vi (k:Int)),(9,Vi (k:Int)),(83,.bool rr.2)] [.box b10 [Vi rr.1.st,Vi rr.1.id,Vi rr.1.tr,Vi rr.1.key.k,Vi rr.1.key.n,.string rr.1.key.s,Vi rr.1.has.k,Vi rr.1.has.n,.string rr.1.has.s,Vi rr.1.nx],.box b9 [Vi x.st,Vi x.id,Vi x.tr,Vi x.key.k,Vi x.key.n,.string x.key.s,Vi x.has.k,Vi x.has.n,.string x.has.s,Vi x.nx],.row (sL lw) 57 8 (gW ot),.box bm [.slice A' n c',.slice B' m d',Vi E.pol.t,Vi E.pol.b,Vi E.pol.c,.slice A1 len c1,Vs bcs n c2,.slice A3 n c3,Vi nw,Vi E.last,sL lw],.row (Vs bcs n c2) 130 10 ((fK cv).set k [Vi rr.1.st,Vi rr.1.id,Vi rr.1.tr,Vi rr.1.key.k,Vi rr.1.key.n,.string rr.1.key.s,Vi rr.1.has.k,Vi rr.1.has.n,.string rr.1.has.s,Vi rr.1.nx]),.row (.slice A3 n c3) 44 3 (lZ E.vals),.box b2 [Vz,Vz,Vi 0,Vi 0,Vi 0,Vz,Vz,Vz,Vi 0,Vi 0],.box b1 (eL w E)] [] ?_;rw [hcs];rcases Px rr.2 with e | e
  ·refine jV (t:=rr.2) (e) ?_;refine go0 3 [] [] ?_;refine nQ (Bi:=[.row (sL lw) 57 8 (gW ot),.box bm [.slice A' n c',.slice B' m d',Vi E.pol.t,Vi E.pol.b,Vi E.pol.c,.slice A1 len c1,Vs bcs n c2,.slice A3 n c3,Vi nw,Vi E.last,sL lw],.row (Vs bcs n c2) 130 10 (fK (cv.set k rr.1))]) [2,3,4] (λH sH=>hk1 (hws e) _ ((hfu.sees (S6.trans (S8.trans (S12.trans (S14.trans sH)))))).fields _) ?_; rintro _ _ W15 S16 ⟨u,rfl,rfl⟩;refine go0 7 [] [(87,Vi (IntKind.i64.wrap ((k:Int) + 1)),Vi ((k:Int) + 1))] ?_ (hc:=(Aj (jJ (by omega) (by omega)) (trivial)));refine g_drop 4 ?_;refine g_drop 3 ?_;exact iV (k + 1) (λX q=>⟨W15,u,(ot++[ltOf g.name rr.1]),(cv.set k rr.1),q _ _ _ _ ⟨rfl,by kernel_rfl⟩,(S8.trans (S12.trans (S14.trans S16))),by omega,hsv.symm,(ht1 e).symm⟩)
  ·skip;refine tQ (t:=rr.2) (e) ?_
   refine go0 7 [] [(87,Vi (IntKind.i64.wrap ((k:Int) + 1)),Vi ((k:Int) + 1))] ?_ (hc:=(Aj (jJ (by omega) (by omega)) (trivial)));exact iV (k + 1) (λX q=>⟨W13,lw,ot,(cv.set k rr.1),q _ _ _ _ ⟨rfl,by kernel_rfl⟩,(S8.trans (S12.trans S14)),by omega,hsv.symm,(ht2 e).symm⟩)
 ·skip;obtain ⟨he1,he2⟩:=hend k hke
  rw [hv] at he1;rw [ho] at he2;have he1:=he1.symm;have he2:=he2.symm;subst he1 he2;refine tQ (t:=decide ((k:Int) < (n:Int))) (Kj (by omega)) ?_;refine go0 2 [] [] ?_;refine xQ ?_;refine go0 5 [] [] ?_;refine nQ (Bi:=[.row (sL lw) 57 8 (gW tks),.box bm [.slice A' n c',.slice B' m d',Vi E.pol.t,Vi E.pol.b,Vi E.pol.c,.slice A1 len c1,Vs bcs n c2,.slice A3 n c3,Vi nw,Vi E.last,sL lw],.row (Vs bcs n c2) 130 10 (fK wcs),.row (.slice A3 n c3) 44 3 (lZ E.vals)]) [0,1,2,3] (λH sH=>hdn bm n rfl A' (some ⟨bcs,0,none⟩) A3 c' c2 c3 (.slice B' m d') (.slice A1 len c1) lw _ ((hfu.sees (S6.trans (S8.trans sH)))).fields (fri.sees (S8.trans sH))) ?_; rintro _ _ W17 S18 ⟨ul,rfl,rfl⟩;refine go0 9 [.b 4 0] [] ?_;refine vQ 0 (v:=sL ul) (e:=57) (kk:=8) (l:=gW S.out) ?_; intro W19 S20 fl;refine vQ 1 (v:=Vs bcs n c2) (e:=130) (kk:=10) (l:=fK S.calls) ?_; intro W21 S22 fc;refine vQ 1 (v:=.slice A3 n c3) (e:=44) (kk:=3) (l:=lZ S.vals) ?_; intro W23 S24 fv;refine hQ.to [.agg #[.slice A' n c',.slice B' m d',Vi E.pol.t,Vi E.pol.b,Vi E.pol.c,.slice A1 len c1,Vs bcs n c2,.slice A3 n c3,Vi nw,Vi S.last],sL ul,Vi 0] (λH sH=>?_) (ix:=[1]);exact (⟨.agg #[.slice A' n c',.slice B' m d',.slice A1 len c1,Vs bcs n c2,.slice A3 n c3,ul],rfl,⟨⟨(hfu.sees (S6.trans (S8.trans (S18.trans (S20.trans (S22.trans (S24.trans sH))))))),(fri.sees (S8.trans (S18.trans (S20.trans (S22.trans (S24.trans sH)))))),(fc.sees (S24.trans sH)),(fv.sees sH)⟩,(fl.sees (S22.trans (S24.trans sH)))⟩⟩:TelR { E with now:=nw,calls:=S.calls,vals:=S.vals,last:=S.last } S.out _ _)
def heardC (x:Lt) (c:Cl):Cl:=⟨2,c.id,c.tr,c.key,x.ans,0⟩
def pV (E:Eg) (i:Nat) (x:Lt) (c:Cl):Eg:={ E with calls:=E.calls.set i (heardC x c) }
def Takes (f:Fd) (x:Lt) (c:Cl):Prop:=c.st=1 /\ c.id=x.id /\ eqB c.key x.key=true /\ x.ans.k <= 3 /\ x.ans.k=f.ty
theorem hearE_ok {E:Eg} {ρ:List Int} {lv:Nat -> Nat} (hok:EgOk E ρ lv) {i:Nat} {f:Fd} {x:Lt} {c:Cl} (hf:E.fm.fields[i]?=some f) (hc:E.calls[i]?=some c) (hx:OkV x.ans) (ht:Takes f x c):EgOk (pV E i x c) ρ lv:=by
 obtain ⟨t1,t2,t3,t4,t5⟩:=ht;obtain ⟨d1,d2,d3⟩:=hok.calls.at_ i f c hf hc;have h1:=(hear_ok (id:=x.id) (key:=x.key) d1 hx).1;rw [hear_yes t1 t2 t3 t4] at h1;refine ⟨hok.fm,hok.one,hok.pol,hok.ki,hok.k0,hok.once,hok.li,⟨by show (E.calls.set i _).length=_; rw [Qq]; exact hok.calls.len,λj g d hg hd=>?_⟩,hok.vlen,hok.n0,hok.n1,hok.l0,hok.l1⟩;rcases set_at hd with ⟨rfl,rfl⟩ | ⟨-,hd⟩
 ·have hg:E.fm.fields[j]?=some g:=hg;rw [hf] at hg;obtain rfl:=Dk hg;exact ⟨h1,λ_=>⟨(d2 (by omega)).1,(d2 (by omega)).2⟩,λ_=>t5⟩
 ·exact hok.calls.at_ j g d hg hd
def HeaR (E:Eg) (lt:List Lt) (t:Bool) (r:Value) (h:Vw):Prop:=∃ u,r=.tuple #[.agg (eA u E),sL (agJ 5 u),.bool t,Vi 0] /\ TelF h u E lt
theorem hear_any (E:Eg) (ρ:List Int) (lv:Nat -> Nat) (hok:EgOk E ρ lv) (hse:Settled E ρ) (i:Nat) (f:Fd) (x:Lt) (c:Cl) (hf:E.fm.fields[i]?=some f) (hc:E.calls[i]?=some c) (hn:x.nm=f.name) (hx:OkV x.ans) (ht:Takes f x c) (hl:(nY (pV E i x c) ρ).last <= 1073741810) (w:Value) (h:Vw) (hE:IsEng h w E) :
  C0 Tryz.prog 45 #[.agg (eA w E),.agg #[Vt x.nm,Vi x.id,Vi x.key.k,Vi x.key.n,.string x.key.s,Vi x.ans.k,Vi x.ans.n,.string x.ans.s]] h (λr h'=>HeaR (oY (pV E i x c) ρ) (nY (pV E i x c) ρ).out true r h'):=by
 have few:=hok.fm.fields.few;have hck:=λH q=>egCheck_any E ρ lv hok hse w H q;have hcp:=λH q=>engCopy_form E ρ lv hok w _ _ rfl rfl H q;have hfi:=λH q=>find_yes E.fm.fields (sL (agJ 0 w)) x.nm i H q (by omega) (by rw [hn]; exact dQ hok.fm.fields.nodup hf);have hhe:=λH=>c_hear E.pol hok.pol c (hok.calls.at_ i f c hf hc).1 x.id x.key x.ans hx H;have hok':=hearE_ok hok hf hc hx ht;have hdn:=λb n hn A A2 A3 c1 c2 c3 gv iv lw0 H q1 q2=>settle_eg (pV E i x c) ρ lv hok' b n hn A A2 A3 c1 c2 c3 gv iv lw0 H q1 q2 hl;obtain ⟨t1,t2,t3,t4,t5⟩:=ht;rw [hear_yes t1 t2 t3 t4] at hhe;have hhe:∀ H,C0 Tryz.prog 97 #[.agg #[Vi c.st,Vi c.id,Vi c.tr,Vi c.key.k,Vi c.key.n,.string c.key.s,Vi c.has.k,Vi c.has.n,.string c.has.s,Vi c.nx],.agg #[Vi E.pol.t,Vi E.pol.b,Vi E.pol.c],Vi x.id,.agg #[Vi x.key.k,Vi x.key.n,.string x.key.s],.agg #[Vi x.ans.k,Vi x.ans.n,.string x.ans.s]] H (λr _=>r=wakeR (heardC x c,true)):=hhe;have hrc:=clRows_get hc;have hil:=(Nj.1 hf).1;have hcl:=hok.calls.len;have hcs:=clRows_set E.calls i (heardC x c);have ht1:(pV E i x c).fm=E.fm:=rfl;have ht2:(pV E i x c).inp=E.inp:=rfl;have ht3:(pV E i x c).pol=E.pol:=rfl;have ht4:(pV E i x c).now=E.now:=rfl;have ht5:(pV E i x c).last=E.last:=rfl;have ht6:(pV E i x c).vals=E.vals:=rfl;have ht7:(pV E i x c).calls=E.calls.set i (heardC x c):=rfl;generalize heardC x c=y at *;obtain ⟨S,hS⟩:∃ S,nY (pV E i x c) ρ=S:=⟨_,rfl⟩;have hres:oY (pV E i x c) ρ={ E with calls:=S.calls,vals:=S.vals,last:=S.last }:=by rw [<- hS]; rfl
 rw [hres];rw [hS] at hdn ⊢;rw [ht1,ht2,ht3,ht4,ht5,ht6,ht7] at hdn;generalize hn:E.fm.fields.length=n at *;generalize hm:E.fm.pages.length=m at *;generalize hlen:E.inp.length=len at *;refine pQ Tryz.func45 λhbx hbad Q hQ=>?_;refine go3 55 [.own,.own,.own,.b 2 0,.cl 47 #[.agg (eA w E)] (Vi 0),.b 2 0,.b 1 0,.cl 96 #[sL (agJ 0 w),.string x.nm] (.tuple #[Vi (i:Int),Vi 0]),.b 2 0] [] ?_ (ho:=(Aj (λH sH=>hck _ (hE.sees sH)) (Aj (λH sH=>hfi _ ((hE.sees sH)).form.fields) (trivial))));intro b1 b2 b3;refine nQ (Bi:=[]) [] (λH sH=>hcp _ (hE.sees sH)) ?_; rintro _ _ W4 S5 ⟨A',c',B',d',A1,c1,A2,c2,A3,c3,rfl,rfl,hfu⟩;refine go1 6 [.own] [] ?_;intro bm;refine vQ 1 (v:=.slice A1 len c1) (e:=122) (kk:=7) (l:=wK E.inp) ?_; intro W6 S7 fri;refine g_get (λa w hJ=>own_some (hJ.rowOwn (v:=.slice A2 n c2) (e:=130) (kk:=10) (l:=fK E.calls) 1 (by kernel_rfl)) ((by rw [Ij]; omega))) ?_; rintro ⟨bcs,rfl⟩;obtain ⟨vs,A4,c4,e4,-,-,hr4,hs4,hl4,-⟩:=bQ hfu.fields;rw [hn] at e4 hr4 hl4;simp only [Tk] at e4;obtain ⟨rfl,-,rfl⟩:=e4;obtain ⟨u,hu⟩:∃ u,vs[i]?=some u:=⟨_,Gj (by omega)⟩;have hrow:=yK hf hu;obtain ⟨Au,nu,cu,rfl⟩:=(AllSrc.get hs4 hf hu).slice;refine fV 28 1 [.pu,.pu,.pu,.pu,.ld 1 6,.pu,.v (λgh=>.pointer (some ⟨bcs,0 + i * 10,none⟩)),.v (λgh=>.agg #[Vi c.st,Vi c.id,Vi c.tr,Vi c.key.k,Vi c.key.n,.string c.key.s,Vi c.has.k,Vi c.has.n,.string c.has.s,Vi c.nx]),.pu,.pu,.pu,.pu,.ld 1 2,.pu,.ld 5 1,.pu,.ld 5 2,.pu,.ld 5 5,.v (λgh=>.tuple #[.agg #[Vi y.st,Vi y.id,Vi y.tr,Vi y.key.k,Vi y.key.n,.string y.key.s,Vi y.has.k,Vi y.has.n,.string y.has.s,Vi y.nx],.bool true,Vi 0]),.pu,.pu,.pu,.pu,.al 0,.st 0 0,.pu,.pu] [(24,true)] (trivial) ?_ ?_
 ·intro R hT hA hmono;refine Aj (bZ hT hA bcs 0 n c2 i (λgh=>.pointer (some ⟨bcs,0 + i * 10,none⟩)) (by first | omega | (simp; omega))) ?_;refine Aj (r_rowget' hT hA 48 (λgh=>.agg #[Vi c.st,Vi c.id,Vi c.tr,Vi c.key.k,Vi c.key.n,.string c.key.s,Vi c.has.k,Vi c.has.n,.string c.has.s,Vi c.nx]) [6] 7 2 (GN R 2) bcs n c2 10 130 (fK E.calls) i 0 (r:=[Vi c.st,Vi c.id,Vi c.tr,Vi c.key.k,Vi c.key.n,.string c.key.s,Vi c.has.k,Vi c.has.n,.string c.has.s,Vi c.nx]) (hrc) 130 (.tmp 47)) ?_;refine Aj (t_v hT hA hmono (k:=97) (args:=(λgh=>#[.agg #[Vi c.st,Vi c.id,Vi c.tr,Vi c.key.k,Vi c.key.n,.string c.key.s,Vi c.has.k,Vi c.has.n,.string c.has.s,Vi c.nx],.agg #[Vi E.pol.t,Vi E.pol.b,Vi E.pol.c],Vi x.id,.agg #[Vi x.key.k,Vi x.key.n,.string x.key.s],.agg #[Vi x.ans.k,Vi x.ans.n,.string x.ans.s]])) (f:=λgh=>.tuple #[.agg #[Vi y.st,Vi y.id,Vi y.tr,Vi y.key.k,Vi y.key.n,.string y.key.s,Vi y.has.k,Vi y.has.n,.string y.has.s,Vi y.nx],.bool true,Vi 0]) (λgh H sH fH lent=>hhe _)) ?_
  trivial
 rintro b8 W9 S10 -;refine go0 3 [] [] ?_;obtain ⟨b11,o12,rfl,-,c13⟩:=RS.row hr4 (hrow);refine qQ (c13.sees (S7.trans S10)) ?_;refine fV 18 0 [.pu,.pu,.pu,.pu,.pu,.ld 5 5,.pu,.pu,.pu,.pu,.pu,.ld 1 0,.pu,.v (λgh=>.pointer (some ⟨b11,o12 + i * 9,none⟩)),.pu,.lf 0 2,.v (λgh=>.bool false),.pu] [] (trivial) ?_ ?_
 ·intro R hT hA hmono;refine Aj (bZ hT hA b11 o12 n c' i (λgh=>.pointer (some ⟨b11,o12 + i * 9,none⟩)) (by first | omega | (simp; omega))) ?_;refine Aj (aZ hT hA (λgh=>.bool false) (λgh=>.bool (x.ans.k != f.ty)) (λgh=>Dj Value.bool (Rk.2 t5))) ?_
  trivial
 rintro W14 S15 -;refine go0 5 [] [] ?_;refine fV 9 0 [.pu,.pu,.pu,.pu,.ld 1 6,.pu,.ld 0 0,.v (λgh=>.pointer (some ⟨bcs,0 + i * 10,none⟩)),.s 2 (λgh=>.row (Vs bcs n c2) 130 10 ((fK E.calls).set i [Vi y.st,Vi y.id,Vi y.tr,Vi y.key.k,Vi y.key.n,.string y.key.s,Vi y.has.k,Vi y.has.n,.string y.has.s,Vi y.nx]))] [] (trivial) ?_ ?_
 ·intro R hT hA hmono;refine Aj (bZ hT hA bcs 0 n c2 i (λgh=>.pointer (some ⟨bcs,0 + i * 10,none⟩)) (by first | omega | (simp; omega))) ?_;refine Aj (r_rowset hT hA [0,1,2,3,4,5,6,7] (by kernel_rfl) (by kernel_rfl) (λ_=>by kernel_rfl) 2 (GN R 2) (by kernel_rfl) (by kernel_rfl) (by kernel_rfl) i 0 (g:=bcs) (m:=n) (cap:=c2) (kk:=10) (te:=130) (l:=fK E.calls) (r:=[Vi c.st,Vi c.id,Vi c.tr,Vi c.key.k,Vi c.key.n,.string c.key.s,Vi c.has.k,Vi c.has.n,.string c.has.s,Vi c.nx]) (λgh=>.agg #[Vi y.st,Vi y.id,Vi y.tr,Vi y.key.k,Vi y.key.n,.string y.key.s,Vi y.has.k,Vi y.has.n,.string y.has.s,Vi y.nx]) (λ_=>by kernel_rfl) (λ_=>by kernel_rfl) 130 (.tmp 93) (.tmp 92) (by kernel_rfl) (λ_=>by kernel_rfl) (λ_=>by kernel_rfl) (hrc) (λ_=>by kernel_rfl)) ?_
  trivial
 rintro W16 S17 -;refine go0 4 [] [] ?_;refine wQ [(4,Vp b3),(95,Vp bm)] [.box b8 [Vi y.st,Vi y.id,Vi y.tr,Vi y.key.k,Vi y.key.n,.string y.key.s,Vi y.has.k,Vi y.has.n,.string y.has.s,Vi y.nx],.box bm [.slice (some ⟨b11,o12,none⟩) n c',.slice B' m d',Vi E.pol.t,Vi E.pol.b,Vi E.pol.c,.slice A1 len c1,Vs bcs n c2,.slice A3 n c3,Vi E.now,Vi E.last,Vz],.row (Vs bcs n c2) 130 10 ((fK E.calls).set i [Vi y.st,Vi y.id,Vi y.tr,Vi y.key.k,Vi y.key.n,.string y.key.s,Vi y.has.k,Vi y.has.n,.string y.has.s,Vi y.nx]),.row (.slice A3 n c3) 44 3 (lZ E.vals),.box b3 [Vz,Vz,Vi 0,Vi 0,Vi 0,Vz,Vz,Vz,Vi 0,Vi 0],.box b2 [Vt x.nm,Vi x.id,Vi x.key.k,Vi x.key.n,.string x.key.s,Vi x.ans.k,Vi x.ans.n,.string x.ans.s],.box b1 (eL w E)] [(b11,o12 + i * 9,[Vt f.name,Vi f.kind,Vi f.ty,Vi f.src.op,Vi f.src.k,Vi f.src.n,.string f.src.s,.string f.src.nm,.slice Au nu cu])] ?_;rw [hcs];refine cV 57 8 ?_;refine nQ (Bi:=[.row (Vz) 57 8 ([]),.box bm [.slice (some ⟨b11,o12,none⟩) n c',.slice B' m d',Vi E.pol.t,Vi E.pol.b,Vi E.pol.c,.slice A1 len c1,Vs bcs n c2,.slice A3 n c3,Vi E.now,Vi E.last,Vz],.row (Vs bcs n c2) 130 10 (fK (E.calls.set i y)),.row (.slice A3 n c3) 44 3 (lZ E.vals)]) [0,2,3,4] (λH sH=>hdn bm n rfl _ (some ⟨bcs,0,none⟩) A3 c' c2 c3 (.slice B' m d') (.slice A1 len c1) (Vz) _ ((hfu.sees (S7.trans (S10.trans (S15.trans (S17.trans sH)))))).fields (fri.sees (S10.trans (S15.trans (S17.trans sH))))) ?_; rintro _ _ W18 S19 ⟨ul,rfl,rfl⟩;refine go1 24 [.own,.b 0 0,.b 0 0,.b 6 0] [] ?_;intro b20;refine vQ 1 (v:=sL ul) (e:=57) (kk:=8) (l:=gW S.out) ?_; intro W21 S22 fl;refine vQ 2 (v:=Vs bcs n c2) (e:=130) (kk:=10) (l:=fK S.calls) ?_; intro W23 S24 fc;refine vQ 2 (v:=.slice A3 n c3) (e:=44) (kk:=3) (l:=lZ S.vals) ?_; intro W25 S26 fv;refine hQ.to [.agg #[.slice (some ⟨b11,o12,none⟩) n c',.slice B' m d',Vi E.pol.t,Vi E.pol.b,Vi E.pol.c,.slice A1 len c1,Vs bcs n c2,.slice A3 n c3,Vi E.now,Vi S.last],sL ul,.bool true,Vi 0] (λH sH=>?_) (ix:=[3]);exact (⟨.agg #[.slice _ n c',.slice B' m d',.slice A1 len c1,Vs bcs n c2,.slice A3 n c3,ul],rfl,⟨⟨(hfu.sees (S7.trans (S10.trans (S15.trans (S17.trans (S19.trans (S22.trans (S24.trans (S26.trans sH))))))))),(fri.sees (S10.trans (S15.trans (S17.trans (S19.trans (S22.trans (S24.trans (S26.trans sH)))))))),(fc.sees (S26.trans sH)),(fv.sees sH)⟩,(fl.sees (S24.trans (S26.trans sH)))⟩⟩:HeaR { E with calls:=S.calls,vals:=S.vals,last:=S.last } S.out true _ _)
def cntX:Ex:=.mk 5 0 0 ⟨#[]⟩ ⟨#[]⟩ [refE ⟨#[97]⟩,.mk 1 1 2 ⟨#[]⟩ ⟨#[]⟩ []]
def cntB:Ex:=refE ⟨#[98]⟩
def cntF:Fm:=⟨[⟨⟨#[97]⟩,1,1,zE⟩,⟨⟨#[98]⟩,2,1,cntX⟩,⟨⟨#[99]⟩,3,3,cntB⟩],[⟨⟨#[112]⟩,[⟨#[97]⟩,⟨#[99]⟩],zE⟩]⟩
theorem cntX_wf:WfE cntX:=by
 refine WfE.mk' (.inr (.inr ⟨(by decide:(3:Int) <= 5),(by decide:(5:Int) <= 18),rfl,rfl,rfl,rfl,rfl⟩)) (WfL.all λy hy=>?_);have hy:y∈[refE ⟨#[97]⟩,Ex.mk 1 1 2 ⟨#[]⟩ ⟨#[]⟩ []]:=hy;rcases Tj.1 hy with rfl | hy
 ·exact (wf_leaf (refE_ok ⟨by decide,by decide,⟨_,rfl,by decide⟩,by decide,by decide⟩) rfl).1
 ·rw [Pj.1 hy];exact (wf_leaf (x:=.mk 1 1 2 ⟨#[]⟩ ⟨#[]⟩ []) (.inl ⟨rfl,.inl ⟨rfl,(by unfold Lim; decide:Lim 2),rfl⟩,λ_=>(by decide:(0:Int) <= 2),rfl,rfl⟩) rfl).1
theorem cntB_wf:WfE cntB:=(wf_leaf (refE_ok (s:=⟨#[98]⟩) ⟨by decide,by decide,⟨_,rfl,by decide⟩,by decide,by decide⟩) rfl).1
theorem cnt_ok:OkFs cntF.fields:=by
 refine ⟨λf hf=>?_,by decide,by decide⟩;have hf:f∈[(⟨⟨#[97]⟩,1,1,zE⟩:Fd),⟨⟨#[98]⟩,2,1,cntX⟩,⟨⟨#[99]⟩,3,3,cntB⟩]:=hf;rcases Tj.1 hf with rfl | hf
 ·exact ⟨⟨by decide,by decide,⟨_,rfl,by decide⟩,by decide,by decide⟩,by decide,by decide,by decide,by decide,λ_=>rfl,λh=>absurd rfl h,λh=>absurd h (show ¬ (1:Int)=2 by decide),λh=>absurd h (show ¬ (1:Int)=3 by decide)⟩
 ·rcases Tj.1 hf with rfl | hf
  ·exact ⟨⟨by decide,by decide,⟨_,rfl,by decide⟩,by decide,by decide⟩,by decide,by decide,by decide,by decide,λh=>absurd h (show ¬ (2:Int)=1 by decide),λ_=>⟨cntX_wf,by decide,by decide⟩,λ_=>by decide,λh=>absurd h (show ¬ (2:Int)=3 by decide)⟩
  ·rw [Pj.1 hf];exact ⟨⟨by decide,by decide,⟨_,rfl,by decide⟩,by decide,by decide⟩,by decide,by decide,by decide,by decide,λh=>absurd h (show ¬ (3:Int)=1 by decide),λ_=>⟨cntB_wf,by decide,by decide⟩,λh=>absurd h (show ¬ (3:Int)=2 by decide),λ_=>⟨1,by decide,by decide,by decide⟩⟩
theorem cnt_one {x:Ex} {s:ByteArray} (h:yX x=[s]):mW x=[s]:=by
 unfold mW namesB;rw [h];have e:dd ([s].map λs:ByteArray=>s.data.toList)=[s.data.toList]:=by simp [dd]
 rw [e,List.mergeSort_singleton];simp
theorem cnt_needs:pW cntF.fields=[[],[0],[1]]:=by
 have e1:mW cntX=[⟨#[97]⟩]:=cnt_one (by decide);have e2:mW cntB=[⟨#[98]⟩]:=cnt_one (by decide);show [needE cntF.fields ⟨⟨#[97]⟩,1,1,zE⟩,needE cntF.fields ⟨⟨#[98]⟩,2,1,cntX⟩,needE cntF.fields ⟨⟨#[99]⟩,3,3,cntB⟩]=_;unfold needE;rw [Cj rfl,Bj (by decide),Bj (by decide)];have p1:plc cntF.fields ⟨#[97]⟩=0:=by
  unfold plc;rw [show (⟨#[97]⟩:ByteArray)=(⟨⟨#[97]⟩,1,1,zE⟩:Fd).name from rfl,dQ cnt_ok.nodup (i:=0) rfl]; rfl
 have p2:plc cntF.fields ⟨#[98]⟩=1:=by
  unfold plc;rw [show (⟨#[98]⟩:ByteArray)=(⟨⟨#[98]⟩,2,1,cntX⟩:Fd).name from rfl,dQ cnt_ok.nodup (i:=1) rfl]; rfl
 simp only [e1,e2,Ik,List.map_nil,p1,p2]
def cntL (i:Nat):Nat:=[0,1,2].getD i 0
theorem cnt_ranked:Ranked (pW cntF.fields) [0,1,2] cntL:=by
 rw [cnt_needs];exact ranked_ex (need:=[[],[0],[1]]) (lv:=cntL) (by decide) (by decide)
theorem cnt_okG:OkGs cntF.fields cntF.pages:=by
 have hm:∀ p∈cntF.pages,p=⟨⟨#[112]⟩,[⟨#[97]⟩,⟨#[99]⟩],zE⟩:=λp hp=>Pj.1 hp;have p1:cQ cntF.fields ⟨#[97]⟩=(0:Nat):=dQ cnt_ok.nodup (i:=0) (f:=⟨⟨#[97]⟩,1,1,zE⟩) rfl;have p2:cQ cntF.fields ⟨#[99]⟩=(2:Nat):=dQ cnt_ok.nodup (i:=2) (f:=⟨⟨#[99]⟩,3,3,cntB⟩) rfl;refine ⟨by decide,by decide,λp h=>?_,by decide,λp h=>?_,λp h s hs=>?_,by decide,λp h=>?_⟩
 ·rw [hm p h]; exact ⟨by decide,by decide,⟨_,rfl,by decide⟩,by decide,by decide⟩
 ·rw [hm p h]; decide
 ·rw [hm p h] at hs;have hs:s∈[(⟨#[97]⟩:ByteArray),⟨#[99]⟩]:=hs;rcases Tj.1 hs with rfl | hs
  ·rw [p1]; decide
  ·rw [Pj.1 hs,p2]; decide
 ·rw [hm p h]; exact .inl rfl
theorem cnt_fm:OkFm cntF [0,1,2] cntL:=⟨cnt_ok,cnt_okG,cnt_ranked⟩
theorem cnt_ord:iX [0,1,2] 3=[0,1,2]:=by
 obtain ⟨hp,hr⟩:=ordL_spec [0,1,2] 3 (by decide);generalize iX [0,1,2] 3=os at *;have hl:os.length=3:=hp.length_eq;obtain ⟨a,b,c,rfl⟩:∃ a b c,os=[a,b,c]:=by
  match os,hl with
  | [a,b,c],_=>exact ⟨a,b,c,rfl⟩
 have h1:=hr 0 1 a b (by decide) rfl rfl;have h2:=hr 1 2 b c (by decide) rfl rfl;have hn:=hp.nodup_iff.2 Dx;have ha:=Jk.1 (hp.mem_iff.1 (show a∈[a,b,c] by simp));have hb:=Jk.1 (hp.mem_iff.1 (show b∈[a,b,c] by simp));have hc:=Jk.1 (hp.mem_iff.1 (show c∈[a,b,c] by simp));simp only [Mq,Tj,Bw,or_false,not_or] at hn;rcases (by omega:a=0\/a=1\/a=2) with rfl | rfl | rfl <;> rcases (by omega:b=0\/b=1\/b=2) with rfl | rfl | rfl <;> rcases (by omega:c=0\/c=1\/c=2) with rfl | rfl | rfl <;> first | rfl | omega | (exfalso; revert h1 h2; decide)
def cntP:Pol:=⟨2,3,9⟩
theorem cntP_ok:cntP.ok:=⟨by decide,by decide,by decide,by decide,by decide⟩
def cntC:Cl:=⟨1,1,1,⟨1,0,⟨#[]⟩⟩,zV,3⟩
def cnt0:Lt:=⟨⟨#[99]⟩,1,⟨1,0,⟨#[]⟩⟩,zV⟩
def cnt1:Lt:=⟨⟨#[99]⟩,1,⟨1,0,⟨#[]⟩⟩,⟨3,0,⟨#[111,107]⟩⟩⟩
theorem cnt_set:nY (rW cntF cntP) [0,1,2]=⟨[clZ,clZ,cntC],[⟨1,0,⟨#[]⟩⟩,⟨1,0,⟨#[]⟩⟩,pdV],[(⟨#[97]⟩,⟨1,0,⟨#[]⟩⟩),(⟨#[98]⟩,⟨1,0,⟨#[]⟩⟩),(⟨#[99]⟩,pdV)],1,[cnt0]⟩:=by
 unfold nY;show jY _ _ _ _ _ (iX [0,1,2] 3)=_;rw [cnt_ord]
 kernel_rfl
def cntEg:Eg:=⟨cntF,cntP,[],[clZ,clZ,cntC],[⟨1,0,⟨#[]⟩⟩,⟨1,0,⟨#[]⟩⟩,pdV],0,1⟩
theorem cnt_sett:oY (rW cntF cntP) [0,1,2]=cntEg:=by unfold oY; rw [cnt_set]; rfl
theorem cnt_hear:(nY (pV cntEg 2 cnt1 cntC) [0,1,2]).vals=[⟨1,0,⟨#[]⟩⟩,⟨1,0,⟨#[]⟩⟩,⟨3,0,⟨#[111,107]⟩⟩] /\ (nY (pV cntEg 2 cnt1 cntC) [0,1,2]).last=1:=by
 unfold nY;show (jY _ _ _ _ _ (iX [0,1,2] 3)).vals=_ /\ (jY _ _ _ _ _ (iX [0,1,2] 3)).last=_;rw [cnt_ord];exact ⟨by kernel_rfl,by kernel_rfl⟩
theorem cntE_ok:EgOk cntEg [0,1,2] cntL:=by
 have:=settE_ok (newE_ok cnt_fm (by decide) cntP_ok) (by rw [cnt_set]; decide)
 rwa [cnt_sett] at this
theorem cntE_settled:Settled cntEg [0,1,2]:=by
 have:=pY (newE_ok cnt_fm (by decide) cntP_ok)
 rwa [cnt_sett] at this
theorem cnt_takes:Takes ⟨⟨#[99]⟩,3,3,cntB⟩ cnt1 cntC:=⟨rfl,rfl,by kernel_rfl,by decide,rfl⟩
def NewR (E:Eg) (lt:List Lt) (v:Value) (Bo:List Ent) (H:Vw):Prop:=∃ u A c,v=.tuple #[.agg (eA u E),.slice A lt.length c,Vi 0] /\ Bo=[.row (.slice A lt.length c) 57 8 (gW lt)] /\ IsEng H u E
theorem new_con (f:Fm) (ρ:List Int) (lv:Nat -> Nat) (hok:OkFm f ρ lv) (h1:1 <= f.fields.length) (p:Pol) (hp:p.ok) (fv pv:Value) (h:Vw) (hf:IsForm h fv pv f) :
  ConE Tryz.prog 11 #[.agg #[fv,pv],.agg #[Vi p.t,Vi p.b,Vi p.c]] h [] (NewR (oY (rW f p) ρ) (nY (rW f p) ρ).out):=by
 have few:=hok.fields.few;have hgc:=c_gapChk p hp;have hnl:=(newE_last hok h1 hp).2;have hok':=newE_ok hok h1 hp;have hdn:=λb n hn A A2 A3 c c2 c3 gv iv lw0 H q1 q2=>settle_eg (rW f p) ρ lv hok' b n hn A A2 A3 c c2 c3 gv iv lw0 H q1 q2 (by omega);have hS:=λfv pv H q=>shCopy_any f ρ lv hok fv pv H q;obtain ⟨vs,A,c,rfl,-,-,-,-,-,-⟩:=bQ hf.fields;obtain ⟨us,ws,B,d,rfl,-,-,-,-,-,-⟩:=oX hf.pages;have hsc:=λH q=>shCheck_any f ρ lv A f.fields.length c B f.pages.length d H hok q rfl;obtain ⟨S,hS'⟩:∃ S,nY (rW f p) ρ=S:=⟨_,rfl⟩;have hres:oY (rW f p) ρ={ rW f p with calls:=S.calls,vals:=S.vals,last:=S.last }:=by unfold oY; rw [hS']
 rw [hS'] at hdn;have hcl:List.replicate f.fields.length [Vi 0,Vi 0,Vi 0,Vi 0,Vi 0,.string ⟨#[]⟩,Vi 0,Vi 0,.string ⟨#[]⟩,Vi 0]=fK (rW f p).calls:=rep_cl f.fields.length;have hvl:List.replicate f.fields.length [Vi 0,Vi 0,.string ⟨#[]⟩]=lZ (rW f p).vals:=rep_vl f.fields.length;generalize hn:f.fields.length=n at *;generalize hm:f.pages.length=m at *;refine g_conE Tryz.func11 λhbad Q hQ=>?_;refine go3 52 [.own,.own,.own,.b 2 0,.cl 41 #[.agg #[.slice A n c,.slice B m d]] (Vi 0),.b 1 0,.cl 42 #[.agg #[Vi p.t,Vi p.b,Vi p.c]] (Vi 0),.b 2 0] [] ?_ (ho:=(Aj (λH sH=>hsc _ (hf.sees sH)) (Aj (λH sH=>hgc _) (trivial))));intro b1 b2 b3;refine fV 11 3 [.ld 5 0,.f (λgh=>.agg #[sL (agJ 0 (gh 1)),sL (agJ 1 (gh 1))]) (λgh hh=>FormU hh (gh 1) f),.ld 4 0,.pu,.e (λgh=>.slice (some ⟨(uJ (gh 4)),0,none⟩) n n) 0 (λgh=>.row (.slice (some ⟨(uJ (gh 4)),0,none⟩) n n) 130 10 (List.replicate n [Vi 0,Vi 0,Vi 0,Vi 0,Vi 0,Ve,Vi 0,Vi 0,Ve,Vi 0])),.pu,.e (λgh=>.slice (some ⟨(uJ (gh 6)),0,none⟩) n n) 1 (λgh=>.row (.slice (some ⟨(uJ (gh 6)),0,none⟩) n n) 44 3 (List.replicate n [Vi 0,Vi 0,Ve])),.pu,.pu,.al 2,.pu] [(1,false),(4,true),(6,true),(9,true)] (Aj (λ_ _ _ s c=>c.sees s) (trivial)) ?_ ?_
 ·intro R hT hA hmono;refine Aj (vX hT hA hmono 27 (λu=>.agg #[sL (agJ 0 u),sL (agJ 1 u)]) [0] 1 43 (λgh=>#[.agg #[.slice A n c,.slice B m d]]) (λgh H sH fH lent=>C0.facts (R:=R) (x:=gh) (i:=1) (n:=0) (F:=(λu=>.agg #[sL (agJ 0 u),sL (agJ 1 u)])) (G:=λu hh=>FormU hh u f) (f:=λgh hh=>FormU hh (gh 1) f) (hS _ _ _ (hf.sees sH)) (by kernel_rfl) (by kernel_rfl) (λ_ _ r=>r))) ?_;refine Aj (r_make hT hA hmono ⟨λ_ _=>by kernel_rfl,λ_ _=>by kernel_rfl,λ_ _=>by kernel_rfl⟩ (by kernel_rfl) 30 [3] 4 n (by kernel_rfl) (λ_=>by kernel_rfl) 0 (GN R 0) (by kernel_rfl) (by kernel_rfl) (by kernel_rfl) (t:=33) (te:=130) (z:=.agg #[Vi 0,Vi 0,Vi 0,Vi 0,Vi 0,Ve,Vi 0,Vi 0,Ve,Vi 0]) (cs:=[Vi 0,Vi 0,Vi 0,Vi 0,Vi 0,Ve,Vi 0,Vi 0,Ve,Vi 0]) (y:=(.tmp 29)) (by_:=96) (kk:=10) (λ_=>by kernel_rfl) (λ_=>by kernel_rfl) (by kernel_rfl) (λ_=>by kernel_rfl) Tryz.underlying33 (by kernel_rfl) rfl rfl (by decide) (by omega) (by omega) (by simp only [maxLen]; omega)) ?_;refine Aj (r_make hT hA hmono ⟨λ_ _=>by kernel_rfl,λ_ _=>by kernel_rfl,λ_ _=>by kernel_rfl⟩ (by kernel_rfl) 32 [5] 6 n (by kernel_rfl) (λ_=>by kernel_rfl) 1 (GN R 1) (by kernel_rfl) (by kernel_rfl) (by kernel_rfl) (t:=34) (te:=44) (z:=.agg #[Vi 0,Vi 0,Ve]) (cs:=[Vi 0,Vi 0,Ve]) (y:=(.tmp 31)) (by_:=32) (kk:=3) (λ_=>by kernel_rfl) (λ_=>by kernel_rfl) (by kernel_rfl) (λ_=>by kernel_rfl) Tryz.underlying34 (by kernel_rfl) rfl rfl (by decide) (by omega) (by omega) (by simp only [maxLen]; omega)) ?_
  trivial
 rintro u27 bcq bvq bm W4 S5 ⟨f27,-⟩;replace f27:FormU W4 u27 f:=f27;refine go0 4 [] [] ?_;obtain ⟨-,A6,c6,e6,-,-,-,-,-,-⟩:=bQ f27.fields;rw [hn] at e6;refine wQ [(4,Vp b3),(36,Vp bm)] [.row (Vs bcq n n) 130 10 (List.replicate n [Vi 0,Vi 0,Vi 0,Vi 0,Vi 0,Ve,Vi 0,Vi 0,Ve,Vi 0]),.row (Vs bvq n n) 44 3 (List.replicate n [Vi 0,Vi 0,Ve]),.box bm [sL (agJ 0 u27),sL (agJ 1 u27),Vi p.t,Vi p.b,Vi p.c,Vz,Vs bcq n n,Vs bvq n n,Vi 0,Vi 0,Vz],.box b3 [Vz,Vz,Vi 0,Vi 0,Vi 0,Vz,Vz,Vz,Vi 0,Vi 0],.box b2 [Vi p.t,Vi p.b,Vi p.c],.box b1 [.slice A n c,.slice B m d]] [] ?_;rw [e6,hcl,hvl];have f28:=f27.fields;rw [e6] at f28;refine g_front 2 ?_;refine cV 57 8 ?_;refine nQ (Bi:=[.row (Vz) 57 8 ([]),.box bm [.slice A6 n c6,sL (agJ 1 u27),Vi p.t,Vi p.b,Vi p.c,Vz,Vs bcq n n,Vs bvq n n,Vi 0,Vi 0,Vz],.row (Vs bcq n n) 130 10 (fK (rW f p).calls),.row (Vs bvq n n) 44 3 (lZ (rW f p).vals)]) [0,1,2,3] (λH sH=>hdn bm n hn A6 (some ⟨bcq,0,none⟩) (some ⟨bvq,0,none⟩) c6 n n (agJ 1 u27) (Vz) (Vz) _ (f28.sees sH) (RS.nil _ 7)) ?_; rintro _ _ W6 S7 ⟨ul,rfl,rfl⟩;refine go0 9 [.b 4 0] [] ?_;refine vQ 2 (v:=Vs bcq n n) (e:=130) (kk:=10) (l:=fK S.calls) ?_; intro W8 S9 fc;refine vQ 2 (v:=Vs bvq n n) (e:=44) (kk:=3) (l:=lZ S.vals) ?_; intro W10 S11 fv;refine uQ 0 (v:=sL ul) (e:=57) (kk:=8) (l:=gW S.out) ?_; intro Al cl hE_ul hc_ul hm_ul;rw [show (gW S.out).length=S.out.length from by first | omega | (simp; done) | (simp; omega)] at hE_ul hc_ul;rw [hE_ul];refine hQ.to [.agg #[.slice A6 n c6,sL (agJ 1 u27),Vi p.t,Vi p.b,Vi p.c,Vz,Vs bcq n n,Vs bvq n n,Vi 0,Vi S.last],.slice Al S.out.length cl,Vi 0] [0] [.row (.slice Al S.out.length cl) 57 8 (gW S.out)] (λH sH=>?_) (ix:=[2]);exact (by rw [hres,hS']; exact ⟨.agg #[.slice A6 n c6,agJ 1 u27,Vz,Vs bcq n n,Vs bvq n n,ul],Al,cl,rfl,rfl,⟨⟨(f28.sees (S7.trans (S9.trans (S11.trans sH)))),IsForm.pages (f27.sees (S7.trans (S9.trans (S11.trans sH))))⟩,RS.nil _ 7,(fc.sees (S11.trans sH)),(fv.sees sH)⟩⟩:NewR (oY (rW f p) ρ) (nY (rW f p) ρ).out _ _ _)
def tkM:List TokA:=[⟨⟨2,[97],0,0,[]⟩,0⟩,⟨⟨4,[42],0,0,[]⟩,2⟩,⟨⟨1,[50],1,2,[]⟩,4⟩]
def tkN:List TokA:=[⟨⟨2,[98],0,0,[]⟩,0⟩]
theorem sim_m:SimT (tkM.map (·.t)):=λk=>by
 match k with
 | 0=>decide
 | 1=>decide
 | 2=>decide
 | k + 3=>exact ⟨rfl,rfl,rfl,rfl,rfl,rfl,rfl⟩
theorem sim_n:SimT (tkN.map (·.t)):=λk=>by
 match k with
 | 0=>decide
 | k + 1=>exact ⟨rfl,rfl,rfl,rfl,rfl,rfl,rfl⟩
theorem tok_m:TokS ⟨#[97,32,42,32,50]⟩ tkM (λj=>[0,1,1,2,2,3].getD j 0):=by
 refine ⟨by decide,by decide,rfl,rfl,λj h e=>?_,λj h e=>?_⟩
 ·have h5:j < 5:=h;rcases (by omega:j=0\/j=1\/j=2\/j=3\/j=4) with rfl | rfl | rfl | rfl | rfl <;> first | rfl | exact absurd e (show ¬ (97:UInt8)=32 by decide) | exact absurd e (show ¬ (42:UInt8)=32 by decide) | exact absurd e (show ¬ (50:UInt8)=32 by decide)
 ·have h5:j < 5:=h;rcases (by omega:j=0\/j=1\/j=2\/j=3\/j=4) with rfl | rfl | rfl | rfl | rfl
  ·exact ⟨rfl,_,rfl,rfl,rfl,rfl,one_a⟩
  ·exact absurd rfl e
  ·exact ⟨rfl,_,rfl,rfl,rfl,rfl,one_m⟩
  ·exact absurd rfl e
  ·exact ⟨rfl,_,rfl,rfl,rfl,rfl,one_2⟩
theorem tok_n:TokS ⟨#[98]⟩ tkN id:=by
 refine ⟨by decide,by decide,rfl,rfl,λj h e=>?_,λj h e=>?_⟩
 ·obtain rfl:j=0:=by have:j < 1:=h; omega
  exact absurd e (show ¬ (98:UInt8)=32 by decide)
 ·obtain rfl:j=0:=by have:j < 1:=h; omega
  exact ⟨rfl,_,rfl,rfl,rfl,rfl,one_b⟩
theorem src_m (H:Vw):C0 Tryz.prog 119 #[Vt ⟨#[97,32,42,32,50]⟩] H (λr h'=>∃ u,r=.tuple #[.agg #[Vi cntX.op,Vi cntX.k,Vi cntX.n,.string cntX.s,.string cntX.nm,sL u],Vi 0] /\ IsArgs h' cntX (sL u)) :=
 parse_s _ tkM cntX 12 H (λH=>tokens_c _ tkM _ tok_m H) sim_m (by decide) (by kernel_rfl) cntX_wf (by decide) (by kernel_rfl)
theorem src_n (H:Vw):C0 Tryz.prog 119 #[Vt ⟨#[98]⟩] H (λr h'=>∃ u,r=.tuple #[.agg #[Vi cntB.op,Vi cntB.k,Vi cntB.n,.string cntB.s,.string cntB.nm,sL u],Vi 0] /\ IsArgs h' cntB (sL u)) :=
 parse_s _ tkN cntB 12 H (λH=>tokens_c _ tkN _ tok_n H) sim_n (by decide) (by kernel_rfl) cntB_wf (by decide) (by kernel_rfl)
theorem cutp_k (s t:ByteArray) (b:Bool) (e1:mkB (Lib.trimPrefix s.data.toList [112,97,103,101,32])=t) (e2:Lib.hasPrefix s.data.toList [112,97,103,101,32]=b) (H:Vw):C0 Tryz.prog 68 #[Vt s,.string ⟨#[112,97,103,101,32]⟩] H (λr _=>r=.tuple #[Vt t,.bool b]):=by
 rw [<- e1, <- e2];exact c_cutp s ⟨#[112,97,103,101,32]⟩ H
theorem ixK (s:ByteArray) (k:Int) (e:wix [105,110,112,117,116] [102,111,114,109,117,108,97] [108,111,111,107,117,112] s.data.toList=k) (H:Vw):C0 Tryz.prog 121 #[.agg #[Vt ⟨#[]⟩,.string ⟨#[105,110,112,117,116]⟩,.string ⟨#[102,111,114,109,117,108,97]⟩,.string ⟨#[108,111,111,107,117,112]⟩],.string s] H (λr _=>r=Vi k):=by
 rw [<- e];exact index_any _ _ _ s H
theorem ixT (s:ByteArray) (k:Int) (e:wix [105,110,116] [98,111,111,108] [116,101,120,116] s.data.toList=k) (H:Vw):C0 Tryz.prog 121 #[.agg #[Vt ⟨#[]⟩,.string ⟨#[105,110,116]⟩,.string ⟨#[98,111,111,108]⟩,.string ⟨#[116,101,120,116]⟩],.string s] H (λr _=>r=Vi k):=by
 rw [<- e];exact index_any _ _ _ s H
theorem str_flat:∀ l:List ByteArray,(l.map λs=>s.data.toList).map (λx=>Value.string (mkB x))=(yY l).flatten
 | []=>rfl
 | s :: l=>by
  show Value.string (mkB s.data.toList) :: (l.map λs=>s.data.toList).map (λx=>Value.string (mkB x))=Value.string s :: (yY l).flatten;rw [str_flat l, <- (mkB_eq rfl:s=mkB s.data.toList)]
theorem c_splitR (s sep:ByteArray) (l:List ByteArray) (n:Nat) (hn:l.length=n) (H:Vw) (q:Lk H) (hs:s.size <= 1000) (h1:1 <= sep.size) (n1:n <= 100) (e:Lib.split s.data.toList sep.data.toList=l.map λs=>s.data.toList):C0 Tryz.prog 67 #[Vt s,.string sep] H (λr h'=>∃ b,r=.slice (some ⟨b,0,none⟩) n n /\ RS h' 1 (.slice (some ⟨b,0,none⟩) n n) (yY l)):=by
 refine (c_splitC s sep _ H q (by omega) h1 e).mono λv h' _ k=>?_;obtain ⟨b,e,c⟩:=k;rw [Ij,hn] at e;rw [str_flat] at c;have hr:=rs_cells (k:=1) (yY l) (λr hr=>by obtain ⟨s,-,rfl⟩:=Rj.1 hr; rfl) (by rw [Ij]; unfold maxLen; omega) c;rw [Ij,hn] at hr;exact ⟨b,e,hr⟩
def lnA:ByteArray:=⟨#[105,110,112,117,116,32,97,32,105,110,116]⟩
def lnB:ByteArray:=⟨#[102,111,114,109,117,108,97,32,98,32,105,110,116,32,61,32,97,32,42,32,50]⟩
def lnC:ByteArray:=⟨#[108,111,111,107,117,112,32,99,32,116,101,120,116,32,61,32,98]⟩
def lnP:ByteArray:=⟨#[112,97,103,101,32,112,58,32,97,44,32,99]⟩
def lnQ:ByteArray:=⟨#[112,58,32,97,44,32,99]⟩
theorem rd_a (H:Vw) (q:Lk H):C0 Tryz.prog 70 #[Vt lnA] H (λr h'=>∃ u,r=.tuple #[.agg #[Vt ⟨#[97]⟩,Vi 1,Vi 1,Vi zE.op,Vi zE.k,Vi zE.n,.string zE.s,.string zE.nm,sL u],Vi 0] /\ IsArgs h' zE (sL u)) :=
 (rdF_inp lnA (mkB [105,110,112,117,116,32,97,32,105,110,116]) (mkB [105,110,112,117,116]) ⟨#[97]⟩ (mkB [105,110,116]) 1 H q (by decide)
  (λH q=>c_cut lnA ⟨#[32,61,32]⟩ _ _ _ H q (by decide) (by kernel_rfl))
  (λH q=>c_splitC (mkB [105,110,112,117,116,32,97,32,105,110,116]) ⟨#[32]⟩ [[105,110,112,117,116],[97],[105,110,116]] H q (by decide) (by decide) (by kernel_rfl))
  (ixK _ 1 (by kernel_rfl)) (ixT _ 1 (by kernel_rfl)) (λH=>c_name ⟨#[97]⟩ H (cnt_ok.each ⟨⟨#[97]⟩,1,1,zE⟩ (Ej (i:=0) rfl)).name)).mono λv h' _ e=>⟨.slice none 0 0,e,sJ _ _ rfl⟩
theorem rd_b (H:Vw) (q:Lk H):C0 Tryz.prog 70 #[Vt lnB] H (λr h'=>∃ u,r=.tuple #[.agg #[Vt ⟨#[98]⟩,Vi 2,Vi 1,Vi cntX.op,Vi cntX.k,Vi cntX.n,.string cntX.s,.string cntX.nm,sL u],Vi 0] /\ IsArgs h' cntX (sL u)) :=
 rdF_src cntF.fields ⟨⟨#[98]⟩,2,1,cntX⟩ lnB (mkB [102,111,114,109,117,108,97,32,98,32,105,110,116]) ⟨#[97,32,42,32,50]⟩ (mkB [102,111,114,109,117,108,97]) (mkB [105,110,116]) H q (cnt_ok.each _ (Ej (i:=1) rfl)) (by decide)
  (λH q=>c_cut lnB ⟨#[32,61,32]⟩ _ [97,32,42,32,50] _ H q (by decide) (by kernel_rfl))
  (λH q=>c_splitC (mkB [102,111,114,109,117,108,97,32,98,32,105,110,116]) ⟨#[32]⟩ [[102,111,114,109,117,108,97],[98],[105,110,116]] H q (by decide) (by decide) (by kernel_rfl))
  (ixK _ 2 (by kernel_rfl)) (ixT _ 1 (by kernel_rfl)) src_m
theorem rd_c (H:Vw) (q:Lk H):C0 Tryz.prog 70 #[Vt lnC] H (λr h'=>∃ u,r=.tuple #[.agg #[Vt ⟨#[99]⟩,Vi 3,Vi 3,Vi cntB.op,Vi cntB.k,Vi cntB.n,.string cntB.s,.string cntB.nm,sL u],Vi 0] /\ IsArgs h' cntB (sL u)) :=
 rdF_src cntF.fields ⟨⟨#[99]⟩,3,3,cntB⟩ lnC (mkB [108,111,111,107,117,112,32,99,32,116,101,120,116]) ⟨#[98]⟩ (mkB [108,111,111,107,117,112]) (mkB [116,101,120,116]) H q (cnt_ok.each _ (Ej (i:=2) rfl)) (by decide)
  (λH q=>c_cut lnC ⟨#[32,61,32]⟩ _ [98] _ H q (by decide) (by kernel_rfl))
  (λH q=>c_splitC (mkB [108,111,111,107,117,112,32,99,32,116,101,120,116]) ⟨#[32]⟩ [[108,111,111,107,117,112],[99],[116,101,120,116]] H q (by decide) (by decide) (by kernel_rfl))
  (ixK _ 3 (by kernel_rfl)) (ixT _ 3 (by kernel_rfl)) src_n
theorem nm_ok {c:UInt8} (h:isLet c=true) (hk:isKey [c]=false):qJ [c]:=⟨Hj 1,(by decide:1 <= 10),⟨c,rfl,h⟩,by unfold spanN; rw [List.takeWhile_cons,show sV c=true by unfold sV; rw [h]; rfl]; rfl,hk⟩
theorem rd_p (H:Vw) (q:Lk H):C0 Tryz.prog 69 #[Vt lnQ] H (λr h'=>∃ u v,r=.tuple #[.agg #[Vt ⟨#[112]⟩,sL u,Vi zE.op,Vi zE.k,Vi zE.n,.string zE.s,.string zE.nm,sL v],Vi 0] /\ RS h' 1 (sL u) (yY [⟨#[97]⟩,⟨#[99]⟩]) /\ IsArgs h' zE (sL v)) :=
 rdP_c lnQ (mkB [97,44,32,99]) ⟨#[112]⟩ [⟨#[97]⟩,⟨#[99]⟩] 2 H q rfl (by decide) (by rw [Lib.toList_data,Lib.toList_data]; decide)
  (λH q=>c_cut lnQ ⟨#[58,32]⟩ [112] _ _ H q (by decide) (by kernel_rfl))
  (λH q=>c_cut (mkB [97,44,32,99]) ⟨#[59,32]⟩ _ _ _ H q (by decide) (by kernel_rfl))
  (λH q=>c_splitR (mkB [97,44,32,99]) ⟨#[44,32]⟩ [⟨#[97]⟩,⟨#[99]⟩] 2 rfl H q (by decide) (by decide) (by decide) (by kernel_rfl))
  (nm_ok (c:=112) (by decide) (by decide)) (λs hs=>by
   rcases Tj.1 hs with rfl | hs
   ·exact nm_ok (c:=97) (by decide) (by decide)
   ·rw [Pj.1 hs]; exact nm_ok (c:=99) (by decide) (by decide))
def txtK:ByteArray:=⟨#[105,110,112,117,116,32,97,32,105,110,116,10,102,111,114,109,117,108,97,32,98,32,105,110,116,32,61,32,97,32,42,32,50,10,108,111,111,107,117,112,32,99,32,116,101,120,116,32,61,32,98,10,112,97,103,101,32,112,58,32,97,44,32,99]⟩
theorem cnt_rdf:RdF cntF [lnA,lnB,lnC,lnP] (λ_=>lnQ):=by
 refine ⟨λk f hk=>?_,λk p hk=>?_⟩
 ·have h3:k < 3:=(Nj.1 hk).1;rcases (by omega:k=0\/k=1\/k=2) with rfl | rfl | rfl
  ·obtain rfl:⟨⟨#[97]⟩,1,1,zE⟩=f:=Dk hk;exact ⟨lnA,rfl,cutp_k _ _ _ (by kernel_rfl) (by kernel_rfl),λH q=>rd_a H q⟩
  ·obtain rfl:⟨⟨#[98]⟩,2,1,cntX⟩=f:=Dk hk;exact ⟨lnB,rfl,cutp_k _ _ _ (by kernel_rfl) (by kernel_rfl),λH q=>rd_b H q⟩
  ·obtain rfl:⟨⟨#[99]⟩,3,3,cntB⟩=f:=Dk hk;exact ⟨lnC,rfl,cutp_k _ _ _ (by kernel_rfl) (by kernel_rfl),λH q=>rd_c H q⟩
 ·have h1:k < 1:=(Nj.1 hk).1;obtain rfl:k=0:=by omega
  obtain rfl:⟨⟨#[112]⟩,[⟨#[97]⟩,⟨#[99]⟩],zE⟩=p:=Dk hk;exact ⟨lnP,rfl,cutp_k _ _ _ (by kernel_rfl) (by kernel_rfl),λH q=>rd_p H q⟩
theorem read_k (H:Vw) (q:Lk H):C0 Tryz.prog 25 #[Vt txtK] H (λr h'=>∃ u v,r=.tuple #[.agg #[sL u,sL v],Vi 0,Vi 0] /\ IsForm h' (sL u) (sL v) cntF) :=
 read_c cntF _ _ txtK _ _ H q cnt_fm cnt_rdf λH q=>c_splitR txtK ⟨#[10]⟩ [lnA,lnB,lnC,lnP] 4 rfl H q (by decide) (by decide) (by decide) (by kernel_rfl)
theorem hear_k (w:Value) (H:Vw) (hE:IsEng H w cntEg):C0 Tryz.prog 45 #[.agg (eA w cntEg),.agg #[Vt ⟨#[99]⟩,Vi 1,Vi 1,Vi 0,.string ⟨#[]⟩,Vi 3,Vi 0,.string ⟨#[111,107]⟩]] H (λr h'=>∃ u,r=.tuple #[.agg #[sL (agJ 0 u),sL (agJ 1 u),Vi 2,Vi 3,Vi 9,sL (agJ 2 u),sL (agJ 3 u),.slice (sA (agJ 4 u)) 3 (sC (agJ 4 u)),Vi 0,Vi 1],sL (agJ 5 u),.bool true,Vi 0] /\ RS h' 3 (.slice (sA (agJ 4 u)) 3 (sC (agJ 4 u))) (lZ [⟨1,0,⟨#[]⟩⟩,⟨1,0,⟨#[]⟩⟩,⟨3,0,⟨#[111,107]⟩⟩])):=by
 refine (hear_any cntEg [0,1,2] cntL cntE_ok cntE_settled 2 ⟨⟨#[99]⟩,3,3,cntB⟩ cnt1 cntC rfl rfl rfl (.inl (.inr (.inr ⟨rfl,rfl,by decide,by decide⟩))) cnt_takes (by rw [cnt_hear.2]; decide) w H hE).mono λr h' _ k=>?_;obtain ⟨u,e,hT⟩:=k;have hv:=hT.eng.vals;have e1:(oY (pV cntEg 2 cnt1 cntC) [0,1,2]).vals=_:=cnt_hear.1;rw [e1] at hv;obtain ⟨A,c,e2,-⟩:=hv.form;have e3:sN (agJ 4 u)=3:=Dj sN e2;have e4:(oY (pV cntEg 2 cnt1 cntC) [0,1,2]).last=1:=cnt_hear.2;have k1:∀ (m:Nat) (t:Int),m=3 -> t=1 -> Value.tuple #[.agg #[sL (agJ 0 u),sL (agJ 1 u),Vi 2,Vi 3,Vi 9,sL (agJ 2 u),sL (agJ 3 u),.slice (sA (agJ 4 u)) m (sC (agJ 4 u)),Vi 0,Vi t],sL (agJ 5 u),.bool true,Vi 0]=.tuple #[.agg #[sL (agJ 0 u),sL (agJ 1 u),Vi 2,Vi 3,Vi 9,sL (agJ 2 u),sL (agJ 3 u),.slice (sA (agJ 4 u)) 3 (sC (agJ 4 u)),Vi 0,Vi 1],sL (agJ 5 u),.bool true,Vi 0]:=by
  intro m t q1 q2;rw [q1,q2]
 have k2:∀ m:Nat,m=3 -> RS h' 3 (.slice (sA (agJ 4 u)) m (sC (agJ 4 u))) (lZ [⟨1,0,⟨#[]⟩⟩,⟨1,0,⟨#[]⟩⟩,⟨3,0,⟨#[111,107]⟩⟩]) -> RS h' 3 (.slice (sA (agJ 4 u)) 3 (sC (agJ 4 u))) (lZ [⟨1,0,⟨#[]⟩⟩,⟨1,0,⟨#[]⟩⟩,⟨3,0,⟨#[111,107]⟩⟩]):=by
  intro m q1 q2;rw [q1] at q2;exact q2
 exact ⟨u,e.trans (k1 _ _ e3 e4),k2 _ e3 hv⟩
theorem new_k (H:Vw) (fv pv:Value) (q:IsForm H fv pv cntF):ConE Tryz.prog 11 #[.agg #[fv,pv],.agg #[Vi 2,Vi 3,Vi 9]] H [] (NewR cntEg [cnt0]):=by
 have:=new_con cntF _ _ cnt_fm (by decide) cntP cntP_ok fv pv H q
 rw [cnt_sett,cnt_set] at this;exact this
theorem counts_c (h:Vw) (lk:Lk h):C0 Tryz.prog 13 #[] h (λv _=>v=.bool true):=by
 have hR:=λH q=>read_k H q;unfold txtK at hR;have hN:=λH fv pv q=>new_k H fv pv q;have hH:=λw H q=>hear_k w H q;have hrl:(gW [cnt0])[0]?=some [Vt ⟨#[99]⟩,Vi 1,Vi 1,Vi 0,.string ⟨#[]⟩,Vi 0,Vi 0,.string ⟨#[]⟩]:=rfl;have hrv:(lZ [⟨1,0,⟨#[]⟩⟩,⟨1,0,⟨#[]⟩⟩,⟨3,0,⟨#[111,107]⟩⟩])[2]?=some [Vi 3,Vi 0,.string ⟨#[111,107]⟩]:=rfl;refine pQ Tryz.func13 λhbx hbad Q hQ=>?_;refine go0 7 [] [] ?_;refine kQ (λH sH=>hR _ (lk.sees sH)) ?_; rintro _ W1 S2 ⟨u,v,rfl,hf⟩;refine go1 14 [.own,.b 0 0,.b 0 0] [] ?_;intro b3;refine nQ (Bi:=[]) [] (λH sH=>hN _ _ _ (hf.sees sH)) ?_; rintro _ _ W4 S5 ⟨ue,A,c,rfl,rfl,hE⟩;refine go1 33 [.own,.b 0 0] [] ?_;intro b6;refine g_get (λa w hJ=>own_some (hJ.rowOwn (v:=.slice A 1 c) (e:=57) (kk:=8) (l:=gW [cnt0]) 1 (by kernel_rfl)) ((by decide))) ?_; rintro ⟨bl,rfl⟩;refine go0 2 [.ix bl 0 1 c 0] [] ?_ (ho:=(Aj (by first | omega | (simp; omega)) (trivial)));refine g_rowset 1 0 5 (g:=bl) (m:=1) (cap:=c) (kk:=8) (e:=57) (l:=gW [cnt0]) (r:=[Vt ⟨#[99]⟩,Vi 1,Vi 1,Vi 0,Ve,Vi 0,Vi 0,Ve]) (r':=[Vt ⟨#[99]⟩,Vi 1,Vi 1,Vi 0,Ve,Vi 3,Vi 0,.string ⟨#[111,107]⟩]) (t:=44) (x:=(.tmp 37)) (y:=(.tmp 35)) (v:=.agg #[Vi 3,Vi 0,.string ⟨#[111,107]⟩]) (hrl) ?_;refine go0 3 [] [] ?_;refine fV 15 1 [.ld 1 0,.pu,.v (λgh=>.pointer (some ⟨bl,0 + 0 * 8,none⟩)),.v (λgh=>.agg #[Vt ⟨#[99]⟩,Vi 1,Vi 1,Vi 0,Ve,Vi 3,Vi 0,.string ⟨#[111,107]⟩]),.f (λgh=>.tuple #[.agg #[sL (agJ 0 (gh 4)),sL (agJ 1 (gh 4)),Vi 2,Vi 3,Vi 9,sL (agJ 2 (gh 4)),sL (agJ 3 (gh 4)),.slice (sA (agJ 4 (gh 4))) 3 (sC (agJ 4 (gh 4))),Vi 0,Vi 1],sL (agJ 5 (gh 4)),.bool true,Vi 0]) (λgh hh=>RS hh 3 (.slice (sA (agJ 4 (gh 4))) 3 (sC (agJ 4 (gh 4)))) (lZ [⟨1,0,⟨#[]⟩⟩,⟨1,0,⟨#[]⟩⟩,⟨3,0,⟨#[111,107]⟩⟩])),.pu,.pu,.pu,.pu,.pu,.al 0,.st 0 0,.pu,.pu,.pu] [(4,false),(10,true)] (Aj (λ_ _ _ s c=>c.sees s) (trivial)) ?_ ?_
 ·intro R hT hA hmono;refine Aj (bZ hT hA bl 0 1 c 0 (λgh=>.pointer (some ⟨bl,0 + 0 * 8,none⟩)) (by first | omega | (simp; omega))) ?_;refine Aj (r_rowget' hT hA 42 (λgh=>.agg #[Vt ⟨#[99]⟩,Vi 1,Vi 1,Vi 0,Ve,Vi 3,Vi 0,.string ⟨#[111,107]⟩]) [2] 3 2 (GN R 2) bl 1 c 8 57 ((gW [cnt0]).set 0 [Vt ⟨#[99]⟩,Vi 1,Vi 1,Vi 0,Ve,Vi 3,Vi 0,.string ⟨#[111,107]⟩]) 0 0 (r:=[Vt ⟨#[99]⟩,Vi 1,Vi 1,Vi 0,Ve,Vi 3,Vi 0,.string ⟨#[111,107]⟩]) (rfl) 57 (.tmp 41)) ?_;refine Aj (vX hT hA hmono 43 (λu=>.tuple #[.agg #[sL (agJ 0 u),sL (agJ 1 u),Vi 2,Vi 3,Vi 9,sL (agJ 2 u),sL (agJ 3 u),.slice (sA (agJ 4 u)) 3 (sC (agJ 4 u)),Vi 0,Vi 1],sL (agJ 5 u),.bool true,Vi 0]) [0,3] 4 45 (λgh=>#[.agg (eA ue cntEg),.agg #[Vt ⟨#[99]⟩,Vi 1,Vi 1,Vi 0,Ve,Vi 3,Vi 0,.string ⟨#[111,107]⟩]]) (λgh H sH fH lent=>C0.facts (R:=R) (x:=gh) (i:=4) (n:=0) (F:=(λu=>.tuple #[.agg #[sL (agJ 0 u),sL (agJ 1 u),Vi 2,Vi 3,Vi 9,sL (agJ 2 u),sL (agJ 3 u),.slice (sA (agJ 4 u)) 3 (sC (agJ 4 u)),Vi 0,Vi 1],sL (agJ 5 u),.bool true,Vi 0])) (G:=λu hh=>RS hh 3 (.slice (sA (agJ 4 u)) 3 (sC (agJ 4 u))) (lZ [⟨1,0,⟨#[]⟩⟩,⟨1,0,⟨#[]⟩⟩,⟨3,0,⟨#[111,107]⟩⟩])) (f:=λgh hh=>RS hh 3 (.slice (sA (agJ 4 (gh 4))) 3 (sC (agJ 4 (gh 4)))) (lZ [⟨1,0,⟨#[]⟩⟩,⟨1,0,⟨#[]⟩⟩,⟨3,0,⟨#[111,107]⟩⟩])) (hH _ _ (hE.sees sH)) (by kernel_rfl) (by kernel_rfl) (λ_ _ r=>r))) ?_
  trivial
 rintro u43 b7 W8 S9 ⟨f43,-⟩;replace f43:RS W8 3 (.slice (sA (agJ 4 u43)) 3 (sC (agJ 4 u43))) (lZ [⟨1,0,⟨#[]⟩⟩,⟨1,0,⟨#[]⟩⟩,⟨3,0,⟨#[111,107]⟩⟩]):=f43;refine go0 17 [.b 0 7,.b 0 7] [] ?_;obtain ⟨A6,hA6⟩:∃ A,sA (agJ 4 u43)=A:=⟨_,rfl⟩;obtain ⟨c6,hc6⟩:∃ c,sC (agJ 4 u43)=c:=⟨_,rfl⟩;rw [hA6,hc6] at f43;refine wQ [(59,.bool true),(61,.slice (sA (agJ 4 u43)) 3 (sC (agJ 4 u43)))] [.box b7 [sL (agJ 0 u43),sL (agJ 1 u43),Vi 2,Vi 3,Vi 9,sL (agJ 2 u43),sL (agJ 3 u43),.slice (sA (agJ 4 u43)) 3 (sC (agJ 4 u43)),Vi 0,Vi 1],.box b6 (eL ue cntEg),.row (Vs bl 1 c) 57 8 ((gW [cnt0]).set 0 [Vt ⟨#[99]⟩,Vi 1,Vi 1,Vi 0,Ve,Vi 3,Vi 0,.string ⟨#[111,107]⟩]),.box b3 [sL u,sL v]] [] ?_;rw [hA6,hc6];obtain ⟨b10,o11,rfl,-,c12⟩:=RS.row f43 (hrv);refine qQ (c12.sees (Sees.refl _)) ?_;refine go0 9 [.ix b10 o11 3 c6 2,.f 0 2] [] ?_ (ho:=(Aj (by first | omega | (simp; omega)) (trivial)));refine hQ.to [.bool true] (λH sH=>?_);exact rfl
structure LtOk (fs:List Fd) (x:Lt):Prop where
 at_:∃ (i:Nat) (f:Fd),fs[i]?=some f /\ x.nm=f.name /\ f.kind=3
 key:x.key.known
 ans:x.ans=zV
theorem known_le {v:Vl} (h:OkV v) (k:v.k <= 3):v.known:=by
 rcases h with q | rfl | ⟨q,-⟩
 ·exact q
 ·exact absurd k (by decide)
 ·omega
theorem turn_asks {p:Pol} {id now:Int} {key:Vl} {c:Cl} (h:(hZ p id now key c).2=true):key.k <= 3 /\ (hZ p id now key c).1=⟨1,id,1,key,zV,now + p.b⟩:=by
 by_cases q:key.k <= 3
 ·by_cases e:c.st≠0 /\ eqB c.key key=true
  ·rw [kZ q e.1 e.2] at h; cases h
  ·rw [iZ q e]; exact ⟨q,rfl⟩
 ·rw [jZ q] at h; cases h
theorem wake_asks {p:Pol} {now:Int} {c:Cl} (h:(mZ p now c).2=true):c.st=1 /\ c.tr≠p.t /\ (mZ p now c).1=⟨c.st,c.id,c.tr + 1,c.key,c.has,now + gapV p.b p.c (c.tr + 1)⟩:=by
 by_cases q:c.st≠1\/now < c.nx
 ·rw [qZ q] at h; cases h
 ·by_cases q2:c.tr=p.t
  ·rw [pZ q q2] at h; cases h
  ·rw [oZ q q2]; exact ⟨by omega,q2,rfl⟩
theorem runS_out {fs:List Fd} {p:Pol} {now:Int} {inp:Env} {s0:Sst} {os:List Nat} (hp:p.ok) (hok:OkFs fs) (ki:∀ q∈inp,q.2.known) (n0:0 <= now) (n1:now <= 1073741824) (h0:CallsOk fs p s0.last s0.calls) (v0:s0.vals.length=fs.length) (k0:s0.kn=[]) (l0:0 <= s0.last) (l1:s0.last + os.length <= 1073741824) (hlt:∀ i∈os,i < fs.length) :
  ∀ t,t <= os.length -> ∀ x∈(jY fs p now inp s0 (os.take t)).out,x∈s0.out\/(LtOk fs x /\ s0.last < x.id /\ x.id <= (jY fs p now inp s0 (os.take t)).last)
 | 0,_=>λx hx=>.inl hx
 | t + 1,ht=>λx hx=>by
  have I:=runS_inv hp hok ki n0 n1 h0 v0 k0 l0 l1 hlt t (by omega);have ih:=runS_out hp hok ki n0 n1 h0 v0 k0 l0 l1 hlt t (by omega);obtain ⟨i,hti⟩:∃ i,os[t]?=some i:=⟨_,Gj (by omega)⟩;have hil:=hlt i (Ej hti);obtain ⟨f,hf⟩:∃ f,fs[i]?=some f:=⟨_,Gj hil⟩;have hF:=hok.each f (Ej hf);rw [runS_at fs p now inp s0 os t i hti] at hx ⊢;generalize jY fs p now inp s0 (os.take t)=s at *;have hlo:=I.lo;obtain ⟨c,hc⟩:∃ c,s.calls[i]?=some c:=⟨_,Gj (by rw [I.calls.len]; exact hil)⟩
  by_cases h3:f.kind=3
  ·have hkey:=evalE_ok (get_ok I.ok) _ f.src (Hj _) (hF.wf (by omega)).1;rw [vY hf h3 hc rfl rfl] at hx ⊢;simp only at hx ⊢
   by_cases hr:(hZ p (s.last + 1) now (mK s.kn f.src) c).2=true
   ·obtain ⟨q1,q2⟩:=turn_asks hr;rw [Cj hr] at hx ⊢;rcases Qj.1 hx with hx | hx
    ·rcases ih x hx with q | ⟨a1,a2,a3⟩
     ·exact .inl q
     ·exact .inr ⟨a1,a2,by omega⟩
    ·rw [Pj.1 hx,q2];exact .inr ⟨⟨⟨i,f,hf,rfl,h3⟩,known_le hkey q1,rfl⟩,by show s0.last < s.last + 1; omega,Tq _⟩
   ·rw [Bj hr] at hx ⊢;exact ih x hx
  ·rw [stepS_one hf h3] at hx ⊢;exact ih x hx
theorem setE_out {E:Eg} {ρ:List Int} {lv:Nat -> Nat} (hok:EgOk E ρ lv):∀ x∈(nY E ρ).out,LtOk E.fm.fields x /\ E.last < x.id /\ x.id <= (nY E ρ).last:=λx hx=>by
 have few:=hok.fm.fields.few;have one:=hok.one;have hl:=hok.l1;have hod:Ordd E.fm.fields ρ lv (iX ρ E.fm.fields.length):=jX hok.fm.rank (by omega);have h:=runS_out (s0:=⟨E.calls,E.vals,[],E.last,[]⟩) (os:=iX ρ E.fm.fields.length) hok.pol hok.fm.fields hok.ki hok.n0 hok.n1 hok.calls hok.vlen rfl hok.l0 (by rw [hod.len]; show E.last + _ <= _; omega) (λi q=>hod.lt q) _ (Hj _) x;rw [Pk] at h;rcases h hx with q | q
 ·cases q
 ·exact q
theorem setE_few {E:Eg} {ρ:List Int} {lv:Nat -> Nat} (hok:EgOk E ρ lv):(nY E ρ).out.length <= 14 /\ (nY E ρ).last <= E.last + 14 /\ E.last <= (nY E ρ).last:=by
 have R:=setE_run hok;have few:=hok.fm.fields.few;have one:=hok.one;have hod:Ordd E.fm.fields ρ lv (iX ρ E.fm.fields.length):=jX hok.fm.rank (by omega);have h1:=R.olen;have h2:=R.hi;have h3:=R.lo;rw [hod.len] at h1 h2;simp only [Fq] at h1 h2 h3;exact ⟨by omega,by omega,h3⟩
theorem askT_mem {p:Pol} {now:Int} {x:Lt}:∀ {fs:List Fd} {cs:List Cl},x∈askT p now fs cs -> ∃ (i:Nat) (f:Fd) (c:Cl),fs[i]?=some f /\ cs[i]?=some c /\ (mZ p now c).2=true /\ x=ltOf f.name (mZ p now c).1
 | [],_,h=>by cases h
 | _ :: _,[],h=>by cases h
 | f :: fs,c :: cs,h=>by
  rcases Qj.1 h with q | q
  ·by_cases hw:(mZ p now c).2=true
   ·rw [Cj hw] at q;exact ⟨0,f,c,rfl,rfl,hw,Pj.1 q⟩
   ·rw [Bj hw] at q; cases q
  ·obtain ⟨i,g,d,q1,q2,q3⟩:=askT_mem q;exact ⟨i + 1,g,d,q1,q2,q3⟩
theorem tickT_ok {E:Eg} {ρ:List Int} {lv:Nat -> Nat} (hok:EgOk E ρ lv) {n:Int}:∀ x∈tickT E n,LtOk E.fm.fields x /\ x.id <= E.last:=λx hx=>by
 obtain ⟨i,f,c,hf,hc,hw,rfl⟩:=askT_mem hx;obtain ⟨w1,w2,w3⟩:=wake_asks hw;obtain ⟨d1,d2,d3⟩:=hok.calls.at_ i f c hf hc;obtain ⟨k1,k2⟩:=d2 (by omega);rw [w3];exact ⟨⟨⟨i,f,hf,rfl,k1⟩,(d1.live (by omega)).key,rfl⟩,k2⟩
inductive MStep (ρ:List Int) (E:Eg) (lt:List Lt):Eg -> List Lt -> Prop
 | stay:MStep ρ E lt E lt
 | tick (dt:Int):1 <= dt -> dt <= 100 -> MStep ρ E lt (oY (dZ E dt) ρ) (lt++(tickT E dt++(nY (dZ E dt) ρ).out))
 | tell (nm:ByteArray) (v:Vl):v.known -> fZ E.fm.fields nm v.k=0 -> MStep ρ E lt (oY (tellE E nm v) ρ) (lt++(nY (tellE E nm v) ρ).out)
 | hear (i:Nat) (f:Fd) (x:Lt) (c:Cl):E.fm.fields[i]?=some f -> E.calls[i]?=some c -> OkV x.ans -> Takes f x c -> MStep ρ E lt (oY (pV E i x c) ρ) (lt++(nY (pV E i x c) ρ).out)
structure MOk (fm:Fm) (p:Pol) (ρ:List Int) (lv:Nat -> Nat) (k:Nat) (E:Eg) (lt:List Lt):Prop where
 ok:EgOk E ρ lv
 se:Settled E ρ
 efm:E.fm=fm
 epol:E.pol=p
 now:E.now <= 100 * k
 last:E.last <= 14 + 14 * k
 inp:E.inp.length <= k
 len:lt.length <= 14 + 28 * k
 ltr:∀ x∈lt,LtOk fm.fields x /\ x.id <= E.last
theorem MOk.set {fm:Fm} {p:Pol} {ρ:List Int} {lv:Nat -> Nat} {k:Nat} {E E1:Eg} {lt lt1:List Lt} (h:MOk fm p ρ lv k E lt) (hk:k <= 90) (h1:EgOk E1 ρ lv) (e1:E1.fm=E.fm) (e2:E1.pol=E.pol) (e3:E1.now <= E.now + 100) (e4:E1.last=E.last) (e5:E1.inp.length <= E.inp.length + 1) (e6:lt1.length <= 14) (e7:∀ x∈lt1,LtOk fm.fields x /\ x.id <= E.last) :
  MOk fm p ρ lv (k + 1) (oY E1 ρ) (lt++(lt1++(nY E1 ρ).out)):=by
 obtain ⟨q1,q2,q3⟩:=setE_few h1;have hl:=h.last;have hn:=h.now;have hi:=h.inp;have hlen:=h.len;refine ⟨settE_ok h1 (by omega),pY h1,e1.trans h.efm,e2.trans h.epol,by show E1.now <= _; omega,by show (nY E1 ρ).last <= _; omega,by show E1.inp.length <= _; omega,by rw [Bk,Bk]; omega,λx hx=>?_⟩;show _ /\ x.id <= (nY E1 ρ).last;rcases Qj.1 hx with hx | hx
 ·obtain ⟨a,b⟩:=h.ltr x hx;exact ⟨a,by omega⟩
 ·rcases Qj.1 hx with hx | hx
  ·obtain ⟨a,b⟩:=e7 x hx;exact ⟨a,by omega⟩
  ·obtain ⟨a,b,c⟩:=setE_out h1 x hx;rw [e1,h.efm] at a;exact ⟨a,c⟩
theorem MOk.step {fm:Fm} {p:Pol} {ρ:List Int} {lv:Nat -> Nat} {k:Nat} {E E':Eg} {lt lt':List Lt} (h:MOk fm p ρ lv k E lt) (hk:k <= 90) (hs:MStep ρ E lt E' lt'):MOk fm p ρ lv (k + 1) E' lt':=by
 have hl:=h.last;have hn:=h.now;have hi:=h.inp;have hlen:=h.len
 cases hs with
 | stay=>exact ⟨h.ok,h.se,h.efm,h.epol,by omega,by omega,by omega,by omega,h.ltr⟩
 | tick dt d1 d2 =>
  have h1:=tickE_ok h.ok (n:=dt) (by omega) (by omega);have few:=h.ok.fm.fields.few;have ha:=askT_len (p:=E.pol) (now:=E.now + dt) (fs:=E.fm.fields) (cs:=E.calls);exact h.set hk h1 rfl rfl (by show E.now + dt <= _; omega) rfl (by show E.inp.length <= _; omega) (by unfold tickT; omega) (by rw [<- h.efm]; exact tickT_ok h.ok)
 | tell nm v hv ht =>
  have h1:=tellE_ok h.ok hv ht (by omega);have hpl:=putV_len (s:=nm) (v:=v) (l:=E.inp);exact h.set (lt1:=[]) hk h1 rfl rfl (by show E.now <= _; omega) rfl hpl (Mj _) (λx hx=>by cases hx)
 | hear i f x c hf hc hx ht =>
  have h1:=hearE_ok h.ok hf hc hx ht;exact h.set (lt1:=[]) hk h1 rfl rfl (by show E.now <= _; omega) rfl (by show E.inp.length <= _; omega) (Mj _) (λx hx=>by cases hx)
instance (f:Fd) (x:Lt) (c:Cl):Decidable (Takes f x c):=by unfold Takes; infer_instance
def hrdE (E:Eg) (ρ:List Int) (i:Nat) (f:Fd) (x:Lt) (c:Cl):Eg:=if Takes f x c then oY (pV E i x c) ρ else E
def hrdT (E:Eg) (ρ:List Int) (i:Nat) (f:Fd) (x:Lt) (c:Cl):List Lt:=if Takes f x c then (nY (pV E i x c) ρ).out else []
def hrdB (f:Fd) (x:Lt) (c:Cl):Bool:=decide (Takes f x c)
theorem hrd_yes {E:Eg} {ρ:List Int} {i:Nat} {f:Fd} {x:Lt} {c:Cl} (h:Takes f x c):hrdE E ρ i f x c=oY (pV E i x c) ρ /\ hrdT E ρ i f x c=(nY (pV E i x c) ρ).out /\ hrdB f x c=true:=⟨Cj h,Cj h,Jj h⟩
theorem hrd_no {E:Eg} {ρ:List Int} {i:Nat} {f:Fd} {x:Lt} {c:Cl} (h:¬ Takes f x c):hrdE E ρ i f x c=E /\ hrdT E ρ i f x c=[] /\ hrdB f x c=false:=⟨Bj h,Bj h,Kj h⟩
theorem hrd_step {E:Eg} {ρ:List Int} {lt:List Lt} {i:Nat} {f:Fd} {x:Lt} {c:Cl} (hf:E.fm.fields[i]?=some f) (hc:E.calls[i]?=some c) (hx:OkV x.ans):MStep ρ E lt (hrdE E ρ i f x c) (lt++hrdT E ρ i f x c):=by
 by_cases ht:Takes f x c
 ·obtain ⟨e1,e2,-⟩:=hrd_yes (E:=E) (ρ:=ρ) (i:=i) ht;rw [e1,e2];exact .hear i f x c hf hc hx ht
 ·obtain ⟨e1,e2,-⟩:=hrd_no (E:=E) (ρ:=ρ) (i:=i) ht;rw [e1,e2,Lw];exact .stay
def orcC:List Fd -> List Cl -> List Aw
 | f :: fs,c :: cs=>(if c.st=2\/c.st=3 then [⟨f.name,c.key,ansC c⟩] else [])++orcC fs cs
 | _,_=>[]
theorem orcC_mem {x:Aw}:∀ {fs:List Fd} {cs:List Cl},x∈orcC fs cs -> ∃ (i:Nat) (f:Fd) (c:Cl),fs[i]?=some f /\ cs[i]?=some c /\ (c.st=2\/c.st=3) /\ x=⟨f.name,c.key,ansC c⟩
 | [],_,h=>by cases h
 | _ :: _,[],h=>by cases h
 | f :: fs,c :: cs,h=>by
  rcases Qj.1 h with q | q
  ·by_cases hw:c.st=2\/c.st=3
   ·rw [Cj hw] at q;exact ⟨0,f,c,rfl,rfl,hw,Pj.1 q⟩
   ·rw [Bj hw] at q; cases q
  ·obtain ⟨i,g,d,q1,q2,q3⟩:=orcC_mem q;exact ⟨i + 1,g,d,q1,q2,q3⟩
theorem hit_name {s:ByteArray} {key:Vl} {p:Aw} (h:p.nm≠s):p.hit s key=false:=by
 unfold Aw.hit;rw [tl_no h,Bool.false_and]
theorem orcC_none {s:ByteArray} {key:Vl}:∀ {fs:List Fd} {cs:List Cl},(∀ f∈fs,f.name≠s) -> askL s key (orcC fs cs)=pdV
 | [],_,_=>rfl
 | _ :: _,[],_=>rfl
 | f :: fs,c :: cs,h=>by
  have ih:=orcC_none (s:=s) (key:=key) (fs:=fs) (cs:=cs) λg hg=>h g (by simp [hg]);show askL s key ((if c.st=2\/c.st=3 then [(⟨f.name,c.key,ansC c⟩:Aw)] else [])++orcC fs cs)=pdV
  by_cases hw:c.st=2\/c.st=3
  ·rw [Cj hw];show askL s key (⟨f.name,c.key,ansC c⟩ :: orcC fs cs)=pdV;rw [askL,hit_name (show (⟨f.name,c.key,ansC c⟩:Aw).nm≠s from h f (by simp)),Bj (by decide),ih]
  ·rw [Bj hw]; exact ih
theorem orcC_ask {key:Vl}:∀ {fs:List Fd} {cs:List Cl} {i:Nat} {f:Fd} {c:Cl},(fs.map (λf:Fd=>f.name)).Nodup -> fs[i]?=some f -> cs[i]?=some c -> askL f.name key (orcC fs cs)=if (c.st=2\/c.st=3) /\ eqB c.key key=true then ansC c else pdV
 | [],_,_,_,_,_,h,_=>by simp at h
 | _ :: _,[],_,_,_,_,_,h=>by simp at h
 | g :: fs,d :: cs,0,f,c,hd,h1,h2=>by
  simp only [Nx,Yj] at h1 h2;subst h1 h2;rw [Ik,Mq] at hd;have hn:=orcC_none (s:=g.name) (key:=key) (fs:=fs) (cs:=cs) λx hx e=>hd.1 (Rj.2 ⟨x,hx,e⟩);show askL g.name key ((if d.st=2\/d.st=3 then [(⟨g.name,d.key,ansC d⟩:Aw)] else [])++orcC fs cs)=_
  by_cases hw:d.st=2\/d.st=3
  ·rw [Cj hw];show askL g.name key (⟨g.name,d.key,ansC d⟩ :: orcC fs cs)=_;have hh:Aw.hit ⟨g.name,d.key,ansC d⟩ g.name key=eqB d.key key:=by
    show (g.name.toList == g.name.toList && eqB d.key key)=_;rw [tl_yes rfl,Bool.true_and]
   rw [askL,hh]
   by_cases he:eqB d.key key=true
   ·rw [Cj he,Cj ⟨hw,he⟩]
   ·rw [Bj he,Bj λq=>he q.2,hn]
  ·rw [Bj hw,Bj λq=>hw q.1];exact hn
 | g :: fs,d :: cs,i + 1,f,c,hd,h1,h2=>by
  rw [Ik,Mq] at hd;have h1:fs[i]?=some f:=by simpa using h1
  have ih:=orcC_ask (key:=key) hd.2 h1 (by simpa using h2:cs[i]?=some c);have hne:g.name≠f.name:=λe=>hd.1 (Rj.2 ⟨f,Ej h1,e.symm⟩);show askL f.name key ((if d.st=2\/d.st=3 then [(⟨g.name,d.key,ansC d⟩:Aw)] else [])++orcC fs cs)=_
  by_cases hw:d.st=2\/d.st=3
  ·rw [Cj hw];show askL f.name key (⟨g.name,d.key,ansC d⟩ :: orcC fs cs)=_;rw [askL,hit_name (show (⟨g.name,d.key,ansC d⟩:Aw).nm≠f.name from hne),Bj (by decide),ih]
  ·rw [Bj hw]; exact ih
theorem stepW_pre (fs:List Fd) (inp:Env) (orc:List Aw) (s:List Vl × Env) (i:Nat):∃ m,(stepW fs inp orc s i).2=s.2++m:=by
 unfold stepW
 split
 ·exact ⟨_,rfl⟩
 ·exact ⟨[],by simp⟩
theorem foldW_pre (fs:List Fd) (inp:Env) (orc:List Aw):∀ (os:List Nat) (s:List Vl × Env),∃ m,(os.foldl (stepW fs inp orc) s).2=s.2++m
 | [],s=>⟨[],by simp⟩
 | i :: os,s=>by
  obtain ⟨m,hm⟩:=stepW_pre fs inp orc s i;obtain ⟨m',hm'⟩:=foldW_pre fs inp orc os (stepW fs inp orc s i);exact ⟨m++m',by show (os.foldl (stepW fs inp orc) (stepW fs inp orc s i)).2=_; rw [hm',hm,Lq]⟩
theorem runW_pre (fs:List Fd) (inp:Env) (orc:List Aw) (os:List Nat) (t:Nat):∃ m,(runW fs inp orc os).2=(runW fs inp orc (os.take t)).2++m:=by
 have e:runW fs inp orc os=(os.drop t).foldl (stepW fs inp orc) (runW fs inp orc (os.take t)):=by
  unfold runW;rw [<- Rw,Mw]
 rw [e];exact foldW_pre fs inp orc _ _
theorem ev_turn {fs:List Fd} (hok:OkFs fs) {inp:Env} (hi:∀ p∈inp,p.2.known) {orc:List Aw} (ho:∀ p∈orc,OkV p.has) {ρ:List Int} {lv:Nat -> Nat} {os:List Nat} (h:Ordd fs ρ lv os) {t i:Nat} {f:Fd} (ht:os[t]?=some i) (hf:fs[i]?=some f) (hk:f.kind≠1) :
  mK (runW fs inp orc (os.take t)).2 f.src=mK (fcs fs (allW fs inp orc os)) f.src /\ yW f inp orc (runW fs inp orc (os.take t)).2=yW f inp orc (fcs fs (allW fs inp orc os)):=by
 have hI:=run_inv hok hi ho h os.length (Hj _);rw [Pk] at hI;have htl:=(Nj.1 ht).1;have hT:=run_inv hok hi ho h t (by omega);have hin:∀ {i:Nat},i < fs.length -> i∈os:=λq=>h.perm.mem_iff.2 (Jk.2 q);obtain ⟨m,hm⟩:=runW_pre fs inp orc os t;have key:∀ s∈yX f.src,(runW fs inp orc (os.take t)).2.get s=(fcs fs (allW fs inp orc os)).get s:=λs hs=>by
  obtain ⟨j,g,g1,g2,g3⟩:=refs_need hok hf hk hs;obtain ⟨x,-,x2,-⟩:=hT.at_ j (h.ahead ht j g3) g g1;obtain ⟨y,y1,y2,-⟩:=hI.at_ j (hin (Nj.1 g1).1) g g1;have e:(runW fs inp orc os).2.get g.name=some x:=by rw [hm]; exact get_app x2
  rw [<- g2,x2, <- e,y2];exact (fcs_get hok.nodup g1 y1).symm
 exact ⟨eval_local key,oneV_congr λ_=>key⟩
theorem settled_fix {E:Eg} {ρ:List Int} {lv:Nat -> Nat} (hok:EgOk E ρ lv) (hse:Settled E ρ) (t:Nat) (ht:t <= (iX ρ E.fm.fields.length).length) :
  jY E.fm.fields E.pol E.now E.inp ⟨E.calls,E.vals,[],E.last,[]⟩ ((iX ρ E.fm.fields.length).take t)=⟨E.calls,E.vals,(jY E.fm.fields E.pol E.now E.inp ⟨E.calls,E.vals,[],E.last,[]⟩ ((iX ρ E.fm.fields.length).take t)).kn,E.last,[]⟩:=by
 obtain ⟨kn,hkn⟩:=hse;have few:=hok.fm.fields.few;have one:=hok.one;have hod:Ordd E.fm.fields ρ lv (iX ρ E.fm.fields.length):=jX hok.fm.rank (by omega);have h:=runS_fix E.fm.fields E.pol E.now E.inp ⟨E.calls,E.vals,[],E.last,[]⟩ (ordL_nodup hod) hok.calls.len hok.vlen rfl E.now E.last t ht;rw [hkn] at h;exact h
theorem settled_turn {E:Eg} {ρ:List Int} {lv:Nat -> Nat} (hok:EgOk E ρ lv) (hse:Settled E ρ) {t i:Nat} {f:Fd} {c:Cl} (ht:(iX ρ E.fm.fields.length)[t]?=some i) (hf:E.fm.fields[i]?=some f) (h3:f.kind=3) (hc:E.calls[i]?=some c) {kn:Env} (hk:(jY E.fm.fields E.pol E.now E.inp ⟨E.calls,E.vals,[],E.last,[]⟩ ((iX ρ E.fm.fields.length).take t)).kn=kn) :
  ((mK kn f.src).k <= 3 -> c.st≠0 /\ c.key=mK kn f.src) /\ (¬ (mK kn f.src).k <= 3 -> c=clZ) /\ E.vals[i]?=some (aW (mK kn f.src) c) /\
   (jY E.fm.fields E.pol E.now E.inp ⟨E.calls,E.vals,[],E.last,[]⟩ ((iX ρ E.fm.fields.length).take (t + 1))).kn=kn++[(f.name,aW (mK kn f.src) c)]:=by
 have htl:=(Nj.1 ht).1;have h1:=settled_fix hok hse t (by omega);have h2:=settled_fix hok hse (t + 1) (by omega);have hil:=(Nj.1 hf).1;have hcl:=hok.calls.len;have hvl:=hok.vlen;rw [runS_at _ _ _ _ _ _ t i ht] at h2 ⊢;rw [hk] at h1;rw [h1] at h2 ⊢;rw [vY hf h3 hc rfl rfl] at h2 ⊢;simp only [Sst.mk.injEq] at h2;obtain ⟨a1,a2,-⟩:=h2;have b1:(E.calls.set i (hZ E.pol (E.last + 1) E.now (mK kn f.src) c).1)[i]?=some c:=by rw [a1]; exact hc
 rw [Zq (by omega)] at b1;have b1:=Dk b1;have b2:E.vals[i]?=some (aW (mK kn f.src) (hZ E.pol (E.last + 1) E.now (mK kn f.src) c).1):=by
  rw [<- Zq (l:=E.vals) (i:=i) (by omega)];exact Dj (λl:List Vl=>l[i]?) a2.symm
 rw [b1] at b2 ⊢;refine ⟨λq=>?_,λq=>?_,b2,rfl⟩
 ·have:=turn_key (p:=E.pol) (id:=E.last + 1) (now:=E.now) (c:=c) q
  rw [b1] at this;exact this
 ·rw [jZ q] at b1;exact b1.symm
theorem settled_one {E:Eg} {ρ:List Int} {lv:Nat -> Nat} (hok:EgOk E ρ lv) (hse:Settled E ρ) {t i:Nat} {f:Fd} (ht:(iX ρ E.fm.fields.length)[t]?=some i) (hf:E.fm.fields[i]?=some f) (h3:f.kind≠3) {kn:Env} (hk:(jY E.fm.fields E.pol E.now E.inp ⟨E.calls,E.vals,[],E.last,[]⟩ ((iX ρ E.fm.fields.length).take t)).kn=kn) :
  E.vals[i]?=some (yW f E.inp [] kn) /\ (jY E.fm.fields E.pol E.now E.inp ⟨E.calls,E.vals,[],E.last,[]⟩ ((iX ρ E.fm.fields.length).take (t + 1))).kn=kn++[(f.name,yW f E.inp [] kn)]:=by
 have htl:=(Nj.1 ht).1;have h1:=settled_fix hok hse t (by omega);have h2:=settled_fix hok hse (t + 1) (by omega);have hil:=(Nj.1 hf).1;have hvl:=hok.vlen;rw [runS_at _ _ _ _ _ _ t i ht] at h2 ⊢;rw [hk] at h1;rw [h1] at h2 ⊢;rw [stepS_one hf h3] at h2 ⊢;simp only [Sst.mk.injEq] at h2;obtain ⟨-,a2,-⟩:=h2;refine ⟨?_,rfl⟩;rw [<- Zq (l:=E.vals) (i:=i) (a:=yW f E.inp [] kn) (by omega)];exact Dj (λl:List Vl=>l[i]?) a2.symm
theorem oneV_nolook {f:Fd} (h:f.kind≠3) (inp:Env) (o1 o2:List Aw) (kn:Env):yW f inp o1 kn=yW f inp o2 kn:=by
 unfold yW;rw [Bj h,Bj h]
theorem lkup_ask {fs:List Fd} {cs:List Cl} {p:Pol} {i:Nat} {f:Fd} {c:Cl} {key:Vl} (hd:(fs.map (λf:Fd=>f.name)).Nodup) (hf:fs[i]?=some f) (hc:cs[i]?=some c) (hco:ClOk p c) (h1:key.k <= 3 -> c.st≠0 /\ c.key=key) (h2:¬ key.k <= 3 -> c=clZ):aW key c=askV (orcC fs cs) f.name key:=by
 unfold aW askV
 by_cases hk:key.k <= 3
 ·obtain ⟨a,b⟩:=h1 hk;have hb:=hco.live a;rw [Bj a,Cj hk,orcC_ask hd hf hc];have he:eqB c.key key=true:=eqB_iff.2 b
  by_cases hs:c.st=2\/c.st=3
  ·rw [Cj ⟨hs,he⟩]
  ·have s1:c.st=1:=by have:=hb.s1; have:=hb.s3; omega
   rw [Bj λq=>hs q.1];unfold ansC;rw [Bj (by omega),Bj (by omega)]
 ·rw [Bj hk,h2 hk,Cj rfl]
theorem orcC_has {fs:List Fd} {p:Pol} {last:Int} {cs:List Cl} (h:CallsOk fs p last cs):∀ q∈orcC fs cs,OkV q.has:=λq hq=>by
 obtain ⟨i,f,c,hf,hc,hs,rfl⟩:=orcC_mem hq;have hb:=(h.at_ i f c hf hc).1.live (by omega);show OkV (ansC c);unfold ansC
 by_cases s2:c.st=2
 ·rw [Cj s2]; exact .inl (hb.knw s2).1
 ·rw [Bj s2,Cj (by omega)]; exact .inr (.inr ⟨rfl,by decide,by decide,rfl⟩)
structure SolE (E:Eg):Prop where
 sol:Sol E.fm.fields E.inp (orcC E.fm.fields E.calls) E.vals
 ok:∀ x∈E.vals,OkV x
 call:∀ (i:Nat) (f:Fd) (c:Cl),E.fm.fields[i]?=some f -> f.kind=3 -> E.calls[i]?=some c -> ((mK (fcs E.fm.fields E.vals) f.src).k <= 3 -> c.st≠0 /\ c.key=mK (fcs E.fm.fields E.vals) f.src) /\ (¬ (mK (fcs E.fm.fields E.vals) f.src).k <= 3 -> c=clZ) /\ E.vals[i]?=some (aW (mK (fcs E.fm.fields E.vals) f.src) c)
theorem settled_all {E:Eg} {ρ:List Int} {lv:Nat -> Nat} (hok:EgOk E ρ lv) (hse:Settled E ρ) :
  (∀ t,t <= (iX ρ E.fm.fields.length).length -> (runW E.fm.fields E.inp (orcC E.fm.fields E.calls) ((iX ρ E.fm.fields.length).take t)).2=(jY E.fm.fields E.pol E.now E.inp ⟨E.calls,E.vals,[],E.last,[]⟩ ((iX ρ E.fm.fields.length).take t)).kn) /\
  E.vals=allW E.fm.fields E.inp (orcC E.fm.fields E.calls) (iX ρ E.fm.fields.length):=by
 have few:=hok.fm.fields.few;have one:=hok.one;have hod:Ordd E.fm.fields ρ lv (iX ρ E.fm.fields.length):=jX hok.fm.rank (by omega);have hoh:=orcC_has hok.calls;have hat:∀ (t i:Nat) (f:Fd) (kn:Env),(iX ρ E.fm.fields.length)[t]?=some i -> E.fm.fields[i]?=some f -> (jY E.fm.fields E.pol E.now E.inp ⟨E.calls,E.vals,[],E.last,[]⟩ ((iX ρ E.fm.fields.length).take t)).kn=kn -> E.vals[i]?=some (yW f E.inp (orcC E.fm.fields E.calls) kn) /\ (jY E.fm.fields E.pol E.now E.inp ⟨E.calls,E.vals,[],E.last,[]⟩ ((iX ρ E.fm.fields.length).take (t + 1))).kn=kn++[(f.name,yW f E.inp (orcC E.fm.fields E.calls) kn)]:=λt i f kn ht hf hk=>by
  by_cases h3:f.kind=3
  ·obtain ⟨c,hc⟩:∃ c,E.calls[i]?=some c:=⟨_,Gj (by rw [hok.calls.len]; exact (Nj.1 hf).1)⟩;obtain ⟨a1,a2,a3,a4⟩:=settled_turn hok hse ht hf h3 hc hk;have e:yW f E.inp (orcC E.fm.fields E.calls) kn=aW (mK kn f.src) c:=by
    unfold yW;rw [Bj (by omega),Cj h3];exact (lkup_ask hok.fm.fields.nodup hf hc (hok.calls.at_ i f c hf hc).1 a1 a2).symm
   rw [e];exact ⟨a3,a4⟩
  ·rw [oneV_nolook h3 E.inp _ []];exact settled_one hok hse ht hf h3 hk
 have hkn:∀ t,t <= (iX ρ E.fm.fields.length).length -> (runW E.fm.fields E.inp (orcC E.fm.fields E.calls) ((iX ρ E.fm.fields.length).take t)).2=(jY E.fm.fields E.pol E.now E.inp ⟨E.calls,E.vals,[],E.last,[]⟩ ((iX ρ E.fm.fields.length).take t)).kn:=λt=>by
  induction t with
  | zero=>intro _; rfl
  | succ t ih =>
   intro ht;obtain ⟨i,hti⟩:∃ i,(iX ρ E.fm.fields.length)[t]?=some i:=⟨_,Gj (by omega)⟩;obtain ⟨f,hf⟩:∃ f,E.fm.fields[i]?=some f:=⟨_,Gj (hod.lt (Ej hti))⟩;have ih:=ih (by omega);rw [run_at _ _ _ _ t i hti f hf,(hat t i f _ hti hf rfl).2,ih]
 refine ⟨hkn,?_⟩;have hI:=run_inv hok.fm.fields hok.ki hoh hod (iX ρ E.fm.fields.length).length (Hj _);rw [Pk] at hI;refine Vq λi=>?_;rcases Iv i E.fm.fields.length with q | q
 ·obtain ⟨f,hf⟩:∃ f,E.fm.fields[i]?=some f:=⟨_,Gj q⟩;obtain ⟨t,ht⟩:=Bq (hod.perm.mem_iff.2 (Jk.2 q));obtain ⟨x,x1,-,x3⟩:=hI.at_ i (hod.perm.mem_iff.2 (Jk.2 q)) f hf;have htl:=(Nj.1 ht).1;have hT:=run_inv hok.fm.fields hok.ki hoh hod t (by omega);obtain ⟨m,hm⟩:=runW_pre E.fm.fields E.inp (orcC E.fm.fields E.calls) (iX ρ E.fm.fields.length) t;have h1:=(hat t i f _ ht hf rfl).1;rw [<- hkn t (by omega)] at h1;rw [h1];show _=(runW _ _ _ _).1[i]?;rw [x1,x3];refine Dj some (oneV_congr λhk s hs=>?_);obtain ⟨j,g,g1,g2,g3⟩:=refs_need hok.fm.fields hf hk hs;obtain ⟨y,-,y2,-⟩:=hT.at_ j (hod.ahead ht j g3) g g1;rw [<- g2,y2,hm,get_app y2]
 ·rw [Gv (by rw [hok.vlen]; exact q),Gv (by show (runW _ _ _ _).1.length <= i; rw [hI.len]; exact q)]
theorem settled_sol {E:Eg} {ρ:List Int} {lv:Nat -> Nat} (hok:EgOk E ρ lv) (hse:Settled E ρ):SolE E:=by
 have few:=hok.fm.fields.few;have one:=hok.one;have hod:Ordd E.fm.fields ρ lv (iX ρ E.fm.fields.length):=jX hok.fm.rank (by omega);have hoh:=orcC_has hok.calls;obtain ⟨hkn,hv⟩:=settled_all hok hse;obtain ⟨s1,s2⟩:=all_sol hok.fm.fields hok.ki hoh hod;rw [<- hv] at s1 s2;refine ⟨s1,s2,λi f c hf h3 hc=>?_⟩;obtain ⟨t,ht⟩:=Bq (hod.perm.mem_iff.2 (Jk.2 (Nj.1 hf).1));have htl:=(Nj.1 ht).1;obtain ⟨a1,a2,a3,-⟩:=settled_turn hok hse ht hf h3 hc rfl;have e:=(ev_turn hok.fm.fields hok.ki hoh hod ht hf (by omega)).1;rw [hkn t (by omega), <- hv] at e;rw [e] at a1 a2 a3;exact ⟨a1,a2,a3⟩
end Go.Proofs.YthgcgciceejicaaGreatDoor
