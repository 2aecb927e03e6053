/-
  For all raw things and numbers EngineAsks returns true: each letter's number is one field's, and no call is asked more often than may be. No condition.
-/
import Derived.Test.YtmoahpojchndiaaGreatZV9
import Derived.Test.YtmoahpojchndiaaGreatZV50
import Derived.Test.YtmoahpojchndiaaGreatZV46
import Derived.Test.YtmoahpojchndiaaGreatZV51
import Derived.Test.YtmoahpojchndiaaGreatZV52
set_option maxRecDepth 100000
namespace Go.Proofs.YtmoahpojchndiaaGreat
open Go.RowKit
set_option linter.unusedVariables false
set_option maxHeartbeats 2000000 in
theorem meet_any (fm:Fm) (p:Pol) (ρ:List Int) (lv:Nat -> Nat) (Inv:Eg -> List Lt -> Prop)
  (hInv:∀ (k:Nat) (E:Eg) (lt:List Lt) (E':Eg) (lt':List Lt),k <= 40 -> MOk fm p ρ lv k E lt -> Inv E lt -> MStep ρ E lt E' lt' -> Inv E' lt')
  (hfn:∀ (k:Nat) (E:Eg) (E':Eg) (lt':List Lt) (w w' more:Value) (H:Vw),k <= 40 -> MOk fm p ρ lv (k + 1) E' lt' -> Inv E' lt' -> IsEng H w E -> IsEng H w' E' -> C0 Tryz.prog 30 #[.agg #[sL (agJ 0 w),sL (agJ 1 w),Vi E.pol.t,Vi E.pol.b,Vi E.pol.c,sL (agJ 2 w),sL (agJ 3 w),sL (agJ 4 w),Vi E.now,Vi E.last],.agg #[sL (agJ 0 w'),sL (agJ 1 w'),Vi E'.pol.t,Vi E'.pol.b,Vi E'.pol.c,sL (agJ 2 w'),sL (agJ 3 w'),sL (agJ 4 w'),Vi E'.now,Vi E'.last],sL more] H (fun r _=>r=.bool true))
  (E0:Eg) (lt0:List Lt) (hM0:MOk fm p ρ lv 0 E0 lt0) (hI0:Inv E0 lt0) (rs:List RawD) (sr:Value) (ol:∀ r∈rs,r.ok) (ll:rs.length * 40 <= reachBytes) (w su:Value) (h:Vw) (hE0:IsEng h w E0) (hS0:RS h 8 (sL su) (gW lt0)) (hr:RS h 4 sr (rs.map RawD.cs)) :
  C0 Tryz.prog 29 #[.agg #[sL (agJ 0 w),sL (agJ 1 w),Vi E0.pol.t,Vi E0.pol.b,Vi E0.pol.c,sL (agJ 2 w),sL (agJ 3 w),sL (agJ 4 w),Vi E0.now,Vi E0.last],sL su,sr,.func (.func 30) #[] #[]] h (fun r h'=>∃ (E:Eg) (lt:List Lt) (k:Nat) (u su':Value),r=.tuple #[.agg #[sL (agJ 0 u),sL (agJ 1 u),Vi E.pol.t,Vi E.pol.b,Vi E.pol.c,sL (agJ 2 u),sL (agJ 3 u),sL (agJ 4 u),Vi E.now,Vi E.last],sL su',.bool true] /\ MOk fm p ρ lv k E lt /\ Inv E lt /\ k <= 40 /\ IsEng h' u E /\ RS h' 8 (sL su') (gW lt)):=by
 have hok0:=hM0.ok
 have hef:=hM0.efm
 have few:=hok0.fm.fields.few
 have one:=hok0.one
 have hfe:=hok0.fm.fields.each
 have hnd:=hok0.fm.fields.nodup
 have hkd:=fun k g=>told_kind hok0.fm.fields (k:=k) (g:=g)
 obtain ⟨vs,A,c,e0,-,-,hr4,hs4,hl4,hu4⟩:=cQ hE0.form.fields
 have hix:=fun x b H q1 q2=>idxF_meet E0.fm.fields vs A c x b H q1 (by omega) hl4 hu4 q2
 rw [hef] at few one hfe hnd e0 hr4 hs4 hl4 hkd hix
 have hE1:IsEng h (.agg #[.slice A fm.fields.length c,agJ 1 w,agJ 2 w,agJ 3 w,agJ 4 w]) E0:=⟨by show IsForm h (.slice A fm.fields.length c) (sL (agJ 1 w)) E0.fm; rw [<- e0]; exact hE0.form,hE0.inp,hE0.calls,hE0.vals⟩
 obtain ⟨As0,cs0,es,-⟩:=hS0.form
 rw [List.length_map] at es
 rw [es] at hS0 ⊢
 obtain ⟨A1,c1,rfl,-,-,-⟩:=hr.form
 rw [List.length_map] at *
 rw [e0]
 have hget:∀ (k:Nat),k < rs.length -> ∃ r,rs[k]?=some r /\ r.ok:=fun k q=>⟨_,List.getElem?_eq_getElem q,ol _ (List.getElem_mem q)⟩
 have hixx:∀ (i2:Nat) (f:Fd) (x:Lt) (av:Vl) (b:Nat) (H:Vw),fm.fields[i2]?=some f -> x.nm=f.name -> RS H 9 (.slice A fm.fields.length c) (zK fm.fields vs) -> Cells H b 0 [Vt x.nm,Vi x.id,Vi x.key.k,Vi x.key.n,.string x.key.s,Vi av.k,Vi av.n,.string av.s] -> C0 Tryz.prog 62 #[.slice A fm.fields.length c,.func (.func 75) #[] #[.pointer (some ⟨b,0,none⟩)]] H (fun r _=>r=Vi (i2:Int)):=fun i2 f x av b H hf hxn q1 q2=>by
  have q:=hix ⟨x.nm,x.id,x.key,av⟩ b H q1 q2
  have e:eQ fm.fields x.nm=(i2:Int):=by rw [hxn]; exact fQ hnd hf
  have e':eQ fm.fields (⟨x.nm,x.id,x.key,av⟩:Lt).nm=(i2:Int):=e
  rw [e'] at q
  exact q
 clear hix
 generalize rs.length=len at *
 generalize hn:fm.fields.length=n at *
 refine tQ Tryz.func29 (c:=Tryz.f29.body.getD .skip) (N:=141) ?_
 intro hbx hbad Q hQ
 refine go2 25 [.own,.own,.b 1 0] [] ?_
 intro be b1
 refine aV [0,1,0,1,1] [.block 0,.seq [1,1,1]] (fun (k:Nat) X=>∃ (W2:Vw) (E:Eg) (lt:List Lt) (ue:Value) (As:Option Addr) (cs:Nat),X W2 [(3,.func (.func 30) #[] #[]),(4,Vp be),(8,Vp b1),(11,.slice A n c),(23,.slice A1 len c1),(24,Vi (len:Int)),(25,Vi (k:Int)),(1,.slice As lt.length cs)] [.box b1 [Vz,Vz,Vi 0,Vi 0,Vi 0,Vz,Vz,Vz,Vi 0,Vi 0],.box be [sL (agJ 0 ue),sL (agJ 1 ue),Vi E.pol.t,Vi E.pol.b,Vi E.pol.c,sL (agJ 2 ue),sL (agJ 3 ue),sL (agJ 4 ue),Vi E.now,Vi E.last]] [] /\ Sees h W2 /\ (k <= len) /\ (k <= 31) /\ (MOk fm p ρ lv k E lt) /\ (Inv E lt) /\ (IsEng W2 ue E) /\ (RS W2 8 (.slice As lt.length cs) (gW lt))) (fun k=>len - k) (0) (fun X q=>⟨h,E0,lt0,.agg #[.slice A n c,agJ 1 w,agJ 2 w,agJ 3 w,agJ 4 w],As0,cs0,q _ _ _ _ ⟨rfl,by kernel_rfl⟩,Sees.refl _,Nat.zero_le _,by omega,hM0,hI0,hE1,hS0⟩) ?_
 rintro k a w ⟨W2,E,lt,ue,As,cs,hJ,S3,hk,hk2,hM,hI,hE,hS⟩; refine iV hJ ?_; clear hJ a w
 refine go0 6 [] [] ?_
 rcases (by omega:k < len∨k=len) with hlt | hke
 ·obtain ⟨r,hrk,hro⟩:=hget k hlt
  have hrow1:(rs.map RawD.cs)[k]?=some r.cs:=by rw [List.getElem?_map,hrk]; rfl
  refine nV (t:=decide ((k:Int) < (len:Int))) (decide_eq_true (by omega)) ?_
  refine go0 7 [] [] ?_
  obtain ⟨b4,o5,rfl,-,c6⟩:=RS.row hr (hrow1)
  refine uQ (c6.sees S3) ?_
  refine go1 13 [.ix b4 o5 len c1 k,.f 0 0,.own,.b 0 0] [] ?_ (ho:=(And.intro (by first | omega | (simp; omega)) (trivial)))
  intro b7
  rcases (by omega:k <= 30∨k=31) with hk3 | hk3
  ·refine lV 32 (v:=.bool (decide ((k:Int) > 30))) (v':=.bool false) (congrArg Value.bool (decide_eq_false (by omega))) ?_
   have hp0:=oX r.b n (by omega)
   have hp1:=nX r.b n (by omega)
   obtain ⟨i,hi⟩:∃ i:Nat,cJ r.b n=(i:Int):=⟨_,(Int.toNat_of_nonneg hp0).symm⟩
   have hpi:=fun H=>yJ r.b n H hro.2.2.1.1 hro.2.2.1.2 (by omega) (by omega)
   rw [hi] at hp1 hpi
   obtain ⟨g,hg⟩:∃ g,fm.fields[i]?=some g:=⟨_,List.getElem?_eq_getElem (by omega)⟩
   obtain ⟨v,hv⟩:∃ v,vs[i]?=some v:=⟨_,List.getElem?_eq_getElem (by omega)⟩
   have hrow:=aQ hg hv
   obtain ⟨Au,nu,cu,rfl⟩:=(AllSrc.get hs4 hg hv).slice
   have hF:=hfe g (List.mem_of_getElem? hg)
   have t1:=hF.t1
   have t3:=hF.t3
   obtain ⟨av,hav⟩:∃ av:Vl,av=⟨g.ty,valN g.ty r.k r.a,valS g.ty r.t⟩:=⟨_,rfl⟩
   have hV:∀ H,C0 Tryz.prog 21 #[Vi g.ty,.agg #[Vi r.k,Vi r.a,Vi r.b,.string r.t]] H (fun q _=>q=.agg #[Vi av.k,Vi av.n,.string av.s]):=by rw [hav]; exact fun H=>c_value g.ty r H t1 t3 hro
   have hkn:av.known:=by rw [hav]; exact val_known g.ty r.k r.a r.t t1 t3
   have hvk:av.k=g.ty:=by rw [hav]
   clear hav
   have bn:=hM.now
   have bl:=hM.last
   have bi:=hM.inp
   have bt:=hM.len
   have hk4:=fun H=>yJ r.k 4 H hro.1.1 hro.1.2 (by decide) (by decide)
   refine go0 6 [] [] ?_
   refine vQ (t:=(n:Int) == 0) (beq_eq_false_iff_ne.2 (by omega)) ?_
   refine go0 10 [.b 0 2,.cl 19 #[Vi r.b,Vi (n:Int)] (Vi (i:Int))] [] ?_ (ho:=(And.intro (fun H sH=>hpi _) (trivial)))
   obtain ⟨b8,o9,rfl,-,c10⟩:=RS.row hr4 (hrow)
   refine uQ (c10.sees S3) ?_
   refine go2 36 [.ix b8 o9 n c i,.f 0 0,.own,.b 0 0,.own,.b 2 0,.cl 19 #[Vi r.k,Vi 4] (Vi (cJ r.k 4))] [] ?_ (ho:=(And.intro (by first | omega | (simp; omega)) (And.intro (fun H sH=>hk4 _) (trivial))))
   intro b11 bnw
   by_cases s0:cJ r.k 4=0
   ·skip
    have hd0:=oX r.a 60 (by omega)
    have hd1:=nX r.a 60 (by omega)
    have hpa:=fun H=>yJ r.a 60 H hro.2.1.1 hro.2.1.2 (by decide) (by decide)
    generalize cJ r.a 60=d at *
    have hst:=MStep.tick (ρ:=ρ) (E:=E) (lt:=lt) (1 + d) (by omega) (by omega)
    have hM':=hM.step (by omega) hst
    have hI':=hInv k _ _ _ _ (by omega) hM hI hst
    have htk:=fun H q=>tick_any E ρ lv hM.ok hM.se (1 + d) (by omega) (by omega) (by omega) (by
     have:=(setE_few (tickE_ok hM.ok (n:=1 + d) (by omega) (by omega))).2.1
     have e:(bZ E (1 + d)).last=E.last:=rfl
     omega) ue H q
    generalize pY (bZ E (1 + d)) ρ=E' at *
    generalize tickT E (1 + d)++(oY (bZ E (1 + d)) ρ).out=more at *
    refine nV (t:=(cJ r.k 4) == 0) (beq_iff_eq.2 s0) ?_
    have bm:=hM'.len
    rw [List.length_append] at bm
    have hG:=fun w w' more' H q1 q2=>hfn k E E' (lt++more) w w' more' H (by omega) hM' hI' q1 q2
    have hC:=fun va vb b H q1 q2 q3=>c_cat (la:=lt) (lb:=more) (by omega) va vb b H q1 q2 q3
    refine kV 13 0 [.ld 4 0,.pu,.ld 2 1,.v (fun gh=>Vi d),.v (fun gh=>Vi (1 + d)),.f (fun gh=>.tuple #[.agg #[sL (agJ 0 (gh 5)),sL (agJ 1 (gh 5)),Vi E'.pol.t,Vi E'.pol.b,Vi E'.pol.c,sL (agJ 2 (gh 5)),sL (agJ 3 (gh 5)),sL (agJ 4 (gh 5)),Vi E'.now,Vi E'.last],sL (agJ 5 (gh 5)),Vi 0]) (fun gh hh=>TelF hh (gh 5) E' more),.pu,.pu,.pu,.pu,.st 0 0,.pu,.pu] [(5,false)] (And.intro (fun _ _ _ s c=>c.sees s) (trivial)) ?_ ?_
    ·intro R hT hA hmono
     refine And.intro (t_v hT hA hmono (k:=19) (args:=(fun gh=>#[Vi r.a,Vi 60])) (f:=fun gh=>Vi d) (fun gh H sH fH lent=>hpa _)) ?_
     refine And.intro (yY hT hA (fun gh=>Vi (1 + d)) (fun gh=>Vi (IntKind.i64.wrap (1 + d))) (fun gh=>jJ (by omega) (by omega))) ?_
     refine And.intro (rX hT hA hmono ⟨fun _ _=>by kernel_rfl,fun _ _=>by kernel_rfl,fun _ _=>by kernel_rfl⟩ 96 (fun u=>.tuple #[.agg #[sL (agJ 0 u),sL (agJ 1 u),Vi E'.pol.t,Vi E'.pol.b,Vi E'.pol.c,sL (agJ 2 u),sL (agJ 3 u),sL (agJ 4 u),Vi E'.now,Vi E'.last],sL (agJ 5 u),Vi 0]) [0,3,4] 5 15 (fun gh=>#[.agg #[sL (agJ 0 ue),sL (agJ 1 ue),Vi E.pol.t,Vi E.pol.b,Vi E.pol.c,sL (agJ 2 ue),sL (agJ 3 ue),sL (agJ 4 ue),Vi E.now,Vi E.last],Vi (1 + d)]) (fun gh H sH fH lent=>C0.facts (R:=R) (x:=gh) (i:=5) (n:=0) (F:=(fun u=>.tuple #[.agg #[sL (agJ 0 u),sL (agJ 1 u),Vi E'.pol.t,Vi E'.pol.b,Vi E'.pol.c,sL (agJ 2 u),sL (agJ 3 u),sL (agJ 4 u),Vi E'.now,Vi E'.last],sL (agJ 5 u),Vi 0])) (G:=fun u hh=>TelF hh u E' more) (f:=fun gh hh=>TelF hh (gh 5) E' more) (htk _ (hE.sees sH)) (by kernel_rfl) (by kernel_rfl) (fun _ _ r=>r))) ?_
     trivial
    rintro u96 W12 S13 ⟨f96,-⟩
    replace f96:TelF W12 u96 E' more:=f96
    refine go0 20 [.b 4 0,.b 0 0,.cl 30 #[.agg #[sL (agJ 0 ue),sL (agJ 1 ue),Vi E.pol.t,Vi E.pol.b,Vi E.pol.c,sL (agJ 2 ue),sL (agJ 3 ue),sL (agJ 4 ue),Vi E.now,Vi E.last],.agg #[sL (agJ 0 u96),sL (agJ 1 u96),Vi E'.pol.t,Vi E'.pol.b,Vi E'.pol.c,sL (agJ 2 u96),sL (agJ 3 u96),sL (agJ 4 u96),Vi E'.now,Vi E'.last],sL (agJ 5 u96)] (.bool true)] [] ?_ (ho:=(And.intro (fun H sH=>hG _ _ _ _ (hE.sees (S13.trans sH)) ((f96.sees sH)).eng) (trivial)))
    refine kV 7 0 [.ld 0 0,.pu,.pu,.f (fun gh=>.slice (some ⟨(vJ (gh 3)),0,none⟩) 2 2) (fun gh hh=>Cells hh (vJ (gh 3)) 0 [.slice As lt.length cs,sL (agJ 5 u96)]),.f (fun gh=>.slice (sA (gh 4)) ((lt++more).length) (sC (gh 4))) (fun gh hh=>RS hh 8 (.slice (sA (gh 4)) (lt++more).length (sC (gh 4))) (gW (lt++more))),.st 4 0,.pu] [(3,true),(4,false)] (And.intro (fun _ _ _ s c=>c.sees s) (And.intro (fun _ _ _ s c=>c.sees s) (trivial))) ?_ ?_
    ·intro R hT hA hmono
     refine And.intro (r_fact hT hA hmono ⟨fun _ _=>by kernel_rfl,fun _ _=>by kernel_rfl,fun _ _=>by kernel_rfl⟩ 136 (fun g=>Vs g 2 2) [1,2] 3 (by kernel_rfl) (by kernel_rfl) (fun _=>by kernel_rfl) (fun gh=>[.slice As lt.length cs,sL (agJ 5 u96)]) 35 (fun _ _=>by kernel_rfl) (fun gh zb zH zc zj zq zhq zhe=>eX (i:=3) (k:=0) (f:=fun gh hh=>Cells hh (vJ (gh 3)) 0 [.slice As lt.length cs,sL (agJ 5 u96)]) (by kernel_rfl) (by kernel_rfl) zc zj zq zhq zhe)) ?_
     refine And.intro (rX hT hA hmono ⟨fun _ _=>by kernel_rfl,fun _ _=>by kernel_rfl,fun _ _=>by kernel_rfl⟩ 137 (fun u=>.slice (sA u) (lt++more).length (sC u)) [3] 4 65 (fun gh=>#[.slice (some ⟨(vJ (gh 3)),0,none⟩) 2 2]) (fun gh H sH fH lent=>C0.facts (R:=R) (x:=gh) (i:=4) (n:=1) (F:=(fun u=>.slice (sA u) (lt++more).length (sC u))) (G:=fun u hh=>RS hh 8 (.slice (sA u) (lt++more).length (sC u)) (gW (lt++more))) (f:=fun gh hh=>RS hh 8 (.slice (sA (gh 4)) (lt++more).length (sC (gh 4))) (gW (lt++more))) (hC _ _ _ _ (hS.sees (S13.trans sH)) ((f96.sees sH)).out (fH 0 _ rfl (by kernel_rfl))) (by kernel_rfl) (by kernel_rfl) (fun _ _ r=>r))) ?_
     trivial
    rintro b15 u137 W16 S17 ⟨f14,f137,-⟩
    replace f14:Cells W16 b15 0 [.slice As lt.length cs,sL (agJ 5 u96)]:=f14
    replace f137:RS W16 8 (.slice (sA u137) (lt++more).length (sC u137)) (gW (lt++more)):=f137
    refine uQ f14 ?_
    refine go0 6 [] [(138,Vi (IntKind.i64.wrap ((k:Int) + 1)),Vi ((k:Int) + 1))] ?_ (hc:=(And.intro (jJ (by omega) (by omega)) (trivial)))
    exact mV (k + 1) (fun X q=>⟨W16,E',(lt++more),u96,(sA u137),(sC u137),q _ _ _ _ ⟨rfl,by kernel_rfl⟩,(S3.trans (S13.trans S17)),by omega,by omega,hM',hI',((f96.sees S17)).eng,f137⟩) (by omega)
   ·skip
    refine vQ (t:=(cJ r.k 4) == 0) (beq_eq_false_iff_ne.2 s0) ?_
    refine go0 6 [] [] ?_
    by_cases s1:cJ r.k 4=1
    ·skip
     refine nV (t:=(cJ r.k 4) == 1) (beq_iff_eq.2 s1) ?_
     refine go0 1 [] [] ?_
     by_cases h1:g.kind=1
     ·skip
      have htd:cZ E.fm.fields g.name av.k=0:=by rw [hM.efm,hvk,hkd i g hg,if_pos h1]
      have hst:=MStep.tell (ρ:=ρ) (E:=E) (lt:=lt) g.name av hkn htd
      have hM':=hM.step (by omega) hst
      have hI':=hInv k _ _ _ _ (by omega) hM hI hst
      have hte:=fun H q=>tell_any E ρ lv hM.ok hM.se g.name av hkn htd (by omega) (by
       have:=(setE_few (tellE_ok hM.ok hkn htd (by omega))).2.1
       have e:(tellE E g.name av).last=E.last:=rfl
       omega) ue H q
      generalize pY (tellE E g.name av) ρ=E' at *
      generalize (oY (tellE E g.name av) ρ).out=more at *
      refine kV 15 0 [.ld 4 0,.pu,.ld 1 0,.pu,.ld 1 2,.ld 2 0,.v (fun gh=>.agg #[Vi av.k,Vi av.n,.string av.s]),.f (fun gh=>.tuple #[.agg #[sL (agJ 0 (gh 7)),sL (agJ 1 (gh 7)),Vi E'.pol.t,Vi E'.pol.b,Vi E'.pol.c,sL (agJ 2 (gh 7)),sL (agJ 3 (gh 7)),sL (agJ 4 (gh 7)),Vi E'.now,Vi E'.last],sL (agJ 5 (gh 7)),Vi 0]) (fun gh hh=>TelF hh (gh 7) E' more),.pu,.pu,.pu,.pu,.st 0 0,.pu,.pu] [(7,false)] (And.intro (fun _ _ _ s c=>c.sees s) (trivial)) ?_ ?_
      ·intro R hT hA hmono
       refine And.intro (t_v hT hA hmono (k:=21) (args:=(fun gh=>#[Vi g.ty,.agg #[Vi r.k,Vi r.a,Vi r.b,.string r.t]])) (f:=fun gh=>.agg #[Vi av.k,Vi av.n,.string av.s]) (fun gh H sH fH lent=>hV _)) ?_
       refine And.intro (rX hT hA hmono ⟨fun _ _=>by kernel_rfl,fun _ _=>by kernel_rfl,fun _ _=>by kernel_rfl⟩ 110 (fun u=>.tuple #[.agg #[sL (agJ 0 u),sL (agJ 1 u),Vi E'.pol.t,Vi E'.pol.b,Vi E'.pol.c,sL (agJ 2 u),sL (agJ 3 u),sL (agJ 4 u),Vi E'.now,Vi E'.last],sL (agJ 5 u),Vi 0]) [0,2,6] 7 20 (fun gh=>#[.agg #[sL (agJ 0 ue),sL (agJ 1 ue),Vi E.pol.t,Vi E.pol.b,Vi E.pol.c,sL (agJ 2 ue),sL (agJ 3 ue),sL (agJ 4 ue),Vi E.now,Vi E.last],.string g.name,.agg #[Vi av.k,Vi av.n,.string av.s]]) (fun gh H sH fH lent=>C0.facts (R:=R) (x:=gh) (i:=7) (n:=0) (F:=(fun u=>.tuple #[.agg #[sL (agJ 0 u),sL (agJ 1 u),Vi E'.pol.t,Vi E'.pol.b,Vi E'.pol.c,sL (agJ 2 u),sL (agJ 3 u),sL (agJ 4 u),Vi E'.now,Vi E'.last],sL (agJ 5 u),Vi 0])) (G:=fun u hh=>TelF hh u E' more) (f:=fun gh hh=>TelF hh (gh 7) E' more) (hte _ (hE.sees sH)) (by kernel_rfl) (by kernel_rfl) (fun _ _ r=>r))) ?_
       trivial
      rintro u110 W18 S19 ⟨f110,-⟩
      replace f110:TelF W18 u110 E' more:=f110
      refine go0 8 [.b 1 1] [] ?_
      refine vQ (t:=g.kind != 1) (bne_eq_false_iff_eq.2 h1) ?_
      refine go0 13 [.b 4 0,.b 0 0] [] ?_
      have bm:=hM'.len
      rw [List.length_append] at bm
      have hG:=fun w w' more' H q1 q2=>hfn k E E' (lt++more) w w' more' H (by omega) hM' hI' q1 q2
      have hC:=fun va vb b H q1 q2 q3=>c_cat (la:=lt) (lb:=more) (by omega) va vb b H q1 q2 q3
      refine go0 8 [.cl 30 #[.agg #[sL (agJ 0 ue),sL (agJ 1 ue),Vi E.pol.t,Vi E.pol.b,Vi E.pol.c,sL (agJ 2 ue),sL (agJ 3 ue),sL (agJ 4 ue),Vi E.now,Vi E.last],.agg #[sL (agJ 0 u110),sL (agJ 1 u110),Vi E'.pol.t,Vi E'.pol.b,Vi E'.pol.c,sL (agJ 2 u110),sL (agJ 3 u110),sL (agJ 4 u110),Vi E'.now,Vi E'.last],sL (agJ 5 u110)] (.bool true)] [] ?_ (ho:=(And.intro (fun H sH=>hG _ _ _ _ (hE.sees (S19.trans sH)) ((f110.sees sH)).eng) (trivial)))
      refine kV 7 0 [.ld 0 0,.pu,.pu,.f (fun gh=>.slice (some ⟨(vJ (gh 3)),0,none⟩) 2 2) (fun gh hh=>Cells hh (vJ (gh 3)) 0 [.slice As lt.length cs,sL (agJ 5 u110)]),.f (fun gh=>.slice (sA (gh 4)) ((lt++more).length) (sC (gh 4))) (fun gh hh=>RS hh 8 (.slice (sA (gh 4)) (lt++more).length (sC (gh 4))) (gW (lt++more))),.st 4 0,.pu] [(3,true),(4,false)] (And.intro (fun _ _ _ s c=>c.sees s) (And.intro (fun _ _ _ s c=>c.sees s) (trivial))) ?_ ?_
      ·intro R hT hA hmono
       refine And.intro (r_fact hT hA hmono ⟨fun _ _=>by kernel_rfl,fun _ _=>by kernel_rfl,fun _ _=>by kernel_rfl⟩ 136 (fun g=>Vs g 2 2) [1,2] 3 (by kernel_rfl) (by kernel_rfl) (fun _=>by kernel_rfl) (fun gh=>[.slice As lt.length cs,sL (agJ 5 u110)]) 35 (fun _ _=>by kernel_rfl) (fun gh zb zH zc zj zq zhq zhe=>eX (i:=3) (k:=0) (f:=fun gh hh=>Cells hh (vJ (gh 3)) 0 [.slice As lt.length cs,sL (agJ 5 u110)]) (by kernel_rfl) (by kernel_rfl) zc zj zq zhq zhe)) ?_
       refine And.intro (rX hT hA hmono ⟨fun _ _=>by kernel_rfl,fun _ _=>by kernel_rfl,fun _ _=>by kernel_rfl⟩ 137 (fun u=>.slice (sA u) (lt++more).length (sC u)) [3] 4 65 (fun gh=>#[.slice (some ⟨(vJ (gh 3)),0,none⟩) 2 2]) (fun gh H sH fH lent=>C0.facts (R:=R) (x:=gh) (i:=4) (n:=1) (F:=(fun u=>.slice (sA u) (lt++more).length (sC u))) (G:=fun u hh=>RS hh 8 (.slice (sA u) (lt++more).length (sC u)) (gW (lt++more))) (f:=fun gh hh=>RS hh 8 (.slice (sA (gh 4)) (lt++more).length (sC (gh 4))) (gW (lt++more))) (hC _ _ _ _ (hS.sees (S19.trans sH)) ((f110.sees sH)).out (fH 0 _ rfl (by kernel_rfl))) (by kernel_rfl) (by kernel_rfl) (fun _ _ r=>r))) ?_
       trivial
      rintro b21 u137 W22 S23 ⟨f20,f137,-⟩
      replace f20:Cells W22 b21 0 [.slice As lt.length cs,sL (agJ 5 u110)]:=f20
      replace f137:RS W22 8 (.slice (sA u137) (lt++more).length (sC u137)) (gW (lt++more)):=f137
      refine uQ f20 ?_
      refine go0 6 [] [(138,Vi (IntKind.i64.wrap ((k:Int) + 1)),Vi ((k:Int) + 1))] ?_ (hc:=(And.intro (jJ (by omega) (by omega)) (trivial)))
      exact mV (k + 1) (fun X q=>⟨W22,E',(lt++more),u110,(sA u137),(sC u137),q _ _ _ _ ⟨rfl,by kernel_rfl⟩,(S3.trans (S19.trans S23)),by omega,by omega,hM',hI',((f110.sees S23)).eng,f137⟩) (by omega)
     ·skip
      have htd:cZ E.fm.fields g.name av.k=2:=by rw [hM.efm,hvk,hkd i g hg,if_neg h1]
      have htn:=fun H q=>tell_no E ρ lv hM.ok hM.se g.name av hkn 2 htd (by decide) ue H q
      refine kV 15 0 [.ld 4 0,.pu,.ld 1 0,.pu,.ld 1 2,.ld 2 0,.v (fun gh=>.agg #[Vi av.k,Vi av.n,.string av.s]),.v (fun gh=>.tuple #[.agg #[Vz,Vz,Vi 0,Vi 0,Vi 0,Vz,Vz,Vz,Vi 0,Vi 0],Vz,Vi 2]),.pu,.pu,.pu,.pu,.st 0 0,.pu,.pu] [] (trivial) ?_ ?_
      ·intro R hT hA hmono
       refine And.intro (t_v hT hA hmono (k:=21) (args:=(fun gh=>#[Vi g.ty,.agg #[Vi r.k,Vi r.a,Vi r.b,.string r.t]])) (f:=fun gh=>.agg #[Vi av.k,Vi av.n,.string av.s]) (fun gh H sH fH lent=>hV _)) ?_
       refine And.intro (t_v hT hA hmono (k:=20) (args:=(fun gh=>#[.agg #[sL (agJ 0 ue),sL (agJ 1 ue),Vi E.pol.t,Vi E.pol.b,Vi E.pol.c,sL (agJ 2 ue),sL (agJ 3 ue),sL (agJ 4 ue),Vi E.now,Vi E.last],.string g.name,.agg #[Vi av.k,Vi av.n,.string av.s]])) (f:=fun gh=>.tuple #[.agg #[Vz,Vz,Vi 0,Vi 0,Vi 0,Vz,Vz,Vz,Vi 0,Vi 0],Vz,Vi 2]) (fun gh H sH fH lent=>htn _ (hE.sees sH))) ?_
       trivial
      rintro W24 S25 -
      refine go0 8 [.b 1 1] [] ?_
      refine nV (t:=g.kind != 1) (bne_iff_ne.2 h1) ?_
      refine go0 19 [] [(138,Vi (IntKind.i64.wrap ((k:Int) + 1)),Vi ((k:Int) + 1))] ?_ (hc:=(And.intro (jJ (by omega) (by omega)) (trivial)))
      exact mV (k + 1) (fun X q=>⟨W24,E,lt,ue,As,cs,q _ _ _ _ ⟨rfl,by kernel_rfl⟩,(S3.trans S25),by omega,by omega,hM.step (by omega) .stay,hI,(hE.sees S25),(hS.sees S25)⟩) (by omega)
    ·skip
     refine vQ (t:=(cJ r.k 4) == 1) (beq_eq_false_iff_ne.2 s1) ?_
     refine go0 8 [] [] ?_
     by_cases h0:lt.length=0
     ·skip
      refine nV (t:=(lt.length:Int) == 0) (beq_iff_eq.2 (by omega)) ?_
      refine go0 10 [] [(138,Vi (IntKind.i64.wrap ((k:Int) + 1)),Vi ((k:Int) + 1))] ?_ (hc:=(And.intro (jJ (by omega) (by omega)) (trivial)))
      exact mV (k + 1) (fun X q=>⟨W2,E,lt,ue,As,cs,q _ _ _ _ ⟨rfl,by kernel_rfl⟩,S3,by omega,by omega,hM.step (by omega) .stay,hI,hE,hS⟩) (by omega)
     ·skip
      refine vQ (t:=(lt.length:Int) == 0) (beq_eq_false_iff_ne.2 (by omega)) ?_
      refine go0 9 [.b 2 1] [] ?_
      have hj0:=oX r.a lt.length (by omega)
      have hj1:=nX r.a lt.length (by omega)
      have hpj:=fun H=>yJ r.a lt.length H hro.2.1.1 hro.2.1.2 (by omega) (by omega)
      obtain ⟨j,hj⟩:∃ j:Nat,cJ r.a lt.length=(j:Int):=⟨_,(Int.toNat_of_nonneg hj0).symm⟩
      rw [hj] at hj1 hpj
      obtain ⟨x,hx⟩:∃ x,lt[j]?=some x:=⟨_,List.getElem?_eq_getElem (by omega)⟩
      have hrx:(gW lt)[j]?=some x.cells:=by rw [List.getElem?_map,hx]; rfl
      obtain ⟨⟨⟨i2,f,hf,hxn,hf3⟩,hxk,hxa⟩,hxi⟩:=hM.ltr x (List.mem_of_getElem? hx)
      have hil2:=(List.getElem?_eq_some_iff.1 hf).1
      obtain ⟨v2,hv2⟩:∃ v,vs[i2]?=some v:=⟨_,List.getElem?_eq_getElem (by omega)⟩
      have hrow2:=aQ hf hv2
      obtain ⟨Au2,nu2,cu2,rfl⟩:=(AllSrc.get hs4 hf hv2).slice
      have hF2:=hfe f (List.mem_of_getElem? hf)
      have hff:E.fm.fields[i2]?=some f:=by rw [hM.efm]; exact hf
      obtain ⟨cl,hcl⟩:∃ c,E.calls[i2]?=some c:=⟨_,List.getElem?_eq_getElem (by rw [hM.ok.calls.len]; exact (List.getElem?_eq_some_iff.1 hff).1)⟩
      have hix':=fun b H q1 q2=>hixx i2 f x av b H hf hxn q1 q2
      have hH:∀ aw,OkV aw -> ∀ H,IsEng H ue E -> C0 Tryz.prog 22 #[.agg #[sL (agJ 0 ue),sL (agJ 1 ue),Vi E.pol.t,Vi E.pol.b,Vi E.pol.c,sL (agJ 2 ue),sL (agJ 3 ue),sL (agJ 4 ue),Vi E.now,Vi E.last],.agg #[Vt x.nm,Vi x.id,Vi x.key.k,Vi x.key.n,.string x.key.s,Vi aw.k,Vi aw.n,.string aw.s]] H (fun r h'=>HeaR (hrdE E ρ i2 f ⟨x.nm,x.id,x.key,aw⟩ cl) (hrdT E ρ i2 f ⟨x.nm,x.id,x.key,aw⟩ cl) (hrdB f ⟨x.nm,x.id,x.key,aw⟩ cl) r h'):=fun aw ha H q=>hear_all E ρ lv hM.ok hM.se i2 f ⟨x.nm,x.id,x.key,aw⟩ cl hff hcl hxn ha (by omega) ue H q
      have hsp:=fun aw (ha:OkV aw)=>hrd_step (ρ:=ρ) (lt:=lt) (x:=⟨x.nm,x.id,x.key,aw⟩) hff hcl ha
      have hk8:=fun H=>yJ r.k 8 H hro.1.1 hro.1.2 (by decide) (by decide)
      have han:=fun H=>answered_any f Au2 nu2 cu2 x.key H (name_print hF2.name).1 (known_size hxk) hF2.t1 hF2.t3
      have hak:=(ans_known hF2 hxk).1
      generalize ansV f x.key=bv at *
      refine go0 1 [.cl 19 #[Vi r.a,Vi (lt.length:Int)] (Vi (j:Int))] [] ?_ (ho:=(And.intro (fun H sH=>hpj _) (trivial)))
      obtain ⟨b26,o27,rfl,-,c28⟩:=RS.row hS (hrx)
      refine uQ (c28.sees (Sees.refl _)) ?_
      refine go1 25 [.ix b26 o27 lt.length cs j,.f 0 0,.own,.b 0 0,.b 2 2,.b 3 0,.cl 21 #[Vi g.ty,.agg #[Vi r.k,Vi r.a,Vi r.b,.string r.t]] (.agg #[Vi av.k,Vi av.n,.string av.s]),.b 0 5,.b 3 0,.cl 19 #[Vi r.k,Vi 8] (Vi (cJ r.k 8))] [] ?_ (ho:=(And.intro (by first | omega | (simp; omega)) (And.intro (fun H sH=>hV _) (And.intro (fun H sH=>hk8 _) (trivial)))))
      intro blx
      by_cases h8:cJ r.k 8 > 4
      ·skip
       have hst:=hsp bv (.inl hak)
       have hM':=hM.step (by omega) hst
       have hI':=hInv k _ _ _ _ (by omega) hM hI hst
       have hH':=hH bv (.inl hak)
       generalize hrdE E ρ i2 f ⟨x.nm,x.id,x.key,bv⟩ cl=E' at *
       generalize hrdT E ρ i2 f ⟨x.nm,x.id,x.key,bv⟩ cl=more at *
       generalize hrdB f ⟨x.nm,x.id,x.key,bv⟩ cl=tb at *
       refine nV (t:=decide ((cJ r.k 8) > 4)) (decide_eq_true h8) ?_
       refine go0 4 [] [] ?_
       refine g_callq (fun a w hJ=>hix' blx _ (hr4.sees (S3.trans hJ.j.seesQ)) (hJ.j.boxQ (b:=blx) (cs:=[Vt x.nm,Vi x.id,Vi x.key.k,Vi x.key.n,.string x.key.s,Vi av.k,Vi av.n,.string av.s]) 0 (by kernel_rfl))) ?_; intro W29 S30
       refine go0 3 [] [] ?_
       have c31:=RS.cell hr4 (hrow2)
       refine uQ (c31.sees (S3.trans S30)) ?_
       refine kV 10 0 [.pu,.pu,.pu,.v (fun gh=>.pointer (some ⟨b8,o9 + i2 * 9,none⟩)),.lf 0 0,.pu,.ld 0 2,.v (fun gh=>.agg #[Vi bv.k,Vi bv.n,.string bv.s]),.pu,.st 0 5] [] (trivial) ?_ ?_
       ·intro R hT hA hmono
        refine And.intro (zY hT hA b8 o9 n c i2 (fun gh=>.pointer (some ⟨b8,o9 + i2 * 9,none⟩)) (by first | omega | (simp; omega))) ?_
        refine And.intro (t_v hT hA hmono (k:=64) (args:=(fun gh=>#[.agg #[Vt f.name,Vi f.kind,Vi f.ty,Vi f.src.op,Vi f.src.k,Vi f.src.n,.string f.src.s,.string f.src.nm,.slice Au2 nu2 cu2],.agg #[Vi x.key.k,Vi x.key.n,.string x.key.s]])) (f:=fun gh=>.agg #[Vi bv.k,Vi bv.n,.string bv.s]) (fun gh H sH fH lent=>han _)) ?_
        trivial
       rintro W32 S33 -
       refine go0 4 [.b 5 0,.b 0 0] [] ?_
       refine nQ (fun H sH=>hH' _ (hE.sees (S30.trans (S33.trans sH)))) ?_; rintro _ W34 S35 ⟨u83,rfl,f83⟩
       refine go0 21 [.b 1 0,.b 5 0,.b 1 0] [] ?_
       have bm:=hM'.len
       rw [List.length_append] at bm
       have hG:=fun w w' more' H q1 q2=>hfn k E E' (lt++more) w w' more' H (by omega) hM' hI' q1 q2
       have hC:=fun va vb b H q1 q2 q3=>c_cat (la:=lt) (lb:=more) (by omega) va vb b H q1 q2 q3
       refine go0 8 [.cl 30 #[.agg #[sL (agJ 0 ue),sL (agJ 1 ue),Vi E.pol.t,Vi E.pol.b,Vi E.pol.c,sL (agJ 2 ue),sL (agJ 3 ue),sL (agJ 4 ue),Vi E.now,Vi E.last],.agg #[sL (agJ 0 u83),sL (agJ 1 u83),Vi E'.pol.t,Vi E'.pol.b,Vi E'.pol.c,sL (agJ 2 u83),sL (agJ 3 u83),sL (agJ 4 u83),Vi E'.now,Vi E'.last],sL (agJ 5 u83)] (.bool true)] [] ?_ (ho:=(And.intro (fun H sH=>hG _ _ _ _ (hE.sees (S30.trans (S33.trans (S35.trans sH)))) ((f83.sees sH)).eng) (trivial)))
       refine kV 7 0 [.ld 1 0,.pu,.pu,.f (fun gh=>.slice (some ⟨(vJ (gh 3)),0,none⟩) 2 2) (fun gh hh=>Cells hh (vJ (gh 3)) 0 [.slice (some ⟨b26,o27,none⟩) lt.length cs,sL (agJ 5 u83)]),.f (fun gh=>.slice (sA (gh 4)) ((lt++more).length) (sC (gh 4))) (fun gh hh=>RS hh 8 (.slice (sA (gh 4)) (lt++more).length (sC (gh 4))) (gW (lt++more))),.st 5 0,.pu] [(3,true),(4,false)] (And.intro (fun _ _ _ s c=>c.sees s) (And.intro (fun _ _ _ s c=>c.sees s) (trivial))) ?_ ?_
       ·intro R hT hA hmono
        refine And.intro (r_fact hT hA hmono ⟨fun _ _=>by kernel_rfl,fun _ _=>by kernel_rfl,fun _ _=>by kernel_rfl⟩ 136 (fun g=>Vs g 2 2) [1,2] 3 (by kernel_rfl) (by kernel_rfl) (fun _=>by kernel_rfl) (fun gh=>[.slice (some ⟨b26,o27,none⟩) lt.length cs,sL (agJ 5 u83)]) 35 (fun _ _=>by kernel_rfl) (fun gh zb zH zc zj zq zhq zhe=>eX (i:=3) (k:=0) (f:=fun gh hh=>Cells hh (vJ (gh 3)) 0 [.slice (some ⟨b26,o27,none⟩) lt.length cs,sL (agJ 5 u83)]) (by kernel_rfl) (by kernel_rfl) zc zj zq zhq zhe)) ?_
        refine And.intro (rX hT hA hmono ⟨fun _ _=>by kernel_rfl,fun _ _=>by kernel_rfl,fun _ _=>by kernel_rfl⟩ 137 (fun u=>.slice (sA u) (lt++more).length (sC u)) [3] 4 65 (fun gh=>#[.slice (some ⟨(vJ (gh 3)),0,none⟩) 2 2]) (fun gh H sH fH lent=>C0.facts (R:=R) (x:=gh) (i:=4) (n:=1) (F:=(fun u=>.slice (sA u) (lt++more).length (sC u))) (G:=fun u hh=>RS hh 8 (.slice (sA u) (lt++more).length (sC u)) (gW (lt++more))) (f:=fun gh hh=>RS hh 8 (.slice (sA (gh 4)) (lt++more).length (sC (gh 4))) (gW (lt++more))) (hC _ _ _ _ (hS.sees (S30.trans (S33.trans (S35.trans sH)))) ((f83.sees sH)).out (fH 0 _ rfl (by kernel_rfl))) (by kernel_rfl) (by kernel_rfl) (fun _ _ r=>r))) ?_
        trivial
       rintro b37 u137 W38 S39 ⟨f36,f137,-⟩
       replace f36:Cells W38 b37 0 [.slice (some ⟨b26,o27,none⟩) lt.length cs,sL (agJ 5 u83)]:=f36
       replace f137:RS W38 8 (.slice (sA u137) (lt++more).length (sC u137)) (gW (lt++more)):=f137
       refine uQ f36 ?_
       refine go0 6 [] [(138,Vi (IntKind.i64.wrap ((k:Int) + 1)),Vi ((k:Int) + 1))] ?_ (hc:=(And.intro (jJ (by omega) (by omega)) (trivial)))
       exact mV (k + 1) (fun X q=>⟨W38,E',(lt++more),u83,(sA u137),(sC u137),q _ _ _ _ ⟨rfl,by kernel_rfl⟩,(S3.trans (S30.trans (S33.trans (S35.trans S39)))),by omega,by omega,hM',hI',((f83.sees S39)).eng,f137⟩) (by omega)
      ·skip
       have hst:=hsp av (.inl hkn)
       have hM':=hM.step (by omega) hst
       have hI':=hInv k _ _ _ _ (by omega) hM hI hst
       have hH':=hH av (.inl hkn)
       generalize hrdE E ρ i2 f ⟨x.nm,x.id,x.key,av⟩ cl=E' at *
       generalize hrdT E ρ i2 f ⟨x.nm,x.id,x.key,av⟩ cl=more at *
       generalize hrdB f ⟨x.nm,x.id,x.key,av⟩ cl=tb at *
       refine vQ (t:=decide ((cJ r.k 8) > 4)) (decide_eq_false h8) ?_
       refine go0 5 [.b 5 0,.b 0 0] [] ?_
       refine nQ (fun H sH=>hH' _ (hE.sees sH)) ?_; rintro _ W40 S41 ⟨u83,rfl,f83⟩
       refine go0 21 [.b 1 0,.b 5 0,.b 1 0] [] ?_
       have bm:=hM'.len
       rw [List.length_append] at bm
       have hG:=fun w w' more' H q1 q2=>hfn k E E' (lt++more) w w' more' H (by omega) hM' hI' q1 q2
       have hC:=fun va vb b H q1 q2 q3=>c_cat (la:=lt) (lb:=more) (by omega) va vb b H q1 q2 q3
       refine go0 8 [.cl 30 #[.agg #[sL (agJ 0 ue),sL (agJ 1 ue),Vi E.pol.t,Vi E.pol.b,Vi E.pol.c,sL (agJ 2 ue),sL (agJ 3 ue),sL (agJ 4 ue),Vi E.now,Vi E.last],.agg #[sL (agJ 0 u83),sL (agJ 1 u83),Vi E'.pol.t,Vi E'.pol.b,Vi E'.pol.c,sL (agJ 2 u83),sL (agJ 3 u83),sL (agJ 4 u83),Vi E'.now,Vi E'.last],sL (agJ 5 u83)] (.bool true)] [] ?_ (ho:=(And.intro (fun H sH=>hG _ _ _ _ (hE.sees (S41.trans sH)) ((f83.sees sH)).eng) (trivial)))
       refine kV 7 0 [.ld 1 0,.pu,.pu,.f (fun gh=>.slice (some ⟨(vJ (gh 3)),0,none⟩) 2 2) (fun gh hh=>Cells hh (vJ (gh 3)) 0 [.slice (some ⟨b26,o27,none⟩) lt.length cs,sL (agJ 5 u83)]),.f (fun gh=>.slice (sA (gh 4)) ((lt++more).length) (sC (gh 4))) (fun gh hh=>RS hh 8 (.slice (sA (gh 4)) (lt++more).length (sC (gh 4))) (gW (lt++more))),.st 5 0,.pu] [(3,true),(4,false)] (And.intro (fun _ _ _ s c=>c.sees s) (And.intro (fun _ _ _ s c=>c.sees s) (trivial))) ?_ ?_
       ·intro R hT hA hmono
        refine And.intro (r_fact hT hA hmono ⟨fun _ _=>by kernel_rfl,fun _ _=>by kernel_rfl,fun _ _=>by kernel_rfl⟩ 136 (fun g=>Vs g 2 2) [1,2] 3 (by kernel_rfl) (by kernel_rfl) (fun _=>by kernel_rfl) (fun gh=>[.slice (some ⟨b26,o27,none⟩) lt.length cs,sL (agJ 5 u83)]) 35 (fun _ _=>by kernel_rfl) (fun gh zb zH zc zj zq zhq zhe=>eX (i:=3) (k:=0) (f:=fun gh hh=>Cells hh (vJ (gh 3)) 0 [.slice (some ⟨b26,o27,none⟩) lt.length cs,sL (agJ 5 u83)]) (by kernel_rfl) (by kernel_rfl) zc zj zq zhq zhe)) ?_
        refine And.intro (rX hT hA hmono ⟨fun _ _=>by kernel_rfl,fun _ _=>by kernel_rfl,fun _ _=>by kernel_rfl⟩ 137 (fun u=>.slice (sA u) (lt++more).length (sC u)) [3] 4 65 (fun gh=>#[.slice (some ⟨(vJ (gh 3)),0,none⟩) 2 2]) (fun gh H sH fH lent=>C0.facts (R:=R) (x:=gh) (i:=4) (n:=1) (F:=(fun u=>.slice (sA u) (lt++more).length (sC u))) (G:=fun u hh=>RS hh 8 (.slice (sA u) (lt++more).length (sC u)) (gW (lt++more))) (f:=fun gh hh=>RS hh 8 (.slice (sA (gh 4)) (lt++more).length (sC (gh 4))) (gW (lt++more))) (hC _ _ _ _ (hS.sees (S41.trans sH)) ((f83.sees sH)).out (fH 0 _ rfl (by kernel_rfl))) (by kernel_rfl) (by kernel_rfl) (fun _ _ r=>r))) ?_
        trivial
       rintro b43 u137 W44 S45 ⟨f42,f137,-⟩
       replace f42:Cells W44 b43 0 [.slice (some ⟨b26,o27,none⟩) lt.length cs,sL (agJ 5 u83)]:=f42
       replace f137:RS W44 8 (.slice (sA u137) (lt++more).length (sC u137)) (gW (lt++more)):=f137
       refine uQ f42 ?_
       refine go0 6 [] [(138,Vi (IntKind.i64.wrap ((k:Int) + 1)),Vi ((k:Int) + 1))] ?_ (hc:=(And.intro (jJ (by omega) (by omega)) (trivial)))
       exact mV (k + 1) (fun X q=>⟨W44,E',(lt++more),u83,(sA u137),(sC u137),q _ _ _ _ ⟨rfl,by kernel_rfl⟩,(S3.trans (S41.trans S45)),by omega,by omega,hM',hI',((f83.sees S45)).eng,f137⟩) (by omega)
  ·skip
   refine lV 32 (v:=.bool (decide ((k:Int) > 30))) (v':=.bool true) (congrArg Value.bool (decide_eq_true (by omega))) ?_
   refine go0 11 [] [] ?_
   refine zQ ?_
   refine go0 12 [.b 2 0,.b 1 0] [] ?_
   refine hQ.to [.agg #[sL (agJ 0 ue),sL (agJ 1 ue),Vi E.pol.t,Vi E.pol.b,Vi E.pol.c,sL (agJ 2 ue),sL (agJ 3 ue),sL (agJ 4 ue),Vi E.now,Vi E.last],.slice As lt.length cs,.bool true] (fun H sH=>?_) (ix:=[1])
   exact ⟨E,lt,k,ue,.slice As lt.length cs,rfl,hM,hI,by omega,(hE.sees sH),(hS.sees sH)⟩
 ·skip
  refine vQ (t:=decide ((k:Int) < (len:Int))) (decide_eq_false (by omega)) ?_
  refine go0 2 [] [] ?_
  refine zQ ?_
  refine go0 12 [.b 1 0,.b 0 0] [] ?_
  refine hQ.to [.agg #[sL (agJ 0 ue),sL (agJ 1 ue),Vi E.pol.t,Vi E.pol.b,Vi E.pol.c,sL (agJ 2 ue),sL (agJ 3 ue),sL (agJ 4 ue),Vi E.now,Vi E.last],.slice As lt.length cs,.bool true] (fun H sH=>?_) (ix:=[0])
  exact ⟨E,lt,k,ue,.slice As lt.length cs,rfl,hM,hI,by omega,(hE.sees sH),(hS.sees sH)⟩
theorem asks_each (w w':Value) (E E':Eg) (more:Value) (h:Vw):C0 Tryz.prog 30 #[.agg #[sL (agJ 0 w),sL (agJ 1 w),Vi E.pol.t,Vi E.pol.b,Vi E.pol.c,sL (agJ 2 w),sL (agJ 3 w),sL (agJ 4 w),Vi E.now,Vi E.last],.agg #[sL (agJ 0 w'),sL (agJ 1 w'),Vi E'.pol.t,Vi E'.pol.b,Vi E'.pol.c,sL (agJ 2 w'),sL (agJ 3 w'),sL (agJ 4 w'),Vi E'.now,Vi E'.last],sL more] h (fun r _=>r=.bool true):=by
 refine tQ Tryz.func30 (c:=Tryz.f30.body.getD .skip) (N:=7) ?_
 intro hbx hbad Q hQ
 refine go2 13 [.own,.own] [] ?_
 intro b1 b2
 refine hQ.to [.bool true] (fun H sH=>?_)
 exact rfl
theorem asks_meet {fm:Fm} {p:Pol} {ρ:List Int} {lv:Nat -> Nat} {r:Value} {h:Vw} (q:∃ (E:Eg) (lt:List Lt) (k:Nat) (ue su:Value),r=.tuple #[.agg #[sL (agJ 0 ue),sL (agJ 1 ue),Vi E.pol.t,Vi E.pol.b,Vi E.pol.c,sL (agJ 2 ue),sL (agJ 3 ue),sL (agJ 4 ue),Vi E.now,Vi E.last],sL su,.bool true] /\ MOk fm p ρ lv k E lt /\ AskI E.fm.fields E.pol E.last E.calls lt /\ k <= 40 /\ IsEng h ue E /\ RS h 8 (sL su) (gW lt)) :
  ∃ (E:Eg) (lt:List Lt) (k:Nat) (ue:Value) (As:Option Addr) (cs:Nat),r=.tuple #[.agg #[sL (agJ 0 ue),sL (agJ 1 ue),Vi E.pol.t,Vi E.pol.b,Vi E.pol.c,sL (agJ 2 ue),sL (agJ 3 ue),sL (agJ 4 ue),Vi E.now,Vi E.last],.slice As lt.length cs,.bool true] /\ MOk fm p ρ lv k E lt /\ AskI E.fm.fields E.pol E.last E.calls lt /\ k <= 40 /\ IsEng h ue E /\ RS h 8 (.slice As lt.length cs) (gW lt):=by
 obtain ⟨E,lt,k,ue,su,rfl,h1,h2,h3,h4,h5⟩:=q
 obtain ⟨As,cs,es,-⟩:=h5.form
 rw [List.length_map] at es
 rw [es] at h5 ⊢
 exact ⟨E,lt,k,ue,As,cs,rfl,h1,h2,h3,h4,h5⟩
set_option maxHeartbeats 1000000 in
theorem engineAsks_c (l m:List RawD) (sl sm:Value) (a b:Int) (h:Vw) (hl:RS h 4 sl (l.map RawD.cs)) (hm:RS h 4 sm (m.map RawD.cs)) (ll:l.length * 40 <= reachBytes) (lm:m.length * 40 <= reachBytes) (ol:∀ r∈l,r.ok) (om:∀ r∈m,r.ok) (a0 : -9223372036854775808 <= a) (a1:a <= 9223372036854775807) (b0 : -9223372036854775808 <= b) (b1:b <= 9223372036854775807) :
  C0 Tryz.prog 7 #[sl,sm,Vi a,Vi b] h (fun v _=>v=.bool true):=by
 have hPol:=fun H=>c_policy a b 30 H a0 a1 b0 b1 (by decide) (by decide)
 have hp:=polE_ok a b 30
 generalize polE a b 30=P at *
 have hB:=fun H q=>begun_any l sl P hp H q ll ol
 have hM0:=begE_m l hp
 have hI0:AskI (begE l P).fm.fields (begE l P).pol (begE l P).last (begE l P).calls (begL l P):=AskI.settle (E:=newE (jQ l) P) hp.t1 (newE_ok (form_okFm l) (form_one l) hp).calls.len (AskI.new hp.t1 _)
 have hMe0:=fun w su H q1 q2 q3=>meet_any (jQ l) P (rhoL (pW (jQ l).fields)) (lvF l) (fun E lt=>AskI E.fm.fields E.pol E.last E.calls lt) (fun _ _ _ _ _ _ q2 q3 q4=>AskI.step q2 q3 q4) (fun k E E' lt' w w' more H q1 q2 q3 q4 q5=>asks_each w w' E E' more H) (begE l P) (begL l P) hM0 hI0 m sm om lm w su H q1 q2 q3
 have hMe:=fun w su H q1 q2 q3=>(hMe0 w su H q1 q2 q3).mono fun r h' _ q=>asks_meet q
 clear hMe0
 generalize rhoL (pW (jQ l).fields)=ρ at *
 generalize lvF l=lv at *
 generalize jQ l=fm at *
 clear hI0
 generalize begE l P=E0 at *
 generalize begL l P=lt0 at *
 obtain ⟨A0,c0,rfl,-,-,-⟩:=hl.form
 obtain ⟨A1,c1,rfl,-,-,-⟩:=hm.form
 rw [List.length_map] at *
 rw [List.length_map]
 generalize l.length=len at *
 generalize m.length=lenm at *
 refine tQ Tryz.func7 (c:=Tryz.f7.body.getD .skip) (N:=88) ?_
 intro hbx hbad Q hQ
 refine go1 18 [.cl 13 #[Vi a,Vi b,Vi 30] (.agg #[Vi P.t,Vi P.b,Vi P.c]),.own,.b 0 0,.b 0 0] [] ?_ (ho:=(And.intro (fun H sH=>hPol _) (trivial)))
 intro b1
 refine nQ (fun H sH=>hB _ (hl.sees sH)) ?_; rintro _ W2 S3 ⟨ue,rfl,hte⟩
 refine go1 25 [.own,.b 0 0,.b 0 0] [] ?_
 intro ben
 refine nQ (fun H sH=>hMe _ _ _ ((hte.sees sH)).eng ((hte.sees sH)).out (hm.sees (S3.trans sH))) ?_; rintro _ W4 S5 ⟨E,lt,k2,u,As,cs,rfl,hM,hI,hk2,hE,hS⟩
 refine go0 10 [] [] ?_
 refine eV ?_; intro b6
 refine go0 5 [] [] ?_
 refine eV ?_; intro b7
 refine go0 12 [] [] ?_
 have ba:=hM.len
 have hep:=hM.epol
 obtain ⟨-,inm,ifew,-,-⟩:=hI
 rw [hep] at ifew
 refine aV [0,1,0,1,1,1,1,1,1,1] [.block 0,.seq [1,1,1,1,1,1,1,1]] (fun (k:Nat) X=>∃ (W8:Vw) (l1:List (Int × Value)) (l2:List (Int × Value)),X W8 [(9,Vp b1),(12,.bool true),(13,.map (some b6)),(14,.map (some b7)),(41,.slice As lt.length cs),(42,Vi (lt.length:Int)),(43,Vi (k:Int))] [.map b7 (uV l2),.map b6 (uV l1),.box ben [sL (agJ 0 ue),sL (agJ 1 ue),Vi E0.pol.t,Vi E0.pol.b,Vi E0.pol.c,sL (agJ 2 ue),sL (agJ 3 ue),sL (agJ 4 ue),Vi E0.now,Vi E0.last],.box b1 [Vi P.t,Vi P.b,Vi P.c]] [] /\ Sees W4 W8 /\ (k <= lt.length) /\ (∀ t,iget t l1=seenC t (lt.take k)) /\ (∀ t,iget t l2=seenN t (lt.take k))) (fun k=>lt.length - k) (0) (fun X q=>⟨W4,[],[],q _ _ _ _ ⟨rfl,by kernel_rfl⟩,Sees.refl _,Nat.zero_le _,fun t=>rfl,fun t=>rfl⟩) ?_
 rintro k a w ⟨W8,l1,l2,hJ,S9,hk,h1,h2⟩; refine iV hJ ?_; clear hJ a w
 refine go0 6 [] [] ?_
 rcases (by omega:k < lt.length∨k=lt.length) with hlt | hke
 ·obtain ⟨x,hx⟩:∃ x,lt[k]?=some x:=⟨_,List.getElem?_eq_getElem (by omega)⟩
  have hxm:=List.mem_of_getElem? hx
  have hrx:(gW lt)[k]?=some x.cells:=by rw [List.getElem?_map,hx]; rfl
  have hxa:=(hM.ltr x hxm).1.ans
  have hae:eqB x.ans zV=true:=by rw [hxa]; exact eqB_iff.2 rfl
  have htk:=aZ lt k x hx
  have hcn:(cntI x.id (lt.take k):Int) + 1 <= P.t:=by
   have q:=cnt_snoc x.id (lt.take k) x
   rw [if_pos rfl, <- htk] at q
   have:=cnt_take x.id lt (k + 1)
   have:=ifew x.id
   omega
  have hc1:∀ t,seenC t (lt.take (k + 1))=if t=x.id then some (Vi ((cntI x.id (lt.take k):Int) + 1)) else seenC t (lt.take k):=fun t=>by rw [htk]; exact seenC_snoc t _ x
  have hc2:∀ t,seenN t (lt.take (k + 1))=if t=x.id then some (Vt x.nm) else seenN t (lt.take k):=fun t=>by rw [htk]; exact seenN_snoc t _ x fun y hy e=>inm y (List.mem_of_mem_take hy) x hxm e
  have ht6:=hp.t6
  have hnn:=h2 x.id
  have hcc:=h1 x.id
  unfold seenC at hcc
  have hz:cntI x.id (lt.take k)=0 -> iget x.id l2=none:=fun q=>by
   rcases seenN_at (t:=x.id) (l:=lt.take k) with ⟨y,hy,e,-⟩ | e
   ·have:=List.countP_eq_zero.1 q y hy
    exact absurd (decide_eq_true e) this
   ·rw [hnn,e]
  have hnz:iget x.id l2=none∨iget x.id l2=some (Vt x.nm):=by
   rcases seenN_at (t:=x.id) (l:=lt.take k) with ⟨y,hy,e,q⟩ | e
   ·exact .inr (by rw [hnn,q,inm y (List.mem_of_mem_take hy) x hxm e])
   ·exact .inl (by rw [hnn,e])
  generalize cntI x.id (lt.take k)=cn at *
  refine nV (t:=decide ((k:Int) < (lt.length:Int))) (decide_eq_true (by omega)) ?_
  refine go0 6 [] [] ?_
  obtain ⟨b10,o11,rfl,-,c12⟩:=RS.row hS (hrx)
  refine uQ (c12.sees S9) ?_
  refine go1 11 [.ix b10 o11 lt.length cs k,.f 0 0,.own,.b 0 0,.b 0 1] [] ?_ (ho:=(And.intro (by first | omega | (simp; omega)) (trivial)))
  intro blx
  by_cases hc0:cn=0
  ·rw [if_pos hc0] at hcc
   have hi1:=ifind_none hcc
   have hi2:=ifind_none (hz hc0)
   refine cV 2 b6 (es:=uV l1) (td:=.int .i64) (key:=Vi x.id) (r:=none) (Vi 0) (Vi 0) (hi1) ?_
   refine go0 1 [] [(51,Vi 1,Vi ((cn:Int) + 1))] ?_ (hc:=(And.intro ((by subst hc0; rfl)) (trivial)))
   refine g_mapputI 2 b6 (l:=l1) (m:=x.id) (v:=Vi ((cn:Int) + 1)) fun l1' hl1=>?_
   refine go0 8 [.b 0 1] [] ?_
   refine cV 1 b7 (es:=uV l2) (td:=.int .i64) (key:=Vi x.id) (r:=none) (Ve) (.tuple #[Ve,.bool false]) (hi2) ?_
   refine go0 20 [.b 0 1] [] ?_
   have hq:iget x.id l1'=some (Vi ((cn:Int) + 1)):=by rw [hl1,if_pos rfl]
   obtain ⟨j1,hj1⟩:=ifind_some hq
   refine cV 2 b6 (es:=uV l1') (td:=.int .i64) (key:=Vi x.id) (r:=some (j1,Vi ((cn:Int) + 1))) (Vi 0) (Vi ((cn:Int) + 1)) (hj1) ?_
   refine go0 5 [.b 4 0] [] ?_
   refine lV 75 (v:=.bool (decide (((cn:Int) + 1) > P.t))) (v':=.bool false) (congrArg Value.bool (decide_eq_false (by omega))) ?_
   refine go0 3 [.b 0 5] [] ?_
   refine jV (.bool false) (fun w=>run_neqop (x:=(.tmp 77)) (y:=(.tmp 78)) (v:=x.ans) (w:=zV) (by kernel_rfl) (by kernel_rfl) (by kernel_rfl) (hae)) ?_
   refine go0 12 [.b 0 1,.b 0 0] [] ?_
   refine g_mapputI 1 b7 (l:=l2) (m:=x.id) (v:=.string x.nm) fun l2' hl2=>?_
   refine go0 7 [] [(86,Vi (IntKind.i64.wrap ((k:Int) + 1)),Vi ((k:Int) + 1))] ?_ (hc:=(And.intro (jJ (by omega) (by omega)) (trivial)))
   exact mV (k + 1) (fun X q=>⟨W8,l1',l2',q _ _ _ _ ⟨rfl,by kernel_rfl⟩,S9,by omega,(fun t=>by rw [hl1,hc1,h1]),(fun t=>by rw [hl2,hc2,h2])⟩) (by omega)
  ·skip
   rw [if_neg hc0] at hcc
   obtain ⟨j0,hi1⟩:=ifind_some hcc
   rcases hnz with hnz | hnz
   ·have hi2:=ifind_none hnz
    refine cV 2 b6 (es:=uV l1) (td:=.int .i64) (key:=Vi x.id) (r:=some (j0,Vi (cn:Int))) (Vi 0) (Vi (cn:Int)) (hi1) ?_
    refine go0 1 [] [(51,Vi (IntKind.i64.wrap ((cn:Int) + 1)),Vi ((cn:Int) + 1))] ?_ (hc:=(And.intro (jJ (by omega) (by omega)) (trivial)))
    refine g_mapputI 2 b6 (l:=l1) (m:=x.id) (v:=Vi ((cn:Int) + 1)) fun l1' hl1=>?_
    refine go0 8 [.b 0 1] [] ?_
    refine cV 1 b7 (es:=uV l2) (td:=.int .i64) (key:=Vi x.id) (r:=none) (Ve) (.tuple #[Ve,.bool false]) (hi2) ?_
    refine go0 20 [.b 0 1] [] ?_
    obtain ⟨j1,hj1⟩:=ifind_some (show iget x.id l1'=some (Vi ((cn:Int) + 1)) by rw [hl1,if_pos rfl])
    refine cV 2 b6 (es:=uV l1') (td:=.int .i64) (key:=Vi x.id) (r:=some (j1,Vi ((cn:Int) + 1))) (Vi 0) (Vi ((cn:Int) + 1)) (hj1) ?_
    refine go0 5 [.b 4 0] [] ?_
    refine lV 75 (v:=.bool (decide (((cn:Int) + 1) > P.t))) (v':=.bool false) (congrArg Value.bool (decide_eq_false (by omega))) ?_
    refine go0 3 [.b 0 5] [] ?_
    refine jV (.bool false) (fun w=>run_neqop (x:=(.tmp 77)) (y:=(.tmp 78)) (v:=x.ans) (w:=zV) (by kernel_rfl) (by kernel_rfl) (by kernel_rfl) (hae)) ?_
    refine go0 12 [.b 0 1,.b 0 0] [] ?_
    refine g_mapputI 1 b7 (l:=l2) (m:=x.id) (v:=.string x.nm) fun l2' hl2=>?_
    refine go0 7 [] [(86,Vi (IntKind.i64.wrap ((k:Int) + 1)),Vi ((k:Int) + 1))] ?_ (hc:=(And.intro (jJ (by omega) (by omega)) (trivial)))
    exact mV (k + 1) (fun X q=>⟨W8,l1',l2',q _ _ _ _ ⟨rfl,by kernel_rfl⟩,S9,by omega,(fun t=>by rw [hl1,hc1,h1]),(fun t=>by rw [hl2,hc2,h2])⟩) (by omega)
   ·skip
    obtain ⟨j2,hi2⟩:=ifind_some hnz
    refine cV 2 b6 (es:=uV l1) (td:=.int .i64) (key:=Vi x.id) (r:=some (j0,Vi (cn:Int))) (Vi 0) (Vi (cn:Int)) (hi1) ?_
    refine go0 1 [] [(51,Vi (IntKind.i64.wrap ((cn:Int) + 1)),Vi ((cn:Int) + 1))] ?_ (hc:=(And.intro (jJ (by omega) (by omega)) (trivial)))
    refine g_mapputI 2 b6 (l:=l1) (m:=x.id) (v:=Vi ((cn:Int) + 1)) fun l1' hl1=>?_
    refine go0 8 [.b 0 1] [] ?_
    refine cV 1 b7 (es:=uV l2) (td:=.int .i64) (key:=Vi x.id) (r:=some (j2,.string x.nm)) (Ve) (.tuple #[Vt x.nm,.bool true]) (hi2) ?_
    refine go0 17 [.b 0 0] [] ?_
    refine lV 66 (v:=.bool (x.nm.toList != x.nm.toList)) (v':=.bool false) (congrArg Value.bool (by simp)) ?_
    refine go0 3 [.b 0 1] [] ?_
    obtain ⟨j1,hj1⟩:=ifind_some (show iget x.id l1'=some (Vi ((cn:Int) + 1)) by rw [hl1,if_pos rfl])
    refine cV 2 b6 (es:=uV l1') (td:=.int .i64) (key:=Vi x.id) (r:=some (j1,Vi ((cn:Int) + 1))) (Vi 0) (Vi ((cn:Int) + 1)) (hj1) ?_
    refine go0 5 [.b 4 0] [] ?_
    refine lV 75 (v:=.bool (decide (((cn:Int) + 1) > P.t))) (v':=.bool false) (congrArg Value.bool (decide_eq_false (by omega))) ?_
    refine go0 3 [.b 0 5] [] ?_
    refine jV (.bool false) (fun w=>run_neqop (x:=(.tmp 77)) (y:=(.tmp 78)) (v:=x.ans) (w:=zV) (by kernel_rfl) (by kernel_rfl) (by kernel_rfl) (hae)) ?_
    refine go0 12 [.b 0 1,.b 0 0] [] ?_
    refine g_mapputI 1 b7 (l:=l2) (m:=x.id) (v:=.string x.nm) fun l2' hl2=>?_
    refine go0 7 [] [(86,Vi (IntKind.i64.wrap ((k:Int) + 1)),Vi ((k:Int) + 1))] ?_ (hc:=(And.intro (jJ (by omega) (by omega)) (trivial)))
    exact mV (k + 1) (fun X q=>⟨W8,l1',l2',q _ _ _ _ ⟨rfl,by kernel_rfl⟩,S9,by omega,(fun t=>by rw [hl1,hc1,h1]),(fun t=>by rw [hl2,hc2,h2])⟩) (by omega)
 ·skip
  refine vQ (t:=decide ((k:Int) < (lt.length:Int))) (decide_eq_false (by omega)) ?_
  refine go0 2 [] [] ?_
  refine zQ ?_
  refine go0 9 [] [] ?_
  refine hQ.to [.bool true] (fun H sH=>?_)
  exact rfl
theorem engineAsks_walk (v:Value) (l:List RawD) (v':Value) (m:List RawD) (a b:Int) (w:World) (h:RawsOf w v l) (h':RawsOf w v' m) (a0 : -9223372036854775808 <= a) (a1:a <= 9223372036854775807) (b0 : -9223372036854775808 <= b) (b1:b <= 9223372036854775807) :
  Calls Tryz.prog 7 #[v,v',Vi a,Vi b] w fun e w'=>e=.returned (.bool true) /\ Below w.heap.size w w' :=
 C0.law (engineAsks_c l m v v' a b ⟨w,[]⟩ h.rs h'.rs h.2.1 h'.2.1 h.2.2 h'.2.2 a0 a1 b0 b1)
namespace engineAsksLaw
open Go.ChangeShapes Go.WideShapes Go.ChangeAt Go.RowKit
open Go.ChangeMaps (open_string shut_string)
set_option linter.unusedVariables false
theorem lifted (os:Os) (started:os.Started) (H:Type) (enc:TypeId × Value -> H) :
  ReturnsInHanded {} Tryz.checked os 7 .any (Rows.engineAsksSpec.pre6 enc Tryz.prog Tryz.f7 Rows.engineAsksRow.domain false) (Rows.engineAsksSpec.post enc Tryz.prog Tryz.f7 false true false false):=by
 refine returnsInHanded_of_change_sized (C:=Tryz.checked) ownNone started (by kernel_rfl) Tryz.func7
  (ChangeSpec.witness6 (enc:=enc) (C:=Tryz.checked) false ⟨#[],#[.slice none 0 0,.slice none 0 0,Vi 0,Vi 0],[]⟩ 8 (by kernel_rfl) (by kernel_rfl) (by kernel_rfl) (by kernel_rfl)) ?_
 intro W base args ds gs before hval0 hW hcnd hsz0 _
 have hval:∀ (j:Nat) t v,Tryz.f7.params[j]?=some t -> args[j]?=some v -> Value.okWide Tryz.prog W .any base t v:=hval0
 have hsz:(DataW.weightsEach Tryz.prog (Tryz.f7.params.toList++Rows.engineAsksSpec.plain.varTypes Tryz.prog) (ds++gs)).all (· <= reachBytes)=true:=hsz0
 have hW':=hW
 obtain ⟨p,q,hA0,hV,rfl,hfz,hnd⟩:=hW
 have hA:DataW.TrodAll enc Tryz.prog W 0 (fun _=>true) true Tryz.f7.params.toList args.toList ds p:=hA0
 rw [Tryz.params7] at hA hval hsz
 obtain ⟨v0,vs0,d0,ds0,p0,q0,hargs,rfl,rfl,h0,r0⟩:=trodAll_cons hA
 obtain ⟨v1,vs1,d1,ds1,p1,q1,rfl,rfl,rfl,h1,r1⟩:=trodAll_cons r0
 obtain ⟨v2,vs2,d2,ds2,p2,q2,rfl,rfl,rfl,h2,r2⟩:=trodAll_cons r1
 obtain ⟨v3,vs3,d3,ds3,p3,q3,rfl,rfl,rfl,h3,r3⟩:=trodAll_cons r2
 obtain ⟨rfl,rfl,rfl⟩:=trodAll_nil r3
 obtain rfl:args=#[v0,v1,v2,v3]:=by cases args; simp_all
 obtain ⟨rfl,rfl⟩:=trodVars_none hV
 have k0:=h0
 have lt0:∀ x∈p0,x.block < W.heap.size:=by obtain ⟨m,hm⟩:=k0; exact DataW.trod_lt m _ _ _ hm
 obtain ⟨a0,w0⟩:=open_rows (hval 0 22 v0 rfl rfl) h0 (fun es ss hd=>sized_slice hsz (j:=0) (t:=22) (elems:=es) (spare:=ss) rfl (by rw [hd]; rfl) Tryz.underlying22)
 have k1:=h1
 have lt1:∀ x∈p1,x.block < W.heap.size:=by obtain ⟨m,hm⟩:=k1; exact DataW.trod_lt m _ _ _ hm
 obtain ⟨a1,w1⟩:=open_rows (hval 1 22 v1 rfl rfl) h1 (fun es ss hd=>sized_slice hsz (j:=1) (t:=22) (elems:=es) (spare:=ss) rfl (by rw [hd]; rfl) Tryz.underlying22)
 have k2:=h2
 have lt2:∀ x∈p2,x.block < W.heap.size:=by obtain ⟨m,hm⟩:=k2; exact DataW.trod_lt m _ _ _ hm
 obtain ⟨a2,rfl,-,-,w2⟩:=open_int Tryz.underlying3 (hval 2 3 v2 rfl rfl) h2
 have k3:=h3
 have lt3:∀ x∈p3,x.block < W.heap.size:=by obtain ⟨m,hm⟩:=k3; exact DataW.trod_lt m _ _ _ hm
 obtain ⟨a3,rfl,-,-,w3⟩:=open_int Tryz.underlying3 (hval 3 3 v3 rfl rfl) h3
 clear hA0 hval0 hsz0
 refine (engineAsks_walk v0 a0 v1 a1 a2 a3 W w0 w1 (int_lo w2) (int_hi w2) (int_lo w3) (int_hi w3)).mono fun e W' ⟨he,bel⟩=>?_
 subst he
 exact ⟨_,rfl,_,_,_,[],_,[],hW',trodAll_mk1 (shut_bool Tryz.underlying4 _),(trodAll_cons_mk (Below.trod laidOutTrue (by kernel_rfl) (of_decide_eq_true (by kernel_rfl)) k0 bel lt0) (trodAll_cons_mk (Below.trod laidOutTrue (by kernel_rfl) (of_decide_eq_true (by kernel_rfl)) k1 bel lt1) (trodAll_cons_mk (Below.trod laidOutTrue (by kernel_rfl) (of_decide_eq_true (by kernel_rfl)) k2 bel lt2) (trodAll_cons_mk (Below.trod laidOutTrue (by kernel_rfl) (of_decide_eq_true (by kernel_rfl)) k3 bel lt3) trodAll_mk0)))),rfl,bel.frame _,fun h=>by cases h⟩
theorem over:Rows.engineAsksRow.holds Tryz.pinned (OpenSpec.ofChange Rows.engineAsksSpec) :=
 OpenClaim.holds_of_wide 7 Tryz.f7 rfl rfl rfl rfl rfl rfl rfl ⟨rfl,rfl,rfl,rfl,rfl⟩ rfl rfl rfl rfl rfl (by kernel_rfl) Tryz.func7 (by kernel_rfl)
  (of_decide_eq_true (by kernel_rfl)) (by unfold Func.isWrapper; first | (rw [if_pos (by decide +kernel)]; kernel_rfl) | (rw [if_neg (by decide +kernel)]; exact ⟨rfl,rfl⟩))
  (fun os started H enc _=>lifted os started H enc)
end engineAsksLaw
theorem engineAsks_holds:Rows.EngineAsksSaid:=engineAsksLaw.over
#print axioms engineAsks_holds
end Go.Proofs.YtmoahpojchndiaaGreat
