/-
  For all raw things and numbers EngineStale returns true: an answer to a call that is not current changes nothing, and no answer is taken twice. No condition.
-/
import Derived.Test.YtjpgjnldeafpkaaGreatZD9
import Derived.Test.YtjpgjnldeafpkaaGreatZD52
import Derived.Test.YtjpgjnldeafpkaaGreatZD48
import Derived.Test.YtjpgjnldeafpkaaGreatZD53
set_option maxRecDepth 100000
namespace Go.Proofs.YtjpgjnldeafpkaaGreat
open Go.RowKit
set_option linter.unusedVariables false
set_option maxHeartbeats 2000000 in
theorem meet_any (fm:Fm) (p:Pol) (ρ:List Int) (lv:Nat→Nat) (Inv:Eg→List Lt→Prop)
  (hInv:∀ (k:Nat) (E:Eg) (lt:List Lt) (E':Eg) (lt':List Lt),k≤40→MOk fm p ρ lv k E lt→Inv E lt→MStep ρ E lt E' lt'→Inv E' lt')
  (hfn:∀ (k:Nat) (E:Eg) (E':Eg) (lt':List Lt) (w w' more:Value) (H:Vw),k≤40→MOk fm p ρ lv (k + 1) E' lt'→Inv E' lt'→IsEng H w E→IsEng H w' E'→C0 Tryz.prog 42 #[.agg #[.slice (sA (agJ 0 w)) (sN (agJ 0 w)) (sC (agJ 0 w)),.slice (sA (agJ 1 w)) (sN (agJ 1 w)) (sC (agJ 1 w)),.int .i64 E.pol.t,.int .i64 E.pol.b,.int .i64 E.pol.c,.slice (sA (agJ 2 w)) (sN (agJ 2 w)) (sC (agJ 2 w)),.slice (sA (agJ 3 w)) (sN (agJ 3 w)) (sC (agJ 3 w)),.slice (sA (agJ 4 w)) (sN (agJ 4 w)) (sC (agJ 4 w)),.int .i64 E.now,.int .i64 E.last],.agg #[.slice (sA (agJ 0 w')) (sN (agJ 0 w')) (sC (agJ 0 w')),.slice (sA (agJ 1 w')) (sN (agJ 1 w')) (sC (agJ 1 w')),.int .i64 E'.pol.t,.int .i64 E'.pol.b,.int .i64 E'.pol.c,.slice (sA (agJ 2 w')) (sN (agJ 2 w')) (sC (agJ 2 w')),.slice (sA (agJ 3 w')) (sN (agJ 3 w')) (sC (agJ 3 w')),.slice (sA (agJ 4 w')) (sN (agJ 4 w')) (sC (agJ 4 w')),.int .i64 E'.now,.int .i64 E'.last],.slice (sA more) (sN more) (sC more)] H (fun r _=>r=.bool true))
  (E0:Eg) (lt0:List Lt) (hM0:MOk fm p ρ lv 0 E0 lt0) (hI0:Inv E0 lt0) (rs:List RawD) (sr:Value) (ol:∀ r∈rs,r.ok) (ll:rs.length * 40≤reachBytes) (w su:Value) (h:Vw) (hE0:IsEng h w E0) (hS0:RS h 8 (.slice (sA su) (sN su) (sC su)) (fW lt0)) (hr:RS h 4 sr (rs.map RawD.cs)) :
  C0 Tryz.prog 39 #[.agg #[.slice (sA (agJ 0 w)) (sN (agJ 0 w)) (sC (agJ 0 w)),.slice (sA (agJ 1 w)) (sN (agJ 1 w)) (sC (agJ 1 w)),.int .i64 E0.pol.t,.int .i64 E0.pol.b,.int .i64 E0.pol.c,.slice (sA (agJ 2 w)) (sN (agJ 2 w)) (sC (agJ 2 w)),.slice (sA (agJ 3 w)) (sN (agJ 3 w)) (sC (agJ 3 w)),.slice (sA (agJ 4 w)) (sN (agJ 4 w)) (sC (agJ 4 w)),.int .i64 E0.now,.int .i64 E0.last],.slice (sA su) (sN su) (sC su),sr,.func (.func 42) #[] #[]] h (fun r h'=>∃ (E:Eg) (lt:List Lt) (k:Nat) (u su':Value),r=.tuple #[.agg #[.slice (sA (agJ 0 u)) (sN (agJ 0 u)) (sC (agJ 0 u)),.slice (sA (agJ 1 u)) (sN (agJ 1 u)) (sC (agJ 1 u)),.int .i64 E.pol.t,.int .i64 E.pol.b,.int .i64 E.pol.c,.slice (sA (agJ 2 u)) (sN (agJ 2 u)) (sC (agJ 2 u)),.slice (sA (agJ 3 u)) (sN (agJ 3 u)) (sC (agJ 3 u)),.slice (sA (agJ 4 u)) (sN (agJ 4 u)) (sC (agJ 4 u)),.int .i64 E.now,.int .i64 E.last],.slice (sA su') (sN su') (sC su'),.bool true]∧MOk fm p ρ lv k E lt∧Inv E lt∧k≤40∧IsEng h' u E∧RS h' 8 (.slice (sA su') (sN su') (sC su')) (fW lt)):=by
 have hok0:=hM0.ok
 have hef:=hM0.efm
 have few:=hok0.fm.fields.few
 have one:=hok0.one
 have hfe:=hok0.fm.fields.each
 have hnd:=hok0.fm.fields.nodup
 have hkd:=fun k g=>told_kind hok0.fm.fields (k:=k) (g:=g)
 obtain ⟨vs,A,c,e0,-,-,hr4,hs4,hl4,hu4⟩:=dQ hE0.form.fields
 have hix:=fun x b H q1 q2=>idxF_meet E0.fm.fields vs A c x b H q1 (by omega) hl4 hu4 q2
 rw [hef] at few one hfe hnd e0 hr4 hs4 hl4 hkd hix
 have hE1:IsEng h (.agg #[.slice A fm.fields.length c,agJ 1 w,agJ 2 w,agJ 3 w,agJ 4 w]) E0:=⟨by show IsForm h (.slice A fm.fields.length c) (.slice (sA (agJ 1 w)) (sN (agJ 1 w)) (sC (agJ 1 w))) E0.fm; rw [← e0]; exact hE0.form,hE0.inp,hE0.calls,hE0.vals⟩
 obtain ⟨As0,cs0,es,-⟩:=hS0.form
 rw [List.length_map] at es
 rw [es] at hS0 ⊢
 obtain ⟨A1,c1,rfl,-,-,-⟩:=hr.form
 rw [List.length_map] at *
 rw [e0]
 have hget:∀ (k:Nat),k < rs.length→∃ r,rs[k]?=some r∧r.ok:=fun k q=>⟨_,List.getElem?_eq_getElem q,ol _ (List.getElem_mem q)⟩
 have hixx:∀ (i2:Nat) (f:Fd) (x:Lt) (av:Vl) (b:Nat) (H:Vw),fm.fields[i2]?=some f→x.nm=f.name→RS H 9 (.slice A fm.fields.length c) (aQ fm.fields vs)→Cells H b 0 [.string x.nm,.int .i64 x.id,.int .i64 x.key.k,.int .i64 x.key.n,.string x.key.s,.int .i64 av.k,.int .i64 av.n,.string av.s]→C0 Tryz.prog 16 #[.slice A fm.fields.length c,.func (.func 89) #[] #[.pointer (some ⟨b,0,none⟩)]] H (fun r _=>r=.int .i64 (i2:Int)):=fun i2 f x av b H hf hxn q1 q2=>by
  have q:=hix ⟨x.nm,x.id,x.key,av⟩ b H q1 q2
  have e:gQ fm.fields x.nm=(i2:Int):=by rw [hxn]; exact iQ hnd hf
  have e':gQ fm.fields (⟨x.nm,x.id,x.key,av⟩:Lt).nm=(i2:Int):=e
  rw [e'] at q
  exact q
 clear hix
 generalize rs.length=len at *
 generalize hn:fm.fields.length=n at *
 refine uQ Tryz.func39 (c:=Tryz.f39.body.getD .skip) (N:=141) ?_
 intro hbx hbad Q hQ
 refine go2 25 [.own,.own,.b 1 0] [] ?_
 intro be b1
 refine cV [0,1,0,1,1] [.block 0,.seq [1,1,1]] (fun (k:Nat) X=>∃ (W2:Vw) (E:Eg) (lt:List Lt) (ue:Value) (As:Option Addr) (cs:Nat),X W2 [(3,.func (.func 42) #[] #[]),(4,Vp be),(8,Vp b1),(11,.slice A n c),(23,.slice A1 len c1),(24,Vi (len:Int)),(25,Vi (k:Int)),(1,.slice As lt.length cs)] [.box b1 [Vz,Vz,Vi 0,Vi 0,Vi 0,Vz,Vz,Vz,Vi 0,Vi 0],.box be [.slice (sA (agJ 0 ue)) (sN (agJ 0 ue)) (sC (agJ 0 ue)),.slice (sA (agJ 1 ue)) (sN (agJ 1 ue)) (sC (agJ 1 ue)),Vi E.pol.t,Vi E.pol.b,Vi E.pol.c,.slice (sA (agJ 2 ue)) (sN (agJ 2 ue)) (sC (agJ 2 ue)),.slice (sA (agJ 3 ue)) (sN (agJ 3 ue)) (sC (agJ 3 ue)),.slice (sA (agJ 4 ue)) (sN (agJ 4 ue)) (sC (agJ 4 ue)),Vi E.now,Vi E.last]] []∧Sees h W2∧(k≤len)∧(k≤31)∧(MOk fm p ρ lv k E lt)∧(Inv E lt)∧(IsEng W2 ue E)∧(RS W2 8 (.slice As lt.length cs) (fW lt))) (fun k=>len - k) (0) (fun X q=>⟨h,E0,lt0,.agg #[.slice A n c,agJ 1 w,agJ 2 w,agJ 3 w,agJ 4 w],As0,cs0,q _ _ _ _ ⟨rfl,by kernel_rfl⟩,Sees.refl _,Nat.zero_le _,by omega,hM0,hI0,hE1,hS0⟩) ?_
 rintro k a w ⟨W2,E,lt,ue,As,cs,hJ,S3,hk,hk2,hM,hI,hE,hS⟩; refine gV hJ ?_; clear hJ a w
 refine go0 6 [] [] ?_
 rcases (by omega:k < len∨k=len) with hlt | hke
 ·obtain ⟨r,hrk,hro⟩:=hget k hlt
  have hrow1:(rs.map RawD.cs)[k]?=some r.cs:=by rw [List.getElem?_map,hrk]; rfl
  refine mV (t:=decide ((k:Int) < (len:Int))) (decide_eq_true (by omega)) ?_
  refine go0 7 [] [] ?_
  obtain ⟨b4,o5,rfl,-,c6⟩:=RS.row hr (hrow1)
  refine vQ (c6.sees S3) ?_
  refine go1 13 [.ix b4 o5 len c1 k,.f 0 0,.own,.b 0 0] [] ?_ (ho:=(And.intro (by first | omega | (simp; omega)) (trivial)))
  intro b7
  rcases (by omega:k≤30∨k=31) with hk3 | hk3
  ·refine kV 32 (v:=.bool (decide ((k:Int) > 30))) (v':=.bool false) (congrArg Value.bool (decide_eq_false (by omega))) ?_
   have hp0:=nX r.b n (by omega)
   have hp1:=mX r.b n (by omega)
   obtain ⟨i,hi⟩:∃ i:Nat,cJ r.b n=(i:Int):=⟨_,(Int.toNat_of_nonneg hp0).symm⟩
   have hpi:=fun H=>yJ r.b n H hro.2.2.1.1 hro.2.2.1.2 (by omega) (by omega)
   rw [hi] at hp1 hpi
   obtain ⟨g,hg⟩:∃ g,fm.fields[i]?=some g:=⟨_,List.getElem?_eq_getElem (by omega)⟩
   obtain ⟨v,hv⟩:∃ v,vs[i]?=some v:=⟨_,List.getElem?_eq_getElem (by omega)⟩
   have hrow:=bQ hg hv
   obtain ⟨Au,nu,cu,rfl⟩:=(AllSrc.get hs4 hg hv).slice
   have hF:=hfe g (List.mem_of_getElem? hg)
   have t1:=hF.t1
   have t3:=hF.t3
   obtain ⟨av,hav⟩:∃ av:Vl,av=⟨g.ty,valN g.ty r.k r.a,valS g.ty r.t⟩:=⟨_,rfl⟩
   have hV:∀ H,C0 Tryz.prog 26 #[.int .i64 g.ty,.agg #[.int .i64 r.k,.int .i64 r.a,.int .i64 r.b,.string r.t]] H (fun q _=>q=.agg #[.int .i64 av.k,.int .i64 av.n,.string av.s]):=by rw [hav]; exact fun H=>c_value g.ty r H t1 t3 hro
   have hkn:av.known:=by rw [hav]; exact val_known g.ty r.k r.a r.t t1 t3
   have hvk:av.k=g.ty:=by rw [hav]
   clear hav
   have bn:=hM.now
   have bl:=hM.last
   have bi:=hM.inp
   have bt:=hM.len
   have hk4:=fun H=>yJ r.k 4 H hro.1.1 hro.1.2 (by decide) (by decide)
   refine go0 6 [] [] ?_
   refine wQ (t:=(n:Int) == 0) (beq_eq_false_iff_ne.2 (by omega)) ?_
   refine go0 10 [.b 0 2,.cl 24 #[Vi r.b,Vi (n:Int)] (Vi (i:Int))] [] ?_ (ho:=(And.intro (fun H sH=>hpi _) (trivial)))
   obtain ⟨b8,o9,rfl,-,c10⟩:=RS.row hr4 (hrow)
   refine vQ (c10.sees S3) ?_
   refine go2 36 [.ix b8 o9 n c i,.f 0 0,.own,.b 0 0,.own,.b 2 0,.cl 24 #[Vi r.k,Vi 4] (Vi (cJ r.k 4))] [] ?_ (ho:=(And.intro (by first | omega | (simp; omega)) (And.intro (fun H sH=>hk4 _) (trivial))))
   intro b11 bnw
   by_cases s0:cJ r.k 4=0
   ·skip
    have hd0:=nX r.a 60 (by omega)
    have hd1:=mX r.a 60 (by omega)
    have hpa:=fun H=>yJ r.a 60 H hro.2.1.1 hro.2.1.2 (by decide) (by decide)
    generalize cJ r.a 60=d at *
    have hst:=MStep.tick (ρ:=ρ) (E:=E) (lt:=lt) (1 + d) (by omega) (by omega)
    have hM':=hM.step (by omega) hst
    have hI':=hInv k _ _ _ _ (by omega) hM hI hst
    have htk:=fun H q=>tick_any E ρ lv hM.ok hM.se (1 + d) (by omega) (by omega) (by omega) (by
     have:=(setE_few (tickE_ok hM.ok (n:=1 + d) (by omega) (by omega))).2.1
     have e:(cZ E (1 + d)).last=E.last:=rfl
     omega) ue H q
    generalize oY (cZ E (1 + d)) ρ=E' at *
    generalize tickT E (1 + d)++(nY (cZ E (1 + d)) ρ).out=more at *
    refine mV (t:=(cJ r.k 4) == 0) (beq_iff_eq.2 s0) ?_
    have bm:=hM'.len
    rw [List.length_append] at bm
    have hG:=fun w w' more' H q1 q2=>hfn k E E' (lt++more) w w' more' H (by omega) hM' hI' q1 q2
    have hC:=fun va vb b H q1 q2 q3=>c_cat (la:=lt) (lb:=more) (by omega) va vb b H q1 q2 q3
    refine jV 13 0 [.ld 4 0,.pu,.ld 2 1,.v (fun gh=>Vi d),.v (fun gh=>Vi (1 + d)),.f (fun gh=>.tuple #[.agg #[.slice (sA (agJ 0 (gh 5))) (sN (agJ 0 (gh 5))) (sC (agJ 0 (gh 5))),.slice (sA (agJ 1 (gh 5))) (sN (agJ 1 (gh 5))) (sC (agJ 1 (gh 5))),Vi E'.pol.t,Vi E'.pol.b,Vi E'.pol.c,.slice (sA (agJ 2 (gh 5))) (sN (agJ 2 (gh 5))) (sC (agJ 2 (gh 5))),.slice (sA (agJ 3 (gh 5))) (sN (agJ 3 (gh 5))) (sC (agJ 3 (gh 5))),.slice (sA (agJ 4 (gh 5))) (sN (agJ 4 (gh 5))) (sC (agJ 4 (gh 5))),Vi E'.now,Vi E'.last],.slice (sA (agJ 5 (gh 5))) (sN (agJ 5 (gh 5))) (sC (agJ 5 (gh 5))),Vi 0]) (fun gh hh=>TelF hh (gh 5) E' more),.pu,.pu,.pu,.pu,.st 0 0,.pu,.pu] [(5,false)] (And.intro (fun _ _ _ s c=>c.sees s) (trivial)) ?_ ?_
    ·intro R hT hA hmono
     refine And.intro (t_v hT hA hmono (k:=24) (args:=(fun gh=>#[Vi r.a,Vi 60])) (f:=fun gh=>Vi d) (fun gh H sH fH lent=>hpa _)) ?_
     refine And.intro (zY hT hA (fun gh=>Vi (1 + d)) (fun gh=>Vi (IntKind.i64.wrap (1 + d))) (fun gh=>jJ (by omega) (by omega))) ?_
     refine And.intro (qX hT hA hmono ⟨fun _ _=>by kernel_rfl,fun _ _=>by kernel_rfl,fun _ _=>by kernel_rfl⟩ 96 (fun u=>.tuple #[.agg #[.slice (sA (agJ 0 u)) (sN (agJ 0 u)) (sC (agJ 0 u)),.slice (sA (agJ 1 u)) (sN (agJ 1 u)) (sC (agJ 1 u)),Vi E'.pol.t,Vi E'.pol.b,Vi E'.pol.c,.slice (sA (agJ 2 u)) (sN (agJ 2 u)) (sC (agJ 2 u)),.slice (sA (agJ 3 u)) (sN (agJ 3 u)) (sC (agJ 3 u)),.slice (sA (agJ 4 u)) (sN (agJ 4 u)) (sC (agJ 4 u)),Vi E'.now,Vi E'.last],.slice (sA (agJ 5 u)) (sN (agJ 5 u)) (sC (agJ 5 u)),Vi 0]) [0,3,4] 5 28 (fun gh=>#[.agg #[.slice (sA (agJ 0 ue)) (sN (agJ 0 ue)) (sC (agJ 0 ue)),.slice (sA (agJ 1 ue)) (sN (agJ 1 ue)) (sC (agJ 1 ue)),Vi E.pol.t,Vi E.pol.b,Vi E.pol.c,.slice (sA (agJ 2 ue)) (sN (agJ 2 ue)) (sC (agJ 2 ue)),.slice (sA (agJ 3 ue)) (sN (agJ 3 ue)) (sC (agJ 3 ue)),.slice (sA (agJ 4 ue)) (sN (agJ 4 ue)) (sC (agJ 4 ue)),Vi E.now,Vi E.last],Vi (1 + d)]) (fun gh H sH fH lent=>C0.facts (R:=R) (x:=gh) (i:=5) (n:=0) (F:=(fun u=>.tuple #[.agg #[.slice (sA (agJ 0 u)) (sN (agJ 0 u)) (sC (agJ 0 u)),.slice (sA (agJ 1 u)) (sN (agJ 1 u)) (sC (agJ 1 u)),Vi E'.pol.t,Vi E'.pol.b,Vi E'.pol.c,.slice (sA (agJ 2 u)) (sN (agJ 2 u)) (sC (agJ 2 u)),.slice (sA (agJ 3 u)) (sN (agJ 3 u)) (sC (agJ 3 u)),.slice (sA (agJ 4 u)) (sN (agJ 4 u)) (sC (agJ 4 u)),Vi E'.now,Vi E'.last],.slice (sA (agJ 5 u)) (sN (agJ 5 u)) (sC (agJ 5 u)),Vi 0])) (G:=fun u hh=>TelF hh u E' more) (f:=fun gh hh=>TelF hh (gh 5) E' more) (htk _ (hE.sees sH)) (by kernel_rfl) (by kernel_rfl) (fun _ _ r=>r))) ?_
     trivial
    rintro u96 W12 S13 ⟨f96,-⟩
    replace f96:TelF W12 u96 E' more:=f96
    refine go0 20 [.b 4 0,.b 0 0,.cl 42 #[.agg #[.slice (sA (agJ 0 ue)) (sN (agJ 0 ue)) (sC (agJ 0 ue)),.slice (sA (agJ 1 ue)) (sN (agJ 1 ue)) (sC (agJ 1 ue)),Vi E.pol.t,Vi E.pol.b,Vi E.pol.c,.slice (sA (agJ 2 ue)) (sN (agJ 2 ue)) (sC (agJ 2 ue)),.slice (sA (agJ 3 ue)) (sN (agJ 3 ue)) (sC (agJ 3 ue)),.slice (sA (agJ 4 ue)) (sN (agJ 4 ue)) (sC (agJ 4 ue)),Vi E.now,Vi E.last],.agg #[.slice (sA (agJ 0 u96)) (sN (agJ 0 u96)) (sC (agJ 0 u96)),.slice (sA (agJ 1 u96)) (sN (agJ 1 u96)) (sC (agJ 1 u96)),Vi E'.pol.t,Vi E'.pol.b,Vi E'.pol.c,.slice (sA (agJ 2 u96)) (sN (agJ 2 u96)) (sC (agJ 2 u96)),.slice (sA (agJ 3 u96)) (sN (agJ 3 u96)) (sC (agJ 3 u96)),.slice (sA (agJ 4 u96)) (sN (agJ 4 u96)) (sC (agJ 4 u96)),Vi E'.now,Vi E'.last],.slice (sA (agJ 5 u96)) (sN (agJ 5 u96)) (sC (agJ 5 u96))] (.bool true)] [] ?_ (ho:=(And.intro (fun H sH=>hG _ _ _ _ (hE.sees (S13.trans sH)) ((f96.sees sH)).eng) (trivial)))
    refine jV 7 0 [.ld 0 0,.pu,.pu,.f (fun gh=>.slice (some ⟨(vJ (gh 3)),0,none⟩) 2 2) (fun gh hh=>Cells hh (vJ (gh 3)) 0 [.slice As lt.length cs,.slice (sA (agJ 5 u96)) (sN (agJ 5 u96)) (sC (agJ 5 u96))]),.f (fun gh=>.slice (sA (gh 4)) ((lt++more).length) (sC (gh 4))) (fun gh hh=>RS hh 8 (.slice (sA (gh 4)) (lt++more).length (sC (gh 4))) (fW (lt++more))),.st 4 0,.pu] [(3,true),(4,false)] (And.intro (fun _ _ _ s c=>c.sees s) (And.intro (fun _ _ _ s c=>c.sees s) (trivial))) ?_ ?_
    ·intro R hT hA hmono
     refine And.intro (r_fact hT hA hmono ⟨fun _ _=>by kernel_rfl,fun _ _=>by kernel_rfl,fun _ _=>by kernel_rfl⟩ 136 (fun g=>Vs g 2 2) [1,2] 3 (by kernel_rfl) (by kernel_rfl) (fun _=>by kernel_rfl) (fun gh=>[.slice As lt.length cs,.slice (sA (agJ 5 u96)) (sN (agJ 5 u96)) (sC (agJ 5 u96))]) 63 (fun _ _=>by kernel_rfl) (fun gh zb zH zc zj zq zhq zhe=>aX (i:=3) (k:=0) (f:=fun gh hh=>Cells hh (vJ (gh 3)) 0 [.slice As lt.length cs,.slice (sA (agJ 5 u96)) (sN (agJ 5 u96)) (sC (agJ 5 u96))]) (by kernel_rfl) (by kernel_rfl) zc zj zq zhq zhe)) ?_
     refine And.intro (qX hT hA hmono ⟨fun _ _=>by kernel_rfl,fun _ _=>by kernel_rfl,fun _ _=>by kernel_rfl⟩ 137 (fun u=>.slice (sA u) (lt++more).length (sC u)) [3] 4 76 (fun gh=>#[.slice (some ⟨(vJ (gh 3)),0,none⟩) 2 2]) (fun gh H sH fH lent=>C0.facts (R:=R) (x:=gh) (i:=4) (n:=1) (F:=(fun u=>.slice (sA u) (lt++more).length (sC u))) (G:=fun u hh=>RS hh 8 (.slice (sA u) (lt++more).length (sC u)) (fW (lt++more))) (f:=fun gh hh=>RS hh 8 (.slice (sA (gh 4)) (lt++more).length (sC (gh 4))) (fW (lt++more))) (hC _ _ _ _ (hS.sees (S13.trans sH)) ((f96.sees sH)).out (fH 0 _ rfl (by kernel_rfl))) (by kernel_rfl) (by kernel_rfl) (fun _ _ r=>r))) ?_
     trivial
    rintro b15 u137 W16 S17 ⟨f14,f137,-⟩
    replace f14:Cells W16 b15 0 [.slice As lt.length cs,.slice (sA (agJ 5 u96)) (sN (agJ 5 u96)) (sC (agJ 5 u96))]:=f14
    replace f137:RS W16 8 (.slice (sA u137) (lt++more).length (sC u137)) (fW (lt++more)):=f137
    refine vQ f14 ?_
    refine go0 6 [] [(138,Vi (IntKind.i64.wrap ((k:Int) + 1)),Vi ((k:Int) + 1))] ?_ (hc:=(And.intro (jJ (by omega) (by omega)) (trivial)))
    exact lV (k + 1) (fun X q=>⟨W16,E',(lt++more),u96,(sA u137),(sC u137),q _ _ _ _ ⟨rfl,by kernel_rfl⟩,(S3.trans (S13.trans S17)),by omega,by omega,hM',hI',((f96.sees S17)).eng,f137⟩) (by omega)
   ·skip
    refine wQ (t:=(cJ r.k 4) == 0) (beq_eq_false_iff_ne.2 s0) ?_
    refine go0 6 [] [] ?_
    by_cases s1:cJ r.k 4=1
    ·skip
     refine mV (t:=(cJ r.k 4) == 1) (beq_iff_eq.2 s1) ?_
     refine go0 1 [] [] ?_
     by_cases h1:g.kind=1
     ·skip
      have htd:dZ E.fm.fields g.name av.k=0:=by rw [hM.efm,hvk,hkd i g hg,if_pos h1]
      have hst:=MStep.tell (ρ:=ρ) (E:=E) (lt:=lt) g.name av hkn htd
      have hM':=hM.step (by omega) hst
      have hI':=hInv k _ _ _ _ (by omega) hM hI hst
      have hte:=fun H q=>tell_any E ρ lv hM.ok hM.se g.name av hkn htd (by omega) (by
       have:=(setE_few (tellE_ok hM.ok hkn htd (by omega))).2.1
       have e:(tellE E g.name av).last=E.last:=rfl
       omega) ue H q
      generalize oY (tellE E g.name av) ρ=E' at *
      generalize (nY (tellE E g.name av) ρ).out=more at *
      refine jV 15 0 [.ld 4 0,.pu,.ld 1 0,.pu,.ld 1 2,.ld 2 0,.v (fun gh=>.agg #[Vi av.k,Vi av.n,.string av.s]),.f (fun gh=>.tuple #[.agg #[.slice (sA (agJ 0 (gh 7))) (sN (agJ 0 (gh 7))) (sC (agJ 0 (gh 7))),.slice (sA (agJ 1 (gh 7))) (sN (agJ 1 (gh 7))) (sC (agJ 1 (gh 7))),Vi E'.pol.t,Vi E'.pol.b,Vi E'.pol.c,.slice (sA (agJ 2 (gh 7))) (sN (agJ 2 (gh 7))) (sC (agJ 2 (gh 7))),.slice (sA (agJ 3 (gh 7))) (sN (agJ 3 (gh 7))) (sC (agJ 3 (gh 7))),.slice (sA (agJ 4 (gh 7))) (sN (agJ 4 (gh 7))) (sC (agJ 4 (gh 7))),Vi E'.now,Vi E'.last],.slice (sA (agJ 5 (gh 7))) (sN (agJ 5 (gh 7))) (sC (agJ 5 (gh 7))),Vi 0]) (fun gh hh=>TelF hh (gh 7) E' more),.pu,.pu,.pu,.pu,.st 0 0,.pu,.pu] [(7,false)] (And.intro (fun _ _ _ s c=>c.sees s) (trivial)) ?_ ?_
      ·intro R hT hA hmono
       refine And.intro (t_v hT hA hmono (k:=26) (args:=(fun gh=>#[Vi g.ty,.agg #[Vi r.k,Vi r.a,Vi r.b,.string r.t]])) (f:=fun gh=>.agg #[Vi av.k,Vi av.n,.string av.s]) (fun gh H sH fH lent=>hV _)) ?_
       refine And.intro (qX hT hA hmono ⟨fun _ _=>by kernel_rfl,fun _ _=>by kernel_rfl,fun _ _=>by kernel_rfl⟩ 110 (fun u=>.tuple #[.agg #[.slice (sA (agJ 0 u)) (sN (agJ 0 u)) (sC (agJ 0 u)),.slice (sA (agJ 1 u)) (sN (agJ 1 u)) (sC (agJ 1 u)),Vi E'.pol.t,Vi E'.pol.b,Vi E'.pol.c,.slice (sA (agJ 2 u)) (sN (agJ 2 u)) (sC (agJ 2 u)),.slice (sA (agJ 3 u)) (sN (agJ 3 u)) (sC (agJ 3 u)),.slice (sA (agJ 4 u)) (sN (agJ 4 u)) (sC (agJ 4 u)),Vi E'.now,Vi E'.last],.slice (sA (agJ 5 u)) (sN (agJ 5 u)) (sC (agJ 5 u)),Vi 0]) [0,2,6] 7 25 (fun gh=>#[.agg #[.slice (sA (agJ 0 ue)) (sN (agJ 0 ue)) (sC (agJ 0 ue)),.slice (sA (agJ 1 ue)) (sN (agJ 1 ue)) (sC (agJ 1 ue)),Vi E.pol.t,Vi E.pol.b,Vi E.pol.c,.slice (sA (agJ 2 ue)) (sN (agJ 2 ue)) (sC (agJ 2 ue)),.slice (sA (agJ 3 ue)) (sN (agJ 3 ue)) (sC (agJ 3 ue)),.slice (sA (agJ 4 ue)) (sN (agJ 4 ue)) (sC (agJ 4 ue)),Vi E.now,Vi E.last],.string g.name,.agg #[Vi av.k,Vi av.n,.string av.s]]) (fun gh H sH fH lent=>C0.facts (R:=R) (x:=gh) (i:=7) (n:=0) (F:=(fun u=>.tuple #[.agg #[.slice (sA (agJ 0 u)) (sN (agJ 0 u)) (sC (agJ 0 u)),.slice (sA (agJ 1 u)) (sN (agJ 1 u)) (sC (agJ 1 u)),Vi E'.pol.t,Vi E'.pol.b,Vi E'.pol.c,.slice (sA (agJ 2 u)) (sN (agJ 2 u)) (sC (agJ 2 u)),.slice (sA (agJ 3 u)) (sN (agJ 3 u)) (sC (agJ 3 u)),.slice (sA (agJ 4 u)) (sN (agJ 4 u)) (sC (agJ 4 u)),Vi E'.now,Vi E'.last],.slice (sA (agJ 5 u)) (sN (agJ 5 u)) (sC (agJ 5 u)),Vi 0])) (G:=fun u hh=>TelF hh u E' more) (f:=fun gh hh=>TelF hh (gh 7) E' more) (hte _ (hE.sees sH)) (by kernel_rfl) (by kernel_rfl) (fun _ _ r=>r))) ?_
       trivial
      rintro u110 W18 S19 ⟨f110,-⟩
      replace f110:TelF W18 u110 E' more:=f110
      refine go0 8 [.b 1 1] [] ?_
      refine wQ (t:=g.kind != 1) (bne_eq_false_iff_eq.2 h1) ?_
      refine go0 13 [.b 4 0,.b 0 0] [] ?_
      have bm:=hM'.len
      rw [List.length_append] at bm
      have hG:=fun w w' more' H q1 q2=>hfn k E E' (lt++more) w w' more' H (by omega) hM' hI' q1 q2
      have hC:=fun va vb b H q1 q2 q3=>c_cat (la:=lt) (lb:=more) (by omega) va vb b H q1 q2 q3
      refine go0 8 [.cl 42 #[.agg #[.slice (sA (agJ 0 ue)) (sN (agJ 0 ue)) (sC (agJ 0 ue)),.slice (sA (agJ 1 ue)) (sN (agJ 1 ue)) (sC (agJ 1 ue)),Vi E.pol.t,Vi E.pol.b,Vi E.pol.c,.slice (sA (agJ 2 ue)) (sN (agJ 2 ue)) (sC (agJ 2 ue)),.slice (sA (agJ 3 ue)) (sN (agJ 3 ue)) (sC (agJ 3 ue)),.slice (sA (agJ 4 ue)) (sN (agJ 4 ue)) (sC (agJ 4 ue)),Vi E.now,Vi E.last],.agg #[.slice (sA (agJ 0 u110)) (sN (agJ 0 u110)) (sC (agJ 0 u110)),.slice (sA (agJ 1 u110)) (sN (agJ 1 u110)) (sC (agJ 1 u110)),Vi E'.pol.t,Vi E'.pol.b,Vi E'.pol.c,.slice (sA (agJ 2 u110)) (sN (agJ 2 u110)) (sC (agJ 2 u110)),.slice (sA (agJ 3 u110)) (sN (agJ 3 u110)) (sC (agJ 3 u110)),.slice (sA (agJ 4 u110)) (sN (agJ 4 u110)) (sC (agJ 4 u110)),Vi E'.now,Vi E'.last],.slice (sA (agJ 5 u110)) (sN (agJ 5 u110)) (sC (agJ 5 u110))] (.bool true)] [] ?_ (ho:=(And.intro (fun H sH=>hG _ _ _ _ (hE.sees (S19.trans sH)) ((f110.sees sH)).eng) (trivial)))
      refine jV 7 0 [.ld 0 0,.pu,.pu,.f (fun gh=>.slice (some ⟨(vJ (gh 3)),0,none⟩) 2 2) (fun gh hh=>Cells hh (vJ (gh 3)) 0 [.slice As lt.length cs,.slice (sA (agJ 5 u110)) (sN (agJ 5 u110)) (sC (agJ 5 u110))]),.f (fun gh=>.slice (sA (gh 4)) ((lt++more).length) (sC (gh 4))) (fun gh hh=>RS hh 8 (.slice (sA (gh 4)) (lt++more).length (sC (gh 4))) (fW (lt++more))),.st 4 0,.pu] [(3,true),(4,false)] (And.intro (fun _ _ _ s c=>c.sees s) (And.intro (fun _ _ _ s c=>c.sees s) (trivial))) ?_ ?_
      ·intro R hT hA hmono
       refine And.intro (r_fact hT hA hmono ⟨fun _ _=>by kernel_rfl,fun _ _=>by kernel_rfl,fun _ _=>by kernel_rfl⟩ 136 (fun g=>Vs g 2 2) [1,2] 3 (by kernel_rfl) (by kernel_rfl) (fun _=>by kernel_rfl) (fun gh=>[.slice As lt.length cs,.slice (sA (agJ 5 u110)) (sN (agJ 5 u110)) (sC (agJ 5 u110))]) 63 (fun _ _=>by kernel_rfl) (fun gh zb zH zc zj zq zhq zhe=>aX (i:=3) (k:=0) (f:=fun gh hh=>Cells hh (vJ (gh 3)) 0 [.slice As lt.length cs,.slice (sA (agJ 5 u110)) (sN (agJ 5 u110)) (sC (agJ 5 u110))]) (by kernel_rfl) (by kernel_rfl) zc zj zq zhq zhe)) ?_
       refine And.intro (qX hT hA hmono ⟨fun _ _=>by kernel_rfl,fun _ _=>by kernel_rfl,fun _ _=>by kernel_rfl⟩ 137 (fun u=>.slice (sA u) (lt++more).length (sC u)) [3] 4 76 (fun gh=>#[.slice (some ⟨(vJ (gh 3)),0,none⟩) 2 2]) (fun gh H sH fH lent=>C0.facts (R:=R) (x:=gh) (i:=4) (n:=1) (F:=(fun u=>.slice (sA u) (lt++more).length (sC u))) (G:=fun u hh=>RS hh 8 (.slice (sA u) (lt++more).length (sC u)) (fW (lt++more))) (f:=fun gh hh=>RS hh 8 (.slice (sA (gh 4)) (lt++more).length (sC (gh 4))) (fW (lt++more))) (hC _ _ _ _ (hS.sees (S19.trans sH)) ((f110.sees sH)).out (fH 0 _ rfl (by kernel_rfl))) (by kernel_rfl) (by kernel_rfl) (fun _ _ r=>r))) ?_
       trivial
      rintro b21 u137 W22 S23 ⟨f20,f137,-⟩
      replace f20:Cells W22 b21 0 [.slice As lt.length cs,.slice (sA (agJ 5 u110)) (sN (agJ 5 u110)) (sC (agJ 5 u110))]:=f20
      replace f137:RS W22 8 (.slice (sA u137) (lt++more).length (sC u137)) (fW (lt++more)):=f137
      refine vQ f20 ?_
      refine go0 6 [] [(138,Vi (IntKind.i64.wrap ((k:Int) + 1)),Vi ((k:Int) + 1))] ?_ (hc:=(And.intro (jJ (by omega) (by omega)) (trivial)))
      exact lV (k + 1) (fun X q=>⟨W22,E',(lt++more),u110,(sA u137),(sC u137),q _ _ _ _ ⟨rfl,by kernel_rfl⟩,(S3.trans (S19.trans S23)),by omega,by omega,hM',hI',((f110.sees S23)).eng,f137⟩) (by omega)
     ·skip
      have htd:dZ E.fm.fields g.name av.k=2:=by rw [hM.efm,hvk,hkd i g hg,if_neg h1]
      have htn:=fun H q=>tell_no E ρ lv hM.ok hM.se g.name av hkn 2 htd (by decide) ue H q
      refine jV 15 0 [.ld 4 0,.pu,.ld 1 0,.pu,.ld 1 2,.ld 2 0,.v (fun gh=>.agg #[Vi av.k,Vi av.n,.string av.s]),.v (fun gh=>.tuple #[.agg #[Vz,Vz,Vi 0,Vi 0,Vi 0,Vz,Vz,Vz,Vi 0,Vi 0],Vz,Vi 2]),.pu,.pu,.pu,.pu,.st 0 0,.pu,.pu] [] (trivial) ?_ ?_
      ·intro R hT hA hmono
       refine And.intro (t_v hT hA hmono (k:=26) (args:=(fun gh=>#[Vi g.ty,.agg #[Vi r.k,Vi r.a,Vi r.b,.string r.t]])) (f:=fun gh=>.agg #[Vi av.k,Vi av.n,.string av.s]) (fun gh H sH fH lent=>hV _)) ?_
       refine And.intro (t_v hT hA hmono (k:=25) (args:=(fun gh=>#[.agg #[.slice (sA (agJ 0 ue)) (sN (agJ 0 ue)) (sC (agJ 0 ue)),.slice (sA (agJ 1 ue)) (sN (agJ 1 ue)) (sC (agJ 1 ue)),Vi E.pol.t,Vi E.pol.b,Vi E.pol.c,.slice (sA (agJ 2 ue)) (sN (agJ 2 ue)) (sC (agJ 2 ue)),.slice (sA (agJ 3 ue)) (sN (agJ 3 ue)) (sC (agJ 3 ue)),.slice (sA (agJ 4 ue)) (sN (agJ 4 ue)) (sC (agJ 4 ue)),Vi E.now,Vi E.last],.string g.name,.agg #[Vi av.k,Vi av.n,.string av.s]])) (f:=fun gh=>.tuple #[.agg #[Vz,Vz,Vi 0,Vi 0,Vi 0,Vz,Vz,Vz,Vi 0,Vi 0],Vz,Vi 2]) (fun gh H sH fH lent=>htn _ (hE.sees sH))) ?_
       trivial
      rintro W24 S25 -
      refine go0 8 [.b 1 1] [] ?_
      refine mV (t:=g.kind != 1) (bne_iff_ne.2 h1) ?_
      refine go0 19 [] [(138,Vi (IntKind.i64.wrap ((k:Int) + 1)),Vi ((k:Int) + 1))] ?_ (hc:=(And.intro (jJ (by omega) (by omega)) (trivial)))
      exact lV (k + 1) (fun X q=>⟨W24,E,lt,ue,As,cs,q _ _ _ _ ⟨rfl,by kernel_rfl⟩,(S3.trans S25),by omega,by omega,hM.step (by omega) .stay,hI,(hE.sees S25),(hS.sees S25)⟩) (by omega)
    ·skip
     refine wQ (t:=(cJ r.k 4) == 1) (beq_eq_false_iff_ne.2 s1) ?_
     refine go0 8 [] [] ?_
     by_cases h0:lt.length=0
     ·skip
      refine mV (t:=(lt.length:Int) == 0) (beq_iff_eq.2 (by omega)) ?_
      refine go0 10 [] [(138,Vi (IntKind.i64.wrap ((k:Int) + 1)),Vi ((k:Int) + 1))] ?_ (hc:=(And.intro (jJ (by omega) (by omega)) (trivial)))
      exact lV (k + 1) (fun X q=>⟨W2,E,lt,ue,As,cs,q _ _ _ _ ⟨rfl,by kernel_rfl⟩,S3,by omega,by omega,hM.step (by omega) .stay,hI,hE,hS⟩) (by omega)
     ·skip
      refine wQ (t:=(lt.length:Int) == 0) (beq_eq_false_iff_ne.2 (by omega)) ?_
      refine go0 9 [.b 2 1] [] ?_
      have hj0:=nX r.a lt.length (by omega)
      have hj1:=mX r.a lt.length (by omega)
      have hpj:=fun H=>yJ r.a lt.length H hro.2.1.1 hro.2.1.2 (by omega) (by omega)
      obtain ⟨j,hj⟩:∃ j:Nat,cJ r.a lt.length=(j:Int):=⟨_,(Int.toNat_of_nonneg hj0).symm⟩
      rw [hj] at hj1 hpj
      obtain ⟨x,hx⟩:∃ x,lt[j]?=some x:=⟨_,List.getElem?_eq_getElem (by omega)⟩
      have hrx:(fW lt)[j]?=some x.cells:=by rw [List.getElem?_map,hx]; rfl
      obtain ⟨⟨⟨i2,f,hf,hxn,hf3⟩,hxk,hxa⟩,hxi⟩:=hM.ltr x (List.mem_of_getElem? hx)
      have hil2:=(List.getElem?_eq_some_iff.1 hf).1
      obtain ⟨v2,hv2⟩:∃ v,vs[i2]?=some v:=⟨_,List.getElem?_eq_getElem (by omega)⟩
      have hrow2:=bQ hf hv2
      obtain ⟨Au2,nu2,cu2,rfl⟩:=(AllSrc.get hs4 hf hv2).slice
      have hF2:=hfe f (List.mem_of_getElem? hf)
      have hff:E.fm.fields[i2]?=some f:=by rw [hM.efm]; exact hf
      obtain ⟨cl,hcl⟩:∃ c,E.calls[i2]?=some c:=⟨_,List.getElem?_eq_getElem (by rw [hM.ok.calls.len]; exact (List.getElem?_eq_some_iff.1 hff).1)⟩
      have hix':=fun b H q1 q2=>hixx i2 f x av b H hf hxn q1 q2
      have hH:∀ aw,OkV aw→∀ H,IsEng H ue E→C0 Tryz.prog 31 #[.agg #[.slice (sA (agJ 0 ue)) (sN (agJ 0 ue)) (sC (agJ 0 ue)),.slice (sA (agJ 1 ue)) (sN (agJ 1 ue)) (sC (agJ 1 ue)),.int .i64 E.pol.t,.int .i64 E.pol.b,.int .i64 E.pol.c,.slice (sA (agJ 2 ue)) (sN (agJ 2 ue)) (sC (agJ 2 ue)),.slice (sA (agJ 3 ue)) (sN (agJ 3 ue)) (sC (agJ 3 ue)),.slice (sA (agJ 4 ue)) (sN (agJ 4 ue)) (sC (agJ 4 ue)),.int .i64 E.now,.int .i64 E.last],.agg #[.string x.nm,.int .i64 x.id,.int .i64 x.key.k,.int .i64 x.key.n,.string x.key.s,.int .i64 aw.k,.int .i64 aw.n,.string aw.s]] H (fun r h'=>HeaR (hrdE E ρ i2 f ⟨x.nm,x.id,x.key,aw⟩ cl) (hrdT E ρ i2 f ⟨x.nm,x.id,x.key,aw⟩ cl) (hrdB f ⟨x.nm,x.id,x.key,aw⟩ cl) r h'):=fun aw ha H q=>hear_all E ρ lv hM.ok hM.se i2 f ⟨x.nm,x.id,x.key,aw⟩ cl hff hcl hxn ha (by omega) ue H q
      have hsp:=fun aw (ha:OkV aw)=>hrd_step (ρ:=ρ) (lt:=lt) (x:=⟨x.nm,x.id,x.key,aw⟩) hff hcl ha
      have hk8:=fun H=>yJ r.k 8 H hro.1.1 hro.1.2 (by decide) (by decide)
      have han:=fun H=>answered_any f Au2 nu2 cu2 x.key H (name_print hF2.name).1 (known_size hxk) hF2.t1 hF2.t3
      have hak:=(ans_known hF2 hxk).1
      generalize ansV f x.key=bv at *
      refine go0 1 [.cl 24 #[Vi r.a,Vi (lt.length:Int)] (Vi (j:Int))] [] ?_ (ho:=(And.intro (fun H sH=>hpj _) (trivial)))
      obtain ⟨b26,o27,rfl,-,c28⟩:=RS.row hS (hrx)
      refine vQ (c28.sees (Sees.refl _)) ?_
      refine go1 25 [.ix b26 o27 lt.length cs j,.f 0 0,.own,.b 0 0,.b 2 2,.b 3 0,.cl 26 #[Vi g.ty,.agg #[Vi r.k,Vi r.a,Vi r.b,.string r.t]] (.agg #[Vi av.k,Vi av.n,.string av.s]),.b 0 5,.b 3 0,.cl 24 #[Vi r.k,Vi 8] (Vi (cJ r.k 8))] [] ?_ (ho:=(And.intro (by first | omega | (simp; omega)) (And.intro (fun H sH=>hV _) (And.intro (fun H sH=>hk8 _) (trivial)))))
      intro blx
      by_cases h8:cJ r.k 8 > 4
      ·skip
       have hst:=hsp bv (.inl hak)
       have hM':=hM.step (by omega) hst
       have hI':=hInv k _ _ _ _ (by omega) hM hI hst
       have hH':=hH bv (.inl hak)
       generalize hrdE E ρ i2 f ⟨x.nm,x.id,x.key,bv⟩ cl=E' at *
       generalize hrdT E ρ i2 f ⟨x.nm,x.id,x.key,bv⟩ cl=more at *
       generalize hrdB f ⟨x.nm,x.id,x.key,bv⟩ cl=tb at *
       refine mV (t:=decide ((cJ r.k 8) > 4)) (decide_eq_true h8) ?_
       refine go0 4 [] [] ?_
       refine g_callq (fun a w hJ=>hix' blx _ (hr4.sees (S3.trans hJ.j.seesQ)) (hJ.j.boxQ (b:=blx) (cs:=[.string x.nm,Vi x.id,Vi x.key.k,Vi x.key.n,.string x.key.s,Vi av.k,Vi av.n,.string av.s]) 0 (by kernel_rfl))) ?_; intro W29 S30
       refine go0 3 [] [] ?_
       have c31:=RS.cell hr4 (hrow2)
       refine vQ (c31.sees (S3.trans S30)) ?_
       refine jV 10 0 [.pu,.pu,.pu,.v (fun gh=>.pointer (some ⟨b8,o9 + i2 * 9,none⟩)),.lf 0 0,.pu,.ld 0 2,.v (fun gh=>.agg #[Vi bv.k,Vi bv.n,.string bv.s]),.pu,.st 0 5] [] (trivial) ?_ ?_
       ·intro R hT hA hmono
        refine And.intro (aZ hT hA b8 o9 n c i2 (fun gh=>.pointer (some ⟨b8,o9 + i2 * 9,none⟩)) (by first | omega | (simp; omega))) ?_
        refine And.intro (t_v hT hA hmono (k:=44) (args:=(fun gh=>#[.agg #[.string f.name,Vi f.kind,Vi f.ty,Vi f.src.op,Vi f.src.k,Vi f.src.n,.string f.src.s,.string f.src.nm,.slice Au2 nu2 cu2],.agg #[Vi x.key.k,Vi x.key.n,.string x.key.s]])) (f:=fun gh=>.agg #[Vi bv.k,Vi bv.n,.string bv.s]) (fun gh H sH fH lent=>han _)) ?_
        trivial
       rintro W32 S33 -
       refine go0 4 [.b 5 0,.b 0 0] [] ?_
       refine oQ (fun H sH=>hH' _ (hE.sees (S30.trans (S33.trans sH)))) ?_; rintro _ W34 S35 ⟨u83,rfl,f83⟩
       refine go0 21 [.b 1 0,.b 5 0,.b 1 0] [] ?_
       have bm:=hM'.len
       rw [List.length_append] at bm
       have hG:=fun w w' more' H q1 q2=>hfn k E E' (lt++more) w w' more' H (by omega) hM' hI' q1 q2
       have hC:=fun va vb b H q1 q2 q3=>c_cat (la:=lt) (lb:=more) (by omega) va vb b H q1 q2 q3
       refine go0 8 [.cl 42 #[.agg #[.slice (sA (agJ 0 ue)) (sN (agJ 0 ue)) (sC (agJ 0 ue)),.slice (sA (agJ 1 ue)) (sN (agJ 1 ue)) (sC (agJ 1 ue)),Vi E.pol.t,Vi E.pol.b,Vi E.pol.c,.slice (sA (agJ 2 ue)) (sN (agJ 2 ue)) (sC (agJ 2 ue)),.slice (sA (agJ 3 ue)) (sN (agJ 3 ue)) (sC (agJ 3 ue)),.slice (sA (agJ 4 ue)) (sN (agJ 4 ue)) (sC (agJ 4 ue)),Vi E.now,Vi E.last],.agg #[.slice (sA (agJ 0 u83)) (sN (agJ 0 u83)) (sC (agJ 0 u83)),.slice (sA (agJ 1 u83)) (sN (agJ 1 u83)) (sC (agJ 1 u83)),Vi E'.pol.t,Vi E'.pol.b,Vi E'.pol.c,.slice (sA (agJ 2 u83)) (sN (agJ 2 u83)) (sC (agJ 2 u83)),.slice (sA (agJ 3 u83)) (sN (agJ 3 u83)) (sC (agJ 3 u83)),.slice (sA (agJ 4 u83)) (sN (agJ 4 u83)) (sC (agJ 4 u83)),Vi E'.now,Vi E'.last],.slice (sA (agJ 5 u83)) (sN (agJ 5 u83)) (sC (agJ 5 u83))] (.bool true)] [] ?_ (ho:=(And.intro (fun H sH=>hG _ _ _ _ (hE.sees (S30.trans (S33.trans (S35.trans sH)))) ((f83.sees sH)).eng) (trivial)))
       refine jV 7 0 [.ld 1 0,.pu,.pu,.f (fun gh=>.slice (some ⟨(vJ (gh 3)),0,none⟩) 2 2) (fun gh hh=>Cells hh (vJ (gh 3)) 0 [.slice (some ⟨b26,o27,none⟩) lt.length cs,.slice (sA (agJ 5 u83)) (sN (agJ 5 u83)) (sC (agJ 5 u83))]),.f (fun gh=>.slice (sA (gh 4)) ((lt++more).length) (sC (gh 4))) (fun gh hh=>RS hh 8 (.slice (sA (gh 4)) (lt++more).length (sC (gh 4))) (fW (lt++more))),.st 5 0,.pu] [(3,true),(4,false)] (And.intro (fun _ _ _ s c=>c.sees s) (And.intro (fun _ _ _ s c=>c.sees s) (trivial))) ?_ ?_
       ·intro R hT hA hmono
        refine And.intro (r_fact hT hA hmono ⟨fun _ _=>by kernel_rfl,fun _ _=>by kernel_rfl,fun _ _=>by kernel_rfl⟩ 136 (fun g=>Vs g 2 2) [1,2] 3 (by kernel_rfl) (by kernel_rfl) (fun _=>by kernel_rfl) (fun gh=>[.slice (some ⟨b26,o27,none⟩) lt.length cs,.slice (sA (agJ 5 u83)) (sN (agJ 5 u83)) (sC (agJ 5 u83))]) 63 (fun _ _=>by kernel_rfl) (fun gh zb zH zc zj zq zhq zhe=>aX (i:=3) (k:=0) (f:=fun gh hh=>Cells hh (vJ (gh 3)) 0 [.slice (some ⟨b26,o27,none⟩) lt.length cs,.slice (sA (agJ 5 u83)) (sN (agJ 5 u83)) (sC (agJ 5 u83))]) (by kernel_rfl) (by kernel_rfl) zc zj zq zhq zhe)) ?_
        refine And.intro (qX hT hA hmono ⟨fun _ _=>by kernel_rfl,fun _ _=>by kernel_rfl,fun _ _=>by kernel_rfl⟩ 137 (fun u=>.slice (sA u) (lt++more).length (sC u)) [3] 4 76 (fun gh=>#[.slice (some ⟨(vJ (gh 3)),0,none⟩) 2 2]) (fun gh H sH fH lent=>C0.facts (R:=R) (x:=gh) (i:=4) (n:=1) (F:=(fun u=>.slice (sA u) (lt++more).length (sC u))) (G:=fun u hh=>RS hh 8 (.slice (sA u) (lt++more).length (sC u)) (fW (lt++more))) (f:=fun gh hh=>RS hh 8 (.slice (sA (gh 4)) (lt++more).length (sC (gh 4))) (fW (lt++more))) (hC _ _ _ _ (hS.sees (S30.trans (S33.trans (S35.trans sH)))) ((f83.sees sH)).out (fH 0 _ rfl (by kernel_rfl))) (by kernel_rfl) (by kernel_rfl) (fun _ _ r=>r))) ?_
        trivial
       rintro b37 u137 W38 S39 ⟨f36,f137,-⟩
       replace f36:Cells W38 b37 0 [.slice (some ⟨b26,o27,none⟩) lt.length cs,.slice (sA (agJ 5 u83)) (sN (agJ 5 u83)) (sC (agJ 5 u83))]:=f36
       replace f137:RS W38 8 (.slice (sA u137) (lt++more).length (sC u137)) (fW (lt++more)):=f137
       refine vQ f36 ?_
       refine go0 6 [] [(138,Vi (IntKind.i64.wrap ((k:Int) + 1)),Vi ((k:Int) + 1))] ?_ (hc:=(And.intro (jJ (by omega) (by omega)) (trivial)))
       exact lV (k + 1) (fun X q=>⟨W38,E',(lt++more),u83,(sA u137),(sC u137),q _ _ _ _ ⟨rfl,by kernel_rfl⟩,(S3.trans (S30.trans (S33.trans (S35.trans S39)))),by omega,by omega,hM',hI',((f83.sees S39)).eng,f137⟩) (by omega)
      ·skip
       have hst:=hsp av (.inl hkn)
       have hM':=hM.step (by omega) hst
       have hI':=hInv k _ _ _ _ (by omega) hM hI hst
       have hH':=hH av (.inl hkn)
       generalize hrdE E ρ i2 f ⟨x.nm,x.id,x.key,av⟩ cl=E' at *
       generalize hrdT E ρ i2 f ⟨x.nm,x.id,x.key,av⟩ cl=more at *
       generalize hrdB f ⟨x.nm,x.id,x.key,av⟩ cl=tb at *
       refine wQ (t:=decide ((cJ r.k 8) > 4)) (decide_eq_false h8) ?_
       refine go0 5 [.b 5 0,.b 0 0] [] ?_
       refine oQ (fun H sH=>hH' _ (hE.sees sH)) ?_; rintro _ W40 S41 ⟨u83,rfl,f83⟩
       refine go0 21 [.b 1 0,.b 5 0,.b 1 0] [] ?_
       have bm:=hM'.len
       rw [List.length_append] at bm
       have hG:=fun w w' more' H q1 q2=>hfn k E E' (lt++more) w w' more' H (by omega) hM' hI' q1 q2
       have hC:=fun va vb b H q1 q2 q3=>c_cat (la:=lt) (lb:=more) (by omega) va vb b H q1 q2 q3
       refine go0 8 [.cl 42 #[.agg #[.slice (sA (agJ 0 ue)) (sN (agJ 0 ue)) (sC (agJ 0 ue)),.slice (sA (agJ 1 ue)) (sN (agJ 1 ue)) (sC (agJ 1 ue)),Vi E.pol.t,Vi E.pol.b,Vi E.pol.c,.slice (sA (agJ 2 ue)) (sN (agJ 2 ue)) (sC (agJ 2 ue)),.slice (sA (agJ 3 ue)) (sN (agJ 3 ue)) (sC (agJ 3 ue)),.slice (sA (agJ 4 ue)) (sN (agJ 4 ue)) (sC (agJ 4 ue)),Vi E.now,Vi E.last],.agg #[.slice (sA (agJ 0 u83)) (sN (agJ 0 u83)) (sC (agJ 0 u83)),.slice (sA (agJ 1 u83)) (sN (agJ 1 u83)) (sC (agJ 1 u83)),Vi E'.pol.t,Vi E'.pol.b,Vi E'.pol.c,.slice (sA (agJ 2 u83)) (sN (agJ 2 u83)) (sC (agJ 2 u83)),.slice (sA (agJ 3 u83)) (sN (agJ 3 u83)) (sC (agJ 3 u83)),.slice (sA (agJ 4 u83)) (sN (agJ 4 u83)) (sC (agJ 4 u83)),Vi E'.now,Vi E'.last],.slice (sA (agJ 5 u83)) (sN (agJ 5 u83)) (sC (agJ 5 u83))] (.bool true)] [] ?_ (ho:=(And.intro (fun H sH=>hG _ _ _ _ (hE.sees (S41.trans sH)) ((f83.sees sH)).eng) (trivial)))
       refine jV 7 0 [.ld 1 0,.pu,.pu,.f (fun gh=>.slice (some ⟨(vJ (gh 3)),0,none⟩) 2 2) (fun gh hh=>Cells hh (vJ (gh 3)) 0 [.slice (some ⟨b26,o27,none⟩) lt.length cs,.slice (sA (agJ 5 u83)) (sN (agJ 5 u83)) (sC (agJ 5 u83))]),.f (fun gh=>.slice (sA (gh 4)) ((lt++more).length) (sC (gh 4))) (fun gh hh=>RS hh 8 (.slice (sA (gh 4)) (lt++more).length (sC (gh 4))) (fW (lt++more))),.st 5 0,.pu] [(3,true),(4,false)] (And.intro (fun _ _ _ s c=>c.sees s) (And.intro (fun _ _ _ s c=>c.sees s) (trivial))) ?_ ?_
       ·intro R hT hA hmono
        refine And.intro (r_fact hT hA hmono ⟨fun _ _=>by kernel_rfl,fun _ _=>by kernel_rfl,fun _ _=>by kernel_rfl⟩ 136 (fun g=>Vs g 2 2) [1,2] 3 (by kernel_rfl) (by kernel_rfl) (fun _=>by kernel_rfl) (fun gh=>[.slice (some ⟨b26,o27,none⟩) lt.length cs,.slice (sA (agJ 5 u83)) (sN (agJ 5 u83)) (sC (agJ 5 u83))]) 63 (fun _ _=>by kernel_rfl) (fun gh zb zH zc zj zq zhq zhe=>aX (i:=3) (k:=0) (f:=fun gh hh=>Cells hh (vJ (gh 3)) 0 [.slice (some ⟨b26,o27,none⟩) lt.length cs,.slice (sA (agJ 5 u83)) (sN (agJ 5 u83)) (sC (agJ 5 u83))]) (by kernel_rfl) (by kernel_rfl) zc zj zq zhq zhe)) ?_
        refine And.intro (qX hT hA hmono ⟨fun _ _=>by kernel_rfl,fun _ _=>by kernel_rfl,fun _ _=>by kernel_rfl⟩ 137 (fun u=>.slice (sA u) (lt++more).length (sC u)) [3] 4 76 (fun gh=>#[.slice (some ⟨(vJ (gh 3)),0,none⟩) 2 2]) (fun gh H sH fH lent=>C0.facts (R:=R) (x:=gh) (i:=4) (n:=1) (F:=(fun u=>.slice (sA u) (lt++more).length (sC u))) (G:=fun u hh=>RS hh 8 (.slice (sA u) (lt++more).length (sC u)) (fW (lt++more))) (f:=fun gh hh=>RS hh 8 (.slice (sA (gh 4)) (lt++more).length (sC (gh 4))) (fW (lt++more))) (hC _ _ _ _ (hS.sees (S41.trans sH)) ((f83.sees sH)).out (fH 0 _ rfl (by kernel_rfl))) (by kernel_rfl) (by kernel_rfl) (fun _ _ r=>r))) ?_
        trivial
       rintro b43 u137 W44 S45 ⟨f42,f137,-⟩
       replace f42:Cells W44 b43 0 [.slice (some ⟨b26,o27,none⟩) lt.length cs,.slice (sA (agJ 5 u83)) (sN (agJ 5 u83)) (sC (agJ 5 u83))]:=f42
       replace f137:RS W44 8 (.slice (sA u137) (lt++more).length (sC u137)) (fW (lt++more)):=f137
       refine vQ f42 ?_
       refine go0 6 [] [(138,Vi (IntKind.i64.wrap ((k:Int) + 1)),Vi ((k:Int) + 1))] ?_ (hc:=(And.intro (jJ (by omega) (by omega)) (trivial)))
       exact lV (k + 1) (fun X q=>⟨W44,E',(lt++more),u83,(sA u137),(sC u137),q _ _ _ _ ⟨rfl,by kernel_rfl⟩,(S3.trans (S41.trans S45)),by omega,by omega,hM',hI',((f83.sees S45)).eng,f137⟩) (by omega)
  ·skip
   refine kV 32 (v:=.bool (decide ((k:Int) > 30))) (v':=.bool true) (congrArg Value.bool (decide_eq_true (by omega))) ?_
   refine go0 11 [] [] ?_
   refine aV ?_
   refine go0 12 [.b 2 0,.b 1 0] [] ?_
   refine hQ.to [.agg #[.slice (sA (agJ 0 ue)) (sN (agJ 0 ue)) (sC (agJ 0 ue)),.slice (sA (agJ 1 ue)) (sN (agJ 1 ue)) (sC (agJ 1 ue)),Vi E.pol.t,Vi E.pol.b,Vi E.pol.c,.slice (sA (agJ 2 ue)) (sN (agJ 2 ue)) (sC (agJ 2 ue)),.slice (sA (agJ 3 ue)) (sN (agJ 3 ue)) (sC (agJ 3 ue)),.slice (sA (agJ 4 ue)) (sN (agJ 4 ue)) (sC (agJ 4 ue)),Vi E.now,Vi E.last],.slice As lt.length cs,.bool true] (fun H sH=>?_) (ix:=[1])
   exact ⟨E,lt,k,ue,.slice As lt.length cs,rfl,hM,hI,by omega,(hE.sees sH),(hS.sees sH)⟩
 ·skip
  refine wQ (t:=decide ((k:Int) < (len:Int))) (decide_eq_false (by omega)) ?_
  refine go0 2 [] [] ?_
  refine aV ?_
  refine go0 12 [.b 1 0,.b 0 0] [] ?_
  refine hQ.to [.agg #[.slice (sA (agJ 0 ue)) (sN (agJ 0 ue)) (sC (agJ 0 ue)),.slice (sA (agJ 1 ue)) (sN (agJ 1 ue)) (sC (agJ 1 ue)),Vi E.pol.t,Vi E.pol.b,Vi E.pol.c,.slice (sA (agJ 2 ue)) (sN (agJ 2 ue)) (sC (agJ 2 ue)),.slice (sA (agJ 3 ue)) (sN (agJ 3 ue)) (sC (agJ 3 ue)),.slice (sA (agJ 4 ue)) (sN (agJ 4 ue)) (sC (agJ 4 ue)),Vi E.now,Vi E.last],.slice As lt.length cs,.bool true] (fun H sH=>?_) (ix:=[0])
  exact ⟨E,lt,k,ue,.slice As lt.length cs,rfl,hM,hI,by omega,(hE.sees sH),(hS.sees sH)⟩
theorem find1_stale (f:Fd) (A:Option Addr) (n c:Nat) (x:Lt) (b:Nat) (h:Vw) (hc:Cells h b 0 [.string x.nm,.int .i64 x.id,.int .i64 x.key.k,.int .i64 x.key.n,.string x.key.s,.int .i64 x.ans.k,.int .i64 x.ans.n,.string x.ans.s]) :
  C0 Tryz.prog 43 #[.agg #[.string f.name,.int .i64 f.kind,.int .i64 f.ty,.int .i64 f.src.op,.int .i64 f.src.k,.int .i64 f.src.n,.string f.src.s,.string f.src.nm,.slice A n c],.pointer (some ⟨b,0,none⟩)] h (fun r _=>r=.bool (f.name.toList == x.nm.toList)):=by
 refine uQ Tryz.func43 (c:=Tryz.f43.body.getD .skip) (N:=9) ?_
 intro hbx hbad Q hQ
 refine vQ (hc.sees (Sees.refl _)) ?_
 refine go1 17 [.own,.b 0 0,.f 0 0] [] ?_
 intro b1
 refine hQ.to [.bool (f.name.toList == x.nm.toList)] (fun H sH=>?_)
 exact rfl
theorem idxF_stale (fs:List Fd) (vs:List Value) (A:Option Addr) (cap:Nat) (x:Lt) (b:Nat) (h:Vw) (hr:RS h 9 (.slice A fs.length cap) (aQ fs vs)) (hl:fs.length≤1000000) (hvl:vs.length=fs.length) (hsl:∀ u∈vs,.slice (sA u) (sN u) (sC u)=u) (hc:Cells h b 0 [.string x.nm,.int .i64 x.id,.int .i64 x.key.k,.int .i64 x.key.n,.string x.key.s,.int .i64 x.ans.k,.int .i64 x.ans.n,.string x.ans.s]) :
  C0 Tryz.prog 16 #[.slice A fs.length cap,.func (.func 43) #[] #[.pointer (some ⟨b,0,none⟩)]] h (fun r _=>r=.int .i64 (gQ fs x.nm)):=by
 generalize hL:fs.length=len at *
 refine uQ Tryz.func16 (c:=Tryz.f16.body.getD .skip) (N:=19) ?_
 intro hbx hbad Q hQ
 refine go0 14 [] [] ?_
 refine cV [0,1,0,1] [.block 0,.seq [1,1]] (fun (k:Nat) X=>∃ (W1:Vw) ,X W1 [(0,.slice A len cap),(1,.func (.func 43) #[] #[Vp b]),(7,Vi (len:Int)),(8,Vi (k:Int))] [] []∧Sees h W1∧(k≤len)∧(∀ y∈fs.take k,(y.name.toList == x.nm.toList)=false)) (fun k=>len - k) (0) (fun X q=>⟨h,q _ _ _ _ ⟨rfl,by kernel_rfl⟩,Sees.refl _,Nat.zero_le _,fun y hy=>by simp at hy⟩) ?_
 rintro k a w ⟨W1,hJ,S2,hk,hn⟩; refine gV hJ ?_; clear hJ a w
 refine go0 6 [] [] ?_
 rcases (by omega:k < len∨k=len) with hlt | hke
 ·obtain ⟨f,hfk⟩:∃ f,fs[k]?=some f:=⟨_,List.getElem?_eq_getElem (by omega)⟩
  obtain ⟨u,huk⟩:∃ u,vs[k]?=some u:=⟨_,List.getElem?_eq_getElem (by omega)⟩
  have hrow:(aQ fs vs)[k]?=some (fdRow f (.slice (sA u) (sN u) (sC u))):=by rw [hsl u (List.mem_of_getElem? huk)]; exact bQ hfk huk
  refine mV (t:=decide ((k:Int) < (len:Int))) (decide_eq_true (by omega)) ?_
  refine go0 15 [] [] ?_
  obtain ⟨b3,o4,rfl,-,c5⟩:=RS.row hr (hrow)
  refine vQ (c5.sees S2) ?_
  refine go0 5 [.ix b3 o4 len cap k,.f 0 0,.cl 43 #[.agg #[.string f.name,Vi f.kind,Vi f.ty,Vi f.src.op,Vi f.src.k,Vi f.src.n,.string f.src.s,.string f.src.nm,.slice (sA u) (sN u) (sC u)],Vp b] (.bool (f.name.toList == x.nm.toList))] [] ?_ (ho:=(And.intro (by first | omega | (simp; omega)) (And.intro (fun H sH=>find1_stale f _ _ _ x b _ (hc.sees (S2.trans sH))) (trivial))))
  cases boolIs (f.name.toList == x.nm.toList) with
  | true hq =>
   refine mV (t:=f.name.toList == x.nm.toList) (hq) ?_
   refine go0 9 [] [] ?_
   refine aV ?_
   refine go0 2 [] [] ?_
   refine hQ.to [Vi (k:Int)] (fun H sH=>?_)
   exact congrArg (Value.int .i64) (eQ _ fs k f hn hfk hq).symm
  | false hq =>
   refine wQ (t:=f.name.toList == x.nm.toList) (hq) ?_
   refine go0 7 [] [(18,Vi (IntKind.i64.wrap ((k:Int) + 1)),Vi ((k:Int) + 1))] ?_ (hc:=(And.intro (jJ (by omega) (by omega)) (trivial)))
   exact lV (k + 1) (fun X q=>⟨W1,q _ _ _ _ ⟨rfl,by kernel_rfl⟩,S2,by omega,(by rw [bZ fs k f hfk]; exact fun y hy=>(List.mem_append.1 hy).elim (hn y) (fun e=>by rw [List.mem_singleton.1 e]; exact hq))⟩) (by omega)
 ·skip
  have htk:fs.take k=fs:=by rw [hke,← hL,List.take_length]
  rw [htk] at hn
  refine wQ (t:=decide ((k:Int) < (len:Int))) (decide_eq_false (by omega)) ?_
  refine go0 2 [] [] ?_
  refine aV ?_
  refine go0 8 [] [] ?_
  refine hQ.to [Vi (-1)] (fun H sH=>?_)
  exact congrArg (Value.int .i64) (fQ _ fs hn).symm
theorem step_c3 {fs:List Fd} {p:Pol} {now:Int} {inp:Env} {s:Sst} {i:Nat} {f:Fd} (hf:fs[i]?=some f) (h3:f.kind=3):(sY fs p now inp s i).calls=s.calls.set i (fZ p (s.last + 1) now (oK s.kn f.src) (s.calls.getD i clZ)).1∧(sY fs p now inp s i).last=if (fZ p (s.last + 1) now (oK s.kn f.src) (s.calls.getD i clZ)).2=true then s.last + 1 else s.last:=by
 unfold sY
 rw [hf]
 simp only
 rw [if_pos h3]
 exact ⟨rfl,rfl⟩
theorem step_c1 {fs:List Fd} {p:Pol} {now:Int} {inp:Env} {s:Sst} {i:Nat} (h:∀ f,fs[i]?=some f→f.kind≠3):(sY fs p now inp s i).calls=s.calls∧(sY fs p now inp s i).last=s.last:=by
 unfold sY
 cases hf:fs[i]? with
 | none=>exact ⟨rfl,rfl⟩
 | some f =>
  simp only
  rw [if_neg (h f hf)]
  exact ⟨rfl,rfl⟩
theorem step_last (fs:List Fd) (p:Pol) (now:Int) (inp:Env) (s:Sst) (i:Nat):s.last≤(sY fs p now inp s i).last:=by
 by_cases q:∃ f,fs[i]?=some f∧f.kind=3
 ·obtain ⟨f,hf,h3⟩:=q
  rw [(step_c3 hf h3).2]
  split <;> omega
 ·rw [(step_c1 fun f hf h3=>q ⟨f,hf,h3⟩).2]; exact Int.le_refl _
theorem step_calls (fs:List Fd) (p:Pol) (now:Int) (inp:Env) (s:Sst) (i j:Nat) {c':Cl} (h:(sY fs p now inp s i).calls[j]?=some c'):s.calls[j]?=some c'∨c'=clZ∨s.last < c'.id:=by
 by_cases q:∃ f,fs[i]?=some f∧f.kind=3
 ·obtain ⟨f,hf,h3⟩:=q
  rw [(step_c3 hf h3).1] at h
  have hlen:=(List.getElem?_eq_some_iff.1 h).1
  rw [List.length_set] at hlen
  rcases set_at h with ⟨rfl,rfl⟩ | ⟨-,h⟩
  ·by_cases hk:(oK s.kn f.src).k≤3
   ·by_cases q:(s.calls.getD j clZ).st≠0∧eqB (s.calls.getD j clZ).key (oK s.kn f.src)=true
    ·rw [gZ hk q.1 q.2]
     rw [List.getD_eq_getElem?_getD,List.getElem?_eq_getElem hlen]
     exact .inl rfl
    ·rw [turn_new hk q]
     exact .inr (.inr (by show s.last < s.last + 1; omega))
   ·rw [turn_no hk]; exact .inr (.inl rfl)
  ·exact .inl h
 ·rw [(step_c1 fun f hf h3=>q ⟨f,hf,h3⟩).1] at h; exact .inl h
theorem run_calls (fs:List Fd) (p:Pol) (now:Int) (inp:Env) (j:Nat) {c':Cl}:∀ (os:List Nat) (s:Sst),(eY fs p now inp s os).calls[j]?=some c'→s.calls[j]?=some c'∨c'=clZ∨s.last < c'.id
 | [],s,h=>.inl h
 | i :: os,s,h=>by
  have hl:=step_last fs p now inp s i
  rcases run_calls fs p now inp j os (sY fs p now inp s i) h with q | q | q
  ·exact step_calls fs p now inp s i j q
  ·exact .inr (.inl q)
  ·exact .inr (.inr (by omega))
theorem heard_not {E:Eg} {ρ:List Int} {i:Nat} {f:Fd} {x:Lt} {c c':Cl} (hc:E.calls[i]?=some c) (hi:x.id≤E.last) (h:(oY (sV E i x c) ρ).calls[i]?=some c'):¬ Takes f x c':=by
 have hil:=(List.getElem?_eq_some_iff.1 hc).1
 have h:(nY (sV E i x c) ρ).calls[i]?=some c':=h
 rcases run_calls _ _ _ _ i _ _ h with q | rfl | q
 ·have q:(E.calls.set i (heardC x c))[i]?=some c':=q
  rw [List.getElem?_set_self hil] at q
  rw [← Option.some.inj q]
  exact fun t=>absurd (show (2:Int)=1 from t.1) (by decide)
 ·exact fun t=>absurd (show (0:Int)=1 from t.1) (by decide)
 ·have q:E.last < c'.id:=q
  exact fun t=>by have:=t.2.1; omega
theorem hrd_not {E:Eg} {ρ:List Int} {i:Nat} {f:Fd} {x:Lt} {c c':Cl} (hc:E.calls[i]?=some c) (hi:x.id≤E.last) (h:(hrdE E ρ i f x c).calls[i]?=some c'):¬ Takes f x c':=by
 by_cases ht:Takes f x c
 ·rw [(hrd_yes (E:=E) (ρ:=ρ) (i:=i) ht).1] at h
  exact heard_not hc hi h
 ·rw [(hrd_no (E:=E) (ρ:=ρ) (i:=i) ht).1,hc] at h
  rw [← Option.some.inj h]; exact ht
theorem stale_each (w w':Value) (E E':Eg) (more:Value) (h:Vw):C0 Tryz.prog 42 #[.agg #[.slice (sA (agJ 0 w)) (sN (agJ 0 w)) (sC (agJ 0 w)),.slice (sA (agJ 1 w)) (sN (agJ 1 w)) (sC (agJ 1 w)),.int .i64 E.pol.t,.int .i64 E.pol.b,.int .i64 E.pol.c,.slice (sA (agJ 2 w)) (sN (agJ 2 w)) (sC (agJ 2 w)),.slice (sA (agJ 3 w)) (sN (agJ 3 w)) (sC (agJ 3 w)),.slice (sA (agJ 4 w)) (sN (agJ 4 w)) (sC (agJ 4 w)),.int .i64 E.now,.int .i64 E.last],.agg #[.slice (sA (agJ 0 w')) (sN (agJ 0 w')) (sC (agJ 0 w')),.slice (sA (agJ 1 w')) (sN (agJ 1 w')) (sC (agJ 1 w')),.int .i64 E'.pol.t,.int .i64 E'.pol.b,.int .i64 E'.pol.c,.slice (sA (agJ 2 w')) (sN (agJ 2 w')) (sC (agJ 2 w')),.slice (sA (agJ 3 w')) (sN (agJ 3 w')) (sC (agJ 3 w')),.slice (sA (agJ 4 w')) (sN (agJ 4 w')) (sC (agJ 4 w')),.int .i64 E'.now,.int .i64 E'.last],.slice (sA more) (sN more) (sC more)] h (fun r _=>r=.bool true):=by
 refine uQ Tryz.func42 (c:=Tryz.f42.body.getD .skip) (N:=7) ?_
 intro hbx hbad Q hQ
 refine go2 13 [.own,.own] [] ?_
 intro b1 b2
 refine hQ.to [.bool true] (fun H sH=>?_)
 exact rfl
theorem stale_meet (fm:Fm) (P:Pol) (ρ:List Int) (lv:Nat→Nat) (E0:Eg) (lt0:List Lt) (hM0:MOk fm P ρ lv 0 E0 lt0) (m:List RawD) (sm:Value) (om:∀ r∈m,r.ok) (lm:m.length * 40≤reachBytes) (w su:Value) (H:Vw) (q1:IsEng H w E0) (q2:RS H 8 (.slice (sA su) (sN su) (sC su)) (fW lt0)) (q3:RS H 4 sm (m.map RawD.cs)) :
  C0 Tryz.prog 39 #[.agg #[.slice (sA (agJ 0 w)) (sN (agJ 0 w)) (sC (agJ 0 w)),.slice (sA (agJ 1 w)) (sN (agJ 1 w)) (sC (agJ 1 w)),.int .i64 E0.pol.t,.int .i64 E0.pol.b,.int .i64 E0.pol.c,.slice (sA (agJ 2 w)) (sN (agJ 2 w)) (sC (agJ 2 w)),.slice (sA (agJ 3 w)) (sN (agJ 3 w)) (sC (agJ 3 w)),.slice (sA (agJ 4 w)) (sN (agJ 4 w)) (sC (agJ 4 w)),.int .i64 E0.now,.int .i64 E0.last],.slice (sA su) (sN su) (sC su),sm,.func (.func 42) #[] #[]] H (fun r h'=>∃ (E:Eg) (lt:List Lt) (k:Nat) (u:Value) (As A A3:Option Addr) (cs c c3 n:Nat),r=.tuple #[.agg #[.slice A n c,.slice (sA (agJ 1 u)) (sN (agJ 1 u)) (sC (agJ 1 u)),.int .i64 E.pol.t,.int .i64 E.pol.b,.int .i64 E.pol.c,.slice (sA (agJ 2 u)) (sN (agJ 2 u)) (sC (agJ 2 u)),.slice A3 n c3,.slice (sA (agJ 4 u)) (sN (agJ 4 u)) (sC (agJ 4 u)),.int .i64 E.now,.int .i64 E.last],.slice As lt.length cs,.bool true]∧n=fm.fields.length∧MOk fm P ρ lv k E lt∧k≤40∧IsEng h' (.agg #[.slice A n c,agJ 1 u,agJ 2 u,.slice A3 n c3,agJ 4 u]) E∧RS h' 8 (.slice As lt.length cs) (fW lt)∧RS h' 10 (.slice A3 n c3) (fK E.calls)∧∃ vs,RS h' 9 (.slice A n c) (aQ fm.fields vs)∧AllSrc h' fm.fields vs∧vs.length=n∧∀ u∈vs,.slice (sA u) (sN u) (sC u)=u):=by
 refine (meet_any fm P ρ lv (fun _ _=>True) (fun _ _ _ _ _ _ _ _ _=>trivial) (fun k E E' lt' w w' more H q1 q2 q3 q4 q5=>stale_each w w' E E' more H) E0 lt0 hM0 trivial m sm om lm w su H q1 q2 q3).mono fun r h' _=>?_
 rintro ⟨E,lt,k,u,su',rfl,hM,-,hk,hE,hS⟩
 obtain ⟨vs,A,c,e0,-,-,r1,r2,r3,r4⟩:=dQ hE.form.fields
 obtain ⟨A3,c3,e3,-⟩:=hE.calls.form
 obtain ⟨As,cs,es,-⟩:=hS.form
 rw [List.length_map] at e3 es
 rw [hM.efm] at e0 r1 r2 r3
 have p0:=hE.form
 have p3:=hE.calls
 rw [hM.ok.calls.len,hM.efm] at e3
 rw [e3] at p3
 rw [e0] at p0
 rw [es] at hS ⊢
 rw [e0,e3]
 exact ⟨E,lt,k,u,As,A,A3,cs,c,c3,_,rfl,rfl,hM,hk,⟨p0,hE.inp,p3,hE.vals⟩,hS,p3,vs,r1,r2,r3,r4⟩
theorem hear_agg (E:Eg) (ρ:List Int) (lv:Nat→Nat) (hok:EgOk E ρ lv) (hse:Settled E ρ) (i:Nat) (f:Fd) (x:Lt) (cl:Cl) (hf:E.fm.fields[i]?=some f) (hc:E.calls[i]?=some cl) (hn:x.nm=f.name) (hx:OkV x.ans) (hl:E.last≤1073741000) (A A3:Option Addr) (n c c3:Nat) (u:Value) (h:Vw) (hE:IsEng h (.agg #[.slice A n c,agJ 1 u,agJ 2 u,.slice A3 n c3,agJ 4 u]) E) :
  C0 Tryz.prog 31 #[.agg #[.slice A n c,.slice (sA (agJ 1 u)) (sN (agJ 1 u)) (sC (agJ 1 u)),.int .i64 E.pol.t,.int .i64 E.pol.b,.int .i64 E.pol.c,.slice (sA (agJ 2 u)) (sN (agJ 2 u)) (sC (agJ 2 u)),.slice A3 n c3,.slice (sA (agJ 4 u)) (sN (agJ 4 u)) (sC (agJ 4 u)),.int .i64 E.now,.int .i64 E.last],.agg #[.string x.nm,.int .i64 x.id,.int .i64 x.key.k,.int .i64 x.key.n,.string x.key.s,.int .i64 x.ans.k,.int .i64 x.ans.n,.string x.ans.s]] h (fun r h'=>HeaR (hrdE E ρ i f x cl) (hrdT E ρ i f x cl) (hrdB f x cl) r h'):=by
 obtain ⟨w',hw'⟩:∃ w':Value,w'=.agg #[.slice A n c,agJ 1 u,agJ 2 u,.slice A3 n c3,agJ 4 u]:=⟨_,rfl⟩
 rw [← hw'] at hE
 have e0:(.slice (sA (agJ 0 w')) (sN (agJ 0 w')) (sC (agJ 0 w')):Value)=.slice A n c:=by rw [hw']; kernel_rfl
 have e3:(.slice (sA (agJ 3 w')) (sN (agJ 3 w')) (sC (agJ 3 w')):Value)=.slice A3 n c3:=by rw [hw']; kernel_rfl
 have e1:agJ 1 w'=agJ 1 u:=by rw [hw']; kernel_rfl
 have e2:agJ 2 w'=agJ 2 u:=by rw [hw']; kernel_rfl
 have e4:agJ 4 w'=agJ 4 u:=by rw [hw']; kernel_rfl
 have hk:=hear_all E ρ lv hok hse i f x cl hf hc hn hx hl w' h hE
 rw [e0,e3,e1,e2,e4] at hk
 exact hk
theorem same_agg (E:Eg) (ρ:List Int) (lv:Nat→Nat) (hok:EgOk E ρ lv) (A A3:Option Addr) (n c c3:Nat) (w u:Value) (h:Vw) (hw:IsEng h w E) (hE:IsEng h (.agg #[.slice A n c,agJ 1 u,agJ 2 u,.slice A3 n c3,agJ 4 u]) E) :
  C0 Tryz.prog 27 #[.agg #[.slice (sA (agJ 0 w)) (sN (agJ 0 w)) (sC (agJ 0 w)),.slice (sA (agJ 1 w)) (sN (agJ 1 w)) (sC (agJ 1 w)),.int .i64 E.pol.t,.int .i64 E.pol.b,.int .i64 E.pol.c,.slice (sA (agJ 2 w)) (sN (agJ 2 w)) (sC (agJ 2 w)),.slice (sA (agJ 3 w)) (sN (agJ 3 w)) (sC (agJ 3 w)),.slice (sA (agJ 4 w)) (sN (agJ 4 w)) (sC (agJ 4 w)),.int .i64 E.now,.int .i64 E.last],.agg #[.slice A n c,.slice (sA (agJ 1 u)) (sN (agJ 1 u)) (sC (agJ 1 u)),.int .i64 E.pol.t,.int .i64 E.pol.b,.int .i64 E.pol.c,.slice (sA (agJ 2 u)) (sN (agJ 2 u)) (sC (agJ 2 u)),.slice A3 n c3,.slice (sA (agJ 4 u)) (sN (agJ 4 u)) (sC (agJ 4 u)),.int .i64 E.now,.int .i64 E.last]] h (fun r _=>r=.bool true):=by
 obtain ⟨w',hw'⟩:∃ w':Value,w'=.agg #[.slice A n c,agJ 1 u,agJ 2 u,.slice A3 n c3,agJ 4 u]:=⟨_,rfl⟩
 rw [← hw'] at hE
 have e0:(.slice (sA (agJ 0 w')) (sN (agJ 0 w')) (sC (agJ 0 w')):Value)=.slice A n c:=by rw [hw']; kernel_rfl
 have e3:(.slice (sA (agJ 3 w')) (sN (agJ 3 w')) (sC (agJ 3 w')):Value)=.slice A3 n c3:=by rw [hw']; kernel_rfl
 have e1:agJ 1 w'=agJ 1 u:=by rw [hw']; kernel_rfl
 have e2:agJ 2 w'=agJ 2 u:=by rw [hw']; kernel_rfl
 have e4:agJ 4 w'=agJ 4 u:=by rw [hw']; kernel_rfl
 have hk:=sameEng_any E ρ lv hok w w' h hw hE
 rw [e0,e3,e1,e2,e4] at hk
 exact hk
set_option maxHeartbeats 1000000 in
theorem engineStale_c (l m:List RawD) (sl sm:Value) (a b:Int) (h:Vw) (hl:RS h 4 sl (l.map RawD.cs)) (hm:RS h 4 sm (m.map RawD.cs)) (ll:l.length * 40≤reachBytes) (lm:m.length * 40≤reachBytes) (ol:∀ r∈l,r.ok) (om:∀ r∈m,r.ok) (a0 : -9223372036854775808≤a) (a1:a≤9223372036854775807) (b0 : -9223372036854775808≤b) (b1:b≤9223372036854775807) :
  C0 Tryz.prog 11 #[sl,sm,.int .i64 a,.int .i64 b] h (fun v _=>v=.bool true):=by
 have hPol:=fun H=>c_policy a b 30 H a0 a1 b0 b1 (by decide) (by decide)
 have hp:=polE_ok a b 30
 generalize polE a b 30=P at *
 have hB:=fun H q=>begun_any l sl P hp H q ll ol
 have hM0:=begE_m l hp
 generalize rhoL (nW (lQ l).fields)=ρ at *
 generalize lvF l=lv at *
 generalize lQ l=fm at *
 have hMe:=fun w su H q1 q2 q3=>stale_meet fm P ρ lv (begE l P) (begL l P) hM0 m sm om lm w su H q1 q2 q3
 generalize begE l P=E0 at *
 generalize begL l P=lt0 at *
 obtain ⟨A0,c0,rfl,-,-,-⟩:=hl.form
 obtain ⟨A1,c1,rfl,-,-,-⟩:=hm.form
 rw [List.length_map] at *
 rw [List.length_map]
 generalize l.length=len at *
 generalize m.length=lenm at *
 refine uQ Tryz.func11 (c:=Tryz.f11.body.getD .skip) (N:=141) ?_
 intro hbx hbad Q hQ
 refine go0 11 [.cl 23 #[Vi a,Vi b,Vi 30] (.agg #[Vi P.t,Vi P.b,Vi P.c])] [] ?_ (ho:=(And.intro (fun H sH=>hPol _) (trivial)))
 refine oQ (fun H sH=>hB _ (hl.sees sH)) ?_; rintro _ W1 S2 ⟨ue,rfl,hte⟩
 refine go1 25 [.own,.b 0 0,.b 0 0] [] ?_
 intro ben
 refine oQ (fun H sH=>hMe _ _ _ ((hte.sees sH)).eng ((hte.sees sH)).out (hm.sees (S2.trans sH))) ?_; rintro _ W3 S4 ⟨E,lt,k2,u,As,A,A3,cs,c,c3,n,rfl,hn,hM,hk2,hE,hS,hC,vs,hr4,hs4,hl4,hu4⟩
 refine go0 28 [.b 0 0] [] ?_
 have few:=hM.ok.fm.fields.few
 have hnd:=hM.ok.fm.fields.nodup
 have hfe:=hM.ok.fm.fields.each
 rw [hM.efm] at few hnd hfe
 rw [← hn] at few
 have bt:=hM.len
 have bl:=hM.last
 have hix:=fun x b H q1 q2=>idxF_stale fm.fields vs A c x b H q1 (by omega) (hl4.trans hn) hu4 q2
 rw [← hn] at hix
 have hH:=fun i f x cl q1 q2 q3 q4 H q=>hear_agg E ρ lv hM.ok hM.se i f x cl q1 q2 q3 q4 (by omega) A A3 n c c3 u H q
 have hSm:=fun w H q1 q2=>same_agg E ρ lv hM.ok A A3 n c c3 w u H q1 q2
 refine cV [0,1,0,1,1,1,1,1] [.block 0,.seq [1,1,1,1,1,1]] (fun (k:Nat) X=>∃ (W5:Vw) ,X W5 [(9,Vp ben),(45,.slice As lt.length cs),(46,Vi (lt.length:Int)),(47,Vi (k:Int))] [.box ben [.slice A n c,.slice (sA (agJ 1 u)) (sN (agJ 1 u)) (sC (agJ 1 u)),Vi E.pol.t,Vi E.pol.b,Vi E.pol.c,.slice (sA (agJ 2 u)) (sN (agJ 2 u)) (sC (agJ 2 u)),.slice A3 n c3,.slice (sA (agJ 4 u)) (sN (agJ 4 u)) (sC (agJ 4 u)),Vi E.now,Vi E.last]] []∧Sees W3 W5∧(k≤lt.length)) (fun k=>lt.length - k) (0) (fun X q=>⟨W3,q _ _ _ _ ⟨rfl,by kernel_rfl⟩,Sees.refl _,Nat.zero_le _⟩) ?_
 rintro k a w ⟨W5,hJ,S6,hk⟩; refine gV hJ ?_; clear hJ a w
 refine go0 6 [] [] ?_
 rcases (by omega:k < lt.length∨k=lt.length) with hlt | hke
 ·obtain ⟨x,hx⟩:∃ x,lt[k]?=some x:=⟨_,List.getElem?_eq_getElem (by omega)⟩
  have hrx:(fW lt)[k]?=some x.cells:=by rw [List.getElem?_map,hx]; rfl
  obtain ⟨⟨⟨i,f,hf,hxn,hf3⟩,hxk,hxa⟩,hxi⟩:=hM.ltr x (List.mem_of_getElem? hx)
  have hil:=(List.getElem?_eq_some_iff.1 hf).1
  obtain ⟨v2,hv2⟩:∃ v,vs[i]?=some v:=⟨_,List.getElem?_eq_getElem (by omega)⟩
  have hrow2:=bQ hf hv2
  obtain ⟨Au2,nu2,cu2,rfl⟩:=(AllSrc.get hs4 hf hv2).slice
  have hF2:=hfe f (List.mem_of_getElem? hf)
  have hff:E.fm.fields[i]?=some f:=by rw [hM.efm]; exact hf
  obtain ⟨cl,hcl⟩:∃ c,E.calls[i]?=some c:=⟨_,List.getElem?_eq_getElem (by rw [hM.ok.calls.len]; exact (List.getElem?_eq_some_iff.1 hff).1)⟩
  have hcr:=gK hcl
  have hfi:gQ fm.fields x.nm=(i:Int):=by rw [hxn]; exact iQ hnd hf
  have han:=fun H=>answered_any f Au2 nu2 cu2 x.key H (name_print hF2.name).1 (known_size hxk) hF2.t1 hF2.t3
  obtain ⟨hak,hbk⟩:=ans_known hF2 hxk
  have t3:=hF2.t3
  generalize ansV f x.key=bv at *
  have hix':∀ b H,RS H 9 (.slice A n c) (aQ fm.fields vs)→Cells H b 0 [.string x.nm,.int .i64 x.id,.int .i64 x.key.k,.int .i64 x.key.n,.string x.key.s,.int .i64 x.ans.k,.int .i64 x.ans.n,.string x.ans.s]→C0 Tryz.prog 16 #[.slice A n c,.func (.func 43) #[] #[.pointer (some ⟨b,0,none⟩)]] H (fun r _=>r=.int .i64 (i:Int)):=fun b H q1 q2=>by
   have q:=hix x b H q1 q2
   rw [hfi] at q
   exact q
  have hst:=hrd_step (ρ:=ρ) (lt:=lt) (x:=⟨x.nm,x.id,x.key,bv⟩) hff hcl (.inl hak)
  have hM':=hM.step hk2 hst
  have hH':=fun H q=>hH i f ⟨x.nm,x.id,x.key,bv⟩ cl hff hcl hxn (.inl hak) H q
  have hff':(hrdE E ρ i f ⟨x.nm,x.id,x.key,bv⟩ cl).fm.fields[i]?=some f:=by rw [hM'.efm]; exact hf
  obtain ⟨c2,hc2⟩:∃ c,(hrdE E ρ i f ⟨x.nm,x.id,x.key,bv⟩ cl).calls[i]?=some c:=⟨_,List.getElem?_eq_getElem (by rw [hM'.ok.calls.len]; exact (List.getElem?_eq_some_iff.1 hff').1)⟩
  have hN:=hrd_not (x:=⟨x.nm,x.id,x.key,bv⟩) hcl hxi hc2
  have hH2:∀ w H,IsEng H w (hrdE E ρ i f ⟨x.nm,x.id,x.key,bv⟩ cl)→C0 Tryz.prog 31 #[.agg #[.slice (sA (agJ 0 w)) (sN (agJ 0 w)) (sC (agJ 0 w)),.slice (sA (agJ 1 w)) (sN (agJ 1 w)) (sC (agJ 1 w)),.int .i64 ((hrdE E ρ i f ⟨x.nm,x.id,x.key,bv⟩ cl).pol).t,.int .i64 ((hrdE E ρ i f ⟨x.nm,x.id,x.key,bv⟩ cl).pol).b,.int .i64 ((hrdE E ρ i f ⟨x.nm,x.id,x.key,bv⟩ cl).pol).c,.slice (sA (agJ 2 w)) (sN (agJ 2 w)) (sC (agJ 2 w)),.slice (sA (agJ 3 w)) (sN (agJ 3 w)) (sC (agJ 3 w)),.slice (sA (agJ 4 w)) (sN (agJ 4 w)) (sC (agJ 4 w)),.int .i64 (hrdE E ρ i f ⟨x.nm,x.id,x.key,bv⟩ cl).now,.int .i64 (hrdE E ρ i f ⟨x.nm,x.id,x.key,bv⟩ cl).last],.agg #[.string x.nm,.int .i64 x.id,.int .i64 x.key.k,.int .i64 x.key.n,.string x.key.s,.int .i64 bv.k,.int .i64 bv.n,.string bv.s]] H (fun r h'=>HeaR (hrdE E ρ i f ⟨x.nm,x.id,x.key,bv⟩ cl) [] false r h'):=fun w H q=>hear_no_any _ ρ lv hM'.ok hM'.se i f ⟨x.nm,x.id,x.key,bv⟩ c2 hff' hc2 hxn (.inl hak) hN w H q
  have hyes:cl.st=1→cl.id=x.id→eqB cl.key x.key=true→hrdB f ⟨x.nm,x.id,x.key,bv⟩ cl=true:=fun q1 q2 q3=>(hrd_yes (E:=E) (ρ:=ρ) (i:=i) (x:=⟨x.nm,x.id,x.key,bv⟩) ⟨q1,q2,q3,by show bv.k≤3; omega,hbk⟩).2.2
  have hno:¬ (cl.st=1∧cl.id=x.id∧eqB cl.key x.key=true)→hrdE E ρ i f ⟨x.nm,x.id,x.key,bv⟩ cl=E∧hrdT E ρ i f ⟨x.nm,x.id,x.key,bv⟩ cl=[]∧hrdB f ⟨x.nm,x.id,x.key,bv⟩ cl=false:=fun q=>hrd_no fun t=>q ⟨t.1,t.2.1,t.2.2.1⟩
  clear hst hM' hff' hc2 hN
  generalize hrdE E ρ i f ⟨x.nm,x.id,x.key,bv⟩ cl=E' at *
  generalize hrdT E ρ i f ⟨x.nm,x.id,x.key,bv⟩ cl=more at *
  generalize hrdB f ⟨x.nm,x.id,x.key,bv⟩ cl=tb at *
  refine mV (t:=decide ((k:Int) < (lt.length:Int))) (decide_eq_true (by omega)) ?_
  refine go0 6 [] [] ?_
  obtain ⟨b7,o8,rfl,-,c9⟩:=RS.row hS (hrx)
  refine vQ (c9.sees S6) ?_
  refine go1 12 [.ix b7 o8 lt.length cs k,.f 0 0,.own,.b 0 0,.b 1 0] [] ?_ (ho:=(And.intro (by first | omega | (simp; omega)) (trivial)))
  intro blx
  refine g_callq (fun a w hJ=>hix' blx _ (hr4.sees (S6.trans hJ.j.seesQ)) (hJ.j.boxQ (b:=blx) (cs:=[.string x.nm,Vi x.id,Vi x.key.k,Vi x.key.n,.string x.key.s,Vi x.ans.k,Vi x.ans.n,.string x.ans.s]) 0 (by kernel_rfl))) ?_; intro W10 S11
  refine go0 10 [] [] ?_
  refine wQ (t:=decide ((i:Int) < 0)) (decide_eq_false (by omega)) ?_
  refine go0 3 [] [] ?_
  by_cases s1:cl.st=1
  ·skip
   by_cases s2:cl.id=x.id
   ·skip
    by_cases s3:eqB cl.key x.key=true
    ·have hy:=hyes s1 s2 s3
     subst hy
     obtain ⟨b12,o13,rfl,-,c14⟩:=RS.row hr4 (hrow2)
     refine vQ (c14.sees (S6.trans S11)) ?_
     refine jV 11 0 [.pu,.pu,.ld 1 0,.pu,.v (fun gh=>.pointer (some ⟨b12,o13 + i * 9,none⟩)),.lf 0 0,.pu,.ld 0 2,.v (fun gh=>.agg #[Vi bv.k,Vi bv.n,.string bv.s]),.pu,.st 0 5] [] (trivial) ?_ ?_
     ·intro R hT hA hmono
      refine And.intro (aZ hT hA b12 o13 n c i (fun gh=>.pointer (some ⟨b12,o13 + i * 9,none⟩)) (by first | omega | (simp; omega))) ?_
      refine And.intro (t_v hT hA hmono (k:=44) (args:=(fun gh=>#[.agg #[.string f.name,Vi f.kind,Vi f.ty,Vi f.src.op,Vi f.src.k,Vi f.src.n,.string f.src.s,.string f.src.nm,.slice Au2 nu2 cu2],.agg #[Vi x.key.k,Vi x.key.n,.string x.key.s]])) (f:=fun gh=>.agg #[Vi bv.k,Vi bv.n,.string bv.s]) (fun gh H sH fH lent=>han _)) ?_
      trivial
     rintro W15 S16 -
     refine go0 2 [] [] ?_
     obtain ⟨b17,o18,rfl,-,c19⟩:=RS.row hC (hcr)
     refine vQ (c19.sees (S6.trans (S11.trans S16))) ?_
     have c20:=RS.cell hC (hcr)
     refine vQ (c20.sees (S6.trans (S11.trans S16))) ?_
     have c21:=RS.cell hC (hcr)
     refine vQ (c21.sees (S6.trans (S11.trans S16))) ?_
     refine jV 30 0 [.pu,.ld 1 6,.pu,.v (fun gh=>.pointer (some ⟨b17,o18 + i * 10,none⟩)),.pu,.lf 0 0,.v (fun gh=>.bool true),.pu,.pu,.ld 1 6,.pu,.v (fun gh=>.pointer (some ⟨b17,o18 + i * 10,none⟩)),.pu,.lf 0 1,.pu,.ld 0 1,.v (fun gh=>.bool true),.pu,.pu,.pu,.ld 1 6,.pu,.v (fun gh=>.pointer (some ⟨b17,o18 + i * 10,none⟩)),.pu,.lf 0 3,.pu,.ld 0 2,.v (fun gh=>.bool true),.pu,.pu] [] (trivial) ?_ ?_
     ·intro R hT hA hmono
      refine And.intro (aZ hT hA b17 o18 n c3 i (fun gh=>.pointer (some ⟨b17,o18 + i * 10,none⟩)) (by first | omega | (simp; omega))) ?_
      refine And.intro (zY hT hA (fun gh=>.bool true) (fun gh=>.bool (cl.st == 1)) (fun gh=>congrArg Value.bool (beq_iff_eq.2 s1))) ?_
      refine And.intro (aZ hT hA b17 o18 n c3 i (fun gh=>.pointer (some ⟨b17,o18 + i * 10,none⟩)) (by first | omega | (simp; omega))) ?_
      refine And.intro (zY hT hA (fun gh=>.bool true) (fun gh=>.bool (cl.id == x.id)) (fun gh=>congrArg Value.bool (beq_iff_eq.2 s2))) ?_
      refine And.intro (aZ hT hA b17 o18 n c3 i (fun gh=>.pointer (some ⟨b17,o18 + i * 10,none⟩)) (by first | omega | (simp; omega))) ?_
      refine And.intro (t_p hT hA (fun gh=>.bool true) (fun gh w=>run_eqop (x:=(.tmp 92)) (y:=(.tmp 94)) (v:=cl.key) (w:=x.key) (by kernel_rfl) (by kernel_rfl) (by kernel_rfl) (s3))) ?_
      trivial
     rintro W22 S23 -
     refine go0 5 [.b 1 0,.b 0 0] [] ?_
     refine oQ (fun H sH=>hH' _ (hE.sees (S6.trans (S11.trans (S16.trans (S23.trans sH)))))) ?_; rintro _ W24 S25 ⟨u97,rfl,f97⟩
     refine go1 46 [.own,.b 0 0,.b 0 0,.b 1 0] [] ?_
     intro b26
     refine oQ (fun H sH=>hH2 _ _ ((f97.sees sH)).eng) ?_; rintro _ W27 S28 ⟨u127,rfl,f127⟩
     refine go1 29 [.own,.b 0 0] [(140,Vi (IntKind.i64.wrap ((k:Int) + 1)),Vi ((k:Int) + 1))] ?_ (hc:=(And.intro (jJ (by omega) (by omega)) (trivial)))
     intro b29
     exact lV (k + 1) (fun X q=>⟨W27,q _ _ _ _ ⟨rfl,by kernel_rfl⟩,(S6.trans (S11.trans (S16.trans (S23.trans (S25.trans S28))))),by omega⟩) (by omega)
    ·skip
     obtain ⟨e1,e2,e3⟩:=hno fun q=>s3 q.2.2
     have e1:=e1.symm
     subst e1 e2 e3
     obtain ⟨b30,o31,rfl,-,c32⟩:=RS.row hr4 (hrow2)
     refine vQ (c32.sees (S6.trans S11)) ?_
     refine jV 11 0 [.pu,.pu,.ld 1 0,.pu,.v (fun gh=>.pointer (some ⟨b30,o31 + i * 9,none⟩)),.lf 0 0,.pu,.ld 0 2,.v (fun gh=>.agg #[Vi bv.k,Vi bv.n,.string bv.s]),.pu,.st 0 5] [] (trivial) ?_ ?_
     ·intro R hT hA hmono
      refine And.intro (aZ hT hA b30 o31 n c i (fun gh=>.pointer (some ⟨b30,o31 + i * 9,none⟩)) (by first | omega | (simp; omega))) ?_
      refine And.intro (t_v hT hA hmono (k:=44) (args:=(fun gh=>#[.agg #[.string f.name,Vi f.kind,Vi f.ty,Vi f.src.op,Vi f.src.k,Vi f.src.n,.string f.src.s,.string f.src.nm,.slice Au2 nu2 cu2],.agg #[Vi x.key.k,Vi x.key.n,.string x.key.s]])) (f:=fun gh=>.agg #[Vi bv.k,Vi bv.n,.string bv.s]) (fun gh H sH fH lent=>han _)) ?_
      trivial
     rintro W33 S34 -
     refine go0 2 [] [] ?_
     obtain ⟨b35,o36,rfl,-,c37⟩:=RS.row hC (hcr)
     refine vQ (c37.sees (S6.trans (S11.trans S34))) ?_
     have c38:=RS.cell hC (hcr)
     refine vQ (c38.sees (S6.trans (S11.trans S34))) ?_
     have c39:=RS.cell hC (hcr)
     refine vQ (c39.sees (S6.trans (S11.trans S34))) ?_
     refine jV 30 0 [.pu,.ld 1 6,.pu,.v (fun gh=>.pointer (some ⟨b35,o36 + i * 10,none⟩)),.pu,.lf 0 0,.v (fun gh=>.bool true),.pu,.pu,.ld 1 6,.pu,.v (fun gh=>.pointer (some ⟨b35,o36 + i * 10,none⟩)),.pu,.lf 0 1,.pu,.ld 0 1,.v (fun gh=>.bool true),.pu,.pu,.pu,.ld 1 6,.pu,.v (fun gh=>.pointer (some ⟨b35,o36 + i * 10,none⟩)),.pu,.lf 0 3,.pu,.ld 0 2,.v (fun gh=>.bool false),.pu,.pu] [] (trivial) ?_ ?_
     ·intro R hT hA hmono
      refine And.intro (aZ hT hA b35 o36 n c3 i (fun gh=>.pointer (some ⟨b35,o36 + i * 10,none⟩)) (by first | omega | (simp; omega))) ?_
      refine And.intro (zY hT hA (fun gh=>.bool true) (fun gh=>.bool (cl.st == 1)) (fun gh=>congrArg Value.bool (beq_iff_eq.2 s1))) ?_
      refine And.intro (aZ hT hA b35 o36 n c3 i (fun gh=>.pointer (some ⟨b35,o36 + i * 10,none⟩)) (by first | omega | (simp; omega))) ?_
      refine And.intro (zY hT hA (fun gh=>.bool true) (fun gh=>.bool (cl.id == x.id)) (fun gh=>congrArg Value.bool (beq_iff_eq.2 s2))) ?_
      refine And.intro (aZ hT hA b35 o36 n c3 i (fun gh=>.pointer (some ⟨b35,o36 + i * 10,none⟩)) (by first | omega | (simp; omega))) ?_
      refine And.intro (t_p hT hA (fun gh=>.bool false) (fun gh w=>run_eqop (x:=(.tmp 92)) (y:=(.tmp 94)) (v:=cl.key) (w:=x.key) (by kernel_rfl) (by kernel_rfl) (by kernel_rfl) (Bool.eq_false_iff.2 s3))) ?_
      trivial
     rintro W40 S41 -
     refine go0 5 [.b 1 0,.b 0 0] [] ?_
     refine oQ (fun H sH=>hH' _ (hE.sees (S6.trans (S11.trans (S34.trans (S41.trans sH)))))) ?_; rintro _ W42 S43 ⟨u97,rfl,f97⟩
     refine go1 30 [.own,.b 0 0] [] ?_
     intro b44
     obtain ⟨A6,c6,e6,-⟩:=f97.out.form
     have hs6:sN (agJ 5 u97)=0:=by simp only [Value.slice.injEq] at e6; exact e6.2.1
     refine kV 119 (v:=.bool (decide ((sN (agJ 5 u97):Int) > 0))) (v':=.bool false) (congrArg Value.bool (decide_eq_false (by rw [hs6]; decide))) ?_
     refine go0 16 [.b 0 0,.b 2 0,.cl 27 #[.agg #[.slice (sA (agJ 0 u97)) (sN (agJ 0 u97)) (sC (agJ 0 u97)),.slice (sA (agJ 1 u97)) (sN (agJ 1 u97)) (sC (agJ 1 u97)),Vi E.pol.t,Vi E.pol.b,Vi E.pol.c,.slice (sA (agJ 2 u97)) (sN (agJ 2 u97)) (sC (agJ 2 u97)),.slice (sA (agJ 3 u97)) (sN (agJ 3 u97)) (sC (agJ 3 u97)),.slice (sA (agJ 4 u97)) (sN (agJ 4 u97)) (sC (agJ 4 u97)),Vi E.now,Vi E.last],.agg #[.slice (some ⟨b30,o31,none⟩) n c,.slice (sA (agJ 1 u)) (sN (agJ 1 u)) (sC (agJ 1 u)),Vi E.pol.t,Vi E.pol.b,Vi E.pol.c,.slice (sA (agJ 2 u)) (sN (agJ 2 u)) (sC (agJ 2 u)),.slice (some ⟨b35,o36,none⟩) n c3,.slice (sA (agJ 4 u)) (sN (agJ 4 u)) (sC (agJ 4 u)),Vi E.now,Vi E.last]] (.bool true),.b 0 0,.b 1 0] [] ?_ (ho:=(And.intro (fun H sH=>hSm _ _ ((f97.sees sH)).eng (hE.sees (S6.trans (S11.trans (S34.trans (S41.trans (S43.trans sH))))))) (trivial)))
     refine oQ (fun H sH=>hH2 _ _ ((f97.sees sH)).eng) ?_; rintro _ W45 S46 ⟨u127,rfl,f127⟩
     refine go1 29 [.own,.b 0 0] [(140,Vi (IntKind.i64.wrap ((k:Int) + 1)),Vi ((k:Int) + 1))] ?_ (hc:=(And.intro (jJ (by omega) (by omega)) (trivial)))
     intro b47
     exact lV (k + 1) (fun X q=>⟨W45,q _ _ _ _ ⟨rfl,by kernel_rfl⟩,(S6.trans (S11.trans (S34.trans (S41.trans (S43.trans S46))))),by omega⟩) (by omega)
   ·skip
    obtain ⟨e1,e2,e3⟩:=hno fun q=>s2 q.2.1
    have e1:=e1.symm
    subst e1 e2 e3
    obtain ⟨b48,o49,rfl,-,c50⟩:=RS.row hr4 (hrow2)
    refine vQ (c50.sees (S6.trans S11)) ?_
    refine jV 11 0 [.pu,.pu,.ld 1 0,.pu,.v (fun gh=>.pointer (some ⟨b48,o49 + i * 9,none⟩)),.lf 0 0,.pu,.ld 0 2,.v (fun gh=>.agg #[Vi bv.k,Vi bv.n,.string bv.s]),.pu,.st 0 5] [] (trivial) ?_ ?_
    ·intro R hT hA hmono
     refine And.intro (aZ hT hA b48 o49 n c i (fun gh=>.pointer (some ⟨b48,o49 + i * 9,none⟩)) (by first | omega | (simp; omega))) ?_
     refine And.intro (t_v hT hA hmono (k:=44) (args:=(fun gh=>#[.agg #[.string f.name,Vi f.kind,Vi f.ty,Vi f.src.op,Vi f.src.k,Vi f.src.n,.string f.src.s,.string f.src.nm,.slice Au2 nu2 cu2],.agg #[Vi x.key.k,Vi x.key.n,.string x.key.s]])) (f:=fun gh=>.agg #[Vi bv.k,Vi bv.n,.string bv.s]) (fun gh H sH fH lent=>han _)) ?_
     trivial
    rintro W51 S52 -
    refine go0 2 [] [] ?_
    obtain ⟨b53,o54,rfl,-,c55⟩:=RS.row hC (hcr)
    refine vQ (c55.sees (S6.trans (S11.trans S52))) ?_
    have c56:=RS.cell hC (hcr)
    refine vQ (c56.sees (S6.trans (S11.trans S52))) ?_
    have c57:=RS.cell hC (hcr)
    refine vQ (c57.sees (S6.trans (S11.trans S52))) ?_
    refine jV 30 0 [.pu,.ld 1 6,.pu,.v (fun gh=>.pointer (some ⟨b53,o54 + i * 10,none⟩)),.pu,.lf 0 0,.v (fun gh=>.bool true),.pu,.pu,.ld 1 6,.pu,.v (fun gh=>.pointer (some ⟨b53,o54 + i * 10,none⟩)),.pu,.lf 0 1,.pu,.ld 0 1,.v (fun gh=>.bool false),.pu,.pu,.ps,.ps,.ps,.ps,.ps,.ps,.ps,.ps,.ps,.pu,.pu] [] (trivial) ?_ ?_
    ·intro R hT hA hmono
     refine And.intro (aZ hT hA b53 o54 n c3 i (fun gh=>.pointer (some ⟨b53,o54 + i * 10,none⟩)) (by first | omega | (simp; omega))) ?_
     refine And.intro (zY hT hA (fun gh=>.bool true) (fun gh=>.bool (cl.st == 1)) (fun gh=>congrArg Value.bool (beq_iff_eq.2 s1))) ?_
     refine And.intro (aZ hT hA b53 o54 n c3 i (fun gh=>.pointer (some ⟨b53,o54 + i * 10,none⟩)) (by first | omega | (simp; omega))) ?_
     refine And.intro (zY hT hA (fun gh=>.bool false) (fun gh=>.bool (cl.id == x.id)) (fun gh=>congrArg Value.bool (beq_eq_false_iff_ne.2 s2))) ?_
     trivial
    rintro W58 S59 -
    refine go0 5 [.b 1 0,.b 0 0] [] ?_
    refine oQ (fun H sH=>hH' _ (hE.sees (S6.trans (S11.trans (S52.trans (S59.trans sH)))))) ?_; rintro _ W60 S61 ⟨u97,rfl,f97⟩
    refine go1 30 [.own,.b 0 0] [] ?_
    intro b62
    obtain ⟨A6,c6,e6,-⟩:=f97.out.form
    have hs6:sN (agJ 5 u97)=0:=by simp only [Value.slice.injEq] at e6; exact e6.2.1
    refine kV 119 (v:=.bool (decide ((sN (agJ 5 u97):Int) > 0))) (v':=.bool false) (congrArg Value.bool (decide_eq_false (by rw [hs6]; decide))) ?_
    refine go0 16 [.b 0 0,.b 2 0,.cl 27 #[.agg #[.slice (sA (agJ 0 u97)) (sN (agJ 0 u97)) (sC (agJ 0 u97)),.slice (sA (agJ 1 u97)) (sN (agJ 1 u97)) (sC (agJ 1 u97)),Vi E.pol.t,Vi E.pol.b,Vi E.pol.c,.slice (sA (agJ 2 u97)) (sN (agJ 2 u97)) (sC (agJ 2 u97)),.slice (sA (agJ 3 u97)) (sN (agJ 3 u97)) (sC (agJ 3 u97)),.slice (sA (agJ 4 u97)) (sN (agJ 4 u97)) (sC (agJ 4 u97)),Vi E.now,Vi E.last],.agg #[.slice (some ⟨b48,o49,none⟩) n c,.slice (sA (agJ 1 u)) (sN (agJ 1 u)) (sC (agJ 1 u)),Vi E.pol.t,Vi E.pol.b,Vi E.pol.c,.slice (sA (agJ 2 u)) (sN (agJ 2 u)) (sC (agJ 2 u)),.slice (some ⟨b53,o54,none⟩) n c3,.slice (sA (agJ 4 u)) (sN (agJ 4 u)) (sC (agJ 4 u)),Vi E.now,Vi E.last]] (.bool true),.b 0 0,.b 1 0] [] ?_ (ho:=(And.intro (fun H sH=>hSm _ _ ((f97.sees sH)).eng (hE.sees (S6.trans (S11.trans (S52.trans (S59.trans (S61.trans sH))))))) (trivial)))
    refine oQ (fun H sH=>hH2 _ _ ((f97.sees sH)).eng) ?_; rintro _ W63 S64 ⟨u127,rfl,f127⟩
    refine go1 29 [.own,.b 0 0] [(140,Vi (IntKind.i64.wrap ((k:Int) + 1)),Vi ((k:Int) + 1))] ?_ (hc:=(And.intro (jJ (by omega) (by omega)) (trivial)))
    intro b65
    exact lV (k + 1) (fun X q=>⟨W63,q _ _ _ _ ⟨rfl,by kernel_rfl⟩,(S6.trans (S11.trans (S52.trans (S59.trans (S61.trans S64))))),by omega⟩) (by omega)
  ·skip
   obtain ⟨e1,e2,e3⟩:=hno fun q=>s1 q.1
   have e1:=e1.symm
   subst e1 e2 e3
   obtain ⟨b66,o67,rfl,-,c68⟩:=RS.row hr4 (hrow2)
   refine vQ (c68.sees (S6.trans S11)) ?_
   refine jV 11 0 [.pu,.pu,.ld 1 0,.pu,.v (fun gh=>.pointer (some ⟨b66,o67 + i * 9,none⟩)),.lf 0 0,.pu,.ld 0 2,.v (fun gh=>.agg #[Vi bv.k,Vi bv.n,.string bv.s]),.pu,.st 0 5] [] (trivial) ?_ ?_
   ·intro R hT hA hmono
    refine And.intro (aZ hT hA b66 o67 n c i (fun gh=>.pointer (some ⟨b66,o67 + i * 9,none⟩)) (by first | omega | (simp; omega))) ?_
    refine And.intro (t_v hT hA hmono (k:=44) (args:=(fun gh=>#[.agg #[.string f.name,Vi f.kind,Vi f.ty,Vi f.src.op,Vi f.src.k,Vi f.src.n,.string f.src.s,.string f.src.nm,.slice Au2 nu2 cu2],.agg #[Vi x.key.k,Vi x.key.n,.string x.key.s]])) (f:=fun gh=>.agg #[Vi bv.k,Vi bv.n,.string bv.s]) (fun gh H sH fH lent=>han _)) ?_
    trivial
   rintro W69 S70 -
   refine go0 2 [] [] ?_
   obtain ⟨b71,o72,rfl,-,c73⟩:=RS.row hC (hcr)
   refine vQ (c73.sees (S6.trans (S11.trans S70))) ?_
   have c74:=RS.cell hC (hcr)
   refine vQ (c74.sees (S6.trans (S11.trans S70))) ?_
   have c75:=RS.cell hC (hcr)
   refine vQ (c75.sees (S6.trans (S11.trans S70))) ?_
   refine jV 30 0 [.pu,.ld 1 6,.pu,.v (fun gh=>.pointer (some ⟨b71,o72 + i * 10,none⟩)),.pu,.lf 0 0,.v (fun gh=>.bool false),.pu,.ps,.ps,.ps,.ps,.ps,.ps,.ps,.ps,.ps,.pu,.pu,.ps,.ps,.ps,.ps,.ps,.ps,.ps,.ps,.ps,.pu,.pu] [] (trivial) ?_ ?_
   ·intro R hT hA hmono
    refine And.intro (aZ hT hA b71 o72 n c3 i (fun gh=>.pointer (some ⟨b71,o72 + i * 10,none⟩)) (by first | omega | (simp; omega))) ?_
    refine And.intro (zY hT hA (fun gh=>.bool false) (fun gh=>.bool (cl.st == 1)) (fun gh=>congrArg Value.bool (beq_eq_false_iff_ne.2 s1))) ?_
    trivial
   rintro W76 S77 -
   refine go0 5 [.b 1 0,.b 0 0] [] ?_
   refine oQ (fun H sH=>hH' _ (hE.sees (S6.trans (S11.trans (S70.trans (S77.trans sH)))))) ?_; rintro _ W78 S79 ⟨u97,rfl,f97⟩
   refine go1 30 [.own,.b 0 0] [] ?_
   intro b80
   obtain ⟨A6,c6,e6,-⟩:=f97.out.form
   have hs6:sN (agJ 5 u97)=0:=by simp only [Value.slice.injEq] at e6; exact e6.2.1
   refine kV 119 (v:=.bool (decide ((sN (agJ 5 u97):Int) > 0))) (v':=.bool false) (congrArg Value.bool (decide_eq_false (by rw [hs6]; decide))) ?_
   refine go0 16 [.b 0 0,.b 2 0,.cl 27 #[.agg #[.slice (sA (agJ 0 u97)) (sN (agJ 0 u97)) (sC (agJ 0 u97)),.slice (sA (agJ 1 u97)) (sN (agJ 1 u97)) (sC (agJ 1 u97)),Vi E.pol.t,Vi E.pol.b,Vi E.pol.c,.slice (sA (agJ 2 u97)) (sN (agJ 2 u97)) (sC (agJ 2 u97)),.slice (sA (agJ 3 u97)) (sN (agJ 3 u97)) (sC (agJ 3 u97)),.slice (sA (agJ 4 u97)) (sN (agJ 4 u97)) (sC (agJ 4 u97)),Vi E.now,Vi E.last],.agg #[.slice (some ⟨b66,o67,none⟩) n c,.slice (sA (agJ 1 u)) (sN (agJ 1 u)) (sC (agJ 1 u)),Vi E.pol.t,Vi E.pol.b,Vi E.pol.c,.slice (sA (agJ 2 u)) (sN (agJ 2 u)) (sC (agJ 2 u)),.slice (some ⟨b71,o72,none⟩) n c3,.slice (sA (agJ 4 u)) (sN (agJ 4 u)) (sC (agJ 4 u)),Vi E.now,Vi E.last]] (.bool true),.b 0 0,.b 1 0] [] ?_ (ho:=(And.intro (fun H sH=>hSm _ _ ((f97.sees sH)).eng (hE.sees (S6.trans (S11.trans (S70.trans (S77.trans (S79.trans sH))))))) (trivial)))
   refine oQ (fun H sH=>hH2 _ _ ((f97.sees sH)).eng) ?_; rintro _ W81 S82 ⟨u127,rfl,f127⟩
   refine go1 29 [.own,.b 0 0] [(140,Vi (IntKind.i64.wrap ((k:Int) + 1)),Vi ((k:Int) + 1))] ?_ (hc:=(And.intro (jJ (by omega) (by omega)) (trivial)))
   intro b83
   exact lV (k + 1) (fun X q=>⟨W81,q _ _ _ _ ⟨rfl,by kernel_rfl⟩,(S6.trans (S11.trans (S70.trans (S77.trans (S79.trans S82))))),by omega⟩) (by omega)
 ·skip
  refine wQ (t:=decide ((k:Int) < (lt.length:Int))) (decide_eq_false (by omega)) ?_
  refine go0 2 [] [] ?_
  refine aV ?_
  refine go0 8 [] [] ?_
  refine hQ.to [.bool true] (fun H sH=>?_)
  exact rfl
theorem engineStale_walk (v:Value) (l:List RawD) (v':Value) (m:List RawD) (a b:Int) (w:World) (h:RawsOf w v l) (h':RawsOf w v' m) (a0 : -9223372036854775808≤a) (a1:a≤9223372036854775807) (b0 : -9223372036854775808≤b) (b1:b≤9223372036854775807) :
  Calls Tryz.prog 11 #[v,v',.int .i64 a,.int .i64 b] w fun e w'=>e=.returned (.bool true)∧Below w.heap.size w w' :=
 C0.law (engineStale_c l m v v' a b ⟨w,[]⟩ h.rs h'.rs h.2.1 h'.2.1 h.2.2 h'.2.2 a0 a1 b0 b1)
namespace engineStaleLaw
open Go.ChangeShapes Go.WideShapes Go.ChangeAt Go.RowKit
open Go.ChangeMaps (open_string shut_string)
set_option linter.unusedVariables false
theorem lifted (os:Os) (started:os.Started) (H:Type) (enc:TypeId × Value→H) :
  ReturnsInHanded {} Tryz.checked os 11 .any (Rows.engineStaleSpec.pre6 enc Tryz.prog Tryz.f11 Rows.engineStaleRow.domain false) (Rows.engineStaleSpec.post enc Tryz.prog Tryz.f11 false true false false):=by
 refine returnsInHanded_of_change_sized (C:=Tryz.checked) ownNone started (by kernel_rfl) Tryz.func11
  (ChangeSpec.witness6 (enc:=enc) (C:=Tryz.checked) false ⟨#[],#[.slice none 0 0,.slice none 0 0,.int .i64 0,.int .i64 0],[]⟩ 8 (by kernel_rfl) (by kernel_rfl) (by kernel_rfl) (by kernel_rfl)) ?_
 intro W base args ds gs before hval0 hW hcnd hsz0 _
 have hval:∀ (j:Nat) t v,Tryz.f11.params[j]?=some t→args[j]?=some v→Value.okWide Tryz.prog W .any base t v:=hval0
 have hsz:(DataW.weightsEach Tryz.prog (Tryz.f11.params.toList++Rows.engineStaleSpec.plain.varTypes Tryz.prog) (ds++gs)).all (· ≤ reachBytes)=true:=hsz0
 have hW':=hW
 obtain ⟨p,q,hA0,hV,rfl,hfz,hnd⟩:=hW
 have hA:DataW.TrodAll enc Tryz.prog W 0 (fun _=>true) true Tryz.f11.params.toList args.toList ds p:=hA0
 rw [Tryz.params11] at hA hval hsz
 obtain ⟨v0,vs0,d0,ds0,p0,q0,hargs,rfl,rfl,h0,r0⟩:=trodAll_cons hA
 obtain ⟨v1,vs1,d1,ds1,p1,q1,rfl,rfl,rfl,h1,r1⟩:=trodAll_cons r0
 obtain ⟨v2,vs2,d2,ds2,p2,q2,rfl,rfl,rfl,h2,r2⟩:=trodAll_cons r1
 obtain ⟨v3,vs3,d3,ds3,p3,q3,rfl,rfl,rfl,h3,r3⟩:=trodAll_cons r2
 obtain ⟨rfl,rfl,rfl⟩:=trodAll_nil r3
 obtain rfl:args=#[v0,v1,v2,v3]:=by cases args; simp_all
 obtain ⟨rfl,rfl⟩:=trodVars_none hV
 have k0:=h0
 have lt0:∀ x∈p0,x.block < W.heap.size:=by obtain ⟨m,hm⟩:=k0; exact DataW.trod_lt m _ _ _ hm
 obtain ⟨a0,w0⟩:=open_rows (hval 0 22 v0 rfl rfl) h0 (fun es ss hd=>sized_slice hsz (j:=0) (t:=22) (elems:=es) (spare:=ss) rfl (by rw [hd]; rfl) Tryz.underlying22)
 have k1:=h1
 have lt1:∀ x∈p1,x.block < W.heap.size:=by obtain ⟨m,hm⟩:=k1; exact DataW.trod_lt m _ _ _ hm
 obtain ⟨a1,w1⟩:=open_rows (hval 1 22 v1 rfl rfl) h1 (fun es ss hd=>sized_slice hsz (j:=1) (t:=22) (elems:=es) (spare:=ss) rfl (by rw [hd]; rfl) Tryz.underlying22)
 have k2:=h2
 have lt2:∀ x∈p2,x.block < W.heap.size:=by obtain ⟨m,hm⟩:=k2; exact DataW.trod_lt m _ _ _ hm
 obtain ⟨a2,rfl,-,-,w2⟩:=open_int Tryz.underlying3 (hval 2 3 v2 rfl rfl) h2
 have k3:=h3
 have lt3:∀ x∈p3,x.block < W.heap.size:=by obtain ⟨m,hm⟩:=k3; exact DataW.trod_lt m _ _ _ hm
 obtain ⟨a3,rfl,-,-,w3⟩:=open_int Tryz.underlying3 (hval 3 3 v3 rfl rfl) h3
 clear hA0 hval0 hsz0
 refine (engineStale_walk v0 a0 v1 a1 a2 a3 W w0 w1 (int_lo w2) (int_hi w2) (int_lo w3) (int_hi w3)).mono fun e W' ⟨he,bel⟩=>?_
 subst he
 exact ⟨_,rfl,_,_,_,[],_,[],hW',trodAll_mk1 (shut_bool Tryz.underlying4 _),(trodAll_cons_mk (Below.trod laidOutTrue (by kernel_rfl) (of_decide_eq_true (by kernel_rfl)) k0 bel lt0) (trodAll_cons_mk (Below.trod laidOutTrue (by kernel_rfl) (of_decide_eq_true (by kernel_rfl)) k1 bel lt1) (trodAll_cons_mk (Below.trod laidOutTrue (by kernel_rfl) (of_decide_eq_true (by kernel_rfl)) k2 bel lt2) (trodAll_cons_mk (Below.trod laidOutTrue (by kernel_rfl) (of_decide_eq_true (by kernel_rfl)) k3 bel lt3) trodAll_mk0)))),rfl,bel.frame _,fun h=>by cases h⟩
theorem over:Rows.engineStaleRow.holds Tryz.pinned (OpenSpec.ofChange Rows.engineStaleSpec) :=
 OpenClaim.holds_of_wide 11 Tryz.f11 rfl rfl rfl rfl rfl rfl rfl ⟨rfl,rfl,rfl,rfl,rfl⟩ rfl rfl rfl rfl rfl (by kernel_rfl) Tryz.func11 (by kernel_rfl)
  (of_decide_eq_true (by kernel_rfl)) (by unfold Func.isWrapper; first | (rw [if_pos (by decide +kernel)]; kernel_rfl) | (rw [if_neg (by decide +kernel)]; exact ⟨rfl,rfl⟩))
  (fun os started H enc _=>lifted os started H enc)
end engineStaleLaw
theorem engineStale_holds:Rows.EngineStaleSaid:=engineStaleLaw.over
#print axioms engineStale_holds
end Go.Proofs.YtjpgjnldeafpkaaGreat
