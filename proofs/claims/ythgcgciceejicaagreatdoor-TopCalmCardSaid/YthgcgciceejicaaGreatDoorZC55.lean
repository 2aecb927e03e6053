/-
  For all raw things, times and both orders TopCalm returns true: when all requests are served nothing is asked any more.
-/
import Derived.Test.YthgcgciceejicaaGreatDoorZC50
import Derived.Test.YthgcgciceejicaaGreatDoorZC51
import Derived.Test.YthgcgciceejicaaGreatDoorZC54
set_option maxRecDepth 100000
namespace Go.Proofs.YthgcgciceejicaaGreatDoor
open Go.RowKit
set_option linter.unusedVariables false
theorem c_Picked (n m:Int) (h:Vw) (h0 : -9223372036854775808 <= n) (h1:n <= 9223372036854775807) (h2:1 <= m) (h3:m <= 9223372036854775807) :
  C0 Tryz.prog 14 #[Vi n,Vi m] h (λv _=>v=Vi (cJ n m)):=by
 have hp:=λH=>yJ n m H h0 h1 h2 h3;refine qQ Tryz.func14 λhbx hbad Q hQ=>?_;refine go0 14 [.cl 37 #[Vi n,Vi m] (Vi (cJ n m))] [] ?_ (ho:=(Aj (λH sH=>hp _) (trivial)));refine hQ.to [Vi (cJ n m)] (λH sH=>?_);exact rfl
def atE (E:Eg) (t:Int):Eg:={ E with now:=t }
theorem atE_ok {E:Eg} {ρ:List Int} {lv:Nat -> Nat} (h:EgOk E ρ lv) {t:Int} (h0:0 <= t) (h1:t <= 1073741824):EgOk (atE E t) ρ lv:=⟨h.fm,h.one,h.pol,h.ki,h.k0,h.once,h.li,h.calls,h.vlen,h0,h1,h.l0,h.l1⟩
theorem tick_calm {E:Eg} {ρ:List Int} {lv:Nat -> Nat} (hok:EgOk E ρ lv) (hse:Settled E ρ) (hno:∀ c∈E.calls,c.st≠1) (dt:Int) (d1:1 <= dt) (d2:dt <= 1000) (d3:E.now + dt <= 1073741824) {A:Option Addr} {n c:Nat} {u:Value} {h:Vw} (hn:E.fm.fields.length=n) (k:EngF h A n c u E) :
  C0 Tryz.prog 20 #[.agg #[.slice A n c,sL (agJ 1 u),Vi E.pol.t,Vi E.pol.b,Vi E.pol.c,sL (agJ 2 u),sL (agJ 3 u),sL (agJ 4 u),Vi E.now,Vi E.last],Vi dt] h (λr h'=>∃ u',r=.tuple #[.agg #[.slice (sA (agJ 0 u')) n (sC (agJ 0 u')),sL (agJ 1 u'),Vi E.pol.t,Vi E.pol.b,Vi E.pol.c,sL (agJ 2 u'),sL (agJ 3 u'),sL (agJ 4 u'),Vi (E.now + dt),Vi E.last],.slice (sA (agJ 5 u')) 0 (sC (agJ 5 u')),Vi 0] /\ EngF h' (sA (agJ 0 u')) n (sC (agJ 0 u')) u' (atE E (E.now + dt))):=by
 obtain ⟨w,hE,e0,e1,e2,e3,e4⟩:=k.at_;obtain ⟨q1,q2,q3,-⟩:=quiet_set hok hse hno dt;have hk:=tick_any E ρ lv hok hse dt d1 d2 d3 (by rw [q3]; exact hok.l1) w h hE;rw [eng_args e0 e1 e2 e3 e4,q1,q2] at hk;refine hk.mono λr h' _=>?_;rintro ⟨u',rfl,q⟩;obtain ⟨A6,c6,e,-⟩:=q.out.form;have f0:sN (agJ 5 u')=0:=Dj sN e;obtain ⟨A',c',e',kf⟩:=EngF.of (n:=n) (w:=u') (E:=atE E (E.now + dt)) ⟨q.eng.form,q.eng.inp,q.eng.calls,q.eng.vals⟩ hn;have f1:sN (agJ 0 u')=n:=Dj sN e';have g1:sA (agJ 0 u')=A':=Dj sA e';have g2:sC (agJ 0 u')=c':=Dj sC e';have kk:∀ m0 m1:Nat,m0=0 -> m1=n -> Value.tuple #[.agg #[.slice (sA (agJ 0 u')) m1 (sC (agJ 0 u')),sL (agJ 1 u'),Vi E.pol.t,Vi E.pol.b,Vi E.pol.c,sL (agJ 2 u'),sL (agJ 3 u'),sL (agJ 4 u'),Vi (E.now + dt),Vi E.last],.slice (sA (agJ 5 u')) m0 (sC (agJ 5 u')),Vi 0]=Value.tuple #[.agg #[.slice (sA (agJ 0 u')) n (sC (agJ 0 u')),sL (agJ 1 u'),Vi E.pol.t,Vi E.pol.b,Vi E.pol.c,sL (agJ 2 u'),sL (agJ 3 u'),sL (agJ 4 u'),Vi (E.now + dt),Vi E.last],.slice (sA (agJ 5 u')) 0 (sC (agJ 5 u')),Vi 0]:=by
  intro m0 m1 q1 q2;rw [q1,q2]
 refine ⟨u',kk _ _ f0 f1,?_⟩;rw [g1,g2]; exact kf
set_option maxHeartbeats 1000000 in
theorem topCalm_c (l:List RawD) (sl:Value) (ts:List Int) (tv:Value) (last:Bool) (h:Vw) (lk:Lk h) (hl:RS h 4 sl (l.map RawD.cs)) (ll:l.length * 40 <= reachBytes) (ol:∀ r∈l,r.ok) (ht:RS h 1 tv (yX ts)) (ot:∀ x∈ts,-9223372036854775808 <= x /\ x <= 9223372036854775807) :
  C0 Tryz.prog 4 #[sl,tv,.bool last] h (λv _=>v=.bool true):=by
 have hPol:=λH=>c_policy 5 30 100 H (by decide) (by decide) (by decide) (by decide) (by decide) (by decide);have hp:=polE_ok 5 30 100;generalize polE 5 30 100=P at *;have hF:=λH q=>form_u l sl H q ll ol;have hN:=λfv pv H q=>new_con (iQ l) _ _ (form_okFm l) (form_one l) P hp fv pv H q;have hCt:=λH q=>counts_c H q;have hM0:=begE_m l hp;have hK0:CalK (iQ l) P (rhoL (nW (iQ l).fields)) (lvF l) 0 (begE l P) (begL l P):=⟨hM0,calI_beg (form_okFm l) (form_one l) hp,Mj _⟩;have hCa:=λw su H q1 q2=>calm_any (iQ l) P _ _ (begE l P) (begL l P) hK0 last w su H q1 q2;have hpk:=λa (q:a∈ts) H=>c_Picked a 1000 H (ot a q).1 (ot a q).2 (by decide) (by decide);change ∀ fv pv H,_ -> ConE Tryz.prog _ _ H [] (NewR (begE l P) (begL l P)) at hN;generalize rhoL (nW (iQ l).fields)=ρ at *;generalize lvF l=lv at *;generalize iQ l=fm at *;clear hK0 hM0;generalize begE l P=E0 at *;generalize begL l P=lt0 at *;obtain ⟨A0,c0,rfl,-,-,-⟩:=hl.form;obtain ⟨At,ct,rfl,-,-,-⟩:=ht.form;rw [Ij] at *;rw [Ij] at *;generalize l.length=len at *;generalize hn:fm.fields.length=n at *;generalize hnt:ts.length=nt at *;refine qQ Tryz.func4 λhbx hbad Q hQ=>?_;refine go0 8 [] [] ?_;refine lQ (λH sH=>hF _ (hl.sees sH)) ?_; rintro _ W1 S2 ⟨uf,rfl,hfm⟩;refine go0 1 [.cl 12 #[Vi 5,Vi 30,Vi 100] (.agg #[Vi P.t,Vi P.b,Vi P.c])] [] ?_ (ho:=(Aj (λH sH=>hPol _) (trivial)));refine oQ (Bi:=[]) [] (λH sH=>hN _ _ _ (hfm.sees sH)) ?_; rintro _ _ W3 S4 ⟨ue,A9,c9,rfl,rfl,hte⟩;refine go1 29 [.own,.b 0 0,.cl 13 #[] (.bool true),.b 0 0] [] ?_ (ho:=(Aj (λH sH=>hCt _ (lk.sees (S2.trans (S4.trans sH)))) (trivial)));intro bee;refine wQ 1 (v:=.slice A9 lt0.length c9) (e:=57) (kk:=8) (l:=fW lt0) ?_; intro W5 S6 fl;refine lQ (λH sH=>hCa _ (.slice A9 lt0.length c9) _ (hte.sees (S6.trans sH)) (fl.sees sH)) ?_; rintro _ W7 S8 ⟨E,k,A,c,u,rfl,hK,hE⟩;refine go0 26 [.b 0 0] [] ?_;have hM:=hK.m;have hkf:=hK.few;have hno:=calI_none hM.ok hK.i;have hnw:=hM.now;have hn0:=hM.ok.n0;have hvl:E.vals.length=n:=by rw [hM.ok.vlen,hM.efm]; exact hn
 have few:=hM.ok.fm.fields.few;have hfl:E.fm.fields.length=n:=by rw [hM.efm]; exact hn
 have hq0:=λH v v' q1 q2=>c_equalVl (h:=H) (v:=v) (v':=v') (l:=E.vals) q1 q2 (by omega);refine zQ [0,1,0,1,1,1,1,1] [.block 0,.seq [1,1,1,1,1,1]] (λ(k:Nat) X=>∃ (W9:Vw) (Ae:Option Addr) (ce:Nat) (uk:Value) (nw:Int),X W9 [(7,Vp bee),(39,.slice At nt ct),(40,Vi (nt:Int)),(41,Vi (k:Int))] [.box bee [.slice Ae n ce,sL (agJ 1 uk),Vi E.pol.t,Vi E.pol.b,Vi E.pol.c,sL (agJ 2 uk),sL (agJ 3 uk),sL (agJ 4 uk),Vi nw,Vi E.last]] [] /\ Sees W7 W9 /\ (k <= nt) /\ (k <= 21) /\ (0 <= nw) /\ (nw <= E.now + 1000 * (k:Int)) /\ (EngF W9 Ae n ce uk (atE E nw)) /\ (Settled (atE E nw) ρ)) (λk=>nt - k) (0) (λX q=>⟨W7,A,c,u,E.now,q _ _ _ _ ⟨rfl,by kernel_rfl⟩,Sees.refl _,Mj _,by decide,hn0,by omega,hE,hM.se⟩) ?_;rintro k a w ⟨W9,Ae,ce,uk,nw,hJ,S10,hk,hk2,hw0,hw,hE2,hs2⟩; refine eV hJ ?_; clear hJ a w;refine go0 6 [] [] ?_;rcases (by omega:k < nt\/k=nt) with hlt | hke
 ·obtain ⟨x,hx⟩:∃ x,ts[k]?=some x:=⟨_,Fj (by omega)⟩;have hxm:=Ej hx;have hrow:(yX ts)[k]?=some [Vi x]:=by rw [Nj,hx]; rfl
  have hpx:=λH=>hpk x hxm H;have hd0:=oX x 1000 (by omega);have hd1:=nX x 1000 (by omega);generalize cJ x 1000=d at *;refine kV (t:=decide ((k:Int) < (nt:Int))) (Lj (by omega)) ?_;refine go0 7 [] [] ?_;obtain ⟨b11,o12,rfl,-,c13⟩:=RS.row ht (hrow);refine tQ (c13.sees (S2.trans (S4.trans (S6.trans (S8.trans S10))))) ?_;refine go0 13 [.ix b11 o12 nt ct k,.f 0 0] [] ?_ (ho:=(Aj (by first | omega | (simp; omega)) (trivial)))
  by_cases h20:20 < k
  ·refine kV (t:=decide ((k:Int) > 20)) (Lj (by omega)) ?_;refine go0 4 [] [] ?_;refine yQ ?_;refine go0 8 [] [] ?_;refine hQ.to [.bool true] (λH sH=>?_);exact rfl
  ·skip;have hTk:=λH q=>tick_calm (E:=atE E nw) (ρ:=ρ) (lv:=lv) (h:=H) (A:=Ae) (n:=n) (c:=ce) (u:=uk) (atE_ok hM.ok hw0 (by omega)) hs2 hno (1 + d) (by omega) (by omega) (show nw + (1 + d) <= 1073741824 by omega) hfl q
   have hs3:Settled (atE E (nw + (1 + d))) ρ:=(quiet_set (E:=atE E nw) (lv:=lv) (atE_ok hM.ok hw0 (by omega)) hs2 hno (1 + d)).2.2.2;refine uQ (t:=decide ((k:Int) > 20)) (Kj (by omega)) ?_;refine go0 3 [] [] ?_;refine gV 13 1 [.ld 1 0,.pu,.v (λgh=>Vi d),.v (λgh=>Vi (1 + d)),.f (λgh=>.tuple #[.agg #[.slice (sA (agJ 0 (gh 4))) n (sC (agJ 0 (gh 4))),sL (agJ 1 (gh 4)),Vi E.pol.t,Vi E.pol.b,Vi E.pol.c,sL (agJ 2 (gh 4)),sL (agJ 3 (gh 4)),sL (agJ 4 (gh 4)),Vi (nw + (1 + d)),Vi E.last],.slice (sA (agJ 5 (gh 4))) 0 (sC (agJ 5 (gh 4))),Vi 0]) (λgh hh=>EngF hh (sA (agJ 0 (gh 4))) n (sC (agJ 0 (gh 4))) (gh 4) (atE E (nw + (1 + d)))),.pu,.pu,.pu,.pu,.al 0,.st 0 0,.pu,.pu] [(4,false),(9,true)] (Aj (λ_ _ _ s c=>c.sees s) (trivial)) ?_ ?_
   ·intro R hT hA hmono;refine Aj (t_v hT hA hmono (k:=14) (args:=(λgh=>#[Vi x,Vi 1000])) (f:=λgh=>Vi d) (λgh H sH fH lent=>hpx _)) ?_;refine Aj (xY hT hA (λgh=>Vi (1 + d)) (λgh=>Vi (IntKind.i64.wrap (1 + d))) (λgh=>jJ (by omega) (by omega))) ?_;refine Aj (rX hT hA hmono 53 (λu=>.tuple #[.agg #[.slice (sA (agJ 0 u)) n (sC (agJ 0 u)),sL (agJ 1 u),Vi E.pol.t,Vi E.pol.b,Vi E.pol.c,sL (agJ 2 u),sL (agJ 3 u),sL (agJ 4 u),Vi (nw + (1 + d)),Vi E.last],.slice (sA (agJ 5 u)) 0 (sC (agJ 5 u)),Vi 0]) [0,2,3] 4 20 (λgh=>#[.agg #[.slice Ae n ce,sL (agJ 1 uk),Vi E.pol.t,Vi E.pol.b,Vi E.pol.c,sL (agJ 2 uk),sL (agJ 3 uk),sL (agJ 4 uk),Vi nw,Vi E.last],Vi (1 + d)]) (λgh H sH fH lent=>C0.facts (R:=R) (x:=gh) (i:=4) (n:=0) (F:=(λu=>.tuple #[.agg #[.slice (sA (agJ 0 u)) n (sC (agJ 0 u)),sL (agJ 1 u),Vi E.pol.t,Vi E.pol.b,Vi E.pol.c,sL (agJ 2 u),sL (agJ 3 u),sL (agJ 4 u),Vi (nw + (1 + d)),Vi E.last],.slice (sA (agJ 5 u)) 0 (sC (agJ 5 u)),Vi 0])) (G:=λu hh=>EngF hh (sA (agJ 0 u)) n (sC (agJ 0 u)) u (atE E (nw + (1 + d)))) (f:=λgh hh=>EngF hh (sA (agJ 0 (gh 4))) n (sC (agJ 0 (gh 4))) (gh 4) (atE E (nw + (1 + d)))) (hTk _ (hE2.sees sH)) (by kernel_rfl) (by kernel_rfl) (λ_ _ r=>r))) ?_
    trivial
   rintro u53 b14 W15 S16 ⟨f53,-⟩;replace f53:EngF W15 (sA (agJ 0 u53)) n (sC (agJ 0 u53)) u53 (atE E (nw + (1 + d))):=f53;refine go0 34 [.b 0 7,.b 1 7,.cl 19 #[sL (agJ 4 u53),sL (agJ 4 uk)] (.bool true),.b 0 0,.b 1 0] [(73,Vi (IntKind.i64.wrap ((k:Int) + 1)),Vi ((k:Int) + 1))] ?_ (ho:=(Aj (λH sH=>hq0 _ _ _ ((f53.sees sH)).vals ((hE2.sees (S16.trans sH))).vals) (trivial))) (hc:=(Aj (jJ (by omega) (by omega)) (trivial)));exact jV (k + 1) (λX q=>⟨W15,sA (agJ 0 u53),sC (agJ 0 u53),u53,nw + (1 + d),q _ _ _ _ ⟨rfl,by kernel_rfl⟩,(S10.trans S16),by omega,by omega,by omega,by omega,f53,hs3⟩)
 ·skip;refine uQ (t:=decide ((k:Int) < (nt:Int))) (Kj (by omega)) ?_
  refine go0 2 [] [] ?_;refine yQ ?_;refine go0 8 [] [] ?_;refine hQ.to [.bool true] (λH sH=>?_);exact rfl
theorem topCalm_walk (v:Value) (l:List RawD) (v':Value) (ts:List Int) (b:Bool) (w:World) (h:RawsOf w v l) (h':IntsOf w v' ts) (hL:laidMet Tryz.prog Rows.topCalmRow.laid w) (hsh:w.ShapedOpen Tryz.prog) :
  Calls Tryz.prog 4 #[v,v',.bool b] w λe w'=>e=.returned (.bool true) /\ Below w.heap.size w w' :=
 lawC (topCalm_c l v ts v' b ⟨w,[]⟩ (Lk.of_laid hL hsh) h.rs h.2.1 h.2.2 h'.rs h'.2)
namespace topCalmLaw
open Go.ChangeShapes Go.WideShapes Go.ChangeAt Go.RowKit
open Go.ChangeMaps (open_string shut_string)
set_option linter.unusedVariables false
theorem contract (H:Type) (enc:TypeId × Value -> H) (W:World) (base:Nat) (args:Array Value) (ds gs:List (DataW H)) (before:List MemPlace)
  (hval0:∀ (j:Nat) t v,Tryz.f4.params[j]?=some t -> args[j]?=some v -> Value.okWide Tryz.prog W .any base t v)
  (hW:DataW.Whole enc Tryz.prog Tryz.f4.params.toList Rows.topCalmSpec.vars false W args.toList ds gs before)
  (hsz0:(DataW.weightsEach Tryz.prog (Tryz.f4.params.toList++Rows.topCalmSpec.plain.varTypes Tryz.prog) (ds++gs)).all (· <= reachBytes)=true) (hL:laidMet Tryz.prog Rows.topCalmRow.laid W) (hsh:W.ShapedOpen Tryz.prog) :
  Calls Tryz.prog 4 args W λe W'=>∃ v,e=.returned v /\ Rows.topCalmSpec.post enc Tryz.prog Tryz.f4 false true false false W args v W':=by
 have hval:∀ (j:Nat) t v,Tryz.f4.params[j]?=some t -> args[j]?=some v -> Value.okWide Tryz.prog W .any base t v:=hval0;have hsz:(DataW.weightsEach Tryz.prog (Tryz.f4.params.toList++Rows.topCalmSpec.plain.varTypes Tryz.prog) (ds++gs)).all (· <= reachBytes)=true:=hsz0;have hW':=hW;obtain ⟨p,q,hA0,hV,rfl,hfz,hnd⟩:=hW;have hA:DataW.TrodAll enc Tryz.prog W 0 (λ_=>true) true Tryz.f4.params.toList args.toList ds p:=hA0;rw [Tryz.params4] at hA hval hsz;obtain ⟨v0,vs0,d0,ds0,p0,q0,hargs,rfl,rfl,h0,r0⟩:=trodAll_cons hA;obtain ⟨v1,vs1,d1,ds1,p1,q1,rfl,rfl,rfl,h1,r1⟩:=trodAll_cons r0;obtain ⟨v2,vs2,d2,ds2,p2,q2,rfl,rfl,rfl,h2,r2⟩:=trodAll_cons r1;obtain ⟨rfl,rfl,rfl⟩:=trodAll_nil r2;obtain rfl:args=#[v0,v1,v2]:=by cases args; simp_all
 obtain ⟨rfl,rfl⟩:=trodVars_none hV;have k0:=h0;have lt0:∀ x∈p0,x.block < W.heap.size:=by obtain ⟨m,hm⟩:=k0; exact DataW.trod_lt m _ _ _ hm
 obtain ⟨a0,w0⟩:=open_rows (hval 0 22 v0 rfl rfl) h0 (λes ss hd=>sized_slice hsz (j:=0) (t:=22) (elems:=es) (spare:=ss) rfl (by rw [hd]; rfl) Tryz.underlying22);have k1:=h1;have lt1:∀ x∈p1,x.block < W.heap.size:=by obtain ⟨m,hm⟩:=k1; exact DataW.trod_lt m _ _ _ hm
 obtain ⟨a1,w1⟩:=open_intr (hval 1 62 v1 rfl rfl) h1;have k2:=h2;have lt2:∀ x∈p2,x.block < W.heap.size:=by obtain ⟨m,hm⟩:=k2; exact DataW.trod_lt m _ _ _ hm
 obtain ⟨a2,rfl,-,-⟩:=open_bool Tryz.underlying4 (hval 2 4 v2 rfl rfl) h2;clear hA0 hval0 hsz0;refine (topCalm_walk v0 a0 v1 a1 a2 W w0 w1 hL hsh).mono λe W' ⟨he,bel⟩=>?_;subst he;exact ⟨_,rfl,_,_,_,[],_,[],hW',trodAll_mk1 (shut_bool Tryz.underlying4 _),(trodAll_cons_mk (Below.trod laidOutTrue (by kernel_rfl) (Hv (by kernel_rfl)) k0 bel lt0) (trodAll_cons_mk (Below.trod laidOutTrue (by kernel_rfl) (Hv (by kernel_rfl)) k1 bel lt1) (trodAll_cons_mk (Below.trod laidOutTrue (by kernel_rfl) (Hv (by kernel_rfl)) k2 bel lt2) trodAll_mk0))),rfl,bel.frame _,λh=>by cases h⟩
theorem reads (os:Os) {H:Type} (enc:TypeId × Value -> H):∃ places,DataW.whole enc Tryz.prog ((World.laidAll Tryz.prog os Rows.topCalmRow.laid).forCall (λ_ _=>0) ⟨#[],#[.slice none 0 0,.slice none 0 0,.bool false],[]⟩).memory Tryz.f4.params.toList Rows.topCalmSpec.vars false (#[.slice none 0 0,.slice none 0 0,.bool false]:Array Value).toList 8=some ([.nil,.nil,.lit (.bool false)],[],places) :=
 ⟨[],by kernel_rfl⟩
theorem lifted (os:Os) (started:os.Started) (H:Type) (enc:TypeId × Value -> H) (FF:Stop.Interp) :
  ReturnsInHanded {} Tryz.checked os 4 .any ((OpenSpec.ofChange Rows.topCalmSpec).preRow enc Tryz.prog Tryz.f4 Rows.topCalmRow.domain false Rows.topCalmRow.laid) (((OpenSpec.ofChange Rows.topCalmSpec).at FF).post enc Tryz.prog Tryz.f4 false true false false):=by
 obtain ⟨places,hx⟩:=reads os enc;refine returnsInHanded_of_row (C:=Tryz.checked) (s:=OpenSpec.ofChange Rows.topCalmSpec) ownNone started (by kernel_rfl) Tryz.func4
  (witness_row_at (enc:=enc) (C:=Tryz.checked) false (World.laidAll Tryz.prog os Rows.topCalmRow.laid) #[.slice none 0 0,.slice none 0 0,.bool false] (World.laidAll_os _ _ _) (by kernel_rfl) (by kernel_rfl) (by kernel_rfl)
   (OpenSpec.preRow_of_cond 8 hx (by kernel_rfl) (λk hk=>by cases hk) (by kernel_rfl) (laidMet_laidAll _ (by kernel_rfl) (by kernel_rfl)))) ?_
 intro W base args ds gs before hval hW _ _ hsz hL hsh _;rw [MakeChecks.laidMetH_plain _ _ _ (by kernel_rfl)] at hL;exact contract H enc W base args ds gs before hval hW hsz hL hsh
theorem cand {a b:Bool} (h:a=true) (k:b=true):(a && b)=true:=by rw [h,k]; rfl
theorem cf1:laidOutB Tryz.prog=true:=by kernel_rfl
theorem cf2:mapsRowed Tryz.prog=true:=by kernel_rfl
theorem cf9:(Rows.topCalmRow.inPlace == Tryz.prog.inPlace 4)=true:=by kernel_rfl
theorem cf10:(Rows.topCalmRow.unfollowed == Tryz.prog.unfollowed 4)=true:=by kernel_rfl
theorem cf11:(Rows.topCalmRow.recurses == Tryz.prog.recurses 4)=true:=by kernel_rfl
theorem cf12:(Rows.topCalmRow.named == Tryz.prog.varsNamed 4)=true:=by kernel_rfl
theorem cf22:(Rows.topCalmRow.plainKeys == Tryz.prog.plainKeys)=true:=by kernel_rfl
theorem cf24:Tryz.prog.stopsHeard=true:=by kernel_rfl
theorem cf25:Tryz.prog.mayEnter=true:=by kernel_rfl
theorem cf26:(Rows.topCalmRow.lifted == Tryz.prog.liftsFinal)=true:=by kernel_rfl
theorem cf27:(Tryz.prog.make == some Rows.topCalmRow.make)=true:=by kernel_rfl
set_option maxRecDepth 1000000 in
theorem closed:joinedFacts Tryz.pinned.checked.prog 4 Tryz.f4 (OpenSpec.ofChange Rows.topCalmSpec).bare Rows.topCalmRow=true :=
 (cand (cand (cand (cand (cand (cand (cand (cand (cand (cand (cand (cand (cand (cand (cand (cand (cand (cand (cand (cand (cand (cand (cand (cand (cand (cand (cand (cand (cand (cand (cand (by kernel_rfl) cf1) cf2) (by kernel_rfl)) (by kernel_rfl)) (by kernel_rfl)) (by kernel_rfl)) (by kernel_rfl)) (by kernel_rfl)) cf9) cf10) cf11) cf12) (by kernel_rfl)) (by kernel_rfl)) (by kernel_rfl)) (by kernel_rfl)) (by kernel_rfl)) (by kernel_rfl)) (by kernel_rfl)) (by kernel_rfl)) (by kernel_rfl)) cf22) (by kernel_rfl)) cf24) cf25) cf26) cf27) (by kernel_rfl)) (by kernel_rfl)) (by kernel_rfl)) (by kernel_rfl))
theorem said:Rows.TopCalmSaid :=
 OpenClaim.holds_of_cond 4 Tryz.f4 rfl rfl rfl rfl rfl rfl rfl ⟨rfl,rfl,rfl,rfl,rfl⟩ rfl rfl rfl rfl rfl (by kernel_rfl) Tryz.func4 closed
  (Hv (by kernel_rfl)) (by unfold Func.isWrapper; first | (rw [Cj (by decide +kernel)]; kernel_rfl) | (rw [Bj (by decide +kernel)]; exact ⟨rfl,rfl⟩))
  (λos started H enc _ FF=>by rw [OpenClaim.pre_eq_preRow]; exact lifted os started H enc FF)
theorem plain (f : FuncId) (fn : Func) (hf : Tryz.pinned.checked.prog.funcNamed "lychway/lychwaytop.TopCalm" = some f) (hfn : Tryz.pinned.checked.prog.funcs[f]? = some fn) :
  Rows.topCalmCard.stood.looks=Tryz.pinned.checked.prog.looks [] /\ ∀ (j:Nat) t,fn.params[j]?=some t -> Tryz.pinned.checked.prog.wantsStandIn t=false:=by
 obtain rfl : f = 4 := Zj ((show Tryz.prog.funcNamed "lychway/lychwaytop.TopCalm" = some 4 by kernel_rfl).symm.trans hf) |>.symm;obtain rfl:fn=Tryz.f4:=(Zj (Tryz.func4.symm.trans hfn)).symm;refine ⟨by kernel_rfl,λj t ht=>?_⟩;rw [Tryz.params4] at ht;have hm:=Array.mem_of_getElem? ht;simp at hm
 first
  | (obtain rfl:=hm; exact (show Tryz.prog.wantsStandIn _=false by kernel_rfl))
  | (rcases hm with rfl | rfl <;> exact (show Tryz.prog.wantsStandIn _=false by kernel_rfl))
  | (rcases hm with rfl | rfl | rfl <;> exact (show Tryz.prog.wantsStandIn _=false by kernel_rfl))
  | (rcases hm with rfl | rfl | rfl | rfl <;> exact (show Tryz.prog.wantsStandIn _=false by kernel_rfl))
end topCalmLaw
theorem topCalm_holds:Rows.TopCalmCardSaid :=
 Claim7.holds_tied_plain_at .later [] _ _ _ _ topCalmLaw.said (λ_ h=>by cases h) (by kernel_rfl) (λ_ h=>by cases h) topCalm_row_tie rfl ⟨rfl,rfl⟩ (by kernel_rfl) rfl topCalmLaw.plain (by kernel_rfl)
#print axioms topCalm_holds
end Go.Proofs.YthgcgciceejicaaGreatDoor
