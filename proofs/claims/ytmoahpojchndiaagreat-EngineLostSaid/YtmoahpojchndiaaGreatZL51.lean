/-
  For all raw things and numbers EngineLost returns true: if nobody ever answers, all calls are given up in time. No condition.
-/
import Derived.Test.YtmoahpojchndiaaGreatZL9
import Derived.Test.YtmoahpojchndiaaGreatZL48
import Derived.Test.YtmoahpojchndiaaGreatZL46
import Derived.Test.YtmoahpojchndiaaGreatZL50
set_option maxRecDepth 100000
namespace Go.Proofs.YtmoahpojchndiaaGreat
open Go.RowKit
set_option linter.unusedVariables false
theorem begE_lost (l:List RawD) {p:Pol} (hp:p.ok):Lst (iQ l) p (rhoL (fW (iQ l).fields)) (lvF l) 0 (begE l p):=by
 have h0:=newE_ok (form_okFm l) (form_one l) hp
 have e:∀ c∈(newE (iQ l) p).calls,c=clZ:=fun c hc=>(List.mem_replicate.1 hc).2
 have hla:=newE_last (form_okFm l) (form_one l) hp
 have hok:=begE_ok l hp
 refine ⟨hok,begE_settled l hp,rfl,rfl,rfl,by show (0:Int)≤_; simp,by show (gY (newE (iQ l) p) _).last≤_; omega,fun c hc hs=>?_,fun i f c hf h3 hc=>?_⟩
 ·obtain ⟨i,hi⟩:=List.getElem?_of_mem hc
  have hil:i < (iQ l).fields.length:=by
   have:=(List.getElem?_eq_some_iff.1 hi).1
   rw [hok.calls.len] at this; exact this
  obtain ⟨f,hf⟩:∃ f,(iQ l).fields[i]?=some f:=⟨_,List.getElem?_eq_getElem hil⟩
  by_cases h3:f.kind=3
  ·obtain ⟨d,hd⟩:∃ d,(newE (iQ l) p).calls[i]?=some d:=⟨_,List.getElem?_eq_getElem (by rw [h0.calls.len]; exact hil)⟩
   obtain ⟨id,-,q⟩:=set_call h0 (by omega) hf h3 hd
   have q:(begE l p).calls[i]?=_:=q
   rw [hi] at q
   rw [Option.some.inj q] at hs ⊢
   rw [e d (List.mem_of_getElem? hd)] at hs ⊢
   exact turn_soon hp (fun z=>absurd (show (0:Int)=1 from z) (by decide)) hs
  ·obtain ⟨d1,d2,-⟩:=hok.calls.at_ i f c hf hi
   exact absurd (d2 (by omega)).1 h3
 ·obtain ⟨d1,d2,-⟩:=hok.calls.at_ i f c hf hc
  refine d1.idle ?_
  by_cases q:c.st=0
  ·exact q
  ·exact absurd (d2 q).1 h3
set_option maxHeartbeats 1000000 in
theorem engineLost_c (l:List RawD) (sl:Value) (a b:Int) (h:Vw) (hl:RS h 4 sl (l.map RawD.cs)) (ll:l.length * 40≤reachBytes) (ol:∀ r∈l,r.ok) (a0 : -9223372036854775808≤a) (a1:a≤9223372036854775807) (b0 : -9223372036854775808≤b) (b1:b≤9223372036854775807) :
  C0 Tryz.prog 3 #[sl,.int .i64 a,.int .i64 b] h (fun v _=>v=.bool true):=by
 have hPol:=fun H=>c_policy a b 30 H a0 a1 b0 b1 (by decide) (by decide)
 have hp:=polE_ok a b 30
 generalize polE a b 30=P at *
 have hB:=fun H q=>begun_any l sl P hp H q ll ol
 have h0:=begE_lost l hp
 generalize rhoL (fW (iQ l).fields)=ρ at *
 generalize lvF l=lv at *
 generalize iQ l=fm at *
 generalize begE l P=E0 at *
 generalize begL l P=lt0 at *
 obtain ⟨hL,hD⟩:=lost_done h0 hp
 have few:=h0.ok.fm.fields.few
 have one:=h0.ok.one
 rw [h0.efm] at few one
 have t1:=hp.t1
 have t6:=hp.t6
 have hcm:=hp.cm
 have hbc:=hp.bc
 have hb1:=hp.b1
 obtain ⟨M,hM⟩:∃ M,P.t.toNat * fm.fields.length=M:=⟨_,rfl⟩
 have hMi:P.t * (fm.fields.length:Int)=(M:Int):=by rw [← hM,Int.natCast_mul,Int.toNat_of_nonneg (by omega)]
 have hM100:M≤100:=by
  have:P.t.toNat * fm.fields.length≤6 * 14:=Nat.mul_le_mul (by omega) few
  omega
 have hz:lostE ρ P.c E0 0=E0:=rfl
 have hT:∀ m,m < M→∀ w H,IsEng H w (lostE ρ P.c E0 m)→C0 Tryz.prog 15 #[.agg #[.slice (sA (agJ 0 w)) (sN (agJ 0 w)) (sC (agJ 0 w)),.slice (sA (agJ 1 w)) (sN (agJ 1 w)) (sC (agJ 1 w)),.int .i64 ((lostE ρ P.c E0 m).pol).t,.int .i64 ((lostE ρ P.c E0 m).pol).b,.int .i64 ((lostE ρ P.c E0 m).pol).c,.slice (sA (agJ 2 w)) (sN (agJ 2 w)) (sC (agJ 2 w)),.slice (sA (agJ 3 w)) (sN (agJ 3 w)) (sC (agJ 3 w)),.slice (sA (agJ 4 w)) (sN (agJ 4 w)) (sC (agJ 4 w)),.int .i64 (lostE ρ P.c E0 m).now,.int .i64 (lostE ρ P.c E0 m).last],.int .i64 P.c] H (fun r h'=>∃ lt,TelR (lostE ρ P.c E0 (m + 1)) lt r h'):=fun m hm w H q=>by
  have I:=hL m (by omega)
  have hn:=I.now
  have hla:=I.last
  have hnm:P.c * (m:Int)≤1000 * 100:=Int.mul_le_mul hcm (by omega) (by omega) (by omega)
  have h1:=tickE_ok I.ok (n:=P.c) (by omega) (by omega)
  have:=(setE_few h1).2.1
  have e2:(tY (lostE ρ P.c E0 m) P.c).last=(lostE ρ P.c E0 m).last:=rfl
  exact (tick_any _ ρ lv I.ok I.se P.c (by omega) (by omega) (by omega) (by omega) w H q).mono fun r h' _ z=>⟨_,z⟩
 have hfm:∀ m,m≤M→(lostE ρ P.c E0 m).fm=fm:=fun m q=>(hL m (by omega)).efm
 have hend:=hD M hM hM100
 have hcl:=(hL M hM100).ok.calls.len
 have hvl:=(hL M hM100).ok.vlen
 have hpd:=none_pending (hL M hM100).ok (hL M hM100).se hend
 rw [hfm M (Nat.le_refl _)] at hcl hvl
 have hMs:∀ (W:Vw) (u:Value),TelF W u E0 lt0→P.t * (sN (agJ 0 u):Int)=(M:Int):=fun W u q=>by
  obtain ⟨vs,A,c,e0,-⟩:=cQ q.eng.form.fields
  rw [h0.efm] at e0
  simp only [Value.slice.injEq] at e0
  rw [e0.2.1,hMi]
 clear hL hD
 generalize hn:fm.fields.length=n at *
 obtain ⟨A0,c0,rfl,-,-,-⟩:=hl.form
 rw [List.length_map] at *
 generalize l.length=len at *
 refine oQ Tryz.func3 (c:=Tryz.f3.body.getD .skip) (N:=70) ?_
 intro hbx hbad Q hQ
 refine go1 18 [.cl 13 #[Vi a,Vi b,Vi 30] (.agg #[Vi P.t,Vi P.b,Vi P.c]),.own,.b 0 0,.b 0 0] [] ?_ (ho:=(And.intro (fun H sH=>hPol _) (trivial)))
 intro b1
 refine lQ (fun H sH=>hB _ (hl.sees sH)) ?_; rintro _ W2 S3 ⟨ue,rfl,hte⟩
 refine go1 34 [.own,.b 0 0,.b 1 0,.b 0 0] [(34,Vi (IntKind.i64.wrap (P.t * (sN (agJ 0 ue):Int))),Vi (M:Int))] ?_ (hc:=(And.intro ((congrArg (fun z=>Value.int .i64 (IntKind.i64.wrap z)) (hMs _ _ hte)).trans (jJ (by omega) (by omega))) (trivial)))
 intro ben
 refine wQ [0,1,0,1,1,1,1] [.block 0,.seq [1,1,1,1,1]] (fun (k:Nat) X=>∃ (W4:Vw) (ug:Value) (E:Eg),X W4 [(7,Vp b1),(8,Vp ben),(34,Vi (M:Int)),(35,Vi (k:Int))] [.box ben [.slice (sA (agJ 0 ug)) (sN (agJ 0 ug)) (sC (agJ 0 ug)),.slice (sA (agJ 1 ug)) (sN (agJ 1 ug)) (sC (agJ 1 ug)),Vi E.pol.t,Vi E.pol.b,Vi E.pol.c,.slice (sA (agJ 2 ug)) (sN (agJ 2 ug)) (sC (agJ 2 ug)),.slice (sA (agJ 3 ug)) (sN (agJ 3 ug)) (sC (agJ 3 ug)),.slice (sA (agJ 4 ug)) (sN (agJ 4 ug)) (sC (agJ 4 ug)),Vi E.now,Vi E.last],.box b1 [Vi P.t,Vi P.b,Vi P.c]] []∧Sees W2 W4∧(k≤M)∧(lostE ρ P.c E0 k=E)∧(IsEng W4 ug E)) (fun k=>M - k) (0) (fun X q=>⟨W2,ue,E0,q _ _ _ _ ⟨rfl,by kernel_rfl⟩,Sees.refl _,Nat.zero_le _,hz,(hte).eng⟩) ?_
 rintro k a w ⟨W4,ug,E,hJ,S5,hk,hEk,hE⟩; refine aV hJ ?_; clear hJ a w
 refine go0 6 [] [] ?_
 rcases (by omega:k < M∨k=M) with hlt | hke
 ·have hTk:=hT k hlt
  rw [hEk] at hTk
  refine eV (t:=decide ((k:Int) < (M:Int))) (decide_eq_true (by omega)) ?_
  refine go0 9 [.b 0 0,.b 1 2] [] ?_
  refine lQ (fun H sH=>hTk _ _ (hE.sees sH)) ?_; rintro _ W6 S7 ⟨lt,u37,rfl,f37⟩
  refine go1 30 [.own,.b 0 0,.b 0 0,.b 1 0] [(48,Vi (IntKind.i64.wrap ((k:Int) + 1)),Vi ((k:Int) + 1))] ?_ (hc:=(And.intro (jJ (by omega) (by omega)) (trivial)))
  intro b8
  exact dV (k + 1) (fun X q=>⟨W6,u37,(lostE ρ P.c E0 (k + 1)),q _ _ _ _ ⟨rfl,by kernel_rfl⟩,(S5.trans S7),by omega,rfl,(f37).eng⟩) (by omega)
 ·skip
  rw [hke] at hEk
  rw [hEk] at hend hcl hvl hpd
  obtain ⟨A3,c3,e3,-⟩:=hE.calls.form
  obtain ⟨A4,c4,e4,-⟩:=hE.vals.form
  have hC:=hE.calls
  have hV:=hE.vals
  rw [List.length_map] at e3 e4
  rw [hcl] at e3
  rw [hvl] at e4
  have hn3:sN (agJ 3 ug)=n:=by simp only [Value.slice.injEq] at e3; exact e3.2.1
  rw [e3] at hC
  rw [e4] at hV
  refine qQ (t:=decide ((k:Int) < (M:Int))) (decide_eq_false (by omega)) ?_
  refine go0 2 [] [] ?_
  refine vQ ?_
  refine go0 12 [.b 0 6] [] ?_
  rw [e3,e4]
  refine wQ [0,1,0,1,1,1,1,1] [.block 2,.seq [1,1,1,1,1,1]] (fun (j:Nat) X=>∃ (W9:Vw) ,X W9 [(8,Vp ben),(50,.slice A3 n c3),(51,Vi (n:Int)),(52,Vi (j:Int))] [.box ben [.slice (sA (agJ 0 ug)) (sN (agJ 0 ug)) (sC (agJ 0 ug)),.slice (sA (agJ 1 ug)) (sN (agJ 1 ug)) (sC (agJ 1 ug)),Vi E.pol.t,Vi E.pol.b,Vi E.pol.c,.slice (sA (agJ 2 ug)) (sN (agJ 2 ug)) (sC (agJ 2 ug)),.slice A3 n c3,.slice A4 n c4,Vi E.now,Vi E.last],.box b1 [Vi P.t,Vi P.b,Vi P.c]] []∧Sees W4 W9∧(j≤n)) (fun j=>n - j) (0) (fun X q=>⟨W4,q _ _ _ _ ⟨rfl,by kernel_rfl⟩,Sees.refl _,Nat.zero_le _⟩) ?_
  rintro j a w ⟨W9,hJ,S10,hj⟩; refine aV hJ ?_; clear hJ a w
  refine go0 6 [] [] ?_
  rcases (by omega:j < n∨j=n) with hlt2 | hke2
  ·obtain ⟨x,hx⟩:∃ x,E.calls[j]?=some x:=⟨_,List.getElem?_eq_getElem (by omega)⟩
   obtain ⟨v,hv⟩:∃ x,E.vals[j]?=some x:=⟨_,List.getElem?_eq_getElem (by omega)⟩
   have hcr:=clRows_get hx
   have hvr:=vlRows_get hv
   have hx1:=hend x (List.mem_of_getElem? hx)
   have hv4:=hpd v (List.mem_of_getElem? hv)
   refine eV (t:=decide ((j:Int) < (n:Int))) (decide_eq_true (by omega)) ?_
   refine go0 7 [] [] ?_
   obtain ⟨b11,o12,rfl,-,c13⟩:=RS.row hC (hcr)
   refine pQ (c13.sees S10) ?_
   refine go1 13 [.ix b11 o12 n c3 j,.f 0 0,.own,.b 0 0,.b 0 0] [] ?_ (ho:=(And.intro (by first | omega | (simp; omega)) (trivial)))
   intro b14
   refine g_rew 60 (v:=.bool (x.st == 1)) (v':=.bool false) (congrArg Value.bool (beq_eq_false_iff_ne.2 hx1)) ?_
   refine go0 3 [.b 1 7] [] ?_
   obtain ⟨b15,o16,rfl,-,c17⟩:=RS.row hV (hvr)
   refine pQ (c17.sees S10) ?_
   refine go0 7 [.ix b15 o16 n c4 j,.f 0 0] [] ?_ (ho:=(And.intro (by first | omega | (simp; omega)) (trivial)))
   refine qQ (t:=v.k == 4) (beq_eq_false_iff_ne.2 hv4) ?_
   refine go0 7 [] [(69,Vi (IntKind.i64.wrap ((j:Int) + 1)),Vi ((j:Int) + 1))] ?_ (hc:=(And.intro (jJ (by omega) (by omega)) (trivial)))
   exact dV (j + 1) (fun X q=>⟨W9,q _ _ _ _ ⟨rfl,by kernel_rfl⟩,S10,by omega⟩) (by omega)
  ·skip
   refine qQ (t:=decide ((j:Int) < (n:Int))) (decide_eq_false (by omega)) ?_
   refine go0 2 [] [] ?_
   refine vQ ?_
   refine go0 8 [] [] ?_
   refine hQ.to [.bool true] (fun H sH=>?_)
   exact rfl
theorem engineLost_walk (v:Value) (l:List RawD) (a b:Int) (w:World) (h:RawsOf w v l) (a0 : -9223372036854775808≤a) (a1:a≤9223372036854775807) (b0 : -9223372036854775808≤b) (b1:b≤9223372036854775807) :
  Calls Tryz.prog 3 #[v,.int .i64 a,.int .i64 b] w fun e w'=>e=.returned (.bool true)∧Below w.heap.size w w' :=
 C0.law (engineLost_c l v a b ⟨w,[]⟩ h.rs h.2.1 h.2.2 a0 a1 b0 b1)
namespace engineLostLaw
open Go.ChangeShapes Go.WideShapes Go.ChangeAt Go.RowKit
open Go.ChangeMaps (open_string shut_string)
set_option linter.unusedVariables false
theorem lifted (os:Os) (started:os.Started) (H:Type) (enc:TypeId × Value→H) :
  ReturnsInHanded {} Tryz.checked os 3 .any (Rows.engineLostSpec.pre6 enc Tryz.prog Tryz.f3 Rows.engineLostRow.domain false) (Rows.engineLostSpec.post enc Tryz.prog Tryz.f3 false true false false):=by
 refine returnsInHanded_of_change_sized (C:=Tryz.checked) ownNone started (by kernel_rfl) Tryz.func3
  (ChangeSpec.witness6 (enc:=enc) (C:=Tryz.checked) false ⟨#[],#[.slice none 0 0,.int .i64 0,.int .i64 0],[]⟩ 8 (by kernel_rfl) (by kernel_rfl) (by kernel_rfl) (by kernel_rfl)) ?_
 intro W base args ds gs before hval0 hW hcnd hsz0 _
 have hval:∀ (j:Nat) t v,Tryz.f3.params[j]?=some t→args[j]?=some v→Value.okWide Tryz.prog W .any base t v:=hval0
 have hsz:(DataW.weightsEach Tryz.prog (Tryz.f3.params.toList++Rows.engineLostSpec.plain.varTypes Tryz.prog) (ds++gs)).all (· ≤ reachBytes)=true:=hsz0
 have hW':=hW
 obtain ⟨p,q,hA0,hV,rfl,hfz,hnd⟩:=hW
 have hA:DataW.TrodAll enc Tryz.prog W 0 (fun _=>true) true Tryz.f3.params.toList args.toList ds p:=hA0
 rw [Tryz.params3] at hA hval hsz
 obtain ⟨v0,vs0,d0,ds0,p0,q0,hargs,rfl,rfl,h0,r0⟩:=trodAll_cons hA
 obtain ⟨v1,vs1,d1,ds1,p1,q1,rfl,rfl,rfl,h1,r1⟩:=trodAll_cons r0
 obtain ⟨v2,vs2,d2,ds2,p2,q2,rfl,rfl,rfl,h2,r2⟩:=trodAll_cons r1
 obtain ⟨rfl,rfl,rfl⟩:=trodAll_nil r2
 obtain rfl:args=#[v0,v1,v2]:=by cases args; simp_all
 obtain ⟨rfl,rfl⟩:=trodVars_none hV
 have k0:=h0
 have lt0:∀ x∈p0,x.block < W.heap.size:=by obtain ⟨m,hm⟩:=k0; exact DataW.trod_lt m _ _ _ hm
 obtain ⟨a0,w0⟩:=open_rows (hval 0 22 v0 rfl rfl) h0 (fun es ss hd=>sized_slice hsz (j:=0) (t:=22) (elems:=es) (spare:=ss) rfl (by rw [hd]; rfl) Tryz.underlying22)
 have k1:=h1
 have lt1:∀ x∈p1,x.block < W.heap.size:=by obtain ⟨m,hm⟩:=k1; exact DataW.trod_lt m _ _ _ hm
 obtain ⟨a1,rfl,-,-,w1⟩:=open_int Tryz.underlying3 (hval 1 3 v1 rfl rfl) h1
 have k2:=h2
 have lt2:∀ x∈p2,x.block < W.heap.size:=by obtain ⟨m,hm⟩:=k2; exact DataW.trod_lt m _ _ _ hm
 obtain ⟨a2,rfl,-,-,w2⟩:=open_int Tryz.underlying3 (hval 2 3 v2 rfl rfl) h2
 clear hA0 hval0 hsz0
 refine (engineLost_walk v0 a0 a1 a2 W w0 (int_lo w1) (int_hi w1) (int_lo w2) (int_hi w2)).mono fun e W' ⟨he,bel⟩=>?_
 subst he
 exact ⟨_,rfl,_,_,_,[],_,[],hW',trodAll_mk1 (shut_bool Tryz.underlying4 _),(trodAll_cons_mk (Below.trod laidOutTrue (by kernel_rfl) (of_decide_eq_true (by kernel_rfl)) k0 bel lt0) (trodAll_cons_mk (Below.trod laidOutTrue (by kernel_rfl) (of_decide_eq_true (by kernel_rfl)) k1 bel lt1) (trodAll_cons_mk (Below.trod laidOutTrue (by kernel_rfl) (of_decide_eq_true (by kernel_rfl)) k2 bel lt2) trodAll_mk0))),rfl,bel.frame _,fun h=>by cases h⟩
theorem over:Rows.engineLostRow.holds Tryz.pinned (OpenSpec.ofChange Rows.engineLostSpec) :=
 OpenClaim.holds_of_wide 3 Tryz.f3 rfl rfl rfl rfl rfl rfl rfl ⟨rfl,rfl,rfl,rfl,rfl⟩ rfl rfl rfl rfl rfl (by kernel_rfl) Tryz.func3 (by kernel_rfl)
  (of_decide_eq_true (by kernel_rfl)) (by unfold Func.isWrapper; first | (rw [if_pos (by decide +kernel)]; kernel_rfl) | (rw [if_neg (by decide +kernel)]; exact ⟨rfl,rfl⟩))
  (fun os started H enc _=>lifted os started H enc)
end engineLostLaw
theorem engineLost_holds:Rows.EngineLostSaid:=engineLostLaw.over
#print axioms engineLost_holds
end Go.Proofs.YtmoahpojchndiaaGreat
