/-
  For all raw things, numbers and both orders EngineQuiet returns true: where nothing is asked time changes nothing but the time. No condition.
-/
import Derived.Test.YtmoahpojchndiaaGreatZQ9
import Derived.Test.YtmoahpojchndiaaGreatZQ51
import Derived.Test.YtmoahpojchndiaaGreatZQ47
import Derived.Test.YtmoahpojchndiaaGreatZQ52
set_option maxRecDepth 100000
namespace Go.Proofs.YtmoahpojchndiaaGreat
open Go.RowKit
set_option linter.unusedVariables false
theorem wakeL_id {p:Pol} {now:Int} {cs:List Cl} (h:∀ c∈cs,c.st≠1):lZ p now cs=cs:=by
 unfold lZ
 refine (List.map_congr_left fun c hc=>?_).trans (List.map_id cs)
 rw [mZ (.inl (h c hc))]; rfl
theorem askT_id {p:Pol} {now:Int}:∀ {fs:List Fd} {cs:List Cl},(∀ c∈cs,c.st≠1)→askT p now fs cs=[]
 | [],_,_=>rfl
 | _ :: _,[],_=>rfl
 | f :: fs,c :: cs,h=>by
  show (if (kZ p now c).2=true then _ else [])++askT p now fs cs=[]
  rw [askT_id (fun d hd=>h d (by simp [hd])),mZ (.inl (h c (by simp))),if_neg (show ¬ (false=true) from Bool.false_ne_true)]; rfl
theorem quiet_set {E:Eg} {ρ:List Int} {lv:Nat→Nat} (hok:EgOk E ρ lv) (hse:Settled E ρ) (hno:∀ c∈E.calls,c.st≠1) (dt:Int):oY (dZ E dt) ρ={ E with now:=E.now + dt }∧tickT E dt++(nY (dZ E dt) ρ).out=[]∧(nY (dZ E dt) ρ).last=E.last:=by
 obtain ⟨kn,hkn⟩:=hse
 have few:=hok.fm.fields.few
 have one:=hok.one
 have hod:Ordd E.fm.fields ρ lv (zW ρ E.fm.fields.length):=aX hok.fm.rank (by omega)
 have h:=runS_fix E.fm.fields E.pol E.now E.inp ⟨E.calls,E.vals,[],E.last,[]⟩ (ordL_nodup hod) hok.calls.len hok.vlen rfl (E.now + dt) E.last _ (Nat.le_refl _)
 rw [hkn,List.take_length,hkn] at h
 have e:dZ E dt={ E with now:=E.now + dt }:=by unfold dZ; rw [wakeL_id hno]
 have e2:tickT E dt=[]:=askT_id hno
 have e3:nY (dZ E dt) ρ=⟨E.calls,E.vals,kn,E.last,[]⟩:=by rw [e]; exact h
 unfold oY
 rw [e3,e2,e]
 exact ⟨rfl,rfl,rfl⟩
theorem tick_quiet {E:Eg} {ρ:List Int} {lv:Nat→Nat} (hok:EgOk E ρ lv) (hse:Settled E ρ) (hno:∀ c∈E.calls,c.st≠1) (dt:Int) (d1:1≤dt) (d2:dt≤1000) (d3:E.now + dt≤1073741824) {A:Option Addr} {n c:Nat} {u:Value} {h:Vw} (k:EngF h A n c u E) :
  C0 Tryz.prog 15 #[.agg #[.slice A n c,.slice (sA (agJ 1 u)) (sN (agJ 1 u)) (sC (agJ 1 u)),.int .i64 E.pol.t,.int .i64 E.pol.b,.int .i64 E.pol.c,.slice (sA (agJ 2 u)) (sN (agJ 2 u)) (sC (agJ 2 u)),.slice (sA (agJ 3 u)) (sN (agJ 3 u)) (sC (agJ 3 u)),.slice (sA (agJ 4 u)) (sN (agJ 4 u)) (sC (agJ 4 u)),.int .i64 E.now,.int .i64 E.last],.int .i64 dt] h (fun r h'=>∃ (u':Value) (A6:Option Addr) (c6:Nat),r=.tuple #[.agg #[.slice (sA (agJ 0 u')) (sN (agJ 0 u')) (sC (agJ 0 u')),.slice (sA (agJ 1 u')) (sN (agJ 1 u')) (sC (agJ 1 u')),.int .i64 E.pol.t,.int .i64 E.pol.b,.int .i64 E.pol.c,.slice (sA (agJ 2 u')) (sN (agJ 2 u')) (sC (agJ 2 u')),.slice (sA (agJ 3 u')) (sN (agJ 3 u')) (sC (agJ 3 u')),.slice (sA (agJ 4 u')) (sN (agJ 4 u')) (sC (agJ 4 u')),.int .i64 (E.now + dt),.int .i64 E.last],.slice A6 0 c6,.int .i64 0]∧IsEng h' u' E):=by
 obtain ⟨w,hE,e0,e1,e2,e3,e4⟩:=k.at_
 obtain ⟨q1,q2,q3⟩:=quiet_set hok hse hno dt
 have hk:=tick_any E ρ lv hok hse dt d1 d2 d3 (by rw [q3]; exact hok.l1) w h hE
 rw [e0,e1,e2,e3,e4,q1,q2] at hk
 refine hk.mono fun r h' _=>?_
 rintro ⟨u',rfl,q⟩
 obtain ⟨A6,c6,e,-⟩:=q.out.form
 have e:(.slice (sA (agJ 5 u')) (sN (agJ 5 u')) (sC (agJ 5 u')):Value)=.slice A6 0 c6:=e
 rw [e]
 exact ⟨u',A6,c6,rfl,⟨q.eng.form,q.eng.inp,q.eng.calls,q.eng.vals⟩⟩
theorem same_quiet {E:Eg} {ρ:List Int} {lv:Nat→Nat} (hok:EgOk E ρ lv) {A:Option Addr} {n c:Nat} {u u':Value} {h:Vw} (k:EngF h A n c u E) (k':IsEng h u' E) :
  C0 Tryz.prog 17 #[.agg #[.slice A n c,.slice (sA (agJ 1 u)) (sN (agJ 1 u)) (sC (agJ 1 u)),.int .i64 E.pol.t,.int .i64 E.pol.b,.int .i64 E.pol.c,.slice (sA (agJ 2 u)) (sN (agJ 2 u)) (sC (agJ 2 u)),.slice (sA (agJ 3 u)) (sN (agJ 3 u)) (sC (agJ 3 u)),.slice (sA (agJ 4 u)) (sN (agJ 4 u)) (sC (agJ 4 u)),.int .i64 E.now,.int .i64 E.last],.agg #[.slice (sA (agJ 0 u')) (sN (agJ 0 u')) (sC (agJ 0 u')),.slice (sA (agJ 1 u')) (sN (agJ 1 u')) (sC (agJ 1 u')),.int .i64 E.pol.t,.int .i64 E.pol.b,.int .i64 E.pol.c,.slice (sA (agJ 2 u')) (sN (agJ 2 u')) (sC (agJ 2 u')),.slice (sA (agJ 3 u')) (sN (agJ 3 u')) (sC (agJ 3 u')),.slice (sA (agJ 4 u')) (sN (agJ 4 u')) (sC (agJ 4 u')),.int .i64 E.now,.int .i64 E.last]] h (fun r _=>r=.bool true):=by
 obtain ⟨w,hE,e0,e1,e2,e3,e4⟩:=k.at_
 have hk:=sameEng_any E ρ lv hok w u' h hE k'
 rw [e0,e1,e2,e3,e4] at hk
 exact hk
set_option maxHeartbeats 1000000 in
theorem engineQuiet_c (l:List RawD) (sl:Value) (a:Int) (last:Bool) (h:Vw) (hl:RS h 4 sl (l.map RawD.cs)) (ll:l.length * 40≤reachBytes) (ol:∀ r∈l,r.ok) (a0 : -9223372036854775808≤a) (a1:a≤9223372036854775807) :
  C0 Tryz.prog 6 #[sl,.int .i64 a,.bool last] h (fun v _=>v=.bool true):=by
 have hPol:=fun H=>c_policy 3 10 30 H (by decide) (by decide) (by decide) (by decide) (by decide) (by decide)
 have hp:=polE_ok 3 10 30
 generalize polE 3 10 30=P at *
 have hB:=fun H q=>begun_any l sl P hp H q ll ol
 have hM0:=begE_m l hp
 have hK0:CalK (kQ l) P (rhoL (lW (kQ l).fields)) (lvF l) 0 (begE l P) (begL l P):=⟨hM0,calI_beg (form_okFm l) (form_one l) hp,Nat.zero_le _⟩
 have hCa:=fun w su H q1 q2=>calm_any (kQ l) P _ _ (begE l P) (begL l P) hK0 last w su H q1 q2
 have hd0:=mX a 1000 (by omega)
 have hd1:=lX a 1000 (by omega)
 have hpa:=fun H=>aK a 1000 H a0 a1 (by decide) (by decide)
 generalize cJ a 1000=d at *
 generalize rhoL (lW (kQ l).fields)=ρ at *
 generalize lvF l=lv at *
 generalize kQ l=fm at *
 clear hK0 hM0
 generalize begE l P=E0 at *
 generalize begL l P=lt0 at *
 obtain ⟨A0,c0,rfl,-,-,-⟩:=hl.form
 rw [List.length_map] at *
 generalize l.length=len at *
 generalize hn:fm.fields.length=n at *
 refine qQ Tryz.func6 (c:=Tryz.f6.body.getD .skip) (N:=67) ?_
 intro hbx hbad Q hQ
 refine go0 9 [.cl 13 #[Vi 3,Vi 10,Vi 30] (.agg #[Vi P.t,Vi P.b,Vi P.c])] [] ?_ (ho:=(And.intro (fun H sH=>hPol _) (trivial)))
 refine nQ (fun H sH=>hB _ (hl.sees sH)) ?_; rintro _ W1 S2 ⟨ue,rfl,hte⟩
 refine go1 15 [.own,.b 0 0,.b 0 0] [] ?_
 intro b3
 refine nQ (fun H sH=>hCa _ _ _ ((hte.sees sH)).eng ((hte.sees sH)).out) ?_; rintro _ W4 S5 ⟨E,k,A,c,u,rfl,hK,hE⟩
 refine go1 34 [.own,.b 0 0,.cl 19 #[Vi a,Vi 1000] (Vi d),.b 0 0] [(37,Vi (IntKind.i64.wrap (1 + d)),Vi (1 + d))] ?_ (ho:=(And.intro (fun H sH=>hpa _) (trivial))) (hc:=(And.intro (jJ (by omega) (by omega)) (trivial)))
 intro bxx
 have hM:=hK.m
 have hkf:=hK.few
 have hno:=calI_none hM.ok hK.i
 have hnw:=hM.now
 have hn0:=hM.ok.n0
 have hTk:=fun H q=>tick_quiet (h:=H) (A:=A) (n:=n) (c:=c) (u:=u) hM.ok hM.se hno (1 + d) (by omega) (by omega) (by omega) q
 have hSm:=fun u' H q1 q2=>same_quiet (h:=H) (A:=A) (n:=n) (c:=c) (u:=u) (u':=u') hM.ok q1 q2
 refine nQ (fun H sH=>hTk _ (hE.sees sH)) ?_; rintro _ W6 S7 ⟨u2,A6,c6,rfl,hE2⟩
 refine go1 31 [.own,.b 0 0,.b 0 8,.b 1 8] [(58,Vi (IntKind.i64.wrap (E.now + (1 + d))),Vi (E.now + (1 + d)))] ?_ (hc:=(And.intro (jJ (by omega) (by omega)) (trivial)))
 intro byy
 refine uQ (t:=(E.now + (1 + d)) != (E.now + (1 + d))) ((by simp)) ?_
 refine go0 14 [.b 1 8,.b 0 8,.b 1 0,.b 0 0] [] ?_
 refine go0 5 [.cl 17 #[.agg #[.slice A n c,.slice (sA (agJ 1 u)) (sN (agJ 1 u)) (sC (agJ 1 u)),Vi E.pol.t,Vi E.pol.b,Vi E.pol.c,.slice (sA (agJ 2 u)) (sN (agJ 2 u)) (sC (agJ 2 u)),.slice (sA (agJ 3 u)) (sN (agJ 3 u)) (sC (agJ 3 u)),.slice (sA (agJ 4 u)) (sN (agJ 4 u)) (sC (agJ 4 u)),Vi E.now,Vi E.last],.agg #[.slice (sA (agJ 0 u2)) (sN (agJ 0 u2)) (sC (agJ 0 u2)),.slice (sA (agJ 1 u2)) (sN (agJ 1 u2)) (sC (agJ 1 u2)),Vi E.pol.t,Vi E.pol.b,Vi E.pol.c,.slice (sA (agJ 2 u2)) (sN (agJ 2 u2)) (sC (agJ 2 u2)),.slice (sA (agJ 3 u2)) (sN (agJ 3 u2)) (sC (agJ 3 u2)),.slice (sA (agJ 4 u2)) (sN (agJ 4 u2)) (sC (agJ 4 u2)),Vi E.now,Vi E.last]] (.bool true)] [] ?_ (ho:=(And.intro (fun H sH=>hSm _ _ (hE.sees (S7.trans sH)) (hE2.sees sH)) (trivial)))
 refine hQ.to [.bool true] (fun H sH=>?_)
 exact rfl
theorem engineQuiet_walk (v:Value) (l:List RawD) (a:Int) (b:Bool) (w:World) (h:RawsOf w v l) (a0 : -9223372036854775808≤a) (a1:a≤9223372036854775807) :
  Calls Tryz.prog 6 #[v,.int .i64 a,.bool b] w fun e w'=>e=.returned (.bool true)∧Below w.heap.size w w' :=
 C0.law (engineQuiet_c l v a b ⟨w,[]⟩ h.rs h.2.1 h.2.2 a0 a1)
namespace engineQuietLaw
open Go.ChangeShapes Go.WideShapes Go.ChangeAt Go.RowKit
open Go.ChangeMaps (open_string shut_string)
set_option linter.unusedVariables false
theorem lifted (os:Os) (started:os.Started) (H:Type) (enc:TypeId × Value→H) :
  ReturnsInHanded {} Tryz.checked os 6 .any (Rows.engineQuietSpec.pre6 enc Tryz.prog Tryz.f6 Rows.engineQuietRow.domain false) (Rows.engineQuietSpec.post enc Tryz.prog Tryz.f6 false true false false):=by
 refine returnsInHanded_of_change_sized (C:=Tryz.checked) ownNone started (by kernel_rfl) Tryz.func6
  (ChangeSpec.witness6 (enc:=enc) (C:=Tryz.checked) false ⟨#[],#[.slice none 0 0,.int .i64 0,.bool false],[]⟩ 8 (by kernel_rfl) (by kernel_rfl) (by kernel_rfl) (by kernel_rfl)) ?_
 intro W base args ds gs before hval0 hW hcnd hsz0 _
 have hval:∀ (j:Nat) t v,Tryz.f6.params[j]?=some t→args[j]?=some v→Value.okWide Tryz.prog W .any base t v:=hval0
 have hsz:(DataW.weightsEach Tryz.prog (Tryz.f6.params.toList++Rows.engineQuietSpec.plain.varTypes Tryz.prog) (ds++gs)).all (· ≤ reachBytes)=true:=hsz0
 have hW':=hW
 obtain ⟨p,q,hA0,hV,rfl,hfz,hnd⟩:=hW
 have hA:DataW.TrodAll enc Tryz.prog W 0 (fun _=>true) true Tryz.f6.params.toList args.toList ds p:=hA0
 rw [Tryz.params6] at hA hval hsz
 obtain ⟨v0,vs0,d0,ds0,p0,q0,hargs,rfl,rfl,h0,r0⟩:=trodAll_cons hA
 obtain ⟨v1,vs1,d1,ds1,p1,q1,rfl,rfl,rfl,h1,r1⟩:=trodAll_cons r0
 obtain ⟨v2,vs2,d2,ds2,p2,q2,rfl,rfl,rfl,h2,r2⟩:=trodAll_cons r1
 obtain ⟨rfl,rfl,rfl⟩:=trodAll_nil r2
 obtain rfl:args=#[v0,v1,v2]:=by cases args; simp_all
 obtain ⟨rfl,rfl⟩:=trodVars_none hV
 have k0:=h0
 have lt0:∀ x∈p0,x.block < W.heap.size:=by obtain ⟨m,hm⟩:=k0; exact DataW.trod_lt m _ _ _ hm
 obtain ⟨a0,w0⟩:=open_rows (hval 0 22 v0 rfl rfl) h0 (fun es ss hd=>sized_slice hsz (j:=0) (t:=22) (elems:=es) (spare:=ss) rfl (by rw [hd]; rfl) Tryz.underlying22)
 have k1:=h1
 have lt1:∀ x∈p1,x.block < W.heap.size:=by obtain ⟨m,hm⟩:=k1; exact DataW.trod_lt m _ _ _ hm
 obtain ⟨a1,rfl,-,-,w1⟩:=open_int Tryz.underlying3 (hval 1 3 v1 rfl rfl) h1
 have k2:=h2
 have lt2:∀ x∈p2,x.block < W.heap.size:=by obtain ⟨m,hm⟩:=k2; exact DataW.trod_lt m _ _ _ hm
 obtain ⟨a2,rfl,-,-⟩:=open_bool Tryz.underlying4 (hval 2 4 v2 rfl rfl) h2
 clear hA0 hval0 hsz0
 refine (engineQuiet_walk v0 a0 a1 a2 W w0 (int_lo w1) (int_hi w1)).mono fun e W' ⟨he,bel⟩=>?_
 subst he
 exact ⟨_,rfl,_,_,_,[],_,[],hW',trodAll_mk1 (shut_bool Tryz.underlying4 _),(trodAll_cons_mk (Below.trod laidOutTrue (by kernel_rfl) (of_decide_eq_true (by kernel_rfl)) k0 bel lt0) (trodAll_cons_mk (Below.trod laidOutTrue (by kernel_rfl) (of_decide_eq_true (by kernel_rfl)) k1 bel lt1) (trodAll_cons_mk (Below.trod laidOutTrue (by kernel_rfl) (of_decide_eq_true (by kernel_rfl)) k2 bel lt2) trodAll_mk0))),rfl,bel.frame _,fun h=>by cases h⟩
theorem over:Rows.engineQuietRow.holds Tryz.pinned (OpenSpec.ofChange Rows.engineQuietSpec) :=
 OpenClaim.holds_of_wide 6 Tryz.f6 rfl rfl rfl rfl rfl rfl rfl ⟨rfl,rfl,rfl,rfl,rfl⟩ rfl rfl rfl rfl rfl (by kernel_rfl) Tryz.func6 (by kernel_rfl)
  (of_decide_eq_true (by kernel_rfl)) (by unfold Func.isWrapper; first | (rw [if_pos (by decide +kernel)]; kernel_rfl) | (rw [if_neg (by decide +kernel)]; exact ⟨rfl,rfl⟩))
  (fun os started H enc _=>lifted os started H enc)
end engineQuietLaw
theorem engineQuiet_holds:Rows.EngineQuietSaid:=engineQuietLaw.over
#print axioms engineQuiet_holds
end Go.Proofs.YtmoahpojchndiaaGreat
