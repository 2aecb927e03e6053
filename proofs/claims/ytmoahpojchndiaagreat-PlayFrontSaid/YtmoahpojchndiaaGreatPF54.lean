/-
  For all raw things and numbers PlayFront returns true: what comes later is not seen in what was answered. No condition.
-/
import Derived.Test.YtmoahpojchndiaaGreatPF9
import Derived.Test.YtmoahpojchndiaaGreatPF52
import Derived.Test.YtmoahpojchndiaaGreatPF53
set_option maxHeartbeats 4000000
set_option maxRecDepth 100000
namespace Go.Proofs.YtmoahpojchndiaaGreat
open Go.RowKit
set_option linter.unusedVariables false
theorem equal_rpl (v v':Value) (l:List (Int × Nat)) (w:World) (h:Sl w 2 v (l.map rpRow)) (h':Sl w 2 v' (l.map rpRow)) (hl:l.length <= 9223372036854775806) :
  Calls Tryz.prog 37 #[v,v'] w (GivesE (.bool true) w):=by
 obtain ⟨A,cap,rfl,hcap,-⟩:=h.form
 obtain ⟨A',cap',rfl,hcap',-⟩:=h'.form
 rw [List.length_map] at *
 have HR:=Lib.hid h
 have HS:=Lib.hid h'
 clear h h'
 go_enter Tryz.func37,Tryz.ntmps37
 go_wp2_with fail
 go_loopw [13] (fun n wr=>∃ k:Nat,k <= l.length /\ n=Vi k /\ Evo w wr) (fun n _=>l.length - (intOf n).toNat)
 case atStart=>exact ⟨0,Nat.zero_le _,rfl,Evo.refl _⟩
 case round =>
  obtain ⟨k,hk,rfl,hb⟩:=hrel
  by_cases hlt:k < l.length
  ·obtain ⟨x,hd⟩:∃ x,l[k]?=some x:=⟨_,List.getElem?_eq_getElem hlt⟩
   obtain ⟨b,off,rfl,hbl,hc⟩:=HR.out.row (i:=k) (r:=rpRow x) (by rw [List.getElem?_map,hd]; rfl)
   have c0:∀ W,Evo w W -> W.cell? ⟨b,off + k * 2,none⟩=some _:=hc 0 _ rfl
   have c1:∀ W,Evo w W -> W.cell? ⟨b,off + k * 2 + 1,none⟩=some _:=hc 1 _ rfl
   obtain ⟨b',off',rfl,hbl',hc'⟩:=HS.out.row (i:=k) (r:=rpRow x) (by rw [List.getElem?_map,hd]; rfl)
   have d0:∀ W,Evo w W -> W.cell? ⟨b',off' + k * 2,none⟩=some _:=hc' 0 _ rfl
   have d1:∀ W,Evo w W -> W.cell? ⟨b',off' + k * 2 + 1,none⟩=some _:=hc' 1 _ rfl
   have k0:(0:Int) <= (k:Int):=by omega
   have k1:(k:Int) < (l.length:Int):=by omega
   clear hc hc' hd
   go_wp2_with fail
   go_quiet (fail)
   go_wp2_with fail
   go_roundw
   case rel=>exact ⟨k + 1,by omega,by go_num,by (first | assumption | (exact Evo.drew (Evo.refl _)) | (exact Evo.drew (by assumption)) | (exact Evo.drewN (by assumption) _) | (exact Evo.drewN (Evo.refl _) _) | (exact Evo.trans (by assumption) ⟨by assumption⟩) | (exact Evo.alloc (by assumption) _) | (exact Evo.trans (by assumption) hE))⟩
   case measure=>simp [intOf]; omega
  ·have hkn:k=l.length:=by omega
   subst hkn
   clear hlt hk
   go_wp2_with fail
   go_ret
   exact ⟨rfl,hb⟩
theorem c_equalRp {h:Vw} {v v':Value} {l:List (Int × Nat)} (hr:RS h 2 v (jY l)) (hr':RS h 2 v' (jY l)) (hl:l.length <= 1000):C0 Tryz.prog 37 #[v,v'] h (fun r _=>r=.bool true) :=
 C0.of_e (equal_rpl v v' l h.w (rs_sl hr) (rs_sl hr') (by omega))
theorem playFront_c (l m:List RawD) (sl sm:Value) (n:Int) (h:Vw) (hl:RS h 4 sl (l.map RawD.cs)) (hm:RS h 4 sm (m.map RawD.cs)) (ll:l.length * 40 <= reachBytes) (lm:m.length * 40 <= reachBytes) (ol:∀ r∈l,r.ok) (om:∀ r∈m,r.ok) (n0 : -9223372036854775808 <= n) (n1:n <= 9223372036854775807) :
  C0 Tryz.prog 9 #[sl,sm,Vi n] h (fun v _=>v=.bool true):=by
 have hPol:=fun H=>c_policy 3 10 30 H (by decide) (by decide) (by decide) (by decide) (by decide) (by decide)
 have hp:=polE_ok 3 10 30
 generalize polE 3 10 30=P at *
 have hFm:=fun H q=>form_u2 l sl H q ll ol
 have hEv:=fun u H q1 q2=>events_l l m 40 (by decide) om u sm H q1 q2 rfl
 have hel:=evs_len (gQ l).fields m 40
 have hes:=evs_l l m 40
 have hR:=fun (es:List Ev) (h1:∀ e∈es,e∈evsE (gQ l).fields m 40) (h2:es.length <= 80) u sv H q1 q2=>run_l l hp es (fun e he=>hes e (h1 e he)) h2 u sv H q1 q2
 generalize evsE (gQ l).fields m 40=es at *
 obtain ⟨kk,hkk⟩:∃ kk:Nat,cJ n ((es.length:Int) + 1)=(kk:Int):=⟨_,(Int.toNat_of_nonneg (qX n _ (by omega))).symm⟩
 have hk1:=pX n ((es.length:Int) + 1) (by omega)
 have hpa:=fun H=>xJ n ((es.length:Int) + 1) H n0 n1 (by omega) (by omega)
 rw [hkk] at hk1 hpa
 have hlt:(es.take kk).length=kk:=by rw [List.length_take]; omega
 have hrp:repF l P (es.take kk)=(repF l P es).take kk:=(rpP_take _ es _ kk).symm
 have hrl:(repF l P es).length=es.length:=rpP_len _ es _
 have hrl1:(repF l P (es.take kk)).length=kk:=(rpP_len _ _ _).trans hlt
 have hR1:=fun u sv H q1 q2=>(hR (es.take kk) (fun e he=>List.mem_of_mem_take he) (by omega) u sv H q1 q2).mono fun _ _ _ z=>runR_open hrl1 z
 have hR2:=fun u sv H q1 q2=>(hR es (fun e he=>he) (by omega) u sv H q1 q2).mono fun _ _ _ z=>runR_open hrl z
 rw [hrp] at hR1
 clear hR hrp hrl1
 generalize repF l P es=rp at *
 generalize endF l P es=s2 at *
 generalize endF l P (es.take kk)=s1 at *
 generalize (gQ l).pages.length=np at *
 have hTe:=fun A c H (q:RS H 6 (.slice A es.length c) (es.map Ev.cells))=>ev_take q (k:=kk) (by omega)
 have hTr:=fun A c H (q:RS H 2 (.slice A es.length c) (jY rp))=>rp_take q (k:=kk) (by omega)
 have hEq:=fun v v' H q q'=>c_equalRp (h:=H) (v:=v) (v':=v') (l:=rp.take kk) q q' (by rw [List.length_take]; omega)
 generalize es.length=ne at *
 obtain ⟨A0,c0,rfl,-,-,-⟩:=hl.form
 obtain ⟨A1,c1,rfl,-,-,-⟩:=hm.form
 rw [List.length_map] at *
 rw [List.length_map] at *
 generalize l.length=len at *
 generalize m.length=mlen at *
 refine oQ Tryz.func9 (c:=Tryz.f9.body.getD .skip) (N:=83) ?_
 intro hbx hbad Q hQ
 refine go0 8 [] [] ?_
 refine kQ (fun H sH=>hFm _ (hl.sees sH)) ?_; rintro _ W1 S2 ⟨u22,rfl,f22⟩
 refine kQ (fun H sH=>hPol _) ?_; rintro _ W3 S4 rfl
 refine go2 10 [.own,.own,.b 1 0,.b 0 0,.b 1 0] [] ?_
 intro b5 b6
 refine kQ (fun H sH=>hEv _ _ (f22.sees (S4.trans sH)) (hm.sees (S2.trans (S4.trans sH)))) ?_; rintro _ W7 S8 ⟨u26,rfl,f26⟩
 refine go0 9 [] [(30,Vi (IntKind.i64.wrap ((ne:Int) + 1)),Vi ((ne:Int) + 1))] ?_ (hc:=(And.intro (jJ (by omega) (by omega)) (trivial)))
 have hcap:=rs_cap f26
 refine go0 5 [.cl 19 #[Vi n,Vi ((ne:Int) + 1)] (Vi (kk:Int))] [] ?_ (ho:=(And.intro (fun H sH=>hpa _) (trivial)))
 refine eV 19 2 [.ld 3 0,.ld 2 0,.pu,.pu,.v (fun gh=>.slice (sA u26) kk (sC u26)),.f (fun gh=>.tuple #[.slice (sA (agJ 7 (gh 5))) kk (sC (agJ 7 (gh 5))),.agg (eA (gh 5) s1.E),sL (agJ 5 (gh 5)),.agg #[Vi (s1.t:Int),sL (agJ 6 (gh 5)),.bool ((s1.t:Int) == (np:Int))],Vi 0]) (fun gh hh=>RunO hh (gh 5) s1 kk (rp.take kk)),.pu,.pu,.pu,.pu,.pu,.pu,.al 0,.al 1,.pu,.st 0 0,.pu,.st 1 0,.pu] [(5,false),(12,true),(13,true)] (And.intro (fun _ _ _ s c=>c.sees s) (trivial)) ?_ ?_
 ·intro R hT hA hmono
  refine And.intro (t_p hT hA (fun gh=>.slice (sA u26) kk (sC u26)) (fun gh w=>run_hi (t:=88) (e:=102) (x:=(.tmp 35)) (y:=(.tmp 36)) (A:=(sA u26)) (n:=ne) (cap:=(sC u26)) (k:=kk) (kk:=6) (by kernel_rfl) (by kernel_rfl) (by kernel_rfl) (by omega) Tryz.underlying88 (by kernel_rfl))) ?_
  refine And.intro (uX hT hA hmono ⟨fun _ _=>by kernel_rfl,fun _ _=>by kernel_rfl,fun _ _=>by kernel_rfl⟩ 38 (fun u=>.tuple #[.slice (sA (agJ 7 u)) kk (sC (agJ 7 u)),.agg (eA u s1.E),sL (agJ 5 u),.agg #[Vi (s1.t:Int),sL (agJ 6 u),.bool ((s1.t:Int) == (np:Int))],Vi 0]) [0,1,4] 5 35 (fun gh=>#[.agg #[sL (agJ 0 u22),sL (agJ 1 u22)],.agg #[Vi P.t,Vi P.b,Vi P.c],.slice (sA u26) kk (sC u26)]) (fun gh H sH fH lent=>C0.facts (R:=R) (x:=gh) (i:=5) (n:=0) (F:=(fun u=>.tuple #[.slice (sA (agJ 7 u)) kk (sC (agJ 7 u)),.agg (eA u s1.E),sL (agJ 5 u),.agg #[Vi (s1.t:Int),sL (agJ 6 u),.bool ((s1.t:Int) == (np:Int))],Vi 0])) (G:=fun u hh=>RunO hh u s1 kk (rp.take kk)) (f:=fun gh hh=>RunO hh (gh 5) s1 kk (rp.take kk)) (hR1 _ _ _ (f22.sees (S4.trans (S8.trans sH))) (hTe _ _ _ (f26.sees sH))) (by kernel_rfl) (by kernel_rfl) (fun _ _ r=>r))) ?_
  trivial
 rintro u38 b9 b10 W11 S12 ⟨f38,-⟩
 replace f38:RunO W11 u38 s1 kk (rp.take kk):=f38
 refine go0 6 [.b 3 0,.b 2 0] [] ?_
 refine kQ (fun H sH=>hR2 _ _ _ (f22.sees (S4.trans (S8.trans (S12.trans sH)))) (f26.sees (S12.trans sH))) ?_; rintro _ W13 S14 ⟨u48,rfl,f48⟩
 refine go2 17 [.own,.own,.b 1 0,.b 0 0] [] ?_
 intro b15 b16
 have hcap2:=rs_cap f48.rp
 refine go0 26 [.cl 36 #[] (.bool true)] [(67,.bool ((kk:Int) == (kk:Int)),.bool true),(74,.bool ((ne:Int) == (ne:Int)),.bool true)] ?_ (ho:=(And.intro (fun H sH=>plays_any _) (trivial))) (hc:=(And.intro (congrArg Value.bool (beq_self_eq_true _)) (And.intro (congrArg Value.bool (beq_self_eq_true _)) (trivial))))
 refine dV (.slice (sA (agJ 7 u48)) kk (sC (agJ 7 u48))) (fun w=>run_hi (t:=90) (e:=99) (x:=(.tmp 78)) (y:=(.tmp 79)) (A:=(sA (agJ 7 u48))) (n:=ne) (cap:=(sC (agJ 7 u48))) (k:=kk) (kk:=2) (by kernel_rfl) (by kernel_rfl) (by kernel_rfl) (by omega) Tryz.underlying90 (by kernel_rfl)) ?_
 refine go0 6 [.cl 37 #[.slice (sA (agJ 7 u38)) kk (sC (agJ 7 u38)),.slice (sA (agJ 7 u48)) kk (sC (agJ 7 u48))] (.bool true)] [] ?_ (ho:=(And.intro (fun H sH=>hEq _ _ _ ((f38.sees (S14.trans sH))).rp (hTr _ _ _ ((f48.sees sH)).rp)) (trivial)))
 refine hQ.to [.bool true] (fun H sH=>?_)
 exact rfl
theorem playFront_walk (v:Value) (l:List RawD) (v':Value) (m:List RawD) (n:Int) (w:World) (h:RawsOf w v l) (h':RawsOf w v' m) (n0 : -9223372036854775808 <= n) (n1:n <= 9223372036854775807) :
  Calls Tryz.prog 9 #[v,v',Vi n] w fun e w'=>e=.returned (.bool true) /\ Below w.heap.size w w' :=
 C0.law (playFront_c l m v v' n ⟨w,[]⟩ h.rs h'.rs h.2.1 h'.2.1 h.2.2 h'.2.2 n0 n1)
namespace playFrontLaw
open Go.ChangeShapes Go.WideShapes Go.ChangeAt Go.RowKit
open Go.ChangeMaps (open_string shut_string)
set_option linter.unusedVariables false
theorem lifted (os:Os) (started:os.Started) (H:Type) (enc:TypeId × Value -> H) :
  ReturnsInHanded {} Tryz.checked os 9 .any (Rows.playFrontSpec.pre6 enc Tryz.prog Tryz.f9 Rows.playFrontRow.domain false) (Rows.playFrontSpec.post enc Tryz.prog Tryz.f9 false true false false):=by
 refine returnsInHanded_of_change_sized (C:=Tryz.checked) ownNone started (by kernel_rfl) Tryz.func9
  (ChangeSpec.witness6 (enc:=enc) (C:=Tryz.checked) false ⟨#[],#[.slice none 0 0,.slice none 0 0,Vi 0],[]⟩ 8 (by kernel_rfl) (by kernel_rfl) (by kernel_rfl) (by kernel_rfl)) ?_
 intro W base args ds gs before hval0 hW hcnd hsz0 _
 have hval:∀ (j:Nat) t v,Tryz.f9.params[j]?=some t -> args[j]?=some v -> Value.okWide Tryz.prog W .any base t v:=hval0
 have hsz:(DataW.weightsEach Tryz.prog (Tryz.f9.params.toList++Rows.playFrontSpec.plain.varTypes Tryz.prog) (ds++gs)).all (· <= reachBytes)=true:=hsz0
 have hW':=hW
 obtain ⟨p,q,hA0,hV,rfl,hfz,hnd⟩:=hW
 have hA:DataW.TrodAll enc Tryz.prog W 0 (fun _=>true) true Tryz.f9.params.toList args.toList ds p:=hA0
 rw [Tryz.params9] at hA hval hsz
 obtain ⟨v0,vs0,d0,ds0,p0,q0,hargs,rfl,rfl,h0,r0⟩:=trodAll_cons hA
 obtain ⟨v1,vs1,d1,ds1,p1,q1,rfl,rfl,rfl,h1,r1⟩:=trodAll_cons r0
 obtain ⟨v2,vs2,d2,ds2,p2,q2,rfl,rfl,rfl,h2,r2⟩:=trodAll_cons r1
 obtain ⟨rfl,rfl,rfl⟩:=trodAll_nil r2
 obtain rfl:args=#[v0,v1,v2]:=by cases args; simp_all
 obtain ⟨rfl,rfl⟩:=trodVars_none hV
 have k0:=h0
 have lt0:∀ x∈p0,x.block < W.heap.size:=by obtain ⟨m,hm⟩:=k0; exact DataW.trod_lt m _ _ _ hm
 obtain ⟨a0,w0⟩:=open_rows (hval 0 22 v0 rfl rfl) h0 (fun es ss hd=>sized_slice hsz (j:=0) (t:=22) (elems:=es) (spare:=ss) rfl (by rw [hd]; rfl) Tryz.underlying22)
 have k1:=h1
 have lt1:∀ x∈p1,x.block < W.heap.size:=by obtain ⟨m,hm⟩:=k1; exact DataW.trod_lt m _ _ _ hm
 obtain ⟨a1,w1⟩:=open_rows (hval 1 22 v1 rfl rfl) h1 (fun es ss hd=>sized_slice hsz (j:=1) (t:=22) (elems:=es) (spare:=ss) rfl (by rw [hd]; rfl) Tryz.underlying22)
 have k2:=h2
 have lt2:∀ x∈p2,x.block < W.heap.size:=by obtain ⟨m,hm⟩:=k2; exact DataW.trod_lt m _ _ _ hm
 obtain ⟨a2,rfl,-,-,w2⟩:=open_int Tryz.underlying3 (hval 2 3 v2 rfl rfl) h2
 clear hA0 hval0 hsz0
 refine (playFront_walk v0 a0 v1 a1 a2 W w0 w1 (int_lo w2) (int_hi w2)).mono fun e W' ⟨he,bel⟩=>?_
 subst he
 exact ⟨_,rfl,_,_,_,[],_,[],hW',trodAll_mk1 (shut_bool Tryz.underlying4 _),(trodAll_cons_mk (Below.trod laidOutTrue (by kernel_rfl) (of_decide_eq_true (by kernel_rfl)) k0 bel lt0) (trodAll_cons_mk (Below.trod laidOutTrue (by kernel_rfl) (of_decide_eq_true (by kernel_rfl)) k1 bel lt1) (trodAll_cons_mk (Below.trod laidOutTrue (by kernel_rfl) (of_decide_eq_true (by kernel_rfl)) k2 bel lt2) trodAll_mk0))),rfl,bel.frame _,fun h=>by cases h⟩
theorem over:Rows.playFrontRow.holds Tryz.pinned (OpenSpec.ofChange Rows.playFrontSpec) :=
 OpenClaim.holds_of_wide 9 Tryz.f9 rfl rfl rfl rfl rfl rfl rfl ⟨rfl,rfl,rfl,rfl,rfl⟩ rfl rfl rfl rfl rfl (by kernel_rfl) Tryz.func9 (by kernel_rfl)
  (of_decide_eq_true (by kernel_rfl)) (by unfold Func.isWrapper; first | (rw [if_pos (by decide +kernel)]; kernel_rfl) | (rw [if_neg (by decide +kernel)]; exact ⟨rfl,rfl⟩))
  (fun os started H enc _=>lifted os started H enc)
end playFrontLaw
theorem playFront_holds:Rows.PlayFrontSaid:=playFrontLaw.over
#print axioms playFront_holds
end Go.Proofs.YtmoahpojchndiaaGreat
