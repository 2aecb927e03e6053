/-
  For all raw things TopForward returns true: a form with n pages is completed after at most n steps, or the navigation is blocked, and no page is visited twice.
-/
import Derived.Test.YthgcgciceejicaaGreatDoorZF46
import Derived.Test.YthgcgciceejicaaGreatDoorZF48
import Derived.Test.YthgcgciceejicaaGreatDoorZF50
import Derived.Test.YthgcgciceejicaaGreatDoorZF53
set_option maxRecDepth 100000
namespace Go.Proofs.YthgcgciceejicaaGreatDoor
open Go.RowKit
set_option linter.unusedVariables false
theorem path_none {path:List Int} {m t a:Nat} (pk:PathOk (path++[(t:Int)]) m) (hta:t < a):decide (0 <= fidx (λy:Int=>(a:Int) == y) path)=false:=by
 have:fidx (λy:Int=>(a:Int) == y) path = -1:=iQ _ _ λy hy=>by
  have:=(List.pairwise_append.1 pk.rise).2.2 y hy (t:Int) (by simp)
  exact Lj.2 (by omega)
 rw [this]; rfl
set_option maxHeartbeats 2000000 in
theorem topForward_c (l m:List RawD) (sl sm:Value) (h:Vw) (lk:Lk h) (hl:RS h 4 sl (l.map RawD.cs)) (hm:RS h 4 sm (m.map RawD.cs)) (ll:l.length * 40 <= reachBytes) (lm:m.length * 40 <= reachBytes) (ol:∀ r∈l,r.ok) (om:∀ r∈m,r.ok) :
  C0 Tryz.prog 7 #[sl,sm] h (λv _=>v=.bool true):=by
 have hF:=form_c l sl;have hlen:=oQ l;have hnl:=rW l;have hty:=form_ty l;have hOr:=oracle_form l m;have hA:=all_orc l m (orcF l m) (orcF_ok l m) (by have:=orcF_len l m; omega);have hsol:=allF_sol l m (orcF_ok l m).has;have hva:=hsol.1.len;have hov:=hsol.2;have hCt:=λH q=>counts_c H q;have hok:=form_okFm l;have hone:=form_one l;have hpe:1 <= (nQ l).pages.length:=hok.pages.one;have hpf:=hok.pages.few;have hNx:=λA n c B mm d A1 c1 path A2 c2 t H q1 q2 q3 q4 q5 q6 qb q7=>next_x (nQ l) _ _ A n c B mm d (allF l m (orcF l m)) A1 c1 path A2 c2 t H hok q1 q2 q3 q4 q5 hov q6 qb q7;have hCk:=λA n c B mm d A1 c1 path A2 c2 (t:Nat) H q1 q2 q3 q4 q5 q6 (qb:path.length <= 100) q7=>navCheck_any (nQ l) _ _ A n c B mm d (allF l m (orcF l m)) A1 c1 path A2 c2 (t:Int) H hok q1 q2 q3 q4 q5 hov q6 qb q7;generalize allF l m (orcF l m)=va at *;generalize orcF l m=orc at *;generalize rhoL (wW (nQ l).fields)=ρ at *;generalize nQ l=fm at *;have hin:=λH fv pv q1 q2 q3=>inputs_any fm.fields pv fv m sm H q1 q2 (by omega) hty q3 lm om;generalize inpE fm.fields m=env at *;have erl:(zK env).length=env.length:=Gj _;have hcn:=λ(path:List Int) v a H q (ql:path.length <= 90)=>contN_any path v a H q (by omega);obtain ⟨A0,c0,rfl,-,-,-⟩:=hl.form;obtain ⟨A1,c1,rfl,-,-,-⟩:=hm.form;rw [Gj] at *;rw [Gj] at *;generalize hN:fm.fields.length=N at *;generalize hM:fm.pages.length=M at *;generalize hNo:orc.length=No at *;refine yQ Tryz.func7 λhbx hbad Q hQ=>?_;refine go0 8 [] [] ?_;refine uQ (λH sH=>hF _ (hl.sees sH) ll ol) ?_; rintro _ W1 S2 ⟨A,c,B,d,rfl,hfm⟩;refine go1 8 [.own,.b 0 0,.b 0 0] [] ?_;intro b3;refine g_callrow (λH sH=>hin _ _ (.slice B M d) ((hfm.sees sH)).fields rfl (hm.sees (S2.trans sH))) ?_; rintro v _ rfl;refine go0 7 [.b 1 0] [] ?_;refine cV 0 (v:=v) (e:=122) (kk:=7) (l:=zK env) ?_; intro Av cv hE_v hc_v hm_v;rw [show (zK env).length=env.length from by first | omega | (simp; done) | (simp; omega)] at hE_v hc_v;rw [hE_v];refine dV 0 (v:=.slice Av env.length cv) (e:=122) (kk:=7) (l:=zK env) ?_; intro W4 S5 fin;refine uQ (λH sH=>hOr _ _ _ _ _ _ (hfm.sees (S5.trans sH)) (fin.sees sH)) ?_; rintro _ W6 S7 ⟨Ao,co,rfl,hro⟩;refine go0 12 [.b 0 0] [] ?_;refine uQ (λH sH=>hA _ _ _ _ _ _ _ (hfm.sees (S5.trans (S7.trans sH))) (fin.sees (S7.trans sH)) (hro.sees sH)) ?_; rintro _ W8 S9 ⟨A2,c2,rfl,hva2⟩;refine go0 10 [] [] ?_;refine go1 29 [.cl 13 #[] (.bool true),.own,.b 0 0] [] ?_ (ho:=(Aj (λH sH=>hCt _ (lk.sees (S2.trans (S5.trans (S7.trans (S9.trans sH)))))) (trivial)));intro bww;refine gV [0,1,0,1,1,1,1,1,1,1] [.block 0,.seq [1,1,1,1,1,1,1,1]] (λ(k:Nat) X=>∃ (W10:Vw) (path:List Int) (t:Nat) (Ap:Option Addr) (np:Nat) (cp:Nat) (dn:Bool),X W10 [(5,Vp b3),(9,.slice A2 N c2),(11,Vp bww),(12,Vi (k:Int))] [.box bww [Vi (t:Int),.slice Ap np cp,.bool dn],.box b3 [.slice A N c,.slice B M d]] [] /\ Sees W8 W10 /\ (path.length=k) /\ (np=path.length) /\ (k <= t) /\ (t <= M) /\ (dn=((t:Int) == (M:Int))) /\ (PathOk (path++[(t:Int)]) M) /\ (RS W10 1 (.slice Ap np cp) (lY path))) (λk=>M + 1 - k) (0) (λX q=>⟨W8,[],0,none,0,0,false,q _ _ _ _ ⟨rfl,by kernel_rfl⟩,Sees.refl _,rfl,rfl,Ij _,Mj _,(Lj.2 (by omega)).symm,pathOk_one M,RS.nil _ 1⟩) ?_;rintro k a w ⟨W10,path,t,Ap,np,cp,dn,hJ,S11,hpl,hnp,hkt,htm,hdn,hpk,hp⟩; refine lV hJ ?_; clear hJ a w;refine go0 8 [.b 0 2] [] ?_;have hCx:∀ H,IsForm H (.slice A N c) (.slice B M d) fm -> RS H 3 (.slice A2 N c2) (kZ va) -> RS H 1 (.slice Ap np cp) (lY path) -> C0 Tryz.prog 31 #[.agg #[.slice A N c,.slice B M d],.slice A2 N c2,.agg #[Vi (t:Int),.slice Ap np cp,.bool dn]] H (λr _=>r=Vi 0):=λH q1 q2 q3=>by
  rw [hnp] at q3 ⊢;rw [hdn];exact hCk A N c B M d A2 c2 path Ap cp t H q1 rfl rfl q2 hva q3 (by omega) hpk
 rcases boolIs dn with hd | hd
 ·refine aV (t := !dn) (by rw [hd]; rfl) ?_;refine go0 2 [] [] ?_;refine fV ?_;refine go0 7 [.b 1 0,.b 0 0] [] ?_;refine go0 6 [.cl 31 #[.agg #[.slice A N c,.slice B M d],.slice A2 N c2,.agg #[Vi (t:Int),.slice Ap np cp,.bool dn]] (Vi 0)] [] ?_ (ho:=(Aj (λH sH=>hCx _ (hfm.sees (S5.trans (S7.trans (S9.trans (S11.trans sH))))) (hva2.sees (S11.trans sH)) (hp.sees sH)) (trivial)));refine hQ.to [.bool true] (λH sH=>?_);exact rfl
 ·skip;have htM:t≠M:=λe=>by
   rw [hd,e,beq_self_eq_true] at hdn
   cases hdn
  have hNs:∀ H,IsForm H (.slice A N c) (.slice B M d) fm -> RS H 3 (.slice A2 N c2) (kZ va) -> RS H 1 (.slice Ap np cp) (lY path) -> C0 Tryz.prog 29 #[.agg #[.slice A N c,.slice B M d],.slice A2 N c2,.agg #[Vi (t:Int),.slice Ap np cp,.bool dn]] H (λr h'=>∃ (e:Int) (a:Nat) (A3:Option Addr) (n3 c3:Nat) (bq:Bool),r=.tuple #[.agg #[Vi (a:Int),.slice A3 n3 c3,.bool bq],Vi e] /\ (e=11\/(e=0 /\ t < a /\ a <= M /\ bq=((a:Int) == (M:Int)) /\ n3=(path++[(t:Int)]).length /\ RS h' 1 (.slice A3 n3 c3) (lY (path++[(t:Int)]))))):=λH q1 q2 q3=>by
   rw [hnp] at q3 ⊢;rw [hdn];refine (hNx A N c B M d A2 c2 path Ap cp t H q1 rfl rfl q2 hva q3 (by omega) hpk).mono λr h' _ k=>?_;rcases k with ⟨g,-⟩ | ⟨p,-,hx⟩
   ·exact absurd g htM
   ·rcases hx with ⟨a,u,rfl,-,g1,g2,g3,-⟩ | ⟨rfl,-⟩
    ·obtain ⟨A3,c3,e,-⟩:=g3.form;rw [Gj] at e;rw [e] at g3 ⊢;exact ⟨0,a,A3,_,c3,_,rfl,.inr ⟨rfl,g1,g2,rfl,rfl,g3⟩⟩
    ·exact ⟨11,0,none,0,0,false,rfl,.inl rfl⟩
  refine rV (t := !dn) (by rw [hd]; rfl) ?_;refine go0 9 [.b 1 0,.b 0 0] [] ?_;refine uQ (λH sH=>hNs _ (hfm.sees (S5.trans (S7.trans (S9.trans (S11.trans sH))))) (hva2.sees (S11.trans sH)) (hp.sees sH)) ?_; rintro _ W12 S13 ⟨e,a,A3,n3,c3,bq,rfl,hnx⟩;refine go1 15 [.own,.b 0 0] [] ?_;intro b14
  by_cases e11:e=11
  ·refine rV (t:=e == 11) (Xj.2 e11) ?_;refine go0 4 [] [] ?_;refine fV ?_;refine go0 7 [.b 2 0,.b 1 0] [] ?_;refine go0 6 [.cl 31 #[.agg #[.slice A N c,.slice B M d],.slice A2 N c2,.agg #[Vi (t:Int),.slice Ap np cp,.bool dn]] (Vi 0)] [] ?_ (ho:=(Aj (λH sH=>hCx _ (hfm.sees (S5.trans (S7.trans (S9.trans (S11.trans (S13.trans sH)))))) (hva2.sees (S11.trans (S13.trans sH))) (hp.sees (S13.trans sH))) (trivial)));refine hQ.to [.bool true] (λH sH=>?_);exact rfl
  ·skip;obtain ⟨e0,g1,g2,g3,g4,g5⟩:=hnx.resolve_left e11
   have hcf:=path_none hpk g1;have hcx:=λH q=>hcn path (.slice Ap np cp) (a:Int) H q (by omega);rw [hcf] at hcx;refine aV (t:=e == 11) (Lj.2 e11) ?_;refine go0 44 [.b 2 1,.b 1 1,.b 0 0,.cl 30 #[.slice Ap np cp,Vi (a:Int)] (.bool false),.b 0 0,.b 1 0,.b 0 0,.b 1 0] [(59,.bool (e != 0),.bool false),(65,.bool (decide ((k:Int) ≥ (M:Int))),.bool false),(79,.bool ((a:Int) == (t:Int)),.bool false),(48,Vi (IntKind.i64.wrap ((k:Int) + 1)),Vi ((k:Int) + 1))] ?_ (ho:=(Aj (λH sH=>hcx _ (hp.sees (S13.trans sH))) (trivial))) (hc:=(Aj (Dj Value.bool (Ik.2 e0)) (Aj (Dj Value.bool (Jj (by omega))) (Aj (Dj Value.bool (Lj.2 (by omega))) (Aj (jJ (by omega) (by omega)) (trivial))))));exact qV (k + 1) (λX q=>⟨W12,path++[(t:Int)],a,A3,n3,c3,bq,q _ _ _ _ ⟨rfl,by kernel_rfl⟩,(S11.trans S13),by simp [hpl],g4,by omega,g2,g3,PathOk.snoc hpk g1 g2,g5⟩)
theorem topForward_walk (v:Value) (l:List RawD) (v':Value) (m:List RawD) (w:World) (h:RawsOf w v l) (h':RawsOf w v' m) (hL:laidMet Tryz.prog Rows.topForwardRow.laid w) (hsh:w.ShapedOpen Tryz.prog) :
  Calls Tryz.prog 7 #[v,v'] w λe w'=>e=.returned (.bool true) /\ Below w.heap.size w w' :=
 lawC (topForward_c l m v v' ⟨w,[]⟩ (Lk.of_laid hL hsh) h.rs h'.rs h.2.1 h'.2.1 h.2.2 h'.2.2)
namespace topForwardLaw
open Go.ChangeShapes Go.WideShapes Go.ChangeAt Go.RowKit
open Go.ChangeMaps (open_string shut_string)
set_option linter.unusedVariables false
theorem contract (H:Type) (enc:TypeId × Value -> H) (W:World) (base:Nat) (args:Array Value) (ds gs:List (DataW H)) (before:List MemPlace)
  (hval0:∀ (j:Nat) t v,Tryz.f7.params[j]?=some t -> args[j]?=some v -> Value.okWide Tryz.prog W .any base t v)
  (hW:DataW.Whole enc Tryz.prog Tryz.f7.params.toList Rows.topForwardSpec.vars false W args.toList ds gs before)
  (hsz0:(DataW.weightsEach Tryz.prog (Tryz.f7.params.toList++Rows.topForwardSpec.plain.varTypes Tryz.prog) (ds++gs)).all (· <= reachBytes)=true) (hL:laidMet Tryz.prog Rows.topForwardRow.laid W) (hsh:W.ShapedOpen Tryz.prog) :
  Calls Tryz.prog 7 args W λe W'=>∃ v,e=.returned v /\ Rows.topForwardSpec.post enc Tryz.prog Tryz.f7 false true false false W args v W':=by
 have hval:∀ (j:Nat) t v,Tryz.f7.params[j]?=some t -> args[j]?=some v -> Value.okWide Tryz.prog W .any base t v:=hval0;have hsz:(DataW.weightsEach Tryz.prog (Tryz.f7.params.toList++Rows.topForwardSpec.plain.varTypes Tryz.prog) (ds++gs)).all (· <= reachBytes)=true:=hsz0;have hW':=hW;obtain ⟨p,q,hA0,hV,rfl,hfz,hnd⟩:=hW;have hA:DataW.TrodAll enc Tryz.prog W 0 (λ_=>true) true Tryz.f7.params.toList args.toList ds p:=hA0;rw [Tryz.params7] at hA hval hsz;obtain ⟨v0,vs0,d0,ds0,p0,q0,hargs,rfl,rfl,h0,r0⟩:=trodAll_cons hA;obtain ⟨v1,vs1,d1,ds1,p1,q1,rfl,rfl,rfl,h1,r1⟩:=trodAll_cons r0;obtain ⟨rfl,rfl,rfl⟩:=trodAll_nil r1;obtain rfl:args=#[v0,v1]:=by cases args; simp_all
 obtain ⟨rfl,rfl⟩:=trodVars_none hV;have k0:=h0;have lt0:∀ x∈p0,x.block < W.heap.size:=by obtain ⟨m,hm⟩:=k0; exact DataW.trod_lt m _ _ _ hm
 obtain ⟨a0,w0⟩:=open_rows (hval 0 22 v0 rfl rfl) h0 (λes ss hd=>sized_slice hsz (j:=0) (t:=22) (elems:=es) (spare:=ss) rfl (by rw [hd]; rfl) Tryz.underlying22);have k1:=h1;have lt1:∀ x∈p1,x.block < W.heap.size:=by obtain ⟨m,hm⟩:=k1; exact DataW.trod_lt m _ _ _ hm
 obtain ⟨a1,w1⟩:=open_rows (hval 1 22 v1 rfl rfl) h1 (λes ss hd=>sized_slice hsz (j:=1) (t:=22) (elems:=es) (spare:=ss) rfl (by rw [hd]; rfl) Tryz.underlying22);clear hA0 hval0 hsz0;refine (topForward_walk v0 a0 v1 a1 W w0 w1 hL hsh).mono λe W' ⟨he,bel⟩=>?_;subst he;exact ⟨_,rfl,_,_,_,[],_,[],hW',trodAll_mk1 (shut_bool Tryz.underlying4 _),(trodAll_cons_mk (Below.trod laidOutTrue (by kernel_rfl) (Uv (by kernel_rfl)) k0 bel lt0) (trodAll_cons_mk (Below.trod laidOutTrue (by kernel_rfl) (Uv (by kernel_rfl)) k1 bel lt1) trodAll_mk0)),rfl,bel.frame _,λh=>by cases h⟩
theorem reads (os:Os) {H:Type} (enc:TypeId × Value -> H):∃ places,DataW.whole enc Tryz.prog ((World.laidAll Tryz.prog os Rows.topForwardRow.laid).forCall (λ_ _=>0) ⟨#[],#[.slice none 0 0,.slice none 0 0],[]⟩).memory Tryz.f7.params.toList Rows.topForwardSpec.vars false (#[.slice none 0 0,.slice none 0 0]:Array Value).toList 8=some ([.nil,.nil],[],places) :=
 ⟨[],by kernel_rfl⟩
theorem lifted (os:Os) (started:os.Started) (H:Type) (enc:TypeId × Value -> H) (FF:Stop.Interp) :
  ReturnsInHanded {} Tryz.checked os 7 .any ((OpenSpec.ofChange Rows.topForwardSpec).preRow enc Tryz.prog Tryz.f7 Rows.topForwardRow.domain false Rows.topForwardRow.laid) (((OpenSpec.ofChange Rows.topForwardSpec).at FF).post enc Tryz.prog Tryz.f7 false true false false):=by
 obtain ⟨places,hx⟩:=reads os enc;refine returnsInHanded_of_row (C:=Tryz.checked) (s:=OpenSpec.ofChange Rows.topForwardSpec) ownNone started (by kernel_rfl) Tryz.func7
  (witness_row_at (enc:=enc) (C:=Tryz.checked) false (World.laidAll Tryz.prog os Rows.topForwardRow.laid) #[.slice none 0 0,.slice none 0 0] (World.laidAll_os _ _ _) (by kernel_rfl) (by kernel_rfl) (by kernel_rfl)
   (OpenSpec.preRow_of_cond 8 hx (by kernel_rfl) (λk hk=>by cases hk) (by kernel_rfl) (laidMet_laidAll _ (by kernel_rfl) (by kernel_rfl)))) ?_
 intro W base args ds gs before hval hW _ _ hsz hL hsh _;rw [MakeChecks.laidMetH_plain _ _ _ (by kernel_rfl)] at hL;exact contract H enc W base args ds gs before hval hW hsz hL hsh
theorem cand {a b:Bool} (h:a=true) (k:b=true):(a && b)=true:=by rw [h,k]; rfl
theorem cf1:laidOutB Tryz.prog=true:=by kernel_rfl
theorem cf2:mapsRowed Tryz.prog=true:=by kernel_rfl
theorem cf9:(Rows.topForwardRow.inPlace == Tryz.prog.inPlace 7)=true:=by kernel_rfl
theorem cf10:(Rows.topForwardRow.unfollowed == Tryz.prog.unfollowed 7)=true:=by kernel_rfl
theorem cf11:(Rows.topForwardRow.recurses == Tryz.prog.recurses 7)=true:=by kernel_rfl
theorem cf12:(Rows.topForwardRow.named == Tryz.prog.varsNamed 7)=true:=by kernel_rfl
theorem cf22:(Rows.topForwardRow.plainKeys == Tryz.prog.plainKeys)=true:=by kernel_rfl
theorem cf24:Tryz.prog.stopsHeard=true:=by kernel_rfl
theorem cf25:Tryz.prog.mayEnter=true:=by kernel_rfl
theorem cf26:(Rows.topForwardRow.lifted == Tryz.prog.liftsFinal)=true:=by kernel_rfl
theorem cf27:(Tryz.prog.make == some Rows.topForwardRow.make)=true:=by kernel_rfl
set_option maxRecDepth 1000000 in
theorem closed:joinedFacts Tryz.pinned.checked.prog 7 Tryz.f7 (OpenSpec.ofChange Rows.topForwardSpec).bare Rows.topForwardRow=true :=
 (cand (cand (cand (cand (cand (cand (cand (cand (cand (cand (cand (cand (cand (cand (cand (cand (cand (cand (cand (cand (cand (cand (cand (cand (cand (cand (cand (cand (cand (cand (cand (by kernel_rfl) cf1) cf2) (by kernel_rfl)) (by kernel_rfl)) (by kernel_rfl)) (by kernel_rfl)) (by kernel_rfl)) (by kernel_rfl)) cf9) cf10) cf11) cf12) (by kernel_rfl)) (by kernel_rfl)) (by kernel_rfl)) (by kernel_rfl)) (by kernel_rfl)) (by kernel_rfl)) (by kernel_rfl)) (by kernel_rfl)) (by kernel_rfl)) cf22) (by kernel_rfl)) cf24) cf25) cf26) cf27) (by kernel_rfl)) (by kernel_rfl)) (by kernel_rfl)) (by kernel_rfl))
theorem said:Rows.TopForwardSaid :=
 OpenClaim.holds_of_cond 7 Tryz.f7 rfl rfl rfl rfl rfl rfl rfl ⟨rfl,rfl,rfl,rfl,rfl⟩ rfl rfl rfl rfl rfl (by kernel_rfl) Tryz.func7 closed
  (Uv (by kernel_rfl)) (by unfold Func.isWrapper; first | (rw [Cj (by decide +kernel)]; kernel_rfl) | (rw [Bj (by decide +kernel)]; exact ⟨rfl,rfl⟩))
  (λos started H enc _ FF=>by rw [OpenClaim.pre_eq_preRow]; exact lifted os started H enc FF)
theorem plain (f : FuncId) (fn : Func) (hf : Tryz.pinned.checked.prog.funcNamed "lychway/lychwaytop.TopForward" = some f) (hfn : Tryz.pinned.checked.prog.funcs[f]? = some fn) :
  Rows.topForwardCard.stood.looks=Tryz.pinned.checked.prog.looks [] /\ ∀ (j:Nat) t,fn.params[j]?=some t -> Tryz.pinned.checked.prog.wantsStandIn t=false:=by
 obtain rfl : f = 7 := Zk ((show Tryz.prog.funcNamed "lychway/lychwaytop.TopForward" = some 7 by kernel_rfl).symm.trans hf) |>.symm;obtain rfl:fn=Tryz.f7:=(Zk (Tryz.func7.symm.trans hfn)).symm;refine ⟨by kernel_rfl,λj t ht=>?_⟩;rw [Tryz.params7] at ht;have hm:=Array.mem_of_getElem? ht;simp at hm
 first
  | (obtain rfl:=hm; exact (show Tryz.prog.wantsStandIn _=false by kernel_rfl))
  | (rcases hm with rfl | rfl <;> exact (show Tryz.prog.wantsStandIn _=false by kernel_rfl))
  | (rcases hm with rfl | rfl | rfl <;> exact (show Tryz.prog.wantsStandIn _=false by kernel_rfl))
  | (rcases hm with rfl | rfl | rfl | rfl <;> exact (show Tryz.prog.wantsStandIn _=false by kernel_rfl))
end topForwardLaw
theorem topForward_holds:Rows.TopForwardCardSaid :=
 Claim7.holds_tied_plain_at .later [] _ _ _ _ topForwardLaw.said (λ_ h=>by cases h) (by kernel_rfl) (λ_ h=>by cases h) topForward_row_tie rfl ⟨rfl,rfl⟩ (by kernel_rfl) rfl topForwardLaw.plain (by kernel_rfl)
#print axioms topForward_holds
end Go.Proofs.YthgcgciceejicaaGreatDoor
