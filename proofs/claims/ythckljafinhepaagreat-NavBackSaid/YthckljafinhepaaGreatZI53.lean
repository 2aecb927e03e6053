/-
  For all raw things NavBack returns true: Back after Next returns to the same page. No condition.
-/
import Derived.Test.YthckljafinhepaaGreatZI50
import Derived.Test.YthckljafinhepaaGreatZI52
set_option maxRecDepth 100000
namespace Go.Proofs.YthckljafinhepaaGreat
open Go.RowKit
set_option linter.unusedVariables false
theorem pathOk_one (m:Nat):PathOk ([]++[((0:Nat):Int)]) m:=⟨List.pairwise_singleton _ _,fun x hx=>by have:=List.mem_singleton.1 hx; omega,fun x hx=>by have:=List.mem_singleton.1 hx; omega⟩
theorem PathOk.snoc {l:List Int} {m:Nat} {t a:Nat} (h:PathOk (l++[(t:Int)]) m) (hta:t < a) (ham:a≤m):PathOk ((l++[(t:Int)])++[(a:Int)]) m:=by
 refine ⟨List.pairwise_append.2 ⟨h.rise,List.pairwise_singleton _ _,fun x hx y hy=>?_⟩,fun x hx=>?_,fun x hx=>?_⟩
 ·rw [List.mem_singleton.1 hy]
  rcases List.mem_append.1 hx with q | q
  ·have:=(List.pairwise_append.1 h.rise).2.2 x q (t:Int) (by simp)
   omega
  ·rw [List.mem_singleton.1 q]; omega
 ·rcases List.mem_append.1 hx with q | q
  ·exact h.lo x q
  ·rw [List.mem_singleton.1 q]; omega
 ·rcases List.mem_append.1 hx with q | q
  ·exact h.hi x q
  ·rw [List.mem_singleton.1 q]; omega
set_option maxHeartbeats 8000000 in
theorem navBack_c (l m:List RawD) (sl sm:Value) (h:Vw) (hl:RS h 4 sl (l.map RawD.cs)) (hm:RS h 4 sm (m.map RawD.cs)) (ll:l.length * 40≤reachBytes) (lm:m.length * 40≤reachBytes) (ol:∀ r∈l,r.ok) (om:∀ r∈m,r.ok) :
  C0 Tryz.prog 14 #[sl,sm] h (fun v _=>v=.bool true):=by
 have hFi:=fun H q1 q2=>filled_any l m sl sm H q1 q2 ll lm ol om
 have hok:=form_okFm l
 obtain ⟨hS,ov⟩:=allF_sol l m (orcF_ok l m).has
 have la:=hS.len
 have m1:=hok.pages.one
 have mf:=hok.pages.few
 have hBn:=fun A c B d A1 c1 H q1 q2=>back_none (kQ l) _ _ A _ c B _ d (allF l m (orcF l m)) A1 c1 H hok q1 rfl rfl q2 la ov
 have hNx:=fun A c B d A1 c1 path A2 c2 t H q1 q2 q3 q4 q5=>next_any (kQ l) _ _ A _ c B _ d (allF l m (orcF l m)) A1 c1 path A2 c2 t H hok q1 rfl rfl q2 la ov q3 q4 q5
 have hBa:=fun A c B d A1 c1 path p a A2 np c2 H q1 q2 q3 q4 q5 q6=>back_any (kQ l) _ _ A _ c B _ d (allF l m (orcF l m)) A1 c1 path p a A2 np c2 H hok q1 rfl rfl q2 la ov q3 q4 q5 q6
 have hCk:=fun A c B d A1 c1 path A2 c2 a H q1 q2 q3 q4 q5=>mV (kQ l) _ _ A _ c B _ d (allF l m (orcF l m)) A1 c1 path A2 c2 a H hok q1 rfl rfl q2 la ov q3 q4 q5
 clear hS
 generalize allF l m (orcF l m)=va at *
 clear hok
 generalize kQ l=fm at *
 generalize hN:fm.fields.length=N at *
 generalize hM:fm.pages.length=M at *
 obtain ⟨A0,c0,rfl,-,-,-⟩:=hl.form
 obtain ⟨A1,c1,rfl,-,-,-⟩:=hm.form
 rw [List.length_map] at *
 rw [List.length_map] at *
 refine yX Tryz.func14 (c:=Tryz.f14.body.getD .skip) (N:=87) ?_
 intro hbx hbad Q hQ a w hJ
 refine rx' hJ false 9 [] [] (.ok (.ops [0,1] 2) [.seq [1,1]] [(16,.slice A0 l.length c0),(17,.slice A1 m.length c1)] [] []) (fun _=>by kernel_rfl) ?_
 clear hJ a w; intro a w hJ
 refine wX hJ 18 (hFi _ (hl.sees hJ.j.sees) (hm.sees hJ.j.sees)) (fun _=>by kernel_rfl) ?_; clear hJ a w; rintro _ h1 a w s2 ⟨A,c,B,d,A2,c2,rfl,hfm,hva⟩ hJ
 refine rx' hJ false 23 [.own,.b 0 0,.own,.b 0 0,.b 1 0,.b 0 0] [] (.new fun b3=>.new fun bw=>.ok (.ops [0,0,1,1,1] 3) [.seq [1,0,1,1,1],.seq [1,1,1,1]] [(5,Vp b3),(6,.slice A2 N c2),(7,.bool true),(8,Vp bw),(24,.agg #[.slice A N c,.slice B M d]),(25,.slice A2 N c2),(26,.agg #[Vi 0,Vz,.bool false])] [.box bw [Vi 0,Vz,.bool false],.box b3 [.slice A N c,.slice B M d]] []) (fun b3 bw _=>by kernel_rfl) ?_
 clear hJ a w; intro b3 bw a w hJ
 refine wX hJ 27 (hBn _ _ _ _ _ _ _ (hfm.sees hJ.j.sees) (hva.sees hJ.j.sees)) (fun _=>by kernel_rfl) ?_; clear hJ a w; rintro _ h4 a w s5 rfl hJ
 refine rk' hJ false 31 [.own,.b 0 0,.b 2 1] [] (.new fun b6=>.m (.code [0,1,0,1,1,1,1]) [.block 0,.seq [1,1,1,1,1]] [5,6,8] [(38,Vi (M:Int)),(39,Vi 0)] [.box b6 [Vi 0,Vz,.bool false],.box bw [Vi 0,Vz,.bool false],.box b3 [.slice A N c,.slice B M d]] []) (hr:=fun b6 _=>by kernel_rfl) ?_
 clear hJ a w; intro b6 a w hJ
 have hz:(((0:Nat):Int) == (M:Int))=false:=beq_eq_false_iff_ne.2 (by omega)
 refine eY (fun (k:Nat) a w=>∃ (h7:Vw) (t:Nat) (path:List Int) (A7:Option Addr) (c7:Nat) (dqn:Bool),K ⟨87,h.w,h.bad,[]⟩ [(5,Vp b3),(6,.slice A2 N c2),(8,Vp bw),(38,Vi (M:Int)),(39,Vi (k:Int))] [.box b6 [Vi 0,Vz,.bool false],.box bw [Vi (t:Int),.slice A7 path.length c7,.bool dqn],.box b3 [.slice A N c,.slice B M d]] [] h7 a w∧Sees h4 h7∧(k≤M)∧(path.length=k)∧(dqn=((t:Int) == (M:Int)))∧(RS h7 1 (.slice A7 path.length c7) (wW path))∧(PathOk (path++[(t:Int)]) M)) (fun k=>M - k) (0) ⟨h4,0,[],none,0,false,hJ.tw,Sees.refl _,Nat.zero_le _,rfl,hz.symm,RS.nil _ 1,pathOk_one M⟩ ?_
 clear hJ a w; rintro k a w ⟨h7,t,path,A7,c7,dqn,hJ,s8,hk,hlp,hdq,hp,pk⟩
 refine rk' hJ false 6 [] [] (.k (.code [0,1,0,0,1,0,1,1,1,1]) [.seq [1,1,0,0,1,0,1,1,1,1]] [5,6,8,38,39] [(40,.bool (decide ((k:Int) < (M:Int))))]) ?_
 clear hJ a w; intro a w hJ
 rcases (by omega:k < M∨k=M) with hlt | hke
 ·subst hdq
  have hNx1:=fun H q1 q2 q3=>hNx A c B d A2 c2 path A7 c7 t H q1 q2 q3 (by omega) pk
  refine kY hJ (t:=decide ((k:Int) < (M:Int))) (decide_eq_true (by omega)) ?_
  refine rk' hJ false 9 [.b 2 0,.b 1 0] [] (.k (.ops [0,0,0,1,1,0,0,1,0,1,1,1,1] 3) [.seq [1,0,0,1,1,0,0,1,0,1,1,1,1],.block 1,.seq [1,1,1,0,0,1,0,1,1,1,1]] [5,6,8,38,39] [(42,.agg #[.slice A N c,.slice B M d]),(43,.slice A2 N c2),(44,.agg #[Vi (t:Int),.slice A7 path.length c7,.bool ((t:Int) == (M:Int))])]) ?_
  clear hJ a w; intro a w hJ
  refine wX hJ 45 (hNx1 _ (hfm.sees (s5.trans (s8.trans hJ.j.sees))) (hva.sees (s5.trans (s8.trans hJ.j.sees))) (hp.sees hJ.j.sees)) (fun _=>by kernel_rfl) ?_; clear hJ a w; rintro _ h9 a w s10 ⟨eqn,aqn,uqn,bqn,rfl,hnx⟩ hJ
  refine rk' hJ false 15 [.own,.b 0 0] [] (.new fun b11=>.m (.code [1,0,1,0,0,1,1,0,0,1,0,1,1,1,1]) [.seq [1,1,0,0,1,1,0,0,1,0,1,1,1,1],.block 1,.seq [1,1,1,0,0,1,0,1,1,1,1]] [5,6,8,38,39] [(11,Vp b11),(49,.bool (eqn != 0))] [.box b11 [Vi aqn,.slice (sA uqn) (sN uqn) (sC uqn),.bool bqn],.box b6 [Vi 0,Vz,.bool false],.box bw [Vi (t:Int),.slice A7 path.length c7,.bool ((t:Int) == (M:Int))],.box b3 [.slice A N c,.slice B M d]] []) (hr:=fun b11 _=>by kernel_rfl) ?_
  clear hJ a w; intro b11 a w hJ
  by_cases ge:eqn=0
  ·obtain ⟨q1,q2,hb,hr⟩:=hnx ge
   obtain ⟨a',ha'⟩:∃ a':Nat,aqn=(a':Int):=⟨aqn.toNat,by omega⟩
   subst hb
   subst ha'
   have hll:(path++[(t:Int)]).length=path.length + 1:=by simp
   have eu:sN uqn=path.length + 1:=by
    obtain ⟨A',c',e',-⟩:=hr.form
    simp only [Value.slice.injEq] at e'
    rw [e'.2.1,List.length_map,hll]
   rw [eu] at hJ hr
   clear hnx
   generalize sA uqn=A9 at *
   generalize sC uqn=c9 at *
   have pk2:=pk.snoc (a:=a') (by omega) (by omega)
   have hBa1:=fun H q1 q2 q3=>hBa A c B d A2 c2 path (t:Int) (a':Int) A9 path.length c9 H q1 q2 rfl q3 (by omega) pk2
   have hCk1:=fun H q1 q2 q3=>hCk A c B d A2 c2 (path++[(t:Int)]) A9 c9 (a':Int) H q1 q2 q3 (by omega) pk2
   rw [hll] at hCk1
   refine aY hJ (t:=eqn != 0) ((by rw [bne_eq_false_iff_eq]; exact ge)) ?_
   refine rk' hJ false 7 [.b 3 0,.b 0 0] [] (.k (.ops [0,1,1,0,0,1,1,0,0,1,0,1,1,1,1] 3) [.seq [1,1,1,0,0,1,1,0,0,1,0,1,1,1,1],.block 1,.seq [1,1,1,0,0,1,0,1,1,1,1]] [5,6,8,38,39,11] [(51,.agg #[.slice A N c,.slice B M d]),(52,.slice A2 N c2),(53,.agg #[Vi (a':Int),.slice A9 (path.length + 1) c9,.bool ((a':Int) == (M:Int))])]) ?_
   clear hJ a w; intro a w hJ
   refine wX hJ 54 (hBa1 _ (hfm.sees (s5.trans (s8.trans (s10.trans hJ.j.sees)))) (hva.sees (s5.trans (s8.trans (s10.trans hJ.j.sees)))) (hr.sees hJ.j.sees)) (fun _=>by kernel_rfl) ?_; clear hJ a w; rintro _ h12 a w s13 ⟨u2,rfl,hr2⟩ hJ
   refine rk hJ false 54 [.own,.b 0 0,.b 0 0,.b 3 0,.b 0 2,.b 0 1,.b 3 1,.cl 49 #[.slice (sA u2) (sN u2) (sC u2),.slice A7 path.length c7] (.bool true),.b 4 0,.b 1 0,.cl 52 #[.agg #[.slice A N c,.slice B M d],.slice A2 N c2,.agg #[Vi (a':Int),.slice A9 (path.length + 1) c9,.bool ((a':Int) == (M:Int))]] (Vi 0),.b 1 0,.b 3 0] [(64,.bool ((t:Int) != (t:Int)),.bool false),(86,Vi (IntKind.i64.wrap ((k:Int) + 1)),Vi ((k:Int) + 1))] (.new fun b14=>.m (.out .normal) [] [5,6,8,38] [(39,Vi ((k:Int) + 1))] [.box b14 [Vi (t:Int),.slice (sA u2) (sN u2) (sC u2),.bool false],.box b11 [Vi (a':Int),.slice A9 (path.length + 1) c9,.bool ((a':Int) == (M:Int))],.box b6 [Vi 0,Vz,.bool false],.box bw [Vi (a':Int),.slice A9 (path.length + 1) c9,.bool ((a':Int) == (M:Int))],.box b3 [.slice A N c,.slice B M d]] []) (And.intro (fun H sH=>eqI_any path path _ _ _ (hr2.sees sH) (hp.sees (s10.trans (s13.trans sH))) (by omega) rfl) (And.intro (fun H sH=>hCk1 _ (hfm.sees (s5.trans (s8.trans (s10.trans (s13.trans sH))))) (hva.sees (s5.trans (s8.trans (s10.trans (s13.trans sH))))) (hr.sees (s13.trans sH))) (trivial))) (And.intro (congrArg Value.bool (by simp)) (And.intro (kJ (by omega) (by omega)) (trivial))) (fun b14 _=>by kernel_rfl) ?_
   clear hJ a w; intro b14 a w hJ
   replace hJ:=hJ.drop 1
   replace hJ:=hJ.drop 0
   exact jY ⟨k + 1,⟨h12,a',path++[(t:Int)],A9,c9,((a':Int) == (M:Int)),hJ.to (by kernel_rfl) (by rw [hll]; rfl) rfl,(s8.trans (s10.trans s13)),by omega,by rw [hll]; omega,rfl,by rw [hll]; exact (hr.sees s13),pk2⟩,by omega⟩
  ·skip
   refine kY hJ (t:=eqn != 0) (bne_iff_ne.2 ge) ?_
   refine rk' hJ false 4 [] [] (.k (.out (.exit 0)) [] [] []) ?_
   clear hJ a w; intro a w hJ
   refine dY rfl ?_
   refine rk' hJ false 8 [] [] (.k (.out .ret) [] [] [(4,.bool true)]) ?_
   clear hJ a w; intro a w hJ
   refine zX (hQ [.bool true] _ [] hJ (.rtm hJ.j .nil) (fJ _) rfl ?_).1
   exact rfl
 ·skip
  refine aY hJ (t:=decide ((k:Int) < (M:Int))) (decide_eq_false (by omega)) ?_
  refine rx' hJ false 2 [] [] (.ok (.out (.exit 0)) [] [] [.box b6 [Vi 0,Vz,.bool false],.box bw [Vi (t:Int),.slice A7 path.length c7,.bool dqn],.box b3 [.slice A N c,.slice B M d]] []) (fun _=>by kernel_rfl) ?_
  clear hJ a w; intro a w hJ
  refine dY rfl ?_
  refine rk' hJ false 8 [] [] (.k (.out .ret) [] [] [(4,.bool true)]) ?_
  clear hJ a w; intro a w hJ
  refine zX (hQ [.bool true] _ [] hJ (.rtm hJ.j .nil) (fJ _) rfl ?_).1
  exact rfl
theorem navBack_walk (v:Value) (l:List RawD) (v':Value) (m:List RawD) (w:World) (h:RawsOf w v l) (h':RawsOf w v' m) :
  Calls Tryz.prog 14 #[v,v'] w fun e w'=>e=.returned (.bool true)∧Below w.heap.size w w' :=
 C0.law (navBack_c l m v v' ⟨w,[]⟩ h.rs h'.rs h.2.1 h'.2.1 h.2.2 h'.2.2)
namespace navBackLaw
open Go.ChangeShapes Go.WideShapes Go.ChangeAt Go.RowKit
open Go.ChangeMaps (open_string shut_string)
set_option linter.unusedVariables false
theorem lifted (os:Os) (started:os.Started) (H:Type) (enc:TypeId × Value→H) :
  ReturnsInHanded {} Tryz.checked os 14 .any (Rows.navBackSpec.pre6 enc Tryz.prog Tryz.f14 Rows.navBackRow.domain false) (Rows.navBackSpec.post enc Tryz.prog Tryz.f14 false true false false):=by
 refine returnsInHanded_of_change_sized (C:=Tryz.checked) ownNone started (by kernel_rfl) Tryz.func14
  (ChangeSpec.witness6 (enc:=enc) (C:=Tryz.checked) false ⟨#[],#[.slice none 0 0,.slice none 0 0],[]⟩ 8 (by kernel_rfl) (by kernel_rfl) (by kernel_rfl) (by kernel_rfl)) ?_
 intro W base args ds gs before hval0 hW hcnd hsz0 _
 have hval:∀ (j:Nat) t v,Tryz.f14.params[j]?=some t→args[j]?=some v→Value.okWide Tryz.prog W .any base t v:=hval0
 have hsz:(DataW.weightsEach Tryz.prog (Tryz.f14.params.toList++Rows.navBackSpec.plain.varTypes Tryz.prog) (ds++gs)).all (· ≤ reachBytes)=true:=hsz0
 have hW':=hW
 obtain ⟨p,q,hA0,hV,rfl,hfz,hnd⟩:=hW
 have hA:DataW.TrodAll enc Tryz.prog W 0 (fun _=>true) true Tryz.f14.params.toList args.toList ds p:=hA0
 rw [Tryz.params14] at hA hval hsz
 obtain ⟨v0,vs0,d0,ds0,p0,q0,hargs,rfl,rfl,h0,r0⟩:=trodAll_cons hA
 obtain ⟨v1,vs1,d1,ds1,p1,q1,rfl,rfl,rfl,h1,r1⟩:=trodAll_cons r0
 obtain ⟨rfl,rfl,rfl⟩:=trodAll_nil r1
 obtain rfl:args=#[v0,v1]:=by cases args; simp_all
 obtain ⟨rfl,rfl⟩:=trodVars_none hV
 have k0:=h0
 have lt0:∀ x∈p0,x.block < W.heap.size:=by obtain ⟨m,hm⟩:=k0; exact DataW.trod_lt m _ _ _ hm
 obtain ⟨a0,w0⟩:=open_rows (hval 0 22 v0 rfl rfl) h0 (fun es ss hd=>sized_slice hsz (j:=0) (t:=22) (elems:=es) (spare:=ss) rfl (by rw [hd]; rfl) Tryz.underlying22)
 have k1:=h1
 have lt1:∀ x∈p1,x.block < W.heap.size:=by obtain ⟨m,hm⟩:=k1; exact DataW.trod_lt m _ _ _ hm
 obtain ⟨a1,w1⟩:=open_rows (hval 1 22 v1 rfl rfl) h1 (fun es ss hd=>sized_slice hsz (j:=1) (t:=22) (elems:=es) (spare:=ss) rfl (by rw [hd]; rfl) Tryz.underlying22)
 clear hA0 hval0 hsz0
 refine (navBack_walk v0 a0 v1 a1 W w0 w1).mono fun e W' ⟨he,bel⟩=>?_
 subst he
 exact ⟨_,rfl,_,_,_,[],_,[],hW',trodAll_mk1 (shut_bool Tryz.underlying4 _),(trodAll_cons_mk (Below.trod laidOutTrue (by kernel_rfl) (of_decide_eq_true (by kernel_rfl)) k0 bel lt0) (trodAll_cons_mk (Below.trod laidOutTrue (by kernel_rfl) (of_decide_eq_true (by kernel_rfl)) k1 bel lt1) trodAll_mk0)),rfl,bel.frame _,fun h=>by cases h⟩
theorem over:Rows.navBackRow.holds Tryz.pinned (OpenSpec.ofChange Rows.navBackSpec) :=
 OpenClaim.holds_of_wide 14 Tryz.f14 rfl rfl rfl rfl rfl rfl rfl ⟨rfl,rfl,rfl,rfl,rfl⟩ rfl rfl rfl rfl rfl (by kernel_rfl) Tryz.func14 (by kernel_rfl)
  (of_decide_eq_true (by kernel_rfl)) (by unfold Func.isWrapper; first | (rw [if_pos (by decide +kernel)]; kernel_rfl) | (rw [if_neg (by decide +kernel)]; exact ⟨rfl,rfl⟩))
  (fun os started H enc _=>lifted os started H enc)
end navBackLaw
theorem navBack_holds:Rows.NavBackSaid:=navBackLaw.over
#print axioms navBack_holds
end Go.Proofs.YthckljafinhepaaGreat
