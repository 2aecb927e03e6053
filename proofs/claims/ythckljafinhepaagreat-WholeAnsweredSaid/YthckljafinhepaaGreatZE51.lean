/-
  For all raw things WholeAnswered returns true: if the oracle has a result for every key, no field is pending. No condition.
-/
import Derived.Test.YthckljafinhepaaGreatZE48
import Derived.Test.YthckljafinhepaaGreatZE50
namespace Go.Proofs.YthckljafinhepaaGreat
open Go.RowKit
set_option linter.unusedVariables false

theorem pend1_any (v:Vl) (h:Vw):C0 Tryz.prog 23 #[.agg #[.int .i64 v.k,.int .i64 v.n,.string v.s]] h (fun r _=>r=.bool (v.k == 4)):=by
 refine x_con' Tryz.func23 (c:=Tryz.f23.body.getD .skip) (N:=6) ?_
 intro hbx hbad Q hQ a w hJ
 replace hJ:K ⟨6,h.w,h.bad,[]⟩ [(0,.agg #[Vi v.k,Vi v.n,.string v.s])] [] [] h a w:=hJ.tw
 refine rx' hJ false 15 [.own,.b 0 0] [] (.new fun b1=>.ok (.out .ret) [] [(2,.bool (v.k == 4))] [.box b1 [Vi v.k,Vi v.n,.string v.s]] []) (fun b1 _=>by kernel_rfl) ?_
 clear hJ a w; intro b1 a w hJ
 refine x_end (hQ [.bool (v.k == 4)] _ [] hJ (.rtm hJ.j .nil) (no_own _) rfl ?_).1
 exact rfl
set_option maxRecDepth 100000 in
theorem idxPend_any (l:List Vl) (A:Option Addr) (n c:Nat) (h:Vw) (hr:RS h 3 (.slice A n c) (vlRows l)) (hn:n=l.length) (hl:n≤1000000) (hno:∀ x∈l,x.k≠4) :
  C0 Tryz.prog 64 #[.slice A n c,.func (.func 23) #[] #[]] h (fun r _=>r=.int .i64 (-1)):=by
 refine x_con' Tryz.func64 (c:=Tryz.f64.body.getD .skip) (N:=19) ?_
 intro hbx hbad Q hQ a w hJ
 replace hJ:K ⟨19,h.w,h.bad,[]⟩ [(0,.slice A n c),(1,.func (.func 23) #[] #[])] [] [] h a w:=hJ.tw
 refine rk' hJ false 14 [] [] (.k (.code [0,1,0,1]) [.block 0,.seq [1,1]] [0,1] [(7,Vi (n:Int)),(8,Vi 0)]) ?_
 clear hJ a w; intro a w hJ
 refine x_loop' (fun (k:Nat) a w=>∃ (h1:Vw) ,K ⟨19,h.w,h.bad,[]⟩ [(0,.slice A n c),(1,.func (.func 23) #[] #[]),(7,Vi (n:Int)),(8,Vi (k:Int))] [] [] h1 a w∧Sees h h1∧(k≤n)) (fun k=>n - k) (0) ⟨h,hJ.tw,Sees.refl _,Nat.zero_le _⟩ ?_
 clear hJ a w; rintro k a w ⟨h1,hJ,s2,hk⟩
 refine rk' hJ false 6 [] [] (.k (.code [0,1,0,0,1,0,1]) [.seq [1,1,0,0,1,0,1]] [0,1,7,8] [(9,.bool (decide ((k:Int) < (n:Int))))]) ?_
 clear hJ a w; intro a w hJ
 rcases (by omega:k < n∨k=n) with hlt | hke
 ·obtain ⟨x,hx⟩:∃ x,l[k]?=some x:=⟨_,List.getElem?_eq_getElem (by omega)⟩
  have hrow:=vlRows_get hx
  have hp:=fun H=>pend1_any x H
  rw [beq_eq_false_iff_ne.2 (hno x (List.mem_of_getElem? hx))] at hp
  refine x_tru hJ (t:=decide ((k:Int) < (n:Int))) (decide_eq_true (by omega)) ?_
  refine rk' hJ false 15 [] [] (.k (.ops [0,1,0,0,1,1,0,0,1,0,1] 3) [.seq [1,1,0,0,1,1,0,0,1,0,1],.block 1,.seq [1,1,1,0,0,1,0,1]] [0,1,7,8] [(5,Vi (k:Int)),(11,.func (.func 23) #[] #[]),(12,.slice A n c),(13,Vi (k:Int))]) ?_
  clear hJ a w; intro a w hJ
  obtain ⟨b3,o4,rfl,-,c5⟩:=RS.row hr (hrow)
  replace hJ:=hJ.fact (c5.sees s2)
  refine rk' hJ false 13 [.ix b3 o4 n c k,.f 0 0,.cl 23 #[.agg #[Vi x.k,Vi x.n,.string x.s]] (.bool false)] [(18,Vi (IntKind.i64.wrap ((k:Int) + 1)),Vi ((k:Int) + 1))] (.k (.out .normal) [] [0,1,7] [(8,Vi ((k:Int) + 1))]) (ho:=And.intro (by first | omega | (simp; omega)) (And.intro (fun H sH=>hp _) (trivial))) (hc:=And.intro (i64_wrap (by omega) (by omega)) (trivial)) ?_
  clear hJ a w; intro a w hJ
  exact x_round ⟨k + 1,⟨h1,(hJ.tof [] (F':=[]) (by kernel_rfl)).to (by kernel_rfl) (by kernel_rfl) rfl,s2,by omega⟩,by omega⟩
 ·skip
  refine x_fal hJ (t:=decide ((k:Int) < (n:Int))) (decide_eq_false (by omega)) ?_
  refine rx' hJ false 2 [] [] (.ok (.out (.exit 0)) [] [] [] []) (fun _=>by kernel_rfl) ?_
  clear hJ a w; intro a w hJ
  refine x_leave rfl ?_
  refine rx' hJ false 8 [] [] (.ok (.out .ret) [] [(4,Vi (-1))] [] []) (fun _=>by kernel_rfl) ?_
  clear hJ a w; intro a w hJ
  refine x_end (hQ [Vi (-1)] _ [] hJ (.rtm hJ.j .nil) (no_own _) rfl ?_).1
  exact rfl
theorem contPend_any (l:List Vl) (A:Option Addr) (n c:Nat) (h:Vw) (hr:RS h 3 (.slice A n c) (vlRows l)) (hn:n=l.length) (hl:n≤1000000) (hno:∀ x∈l,x.k≠4) :
  C0 Tryz.prog 22 #[.slice A n c,.func (.func 23) #[] #[]] h (fun r _=>r=.bool false):=by
 have hi:=fun H q1=>idxPend_any l A n c H q1 hn hl hno
 refine x_con' Tryz.func22 (c:=Tryz.f22.body.getD .skip) (N:=9) ?_
 intro hbx hbad Q hQ a w hJ
 replace hJ:K ⟨9,h.w,h.bad,[]⟩ [(0,.slice A n c),(1,.func (.func 23) #[] #[])] [] [] h a w:=hJ.tw
 refine rx' hJ false 15 [.cl 64 #[.slice A n c,.func (.func 23) #[] #[]] (Vi (-1))] [] (.ok (.out .ret) [] [(4,.bool false)] [] []) (ho:=And.intro (fun H sH=>hi _ (hr.sees sH)) (trivial)) (fun _=>by kernel_rfl) ?_
 clear hJ a w; intro a w hJ
 refine x_end (hQ [.bool false] _ [] hJ (.rtm hJ.j .nil) (no_own _) rfl ?_).1
 exact rfl

set_option maxHeartbeats 4000000 in
set_option maxRecDepth 100000 in
theorem wholeAnswered_c (l m:List RawD) (sl sm:Value) (h:Vw) (hl:RS h 4 sl (l.map RawD.cs)) (hm:RS h 4 sm (m.map RawD.cs)) (ll:l.length * 40≤reachBytes) (lm:m.length * 40≤reachBytes) (ol:∀ r∈l,r.ok) (om:∀ r∈m,r.ok) :
  C0 Tryz.prog 4 #[sl,sm] h (fun v _=>v=.bool true):=by
 have hF:=form_c l sl
 have hlen:=form_len l
 have hnl:=nFields_le l
 have hty:=form_ty l
 have hOr:=oracle_form l m
 have hA:=all_orc l m (orcF l m) (orcF_ok l m) (by have:=orcF_len l m; omega)
 have hva:=(allF_sol l m (orcF_ok l m).has).1.len
 have hno:∀ x∈allF l m (orcF l m),x.k≠4:=(form_wh l m).answered fun i hi=>by rw [form_len] at hi ⊢; exact lvF_lt l hi
 have hfew:=(inp_ok l m).few
 generalize allF l m (orcF l m)=va at *
 generalize orcF l m=orc at *
 generalize formE l=fm at *
 have hin:=fun H fv pv q1 q2 q3=>inputs_any fm.fields pv fv m sm H q1 q2 (by omega) hty q3 lm om
 generalize inpE fm.fields m=env at *
 have erl:(fcRows env).length=env.length:=List.length_map _
 have hC:=fun A n c H q1 (q2:n=va.length)=>contPend_any va A n c H q1 q2 (by omega) hno
 obtain ⟨A0,c0,rfl,-,-,-⟩:=hl.form
 obtain ⟨A1,c1,rfl,-,-,-⟩:=hm.form
 rw [List.length_map] at *
 rw [List.length_map] at *
 generalize hN:fm.fields.length=N at *
 generalize hNo:orc.length=No at *
 refine x_con' Tryz.func4 (c:=Tryz.f4.body.getD .skip) (N:=42) ?_
 intro hbx hbad Q hQ a w hJ
 replace hJ:K ⟨42,h.w,h.bad,[]⟩ [(0,.slice A0 l.length c0),(1,.slice A1 m.length c1)] [] [] h a w:=hJ.tw
 refine rk' hJ false 8 [] [] (.k (.ops [0,1] 1) [.seq [1,1]] [1] [(11,.slice A0 l.length c0)]) ?_
 clear hJ a w; intro a w hJ
 refine x_call hJ 12 (hF _ (hl.sees hJ.j.sees) ll ol) (fun _=>by kernel_rfl) ?_; clear hJ a w; rintro _ h1 a w s2 ⟨A,c,B,d,rfl,hfm⟩ hJ
 refine rx' hJ false 8 [.own,.b 0 0,.b 0 0] [] (.new fun b3=>.ok (.ops [0,1,1] 2) [.seq [1,1,1]] [(5,Vp b3),(13,.agg #[.slice A N c,.slice B fm.pages.length d]),(14,.slice A1 m.length c1)] [.box b3 [.slice A N c,.slice B fm.pages.length d]] []) (fun b3 _=>by kernel_rfl) ?_
 clear hJ a w; intro b3 a w hJ
 refine x_callrow hJ 15 (hin _ _ (.slice B fm.pages.length d) ((hfm.sees hJ.j.sees)).fields rfl (hm.sees (s2.trans hJ.j.sees))) (fun _=>by kernel_rfl) ?_; clear hJ a w; rintro v _ a w rfl hJ
 refine rk' hJ false 7 [.b 1 0] [] (.k (.ops [0,1,1,1] 2) [.seq [1,1,1,1]] [5] [(6,v),(17,.agg #[.slice A N c,.slice B fm.pages.length d]),(18,v)]) ?_
 clear hJ a w; intro a w hJ
 obtain ⟨Av,cv,hE_v,hc_v,hm_v⟩:=hJ.form (v:=v) (e:=54) (k:=7) (l:=fcRows env) 0 (by kernel_rfl)
 rw [show (fcRows env).length=env.length from by first | omega | (simp; done) | (simp; omega)] at hE_v hc_v
 rw [hE_v] at hJ
 obtain ⟨h4,s5,fin,hJn⟩:=hJ.frozen (v:=.slice Av env.length cv) (e:=54) (k:=7) (l:=fcRows env) 0 (by kernel_rfl) (hJ.j.rowOut0 (v:=.slice Av env.length cv) (e:=54) (k:=7) (l:=fcRows env) 0 (by kernel_rfl) rfl); clear hJ; have hJ:=hJn; clear hJn
 refine x_call hJ 19 (hOr _ _ _ _ _ _ (hfm.sees (s5.trans hJ.j.sees)) (fin.sees hJ.j.sees)) (fun _=>by kernel_rfl) ?_; clear hJ a w; rintro _ h6 a w s7 ⟨Ao,co,rfl,hro⟩ hJ
 refine rk' hJ false 12 [.b 0 0] [] (.k (.ops [0,1,1,1,1] 3) [.seq [1,1,1,1,1]] [] [(8,.bool true),(23,.agg #[.slice A N c,.slice B fm.pages.length d]),(24,.slice Av env.length cv),(25,.slice Ao No co)]) ?_
 clear hJ a w; intro a w hJ
 refine x_call hJ 26 (hA _ _ _ _ _ _ _ (hfm.sees (s5.trans (s7.trans hJ.j.sees))) (fin.sees (s7.trans hJ.j.sees)) (hro.sees hJ.j.sees)) (fun _=>by kernel_rfl) ?_; clear hJ a w; rintro _ h8 a w s9 ⟨A2,c2,rfl,hva2⟩ hJ
 refine rk' hJ false 9 [] [] (.k (.ops [0,1,1,1,1,1] 0) [.seq [1,1,1,1,1,1]] [8] [(9,.slice A2 N c2),(10,Vi 0)]) ?_
 clear hJ a w; intro a w hJ
 refine rk' hJ false 17 [.cl 19 #[] (.bool true),.cl 22 #[.slice A2 N c2,.func (.func 23) #[] #[]] (.bool false)] [] (.k (.out .ret) [] [] [(4,.bool true)]) (ho:=And.intro (fun H sH=>known_any _) (And.intro (fun H sH=>hC _ _ _ _ (hva2.sees sH) hva.symm) (trivial))) ?_
 clear hJ a w; intro a w hJ
 refine x_end (hQ [.bool true] _ [] hJ (.rtm hJ.j .nil) (no_own _) rfl ?_).1
 exact rfl

theorem wholeAnswered_walk (v:Value) (l:List RawD) (v':Value) (m:List RawD) (w:World) (h:RawsOf w v l) (h':RawsOf w v' m) :
  Calls Tryz.prog 4 #[v,v'] w fun e w'=>e=.returned (.bool true)∧Below w.heap.size w w' :=
 C0.law (wholeAnswered_c l m v v' ⟨w,[]⟩ h.rs h'.rs h.2.1 h'.2.1 h.2.2 h'.2.2)

namespace wholeAnsweredLaw
open Go.ChangeShapes Go.WideShapes Go.ChangeAt Go.RowKit
open Go.ChangeMaps (open_string shut_string)
set_option linter.unusedVariables false

set_option maxRecDepth 100000 in
theorem lifted (os:Os) (started:os.Started) (H:Type) (enc:TypeId × Value→H) :
  ReturnsInHanded {} Tryz.checked os 4 .any (Rows.wholeAnsweredSpec.pre6 enc Tryz.prog Tryz.f4 Rows.wholeAnsweredRow.domain false) (Rows.wholeAnsweredSpec.post enc Tryz.prog Tryz.f4 false true false false):=by
 refine returnsInHanded_of_change_sized (C:=Tryz.checked) ownNone started (by kernel_rfl) Tryz.func4
  (ChangeSpec.witness6 (enc:=enc) (C:=Tryz.checked) false ⟨#[],#[.slice none 0 0,.slice none 0 0],[]⟩ 8 (by kernel_rfl) (by kernel_rfl) (by kernel_rfl) (by kernel_rfl)) ?_
 intro W base args ds gs before hval0 hW hcnd hsz0 _
 have hval:∀ (j:Nat) t v,Tryz.f4.params[j]?=some t→args[j]?=some v→Value.okWide Tryz.prog W .any base t v:=hval0
 have hsz:(DataW.weightsEach Tryz.prog (Tryz.f4.params.toList++Rows.wholeAnsweredSpec.plain.varTypes Tryz.prog) (ds++gs)).all (· ≤ reachBytes)=true:=hsz0
 have hW':=hW
 obtain ⟨p,q,hA0,hV,rfl,hfz,hnd⟩:=hW
 have hA:DataW.TrodAll enc Tryz.prog W 0 (fun _=>true) true Tryz.f4.params.toList args.toList ds p:=hA0
 rw [Tryz.params4] at hA hval hsz
 obtain ⟨v0,vs0,d0,ds0,p0,q0,hargs,rfl,rfl,h0,r0⟩:=trodAll_cons hA
 obtain ⟨v1,vs1,d1,ds1,p1,q1,rfl,rfl,rfl,h1,r1⟩:=trodAll_cons r0
 obtain ⟨rfl,rfl,rfl⟩:=trodAll_nil r1
 obtain rfl:args=#[v0,v1]:=by cases args; simp_all
 obtain ⟨rfl,rfl⟩:=trodVars_none hV
 have k0:=h0
 have lt0:∀ x∈p0,x.block < W.heap.size:=by obtain ⟨m,hm⟩:=k0; exact DataW.trod_lt m _ _ _ hm
 obtain ⟨a0,w0⟩:=open_rows (hval 0 22 v0 rfl rfl) h0 (fun es ss hd=>sized_slice hsz (j:=0) (t:=22) (elems:=es) (spare:=ss) rfl (by rw [hd]; rfl) Tryz.underlying22)
 have k1:=h1
 have lt1:∀ x∈p1,x.block < W.heap.size:=by obtain ⟨m,hm⟩:=k1; exact DataW.trod_lt m _ _ _ hm
 obtain ⟨a1,w1⟩:=open_rows (hval 1 22 v1 rfl rfl) h1 (fun es ss hd=>sized_slice hsz (j:=1) (t:=22) (elems:=es) (spare:=ss) rfl (by rw [hd]; rfl) Tryz.underlying22)
 clear hA0 hval0 hsz0
 refine (wholeAnswered_walk v0 a0 v1 a1 W w0 w1).mono fun e W' ⟨he,bel⟩=>?_
 subst he
 exact ⟨_,rfl,_,_,_,[],_,[],hW',trodAll_mk1 (shut_bool Tryz.underlying4 _),(trodAll_cons_mk (Below.trod laidOutTrue (by kernel_rfl) (of_decide_eq_true (by kernel_rfl)) k0 bel lt0) (trodAll_cons_mk (Below.trod laidOutTrue (by kernel_rfl) (of_decide_eq_true (by kernel_rfl)) k1 bel lt1) trodAll_mk0)),rfl,bel.frame _,fun h=>by cases h⟩

theorem over:Rows.wholeAnsweredRow.holds Tryz.pinned (OpenSpec.ofChange Rows.wholeAnsweredSpec) :=
 OpenClaim.holds_of_wide 4 Tryz.f4 rfl rfl rfl rfl rfl rfl rfl ⟨rfl,rfl,rfl,rfl,rfl⟩ rfl rfl rfl rfl rfl (by kernel_rfl) Tryz.func4 (by kernel_rfl)
  (of_decide_eq_true (by kernel_rfl)) (by unfold Func.isWrapper; first | (rw [if_pos (by decide +kernel)]; kernel_rfl) | (rw [if_neg (by decide +kernel)]; exact ⟨rfl,rfl⟩))
  (fun os started H enc _=>lifted os started H enc)

end wholeAnsweredLaw
theorem wholeAnswered_holds:Rows.WholeAnsweredSaid:=wholeAnsweredLaw.over
#print axioms wholeAnswered_holds
end Go.Proofs.YthckljafinhepaaGreat
