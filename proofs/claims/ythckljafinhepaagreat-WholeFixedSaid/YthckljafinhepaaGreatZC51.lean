/-
  For all raw things WholeFixed returns true: the value of every field is the one that follows from the values of the others. No condition.
-/
import Derived.Test.YthckljafinhepaaGreatZC48
import Derived.Test.YthckljafinhepaaGreatZC50
namespace Go.Proofs.YthckljafinhepaaGreat
open Go.RowKit
set_option linter.unusedVariables false

set_option maxHeartbeats 4000000 in
set_option maxRecDepth 100000 in
theorem wholeFixed_c (l m:List RawD) (sl sm:Value) (h:Vw) (hl:RS h 4 sl (l.map RawD.cs)) (hm:RS h 4 sm (m.map RawD.cs)) (ll:l.length * 40≤reachBytes) (lm:m.length * 40≤reachBytes) (ol:∀ r∈l,r.ok) (om:∀ r∈m,r.ok) :
  C0 Tryz.prog 3 #[sl,sm] h (fun v _=>v=.bool true):=by
 have hF:=form_c l sl
 have hlen:=form_len l
 have hnl:=nFields_le l
 have hty:=form_ty l
 have hOr:=oracle_form l m
 have hA:=all_orc l m (orcF l m) (orcF_ok l m) (by have:=orcF_len l m; omega)
 obtain ⟨hS,hSo⟩:=allF_sol l m (orcF_ok l m).has
 have hI:=inp_ok l m
 have hok:=(form_okFm l).fields.each
 have hol:=orcF_len l m
 generalize allF l m (orcF l m)=va at *
 generalize orcF l m=orc at *
 generalize formE l=fm at *
 have hin:=fun H fv pv q1 q2 q3=>inputs_any fm.fields pv fv m sm H q1 q2 (by omega) hty q3 lm om
 generalize inpE fm.fields m=env at *
 have erl:(fcRows env).length=env.length:=List.length_map _
 have hfew:=hI.few
 have hva:=hS.len
 have hFa:=fun A n c A1 c1 H q1 (q2:n=fm.fields.length) q3=>facts_l fm.fields va A n c A1 c1 H q1 q2 (by omega) q3 (by omega)
 have hOne:=fun x (hx:x∈fm.fields) v si so sk H q1 q2 q3 q4=>one_any fm.fields x v env si orc so (fcs fm.fields va) sk H (hok x hx) q1 q2 q3 q4 (by omega) (by omega) (by rw [fcs_len hva]; omega) (fcs_ok hSo)
 obtain ⟨A0,c0,rfl,-,-,-⟩:=hl.form
 obtain ⟨A1,c1,rfl,-,-,-⟩:=hm.form
 rw [List.length_map] at *
 rw [List.length_map] at *
 generalize hN:fm.fields.length=N at *
 generalize hNo:orc.length=No at *
 refine x_con' Tryz.func3 (c:=Tryz.f3.body.getD .skip) (N:=71) ?_
 intro hbx hbad Q hQ a w hJ
 replace hJ:K ⟨71,h.w,h.bad,[]⟩ [(0,.slice A0 l.length c0),(1,.slice A1 m.length c1)] [] [] h a w:=hJ.tw
 refine rk' hJ false 8 [] [] (.k (.ops [0,1] 1) [.seq [1,1]] [1] [(13,.slice A0 l.length c0)]) ?_
 clear hJ a w; intro a w hJ
 refine x_call hJ 14 (hF _ (hl.sees hJ.j.sees) ll ol) (fun _=>by kernel_rfl) ?_; clear hJ a w; rintro _ h1 a w s2 ⟨A,c,B,d,rfl,hfm⟩ hJ
 refine rx' hJ false 8 [.own,.b 0 0,.b 0 0] [] (.new fun b3=>.ok (.ops [0,1,1] 2) [.seq [1,1,1]] [(5,Vp b3),(15,.agg #[.slice A N c,.slice B fm.pages.length d]),(16,.slice A1 m.length c1)] [.box b3 [.slice A N c,.slice B fm.pages.length d]] []) (fun b3 _=>by kernel_rfl) ?_
 clear hJ a w; intro b3 a w hJ
 refine x_callrow hJ 17 (hin _ _ (.slice B fm.pages.length d) ((hfm.sees hJ.j.sees)).fields rfl (hm.sees (s2.trans hJ.j.sees))) (fun _=>by kernel_rfl) ?_; clear hJ a w; rintro v _ a w rfl hJ
 refine rk' hJ false 7 [.b 1 0] [] (.k (.ops [0,1,1,1] 2) [.seq [1,1,1,1]] [5] [(6,v),(19,.agg #[.slice A N c,.slice B fm.pages.length d]),(20,v)]) ?_
 clear hJ a w; intro a w hJ
 obtain ⟨Av,cv,hE_v,hc_v,hm_v⟩:=hJ.form (v:=v) (e:=54) (k:=7) (l:=fcRows env) 0 (by kernel_rfl)
 rw [show (fcRows env).length=env.length from by first | omega | (simp; done) | (simp; omega)] at hE_v hc_v
 rw [hE_v] at hJ
 obtain ⟨h4,s5,fin,hJn⟩:=hJ.frozen (v:=.slice Av env.length cv) (e:=54) (k:=7) (l:=fcRows env) 0 (by kernel_rfl) (hJ.j.rowOut0 (v:=.slice Av env.length cv) (e:=54) (k:=7) (l:=fcRows env) 0 (by kernel_rfl) rfl); clear hJ; have hJ:=hJn; clear hJn
 refine x_call hJ 21 (hOr _ _ _ _ _ _ (hfm.sees (s5.trans hJ.j.sees)) (fin.sees hJ.j.sees)) (fun _=>by kernel_rfl) ?_; clear hJ a w; rintro _ h6 a w s7 ⟨Ao,co,rfl,hro⟩ hJ
 refine rk' hJ false 12 [.b 0 0] [] (.k (.ops [0,1,1,1,1] 3) [.seq [1,1,1,1,1]] [5,6] [(7,.slice Ao No co),(8,.bool true),(25,.agg #[.slice A N c,.slice B fm.pages.length d]),(26,.slice Av env.length cv),(27,.slice Ao No co)]) ?_
 clear hJ a w; intro a w hJ
 refine x_call hJ 28 (hA _ _ _ _ _ _ _ (hfm.sees (s5.trans (s7.trans hJ.j.sees))) (fin.sees (s7.trans hJ.j.sees)) (hro.sees hJ.j.sees)) (fun _=>by kernel_rfl) ?_; clear hJ a w; rintro _ h8 a w s9 ⟨A2,c2,rfl,hva2⟩ hJ
 refine rk' hJ false 10 [] [] (.k (.ops [0,0,1,1,1,1,1] 0) [.seq [1,0,1,1,1,1,1],.seq [1,1,1,1,1,1]] [5,6,7,8] [(9,.slice A2 N c2),(10,Vi 0)]) ?_
 clear hJ a w; intro a w hJ
 refine rk' hJ false 20 [.cl 19 #[] (.bool true),.b 0 0] [] (.k (.code [1,0,1,1,1,1,1]) [.seq [1,1,1,1,1,1]] [5,6,7,9] [(48,.bool ((N:Int) != (N:Int)))]) (ho:=And.intro (fun H sH=>known_any _) (trivial)) ?_
 clear hJ a w; intro a w hJ
 obtain ⟨vs,A3,c3,e3,-,-,hr3,hs3,hl3,hsl⟩:=fds_open hfm.fields
 simp only [Value.slice.injEq] at e3
 obtain ⟨rfl,-,rfl⟩:=e3
 rw [hN] at hr3 hl3
 refine x_fal hJ (t:=(N:Int) != (N:Int)) ((by simp)) ?_
 refine rk' hJ false 12 [.b 0 0] [] (.k (.code [0,1,0,1,1,1,1,1,1]) [.block 0,.seq [1,1,1,1,1,1,1]] [5,6,7,9] [(50,.slice A N c),(51,Vi (N:Int)),(52,Vi 0)]) ?_
 clear hJ a w; intro a w hJ
 refine x_loop' (fun (i:Nat) a w=>∃ (h10:Vw) ,K ⟨71,h.w,h.bad,[]⟩ [(5,Vp b3),(6,.slice Av env.length cv),(7,.slice Ao No co),(9,.slice A2 N c2),(50,.slice A N c),(51,Vi (N:Int)),(52,Vi (i:Int))] [.box b3 [.slice A N c,.slice B fm.pages.length d]] [] h10 a w∧Sees h8 h10∧(i≤N)) (fun i=>N - i) (0) ⟨h8,hJ.tw,Sees.refl _,Nat.zero_le _⟩ ?_
 clear hJ a w; rintro i a w ⟨h10,hJ,s11,hi⟩
 refine rk' hJ false 6 [] [] (.k (.code [0,1,0,0,1,0,1,1,1,1,1,1]) [.seq [1,1,0,0,1,0,1,1,1,1,1,1]] [5,6,7,9,50,51,52] [(53,.bool (decide ((i:Int) < (N:Int))))]) ?_
 clear hJ a w; intro a w hJ
 rcases (by omega:i < N∨i=N) with hilt | hke
 ·obtain ⟨x,hx⟩:∃ x,fm.fields[i]?=some x:=⟨_,List.getElem?_eq_getElem (by omega)⟩
  obtain ⟨u,hu⟩:∃ u,vs[i]?=some u:=⟨_,List.getElem?_eq_getElem (by omega)⟩
  have hrow:=fdRows_get hx hu
  have hga:∀ H,AllSrc H fm.fields vs→IsArgs H x.src u:=fun H q=>AllArgs.get q (x:=x.src) (by rw [List.getElem?_map,hx]; rfl) hu
  obtain ⟨Au,nu,cu,rfl⟩:=(hga _ hs3).slice
  obtain ⟨xv,hxv⟩:∃ xv,va[i]?=some xv:=⟨_,List.getElem?_eq_getElem (by omega)⟩
  have hvr:=vlRows_get hxv
  have hone:=hS.at_ i x xv hx hxv
  have hOx:=fun si so sk H q1 q2 q3 q4=>hOne x (List.mem_of_getElem? hx) (.slice Au nu cu) si so sk H q1 q2 q3 q4
  rw [← hone] at hOx
  refine x_tru hJ (t:=decide ((i:Int) < (N:Int))) (decide_eq_true (by omega)) ?_
  refine rk' hJ false 7 [] [] (.k (.ops [0,0,0,1,1,0,0,1,0,1,1,1,1,1,1] 1) [.seq [1,0,0,1,1,0,0,1,0,1,1,1,1,1,1],.block 1,.seq [1,1,1,0,0,1,0,1,1,1,1,1,1]] [5,6,7,9,50,51,52] [(54,Vi (i:Int))]) ?_
  clear hJ a w; intro a w hJ
  obtain ⟨b12,o13,rfl,-,c14⟩:=RS.row hr3 (hrow)
  replace hJ:=hJ.fact (c14.sees (s5.trans (s7.trans (s9.trans s11))))
  refine rk hJ false 8 [.ix b12 o13 N c i,.f 0 0,.own,.b 0 0] [] (.new fun b15=>.f (.code [0,1,0,0,1,1,0,0,1,0,1,1,1,1,1,1]) [.seq [1,1,0,0,1,1,0,0,1,0,1,1,1,1,1,1],.block 1,.seq [1,1,1,0,0,1,0,1,1,1,1,1,1]] [5,6,7,9,50,51,52] [(12,Vp b15),(11,Vi (i:Int))] [.box b15 [.string x.name,Vi x.kind,Vi x.ty,Vi x.src.op,Vi x.src.k,Vi x.src.n,.string x.src.s,.string x.src.nm,.slice Au nu cu],.box b3 [.slice (some ⟨b12,o13,none⟩) N c,.slice B fm.pages.length d]] [.o 0]) (And.intro (by first | omega | (simp; omega)) (trivial)) trivial (fun b15 _=>by kernel_rfl) ?_
  clear hJ a w; intro b15 a w hJ
  obtain ⟨b16,o17,rfl,-,c18⟩:=RS.row hva2 (hvr)
  replace hJ:=hJ.fact (c18.sees s11)
  let R:Reg:=⟨⟨71,h.w,h.bad,[]⟩,[(0,57,fun gh=>.slice (some ⟨b16,o17,none⟩) N c2),(1,58,fun gh=>Vi (i:Int)),(2,59,fun gh=>.pointer (some ⟨b16,o17 + i * 3,none⟩)),(3,60,fun gh=>.agg #[Vi xv.k,Vi xv.n,.string xv.s]),(4,61,fun gh=>.agg #[.string x.name,Vi x.kind,Vi x.ty,Vi x.src.op,Vi x.src.k,Vi x.src.n,.string x.src.s,.string x.src.nm,.slice Au nu cu]),(5,62,fun gh=>.slice Av env.length cv),(6,63,fun gh=>.slice Ao No co),(7,64,fun gh=>Vp b3),(8,65,fun gh=>.slice (some ⟨b12,o13,none⟩) N c),(9,66,fun gh=>.slice (some ⟨b16,o17,none⟩) N c2),(10,67,fun gh=>.slice (sA (gh 10)) (sN (gh 10)) (sC (gh 10))),(11,68,fun gh=>.agg #[Vi xv.k,Vi xv.n,.string xv.s]),(12,69,fun gh=>.bool false)],[(5,Vp b3),(6,.slice Av env.length cv),(7,.slice Ao No co),(9,.slice (some ⟨b16,o17,none⟩) N c2),(50,.slice (some ⟨b12,o13,none⟩) N c),(51,Vi (N:Int)),(52,Vi (i:Int)),(12,Vp b15),(11,Vi (i:Int))],[⟨some (.box b15 [.string x.name,Vi x.kind,Vi x.ty,Vi x.src.op,Vi x.src.k,Vi x.src.n,.string x.src.s,.string x.src.nm,.slice Au nu cu]),[]⟩,⟨some (.box b3 [.slice (some ⟨b12,o13,none⟩) N c,.slice B fm.pages.length d]),[]⟩],[(10,fun gh hh=>RS hh 7 (.slice (sA (gh 10)) (sN (gh 10)) (sC (gh 10))) (fcRows (fcs fm.fields va)))],[[],[],[0,1],[0,1,2],[],[],[],[],[7],[],[7,8,9],[4,5,6,7,8,9,10],[0,1,2,3,4,5,6,7,8,9,10,11]],h10⟩
  have hmono:∀ zq∈R.F,∀ zx zh zi,Sees zh zi→zq.2 zx zh→zq.2 zx zi:=mono_cons (fun _ _ _ s c=>c.sees s) (mono_nil)
  refine x_region (by kernel_rfl) R hJ 13 [.pu,.pu,.cl,.lf 0 0,.ld 0 0,.pu,.pu,.pu,.ld 1 0,.pu,.cl,.cl,.cl] (by kernel_rfl) hmono (fun _ _ _=>by kernel_rfl) (fun hT hA=>?_) ?_
  ·clear hJ
   refine And.intro (r_pur hT hA 59 (fun gh=>.pointer (some ⟨b16,o17 + i * 3,none⟩)) [0,1] 2 (fun gh w=>run_indexAddr (t:=32) (x:=(.tmp 57)) (y:=(.tmp 58)) (b:=b16) (off:=o17) (n:=N) (cap:=c2) (k:=i) (e:=38) (kk:=3) (by kernel_rfl) (by kernel_rfl) (by kernel_rfl) (by first | omega | (simp; omega)) Tryz.underlying32 (by kernel_rfl))) ?_
   refine And.intro (r_call hT hA hmono ⟨fun _ _=>by kernel_rfl,fun _ _=>by kernel_rfl,fun _ _=>by kernel_rfl⟩ 67 (fun u=>.slice (sA u) (sN u) (sC u)) [8,9] 10 (by kernel_rfl) (by kernel_rfl) (fun _=>by kernel_rfl) 21 (fun gh=>#[.slice (some ⟨b12,o13,none⟩) N c,.slice (some ⟨b16,o17,none⟩) N c2]) (fun _ _=>by kernel_rfl) (fun gh H sH fH lent=>C0.facts (R:=R) (x:=gh) (i:=10) (n:=0) (F:=(fun u=>.slice (sA u) (sN u) (sC u))) (G:=fun u hh=>RS hh 7 (.slice (sA u) (sN u) (sC u)) (fcRows (fcs fm.fields va))) (f:=fun gh hh=>RS hh 7 (.slice (sA (gh 10)) (sN (gh 10)) (sC (gh 10))) (fcRows (fcs fm.fields va))) (hFa _ _ _ _ _ _ ((hfm.sees (s5.trans (s7.trans (s9.trans (s11.trans sH)))))).fields rfl (hva2.sees (s11.trans sH))) (by kernel_rfl) (by kernel_rfl) (fun _ _ r=>r))) ?_
   refine And.intro (r_calv hT hA hmono 68 (fun gh=>.agg #[Vi xv.k,Vi xv.n,.string xv.s]) [4,5,6,10] 11 20 (fun gh=>#[.agg #[.string x.name,Vi x.kind,Vi x.ty,Vi x.src.op,Vi x.src.k,Vi x.src.n,.string x.src.s,.string x.src.nm,.slice Au nu cu],.slice Av env.length cv,.slice Ao No co,.slice (sA (gh 10)) (sN (gh 10)) (sC (gh 10))]) (fun gh H sH fH lent=>hOx _ _ _ _ (hga _ (hs3.sees (s5.trans (s7.trans (s9.trans (s11.trans sH)))))) (fin.sees (s7.trans (s9.trans (s11.trans sH)))) (hro.sees (s9.trans (s11.trans sH))) (fH 0 _ rfl (by kernel_rfl)))) ?_
   refine And.intro (r_pur hT hA 69 (fun gh=>.bool false) [3,11] 12 (fun gh w=>run_neqop (x:=(.tmp 60)) (y:=(.tmp 68)) (v:=xv) (w:=xv) (by kernel_rfl) (by kernel_rfl) (by kernel_rfl) (eqB_iff.2 rfl))) ?_
   trivial
  clear hJ a w; intro gh h19 a w sR hJ1 hF; have s20:Sees h10 h19:=sR; clear sR
  have hJ:K ⟨71,h.w,h.bad,[]⟩ [(5,Vp b3),(6,.slice Av env.length cv),(7,.slice Ao No co),(9,.slice (some ⟨b16,o17,none⟩) N c2),(50,.slice (some ⟨b12,o13,none⟩) N c),(51,Vi (N:Int)),(52,Vi (i:Int)),(69,.bool false)] [.box b15 [.string x.name,Vi x.kind,Vi x.ty,Vi x.src.op,Vi x.src.k,Vi x.src.n,.string x.src.s,.string x.src.nm,.slice Au nu cu],.box b3 [.slice (some ⟨b12,o13,none⟩) N c,.slice B fm.pages.length d]] [(b16,o17 + i * 3,[Vi xv.k,Vi xv.n,.string xv.s]),(b12,o13 + i * 9,[.string x.name,Vi x.kind,Vi x.ty,Vi x.src.op,Vi x.src.k,Vi x.src.n,.string x.src.s,.string x.src.nm,.slice Au nu cu])] h19 a w:=hJ1.tw
  have f67:RS h19 7 (.slice (sA (gh 10)) (sN (gh 10)) (sC (gh 10))) (fcRows (fcs fm.fields va)):=Reg.fact (i:=10) (f:=fun gh hh=>RS hh 7 (.slice (sA (gh 10)) (sN (gh 10)) (sC (gh 10))) (fcRows (fcs fm.fields va))) hF 0 (by kernel_rfl)
  clear hJ1 hF hmono R
  generalize gh 10=u67 at *
  clear gh
  refine rx' hJ false 9 [] [(70,Vi (IntKind.i64.wrap ((i:Int) + 1)),Vi ((i:Int) + 1))] (.ok (.out .normal) [] [(5,Vp b3),(6,.slice Av env.length cv),(7,.slice Ao No co),(9,.slice (some ⟨b16,o17,none⟩) N c2),(50,.slice (some ⟨b12,o13,none⟩) N c),(51,Vi (N:Int)),(52,Vi ((i:Int) + 1))] [.box b15 [.string x.name,Vi x.kind,Vi x.ty,Vi x.src.op,Vi x.src.k,Vi x.src.n,.string x.src.s,.string x.src.nm,.slice Au nu cu],.box b3 [.slice (some ⟨b12,o13,none⟩) N c,.slice B fm.pages.length d]] [(b16,o17 + i * 3,[Vi xv.k,Vi xv.n,.string xv.s]),(b12,o13 + i * 9,[.string x.name,Vi x.kind,Vi x.ty,Vi x.src.op,Vi x.src.k,Vi x.src.n,.string x.src.s,.string x.src.nm,.slice Au nu cu])]) (hc:=And.intro (i64_wrap (by omega) (by omega)) (trivial)) (fun _=>by kernel_rfl) ?_
  clear hJ a w; intro a w hJ
  replace hJ:=hJ.drop 0
  exact x_round ⟨i + 1,⟨h19,(hJ.tof [] (F':=[]) (by kernel_rfl)).to (by kernel_rfl) (by kernel_rfl) rfl,(s11.trans s20),by omega⟩,by omega⟩
 ·skip
  refine x_fal hJ (t:=decide ((i:Int) < (N:Int))) (decide_eq_false (by omega)) ?_
  refine rk' hJ false 2 [] [] (.k (.out (.exit 0)) [] [] []) ?_
  clear hJ a w; intro a w hJ
  refine x_leave rfl ?_
  refine rk' hJ false 8 [] [] (.k (.out .ret) [] [] [(4,.bool true)]) ?_
  clear hJ a w; intro a w hJ
  refine x_end (hQ [.bool true] _ [] hJ (.rtm hJ.j .nil) (no_own _) rfl ?_).1
  exact rfl

theorem wholeFixed_walk (v:Value) (l:List RawD) (v':Value) (m:List RawD) (w:World) (h:RawsOf w v l) (h':RawsOf w v' m) :
  Calls Tryz.prog 3 #[v,v'] w fun e w'=>e=.returned (.bool true)∧Below w.heap.size w w' :=
 C0.law (wholeFixed_c l m v v' ⟨w,[]⟩ h.rs h'.rs h.2.1 h'.2.1 h.2.2 h'.2.2)

namespace wholeFixedLaw
open Go.ChangeShapes Go.WideShapes Go.ChangeAt Go.RowKit
open Go.ChangeMaps (open_string shut_string)
set_option linter.unusedVariables false

set_option maxRecDepth 100000 in
theorem lifted (os:Os) (started:os.Started) (H:Type) (enc:TypeId × Value→H) :
  ReturnsInHanded {} Tryz.checked os 3 .any (Rows.wholeFixedSpec.pre6 enc Tryz.prog Tryz.f3 Rows.wholeFixedRow.domain false) (Rows.wholeFixedSpec.post enc Tryz.prog Tryz.f3 false true false false):=by
 refine returnsInHanded_of_change_sized (C:=Tryz.checked) ownNone started (by kernel_rfl) Tryz.func3
  (ChangeSpec.witness6 (enc:=enc) (C:=Tryz.checked) false ⟨#[],#[.slice none 0 0,.slice none 0 0],[]⟩ 8 (by kernel_rfl) (by kernel_rfl) (by kernel_rfl) (by kernel_rfl)) ?_
 intro W base args ds gs before hval0 hW hcnd hsz0 _
 have hval:∀ (j:Nat) t v,Tryz.f3.params[j]?=some t→args[j]?=some v→Value.okWide Tryz.prog W .any base t v:=hval0
 have hsz:(DataW.weightsEach Tryz.prog (Tryz.f3.params.toList++Rows.wholeFixedSpec.plain.varTypes Tryz.prog) (ds++gs)).all (· ≤ reachBytes)=true:=hsz0
 have hW':=hW
 obtain ⟨p,q,hA0,hV,rfl,hfz,hnd⟩:=hW
 have hA:DataW.TrodAll enc Tryz.prog W 0 (fun _=>true) true Tryz.f3.params.toList args.toList ds p:=hA0
 rw [Tryz.params3] at hA hval hsz
 obtain ⟨v0,vs0,d0,ds0,p0,q0,hargs,rfl,rfl,h0,r0⟩:=trodAll_cons hA
 obtain ⟨v1,vs1,d1,ds1,p1,q1,rfl,rfl,rfl,h1,r1⟩:=trodAll_cons r0
 obtain ⟨rfl,rfl,rfl⟩:=trodAll_nil r1
 obtain rfl:args=#[v0,v1]:=by cases args; simp_all
 obtain ⟨rfl,rfl⟩:=trodVars_none hV
 have k0:=h0
 have lt0:∀ x∈p0,x.block < W.heap.size:=by obtain ⟨m,hm⟩:=k0; exact DataW.trod_lt m _ _ _ hm
 obtain ⟨a0,w0⟩:=open_rows (hval 0 22 v0 rfl rfl) h0 (fun es ss hd=>sized_slice hsz (j:=0) (t:=22) (elems:=es) (spare:=ss) rfl (by rw [hd]; rfl) Tryz.underlying22)
 have k1:=h1
 have lt1:∀ x∈p1,x.block < W.heap.size:=by obtain ⟨m,hm⟩:=k1; exact DataW.trod_lt m _ _ _ hm
 obtain ⟨a1,w1⟩:=open_rows (hval 1 22 v1 rfl rfl) h1 (fun es ss hd=>sized_slice hsz (j:=1) (t:=22) (elems:=es) (spare:=ss) rfl (by rw [hd]; rfl) Tryz.underlying22)
 clear hA0 hval0 hsz0
 refine (wholeFixed_walk v0 a0 v1 a1 W w0 w1).mono fun e W' ⟨he,bel⟩=>?_
 subst he
 exact ⟨_,rfl,_,_,_,[],_,[],hW',trodAll_mk1 (shut_bool Tryz.underlying4 _),(trodAll_cons_mk (Below.trod laidOutTrue (by kernel_rfl) (of_decide_eq_true (by kernel_rfl)) k0 bel lt0) (trodAll_cons_mk (Below.trod laidOutTrue (by kernel_rfl) (of_decide_eq_true (by kernel_rfl)) k1 bel lt1) trodAll_mk0)),rfl,bel.frame _,fun h=>by cases h⟩

theorem over:Rows.wholeFixedRow.holds Tryz.pinned (OpenSpec.ofChange Rows.wholeFixedSpec) :=
 OpenClaim.holds_of_wide 3 Tryz.f3 rfl rfl rfl rfl rfl rfl rfl ⟨rfl,rfl,rfl,rfl,rfl⟩ rfl rfl rfl rfl rfl (by kernel_rfl) Tryz.func3 (by kernel_rfl)
  (of_decide_eq_true (by kernel_rfl)) (by unfold Func.isWrapper; first | (rw [if_pos (by decide +kernel)]; kernel_rfl) | (rw [if_neg (by decide +kernel)]; exact ⟨rfl,rfl⟩))
  (fun os started H enc _=>lifted os started H enc)

end wholeFixedLaw
theorem wholeFixed_holds:Rows.WholeFixedSaid:=wholeFixedLaw.over
#print axioms wholeFixed_holds
end Go.Proofs.YthckljafinhepaaGreat
