/-
  For all raw things and numbers WholeGrows returns true: with an extended oracle, known values do not change. No condition.
-/
import Derived.Test.YthckljafinhepaaGreatZG47
import Derived.Test.YthckljafinhepaaGreatZG45
import Derived.Test.YthckljafinhepaaGreatZG49
namespace Go.Proofs.YthckljafinhepaaGreat
open Go.RowKit
set_option linter.unusedVariables false

theorem OkOrc.take {fs:List Fd} {l:List Aw} (h:OkOrc fs l) (k:Nat):OkOrc fs (l.take k):=⟨fun p hp=>h.each p (List.mem_of_mem_take hp),h.once.sublist (List.take_sublist k l)⟩

set_option maxHeartbeats 4000000 in
set_option maxRecDepth 100000 in
theorem wholeGrows_c (l m:List RawD) (sl sm:Value) (i:Int) (h:Vw) (hl:RS h 4 sl (l.map RawD.cs)) (hm:RS h 4 sm (m.map RawD.cs)) (ll:l.length * 40≤reachBytes) (lm:m.length * 40≤reachBytes) (ol:∀ r∈l,r.ok) (om:∀ r∈m,r.ok)
  (i0 : -9223372036854775808≤i) (i1:i≤9223372036854775807):C0 Tryz.prog 5 #[sl,sm,.int .i64 i] h (fun v _=>v=.bool true):=by
 have hF:=form_c l sl
 have hlen:=form_len l
 have hnl:=nFields_le l
 have hty:=form_ty l
 have hOr:=oracle_form l m
 have hol:=orcF_len l m
 have p0:=pickL_lo i ((orcF l m).length + 1) (by omega)
 have p1:=pickL_hi i ((orcF l m).length + 1) (by omega)
 have hpk:=fun H=>c_picked i ((orcF l m).length + 1) H i0 i1 (by omega) (by omega)
 obtain ⟨k,hk⟩:∃ k:Nat,pickL i ((orcF l m).length + 1)=(k:Int):=⟨_,(Int.toNat_of_nonneg p0).symm⟩
 rw [hk] at p1 hpk
 have okt:=(orcF_ok l m).take k
 have hA:=all_orc l m (orcF l m) (orcF_ok l m) (by omega)
 have hA0:=fun A c B d si so H q1 q2 q3=>all_orc l m ((orcF l m).take k) okt (by rw [List.length_take]; omega) A c B d si so H q1 q2 q3
 have hB:∀ A c B d si so H,IsForm H _ _ _→RS H 7 si _→RS H 7 so _→C0 Tryz.prog 18 _ H (fun r h'=>∃ y,r=.tuple #[.slice (sA y) (sN y) (sC y),.int .i64 0]∧RSn h' 3 y (formE l).fields.length (vlRows (allF l m ((orcF l m).take k)))):=fun A c B d si so H q1 q2 q3=>(hA0 A c B d si so H q1 q2 q3).mono fun r h' _=>by
  rintro ⟨A',c',rfl,q⟩
  exact ⟨.slice A' (formE l).fields.length c',rfl,rfl,q⟩
 obtain ⟨s1,o1⟩:=allF_sol l m okt.has
 obtain ⟨s2,o2⟩:=allF_sol l m (orcF_ok l m).has
 have hg:=(form_wh l m).grows (o1:=(orcF l m).take k) (o2:=(orcF l m).drop k) (v:=allF l m ((orcF l m).take k)) (w:=allF l m (orcF l m)) s1 (by rw [List.take_append_drop]; exact s2) o1 o2
 have hv1:=s1.len
 have hv2:=s2.len
 have hfew:=(inp_ok l m).few
 clear hA0 s1 o1 s2 o2 okt
 generalize allF l m ((orcF l m).take k)=va at *
 generalize allF l m (orcF l m)=vb at *
 generalize orcF l m=orc at *
 generalize formE l=fm at *
 have hin:=fun H fv pv q1 q2 q3=>inputs_any fm.fields pv fv m sm H q1 q2 (by omega) hty q3 lm om
 generalize inpE fm.fields m=env at *
 have erl:(fcRows env).length=env.length:=List.length_map _
 have htk:(orc.take k).length=k:=by rw [List.length_take]; omega
 obtain ⟨A0,c0,rfl,-,-,-⟩:=hl.form
 obtain ⟨A1,c1,rfl,-,-,-⟩:=hm.form
 rw [List.length_map] at *
 rw [List.length_map] at *
 generalize hN:fm.fields.length=N at *
 generalize hNo:orc.length=No at *
 refine x_con' Tryz.func5 (c:=Tryz.f5.body.getD .skip) (N:=107) ?_
 intro hbx hbad Q hQ a w hJ
 refine rk' hJ false 8 [] [] (.k (.ops [0,1] 1) [.seq [1,1]] [1,2] [(16,.slice A0 l.length c0)]) ?_
 clear hJ a w; intro a w hJ
 refine x_call hJ 17 (hF _ (hl.sees hJ.j.sees) ll ol) (fun _=>by kernel_rfl) ?_; clear hJ a w; rintro _ h1 a w s2 ⟨A,c,B,d,rfl,hfm⟩ hJ
 refine rx' hJ false 8 [.own,.b 0 0,.b 0 0] [] (.new fun b3=>.ok (.ops [0,1,1] 2) [.seq [1,1,1]] [(2,Vi i),(7,Vp b3),(18,.agg #[.slice A N c,.slice B fm.pages.length d]),(19,.slice A1 m.length c1)] [.box b3 [.slice A N c,.slice B fm.pages.length d]] []) (fun b3 _=>by kernel_rfl) ?_
 clear hJ a w; intro b3 a w hJ
 refine x_callrow hJ 20 (hin _ _ (.slice B fm.pages.length d) ((hfm.sees hJ.j.sees)).fields rfl (hm.sees (s2.trans hJ.j.sees))) (fun _=>by kernel_rfl) ?_; clear hJ a w; rintro v _ a w rfl hJ
 refine rk' hJ false 7 [.b 1 0] [] (.k (.ops [0,1,1,1] 2) [.seq [1,1,1,1]] [2,7] [(8,v),(22,.agg #[.slice A N c,.slice B fm.pages.length d]),(23,v)]) ?_
 clear hJ a w; intro a w hJ
 obtain ⟨Av,cv,hE_v,hc_v,hm_v⟩:=hJ.form (v:=v) (e:=54) (k:=7) (l:=fcRows env) 0 (by kernel_rfl)
 rw [show (fcRows env).length=env.length from by first | omega | (simp; done) | (simp; omega)] at hE_v hc_v
 rw [hE_v] at hJ
 obtain ⟨h4,s5,fin,hJn⟩:=hJ.frozen (v:=.slice Av env.length cv) (e:=54) (k:=7) (l:=fcRows env) 0 (by kernel_rfl) (hJ.j.rowOut0 (v:=.slice Av env.length cv) (e:=54) (k:=7) (l:=fcRows env) 0 (by kernel_rfl) rfl); clear hJ; have hJ:=hJn; clear hJn
 refine x_call hJ 24 (hOr _ _ _ _ _ _ (hfm.sees (s5.trans hJ.j.sees)) (fin.sees hJ.j.sees)) (fun _=>by kernel_rfl) ?_; clear hJ a w; rintro _ h6 a w s7 ⟨Ao,co,rfl,hro⟩ hJ
 refine rk' hJ false 8 [] [] (.k (.code [0,1,1,1,1]) [.seq [1,1,1,1,1]] [2,7,8] [(9,.slice Ao No co),(10,.bool true)]) ?_
 clear hJ a w; intro a w hJ
 have hco:No≤co:=by
  obtain ⟨A',c',e',q,-⟩:=hro.form
  simp only [Value.slice.injEq] at e'
  obtain ⟨-,-,rfl⟩:=e'
  rw [List.length_map] at q
  omega
 have hrt:=fun H (q:RS H 7 (.slice Ao No co) (anRows orc))=>(show RS H 7 (.slice Ao k co) (anRows (orc.take k)) by have:=q.take k (by rw [List.length_map]; omega); rwa [← List.map_take] at this)
 let R:Reg:=⟨⟨107,h.w,h.bad,[]⟩,[(0,28,fun gh=>.agg #[.slice A N c,.slice B fm.pages.length d]),(1,29,fun gh=>.slice Av env.length cv),(2,30,fun gh=>.slice Ao No co),(3,31,fun gh=>Vi i),(4,32,fun gh=>.slice Ao No co),(5,33,fun gh=>Vi (No:Int)),(6,34,fun gh=>Vi ((No:Int) + 1)),(7,35,fun gh=>Vi (k:Int)),(8,36,fun gh=>.slice Ao k co),(9,37,fun gh=>.tuple #[.slice (sA (gh 9)) (sN (gh 9)) (sC (gh 9)),Vi 0]),(10,27,fun gh=>.tuple #[.slice (sA (gh 9)) (sN (gh 9)) (sC (gh 9)),Vi 0]),(11,38,fun gh=>.slice (sA (gh 9)) (sN (gh 9)) (sC (gh 9))),(12,39,fun gh=>Vi 0),(13,11,fun gh=>.slice (sA (gh 9)) (sN (gh 9)) (sC (gh 9))),(14,12,fun gh=>Vi 0)],[(2,Vi i),(7,Vp b3),(8,.slice Av env.length cv),(9,.slice Ao No co),(10,.bool true)],[⟨some (.box b3 [.slice A N c,.slice B fm.pages.length d]),[]⟩],[(9,fun gh hh=>RSn hh 3 (gh 9) N (vlRows va))],[[],[],[],[],[],[4],[4,5],[3,4,5,6],[2,3,4,5,6,7],[0,1,2,3,4,5,6,7,8],[0,1,2,3,4,5,6,7,8,9],[0,1,2,3,4,5,6,7,8,9,10],[0,1,2,3,4,5,6,7,8,9,10],[0,1,2,3,4,5,6,7,8,9,10,11],[0,1,2,3,4,5,6,7,8,9,10,11,12,13]],h6⟩
 have hmono:∀ zq∈R.F,∀ zx zh zi,Sees zh zi→zq.2 zx zh→zq.2 zx zi:=mono_cons (fun _ _ _ s c=>c.sees s) (mono_nil)
 refine x_region (by kernel_rfl) R hJ 15 [.ld 0 0,.pu,.pu,.pu,.pu,.pu,.cl,.cl,.cl,.cl,.pu,.pu,.pu,.pu,.pu] (by kernel_rfl) hmono (fun _ _ _=>by kernel_rfl) (fun hT hA=>?_) ?_
 ·clear hJ
  refine And.intro (r_pur hT hA 34 (fun gh=>Vi ((No:Int) + 1)) [5] 6 (fun gh w=>run_eq (v0:=Vi (IntKind.i64.wrap ((No:Int) + 1))) (by kernel_rfl) (i64_wrap (by omega) (by omega)))) ?_
  refine And.intro (r_calv hT hA hmono 35 (fun gh=>Vi (k:Int)) [3,6] 7 24 (fun gh=>#[Vi i,Vi ((No:Int) + 1)]) (fun gh H sH fH lent=>hpk _)) ?_
  refine And.intro (r_pur hT hA 36 (fun gh=>.slice Ao k co) [2,7] 8 (fun gh w=>run_hi (t:=28) (e:=54) (x:=(.tmp 30)) (y:=(.tmp 35)) (A:=Ao) (n:=No) (cap:=co) (k:=k) (kk:=7) (by kernel_rfl) (by kernel_rfl) (by kernel_rfl) (by omega) Tryz.underlying28 (by kernel_rfl))) ?_
  refine And.intro (r_call hT hA hmono ⟨fun _ _=>by kernel_rfl,fun _ _=>by kernel_rfl,fun _ _=>by kernel_rfl⟩ 37 (fun u=>.tuple #[.slice (sA u) (sN u) (sC u),Vi 0]) [0,1,7,8] 9 (by kernel_rfl) (by kernel_rfl) (fun _=>by kernel_rfl) 18 (fun gh=>#[.agg #[.slice A N c,.slice B fm.pages.length d],.slice Av env.length cv,.slice Ao k co]) (fun _ _=>by kernel_rfl) (fun gh H sH fH lent=>C0.facts (R:=R) (x:=gh) (i:=9) (n:=0) (F:=(fun u=>.tuple #[.slice (sA u) (sN u) (sC u),Vi 0])) (G:=fun u hh=>RSn hh 3 u N (vlRows va)) (f:=fun gh hh=>RSn hh 3 (gh 9) N (vlRows va)) (hB _ _ _ _ _ _ _ (hfm.sees (s5.trans (s7.trans sH))) (fin.sees (s7.trans sH)) (hrt _ (hro.sees sH))) (by kernel_rfl) (by kernel_rfl) (fun _ _ r=>r))) ?_
  trivial
 clear hJ a w; intro gh h8 a w sR hJ1 hF; have s9:Sees h6 h8:=sR; clear sR
 have hJ:K ⟨107,h.w,h.bad,[]⟩ [(7,Vp b3),(8,.slice Av env.length cv),(9,.slice Ao No co),(10,.bool true),(11,.slice (sA (gh 9)) (sN (gh 9)) (sC (gh 9))),(12,Vi 0)] [.box b3 [.slice A N c,.slice B fm.pages.length d]] [] h8 a w:=hJ1.tw
 have f37:RSn h8 3 (gh 9) N (vlRows va):=Reg.fact (i:=9) (f:=fun gh hh=>RSn hh 3 (gh 9) N (vlRows va)) hF 0 (by kernel_rfl)
 clear hJ1 hF hmono R
 generalize gh 9=u37 at *
 clear gh
 refine rk' hJ false 6 [.b 0 0] [] (.k (.ops [0,1,1,1,1,1] 3) [.seq [1,1,1,1,1,1]] [10,11,12] [(41,.agg #[.slice A N c,.slice B fm.pages.length d]),(42,.slice Av env.length cv),(43,.slice Ao No co)]) ?_
 clear hJ a w; intro a w hJ
 obtain ⟨e37,g37⟩:=f37
 rw [e37] at hJ g37
 generalize sA u37=A7 at *
 generalize sC u37=c7 at *
 refine x_call hJ 44 (hA _ _ _ _ _ _ _ (hfm.sees (s5.trans (s7.trans (s9.trans hJ.j.sees)))) (fin.sees (s7.trans (s9.trans hJ.j.sees))) (hro.sees (s9.trans hJ.j.sees))) (fun _=>by kernel_rfl) ?_; clear hJ a w; rintro _ h10 a w s11 ⟨A2,c2,rfl,hvb⟩ hJ
 refine rk' hJ false 10 [] [] (.k (.ops [0,0,1,1,1,1,1,1] 0) [.seq [1,0,1,1,1,1,1,1],.seq [1,1,1,1,1,1,1]] [10,11,12] [(13,.slice A2 N c2),(14,Vi 0)]) ?_
 clear hJ a w; intro a w hJ
 refine rk' hJ false 23 [.cl 19 #[] (.bool true)] [] (.k (.code [1,0,1,1,1,1,1,1]) [.seq [1,1,1,1,1,1,1]] [11,13] [(67,.bool ((N:Int) != (N:Int)))]) (ho:=And.intro (fun H sH=>known_any _) (trivial)) ?_
 clear hJ a w; intro a w hJ
 refine x_fal hJ (t:=(N:Int) != (N:Int)) ((by simp)) ?_
 refine rk' hJ false 11 [] [] (.k (.code [0,1,0,1,1,1,1,1,1,1]) [.block 0,.seq [1,1,1,1,1,1,1,1]] [11,13] [(69,Vi (N:Int)),(70,Vi 0)]) ?_
 clear hJ a w; intro a w hJ
 refine x_loop' (fun (j:Nat) a w=>∃ (h12:Vw) ,K ⟨107,h.w,h.bad,[]⟩ [(11,.slice A7 N c7),(13,.slice A2 N c2),(69,Vi (N:Int)),(70,Vi (j:Int))] [.box b3 [.slice A N c,.slice B fm.pages.length d]] [] h12 a w∧Sees h10 h12∧(j≤N)) (fun j=>N - j) (0) ⟨h10,hJ.tw,Sees.refl _,Nat.zero_le _⟩ ?_
 clear hJ a w; rintro j a w ⟨h12,hJ,s13,hj⟩
 refine rk' hJ false 6 [] [] (.k (.code [0,1,0,0,1,0,1,1,1,1,1,1,1]) [.seq [1,1,0,0,1,0,1,1,1,1,1,1,1]] [11,13,69,70] [(71,.bool (decide ((j:Int) < (N:Int))))]) ?_
 clear hJ a w; intro a w hJ
 rcases (by omega:j < N∨j=N) with hlt | hke
 ·obtain ⟨x,hx⟩:∃ x,va[j]?=some x:=⟨_,List.getElem?_eq_getElem (by omega)⟩
  obtain ⟨y,hy⟩:∃ y,vb[j]?=some y:=⟨_,List.getElem?_eq_getElem (by omega)⟩
  have hxr:=vlRows_get hx
  have hyr:=vlRows_get hy
  have hxy:=hg j x y hx hy
  by_cases g4:x.k=4
  ·skip
   refine x_tru hJ (t:=decide ((j:Int) < (N:Int))) (decide_eq_true (by omega)) ?_
   refine rk' hJ false 11 [] [] (.k (.code [0,1,0,0,1,1,0,0,1,0,1,1,1,1,1,1,1]) [.seq [1,1,0,0,1,1,0,0,1,0,1,1,1,1,1,1,1],.block 1,.seq [1,1,1,0,0,1,0,1,1,1,1,1,1,1]] [11,13,69,70] [(15,Vi (j:Int))]) ?_
   clear hJ a w; intro a w hJ
   obtain ⟨b14,o15,rfl,-,c16⟩:=RS.row g37 (hxr)
   replace hJ:=hJ.fact (c16.sees (s11.trans s13))
   have c17:=RS.cell g37 (hxr)
   replace hJ:=hJ.fact (c17.sees (s11.trans s13))
   obtain ⟨b18,o19,rfl,-,c20⟩:=RS.row hvb (hyr)
   replace hJ:=hJ.fact (c20.sees s13)
   have c21:=RS.cell g37 (hxr)
   replace hJ:=hJ.fact (c21.sees (s11.trans s13))
   have c22:=RS.cell hvb (hyr)
   replace hJ:=hJ.fact (c22.sees s13)
   let R:Reg:=⟨⟨107,h.w,h.bad,[]⟩,[(0,73,fun gh=>.slice (some ⟨b14,o15,none⟩) N c7),(1,74,fun gh=>Vi (j:Int)),(2,75,fun gh=>.pointer (some ⟨b14,o15 + j * 3,none⟩)),(3,76,fun gh=>.pointer (some ⟨b14,o15 + j * 3,none⟩)),(4,77,fun gh=>Vi x.k),(5,78,fun gh=>.bool false),(6,79,fun gh=>.bool false),(7,80,fun gh=>undef),(8,81,fun gh=>undef),(9,82,fun gh=>undef),(10,83,fun gh=>undef),(11,84,fun gh=>undef),(12,85,fun gh=>undef),(13,86,fun gh=>undef),(14,87,fun gh=>undef),(15,88,fun gh=>undef),(16,89,fun gh=>.bool false),(17,90,fun gh=>.bool false),(18,91,fun gh=>undef),(19,92,fun gh=>undef),(20,93,fun gh=>undef),(21,94,fun gh=>undef),(22,95,fun gh=>undef),(23,96,fun gh=>undef),(24,97,fun gh=>undef),(25,98,fun gh=>undef),(26,99,fun gh=>undef),(27,100,fun gh=>undef),(28,101,fun gh=>undef),(29,102,fun gh=>undef),(30,103,fun gh=>undef),(31,104,fun gh=>undef),(32,105,fun gh=>.bool false)],[(11,.slice (some ⟨b14,o15,none⟩) N c7),(13,.slice (some ⟨b18,o19,none⟩) N c2),(69,Vi (N:Int)),(70,Vi (j:Int)),(15,Vi (j:Int))],[⟨some (.box b3 [.slice A N c,.slice B fm.pages.length d]),[]⟩],[],[[],[],[0,1],[0,1,2],[0,1,2,3],[0,1,2,3,4],[0,1,2,3,4,5],[0,1,2,3,4,5,6],[0,1,2,3,4,5,6],[0,1,2,3,4,5,6,7,8],[0,1,2,3,4,5,6,7,8,9],[0,1,2,3,4,5,6],[0,1,2,3,4,5,6],[0,1,2,3,4,5,6,11,12],[0,1,2,3,4,5,6,11,12,13],[0,1,2,3,4,5,6,7,8,9,10,11,12,13,14],[0,1,2,3,4,5,6,7,8,9,10,11,12,13,14,15],[0,1,2,3,4,5,6,7,8,9,10,11,12,13,14,15,16],[0,1,2,3,4,5,6,7,8,9,10,11,12,13,14,15,16,17],[0,1,2,3,4,5,6,7,8,9,10,11,12,13,14,15,16,17],[0,1,2,3,4,5,6,7,8,9,10,11,12,13,14,15,16,17,18,19],[0,1,2,3,4,5,6,7,8,9,10,11,12,13,14,15,16,17,18,19,20],[0,1,2,3,4,5,6,7,8,9,10,11,12,13,14,15,16,17,18,19,20,21],[0,1,2,3,4,5,6,7,8,9,10,11,12,13,14,15,16,17,18,19,20,21,22],[0,1,2,3,4,5,6,7,8,9,10,11,12,13,14,15,16,17,18,19,20,21,22,23],[0,1,2,3,4,5,6,7,8,9,10,11,12,13,14,15,16,17,18,19,20,21,22,23,24],[0,1,2,3,4,5,6,7,8,9,10,11,12,13,14,15,16,17,18,19,20,21,22,23,24],[0,1,2,3,4,5,6,7,8,9,10,11,12,13,14,15,16,17,18,19,20,21,22,23,24,25,26],[0,1,2,3,4,5,6,7,8,9,10,11,12,13,14,15,16,17,18,19,20,21,22,23,24,25,26,27],[0,1,2,3,4,5,6,7,8,9,10,11,12,13,14,15,16,17,18,19,20,21,22,23,24,25,26,27,28],[0,1,2,3,4,5,6,7,8,9,10,11,12,13,14,15,16,17,18,19,20,21,22,23,24,25,26,27,28,29],[0,1,2,3,4,5,6,7,8,9,10,11,12,13,14,15,16,17,18,19,20,21,22,23,24,25,26,27,28,29,30],[0,1,2,3,4,5,6,7,8,9,10,11,12,13,14,15,16,17,18,19,20,21,22,23,24,25,26,27,28,29,30,31]],h12⟩
   have hmono:∀ zq∈R.F,∀ zx zh zi,Sees zh zi→zq.2 zx zh→zq.2 zx zi:=mono_nil
   refine x_region (by kernel_rfl) R hJ 33 [.pu,.pu,.cl,.pu,.lf 1 0,.cl,.pu,.ps,.ps,.ps,.ps,.ps,.ps,.ps,.ps,.ps,.pu,.pu,.ps,.ps,.ps,.ps,.ps,.ps,.ps,.ps,.ps,.ps,.ps,.ps,.ps,.ps,.pu] (by kernel_rfl) hmono (fun _ _ _=>by kernel_rfl) (fun hT hA=>?_) ?_
   ·clear hJ
    refine And.intro (r_pur hT hA 75 (fun gh=>.pointer (some ⟨b14,o15 + j * 3,none⟩)) [0,1] 2 (fun gh w=>run_indexAddr (t:=32) (x:=(.tmp 73)) (y:=(.tmp 74)) (b:=b14) (off:=o15) (n:=N) (cap:=c7) (k:=j) (e:=38) (kk:=3) (by kernel_rfl) (by kernel_rfl) (by kernel_rfl) (by first | omega | (simp; omega)) Tryz.underlying32 (by kernel_rfl))) ?_
    refine And.intro (r_pur hT hA 78 (fun gh=>.bool false) [4] 5 (fun gh w=>run_eq (v0:=.bool (x.k != 4)) (by kernel_rfl) (congrArg Value.bool (by rw [bne_eq_false_iff_eq]; exact g4)))) ?_
    trivial
   clear hJ a w; intro gh h23 a w sR hJ1 hF; have s24:Sees h12 h23:=sR; clear sR
   have hJ:K ⟨107,h.w,h.bad,[]⟩ [(11,.slice (some ⟨b14,o15,none⟩) N c7),(13,.slice (some ⟨b18,o19,none⟩) N c2),(69,Vi (N:Int)),(70,Vi (j:Int)),(105,.bool false)] [.box b3 [.slice A N c,.slice B fm.pages.length d]] [(b18,o19 + j * 3,[Vi y.k,Vi y.n,.string y.s]),(b14,o15 + j * 3,[Vi x.k,Vi x.n,.string x.s]),(b18,o19 + j * 3,[Vi y.k,Vi y.n,.string y.s]),(b14,o15 + j * 3,[Vi x.k,Vi x.n,.string x.s]),(b14,o15 + j * 3,[Vi x.k,Vi x.n,.string x.s])] h23 a w:=hJ1.tw
   clear hJ1 hF hmono R
   clear gh
   refine rx' hJ false 9 [] [(106,Vi (IntKind.i64.wrap ((j:Int) + 1)),Vi ((j:Int) + 1))] (.ok (.out .normal) [] [(11,.slice (some ⟨b14,o15,none⟩) N c7),(13,.slice (some ⟨b18,o19,none⟩) N c2),(69,Vi (N:Int)),(70,Vi ((j:Int) + 1))] [.box b3 [.slice A N c,.slice B fm.pages.length d]] [(b18,o19 + j * 3,[Vi y.k,Vi y.n,.string y.s]),(b14,o15 + j * 3,[Vi x.k,Vi x.n,.string x.s]),(b18,o19 + j * 3,[Vi y.k,Vi y.n,.string y.s]),(b14,o15 + j * 3,[Vi x.k,Vi x.n,.string x.s]),(b14,o15 + j * 3,[Vi x.k,Vi x.n,.string x.s])]) (hc:=And.intro (i64_wrap (by omega) (by omega)) (trivial)) (fun _=>by kernel_rfl) ?_
   clear hJ a w; intro a w hJ
   exact x_round ⟨j + 1,⟨h23,(hJ.tof [] (F':=[]) (by kernel_rfl)).to (by kernel_rfl) (by kernel_rfl) rfl,(s13.trans s24),by omega⟩,by omega⟩
  ·skip
   by_cases ge:eqB x y=true
   ·skip
    refine x_tru hJ (t:=decide ((j:Int) < (N:Int))) (decide_eq_true (by omega)) ?_
    refine rk' hJ false 11 [] [] (.k (.code [0,1,0,0,1,1,0,0,1,0,1,1,1,1,1,1,1]) [.seq [1,1,0,0,1,1,0,0,1,0,1,1,1,1,1,1,1],.block 1,.seq [1,1,1,0,0,1,0,1,1,1,1,1,1,1]] [11,13,69,70] [(15,Vi (j:Int))]) ?_
    clear hJ a w; intro a w hJ
    obtain ⟨b25,o26,rfl,-,c27⟩:=RS.row g37 (hxr)
    replace hJ:=hJ.fact (c27.sees (s11.trans s13))
    have c28:=RS.cell g37 (hxr)
    replace hJ:=hJ.fact (c28.sees (s11.trans s13))
    obtain ⟨b29,o30,rfl,-,c31⟩:=RS.row hvb (hyr)
    replace hJ:=hJ.fact (c31.sees s13)
    have c32:=RS.cell g37 (hxr)
    replace hJ:=hJ.fact (c32.sees (s11.trans s13))
    have c33:=RS.cell hvb (hyr)
    replace hJ:=hJ.fact (c33.sees s13)
    let R:Reg:=⟨⟨107,h.w,h.bad,[]⟩,[(0,73,fun gh=>.slice (some ⟨b25,o26,none⟩) N c7),(1,74,fun gh=>Vi (j:Int)),(2,75,fun gh=>.pointer (some ⟨b25,o26 + j * 3,none⟩)),(3,76,fun gh=>.pointer (some ⟨b25,o26 + j * 3,none⟩)),(4,77,fun gh=>Vi x.k),(5,78,fun gh=>.bool true),(6,79,fun gh=>.bool true),(7,80,fun gh=>.slice (some ⟨b25,o26,none⟩) N c7),(8,81,fun gh=>Vi (j:Int)),(9,82,fun gh=>.pointer (some ⟨b25,o26 + j * 3,none⟩)),(10,83,fun gh=>.agg #[Vi x.k,Vi x.n,.string x.s]),(11,84,fun gh=>.slice (some ⟨b29,o30,none⟩) N c2),(12,85,fun gh=>Vi (j:Int)),(13,86,fun gh=>.pointer (some ⟨b29,o30 + j * 3,none⟩)),(14,87,fun gh=>.agg #[Vi y.k,Vi y.n,.string y.s]),(15,88,fun gh=>.bool false),(16,89,fun gh=>.bool false),(17,90,fun gh=>.bool false),(18,91,fun gh=>undef),(19,92,fun gh=>undef),(20,93,fun gh=>undef),(21,94,fun gh=>undef),(22,95,fun gh=>undef),(23,96,fun gh=>undef),(24,97,fun gh=>undef),(25,98,fun gh=>undef),(26,99,fun gh=>undef),(27,100,fun gh=>undef),(28,101,fun gh=>undef),(29,102,fun gh=>undef),(30,103,fun gh=>undef),(31,104,fun gh=>undef),(32,105,fun gh=>.bool false)],[(11,.slice (some ⟨b25,o26,none⟩) N c7),(13,.slice (some ⟨b29,o30,none⟩) N c2),(69,Vi (N:Int)),(70,Vi (j:Int)),(15,Vi (j:Int))],[⟨some (.box b3 [.slice A N c,.slice B fm.pages.length d]),[]⟩],[],[[],[],[0,1],[0,1,2],[0,1,2,3],[0,1,2,3,4],[0,1,2,3,4,5],[0,1,2,3,4,5,6],[0,1,2,3,4,5,6],[0,1,2,3,4,5,6,7,8],[0,1,2,3,4,5,6,7,8,9],[0,1,2,3,4,5,6],[0,1,2,3,4,5,6],[0,1,2,3,4,5,6,11,12],[0,1,2,3,4,5,6,11,12,13],[0,1,2,3,4,5,6,7,8,9,10,11,12,13,14],[0,1,2,3,4,5,6,7,8,9,10,11,12,13,14,15],[0,1,2,3,4,5,6,7,8,9,10,11,12,13,14,15,16],[0,1,2,3,4,5,6,7,8,9,10,11,12,13,14,15,16,17],[0,1,2,3,4,5,6,7,8,9,10,11,12,13,14,15,16,17],[0,1,2,3,4,5,6,7,8,9,10,11,12,13,14,15,16,17,18,19],[0,1,2,3,4,5,6,7,8,9,10,11,12,13,14,15,16,17,18,19,20],[0,1,2,3,4,5,6,7,8,9,10,11,12,13,14,15,16,17,18,19,20,21],[0,1,2,3,4,5,6,7,8,9,10,11,12,13,14,15,16,17,18,19,20,21,22],[0,1,2,3,4,5,6,7,8,9,10,11,12,13,14,15,16,17,18,19,20,21,22,23],[0,1,2,3,4,5,6,7,8,9,10,11,12,13,14,15,16,17,18,19,20,21,22,23,24],[0,1,2,3,4,5,6,7,8,9,10,11,12,13,14,15,16,17,18,19,20,21,22,23,24],[0,1,2,3,4,5,6,7,8,9,10,11,12,13,14,15,16,17,18,19,20,21,22,23,24,25,26],[0,1,2,3,4,5,6,7,8,9,10,11,12,13,14,15,16,17,18,19,20,21,22,23,24,25,26,27],[0,1,2,3,4,5,6,7,8,9,10,11,12,13,14,15,16,17,18,19,20,21,22,23,24,25,26,27,28],[0,1,2,3,4,5,6,7,8,9,10,11,12,13,14,15,16,17,18,19,20,21,22,23,24,25,26,27,28,29],[0,1,2,3,4,5,6,7,8,9,10,11,12,13,14,15,16,17,18,19,20,21,22,23,24,25,26,27,28,29,30],[0,1,2,3,4,5,6,7,8,9,10,11,12,13,14,15,16,17,18,19,20,21,22,23,24,25,26,27,28,29,30,31]],h12⟩
    have hmono:∀ zq∈R.F,∀ zx zh zi,Sees zh zi→zq.2 zx zh→zq.2 zx zi:=mono_nil
    refine x_region (by kernel_rfl) R hJ 33 [.pu,.pu,.cl,.pu,.lf 1 0,.cl,.pu,.pu,.pu,.cl,.lf 1 0,.pu,.pu,.cl,.lf 0 0,.cl,.pu,.pu,.ps,.ps,.ps,.ps,.ps,.ps,.ps,.ps,.ps,.ps,.ps,.ps,.ps,.ps,.pu] (by kernel_rfl) hmono (fun _ _ _=>by kernel_rfl) (fun hT hA=>?_) ?_
    ·clear hJ
     refine And.intro (r_pur hT hA 75 (fun gh=>.pointer (some ⟨b25,o26 + j * 3,none⟩)) [0,1] 2 (fun gh w=>run_indexAddr (t:=32) (x:=(.tmp 73)) (y:=(.tmp 74)) (b:=b25) (off:=o26) (n:=N) (cap:=c7) (k:=j) (e:=38) (kk:=3) (by kernel_rfl) (by kernel_rfl) (by kernel_rfl) (by first | omega | (simp; omega)) Tryz.underlying32 (by kernel_rfl))) ?_
     refine And.intro (r_pur hT hA 78 (fun gh=>.bool true) [4] 5 (fun gh w=>run_eq (v0:=.bool (x.k != 4)) (by kernel_rfl) (congrArg Value.bool (bne_iff_ne.2 g4)))) ?_
     refine And.intro (r_pur hT hA 82 (fun gh=>.pointer (some ⟨b25,o26 + j * 3,none⟩)) [6,7,8] 9 (fun gh w=>run_indexAddr (t:=32) (x:=(.tmp 80)) (y:=(.tmp 81)) (b:=b25) (off:=o26) (n:=N) (cap:=c7) (k:=j) (e:=38) (kk:=3) (by kernel_rfl) (by kernel_rfl) (by kernel_rfl) (by first | omega | (simp; omega)) Tryz.underlying32 (by kernel_rfl))) ?_
     refine And.intro (r_pur hT hA 86 (fun gh=>.pointer (some ⟨b29,o30 + j * 3,none⟩)) [6,11,12] 13 (fun gh w=>run_indexAddr (t:=32) (x:=(.tmp 84)) (y:=(.tmp 85)) (b:=b29) (off:=o30) (n:=N) (cap:=c2) (k:=j) (e:=38) (kk:=3) (by kernel_rfl) (by kernel_rfl) (by kernel_rfl) (by first | omega | (simp; omega)) Tryz.underlying32 (by kernel_rfl))) ?_
     refine And.intro (r_pur hT hA 88 (fun gh=>.bool false) [6,10,14] 15 (fun gh w=>run_neqop (x:=(.tmp 83)) (y:=(.tmp 87)) (v:=x) (w:=y) (by kernel_rfl) (by kernel_rfl) (by kernel_rfl) (ge))) ?_
     trivial
    clear hJ a w; intro gh h34 a w sR hJ1 hF; have s35:Sees h12 h34:=sR; clear sR
    have hJ:K ⟨107,h.w,h.bad,[]⟩ [(11,.slice (some ⟨b25,o26,none⟩) N c7),(13,.slice (some ⟨b29,o30,none⟩) N c2),(69,Vi (N:Int)),(70,Vi (j:Int)),(105,.bool false)] [.box b3 [.slice A N c,.slice B fm.pages.length d]] [(b29,o30 + j * 3,[Vi y.k,Vi y.n,.string y.s]),(b25,o26 + j * 3,[Vi x.k,Vi x.n,.string x.s]),(b29,o30 + j * 3,[Vi y.k,Vi y.n,.string y.s]),(b25,o26 + j * 3,[Vi x.k,Vi x.n,.string x.s]),(b25,o26 + j * 3,[Vi x.k,Vi x.n,.string x.s])] h34 a w:=hJ1.tw
    clear hJ1 hF hmono R
    clear gh
    refine rk' hJ false 9 [] [(106,Vi (IntKind.i64.wrap ((j:Int) + 1)),Vi ((j:Int) + 1))] (.k (.out .normal) [] [11,13,69] [(70,Vi ((j:Int) + 1))]) (hc:=And.intro (i64_wrap (by omega) (by omega)) (trivial)) ?_
    clear hJ a w; intro a w hJ
    exact x_round ⟨j + 1,⟨h34,(hJ.tof [] (F':=[]) (by kernel_rfl)).to (by kernel_rfl) (by kernel_rfl) rfl,(s13.trans s35),by omega⟩,by omega⟩
   ·skip
    have h55:x.k=5∧y.k=5:=by
     rcases hxy with q | q | q
     ·exact absurd q g4
     ·exact absurd (eqB_iff.2 q.symm) ge
     ·exact ⟨q.2,q.1⟩
    refine x_tru hJ (t:=decide ((j:Int) < (N:Int))) (decide_eq_true (by omega)) ?_
    refine rk' hJ false 11 [] [] (.k (.code [0,1,0,0,1,1,0,0,1,0,1,1,1,1,1,1,1]) [.seq [1,1,0,0,1,1,0,0,1,0,1,1,1,1,1,1,1],.block 1,.seq [1,1,1,0,0,1,0,1,1,1,1,1,1,1]] [11,13,69,70] [(15,Vi (j:Int))]) ?_
    clear hJ a w; intro a w hJ
    obtain ⟨b36,o37,rfl,-,c38⟩:=RS.row g37 (hxr)
    replace hJ:=hJ.fact (c38.sees (s11.trans s13))
    have c39:=RS.cell g37 (hxr)
    replace hJ:=hJ.fact (c39.sees (s11.trans s13))
    obtain ⟨b40,o41,rfl,-,c42⟩:=RS.row hvb (hyr)
    replace hJ:=hJ.fact (c42.sees s13)
    have c43:=RS.cell g37 (hxr)
    replace hJ:=hJ.fact (c43.sees (s11.trans s13))
    have c44:=RS.cell hvb (hyr)
    replace hJ:=hJ.fact (c44.sees s13)
    let R:Reg:=⟨⟨107,h.w,h.bad,[]⟩,[(0,73,fun gh=>.slice (some ⟨b36,o37,none⟩) N c7),(1,74,fun gh=>Vi (j:Int)),(2,75,fun gh=>.pointer (some ⟨b36,o37 + j * 3,none⟩)),(3,76,fun gh=>.pointer (some ⟨b36,o37 + j * 3,none⟩)),(4,77,fun gh=>Vi x.k),(5,78,fun gh=>.bool true),(6,79,fun gh=>.bool true),(7,80,fun gh=>.slice (some ⟨b36,o37,none⟩) N c7),(8,81,fun gh=>Vi (j:Int)),(9,82,fun gh=>.pointer (some ⟨b36,o37 + j * 3,none⟩)),(10,83,fun gh=>.agg #[Vi x.k,Vi x.n,.string x.s]),(11,84,fun gh=>.slice (some ⟨b40,o41,none⟩) N c2),(12,85,fun gh=>Vi (j:Int)),(13,86,fun gh=>.pointer (some ⟨b40,o41 + j * 3,none⟩)),(14,87,fun gh=>.agg #[Vi y.k,Vi y.n,.string y.s]),(15,88,fun gh=>.bool true),(16,89,fun gh=>.bool true),(17,90,fun gh=>.bool true),(18,91,fun gh=>.slice (some ⟨b36,o37,none⟩) N c7),(19,92,fun gh=>Vi (j:Int)),(20,93,fun gh=>.pointer (some ⟨b36,o37 + j * 3,none⟩)),(21,94,fun gh=>.pointer (some ⟨b36,o37 + j * 3,none⟩)),(22,95,fun gh=>Vi x.k),(23,96,fun gh=>.bool false),(24,97,fun gh=>.bool false),(25,98,fun gh=>.slice (some ⟨b40,o41,none⟩) N c2),(26,99,fun gh=>Vi (j:Int)),(27,100,fun gh=>.pointer (some ⟨b40,o41 + j * 3,none⟩)),(28,101,fun gh=>.pointer (some ⟨b40,o41 + j * 3,none⟩)),(29,102,fun gh=>Vi y.k),(30,103,fun gh=>.bool false),(31,104,fun gh=>.bool false),(32,105,fun gh=>.bool false)],[(11,.slice (some ⟨b36,o37,none⟩) N c7),(13,.slice (some ⟨b40,o41,none⟩) N c2),(69,Vi (N:Int)),(70,Vi (j:Int)),(15,Vi (j:Int))],[⟨some (.box b3 [.slice A N c,.slice B fm.pages.length d]),[]⟩],[],[[],[],[0,1],[0,1,2],[0,1,2,3],[0,1,2,3,4],[0,1,2,3,4,5],[0,1,2,3,4,5,6],[0,1,2,3,4,5,6],[0,1,2,3,4,5,6,7,8],[0,1,2,3,4,5,6,7,8,9],[0,1,2,3,4,5,6],[0,1,2,3,4,5,6],[0,1,2,3,4,5,6,11,12],[0,1,2,3,4,5,6,11,12,13],[0,1,2,3,4,5,6,7,8,9,10,11,12,13,14],[0,1,2,3,4,5,6,7,8,9,10,11,12,13,14,15],[0,1,2,3,4,5,6,7,8,9,10,11,12,13,14,15,16],[0,1,2,3,4,5,6,7,8,9,10,11,12,13,14,15,16,17],[0,1,2,3,4,5,6,7,8,9,10,11,12,13,14,15,16,17],[0,1,2,3,4,5,6,7,8,9,10,11,12,13,14,15,16,17,18,19],[0,1,2,3,4,5,6,7,8,9,10,11,12,13,14,15,16,17,18,19,20],[0,1,2,3,4,5,6,7,8,9,10,11,12,13,14,15,16,17,18,19,20,21],[0,1,2,3,4,5,6,7,8,9,10,11,12,13,14,15,16,17,18,19,20,21,22],[0,1,2,3,4,5,6,7,8,9,10,11,12,13,14,15,16,17,18,19,20,21,22,23],[0,1,2,3,4,5,6,7,8,9,10,11,12,13,14,15,16,17,18,19,20,21,22,23,24],[0,1,2,3,4,5,6,7,8,9,10,11,12,13,14,15,16,17,18,19,20,21,22,23,24],[0,1,2,3,4,5,6,7,8,9,10,11,12,13,14,15,16,17,18,19,20,21,22,23,24,25,26],[0,1,2,3,4,5,6,7,8,9,10,11,12,13,14,15,16,17,18,19,20,21,22,23,24,25,26,27],[0,1,2,3,4,5,6,7,8,9,10,11,12,13,14,15,16,17,18,19,20,21,22,23,24,25,26,27,28],[0,1,2,3,4,5,6,7,8,9,10,11,12,13,14,15,16,17,18,19,20,21,22,23,24,25,26,27,28,29],[0,1,2,3,4,5,6,7,8,9,10,11,12,13,14,15,16,17,18,19,20,21,22,23,24,25,26,27,28,29,30],[0,1,2,3,4,5,6,7,8,9,10,11,12,13,14,15,16,17,18,19,20,21,22,23,24,25,26,27,28,29,30,31]],h12⟩
    have hmono:∀ zq∈R.F,∀ zx zh zi,Sees zh zi→zq.2 zx zh→zq.2 zx zi:=mono_nil
    refine x_region (by kernel_rfl) R hJ 33 [.pu,.pu,.cl,.pu,.lf 1 0,.cl,.pu,.pu,.pu,.cl,.lf 1 0,.pu,.pu,.cl,.lf 0 0,.cl,.pu,.pu,.pu,.pu,.cl,.pu,.lf 1 0,.cl,.pu,.pu,.pu,.cl,.pu,.lf 0 0,.cl,.pu,.pu] (by kernel_rfl) hmono (fun _ _ _=>by kernel_rfl) (fun hT hA=>?_) ?_
    ·clear hJ
     refine And.intro (r_pur hT hA 75 (fun gh=>.pointer (some ⟨b36,o37 + j * 3,none⟩)) [0,1] 2 (fun gh w=>run_indexAddr (t:=32) (x:=(.tmp 73)) (y:=(.tmp 74)) (b:=b36) (off:=o37) (n:=N) (cap:=c7) (k:=j) (e:=38) (kk:=3) (by kernel_rfl) (by kernel_rfl) (by kernel_rfl) (by first | omega | (simp; omega)) Tryz.underlying32 (by kernel_rfl))) ?_
     refine And.intro (r_pur hT hA 78 (fun gh=>.bool true) [4] 5 (fun gh w=>run_eq (v0:=.bool (x.k != 4)) (by kernel_rfl) (congrArg Value.bool (bne_iff_ne.2 g4)))) ?_
     refine And.intro (r_pur hT hA 82 (fun gh=>.pointer (some ⟨b36,o37 + j * 3,none⟩)) [6,7,8] 9 (fun gh w=>run_indexAddr (t:=32) (x:=(.tmp 80)) (y:=(.tmp 81)) (b:=b36) (off:=o37) (n:=N) (cap:=c7) (k:=j) (e:=38) (kk:=3) (by kernel_rfl) (by kernel_rfl) (by kernel_rfl) (by first | omega | (simp; omega)) Tryz.underlying32 (by kernel_rfl))) ?_
     refine And.intro (r_pur hT hA 86 (fun gh=>.pointer (some ⟨b40,o41 + j * 3,none⟩)) [6,11,12] 13 (fun gh w=>run_indexAddr (t:=32) (x:=(.tmp 84)) (y:=(.tmp 85)) (b:=b40) (off:=o41) (n:=N) (cap:=c2) (k:=j) (e:=38) (kk:=3) (by kernel_rfl) (by kernel_rfl) (by kernel_rfl) (by first | omega | (simp; omega)) Tryz.underlying32 (by kernel_rfl))) ?_
     refine And.intro (r_pur hT hA 88 (fun gh=>.bool true) [6,10,14] 15 (fun gh w=>run_neqop (x:=(.tmp 83)) (y:=(.tmp 87)) (v:=x) (w:=y) (by kernel_rfl) (by kernel_rfl) (by kernel_rfl) (Bool.eq_false_iff.2 ge))) ?_
     refine And.intro (r_pur hT hA 93 (fun gh=>.pointer (some ⟨b36,o37 + j * 3,none⟩)) [17,18,19] 20 (fun gh w=>run_indexAddr (t:=32) (x:=(.tmp 91)) (y:=(.tmp 92)) (b:=b36) (off:=o37) (n:=N) (cap:=c7) (k:=j) (e:=38) (kk:=3) (by kernel_rfl) (by kernel_rfl) (by kernel_rfl) (by first | omega | (simp; omega)) Tryz.underlying32 (by kernel_rfl))) ?_
     refine And.intro (r_pur hT hA 96 (fun gh=>.bool false) [17,22] 23 (fun gh w=>run_eq (v0:=.bool (x.k != 5)) (by kernel_rfl) (congrArg Value.bool (by rw [bne_eq_false_iff_eq]; exact h55.1)))) ?_
     refine And.intro (r_pur hT hA 100 (fun gh=>.pointer (some ⟨b40,o41 + j * 3,none⟩)) [24,25,26] 27 (fun gh w=>run_indexAddr (t:=32) (x:=(.tmp 98)) (y:=(.tmp 99)) (b:=b40) (off:=o41) (n:=N) (cap:=c2) (k:=j) (e:=38) (kk:=3) (by kernel_rfl) (by kernel_rfl) (by kernel_rfl) (by first | omega | (simp; omega)) Tryz.underlying32 (by kernel_rfl))) ?_
     refine And.intro (r_pur hT hA 103 (fun gh=>.bool false) [24,29] 30 (fun gh w=>run_eq (v0:=.bool (y.k != 5)) (by kernel_rfl) (congrArg Value.bool (by rw [bne_eq_false_iff_eq]; exact h55.2)))) ?_
     trivial
    clear hJ a w; intro gh h45 a w sR hJ1 hF; have s46:Sees h12 h45:=sR; clear sR
    have hJ:K ⟨107,h.w,h.bad,[]⟩ [(11,.slice (some ⟨b36,o37,none⟩) N c7),(13,.slice (some ⟨b40,o41,none⟩) N c2),(69,Vi (N:Int)),(70,Vi (j:Int)),(105,.bool false)] [.box b3 [.slice A N c,.slice B fm.pages.length d]] [(b40,o41 + j * 3,[Vi y.k,Vi y.n,.string y.s]),(b36,o37 + j * 3,[Vi x.k,Vi x.n,.string x.s]),(b40,o41 + j * 3,[Vi y.k,Vi y.n,.string y.s]),(b36,o37 + j * 3,[Vi x.k,Vi x.n,.string x.s]),(b36,o37 + j * 3,[Vi x.k,Vi x.n,.string x.s])] h45 a w:=hJ1.tw
    clear hJ1 hF hmono R
    clear gh
    refine rk' hJ false 9 [] [(106,Vi (IntKind.i64.wrap ((j:Int) + 1)),Vi ((j:Int) + 1))] (.k (.out .normal) [] [11,13,69] [(70,Vi ((j:Int) + 1))]) (hc:=And.intro (i64_wrap (by omega) (by omega)) (trivial)) ?_
    clear hJ a w; intro a w hJ
    exact x_round ⟨j + 1,⟨h45,(hJ.tof [] (F':=[]) (by kernel_rfl)).to (by kernel_rfl) (by kernel_rfl) rfl,(s13.trans s46),by omega⟩,by omega⟩
 ·skip
  refine x_fal hJ (t:=decide ((j:Int) < (N:Int))) (decide_eq_false (by omega)) ?_
  refine rk' hJ false 2 [] [] (.k (.out (.exit 0)) [] [] []) ?_
  clear hJ a w; intro a w hJ
  refine x_leave rfl ?_
  refine rk' hJ false 8 [] [] (.k (.out .ret) [] [] [(6,.bool true)]) ?_
  clear hJ a w; intro a w hJ
  refine x_end (hQ [.bool true] _ [] hJ (.rtm hJ.j .nil) (no_own _) rfl ?_).1
  exact rfl

theorem wholeGrows_walk (v:Value) (l:List RawD) (v':Value) (m:List RawD) (i:Int) (w:World) (h:RawsOf w v l) (h':RawsOf w v' m) (i0 : -9223372036854775808≤i) (i1:i≤9223372036854775807) :
  Calls Tryz.prog 5 #[v,v',.int .i64 i] w fun e w'=>e=.returned (.bool true)∧Below w.heap.size w w' :=
 C0.law (wholeGrows_c l m v v' i ⟨w,[]⟩ h.rs h'.rs h.2.1 h'.2.1 h.2.2 h'.2.2 i0 i1)

namespace wholeGrowsLaw
open Go.ChangeShapes Go.WideShapes Go.ChangeAt Go.RowKit
open Go.ChangeMaps (open_string shut_string)
set_option linter.unusedVariables false

set_option maxRecDepth 100000 in
theorem lifted (os:Os) (started:os.Started) (H:Type) (enc:TypeId × Value→H) :
  ReturnsInHanded {} Tryz.checked os 5 .any (Rows.wholeGrowsSpec.pre6 enc Tryz.prog Tryz.f5 Rows.wholeGrowsRow.domain false) (Rows.wholeGrowsSpec.post enc Tryz.prog Tryz.f5 false true false false):=by
 refine returnsInHanded_of_change_sized (C:=Tryz.checked) ownNone started (by kernel_rfl) Tryz.func5
  (ChangeSpec.witness6 (enc:=enc) (C:=Tryz.checked) false ⟨#[],#[.slice none 0 0,.slice none 0 0,.int .i64 0],[]⟩ 8 (by kernel_rfl) (by kernel_rfl) (by kernel_rfl) (by kernel_rfl)) ?_
 intro W base args ds gs before hval0 hW hcnd hsz0 _
 have hval:∀ (j:Nat) t v,Tryz.f5.params[j]?=some t→args[j]?=some v→Value.okWide Tryz.prog W .any base t v:=hval0
 have hsz:(DataW.weightsEach Tryz.prog (Tryz.f5.params.toList++Rows.wholeGrowsSpec.plain.varTypes Tryz.prog) (ds++gs)).all (· ≤ reachBytes)=true:=hsz0
 have hW':=hW
 obtain ⟨p,q,hA0,hV,rfl,hfz,hnd⟩:=hW
 have hA:DataW.TrodAll enc Tryz.prog W 0 (fun _=>true) true Tryz.f5.params.toList args.toList ds p:=hA0
 rw [Tryz.params5] at hA hval hsz
 obtain ⟨v0,vs0,d0,ds0,p0,q0,hargs,rfl,rfl,h0,r0⟩:=trodAll_cons hA
 obtain ⟨v1,vs1,d1,ds1,p1,q1,rfl,rfl,rfl,h1,r1⟩:=trodAll_cons r0
 obtain ⟨v2,vs2,d2,ds2,p2,q2,rfl,rfl,rfl,h2,r2⟩:=trodAll_cons r1
 obtain ⟨rfl,rfl,rfl⟩:=trodAll_nil r2
 obtain rfl:args=#[v0,v1,v2]:=by cases args; simp_all
 obtain ⟨rfl,rfl⟩:=trodVars_none hV
 have k0:=h0
 have lt0:∀ x∈p0,x.block < W.heap.size:=by obtain ⟨m,hm⟩:=k0; exact DataW.trod_lt m _ _ _ hm
 obtain ⟨a0,w0⟩:=open_rows (hval 0 22 v0 rfl rfl) h0 (fun es ss hd=>sized_slice hsz (j:=0) (t:=22) (elems:=es) (spare:=ss) rfl (by rw [hd]; rfl) Tryz.underlying22)
 have k1:=h1
 have lt1:∀ x∈p1,x.block < W.heap.size:=by obtain ⟨m,hm⟩:=k1; exact DataW.trod_lt m _ _ _ hm
 obtain ⟨a1,w1⟩:=open_rows (hval 1 22 v1 rfl rfl) h1 (fun es ss hd=>sized_slice hsz (j:=1) (t:=22) (elems:=es) (spare:=ss) rfl (by rw [hd]; rfl) Tryz.underlying22)
 have k2:=h2
 have lt2:∀ x∈p2,x.block < W.heap.size:=by obtain ⟨m,hm⟩:=k2; exact DataW.trod_lt m _ _ _ hm
 obtain ⟨a2,rfl,-,-,w2⟩:=open_int Tryz.underlying3 (hval 2 3 v2 rfl rfl) h2
 clear hA0 hval0 hsz0
 refine (wholeGrows_walk v0 a0 v1 a1 a2 W w0 w1 (int_lo w2) (int_hi w2)).mono fun e W' ⟨he,bel⟩=>?_
 subst he
 exact ⟨_,rfl,_,_,_,[],_,[],hW',trodAll_mk1 (shut_bool Tryz.underlying4 _),(trodAll_cons_mk (Below.trod laidOutTrue (by kernel_rfl) (of_decide_eq_true (by kernel_rfl)) k0 bel lt0) (trodAll_cons_mk (Below.trod laidOutTrue (by kernel_rfl) (of_decide_eq_true (by kernel_rfl)) k1 bel lt1) (trodAll_cons_mk (Below.trod laidOutTrue (by kernel_rfl) (of_decide_eq_true (by kernel_rfl)) k2 bel lt2) trodAll_mk0))),rfl,bel.frame _,fun h=>by cases h⟩

theorem over:Rows.wholeGrowsRow.holds Tryz.pinned (OpenSpec.ofChange Rows.wholeGrowsSpec) :=
 OpenClaim.holds_of_wide 5 Tryz.f5 rfl rfl rfl rfl rfl rfl rfl ⟨rfl,rfl,rfl,rfl,rfl⟩ rfl rfl rfl rfl rfl (by kernel_rfl) Tryz.func5 (by kernel_rfl)
  (of_decide_eq_true (by kernel_rfl)) (by unfold Func.isWrapper; first | (rw [if_pos (by decide +kernel)]; kernel_rfl) | (rw [if_neg (by decide +kernel)]; exact ⟨rfl,rfl⟩))
  (fun os started H enc _=>lifted os started H enc)

end wholeGrowsLaw
theorem wholeGrows_holds:Rows.WholeGrowsSaid:=wholeGrowsLaw.over
#print axioms wholeGrows_holds
end Go.Proofs.YthckljafinhepaaGreat
