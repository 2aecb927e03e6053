/-
  For all raw things DeltaTold returns true: Differ returns exactly the fields with different values. No condition.
-/
import Derived.Test.YthckljafinhepaaGreatZB44
import Derived.Test.YthckljafinhepaaGreatZB46
namespace Go.Proofs.YthckljafinhepaaGreat
open Go.RowKit
set_option linter.unusedVariables false

set_option maxHeartbeats 4000000 in
set_option maxRecDepth 100000 in
theorem deltaTold_c (l m p:List RawD) (sl sm sp:Value) (h:Vw) (hl:RS h 4 sl (l.map RawD.cs)) (hm:RS h 4 sm (m.map RawD.cs)) (hp:RS h 4 sp (p.map RawD.cs)) (ll:l.length * 40≤reachBytes) (lm:m.length * 40≤reachBytes) (lp:p.length * 40≤reachBytes) (ol:∀ r∈l,r.ok) (om:∀ r∈m,r.ok) (op:∀ r∈p,r.ok) :
  C0 Tryz.prog 8 #[sl,sm,sp] h (fun v _=>v=.bool true):=by
 have hF:=form_c l sl
 have hlen:=form_len l
 have hnl:=nFields_le l
 have hty:=form_ty l
 have hnd:=form_nodup l
 have hA:=fun m A c B d si H q1 q2=>all_form l m [] A c B d si (.slice none 0 0) H q1 q2 (RS.nil H 7) (Nat.zero_le _) (fun p hp=>by cases hp) (fun H' _ q=>oracle_nil _ _ _ _ _ _ _ H' q)
 have hA':∀ m A c B d u H,IsForm H _ _ _→RS H 7 (.slice (sA u) (sN u) (sC u)) _→C0 Tryz.prog 18 _ H (fun r h'=>∃ y,r=.tuple #[.slice (sA y) (sN y) (sC y),.int .i64 0]∧RSn h' 3 y (formE l).fields.length (vlRows (allF l m []))):=fun m A c B d u H q1 q2=>(hA m A c B d (.slice (sA u) (sN u) (sC u)) H q1 q2).mono fun r h' _=>by
  rintro ⟨A',c',rfl,q⟩
  exact ⟨.slice A' (formE l).fields.length c',rfl,rfl,q⟩
 have hS1:=(allF_sol l m (orc:=[]) (fun p hp=>by cases hp)).1.len
 have hS2:=(allF_sol l p (orc:=[]) (fun p hp=>by cases hp)).1.len
 have hin:=fun m sm H fv pv q1 q2 q3 q4 q5=>inputs_u (formE l).fields pv fv m sm H q1 q2 (by omega) hty q3 q4 q5
 have hD:=fun A n c A1 c1 A2 c2 H q1 (q2:n=(formE l).fields.length) q3 q4=>differ_any (formE l).fields (allF l m []) (allF l p []) A n c A1 c1 A2 c2 H q1 q2 (by omega) q3 q4 (by omega) (by omega)
 have hD2:=fun A n c A1 c1 A2 c2 H q1 (q2:n=(formE l).fields.length) q3 q4=>differ_any (formE l).fields (allF l m []) (allF l m []) A n c A1 c1 A2 c2 H q1 q2 (by omega) q3 q4 (by omega) (by omega)
 rw [diffN_self] at hD2
 have hdl:=diffN_len (formE l).fields (allF l m []) (allF l p [])
 have hA1:=hA' m
 have hB':=hA' p
 clear hA hA'
 generalize allF l m []=va at *
 generalize allF l p []=vb at *
 generalize formE l=fm at *
 generalize hdn:diffN fm.fields va vb=dn at *
 generalize hN:fm.fields.length=N at *
 obtain ⟨A0,c0,rfl,-,-,-⟩:=hl.form
 obtain ⟨A1,c1,rfl,-,-,-⟩:=hm.form
 obtain ⟨A9,c9,rfl,-,-,-⟩:=hp.form
 rw [List.length_map] at *
 rw [List.length_map] at *
 rw [List.length_map] at *
 refine x_con Tryz.func8 (c:=Tryz.f8.body.getD .skip) (by kernel_rfl) (N:=98) rfl (by kernel_rfl) ?_
 intro hbx hbad Q hQ a w hJ
 replace hJ:K ⟨98,h.w,h.bad,[]⟩ [(0,.slice A0 l.length c0),(1,.slice A1 m.length c1),(2,.slice A9 p.length c9)] [] [] h a w:=hJ.to (by kernel_rfl) (by kernel_rfl) rfl
 refine rk hJ false 8 [] [] (.k (.ops [0,1] 1) [.seq [1,1]] [1,2] [(18,.slice A0 l.length c0)]) trivial trivial (fun _=>by kernel_rfl) ?_
 clear hJ a w; intro a w hJ
 refine x_call hJ 19 (hF _ (hl.sees hJ.j.sees) ll ol) (fun _=>by kernel_rfl) ?_; clear hJ a w; rintro _ h1 a w s2 ⟨A,c,B,d,rfl,hfm⟩ hJ
 refine rk hJ false 5 [.own,.b 0 0] [] (.new fun b3=>.m (.code [0,1,1]) [.seq [1,1,1]] [1,2] [(7,Vp b3)] [.box b3 [.slice A N c,.slice B fm.pages.length d]] []) trivial trivial (fun b3 _=>by kernel_rfl) ?_
 clear hJ a w; intro b3 a w hJ
 let R:Reg:=⟨⟨98,h.w,h.bad,[]⟩,[(0,21,fun gh=>.agg #[.slice A N c,.slice B fm.pages.length d]),(1,22,fun gh=>.agg #[.slice A N c,.slice B fm.pages.length d]),(2,23,fun gh=>.slice A1 m.length c1),(3,24,fun gh=>.slice (sA (gh 3)) (sN (gh 3)) (sC (gh 3))),(4,25,fun gh=>.tuple #[.slice (sA (gh 4)) (sN (gh 4)) (sC (gh 4)),Vi 0]),(5,20,fun gh=>.tuple #[.slice (sA (gh 4)) (sN (gh 4)) (sC (gh 4)),Vi 0]),(6,26,fun gh=>.slice (sA (gh 4)) (sN (gh 4)) (sC (gh 4))),(7,27,fun gh=>Vi 0),(8,8,fun gh=>.slice (sA (gh 4)) (sN (gh 4)) (sC (gh 4))),(9,9,fun gh=>Vi 0)],[(1,.slice A1 m.length c1),(2,.slice A9 p.length c9),(7,Vp b3)],[⟨some (.box b3 [.slice A N c,.slice B fm.pages.length d]),[]⟩],[(3,fun gh hh=>RS hh 7 (.slice (sA (gh 3)) (sN (gh 3)) (sC (gh 3))) (fcRows (inpE fm.fields m))),(4,fun gh hh=>RSn hh 3 (gh 4) N (vlRows va))],[[],[],[],[1,2],[0,1,2,3],[0,1,2,3,4],[0,1,2,3,4,5],[0,1,2,3,4,5],[0,1,2,3,4,5,6],[0,1,2,3,4,5,6,7,8]],h1⟩
 have hmono:∀ zq∈R.F,∀ zx zh zi,Sees zh zi→zq.2 zx zh→zq.2 zx zi:=mono_cons (fun _ _ _ s c=>c.sees s) (mono_cons (fun _ _ _ s c=>c.sees s) (mono_nil))
 refine x_region (by kernel_rfl) R hJ 10 [.ld 0 0,.ld 0 0,.pu,.cl,.cl,.pu,.pu,.pu,.pu,.pu] (by kernel_rfl) hmono (fun _ _ _=>by kernel_rfl) (fun hT hA=>?_) ?_
 ·clear hJ
  refine And.intro (r_call hT hA hmono ⟨fun _ _=>by kernel_rfl,fun _ _=>by kernel_rfl,fun _ _=>by kernel_rfl⟩ 24 (fun u=>.slice (sA u) (sN u) (sC u)) [1,2] 3 (by kernel_rfl) (by kernel_rfl) (fun _=>by kernel_rfl) 16 (fun gh=>#[.agg #[.slice A N c,.slice B fm.pages.length d],.slice A1 m.length c1]) (fun _ _=>by kernel_rfl) (fun gh H sH fH lent=>C0.facts (R:=R) (x:=gh) (i:=3) (n:=0) (F:=(fun u=>.slice (sA u) (sN u) (sC u))) (G:=fun u hh=>RS hh 7 (.slice (sA u) (sN u) (sC u)) (fcRows (inpE fm.fields m))) (f:=fun gh hh=>RS hh 7 (.slice (sA (gh 3)) (sN (gh 3)) (sC (gh 3))) (fcRows (inpE fm.fields m))) (hin m _ _ _ (.slice B fm.pages.length d) ((hfm.sees sH)).fields rfl (hm.sees (s2.trans sH)) lm om) (by kernel_rfl) (by kernel_rfl) (fun _ _ r=>r))) ?_
  refine And.intro (r_call hT hA hmono ⟨fun _ _=>by kernel_rfl,fun _ _=>by kernel_rfl,fun _ _=>by kernel_rfl⟩ 25 (fun u=>.tuple #[.slice (sA u) (sN u) (sC u),Vi 0]) [0,3] 4 (by kernel_rfl) (by kernel_rfl) (fun _=>by kernel_rfl) 18 (fun gh=>#[.agg #[.slice A N c,.slice B fm.pages.length d],.slice (sA (gh 3)) (sN (gh 3)) (sC (gh 3)),Vz]) (fun _ _=>by kernel_rfl) (fun gh H sH fH lent=>C0.facts (R:=R) (x:=gh) (i:=4) (n:=1) (F:=(fun u=>.tuple #[.slice (sA u) (sN u) (sC u),Vi 0])) (G:=fun u hh=>RSn hh 3 u N (vlRows va)) (f:=fun gh hh=>RSn hh 3 (gh 4) N (vlRows va)) (hA1 _ _ _ _ _ _ (hfm.sees sH) (fH 0 _ rfl (by kernel_rfl))) (by kernel_rfl) (by kernel_rfl) (fun _ _ r=>r))) ?_
  trivial
 clear hJ a w; intro gh h4 a w sR hJ1 hF; have s5:Sees h1 h4:=sR; clear sR
 have hJ:K ⟨98,h.w,h.bad,[]⟩ [(2,.slice A9 p.length c9),(7,Vp b3),(8,.slice (sA (gh 4)) (sN (gh 4)) (sC (gh 4))),(9,Vi 0)] [.box b3 [.slice A N c,.slice B fm.pages.length d]] [] h4 a w:=hJ1.to (by kernel_rfl) (by kernel_rfl) rfl
 have f24:RS h4 7 (.slice (sA (gh 3)) (sN (gh 3)) (sC (gh 3))) (fcRows (inpE fm.fields m)):=Reg.fact (i:=3) (f:=fun gh hh=>RS hh 7 (.slice (sA (gh 3)) (sN (gh 3)) (sC (gh 3))) (fcRows (inpE fm.fields m))) hF 0 (by kernel_rfl)
 have f25:RSn h4 3 (gh 4) N (vlRows va):=Reg.fact (i:=4) (f:=fun gh hh=>RSn hh 3 (gh 4) N (vlRows va)) hF 1 (by kernel_rfl)
 clear hJ1 hF hmono R
 generalize gh 3=u24 at *
 generalize gh 4=u25 at *
 clear gh
 refine rk hJ false 2 [] [] (.k (.code [0,1,1,1]) [.seq [1,1,1,1]] [2,7,8,9] []) trivial trivial (fun _=>by kernel_rfl) ?_
 clear hJ a w; intro a w hJ
 let R:Reg:=⟨⟨98,h.w,h.bad,[]⟩,[(0,29,fun gh=>.agg #[.slice A N c,.slice B fm.pages.length d]),(1,30,fun gh=>.agg #[.slice A N c,.slice B fm.pages.length d]),(2,31,fun gh=>.slice A9 p.length c9),(3,32,fun gh=>.slice (sA (gh 3)) (sN (gh 3)) (sC (gh 3))),(4,33,fun gh=>.tuple #[.slice (sA (gh 4)) (sN (gh 4)) (sC (gh 4)),Vi 0]),(5,28,fun gh=>.tuple #[.slice (sA (gh 4)) (sN (gh 4)) (sC (gh 4)),Vi 0]),(6,34,fun gh=>.slice (sA (gh 4)) (sN (gh 4)) (sC (gh 4))),(7,35,fun gh=>Vi 0),(8,10,fun gh=>.slice (sA (gh 4)) (sN (gh 4)) (sC (gh 4))),(9,11,fun gh=>Vi 0)],[(2,.slice A9 p.length c9),(7,Vp b3),(8,.slice (sA u25) (sN u25) (sC u25)),(9,Vi 0)],[⟨some (.box b3 [.slice A N c,.slice B fm.pages.length d]),[]⟩],[(3,fun gh hh=>RS hh 7 (.slice (sA (gh 3)) (sN (gh 3)) (sC (gh 3))) (fcRows (inpE fm.fields p))),(4,fun gh hh=>RSn hh 3 (gh 4) N (vlRows vb))],[[],[],[],[1,2],[0,1,2,3],[0,1,2,3,4],[0,1,2,3,4,5],[0,1,2,3,4,5],[0,1,2,3,4,5,6],[0,1,2,3,4,5,6,7,8]],h4⟩
 have hmono:∀ zq∈R.F,∀ zx zh zi,Sees zh zi→zq.2 zx zh→zq.2 zx zi:=mono_cons (fun _ _ _ s c=>c.sees s) (mono_cons (fun _ _ _ s c=>c.sees s) (mono_nil))
 refine x_region (by kernel_rfl) R hJ 10 [.ld 0 0,.ld 0 0,.pu,.cl,.cl,.pu,.pu,.pu,.pu,.pu] (by kernel_rfl) hmono (fun _ _ _=>by kernel_rfl) (fun hT hA=>?_) ?_
 ·clear hJ
  refine And.intro (r_call hT hA hmono ⟨fun _ _=>by kernel_rfl,fun _ _=>by kernel_rfl,fun _ _=>by kernel_rfl⟩ 32 (fun u=>.slice (sA u) (sN u) (sC u)) [1,2] 3 (by kernel_rfl) (by kernel_rfl) (fun _=>by kernel_rfl) 16 (fun gh=>#[.agg #[.slice A N c,.slice B fm.pages.length d],.slice A9 p.length c9]) (fun _ _=>by kernel_rfl) (fun gh H sH fH lent=>C0.facts (R:=R) (x:=gh) (i:=3) (n:=0) (F:=(fun u=>.slice (sA u) (sN u) (sC u))) (G:=fun u hh=>RS hh 7 (.slice (sA u) (sN u) (sC u)) (fcRows (inpE fm.fields p))) (f:=fun gh hh=>RS hh 7 (.slice (sA (gh 3)) (sN (gh 3)) (sC (gh 3))) (fcRows (inpE fm.fields p))) (hin p _ _ _ (.slice B fm.pages.length d) ((hfm.sees (s5.trans sH))).fields rfl (hp.sees (s2.trans (s5.trans sH))) lp op) (by kernel_rfl) (by kernel_rfl) (fun _ _ r=>r))) ?_
  refine And.intro (r_call hT hA hmono ⟨fun _ _=>by kernel_rfl,fun _ _=>by kernel_rfl,fun _ _=>by kernel_rfl⟩ 33 (fun u=>.tuple #[.slice (sA u) (sN u) (sC u),Vi 0]) [0,3] 4 (by kernel_rfl) (by kernel_rfl) (fun _=>by kernel_rfl) 18 (fun gh=>#[.agg #[.slice A N c,.slice B fm.pages.length d],.slice (sA (gh 3)) (sN (gh 3)) (sC (gh 3)),Vz]) (fun _ _=>by kernel_rfl) (fun gh H sH fH lent=>C0.facts (R:=R) (x:=gh) (i:=4) (n:=1) (F:=(fun u=>.tuple #[.slice (sA u) (sN u) (sC u),Vi 0])) (G:=fun u hh=>RSn hh 3 u N (vlRows vb)) (f:=fun gh hh=>RSn hh 3 (gh 4) N (vlRows vb)) (hB' _ _ _ _ _ _ (hfm.sees (s5.trans sH)) (fH 0 _ rfl (by kernel_rfl))) (by kernel_rfl) (by kernel_rfl) (fun _ _ r=>r))) ?_
  trivial
 clear hJ a w; intro gh h6 a w sR hJ1 hF; have s7:Sees h4 h6:=sR; clear sR
 have hJ:K ⟨98,h.w,h.bad,[]⟩ [(7,Vp b3),(8,.slice (sA u25) (sN u25) (sC u25)),(9,Vi 0),(10,.slice (sA (gh 4)) (sN (gh 4)) (sC (gh 4))),(11,Vi 0)] [.box b3 [.slice A N c,.slice B fm.pages.length d]] [] h6 a w:=hJ1.to (by kernel_rfl) (by kernel_rfl) rfl
 have f32:RS h6 7 (.slice (sA (gh 3)) (sN (gh 3)) (sC (gh 3))) (fcRows (inpE fm.fields p)):=Reg.fact (i:=3) (f:=fun gh hh=>RS hh 7 (.slice (sA (gh 3)) (sN (gh 3)) (sC (gh 3))) (fcRows (inpE fm.fields p))) hF 0 (by kernel_rfl)
 have f33:RSn h6 3 (gh 4) N (vlRows vb):=Reg.fact (i:=4) (f:=fun gh hh=>RSn hh 3 (gh 4) N (vlRows vb)) hF 1 (by kernel_rfl)
 clear hJ1 hF hmono R
 generalize gh 3=u32 at *
 generalize gh 4=u33 at *
 clear gh
 refine rk hJ false 7 [.b 0 0] [] (.k (.ops [0,1,1,1,1] 4) [.seq [1,1,1,1,1]] [7,8,9,10,11] [(38,.slice A N c),(39,.slice (sA u25) (sN u25) (sC u25)),(40,.slice (sA u33) (sN u33) (sC u33))]) trivial trivial (fun _=>by kernel_rfl) ?_
 clear hJ a w; intro a w hJ
 obtain ⟨e25,g25⟩:=f25
 obtain ⟨e33,g33⟩:=f33
 rw [e25] at hJ g25
 rw [e33] at hJ g33
 generalize sA u25=A7 at *
 generalize sC u25=c7 at *
 generalize sA u33=A8 at *
 generalize sC u33=c8 at *
 refine x_call hJ 41 (hD _ _ _ _ _ _ _ _ ((hfm.sees (s5.trans (s7.trans hJ.j.sees)))).fields rfl (g25.sees (s7.trans hJ.j.sees)) (g33.sees hJ.j.sees)) (fun _=>by kernel_rfl) ?_; clear hJ a w; rintro _ h8 a w s9 ⟨A5,c5,rfl,hr5⟩ hJ
 refine rk hJ false 13 [.b 0 0] [] (.k (.ops [0,1,1,1,1,1] 4) [.seq [1,1,1,1,1,1]] [7,8,9,10,11] [(12,.slice A5 dn.length c5),(13,Vi 0),(46,.slice A N c),(47,.slice A7 N c7),(48,.slice A7 N c7)]) trivial trivial (fun _=>by kernel_rfl) ?_
 clear hJ a w; intro a w hJ
 refine x_call hJ 49 (hD2 _ _ _ _ _ _ _ _ ((hfm.sees (s5.trans (s7.trans (s9.trans hJ.j.sees))))).fields rfl (g25.sees (s7.trans (s9.trans hJ.j.sees))) (g25.sees (s7.trans (s9.trans hJ.j.sees)))) (fun _=>by kernel_rfl) ?_; clear hJ a w; rintro _ h10 a w s11 ⟨A6,c6,rfl,hr6⟩ hJ
 refine rk hJ false 10 [] [] (.k (.ops [0,0,1,1,1,1,1,1] 0) [.seq [1,0,1,1,1,1,1,1],.seq [1,1,1,1,1,1,1]] [7,8,9,10,11,12,13] [(14,.slice A6 0 c6),(15,Vi 0)]) trivial trivial (fun _=>by kernel_rfl) ?_
 clear hJ a w; intro a w hJ
 refine rk hJ false 38 [.cl 19 #[] (.bool true),.b 0 0] [] (.k (.code [0,1,0,1,1,1,1,1,1,1]) [.block 0,.seq [1,1,1,1,1,1,1,1]] [8,10,12] [(76,.slice A N c),(77,Vi (N:Int)),(78,Vi 0)]) (And.intro (fun H sH=>known_any _) (trivial)) trivial (fun _=>by kernel_rfl) ?_
 clear hJ a w; intro a w hJ
 obtain ⟨vs,A3,c3,e3,-,-,hr3,hs3,hl3,hsl⟩:=fds_open hfm.fields
 simp only [Value.slice.injEq] at e3
 obtain ⟨rfl,-,rfl⟩:=e3
 rw [hN] at hr3 hl3
 refine x_loop (fun (i:Nat) a w=>∃ (h12:Vw) ,K ⟨98,h.w,h.bad,[]⟩ [(8,.slice A7 N c7),(10,.slice A8 N c8),(12,.slice A5 dn.length c5),(76,.slice A N c),(77,Vi (N:Int)),(78,Vi (i:Int))] [.box b3 [.slice A N c,.slice B fm.pages.length d]] [] h12 a w∧Sees h10 h12∧(i≤N)) (fun i=>N - i) (0) (by kernel_rfl) ⟨h10,hJ.to (by kernel_rfl) (by kernel_rfl) rfl,Sees.refl _,Nat.zero_le _⟩ ?_
 clear hJ a w; rintro i a w ⟨h12,hJ,s13,hi⟩
 refine rk hJ false 6 [] [] (.k (.code [0,1,0,0,1,0,1,1,1,1,1,1,1]) [.seq [1,1,0,0,1,0,1,1,1,1,1,1,1]] [8,10,12,76,77,78] [(79,.bool (decide ((i:Int) < (N:Int))))]) trivial trivial (fun _=>by kernel_rfl) ?_
 clear hJ a w; intro a w hJ
 rcases (by omega:i < N∨i=N) with hilt | hke
 ·obtain ⟨x,hx⟩:∃ x,fm.fields[i]?=some x:=⟨_,List.getElem?_eq_getElem (by omega)⟩
  obtain ⟨u,hu⟩:∃ u,vs[i]?=some u:=⟨_,List.getElem?_eq_getElem (by omega)⟩
  have hrow:=fdRows_get hx hu
  obtain ⟨Au,nu,cu,rfl⟩:=(AllArgs.get hs3 (x:=x.src) (by rw [List.getElem?_map,hx]; rfl) hu).slice
  obtain ⟨xa,hxa⟩:∃ y,va[i]?=some y:=⟨_,List.getElem?_eq_getElem (by omega)⟩
  obtain ⟨xb,hxb⟩:∃ y,vb[i]?=some y:=⟨_,List.getElem?_eq_getElem (by omega)⟩
  have hra:=vlRows_get hxa
  have hrb:=vlRows_get hxb
  have hco:=fun H q=>contS_any dn (.slice A5 dn.length c5) x.name H q (by omega)
  rw [← hdn,diffN_at hnd hx hxa hxb,hdn] at hco
  generalize hq:eqB xa xb=q at *
  refine x_true hJ (t:=decide ((i:Int) < (N:Int))) (by kernel_rfl) (decide_eq_true (by omega)) ?_
  refine rx hJ false 7 [] [] (.ok (.ops [0,0,0,1,1,0,0,1,0,1,1,1,1,1,1,1] 1) [.seq [1,0,0,1,1,0,0,1,0,1,1,1,1,1,1,1],.block 1,.seq [1,1,1,0,0,1,0,1,1,1,1,1,1,1]] [(8,.slice A7 N c7),(10,.slice A8 N c8),(12,.slice A5 dn.length c5),(76,.slice A N c),(77,Vi (N:Int)),(78,Vi (i:Int)),(80,Vi (i:Int))] [.box b3 [.slice A N c,.slice B fm.pages.length d]] []) trivial trivial (fun _=>by kernel_rfl) ?_
  clear hJ a w; intro a w hJ
  obtain ⟨b14,o15,rfl,-,c16⟩:=RS.row hr3 (hrow)
  replace hJ:=hJ.fact (c16.sees (s5.trans (s7.trans (s9.trans (s11.trans s13)))))
  refine rk hJ false 8 [.ix b14 o15 N c i,.f 0 0,.own,.b 0 0] [] (.new fun b17=>.f (.code [0,1,0,0,1,1,0,0,1,0,1,1,1,1,1,1,1]) [.seq [1,1,0,0,1,1,0,0,1,0,1,1,1,1,1,1,1],.block 1,.seq [1,1,1,0,0,1,0,1,1,1,1,1,1,1]] [8,10,12,76,77,78] [(17,Vp b17),(16,Vi (i:Int))] [.box b17 [.string x.name,Vi x.kind,Vi x.ty,Vi x.src.op,Vi x.src.k,Vi x.src.n,.string x.src.s,.string x.src.nm,.slice Au nu cu],.box b3 [.slice (some ⟨b14,o15,none⟩) N c,.slice B fm.pages.length d]] [.o 0]) (And.intro (by first | omega | (simp; omega)) (trivial)) trivial (fun b17 _=>by kernel_rfl) ?_
  clear hJ a w; intro b17 a w hJ
  obtain ⟨b18,o19,rfl,-,c20⟩:=RS.row g25 (hra)
  replace hJ:=hJ.fact (c20.sees (s7.trans (s9.trans (s11.trans s13))))
  obtain ⟨b21,o22,rfl,-,c23⟩:=RS.row g33 (hrb)
  replace hJ:=hJ.fact (c23.sees (s9.trans (s11.trans s13)))
  let R:Reg:=⟨⟨98,h.w,h.bad,[]⟩,[(0,83,fun gh=>.slice A5 dn.length c5),(1,84,fun gh=>Vp b17),(2,85,fun gh=>.string x.name),(3,86,fun gh=>.bool (!q)),(4,87,fun gh=>.slice (some ⟨b18,o19,none⟩) N c7),(5,88,fun gh=>Vi (i:Int)),(6,89,fun gh=>.pointer (some ⟨b18,o19 + i * 3,none⟩)),(7,90,fun gh=>.agg #[Vi xa.k,Vi xa.n,.string xa.s]),(8,91,fun gh=>.slice (some ⟨b21,o22,none⟩) N c8),(9,92,fun gh=>Vi (i:Int)),(10,93,fun gh=>.pointer (some ⟨b21,o22 + i * 3,none⟩)),(11,94,fun gh=>.agg #[Vi xb.k,Vi xb.n,.string xb.s]),(12,95,fun gh=>.bool (!q)),(13,96,fun gh=>.bool false)],[(8,.slice (some ⟨b18,o19,none⟩) N c7),(10,.slice (some ⟨b21,o22,none⟩) N c8),(12,.slice A5 dn.length c5),(76,.slice (some ⟨b14,o15,none⟩) N c),(77,Vi (N:Int)),(78,Vi (i:Int)),(17,Vp b17),(16,Vi (i:Int))],[⟨some (.box b17 [.string x.name,Vi x.kind,Vi x.ty,Vi x.src.op,Vi x.src.k,Vi x.src.n,.string x.src.s,.string x.src.nm,.slice Au nu cu]),[]⟩,⟨some (.box b3 [.slice (some ⟨b14,o15,none⟩) N c,.slice B fm.pages.length d]),[]⟩],[],[[],[],[1],[0,1,2],[],[],[4,5],[4,5,6],[],[],[8,9],[8,9,10],[4,5,6,7,8,9,10,11],[0,1,2,3,4,5,6,7,8,9,10,11,12]],h12⟩
  have hmono:∀ zq∈R.F,∀ zx zh zi,Sees zh zi→zq.2 zx zh→zq.2 zx zi:=mono_nil
  refine x_region (by kernel_rfl) R hJ 14 [.pu,.pu,.ld 0 0,.cl,.pu,.pu,.cl,.lf 1 0,.pu,.pu,.cl,.lf 0 0,.cl,.cl] (by kernel_rfl) hmono (fun _ _ _=>by kernel_rfl) (fun hT hA=>?_) ?_
  ·clear hJ
   refine And.intro (r_callv hT hA hmono 86 (fun gh=>.bool (!q)) [0,2] 3 (by kernel_rfl) (by kernel_rfl) (by kernel_rfl) (fun _=>by kernel_rfl) 30 (fun gh=>#[.slice A5 dn.length c5,.string x.name]) (fun _ _=>by kernel_rfl) (fun gh H sH fH lent=>hco _ (hr5.sees (s11.trans (s13.trans sH))))) ?_
   refine And.intro (r_pure hT hA 89 (fun gh=>.pointer (some ⟨b18,o19 + i * 3,none⟩)) [4,5] 6 (by kernel_rfl) (by kernel_rfl) (by kernel_rfl) (fun _=>by kernel_rfl) (fun gh w=>run_indexAddr (t:=32) (x:=(.tmp 87)) (y:=(.tmp 88)) (b:=b18) (off:=o19) (n:=N) (cap:=c7) (k:=i) (e:=38) (kk:=3) (by kernel_rfl) (by kernel_rfl) (by kernel_rfl) (by first | omega | (simp; omega)) Tryz.underlying32 (by kernel_rfl))) ?_
   refine And.intro (r_pure hT hA 93 (fun gh=>.pointer (some ⟨b21,o22 + i * 3,none⟩)) [8,9] 10 (by kernel_rfl) (by kernel_rfl) (by kernel_rfl) (fun _=>by kernel_rfl) (fun gh w=>run_indexAddr (t:=32) (x:=(.tmp 91)) (y:=(.tmp 92)) (b:=b21) (off:=o22) (n:=N) (cap:=c8) (k:=i) (e:=38) (kk:=3) (by kernel_rfl) (by kernel_rfl) (by kernel_rfl) (by first | omega | (simp; omega)) Tryz.underlying32 (by kernel_rfl))) ?_
   refine And.intro (r_pure hT hA 95 (fun gh=>.bool (!q)) [7,11] 12 (by kernel_rfl) (by kernel_rfl) (by kernel_rfl) (fun _=>by kernel_rfl) (fun gh w=>run_neqop (x:=(.tmp 90)) (y:=(.tmp 94)) (v:=xa) (w:=xb) (by kernel_rfl) (by kernel_rfl) (by kernel_rfl) (hq))) ?_
   refine And.intro (r_pure hT hA 96 (fun gh=>.bool false) [3,12] 13 (by kernel_rfl) (by kernel_rfl) (by kernel_rfl) (fun _=>by kernel_rfl) (fun gh w=>run_eq (v0:=.bool ((!q) != (!q))) (by kernel_rfl) (by cases q <;> rfl))) ?_
   trivial
  clear hJ a w; intro gh h24 a w sR hJ1 hF; have s25:Sees h12 h24:=sR; clear sR
  have hJ:K ⟨98,h.w,h.bad,[]⟩ [(8,.slice (some ⟨b18,o19,none⟩) N c7),(10,.slice (some ⟨b21,o22,none⟩) N c8),(12,.slice A5 dn.length c5),(76,.slice (some ⟨b14,o15,none⟩) N c),(77,Vi (N:Int)),(78,Vi (i:Int)),(96,.bool false)] [.box b17 [.string x.name,Vi x.kind,Vi x.ty,Vi x.src.op,Vi x.src.k,Vi x.src.n,.string x.src.s,.string x.src.nm,.slice Au nu cu],.box b3 [.slice (some ⟨b14,o15,none⟩) N c,.slice B fm.pages.length d]] [(b21,o22 + i * 3,[Vi xb.k,Vi xb.n,.string xb.s]),(b18,o19 + i * 3,[Vi xa.k,Vi xa.n,.string xa.s]),(b14,o15 + i * 9,[.string x.name,Vi x.kind,Vi x.ty,Vi x.src.op,Vi x.src.k,Vi x.src.n,.string x.src.s,.string x.src.nm,.slice Au nu cu])] h24 a w:=hJ1.to (by kernel_rfl) (by kernel_rfl) rfl
  clear hJ1 hF hmono R
  clear gh
  refine rk hJ false 9 [] [(97,Vi (IntKind.i64.wrap ((i:Int) + 1)),Vi ((i:Int) + 1))] (.k (.out .normal) [] [8,10,12,76,77] [(78,Vi ((i:Int) + 1))]) trivial (And.intro (i64_wrap (by omega) (by omega)) (trivial)) (fun _=>by kernel_rfl) ?_
  clear hJ a w; intro a w hJ
  replace hJ:=hJ.drop 0
  exact x_round ⟨i + 1,⟨h24,(hJ.tof [] (F':=[]) (by kernel_rfl)).to (by kernel_rfl) (by kernel_rfl) rfl,(s13.trans s25),by omega⟩,by omega⟩
 ·skip
  refine x_false hJ (t:=decide ((i:Int) < (N:Int))) (by kernel_rfl) (decide_eq_false (by omega)) ?_
  refine rk hJ false 2 [] [] (.k (.out (.exit 0)) [] [] []) trivial trivial (fun _=>by kernel_rfl) ?_
  clear hJ a w; intro a w hJ
  refine x_leave rfl ?_
  refine rk hJ false 8 [] [] (.k (.out .ret) [] [] [(6,.bool true)]) trivial trivial (fun _=>by kernel_rfl) ?_
  clear hJ a w; intro a w hJ
  refine x_end (hQ [.bool true] _ [] hJ (.rtmp hJ.j (by kernel_rfl) .nil) (no_own _) rfl ?_).1
  exact rfl

theorem deltaTold_walk (v:Value) (l:List RawD) (v':Value) (m:List RawD) (v'':Value) (p:List RawD) (w:World) (h:RawsOf w v l) (h':RawsOf w v' m) (h'':RawsOf w v'' p) :
  Calls Tryz.prog 8 #[v,v',v''] w fun e w'=>e=.returned (.bool true)∧Below w.heap.size w w' :=
 C0.law (deltaTold_c l m p v v' v'' ⟨w,[]⟩ h.rs h'.rs h''.rs h.2.1 h'.2.1 h''.2.1 h.2.2 h'.2.2 h''.2.2)

namespace deltaToldLaw
open Go.ChangeShapes Go.WideShapes Go.ChangeAt Go.RowKit
open Go.ChangeMaps (open_string shut_string)
set_option linter.unusedVariables false

set_option maxRecDepth 100000 in
theorem lifted (os:Os) (started:os.Started) (H:Type) (enc:TypeId × Value→H) :
  ReturnsInHanded {} Tryz.checked os 8 .any (Rows.deltaToldSpec.pre6 enc Tryz.prog Tryz.f8 Rows.deltaToldRow.domain false) (Rows.deltaToldSpec.post enc Tryz.prog Tryz.f8 false true false false):=by
 refine returnsInHanded_of_change_sized (C:=Tryz.checked) ownNone started (by kernel_rfl) Tryz.func8
  (ChangeSpec.witness6 (enc:=enc) (C:=Tryz.checked) false ⟨#[],#[.slice none 0 0,.slice none 0 0,.slice none 0 0],[]⟩ 8 (by kernel_rfl) (by kernel_rfl) (by kernel_rfl) (by kernel_rfl)) ?_
 intro W base args ds gs before hval0 hW hcnd hsz0 _
 have hval:∀ (j:Nat) t v,Tryz.f8.params[j]?=some t→args[j]?=some v→Value.okWide Tryz.prog W .any base t v:=hval0
 have hsz:(DataW.weightsEach Tryz.prog (Tryz.f8.params.toList++Rows.deltaToldSpec.plain.varTypes Tryz.prog) (ds++gs)).all (· ≤ reachBytes)=true:=hsz0
 have hW':=hW
 obtain ⟨p,q,hA0,hV,rfl,hfz,hnd⟩:=hW
 have hA:DataW.TrodAll enc Tryz.prog W 0 (fun _=>true) true Tryz.f8.params.toList args.toList ds p:=hA0
 rw [Tryz.params8] at hA hval hsz
 obtain ⟨v0,vs0,d0,ds0,p0,q0,hargs,rfl,rfl,h0,r0⟩:=trodAll_cons hA
 obtain ⟨v1,vs1,d1,ds1,p1,q1,rfl,rfl,rfl,h1,r1⟩:=trodAll_cons r0
 obtain ⟨v2,vs2,d2,ds2,p2,q2,rfl,rfl,rfl,h2,r2⟩:=trodAll_cons r1
 obtain ⟨rfl,rfl,rfl⟩:=trodAll_nil r2
 obtain rfl:args=#[v0,v1,v2]:=by cases args; simp_all
 obtain ⟨rfl,rfl⟩:=trodVars_none hV
 have k0:=h0
 have lt0:∀ x∈p0,x.block < W.heap.size:=by obtain ⟨m,hm⟩:=k0; exact DataW.trod_lt m _ _ _ hm
 obtain ⟨a0,w0⟩:=open_rows (hval 0 22 v0 rfl rfl) h0 (fun es ss hd=>sized_slice hsz (j:=0) (t:=22) (elems:=es) (spare:=ss) rfl (by rw [hd]; rfl) Tryz.underlying22)
 have k1:=h1
 have lt1:∀ x∈p1,x.block < W.heap.size:=by obtain ⟨m,hm⟩:=k1; exact DataW.trod_lt m _ _ _ hm
 obtain ⟨a1,w1⟩:=open_rows (hval 1 22 v1 rfl rfl) h1 (fun es ss hd=>sized_slice hsz (j:=1) (t:=22) (elems:=es) (spare:=ss) rfl (by rw [hd]; rfl) Tryz.underlying22)
 have k2:=h2
 have lt2:∀ x∈p2,x.block < W.heap.size:=by obtain ⟨m,hm⟩:=k2; exact DataW.trod_lt m _ _ _ hm
 obtain ⟨a2,w2⟩:=open_rows (hval 2 22 v2 rfl rfl) h2 (fun es ss hd=>sized_slice hsz (j:=2) (t:=22) (elems:=es) (spare:=ss) rfl (by rw [hd]; rfl) Tryz.underlying22)
 clear hA0 hval0 hsz0
 refine (deltaTold_walk v0 a0 v1 a1 v2 a2 W w0 w1 w2).mono fun e W' ⟨he,bel⟩=>?_
 subst he
 exact ⟨_,rfl,_,_,_,[],_,[],hW',trodAll_mk1 (shut_bool Tryz.underlying4 _),(trodAll_cons_mk (Below.trod laidOutTrue (by kernel_rfl) (of_decide_eq_true (by kernel_rfl)) k0 bel lt0) (trodAll_cons_mk (Below.trod laidOutTrue (by kernel_rfl) (of_decide_eq_true (by kernel_rfl)) k1 bel lt1) (trodAll_cons_mk (Below.trod laidOutTrue (by kernel_rfl) (of_decide_eq_true (by kernel_rfl)) k2 bel lt2) trodAll_mk0))),rfl,bel.frame _,fun h=>by cases h⟩

theorem over:Rows.deltaToldRow.holds Tryz.pinned (OpenSpec.ofChange Rows.deltaToldSpec) :=
 OpenClaim.holds_of_wide 8 Tryz.f8 rfl rfl rfl rfl rfl rfl rfl ⟨rfl,rfl,rfl,rfl,rfl⟩ rfl rfl rfl rfl rfl (by kernel_rfl) Tryz.func8 (by kernel_rfl)
  (of_decide_eq_true (by kernel_rfl)) (by unfold Func.isWrapper; first | (rw [if_pos (by decide +kernel)]; kernel_rfl) | (rw [if_neg (by decide +kernel)]; exact ⟨rfl,rfl⟩))
  (fun os started H enc _=>lifted os started H enc)

end deltaToldLaw
theorem deltaTold_holds:Rows.DeltaToldSaid:=deltaToldLaw.over
#print axioms deltaTold_holds
end Go.Proofs.YthckljafinhepaaGreat
