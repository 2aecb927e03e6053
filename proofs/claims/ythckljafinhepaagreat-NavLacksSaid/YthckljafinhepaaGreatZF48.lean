/-
  For all raw things and numbers NavLacks returns true: Lacks returns exactly the fields of a page whose values are not known. No condition.
-/
import Derived.Test.YthckljafinhepaaGreatZF45
import Derived.Test.YthckljafinhepaaGreatZF43
import Derived.Test.YthckljafinhepaaGreatZF47
namespace Go.Proofs.YthckljafinhepaaGreat
open Go.RowKit
set_option linter.unusedVariables false

theorem lackN_at {fs:List Fd} (hd:(fs.map (fun f:Fd=>f.name)).Nodup) {va:List Vl} {l:List ByteArray} {i:Nat} {f:Fd} {x:Vl} (h1:fs[i]?=some f) (h2:va[i]?=some x):memS (lackN fs va l) f.name=(memS l f.name && !decide (x.k≤3)):=by
 have e:=findF_at hd h1
 rw [Bool.eq_iff_iff,memS_iff,Bool.and_eq_true,memS_iff]
 unfold lackN
 rw [List.mem_filter,e,Int.toNat_natCast,List.getD_eq_getElem?_getD,h2,Option.getD_some]

set_option maxHeartbeats 4000000 in
set_option maxRecDepth 100000 in
theorem navLacks_c (l m:List RawD) (sl sm:Value) (i:Int) (h:Vw) (hl:RS h 4 sl (l.map RawD.cs)) (hm:RS h 4 sm (m.map RawD.cs)) (ll:l.length * 40≤reachBytes) (lm:m.length * 40≤reachBytes) (ol:∀ r∈l,r.ok) (om:∀ r∈m,r.ok)
  (i0 : -9223372036854775808≤i) (i1:i≤9223372036854775807):C0 Tryz.prog 12 #[sl,sm,.int .i64 i] h (fun v _=>v=.bool true):=by
 have hF:=form_c l sl
 have hlen:=form_len l
 have hnl:=nFields_le l
 have hty:=form_ty l
 have hnd:=form_nodup l
 have hA:=fun A c B d si H q1 q2=>all_form l m [] A c B d si (.slice none 0 0) H q1 q2 (RS.nil H 7) (Nat.zero_le _) (fun p hp=>by cases hp) (fun H' _ q=>oracle_nil _ _ _ _ _ _ _ H' q)
 have hA1:∀ A c B d u H,IsForm H _ _ _→RS H 7 (.slice (sA u) (sN u) (sC u)) _→C0 Tryz.prog 18 _ H (fun r h'=>∃ y,r=.tuple #[.slice (sA y) (sN y) (sC y),.int .i64 0]∧RSn h' 3 y (formE l).fields.length (vlRows (allF l m []))):=fun A c B d u H q1 q2=>(hA A c B d (.slice (sA u) (sN u) (sC u)) H q1 q2).mono fun r h' _=>by
  rintro ⟨A',c',rfl,q⟩
  exact ⟨.slice A' (formE l).fields.length c',rfl,rfl,q⟩
 have hok:=form_okFm l
 obtain ⟨hS,ov⟩:=allF_sol l m (orc:=[]) (fun p hp=>by cases hp)
 have la:=hS.len
 have hin:=fun sm H fv pv q1 q2 q3 q4 q5=>inputs_u (formE l).fields pv fv m sm H q1 q2 (by omega) hty q3 q4 q5
 have m1:=hok.pages.one
 have mf:=hok.pages.few
 have p0:=pickL_lo i (formE l).pages.length (by omega)
 have p1:=pickL_hi i (formE l).pages.length (by omega)
 have hpk:=fun H=>c_picked i (formE l).pages.length H i0 i1 (by omega) (by omega)
 obtain ⟨k,hk⟩:∃ k:Nat,pickL i (formE l).pages.length=(k:Int):=⟨_,(Int.toNat_of_nonneg p0).symm⟩
 rw [hk] at p1 hpk
 obtain ⟨p,hp⟩:∃ p,(formE l).pages[k]?=some p:=⟨_,List.getElem?_eq_getElem (by omega)⟩
 have hL:=fun A c B d A1 c1 H q1 q2=>navLacks_any (formE l) _ _ A _ c B _ d (allF l m []) A1 c1 k p H hok q1 rfl rfl q2 la ov hp
 have hpf:=hok.pages.fl p (List.mem_of_getElem? hp)
 have hll:=lackN_len (formE l).fields (allF l m []) p.fields
 clear hA hS
 generalize allF l m []=va at *
 generalize formE l=fm at *
 have hkn:=fun x (hx:x∈va) H=>known_dec x (ov x hx) H
 have hlk:=fun j f x (q1:fm.fields[j]?=some f) (q2:va[j]?=some x)=>lackN_at (l:=p.fields) hnd q1 q2
 generalize lackN fm.fields va p.fields=ln at *
 generalize hN:fm.fields.length=N at *
 generalize hM:fm.pages.length=M at *
 obtain ⟨A0,c0,rfl,-,-,-⟩:=hl.form
 obtain ⟨A1,c1,rfl,-,-,-⟩:=hm.form
 rw [List.length_map] at *
 rw [List.length_map] at *
 refine x_con' Tryz.func12 (c:=Tryz.f12.body.getD .skip) (N:=84) ?_
 intro hbx hbad Q hQ a w hJ
 replace hJ:K ⟨84,h.w,h.bad,[]⟩ [(0,.slice A0 l.length c0),(1,.slice A1 m.length c1),(2,Vi i)] [] [] h a w:=hJ.tw
 refine rk' hJ false 8 [] [] (.k (.ops [0,1] 1) [.seq [1,1]] [1,2] [(15,.slice A0 l.length c0)]) ?_
 clear hJ a w; intro a w hJ
 refine x_call hJ 16 (hF _ (hl.sees hJ.j.sees) ll ol) (fun _=>by kernel_rfl) ?_; clear hJ a w; rintro _ h1 a w s2 ⟨A,c,B,d,rfl,hfm⟩ hJ
 refine rk' hJ false 5 [.own,.b 0 0] [] (.new fun b3=>.m (.code [0,1,1]) [.seq [1,1,1]] [1,2] [(7,Vp b3)] [.box b3 [.slice A N c,.slice B M d]] []) (hr:=fun b3 _=>by kernel_rfl) ?_
 clear hJ a w; intro b3 a w hJ
 let R:Reg:=⟨⟨84,h.w,h.bad,[]⟩,[(0,18,fun gh=>.agg #[.slice A N c,.slice B M d]),(1,19,fun gh=>.agg #[.slice A N c,.slice B M d]),(2,20,fun gh=>.slice A1 m.length c1),(3,21,fun gh=>.slice (sA (gh 3)) (sN (gh 3)) (sC (gh 3))),(4,22,fun gh=>.tuple #[.slice (sA (gh 4)) (sN (gh 4)) (sC (gh 4)),Vi 0]),(5,17,fun gh=>.tuple #[.slice (sA (gh 4)) (sN (gh 4)) (sC (gh 4)),Vi 0]),(6,23,fun gh=>.slice (sA (gh 4)) (sN (gh 4)) (sC (gh 4))),(7,24,fun gh=>Vi 0),(8,8,fun gh=>.slice (sA (gh 4)) (sN (gh 4)) (sC (gh 4))),(9,9,fun gh=>Vi 0)],[(1,.slice A1 m.length c1),(2,Vi i),(7,Vp b3)],[⟨some (.box b3 [.slice A N c,.slice B M d]),[]⟩],[(3,fun gh hh=>RS hh 7 (.slice (sA (gh 3)) (sN (gh 3)) (sC (gh 3))) (fcRows (inpE fm.fields m))),(4,fun gh hh=>RSn hh 3 (gh 4) N (vlRows va))],[[],[],[],[1,2],[0,1,2,3],[0,1,2,3,4],[0,1,2,3,4,5],[0,1,2,3,4,5],[0,1,2,3,4,5,6],[0,1,2,3,4,5,6,7,8]],h1⟩
 have hmono:∀ zq∈R.F,∀ zx zh zi,Sees zh zi→zq.2 zx zh→zq.2 zx zi:=mono_cons (fun _ _ _ s c=>c.sees s) (mono_cons (fun _ _ _ s c=>c.sees s) (mono_nil))
 refine x_region (by kernel_rfl) R hJ 10 [.ld 0 0,.ld 0 0,.pu,.cl,.cl,.pu,.pu,.pu,.pu,.pu] (by kernel_rfl) hmono (fun _ _ _=>by kernel_rfl) (fun hT hA=>?_) ?_
 ·clear hJ
  refine And.intro (r_call hT hA hmono ⟨fun _ _=>by kernel_rfl,fun _ _=>by kernel_rfl,fun _ _=>by kernel_rfl⟩ 21 (fun u=>.slice (sA u) (sN u) (sC u)) [1,2] 3 (by kernel_rfl) (by kernel_rfl) (fun _=>by kernel_rfl) 16 (fun gh=>#[.agg #[.slice A N c,.slice B M d],.slice A1 m.length c1]) (fun _ _=>by kernel_rfl) (fun gh H sH fH lent=>C0.facts (R:=R) (x:=gh) (i:=3) (n:=0) (F:=(fun u=>.slice (sA u) (sN u) (sC u))) (G:=fun u hh=>RS hh 7 (.slice (sA u) (sN u) (sC u)) (fcRows (inpE fm.fields m))) (f:=fun gh hh=>RS hh 7 (.slice (sA (gh 3)) (sN (gh 3)) (sC (gh 3))) (fcRows (inpE fm.fields m))) (hin _ _ _ (.slice B M d) ((hfm.sees sH)).fields rfl (hm.sees (s2.trans sH)) lm om) (by kernel_rfl) (by kernel_rfl) (fun _ _ r=>r))) ?_
  refine And.intro (r_call hT hA hmono ⟨fun _ _=>by kernel_rfl,fun _ _=>by kernel_rfl,fun _ _=>by kernel_rfl⟩ 22 (fun u=>.tuple #[.slice (sA u) (sN u) (sC u),Vi 0]) [0,3] 4 (by kernel_rfl) (by kernel_rfl) (fun _=>by kernel_rfl) 18 (fun gh=>#[.agg #[.slice A N c,.slice B M d],.slice (sA (gh 3)) (sN (gh 3)) (sC (gh 3)),Vz]) (fun _ _=>by kernel_rfl) (fun gh H sH fH lent=>C0.facts (R:=R) (x:=gh) (i:=4) (n:=1) (F:=(fun u=>.tuple #[.slice (sA u) (sN u) (sC u),Vi 0])) (G:=fun u hh=>RSn hh 3 u N (vlRows va)) (f:=fun gh hh=>RSn hh 3 (gh 4) N (vlRows va)) (hA1 _ _ _ _ _ _ (hfm.sees sH) (fH 0 _ rfl (by kernel_rfl))) (by kernel_rfl) (by kernel_rfl) (fun _ _ r=>r))) ?_
  trivial
 clear hJ a w; intro gh h4 a w sR hJ1 hF; have s5:Sees h1 h4:=sR; clear sR
 have hJ:K ⟨84,h.w,h.bad,[]⟩ [(2,Vi i),(7,Vp b3),(8,.slice (sA (gh 4)) (sN (gh 4)) (sC (gh 4))),(9,Vi 0)] [.box b3 [.slice A N c,.slice B M d]] [] h4 a w:=hJ1.tw
 have f21:RS h4 7 (.slice (sA (gh 3)) (sN (gh 3)) (sC (gh 3))) (fcRows (inpE fm.fields m)):=Reg.fact (i:=3) (f:=fun gh hh=>RS hh 7 (.slice (sA (gh 3)) (sN (gh 3)) (sC (gh 3))) (fcRows (inpE fm.fields m))) hF 0 (by kernel_rfl)
 have f22:RSn h4 3 (gh 4) N (vlRows va):=Reg.fact (i:=4) (f:=fun gh hh=>RSn hh 3 (gh 4) N (vlRows va)) hF 1 (by kernel_rfl)
 clear hJ1 hF hmono R
 generalize gh 3=u21 at *
 generalize gh 4=u22 at *
 clear gh
 refine rk' hJ false 4 [] [] (.k (.ops [0,0,1,1,1] 0) [.seq [1,0,1,1,1],.seq [1,1,1,1]] [2,7,8,9] []) ?_
 clear hJ a w; intro a w hJ
 obtain ⟨e22,g22⟩:=f22
 rw [e22] at hJ g22
 generalize sA u22=A7 at *
 generalize sC u22=c7 at *
 refine rk' hJ false 16 [.cl 19 #[] (.bool true),.b 0 0] [] (.k (.code [1,0,1,1,1]) [.seq [1,1,1,1]] [2,7,8] [(38,.bool ((N:Int) != (N:Int)))]) (ho:=And.intro (fun H sH=>known_any _) (trivial)) ?_
 clear hJ a w; intro a w hJ
 refine x_fal hJ (t:=(N:Int) != (N:Int)) ((by simp)) ?_
 refine rk' hJ false 17 [.b 0 1,.cl 24 #[Vi i,Vi (M:Int)] (Vi (k:Int)),.b 0 0] [] (.k (.ops [0,1,1,1,1,1] 3) [.seq [1,1,1,1,1,1]] [7,8] [(10,Vi (k:Int)),(45,.agg #[.slice A N c,.slice B M d]),(46,.slice A7 N c7),(47,Vi (k:Int))]) (ho:=And.intro (fun H sH=>hpk _) (trivial)) ?_
 clear hJ a w; intro a w hJ
 refine x_call hJ 48 (hL _ _ _ _ _ _ _ (hfm.sees (s5.trans hJ.j.sees)) (g22.sees hJ.j.sees)) (fun _=>by kernel_rfl) ?_; clear hJ a w; rintro _ h6 a w s7 ⟨A5,c5,rfl,hr5⟩ hJ
 refine rk' hJ false 27 [.b 0 0] [] (.k (.code [0,1,0,1,1,1,1,1,1,1]) [.block 0,.seq [1,1,1,1,1,1,1,1]] [7,8,10] [(11,.slice A5 ln.length c5),(54,.slice A N c),(55,Vi (N:Int)),(56,Vi 0)]) ?_
 clear hJ a w; intro a w hJ
 obtain ⟨vs,A3,c3,e3,-,-,hr3,hs3,hl3,hsl⟩:=fds_open hfm.fields
 simp only [Value.slice.injEq] at e3
 obtain ⟨rfl,-,rfl⟩:=e3
 rw [hN] at hr3 hl3
 obtain ⟨us,ws,B2,d2,e2,-,hpr,hps,hpa,-,-⟩:=pgs_open hfm.pages
 simp only [Value.slice.injEq] at e2
 obtain ⟨rfl,-,rfl⟩:=e2
 rw [hM] at hpr
 obtain ⟨Au,cu,Bu,mu,du,hprow,hrs,-⟩:=pg_at hps hpa hp
 refine x_loop' (fun (j:Nat) a w=>∃ (h8:Vw) ,K ⟨84,h.w,h.bad,[]⟩ [(7,Vp b3),(8,.slice A7 N c7),(10,Vi (k:Int)),(11,.slice A5 ln.length c5),(54,.slice A N c),(55,Vi (N:Int)),(56,Vi (j:Int))] [.box b3 [.slice A N c,.slice B M d]] [] h8 a w∧Sees h6 h8∧(j≤N)) (fun j=>N - j) (0) ⟨h6,hJ.tw,Sees.refl _,Nat.zero_le _⟩ ?_
 clear hJ a w; rintro j a w ⟨h8,hJ,s9,hj⟩
 refine rk' hJ false 6 [] [] (.k (.code [0,1,0,0,1,0,1,1,1,1,1,1,1]) [.seq [1,1,0,0,1,0,1,1,1,1,1,1,1]] [7,8,10,11,54,55,56] [(57,.bool (decide ((j:Int) < (N:Int))))]) ?_
 clear hJ a w; intro a w hJ
 rcases (by omega:j < N∨j=N) with hlt | hke
 ·obtain ⟨x,hx⟩:∃ x,fm.fields[j]?=some x:=⟨_,List.getElem?_eq_getElem (by omega)⟩
  obtain ⟨u,hu⟩:∃ u,vs[j]?=some u:=⟨_,List.getElem?_eq_getElem (by omega)⟩
  have hrow:=fdRows_get hx hu
  obtain ⟨Aq,nq,cq,rfl⟩:=(AllArgs.get hs3 (x:=x.src) (by rw [List.getElem?_map,hx]; rfl) hu).slice
  obtain ⟨xv,hxv⟩:∃ y,va[j]?=some y:=⟨_,List.getElem?_eq_getElem (by omega)⟩
  have hvr:=vlRows_get hxv
  have hco1:=fun H q=>contS_any ln (.slice A5 ln.length c5) x.name H q (by omega)
  have hco2:=fun H q=>contS_any p.fields (.slice Au p.fields.length cu) x.name H q (by omega)
  rw [hlk j x xv hx hxv] at hco1
  have hknx:=fun H=>hkn xv (List.mem_of_getElem? hxv) H
  generalize memS p.fields x.name=b1 at *
  generalize decide (xv.k≤3)=b2 at *
  rcases Bool.eq_false_or_eq_true b1 with hb | hb
  ·rw [hb,Bool.true_and] at hco1
   rw [hb] at hco2
   refine x_tru hJ (t:=decide ((j:Int) < (N:Int))) (decide_eq_true (by omega)) ?_
   refine rk' hJ false 7 [] [] (.k (.ops [0,0,0,1,1,0,0,1,0,1,1,1,1,1,1,1] 1) [.seq [1,0,0,1,1,0,0,1,0,1,1,1,1,1,1,1],.block 1,.seq [1,1,1,0,0,1,0,1,1,1,1,1,1,1]] [7,8,10,11,54,55,56] [(58,Vi (j:Int))]) ?_
   clear hJ a w; intro a w hJ
   obtain ⟨b10,o11,rfl,-,c12⟩:=RS.row hr3 (hrow)
   replace hJ:=hJ.fact (c12.sees (s5.trans (s7.trans s9)))
   refine rx' hJ false 8 [.ix b10 o11 N c j,.f 0 0,.own,.b 0 0] [] (.new fun b13=>.ok (.code [0,1,0,0,1,1,0,0,1,0,1,1,1,1,1,1,1]) [.seq [1,1,0,0,1,1,0,0,1,0,1,1,1,1,1,1,1],.block 1,.seq [1,1,1,0,0,1,0,1,1,1,1,1,1,1]] [(7,Vp b3),(8,.slice A7 N c7),(10,Vi (k:Int)),(11,.slice A5 ln.length c5),(54,.slice (some ⟨b10,o11,none⟩) N c),(55,Vi (N:Int)),(56,Vi (j:Int)),(14,Vp b13),(13,Vi (j:Int))] [.box b13 [.string x.name,Vi x.kind,Vi x.ty,Vi x.src.op,Vi x.src.k,Vi x.src.n,.string x.src.s,.string x.src.nm,.slice Aq nq cq],.box b3 [.slice (some ⟨b10,o11,none⟩) N c,.slice B M d]] [(b10,o11 + j * 9,[.string x.name,Vi x.kind,Vi x.ty,Vi x.src.op,Vi x.src.k,Vi x.src.n,.string x.src.s,.string x.src.nm,.slice Aq nq cq])]) (ho:=And.intro (by first | omega | (simp; omega)) (trivial)) (fun b13 _=>by kernel_rfl) ?_
   clear hJ a w; intro b13 a w hJ
   obtain ⟨b14,o15,rfl,-,c16⟩:=RS.row hpr (hprow)
   replace hJ:=hJ.fact (c16.sees (s5.trans (s7.trans s9)))
   obtain ⟨b17,o18,rfl,-,c19⟩:=RS.row g22 (hvr)
   replace hJ:=hJ.fact (c19.sees (s7.trans s9))
   let R:Reg:=⟨⟨84,h.w,h.bad,[]⟩,[(0,61,fun gh=>.slice A5 ln.length c5),(1,62,fun gh=>Vp b13),(2,63,fun gh=>.string x.name),(3,64,fun gh=>.bool (!b2)),(4,65,fun gh=>.pointer (some ⟨b3,1,none⟩)),(5,66,fun gh=>.slice (some ⟨b14,o15,none⟩) M d),(6,67,fun gh=>Vi (k:Int)),(7,68,fun gh=>.pointer (some ⟨b14,o15 + k * 8,none⟩)),(8,69,fun gh=>.pointer (some ⟨b14,o15 + k * 8 + 1,none⟩)),(9,70,fun gh=>.slice Au p.fields.length cu),(10,71,fun gh=>Vp b13),(11,72,fun gh=>.string x.name),(12,73,fun gh=>.bool true),(13,74,fun gh=>.bool true),(14,75,fun gh=>.slice (some ⟨b17,o18,none⟩) N c7),(15,76,fun gh=>Vi (j:Int)),(16,77,fun gh=>.pointer (some ⟨b17,o18 + j * 3,none⟩)),(17,78,fun gh=>.agg #[Vi xv.k,Vi xv.n,.string xv.s]),(18,79,fun gh=>.bool b2),(19,80,fun gh=>.bool (!b2)),(20,81,fun gh=>.bool (!b2)),(21,82,fun gh=>.bool false)],[(7,Vp b3),(8,.slice (some ⟨b17,o18,none⟩) N c7),(10,Vi (k:Int)),(11,.slice A5 ln.length c5),(54,.slice (some ⟨b10,o11,none⟩) N c),(55,Vi (N:Int)),(56,Vi (j:Int)),(14,Vp b13),(13,Vi (j:Int))],[⟨some (.box b13 [.string x.name,Vi x.kind,Vi x.ty,Vi x.src.op,Vi x.src.k,Vi x.src.n,.string x.src.s,.string x.src.nm,.slice Aq nq cq]),[]⟩,⟨some (.box b3 [.slice (some ⟨b10,o11,none⟩) N c,.slice (some ⟨b14,o15,none⟩) M d]),[]⟩],[],[[],[],[1],[0,1,2],[],[4],[],[4,5,6],[4,5,6,7],[4,5,6,7,8],[],[10],[0,1,2,3,4,5,6,7,8,9,10,11],[0,1,2,3,4,5,6,7,8,9,10,11,12],[0,1,2,3,4,5,6,7,8,9,10,11,12,13],[0,1,2,3,4,5,6,7,8,9,10,11,12,13],[0,1,2,3,4,5,6,7,8,9,10,11,12,13,14,15],[0,1,2,3,4,5,6,7,8,9,10,11,12,13,14,15,16],[0,1,2,3,4,5,6,7,8,9,10,11,12,13,14,15,16,17],[0,1,2,3,4,5,6,7,8,9,10,11,12,13,14,15,16,17,18],[0,1,2,3,4,5,6,7,8,9,10,11,12,13,14,15,16,17,18,19],[0,1,2,3,4,5,6,7,8,9,10,11,12,13,14,15,16,17,18,19,20]],h8⟩
   have hmono:∀ zq∈R.F,∀ zx zh zi,Sees zh zi→zq.2 zx zh→zq.2 zx zi:=mono_nil
   refine x_region (by kernel_rfl) R hJ 22 [.pu,.pu,.ld 0 0,.cl,.pu,.ld 1 1,.pu,.cl,.pu,.lf 1 1,.pu,.ld 0 0,.cl,.pu,.pu,.pu,.cl,.lf 0 0,.cl,.pu,.pu,.cl] (by kernel_rfl) hmono (fun _ _ _=>by kernel_rfl) (fun hT hA=>?_) ?_
   ·clear hJ
    refine And.intro (r_calv hT hA hmono 64 (fun gh=>.bool (!b2)) [0,2] 3 30 (fun gh=>#[.slice A5 ln.length c5,.string x.name]) (fun gh H sH fH lent=>hco1 _ (hr5.sees (s9.trans sH)))) ?_
    refine And.intro (r_pur hT hA 68 (fun gh=>.pointer (some ⟨b14,o15 + k * 8,none⟩)) [5,6] 7 (fun gh w=>run_indexAddr (t:=24) (x:=(.tmp 66)) (y:=(.tmp 67)) (b:=b14) (off:=o15) (n:=M) (cap:=d) (k:=k) (e:=79) (kk:=8) (by kernel_rfl) (by kernel_rfl) (by kernel_rfl) (by first | omega | (simp; omega)) Tryz.underlying24 (by kernel_rfl))) ?_
    refine And.intro (r_calv hT hA hmono 73 (fun gh=>.bool true) [3,9,11] 12 30 (fun gh=>#[.slice Au p.fields.length cu,.string x.name]) (fun gh H sH fH lent=>hco2 _ (hrs.sees (s5.trans (s7.trans (s9.trans sH)))))) ?_
    refine And.intro (r_pur hT hA 77 (fun gh=>.pointer (some ⟨b17,o18 + j * 3,none⟩)) [13,14,15] 16 (fun gh w=>run_indexAddr (t:=32) (x:=(.tmp 75)) (y:=(.tmp 76)) (b:=b17) (off:=o18) (n:=N) (cap:=c7) (k:=j) (e:=38) (kk:=3) (by kernel_rfl) (by kernel_rfl) (by kernel_rfl) (by first | omega | (simp; omega)) Tryz.underlying32 (by kernel_rfl))) ?_
    refine And.intro (r_calv hT hA hmono 79 (fun gh=>.bool b2) [13,17] 18 42 (fun gh=>#[.agg #[Vi xv.k,Vi xv.n,.string xv.s]]) (fun gh H sH fH lent=>hknx _)) ?_
    refine And.intro (r_pur hT hA 82 (fun gh=>.bool false) [3,20] 21 (fun gh w=>run_eq (v0:=.bool ((!b2) != (!b2))) (by kernel_rfl) (congrArg Value.bool (by cases b2 <;> rfl)))) ?_
    trivial
   clear hJ a w; intro gh h20 a w sR hJ1 hF; have s21:Sees h8 h20:=sR; clear sR
   have hJ:K ⟨84,h.w,h.bad,[]⟩ [(7,Vp b3),(8,.slice (some ⟨b17,o18,none⟩) N c7),(10,Vi (k:Int)),(11,.slice A5 ln.length c5),(54,.slice (some ⟨b10,o11,none⟩) N c),(55,Vi (N:Int)),(56,Vi (j:Int)),(82,.bool false)] [.box b13 [.string x.name,Vi x.kind,Vi x.ty,Vi x.src.op,Vi x.src.k,Vi x.src.n,.string x.src.s,.string x.src.nm,.slice Aq nq cq],.box b3 [.slice (some ⟨b10,o11,none⟩) N c,.slice (some ⟨b14,o15,none⟩) M d]] [(b17,o18 + j * 3,[Vi xv.k,Vi xv.n,.string xv.s]),(b14,o15 + k * 8,[.string p.name,.slice Au p.fields.length cu,Vi p.skip.op,Vi p.skip.k,Vi p.skip.n,.string p.skip.s,.string p.skip.nm,.slice Bu mu du]),(b10,o11 + j * 9,[.string x.name,Vi x.kind,Vi x.ty,Vi x.src.op,Vi x.src.k,Vi x.src.n,.string x.src.s,.string x.src.nm,.slice Aq nq cq])] h20 a w:=hJ1.tw
   clear hJ1 hF hmono R
   clear gh
   refine rk' hJ false 9 [] [(83,Vi (IntKind.i64.wrap ((j:Int) + 1)),Vi ((j:Int) + 1))] (.k (.out .normal) [] [7,8,10,11,54,55] [(56,Vi ((j:Int) + 1))]) (hc:=And.intro (i64_wrap (by omega) (by omega)) (trivial)) ?_
   clear hJ a w; intro a w hJ
   replace hJ:=hJ.drop 0
   exact x_round ⟨j + 1,⟨h20,(hJ.tof [] (F':=[]) (by kernel_rfl)).to (by kernel_rfl) (by kernel_rfl) rfl,(s9.trans s21),by omega⟩,by omega⟩
  ·skip
   rw [hb,Bool.false_and] at hco1
   rw [hb] at hco2
   refine x_tru hJ (t:=decide ((j:Int) < (N:Int))) (decide_eq_true (by omega)) ?_
   refine rk' hJ false 7 [] [] (.k (.ops [0,0,0,1,1,0,0,1,0,1,1,1,1,1,1,1] 1) [.seq [1,0,0,1,1,0,0,1,0,1,1,1,1,1,1,1],.block 1,.seq [1,1,1,0,0,1,0,1,1,1,1,1,1,1]] [7,8,10,11,54,55,56] [(58,Vi (j:Int))]) ?_
   clear hJ a w; intro a w hJ
   obtain ⟨b22,o23,rfl,-,c24⟩:=RS.row hr3 (hrow)
   replace hJ:=hJ.fact (c24.sees (s5.trans (s7.trans s9)))
   refine rk hJ false 8 [.ix b22 o23 N c j,.f 0 0,.own,.b 0 0] [] (.new fun b25=>.f (.code [0,1,0,0,1,1,0,0,1,0,1,1,1,1,1,1,1]) [.seq [1,1,0,0,1,1,0,0,1,0,1,1,1,1,1,1,1],.block 1,.seq [1,1,1,0,0,1,0,1,1,1,1,1,1,1]] [7,8,10,11,54,55,56] [(14,Vp b25),(13,Vi (j:Int))] [.box b25 [.string x.name,Vi x.kind,Vi x.ty,Vi x.src.op,Vi x.src.k,Vi x.src.n,.string x.src.s,.string x.src.nm,.slice Aq nq cq],.box b3 [.slice (some ⟨b22,o23,none⟩) N c,.slice B M d]] [.o 0]) (And.intro (by first | omega | (simp; omega)) (trivial)) trivial (fun b25 _=>by kernel_rfl) ?_
   clear hJ a w; intro b25 a w hJ
   obtain ⟨b26,o27,rfl,-,c28⟩:=RS.row hpr (hprow)
   replace hJ:=hJ.fact (c28.sees (s5.trans (s7.trans s9)))
   obtain ⟨b29,o30,rfl,-,c31⟩:=RS.row g22 (hvr)
   replace hJ:=hJ.fact (c31.sees (s7.trans s9))
   let R:Reg:=⟨⟨84,h.w,h.bad,[]⟩,[(0,61,fun gh=>.slice A5 ln.length c5),(1,62,fun gh=>Vp b25),(2,63,fun gh=>.string x.name),(3,64,fun gh=>.bool false),(4,65,fun gh=>.pointer (some ⟨b3,1,none⟩)),(5,66,fun gh=>.slice (some ⟨b26,o27,none⟩) M d),(6,67,fun gh=>Vi (k:Int)),(7,68,fun gh=>.pointer (some ⟨b26,o27 + k * 8,none⟩)),(8,69,fun gh=>.pointer (some ⟨b26,o27 + k * 8 + 1,none⟩)),(9,70,fun gh=>.slice Au p.fields.length cu),(10,71,fun gh=>Vp b25),(11,72,fun gh=>.string x.name),(12,73,fun gh=>.bool false),(13,74,fun gh=>.bool false),(14,75,fun gh=>undef),(15,76,fun gh=>undef),(16,77,fun gh=>undef),(17,78,fun gh=>undef),(18,79,fun gh=>undef),(19,80,fun gh=>undef),(20,81,fun gh=>.bool false),(21,82,fun gh=>.bool false)],[(7,Vp b3),(8,.slice (some ⟨b29,o30,none⟩) N c7),(10,Vi (k:Int)),(11,.slice A5 ln.length c5),(54,.slice (some ⟨b22,o23,none⟩) N c),(55,Vi (N:Int)),(56,Vi (j:Int)),(14,Vp b25),(13,Vi (j:Int))],[⟨some (.box b25 [.string x.name,Vi x.kind,Vi x.ty,Vi x.src.op,Vi x.src.k,Vi x.src.n,.string x.src.s,.string x.src.nm,.slice Aq nq cq]),[]⟩,⟨some (.box b3 [.slice (some ⟨b22,o23,none⟩) N c,.slice (some ⟨b26,o27,none⟩) M d]),[]⟩],[],[[],[],[1],[0,1,2],[],[4],[],[4,5,6],[4,5,6,7],[4,5,6,7,8],[],[10],[0,1,2,3,4,5,6,7,8,9,10,11],[0,1,2,3,4,5,6,7,8,9,10,11,12],[0,1,2,3,4,5,6,7,8,9,10,11,12,13],[0,1,2,3,4,5,6,7,8,9,10,11,12,13],[0,1,2,3,4,5,6,7,8,9,10,11,12,13,14,15],[0,1,2,3,4,5,6,7,8,9,10,11,12,13,14,15,16],[0,1,2,3,4,5,6,7,8,9,10,11,12,13,14,15,16,17],[0,1,2,3,4,5,6,7,8,9,10,11,12,13,14,15,16,17,18],[0,1,2,3,4,5,6,7,8,9,10,11,12,13,14,15,16,17,18,19],[0,1,2,3,4,5,6,7,8,9,10,11,12,13,14,15,16,17,18,19,20]],h8⟩
   have hmono:∀ zq∈R.F,∀ zx zh zi,Sees zh zi→zq.2 zx zh→zq.2 zx zi:=mono_nil
   refine x_region (by kernel_rfl) R hJ 22 [.pu,.pu,.ld 0 0,.cl,.pu,.ld 1 1,.pu,.cl,.pu,.lf 1 1,.pu,.ld 0 0,.cl,.pu,.ps,.ps,.ps,.ps,.ps,.ps,.pu,.pu] (by kernel_rfl) hmono (fun _ _ _=>by kernel_rfl) (fun hT hA=>?_) ?_
   ·clear hJ
    refine And.intro (r_calv hT hA hmono 64 (fun gh=>.bool false) [0,2] 3 30 (fun gh=>#[.slice A5 ln.length c5,.string x.name]) (fun gh H sH fH lent=>hco1 _ (hr5.sees (s9.trans sH)))) ?_
    refine And.intro (r_pur hT hA 68 (fun gh=>.pointer (some ⟨b26,o27 + k * 8,none⟩)) [5,6] 7 (fun gh w=>run_indexAddr (t:=24) (x:=(.tmp 66)) (y:=(.tmp 67)) (b:=b26) (off:=o27) (n:=M) (cap:=d) (k:=k) (e:=79) (kk:=8) (by kernel_rfl) (by kernel_rfl) (by kernel_rfl) (by first | omega | (simp; omega)) Tryz.underlying24 (by kernel_rfl))) ?_
    refine And.intro (r_calv hT hA hmono 73 (fun gh=>.bool false) [3,9,11] 12 30 (fun gh=>#[.slice Au p.fields.length cu,.string x.name]) (fun gh H sH fH lent=>hco2 _ (hrs.sees (s5.trans (s7.trans (s9.trans sH)))))) ?_
    trivial
   clear hJ a w; intro gh h32 a w sR hJ1 hF; have s33:Sees h8 h32:=sR; clear sR
   have hJ:K ⟨84,h.w,h.bad,[]⟩ [(7,Vp b3),(8,.slice (some ⟨b29,o30,none⟩) N c7),(10,Vi (k:Int)),(11,.slice A5 ln.length c5),(54,.slice (some ⟨b22,o23,none⟩) N c),(55,Vi (N:Int)),(56,Vi (j:Int)),(82,.bool false)] [.box b25 [.string x.name,Vi x.kind,Vi x.ty,Vi x.src.op,Vi x.src.k,Vi x.src.n,.string x.src.s,.string x.src.nm,.slice Aq nq cq],.box b3 [.slice (some ⟨b22,o23,none⟩) N c,.slice (some ⟨b26,o27,none⟩) M d]] [(b29,o30 + j * 3,[Vi xv.k,Vi xv.n,.string xv.s]),(b26,o27 + k * 8,[.string p.name,.slice Au p.fields.length cu,Vi p.skip.op,Vi p.skip.k,Vi p.skip.n,.string p.skip.s,.string p.skip.nm,.slice Bu mu du]),(b22,o23 + j * 9,[.string x.name,Vi x.kind,Vi x.ty,Vi x.src.op,Vi x.src.k,Vi x.src.n,.string x.src.s,.string x.src.nm,.slice Aq nq cq])] h32 a w:=hJ1.tw
   clear hJ1 hF hmono R
   clear gh
   refine rk' hJ false 9 [] [(83,Vi (IntKind.i64.wrap ((j:Int) + 1)),Vi ((j:Int) + 1))] (.k (.out .normal) [] [7,8,10,11,54,55] [(56,Vi ((j:Int) + 1))]) (hc:=And.intro (i64_wrap (by omega) (by omega)) (trivial)) ?_
   clear hJ a w; intro a w hJ
   replace hJ:=hJ.drop 0
   exact x_round ⟨j + 1,⟨h32,(hJ.tof [] (F':=[]) (by kernel_rfl)).to (by kernel_rfl) (by kernel_rfl) rfl,(s9.trans s33),by omega⟩,by omega⟩
 ·skip
  refine x_fal hJ (t:=decide ((j:Int) < (N:Int))) (decide_eq_false (by omega)) ?_
  refine rk' hJ false 2 [] [] (.k (.out (.exit 0)) [] [] []) ?_
  clear hJ a w; intro a w hJ
  refine x_leave rfl ?_
  refine rk' hJ false 8 [] [] (.k (.out .ret) [] [] [(6,.bool true)]) ?_
  clear hJ a w; intro a w hJ
  refine x_end (hQ [.bool true] _ [] hJ (.rtm hJ.j .nil) (no_own _) rfl ?_).1
  exact rfl

theorem navLacks_walk (v:Value) (l:List RawD) (v':Value) (m:List RawD) (i:Int) (w:World) (h:RawsOf w v l) (h':RawsOf w v' m) (i0 : -9223372036854775808≤i) (i1:i≤9223372036854775807) :
  Calls Tryz.prog 12 #[v,v',.int .i64 i] w fun e w'=>e=.returned (.bool true)∧Below w.heap.size w w' :=
 C0.law (navLacks_c l m v v' i ⟨w,[]⟩ h.rs h'.rs h.2.1 h'.2.1 h.2.2 h'.2.2 i0 i1)

namespace navLacksLaw
open Go.ChangeShapes Go.WideShapes Go.ChangeAt Go.RowKit
open Go.ChangeMaps (open_string shut_string)
set_option linter.unusedVariables false

set_option maxRecDepth 100000 in
theorem lifted (os:Os) (started:os.Started) (H:Type) (enc:TypeId × Value→H) :
  ReturnsInHanded {} Tryz.checked os 12 .any (Rows.navLacksSpec.pre6 enc Tryz.prog Tryz.f12 Rows.navLacksRow.domain false) (Rows.navLacksSpec.post enc Tryz.prog Tryz.f12 false true false false):=by
 refine returnsInHanded_of_change_sized (C:=Tryz.checked) ownNone started (by kernel_rfl) Tryz.func12
  (ChangeSpec.witness6 (enc:=enc) (C:=Tryz.checked) false ⟨#[],#[.slice none 0 0,.slice none 0 0,.int .i64 0],[]⟩ 8 (by kernel_rfl) (by kernel_rfl) (by kernel_rfl) (by kernel_rfl)) ?_
 intro W base args ds gs before hval0 hW hcnd hsz0 _
 have hval:∀ (j:Nat) t v,Tryz.f12.params[j]?=some t→args[j]?=some v→Value.okWide Tryz.prog W .any base t v:=hval0
 have hsz:(DataW.weightsEach Tryz.prog (Tryz.f12.params.toList++Rows.navLacksSpec.plain.varTypes Tryz.prog) (ds++gs)).all (· ≤ reachBytes)=true:=hsz0
 have hW':=hW
 obtain ⟨p,q,hA0,hV,rfl,hfz,hnd⟩:=hW
 have hA:DataW.TrodAll enc Tryz.prog W 0 (fun _=>true) true Tryz.f12.params.toList args.toList ds p:=hA0
 rw [Tryz.params12] at hA hval hsz
 obtain ⟨v0,vs0,d0,ds0,p0,q0,hargs,rfl,rfl,h0,r0⟩:=trodAll_cons hA
 obtain ⟨v1,vs1,d1,ds1,p1,q1,rfl,rfl,rfl,h1,r1⟩:=trodAll_cons r0
 obtain ⟨v2,vs2,d2,ds2,p2,q2,rfl,rfl,rfl,h2,r2⟩:=trodAll_cons r1
 obtain ⟨rfl,rfl,rfl⟩:=trodAll_nil r2
 obtain rfl:args=#[v0,v1,v2]:=by cases args; simp_all
 obtain ⟨rfl,rfl⟩:=trodVars_none hV
 have k0:=h0
 have lt0:∀ x∈p0,x.block < W.heap.size:=by obtain ⟨m,hm⟩:=k0; exact DataW.trod_lt m _ _ _ hm
 obtain ⟨a0,w0⟩:=open_rows (hval 0 22 v0 rfl rfl) h0 (fun es ss hd=>sized_slice hsz (j:=0) (t:=22) (elems:=es) (spare:=ss) rfl (by rw [hd]; rfl) Tryz.underlying22)
 have k1:=h1
 have lt1:∀ x∈p1,x.block < W.heap.size:=by obtain ⟨m,hm⟩:=k1; exact DataW.trod_lt m _ _ _ hm
 obtain ⟨a1,w1⟩:=open_rows (hval 1 22 v1 rfl rfl) h1 (fun es ss hd=>sized_slice hsz (j:=1) (t:=22) (elems:=es) (spare:=ss) rfl (by rw [hd]; rfl) Tryz.underlying22)
 have k2:=h2
 have lt2:∀ x∈p2,x.block < W.heap.size:=by obtain ⟨m,hm⟩:=k2; exact DataW.trod_lt m _ _ _ hm
 obtain ⟨a2,rfl,-,-,w2⟩:=open_int Tryz.underlying3 (hval 2 3 v2 rfl rfl) h2
 clear hA0 hval0 hsz0
 refine (navLacks_walk v0 a0 v1 a1 a2 W w0 w1 (int_lo w2) (int_hi w2)).mono fun e W' ⟨he,bel⟩=>?_
 subst he
 exact ⟨_,rfl,_,_,_,[],_,[],hW',trodAll_mk1 (shut_bool Tryz.underlying4 _),(trodAll_cons_mk (Below.trod laidOutTrue (by kernel_rfl) (of_decide_eq_true (by kernel_rfl)) k0 bel lt0) (trodAll_cons_mk (Below.trod laidOutTrue (by kernel_rfl) (of_decide_eq_true (by kernel_rfl)) k1 bel lt1) (trodAll_cons_mk (Below.trod laidOutTrue (by kernel_rfl) (of_decide_eq_true (by kernel_rfl)) k2 bel lt2) trodAll_mk0))),rfl,bel.frame _,fun h=>by cases h⟩

theorem over:Rows.navLacksRow.holds Tryz.pinned (OpenSpec.ofChange Rows.navLacksSpec) :=
 OpenClaim.holds_of_wide 12 Tryz.f12 rfl rfl rfl rfl rfl rfl rfl ⟨rfl,rfl,rfl,rfl,rfl⟩ rfl rfl rfl rfl rfl (by kernel_rfl) Tryz.func12 (by kernel_rfl)
  (of_decide_eq_true (by kernel_rfl)) (by unfold Func.isWrapper; first | (rw [if_pos (by decide +kernel)]; kernel_rfl) | (rw [if_neg (by decide +kernel)]; exact ⟨rfl,rfl⟩))
  (fun os started H enc _=>lifted os started H enc)

end navLacksLaw
theorem navLacks_holds:Rows.NavLacksSaid:=navLacksLaw.over
#print axioms navLacks_holds
end Go.Proofs.YthckljafinhepaaGreat
