/-
  For all raw things WholeTold returns true: an input has the value that it was set to, or the default value. No condition.
-/
import Derived.Test.YthckljafinhepaaGreatZA43
import Derived.Test.YthckljafinhepaaGreatZA45
namespace Go.Proofs.YthckljafinhepaaGreat
open Go.RowKit
set_option linter.unusedVariables false

set_option maxHeartbeats 4000000 in
set_option maxRecDepth 100000 in
theorem wholeTold_c (l m:List RawD) (sl sm:Value) (h:Vw) (hl:RS h 4 sl (l.map RawD.cs)) (hm:RS h 4 sm (m.map RawD.cs)) (ll:l.length * 40≤reachBytes) (lm:m.length * 40≤reachBytes) (ol:∀ r∈l,r.ok) (om:∀ r∈m,r.ok) :
  C0 Tryz.prog 6 #[sl,sm] h (fun v _=>v=.bool true):=by
 have hF:=form_c l sl
 have hlen:=form_len l
 have hnl:=nFields_le l
 have hty:=form_ty l
 have hA:=fun A c B d si H q1 q2=>all_form l m [] A c B d si (.slice none 0 0) H q1 q2 (RS.nil H 7) (Nat.zero_le _) (fun p hp=>by cases hp) (fun H' _ q=>oracle_nil _ _ _ _ _ _ _ H' q)
 have hS:=(allF_sol l m (orc:=[]) (fun p hp=>by cases hp)).1
 have hI:=inp_ok l m
 generalize allF l m []=va at *
 generalize formE l=fm at *
 have hin:=fun H fv pv q1 q2 q3=>inputs_any fm.fields pv fv m sm H q1 q2 (by omega) hty q3 lm om
 generalize inpE fm.fields m=env at *
 have hlt:=fun (x:Fd) k=>lastV_snoc x.name ⟨x.ty,0,⟨#[]⟩⟩ (env.take k)
 have erl:(fcRows env).length=env.length:=List.length_map _
 have hfew:=hI.few
 have hva:=hS.len
 obtain ⟨A0,c0,rfl,-,-,-⟩:=hl.form
 obtain ⟨A1,c1,rfl,-,-,-⟩:=hm.form
 rw [List.length_map] at *
 rw [List.length_map] at *
 generalize hN:fm.fields.length=N at *
 refine x_con Tryz.func6 (c:=Tryz.f6.body.getD .skip) (by kernel_rfl) (N:=82) rfl (by kernel_rfl) ?_
 intro hbx hbad Q hQ a w hJ
 replace hJ:K ⟨82,h.w,h.bad,[]⟩ [(0,.slice A0 l.length c0),(1,.slice A1 m.length c1)] [] [] h a w:=hJ.to (by kernel_rfl) (by kernel_rfl) rfl
 refine rk hJ false 8 [] [] (.k (.ops [0,1] 1) [.seq [1,1]] [1] [(15,.slice A0 l.length c0)]) trivial trivial (fun _=>by kernel_rfl) ?_
 clear hJ a w; intro a w hJ
 refine x_call hJ 16 (hF _ (hl.sees hJ.j.sees) ll ol) (fun _=>by kernel_rfl) ?_; clear hJ a w; rintro _ h1 a w s2 ⟨A,c,B,d,rfl,hfm⟩ hJ
 refine rx hJ false 8 [.own,.b 0 0,.b 0 0] [] (.new fun b3=>.ok (.ops [0,1,1] 2) [.seq [1,1,1]] [(5,Vp b3),(17,.agg #[.slice A N c,.slice B fm.pages.length d]),(18,.slice A1 m.length c1)] [.box b3 [.slice A N c,.slice B fm.pages.length d]] []) trivial trivial (fun b3 _=>by kernel_rfl) ?_
 clear hJ a w; intro b3 a w hJ
 refine x_callrow hJ 19 (hin _ _ (.slice B fm.pages.length d) ((hfm.sees hJ.j.sees)).fields rfl (hm.sees (s2.trans hJ.j.sees))) (fun _=>by kernel_rfl) ?_; clear hJ a w; rintro v _ a w rfl hJ
 refine rk hJ false 7 [.b 1 0] [] (.k (.ops [0,1,1,1] 2) [.seq [1,1,1,1]] [5] [(6,v),(21,.agg #[.slice A N c,.slice B fm.pages.length d]),(22,v)]) trivial trivial (fun _=>by kernel_rfl) ?_
 clear hJ a w; intro a w hJ
 obtain ⟨Av,cv,hE_v,hc_v,hm_v⟩:=hJ.form (v:=v) (e:=54) (k:=7) (l:=fcRows env) 0 (by kernel_rfl)
 rw [show (fcRows env).length=env.length from by first | omega | (simp; done) | (simp; omega)] at hE_v hc_v
 rw [hE_v] at hJ
 obtain ⟨h4,s5,fin,hJn⟩:=hJ.frozen (v:=.slice Av env.length cv) (e:=54) (k:=7) (l:=fcRows env) 0 (by kernel_rfl) (hJ.j.rowOut0 (v:=.slice Av env.length cv) (e:=54) (k:=7) (l:=fcRows env) 0 (by kernel_rfl) rfl); clear hJ; have hJ:=hJn; clear hJn
 refine x_call hJ 23 (hA _ _ _ _ _ _ (hfm.sees (s5.trans hJ.j.sees)) (fin.sees hJ.j.sees)) (fun _=>by kernel_rfl) ?_; clear hJ a w; rintro _ h6 a w s7 ⟨A2,c2,rfl,hva2⟩ hJ
 refine rk hJ false 10 [] [] (.k (.ops [0,0,1,1,1,1] 0) [.seq [1,0,1,1,1,1],.seq [1,1,1,1,1]] [5,6] [(7,.slice A2 N c2),(8,Vi 0)]) trivial trivial (fun _=>by kernel_rfl) ?_
 clear hJ a w; intro a w hJ
 refine rk hJ false 16 [.cl 19 #[] (.bool true),.b 0 0] [] (.k (.code [1,0,1,1,1,1]) [.seq [1,1,1,1,1]] [5,6,7] [(39,.bool ((N:Int) != (N:Int)))]) (And.intro (fun H sH=>known_any _) (trivial)) trivial (fun _=>by kernel_rfl) ?_
 clear hJ a w; intro a w hJ
 obtain ⟨vs,A3,c3,e3,-,-,hr3,hs3,hl3,hsl⟩:=fds_open hfm.fields
 simp only [Value.slice.injEq] at e3
 obtain ⟨rfl,-,rfl⟩:=e3
 rw [hN] at hr3 hl3
 refine x_false hJ (t:=(N:Int) != (N:Int)) (by kernel_rfl) ((by simp)) ?_
 refine rk hJ false 12 [.b 0 0] [] (.k (.code [0,1,0,1,1,1,1,1]) [.block 0,.seq [1,1,1,1,1,1]] [6,7] [(41,.slice A N c),(42,Vi (N:Int)),(43,Vi 0)]) trivial trivial (fun _=>by kernel_rfl) ?_
 clear hJ a w; intro a w hJ
 refine x_loop (fun (i:Nat) a w=>∃ (h8:Vw) ,K ⟨82,h.w,h.bad,[]⟩ [(6,.slice Av env.length cv),(7,.slice A2 N c2),(41,.slice A N c),(42,Vi (N:Int)),(43,Vi (i:Int))] [.box b3 [.slice A N c,.slice B fm.pages.length d]] [] h8 a w∧Sees h6 h8∧(i≤N)) (fun i=>N - i) (0) (by kernel_rfl) ⟨h6,hJ.to (by kernel_rfl) (by kernel_rfl) rfl,Sees.refl _,Nat.zero_le _⟩ ?_
 clear hJ a w; rintro i a w ⟨h8,hJ,s9,hi⟩
 refine rk hJ false 6 [] [] (.k (.code [0,1,0,0,1,0,1,1,1,1,1]) [.seq [1,1,0,0,1,0,1,1,1,1,1]] [6,7,41,42,43] [(44,.bool (decide ((i:Int) < (N:Int))))]) trivial trivial (fun _=>by kernel_rfl) ?_
 clear hJ a w; intro a w hJ
 rcases (by omega:i < N∨i=N) with hilt | hke
 ·obtain ⟨x,hx⟩:∃ x,fm.fields[i]?=some x:=⟨_,List.getElem?_eq_getElem (by omega)⟩
  obtain ⟨u,hu⟩:∃ u,vs[i]?=some u:=⟨_,List.getElem?_eq_getElem (by omega)⟩
  have hrow:=fdRows_get hx hu
  obtain ⟨Au,nu,cu,rfl⟩:=(AllArgs.get hs3 (x:=x.src) (by rw [List.getElem?_map,hx]; rfl) hu).slice
  obtain ⟨xv,hxv⟩:∃ xv,va[i]?=some xv:=⟨_,List.getElem?_eq_getElem (by omega)⟩
  have hvr:=vlRows_get hxv
  have hone:=hS.at_ i x xv hx hxv
  have hlx:=hlt x
  obtain ⟨ht1,ht3⟩:=hty x (List.mem_of_getElem? hx)
  refine x_true hJ (t:=decide ((i:Int) < (N:Int))) (by kernel_rfl) (decide_eq_true (by omega)) ?_
  refine rk hJ false 7 [] [] (.k (.ops [0,0,0,1,1,0,0,1,0,1,1,1,1,1] 1) [.seq [1,0,0,1,1,0,0,1,0,1,1,1,1,1],.block 1,.seq [1,1,1,0,0,1,0,1,1,1,1,1]] [6,7,41,42,43] [(45,Vi (i:Int))]) trivial trivial (fun _=>by kernel_rfl) ?_
  clear hJ a w; intro a w hJ
  obtain ⟨b10,o11,rfl,-,c12⟩:=RS.row hr3 (hrow)
  replace hJ:=hJ.fact (c12.sees (s5.trans (s7.trans s9)))
  refine rk hJ false 15 [.ix b10 o11 N c i,.f 0 0,.own,.b 0 0,.b 0 1] [] (.new fun b13=>.f (.code [1,0,1,0,0,1,1,0,0,1,0,1,1,1,1,1]) [.seq [1,1,0,0,1,1,0,0,1,0,1,1,1,1,1],.block 1,.seq [1,1,1,0,0,1,0,1,1,1,1,1]] [6,7,41,42,43] [(10,Vp b13),(9,Vi (i:Int)),(50,.bool (x.kind != 1))] [.box b13 [.string x.name,Vi x.kind,Vi x.ty,Vi x.src.op,Vi x.src.k,Vi x.src.n,.string x.src.s,.string x.src.nm,.slice Au nu cu],.box b3 [.slice (some ⟨b10,o11,none⟩) N c,.slice B fm.pages.length d]] [.o 0]) (And.intro (by first | omega | (simp; omega)) (trivial)) trivial (fun b13 _=>by kernel_rfl) ?_
  clear hJ a w; intro b13 a w hJ
  by_cases g:x.kind=1
  ·have hone:xv=tellV x.name x.ty env:=hone.trans (by unfold oneV; rw [if_pos g])
   rw [← lastV_tell hI.once] at hone
   refine x_false hJ (t:=x.kind != 1) (by kernel_rfl) ((by rw [bne_eq_false_iff_eq]; exact g)) ?_
   refine rk hJ false 24 [.b 0 2,.cl 25 #[Vi x.ty] (.tuple #[.agg #[Vi x.ty,Vi 0,Ve],Vi 0]),.own,.b 0 0] [] (.new fun bw=>.f (.code [0,1,0,1,1,1,0,0,1,1,0,0,1,0,1,1,1,1,1]) [.block 2,.seq [1,1,1,1,0,0,1,1,0,0,1,0,1,1,1,1,1],.block 1,.seq [1,1,1,0,0,1,0,1,1,1,1,1]] [6,7,41,42,43,10,9] [(11,Vp bw),(12,Vi 0),(57,.slice Av env.length cv),(58,Vi (env.length:Int)),(59,Vi 0)] [.box bw [Vi x.ty,Vi 0,Ve],.box b13 [.string x.name,Vi x.kind,Vi x.ty,Vi x.src.op,Vi x.src.k,Vi x.src.n,.string x.src.s,.string x.src.nm,.slice Au nu cu],.box b3 [.slice (some ⟨b10,o11,none⟩) N c,.slice B fm.pages.length d]] [.o 0]) (And.intro (fun H sH=>zero_any _ _ ht1 ht3) (trivial)) trivial (fun bw _=>by kernel_rfl) ?_
   clear hJ a w; intro bw a w hJ
   refine x_loop (fun (j:Nat) a w=>∃ (h14:Vw) (wl:Vl),K ⟨82,h.w,h.bad,[]⟩ [(6,.slice Av env.length cv),(7,.slice A2 N c2),(41,.slice (some ⟨b10,o11,none⟩) N c),(42,Vi (N:Int)),(43,Vi (i:Int)),(10,Vp b13),(9,Vi (i:Int)),(11,Vp bw),(12,Vi 0),(57,.slice Av env.length cv),(58,Vi (env.length:Int)),(59,Vi (j:Int))] [.box bw [Vi wl.k,Vi wl.n,.string wl.s],.box b13 [.string x.name,Vi x.kind,Vi x.ty,Vi x.src.op,Vi x.src.k,Vi x.src.n,.string x.src.s,.string x.src.nm,.slice Au nu cu],.box b3 [.slice (some ⟨b10,o11,none⟩) N c,.slice B fm.pages.length d]] [(b10,o11 + i * 9,[.string x.name,Vi x.kind,Vi x.ty,Vi x.src.op,Vi x.src.k,Vi x.src.n,.string x.src.s,.string x.src.nm,.slice Au nu cu])] h14 a w∧Sees h8 h14∧(j≤env.length)∧(lastV x.name ⟨x.ty,0,⟨#[]⟩⟩ (env.take j)=wl)) (fun j=>env.length - j) (0) (by kernel_rfl) ⟨h8,⟨x.ty,0,⟨#[]⟩⟩,hJ.to (by kernel_rfl) (by kernel_rfl) rfl,Sees.refl _,Nat.zero_le _,rfl⟩ ?_
   clear hJ a w; rintro j a w ⟨h14,wl,hJ,s15,hj,hw⟩
   refine rx hJ false 6 [] [] (.ok (.code [0,1,0,0,1,0,1,1,1,0,0,1,1,0,0,1,0,1,1,1,1,1]) [.seq [1,1,0,0,1,0,1,1,1,0,0,1,1,0,0,1,0,1,1,1,1,1]] [(6,.slice Av env.length cv),(7,.slice A2 N c2),(41,.slice (some ⟨b10,o11,none⟩) N c),(42,Vi (N:Int)),(43,Vi (i:Int)),(10,Vp b13),(9,Vi (i:Int)),(11,Vp bw),(12,Vi 0),(57,.slice Av env.length cv),(58,Vi (env.length:Int)),(59,Vi (j:Int)),(60,.bool (decide ((j:Int) < (env.length:Int))))] [.box bw [Vi wl.k,Vi wl.n,.string wl.s],.box b13 [.string x.name,Vi x.kind,Vi x.ty,Vi x.src.op,Vi x.src.k,Vi x.src.n,.string x.src.s,.string x.src.nm,.slice Au nu cu],.box b3 [.slice (some ⟨b10,o11,none⟩) N c,.slice B fm.pages.length d]] [(b10,o11 + i * 9,[.string x.name,Vi x.kind,Vi x.ty,Vi x.src.op,Vi x.src.k,Vi x.src.n,.string x.src.s,.string x.src.nm,.slice Au nu cu])]) trivial trivial (fun _=>by kernel_rfl) ?_
   clear hJ a w; intro a w hJ
   rcases (by omega:j < env.length∨j=env.length) with hjl | hje
   ·obtain ⟨p,hp⟩:∃ p,env[j]?=some p:=⟨_,List.getElem?_eq_getElem hjl⟩
    have hprow:(fcRows env)[j]?=some (fcRow p):=by rw [List.getElem?_map,hp]; rfl
    have hl1:=hlx j p
    rw [hw,← take_snoc' _ j p hp] at hl1
    refine x_true hJ (t:=decide ((j:Int) < (env.length:Int))) (by kernel_rfl) (decide_eq_true (by omega)) ?_
    refine rk hJ false 6 [] [] (.k (.ops [0,0,0,1,1,0,0,1,0,1,1,1,0,0,1,1,0,0,1,0,1,1,1,1,1] 0) [.seq [1,0,0,1,1,0,0,1,0,1,1,1,0,0,1,1,0,0,1,0,1,1,1,1,1],.block 3,.seq [1,1,1,0,0,1,0,1,1,1,0,0,1,1,0,0,1,0,1,1,1,1,1]] [6,7,41,42,43,10,9,11,12,57,58,59] []) trivial trivial (fun _=>by kernel_rfl) ?_
    clear hJ a w; intro a w hJ
    obtain ⟨b16,o17,rfl,-,c18⟩:=RS.row fin (hprow)
    replace hJ:=hJ.fact (c18.sees (s7.trans (s9.trans s15)))
    refine rk hJ false 15 [.ix b16 o17 env.length cv j,.f 0 0,.own,.b 0 0,.b 0 0,.b 2 0] [] (.new fun b19=>.f (.code [1,1,0,0,1,1,0,0,1,0,1,1,1,0,0,1,1,0,0,1,0,1,1,1,1,1]) [.block 3,.seq [1,1,1,0,0,1,0,1,1,1,0,0,1,1,0,0,1,0,1,1,1,1,1]] [6,7,41,42,43,10,9,11,12,57,58,59] [(14,Vp b19),(67,.bool (p.1.toList == x.name.toList))] [.box b19 [.string p.1,Vi 0,Vi 0,Ve,Vi p.2.k,Vi p.2.n,.string p.2.s],.box bw [Vi wl.k,Vi wl.n,.string wl.s],.box b13 [.string x.name,Vi x.kind,Vi x.ty,Vi x.src.op,Vi x.src.k,Vi x.src.n,.string x.src.s,.string x.src.nm,.slice Au nu cu],.box b3 [.slice (some ⟨b10,o11,none⟩) N c,.slice B fm.pages.length d]] [.o 0,.o 1]) (And.intro (by first | omega | (simp; omega)) (trivial)) trivial (fun b19 _=>by kernel_rfl) ?_
    clear hJ a w; intro b19 a w hJ
    by_cases q:(p.1.toList == x.name.toList)=true
    ·rw [if_pos q] at hl1
     refine x_true hJ (t:=p.1.toList == x.name.toList) (by kernel_rfl) (q) ?_
     refine rk hJ false 11 [.b 0 4,.b 1 0] [(70,Vi (IntKind.i64.wrap ((j:Int) + 1)),Vi ((j:Int) + 1))] (.f (.out .normal) [] [6,7,41,42,43,10,9,11,12,57,58] [(59,Vi ((j:Int) + 1))] [.box b19 [.string p.1,Vi 0,Vi 0,Ve,Vi p.2.k,Vi p.2.n,.string p.2.s],.box bw [Vi p.2.k,Vi p.2.n,.string p.2.s],.box b13 [.string x.name,Vi x.kind,Vi x.ty,Vi x.src.op,Vi x.src.k,Vi x.src.n,.string x.src.s,.string x.src.nm,.slice Au nu cu],.box b3 [.slice (some ⟨b10,o11,none⟩) N c,.slice B fm.pages.length d]] [.o 0,.o 1]) trivial (And.intro (i64_wrap (by omega) (by omega)) (trivial)) (fun _=>by kernel_rfl) ?_
     clear hJ a w; intro a w hJ
     replace hJ:=hJ.drop 0
     exact x_round ⟨j + 1,⟨h14,p.2,(hJ.tof [1] (F':=[(b10,o11 + i * 9,[.string x.name,Vi x.kind,Vi x.ty,Vi x.src.op,Vi x.src.k,Vi x.src.n,.string x.src.s,.string x.src.nm,.slice Au nu cu])]) (by kernel_rfl)).to (by kernel_rfl) (by kernel_rfl) rfl,s15,by omega,hl1⟩,by omega⟩
    ·skip
     rw [if_neg q] at hl1
     refine x_false hJ (t:=p.1.toList == x.name.toList) (by kernel_rfl) (Bool.eq_false_iff.2 q) ?_
     refine rk hJ false 7 [] [(70,Vi (IntKind.i64.wrap ((j:Int) + 1)),Vi ((j:Int) + 1))] (.k (.out .normal) [] [6,7,41,42,43,10,9,11,12,57,58] [(59,Vi ((j:Int) + 1))]) trivial (And.intro (i64_wrap (by omega) (by omega)) (trivial)) (fun _=>by kernel_rfl) ?_
     clear hJ a w; intro a w hJ
     replace hJ:=hJ.drop 0
     exact x_round ⟨j + 1,⟨h14,wl,(hJ.tof [1] (F':=[(b10,o11 + i * 9,[.string x.name,Vi x.kind,Vi x.ty,Vi x.src.op,Vi x.src.k,Vi x.src.n,.string x.src.s,.string x.src.nm,.slice Au nu cu])]) (by kernel_rfl)).to (by kernel_rfl) (by kernel_rfl) rfl,s15,by omega,hl1⟩,by omega⟩
   ·skip
    have hta:env.take j=env:=by rw [hje,List.take_length]
    rw [hta] at hw
    have he:eqB xv wl=true:=eqB_iff.2 (hone.trans hw)
    refine x_false hJ (t:=decide ((j:Int) < (env.length:Int))) (by kernel_rfl) (decide_eq_false (by omega)) ?_
    refine rk hJ false 2 [] [] (.k (.out (.exit 2)) [] [6,7,41,42,43,9,11,12] []) trivial trivial (fun _=>by kernel_rfl) ?_
    clear hJ a w; intro a w hJ
    refine x_leave rfl ?_
    refine rk hJ false 3 [] [] (.k (.code [0,1,1,1,1,0,0,1,1,0,0,1,0,1,1,1,1,1]) [.seq [1,1,1,1,1,0,0,1,1,0,0,1,0,1,1,1,1,1],.block 1,.seq [1,1,1,0,0,1,0,1,1,1,1,1]] [6,7,41,42,43,9,11,12] []) trivial trivial (fun _=>by kernel_rfl) ?_
    clear hJ a w; intro a w hJ
    obtain ⟨b20,o21,rfl,-,c22⟩:=RS.row hva2 (hvr)
    replace hJ:=hJ.fact (c22.sees (s9.trans s15))
    let R:Reg:=⟨⟨82,h.w,h.bad,[]⟩,[(0,71,fun gh=>Vi 0),(1,72,fun gh=>.bool false),(2,73,fun gh=>.bool false),(3,74,fun gh=>.slice (some ⟨b20,o21,none⟩) N c2),(4,75,fun gh=>Vi (i:Int)),(5,76,fun gh=>.pointer (some ⟨b20,o21 + i * 3,none⟩)),(6,77,fun gh=>.agg #[Vi xv.k,Vi xv.n,.string xv.s]),(7,78,fun gh=>.agg #[Vi wl.k,Vi wl.n,.string wl.s]),(8,79,fun gh=>.bool false),(9,80,fun gh=>.bool false)],[(6,.slice Av env.length cv),(7,.slice (some ⟨b20,o21,none⟩) N c2),(41,.slice (some ⟨b10,o11,none⟩) N c),(42,Vi (N:Int)),(43,Vi (i:Int)),(9,Vi (i:Int)),(11,Vp bw),(12,Vi 0)],[⟨some (.box bw [Vi wl.k,Vi wl.n,.string wl.s]),[]⟩,⟨some (.box b13 [.string x.name,Vi x.kind,Vi x.ty,Vi x.src.op,Vi x.src.k,Vi x.src.n,.string x.src.s,.string x.src.nm,.slice Au nu cu]),[]⟩,⟨some (.box b3 [.slice (some ⟨b10,o11,none⟩) N c,.slice B fm.pages.length d]),[]⟩],[],[[],[0],[0,1],[0,1,2],[0,1,2],[0,1,2,3,4],[0,1,2,3,4,5],[0,1,2],[0,1,2,3,4,5,6,7],[0,1,2,3,4,5,6,7,8]],h14⟩
    have hmono:∀ zq∈R.F,∀ zx zh zi,Sees zh zi→zq.2 zx zh→zq.2 zx zi:=mono_nil
    refine x_region (by kernel_rfl) R hJ 10 [.pu,.pu,.pu,.pu,.pu,.cl,.lf 0 0,.ld 0 0,.cl,.pu] (by kernel_rfl) hmono (fun _ _ _=>by kernel_rfl) (fun hT hA=>?_) ?_
    ·clear hJ
     refine And.intro (r_pure hT hA 76 (fun gh=>.pointer (some ⟨b20,o21 + i * 3,none⟩)) [2,3,4] 5 (by kernel_rfl) (by kernel_rfl) (by kernel_rfl) (fun _=>by kernel_rfl) (fun gh w=>run_indexAddr (t:=32) (x:=(.tmp 74)) (y:=(.tmp 75)) (b:=b20) (off:=o21) (n:=N) (cap:=c2) (k:=i) (e:=38) (kk:=3) (by kernel_rfl) (by kernel_rfl) (by kernel_rfl) (by first | omega | (simp; omega)) Tryz.underlying32 (by kernel_rfl))) ?_
     refine And.intro (r_pure hT hA 79 (fun gh=>.bool false) [2,6,7] 8 (by kernel_rfl) (by kernel_rfl) (by kernel_rfl) (fun _=>by kernel_rfl) (fun gh w=>run_neqop (x:=(.tmp 77)) (y:=(.tmp 78)) (v:=xv) (w:=wl) (by kernel_rfl) (by kernel_rfl) (by kernel_rfl) (he))) ?_
     trivial
    clear hJ a w; intro gh h23 a w sR hJ1 hF; have s24:Sees h14 h23:=sR; clear sR
    have hJ:K ⟨82,h.w,h.bad,[]⟩ [(6,.slice Av env.length cv),(7,.slice (some ⟨b20,o21,none⟩) N c2),(41,.slice (some ⟨b10,o11,none⟩) N c),(42,Vi (N:Int)),(43,Vi (i:Int)),(80,.bool false)] [.box bw [Vi wl.k,Vi wl.n,.string wl.s],.box b13 [.string x.name,Vi x.kind,Vi x.ty,Vi x.src.op,Vi x.src.k,Vi x.src.n,.string x.src.s,.string x.src.nm,.slice Au nu cu],.box b3 [.slice (some ⟨b10,o11,none⟩) N c,.slice B fm.pages.length d]] [(b20,o21 + i * 3,[Vi xv.k,Vi xv.n,.string xv.s]),(b10,o11 + i * 9,[.string x.name,Vi x.kind,Vi x.ty,Vi x.src.op,Vi x.src.k,Vi x.src.n,.string x.src.s,.string x.src.nm,.slice Au nu cu])] h23 a w:=hJ1.to (by kernel_rfl) (by kernel_rfl) rfl
    clear hJ1 hF hmono R
    clear gh
    refine rk hJ false 9 [] [(81,Vi (IntKind.i64.wrap ((i:Int) + 1)),Vi ((i:Int) + 1))] (.k (.out .normal) [] [6,7,41,42] [(43,Vi ((i:Int) + 1))]) trivial (And.intro (i64_wrap (by omega) (by omega)) (trivial)) (fun _=>by kernel_rfl) ?_
    clear hJ a w; intro a w hJ
    replace hJ:=hJ.drop 1
    replace hJ:=hJ.drop 0
    exact x_round ⟨i + 1,⟨h23,(hJ.tof [] (F':=[]) (by kernel_rfl)).to (by kernel_rfl) (by kernel_rfl) rfl,(s9.trans (s15.trans s24)),by omega⟩,by omega⟩
  ·skip
   refine x_true hJ (t:=x.kind != 1) (by kernel_rfl) (bne_iff_ne.2 g) ?_
   refine rk hJ false 8 [] [(81,Vi (IntKind.i64.wrap ((i:Int) + 1)),Vi ((i:Int) + 1))] (.k (.out .normal) [] [6,7,41,42] [(43,Vi ((i:Int) + 1))]) trivial (And.intro (i64_wrap (by omega) (by omega)) (trivial)) (fun _=>by kernel_rfl) ?_
   clear hJ a w; intro a w hJ
   replace hJ:=hJ.drop 0
   exact x_round ⟨i + 1,⟨h8,(hJ.tof [] (F':=[]) (by kernel_rfl)).to (by kernel_rfl) (by kernel_rfl) rfl,s9,by omega⟩,by omega⟩
 ·skip
  refine x_false hJ (t:=decide ((i:Int) < (N:Int))) (by kernel_rfl) (decide_eq_false (by omega)) ?_
  refine rx hJ false 2 [] [] (.ok (.out (.exit 0)) [] [] [.box b3 [.slice A N c,.slice B fm.pages.length d]] []) trivial trivial (fun _=>by kernel_rfl) ?_
  clear hJ a w; intro a w hJ
  refine x_leave rfl ?_
  refine rk hJ false 8 [] [] (.k (.out .ret) [] [] [(4,.bool true)]) trivial trivial (fun _=>by kernel_rfl) ?_
  clear hJ a w; intro a w hJ
  refine x_end (hQ [.bool true] _ [] hJ (.rtmp hJ.j (by kernel_rfl) .nil) (no_own _) rfl ?_).1
  exact rfl

theorem wholeTold_walk (v:Value) (l:List RawD) (v':Value) (m:List RawD) (w:World) (h:RawsOf w v l) (h':RawsOf w v' m) :
  Calls Tryz.prog 6 #[v,v'] w fun e w'=>e=.returned (.bool true)∧Below w.heap.size w w' :=
 C0.law (wholeTold_c l m v v' ⟨w,[]⟩ h.rs h'.rs h.2.1 h'.2.1 h.2.2 h'.2.2)

namespace wholeToldLaw
open Go.ChangeShapes Go.WideShapes Go.ChangeAt Go.RowKit
open Go.ChangeMaps (open_string shut_string)
set_option linter.unusedVariables false

set_option maxRecDepth 100000 in
theorem lifted (os:Os) (started:os.Started) (H:Type) (enc:TypeId × Value→H) :
  ReturnsInHanded {} Tryz.checked os 6 .any (Rows.wholeToldSpec.pre6 enc Tryz.prog Tryz.f6 Rows.wholeToldRow.domain false) (Rows.wholeToldSpec.post enc Tryz.prog Tryz.f6 false true false false):=by
 refine returnsInHanded_of_change_sized (C:=Tryz.checked) ownNone started (by kernel_rfl) Tryz.func6
  (ChangeSpec.witness6 (enc:=enc) (C:=Tryz.checked) false ⟨#[],#[.slice none 0 0,.slice none 0 0],[]⟩ 8 (by kernel_rfl) (by kernel_rfl) (by kernel_rfl) (by kernel_rfl)) ?_
 intro W base args ds gs before hval0 hW hcnd hsz0 _
 have hval:∀ (j:Nat) t v,Tryz.f6.params[j]?=some t→args[j]?=some v→Value.okWide Tryz.prog W .any base t v:=hval0
 have hsz:(DataW.weightsEach Tryz.prog (Tryz.f6.params.toList++Rows.wholeToldSpec.plain.varTypes Tryz.prog) (ds++gs)).all (· ≤ reachBytes)=true:=hsz0
 have hW':=hW
 obtain ⟨p,q,hA0,hV,rfl,hfz,hnd⟩:=hW
 have hA:DataW.TrodAll enc Tryz.prog W 0 (fun _=>true) true Tryz.f6.params.toList args.toList ds p:=hA0
 rw [Tryz.params6] at hA hval hsz
 obtain ⟨v0,vs0,d0,ds0,p0,q0,hargs,rfl,rfl,h0,r0⟩:=trodAll_cons hA
 obtain ⟨v1,vs1,d1,ds1,p1,q1,rfl,rfl,rfl,h1,r1⟩:=trodAll_cons r0
 obtain ⟨rfl,rfl,rfl⟩:=trodAll_nil r1
 obtain rfl:args=#[v0,v1]:=by cases args; simp_all
 obtain ⟨rfl,rfl⟩:=trodVars_none hV
 have k0:=h0
 have lt0:∀ x∈p0,x.block < W.heap.size:=by obtain ⟨m,hm⟩:=k0; exact DataW.trod_lt m _ _ _ hm
 obtain ⟨a0,w0⟩:=open_rows (hval 0 22 v0 rfl rfl) h0 (fun es ss hd=>sized_slice hsz (j:=0) (t:=22) (elems:=es) (spare:=ss) rfl (by rw [hd]; rfl) Tryz.underlying22)
 have k1:=h1
 have lt1:∀ x∈p1,x.block < W.heap.size:=by obtain ⟨m,hm⟩:=k1; exact DataW.trod_lt m _ _ _ hm
 obtain ⟨a1,w1⟩:=open_rows (hval 1 22 v1 rfl rfl) h1 (fun es ss hd=>sized_slice hsz (j:=1) (t:=22) (elems:=es) (spare:=ss) rfl (by rw [hd]; rfl) Tryz.underlying22)
 clear hA0 hval0 hsz0
 refine (wholeTold_walk v0 a0 v1 a1 W w0 w1).mono fun e W' ⟨he,bel⟩=>?_
 subst he
 exact ⟨_,rfl,_,_,_,[],_,[],hW',trodAll_mk1 (shut_bool Tryz.underlying4 _),(trodAll_cons_mk (Below.trod laidOutTrue (by kernel_rfl) (of_decide_eq_true (by kernel_rfl)) k0 bel lt0) (trodAll_cons_mk (Below.trod laidOutTrue (by kernel_rfl) (of_decide_eq_true (by kernel_rfl)) k1 bel lt1) trodAll_mk0)),rfl,bel.frame _,fun h=>by cases h⟩

theorem over:Rows.wholeToldRow.holds Tryz.pinned (OpenSpec.ofChange Rows.wholeToldSpec) :=
 OpenClaim.holds_of_wide 6 Tryz.f6 rfl rfl rfl rfl rfl rfl rfl ⟨rfl,rfl,rfl,rfl,rfl⟩ rfl rfl rfl rfl rfl (by kernel_rfl) Tryz.func6 (by kernel_rfl)
  (of_decide_eq_true (by kernel_rfl)) (by unfold Func.isWrapper; first | (rw [if_pos (by decide +kernel)]; kernel_rfl) | (rw [if_neg (by decide +kernel)]; exact ⟨rfl,rfl⟩))
  (fun os started H enc _=>lifted os started H enc)

end wholeToldLaw
theorem wholeTold_holds:Rows.WholeToldSaid:=wholeToldLaw.over
#print axioms wholeTold_holds
end Go.Proofs.YthckljafinhepaaGreat
