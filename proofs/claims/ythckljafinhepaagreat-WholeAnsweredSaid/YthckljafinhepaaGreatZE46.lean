/-
  Contracts of whole.Oracle where answers may be; of the laws' Facts, Answered, Oracle.
-/
import Derived.Test.YthckljafinhepaaGreatZE42
import Derived.Test.YthckljafinhepaaGreatZE45
namespace Go.Proofs.YthckljafinhepaaGreat
open Go.RowKit
set_option linter.unusedVariables false

theorem orc1_any (p:Aw) (b:Nat) (x:Aw) (h:Vw) (hc:Cells h b 0 (anRow x)):C0 Tryz.prog 117 #[.agg #[.string p.nm,.int .i64 p.key.k,.int .i64 p.key.n,.string p.key.s,.int .i64 p.has.k,.int .i64 p.has.n,.string p.has.s],.pointer (some ⟨b,0,none⟩)] h (fun r _=>r=.bool (p.hit x.nm x.key)):=by
 unfold Aw.hit
 refine x_con' Tryz.func117 (c:=Tryz.f117.body.getD .skip) (N:=16) ?_
 intro hbx hbad Q hQ a w hJ
 replace hJ:K ⟨16,h.w,h.bad,[]⟩ [(0,.agg #[.string p.nm,Vi p.key.k,Vi p.key.n,.string p.key.s,Vi p.has.k,Vi p.has.n,.string p.has.s]),(1,Vp b)] [] [] h a w:=hJ.tw
 replace hJ:=hJ.fact (hc.sees (Sees.refl _))
 refine rk' hJ false 14 [.own,.b 0 0,.f 0 0] [] (.new fun b1=>.f (.ops [0,1] 6) [.seq [1,1]] [1] [(2,Vp b1),(9,.bool (p.nm.toList == x.nm.toList))] [.box b1 [.string p.nm,Vi p.key.k,Vi p.key.n,.string p.key.s,Vi p.has.k,Vi p.has.n,.string p.has.s]] [.o 0]) (hr:=fun b1 _=>by kernel_rfl) ?_
 clear hJ a w; intro b1 a w hJ
 cases hq:p.nm.toList == x.nm.toList with
 | true =>
  generalize hg:eqB p.key x.key=g at *
  replace hJ:=hJ.rew 9 (v:=.bool (p.nm.toList == x.nm.toList)) (v':=.bool true) (congrArg Value.bool hq) (by kernel_rfl)
  replace hJ:K ⟨16,h.w,h.bad,[]⟩ [(1,Vp b),(2,Vp b1),(9,.bool true)] [.box b1 [.string p.nm,Vi p.key.k,Vi p.key.n,.string p.key.s,Vi p.has.k,Vi p.has.n,.string p.has.s]] [(b,0,[.string x.nm,Vi x.key.k,Vi x.key.n,.string x.key.s,Vi x.has.k,Vi x.has.n,.string x.has.s])] h a w:=hJ.to (by kernel_rfl) rfl rfl
  refine rk' hJ false 4 [.b 0 1,.f 0 1] [] (.k (.ops [0,1] 10) [.seq [1,1]] [9] [(11,.agg #[Vi p.key.k,Vi p.key.n,.string p.key.s]),(13,.agg #[Vi x.key.k,Vi x.key.n,.string x.key.s])]) ?_
  clear hJ a w; intro a w hJ
  refine x_pure hJ 14 (.bool g) (by kernel_rfl) (fun w=>run_eqop (x:=(.tmp 11)) (y:=(.tmp 13)) (v:=p.key) (w:=x.key) (by kernel_rfl) (by kernel_rfl) (by kernel_rfl) (hg)) ?_; clear hJ a w; intro a w hJ
  refine rk' hJ false 5 [] [] (.k (.out .ret) [] [] [(3,.bool g)]) ?_
  clear hJ a w; intro a w hJ
  refine x_end (hQ [.bool g] _ [] hJ (.rtm hJ.j .nil) (no_own _) rfl ?_).1
  exact congrArg Value.bool (by rw [hq]; rfl)
 | false =>
  replace hJ:=hJ.rew 9 (v:=.bool (p.nm.toList == x.nm.toList)) (v':=.bool false) (congrArg Value.bool hq) (by kernel_rfl)
  replace hJ:K ⟨16,h.w,h.bad,[]⟩ [(1,Vp b),(2,Vp b1),(9,.bool false)] [.box b1 [.string p.nm,Vi p.key.k,Vi p.key.n,.string p.key.s,Vi p.has.k,Vi p.has.n,.string p.has.s]] [(b,0,[.string x.nm,Vi x.key.k,Vi x.key.n,.string x.key.s,Vi x.has.k,Vi x.has.n,.string x.has.s])] h a w:=hJ.to (by kernel_rfl) rfl rfl
  refine rk' hJ false 10 [] [] (.k (.out .ret) [] [] [(3,.bool false)]) ?_
  clear hJ a w; intro a w hJ
  refine x_end (hQ [.bool false] _ [] hJ (.rtm hJ.j .nil) (no_own _) rfl ?_).1
  exact congrArg Value.bool (by rw [hq]; rfl)

set_option maxRecDepth 100000 in
theorem idxOrc_any (l:List Aw) (A:Option Addr) (cap:Nat) (b:Nat) (x:Aw) (h:Vw) (hr:RS h 7 (.slice A l.length cap) (anRows l)) (hl:l.length≤1000000) (hc:Cells h b 0 (anRow x)) (hno:∀ q∈l,q.hit x.nm x.key=false) :
  C0 Tryz.prog 68 #[.slice A l.length cap,.func (.func 117) #[] #[.pointer (some ⟨b,0,none⟩)]] h (fun r _=>r=.int .i64 (-1)):=by
 generalize hL:l.length=len at *
 refine x_con' Tryz.func68 (c:=Tryz.f68.body.getD .skip) (N:=19) ?_
 intro hbx hbad Q hQ a w hJ
 replace hJ:K ⟨19,h.w,h.bad,[]⟩ [(0,.slice A len cap),(1,.func (.func 117) #[] #[Vp b])] [] [] h a w:=hJ.tw
 refine rk' hJ false 14 [] [] (.k (.code [0,1,0,1]) [.block 0,.seq [1,1]] [0,1] [(7,Vi (len:Int)),(8,Vi 0)]) ?_
 clear hJ a w; intro a w hJ
 refine x_loop' (fun (k:Nat) a w=>∃ (h1:Vw) ,K ⟨19,h.w,h.bad,[]⟩ [(0,.slice A len cap),(1,.func (.func 117) #[] #[Vp b]),(7,Vi (len:Int)),(8,Vi (k:Int))] [] [] h1 a w∧Sees h h1∧(k≤len)) (fun k=>len - k) (0) ⟨h,hJ.tw,Sees.refl _,Nat.zero_le _⟩ ?_
 clear hJ a w; rintro k a w ⟨h1,hJ,s2,hk⟩
 refine rk' hJ false 6 [] [] (.k (.code [0,1,0,0,1,0,1]) [.seq [1,1,0,0,1,0,1]] [0,1,7,8] [(9,.bool (decide ((k:Int) < (len:Int))))]) ?_
 clear hJ a w; intro a w hJ
 rcases (by omega:k < len∨k=len) with hlt | hke
 ·obtain ⟨q,hqk⟩:∃ q,l[k]?=some q:=⟨_,List.getElem?_eq_getElem (by omega)⟩
  have hrow:(anRows l)[k]?=some (anRow q):=by rw [List.getElem?_map,hqk]; rfl
  have hq1:=fun H q1=>orc1_any q b x H q1
  rw [hno q (List.mem_of_getElem? hqk)] at hq1
  refine x_tru hJ (t:=decide ((k:Int) < (len:Int))) (decide_eq_true (by omega)) ?_
  refine rk' hJ false 15 [] [] (.k (.ops [0,1,0,0,1,1,0,0,1,0,1] 3) [.seq [1,1,0,0,1,1,0,0,1,0,1],.block 1,.seq [1,1,1,0,0,1,0,1]] [0,1,7,8] [(5,Vi (k:Int)),(11,.func (.func 117) #[] #[Vp b]),(12,.slice A len cap),(13,Vi (k:Int))]) ?_
  clear hJ a w; intro a w hJ
  obtain ⟨b3,o4,rfl,-,c5⟩:=RS.row hr (hrow)
  replace hJ:=hJ.fact (c5.sees s2)
  refine rk' hJ false 13 [.ix b3 o4 len cap k,.f 0 0,.cl 117 #[.agg #[.string q.nm,Vi q.key.k,Vi q.key.n,.string q.key.s,Vi q.has.k,Vi q.has.n,.string q.has.s],Vp b] (.bool false)] [(18,Vi (IntKind.i64.wrap ((k:Int) + 1)),Vi ((k:Int) + 1))] (.k (.out .normal) [] [0,1,7] [(8,Vi ((k:Int) + 1))]) (ho:=And.intro (by first | omega | (simp; omega)) (And.intro (fun H sH=>hq1 _ (hc.sees (s2.trans sH))) (trivial))) (hc:=And.intro (i64_wrap (by omega) (by omega)) (trivial)) ?_
  clear hJ a w; intro a w hJ
  exact x_round ⟨k + 1,⟨h1,(hJ.tof [] (F':=[]) (by kernel_rfl)).to (by kernel_rfl) (by kernel_rfl) rfl,s2,by omega⟩,by omega⟩
 ·skip
  refine x_fal hJ (t:=decide ((k:Int) < (len:Int))) (decide_eq_false (by omega)) ?_
  refine rx' hJ false 2 [] [] (.ok (.out (.exit 0)) [] [] [] []) (fun _=>by kernel_rfl) ?_
  clear hJ a w; intro a w hJ
  refine x_leave rfl ?_
  refine rx' hJ false 8 [] [] (.ok (.out .ret) [] [(4,Vi (-1))] [] []) (fun _=>by kernel_rfl) ?_
  clear hJ a w; intro a w hJ
  refine x_end (hQ [Vi (-1)] _ [] hJ (.rtm hJ.j .nil) (no_own _) rfl ?_).1
  exact rfl
theorem contOrc_any (l:List Aw) (A:Option Addr) (cap:Nat) (b:Nat) (x:Aw) (h:Vw) (hr:RS h 7 (.slice A l.length cap) (anRows l)) (hl:l.length≤1000000) (hc:Cells h b 0 (anRow x)) (hno:∀ q∈l,q.hit x.nm x.key=false) :
  C0 Tryz.prog 58 #[.slice A l.length cap,.func (.func 117) #[] #[.pointer (some ⟨b,0,none⟩)]] h (fun r _=>r=.bool false):=by
 have hi:=fun H q1 q2=>idxOrc_any l A cap b x H q1 hl q2 hno
 refine x_con' Tryz.func58 (c:=Tryz.f58.body.getD .skip) (N:=9) ?_
 intro hbx hbad Q hQ a w hJ
 replace hJ:K ⟨9,h.w,h.bad,[]⟩ [(0,.slice A l.length cap),(1,.func (.func 117) #[] #[Vp b])] [] [] h a w:=hJ.tw
 refine rx' hJ false 15 [.cl 68 #[.slice A l.length cap,.func (.func 117) #[] #[Vp b]] (Vi (-1))] [] (.ok (.out .ret) [] [(4,.bool false)] [] []) (ho:=And.intro (fun H sH=>hi _ (hr.sees sH) (hc.sees sH)) (trivial)) (fun _=>by kernel_rfl) ?_
 clear hJ a w; intro a w hJ
 refine x_end (hQ [.bool false] _ [] hJ (.rtm hJ.j .nil) (no_own _) rfl ?_).1
 exact rfl

theorem once_take {l:List Aw} (h:l.Pairwise (fun p q=>p.hit q.nm q.key=false)) {k:Nat} {x:Aw} (hx:l[k]?=some x):∀ q∈l.take k,q.hit x.nm x.key=false:=fun q hq=>by
 obtain ⟨i,hi⟩:=List.getElem?_of_mem hq
 have hik:i < k:=by
  rcases Nat.lt_or_ge i k with g | g
  ·exact g
  ·rw [List.getElem?_eq_none (by rw [List.length_take]; omega)] at hi; cases hi
 rw [List.getElem?_take_of_lt hik] at hi
 obtain ⟨a,ea⟩:=List.getElem?_eq_some_iff.1 hi
 obtain ⟨b,eb⟩:=List.getElem?_eq_some_iff.1 hx
 have:=List.pairwise_iff_getElem.1 h i k a b hik
 rw [ea,eb] at this
 exact this

set_option maxHeartbeats 4000000 in
set_option maxRecDepth 100000 in
theorem whOracle_any (fs:List Fd) (hok:OkFs fs) (l:List Aw) (ho:OkOrc fs l) (A:Option Addr) (n c:Nat) (B:Option Addr) (m d:Nat) (so:Value) (h:Vw) (hf:IsFds h (.slice A n c) fs) (hn:n=fs.length) (hr:RS h 7 so (anRows l)) (hl:l.length≤1000) :
  C0 Tryz.prog 91 #[.agg #[.slice A n c,.slice B m d],so] h (fun r _=>r=.int .i64 0):=by
 obtain ⟨vs,A3,c3,e3,-,-,hr3,hs3,hl3,hsl⟩:=fds_open hf
 have few:=hok.few
 have hF:=fun H s i q hp=>find_yes fs (.slice A n c) s i H q (by omega) hp
 have hT:=fun H x v q1 q2 q3 q4=>tyOf_any fs x v (.slice A n c) H q1 q2 q3 q4
 simp only [Value.slice.injEq] at e3
 obtain ⟨rfl,-,rfl⟩:=e3
 rw [← hn] at hr3 hl3
 obtain ⟨A0,c0,rfl,hc1,-,-⟩:=hr.form
 rw [List.length_map] at *
 have hC:=fun k H b x q1 q2 q3=>contOrc_any (l.take k) A0 c0 b x H q1 (by rw [List.length_take]; omega) q2 q3
 generalize hL:l.length=len at *
 refine x_con' Tryz.func91 (c:=Tryz.f91.body.getD .skip) (N:=83) ?_
 intro hbx hbad Q hQ a w hJ
 replace hJ:K ⟨83,h.w,h.bad,[]⟩ [(0,.agg #[.slice A n c,.slice B m d]),(1,.slice A0 len c0)] [] [] h a w:=hJ.tw
 refine rk' hJ false 15 [.own] [] (.new fun b1=>.m (.code [0,1,0,1]) [.block 0,.seq [1,1]] [1] [(2,Vp b1),(13,.slice A0 len c0),(14,Vi (len:Int)),(15,Vi 0)] [.box b1 [.slice A n c,.slice B m d]] []) (hr:=fun b1 _=>by kernel_rfl) ?_
 clear hJ a w; intro b1 a w hJ
 refine x_loop' (fun (k:Nat) a w=>∃ (h2:Vw) ,K ⟨83,h.w,h.bad,[]⟩ [(1,.slice A0 len c0),(2,Vp b1),(13,.slice A0 len c0),(14,Vi (len:Int)),(15,Vi (k:Int))] [.box b1 [.slice A n c,.slice B m d]] [] h2 a w∧Sees h h2∧(k≤len)) (fun k=>len - k) (0) ⟨h,hJ.tw,Sees.refl _,Nat.zero_le _⟩ ?_
 clear hJ a w; rintro k a w ⟨h2,hJ,s3,hkl⟩
 refine rk' hJ false 6 [] [] (.k (.code [0,1,0,0,1,0,1]) [.seq [1,1,0,0,1,0,1]] [1,2,13,14,15] [(16,.bool (decide ((k:Int) < (len:Int))))]) ?_
 clear hJ a w; intro a w hJ
 rcases (by omega:k < len∨k=len) with hlt | hke
 ·obtain ⟨x,hxk⟩:∃ x,l[k]?=some x:=⟨_,List.getElem?_eq_getElem (by omega)⟩
  have hrow:(anRows l)[k]?=some (anRow x):=by rw [List.getElem?_map,hxk]; rfl
  have hno:=once_take ho.once hxk
  have hx:=ho.each x (List.mem_of_getElem? hxk)
  obtain ⟨i,f,t,p1,p2,p3,p4,p5,p6⟩:=hx.place
  have hil:=(List.getElem?_eq_some_iff.1 p1).1
  have hF1:=hok.each f (List.mem_of_getElem? p1)
  obtain ⟨w1,w2,w3⟩:=hF1.wf (by omega)
  obtain ⟨u,hu⟩:∃ u,vs[i]?=some u:=⟨_,List.getElem?_eq_getElem (by omega)⟩
  have hfr:=fdRows_get p1 hu
  have hga:∀ H,AllSrc H fs vs→IsArgs H f.src u:=fun H q=>AllArgs.get q (x:=f.src) (by rw [List.getElem?_map,p1]; rfl) hu
  obtain ⟨Au,nu,cu,rfl⟩:=(hga _ hs3).slice
  have hfd:=findF_at hok.nodup p1
  have hF2:=fun H q=>hF H x.nm i q (by rw [← p2]; exact hfd)
  have hT2:=fun H q1 q2=>hT H f.src (.slice Au nu cu) q1 w1 (by omega) q2
  rw [show ofE fs f.src=(t,0) from by unfold ofE; rw [if_pos w3,p4]] at hT2
  have hk1:=fun H=>c_kn x.key.k x.key.n x.key.s H hx.key
  have hk2:=fun H=>check_okv x.has H (.inl hx.has)
  have htl:(l.take k).length=k:=by rw [List.length_take]; omega
  have htr:RS h 7 (.slice A0 k c0) (anRows (l.take k)):=by have:=hr.take k (by rw [List.length_map]; omega); rwa [← List.map_take] at this
  have hC2:=fun H b q1 q2=>hC k H b x q1 q2 hno
  rw [htl] at hC2
  refine x_tru hJ (t:=decide ((k:Int) < (len:Int))) (decide_eq_true (by omega)) ?_
  refine rk' hJ false 7 [] [] (.k (.ops [0,0,0,1,1,0,0,1,0,1] 1) [.seq [1,0,0,1,1,0,0,1,0,1],.block 1,.seq [1,1,1,0,0,1,0,1]] [1,2,13,14,15] [(17,Vi (k:Int))]) ?_
  clear hJ a w; intro a w hJ
  obtain ⟨b4,o5,rfl,-,c6⟩:=RS.row hr (hrow)
  replace hJ:=hJ.fact (c6.sees s3)
  refine rk hJ false 36 [.ix b4 o5 len c0 k,.f 0 0,.own,.b 0 0,.b 1 0,.b 0 0,.cl 70 #[.slice A n c,.string x.nm] (.tuple #[Vi (i:Int),Vi 0]),.b 1 0] [] (.new fun bx=>.f (.ops [0,1,1,1,0,0,1,1,0,0,1,0,1] 3) [.seq [1,1,1,1,0,0,1,1,0,0,1,0,1],.block 1,.seq [1,1,1,0,0,1,0,1]] [1,2,13,14,15] [(6,Vp bx),(5,Vi (k:Int)),(32,.slice A n c),(33,Vi (i:Int))] [.box bx [.string x.nm,Vi x.key.k,Vi x.key.n,.string x.key.s,Vi x.has.k,Vi x.has.n,.string x.has.s],.box b1 [.slice A n c,.slice B m d]] [.o 0]) (And.intro (by first | omega | (simp; omega)) (And.intro (fun H sH=>hF2 _ (hf.sees (s3.trans sH))) (trivial))) trivial (fun bx _=>by kernel_rfl) ?_
  clear hJ a w; intro bx a w hJ
  obtain ⟨b7,o8,rfl,-,c9⟩:=RS.row hr3 (hfr)
  replace hJ:=hJ.fact (c9.sees s3)
  refine rk hJ false 86 [.ix b7 o8 n c i,.f 0 0,.own,.b 0 0,.b 0 1,.b 0 3,.b 2 0,.cl 116 #[.agg #[Vi f.src.op,Vi f.src.k,Vi f.src.n,.string f.src.s,.string f.src.nm,.slice Au nu cu],.slice (some ⟨b7,o8,none⟩) n c] (.tuple #[Vi t,Vi 0]),.b 1 1,.cl 42 #[.agg #[Vi x.key.k,Vi x.key.n,.string x.key.s]] (.bool true),.b 1 1,.b 1 4,.cl 71 #[.agg #[Vi x.has.k,Vi x.has.n,.string x.has.s]] (Vi 0),.b 1 4,.b 0 2] [(38,.bool (f.kind != 3),.bool false),(56,.bool (x.key.k != t),.bool false),(69,.bool (x.has.k != f.ty),.bool false)] (.new fun b10=>.f (.ops [0,1,1,1,1,1,1,1,1,0,0,1,1,0,0,1,0,1] 2) [.seq [1,1,1,1,1,1,1,1,1,0,0,1,1,0,0,1,0,1],.block 1,.seq [1,1,1,0,0,1,0,1]] [1,2,13,14,15,6] [(77,.slice (some ⟨b4,o5,none⟩) len c0),(78,Vi (k:Int))] [.box b10 [.string f.name,Vi f.kind,Vi f.ty,Vi f.src.op,Vi f.src.k,Vi f.src.n,.string f.src.s,.string f.src.nm,.slice Au nu cu],.box bx [.string x.nm,Vi x.key.k,Vi x.key.n,.string x.key.s,Vi x.has.k,Vi x.has.n,.string x.has.s],.box b1 [.slice (some ⟨b7,o8,none⟩) n c,.slice B m d]] [.o 0,.o 1]) (And.intro (by first | omega | (simp; omega)) (And.intro (fun H sH=>hT2 _ (hga _ (hs3.sees (s3.trans sH))) (hf.sees (s3.trans sH))) (And.intro (fun H sH=>hk1 _) (And.intro (fun H sH=>hk2 _) (trivial))))) (And.intro (congrArg Value.bool (by rw [bne_eq_false_iff_eq]; exact p3)) (And.intro (congrArg Value.bool (by rw [bne_eq_false_iff_eq]; exact p5)) (And.intro (congrArg Value.bool (by rw [bne_eq_false_iff_eq]; exact p6)) (trivial)))) (fun b10 _=>by kernel_rfl) ?_
  clear hJ a w; intro b10 a w hJ
  refine x_pure hJ 79 (.slice (some ⟨b4,o5,none⟩) k c0) (by kernel_rfl) (fun w=>run_hi (t:=28) (e:=54) (x:=(.tmp 77)) (y:=(.tmp 78)) (A:=(some ⟨b4,o5,none⟩)) (n:=len) (cap:=c0) (k:=k) (kk:=7) (by kernel_rfl) (by kernel_rfl) (by kernel_rfl) (by omega) Tryz.underlying28 (by kernel_rfl)) ?_; clear hJ a w; intro a w hJ
  refine rk' hJ false 1 [] [] (.k (.ops [0,1,1,1,1,1,1,1,1,0,0,1,1,0,0,1,0,1] 4) [.seq [1,1,1,1,1,1,1,1,1,0,0,1,1,0,0,1,0,1],.block 1,.seq [1,1,1,0,0,1,0,1]] [1,2,13,14,15,79] [(80,.func (.func 117) #[] #[Vp bx])]) ?_
  clear hJ a w; intro a w hJ
  refine x_callq hJ 81 (hC2 _ bx (htr.sees (s3.trans hJ.j.seesQ)) (hJ.j.boxQ (b:=bx) (cs:=[.string x.nm,Vi x.key.k,Vi x.key.n,.string x.key.s,Vi x.has.k,Vi x.has.n,.string x.has.s]) 1 rfl)) (fun _=>by kernel_rfl) ?_; clear hJ a w; intro h11 a w s12 hJ
  refine rk' hJ false 10 [] [(82,Vi (IntKind.i64.wrap ((k:Int) + 1)),Vi ((k:Int) + 1))] (.k (.out .normal) [] [1,2,13,14] [(15,Vi ((k:Int) + 1))]) (hc:=And.intro (i64_wrap (by omega) (by omega)) (trivial)) ?_
  clear hJ a w; intro a w hJ
  replace hJ:=hJ.drop 1
  replace hJ:=hJ.drop 0
  exact x_round ⟨k + 1,⟨h11,(hJ.tof [] (F':=[]) (by kernel_rfl)).to (by kernel_rfl) (by kernel_rfl) rfl,(s3.trans s12),by omega⟩,by omega⟩
 ·skip
  refine x_fal hJ (t:=decide ((k:Int) < (len:Int))) (decide_eq_false (by omega)) ?_
  refine rk' hJ false 2 [] [] (.k (.out (.exit 0)) [] [] []) ?_
  clear hJ a w; intro a w hJ
  refine x_leave rfl ?_
  refine rx' hJ false 8 [] [] (.ok (.out .ret) [] [(4,Vi 0)] [.box b1 [.slice A n c,.slice B m d]] []) (fun _=>by kernel_rfl) ?_
  clear hJ a w; intro a w hJ
  refine x_end (hQ [Vi 0] _ [] hJ (.rtm hJ.j .nil) (no_own _) rfl ?_).1
  exact rfl

end Go.Proofs.YthckljafinhepaaGreat
