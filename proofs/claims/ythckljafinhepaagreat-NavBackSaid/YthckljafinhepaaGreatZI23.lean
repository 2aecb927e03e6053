/-
  The contract of eval.apply.
-/
import Derived.Test.YthckljafinhepaaGreatZI22
import Derived.Laws.Concat
set_option maxRecDepth 100000
namespace Go.Proofs.YthckljafinhepaaGreat
open Go.RowKit
theorem hd0 (x:Vl) (l:List Vl):hdV (x :: l) 0=x:=rfl
theorem hd1 (x y:Vl) (l:List Vl):hdV (x :: y :: l) 1=y:=rfl
theorem run_cat {t:TypeId} {a b:ByteArray} {w:World} (h:a.size + b.size≤1000):(binOp .add t (.string a) (.string b)).run Tryz.prog w=.ok (.string (a++b)) w:=by rw [binOp_string_add]; exact run_string_add_sum w a b (by omega)
theorem row0 {h:Vw} {x:Vl} {l:List Vl} {sl:Value} (hr:RS h 3 sl (vrows (x :: l))):∃ b o cap,sl=.slice (some ⟨b,o,none⟩) (l.length + 1) cap∧Cells h b (o + 0 * 3) x.cells:=by
 obtain ⟨A,cap,rfl,-,-,-⟩:=hr.form
 obtain ⟨b,o,rfl,-,c⟩:=hr.row (i:=0) (x:=x.cells) rfl
 refine ⟨b,o,cap,?_,c⟩
 simp
theorem xQ {l:List Vl} (hk:∀ v∈l,v.known) (h:vQ l 1=true):∀ v∈l,Lim v.n:=fun v hv=>by
 have h1:v.k=1:=by unfold vQ at h; rw [List.all_eq_true] at h; simpa using h v hv
 rcases hk v hv with g | g | g
 ·exact g.2.1
 ·omega
 ·omega
theorem known_texts {l:List Vl} (hk:∀ v∈l,v.known) (h:vQ l 3=true):∀ v∈l,v.s.size≤40:=fun v hv=>by
 have h1:v.k=3:=by unfold vQ at h; rw [List.all_eq_true] at h; simpa using h v hv
 rcases hk v hv with g | g | g
 ·omega
 ·omega
 ·exact g.2.2.1
def cmpP (x y:Vl):Int × Int:=if x.k=y.k then (cmpV x.n y.n x.s.toList y.s.toList,0) else (0,9)
theorem cmp2 (x y:Vl) (h:Vw) (hx:x.known) (hy:y.known):C0 Tryz.prog 133 #[x.val,y.val] h (fun r _=>r=.tuple #[.int .i64 (cmpP x y).1,.int .i64 (cmpP x y).2]):=by
 have:=compare_any x y h hx hy
 unfold cmpP
 by_cases he:x.k=y.k
 ·simp only [if_pos he] at this ⊢; exact this
 ·simp only [if_neg he] at this ⊢; exact this
theorem apply_11 (x y:Vl) (sl:Value) (h:Vw) (hr:RS h 3 sl (vrows [x,y])) (hk:∀ v∈[x,y],v.known):C0 Tryz.prog 113 #[.int .i64 11,sl] h (fun v _=>v=(oJ 11 [x,y]).val):=by
 obtain ⟨b,o,cap,rfl,c0⟩:=row0 hr
 have kx:=hk x (by simp)
 have ky:=hk y (by simp)
 have c1:Cells h b (o + 1 * 3) y.cells:=hr.cell (i:=1) rfl
 have hcp:=fun H=>cmp2 x y H kx ky
 have hap:oJ 11 [x,y]=if x.k=y.k then truthV (cmpB 11 (cmpV x.n y.n x.s.toList y.s.toList)) else xK 9:=by unfold oJ; rw [if_pos (by omega),hd0,hd1]
 have hp:(x.k=y.k→cmpP x y=(cmpV x.n y.n x.s.toList y.s.toList,0))∧(x.k≠y.k→cmpP x y=(0,9)):=⟨fun e=>if_pos e,fun e=>if_neg e⟩
 generalize cmpP x y=p at *
 refine yX Tryz.func113 (c:=Tryz.f113.body.getD .skip) (N:=147) ?_
 intro hbx hbad Q hQ a w hJ
 replace hJ:K ⟨147,h.w,h.bad,[]⟩ [(0,Vi 11),(1,.slice (some ⟨b,o,none⟩) 2 cap)] [] [] h a w:=hJ.tw
 replace hJ:=hJ.fact (c0.sees (Sees.refl _))
 replace hJ:=hJ.fact (c1.sees (Sees.refl _))
 refine rk' hJ false 24 [.own] [] (.new fun b1=>.f (.code [0,0,1,0,1,0,1]) [.seq [1,0,1,0,1,0,1],.block 0,.seq [1,1]] [0,1] [(4,Vp b1)] [.box b1 [Vi 0,Vi 0,Ve]] [.o 0,.o 1]) (hr:=fun b1 _=>by kernel_rfl) ?_
 clear hJ a w; intro b1 a w hJ
 let R:Reg:=⟨⟨147,h.w,h.bad,[]⟩,[(0,19,fun gh=>.slice (some ⟨b,o,none⟩) 2 cap),(1,20,fun gh=>.pointer (some ⟨b,o + 0 * 3,none⟩)),(2,21,fun gh=>.agg #[Vi x.k,Vi x.n,.string x.s]),(3,22,fun gh=>.slice (some ⟨b,o,none⟩) 2 cap),(4,23,fun gh=>.pointer (some ⟨b,o + 1 * 3,none⟩)),(5,24,fun gh=>.agg #[Vi y.k,Vi y.n,.string y.s]),(6,25,fun gh=>.tuple #[Vi p.1,Vi p.2]),(7,18,fun gh=>.tuple #[Vi p.1,Vi p.2]),(8,26,fun gh=>Vi p.1),(9,27,fun gh=>Vi p.2),(10,5,fun gh=>Vi p.1),(11,6,fun gh=>Vi p.2)],[(0,Vi 11),(1,.slice (some ⟨b,o,none⟩) 2 cap),(4,Vp b1)],[⟨some (.box b1 [Vi 0,Vi 0,Ve]),[]⟩],[],[[],[0],[0,1],[],[3],[3,4],[0,1,2,3,4,5],[0,1,2,3,4,5,6],[0,1,2,3,4,5,6,7],[0,1,2,3,4,5,6,7],[0,1,2,3,4,5,6,7,8],[0,1,2,3,4,5,6,7,8,9,10]],h⟩
 have hmono:∀ zq∈R.F,∀ zx zh zi,Sees zh zi→zq.2 zx zh→zq.2 zx zi:=lJ
 refine iY (by kernel_rfl) R hJ 12 [.pu,.cl,.lf 1 0,.pu,.cl,.lf 0 0,.cl,.pu,.pu,.pu,.pu,.pu] (by kernel_rfl) hmono (fun _ _ _=>by kernel_rfl) (fun hT hA=>?_) ?_
 ·clear hJ
  refine And.intro (pW hT hA 20 (fun gh=>.pointer (some ⟨b,o + 0 * 3,none⟩)) [0] 1 (fun gh w=>fX (t:=32) (x:=(.tmp 19)) (y:=(.const (Vi 0))) (b:=b) (off:=o) (n:=2) (cap:=cap) (k:=0) (e:=38) (kk:=3) (by kernel_rfl) (by kernel_rfl) (by kernel_rfl) ((by decide)) Tryz.underlying32 (by kernel_rfl))) ?_
  refine And.intro (pW hT hA 23 (fun gh=>.pointer (some ⟨b,o + 1 * 3,none⟩)) [3] 4 (fun gh w=>fX (t:=32) (x:=(.tmp 22)) (y:=(.const (Vi 1))) (b:=b) (off:=o) (n:=2) (cap:=cap) (k:=1) (e:=38) (kk:=3) (by kernel_rfl) (by kernel_rfl) (by kernel_rfl) ((by decide)) Tryz.underlying32 (by kernel_rfl))) ?_
  refine And.intro (oW hT hA hmono 25 (fun gh=>.tuple #[Vi p.1,Vi p.2]) [2,5] 6 133 (fun gh=>#[.agg #[Vi x.k,Vi x.n,.string x.s],.agg #[Vi y.k,Vi y.n,.string y.s]]) (fun gh H sH fH lent=>hcp _)) ?_
  trivial
 clear hJ a w; intro gh h2 a w sR hJ1 hF; have s3:Sees h h2:=sR; clear sR
 have hJ:K ⟨147,h.w,h.bad,[]⟩ [(0,Vi 11),(4,Vp b1),(5,Vi p.1),(6,Vi p.2)] [.box b1 [Vi 0,Vi 0,Ve]] [(b,o + 1 * 3,[Vi y.k,Vi y.n,.string y.s]),(b,o + 0 * 3,[Vi x.k,Vi x.n,.string x.s])] h2 a w:=hJ1.tw
 clear hJ1 hF hmono R
 clear gh
 refine rk' hJ false 8 [] [] (.k (.code [1,0,1,0,1,0,1,0,1]) [.seq [1,1,0,1,0,1,0,1],.block 0,.seq [1,1]] [0,4,5,6] [(29,.bool (p.2 != 0))]) ?_
 clear hJ a w; intro a w hJ
 by_cases he:x.k=y.k
 ·have e:=hp.1 he
  refine aY hJ (t:=p.2 != 0) ((by rw [e]; rfl)) ?_
  refine rk' hJ false 11 [] [] (.k (.ops [0,1,1,0,1,0,1,0,1] 7) [.seq [1,1,1,0,1,0,1,0,1],.block 0,.seq [1,1]] [0,4,5] [(38,.bool (decide (p.1 < 0)))]) ?_
  clear hJ a w; intro a w hJ
  by_cases hc:p.1 < 0
  ·replace hJ:=hJ.rew 38 (v:=.bool (decide (p.1 < 0))) (v':=.bool true) (congrArg Value.bool (decide_eq_true hc)) (by kernel_rfl)
   replace hJ:K ⟨147,h.w,h.bad,[]⟩ [(0,Vi 11),(4,Vp b1),(5,Vi p.1),(38,.bool true)] [.box b1 [Vi 0,Vi 0,Ve]] [(b,o + 1 * 3,[Vi y.k,Vi y.n,.string y.s]),(b,o + 0 * 3,[Vi x.k,Vi x.n,.string x.s])] h2 a w:=hJ.to (by kernel_rfl) rfl rfl
   refine rk' hJ false 30 [.cl 134 #[.bool true] (.agg #[Vi 2,Vi 1,Ve]),.b 0 0] [] (.f (.out .ret) [] [4] [] [.box b1 [Vi 2,Vi 1,Ve]] [.o 0,.o 1]) (ho:=And.intro (fun H sH=>qX true _) (trivial)) ?_
   clear hJ a w; intro a w hJ
   rw [e] at hc
   have hb:cmpB 11 (cmpV x.n y.n x.s.toList y.s.toList)=true:=by simp only at hc; simp [cmpB,hc]
   refine zX (hQ [.agg #[Vi 2,Vi 1,Ve]] _ [] hJ (.rcel hJ.j 0 .nil) (fJ _) rfl ?_).1
   rw [hap,if_pos he,hb]; rfl
  ·skip
   replace hJ:=hJ.rew 38 (v:=.bool (decide (p.1 < 0))) (v':=.bool false) (congrArg Value.bool (decide_eq_false hc)) (by kernel_rfl)
   replace hJ:K ⟨147,h.w,h.bad,[]⟩ [(0,Vi 11),(4,Vp b1),(5,Vi p.1),(38,.bool false)] [.box b1 [Vi 0,Vi 0,Ve]] [(b,o + 1 * 3,[Vi y.k,Vi y.n,.string y.s]),(b,o + 0 * 3,[Vi x.k,Vi x.n,.string x.s])] h2 a w:=hJ.to (by kernel_rfl) rfl rfl
   refine rk' hJ false 30 [.cl 134 #[.bool false] (.agg #[Vi 2,Vi 0,Ve]),.b 0 0] [] (.f (.out .ret) [] [4] [] [.box b1 [Vi 2,Vi 0,Ve]] [.o 0,.o 1]) (ho:=And.intro (fun H sH=>qX false _) (trivial)) ?_
   clear hJ a w; intro a w hJ
   rw [e] at hc
   have hb:cmpB 11 (cmpV x.n y.n x.s.toList y.s.toList)=false:=by simp only at hc; simp [cmpB,hc]
   refine zX (hQ [.agg #[Vi 2,Vi 0,Ve]] _ [] hJ (.rcel hJ.j 0 .nil) (fJ _) rfl ?_).1
   rw [hap,if_pos he,hb]; rfl
 ·skip
  have e:=hp.2 he
  refine kY hJ (t:=p.2 != 0) ((by rw [e]; rfl)) ?_
  refine rk' hJ false 11 [.cl 109 #[Vi p.2] (.agg #[Vi 5,Vi p.2,Ve]),.b 0 0] [] (.f (.out .ret) [] [4] [] [.box b1 [Vi 5,Vi p.2,Ve]] [.o 0,.o 1]) (ho:=And.intro (fun H sH=>yK _ _) (trivial)) ?_
  clear hJ a w; intro a w hJ
  refine zX (hQ [.agg #[Vi 5,Vi p.2,Ve]] _ [] hJ (.rcel hJ.j 0 .nil) (fJ _) rfl ?_).1
  rw [hap,if_neg he,e]; rfl
theorem apply_12 (x y:Vl) (sl:Value) (h:Vw) (hr:RS h 3 sl (vrows [x,y])) (hk:∀ v∈[x,y],v.known):C0 Tryz.prog 113 #[.int .i64 12,sl] h (fun v _=>v=(oJ 12 [x,y]).val):=by
 obtain ⟨b,o,cap,rfl,c0⟩:=row0 hr
 have kx:=hk x (by simp)
 have ky:=hk y (by simp)
 have c1:Cells h b (o + 1 * 3) y.cells:=hr.cell (i:=1) rfl
 have hcp:=fun H=>cmp2 x y H kx ky
 have hap:oJ 12 [x,y]=if x.k=y.k then truthV (cmpB 12 (cmpV x.n y.n x.s.toList y.s.toList)) else xK 9:=by unfold oJ; rw [if_pos (by omega),hd0,hd1]
 have hp:(x.k=y.k→cmpP x y=(cmpV x.n y.n x.s.toList y.s.toList,0))∧(x.k≠y.k→cmpP x y=(0,9)):=⟨fun e=>if_pos e,fun e=>if_neg e⟩
 generalize cmpP x y=p at *
 refine yX Tryz.func113 (c:=Tryz.f113.body.getD .skip) (N:=147) ?_
 intro hbx hbad Q hQ a w hJ
 replace hJ:K ⟨147,h.w,h.bad,[]⟩ [(0,Vi 12),(1,.slice (some ⟨b,o,none⟩) 2 cap)] [] [] h a w:=hJ.tw
 replace hJ:=hJ.fact (c0.sees (Sees.refl _))
 replace hJ:=hJ.fact (c1.sees (Sees.refl _))
 refine rk' hJ false 31 [.own] [] (.new fun b1=>.f (.code [0,0,1,0,1,0,1]) [.seq [1,0,1,0,1,0,1],.block 0,.seq [1,1]] [0,1] [(4,Vp b1)] [.box b1 [Vi 0,Vi 0,Ve]] [.o 0,.o 1]) (hr:=fun b1 _=>by kernel_rfl) ?_
 clear hJ a w; intro b1 a w hJ
 let R:Reg:=⟨⟨147,h.w,h.bad,[]⟩,[(0,19,fun gh=>.slice (some ⟨b,o,none⟩) 2 cap),(1,20,fun gh=>.pointer (some ⟨b,o + 0 * 3,none⟩)),(2,21,fun gh=>.agg #[Vi x.k,Vi x.n,.string x.s]),(3,22,fun gh=>.slice (some ⟨b,o,none⟩) 2 cap),(4,23,fun gh=>.pointer (some ⟨b,o + 1 * 3,none⟩)),(5,24,fun gh=>.agg #[Vi y.k,Vi y.n,.string y.s]),(6,25,fun gh=>.tuple #[Vi p.1,Vi p.2]),(7,18,fun gh=>.tuple #[Vi p.1,Vi p.2]),(8,26,fun gh=>Vi p.1),(9,27,fun gh=>Vi p.2),(10,5,fun gh=>Vi p.1),(11,6,fun gh=>Vi p.2)],[(0,Vi 12),(1,.slice (some ⟨b,o,none⟩) 2 cap),(4,Vp b1)],[⟨some (.box b1 [Vi 0,Vi 0,Ve]),[]⟩],[],[[],[0],[0,1],[],[3],[3,4],[0,1,2,3,4,5],[0,1,2,3,4,5,6],[0,1,2,3,4,5,6,7],[0,1,2,3,4,5,6,7],[0,1,2,3,4,5,6,7,8],[0,1,2,3,4,5,6,7,8,9,10]],h⟩
 have hmono:∀ zq∈R.F,∀ zx zh zi,Sees zh zi→zq.2 zx zh→zq.2 zx zi:=lJ
 refine iY (by kernel_rfl) R hJ 12 [.pu,.cl,.lf 1 0,.pu,.cl,.lf 0 0,.cl,.pu,.pu,.pu,.pu,.pu] (by kernel_rfl) hmono (fun _ _ _=>by kernel_rfl) (fun hT hA=>?_) ?_
 ·clear hJ
  refine And.intro (pW hT hA 20 (fun gh=>.pointer (some ⟨b,o + 0 * 3,none⟩)) [0] 1 (fun gh w=>fX (t:=32) (x:=(.tmp 19)) (y:=(.const (Vi 0))) (b:=b) (off:=o) (n:=2) (cap:=cap) (k:=0) (e:=38) (kk:=3) (by kernel_rfl) (by kernel_rfl) (by kernel_rfl) ((by decide)) Tryz.underlying32 (by kernel_rfl))) ?_
  refine And.intro (pW hT hA 23 (fun gh=>.pointer (some ⟨b,o + 1 * 3,none⟩)) [3] 4 (fun gh w=>fX (t:=32) (x:=(.tmp 22)) (y:=(.const (Vi 1))) (b:=b) (off:=o) (n:=2) (cap:=cap) (k:=1) (e:=38) (kk:=3) (by kernel_rfl) (by kernel_rfl) (by kernel_rfl) ((by decide)) Tryz.underlying32 (by kernel_rfl))) ?_
  refine And.intro (oW hT hA hmono 25 (fun gh=>.tuple #[Vi p.1,Vi p.2]) [2,5] 6 133 (fun gh=>#[.agg #[Vi x.k,Vi x.n,.string x.s],.agg #[Vi y.k,Vi y.n,.string y.s]]) (fun gh H sH fH lent=>hcp _)) ?_
  trivial
 clear hJ a w; intro gh h2 a w sR hJ1 hF; have s3:Sees h h2:=sR; clear sR
 have hJ:K ⟨147,h.w,h.bad,[]⟩ [(0,Vi 12),(4,Vp b1),(5,Vi p.1),(6,Vi p.2)] [.box b1 [Vi 0,Vi 0,Ve]] [(b,o + 1 * 3,[Vi y.k,Vi y.n,.string y.s]),(b,o + 0 * 3,[Vi x.k,Vi x.n,.string x.s])] h2 a w:=hJ1.tw
 clear hJ1 hF hmono R
 clear gh
 refine rk' hJ false 8 [] [] (.k (.code [1,0,1,0,1,0,1,0,1]) [.seq [1,1,0,1,0,1,0,1],.block 0,.seq [1,1]] [0,4,5,6] [(29,.bool (p.2 != 0))]) ?_
 clear hJ a w; intro a w hJ
 by_cases he:x.k=y.k
 ·have e:=hp.1 he
  refine aY hJ (t:=p.2 != 0) ((by rw [e]; rfl)) ?_
  refine rx' hJ false 19 [] [] (.ok (.ops [0,1,1,0,1,0,1,0,1] 15) [.seq [1,1,1,0,1,0,1,0,1],.block 0,.seq [1,1]] [(0,Vi 12),(4,Vp b1),(5,Vi p.1),(46,.bool (decide (p.1≤0)))] [.box b1 [Vi 0,Vi 0,Ve]] [(b,o + 1 * 3,[Vi y.k,Vi y.n,.string y.s]),(b,o + 0 * 3,[Vi x.k,Vi x.n,.string x.s])]) (fun _=>by kernel_rfl) ?_
  clear hJ a w; intro a w hJ
  by_cases hc:p.1≤0
  ·replace hJ:=hJ.rew 46 (v:=.bool (decide (p.1≤0))) (v':=.bool true) (congrArg Value.bool (decide_eq_true hc)) (by kernel_rfl)
   replace hJ:K ⟨147,h.w,h.bad,[]⟩ [(0,Vi 12),(4,Vp b1),(5,Vi p.1),(46,.bool true)] [.box b1 [Vi 0,Vi 0,Ve]] [(b,o + 1 * 3,[Vi y.k,Vi y.n,.string y.s]),(b,o + 0 * 3,[Vi x.k,Vi x.n,.string x.s])] h2 a w:=hJ.to (by kernel_rfl) rfl rfl
   refine rk' hJ false 22 [.cl 134 #[.bool true] (.agg #[Vi 2,Vi 1,Ve]),.b 0 0] [] (.f (.out .ret) [] [4] [] [.box b1 [Vi 2,Vi 1,Ve]] [.o 0,.o 1]) (ho:=And.intro (fun H sH=>qX true _) (trivial)) ?_
   clear hJ a w; intro a w hJ
   rw [e] at hc
   have hb:cmpB 12 (cmpV x.n y.n x.s.toList y.s.toList)=true:=by simp only at hc; simp [cmpB,hc]
   refine zX (hQ [.agg #[Vi 2,Vi 1,Ve]] _ [] hJ (.rcel hJ.j 0 .nil) (fJ _) rfl ?_).1
   rw [hap,if_pos he,hb]; rfl
  ·skip
   replace hJ:=hJ.rew 46 (v:=.bool (decide (p.1≤0))) (v':=.bool false) (congrArg Value.bool (decide_eq_false hc)) (by kernel_rfl)
   replace hJ:K ⟨147,h.w,h.bad,[]⟩ [(0,Vi 12),(4,Vp b1),(5,Vi p.1),(46,.bool false)] [.box b1 [Vi 0,Vi 0,Ve]] [(b,o + 1 * 3,[Vi y.k,Vi y.n,.string y.s]),(b,o + 0 * 3,[Vi x.k,Vi x.n,.string x.s])] h2 a w:=hJ.to (by kernel_rfl) rfl rfl
   refine rk' hJ false 22 [.cl 134 #[.bool false] (.agg #[Vi 2,Vi 0,Ve]),.b 0 0] [] (.f (.out .ret) [] [4] [] [.box b1 [Vi 2,Vi 0,Ve]] [.o 0,.o 1]) (ho:=And.intro (fun H sH=>qX false _) (trivial)) ?_
   clear hJ a w; intro a w hJ
   rw [e] at hc
   have hb:cmpB 12 (cmpV x.n y.n x.s.toList y.s.toList)=false:=by simp only at hc; simp [cmpB,hc]
   refine zX (hQ [.agg #[Vi 2,Vi 0,Ve]] _ [] hJ (.rcel hJ.j 0 .nil) (fJ _) rfl ?_).1
   rw [hap,if_pos he,hb]; rfl
 ·skip
  have e:=hp.2 he
  refine kY hJ (t:=p.2 != 0) ((by rw [e]; rfl)) ?_
  refine rk' hJ false 11 [.cl 109 #[Vi p.2] (.agg #[Vi 5,Vi p.2,Ve]),.b 0 0] [] (.f (.out .ret) [] [4] [] [.box b1 [Vi 5,Vi p.2,Ve]] [.o 0,.o 1]) (ho:=And.intro (fun H sH=>yK _ _) (trivial)) ?_
  clear hJ a w; intro a w hJ
  refine zX (hQ [.agg #[Vi 5,Vi p.2,Ve]] _ [] hJ (.rcel hJ.j 0 .nil) (fJ _) rfl ?_).1
  rw [hap,if_neg he,e]; rfl
theorem apply_13 (x y:Vl) (sl:Value) (h:Vw) (hr:RS h 3 sl (vrows [x,y])) (hk:∀ v∈[x,y],v.known):C0 Tryz.prog 113 #[.int .i64 13,sl] h (fun v _=>v=(oJ 13 [x,y]).val):=by
 obtain ⟨b,o,cap,rfl,c0⟩:=row0 hr
 have kx:=hk x (by simp)
 have ky:=hk y (by simp)
 have c1:Cells h b (o + 1 * 3) y.cells:=hr.cell (i:=1) rfl
 have hcp:=fun H=>cmp2 x y H kx ky
 have hap:oJ 13 [x,y]=if x.k=y.k then truthV (cmpB 13 (cmpV x.n y.n x.s.toList y.s.toList)) else xK 9:=by unfold oJ; rw [if_pos (by omega),hd0,hd1]
 have hp:(x.k=y.k→cmpP x y=(cmpV x.n y.n x.s.toList y.s.toList,0))∧(x.k≠y.k→cmpP x y=(0,9)):=⟨fun e=>if_pos e,fun e=>if_neg e⟩
 generalize cmpP x y=p at *
 refine yX Tryz.func113 (c:=Tryz.f113.body.getD .skip) (N:=147) ?_
 intro hbx hbad Q hQ a w hJ
 replace hJ:K ⟨147,h.w,h.bad,[]⟩ [(0,Vi 13),(1,.slice (some ⟨b,o,none⟩) 2 cap)] [] [] h a w:=hJ.tw
 replace hJ:=hJ.fact (c0.sees (Sees.refl _))
 replace hJ:=hJ.fact (c1.sees (Sees.refl _))
 refine rk' hJ false 38 [.own] [] (.new fun b1=>.f (.code [0,0,1,0,1,0,1]) [.seq [1,0,1,0,1,0,1],.block 0,.seq [1,1]] [0,1] [(4,Vp b1)] [.box b1 [Vi 0,Vi 0,Ve]] [.o 0,.o 1]) (hr:=fun b1 _=>by kernel_rfl) ?_
 clear hJ a w; intro b1 a w hJ
 let R:Reg:=⟨⟨147,h.w,h.bad,[]⟩,[(0,19,fun gh=>.slice (some ⟨b,o,none⟩) 2 cap),(1,20,fun gh=>.pointer (some ⟨b,o + 0 * 3,none⟩)),(2,21,fun gh=>.agg #[Vi x.k,Vi x.n,.string x.s]),(3,22,fun gh=>.slice (some ⟨b,o,none⟩) 2 cap),(4,23,fun gh=>.pointer (some ⟨b,o + 1 * 3,none⟩)),(5,24,fun gh=>.agg #[Vi y.k,Vi y.n,.string y.s]),(6,25,fun gh=>.tuple #[Vi p.1,Vi p.2]),(7,18,fun gh=>.tuple #[Vi p.1,Vi p.2]),(8,26,fun gh=>Vi p.1),(9,27,fun gh=>Vi p.2),(10,5,fun gh=>Vi p.1),(11,6,fun gh=>Vi p.2)],[(0,Vi 13),(1,.slice (some ⟨b,o,none⟩) 2 cap),(4,Vp b1)],[⟨some (.box b1 [Vi 0,Vi 0,Ve]),[]⟩],[],[[],[0],[0,1],[],[3],[3,4],[0,1,2,3,4,5],[0,1,2,3,4,5,6],[0,1,2,3,4,5,6,7],[0,1,2,3,4,5,6,7],[0,1,2,3,4,5,6,7,8],[0,1,2,3,4,5,6,7,8,9,10]],h⟩
 have hmono:∀ zq∈R.F,∀ zx zh zi,Sees zh zi→zq.2 zx zh→zq.2 zx zi:=lJ
 refine iY (by kernel_rfl) R hJ 12 [.pu,.cl,.lf 1 0,.pu,.cl,.lf 0 0,.cl,.pu,.pu,.pu,.pu,.pu] (by kernel_rfl) hmono (fun _ _ _=>by kernel_rfl) (fun hT hA=>?_) ?_
 ·clear hJ
  refine And.intro (pW hT hA 20 (fun gh=>.pointer (some ⟨b,o + 0 * 3,none⟩)) [0] 1 (fun gh w=>fX (t:=32) (x:=(.tmp 19)) (y:=(.const (Vi 0))) (b:=b) (off:=o) (n:=2) (cap:=cap) (k:=0) (e:=38) (kk:=3) (by kernel_rfl) (by kernel_rfl) (by kernel_rfl) ((by decide)) Tryz.underlying32 (by kernel_rfl))) ?_
  refine And.intro (pW hT hA 23 (fun gh=>.pointer (some ⟨b,o + 1 * 3,none⟩)) [3] 4 (fun gh w=>fX (t:=32) (x:=(.tmp 22)) (y:=(.const (Vi 1))) (b:=b) (off:=o) (n:=2) (cap:=cap) (k:=1) (e:=38) (kk:=3) (by kernel_rfl) (by kernel_rfl) (by kernel_rfl) ((by decide)) Tryz.underlying32 (by kernel_rfl))) ?_
  refine And.intro (oW hT hA hmono 25 (fun gh=>.tuple #[Vi p.1,Vi p.2]) [2,5] 6 133 (fun gh=>#[.agg #[Vi x.k,Vi x.n,.string x.s],.agg #[Vi y.k,Vi y.n,.string y.s]]) (fun gh H sH fH lent=>hcp _)) ?_
  trivial
 clear hJ a w; intro gh h2 a w sR hJ1 hF; have s3:Sees h h2:=sR; clear sR
 have hJ:K ⟨147,h.w,h.bad,[]⟩ [(0,Vi 13),(4,Vp b1),(5,Vi p.1),(6,Vi p.2)] [.box b1 [Vi 0,Vi 0,Ve]] [(b,o + 1 * 3,[Vi y.k,Vi y.n,.string y.s]),(b,o + 0 * 3,[Vi x.k,Vi x.n,.string x.s])] h2 a w:=hJ1.tw
 clear hJ1 hF hmono R
 clear gh
 refine rk' hJ false 8 [] [] (.k (.code [1,0,1,0,1,0,1,0,1]) [.seq [1,1,0,1,0,1,0,1],.block 0,.seq [1,1]] [0,4,5,6] [(29,.bool (p.2 != 0))]) ?_
 clear hJ a w; intro a w hJ
 by_cases he:x.k=y.k
 ·have e:=hp.1 he
  refine aY hJ (t:=p.2 != 0) ((by rw [e]; rfl)) ?_
  refine rk' hJ false 27 [] [] (.k (.ops [0,1,1,0,1,0,1,0,1] 23) [.seq [1,1,1,0,1,0,1,0,1],.block 0,.seq [1,1]] [0,4,5] [(54,.bool (p.1 == 0))]) ?_
  clear hJ a w; intro a w hJ
  by_cases hc:p.1=0
  ·replace hJ:=hJ.rew 54 (v:=.bool (p.1 == 0)) (v':=.bool true) (congrArg Value.bool (beq_iff_eq.2 hc)) (by kernel_rfl)
   replace hJ:K ⟨147,h.w,h.bad,[]⟩ [(0,Vi 13),(4,Vp b1),(5,Vi p.1),(54,.bool true)] [.box b1 [Vi 0,Vi 0,Ve]] [(b,o + 1 * 3,[Vi y.k,Vi y.n,.string y.s]),(b,o + 0 * 3,[Vi x.k,Vi x.n,.string x.s])] h2 a w:=hJ.to (by kernel_rfl) rfl rfl
   refine rk' hJ false 14 [.cl 134 #[.bool true] (.agg #[Vi 2,Vi 1,Ve]),.b 0 0] [] (.f (.out .ret) [] [4] [] [.box b1 [Vi 2,Vi 1,Ve]] [.o 0,.o 1]) (ho:=And.intro (fun H sH=>qX true _) (trivial)) ?_
   clear hJ a w; intro a w hJ
   rw [e] at hc
   have hb:cmpB 13 (cmpV x.n y.n x.s.toList y.s.toList)=true:=by simp only at hc; simp [cmpB,hc]
   refine zX (hQ [.agg #[Vi 2,Vi 1,Ve]] _ [] hJ (.rcel hJ.j 0 .nil) (fJ _) rfl ?_).1
   rw [hap,if_pos he,hb]; rfl
  ·skip
   replace hJ:=hJ.rew 54 (v:=.bool (p.1 == 0)) (v':=.bool false) (congrArg Value.bool (beq_eq_false_iff_ne.2 hc)) (by kernel_rfl)
   replace hJ:K ⟨147,h.w,h.bad,[]⟩ [(0,Vi 13),(4,Vp b1),(5,Vi p.1),(54,.bool false)] [.box b1 [Vi 0,Vi 0,Ve]] [(b,o + 1 * 3,[Vi y.k,Vi y.n,.string y.s]),(b,o + 0 * 3,[Vi x.k,Vi x.n,.string x.s])] h2 a w:=hJ.to (by kernel_rfl) rfl rfl
   refine rk' hJ false 14 [.cl 134 #[.bool false] (.agg #[Vi 2,Vi 0,Ve]),.b 0 0] [] (.f (.out .ret) [] [4] [] [.box b1 [Vi 2,Vi 0,Ve]] [.o 0,.o 1]) (ho:=And.intro (fun H sH=>qX false _) (trivial)) ?_
   clear hJ a w; intro a w hJ
   rw [e] at hc
   have hb:cmpB 13 (cmpV x.n y.n x.s.toList y.s.toList)=false:=by simp only at hc; simp [cmpB,hc]
   refine zX (hQ [.agg #[Vi 2,Vi 0,Ve]] _ [] hJ (.rcel hJ.j 0 .nil) (fJ _) rfl ?_).1
   rw [hap,if_pos he,hb]; rfl
 ·skip
  have e:=hp.2 he
  refine kY hJ (t:=p.2 != 0) ((by rw [e]; rfl)) ?_
  refine rx' hJ false 11 [.cl 109 #[Vi p.2] (.agg #[Vi 5,Vi p.2,Ve]),.b 0 0] [] (.ok (.out .ret) [] [(4,Vp b1)] [.box b1 [Vi 5,Vi p.2,Ve]] [(b,o + 1 * 3,[Vi y.k,Vi y.n,.string y.s]),(b,o + 0 * 3,[Vi x.k,Vi x.n,.string x.s])]) (ho:=And.intro (fun H sH=>yK _ _) (trivial)) (fun _=>by kernel_rfl) ?_
  clear hJ a w; intro a w hJ
  refine zX (hQ [.agg #[Vi 5,Vi p.2,Ve]] _ [] hJ (.rcel hJ.j 0 .nil) (fJ _) rfl ?_).1
  rw [hap,if_neg he,e]; rfl
theorem apply_14 (x y:Vl) (sl:Value) (h:Vw) (hr:RS h 3 sl (vrows [x,y])) (hk:∀ v∈[x,y],v.known):C0 Tryz.prog 113 #[.int .i64 14,sl] h (fun v _=>v=(oJ 14 [x,y]).val):=by
 obtain ⟨b,o,cap,rfl,c0⟩:=row0 hr
 have kx:=hk x (by simp)
 have ky:=hk y (by simp)
 have c1:Cells h b (o + 1 * 3) y.cells:=hr.cell (i:=1) rfl
 have hcp:=fun H=>cmp2 x y H kx ky
 have hap:oJ 14 [x,y]=if x.k=y.k then truthV (cmpB 14 (cmpV x.n y.n x.s.toList y.s.toList)) else xK 9:=by unfold oJ; rw [if_pos (by omega),hd0,hd1]
 have hp:(x.k=y.k→cmpP x y=(cmpV x.n y.n x.s.toList y.s.toList,0))∧(x.k≠y.k→cmpP x y=(0,9)):=⟨fun e=>if_pos e,fun e=>if_neg e⟩
 generalize cmpP x y=p at *
 refine yX Tryz.func113 (c:=Tryz.f113.body.getD .skip) (N:=147) ?_
 intro hbx hbad Q hQ a w hJ
 replace hJ:K ⟨147,h.w,h.bad,[]⟩ [(0,Vi 14),(1,.slice (some ⟨b,o,none⟩) 2 cap)] [] [] h a w:=hJ.tw
 replace hJ:=hJ.fact (c0.sees (Sees.refl _))
 replace hJ:=hJ.fact (c1.sees (Sees.refl _))
 refine rk' hJ false 41 [.own] [] (.new fun b1=>.f (.code [0,0,1,0,1,0,1]) [.seq [1,0,1,0,1,0,1],.block 0,.seq [1,1]] [0,1] [(4,Vp b1)] [.box b1 [Vi 0,Vi 0,Ve]] [.o 0,.o 1]) (hr:=fun b1 _=>by kernel_rfl) ?_
 clear hJ a w; intro b1 a w hJ
 let R:Reg:=⟨⟨147,h.w,h.bad,[]⟩,[(0,19,fun gh=>.slice (some ⟨b,o,none⟩) 2 cap),(1,20,fun gh=>.pointer (some ⟨b,o + 0 * 3,none⟩)),(2,21,fun gh=>.agg #[Vi x.k,Vi x.n,.string x.s]),(3,22,fun gh=>.slice (some ⟨b,o,none⟩) 2 cap),(4,23,fun gh=>.pointer (some ⟨b,o + 1 * 3,none⟩)),(5,24,fun gh=>.agg #[Vi y.k,Vi y.n,.string y.s]),(6,25,fun gh=>.tuple #[Vi p.1,Vi p.2]),(7,18,fun gh=>.tuple #[Vi p.1,Vi p.2]),(8,26,fun gh=>Vi p.1),(9,27,fun gh=>Vi p.2),(10,5,fun gh=>Vi p.1),(11,6,fun gh=>Vi p.2)],[(0,Vi 14),(1,.slice (some ⟨b,o,none⟩) 2 cap),(4,Vp b1)],[⟨some (.box b1 [Vi 0,Vi 0,Ve]),[]⟩],[],[[],[0],[0,1],[],[3],[3,4],[0,1,2,3,4,5],[0,1,2,3,4,5,6],[0,1,2,3,4,5,6,7],[0,1,2,3,4,5,6,7],[0,1,2,3,4,5,6,7,8],[0,1,2,3,4,5,6,7,8,9,10]],h⟩
 have hmono:∀ zq∈R.F,∀ zx zh zi,Sees zh zi→zq.2 zx zh→zq.2 zx zi:=lJ
 refine iY (by kernel_rfl) R hJ 12 [.pu,.cl,.lf 1 0,.pu,.cl,.lf 0 0,.cl,.pu,.pu,.pu,.pu,.pu] (by kernel_rfl) hmono (fun _ _ _=>by kernel_rfl) (fun hT hA=>?_) ?_
 ·clear hJ
  refine And.intro (pW hT hA 20 (fun gh=>.pointer (some ⟨b,o + 0 * 3,none⟩)) [0] 1 (fun gh w=>fX (t:=32) (x:=(.tmp 19)) (y:=(.const (Vi 0))) (b:=b) (off:=o) (n:=2) (cap:=cap) (k:=0) (e:=38) (kk:=3) (by kernel_rfl) (by kernel_rfl) (by kernel_rfl) ((by decide)) Tryz.underlying32 (by kernel_rfl))) ?_
  refine And.intro (pW hT hA 23 (fun gh=>.pointer (some ⟨b,o + 1 * 3,none⟩)) [3] 4 (fun gh w=>fX (t:=32) (x:=(.tmp 22)) (y:=(.const (Vi 1))) (b:=b) (off:=o) (n:=2) (cap:=cap) (k:=1) (e:=38) (kk:=3) (by kernel_rfl) (by kernel_rfl) (by kernel_rfl) ((by decide)) Tryz.underlying32 (by kernel_rfl))) ?_
  refine And.intro (oW hT hA hmono 25 (fun gh=>.tuple #[Vi p.1,Vi p.2]) [2,5] 6 133 (fun gh=>#[.agg #[Vi x.k,Vi x.n,.string x.s],.agg #[Vi y.k,Vi y.n,.string y.s]]) (fun gh H sH fH lent=>hcp _)) ?_
  trivial
 clear hJ a w; intro gh h2 a w sR hJ1 hF; have s3:Sees h h2:=sR; clear sR
 have hJ:K ⟨147,h.w,h.bad,[]⟩ [(0,Vi 14),(4,Vp b1),(5,Vi p.1),(6,Vi p.2)] [.box b1 [Vi 0,Vi 0,Ve]] [(b,o + 1 * 3,[Vi y.k,Vi y.n,.string y.s]),(b,o + 0 * 3,[Vi x.k,Vi x.n,.string x.s])] h2 a w:=hJ1.tw
 clear hJ1 hF hmono R
 clear gh
 refine rk' hJ false 8 [] [] (.k (.code [1,0,1,0,1,0,1,0,1]) [.seq [1,1,0,1,0,1,0,1],.block 0,.seq [1,1]] [0,4,5,6] [(29,.bool (p.2 != 0))]) ?_
 clear hJ a w; intro a w hJ
 by_cases he:x.k=y.k
 ·have e:=hp.1 he
  refine aY hJ (t:=p.2 != 0) ((by rw [e]; rfl)) ?_
  refine rk' hJ false 34 [] [] (.k (.ops [0,1,1,0,1,0,1,0,1] 30) [.seq [1,1,1,0,1,0,1,0,1],.block 0,.seq [1,1]] [4] [(61,.bool (p.1 != 0))]) ?_
  clear hJ a w; intro a w hJ
  by_cases hc:p.1≠0
  ·replace hJ:=hJ.rew 61 (v:=.bool (p.1 != 0)) (v':=.bool true) (congrArg Value.bool (bne_iff_ne.2 hc)) (by kernel_rfl)
   replace hJ:K ⟨147,h.w,h.bad,[]⟩ [(4,Vp b1),(61,.bool true)] [.box b1 [Vi 0,Vi 0,Ve]] [(b,o + 1 * 3,[Vi y.k,Vi y.n,.string y.s]),(b,o + 0 * 3,[Vi x.k,Vi x.n,.string x.s])] h2 a w:=hJ.to (by kernel_rfl) rfl rfl
   refine rk' hJ false 7 [.cl 134 #[.bool true] (.agg #[Vi 2,Vi 1,Ve]),.b 0 0] [] (.f (.out .ret) [] [4] [] [.box b1 [Vi 2,Vi 1,Ve]] [.o 0,.o 1]) (ho:=And.intro (fun H sH=>qX true _) (trivial)) ?_
   clear hJ a w; intro a w hJ
   rw [e] at hc
   have hb:cmpB 14 (cmpV x.n y.n x.s.toList y.s.toList)=true:=by simp only at hc; simp [cmpB,hc]
   refine zX (hQ [.agg #[Vi 2,Vi 1,Ve]] _ [] hJ (.rcel hJ.j 0 .nil) (fJ _) rfl ?_).1
   rw [hap,if_pos he,hb]; rfl
  ·skip
   replace hJ:=hJ.rew 61 (v:=.bool (p.1 != 0)) (v':=.bool false) (congrArg Value.bool (bne_eq_false_iff_eq.2 (Decidable.not_not.1 hc))) (by kernel_rfl)
   replace hJ:K ⟨147,h.w,h.bad,[]⟩ [(4,Vp b1),(61,.bool false)] [.box b1 [Vi 0,Vi 0,Ve]] [(b,o + 1 * 3,[Vi y.k,Vi y.n,.string y.s]),(b,o + 0 * 3,[Vi x.k,Vi x.n,.string x.s])] h2 a w:=hJ.to (by kernel_rfl) rfl rfl
   refine rk' hJ false 7 [.cl 134 #[.bool false] (.agg #[Vi 2,Vi 0,Ve]),.b 0 0] [] (.f (.out .ret) [] [4] [] [.box b1 [Vi 2,Vi 0,Ve]] [.o 0,.o 1]) (ho:=And.intro (fun H sH=>qX false _) (trivial)) ?_
   clear hJ a w; intro a w hJ
   rw [e] at hc
   have hb:cmpB 14 (cmpV x.n y.n x.s.toList y.s.toList)=false:=by simp only at hc; simp [cmpB,Decidable.not_not.1 hc]
   refine zX (hQ [.agg #[Vi 2,Vi 0,Ve]] _ [] hJ (.rcel hJ.j 0 .nil) (fJ _) rfl ?_).1
   rw [hap,if_pos he,hb]; rfl
 ·skip
  have e:=hp.2 he
  refine kY hJ (t:=p.2 != 0) ((by rw [e]; rfl)) ?_
  refine rk' hJ false 11 [.cl 109 #[Vi p.2] (.agg #[Vi 5,Vi p.2,Ve]),.b 0 0] [] (.f (.out .ret) [] [4] [] [.box b1 [Vi 5,Vi p.2,Ve]] [.o 0,.o 1]) (ho:=And.intro (fun H sH=>yK _ _) (trivial)) ?_
  clear hJ a w; intro a w hJ
  refine zX (hQ [.agg #[Vi 5,Vi p.2,Ve]] _ [] hJ (.rcel hJ.j 0 .nil) (fJ _) rfl ?_).1
  rw [hap,if_neg he,e]; rfl
theorem apply_4 (x:Vl) (sl:Value) (h:Vw) (hr:RS h 3 sl (vrows [x])) (hk:∀ v∈[x],v.known):C0 Tryz.prog 113 #[.int .i64 4,sl] h (fun v _=>v=(oJ 4 [x]).val):=by
 obtain ⟨b,o,cap,rfl,c0⟩:=row0 hr
 have kx:=hk x (by simp)
 have hki:=fun H hq kd=>wQ [x] (.slice (some ⟨b,o,none⟩) 1 cap) kd H hq (by simp)
 by_cases hq:vQ [x] 2=true
 ·rw [show oJ 4 [x]=truthV (x.n == 0) from by unfold oJ; rw [if_neg (by omega),if_pos rfl,hd0,if_pos hq]]
  refine yX Tryz.func113 (c:=Tryz.f113.body.getD .skip) (N:=147) ?_
  intro hbx hbad Q hQ a w hJ
  replace hJ:K ⟨147,h.w,h.bad,[]⟩ [(0,Vi 4),(1,.slice (some ⟨b,o,none⟩) 1 cap)] [] [] h a w:=hJ.tw
  replace hJ:=hJ.fact (c0.sees (Sees.refl _))
  refine rk hJ false 72 [.own,.cl 135 #[.slice (some ⟨b,o,none⟩) 1 cap,Vi 2] (.bool true),.ix b o 1 cap 0,.f 0 1,.cl 134 #[.bool (x.n == 0)] (.agg #[Vi 2,Vi (if (x.n == 0)=true then 1 else 0),Ve]),.b 0 0] [] (.new fun b1=>.f (.out .ret) [] [] [(4,Vp b1)] [.box b1 [Vi 2,Vi (if (x.n == 0)=true then 1 else 0),Ve]] [.o 0]) (And.intro (fun H sH=>hq ▸ hki _ (hr.sees sH) 2) (And.intro ((by decide)) (And.intro (fun H sH=>qX (x.n == 0) _) (trivial)))) trivial (fun b1 _=>by kernel_rfl) ?_
  clear hJ a w; intro b1 a w hJ
  refine zX (hQ [.agg #[Vi 2,Vi (if (x.n == 0)=true then 1 else 0),Ve]] _ [] hJ (.rcel hJ.j 0 .nil) (fJ _) rfl ?_).1
  exact rfl
 ·have hq':vQ [x] 2=false:=by simpa using hq
  rw [show oJ 4 [x]=xK 9 from by unfold oJ; rw [if_neg (by omega),if_pos rfl,hd0,if_neg hq]]
  refine yX Tryz.func113 (c:=Tryz.f113.body.getD .skip) (N:=147) ?_
  intro hbx hbad Q hQ a w hJ
  replace hJ:K ⟨147,h.w,h.bad,[]⟩ [(0,Vi 4),(1,.slice (some ⟨b,o,none⟩) 1 cap)] [] [] h a w:=hJ.tw
  replace hJ:=hJ.fact (c0.sees (Sees.refl _))
  refine rk hJ false 66 [.own,.cl 135 #[.slice (some ⟨b,o,none⟩) 1 cap,Vi 2] (.bool false),.cl 109 #[Vi 9] (.agg #[Vi 5,Vi 9,Ve]),.b 0 0] [] (.new fun b1=>.f (.out .ret) [] [] [(4,Vp b1)] [.box b1 [Vi 5,Vi 9,Ve]] [.o 0]) (And.intro (fun H sH=>hq' ▸ hki _ (hr.sees sH) 2) (And.intro (fun H sH=>yK 9 _) (trivial))) trivial (fun b1 _=>by kernel_rfl) ?_
  clear hJ a w; intro b1 a w hJ
  refine zX (hQ [.agg #[Vi 5,Vi 9,Ve]] _ [] hJ (.rcel hJ.j 0 .nil) (fJ _) rfl ?_).1
  exact rfl
theorem apply_18 (x:Vl) (sl:Value) (h:Vw) (hr:RS h 3 sl (vrows [x])) (hk:∀ v∈[x],v.known):C0 Tryz.prog 113 #[.int .i64 18,sl] h (fun v _=>v=(oJ 18 [x]).val):=by
 obtain ⟨b,o,cap,rfl,c0⟩:=row0 hr
 have kx:=hk x (by simp)
 have hki:=fun H hq kd=>wQ [x] (.slice (some ⟨b,o,none⟩) 1 cap) kd H hq (by simp)
 by_cases hq:vQ [x] 3=true
 ·have hsz:=known_texts hk hq x (by simp)
  rw [show oJ 18 [x]=⟨1,(x.s.size:Int),⟨#[]⟩⟩ from by unfold oJ; rw [if_neg (by omega),if_neg (by omega),if_pos rfl,hd0,if_pos hq]]
  refine yX Tryz.func113 (c:=Tryz.f113.body.getD .skip) (N:=147) ?_
  intro hbx hbad Q hQ a w hJ
  replace hJ:K ⟨147,h.w,h.bad,[]⟩ [(0,Vi 18),(1,.slice (some ⟨b,o,none⟩) 1 cap)] [] [] h a w:=hJ.tw
  replace hJ:=hJ.fact (c0.sees (Sees.refl _))
  refine rx' hJ false 95 [.own,.cl 135 #[.slice (some ⟨b,o,none⟩) 1 cap,Vi 3] (.bool true),.ix b o 1 cap 0,.f 0 2,.b 0 0] [] (.new fun b1=>.ok (.out .ret) [] [(4,Vp b1)] [.box b1 [Vi 1,Vi (x.s.size:Int),Ve]] [(b,o + 0 * 3,[Vi x.k,Vi x.n,.string x.s])]) (ho:=And.intro (fun H sH=>hq ▸ hki _ (hr.sees sH) 3) (And.intro ((by decide)) (trivial))) (fun b1 _=>by kernel_rfl) ?_
  clear hJ a w; intro b1 a w hJ
  refine zX (hQ [.agg #[Vi 1,Vi (x.s.size:Int),Ve]] _ [] hJ (.rcel hJ.j 0 .nil) (fJ _) rfl ?_).1
  exact rfl
 ·have hq':vQ [x] 3=false:=by simpa using hq
  rw [show oJ 18 [x]=xK 9 from by unfold oJ; rw [if_neg (by omega),if_neg (by omega),if_pos rfl,hd0,if_neg hq]]
  refine yX Tryz.func113 (c:=Tryz.f113.body.getD .skip) (N:=147) ?_
  intro hbx hbad Q hQ a w hJ
  replace hJ:K ⟨147,h.w,h.bad,[]⟩ [(0,Vi 18),(1,.slice (some ⟨b,o,none⟩) 1 cap)] [] [] h a w:=hJ.tw
  replace hJ:=hJ.fact (c0.sees (Sees.refl _))
  refine rk hJ false 80 [.own,.cl 135 #[.slice (some ⟨b,o,none⟩) 1 cap,Vi 3] (.bool false),.cl 109 #[Vi 9] (.agg #[Vi 5,Vi 9,Ve]),.b 0 0] [] (.new fun b1=>.f (.out .ret) [] [] [(4,Vp b1)] [.box b1 [Vi 5,Vi 9,Ve]] [.o 0]) (And.intro (fun H sH=>hq' ▸ hki _ (hr.sees sH) 3) (And.intro (fun H sH=>yK 9 _) (trivial))) trivial (fun b1 _=>by kernel_rfl) ?_
  clear hJ a w; intro b1 a w hJ
  refine zX (hQ [.agg #[Vi 5,Vi 9,Ve]] _ [] hJ (.rcel hJ.j 0 .nil) (fJ _) rfl ?_).1
  exact rfl
theorem apply_10 (x y:Vl) (sl:Value) (h:Vw) (hr:RS h 3 sl (vrows [x,y])) (hk:∀ v∈[x,y],v.known):C0 Tryz.prog 113 #[.int .i64 10,sl] h (fun v _=>v=(oJ 10 [x,y]).val):=by
 obtain ⟨b,o,cap,rfl,c0⟩:=row0 hr
 have kx:=hk x (by simp)
 have ky:=hk y (by simp)
 have c1:Cells h b (o + 1 * 3) y.cells:=hr.cell (i:=1) rfl
 have hki:=fun H hq kd=>wQ [x,y] (.slice (some ⟨b,o,none⟩) 2 cap) kd H hq (by simp)
 by_cases hq:vQ [x,y] 3=true
 ·have hsx:=known_texts hk hq x (by simp)
  have hsy:=known_texts hk hq y (by simp)
  rw [show oJ 10 [x,y]=joinV x y from by unfold oJ; rw [if_neg (by omega),if_neg (by omega),if_neg (by omega),if_pos rfl,hd0,hd1,if_pos hq]]
  by_cases hc:40 < x.s.size + y.s.size
  ·rw [show joinV x y=xK 1 from if_pos hc]
   refine yX Tryz.func113 (c:=Tryz.f113.body.getD .skip) (N:=147) ?_
   intro hbx hbad Q hQ a w hJ
   replace hJ:K ⟨147,h.w,h.bad,[]⟩ [(0,Vi 10),(1,.slice (some ⟨b,o,none⟩) 2 cap)] [] [] h a w:=hJ.tw
   replace hJ:=hJ.fact (c0.sees (Sees.refl _))
   replace hJ:=hJ.fact (c1.sees (Sees.refl _))
   refine rk hJ false 81 [.own,.cl 135 #[.slice (some ⟨b,o,none⟩) 2 cap,Vi 3] (.bool true)] [] (.new fun b1=>.f (.code [0,0,1,1,0,1,1,1,1,1,0,1,0,1]) [.seq [1,0,1,1,0,1,1,1,1,1,0,1,0,1],.seq [1,1,1,0,1,1,1,1,1,0,1,0,1],.block 0,.seq [1,1]] [1] [(4,Vp b1)] [.box b1 [Vi 0,Vi 0,Ve]] [.o 0,.o 1]) (And.intro (fun H sH=>hq ▸ hki _ (hr.sees sH) 3) (trivial)) trivial (fun b1 _=>by kernel_rfl) ?_
   clear hJ a w; intro b1 a w hJ
   let R:Reg:=⟨⟨147,h.w,h.bad,[]⟩,[(0,90,fun gh=>.slice (some ⟨b,o,none⟩) 2 cap),(1,91,fun gh=>.pointer (some ⟨b,o + 0 * 3,none⟩)),(2,92,fun gh=>.pointer (some ⟨b,o + 0 * 3 + 2,none⟩)),(3,93,fun gh=>.string x.s),(4,94,fun gh=>Vi (x.s.size:Int)),(5,95,fun gh=>.slice (some ⟨b,o,none⟩) 2 cap),(6,96,fun gh=>.pointer (some ⟨b,o + 1 * 3,none⟩)),(7,97,fun gh=>.pointer (some ⟨b,o + 1 * 3 + 2,none⟩)),(8,98,fun gh=>.string y.s),(9,99,fun gh=>Vi (y.s.size:Int)),(10,100,fun gh=>Vi ((x.s.size:Int) + (y.s.size:Int))),(11,101,fun gh=>.bool (decide (((x.s.size:Int) + (y.s.size:Int)) > 40)))],[(1,.slice (some ⟨b,o,none⟩) 2 cap),(4,Vp b1)],[⟨some (.box b1 [Vi 0,Vi 0,Ve]),[]⟩],[],[[],[0],[0,1],[0,1,2],[0,1,2,3],[],[5],[5,6],[5,6,7],[5,6,7,8],[0,1,2,3,4,5,6,7,8,9],[0,1,2,3,4,5,6,7,8,9,10]],h⟩
   have hmono:∀ zq∈R.F,∀ zx zh zi,Sees zh zi→zq.2 zx zh→zq.2 zx zi:=lJ
   refine iY (by kernel_rfl) R hJ 12 [.pu,.cl,.pu,.lf 1 2,.pu,.pu,.cl,.pu,.lf 0 2,.pu,.cl,.pu] (by kernel_rfl) hmono (fun _ _ _=>by kernel_rfl) (fun hT hA=>?_) ?_
   ·clear hJ
    refine And.intro (pW hT hA 91 (fun gh=>.pointer (some ⟨b,o + 0 * 3,none⟩)) [0] 1 (fun gh w=>fX (t:=32) (x:=(.tmp 90)) (y:=(.const (Vi 0))) (b:=b) (off:=o) (n:=2) (cap:=cap) (k:=0) (e:=38) (kk:=3) (by kernel_rfl) (by kernel_rfl) (by kernel_rfl) ((by decide)) Tryz.underlying32 (by kernel_rfl))) ?_
    refine And.intro (pW hT hA 96 (fun gh=>.pointer (some ⟨b,o + 1 * 3,none⟩)) [5] 6 (fun gh w=>fX (t:=32) (x:=(.tmp 95)) (y:=(.const (Vi 1))) (b:=b) (off:=o) (n:=2) (cap:=cap) (k:=1) (e:=38) (kk:=3) (by kernel_rfl) (by kernel_rfl) (by kernel_rfl) ((by decide)) Tryz.underlying32 (by kernel_rfl))) ?_
    refine And.intro (pW hT hA 100 (fun gh=>Vi ((x.s.size:Int) + (y.s.size:Int))) [4,9] 10 (fun gh w=>dX (by kernel_rfl) (kJ (by omega) (by omega)))) ?_
    trivial
   clear hJ a w; intro gh h2 a w sR hJ1 hF; have s3:Sees h h2:=sR; clear sR
   have hJ:K ⟨147,h.w,h.bad,[]⟩ [(1,.slice (some ⟨b,o,none⟩) 2 cap),(4,Vp b1),(101,.bool (decide (((x.s.size:Int) + (y.s.size:Int)) > 40)))] [.box b1 [Vi 0,Vi 0,Ve]] [(b,o + 1 * 3,[Vi y.k,Vi y.n,.string y.s]),(b,o + 0 * 3,[Vi x.k,Vi x.n,.string x.s])] h2 a w:=hJ1.tw
   clear hJ1 hF hmono R
   clear gh
   refine rk' hJ false 1 [] [] (.k (.code [1,0,1,1,0,1,1,1,1,1,0,1,0,1]) [.seq [1,1,1,0,1,1,1,1,1,0,1,0,1],.block 0,.seq [1,1]] [1,4,101] []) ?_
   clear hJ a w; intro a w hJ
   refine kY hJ (t:=decide (((x.s.size:Int) + (y.s.size:Int)) > 40)) (decide_eq_true (by omega)) ?_
   refine rk' hJ false 10 [.cl 109 #[Vi 1] (.agg #[Vi 5,Vi 1,Ve]),.b 0 0] [] (.f (.out .ret) [] [4] [] [.box b1 [Vi 5,Vi 1,Ve]] [.o 0,.o 1]) (ho:=And.intro (fun H sH=>yK 1 _) (trivial)) ?_
   clear hJ a w; intro a w hJ
   refine zX (hQ [.agg #[Vi 5,Vi 1,Ve]] _ [] hJ (.rcel hJ.j 0 .nil) (fJ _) rfl ?_).1
   exact rfl
  ·rw [show joinV x y=⟨3,0,x.s++y.s⟩ from if_neg hc]
   refine yX Tryz.func113 (c:=Tryz.f113.body.getD .skip) (N:=147) ?_
   intro hbx hbad Q hQ a w hJ
   replace hJ:K ⟨147,h.w,h.bad,[]⟩ [(0,Vi 10),(1,.slice (some ⟨b,o,none⟩) 2 cap)] [] [] h a w:=hJ.tw
   replace hJ:=hJ.fact (c0.sees (Sees.refl _))
   replace hJ:=hJ.fact (c1.sees (Sees.refl _))
   refine rk hJ false 81 [.own,.cl 135 #[.slice (some ⟨b,o,none⟩) 2 cap,Vi 3] (.bool true)] [] (.new fun b1=>.f (.code [0,0,1,1,0,1,1,1,1,1,0,1,0,1]) [.seq [1,0,1,1,0,1,1,1,1,1,0,1,0,1],.seq [1,1,1,0,1,1,1,1,1,0,1,0,1],.block 0,.seq [1,1]] [1] [(4,Vp b1)] [.box b1 [Vi 0,Vi 0,Ve]] [.o 0,.o 1]) (And.intro (fun H sH=>hq ▸ hki _ (hr.sees sH) 3) (trivial)) trivial (fun b1 _=>by kernel_rfl) ?_
   clear hJ a w; intro b1 a w hJ
   let R:Reg:=⟨⟨147,h.w,h.bad,[]⟩,[(0,90,fun gh=>.slice (some ⟨b,o,none⟩) 2 cap),(1,91,fun gh=>.pointer (some ⟨b,o + 0 * 3,none⟩)),(2,92,fun gh=>.pointer (some ⟨b,o + 0 * 3 + 2,none⟩)),(3,93,fun gh=>.string x.s),(4,94,fun gh=>Vi (x.s.size:Int)),(5,95,fun gh=>.slice (some ⟨b,o,none⟩) 2 cap),(6,96,fun gh=>.pointer (some ⟨b,o + 1 * 3,none⟩)),(7,97,fun gh=>.pointer (some ⟨b,o + 1 * 3 + 2,none⟩)),(8,98,fun gh=>.string y.s),(9,99,fun gh=>Vi (y.s.size:Int)),(10,100,fun gh=>Vi ((x.s.size:Int) + (y.s.size:Int))),(11,101,fun gh=>.bool (decide (((x.s.size:Int) + (y.s.size:Int)) > 40)))],[(1,.slice (some ⟨b,o,none⟩) 2 cap),(4,Vp b1)],[⟨some (.box b1 [Vi 0,Vi 0,Ve]),[]⟩],[],[[],[0],[0,1],[0,1,2],[0,1,2,3],[],[5],[5,6],[5,6,7],[5,6,7,8],[0,1,2,3,4,5,6,7,8,9],[0,1,2,3,4,5,6,7,8,9,10]],h⟩
   have hmono:∀ zq∈R.F,∀ zx zh zi,Sees zh zi→zq.2 zx zh→zq.2 zx zi:=lJ
   refine iY (by kernel_rfl) R hJ 12 [.pu,.cl,.pu,.lf 1 2,.pu,.pu,.cl,.pu,.lf 0 2,.pu,.cl,.pu] (by kernel_rfl) hmono (fun _ _ _=>by kernel_rfl) (fun hT hA=>?_) ?_
   ·clear hJ
    refine And.intro (pW hT hA 91 (fun gh=>.pointer (some ⟨b,o + 0 * 3,none⟩)) [0] 1 (fun gh w=>fX (t:=32) (x:=(.tmp 90)) (y:=(.const (Vi 0))) (b:=b) (off:=o) (n:=2) (cap:=cap) (k:=0) (e:=38) (kk:=3) (by kernel_rfl) (by kernel_rfl) (by kernel_rfl) ((by decide)) Tryz.underlying32 (by kernel_rfl))) ?_
    refine And.intro (pW hT hA 96 (fun gh=>.pointer (some ⟨b,o + 1 * 3,none⟩)) [5] 6 (fun gh w=>fX (t:=32) (x:=(.tmp 95)) (y:=(.const (Vi 1))) (b:=b) (off:=o) (n:=2) (cap:=cap) (k:=1) (e:=38) (kk:=3) (by kernel_rfl) (by kernel_rfl) (by kernel_rfl) ((by decide)) Tryz.underlying32 (by kernel_rfl))) ?_
    refine And.intro (pW hT hA 100 (fun gh=>Vi ((x.s.size:Int) + (y.s.size:Int))) [4,9] 10 (fun gh w=>dX (by kernel_rfl) (kJ (by omega) (by omega)))) ?_
    trivial
   clear hJ a w; intro gh h2 a w sR hJ1 hF; have s3:Sees h h2:=sR; clear sR
   have hJ:K ⟨147,h.w,h.bad,[]⟩ [(1,.slice (some ⟨b,o,none⟩) 2 cap),(4,Vp b1),(101,.bool (decide (((x.s.size:Int) + (y.s.size:Int)) > 40)))] [.box b1 [Vi 0,Vi 0,Ve]] [(b,o + 1 * 3,[Vi y.k,Vi y.n,.string y.s]),(b,o + 0 * 3,[Vi x.k,Vi x.n,.string x.s])] h2 a w:=hJ1.tw
   clear hJ1 hF hmono R
   clear gh
   refine rk' hJ false 1 [] [] (.k (.code [1,0,1,1,0,1,1,1,1,1,0,1,0,1]) [.seq [1,1,1,0,1,1,1,1,1,0,1,0,1],.block 0,.seq [1,1]] [1,4,101] []) ?_
   clear hJ a w; intro a w hJ
   refine aY hJ (t:=decide (((x.s.size:Int) + (y.s.size:Int)) > 40)) (decide_eq_false (by omega)) ?_
   refine rk' hJ false 3 [] [] (.k (.code [0,1,1,1,0,1,1,1,1,1,0,1,0,1]) [.seq [1,1,1,1,0,1,1,1,1,1,0,1,0,1],.block 0,.seq [1,1]] [1,4] []) ?_
   clear hJ a w; intro a w hJ
   let R:Reg:=⟨⟨147,h.w,h.bad,[]⟩,[(0,103,fun gh=>.slice (some ⟨b,o,none⟩) 2 cap),(1,104,fun gh=>.pointer (some ⟨b,o + 0 * 3,none⟩)),(2,105,fun gh=>.pointer (some ⟨b,o + 0 * 3 + 2,none⟩)),(3,106,fun gh=>.string x.s),(4,107,fun gh=>.slice (some ⟨b,o,none⟩) 2 cap),(5,108,fun gh=>.pointer (some ⟨b,o + 1 * 3,none⟩)),(6,109,fun gh=>.pointer (some ⟨b,o + 1 * 3 + 2,none⟩)),(7,110,fun gh=>.string y.s),(8,111,fun gh=>.string (x.s++y.s)),(9,112,fun gh=>.agg #[Vi 3,Vi 0,.string (x.s++y.s)])],[(1,.slice (some ⟨b,o,none⟩) 2 cap),(4,Vp b1)],[⟨some (.box b1 [Vi 0,Vi 0,Ve]),[(10,fun gh=>.box b1 [Vi 3,Vi 0,.string (x.s++y.s)])]⟩],[],[[],[0],[0,1],[0,1,2],[],[4],[4,5],[4,5,6],[0,1,2,3,4,5,6,7],[0,1,2,3,4,5,6,7,8],[0,1,2,3,4,5,6,7,8,9]],h2⟩
   have hmono:∀ zq∈R.F,∀ zx zh zi,Sees zh zi→zq.2 zx zh→zq.2 zx zi:=lJ
   refine iY (by kernel_rfl) R hJ 11 [.pu,.cl,.pu,.lf 1 2,.pu,.cl,.pu,.lf 0 2,.cl,.pu,.st 0 0] (by kernel_rfl) hmono (fun _ _ _=>by kernel_rfl) (fun hT hA=>?_) ?_
   ·clear hJ
    refine And.intro (pW hT hA 104 (fun gh=>.pointer (some ⟨b,o + 0 * 3,none⟩)) [0] 1 (fun gh w=>fX (t:=32) (x:=(.tmp 103)) (y:=(.const (Vi 0))) (b:=b) (off:=o) (n:=2) (cap:=cap) (k:=0) (e:=38) (kk:=3) (by kernel_rfl) (by kernel_rfl) (by kernel_rfl) ((by decide)) Tryz.underlying32 (by kernel_rfl))) ?_
    refine And.intro (pW hT hA 108 (fun gh=>.pointer (some ⟨b,o + 1 * 3,none⟩)) [4] 5 (fun gh w=>fX (t:=32) (x:=(.tmp 107)) (y:=(.const (Vi 1))) (b:=b) (off:=o) (n:=2) (cap:=cap) (k:=1) (e:=38) (kk:=3) (by kernel_rfl) (by kernel_rfl) (by kernel_rfl) ((by decide)) Tryz.underlying32 (by kernel_rfl))) ?_
    refine And.intro (pW hT hA 111 (fun gh=>.string (x.s++y.s)) [3,7] 8 (fun gh w=>run_bin (va:=.string x.s) (vb:=.string y.s) rfl (by kernel_rfl) (by kernel_rfl) (by kernel_rfl) (run_cat (by omega)))) ?_
    trivial
   clear hJ a w; intro gh h4 a w sR hJ1 hF; have s5:Sees h2 h4:=sR; clear sR
   have hJ:K ⟨147,h.w,h.bad,[]⟩ [(4,Vp b1)] [.box b1 [Vi 3,Vi 0,.string (x.s++y.s)]] [(b,o + 1 * 3,[Vi y.k,Vi y.n,.string y.s]),(b,o + 0 * 3,[Vi x.k,Vi x.n,.string x.s])] h4 a w:=hJ1.tw
   clear hJ1 hF hmono R
   clear gh
   refine rk' hJ false 4 [] [] (.k (.out .ret) [] [4] []) ?_
   clear hJ a w; intro a w hJ
   refine zX (hQ [.agg #[Vi 3,Vi 0,.string (x.s++y.s)]] _ [] hJ (.rcel hJ.j 0 .nil) (fJ _) rfl ?_).1
   exact rfl
 ·have hq':vQ [x,y] 3=false:=by simpa using hq
  rw [show oJ 10 [x,y]=xK 9 from by unfold oJ; rw [if_neg (by omega),if_neg (by omega),if_neg (by omega),if_pos rfl,hd0,hd1,if_neg hq]]
  refine yX Tryz.func113 (c:=Tryz.f113.body.getD .skip) (N:=147) ?_
  intro hbx hbad Q hQ a w hJ
  replace hJ:K ⟨147,h.w,h.bad,[]⟩ [(0,Vi 10),(1,.slice (some ⟨b,o,none⟩) 2 cap)] [] [] h a w:=hJ.tw
  replace hJ:=hJ.fact (c0.sees (Sees.refl _))
  replace hJ:=hJ.fact (c1.sees (Sees.refl _))
  refine rx' hJ false 77 [.own,.cl 135 #[.slice (some ⟨b,o,none⟩) 2 cap,Vi 3] (.bool false),.cl 109 #[Vi 9] (.agg #[Vi 5,Vi 9,Ve]),.b 0 0] [] (.new fun b1=>.ok (.out .ret) [] [(4,Vp b1)] [.box b1 [Vi 5,Vi 9,Ve]] [(b,o + 1 * 3,[Vi y.k,Vi y.n,.string y.s]),(b,o + 0 * 3,[Vi x.k,Vi x.n,.string x.s])]) (ho:=And.intro (fun H sH=>hq' ▸ hki _ (hr.sees sH) 3) (And.intro (fun H sH=>yK 9 _) (trivial))) (fun b1 _=>by kernel_rfl) ?_
  clear hJ a w; intro b1 a w hJ
  refine zX (hQ [.agg #[Vi 5,Vi 9,Ve]] _ [] hJ (.rcel hJ.j 0 .nil) (fJ _) rfl ?_).1
  exact rfl
theorem apply_3 (x:Vl) (sl:Value) (h:Vw) (hr:RS h 3 sl (vrows [x])) (hk:∀ v∈[x],v.known):C0 Tryz.prog 113 #[.int .i64 3,sl] h (fun v _=>v=(oJ 3 [x]).val):=by
 obtain ⟨b,o,cap,rfl,c0⟩:=row0 hr
 have kx:=hk x (by simp)
 have hki:=fun H hq=>wQ [x] (.slice (some ⟨b,o,none⟩) 1 cap) 1 H hq (by simp)
 have hap:oJ 3 [x]=if vQ [x] 1=true then nrV 9 0 x.n else xK 9:=by unfold oJ; rw [if_neg (by omega),if_neg (by omega),if_neg (by omega),if_neg (by omega),if_pos rfl,hd0]
 have hnr:nrV 9 0 x.n=if (oV 9 0 x.n).2=0 then ⟨1,(oV 9 0 x.n).1,⟨#[]⟩⟩ else xK (oV 9 0 x.n).2:=rfl
 rw [hnr] at hap
 have hl:=fun q=>xQ (l:=[x]) hk q
 have hn:=fun (q:vQ [x] 1=true) H=>num_any 9 0 x.n H (by unfold Lim; omega) (hl q x (by simp))
 generalize oV 9 0 x.n=r at *
 generalize vQ [x] 1=kv at *
 refine yX Tryz.func113 (c:=Tryz.f113.body.getD .skip) (N:=147) ?_
 intro hbx hbad Q hQ a w hJ
 replace hJ:K ⟨147,h.w,h.bad,[]⟩ [(0,Vi 3),(1,.slice (some ⟨b,o,none⟩) 1 cap)] [] [] h a w:=hJ.tw
 replace hJ:=hJ.fact (c0.sees (Sees.refl _))
 refine rk hJ false 72 [.own,.cl 135 #[.slice (some ⟨b,o,none⟩) 1 cap,Vi 1] (.bool kv)] [] (.new fun b1=>.f (.code [1,0,1,1]) [.seq [1,1,1]] [0,1] [(4,Vp b1),(115,.bool (!kv))] [.box b1 [Vi 0,Vi 0,Ve]] [.o 0]) (And.intro (fun H sH=>hki _ (hr.sees sH)) (trivial)) trivial (fun b1 _=>by kernel_rfl) ?_
 clear hJ a w; intro b1 a w hJ
 by_cases hq:kv=true
 ·skip
  refine aY hJ (t := !kv) ((by rw [hq]; rfl)) ?_
  refine rk' hJ false 4 [] [] (.k (.ops [0,1,1,1] 0) [.seq [1,1,1,1]] [0,1,4] []) ?_
  clear hJ a w; intro a w hJ
  refine x_mapmake hJ 117 (by kernel_rfl) (by kernel_rfl) ?_; clear hJ a w; intro b2 a w hJ
  refine gY hJ 0 (b:=b2) (t:=180) (mo:=(.tmp 117)) (ko:=(.const (Vi 5))) (vo:=(.func 136)) (es:=[]) (kt:=3) (et:=179) (td:=.int .i64) (key:=Vi 5) (v:=.func (.func 136) #[] #[]) Tryz.underlying180 Tryz.underlying3 ?_; clear hJ a w; intro a w hJ
  replace hJ:K ⟨147,h.w,h.bad,[]⟩ [(0,Vi 3),(1,.slice (some ⟨b,o,none⟩) 1 cap),(4,Vp b1),(117,.map (some b2))] [.map b2 ([(Vi 5,.func (.func 136) #[] #[])]),.box b1 [Vi 0,Vi 0,Ve]] [(b,o + 0 * 3,[Vi x.k,Vi x.n,.string x.s])] h a w:=hJ.tw
  refine gY hJ 0 (b:=b2) (t:=180) (mo:=(.tmp 117)) (ko:=(.const (Vi 6))) (vo:=(.func 137)) (es:=[(Vi 5,.func (.func 136) #[] #[])]) (kt:=3) (et:=179) (td:=.int .i64) (key:=Vi 6) (v:=.func (.func 137) #[] #[]) Tryz.underlying180 Tryz.underlying3 ?_; clear hJ a w; intro a w hJ
  replace hJ:K ⟨147,h.w,h.bad,[]⟩ [(0,Vi 3),(1,.slice (some ⟨b,o,none⟩) 1 cap),(4,Vp b1),(117,.map (some b2))] [.map b2 ([(Vi 5,.func (.func 136) #[] #[]),(Vi 6,.func (.func 137) #[] #[])]),.box b1 [Vi 0,Vi 0,Ve]] [(b,o + 0 * 3,[Vi x.k,Vi x.n,.string x.s])] h a w:=hJ.tw
  refine gY hJ 0 (b:=b2) (t:=180) (mo:=(.tmp 117)) (ko:=(.const (Vi 7))) (vo:=(.func 138)) (es:=[(Vi 5,.func (.func 136) #[] #[]),(Vi 6,.func (.func 137) #[] #[])]) (kt:=3) (et:=179) (td:=.int .i64) (key:=Vi 7) (v:=.func (.func 138) #[] #[]) Tryz.underlying180 Tryz.underlying3 ?_; clear hJ a w; intro a w hJ
  replace hJ:K ⟨147,h.w,h.bad,[]⟩ [(0,Vi 3),(1,.slice (some ⟨b,o,none⟩) 1 cap),(4,Vp b1),(117,.map (some b2))] [.map b2 ([(Vi 5,.func (.func 136) #[] #[]),(Vi 6,.func (.func 137) #[] #[]),(Vi 7,.func (.func 138) #[] #[])]),.box b1 [Vi 0,Vi 0,Ve]] [(b,o + 0 * 3,[Vi x.k,Vi x.n,.string x.s])] h a w:=hJ.tw
  refine gY hJ 0 (b:=b2) (t:=180) (mo:=(.tmp 117)) (ko:=(.const (Vi 8))) (vo:=(.func 139)) (es:=[(Vi 5,.func (.func 136) #[] #[]),(Vi 6,.func (.func 137) #[] #[]),(Vi 7,.func (.func 138) #[] #[])]) (kt:=3) (et:=179) (td:=.int .i64) (key:=Vi 8) (v:=.func (.func 139) #[] #[]) Tryz.underlying180 Tryz.underlying3 ?_; clear hJ a w; intro a w hJ
  replace hJ:K ⟨147,h.w,h.bad,[]⟩ [(0,Vi 3),(1,.slice (some ⟨b,o,none⟩) 1 cap),(4,Vp b1),(117,.map (some b2))] [.map b2 ([(Vi 5,.func (.func 136) #[] #[]),(Vi 6,.func (.func 137) #[] #[]),(Vi 7,.func (.func 138) #[] #[]),(Vi 8,.func (.func 139) #[] #[])]),.box b1 [Vi 0,Vi 0,Ve]] [(b,o + 0 * 3,[Vi x.k,Vi x.n,.string x.s])] h a w:=hJ.tw
  refine gY hJ 0 (b:=b2) (t:=180) (mo:=(.tmp 117)) (ko:=(.const (Vi 9))) (vo:=(.func 140)) (es:=[(Vi 5,.func (.func 136) #[] #[]),(Vi 6,.func (.func 137) #[] #[]),(Vi 7,.func (.func 138) #[] #[]),(Vi 8,.func (.func 139) #[] #[])]) (kt:=3) (et:=179) (td:=.int .i64) (key:=Vi 9) (v:=.func (.func 140) #[] #[]) Tryz.underlying180 Tryz.underlying3 ?_; clear hJ a w; intro a w hJ
  replace hJ:K ⟨147,h.w,h.bad,[]⟩ [(0,Vi 3),(1,.slice (some ⟨b,o,none⟩) 1 cap),(4,Vp b1),(117,.map (some b2))] [.map b2 ([(Vi 5,.func (.func 136) #[] #[]),(Vi 6,.func (.func 137) #[] #[]),(Vi 7,.func (.func 138) #[] #[]),(Vi 8,.func (.func 139) #[] #[]),(Vi 9,.func (.func 140) #[] #[])]),.box b1 [Vi 0,Vi 0,Ve]] [(b,o + 0 * 3,[Vi x.k,Vi x.n,.string x.s])] h a w:=hJ.tw
  refine rk' hJ false 2 [] [] (.k (.ops [0,1,1,1] 8) [.seq [1,1,1,1]] [0,1,4] [(118,.map (some b2)),(119,Vi 3)]) ?_
  clear hJ a w; intro a w hJ
  refine fY hJ 120 (b:=b2) (t:=180) (mo:=(.tmp 118)) (ko:=(.tmp 119)) (c:=false) (es:=[(Vi 5,.func (.func 136) #[] #[]),(Vi 6,.func (.func 137) #[] #[]),(Vi 7,.func (.func 138) #[] #[]),(Vi 8,.func (.func 139) #[] #[]),(Vi 9,.func (.func 140) #[] #[])]) (kt:=3) (et:=179) (td:=.int .i64) (key:=Vi 3) (z:=.nilFunc) (v:=.nilFunc) (r:=none) (hJ.map 0 (by kernel_rfl)) Tryz.underlying180 Tryz.underlying3 (by kernel_rfl) ?_; clear hJ a w; intro a w hJ
  refine rk' hJ false 4 [] [] (.k (.code [0,1,1,1,1]) [.seq [1,1,1,1,1]] [0,1,4] [(7,.nilFunc)]) ?_
  clear hJ a w; intro a w hJ
  let R:Reg:=⟨⟨147,h.w,h.bad,[]⟩,[(0,121,fun gh=>.slice (some ⟨b,o,none⟩) 1 cap),(1,122,fun gh=>.pointer (some ⟨b,o + 0 * 3,none⟩)),(2,123,fun gh=>.pointer (some ⟨b,o + 0 * 3 + 1,none⟩)),(3,124,fun gh=>Vi x.n),(4,125,fun gh=>.slice (some ⟨b,o,none⟩) 1 cap),(5,126,fun gh=>.slice (some ⟨b,o,none⟩) 1 cap),(6,127,fun gh=>Vi 1),(7,128,fun gh=>Vi 0),(8,129,fun gh=>.pointer (some ⟨b,o + 0 * 3,none⟩)),(9,130,fun gh=>.pointer (some ⟨b,o + 0 * 3 + 1,none⟩)),(10,131,fun gh=>Vi x.n),(11,8,fun gh=>Vi x.n),(12,9,fun gh=>Vi x.n)],[(0,Vi 3),(1,.slice (some ⟨b,o,none⟩) 1 cap),(4,Vp b1),(7,.nilFunc)],[⟨some (.map b2 ([(Vi 5,.func (.func 136) #[] #[]),(Vi 6,.func (.func 137) #[] #[]),(Vi 7,.func (.func 138) #[] #[]),(Vi 8,.func (.func 139) #[] #[]),(Vi 9,.func (.func 140) #[] #[])])),[]⟩,⟨some (.box b1 [Vi 0,Vi 0,Ve]),[]⟩],[],[[],[0],[0,1],[0,1,2],[],[],[5],[5,6],[4,5,6,7],[4,5,6,7,8],[4,5,6,7,8,9],[0,1,2,3],[0,1,2,3,4,5,6,7,8,9,10,11]],h⟩
  have hmono:∀ zq∈R.F,∀ zx zh zi,Sees zh zi→zq.2 zx zh→zq.2 zx zi:=lJ
  refine iY (by kernel_rfl) R hJ 13 [.pu,.cl,.pu,.lf 0 1,.pu,.pu,.pu,.pu,.cl,.pu,.lf 0 1,.pu,.pu] (by kernel_rfl) hmono (fun _ _ _=>by kernel_rfl) (fun hT hA=>?_) ?_
  ·clear hJ
   refine And.intro (pW hT hA 122 (fun gh=>.pointer (some ⟨b,o + 0 * 3,none⟩)) [0] 1 (fun gh w=>fX (t:=32) (x:=(.tmp 121)) (y:=(.const (Vi 0))) (b:=b) (off:=o) (n:=1) (cap:=cap) (k:=0) (e:=38) (kk:=3) (by kernel_rfl) (by kernel_rfl) (by kernel_rfl) ((by decide)) Tryz.underlying32 (by kernel_rfl))) ?_
   refine And.intro (pW hT hA 129 (fun gh=>.pointer (some ⟨b,o + 0 * 3,none⟩)) [4,7] 8 (fun gh w=>fX (t:=32) (x:=(.tmp 125)) (y:=(.tmp 128)) (b:=b) (off:=o) (n:=1) (cap:=cap) (k:=0) (e:=38) (kk:=3) (by kernel_rfl) (by kernel_rfl) (by kernel_rfl) ((by decide)) Tryz.underlying32 (by kernel_rfl))) ?_
   trivial
  clear hJ a w; intro gh h3 a w sR hJ1 hF; have s4:Sees h h3:=sR; clear sR
  have hJ:K ⟨147,h.w,h.bad,[]⟩ [(0,Vi 3),(4,Vp b1),(7,.nilFunc),(8,Vi x.n),(9,Vi x.n)] [.map b2 ([(Vi 5,.func (.func 136) #[] #[]),(Vi 6,.func (.func 137) #[] #[]),(Vi 7,.func (.func 138) #[] #[]),(Vi 8,.func (.func 139) #[] #[]),(Vi 9,.func (.func 140) #[] #[])]),.box b1 [Vi 0,Vi 0,Ve]] [(b,o + 0 * 3,[Vi x.k,Vi x.n,.string x.s])] h3 a w:=hJ1.tw
  clear hJ1 hF hmono R
  clear gh
  refine rk' hJ false 34 [.cl 140 #[Vi 0,Vi x.n] (.tuple #[Vi r.1,Vi r.2])] [] (.k (.code [1,0,1,1,1,1,1,1,1]) [.seq [1,1,1,1,1,1,1,1]] [4] [(10,Vi r.1),(11,Vi r.2),(142,.bool (r.2 != 0))]) (ho:=And.intro (fun H sH=>hn hq _) (trivial)) ?_
  clear hJ a w; intro a w hJ
  by_cases hc:r.2=0
  ·refine aY hJ (t:=r.2 != 0) (bne_eq_false_iff_eq.2 hc) ?_
   refine rk' hJ false 10 [.b 1 0] [] (.f (.out .ret) [] [4] [] [.map b2 ([(Vi 5,.func (.func 136) #[] #[]),(Vi 6,.func (.func 137) #[] #[]),(Vi 7,.func (.func 138) #[] #[]),(Vi 8,.func (.func 139) #[] #[]),(Vi 9,.func (.func 140) #[] #[])]),.box b1 [Vi 1,Vi r.1,Ve]] [.o 0]) ?_
   clear hJ a w; intro a w hJ
   refine zX (hQ [.agg #[Vi 1,Vi r.1,Ve]] _ [] hJ (.rcel hJ.j 1 .nil) (fJ _) rfl ?_).1
   rw [hap,if_pos hq,if_pos hc]; rfl
  ·skip
   refine kY hJ (t:=r.2 != 0) (bne_iff_ne.2 hc) ?_
   refine rk' hJ false 9 [.cl 109 #[Vi r.2] (.agg #[Vi 5,Vi r.2,Ve]),.b 1 0] [] (.f (.out .ret) [] [4] [] [.map b2 ([(Vi 5,.func (.func 136) #[] #[]),(Vi 6,.func (.func 137) #[] #[]),(Vi 7,.func (.func 138) #[] #[]),(Vi 8,.func (.func 139) #[] #[]),(Vi 9,.func (.func 140) #[] #[])]),.box b1 [Vi 5,Vi r.2,Ve]] [.o 0]) (ho:=And.intro (fun H sH=>yK _ _) (trivial)) ?_
   clear hJ a w; intro a w hJ
   refine zX (hQ [.agg #[Vi 5,Vi r.2,Ve]] _ [] hJ (.rcel hJ.j 1 .nil) (fJ _) rfl ?_).1
   rw [hap,if_pos hq,if_neg hc]; rfl
 ·skip
  refine kY hJ (t := !kv) ((by rw [show kv=false from by simpa using hq]; rfl)) ?_
  refine rk' hJ false 8 [.cl 109 #[Vi 9] (.agg #[Vi 5,Vi 9,Ve]),.b 0 0] [] (.f (.out .ret) [] [4] [] [.box b1 [Vi 5,Vi 9,Ve]] [.o 0]) (ho:=And.intro (fun H sH=>yK 9 _) (trivial)) ?_
  clear hJ a w; intro a w hJ
  refine zX (hQ [.agg #[Vi 5,Vi 9,Ve]] _ [] hJ (.rcel hJ.j 0 .nil) (fJ _) rfl ?_).1
  rw [hap,if_neg hq]; rfl
theorem apply_5 (x y:Vl) (sl:Value) (h:Vw) (hr:RS h 3 sl (vrows [x,y])) (hk:∀ v∈[x,y],v.known):C0 Tryz.prog 113 #[.int .i64 5,sl] h (fun v _=>v=(oJ 5 [x,y]).val):=by
 obtain ⟨b,o,cap,rfl,c0⟩:=row0 hr
 have kx:=hk x (by simp)
 have ky:=hk y (by simp)
 have c1:Cells h b (o + 1 * 3) y.cells:=hr.cell (i:=1) rfl
 have hki:=fun H hq=>wQ [x,y] (.slice (some ⟨b,o,none⟩) 2 cap) 1 H hq (by simp)
 have hap:oJ 5 [x,y]=if vQ [x,y] 1=true then nrV 5 x.n y.n else xK 9:=by unfold oJ; rw [if_neg (by omega),if_neg (by omega),if_neg (by omega),if_neg (by omega),if_neg (by omega),hd0,hd1]
 have hnr:nrV 5 x.n y.n=if (oV 5 x.n y.n).2=0 then ⟨1,(oV 5 x.n y.n).1,⟨#[]⟩⟩ else xK (oV 5 x.n y.n).2:=rfl
 rw [hnr] at hap
 have hl:=fun q=>xQ (l:=[x,y]) hk q
 have hn:=fun (q:vQ [x,y] 1=true) H=>num_any 5 x.n y.n H (hl q x (by simp)) (hl q y (by simp))
 generalize oV 5 x.n y.n=r at *
 generalize vQ [x,y] 1=kv at *
 refine yX Tryz.func113 (c:=Tryz.f113.body.getD .skip) (N:=147) ?_
 intro hbx hbad Q hQ a w hJ
 replace hJ:K ⟨147,h.w,h.bad,[]⟩ [(0,Vi 5),(1,.slice (some ⟨b,o,none⟩) 2 cap)] [] [] h a w:=hJ.tw
 replace hJ:=hJ.fact (c0.sees (Sees.refl _))
 replace hJ:=hJ.fact (c1.sees (Sees.refl _))
 refine rx' hJ false 72 [.own,.cl 135 #[.slice (some ⟨b,o,none⟩) 2 cap,Vi 1] (.bool kv)] [] (.new fun b1=>.ok (.code [1,0,1,1]) [.seq [1,1,1]] [(0,Vi 5),(1,.slice (some ⟨b,o,none⟩) 2 cap),(4,Vp b1),(115,.bool (!kv))] [.box b1 [Vi 0,Vi 0,Ve]] [(b,o + 1 * 3,[Vi y.k,Vi y.n,.string y.s]),(b,o + 0 * 3,[Vi x.k,Vi x.n,.string x.s])]) (ho:=And.intro (fun H sH=>hki _ (hr.sees sH)) (trivial)) (fun b1 _=>by kernel_rfl) ?_
 clear hJ a w; intro b1 a w hJ
 by_cases hq:kv=true
 ·skip
  refine aY hJ (t := !kv) ((by rw [hq]; rfl)) ?_
  refine rk' hJ false 4 [] [] (.k (.ops [0,1,1,1] 0) [.seq [1,1,1,1]] [0,1,4] []) ?_
  clear hJ a w; intro a w hJ
  refine x_mapmake hJ 117 (by kernel_rfl) (by kernel_rfl) ?_; clear hJ a w; intro b2 a w hJ
  refine gY hJ 0 (b:=b2) (t:=180) (mo:=(.tmp 117)) (ko:=(.const (Vi 5))) (vo:=(.func 136)) (es:=[]) (kt:=3) (et:=179) (td:=.int .i64) (key:=Vi 5) (v:=.func (.func 136) #[] #[]) Tryz.underlying180 Tryz.underlying3 ?_; clear hJ a w; intro a w hJ
  replace hJ:K ⟨147,h.w,h.bad,[]⟩ [(0,Vi 5),(1,.slice (some ⟨b,o,none⟩) 2 cap),(4,Vp b1),(117,.map (some b2))] [.map b2 ([(Vi 5,.func (.func 136) #[] #[])]),.box b1 [Vi 0,Vi 0,Ve]] [(b,o + 1 * 3,[Vi y.k,Vi y.n,.string y.s]),(b,o + 0 * 3,[Vi x.k,Vi x.n,.string x.s])] h a w:=hJ.tw
  refine gY hJ 0 (b:=b2) (t:=180) (mo:=(.tmp 117)) (ko:=(.const (Vi 6))) (vo:=(.func 137)) (es:=[(Vi 5,.func (.func 136) #[] #[])]) (kt:=3) (et:=179) (td:=.int .i64) (key:=Vi 6) (v:=.func (.func 137) #[] #[]) Tryz.underlying180 Tryz.underlying3 ?_; clear hJ a w; intro a w hJ
  replace hJ:K ⟨147,h.w,h.bad,[]⟩ [(0,Vi 5),(1,.slice (some ⟨b,o,none⟩) 2 cap),(4,Vp b1),(117,.map (some b2))] [.map b2 ([(Vi 5,.func (.func 136) #[] #[]),(Vi 6,.func (.func 137) #[] #[])]),.box b1 [Vi 0,Vi 0,Ve]] [(b,o + 1 * 3,[Vi y.k,Vi y.n,.string y.s]),(b,o + 0 * 3,[Vi x.k,Vi x.n,.string x.s])] h a w:=hJ.tw
  refine gY hJ 0 (b:=b2) (t:=180) (mo:=(.tmp 117)) (ko:=(.const (Vi 7))) (vo:=(.func 138)) (es:=[(Vi 5,.func (.func 136) #[] #[]),(Vi 6,.func (.func 137) #[] #[])]) (kt:=3) (et:=179) (td:=.int .i64) (key:=Vi 7) (v:=.func (.func 138) #[] #[]) Tryz.underlying180 Tryz.underlying3 ?_; clear hJ a w; intro a w hJ
  replace hJ:K ⟨147,h.w,h.bad,[]⟩ [(0,Vi 5),(1,.slice (some ⟨b,o,none⟩) 2 cap),(4,Vp b1),(117,.map (some b2))] [.map b2 ([(Vi 5,.func (.func 136) #[] #[]),(Vi 6,.func (.func 137) #[] #[]),(Vi 7,.func (.func 138) #[] #[])]),.box b1 [Vi 0,Vi 0,Ve]] [(b,o + 1 * 3,[Vi y.k,Vi y.n,.string y.s]),(b,o + 0 * 3,[Vi x.k,Vi x.n,.string x.s])] h a w:=hJ.tw
  refine gY hJ 0 (b:=b2) (t:=180) (mo:=(.tmp 117)) (ko:=(.const (Vi 8))) (vo:=(.func 139)) (es:=[(Vi 5,.func (.func 136) #[] #[]),(Vi 6,.func (.func 137) #[] #[]),(Vi 7,.func (.func 138) #[] #[])]) (kt:=3) (et:=179) (td:=.int .i64) (key:=Vi 8) (v:=.func (.func 139) #[] #[]) Tryz.underlying180 Tryz.underlying3 ?_; clear hJ a w; intro a w hJ
  replace hJ:K ⟨147,h.w,h.bad,[]⟩ [(0,Vi 5),(1,.slice (some ⟨b,o,none⟩) 2 cap),(4,Vp b1),(117,.map (some b2))] [.map b2 ([(Vi 5,.func (.func 136) #[] #[]),(Vi 6,.func (.func 137) #[] #[]),(Vi 7,.func (.func 138) #[] #[]),(Vi 8,.func (.func 139) #[] #[])]),.box b1 [Vi 0,Vi 0,Ve]] [(b,o + 1 * 3,[Vi y.k,Vi y.n,.string y.s]),(b,o + 0 * 3,[Vi x.k,Vi x.n,.string x.s])] h a w:=hJ.tw
  refine gY hJ 0 (b:=b2) (t:=180) (mo:=(.tmp 117)) (ko:=(.const (Vi 9))) (vo:=(.func 140)) (es:=[(Vi 5,.func (.func 136) #[] #[]),(Vi 6,.func (.func 137) #[] #[]),(Vi 7,.func (.func 138) #[] #[]),(Vi 8,.func (.func 139) #[] #[])]) (kt:=3) (et:=179) (td:=.int .i64) (key:=Vi 9) (v:=.func (.func 140) #[] #[]) Tryz.underlying180 Tryz.underlying3 ?_; clear hJ a w; intro a w hJ
  replace hJ:K ⟨147,h.w,h.bad,[]⟩ [(0,Vi 5),(1,.slice (some ⟨b,o,none⟩) 2 cap),(4,Vp b1),(117,.map (some b2))] [.map b2 ([(Vi 5,.func (.func 136) #[] #[]),(Vi 6,.func (.func 137) #[] #[]),(Vi 7,.func (.func 138) #[] #[]),(Vi 8,.func (.func 139) #[] #[]),(Vi 9,.func (.func 140) #[] #[])]),.box b1 [Vi 0,Vi 0,Ve]] [(b,o + 1 * 3,[Vi y.k,Vi y.n,.string y.s]),(b,o + 0 * 3,[Vi x.k,Vi x.n,.string x.s])] h a w:=hJ.tw
  refine rk' hJ false 2 [] [] (.k (.ops [0,1,1,1] 8) [.seq [1,1,1,1]] [0,1,4] [(118,.map (some b2)),(119,Vi 5)]) ?_
  clear hJ a w; intro a w hJ
  refine fY hJ 120 (b:=b2) (t:=180) (mo:=(.tmp 118)) (ko:=(.tmp 119)) (c:=false) (es:=[(Vi 5,.func (.func 136) #[] #[]),(Vi 6,.func (.func 137) #[] #[]),(Vi 7,.func (.func 138) #[] #[]),(Vi 8,.func (.func 139) #[] #[]),(Vi 9,.func (.func 140) #[] #[])]) (kt:=3) (et:=179) (td:=.int .i64) (key:=Vi 5) (z:=.nilFunc) (v:=.func (.func 136) #[] #[]) (r:=some (0,.func (.func 136) #[] #[])) (hJ.map 0 (by kernel_rfl)) Tryz.underlying180 Tryz.underlying3 (by kernel_rfl) ?_; clear hJ a w; intro a w hJ
  refine rk' hJ false 4 [] [] (.k (.code [0,1,1,1,1]) [.seq [1,1,1,1,1]] [0,1,4] [(7,.func (.func 136) #[] #[])]) ?_
  clear hJ a w; intro a w hJ
  let R:Reg:=⟨⟨147,h.w,h.bad,[]⟩,[(0,121,fun gh=>.slice (some ⟨b,o,none⟩) 2 cap),(1,122,fun gh=>.pointer (some ⟨b,o + 0 * 3,none⟩)),(2,123,fun gh=>.pointer (some ⟨b,o + 0 * 3 + 1,none⟩)),(3,124,fun gh=>Vi x.n),(4,125,fun gh=>.slice (some ⟨b,o,none⟩) 2 cap),(5,126,fun gh=>.slice (some ⟨b,o,none⟩) 2 cap),(6,127,fun gh=>Vi 2),(7,128,fun gh=>Vi 1),(8,129,fun gh=>.pointer (some ⟨b,o + 1 * 3,none⟩)),(9,130,fun gh=>.pointer (some ⟨b,o + 1 * 3 + 1,none⟩)),(10,131,fun gh=>Vi y.n),(11,8,fun gh=>Vi x.n),(12,9,fun gh=>Vi y.n)],[(0,Vi 5),(1,.slice (some ⟨b,o,none⟩) 2 cap),(4,Vp b1),(7,.func (.func 136) #[] #[])],[⟨some (.map b2 ([(Vi 5,.func (.func 136) #[] #[]),(Vi 6,.func (.func 137) #[] #[]),(Vi 7,.func (.func 138) #[] #[]),(Vi 8,.func (.func 139) #[] #[]),(Vi 9,.func (.func 140) #[] #[])])),[]⟩,⟨some (.box b1 [Vi 0,Vi 0,Ve]),[]⟩],[],[[],[0],[0,1],[0,1,2],[],[],[5],[5,6],[4,5,6,7],[4,5,6,7,8],[4,5,6,7,8,9],[0,1,2,3],[0,1,2,3,4,5,6,7,8,9,10,11]],h⟩
  have hmono:∀ zq∈R.F,∀ zx zh zi,Sees zh zi→zq.2 zx zh→zq.2 zx zi:=lJ
  refine iY (by kernel_rfl) R hJ 13 [.pu,.cl,.pu,.lf 1 1,.pu,.pu,.pu,.pu,.cl,.pu,.lf 0 1,.pu,.pu] (by kernel_rfl) hmono (fun _ _ _=>by kernel_rfl) (fun hT hA=>?_) ?_
  ·clear hJ
   refine And.intro (pW hT hA 122 (fun gh=>.pointer (some ⟨b,o + 0 * 3,none⟩)) [0] 1 (fun gh w=>fX (t:=32) (x:=(.tmp 121)) (y:=(.const (Vi 0))) (b:=b) (off:=o) (n:=2) (cap:=cap) (k:=0) (e:=38) (kk:=3) (by kernel_rfl) (by kernel_rfl) (by kernel_rfl) ((by decide)) Tryz.underlying32 (by kernel_rfl))) ?_
   refine And.intro (pW hT hA 129 (fun gh=>.pointer (some ⟨b,o + 1 * 3,none⟩)) [4,7] 8 (fun gh w=>fX (t:=32) (x:=(.tmp 125)) (y:=(.tmp 128)) (b:=b) (off:=o) (n:=2) (cap:=cap) (k:=1) (e:=38) (kk:=3) (by kernel_rfl) (by kernel_rfl) (by kernel_rfl) ((by decide)) Tryz.underlying32 (by kernel_rfl))) ?_
   trivial
  clear hJ a w; intro gh h3 a w sR hJ1 hF; have s4:Sees h h3:=sR; clear sR
  have hJ:K ⟨147,h.w,h.bad,[]⟩ [(0,Vi 5),(4,Vp b1),(7,.func (.func 136) #[] #[]),(8,Vi x.n),(9,Vi y.n)] [.map b2 ([(Vi 5,.func (.func 136) #[] #[]),(Vi 6,.func (.func 137) #[] #[]),(Vi 7,.func (.func 138) #[] #[]),(Vi 8,.func (.func 139) #[] #[]),(Vi 9,.func (.func 140) #[] #[])]),.box b1 [Vi 0,Vi 0,Ve]] [(b,o + 1 * 3,[Vi y.k,Vi y.n,.string y.s]),(b,o + 0 * 3,[Vi x.k,Vi x.n,.string x.s])] h3 a w:=hJ1.tw
  clear hJ1 hF hmono R
  clear gh
  refine rk' hJ false 31 [.cl 136 #[Vi x.n,Vi y.n] (.tuple #[Vi r.1,Vi r.2])] [] (.k (.code [1,0,1,1,1,1,1,1,1]) [.seq [1,1,1,1,1,1,1,1]] [4] [(10,Vi r.1),(11,Vi r.2),(142,.bool (r.2 != 0))]) (ho:=And.intro (fun H sH=>hn hq _) (trivial)) ?_
  clear hJ a w; intro a w hJ
  by_cases hc:r.2=0
  ·refine aY hJ (t:=r.2 != 0) (bne_eq_false_iff_eq.2 hc) ?_
   refine rk' hJ false 10 [.b 1 0] [] (.f (.out .ret) [] [4] [] [.map b2 ([(Vi 5,.func (.func 136) #[] #[]),(Vi 6,.func (.func 137) #[] #[]),(Vi 7,.func (.func 138) #[] #[]),(Vi 8,.func (.func 139) #[] #[]),(Vi 9,.func (.func 140) #[] #[])]),.box b1 [Vi 1,Vi r.1,Ve]] [.o 0,.o 1]) ?_
   clear hJ a w; intro a w hJ
   refine zX (hQ [.agg #[Vi 1,Vi r.1,Ve]] _ [] hJ (.rcel hJ.j 1 .nil) (fJ _) rfl ?_).1
   rw [hap,if_pos hq,if_pos hc]; rfl
  ·skip
   refine kY hJ (t:=r.2 != 0) (bne_iff_ne.2 hc) ?_
   refine rk' hJ false 9 [.cl 109 #[Vi r.2] (.agg #[Vi 5,Vi r.2,Ve]),.b 1 0] [] (.f (.out .ret) [] [4] [] [.map b2 ([(Vi 5,.func (.func 136) #[] #[]),(Vi 6,.func (.func 137) #[] #[]),(Vi 7,.func (.func 138) #[] #[]),(Vi 8,.func (.func 139) #[] #[]),(Vi 9,.func (.func 140) #[] #[])]),.box b1 [Vi 5,Vi r.2,Ve]] [.o 0,.o 1]) (ho:=And.intro (fun H sH=>yK _ _) (trivial)) ?_
   clear hJ a w; intro a w hJ
   refine zX (hQ [.agg #[Vi 5,Vi r.2,Ve]] _ [] hJ (.rcel hJ.j 1 .nil) (fJ _) rfl ?_).1
   rw [hap,if_pos hq,if_neg hc]; rfl
 ·skip
  refine kY hJ (t := !kv) ((by rw [show kv=false from by simpa using hq]; rfl)) ?_
  refine rk' hJ false 8 [.cl 109 #[Vi 9] (.agg #[Vi 5,Vi 9,Ve]),.b 0 0] [] (.f (.out .ret) [] [4] [] [.box b1 [Vi 5,Vi 9,Ve]] [.o 0,.o 1]) (ho:=And.intro (fun H sH=>yK 9 _) (trivial)) ?_
  clear hJ a w; intro a w hJ
  refine zX (hQ [.agg #[Vi 5,Vi 9,Ve]] _ [] hJ (.rcel hJ.j 0 .nil) (fJ _) rfl ?_).1
  rw [hap,if_neg hq]; rfl
theorem apply_6 (x y:Vl) (sl:Value) (h:Vw) (hr:RS h 3 sl (vrows [x,y])) (hk:∀ v∈[x,y],v.known):C0 Tryz.prog 113 #[.int .i64 6,sl] h (fun v _=>v=(oJ 6 [x,y]).val):=by
 obtain ⟨b,o,cap,rfl,c0⟩:=row0 hr
 have kx:=hk x (by simp)
 have ky:=hk y (by simp)
 have c1:Cells h b (o + 1 * 3) y.cells:=hr.cell (i:=1) rfl
 have hki:=fun H hq=>wQ [x,y] (.slice (some ⟨b,o,none⟩) 2 cap) 1 H hq (by simp)
 have hap:oJ 6 [x,y]=if vQ [x,y] 1=true then nrV 6 x.n y.n else xK 9:=by unfold oJ; rw [if_neg (by omega),if_neg (by omega),if_neg (by omega),if_neg (by omega),if_neg (by omega),hd0,hd1]
 have hnr:nrV 6 x.n y.n=if (oV 6 x.n y.n).2=0 then ⟨1,(oV 6 x.n y.n).1,⟨#[]⟩⟩ else xK (oV 6 x.n y.n).2:=rfl
 rw [hnr] at hap
 have hl:=fun q=>xQ (l:=[x,y]) hk q
 have hn:=fun (q:vQ [x,y] 1=true) H=>num_any 6 x.n y.n H (hl q x (by simp)) (hl q y (by simp))
 generalize oV 6 x.n y.n=r at *
 generalize vQ [x,y] 1=kv at *
 refine yX Tryz.func113 (c:=Tryz.f113.body.getD .skip) (N:=147) ?_
 intro hbx hbad Q hQ a w hJ
 replace hJ:K ⟨147,h.w,h.bad,[]⟩ [(0,Vi 6),(1,.slice (some ⟨b,o,none⟩) 2 cap)] [] [] h a w:=hJ.tw
 replace hJ:=hJ.fact (c0.sees (Sees.refl _))
 replace hJ:=hJ.fact (c1.sees (Sees.refl _))
 refine rk hJ false 72 [.own,.cl 135 #[.slice (some ⟨b,o,none⟩) 2 cap,Vi 1] (.bool kv)] [] (.new fun b1=>.f (.code [1,0,1,1]) [.seq [1,1,1]] [0,1] [(4,Vp b1),(115,.bool (!kv))] [.box b1 [Vi 0,Vi 0,Ve]] [.o 0,.o 1]) (And.intro (fun H sH=>hki _ (hr.sees sH)) (trivial)) trivial (fun b1 _=>by kernel_rfl) ?_
 clear hJ a w; intro b1 a w hJ
 by_cases hq:kv=true
 ·skip
  refine aY hJ (t := !kv) ((by rw [hq]; rfl)) ?_
  refine rx' hJ false 4 [] [] (.ok (.ops [0,1,1,1] 0) [.seq [1,1,1,1]] [(0,Vi 6),(1,.slice (some ⟨b,o,none⟩) 2 cap),(4,Vp b1)] [.box b1 [Vi 0,Vi 0,Ve]] [(b,o + 1 * 3,[Vi y.k,Vi y.n,.string y.s]),(b,o + 0 * 3,[Vi x.k,Vi x.n,.string x.s])]) (fun _=>by kernel_rfl) ?_
  clear hJ a w; intro a w hJ
  refine x_mapmake hJ 117 (by kernel_rfl) (by kernel_rfl) ?_; clear hJ a w; intro b2 a w hJ
  refine gY hJ 0 (b:=b2) (t:=180) (mo:=(.tmp 117)) (ko:=(.const (Vi 5))) (vo:=(.func 136)) (es:=[]) (kt:=3) (et:=179) (td:=.int .i64) (key:=Vi 5) (v:=.func (.func 136) #[] #[]) Tryz.underlying180 Tryz.underlying3 ?_; clear hJ a w; intro a w hJ
  replace hJ:K ⟨147,h.w,h.bad,[]⟩ [(0,Vi 6),(1,.slice (some ⟨b,o,none⟩) 2 cap),(4,Vp b1),(117,.map (some b2))] [.map b2 ([(Vi 5,.func (.func 136) #[] #[])]),.box b1 [Vi 0,Vi 0,Ve]] [(b,o + 1 * 3,[Vi y.k,Vi y.n,.string y.s]),(b,o + 0 * 3,[Vi x.k,Vi x.n,.string x.s])] h a w:=hJ.tw
  refine gY hJ 0 (b:=b2) (t:=180) (mo:=(.tmp 117)) (ko:=(.const (Vi 6))) (vo:=(.func 137)) (es:=[(Vi 5,.func (.func 136) #[] #[])]) (kt:=3) (et:=179) (td:=.int .i64) (key:=Vi 6) (v:=.func (.func 137) #[] #[]) Tryz.underlying180 Tryz.underlying3 ?_; clear hJ a w; intro a w hJ
  replace hJ:K ⟨147,h.w,h.bad,[]⟩ [(0,Vi 6),(1,.slice (some ⟨b,o,none⟩) 2 cap),(4,Vp b1),(117,.map (some b2))] [.map b2 ([(Vi 5,.func (.func 136) #[] #[]),(Vi 6,.func (.func 137) #[] #[])]),.box b1 [Vi 0,Vi 0,Ve]] [(b,o + 1 * 3,[Vi y.k,Vi y.n,.string y.s]),(b,o + 0 * 3,[Vi x.k,Vi x.n,.string x.s])] h a w:=hJ.tw
  refine gY hJ 0 (b:=b2) (t:=180) (mo:=(.tmp 117)) (ko:=(.const (Vi 7))) (vo:=(.func 138)) (es:=[(Vi 5,.func (.func 136) #[] #[]),(Vi 6,.func (.func 137) #[] #[])]) (kt:=3) (et:=179) (td:=.int .i64) (key:=Vi 7) (v:=.func (.func 138) #[] #[]) Tryz.underlying180 Tryz.underlying3 ?_; clear hJ a w; intro a w hJ
  replace hJ:K ⟨147,h.w,h.bad,[]⟩ [(0,Vi 6),(1,.slice (some ⟨b,o,none⟩) 2 cap),(4,Vp b1),(117,.map (some b2))] [.map b2 ([(Vi 5,.func (.func 136) #[] #[]),(Vi 6,.func (.func 137) #[] #[]),(Vi 7,.func (.func 138) #[] #[])]),.box b1 [Vi 0,Vi 0,Ve]] [(b,o + 1 * 3,[Vi y.k,Vi y.n,.string y.s]),(b,o + 0 * 3,[Vi x.k,Vi x.n,.string x.s])] h a w:=hJ.tw
  refine gY hJ 0 (b:=b2) (t:=180) (mo:=(.tmp 117)) (ko:=(.const (Vi 8))) (vo:=(.func 139)) (es:=[(Vi 5,.func (.func 136) #[] #[]),(Vi 6,.func (.func 137) #[] #[]),(Vi 7,.func (.func 138) #[] #[])]) (kt:=3) (et:=179) (td:=.int .i64) (key:=Vi 8) (v:=.func (.func 139) #[] #[]) Tryz.underlying180 Tryz.underlying3 ?_; clear hJ a w; intro a w hJ
  replace hJ:K ⟨147,h.w,h.bad,[]⟩ [(0,Vi 6),(1,.slice (some ⟨b,o,none⟩) 2 cap),(4,Vp b1),(117,.map (some b2))] [.map b2 ([(Vi 5,.func (.func 136) #[] #[]),(Vi 6,.func (.func 137) #[] #[]),(Vi 7,.func (.func 138) #[] #[]),(Vi 8,.func (.func 139) #[] #[])]),.box b1 [Vi 0,Vi 0,Ve]] [(b,o + 1 * 3,[Vi y.k,Vi y.n,.string y.s]),(b,o + 0 * 3,[Vi x.k,Vi x.n,.string x.s])] h a w:=hJ.tw
  refine gY hJ 0 (b:=b2) (t:=180) (mo:=(.tmp 117)) (ko:=(.const (Vi 9))) (vo:=(.func 140)) (es:=[(Vi 5,.func (.func 136) #[] #[]),(Vi 6,.func (.func 137) #[] #[]),(Vi 7,.func (.func 138) #[] #[]),(Vi 8,.func (.func 139) #[] #[])]) (kt:=3) (et:=179) (td:=.int .i64) (key:=Vi 9) (v:=.func (.func 140) #[] #[]) Tryz.underlying180 Tryz.underlying3 ?_; clear hJ a w; intro a w hJ
  replace hJ:K ⟨147,h.w,h.bad,[]⟩ [(0,Vi 6),(1,.slice (some ⟨b,o,none⟩) 2 cap),(4,Vp b1),(117,.map (some b2))] [.map b2 ([(Vi 5,.func (.func 136) #[] #[]),(Vi 6,.func (.func 137) #[] #[]),(Vi 7,.func (.func 138) #[] #[]),(Vi 8,.func (.func 139) #[] #[]),(Vi 9,.func (.func 140) #[] #[])]),.box b1 [Vi 0,Vi 0,Ve]] [(b,o + 1 * 3,[Vi y.k,Vi y.n,.string y.s]),(b,o + 0 * 3,[Vi x.k,Vi x.n,.string x.s])] h a w:=hJ.tw
  refine rk' hJ false 2 [] [] (.k (.ops [0,1,1,1] 8) [.seq [1,1,1,1]] [0,1,4] [(118,.map (some b2)),(119,Vi 6)]) ?_
  clear hJ a w; intro a w hJ
  refine fY hJ 120 (b:=b2) (t:=180) (mo:=(.tmp 118)) (ko:=(.tmp 119)) (c:=false) (es:=[(Vi 5,.func (.func 136) #[] #[]),(Vi 6,.func (.func 137) #[] #[]),(Vi 7,.func (.func 138) #[] #[]),(Vi 8,.func (.func 139) #[] #[]),(Vi 9,.func (.func 140) #[] #[])]) (kt:=3) (et:=179) (td:=.int .i64) (key:=Vi 6) (z:=.nilFunc) (v:=.func (.func 137) #[] #[]) (r:=some (1,.func (.func 137) #[] #[])) (hJ.map 0 (by kernel_rfl)) Tryz.underlying180 Tryz.underlying3 (by kernel_rfl) ?_; clear hJ a w; intro a w hJ
  refine rk' hJ false 4 [] [] (.k (.code [0,1,1,1,1]) [.seq [1,1,1,1,1]] [0,1,4] [(7,.func (.func 137) #[] #[])]) ?_
  clear hJ a w; intro a w hJ
  let R:Reg:=⟨⟨147,h.w,h.bad,[]⟩,[(0,121,fun gh=>.slice (some ⟨b,o,none⟩) 2 cap),(1,122,fun gh=>.pointer (some ⟨b,o + 0 * 3,none⟩)),(2,123,fun gh=>.pointer (some ⟨b,o + 0 * 3 + 1,none⟩)),(3,124,fun gh=>Vi x.n),(4,125,fun gh=>.slice (some ⟨b,o,none⟩) 2 cap),(5,126,fun gh=>.slice (some ⟨b,o,none⟩) 2 cap),(6,127,fun gh=>Vi 2),(7,128,fun gh=>Vi 1),(8,129,fun gh=>.pointer (some ⟨b,o + 1 * 3,none⟩)),(9,130,fun gh=>.pointer (some ⟨b,o + 1 * 3 + 1,none⟩)),(10,131,fun gh=>Vi y.n),(11,8,fun gh=>Vi x.n),(12,9,fun gh=>Vi y.n)],[(0,Vi 6),(1,.slice (some ⟨b,o,none⟩) 2 cap),(4,Vp b1),(7,.func (.func 137) #[] #[])],[⟨some (.map b2 ([(Vi 5,.func (.func 136) #[] #[]),(Vi 6,.func (.func 137) #[] #[]),(Vi 7,.func (.func 138) #[] #[]),(Vi 8,.func (.func 139) #[] #[]),(Vi 9,.func (.func 140) #[] #[])])),[]⟩,⟨some (.box b1 [Vi 0,Vi 0,Ve]),[]⟩],[],[[],[0],[0,1],[0,1,2],[],[],[5],[5,6],[4,5,6,7],[4,5,6,7,8],[4,5,6,7,8,9],[0,1,2,3],[0,1,2,3,4,5,6,7,8,9,10,11]],h⟩
  have hmono:∀ zq∈R.F,∀ zx zh zi,Sees zh zi→zq.2 zx zh→zq.2 zx zi:=lJ
  refine iY (by kernel_rfl) R hJ 13 [.pu,.cl,.pu,.lf 1 1,.pu,.pu,.pu,.pu,.cl,.pu,.lf 0 1,.pu,.pu] (by kernel_rfl) hmono (fun _ _ _=>by kernel_rfl) (fun hT hA=>?_) ?_
  ·clear hJ
   refine And.intro (pW hT hA 122 (fun gh=>.pointer (some ⟨b,o + 0 * 3,none⟩)) [0] 1 (fun gh w=>fX (t:=32) (x:=(.tmp 121)) (y:=(.const (Vi 0))) (b:=b) (off:=o) (n:=2) (cap:=cap) (k:=0) (e:=38) (kk:=3) (by kernel_rfl) (by kernel_rfl) (by kernel_rfl) ((by decide)) Tryz.underlying32 (by kernel_rfl))) ?_
   refine And.intro (pW hT hA 129 (fun gh=>.pointer (some ⟨b,o + 1 * 3,none⟩)) [4,7] 8 (fun gh w=>fX (t:=32) (x:=(.tmp 125)) (y:=(.tmp 128)) (b:=b) (off:=o) (n:=2) (cap:=cap) (k:=1) (e:=38) (kk:=3) (by kernel_rfl) (by kernel_rfl) (by kernel_rfl) ((by decide)) Tryz.underlying32 (by kernel_rfl))) ?_
   trivial
  clear hJ a w; intro gh h3 a w sR hJ1 hF; have s4:Sees h h3:=sR; clear sR
  have hJ:K ⟨147,h.w,h.bad,[]⟩ [(0,Vi 6),(4,Vp b1),(7,.func (.func 137) #[] #[]),(8,Vi x.n),(9,Vi y.n)] [.map b2 ([(Vi 5,.func (.func 136) #[] #[]),(Vi 6,.func (.func 137) #[] #[]),(Vi 7,.func (.func 138) #[] #[]),(Vi 8,.func (.func 139) #[] #[]),(Vi 9,.func (.func 140) #[] #[])]),.box b1 [Vi 0,Vi 0,Ve]] [(b,o + 1 * 3,[Vi y.k,Vi y.n,.string y.s]),(b,o + 0 * 3,[Vi x.k,Vi x.n,.string x.s])] h3 a w:=hJ1.tw
  clear hJ1 hF hmono R
  clear gh
  refine rk' hJ false 31 [.cl 137 #[Vi x.n,Vi y.n] (.tuple #[Vi r.1,Vi r.2])] [] (.k (.code [1,0,1,1,1,1,1,1,1]) [.seq [1,1,1,1,1,1,1,1]] [4] [(10,Vi r.1),(11,Vi r.2),(142,.bool (r.2 != 0))]) (ho:=And.intro (fun H sH=>hn hq _) (trivial)) ?_
  clear hJ a w; intro a w hJ
  by_cases hc:r.2=0
  ·refine aY hJ (t:=r.2 != 0) (bne_eq_false_iff_eq.2 hc) ?_
   refine rk' hJ false 10 [.b 1 0] [] (.f (.out .ret) [] [4] [] [.map b2 ([(Vi 5,.func (.func 136) #[] #[]),(Vi 6,.func (.func 137) #[] #[]),(Vi 7,.func (.func 138) #[] #[]),(Vi 8,.func (.func 139) #[] #[]),(Vi 9,.func (.func 140) #[] #[])]),.box b1 [Vi 1,Vi r.1,Ve]] [.o 0,.o 1]) ?_
   clear hJ a w; intro a w hJ
   refine zX (hQ [.agg #[Vi 1,Vi r.1,Ve]] _ [] hJ (.rcel hJ.j 1 .nil) (fJ _) rfl ?_).1
   rw [hap,if_pos hq,if_pos hc]; rfl
  ·skip
   refine kY hJ (t:=r.2 != 0) (bne_iff_ne.2 hc) ?_
   refine rk' hJ false 9 [.cl 109 #[Vi r.2] (.agg #[Vi 5,Vi r.2,Ve]),.b 1 0] [] (.f (.out .ret) [] [4] [] [.map b2 ([(Vi 5,.func (.func 136) #[] #[]),(Vi 6,.func (.func 137) #[] #[]),(Vi 7,.func (.func 138) #[] #[]),(Vi 8,.func (.func 139) #[] #[]),(Vi 9,.func (.func 140) #[] #[])]),.box b1 [Vi 5,Vi r.2,Ve]] [.o 0,.o 1]) (ho:=And.intro (fun H sH=>yK _ _) (trivial)) ?_
   clear hJ a w; intro a w hJ
   refine zX (hQ [.agg #[Vi 5,Vi r.2,Ve]] _ [] hJ (.rcel hJ.j 1 .nil) (fJ _) rfl ?_).1
   rw [hap,if_pos hq,if_neg hc]; rfl
 ·skip
  refine kY hJ (t := !kv) ((by rw [show kv=false from by simpa using hq]; rfl)) ?_
  refine rk' hJ false 8 [.cl 109 #[Vi 9] (.agg #[Vi 5,Vi 9,Ve]),.b 0 0] [] (.f (.out .ret) [] [4] [] [.box b1 [Vi 5,Vi 9,Ve]] [.o 0,.o 1]) (ho:=And.intro (fun H sH=>yK 9 _) (trivial)) ?_
  clear hJ a w; intro a w hJ
  refine zX (hQ [.agg #[Vi 5,Vi 9,Ve]] _ [] hJ (.rcel hJ.j 0 .nil) (fJ _) rfl ?_).1
  rw [hap,if_neg hq]; rfl
theorem apply_7 (x y:Vl) (sl:Value) (h:Vw) (hr:RS h 3 sl (vrows [x,y])) (hk:∀ v∈[x,y],v.known):C0 Tryz.prog 113 #[.int .i64 7,sl] h (fun v _=>v=(oJ 7 [x,y]).val):=by
 obtain ⟨b,o,cap,rfl,c0⟩:=row0 hr
 have kx:=hk x (by simp)
 have ky:=hk y (by simp)
 have c1:Cells h b (o + 1 * 3) y.cells:=hr.cell (i:=1) rfl
 have hki:=fun H hq=>wQ [x,y] (.slice (some ⟨b,o,none⟩) 2 cap) 1 H hq (by simp)
 have hap:oJ 7 [x,y]=if vQ [x,y] 1=true then nrV 7 x.n y.n else xK 9:=by unfold oJ; rw [if_neg (by omega),if_neg (by omega),if_neg (by omega),if_neg (by omega),if_neg (by omega),hd0,hd1]
 have hnr:nrV 7 x.n y.n=if (oV 7 x.n y.n).2=0 then ⟨1,(oV 7 x.n y.n).1,⟨#[]⟩⟩ else xK (oV 7 x.n y.n).2:=rfl
 rw [hnr] at hap
 have hl:=fun q=>xQ (l:=[x,y]) hk q
 have hn:=fun (q:vQ [x,y] 1=true) H=>num_any 7 x.n y.n H (hl q x (by simp)) (hl q y (by simp))
 generalize oV 7 x.n y.n=r at *
 generalize vQ [x,y] 1=kv at *
 refine yX Tryz.func113 (c:=Tryz.f113.body.getD .skip) (N:=147) ?_
 intro hbx hbad Q hQ a w hJ
 replace hJ:K ⟨147,h.w,h.bad,[]⟩ [(0,Vi 7),(1,.slice (some ⟨b,o,none⟩) 2 cap)] [] [] h a w:=hJ.tw
 replace hJ:=hJ.fact (c0.sees (Sees.refl _))
 replace hJ:=hJ.fact (c1.sees (Sees.refl _))
 refine rk hJ false 72 [.own,.cl 135 #[.slice (some ⟨b,o,none⟩) 2 cap,Vi 1] (.bool kv)] [] (.new fun b1=>.f (.code [1,0,1,1]) [.seq [1,1,1]] [0,1] [(4,Vp b1),(115,.bool (!kv))] [.box b1 [Vi 0,Vi 0,Ve]] [.o 0,.o 1]) (And.intro (fun H sH=>hki _ (hr.sees sH)) (trivial)) trivial (fun b1 _=>by kernel_rfl) ?_
 clear hJ a w; intro b1 a w hJ
 by_cases hq:kv=true
 ·skip
  refine aY hJ (t := !kv) ((by rw [hq]; rfl)) ?_
  refine rk' hJ false 4 [] [] (.k (.ops [0,1,1,1] 0) [.seq [1,1,1,1]] [0,1,4] []) ?_
  clear hJ a w; intro a w hJ
  refine x_mapmake hJ 117 (by kernel_rfl) (by kernel_rfl) ?_; clear hJ a w; intro b2 a w hJ
  refine gY hJ 0 (b:=b2) (t:=180) (mo:=(.tmp 117)) (ko:=(.const (Vi 5))) (vo:=(.func 136)) (es:=[]) (kt:=3) (et:=179) (td:=.int .i64) (key:=Vi 5) (v:=.func (.func 136) #[] #[]) Tryz.underlying180 Tryz.underlying3 ?_; clear hJ a w; intro a w hJ
  replace hJ:K ⟨147,h.w,h.bad,[]⟩ [(0,Vi 7),(1,.slice (some ⟨b,o,none⟩) 2 cap),(4,Vp b1),(117,.map (some b2))] [.map b2 ([(Vi 5,.func (.func 136) #[] #[])]),.box b1 [Vi 0,Vi 0,Ve]] [(b,o + 1 * 3,[Vi y.k,Vi y.n,.string y.s]),(b,o + 0 * 3,[Vi x.k,Vi x.n,.string x.s])] h a w:=hJ.tw
  refine gY hJ 0 (b:=b2) (t:=180) (mo:=(.tmp 117)) (ko:=(.const (Vi 6))) (vo:=(.func 137)) (es:=[(Vi 5,.func (.func 136) #[] #[])]) (kt:=3) (et:=179) (td:=.int .i64) (key:=Vi 6) (v:=.func (.func 137) #[] #[]) Tryz.underlying180 Tryz.underlying3 ?_; clear hJ a w; intro a w hJ
  replace hJ:K ⟨147,h.w,h.bad,[]⟩ [(0,Vi 7),(1,.slice (some ⟨b,o,none⟩) 2 cap),(4,Vp b1),(117,.map (some b2))] [.map b2 ([(Vi 5,.func (.func 136) #[] #[]),(Vi 6,.func (.func 137) #[] #[])]),.box b1 [Vi 0,Vi 0,Ve]] [(b,o + 1 * 3,[Vi y.k,Vi y.n,.string y.s]),(b,o + 0 * 3,[Vi x.k,Vi x.n,.string x.s])] h a w:=hJ.tw
  refine gY hJ 0 (b:=b2) (t:=180) (mo:=(.tmp 117)) (ko:=(.const (Vi 7))) (vo:=(.func 138)) (es:=[(Vi 5,.func (.func 136) #[] #[]),(Vi 6,.func (.func 137) #[] #[])]) (kt:=3) (et:=179) (td:=.int .i64) (key:=Vi 7) (v:=.func (.func 138) #[] #[]) Tryz.underlying180 Tryz.underlying3 ?_; clear hJ a w; intro a w hJ
  replace hJ:K ⟨147,h.w,h.bad,[]⟩ [(0,Vi 7),(1,.slice (some ⟨b,o,none⟩) 2 cap),(4,Vp b1),(117,.map (some b2))] [.map b2 ([(Vi 5,.func (.func 136) #[] #[]),(Vi 6,.func (.func 137) #[] #[]),(Vi 7,.func (.func 138) #[] #[])]),.box b1 [Vi 0,Vi 0,Ve]] [(b,o + 1 * 3,[Vi y.k,Vi y.n,.string y.s]),(b,o + 0 * 3,[Vi x.k,Vi x.n,.string x.s])] h a w:=hJ.tw
  refine gY hJ 0 (b:=b2) (t:=180) (mo:=(.tmp 117)) (ko:=(.const (Vi 8))) (vo:=(.func 139)) (es:=[(Vi 5,.func (.func 136) #[] #[]),(Vi 6,.func (.func 137) #[] #[]),(Vi 7,.func (.func 138) #[] #[])]) (kt:=3) (et:=179) (td:=.int .i64) (key:=Vi 8) (v:=.func (.func 139) #[] #[]) Tryz.underlying180 Tryz.underlying3 ?_; clear hJ a w; intro a w hJ
  replace hJ:K ⟨147,h.w,h.bad,[]⟩ [(0,Vi 7),(1,.slice (some ⟨b,o,none⟩) 2 cap),(4,Vp b1),(117,.map (some b2))] [.map b2 ([(Vi 5,.func (.func 136) #[] #[]),(Vi 6,.func (.func 137) #[] #[]),(Vi 7,.func (.func 138) #[] #[]),(Vi 8,.func (.func 139) #[] #[])]),.box b1 [Vi 0,Vi 0,Ve]] [(b,o + 1 * 3,[Vi y.k,Vi y.n,.string y.s]),(b,o + 0 * 3,[Vi x.k,Vi x.n,.string x.s])] h a w:=hJ.tw
  refine gY hJ 0 (b:=b2) (t:=180) (mo:=(.tmp 117)) (ko:=(.const (Vi 9))) (vo:=(.func 140)) (es:=[(Vi 5,.func (.func 136) #[] #[]),(Vi 6,.func (.func 137) #[] #[]),(Vi 7,.func (.func 138) #[] #[]),(Vi 8,.func (.func 139) #[] #[])]) (kt:=3) (et:=179) (td:=.int .i64) (key:=Vi 9) (v:=.func (.func 140) #[] #[]) Tryz.underlying180 Tryz.underlying3 ?_; clear hJ a w; intro a w hJ
  replace hJ:K ⟨147,h.w,h.bad,[]⟩ [(0,Vi 7),(1,.slice (some ⟨b,o,none⟩) 2 cap),(4,Vp b1),(117,.map (some b2))] [.map b2 ([(Vi 5,.func (.func 136) #[] #[]),(Vi 6,.func (.func 137) #[] #[]),(Vi 7,.func (.func 138) #[] #[]),(Vi 8,.func (.func 139) #[] #[]),(Vi 9,.func (.func 140) #[] #[])]),.box b1 [Vi 0,Vi 0,Ve]] [(b,o + 1 * 3,[Vi y.k,Vi y.n,.string y.s]),(b,o + 0 * 3,[Vi x.k,Vi x.n,.string x.s])] h a w:=hJ.tw
  refine rx' hJ false 2 [] [] (.ok (.ops [0,1,1,1] 8) [.seq [1,1,1,1]] [(0,Vi 7),(1,.slice (some ⟨b,o,none⟩) 2 cap),(4,Vp b1),(118,.map (some b2)),(119,Vi 7)] [.map b2 ([(Vi 5,.func (.func 136) #[] #[]),(Vi 6,.func (.func 137) #[] #[]),(Vi 7,.func (.func 138) #[] #[]),(Vi 8,.func (.func 139) #[] #[]),(Vi 9,.func (.func 140) #[] #[])]),.box b1 [Vi 0,Vi 0,Ve]] [(b,o + 1 * 3,[Vi y.k,Vi y.n,.string y.s]),(b,o + 0 * 3,[Vi x.k,Vi x.n,.string x.s])]) (fun _=>by kernel_rfl) ?_
  clear hJ a w; intro a w hJ
  refine fY hJ 120 (b:=b2) (t:=180) (mo:=(.tmp 118)) (ko:=(.tmp 119)) (c:=false) (es:=[(Vi 5,.func (.func 136) #[] #[]),(Vi 6,.func (.func 137) #[] #[]),(Vi 7,.func (.func 138) #[] #[]),(Vi 8,.func (.func 139) #[] #[]),(Vi 9,.func (.func 140) #[] #[])]) (kt:=3) (et:=179) (td:=.int .i64) (key:=Vi 7) (z:=.nilFunc) (v:=.func (.func 138) #[] #[]) (r:=some (2,.func (.func 138) #[] #[])) (hJ.map 0 (by kernel_rfl)) Tryz.underlying180 Tryz.underlying3 (by kernel_rfl) ?_; clear hJ a w; intro a w hJ
  refine rk' hJ false 4 [] [] (.k (.code [0,1,1,1,1]) [.seq [1,1,1,1,1]] [0,1,4] [(7,.func (.func 138) #[] #[])]) ?_
  clear hJ a w; intro a w hJ
  let R:Reg:=⟨⟨147,h.w,h.bad,[]⟩,[(0,121,fun gh=>.slice (some ⟨b,o,none⟩) 2 cap),(1,122,fun gh=>.pointer (some ⟨b,o + 0 * 3,none⟩)),(2,123,fun gh=>.pointer (some ⟨b,o + 0 * 3 + 1,none⟩)),(3,124,fun gh=>Vi x.n),(4,125,fun gh=>.slice (some ⟨b,o,none⟩) 2 cap),(5,126,fun gh=>.slice (some ⟨b,o,none⟩) 2 cap),(6,127,fun gh=>Vi 2),(7,128,fun gh=>Vi 1),(8,129,fun gh=>.pointer (some ⟨b,o + 1 * 3,none⟩)),(9,130,fun gh=>.pointer (some ⟨b,o + 1 * 3 + 1,none⟩)),(10,131,fun gh=>Vi y.n),(11,8,fun gh=>Vi x.n),(12,9,fun gh=>Vi y.n)],[(0,Vi 7),(1,.slice (some ⟨b,o,none⟩) 2 cap),(4,Vp b1),(7,.func (.func 138) #[] #[])],[⟨some (.map b2 ([(Vi 5,.func (.func 136) #[] #[]),(Vi 6,.func (.func 137) #[] #[]),(Vi 7,.func (.func 138) #[] #[]),(Vi 8,.func (.func 139) #[] #[]),(Vi 9,.func (.func 140) #[] #[])])),[]⟩,⟨some (.box b1 [Vi 0,Vi 0,Ve]),[]⟩],[],[[],[0],[0,1],[0,1,2],[],[],[5],[5,6],[4,5,6,7],[4,5,6,7,8],[4,5,6,7,8,9],[0,1,2,3],[0,1,2,3,4,5,6,7,8,9,10,11]],h⟩
  have hmono:∀ zq∈R.F,∀ zx zh zi,Sees zh zi→zq.2 zx zh→zq.2 zx zi:=lJ
  refine iY (by kernel_rfl) R hJ 13 [.pu,.cl,.pu,.lf 1 1,.pu,.pu,.pu,.pu,.cl,.pu,.lf 0 1,.pu,.pu] (by kernel_rfl) hmono (fun _ _ _=>by kernel_rfl) (fun hT hA=>?_) ?_
  ·clear hJ
   refine And.intro (pW hT hA 122 (fun gh=>.pointer (some ⟨b,o + 0 * 3,none⟩)) [0] 1 (fun gh w=>fX (t:=32) (x:=(.tmp 121)) (y:=(.const (Vi 0))) (b:=b) (off:=o) (n:=2) (cap:=cap) (k:=0) (e:=38) (kk:=3) (by kernel_rfl) (by kernel_rfl) (by kernel_rfl) ((by decide)) Tryz.underlying32 (by kernel_rfl))) ?_
   refine And.intro (pW hT hA 129 (fun gh=>.pointer (some ⟨b,o + 1 * 3,none⟩)) [4,7] 8 (fun gh w=>fX (t:=32) (x:=(.tmp 125)) (y:=(.tmp 128)) (b:=b) (off:=o) (n:=2) (cap:=cap) (k:=1) (e:=38) (kk:=3) (by kernel_rfl) (by kernel_rfl) (by kernel_rfl) ((by decide)) Tryz.underlying32 (by kernel_rfl))) ?_
   trivial
  clear hJ a w; intro gh h3 a w sR hJ1 hF; have s4:Sees h h3:=sR; clear sR
  have hJ:K ⟨147,h.w,h.bad,[]⟩ [(0,Vi 7),(4,Vp b1),(7,.func (.func 138) #[] #[]),(8,Vi x.n),(9,Vi y.n)] [.map b2 ([(Vi 5,.func (.func 136) #[] #[]),(Vi 6,.func (.func 137) #[] #[]),(Vi 7,.func (.func 138) #[] #[]),(Vi 8,.func (.func 139) #[] #[]),(Vi 9,.func (.func 140) #[] #[])]),.box b1 [Vi 0,Vi 0,Ve]] [(b,o + 1 * 3,[Vi y.k,Vi y.n,.string y.s]),(b,o + 0 * 3,[Vi x.k,Vi x.n,.string x.s])] h3 a w:=hJ1.tw
  clear hJ1 hF hmono R
  clear gh
  refine rk' hJ false 31 [.cl 138 #[Vi x.n,Vi y.n] (.tuple #[Vi r.1,Vi r.2])] [] (.k (.code [1,0,1,1,1,1,1,1,1]) [.seq [1,1,1,1,1,1,1,1]] [4] [(10,Vi r.1),(11,Vi r.2),(142,.bool (r.2 != 0))]) (ho:=And.intro (fun H sH=>hn hq _) (trivial)) ?_
  clear hJ a w; intro a w hJ
  by_cases hc:r.2=0
  ·refine aY hJ (t:=r.2 != 0) (bne_eq_false_iff_eq.2 hc) ?_
   refine rk' hJ false 10 [.b 1 0] [] (.f (.out .ret) [] [4] [] [.map b2 ([(Vi 5,.func (.func 136) #[] #[]),(Vi 6,.func (.func 137) #[] #[]),(Vi 7,.func (.func 138) #[] #[]),(Vi 8,.func (.func 139) #[] #[]),(Vi 9,.func (.func 140) #[] #[])]),.box b1 [Vi 1,Vi r.1,Ve]] [.o 0,.o 1]) ?_
   clear hJ a w; intro a w hJ
   refine zX (hQ [.agg #[Vi 1,Vi r.1,Ve]] _ [] hJ (.rcel hJ.j 1 .nil) (fJ _) rfl ?_).1
   rw [hap,if_pos hq,if_pos hc]; rfl
  ·skip
   refine kY hJ (t:=r.2 != 0) (bne_iff_ne.2 hc) ?_
   refine rk' hJ false 9 [.cl 109 #[Vi r.2] (.agg #[Vi 5,Vi r.2,Ve]),.b 1 0] [] (.f (.out .ret) [] [4] [] [.map b2 ([(Vi 5,.func (.func 136) #[] #[]),(Vi 6,.func (.func 137) #[] #[]),(Vi 7,.func (.func 138) #[] #[]),(Vi 8,.func (.func 139) #[] #[]),(Vi 9,.func (.func 140) #[] #[])]),.box b1 [Vi 5,Vi r.2,Ve]] [.o 0,.o 1]) (ho:=And.intro (fun H sH=>yK _ _) (trivial)) ?_
   clear hJ a w; intro a w hJ
   refine zX (hQ [.agg #[Vi 5,Vi r.2,Ve]] _ [] hJ (.rcel hJ.j 1 .nil) (fJ _) rfl ?_).1
   rw [hap,if_pos hq,if_neg hc]; rfl
 ·skip
  refine kY hJ (t := !kv) ((by rw [show kv=false from by simpa using hq]; rfl)) ?_
  refine rk' hJ false 8 [.cl 109 #[Vi 9] (.agg #[Vi 5,Vi 9,Ve]),.b 0 0] [] (.f (.out .ret) [] [4] [] [.box b1 [Vi 5,Vi 9,Ve]] [.o 0,.o 1]) (ho:=And.intro (fun H sH=>yK 9 _) (trivial)) ?_
  clear hJ a w; intro a w hJ
  refine zX (hQ [.agg #[Vi 5,Vi 9,Ve]] _ [] hJ (.rcel hJ.j 0 .nil) (fJ _) rfl ?_).1
  rw [hap,if_neg hq]; rfl
theorem apply_8 (x y:Vl) (sl:Value) (h:Vw) (hr:RS h 3 sl (vrows [x,y])) (hk:∀ v∈[x,y],v.known):C0 Tryz.prog 113 #[.int .i64 8,sl] h (fun v _=>v=(oJ 8 [x,y]).val):=by
 obtain ⟨b,o,cap,rfl,c0⟩:=row0 hr
 have kx:=hk x (by simp)
 have ky:=hk y (by simp)
 have c1:Cells h b (o + 1 * 3) y.cells:=hr.cell (i:=1) rfl
 have hki:=fun H hq=>wQ [x,y] (.slice (some ⟨b,o,none⟩) 2 cap) 1 H hq (by simp)
 have hap:oJ 8 [x,y]=if vQ [x,y] 1=true then nrV 8 x.n y.n else xK 9:=by unfold oJ; rw [if_neg (by omega),if_neg (by omega),if_neg (by omega),if_neg (by omega),if_neg (by omega),hd0,hd1]
 have hnr:nrV 8 x.n y.n=if (oV 8 x.n y.n).2=0 then ⟨1,(oV 8 x.n y.n).1,⟨#[]⟩⟩ else xK (oV 8 x.n y.n).2:=rfl
 rw [hnr] at hap
 have hl:=fun q=>xQ (l:=[x,y]) hk q
 have hn:=fun (q:vQ [x,y] 1=true) H=>num_any 8 x.n y.n H (hl q x (by simp)) (hl q y (by simp))
 generalize oV 8 x.n y.n=r at *
 generalize vQ [x,y] 1=kv at *
 refine yX Tryz.func113 (c:=Tryz.f113.body.getD .skip) (N:=147) ?_
 intro hbx hbad Q hQ a w hJ
 replace hJ:K ⟨147,h.w,h.bad,[]⟩ [(0,Vi 8),(1,.slice (some ⟨b,o,none⟩) 2 cap)] [] [] h a w:=hJ.tw
 replace hJ:=hJ.fact (c0.sees (Sees.refl _))
 replace hJ:=hJ.fact (c1.sees (Sees.refl _))
 refine rk hJ false 72 [.own,.cl 135 #[.slice (some ⟨b,o,none⟩) 2 cap,Vi 1] (.bool kv)] [] (.new fun b1=>.f (.code [1,0,1,1]) [.seq [1,1,1]] [0,1] [(4,Vp b1),(115,.bool (!kv))] [.box b1 [Vi 0,Vi 0,Ve]] [.o 0,.o 1]) (And.intro (fun H sH=>hki _ (hr.sees sH)) (trivial)) trivial (fun b1 _=>by kernel_rfl) ?_
 clear hJ a w; intro b1 a w hJ
 by_cases hq:kv=true
 ·skip
  refine aY hJ (t := !kv) ((by rw [hq]; rfl)) ?_
  refine rk' hJ false 4 [] [] (.k (.ops [0,1,1,1] 0) [.seq [1,1,1,1]] [0,1,4] []) ?_
  clear hJ a w; intro a w hJ
  refine x_mapmake hJ 117 (by kernel_rfl) (by kernel_rfl) ?_; clear hJ a w; intro b2 a w hJ
  refine gY hJ 0 (b:=b2) (t:=180) (mo:=(.tmp 117)) (ko:=(.const (Vi 5))) (vo:=(.func 136)) (es:=[]) (kt:=3) (et:=179) (td:=.int .i64) (key:=Vi 5) (v:=.func (.func 136) #[] #[]) Tryz.underlying180 Tryz.underlying3 ?_; clear hJ a w; intro a w hJ
  replace hJ:K ⟨147,h.w,h.bad,[]⟩ [(0,Vi 8),(1,.slice (some ⟨b,o,none⟩) 2 cap),(4,Vp b1),(117,.map (some b2))] [.map b2 ([(Vi 5,.func (.func 136) #[] #[])]),.box b1 [Vi 0,Vi 0,Ve]] [(b,o + 1 * 3,[Vi y.k,Vi y.n,.string y.s]),(b,o + 0 * 3,[Vi x.k,Vi x.n,.string x.s])] h a w:=hJ.tw
  refine gY hJ 0 (b:=b2) (t:=180) (mo:=(.tmp 117)) (ko:=(.const (Vi 6))) (vo:=(.func 137)) (es:=[(Vi 5,.func (.func 136) #[] #[])]) (kt:=3) (et:=179) (td:=.int .i64) (key:=Vi 6) (v:=.func (.func 137) #[] #[]) Tryz.underlying180 Tryz.underlying3 ?_; clear hJ a w; intro a w hJ
  replace hJ:K ⟨147,h.w,h.bad,[]⟩ [(0,Vi 8),(1,.slice (some ⟨b,o,none⟩) 2 cap),(4,Vp b1),(117,.map (some b2))] [.map b2 ([(Vi 5,.func (.func 136) #[] #[]),(Vi 6,.func (.func 137) #[] #[])]),.box b1 [Vi 0,Vi 0,Ve]] [(b,o + 1 * 3,[Vi y.k,Vi y.n,.string y.s]),(b,o + 0 * 3,[Vi x.k,Vi x.n,.string x.s])] h a w:=hJ.tw
  refine gY hJ 0 (b:=b2) (t:=180) (mo:=(.tmp 117)) (ko:=(.const (Vi 7))) (vo:=(.func 138)) (es:=[(Vi 5,.func (.func 136) #[] #[]),(Vi 6,.func (.func 137) #[] #[])]) (kt:=3) (et:=179) (td:=.int .i64) (key:=Vi 7) (v:=.func (.func 138) #[] #[]) Tryz.underlying180 Tryz.underlying3 ?_; clear hJ a w; intro a w hJ
  replace hJ:K ⟨147,h.w,h.bad,[]⟩ [(0,Vi 8),(1,.slice (some ⟨b,o,none⟩) 2 cap),(4,Vp b1),(117,.map (some b2))] [.map b2 ([(Vi 5,.func (.func 136) #[] #[]),(Vi 6,.func (.func 137) #[] #[]),(Vi 7,.func (.func 138) #[] #[])]),.box b1 [Vi 0,Vi 0,Ve]] [(b,o + 1 * 3,[Vi y.k,Vi y.n,.string y.s]),(b,o + 0 * 3,[Vi x.k,Vi x.n,.string x.s])] h a w:=hJ.tw
  refine gY hJ 0 (b:=b2) (t:=180) (mo:=(.tmp 117)) (ko:=(.const (Vi 8))) (vo:=(.func 139)) (es:=[(Vi 5,.func (.func 136) #[] #[]),(Vi 6,.func (.func 137) #[] #[]),(Vi 7,.func (.func 138) #[] #[])]) (kt:=3) (et:=179) (td:=.int .i64) (key:=Vi 8) (v:=.func (.func 139) #[] #[]) Tryz.underlying180 Tryz.underlying3 ?_; clear hJ a w; intro a w hJ
  replace hJ:K ⟨147,h.w,h.bad,[]⟩ [(0,Vi 8),(1,.slice (some ⟨b,o,none⟩) 2 cap),(4,Vp b1),(117,.map (some b2))] [.map b2 ([(Vi 5,.func (.func 136) #[] #[]),(Vi 6,.func (.func 137) #[] #[]),(Vi 7,.func (.func 138) #[] #[]),(Vi 8,.func (.func 139) #[] #[])]),.box b1 [Vi 0,Vi 0,Ve]] [(b,o + 1 * 3,[Vi y.k,Vi y.n,.string y.s]),(b,o + 0 * 3,[Vi x.k,Vi x.n,.string x.s])] h a w:=hJ.tw
  refine gY hJ 0 (b:=b2) (t:=180) (mo:=(.tmp 117)) (ko:=(.const (Vi 9))) (vo:=(.func 140)) (es:=[(Vi 5,.func (.func 136) #[] #[]),(Vi 6,.func (.func 137) #[] #[]),(Vi 7,.func (.func 138) #[] #[]),(Vi 8,.func (.func 139) #[] #[])]) (kt:=3) (et:=179) (td:=.int .i64) (key:=Vi 9) (v:=.func (.func 140) #[] #[]) Tryz.underlying180 Tryz.underlying3 ?_; clear hJ a w; intro a w hJ
  replace hJ:K ⟨147,h.w,h.bad,[]⟩ [(0,Vi 8),(1,.slice (some ⟨b,o,none⟩) 2 cap),(4,Vp b1),(117,.map (some b2))] [.map b2 ([(Vi 5,.func (.func 136) #[] #[]),(Vi 6,.func (.func 137) #[] #[]),(Vi 7,.func (.func 138) #[] #[]),(Vi 8,.func (.func 139) #[] #[]),(Vi 9,.func (.func 140) #[] #[])]),.box b1 [Vi 0,Vi 0,Ve]] [(b,o + 1 * 3,[Vi y.k,Vi y.n,.string y.s]),(b,o + 0 * 3,[Vi x.k,Vi x.n,.string x.s])] h a w:=hJ.tw
  refine rk' hJ false 2 [] [] (.k (.ops [0,1,1,1] 8) [.seq [1,1,1,1]] [0,1,4] [(118,.map (some b2)),(119,Vi 8)]) ?_
  clear hJ a w; intro a w hJ
  refine fY hJ 120 (b:=b2) (t:=180) (mo:=(.tmp 118)) (ko:=(.tmp 119)) (c:=false) (es:=[(Vi 5,.func (.func 136) #[] #[]),(Vi 6,.func (.func 137) #[] #[]),(Vi 7,.func (.func 138) #[] #[]),(Vi 8,.func (.func 139) #[] #[]),(Vi 9,.func (.func 140) #[] #[])]) (kt:=3) (et:=179) (td:=.int .i64) (key:=Vi 8) (z:=.nilFunc) (v:=.func (.func 139) #[] #[]) (r:=some (3,.func (.func 139) #[] #[])) (hJ.map 0 (by kernel_rfl)) Tryz.underlying180 Tryz.underlying3 (by kernel_rfl) ?_; clear hJ a w; intro a w hJ
  refine rx' hJ false 4 [] [] (.ok (.code [0,1,1,1,1]) [.seq [1,1,1,1,1]] [(0,Vi 8),(1,.slice (some ⟨b,o,none⟩) 2 cap),(4,Vp b1),(7,.func (.func 139) #[] #[])] [.map b2 ([(Vi 5,.func (.func 136) #[] #[]),(Vi 6,.func (.func 137) #[] #[]),(Vi 7,.func (.func 138) #[] #[]),(Vi 8,.func (.func 139) #[] #[]),(Vi 9,.func (.func 140) #[] #[])]),.box b1 [Vi 0,Vi 0,Ve]] [(b,o + 1 * 3,[Vi y.k,Vi y.n,.string y.s]),(b,o + 0 * 3,[Vi x.k,Vi x.n,.string x.s])]) (fun _=>by kernel_rfl) ?_
  clear hJ a w; intro a w hJ
  let R:Reg:=⟨⟨147,h.w,h.bad,[]⟩,[(0,121,fun gh=>.slice (some ⟨b,o,none⟩) 2 cap),(1,122,fun gh=>.pointer (some ⟨b,o + 0 * 3,none⟩)),(2,123,fun gh=>.pointer (some ⟨b,o + 0 * 3 + 1,none⟩)),(3,124,fun gh=>Vi x.n),(4,125,fun gh=>.slice (some ⟨b,o,none⟩) 2 cap),(5,126,fun gh=>.slice (some ⟨b,o,none⟩) 2 cap),(6,127,fun gh=>Vi 2),(7,128,fun gh=>Vi 1),(8,129,fun gh=>.pointer (some ⟨b,o + 1 * 3,none⟩)),(9,130,fun gh=>.pointer (some ⟨b,o + 1 * 3 + 1,none⟩)),(10,131,fun gh=>Vi y.n),(11,8,fun gh=>Vi x.n),(12,9,fun gh=>Vi y.n)],[(0,Vi 8),(1,.slice (some ⟨b,o,none⟩) 2 cap),(4,Vp b1),(7,.func (.func 139) #[] #[])],[⟨some (.map b2 ([(Vi 5,.func (.func 136) #[] #[]),(Vi 6,.func (.func 137) #[] #[]),(Vi 7,.func (.func 138) #[] #[]),(Vi 8,.func (.func 139) #[] #[]),(Vi 9,.func (.func 140) #[] #[])])),[]⟩,⟨some (.box b1 [Vi 0,Vi 0,Ve]),[]⟩],[],[[],[0],[0,1],[0,1,2],[],[],[5],[5,6],[4,5,6,7],[4,5,6,7,8],[4,5,6,7,8,9],[0,1,2,3],[0,1,2,3,4,5,6,7,8,9,10,11]],h⟩
  have hmono:∀ zq∈R.F,∀ zx zh zi,Sees zh zi→zq.2 zx zh→zq.2 zx zi:=lJ
  refine iY (by kernel_rfl) R hJ 13 [.pu,.cl,.pu,.lf 1 1,.pu,.pu,.pu,.pu,.cl,.pu,.lf 0 1,.pu,.pu] (by kernel_rfl) hmono (fun _ _ _=>by kernel_rfl) (fun hT hA=>?_) ?_
  ·clear hJ
   refine And.intro (pW hT hA 122 (fun gh=>.pointer (some ⟨b,o + 0 * 3,none⟩)) [0] 1 (fun gh w=>fX (t:=32) (x:=(.tmp 121)) (y:=(.const (Vi 0))) (b:=b) (off:=o) (n:=2) (cap:=cap) (k:=0) (e:=38) (kk:=3) (by kernel_rfl) (by kernel_rfl) (by kernel_rfl) ((by decide)) Tryz.underlying32 (by kernel_rfl))) ?_
   refine And.intro (pW hT hA 129 (fun gh=>.pointer (some ⟨b,o + 1 * 3,none⟩)) [4,7] 8 (fun gh w=>fX (t:=32) (x:=(.tmp 125)) (y:=(.tmp 128)) (b:=b) (off:=o) (n:=2) (cap:=cap) (k:=1) (e:=38) (kk:=3) (by kernel_rfl) (by kernel_rfl) (by kernel_rfl) ((by decide)) Tryz.underlying32 (by kernel_rfl))) ?_
   trivial
  clear hJ a w; intro gh h3 a w sR hJ1 hF; have s4:Sees h h3:=sR; clear sR
  have hJ:K ⟨147,h.w,h.bad,[]⟩ [(0,Vi 8),(4,Vp b1),(7,.func (.func 139) #[] #[]),(8,Vi x.n),(9,Vi y.n)] [.map b2 ([(Vi 5,.func (.func 136) #[] #[]),(Vi 6,.func (.func 137) #[] #[]),(Vi 7,.func (.func 138) #[] #[]),(Vi 8,.func (.func 139) #[] #[]),(Vi 9,.func (.func 140) #[] #[])]),.box b1 [Vi 0,Vi 0,Ve]] [(b,o + 1 * 3,[Vi y.k,Vi y.n,.string y.s]),(b,o + 0 * 3,[Vi x.k,Vi x.n,.string x.s])] h3 a w:=hJ1.tw
  clear hJ1 hF hmono R
  clear gh
  refine rk' hJ false 31 [.cl 139 #[Vi x.n,Vi y.n] (.tuple #[Vi r.1,Vi r.2])] [] (.k (.code [1,0,1,1,1,1,1,1,1]) [.seq [1,1,1,1,1,1,1,1]] [4] [(10,Vi r.1),(11,Vi r.2),(142,.bool (r.2 != 0))]) (ho:=And.intro (fun H sH=>hn hq _) (trivial)) ?_
  clear hJ a w; intro a w hJ
  by_cases hc:r.2=0
  ·refine aY hJ (t:=r.2 != 0) (bne_eq_false_iff_eq.2 hc) ?_
   refine rk' hJ false 10 [.b 1 0] [] (.f (.out .ret) [] [4] [] [.map b2 ([(Vi 5,.func (.func 136) #[] #[]),(Vi 6,.func (.func 137) #[] #[]),(Vi 7,.func (.func 138) #[] #[]),(Vi 8,.func (.func 139) #[] #[]),(Vi 9,.func (.func 140) #[] #[])]),.box b1 [Vi 1,Vi r.1,Ve]] [.o 0,.o 1]) ?_
   clear hJ a w; intro a w hJ
   refine zX (hQ [.agg #[Vi 1,Vi r.1,Ve]] _ [] hJ (.rcel hJ.j 1 .nil) (fJ _) rfl ?_).1
   rw [hap,if_pos hq,if_pos hc]; rfl
  ·skip
   refine kY hJ (t:=r.2 != 0) (bne_iff_ne.2 hc) ?_
   refine rk' hJ false 9 [.cl 109 #[Vi r.2] (.agg #[Vi 5,Vi r.2,Ve]),.b 1 0] [] (.f (.out .ret) [] [4] [] [.map b2 ([(Vi 5,.func (.func 136) #[] #[]),(Vi 6,.func (.func 137) #[] #[]),(Vi 7,.func (.func 138) #[] #[]),(Vi 8,.func (.func 139) #[] #[]),(Vi 9,.func (.func 140) #[] #[])]),.box b1 [Vi 5,Vi r.2,Ve]] [.o 0,.o 1]) (ho:=And.intro (fun H sH=>yK _ _) (trivial)) ?_
   clear hJ a w; intro a w hJ
   refine zX (hQ [.agg #[Vi 5,Vi r.2,Ve]] _ [] hJ (.rcel hJ.j 1 .nil) (fJ _) rfl ?_).1
   rw [hap,if_pos hq,if_neg hc]; rfl
 ·skip
  refine kY hJ (t := !kv) ((by rw [show kv=false from by simpa using hq]; rfl)) ?_
  refine rk' hJ false 8 [.cl 109 #[Vi 9] (.agg #[Vi 5,Vi 9,Ve]),.b 0 0] [] (.f (.out .ret) [] [4] [] [.box b1 [Vi 5,Vi 9,Ve]] [.o 0,.o 1]) (ho:=And.intro (fun H sH=>yK 9 _) (trivial)) ?_
  clear hJ a w; intro a w hJ
  refine zX (hQ [.agg #[Vi 5,Vi 9,Ve]] _ [] hJ (.rcel hJ.j 0 .nil) (fJ _) rfl ?_).1
  rw [hap,if_neg hq]; rfl
theorem apply_9 (x y:Vl) (sl:Value) (h:Vw) (hr:RS h 3 sl (vrows [x,y])) (hk:∀ v∈[x,y],v.known):C0 Tryz.prog 113 #[.int .i64 9,sl] h (fun v _=>v=(oJ 9 [x,y]).val):=by
 obtain ⟨b,o,cap,rfl,c0⟩:=row0 hr
 have kx:=hk x (by simp)
 have ky:=hk y (by simp)
 have c1:Cells h b (o + 1 * 3) y.cells:=hr.cell (i:=1) rfl
 have hki:=fun H hq=>wQ [x,y] (.slice (some ⟨b,o,none⟩) 2 cap) 1 H hq (by simp)
 have hap:oJ 9 [x,y]=if vQ [x,y] 1=true then nrV 9 x.n y.n else xK 9:=by unfold oJ; rw [if_neg (by omega),if_neg (by omega),if_neg (by omega),if_neg (by omega),if_neg (by omega),hd0,hd1]
 have hnr:nrV 9 x.n y.n=if (oV 9 x.n y.n).2=0 then ⟨1,(oV 9 x.n y.n).1,⟨#[]⟩⟩ else xK (oV 9 x.n y.n).2:=rfl
 rw [hnr] at hap
 have hl:=fun q=>xQ (l:=[x,y]) hk q
 have hn:=fun (q:vQ [x,y] 1=true) H=>num_any 9 x.n y.n H (hl q x (by simp)) (hl q y (by simp))
 generalize oV 9 x.n y.n=r at *
 generalize vQ [x,y] 1=kv at *
 refine yX Tryz.func113 (c:=Tryz.f113.body.getD .skip) (N:=147) ?_
 intro hbx hbad Q hQ a w hJ
 replace hJ:K ⟨147,h.w,h.bad,[]⟩ [(0,Vi 9),(1,.slice (some ⟨b,o,none⟩) 2 cap)] [] [] h a w:=hJ.tw
 replace hJ:=hJ.fact (c0.sees (Sees.refl _))
 replace hJ:=hJ.fact (c1.sees (Sees.refl _))
 refine rk hJ false 72 [.own,.cl 135 #[.slice (some ⟨b,o,none⟩) 2 cap,Vi 1] (.bool kv)] [] (.new fun b1=>.f (.code [1,0,1,1]) [.seq [1,1,1]] [0,1] [(4,Vp b1),(115,.bool (!kv))] [.box b1 [Vi 0,Vi 0,Ve]] [.o 0,.o 1]) (And.intro (fun H sH=>hki _ (hr.sees sH)) (trivial)) trivial (fun b1 _=>by kernel_rfl) ?_
 clear hJ a w; intro b1 a w hJ
 by_cases hq:kv=true
 ·skip
  refine aY hJ (t := !kv) ((by rw [hq]; rfl)) ?_
  refine rk' hJ false 4 [] [] (.k (.ops [0,1,1,1] 0) [.seq [1,1,1,1]] [0,1,4] []) ?_
  clear hJ a w; intro a w hJ
  refine x_mapmake hJ 117 (by kernel_rfl) (by kernel_rfl) ?_; clear hJ a w; intro b2 a w hJ
  refine gY hJ 0 (b:=b2) (t:=180) (mo:=(.tmp 117)) (ko:=(.const (Vi 5))) (vo:=(.func 136)) (es:=[]) (kt:=3) (et:=179) (td:=.int .i64) (key:=Vi 5) (v:=.func (.func 136) #[] #[]) Tryz.underlying180 Tryz.underlying3 ?_; clear hJ a w; intro a w hJ
  replace hJ:K ⟨147,h.w,h.bad,[]⟩ [(0,Vi 9),(1,.slice (some ⟨b,o,none⟩) 2 cap),(4,Vp b1),(117,.map (some b2))] [.map b2 ([(Vi 5,.func (.func 136) #[] #[])]),.box b1 [Vi 0,Vi 0,Ve]] [(b,o + 1 * 3,[Vi y.k,Vi y.n,.string y.s]),(b,o + 0 * 3,[Vi x.k,Vi x.n,.string x.s])] h a w:=hJ.tw
  refine gY hJ 0 (b:=b2) (t:=180) (mo:=(.tmp 117)) (ko:=(.const (Vi 6))) (vo:=(.func 137)) (es:=[(Vi 5,.func (.func 136) #[] #[])]) (kt:=3) (et:=179) (td:=.int .i64) (key:=Vi 6) (v:=.func (.func 137) #[] #[]) Tryz.underlying180 Tryz.underlying3 ?_; clear hJ a w; intro a w hJ
  replace hJ:K ⟨147,h.w,h.bad,[]⟩ [(0,Vi 9),(1,.slice (some ⟨b,o,none⟩) 2 cap),(4,Vp b1),(117,.map (some b2))] [.map b2 ([(Vi 5,.func (.func 136) #[] #[]),(Vi 6,.func (.func 137) #[] #[])]),.box b1 [Vi 0,Vi 0,Ve]] [(b,o + 1 * 3,[Vi y.k,Vi y.n,.string y.s]),(b,o + 0 * 3,[Vi x.k,Vi x.n,.string x.s])] h a w:=hJ.tw
  refine gY hJ 0 (b:=b2) (t:=180) (mo:=(.tmp 117)) (ko:=(.const (Vi 7))) (vo:=(.func 138)) (es:=[(Vi 5,.func (.func 136) #[] #[]),(Vi 6,.func (.func 137) #[] #[])]) (kt:=3) (et:=179) (td:=.int .i64) (key:=Vi 7) (v:=.func (.func 138) #[] #[]) Tryz.underlying180 Tryz.underlying3 ?_; clear hJ a w; intro a w hJ
  replace hJ:K ⟨147,h.w,h.bad,[]⟩ [(0,Vi 9),(1,.slice (some ⟨b,o,none⟩) 2 cap),(4,Vp b1),(117,.map (some b2))] [.map b2 ([(Vi 5,.func (.func 136) #[] #[]),(Vi 6,.func (.func 137) #[] #[]),(Vi 7,.func (.func 138) #[] #[])]),.box b1 [Vi 0,Vi 0,Ve]] [(b,o + 1 * 3,[Vi y.k,Vi y.n,.string y.s]),(b,o + 0 * 3,[Vi x.k,Vi x.n,.string x.s])] h a w:=hJ.tw
  refine gY hJ 0 (b:=b2) (t:=180) (mo:=(.tmp 117)) (ko:=(.const (Vi 8))) (vo:=(.func 139)) (es:=[(Vi 5,.func (.func 136) #[] #[]),(Vi 6,.func (.func 137) #[] #[]),(Vi 7,.func (.func 138) #[] #[])]) (kt:=3) (et:=179) (td:=.int .i64) (key:=Vi 8) (v:=.func (.func 139) #[] #[]) Tryz.underlying180 Tryz.underlying3 ?_; clear hJ a w; intro a w hJ
  replace hJ:K ⟨147,h.w,h.bad,[]⟩ [(0,Vi 9),(1,.slice (some ⟨b,o,none⟩) 2 cap),(4,Vp b1),(117,.map (some b2))] [.map b2 ([(Vi 5,.func (.func 136) #[] #[]),(Vi 6,.func (.func 137) #[] #[]),(Vi 7,.func (.func 138) #[] #[]),(Vi 8,.func (.func 139) #[] #[])]),.box b1 [Vi 0,Vi 0,Ve]] [(b,o + 1 * 3,[Vi y.k,Vi y.n,.string y.s]),(b,o + 0 * 3,[Vi x.k,Vi x.n,.string x.s])] h a w:=hJ.tw
  refine gY hJ 0 (b:=b2) (t:=180) (mo:=(.tmp 117)) (ko:=(.const (Vi 9))) (vo:=(.func 140)) (es:=[(Vi 5,.func (.func 136) #[] #[]),(Vi 6,.func (.func 137) #[] #[]),(Vi 7,.func (.func 138) #[] #[]),(Vi 8,.func (.func 139) #[] #[])]) (kt:=3) (et:=179) (td:=.int .i64) (key:=Vi 9) (v:=.func (.func 140) #[] #[]) Tryz.underlying180 Tryz.underlying3 ?_; clear hJ a w; intro a w hJ
  replace hJ:K ⟨147,h.w,h.bad,[]⟩ [(0,Vi 9),(1,.slice (some ⟨b,o,none⟩) 2 cap),(4,Vp b1),(117,.map (some b2))] [.map b2 ([(Vi 5,.func (.func 136) #[] #[]),(Vi 6,.func (.func 137) #[] #[]),(Vi 7,.func (.func 138) #[] #[]),(Vi 8,.func (.func 139) #[] #[]),(Vi 9,.func (.func 140) #[] #[])]),.box b1 [Vi 0,Vi 0,Ve]] [(b,o + 1 * 3,[Vi y.k,Vi y.n,.string y.s]),(b,o + 0 * 3,[Vi x.k,Vi x.n,.string x.s])] h a w:=hJ.tw
  refine rk' hJ false 2 [] [] (.k (.ops [0,1,1,1] 8) [.seq [1,1,1,1]] [0,1,4] [(118,.map (some b2)),(119,Vi 9)]) ?_
  clear hJ a w; intro a w hJ
  refine fY hJ 120 (b:=b2) (t:=180) (mo:=(.tmp 118)) (ko:=(.tmp 119)) (c:=false) (es:=[(Vi 5,.func (.func 136) #[] #[]),(Vi 6,.func (.func 137) #[] #[]),(Vi 7,.func (.func 138) #[] #[]),(Vi 8,.func (.func 139) #[] #[]),(Vi 9,.func (.func 140) #[] #[])]) (kt:=3) (et:=179) (td:=.int .i64) (key:=Vi 9) (z:=.nilFunc) (v:=.func (.func 140) #[] #[]) (r:=some (4,.func (.func 140) #[] #[])) (hJ.map 0 (by kernel_rfl)) Tryz.underlying180 Tryz.underlying3 (by kernel_rfl) ?_; clear hJ a w; intro a w hJ
  refine rk' hJ false 4 [] [] (.k (.code [0,1,1,1,1]) [.seq [1,1,1,1,1]] [0,1,4] [(7,.func (.func 140) #[] #[])]) ?_
  clear hJ a w; intro a w hJ
  let R:Reg:=⟨⟨147,h.w,h.bad,[]⟩,[(0,121,fun gh=>.slice (some ⟨b,o,none⟩) 2 cap),(1,122,fun gh=>.pointer (some ⟨b,o + 0 * 3,none⟩)),(2,123,fun gh=>.pointer (some ⟨b,o + 0 * 3 + 1,none⟩)),(3,124,fun gh=>Vi x.n),(4,125,fun gh=>.slice (some ⟨b,o,none⟩) 2 cap),(5,126,fun gh=>.slice (some ⟨b,o,none⟩) 2 cap),(6,127,fun gh=>Vi 2),(7,128,fun gh=>Vi 1),(8,129,fun gh=>.pointer (some ⟨b,o + 1 * 3,none⟩)),(9,130,fun gh=>.pointer (some ⟨b,o + 1 * 3 + 1,none⟩)),(10,131,fun gh=>Vi y.n),(11,8,fun gh=>Vi x.n),(12,9,fun gh=>Vi y.n)],[(0,Vi 9),(1,.slice (some ⟨b,o,none⟩) 2 cap),(4,Vp b1),(7,.func (.func 140) #[] #[])],[⟨some (.map b2 ([(Vi 5,.func (.func 136) #[] #[]),(Vi 6,.func (.func 137) #[] #[]),(Vi 7,.func (.func 138) #[] #[]),(Vi 8,.func (.func 139) #[] #[]),(Vi 9,.func (.func 140) #[] #[])])),[]⟩,⟨some (.box b1 [Vi 0,Vi 0,Ve]),[]⟩],[],[[],[0],[0,1],[0,1,2],[],[],[5],[5,6],[4,5,6,7],[4,5,6,7,8],[4,5,6,7,8,9],[0,1,2,3],[0,1,2,3,4,5,6,7,8,9,10,11]],h⟩
  have hmono:∀ zq∈R.F,∀ zx zh zi,Sees zh zi→zq.2 zx zh→zq.2 zx zi:=lJ
  refine iY (by kernel_rfl) R hJ 13 [.pu,.cl,.pu,.lf 1 1,.pu,.pu,.pu,.pu,.cl,.pu,.lf 0 1,.pu,.pu] (by kernel_rfl) hmono (fun _ _ _=>by kernel_rfl) (fun hT hA=>?_) ?_
  ·clear hJ
   refine And.intro (pW hT hA 122 (fun gh=>.pointer (some ⟨b,o + 0 * 3,none⟩)) [0] 1 (fun gh w=>fX (t:=32) (x:=(.tmp 121)) (y:=(.const (Vi 0))) (b:=b) (off:=o) (n:=2) (cap:=cap) (k:=0) (e:=38) (kk:=3) (by kernel_rfl) (by kernel_rfl) (by kernel_rfl) ((by decide)) Tryz.underlying32 (by kernel_rfl))) ?_
   refine And.intro (pW hT hA 129 (fun gh=>.pointer (some ⟨b,o + 1 * 3,none⟩)) [4,7] 8 (fun gh w=>fX (t:=32) (x:=(.tmp 125)) (y:=(.tmp 128)) (b:=b) (off:=o) (n:=2) (cap:=cap) (k:=1) (e:=38) (kk:=3) (by kernel_rfl) (by kernel_rfl) (by kernel_rfl) ((by decide)) Tryz.underlying32 (by kernel_rfl))) ?_
   trivial
  clear hJ a w; intro gh h3 a w sR hJ1 hF; have s4:Sees h h3:=sR; clear sR
  have hJ:K ⟨147,h.w,h.bad,[]⟩ [(0,Vi 9),(4,Vp b1),(7,.func (.func 140) #[] #[]),(8,Vi x.n),(9,Vi y.n)] [.map b2 ([(Vi 5,.func (.func 136) #[] #[]),(Vi 6,.func (.func 137) #[] #[]),(Vi 7,.func (.func 138) #[] #[]),(Vi 8,.func (.func 139) #[] #[]),(Vi 9,.func (.func 140) #[] #[])]),.box b1 [Vi 0,Vi 0,Ve]] [(b,o + 1 * 3,[Vi y.k,Vi y.n,.string y.s]),(b,o + 0 * 3,[Vi x.k,Vi x.n,.string x.s])] h3 a w:=hJ1.tw
  clear hJ1 hF hmono R
  clear gh
  refine rx' hJ false 31 [.cl 140 #[Vi x.n,Vi y.n] (.tuple #[Vi r.1,Vi r.2])] [] (.ok (.code [1,0,1,1,1,1,1,1,1]) [.seq [1,1,1,1,1,1,1,1]] [(4,Vp b1),(10,Vi r.1),(11,Vi r.2),(142,.bool (r.2 != 0))] [.map b2 ([(Vi 5,.func (.func 136) #[] #[]),(Vi 6,.func (.func 137) #[] #[]),(Vi 7,.func (.func 138) #[] #[]),(Vi 8,.func (.func 139) #[] #[]),(Vi 9,.func (.func 140) #[] #[])]),.box b1 [Vi 0,Vi 0,Ve]] [(b,o + 1 * 3,[Vi y.k,Vi y.n,.string y.s]),(b,o + 0 * 3,[Vi x.k,Vi x.n,.string x.s])]) (ho:=And.intro (fun H sH=>hn hq _) (trivial)) (fun _=>by kernel_rfl) ?_
  clear hJ a w; intro a w hJ
  by_cases hc:r.2=0
  ·refine aY hJ (t:=r.2 != 0) (bne_eq_false_iff_eq.2 hc) ?_
   refine rk' hJ false 10 [.b 1 0] [] (.f (.out .ret) [] [4] [] [.map b2 ([(Vi 5,.func (.func 136) #[] #[]),(Vi 6,.func (.func 137) #[] #[]),(Vi 7,.func (.func 138) #[] #[]),(Vi 8,.func (.func 139) #[] #[]),(Vi 9,.func (.func 140) #[] #[])]),.box b1 [Vi 1,Vi r.1,Ve]] [.o 0,.o 1]) ?_
   clear hJ a w; intro a w hJ
   refine zX (hQ [.agg #[Vi 1,Vi r.1,Ve]] _ [] hJ (.rcel hJ.j 1 .nil) (fJ _) rfl ?_).1
   rw [hap,if_pos hq,if_pos hc]; rfl
  ·skip
   refine kY hJ (t:=r.2 != 0) (bne_iff_ne.2 hc) ?_
   refine rk' hJ false 9 [.cl 109 #[Vi r.2] (.agg #[Vi 5,Vi r.2,Ve]),.b 1 0] [] (.f (.out .ret) [] [4] [] [.map b2 ([(Vi 5,.func (.func 136) #[] #[]),(Vi 6,.func (.func 137) #[] #[]),(Vi 7,.func (.func 138) #[] #[]),(Vi 8,.func (.func 139) #[] #[]),(Vi 9,.func (.func 140) #[] #[])]),.box b1 [Vi 5,Vi r.2,Ve]] [.o 0,.o 1]) (ho:=And.intro (fun H sH=>yK _ _) (trivial)) ?_
   clear hJ a w; intro a w hJ
   refine zX (hQ [.agg #[Vi 5,Vi r.2,Ve]] _ [] hJ (.rcel hJ.j 1 .nil) (fJ _) rfl ?_).1
   rw [hap,if_pos hq,if_neg hc]; rfl
 ·skip
  refine kY hJ (t := !kv) ((by rw [show kv=false from by simpa using hq]; rfl)) ?_
  refine rk' hJ false 8 [.cl 109 #[Vi 9] (.agg #[Vi 5,Vi 9,Ve]),.b 0 0] [] (.f (.out .ret) [] [4] [] [.box b1 [Vi 5,Vi 9,Ve]] [.o 0,.o 1]) (ho:=And.intro (fun H sH=>yK 9 _) (trivial)) ?_
  clear hJ a w; intro a w hJ
  refine zX (hQ [.agg #[Vi 5,Vi 9,Ve]] _ [] hJ (.rcel hJ.j 0 .nil) (fJ _) rfl ?_).1
  rw [hap,if_neg hq]; rfl
theorem apply_any (op:Int) (l:List Vl) (sl:Value) (h:Vw) (hr:RS h 3 sl (vrows l)) (hk:∀ v∈l,v.known) (h1:3≤op) (h2:op≤18) (h15:op≠15) (h16:op≠16) (h17:op≠17) (hl:l.length=arity op) :
  C0 Tryz.prog 113 #[.int .i64 op,sl] h (fun v _=>v=(oJ op l).val):=by
 have e1:∀ {l:List Vl},l.length=1→∃ x,l=[x]:=fun {l} h=>by
  cases l with
  | nil=>cases h
  | cons x l=>cases l with
   | nil=>exact ⟨x,rfl⟩
   | cons y l=>simp at h
 have e2:∀ {l:List Vl},l.length=2→∃ x y,l=[x,y]:=fun {l} h=>by
  cases l with
  | nil=>cases h
  | cons x l =>
   cases l with
   | nil=>simp at h
   | cons y l=>cases l with
    | nil=>exact ⟨x,y,rfl⟩
    | cons z l=>simp at h
 obtain rfl | rfl | rfl | rfl | rfl | rfl | rfl | rfl | rfl | rfl | rfl | rfl | rfl:op=3∨op=4∨op=5∨op=6∨op=7∨op=8∨op=9∨op=10∨op=11∨op=12∨op=13∨op=14∨op=18:=by omega
 ·obtain ⟨x,rfl⟩:=e1 hl; exact apply_3 x sl h hr hk
 ·obtain ⟨x,rfl⟩:=e1 hl; exact apply_4 x sl h hr hk
 ·obtain ⟨x,y,rfl⟩:=e2 hl; exact apply_5 x y sl h hr hk
 ·obtain ⟨x,y,rfl⟩:=e2 hl; exact apply_6 x y sl h hr hk
 ·obtain ⟨x,y,rfl⟩:=e2 hl; exact apply_7 x y sl h hr hk
 ·obtain ⟨x,y,rfl⟩:=e2 hl; exact apply_8 x y sl h hr hk
 ·obtain ⟨x,y,rfl⟩:=e2 hl; exact apply_9 x y sl h hr hk
 ·obtain ⟨x,y,rfl⟩:=e2 hl; exact apply_10 x y sl h hr hk
 ·obtain ⟨x,y,rfl⟩:=e2 hl; exact apply_11 x y sl h hr hk
 ·obtain ⟨x,y,rfl⟩:=e2 hl; exact apply_12 x y sl h hr hk
 ·obtain ⟨x,y,rfl⟩:=e2 hl; exact apply_13 x y sl h hr hk
 ·obtain ⟨x,y,rfl⟩:=e2 hl; exact apply_14 x y sl h hr hk
 ·obtain ⟨x,rfl⟩:=e1 hl; exact apply_18 x sl h hr hk
end Go.Proofs.YthckljafinhepaaGreat
