/-
  The contract of eval.apply.
-/
import Derived.Test.YthckljafinhepaaGreatZM25
import Derived.Laws.Concat
set_option maxRecDepth 100000
namespace Go.Proofs.YthckljafinhepaaGreat
open Go.RowKit
theorem hd0 (x:Vl) (l:List Vl):hdV (x :: l) 0=x:=rfl
theorem hd1 (x y:Vl) (l:List Vl):hdV (x :: y :: l) 1=y:=rfl
theorem run_cat {t:TypeId} {a b:ByteArray} {w:World} (h:a.size + b.size≤1000):(binOp .add t (.string a) (.string b)).run Tryz.prog w=.ok (.string (a++b)) w:=by rw [binOp_string_add]; exact run_string_add_sum w a b (by omega)
theorem row0 {h:Vw} {x:Vl} {l:List Vl} {sl:Value} (hr:RS h 3 sl (vrows (x :: l))):∃ b o cap,sl=.slice (some ⟨b,o,none⟩) (l.length + 1) cap∧Cells h b (o + 0 * 3) x.cells:=by
 obtain ⟨A,cap,rfl,-,-,-⟩:=hr.form
 obtain ⟨b,o,rfl,-,c⟩:=hr.row (i:=0) (x:=x.cells) rfl
 refine ⟨b,o,cap,?_,c⟩
 simp
theorem dV {l:List Vl} (hk:∀ v∈l,v.known) (h:aV l 1=true):∀ v∈l,Lim v.n:=fun v hv=>by
 have h1:v.k=1:=by unfold aV at h; rw [List.all_eq_true] at h; simpa using h v hv
 rcases hk v hv with g | g | g
 ·exact g.2.1
 ·omega
 ·omega
theorem known_texts {l:List Vl} (hk:∀ v∈l,v.known) (h:aV l 3=true):∀ v∈l,v.s.size≤40:=fun v hv=>by
 have h1:v.k=3:=by unfold aV at h; rw [List.all_eq_true] at h; simpa using h v hv
 rcases hk v hv with g | g | g
 ·omega
 ·omega
 ·exact g.2.2.1
def cmpP (x y:Vl):Int × Int:=if x.k=y.k then (cmpV x.n y.n x.s.toList y.s.toList,0) else (0,9)
theorem cmp2 (x y:Vl) (h:Vw) (hx:x.known) (hy:y.known):C0 Tryz.prog 133 #[x.val,y.val] h (fun r _=>r=.tuple #[.int .i64 (cmpP x y).1,.int .i64 (cmpP x y).2]):=by
 have:=compare_any x y h hx hy
 unfold cmpP
 by_cases he:x.k=y.k
 ·simp only [if_pos he] at this ⊢; exact this
 ·simp only [if_neg he] at this ⊢; exact this
theorem apply_11 (x y:Vl) (sl:Value) (h:Vw) (hr:RS h 3 sl (vrows [x,y])) (hk:∀ v∈[x,y],v.known):C0 Tryz.prog 113 #[.int .i64 11,sl] h (fun v _=>v=(oJ 11 [x,y]).val):=by
 obtain ⟨b,o,cap,rfl,c0⟩:=row0 hr
 have kx:=hk x (by simp)
 have ky:=hk y (by simp)
 have c1:Cells h b (o + 1 * 3) y.cells:=hr.cell (i:=1) rfl
 have hcp:=fun H=>cmp2 x y H kx ky
 have hap:oJ 11 [x,y]=if x.k=y.k then truthV (cmpB 11 (cmpV x.n y.n x.s.toList y.s.toList)) else xK 9:=by unfold oJ; rw [if_pos (by omega),hd0,hd1]
 have hp:(x.k=y.k→cmpP x y=(cmpV x.n y.n x.s.toList y.s.toList,0))∧(x.k≠y.k→cmpP x y=(0,9)):=⟨fun e=>if_pos e,fun e=>if_neg e⟩
 generalize cmpP x y=p at *
 refine fY Tryz.func113 (c:=Tryz.f113.body.getD .skip) (N:=147) ?_
 intro hbx hbad Q hQ a w hJ
 replace hJ:K ⟨147,h.w,h.bad,[]⟩ [(0,Vi 11),(1,.slice (some ⟨b,o,none⟩) 2 cap)] [] [] h a w:=hJ.tw
 replace hJ:=hJ.fact (c0.sees (Sees.refl _))
 replace hJ:=hJ.fact (c1.sees (Sees.refl _))
 refine rk' hJ false 24 [.own] [] (.new fun b1=>.f (.code [0,0,1,0,1,0,1]) [.seq [1,0,1,0,1,0,1],.block 0,.seq [1,1]] [0,1] [(4,Vp b1)] [.box b1 [Vi 0,Vi 0,Ve]] [.o 0,.o 1]) (hr:=fun b1 _=>by kernel_rfl) ?_
 clear hJ a w; intro b1 a w hJ
 let R:Reg:=⟨⟨147,h.w,h.bad,[]⟩,[(0,19,fun gh=>.slice (some ⟨b,o,none⟩) 2 cap),(1,20,fun gh=>.pointer (some ⟨b,o + 0 * 3,none⟩)),(2,21,fun gh=>.agg #[Vi x.k,Vi x.n,.string x.s]),(3,22,fun gh=>.slice (some ⟨b,o,none⟩) 2 cap),(4,23,fun gh=>.pointer (some ⟨b,o + 1 * 3,none⟩)),(5,24,fun gh=>.agg #[Vi y.k,Vi y.n,.string y.s]),(6,25,fun gh=>.tuple #[Vi p.1,Vi p.2]),(7,18,fun gh=>.tuple #[Vi p.1,Vi p.2]),(8,26,fun gh=>Vi p.1),(9,27,fun gh=>Vi p.2),(10,5,fun gh=>Vi p.1),(11,6,fun gh=>Vi p.2)],[(0,Vi 11),(1,.slice (some ⟨b,o,none⟩) 2 cap),(4,Vp b1)],[⟨some (.box b1 [Vi 0,Vi 0,Ve]),[]⟩],[],[[],[0],[0,1],[],[3],[3,4],[0,1,2,3,4,5],[0,1,2,3,4,5,6],[0,1,2,3,4,5,6,7],[0,1,2,3,4,5,6,7],[0,1,2,3,4,5,6,7,8],[0,1,2,3,4,5,6,7,8,9,10]],h⟩
 have hmono:∀ zq∈R.F,∀ zx zh zi,Sees zh zi→zq.2 zx zh→zq.2 zx zi:=lJ
 refine oY (by kernel_rfl) R hJ 12 [.pu,.cl,.lf 1 0,.pu,.cl,.lf 0 0,.cl,.pu,.pu,.pu,.pu,.pu] (by kernel_rfl) hmono (fun _ _ _=>by kernel_rfl) (fun hT hA=>?_) ?_
 ·clear hJ
  refine And.intro (sW hT hA 20 (fun gh=>.pointer (some ⟨b,o + 0 * 3,none⟩)) [0] 1 (fun gh w=>jX (t:=32) (x:=(.tmp 19)) (y:=(.const (Vi 0))) (b:=b) (off:=o) (n:=2) (cap:=cap) (k:=0) (e:=38) (kk:=3) (by kernel_rfl) (by kernel_rfl) (by kernel_rfl) ((by decide)) Tryz.underlying32 (by kernel_rfl))) ?_
  refine And.intro (sW hT hA 23 (fun gh=>.pointer (some ⟨b,o + 1 * 3,none⟩)) [3] 4 (fun gh w=>jX (t:=32) (x:=(.tmp 22)) (y:=(.const (Vi 1))) (b:=b) (off:=o) (n:=2) (cap:=cap) (k:=1) (e:=38) (kk:=3) (by kernel_rfl) (by kernel_rfl) (by kernel_rfl) ((by decide)) Tryz.underlying32 (by kernel_rfl))) ?_
  refine And.intro (rW hT hA hmono 25 (fun gh=>.tuple #[Vi p.1,Vi p.2]) [2,5] 6 133 (fun gh=>#[.agg #[Vi x.k,Vi x.n,.string x.s],.agg #[Vi y.k,Vi y.n,.string y.s]]) (fun gh H sH fH lent=>hcp _)) ?_
  trivial
 clear hJ a w; intro gh h2 a w sR hJ1 hF; have s3:Sees h h2:=sR; clear sR
 have hJ:K ⟨147,h.w,h.bad,[]⟩ [(0,Vi 11),(4,Vp b1),(5,Vi p.1),(6,Vi p.2)] [.box b1 [Vi 0,Vi 0,Ve]] [(b,o + 1 * 3,[Vi y.k,Vi y.n,.string y.s]),(b,o + 0 * 3,[Vi x.k,Vi x.n,.string x.s])] h2 a w:=hJ1.tw
 clear hJ1 hF hmono R
 clear gh
 refine rk' hJ false 8 [] [] (.k (.code [1,0,1,0,1,0,1,0,1]) [.seq [1,1,0,1,0,1,0,1],.block 0,.seq [1,1]] [0,4,5,6] [(29,.bool (p.2 != 0))]) ?_
 clear hJ a w; intro a w hJ
 by_cases he:x.k=y.k
 ·have e:=hp.1 he
  refine iY hJ (t:=p.2 != 0) ((by rw [e]; rfl)) ?_
  refine rk' hJ false 11 [] [] (.k (.ops [0,1,1,0,1,0,1,0,1] 7) [.seq [1,1,1,0,1,0,1,0,1],.block 0,.seq [1,1]] [0,4,5] [(38,.bool (decide (p.1 < 0)))]) ?_
  clear hJ a w; intro a w hJ
  by_cases hc:p.1 < 0
  ·replace hJ:=hJ.rew 38 (v:=.bool (decide (p.1 < 0))) (v':=.bool true) (congrArg Value.bool (decide_eq_true hc)) (by kernel_rfl)
   replace hJ:K ⟨147,h.w,h.bad,[]⟩ [(0,Vi 11),(4,Vp b1),(5,Vi p.1),(38,.bool true)] [.box b1 [Vi 0,Vi 0,Ve]] [(b,o + 1 * 3,[Vi y.k,Vi y.n,.string y.s]),(b,o + 0 * 3,[Vi x.k,Vi x.n,.string x.s])] h2 a w:=hJ.to (by kernel_rfl) rfl rfl
   refine rk' hJ false 30 [.cl 134 #[.bool true] (.agg #[Vi 2,Vi 1,Ve]),.b 0 0] [] (.f (.out .ret) [] [4] [] [.box b1 [Vi 2,Vi 1,Ve]] [.o 0,.o 1]) (ho:=And.intro (fun H sH=>vX true _) (trivial)) ?_
   clear hJ a w; intro a w hJ
   rw [e] at hc
   have hb:cmpB 11 (cmpV x.n y.n x.s.toList y.s.toList)=true:=by simp only at hc; simp [cmpB,hc]
   refine gY (hQ [.agg #[Vi 2,Vi 1,Ve]] _ [] hJ (.rcel hJ.j 0 .nil) (fJ _) rfl ?_).1
   rw [hap,if_pos he,hb]; rfl
  ·skip
   replace hJ:=hJ.rew 38 (v:=.bool (decide (p.1 < 0))) (v':=.bool false) (congrArg Value.bool (decide_eq_false hc)) (by kernel_rfl)
   replace hJ:K ⟨147,h.w,h.bad,[]⟩ [(0,Vi 11),(4,Vp b1),(5,Vi p.1),(38,.bool false)] [.box b1 [Vi 0,Vi 0,Ve]] [(b,o + 1 * 3,[Vi y.k,Vi y.n,.string y.s]),(b,o + 0 * 3,[Vi x.k,Vi x.n,.string x.s])] h2 a w:=hJ.to (by kernel_rfl) rfl rfl
   refine rk' hJ false 30 [.cl 134 #[.bool false] (.agg #[Vi 2,Vi 0,Ve]),.b 0 0] [] (.f (.out .ret) [] [4] [] [.box b1 [Vi 2,Vi 0,Ve]] [.o 0,.o 1]) (ho:=And.intro (fun H sH=>vX false _) (trivial)) ?_
   clear hJ a w; intro a w hJ
   rw [e] at hc
   have hb:cmpB 11 (cmpV x.n y.n x.s.toList y.s.toList)=false:=by simp only at hc; simp [cmpB,hc]
   refine gY (hQ [.agg #[Vi 2,Vi 0,Ve]] _ [] hJ (.rcel hJ.j 0 .nil) (fJ _) rfl ?_).1
   rw [hap,if_pos he,hb]; rfl
 ·skip
  have e:=hp.2 he
  refine qY hJ (t:=p.2 != 0) ((by rw [e]; rfl)) ?_
  refine rk' hJ false 11 [.cl 109 #[Vi p.2] (.agg #[Vi 5,Vi p.2,Ve]),.b 0 0] [] (.f (.out .ret) [] [4] [] [.box b1 [Vi 5,Vi p.2,Ve]] [.o 0,.o 1]) (ho:=And.intro (fun H sH=>yK _ _) (trivial)) ?_
  clear hJ a w; intro a w hJ
  refine gY (hQ [.agg #[Vi 5,Vi p.2,Ve]] _ [] hJ (.rcel hJ.j 0 .nil) (fJ _) rfl ?_).1
  rw [hap,if_neg he,e]; rfl
theorem apply_12 (x y:Vl) (sl:Value) (h:Vw) (hr:RS h 3 sl (vrows [x,y])) (hk:∀ v∈[x,y],v.known):C0 Tryz.prog 113 #[.int .i64 12,sl] h (fun v _=>v=(oJ 12 [x,y]).val):=by
 obtain ⟨b,o,cap,rfl,c0⟩:=row0 hr
 have kx:=hk x (by simp)
 have ky:=hk y (by simp)
 have c1:Cells h b (o + 1 * 3) y.cells:=hr.cell (i:=1) rfl
 have hcp:=fun H=>cmp2 x y H kx ky
 have hap:oJ 12 [x,y]=if x.k=y.k then truthV (cmpB 12 (cmpV x.n y.n x.s.toList y.s.toList)) else xK 9:=by unfold oJ; rw [if_pos (by omega),hd0,hd1]
 have hp:(x.k=y.k→cmpP x y=(cmpV x.n y.n x.s.toList y.s.toList,0))∧(x.k≠y.k→cmpP x y=(0,9)):=⟨fun e=>if_pos e,fun e=>if_neg e⟩
 generalize cmpP x y=p at *
 refine fY Tryz.func113 (c:=Tryz.f113.body.getD .skip) (N:=147) ?_
 intro hbx hbad Q hQ a w hJ
 replace hJ:K ⟨147,h.w,h.bad,[]⟩ [(0,Vi 12),(1,.slice (some ⟨b,o,none⟩) 2 cap)] [] [] h a w:=hJ.tw
 replace hJ:=hJ.fact (c0.sees (Sees.refl _))
 replace hJ:=hJ.fact (c1.sees (Sees.refl _))
 refine rk' hJ false 31 [.own] [] (.new fun b1=>.f (.code [0,0,1,0,1,0,1]) [.seq [1,0,1,0,1,0,1],.block 0,.seq [1,1]] [0,1] [(4,Vp b1)] [.box b1 [Vi 0,Vi 0,Ve]] [.o 0,.o 1]) (hr:=fun b1 _=>by kernel_rfl) ?_
 clear hJ a w; intro b1 a w hJ
 let R:Reg:=⟨⟨147,h.w,h.bad,[]⟩,[(0,19,fun gh=>.slice (some ⟨b,o,none⟩) 2 cap),(1,20,fun gh=>.pointer (some ⟨b,o + 0 * 3,none⟩)),(2,21,fun gh=>.agg #[Vi x.k,Vi x.n,.string x.s]),(3,22,fun gh=>.slice (some ⟨b,o,none⟩) 2 cap),(4,23,fun gh=>.pointer (some ⟨b,o + 1 * 3,none⟩)),(5,24,fun gh=>.agg #[Vi y.k,Vi y.n,.string y.s]),(6,25,fun gh=>.tuple #[Vi p.1,Vi p.2]),(7,18,fun gh=>.tuple #[Vi p.1,Vi p.2]),(8,26,fun gh=>Vi p.1),(9,27,fun gh=>Vi p.2),(10,5,fun gh=>Vi p.1),(11,6,fun gh=>Vi p.2)],[(0,Vi 12),(1,.slice (some ⟨b,o,none⟩) 2 cap),(4,Vp b1)],[⟨some (.box b1 [Vi 0,Vi 0,Ve]),[]⟩],[],[[],[0],[0,1],[],[3],[3,4],[0,1,2,3,4,5],[0,1,2,3,4,5,6],[0,1,2,3,4,5,6,7],[0,1,2,3,4,5,6,7],[0,1,2,3,4,5,6,7,8],[0,1,2,3,4,5,6,7,8,9,10]],h⟩
 have hmono:∀ zq∈R.F,∀ zx zh zi,Sees zh zi→zq.2 zx zh→zq.2 zx zi:=lJ
 refine oY (by kernel_rfl) R hJ 12 [.pu,.cl,.lf 1 0,.pu,.cl,.lf 0 0,.cl,.pu,.pu,.pu,.pu,.pu] (by kernel_rfl) hmono (fun _ _ _=>by kernel_rfl) (fun hT hA=>?_) ?_
 ·clear hJ
  refine And.intro (sW hT hA 20 (fun gh=>.pointer (some ⟨b,o + 0 * 3,none⟩)) [0] 1 (fun gh w=>jX (t:=32) (x:=(.tmp 19)) (y:=(.const (Vi 0))) (b:=b) (off:=o) (n:=2) (cap:=cap) (k:=0) (e:=38) (kk:=3) (by kernel_rfl) (by kernel_rfl) (by kernel_rfl) ((by decide)) Tryz.underlying32 (by kernel_rfl))) ?_
  refine And.intro (sW hT hA 23 (fun gh=>.pointer (some ⟨b,o + 1 * 3,none⟩)) [3] 4 (fun gh w=>jX (t:=32) (x:=(.tmp 22)) (y:=(.const (Vi 1))) (b:=b) (off:=o) (n:=2) (cap:=cap) (k:=1) (e:=38) (kk:=3) (by kernel_rfl) (by kernel_rfl) (by kernel_rfl) ((by decide)) Tryz.underlying32 (by kernel_rfl))) ?_
  refine And.intro (rW hT hA hmono 25 (fun gh=>.tuple #[Vi p.1,Vi p.2]) [2,5] 6 133 (fun gh=>#[.agg #[Vi x.k,Vi x.n,.string x.s],.agg #[Vi y.k,Vi y.n,.string y.s]]) (fun gh H sH fH lent=>hcp _)) ?_
  trivial
 clear hJ a w; intro gh h2 a w sR hJ1 hF; have s3:Sees h h2:=sR; clear sR
 have hJ:K ⟨147,h.w,h.bad,[]⟩ [(0,Vi 12),(4,Vp b1),(5,Vi p.1),(6,Vi p.2)] [.box b1 [Vi 0,Vi 0,Ve]] [(b,o + 1 * 3,[Vi y.k,Vi y.n,.string y.s]),(b,o + 0 * 3,[Vi x.k,Vi x.n,.string x.s])] h2 a w:=hJ1.tw
 clear hJ1 hF hmono R
 clear gh
 refine rk' hJ false 8 [] [] (.k (.code [1,0,1,0,1,0,1,0,1]) [.seq [1,1,0,1,0,1,0,1],.block 0,.seq [1,1]] [0,4,5,6] [(29,.bool (p.2 != 0))]) ?_
 clear hJ a w; intro a w hJ
 by_cases he:x.k=y.k
 ·have e:=hp.1 he
  refine iY hJ (t:=p.2 != 0) ((by rw [e]; rfl)) ?_
  refine rx' hJ false 19 [] [] (.ok (.ops [0,1,1,0,1,0,1,0,1] 15) [.seq [1,1,1,0,1,0,1,0,1],.block 0,.seq [1,1]] [(0,Vi 12),(4,Vp b1),(5,Vi p.1),(46,.bool (decide (p.1≤0)))] [.box b1 [Vi 0,Vi 0,Ve]] [(b,o + 1 * 3,[Vi y.k,Vi y.n,.string y.s]),(b,o + 0 * 3,[Vi x.k,Vi x.n,.string x.s])]) (fun _=>by kernel_rfl) ?_
  clear hJ a w; intro a w hJ
  by_cases hc:p.1≤0
  ·replace hJ:=hJ.rew 46 (v:=.bool (decide (p.1≤0))) (v':=.bool true) (congrArg Value.bool (decide_eq_true hc)) (by kernel_rfl)
   replace hJ:K ⟨147,h.w,h.bad,[]⟩ [(0,Vi 12),(4,Vp b1),(5,Vi p.1),(46,.bool true)] [.box b1 [Vi 0,Vi 0,Ve]] [(b,o + 1 * 3,[Vi y.k,Vi y.n,.string y.s]),(b,o + 0 * 3,[Vi x.k,Vi x.n,.string x.s])] h2 a w:=hJ.to (by kernel_rfl) rfl rfl
   refine rk' hJ false 22 [.cl 134 #[.bool true] (.agg #[Vi 2,Vi 1,Ve]),.b 0 0] [] (.f (.out .ret) [] [4] [] [.box b1 [Vi 2,Vi 1,Ve]] [.o 0,.o 1]) (ho:=And.intro (fun H sH=>vX true _) (trivial)) ?_
   clear hJ a w; intro a w hJ
   rw [e] at hc
   have hb:cmpB 12 (cmpV x.n y.n x.s.toList y.s.toList)=true:=by simp only at hc; simp [cmpB,hc]
   refine gY (hQ [.agg #[Vi 2,Vi 1,Ve]] _ [] hJ (.rcel hJ.j 0 .nil) (fJ _) rfl ?_).1
   rw [hap,if_pos he,hb]; rfl
  ·skip
   replace hJ:=hJ.rew 46 (v:=.bool (decide (p.1≤0))) (v':=.bool false) (congrArg Value.bool (decide_eq_false hc)) (by kernel_rfl)
   replace hJ:K ⟨147,h.w,h.bad,[]⟩ [(0,Vi 12),(4,Vp b1),(5,Vi p.1),(46,.bool false)] [.box b1 [Vi 0,Vi 0,Ve]] [(b,o + 1 * 3,[Vi y.k,Vi y.n,.string y.s]),(b,o + 0 * 3,[Vi x.k,Vi x.n,.string x.s])] h2 a w:=hJ.to (by kernel_rfl) rfl rfl
   refine rk' hJ false 22 [.cl 134 #[.bool false] (.agg #[Vi 2,Vi 0,Ve]),.b 0 0] [] (.f (.out .ret) [] [4] [] [.box b1 [Vi 2,Vi 0,Ve]] [.o 0,.o 1]) (ho:=And.intro (fun H sH=>vX false _) (trivial)) ?_
   clear hJ a w; intro a w hJ
   rw [e] at hc
   have hb:cmpB 12 (cmpV x.n y.n x.s.toList y.s.toList)=false:=by simp only at hc; simp [cmpB,hc]
   refine gY (hQ [.agg #[Vi 2,Vi 0,Ve]] _ [] hJ (.rcel hJ.j 0 .nil) (fJ _) rfl ?_).1
   rw [hap,if_pos he,hb]; rfl
 ·skip
  have e:=hp.2 he
  refine qY hJ (t:=p.2 != 0) ((by rw [e]; rfl)) ?_
  refine rk' hJ false 11 [.cl 109 #[Vi p.2] (.agg #[Vi 5,Vi p.2,Ve]),.b 0 0] [] (.f (.out .ret) [] [4] [] [.box b1 [Vi 5,Vi p.2,Ve]] [.o 0,.o 1]) (ho:=And.intro (fun H sH=>yK _ _) (trivial)) ?_
  clear hJ a w; intro a w hJ
  refine gY (hQ [.agg #[Vi 5,Vi p.2,Ve]] _ [] hJ (.rcel hJ.j 0 .nil) (fJ _) rfl ?_).1
  rw [hap,if_neg he,e]; rfl
theorem apply_13 (x y:Vl) (sl:Value) (h:Vw) (hr:RS h 3 sl (vrows [x,y])) (hk:∀ v∈[x,y],v.known):C0 Tryz.prog 113 #[.int .i64 13,sl] h (fun v _=>v=(oJ 13 [x,y]).val):=by
 obtain ⟨b,o,cap,rfl,c0⟩:=row0 hr
 have kx:=hk x (by simp)
 have ky:=hk y (by simp)
 have c1:Cells h b (o + 1 * 3) y.cells:=hr.cell (i:=1) rfl
 have hcp:=fun H=>cmp2 x y H kx ky
 have hap:oJ 13 [x,y]=if x.k=y.k then truthV (cmpB 13 (cmpV x.n y.n x.s.toList y.s.toList)) else xK 9:=by unfold oJ; rw [if_pos (by omega),hd0,hd1]
 have hp:(x.k=y.k→cmpP x y=(cmpV x.n y.n x.s.toList y.s.toList,0))∧(x.k≠y.k→cmpP x y=(0,9)):=⟨fun e=>if_pos e,fun e=>if_neg e⟩
 generalize cmpP x y=p at *
 refine fY Tryz.func113 (c:=Tryz.f113.body.getD .skip) (N:=147) ?_
 intro hbx hbad Q hQ a w hJ
 replace hJ:K ⟨147,h.w,h.bad,[]⟩ [(0,Vi 13),(1,.slice (some ⟨b,o,none⟩) 2 cap)] [] [] h a w:=hJ.tw
 replace hJ:=hJ.fact (c0.sees (Sees.refl _))
 replace hJ:=hJ.fact (c1.sees (Sees.refl _))
 refine rk' hJ false 38 [.own] [] (.new fun b1=>.f (.code [0,0,1,0,1,0,1]) [.seq [1,0,1,0,1,0,1],.block 0,.seq [1,1]] [0,1] [(4,Vp b1)] [.box b1 [Vi 0,Vi 0,Ve]] [.o 0,.o 1]) (hr:=fun b1 _=>by kernel_rfl) ?_
 clear hJ a w; intro b1 a w hJ
 let R:Reg:=⟨⟨147,h.w,h.bad,[]⟩,[(0,19,fun gh=>.slice (some ⟨b,o,none⟩) 2 cap),(1,20,fun gh=>.pointer (some ⟨b,o + 0 * 3,none⟩)),(2,21,fun gh=>.agg #[Vi x.k,Vi x.n,.string x.s]),(3,22,fun gh=>.slice (some ⟨b,o,none⟩) 2 cap),(4,23,fun gh=>.pointer (some ⟨b,o + 1 * 3,none⟩)),(5,24,fun gh=>.agg #[Vi y.k,Vi y.n,.string y.s]),(6,25,fun gh=>.tuple #[Vi p.1,Vi p.2]),(7,18,fun gh=>.tuple #[Vi p.1,Vi p.2]),(8,26,fun gh=>Vi p.1),(9,27,fun gh=>Vi p.2),(10,5,fun gh=>Vi p.1),(11,6,fun gh=>Vi p.2)],[(0,Vi 13),(1,.slice (some ⟨b,o,none⟩) 2 cap),(4,Vp b1)],[⟨some (.box b1 [Vi 0,Vi 0,Ve]),[]⟩],[],[[],[0],[0,1],[],[3],[3,4],[0,1,2,3,4,5],[0,1,2,3,4,5,6],[0,1,2,3,4,5,6,7],[0,1,2,3,4,5,6,7],[0,1,2,3,4,5,6,7,8],[0,1,2,3,4,5,6,7,8,9,10]],h⟩
 have hmono:∀ zq∈R.F,∀ zx zh zi,Sees zh zi→zq.2 zx zh→zq.2 zx zi:=lJ
 refine oY (by kernel_rfl) R hJ 12 [.pu,.cl,.lf 1 0,.pu,.cl,.lf 0 0,.cl,.pu,.pu,.pu,.pu,.pu] (by kernel_rfl) hmono (fun _ _ _=>by kernel_rfl) (fun hT hA=>?_) ?_
 ·clear hJ
  refine And.intro (sW hT hA 20 (fun gh=>.pointer (some ⟨b,o + 0 * 3,none⟩)) [0] 1 (fun gh w=>jX (t:=32) (x:=(.tmp 19)) (y:=(.const (Vi 0))) (b:=b) (off:=o) (n:=2) (cap:=cap) (k:=0) (e:=38) (kk:=3) (by kernel_rfl) (by kernel_rfl) (by kernel_rfl) ((by decide)) Tryz.underlying32 (by kernel_rfl))) ?_
  refine And.intro (sW hT hA 23 (fun gh=>.pointer (some ⟨b,o + 1 * 3,none⟩)) [3] 4 (fun gh w=>jX (t:=32) (x:=(.tmp 22)) (y:=(.const (Vi 1))) (b:=b) (off:=o) (n:=2) (cap:=cap) (k:=1) (e:=38) (kk:=3) (by kernel_rfl) (by kernel_rfl) (by kernel_rfl) ((by decide)) Tryz.underlying32 (by kernel_rfl))) ?_
  refine And.intro (rW hT hA hmono 25 (fun gh=>.tuple #[Vi p.1,Vi p.2]) [2,5] 6 133 (fun gh=>#[.agg #[Vi x.k,Vi x.n,.string x.s],.agg #[Vi y.k,Vi y.n,.string y.s]]) (fun gh H sH fH lent=>hcp _)) ?_
  trivial
 clear hJ a w; intro gh h2 a w sR hJ1 hF; have s3:Sees h h2:=sR; clear sR
 have hJ:K ⟨147,h.w,h.bad,[]⟩ [(0,Vi 13),(4,Vp b1),(5,Vi p.1),(6,Vi p.2)] [.box b1 [Vi 0,Vi 0,Ve]] [(b,o + 1 * 3,[Vi y.k,Vi y.n,.string y.s]),(b,o + 0 * 3,[Vi x.k,Vi x.n,.string x.s])] h2 a w:=hJ1.tw
 clear hJ1 hF hmono R
 clear gh
 refine rk' hJ false 8 [] [] (.k (.code [1,0,1,0,1,0,1,0,1]) [.seq [1,1,0,1,0,1,0,1],.block 0,.seq [1,1]] [0,4,5,6] [(29,.bool (p.2 != 0))]) ?_
 clear hJ a w; intro a w hJ
 by_cases he:x.k=y.k
 ·have e:=hp.1 he
  refine iY hJ (t:=p.2 != 0) ((by rw [e]; rfl)) ?_
  refine rk' hJ false 27 [] [] (.k (.ops [0,1,1,0,1,0,1,0,1] 23) [.seq [1,1,1,0,1,0,1,0,1],.block 0,.seq [1,1]] [0,4,5] [(54,.bool (p.1 == 0))]) ?_
  clear hJ a w; intro a w hJ
  by_cases hc:p.1=0
  ·replace hJ:=hJ.rew 54 (v:=.bool (p.1 == 0)) (v':=.bool true) (congrArg Value.bool (beq_iff_eq.2 hc)) (by kernel_rfl)
   replace hJ:K ⟨147,h.w,h.bad,[]⟩ [(0,Vi 13),(4,Vp b1),(5,Vi p.1),(54,.bool true)] [.box b1 [Vi 0,Vi 0,Ve]] [(b,o + 1 * 3,[Vi y.k,Vi y.n,.string y.s]),(b,o + 0 * 3,[Vi x.k,Vi x.n,.string x.s])] h2 a w:=hJ.to (by kernel_rfl) rfl rfl
   refine rk' hJ false 14 [.cl 134 #[.bool true] (.agg #[Vi 2,Vi 1,Ve]),.b 0 0] [] (.f (.out .ret) [] [4] [] [.box b1 [Vi 2,Vi 1,Ve]] [.o 0,.o 1]) (ho:=And.intro (fun H sH=>vX true _) (trivial)) ?_
   clear hJ a w; intro a w hJ
   rw [e] at hc
   have hb:cmpB 13 (cmpV x.n y.n x.s.toList y.s.toList)=true:=by simp only at hc; simp [cmpB,hc]
   refine gY (hQ [.agg #[Vi 2,Vi 1,Ve]] _ [] hJ (.rcel hJ.j 0 .nil) (fJ _) rfl ?_).1
   rw [hap,if_pos he,hb]; rfl
  ·skip
   replace hJ:=hJ.rew 54 (v:=.bool (p.1 == 0)) (v':=.bool false) (congrArg Value.bool (beq_eq_false_iff_ne.2 hc)) (by kernel_rfl)
   replace hJ:K ⟨147,h.w,h.bad,[]⟩ [(0,Vi 13),(4,Vp b1),(5,Vi p.1),(54,.bool false)] [.box b1 [Vi 0,Vi 0,Ve]] [(b,o + 1 * 3,[Vi y.k,Vi y.n,.string y.s]),(b,o + 0 * 3,[Vi x.k,Vi x.n,.string x.s])] h2 a w:=hJ.to (by kernel_rfl) rfl rfl
   refine rk' hJ false 14 [.cl 134 #[.bool false] (.agg #[Vi 2,Vi 0,Ve]),.b 0 0] [] (.f (.out .ret) [] [4] [] [.box b1 [Vi 2,Vi 0,Ve]] [.o 0,.o 1]) (ho:=And.intro (fun H sH=>vX false _) (trivial)) ?_
   clear hJ a w; intro a w hJ
   rw [e] at hc
   have hb:cmpB 13 (cmpV x.n y.n x.s.toList y.s.toList)=false:=by simp only at hc; simp [cmpB,hc]
   refine gY (hQ [.agg #[Vi 2,Vi 0,Ve]] _ [] hJ (.rcel hJ.j 0 .nil) (fJ _) rfl ?_).1
   rw [hap,if_pos he,hb]; rfl
 ·skip
  have e:=hp.2 he
  refine qY hJ (t:=p.2 != 0) ((by rw [e]; rfl)) ?_
  refine rx' hJ false 11 [.cl 109 #[Vi p.2] (.agg #[Vi 5,Vi p.2,Ve]),.b 0 0] [] (.ok (.out .ret) [] [(4,Vp b1)] [.box b1 [Vi 5,Vi p.2,Ve]] [(b,o + 1 * 3,[Vi y.k,Vi y.n,.string y.s]),(b,o + 0 * 3,[Vi x.k,Vi x.n,.string x.s])]) (ho:=And.intro (fun H sH=>yK _ _) (trivial)) (fun _=>by kernel_rfl) ?_
  clear hJ a w; intro a w hJ
  refine gY (hQ [.agg #[Vi 5,Vi p.2,Ve]] _ [] hJ (.rcel hJ.j 0 .nil) (fJ _) rfl ?_).1
  rw [hap,if_neg he,e]; rfl
theorem apply_14 (x y:Vl) (sl:Value) (h:Vw) (hr:RS h 3 sl (vrows [x,y])) (hk:∀ v∈[x,y],v.known):C0 Tryz.prog 113 #[.int .i64 14,sl] h (fun v _=>v=(oJ 14 [x,y]).val):=by
 obtain ⟨b,o,cap,rfl,c0⟩:=row0 hr
 have kx:=hk x (by simp)
 have ky:=hk y (by simp)
 have c1:Cells h b (o + 1 * 3) y.cells:=hr.cell (i:=1) rfl
 have hcp:=fun H=>cmp2 x y H kx ky
 have hap:oJ 14 [x,y]=if x.k=y.k then truthV (cmpB 14 (cmpV x.n y.n x.s.toList y.s.toList)) else xK 9:=by unfold oJ; rw [if_pos (by omega),hd0,hd1]
 have hp:(x.k=y.k→cmpP x y=(cmpV x.n y.n x.s.toList y.s.toList,0))∧(x.k≠y.k→cmpP x y=(0,9)):=⟨fun e=>if_pos e,fun e=>if_neg e⟩
 generalize cmpP x y=p at *
 refine fY Tryz.func113 (c:=Tryz.f113.body.getD .skip) (N:=147) ?_
 intro hbx hbad Q hQ a w hJ
 replace hJ:K ⟨147,h.w,h.bad,[]⟩ [(0,Vi 14),(1,.slice (some ⟨b,o,none⟩) 2 cap)] [] [] h a w:=hJ.tw
 replace hJ:=hJ.fact (c0.sees (Sees.refl _))
 replace hJ:=hJ.fact (c1.sees (Sees.refl _))
 refine rk' hJ false 41 [.own] [] (.new fun b1=>.f (.code [0,0,1,0,1,0,1]) [.seq [1,0,1,0,1,0,1],.block 0,.seq [1,1]] [0,1] [(4,Vp b1)] [.box b1 [Vi 0,Vi 0,Ve]] [.o 0,.o 1]) (hr:=fun b1 _=>by kernel_rfl) ?_
 clear hJ a w; intro b1 a w hJ
 let R:Reg:=⟨⟨147,h.w,h.bad,[]⟩,[(0,19,fun gh=>.slice (some ⟨b,o,none⟩) 2 cap),(1,20,fun gh=>.pointer (some ⟨b,o + 0 * 3,none⟩)),(2,21,fun gh=>.agg #[Vi x.k,Vi x.n,.string x.s]),(3,22,fun gh=>.slice (some ⟨b,o,none⟩) 2 cap),(4,23,fun gh=>.pointer (some ⟨b,o + 1 * 3,none⟩)),(5,24,fun gh=>.agg #[Vi y.k,Vi y.n,.string y.s]),(6,25,fun gh=>.tuple #[Vi p.1,Vi p.2]),(7,18,fun gh=>.tuple #[Vi p.1,Vi p.2]),(8,26,fun gh=>Vi p.1),(9,27,fun gh=>Vi p.2),(10,5,fun gh=>Vi p.1),(11,6,fun gh=>Vi p.2)],[(0,Vi 14),(1,.slice (some ⟨b,o,none⟩) 2 cap),(4,Vp b1)],[⟨some (.box b1 [Vi 0,Vi 0,Ve]),[]⟩],[],[[],[0],[0,1],[],[3],[3,4],[0,1,2,3,4,5],[0,1,2,3,4,5,6],[0,1,2,3,4,5,6,7],[0,1,2,3,4,5,6,7],[0,1,2,3,4,5,6,7,8],[0,1,2,3,4,5,6,7,8,9,10]],h⟩
 have hmono:∀ zq∈R.F,∀ zx zh zi,Sees zh zi→zq.2 zx zh→zq.2 zx zi:=lJ
 refine oY (by kernel_rfl) R hJ 12 [.pu,.cl,.lf 1 0,.pu,.cl,.lf 0 0,.cl,.pu,.pu,.pu,.pu,.pu] (by kernel_rfl) hmono (fun _ _ _=>by kernel_rfl) (fun hT hA=>?_) ?_
 ·clear hJ
  refine And.intro (sW hT hA 20 (fun gh=>.pointer (some ⟨b,o + 0 * 3,none⟩)) [0] 1 (fun gh w=>jX (t:=32) (x:=(.tmp 19)) (y:=(.const (Vi 0))) (b:=b) (off:=o) (n:=2) (cap:=cap) (k:=0) (e:=38) (kk:=3) (by kernel_rfl) (by kernel_rfl) (by kernel_rfl) ((by decide)) Tryz.underlying32 (by kernel_rfl))) ?_
  refine And.intro (sW hT hA 23 (fun gh=>.pointer (some ⟨b,o + 1 * 3,none⟩)) [3] 4 (fun gh w=>jX (t:=32) (x:=(.tmp 22)) (y:=(.const (Vi 1))) (b:=b) (off:=o) (n:=2) (cap:=cap) (k:=1) (e:=38) (kk:=3) (by kernel_rfl) (by kernel_rfl) (by kernel_rfl) ((by decide)) Tryz.underlying32 (by kernel_rfl))) ?_
  refine And.intro (rW hT hA hmono 25 (fun gh=>.tuple #[Vi p.1,Vi p.2]) [2,5] 6 133 (fun gh=>#[.agg #[Vi x.k,Vi x.n,.string x.s],.agg #[Vi y.k,Vi y.n,.string y.s]]) (fun gh H sH fH lent=>hcp _)) ?_
  trivial
 clear hJ a w; intro gh h2 a w sR hJ1 hF; have s3:Sees h h2:=sR; clear sR
 have hJ:K ⟨147,h.w,h.bad,[]⟩ [(0,Vi 14),(4,Vp b1),(5,Vi p.1),(6,Vi p.2)] [.box b1 [Vi 0,Vi 0,Ve]] [(b,o + 1 * 3,[Vi y.k,Vi y.n,.string y.s]),(b,o + 0 * 3,[Vi x.k,Vi x.n,.string x.s])] h2 a w:=hJ1.tw
 clear hJ1 hF hmono R
 clear gh
 refine rk' hJ false 8 [] [] (.k (.code [1,0,1,0,1,0,1,0,1]) [.seq [1,1,0,1,0,1,0,1],.block 0,.seq [1,1]] [0,4,5,6] [(29,.bool (p.2 != 0))]) ?_
 clear hJ a w; intro a w hJ
 by_cases he:x.k=y.k
 ·have e:=hp.1 he
  refine iY hJ (t:=p.2 != 0) ((by rw [e]; rfl)) ?_
  refine rk' hJ false 34 [] [] (.k (.ops [0,1,1,0,1,0,1,0,1] 30) [.seq [1,1,1,0,1,0,1,0,1],.block 0,.seq [1,1]] [4] [(61,.bool (p.1 != 0))]) ?_
  clear hJ a w; intro a w hJ
  by_cases hc:p.1≠0
  ·replace hJ:=hJ.rew 61 (v:=.bool (p.1 != 0)) (v':=.bool true) (congrArg Value.bool (bne_iff_ne.2 hc)) (by kernel_rfl)
   replace hJ:K ⟨147,h.w,h.bad,[]⟩ [(4,Vp b1),(61,.bool true)] [.box b1 [Vi 0,Vi 0,Ve]] [(b,o + 1 * 3,[Vi y.k,Vi y.n,.string y.s]),(b,o + 0 * 3,[Vi x.k,Vi x.n,.string x.s])] h2 a w:=hJ.to (by kernel_rfl) rfl rfl
   refine rk' hJ false 7 [.cl 134 #[.bool true] (.agg #[Vi 2,Vi 1,Ve]),.b 0 0] [] (.f (.out .ret) [] [4] [] [.box b1 [Vi 2,Vi 1,Ve]] [.o 0,.o 1]) (ho:=And.intro (fun H sH=>vX true _) (trivial)) ?_
   clear hJ a w; intro a w hJ
   rw [e] at hc
   have hb:cmpB 14 (cmpV x.n y.n x.s.toList y.s.toList)=true:=by simp only at hc; simp [cmpB,hc]
   refine gY (hQ [.agg #[Vi 2,Vi 1,Ve]] _ [] hJ (.rcel hJ.j 0 .nil) (fJ _) rfl ?_).1
   rw [hap,if_pos he,hb]; rfl
  ·skip
   replace hJ:=hJ.rew 61 (v:=.bool (p.1 != 0)) (v':=.bool false) (congrArg Value.bool (bne_eq_false_iff_eq.2 (Decidable.not_not.1 hc))) (by kernel_rfl)
   replace hJ:K ⟨147,h.w,h.bad,[]⟩ [(4,Vp b1),(61,.bool false)] [.box b1 [Vi 0,Vi 0,Ve]] [(b,o + 1 * 3,[Vi y.k,Vi y.n,.string y.s]),(b,o + 0 * 3,[Vi x.k,Vi x.n,.string x.s])] h2 a w:=hJ.to (by kernel_rfl) rfl rfl
   refine rk' hJ false 7 [.cl 134 #[.bool false] (.agg #[Vi 2,Vi 0,Ve]),.b 0 0] [] (.f (.out .ret) [] [4] [] [.box b1 [Vi 2,Vi 0,Ve]] [.o 0,.o 1]) (ho:=And.intro (fun H sH=>vX false _) (trivial)) ?_
   clear hJ a w; intro a w hJ
   rw [e] at hc
   have hb:cmpB 14 (cmpV x.n y.n x.s.toList y.s.toList)=false:=by simp only at hc; simp [cmpB,Decidable.not_not.1 hc]
   refine gY (hQ [.agg #[Vi 2,Vi 0,Ve]] _ [] hJ (.rcel hJ.j 0 .nil) (fJ _) rfl ?_).1
   rw [hap,if_pos he,hb]; rfl
 ·skip
  have e:=hp.2 he
  refine qY hJ (t:=p.2 != 0) ((by rw [e]; rfl)) ?_
  refine rk' hJ false 11 [.cl 109 #[Vi p.2] (.agg #[Vi 5,Vi p.2,Ve]),.b 0 0] [] (.f (.out .ret) [] [4] [] [.box b1 [Vi 5,Vi p.2,Ve]] [.o 0,.o 1]) (ho:=And.intro (fun H sH=>yK _ _) (trivial)) ?_
  clear hJ a w; intro a w hJ
  refine gY (hQ [.agg #[Vi 5,Vi p.2,Ve]] _ [] hJ (.rcel hJ.j 0 .nil) (fJ _) rfl ?_).1
  rw [hap,if_neg he,e]; rfl
theorem apply_4 (x:Vl) (sl:Value) (h:Vw) (hr:RS h 3 sl (vrows [x])) (hk:∀ v∈[x],v.known):C0 Tryz.prog 113 #[.int .i64 4,sl] h (fun v _=>v=(oJ 4 [x]).val):=by
 obtain ⟨b,o,cap,rfl,c0⟩:=row0 hr
 have kx:=hk x (by simp)
 have hki:=fun H hq kd=>cV [x] (.slice (some ⟨b,o,none⟩) 1 cap) kd H hq (by simp)
 by_cases hq:aV [x] 2=true
 ·rw [show oJ 4 [x]=truthV (x.n == 0) from by unfold oJ; rw [if_neg (by omega),if_pos rfl,hd0,if_pos hq]]
  refine fY Tryz.func113 (c:=Tryz.f113.body.getD .skip) (N:=147) ?_
  intro hbx hbad Q hQ a w hJ
  replace hJ:K ⟨147,h.w,h.bad,[]⟩ [(0,Vi 4),(1,.slice (some ⟨b,o,none⟩) 1 cap)] [] [] h a w:=hJ.tw
  replace hJ:=hJ.fact (c0.sees (Sees.refl _))
  refine rk hJ false 72 [.own,.cl 135 #[.slice (some ⟨b,o,none⟩) 1 cap,Vi 2] (.bool true),.ix b o 1 cap 0,.f 0 1,.cl 134 #[.bool (x.n == 0)] (.agg #[Vi 2,Vi (if (x.n == 0)=true then 1 else 0),Ve]),.b 0 0] [] (.new fun b1=>.f (.out .ret) [] [] [(4,Vp b1)] [.box b1 [Vi 2,Vi (if (x.n == 0)=true then 1 else 0),Ve]] [.o 0]) (And.intro (fun H sH=>hq ▸ hki _ (hr.sees sH) 2) (And.intro ((by decide)) (And.intro (fun H sH=>vX (x.n == 0) _) (trivial)))) trivial (fun b1 _=>by kernel_rfl) ?_
  clear hJ a w; intro b1 a w hJ
  refine gY (hQ [.agg #[Vi 2,Vi (if (x.n == 0)=true then 1 else 0),Ve]] _ [] hJ (.rcel hJ.j 0 .nil) (fJ _) rfl ?_).1
  exact rfl
 ·have hq':aV [x] 2=false:=by simpa using hq
  rw [show oJ 4 [x]=xK 9 from by unfold oJ; rw [if_neg (by omega),if_pos rfl,hd0,if_neg hq]]
  refine fY Tryz.func113 (c:=Tryz.f113.body.getD .skip) (N:=147) ?_
  intro hbx hbad Q hQ a w hJ
  replace hJ:K ⟨147,h.w,h.bad,[]⟩ [(0,Vi 4),(1,.slice (some ⟨b,o,none⟩) 1 cap)] [] [] h a w:=hJ.tw
  replace hJ:=hJ.fact (c0.sees (Sees.refl _))
  refine rk hJ false 66 [.own,.cl 135 #[.slice (some ⟨b,o,none⟩) 1 cap,Vi 2] (.bool false),.cl 109 #[Vi 9] (.agg #[Vi 5,Vi 9,Ve]),.b 0 0] [] (.new fun b1=>.f (.out .ret) [] [] [(4,Vp b1)] [.box b1 [Vi 5,Vi 9,Ve]] [.o 0]) (And.intro (fun H sH=>hq' ▸ hki _ (hr.sees sH) 2) (And.intro (fun H sH=>yK 9 _) (trivial))) trivial (fun b1 _=>by kernel_rfl) ?_
  clear hJ a w; intro b1 a w hJ
  refine gY (hQ [.agg #[Vi 5,Vi 9,Ve]] _ [] hJ (.rcel hJ.j 0 .nil) (fJ _) rfl ?_).1
  exact rfl
theorem apply_18 (x:Vl) (sl:Value) (h:Vw) (hr:RS h 3 sl (vrows [x])) (hk:∀ v∈[x],v.known):C0 Tryz.prog 113 #[.int .i64 18,sl] h (fun v _=>v=(oJ 18 [x]).val):=by
 obtain ⟨b,o,cap,rfl,c0⟩:=row0 hr
 have kx:=hk x (by simp)
 have hki:=fun H hq kd=>cV [x] (.slice (some ⟨b,o,none⟩) 1 cap) kd H hq (by simp)
 by_cases hq:aV [x] 3=true
 ·have hsz:=known_texts hk hq x (by simp)
  rw [show oJ 18 [x]=⟨1,(x.s.size:Int),⟨#[]⟩⟩ from by unfold oJ; rw [if_neg (by omega),if_neg (by omega),if_pos rfl,hd0,if_pos hq]]
  refine fY Tryz.func113 (c:=Tryz.f113.body.getD .skip) (N:=147) ?_
  intro hbx hbad Q hQ a w hJ
  replace hJ:K ⟨147,h.w,h.bad,[]⟩ [(0,Vi 18),(1,.slice (some ⟨b,o,none⟩) 1 cap)] [] [] h a w:=hJ.tw
  replace hJ:=hJ.fact (c0.sees (Sees.refl _))
  refine rx' hJ false 95 [.own,.cl 135 #[.slice (some ⟨b,o,none⟩) 1 cap,Vi 3] (.bool true),.ix b o 1 cap 0,.f 0 2,.b 0 0] [] (.new fun b1=>.ok (.out .ret) [] [(4,Vp b1)] [.box b1 [Vi 1,Vi (x.s.size:Int),Ve]] [(b,o + 0 * 3,[Vi x.k,Vi x.n,.string x.s])]) (ho:=And.intro (fun H sH=>hq ▸ hki _ (hr.sees sH) 3) (And.intro ((by decide)) (trivial))) (fun b1 _=>by kernel_rfl) ?_
  clear hJ a w; intro b1 a w hJ
  refine gY (hQ [.agg #[Vi 1,Vi (x.s.size:Int),Ve]] _ [] hJ (.rcel hJ.j 0 .nil) (fJ _) rfl ?_).1
  exact rfl
 ·have hq':aV [x] 3=false:=by simpa using hq
  rw [show oJ 18 [x]=xK 9 from by unfold oJ; rw [if_neg (by omega),if_neg (by omega),if_pos rfl,hd0,if_neg hq]]
  refine fY Tryz.func113 (c:=Tryz.f113.body.getD .skip) (N:=147) ?_
  intro hbx hbad Q hQ a w hJ
  replace hJ:K ⟨147,h.w,h.bad,[]⟩ [(0,Vi 18),(1,.slice (some ⟨b,o,none⟩) 1 cap)] [] [] h a w:=hJ.tw
  replace hJ:=hJ.fact (c0.sees (Sees.refl _))
  refine rk hJ false 80 [.own,.cl 135 #[.slice (some ⟨b,o,none⟩) 1 cap,Vi 3] (.bool false),.cl 109 #[Vi 9] (.agg #[Vi 5,Vi 9,Ve]),.b 0 0] [] (.new fun b1=>.f (.out .ret) [] [] [(4,Vp b1)] [.box b1 [Vi 5,Vi 9,Ve]] [.o 0]) (And.intro (fun H sH=>hq' ▸ hki _ (hr.sees sH) 3) (And.intro (fun H sH=>yK 9 _) (trivial))) trivial (fun b1 _=>by kernel_rfl) ?_
  clear hJ a w; intro b1 a w hJ
  refine gY (hQ [.agg #[Vi 5,Vi 9,Ve]] _ [] hJ (.rcel hJ.j 0 .nil) (fJ _) rfl ?_).1
  exact rfl
theorem apply_10 (x y:Vl) (sl:Value) (h:Vw) (hr:RS h 3 sl (vrows [x,y])) (hk:∀ v∈[x,y],v.known):C0 Tryz.prog 113 #[.int .i64 10,sl] h (fun v _=>v=(oJ 10 [x,y]).val):=by
 obtain ⟨b,o,cap,rfl,c0⟩:=row0 hr
 have kx:=hk x (by simp)
 have ky:=hk y (by simp)
 have c1:Cells h b (o + 1 * 3) y.cells:=hr.cell (i:=1) rfl
 have hki:=fun H hq kd=>cV [x,y] (.slice (some ⟨b,o,none⟩) 2 cap) kd H hq (by simp)
 by_cases hq:aV [x,y] 3=true
 ·have hsx:=known_texts hk hq x (by simp)
  have hsy:=known_texts hk hq y (by simp)
  rw [show oJ 10 [x,y]=joinV x y from by unfold oJ; rw [if_neg (by omega),if_neg (by omega),if_neg (by omega),if_pos rfl,hd0,hd1,if_pos hq]]
  by_cases hc:40 < x.s.size + y.s.size
  ·rw [show joinV x y=xK 1 from if_pos hc]
   refine fY Tryz.func113 (c:=Tryz.f113.body.getD .skip) (N:=147) ?_
   intro hbx hbad Q hQ a w hJ
   replace hJ:K ⟨147,h.w,h.bad,[]⟩ [(0,Vi 10),(1,.slice (some ⟨b,o,none⟩) 2 cap)] [] [] h a w:=hJ.tw
   replace hJ:=hJ.fact (c0.sees (Sees.refl _))
   replace hJ:=hJ.fact (c1.sees (Sees.refl _))
   refine rk hJ false 81 [.own,.cl 135 #[.slice (some ⟨b,o,none⟩) 2 cap,Vi 3] (.bool true)] [] (.new fun b1=>.f (.code [0,0,1,1,0,1,1,1,1,1,0,1,0,1]) [.seq [1,0,1,1,0,1,1,1,1,1,0,1,0,1],.seq [1,1,1,0,1,1,1,1,1,0,1,0,1],.block 0,.seq [1,1]] [1] [(4,Vp b1)] [.box b1 [Vi 0,Vi 0,Ve]] [.o 0,.o 1]) (And.intro (fun H sH=>hq ▸ hki _ (hr.sees sH) 3) (trivial)) trivial (fun b1 _=>by kernel_rfl) ?_
   clear hJ a w; intro b1 a w hJ
   let R:Reg:=⟨⟨147,h.w,h.bad,[]⟩,[(0,90,fun gh=>.slice (some ⟨b,o,none⟩) 2 cap),(1,91,fun gh=>.pointer (some ⟨b,o + 0 * 3,none⟩)),(2,92,fun gh=>.pointer (some ⟨b,o + 0 * 3 + 2,none⟩)),(3,93,fun gh=>.string x.s),(4,94,fun gh=>Vi (x.s.size:Int)),(5,95,fun gh=>.slice (some ⟨b,o,none⟩) 2 cap),(6,96,fun gh=>.pointer (some ⟨b,o + 1 * 3,none⟩)),(7,97,fun gh=>.pointer (some ⟨b,o + 1 * 3 + 2,none⟩)),(8,98,fun gh=>.string y.s),(9,99,fun gh=>Vi (y.s.size:Int)),(10,100,fun gh=>Vi ((x.s.size:Int) + (y.s.size:Int))),(11,101,fun gh=>.bool (decide (((x.s.size:Int) + (y.s.size:Int)) > 40)))],[(1,.slice (some ⟨b,o,none⟩) 2 cap),(4,Vp b1)],[⟨some (.box b1 [Vi 0,Vi 0,Ve]),[]⟩],[],[[],[0],[0,1],[0,1,2],[0,1,2,3],[],[5],[5,6],[5,6,7],[5,6,7,8],[0,1,2,3,4,5,6,7,8,9],[0,1,2,3,4,5,6,7,8,9,10]],h⟩
   have hmono:∀ zq∈R.F,∀ zx zh zi,Sees zh zi→zq.2 zx zh→zq.2 zx zi:=lJ
   refine oY (by kernel_rfl) R hJ 12 [.pu,.cl,.pu,.lf 1 2,.pu,.pu,.cl,.pu,.lf 0 2,.pu,.cl,.pu] (by kernel_rfl) hmono (fun _ _ _=>by kernel_rfl) (fun hT hA=>?_) ?_
   ·clear hJ
    refine And.intro (sW hT hA 91 (fun gh=>.pointer (some ⟨b,o + 0 * 3,none⟩)) [0] 1 (fun gh w=>jX (t:=32) (x:=(.tmp 90)) (y:=(.const (Vi 0))) (b:=b) (off:=o) (n:=2) (cap:=cap) (k:=0) (e:=38) (kk:=3) (by kernel_rfl) (by kernel_rfl) (by kernel_rfl) ((by decide)) Tryz.underlying32 (by kernel_rfl))) ?_
    refine And.intro (sW hT hA 96 (fun gh=>.pointer (some ⟨b,o + 1 * 3,none⟩)) [5] 6 (fun gh w=>jX (t:=32) (x:=(.tmp 95)) (y:=(.const (Vi 1))) (b:=b) (off:=o) (n:=2) (cap:=cap) (k:=1) (e:=38) (kk:=3) (by kernel_rfl) (by kernel_rfl) (by kernel_rfl) ((by decide)) Tryz.underlying32 (by kernel_rfl))) ?_
    refine And.intro (sW hT hA 100 (fun gh=>Vi ((x.s.size:Int) + (y.s.size:Int))) [4,9] 10 (fun gh w=>gX (by kernel_rfl) (kJ (by omega) (by omega)))) ?_
    trivial
   clear hJ a w; intro gh h2 a w sR hJ1 hF; have s3:Sees h h2:=sR; clear sR
   have hJ:K ⟨147,h.w,h.bad,[]⟩ [(1,.slice (some ⟨b,o,none⟩) 2 cap),(4,Vp b1),(101,.bool (decide (((x.s.size:Int) + (y.s.size:Int)) > 40)))] [.box b1 [Vi 0,Vi 0,Ve]] [(b,o + 1 * 3,[Vi y.k,Vi y.n,.string y.s]),(b,o + 0 * 3,[Vi x.k,Vi x.n,.string x.s])] h2 a w:=hJ1.tw
   clear hJ1 hF hmono R
   clear gh
   refine rk' hJ false 1 [] [] (.k (.code [1,0,1,1,0,1,1,1,1,1,0,1,0,1]) [.seq [1,1,1,0,1,1,1,1,1,0,1,0,1],.block 0,.seq [1,1]] [1,4,101] []) ?_
   clear hJ a w; intro a w hJ
   refine qY hJ (t:=decide (((x.s.size:Int) + (y.s.size:Int)) > 40)) (decide_eq_true (by omega)) ?_
   refine rk' hJ false 10 [.cl 109 #[Vi 1] (.agg #[Vi 5,Vi 1,Ve]),.b 0 0] [] (.f (.out .ret) [] [4] [] [.box b1 [Vi 5,Vi 1,Ve]] [.o 0,.o 1]) (ho:=And.intro (fun H sH=>yK 1 _) (trivial)) ?_
   clear hJ a w; intro a w hJ
   refine gY (hQ [.agg #[Vi 5,Vi 1,Ve]] _ [] hJ (.rcel hJ.j 0 .nil) (fJ _) rfl ?_).1
   exact rfl
  ·rw [show joinV x y=⟨3,0,x.s++y.s⟩ from if_neg hc]
   refine fY Tryz.func113 (c:=Tryz.f113.body.getD .skip) (N:=147) ?_
   intro hbx hbad Q hQ a w hJ
   replace hJ:K ⟨147,h.w,h.bad,[]⟩ [(0,Vi 10),(1,.slice (some ⟨b,o,none⟩) 2 cap)] [] [] h a w:=hJ.tw
   replace hJ:=hJ.fact (c0.sees (Sees.refl _))
   replace hJ:=hJ.fact (c1.sees (Sees.refl _))
   refine rk hJ false 81 [.own,.cl 135 #[.slice (some ⟨b,o,none⟩) 2 cap,Vi 3] (.bool true)] [] (.new fun b1=>.f (.code [0,0,1,1,0,1,1,1,1,1,0,1,0,1]) [.seq [1,0,1,1,0,1,1,1,1,1,0,1,0,1],.seq [1,1,1,0,1,1,1,1,1,0,1,0,1],.block 0,.seq [1,1]] [1] [(4,Vp b1)] [.box b1 [Vi 0,Vi 0,Ve]] [.o 0,.o 1]) (And.intro (fun H sH=>hq ▸ hki _ (hr.sees sH) 3) (trivial)) trivial (fun b1 _=>by kernel_rfl) ?_
   clear hJ a w; intro b1 a w hJ
   let R:Reg:=⟨⟨147,h.w,h.bad,[]⟩,[(0,90,fun gh=>.slice (some ⟨b,o,none⟩) 2 cap),(1,91,fun gh=>.pointer (some ⟨b,o + 0 * 3,none⟩)),(2,92,fun gh=>.pointer (some ⟨b,o + 0 * 3 + 2,none⟩)),(3,93,fun gh=>.string x.s),(4,94,fun gh=>Vi (x.s.size:Int)),(5,95,fun gh=>.slice (some ⟨b,o,none⟩) 2 cap),(6,96,fun gh=>.pointer (some ⟨b,o + 1 * 3,none⟩)),(7,97,fun gh=>.pointer (some ⟨b,o + 1 * 3 + 2,none⟩)),(8,98,fun gh=>.string y.s),(9,99,fun gh=>Vi (y.s.size:Int)),(10,100,fun gh=>Vi ((x.s.size:Int) + (y.s.size:Int))),(11,101,fun gh=>.bool (decide (((x.s.size:Int) + (y.s.size:Int)) > 40)))],[(1,.slice (some ⟨b,o,none⟩) 2 cap),(4,Vp b1)],[⟨some (.box b1 [Vi 0,Vi 0,Ve]),[]⟩],[],[[],[0],[0,1],[0,1,2],[0,1,2,3],[],[5],[5,6],[5,6,7],[5,6,7,8],[0,1,2,3,4,5,6,7,8,9],[0,1,2,3,4,5,6,7,8,9,10]],h⟩
   have hmono:∀ zq∈R.F,∀ zx zh zi,Sees zh zi→zq.2 zx zh→zq.2 zx zi:=lJ
   refine oY (by kernel_rfl) R hJ 12 [.pu,.cl,.pu,.lf 1 2,.pu,.pu,.cl,.pu,.lf 0 2,.pu,.cl,.pu] (by kernel_rfl) hmono (fun _ _ _=>by kernel_rfl) (fun hT hA=>?_) ?_
   ·clear hJ
    refine And.intro (sW hT hA 91 (fun gh=>.pointer (some ⟨b,o + 0 * 3,none⟩)) [0] 1 (fun gh w=>jX (t:=32) (x:=(.tmp 90)) (y:=(.const (Vi 0))) (b:=b) (off:=o) (n:=2) (cap:=cap) (k:=0) (e:=38) (kk:=3) (by kernel_rfl) (by kernel_rfl) (by kernel_rfl) ((by decide)) Tryz.underlying32 (by kernel_rfl))) ?_
    refine And.intro (sW hT hA 96 (fun gh=>.pointer (some ⟨b,o + 1 * 3,none⟩)) [5] 6 (fun gh w=>jX (t:=32) (x:=(.tmp 95)) (y:=(.const (Vi 1))) (b:=b) (off:=o) (n:=2) (cap:=cap) (k:=1) (e:=38) (kk:=3) (by kernel_rfl) (by kernel_rfl) (by kernel_rfl) ((by decide)) Tryz.underlying32 (by kernel_rfl))) ?_
    refine And.intro (sW hT hA 100 (fun gh=>Vi ((x.s.size:Int) + (y.s.size:Int))) [4,9] 10 (fun gh w=>gX (by kernel_rfl) (kJ (by omega) (by omega)))) ?_
    trivial
   clear hJ a w; intro gh h2 a w sR hJ1 hF; have s3:Sees h h2:=sR; clear sR
   have hJ:K ⟨147,h.w,h.bad,[]⟩ [(1,.slice (some ⟨b,o,none⟩) 2 cap),(4,Vp b1),(101,.bool (decide (((x.s.size:Int) + (y.s.size:Int)) > 40)))] [.box b1 [Vi 0,Vi 0,Ve]] [(b,o + 1 * 3,[Vi y.k,Vi y.n,.string y.s]),(b,o + 0 * 3,[Vi x.k,Vi x.n,.string x.s])] h2 a w:=hJ1.tw
   clear hJ1 hF hmono R
   clear gh
   refine rk' hJ false 1 [] [] (.k (.code [1,0,1,1,0,1,1,1,1,1,0,1,0,1]) [.seq [1,1,1,0,1,1,1,1,1,0,1,0,1],.block 0,.seq [1,1]] [1,4,101] []) ?_
   clear hJ a w; intro a w hJ
   refine iY hJ (t:=decide (((x.s.size:Int) + (y.s.size:Int)) > 40)) (decide_eq_false (by omega)) ?_
   refine rk' hJ false 3 [] [] (.k (.code [0,1,1,1,0,1,1,1,1,1,0,1,0,1]) [.seq [1,1,1,1,0,1,1,1,1,1,0,1,0,1],.block 0,.seq [1,1]] [1,4] []) ?_
   clear hJ a w; intro a w hJ
   let R:Reg:=⟨⟨147,h.w,h.bad,[]⟩,[(0,103,fun gh=>.slice (some ⟨b,o,none⟩) 2 cap),(1,104,fun gh=>.pointer (some ⟨b,o + 0 * 3,none⟩)),(2,105,fun gh=>.pointer (some ⟨b,o + 0 * 3 + 2,none⟩)),(3,106,fun gh=>.string x.s),(4,107,fun gh=>.slice (some ⟨b,o,none⟩) 2 cap),(5,108,fun gh=>.pointer (some ⟨b,o + 1 * 3,none⟩)),(6,109,fun gh=>.pointer (some ⟨b,o + 1 * 3 + 2,none⟩)),(7,110,fun gh=>.string y.s),(8,111,fun gh=>.string (x.s++y.s)),(9,112,fun gh=>.agg #[Vi 3,Vi 0,.string (x.s++y.s)])],[(1,.slice (some ⟨b,o,none⟩) 2 cap),(4,Vp b1)],[⟨some (.box b1 [Vi 0,Vi 0,Ve]),[(10,fun gh=>.box b1 [Vi 3,Vi 0,.string (x.s++y.s)])]⟩],[],[[],[0],[0,1],[0,1,2],[],[4],[4,5],[4,5,6],[0,1,2,3,4,5,6,7],[0,1,2,3,4,5,6,7,8],[0,1,2,3,4,5,6,7,8,9]],h2⟩
   have hmono:∀ zq∈R.F,∀ zx zh zi,Sees zh zi→zq.2 zx zh→zq.2 zx zi:=lJ
   refine oY (by kernel_rfl) R hJ 11 [.pu,.cl,.pu,.lf 1 2,.pu,.cl,.pu,.lf 0 2,.cl,.pu,.st 0 0] (by kernel_rfl) hmono (fun _ _ _=>by kernel_rfl) (fun hT hA=>?_) ?_
   ·clear hJ
    refine And.intro (sW hT hA 104 (fun gh=>.pointer (some ⟨b,o + 0 * 3,none⟩)) [0] 1 (fun gh w=>jX (t:=32) (x:=(.tmp 103)) (y:=(.const (Vi 0))) (b:=b) (off:=o) (n:=2) (cap:=cap) (k:=0) (e:=38) (kk:=3) (by kernel_rfl) (by kernel_rfl) (by kernel_rfl) ((by decide)) Tryz.underlying32 (by kernel_rfl))) ?_
    refine And.intro (sW hT hA 108 (fun gh=>.pointer (some ⟨b,o + 1 * 3,none⟩)) [4] 5 (fun gh w=>jX (t:=32) (x:=(.tmp 107)) (y:=(.const (Vi 1))) (b:=b) (off:=o) (n:=2) (cap:=cap) (k:=1) (e:=38) (kk:=3) (by kernel_rfl) (by kernel_rfl) (by kernel_rfl) ((by decide)) Tryz.underlying32 (by kernel_rfl))) ?_
    refine And.intro (sW hT hA 111 (fun gh=>.string (x.s++y.s)) [3,7] 8 (fun gh w=>run_bin (va:=.string x.s) (vb:=.string y.s) rfl (by kernel_rfl) (by kernel_rfl) (by kernel_rfl) (run_cat (by omega)))) ?_
    trivial
   clear hJ a w; intro gh h4 a w sR hJ1 hF; have s5:Sees h2 h4:=sR; clear sR
   have hJ:K ⟨147,h.w,h.bad,[]⟩ [(4,Vp b1)] [.box b1 [Vi 3,Vi 0,.string (x.s++y.s)]] [(b,o + 1 * 3,[Vi y.k,Vi y.n,.string y.s]),(b,o + 0 * 3,[Vi x.k,Vi x.n,.string x.s])] h4 a w:=hJ1.tw
   clear hJ1 hF hmono R
   clear gh
   refine rk' hJ false 4 [] [] (.k (.out .ret) [] [4] []) ?_
   clear hJ a w; intro a w hJ
   refine gY (hQ [.agg #[Vi 3,Vi 0,.string (x.s++y.s)]] _ [] hJ (.rcel hJ.j 0 .nil) (fJ _) rfl ?_).1
   exact rfl
 ·have hq':aV [x,y] 3=false:=by simpa using hq
  rw [show oJ 10 [x,y]=xK 9 from by unfold oJ; rw [if_neg (by omega),if_neg (by omega),if_neg (by omega),if_pos rfl,hd0,hd1,if_neg hq]]
  refine fY Tryz.func113 (c:=Tryz.f113.body.getD .skip) (N:=147) ?_
  intro hbx hbad Q hQ a w hJ
  replace hJ:K ⟨147,h.w,h.bad,[]⟩ [(0,Vi 10),(1,.slice (some ⟨b,o,none⟩) 2 cap)] [] [] h a w:=hJ.tw
  replace hJ:=hJ.fact (c0.sees (Sees.refl _))
  replace hJ:=hJ.fact (c1.sees (Sees.refl _))
  refine rx' hJ false 77 [.own,.cl 135 #[.slice (some ⟨b,o,none⟩) 2 cap,Vi 3] (.bool false),.cl 109 #[Vi 9] (.agg #[Vi 5,Vi 9,Ve]),.b 0 0] [] (.new fun b1=>.ok (.out .ret) [] [(4,Vp b1)] [.box b1 [Vi 5,Vi 9,Ve]] [(b,o + 1 * 3,[Vi y.k,Vi y.n,.string y.s]),(b,o + 0 * 3,[Vi x.k,Vi x.n,.string x.s])]) (ho:=And.intro (fun H sH=>hq' ▸ hki _ (hr.sees sH) 3) (And.intro (fun H sH=>yK 9 _) (trivial))) (fun b1 _=>by kernel_rfl) ?_
  clear hJ a w; intro b1 a w hJ
  refine gY (hQ [.agg #[Vi 5,Vi 9,Ve]] _ [] hJ (.rcel hJ.j 0 .nil) (fJ _) rfl ?_).1
  exact rfl
theorem apply_3 (x:Vl) (sl:Value) (h:Vw) (hr:RS h 3 sl (vrows [x])) (hk:∀ v∈[x],v.known):C0 Tryz.prog 113 #[.int .i64 3,sl] h (fun v _=>v=(oJ 3 [x]).val):=by
 obtain ⟨b,o,cap,rfl,c0⟩:=row0 hr
 have kx:=hk x (by simp)
 have hki:=fun H hq=>cV [x] (.slice (some ⟨b,o,none⟩) 1 cap) 1 H hq (by simp)
 have hap:oJ 3 [x]=if aV [x] 1=true then nrV 9 0 x.n else xK 9:=by unfold oJ; rw [if_neg (by omega),if_neg (by omega),if_neg (by omega),if_neg (by omega),if_pos rfl,hd0]
 have hnr:nrV 9 0 x.n=if (rV 9 0 x.n).2=0 then ⟨1,(rV 9 0 x.n).1,⟨#[]⟩⟩ else xK (rV 9 0 x.n).2:=rfl
 rw [hnr] at hap
 have hl:=fun q=>dV (l:=[x]) hk q
 have hn:=fun (q:aV [x] 1=true) H=>num_any 9 0 x.n H (by unfold Lim; omega) (hl q x (by simp))
 generalize rV 9 0 x.n=r at *
 generalize aV [x] 1=kv at *
 refine fY Tryz.func113 (c:=Tryz.f113.body.getD .skip) (N:=147) ?_
 intro hbx hbad Q hQ a w hJ
 replace hJ:K ⟨147,h.w,h.bad,[]⟩ [(0,Vi 3),(1,.slice (some ⟨b,o,none⟩) 1 cap)] [] [] h a w:=hJ.tw
 replace hJ:=hJ.fact (c0.sees (Sees.refl _))
 refine rk hJ false 72 [.own,.cl 135 #[.slice (some ⟨b,o,none⟩) 1 cap,Vi 1] (.bool kv)] [] (.new fun b1=>.f (.code [1,0,1,1]) [.seq [1,1,1]] [0,1] [(4,Vp b1),(115,.bool (!kv))] [.box b1 [Vi 0,Vi 0,Ve]] [.o 0]) (And.intro (fun H sH=>hki _ (hr.sees sH)) (trivial)) trivial (fun b1 _=>by kernel_rfl) ?_
 clear hJ a w; intro b1 a w hJ
 by_cases hq:kv=true
 ·skip
  refine iY hJ (t := !kv) ((by rw [hq]; rfl)) ?_
  refine rk' hJ false 4 [] [] (.k (.ops [0,1,1,1] 0) [.seq [1,1,1,1]] [0,1,4] []) ?_
  clear hJ a w; intro a w hJ
  refine mY hJ 117 (by kernel_rfl) (by kernel_rfl) ?_; clear hJ a w; intro b2 a w hJ
  refine nY hJ 0 (b:=b2) (t:=180) (mo:=(.tmp 117)) (ko:=(.const (Vi 5))) (vo:=(.func 136)) (es:=[]) (kt:=3) (et:=179) (td:=.int .i64) (key:=Vi 5) (v:=.func (.func 136) #[] #[]) Tryz.underlying180 Tryz.underlying3 ?_; clear hJ a w; intro a w hJ
  replace hJ:K ⟨147,h.w,h.bad,[]⟩ [(0,Vi 3),(1,.slice (some ⟨b,o,none⟩) 1 cap),(4,Vp b1),(117,.map (some b2))] [.map b2 ([(Vi 5,.func (.func 136) #[] #[])]),.box b1 [Vi 0,Vi 0,Ve]] [(b,o + 0 * 3,[Vi x.k,Vi x.n,.string x.s])] h a w:=hJ.tw
  refine nY hJ 0 (b:=b2) (t:=180) (mo:=(.tmp 117)) (ko:=(.const (Vi 6))) (vo:=(.func 137)) (es:=[(Vi 5,.func (.func 136) #[] #[])]) (kt:=3) (et:=179) (td:=.int .i64) (key:=Vi 6) (v:=.func (.func 137) #[] #[]) Tryz.underlying180 Tryz.underlying3 ?_; clear hJ a w; intro a w hJ
  replace hJ:K ⟨147,h.w,h.bad,[]⟩ [(0,Vi 3),(1,.slice (some ⟨b,o,none⟩) 1 cap),(4,Vp b1),(117,.map (some b2))] [.map b2 ([(Vi 5,.func (.func 136) #[] #[]),(Vi 6,.func (.func 137) #[] #[])]),.box b1 [Vi 0,Vi 0,Ve]] [(b,o + 0 * 3,[Vi x.k,Vi x.n,.string x.s])] h a w:=hJ.tw
  refine nY hJ 0 (b:=b2) (t:=180) (mo:=(.tmp 117)) (ko:=(.const (Vi 7))) (vo:=(.func 138)) (es:=[(Vi 5,.func (.func 136) #[] #[]),(Vi 6,.func (.func 137) #[] #[])]) (kt:=3) (et:=179) (td:=.int .i64) (key:=Vi 7) (v:=.func (.func 138) #[] #[]) Tryz.underlying180 Tryz.underlying3 ?_; clear hJ a w; intro a w hJ
  replace hJ:K ⟨147,h.w,h.bad,[]⟩ [(0,Vi 3),(1,.slice (some ⟨b,o,none⟩) 1 cap),(4,Vp b1),(117,.map (some b2))] [.map b2 ([(Vi 5,.func (.func 136) #[] #[]),(Vi 6,.func (.func 137) #[] #[]),(Vi 7,.func (.func 138) #[] #[])]),.box b1 [Vi 0,Vi 0,Ve]] [(b,o + 0 * 3,[Vi x.k,Vi x.n,.string x.s])] h a w:=hJ.tw
  refine nY hJ 0 (b:=b2) (t:=180) (mo:=(.tmp 117)) (ko:=(.const (Vi 8))) (vo:=(.func 139)) (es:=[(Vi 5,.func (.func 136) #[] #[]),(Vi 6,.func (.func 137) #[] #[]),(Vi 7,.func (.func 138) #[] #[])]) (kt:=3) (et:=179) (td:=.int .i64) (key:=Vi 8) (v:=.func (.func 139) #[] #[]) Tryz.underlying180 Tryz.underlying3 ?_; clear hJ a w; intro a w hJ
  replace hJ:K ⟨147,h.w,h.bad,[]⟩ [(0,Vi 3),(1,.slice (some ⟨b,o,none⟩) 1 cap),(4,Vp b1),(117,.map (some b2))] [.map b2 ([(Vi 5,.func (.func 136) #[] #[]),(Vi 6,.func (.func 137) #[] #[]),(Vi 7,.func (.func 138) #[] #[]),(Vi 8,.func (.func 139) #[] #[])]),.box b1 [Vi 0,Vi 0,Ve]] [(b,o + 0 * 3,[Vi x.k,Vi x.n,.string x.s])] h a w:=hJ.tw
  refine nY hJ 0 (b:=b2) (t:=180) (mo:=(.tmp 117)) (ko:=(.const (Vi 9))) (vo:=(.func 140)) (es:=[(Vi 5,.func (.func 136) #[] #[]),(Vi 6,.func (.func 137) #[] #[]),(Vi 7,.func (.func 138) #[] #[]),(Vi 8,.func (.func 139) #[] #[])]) (kt:=3) (et:=179) (td:=.int .i64) (key:=Vi 9) (v:=.func (.func 140) #[] #[]) Tryz.underlying180 Tryz.underlying3 ?_; clear hJ a w; intro a w hJ
  replace hJ:K ⟨147,h.w,h.bad,[]⟩ [(0,Vi 3),(1,.slice (some ⟨b,o,none⟩) 1 cap),(4,Vp b1),(117,.map (some b2))] [.map b2 ([(Vi 5,.func (.func 136) #[] #[]),(Vi 6,.func (.func 137) #[] #[]),(Vi 7,.func (.func 138) #[] #[]),(Vi 8,.func (.func 139) #[] #[]),(Vi 9,.func (.func 140) #[] #[])]),.box b1 [Vi 0,Vi 0,Ve]] [(b,o + 0 * 3,[Vi x.k,Vi x.n,.string x.s])] h a w:=hJ.tw
  refine rk' hJ false 2 [] [] (.k (.ops [0,1,1,1] 8) [.seq [1,1,1,1]] [0,1,4] [(118,.map (some b2)),(119,Vi 3)]) ?_
  clear hJ a w; intro a w hJ
  refine lY hJ 120 (b:=b2) (t:=180) (mo:=(.tmp 118)) (ko:=(.tmp 119)) (c:=false) (es:=[(Vi 5,.func (.func 136) #[] #[]),(Vi 6,.func (.func 137) #[] #[]),(Vi 7,.func (.func 138) #[] #[]),(Vi 8,.func (.func 139) #[] #[]),(Vi 9,.func (.func 140) #[] #[])]) (kt:=3) (et:=179) (td:=.int .i64) (key:=Vi 3) (z:=.nilFunc) (v:=.nilFunc) (r:=none) (hJ.map 0 (by kernel_rfl)) Tryz.underlying180 Tryz.underlying3 (by kernel_rfl) ?_; clear hJ a w; intro a w hJ
  refine rk' hJ false 4 [] [] (.k (.code [0,1,1,1,1]) [.seq [1,1,1,1,1]] [0,1,4] [(7,.nilFunc)]) ?_
  clear hJ a w; intro a w hJ
  let R:Reg:=⟨⟨147,h.w,h.bad,[]⟩,[(0,121,fun gh=>.slice (some ⟨b,o,none⟩) 1 cap),(1,122,fun gh=>.pointer (some ⟨b,o + 0 * 3,none⟩)),(2,123,fun gh=>.pointer (some ⟨b,o + 0 * 3 + 1,none⟩)),(3,124,fun gh=>Vi x.n),(4,125,fun gh=>.slice (some ⟨b,o,none⟩) 1 cap),(5,126,fun gh=>.slice (some ⟨b,o,none⟩) 1 cap),(6,127,fun gh=>Vi 1),(7,128,fun gh=>Vi 0),(8,129,fun gh=>.pointer (some ⟨b,o + 0 * 3,none⟩)),(9,130,fun gh=>.pointer (some ⟨b,o + 0 * 3 + 1,none⟩)),(10,131,fun gh=>Vi x.n),(11,8,fun gh=>Vi x.n),(12,9,fun gh=>Vi x.n)],[(0,Vi 3),(1,.slice (some ⟨b,o,none⟩) 1 cap),(4,Vp b1),(7,.nilFunc)],[⟨some (.map b2 ([(Vi 5,.func (.func 136) #[] #[]),(Vi 6,.func (.func 137) #[] #[]),(Vi 7,.func (.func 138) #[] #[]),(Vi 8,.func (.func 139) #[] #[]),(Vi 9,.func (.func 140) #[] #[])])),[]⟩,⟨some (.box b1 [Vi 0,Vi 0,Ve]),[]⟩],[],[[],[0],[0,1],[0,1,2],[],[],[5],[5,6],[4,5,6,7],[4,5,6,7,8],[4,5,6,7,8,9],[0,1,2,3],[0,1,2,3,4,5,6,7,8,9,10,11]],h⟩
  have hmono:∀ zq∈R.F,∀ zx zh zi,Sees zh zi→zq.2 zx zh→zq.2 zx zi:=lJ
  refine oY (by kernel_rfl) R hJ 13 [.pu,.cl,.pu,.lf 0 1,.pu,.pu,.pu,.pu,.cl,.pu,.lf 0 1,.pu,.pu] (by kernel_rfl) hmono (fun _ _ _=>by kernel_rfl) (fun hT hA=>?_) ?_
  ·clear hJ
   refine And.intro (sW hT hA 122 (fun gh=>.pointer (some ⟨b,o + 0 * 3,none⟩)) [0] 1 (fun gh w=>jX (t:=32) (x:=(.tmp 121)) (y:=(.const (Vi 0))) (b:=b) (off:=o) (n:=1) (cap:=cap) (k:=0) (e:=38) (kk:=3) (by kernel_rfl) (by kernel_rfl) (by kernel_rfl) ((by decide)) Tryz.underlying32 (by kernel_rfl))) ?_
   refine And.intro (sW hT hA 129 (fun gh=>.pointer (some ⟨b,o + 0 * 3,none⟩)) [4,7] 8 (fun gh w=>jX (t:=32) (x:=(.tmp 125)) (y:=(.tmp 128)) (b:=b) (off:=o) (n:=1) (cap:=cap) (k:=0) (e:=38) (kk:=3) (by kernel_rfl) (by kernel_rfl) (by kernel_rfl) ((by decide)) Tryz.underlying32 (by kernel_rfl))) ?_
   trivial
  clear hJ a w; intro gh h3 a w sR hJ1 hF; have s4:Sees h h3:=sR; clear sR
  have hJ:K ⟨147,h.w,h.bad,[]⟩ [(0,Vi 3),(4,Vp b1),(7,.nilFunc),(8,Vi x.n),(9,Vi x.n)] [.map b2 ([(Vi 5,.func (.func 136) #[] #[]),(Vi 6,.func (.func 137) #[] #[]),(Vi 7,.func (.func 138) #[] #[]),(Vi 8,.func (.func 139) #[] #[]),(Vi 9,.func (.func 140) #[] #[])]),.box b1 [Vi 0,Vi 0,Ve]] [(b,o + 0 * 3,[Vi x.k,Vi x.n,.string x.s])] h3 a w:=hJ1.tw
  clear hJ1 hF hmono R
  clear gh
  refine rk' hJ false 34 [.cl 140 #[Vi 0,Vi x.n] (.tuple #[Vi r.1,Vi r.2])] [] (.k (.code [1,0,1,1,1,1,1,1,1]) [.seq [1,1,1,1,1,1,1,1]] [4] [(10,Vi r.1),(11,Vi r.2),(142,.bool (r.2 != 0))]) (ho:=And.intro (fun H sH=>hn hq _) (trivial)) ?_
  clear hJ a w; intro a w hJ
  by_cases hc:r.2=0
  ·refine iY hJ (t:=r.2 != 0) (bne_eq_false_iff_eq.2 hc) ?_
   refine rk' hJ false 10 [.b 1 0] [] (.f (.out .ret) [] [4] [] [.map b2 ([(Vi 5,.func (.func 136) #[] #[]),(Vi 6,.func (.func 137) #[] #[]),(Vi 7,.func (.func 138) #[] #[]),(Vi 8,.func (.func 139) #[] #[]),(Vi 9,.func (.func 140) #[] #[])]),.box b1 [Vi 1,Vi r.1,Ve]] [.o 0]) ?_
   clear hJ a w; intro a w hJ
   refine gY (hQ [.agg #[Vi 1,Vi r.1,Ve]] _ [] hJ (.rcel hJ.j 1 .nil) (fJ _) rfl ?_).1
   rw [hap,if_pos hq,if_pos hc]; rfl
  ·skip
   refine qY hJ (t:=r.2 != 0) (bne_iff_ne.2 hc) ?_
   refine rk' hJ false 9 [.cl 109 #[Vi r.2] (.agg #[Vi 5,Vi r.2,Ve]),.b 1 0] [] (.f (.out .ret) [] [4] [] [.map b2 ([(Vi 5,.func (.func 136) #[] #[]),(Vi 6,.func (.func 137) #[] #[]),(Vi 7,.func (.func 138) #[] #[]),(Vi 8,.func (.func 139) #[] #[]),(Vi 9,.func (.func 140) #[] #[])]),.box b1 [Vi 5,Vi r.2,Ve]] [.o 0]) (ho:=And.intro (fun H sH=>yK _ _) (trivial)) ?_
   clear hJ a w; intro a w hJ
   refine gY (hQ [.agg #[Vi 5,Vi r.2,Ve]] _ [] hJ (.rcel hJ.j 1 .nil) (fJ _) rfl ?_).1
   rw [hap,if_pos hq,if_neg hc]; rfl
 ·skip
  refine qY hJ (t := !kv) ((by rw [show kv=false from by simpa using hq]; rfl)) ?_
  refine rk' hJ false 8 [.cl 109 #[Vi 9] (.agg #[Vi 5,Vi 9,Ve]),.b 0 0] [] (.f (.out .ret) [] [4] [] [.box b1 [Vi 5,Vi 9,Ve]] [.o 0]) (ho:=And.intro (fun H sH=>yK 9 _) (trivial)) ?_
  clear hJ a w; intro a w hJ
  refine gY (hQ [.agg #[Vi 5,Vi 9,Ve]] _ [] hJ (.rcel hJ.j 0 .nil) (fJ _) rfl ?_).1
  rw [hap,if_neg hq]; rfl
theorem apply_5 (x y:Vl) (sl:Value) (h:Vw) (hr:RS h 3 sl (vrows [x,y])) (hk:∀ v∈[x,y],v.known):C0 Tryz.prog 113 #[.int .i64 5,sl] h (fun v _=>v=(oJ 5 [x,y]).val):=by
 obtain ⟨b,o,cap,rfl,c0⟩:=row0 hr
 have kx:=hk x (by simp)
 have ky:=hk y (by simp)
 have c1:Cells h b (o + 1 * 3) y.cells:=hr.cell (i:=1) rfl
 have hki:=fun H hq=>cV [x,y] (.slice (some ⟨b,o,none⟩) 2 cap) 1 H hq (by simp)
 have hap:oJ 5 [x,y]=if aV [x,y] 1=true then nrV 5 x.n y.n else xK 9:=by unfold oJ; rw [if_neg (by omega),if_neg (by omega),if_neg (by omega),if_neg (by omega),if_neg (by omega),hd0,hd1]
 have hnr:nrV 5 x.n y.n=if (rV 5 x.n y.n).2=0 then ⟨1,(rV 5 x.n y.n).1,⟨#[]⟩⟩ else xK (rV 5 x.n y.n).2:=rfl
 rw [hnr] at hap
 have hl:=fun q=>dV (l:=[x,y]) hk q
 have hn:=fun (q:aV [x,y] 1=true) H=>num_any 5 x.n y.n H (hl q x (by simp)) (hl q y (by simp))
 generalize rV 5 x.n y.n=r at *
 generalize aV [x,y] 1=kv at *
 refine fY Tryz.func113 (c:=Tryz.f113.body.getD .skip) (N:=147) ?_
 intro hbx hbad Q hQ a w hJ
 replace hJ:K ⟨147,h.w,h.bad,[]⟩ [(0,Vi 5),(1,.slice (some ⟨b,o,none⟩) 2 cap)] [] [] h a w:=hJ.tw
 replace hJ:=hJ.fact (c0.sees (Sees.refl _))
 replace hJ:=hJ.fact (c1.sees (Sees.refl _))
 refine rx' hJ false 72 [.own,.cl 135 #[.slice (some ⟨b,o,none⟩) 2 cap,Vi 1] (.bool kv)] [] (.new fun b1=>.ok (.code [1,0,1,1]) [.seq [1,1,1]] [(0,Vi 5),(1,.slice (some ⟨b,o,none⟩) 2 cap),(4,Vp b1),(115,.bool (!kv))] [.box b1 [Vi 0,Vi 0,Ve]] [(b,o + 1 * 3,[Vi y.k,Vi y.n,.string y.s]),(b,o + 0 * 3,[Vi x.k,Vi x.n,.string x.s])]) (ho:=And.intro (fun H sH=>hki _ (hr.sees sH)) (trivial)) (fun b1 _=>by kernel_rfl) ?_
 clear hJ a w; intro b1 a w hJ
 by_cases hq:kv=true
 ·skip
  refine iY hJ (t := !kv) ((by rw [hq]; rfl)) ?_
  refine rk' hJ false 4 [] [] (.k (.ops [0,1,1,1] 0) [.seq [1,1,1,1]] [0,1,4] []) ?_
  clear hJ a w; intro a w hJ
  refine mY hJ 117 (by kernel_rfl) (by kernel_rfl) ?_; clear hJ a w; intro b2 a w hJ
  refine nY hJ 0 (b:=b2) (t:=180) (mo:=(.tmp 117)) (ko:=(.const (Vi 5))) (vo:=(.func 136)) (es:=[]) (kt:=3) (et:=179) (td:=.int .i64) (key:=Vi 5) (v:=.func (.func 136) #[] #[]) Tryz.underlying180 Tryz.underlying3 ?_; clear hJ a w; intro a w hJ
  replace hJ:K ⟨147,h.w,h.bad,[]⟩ [(0,Vi 5),(1,.slice (some ⟨b,o,none⟩) 2 cap),(4,Vp b1),(117,.map (some b2))] [.map b2 ([(Vi 5,.func (.func 136) #[] #[])]),.box b1 [Vi 0,Vi 0,Ve]] [(b,o + 1 * 3,[Vi y.k,Vi y.n,.string y.s]),(b,o + 0 * 3,[Vi x.k,Vi x.n,.string x.s])] h a w:=hJ.tw
  refine nY hJ 0 (b:=b2) (t:=180) (mo:=(.tmp 117)) (ko:=(.const (Vi 6))) (vo:=(.func 137)) (es:=[(Vi 5,.func (.func 136) #[] #[])]) (kt:=3) (et:=179) (td:=.int .i64) (key:=Vi 6) (v:=.func (.func 137) #[] #[]) Tryz.underlying180 Tryz.underlying3 ?_; clear hJ a w; intro a w hJ
  replace hJ:K ⟨147,h.w,h.bad,[]⟩ [(0,Vi 5),(1,.slice (some ⟨b,o,none⟩) 2 cap),(4,Vp b1),(117,.map (some b2))] [.map b2 ([(Vi 5,.func (.func 136) #[] #[]),(Vi 6,.func (.func 137) #[] #[])]),.box b1 [Vi 0,Vi 0,Ve]] [(b,o + 1 * 3,[Vi y.k,Vi y.n,.string y.s]),(b,o + 0 * 3,[Vi x.k,Vi x.n,.string x.s])] h a w:=hJ.tw
  refine nY hJ 0 (b:=b2) (t:=180) (mo:=(.tmp 117)) (ko:=(.const (Vi 7))) (vo:=(.func 138)) (es:=[(Vi 5,.func (.func 136) #[] #[]),(Vi 6,.func (.func 137) #[] #[])]) (kt:=3) (et:=179) (td:=.int .i64) (key:=Vi 7) (v:=.func (.func 138) #[] #[]) Tryz.underlying180 Tryz.underlying3 ?_; clear hJ a w; intro a w hJ
  replace hJ:K ⟨147,h.w,h.bad,[]⟩ [(0,Vi 5),(1,.slice (some ⟨b,o,none⟩) 2 cap),(4,Vp b1),(117,.map (some b2))] [.map b2 ([(Vi 5,.func (.func 136) #[] #[]),(Vi 6,.func (.func 137) #[] #[]),(Vi 7,.func (.func 138) #[] #[])]),.box b1 [Vi 0,Vi 0,Ve]] [(b,o + 1 * 3,[Vi y.k,Vi y.n,.string y.s]),(b,o + 0 * 3,[Vi x.k,Vi x.n,.string x.s])] h a w:=hJ.tw
  refine nY hJ 0 (b:=b2) (t:=180) (mo:=(.tmp 117)) (ko:=(.const (Vi 8))) (vo:=(.func 139)) (es:=[(Vi 5,.func (.func 136) #[] #[]),(Vi 6,.func (.func 137) #[] #[]),(Vi 7,.func (.func 138) #[] #[])]) (kt:=3) (et:=179) (td:=.int .i64) (key:=Vi 8) (v:=.func (.func 139) #[] #[]) Tryz.underlying180 Tryz.underlying3 ?_; clear hJ a w; intro a w hJ
  replace hJ:K ⟨147,h.w,h.bad,[]⟩ [(0,Vi 5),(1,.slice (some ⟨b,o,none⟩) 2 cap),(4,Vp b1),(117,.map (some b2))] [.map b2 ([(Vi 5,.func (.func 136) #[] #[]),(Vi 6,.func (.func 137) #[] #[]),(Vi 7,.func (.func 138) #[] #[]),(Vi 8,.func (.func 139) #[] #[])]),.box b1 [Vi 0,Vi 0,Ve]] [(b,o + 1 * 3,[Vi y.k,Vi y.n,.string y.s]),(b,o + 0 * 3,[Vi x.k,Vi x.n,.string x.s])] h a w:=hJ.tw
  refine nY hJ 0 (b:=b2) (t:=180) (mo:=(.tmp 117)) (ko:=(.const (Vi 9))) (vo:=(.func 140)) (es:=[(Vi 5,.func (.func 136) #[] #[]),(Vi 6,.func (.func 137) #[] #[]),(Vi 7,.func (.func 138) #[] #[]),(Vi 8,.func (.func 139) #[] #[])]) (kt:=3) (et:=179) (td:=.int .i64) (key:=Vi 9) (v:=.func (.func 140) #[] #[]) Tryz.underlying180 Tryz.underlying3 ?_; clear hJ a w; intro a w hJ
  replace hJ:K ⟨147,h.w,h.bad,[]⟩ [(0,Vi 5),(1,.slice (some ⟨b,o,none⟩) 2 cap),(4,Vp b1),(117,.map (some b2))] [.map b2 ([(Vi 5,.func (.func 136) #[] #[]),(Vi 6,.func (.func 137) #[] #[]),(Vi 7,.func (.func 138) #[] #[]),(Vi 8,.func (.func 139) #[] #[]),(Vi 9,.func (.func 140) #[] #[])]),.box b1 [Vi 0,Vi 0,Ve]] [(b,o + 1 * 3,[Vi y.k,Vi y.n,.string y.s]),(b,o + 0 * 3,[Vi x.k,Vi x.n,.string x.s])] h a w:=hJ.tw
  refine rk' hJ false 2 [] [] (.k (.ops [0,1,1,1] 8) [.seq [1,1,1,1]] [0,1,4] [(118,.map (some b2)),(119,Vi 5)]) ?_
  clear hJ a w; intro a w hJ
  refine lY hJ 120 (b:=b2) (t:=180) (mo:=(.tmp 118)) (ko:=(.tmp 119)) (c:=false) (es:=[(Vi 5,.func (.func 136) #[] #[]),(Vi 6,.func (.func 137) #[] #[]),(Vi 7,.func (.func 138) #[] #[]),(Vi 8,.func (.func 139) #[] #[]),(Vi 9,.func (.func 140) #[] #[])]) (kt:=3) (et:=179) (td:=.int .i64) (key:=Vi 5) (z:=.nilFunc) (v:=.func (.func 136) #[] #[]) (r:=some (0,.func (.func 136) #[] #[])) (hJ.map 0 (by kernel_rfl)) Tryz.underlying180 Tryz.underlying3 (by kernel_rfl) ?_; clear hJ a w; intro a w hJ
  refine rk' hJ false 4 [] [] (.k (.code [0,1,1,1,1]) [.seq [1,1,1,1,1]] [0,1,4] [(7,.func (.func 136) #[] #[])]) ?_
  clear hJ a w; intro a w hJ
  let R:Reg:=⟨⟨147,h.w,h.bad,[]⟩,[(0,121,fun gh=>.slice (some ⟨b,o,none⟩) 2 cap),(1,122,fun gh=>.pointer (some ⟨b,o + 0 * 3,none⟩)),(2,123,fun gh=>.pointer (some ⟨b,o + 0 * 3 + 1,none⟩)),(3,124,fun gh=>Vi x.n),(4,125,fun gh=>.slice (some ⟨b,o,none⟩) 2 cap),(5,126,fun gh=>.slice (some ⟨b,o,none⟩) 2 cap),(6,127,fun gh=>Vi 2),(7,128,fun gh=>Vi 1),(8,129,fun gh=>.pointer (some ⟨b,o + 1 * 3,none⟩)),(9,130,fun gh=>.pointer (some ⟨b,o + 1 * 3 + 1,none⟩)),(10,131,fun gh=>Vi y.n),(11,8,fun gh=>Vi x.n),(12,9,fun gh=>Vi y.n)],[(0,Vi 5),(1,.slice (some ⟨b,o,none⟩) 2 cap),(4,Vp b1),(7,.func (.func 136) #[] #[])],[⟨some (.map b2 ([(Vi 5,.func (.func 136) #[] #[]),(Vi 6,.func (.func 137) #[] #[]),(Vi 7,.func (.func 138) #[] #[]),(Vi 8,.func (.func 139) #[] #[]),(Vi 9,.func (.func 140) #[] #[])])),[]⟩,⟨some (.box b1 [Vi 0,Vi 0,Ve]),[]⟩],[],[[],[0],[0,1],[0,1,2],[],[],[5],[5,6],[4,5,6,7],[4,5,6,7,8],[4,5,6,7,8,9],[0,1,2,3],[0,1,2,3,4,5,6,7,8,9,10,11]],h⟩
  have hmono:∀ zq∈R.F,∀ zx zh zi,Sees zh zi→zq.2 zx zh→zq.2 zx zi:=lJ
  refine oY (by kernel_rfl) R hJ 13 [.pu,.cl,.pu,.lf 1 1,.pu,.pu,.pu,.pu,.cl,.pu,.lf 0 1,.pu,.pu] (by kernel_rfl) hmono (fun _ _ _=>by kernel_rfl) (fun hT hA=>?_) ?_
  ·clear hJ
   refine And.intro (sW hT hA 122 (fun gh=>.pointer (some ⟨b,o + 0 * 3,none⟩)) [0] 1 (fun gh w=>jX (t:=32) (x:=(.tmp 121)) (y:=(.const (Vi 0))) (b:=b) (off:=o) (n:=2) (cap:=cap) (k:=0) (e:=38) (kk:=3) (by kernel_rfl) (by kernel_rfl) (by kernel_rfl) ((by decide)) Tryz.underlying32 (by kernel_rfl))) ?_
   refine And.intro (sW hT hA 129 (fun gh=>.pointer (some ⟨b,o + 1 * 3,none⟩)) [4,7] 8 (fun gh w=>jX (t:=32) (x:=(.tmp 125)) (y:=(.tmp 128)) (b:=b) (off:=o) (n:=2) (cap:=cap) (k:=1) (e:=38) (kk:=3) (by kernel_rfl) (by kernel_rfl) (by kernel_rfl) ((by decide)) Tryz.underlying32 (by kernel_rfl))) ?_
   trivial
  clear hJ a w; intro gh h3 a w sR hJ1 hF; have s4:Sees h h3:=sR; clear sR
  have hJ:K ⟨147,h.w,h.bad,[]⟩ [(0,Vi 5),(4,Vp b1),(7,.func (.func 136) #[] #[]),(8,Vi x.n),(9,Vi y.n)] [.map b2 ([(Vi 5,.func (.func 136) #[] #[]),(Vi 6,.func (.func 137) #[] #[]),(Vi 7,.func (.func 138) #[] #[]),(Vi 8,.func (.func 139) #[] #[]),(Vi 9,.func (.func 140) #[] #[])]),.box b1 [Vi 0,Vi 0,Ve]] [(b,o + 1 * 3,[Vi y.k,Vi y.n,.string y.s]),(b,o + 0 * 3,[Vi x.k,Vi x.n,.string x.s])] h3 a w:=hJ1.tw
  clear hJ1 hF hmono R
  clear gh
  refine rk' hJ false 31 [.cl 136 #[Vi x.n,Vi y.n] (.tuple #[Vi r.1,Vi r.2])] [] (.k (.code [1,0,1,1,1,1,1,1,1]) [.seq [1,1,1,1,1,1,1,1]] [4] [(10,Vi r.1),(11,Vi r.2),(142,.bool (r.2 != 0))]) (ho:=And.intro (fun H sH=>hn hq _) (trivial)) ?_
  clear hJ a w; intro a w hJ
  by_cases hc:r.2=0
  ·refine iY hJ (t:=r.2 != 0) (bne_eq_false_iff_eq.2 hc) ?_
   refine rk' hJ false 10 [.b 1 0] [] (.f (.out .ret) [] [4] [] [.map b2 ([(Vi 5,.func (.func 136) #[] #[]),(Vi 6,.func (.func 137) #[] #[]),(Vi 7,.func (.func 138) #[] #[]),(Vi 8,.func (.func 139) #[] #[]),(Vi 9,.func (.func 140) #[] #[])]),.box b1 [Vi 1,Vi r.1,Ve]] [.o 0,.o 1]) ?_
   clear hJ a w; intro a w hJ
   refine gY (hQ [.agg #[Vi 1,Vi r.1,Ve]] _ [] hJ (.rcel hJ.j 1 .nil) (fJ _) rfl ?_).1
   rw [hap,if_pos hq,if_pos hc]; rfl
  ·skip
   refine qY hJ (t:=r.2 != 0) (bne_iff_ne.2 hc) ?_
   refine rk' hJ false 9 [.cl 109 #[Vi r.2] (.agg #[Vi 5,Vi r.2,Ve]),.b 1 0] [] (.f (.out .ret) [] [4] [] [.map b2 ([(Vi 5,.func (.func 136) #[] #[]),(Vi 6,.func (.func 137) #[] #[]),(Vi 7,.func (.func 138) #[] #[]),(Vi 8,.func (.func 139) #[] #[]),(Vi 9,.func (.func 140) #[] #[])]),.box b1 [Vi 5,Vi r.2,Ve]] [.o 0,.o 1]) (ho:=And.intro (fun H sH=>yK _ _) (trivial)) ?_
   clear hJ a w; intro a w hJ
   refine gY (hQ [.agg #[Vi 5,Vi r.2,Ve]] _ [] hJ (.rcel hJ.j 1 .nil) (fJ _) rfl ?_).1
   rw [hap,if_pos hq,if_neg hc]; rfl
 ·skip
  refine qY hJ (t := !kv) ((by rw [show kv=false from by simpa using hq]; rfl)) ?_
  refine rk' hJ false 8 [.cl 109 #[Vi 9] (.agg #[Vi 5,Vi 9,Ve]),.b 0 0] [] (.f (.out .ret) [] [4] [] [.box b1 [Vi 5,Vi 9,Ve]] [.o 0,.o 1]) (ho:=And.intro (fun H sH=>yK 9 _) (trivial)) ?_
  clear hJ a w; intro a w hJ
  refine gY (hQ [.agg #[Vi 5,Vi 9,Ve]] _ [] hJ (.rcel hJ.j 0 .nil) (fJ _) rfl ?_).1
  rw [hap,if_neg hq]; rfl
theorem apply_6 (x y:Vl) (sl:Value) (h:Vw) (hr:RS h 3 sl (vrows [x,y])) (hk:∀ v∈[x,y],v.known):C0 Tryz.prog 113 #[.int .i64 6,sl] h (fun v _=>v=(oJ 6 [x,y]).val):=by
 obtain ⟨b,o,cap,rfl,c0⟩:=row0 hr
 have kx:=hk x (by simp)
 have ky:=hk y (by simp)
 have c1:Cells h b (o + 1 * 3) y.cells:=hr.cell (i:=1) rfl
 have hki:=fun H hq=>cV [x,y] (.slice (some ⟨b,o,none⟩) 2 cap) 1 H hq (by simp)
 have hap:oJ 6 [x,y]=if aV [x,y] 1=true then nrV 6 x.n y.n else xK 9:=by unfold oJ; rw [if_neg (by omega),if_neg (by omega),if_neg (by omega),if_neg (by omega),if_neg (by omega),hd0,hd1]
 have hnr:nrV 6 x.n y.n=if (rV 6 x.n y.n).2=0 then ⟨1,(rV 6 x.n y.n).1,⟨#[]⟩⟩ else xK (rV 6 x.n y.n).2:=rfl
 rw [hnr] at hap
 have hl:=fun q=>dV (l:=[x,y]) hk q
 have hn:=fun (q:aV [x,y] 1=true) H=>num_any 6 x.n y.n H (hl q x (by simp)) (hl q y (by simp))
 generalize rV 6 x.n y.n=r at *
 generalize aV [x,y] 1=kv at *
 refine fY Tryz.func113 (c:=Tryz.f113.body.getD .skip) (N:=147) ?_
 intro hbx hbad Q hQ a w hJ
 replace hJ:K ⟨147,h.w,h.bad,[]⟩ [(0,Vi 6),(1,.slice (some ⟨b,o,none⟩) 2 cap)] [] [] h a w:=hJ.tw
 replace hJ:=hJ.fact (c0.sees (Sees.refl _))
 replace hJ:=hJ.fact (c1.sees (Sees.refl _))
 refine rk hJ false 72 [.own,.cl 135 #[.slice (some ⟨b,o,none⟩) 2 cap,Vi 1] (.bool kv)] [] (.new fun b1=>.f (.code [1,0,1,1]) [.seq [1,1,1]] [0,1] [(4,Vp b1),(115,.bool (!kv))] [.box b1 [Vi 0,Vi 0,Ve]] [.o 0,.o 1]) (And.intro (fun H sH=>hki _ (hr.sees sH)) (trivial)) trivial (fun b1 _=>by kernel_rfl) ?_
 clear hJ a w; intro b1 a w hJ
 by_cases hq:kv=true
 ·skip
  refine iY hJ (t := !kv) ((by rw [hq]; rfl)) ?_
  refine rx' hJ false 4 [] [] (.ok (.ops [0,1,1,1] 0) [.seq [1,1,1,1]] [(0,Vi 6),(1,.slice (some ⟨b,o,none⟩) 2 cap),(4,Vp b1)] [.box b1 [Vi 0,Vi 0,Ve]] [(b,o + 1 * 3,[Vi y.k,Vi y.n,.string y.s]),(b,o + 0 * 3,[Vi x.k,Vi x.n,.string x.s])]) (fun _=>by kernel_rfl) ?_
  clear hJ a w; intro a w hJ
  refine mY hJ 117 (by kernel_rfl) (by kernel_rfl) ?_; clear hJ a w; intro b2 a w hJ
  refine nY hJ 0 (b:=b2) (t:=180) (mo:=(.tmp 117)) (ko:=(.const (Vi 5))) (vo:=(.func 136)) (es:=[]) (kt:=3) (et:=179) (td:=.int .i64) (key:=Vi 5) (v:=.func (.func 136) #[] #[]) Tryz.underlying180 Tryz.underlying3 ?_; clear hJ a w; intro a w hJ
  replace hJ:K ⟨147,h.w,h.bad,[]⟩ [(0,Vi 6),(1,.slice (some ⟨b,o,none⟩) 2 cap),(4,Vp b1),(117,.map (some b2))] [.map b2 ([(Vi 5,.func (.func 136) #[] #[])]),.box b1 [Vi 0,Vi 0,Ve]] [(b,o + 1 * 3,[Vi y.k,Vi y.n,.string y.s]),(b,o + 0 * 3,[Vi x.k,Vi x.n,.string x.s])] h a w:=hJ.tw
  refine nY hJ 0 (b:=b2) (t:=180) (mo:=(.tmp 117)) (ko:=(.const (Vi 6))) (vo:=(.func 137)) (es:=[(Vi 5,.func (.func 136) #[] #[])]) (kt:=3) (et:=179) (td:=.int .i64) (key:=Vi 6) (v:=.func (.func 137) #[] #[]) Tryz.underlying180 Tryz.underlying3 ?_; clear hJ a w; intro a w hJ
  replace hJ:K ⟨147,h.w,h.bad,[]⟩ [(0,Vi 6),(1,.slice (some ⟨b,o,none⟩) 2 cap),(4,Vp b1),(117,.map (some b2))] [.map b2 ([(Vi 5,.func (.func 136) #[] #[]),(Vi 6,.func (.func 137) #[] #[])]),.box b1 [Vi 0,Vi 0,Ve]] [(b,o + 1 * 3,[Vi y.k,Vi y.n,.string y.s]),(b,o + 0 * 3,[Vi x.k,Vi x.n,.string x.s])] h a w:=hJ.tw
  refine nY hJ 0 (b:=b2) (t:=180) (mo:=(.tmp 117)) (ko:=(.const (Vi 7))) (vo:=(.func 138)) (es:=[(Vi 5,.func (.func 136) #[] #[]),(Vi 6,.func (.func 137) #[] #[])]) (kt:=3) (et:=179) (td:=.int .i64) (key:=Vi 7) (v:=.func (.func 138) #[] #[]) Tryz.underlying180 Tryz.underlying3 ?_; clear hJ a w; intro a w hJ
  replace hJ:K ⟨147,h.w,h.bad,[]⟩ [(0,Vi 6),(1,.slice (some ⟨b,o,none⟩) 2 cap),(4,Vp b1),(117,.map (some b2))] [.map b2 ([(Vi 5,.func (.func 136) #[] #[]),(Vi 6,.func (.func 137) #[] #[]),(Vi 7,.func (.func 138) #[] #[])]),.box b1 [Vi 0,Vi 0,Ve]] [(b,o + 1 * 3,[Vi y.k,Vi y.n,.string y.s]),(b,o + 0 * 3,[Vi x.k,Vi x.n,.string x.s])] h a w:=hJ.tw
  refine nY hJ 0 (b:=b2) (t:=180) (mo:=(.tmp 117)) (ko:=(.const (Vi 8))) (vo:=(.func 139)) (es:=[(Vi 5,.func (.func 136) #[] #[]),(Vi 6,.func (.func 137) #[] #[]),(Vi 7,.func (.func 138) #[] #[])]) (kt:=3) (et:=179) (td:=.int .i64) (key:=Vi 8) (v:=.func (.func 139) #[] #[]) Tryz.underlying180 Tryz.underlying3 ?_; clear hJ a w; intro a w hJ
  replace hJ:K ⟨147,h.w,h.bad,[]⟩ [(0,Vi 6),(1,.slice (some ⟨b,o,none⟩) 2 cap),(4,Vp b1),(117,.map (some b2))] [.map b2 ([(Vi 5,.func (.func 136) #[] #[]),(Vi 6,.func (.func 137) #[] #[]),(Vi 7,.func (.func 138) #[] #[]),(Vi 8,.func (.func 139) #[] #[])]),.box b1 [Vi 0,Vi 0,Ve]] [(b,o + 1 * 3,[Vi y.k,Vi y.n,.string y.s]),(b,o + 0 * 3,[Vi x.k,Vi x.n,.string x.s])] h a w:=hJ.tw
  refine nY hJ 0 (b:=b2) (t:=180) (mo:=(.tmp 117)) (ko:=(.const (Vi 9))) (vo:=(.func 140)) (es:=[(Vi 5,.func (.func 136) #[] #[]),(Vi 6,.func (.func 137) #[] #[]),(Vi 7,.func (.func 138) #[] #[]),(Vi 8,.func (.func 139) #[] #[])]) (kt:=3) (et:=179) (td:=.int .i64) (key:=Vi 9) (v:=.func (.func 140) #[] #[]) Tryz.underlying180 Tryz.underlying3 ?_; clear hJ a w; intro a w hJ
  replace hJ:K ⟨147,h.w,h.bad,[]⟩ [(0,Vi 6),(1,.slice (some ⟨b,o,none⟩) 2 cap),(4,Vp b1),(117,.map (some b2))] [.map b2 ([(Vi 5,.func (.func 136) #[] #[]),(Vi 6,.func (.func 137) #[] #[]),(Vi 7,.func (.func 138) #[] #[]),(Vi 8,.func (.func 139) #[] #[]),(Vi 9,.func (.func 140) #[] #[])]),.box b1 [Vi 0,Vi 0,Ve]] [(b,o + 1 * 3,[Vi y.k,Vi y.n,.string y.s]),(b,o + 0 * 3,[Vi x.k,Vi x.n,.string x.s])] h a w:=hJ.tw
  refine rk' hJ false 2 [] [] (.k (.ops [0,1,1,1] 8) [.seq [1,1,1,1]] [0,1,4] [(118,.map (some b2)),(119,Vi 6)]) ?_
  clear hJ a w; intro a w hJ
  refine lY hJ 120 (b:=b2) (t:=180) (mo:=(.tmp 118)) (ko:=(.tmp 119)) (c:=false) (es:=[(Vi 5,.func (.func 136) #[] #[]),(Vi 6,.func (.func 137) #[] #[]),(Vi 7,.func (.func 138) #[] #[]),(Vi 8,.func (.func 139) #[] #[]),(Vi 9,.func (.func 140) #[] #[])]) (kt:=3) (et:=179) (td:=.int .i64) (key:=Vi 6) (z:=.nilFunc) (v:=.func (.func 137) #[] #[]) (r:=some (1,.func (.func 137) #[] #[])) (hJ.map 0 (by kernel_rfl)) Tryz.underlying180 Tryz.underlying3 (by kernel_rfl) ?_; clear hJ a w; intro a w hJ
  refine rk' hJ false 4 [] [] (.k (.code [0,1,1,1,1]) [.seq [1,1,1,1,1]] [0,1,4] [(7,.func (.func 137) #[] #[])]) ?_
  clear hJ a w; intro a w hJ
  let R:Reg:=⟨⟨147,h.w,h.bad,[]⟩,[(0,121,fun gh=>.slice (some ⟨b,o,none⟩) 2 cap),(1,122,fun gh=>.pointer (some ⟨b,o + 0 * 3,none⟩)),(2,123,fun gh=>.pointer (some ⟨b,o + 0 * 3 + 1,none⟩)),(3,124,fun gh=>Vi x.n),(4,125,fun gh=>.slice (some ⟨b,o,none⟩) 2 cap),(5,126,fun gh=>.slice (some ⟨b,o,none⟩) 2 cap),(6,127,fun gh=>Vi 2),(7,128,fun gh=>Vi 1),(8,129,fun gh=>.pointer (some ⟨b,o + 1 * 3,none⟩)),(9,130,fun gh=>.pointer (some ⟨b,o + 1 * 3 + 1,none⟩)),(10,131,fun gh=>Vi y.n),(11,8,fun gh=>Vi x.n),(12,9,fun gh=>Vi y.n)],[(0,Vi 6),(1,.slice (some ⟨b,o,none⟩) 2 cap),(4,Vp b1),(7,.func (.func 137) #[] #[])],[⟨some (.map b2 ([(Vi 5,.func (.func 136) #[] #[]),(Vi 6,.func (.func 137) #[] #[]),(Vi 7,.func (.func 138) #[] #[]),(Vi 8,.func (.func 139) #[] #[]),(Vi 9,.func (.func 140) #[] #[])])),[]⟩,⟨some (.box b1 [Vi 0,Vi 0,Ve]),[]⟩],[],[[],[0],[0,1],[0,1,2],[],[],[5],[5,6],[4,5,6,7],[4,5,6,7,8],[4,5,6,7,8,9],[0,1,2,3],[0,1,2,3,4,5,6,7,8,9,10,11]],h⟩
  have hmono:∀ zq∈R.F,∀ zx zh zi,Sees zh zi→zq.2 zx zh→zq.2 zx zi:=lJ
  refine oY (by kernel_rfl) R hJ 13 [.pu,.cl,.pu,.lf 1 1,.pu,.pu,.pu,.pu,.cl,.pu,.lf 0 1,.pu,.pu] (by kernel_rfl) hmono (fun _ _ _=>by kernel_rfl) (fun hT hA=>?_) ?_
  ·clear hJ
   refine And.intro (sW hT hA 122 (fun gh=>.pointer (some ⟨b,o + 0 * 3,none⟩)) [0] 1 (fun gh w=>jX (t:=32) (x:=(.tmp 121)) (y:=(.const (Vi 0))) (b:=b) (off:=o) (n:=2) (cap:=cap) (k:=0) (e:=38) (kk:=3) (by kernel_rfl) (by kernel_rfl) (by kernel_rfl) ((by decide)) Tryz.underlying32 (by kernel_rfl))) ?_
   refine And.intro (sW hT hA 129 (fun gh=>.pointer (some ⟨b,o + 1 * 3,none⟩)) [4,7] 8 (fun gh w=>jX (t:=32) (x:=(.tmp 125)) (y:=(.tmp 128)) (b:=b) (off:=o) (n:=2) (cap:=cap) (k:=1) (e:=38) (kk:=3) (by kernel_rfl) (by kernel_rfl) (by kernel_rfl) ((by decide)) Tryz.underlying32 (by kernel_rfl))) ?_
   trivial
  clear hJ a w; intro gh h3 a w sR hJ1 hF; have s4:Sees h h3:=sR; clear sR
  have hJ:K ⟨147,h.w,h.bad,[]⟩ [(0,Vi 6),(4,Vp b1),(7,.func (.func 137) #[] #[]),(8,Vi x.n),(9,Vi y.n)] [.map b2 ([(Vi 5,.func (.func 136) #[] #[]),(Vi 6,.func (.func 137) #[] #[]),(Vi 7,.func (.func 138) #[] #[]),(Vi 8,.func (.func 139) #[] #[]),(Vi 9,.func (.func 140) #[] #[])]),.box b1 [Vi 0,Vi 0,Ve]] [(b,o + 1 * 3,[Vi y.k,Vi y.n,.string y.s]),(b,o + 0 * 3,[Vi x.k,Vi x.n,.string x.s])] h3 a w:=hJ1.tw
  clear hJ1 hF hmono R
  clear gh
  refine rk' hJ false 31 [.cl 137 #[Vi x.n,Vi y.n] (.tuple #[Vi r.1,Vi r.2])] [] (.k (.code [1,0,1,1,1,1,1,1,1]) [.seq [1,1,1,1,1,1,1,1]] [4] [(10,Vi r.1),(11,Vi r.2),(142,.bool (r.2 != 0))]) (ho:=And.intro (fun H sH=>hn hq _) (trivial)) ?_
  clear hJ a w; intro a w hJ
  by_cases hc:r.2=0
  ·refine iY hJ (t:=r.2 != 0) (bne_eq_false_iff_eq.2 hc) ?_
   refine rk' hJ false 10 [.b 1 0] [] (.f (.out .ret) [] [4] [] [.map b2 ([(Vi 5,.func (.func 136) #[] #[]),(Vi 6,.func (.func 137) #[] #[]),(Vi 7,.func (.func 138) #[] #[]),(Vi 8,.func (.func 139) #[] #[]),(Vi 9,.func (.func 140) #[] #[])]),.box b1 [Vi 1,Vi r.1,Ve]] [.o 0,.o 1]) ?_
   clear hJ a w; intro a w hJ
   refine gY (hQ [.agg #[Vi 1,Vi r.1,Ve]] _ [] hJ (.rcel hJ.j 1 .nil) (fJ _) rfl ?_).1
   rw [hap,if_pos hq,if_pos hc]; rfl
  ·skip
   refine qY hJ (t:=r.2 != 0) (bne_iff_ne.2 hc) ?_
   refine rk' hJ false 9 [.cl 109 #[Vi r.2] (.agg #[Vi 5,Vi r.2,Ve]),.b 1 0] [] (.f (.out .ret) [] [4] [] [.map b2 ([(Vi 5,.func (.func 136) #[] #[]),(Vi 6,.func (.func 137) #[] #[]),(Vi 7,.func (.func 138) #[] #[]),(Vi 8,.func (.func 139) #[] #[]),(Vi 9,.func (.func 140) #[] #[])]),.box b1 [Vi 5,Vi r.2,Ve]] [.o 0,.o 1]) (ho:=And.intro (fun H sH=>yK _ _) (trivial)) ?_
   clear hJ a w; intro a w hJ
   refine gY (hQ [.agg #[Vi 5,Vi r.2,Ve]] _ [] hJ (.rcel hJ.j 1 .nil) (fJ _) rfl ?_).1
   rw [hap,if_pos hq,if_neg hc]; rfl
 ·skip
  refine qY hJ (t := !kv) ((by rw [show kv=false from by simpa using hq]; rfl)) ?_
  refine rk' hJ false 8 [.cl 109 #[Vi 9] (.agg #[Vi 5,Vi 9,Ve]),.b 0 0] [] (.f (.out .ret) [] [4] [] [.box b1 [Vi 5,Vi 9,Ve]] [.o 0,.o 1]) (ho:=And.intro (fun H sH=>yK 9 _) (trivial)) ?_
  clear hJ a w; intro a w hJ
  refine gY (hQ [.agg #[Vi 5,Vi 9,Ve]] _ [] hJ (.rcel hJ.j 0 .nil) (fJ _) rfl ?_).1
  rw [hap,if_neg hq]; rfl
theorem apply_7 (x y:Vl) (sl:Value) (h:Vw) (hr:RS h 3 sl (vrows [x,y])) (hk:∀ v∈[x,y],v.known):C0 Tryz.prog 113 #[.int .i64 7,sl] h (fun v _=>v=(oJ 7 [x,y]).val):=by
 obtain ⟨b,o,cap,rfl,c0⟩:=row0 hr
 have kx:=hk x (by simp)
 have ky:=hk y (by simp)
 have c1:Cells h b (o + 1 * 3) y.cells:=hr.cell (i:=1) rfl
 have hki:=fun H hq=>cV [x,y] (.slice (some ⟨b,o,none⟩) 2 cap) 1 H hq (by simp)
 have hap:oJ 7 [x,y]=if aV [x,y] 1=true then nrV 7 x.n y.n else xK 9:=by unfold oJ; rw [if_neg (by omega),if_neg (by omega),if_neg (by omega),if_neg (by omega),if_neg (by omega),hd0,hd1]
 have hnr:nrV 7 x.n y.n=if (rV 7 x.n y.n).2=0 then ⟨1,(rV 7 x.n y.n).1,⟨#[]⟩⟩ else xK (rV 7 x.n y.n).2:=rfl
 rw [hnr] at hap
 have hl:=fun q=>dV (l:=[x,y]) hk q
 have hn:=fun (q:aV [x,y] 1=true) H=>num_any 7 x.n y.n H (hl q x (by simp)) (hl q y (by simp))
 generalize rV 7 x.n y.n=r at *
 generalize aV [x,y] 1=kv at *
 refine fY Tryz.func113 (c:=Tryz.f113.body.getD .skip) (N:=147) ?_
 intro hbx hbad Q hQ a w hJ
 replace hJ:K ⟨147,h.w,h.bad,[]⟩ [(0,Vi 7),(1,.slice (some ⟨b,o,none⟩) 2 cap)] [] [] h a w:=hJ.tw
 replace hJ:=hJ.fact (c0.sees (Sees.refl _))
 replace hJ:=hJ.fact (c1.sees (Sees.refl _))
 refine rk hJ false 72 [.own,.cl 135 #[.slice (some ⟨b,o,none⟩) 2 cap,Vi 1] (.bool kv)] [] (.new fun b1=>.f (.code [1,0,1,1]) [.seq [1,1,1]] [0,1] [(4,Vp b1),(115,.bool (!kv))] [.box b1 [Vi 0,Vi 0,Ve]] [.o 0,.o 1]) (And.intro (fun H sH=>hki _ (hr.sees sH)) (trivial)) trivial (fun b1 _=>by kernel_rfl) ?_
 clear hJ a w; intro b1 a w hJ
 by_cases hq:kv=true
 ·skip
  refine iY hJ (t := !kv) ((by rw [hq]; rfl)) ?_
  refine rk' hJ false 4 [] [] (.k (.ops [0,1,1,1] 0) [.seq [1,1,1,1]] [0,1,4] []) ?_
  clear hJ a w; intro a w hJ
  refine mY hJ 117 (by kernel_rfl) (by kernel_rfl) ?_; clear hJ a w; intro b2 a w hJ
  refine nY hJ 0 (b:=b2) (t:=180) (mo:=(.tmp 117)) (ko:=(.const (Vi 5))) (vo:=(.func 136)) (es:=[]) (kt:=3) (et:=179) (td:=.int .i64) (key:=Vi 5) (v:=.func (.func 136) #[] #[]) Tryz.underlying180 Tryz.underlying3 ?_; clear hJ a w; intro a w hJ
  replace hJ:K ⟨147,h.w,h.bad,[]⟩ [(0,Vi 7),(1,.slice (some ⟨b,o,none⟩) 2 cap),(4,Vp b1),(117,.map (some b2))] [.map b2 ([(Vi 5,.func (.func 136) #[] #[])]),.box b1 [Vi 0,Vi 0,Ve]] [(b,o + 1 * 3,[Vi y.k,Vi y.n,.string y.s]),(b,o + 0 * 3,[Vi x.k,Vi x.n,.string x.s])] h a w:=hJ.tw
  refine nY hJ 0 (b:=b2) (t:=180) (mo:=(.tmp 117)) (ko:=(.const (Vi 6))) (vo:=(.func 137)) (es:=[(Vi 5,.func (.func 136) #[] #[])]) (kt:=3) (et:=179) (td:=.int .i64) (key:=Vi 6) (v:=.func (.func 137) #[] #[]) Tryz.underlying180 Tryz.underlying3 ?_; clear hJ a w; intro a w hJ
  replace hJ:K ⟨147,h.w,h.bad,[]⟩ [(0,Vi 7),(1,.slice (some ⟨b,o,none⟩) 2 cap),(4,Vp b1),(117,.map (some b2))] [.map b2 ([(Vi 5,.func (.func 136) #[] #[]),(Vi 6,.func (.func 137) #[] #[])]),.box b1 [Vi 0,Vi 0,Ve]] [(b,o + 1 * 3,[Vi y.k,Vi y.n,.string y.s]),(b,o + 0 * 3,[Vi x.k,Vi x.n,.string x.s])] h a w:=hJ.tw
  refine nY hJ 0 (b:=b2) (t:=180) (mo:=(.tmp 117)) (ko:=(.const (Vi 7))) (vo:=(.func 138)) (es:=[(Vi 5,.func (.func 136) #[] #[]),(Vi 6,.func (.func 137) #[] #[])]) (kt:=3) (et:=179) (td:=.int .i64) (key:=Vi 7) (v:=.func (.func 138) #[] #[]) Tryz.underlying180 Tryz.underlying3 ?_; clear hJ a w; intro a w hJ
  replace hJ:K ⟨147,h.w,h.bad,[]⟩ [(0,Vi 7),(1,.slice (some ⟨b,o,none⟩) 2 cap),(4,Vp b1),(117,.map (some b2))] [.map b2 ([(Vi 5,.func (.func 136) #[] #[]),(Vi 6,.func (.func 137) #[] #[]),(Vi 7,.func (.func 138) #[] #[])]),.box b1 [Vi 0,Vi 0,Ve]] [(b,o + 1 * 3,[Vi y.k,Vi y.n,.string y.s]),(b,o + 0 * 3,[Vi x.k,Vi x.n,.string x.s])] h a w:=hJ.tw
  refine nY hJ 0 (b:=b2) (t:=180) (mo:=(.tmp 117)) (ko:=(.const (Vi 8))) (vo:=(.func 139)) (es:=[(Vi 5,.func (.func 136) #[] #[]),(Vi 6,.func (.func 137) #[] #[]),(Vi 7,.func (.func 138) #[] #[])]) (kt:=3) (et:=179) (td:=.int .i64) (key:=Vi 8) (v:=.func (.func 139) #[] #[]) Tryz.underlying180 Tryz.underlying3 ?_; clear hJ a w; intro a w hJ
  replace hJ:K ⟨147,h.w,h.bad,[]⟩ [(0,Vi 7),(1,.slice (some ⟨b,o,none⟩) 2 cap),(4,Vp b1),(117,.map (some b2))] [.map b2 ([(Vi 5,.func (.func 136) #[] #[]),(Vi 6,.func (.func 137) #[] #[]),(Vi 7,.func (.func 138) #[] #[]),(Vi 8,.func (.func 139) #[] #[])]),.box b1 [Vi 0,Vi 0,Ve]] [(b,o + 1 * 3,[Vi y.k,Vi y.n,.string y.s]),(b,o + 0 * 3,[Vi x.k,Vi x.n,.string x.s])] h a w:=hJ.tw
  refine nY hJ 0 (b:=b2) (t:=180) (mo:=(.tmp 117)) (ko:=(.const (Vi 9))) (vo:=(.func 140)) (es:=[(Vi 5,.func (.func 136) #[] #[]),(Vi 6,.func (.func 137) #[] #[]),(Vi 7,.func (.func 138) #[] #[]),(Vi 8,.func (.func 139) #[] #[])]) (kt:=3) (et:=179) (td:=.int .i64) (key:=Vi 9) (v:=.func (.func 140) #[] #[]) Tryz.underlying180 Tryz.underlying3 ?_; clear hJ a w; intro a w hJ
  replace hJ:K ⟨147,h.w,h.bad,[]⟩ [(0,Vi 7),(1,.slice (some ⟨b,o,none⟩) 2 cap),(4,Vp b1),(117,.map (some b2))] [.map b2 ([(Vi 5,.func (.func 136) #[] #[]),(Vi 6,.func (.func 137) #[] #[]),(Vi 7,.func (.func 138) #[] #[]),(Vi 8,.func (.func 139) #[] #[]),(Vi 9,.func (.func 140) #[] #[])]),.box b1 [Vi 0,Vi 0,Ve]] [(b,o + 1 * 3,[Vi y.k,Vi y.n,.string y.s]),(b,o + 0 * 3,[Vi x.k,Vi x.n,.string x.s])] h a w:=hJ.tw
  refine rx' hJ false 2 [] [] (.ok (.ops [0,1,1,1] 8) [.seq [1,1,1,1]] [(0,Vi 7),(1,.slice (some ⟨b,o,none⟩) 2 cap),(4,Vp b1),(118,.map (some b2)),(119,Vi 7)] [.map b2 ([(Vi 5,.func (.func 136) #[] #[]),(Vi 6,.func (.func 137) #[] #[]),(Vi 7,.func (.func 138) #[] #[]),(Vi 8,.func (.func 139) #[] #[]),(Vi 9,.func (.func 140) #[] #[])]),.box b1 [Vi 0,Vi 0,Ve]] [(b,o + 1 * 3,[Vi y.k,Vi y.n,.string y.s]),(b,o + 0 * 3,[Vi x.k,Vi x.n,.string x.s])]) (fun _=>by kernel_rfl) ?_
  clear hJ a w; intro a w hJ
  refine lY hJ 120 (b:=b2) (t:=180) (mo:=(.tmp 118)) (ko:=(.tmp 119)) (c:=false) (es:=[(Vi 5,.func (.func 136) #[] #[]),(Vi 6,.func (.func 137) #[] #[]),(Vi 7,.func (.func 138) #[] #[]),(Vi 8,.func (.func 139) #[] #[]),(Vi 9,.func (.func 140) #[] #[])]) (kt:=3) (et:=179) (td:=.int .i64) (key:=Vi 7) (z:=.nilFunc) (v:=.func (.func 138) #[] #[]) (r:=some (2,.func (.func 138) #[] #[])) (hJ.map 0 (by kernel_rfl)) Tryz.underlying180 Tryz.underlying3 (by kernel_rfl) ?_; clear hJ a w; intro a w hJ
  refine rk' hJ false 4 [] [] (.k (.code [0,1,1,1,1]) [.seq [1,1,1,1,1]] [0,1,4] [(7,.func (.func 138) #[] #[])]) ?_
  clear hJ a w; intro a w hJ
  let R:Reg:=⟨⟨147,h.w,h.bad,[]⟩,[(0,121,fun gh=>.slice (some ⟨b,o,none⟩) 2 cap),(1,122,fun gh=>.pointer (some ⟨b,o + 0 * 3,none⟩)),(2,123,fun gh=>.pointer (some ⟨b,o + 0 * 3 + 1,none⟩)),(3,124,fun gh=>Vi x.n),(4,125,fun gh=>.slice (some ⟨b,o,none⟩) 2 cap),(5,126,fun gh=>.slice (some ⟨b,o,none⟩) 2 cap),(6,127,fun gh=>Vi 2),(7,128,fun gh=>Vi 1),(8,129,fun gh=>.pointer (some ⟨b,o + 1 * 3,none⟩)),(9,130,fun gh=>.pointer (some ⟨b,o + 1 * 3 + 1,none⟩)),(10,131,fun gh=>Vi y.n),(11,8,fun gh=>Vi x.n),(12,9,fun gh=>Vi y.n)],[(0,Vi 7),(1,.slice (some ⟨b,o,none⟩) 2 cap),(4,Vp b1),(7,.func (.func 138) #[] #[])],[⟨some (.map b2 ([(Vi 5,.func (.func 136) #[] #[]),(Vi 6,.func (.func 137) #[] #[]),(Vi 7,.func (.func 138) #[] #[]),(Vi 8,.func (.func 139) #[] #[]),(Vi 9,.func (.func 140) #[] #[])])),[]⟩,⟨some (.box b1 [Vi 0,Vi 0,Ve]),[]⟩],[],[[],[0],[0,1],[0,1,2],[],[],[5],[5,6],[4,5,6,7],[4,5,6,7,8],[4,5,6,7,8,9],[0,1,2,3],[0,1,2,3,4,5,6,7,8,9,10,11]],h⟩
  have hmono:∀ zq∈R.F,∀ zx zh zi,Sees zh zi→zq.2 zx zh→zq.2 zx zi:=lJ
  refine oY (by kernel_rfl) R hJ 13 [.pu,.cl,.pu,.lf 1 1,.pu,.pu,.pu,.pu,.cl,.pu,.lf 0 1,.pu,.pu] (by kernel_rfl) hmono (fun _ _ _=>by kernel_rfl) (fun hT hA=>?_) ?_
  ·clear hJ
   refine And.intro (sW hT hA 122 (fun gh=>.pointer (some ⟨b,o + 0 * 3,none⟩)) [0] 1 (fun gh w=>jX (t:=32) (x:=(.tmp 121)) (y:=(.const (Vi 0))) (b:=b) (off:=o) (n:=2) (cap:=cap) (k:=0) (e:=38) (kk:=3) (by kernel_rfl) (by kernel_rfl) (by kernel_rfl) ((by decide)) Tryz.underlying32 (by kernel_rfl))) ?_
   refine And.intro (sW hT hA 129 (fun gh=>.pointer (some ⟨b,o + 1 * 3,none⟩)) [4,7] 8 (fun gh w=>jX (t:=32) (x:=(.tmp 125)) (y:=(.tmp 128)) (b:=b) (off:=o) (n:=2) (cap:=cap) (k:=1) (e:=38) (kk:=3) (by kernel_rfl) (by kernel_rfl) (by kernel_rfl) ((by decide)) Tryz.underlying32 (by kernel_rfl))) ?_
   trivial
  clear hJ a w; intro gh h3 a w sR hJ1 hF; have s4:Sees h h3:=sR; clear sR
  have hJ:K ⟨147,h.w,h.bad,[]⟩ [(0,Vi 7),(4,Vp b1),(7,.func (.func 138) #[] #[]),(8,Vi x.n),(9,Vi y.n)] [.map b2 ([(Vi 5,.func (.func 136) #[] #[]),(Vi 6,.func (.func 137) #[] #[]),(Vi 7,.func (.func 138) #[] #[]),(Vi 8,.func (.func 139) #[] #[]),(Vi 9,.func (.func 140) #[] #[])]),.box b1 [Vi 0,Vi 0,Ve]] [(b,o + 1 * 3,[Vi y.k,Vi y.n,.string y.s]),(b,o + 0 * 3,[Vi x.k,Vi x.n,.string x.s])] h3 a w:=hJ1.tw
  clear hJ1 hF hmono R
  clear gh
  refine rk' hJ false 31 [.cl 138 #[Vi x.n,Vi y.n] (.tuple #[Vi r.1,Vi r.2])] [] (.k (.code [1,0,1,1,1,1,1,1,1]) [.seq [1,1,1,1,1,1,1,1]] [4] [(10,Vi r.1),(11,Vi r.2),(142,.bool (r.2 != 0))]) (ho:=And.intro (fun H sH=>hn hq _) (trivial)) ?_
  clear hJ a w; intro a w hJ
  by_cases hc:r.2=0
  ·refine iY hJ (t:=r.2 != 0) (bne_eq_false_iff_eq.2 hc) ?_
   refine rk' hJ false 10 [.b 1 0] [] (.f (.out .ret) [] [4] [] [.map b2 ([(Vi 5,.func (.func 136) #[] #[]),(Vi 6,.func (.func 137) #[] #[]),(Vi 7,.func (.func 138) #[] #[]),(Vi 8,.func (.func 139) #[] #[]),(Vi 9,.func (.func 140) #[] #[])]),.box b1 [Vi 1,Vi r.1,Ve]] [.o 0,.o 1]) ?_
   clear hJ a w; intro a w hJ
   refine gY (hQ [.agg #[Vi 1,Vi r.1,Ve]] _ [] hJ (.rcel hJ.j 1 .nil) (fJ _) rfl ?_).1
   rw [hap,if_pos hq,if_pos hc]; rfl
  ·skip
   refine qY hJ (t:=r.2 != 0) (bne_iff_ne.2 hc) ?_
   refine rk' hJ false 9 [.cl 109 #[Vi r.2] (.agg #[Vi 5,Vi r.2,Ve]),.b 1 0] [] (.f (.out .ret) [] [4] [] [.map b2 ([(Vi 5,.func (.func 136) #[] #[]),(Vi 6,.func (.func 137) #[] #[]),(Vi 7,.func (.func 138) #[] #[]),(Vi 8,.func (.func 139) #[] #[]),(Vi 9,.func (.func 140) #[] #[])]),.box b1 [Vi 5,Vi r.2,Ve]] [.o 0,.o 1]) (ho:=And.intro (fun H sH=>yK _ _) (trivial)) ?_
   clear hJ a w; intro a w hJ
   refine gY (hQ [.agg #[Vi 5,Vi r.2,Ve]] _ [] hJ (.rcel hJ.j 1 .nil) (fJ _) rfl ?_).1
   rw [hap,if_pos hq,if_neg hc]; rfl
 ·skip
  refine qY hJ (t := !kv) ((by rw [show kv=false from by simpa using hq]; rfl)) ?_
  refine rk' hJ false 8 [.cl 109 #[Vi 9] (.agg #[Vi 5,Vi 9,Ve]),.b 0 0] [] (.f (.out .ret) [] [4] [] [.box b1 [Vi 5,Vi 9,Ve]] [.o 0,.o 1]) (ho:=And.intro (fun H sH=>yK 9 _) (trivial)) ?_
  clear hJ a w; intro a w hJ
  refine gY (hQ [.agg #[Vi 5,Vi 9,Ve]] _ [] hJ (.rcel hJ.j 0 .nil) (fJ _) rfl ?_).1
  rw [hap,if_neg hq]; rfl
theorem apply_8 (x y:Vl) (sl:Value) (h:Vw) (hr:RS h 3 sl (vrows [x,y])) (hk:∀ v∈[x,y],v.known):C0 Tryz.prog 113 #[.int .i64 8,sl] h (fun v _=>v=(oJ 8 [x,y]).val):=by
 obtain ⟨b,o,cap,rfl,c0⟩:=row0 hr
 have kx:=hk x (by simp)
 have ky:=hk y (by simp)
 have c1:Cells h b (o + 1 * 3) y.cells:=hr.cell (i:=1) rfl
 have hki:=fun H hq=>cV [x,y] (.slice (some ⟨b,o,none⟩) 2 cap) 1 H hq (by simp)
 have hap:oJ 8 [x,y]=if aV [x,y] 1=true then nrV 8 x.n y.n else xK 9:=by unfold oJ; rw [if_neg (by omega),if_neg (by omega),if_neg (by omega),if_neg (by omega),if_neg (by omega),hd0,hd1]
 have hnr:nrV 8 x.n y.n=if (rV 8 x.n y.n).2=0 then ⟨1,(rV 8 x.n y.n).1,⟨#[]⟩⟩ else xK (rV 8 x.n y.n).2:=rfl
 rw [hnr] at hap
 have hl:=fun q=>dV (l:=[x,y]) hk q
 have hn:=fun (q:aV [x,y] 1=true) H=>num_any 8 x.n y.n H (hl q x (by simp)) (hl q y (by simp))
 generalize rV 8 x.n y.n=r at *
 generalize aV [x,y] 1=kv at *
 refine fY Tryz.func113 (c:=Tryz.f113.body.getD .skip) (N:=147) ?_
 intro hbx hbad Q hQ a w hJ
 replace hJ:K ⟨147,h.w,h.bad,[]⟩ [(0,Vi 8),(1,.slice (some ⟨b,o,none⟩) 2 cap)] [] [] h a w:=hJ.tw
 replace hJ:=hJ.fact (c0.sees (Sees.refl _))
 replace hJ:=hJ.fact (c1.sees (Sees.refl _))
 refine rk hJ false 72 [.own,.cl 135 #[.slice (some ⟨b,o,none⟩) 2 cap,Vi 1] (.bool kv)] [] (.new fun b1=>.f (.code [1,0,1,1]) [.seq [1,1,1]] [0,1] [(4,Vp b1),(115,.bool (!kv))] [.box b1 [Vi 0,Vi 0,Ve]] [.o 0,.o 1]) (And.intro (fun H sH=>hki _ (hr.sees sH)) (trivial)) trivial (fun b1 _=>by kernel_rfl) ?_
 clear hJ a w; intro b1 a w hJ
 by_cases hq:kv=true
 ·skip
  refine iY hJ (t := !kv) ((by rw [hq]; rfl)) ?_
  refine rk' hJ false 4 [] [] (.k (.ops [0,1,1,1] 0) [.seq [1,1,1,1]] [0,1,4] []) ?_
  clear hJ a w; intro a w hJ
  refine mY hJ 117 (by kernel_rfl) (by kernel_rfl) ?_; clear hJ a w; intro b2 a w hJ
  refine nY hJ 0 (b:=b2) (t:=180) (mo:=(.tmp 117)) (ko:=(.const (Vi 5))) (vo:=(.func 136)) (es:=[]) (kt:=3) (et:=179) (td:=.int .i64) (key:=Vi 5) (v:=.func (.func 136) #[] #[]) Tryz.underlying180 Tryz.underlying3 ?_; clear hJ a w; intro a w hJ
  replace hJ:K ⟨147,h.w,h.bad,[]⟩ [(0,Vi 8),(1,.slice (some ⟨b,o,none⟩) 2 cap),(4,Vp b1),(117,.map (some b2))] [.map b2 ([(Vi 5,.func (.func 136) #[] #[])]),.box b1 [Vi 0,Vi 0,Ve]] [(b,o + 1 * 3,[Vi y.k,Vi y.n,.string y.s]),(b,o + 0 * 3,[Vi x.k,Vi x.n,.string x.s])] h a w:=hJ.tw
  refine nY hJ 0 (b:=b2) (t:=180) (mo:=(.tmp 117)) (ko:=(.const (Vi 6))) (vo:=(.func 137)) (es:=[(Vi 5,.func (.func 136) #[] #[])]) (kt:=3) (et:=179) (td:=.int .i64) (key:=Vi 6) (v:=.func (.func 137) #[] #[]) Tryz.underlying180 Tryz.underlying3 ?_; clear hJ a w; intro a w hJ
  replace hJ:K ⟨147,h.w,h.bad,[]⟩ [(0,Vi 8),(1,.slice (some ⟨b,o,none⟩) 2 cap),(4,Vp b1),(117,.map (some b2))] [.map b2 ([(Vi 5,.func (.func 136) #[] #[]),(Vi 6,.func (.func 137) #[] #[])]),.box b1 [Vi 0,Vi 0,Ve]] [(b,o + 1 * 3,[Vi y.k,Vi y.n,.string y.s]),(b,o + 0 * 3,[Vi x.k,Vi x.n,.string x.s])] h a w:=hJ.tw
  refine nY hJ 0 (b:=b2) (t:=180) (mo:=(.tmp 117)) (ko:=(.const (Vi 7))) (vo:=(.func 138)) (es:=[(Vi 5,.func (.func 136) #[] #[]),(Vi 6,.func (.func 137) #[] #[])]) (kt:=3) (et:=179) (td:=.int .i64) (key:=Vi 7) (v:=.func (.func 138) #[] #[]) Tryz.underlying180 Tryz.underlying3 ?_; clear hJ a w; intro a w hJ
  replace hJ:K ⟨147,h.w,h.bad,[]⟩ [(0,Vi 8),(1,.slice (some ⟨b,o,none⟩) 2 cap),(4,Vp b1),(117,.map (some b2))] [.map b2 ([(Vi 5,.func (.func 136) #[] #[]),(Vi 6,.func (.func 137) #[] #[]),(Vi 7,.func (.func 138) #[] #[])]),.box b1 [Vi 0,Vi 0,Ve]] [(b,o + 1 * 3,[Vi y.k,Vi y.n,.string y.s]),(b,o + 0 * 3,[Vi x.k,Vi x.n,.string x.s])] h a w:=hJ.tw
  refine nY hJ 0 (b:=b2) (t:=180) (mo:=(.tmp 117)) (ko:=(.const (Vi 8))) (vo:=(.func 139)) (es:=[(Vi 5,.func (.func 136) #[] #[]),(Vi 6,.func (.func 137) #[] #[]),(Vi 7,.func (.func 138) #[] #[])]) (kt:=3) (et:=179) (td:=.int .i64) (key:=Vi 8) (v:=.func (.func 139) #[] #[]) Tryz.underlying180 Tryz.underlying3 ?_; clear hJ a w; intro a w hJ
  replace hJ:K ⟨147,h.w,h.bad,[]⟩ [(0,Vi 8),(1,.slice (some ⟨b,o,none⟩) 2 cap),(4,Vp b1),(117,.map (some b2))] [.map b2 ([(Vi 5,.func (.func 136) #[] #[]),(Vi 6,.func (.func 137) #[] #[]),(Vi 7,.func (.func 138) #[] #[]),(Vi 8,.func (.func 139) #[] #[])]),.box b1 [Vi 0,Vi 0,Ve]] [(b,o + 1 * 3,[Vi y.k,Vi y.n,.string y.s]),(b,o + 0 * 3,[Vi x.k,Vi x.n,.string x.s])] h a w:=hJ.tw
  refine nY hJ 0 (b:=b2) (t:=180) (mo:=(.tmp 117)) (ko:=(.const (Vi 9))) (vo:=(.func 140)) (es:=[(Vi 5,.func (.func 136) #[] #[]),(Vi 6,.func (.func 137) #[] #[]),(Vi 7,.func (.func 138) #[] #[]),(Vi 8,.func (.func 139) #[] #[])]) (kt:=3) (et:=179) (td:=.int .i64) (key:=Vi 9) (v:=.func (.func 140) #[] #[]) Tryz.underlying180 Tryz.underlying3 ?_; clear hJ a w; intro a w hJ
  replace hJ:K ⟨147,h.w,h.bad,[]⟩ [(0,Vi 8),(1,.slice (some ⟨b,o,none⟩) 2 cap),(4,Vp b1),(117,.map (some b2))] [.map b2 ([(Vi 5,.func (.func 136) #[] #[]),(Vi 6,.func (.func 137) #[] #[]),(Vi 7,.func (.func 138) #[] #[]),(Vi 8,.func (.func 139) #[] #[]),(Vi 9,.func (.func 140) #[] #[])]),.box b1 [Vi 0,Vi 0,Ve]] [(b,o + 1 * 3,[Vi y.k,Vi y.n,.string y.s]),(b,o + 0 * 3,[Vi x.k,Vi x.n,.string x.s])] h a w:=hJ.tw
  refine rk' hJ false 2 [] [] (.k (.ops [0,1,1,1] 8) [.seq [1,1,1,1]] [0,1,4] [(118,.map (some b2)),(119,Vi 8)]) ?_
  clear hJ a w; intro a w hJ
  refine lY hJ 120 (b:=b2) (t:=180) (mo:=(.tmp 118)) (ko:=(.tmp 119)) (c:=false) (es:=[(Vi 5,.func (.func 136) #[] #[]),(Vi 6,.func (.func 137) #[] #[]),(Vi 7,.func (.func 138) #[] #[]),(Vi 8,.func (.func 139) #[] #[]),(Vi 9,.func (.func 140) #[] #[])]) (kt:=3) (et:=179) (td:=.int .i64) (key:=Vi 8) (z:=.nilFunc) (v:=.func (.func 139) #[] #[]) (r:=some (3,.func (.func 139) #[] #[])) (hJ.map 0 (by kernel_rfl)) Tryz.underlying180 Tryz.underlying3 (by kernel_rfl) ?_; clear hJ a w; intro a w hJ
  refine rx' hJ false 4 [] [] (.ok (.code [0,1,1,1,1]) [.seq [1,1,1,1,1]] [(0,Vi 8),(1,.slice (some ⟨b,o,none⟩) 2 cap),(4,Vp b1),(7,.func (.func 139) #[] #[])] [.map b2 ([(Vi 5,.func (.func 136) #[] #[]),(Vi 6,.func (.func 137) #[] #[]),(Vi 7,.func (.func 138) #[] #[]),(Vi 8,.func (.func 139) #[] #[]),(Vi 9,.func (.func 140) #[] #[])]),.box b1 [Vi 0,Vi 0,Ve]] [(b,o + 1 * 3,[Vi y.k,Vi y.n,.string y.s]),(b,o + 0 * 3,[Vi x.k,Vi x.n,.string x.s])]) (fun _=>by kernel_rfl) ?_
  clear hJ a w; intro a w hJ
  let R:Reg:=⟨⟨147,h.w,h.bad,[]⟩,[(0,121,fun gh=>.slice (some ⟨b,o,none⟩) 2 cap),(1,122,fun gh=>.pointer (some ⟨b,o + 0 * 3,none⟩)),(2,123,fun gh=>.pointer (some ⟨b,o + 0 * 3 + 1,none⟩)),(3,124,fun gh=>Vi x.n),(4,125,fun gh=>.slice (some ⟨b,o,none⟩) 2 cap),(5,126,fun gh=>.slice (some ⟨b,o,none⟩) 2 cap),(6,127,fun gh=>Vi 2),(7,128,fun gh=>Vi 1),(8,129,fun gh=>.pointer (some ⟨b,o + 1 * 3,none⟩)),(9,130,fun gh=>.pointer (some ⟨b,o + 1 * 3 + 1,none⟩)),(10,131,fun gh=>Vi y.n),(11,8,fun gh=>Vi x.n),(12,9,fun gh=>Vi y.n)],[(0,Vi 8),(1,.slice (some ⟨b,o,none⟩) 2 cap),(4,Vp b1),(7,.func (.func 139) #[] #[])],[⟨some (.map b2 ([(Vi 5,.func (.func 136) #[] #[]),(Vi 6,.func (.func 137) #[] #[]),(Vi 7,.func (.func 138) #[] #[]),(Vi 8,.func (.func 139) #[] #[]),(Vi 9,.func (.func 140) #[] #[])])),[]⟩,⟨some (.box b1 [Vi 0,Vi 0,Ve]),[]⟩],[],[[],[0],[0,1],[0,1,2],[],[],[5],[5,6],[4,5,6,7],[4,5,6,7,8],[4,5,6,7,8,9],[0,1,2,3],[0,1,2,3,4,5,6,7,8,9,10,11]],h⟩
  have hmono:∀ zq∈R.F,∀ zx zh zi,Sees zh zi→zq.2 zx zh→zq.2 zx zi:=lJ
  refine oY (by kernel_rfl) R hJ 13 [.pu,.cl,.pu,.lf 1 1,.pu,.pu,.pu,.pu,.cl,.pu,.lf 0 1,.pu,.pu] (by kernel_rfl) hmono (fun _ _ _=>by kernel_rfl) (fun hT hA=>?_) ?_
  ·clear hJ
   refine And.intro (sW hT hA 122 (fun gh=>.pointer (some ⟨b,o + 0 * 3,none⟩)) [0] 1 (fun gh w=>jX (t:=32) (x:=(.tmp 121)) (y:=(.const (Vi 0))) (b:=b) (off:=o) (n:=2) (cap:=cap) (k:=0) (e:=38) (kk:=3) (by kernel_rfl) (by kernel_rfl) (by kernel_rfl) ((by decide)) Tryz.underlying32 (by kernel_rfl))) ?_
   refine And.intro (sW hT hA 129 (fun gh=>.pointer (some ⟨b,o + 1 * 3,none⟩)) [4,7] 8 (fun gh w=>jX (t:=32) (x:=(.tmp 125)) (y:=(.tmp 128)) (b:=b) (off:=o) (n:=2) (cap:=cap) (k:=1) (e:=38) (kk:=3) (by kernel_rfl) (by kernel_rfl) (by kernel_rfl) ((by decide)) Tryz.underlying32 (by kernel_rfl))) ?_
   trivial
  clear hJ a w; intro gh h3 a w sR hJ1 hF; have s4:Sees h h3:=sR; clear sR
  have hJ:K ⟨147,h.w,h.bad,[]⟩ [(0,Vi 8),(4,Vp b1),(7,.func (.func 139) #[] #[]),(8,Vi x.n),(9,Vi y.n)] [.map b2 ([(Vi 5,.func (.func 136) #[] #[]),(Vi 6,.func (.func 137) #[] #[]),(Vi 7,.func (.func 138) #[] #[]),(Vi 8,.func (.func 139) #[] #[]),(Vi 9,.func (.func 140) #[] #[])]),.box b1 [Vi 0,Vi 0,Ve]] [(b,o + 1 * 3,[Vi y.k,Vi y.n,.string y.s]),(b,o + 0 * 3,[Vi x.k,Vi x.n,.string x.s])] h3 a w:=hJ1.tw
  clear hJ1 hF hmono R
  clear gh
  refine rk' hJ false 31 [.cl 139 #[Vi x.n,Vi y.n] (.tuple #[Vi r.1,Vi r.2])] [] (.k (.code [1,0,1,1,1,1,1,1,1]) [.seq [1,1,1,1,1,1,1,1]] [4] [(10,Vi r.1),(11,Vi r.2),(142,.bool (r.2 != 0))]) (ho:=And.intro (fun H sH=>hn hq _) (trivial)) ?_
  clear hJ a w; intro a w hJ
  by_cases hc:r.2=0
  ·refine iY hJ (t:=r.2 != 0) (bne_eq_false_iff_eq.2 hc) ?_
   refine rk' hJ false 10 [.b 1 0] [] (.f (.out .ret) [] [4] [] [.map b2 ([(Vi 5,.func (.func 136) #[] #[]),(Vi 6,.func (.func 137) #[] #[]),(Vi 7,.func (.func 138) #[] #[]),(Vi 8,.func (.func 139) #[] #[]),(Vi 9,.func (.func 140) #[] #[])]),.box b1 [Vi 1,Vi r.1,Ve]] [.o 0,.o 1]) ?_
   clear hJ a w; intro a w hJ
   refine gY (hQ [.agg #[Vi 1,Vi r.1,Ve]] _ [] hJ (.rcel hJ.j 1 .nil) (fJ _) rfl ?_).1
   rw [hap,if_pos hq,if_pos hc]; rfl
  ·skip
   refine qY hJ (t:=r.2 != 0) (bne_iff_ne.2 hc) ?_
   refine rk' hJ false 9 [.cl 109 #[Vi r.2] (.agg #[Vi 5,Vi r.2,Ve]),.b 1 0] [] (.f (.out .ret) [] [4] [] [.map b2 ([(Vi 5,.func (.func 136) #[] #[]),(Vi 6,.func (.func 137) #[] #[]),(Vi 7,.func (.func 138) #[] #[]),(Vi 8,.func (.func 139) #[] #[]),(Vi 9,.func (.func 140) #[] #[])]),.box b1 [Vi 5,Vi r.2,Ve]] [.o 0,.o 1]) (ho:=And.intro (fun H sH=>yK _ _) (trivial)) ?_
   clear hJ a w; intro a w hJ
   refine gY (hQ [.agg #[Vi 5,Vi r.2,Ve]] _ [] hJ (.rcel hJ.j 1 .nil) (fJ _) rfl ?_).1
   rw [hap,if_pos hq,if_neg hc]; rfl
 ·skip
  refine qY hJ (t := !kv) ((by rw [show kv=false from by simpa using hq]; rfl)) ?_
  refine rk' hJ false 8 [.cl 109 #[Vi 9] (.agg #[Vi 5,Vi 9,Ve]),.b 0 0] [] (.f (.out .ret) [] [4] [] [.box b1 [Vi 5,Vi 9,Ve]] [.o 0,.o 1]) (ho:=And.intro (fun H sH=>yK 9 _) (trivial)) ?_
  clear hJ a w; intro a w hJ
  refine gY (hQ [.agg #[Vi 5,Vi 9,Ve]] _ [] hJ (.rcel hJ.j 0 .nil) (fJ _) rfl ?_).1
  rw [hap,if_neg hq]; rfl
theorem apply_9 (x y:Vl) (sl:Value) (h:Vw) (hr:RS h 3 sl (vrows [x,y])) (hk:∀ v∈[x,y],v.known):C0 Tryz.prog 113 #[.int .i64 9,sl] h (fun v _=>v=(oJ 9 [x,y]).val):=by
 obtain ⟨b,o,cap,rfl,c0⟩:=row0 hr
 have kx:=hk x (by simp)
 have ky:=hk y (by simp)
 have c1:Cells h b (o + 1 * 3) y.cells:=hr.cell (i:=1) rfl
 have hki:=fun H hq=>cV [x,y] (.slice (some ⟨b,o,none⟩) 2 cap) 1 H hq (by simp)
 have hap:oJ 9 [x,y]=if aV [x,y] 1=true then nrV 9 x.n y.n else xK 9:=by unfold oJ; rw [if_neg (by omega),if_neg (by omega),if_neg (by omega),if_neg (by omega),if_neg (by omega),hd0,hd1]
 have hnr:nrV 9 x.n y.n=if (rV 9 x.n y.n).2=0 then ⟨1,(rV 9 x.n y.n).1,⟨#[]⟩⟩ else xK (rV 9 x.n y.n).2:=rfl
 rw [hnr] at hap
 have hl:=fun q=>dV (l:=[x,y]) hk q
 have hn:=fun (q:aV [x,y] 1=true) H=>num_any 9 x.n y.n H (hl q x (by simp)) (hl q y (by simp))
 generalize rV 9 x.n y.n=r at *
 generalize aV [x,y] 1=kv at *
 refine fY Tryz.func113 (c:=Tryz.f113.body.getD .skip) (N:=147) ?_
 intro hbx hbad Q hQ a w hJ
 replace hJ:K ⟨147,h.w,h.bad,[]⟩ [(0,Vi 9),(1,.slice (some ⟨b,o,none⟩) 2 cap)] [] [] h a w:=hJ.tw
 replace hJ:=hJ.fact (c0.sees (Sees.refl _))
 replace hJ:=hJ.fact (c1.sees (Sees.refl _))
 refine rk hJ false 72 [.own,.cl 135 #[.slice (some ⟨b,o,none⟩) 2 cap,Vi 1] (.bool kv)] [] (.new fun b1=>.f (.code [1,0,1,1]) [.seq [1,1,1]] [0,1] [(4,Vp b1),(115,.bool (!kv))] [.box b1 [Vi 0,Vi 0,Ve]] [.o 0,.o 1]) (And.intro (fun H sH=>hki _ (hr.sees sH)) (trivial)) trivial (fun b1 _=>by kernel_rfl) ?_
 clear hJ a w; intro b1 a w hJ
 by_cases hq:kv=true
 ·skip
  refine iY hJ (t := !kv) ((by rw [hq]; rfl)) ?_
  refine rk' hJ false 4 [] [] (.k (.ops [0,1,1,1] 0) [.seq [1,1,1,1]] [0,1,4] []) ?_
  clear hJ a w; intro a w hJ
  refine mY hJ 117 (by kernel_rfl) (by kernel_rfl) ?_; clear hJ a w; intro b2 a w hJ
  refine nY hJ 0 (b:=b2) (t:=180) (mo:=(.tmp 117)) (ko:=(.const (Vi 5))) (vo:=(.func 136)) (es:=[]) (kt:=3) (et:=179) (td:=.int .i64) (key:=Vi 5) (v:=.func (.func 136) #[] #[]) Tryz.underlying180 Tryz.underlying3 ?_; clear hJ a w; intro a w hJ
  replace hJ:K ⟨147,h.w,h.bad,[]⟩ [(0,Vi 9),(1,.slice (some ⟨b,o,none⟩) 2 cap),(4,Vp b1),(117,.map (some b2))] [.map b2 ([(Vi 5,.func (.func 136) #[] #[])]),.box b1 [Vi 0,Vi 0,Ve]] [(b,o + 1 * 3,[Vi y.k,Vi y.n,.string y.s]),(b,o + 0 * 3,[Vi x.k,Vi x.n,.string x.s])] h a w:=hJ.tw
  refine nY hJ 0 (b:=b2) (t:=180) (mo:=(.tmp 117)) (ko:=(.const (Vi 6))) (vo:=(.func 137)) (es:=[(Vi 5,.func (.func 136) #[] #[])]) (kt:=3) (et:=179) (td:=.int .i64) (key:=Vi 6) (v:=.func (.func 137) #[] #[]) Tryz.underlying180 Tryz.underlying3 ?_; clear hJ a w; intro a w hJ
  replace hJ:K ⟨147,h.w,h.bad,[]⟩ [(0,Vi 9),(1,.slice (some ⟨b,o,none⟩) 2 cap),(4,Vp b1),(117,.map (some b2))] [.map b2 ([(Vi 5,.func (.func 136) #[] #[]),(Vi 6,.func (.func 137) #[] #[])]),.box b1 [Vi 0,Vi 0,Ve]] [(b,o + 1 * 3,[Vi y.k,Vi y.n,.string y.s]),(b,o + 0 * 3,[Vi x.k,Vi x.n,.string x.s])] h a w:=hJ.tw
  refine nY hJ 0 (b:=b2) (t:=180) (mo:=(.tmp 117)) (ko:=(.const (Vi 7))) (vo:=(.func 138)) (es:=[(Vi 5,.func (.func 136) #[] #[]),(Vi 6,.func (.func 137) #[] #[])]) (kt:=3) (et:=179) (td:=.int .i64) (key:=Vi 7) (v:=.func (.func 138) #[] #[]) Tryz.underlying180 Tryz.underlying3 ?_; clear hJ a w; intro a w hJ
  replace hJ:K ⟨147,h.w,h.bad,[]⟩ [(0,Vi 9),(1,.slice (some ⟨b,o,none⟩) 2 cap),(4,Vp b1),(117,.map (some b2))] [.map b2 ([(Vi 5,.func (.func 136) #[] #[]),(Vi 6,.func (.func 137) #[] #[]),(Vi 7,.func (.func 138) #[] #[])]),.box b1 [Vi 0,Vi 0,Ve]] [(b,o + 1 * 3,[Vi y.k,Vi y.n,.string y.s]),(b,o + 0 * 3,[Vi x.k,Vi x.n,.string x.s])] h a w:=hJ.tw
  refine nY hJ 0 (b:=b2) (t:=180) (mo:=(.tmp 117)) (ko:=(.const (Vi 8))) (vo:=(.func 139)) (es:=[(Vi 5,.func (.func 136) #[] #[]),(Vi 6,.func (.func 137) #[] #[]),(Vi 7,.func (.func 138) #[] #[])]) (kt:=3) (et:=179) (td:=.int .i64) (key:=Vi 8) (v:=.func (.func 139) #[] #[]) Tryz.underlying180 Tryz.underlying3 ?_; clear hJ a w; intro a w hJ
  replace hJ:K ⟨147,h.w,h.bad,[]⟩ [(0,Vi 9),(1,.slice (some ⟨b,o,none⟩) 2 cap),(4,Vp b1),(117,.map (some b2))] [.map b2 ([(Vi 5,.func (.func 136) #[] #[]),(Vi 6,.func (.func 137) #[] #[]),(Vi 7,.func (.func 138) #[] #[]),(Vi 8,.func (.func 139) #[] #[])]),.box b1 [Vi 0,Vi 0,Ve]] [(b,o + 1 * 3,[Vi y.k,Vi y.n,.string y.s]),(b,o + 0 * 3,[Vi x.k,Vi x.n,.string x.s])] h a w:=hJ.tw
  refine nY hJ 0 (b:=b2) (t:=180) (mo:=(.tmp 117)) (ko:=(.const (Vi 9))) (vo:=(.func 140)) (es:=[(Vi 5,.func (.func 136) #[] #[]),(Vi 6,.func (.func 137) #[] #[]),(Vi 7,.func (.func 138) #[] #[]),(Vi 8,.func (.func 139) #[] #[])]) (kt:=3) (et:=179) (td:=.int .i64) (key:=Vi 9) (v:=.func (.func 140) #[] #[]) Tryz.underlying180 Tryz.underlying3 ?_; clear hJ a w; intro a w hJ
  replace hJ:K ⟨147,h.w,h.bad,[]⟩ [(0,Vi 9),(1,.slice (some ⟨b,o,none⟩) 2 cap),(4,Vp b1),(117,.map (some b2))] [.map b2 ([(Vi 5,.func (.func 136) #[] #[]),(Vi 6,.func (.func 137) #[] #[]),(Vi 7,.func (.func 138) #[] #[]),(Vi 8,.func (.func 139) #[] #[]),(Vi 9,.func (.func 140) #[] #[])]),.box b1 [Vi 0,Vi 0,Ve]] [(b,o + 1 * 3,[Vi y.k,Vi y.n,.string y.s]),(b,o + 0 * 3,[Vi x.k,Vi x.n,.string x.s])] h a w:=hJ.tw
  refine rk' hJ false 2 [] [] (.k (.ops [0,1,1,1] 8) [.seq [1,1,1,1]] [0,1,4] [(118,.map (some b2)),(119,Vi 9)]) ?_
  clear hJ a w; intro a w hJ
  refine lY hJ 120 (b:=b2) (t:=180) (mo:=(.tmp 118)) (ko:=(.tmp 119)) (c:=false) (es:=[(Vi 5,.func (.func 136) #[] #[]),(Vi 6,.func (.func 137) #[] #[]),(Vi 7,.func (.func 138) #[] #[]),(Vi 8,.func (.func 139) #[] #[]),(Vi 9,.func (.func 140) #[] #[])]) (kt:=3) (et:=179) (td:=.int .i64) (key:=Vi 9) (z:=.nilFunc) (v:=.func (.func 140) #[] #[]) (r:=some (4,.func (.func 140) #[] #[])) (hJ.map 0 (by kernel_rfl)) Tryz.underlying180 Tryz.underlying3 (by kernel_rfl) ?_; clear hJ a w; intro a w hJ
  refine rk' hJ false 4 [] [] (.k (.code [0,1,1,1,1]) [.seq [1,1,1,1,1]] [0,1,4] [(7,.func (.func 140) #[] #[])]) ?_
  clear hJ a w; intro a w hJ
  let R:Reg:=⟨⟨147,h.w,h.bad,[]⟩,[(0,121,fun gh=>.slice (some ⟨b,o,none⟩) 2 cap),(1,122,fun gh=>.pointer (some ⟨b,o + 0 * 3,none⟩)),(2,123,fun gh=>.pointer (some ⟨b,o + 0 * 3 + 1,none⟩)),(3,124,fun gh=>Vi x.n),(4,125,fun gh=>.slice (some ⟨b,o,none⟩) 2 cap),(5,126,fun gh=>.slice (some ⟨b,o,none⟩) 2 cap),(6,127,fun gh=>Vi 2),(7,128,fun gh=>Vi 1),(8,129,fun gh=>.pointer (some ⟨b,o + 1 * 3,none⟩)),(9,130,fun gh=>.pointer (some ⟨b,o + 1 * 3 + 1,none⟩)),(10,131,fun gh=>Vi y.n),(11,8,fun gh=>Vi x.n),(12,9,fun gh=>Vi y.n)],[(0,Vi 9),(1,.slice (some ⟨b,o,none⟩) 2 cap),(4,Vp b1),(7,.func (.func 140) #[] #[])],[⟨some (.map b2 ([(Vi 5,.func (.func 136) #[] #[]),(Vi 6,.func (.func 137) #[] #[]),(Vi 7,.func (.func 138) #[] #[]),(Vi 8,.func (.func 139) #[] #[]),(Vi 9,.func (.func 140) #[] #[])])),[]⟩,⟨some (.box b1 [Vi 0,Vi 0,Ve]),[]⟩],[],[[],[0],[0,1],[0,1,2],[],[],[5],[5,6],[4,5,6,7],[4,5,6,7,8],[4,5,6,7,8,9],[0,1,2,3],[0,1,2,3,4,5,6,7,8,9,10,11]],h⟩
  have hmono:∀ zq∈R.F,∀ zx zh zi,Sees zh zi→zq.2 zx zh→zq.2 zx zi:=lJ
  refine oY (by kernel_rfl) R hJ 13 [.pu,.cl,.pu,.lf 1 1,.pu,.pu,.pu,.pu,.cl,.pu,.lf 0 1,.pu,.pu] (by kernel_rfl) hmono (fun _ _ _=>by kernel_rfl) (fun hT hA=>?_) ?_
  ·clear hJ
   refine And.intro (sW hT hA 122 (fun gh=>.pointer (some ⟨b,o + 0 * 3,none⟩)) [0] 1 (fun gh w=>jX (t:=32) (x:=(.tmp 121)) (y:=(.const (Vi 0))) (b:=b) (off:=o) (n:=2) (cap:=cap) (k:=0) (e:=38) (kk:=3) (by kernel_rfl) (by kernel_rfl) (by kernel_rfl) ((by decide)) Tryz.underlying32 (by kernel_rfl))) ?_
   refine And.intro (sW hT hA 129 (fun gh=>.pointer (some ⟨b,o + 1 * 3,none⟩)) [4,7] 8 (fun gh w=>jX (t:=32) (x:=(.tmp 125)) (y:=(.tmp 128)) (b:=b) (off:=o) (n:=2) (cap:=cap) (k:=1) (e:=38) (kk:=3) (by kernel_rfl) (by kernel_rfl) (by kernel_rfl) ((by decide)) Tryz.underlying32 (by kernel_rfl))) ?_
   trivial
  clear hJ a w; intro gh h3 a w sR hJ1 hF; have s4:Sees h h3:=sR; clear sR
  have hJ:K ⟨147,h.w,h.bad,[]⟩ [(0,Vi 9),(4,Vp b1),(7,.func (.func 140) #[] #[]),(8,Vi x.n),(9,Vi y.n)] [.map b2 ([(Vi 5,.func (.func 136) #[] #[]),(Vi 6,.func (.func 137) #[] #[]),(Vi 7,.func (.func 138) #[] #[]),(Vi 8,.func (.func 139) #[] #[]),(Vi 9,.func (.func 140) #[] #[])]),.box b1 [Vi 0,Vi 0,Ve]] [(b,o + 1 * 3,[Vi y.k,Vi y.n,.string y.s]),(b,o + 0 * 3,[Vi x.k,Vi x.n,.string x.s])] h3 a w:=hJ1.tw
  clear hJ1 hF hmono R
  clear gh
  refine rx' hJ false 31 [.cl 140 #[Vi x.n,Vi y.n] (.tuple #[Vi r.1,Vi r.2])] [] (.ok (.code [1,0,1,1,1,1,1,1,1]) [.seq [1,1,1,1,1,1,1,1]] [(4,Vp b1),(10,Vi r.1),(11,Vi r.2),(142,.bool (r.2 != 0))] [.map b2 ([(Vi 5,.func (.func 136) #[] #[]),(Vi 6,.func (.func 137) #[] #[]),(Vi 7,.func (.func 138) #[] #[]),(Vi 8,.func (.func 139) #[] #[]),(Vi 9,.func (.func 140) #[] #[])]),.box b1 [Vi 0,Vi 0,Ve]] [(b,o + 1 * 3,[Vi y.k,Vi y.n,.string y.s]),(b,o + 0 * 3,[Vi x.k,Vi x.n,.string x.s])]) (ho:=And.intro (fun H sH=>hn hq _) (trivial)) (fun _=>by kernel_rfl) ?_
  clear hJ a w; intro a w hJ
  by_cases hc:r.2=0
  ·refine iY hJ (t:=r.2 != 0) (bne_eq_false_iff_eq.2 hc) ?_
   refine rk' hJ false 10 [.b 1 0] [] (.f (.out .ret) [] [4] [] [.map b2 ([(Vi 5,.func (.func 136) #[] #[]),(Vi 6,.func (.func 137) #[] #[]),(Vi 7,.func (.func 138) #[] #[]),(Vi 8,.func (.func 139) #[] #[]),(Vi 9,.func (.func 140) #[] #[])]),.box b1 [Vi 1,Vi r.1,Ve]] [.o 0,.o 1]) ?_
   clear hJ a w; intro a w hJ
   refine gY (hQ [.agg #[Vi 1,Vi r.1,Ve]] _ [] hJ (.rcel hJ.j 1 .nil) (fJ _) rfl ?_).1
   rw [hap,if_pos hq,if_pos hc]; rfl
  ·skip
   refine qY hJ (t:=r.2 != 0) (bne_iff_ne.2 hc) ?_
   refine rk' hJ false 9 [.cl 109 #[Vi r.2] (.agg #[Vi 5,Vi r.2,Ve]),.b 1 0] [] (.f (.out .ret) [] [4] [] [.map b2 ([(Vi 5,.func (.func 136) #[] #[]),(Vi 6,.func (.func 137) #[] #[]),(Vi 7,.func (.func 138) #[] #[]),(Vi 8,.func (.func 139) #[] #[]),(Vi 9,.func (.func 140) #[] #[])]),.box b1 [Vi 5,Vi r.2,Ve]] [.o 0,.o 1]) (ho:=And.intro (fun H sH=>yK _ _) (trivial)) ?_
   clear hJ a w; intro a w hJ
   refine gY (hQ [.agg #[Vi 5,Vi r.2,Ve]] _ [] hJ (.rcel hJ.j 1 .nil) (fJ _) rfl ?_).1
   rw [hap,if_pos hq,if_neg hc]; rfl
 ·skip
  refine qY hJ (t := !kv) ((by rw [show kv=false from by simpa using hq]; rfl)) ?_
  refine rk' hJ false 8 [.cl 109 #[Vi 9] (.agg #[Vi 5,Vi 9,Ve]),.b 0 0] [] (.f (.out .ret) [] [4] [] [.box b1 [Vi 5,Vi 9,Ve]] [.o 0,.o 1]) (ho:=And.intro (fun H sH=>yK 9 _) (trivial)) ?_
  clear hJ a w; intro a w hJ
  refine gY (hQ [.agg #[Vi 5,Vi 9,Ve]] _ [] hJ (.rcel hJ.j 0 .nil) (fJ _) rfl ?_).1
  rw [hap,if_neg hq]; rfl
theorem apply_any (op:Int) (l:List Vl) (sl:Value) (h:Vw) (hr:RS h 3 sl (vrows l)) (hk:∀ v∈l,v.known) (h1:3≤op) (h2:op≤18) (h15:op≠15) (h16:op≠16) (h17:op≠17) (hl:l.length=arity op) :
  C0 Tryz.prog 113 #[.int .i64 op,sl] h (fun v _=>v=(oJ op l).val):=by
 have e1:∀ {l:List Vl},l.length=1→∃ x,l=[x]:=fun {l} h=>by
  cases l with
  | nil=>cases h
  | cons x l=>cases l with
   | nil=>exact ⟨x,rfl⟩
   | cons y l=>simp at h
 have e2:∀ {l:List Vl},l.length=2→∃ x y,l=[x,y]:=fun {l} h=>by
  cases l with
  | nil=>cases h
  | cons x l =>
   cases l with
   | nil=>simp at h
   | cons y l=>cases l with
    | nil=>exact ⟨x,y,rfl⟩
    | cons z l=>simp at h
 obtain rfl | rfl | rfl | rfl | rfl | rfl | rfl | rfl | rfl | rfl | rfl | rfl | rfl:op=3∨op=4∨op=5∨op=6∨op=7∨op=8∨op=9∨op=10∨op=11∨op=12∨op=13∨op=14∨op=18:=by omega
 ·obtain ⟨x,rfl⟩:=e1 hl; exact apply_3 x sl h hr hk
 ·obtain ⟨x,rfl⟩:=e1 hl; exact apply_4 x sl h hr hk
 ·obtain ⟨x,y,rfl⟩:=e2 hl; exact apply_5 x y sl h hr hk
 ·obtain ⟨x,y,rfl⟩:=e2 hl; exact apply_6 x y sl h hr hk
 ·obtain ⟨x,y,rfl⟩:=e2 hl; exact apply_7 x y sl h hr hk
 ·obtain ⟨x,y,rfl⟩:=e2 hl; exact apply_8 x y sl h hr hk
 ·obtain ⟨x,y,rfl⟩:=e2 hl; exact apply_9 x y sl h hr hk
 ·obtain ⟨x,y,rfl⟩:=e2 hl; exact apply_10 x y sl h hr hk
 ·obtain ⟨x,y,rfl⟩:=e2 hl; exact apply_11 x y sl h hr hk
 ·obtain ⟨x,y,rfl⟩:=e2 hl; exact apply_12 x y sl h hr hk
 ·obtain ⟨x,y,rfl⟩:=e2 hl; exact apply_13 x y sl h hr hk
 ·obtain ⟨x,y,rfl⟩:=e2 hl; exact apply_14 x y sl h hr hk
 ·obtain ⟨x,rfl⟩:=e1 hl; exact apply_18 x sl h hr hk
end Go.Proofs.YthckljafinhepaaGreat
namespace Go.Proofs.YthckljafinhepaaGreat
open Go.RowKit
abbrev mK (env:Env):List (Value × Value):=rX (env.map fun p=>(p.1,p.2.val))
theorem sget_env (s:ByteArray):∀ env:Env,sget s (env.map fun p=>(p.1,p.2.val))=(env.get s).map Vl.val
 | []=>rfl
 | (k,v) :: l=>by
  simp only [List.map_cons]
  unfold sget Env.get
  cases s == k
  ·simp only [Bool.false_eq_true,if_false]; exact sget_env s l
  ·rfl
def EnvOk (env:Env):Prop:=∀ s v,env.get s=some v→OkV v
theorem arity_pos {op:Int} (h1:3≤op) (h2:op≤18):1≤arity op∧arity op≤3:=by
 unfold arity
 rw [if_neg (by omega)]
 repeat' split
 all_goals omega
theorem applyV_ok {op:Int} {l:List Vl} (hk:∀ v∈l,v.known) (hl:1≤l.length) (hl2:op=10∨(5≤op∧op≤9)→2≤l.length) (h3:3≤op) (h18:op≤18) (hx:op≠15∧op≠16∧op≠17):OkV (oJ op l):=by
 have h0:hdV l 0∈l:=by
  cases l with
  | nil=>simp at hl
  | cons x l=>exact List.mem_cons_self
 have h1:2≤l.length→hdV l 1∈l:=fun h=>by
  cases l with
  | nil=>simp at h
  | cons x l =>
   cases l with
   | nil=>simp at h
   | cons y l=>simp [hdV]
 unfold oJ
 split
 ·split
  ·exact ok_truth _
  ·exact uV (by omega) (by omega)
 ·split
  ·split
   ·exact ok_truth _
   ·exact uV (by omega) (by omega)
  ·split
   ·split
    ·rename_i hq
     have:=known_texts hk hq _ h0
     exact .inl (.inl ⟨rfl,by unfold Lim; simp only; omega,rfl⟩)
    ·exact uV (by omega) (by omega)
   ·split
    ·rename_i h10
     split
     ·rename_i hq
      have k0:=hk _ h0
      have k1:=hk _ (h1 (hl2 (.inl h10)))
      have e0:(hdV l 0).k=3:=by unfold aV at hq; rw [List.all_eq_true] at hq; simpa using hq _ h0
      have e1:(hdV l 1).k=3:=by unfold aV at hq; rw [List.all_eq_true] at hq; simpa using hq _ (h1 (hl2 (.inl h10)))
      generalize hdV l 0=x at *
      generalize hdV l 1=y at *
      unfold joinV
      split
      ·exact uV (by omega) (by omega)
      ·rename_i hc
       rcases k0 with g | g | g
       ·omega
       ·omega
       ·rcases k1 with q | q | q
        ·omega
        ·omega
        ·refine .inl (.inr (.inr ⟨rfl,rfl,by simp [ByteArray.size_append]; omega,fun i hi=>?_⟩))
         have hs:(x.s++y.s).size=x.s.size + y.s.size:=ByteArray.size_append ..
         have hi':i < x.s.size + y.s.size:=by rw [← hs]; exact hi
         show 32≤(x.s++y.s)[i].toNat∧_
         by_cases hlt:i < x.s.size
         ·rw [ByteArray.getElem_append_left hlt]; exact g.2.2.2 i hlt
         ·rw [ByteArray.getElem_append_right (by omega)]; exact q.2.2.2 _ (by omega)
     ·exact uV (by omega) (by omega)
    ·split
     ·split
      ·rename_i hq
       exact nrV_ok (by unfold Lim; omega) (dV hk hq _ h0)
      ·exact uV (by omega) (by omega)
     ·split
      ·rename_i hq
       exact nrV_ok (dV hk hq _ h0) (dV hk hq _ (h1 (hl2 (.inr (by omega)))))
      ·exact uV (by omega) (by omega)
theorem lack_some {u:Vl}:∀ {l:List Vl} {p:Option Vl},eV p l=some u→(∀ w,p=some w→w.k=4)→(u.k=5∨u.k=4)∧(p=some u∨u∈l)
 | [],p,h,hp=>by
  unfold eV at h
  exact ⟨.inr (hp u h),.inl h⟩
 | v :: l,p,h,hp=>by
  unfold eV at h
  split at h
  ·simp only [Option.some.injEq] at h; subst h; rename_i h5; exact ⟨.inl h5,.inr (by simp)⟩
  ·by_cases h4:v.k=4
   ·rw [if_pos h4] at h
    obtain ⟨h1,h2⟩:=lack_some h (fun w hw=>by simp only [Option.some.injEq] at hw; subst hw; exact h4)
    refine ⟨h1,.inr ?_⟩
    rcases h2 with h2 | h2
    ·simp only [Option.some.injEq] at h2; subst h2; simp
    ·simp [h2]
   ·rw [if_neg h4] at h
    obtain ⟨h1,h2⟩:=lack_some h hp
    exact ⟨h1,h2.imp id (fun k=>by simp [k])⟩
theorem lack_none:∀ {l:List Vl} {p:Option Vl},eV p l=none→p=none∧∀ v∈l,v.k≠5∧v.k≠4
 | [],p,h=>⟨h,fun v hv=>by cases hv⟩
 | v :: l,p,h=>by
  unfold eV at h
  split at h
  ·cases h
  ·rename_i h5
   obtain ⟨h1,h2⟩:=lack_none h
   by_cases h4:v.k=4
   ·rw [if_pos h4] at h1; cases h1
   ·rw [if_neg h4] at h1
    refine ⟨h1,fun u hu=>?_⟩
    rcases List.mem_cons.1 hu with rfl | hu
    ·exact ⟨h5,h4⟩
    ·exact h2 u hu
theorem firstV_ok {v:Vl} (h:OkV v):OkV (jQ v).1:=by
 unfold jQ
 split
 ·exact uV (by omega) (by omega)
 ·exact h
theorem boolV_ok {v:Vl} (h:OkV v):OkV (aK v):=by
 unfold aK
 split
 ·exact uV (by omega) (by omega)
 ·exact h
theorem hdV_mem {l:List Vl} {i:Nat} (h:i < l.length):hdV l i∈l:=by
 unfold hdV
 rw [List.getD_eq_getElem?_getD,List.getElem?_eq_getElem h]
 exact List.getElem_mem h
theorem evalE_ok {env:Env} (he:EnvOk env):∀ (m:Nat) (x:Ex),(szE x).1≤m→WfE x→OkV (nK env x)
 | 0,x,h,_=>by have:=szE_pos x; omega
 | m + 1,x,h,hw=>by
  have hsz:=szE_eq x
  rw [hsz] at h
  simp only at h
  have hl:∀ v∈oK env x.args,OkV v:=by
   intro v hv
   rw [pK] at hv
   obtain ⟨y,hy,rfl⟩:=List.mem_map.1 hv
   exact evalE_ok he m y (by have:=(szL_mem hy).1; omega) (hw.list.get hy)
  have hlen:(oK env x.args).length=x.args.length:=by rw [pK,List.length_map]
  rw [evalE_eq]
  rcases hw.top with ⟨h1,h2,h3,h4,h5⟩ | ⟨h1,h2,h3,h4,h5,h6⟩ | ⟨h1,h2,h3,h4,h5,h6,h7⟩
  ·rw [if_pos h1]; exact .inl h2
  ·rw [if_neg (by omega),if_pos h1]
   cases hg:env.get x.nm with
   | none=>exact uV (by omega) (by omega)
   | some v=>exact he _ _ hg
  ·rw [if_neg (by omega),if_neg (by omega)]
   have hap:=arity_pos h1 h2
   split
   ·rename_i hq
    have ha:arity x.op=2:=by unfold arity; rw [if_neg (by omega),if_neg (by omega),if_neg (by omega)]
    split
    ·exact firstV_ok (hl _ (hdV_mem (by omega)))
    ·exact boolV_ok (hl _ (hdV_mem (by omega)))
   ·split
    ·rename_i hq
     have ha:arity x.op=3:=by rw [hq]; rfl
     split
     ·exact firstV_ok (hl _ (hdV_mem (by omega)))
     ·split
      ·exact hl _ (hdV_mem (by omega))
      ·exact hl _ (hdV_mem (by omega))
    ·rename_i n1 n2
     cases hk:eV none (oK env x.args) with
     | some u =>
      obtain ⟨-,g⟩:=lack_some hk (fun w hw=>by cases hw)
      rcases g with g | g
      ·cases g
      ·exact hl u g
     | none =>
      obtain ⟨-,g⟩:=lack_none hk
      refine applyV_ok (fun v hv=>ok_known (hl v hv) (g v hv).2 (g v hv).1) (by omega) (fun hq=>?_) h1 h2 ⟨by omega,by omega,by omega⟩
      have ha:arity x.op=2:=by
       unfold arity
       rw [if_neg (by omega),if_neg (by omega),if_neg (by omega)]
      omega
def OfAll (env:Env) (b:Nat) (l:List Ex):Prop:=∀ y∈l,∀ v h,IsArgs h y v→MapAt h b (mK env)→C0 Tryz.prog 89 #[.map (some b),.agg #[.int .i64 y.op,.int .i64 y.k,.int .i64 y.n,.string y.s,.string y.nm,v]] h (fun r _=>r=(nK env y).val)
theorem first_any (env:Env) (b:Nat) (x y:Ex) (sl:Value) (h:Vw) (hx:IsArgs h x sl) (hm:MapAt h b (mK env)) (hy:x.args[0]?=some y) (hof:OfAll env b x.args) (hok:OkV (nK env y)) :
  C0 Tryz.prog 110 #[.map (some b),.agg #[.int .i64 x.op,.int .i64 x.k,.int .i64 x.n,.string x.s,.string x.nm,sl]] h (fun r _=>r=.tuple #[(jQ (nK env y)).1.val,.bool (jQ (nK env y)).2]):=by
 obtain ⟨vs,hr,hvs⟩:=hx.form
 obtain ⟨A,c,rfl,-,-,-⟩:=hr.form
 have hvl:=hvs.len
 have hrl:=tK hvl
 have hlt:=(List.getElem?_eq_some_iff.1 hy).1
 rw [hrl] at hr ⊢
 have ho:=hof y (List.mem_of_getElem? hy)
 obtain ⟨u,hu⟩:∃ u,vs[0]?=some u:=⟨_,List.getElem?_eq_getElem (by omega)⟩
 have hyu:=AllArgs.get hvs hy hu
 obtain ⟨Au,nu,cu,rfl⟩:=hyu.slice
 have hrow:(sK x.args vs)[0]?=some (exRow y (.slice Au nu cu)):=by show (List.zipWith exRow _ _)[0]?=_; rw [List.getElem?_zipWith,hy,hu]
 have hk:=ok_kinds hok
 generalize x.args.length=len at *
 generalize nK env y=e at *
 obtain ⟨ek,en,es⟩:=e
 obtain rfl | rfl | rfl | rfl | rfl:ek=1∨ek=2∨ek=3∨ek=4∨ek=5:=by simp only at hk; omega
 ·refine fY Tryz.func110 (c:=Tryz.f110.body.getD .skip) (N:=31) ?_
  intro hbx hbad Q hQ a w hJ
  refine rx' hJ false 12 [.own,.own,.b 1 5] [] (.new fun b1=>.new fun b2=>.ok (.ops [0,1] 3) [.seq [1,1]] [(4,Vp b2),(7,.map (some b)),(9,.slice A len c)] [.box b2 [Vi 0,Vi 0,Ve],.box b1 [Vi x.op,Vi x.k,Vi x.n,.string x.s,.string x.nm,.slice A len c]] []) (fun b1 b2 _=>by kernel_rfl) ?_
  clear hJ a w; intro b1 b2 a w hJ
  obtain ⟨b3,o4,rfl,-,c5⟩:=RS.row hr (hrow)
  replace hJ:=hJ.fact (c5.sees (Sees.refl _))
  refine rk hJ false 35 [.ix b3 o4 len c 0,.f 0 0,.cl 89 #[.map (some b),.agg #[Vi y.op,Vi y.k,Vi y.n,.string y.s,.string y.nm,.slice Au nu cu]] (.agg #[Vi 1,Vi en,.string es]),.own,.b 0 0,.b 0 0,.b 0 0,.b 0 0,.cl 109 #[Vi 9] (.agg #[Vi 5,Vi 9,Ve]),.b 1 0] [] (.new fun b6=>.f (.out .ret) [] [4] [(5,.bool false)] [.box b6 [Vi 1,Vi en,.string es],.box b2 [Vi 5,Vi 9,Ve],.box b1 [Vi x.op,Vi x.k,Vi x.n,.string x.s,.string x.nm,.slice (some ⟨b3,o4,none⟩) len c]] [.o 0]) (And.intro (by first | omega | (simp; omega)) (And.intro (fun H sH=>ho _ _ (hyu.sees sH) (hm.sees sH)) (And.intro (fun H sH=>yK 9 _) (trivial)))) trivial (fun b6 _=>by kernel_rfl) ?_
  clear hJ a w; intro b6 a w hJ
  refine gY (hQ [.agg #[Vi 5,Vi 9,Ve],.bool false] _ [] hJ (.rcel hJ.j 1 (.rtm hJ.j .nil)) (fJ _) rfl ?_).1
  exact rfl
 ·refine fY Tryz.func110 (c:=Tryz.f110.body.getD .skip) (N:=31) ?_
  intro hbx hbad Q hQ a w hJ
  refine rx' hJ false 12 [.own,.own,.b 1 5] [] (.new fun b1=>.new fun b2=>.ok (.ops [0,1] 3) [.seq [1,1]] [(4,Vp b2),(7,.map (some b)),(9,.slice A len c)] [.box b2 [Vi 0,Vi 0,Ve],.box b1 [Vi x.op,Vi x.k,Vi x.n,.string x.s,.string x.nm,.slice A len c]] []) (fun b1 b2 _=>by kernel_rfl) ?_
  clear hJ a w; intro b1 b2 a w hJ
  obtain ⟨b3,o4,rfl,-,c5⟩:=RS.row hr (hrow)
  replace hJ:=hJ.fact (c5.sees (Sees.refl _))
  refine rk hJ false 29 [.ix b3 o4 len c 0,.f 0 0,.cl 89 #[.map (some b),.agg #[Vi y.op,Vi y.k,Vi y.n,.string y.s,.string y.nm,.slice Au nu cu]] (.agg #[Vi 2,Vi en,.string es]),.own,.b 0 0,.b 0 0] [] (.new fun b6=>.f (.code [0,1,1,1]) [.seq [1,1,1,1]] [4] [(6,Vp b6)] [.box b6 [Vi 2,Vi en,.string es],.box b2 [Vi 0,Vi 0,Ve],.box b1 [Vi x.op,Vi x.k,Vi x.n,.string x.s,.string x.nm,.slice (some ⟨b3,o4,none⟩) len c]] [.o 0]) (And.intro (by first | omega | (simp; omega)) (And.intro (fun H sH=>ho _ _ (hyu.sees sH) (hm.sees sH)) (trivial))) trivial (fun b6 _=>by kernel_rfl) ?_
  clear hJ a w; intro b6 a w hJ
  let R:Reg:=⟨⟨31,h.w,h.bad,[]⟩,[(0,27,fun gh=>.agg #[Vi 2,Vi en,.string es]),(1,28,fun gh=>Vp b6),(2,29,fun gh=>Vi 2),(3,30,fun gh=>.bool true),(5,5,fun gh=>.bool true)],[(4,Vp b2),(6,Vp b6)],[⟨some (.box b6 [Vi 2,Vi en,.string es]),[]⟩,⟨some (.box b2 [Vi 0,Vi 0,Ve]),[(4,fun gh=>.box b2 [Vi 2,Vi en,.string es])]⟩,⟨some (.box b1 [Vi x.op,Vi x.k,Vi x.n,.string x.s,.string x.nm,.slice (some ⟨b3,o4,none⟩) len c]),[]⟩],[],[[],[],[1],[1,2],[0],[0,1,2,3,4]],h⟩
  have hmono:∀ zq∈R.F,∀ zx zh zi,Sees zh zi→zq.2 zx zh→zq.2 zx zi:=lJ
  refine oY (by kernel_rfl) R hJ 6 [.ld 0 0,.pu,.ld 0 0,.pu,.st 1 0,.pu] (by kernel_rfl) hmono (fun _ _ _=>by kernel_rfl) (fun hT hA=>?_) ?_
  ·trivial
  clear hJ a w; intro gh h7 a w sR hJ1 hF; have s8:Sees h h7:=sR; clear sR
  have hJ:K ⟨31,h.w,h.bad,[]⟩ [(4,Vp b2),(5,.bool true)] [.box b6 [Vi 2,Vi en,.string es],.box b2 [Vi 2,Vi en,.string es],.box b1 [Vi x.op,Vi x.k,Vi x.n,.string x.s,.string x.nm,.slice (some ⟨b3,o4,none⟩) len c]] [(b3,o4 + 0 * 6,[Vi y.op,Vi y.k,Vi y.n,.string y.s,.string y.nm,.slice Au nu cu])] h7 a w:=hJ1.tw
  clear hJ1 hF hmono R
  clear gh
  refine rk' hJ false 2 [] [] (.k (.out .ret) [] [4,5] []) ?_
  clear hJ a w; intro a w hJ
  refine gY (hQ [.agg #[Vi 2,Vi en,.string es],.bool true] _ [] hJ (.rcel hJ.j 1 (.rtm hJ.j .nil)) (fJ _) rfl ?_).1
  exact rfl
 ·refine fY Tryz.func110 (c:=Tryz.f110.body.getD .skip) (N:=31) ?_
  intro hbx hbad Q hQ a w hJ
  refine rx' hJ false 12 [.own,.own,.b 1 5] [] (.new fun b1=>.new fun b2=>.ok (.ops [0,1] 3) [.seq [1,1]] [(4,Vp b2),(7,.map (some b)),(9,.slice A len c)] [.box b2 [Vi 0,Vi 0,Ve],.box b1 [Vi x.op,Vi x.k,Vi x.n,.string x.s,.string x.nm,.slice A len c]] []) (fun b1 b2 _=>by kernel_rfl) ?_
  clear hJ a w; intro b1 b2 a w hJ
  obtain ⟨b3,o4,rfl,-,c5⟩:=RS.row hr (hrow)
  replace hJ:=hJ.fact (c5.sees (Sees.refl _))
  refine rk hJ false 35 [.ix b3 o4 len c 0,.f 0 0,.cl 89 #[.map (some b),.agg #[Vi y.op,Vi y.k,Vi y.n,.string y.s,.string y.nm,.slice Au nu cu]] (.agg #[Vi 3,Vi en,.string es]),.own,.b 0 0,.b 0 0,.b 0 0,.b 0 0,.cl 109 #[Vi 9] (.agg #[Vi 5,Vi 9,Ve]),.b 1 0] [] (.new fun b6=>.f (.out .ret) [] [4] [(5,.bool false)] [.box b6 [Vi 3,Vi en,.string es],.box b2 [Vi 5,Vi 9,Ve],.box b1 [Vi x.op,Vi x.k,Vi x.n,.string x.s,.string x.nm,.slice (some ⟨b3,o4,none⟩) len c]] [.o 0]) (And.intro (by first | omega | (simp; omega)) (And.intro (fun H sH=>ho _ _ (hyu.sees sH) (hm.sees sH)) (And.intro (fun H sH=>yK 9 _) (trivial)))) trivial (fun b6 _=>by kernel_rfl) ?_
  clear hJ a w; intro b6 a w hJ
  refine gY (hQ [.agg #[Vi 5,Vi 9,Ve],.bool false] _ [] hJ (.rcel hJ.j 1 (.rtm hJ.j .nil)) (fJ _) rfl ?_).1
  exact rfl
 ·refine fY Tryz.func110 (c:=Tryz.f110.body.getD .skip) (N:=31) ?_
  intro hbx hbad Q hQ a w hJ
  refine rx' hJ false 12 [.own,.own,.b 1 5] [] (.new fun b1=>.new fun b2=>.ok (.ops [0,1] 3) [.seq [1,1]] [(4,Vp b2),(7,.map (some b)),(9,.slice A len c)] [.box b2 [Vi 0,Vi 0,Ve],.box b1 [Vi x.op,Vi x.k,Vi x.n,.string x.s,.string x.nm,.slice A len c]] []) (fun b1 b2 _=>by kernel_rfl) ?_
  clear hJ a w; intro b1 b2 a w hJ
  obtain ⟨b3,o4,rfl,-,c5⟩:=RS.row hr (hrow)
  replace hJ:=hJ.fact (c5.sees (Sees.refl _))
  refine rk hJ false 29 [.ix b3 o4 len c 0,.f 0 0,.cl 89 #[.map (some b),.agg #[Vi y.op,Vi y.k,Vi y.n,.string y.s,.string y.nm,.slice Au nu cu]] (.agg #[Vi 4,Vi en,.string es]),.own,.b 0 0,.b 0 0,.b 0 0] [] (.new fun b6=>.f (.code [0,1,1,1]) [.seq [1,1,1,1]] [4] [(6,Vp b6)] [.box b6 [Vi 4,Vi en,.string es],.box b2 [Vi 0,Vi 0,Ve],.box b1 [Vi x.op,Vi x.k,Vi x.n,.string x.s,.string x.nm,.slice (some ⟨b3,o4,none⟩) len c]] [.o 0]) (And.intro (by first | omega | (simp; omega)) (And.intro (fun H sH=>ho _ _ (hyu.sees sH) (hm.sees sH)) (trivial))) trivial (fun b6 _=>by kernel_rfl) ?_
  clear hJ a w; intro b6 a w hJ
  let R:Reg:=⟨⟨31,h.w,h.bad,[]⟩,[(0,27,fun gh=>.agg #[Vi 4,Vi en,.string es]),(1,28,fun gh=>Vp b6),(2,29,fun gh=>Vi 4),(3,30,fun gh=>.bool false),(5,5,fun gh=>.bool false)],[(4,Vp b2),(6,Vp b6)],[⟨some (.box b6 [Vi 4,Vi en,.string es]),[]⟩,⟨some (.box b2 [Vi 0,Vi 0,Ve]),[(4,fun gh=>.box b2 [Vi 4,Vi en,.string es])]⟩,⟨some (.box b1 [Vi x.op,Vi x.k,Vi x.n,.string x.s,.string x.nm,.slice (some ⟨b3,o4,none⟩) len c]),[]⟩],[],[[],[],[1],[1,2],[0],[0,1,2,3,4]],h⟩
  have hmono:∀ zq∈R.F,∀ zx zh zi,Sees zh zi→zq.2 zx zh→zq.2 zx zi:=lJ
  refine oY (by kernel_rfl) R hJ 6 [.ld 0 0,.pu,.ld 0 0,.pu,.st 1 0,.pu] (by kernel_rfl) hmono (fun _ _ _=>by kernel_rfl) (fun hT hA=>?_) ?_
  ·trivial
  clear hJ a w; intro gh h7 a w sR hJ1 hF; have s8:Sees h h7:=sR; clear sR
  have hJ:K ⟨31,h.w,h.bad,[]⟩ [(4,Vp b2),(5,.bool false)] [.box b6 [Vi 4,Vi en,.string es],.box b2 [Vi 4,Vi en,.string es],.box b1 [Vi x.op,Vi x.k,Vi x.n,.string x.s,.string x.nm,.slice (some ⟨b3,o4,none⟩) len c]] [(b3,o4 + 0 * 6,[Vi y.op,Vi y.k,Vi y.n,.string y.s,.string y.nm,.slice Au nu cu])] h7 a w:=hJ1.tw
  clear hJ1 hF hmono R
  clear gh
  refine rk' hJ false 2 [] [] (.k (.out .ret) [] [4,5] []) ?_
  clear hJ a w; intro a w hJ
  refine gY (hQ [.agg #[Vi 4,Vi en,.string es],.bool false] _ [] hJ (.rcel hJ.j 1 (.rtm hJ.j .nil)) (fJ _) rfl ?_).1
  exact rfl
 ·refine fY Tryz.func110 (c:=Tryz.f110.body.getD .skip) (N:=31) ?_
  intro hbx hbad Q hQ a w hJ
  refine rx' hJ false 12 [.own,.own,.b 1 5] [] (.new fun b1=>.new fun b2=>.ok (.ops [0,1] 3) [.seq [1,1]] [(4,Vp b2),(7,.map (some b)),(9,.slice A len c)] [.box b2 [Vi 0,Vi 0,Ve],.box b1 [Vi x.op,Vi x.k,Vi x.n,.string x.s,.string x.nm,.slice A len c]] []) (fun b1 b2 _=>by kernel_rfl) ?_
  clear hJ a w; intro b1 b2 a w hJ
  obtain ⟨b3,o4,rfl,-,c5⟩:=RS.row hr (hrow)
  replace hJ:=hJ.fact (c5.sees (Sees.refl _))
  refine rk hJ false 29 [.ix b3 o4 len c 0,.f 0 0,.cl 89 #[.map (some b),.agg #[Vi y.op,Vi y.k,Vi y.n,.string y.s,.string y.nm,.slice Au nu cu]] (.agg #[Vi 5,Vi en,.string es]),.own,.b 0 0,.b 0 0,.b 0 0,.b 0 0] [] (.new fun b6=>.f (.code [0,1,1,1]) [.seq [1,1,1,1]] [4] [(6,Vp b6)] [.box b6 [Vi 5,Vi en,.string es],.box b2 [Vi 0,Vi 0,Ve],.box b1 [Vi x.op,Vi x.k,Vi x.n,.string x.s,.string x.nm,.slice (some ⟨b3,o4,none⟩) len c]] [.o 0]) (And.intro (by first | omega | (simp; omega)) (And.intro (fun H sH=>ho _ _ (hyu.sees sH) (hm.sees sH)) (trivial))) trivial (fun b6 _=>by kernel_rfl) ?_
  clear hJ a w; intro b6 a w hJ
  let R:Reg:=⟨⟨31,h.w,h.bad,[]⟩,[(0,27,fun gh=>.agg #[Vi 5,Vi en,.string es]),(1,28,fun gh=>Vp b6),(2,29,fun gh=>Vi 5),(3,30,fun gh=>.bool false),(5,5,fun gh=>.bool false)],[(4,Vp b2),(6,Vp b6)],[⟨some (.box b6 [Vi 5,Vi en,.string es]),[]⟩,⟨some (.box b2 [Vi 0,Vi 0,Ve]),[(4,fun gh=>.box b2 [Vi 5,Vi en,.string es])]⟩,⟨some (.box b1 [Vi x.op,Vi x.k,Vi x.n,.string x.s,.string x.nm,.slice (some ⟨b3,o4,none⟩) len c]),[]⟩],[],[[],[],[1],[1,2],[0],[0,1,2,3,4]],h⟩
  have hmono:∀ zq∈R.F,∀ zx zh zi,Sees zh zi→zq.2 zx zh→zq.2 zx zi:=lJ
  refine oY (by kernel_rfl) R hJ 6 [.ld 0 0,.pu,.ld 0 0,.pu,.st 1 0,.pu] (by kernel_rfl) hmono (fun _ _ _=>by kernel_rfl) (fun hT hA=>?_) ?_
  ·trivial
  clear hJ a w; intro gh h7 a w sR hJ1 hF; have s8:Sees h h7:=sR; clear sR
  have hJ:K ⟨31,h.w,h.bad,[]⟩ [(4,Vp b2),(5,.bool false)] [.box b6 [Vi 5,Vi en,.string es],.box b2 [Vi 5,Vi en,.string es],.box b1 [Vi x.op,Vi x.k,Vi x.n,.string x.s,.string x.nm,.slice (some ⟨b3,o4,none⟩) len c]] [(b3,o4 + 0 * 6,[Vi y.op,Vi y.k,Vi y.n,.string y.s,.string y.nm,.slice Au nu cu])] h7 a w:=hJ1.tw
  clear hJ1 hF hmono R
  clear gh
  refine rk' hJ false 2 [] [] (.k (.out .ret) [] [4,5] []) ?_
  clear hJ a w; intro a w hJ
  refine gY (hQ [.agg #[Vi 5,Vi en,.string es],.bool false] _ [] hJ (.rcel hJ.j 1 (.rtm hJ.j .nil)) (fJ _) rfl ?_).1
  exact rfl
theorem bool_any (env:Env) (b:Nat) (x:Ex) (sl:Value) (h:Vw) (hx:IsArgs h x sl) (hm:MapAt h b (mK env)) (ho:∀ v h,IsArgs h x v→MapAt h b (mK env)→C0 Tryz.prog 89 #[.map (some b),.agg #[.int .i64 x.op,.int .i64 x.k,.int .i64 x.n,.string x.s,.string x.nm,v]] h (fun r _=>r=(nK env x).val)) (hok:OkV (nK env x)) :
  C0 Tryz.prog 111 #[.map (some b),.agg #[.int .i64 x.op,.int .i64 x.k,.int .i64 x.n,.string x.s,.string x.nm,sl]] h (fun r _=>r=(aK (nK env x)).val):=by
 obtain ⟨A,len,c,rfl⟩:=hx.slice
 have hk:=ok_kinds hok
 generalize nK env x=e at *
 obtain ⟨ek,en,es⟩:=e
 obtain rfl | rfl | rfl | rfl | rfl:ek=1∨ek=2∨ek=3∨ek=4∨ek=5:=by simp only at hk; omega
 ·refine fY Tryz.func111 (c:=Tryz.f111.body.getD .skip) (N:=19) ?_
  intro hbx hbad Q hQ a w hJ
  refine rx' hJ false 37 [.own,.own,.b 1 0,.cl 89 #[.map (some b),.agg #[Vi x.op,Vi x.k,Vi x.n,.string x.s,.string x.nm,.slice A len c]] (.agg #[Vi 1,Vi en,.string es]),.own,.b 0 0,.b 0 0,.cl 109 #[Vi 9] (.agg #[Vi 5,Vi 9,Ve]),.b 1 0] [] (.new fun b1=>.new fun b2=>.new fun b3=>.ok (.out .ret) [] [(4,Vp b2)] [.box b3 [Vi 1,Vi en,.string es],.box b2 [Vi 5,Vi 9,Ve],.box b1 [Vi x.op,Vi x.k,Vi x.n,.string x.s,.string x.nm,.slice A len c]] []) (ho:=And.intro (fun H sH=>ho _ _ (hx.sees sH) (hm.sees sH)) (And.intro (fun H sH=>yK 9 _) (trivial))) (fun b1 b2 b3 _=>by kernel_rfl) ?_
  clear hJ a w; intro b1 b2 b3 a w hJ
  refine gY (hQ [.agg #[Vi 5,Vi 9,Ve]] _ [] hJ (.rcel hJ.j 1 .nil) (fJ _) rfl ?_).1
  exact rfl
 ·refine fY Tryz.func111 (c:=Tryz.f111.body.getD .skip) (N:=19) ?_
  intro hbx hbad Q hQ a w hJ
  refine rx' hJ false 38 [.own,.own,.b 1 0,.cl 89 #[.map (some b),.agg #[Vi x.op,Vi x.k,Vi x.n,.string x.s,.string x.nm,.slice A len c]] (.agg #[Vi 2,Vi en,.string es]),.own,.b 0 0,.b 0 0,.b 0 0,.b 0 0,.b 1 0] [] (.new fun b1=>.new fun b2=>.new fun b3=>.ok (.out .ret) [] [(4,Vp b2)] [.box b3 [Vi 2,Vi en,.string es],.box b2 [Vi 2,Vi en,.string es],.box b1 [Vi x.op,Vi x.k,Vi x.n,.string x.s,.string x.nm,.slice A len c]] []) (ho:=And.intro (fun H sH=>ho _ _ (hx.sees sH) (hm.sees sH)) (trivial)) (fun b1 b2 b3 _=>by kernel_rfl) ?_
  clear hJ a w; intro b1 b2 b3 a w hJ
  refine gY (hQ [.agg #[Vi 2,Vi en,.string es]] _ [] hJ (.rcel hJ.j 1 .nil) (fJ _) rfl ?_).1
  exact rfl
 ·refine fY Tryz.func111 (c:=Tryz.f111.body.getD .skip) (N:=19) ?_
  intro hbx hbad Q hQ a w hJ
  refine rx' hJ false 37 [.own,.own,.b 1 0,.cl 89 #[.map (some b),.agg #[Vi x.op,Vi x.k,Vi x.n,.string x.s,.string x.nm,.slice A len c]] (.agg #[Vi 3,Vi en,.string es]),.own,.b 0 0,.b 0 0,.b 0 0,.cl 109 #[Vi 9] (.agg #[Vi 5,Vi 9,Ve]),.b 1 0] [] (.new fun b1=>.new fun b2=>.new fun b3=>.ok (.out .ret) [] [(4,Vp b2)] [.box b3 [Vi 3,Vi en,.string es],.box b2 [Vi 5,Vi 9,Ve],.box b1 [Vi x.op,Vi x.k,Vi x.n,.string x.s,.string x.nm,.slice A len c]] []) (ho:=And.intro (fun H sH=>ho _ _ (hx.sees sH) (hm.sees sH)) (And.intro (fun H sH=>yK 9 _) (trivial))) (fun b1 b2 b3 _=>by kernel_rfl) ?_
  clear hJ a w; intro b1 b2 b3 a w hJ
  refine gY (hQ [.agg #[Vi 5,Vi 9,Ve]] _ [] hJ (.rcel hJ.j 1 .nil) (fJ _) rfl ?_).1
  exact rfl
 ·refine fY Tryz.func111 (c:=Tryz.f111.body.getD .skip) (N:=19) ?_
  intro hbx hbad Q hQ a w hJ
  refine rx' hJ false 38 [.own,.own,.b 1 0,.cl 89 #[.map (some b),.agg #[Vi x.op,Vi x.k,Vi x.n,.string x.s,.string x.nm,.slice A len c]] (.agg #[Vi 4,Vi en,.string es]),.own,.b 0 0,.b 0 0,.b 0 0,.b 0 0,.b 1 0] [] (.new fun b1=>.new fun b2=>.new fun b3=>.ok (.out .ret) [] [(4,Vp b2)] [.box b3 [Vi 4,Vi en,.string es],.box b2 [Vi 4,Vi en,.string es],.box b1 [Vi x.op,Vi x.k,Vi x.n,.string x.s,.string x.nm,.slice A len c]] []) (ho:=And.intro (fun H sH=>ho _ _ (hx.sees sH) (hm.sees sH)) (trivial)) (fun b1 b2 b3 _=>by kernel_rfl) ?_
  clear hJ a w; intro b1 b2 b3 a w hJ
  refine gY (hQ [.agg #[Vi 4,Vi en,.string es]] _ [] hJ (.rcel hJ.j 1 .nil) (fJ _) rfl ?_).1
  exact rfl
 ·refine fY Tryz.func111 (c:=Tryz.f111.body.getD .skip) (N:=19) ?_
  intro hbx hbad Q hQ a w hJ
  refine rx' hJ false 38 [.own,.own,.b 1 0,.cl 89 #[.map (some b),.agg #[Vi x.op,Vi x.k,Vi x.n,.string x.s,.string x.nm,.slice A len c]] (.agg #[Vi 5,Vi en,.string es]),.own,.b 0 0,.b 0 0,.b 0 0,.b 0 0,.b 1 0] [] (.new fun b1=>.new fun b2=>.new fun b3=>.ok (.out .ret) [] [(4,Vp b2)] [.box b3 [Vi 5,Vi en,.string es],.box b2 [Vi 5,Vi en,.string es],.box b1 [Vi x.op,Vi x.k,Vi x.n,.string x.s,.string x.nm,.slice A len c]] []) (ho:=And.intro (fun H sH=>ho _ _ (hx.sees sH) (hm.sees sH)) (trivial)) (fun b1 b2 b3 _=>by kernel_rfl) ?_
  clear hJ a w; intro b1 b2 b3 a w hJ
  refine gY (hQ [.agg #[Vi 5,Vi en,.string es]] _ [] hJ (.rcel hJ.j 1 .nil) (fJ _) rfl ?_).1
  exact rfl
end Go.Proofs.YthckljafinhepaaGreat
namespace Go.Proofs.YthckljafinhepaaGreat
open Go.RowKit
theorem vrows_snoc (l:List Vl) (e:Vl):vrows (l++[e])=vrows l++[e.cells]:=by simp [vrows]
def zV:Vl:=⟨0,0,⟨#[]⟩⟩
theorem lackV_step (p:Option Vl) (v:Vl) (l:List Vl) (h:v.k≠5):eV p (v :: l)=eV (if v.k=4 then some v else p) l:=by
 conv=>lhs; unfold eV
 rw [if_neg h]
theorem lackV_hit (p:Option Vl) (v:Vl) (l:List Vl) (h:v.k=5):eV p (v :: l)=some v:=by
 unfold eV
 rw [if_pos h]
theorem drop_at {α:Type} {l:List α} {k:Nat} {x:α} (h:l[k]?=some x):l.drop k=x :: l.drop (k + 1):=by
 obtain ⟨hk,rfl⟩:=List.getElem?_eq_some_iff.1 h
 exact List.drop_eq_getElem_cons hk
theorem all_any (env:Env) (b:Nat) (x:Ex) (sl:Value) (h:Vw) (hx:IsArgs h x sl) (hm:MapAt h b (mK env)) (hof:OfAll env b x.args) (hl3:x.args.length≤3) :
  C0 Tryz.prog 112 #[.map (some b),sl] h (fun v h'=>∃ A n c u,v=.tuple #[.slice A n c,u.val]∧(eV none (oK env x.args)).getD zV=u∧(eV none (oK env x.args)=none→n=x.args.length∧RS h' 3 (.slice A n c) (vrows (oK env x.args)))):=by
 obtain ⟨vs,hr,hvs⟩:=hx.form
 obtain ⟨A,cap,rfl,-,-,-⟩:=hr.form
 have hvl:=hvs.len
 have hrl:=tK hvl
 rw [hrl] at hr ⊢
 rw [pK]
 generalize hL:x.args.length=len at *
 have hel:(x.args.map (nK env)).length=len:=by rw [List.length_map,hL]
 refine fY Tryz.func112 (c:=Tryz.f112.body.getD .skip) (N:=35) ?_
 intro hbx hbad Q hQ a w hJ
 replace hJ:K ⟨35,h.w,h.bad,[]⟩ [(0,.map (some b)),(1,.slice A len cap)] [] [] h a w:=hJ.tw
 replace hJ:=hJ.nilrow 38 3
 refine rk' hJ false 25 [.own,.own] [] (.new fun b1=>.new fun b2=>.m (.code [0,1,0,1,1,1]) [.block 0,.seq [1,1,1,1]] [0] [(5,Vp b1),(6,Vz),(7,Vp b2),(11,.slice A len cap),(12,Vi (len:Int)),(13,Vi 0)] [.box b2 [Vi 0,Vi 0,Ve],.box b1 [Vi 0,Vi 0,Ve],.row (Vz) 38 3 ([])] []) (hr:=fun b1 b2 _=>by kernel_rfl) ?_
 clear hJ a w; intro b1 b2 a w hJ
 refine kY (fun (k:Nat) a w=>∃ (h3:Vw) (v:Value) (pd:Option Vl),K ⟨35,h.w,h.bad,[]⟩ [(0,.map (some b)),(5,Vp b1),(7,Vp b2),(11,.slice A len cap),(12,Vi (len:Int)),(13,Vi (k:Int)),(6,v)] [.box b2 [Vi ((pd.getD zV).k),Vi ((pd.getD zV).n),.string ((pd.getD zV).s)],.box b1 [Vi 0,Vi 0,Ve],.row v 38 3 (vrows ((x.args.map (nK env)).take k))] [] h3 a w∧Sees h h3∧(k≤len)∧(eV none (x.args.map (nK env))=eV pd ((x.args.map (nK env)).drop k))) (fun k=>len - k) (0) ⟨h,(Vz),none,hJ.tw,Sees.refl _,Nat.zero_le _,rfl⟩ ?_
 clear hJ a w; rintro k a w ⟨h3,v,pd,hJ,s4,hk,hlk⟩
 refine rk' hJ false 6 [] [] (.k (.code [0,1,0,0,1,0,1,1,1]) [.seq [1,1,0,0,1,0,1,1,1]] [0,5,7,11,12,13,6] [(14,.bool (decide ((k:Int) < (len:Int))))]) ?_
 clear hJ a w; intro a w hJ
 rcases (by omega:k < len∨len=k) with hlt | hke
 ·obtain ⟨y,hy⟩:∃ y,x.args[k]?=some y:=⟨_,List.getElem?_eq_getElem (by omega)⟩
  obtain ⟨u,hu⟩:∃ u,vs[k]?=some u:=⟨_,List.getElem?_eq_getElem (by omega)⟩
  have hyu:=AllArgs.get hvs hy hu
  obtain ⟨Au,nu,cu,rfl⟩:=hyu.slice
  have hrow:(sK x.args vs)[k]?=some (exRow y (.slice Au nu cu)):=by show (List.zipWith exRow _ _)[k]?=_; rw [List.getElem?_zipWith,hy,hu]
  have ho:=hof y (List.mem_of_getElem? hy)
  have hek:(x.args.map (nK env))[k]?=some (nK env y):=by rw [List.getElem?_map,hy]; rfl
  rw [drop_at hek] at hlk
  have htk:=tX _ k _ hek
  have htl:((x.args.map (nK env)).take k).length=k:=by rw [List.length_take,hel]; omega
  generalize nK env y=e at *
  generalize x.args.map (nK env)=vals at *
  refine qY hJ (t:=decide ((k:Int) < (len:Int))) (decide_eq_true (by omega)) ?_
  refine rk' hJ false 6 [] [] (.k (.ops [0,0,0,1,1,0,0,1,0,1,1,1] 0) [.seq [1,0,0,1,1,0,0,1,0,1,1,1],.block 1,.seq [1,1,1,0,0,1,0,1,1,1]] [0,5,7,11,12,13,6] []) ?_
  clear hJ a w; intro a w hJ
  obtain ⟨b5,o6,rfl,-,c7⟩:=RS.row hr (hrow)
  replace hJ:=hJ.fact (c7.sees s4)
  refine rk hJ false 23 [.ix b5 o6 len cap k,.f 0 0,.own,.b 0 0,.b 0 0,.cl 89 #[.map (some b),.agg #[Vi y.op,Vi y.k,Vi y.n,.string y.s,.string y.nm,.slice Au nu cu]] (.agg #[Vi e.k,Vi e.n,.string e.s]),.own,.b 0 0,.b 0 0] [] (.new fun b8=>.new fun b9=>.f (.code [1,0,1,1,0,0,1,1,0,0,1,0,1,1,1]) [.seq [1,1,1,0,0,1,1,0,0,1,0,1,1,1],.block 1,.seq [1,1,1,0,0,1,0,1,1,1]] [0,5,7,11,12,13,6] [(10,Vp b9),(22,.bool (e.k == 5))] [.box b9 [Vi e.k,Vi e.n,.string e.s],.box b8 [Vi y.op,Vi y.k,Vi y.n,.string y.s,.string y.nm,.slice Au nu cu],.box b2 [Vi ((pd.getD zV).k),Vi ((pd.getD zV).n),.string ((pd.getD zV).s)],.box b1 [Vi 0,Vi 0,Ve],.row v 38 3 (vrows (vals.take k))] [.o 0]) (And.intro (by first | omega | (simp; omega)) (And.intro (fun H sH=>ho _ _ (hyu.sees (s4.trans sH)) (hm.sees (s4.trans sH))) (trivial))) trivial (fun b8 b9 _=>by kernel_rfl) ?_
  clear hJ a w; intro b8 b9 a w hJ
  by_cases h5:e.k=5
  ·rw [lackV_hit _ _ _ h5] at hlk
   refine qY hJ (t:=e.k == 5) (beq_iff_eq.2 h5) ?_
   refine rk' hJ false 1 [] [] (.k (.code [0,0,1,0,1,1,0,0,1,1,0,0,1,0,1,1,1]) [.seq [1,0,1,0,1,1,0,0,1,1,0,0,1,0,1,1,1],.seq [1,1,1,0,0,1,1,0,0,1,0,1,1,1],.block 1,.seq [1,1,1,0,0,1,0,1,1,1]] [5,10] []) ?_
   clear hJ a w; intro a w hJ
   let R:Reg:=⟨⟨35,h.w,h.bad,[]⟩,[(0,23,fun gh=>.agg #[Vi e.k,Vi e.n,.string e.s]),(1,4,fun gh=>Vz)],[(5,Vp b1),(10,Vp b9)],[⟨some (.box b9 [Vi e.k,Vi e.n,.string e.s]),[]⟩,⟨some (.box b8 [Vi y.op,Vi y.k,Vi y.n,.string y.s,.string y.nm,.slice Au nu cu]),[]⟩,⟨some (.box b2 [Vi ((pd.getD zV).k),Vi ((pd.getD zV).n),.string ((pd.getD zV).s)]),[]⟩,⟨some (.box b1 [Vi 0,Vi 0,Ve]),[(2,fun gh=>.box b1 [Vi e.k,Vi e.n,.string e.s])]⟩,⟨some (.row v 38 3 (vrows (vals.take k))),[]⟩],[],[[],[],[0,1]],h3⟩
   have hmono:∀ zq∈R.F,∀ zx zh zi,Sees zh zi→zq.2 zx zh→zq.2 zx zi:=lJ
   refine oY (by kernel_rfl) R hJ 3 [.ld 0 0,.pu,.st 3 0] (by kernel_rfl) hmono (fun _ _ _=>by kernel_rfl) (fun hT hA=>?_) ?_
   ·trivial
   clear hJ a w; intro gh h10 a w sR hJ1 hF; have s11:Sees h3 h10:=sR; clear sR
   have hJ:K ⟨35,h.w,h.bad,[]⟩ [(5,Vp b1),(4,Vz)] [.box b9 [Vi e.k,Vi e.n,.string e.s],.box b8 [Vi y.op,Vi y.k,Vi y.n,.string y.s,.string y.nm,.slice Au nu cu],.box b2 [Vi ((pd.getD zV).k),Vi ((pd.getD zV).n),.string ((pd.getD zV).s)],.box b1 [Vi e.k,Vi e.n,.string e.s],.row v 38 3 (vrows (vals.take k))] [(b5,o6 + k * 6,[Vi y.op,Vi y.k,Vi y.n,.string y.s,.string y.nm,.slice Au nu cu])] h10 a w:=hJ1.tw
   clear hJ1 hF hmono R
   clear gh
   refine rk' hJ false 5 [] [] (.k (.out .ret) [] [5,4] []) ?_
   clear hJ a w; intro a w hJ
   refine jY rfl ?_
   refine rk' hJ false 2 [] [] (.k (.out .ret) [] [5,4] []) ?_
   clear hJ a w; intro a w hJ
   refine gY (hQ [Vz,.agg #[Vi e.k,Vi e.n,.string e.s]] _ [] hJ (.rtm hJ.j (.rcel hJ.j 3 .nil)) (fJ _) rfl ?_).1
   exact ⟨none,0,0,e,rfl,by rw [hlk]; rfl,fun hn=>by rw [hlk] at hn; cases hn⟩
  ·skip
   rw [lackV_step _ _ _ h5] at hlk
   refine iY hJ (t:=e.k == 5) (beq_eq_false_iff_ne.2 h5) ?_
   refine rk' hJ false 10 [.b 0 0] [] (.k (.code [1,0,1,1,1,0,0,1,1,0,0,1,0,1,1,1]) [.seq [1,1,1,1,0,0,1,1,0,0,1,0,1,1,1],.block 1,.seq [1,1,1,0,0,1,0,1,1,1]] [0,5,7,11,12,13,6,10] [(26,.bool (e.k == 4))]) ?_
   clear hJ a w; intro a w hJ
   by_cases h4:e.k=4
   ·rw [if_pos h4] at hlk
    refine qY hJ (t:=e.k == 4) (beq_iff_eq.2 h4) ?_
    refine rx' hJ true 9 [.b 0 0,.b 2 0,.b 0 0,.fix] [] (.new fun b12=>.ok (.ops [1,1,1,1,0,0,1,1,0,0,1,0,1,1,1] 3) [.block 1,.seq [1,1,1,0,0,1,0,1,1,1]] [(0,.map (some b)),(5,Vp b1),(7,Vp b2),(11,.slice (some ⟨b5,o6,none⟩) len cap),(12,Vi (len:Int)),(13,Vi (k:Int)),(28,v),(30,Vs b12 1 1)] [.box b9 [Vi e.k,Vi e.n,.string e.s],.box b8 [Vi y.op,Vi y.k,Vi y.n,.string y.s,.string y.nm,.slice Au nu cu],.box b2 [Vi e.k,Vi e.n,.string e.s],.box b1 [Vi 0,Vi 0,Ve],.row v 38 3 (vrows (vals.take k))] [(b12,0,[Vi e.k,Vi e.n,.string e.s]),(b5,o6 + k * 6,[Vi y.op,Vi y.k,Vi y.n,.string y.s,.string y.nm,.slice Au nu cu])]) (fun b12 _=>by kernel_rfl) ?_
    clear hJ a w; intro b12 h13 a w s14 hJ
    refine rk hJ true 9 [.ap 4 0 (vrows (vals.take k)) [[Vi e.k,Vi e.n,.string e.s]]] [(32,Vi (IntKind.i64.wrap ((k:Int) + 1)),Vi ((k:Int) + 1))] (.nv fun v31=>.f (.out .normal) [] [0,5,7,11,12] [(6,.slice (sA v31) (sN v31) (sC v31)),(13,Vi ((k:Int) + 1))] [.box b9 [Vi e.k,Vi e.n,.string e.s],.box b8 [Vi y.op,Vi y.k,Vi y.n,.string y.s,.string y.nm,.slice Au nu cu],.box b2 [Vi e.k,Vi e.n,.string e.s],.box b1 [Vi 0,Vi 0,Ve],.row (.slice (sA v31) (sN v31) (sC v31)) 38 3 ((vrows (vals.take k))++[[Vi e.k,Vi e.n,.string e.s]])] [.o 0,.o 1]) (And.intro (by rw [List.length_map,htl]; simp; omega) (trivial)) (And.intro (kJ (by omega) (by omega)) (trivial)) (fun v31 _=>by kernel_rfl) ?_
    clear hJ a w; intro v31 h15 a w s16 hJ
    replace hJ:=hJ.drop 1
    replace hJ:=hJ.drop 0
    exact pY ⟨k + 1,⟨h15,.slice (sA v31) (sN v31) (sC v31),some e,(hJ.tof [] (F':=[]) (by kernel_rfl)).to (by kernel_rfl) (by rw [htk,vrows_snoc]; rfl) rfl,(s4.trans (s14.trans s16)),by omega,hlk⟩,by omega⟩
   ·skip
    rw [if_neg h4] at hlk
    refine iY hJ (t:=e.k == 4) (beq_eq_false_iff_ne.2 h4) ?_
    refine rk' hJ true 6 [.b 0 0,.fix] [] (.new fun b17=>.g (.ops [1,1,1,1,0,0,1,1,0,0,1,0,1,1,1] 3) [.block 1,.seq [1,1,1,0,0,1,0,1,1,1]] [0,5,7,11,12,13] [(28,v),(30,Vs b17 1 1)] [.n (b17,0,[Vi e.k,Vi e.n,.string e.s]),.o 0]) (hr:=fun b17 _=>by kernel_rfl) ?_
    clear hJ a w; intro b17 h18 a w s19 hJ
    refine rk hJ true 9 [.ap 4 0 (vrows (vals.take k)) [[Vi e.k,Vi e.n,.string e.s]]] [(32,Vi (IntKind.i64.wrap ((k:Int) + 1)),Vi ((k:Int) + 1))] (.nv fun v31=>.f (.out .normal) [] [0,5,7,11,12] [(6,.slice (sA v31) (sN v31) (sC v31)),(13,Vi ((k:Int) + 1))] [.box b9 [Vi e.k,Vi e.n,.string e.s],.box b8 [Vi y.op,Vi y.k,Vi y.n,.string y.s,.string y.nm,.slice Au nu cu],.box b2 [Vi ((pd.getD zV).k),Vi ((pd.getD zV).n),.string ((pd.getD zV).s)],.box b1 [Vi 0,Vi 0,Ve],.row (.slice (sA v31) (sN v31) (sC v31)) 38 3 ((vrows (vals.take k))++[[Vi e.k,Vi e.n,.string e.s]])] [.o 0,.o 1]) (And.intro (by rw [List.length_map,htl]; simp; omega) (trivial)) (And.intro (kJ (by omega) (by omega)) (trivial)) (fun v31 _=>by kernel_rfl) ?_
    clear hJ a w; intro v31 h20 a w s21 hJ
    replace hJ:=hJ.drop 1
    replace hJ:=hJ.drop 0
    exact pY ⟨k + 1,⟨h20,.slice (sA v31) (sN v31) (sC v31),pd,(hJ.tof [] (F':=[]) (by kernel_rfl)).to (by kernel_rfl) (by rw [htk,vrows_snoc]; rfl) rfl,(s4.trans (s19.trans s21)),by omega,hlk⟩,by omega⟩
 ·skip
  have hta:(x.args.map (nK env)).take k=x.args.map (nK env):=List.take_of_length_le (by omega)
  rw [hta] at hJ
  rw [List.drop_eq_nil_of_le (by omega)] at hlk
  obtain ⟨A2,c2,hE_v,hc_v,hm_v⟩:=hJ.form (v:=v) (e:=38) (k:=3) (l:=vrows (x.args.map (nK env))) 2 (by kernel_rfl)
  rw [show (vrows (x.args.map (nK env))).length=len from by first | omega | (simp; done) | (simp; omega)] at hE_v hc_v
  rw [hE_v] at hJ
  refine iY hJ (t:=decide ((k:Int) < (len:Int))) (decide_eq_false (by omega)) ?_
  refine rk' hJ false 2 [] [] (.k (.out (.exit 0)) [] [5,7,6] []) ?_
  clear hJ a w; intro a w hJ
  refine jY rfl ?_
  refine rk' hJ false 3 [] [] (.k (.code [0,1,1,1,1]) [.seq [1,1,1,1,1]] [5,7,6] []) ?_
  clear hJ a w; intro a w hJ
  let R:Reg:=⟨⟨35,h.w,h.bad,[]⟩,[(0,33,fun gh=>.slice A2 len c2),(1,34,fun gh=>.agg #[Vi ((pd.getD zV).k),Vi ((pd.getD zV).n),.string ((pd.getD zV).s)]),(2,4,fun gh=>.slice A2 len c2)],[(5,Vp b1),(7,Vp b2),(6,.slice A2 len c2)],[⟨some (.box b2 [Vi ((pd.getD zV).k),Vi ((pd.getD zV).n),.string ((pd.getD zV).s)]),[]⟩,⟨some (.box b1 [Vi 0,Vi 0,Ve]),[(3,fun gh=>.box b1 [Vi ((pd.getD zV).k),Vi ((pd.getD zV).n),.string ((pd.getD zV).s)])]⟩,⟨some (.row (.slice A2 len c2) 38 3 (vrows (x.args.map (nK env)))),[]⟩],[],[[],[],[0],[0,1,2]],h3⟩
  have hmono:∀ zq∈R.F,∀ zx zh zi,Sees zh zi→zq.2 zx zh→zq.2 zx zi:=lJ
  refine oY (by kernel_rfl) R hJ 4 [.pu,.ld 0 0,.pu,.st 1 0] (by kernel_rfl) hmono (fun _ _ _=>by kernel_rfl) (fun hT hA=>?_) ?_
  ·trivial
  clear hJ a w; intro gh h22 a w sR hJ1 hF; have s23:Sees h3 h22:=sR; clear sR
  have hJ:K ⟨35,h.w,h.bad,[]⟩ [(5,Vp b1),(4,.slice A2 len c2)] [.box b2 [Vi ((pd.getD zV).k),Vi ((pd.getD zV).n),.string ((pd.getD zV).s)],.box b1 [Vi ((pd.getD zV).k),Vi ((pd.getD zV).n),.string ((pd.getD zV).s)],.row (.slice A2 len c2) 38 3 (vrows (x.args.map (nK env)))] [] h22 a w:=hJ1.tw
  clear hJ1 hF hmono R
  clear gh
  refine rk' hJ false 2 [] [] (.k (.out .ret) [] [5,4] []) ?_
  clear hJ a w; intro a w hJ
  have fr:=hJ.j.rowOut0 (v:=.slice A2 len c2) (e:=38) (k:=3) (l:=vrows (x.args.map (nK env))) 2 (by kernel_rfl) rfl
  refine gY (hQ [.slice A2 len c2,.agg #[Vi ((pd.getD zV).k),Vi ((pd.getD zV).n),.string ((pd.getD zV).s)]] _ [] hJ (.rtm hJ.j (.rcel hJ.j 1 .nil)) (fJ _) rfl ?_).1
  exact ⟨A2,len,c2,pd.getD zV,rfl,by rw [hlk]; rfl,fun _=>⟨rfl,fr⟩⟩
end Go.Proofs.YthckljafinhepaaGreat
