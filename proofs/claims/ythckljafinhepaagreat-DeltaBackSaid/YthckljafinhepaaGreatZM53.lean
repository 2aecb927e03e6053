/-
  For all raw things DeltaBack returns true: changing a field and changing it back restores all values. No condition.
-/
import Derived.Test.YthckljafinhepaaGreatZM50
import Derived.Test.YthckljafinhepaaGreatZM52
set_option maxRecDepth 100000
namespace Go.Proofs.YthckljafinhepaaGreat
open Go.RowKit
set_option linter.unusedVariables false
theorem delC_any (f:Fd) (Au:Option Addr) (nu cu:Nat) (p:ByteArray × Vl) (b:Nat) (H:Vw) (hc:Cells H b 0 [.string f.name,.int .i64 f.kind,.int .i64 f.ty,.int .i64 f.src.op,.int .i64 f.src.k,.int .i64 f.src.n,.string f.src.s,.string f.src.nm,.slice Au nu cu]):C0 Tryz.prog 36 #[.agg #[.string p.1,.int .i64 0,.int .i64 0,.string ⟨#[]⟩,.int .i64 p.2.k,.int .i64 p.2.n,.string p.2.s],.pointer (some ⟨b,0,none⟩)] H (fun r _=>r=.bool (p.1.toList == f.name.toList)):=by
 refine fY Tryz.func36 (c:=Tryz.f36.body.getD .skip) (N:=9) ?_
 intro hbx hbad Q hQ a w hJ
 replace hJ:K ⟨9,H.w,H.bad,[]⟩ [(0,.agg #[.string p.1,Vi 0,Vi 0,Ve,Vi p.2.k,Vi p.2.n,.string p.2.s]),(1,Vp b)] [] [] H a w:=hJ.tw
 replace hJ:=hJ.fact (hc.sees (Sees.refl _))
 refine rk' hJ false 17 [.own,.b 0 0,.f 0 0] [] (.new fun b1=>.f (.out .ret) [] [] [(3,.bool (p.1.toList == f.name.toList))] [.box b1 [.string p.1,Vi 0,Vi 0,Ve,Vi p.2.k,Vi p.2.n,.string p.2.s]] [.o 0]) (hr:=fun b1 _=>by kernel_rfl) ?_
 clear hJ a w; intro b1 a w hJ
 refine gY (hQ [.bool (p.1.toList == f.name.toList)] _ [] hJ (.rtm hJ.j .nil) (fJ _) rfl ?_).1
 exact rfl
theorem didx_any (nm:ByteArray) (l:Env) (v:Value) (b:Nat) (cs:List Value) (h:Vw) (hr:RS h 7 v (zK l)) (hl:l.length≤1000000) (hb:Cells h b 0 cs)
  (hc:∀ (p:ByteArray × Vl) H,Cells H b 0 cs→C0 Tryz.prog 36 #[.agg #[.string p.1,.int .i64 0,.int .i64 0,.string ⟨#[]⟩,.int .i64 p.2.k,.int .i64 p.2.n,.string p.2.s],.pointer (some ⟨b,0,none⟩)] H (fun r _=>r=.bool (p.1.toList == nm.toList))) :
  C0 Tryz.prog 68 #[v,.func (.func 36) #[] #[.pointer (some ⟨b,0,none⟩)]] h (fun r _=>r=.int .i64 (fidx (fun y:ByteArray × Vl=>y.1.toList == nm.toList) l)):=by
 obtain ⟨A,cap,rfl,-,-,-⟩:=hr.form
 rw [List.length_map] at *
 generalize hL:l.length=len at *
 refine fY Tryz.func68 (c:=Tryz.f68.body.getD .skip) (N:=19) ?_
 intro hbx hbad Q hQ a w hJ
 refine rk' hJ false 14 [] [] (.k (.code [0,1,0,1]) [.block 0,.seq [1,1]] [0,1] [(7,Vi (len:Int)),(8,Vi 0)]) ?_
 clear hJ a w; intro a w hJ
 refine kY (fun (k:Nat) a w=>∃ (h1:Vw) ,K ⟨19,h.w,h.bad,[]⟩ [(0,.slice A len cap),(1,.func (.func 36) #[] #[Vp b]),(7,Vi (len:Int)),(8,Vi (k:Int))] [] [] h1 a w∧Sees h h1∧(k≤len)∧(∀ y∈l.take k,(y.1.toList == nm.toList)=false)) (fun k=>len - k) (0) ⟨h,hJ.tw,Sees.refl _,Nat.zero_le _,fun y hy=>by simp at hy⟩ ?_
 clear hJ a w; rintro k a w ⟨h1,hJ,s2,hk,hn⟩
 refine rk' hJ false 6 [] [] (.k (.code [0,1,0,0,1,0,1]) [.seq [1,1,0,0,1,0,1]] [0,1,7,8] [(9,.bool (decide ((k:Int) < (len:Int))))]) ?_
 clear hJ a w; intro a w hJ
 rcases (by omega:k < len∨k=len) with hlt | hke
 ·obtain ⟨f,hfk⟩:∃ f,l[k]?=some f:=⟨_,List.getElem?_eq_getElem (by omega)⟩
  have hrow:(zK l)[k]?=some (fcRow f):=by rw [List.getElem?_map,hfk]; rfl
  refine qY hJ (t:=decide ((k:Int) < (len:Int))) (decide_eq_true (by omega)) ?_
  refine rk' hJ false 15 [] [] (.k (.ops [0,1,0,0,1,1,0,0,1,0,1] 3) [.seq [1,1,0,0,1,1,0,0,1,0,1],.block 1,.seq [1,1,1,0,0,1,0,1]] [0,1,7,8] [(5,Vi (k:Int)),(11,.func (.func 36) #[] #[Vp b]),(12,.slice A len cap),(13,Vi (k:Int))]) ?_
  clear hJ a w; intro a w hJ
  obtain ⟨b3,o4,rfl,-,c5⟩:=RS.row hr (hrow)
  replace hJ:=hJ.fact (c5.sees s2)
  refine rk' hJ false 5 [.ix b3 o4 len cap k,.f 0 0,.cl 36 #[.agg #[.string f.1,Vi 0,Vi 0,Ve,Vi f.2.k,Vi f.2.n,.string f.2.s],Vp b] (.bool (f.1.toList == nm.toList))] [] (.k (.code [1,1,0,0,1,1,0,0,1,0,1]) [.block 1,.seq [1,1,1,0,0,1,0,1]] [0,1,7,8,5] [(16,.bool (f.1.toList == nm.toList))]) (ho:=And.intro (by first | omega | (simp; omega)) (And.intro (fun H sH=>hc f _ (hb.sees (s2.trans sH))) (trivial))) ?_
  clear hJ a w; intro a w hJ
  rcases Bool.eq_false_or_eq_true (f.1.toList == nm.toList) with hq | hq
  ·refine qY hJ (t:=f.1.toList == nm.toList) (hq) ?_
   refine rk' hJ false 9 [] [] (.k (.out .ret) [] [] [(4,Vi (k:Int))]) ?_
   clear hJ a w; intro a w hJ
   refine jY rfl ?_
   refine rk' hJ false 2 [] [] (.k (.out .ret) [] [4] []) ?_
   clear hJ a w; intro a w hJ
   refine gY (hQ [Vi (k:Int)] _ [] hJ (.rtm hJ.j .nil) (fJ _) rfl ?_).1
   exact congrArg (Value.int .i64) (eQ _ l k f hn hfk hq).symm
  ·skip
   refine iY hJ (t:=f.1.toList == nm.toList) (hq) ?_
   refine rk' hJ false 7 [] [(18,Vi (IntKind.i64.wrap ((k:Int) + 1)),Vi ((k:Int) + 1))] (.k (.out .normal) [] [0,1,7] [(8,Vi ((k:Int) + 1))]) (hc:=And.intro (kJ (by omega) (by omega)) (trivial)) ?_
   clear hJ a w; intro a w hJ
   exact pY ⟨k + 1,⟨h1,(hJ.tof [] (F':=[]) (by kernel_rfl)).to (by kernel_rfl) (by kernel_rfl) rfl,s2,by omega,(by rw [tX l k f hfk]; exact fun y hy=>(List.mem_append.1 hy).elim (hn y) (fun e=>by rw [List.mem_singleton.1 e]; exact hq))⟩,by omega⟩
 ·skip
  have htk:l.take k=l:=by rw [hke,← hL,List.take_length]
  rw [htk] at hn
  refine iY hJ (t:=decide ((k:Int) < (len:Int))) (decide_eq_false (by omega)) ?_
  refine rx' hJ false 2 [] [] (.ok (.out (.exit 0)) [] [] [] []) (fun _=>by kernel_rfl) ?_
  clear hJ a w; intro a w hJ
  refine jY rfl ?_
  refine rx' hJ false 8 [] [] (.ok (.out .ret) [] [(4,Vi (-1))] [] []) (fun _=>by kernel_rfl) ?_
  clear hJ a w; intro a w hJ
  refine gY (hQ [Vi (-1)] _ [] hJ (.rtm hJ.j .nil) (fJ _) rfl ?_).1
  exact congrArg (Value.int .i64) (fQ _ l hn).symm
set_option maxHeartbeats 4000000 in
theorem delFunc_any (nm:ByteArray) (l:Env) (w0:World) (g n cap b:Nat) (cs:List Value) (hn:n=l.length) (hl:n≤1000000) (hcap:n≤cap) (hd:(l.map (·.1)).Nodup) (hb:Cells ⟨w0,[g]⟩ b 0 cs)
  (hc:∀ (p:ByteArray × Vl) H,Cells H b 0 cs→C0 Tryz.prog 36 #[.agg #[.string p.1,.int .i64 0,.int .i64 0,.string ⟨#[]⟩,.int .i64 p.2.k,.int .i64 p.2.n,.string p.2.s],.pointer (some ⟨b,0,none⟩)] H (fun r _=>r=.bool (p.1.toList == nm.toList))) :
  CDel Tryz.prog 31 #[.slice (some ⟨g,0,none⟩) n cap,.func (.func 36) #[] #[.pointer (some ⟨b,0,none⟩)]] w0 g n cap 54 7 (zK l) (delN nm l).length (zK (delN nm l)):=by
 have hI:=fun H q1 q2=>didx_any nm l (.slice (some ⟨g,0,none⟩) n cap) b cs H q1 (by omega) q2 hc
 rcases Classical.em (∀ p∈l,(p.1.toList == nm.toList)=false) with hno | hsome
 ·rw [del_none hno,← hn]
  rw [fQ _ l hno] at hI
  refine x_conL Tryz.func31 (c:=Tryz.f31.body.getD .skip) (by kernel_rfl) (N:=42) rfl (by kernel_rfl) ?_
  intro Q hQ a w hJ
  replace hJ:K ⟨42,cutW w0 g,[],[]⟩ [(0,Vs g n cap),(1,.func (.func 36) #[] #[Vp b])] [.row (Vs g n cap) 54 7 (zK l)] [] ⟨w0,[g]⟩ a w:=hJ.tw
  refine rk' hJ false 9 [] [] (.k (.ops [0,1] 2) [.seq [1,1]] [0,1] [(8,Vs g n cap),(9,.func (.func 36) #[] #[Vp b])]) ?_
  clear hJ a w; intro a w hJ
  refine x_callq hJ 10 (hI _ (hJ.j.rowQ (v:=Vs g n cap) (e:=54) (k:=7) (l:=zK l) 0 rfl) (hb.sees hJ.j.seesQ)) (fun _=>by kernel_rfl) ?_; clear hJ a w; intro h1 a w s2 hJ
  refine rk' hJ false 19 [] [] (.k (.out .ret) [] [] [(4,Vs g n cap)]) ?_
  clear hJ a w; intro a w hJ
  refine gY (hQ (k:=n) (r:=zK l) [Vs g n cap] hJ s2 (.rtm hJ.j .nil) (List.mem_of_getElem? (i:=0) rfl) (rfl) (Nat.le_refl _) (List.take_of_length_le (by rw [List.length_map]; omega))).1
 ·obtain ⟨i,x,hx,hxn,huniq⟩:∃ (i:Nat) (x:ByteArray × Vl),l[i]?=some x∧(x.1.toList == nm.toList)=true∧∀ (j:Nat) (y:ByteArray × Vl),j≠i→l[j]?=some y→(y.1.toList == nm.toList)=false:=del_at hd hsome
  have hil:=(List.getElem?_eq_some_iff.1 hx).1
  have hfi:fidx (fun y:ByteArray × Vl=>y.1.toList == nm.toList) l=(i:Int):=eQ _ l i x (fun y hy=>by
   obtain ⟨u,hu1,hu2⟩:=List.mem_take_iff_getElem.1 hy
   exact huniq u y (by omega) (List.getElem?_eq_some_iff.2 ⟨_,hu2⟩)) hx hxn
  rw [hfi] at hI
  have hel:(l.eraseIdx i).length=n - 1:=by rw [List.length_eraseIdx,if_pos hil,hn]
  rw [del_some hx hxn huniq,hel]
  refine x_conL Tryz.func31 (c:=Tryz.f31.body.getD .skip) (by kernel_rfl) (N:=42) rfl (by kernel_rfl) ?_
  intro Q hQ a w hJ
  replace hJ:K ⟨42,cutW w0 g,[],[]⟩ [(0,Vs g n cap),(1,.func (.func 36) #[] #[Vp b])] [.row (Vs g n cap) 54 7 (zK l)] [] ⟨w0,[g]⟩ a w:=hJ.tw
  refine rk' hJ false 9 [] [] (.k (.ops [0,1] 2) [.seq [1,1]] [0,1] [(8,Vs g n cap),(9,.func (.func 36) #[] #[Vp b])]) ?_
  clear hJ a w; intro a w hJ
  refine x_callq hJ 10 (hI _ (hJ.j.rowQ (v:=Vs g n cap) (e:=54) (k:=7) (l:=zK l) 0 rfl) (hb.sees hJ.j.seesQ)) (fun _=>by kernel_rfl) ?_; clear hJ a w; intro h1 a w s2 hJ
  refine rk' hJ false 10 [] [] (.k (.code [1,0,1,1]) [.seq [1,1,1]] [0,1] [(5,Vi (i:Int)),(12,.bool ((i:Int) == -1))]) ?_
  clear hJ a w; intro a w hJ
  refine iY hJ (t:=(i:Int) == -1) ((beq_eq_false_iff_ne.2 (by omega))) ?_
  refine rk' hJ false 11 [] [(15,Vi (IntKind.i64.wrap ((i:Int) + 1)),Vi ((i:Int) + 1))] (.k (.code [0,1,0,1,1,1]) [.block 0,.seq [1,1,1,1]] [0,1,5] [(6,Vi ((i:Int) + 1))]) (hc:=And.intro (kJ (by omega) (by omega)) (trivial)) ?_
  clear hJ a w; intro a w hJ
  rw [show zK l=zK (shL l i i) by rw [shL_zero]] at hJ
  refine kY (fun (k:Nat) a w=>∃ (h3:Vw) ,K ⟨42,cutW w0 g,[],[]⟩ [(0,Vs g n cap),(1,.func (.func 36) #[] #[Vp b]),(5,Vi (k:Int)),(6,Vi ((k:Int) + 1))] [.row (Vs g n cap) 54 7 (zK (shL l i k))] [] h3 a w∧Sees h1 h3∧(i≤k)∧(k < n)) (fun k=>n - k) (i) ⟨h1,hJ.tw,Sees.refl _,Nat.le_refl _,by omega⟩ ?_
  clear hJ a w; rintro k a w ⟨h3,hJ,s4,hik,hkn⟩
  refine rk' hJ false 9 [] [] (.k (.code [1,0,0,0,1,0,1,1,1]) [.seq [1,0,0,1,0,1,1,1]] [0,1,5,6] [(19,.bool (decide (((k:Int) + 1) < (n:Int))))]) ?_
  clear hJ a w; intro a w hJ
  rcases (by omega:k + 1 < n∨k + 1=n) with hlt | hke
  ·obtain ⟨y,hy⟩:∃ y,l[k + 1]?=some y:=⟨_,List.getElem?_eq_getElem (by omega)⟩
   obtain ⟨z,hz⟩:∃ y,l[k]?=some y:=⟨_,List.getElem?_eq_getElem (by omega)⟩
   have hr1:(zK (shL l i k))[k + 1]?=some (fcRow y):=by rw [List.getElem?_map,shL_get hil (by omega) (by omega),hy]; rfl
   have hr2:(zK (shL l i k))[k]?=some (fcRow z):=by rw [List.getElem?_map,shL_get hil (by omega) (by omega),hz]; rfl
   have hyn:=huniq (k + 1) y (by omega) hy
   have hss:=shL_succ hik hy
   refine qY hJ (t:=decide (((k:Int) + 1) < (n:Int))) (decide_eq_true (by omega)) ?_
   refine rk' hJ false 9 [.ix g 0 n cap (k + 1)] [] (.k (.ops [0,0,0,1,0,0,1,0,1,1,1] 3) [.seq [1,0,0,1,0,0,1,0,1,1,1],.block 1,.seq [1,1,0,0,1,0,1,1,1]] [0,1,5,6] [(24,.pointer (some ⟨g,0 + (k + 1) * 7,none⟩))]) (ho:=And.intro (by first | omega | (simp; omega)) (trivial)) ?_
   clear hJ a w; intro a w hJ
   refine x_rowget hJ 25 0 (k + 1) 0 (g:=g) (m:=n) (cap:=cap) (kk:=7) (e:=54) (l:=zK (shL l i k)) (r:=[.string y.1,Vi 0,Vi 0,Ve,Vi y.2.k,Vi y.2.n,.string y.2.s]) (t:=54) (x:=(.tmp 24)) (u:=.agg #[.string y.1,Vi 0,Vi 0,Ve,Vi y.2.k,Vi y.2.n,.string y.2.s]) (by kernel_rfl) (by kernel_rfl) (by kernel_rfl) (by kernel_rfl) (hr1) (by kernel_rfl) ?_; clear hJ a w; intro a w hJ
   refine rk hJ false 12 [.own,.b 0 0,.b 0 0,.cl 36 #[.agg #[.string y.1,Vi 0,Vi 0,Ve,Vi y.2.k,Vi y.2.n,.string y.2.s],Vp b] (.bool (y.1.toList == nm.toList))] [] (.new fun b5=>.m (.code [1,1,0,0,1,0,0,1,0,1,1,1]) [.block 1,.seq [1,1,0,0,1,0,1,1,1]] [0,1,5,6] [(7,Vp b5),(29,.bool (!(y.1.toList == nm.toList)))] [.box b5 [.string y.1,Vi 0,Vi 0,Ve,Vi y.2.k,Vi y.2.n,.string y.2.s],.row (Vs g n cap) 54 7 (zK (shL l i k))] []) (And.intro (fun H sH=>hc y _ (hb.sees (s2.trans (s4.trans sH)))) (trivial)) trivial (fun b5 _=>by kernel_rfl) ?_
   clear hJ a w; intro b5 a w hJ
   refine qY hJ (t := !(y.1.toList == nm.toList)) ((by rw [hyn]; rfl)) ?_
   refine rx' hJ false 6 [.b 0 0,.ix g 0 n cap k] [] (.ok (.ops [0,0,1,1,0,0,1,0,0,1,0,1,1,1] 4) [.seq [1,0,1,1,0,0,1,0,0,1,0,1,1,1],.block 1,.seq [1,1,0,0,1,0,1,1,1]] [(0,Vs g n cap),(1,.func (.func 36) #[] #[Vp b]),(5,Vi (k:Int)),(6,Vi ((k:Int) + 1)),(32,.agg #[.string y.1,Vi 0,Vi 0,Ve,Vi y.2.k,Vi y.2.n,.string y.2.s]),(33,.pointer (some ⟨g,0 + k * 7,none⟩))] [.box b5 [.string y.1,Vi 0,Vi 0,Ve,Vi y.2.k,Vi y.2.n,.string y.2.s],.row (Vs g n cap) 54 7 (zK (shL l i k))] []) (ho:=And.intro (by first | omega | (simp; omega)) (trivial)) (fun _=>by kernel_rfl) ?_
   clear hJ a w; intro a w hJ
   refine x_rowset hJ 1 k 0 (g:=g) (m:=n) (cap:=cap) (kk:=7) (e:=54) (l:=zK (shL l i k)) (r:=[.string z.1,Vi 0,Vi 0,Ve,Vi z.2.k,Vi z.2.n,.string z.2.s]) (t:=54) (x:=(.tmp 33)) (y:=(.tmp 32)) (u:=.agg #[.string y.1,Vi 0,Vi 0,Ve,Vi y.2.k,Vi y.2.n,.string y.2.s]) (by kernel_rfl) (by kernel_rfl) (by kernel_rfl) (by kernel_rfl) (by kernel_rfl) (hr2) (by kernel_rfl) ?_; clear hJ a w; intro a w hJ
   replace hJ:K ⟨42,cutW w0 g,[],[]⟩ [(0,Vs g n cap),(1,.func (.func 36) #[] #[Vp b]),(5,Vi (k:Int)),(6,Vi ((k:Int) + 1)),(32,.agg #[.string y.1,Vi 0,Vi 0,Ve,Vi y.2.k,Vi y.2.n,.string y.2.s]),(33,.pointer (some ⟨g,0 + k * 7,none⟩))] [.box b5 [.string y.1,Vi 0,Vi 0,Ve,Vi y.2.k,Vi y.2.n,.string y.2.s],.row (Vs g n cap) 54 7 ((zK (shL l i k)).set k [.string y.1,Vi 0,Vi 0,Ve,Vi y.2.k,Vi y.2.n,.string y.2.s])] [] h3 a w:=hJ.tw
   refine rk' hJ false 14 [] [(35,Vi (IntKind.i64.wrap ((k:Int) + 1)),Vi ((k:Int) + 1)),(21,Vi (IntKind.i64.wrap (((k:Int) + 1) + 1)),Vi (((k:Int) + 1) + 1))] (.k (.out .normal) [] [0,1] [(5,Vi ((k:Int) + 1)),(6,Vi (((k:Int) + 1) + 1))]) (hc:=And.intro (kJ (by omega) (by omega)) (And.intro (kJ (by omega) (by omega)) (trivial))) ?_
   clear hJ a w; intro a w hJ
   replace hJ:=hJ.drop 0
   exact pY ⟨k + 1,⟨h3,hJ.to (by kernel_rfl) (by rw [← hss]; simp [zK]) rfl,s4,by omega,by omega⟩,by omega⟩
  ·skip
   obtain ⟨z,hz⟩:∃ y,l[k]?=some y:=⟨_,List.getElem?_eq_getElem (by omega)⟩
   have hr2:(zK (shL l i k))[k]?=some (fcRow z):=by rw [List.getElem?_map,shL_get hil (by omega) (by omega),hz]; rfl
   refine iY hJ (t:=decide (((k:Int) + 1) < (n:Int))) (decide_eq_false (by omega)) ?_
   refine rk' hJ false 2 [] [] (.k (.out (.exit 0)) [] [0,5] []) ?_
   clear hJ a w; intro a w hJ
   refine jY rfl ?_
   refine rk' hJ false 6 [] [] (.k (.ops [0,1,1,1,1] 2) [.seq [1,1,1,1,1]] [0,5] [(36,Vs g n cap),(37,Vi (k:Int))]) ?_
   clear hJ a w; intro a w hJ
   refine x_pure hJ 38 (.slice (some ⟨g,0 + k * 7,none⟩) 1 (cap - k)) (by kernel_rfl) (fun w=>run_lo1 (t:=28) (e:=54) (x:=.tmp 36) (y:=.tmp 37) (g:=g) (n:=n) (cap:=cap) (k:=k) (kk:=7) (by kernel_rfl) (by kernel_rfl) (by kernel_rfl) hke.symm hcap Tryz.underlying28 (by kernel_rfl)) ?_; clear hJ a w; intro a w hJ
   refine x_clear1 hJ 0 (k) (c:=(cap - k)) (g:=g) (m:=n) (cap:=cap) (kk:=7) (e:=54) (l:=zK (shL l i k)) (te:=54) (t:=28) (r:=[.string z.1,Vi 0,Vi 0,Ve,Vi z.2.k,Vi z.2.n,.string z.2.s]) (zs:=[Ve,Vi 0,Vi 0,Ve,Vi 0,Vi 0,Ve]) (y:=(.tmp 38)) (z:=.agg #[Ve,Vi 0,Vi 0,Ve,Vi 0,Vi 0,Ve]) (by kernel_rfl) (by kernel_rfl) (by kernel_rfl) (by kernel_rfl) (hr2) Tryz.underlying28 (fun _=>by kernel_rfl) (by kernel_rfl) (by simp [Value.oneCell']) rfl ?_; clear hJ a w; intro a w hJ
   replace hJ:K ⟨42,cutW w0 g,[],[]⟩ [(0,Vs g n cap),(5,Vi (k:Int)),(36,Vs g n cap),(37,Vi (k:Int)),(38,.slice (some ⟨g,0 + k * 7,none⟩) 1 (cap - k))] [.row (Vs g n cap) 54 7 ((zK (shL l i k)).set (k) [Ve,Vi 0,Vi 0,Ve,Vi 0,Vi 0,Ve])] [] h3 a w:=hJ.tw
   refine rk' hJ false 6 [] [] (.k (.ops [0,1,1,1,1,1] 2) [.seq [1,1,1,1,1,1]] [] [(39,Vs g n cap),(40,Vi (k:Int))]) ?_
   clear hJ a w; intro a w hJ
   refine x_pure hJ 41 (Vs g k cap) (by kernel_rfl) (fun w=>run_hi (t:=28) (e:=54) (x:=(.tmp 39)) (y:=(.tmp 40)) (A:=(some ⟨g,0,none⟩)) (n:=n) (cap:=cap) (k:=k) (kk:=7) (by kernel_rfl) (by kernel_rfl) (by kernel_rfl) ((by omega)) Tryz.underlying28 (by kernel_rfl)) ?_; clear hJ a w; intro a w hJ
   refine rk' hJ false 4 [] [] (.k (.out .ret) [] [] [(4,Vs g k cap)]) ?_
   clear hJ a w; intro a w hJ
   refine gY (hQ (k:=n) (r:=(zK (shL l i k)).set (k) [Ve,Vi 0,Vi 0,Ve,Vi 0,Vi 0,Ve]) [Vs g k cap] hJ (s2.trans s4) (.rtm hJ.j .nil) (List.mem_of_getElem? (i:=0) rfl) ((by rw [show n - 1=k by omega]; rfl)) ((by omega)) ((by rw [show n - 1=k by omega,List.take_set_of_le (Nat.le_refl _),← List.map_take,shL_take hik (by omega)]))).1
theorem delFunc_nil (b:Nat) (h:Vw):C0 Tryz.prog 31 #[.slice none 0 0,.func (.func 36) #[] #[.pointer (some ⟨b,0,none⟩)]] h (fun r _=>r=.slice none 0 0):=by
 have hI:∀ H:Vw,C0 Tryz.prog 68 #[.slice none 0 0,.func (.func 36) #[] #[.pointer (some ⟨b,0,none⟩)]] H (fun r _=>r=.int .i64 (-1)):=by
  intro h
  refine fY Tryz.func68 (c:=Tryz.f68.body.getD .skip) (N:=19) ?_
  intro hbx hbad Q hQ a w hJ
  refine rk' hJ false 14 [] [] (.k (.code [0,1,0,1]) [.block 0,.seq [1,1]] [0,1] [(7,Vi 0),(8,Vi 0)]) ?_
  clear hJ a w; intro a w hJ
  refine kY (fun (k:Nat) a w=>∃ (h1:Vw) ,K ⟨19,h.w,h.bad,[]⟩ [(0,Vz),(1,.func (.func 36) #[] #[Vp b]),(7,Vi 0),(8,Vi ((0:Nat):Int))] [] [] h1 a w∧Sees h h1∧(k=0)) (fun k=>k) (0) ⟨h,hJ.tw,Sees.refl _,rfl⟩ ?_
  clear hJ a w; rintro k a w ⟨h1,hJ,s2,hk⟩
  refine rk' hJ false 6 [] [] (.k (.code [0,1,0,0,1,0,1]) [.seq [1,1,0,0,1,0,1]] [0,1,7,8] [(9,.bool (decide (((0:Nat):Int) < 0)))]) ?_
  clear hJ a w; intro a w hJ
  refine iY hJ (t:=decide (((0:Nat):Int) < 0)) (rfl) ?_
  refine rx' hJ false 2 [] [] (.ok (.out (.exit 0)) [] [] [] []) (fun _=>by kernel_rfl) ?_
  clear hJ a w; intro a w hJ
  refine jY rfl ?_
  refine rx' hJ false 8 [] [] (.ok (.out .ret) [] [(4,Vi (-1))] [] []) (fun _=>by kernel_rfl) ?_
  clear hJ a w; intro a w hJ
  refine gY (hQ [Vi (-1)] _ [] hJ (.rtm hJ.j .nil) (fJ _) rfl ?_).1
  exact rfl
 refine fY Tryz.func31 (c:=Tryz.f31.body.getD .skip) (N:=42) ?_
 intro hbx hbad Q hQ a w hJ
 refine rx' hJ false 29 [.cl 68 #[Vz,.func (.func 36) #[] #[Vp b]] (Vi (-1))] [] (.ok (.out .ret) [] [(4,Vz)] [] []) (ho:=And.intro (fun H sH=>hI _) (trivial)) (fun _=>by kernel_rfl) ?_
 clear hJ a w; intro a w hJ
 refine gY (hQ [Vz] _ [] hJ (.rtm hJ.j .nil) (fJ _) rfl ?_).1
 exact rfl
theorem delFunc_v (nm:ByteArray) (l:Env) (H:Vw) (A:Option Addr) (n cap b:Nat) (cs:List Value) (hl:l.length≤1000000) (hd:(l.map (·.1)).Nodup) (hb:Cells H b 0 cs) (hbd:∀ b,(Value.slice A n cap).ownBlock=some b→b∈H.bad)
  (hc:∀ (p:ByteArray × Vl) H,Cells H b 0 cs→C0 Tryz.prog 36 #[.agg #[.string p.1,.int .i64 0,.int .i64 0,.string ⟨#[]⟩,.int .i64 p.2.k,.int .i64 p.2.n,.string p.2.s],.pointer (some ⟨b,0,none⟩)] H (fun r _=>r=.bool (p.1.toList == nm.toList))) :
  CDelV Tryz.prog 31 #[.slice A n cap,.func (.func 36) #[] #[.pointer (some ⟨b,0,none⟩)]] H.w (.slice A n cap) 54 7 (zK l) (.slice A (delN nm l).length cap) (zK (delN nm l)):=by
 intro base hok
 have hn:n=l.length:=by
  obtain ⟨A',c',e',-⟩:=dX hok
  simp only [Value.slice.injEq] at e'
  rw [e'.2.1,List.length_map]
 rcases row_cases hok with ⟨e,e2⟩ | ⟨g,c',e,hcap⟩
 ·simp only [Value.slice.injEq] at e
  obtain ⟨rfl,rfl,rfl⟩:=e
  have hl0:l=[]:=List.length_eq_zero_iff.1 hn.symm
  subst hl0
  refine Calls.mono (delFunc_nil b ⟨H.w,[]⟩ (by intro x hx; cases hx) (by simp) (by simp) (by intro b hb; cases hb)) ?_
  rintro en w' ⟨v,Bo,rfl,hlo,-,-,rfl⟩
  exact ⟨rfl,hlo,⟨⟨rfl,.inl ⟨rfl,rfl⟩⟩,fun r hr=>by cases hr⟩⟩
 ·simp only [Value.slice.injEq] at e
  obtain ⟨rfl,-,rfl⟩:=e
  exact delFunc_any nm l H.w g n cap b cs hn (by omega) (by rw [hn]; rw [List.length_map] at hcap; exact hcap) hd (hb.sees ((Sees.refl H).less fun x hx=>by rw [List.mem_singleton.1 hx]; exact hbd g rfl)) hc base hok
set_option maxHeartbeats 8000000 in
theorem deltaBack_c (l m:List RawD) (r:RawD) (i:Int) (sl sm:Value) (h:Vw) (hl:RS h 4 sl (l.map RawD.cs)) (hm:RS h 4 sm (m.map RawD.cs)) (ll:l.length * 40≤reachBytes) (lm:m.length * 40≤reachBytes) (ol:∀ r∈l,r.ok) (om:∀ r∈m,r.ok) (hr:r.ok)
  (i0 : -9223372036854775808≤i) (i1:i≤9223372036854775807):C0 Tryz.prog 10 #[sl,sm,.agg #[.int .i64 r.k,.int .i64 r.a,.int .i64 r.b,.string r.t],.int .i64 i] h (fun v _=>v=.bool true):=by
 have hF:=form_c l sl
 have hlen:=nQ l
 have hnl:=mV l
 have hty:=form_ty l
 have hnd:=oQ l
 have nilO:∀ (A:Option Addr) (n c:Nat) (B:Option Addr) (m d:Nat) (H':Vw) (so:Value),RS H' 7 so (vJ [])→C0 Tryz.prog 91 #[.agg #[.slice A n c,.slice B m d],so] H' (fun r _=>r=.int .i64 0):=fun A n c B m d H' so q=>oracle_nil _ _ _ _ _ _ _ H' q
 have noE:∀ p∈([]:List Aw),OkV p.has:=fun p hp=>by cases hp
 have hA:=fun A c B d si H q1 q2=>all_form l m [] A c B d si (.slice none 0 0) H q1 q2 (RS.nil H 7) (Nat.zero_le _) noE (fun H' _ q=>nilO _ _ _ _ _ _ _ _ q)
 obtain ⟨hS,oko⟩:=allF_sol l m (orc:=[]) noE
 have hI:=inp_ok l m
 have k0:=inp_told (l:=m) (oQ l)
 have a0:=oW i ((mQ l).fields.length:Int) (by omega)
 have a1:=nW i ((mQ l).fields.length:Int) (by omega)
 have hpk:=fun H=>cK i ((mQ l).fields.length:Int) H i0 i1 (by omega) (by omega)
 obtain ⟨p,ep⟩:∃ k:Nat,cJ i ((mQ l).fields.length:Int)=k:=⟨(cJ i ((mQ l).fields.length:Int)).toNat,by omega⟩
 rw [ep] at hpk a0 a1
 obtain ⟨x,hx⟩:∃ x,(mQ l).fields[p]?=some x:=⟨_,List.getElem?_eq_getElem (by omega)⟩
 obtain ⟨t1,t3⟩:=hty x (List.mem_of_getElem? hx)
 have hfx:=iQ hnd hx
 have hV:∀ H,C0 Tryz.prog 34 #[.int .i64 x.ty,.agg #[.int .i64 r.k,.int .i64 r.a,.int .i64 r.b,.string r.t]] H (fun v _=>v=(valR x.ty r).val):=fun H=>c_value x.ty r H t1 t3 hr
 have hfew:=hI.few
 have hva:=hS.len
 have hin:=fun H fv pv q1 q2 q3=>inputs_any (mQ l).fields pv fv m sm H q1 q2 (by omega) hty q3 lm om
 have hR:=fun inp old li ki ti hol oko A c B d si sv H q1 q2 q3=>delF_any l inp [] old x.name A c B d si (.slice none 0 0) sv H q1 q2 li ki ti (RS.nil H 7) (Nat.zero_le _) noE q3 hol oko p hfx (fun H' _ q=>nilO _ _ _ _ _ _ _ _ q)
 have hcl:=fun H v q=>c_cloneFc (h:=H) (v:=v) (l:=inpE (mQ l).fields m) q (by omega)
 have hdf:=fun H A n cap b Au nu cu q2 q3=>delFunc_v x.name (inpE (mQ l).fields m) H A n cap b [.string x.name,.int .i64 x.kind,.int .i64 x.ty,.int .i64 x.src.op,.int .i64 x.src.k,.int .i64 x.src.n,.string x.src.s,.string x.src.nm,.slice Au nu cu] (by omega) hI.once q2 q3 (fun p' H' q=>delC_any x Au nu cu p' b H' q)
 have hvk:(valR x.ty r).known:=valR_known x.ty r t1 t3
 have hnow:x.kind=1→∃ v1,(∀ q∈nowE x.name (valR x.ty r) (inpE (mQ l).fields m),q.2.known)∧vK (mQ l).fields [] (nowE x.name (valR x.ty r) (inpE (mQ l).fields m))=0∧(nowE x.name (valR x.ty r) (inpE (mQ l).fields m)).length≤1000 ∧
   v1=delF l (nowE x.name (valR x.ty r) (inpE (mQ l).fields m)) [] (allF l m []) x.name∧v1.length=(mQ l).fields.length∧(∀ y∈v1,OkV y)∧delF l (inpE (mQ l).fields m) [] v1 x.name=allF l m []:=fun h1=>by
  obtain ⟨n1,n2⟩:=now_ok hnd k0 hI.known hI.once hx h1 hvk rfl
  have n3:=now_len x.name (valR x.ty r) (inpE (mQ l).fields m)
  obtain ⟨s1,o1⟩:=delF_sol l (nm:=x.name) n1 noE hS oko (fun f _ hne=>now_tell hne _)
  obtain ⟨s2,o2⟩:=delF_sol l (nm:=x.name) hI.known noE s1 o1 (fun f _ hne=>(now_tell hne _).symm)
  exact ⟨_,n1,n2,by omega,rfl,s1.len,o1,sol_one (form_okFm l).fields (form_ranked l) s2 hS⟩
 clear hS
 generalize allF l m []=va at *
 generalize mQ l=fm at *
 generalize inpE fm.fields m=env at *
 obtain ⟨A0,c0,rfl,-,-,-⟩:=hl.form
 obtain ⟨A1,c1,rfl,-,-,-⟩:=hm.form
 rw [List.length_map] at *
 rw [List.length_map] at *
 have erl:(zK env).length=env.length:=List.length_map _
 generalize hN:fm.fields.length=N at *
 refine fY Tryz.func10 (c:=Tryz.f10.body.getD .skip) (N:=94) ?_
 intro hbx hbad Q hQ a w hJ
 refine rk' hJ false 9 [.own] [] (.new fun b1=>.m (.ops [0,1] 1) [.seq [1,1]] [1,3] [(6,Vp b1),(21,.slice A0 l.length c0)] [.box b1 [Vi r.k,Vi r.a,Vi r.b,.string r.t]] []) (hr:=fun b1 _=>by kernel_rfl) ?_
 clear hJ a w; intro b1 a w hJ
 refine dY hJ 22 (hF _ (hl.sees hJ.j.sees) ll ol) (fun _=>by kernel_rfl) ?_; clear hJ a w; rintro _ h2 a w s3 ⟨A,c,B,d,rfl,hfm⟩ hJ
 refine rk' hJ false 8 [.own,.b 0 0,.b 0 0] [] (.new fun b4=>.m (.ops [0,1,1] 2) [.seq [1,1,1]] [3,6] [(9,Vp b4),(23,.agg #[.slice A N c,.slice B fm.pages.length d]),(24,.slice A1 m.length c1)] [.box b4 [.slice A N c,.slice B fm.pages.length d],.box b1 [Vi r.k,Vi r.a,Vi r.b,.string r.t]] []) (hr:=fun b4 _=>by kernel_rfl) ?_
 clear hJ a w; intro b4 a w hJ
 refine x_callrow hJ 25 (hin _ _ (.slice B fm.pages.length d) ((hfm.sees hJ.j.sees)).fields rfl (hm.sees (s3.trans hJ.j.sees))) (fun _=>by kernel_rfl) ?_; clear hJ a w; rintro v _ a w rfl hJ
 refine rk' hJ false 7 [.b 1 0] [] (.k (.ops [0,1,1,1] 2) [.seq [1,1,1,1]] [3,6,9] [(10,v),(27,.agg #[.slice A N c,.slice B fm.pages.length d]),(28,v)]) ?_
 clear hJ a w; intro a w hJ
 obtain ⟨Av,cv,hE_v,hc_v,hm_v⟩:=hJ.form (v:=v) (e:=54) (k:=7) (l:=zK env) 0 (by kernel_rfl)
 rw [show (zK env).length=env.length from by first | omega | (simp; done) | (simp; omega)] at hE_v hc_v
 rw [hE_v] at hJ
 obtain ⟨h5,s6,fin,hJn⟩:=hJ.frozen (v:=.slice Av env.length cv) (e:=54) (k:=7) (l:=zK env) 0 (by kernel_rfl) (hJ.j.rowOut0 (v:=.slice Av env.length cv) (e:=54) (k:=7) (l:=zK env) 0 (by kernel_rfl) rfl); clear hJ; have hJ:=hJn; clear hJn
 refine dY hJ 29 (hA _ _ _ _ _ _ (hfm.sees (s6.trans hJ.j.sees)) (fin.sees hJ.j.sees)) (fun _=>by kernel_rfl) ?_; clear hJ a w; rintro _ h7 a w s8 ⟨A2,c2,rfl,hva2⟩ hJ
 refine rk' hJ false 10 [] [] (.k (.ops [0,0,1,1,1,1] 0) [.seq [1,0,1,1,1,1],.seq [1,1,1,1,1]] [3,6,9,10] [(11,.slice A2 N c2),(12,Vi 0)]) ?_
 clear hJ a w; intro a w hJ
 obtain ⟨vs,A3,c3,e3,-,-,hr3,hs3,hl3,hsl⟩:=dQ hfm.fields
 simp only [Value.slice.injEq] at e3
 obtain ⟨rfl,-,rfl⟩:=e3
 rw [hN] at hr3 hl3
 obtain ⟨u,hu⟩:∃ u,vs[p]?=some u:=⟨_,List.getElem?_eq_getElem (by omega)⟩
 have hrow:=bQ hx hu
 obtain ⟨Au,nu,cu,rfl⟩:=(AllArgs.get hs3 (x:=x.src) (by rw [List.getElem?_map,hx]; rfl) hu).slice
 refine rk' hJ false 12 [.cl 19 #[] (.bool true)] [] (.k (.code [0,1,1,1,1,1]) [.seq [1,1,1,1,1,1]] [3,6,9,10,11] []) (ho:=And.intro (fun H sH=>known_any _) (trivial)) ?_
 clear hJ a w; intro a w hJ
 obtain ⟨b9,o10,rfl,-,c11⟩:=RS.row hr3 (hrow)
 replace hJ:=hJ.fact (c11.sees (s6.trans s8))
 let R:Reg:=⟨⟨94,h.w,h.bad,[]⟩,[(0,38,fun gh=>Vp b4),(1,39,fun gh=>.slice (some ⟨b9,o10,none⟩) N c),(2,40,fun gh=>Vi i),(3,41,fun gh=>Vp b4),(4,42,fun gh=>.slice (some ⟨b9,o10,none⟩) N c),(5,43,fun gh=>Vi (N:Int)),(6,44,fun gh=>Vi (p:Int)),(7,45,fun gh=>.pointer (some ⟨b9,o10 + p * 9,none⟩)),(8,46,fun gh=>.agg #[.string x.name,Vi x.kind,Vi x.ty,Vi x.src.op,Vi x.src.k,Vi x.src.n,.string x.src.s,.string x.src.nm,.slice Au nu cu]),(9,13,fun gh=>.pointer (some ⟨(zJ (gh 9)),0,none⟩))],[(3,Vi i),(6,Vp b1),(9,Vp b4),(10,.slice Av env.length cv),(11,.slice A2 N c2)],[⟨none,[(9,fun gh=>.box (zJ (gh 9)) [Ve,Vi 0,Vi 0,Vi 0,Vi 0,Vi 0,Ve,Ve,Vz]),(10,fun gh=>.box (zJ (gh 9)) [.string x.name,Vi x.kind,Vi x.ty,Vi x.src.op,Vi x.src.k,Vi x.src.n,.string x.src.s,.string x.src.nm,.slice Au nu cu])]⟩,⟨some (.box b4 [.slice (some ⟨b9,o10,none⟩) N c,.slice B fm.pages.length d]),[]⟩,⟨some (.box b1 [Vi r.k,Vi r.a,Vi r.b,.string r.t]),[]⟩],[],[[],[0],[],[],[3],[3,4],[2,3,4,5],[0,1,2,3,4,5,6],[0,1,2,3,4,5,6,7],[],[0,1,2,3,4,5,6,7,8,9]],h7⟩
 have hmono:∀ zq∈R.F,∀ zx zh zi,Sees zh zi→zq.2 zx zh→zq.2 zx zi:=lJ
 refine oY (by kernel_rfl) R hJ 11 [.pu,.ld 1 0,.pu,.pu,.ld 1 0,.pu,.cl,.cl,.lf 0 0,.al 0,.st 0 0] (by kernel_rfl) hmono (fun _ _ _=>by kernel_rfl) (fun hT hA=>?_) ?_
 ·clear hJ
  refine And.intro (rW hT hA hmono 44 (fun gh=>Vi (p:Int)) [2,5] 6 24 (fun gh=>#[Vi i,Vi (N:Int)]) (fun gh H sH fH lent=>hpk _)) ?_
  refine And.intro (sW hT hA 45 (fun gh=>.pointer (some ⟨b9,o10 + p * 9,none⟩)) [1,6] 7 (fun gh w=>jX (t:=23) (x:=(.tmp 39)) (y:=(.tmp 44)) (b:=b9) (off:=o10) (n:=N) (cap:=c) (k:=p) (e:=43) (kk:=9) (by kernel_rfl) (by kernel_rfl) (by kernel_rfl) (by first | omega | (simp; omega)) Tryz.underlying23 (by kernel_rfl))) ?_
  trivial
 clear hJ a w; intro gh h13 a w sR hJ1 hF; have s14:Sees h7 h13:=sR; clear sR
 have hJ:K ⟨94,h.w,h.bad,[]⟩ [(6,Vp b1),(9,Vp b4),(10,.slice Av env.length cv),(11,.slice A2 N c2),(13,.pointer (some ⟨(zJ (gh 9)),0,none⟩))] [.box (zJ (gh 9)) [.string x.name,Vi x.kind,Vi x.ty,Vi x.src.op,Vi x.src.k,Vi x.src.n,.string x.src.s,.string x.src.nm,.slice Au nu cu],.box b4 [.slice (some ⟨b9,o10,none⟩) N c,.slice B fm.pages.length d],.box b1 [Vi r.k,Vi r.a,Vi r.b,.string r.t]] [(b9,o10 + p * 9,[.string x.name,Vi x.kind,Vi x.ty,Vi x.src.op,Vi x.src.k,Vi x.src.n,.string x.src.s,.string x.src.nm,.slice Au nu cu])] h13 a w:=hJ1.tw
 clear hJ1 hF hmono R
 generalize zJ (gh 9)=b12 at *
 clear gh
 refine rk' hJ false 9 [.b 0 1] [] (.k (.code [1,0,1,1,1,1,1,1]) [.seq [1,1,1,1,1,1,1]] [6,9,10,11,13] [(49,.bool (x.kind != 1))]) ?_
 clear hJ a w; intro a w hJ
 by_cases g:x.kind=1
 ·obtain ⟨v1,n1,n2,n3,e1,l1,o1,e2⟩:=hnow g
  have hR1:=fun A c B d si H q1 q2 q3=>hR _ va n3 n1 n2 hva oko A c B d si (.slice A2 N c2) H q1 q2 q3
  rw [← e1] at hR1
  have hdl:(delN x.name env).length≤env.length:=List.length_filter_le _ _
  have hsn:=fcRows_snoc (delN x.name env) (x.name,valR x.ty r)
  have hnw:delN x.name env++[(x.name,valR x.ty r)]=nowE x.name (valR x.ty r) env:=rfl
  rw [hnw] at hsn
  generalize nowE x.name (valR x.ty r) env=now at *
  generalize valR x.ty r=nv at *
  generalize delN x.name env=dn at *
  have hdr:(zK dn).length=dn.length:=List.length_map _
  obtain ⟨h15,s16,hbx,hJn⟩:=hJ.frozenB 0 (b:=b12) (cs:=[.string x.name,Vi x.kind,Vi x.ty,Vi x.src.op,Vi x.src.k,Vi x.src.n,.string x.src.s,.string x.src.nm,.slice Au nu cu]) (by kernel_rfl) rfl; clear hJ; have hJ:=hJn; clear hJn; replace hJ:=hJ.fact hbx
  replace hJ:K ⟨94,h.w,h.bad,[]⟩ [(6,Vp b1),(9,Vp b4),(10,.slice Av env.length cv),(11,.slice A2 N c2),(13,Vp b12),(49,.bool (x.kind != 1))] [.box b4 [.slice (some ⟨b9,o10,none⟩) N c,.slice B fm.pages.length d],.box b1 [Vi r.k,Vi r.a,Vi r.b,.string r.t]] [(b12,0,[.string x.name,Vi x.kind,Vi x.ty,Vi x.src.op,Vi x.src.k,Vi x.src.n,.string x.src.s,.string x.src.nm,.slice Au nu cu]),(b9,o10 + p * 9,[.string x.name,Vi x.kind,Vi x.ty,Vi x.src.op,Vi x.src.k,Vi x.src.n,.string x.src.s,.string x.src.nm,.slice Au nu cu])] h15 a w:=hJ.tw
  refine iY hJ (t:=x.kind != 1) ((by rw [bne_eq_false_iff_eq]; exact g)) ?_
  refine rk' hJ false 3 [] [] (.k (.code [0,1,1,1,1,1,1,1]) [.seq [1,1,1,1,1,1,1,1]] [6,9,10,11,13] []) ?_
  clear hJ a w; intro a w hJ
  let R:Reg:=⟨⟨94,h.w,h.bad,[]⟩,[(0,50,fun gh=>.slice Av env.length cv),(1,51,fun gh=>.slice (sA (gh 1)) (sN (gh 1)) (sC (gh 1))),(2,52,fun gh=>.func (.func 36) #[] #[Vp b12]),(3,53,fun gh=>.slice (sA (gh 1)) dn.length (sC (gh 1))),(4,54,fun gh=>Vp b12),(5,55,fun gh=>.string x.name),(6,56,fun gh=>.pointer (some ⟨b12,2,none⟩)),(7,57,fun gh=>Vi x.ty),(8,58,fun gh=>.agg #[Vi r.k,Vi r.a,Vi r.b,.string r.t]),(9,59,fun gh=>.agg #[Vi nv.k,Vi nv.n,.string nv.s]),(10,60,fun gh=>.agg #[.string x.name,Vi 0,Vi 0,Ve,Vi nv.k,Vi nv.n,.string nv.s]),(11,61,fun gh=>.slice (some ⟨(zJ (gh 11)),0,none⟩) 1 1),(12,62,fun gh=>.slice (sA (gh 12)) (sN (gh 12)) (sC (gh 12))),(13,14,fun gh=>.slice (sA (gh 12)) (sN (gh 12)) (sC (gh 12)))],[(6,Vp b1),(9,Vp b4),(10,.slice Av env.length cv),(11,.slice A2 N c2),(13,Vp b12)],[⟨none,[(1,fun gh=>.row (.slice (sA (gh 1)) (sN (gh 1)) (sC (gh 1))) 54 7 (zK env)),(3,fun gh=>.row (.slice (sA (gh 1)) dn.length (sC (gh 1))) 54 7 (zK dn)),(12,fun gh=>.row (.slice (sA (gh 12)) (sN (gh 12)) (sC (gh 12))) 54 7 ((zK dn)++[[.string x.name,Vi 0,Vi 0,Ve,Vi nv.k,Vi nv.n,.string nv.s]]))]⟩,⟨some (.box b4 [.slice (some ⟨b9,o10,none⟩) N c,.slice B fm.pages.length d]),[]⟩,⟨some (.box b1 [Vi r.k,Vi r.a,Vi r.b,.string r.t]),[]⟩],[(11,fun gh hh=>Cells hh (zJ (gh 11)) 0 [.string x.name,Vi 0,Vi 0,Ve,Vi nv.k,Vi nv.n,.string nv.s])],[[],[0],[],[0,1,2],[],[4],[],[6],[],[0,1,2,3,6,7,8],[0,1,2,3,4,5,6,7,8,9],[0,1,2,3,4,5,6,7,8,9,10],[0,1,2,3,4,5,6,7,8,9,10,11],[0,1,2,3,4,5,6,7,8,9,10,11,12]],h15⟩
  have hmono:∀ zq∈R.F,∀ zx zh zi,Sees zh zi→zq.2 zx zh→zq.2 zx zi:=jV (fun _ _ _ s c=>c.sees s) (lJ)
  refine oY (by kernel_rfl) R hJ 14 [.pu,.cl,.pu,.cl,.pu,.lf 0 0,.pu,.lf 0 2,.ld 2 0,.cl,.pu,.cl,.cl,.pu] (by kernel_rfl) hmono (fun _ _ _=>by kernel_rfl) (fun hT hA=>?_) ?_
  ·clear hJ
   refine And.intro (r_callown hT hA hmono ⟨fun _ _=>by kernel_rfl,fun _ _=>by kernel_rfl,fun _ _=>by kernel_rfl⟩ (by kernel_rfl) 51 (fun u=>.slice (sA u) (sN u) (sC u)) [0] 1 (by kernel_rfl) (fun _=>by kernel_rfl) 0 ⟨none,[(1,fun gh=>.row (.slice (sA (gh 1)) (sN (gh 1)) (sC (gh 1))) 54 7 (zK env)),(3,fun gh=>.row (.slice (sA (gh 1)) dn.length (sC (gh 1))) 54 7 (zK dn)),(12,fun gh=>.row (.slice (sA (gh 12)) (sN (gh 12)) (sC (gh 12))) 54 7 ((zK dn)++[[.string x.name,Vi 0,Vi 0,Ve,Vi nv.k,Vi nv.n,.string nv.s]]))]⟩ (by kernel_rfl) (by kernel_rfl) (by kernel_rfl) 54 7 (fun gh=>zK env) (fun _=>by kernel_rfl) (fun _=>by kernel_rfl) (fun _ _=>rfl) 32 (fun gh=>#[.slice Av env.length cv]) (fun _ _=>by kernel_rfl) (fun gh H sH fH=>hcl _ _ (fin.sees (s8.trans (s14.trans (s16.trans sH)))))) ?_
   refine And.intro (r_callset hT hA hmono 53 (fun gh=>.slice (sA (gh 1)) (sN (gh 1)) (sC (gh 1))) (fun gh=>.slice (sA (gh 1)) dn.length (sC (gh 1))) [1,2] 3 (by kernel_rfl) (by kernel_rfl) (fun _=>by kernel_rfl) 0 ⟨none,[(1,fun gh=>.row (.slice (sA (gh 1)) (sN (gh 1)) (sC (gh 1))) 54 7 (zK env)),(3,fun gh=>.row (.slice (sA (gh 1)) dn.length (sC (gh 1))) 54 7 (zK dn)),(12,fun gh=>.row (.slice (sA (gh 12)) (sN (gh 12)) (sC (gh 12))) 54 7 ((zK dn)++[[.string x.name,Vi 0,Vi 0,Ve,Vi nv.k,Vi nv.n,.string nv.s]]))]⟩ (by kernel_rfl) (by kernel_rfl) (by kernel_rfl) (kk:=7) (te:=54) (l:=zK env) (l':=zK dn) (fun _=>own_sl _ _ _ _ _) (fun _=>by kernel_rfl) (fun _=>by kernel_rfl) 31 (fun gh=>#[.slice (sA (gh 1)) (sN (gh 1)) (sC (gh 1)),.func (.func 36) #[] #[Vp b12]]) (fun _ _=>by kernel_rfl) (fun gh H sH fH bH=>hdf _ _ _ _ _ _ _ _ (hbx.sees sH) bH)) ?_
   refine And.intro (rW hT hA hmono 59 (fun gh=>.agg #[Vi nv.k,Vi nv.n,.string nv.s]) [3,7,8] 9 34 (fun gh=>#[Vi x.ty,.agg #[Vi r.k,Vi r.a,Vi r.b,.string r.t]]) (fun gh H sH fH lent=>hV _)) ?_
   refine And.intro (r_fact hT hA hmono ⟨fun _ _=>by kernel_rfl,fun _ _=>by kernel_rfl,fun _ _=>by kernel_rfl⟩ 61 (fun g=>Vs g 1 1) [10] 11 (by kernel_rfl) (by kernel_rfl) (fun _=>by kernel_rfl) (fun gh=>[.string x.name,Vi 0,Vi 0,Ve,Vi nv.k,Vi nv.n,.string nv.s]) 54 (fun _ _=>by kernel_rfl) (fun gh zb zH zc zj zq zhq zhe=>own_fact (i:=11) (k:=0) (f:=fun gh hh=>Cells hh (zJ (gh 11)) 0 [.string x.name,Vi 0,Vi 0,Ve,Vi nv.k,Vi nv.n,.string nv.s]) (by kernel_rfl) (by kernel_rfl) zc zj zq zhq zhe)) ?_
   refine And.intro (r_append hT hA hmono ⟨fun _ _=>by kernel_rfl,fun _ _=>by kernel_rfl,fun _ _=>by kernel_rfl⟩ (by kernel_rfl) 62 [3,9,11] 12 (by kernel_rfl) (fun _=>by kernel_rfl) 0 ⟨none,[(1,fun gh=>.row (.slice (sA (gh 1)) (sN (gh 1)) (sC (gh 1))) 54 7 (zK env)),(3,fun gh=>.row (.slice (sA (gh 1)) dn.length (sC (gh 1))) 54 7 (zK dn)),(12,fun gh=>.row (.slice (sA (gh 12)) (sN (gh 12)) (sC (gh 12))) 54 7 ((zK dn)++[[.string x.name,Vi 0,Vi 0,Ve,Vi nv.k,Vi nv.n,.string nv.s]]))]⟩ (by kernel_rfl) (by kernel_rfl) (by kernel_rfl) (fun gh=>.slice (sA (gh 1)) dn.length (sC (gh 1))) 28 54 7 (fun gh=>zK dn) (fun gh=>[[.string x.name,Vi 0,Vi 0,Ve,Vi nv.k,Vi nv.n,.string nv.s]]) (fun _=>by kernel_rfl) (fun _=>by kernel_rfl) (fun _ _=>by kernel_rfl) (.tmp 53) (.tmp 61) (by kernel_rfl) (by kernel_rfl) (fun gh=>(zJ (gh 11))) 1 1 (fun _=>by kernel_rfl) (fun _=>by kernel_rfl) 0 11 (fun gh hh=>Cells hh (zJ (gh 11)) 0 [.string x.name,Vi 0,Vi 0,Ve,Vi nv.k,Vi nv.n,.string nv.s]) (by kernel_rfl) (by kernel_rfl) (fun _ _ c=>c) Tryz.underlying28 (zv:=.agg #[Ve,Vi 0,Vi 0,Ve,Vi 0,Vi 0,Ve]) (bytes:=80) (by kernel_rfl) (by kernel_rfl) (fun _=>by kernel_rfl) (fun _=>by constructor <;> (simp; omega))) ?_
   trivial
  clear hJ a w; intro gh h19 a w sR hJ1 hF; have s20:Sees h15 h19:=sR; clear sR
  have hJ:K ⟨94,h.w,h.bad,[]⟩ [(9,Vp b4),(10,.slice Av env.length cv),(11,.slice A2 N c2),(13,Vp b12),(14,.slice (sA (gh 12)) (sN (gh 12)) (sC (gh 12)))] [.row (.slice (sA (gh 12)) (sN (gh 12)) (sC (gh 12))) 54 7 ((zK dn)++[[.string x.name,Vi 0,Vi 0,Ve,Vi nv.k,Vi nv.n,.string nv.s]]),.box b4 [.slice (some ⟨b9,o10,none⟩) N c,.slice B fm.pages.length d],.box b1 [Vi r.k,Vi r.a,Vi r.b,.string r.t]] [(b12,0,[.string x.name,Vi x.kind,Vi x.ty,Vi x.src.op,Vi x.src.k,Vi x.src.n,.string x.src.s,.string x.src.nm,.slice Au nu cu]),(b9,o10 + p * 9,[.string x.name,Vi x.kind,Vi x.ty,Vi x.src.op,Vi x.src.k,Vi x.src.n,.string x.src.s,.string x.src.nm,.slice Au nu cu])] h19 a w:=hJ1.tw
  have f17:Cells h19 (zJ (gh 11)) 0 [.string x.name,Vi 0,Vi 0,Ve,Vi nv.k,Vi nv.n,.string nv.s]:=Reg.fact (i:=11) (f:=fun gh hh=>Cells hh (zJ (gh 11)) 0 [.string x.name,Vi 0,Vi 0,Ve,Vi nv.k,Vi nv.n,.string nv.s]) hF 0 (by kernel_rfl)
  replace hJ:=hJ.fact f17
  clear hJ1 hF hmono R
  generalize gh 1=u51 at *
  generalize zJ (gh 11)=b18 at *
  generalize gh 12=v62 at *
  clear gh
  refine rk' hJ false 8 [.b 1 0,.f 1 0] [] (.k (.ops [0,1,1,1,1,1,1,1,1] 5) [.seq [1,1,1,1,1,1,1,1,1]] [9,10,11,13] [(64,.agg #[.slice (some ⟨b9,o10,none⟩) N c,.slice B fm.pages.length d]),(65,.slice (sA v62) (sN v62) (sC v62)),(66,.slice A2 N c2),(68,.string x.name)]) ?_
  clear hJ a w; intro a w hJ
  rw [show zK dn++[[.string x.name,.int .i64 0,.int .i64 0,.string ⟨#[]⟩,.int .i64 nv.k,.int .i64 nv.n,.string nv.s]]=zK now from hsn.symm] at hJ
  obtain ⟨h21,s22,fnow,hJn⟩:=hJ.frozen (v:=.slice (sA v62) (sN v62) (sC v62)) (e:=54) (k:=7) (l:=zK now) 0 (by kernel_rfl) (hJ.j.rowOut0 (v:=.slice (sA v62) (sN v62) (sC v62)) (e:=54) (k:=7) (l:=zK now) 0 (by kernel_rfl) rfl); clear hJ; have hJ:=hJn; clear hJn
  have hR2:=fun A c B d si sv H q1 q2 q3=>hR env v1 (by omega) hI.known hI.told l1 o1 A c B d si sv H q1 q2 q3
  rw [e2] at hR2
  refine dY hJ 69 (hR1 _ _ _ _ _ _ (hfm.sees (s6.trans (s8.trans (s14.trans (s16.trans (s20.trans (s22.trans hJ.j.sees))))))) (fnow.sees hJ.j.sees) (hva2.sees (s14.trans (s16.trans (s20.trans (s22.trans hJ.j.sees)))))) (fun _=>by kernel_rfl) ?_; clear hJ a w; rintro _ h23 a w s24 ⟨u1,z1,rfl,hv1,-⟩ hJ
  refine rx' hJ false 16 [.b 0 0,.f 1 0] [] (.ok (.ops [0,1,1,1,1,1,1,1,1,1] 5) [.seq [1,1,1,1,1,1,1,1,1,1]] [(11,.slice A2 N c2),(17,Vi 0),(74,.agg #[.slice (some ⟨b9,o10,none⟩) N c,.slice B fm.pages.length d]),(75,.slice Av env.length cv),(76,.slice (sA u1) (sN u1) (sC u1)),(78,.string x.name)] [.box b4 [.slice (some ⟨b9,o10,none⟩) N c,.slice B fm.pages.length d],.box b1 [Vi r.k,Vi r.a,Vi r.b,.string r.t]] [(b18,0,[.string x.name,Vi 0,Vi 0,Ve,Vi nv.k,Vi nv.n,.string nv.s]),(b12,0,[.string x.name,Vi x.kind,Vi x.ty,Vi x.src.op,Vi x.src.k,Vi x.src.n,.string x.src.s,.string x.src.nm,.slice Au nu cu]),(b9,o10 + p * 9,[.string x.name,Vi x.kind,Vi x.ty,Vi x.src.op,Vi x.src.k,Vi x.src.n,.string x.src.s,.string x.src.nm,.slice Au nu cu])]) (fun _=>by kernel_rfl) ?_
  clear hJ a w; intro a w hJ
  refine dY hJ 79 (hR2 _ _ _ _ _ _ _ (hfm.sees (s6.trans (s8.trans (s14.trans (s16.trans (s20.trans (s22.trans (s24.trans hJ.j.sees)))))))) (fin.sees (s8.trans (s14.trans (s16.trans (s20.trans (s22.trans (s24.trans hJ.j.sees))))))) (hv1.sees hJ.j.sees)) (fun _=>by kernel_rfl) ?_; clear hJ a w; rintro _ h25 a w s26 ⟨u2,z2,rfl,hv2,-⟩ hJ
  refine rk' hJ false 20 [] [] (.k (.ops [0,1,1,1,1,1,1,1,1,1,1] 9) [.seq [1,1,1,1,1,1,1,1,1,1,1]] [] [(89,.bool true),(90,.slice (sA u2) (sN u2) (sC u2)),(91,.slice A2 N c2)]) ?_
  clear hJ a w; intro a w hJ
  refine rk' hJ false 6 [.cl 27 #[.slice (sA u2) (sN u2) (sC u2),.slice A2 N c2] (.bool true)] [] (.k (.out .ret) [] [] [(8,.bool true)]) (ho:=And.intro (fun H sH=>eqV2_any va _ _ _ (hv2.sees sH) (hva2.sees (s14.trans (s16.trans (s20.trans (s22.trans (s24.trans (s26.trans sH))))))) (by omega)) (trivial)) ?_
  clear hJ a w; intro a w hJ
  refine gY (hQ [.bool true] _ [] hJ (.rtm hJ.j .nil) (fJ _) rfl ?_).1
  exact rfl
 ·skip
  refine qY hJ (t:=x.kind != 1) (bne_iff_ne.2 g) ?_
  refine rk' hJ false 7 [] [] (.k (.out .ret) [] [] [(8,.bool true)]) ?_
  clear hJ a w; intro a w hJ
  refine gY (hQ [.bool true] _ [] hJ (.rtm hJ.j .nil) (fJ _) rfl ?_).1
  exact rfl
theorem deltaBack_walk (v:Value) (l:List RawD) (v':Value) (m:List RawD) (r:RawD) (i:Int) (w:World) (h:RawsOf w v l) (h':RawsOf w v' m) (hr:r.ok) (i0 : -9223372036854775808≤i) (i1:i≤9223372036854775807) :
  Calls Tryz.prog 10 #[v,v',r.val,.int .i64 i] w fun e w'=>e=.returned (.bool true)∧Below w.heap.size w w' :=
 C0.law (deltaBack_c l m r i v v' ⟨w,[]⟩ h.rs h'.rs h.2.1 h'.2.1 h.2.2 h'.2.2 hr i0 i1)
namespace deltaBackLaw
open Go.ChangeShapes Go.WideShapes Go.ChangeAt Go.RowKit
open Go.ChangeMaps (open_string shut_string)
set_option linter.unusedVariables false
theorem lifted (os:Os) (started:os.Started) (H:Type) (enc:TypeId × Value→H) :
  ReturnsInHanded {} Tryz.checked os 10 .any (Rows.deltaBackSpec.pre6 enc Tryz.prog Tryz.f10 Rows.deltaBackRow.domain false) (Rows.deltaBackSpec.post enc Tryz.prog Tryz.f10 false true false false):=by
 refine returnsInHanded_of_change_sized (C:=Tryz.checked) ownNone started (by kernel_rfl) Tryz.func10
  (ChangeSpec.witness6 (enc:=enc) (C:=Tryz.checked) false ⟨#[],#[.slice none 0 0,.slice none 0 0,.agg #[.int .i64 0,.int .i64 0,.int .i64 0,.string ByteArray.empty],.int .i64 0],[]⟩ 8 (by kernel_rfl) (by kernel_rfl) (by kernel_rfl) (by kernel_rfl)) ?_
 intro W base args ds gs before hval0 hW hcnd hsz0 _
 have hval:∀ (j:Nat) t v,Tryz.f10.params[j]?=some t→args[j]?=some v→Value.okWide Tryz.prog W .any base t v:=hval0
 have hsz:(DataW.weightsEach Tryz.prog (Tryz.f10.params.toList++Rows.deltaBackSpec.plain.varTypes Tryz.prog) (ds++gs)).all (· ≤ reachBytes)=true:=hsz0
 have hW':=hW
 obtain ⟨p,q,hA0,hV,rfl,hfz,hnd⟩:=hW
 have hA:DataW.TrodAll enc Tryz.prog W 0 (fun _=>true) true Tryz.f10.params.toList args.toList ds p:=hA0
 rw [Tryz.params10] at hA hval hsz
 obtain ⟨v0,vs0,d0,ds0,p0,q0,hargs,rfl,rfl,h0,r0⟩:=trodAll_cons hA
 obtain ⟨v1,vs1,d1,ds1,p1,q1,rfl,rfl,rfl,h1,r1⟩:=trodAll_cons r0
 obtain ⟨v2,vs2,d2,ds2,p2,q2,rfl,rfl,rfl,h2,r2⟩:=trodAll_cons r1
 obtain ⟨v3,vs3,d3,ds3,p3,q3,rfl,rfl,rfl,h3,r3⟩:=trodAll_cons r2
 obtain ⟨rfl,rfl,rfl⟩:=trodAll_nil r3
 obtain rfl:args=#[v0,v1,v2,v3]:=by cases args; simp_all
 obtain ⟨rfl,rfl⟩:=trodVars_none hV
 have k0:=h0
 have lt0:∀ x∈p0,x.block < W.heap.size:=by obtain ⟨m,hm⟩:=k0; exact DataW.trod_lt m _ _ _ hm
 obtain ⟨a0,w0⟩:=open_rows (hval 0 22 v0 rfl rfl) h0 (fun es ss hd=>sized_slice hsz (j:=0) (t:=22) (elems:=es) (spare:=ss) rfl (by rw [hd]; rfl) Tryz.underlying22)
 have k1:=h1
 have lt1:∀ x∈p1,x.block < W.heap.size:=by obtain ⟨m,hm⟩:=k1; exact DataW.trod_lt m _ _ _ hm
 obtain ⟨a1,w1⟩:=open_rows (hval 1 22 v1 rfl rfl) h1 (fun es ss hd=>sized_slice hsz (j:=1) (t:=22) (elems:=es) (spare:=ss) rfl (by rw [hd]; rfl) Tryz.underlying22)
 have k2:=h2
 have lt2:∀ x∈p2,x.block < W.heap.size:=by obtain ⟨m,hm⟩:=k2; exact DataW.trod_lt m _ _ _ hm
 obtain ⟨a2,rfl,w2⟩:=open_raw (hval 2 64 v2 rfl rfl) h2
 have k3:=h3
 have lt3:∀ x∈p3,x.block < W.heap.size:=by obtain ⟨m,hm⟩:=k3; exact DataW.trod_lt m _ _ _ hm
 obtain ⟨a3,rfl,-,-,w3⟩:=open_int Tryz.underlying3 (hval 3 3 v3 rfl rfl) h3
 clear hA0 hval0 hsz0
 refine (deltaBack_walk v0 a0 v1 a1 a2 a3 W w0 w1 w2 (int_lo w3) (int_hi w3)).mono fun e W' ⟨he,bel⟩=>?_
 subst he
 exact ⟨_,rfl,_,_,_,[],_,[],hW',trodAll_mk1 (shut_bool Tryz.underlying4 _),(trodAll_cons_mk (Below.trod laidOutTrue (by kernel_rfl) (of_decide_eq_true (by kernel_rfl)) k0 bel lt0) (trodAll_cons_mk (Below.trod laidOutTrue (by kernel_rfl) (of_decide_eq_true (by kernel_rfl)) k1 bel lt1) (trodAll_cons_mk (Below.trod laidOutTrue (by kernel_rfl) (of_decide_eq_true (by kernel_rfl)) k2 bel lt2) (trodAll_cons_mk (Below.trod laidOutTrue (by kernel_rfl) (of_decide_eq_true (by kernel_rfl)) k3 bel lt3) trodAll_mk0)))),rfl,bel.frame _,fun h=>by cases h⟩
theorem over:Rows.deltaBackRow.holds Tryz.pinned (OpenSpec.ofChange Rows.deltaBackSpec) :=
 OpenClaim.holds_of_wide 10 Tryz.f10 rfl rfl rfl rfl rfl rfl rfl ⟨rfl,rfl,rfl,rfl,rfl⟩ rfl rfl rfl rfl rfl (by kernel_rfl) Tryz.func10 (by kernel_rfl)
  (of_decide_eq_true (by kernel_rfl)) (by unfold Func.isWrapper; first | (rw [if_pos (by decide +kernel)]; kernel_rfl) | (rw [if_neg (by decide +kernel)]; exact ⟨rfl,rfl⟩))
  (fun os started H enc _=>lifted os started H enc)
end deltaBackLaw
theorem deltaBack_holds:Rows.DeltaBackSaid:=deltaBackLaw.over
#print axioms deltaBack_holds
end Go.Proofs.YthckljafinhepaaGreat
