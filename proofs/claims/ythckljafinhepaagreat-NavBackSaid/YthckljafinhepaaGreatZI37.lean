/-
  Contract of rank.Of where all fields can be ranked; the laws' ranked; slices.Equal at ints.
-/
import Derived.Test.YthckljafinhepaaGreatZI32
import Derived.Test.YthckljafinhepaaGreatZI36
set_option maxRecDepth 100000
namespace Go.Proofs.YthckljafinhepaaGreat
open Go.RowKit
set_option linter.unusedVariables false
theorem ofc_any (x:Int) (h:Vw):C0 Tryz.prog 120 #[.int .i64 x] h (fun r _=>r=.bool (decide (x < 0))):=by
 refine yX Tryz.func120 (c:=Tryz.f120.body.getD .skip) (N:=5) ?_
 intro hbx hbad Q hQ a w hJ
 refine rx' hJ false 13 [] [] (.ok (.out .ret) [] [(2,.bool (decide (x < 0)))] [] []) (fun _=>by kernel_rfl) ?_
 clear hJ a w; intro a w hJ
 refine zX (hQ [.bool (decide (x < 0))] _ [] hJ (.rtm hJ.j .nil) (fJ _) rfl ?_).1
 exact rfl
theorem rk_row {l:List Int} {k:Nat} {x:Int} (h:l[k]?=some x):(wW l)[k]?=some [.int .i64 x]:=by show (l.map _)[k]?=_; rw [List.getElem?_map,h]; rfl
theorem idxI_any (l:List Int) (A:Option Addr) (cap:Nat) (h:Vw) (hr:RS h 1 (.slice A l.length cap) (wW l)) (hl:l.length≤1000000) (hn:∀ x∈l,0≤x) :
  C0 Tryz.prog 103 #[.slice A l.length cap,.func (.func 120) #[] #[]] h (fun r _=>r=.int .i64 (-1)):=by
 generalize hL:l.length=len at *
 refine yX Tryz.func103 (c:=Tryz.f103.body.getD .skip) (N:=19) ?_
 intro hbx hbad Q hQ a w hJ
 refine rk' hJ false 14 [] [] (.k (.code [0,1,0,1]) [.block 0,.seq [1,1]] [0,1] [(7,Vi (len:Int)),(8,Vi 0)]) ?_
 clear hJ a w; intro a w hJ
 refine eY (fun (k:Nat) a w=>∃ (h1:Vw) ,K ⟨19,h.w,h.bad,[]⟩ [(0,.slice A len cap),(1,.func (.func 120) #[] #[]),(7,Vi (len:Int)),(8,Vi (k:Int))] [] [] h1 a w∧Sees h h1∧(k≤len)) (fun k=>len - k) (0) ⟨h,hJ.tw,Sees.refl _,Nat.zero_le _⟩ ?_
 clear hJ a w; rintro k a w ⟨h1,hJ,s2,hk⟩
 refine rk' hJ false 6 [] [] (.k (.code [0,1,0,0,1,0,1]) [.seq [1,1,0,0,1,0,1]] [0,1,7,8] [(9,.bool (decide ((k:Int) < (len:Int))))]) ?_
 clear hJ a w; intro a w hJ
 rcases (by omega:k < len∨k=len) with hlt | hke
 ·obtain ⟨x,hxk⟩:∃ x,l[k]?=some x:=⟨_,List.getElem?_eq_getElem (by omega)⟩
  have hrow:=rk_row hxk
  have hx0:=hn x (List.mem_of_getElem? hxk)
  have hof:=fun H=>ofc_any x H
  rw [show decide (x < 0)=false from decide_eq_false (by omega)] at hof
  refine kY hJ (t:=decide ((k:Int) < (len:Int))) (decide_eq_true (by omega)) ?_
  refine rk' hJ false 15 [] [] (.k (.ops [0,1,0,0,1,1,0,0,1,0,1] 3) [.seq [1,1,0,0,1,1,0,0,1,0,1],.block 1,.seq [1,1,1,0,0,1,0,1]] [0,1,7,8] [(5,Vi (k:Int)),(11,.func (.func 120) #[] #[]),(12,.slice A len cap),(13,Vi (k:Int))]) ?_
  clear hJ a w; intro a w hJ
  obtain ⟨b3,o4,rfl,-,c5⟩:=RS.row hr (hrow)
  replace hJ:=hJ.fact (c5.sees s2)
  refine rk' hJ false 13 [.ix b3 o4 len cap k,.f 0 0,.cl 120 #[Vi x] (.bool false)] [(18,Vi (IntKind.i64.wrap ((k:Int) + 1)),Vi ((k:Int) + 1))] (.k (.out .normal) [] [0,1,7] [(8,Vi ((k:Int) + 1))]) (ho:=And.intro (by first | omega | (simp; omega)) (And.intro (fun H sH=>hof _) (trivial))) (hc:=And.intro (kJ (by omega) (by omega)) (trivial)) ?_
  clear hJ a w; intro a w hJ
  exact jY ⟨k + 1,⟨h1,(hJ.tof [] (F':=[]) (by kernel_rfl)).to (by kernel_rfl) (by kernel_rfl) rfl,s2,by omega⟩,by omega⟩
 ·skip
  refine aY hJ (t:=decide ((k:Int) < (len:Int))) (decide_eq_false (by omega)) ?_
  refine rx' hJ false 2 [] [] (.ok (.out (.exit 0)) [] [] [] []) (fun _=>by kernel_rfl) ?_
  clear hJ a w; intro a w hJ
  refine dY rfl ?_
  refine rx' hJ false 8 [] [] (.ok (.out .ret) [] [(4,Vi (-1))] [] []) (fun _=>by kernel_rfl) ?_
  clear hJ a w; intro a w hJ
  refine zX (hQ [Vi (-1)] _ [] hJ (.rtm hJ.j .nil) (fJ _) rfl ?_).1
  exact rfl
theorem cfI_any (l:List Int) (A:Option Addr) (cap:Nat) (h:Vw) (hr:RS h 1 (.slice A l.length cap) (wW l)) (hl:l.length≤1000000) (hn:∀ x∈l,0≤x) :
  C0 Tryz.prog 78 #[.slice A l.length cap,.func (.func 120) #[] #[]] h (fun r _=>r=.bool false):=by
 have hi:=fun H q=>idxI_any l A cap H q hl hn
 refine yX Tryz.func78 (c:=Tryz.f78.body.getD .skip) (N:=9) ?_
 intro hbx hbad Q hQ a w hJ
 refine rx' hJ false 15 [.cl 103 #[.slice A l.length cap,.func (.func 120) #[] #[]] (Vi (-1))] [] (.ok (.out .ret) [] [(4,.bool false)] [] []) (ho:=And.intro (fun H sH=>hi _ (hr.sees sH)) (trivial)) (fun _=>by kernel_rfl) ?_
 clear hJ a w; intro a w hJ
 refine zX (hQ [.bool false] _ [] hJ (.rtm hJ.j .nil) (fJ _) rfl ?_).1
 exact rfl
theorem eqI_any (l m:List Int) (v u:Value) (h:Vw) (hr:RS h 1 v (wW l)) (hs:RS h 1 u (wW m)) (hl:l.length≤1000000) (he:l=m):C0 Tryz.prog 49 #[v,u] h (fun r _=>r=.bool true):=by
 subst he
 obtain ⟨A,cap,rfl,-,-,-⟩:=hr.form
 obtain ⟨B,cap',rfl,-,-,-⟩:=hs.form
 rw [List.length_map] at *
 generalize hL:l.length=len at *
 refine yX Tryz.func49 (c:=Tryz.f49.body.getD .skip) (N:=26) ?_
 intro hbx hbad Q hQ a w hJ
 refine rk' hJ false 15 [] [] (.k (.code [1,0,1]) [.seq [1,1]] [0,1] [(10,.bool ((len:Int) != (len:Int)))]) ?_
 clear hJ a w; intro a w hJ
 refine aY hJ (t:=(len:Int) != (len:Int)) ((by simp)) ?_
 refine rk' hJ false 11 [] [] (.k (.code [0,1,0,1,1]) [.block 0,.seq [1,1,1]] [0,1] [(12,Vi (len:Int)),(13,Vi 0)]) ?_
 clear hJ a w; intro a w hJ
 refine eY (fun (k:Nat) a w=>∃ (h1:Vw) ,K ⟨26,h.w,h.bad,[]⟩ [(0,.slice A len cap),(1,.slice B len cap'),(12,Vi (len:Int)),(13,Vi (k:Int))] [] [] h1 a w∧Sees h h1∧(k≤len)) (fun k=>len - k) (0) ⟨h,hJ.tw,Sees.refl _,Nat.zero_le _⟩ ?_
 clear hJ a w; rintro k a w ⟨h1,hJ,s2,hk⟩
 refine rk' hJ false 6 [] [] (.k (.code [0,1,0,0,1,0,1,1]) [.seq [1,1,0,0,1,0,1,1]] [0,1,12,13] [(14,.bool (decide ((k:Int) < (len:Int))))]) ?_
 clear hJ a w; intro a w hJ
 rcases (by omega:k < len∨k=len) with hlt | hke
 ·obtain ⟨x,hxk⟩:∃ x,l[k]?=some x:=⟨_,List.getElem?_eq_getElem (by omega)⟩
  have hrow:=rk_row hxk
  refine kY hJ (t:=decide ((k:Int) < (len:Int))) (decide_eq_true (by omega)) ?_
  refine rk' hJ false 11 [] [] (.k (.code [0,1,0,0,1,1,0,0,1,0,1,1]) [.seq [1,1,0,0,1,1,0,0,1,0,1,1],.block 1,.seq [1,1,1,0,0,1,0,1,1]] [0,1,12,13] [(5,Vi (k:Int))]) ?_
  clear hJ a w; intro a w hJ
  obtain ⟨b3,o4,rfl,-,c5⟩:=RS.row hr (hrow)
  replace hJ:=hJ.fact (c5.sees s2)
  obtain ⟨b6,o7,rfl,-,c8⟩:=RS.row hs (hrow)
  replace hJ:=hJ.fact (c8.sees s2)
  let R:Reg:=⟨⟨26,h.w,h.bad,[]⟩,[(0,16,fun gh=>.slice (some ⟨b3,o4,none⟩) len cap),(1,17,fun gh=>Vi (k:Int)),(2,18,fun gh=>.pointer (some ⟨b3,o4 + k * 1,none⟩)),(3,19,fun gh=>Vi x),(4,20,fun gh=>.slice (some ⟨b6,o7,none⟩) len cap'),(5,21,fun gh=>Vi (k:Int)),(6,22,fun gh=>.pointer (some ⟨b6,o7 + k * 1,none⟩)),(7,23,fun gh=>Vi x),(8,24,fun gh=>.bool (x != x))],[(0,.slice (some ⟨b3,o4,none⟩) len cap),(1,.slice (some ⟨b6,o7,none⟩) len cap'),(12,Vi (len:Int)),(13,Vi (k:Int)),(5,Vi (k:Int))],[],[],[[],[],[0,1],[0,1,2],[],[],[4,5],[4,5,6],[0,1,2,3,4,5,6,7]],h1⟩
  have hmono:∀ zq∈R.F,∀ zx zh zi,Sees zh zi→zq.2 zx zh→zq.2 zx zi:=lJ
  refine iY (by kernel_rfl) R hJ 9 [.pu,.pu,.cl,.lf 1 0,.pu,.pu,.cl,.lf 0 0,.pu] (by kernel_rfl) hmono (fun _ _ _=>by kernel_rfl) (fun hT hA=>?_) ?_
  ·clear hJ
   refine And.intro (pW hT hA 18 (fun gh=>.pointer (some ⟨b3,o4 + k * 1,none⟩)) [0,1] 2 (fun gh w=>fX (t:=73) (x:=(.tmp 16)) (y:=(.tmp 17)) (b:=b3) (off:=o4) (n:=len) (cap:=cap) (k:=k) (e:=3) (kk:=1) (by kernel_rfl) (by kernel_rfl) (by kernel_rfl) (by first | omega | (simp; omega)) Tryz.underlying73 (by kernel_rfl))) ?_
   refine And.intro (pW hT hA 22 (fun gh=>.pointer (some ⟨b6,o7 + k * 1,none⟩)) [4,5] 6 (fun gh w=>fX (t:=73) (x:=(.tmp 20)) (y:=(.tmp 21)) (b:=b6) (off:=o7) (n:=len) (cap:=cap') (k:=k) (e:=3) (kk:=1) (by kernel_rfl) (by kernel_rfl) (by kernel_rfl) (by first | omega | (simp; omega)) Tryz.underlying73 (by kernel_rfl))) ?_
   trivial
  clear hJ a w; intro gh h9 a w sR hJ1 hF; have s10:Sees h1 h9:=sR; clear sR
  have hJ:K ⟨26,h.w,h.bad,[]⟩ [(0,.slice (some ⟨b3,o4,none⟩) len cap),(1,.slice (some ⟨b6,o7,none⟩) len cap'),(12,Vi (len:Int)),(13,Vi (k:Int)),(24,.bool (x != x))] [] [(b6,o7 + k * 1,[Vi x]),(b3,o4 + k * 1,[Vi x])] h9 a w:=hJ1.tw
  clear hJ1 hF hmono R
  clear gh
  refine rk' hJ false 1 [] [] (.k (.code [1,1,0,0,1,1,0,0,1,0,1,1]) [.block 1,.seq [1,1,1,0,0,1,0,1,1]] [0,1,12,13,24] []) ?_
  clear hJ a w; intro a w hJ
  refine aY hJ (t:=x != x) ((by simp)) ?_
  refine rk' hJ false 7 [] [(25,Vi (IntKind.i64.wrap ((k:Int) + 1)),Vi ((k:Int) + 1))] (.k (.out .normal) [] [0,1,12] [(13,Vi ((k:Int) + 1))]) (hc:=And.intro (kJ (by omega) (by omega)) (trivial)) ?_
  clear hJ a w; intro a w hJ
  exact jY ⟨k + 1,⟨h9,(hJ.tof [] (F':=[]) (by kernel_rfl)).to (by kernel_rfl) (by kernel_rfl) rfl,(s2.trans s10),by omega⟩,by omega⟩
 ·skip
  refine aY hJ (t:=decide ((k:Int) < (len:Int))) (decide_eq_false (by omega)) ?_
  refine rx' hJ false 2 [] [] (.ok (.out (.exit 0)) [] [] [] []) (fun _=>by kernel_rfl) ?_
  clear hJ a w; intro a w hJ
  refine dY rfl ?_
  refine rx' hJ false 8 [] [] (.ok (.out .ret) [] [(4,.bool true)] [] []) (fun _=>by kernel_rfl) ?_
  clear hJ a w; intro a w hJ
  refine zX (hQ [.bool true] _ [] hJ (.rtm hJ.j .nil) (fJ _) rfl ?_).1
  exact rfl
theorem mem_getD {l:List Int} {x:Int} (h:x∈l):∃ i,i < l.length∧x=l.getD i 0:=by
 obtain ⟨i,hi,e⟩:=List.mem_iff_getElem.1 h
 exact ⟨i,hi,by rw [List.getD_eq_getElem?_getD,List.getElem?_eq_getElem hi,e]; rfl⟩
theorem rankOf_any (fs:List Fd) (fv:Value) (h:Vw) (hok:OkFs fs) (hfs:IsFds h fv fs) (ρ:List Int) (lv:Nat→Nat) (hρ:Ranked (nV fs) ρ lv) :
  C0 Tryz.prog 92 #[fv] h (fun r h'=>∃ b,r=.tuple #[.slice (some ⟨b,0,none⟩) fs.length fs.length,.slice none 0 0,.int .i64 0]∧RS h' 1 (.slice (some ⟨b,0,none⟩) fs.length fs.length) (wW ρ)):=by
 have few:=hok.few
 have hck:=fun H q=>check_fields fs fv H hok q
 have hne:=fun H q=>needs_any fs fv H hok q
 have hnl:(nV fs).length=fs.length:=by unfold nV; rw [List.length_map]
 have hb:∀ l∈nV fs,l.length≤1000∧∀ k∈l,k < (nV fs).length:=fun l hl=>by
  obtain ⟨i,hi⟩:=List.mem_iff_getElem?.1 hl
  have hil:=(List.getElem?_eq_some_iff.1 hi).1
  have hg:(nV fs).getD i []=l:=by rw [List.getD_eq_getElem?_getD,hi]; rfl
  refine ⟨?_,fun k hk=>(hρ.low i hil k (by rw [hg]; exact hk)).1⟩
  obtain ⟨f,hf,rfl⟩:=List.mem_map.1 hl
  unfold needE
  split
  ·simp
  ·rename_i g
   obtain ⟨-,w2,-⟩:=(hok.each f hf).wf g
   have:=Nat.le_trans (namesE_len f.src) (refs_le f.src)
   rw [List.length_map]; omega
 have hrk:=fun A cap us H q1 q2=>ranks_any (nV fs) A cap us H q1 q2 (by omega) hb
 rw [ranks_true hρ,hnl] at hrk
 have hρl:ρ.length=fs.length:=hρ.len.trans hnl
 have hnn:∀ x∈ρ,0≤x:=fun x hx=>by
  obtain ⟨i,hi,rfl⟩:=mem_getD hx
  exact rank_nn hρ (by have:=hρ.len; omega)
 have hcf:=fun b H q=>cfI_any ρ (some ⟨b,0,none⟩) fs.length H q (by omega) hnn
 rw [hρl] at hcf
 obtain ⟨-,A,c,rfl,-,-,-,-,-,-⟩:=dQ hfs
 generalize nV fs=need at *
 generalize hL:fs.length=len at *
 refine yX Tryz.func92 (c:=Tryz.f92.body.getD .skip) (N:=42) ?_
 intro hbx hbad Q hQ a w hJ
 refine rk' hJ false 27 [.cl 118 #[.slice A len c] (Vi 0)] [] (.k (.ops [0,1,1] 1) [.seq [1,1,1]] [0] [(16,.slice A len c)]) (ho:=And.intro (fun H sH=>hck _ (hfs.sees sH)) (trivial)) ?_
 clear hJ a w; intro a w hJ
 refine wX hJ 17 (hne _ (hfs.sees hJ.j.sees)) (fun _=>by kernel_rfl) ?_; clear hJ a w; rintro _ h1 a w s2 ⟨An,cn,us,rfl,hrn,hna⟩ hJ
 refine rk' hJ false 6 [] [] (.k (.ops [0,1,1,1] 1) [.seq [1,1,1,1]] [0] [(6,.slice An len cn),(18,.slice An len cn)]) ?_
 clear hJ a w; intro a w hJ
 refine wX hJ 19 (hrk _ _ us _ (hrn.sees hJ.j.sees) (hna.sees hJ.j.sees)) (fun _=>by kernel_rfl) ?_; clear hJ a w; rintro _ h3 a w s4 ⟨b,rfl,hro⟩ hJ
 refine rk' hJ false 7 [] [] (.k (.ops [0,0,1,1,1,1] 1) [.seq [1,0,1,1,1,1],.seq [1,1,1,1,1]] [0,6] [(7,Vs b len len),(20,Vs b len len)]) ?_
 clear hJ a w; intro a w hJ
 refine rx' hJ false 15 [.cl 78 #[Vs b len len,.func (.func 120) #[] #[]] (.bool false)] [] (.ok (.out .ret) [] [(2,Vs b len len),(3,Vz),(4,Vi 0)] [] []) (ho:=And.intro (fun H sH=>hcf b _ (hro.sees sH)) (trivial)) (fun _=>by kernel_rfl) ?_
 clear hJ a w; intro a w hJ
 refine zX (hQ [Vs b len len,Vz,Vi 0] _ [] hJ (.rtm hJ.j (.rtm hJ.j (.rtm hJ.j .nil))) (fJ _) rfl ?_).1
 exact ⟨b,rfl,(hro.sees hJ.j.out)⟩
end Go.Proofs.YthckljafinhepaaGreat
