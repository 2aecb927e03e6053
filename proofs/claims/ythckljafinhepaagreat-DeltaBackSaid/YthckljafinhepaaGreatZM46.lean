/-
  Contracts of package slices at []string. slices.Clone at []string.
-/
import Derived.Test.YthckljafinhepaaGreatZM5
import Derived.Test.YthckljafinhepaaGreatZM4
import Derived.Test.YthckljafinhepaaGreatZM8
import Derived.Test.YthckljafinhepaaGreatZM20
import Derived.Test.YthckljafinhepaaGreatZM45
import Derived.Lib.AppendZerosOnto
import Derived.Test.YthckljafinhepaaGreatZM37
import Derived.Test.YthckljafinhepaaGreatZM33
import Derived.Test.YthckljafinhepaaGreatZM41
import Derived.Test.YthckljafinhepaaGreatZM39
import Derived.Test.YthckljafinhepaaGreatZM43
import Derived.Test.YthckljafinhepaaGreatZM6
set_option maxRecDepth 100000
namespace Go.Proofs.YthckljafinhepaaGreat
open Go.RowKit
set_option linter.unusedVariables false
theorem str_row {l:List ByteArray} {i:Nat} {s:ByteArray} (h:l[i]?=some s):(sX l)[i]?=some [.string s]:=by rw [List.getElem?_map,h]; rfl
theorem idxS_any (l:List ByteArray) (v:Value) (s:ByteArray) (h:Vw) (hr:RS h 1 v (sX l)) (hl:l.length≤1000000):C0 Tryz.prog 67 #[v,.string s] h (fun r _=>r=.int .i64 (fidx (fun y:ByteArray=>s.toList == y.toList) l)):=by
 obtain ⟨A,cap,rfl,-,-,-⟩:=hr.form
 rw [List.length_map] at *
 generalize hL:l.length=len at *
 refine fY Tryz.func67 (c:=Tryz.f67.body.getD .skip) (N:=19) ?_
 intro hbx hbad Q hQ a w hJ
 refine rk' hJ false 14 [] [] (.k (.code [0,1,0,1]) [.block 0,.seq [1,1]] [0,1] [(7,Vi (len:Int)),(8,Vi 0)]) ?_
 clear hJ a w; intro a w hJ
 refine kY (fun (k:Nat) a w=>∃ (h1:Vw) ,K ⟨19,h.w,h.bad,[]⟩ [(0,.slice A len cap),(1,.string s),(7,Vi (len:Int)),(8,Vi (k:Int))] [] [] h1 a w∧Sees h h1∧(k≤len)∧(∀ y∈l.take k,(s.toList == y.toList)=false)) (fun k=>len - k) (0) ⟨h,hJ.tw,Sees.refl _,Nat.zero_le _,fun y hy=>by simp at hy⟩ ?_
 clear hJ a w; rintro k a w ⟨h1,hJ,s2,hk,hn⟩
 refine rk' hJ false 6 [] [] (.k (.code [0,1,0,0,1,0,1]) [.seq [1,1,0,0,1,0,1]] [0,1,7,8] [(9,.bool (decide ((k:Int) < (len:Int))))]) ?_
 clear hJ a w; intro a w hJ
 rcases (by omega:k < len∨k=len) with hlt | hke
 ·obtain ⟨f,hfk⟩:∃ f,l[k]?=some f:=⟨_,List.getElem?_eq_getElem (by omega)⟩
  have hrow:=str_row hfk
  refine qY hJ (t:=decide ((k:Int) < (len:Int))) (decide_eq_true (by omega)) ?_
  refine rk' hJ false 15 [] [] (.k (.ops [0,1,0,0,1,1,0,0,1,0,1] 3) [.seq [1,1,0,0,1,1,0,0,1,0,1],.block 1,.seq [1,1,1,0,0,1,0,1]] [0,1,7,8] [(5,Vi (k:Int)),(11,.string s),(12,.slice A len cap),(13,Vi (k:Int))]) ?_
  clear hJ a w; intro a w hJ
  obtain ⟨b3,o4,rfl,-,c5⟩:=RS.row hr (hrow)
  replace hJ:=hJ.fact (c5.sees s2)
  refine rk' hJ false 5 [.ix b3 o4 len cap k,.f 0 0] [] (.k (.code [1,1,0,0,1,1,0,0,1,0,1]) [.block 1,.seq [1,1,1,0,0,1,0,1]] [0,1,7,8,5] [(16,.bool (s.toList == f.toList))]) (ho:=And.intro (by first | omega | (simp; omega)) (trivial)) ?_
  clear hJ a w; intro a w hJ
  rcases Bool.eq_false_or_eq_true (s.toList == f.toList) with hq | hq
  ·refine qY hJ (t:=s.toList == f.toList) (hq) ?_
   refine rk' hJ false 9 [] [] (.k (.out .ret) [] [] [(4,Vi (k:Int))]) ?_
   clear hJ a w; intro a w hJ
   refine jY rfl ?_
   refine rk' hJ false 2 [] [] (.k (.out .ret) [] [4] []) ?_
   clear hJ a w; intro a w hJ
   refine gY (hQ [Vi (k:Int)] _ [] hJ (.rtm hJ.j .nil) (fJ _) rfl ?_).1
   exact congrArg (Value.int .i64) (eQ _ l k f hn hfk hq).symm
  ·skip
   refine iY hJ (t:=s.toList == f.toList) (hq) ?_
   refine rk' hJ false 7 [] [(18,Vi (IntKind.i64.wrap ((k:Int) + 1)),Vi ((k:Int) + 1))] (.k (.out .normal) [] [0,1,7] [(8,Vi ((k:Int) + 1))]) (hc:=And.intro (kJ (by omega) (by omega)) (trivial)) ?_
   clear hJ a w; intro a w hJ
   exact pY ⟨k + 1,⟨h1,(hJ.tof [] (F':=[]) (by kernel_rfl)).to (by kernel_rfl) (by kernel_rfl) rfl,s2,by omega,(by rw [tX l k f hfk]; exact fun y hy=>(List.mem_append.1 hy).elim (hn y) (fun e=>by rw [List.mem_singleton.1 e]; exact hq))⟩,by omega⟩
 ·skip
  have htk:l.take k=l:=by rw [hke,← hL,List.take_length]
  rw [htk] at hn
  refine iY hJ (t:=decide ((k:Int) < (len:Int))) (decide_eq_false (by omega)) ?_
  refine rx' hJ false 2 [] [] (.ok (.out (.exit 0)) [] [] [] []) (fun _=>by kernel_rfl) ?_
  clear hJ a w; intro a w hJ
  refine jY rfl ?_
  refine rx' hJ false 8 [] [] (.ok (.out .ret) [] [(4,Vi (-1))] [] []) (fun _=>by kernel_rfl) ?_
  clear hJ a w; intro a w hJ
  refine gY (hQ [Vi (-1)] _ [] hJ (.rtm hJ.j .nil) (fJ _) rfl ?_).1
  exact congrArg (Value.int .i64) (fQ _ l hn).symm
def memS (l:List ByteArray) (s:ByteArray):Bool:=l.any fun y=>s.toList == y.toList
theorem memS_iff {l:List ByteArray} {s:ByteArray}:memS l s=true↔s∈l:=by
 unfold memS
 rw [List.any_eq_true]
 constructor
 ·rintro ⟨y,hy,q⟩
  rw [tl_dec] at q
  rw [of_decide_eq_true q]; exact hy
 ·intro hm
  exact ⟨s,hm,tl_yes rfl⟩
theorem contS_any (l:List ByteArray) (v:Value) (s:ByteArray) (h:Vw) (hr:RS h 1 v (sX l)) (hl:l.length≤1000000):C0 Tryz.prog 30 #[v,.string s] h (fun r _=>r=.bool (memS l s)):=by
 have hi:=fun H q=>idxS_any l v s H q hl
 have e:decide (0≤fidx (fun y:ByteArray=>s.toList == y.toList) l)=memS l s:=fidx_dec _ _
 generalize fidx (fun y:ByteArray=>s.toList == y.toList) l=p at *
 obtain ⟨A,cap,rfl,-,-,-⟩:=hr.form
 refine fY Tryz.func30 (c:=Tryz.f30.body.getD .skip) (N:=9) ?_
 intro hbx hbad Q hQ a w hJ
 refine rx' hJ false 15 [.cl 67 #[.slice A ((sX l).length) cap,.string s] (Vi p)] [] (.ok (.out .ret) [] [(4,.bool (decide (p ≥ 0)))] [] []) (ho:=And.intro (fun H sH=>hi _ (hr.sees sH)) (trivial)) (fun _=>by kernel_rfl) ?_
 clear hJ a w; intro a w hJ
 refine gY (hQ [.bool (decide (p ≥ 0))] _ [] hJ (.rtm hJ.j .nil) (fJ _) rfl ?_).1
 exact congrArg Value.bool e
end Go.Proofs.YthckljafinhepaaGreat
namespace Go.Proofs.YthckljafinhepaaGreat
open Go.RowKit
set_option linter.unusedVariables false
end Go.Proofs.YthckljafinhepaaGreat
namespace Go.Proofs.YthckljafinhepaaGreat
open Go.RowKit
set_option linter.unusedVariables false
theorem pgRows_get:∀ {l:List Pg} {us vs:List Value} {i:Nat} {p:Pg} {u v:Value},l[i]?=some p→us[i]?=some u→vs[i]?=some v→(kW l us vs)[i]?=some (pgRow p u v)
 | q :: l,u' :: us,v' :: vs,0,p,u,v,h1,h2,h3=>by simp at h1 h2 h3; subst h1 h2 h3; rfl
 | q :: l,u' :: us,v' :: vs,i + 1,p,u,v,h1,h2,h3=>pgRows_get (l:=l) (by simpa using h1) (by simpa using h2) (by simpa using h3)
 | [],_,_,_,_,_,_,h,_,_=>by simp at h
 | _ :: _,[],_,_,_,_,_,_,h,_=>by simp at h
 | _ :: _,_ :: _,[],_,_,_,_,_,_,h=>by simp at h
theorem AllStr.get {h:Vw}:∀ {l:List (List ByteArray)} {us:List Value},AllStr h l us→∀ {i:Nat} {x:List ByteArray} {u:Value},l[i]?=some x→us[i]?=some u→RS h 1 u (sX x)
 | [],_,_,i,x,u,hx,_=>by simp at hx
 | y :: l,_,⟨u',r,e,k1,k2⟩,i,x,u,hx,hu=>by
  subst e
  cases i with
  | zero=>simp at hx hu; subst hx hu; exact k1
  | succ i=>exact AllStr.get k2 (by simpa using hx) (by simpa using hu)
theorem pgs_open {h:Vw} {v:Value} {l:List Pg} (hp:IsPgs h v l):∃ us vs A cap,v=.slice A l.length cap∧cap≤maxLen∧RS h 8 (.slice A l.length cap) (kW l us vs)∧AllStr h (l.map (·.fields)) us∧AllArgs h (l.map (·.skip)) vs∧us.length=l.length∧vs.length=l.length:=by
 obtain ⟨us,vs,hr,hs,ha⟩:=hp
 have hu:=hs.len
 have hv:=ha.len
 rw [List.length_map] at hu hv
 obtain ⟨A,c,e,-,h2,-⟩:=hr.form
 rw [lW hu hv] at e
 rw [e] at hr
 exact ⟨us,vs,A,c,e,h2,hr,hs,ha,hu,hv⟩
theorem pg_at {h:Vw} {l:List Pg} {us vs:List Value} (hs:AllStr h (l.map (·.fields)) us) (ha:AllArgs h (l.map (·.skip)) vs) {i:Nat} {p:Pg} (hp:l[i]?=some p) :
  ∃ A c B m d,(kW l us vs)[i]?=some (pgRow p (.slice A p.fields.length c) (.slice B m d))∧RS h 1 (.slice A p.fields.length c) (sX p.fields)∧IsArgs h p.skip (.slice B m d):=by
 have hu:=hs.len
 have hv:=ha.len
 rw [List.length_map] at hu hv
 have hil:=(List.getElem?_eq_some_iff.1 hp).1
 obtain ⟨u,hui⟩:∃ u,us[i]?=some u:=⟨_,List.getElem?_eq_getElem (by omega)⟩
 obtain ⟨v,hvi⟩:∃ v,vs[i]?=some v:=⟨_,List.getElem?_eq_getElem (by omega)⟩
 have h1:=AllStr.get hs (x:=p.fields) (by rw [List.getElem?_map,hp]; rfl) hui
 have h2:=AllArgs.get ha (x:=p.skip) (by rw [List.getElem?_map,hp]; rfl) hvi
 obtain ⟨A,c,e,-⟩:=h1.form
 rw [List.length_map] at e
 obtain ⟨B,m,d,rfl⟩:=h2.slice
 subst e
 exact ⟨A,c,B,m,d,pgRows_get hp hui hvi,h1,h2⟩
def findG (l:List Pg) (s:ByteArray):Int:=fidx (fun p:Pg=>p.name.toList == s.toList) l
theorem gfind1_any (p:Pg) (u:Value) (A:Option Addr) (n c:Nat) (B:Option Addr) (m d:Nat) (s:ByteArray) (b:Nat) (h:Vw) (hc:Cells h b 0 [.string s]) :
  C0 Tryz.prog 158 #[.agg #[.string p.name,.slice A n c,.int .i64 p.skip.op,.int .i64 p.skip.k,.int .i64 p.skip.n,.string p.skip.s,.string p.skip.nm,.slice B m d],.pointer (some ⟨b,0,none⟩)] h (fun r _=>r=.bool (p.name.toList == s.toList)):=by
 refine fY Tryz.func158 (c:=Tryz.f158.body.getD .skip) (N:=8) ?_
 intro hbx hbad Q hQ a w hJ
 replace hJ:K ⟨8,h.w,h.bad,[]⟩ [(0,.agg #[.string p.name,.slice A n c,Vi p.skip.op,Vi p.skip.k,Vi p.skip.n,.string p.skip.s,.string p.skip.nm,.slice B m d]),(1,Vp b)] [] [] h a w:=hJ.tw
 replace hJ:=hJ.fact (hc.sees (Sees.refl _))
 refine rx' hJ false 16 [.own,.b 0 0,.f 0 0] [] (.new fun b1=>.ok (.out .ret) [] [(3,.bool (p.name.toList == s.toList))] [.box b1 [.string p.name,.slice A n c,Vi p.skip.op,Vi p.skip.k,Vi p.skip.n,.string p.skip.s,.string p.skip.nm,.slice B m d]] [(b,0,[.string s])]) (fun b1 _=>by kernel_rfl) ?_
 clear hJ a w; intro b1 a w hJ
 refine gY (hQ [.bool (p.name.toList == s.toList)] _ [] hJ (.rtm hJ.j .nil) (fJ _) rfl ?_).1
 exact rfl
theorem gidxF_any (s:ByteArray) (l:List Pg) (us vs:List Value) (A:Option Addr) (cap:Nat) (b:Nat) (h:Vw) (hr:RS h 8 (.slice A l.length cap) (kW l us vs)) (hs:AllStr h (l.map (·.fields)) us) (ha:AllArgs h (l.map (·.skip)) vs) (hl:l.length≤1000000) (hc:Cells h b 0 [.string s]) (hfl:∀ p∈l,p.fields.length≤1000000) :
  C0 Tryz.prog 157 #[.slice A l.length cap,.func (.func 158) #[] #[.pointer (some ⟨b,0,none⟩)]] h (fun r _=>r=.int .i64 (findG l s)):=by
 have hat:=fun i p hp=>pg_at (i:=i) (p:=p) hs ha hp
 generalize hL:l.length=len at *
 refine fY Tryz.func157 (c:=Tryz.f157.body.getD .skip) (N:=19) ?_
 intro hbx hbad Q hQ a w hJ
 refine rk' hJ false 14 [] [] (.k (.code [0,1,0,1]) [.block 0,.seq [1,1]] [0,1] [(7,Vi (len:Int)),(8,Vi 0)]) ?_
 clear hJ a w; intro a w hJ
 refine kY (fun (k:Nat) a w=>∃ (h1:Vw) ,K ⟨19,h.w,h.bad,[]⟩ [(0,.slice A len cap),(1,.func (.func 158) #[] #[Vp b]),(7,Vi (len:Int)),(8,Vi (k:Int))] [] [] h1 a w∧Sees h h1∧(k≤len)∧(∀ y∈l.take k,(y.name.toList == s.toList)=false)) (fun k=>len - k) (0) ⟨h,hJ.tw,Sees.refl _,Nat.zero_le _,fun y hy=>by simp at hy⟩ ?_
 clear hJ a w; rintro k a w ⟨h1,hJ,s2,hk,hn⟩
 refine rk' hJ false 6 [] [] (.k (.code [0,1,0,0,1,0,1]) [.seq [1,1,0,0,1,0,1]] [0,1,7,8] [(9,.bool (decide ((k:Int) < (len:Int))))]) ?_
 clear hJ a w; intro a w hJ
 rcases (by omega:k < len∨k=len) with hlt | hke
 ·obtain ⟨p,hpk⟩:∃ p,l[k]?=some p:=⟨_,List.getElem?_eq_getElem (by omega)⟩
  obtain ⟨Au,cu,Bu,mu,du,hrow,hrs,-⟩:=hat k p hpk
  have hpl:=hfl p (List.mem_of_getElem? hpk)
  refine qY hJ (t:=decide ((k:Int) < (len:Int))) (decide_eq_true (by omega)) ?_
  refine rk' hJ false 15 [] [] (.k (.ops [0,1,0,0,1,1,0,0,1,0,1] 3) [.seq [1,1,0,0,1,1,0,0,1,0,1],.block 1,.seq [1,1,1,0,0,1,0,1]] [0,1,7,8] [(5,Vi (k:Int)),(11,.func (.func 158) #[] #[Vp b]),(12,.slice A len cap),(13,Vi (k:Int))]) ?_
  clear hJ a w; intro a w hJ
  obtain ⟨b3,o4,rfl,-,c5⟩:=RS.row hr (hrow)
  replace hJ:=hJ.fact (c5.sees s2)
  refine rk' hJ false 5 [.ix b3 o4 len cap k,.f 0 0,.cl 158 #[.agg #[.string p.name,.slice Au p.fields.length cu,Vi p.skip.op,Vi p.skip.k,Vi p.skip.n,.string p.skip.s,.string p.skip.nm,.slice Bu mu du],Vp b] (.bool (p.name.toList == s.toList))] [] (.k (.code [1,1,0,0,1,1,0,0,1,0,1]) [.block 1,.seq [1,1,1,0,0,1,0,1]] [0,1,7,8,5] [(16,.bool (p.name.toList == s.toList))]) (ho:=And.intro (by first | omega | (simp; omega)) (And.intro (fun H sH=>gfind1_any p (Vz) _ _ _ _ _ _ s b _ (hc.sees (s2.trans sH))) (trivial))) ?_
  clear hJ a w; intro a w hJ
  cases hq:p.name.toList == s.toList with
  | true =>
   refine qY hJ (t:=p.name.toList == s.toList) (hq) ?_
   refine rk' hJ false 9 [] [] (.k (.out .ret) [] [] [(4,Vi (k:Int))]) ?_
   clear hJ a w; intro a w hJ
   refine jY rfl ?_
   refine rk' hJ false 2 [] [] (.k (.out .ret) [] [4] []) ?_
   clear hJ a w; intro a w hJ
   refine gY (hQ [Vi (k:Int)] _ [] hJ (.rtm hJ.j .nil) (fJ _) rfl ?_).1
   exact congrArg (Value.int .i64) (eQ _ l k p hn hpk hq).symm
  | false =>
   refine iY hJ (t:=p.name.toList == s.toList) (hq) ?_
   refine rk' hJ false 7 [] [(18,Vi (IntKind.i64.wrap ((k:Int) + 1)),Vi ((k:Int) + 1))] (.k (.out .normal) [] [0,1,7] [(8,Vi ((k:Int) + 1))]) (hc:=And.intro (kJ (by omega) (by omega)) (trivial)) ?_
   clear hJ a w; intro a w hJ
   exact pY ⟨k + 1,⟨h1,(hJ.tof [] (F':=[]) (by kernel_rfl)).to (by kernel_rfl) (by kernel_rfl) rfl,s2,by omega,(by rw [tX l k p hpk]; exact fun y hy=>(List.mem_append.1 hy).elim (hn y) (fun e=>by rw [List.mem_singleton.1 e]; exact hq))⟩,by omega⟩
 ·skip
  have htk:l.take k=l:=by rw [hke,← hL,List.take_length]
  rw [htk] at hn
  refine iY hJ (t:=decide ((k:Int) < (len:Int))) (decide_eq_false (by omega)) ?_
  refine rx' hJ false 2 [] [] (.ok (.out (.exit 0)) [] [] [] []) (fun _=>by kernel_rfl) ?_
  clear hJ a w; intro a w hJ
  refine jY rfl ?_
  refine rx' hJ false 8 [] [] (.ok (.out .ret) [] [(4,Vi (-1))] [] []) (fun _=>by kernel_rfl) ?_
  clear hJ a w; intro a w hJ
  refine gY (hQ [Vi (-1)] _ [] hJ (.rtm hJ.j .nil) (fJ _) rfl ?_).1
  exact congrArg (Value.int .i64) (fQ _ l hn).symm
theorem gFind_any (l:List Pg) (v:Value) (s:ByteArray) (h:Vw) (hp:IsPgs h v l) (hl:l.length≤1000000) (hfl:∀ p∈l,p.fields.length≤1000000):C0 Tryz.prog 130 #[v,.string s] h (fun r _=>r=.tuple #[.int .i64 (if findG l s < 0 then 0 else findG l s),.int .i64 (if findG l s < 0 then 5 else 0)]):=by
 obtain ⟨us,vs,A,cap,rfl,-,hr,hs,ha,-,-⟩:=pgs_open hp
 have hi:=fun H b q1 q2 q3 q4=>gidxF_any s l us vs A cap b H q1 q2 q3 hl q4 hfl
 generalize findG l s=p at *
 refine fY Tryz.func130 (c:=Tryz.f130.body.getD .skip) (N:=13) ?_
 intro hbx hbad Q hQ a w hJ
 refine rx' hJ true 11 [.fix] [] (.new fun bsn=>.ok (.ops [0,1] 2) [.seq [1,1]] [(7,.slice A l.length cap),(8,.func (.func 158) #[] #[Vp bsn])] [] [(bsn,0,[.string s])]) (fun bsn _=>by kernel_rfl) ?_
 clear hJ a w; intro bsn h1 a w s2 hJ
 have sn:Cells h1 bsn 0 [.string s]:=hJ.f _ (List.mem_of_getElem? (i:=0) rfl)
 refine rk' hJ false 11 [.cl 157 #[.slice A l.length cap,.func (.func 158) #[] #[Vp bsn]] (Vi p)] [] (.k (.code [1,0,1,1]) [.seq [1,1,1]] [] [(6,Vi p),(11,.bool (decide (p < 0)))]) (ho:=And.intro (fun H sH=>hi _ _ (hr.sees (s2.trans sH)) (hs.sees (s2.trans sH)) (ha.sees (s2.trans sH)) (sn.sees sH)) (trivial)) ?_
 clear hJ a w; intro a w hJ
 by_cases hp:p < 0
 ·refine qY hJ (t:=decide (p < 0)) (decide_eq_true hp) ?_
  refine rk' hJ false 8 [] [] (.k (.out .ret) [] [] [(4,Vi 0),(5,Vi 5)]) ?_
  clear hJ a w; intro a w hJ
  refine gY (hQ [Vi 0,Vi 5] _ [] hJ (.rtm hJ.j (.rtm hJ.j .nil)) (fJ _) rfl ?_).1
  rw [if_pos hp,if_pos hp]; rfl
 ·skip
  refine iY hJ (t:=decide (p < 0)) (decide_eq_false hp) ?_
  refine rk' hJ false 10 [] [] (.k (.out .ret) [] [] [(4,Vi p),(5,Vi 0)]) ?_
  clear hJ a w; intro a w hJ
  refine gY (hQ [Vi p,Vi 0] _ [] hJ (.rtm hJ.j (.rtm hJ.j .nil)) (fJ _) rfl ?_).1
  rw [if_neg hp,if_neg hp]; rfl
theorem never_yes (nm:ByteArray) (A:Option Addr) (n c:Nat) (B:Option Addr) (d:Nat) (h:Vw):C0 Tryz.prog 104 #[.agg #[.string nm,.slice A n c,.int .i64 0,.int .i64 0,.int .i64 0,.string ⟨#[]⟩,.string ⟨#[]⟩,.slice B 0 d]] h (fun r _=>r=.bool true):=by
 refine fY Tryz.func104 (c:=Tryz.f104.body.getD .skip) (N:=26) ?_
 intro hbx hbad Q hQ a w hJ
 refine rx' hJ false 28 [.own,.b 0 2,.own,.b 0 0,.b 0 0,.b 0 4,.b 0 1] [] (.new fun b1=>.new fun b2=>.ok (.ops [0,1,1] 12) [.seq [1,1,1]] [(3,Vp b2),(14,.bool true),(16,.agg #[Vi 0,Vi 0,Ve]),(17,.agg #[Vi 0,Vi 0,Ve])] [.box b2 [Vi 0,Vi 0,Vi 0,Ve,Ve,.slice B 0 d],.box b1 [.string nm,.slice A n c,Vi 0,Vi 0,Vi 0,Ve,Ve,.slice B 0 d]] []) (fun b1 b2 _=>by kernel_rfl) ?_
 clear hJ a w; intro b1 b2 a w hJ
 refine x_pure hJ 18 (.bool true) (by kernel_rfl) (fun w=>run_eqop (x:=(.tmp 16)) (y:=(.tmp 17)) (v:=(⟨0,0,⟨#[]⟩⟩:Vl)) (w:=(⟨0,0,⟨#[]⟩⟩:Vl)) (by kernel_rfl) (by kernel_rfl) (by kernel_rfl) (eqB_iff.2 rfl)) ?_; clear hJ a w; intro a w hJ
 refine rk' hJ false 11 [.b 0 5] [] (.k (.out .ret) [] [] [(2,.bool true)]) ?_
 clear hJ a w; intro a w hJ
 refine gY (hQ [.bool true] _ [] hJ (.rtm hJ.j .nil) (fJ _) rfl ?_).1
 exact rfl
theorem never_no (nm:ByteArray) (x:Ex) (A:Option Addr) (n c:Nat) (B:Option Addr) (m d:Nat) (h:Vw) (hx:x.op≠0):C0 Tryz.prog 104 #[.agg #[.string nm,.slice A n c,.int .i64 x.op,.int .i64 x.k,.int .i64 x.n,.string x.s,.string x.nm,.slice B m d]] h (fun r _=>r=.bool false):=by
 refine fY Tryz.func104 (c:=Tryz.f104.body.getD .skip) (N:=26) ?_
 intro hbx hbad Q hQ a w hJ
 refine rx' hJ false 40 [.own,.b 0 2,.own,.b 0 0,.b 0 0] [(8,.bool (x.op == 0),.bool false)] (.new fun b1=>.new fun b2=>.ok (.out .ret) [] [(2,.bool false)] [.box b2 [Vi x.op,Vi x.k,Vi x.n,.string x.s,.string x.nm,.slice B m d],.box b1 [.string nm,.slice A n c,Vi x.op,Vi x.k,Vi x.n,.string x.s,.string x.nm,.slice B m d]] []) (hc:=And.intro (congrArg Value.bool (beq_eq_false_iff_ne.2 hx)) (trivial)) (fun b1 b2 _=>by kernel_rfl) ?_
 clear hJ a w; intro b1 b2 a w hJ
 refine gY (hQ [.bool false] _ [] hJ (.rtm hJ.j .nil) (fJ _) rfl ?_).1
 exact rfl
end Go.Proofs.YthckljafinhepaaGreat
namespace Go.Proofs.YthckljafinhepaaGreat
open Go.RowKit
set_option linter.unusedVariables false
theorem pgRows_take:∀ (k:Nat) {l:List Pg} {us vs:List Value},us.length=l.length→vs.length=l.length→(kW l us vs).take k=kW (l.take k) (us.take k) (vs.take k)
 | 0,l,us,vs,_,_=>by simp [kW]
 | k + 1,[],[],[],_,_=>rfl
 | k + 1,p :: l,u :: us,v :: vs,h1,h2=>by
  show (pgRow p u v :: kW l us vs).take (k + 1)=pgRow p u v :: kW (l.take k) (us.take k) (vs.take k)
  rw [List.take_succ_cons,pgRows_take k (by simpa using h1) (by simpa using h2)]
theorem AllStr.take {h:Vw}:∀ (k:Nat) {l:List (List ByteArray)} {us:List Value},AllStr h l us→AllStr h (l.take k) (us.take k)
 | 0,_,_,_=>rfl
 | k + 1,[],_,e=>by cases e; rfl
 | k + 1,x :: l,_,⟨u,r,e,k1,k2⟩=>by subst e; exact ⟨u,r.take k,rfl,k1,AllStr.take k k2⟩
theorem pgs_take {h:Vw} {A:Option Addr} {cap:Nat} {l:List Pg} (hp:IsPgs h (.slice A l.length cap) l) (k:Nat) (hk:k≤l.length):IsPgs h (.slice A k cap) (l.take k):=by
 obtain ⟨us,vs,hr,hs,ha⟩:=hp
 have hu:=hs.len
 have hv:=ha.len
 rw [List.length_map] at hu hv
 refine ⟨us.take k,vs.take k,?_,?_,?_⟩
 ·have:=hr.take k (by rw [lW hu hv]; omega)
  rwa [pgRows_take k hu hv] at this
 ·rw [List.map_take]; exact AllStr.take k hs
 ·rw [List.map_take]; exact AllArgs.take' k ha
structure OkGs (fs:List Fd) (l:List Pg):Prop where
 one:1≤l.length
 few:l.length≤6
 name:∀ p∈l,sJ p.name.data.toList
 nodup:(l.map (·.name)).Nodup
 fl:∀ p∈l,p.fields.length≤100
 here:∀ p∈l,∀ s∈p.fields,0≤gQ fs s
 once:(l.flatMap (·.fields)).Nodup
 skip:∀ p∈l,p.skip=zE∨(p.skip.op≠0∧WfE p.skip∧(szE p.skip).1 < 1000000∧fitsE fs p.skip 2=0)
set_option maxHeartbeats 8000000 in
theorem pgCheck_any (fs:List Fd) (fv:Value) (l:List Pg) (v:Value) (h:Vw) (hok:OkGs fs l) (hp:IsPgs h v l) (hfs:IsFds h fv fs) (hfl:fs.length≤1000):C0 Tryz.prog 105 #[v,fv] h (fun r _=>r=.int .i64 0):=by
 obtain ⟨us,vs,A,cap,rfl,hcap,hr,hs,ha,hul,hvl⟩:=pgs_open hp
 have hlc:l.length≤cap:=by
  obtain ⟨A',c',e',h1,-,-⟩:=hr.form
  rw [lW hul hvl] at h1
  simp only [Value.slice.injEq] at e'
  omega
 obtain ⟨-,Af,cf,rfl,-,-,-,-,-,-⟩:=dQ hfs
 have one:=hok.one
 have few:=hok.few
 have hat:=fun i p hp=>pg_at (i:=i) (p:=p) hs ha hp
 have htk:=fun k hk=>pgs_take (h:=h) (A:=A) (cap:=cap) (l:=l) hp k hk
 have hFi:=fun H s q=>findP_any fs (.slice Af fs.length cf) s H q (by omega)
 have hGf:=fun k H s q=>gFind_any (l.take k) (.slice A k cap) s H q (by rw [List.length_take]; omega) (fun p hp=>by have:=hok.fl p (List.mem_of_mem_take hp); omega)
 generalize hL:l.length=len at *
 generalize hM:fs.length=fl at *
 refine fY Tryz.func105 (c:=Tryz.f105.body.getD .skip) (N:=82) ?_
 intro hbx hbad Q hQ a w hJ
 refine rk' hJ false 35 [] [(18,.bool (decide ((len:Int) < 1)),.bool false),(22,.bool (decide ((len:Int) > 6)),.bool false)] (.k (.code [0,1,0,1,1,1]) [.block 0,.seq [1,1,1,1]] [0,1] [(5,Vz),(24,.slice A len cap),(25,Vi (len:Int)),(26,Vi 0)]) (hc:=And.intro (congrArg Value.bool (decide_eq_false (by omega))) (And.intro (congrArg Value.bool (decide_eq_false (by omega))) (trivial))) ?_
 clear hJ a w; intro a w hJ
 replace hJ:=hJ.nilrow 9 1
 refine kY (fun (k:Nat) a w=>∃ (h1:Vw) (mv:Value),K ⟨82,h.w,h.bad,[]⟩ [(0,.slice A len cap),(1,.slice Af fl cf),(24,.slice A len cap),(25,Vi (len:Int)),(26,Vi (k:Int)),(5,mv)] [.row mv 9 1 (sX ((l.take k).flatMap (·.fields)))] [] h1 a w∧Sees h h1∧(k≤len)) (fun k=>len - k) (0) ⟨h,(Vz),hJ.tw,Sees.refl _,Nat.zero_le _⟩ ?_
 clear hJ a w; rintro k a w ⟨h1,mv,hJ,s2,hk⟩
 refine rk' hJ false 6 [] [] (.k (.code [0,1,0,0,1,0,1,1,1]) [.seq [1,1,0,0,1,0,1,1,1]] [0,1,24,25,26,5] [(27,.bool (decide ((k:Int) < (len:Int))))]) ?_
 clear hJ a w; intro a w hJ
 rcases (by omega:k < len∨k=len) with hlt | hke
 ·obtain ⟨p,hpk⟩:∃ p,l[k]?=some p:=⟨_,List.getElem?_eq_getElem (by omega)⟩
  have hpm:=List.mem_of_getElem? hpk
  obtain ⟨Au,cu,Bu,mu,du,hrow,hrs,hxa⟩:=hat k p hpk
  have hnm:=hok.name p hpm
  have htp:=htk k hk
  have hno:findG (l.take k) p.name = -1:=fQ _ _ fun y hy=>tl_no fun e=>by
   obtain ⟨j,hj⟩:=List.mem_iff_getElem?.1 hy
   rw [List.getElem?_take] at hj
   split at hj
   ·rename_i hjk
    have h1:(l.map (fun p:Pg=>p.name))[j]?=some p.name:=by rw [List.getElem?_map,hj]; simp [e]
    have h2:(l.map (fun p:Pg=>p.name))[k]?=some p.name:=by rw [List.getElem?_map,hpk]; rfl
    have:=(List.getElem?_inj (by rw [List.length_map]; omega) hok.nodup).1 (h1.trans h2.symm)
    omega
   ·cases hj
  have hGk:=fun H q=>hGf k H p.name q
  rw [hno] at hGk
  have hfk:=hok.fl p hpm
  have hhere:=hok.here p hpm
  have hsn:(l.take (k + 1)).flatMap (fun p:Pg=>p.fields)=(l.take k).flatMap (fun p:Pg=>p.fields)++p.fields:=by rw [tX l k p hpk,List.flatMap_append]; simp
  have hone:((l.take k).flatMap (fun p:Pg=>p.fields)++p.fields).Nodup:=by
   rw [← hsn]
   have ho:=hok.once
   have e:l.flatMap (fun p:Pg=>p.fields)=(l.take (k + 1)).flatMap (fun p:Pg=>p.fields)++(l.drop (k + 1)).flatMap (fun p:Pg=>p.fields):=by rw [← List.flatMap_append,List.take_append_drop]
   rw [e] at ho
   exact (List.nodup_append.1 ho).1
  have hdl:((l.take k).flatMap (fun p:Pg=>p.fields)).length≤600:=by
   have key:∀ m:List Pg,(∀ p∈m,p.fields.length≤100)→(m.flatMap (fun p:Pg=>p.fields)).length≤100 * m.length:=by
    intro m
    induction m with
    | nil=>intro _; simp
    | cons q m ih =>
     intro hm
     have h1:=hm q (by simp)
     have h2:=ih fun z hz=>hm z (by simp [hz])
     rw [List.flatMap_cons,List.length_append,List.length_cons]
     omega
   have:=key (l.take k) fun q hq=>hok.fl q (List.mem_of_mem_take hq)
   rw [List.length_take] at this
   omega
  have hskip:=hok.skip p hpm
  generalize (l.take k).flatMap (fun p:Pg=>p.fields)=dn at *
  refine qY hJ (t:=decide ((k:Int) < (len:Int))) (decide_eq_true (by omega)) ?_
  refine rk' hJ false 7 [] [] (.k (.ops [0,0,0,1,1,0,0,1,0,1,1,1] 1) [.seq [1,0,0,1,1,0,0,1,0,1,1,1],.block 1,.seq [1,1,1,0,0,1,0,1,1,1]] [0,1,24,25,26,5] [(28,Vi (k:Int))]) ?_
  clear hJ a w; intro a w hJ
  obtain ⟨b3,o4,rfl,-,c5⟩:=RS.row hr (hrow)
  replace hJ:=hJ.fact (c5.sees s2)
  refine rk hJ false 27 [.ix b3 o4 len cap k,.f 0 0,.own,.b 0 0,.b 0 0,.cl 129 #[.string p.name] (Vi 0)] [] (.new fun b6=>.f (.code [0,0,1,1,0,0,1,1,0,0,1,0,1,1,1]) [.seq [1,0,1,1,0,0,1,1,0,0,1,0,1,1,1],.seq [1,1,1,0,0,1,1,0,0,1,0,1,1,1],.block 1,.seq [1,1,1,0,0,1,0,1,1,1]] [0,1,24,25,26,5] [(7,Vp b6),(6,Vi (k:Int))] [.box b6 [.string p.name,.slice Au p.fields.length cu,Vi p.skip.op,Vi p.skip.k,Vi p.skip.n,.string p.skip.s,.string p.skip.nm,.slice Bu mu du],.row mv 9 1 (sX dn)] [.o 0]) (And.intro (by first | omega | (simp; omega)) (And.intro (fun H sH=>c_name _ _ hnm) (trivial))) trivial (fun b6 _=>by kernel_rfl) ?_
  clear hJ a w; intro b6 a w hJ
  let R:Reg:=⟨⟨82,h.w,h.bad,[]⟩,[(0,38,fun gh=>.slice (some ⟨b3,o4,none⟩) len cap),(1,39,fun gh=>Vi (k:Int)),(2,40,fun gh=>.slice (some ⟨b3,o4,none⟩) k cap),(3,41,fun gh=>Vp b6),(4,42,fun gh=>.string p.name),(5,43,fun gh=>.tuple #[Vi 0,Vi 5]),(6,37,fun gh=>.tuple #[Vi 0,Vi 5]),(7,44,fun gh=>Vi 0),(8,45,fun gh=>Vi 5),(9,9,fun gh=>Vi 0),(10,10,fun gh=>Vi 5)],[(0,.slice (some ⟨b3,o4,none⟩) len cap),(1,.slice Af fl cf),(24,.slice (some ⟨b3,o4,none⟩) len cap),(25,Vi (len:Int)),(26,Vi (k:Int)),(5,mv),(7,Vp b6),(6,Vi (k:Int))],[⟨some (.box b6 [.string p.name,.slice Au p.fields.length cu,Vi p.skip.op,Vi p.skip.k,Vi p.skip.n,.string p.skip.s,.string p.skip.nm,.slice Bu mu du]),[]⟩,⟨some (.row mv 9 1 (sX dn)),[]⟩],[],[[],[],[0,1],[],[3],[0,1,2,3,4],[0,1,2,3,4,5],[0,1,2,3,4,5,6],[0,1,2,3,4,5,6],[0,1,2,3,4,5,6,7],[0,1,2,3,4,5,6,7,8,9]],h1⟩
  have hmono:∀ zq∈R.F,∀ zx zh zi,Sees zh zi→zq.2 zx zh→zq.2 zx zi:=lJ
  refine oY (by kernel_rfl) R hJ 11 [.pu,.pu,.cl,.pu,.ld 0 0,.cl,.pu,.pu,.pu,.pu,.pu] (by kernel_rfl) hmono (fun _ _ _=>by kernel_rfl) (fun hT hA=>?_) ?_
  ·clear hJ
   refine And.intro (sW hT hA 40 (fun gh=>.slice (some ⟨b3,o4,none⟩) k cap) [0,1] 2 (fun gh w=>run_hi (t:=24) (e:=79) (x:=(.tmp 38)) (y:=(.tmp 39)) (A:=(some ⟨b3,o4,none⟩)) (n:=len) (cap:=cap) (k:=k) (kk:=8) (by kernel_rfl) (by kernel_rfl) (by kernel_rfl) (by omega) Tryz.underlying24 (by kernel_rfl))) ?_
   refine And.intro (rW hT hA hmono 43 (fun gh=>.tuple #[Vi 0,Vi 5]) [2,4] 5 130 (fun gh=>#[.slice (some ⟨b3,o4,none⟩) k cap,.string p.name]) (fun gh H sH fH lent=>hGk _ (htp.sees (s2.trans sH)))) ?_
   trivial
  clear hJ a w; intro gh h7 a w sR hJ1 hF; have s8:Sees h1 h7:=sR; clear sR
  have hJ:K ⟨82,h.w,h.bad,[]⟩ [(0,.slice (some ⟨b3,o4,none⟩) len cap),(1,.slice Af fl cf),(24,.slice (some ⟨b3,o4,none⟩) len cap),(25,Vi (len:Int)),(26,Vi (k:Int)),(5,mv),(7,Vp b6),(10,Vi 5)] [.box b6 [.string p.name,.slice Au p.fields.length cu,Vi p.skip.op,Vi p.skip.k,Vi p.skip.n,.string p.skip.s,.string p.skip.nm,.slice Bu mu du],.row mv 9 1 (sX dn)] [(b3,o4 + k * 8,[.string p.name,.slice Au p.fields.length cu,Vi p.skip.op,Vi p.skip.k,Vi p.skip.n,.string p.skip.s,.string p.skip.nm,.slice Bu mu du])] h7 a w:=hJ1.tw
  clear hJ1 hF hmono R
  clear gh
  refine rk' hJ false 20 [.b 0 1] [] (.k (.code [0,1,0,1,1,1,0,0,1,1,0,0,1,0,1,1,1]) [.block 2,.seq [1,1,1,1,0,0,1,1,0,0,1,0,1,1,1],.block 1,.seq [1,1,1,0,0,1,0,1,1,1]] [0,1,24,25,26,5,7] [(49,.slice Au p.fields.length cu),(50,Vi (p.fields.length:Int)),(51,Vi 0)]) ?_
  clear hJ a w; intro a w hJ
  have hd0:sX dn=sX (dn++p.fields.take 0):=by simp
  rw [hd0] at hJ
  refine kY (fun (j:Nat) a w=>∃ (h9:Vw) (nv:Value),K ⟨82,h.w,h.bad,[]⟩ [(0,.slice (some ⟨b3,o4,none⟩) len cap),(1,.slice Af fl cf),(24,.slice (some ⟨b3,o4,none⟩) len cap),(25,Vi (len:Int)),(26,Vi (k:Int)),(7,Vp b6),(49,.slice Au p.fields.length cu),(50,Vi (p.fields.length:Int)),(51,Vi (j:Int)),(5,nv)] [.box b6 [.string p.name,.slice Au p.fields.length cu,Vi p.skip.op,Vi p.skip.k,Vi p.skip.n,.string p.skip.s,.string p.skip.nm,.slice Bu mu du],.row nv 9 1 (sX (dn++p.fields.take j))] [(b3,o4 + k * 8,[.string p.name,.slice Au p.fields.length cu,Vi p.skip.op,Vi p.skip.k,Vi p.skip.n,.string p.skip.s,.string p.skip.nm,.slice Bu mu du])] h9 a w∧Sees h7 h9∧(j≤p.fields.length)) (fun j=>p.fields.length - j) (0) ⟨h7,mv,hJ.tw,Sees.refl _,Nat.zero_le _⟩ ?_
  clear hJ a w; rintro j a w ⟨h9,nv,hJ,s10,hj⟩
  refine rk' hJ false 6 [] [] (.k (.code [0,1,0,0,1,0,1,1,1,0,0,1,1,0,0,1,0,1,1,1]) [.seq [1,1,0,0,1,0,1,1,1,0,0,1,1,0,0,1,0,1,1,1]] [0,1,24,25,26,7,49,50,51,5] [(52,.bool (decide ((j:Int) < (p.fields.length:Int))))]) ?_
  clear hJ a w; intro a w hJ
  rcases (by omega:j < p.fields.length∨j=p.fields.length) with hjl | hje
  ·obtain ⟨s,hsj⟩:∃ s,p.fields[j]?=some s:=⟨_,List.getElem?_eq_getElem hjl⟩
   have hsr:=str_row hsj
   have hse:gQ fs s=((plc fs s:Nat):Int):=by have:=hhere s (List.mem_of_getElem? hsj); unfold plc; omega
   have hFs:=fun H q=>hFi H s q
   rw [if_neg (by omega)] at hFs
   have hjn:=tX _ j s hsj
   have hnin:memS (dn++p.fields.take j) s=false:=by
    rw [Bool.eq_false_iff]
    intro q
    have q:=memS_iff.1 q
    rcases List.mem_append.1 q with q | q
    ·exact (List.nodup_append.1 hone).2.2 s q s (List.mem_of_getElem? hsj) rfl
    ·have hd:=(List.nodup_append.1 hone).2.1
     obtain ⟨i,hi⟩:=List.mem_iff_getElem?.1 q
     rw [List.getElem?_take] at hi
     split at hi
     ·have:=(List.getElem?_inj (by omega) hd).1 (hi.trans hsj.symm); omega
     ·cases hi
   have hco:=fun H u q=>contS_any (dn++p.fields.take j) u s H q (by rw [List.length_append,List.length_take]; omega)
   rw [hnin] at hco
   refine qY hJ (t:=decide ((j:Int) < (p.fields.length:Int))) (decide_eq_true (by omega)) ?_
   refine rk' hJ false 6 [] [] (.k (.ops [0,0,0,1,1,0,0,1,0,1,1,1,0,0,1,1,0,0,1,0,1,1,1] 0) [.seq [1,0,0,1,1,0,0,1,0,1,1,1,0,0,1,1,0,0,1,0,1,1,1],.block 3,.seq [1,1,1,0,0,1,0,1,1,1,0,0,1,1,0,0,1,0,1,1,1]] [0,1,24,25,26,7,49,50,51,5] []) ?_
   clear hJ a w; intro a w hJ
   obtain ⟨b11,o12,rfl,-,c13⟩:=RS.row hrs (hsr)
   replace hJ:=hJ.fact (c13.sees (s2.trans (s8.trans s10)))
   refine rk' hJ false 32 [.ix b11 o12 p.fields.length cu j,.f 0 0,.cl 70 #[.slice Af fl cf,.string s] (.tuple #[Vi ((plc fs s:Nat):Int),Vi 0])] [] (.k (.ops [0,0,1,1,0,0,1,1,0,0,1,0,1,1,1,0,0,1,1,0,0,1,0,1,1,1] 2) [.seq [1,0,1,1,0,0,1,1,0,0,1,0,1,1,1,0,0,1,1,0,0,1,0,1,1,1],.seq [1,1,1,0,0,1,1,0,0,1,0,1,1,1,0,0,1,1,0,0,1,0,1,1,1],.block 3,.seq [1,1,1,0,0,1,0,1,1,1,0,0,1,1,0,0,1,0,1,1,1]] [0,1,24,25,26,7,49,50,51,5] [(12,.string s),(64,nv),(65,.string s)]) (ho:=And.intro (by first | omega | (simp; omega)) (And.intro (fun H sH=>hFs _ (hfs.sees (s2.trans (s8.trans (s10.trans sH))))) (trivial))) ?_
   clear hJ a w; intro a w hJ
   refine x_callq hJ 66 (hco _ _ (hJ.j.rowQ (v:=nv) (e:=9) (k:=1) (l:=sX (dn++p.fields.take j)) 1 rfl)) (fun _=>by kernel_rfl) ?_; clear hJ a w; intro h14 a w s15 hJ
   refine rx' hJ true 9 [.fix] [] (.new fun b16=>.ok (.ops [1,1,1,0,0,1,1,0,0,1,0,1,1,1,0,0,1,1,0,0,1,0,1,1,1] 3) [.block 3,.seq [1,1,1,0,0,1,0,1,1,1,0,0,1,1,0,0,1,0,1,1,1]] [(0,.slice (some ⟨b3,o4,none⟩) len cap),(1,.slice Af fl cf),(24,.slice (some ⟨b3,o4,none⟩) len cap),(25,Vi (len:Int)),(26,Vi (k:Int)),(7,Vp b6),(49,.slice (some ⟨b11,o12,none⟩) p.fields.length cu),(50,Vi (p.fields.length:Int)),(51,Vi (j:Int)),(67,nv),(69,Vs b16 1 1)] [.box b6 [.string p.name,.slice (some ⟨b11,o12,none⟩) p.fields.length cu,Vi p.skip.op,Vi p.skip.k,Vi p.skip.n,.string p.skip.s,.string p.skip.nm,.slice Bu mu du],.row nv 9 1 (sX (dn++p.fields.take j))] [(b16,0,[.string s]),(b11,o12 + j * 1,[.string s]),(b3,o4 + k * 8,[.string p.name,.slice (some ⟨b11,o12,none⟩) p.fields.length cu,Vi p.skip.op,Vi p.skip.k,Vi p.skip.n,.string p.skip.s,.string p.skip.nm,.slice Bu mu du])]) (fun b16 _=>by kernel_rfl) ?_
   clear hJ a w; intro b16 h17 a w s18 hJ
   refine rk hJ true 9 [.ap 1 0 (sX (dn++p.fields.take j)) [[.string s]]] [(71,Vi (IntKind.i64.wrap ((j:Int) + 1)),Vi ((j:Int) + 1))] (.nv fun v70=>.f (.out .normal) [] [0,1,24,25,26,7,49,50] [(5,.slice (sA v70) (sN v70) (sC v70)),(51,Vi ((j:Int) + 1))] [.box b6 [.string p.name,.slice (some ⟨b11,o12,none⟩) p.fields.length cu,Vi p.skip.op,Vi p.skip.k,Vi p.skip.n,.string p.skip.s,.string p.skip.nm,.slice Bu mu du],.row (.slice (sA v70) (sN v70) (sC v70)) 9 1 ((sX (dn++p.fields.take j))++[[.string s]])] [.o 0,.o 1,.o 2]) (And.intro (by constructor <;> (simp; omega)) (trivial)) (And.intro (kJ (by omega) (by omega)) (trivial)) (fun v70 _=>by kernel_rfl) ?_
   clear hJ a w; intro v70 h19 a w s20 hJ
   exact pY ⟨j + 1,⟨h19,.slice (sA v70) (sN v70) (sC v70),(hJ.tof [2] (F':=[(b3,o4 + k * 8,[.string p.name,.slice (some ⟨b11,o12,none⟩) p.fields.length cu,Vi p.skip.op,Vi p.skip.k,Vi p.skip.n,.string p.skip.s,.string p.skip.nm,.slice Bu mu du])]) (by kernel_rfl)).to (by kernel_rfl) (by rw [hjn,← List.append_assoc]; simp [sX]) rfl,(s10.trans (s15.trans (s18.trans s20))),by omega⟩,by omega⟩
  ·skip
   have hta:dn++p.fields.take j=dn++p.fields:=by rw [hje,List.take_length]
   rw [hta] at hJ
   rcases hskip with hz | ⟨z1,z2,z3,z4⟩
   ·obtain ⟨Bz,dz,ez⟩:=args_zero (by rw [hz]; rfl) hxa
    obtain rfl:mu=0:=by simp only [Value.slice.injEq] at ez; exact ez.2.1
    have hnv:=fun H=>never_yes p.name Au p.fields.length cu Bu du H
    refine iY hJ (t:=decide ((j:Int) < (p.fields.length:Int))) (decide_eq_false (by omega)) ?_
    refine rk' hJ false 2 [] [] (.k (.out (.exit 2)) [] [0,1,24,25,26,7,5] []) ?_
    clear hJ a w; intro a w hJ
    refine jY rfl ?_
    refine rk' hJ false 18 [.b 0 0,.cl 104 #[.agg #[.string p.name,.slice Au p.fields.length cu,Vi p.skip.op,Vi p.skip.k,Vi p.skip.n,.string p.skip.s,.string p.skip.nm,.slice Bu 0 du]] (.bool true)] [(81,Vi (IntKind.i64.wrap ((k:Int) + 1)),Vi ((k:Int) + 1))] (.k (.out .normal) [] [0,1,24,25,5] [(26,Vi ((k:Int) + 1))]) (ho:=And.intro (fun H sH=>by rw [hz]; exact hnv _) (trivial)) (hc:=And.intro (kJ (by omega) (by omega)) (trivial)) ?_
    clear hJ a w; intro a w hJ
    replace hJ:=hJ.drop 0
    exact pY ⟨k + 1,⟨h9,nv,(hJ.tof [] (F':=[]) (by kernel_rfl)).to (by kernel_rfl) (by rw [hsn]; rfl) rfl,(s2.trans (s8.trans s10)),by omega⟩,by omega⟩
   ·skip
    have hnv:=fun H=>never_no p.name p.skip Au p.fields.length cu Bu mu du H z1
    have hft:=fun H q1 q2=>fits_any fs p.skip (.slice Bu mu du) (.slice Af fl cf) 2 H q1 z2 z3 q2
    rw [z4] at hft
    refine iY hJ (t:=decide ((j:Int) < (p.fields.length:Int))) (decide_eq_false (by omega)) ?_
    refine rk' hJ false 2 [] [] (.k (.out (.exit 2)) [] [0,1,24,25,26,7,5] []) ?_
    clear hJ a w; intro a w hJ
    refine jY rfl ?_
    refine rk' hJ false 35 [.b 0 0,.cl 104 #[.agg #[.string p.name,.slice Au p.fields.length cu,Vi p.skip.op,Vi p.skip.k,Vi p.skip.n,.string p.skip.s,.string p.skip.nm,.slice Bu mu du]] (.bool false),.b 0 2,.cl 131 #[.agg #[Vi p.skip.op,Vi p.skip.k,Vi p.skip.n,.string p.skip.s,.string p.skip.nm,.slice Bu mu du],.slice Af fl cf,Vi 2] (Vi 0)] [(81,Vi (IntKind.i64.wrap ((k:Int) + 1)),Vi ((k:Int) + 1))] (.k (.out .normal) [] [0,1,24,25,5] [(26,Vi ((k:Int) + 1))]) (ho:=And.intro (fun H sH=>hnv _) (And.intro (fun H sH=>hft _ (hxa.sees (s2.trans (s8.trans (s10.trans sH)))) (hfs.sees (s2.trans (s8.trans (s10.trans sH))))) (trivial))) (hc:=And.intro (kJ (by omega) (by omega)) (trivial)) ?_
    clear hJ a w; intro a w hJ
    replace hJ:=hJ.drop 0
    exact pY ⟨k + 1,⟨h9,nv,(hJ.tof [] (F':=[]) (by kernel_rfl)).to (by kernel_rfl) (by rw [hsn]; rfl) rfl,(s2.trans (s8.trans s10)),by omega⟩,by omega⟩
 ·skip
  refine iY hJ (t:=decide ((k:Int) < (len:Int))) (decide_eq_false (by omega)) ?_
  refine rk' hJ false 2 [] [] (.k (.out (.exit 0)) [] [] []) ?_
  clear hJ a w; intro a w hJ
  refine jY rfl ?_
  refine rk' hJ false 8 [] [] (.k (.out .ret) [] [] [(4,Vi 0)]) ?_
  clear hJ a w; intro a w hJ
  refine gY (hQ [Vi 0] _ [] hJ (.rtm hJ.j .nil) (fJ _) rfl ?_).1
  exact rfl
end Go.Proofs.YthckljafinhepaaGreat
namespace Go.Proofs.YthckljafinhepaaGreat
open Go.RowKit
set_option linter.unusedVariables false
structure OkFm (f:Fm) (ρ:List Int) (lv:Nat→Nat):Prop where
 fields:OkFs f.fields
 pages:OkGs f.fields f.pages
 rank:Ranked (qV f.fields) ρ lv
theorem shCheck_any (f:Fm) (ρ:List Int) (lv:Nat→Nat) (A:Option Addr) (n c:Nat) (B:Option Addr) (m d:Nat) (h:Vw) (hok:OkFm f ρ lv) (hf:IsForm h (.slice A n c) (.slice B m d) f) (hn:n=f.fields.length) :
  C0 Tryz.prog 84 #[.agg #[.slice A n c,.slice B m d]] h (fun r _=>r=.int .i64 0):=by
 have hR:=fun H q=>rankOf_any f.fields (.slice A n c) H hok.fields q ρ lv hok.rank
 have few:=hok.fields.few
 have hP:=fun H q1 q2=>pgCheck_any f.fields (.slice A n c) f.pages (.slice B m d) H hok.pages q1 q2 (by omega)
 rw [← hn] at hR
 refine fY Tryz.func84 (c:=Tryz.f84.body.getD .skip) (N:=21) ?_
 intro hbx hbad Q hQ a w hJ
 refine rx' hJ false 11 [.own,.b 0 0] [] (.new fun b1=>.ok (.ops [0,0,1] 2) [.seq [1,0,1],.seq [1,1]] [(1,Vp b1),(8,.slice A n c)] [.box b1 [.slice A n c,.slice B m d]] []) (fun b1 _=>by kernel_rfl) ?_
 clear hJ a w; intro b1 a w hJ
 refine dY hJ 9 (hR _ ((hf.sees hJ.j.sees)).fields) (fun _=>by kernel_rfl) ?_; clear hJ a w; rintro _ h2 a w s3 ⟨b,rfl,hro⟩ hJ
 refine rk' hJ false 24 [.b 0 1,.b 0 0] [] (.k (.ops [0,1,1] 4) [.seq [1,1,1]] [] [(17,.slice B m d),(19,.slice A n c)]) ?_
 clear hJ a w; intro a w hJ
 refine rk' hJ false 5 [.cl 105 #[.slice B m d,.slice A n c] (Vi 0)] [] (.k (.out .ret) [] [] [(2,Vi 0)]) (ho:=And.intro (fun H sH=>hP _ ((hf.sees (s3.trans sH))).pages ((hf.sees (s3.trans sH))).fields) (trivial)) ?_
 clear hJ a w; intro a w hJ
 refine gY (hQ [Vi 0] _ [] hJ (.rtm hJ.j .nil) (fJ _) rfl ?_).1
 exact rfl
end Go.Proofs.YthckljafinhepaaGreat
namespace Go.Proofs.YthckljafinhepaaGreat
open Go.RowKit
set_option linter.unusedVariables false
theorem known_no (v:Vl) (h:Vw) (hk:¬ v.k≤3) (h1:1≤v.k):C0 Tryz.prog 42 #[v.val] h (fun r _=>r=.bool false):=by
 refine fY Tryz.func42 (c:=Tryz.f42.body.getD .skip) (N:=16) ?_
 intro hbx hbad Q hQ a w hJ
 refine rx' hJ false 25 [.own,.b 0 0,.b 0 0] [(5,.bool (decide (v.k ≥ 1)),.bool true),(9,.bool (decide (v.k≤3)),.bool false)] (.new fun b1=>.ok (.out .ret) [] [(2,.bool false)] [.box b1 [Vi v.k,Vi v.n,.string v.s]] []) (hc:=And.intro (congrArg Value.bool (decide_eq_true h1)) (And.intro (congrArg Value.bool (decide_eq_false hk)) (trivial))) (fun b1 _=>by kernel_rfl) ?_
 clear hJ a w; intro b1 a w hJ
 refine gY (hQ [.bool false] _ [] hJ (.rtm hJ.j .nil) (fJ _) rfl ?_).1
 exact rfl
theorem chk_deep {x:Ex} (h:chkE x=0):(szE x).2≤12:=by
 unfold chkE at h
 split at h
 ·cases h
 ·split at h
  ·cases h
  ·omega
theorem asked_no (l:List Aw) (A:Option Addr) (n c:Nat) (s:ByteArray) (key:Vl) (h:Vw) (h4:¬ key.k≤3) (h1:1≤key.k):C0 Tryz.prog 63 #[.slice A n c,.string s,.agg #[.int .i64 key.k,.int .i64 key.n,.string key.s]] h (fun r _=>r=(askV l s key).val):=by
 have e:askV l s key=key:=by unfold askV; rw [if_neg h4]
 rw [e]
 have hk:=fun H=>known_no key H h4 h1
 refine fY Tryz.func63 (c:=Tryz.f63.body.getD .skip) (N:=33) ?_
 intro hbx hbad Q hQ a w hJ
 refine rx' hJ false 23 [.own,.own,.b 1 0,.cl 42 #[.agg #[Vi key.k,Vi key.n,.string key.s]] (.bool false),.b 1 0,.b 0 0] [] (.new fun b1=>.new fun b2=>.ok (.out .ret) [] [(6,Vp b2)] [.box b2 [Vi key.k,Vi key.n,.string key.s],.box b1 [Vi key.k,Vi key.n,.string key.s]] []) (ho:=And.intro (fun H sH=>hk _) (trivial)) (fun b1 b2 _=>by kernel_rfl) ?_
 clear hJ a w; intro b1 b2 a w hJ
 refine gY (hQ [.agg #[Vi key.k,Vi key.n,.string key.s]] _ [] hJ (.rcel hJ.j 0 .nil) (fJ _) rfl ?_).1
 exact rfl
theorem asked_yes (l:List Aw) (sl:Value) (s:ByteArray) (key:Vl) (h:Vw) (hr:RS h 7 sl (vJ l)) (hl:l.length≤1000000) (hk:key.known):C0 Tryz.prog 63 #[sl,.string s,.agg #[.int .i64 key.k,.int .i64 key.n,.string key.s]] h (fun r _=>r=(askV l s key).val):=by
 have e:askV l s key=askL s key l:=by unfold askV; rw [if_pos (known_kind hk).2]
 rw [e]
 have hkn:=c_kn key.k key.n key.s
 obtain ⟨A,c,rfl,-,-,-⟩:=hr.form
 rw [List.length_map] at *
 generalize hL:l.length=n at *
 refine fY Tryz.func63 (c:=Tryz.f63.body.getD .skip) (N:=33) ?_
 intro hbx hbad Q hQ a w hJ
 refine rk hJ false 26 [.own,.own,.b 1 0,.cl 42 #[.agg #[Vi key.k,Vi key.n,.string key.s]] (.bool true)] [] (.new fun b1=>.new fun b2=>.m (.code [0,1,0,1,1]) [.block 0,.seq [1,1,1]] [1] [(5,Vp b1),(6,Vp b2),(13,.slice A n c),(14,Vi (n:Int)),(15,Vi 0)] [.box b2 [Vi 0,Vi 0,Ve],.box b1 [Vi key.k,Vi key.n,.string key.s]] []) (And.intro (fun H sH=>hkn _ hk) (trivial)) trivial (fun b1 b2 _=>by kernel_rfl) ?_
 clear hJ a w; intro b1 b2 a w hJ
 refine kY (fun (k:Nat) a w=>∃ (h3:Vw) ,K ⟨33,h.w,h.bad,[]⟩ [(1,.string s),(5,Vp b1),(6,Vp b2),(13,.slice A n c),(14,Vi (n:Int)),(15,Vi (k:Int))] [.box b2 [Vi 0,Vi 0,Ve],.box b1 [Vi key.k,Vi key.n,.string key.s]] [] h3 a w∧Sees h h3∧(k≤n)∧(askL s key (l.drop k)=askL s key l)) (fun k=>n - k) (0) ⟨h,hJ.tw,Sees.refl _,Nat.zero_le _,rfl⟩ ?_
 clear hJ a w; rintro k a w ⟨h3,hJ,s4,hkl,hv⟩
 refine rk' hJ false 6 [] [] (.k (.code [0,1,0,0,1,0,1,1]) [.seq [1,1,0,0,1,0,1,1]] [1,5,6,13,14,15] [(16,.bool (decide ((k:Int) < (n:Int))))]) ?_
 clear hJ a w; intro a w hJ
 rcases (by omega:k < n∨k=n) with hlt | hke
 ·obtain ⟨p,hp⟩:∃ p,l[k]?=some p:=⟨_,List.getElem?_eq_getElem (by omega)⟩
  have hrow:(vJ l)[k]?=some (anRow p):=by rw [List.getElem?_map,hp]; rfl
  have hdr:l.drop k=p :: l.drop (k + 1):=by
   obtain ⟨h1,h2⟩:=List.getElem?_eq_some_iff.1 hp
   rw [List.drop_eq_getElem_cons h1,h2]
  rw [hdr,askL] at hv
  refine qY hJ (t:=decide ((k:Int) < (n:Int))) (decide_eq_true (by omega)) ?_
  refine rk' hJ false 6 [] [] (.k (.ops [0,0,0,1,1,0,0,1,0,1,1] 0) [.seq [1,0,0,1,1,0,0,1,0,1,1],.block 1,.seq [1,1,1,0,0,1,0,1,1]] [1,5,6,13,14,15] []) ?_
  clear hJ a w; intro a w hJ
  obtain ⟨b5,o6,rfl,-,c7⟩:=RS.row hr (hrow)
  replace hJ:=hJ.fact (c7.sees s4)
  refine rk hJ false 13 [.ix b5 o6 n c k,.f 0 0,.own,.b 0 0,.b 0 0] [] (.new fun b8=>.f (.ops [0,1,0,0,1,1,0,0,1,0,1,1] 5) [.seq [1,1,0,0,1,1,0,0,1,0,1,1],.block 1,.seq [1,1,1,0,0,1,0,1,1]] [1,5,6,13,14,15] [(8,Vp b8),(23,.bool (p.nm.toList == s.toList))] [.box b8 [.string p.nm,Vi p.key.k,Vi p.key.n,.string p.key.s,Vi p.has.k,Vi p.has.n,.string p.has.s],.box b2 [Vi 0,Vi 0,Ve],.box b1 [Vi key.k,Vi key.n,.string key.s]] [.o 0]) (And.intro (by first | omega | (simp; omega)) (trivial)) trivial (fun b8 _=>by kernel_rfl) ?_
  clear hJ a w; intro b8 a w hJ
  by_cases g:(p.nm.toList == s.toList)=true
  ·skip
   by_cases q:eqB p.key key=true
   ·have hh:p.hit s key=true:=by unfold Aw.hit; rw [g,q]; rfl
    rw [if_pos hh] at hv
    replace hJ:=hJ.rew 23 (v:=.bool (p.nm.toList == s.toList)) (v':=.bool true) (congrArg Value.bool g) (by kernel_rfl)
    replace hJ:K ⟨33,h.w,h.bad,[]⟩ [(1,.string s),(5,Vp b1),(6,Vp b2),(13,.slice (some ⟨b5,o6,none⟩) n c),(14,Vi (n:Int)),(15,Vi (k:Int)),(8,Vp b8),(23,.bool true)] [.box b8 [.string p.nm,Vi p.key.k,Vi p.key.n,.string p.key.s,Vi p.has.k,Vi p.has.n,.string p.has.s],.box b2 [Vi 0,Vi 0,Ve],.box b1 [Vi key.k,Vi key.n,.string key.s]] [(b5,o6 + k * 7,[.string p.nm,Vi p.key.k,Vi p.key.n,.string p.key.s,Vi p.has.k,Vi p.has.n,.string p.has.s])] h3 a w:=hJ.to (by kernel_rfl) rfl rfl
    refine rk' hJ false 3 [.b 0 1,.b 2 0] [] (.k (.ops [0,1,0,0,1,1,0,0,1,0,1,1] 8) [.seq [1,1,0,0,1,1,0,0,1,0,1,1],.block 1,.seq [1,1,1,0,0,1,0,1,1]] [1,5,6,13,14,15,8,23] [(25,.agg #[Vi p.key.k,Vi p.key.n,.string p.key.s]),(26,.agg #[Vi key.k,Vi key.n,.string key.s])]) ?_
    clear hJ a w; intro a w hJ
    refine x_pure hJ 27 (.bool true) (by kernel_rfl) (fun w=>run_eqop (x:=(.tmp 25)) (y:=(.tmp 26)) (v:=p.key) (w:=key) (by kernel_rfl) (by kernel_rfl) (by kernel_rfl) (q)) ?_; clear hJ a w; intro a w hJ
    refine rk' hJ false 14 [.b 0 4,.b 1 0] [] (.f (.out .ret) [] [6] [] [.box b8 [.string p.nm,Vi p.key.k,Vi p.key.n,.string p.key.s,Vi p.has.k,Vi p.has.n,.string p.has.s],.box b2 [Vi p.has.k,Vi p.has.n,.string p.has.s],.box b1 [Vi key.k,Vi key.n,.string key.s]] [.o 0]) ?_
    clear hJ a w; intro a w hJ
    refine jY rfl ?_
    refine rk' hJ false 2 [] [] (.k (.out .ret) [] [6] []) ?_
    clear hJ a w; intro a w hJ
    refine gY (hQ [.agg #[Vi p.has.k,Vi p.has.n,.string p.has.s]] _ [] hJ (.rcel hJ.j 1 .nil) (fJ _) rfl ?_).1
    exact congrArg Vl.val hv
   ·skip
    have hh:¬ p.hit s key=true:=by unfold Aw.hit; rw [g]; exact q
    rw [if_neg hh] at hv
    replace hJ:=hJ.rew 23 (v:=.bool (p.nm.toList == s.toList)) (v':=.bool true) (congrArg Value.bool g) (by kernel_rfl)
    replace hJ:K ⟨33,h.w,h.bad,[]⟩ [(1,.string s),(5,Vp b1),(6,Vp b2),(13,.slice (some ⟨b5,o6,none⟩) n c),(14,Vi (n:Int)),(15,Vi (k:Int)),(8,Vp b8),(23,.bool true)] [.box b8 [.string p.nm,Vi p.key.k,Vi p.key.n,.string p.key.s,Vi p.has.k,Vi p.has.n,.string p.has.s],.box b2 [Vi 0,Vi 0,Ve],.box b1 [Vi key.k,Vi key.n,.string key.s]] [(b5,o6 + k * 7,[.string p.nm,Vi p.key.k,Vi p.key.n,.string p.key.s,Vi p.has.k,Vi p.has.n,.string p.has.s])] h3 a w:=hJ.to (by kernel_rfl) rfl rfl
    refine rk' hJ false 3 [.b 0 1,.b 2 0] [] (.k (.ops [0,1,0,0,1,1,0,0,1,0,1,1] 8) [.seq [1,1,0,0,1,1,0,0,1,0,1,1],.block 1,.seq [1,1,1,0,0,1,0,1,1]] [1,5,6,13,14,15,8,23] [(25,.agg #[Vi p.key.k,Vi p.key.n,.string p.key.s]),(26,.agg #[Vi key.k,Vi key.n,.string key.s])]) ?_
    clear hJ a w; intro a w hJ
    refine x_pure hJ 27 (.bool false) (by kernel_rfl) (fun w=>run_eqop (x:=(.tmp 25)) (y:=(.tmp 26)) (v:=p.key) (w:=key) (by kernel_rfl) (by kernel_rfl) (by kernel_rfl) (Bool.eq_false_iff.2 q)) ?_; clear hJ a w; intro a w hJ
    refine rx' hJ false 11 [] [(31,Vi (IntKind.i64.wrap ((k:Int) + 1)),Vi ((k:Int) + 1))] (.ok (.out .normal) [] [(1,.string s),(5,Vp b1),(6,Vp b2),(13,.slice (some ⟨b5,o6,none⟩) n c),(14,Vi (n:Int)),(15,Vi ((k:Int) + 1))] [.box b8 [.string p.nm,Vi p.key.k,Vi p.key.n,.string p.key.s,Vi p.has.k,Vi p.has.n,.string p.has.s],.box b2 [Vi 0,Vi 0,Ve],.box b1 [Vi key.k,Vi key.n,.string key.s]] [(b5,o6 + k * 7,[.string p.nm,Vi p.key.k,Vi p.key.n,.string p.key.s,Vi p.has.k,Vi p.has.n,.string p.has.s])]) (hc:=And.intro (kJ (by omega) (by omega)) (trivial)) (fun _=>by kernel_rfl) ?_
    clear hJ a w; intro a w hJ
    replace hJ:=hJ.drop 0
    exact pY ⟨k + 1,⟨h3,(hJ.tof [] (F':=[]) (by kernel_rfl)).to (by kernel_rfl) (by kernel_rfl) rfl,s4,by omega,hv⟩,by omega⟩
  ·skip
   have hh:¬ p.hit s key=true:=by unfold Aw.hit; rw [Bool.eq_false_iff.2 g]; exact Bool.false_ne_true
   rw [if_neg hh] at hv
   replace hJ:=hJ.rew 23 (v:=.bool (p.nm.toList == s.toList)) (v':=.bool false) (congrArg Value.bool (Bool.eq_false_iff.2 g)) (by kernel_rfl)
   replace hJ:K ⟨33,h.w,h.bad,[]⟩ [(1,.string s),(5,Vp b1),(6,Vp b2),(13,.slice (some ⟨b5,o6,none⟩) n c),(14,Vi (n:Int)),(15,Vi (k:Int)),(8,Vp b8),(23,.bool false)] [.box b8 [.string p.nm,Vi p.key.k,Vi p.key.n,.string p.key.s,Vi p.has.k,Vi p.has.n,.string p.has.s],.box b2 [Vi 0,Vi 0,Ve],.box b1 [Vi key.k,Vi key.n,.string key.s]] [(b5,o6 + k * 7,[.string p.nm,Vi p.key.k,Vi p.key.n,.string p.key.s,Vi p.has.k,Vi p.has.n,.string p.has.s])] h3 a w:=hJ.to (by kernel_rfl) rfl rfl
   refine rk' hJ false 15 [] [(31,Vi (IntKind.i64.wrap ((k:Int) + 1)),Vi ((k:Int) + 1))] (.k (.out .normal) [] [1,5,6,13,14] [(15,Vi ((k:Int) + 1))]) (hc:=And.intro (kJ (by omega) (by omega)) (trivial)) ?_
   clear hJ a w; intro a w hJ
   replace hJ:=hJ.drop 0
   exact pY ⟨k + 1,⟨h3,(hJ.tof [] (F':=[]) (by kernel_rfl)).to (by kernel_rfl) (by kernel_rfl) rfl,s4,by omega,hv⟩,by omega⟩
 ·skip
  have hd:l.drop k=[]:=List.drop_eq_nil_of_le (by omega)
  rw [hd] at hv
  refine iY hJ (t:=decide ((k:Int) < (n:Int))) (decide_eq_false (by omega)) ?_
  refine rk' hJ false 2 [] [] (.k (.out (.exit 0)) [] [6] []) ?_
  clear hJ a w; intro a w hJ
  refine jY rfl ?_
  refine rx' hJ false 9 [.b 0 0] [] (.ok (.out .ret) [] [(6,Vp b2)] [.box b2 [Vi 4,Vi 0,Ve],.box b1 [Vi key.k,Vi key.n,.string key.s]] []) (fun _=>by kernel_rfl) ?_
  clear hJ a w; intro a w hJ
  refine gY (hQ [.agg #[Vi 4,Vi 0,Ve]] _ [] hJ (.rcel hJ.j 0 .nil) (fJ _) rfl ?_).1
  exact congrArg Vl.val hv
theorem asked_any (l:List Aw) (sl:Value) (s:ByteArray) (key:Vl) (h:Vw) (hr:RS h 7 sl (vJ l)) (hl:l.length≤1000000) (hk:OkV key):C0 Tryz.prog 63 #[sl,.string s,.agg #[.int .i64 key.k,.int .i64 key.n,.string key.s]] h (fun r _=>r=(askV l s key).val):=by
 by_cases g:key.k≤3
 ·rcases hk with q | rfl | ⟨q,-⟩
  ·exact asked_yes l sl s key h hr hl q
  ·exact absurd g (by decide)
  ·omega
 ·obtain ⟨A,c,rfl,-,-,-⟩:=hr.form
  exact asked_no l A _ c s key h g (ok_kinds hk).1
set_option maxHeartbeats 4000000 in
theorem one_inp (f:Fd) (n1 n2 n3 c1 c2 c3:Nat) (A1 A2 A3:Option Addr) (inp:Env) (si:Value) (h:Vw) (hi:RS h 7 si (zK inp)) (li:inp.length≤1000000) (g:f.kind=1) :
  C0 Tryz.prog 20 #[.agg #[.string f.name,.int .i64 f.kind,.int .i64 f.ty,.int .i64 f.src.op,.int .i64 f.src.k,.int .i64 f.src.n,.string f.src.s,.string f.src.nm,.slice A1 n1 c1],si,.slice A2 n2 c2,.slice A3 n3 c3] h (fun r _=>r=(uX f.name f.ty inp).val):=by
 obtain ⟨A,c,rfl,-,-,-⟩:=hi.form
 rw [List.length_map] at *
 generalize hL:inp.length=n at *
 refine fY Tryz.func20 (c:=Tryz.f20.body.getD .skip) (N:=49) ?_
 intro hbx hbad Q hQ a w hJ
 refine rx' hJ false 24 [.own,.own,.b 1 1] [(15,.bool (f.kind == 1),.bool true)] (.new fun b1=>.new fun b2=>.ok (.code [0,1,0,0,1,0,1]) [.block 0,.seq [1,0,1,0,1],.seq [1,1]] [(4,Vp b1),(8,Vp b2),(16,.slice A n c),(17,Vi (n:Int)),(18,Vi 0)] [.box b2 [Vi 0,Vi 0,Ve],.box b1 [.string f.name,Vi f.kind,Vi f.ty,Vi f.src.op,Vi f.src.k,Vi f.src.n,.string f.src.s,.string f.src.nm,.slice A1 n1 c1]] []) (hc:=And.intro (congrArg Value.bool (beq_iff_eq.2 g)) (trivial)) (fun b1 b2 _=>by kernel_rfl) ?_
 clear hJ a w; intro b1 b2 a w hJ
 refine kY (fun (k:Nat) a w=>∃ (h3:Vw) ,K ⟨49,h.w,h.bad,[]⟩ [(4,Vp b1),(8,Vp b2),(16,.slice A n c),(17,Vi (n:Int)),(18,Vi (k:Int))] [.box b2 [Vi 0,Vi 0,Ve],.box b1 [.string f.name,Vi f.kind,Vi f.ty,Vi f.src.op,Vi f.src.k,Vi f.src.n,.string f.src.s,.string f.src.nm,.slice A1 n1 c1]] [] h3 a w∧Sees h h3∧(k≤n)∧(uX f.name f.ty (inp.drop k)=uX f.name f.ty inp)) (fun k=>n - k) (0) ⟨h,hJ.tw,Sees.refl _,Nat.zero_le _,rfl⟩ ?_
 clear hJ a w; rintro k a w ⟨h3,hJ,s4,hkl,hv⟩
 refine rk' hJ false 6 [] [] (.k (.code [0,1,0,0,1,0,0,1,0,1]) [.seq [1,1,0,0,1,0,0,1,0,1]] [4,8,16,17,18] [(19,.bool (decide ((k:Int) < (n:Int))))]) ?_
 clear hJ a w; intro a w hJ
 rcases (by omega:k < n∨k=n) with hlt | hke
 ·obtain ⟨p,hp⟩:∃ p,inp[k]?=some p:=⟨_,List.getElem?_eq_getElem (by omega)⟩
  have hrow:(zK inp)[k]?=some (fcRow p):=by rw [List.getElem?_map,hp]; rfl
  have hdr:inp.drop k=p :: inp.drop (k + 1):=by
   obtain ⟨h1,h2⟩:=List.getElem?_eq_some_iff.1 hp
   rw [List.drop_eq_getElem_cons h1,h2]
  rw [hdr,uX] at hv
  refine qY hJ (t:=decide ((k:Int) < (n:Int))) (decide_eq_true (by omega)) ?_
  refine rk' hJ false 6 [] [] (.k (.ops [0,0,0,1,1,0,0,1,0,0,1,0,1] 0) [.seq [1,0,0,1,1,0,0,1,0,0,1,0,1],.block 1,.seq [1,1,1,0,0,1,0,0,1,0,1]] [4,8,16,17,18] []) ?_
  clear hJ a w; intro a w hJ
  obtain ⟨b5,o6,rfl,-,c7⟩:=RS.row hi (hrow)
  replace hJ:=hJ.fact (c7.sees s4)
  refine rk hJ false 15 [.ix b5 o6 n c k,.f 0 0,.own,.b 0 0,.b 0 0,.b 2 0] [] (.new fun b8=>.f (.code [1,1,0,0,1,1,0,0,1,0,0,1,0,1]) [.block 1,.seq [1,1,1,0,0,1,0,0,1,0,1]] [4,8,16,17,18] [(10,Vp b8),(26,.bool (p.1.toList == f.name.toList))] [.box b8 [.string p.1,Vi 0,Vi 0,Ve,Vi p.2.k,Vi p.2.n,.string p.2.s],.box b2 [Vi 0,Vi 0,Ve],.box b1 [.string f.name,Vi f.kind,Vi f.ty,Vi f.src.op,Vi f.src.k,Vi f.src.n,.string f.src.s,.string f.src.nm,.slice A1 n1 c1]] [.o 0]) (And.intro (by first | omega | (simp; omega)) (trivial)) trivial (fun b8 _=>by kernel_rfl) ?_
  clear hJ a w; intro b8 a w hJ
  by_cases q:(p.1.toList == f.name.toList)=true
  ·rw [if_pos q] at hv
   refine qY hJ (t:=p.1.toList == f.name.toList) (q) ?_
   refine rk' hJ false 10 [.b 0 4,.b 1 0] [] (.f (.out .ret) [] [8] [] [.box b8 [.string p.1,Vi 0,Vi 0,Ve,Vi p.2.k,Vi p.2.n,.string p.2.s],.box b2 [Vi p.2.k,Vi p.2.n,.string p.2.s],.box b1 [.string f.name,Vi f.kind,Vi f.ty,Vi f.src.op,Vi f.src.k,Vi f.src.n,.string f.src.s,.string f.src.nm,.slice A1 n1 c1]] [.o 0]) ?_
   clear hJ a w; intro a w hJ
   refine jY rfl ?_
   refine rk' hJ false 3 [] [] (.k (.out .ret) [] [8] []) ?_
   clear hJ a w; intro a w hJ
   refine gY (hQ [.agg #[Vi p.2.k,Vi p.2.n,.string p.2.s]] _ [] hJ (.rcel hJ.j 1 .nil) (fJ _) rfl ?_).1
   exact congrArg Vl.val hv
  ·skip
   rw [if_neg q] at hv
   refine iY hJ (t:=p.1.toList == f.name.toList) (Bool.eq_false_iff.2 q) ?_
   refine rk' hJ false 7 [] [(29,Vi (IntKind.i64.wrap ((k:Int) + 1)),Vi ((k:Int) + 1))] (.k (.out .normal) [] [4,8,16,17] [(18,Vi ((k:Int) + 1))]) (hc:=And.intro (kJ (by omega) (by omega)) (trivial)) ?_
   clear hJ a w; intro a w hJ
   replace hJ:=hJ.drop 0
   exact pY ⟨k + 1,⟨h3,(hJ.tof [] (F':=[]) (by kernel_rfl)).to (by kernel_rfl) (by kernel_rfl) rfl,s4,by omega,hv⟩,by omega⟩
 ·skip
  have hd:inp.drop k=[]:=List.drop_eq_nil_of_le (by omega)
  rw [hd] at hv
  refine iY hJ (t:=decide ((k:Int) < (n:Int))) (decide_eq_false (by omega)) ?_
  refine rk' hJ false 2 [] [] (.k (.out (.exit 0)) [] [4,8] []) ?_
  clear hJ a w; intro a w hJ
  refine jY rfl ?_
  refine rx' hJ false 12 [.b 1 2,.b 0 0] [] (.ok (.out .ret) [] [(8,Vp b2)] [.box b2 [Vi f.ty,Vi 0,Ve],.box b1 [.string f.name,Vi f.kind,Vi f.ty,Vi f.src.op,Vi f.src.k,Vi f.src.n,.string f.src.s,.string f.src.nm,.slice A1 n1 c1]] []) (fun _=>by kernel_rfl) ?_
  clear hJ a w; intro a w hJ
  refine gY (hQ [.agg #[Vi f.ty,Vi 0,Ve]] _ [] hJ (.rcel hJ.j 0 .nil) (fJ _) rfl ?_).1
  exact congrArg Vl.val hv
theorem one_any (fs:List Fd) (f:Fd) (v:Value) (inp:Env) (si:Value) (orc:List Aw) (so:Value) (kn:Env) (sk:Value) (h:Vw) (hf:OkF fs f) (ha:IsArgs h f.src v) (hi:RS h 7 si (zK inp)) (ho:RS h 7 so (vJ orc)) (hk:RS h 7 sk (zK kn))
  (li:inp.length≤1000) (lo:orc.length≤1000) (lk:kn.length≤1000) (okk:∀ p∈kn,OkV p.2) :
  C0 Tryz.prog 20 #[.agg #[.string f.name,.int .i64 f.kind,.int .i64 f.ty,.int .i64 f.src.op,.int .i64 f.src.k,.int .i64 f.src.n,.string f.src.s,.string f.src.nm,v],si,so,sk] h (fun r _=>r=(wV f inp orc kn).val):=by
 obtain ⟨A1,n1,c1,rfl⟩:=ha.slice
 obtain ⟨A2,c2,rfl,-,-,-⟩:=ho.form
 obtain ⟨A3,c3,rfl,-,-,-⟩:=hk.form
 rw [List.length_map] at *
 rw [List.length_map] at *
 by_cases g:f.kind=1
 ·have e:wV f inp orc kn=uX f.name f.ty inp:=by unfold wV; rw [if_pos g]
  rw [e]
  exact one_inp f _ _ _ _ _ _ _ _ _ inp si h hi (by omega) g
 ·obtain ⟨w1,w2,w3⟩:=hf.wf g
  have w4:(szE f.src).2≤12:=chk_deep w3
  have hE:=fun H q1 q2=>eval_any f.src (.slice A1 n1 c1) kn (.slice A3 kn.length c3) H q1 w1 w2 w4 q2 okk lk
  have hv:=evalE_ok (get_ok okk) _ f.src (Nat.le_refl _) w1
  have hA:=fun H q=>asked_any orc (.slice A2 orc.length c2) f.name (nK kn f.src) H q (by omega) hv
  obtain ⟨A,c,rfl,-,-,-⟩:=hi.form
  rw [List.length_map] at *
  generalize inp.length=n at *
  have e:wV f inp orc kn=if f.kind=3 then askV orc f.name (nK kn f.src) else nK kn f.src:=by unfold wV; rw [if_neg g]
  rw [e]
  generalize nK kn f.src=key at *
  generalize askV orc f.name key=av at *
  generalize orc.length=n2 at *
  generalize kn.length=n3 at *
  by_cases g3:f.kind=3
  ·rw [if_pos g3]
   refine fY Tryz.func20 (c:=Tryz.f20.body.getD .skip) (N:=49) ?_
   intro hbx hbad Q hQ a w hJ
   refine rx hJ false 52 [.own,.own,.b 1 1,.b 1 3,.cl 57 #[.agg #[Vi f.src.op,Vi f.src.k,Vi f.src.n,.string f.src.s,.string f.src.nm,.slice A1 n1 c1],.slice A3 n3 c3] (.tuple #[.agg #[Vi key.k,Vi key.n,.string key.s],Vi 0]),.own,.b 0 0,.b 2 1,.b 2 0,.b 0 0,.cl 63 #[.slice A2 n2 c2,.string f.name,.agg #[Vi key.k,Vi key.n,.string key.s]] (.agg #[Vi av.k,Vi av.n,.string av.s]),.b 1 0] [(15,.bool (f.kind == 1),.bool false),(42,.bool (f.kind == 3),.bool true)] (.new fun b1=>.new fun b2=>.new fun b3=>.ok (.out .ret) [] [(8,Vp b2)] [.box b3 [Vi key.k,Vi key.n,.string key.s],.box b2 [Vi av.k,Vi av.n,.string av.s],.box b1 [.string f.name,Vi f.kind,Vi f.ty,Vi f.src.op,Vi f.src.k,Vi f.src.n,.string f.src.s,.string f.src.nm,.slice A1 n1 c1]] []) (And.intro (fun H sH=>hE _ (ha.sees sH) (hk.sees sH)) (And.intro (fun H sH=>hA _ (ho.sees sH)) (trivial))) (And.intro (congrArg Value.bool (beq_eq_false_iff_ne.2 g)) (And.intro (congrArg Value.bool (beq_iff_eq.2 g3)) (trivial))) (fun b1 b2 b3 _=>by kernel_rfl) ?_
   clear hJ a w; intro b1 b2 b3 a w hJ
   refine gY (hQ [.agg #[Vi av.k,Vi av.n,.string av.s]] _ [] hJ (.rcel hJ.j 1 .nil) (fJ _) rfl ?_).1
   exact rfl
  ·rw [if_neg g3]
   refine fY Tryz.func20 (c:=Tryz.f20.body.getD .skip) (N:=49) ?_
   intro hbx hbad Q hQ a w hJ
   refine rx hJ false 49 [.own,.own,.b 1 1,.b 1 3,.cl 57 #[.agg #[Vi f.src.op,Vi f.src.k,Vi f.src.n,.string f.src.s,.string f.src.nm,.slice A1 n1 c1],.slice A3 n3 c3] (.tuple #[.agg #[Vi key.k,Vi key.n,.string key.s],Vi 0]),.own,.b 0 0,.b 2 1,.b 0 0,.b 1 0] [(15,.bool (f.kind == 1),.bool false),(42,.bool (f.kind == 3),.bool false)] (.new fun b1=>.new fun b2=>.new fun b3=>.ok (.out .ret) [] [(8,Vp b2)] [.box b3 [Vi key.k,Vi key.n,.string key.s],.box b2 [Vi key.k,Vi key.n,.string key.s],.box b1 [.string f.name,Vi f.kind,Vi f.ty,Vi f.src.op,Vi f.src.k,Vi f.src.n,.string f.src.s,.string f.src.nm,.slice A1 n1 c1]] []) (And.intro (fun H sH=>hE _ (ha.sees sH) (hk.sees sH)) (trivial)) (And.intro (congrArg Value.bool (beq_eq_false_iff_ne.2 g)) (And.intro (congrArg Value.bool (beq_eq_false_iff_ne.2 g3)) (trivial))) (fun b1 b2 b3 _=>by kernel_rfl) ?_
   clear hJ a w; intro b1 b2 b3 a w hJ
   refine gY (hQ [.agg #[Vi key.k,Vi key.n,.string key.s]] _ [] hJ (.rcel hJ.j 1 .nil) (fJ _) rfl ?_).1
   exact rfl
theorem oracle_nil (A:Option Addr) (n c:Nat) (B:Option Addr) (m d:Nat) (so:Value) (h:Vw) (ho:RS h 7 so (vJ [])):C0 Tryz.prog 91 #[.agg #[.slice A n c,.slice B m d],so] h (fun r _=>r=.int .i64 0):=by
 obtain ⟨A1,c1,rfl,-,-,-⟩:=ho.form
 refine fY Tryz.func91 (c:=Tryz.f91.body.getD .skip) (N:=83) ?_
 intro hbx hbad Q hQ a w hJ
 refine rk' hJ false 15 [.own] [] (.new fun b1=>.m (.code [0,1,0,1]) [.block 0,.seq [1,1]] [1] [(2,Vp b1),(13,.slice A1 0 c1),(14,Vi 0),(15,Vi 0)] [.box b1 [.slice A n c,.slice B m d]] []) (hr:=fun b1 _=>by kernel_rfl) ?_
 clear hJ a w; intro b1 a w hJ
 refine kY (fun (k:Nat) a w=>∃ (h2:Vw) ,K ⟨83,h.w,h.bad,[]⟩ [(1,.slice A1 0 c1),(2,Vp b1),(13,.slice A1 0 c1),(14,Vi 0),(15,Vi ((0:Nat):Int))] [.box b1 [.slice A n c,.slice B m d]] [] h2 a w∧Sees h h2∧(k=0)) (fun k=>k) (0) ⟨h,hJ.tw,Sees.refl _,rfl⟩ ?_
 clear hJ a w; rintro k a w ⟨h2,hJ,s3,hk⟩
 refine rk' hJ false 6 [] [] (.k (.code [0,1,0,0,1,0,1]) [.seq [1,1,0,0,1,0,1]] [1,2,13,14,15] [(16,.bool (decide (((0:Nat):Int) < 0)))]) ?_
 clear hJ a w; intro a w hJ
 refine iY hJ (t:=decide (((0:Nat):Int) < 0)) (decide_eq_false (by omega)) ?_
 refine rk' hJ false 2 [] [] (.k (.out (.exit 0)) [] [] []) ?_
 clear hJ a w; intro a w hJ
 refine jY rfl ?_
 refine rk' hJ false 8 [] [] (.k (.out .ret) [] [] [(4,Vi 0)]) ?_
 clear hJ a w; intro a w hJ
 refine gY (hQ [Vi 0] _ [] hJ (.rtm hJ.j .nil) (fJ _) rfl ?_).1
 exact rfl
theorem whCheck_any (f:Fm) (ρ:List Int) (lv:Nat→Nat) (A:Option Addr) (n c:Nat) (B:Option Addr) (m d:Nat) (inp:Env) (si so:Value) (orc:List Aw) (h:Vw) (hok:OkFm f ρ lv) (hf:IsForm h (.slice A n c) (.slice B m d) f) (hn:n=f.fields.length)
  (hi:RS h 7 si (zK inp)) (li:inp.length≤1000000) (ki:∀ p∈inp,p.2.known) (ti:vK f.fields [] inp=0) (ho:RS h 7 so (vJ orc))
  (hO:∀ H,IsForm H (.slice A n c) (.slice B m d) f→RS H 7 so (vJ orc)→C0 Tryz.prog 91 #[.agg #[.slice A n c,.slice B m d],so] H (fun r _=>r=.int .i64 0)) :
  C0 Tryz.prog 61 #[.agg #[.slice A n c,.slice B m d],si,so] h (fun r _=>r=.int .i64 0):=by
 have hC:=fun H q=>shCheck_any f ρ lv A n c B m d H hok q hn
 have few:=hok.fields.few
 have hF:=fun H q1 q2=>facts_v f.fields (.slice A n c) (.slice B m d) inp si H q1 rfl (by omega) q2 li ki
 rw [ti] at hF
 obtain ⟨A1,c1,rfl,-,-,-⟩:=hi.form
 obtain ⟨A2,c2,rfl,-,-,-⟩:=ho.form
 rw [List.length_map] at *
 rw [List.length_map] at *
 refine fY Tryz.func61 (c:=Tryz.f61.body.getD .skip) (N:=23) ?_
 intro hbx hbad Q hQ a w hJ
 refine rx' hJ false 50 [.own,.b 0 0,.cl 84 #[.agg #[.slice A n c,.slice B m d]] (Vi 0),.b 0 0,.cl 90 #[.agg #[.slice A n c,.slice B m d],.slice A1 inp.length c1] (Vi 0),.b 0 0,.cl 91 #[.agg #[.slice A n c,.slice B m d],.slice A2 orc.length c2] (Vi 0)] [] (.new fun b1=>.ok (.out .ret) [] [(6,Vi 0)] [.box b1 [.slice A n c,.slice B m d]] []) (ho:=And.intro (fun H sH=>hC _ (hf.sees sH)) (And.intro (fun H sH=>hF _ ((hf.sees sH)).fields (hi.sees sH)) (And.intro (fun H sH=>hO _ (hf.sees sH) (ho.sees sH)) (trivial)))) (fun b1 _=>by kernel_rfl) ?_
 clear hJ a w; intro b1 a w hJ
 refine gY (hQ [Vi 0] _ [] hJ (.rtm hJ.j .nil) (fJ _) rfl ?_).1
 exact rfl
def AllO (n:Nat) (va:List Vl) (r u:Value) (l:List (List Value)):Prop:=r=.tuple #[u,.int .i64 0]∧(∃ A' c',u=.slice A' n c')∧l=xX va
set_option maxHeartbeats 4000000 in
theorem whAll_own (f:Fm) (ρ:List Int) (lv:Nat→Nat) (A:Option Addr) (n c:Nat) (B:Option Addr) (m d:Nat) (inp:Env) (si so:Value) (orc:List Aw) (h:Vw) (hok:OkFm f ρ lv) (hf:IsForm h (.slice A n c) (.slice B m d) f) (hn:n=f.fields.length) (h1:1≤n)
  (hi:RS h 7 si (zK inp)) (li:inp.length≤1000) (ki:∀ p∈inp,p.2.known) (ti:vK f.fields [] inp=0) (ho:RS h 7 so (vJ orc)) (lo:orc.length≤1000) (ko:∀ p∈orc,OkV p.has)
  (hO:∀ H,IsForm H (.slice A n c) (.slice B m d) f→RS H 7 so (vJ orc)→C0 Tryz.prog 91 #[.agg #[.slice A n c,.slice B m d],so] H (fun r _=>r=.int .i64 0)) :
  C0 Tryz.prog 18 #[.agg #[.slice A n c,.slice B m d],si,so] h (fun r h'=>∃ u l,Ent.ok h.w.heap.size h'.w (.row u 38 3 l)∧AllO n (allW f.fields inp orc (gW ρ n)) r u l):=by
 have hC:=fun H q1 q2 q3=>whCheck_any f ρ lv A n c B m d inp si so orc H hok q1 hn q2 (by omega) ki ti q3 hO
 have few:=hok.fields.few
 have hOr:=fun H q=>order_any f.fields (.slice A n c) H hok.fields q ρ lv hok.rank (by omega) (by omega)
 rw [← hn] at hOr
 have hod:Ordd f.fields ρ lv (gW ρ n):=by rw [hn]; exact ordL_ordd hok.rank (by omega)
 have hol:=hod.len
 have hrun:=run_inv hok.fields ki ko hod
 have hon:∀ (g:Fd) (u sk:Value) (kn:Env) (H:Vw),g∈f.fields→IsArgs H g.src u→RS H 7 si (zK inp)→RS H 7 so (vJ orc)→RS H 7 sk (zK kn)→kn.length≤1000→(∀ p∈kn,OkV p.2)→_:=fun g u sk kn H q0 q1 q2 q3 q4 q5 q6=>one_any f.fields g u inp si orc so kn sk H (hok.fields.each g q0) q1 q2 q3 q4 li lo q5 q6
 obtain ⟨A1,c1,rfl,-,-,-⟩:=hi.form
 obtain ⟨A2,c2,rfl,-,-,-⟩:=ho.form
 rw [List.length_map] at *
 rw [List.length_map] at *
 obtain ⟨vs,A3,c3,e3,-,-,hr3,hs3,hl3,hsl⟩:=dQ hf.fields
 simp only [Value.slice.injEq] at e3
 obtain ⟨rfl,-,rfl⟩:=e3
 rw [← hn] at hr3 hl3
 have hstep:=fun k i (hi:(gW ρ n)[k]?=some i) (g:Fd) (hg:f.fields[i]?=some g)=>run_at f.fields inp orc (gW ρ n) k i hi g hg
 show C0 _ _ _ _ (fun r h'=>∃ u l,Ent.ok h.w.heap.size h'.w (.row u 38 3 l)∧AllO n (runW f.fields inp orc (gW ρ n)).1 r u l)
 have hlt':=fun i (q:i∈gW ρ n)=>hod.lt q
 rw [← hn] at hlt' hol
 have hlen:=fun k q=>(hrun k q).len
 have hkl:=fun k q=>(hrun k q).klen
 have hok':=fun k q=>(hrun k q).ok
 clear hrun hod
 have hw0:runW f.fields inp orc []=(List.replicate n zV,[]):=by rw [hn]; rfl
 generalize gW ρ n=os at *
 generalize runW f.fields inp orc=rw' at *
 generalize hni:inp.length=ni at *
 generalize hno:orc.length=no at *
 refine fY Tryz.func18 (c:=Tryz.f18.body.getD .skip) (N:=66) ?_
 intro hbx hbad Q hQ a w hJ
 refine rk hJ false 30 [.own,.b 0 0,.cl 61 #[.agg #[.slice A n c,.slice B m d],.slice A1 ni c1,.slice A2 no c2] (Vi 0),.b 0 0] [] (.new fun b1=>.m (.ops [0,1,1] 2) [.seq [1,1,1]] [1,2] [(3,Vp b1),(24,.slice A n c)] [.box b1 [.slice A n c,.slice B m d]] []) (And.intro (fun H sH=>hC _ (hf.sees sH) (hi.sees sH) (ho.sees sH)) (trivial)) trivial (fun b1 _=>by kernel_rfl) ?_
 clear hJ a w; intro b1 a w hJ
 refine dY hJ 25 (hOr _ ((hf.sees hJ.j.sees)).fields) (fun _=>by kernel_rfl) ?_; clear hJ a w; rintro _ h2 a w s3 ⟨A4,c4,rfl,hro⟩ hJ
 refine rk' hJ false 12 [.b 0 0] [] (.k (.ops [0,1,1,1] 3) [.seq [1,1,1,1]] [1,2,3] [(9,.slice A4 n c4),(30,Vi (n:Int))]) ?_
 clear hJ a w; intro a w hJ
 refine x_makek hJ 31 (t:=32) (e:=38) (z:=.agg #[Vi 0,Vi 0,Ve]) (cs:=[Vi 0,Vi 0,Ve]) (x:=(.tmp 30)) (by_:=32) (m:=n) (kk:=3) (by kernel_rfl) (by kernel_rfl) (by kernel_rfl) Tryz.underlying32 (by kernel_rfl) rfl rfl (by decide) (by omega) (by omega) (by simp only [maxLen]; omega) ?_; clear hJ a w; intro b4 a w hJ
 refine rk' hJ false 17 [] [] (.k (.code [0,1,0,1,1,1,1,1]) [.block 0,.seq [1,1,1,1,1,1]] [1,2,3] [(11,Vs b4 n n),(12,Vz),(32,.slice A4 n c4),(33,Vi (n:Int)),(34,Vi 0)]) ?_
 clear hJ a w; intro a w hJ
 replace hJ:=hJ.nilrow 54 7
 rw [show List.replicate n [.int .i64 0,.int .i64 0,.string ⟨#[]⟩]=xX (List.replicate n zV) from by unfold xX; rw [List.map_replicate]; rfl] at hJ
 refine kY (fun (k:Nat) a w=>∃ (h5:Vw) (v:Value) (ov:List Vl) (kv:Env),K ⟨66,h.w,h.bad,[]⟩ [(1,.slice A1 ni c1),(2,.slice A2 no c2),(3,Vp b1),(11,Vs b4 n n),(32,.slice A4 n c4),(33,Vi (n:Int)),(34,Vi (k:Int)),(12,v)] [.row v 54 7 (zK kv),.row (Vs b4 n n) 38 3 (xX ov),.box b1 [.slice A n c,.slice B m d]] [] h5 a w∧Sees h2 h5∧(k≤n)∧(rw' (os.take k)=(ov,kv))) (fun k=>n - k) (0) ⟨h2,(Vz),List.replicate n zV,[],hJ.tw,Sees.refl _,Nat.zero_le _,hw0⟩ ?_
 clear hJ a w; rintro k a w ⟨h5,v,ov,kv,hJ,s6,hk,hv⟩
 refine rk' hJ false 6 [] [] (.k (.code [0,1,0,0,1,0,1,1,1,1,1]) [.seq [1,1,0,0,1,0,1,1,1,1,1]] [1,2,3,11,32,33,34,12] [(35,.bool (decide ((k:Int) < (n:Int))))]) ?_
 clear hJ a w; intro a w hJ
 rcases (by omega:k < n∨k=n) with hlt | hke
 ·obtain ⟨i,hoi⟩:∃ i,os[k]?=some i:=⟨_,List.getElem?_eq_getElem (by omega)⟩
  have hil:=hlt' i (List.mem_of_getElem? hoi)
  obtain ⟨g,hg⟩:∃ g,f.fields[i]?=some g:=⟨_,List.getElem?_eq_getElem (by omega)⟩
  obtain ⟨u,hu⟩:∃ u,vs[i]?=some u:=⟨_,List.getElem?_eq_getElem (by omega)⟩
  have hrow:=bQ hg hu
  have hga:∀ H,AllSrc H f.fields vs→IsArgs H g.src u:=fun H q=>AllArgs.get q (x:=g.src) (by rw [List.getElem?_map,hg]; rfl) hu
  obtain ⟨Au,nu,cu,rfl⟩:=(hga _ hs3).slice
  have hro1:(pV os)[k]?=some [.int .i64 (i:Int)]:=by rw [List.getElem?_map,hoi]; rfl
  have hl1:=hlen k (by omega)
  have hl2:=hkl k (by omega)
  have hl3':=hok' k (by omega)
  have hst:=hstep k i hoi g hg
  rw [hv] at hl1 hl2 hl3' hst
  simp only at hl1 hl2 hl3' hst
  rw [List.length_take] at hl2
  obtain ⟨x0,hx0⟩:∃ x,ov[i]?=some x:=⟨_,List.getElem?_eq_getElem (by omega)⟩
  have hx1:=vlRows_get hx0
  have hon':=fun sk H q1 q2 q3 q4=>hon g (.slice Au nu cu) sk kv H (List.mem_of_getElem? hg) q1 q2 q3 q4 (by omega) hl3'
  have hfr:(zK kv).length=kv.length:=List.length_map _
  generalize wV g inp orc kv=xv at *
  have hx2:((xX ov).set i [.int .i64 xv.k,.int .i64 xv.n,.string xv.s])[i]?=some [.int .i64 xv.k,.int .i64 xv.n,.string xv.s]:=List.getElem?_set_self (by rw [List.length_map]; omega)
  refine qY hJ (t:=decide ((k:Int) < (n:Int))) (decide_eq_true (by omega)) ?_
  refine rk' hJ false 6 [] [] (.k (.ops [0,0,0,1,1,0,0,1,0,1,1,1,1,1] 0) [.seq [1,0,0,1,1,0,0,1,0,1,1,1,1,1],.block 1,.seq [1,1,1,0,0,1,0,1,1,1,1,1]] [1,2,3,11,32,33,34,12] []) ?_
  clear hJ a w; intro a w hJ
  obtain ⟨b7,o8,rfl,-,c9⟩:=RS.row hro (hro1)
  replace hJ:=hJ.fact (c9.sees s6)
  refine rk' hJ false 12 [.ix b7 o8 n c4 k,.f 0 0,.b 2 0] [] (.k (.ops [0,1,0,0,1,1,0,0,1,0,1,1,1,1,1] 5) [.seq [1,1,0,0,1,1,0,0,1,0,1,1,1,1,1],.block 1,.seq [1,1,1,0,0,1,0,1,1,1,1,1]] [1,2,3,11,32,33,34,12] [(14,Vi (i:Int)),(38,Vs b4 n n),(39,Vi (i:Int)),(41,.slice A n c),(42,Vi (i:Int))]) (ho:=And.intro (by first | omega | (simp; omega)) (trivial)) ?_
  clear hJ a w; intro a w hJ
  obtain ⟨b10,o11,rfl,-,c12⟩:=RS.row hr3 (hrow)
  replace hJ:=hJ.fact (c12.sees (s3.trans s6))
  refine rk' hJ false 5 [.ix b10 o11 n c i,.f 0 0] [] (.k (.ops [0,1,0,0,1,1,0,0,1,0,1,1,1,1,1] 10) [.seq [1,1,0,0,1,1,0,0,1,0,1,1,1,1,1],.block 1,.seq [1,1,1,0,0,1,0,1,1,1,1,1]] [1,2,3,11,32,33,34,12,14,38,39] [(44,.agg #[.string g.name,Vi g.kind,Vi g.ty,Vi g.src.op,Vi g.src.k,Vi g.src.n,.string g.src.s,.string g.src.nm,.slice Au nu cu]),(45,.slice A1 ni c1),(46,.slice A2 no c2),(47,v)]) (ho:=And.intro (by first | omega | (simp; omega)) (trivial)) ?_
  clear hJ a w; intro a w hJ
  refine x_callq hJ 48 (hon' _ _ (hga _ (hs3.sees (s3.trans (s6.trans hJ.j.seesQ)))) (hi.sees (s3.trans (s6.trans hJ.j.seesQ))) (ho.sees (s3.trans (s6.trans hJ.j.seesQ))) (hJ.j.rowQ (v:=v) (e:=54) (k:=7) (l:=zK kv) 0 rfl)) (fun _=>by kernel_rfl) ?_; clear hJ a w; intro h13 a w s14 hJ
  refine rk' hJ false 1 [.ix b4 0 n n i] [] (.k (.ops [0,1,0,0,1,1,0,0,1,0,1,1,1,1,1] 12) [.seq [1,1,0,0,1,1,0,0,1,0,1,1,1,1,1],.block 1,.seq [1,1,1,0,0,1,0,1,1,1,1,1]] [1,2,3,11,32,33,34,12,14,48] [(49,.pointer (some ⟨b4,0 + i * 3,none⟩))]) (ho:=And.intro (by first | omega | (simp; omega)) (trivial)) ?_
  clear hJ a w; intro a w hJ
  refine x_rowset hJ 1 i 0 (g:=b4) (m:=n) (cap:=n) (kk:=3) (e:=38) (l:=xX ov) (r:=[Vi x0.k,Vi x0.n,.string x0.s]) (t:=38) (x:=(.tmp 49)) (y:=(.tmp 48)) (u:=.agg #[Vi xv.k,Vi xv.n,.string xv.s]) (by kernel_rfl) (by kernel_rfl) (by kernel_rfl) (by kernel_rfl) (by kernel_rfl) (hx1) (by kernel_rfl) ?_; clear hJ a w; intro a w hJ
  replace hJ:K ⟨66,h.w,h.bad,[]⟩ [(1,.slice A1 ni c1),(2,.slice A2 no c2),(3,Vp b1),(11,Vs b4 n n),(32,.slice (some ⟨b7,o8,none⟩) n c4),(33,Vi (n:Int)),(34,Vi (k:Int)),(12,v),(14,Vi (i:Int)),(48,.agg #[Vi xv.k,Vi xv.n,.string xv.s]),(49,.pointer (some ⟨b4,0 + i * 3,none⟩))] [.row v 54 7 (zK kv),.row (Vs b4 n n) 38 3 ((xX ov).set i [Vi xv.k,Vi xv.n,.string xv.s]),.box b1 [.slice (some ⟨b10,o11,none⟩) n c,.slice B m d]] [(b10,o11 + i * 9,[.string g.name,Vi g.kind,Vi g.ty,Vi g.src.op,Vi g.src.k,Vi g.src.n,.string g.src.s,.string g.src.nm,.slice Au nu cu]),(b7,o8 + k * 1,[Vi (i:Int)])] h13 a w:=hJ.tw
  refine rx' hJ false 2 [] [] (.ok (.code [1,1,0,0,1,1,0,0,1,0,1,1,1,1,1]) [.block 1,.seq [1,1,1,0,0,1,0,1,1,1,1,1]] [(1,.slice A1 ni c1),(2,.slice A2 no c2),(3,Vp b1),(11,Vs b4 n n),(32,.slice (some ⟨b7,o8,none⟩) n c4),(33,Vi (n:Int)),(34,Vi (k:Int)),(12,v),(14,Vi (i:Int))] [.row v 54 7 (zK kv),.row (Vs b4 n n) 38 3 ((xX ov).set i [Vi xv.k,Vi xv.n,.string xv.s]),.box b1 [.slice (some ⟨b10,o11,none⟩) n c,.slice B m d]] [(b10,o11 + i * 9,[.string g.name,Vi g.kind,Vi g.ty,Vi g.src.op,Vi g.src.k,Vi g.src.n,.string g.src.s,.string g.src.nm,.slice Au nu cu]),(b7,o8 + k * 1,[Vi (i:Int)])]) (fun _=>by kernel_rfl) ?_
  clear hJ a w; intro a w hJ
  have c15:=RS.cell hr3 (hrow)
  replace hJ:=hJ.fact (c15.sees (s3.trans (s6.trans s14)))
  let R:Reg:=⟨⟨66,h.w,h.bad,[]⟩,[(0,50,fun gh=>v),(1,51,fun gh=>Vp b1),(2,52,fun gh=>.slice (some ⟨b10,o11,none⟩) n c),(3,53,fun gh=>Vi (i:Int)),(4,54,fun gh=>.pointer (some ⟨b10,o11 + i * 9,none⟩)),(5,55,fun gh=>.pointer (some ⟨b10,o11 + i * 9,none⟩)),(6,56,fun gh=>.string g.name),(7,57,fun gh=>Vs b4 n n),(8,58,fun gh=>Vi (i:Int)),(9,59,fun gh=>.pointer (some ⟨b4,0 + i * 3,none⟩)),(10,60,fun gh=>.agg #[Vi xv.k,Vi xv.n,.string xv.s]),(11,61,fun gh=>.agg #[.string g.name,Vi 0,Vi 0,Ve,Vi xv.k,Vi xv.n,.string xv.s]),(12,62,fun gh=>.slice (some ⟨(zJ (gh 12)),0,none⟩) 1 1),(13,63,fun gh=>.slice (sA (gh 13)) (sN (gh 13)) (sC (gh 13))),(14,12,fun gh=>.slice (sA (gh 13)) (sN (gh 13)) (sC (gh 13)))],[(1,.slice A1 ni c1),(2,.slice A2 no c2),(3,Vp b1),(11,Vs b4 n n),(32,.slice (some ⟨b7,o8,none⟩) n c4),(33,Vi (n:Int)),(34,Vi (k:Int)),(12,v),(14,Vi (i:Int))],[⟨some (.row v 54 7 (zK kv)),[(13,fun gh=>.row (.slice (sA (gh 13)) (sN (gh 13)) (sC (gh 13))) 54 7 ((zK kv)++[[.string g.name,Vi 0,Vi 0,Ve,Vi xv.k,Vi xv.n,.string xv.s]]))]⟩,⟨some (.row (Vs b4 n n) 38 3 ((xX ov).set i [Vi xv.k,Vi xv.n,.string xv.s])),[]⟩,⟨some (.box b1 [.slice (some ⟨b10,o11,none⟩) n c,.slice B m d]),[]⟩],[(12,fun gh hh=>Cells hh (zJ (gh 12)) 0 [.string g.name,Vi 0,Vi 0,Ve,Vi xv.k,Vi xv.n,.string xv.s])],[[],[],[1],[],[1,2,3],[1,2,3,4],[1,2,3,4,5],[],[],[7,8],[7,8,9],[1,2,3,4,5,6,7,8,9,10],[1,2,3,4,5,6,7,8,9,10,11],[0,1,2,3,4,5,6,7,8,9,10,11,12],[0,1,2,3,4,5,6,7,8,9,10,11,12,13]],h13⟩
  have hmono:∀ zq∈R.F,∀ zx zh zi,Sees zh zi→zq.2 zx zh→zq.2 zx zi:=jV (fun _ _ _ s c=>c.sees s) (lJ)
  refine oY (by kernel_rfl) R hJ 15 [.pu,.pu,.ld 2 0,.pu,.cl,.pu,.lf 0 0,.pu,.pu,.cl,.cl,.pu,.cl,.cl,.pu] (by kernel_rfl) hmono (fun _ _ _=>by kernel_rfl) (fun hT hA=>?_) ?_
  ·clear hJ
   refine And.intro (sW hT hA 54 (fun gh=>.pointer (some ⟨b10,o11 + i * 9,none⟩)) [2,3] 4 (fun gh w=>jX (t:=23) (x:=(.tmp 52)) (y:=(.tmp 53)) (b:=b10) (off:=o11) (n:=n) (cap:=c) (k:=i) (e:=43) (kk:=9) (by kernel_rfl) (by kernel_rfl) (by kernel_rfl) (by first | omega | (simp; omega)) Tryz.underlying23 (by kernel_rfl))) ?_
   refine And.intro (sW hT hA 59 (fun gh=>.pointer (some ⟨b4,0 + i * 3,none⟩)) [7,8] 9 (fun gh w=>jX (t:=32) (x:=(.tmp 57)) (y:=(.tmp 58)) (b:=b4) (off:=0) (n:=n) (cap:=n) (k:=i) (e:=38) (kk:=3) (by kernel_rfl) (by kernel_rfl) (by kernel_rfl) (by first | omega | (simp; omega)) Tryz.underlying32 (by kernel_rfl))) ?_
   refine And.intro (r_rowget hT hA 60 (fun gh=>.agg #[Vi xv.k,Vi xv.n,.string xv.s]) [9] 10 (by kernel_rfl) (by kernel_rfl) (by kernel_rfl) (fun _=>by kernel_rfl) 1 ⟨some (.row (Vs b4 n n) 38 3 ((xX ov).set i [Vi xv.k,Vi xv.n,.string xv.s])),[]⟩ (by kernel_rfl) (by kernel_rfl) b4 n n 3 38 ((xX ov).set i [Vi xv.k,Vi xv.n,.string xv.s]) (fun _=>by kernel_rfl) i 0 (r:=[Vi xv.k,Vi xv.n,.string xv.s]) (hx2) 38 (.tmp 59) (by kernel_rfl) (fun _=>by kernel_rfl) (fun _=>by kernel_rfl)) ?_
   refine And.intro (r_fact hT hA hmono ⟨fun _ _=>by kernel_rfl,fun _ _=>by kernel_rfl,fun _ _=>by kernel_rfl⟩ 62 (fun g=>Vs g 1 1) [11] 12 (by kernel_rfl) (by kernel_rfl) (fun _=>by kernel_rfl) (fun gh=>[.string g.name,Vi 0,Vi 0,Ve,Vi xv.k,Vi xv.n,.string xv.s]) 54 (fun _ _=>by kernel_rfl) (fun gh zb zH zc zj zq zhq zhe=>own_fact (i:=12) (k:=0) (f:=fun gh hh=>Cells hh (zJ (gh 12)) 0 [.string g.name,Vi 0,Vi 0,Ve,Vi xv.k,Vi xv.n,.string xv.s]) (by kernel_rfl) (by kernel_rfl) zc zj zq zhq zhe)) ?_
   refine And.intro (r_append hT hA hmono ⟨fun _ _=>by kernel_rfl,fun _ _=>by kernel_rfl,fun _ _=>by kernel_rfl⟩ (by kernel_rfl) 63 [0,12] 13 (by kernel_rfl) (fun _=>by kernel_rfl) 0 ⟨some (.row v 54 7 (zK kv)),[(13,fun gh=>.row (.slice (sA (gh 13)) (sN (gh 13)) (sC (gh 13))) 54 7 ((zK kv)++[[.string g.name,Vi 0,Vi 0,Ve,Vi xv.k,Vi xv.n,.string xv.s]]))]⟩ (by kernel_rfl) (by kernel_rfl) (by kernel_rfl) (fun gh=>v) 28 54 7 (fun gh=>zK kv) (fun gh=>[[.string g.name,Vi 0,Vi 0,Ve,Vi xv.k,Vi xv.n,.string xv.s]]) (fun _=>by kernel_rfl) (fun _=>by kernel_rfl) (fun _ _=>by kernel_rfl) (.tmp 50) (.tmp 62) (by kernel_rfl) (by kernel_rfl) (fun gh=>(zJ (gh 12))) 1 1 (fun _=>by kernel_rfl) (fun _=>by kernel_rfl) 0 12 (fun gh hh=>Cells hh (zJ (gh 12)) 0 [.string g.name,Vi 0,Vi 0,Ve,Vi xv.k,Vi xv.n,.string xv.s]) (by kernel_rfl) (by kernel_rfl) (fun _ _ c=>c) Tryz.underlying28 (zv:=.agg #[Ve,Vi 0,Vi 0,Ve,Vi 0,Vi 0,Ve]) (bytes:=80) (by kernel_rfl) (by kernel_rfl) (fun _=>by kernel_rfl) (fun _=>by constructor <;> (simp; omega))) ?_
   trivial
  clear hJ a w; intro gh h18 a w sR hJ1 hF; have s19:Sees h13 h18:=sR; clear sR
  have hJ:K ⟨66,h.w,h.bad,[]⟩ [(1,.slice A1 ni c1),(2,.slice A2 no c2),(3,Vp b1),(11,Vs b4 n n),(32,.slice (some ⟨b7,o8,none⟩) n c4),(33,Vi (n:Int)),(34,Vi (k:Int)),(12,.slice (sA (gh 13)) (sN (gh 13)) (sC (gh 13)))] [.row (.slice (sA (gh 13)) (sN (gh 13)) (sC (gh 13))) 54 7 ((zK kv)++[[.string g.name,Vi 0,Vi 0,Ve,Vi xv.k,Vi xv.n,.string xv.s]]),.row (Vs b4 n n) 38 3 ((xX ov).set i [Vi xv.k,Vi xv.n,.string xv.s]),.box b1 [.slice (some ⟨b10,o11,none⟩) n c,.slice B m d]] [(b10,o11 + i * 9,[.string g.name,Vi g.kind,Vi g.ty,Vi g.src.op,Vi g.src.k,Vi g.src.n,.string g.src.s,.string g.src.nm,.slice Au nu cu]),(b10,o11 + i * 9,[.string g.name,Vi g.kind,Vi g.ty,Vi g.src.op,Vi g.src.k,Vi g.src.n,.string g.src.s,.string g.src.nm,.slice Au nu cu]),(b7,o8 + k * 1,[Vi (i:Int)])] h18 a w:=hJ1.tw
  have f16:Cells h18 (zJ (gh 12)) 0 [.string g.name,Vi 0,Vi 0,Ve,Vi xv.k,Vi xv.n,.string xv.s]:=Reg.fact (i:=12) (f:=fun gh hh=>Cells hh (zJ (gh 12)) 0 [.string g.name,Vi 0,Vi 0,Ve,Vi xv.k,Vi xv.n,.string xv.s]) hF 0 (by kernel_rfl)
  replace hJ:=hJ.fact f16
  clear hJ1 hF hmono R
  generalize zJ (gh 12)=b17 at *
  generalize gh 13=v63 at *
  clear gh
  refine rk' hJ false 6 [] [(64,Vi (IntKind.i64.wrap ((k:Int) + 1)),Vi ((k:Int) + 1))] (.k (.out .normal) [] [1,2,3,11,32,33,12] [(34,Vi ((k:Int) + 1))]) (hc:=And.intro (kJ (by omega) (by omega)) (trivial)) ?_
  clear hJ a w; intro a w hJ
  exact pY ⟨k + 1,⟨h18,.slice (sA v63) (sN v63) (sC v63),ov.set i xv,kv++[(g.name,xv)],(hJ.tof [] (F':=[]) (by kernel_rfl)).to (by kernel_rfl) (by rw [fcRows_snoc,← vlRows_set]) rfl,(s6.trans (s14.trans s19)),by omega,hst⟩,by omega⟩
 ·skip
  have hta:os.take k=os:=by rw [hke,← hol,List.take_length]
  rw [hta] at hv
  refine iY hJ (t:=decide ((k:Int) < (n:Int))) (decide_eq_false (by omega)) ?_
  refine rk' hJ false 2 [] [] (.k (.out (.exit 0)) [] [11] []) ?_
  clear hJ a w; intro a w hJ
  refine jY rfl ?_
  refine rk' hJ false 10 [] [] (.k (.out .ret) [] [] [(6,Vs b4 n n),(7,Vi 0)]) ?_
  clear hJ a w; intro a w hJ
  have fo:=hJ.rowOwn (v:=Vs b4 n n) (e:=38) (kk:=3) (l:=xX ov) 1 (by kernel_rfl)
  refine gY (hQ [Vs b4 n n,Vi 0] _ [] hJ (.rtm hJ.j (.rtm hJ.j .nil)) (fJ _) rfl ?_).1
  exact ⟨_,_,fo,rfl,⟨_,_,rfl⟩,by rw [hv]⟩
theorem whAll_any (f:Fm) (ρ:List Int) (lv:Nat→Nat) (A:Option Addr) (n c:Nat) (B:Option Addr) (m d:Nat) (inp:Env) (si so:Value) (orc:List Aw) (h:Vw) (hok:OkFm f ρ lv) (hf:IsForm h (.slice A n c) (.slice B m d) f) (hn:n=f.fields.length) (h1:1≤n)
  (hi:RS h 7 si (zK inp)) (li:inp.length≤1000) (ki:∀ p∈inp,p.2.known) (ti:vK f.fields [] inp=0) (ho:RS h 7 so (vJ orc)) (lo:orc.length≤1000) (ko:∀ p∈orc,OkV p.has)
  (hO:∀ H,IsForm H (.slice A n c) (.slice B m d) f→RS H 7 so (vJ orc)→C0 Tryz.prog 91 #[.agg #[.slice A n c,.slice B m d],so] H (fun r _=>r=.int .i64 0)) :
  C0 Tryz.prog 18 #[.agg #[.slice A n c,.slice B m d],si,so] h (fun r h'=>∃ A' c',r=.tuple #[.slice A' n c',.int .i64 0]∧RS h' 3 (.slice A' n c') (xX (allW f.fields inp orc (gW ρ n)))):=by
 intro a1 a2 a3 a4
 refine (whAll_own f ρ lv A n c B m d inp si so orc h hok hf hn h1 hi li ki ti ho lo ko hO a1 a2 a3 a4).mono ?_
 rintro e w' ⟨v,Bo,g1,g2,g3,g4,u,l,g5,rfl,⟨A',c',rfl⟩,rfl⟩
 exact ⟨_,Bo,g1,g2,g3,g4,A',c',rfl,row_rs g5 (fun b hb hm=>by have:=a4 b hm; have:=(g5.1.lt b hb).1; omega)⟩
end Go.Proofs.YthckljafinhepaaGreat
namespace Go.Proofs.YthckljafinhepaaGreat
open Go.RowKit
set_option linter.unusedVariables false
theorem smallX_wf:WfE smallX:=by
 refine WfE.mk' (.inr (.inr ⟨(by decide:(3:Int)≤8),(by decide:(8:Int)≤18),rfl,rfl,rfl,rfl,rfl⟩)) (WfL.all fun y hy=>?_)
 have hy:y∈[refE ⟨#[97]⟩,Ex.mk 1 1 1 ⟨#[]⟩ ⟨#[]⟩ []]:=hy
 rcases List.mem_cons.1 hy with rfl | hy
 ·exact (wf_leaf (refE_ok ⟨by decide,by decide,⟨_,rfl,by decide⟩,by decide,by decide⟩) rfl).1
 ·rw [List.mem_singleton.1 hy]
  exact (wf_leaf (x:=.mk 1 1 1 ⟨#[]⟩ ⟨#[]⟩ []) (.inl ⟨rfl,.inl ⟨rfl,(by unfold Lim; decide:Lim 1),rfl⟩,fun _=>(by decide:(0:Int)≤1),rfl,rfl⟩) rfl).1
theorem smallB_wf:WfE smallB:=(wf_leaf (refE_ok (s:=⟨#[98]⟩) ⟨by decide,by decide,⟨_,rfl,by decide⟩,by decide,by decide⟩) rfl).1
theorem small_ok:OkFs smallF.fields:=by
 refine ⟨fun f hf=>?_,by decide,by decide⟩
 have hf:f∈[(⟨⟨#[98]⟩,2,1,smallX⟩:Fd),⟨⟨#[97]⟩,1,1,zE⟩,⟨⟨#[99]⟩,3,3,smallB⟩]:=hf
 rcases List.mem_cons.1 hf with rfl | hf
 ·exact ⟨⟨by decide,by decide,⟨_,rfl,by decide⟩,by decide,by decide⟩,by decide,by decide,by decide,by decide,fun h=>absurd h (show ¬ (2:Int)=1 by decide),fun _=>⟨smallX_wf,by decide,by decide⟩,fun _=>by decide,fun h=>absurd h (show ¬ (2:Int)=3 by decide)⟩
 ·rcases List.mem_cons.1 hf with rfl | hf
  ·exact ⟨⟨by decide,by decide,⟨_,rfl,by decide⟩,by decide,by decide⟩,by decide,by decide,by decide,by decide,fun _=>rfl,fun h=>absurd rfl h,fun h=>absurd h (show ¬ (1:Int)=2 by decide),fun h=>absurd h (show ¬ (1:Int)=3 by decide)⟩
  ·rw [List.mem_singleton.1 hf]
   exact ⟨⟨by decide,by decide,⟨_,rfl,by decide⟩,by decide,by decide⟩,by decide,by decide,by decide,by decide,fun h=>absurd h (show ¬ (3:Int)=1 by decide),fun _=>⟨smallB_wf,by decide,by decide⟩,fun h=>absurd h (show ¬ (3:Int)=2 by decide),fun _=>⟨1,by decide,by decide,by decide⟩⟩
theorem names_one {x:Ex} {s:ByteArray} (h:vW x=[s]):nV x=[s]:=by
 unfold nV namesB
 rw [h]
 have e:dd ([s].map fun s:ByteArray=>s.data.toList)=[s.data.toList]:=by simp [dd]
 rw [e,List.mergeSort_singleton]
 simp
theorem small_needs:qV smallF.fields=[[1],[],[0]]:=by
 have e1:nV smallX=[⟨#[97]⟩]:=names_one (by decide)
 have e2:nV smallB=[⟨#[98]⟩]:=names_one (by decide)
 show [needE smallF.fields ⟨⟨#[98]⟩,2,1,smallX⟩,needE smallF.fields ⟨⟨#[97]⟩,1,1,zE⟩,needE smallF.fields ⟨⟨#[99]⟩,3,3,smallB⟩]=_
 unfold needE
 rw [if_neg (by decide),if_pos rfl,if_neg (by decide)]
 have p1:plc smallF.fields ⟨#[97]⟩=1:=by
  unfold plc
  rw [show (⟨#[97]⟩:ByteArray)=(⟨⟨#[97]⟩,1,1,zE⟩:Fd).name from rfl,iQ small_ok.nodup (i:=1) rfl]; rfl
 have p2:plc smallF.fields ⟨#[98]⟩=0:=by
  unfold plc
  rw [show (⟨#[98]⟩:ByteArray)=(⟨⟨#[98]⟩,2,1,smallX⟩:Fd).name from rfl,iQ small_ok.nodup (i:=0) rfl]; rfl
 simp only [e1,e2,List.map_cons,List.map_nil,p1,p2]
theorem small_ranked:Ranked (qV smallF.fields) [1,0,2] (fun i=>[1,0,2].getD i 0):=by
 rw [small_needs]
 exact ranked_ex (need:=[[1],[],[0]]) (lv:=fun i=>[1,0,2].getD i 0) (by decide) (by decide)
theorem small_okG:OkGs smallF.fields smallF.pages:=by
 have hm:∀ p∈smallF.pages,p=⟨⟨#[112,49]⟩,[⟨#[97]⟩],zE⟩∨p=⟨⟨#[112,50]⟩,[⟨#[99]⟩],zE⟩:=fun p hp=>by
  have hp:p∈[(⟨⟨#[112,49]⟩,[⟨#[97]⟩],zE⟩:Pg),⟨⟨#[112,50]⟩,[⟨#[99]⟩],zE⟩]:=hp
  rcases List.mem_cons.1 hp with h | h
  ·exact .inl h
  ·exact .inr (List.mem_singleton.1 h)
 have p1:gQ smallF.fields ⟨#[97]⟩=(1:Nat):=iQ small_ok.nodup (i:=1) (f:=⟨⟨#[97]⟩,1,1,zE⟩) rfl
 have p2:gQ smallF.fields ⟨#[99]⟩=(2:Nat):=iQ small_ok.nodup (i:=2) (f:=⟨⟨#[99]⟩,3,3,smallB⟩) rfl
 refine ⟨by decide,by decide,fun p h=>?_,by decide,fun p h=>?_,fun p h s hs=>?_,by decide,fun p h=>?_⟩
 ·rcases hm p h with rfl | rfl
  ·exact ⟨by decide,by decide,⟨_,rfl,by decide⟩,by decide,by decide⟩
  ·exact ⟨by decide,by decide,⟨_,rfl,by decide⟩,by decide,by decide⟩
 ·rcases hm p h with rfl | rfl <;> decide
 ·rcases hm p h with rfl | rfl
  ·rw [List.mem_singleton.1 hs,p1]; omega
  ·rw [List.mem_singleton.1 hs,p2]; omega
 ·rcases hm p h with rfl | rfl <;> exact .inl rfl
end Go.Proofs.YthckljafinhepaaGreat
namespace Go.Proofs.YthckljafinhepaaGreat
open Go.RowKit
set_option linter.unusedVariables false
abbrev ke1:Env:=[(⟨#[97]⟩,⟨1,4,⟨#[]⟩⟩)]
theorem ke1_known:∀ p∈ke1,p.2.known:=fun p hp=>by rw [List.mem_singleton.1 hp]; exact .inl ⟨rfl,by unfold Lim; decide,rfl⟩
theorem ke1_told:vK smallF.fields [] ke1=0:=by
 unfold vK
 have e:toldE smallF.fields ⟨#[97]⟩ 1=0:=by
  unfold toldE
  rw [iQ (fs:=smallF.fields) (by decide) (i:=1) (f:=⟨⟨#[97]⟩,1,1,zE⟩) rfl,if_neg (by omega)]; rfl
 rw [if_pos (by exact e)]; rfl
theorem small_sol {v:List Vl} (h:Sol smallF.fields ke1 [] v):∃ y z,v=[⟨1,5,⟨#[]⟩⟩,y,⟨4,0,z⟩]:=by
 have hl:=h.len
 obtain ⟨x0,x1,x2,rfl⟩:∃ a b c,v=[a,b,c]:=by
  match v,hl with
  | [a,b,c],_=>exact ⟨a,b,c,rfl⟩
 have e1:=h.at_ 1 ⟨⟨#[97]⟩,1,1,zE⟩ x1 rfl rfl
 have e1:x1=⟨1,4,⟨#[]⟩⟩:=e1.trans (by unfold wV; rw [if_pos rfl,uX,if_pos (by rw [tl_dec]; decide)])
 have e0:=h.at_ 0 ⟨⟨#[98]⟩,2,1,smallX⟩ x0 rfl rfl
 subst e1
 have e0:x0=⟨1,5,⟨#[]⟩⟩:=e0.trans (by kernel_rfl)
 have e2:=h.at_ 2 ⟨⟨#[99]⟩,3,3,smallB⟩ x2 rfl rfl
 subst e0
 have e2:x2=pdV:=e2.trans (by kernel_rfl)
 exact ⟨_,_,by rw [e2]⟩
theorem known_any (h:Vw):C0 Tryz.prog 19 #[] h (fun r _=>r=.bool true):=by
 have hSm:OkFm smallF _ _:=⟨small_ok,small_okG,small_ranked⟩
 have hA:=fun H A c B d si q1 q2=>whAll_any smallF _ _ A 3 c B 2 d ke1 si (.slice none 0 0) [] H hSm q1 rfl (by omega) q2 (by decide) ke1_known ke1_told (RS.nil H 7) (by decide) (fun p hp=>by cases hp) (fun H' _ q=>oracle_nil _ _ _ _ _ _ _ H' q)
 have hs:=(all_sol small_ok ke1_known (orc:=[]) (fun p hp=>by cases hp) (ordL_ordd small_ranked (by decide))).1
 obtain ⟨y,z,hv⟩:=small_sol hs
 have hv:allW smallF.fields ke1 [] (gW [1,0,2] 3)=_:=hv
 rw [hv] at hA
 have hone:∀ (H:Vw) (b:Nat),Cells H b 0 [.string ⟨#[97]⟩,.int .i64 0,.int .i64 0,.string ⟨#[]⟩,.int .i64 1,.int .i64 4,.string ⟨#[]⟩]→RS H 7 (.slice (some ⟨b,0,none⟩) 1 1) (zK ke1):=fun H b hc =>
  rs_cells (k:=7) (zK ke1) (fun r hr=>by rw [List.mem_singleton.1 hr]; rfl) (by decide) hc
 refine fY Tryz.func19 (c:=Tryz.f19.body.getD .skip) (N:=32) ?_
 intro hbx hbad Q hQ a w hJ
 replace hJ:K ⟨32,h.w,h.bad,[]⟩ [] [] [] h a w:=hJ.tw
 have hr0:(xX [⟨1,5,⟨#[]⟩⟩,y,⟨4,0,z⟩])[0]?=some [.int .i64 1,.int .i64 5,.string ⟨#[]⟩]:=rfl
 have hr2:(xX [⟨1,5,⟨#[]⟩⟩,y,⟨4,0,z⟩])[2]?=some [.int .i64 4,.int .i64 0,.string z]:=rfl
 refine rx' hJ false 7 [] [] (.ok (.ops [0,1] 0) [.seq [1,1]] [] [] []) (fun _=>by kernel_rfl) ?_
 clear hJ a w; intro a w hJ
 refine dY hJ 4 (small_any _) (fun _=>by kernel_rfl) ?_; clear hJ a w; rintro _ h1 a w s2 ⟨A,c,B,d,rfl,hf⟩ hJ
 refine rk' hJ true 3 [.fix] [] (.new fun bone=>.m (.ops [0,1] 4) [.seq [1,1]] [4] [(7,Vs bone 1 1)] [] [(bone,0,[.string ⟨#[97]⟩,Vi 0,Vi 0,Ve,Vi 1,Vi 4,Ve])]) (hr:=fun bone _=>by kernel_rfl) ?_
 clear hJ a w; intro bone h3 a w s4 hJ
 have one:Cells h3 bone 0 [.string ⟨#[97]⟩,Vi 0,Vi 0,Ve,Vi 1,Vi 4,Ve]:=hJ.f _ (List.mem_of_getElem? (i:=0) rfl)
 refine dY hJ 8 (hA _ _ _ _ _ _ (hf.sees (s4.trans hJ.j.sees)) (hone _ _ (one.sees hJ.j.sees))) (fun _=>by kernel_rfl) ?_; clear hJ a w; rintro _ h5 a w s6 ⟨A',c',rfl,hr⟩ hJ
 refine rk' hJ false 18 [] [] (.k (.ops [0,1,1] 9) [.seq [1,1,1]] [] [(1,.slice A' 3 c'),(18,.bool true),(19,.slice A' 3 c')]) ?_
 clear hJ a w; intro a w hJ
 obtain ⟨b7,o8,rfl,-,c9⟩:=RS.row hr (hr0)
 replace hJ:=hJ.fact (c9.sees (Sees.refl _))
 refine rk' hJ false 7 [.ix b7 o8 3 c' 0,.f 0 1] [] (.k (.ops [0,1,1] 16) [.seq [1,1,1]] [] [(25,.bool true),(26,.slice (some ⟨b7,o8,none⟩) 3 c')]) (ho:=And.intro (by first | omega | (simp; omega)) (trivial)) ?_
 clear hJ a w; intro a w hJ
 have c10:=RS.cell hr (hr2)
 replace hJ:=hJ.fact (c10.sees (Sees.refl _))
 refine rk' hJ false 9 [.ix b7 o8 3 c' 2,.f 0 0] [] (.k (.out .ret) [] [] [(0,.bool true)]) (ho:=And.intro (by first | omega | (simp; omega)) (trivial)) ?_
 clear hJ a w; intro a w hJ
 refine gY (hQ [.bool true] _ [] hJ (.rtm hJ.j .nil) (fJ _) rfl ?_).1
 exact rfl
end Go.Proofs.YthckljafinhepaaGreat
namespace Go.Proofs.YthckljafinhepaaGreat
open Go.RowKit
set_option linter.unusedVariables false
theorem mem_pgNames {fs:List Fd} {n k:Nat} {s:ByteArray}:s∈jW fs n k↔∃ (i:Nat) (f:Fd),fs[i]?=some f∧i % (n + 1)=k∧f.name=s:=by
 unfold jW
 rw [List.mem_map]
 constructor
 ·rintro ⟨⟨f,i⟩,h,rfl⟩
  obtain ⟨h1,h2⟩:=List.mem_filter.1 h
  exact ⟨i,f,List.mem_zipIdx_iff_getElem?.1 h1,beq_iff_eq.1 h2,rfl⟩
 ·rintro ⟨i,f,h1,h2,rfl⟩
  exact ⟨(f,i),List.mem_filter.2 ⟨List.mem_zipIdx_iff_getElem?.2 h1,beq_iff_eq.2 h2⟩,rfl⟩
theorem pgNames_nodup {fs:List Fd} {n k:Nat} (h:(fs.map (fun f:Fd=>f.name)).Nodup):(jW fs n k).Nodup:=by
 unfold jW
 have e:fs.zipIdx.map (fun p=>p.1.name)=fs.map (fun f:Fd=>f.name):=by
  have:fs.zipIdx.map (fun p=>p.1)=fs:=List.zipIdx_map_fst 0 fs
  calc fs.zipIdx.map (fun p=>p.1.name)=(fs.zipIdx.map (fun p=>p.1)).map (fun f:Fd=>f.name):=by rw [List.map_map]; rfl
   _=_:=by rw [this]
 refine List.Sublist.nodup ?_ (e ▸ h)
 exact List.Sublist.map _ List.filter_sublist
theorem pgT_once {l:List RawD} {fs:List Fd} {n n0:Nat} (hd:(fs.map (fun f:Fd=>f.name)).Nodup):∀ k,((pJ l fs n n0 k).1.flatMap (fun p:Pg=>p.fields)).Nodup∧∀ s∈(pJ l fs n n0 k).1.flatMap (fun p:Pg=>p.fields),∃ (i:Nat) (f:Fd),fs[i]?=some f∧i % (n + 1) < k∧f.name=s
 | 0=>⟨List.nodup_nil,fun s hs=>by cases hs⟩
 | k + 1=>by
  obtain ⟨h1,h2⟩:=pgT_once (l:=l) (n:=n) (n0:=n0) hd k
  have e:(pJ l fs n n0 (k + 1)).1.flatMap (fun p:Pg=>p.fields)=(pJ l fs n n0 k).1.flatMap (fun p:Pg=>p.fields)++jW fs n k:=by
   show ((pJ l fs n n0 k).1++[_]).flatMap _=_
   rw [List.flatMap_append]; simp
  rw [e]
  refine ⟨List.nodup_append.2 ⟨h1,pgNames_nodup hd,fun a ha b hb q=>?_⟩,fun s hs=>?_⟩
  ·obtain ⟨i,f,f1,f2,f3⟩:=h2 a ha
   obtain ⟨j,g,g1,g2,g3⟩:=mem_pgNames.1 hb
   have q1:(fs.map (fun f:Fd=>f.name))[i]?=some a:=by rw [List.getElem?_map,f1]; simp [f3]
   have q2:(fs.map (fun f:Fd=>f.name))[j]?=some a:=by rw [List.getElem?_map,g1]; simp [g3,q]
   have:=(List.getElem?_inj (List.getElem?_eq_some_iff.1 q1).1 hd).1 (q1.trans q2.symm)
   subst this
   omega
  ·rcases List.mem_append.1 hs with hs | hs
   ·obtain ⟨i,f,f1,f2,f3⟩:=h2 s hs
    exact ⟨i,f,f1,by omega,f3⟩
   ·obtain ⟨j,g,g1,g2,g3⟩:=mem_pgNames.1 hs
    exact ⟨j,g,g1,by omega,g3⟩
theorem pgT_names (l:List RawD) (fs:List Fd) (n n0:Nat):∀ k,(pJ l fs n n0 k).1.map (fun p:Pg=>p.name)=(List.range k).map iW
 | 0=>rfl
 | k + 1=>by
  show ((pJ l fs n n0 k).1++[_]).map (fun p:Pg=>p.name)=_
  rw [List.map_append,pgT_names l fs n n0 k,List.range_succ,List.map_append]; rfl
theorem pgT_each (l:List RawD) (fs:List Fd) (n n0:Nat):∀ k,∀ p∈(pJ l fs n n0 k).1,∃ i m r,i < k∧p=⟨iW i,jW fs n i,(skipE l fs r m).1⟩
 | 0,p,h=>by cases h
 | k + 1,p,h=>by
  have h:p∈(pJ l fs n n0 k).1++[_]:=h
  rcases List.mem_append.1 h with h | h
  ·obtain ⟨i,m,r,h1,h2⟩:=pgT_each l fs n n0 k p h
   exact ⟨i,m,r,by omega,h2⟩
  ·exact ⟨k,_,_,by omega,List.mem_singleton.1 h⟩
theorem pgName_ok {k:Nat} (h:k < 5):sJ (iW k).data.toList:=by
 match k,h with
 | 0,_=>exact ⟨by decide,by decide,⟨_,rfl,by decide⟩,by decide,by decide⟩
 | 1,_=>exact ⟨by decide,by decide,⟨_,rfl,by decide⟩,by decide,by decide⟩
 | 2,_=>exact ⟨by decide,by decide,⟨_,rfl,by decide⟩,by decide,by decide⟩
 | 3,_=>exact ⟨by decide,by decide,⟨_,rfl,by decide⟩,by decide,by decide⟩
 | 4,_=>exact ⟨by decide,by decide,⟨_,rfl,by decide⟩,by decide,by decide⟩
theorem pgName_inj {i j:Nat} (hi:i < 5) (hj:j < 5) (h:iW i=iW j):i=j:=by
 have key:∀ i,i < 5→∀ j,j < 5→(iW i).data=(iW j).data→i=j:=by decide
 exact key i hi j hj (congrArg ByteArray.data h)
theorem form_okGs (l:List RawD):OkGs (mQ l).fields (mQ l).pages:=by
 have hn:=mV l
 have hp:=nPages_le l
 have hpl:=form_pages l
 have hT:((gJ l (jJ l)).1.map (fun f:Fd=>f.name)).Nodup:=by
  rw [fldT_names]
  refine List.pairwise_map.2 (List.nodup_range.imp_of_mem ?_)
  intro a b ha hb hab e
  exact hab (fname_inj (by have:=List.mem_range.1 ha; omega) (by have:=List.mem_range.1 hb; omega) e)
 have he:∀ p∈(mQ l).pages,∃ i m r,i < eJ l∧p=⟨iW i,jW (gJ l (jJ l)).1 (eJ l) i,(skipE l (gJ l (jJ l)).1 r m).1⟩:=pgT_each _ _ _ _ _
 have hok:=form_okFs l _ (oQ l) (fun f=>Iff.rfl) (by rw [nQ]; omega)
 refine ⟨by omega,by omega,fun p h=>?_,?_,fun p h=>?_,fun p h s hs=>?_,(pgT_once hT _).1,fun p h=>?_⟩
 ·obtain ⟨i,m,r,hi,rfl⟩:=he p h
  exact pgName_ok (by omega)
 ·show ((pJ l _ _ _ _).1.map (fun p:Pg=>p.name)).Nodup
  rw [pgT_names]
  refine List.pairwise_map.2 (List.nodup_range.imp_of_mem ?_)
  intro a b ha hb hab e
  exact hab (pgName_inj (by have:=List.mem_range.1 ha; omega) (by have:=List.mem_range.1 hb; omega) e)
 ·obtain ⟨i,m,r,hi,rfl⟩:=he p h
  have:=pgNames_len (gJ l (jJ l)).1 (eJ l) i
  rw [lQ] at this
  show (jW _ _ _).length≤100
  omega
 ·obtain ⟨i,m,r,hi,rfl⟩:=he p h
  obtain ⟨j,f,f1,-,rfl⟩:=mem_pgNames.1 hs
  obtain ⟨k,hk⟩:=List.mem_iff_getElem?.1 (form_mem.2 (List.mem_of_getElem? f1))
  rw [iQ (oQ l) hk]
  omega
 ·obtain ⟨i,m,r,hi,rfl⟩:=he p h
  show (skipE l _ r m).1=zE∨_
  unfold skipE
  split
  ·right
   have hnm:∀ f∈(gJ l (jJ l)).1,sJ f.name.data.toList:=fun f hf=>(hok.each f (form_mem.2 hf)).name
   obtain ⟨w1,w2,w3⟩:=genE_ok l _ hnm 1 2 m (by omega) (by omega)
   have ht:=ty_gen (fs:=(gJ l (jJ l)).1) (g:=tyF (mQ l).fields) (fun f hf=>tyF_mem (oQ l) f (form_mem.2 hf)) l 1 2 m (by omega) (by omega)
   show (iJ l _ 1 2 m).1.op≠0∧_
   generalize (iJ l (gJ l (jJ l)).1 1 2 m).1=x at *
   have w2:(szE x).1≤4:=w2
   refine ⟨?_,w1,by show (szE x).1 < 1000000; omega,?_⟩
   ·rcases w1.top with t | t | t <;> omega
   ·have cx:chkE x=0:=by unfold chkE; rw [if_neg (by omega),if_neg (by omega)]
    have ho:ofE (mQ l).fields x=(2,0):=by unfold ofE; rw [if_pos cx,ht]
    show fitsE (mQ l).fields x 2=0
    unfold fitsE
    rw [ho]; rfl
  ·left; rfl
end Go.Proofs.YthckljafinhepaaGreat
namespace Go.Proofs.YthckljafinhepaaGreat
open Go.RowKit
set_option linter.unusedVariables false
theorem form_okFm (l:List RawD):OkFm (mQ l) (rhoL (qV (mQ l).fields)) (lvF l):=⟨form_okFs l _ (oQ l) (fun f=>Iff.rfl) (by have:=nQ l; have:=mV l; omega),form_okGs l,form_ranked l⟩
theorem form_ty (l:List RawD):∀ f∈(mQ l).fields,1≤f.ty∧f.ty≤3:=fun f hf=>by obtain ⟨_,_,_,_,q,_⟩:=form_each hf; exact q
def allF (l m:List RawD) (orc:List Aw):List Vl:=allW (mQ l).fields (inpE (mQ l).fields m) orc (gW (rhoL (qV (mQ l).fields)) (mQ l).fields.length)
structure InpOk (fs:List Fd) (env:Env):Prop where
 known:∀ p∈env,p.2.known
 told:vK fs [] env=0
 few:env.length≤fs.length
 once:(env.map (·.1)).Nodup
theorem inp_ok (l m:List RawD):InpOk (mQ l).fields (inpE (mQ l).fields m):=by
 have k0:=inp_told (l:=m) (oQ l)
 have k2:((inpE (mQ l).fields m).map (·.1)).Nodup:=inpF_nodup (l:=m) (oQ l) (mQ l).fields.length (Nat.le_refl _)
 exact ⟨inp_known (l:=m) (form_ty l),factsV_ok _ _ [] k0 k2,(inpF_le (mQ l).fields m (mQ l).fields.length).2,k2⟩
theorem allF_sol (l m:List RawD) {orc:List Aw} (ho:∀ p∈orc,OkV p.has):Sol (mQ l).fields (inpE (mQ l).fields m) orc (allF l m orc)∧∀ x∈allF l m orc,OkV x :=
 all_sol (form_okFm l).fields (inp_ok l m).known ho (ordL_ordd (form_ranked l) (by have:=nQ l; have:=mV l; omega))
theorem all_form (l m:List RawD) (orc:List Aw) (A:Option Addr) (c:Nat) (B:Option Addr) (d:Nat) (si so:Value) (h:Vw) (hf:IsForm h (.slice A (mQ l).fields.length c) (.slice B (mQ l).pages.length d) (mQ l)) (hi:RS h 7 si (zK (inpE (mQ l).fields m)))
  (ho:RS h 7 so (vJ orc)) (lo:orc.length≤1000) (ko:∀ p∈orc,OkV p.has)
  (hO:∀ H,IsForm H (.slice A (mQ l).fields.length c) (.slice B (mQ l).pages.length d) (mQ l)→RS H 7 so (vJ orc)→C0 Tryz.prog 91 #[.agg #[.slice A (mQ l).fields.length c,.slice B (mQ l).pages.length d],so] H (fun r _=>r=.int .i64 0)) :
  C0 Tryz.prog 18 #[.agg #[.slice A (mQ l).fields.length c,.slice B (mQ l).pages.length d],si,so] h (fun r h'=>∃ A' c',r=.tuple #[.slice A' (mQ l).fields.length c',.int .i64 0]∧RS h' 3 (.slice A' (mQ l).fields.length c') (xX (allF l m orc))):=by
 have hn:=mV l
 have hl:=nQ l
 have hI:=inp_ok l m
 have:=hI.few
 exact whAll_any (mQ l) _ _ A _ c B _ d _ si so orc h (form_okFm l) hf rfl (by omega) hi (by omega) hI.known hI.told ho lo ko hO
end Go.Proofs.YthckljafinhepaaGreat
namespace Go.Proofs.YthckljafinhepaaGreat
open Go.RowKit
set_option linter.unusedVariables false
theorem fcs_snoc:∀ {fs:List Fd} {vs:List Vl} (f:Fd) (v:Vl),vs.length=fs.length→fcs (fs++[f]) (vs++[v])=fcs fs vs++[(f.name,v)]
 | [],[],f,v,_=>rfl
 | g :: fs,x :: vs,f,v,h=>by
  show _ :: fcs (fs++[f]) (vs++[v])=_
  rw [fcs_snoc f v (by simpa using h)]; rfl
 | [],_ :: _,_,_,h=>by simp at h
 | _ :: _,[],_,_,h=>by simp at h
theorem fcs_ok {fs:List Fd} {vs:List Vl} (h:∀ x∈vs,OkV x):∀ p∈fcs fs vs,OkV p.2:=by
 induction fs generalizing vs with
 | nil=>intro p hp; cases hp
 | cons f fs ih =>
  cases vs with
  | nil=>intro p hp; cases hp
  | cons v vs =>
   intro p hp
   rcases List.mem_cons.1 hp with rfl | hp
   ·exact h v (by simp)
   ·exact ih (fun x hx=>h x (by simp [hx])) p hp
end Go.Proofs.YthckljafinhepaaGreat
namespace Go.Proofs.YthckljafinhepaaGreat
open Go.RowKit
set_option linter.unusedVariables false
theorem CRow.slu {P:Program} {f:FuncId} {args:Array Value} {h:Vw} {e:TypeId} {k:Nat} {l:List (List Value)} (hc:CRow P f args h e k (fun _ rows=>rows=l)):CRow P f args h e k (fun v rows=>(∃ u,v=.slice (sA u) (sN u) (sC u))∧rows=l):=by
 intro a1 a2 a3 a4
 refine (hc a1 a2 a3 a4).mono ?_
 rintro en w' ⟨v,Bo,h1,h2,h3,h4,r,h5,rfl⟩
 obtain ⟨A,c,rfl,-,-⟩:=dX h5
 exact ⟨_,Bo,h1,h2,h3,h4,r,h5,⟨.slice A r.length c,rfl⟩,rfl⟩
structure PathOk (l:List Int) (m:Nat):Prop where
 rise:l.Pairwise (· < ·)
 lo:∀ x∈l,0≤x
 hi:∀ x∈l,x≤(m:Int)
end Go.Proofs.YthckljafinhepaaGreat
namespace Go.Proofs.YthckljafinhepaaGreat
open Go.RowKit
set_option linter.unusedVariables false
end Go.Proofs.YthckljafinhepaaGreat
namespace Go.Proofs.YthckljafinhepaaGreat
open Go.RowKit
set_option linter.unusedVariables false
section
variable {P:Program} {C:Fx} {E:List (Nat × Value)} {B:List Ent} {F:List Fac} {h:Vw} {a:Act} {w w':World} {Q:Exit→Act→World→Prop} {c0:Code} {p:List Nat} {n:Nat} {ks:List Kt}
end
end Go.Proofs.YthckljafinhepaaGreat
namespace Go.Proofs.YthckljafinhepaaGreat
open Go.RowKit
set_option linter.unusedVariables false
end Go.Proofs.YthckljafinhepaaGreat
