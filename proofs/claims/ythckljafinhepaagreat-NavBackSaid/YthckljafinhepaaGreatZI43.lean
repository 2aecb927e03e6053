/-
  Contracts of package slices at []string. slices.Clone at []string.
-/
import Derived.Test.YthckljafinhepaaGreatZI30
import Derived.Test.YthckljafinhepaaGreatZI25
import Derived.Test.YthckljafinhepaaGreatZI4
import Derived.Test.YthckljafinhepaaGreatZI16
import Derived.Test.YthckljafinhepaaGreatZI42
import Derived.Lib.AppendZerosOnto
import Derived.Test.YthckljafinhepaaGreatZI36
import Derived.Test.YthckljafinhepaaGreatZI32
import Derived.Test.YthckljafinhepaaGreatZI37
import Derived.Test.YthckljafinhepaaGreatZI39
set_option maxRecDepth 100000
namespace Go.Proofs.YthckljafinhepaaGreat
open Go.RowKit
set_option linter.unusedVariables false
theorem str_row {l:List ByteArray} {i:Nat} {s:ByteArray} (h:l[i]?=some s):(oX l)[i]?=some [.string s]:=by rw [List.getElem?_map,h]; rfl
theorem idxS_any (l:List ByteArray) (v:Value) (s:ByteArray) (h:Vw) (hr:RS h 1 v (oX l)) (hl:l.length≤1000000):C0 Tryz.prog 67 #[v,.string s] h (fun r _=>r=.int .i64 (fidx (fun y:ByteArray=>s.toList == y.toList) l)):=by
 obtain ⟨A,cap,rfl,-,-,-⟩:=hr.form
 rw [List.length_map] at *
 generalize hL:l.length=len at *
 refine yX Tryz.func67 (c:=Tryz.f67.body.getD .skip) (N:=19) ?_
 intro hbx hbad Q hQ a w hJ
 refine rk' hJ false 14 [] [] (.k (.code [0,1,0,1]) [.block 0,.seq [1,1]] [0,1] [(7,Vi (len:Int)),(8,Vi 0)]) ?_
 clear hJ a w; intro a w hJ
 refine eY (fun (k:Nat) a w=>∃ (h1:Vw) ,K ⟨19,h.w,h.bad,[]⟩ [(0,.slice A len cap),(1,.string s),(7,Vi (len:Int)),(8,Vi (k:Int))] [] [] h1 a w∧Sees h h1∧(k≤len)∧(∀ y∈l.take k,(s.toList == y.toList)=false)) (fun k=>len - k) (0) ⟨h,hJ.tw,Sees.refl _,Nat.zero_le _,fun y hy=>by simp at hy⟩ ?_
 clear hJ a w; rintro k a w ⟨h1,hJ,s2,hk,hn⟩
 refine rk' hJ false 6 [] [] (.k (.code [0,1,0,0,1,0,1]) [.seq [1,1,0,0,1,0,1]] [0,1,7,8] [(9,.bool (decide ((k:Int) < (len:Int))))]) ?_
 clear hJ a w; intro a w hJ
 rcases (by omega:k < len∨k=len) with hlt | hke
 ·obtain ⟨f,hfk⟩:∃ f,l[k]?=some f:=⟨_,List.getElem?_eq_getElem (by omega)⟩
  have hrow:=str_row hfk
  refine kY hJ (t:=decide ((k:Int) < (len:Int))) (decide_eq_true (by omega)) ?_
  refine rk' hJ false 15 [] [] (.k (.ops [0,1,0,0,1,1,0,0,1,0,1] 3) [.seq [1,1,0,0,1,1,0,0,1,0,1],.block 1,.seq [1,1,1,0,0,1,0,1]] [0,1,7,8] [(5,Vi (k:Int)),(11,.string s),(12,.slice A len cap),(13,Vi (k:Int))]) ?_
  clear hJ a w; intro a w hJ
  obtain ⟨b3,o4,rfl,-,c5⟩:=RS.row hr (hrow)
  replace hJ:=hJ.fact (c5.sees s2)
  refine rk' hJ false 5 [.ix b3 o4 len cap k,.f 0 0] [] (.k (.code [1,1,0,0,1,1,0,0,1,0,1]) [.block 1,.seq [1,1,1,0,0,1,0,1]] [0,1,7,8,5] [(16,.bool (s.toList == f.toList))]) (ho:=And.intro (by first | omega | (simp; omega)) (trivial)) ?_
  clear hJ a w; intro a w hJ
  rcases Bool.eq_false_or_eq_true (s.toList == f.toList) with hq | hq
  ·refine kY hJ (t:=s.toList == f.toList) (hq) ?_
   refine rk' hJ false 9 [] [] (.k (.out .ret) [] [] [(4,Vi (k:Int))]) ?_
   clear hJ a w; intro a w hJ
   refine dY rfl ?_
   refine rk' hJ false 2 [] [] (.k (.out .ret) [] [4] []) ?_
   clear hJ a w; intro a w hJ
   refine zX (hQ [Vi (k:Int)] _ [] hJ (.rtm hJ.j .nil) (fJ _) rfl ?_).1
   exact congrArg (Value.int .i64) (eQ _ l k f hn hfk hq).symm
  ·skip
   refine aY hJ (t:=s.toList == f.toList) (hq) ?_
   refine rk' hJ false 7 [] [(18,Vi (IntKind.i64.wrap ((k:Int) + 1)),Vi ((k:Int) + 1))] (.k (.out .normal) [] [0,1,7] [(8,Vi ((k:Int) + 1))]) (hc:=And.intro (kJ (by omega) (by omega)) (trivial)) ?_
   clear hJ a w; intro a w hJ
   exact jY ⟨k + 1,⟨h1,(hJ.tof [] (F':=[]) (by kernel_rfl)).to (by kernel_rfl) (by kernel_rfl) rfl,s2,by omega,(by rw [pX l k f hfk]; exact fun y hy=>(List.mem_append.1 hy).elim (hn y) (fun e=>by rw [List.mem_singleton.1 e]; exact hq))⟩,by omega⟩
 ·skip
  have htk:l.take k=l:=by rw [hke,← hL,List.take_length]
  rw [htk] at hn
  refine aY hJ (t:=decide ((k:Int) < (len:Int))) (decide_eq_false (by omega)) ?_
  refine rx' hJ false 2 [] [] (.ok (.out (.exit 0)) [] [] [] []) (fun _=>by kernel_rfl) ?_
  clear hJ a w; intro a w hJ
  refine dY rfl ?_
  refine rx' hJ false 8 [] [] (.ok (.out .ret) [] [(4,Vi (-1))] [] []) (fun _=>by kernel_rfl) ?_
  clear hJ a w; intro a w hJ
  refine zX (hQ [Vi (-1)] _ [] hJ (.rtm hJ.j .nil) (fJ _) rfl ?_).1
  exact congrArg (Value.int .i64) (fidx_none _ l hn).symm
def memS (l:List ByteArray) (s:ByteArray):Bool:=l.any fun y=>s.toList == y.toList
theorem memS_iff {l:List ByteArray} {s:ByteArray}:memS l s=true↔s∈l:=by
 unfold memS
 rw [List.any_eq_true]
 constructor
 ·rintro ⟨y,hy,q⟩
  rw [tl_dec] at q
  rw [of_decide_eq_true q]; exact hy
 ·intro hm
  exact ⟨s,hm,tl_yes rfl⟩
theorem contS_any (l:List ByteArray) (v:Value) (s:ByteArray) (h:Vw) (hr:RS h 1 v (oX l)) (hl:l.length≤1000000):C0 Tryz.prog 30 #[v,.string s] h (fun r _=>r=.bool (memS l s)):=by
 have hi:=fun H q=>idxS_any l v s H q hl
 have e:decide (0≤fidx (fun y:ByteArray=>s.toList == y.toList) l)=memS l s:=fidx_dec _ _
 generalize fidx (fun y:ByteArray=>s.toList == y.toList) l=p at *
 obtain ⟨A,cap,rfl,-,-,-⟩:=hr.form
 refine yX Tryz.func30 (c:=Tryz.f30.body.getD .skip) (N:=9) ?_
 intro hbx hbad Q hQ a w hJ
 refine rx' hJ false 15 [.cl 67 #[.slice A ((oX l).length) cap,.string s] (Vi p)] [] (.ok (.out .ret) [] [(4,.bool (decide (p ≥ 0)))] [] []) (ho:=And.intro (fun H sH=>hi _ (hr.sees sH)) (trivial)) (fun _=>by kernel_rfl) ?_
 clear hJ a w; intro a w hJ
 refine zX (hQ [.bool (decide (p ≥ 0))] _ [] hJ (.rtm hJ.j .nil) (fJ _) rfl ?_).1
 exact congrArg Value.bool e
end Go.Proofs.YthckljafinhepaaGreat
namespace Go.Proofs.YthckljafinhepaaGreat
open Go.RowKit
set_option linter.unusedVariables false
end Go.Proofs.YthckljafinhepaaGreat
namespace Go.Proofs.YthckljafinhepaaGreat
open Go.RowKit
set_option linter.unusedVariables false
theorem pgRows_get:∀ {l:List Pg} {us vs:List Value} {i:Nat} {p:Pg} {u v:Value},l[i]?=some p→us[i]?=some u→vs[i]?=some v→(fW l us vs)[i]?=some (pgRow p u v)
 | q :: l,u' :: us,v' :: vs,0,p,u,v,h1,h2,h3=>by simp at h1 h2 h3; subst h1 h2 h3; rfl
 | q :: l,u' :: us,v' :: vs,i + 1,p,u,v,h1,h2,h3=>pgRows_get (l:=l) (by simpa using h1) (by simpa using h2) (by simpa using h3)
 | [],_,_,_,_,_,_,h,_,_=>by simp at h
 | _ :: _,[],_,_,_,_,_,_,h,_=>by simp at h
 | _ :: _,_ :: _,[],_,_,_,_,_,_,h=>by simp at h
theorem AllStr.get {h:Vw}:∀ {l:List (List ByteArray)} {us:List Value},AllStr h l us→∀ {i:Nat} {x:List ByteArray} {u:Value},l[i]?=some x→us[i]?=some u→RS h 1 u (oX x)
 | [],_,_,i,x,u,hx,_=>by simp at hx
 | y :: l,_,⟨u',r,e,k1,k2⟩,i,x,u,hx,hu=>by
  subst e
  cases i with
  | zero=>simp at hx hu; subst hx hu; exact k1
  | succ i=>exact AllStr.get k2 (by simpa using hx) (by simpa using hu)
theorem pgs_open {h:Vw} {v:Value} {l:List Pg} (hp:IsPgs h v l):∃ us vs A cap,v=.slice A l.length cap∧cap≤maxLen∧RS h 8 (.slice A l.length cap) (fW l us vs)∧AllStr h (l.map (·.fields)) us∧AllArgs h (l.map (·.skip)) vs∧us.length=l.length∧vs.length=l.length:=by
 obtain ⟨us,vs,hr,hs,ha⟩:=hp
 have hu:=hs.len
 have hv:=ha.len
 rw [List.length_map] at hu hv
 obtain ⟨A,c,e,-,h2,-⟩:=hr.form
 rw [gW hu hv] at e
 rw [e] at hr
 exact ⟨us,vs,A,c,e,h2,hr,hs,ha,hu,hv⟩
theorem pg_at {h:Vw} {l:List Pg} {us vs:List Value} (hs:AllStr h (l.map (·.fields)) us) (ha:AllArgs h (l.map (·.skip)) vs) {i:Nat} {p:Pg} (hp:l[i]?=some p) :
  ∃ A c B m d,(fW l us vs)[i]?=some (pgRow p (.slice A p.fields.length c) (.slice B m d))∧RS h 1 (.slice A p.fields.length c) (oX p.fields)∧IsArgs h p.skip (.slice B m d):=by
 have hu:=hs.len
 have hv:=ha.len
 rw [List.length_map] at hu hv
 have hil:=(List.getElem?_eq_some_iff.1 hp).1
 obtain ⟨u,hui⟩:∃ u,us[i]?=some u:=⟨_,List.getElem?_eq_getElem (by omega)⟩
 obtain ⟨v,hvi⟩:∃ v,vs[i]?=some v:=⟨_,List.getElem?_eq_getElem (by omega)⟩
 have h1:=AllStr.get hs (x:=p.fields) (by rw [List.getElem?_map,hp]; rfl) hui
 have h2:=AllArgs.get ha (x:=p.skip) (by rw [List.getElem?_map,hp]; rfl) hvi
 obtain ⟨A,c,e,-⟩:=h1.form
 rw [List.length_map] at e
 obtain ⟨B,m,d,rfl⟩:=h2.slice
 subst e
 exact ⟨A,c,B,m,d,pgRows_get hp hui hvi,h1,h2⟩
def findG (l:List Pg) (s:ByteArray):Int:=fidx (fun p:Pg=>p.name.toList == s.toList) l
theorem gfind1_any (p:Pg) (u:Value) (A:Option Addr) (n c:Nat) (B:Option Addr) (m d:Nat) (s:ByteArray) (b:Nat) (h:Vw) (hc:Cells h b 0 [.string s]) :
  C0 Tryz.prog 158 #[.agg #[.string p.name,.slice A n c,.int .i64 p.skip.op,.int .i64 p.skip.k,.int .i64 p.skip.n,.string p.skip.s,.string p.skip.nm,.slice B m d],.pointer (some ⟨b,0,none⟩)] h (fun r _=>r=.bool (p.name.toList == s.toList)):=by
 refine yX Tryz.func158 (c:=Tryz.f158.body.getD .skip) (N:=8) ?_
 intro hbx hbad Q hQ a w hJ
 replace hJ:K ⟨8,h.w,h.bad,[]⟩ [(0,.agg #[.string p.name,.slice A n c,Vi p.skip.op,Vi p.skip.k,Vi p.skip.n,.string p.skip.s,.string p.skip.nm,.slice B m d]),(1,Vp b)] [] [] h a w:=hJ.tw
 replace hJ:=hJ.fact (hc.sees (Sees.refl _))
 refine rx' hJ false 16 [.own,.b 0 0,.f 0 0] [] (.new fun b1=>.ok (.out .ret) [] [(3,.bool (p.name.toList == s.toList))] [.box b1 [.string p.name,.slice A n c,Vi p.skip.op,Vi p.skip.k,Vi p.skip.n,.string p.skip.s,.string p.skip.nm,.slice B m d]] [(b,0,[.string s])]) (fun b1 _=>by kernel_rfl) ?_
 clear hJ a w; intro b1 a w hJ
 refine zX (hQ [.bool (p.name.toList == s.toList)] _ [] hJ (.rtm hJ.j .nil) (fJ _) rfl ?_).1
 exact rfl
theorem gidxF_any (s:ByteArray) (l:List Pg) (us vs:List Value) (A:Option Addr) (cap:Nat) (b:Nat) (h:Vw) (hr:RS h 8 (.slice A l.length cap) (fW l us vs)) (hs:AllStr h (l.map (·.fields)) us) (ha:AllArgs h (l.map (·.skip)) vs) (hl:l.length≤1000000) (hc:Cells h b 0 [.string s]) (hfl:∀ p∈l,p.fields.length≤1000000) :
  C0 Tryz.prog 157 #[.slice A l.length cap,.func (.func 158) #[] #[.pointer (some ⟨b,0,none⟩)]] h (fun r _=>r=.int .i64 (findG l s)):=by
 have hat:=fun i p hp=>pg_at (i:=i) (p:=p) hs ha hp
 generalize hL:l.length=len at *
 refine yX Tryz.func157 (c:=Tryz.f157.body.getD .skip) (N:=19) ?_
 intro hbx hbad Q hQ a w hJ
 refine rk' hJ false 14 [] [] (.k (.code [0,1,0,1]) [.block 0,.seq [1,1]] [0,1] [(7,Vi (len:Int)),(8,Vi 0)]) ?_
 clear hJ a w; intro a w hJ
 refine eY (fun (k:Nat) a w=>∃ (h1:Vw) ,K ⟨19,h.w,h.bad,[]⟩ [(0,.slice A len cap),(1,.func (.func 158) #[] #[Vp b]),(7,Vi (len:Int)),(8,Vi (k:Int))] [] [] h1 a w∧Sees h h1∧(k≤len)∧(∀ y∈l.take k,(y.name.toList == s.toList)=false)) (fun k=>len - k) (0) ⟨h,hJ.tw,Sees.refl _,Nat.zero_le _,fun y hy=>by simp at hy⟩ ?_
 clear hJ a w; rintro k a w ⟨h1,hJ,s2,hk,hn⟩
 refine rk' hJ false 6 [] [] (.k (.code [0,1,0,0,1,0,1]) [.seq [1,1,0,0,1,0,1]] [0,1,7,8] [(9,.bool (decide ((k:Int) < (len:Int))))]) ?_
 clear hJ a w; intro a w hJ
 rcases (by omega:k < len∨k=len) with hlt | hke
 ·obtain ⟨p,hpk⟩:∃ p,l[k]?=some p:=⟨_,List.getElem?_eq_getElem (by omega)⟩
  obtain ⟨Au,cu,Bu,mu,du,hrow,hrs,-⟩:=hat k p hpk
  have hpl:=hfl p (List.mem_of_getElem? hpk)
  refine kY hJ (t:=decide ((k:Int) < (len:Int))) (decide_eq_true (by omega)) ?_
  refine rk' hJ false 15 [] [] (.k (.ops [0,1,0,0,1,1,0,0,1,0,1] 3) [.seq [1,1,0,0,1,1,0,0,1,0,1],.block 1,.seq [1,1,1,0,0,1,0,1]] [0,1,7,8] [(5,Vi (k:Int)),(11,.func (.func 158) #[] #[Vp b]),(12,.slice A len cap),(13,Vi (k:Int))]) ?_
  clear hJ a w; intro a w hJ
  obtain ⟨b3,o4,rfl,-,c5⟩:=RS.row hr (hrow)
  replace hJ:=hJ.fact (c5.sees s2)
  refine rk' hJ false 5 [.ix b3 o4 len cap k,.f 0 0,.cl 158 #[.agg #[.string p.name,.slice Au p.fields.length cu,Vi p.skip.op,Vi p.skip.k,Vi p.skip.n,.string p.skip.s,.string p.skip.nm,.slice Bu mu du],Vp b] (.bool (p.name.toList == s.toList))] [] (.k (.code [1,1,0,0,1,1,0,0,1,0,1]) [.block 1,.seq [1,1,1,0,0,1,0,1]] [0,1,7,8,5] [(16,.bool (p.name.toList == s.toList))]) (ho:=And.intro (by first | omega | (simp; omega)) (And.intro (fun H sH=>gfind1_any p (Vz) _ _ _ _ _ _ s b _ (hc.sees (s2.trans sH))) (trivial))) ?_
  clear hJ a w; intro a w hJ
  cases hq:p.name.toList == s.toList with
  | true =>
   refine kY hJ (t:=p.name.toList == s.toList) (hq) ?_
   refine rk' hJ false 9 [] [] (.k (.out .ret) [] [] [(4,Vi (k:Int))]) ?_
   clear hJ a w; intro a w hJ
   refine dY rfl ?_
   refine rk' hJ false 2 [] [] (.k (.out .ret) [] [4] []) ?_
   clear hJ a w; intro a w hJ
   refine zX (hQ [Vi (k:Int)] _ [] hJ (.rtm hJ.j .nil) (fJ _) rfl ?_).1
   exact congrArg (Value.int .i64) (eQ _ l k p hn hpk hq).symm
  | false =>
   refine aY hJ (t:=p.name.toList == s.toList) (hq) ?_
   refine rk' hJ false 7 [] [(18,Vi (IntKind.i64.wrap ((k:Int) + 1)),Vi ((k:Int) + 1))] (.k (.out .normal) [] [0,1,7] [(8,Vi ((k:Int) + 1))]) (hc:=And.intro (kJ (by omega) (by omega)) (trivial)) ?_
   clear hJ a w; intro a w hJ
   exact jY ⟨k + 1,⟨h1,(hJ.tof [] (F':=[]) (by kernel_rfl)).to (by kernel_rfl) (by kernel_rfl) rfl,s2,by omega,(by rw [pX l k p hpk]; exact fun y hy=>(List.mem_append.1 hy).elim (hn y) (fun e=>by rw [List.mem_singleton.1 e]; exact hq))⟩,by omega⟩
 ·skip
  have htk:l.take k=l:=by rw [hke,← hL,List.take_length]
  rw [htk] at hn
  refine aY hJ (t:=decide ((k:Int) < (len:Int))) (decide_eq_false (by omega)) ?_
  refine rx' hJ false 2 [] [] (.ok (.out (.exit 0)) [] [] [] []) (fun _=>by kernel_rfl) ?_
  clear hJ a w; intro a w hJ
  refine dY rfl ?_
  refine rx' hJ false 8 [] [] (.ok (.out .ret) [] [(4,Vi (-1))] [] []) (fun _=>by kernel_rfl) ?_
  clear hJ a w; intro a w hJ
  refine zX (hQ [Vi (-1)] _ [] hJ (.rtm hJ.j .nil) (fJ _) rfl ?_).1
  exact congrArg (Value.int .i64) (fidx_none _ l hn).symm
theorem gFind_any (l:List Pg) (v:Value) (s:ByteArray) (h:Vw) (hp:IsPgs h v l) (hl:l.length≤1000000) (hfl:∀ p∈l,p.fields.length≤1000000):C0 Tryz.prog 130 #[v,.string s] h (fun r _=>r=.tuple #[.int .i64 (if findG l s < 0 then 0 else findG l s),.int .i64 (if findG l s < 0 then 5 else 0)]):=by
 obtain ⟨us,vs,A,cap,rfl,-,hr,hs,ha,-,-⟩:=pgs_open hp
 have hi:=fun H b q1 q2 q3 q4=>gidxF_any s l us vs A cap b H q1 q2 q3 hl q4 hfl
 generalize findG l s=p at *
 refine yX Tryz.func130 (c:=Tryz.f130.body.getD .skip) (N:=13) ?_
 intro hbx hbad Q hQ a w hJ
 refine rx' hJ true 11 [.fix] [] (.new fun bsn=>.ok (.ops [0,1] 2) [.seq [1,1]] [(7,.slice A l.length cap),(8,.func (.func 158) #[] #[Vp bsn])] [] [(bsn,0,[.string s])]) (fun bsn _=>by kernel_rfl) ?_
 clear hJ a w; intro bsn h1 a w s2 hJ
 have sn:Cells h1 bsn 0 [.string s]:=hJ.f _ (List.mem_of_getElem? (i:=0) rfl)
 refine rk' hJ false 11 [.cl 157 #[.slice A l.length cap,.func (.func 158) #[] #[Vp bsn]] (Vi p)] [] (.k (.code [1,0,1,1]) [.seq [1,1,1]] [] [(6,Vi p),(11,.bool (decide (p < 0)))]) (ho:=And.intro (fun H sH=>hi _ _ (hr.sees (s2.trans sH)) (hs.sees (s2.trans sH)) (ha.sees (s2.trans sH)) (sn.sees sH)) (trivial)) ?_
 clear hJ a w; intro a w hJ
 by_cases hp:p < 0
 ·refine kY hJ (t:=decide (p < 0)) (decide_eq_true hp) ?_
  refine rk' hJ false 8 [] [] (.k (.out .ret) [] [] [(4,Vi 0),(5,Vi 5)]) ?_
  clear hJ a w; intro a w hJ
  refine zX (hQ [Vi 0,Vi 5] _ [] hJ (.rtm hJ.j (.rtm hJ.j .nil)) (fJ _) rfl ?_).1
  rw [if_pos hp,if_pos hp]; rfl
 ·skip
  refine aY hJ (t:=decide (p < 0)) (decide_eq_false hp) ?_
  refine rk' hJ false 10 [] [] (.k (.out .ret) [] [] [(4,Vi p),(5,Vi 0)]) ?_
  clear hJ a w; intro a w hJ
  refine zX (hQ [Vi p,Vi 0] _ [] hJ (.rtm hJ.j (.rtm hJ.j .nil)) (fJ _) rfl ?_).1
  rw [if_neg hp,if_neg hp]; rfl
theorem never_yes (nm:ByteArray) (A:Option Addr) (n c:Nat) (B:Option Addr) (d:Nat) (h:Vw):C0 Tryz.prog 104 #[.agg #[.string nm,.slice A n c,.int .i64 0,.int .i64 0,.int .i64 0,.string ⟨#[]⟩,.string ⟨#[]⟩,.slice B 0 d]] h (fun r _=>r=.bool true):=by
 refine yX Tryz.func104 (c:=Tryz.f104.body.getD .skip) (N:=26) ?_
 intro hbx hbad Q hQ a w hJ
 refine rx' hJ false 28 [.own,.b 0 2,.own,.b 0 0,.b 0 0,.b 0 4,.b 0 1] [] (.new fun b1=>.new fun b2=>.ok (.ops [0,1,1] 12) [.seq [1,1,1]] [(3,Vp b2),(14,.bool true),(16,.agg #[Vi 0,Vi 0,Ve]),(17,.agg #[Vi 0,Vi 0,Ve])] [.box b2 [Vi 0,Vi 0,Vi 0,Ve,Ve,.slice B 0 d],.box b1 [.string nm,.slice A n c,Vi 0,Vi 0,Vi 0,Ve,Ve,.slice B 0 d]] []) (fun b1 b2 _=>by kernel_rfl) ?_
 clear hJ a w; intro b1 b2 a w hJ
 refine x_pure hJ 18 (.bool true) (by kernel_rfl) (fun w=>run_eqop (x:=(.tmp 16)) (y:=(.tmp 17)) (v:=(⟨0,0,⟨#[]⟩⟩:Vl)) (w:=(⟨0,0,⟨#[]⟩⟩:Vl)) (by kernel_rfl) (by kernel_rfl) (by kernel_rfl) (eqB_iff.2 rfl)) ?_; clear hJ a w; intro a w hJ
 refine rk' hJ false 11 [.b 0 5] [] (.k (.out .ret) [] [] [(2,.bool true)]) ?_
 clear hJ a w; intro a w hJ
 refine zX (hQ [.bool true] _ [] hJ (.rtm hJ.j .nil) (fJ _) rfl ?_).1
 exact rfl
theorem never_no (nm:ByteArray) (x:Ex) (A:Option Addr) (n c:Nat) (B:Option Addr) (m d:Nat) (h:Vw) (hx:x.op≠0):C0 Tryz.prog 104 #[.agg #[.string nm,.slice A n c,.int .i64 x.op,.int .i64 x.k,.int .i64 x.n,.string x.s,.string x.nm,.slice B m d]] h (fun r _=>r=.bool false):=by
 refine yX Tryz.func104 (c:=Tryz.f104.body.getD .skip) (N:=26) ?_
 intro hbx hbad Q hQ a w hJ
 refine rx' hJ false 40 [.own,.b 0 2,.own,.b 0 0,.b 0 0] [(8,.bool (x.op == 0),.bool false)] (.new fun b1=>.new fun b2=>.ok (.out .ret) [] [(2,.bool false)] [.box b2 [Vi x.op,Vi x.k,Vi x.n,.string x.s,.string x.nm,.slice B m d],.box b1 [.string nm,.slice A n c,Vi x.op,Vi x.k,Vi x.n,.string x.s,.string x.nm,.slice B m d]] []) (hc:=And.intro (congrArg Value.bool (beq_eq_false_iff_ne.2 hx)) (trivial)) (fun b1 b2 _=>by kernel_rfl) ?_
 clear hJ a w; intro b1 b2 a w hJ
 refine zX (hQ [.bool false] _ [] hJ (.rtm hJ.j .nil) (fJ _) rfl ?_).1
 exact rfl
end Go.Proofs.YthckljafinhepaaGreat
namespace Go.Proofs.YthckljafinhepaaGreat
open Go.RowKit
set_option linter.unusedVariables false
theorem pgRows_take:∀ (k:Nat) {l:List Pg} {us vs:List Value},us.length=l.length→vs.length=l.length→(fW l us vs).take k=fW (l.take k) (us.take k) (vs.take k)
 | 0,l,us,vs,_,_=>by simp [fW]
 | k + 1,[],[],[],_,_=>rfl
 | k + 1,p :: l,u :: us,v :: vs,h1,h2=>by
  show (pgRow p u v :: fW l us vs).take (k + 1)=pgRow p u v :: fW (l.take k) (us.take k) (vs.take k)
  rw [List.take_succ_cons,pgRows_take k (by simpa using h1) (by simpa using h2)]
theorem AllStr.take {h:Vw}:∀ (k:Nat) {l:List (List ByteArray)} {us:List Value},AllStr h l us→AllStr h (l.take k) (us.take k)
 | 0,_,_,_=>rfl
 | k + 1,[],_,e=>by cases e; rfl
 | k + 1,x :: l,_,⟨u,r,e,k1,k2⟩=>by subst e; exact ⟨u,r.take k,rfl,k1,AllStr.take k k2⟩
theorem pgs_take {h:Vw} {A:Option Addr} {cap:Nat} {l:List Pg} (hp:IsPgs h (.slice A l.length cap) l) (k:Nat) (hk:k≤l.length):IsPgs h (.slice A k cap) (l.take k):=by
 obtain ⟨us,vs,hr,hs,ha⟩:=hp
 have hu:=hs.len
 have hv:=ha.len
 rw [List.length_map] at hu hv
 refine ⟨us.take k,vs.take k,?_,?_,?_⟩
 ·have:=hr.take k (by rw [gW hu hv]; omega)
  rwa [pgRows_take k hu hv] at this
 ·rw [List.map_take]; exact AllStr.take k hs
 ·rw [List.map_take]; exact AllArgs.take' k ha
structure OkGs (fs:List Fd) (l:List Pg):Prop where
 one:1≤l.length
 few:l.length≤6
 name:∀ p∈l,sJ p.name.data.toList
 nodup:(l.map (·.name)).Nodup
 fl:∀ p∈l,p.fields.length≤100
 here:∀ p∈l,∀ s∈p.fields,0≤fQ fs s
 once:(l.flatMap (·.fields)).Nodup
 skip:∀ p∈l,p.skip=zE∨(p.skip.op≠0∧WfE p.skip∧(szE p.skip).1 < 1000000∧fitsE fs p.skip 2=0)
set_option maxHeartbeats 8000000 in
theorem pgCheck_any (fs:List Fd) (fv:Value) (l:List Pg) (v:Value) (h:Vw) (hok:OkGs fs l) (hp:IsPgs h v l) (hfs:IsFds h fv fs) (hfl:fs.length≤1000):C0 Tryz.prog 105 #[v,fv] h (fun r _=>r=.int .i64 0):=by
 obtain ⟨us,vs,A,cap,rfl,hcap,hr,hs,ha,hul,hvl⟩:=pgs_open hp
 have hlc:l.length≤cap:=by
  obtain ⟨A',c',e',h1,-,-⟩:=hr.form
  rw [gW hul hvl] at h1
  simp only [Value.slice.injEq] at e'
  omega
 obtain ⟨-,Af,cf,rfl,-,-,-,-,-,-⟩:=dQ hfs
 have one:=hok.one
 have few:=hok.few
 have hat:=fun i p hp=>pg_at (i:=i) (p:=p) hs ha hp
 have htk:=fun k hk=>pgs_take (h:=h) (A:=A) (cap:=cap) (l:=l) hp k hk
 have hFi:=fun H s q=>findP_any fs (.slice Af fs.length cf) s H q (by omega)
 have hGf:=fun k H s q=>gFind_any (l.take k) (.slice A k cap) s H q (by rw [List.length_take]; omega) (fun p hp=>by have:=hok.fl p (List.mem_of_mem_take hp); omega)
 generalize hL:l.length=len at *
 generalize hM:fs.length=fl at *
 refine yX Tryz.func105 (c:=Tryz.f105.body.getD .skip) (N:=82) ?_
 intro hbx hbad Q hQ a w hJ
 refine rk' hJ false 35 [] [(18,.bool (decide ((len:Int) < 1)),.bool false),(22,.bool (decide ((len:Int) > 6)),.bool false)] (.k (.code [0,1,0,1,1,1]) [.block 0,.seq [1,1,1,1]] [0,1] [(5,Vz),(24,.slice A len cap),(25,Vi (len:Int)),(26,Vi 0)]) (hc:=And.intro (congrArg Value.bool (decide_eq_false (by omega))) (And.intro (congrArg Value.bool (decide_eq_false (by omega))) (trivial))) ?_
 clear hJ a w; intro a w hJ
 replace hJ:=hJ.nilrow 9 1
 refine eY (fun (k:Nat) a w=>∃ (h1:Vw) (mv:Value),K ⟨82,h.w,h.bad,[]⟩ [(0,.slice A len cap),(1,.slice Af fl cf),(24,.slice A len cap),(25,Vi (len:Int)),(26,Vi (k:Int)),(5,mv)] [.row mv 9 1 (oX ((l.take k).flatMap (·.fields)))] [] h1 a w∧Sees h h1∧(k≤len)) (fun k=>len - k) (0) ⟨h,(Vz),hJ.tw,Sees.refl _,Nat.zero_le _⟩ ?_
 clear hJ a w; rintro k a w ⟨h1,mv,hJ,s2,hk⟩
 refine rk' hJ false 6 [] [] (.k (.code [0,1,0,0,1,0,1,1,1]) [.seq [1,1,0,0,1,0,1,1,1]] [0,1,24,25,26,5] [(27,.bool (decide ((k:Int) < (len:Int))))]) ?_
 clear hJ a w; intro a w hJ
 rcases (by omega:k < len∨k=len) with hlt | hke
 ·obtain ⟨p,hpk⟩:∃ p,l[k]?=some p:=⟨_,List.getElem?_eq_getElem (by omega)⟩
  have hpm:=List.mem_of_getElem? hpk
  obtain ⟨Au,cu,Bu,mu,du,hrow,hrs,hxa⟩:=hat k p hpk
  have hnm:=hok.name p hpm
  have htp:=htk k hk
  have hno:findG (l.take k) p.name = -1:=fidx_none _ _ fun y hy=>tl_no fun e=>by
   obtain ⟨j,hj⟩:=List.mem_iff_getElem?.1 hy
   rw [List.getElem?_take] at hj
   split at hj
   ·rename_i hjk
    have h1:(l.map (fun p:Pg=>p.name))[j]?=some p.name:=by rw [List.getElem?_map,hj]; simp [e]
    have h2:(l.map (fun p:Pg=>p.name))[k]?=some p.name:=by rw [List.getElem?_map,hpk]; rfl
    have:=(List.getElem?_inj (by rw [List.length_map]; omega) hok.nodup).1 (h1.trans h2.symm)
    omega
   ·cases hj
  have hGk:=fun H q=>hGf k H p.name q
  rw [hno] at hGk
  have hfk:=hok.fl p hpm
  have hhere:=hok.here p hpm
  have hsn:(l.take (k + 1)).flatMap (fun p:Pg=>p.fields)=(l.take k).flatMap (fun p:Pg=>p.fields)++p.fields:=by rw [pX l k p hpk,List.flatMap_append]; simp
  have hone:((l.take k).flatMap (fun p:Pg=>p.fields)++p.fields).Nodup:=by
   rw [← hsn]
   have ho:=hok.once
   have e:l.flatMap (fun p:Pg=>p.fields)=(l.take (k + 1)).flatMap (fun p:Pg=>p.fields)++(l.drop (k + 1)).flatMap (fun p:Pg=>p.fields):=by rw [← List.flatMap_append,List.take_append_drop]
   rw [e] at ho
   exact (List.nodup_append.1 ho).1
  have hdl:((l.take k).flatMap (fun p:Pg=>p.fields)).length≤600:=by
   have key:∀ m:List Pg,(∀ p∈m,p.fields.length≤100)→(m.flatMap (fun p:Pg=>p.fields)).length≤100 * m.length:=by
    intro m
    induction m with
    | nil=>intro _; simp
    | cons q m ih =>
     intro hm
     have h1:=hm q (by simp)
     have h2:=ih fun z hz=>hm z (by simp [hz])
     rw [List.flatMap_cons,List.length_append,List.length_cons]
     omega
   have:=key (l.take k) fun q hq=>hok.fl q (List.mem_of_mem_take hq)
   rw [List.length_take] at this
   omega
  have hskip:=hok.skip p hpm
  generalize (l.take k).flatMap (fun p:Pg=>p.fields)=dn at *
  refine kY hJ (t:=decide ((k:Int) < (len:Int))) (decide_eq_true (by omega)) ?_
  refine rk' hJ false 7 [] [] (.k (.ops [0,0,0,1,1,0,0,1,0,1,1,1] 1) [.seq [1,0,0,1,1,0,0,1,0,1,1,1],.block 1,.seq [1,1,1,0,0,1,0,1,1,1]] [0,1,24,25,26,5] [(28,Vi (k:Int))]) ?_
  clear hJ a w; intro a w hJ
  obtain ⟨b3,o4,rfl,-,c5⟩:=RS.row hr (hrow)
  replace hJ:=hJ.fact (c5.sees s2)
  refine rk hJ false 27 [.ix b3 o4 len cap k,.f 0 0,.own,.b 0 0,.b 0 0,.cl 129 #[.string p.name] (Vi 0)] [] (.new fun b6=>.f (.code [0,0,1,1,0,0,1,1,0,0,1,0,1,1,1]) [.seq [1,0,1,1,0,0,1,1,0,0,1,0,1,1,1],.seq [1,1,1,0,0,1,1,0,0,1,0,1,1,1],.block 1,.seq [1,1,1,0,0,1,0,1,1,1]] [0,1,24,25,26,5] [(7,Vp b6),(6,Vi (k:Int))] [.box b6 [.string p.name,.slice Au p.fields.length cu,Vi p.skip.op,Vi p.skip.k,Vi p.skip.n,.string p.skip.s,.string p.skip.nm,.slice Bu mu du],.row mv 9 1 (oX dn)] [.o 0]) (And.intro (by first | omega | (simp; omega)) (And.intro (fun H sH=>c_name _ _ hnm) (trivial))) trivial (fun b6 _=>by kernel_rfl) ?_
  clear hJ a w; intro b6 a w hJ
  let R:Reg:=⟨⟨82,h.w,h.bad,[]⟩,[(0,38,fun gh=>.slice (some ⟨b3,o4,none⟩) len cap),(1,39,fun gh=>Vi (k:Int)),(2,40,fun gh=>.slice (some ⟨b3,o4,none⟩) k cap),(3,41,fun gh=>Vp b6),(4,42,fun gh=>.string p.name),(5,43,fun gh=>.tuple #[Vi 0,Vi 5]),(6,37,fun gh=>.tuple #[Vi 0,Vi 5]),(7,44,fun gh=>Vi 0),(8,45,fun gh=>Vi 5),(9,9,fun gh=>Vi 0),(10,10,fun gh=>Vi 5)],[(0,.slice (some ⟨b3,o4,none⟩) len cap),(1,.slice Af fl cf),(24,.slice (some ⟨b3,o4,none⟩) len cap),(25,Vi (len:Int)),(26,Vi (k:Int)),(5,mv),(7,Vp b6),(6,Vi (k:Int))],[⟨some (.box b6 [.string p.name,.slice Au p.fields.length cu,Vi p.skip.op,Vi p.skip.k,Vi p.skip.n,.string p.skip.s,.string p.skip.nm,.slice Bu mu du]),[]⟩,⟨some (.row mv 9 1 (oX dn)),[]⟩],[],[[],[],[0,1],[],[3],[0,1,2,3,4],[0,1,2,3,4,5],[0,1,2,3,4,5,6],[0,1,2,3,4,5,6],[0,1,2,3,4,5,6,7],[0,1,2,3,4,5,6,7,8,9]],h1⟩
  have hmono:∀ zq∈R.F,∀ zx zh zi,Sees zh zi→zq.2 zx zh→zq.2 zx zi:=lJ
  refine iY (by kernel_rfl) R hJ 11 [.pu,.pu,.cl,.pu,.ld 0 0,.cl,.pu,.pu,.pu,.pu,.pu] (by kernel_rfl) hmono (fun _ _ _=>by kernel_rfl) (fun hT hA=>?_) ?_
  ·clear hJ
   refine And.intro (pW hT hA 40 (fun gh=>.slice (some ⟨b3,o4,none⟩) k cap) [0,1] 2 (fun gh w=>run_hi (t:=24) (e:=79) (x:=(.tmp 38)) (y:=(.tmp 39)) (A:=(some ⟨b3,o4,none⟩)) (n:=len) (cap:=cap) (k:=k) (kk:=8) (by kernel_rfl) (by kernel_rfl) (by kernel_rfl) (by omega) Tryz.underlying24 (by kernel_rfl))) ?_
   refine And.intro (oW hT hA hmono 43 (fun gh=>.tuple #[Vi 0,Vi 5]) [2,4] 5 130 (fun gh=>#[.slice (some ⟨b3,o4,none⟩) k cap,.string p.name]) (fun gh H sH fH lent=>hGk _ (htp.sees (s2.trans sH)))) ?_
   trivial
  clear hJ a w; intro gh h7 a w sR hJ1 hF; have s8:Sees h1 h7:=sR; clear sR
  have hJ:K ⟨82,h.w,h.bad,[]⟩ [(0,.slice (some ⟨b3,o4,none⟩) len cap),(1,.slice Af fl cf),(24,.slice (some ⟨b3,o4,none⟩) len cap),(25,Vi (len:Int)),(26,Vi (k:Int)),(5,mv),(7,Vp b6),(10,Vi 5)] [.box b6 [.string p.name,.slice Au p.fields.length cu,Vi p.skip.op,Vi p.skip.k,Vi p.skip.n,.string p.skip.s,.string p.skip.nm,.slice Bu mu du],.row mv 9 1 (oX dn)] [(b3,o4 + k * 8,[.string p.name,.slice Au p.fields.length cu,Vi p.skip.op,Vi p.skip.k,Vi p.skip.n,.string p.skip.s,.string p.skip.nm,.slice Bu mu du])] h7 a w:=hJ1.tw
  clear hJ1 hF hmono R
  clear gh
  refine rk' hJ false 20 [.b 0 1] [] (.k (.code [0,1,0,1,1,1,0,0,1,1,0,0,1,0,1,1,1]) [.block 2,.seq [1,1,1,1,0,0,1,1,0,0,1,0,1,1,1],.block 1,.seq [1,1,1,0,0,1,0,1,1,1]] [0,1,24,25,26,5,7] [(49,.slice Au p.fields.length cu),(50,Vi (p.fields.length:Int)),(51,Vi 0)]) ?_
  clear hJ a w; intro a w hJ
  have hd0:oX dn=oX (dn++p.fields.take 0):=by simp
  rw [hd0] at hJ
  refine eY (fun (j:Nat) a w=>∃ (h9:Vw) (nv:Value),K ⟨82,h.w,h.bad,[]⟩ [(0,.slice (some ⟨b3,o4,none⟩) len cap),(1,.slice Af fl cf),(24,.slice (some ⟨b3,o4,none⟩) len cap),(25,Vi (len:Int)),(26,Vi (k:Int)),(7,Vp b6),(49,.slice Au p.fields.length cu),(50,Vi (p.fields.length:Int)),(51,Vi (j:Int)),(5,nv)] [.box b6 [.string p.name,.slice Au p.fields.length cu,Vi p.skip.op,Vi p.skip.k,Vi p.skip.n,.string p.skip.s,.string p.skip.nm,.slice Bu mu du],.row nv 9 1 (oX (dn++p.fields.take j))] [(b3,o4 + k * 8,[.string p.name,.slice Au p.fields.length cu,Vi p.skip.op,Vi p.skip.k,Vi p.skip.n,.string p.skip.s,.string p.skip.nm,.slice Bu mu du])] h9 a w∧Sees h7 h9∧(j≤p.fields.length)) (fun j=>p.fields.length - j) (0) ⟨h7,mv,hJ.tw,Sees.refl _,Nat.zero_le _⟩ ?_
  clear hJ a w; rintro j a w ⟨h9,nv,hJ,s10,hj⟩
  refine rk' hJ false 6 [] [] (.k (.code [0,1,0,0,1,0,1,1,1,0,0,1,1,0,0,1,0,1,1,1]) [.seq [1,1,0,0,1,0,1,1,1,0,0,1,1,0,0,1,0,1,1,1]] [0,1,24,25,26,7,49,50,51,5] [(52,.bool (decide ((j:Int) < (p.fields.length:Int))))]) ?_
  clear hJ a w; intro a w hJ
  rcases (by omega:j < p.fields.length∨j=p.fields.length) with hjl | hje
  ·obtain ⟨s,hsj⟩:∃ s,p.fields[j]?=some s:=⟨_,List.getElem?_eq_getElem hjl⟩
   have hsr:=str_row hsj
   have hse:fQ fs s=((plc fs s:Nat):Int):=by have:=hhere s (List.mem_of_getElem? hsj); unfold plc; omega
   have hFs:=fun H q=>hFi H s q
   rw [if_neg (by omega)] at hFs
   have hjn:=pX _ j s hsj
   have hnin:memS (dn++p.fields.take j) s=false:=by
    rw [Bool.eq_false_iff]
    intro q
    have q:=memS_iff.1 q
    rcases List.mem_append.1 q with q | q
    ·exact (List.nodup_append.1 hone).2.2 s q s (List.mem_of_getElem? hsj) rfl
    ·have hd:=(List.nodup_append.1 hone).2.1
     obtain ⟨i,hi⟩:=List.mem_iff_getElem?.1 q
     rw [List.getElem?_take] at hi
     split at hi
     ·have:=(List.getElem?_inj (by omega) hd).1 (hi.trans hsj.symm); omega
     ·cases hi
   have hco:=fun H u q=>contS_any (dn++p.fields.take j) u s H q (by rw [List.length_append,List.length_take]; omega)
   rw [hnin] at hco
   refine kY hJ (t:=decide ((j:Int) < (p.fields.length:Int))) (decide_eq_true (by omega)) ?_
   refine rk' hJ false 6 [] [] (.k (.ops [0,0,0,1,1,0,0,1,0,1,1,1,0,0,1,1,0,0,1,0,1,1,1] 0) [.seq [1,0,0,1,1,0,0,1,0,1,1,1,0,0,1,1,0,0,1,0,1,1,1],.block 3,.seq [1,1,1,0,0,1,0,1,1,1,0,0,1,1,0,0,1,0,1,1,1]] [0,1,24,25,26,7,49,50,51,5] []) ?_
   clear hJ a w; intro a w hJ
   obtain ⟨b11,o12,rfl,-,c13⟩:=RS.row hrs (hsr)
   replace hJ:=hJ.fact (c13.sees (s2.trans (s8.trans s10)))
   refine rk' hJ false 32 [.ix b11 o12 p.fields.length cu j,.f 0 0,.cl 70 #[.slice Af fl cf,.string s] (.tuple #[Vi ((plc fs s:Nat):Int),Vi 0])] [] (.k (.ops [0,0,1,1,0,0,1,1,0,0,1,0,1,1,1,0,0,1,1,0,0,1,0,1,1,1] 2) [.seq [1,0,1,1,0,0,1,1,0,0,1,0,1,1,1,0,0,1,1,0,0,1,0,1,1,1],.seq [1,1,1,0,0,1,1,0,0,1,0,1,1,1,0,0,1,1,0,0,1,0,1,1,1],.block 3,.seq [1,1,1,0,0,1,0,1,1,1,0,0,1,1,0,0,1,0,1,1,1]] [0,1,24,25,26,7,49,50,51,5] [(12,.string s),(64,nv),(65,.string s)]) (ho:=And.intro (by first | omega | (simp; omega)) (And.intro (fun H sH=>hFs _ (hfs.sees (s2.trans (s8.trans (s10.trans sH))))) (trivial))) ?_
   clear hJ a w; intro a w hJ
   refine x_callq hJ 66 (hco _ _ (hJ.j.rowQ (v:=nv) (e:=9) (k:=1) (l:=oX (dn++p.fields.take j)) 1 rfl)) (fun _=>by kernel_rfl) ?_; clear hJ a w; intro h14 a w s15 hJ
   refine rx' hJ true 9 [.fix] [] (.new fun b16=>.ok (.ops [1,1,1,0,0,1,1,0,0,1,0,1,1,1,0,0,1,1,0,0,1,0,1,1,1] 3) [.block 3,.seq [1,1,1,0,0,1,0,1,1,1,0,0,1,1,0,0,1,0,1,1,1]] [(0,.slice (some ⟨b3,o4,none⟩) len cap),(1,.slice Af fl cf),(24,.slice (some ⟨b3,o4,none⟩) len cap),(25,Vi (len:Int)),(26,Vi (k:Int)),(7,Vp b6),(49,.slice (some ⟨b11,o12,none⟩) p.fields.length cu),(50,Vi (p.fields.length:Int)),(51,Vi (j:Int)),(67,nv),(69,Vs b16 1 1)] [.box b6 [.string p.name,.slice (some ⟨b11,o12,none⟩) p.fields.length cu,Vi p.skip.op,Vi p.skip.k,Vi p.skip.n,.string p.skip.s,.string p.skip.nm,.slice Bu mu du],.row nv 9 1 (oX (dn++p.fields.take j))] [(b16,0,[.string s]),(b11,o12 + j * 1,[.string s]),(b3,o4 + k * 8,[.string p.name,.slice (some ⟨b11,o12,none⟩) p.fields.length cu,Vi p.skip.op,Vi p.skip.k,Vi p.skip.n,.string p.skip.s,.string p.skip.nm,.slice Bu mu du])]) (fun b16 _=>by kernel_rfl) ?_
   clear hJ a w; intro b16 h17 a w s18 hJ
   refine rk hJ true 9 [.ap 1 0 (oX (dn++p.fields.take j)) [[.string s]]] [(71,Vi (IntKind.i64.wrap ((j:Int) + 1)),Vi ((j:Int) + 1))] (.nv fun v70=>.f (.out .normal) [] [0,1,24,25,26,7,49,50] [(5,.slice (sA v70) (sN v70) (sC v70)),(51,Vi ((j:Int) + 1))] [.box b6 [.string p.name,.slice (some ⟨b11,o12,none⟩) p.fields.length cu,Vi p.skip.op,Vi p.skip.k,Vi p.skip.n,.string p.skip.s,.string p.skip.nm,.slice Bu mu du],.row (.slice (sA v70) (sN v70) (sC v70)) 9 1 ((oX (dn++p.fields.take j))++[[.string s]])] [.o 0,.o 1,.o 2]) (And.intro (by constructor <;> (simp; omega)) (trivial)) (And.intro (kJ (by omega) (by omega)) (trivial)) (fun v70 _=>by kernel_rfl) ?_
   clear hJ a w; intro v70 h19 a w s20 hJ
   exact jY ⟨j + 1,⟨h19,.slice (sA v70) (sN v70) (sC v70),(hJ.tof [2] (F':=[(b3,o4 + k * 8,[.string p.name,.slice (some ⟨b11,o12,none⟩) p.fields.length cu,Vi p.skip.op,Vi p.skip.k,Vi p.skip.n,.string p.skip.s,.string p.skip.nm,.slice Bu mu du])]) (by kernel_rfl)).to (by kernel_rfl) (by rw [hjn,← List.append_assoc]; simp [oX]) rfl,(s10.trans (s15.trans (s18.trans s20))),by omega⟩,by omega⟩
  ·skip
   have hta:dn++p.fields.take j=dn++p.fields:=by rw [hje,List.take_length]
   rw [hta] at hJ
   rcases hskip with hz | ⟨z1,z2,z3,z4⟩
   ·obtain ⟨Bz,dz,ez⟩:=args_zero (by rw [hz]; rfl) hxa
    obtain rfl:mu=0:=by simp only [Value.slice.injEq] at ez; exact ez.2.1
    have hnv:=fun H=>never_yes p.name Au p.fields.length cu Bu du H
    refine aY hJ (t:=decide ((j:Int) < (p.fields.length:Int))) (decide_eq_false (by omega)) ?_
    refine rk' hJ false 2 [] [] (.k (.out (.exit 2)) [] [0,1,24,25,26,7,5] []) ?_
    clear hJ a w; intro a w hJ
    refine dY rfl ?_
    refine rk' hJ false 18 [.b 0 0,.cl 104 #[.agg #[.string p.name,.slice Au p.fields.length cu,Vi p.skip.op,Vi p.skip.k,Vi p.skip.n,.string p.skip.s,.string p.skip.nm,.slice Bu 0 du]] (.bool true)] [(81,Vi (IntKind.i64.wrap ((k:Int) + 1)),Vi ((k:Int) + 1))] (.k (.out .normal) [] [0,1,24,25,5] [(26,Vi ((k:Int) + 1))]) (ho:=And.intro (fun H sH=>by rw [hz]; exact hnv _) (trivial)) (hc:=And.intro (kJ (by omega) (by omega)) (trivial)) ?_
    clear hJ a w; intro a w hJ
    replace hJ:=hJ.drop 0
    exact jY ⟨k + 1,⟨h9,nv,(hJ.tof [] (F':=[]) (by kernel_rfl)).to (by kernel_rfl) (by rw [hsn]; rfl) rfl,(s2.trans (s8.trans s10)),by omega⟩,by omega⟩
   ·skip
    have hnv:=fun H=>never_no p.name p.skip Au p.fields.length cu Bu mu du H z1
    have hft:=fun H q1 q2=>fits_any fs p.skip (.slice Bu mu du) (.slice Af fl cf) 2 H q1 z2 z3 q2
    rw [z4] at hft
    refine aY hJ (t:=decide ((j:Int) < (p.fields.length:Int))) (decide_eq_false (by omega)) ?_
    refine rk' hJ false 2 [] [] (.k (.out (.exit 2)) [] [0,1,24,25,26,7,5] []) ?_
    clear hJ a w; intro a w hJ
    refine dY rfl ?_
    refine rk' hJ false 35 [.b 0 0,.cl 104 #[.agg #[.string p.name,.slice Au p.fields.length cu,Vi p.skip.op,Vi p.skip.k,Vi p.skip.n,.string p.skip.s,.string p.skip.nm,.slice Bu mu du]] (.bool false),.b 0 2,.cl 131 #[.agg #[Vi p.skip.op,Vi p.skip.k,Vi p.skip.n,.string p.skip.s,.string p.skip.nm,.slice Bu mu du],.slice Af fl cf,Vi 2] (Vi 0)] [(81,Vi (IntKind.i64.wrap ((k:Int) + 1)),Vi ((k:Int) + 1))] (.k (.out .normal) [] [0,1,24,25,5] [(26,Vi ((k:Int) + 1))]) (ho:=And.intro (fun H sH=>hnv _) (And.intro (fun H sH=>hft _ (hxa.sees (s2.trans (s8.trans (s10.trans sH)))) (hfs.sees (s2.trans (s8.trans (s10.trans sH))))) (trivial))) (hc:=And.intro (kJ (by omega) (by omega)) (trivial)) ?_
    clear hJ a w; intro a w hJ
    replace hJ:=hJ.drop 0
    exact jY ⟨k + 1,⟨h9,nv,(hJ.tof [] (F':=[]) (by kernel_rfl)).to (by kernel_rfl) (by rw [hsn]; rfl) rfl,(s2.trans (s8.trans s10)),by omega⟩,by omega⟩
 ·skip
  refine aY hJ (t:=decide ((k:Int) < (len:Int))) (decide_eq_false (by omega)) ?_
  refine rk' hJ false 2 [] [] (.k (.out (.exit 0)) [] [] []) ?_
  clear hJ a w; intro a w hJ
  refine dY rfl ?_
  refine rk' hJ false 8 [] [] (.k (.out .ret) [] [] [(4,Vi 0)]) ?_
  clear hJ a w; intro a w hJ
  refine zX (hQ [Vi 0] _ [] hJ (.rtm hJ.j .nil) (fJ _) rfl ?_).1
  exact rfl
end Go.Proofs.YthckljafinhepaaGreat
namespace Go.Proofs.YthckljafinhepaaGreat
open Go.RowKit
set_option linter.unusedVariables false
structure OkFm (f:Fm) (ρ:List Int) (lv:Nat→Nat):Prop where
 fields:OkFs f.fields
 pages:OkGs f.fields f.pages
 rank:Ranked (nV f.fields) ρ lv
theorem shCheck_any (f:Fm) (ρ:List Int) (lv:Nat→Nat) (A:Option Addr) (n c:Nat) (B:Option Addr) (m d:Nat) (h:Vw) (hok:OkFm f ρ lv) (hf:IsForm h (.slice A n c) (.slice B m d) f) (hn:n=f.fields.length) :
  C0 Tryz.prog 84 #[.agg #[.slice A n c,.slice B m d]] h (fun r _=>r=.int .i64 0):=by
 have hR:=fun H q=>rankOf_any f.fields (.slice A n c) H hok.fields q ρ lv hok.rank
 have few:=hok.fields.few
 have hP:=fun H q1 q2=>pgCheck_any f.fields (.slice A n c) f.pages (.slice B m d) H hok.pages q1 q2 (by omega)
 rw [← hn] at hR
 refine yX Tryz.func84 (c:=Tryz.f84.body.getD .skip) (N:=21) ?_
 intro hbx hbad Q hQ a w hJ
 refine rx' hJ false 11 [.own,.b 0 0] [] (.new fun b1=>.ok (.ops [0,0,1] 2) [.seq [1,0,1],.seq [1,1]] [(1,Vp b1),(8,.slice A n c)] [.box b1 [.slice A n c,.slice B m d]] []) (fun b1 _=>by kernel_rfl) ?_
 clear hJ a w; intro b1 a w hJ
 refine wX hJ 9 (hR _ ((hf.sees hJ.j.sees)).fields) (fun _=>by kernel_rfl) ?_; clear hJ a w; rintro _ h2 a w s3 ⟨b,rfl,hro⟩ hJ
 refine rk' hJ false 24 [.b 0 1,.b 0 0] [] (.k (.ops [0,1,1] 4) [.seq [1,1,1]] [] [(17,.slice B m d),(19,.slice A n c)]) ?_
 clear hJ a w; intro a w hJ
 refine rk' hJ false 5 [.cl 105 #[.slice B m d,.slice A n c] (Vi 0)] [] (.k (.out .ret) [] [] [(2,Vi 0)]) (ho:=And.intro (fun H sH=>hP _ ((hf.sees (s3.trans sH))).pages ((hf.sees (s3.trans sH))).fields) (trivial)) ?_
 clear hJ a w; intro a w hJ
 refine zX (hQ [Vi 0] _ [] hJ (.rtm hJ.j .nil) (fJ _) rfl ?_).1
 exact rfl
end Go.Proofs.YthckljafinhepaaGreat
namespace Go.Proofs.YthckljafinhepaaGreat
open Go.RowKit
set_option linter.unusedVariables false
theorem smallX_wf:WfE smallX:=by
 refine WfE.mk' (.inr (.inr ⟨(by decide:(3:Int)≤8),(by decide:(8:Int)≤18),rfl,rfl,rfl,rfl,rfl⟩)) (WfL.all fun y hy=>?_)
 have hy:y∈[refE ⟨#[97]⟩,Ex.mk 1 1 1 ⟨#[]⟩ ⟨#[]⟩ []]:=hy
 rcases List.mem_cons.1 hy with rfl | hy
 ·exact (wf_leaf (refE_ok ⟨by decide,by decide,⟨_,rfl,by decide⟩,by decide,by decide⟩) rfl).1
 ·rw [List.mem_singleton.1 hy]
  exact (wf_leaf (x:=.mk 1 1 1 ⟨#[]⟩ ⟨#[]⟩ []) (.inl ⟨rfl,.inl ⟨rfl,(by unfold Lim; decide:Lim 1),rfl⟩,fun _=>(by decide:(0:Int)≤1),rfl,rfl⟩) rfl).1
theorem smallB_wf:WfE smallB:=(wf_leaf (refE_ok (s:=⟨#[98]⟩) ⟨by decide,by decide,⟨_,rfl,by decide⟩,by decide,by decide⟩) rfl).1
theorem small_ok:OkFs smallF.fields:=by
 refine ⟨fun f hf=>?_,by decide,by decide⟩
 have hf:f∈[(⟨⟨#[98]⟩,2,1,smallX⟩:Fd),⟨⟨#[97]⟩,1,1,zE⟩,⟨⟨#[99]⟩,3,3,smallB⟩]:=hf
 rcases List.mem_cons.1 hf with rfl | hf
 ·exact ⟨⟨by decide,by decide,⟨_,rfl,by decide⟩,by decide,by decide⟩,by decide,by decide,by decide,by decide,fun h=>absurd h (show ¬ (2:Int)=1 by decide),fun _=>⟨smallX_wf,by decide,by decide⟩,fun _=>by decide,fun h=>absurd h (show ¬ (2:Int)=3 by decide)⟩
 ·rcases List.mem_cons.1 hf with rfl | hf
  ·exact ⟨⟨by decide,by decide,⟨_,rfl,by decide⟩,by decide,by decide⟩,by decide,by decide,by decide,by decide,fun _=>rfl,fun h=>absurd rfl h,fun h=>absurd h (show ¬ (1:Int)=2 by decide),fun h=>absurd h (show ¬ (1:Int)=3 by decide)⟩
  ·rw [List.mem_singleton.1 hf]
   exact ⟨⟨by decide,by decide,⟨_,rfl,by decide⟩,by decide,by decide⟩,by decide,by decide,by decide,by decide,fun h=>absurd h (show ¬ (3:Int)=1 by decide),fun _=>⟨smallB_wf,by decide,by decide⟩,fun h=>absurd h (show ¬ (3:Int)=2 by decide),fun _=>⟨1,by decide,by decide,by decide⟩⟩
theorem names_one {x:Ex} {s:ByteArray} (h:sW x=[s]):jV x=[s]:=by
 unfold jV namesB
 rw [h]
 have e:dd ([s].map fun s:ByteArray=>s.data.toList)=[s.data.toList]:=by simp [dd]
 rw [e,List.mergeSort_singleton]
 simp
theorem small_needs:nV smallF.fields=[[1],[],[0]]:=by
 have e1:jV smallX=[⟨#[97]⟩]:=names_one (by decide)
 have e2:jV smallB=[⟨#[98]⟩]:=names_one (by decide)
 show [needE smallF.fields ⟨⟨#[98]⟩,2,1,smallX⟩,needE smallF.fields ⟨⟨#[97]⟩,1,1,zE⟩,needE smallF.fields ⟨⟨#[99]⟩,3,3,smallB⟩]=_
 unfold needE
 rw [if_neg (by decide),if_pos rfl,if_neg (by decide)]
 have p1:plc smallF.fields ⟨#[97]⟩=1:=by
  unfold plc
  rw [show (⟨#[97]⟩:ByteArray)=(⟨⟨#[97]⟩,1,1,zE⟩:Fd).name from rfl,gQ small_ok.nodup (i:=1) rfl]; rfl
 have p2:plc smallF.fields ⟨#[98]⟩=0:=by
  unfold plc
  rw [show (⟨#[98]⟩:ByteArray)=(⟨⟨#[98]⟩,2,1,smallX⟩:Fd).name from rfl,gQ small_ok.nodup (i:=0) rfl]; rfl
 simp only [e1,e2,List.map_cons,List.map_nil,p1,p2]
theorem small_ranked:Ranked (nV smallF.fields) [1,0,2] (fun i=>[1,0,2].getD i 0):=by
 rw [small_needs]
 exact ranked_ex (need:=[[1],[],[0]]) (lv:=fun i=>[1,0,2].getD i 0) (by decide) (by decide)
theorem small_okG:OkGs smallF.fields smallF.pages:=by
 have hm:∀ p∈smallF.pages,p=⟨⟨#[112,49]⟩,[⟨#[97]⟩],zE⟩∨p=⟨⟨#[112,50]⟩,[⟨#[99]⟩],zE⟩:=fun p hp=>by
  have hp:p∈[(⟨⟨#[112,49]⟩,[⟨#[97]⟩],zE⟩:Pg),⟨⟨#[112,50]⟩,[⟨#[99]⟩],zE⟩]:=hp
  rcases List.mem_cons.1 hp with h | h
  ·exact .inl h
  ·exact .inr (List.mem_singleton.1 h)
 have p1:fQ smallF.fields ⟨#[97]⟩=(1:Nat):=gQ small_ok.nodup (i:=1) (f:=⟨⟨#[97]⟩,1,1,zE⟩) rfl
 have p2:fQ smallF.fields ⟨#[99]⟩=(2:Nat):=gQ small_ok.nodup (i:=2) (f:=⟨⟨#[99]⟩,3,3,smallB⟩) rfl
 refine ⟨by decide,by decide,fun p h=>?_,by decide,fun p h=>?_,fun p h s hs=>?_,by decide,fun p h=>?_⟩
 ·rcases hm p h with rfl | rfl
  ·exact ⟨by decide,by decide,⟨_,rfl,by decide⟩,by decide,by decide⟩
  ·exact ⟨by decide,by decide,⟨_,rfl,by decide⟩,by decide,by decide⟩
 ·rcases hm p h with rfl | rfl <;> decide
 ·rcases hm p h with rfl | rfl
  ·rw [List.mem_singleton.1 hs,p1]; omega
  ·rw [List.mem_singleton.1 hs,p2]; omega
 ·rcases hm p h with rfl | rfl <;> exact .inl rfl
end Go.Proofs.YthckljafinhepaaGreat
namespace Go.Proofs.YthckljafinhepaaGreat
open Go.RowKit
set_option linter.unusedVariables false
theorem mem_pgNames {fs:List Fd} {n k:Nat} {s:ByteArray}:s∈eW fs n k↔∃ (i:Nat) (f:Fd),fs[i]?=some f∧i % (n + 1)=k∧f.name=s:=by
 unfold eW
 rw [List.mem_map]
 constructor
 ·rintro ⟨⟨f,i⟩,h,rfl⟩
  obtain ⟨h1,h2⟩:=List.mem_filter.1 h
  exact ⟨i,f,List.mem_zipIdx_iff_getElem?.1 h1,beq_iff_eq.1 h2,rfl⟩
 ·rintro ⟨i,f,h1,h2,rfl⟩
  exact ⟨(f,i),List.mem_filter.2 ⟨List.mem_zipIdx_iff_getElem?.2 h1,beq_iff_eq.2 h2⟩,rfl⟩
theorem pgNames_nodup {fs:List Fd} {n k:Nat} (h:(fs.map (fun f:Fd=>f.name)).Nodup):(eW fs n k).Nodup:=by
 unfold eW
 have e:fs.zipIdx.map (fun p=>p.1.name)=fs.map (fun f:Fd=>f.name):=by
  have:fs.zipIdx.map (fun p=>p.1)=fs:=List.zipIdx_map_fst 0 fs
  calc fs.zipIdx.map (fun p=>p.1.name)=(fs.zipIdx.map (fun p=>p.1)).map (fun f:Fd=>f.name):=by rw [List.map_map]; rfl
   _=_:=by rw [this]
 refine List.Sublist.nodup ?_ (e ▸ h)
 exact List.Sublist.map _ List.filter_sublist
theorem pgT_once {l:List RawD} {fs:List Fd} {n n0:Nat} (hd:(fs.map (fun f:Fd=>f.name)).Nodup):∀ k,((pJ l fs n n0 k).1.flatMap (fun p:Pg=>p.fields)).Nodup∧∀ s∈(pJ l fs n n0 k).1.flatMap (fun p:Pg=>p.fields),∃ (i:Nat) (f:Fd),fs[i]?=some f∧i % (n + 1) < k∧f.name=s
 | 0=>⟨List.nodup_nil,fun s hs=>by cases hs⟩
 | k + 1=>by
  obtain ⟨h1,h2⟩:=pgT_once (l:=l) (n:=n) (n0:=n0) hd k
  have e:(pJ l fs n n0 (k + 1)).1.flatMap (fun p:Pg=>p.fields)=(pJ l fs n n0 k).1.flatMap (fun p:Pg=>p.fields)++eW fs n k:=by
   show ((pJ l fs n n0 k).1++[_]).flatMap _=_
   rw [List.flatMap_append]; simp
  rw [e]
  refine ⟨List.nodup_append.2 ⟨h1,pgNames_nodup hd,fun a ha b hb q=>?_⟩,fun s hs=>?_⟩
  ·obtain ⟨i,f,f1,f2,f3⟩:=h2 a ha
   obtain ⟨j,g,g1,g2,g3⟩:=mem_pgNames.1 hb
   have q1:(fs.map (fun f:Fd=>f.name))[i]?=some a:=by rw [List.getElem?_map,f1]; simp [f3]
   have q2:(fs.map (fun f:Fd=>f.name))[j]?=some a:=by rw [List.getElem?_map,g1]; simp [g3,q]
   have:=(List.getElem?_inj (List.getElem?_eq_some_iff.1 q1).1 hd).1 (q1.trans q2.symm)
   subst this
   omega
  ·rcases List.mem_append.1 hs with hs | hs
   ·obtain ⟨i,f,f1,f2,f3⟩:=h2 s hs
    exact ⟨i,f,f1,by omega,f3⟩
   ·obtain ⟨j,g,g1,g2,g3⟩:=mem_pgNames.1 hs
    exact ⟨j,g,g1,by omega,g3⟩
theorem pgT_names (l:List RawD) (fs:List Fd) (n n0:Nat):∀ k,(pJ l fs n n0 k).1.map (fun p:Pg=>p.name)=(List.range k).map dW
 | 0=>rfl
 | k + 1=>by
  show ((pJ l fs n n0 k).1++[_]).map (fun p:Pg=>p.name)=_
  rw [List.map_append,pgT_names l fs n n0 k,List.range_succ,List.map_append]; rfl
theorem pgT_each (l:List RawD) (fs:List Fd) (n n0:Nat):∀ k,∀ p∈(pJ l fs n n0 k).1,∃ i m r,i < k∧p=⟨dW i,eW fs n i,(skipE l fs r m).1⟩
 | 0,p,h=>by cases h
 | k + 1,p,h=>by
  have h:p∈(pJ l fs n n0 k).1++[_]:=h
  rcases List.mem_append.1 h with h | h
  ·obtain ⟨i,m,r,h1,h2⟩:=pgT_each l fs n n0 k p h
   exact ⟨i,m,r,by omega,h2⟩
  ·exact ⟨k,_,_,by omega,List.mem_singleton.1 h⟩
theorem pgName_ok {k:Nat} (h:k < 5):sJ (dW k).data.toList:=by
 match k,h with
 | 0,_=>exact ⟨by decide,by decide,⟨_,rfl,by decide⟩,by decide,by decide⟩
 | 1,_=>exact ⟨by decide,by decide,⟨_,rfl,by decide⟩,by decide,by decide⟩
 | 2,_=>exact ⟨by decide,by decide,⟨_,rfl,by decide⟩,by decide,by decide⟩
 | 3,_=>exact ⟨by decide,by decide,⟨_,rfl,by decide⟩,by decide,by decide⟩
 | 4,_=>exact ⟨by decide,by decide,⟨_,rfl,by decide⟩,by decide,by decide⟩
theorem pgName_inj {i j:Nat} (hi:i < 5) (hj:j < 5) (h:dW i=dW j):i=j:=by
 have key:∀ i,i < 5→∀ j,j < 5→(dW i).data=(dW j).data→i=j:=by decide
 exact key i hi j hj (congrArg ByteArray.data h)
theorem form_okGs (l:List RawD):OkGs (kQ l).fields (kQ l).pages:=by
 have hn:=iV l
 have hp:=nPages_le l
 have hpl:=form_pages l
 have hT:((gJ l (jJ l)).1.map (fun f:Fd=>f.name)).Nodup:=by
  rw [fldT_names]
  refine List.pairwise_map.2 (List.nodup_range.imp_of_mem ?_)
  intro a b ha hb hab e
  exact hab (fname_inj (by have:=List.mem_range.1 ha; omega) (by have:=List.mem_range.1 hb; omega) e)
 have he:∀ p∈(kQ l).pages,∃ i m r,i < eJ l∧p=⟨dW i,eW (gJ l (jJ l)).1 (eJ l) i,(skipE l (gJ l (jJ l)).1 r m).1⟩:=pgT_each _ _ _ _ _
 have hok:=form_okFs l _ (mQ l) (fun f=>Iff.rfl) (by rw [lQ]; omega)
 refine ⟨by omega,by omega,fun p h=>?_,?_,fun p h=>?_,fun p h s hs=>?_,(pgT_once hT _).1,fun p h=>?_⟩
 ·obtain ⟨i,m,r,hi,rfl⟩:=he p h
  exact pgName_ok (by omega)
 ·show ((pJ l _ _ _ _).1.map (fun p:Pg=>p.name)).Nodup
  rw [pgT_names]
  refine List.pairwise_map.2 (List.nodup_range.imp_of_mem ?_)
  intro a b ha hb hab e
  exact hab (pgName_inj (by have:=List.mem_range.1 ha; omega) (by have:=List.mem_range.1 hb; omega) e)
 ·obtain ⟨i,m,r,hi,rfl⟩:=he p h
  have:=pgNames_len (gJ l (jJ l)).1 (eJ l) i
  rw [jQ] at this
  show (eW _ _ _).length≤100
  omega
 ·obtain ⟨i,m,r,hi,rfl⟩:=he p h
  obtain ⟨j,f,f1,-,rfl⟩:=mem_pgNames.1 hs
  obtain ⟨k,hk⟩:=List.mem_iff_getElem?.1 (form_mem.2 (List.mem_of_getElem? f1))
  rw [gQ (mQ l) hk]
  omega
 ·obtain ⟨i,m,r,hi,rfl⟩:=he p h
  show (skipE l _ r m).1=zE∨_
  unfold skipE
  split
  ·right
   have hnm:∀ f∈(gJ l (jJ l)).1,sJ f.name.data.toList:=fun f hf=>(hok.each f (form_mem.2 hf)).name
   obtain ⟨w1,w2,w3⟩:=genE_ok l _ hnm 1 2 m (by omega) (by omega)
   have ht:=ty_gen (fs:=(gJ l (jJ l)).1) (g:=tyF (kQ l).fields) (fun f hf=>tyF_mem (mQ l) f (form_mem.2 hf)) l 1 2 m (by omega) (by omega)
   show (iJ l _ 1 2 m).1.op≠0∧_
   generalize (iJ l (gJ l (jJ l)).1 1 2 m).1=x at *
   have w2:(szE x).1≤4:=w2
   refine ⟨?_,w1,by show (szE x).1 < 1000000; omega,?_⟩
   ·rcases w1.top with t | t | t <;> omega
   ·have cx:chkE x=0:=by unfold chkE; rw [if_neg (by omega),if_neg (by omega)]
    have ho:ofE (kQ l).fields x=(2,0):=by unfold ofE; rw [if_pos cx,ht]
    show fitsE (kQ l).fields x 2=0
    unfold fitsE
    rw [ho]; rfl
  ·left; rfl
end Go.Proofs.YthckljafinhepaaGreat
