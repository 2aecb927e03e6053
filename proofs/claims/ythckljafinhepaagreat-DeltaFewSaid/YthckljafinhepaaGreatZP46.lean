/-
  Contracts of package slices at []string. slices.Clone at []string.
-/
import Derived.Test.YthckljafinhepaaGreatZP9
import Derived.Test.YthckljafinhepaaGreatZP5
import Derived.Test.YthckljafinhepaaGreatZP4
import Derived.Test.YthckljafinhepaaGreatZP10
import Derived.Test.YthckljafinhepaaGreatZP22
import Derived.Test.YthckljafinhepaaGreatZP45
import Derived.Lib.AppendZerosOnto
import Derived.Test.YthckljafinhepaaGreatZP37
import Derived.Test.YthckljafinhepaaGreatZP33
import Derived.Test.YthckljafinhepaaGreatZP41
import Derived.Test.YthckljafinhepaaGreatZP39
import Derived.Test.YthckljafinhepaaGreatZP43
import Derived.Test.YthckljafinhepaaGreatZP6
set_option maxRecDepth 100000
namespace Go.Proofs.YthckljafinhepaaGreat
open Go.RowKit
set_option linter.unusedVariables false
theorem str_row {l:List ByteArray} {i:Nat} {s:ByteArray} (h:l[i]?=some s):(dZ l)[i]?=some [.string s]:=by rw [List.getElem?_map,h]; rfl
theorem idxS_any (l:List ByteArray) (v:Value) (s:ByteArray) (h:Vw) (hr:RS h 1 v (dZ l)) (hl:l.length≤1000000):C0 Tryz.prog 67 #[v,.string s] h (fun r _=>r=.int .i64 (fidx (fun y:ByteArray=>s.toList == y.toList) l)):=by
 obtain ⟨A,cap,rfl,-,-,-⟩:=hr.form
 rw [List.length_map] at *
 generalize hL:l.length=len at *
 refine aV Tryz.func67 (c:=Tryz.f67.body.getD .skip) (N:=19) ?_
 intro hbx hbad Q hQ
 refine go0 14 [] [] ?_
 refine jV [0,1,0,1] [.block 0,.seq [1,1]] (fun (k:Nat) X=>∃ (W1:Vw) ,X W1 [(0,.slice A len cap),(1,.string s),(7,Vi (len:Int)),(8,Vi (k:Int))] [] []∧Sees h W1∧(k≤len)∧(∀ y∈l.take k,(s.toList == y.toList)=false)) (fun k=>len - k) (0) (fun X q=>⟨h,q _ _ _ _ ⟨rfl,by kernel_rfl⟩,Sees.refl _,Nat.zero_le _,fun y hy=>by simp at hy⟩) ?_
 rintro k a w ⟨W1,hJ,S2,hk,hn⟩; refine pV hJ ?_; clear hJ a w
 refine go0 6 [] [] ?_
 rcases (by omega:k < len∨k=len) with hlt | hke
 ·obtain ⟨f,hfk⟩:∃ f,l[k]?=some f:=⟨_,List.getElem?_eq_getElem (by omega)⟩
  have hrow:=str_row hfk
  refine uV (t:=decide ((k:Int) < (len:Int))) (decide_eq_true (by omega)) ?_
  refine go0 15 [] [] ?_
  obtain ⟨b3,o4,rfl,-,c5⟩:=RS.row hr (hrow)
  refine cV (c5.sees S2) ?_
  refine go0 5 [.ix b3 o4 len cap k,.f 0 0] [] ?_ (ho:=(And.intro (by first | omega | (simp; omega)) (trivial)))
  rcases Bool.eq_false_or_eq_true (s.toList == f.toList) with hq | hq
  ·refine uV (t:=s.toList == f.toList) (hq) ?_
   refine go0 9 [] [] ?_
   refine iV ?_
   refine go0 2 [] [] ?_
   refine hQ.to [Vi (k:Int)] (fun H sH=>?_)
   exact congrArg (Value.int .i64) (eQ _ l k f hn hfk hq).symm
  ·skip
   refine dV (t:=s.toList == f.toList) (hq) ?_
   refine go0 7 [] [(18,Vi (IntKind.i64.wrap ((k:Int) + 1)),Vi ((k:Int) + 1))] ?_ (hc:=(And.intro (jJ (by omega) (by omega)) (trivial)))
   exact tV (k + 1) (fun X q=>⟨W1,q _ _ _ _ ⟨rfl,by kernel_rfl⟩,S2,by omega,(by rw [fZ l k f hfk]; exact fun y hy=>(List.mem_append.1 hy).elim (hn y) (fun e=>by rw [List.mem_singleton.1 e]; exact hq))⟩) (by omega)
 ·skip
  have htk:l.take k=l:=by rw [hke,← hL,List.take_length]
  rw [htk] at hn
  refine dV (t:=decide ((k:Int) < (len:Int))) (decide_eq_false (by omega)) ?_
  refine go0 2 [] [] ?_
  refine iV ?_
  refine go0 8 [] [] ?_
  refine hQ.to [Vi (-1)] (fun H sH=>?_)
  exact congrArg (Value.int .i64) (fQ _ l hn).symm
def memS (l:List ByteArray) (s:ByteArray):Bool:=l.any fun y=>s.toList == y.toList
theorem memS_iff {l:List ByteArray} {s:ByteArray}:memS l s=true↔s∈l:=by
 unfold memS
 rw [List.any_eq_true]
 constructor
 ·rintro ⟨y,hy,q⟩
  rw [hZ] at q
  rw [of_decide_eq_true q]; exact hy
 ·intro hm
  exact ⟨s,hm,tl_yes rfl⟩
theorem contS_any (l:List ByteArray) (v:Value) (s:ByteArray) (h:Vw) (hr:RS h 1 v (dZ l)) (hl:l.length≤1000000):C0 Tryz.prog 30 #[v,.string s] h (fun r _=>r=.bool (memS l s)):=by
 have hi:=fun H q=>idxS_any l v s H q hl
 have e:decide (0≤fidx (fun y:ByteArray=>s.toList == y.toList) l)=memS l s:=fidx_dec _ _
 generalize fidx (fun y:ByteArray=>s.toList == y.toList) l=p at *
 obtain ⟨A,cap,rfl,-,-,-⟩:=hr.form
 refine aV Tryz.func30 (c:=Tryz.f30.body.getD .skip) (N:=9) ?_
 intro hbx hbad Q hQ
 refine go0 15 [.cl 67 #[.slice A ((dZ l).length) cap,.string s] (Vi p)] [] ?_ (ho:=(And.intro (fun H sH=>hi _ (hr.sees sH)) (trivial)))
 refine hQ.to [.bool (decide (p ≥ 0))] (fun H sH=>?_)
 exact congrArg Value.bool e
theorem eqS_any (l m:List ByteArray) (v u:Value) (h:Vw) (hr:RS h 1 v (dZ l)) (hs:RS h 1 u (dZ m)) (hl:l.length≤1000000) (hm:m.length≤1000000):C0 Tryz.prog 37 #[v,u] h (fun r _=>r=.bool (decide (l=m))):=by
 obtain ⟨A,cap,rfl,-,-,-⟩:=hr.form
 obtain ⟨B,cap',rfl,-,-,-⟩:=hs.form
 rw [List.length_map] at *
 rw [List.length_map] at *
 refine aV Tryz.func37 (c:=Tryz.f37.body.getD .skip) (N:=26) ?_
 intro hbx hbad Q hQ
 refine go0 15 [] [] ?_
 by_cases hlm:l.length=m.length
 ·refine dV (t:=(l.length:Int) != (m.length:Int)) ((by rw [bne_eq_false_iff_eq]; omega)) ?_
  refine go0 11 [] [] ?_
  refine jV [0,1,0,1,1] [.block 0,.seq [1,1,1]] (fun (k:Nat) X=>∃ (W1:Vw) ,X W1 [(0,.slice A l.length cap),(1,.slice B m.length cap'),(12,Vi (l.length:Int)),(13,Vi (k:Int))] [] []∧Sees h W1∧(k≤l.length)∧(l.take k=m.take k)) (fun k=>l.length - k) (0) (fun X q=>⟨h,q _ _ _ _ ⟨rfl,by kernel_rfl⟩,Sees.refl _,Nat.zero_le _,by simp⟩) ?_
  rintro k a w ⟨W1,hJ,S2,hk,hn⟩; refine pV hJ ?_; clear hJ a w
  refine go0 6 [] [] ?_
  rcases (by omega:k < l.length∨k=l.length) with hlt | hke
  ·obtain ⟨f,hfk⟩:∃ f,l[k]?=some f:=⟨_,List.getElem?_eq_getElem (by omega)⟩
   obtain ⟨g,hgk⟩:∃ g,m[k]?=some g:=⟨_,List.getElem?_eq_getElem (by omega)⟩
   have hrow:=str_row hfk
   have hrog:=str_row hgk
   refine uV (t:=decide ((k:Int) < (l.length:Int))) (decide_eq_true (by omega)) ?_
   refine go0 11 [] [] ?_
   obtain ⟨b3,o4,rfl,-,c5⟩:=RS.row hr (hrow)
   refine cV (c5.sees S2) ?_
   obtain ⟨b6,o7,rfl,-,c8⟩:=RS.row hs (hrog)
   refine cV (c8.sees S2) ?_
   refine rV 9 0 [.pu,.pu,.v (fun gh=>.pointer (some ⟨b3,o4 + k * 1,none⟩)),.lf 1 0,.pu,.pu,.v (fun gh=>.pointer (some ⟨b6,o7 + k * 1,none⟩)),.lf 0 0,.pu] [] (trivial) ?_ ?_
   ·intro R hT hA hmono
    refine And.intro (eZ hT hA b3 o4 l.length cap k (fun gh=>.pointer (some ⟨b3,o4 + k * 1,none⟩)) (by first | omega | (simp; omega))) ?_
    refine And.intro (eZ hT hA b6 o7 m.length cap' k (fun gh=>.pointer (some ⟨b6,o7 + k * 1,none⟩)) (by first | omega | (simp; omega))) ?_
    trivial
   rintro W9 S10 -
   refine go0 1 [] [] ?_
   by_cases hq:f=g
   ·refine dV (t:=f.toList != g.toList) ((by rw [hq]; simp)) ?_
    refine go0 7 [] [(25,Vi (IntKind.i64.wrap ((k:Int) + 1)),Vi ((k:Int) + 1))] ?_ (hc:=(And.intro (jJ (by omega) (by omega)) (trivial)))
    exact tV (k + 1) (fun X q=>⟨W9,q _ _ _ _ ⟨rfl,by kernel_rfl⟩,(S2.trans S10),by omega,(by rw [fZ l k f hfk,fZ m k g hgk,hn,hq])⟩) (by omega)
   ·skip
    refine uV (t:=f.toList != g.toList) ((by have:=tl_no hq; simpa using this)) ?_
    refine go0 8 [] [] ?_
    refine iV ?_
    refine go0 2 [] [] ?_
    refine hQ.to [.bool false] (fun H sH=>?_)
    exact congrArg Value.bool (decide_eq_false (fun e=>hq (by rw [e,hgk] at hfk; injection hfk with hfk; exact hfk.symm))).symm
  ·skip
   have e:l=m:=by
    have h1:l.take k=l:=by rw [hke,List.take_length]
    have h2:m.take k=m:=by rw [hke,hlm,List.take_length]
    rw [← h1,hn,h2]
   refine dV (t:=decide ((k:Int) < (l.length:Int))) (decide_eq_false (by omega)) ?_
   refine go0 2 [] [] ?_
   refine iV ?_
   refine go0 8 [] [] ?_
   refine hQ.to [.bool true] (fun H sH=>?_)
   exact congrArg Value.bool (decide_eq_true e).symm
 ·skip
  refine uV (t:=(l.length:Int) != (m.length:Int)) (bne_iff_ne.2 (by omega)) ?_
  refine go0 7 [] [] ?_
  refine hQ.to [.bool false] (fun H sH=>?_)
  exact congrArg Value.bool (decide_eq_false (fun e=>hlm (by rw [e]))).symm
end Go.Proofs.YthckljafinhepaaGreat
namespace Go.Proofs.YthckljafinhepaaGreat
open Go.RowKit
set_option linter.unusedVariables false
end Go.Proofs.YthckljafinhepaaGreat
namespace Go.Proofs.YthckljafinhepaaGreat
open Go.RowKit
set_option linter.unusedVariables false
theorem pgRows_get:∀ {l:List Pg} {us vs:List Value} {i:Nat} {p:Pg} {u v:Value},l[i]?=some p→us[i]?=some u→vs[i]?=some v→(sX l us vs)[i]?=some (pgRow p u v)
 | q :: l,u' :: us,v' :: vs,0,p,u,v,h1,h2,h3=>by simp at h1 h2 h3; subst h1 h2 h3; rfl
 | q :: l,u' :: us,v' :: vs,i + 1,p,u,v,h1,h2,h3=>pgRows_get (l:=l) (by simpa using h1) (by simpa using h2) (by simpa using h3)
 | [],_,_,_,_,_,_,h,_,_=>by simp at h
 | _ :: _,[],_,_,_,_,_,_,h,_=>by simp at h
 | _ :: _,_ :: _,[],_,_,_,_,_,_,h=>by simp at h
theorem AllStr.get {h:Vw}:∀ {l:List (List ByteArray)} {us:List Value},AllStr h l us→∀ {i:Nat} {x:List ByteArray} {u:Value},l[i]?=some x→us[i]?=some u→RS h 1 u (dZ x)
 | [],_,_,i,x,u,hx,_=>by simp at hx
 | y :: l,_,⟨u',r,e,k1,k2⟩,i,x,u,hx,hu=>by
  subst e
  cases i with
  | zero=>simp at hx hu; subst hx hu; exact k1
  | succ i=>exact AllStr.get k2 (by simpa using hx) (by simpa using hu)
theorem pgs_open {h:Vw} {v:Value} {l:List Pg} (hp:IsPgs h v l):∃ us vs A cap,v=.slice A l.length cap∧cap≤maxLen∧RS h 8 (.slice A l.length cap) (sX l us vs)∧AllStr h (l.map (·.fields)) us∧AllArgs h (l.map (·.skip)) vs∧us.length=l.length∧vs.length=l.length:=by
 obtain ⟨us,vs,hr,hs,ha⟩:=hp
 have hu:=hs.len
 have hv:=ha.len
 rw [List.length_map] at hu hv
 obtain ⟨A,c,e,-,h2,-⟩:=hr.form
 rw [tX hu hv] at e
 rw [e] at hr
 exact ⟨us,vs,A,c,e,h2,hr,hs,ha,hu,hv⟩
theorem pg_at {h:Vw} {l:List Pg} {us vs:List Value} (hs:AllStr h (l.map (·.fields)) us) (ha:AllArgs h (l.map (·.skip)) vs) {i:Nat} {p:Pg} (hp:l[i]?=some p) :
  ∃ A c B m d,(sX l us vs)[i]?=some (pgRow p (.slice A p.fields.length c) (.slice B m d))∧RS h 1 (.slice A p.fields.length c) (dZ p.fields)∧IsArgs h p.skip (.slice B m d):=by
 have hu:=hs.len
 have hv:=ha.len
 rw [List.length_map] at hu hv
 have hil:=(List.getElem?_eq_some_iff.1 hp).1
 obtain ⟨u,hui⟩:∃ u,us[i]?=some u:=⟨_,List.getElem?_eq_getElem (by omega)⟩
 obtain ⟨v,hvi⟩:∃ v,vs[i]?=some v:=⟨_,List.getElem?_eq_getElem (by omega)⟩
 have h1:=AllStr.get hs (x:=p.fields) (by rw [List.getElem?_map,hp]; rfl) hui
 have h2:=AllArgs.get ha (x:=p.skip) (by rw [List.getElem?_map,hp]; rfl) hvi
 obtain ⟨A,c,e,-⟩:=h1.form
 rw [List.length_map] at e
 obtain ⟨B,m,d,rfl⟩:=h2.slice
 subst e
 exact ⟨A,c,B,m,d,pgRows_get hp hui hvi,h1,h2⟩
def findG (l:List Pg) (s:ByteArray):Int:=fidx (fun p:Pg=>p.name.toList == s.toList) l
theorem gfind1_any (p:Pg) (u:Value) (A:Option Addr) (n c:Nat) (B:Option Addr) (m d:Nat) (s:ByteArray) (b:Nat) (h:Vw) (hc:Cells h b 0 [.string s]) :
  C0 Tryz.prog 158 #[.agg #[.string p.name,.slice A n c,.int .i64 p.skip.op,.int .i64 p.skip.k,.int .i64 p.skip.n,.string p.skip.s,.string p.skip.nm,.slice B m d],.pointer (some ⟨b,0,none⟩)] h (fun r _=>r=.bool (p.name.toList == s.toList)):=by
 refine aV Tryz.func158 (c:=Tryz.f158.body.getD .skip) (N:=8) ?_
 intro hbx hbad Q hQ
 refine cV (hc.sees (Sees.refl _)) ?_
 refine go1 16 [.own,.b 0 0,.f 0 0] [] ?_
 intro b1
 refine hQ.to [.bool (p.name.toList == s.toList)] (fun H sH=>?_)
 exact rfl
theorem gidxF_any (s:ByteArray) (l:List Pg) (us vs:List Value) (A:Option Addr) (cap:Nat) (b:Nat) (h:Vw) (hr:RS h 8 (.slice A l.length cap) (sX l us vs)) (hs:AllStr h (l.map (·.fields)) us) (ha:AllArgs h (l.map (·.skip)) vs) (hl:l.length≤1000000) (hc:Cells h b 0 [.string s]) (hfl:∀ p∈l,p.fields.length≤1000000) :
  C0 Tryz.prog 157 #[.slice A l.length cap,.func (.func 158) #[] #[.pointer (some ⟨b,0,none⟩)]] h (fun r _=>r=.int .i64 (findG l s)):=by
 have hat:=fun i p hp=>pg_at (i:=i) (p:=p) hs ha hp
 generalize hL:l.length=len at *
 refine aV Tryz.func157 (c:=Tryz.f157.body.getD .skip) (N:=19) ?_
 intro hbx hbad Q hQ
 refine go0 14 [] [] ?_
 refine jV [0,1,0,1] [.block 0,.seq [1,1]] (fun (k:Nat) X=>∃ (W1:Vw) ,X W1 [(0,.slice A len cap),(1,.func (.func 158) #[] #[Vp b]),(7,Vi (len:Int)),(8,Vi (k:Int))] [] []∧Sees h W1∧(k≤len)∧(∀ y∈l.take k,(y.name.toList == s.toList)=false)) (fun k=>len - k) (0) (fun X q=>⟨h,q _ _ _ _ ⟨rfl,by kernel_rfl⟩,Sees.refl _,Nat.zero_le _,fun y hy=>by simp at hy⟩) ?_
 rintro k a w ⟨W1,hJ,S2,hk,hn⟩; refine pV hJ ?_; clear hJ a w
 refine go0 6 [] [] ?_
 rcases (by omega:k < len∨k=len) with hlt | hke
 ·obtain ⟨p,hpk⟩:∃ p,l[k]?=some p:=⟨_,List.getElem?_eq_getElem (by omega)⟩
  obtain ⟨Au,cu,Bu,mu,du,hrow,hrs,-⟩:=hat k p hpk
  have hpl:=hfl p (List.mem_of_getElem? hpk)
  refine uV (t:=decide ((k:Int) < (len:Int))) (decide_eq_true (by omega)) ?_
  refine go0 15 [] [] ?_
  obtain ⟨b3,o4,rfl,-,c5⟩:=RS.row hr (hrow)
  refine cV (c5.sees S2) ?_
  refine go0 5 [.ix b3 o4 len cap k,.f 0 0,.cl 158 #[.agg #[.string p.name,.slice Au p.fields.length cu,Vi p.skip.op,Vi p.skip.k,Vi p.skip.n,.string p.skip.s,.string p.skip.nm,.slice Bu mu du],Vp b] (.bool (p.name.toList == s.toList))] [] ?_ (ho:=(And.intro (by first | omega | (simp; omega)) (And.intro (fun H sH=>gfind1_any p (Vz) _ _ _ _ _ _ s b _ (hc.sees (S2.trans sH))) (trivial))))
  cases boolIs (p.name.toList == s.toList) with
  | true hq =>
   refine uV (t:=p.name.toList == s.toList) (hq) ?_
   refine go0 9 [] [] ?_
   refine iV ?_
   refine go0 2 [] [] ?_
   refine hQ.to [Vi (k:Int)] (fun H sH=>?_)
   exact congrArg (Value.int .i64) (eQ _ l k p hn hpk hq).symm
  | false hq =>
   refine dV (t:=p.name.toList == s.toList) (hq) ?_
   refine go0 7 [] [(18,Vi (IntKind.i64.wrap ((k:Int) + 1)),Vi ((k:Int) + 1))] ?_ (hc:=(And.intro (jJ (by omega) (by omega)) (trivial)))
   exact tV (k + 1) (fun X q=>⟨W1,q _ _ _ _ ⟨rfl,by kernel_rfl⟩,S2,by omega,(by rw [fZ l k p hpk]; exact fun y hy=>(List.mem_append.1 hy).elim (hn y) (fun e=>by rw [List.mem_singleton.1 e]; exact hq))⟩) (by omega)
 ·skip
  have htk:l.take k=l:=by rw [hke,← hL,List.take_length]
  rw [htk] at hn
  refine dV (t:=decide ((k:Int) < (len:Int))) (decide_eq_false (by omega)) ?_
  refine go0 2 [] [] ?_
  refine iV ?_
  refine go0 8 [] [] ?_
  refine hQ.to [Vi (-1)] (fun H sH=>?_)
  exact congrArg (Value.int .i64) (fQ _ l hn).symm
theorem gFind_any (l:List Pg) (v:Value) (s:ByteArray) (h:Vw) (hp:IsPgs h v l) (hl:l.length≤1000000) (hfl:∀ p∈l,p.fields.length≤1000000):C0 Tryz.prog 130 #[v,.string s] h (fun r _=>r=.tuple #[.int .i64 (if findG l s < 0 then 0 else findG l s),.int .i64 (if findG l s < 0 then 5 else 0)]):=by
 obtain ⟨us,vs,A,cap,rfl,-,hr,hs,ha,-,-⟩:=pgs_open hp
 have hi:=fun H b q1 q2 q3 q4=>gidxF_any s l us vs A cap b H q1 q2 q3 hl q4 hfl
 generalize findG l s=p at *
 refine aV Tryz.func130 (c:=Tryz.f130.body.getD .skip) (N:=13) ?_
 intro hbx hbad Q hQ
 refine aW 11 [.fix] [] ?_
 intro bsn W1 S2
 refine zQ 0 bsn 0 [.string s] fun sn=>?_
 refine go0 11 [.cl 157 #[.slice A l.length cap,.func (.func 158) #[] #[Vp bsn]] (Vi p)] [] ?_ (ho:=(And.intro (fun H sH=>hi _ _ (hr.sees (S2.trans sH)) (hs.sees (S2.trans sH)) (ha.sees (S2.trans sH)) (sn.sees sH)) (trivial)))
 by_cases hp:p < 0
 ·refine uV (t:=decide (p < 0)) (decide_eq_true hp) ?_
  refine go0 8 [] [] ?_
  refine hQ.to [Vi 0,Vi 5] (fun H sH=>?_)
  rw [if_pos hp,if_pos hp]; rfl
 ·skip
  refine dV (t:=decide (p < 0)) (decide_eq_false hp) ?_
  refine go0 10 [] [] ?_
  refine hQ.to [Vi p,Vi 0] (fun H sH=>?_)
  rw [if_neg hp,if_neg hp]; rfl
theorem never_yes (nm:ByteArray) (A:Option Addr) (n c:Nat) (B:Option Addr) (d:Nat) (h:Vw):C0 Tryz.prog 104 #[.agg #[.string nm,.slice A n c,.int .i64 0,.int .i64 0,.int .i64 0,.string ⟨#[]⟩,.string ⟨#[]⟩,.slice B 0 d]] h (fun r _=>r=.bool true):=by
 refine aV Tryz.func104 (c:=Tryz.f104.body.getD .skip) (N:=26) ?_
 intro hbx hbad Q hQ
 refine go2 28 [.own,.b 0 2,.own,.b 0 0,.b 0 0,.b 0 4,.b 0 1] [] ?_
 intro b1 b2
 refine qV (.bool true) (fun w=>run_eqop (x:=(.tmp 16)) (y:=(.tmp 17)) (v:=(⟨0,0,⟨#[]⟩⟩:Vl)) (w:=(⟨0,0,⟨#[]⟩⟩:Vl)) (by kernel_rfl) (by kernel_rfl) (by kernel_rfl) (eqB_iff.2 rfl)) ?_
 refine go0 11 [.b 0 5] [] ?_
 refine hQ.to [.bool true] (fun H sH=>?_)
 exact rfl
theorem never_no (nm:ByteArray) (x:Ex) (A:Option Addr) (n c:Nat) (B:Option Addr) (m d:Nat) (h:Vw) (hx:x.op≠0):C0 Tryz.prog 104 #[.agg #[.string nm,.slice A n c,.int .i64 x.op,.int .i64 x.k,.int .i64 x.n,.string x.s,.string x.nm,.slice B m d]] h (fun r _=>r=.bool false):=by
 refine aV Tryz.func104 (c:=Tryz.f104.body.getD .skip) (N:=26) ?_
 intro hbx hbad Q hQ
 refine go2 40 [.own,.b 0 2,.own,.b 0 0,.b 0 0] [(8,.bool (x.op == 0),.bool false)] ?_ (hc:=(And.intro (congrArg Value.bool (beq_eq_false_iff_ne.2 hx)) (trivial)))
 intro b1 b2
 refine hQ.to [.bool false] (fun H sH=>?_)
 exact rfl
end Go.Proofs.YthckljafinhepaaGreat
namespace Go.Proofs.YthckljafinhepaaGreat
open Go.RowKit
set_option linter.unusedVariables false
theorem pgRows_take:∀ (k:Nat) {l:List Pg} {us vs:List Value},us.length=l.length→vs.length=l.length→(sX l us vs).take k=sX (l.take k) (us.take k) (vs.take k)
 | 0,l,us,vs,_,_=>by simp [sX]
 | k + 1,[],[],[],_,_=>rfl
 | k + 1,p :: l,u :: us,v :: vs,h1,h2=>by
  show (pgRow p u v :: sX l us vs).take (k + 1)=pgRow p u v :: sX (l.take k) (us.take k) (vs.take k)
  rw [List.take_succ_cons,pgRows_take k (by simpa using h1) (by simpa using h2)]
theorem AllStr.take {h:Vw}:∀ (k:Nat) {l:List (List ByteArray)} {us:List Value},AllStr h l us→AllStr h (l.take k) (us.take k)
 | 0,_,_,_=>rfl
 | k + 1,[],_,e=>by cases e; rfl
 | k + 1,x :: l,_,⟨u,r,e,k1,k2⟩=>by subst e; exact ⟨u,r.take k,rfl,k1,AllStr.take k k2⟩
theorem pgs_take {h:Vw} {A:Option Addr} {cap:Nat} {l:List Pg} (hp:IsPgs h (.slice A l.length cap) l) (k:Nat) (hk:k≤l.length):IsPgs h (.slice A k cap) (l.take k):=by
 obtain ⟨us,vs,hr,hs,ha⟩:=hp
 have hu:=hs.len
 have hv:=ha.len
 rw [List.length_map] at hu hv
 refine ⟨us.take k,vs.take k,?_,?_,?_⟩
 ·have:=hr.take k (by rw [tX hu hv]; omega)
  rwa [pgRows_take k hu hv] at this
 ·rw [List.map_take]; exact AllStr.take k hs
 ·rw [List.map_take]; exact AllArgs.take' k ha
structure OkGs (fs:List Fd) (l:List Pg):Prop where
 one:1≤l.length
 few:l.length≤6
 name:∀ p∈l,rJ p.name.data.toList
 nodup:(l.map (·.name)).Nodup
 fl:∀ p∈l,p.fields.length≤100
 here:∀ p∈l,∀ s∈p.fields,0≤gQ fs s
 once:(l.flatMap (·.fields)).Nodup
 skip:∀ p∈l,p.skip=zE∨(p.skip.op≠0∧WfE p.skip∧(szE p.skip).1 < 1000000∧fitsE fs p.skip 2=0)
set_option maxHeartbeats 8000000 in
theorem pgCheck_any (fs:List Fd) (fv:Value) (l:List Pg) (v:Value) (h:Vw) (hok:OkGs fs l) (hp:IsPgs h v l) (hfs:IsFds h fv fs) (hfl:fs.length≤1000):C0 Tryz.prog 105 #[v,fv] h (fun r _=>r=.int .i64 0):=by
 obtain ⟨us,vs,A,cap,rfl,hcap,hr,hs,ha,hul,hvl⟩:=pgs_open hp
 have hlc:l.length≤cap:=by
  obtain ⟨A',c',e',h1,-,-⟩:=hr.form
  rw [tX hul hvl] at h1
  simp only [Value.slice.injEq] at e'
  omega
 obtain ⟨-,Af,cf,rfl,-,-,-,-,-,-⟩:=dQ hfs
 have one:=hok.one
 have few:=hok.few
 have hat:=fun i p hp=>pg_at (i:=i) (p:=p) hs ha hp
 have htk:=fun k hk=>pgs_take (h:=h) (A:=A) (cap:=cap) (l:=l) hp k hk
 have hFi:=fun H s q=>findP_any fs (.slice Af fs.length cf) s H q (by omega)
 have hGf:=fun k H s q=>gFind_any (l.take k) (.slice A k cap) s H q (by rw [List.length_take]; omega) (fun p hp=>by have:=hok.fl p (List.mem_of_mem_take hp); omega)
 generalize hL:l.length=len at *
 generalize hM:fs.length=fl at *
 refine aV Tryz.func105 (c:=Tryz.f105.body.getD .skip) (N:=82) ?_
 intro hbx hbad Q hQ
 refine go0 35 [] [(18,.bool (decide ((len:Int) < 1)),.bool false),(22,.bool (decide ((len:Int) > 6)),.bool false)] ?_ (hc:=(And.intro (congrArg Value.bool (decide_eq_false (by omega))) (And.intro (congrArg Value.bool (decide_eq_false (by omega))) (trivial))))
 refine oV 9 1 ?_
 refine jV [0,1,0,1,1,1] [.block 0,.seq [1,1,1,1]] (fun (k:Nat) X=>∃ (W1:Vw) (mv:Value),X W1 [(0,.slice A len cap),(1,.slice Af fl cf),(24,.slice A len cap),(25,Vi (len:Int)),(26,Vi (k:Int)),(5,mv)] [.row mv 9 1 (dZ ((l.take k).flatMap (·.fields)))] []∧Sees h W1∧(k≤len)) (fun k=>len - k) (0) (fun X q=>⟨h,(Vz),q _ _ _ _ ⟨rfl,by kernel_rfl⟩,Sees.refl _,Nat.zero_le _⟩) ?_
 rintro k a w ⟨W1,mv,hJ,S2,hk⟩; refine pV hJ ?_; clear hJ a w
 refine go0 6 [] [] ?_
 rcases (by omega:k < len∨k=len) with hlt | hke
 ·obtain ⟨p,hpk⟩:∃ p,l[k]?=some p:=⟨_,List.getElem?_eq_getElem (by omega)⟩
  have hpm:=List.mem_of_getElem? hpk
  obtain ⟨Au,cu,Bu,mu,du,hrow,hrs,hxa⟩:=hat k p hpk
  have hnm:=hok.name p hpm
  have htp:=htk k hk
  have hno:findG (l.take k) p.name = -1:=fQ _ _ fun y hy=>tl_no fun e=>by
   obtain ⟨j,hj⟩:=List.mem_iff_getElem?.1 hy
   rw [List.getElem?_take] at hj
   split at hj
   ·rename_i hjk
    have h1:(l.map (fun p:Pg=>p.name))[j]?=some p.name:=by rw [List.getElem?_map,hj]; simp [e]
    have h2:(l.map (fun p:Pg=>p.name))[k]?=some p.name:=by rw [List.getElem?_map,hpk]; rfl
    have:=(List.getElem?_inj (by rw [List.length_map]; omega) hok.nodup).1 (h1.trans h2.symm)
    omega
   ·cases hj
  have hGk:=fun H q=>hGf k H p.name q
  rw [hno] at hGk
  have hfk:=hok.fl p hpm
  have hhere:=hok.here p hpm
  have hsn:(l.take (k + 1)).flatMap (fun p:Pg=>p.fields)=(l.take k).flatMap (fun p:Pg=>p.fields)++p.fields:=by rw [fZ l k p hpk,List.flatMap_append]; simp
  have hone:((l.take k).flatMap (fun p:Pg=>p.fields)++p.fields).Nodup:=by
   rw [← hsn]
   have ho:=hok.once
   have e:l.flatMap (fun p:Pg=>p.fields)=(l.take (k + 1)).flatMap (fun p:Pg=>p.fields)++(l.drop (k + 1)).flatMap (fun p:Pg=>p.fields):=by rw [← List.flatMap_append,List.take_append_drop]
   rw [e] at ho
   exact (List.nodup_append.1 ho).1
  have hdl:((l.take k).flatMap (fun p:Pg=>p.fields)).length≤600:=by
   have key:∀ m:List Pg,(∀ p∈m,p.fields.length≤100)→(m.flatMap (fun p:Pg=>p.fields)).length≤100 * m.length:=by
    intro m
    induction m with
    | nil=>intro _; simp
    | cons q m ih =>
     intro hm
     have h1:=hm q (by simp)
     have h2:=ih fun z hz=>hm z (by simp [hz])
     rw [List.flatMap_cons,List.length_append,List.length_cons]
     omega
   have:=key (l.take k) fun q hq=>hok.fl q (List.mem_of_mem_take hq)
   rw [List.length_take] at this
   omega
  have hskip:=hok.skip p hpm
  generalize (l.take k).flatMap (fun p:Pg=>p.fields)=dn at *
  refine uV (t:=decide ((k:Int) < (len:Int))) (decide_eq_true (by omega)) ?_
  refine go0 7 [] [] ?_
  obtain ⟨b3,o4,rfl,-,c5⟩:=RS.row hr (hrow)
  refine cV (c5.sees S2) ?_
  refine go1 27 [.ix b3 o4 len cap k,.f 0 0,.own,.b 0 0,.b 0 0,.cl 129 #[.string p.name] (Vi 0)] [] ?_ (ho:=(And.intro (by first | omega | (simp; omega)) (And.intro (fun H sH=>c_name _ _ hnm) (trivial))))
  intro b6
  refine rV 11 0 [.pu,.pu,.v (fun gh=>.slice (some ⟨b3,o4,none⟩) k cap),.pu,.ld 0 0,.v (fun gh=>.tuple #[Vi 0,Vi 5]),.pu,.pu,.pu,.pu,.pu] [] (trivial) ?_ ?_
  ·intro R hT hA hmono
   refine And.intro (t_p hT hA (fun gh=>.slice (some ⟨b3,o4,none⟩) k cap) (fun gh w=>run_hi (t:=24) (e:=79) (x:=(.tmp 38)) (y:=(.tmp 39)) (A:=(some ⟨b3,o4,none⟩)) (n:=len) (cap:=cap) (k:=k) (kk:=8) (by kernel_rfl) (by kernel_rfl) (by kernel_rfl) (by omega) Tryz.underlying24 (by kernel_rfl))) ?_
   refine And.intro (t_v hT hA hmono (k:=130) (args:=(fun gh=>#[.slice (some ⟨b3,o4,none⟩) k cap,.string p.name])) (f:=fun gh=>.tuple #[Vi 0,Vi 5]) (fun gh H sH fH lent=>hGk _ (htp.sees (S2.trans sH)))) ?_
   trivial
  rintro W7 S8 -
  refine go0 20 [.b 0 1] [] ?_
  have hd0:dZ dn=dZ (dn++p.fields.take 0):=by simp
  rw [hd0]
  refine jV [0,1,0,1,1,1,0,0,1,1,0,0,1,0,1,1,1] [.block 2,.seq [1,1,1,1,0,0,1,1,0,0,1,0,1,1,1],.block 1,.seq [1,1,1,0,0,1,0,1,1,1]] (fun (j:Nat) X=>∃ (W9:Vw) (nv:Value),X W9 [(0,.slice (some ⟨b3,o4,none⟩) len cap),(1,.slice Af fl cf),(24,.slice (some ⟨b3,o4,none⟩) len cap),(25,Vi (len:Int)),(26,Vi (k:Int)),(7,Vp b6),(49,.slice Au p.fields.length cu),(50,Vi (p.fields.length:Int)),(51,Vi (j:Int)),(5,nv)] [.box b6 [.string p.name,.slice Au p.fields.length cu,Vi p.skip.op,Vi p.skip.k,Vi p.skip.n,.string p.skip.s,.string p.skip.nm,.slice Bu mu du],.row nv 9 1 (dZ (dn++p.fields.take j))] [(b3,o4 + k * 8,[.string p.name,.slice Au p.fields.length cu,Vi p.skip.op,Vi p.skip.k,Vi p.skip.n,.string p.skip.s,.string p.skip.nm,.slice Bu mu du])]∧Sees W7 W9∧(j≤p.fields.length)) (fun j=>p.fields.length - j) (0) (fun X q=>⟨W7,mv,q _ _ _ _ ⟨rfl,by kernel_rfl⟩,Sees.refl _,Nat.zero_le _⟩) ?_
  rintro j a w ⟨W9,nv,hJ,S10,hj⟩; refine pV hJ ?_; clear hJ a w
  refine go0 6 [] [] ?_
  rcases (by omega:j < p.fields.length∨j=p.fields.length) with hjl | hje
  ·obtain ⟨s,hsj⟩:∃ s,p.fields[j]?=some s:=⟨_,List.getElem?_eq_getElem hjl⟩
   have hsr:=str_row hsj
   have hse:gQ fs s=((plc fs s:Nat):Int):=by have:=hhere s (List.mem_of_getElem? hsj); unfold plc; omega
   have hFs:=fun H q=>hFi H s q
   rw [if_neg (by omega)] at hFs
   have hjn:=fZ _ j s hsj
   have hnin:memS (dn++p.fields.take j) s=false:=by
    rw [Bool.eq_false_iff]
    intro q
    have q:=memS_iff.1 q
    rcases List.mem_append.1 q with q | q
    ·exact (List.nodup_append.1 hone).2.2 s q s (List.mem_of_getElem? hsj) rfl
    ·have hd:=(List.nodup_append.1 hone).2.1
     obtain ⟨i,hi⟩:=List.mem_iff_getElem?.1 q
     rw [List.getElem?_take] at hi
     split at hi
     ·have:=(List.getElem?_inj (by omega) hd).1 (hi.trans hsj.symm); omega
     ·cases hi
   have hco:=fun H u q=>contS_any (dn++p.fields.take j) u s H q (by rw [List.length_append,List.length_take]; omega)
   rw [hnin] at hco
   refine uV (t:=decide ((j:Int) < (p.fields.length:Int))) (decide_eq_true (by omega)) ?_
   refine go0 6 [] [] ?_
   obtain ⟨b11,o12,rfl,-,c13⟩:=RS.row hrs (hsr)
   refine cV (c13.sees (S2.trans (S8.trans S10))) ?_
   refine go0 32 [.ix b11 o12 p.fields.length cu j,.f 0 0,.cl 70 #[.slice Af fl cf,.string s] (.tuple #[Vi ((plc fs s:Nat):Int),Vi 0])] [] ?_ (ho:=(And.intro (by first | omega | (simp; omega)) (And.intro (fun H sH=>hFs _ (hfs.sees (S2.trans (S8.trans (S10.trans sH))))) (trivial))))
   refine yQ (fun a w hJ=>hco _ _ (hJ.j.rowQ (v:=nv) (e:=9) (k:=1) (l:=dZ (dn++p.fields.take j)) 1 (by kernel_rfl))) ?_; intro W14 S15
   refine aW 9 [.fix] [] ?_
   intro b16 W17 S18
   refine goa0 9 [.ap 1 0 (dZ (dn++p.fields.take j)) [[.string s]]] [(71,Vi (IntKind.i64.wrap ((j:Int) + 1)),Vi ((j:Int) + 1))] ?_ (ho:=(And.intro (by constructor <;> (simp; omega)) (trivial))) (hc:=(And.intro (jJ (by omega) (by omega)) (trivial)))
   intro v70 W19 S20
   refine gV [(0,.slice (some ⟨b3,o4,none⟩) len cap),(1,.slice Af fl cf),(24,.slice (some ⟨b3,o4,none⟩) len cap),(25,Vi (len:Int)),(26,Vi (k:Int)),(7,Vp b6),(49,.slice (some ⟨b11,o12,none⟩) p.fields.length cu),(50,Vi (p.fields.length:Int)),(5,.slice (sA v70) (sN v70) (sC v70)),(51,Vi ((j:Int) + 1))] [.box b6 [.string p.name,.slice (some ⟨b11,o12,none⟩) p.fields.length cu,Vi p.skip.op,Vi p.skip.k,Vi p.skip.n,.string p.skip.s,.string p.skip.nm,.slice Bu mu du],.row (.slice (sA v70) (sN v70) (sC v70)) 9 1 ((dZ (dn++p.fields.take j))++[[.string s]])] [(b3,o4 + k * 8,[.string p.name,.slice (some ⟨b11,o12,none⟩) p.fields.length cu,Vi p.skip.op,Vi p.skip.k,Vi p.skip.n,.string p.skip.s,.string p.skip.nm,.slice Bu mu du])] ?_
   exact tV (j + 1) (fun X q=>⟨W19,.slice (sA v70) (sN v70) (sC v70),q _ _ _ _ (xY (by rw [hjn,← List.append_assoc]; simp [dZ])),(S10.trans (S15.trans (S18.trans S20))),by omega⟩) (by omega)
  ·skip
   have hta:dn++p.fields.take j=dn++p.fields:=by rw [hje,List.take_length]
   rw [hta]
   rcases hskip with hz | ⟨z1,z2,z3,z4⟩
   ·obtain ⟨Bz,dz,ez⟩:=args_zero (by rw [hz]; rfl) hxa
    obtain rfl:mu=0:=by simp only [Value.slice.injEq] at ez; exact ez.2.1
    have hnv:=fun H=>never_yes p.name Au p.fields.length cu Bu du H
    refine dV (t:=decide ((j:Int) < (p.fields.length:Int))) (decide_eq_false (by omega)) ?_
    refine go0 2 [] [] ?_
    refine iV ?_
    refine go0 18 [.b 0 0,.cl 104 #[.agg #[.string p.name,.slice Au p.fields.length cu,Vi p.skip.op,Vi p.skip.k,Vi p.skip.n,.string p.skip.s,.string p.skip.nm,.slice Bu 0 du]] (.bool true)] [(81,Vi (IntKind.i64.wrap ((k:Int) + 1)),Vi ((k:Int) + 1))] ?_ (ho:=(And.intro (fun H sH=>by rw [hz]; exact hnv _) (trivial))) (hc:=(And.intro (jJ (by omega) (by omega)) (trivial)))
    refine gV [(0,.slice (some ⟨b3,o4,none⟩) len cap),(1,.slice Af fl cf),(24,.slice (some ⟨b3,o4,none⟩) len cap),(25,Vi (len:Int)),(5,nv),(26,Vi ((k:Int) + 1))] [.row nv 9 1 (dZ (dn++p.fields))] [] ?_
    exact tV (k + 1) (fun X q=>⟨W9,nv,q _ _ _ _ (xY (by rw [hsn]; try rfl)),(S2.trans (S8.trans S10)),by omega⟩) (by omega)
   ·skip
    have hnv:=fun H=>never_no p.name p.skip Au p.fields.length cu Bu mu du H z1
    have hft:=fun H q1 q2=>fits_any fs p.skip (.slice Bu mu du) (.slice Af fl cf) 2 H q1 z2 z3 q2
    rw [z4] at hft
    refine dV (t:=decide ((j:Int) < (p.fields.length:Int))) (decide_eq_false (by omega)) ?_
    refine go0 2 [] [] ?_
    refine iV ?_
    refine go0 35 [.b 0 0,.cl 104 #[.agg #[.string p.name,.slice Au p.fields.length cu,Vi p.skip.op,Vi p.skip.k,Vi p.skip.n,.string p.skip.s,.string p.skip.nm,.slice Bu mu du]] (.bool false),.b 0 2,.cl 131 #[.agg #[Vi p.skip.op,Vi p.skip.k,Vi p.skip.n,.string p.skip.s,.string p.skip.nm,.slice Bu mu du],.slice Af fl cf,Vi 2] (Vi 0)] [(81,Vi (IntKind.i64.wrap ((k:Int) + 1)),Vi ((k:Int) + 1))] ?_ (ho:=(And.intro (fun H sH=>hnv _) (And.intro (fun H sH=>hft _ (hxa.sees (S2.trans (S8.trans (S10.trans sH)))) (hfs.sees (S2.trans (S8.trans (S10.trans sH))))) (trivial)))) (hc:=(And.intro (jJ (by omega) (by omega)) (trivial)))
    refine gV [(0,.slice (some ⟨b3,o4,none⟩) len cap),(1,.slice Af fl cf),(24,.slice (some ⟨b3,o4,none⟩) len cap),(25,Vi (len:Int)),(5,nv),(26,Vi ((k:Int) + 1))] [.row nv 9 1 (dZ (dn++p.fields))] [] ?_
    exact tV (k + 1) (fun X q=>⟨W9,nv,q _ _ _ _ (xY (by rw [hsn]; try rfl)),(S2.trans (S8.trans S10)),by omega⟩) (by omega)
 ·skip
  refine dV (t:=decide ((k:Int) < (len:Int))) (decide_eq_false (by omega)) ?_
  refine go0 2 [] [] ?_
  refine iV ?_
  refine go0 8 [] [] ?_
  refine hQ.to [Vi 0] (fun H sH=>?_)
  exact rfl
end Go.Proofs.YthckljafinhepaaGreat
namespace Go.Proofs.YthckljafinhepaaGreat
open Go.RowKit
set_option linter.unusedVariables false
structure OkFm (f:Fm) (ρ:List Int) (lv:Nat→Nat):Prop where
 fields:OkFs f.fields
 pages:OkGs f.fields f.pages
 rank:Ranked (xW f.fields) ρ lv
theorem shCheck_any (f:Fm) (ρ:List Int) (lv:Nat→Nat) (A:Option Addr) (n c:Nat) (B:Option Addr) (m d:Nat) (h:Vw) (hok:OkFm f ρ lv) (hf:IsForm h (.slice A n c) (.slice B m d) f) (hn:n=f.fields.length) :
  C0 Tryz.prog 84 #[.agg #[.slice A n c,.slice B m d]] h (fun r _=>r=.int .i64 0):=by
 have hR:=fun H q=>rankOf_any f.fields (.slice A n c) H hok.fields q ρ lv hok.rank
 have few:=hok.fields.few
 have hP:=fun H q1 q2=>pgCheck_any f.fields (.slice A n c) f.pages (.slice B m d) H hok.pages q1 q2 (by omega)
 rw [← hn] at hR
 refine aV Tryz.func84 (c:=Tryz.f84.body.getD .skip) (N:=21) ?_
 intro hbx hbad Q hQ
 refine go1 11 [.own,.b 0 0] [] ?_
 intro b1
 refine wQ (fun H sH=>hR _ ((hf.sees sH)).fields) ?_; rintro _ W2 S3 ⟨b,rfl,hro⟩
 refine go0 24 [.b 0 1,.b 0 0] [] ?_
 refine go0 5 [.cl 105 #[.slice B m d,.slice A n c] (Vi 0)] [] ?_ (ho:=(And.intro (fun H sH=>hP _ ((hf.sees (S3.trans sH))).pages ((hf.sees (S3.trans sH))).fields) (trivial)))
 refine hQ.to [Vi 0] (fun H sH=>?_)
 exact rfl
end Go.Proofs.YthckljafinhepaaGreat
namespace Go.Proofs.YthckljafinhepaaGreat
open Go.RowKit
set_option linter.unusedVariables false
theorem known_no (v:Vl) (h:Vw) (hk:¬ v.k≤3) (h1:1≤v.k):C0 Tryz.prog 42 #[v.val] h (fun r _=>r=.bool false):=by
 refine aV Tryz.func42 (c:=Tryz.f42.body.getD .skip) (N:=16) ?_
 intro hbx hbad Q hQ
 refine go1 25 [.own,.b 0 0,.b 0 0] [(5,.bool (decide (v.k ≥ 1)),.bool true),(9,.bool (decide (v.k≤3)),.bool false)] ?_ (hc:=(And.intro (congrArg Value.bool (decide_eq_true h1)) (And.intro (congrArg Value.bool (decide_eq_false hk)) (trivial))))
 intro b1
 refine hQ.to [.bool false] (fun H sH=>?_)
 exact rfl
theorem chk_deep {x:Ex} (h:chkE x=0):(szE x).2≤12:=by
 unfold chkE at h
 split at h
 ·cases h
 ·split at h
  ·cases h
  ·omega
theorem asked_no (l:List Aw) (A:Option Addr) (n c:Nat) (s:ByteArray) (key:Vl) (h:Vw) (h4:¬ key.k≤3) (h1:1≤key.k):C0 Tryz.prog 63 #[.slice A n c,.string s,.agg #[.int .i64 key.k,.int .i64 key.n,.string key.s]] h (fun r _=>r=(askV l s key).val):=by
 have e:askV l s key=key:=by unfold askV; rw [if_neg h4]
 rw [e]
 have hk:=fun H=>known_no key H h4 h1
 refine aV Tryz.func63 (c:=Tryz.f63.body.getD .skip) (N:=33) ?_
 intro hbx hbad Q hQ
 refine go2 23 [.own,.own,.b 1 0,.cl 42 #[.agg #[Vi key.k,Vi key.n,.string key.s]] (.bool false),.b 1 0,.b 0 0] [] ?_ (ho:=(And.intro (fun H sH=>hk _) (trivial)))
 intro b1 b2
 refine hQ.to [.agg #[Vi key.k,Vi key.n,.string key.s]] (fun H sH=>?_) (ix:=[0])
 exact rfl
theorem asked_yes (l:List Aw) (sl:Value) (s:ByteArray) (key:Vl) (h:Vw) (hr:RS h 7 sl (tJ l)) (hl:l.length≤1000000) (hk:key.known):C0 Tryz.prog 63 #[sl,.string s,.agg #[.int .i64 key.k,.int .i64 key.n,.string key.s]] h (fun r _=>r=(askV l s key).val):=by
 have e:askV l s key=askL s key l:=by unfold askV; rw [if_pos (known_kind hk).2]
 rw [e]
 have hkn:=c_kn key.k key.n key.s
 obtain ⟨A,c,rfl,-,-,-⟩:=hr.form
 rw [List.length_map] at *
 generalize hL:l.length=n at *
 refine aV Tryz.func63 (c:=Tryz.f63.body.getD .skip) (N:=33) ?_
 intro hbx hbad Q hQ
 refine go2 26 [.own,.own,.b 1 0,.cl 42 #[.agg #[Vi key.k,Vi key.n,.string key.s]] (.bool true)] [] ?_ (ho:=(And.intro (fun H sH=>hkn _ hk) (trivial)))
 intro b1 b2
 refine jV [0,1,0,1,1] [.block 0,.seq [1,1,1]] (fun (k:Nat) X=>∃ (W3:Vw) ,X W3 [(1,.string s),(5,Vp b1),(6,Vp b2),(13,.slice A n c),(14,Vi (n:Int)),(15,Vi (k:Int))] [.box b2 [Vi 0,Vi 0,Ve],.box b1 [Vi key.k,Vi key.n,.string key.s]] []∧Sees h W3∧(k≤n)∧(askL s key (l.drop k)=askL s key l)) (fun k=>n - k) (0) (fun X q=>⟨h,q _ _ _ _ ⟨rfl,by kernel_rfl⟩,Sees.refl _,Nat.zero_le _,rfl⟩) ?_
 rintro k a w ⟨W3,hJ,S4,hkl,hv⟩; refine pV hJ ?_; clear hJ a w
 refine go0 6 [] [] ?_
 rcases (by omega:k < n∨k=n) with hlt | hke
 ·obtain ⟨p,hp⟩:∃ p,l[k]?=some p:=⟨_,List.getElem?_eq_getElem (by omega)⟩
  have hrow:(tJ l)[k]?=some (anRow p):=by rw [List.getElem?_map,hp]; rfl
  have hdr:l.drop k=p :: l.drop (k + 1):=by
   obtain ⟨h1,h2⟩:=List.getElem?_eq_some_iff.1 hp
   rw [List.drop_eq_getElem_cons h1,h2]
  rw [hdr,askL] at hv
  refine uV (t:=decide ((k:Int) < (n:Int))) (decide_eq_true (by omega)) ?_
  refine go0 6 [] [] ?_
  obtain ⟨b5,o6,rfl,-,c7⟩:=RS.row hr (hrow)
  refine cV (c7.sees S4) ?_
  refine go1 13 [.ix b5 o6 n c k,.f 0 0,.own,.b 0 0,.b 0 0] [] ?_ (ho:=(And.intro (by first | omega | (simp; omega)) (trivial)))
  intro b8
  by_cases g:(p.nm.toList == s.toList)=true
  ·skip
   by_cases q:eqB p.key key=true
   ·have hh:p.hit s key=true:=by unfold Aw.hit; rw [g,q]; rfl
    rw [if_pos hh] at hv
    refine sV 23 (v:=.bool (p.nm.toList == s.toList)) (v':=.bool true) (congrArg Value.bool g) ?_
    refine go0 3 [.b 0 1,.b 2 0] [] ?_
    refine qV (.bool true) (fun w=>run_eqop (x:=(.tmp 25)) (y:=(.tmp 26)) (v:=p.key) (w:=key) (by kernel_rfl) (by kernel_rfl) (by kernel_rfl) (q)) ?_
    refine go0 14 [.b 0 4,.b 1 0] [] ?_
    refine iV ?_
    refine go0 2 [] [] ?_
    refine hQ.to [.agg #[Vi p.has.k,Vi p.has.n,.string p.has.s]] (fun H sH=>?_) (ix:=[1])
    exact congrArg Vl.val hv
   ·skip
    have hh:¬ p.hit s key=true:=by unfold Aw.hit; rw [g]; exact q
    rw [if_neg hh] at hv
    refine sV 23 (v:=.bool (p.nm.toList == s.toList)) (v':=.bool true) (congrArg Value.bool g) ?_
    refine go0 3 [.b 0 1,.b 2 0] [] ?_
    refine qV (.bool false) (fun w=>run_eqop (x:=(.tmp 25)) (y:=(.tmp 26)) (v:=p.key) (w:=key) (by kernel_rfl) (by kernel_rfl) (by kernel_rfl) (Bool.eq_false_iff.2 q)) ?_
    refine go0 11 [] [(31,Vi (IntKind.i64.wrap ((k:Int) + 1)),Vi ((k:Int) + 1))] ?_ (hc:=(And.intro (jJ (by omega) (by omega)) (trivial)))
    exact tV (k + 1) (fun X q=>⟨W3,q _ _ _ _ ⟨rfl,by kernel_rfl⟩,S4,by omega,hv⟩) (by omega)
  ·skip
   have hh:¬ p.hit s key=true:=by unfold Aw.hit; rw [Bool.eq_false_iff.2 g]; exact Bool.false_ne_true
   rw [if_neg hh] at hv
   refine sV 23 (v:=.bool (p.nm.toList == s.toList)) (v':=.bool false) (congrArg Value.bool (Bool.eq_false_iff.2 g)) ?_
   refine go0 15 [] [(31,Vi (IntKind.i64.wrap ((k:Int) + 1)),Vi ((k:Int) + 1))] ?_ (hc:=(And.intro (jJ (by omega) (by omega)) (trivial)))
   exact tV (k + 1) (fun X q=>⟨W3,q _ _ _ _ ⟨rfl,by kernel_rfl⟩,S4,by omega,hv⟩) (by omega)
 ·skip
  have hd:l.drop k=[]:=List.drop_eq_nil_of_le (by omega)
  rw [hd] at hv
  refine dV (t:=decide ((k:Int) < (n:Int))) (decide_eq_false (by omega)) ?_
  refine go0 2 [] [] ?_
  refine iV ?_
  refine go0 9 [.b 0 0] [] ?_
  refine hQ.to [.agg #[Vi 4,Vi 0,Ve]] (fun H sH=>?_) (ix:=[0])
  exact congrArg Vl.val hv
theorem asked_any (l:List Aw) (sl:Value) (s:ByteArray) (key:Vl) (h:Vw) (hr:RS h 7 sl (tJ l)) (hl:l.length≤1000000) (hk:OkV key):C0 Tryz.prog 63 #[sl,.string s,.agg #[.int .i64 key.k,.int .i64 key.n,.string key.s]] h (fun r _=>r=(askV l s key).val):=by
 by_cases g:key.k≤3
 ·rcases hk with q | rfl | ⟨q,-⟩
  ·exact asked_yes l sl s key h hr hl q
  ·exact absurd g (by decide)
  ·omega
 ·obtain ⟨A,c,rfl,-,-,-⟩:=hr.form
  exact asked_no l A _ c s key h g (ok_kinds hk).1
set_option maxHeartbeats 4000000 in
theorem one_inp (f:Fd) (n1 n2 n3 c1 c2 c3:Nat) (A1 A2 A3:Option Addr) (inp:Env) (si:Value) (h:Vw) (hi:RS h 7 si (yK inp)) (li:inp.length≤1000000) (g:f.kind=1) :
  C0 Tryz.prog 20 #[.agg #[.string f.name,.int .i64 f.kind,.int .i64 f.ty,.int .i64 f.src.op,.int .i64 f.src.k,.int .i64 f.src.n,.string f.src.s,.string f.src.nm,.slice A1 n1 c1],si,.slice A2 n2 c2,.slice A3 n3 c3] h (fun r _=>r=(gZ f.name f.ty inp).val):=by
 obtain ⟨A,c,rfl,-,-,-⟩:=hi.form
 rw [List.length_map] at *
 generalize hL:inp.length=n at *
 refine aV Tryz.func20 (c:=Tryz.f20.body.getD .skip) (N:=49) ?_
 intro hbx hbad Q hQ
 refine go2 24 [.own,.own,.b 1 1] [(15,.bool (f.kind == 1),.bool true)] ?_ (hc:=(And.intro (congrArg Value.bool (beq_iff_eq.2 g)) (trivial)))
 intro b1 b2
 refine jV [0,1,0,0,1,0,1] [.block 0,.seq [1,0,1,0,1],.seq [1,1]] (fun (k:Nat) X=>∃ (W3:Vw) ,X W3 [(4,Vp b1),(8,Vp b2),(16,.slice A n c),(17,Vi (n:Int)),(18,Vi (k:Int))] [.box b2 [Vi 0,Vi 0,Ve],.box b1 [.string f.name,Vi f.kind,Vi f.ty,Vi f.src.op,Vi f.src.k,Vi f.src.n,.string f.src.s,.string f.src.nm,.slice A1 n1 c1]] []∧Sees h W3∧(k≤n)∧(gZ f.name f.ty (inp.drop k)=gZ f.name f.ty inp)) (fun k=>n - k) (0) (fun X q=>⟨h,q _ _ _ _ ⟨rfl,by kernel_rfl⟩,Sees.refl _,Nat.zero_le _,rfl⟩) ?_
 rintro k a w ⟨W3,hJ,S4,hkl,hv⟩; refine pV hJ ?_; clear hJ a w
 refine go0 6 [] [] ?_
 rcases (by omega:k < n∨k=n) with hlt | hke
 ·obtain ⟨p,hp⟩:∃ p,inp[k]?=some p:=⟨_,List.getElem?_eq_getElem (by omega)⟩
  have hrow:(yK inp)[k]?=some (fcRow p):=by rw [List.getElem?_map,hp]; rfl
  have hdr:inp.drop k=p :: inp.drop (k + 1):=by
   obtain ⟨h1,h2⟩:=List.getElem?_eq_some_iff.1 hp
   rw [List.drop_eq_getElem_cons h1,h2]
  rw [hdr,gZ] at hv
  refine uV (t:=decide ((k:Int) < (n:Int))) (decide_eq_true (by omega)) ?_
  refine go0 6 [] [] ?_
  obtain ⟨b5,o6,rfl,-,c7⟩:=RS.row hi (hrow)
  refine cV (c7.sees S4) ?_
  refine go1 15 [.ix b5 o6 n c k,.f 0 0,.own,.b 0 0,.b 0 0,.b 2 0] [] ?_ (ho:=(And.intro (by first | omega | (simp; omega)) (trivial)))
  intro b8
  by_cases q:(p.1.toList == f.name.toList)=true
  ·rw [if_pos q] at hv
   refine uV (t:=p.1.toList == f.name.toList) (q) ?_
   refine go0 10 [.b 0 4,.b 1 0] [] ?_
   refine iV ?_
   refine go0 3 [] [] ?_
   refine hQ.to [.agg #[Vi p.2.k,Vi p.2.n,.string p.2.s]] (fun H sH=>?_) (ix:=[1])
   exact congrArg Vl.val hv
  ·skip
   rw [if_neg q] at hv
   refine dV (t:=p.1.toList == f.name.toList) (Bool.eq_false_iff.2 q) ?_
   refine go0 7 [] [(29,Vi (IntKind.i64.wrap ((k:Int) + 1)),Vi ((k:Int) + 1))] ?_ (hc:=(And.intro (jJ (by omega) (by omega)) (trivial)))
   exact tV (k + 1) (fun X q=>⟨W3,q _ _ _ _ ⟨rfl,by kernel_rfl⟩,S4,by omega,hv⟩) (by omega)
 ·skip
  have hd:inp.drop k=[]:=List.drop_eq_nil_of_le (by omega)
  rw [hd] at hv
  refine dV (t:=decide ((k:Int) < (n:Int))) (decide_eq_false (by omega)) ?_
  refine go0 2 [] [] ?_
  refine iV ?_
  refine go0 12 [.b 1 2,.b 0 0] [] ?_
  refine hQ.to [.agg #[Vi f.ty,Vi 0,Ve]] (fun H sH=>?_) (ix:=[0])
  exact congrArg Vl.val hv
theorem one_any (fs:List Fd) (f:Fd) (v:Value) (inp:Env) (si:Value) (orc:List Aw) (so:Value) (kn:Env) (sk:Value) (h:Vw) (hf:OkF fs f) (ha:IsArgs h f.src v) (hi:RS h 7 si (yK inp)) (ho:RS h 7 so (tJ orc)) (hk:RS h 7 sk (yK kn))
  (li:inp.length≤1000) (lo:orc.length≤1000) (lk:kn.length≤1000) (okk:∀ p∈kn,OkV p.2) :
  C0 Tryz.prog 20 #[.agg #[.string f.name,.int .i64 f.kind,.int .i64 f.ty,.int .i64 f.src.op,.int .i64 f.src.k,.int .i64 f.src.n,.string f.src.s,.string f.src.nm,v],si,so,sk] h (fun r _=>r=(gX f inp orc kn).val):=by
 obtain ⟨A1,n1,c1,rfl⟩:=ha.slice
 obtain ⟨A2,c2,rfl,-,-,-⟩:=ho.form
 obtain ⟨A3,c3,rfl,-,-,-⟩:=hk.form
 rw [List.length_map] at *
 rw [List.length_map] at *
 by_cases g:f.kind=1
 ·have e:gX f inp orc kn=gZ f.name f.ty inp:=by unfold gX; rw [if_pos g]
  rw [e]
  exact one_inp f _ _ _ _ _ _ _ _ _ inp si h hi (by omega) g
 ·obtain ⟨w1,w2,w3⟩:=hf.wf g
  have w4:(szE f.src).2≤12:=chk_deep w3
  have hE:=fun H q1 q2=>eval_any f.src (.slice A1 n1 c1) kn (.slice A3 kn.length c3) H q1 w1 w2 w4 q2 okk lk
  have hv:=evalE_ok (get_ok okk) _ f.src (Nat.le_refl _) w1
  have hA:=fun H q=>asked_any orc (.slice A2 orc.length c2) f.name (mK kn f.src) H q (by omega) hv
  obtain ⟨A,c,rfl,-,-,-⟩:=hi.form
  rw [List.length_map] at *
  generalize inp.length=n at *
  have e:gX f inp orc kn=if f.kind=3 then askV orc f.name (mK kn f.src) else mK kn f.src:=by unfold gX; rw [if_neg g]
  rw [e]
  generalize mK kn f.src=key at *
  generalize askV orc f.name key=av at *
  generalize orc.length=n2 at *
  generalize kn.length=n3 at *
  by_cases g3:f.kind=3
  ·rw [if_pos g3]
   refine aV Tryz.func20 (c:=Tryz.f20.body.getD .skip) (N:=49) ?_
   intro hbx hbad Q hQ
   refine go3 52 [.own,.own,.b 1 1,.b 1 3,.cl 57 #[.agg #[Vi f.src.op,Vi f.src.k,Vi f.src.n,.string f.src.s,.string f.src.nm,.slice A1 n1 c1],.slice A3 n3 c3] (.tuple #[.agg #[Vi key.k,Vi key.n,.string key.s],Vi 0]),.own,.b 0 0,.b 2 1,.b 2 0,.b 0 0,.cl 63 #[.slice A2 n2 c2,.string f.name,.agg #[Vi key.k,Vi key.n,.string key.s]] (.agg #[Vi av.k,Vi av.n,.string av.s]),.b 1 0] [(15,.bool (f.kind == 1),.bool false),(42,.bool (f.kind == 3),.bool true)] ?_ (ho:=(And.intro (fun H sH=>hE _ (ha.sees sH) (hk.sees sH)) (And.intro (fun H sH=>hA _ (ho.sees sH)) (trivial)))) (hc:=(And.intro (congrArg Value.bool (beq_eq_false_iff_ne.2 g)) (And.intro (congrArg Value.bool (beq_iff_eq.2 g3)) (trivial))))
   intro b1 b2 b3
   refine hQ.to [.agg #[Vi av.k,Vi av.n,.string av.s]] (fun H sH=>?_) (ix:=[1])
   exact rfl
  ·rw [if_neg g3]
   refine aV Tryz.func20 (c:=Tryz.f20.body.getD .skip) (N:=49) ?_
   intro hbx hbad Q hQ
   refine go3 49 [.own,.own,.b 1 1,.b 1 3,.cl 57 #[.agg #[Vi f.src.op,Vi f.src.k,Vi f.src.n,.string f.src.s,.string f.src.nm,.slice A1 n1 c1],.slice A3 n3 c3] (.tuple #[.agg #[Vi key.k,Vi key.n,.string key.s],Vi 0]),.own,.b 0 0,.b 2 1,.b 0 0,.b 1 0] [(15,.bool (f.kind == 1),.bool false),(42,.bool (f.kind == 3),.bool false)] ?_ (ho:=(And.intro (fun H sH=>hE _ (ha.sees sH) (hk.sees sH)) (trivial))) (hc:=(And.intro (congrArg Value.bool (beq_eq_false_iff_ne.2 g)) (And.intro (congrArg Value.bool (beq_eq_false_iff_ne.2 g3)) (trivial))))
   intro b1 b2 b3
   refine hQ.to [.agg #[Vi key.k,Vi key.n,.string key.s]] (fun H sH=>?_) (ix:=[1])
   exact rfl
theorem oracle_nil (A:Option Addr) (n c:Nat) (B:Option Addr) (m d:Nat) (so:Value) (h:Vw) (ho:RS h 7 so (tJ [])):C0 Tryz.prog 91 #[.agg #[.slice A n c,.slice B m d],so] h (fun r _=>r=.int .i64 0):=by
 obtain ⟨A1,c1,rfl,-,-,-⟩:=ho.form
 refine aV Tryz.func91 (c:=Tryz.f91.body.getD .skip) (N:=83) ?_
 intro hbx hbad Q hQ
 refine go1 15 [.own] [] ?_
 intro b1
 refine jV [0,1,0,1] [.block 0,.seq [1,1]] (fun (k:Nat) X=>∃ (W2:Vw) ,X W2 [(1,.slice A1 0 c1),(2,Vp b1),(13,.slice A1 0 c1),(14,Vi 0),(15,Vi ((0:Nat):Int))] [.box b1 [.slice A n c,.slice B m d]] []∧Sees h W2∧(k=0)) (fun k=>k) (0) (fun X q=>⟨h,q _ _ _ _ ⟨rfl,by kernel_rfl⟩,Sees.refl _,rfl⟩) ?_
 rintro k a w ⟨W2,hJ,S3,hk⟩; refine pV hJ ?_; clear hJ a w
 refine go0 6 [] [] ?_
 refine dV (t:=decide (((0:Nat):Int) < 0)) (decide_eq_false (by omega)) ?_
 refine go0 2 [] [] ?_
 refine iV ?_
 refine go0 8 [] [] ?_
 refine hQ.to [Vi 0] (fun H sH=>?_)
 exact rfl
theorem whCheck_any (f:Fm) (ρ:List Int) (lv:Nat→Nat) (A:Option Addr) (n c:Nat) (B:Option Addr) (m d:Nat) (inp:Env) (si so:Value) (orc:List Aw) (h:Vw) (hok:OkFm f ρ lv) (hf:IsForm h (.slice A n c) (.slice B m d) f) (hn:n=f.fields.length)
  (hi:RS h 7 si (yK inp)) (li:inp.length≤1000000) (ki:∀ p∈inp,p.2.known) (ti:uK f.fields [] inp=0) (ho:RS h 7 so (tJ orc))
  (hO:∀ H,IsForm H (.slice A n c) (.slice B m d) f→RS H 7 so (tJ orc)→C0 Tryz.prog 91 #[.agg #[.slice A n c,.slice B m d],so] H (fun r _=>r=.int .i64 0)) :
  C0 Tryz.prog 61 #[.agg #[.slice A n c,.slice B m d],si,so] h (fun r _=>r=.int .i64 0):=by
 have hC:=fun H q=>shCheck_any f ρ lv A n c B m d H hok q hn
 have few:=hok.fields.few
 have hF:=fun H q1 q2=>facts_v f.fields (.slice A n c) (.slice B m d) inp si H q1 rfl (by omega) q2 li ki
 rw [ti] at hF
 obtain ⟨A1,c1,rfl,-,-,-⟩:=hi.form
 obtain ⟨A2,c2,rfl,-,-,-⟩:=ho.form
 rw [List.length_map] at *
 rw [List.length_map] at *
 refine aV Tryz.func61 (c:=Tryz.f61.body.getD .skip) (N:=23) ?_
 intro hbx hbad Q hQ
 refine go1 50 [.own,.b 0 0,.cl 84 #[.agg #[.slice A n c,.slice B m d]] (Vi 0),.b 0 0,.cl 90 #[.agg #[.slice A n c,.slice B m d],.slice A1 inp.length c1] (Vi 0),.b 0 0,.cl 91 #[.agg #[.slice A n c,.slice B m d],.slice A2 orc.length c2] (Vi 0)] [] ?_ (ho:=(And.intro (fun H sH=>hC _ (hf.sees sH)) (And.intro (fun H sH=>hF _ ((hf.sees sH)).fields (hi.sees sH)) (And.intro (fun H sH=>hO _ (hf.sees sH) (ho.sees sH)) (trivial)))))
 intro b1
 refine hQ.to [Vi 0] (fun H sH=>?_)
 exact rfl
def AllO (n:Nat) (va:List Vl) (r u:Value) (l:List (List Value)):Prop:=r=.tuple #[u,.int .i64 0]∧(∃ A' c',u=.slice A' n c')∧l=lZ va
set_option maxHeartbeats 4000000 in
theorem whAll_own (f:Fm) (ρ:List Int) (lv:Nat→Nat) (A:Option Addr) (n c:Nat) (B:Option Addr) (m d:Nat) (inp:Env) (si so:Value) (orc:List Aw) (h:Vw) (hok:OkFm f ρ lv) (hf:IsForm h (.slice A n c) (.slice B m d) f) (hn:n=f.fields.length) (h1:1≤n)
  (hi:RS h 7 si (yK inp)) (li:inp.length≤1000) (ki:∀ p∈inp,p.2.known) (ti:uK f.fields [] inp=0) (ho:RS h 7 so (tJ orc)) (lo:orc.length≤1000) (ko:∀ p∈orc,OkV p.has)
  (hO:∀ H,IsForm H (.slice A n c) (.slice B m d) f→RS H 7 so (tJ orc)→C0 Tryz.prog 91 #[.agg #[.slice A n c,.slice B m d],so] H (fun r _=>r=.int .i64 0)) :
  C0 Tryz.prog 18 #[.agg #[.slice A n c,.slice B m d],si,so] h (fun r h'=>∃ u l,Ent.ok h.w.heap.size h'.w (.row u 38 3 l)∧AllO n (allW f.fields inp orc (pX ρ n)) r u l):=by
 have hC:=fun H q1 q2 q3=>whCheck_any f ρ lv A n c B m d inp si so orc H hok q1 hn q2 (by omega) ki ti q3 hO
 have few:=hok.fields.few
 have hOr:=fun H q=>order_any f.fields (.slice A n c) H hok.fields q ρ lv hok.rank (by omega) (by omega)
 rw [← hn] at hOr
 have hod:Ordd f.fields ρ lv (pX ρ n):=by rw [hn]; exact ordL_ordd hok.rank (by omega)
 have hol:=hod.len
 have hrun:=run_inv hok.fields ki ko hod
 have hon:∀ (g:Fd) (u sk:Value) (kn:Env) (H:Vw),g∈f.fields→IsArgs H g.src u→RS H 7 si (yK inp)→RS H 7 so (tJ orc)→RS H 7 sk (yK kn)→kn.length≤1000→(∀ p∈kn,OkV p.2)→_:=fun g u sk kn H q0 q1 q2 q3 q4 q5 q6=>one_any f.fields g u inp si orc so kn sk H (hok.fields.each g q0) q1 q2 q3 q4 li lo q5 q6
 obtain ⟨A1,c1,rfl,-,-,-⟩:=hi.form
 obtain ⟨A2,c2,rfl,-,-,-⟩:=ho.form
 rw [List.length_map] at *
 rw [List.length_map] at *
 obtain ⟨vs,A3,c3,e3,-,-,hr3,hs3,hl3,hsl⟩:=dQ hf.fields
 simp only [Value.slice.injEq] at e3
 obtain ⟨rfl,-,rfl⟩:=e3
 rw [← hn] at hr3 hl3
 have hstep:=fun k i (hi:(pX ρ n)[k]?=some i) (g:Fd) (hg:f.fields[i]?=some g)=>run_at f.fields inp orc (pX ρ n) k i hi g hg
 show C0 _ _ _ _ (fun r h'=>∃ u l,Ent.ok h.w.heap.size h'.w (.row u 38 3 l)∧AllO n (runW f.fields inp orc (pX ρ n)).1 r u l)
 have hlt':=fun i (q:i∈pX ρ n)=>hod.lt q
 rw [← hn] at hlt' hol
 have hlen:=fun k q=>(hrun k q).len
 have hkl:=fun k q=>(hrun k q).klen
 have hok':=fun k q=>(hrun k q).ok
 clear hrun hod
 have hw0:runW f.fields inp orc []=(List.replicate n zV,[]):=by rw [hn]; rfl
 generalize pX ρ n=os at *
 generalize runW f.fields inp orc=rw' at *
 generalize hni:inp.length=ni at *
 generalize hno:orc.length=no at *
 refine aV Tryz.func18 (c:=Tryz.f18.body.getD .skip) (N:=66) ?_
 intro hbx hbad Q hQ
 refine go1 30 [.own,.b 0 0,.cl 61 #[.agg #[.slice A n c,.slice B m d],.slice A1 ni c1,.slice A2 no c2] (Vi 0),.b 0 0] [] ?_ (ho:=(And.intro (fun H sH=>hC _ (hf.sees sH) (hi.sees sH) (ho.sees sH)) (trivial)))
 intro b1
 refine wQ (fun H sH=>hOr _ ((hf.sees sH)).fields) ?_; rintro _ W2 S3 ⟨A4,c4,rfl,hro⟩
 refine go0 12 [.b 0 0] [] ?_
 refine g_makek (t:=32) (e:=38) (z:=.agg #[Vi 0,Vi 0,Ve]) (cs:=[Vi 0,Vi 0,Ve]) (x:=(.tmp 30)) (by_:=32) (m:=n) (kk:=3) (by kernel_rfl) Tryz.underlying32 (by kernel_rfl) rfl rfl (by decide) (by omega) (by omega) (by simp only [maxLen]; omega) ?_; intro b4
 refine go0 17 [] [] ?_
 refine oV 54 7 ?_
 rw [show List.replicate n [.int .i64 0,.int .i64 0,.string ⟨#[]⟩]=lZ (List.replicate n zV) from by unfold lZ; rw [List.map_replicate]; rfl]
 refine jV [0,1,0,1,1,1,1,1] [.block 0,.seq [1,1,1,1,1,1]] (fun (k:Nat) X=>∃ (W5:Vw) (v:Value) (ov:List Vl) (kv:Env),X W5 [(1,.slice A1 ni c1),(2,.slice A2 no c2),(3,Vp b1),(11,Vs b4 n n),(32,.slice A4 n c4),(33,Vi (n:Int)),(34,Vi (k:Int)),(12,v)] [.row v 54 7 (yK kv),.row (Vs b4 n n) 38 3 (lZ ov),.box b1 [.slice A n c,.slice B m d]] []∧Sees W2 W5∧(k≤n)∧(rw' (os.take k)=(ov,kv))) (fun k=>n - k) (0) (fun X q=>⟨W2,(Vz),List.replicate n zV,[],q _ _ _ _ ⟨rfl,by kernel_rfl⟩,Sees.refl _,Nat.zero_le _,hw0⟩) ?_
 rintro k a w ⟨W5,v,ov,kv,hJ,S6,hk,hv⟩; refine pV hJ ?_; clear hJ a w
 refine go0 6 [] [] ?_
 rcases (by omega:k < n∨k=n) with hlt | hke
 ·obtain ⟨i,hoi⟩:∃ i,os[k]?=some i:=⟨_,List.getElem?_eq_getElem (by omega)⟩
  have hil:=hlt' i (List.mem_of_getElem? hoi)
  obtain ⟨g,hg⟩:∃ g,f.fields[i]?=some g:=⟨_,List.getElem?_eq_getElem (by omega)⟩
  obtain ⟨u,hu⟩:∃ u,vs[i]?=some u:=⟨_,List.getElem?_eq_getElem (by omega)⟩
  have hrow:=bQ hg hu
  have hga:∀ H,AllSrc H f.fields vs→IsArgs H g.src u:=fun H q=>AllArgs.get q (x:=g.src) (by rw [List.getElem?_map,hg]; rfl) hu
  obtain ⟨Au,nu,cu,rfl⟩:=(hga _ hs3).slice
  have hro1:(wW os)[k]?=some [.int .i64 (i:Int)]:=by rw [List.getElem?_map,hoi]; rfl
  have hl1:=hlen k (by omega)
  have hl2:=hkl k (by omega)
  have hl3':=hok' k (by omega)
  have hst:=hstep k i hoi g hg
  rw [hv] at hl1 hl2 hl3' hst
  simp only at hl1 hl2 hl3' hst
  rw [List.length_take] at hl2
  obtain ⟨x0,hx0⟩:∃ x,ov[i]?=some x:=⟨_,List.getElem?_eq_getElem (by omega)⟩
  have hx1:=mZ hx0
  have hon':=fun sk H q1 q2 q3 q4=>hon g (.slice Au nu cu) sk kv H (List.mem_of_getElem? hg) q1 q2 q3 q4 (by omega) hl3'
  have hfr:(yK kv).length=kv.length:=List.length_map _
  generalize gX g inp orc kv=xv at *
  have hx2:((lZ ov).set i [.int .i64 xv.k,.int .i64 xv.n,.string xv.s])[i]?=some [.int .i64 xv.k,.int .i64 xv.n,.string xv.s]:=List.getElem?_set_self (by rw [List.length_map]; omega)
  refine uV (t:=decide ((k:Int) < (n:Int))) (decide_eq_true (by omega)) ?_
  refine go0 6 [] [] ?_
  obtain ⟨b7,o8,rfl,-,c9⟩:=RS.row hro (hro1)
  refine cV (c9.sees S6) ?_
  refine go0 12 [.ix b7 o8 n c4 k,.f 0 0,.b 2 0] [] ?_ (ho:=(And.intro (by first | omega | (simp; omega)) (trivial)))
  obtain ⟨b10,o11,rfl,-,c12⟩:=RS.row hr3 (hrow)
  refine cV (c12.sees (S3.trans S6)) ?_
  refine go0 5 [.ix b10 o11 n c i,.f 0 0] [] ?_ (ho:=(And.intro (by first | omega | (simp; omega)) (trivial)))
  refine yQ (fun a w hJ=>hon' _ _ (hga _ (hs3.sees (S3.trans (S6.trans hJ.j.seesQ)))) (hi.sees (S3.trans (S6.trans hJ.j.seesQ))) (ho.sees (S3.trans (S6.trans hJ.j.seesQ))) (hJ.j.rowQ (v:=v) (e:=54) (k:=7) (l:=yK kv) 0 (by kernel_rfl))) ?_; intro W13 S14
  refine go0 1 [.ix b4 0 n n i] [] ?_ (ho:=(And.intro (by first | omega | (simp; omega)) (trivial)))
  refine g_rowset 1 i 0 (g:=b4) (m:=n) (cap:=n) (kk:=3) (e:=38) (l:=lZ ov) (r:=[Vi x0.k,Vi x0.n,.string x0.s]) (r':=[Vi xv.k,Vi xv.n,.string xv.s]) (t:=38) (x:=(.tmp 49)) (y:=(.tmp 48)) (v:=.agg #[Vi xv.k,Vi xv.n,.string xv.s]) (hx1) ?_
  refine go0 2 [] [] ?_
  have c15:=RS.cell hr3 (hrow)
  refine cV (c15.sees (S3.trans (S6.trans S14))) ?_
  refine rV 15 0 [.pu,.pu,.ld 2 0,.pu,.v (fun gh=>.pointer (some ⟨b10,o11 + i * 9,none⟩)),.pu,.lf 0 0,.pu,.pu,.v (fun gh=>.pointer (some ⟨b4,0 + i * 3,none⟩)),.v (fun gh=>.agg #[Vi xv.k,Vi xv.n,.string xv.s]),.pu,.f (fun gh=>.slice (some ⟨(wJ (gh 12)),0,none⟩) 1 1) (fun gh hh=>Cells hh (wJ (gh 12)) 0 [.string g.name,Vi 0,Vi 0,Ve,Vi xv.k,Vi xv.n,.string xv.s]),.e (fun gh=>.slice (sA (gh 13)) (sN (gh 13)) (sC (gh 13))) 0 (fun gh=>.row (.slice (sA (gh 13)) (sN (gh 13)) (sC (gh 13))) 54 7 ((yK kv)++[[.string g.name,Vi 0,Vi 0,Ve,Vi xv.k,Vi xv.n,.string xv.s]])),.pu] [(12,true),(13,false)] (And.intro (fun _ _ _ s c=>c.sees s) (trivial)) ?_ ?_
  ·intro R hT hA hmono
   refine And.intro (eZ hT hA b10 o11 n c i (fun gh=>.pointer (some ⟨b10,o11 + i * 9,none⟩)) (by first | omega | (simp; omega))) ?_
   refine And.intro (eZ hT hA b4 0 n n i (fun gh=>.pointer (some ⟨b4,0 + i * 3,none⟩)) (by first | omega | (simp; omega))) ?_
   refine And.intro (r_rowget hT hA 60 (fun gh=>.agg #[Vi xv.k,Vi xv.n,.string xv.s]) [9] 10 (by kernel_rfl) (by kernel_rfl) (by kernel_rfl) (fun _=>by kernel_rfl) 1 (GN R 1) (by kernel_rfl) (by kernel_rfl) b4 n n 3 38 ((lZ ov).set i [Vi xv.k,Vi xv.n,.string xv.s]) (fun _=>by kernel_rfl) i 0 (r:=[Vi xv.k,Vi xv.n,.string xv.s]) (hx2) 38 (.tmp 59) (by kernel_rfl) (fun _=>by kernel_rfl) (fun _=>by kernel_rfl)) ?_
   refine And.intro (r_fact hT hA hmono ⟨fun _ _=>by kernel_rfl,fun _ _=>by kernel_rfl,fun _ _=>by kernel_rfl⟩ 62 (fun g=>Vs g 1 1) [11] 12 (by kernel_rfl) (by kernel_rfl) (fun _=>by kernel_rfl) (fun gh=>[.string g.name,Vi 0,Vi 0,Ve,Vi xv.k,Vi xv.n,.string xv.s]) 54 (fun _ _=>by kernel_rfl) (fun gh zb zH zc zj zq zhq zhe=>own_fact (i:=12) (k:=0) (f:=fun gh hh=>Cells hh (wJ (gh 12)) 0 [.string g.name,Vi 0,Vi 0,Ve,Vi xv.k,Vi xv.n,.string xv.s]) (by kernel_rfl) (by kernel_rfl) zc zj zq zhq zhe)) ?_
   refine And.intro (zX hT hA hmono ⟨fun _ _=>by kernel_rfl,fun _ _=>by kernel_rfl,fun _ _=>by kernel_rfl⟩ 63 [0,12] 13 0 (GN R 0) (fun gh=>v) 28 54 7 (fun gh=>yK kv) (fun gh=>[[.string g.name,Vi 0,Vi 0,Ve,Vi xv.k,Vi xv.n,.string xv.s]]) (.tmp 50) (.tmp 62) (fun gh=>(wJ (gh 12))) 1 1 0 12 (fun gh hh=>Cells hh (wJ (gh 12)) 0 [.string g.name,Vi 0,Vi 0,Ve,Vi xv.k,Vi xv.n,.string xv.s]) (fun _ _ c=>c) Tryz.underlying28 (zv:=.agg #[Ve,Vi 0,Vi 0,Ve,Vi 0,Vi 0,Ve]) (bytes:=80) (fun _=>by constructor <;> (simp; omega))) ?_
   trivial
  rintro b17 v63 W18 S19 ⟨f16,-⟩
  replace f16:Cells W18 b17 0 [.string g.name,Vi 0,Vi 0,Ve,Vi xv.k,Vi xv.n,.string xv.s]:=f16
  refine cV f16 ?_
  refine go0 6 [] [(64,Vi (IntKind.i64.wrap ((k:Int) + 1)),Vi ((k:Int) + 1))] ?_ (hc:=(And.intro (jJ (by omega) (by omega)) (trivial)))
  refine gV [(1,.slice A1 ni c1),(2,.slice A2 no c2),(3,Vp b1),(11,Vs b4 n n),(32,.slice (some ⟨b7,o8,none⟩) n c4),(33,Vi (n:Int)),(12,.slice (sA v63) (sN v63) (sC v63)),(34,Vi ((k:Int) + 1))] [.row (.slice (sA v63) (sN v63) (sC v63)) 54 7 ((yK kv)++[[.string g.name,Vi 0,Vi 0,Ve,Vi xv.k,Vi xv.n,.string xv.s]]),.row (Vs b4 n n) 38 3 ((lZ ov).set i [Vi xv.k,Vi xv.n,.string xv.s]),.box b1 [.slice (some ⟨b10,o11,none⟩) n c,.slice B m d]] [] ?_
  exact tV (k + 1) (fun X q=>⟨W18,.slice (sA v63) (sN v63) (sC v63),ov.set i xv,kv++[(g.name,xv)],q _ _ _ _ (xY (by rw [zK,← vlRows_set])),(S6.trans (S14.trans S19)),by omega,hst⟩) (by omega)
 ·skip
  have hta:os.take k=os:=by rw [hke,← hol,List.take_length]
  rw [hta] at hv
  refine dV (t:=decide ((k:Int) < (n:Int))) (decide_eq_false (by omega)) ?_
  refine go0 2 [] [] ?_
  refine iV ?_
  refine go0 10 [] [] ?_
  refine hQ.toJ [Vs b4 n n,Vi 0] [] (fun a w hJ=>?_)
  have fo:=hJ.rowOwn (v:=Vs b4 n n) (e:=38) (kk:=3) (l:=lZ ov) 1 (by kernel_rfl)
  exact ⟨_,_,fo,rfl,⟨_,_,rfl⟩,by rw [hv]⟩
theorem whAll_any (f:Fm) (ρ:List Int) (lv:Nat→Nat) (A:Option Addr) (n c:Nat) (B:Option Addr) (m d:Nat) (inp:Env) (si so:Value) (orc:List Aw) (h:Vw) (hok:OkFm f ρ lv) (hf:IsForm h (.slice A n c) (.slice B m d) f) (hn:n=f.fields.length) (h1:1≤n)
  (hi:RS h 7 si (yK inp)) (li:inp.length≤1000) (ki:∀ p∈inp,p.2.known) (ti:uK f.fields [] inp=0) (ho:RS h 7 so (tJ orc)) (lo:orc.length≤1000) (ko:∀ p∈orc,OkV p.has)
  (hO:∀ H,IsForm H (.slice A n c) (.slice B m d) f→RS H 7 so (tJ orc)→C0 Tryz.prog 91 #[.agg #[.slice A n c,.slice B m d],so] H (fun r _=>r=.int .i64 0)) :
  C0 Tryz.prog 18 #[.agg #[.slice A n c,.slice B m d],si,so] h (fun r h'=>∃ A' c',r=.tuple #[.slice A' n c',.int .i64 0]∧RS h' 3 (.slice A' n c') (lZ (allW f.fields inp orc (pX ρ n)))):=by
 intro a1 a2 a3 a4
 refine (whAll_own f ρ lv A n c B m d inp si so orc h hok hf hn h1 hi li ki ti ho lo ko hO a1 a2 a3 a4).mono ?_
 rintro e w' ⟨v,Bo,g1,g2,g3,g4,u,l,g5,rfl,⟨A',c',rfl⟩,rfl⟩
 exact ⟨_,Bo,g1,g2,g3,g4,A',c',rfl,row_rs g5 (fun b hb hm=>by have:=a4 b hm; have:=(g5.1.lt b hb).1; omega)⟩
end Go.Proofs.YthckljafinhepaaGreat
namespace Go.Proofs.YthckljafinhepaaGreat
open Go.RowKit
set_option linter.unusedVariables false
theorem smallX_wf:WfE smallX:=by
 refine WfE.mk' (.inr (.inr ⟨(by decide:(3:Int)≤8),(by decide:(8:Int)≤18),rfl,rfl,rfl,rfl,rfl⟩)) (WfL.all fun y hy=>?_)
 have hy:y∈[refE ⟨#[97]⟩,Ex.mk 1 1 1 ⟨#[]⟩ ⟨#[]⟩ []]:=hy
 rcases List.mem_cons.1 hy with rfl | hy
 ·exact (wf_leaf (refE_ok ⟨by decide,by decide,⟨_,rfl,by decide⟩,by decide,by decide⟩) rfl).1
 ·rw [List.mem_singleton.1 hy]
  exact (wf_leaf (x:=.mk 1 1 1 ⟨#[]⟩ ⟨#[]⟩ []) (.inl ⟨rfl,.inl ⟨rfl,(by unfold Lim; decide:Lim 1),rfl⟩,fun _=>(by decide:(0:Int)≤1),rfl,rfl⟩) rfl).1
theorem smallB_wf:WfE smallB:=(wf_leaf (refE_ok (s:=⟨#[98]⟩) ⟨by decide,by decide,⟨_,rfl,by decide⟩,by decide,by decide⟩) rfl).1
theorem small_ok:OkFs smallF.fields:=by
 refine ⟨fun f hf=>?_,by decide,by decide⟩
 have hf:f∈[(⟨⟨#[98]⟩,2,1,smallX⟩:Fd),⟨⟨#[97]⟩,1,1,zE⟩,⟨⟨#[99]⟩,3,3,smallB⟩]:=hf
 rcases List.mem_cons.1 hf with rfl | hf
 ·exact ⟨⟨by decide,by decide,⟨_,rfl,by decide⟩,by decide,by decide⟩,by decide,by decide,by decide,by decide,fun h=>absurd h (show ¬ (2:Int)=1 by decide),fun _=>⟨smallX_wf,by decide,by decide⟩,fun _=>by decide,fun h=>absurd h (show ¬ (2:Int)=3 by decide)⟩
 ·rcases List.mem_cons.1 hf with rfl | hf
  ·exact ⟨⟨by decide,by decide,⟨_,rfl,by decide⟩,by decide,by decide⟩,by decide,by decide,by decide,by decide,fun _=>rfl,fun h=>absurd rfl h,fun h=>absurd h (show ¬ (1:Int)=2 by decide),fun h=>absurd h (show ¬ (1:Int)=3 by decide)⟩
  ·rw [List.mem_singleton.1 hf]
   exact ⟨⟨by decide,by decide,⟨_,rfl,by decide⟩,by decide,by decide⟩,by decide,by decide,by decide,by decide,fun h=>absurd h (show ¬ (3:Int)=1 by decide),fun _=>⟨smallB_wf,by decide,by decide⟩,fun h=>absurd h (show ¬ (3:Int)=2 by decide),fun _=>⟨1,by decide,by decide,by decide⟩⟩
theorem names_one {x:Ex} {s:ByteArray} (h:fY x=[s]):uW x=[s]:=by
 unfold uW namesB
 rw [h]
 have e:dd ([s].map fun s:ByteArray=>s.data.toList)=[s.data.toList]:=by simp [dd]
 rw [e,List.mergeSort_singleton]
 simp
theorem small_needs:xW smallF.fields=[[1],[],[0]]:=by
 have e1:uW smallX=[⟨#[97]⟩]:=names_one (by decide)
 have e2:uW smallB=[⟨#[98]⟩]:=names_one (by decide)
 show [needE smallF.fields ⟨⟨#[98]⟩,2,1,smallX⟩,needE smallF.fields ⟨⟨#[97]⟩,1,1,zE⟩,needE smallF.fields ⟨⟨#[99]⟩,3,3,smallB⟩]=_
 unfold needE
 rw [if_neg (by decide),if_pos rfl,if_neg (by decide)]
 have p1:plc smallF.fields ⟨#[97]⟩=1:=by
  unfold plc
  rw [show (⟨#[97]⟩:ByteArray)=(⟨⟨#[97]⟩,1,1,zE⟩:Fd).name from rfl,iQ small_ok.nodup (i:=1) rfl]; rfl
 have p2:plc smallF.fields ⟨#[98]⟩=0:=by
  unfold plc
  rw [show (⟨#[98]⟩:ByteArray)=(⟨⟨#[98]⟩,2,1,smallX⟩:Fd).name from rfl,iQ small_ok.nodup (i:=0) rfl]; rfl
 simp only [e1,e2,List.map_cons,List.map_nil,p1,p2]
theorem small_ranked:Ranked (xW smallF.fields) [1,0,2] (fun i=>[1,0,2].getD i 0):=by
 rw [small_needs]
 exact ranked_ex (need:=[[1],[],[0]]) (lv:=fun i=>[1,0,2].getD i 0) (by decide) (by decide)
theorem small_okG:OkGs smallF.fields smallF.pages:=by
 have hm:∀ p∈smallF.pages,p=⟨⟨#[112,49]⟩,[⟨#[97]⟩],zE⟩∨p=⟨⟨#[112,50]⟩,[⟨#[99]⟩],zE⟩:=fun p hp=>by
  have hp:p∈[(⟨⟨#[112,49]⟩,[⟨#[97]⟩],zE⟩:Pg),⟨⟨#[112,50]⟩,[⟨#[99]⟩],zE⟩]:=hp
  rcases List.mem_cons.1 hp with h | h
  ·exact .inl h
  ·exact .inr (List.mem_singleton.1 h)
 have p1:gQ smallF.fields ⟨#[97]⟩=(1:Nat):=iQ small_ok.nodup (i:=1) (f:=⟨⟨#[97]⟩,1,1,zE⟩) rfl
 have p2:gQ smallF.fields ⟨#[99]⟩=(2:Nat):=iQ small_ok.nodup (i:=2) (f:=⟨⟨#[99]⟩,3,3,smallB⟩) rfl
 refine ⟨by decide,by decide,fun p h=>?_,by decide,fun p h=>?_,fun p h s hs=>?_,by decide,fun p h=>?_⟩
 ·rcases hm p h with rfl | rfl
  ·exact ⟨by decide,by decide,⟨_,rfl,by decide⟩,by decide,by decide⟩
  ·exact ⟨by decide,by decide,⟨_,rfl,by decide⟩,by decide,by decide⟩
 ·rcases hm p h with rfl | rfl <;> decide
 ·rcases hm p h with rfl | rfl
  ·rw [List.mem_singleton.1 hs,p1]; omega
  ·rw [List.mem_singleton.1 hs,p2]; omega
 ·rcases hm p h with rfl | rfl <;> exact .inl rfl
end Go.Proofs.YthckljafinhepaaGreat
namespace Go.Proofs.YthckljafinhepaaGreat
open Go.RowKit
set_option linter.unusedVariables false
abbrev ke1:Env:=[(⟨#[97]⟩,⟨1,4,⟨#[]⟩⟩)]
theorem ke1_known:∀ p∈ke1,p.2.known:=fun p hp=>by rw [List.mem_singleton.1 hp]; exact .inl ⟨rfl,by unfold Lim; decide,rfl⟩
theorem ke1_told:uK smallF.fields [] ke1=0:=by
 unfold uK
 have e:toldE smallF.fields ⟨#[97]⟩ 1=0:=by
  unfold toldE
  rw [iQ (fs:=smallF.fields) (by decide) (i:=1) (f:=⟨⟨#[97]⟩,1,1,zE⟩) rfl,if_neg (by omega)]; rfl
 rw [if_pos (by exact e)]; rfl
theorem small_sol {v:List Vl} (h:Sol smallF.fields ke1 [] v):∃ y z,v=[⟨1,5,⟨#[]⟩⟩,y,⟨4,0,z⟩]:=by
 have hl:=h.len
 obtain ⟨x0,x1,x2,rfl⟩:∃ a b c,v=[a,b,c]:=by
  match v,hl with
  | [a,b,c],_=>exact ⟨a,b,c,rfl⟩
 have e1:=h.at_ 1 ⟨⟨#[97]⟩,1,1,zE⟩ x1 rfl rfl
 have e1:x1=⟨1,4,⟨#[]⟩⟩:=e1.trans (by unfold gX; rw [if_pos rfl,gZ,if_pos (by rw [hZ]; decide)])
 have e0:=h.at_ 0 ⟨⟨#[98]⟩,2,1,smallX⟩ x0 rfl rfl
 subst e1
 have e0:x0=⟨1,5,⟨#[]⟩⟩:=e0.trans (by kernel_rfl)
 have e2:=h.at_ 2 ⟨⟨#[99]⟩,3,3,smallB⟩ x2 rfl rfl
 subst e0
 have e2:x2=pdV:=e2.trans (by kernel_rfl)
 exact ⟨_,_,by rw [e2]⟩
theorem known_any (h:Vw):C0 Tryz.prog 19 #[] h (fun r _=>r=.bool true):=by
 have hSm:OkFm smallF _ _:=⟨small_ok,small_okG,small_ranked⟩
 have hA:=fun H A c B d si q1 q2=>whAll_any smallF _ _ A 3 c B 2 d ke1 si (.slice none 0 0) [] H hSm q1 rfl (by omega) q2 (by decide) ke1_known ke1_told (RS.nil H 7) (by decide) (fun p hp=>by cases hp) (fun H' _ q=>oracle_nil _ _ _ _ _ _ _ H' q)
 have hs:=(all_sol small_ok ke1_known (orc:=[]) (fun p hp=>by cases hp) (ordL_ordd small_ranked (by decide))).1
 obtain ⟨y,z,hv⟩:=small_sol hs
 have hv:allW smallF.fields ke1 [] (pX [1,0,2] 3)=_:=hv
 rw [hv] at hA
 have hone:∀ (H:Vw) (b:Nat),Cells H b 0 [.string ⟨#[97]⟩,.int .i64 0,.int .i64 0,.string ⟨#[]⟩,.int .i64 1,.int .i64 4,.string ⟨#[]⟩]→RS H 7 (.slice (some ⟨b,0,none⟩) 1 1) (yK ke1):=fun H b hc =>
  oY (k:=7) (yK ke1) (fun r hr=>by rw [List.mem_singleton.1 hr]; rfl) (by decide) hc
 refine aV Tryz.func19 (c:=Tryz.f19.body.getD .skip) (N:=32) ?_
 intro hbx hbad Q hQ
 have hr0:(lZ [⟨1,5,⟨#[]⟩⟩,y,⟨4,0,z⟩])[0]?=some [.int .i64 1,.int .i64 5,.string ⟨#[]⟩]:=rfl
 have hr2:(lZ [⟨1,5,⟨#[]⟩⟩,y,⟨4,0,z⟩])[2]?=some [.int .i64 4,.int .i64 0,.string z]:=rfl
 refine go0 7 [] [] ?_
 refine wQ (fun H sH=>small_any _) ?_; rintro _ W1 S2 ⟨A,c,B,d,rfl,hf⟩
 refine aW 3 [.fix] [] ?_
 intro bone W3 S4
 refine zQ 0 bone 0 [.string ⟨#[97]⟩,Vi 0,Vi 0,Ve,Vi 1,Vi 4,Ve] fun one=>?_
 refine wQ (fun H sH=>hA _ _ _ _ _ _ (hf.sees (S4.trans sH)) (hone _ _ (one.sees sH))) ?_; rintro _ W5 S6 ⟨A',c',rfl,hr⟩
 refine go0 18 [] [] ?_
 obtain ⟨b7,o8,rfl,-,c9⟩:=RS.row hr (hr0)
 refine cV (c9.sees (Sees.refl _)) ?_
 refine go0 7 [.ix b7 o8 3 c' 0,.f 0 1] [] ?_ (ho:=(And.intro (by first | omega | (simp; omega)) (trivial)))
 have c10:=RS.cell hr (hr2)
 refine cV (c10.sees (Sees.refl _)) ?_
 refine go0 9 [.ix b7 o8 3 c' 2,.f 0 0] [] ?_ (ho:=(And.intro (by first | omega | (simp; omega)) (trivial)))
 refine hQ.to [.bool true] (fun H sH=>?_)
 exact rfl
end Go.Proofs.YthckljafinhepaaGreat
namespace Go.Proofs.YthckljafinhepaaGreat
open Go.RowKit
set_option linter.unusedVariables false
theorem mem_pgNames {fs:List Fd} {n k:Nat} {s:ByteArray}:s∈rX fs n k↔∃ (i:Nat) (f:Fd),fs[i]?=some f∧i % (n + 1)=k∧f.name=s:=by
 unfold rX
 rw [List.mem_map]
 constructor
 ·rintro ⟨⟨f,i⟩,h,rfl⟩
  obtain ⟨h1,h2⟩:=List.mem_filter.1 h
  exact ⟨i,f,List.mem_zipIdx_iff_getElem?.1 h1,beq_iff_eq.1 h2,rfl⟩
 ·rintro ⟨i,f,h1,h2,rfl⟩
  exact ⟨(f,i),List.mem_filter.2 ⟨List.mem_zipIdx_iff_getElem?.2 h1,beq_iff_eq.2 h2⟩,rfl⟩
theorem pgNames_nodup {fs:List Fd} {n k:Nat} (h:(fs.map (fun f:Fd=>f.name)).Nodup):(rX fs n k).Nodup:=by
 unfold rX
 have e:fs.zipIdx.map (fun p=>p.1.name)=fs.map (fun f:Fd=>f.name):=by
  have:fs.zipIdx.map (fun p=>p.1)=fs:=List.zipIdx_map_fst 0 fs
  calc fs.zipIdx.map (fun p=>p.1.name)=(fs.zipIdx.map (fun p=>p.1)).map (fun f:Fd=>f.name):=by rw [List.map_map]; rfl
   _=_:=by rw [this]
 refine List.Sublist.nodup ?_ (e ▸ h)
 exact List.Sublist.map _ List.filter_sublist
theorem pgT_once {l:List RawD} {fs:List Fd} {n n0:Nat} (hd:(fs.map (fun f:Fd=>f.name)).Nodup):∀ k,((oJ l fs n n0 k).1.flatMap (fun p:Pg=>p.fields)).Nodup∧∀ s∈(oJ l fs n n0 k).1.flatMap (fun p:Pg=>p.fields),∃ (i:Nat) (f:Fd),fs[i]?=some f∧i % (n + 1) < k∧f.name=s
 | 0=>⟨List.nodup_nil,fun s hs=>by cases hs⟩
 | k + 1=>by
  obtain ⟨h1,h2⟩:=pgT_once (l:=l) (n:=n) (n0:=n0) hd k
  have e:(oJ l fs n n0 (k + 1)).1.flatMap (fun p:Pg=>p.fields)=(oJ l fs n n0 k).1.flatMap (fun p:Pg=>p.fields)++rX fs n k:=by
   show ((oJ l fs n n0 k).1++[_]).flatMap _=_
   rw [List.flatMap_append]; simp
  rw [e]
  refine ⟨List.nodup_append.2 ⟨h1,pgNames_nodup hd,fun a ha b hb q=>?_⟩,fun s hs=>?_⟩
  ·obtain ⟨i,f,f1,f2,f3⟩:=h2 a ha
   obtain ⟨j,g,g1,g2,g3⟩:=mem_pgNames.1 hb
   have q1:(fs.map (fun f:Fd=>f.name))[i]?=some a:=by rw [List.getElem?_map,f1]; simp [f3]
   have q2:(fs.map (fun f:Fd=>f.name))[j]?=some a:=by rw [List.getElem?_map,g1]; simp [g3,q]
   have:=(List.getElem?_inj (List.getElem?_eq_some_iff.1 q1).1 hd).1 (q1.trans q2.symm)
   subst this
   omega
  ·rcases List.mem_append.1 hs with hs | hs
   ·obtain ⟨i,f,f1,f2,f3⟩:=h2 s hs
    exact ⟨i,f,f1,by omega,f3⟩
   ·obtain ⟨j,g,g1,g2,g3⟩:=mem_pgNames.1 hs
    exact ⟨j,g,g1,by omega,g3⟩
theorem pgT_names (l:List RawD) (fs:List Fd) (n n0:Nat):∀ k,(oJ l fs n n0 k).1.map (fun p:Pg=>p.name)=(List.range k).map qX
 | 0=>rfl
 | k + 1=>by
  show ((oJ l fs n n0 k).1++[_]).map (fun p:Pg=>p.name)=_
  rw [List.map_append,pgT_names l fs n n0 k,List.range_succ,List.map_append]; rfl
theorem pgT_each (l:List RawD) (fs:List Fd) (n n0:Nat):∀ k,∀ p∈(oJ l fs n n0 k).1,∃ i m r,i < k∧p=⟨qX i,rX fs n i,(skipE l fs r m).1⟩
 | 0,p,h=>by cases h
 | k + 1,p,h=>by
  have h:p∈(oJ l fs n n0 k).1++[_]:=h
  rcases List.mem_append.1 h with h | h
  ·obtain ⟨i,m,r,h1,h2⟩:=pgT_each l fs n n0 k p h
   exact ⟨i,m,r,by omega,h2⟩
  ·exact ⟨k,_,_,by omega,List.mem_singleton.1 h⟩
theorem pgName_ok {k:Nat} (h:k < 5):rJ (qX k).data.toList:=by
 match k,h with
 | 0,_=>exact ⟨by decide,by decide,⟨_,rfl,by decide⟩,by decide,by decide⟩
 | 1,_=>exact ⟨by decide,by decide,⟨_,rfl,by decide⟩,by decide,by decide⟩
 | 2,_=>exact ⟨by decide,by decide,⟨_,rfl,by decide⟩,by decide,by decide⟩
 | 3,_=>exact ⟨by decide,by decide,⟨_,rfl,by decide⟩,by decide,by decide⟩
 | 4,_=>exact ⟨by decide,by decide,⟨_,rfl,by decide⟩,by decide,by decide⟩
theorem pgName_inj {i j:Nat} (hi:i < 5) (hj:j < 5) (h:qX i=qX j):i=j:=by
 have key:∀ i,i < 5→∀ j,j < 5→(qX i).data=(qX j).data→i=j:=by decide
 exact key i hi j hj (congrArg ByteArray.data h)
theorem form_okGs (l:List RawD):OkGs (mQ l).fields (mQ l).pages:=by
 have hn:=tW l
 have hp:=nPages_le l
 have hpl:=form_pages l
 have hT:((fJ l (iJ l)).1.map (fun f:Fd=>f.name)).Nodup:=by
  rw [fldT_names]
  refine List.pairwise_map.2 (List.nodup_range.imp_of_mem ?_)
  intro a b ha hb hab e
  exact hab (fname_inj (by have:=List.mem_range.1 ha; omega) (by have:=List.mem_range.1 hb; omega) e)
 have he:∀ p∈(mQ l).pages,∃ i m r,i < eJ l∧p=⟨qX i,rX (fJ l (iJ l)).1 (eJ l) i,(skipE l (fJ l (iJ l)).1 r m).1⟩:=pgT_each _ _ _ _ _
 have hok:=form_okFs l _ (oQ l) (fun f=>Iff.rfl) (by rw [nQ]; omega)
 refine ⟨by omega,by omega,fun p h=>?_,?_,fun p h=>?_,fun p h s hs=>?_,(pgT_once hT _).1,fun p h=>?_⟩
 ·obtain ⟨i,m,r,hi,rfl⟩:=he p h
  exact pgName_ok (by omega)
 ·show ((oJ l _ _ _ _).1.map (fun p:Pg=>p.name)).Nodup
  rw [pgT_names]
  refine List.pairwise_map.2 (List.nodup_range.imp_of_mem ?_)
  intro a b ha hb hab e
  exact hab (pgName_inj (by have:=List.mem_range.1 ha; omega) (by have:=List.mem_range.1 hb; omega) e)
 ·obtain ⟨i,m,r,hi,rfl⟩:=he p h
  have:=pgNames_len (fJ l (iJ l)).1 (eJ l) i
  rw [lQ] at this
  show (rX _ _ _).length≤100
  omega
 ·obtain ⟨i,m,r,hi,rfl⟩:=he p h
  obtain ⟨j,f,f1,-,rfl⟩:=mem_pgNames.1 hs
  obtain ⟨k,hk⟩:=List.mem_iff_getElem?.1 (form_mem.2 (List.mem_of_getElem? f1))
  rw [iQ (oQ l) hk]
  omega
 ·obtain ⟨i,m,r,hi,rfl⟩:=he p h
  show (skipE l _ r m).1=zE∨_
  unfold skipE
  split
  ·right
   have hnm:∀ f∈(fJ l (iJ l)).1,rJ f.name.data.toList:=fun f hf=>(hok.each f (form_mem.2 hf)).name
   obtain ⟨w1,w2,w3⟩:=genE_ok l _ hnm 1 2 m (by omega) (by omega)
   have ht:=ty_gen (fs:=(fJ l (iJ l)).1) (g:=tyF (mQ l).fields) (fun f hf=>tyF_mem (oQ l) f (form_mem.2 hf)) l 1 2 m (by omega) (by omega)
   show (gJ l _ 1 2 m).1.op≠0∧_
   generalize (gJ l (fJ l (iJ l)).1 1 2 m).1=x at *
   have w2:(szE x).1≤4:=w2
   refine ⟨?_,w1,by show (szE x).1 < 1000000; omega,?_⟩
   ·rcases w1.top with t | t | t <;> omega
   ·have cx:chkE x=0:=by unfold chkE; rw [if_neg (by omega),if_neg (by omega)]
    have ho:ofE (mQ l).fields x=(2,0):=by unfold ofE; rw [if_pos cx,ht]
    show fitsE (mQ l).fields x 2=0
    unfold fitsE
    rw [ho]; rfl
  ·left; rfl
end Go.Proofs.YthckljafinhepaaGreat
namespace Go.Proofs.YthckljafinhepaaGreat
open Go.RowKit
set_option linter.unusedVariables false
theorem pQ (l:List RawD):OkFm (mQ l) (rhoL (xW (mQ l).fields)) (lvF l):=⟨form_okFs l _ (oQ l) (fun f=>Iff.rfl) (by have:=nQ l; have:=tW l; omega),form_okGs l,qQ l⟩
theorem form_ty (l:List RawD):∀ f∈(mQ l).fields,1≤f.ty∧f.ty≤3:=fun f hf=>by obtain ⟨_,_,_,_,q,_⟩:=form_each hf; exact q
def allF (l m:List RawD) (orc:List Aw):List Vl:=allW (mQ l).fields (dW (mQ l).fields m) orc (pX (rhoL (xW (mQ l).fields)) (mQ l).fields.length)
structure InpOk (fs:List Fd) (env:Env):Prop where
 known:∀ p∈env,p.2.known
 told:uK fs [] env=0
 few:env.length≤fs.length
 once:(env.map (·.1)).Nodup
theorem inp_ok (l m:List RawD):InpOk (mQ l).fields (dW (mQ l).fields m):=by
 have k0:=inp_told (l:=m) (oQ l)
 have k2:((dW (mQ l).fields m).map (·.1)).Nodup:=inpF_nodup (l:=m) (oQ l) (mQ l).fields.length (Nat.le_refl _)
 exact ⟨inp_known (l:=m) (form_ty l),factsV_ok _ _ [] k0 k2,(inpF_le (mQ l).fields m (mQ l).fields.length).2,k2⟩
theorem allF_sol (l m:List RawD) {orc:List Aw} (ho:∀ p∈orc,OkV p.has):Sol (mQ l).fields (dW (mQ l).fields m) orc (allF l m orc)∧∀ x∈allF l m orc,OkV x :=
 all_sol (pQ l).fields (inp_ok l m).known ho (ordL_ordd (qQ l) (by have:=nQ l; have:=tW l; omega))
theorem all_form (l m:List RawD) (orc:List Aw) (A:Option Addr) (c:Nat) (B:Option Addr) (d:Nat) (si so:Value) (h:Vw) (hf:IsForm h (.slice A (mQ l).fields.length c) (.slice B (mQ l).pages.length d) (mQ l)) (hi:RS h 7 si (yK (dW (mQ l).fields m)))
  (ho:RS h 7 so (tJ orc)) (lo:orc.length≤1000) (ko:∀ p∈orc,OkV p.has)
  (hO:∀ H,IsForm H (.slice A (mQ l).fields.length c) (.slice B (mQ l).pages.length d) (mQ l)→RS H 7 so (tJ orc)→C0 Tryz.prog 91 #[.agg #[.slice A (mQ l).fields.length c,.slice B (mQ l).pages.length d],so] H (fun r _=>r=.int .i64 0)) :
  C0 Tryz.prog 18 #[.agg #[.slice A (mQ l).fields.length c,.slice B (mQ l).pages.length d],si,so] h (fun r h'=>∃ A' c',r=.tuple #[.slice A' (mQ l).fields.length c',.int .i64 0]∧RS h' 3 (.slice A' (mQ l).fields.length c') (lZ (allF l m orc))):=by
 have hn:=tW l
 have hl:=nQ l
 have hI:=inp_ok l m
 have:=hI.few
 exact whAll_any (mQ l) _ _ A _ c B _ d _ si so orc h (pQ l) hf rfl (by omega) hi (by omega) hI.known hI.told ho lo ko hO
end Go.Proofs.YthckljafinhepaaGreat
namespace Go.Proofs.YthckljafinhepaaGreat
open Go.RowKit
set_option linter.unusedVariables false
theorem fcs_snoc:∀ {fs:List Fd} {vs:List Vl} (f:Fd) (v:Vl),vs.length=fs.length→fcs (fs++[f]) (vs++[v])=fcs fs vs++[(f.name,v)]
 | [],[],f,v,_=>rfl
 | g :: fs,x :: vs,f,v,h=>by
  show _ :: fcs (fs++[f]) (vs++[v])=_
  rw [fcs_snoc f v (by simpa using h)]; rfl
 | [],_ :: _,_,_,h=>by simp at h
 | _ :: _,[],_,_,h=>by simp at h
theorem fcs_ok {fs:List Fd} {vs:List Vl} (h:∀ x∈vs,OkV x):∀ p∈fcs fs vs,OkV p.2:=by
 induction fs generalizing vs with
 | nil=>intro p hp; cases hp
 | cons f fs ih =>
  cases vs with
  | nil=>intro p hp; cases hp
  | cons v vs =>
   intro p hp
   rcases List.mem_cons.1 hp with rfl | hp
   ·exact h v (by simp)
   ·exact ih (fun x hx=>h x (by simp [hx])) p hp
set_option maxHeartbeats 4000000 in
theorem facts_l (fs:List Fd) (va:List Vl) (A:Option Addr) (n c:Nat) (A1:Option Addr) (c1:Nat) (h:Vw) (hf:IsFds h (.slice A n c) fs) (hn:n=fs.length) (few:n≤1000) (ha:RS h 3 (.slice A1 n c1) (lZ va)) (la:va.length=n) :
  C0 Tryz.prog 21 #[.slice A n c,.slice A1 n c1] h (fun r h'=>∃ u,r=.slice (sA u) (sN u) (sC u)∧RS h' 7 (.slice (sA u) (sN u) (sC u)) (yK (fcs fs va))):=by
 obtain ⟨vs,A',c',e,-,-,hr,hs,hvl,hsl⟩:=dQ hf
 simp only [Value.slice.injEq] at e
 obtain ⟨rfl,-,rfl⟩:=e
 rw [← hn] at hr hvl
 have hfl:=fun k (q:k≤n)=>fcs_len (fs:=fs.take k) (v:=va.take k) (by simp; omega)
 refine aV Tryz.func21 (c:=Tryz.f21.body.getD .skip) (N:=31) ?_
 intro hbx hbad Q hQ
 refine go0 19 [] [] ?_
 refine oV 54 7 ?_
 refine jV [0,1,0,1,1] [.block 0,.seq [1,1,1]] (fun (k:Nat) X=>∃ (W1:Vw) (v:Value),X W1 [(1,.slice A1 n c1),(8,.slice A n c),(9,Vi (n:Int)),(10,Vi (k:Int)),(5,v)] [.row v 54 7 (yK (fcs (fs.take k) (va.take k)))] []∧Sees h W1∧(k≤n)) (fun k=>n - k) (0) (fun X q=>⟨h,(Vz),q _ _ _ _ ⟨rfl,by kernel_rfl⟩,Sees.refl _,Nat.zero_le _⟩) ?_
 rintro k a w ⟨W1,v,hJ,S2,hk⟩; refine pV hJ ?_; clear hJ a w
 refine go0 6 [] [] ?_
 rcases (by omega:k < n∨k=n) with hlt | hke
 ·obtain ⟨x,hx⟩:∃ x,fs[k]?=some x:=⟨_,List.getElem?_eq_getElem (by omega)⟩
  obtain ⟨u,hu⟩:∃ u,vs[k]?=some u:=⟨_,List.getElem?_eq_getElem (by omega)⟩
  obtain ⟨xa,hxa⟩:∃ y,va[k]?=some y:=⟨_,List.getElem?_eq_getElem (by omega)⟩
  have hrow:=bQ hx hu
  have hra:=mZ hxa
  obtain ⟨Au,nu,cu,rfl⟩:=(AllArgs.get hs (x:=x.src) (by rw [List.getElem?_map,hx]; rfl) hu).slice
  have hsn:=fcs_snoc (fs:=fs.take k) (vs:=va.take k) x xa (by simp; omega)
  rw [← fZ _ k x hx,← fZ _ k xa hxa] at hsn
  have hl2:=hfl k hk
  rw [List.length_take] at hl2
  have hl3:(yK (fcs (fs.take k) (va.take k))).length=(fcs (fs.take k) (va.take k)).length:=List.length_map _
  refine uV (t:=decide ((k:Int) < (n:Int))) (decide_eq_true (by omega)) ?_
  refine go0 7 [] [] ?_
  obtain ⟨b3,o4,rfl,-,c5⟩:=RS.row hr (hrow)
  refine cV (c5.sees S2) ?_
  refine go1 16 [.ix b3 o4 n c k,.f 0 0,.own,.b 0 0] [(18,.bool (decide ((k:Int) < (n:Int))),.bool true)] ?_ (ho:=(And.intro (by first | omega | (simp; omega)) (trivial))) (hc:=(And.intro (congrArg Value.bool (decide_eq_true (by omega))) (trivial)))
  intro b6
  obtain ⟨b7,o8,rfl,-,c9⟩:=RS.row ha (hra)
  refine cV (c9.sees S2) ?_
  refine rV 11 0 [.pu,.pu,.ld 0 0,.pu,.pu,.v (fun gh=>.pointer (some ⟨b7,o8 + k * 3,none⟩)),.lf 0 0,.pu,.f (fun gh=>.slice (some ⟨(wJ (gh 8)),0,none⟩) 1 1) (fun gh hh=>Cells hh (wJ (gh 8)) 0 [.string x.name,Vi 0,Vi 0,Ve,Vi xa.k,Vi xa.n,.string xa.s]),.e (fun gh=>.slice (sA (gh 9)) (sN (gh 9)) (sC (gh 9))) 1 (fun gh=>.row (.slice (sA (gh 9)) (sN (gh 9)) (sC (gh 9))) 54 7 ((yK (fcs (fs.take k) (va.take k)))++[[.string x.name,Vi 0,Vi 0,Ve,Vi xa.k,Vi xa.n,.string xa.s]])),.pu] [(8,true),(9,false)] (And.intro (fun _ _ _ s c=>c.sees s) (trivial)) ?_ ?_
  ·intro R hT hA hmono
   refine And.intro (eZ hT hA b7 o8 n c1 k (fun gh=>.pointer (some ⟨b7,o8 + k * 3,none⟩)) (by first | omega | (simp; omega))) ?_
   refine And.intro (r_fact hT hA hmono ⟨fun _ _=>by kernel_rfl,fun _ _=>by kernel_rfl,fun _ _=>by kernel_rfl⟩ 27 (fun g=>Vs g 1 1) [7] 8 (by kernel_rfl) (by kernel_rfl) (fun _=>by kernel_rfl) (fun gh=>[.string x.name,Vi 0,Vi 0,Ve,Vi xa.k,Vi xa.n,.string xa.s]) 54 (fun _ _=>by kernel_rfl) (fun gh zb zH zc zj zq zhq zhe=>own_fact (i:=8) (k:=0) (f:=fun gh hh=>Cells hh (wJ (gh 8)) 0 [.string x.name,Vi 0,Vi 0,Ve,Vi xa.k,Vi xa.n,.string xa.s]) (by kernel_rfl) (by kernel_rfl) zc zj zq zhq zhe)) ?_
   refine And.intro (zX hT hA hmono ⟨fun _ _=>by kernel_rfl,fun _ _=>by kernel_rfl,fun _ _=>by kernel_rfl⟩ 28 [0,8] 9 1 (GN R 1) (fun gh=>v) 28 54 7 (fun gh=>yK (fcs (fs.take k) (va.take k))) (fun gh=>[[.string x.name,Vi 0,Vi 0,Ve,Vi xa.k,Vi xa.n,.string xa.s]]) (.tmp 19) (.tmp 27) (fun gh=>(wJ (gh 8))) 1 1 0 8 (fun gh hh=>Cells hh (wJ (gh 8)) 0 [.string x.name,Vi 0,Vi 0,Ve,Vi xa.k,Vi xa.n,.string xa.s]) (fun _ _ c=>c) Tryz.underlying28 (zv:=.agg #[Ve,Vi 0,Vi 0,Ve,Vi 0,Vi 0,Ve]) (bytes:=80) (fun _=>by constructor <;> (simp; omega))) ?_
   trivial
  rintro b11 v28 W12 S13 ⟨f10,-⟩
  replace f10:Cells W12 b11 0 [.string x.name,Vi 0,Vi 0,Ve,Vi xa.k,Vi xa.n,.string xa.s]:=f10
  refine cV f10 ?_
  refine go0 6 [] [(29,Vi (IntKind.i64.wrap ((k:Int) + 1)),Vi ((k:Int) + 1))] ?_ (hc:=(And.intro (jJ (by omega) (by omega)) (trivial)))
  refine gV [(1,.slice (some ⟨b7,o8,none⟩) n c1),(8,.slice (some ⟨b3,o4,none⟩) n c),(9,Vi (n:Int)),(5,.slice (sA v28) (sN v28) (sC v28)),(10,Vi ((k:Int) + 1))] [.row (.slice (sA v28) (sN v28) (sC v28)) 54 7 ((yK (fcs (fs.take k) (va.take k)))++[[.string x.name,Vi 0,Vi 0,Ve,Vi xa.k,Vi xa.n,.string xa.s]])] [] ?_
  exact tV (k + 1) (fun X q=>⟨W12,.slice (sA v28) (sN v28) (sC v28),q _ _ _ _ (xY (by rw [hsn,zK]; try rfl)),(S2.trans S13),by omega⟩) (by omega)
 ·skip
  have t1:fs.take k=fs:=by rw [hke,hn,List.take_length]
  have t2:va.take k=va:=by rw [hke,← la,List.take_length]
  rw [t1,t2]
  have hrl:(yK (fcs fs va)).length=(fcs fs va).length:=List.length_map _
  refine eV 0 (v:=v) (e:=54) (kk:=7) (l:=yK (fcs fs va)) ?_; intro Ar cr hE_v hc_v hm_v
  rw [show (yK (fcs fs va)).length=(fcs fs va).length from by first | omega | (simp; done) | (simp; omega)] at hE_v hc_v
  rw [hE_v]
  refine dV (t:=decide ((k:Int) < (n:Int))) (decide_eq_false (by omega)) ?_
  refine go0 2 [] [] ?_
  refine iV ?_
  refine go0 9 [] [] ?_
  refine gV [(4,.slice Ar ((fcs fs va).length) cr)] [.row (.slice Ar ((fcs fs va).length) cr) 54 7 (yK (fcs fs va))] [] ?_
  refine hQ.toJ [.slice Ar ((fcs fs va).length) cr] [] (fun a w hJ=>?_)
  have fr:=hJ.j.rowOut0 (v:=.slice Ar ((fcs fs va).length) cr) (e:=54) (k:=7) (l:=yK (fcs fs va)) 0 (by kernel_rfl) rfl
  exact ⟨.slice Ar (fcs fs va).length cr,rfl,fr⟩
theorem run_rem9 {P:Program} {t:TypeId} (a:Int) (w:World):(binOp .rem t (.int .i64 a) (.int .i64 9)).run P w=.ok (.int .i64 (Int.tmod a 9)) w:=by
 simp [binOp,Op.intDiv]
theorem run_hiS {P:Program} {o:Oper} {ρ:Operand→Value} {t:TypeId} {x y:Operand} {s:ByteArray} {k:Int} (w:World) (ho:o.op=.slice t x none (some y) none) (hx:ρ x=.string s) (hy:ρ y=.int .i64 k) (h0:0≤k) (hk:k≤s.size) (ht:P.underlying t=some .string) :
  (execOp ρ o).run P w=.ok (.value (.string (s.extract 0 k.toNat))) w:=by
 unfold execOp
 simp only [ho,hx,hy,Option.map_some,Option.map_none]
 simp [run_sliceAt_string (w:=w) t _ _ _ _ ht,run_slice_string_h (w:=w) t s ht .i64 k h0 hk]
set_option maxHeartbeats 4000000 in
theorem answered_any (f:Fd) (A:Option Addr) (n c:Nat) (key:Vl) (h:Vw) (hn:f.name.size≤10) (hk:key.s.size≤40) (t1:1≤f.ty) (t3:f.ty≤3):C0 Tryz.prog 60 #[.agg #[.string f.name,.int .i64 f.kind,.int .i64 f.ty,.int .i64 f.src.op,.int .i64 f.src.k,.int .i64 f.src.n,.string f.src.s,.string f.src.nm,.slice A n c],.agg #[.int .i64 key.k,.int .i64 key.n,.string key.s]] h (fun r _=>r=(ansV f key).val):=by
 have hr:=ansN_lo f key hn hk
 have hp2:=fun H=>zJ (ansN f key) 2 H (by omega) (by omega) (by omega) (by omega)
 have hp9:=fun H=>zJ (ansN f key) 9 H (by omega) (by omega) (by omega) (by omega)
 have p0:=wX (ansN f key) 9 (by omega)
 have p1:=vX (ansN f key) 9 (by omega)
 have habc:abcB.size=9:=rfl
 have e:ansN f key=Int.tmod key.n 9 + 3 * (key.s.size:Int) + (f.name.size:Int):=rfl
 have hs0:(0:Int)≤(key.s.size:Int):=Int.natCast_nonneg _
 have hrem:key.n % 9=key.n % 9:=rfl
 obtain g | g | g:f.ty=1∨f.ty=2∨f.ty=3:=by omega
 ·have ea:ansV f key=⟨1,ansN f key,⟨#[]⟩⟩:=by unfold ansV; rw [if_pos g]
  rw [ea]
  generalize ansN f key=N at *
  refine aV Tryz.func60 (c:=Tryz.f60.body.getD .skip) (N:=36) ?_
  intro hbx hbad Q hQ
  refine go3 11 [.own,.own,.own,.b 1 1] [] ?_
  intro b1 b2 b3
  refine qV (Vi (Int.tmod key.n 9)) (fun w=>run_bin (op:=.rem) (t:=3) (x:=(.tmp 7)) (y:=(.const (Vi 9))) (yt:=3) (by kernel_rfl) (by kernel_rfl) (by kernel_rfl) (by kernel_rfl) (run_rem9 key.n w)) ?_
  refine go0 37 [.b 1 2,.b 2 0,.b 2 2,.b 0 0] [(12,Vi (IntKind.i64.wrap (3 * (key.s.size:Int))),Vi (3 * (key.s.size:Int))),(13,Vi (IntKind.i64.wrap (Int.tmod key.n 9 + (3 * (key.s.size:Int)))),Vi (Int.tmod key.n 9 + (3 * (key.s.size:Int)))),(17,Vi (IntKind.i64.wrap ((Int.tmod key.n 9 + (3 * (key.s.size:Int))) + (f.name.size:Int))),Vi N),(21,.bool (f.ty == 1),.bool true)] ?_ (hc:=(And.intro (jJ (by omega) (by omega)) (And.intro (jJ (by omega) (by omega)) (And.intro ((jJ (by omega) (by omega)).trans (congrArg (Value.int .i64) e.symm)) (And.intro (congrArg Value.bool (beq_iff_eq.2 g)) (trivial))))))
  refine hQ.to [.agg #[Vi 1,Vi N,Ve]] (fun H sH=>?_) (ix:=[0])
  exact rfl
 ·have ea:ansV f key=⟨2,cJ (ansN f key) 2,⟨#[]⟩⟩:=by unfold ansV; rw [if_neg (by omega),if_pos g]
  rw [ea]
  generalize ansN f key=N at *
  refine aV Tryz.func60 (c:=Tryz.f60.body.getD .skip) (N:=36) ?_
  intro hbx hbad Q hQ
  refine go3 11 [.own,.own,.own,.b 1 1] [] ?_
  intro b1 b2 b3
  refine qV (Vi (Int.tmod key.n 9)) (fun w=>run_bin (op:=.rem) (t:=3) (x:=(.tmp 7)) (y:=(.const (Vi 9))) (yt:=3) (by kernel_rfl) (by kernel_rfl) (by kernel_rfl) (by kernel_rfl) (run_rem9 key.n w)) ?_
  refine go0 45 [.b 1 2,.b 2 0,.b 2 2,.cl 24 #[Vi N,Vi 2] (Vi (cJ N 2)),.b 0 0] [(12,Vi (IntKind.i64.wrap (3 * (key.s.size:Int))),Vi (3 * (key.s.size:Int))),(13,Vi (IntKind.i64.wrap (Int.tmod key.n 9 + (3 * (key.s.size:Int)))),Vi (Int.tmod key.n 9 + (3 * (key.s.size:Int)))),(17,Vi (IntKind.i64.wrap ((Int.tmod key.n 9 + (3 * (key.s.size:Int))) + (f.name.size:Int))),Vi N),(21,.bool (f.ty == 1),.bool false),(25,.bool (f.ty == 2),.bool true)] ?_ (ho:=(And.intro (fun H sH=>hp2 _) (trivial))) (hc:=(And.intro (jJ (by omega) (by omega)) (And.intro (jJ (by omega) (by omega)) (And.intro ((jJ (by omega) (by omega)).trans (congrArg (Value.int .i64) e.symm)) (And.intro (congrArg Value.bool (beq_eq_false_iff_ne.2 (by omega))) (And.intro (congrArg Value.bool (beq_iff_eq.2 g)) (trivial)))))))
  refine hQ.to [.agg #[Vi 2,Vi (cJ N 2),Ve]] (fun H sH=>?_) (ix:=[0])
  exact rfl
 ·have ea:ansV f key=⟨3,0,f.name++abcB.extract 0 (cJ (ansN f key) 9).toNat⟩:=by unfold ansV; rw [if_neg (by omega),if_neg (by omega)]
  rw [ea]
  have hcut:=fun (ρ:Operand→Value) (o:Oper) (x y:Operand) (w:World) q1 q2 q3=>run_hiS (P:=Tryz.prog) (o:=o) (ρ:=ρ) (t:=9) (x:=x) (y:=y) (s:=abcB) (k:=cJ (ansN f key) 9) w q1 q2 q3 p0 (by rw [habc]; omega) Tryz.underlying9
  generalize ansN f key=N at *
  generalize cJ N 9=q at *
  have hcs:=(abc_print q.toNat).1
  refine aV Tryz.func60 (c:=Tryz.f60.body.getD .skip) (N:=36) ?_
  intro hbx hbad Q hQ
  refine go3 11 [.own,.own,.own,.b 1 1] [] ?_
  intro b1 b2 b3
  refine qV (Vi (Int.tmod key.n 9)) (fun w=>run_bin (op:=.rem) (t:=3) (x:=(.tmp 7)) (y:=(.const (Vi 9))) (yt:=3) (by kernel_rfl) (by kernel_rfl) (by kernel_rfl) (by kernel_rfl) (run_rem9 key.n w)) ?_
  refine go0 38 [.b 1 2,.b 2 0,.b 2 2] [(12,Vi (IntKind.i64.wrap (3 * (key.s.size:Int))),Vi (3 * (key.s.size:Int))),(13,Vi (IntKind.i64.wrap (Int.tmod key.n 9 + (3 * (key.s.size:Int)))),Vi (Int.tmod key.n 9 + (3 * (key.s.size:Int)))),(17,Vi (IntKind.i64.wrap ((Int.tmod key.n 9 + (3 * (key.s.size:Int))) + (f.name.size:Int))),Vi N),(21,.bool (f.ty == 1),.bool false),(25,.bool (f.ty == 2),.bool false)] ?_ (hc:=(And.intro (jJ (by omega) (by omega)) (And.intro (jJ (by omega) (by omega)) (And.intro ((jJ (by omega) (by omega)).trans (congrArg (Value.int .i64) e.symm)) (And.intro (congrArg Value.bool (beq_eq_false_iff_ne.2 (by omega))) (And.intro (congrArg Value.bool (beq_eq_false_iff_ne.2 (by omega))) (trivial)))))))
  refine rV 8 0 [.pu,.ld 2 0,.pu,.v (fun gh=>Vi q),.v (fun gh=>.string (abcB.extract 0 q.toNat)),.v (fun gh=>.string (f.name++abcB.extract 0 q.toNat)),.pu,.st 0 0] [] (trivial) ?_ ?_
  ·intro R hT hA hmono
   refine And.intro (t_v hT hA hmono (k:=24) (args:=(fun gh=>#[Vi N,Vi 9])) (f:=fun gh=>Vi q) (fun gh H sH fH lent=>hp9 _)) ?_
   refine And.intro (t_p hT hA (fun gh=>.string (abcB.extract 0 q.toNat)) (fun gh w=>hcut _ _ (.const (.string abcB)) (.tmp 32) w (by kernel_rfl) (by kernel_rfl) (by kernel_rfl))) ?_
   refine And.intro (t_p hT hA (fun gh=>.string (f.name++abcB.extract 0 q.toNat)) (fun gh w=>run_bin (op:=.add) (t:=9) (x:=(.tmp 30)) (y:=(.tmp 33)) (yt:=9) (by kernel_rfl) (by kernel_rfl) (by kernel_rfl) (by kernel_rfl) (run_cat (by omega)))) ?_
   trivial
  rintro W4 S5 -
  refine go0 2 [] [] ?_
  refine hQ.to [.agg #[Vi 3,Vi 0,.string (f.name++abcB.extract 0 q.toNat)]] (fun H sH=>?_) (ix:=[0])
  exact rfl
end Go.Proofs.YthckljafinhepaaGreat
namespace Go.Proofs.YthckljafinhepaaGreat
open Go.RowKit
set_option linter.unusedVariables false
theorem CRow.slu {P:Program} {f:FuncId} {args:Array Value} {h:Vw} {e:TypeId} {k:Nat} {l:List (List Value)} (hc:CRow P f args h e k (fun _ rows=>rows=l)):CRow P f args h e k (fun v rows=>(∃ u,v=.slice (sA u) (sN u) (sC u))∧rows=l):=by
 intro a1 a2 a3 a4
 refine (hc a1 a2 a3 a4).mono ?_
 rintro en w' ⟨v,Bo,h1,h2,h3,h4,r,h5,rfl⟩
 obtain ⟨A,c,rfl,-,-⟩:=mY h5
 exact ⟨_,Bo,h1,h2,h3,h4,r,h5,⟨.slice A r.length c,rfl⟩,rfl⟩
structure PathOk (l:List Int) (m:Nat):Prop where
 rise:l.Pairwise (· < ·)
 lo:∀ x∈l,0≤x
 hi:∀ x∈l,x≤(m:Int)
end Go.Proofs.YthckljafinhepaaGreat
namespace Go.Proofs.YthckljafinhepaaGreat
open Go.RowKit
set_option linter.unusedVariables false
theorem orc1_any (p:Aw) (b:Nat) (x:Aw) (h:Vw) (hc:Cells h b 0 (anRow x)):C0 Tryz.prog 117 #[.agg #[.string p.nm,.int .i64 p.key.k,.int .i64 p.key.n,.string p.key.s,.int .i64 p.has.k,.int .i64 p.has.n,.string p.has.s],.pointer (some ⟨b,0,none⟩)] h (fun r _=>r=.bool (p.hit x.nm x.key)):=by
 unfold Aw.hit
 refine aV Tryz.func117 (c:=Tryz.f117.body.getD .skip) (N:=16) ?_
 intro hbx hbad Q hQ
 refine cV (hc.sees (Sees.refl _)) ?_
 refine go1 14 [.own,.b 0 0,.f 0 0] [] ?_
 intro b1
 cases boolIs (p.nm.toList == x.nm.toList) with
 | true hq =>
  generalize hg:eqB p.key x.key=g at *
  refine sV 9 (v:=.bool (p.nm.toList == x.nm.toList)) (v':=.bool true) (congrArg Value.bool hq) ?_
  refine go0 4 [.b 0 1,.f 0 1] [] ?_
  refine qV (.bool g) (fun w=>run_eqop (x:=(.tmp 11)) (y:=(.tmp 13)) (v:=p.key) (w:=x.key) (by kernel_rfl) (by kernel_rfl) (by kernel_rfl) (hg)) ?_
  refine go0 5 [] [] ?_
  refine hQ.to [.bool g] (fun H sH=>?_)
  exact congrArg Value.bool (by rw [hq]; rfl)
 | false hq =>
  refine sV 9 (v:=.bool (p.nm.toList == x.nm.toList)) (v':=.bool false) (congrArg Value.bool hq) ?_
  refine go0 10 [] [] ?_
  refine hQ.to [.bool false] (fun H sH=>?_)
  exact congrArg Value.bool (by rw [hq]; rfl)
theorem idxOrc_any (l:List Aw) (A:Option Addr) (cap:Nat) (b:Nat) (x:Aw) (h:Vw) (hr:RS h 7 (.slice A l.length cap) (tJ l)) (hl:l.length≤1000000) (hc:Cells h b 0 (anRow x)) (hno:∀ q∈l,q.hit x.nm x.key=false) :
  C0 Tryz.prog 68 #[.slice A l.length cap,.func (.func 117) #[] #[.pointer (some ⟨b,0,none⟩)]] h (fun r _=>r=.int .i64 (-1)):=by
 generalize hL:l.length=len at *
 refine aV Tryz.func68 (c:=Tryz.f68.body.getD .skip) (N:=19) ?_
 intro hbx hbad Q hQ
 refine go0 14 [] [] ?_
 refine jV [0,1,0,1] [.block 0,.seq [1,1]] (fun (k:Nat) X=>∃ (W1:Vw) ,X W1 [(0,.slice A len cap),(1,.func (.func 117) #[] #[Vp b]),(7,Vi (len:Int)),(8,Vi (k:Int))] [] []∧Sees h W1∧(k≤len)) (fun k=>len - k) (0) (fun X q=>⟨h,q _ _ _ _ ⟨rfl,by kernel_rfl⟩,Sees.refl _,Nat.zero_le _⟩) ?_
 rintro k a w ⟨W1,hJ,S2,hk⟩; refine pV hJ ?_; clear hJ a w
 refine go0 6 [] [] ?_
 rcases (by omega:k < len∨k=len) with hlt | hke
 ·obtain ⟨q,hqk⟩:∃ q,l[k]?=some q:=⟨_,List.getElem?_eq_getElem (by omega)⟩
  have hrow:(tJ l)[k]?=some (anRow q):=by rw [List.getElem?_map,hqk]; rfl
  have hq1:=fun H q1=>orc1_any q b x H q1
  rw [hno q (List.mem_of_getElem? hqk)] at hq1
  refine uV (t:=decide ((k:Int) < (len:Int))) (decide_eq_true (by omega)) ?_
  refine go0 15 [] [] ?_
  obtain ⟨b3,o4,rfl,-,c5⟩:=RS.row hr (hrow)
  refine cV (c5.sees S2) ?_
  refine go0 13 [.ix b3 o4 len cap k,.f 0 0,.cl 117 #[.agg #[.string q.nm,Vi q.key.k,Vi q.key.n,.string q.key.s,Vi q.has.k,Vi q.has.n,.string q.has.s],Vp b] (.bool false)] [(18,Vi (IntKind.i64.wrap ((k:Int) + 1)),Vi ((k:Int) + 1))] ?_ (ho:=(And.intro (by first | omega | (simp; omega)) (And.intro (fun H sH=>hq1 _ (hc.sees (S2.trans sH))) (trivial)))) (hc:=(And.intro (jJ (by omega) (by omega)) (trivial)))
  exact tV (k + 1) (fun X q=>⟨W1,q _ _ _ _ ⟨rfl,by kernel_rfl⟩,S2,by omega⟩) (by omega)
 ·skip
  refine dV (t:=decide ((k:Int) < (len:Int))) (decide_eq_false (by omega)) ?_
  refine go0 2 [] [] ?_
  refine iV ?_
  refine go0 8 [] [] ?_
  refine hQ.to [Vi (-1)] (fun H sH=>?_)
  exact rfl
theorem contOrc_any (l:List Aw) (A:Option Addr) (cap:Nat) (b:Nat) (x:Aw) (h:Vw) (hr:RS h 7 (.slice A l.length cap) (tJ l)) (hl:l.length≤1000000) (hc:Cells h b 0 (anRow x)) (hno:∀ q∈l,q.hit x.nm x.key=false) :
  C0 Tryz.prog 58 #[.slice A l.length cap,.func (.func 117) #[] #[.pointer (some ⟨b,0,none⟩)]] h (fun r _=>r=.bool false):=by
 have hi:=fun H q1 q2=>idxOrc_any l A cap b x H q1 hl q2 hno
 refine aV Tryz.func58 (c:=Tryz.f58.body.getD .skip) (N:=9) ?_
 intro hbx hbad Q hQ
 refine go0 15 [.cl 68 #[.slice A l.length cap,.func (.func 117) #[] #[Vp b]] (Vi (-1))] [] ?_ (ho:=(And.intro (fun H sH=>hi _ (hr.sees sH) (hc.sees sH)) (trivial)))
 refine hQ.to [.bool false] (fun H sH=>?_)
 exact rfl
theorem once_take {l:List Aw} (h:l.Pairwise (fun p q=>p.hit q.nm q.key=false)) {k:Nat} {x:Aw} (hx:l[k]?=some x):∀ q∈l.take k,q.hit x.nm x.key=false:=fun q hq=>by
 obtain ⟨i,hi⟩:=List.getElem?_of_mem hq
 have hik:i < k:=by
  rcases Nat.lt_or_ge i k with g | g
  ·exact g
  ·rw [List.getElem?_eq_none (by rw [List.length_take]; omega)] at hi; cases hi
 rw [List.getElem?_take_of_lt hik] at hi
 obtain ⟨a,ea⟩:=List.getElem?_eq_some_iff.1 hi
 obtain ⟨b,eb⟩:=List.getElem?_eq_some_iff.1 hx
 have:=List.pairwise_iff_getElem.1 h i k a b hik
 rw [ea,eb] at this
 exact this
set_option maxHeartbeats 4000000 in
theorem whOracle_any (fs:List Fd) (hok:OkFs fs) (l:List Aw) (ho:OkOrc fs l) (A:Option Addr) (n c:Nat) (B:Option Addr) (m d:Nat) (so:Value) (h:Vw) (hf:IsFds h (.slice A n c) fs) (hn:n=fs.length) (hr:RS h 7 so (tJ l)) (hl:l.length≤1000) :
  C0 Tryz.prog 91 #[.agg #[.slice A n c,.slice B m d],so] h (fun r _=>r=.int .i64 0):=by
 obtain ⟨vs,A3,c3,e3,-,-,hr3,hs3,hl3,hsl⟩:=dQ hf
 have few:=hok.few
 have hF:=fun H s i q hp=>find_yes fs (.slice A n c) s i H q (by omega) hp
 have hT:=fun H x v q1 q2 q3 q4=>tyOf_any fs x v (.slice A n c) H q1 q2 q3 q4
 simp only [Value.slice.injEq] at e3
 obtain ⟨rfl,-,rfl⟩:=e3
 rw [← hn] at hr3 hl3
 obtain ⟨A0,c0,rfl,hc1,-,-⟩:=hr.form
 rw [List.length_map] at *
 have hC:=fun k H b x q1 q2 q3=>contOrc_any (l.take k) A0 c0 b x H q1 (by rw [List.length_take]; omega) q2 q3
 generalize hL:l.length=len at *
 refine aV Tryz.func91 (c:=Tryz.f91.body.getD .skip) (N:=83) ?_
 intro hbx hbad Q hQ
 refine go1 15 [.own] [] ?_
 intro b1
 refine jV [0,1,0,1] [.block 0,.seq [1,1]] (fun (k:Nat) X=>∃ (W2:Vw) ,X W2 [(1,.slice A0 len c0),(2,Vp b1),(13,.slice A0 len c0),(14,Vi (len:Int)),(15,Vi (k:Int))] [.box b1 [.slice A n c,.slice B m d]] []∧Sees h W2∧(k≤len)) (fun k=>len - k) (0) (fun X q=>⟨h,q _ _ _ _ ⟨rfl,by kernel_rfl⟩,Sees.refl _,Nat.zero_le _⟩) ?_
 rintro k a w ⟨W2,hJ,S3,hkl⟩; refine pV hJ ?_; clear hJ a w
 refine go0 6 [] [] ?_
 rcases (by omega:k < len∨k=len) with hlt | hke
 ·obtain ⟨x,hxk⟩:∃ x,l[k]?=some x:=⟨_,List.getElem?_eq_getElem (by omega)⟩
  have hrow:(tJ l)[k]?=some (anRow x):=by rw [List.getElem?_map,hxk]; rfl
  have hno:=once_take ho.once hxk
  have hx:=ho.each x (List.mem_of_getElem? hxk)
  obtain ⟨i,f,t,p1,p2,p3,p4,p5,p6⟩:=hx.place
  have hil:=(List.getElem?_eq_some_iff.1 p1).1
  have hF1:=hok.each f (List.mem_of_getElem? p1)
  obtain ⟨w1,w2,w3⟩:=hF1.wf (by omega)
  obtain ⟨u,hu⟩:∃ u,vs[i]?=some u:=⟨_,List.getElem?_eq_getElem (by omega)⟩
  have hfr:=bQ p1 hu
  have hga:∀ H,AllSrc H fs vs→IsArgs H f.src u:=fun H q=>AllArgs.get q (x:=f.src) (by rw [List.getElem?_map,p1]; rfl) hu
  obtain ⟨Au,nu,cu,rfl⟩:=(hga _ hs3).slice
  have hfd:=iQ hok.nodup p1
  have hF2:=fun H q=>hF H x.nm i q (by rw [← p2]; exact hfd)
  have hT2:=fun H q1 q2=>hT H f.src (.slice Au nu cu) q1 w1 (by omega) q2
  rw [show ofE fs f.src=(t,0) from by unfold ofE; rw [if_pos w3,p4]] at hT2
  have hk1:=fun H=>c_kn x.key.k x.key.n x.key.s H hx.key
  have hk2:=fun H=>check_okv x.has H (.inl hx.has)
  have htl:(l.take k).length=k:=by rw [List.length_take]; omega
  have htr:RS h 7 (.slice A0 k c0) (tJ (l.take k)):=by have:=hr.take k (by rw [List.length_map]; omega); rwa [← List.map_take] at this
  have hC2:=fun H b q1 q2=>hC k H b x q1 q2 hno
  rw [htl] at hC2
  refine uV (t:=decide ((k:Int) < (len:Int))) (decide_eq_true (by omega)) ?_
  refine go0 7 [] [] ?_
  obtain ⟨b4,o5,rfl,-,c6⟩:=RS.row hr (hrow)
  refine cV (c6.sees S3) ?_
  refine go1 36 [.ix b4 o5 len c0 k,.f 0 0,.own,.b 0 0,.b 1 0,.b 0 0,.cl 70 #[.slice A n c,.string x.nm] (.tuple #[Vi (i:Int),Vi 0]),.b 1 0] [] ?_ (ho:=(And.intro (by first | omega | (simp; omega)) (And.intro (fun H sH=>hF2 _ (hf.sees (S3.trans sH))) (trivial))))
  intro bx
  obtain ⟨b7,o8,rfl,-,c9⟩:=RS.row hr3 (hfr)
  refine cV (c9.sees S3) ?_
  refine go1 86 [.ix b7 o8 n c i,.f 0 0,.own,.b 0 0,.b 0 1,.b 0 3,.b 2 0,.cl 116 #[.agg #[Vi f.src.op,Vi f.src.k,Vi f.src.n,.string f.src.s,.string f.src.nm,.slice Au nu cu],.slice (some ⟨b7,o8,none⟩) n c] (.tuple #[Vi t,Vi 0]),.b 1 1,.cl 42 #[.agg #[Vi x.key.k,Vi x.key.n,.string x.key.s]] (.bool true),.b 1 1,.b 1 4,.cl 71 #[.agg #[Vi x.has.k,Vi x.has.n,.string x.has.s]] (Vi 0),.b 1 4,.b 0 2] [(38,.bool (f.kind != 3),.bool false),(56,.bool (x.key.k != t),.bool false),(69,.bool (x.has.k != f.ty),.bool false)] ?_ (ho:=(And.intro (by first | omega | (simp; omega)) (And.intro (fun H sH=>hT2 _ (hga _ (hs3.sees (S3.trans sH))) (hf.sees (S3.trans sH))) (And.intro (fun H sH=>hk1 _) (And.intro (fun H sH=>hk2 _) (trivial)))))) (hc:=(And.intro (congrArg Value.bool (by rw [bne_eq_false_iff_eq]; exact p3)) (And.intro (congrArg Value.bool (by rw [bne_eq_false_iff_eq]; exact p5)) (And.intro (congrArg Value.bool (by rw [bne_eq_false_iff_eq]; exact p6)) (trivial)))))
  intro b10
  refine qV (.slice (some ⟨b4,o5,none⟩) k c0) (fun w=>run_hi (t:=28) (e:=54) (x:=(.tmp 77)) (y:=(.tmp 78)) (A:=(some ⟨b4,o5,none⟩)) (n:=len) (cap:=c0) (k:=k) (kk:=7) (by kernel_rfl) (by kernel_rfl) (by kernel_rfl) (by omega) Tryz.underlying28 (by kernel_rfl)) ?_
  refine go0 1 [] [] ?_
  refine yQ (fun a w hJ=>hC2 _ bx (htr.sees (S3.trans hJ.j.seesQ)) (hJ.j.boxQ (b:=bx) (cs:=[.string x.nm,Vi x.key.k,Vi x.key.n,.string x.key.s,Vi x.has.k,Vi x.has.n,.string x.has.s]) 1 (by kernel_rfl))) ?_; intro W11 S12
  refine go0 10 [] [(82,Vi (IntKind.i64.wrap ((k:Int) + 1)),Vi ((k:Int) + 1))] ?_ (hc:=(And.intro (jJ (by omega) (by omega)) (trivial)))
  exact tV (k + 1) (fun X q=>⟨W11,q _ _ _ _ ⟨rfl,by kernel_rfl⟩,(S3.trans S12),by omega⟩) (by omega)
 ·skip
  refine dV (t:=decide ((k:Int) < (len:Int))) (decide_eq_false (by omega)) ?_
  refine go0 2 [] [] ?_
  refine iV ?_
  refine go0 8 [] [] ?_
  refine hQ.to [Vi 0] (fun H sH=>?_)
  exact rfl
end Go.Proofs.YthckljafinhepaaGreat
namespace Go.Proofs.YthckljafinhepaaGreat
open Go.RowKit
set_option linter.unusedVariables false
section
variable {P:Program} {C:Fx} {E:List (Nat × Value)} {B:List Ent} {F:List Fac} {h:Vw} {a:Act} {w w':World} {Q:Exit→Act→World→Prop} {c0:Code} {p:List Nat} {n:Nat} {ks:List Kt}
theorem x_callownq {f:FuncId} {args:Array Value} {e:TypeId} {kk:Nat} {R:Value→Value→List (List Value)→Prop} (hK:K C E B F h a w) (d:Nat) (hc:C0 P f args ⟨w,[]⟩ (fun v h'=>∃ u l,Ent.ok w.heap.size h'.w (.row u e kk l)∧R v u l)) (hk:∀ w,callAt P C E (nX c0 p) ((nX c0 p).toList.drop n) d w=[.b true,.r (.ok (.enter f args) w)])
  (k:∀ v u l h' a w,Sees h h'→R v u l→K C ((d,v) :: E) (.row u e kk l :: B) F h' a w→Goal P c0 Q (.ops p (n + 1)) ks a w):Goal P c0 Q (.ops p n) ks a w:=by
 obtain ⟨o,r,hl,hg,hd,hlt,hkn,hrun⟩:=aK hk
 have hr:=kK hl
 refine mJ hl (uQ hK.j.fits hg) (wpList_plain rfl fun KK hKK=>?_)
 unfold Oper.wp
 have hrun':∀ w,(execOp (evD E) { o with guard:=none }).run P w=.ok (.enter f args) w:=fun w=>by
  have:=hrun w
  unfold execOp at this ⊢
  exact this
 rw [tY (o:={ o with guard:=none }) hK.j.fits hkn,hrun']
 refine (hc (by intro x hx; cases hx) (by simp) (by simp) (by intro b hb; cases hb)).mono ?_
 rintro e' w' ⟨v,Bo,rfl,hlo,-,-,u,l,hok,hR⟩
 refine hKK _ _ ?_
 rw [hr]
 have j1:=(hK.j.addRow hlo hok).putd v hd hlt
 exact k v u l _ _ _ j1.sees hR ⟨j1.now,hK.facs j1.sees⟩
theorem g_callownq {s:Z} {f:FuncId} {args:Array Value} {e:TypeId} {kk:Nat} {R:Value→Value→List (List Value)→Prop} (hc:∀ a w,K C s.E s.B s.F h a w→C0 P f args ⟨w,[]⟩ (fun v h'=>∃ u l,Ent.ok w.heap.size h'.w (.row u e kk l)∧R v u l))
  (k:∀ v u l h',Sees h h'→R v u l→Go P C c0 Q h' ((s.nx c0 v).aB (.row u e kk l))) (hk:s.callOk P C c0 f args:=by intro _; kernel_rfl):Go P C c0 Q h s :=
 g_ops (bK hk).1 fun a w hK=>x_callownq hK (s.d c0) (hc a w hK) (bK hk).2 fun v u l h' a w s' r hK'=>(k v u l h' s' r).go a w hK'
end
theorem keep1_any (p:Aw) (x:Fd) (A:Option Addr) (n c:Nat) (key:Vl) (b d:Nat) (h:Vw) (hc:Cells h b 0 [.string x.name,.int .i64 x.kind,.int .i64 x.ty,.int .i64 x.src.op,.int .i64 x.src.k,.int .i64 x.src.n,.string x.src.s,.string x.src.nm,.slice A n c]) (hd:Cells h d 0 [.int .i64 key.k,.int .i64 key.n,.string key.s]):C0 Tryz.prog 59 #[.agg #[.string p.nm,.int .i64 p.key.k,.int .i64 p.key.n,.string p.key.s,.int .i64 p.has.k,.int .i64 p.has.n,.string p.has.s],.pointer (some ⟨b,0,none⟩),.pointer (some ⟨d,0,none⟩)] h (fun r _=>r=.bool (p.hit x.name key)):=by
 unfold Aw.hit
 refine aV Tryz.func59 (c:=Tryz.f59.body.getD .skip) (N:=16) ?_
 intro hbx hbad Q hQ
 refine cV (hc.sees (Sees.refl _)) ?_
 refine cV (hd.sees (Sees.refl _)) ?_
 refine go1 14 [.own,.b 0 0,.f 1 0] [] ?_
 intro b1
 cases boolIs (p.nm.toList == x.name.toList) with
 | true hq =>
  generalize hg:eqB p.key key=g at *
  refine sV 10 (v:=.bool (p.nm.toList == x.name.toList)) (v':=.bool true) (congrArg Value.bool hq) ?_
  refine go0 3 [.b 0 1,.f 0 0] [] ?_
  refine qV (.bool g) (fun w=>run_eqop (x:=(.tmp 12)) (y:=(.tmp 13)) (v:=p.key) (w:=key) (by kernel_rfl) (by kernel_rfl) (by kernel_rfl) (hg)) ?_
  refine go0 5 [] [] ?_
  refine hQ.to [.bool g] (fun H sH=>?_)
  exact congrArg Value.bool (by rw [hq]; rfl)
 | false hq =>
  refine sV 10 (v:=.bool (p.nm.toList == x.name.toList)) (v':=.bool false) (congrArg Value.bool hq) ?_
  refine go0 9 [] [] ?_
  refine hQ.to [.bool false] (fun H sH=>?_)
  exact congrArg Value.bool (by rw [hq]; rfl)
theorem idxKeep_any (l:List Aw) (v:Value) (x:Fd) (A:Option Addr) (n c:Nat) (key:Vl) (b d:Nat) (h:Vw) (hr:RS h 7 v (tJ l)) (hl:l.length≤1000000) (hc:Cells h b 0 [.string x.name,.int .i64 x.kind,.int .i64 x.ty,.int .i64 x.src.op,.int .i64 x.src.k,.int .i64 x.src.n,.string x.src.s,.string x.src.nm,.slice A n c]) (hd:Cells h d 0 [.int .i64 key.k,.int .i64 key.n,.string key.s]) :
  C0 Tryz.prog 68 #[v,.func (.func 59) #[] #[.pointer (some ⟨b,0,none⟩),.pointer (some ⟨d,0,none⟩)]] h (fun r _=>r=.int .i64 (fidx (fun q:Aw=>q.hit x.name key) l)):=by
 obtain ⟨Al,cap,rfl,-,-,-⟩:=hr.form
 rw [List.length_map] at *
 generalize hL:l.length=len at *
 refine aV Tryz.func68 (c:=Tryz.f68.body.getD .skip) (N:=19) ?_
 intro hbx hbad Q hQ
 refine go0 14 [] [] ?_
 refine jV [0,1,0,1] [.block 0,.seq [1,1]] (fun (k:Nat) X=>∃ (W1:Vw) ,X W1 [(0,.slice Al len cap),(1,.func (.func 59) #[] #[Vp b,Vp d]),(7,Vi (len:Int)),(8,Vi (k:Int))] [] []∧Sees h W1∧(k≤len)∧(∀ y∈l.take k,y.hit x.name key=false)) (fun k=>len - k) (0) (fun X q=>⟨h,q _ _ _ _ ⟨rfl,by kernel_rfl⟩,Sees.refl _,Nat.zero_le _,fun y hy=>by simp at hy⟩) ?_
 rintro k a w ⟨W1,hJ,S2,hk,hn⟩; refine pV hJ ?_; clear hJ a w
 refine go0 6 [] [] ?_
 rcases (by omega:k < len∨k=len) with hlt | hke
 ·obtain ⟨f,hfk⟩:∃ f,l[k]?=some f:=⟨_,List.getElem?_eq_getElem (by omega)⟩
  have hrow:(tJ l)[k]?=some (anRow f):=by rw [List.getElem?_map,hfk]; rfl
  generalize hq:f.hit x.name key=q at *
  have hq1:=fun H q1 q2=>keep1_any f x A n c key b d H q1 q2
  rw [hq] at hq1
  refine uV (t:=decide ((k:Int) < (len:Int))) (decide_eq_true (by omega)) ?_
  refine go0 15 [] [] ?_
  obtain ⟨b3,o4,rfl,-,c5⟩:=RS.row hr (hrow)
  refine cV (c5.sees S2) ?_
  refine go0 5 [.ix b3 o4 len cap k,.f 0 0,.cl 59 #[.agg #[.string f.nm,Vi f.key.k,Vi f.key.n,.string f.key.s,Vi f.has.k,Vi f.has.n,.string f.has.s],Vp b,Vp d] (.bool q)] [] ?_ (ho:=(And.intro (by first | omega | (simp; omega)) (And.intro (fun H sH=>hq1 _ (hc.sees (S2.trans sH)) (hd.sees (S2.trans sH))) (trivial))))
  rcases Bool.eq_false_or_eq_true q with hh | hh
  ·refine uV (t:=q) (hh) ?_
   refine go0 9 [] [] ?_
   refine iV ?_
   refine go0 2 [] [] ?_
   refine hQ.to [Vi (k:Int)] (fun H sH=>?_)
   exact congrArg (Value.int .i64) (eQ _ l k f hn hfk (hq.trans hh)).symm
  ·skip
   refine dV (t:=q) (hh) ?_
   refine go0 7 [] [(18,Vi (IntKind.i64.wrap ((k:Int) + 1)),Vi ((k:Int) + 1))] ?_ (hc:=(And.intro (jJ (by omega) (by omega)) (trivial)))
   exact tV (k + 1) (fun X q=>⟨W1,q _ _ _ _ ⟨rfl,by kernel_rfl⟩,S2,by omega,(by rw [fZ l k f hfk]; exact fun y hy=>(List.mem_append.1 hy).elim (hn y) (fun e=>by rw [List.mem_singleton.1 e]; exact hq.trans hh))⟩) (by omega)
 ·skip
  have htk:l.take k=l:=by rw [hke,← hL,List.take_length]
  rw [htk] at hn
  refine dV (t:=decide ((k:Int) < (len:Int))) (decide_eq_false (by omega)) ?_
  refine go0 2 [] [] ?_
  refine iV ?_
  refine go0 8 [] [] ?_
  refine hQ.to [Vi (-1)] (fun H sH=>?_)
  exact congrArg (Value.int .i64) (fQ _ l hn).symm
theorem contKeep_any (l:List Aw) (v:Value) (x:Fd) (A:Option Addr) (n c:Nat) (key:Vl) (b d:Nat) (h:Vw) (hr:RS h 7 v (tJ l)) (hl:l.length≤1000000) (hc:Cells h b 0 [.string x.name,.int .i64 x.kind,.int .i64 x.ty,.int .i64 x.src.op,.int .i64 x.src.k,.int .i64 x.src.n,.string x.src.s,.string x.src.nm,.slice A n c]) (hd:Cells h d 0 [.int .i64 key.k,.int .i64 key.n,.string key.s]) :
  C0 Tryz.prog 58 #[v,.func (.func 59) #[] #[.pointer (some ⟨b,0,none⟩),.pointer (some ⟨d,0,none⟩)]] h (fun r _=>r=.bool (l.any (fun q=>q.hit x.name key))):=by
 have hi:=fun H q1 q2 q3=>idxKeep_any l v x A n c key b d H q1 hl q2 q3
 have e:=fidx_dec (fun q:Aw=>q.hit x.name key) l
 obtain ⟨Al,cap,rfl,-,-,-⟩:=hr.form
 generalize fidx (fun q:Aw=>q.hit x.name key) l=p at *
 refine aV Tryz.func58 (c:=Tryz.f58.body.getD .skip) (N:=9) ?_
 intro hbx hbad Q hQ
 refine go0 15 [.cl 68 #[.slice Al ((tJ l).length) cap,.func (.func 59) #[] #[Vp b,Vp d]] (Vi p)] [] ?_ (ho:=(And.intro (fun H sH=>hi _ (hr.sees sH) (hc.sees sH) (hd.sees sH)) (trivial)))
 refine hQ.to [.bool (decide (p ≥ 0))] (fun H sH=>?_)
 exact congrArg Value.bool e
theorem addO_eq (env:Env) (out:List Aw) (f:Fd):addO env out f=if f.kind=3 then (if (mK env f.src).k≤3∧out.any (fun p=>p.hit f.name (mK env f.src))=false then out++[⟨f.name,mK env f.src,ansV f (mK env f.src)⟩] else out) else out:=by
 unfold addO
 by_cases h3:f.kind=3
 ·rw [if_pos h3]
  by_cases g:(mK env f.src).k≤3∧out.any (fun p=>p.hit f.name (mK env f.src))=false
  ·rw [if_pos ⟨h3,g⟩,if_pos g]
  ·rw [if_neg (fun q=>g q.2),if_neg g]
 ·rw [if_neg (fun q=>h3 q.1),if_neg h3]
theorem anRows_snoc (l:List Aw) (p:Aw):tJ (l++[p])=tJ l++[anRow p]:=by simp [tJ]
set_option maxHeartbeats 8000000 in
theorem oracle_l (f:Fm) (ρ:List Int) (lv:Nat→Nat) (A:Option Addr) (n c:Nat) (B:Option Addr) (m d:Nat) (inp:Env) (si:Value) (h:Vw) (hok:OkFm f ρ lv) (hf:IsForm h (.slice A n c) (.slice B m d) f) (hn:n=f.fields.length) (h1:1≤n)
  (hi:RS h 7 si (yK inp)) (li:inp.length≤1000) (ki:∀ p∈inp,p.2.known) (ti:uK f.fields [] inp=0) (hW:Wh f.fields inp ρ lv (pX ρ n)) :
  C0 Tryz.prog 17 #[.agg #[.slice A n c,.slice B m d],si] h (fun r h'=>∃ A' c',r=.tuple #[.slice A' (orcL f.fields inp (pX ρ n) n).length c',.bool true]∧RS h' 7 (.slice A' (orcL f.fields inp (pX ρ n) n).length c') (tJ (orcL f.fields inp (pX ρ n) n))):=by
 have few:=hok.fields.few
 have hAll:=fun so orc H q1 q2 q3 q4 q5=>whAll_own f ρ lv A n c B m d inp si so orc H hok q1 hn h1 q2 li ki ti q3 q4 (OkOrc.has q5) (fun H' g1 g2=>whOracle_any f.fields hok.fields orc q5 A n c B m d so H' g1.fields hn g2 q4)
 have hlen:=orcL_len f.fields inp (pX ρ n)
 have horc:=hW.orc
 have hsol:=fun r=>hW.sol (horc r)
 have hstep:∀ r,orcL f.fields inp (pX ρ n) (r + 1)=roundO (fcs f.fields (allW f.fields inp (orcL f.fields inp (pX ρ n) r) (pX ρ n))) f.fields (orcL f.fields inp (pX ρ n) r):=fun r=>rfl
 have hz:orcL f.fields inp (pX ρ n) 0=[]:=rfl
 have hFa:=fun va A1 c1 H q1 q2 q3=>facts_l f.fields va A n c A1 c1 H q1 hn (by omega) q2 q3
 obtain ⟨A1,c1,rfl,-,-,-⟩:=hi.form
 rw [List.length_map] at *
 obtain ⟨vs,A3,c3,e3,-,-,hr3,hs3,hl3,hsl⟩:=dQ hf.fields
 simp only [Value.slice.injEq] at e3
 obtain ⟨rfl,-,rfl⟩:=e3
 rw [← hn] at hr3 hl3 hlen
 generalize hni:inp.length=ni at *
 clear hW
 generalize hO:orcL f.fields inp (pX ρ n)=orc at *
 generalize hV:(fun r=>allW f.fields inp (orc r) (pX ρ n))=va at *
 have hV':∀ r,allW f.fields inp (orc r) (pX ρ n)=va r:=fun r=>congrFun hV r
 simp only [hV'] at hsol hstep
 have hAll':=fun so r H q1 q2 q3 q4=>hAll so (orc r) H q1 q2 q3 q4 (horc r)
 simp only [hV'] at hAll'
 clear hAll hV hV' hO
 refine aV Tryz.func17 (c:=Tryz.f17.body.getD .skip) (N:=76) ?_
 intro hbx hbad Q hQ
 refine go1 22 [.own,.b 0 0] [] ?_
 intro b1
 refine oV 54 7 ?_
 refine jV [0,1,0,1,1] [.block 0,.seq [1,1,1]] (fun (r:Nat) X=>∃ (W2:Vw) (v:Value) (ol:List Aw),X W2 [(1,.slice A1 ni c1),(2,Vp b1),(15,Vi (n:Int)),(16,Vi (r:Int)),(6,v)] [.row v 54 7 (tJ ol),.box b1 [.slice A n c,.slice B m d]] []∧Sees h W2∧(r≤n)∧(orc r=ol)) (fun r=>n - r) (0) (fun X q=>⟨h,(Vz),[],q _ _ _ _ ⟨rfl,by kernel_rfl⟩,Sees.refl _,Nat.zero_le _,hz⟩) ?_
 rintro r a w ⟨W2,v,ol,hJ,S3,hr,hol⟩; refine pV hJ ?_; clear hJ a w
 refine go0 6 [] [] ?_
 rcases (by omega:r < n∨r=n) with hlt | hke
 ·have hAr:=fun so H q1 q2 q3=>hAll' so r H q1 q2 q3
  rw [hol] at hAr
  have hst:=hstep r
  obtain ⟨hs1,hs2⟩:=hsol r
  have hs1:=hs1.len
  rw [← hn] at hs1
  have hln:=hlen r
  have hrn:r * n≤14 * 14:=Nat.mul_le_mul (by omega) (by omega)
  rw [hol] at hst hln
  generalize va r=vr at *
  refine uV (t:=decide ((r:Int) < (n:Int))) (decide_eq_true (by omega)) ?_
  refine go0 9 [.b 1 0] [] ?_
  refine g_callownq (e:=38) (kk:=3) (fun a w hJ=>hAr _ _ (hf.sees (S3.trans hJ.j.seesQ)) (hi.sees (S3.trans hJ.j.seesQ)) (hJ.j.rowQ (v:=v) (e:=54) (k:=7) (l:=tJ ol) 0 (by kernel_rfl)) (by omega)) ?_; rintro _ _ _ W4 S5 ⟨rfl,⟨A5,c5,rfl⟩,rfl⟩
  refine go0 22 [.b 2 0] [] ?_
  refine fV 0 (v:=.slice A5 n c5) (e:=38) (kk:=3) (l:=lZ vr) ?_; intro W6 S7 fa
  refine dV (t:=(n:Int) != (n:Int)) ((by simp)) ?_
  refine go0 11 [.b 1 0] [] ?_
  have hok3:∀ p∈fcs f.fields vr,OkV p.2:=fcs_ok hs2
  have hln3:(fcs f.fields vr).length≤1000:=by rw [fcs_len (by omega)]; omega
  have hFa2:=fun H q1 q2=>hFa vr A5 c5 H q1 q2 hs1
  have hev:=fun x (hx:x∈f.fields) (h3:x.kind=3) v u H q1 q2=>eval_any x.src v (fcs f.fields vr) u H q1 ((hok.fields.each x hx).wf (by omega)).1 ((hok.fields.each x hx).wf (by omega)).2.1 (chk_deep ((hok.fields.each x hx).wf (by omega)).2.2) q2 hok3 hln3
  have hkv:=fun x (hx:x∈f.fields) (h3:x.kind=3)=>evalE_ok (get_ok hok3) _ x.src (Nat.le_refl _) ((hok.fields.each x hx).wf (by omega)).1
  have hsn:=fun j x (hx:f.fields[j]?=some x)=>(congrArg (fun l=>roundO (fcs f.fields vr) l ol) (fZ f.fields j x hx)).trans (roundO_snoc (fcs f.fields vr) (f.fields.take j) x ol)
  have hrl:=fun j=>roundO_len (fcs f.fields vr) (f.fields.take j) ol
  have hadd:=fun out x=>addO_eq (fcs f.fields vr) out x
  generalize hen:fcs f.fields vr=env at *
  refine jV [0,1,1,1,0,0,1,1,0,0,1,0,1,1] [.block 2,.block 1,.seq [1,1,1,0,0,1,0,1,1]] (fun (j:Nat) X=>∃ (W8:Vw) (v:Value) (ml:List Aw),X W8 [(1,.slice A1 ni c1),(2,Vp b1),(15,Vi (n:Int)),(16,Vi (r:Int)),(7,.slice A5 n c5),(36,.slice A n c),(37,Vi (n:Int)),(38,Vi (j:Int)),(6,v)] [.row v 54 7 (tJ ml),.box b1 [.slice A n c,.slice B m d]] []∧Sees W6 W8∧(j≤n)∧(roundO env (f.fields.take j) ol=ml)) (fun j=>n - j) (0) (fun X q=>⟨W6,v,ol,q _ _ _ _ ⟨rfl,by kernel_rfl⟩,Sees.refl _,Nat.zero_le _,rfl⟩) ?_
  rintro j a w ⟨W8,v,ml,hJ,S9,hj,hml⟩; refine pV hJ ?_; clear hJ a w
  refine go0 6 [] [] ?_
  rcases (by omega:j < n∨j=n) with hjl | hje
  ·obtain ⟨x,hx⟩:∃ x,f.fields[j]?=some x:=⟨_,List.getElem?_eq_getElem (by omega)⟩
   obtain ⟨u,hu⟩:∃ u,vs[j]?=some u:=⟨_,List.getElem?_eq_getElem (by omega)⟩
   have hxm:=List.mem_of_getElem? hx
   have hrow:=bQ hx hu
   have hga:∀ H,AllSrc H f.fields vs→IsArgs H x.src u:=fun H q=>AllArgs.get q (x:=x.src) (by rw [List.getElem?_map,hx]; rfl) hu
   obtain ⟨Au,nu,cu,rfl⟩:=(hga _ hs3).slice
   have hml2:=hsn j x hx
   have hmll:=hrl j
   rw [hml] at hml2 hmll
   rw [List.length_take] at hmll
   have hmr:(tJ ml).length=ml.length:=List.length_map _
   have hxo:=hok.fields.each x hxm
   obtain ⟨hx10,-⟩:=name_print hxo.name
   have t1:=hxo.t1
   have t3:=hxo.t3
   have hadd2:=hadd ml x
   refine uV (t:=decide ((j:Int) < (n:Int))) (decide_eq_true (by omega)) ?_
   refine go0 6 [] [] ?_
   obtain ⟨b10,o11,rfl,-,c12⟩:=RS.row hr3 (hrow)
   refine cV (c12.sees (S3.trans (S5.trans (S7.trans S9)))) ?_
   refine go1 14 [.ix b10 o11 n c j,.f 0 0,.own,.b 0 0,.b 0 1] [] ?_ (ho:=(And.intro (by first | omega | (simp; omega)) (trivial)))
   intro bx
   by_cases g3:x.kind=3
   ·have hev2:=fun u H q1 q2=>hev x hxm g3 (.slice Au nu cu) u H q1 q2
    have hkv2:=hkv x hxm g3
    rw [if_pos g3] at hadd2
    generalize mK env x.src=key at *
    have hck:=fun b d v H q1 q2 q3=>contKeep_any ml v x Au nu cu key b d H q1 (by omega) q2 q3
    have han:=fun (hk:key.known) H=>answered_any x Au nu cu key H hx10 (known_size hk) t1 t3
    generalize hhit:ml.any (fun q=>q.hit x.name key)=hit at *
    generalize ansV x key=av at *
    refine dV (t:=x.kind != 3) ((by rw [bne_eq_false_iff_eq]; exact g3)) ?_
    refine go0 3 [] [] ?_
    refine rV 13 1 [.pu,.ld 1 3,.pu,.ld 3 0,.pu,.f (fun gh=>.slice (sA (gh 5)) (sN (gh 5)) (sC (gh 5))) (fun gh hh=>RS hh 7 (.slice (sA (gh 5)) (sN (gh 5)) (sC (gh 5))) (yK env)),.v (fun gh=>.tuple #[.agg #[Vi key.k,Vi key.n,.string key.s],Vi 0]),.pu,.pu,.pu,.al 0,.st 0 0,.pu] [(5,false),(10,true)] (And.intro (fun _ _ _ s c=>c.sees s) (trivial)) ?_ ?_
    ·intro R hT hA hmono
     refine And.intro (r_call hT hA hmono ⟨fun _ _=>by kernel_rfl,fun _ _=>by kernel_rfl,fun _ _=>by kernel_rfl⟩ 51 (fun u=>.slice (sA u) (sN u) (sC u)) [3,4] 5 (by kernel_rfl) (by kernel_rfl) (fun _=>by kernel_rfl) 21 (fun gh=>#[.slice (some ⟨b10,o11,none⟩) n c,.slice A5 n c5]) (fun _ _=>by kernel_rfl) (fun gh H sH fH lent=>C0.facts (R:=R) (x:=gh) (i:=5) (n:=0) (F:=(fun u=>.slice (sA u) (sN u) (sC u))) (G:=fun u hh=>RS hh 7 (.slice (sA u) (sN u) (sC u)) (yK env)) (f:=fun gh hh=>RS hh 7 (.slice (sA (gh 5)) (sN (gh 5)) (sC (gh 5))) (yK env)) (hFa2 _ ((hf.sees (S3.trans (S5.trans (S7.trans (S9.trans sH)))))).fields (fa.sees (S9.trans sH))) (by kernel_rfl) (by kernel_rfl) (fun _ _ r=>r))) ?_
     refine And.intro (t_v hT hA hmono (k:=57) (args:=(fun gh=>#[.agg #[Vi x.src.op,Vi x.src.k,Vi x.src.n,.string x.src.s,.string x.src.nm,.slice Au nu cu],.slice (sA (gh 5)) (sN (gh 5)) (sC (gh 5))])) (f:=fun gh=>.tuple #[.agg #[Vi key.k,Vi key.n,.string key.s],Vi 0]) (fun gh H sH fH lent=>hev2 _ _ (hga _ (hs3.sees (S3.trans (S5.trans (S7.trans (S9.trans sH)))))) (fH 0 _ rfl (by kernel_rfl)))) ?_
     trivial
    rintro u51 b13 W14 S15 ⟨f51,-⟩
    replace f51:RS W14 7 (.slice (sA u51) (sN u51) (sC u51)) (yK env):=f51
    refine go0 4 [.b 0 0] [] ?_
    by_cases gk:key.k≤3
    ·have hkn:key.known:=by
      rcases hkv2 with q | q | ⟨q,-⟩
      ·exact q
      ·rw [q] at gk; exact absurd gk (by decide)
      ·omega
     have hk1:=fun H=>c_kn key.k key.n key.s H hkn
     have han2:=han hkn
     refine go0 4 [.cl 42 #[.agg #[Vi key.k,Vi key.n,.string key.s]] (.bool true)] [] ?_ (ho:=(And.intro (fun H sH=>hk1 _) (trivial)))
     refine yQ (fun a w hJ=>hck _ _ _ _ (hJ.j.rowQ (v:=v) (e:=54) (k:=7) (l:=tJ ml) 2 (by kernel_rfl)) (hJ.j.boxQ (b:=bx) (cs:=[.string x.name,Vi x.kind,Vi x.ty,Vi x.src.op,Vi x.src.k,Vi x.src.n,.string x.src.s,.string x.src.nm,.slice Au nu cu]) 1 (by kernel_rfl)) (hJ.j.boxQ (b:=b13) (cs:=[Vi key.k,Vi key.n,.string key.s]) 0 (by kernel_rfl))) ?_; intro W16 S17
     refine go0 4 [] [] ?_
     rcases Bool.eq_false_or_eq_true hit with hh | hh
     ·rw [if_neg (fun q=>by rw [hh] at q; cases q.2)] at hadd2
      refine dV (t := !hit) ((by rw [hh]; rfl)) ?_
      refine go0 7 [] [(73,Vi (IntKind.i64.wrap ((j:Int) + 1)),Vi ((j:Int) + 1))] ?_ (hc:=(And.intro (jJ (by omega) (by omega)) (trivial)))
      exact tV (j + 1) (fun X q=>⟨W16,v,ml,q _ _ _ _ ⟨rfl,by kernel_rfl⟩,(S9.trans (S15.trans S17)),by omega,hml2.trans hadd2⟩) (by omega)
     ·skip
      rw [if_pos ⟨gk,hh⟩] at hadd2
      refine uV (t := !hit) ((by rw [hh]; rfl)) ?_
      refine rV 11 0 [.pu,.pu,.ld 1 0,.ld 0 0,.ld 1 0,.ld 0 0,.v (fun gh=>.agg #[Vi av.k,Vi av.n,.string av.s]),.pu,.f (fun gh=>.slice (some ⟨(wJ (gh 8)),0,none⟩) 1 1) (fun gh hh=>Cells hh (wJ (gh 8)) 0 [.string x.name,Vi key.k,Vi key.n,.string key.s,Vi av.k,Vi av.n,.string av.s]),.e (fun gh=>.slice (sA (gh 9)) (sN (gh 9)) (sC (gh 9))) 2 (fun gh=>.row (.slice (sA (gh 9)) (sN (gh 9)) (sC (gh 9))) 54 7 ((tJ ml)++[[.string x.name,Vi key.k,Vi key.n,.string key.s,Vi av.k,Vi av.n,.string av.s]])),.pu] [(8,true),(9,false)] (And.intro (fun _ _ _ s c=>c.sees s) (trivial)) ?_ ?_
      ·intro R hT hA hmono
       refine And.intro (t_v hT hA hmono (k:=60) (args:=(fun gh=>#[.agg #[.string x.name,Vi x.kind,Vi x.ty,Vi x.src.op,Vi x.src.k,Vi x.src.n,.string x.src.s,.string x.src.nm,.slice Au nu cu],.agg #[Vi key.k,Vi key.n,.string key.s]])) (f:=fun gh=>.agg #[Vi av.k,Vi av.n,.string av.s]) (fun gh H sH fH lent=>han2 _)) ?_
       refine And.intro (r_fact hT hA hmono ⟨fun _ _=>by kernel_rfl,fun _ _=>by kernel_rfl,fun _ _=>by kernel_rfl⟩ 71 (fun g=>Vs g 1 1) [7] 8 (by kernel_rfl) (by kernel_rfl) (fun _=>by kernel_rfl) (fun gh=>[.string x.name,Vi key.k,Vi key.n,.string key.s,Vi av.k,Vi av.n,.string av.s]) 54 (fun _ _=>by kernel_rfl) (fun gh zb zH zc zj zq zhq zhe=>own_fact (i:=8) (k:=0) (f:=fun gh hh=>Cells hh (wJ (gh 8)) 0 [.string x.name,Vi key.k,Vi key.n,.string key.s,Vi av.k,Vi av.n,.string av.s]) (by kernel_rfl) (by kernel_rfl) zc zj zq zhq zhe)) ?_
       refine And.intro (zX hT hA hmono ⟨fun _ _=>by kernel_rfl,fun _ _=>by kernel_rfl,fun _ _=>by kernel_rfl⟩ 72 [0,6,8] 9 2 (GN R 2) (fun gh=>v) 28 54 7 (fun gh=>tJ ml) (fun gh=>[[.string x.name,Vi key.k,Vi key.n,.string key.s,Vi av.k,Vi av.n,.string av.s]]) (.tmp 63) (.tmp 71) (fun gh=>(wJ (gh 8))) 1 1 0 8 (fun gh hh=>Cells hh (wJ (gh 8)) 0 [.string x.name,Vi key.k,Vi key.n,.string key.s,Vi av.k,Vi av.n,.string av.s]) (fun _ _ c=>c) Tryz.underlying28 (zv:=.agg #[Ve,Vi 0,Vi 0,Ve,Vi 0,Vi 0,Ve]) (bytes:=80) (fun _=>by constructor <;> (simp; omega))) ?_
       trivial
      rintro b19 v72 W20 S21 ⟨f18,-⟩
      replace f18:Cells W20 b19 0 [.string x.name,Vi key.k,Vi key.n,.string key.s,Vi av.k,Vi av.n,.string av.s]:=f18
      refine cV f18 ?_
      refine go0 6 [] [(73,Vi (IntKind.i64.wrap ((j:Int) + 1)),Vi ((j:Int) + 1))] ?_ (hc:=(And.intro (jJ (by omega) (by omega)) (trivial)))
      refine gV [(1,.slice A1 ni c1),(2,Vp b1),(15,Vi (n:Int)),(16,Vi (r:Int)),(7,.slice A5 n c5),(36,.slice (some ⟨b10,o11,none⟩) n c),(37,Vi (n:Int)),(6,.slice (sA v72) (sN v72) (sC v72)),(38,Vi ((j:Int) + 1))] [.row (.slice (sA v72) (sN v72) (sC v72)) 54 7 ((tJ ml)++[[.string x.name,Vi key.k,Vi key.n,.string key.s,Vi av.k,Vi av.n,.string av.s]]),.box b1 [.slice (some ⟨b10,o11,none⟩) n c,.slice B m d]] [] ?_
      exact tV (j + 1) (fun X q=>⟨W20,.slice (sA v72) (sN v72) (sC v72),ml++[⟨x.name,key,av⟩],q _ _ _ _ (xY (by rw [anRows_snoc]; try rfl)),(S9.trans (S15.trans (S17.trans S21))),by omega,hml2.trans hadd2⟩) (by omega)
    ·skip
     have hk0:=fun H=>known_no key H gk (ok_kinds hkv2).1
     rw [if_neg (fun q=>gk q.1)] at hadd2
     refine go0 17 [.cl 42 #[.agg #[Vi key.k,Vi key.n,.string key.s]] (.bool false)] [(73,Vi (IntKind.i64.wrap ((j:Int) + 1)),Vi ((j:Int) + 1))] ?_ (ho:=(And.intro (fun H sH=>hk0 _) (trivial))) (hc:=(And.intro (jJ (by omega) (by omega)) (trivial)))
     exact tV (j + 1) (fun X q=>⟨W14,v,ml,q _ _ _ _ ⟨rfl,by kernel_rfl⟩,(S9.trans S15),by omega,hml2.trans hadd2⟩) (by omega)
   ·skip
    rw [if_neg g3] at hadd2
    refine uV (t:=x.kind != 3) (bne_iff_ne.2 g3) ?_
    refine go0 8 [] [(73,Vi (IntKind.i64.wrap ((j:Int) + 1)),Vi ((j:Int) + 1))] ?_ (hc:=(And.intro (jJ (by omega) (by omega)) (trivial)))
    exact tV (j + 1) (fun X q=>⟨W8,v,ml,q _ _ _ _ ⟨rfl,by kernel_rfl⟩,S9,by omega,hml2.trans hadd2⟩) (by omega)
  ·skip
   have hta:f.fields.take j=f.fields:=by rw [hje,hn,List.take_length]
   rw [hta] at hml
   refine dV (t:=decide ((j:Int) < (n:Int))) (decide_eq_false (by omega)) ?_
   refine go0 2 [] [] ?_
   refine iV ?_
   refine go0 7 [] [(74,Vi (IntKind.i64.wrap ((r:Int) + 1)),Vi ((r:Int) + 1))] ?_ (hc:=(And.intro (jJ (by omega) (by omega)) (trivial)))
   exact tV (r + 1) (fun X q=>⟨W8,v,ml,q _ _ _ _ ⟨rfl,by kernel_rfl⟩,(S3.trans (S5.trans (S7.trans S9))),by omega,hst.trans hml⟩) (by omega)
 ·skip
  rw [hke] at hol
  have hrl:(tJ ol).length=ol.length:=List.length_map _
  refine eV 0 (v:=v) (e:=54) (kk:=7) (l:=tJ ol) ?_; intro Ar cr hE_v hc_v hm_v
  rw [show (tJ ol).length=ol.length from by first | omega | (simp; done) | (simp; omega)] at hE_v hc_v
  rw [hE_v]
  refine dV (t:=decide ((r:Int) < (n:Int))) (decide_eq_false (by omega)) ?_
  refine go0 2 [] [] ?_
  refine iV ?_
  refine go0 10 [] [] ?_
  refine gV [(4,.slice Ar ol.length cr),(5,.bool true)] [.row (.slice Ar ol.length cr) 54 7 (tJ ol),.box b1 [.slice A n c,.slice B m d]] [] ?_
  refine hQ.toJ [.slice Ar ol.length cr,.bool true] [] (fun a w hJ=>?_)
  have fr:=hJ.j.rowOut0 (v:=.slice Ar ol.length cr) (e:=54) (k:=7) (l:=tJ ol) 0 (by kernel_rfl) rfl
  exact ⟨Ar,cr,congrArg (fun l:List Aw=>Value.tuple #[.slice Ar l.length cr,.bool true]) hol.symm,by rw [hol]; exact fr⟩
end Go.Proofs.YthckljafinhepaaGreat
namespace Go.Proofs.YthckljafinhepaaGreat
open Go.RowKit
set_option linter.unusedVariables false
theorem CRow.c0 {P:Program} {f:FuncId} {args:Array Value} {h:Vw} {e:TypeId} {k:Nat} {R:Value→List (List Value)→Prop} (hc:CRow P f args h e k R):C0 P f args h (fun v h'=>∃ l u,v=.slice (sA u) (sN u) (sC u)∧RS h' k (.slice (sA u) (sN u) (sC u)) l∧R v l):=by
 intro a1 a2 a3 a4
 refine (hc a1 a2 a3 a4).mono ?_
 rintro e w' ⟨v,Bo,h1,h2,h3,h4,l,h5,h6⟩
 obtain ⟨A,c,rfl,-,-⟩:=mY h5
 exact ⟨_,Bo,h1,h2,h3,h4,l,.slice A l.length c,rfl,row_rs h5 (fun b hb hm=>by have:=a4 b hm; have:=(h5.1.lt b hb).1; omega),h6⟩
def RSn (h:Vw) (k:Nat) (u:Value) (n:Nat) (l:List (List Value)):Prop:=sN u=n∧RS h k (.slice (sA u) (sN u) (sC u)) l
theorem RSn.sees {h h':Vw} {k n:Nat} {u:Value} {l:List (List Value)} (c:RSn h k u n l) (s:Sees h h'):RSn h' k u n l:=⟨c.1,c.2.sees s⟩
end Go.Proofs.YthckljafinhepaaGreat
