/-
  Contracts of package slices at []string. slices.Clone at []string.
-/
import Derived.Test.YtmoahpojchndiaaGreatDoorZD9
import Derived.Test.YtmoahpojchndiaaGreatDoorZD5
import Derived.Test.YtmoahpojchndiaaGreatDoorZD4
import Derived.Test.YtmoahpojchndiaaGreatDoorZD10
import Derived.Test.YtmoahpojchndiaaGreatDoorZD22
import Derived.Test.YtmoahpojchndiaaGreatDoorZD39
import Derived.Lib.AppendZerosOnto
import Derived.Test.YtmoahpojchndiaaGreatDoorZD34
import Derived.Test.YtmoahpojchndiaaGreatDoorZD30
import Derived.Test.YtmoahpojchndiaaGreatDoorZD38
import Derived.Test.YtmoahpojchndiaaGreatDoorZD36
import Derived.Test.YtmoahpojchndiaaGreatDoorZD6
set_option maxRecDepth 100000
namespace Go.Proofs.YtmoahpojchndiaaGreatDoor
open Go.RowKit
set_option linter.unusedVariables false
theorem str_row {l:List ByteArray} {i:Nat} {s:ByteArray} (h:l[i]?=some s):(lY l)[i]?=some [.string s]:=by rw [List.getElem?_map,h]; rfl
theorem idxS_any (l:List ByteArray) (v:Value) (s:ByteArray) (h:Vw) (hr:RS h 1 v (lY l)) (hl:l.length≤1000000):C0 Tryz.prog 30 #[v,.string s] h (fun r _=>r=.int .i64 (fidx (fun y:ByteArray=>s.toList == y.toList) l)):=by
 obtain ⟨A,cap,rfl,-,-,-⟩:=hr.form
 rw [List.length_map] at *
 generalize hL:l.length=len at *
 refine sQ Tryz.func30 (c:=Tryz.f30.body.getD .skip) (N:=19) ?_
 intro hbx hbad Q hQ
 refine go0 14 [] [] ?_
 refine zQ [0,1,0,1] [.block 0,.seq [1,1]] (fun (k:Nat) X=>∃ (W1:Vw) ,X W1 [(0,.slice A len cap),(1,.string s),(7,Vi (len:Int)),(8,Vi (k:Int))] [] []∧Sees h W1∧(k≤len)∧(∀ y∈l.take k,(s.toList == y.toList)=false)) (fun k=>len - k) (0) (fun X q=>⟨h,q _ _ _ _ ⟨rfl,by kernel_rfl⟩,Sees.refl _,Nat.zero_le _,fun y hy=>by simp at hy⟩) ?_
 rintro k a w ⟨W1,hJ,S2,hk,hn⟩; refine eV hJ ?_; clear hJ a w
 refine go0 6 [] [] ?_
 rcases (by omega:k < len∨k=len) with hlt | hke
 ·obtain ⟨f,hfk⟩:∃ f,l[k]?=some f:=⟨_,List.getElem?_eq_getElem (by omega)⟩
  have hrow:=str_row hfk
  refine kV (t:=decide ((k:Int) < (len:Int))) (decide_eq_true (by omega)) ?_
  refine go0 15 [] [] ?_
  obtain ⟨b3,o4,rfl,-,c5⟩:=RS.row hr (hrow)
  refine tQ (c5.sees S2) ?_
  refine go0 5 [.ix b3 o4 len cap k,.f 0 0] [] ?_ (ho:=(And.intro (by first | omega | (simp; omega)) (trivial)))
  rcases Bool.eq_false_or_eq_true (s.toList == f.toList) with hq | hq
  ·refine kV (t:=s.toList == f.toList) (hq) ?_
   refine go0 9 [] [] ?_
   refine yQ ?_
   refine go0 2 [] [] ?_
   refine hQ.to [Vi (k:Int)] (fun H sH=>?_)
   exact congrArg (Value.int .i64) (dQ _ l k f hn hfk hq).symm
  ·skip
   refine uQ (t:=s.toList == f.toList) (hq) ?_
   refine go0 7 [] [(18,Vi (IntKind.i64.wrap ((k:Int) + 1)),Vi ((k:Int) + 1))] ?_ (hc:=(And.intro (jJ (by omega) (by omega)) (trivial)))
   exact jV (k + 1) (fun X q=>⟨W1,q _ _ _ _ ⟨rfl,by kernel_rfl⟩,S2,by omega,(by rw [nY l k f hfk]; exact fun y hy=>(List.mem_append.1 hy).elim (hn y) (fun e=>by rw [List.mem_singleton.1 e]; exact hq))⟩) (by omega)
 ·skip
  have htk:l.take k=l:=by rw [hke,← hL,List.take_length]
  rw [htk] at hn
  refine uQ (t:=decide ((k:Int) < (len:Int))) (decide_eq_false (by omega)) ?_
  refine go0 2 [] [] ?_
  refine yQ ?_
  refine go0 8 [] [] ?_
  refine hQ.to [Vi (-1)] (fun H sH=>?_)
  exact congrArg (Value.int .i64) (eQ _ l hn).symm
def memS (l:List ByteArray) (s:ByteArray):Bool:=l.any fun y=>s.toList == y.toList
theorem memS_iff {l:List ByteArray} {s:ByteArray}:memS l s=true↔s∈l:=by
 unfold memS
 rw [List.any_eq_true]
 constructor
 ·rintro ⟨y,hy,q⟩
  rw [tl_dec] at q
  rw [of_decide_eq_true q]; exact hy
 ·intro hm
  exact ⟨s,hm,tl_yes rfl⟩
theorem contS_any (l:List ByteArray) (v:Value) (s:ByteArray) (h:Vw) (hr:RS h 1 v (lY l)) (hl:l.length≤1000000):C0 Tryz.prog 12 #[v,.string s] h (fun r _=>r=.bool (memS l s)):=by
 have hi:=fun H q=>idxS_any l v s H q hl
 have e:decide (0≤fidx (fun y:ByteArray=>s.toList == y.toList) l)=memS l s:=fidx_dec _ _
 generalize fidx (fun y:ByteArray=>s.toList == y.toList) l=p at *
 obtain ⟨A,cap,rfl,-,-,-⟩:=hr.form
 refine sQ Tryz.func12 (c:=Tryz.f12.body.getD .skip) (N:=9) ?_
 intro hbx hbad Q hQ
 refine go0 15 [.cl 30 #[.slice A ((lY l).length) cap,.string s] (Vi p)] [] ?_ (ho:=(And.intro (fun H sH=>hi _ (hr.sees sH)) (trivial)))
 refine hQ.to [.bool (decide (p ≥ 0))] (fun H sH=>?_)
 exact congrArg Value.bool e
end Go.Proofs.YtmoahpojchndiaaGreatDoor
namespace Go.Proofs.YtmoahpojchndiaaGreatDoor
open Go.RowKit
set_option linter.unusedVariables false
end Go.Proofs.YtmoahpojchndiaaGreatDoor
namespace Go.Proofs.YtmoahpojchndiaaGreatDoor
open Go.RowKit
set_option linter.unusedVariables false
theorem pgRows_get:∀ {l:List Pg} {us vs:List Value} {i:Nat} {p:Pg} {u v:Value},l[i]?=some p→us[i]?=some u→vs[i]?=some v→(aX l us vs)[i]?=some (pgRow p u v)
 | q :: l,u' :: us,v' :: vs,0,p,u,v,h1,h2,h3=>by simp at h1 h2 h3; subst h1 h2 h3; rfl
 | q :: l,u' :: us,v' :: vs,i + 1,p,u,v,h1,h2,h3=>pgRows_get (l:=l) (by simpa using h1) (by simpa using h2) (by simpa using h3)
 | [],_,_,_,_,_,_,h,_,_=>by simp at h
 | _ :: _,[],_,_,_,_,_,_,h,_=>by simp at h
 | _ :: _,_ :: _,[],_,_,_,_,_,_,h=>by simp at h
theorem AllStr.get {h:Vw}:∀ {l:List (List ByteArray)} {us:List Value},AllStr h l us→∀ {i:Nat} {x:List ByteArray} {u:Value},l[i]?=some x→us[i]?=some u→RS h 1 u (lY x)
 | [],_,_,i,x,u,hx,_=>by simp at hx
 | y :: l,_,⟨u',r,e,k1,k2⟩,i,x,u,hx,hu=>by
  subst e
  cases i with
  | zero=>simp at hx hu; subst hx hu; exact k1
  | succ i=>exact AllStr.get k2 (by simpa using hx) (by simpa using hu)
theorem pgs_open {h:Vw} {v:Value} {l:List Pg} (hp:IsPgs h v l):∃ us vs A cap,v=.slice A l.length cap∧cap≤maxLen∧RS h 8 (.slice A l.length cap) (aX l us vs)∧AllStr h (l.map (·.fields)) us∧AllArgs h (l.map (·.skip)) vs∧us.length=l.length∧vs.length=l.length:=by
 obtain ⟨us,vs,hr,hs,ha⟩:=hp
 have hu:=hs.len
 have hv:=ha.len
 rw [List.length_map] at hu hv
 obtain ⟨A,c,e,-,h2,-⟩:=hr.form
 rw [dX hu hv] at e
 rw [e] at hr
 exact ⟨us,vs,A,c,e,h2,hr,hs,ha,hu,hv⟩
theorem pg_at {h:Vw} {l:List Pg} {us vs:List Value} (hs:AllStr h (l.map (·.fields)) us) (ha:AllArgs h (l.map (·.skip)) vs) {i:Nat} {p:Pg} (hp:l[i]?=some p) :
  ∃ A c B m d,(aX l us vs)[i]?=some (pgRow p (.slice A p.fields.length c) (.slice B m d))∧RS h 1 (.slice A p.fields.length c) (lY p.fields)∧IsArgs h p.skip (.slice B m d):=by
 have hu:=hs.len
 have hv:=ha.len
 rw [List.length_map] at hu hv
 have hil:=(List.getElem?_eq_some_iff.1 hp).1
 obtain ⟨u,hui⟩:∃ u,us[i]?=some u:=⟨_,List.getElem?_eq_getElem (by omega)⟩
 obtain ⟨v,hvi⟩:∃ v,vs[i]?=some v:=⟨_,List.getElem?_eq_getElem (by omega)⟩
 have h1:=AllStr.get hs (x:=p.fields) (by rw [List.getElem?_map,hp]; rfl) hui
 have h2:=AllArgs.get ha (x:=p.skip) (by rw [List.getElem?_map,hp]; rfl) hvi
 obtain ⟨A,c,e,-⟩:=h1.form
 rw [List.length_map] at e
 obtain ⟨B,m,d,rfl⟩:=h2.slice
 subst e
 exact ⟨A,c,B,m,d,pgRows_get hp hui hvi,h1,h2⟩
def findG (l:List Pg) (s:ByteArray):Int:=fidx (fun p:Pg=>p.name.toList == s.toList) l
theorem gfind1_any (p:Pg) (u:Value) (A:Option Addr) (n c:Nat) (B:Option Addr) (m d:Nat) (s:ByteArray) (b:Nat) (h:Vw) (hc:Cells h b 0 [.string s]) :
  C0 Tryz.prog 136 #[.agg #[.string p.name,.slice A n c,.int .i64 p.skip.op,.int .i64 p.skip.k,.int .i64 p.skip.n,.string p.skip.s,.string p.skip.nm,.slice B m d],.pointer (some ⟨b,0,none⟩)] h (fun r _=>r=.bool (p.name.toList == s.toList)):=by
 refine sQ Tryz.func136 (c:=Tryz.f136.body.getD .skip) (N:=8) ?_
 intro hbx hbad Q hQ
 refine tQ (hc.sees (Sees.refl _)) ?_
 refine go1 16 [.own,.b 0 0,.f 0 0] [] ?_
 intro b1
 refine hQ.to [.bool (p.name.toList == s.toList)] (fun H sH=>?_)
 exact rfl
theorem gidxF_any (s:ByteArray) (l:List Pg) (us vs:List Value) (A:Option Addr) (cap:Nat) (b:Nat) (h:Vw) (hr:RS h 8 (.slice A l.length cap) (aX l us vs)) (hs:AllStr h (l.map (·.fields)) us) (ha:AllArgs h (l.map (·.skip)) vs) (hl:l.length≤1000000) (hc:Cells h b 0 [.string s]) (hfl:∀ p∈l,p.fields.length≤1000000) :
  C0 Tryz.prog 135 #[.slice A l.length cap,.func (.func 136) #[] #[.pointer (some ⟨b,0,none⟩)]] h (fun r _=>r=.int .i64 (findG l s)):=by
 have hat:=fun i p hp=>pg_at (i:=i) (p:=p) hs ha hp
 generalize hL:l.length=len at *
 refine sQ Tryz.func135 (c:=Tryz.f135.body.getD .skip) (N:=19) ?_
 intro hbx hbad Q hQ
 refine go0 14 [] [] ?_
 refine zQ [0,1,0,1] [.block 0,.seq [1,1]] (fun (k:Nat) X=>∃ (W1:Vw) ,X W1 [(0,.slice A len cap),(1,.func (.func 136) #[] #[Vp b]),(7,Vi (len:Int)),(8,Vi (k:Int))] [] []∧Sees h W1∧(k≤len)∧(∀ y∈l.take k,(y.name.toList == s.toList)=false)) (fun k=>len - k) (0) (fun X q=>⟨h,q _ _ _ _ ⟨rfl,by kernel_rfl⟩,Sees.refl _,Nat.zero_le _,fun y hy=>by simp at hy⟩) ?_
 rintro k a w ⟨W1,hJ,S2,hk,hn⟩; refine eV hJ ?_; clear hJ a w
 refine go0 6 [] [] ?_
 rcases (by omega:k < len∨k=len) with hlt | hke
 ·obtain ⟨p,hpk⟩:∃ p,l[k]?=some p:=⟨_,List.getElem?_eq_getElem (by omega)⟩
  obtain ⟨Au,cu,Bu,mu,du,hrow,hrs,-⟩:=hat k p hpk
  have hpl:=hfl p (List.mem_of_getElem? hpk)
  refine kV (t:=decide ((k:Int) < (len:Int))) (decide_eq_true (by omega)) ?_
  refine go0 15 [] [] ?_
  obtain ⟨b3,o4,rfl,-,c5⟩:=RS.row hr (hrow)
  refine tQ (c5.sees S2) ?_
  refine go0 5 [.ix b3 o4 len cap k,.f 0 0,.cl 136 #[.agg #[.string p.name,.slice Au p.fields.length cu,Vi p.skip.op,Vi p.skip.k,Vi p.skip.n,.string p.skip.s,.string p.skip.nm,.slice Bu mu du],Vp b] (.bool (p.name.toList == s.toList))] [] ?_ (ho:=(And.intro (by first | omega | (simp; omega)) (And.intro (fun H sH=>gfind1_any p (Vz) _ _ _ _ _ _ s b _ (hc.sees (S2.trans sH))) (trivial))))
  cases boolIs (p.name.toList == s.toList) with
  | true hq =>
   refine kV (t:=p.name.toList == s.toList) (hq) ?_
   refine go0 9 [] [] ?_
   refine yQ ?_
   refine go0 2 [] [] ?_
   refine hQ.to [Vi (k:Int)] (fun H sH=>?_)
   exact congrArg (Value.int .i64) (dQ _ l k p hn hpk hq).symm
  | false hq =>
   refine uQ (t:=p.name.toList == s.toList) (hq) ?_
   refine go0 7 [] [(18,Vi (IntKind.i64.wrap ((k:Int) + 1)),Vi ((k:Int) + 1))] ?_ (hc:=(And.intro (jJ (by omega) (by omega)) (trivial)))
   exact jV (k + 1) (fun X q=>⟨W1,q _ _ _ _ ⟨rfl,by kernel_rfl⟩,S2,by omega,(by rw [nY l k p hpk]; exact fun y hy=>(List.mem_append.1 hy).elim (hn y) (fun e=>by rw [List.mem_singleton.1 e]; exact hq))⟩) (by omega)
 ·skip
  have htk:l.take k=l:=by rw [hke,← hL,List.take_length]
  rw [htk] at hn
  refine uQ (t:=decide ((k:Int) < (len:Int))) (decide_eq_false (by omega)) ?_
  refine go0 2 [] [] ?_
  refine yQ ?_
  refine go0 8 [] [] ?_
  refine hQ.to [Vi (-1)] (fun H sH=>?_)
  exact congrArg (Value.int .i64) (eQ _ l hn).symm
theorem gFind_any (l:List Pg) (v:Value) (s:ByteArray) (h:Vw) (hp:IsPgs h v l) (hl:l.length≤1000000) (hfl:∀ p∈l,p.fields.length≤1000000):C0 Tryz.prog 97 #[v,.string s] h (fun r _=>r=.tuple #[.int .i64 (if findG l s < 0 then 0 else findG l s),.int .i64 (if findG l s < 0 then 5 else 0)]):=by
 obtain ⟨us,vs,A,cap,rfl,-,hr,hs,ha,-,-⟩:=pgs_open hp
 have hi:=fun H b q1 q2 q3 q4=>gidxF_any s l us vs A cap b H q1 q2 q3 hl q4 hfl
 generalize findG l s=p at *
 refine sQ Tryz.func97 (c:=Tryz.f97.body.getD .skip) (N:=13) ?_
 intro hbx hbad Q hQ
 refine pV 11 [.fix] [] ?_
 intro bsn W1 S2
 refine rQ 0 bsn 0 [.string s] fun sn=>?_
 refine go0 11 [.cl 135 #[.slice A l.length cap,.func (.func 136) #[] #[Vp bsn]] (Vi p)] [] ?_ (ho:=(And.intro (fun H sH=>hi _ _ (hr.sees (S2.trans sH)) (hs.sees (S2.trans sH)) (ha.sees (S2.trans sH)) (sn.sees sH)) (trivial)))
 by_cases hp:p < 0
 ·refine kV (t:=decide (p < 0)) (decide_eq_true hp) ?_
  refine go0 8 [] [] ?_
  refine hQ.to [Vi 0,Vi 5] (fun H sH=>?_)
  rw [if_pos hp,if_pos hp]; rfl
 ·skip
  refine uQ (t:=decide (p < 0)) (decide_eq_false hp) ?_
  refine go0 10 [] [] ?_
  refine hQ.to [Vi p,Vi 0] (fun H sH=>?_)
  rw [if_neg hp,if_neg hp]; rfl
theorem never_yes (nm:ByteArray) (A:Option Addr) (n c:Nat) (B:Option Addr) (d:Nat) (h:Vw):C0 Tryz.prog 48 #[.agg #[.string nm,.slice A n c,.int .i64 0,.int .i64 0,.int .i64 0,.string ⟨#[]⟩,.string ⟨#[]⟩,.slice B 0 d]] h (fun r _=>r=.bool true):=by
 refine sQ Tryz.func48 (c:=Tryz.f48.body.getD .skip) (N:=26) ?_
 intro hbx hbad Q hQ
 refine go2 28 [.own,.b 0 2,.own,.b 0 0,.b 0 0,.b 0 4,.b 0 1] [] ?_
 intro b1 b2
 refine fV (.bool true) (fun w=>run_eqop (x:=(.tmp 16)) (y:=(.tmp 17)) (v:=(⟨0,0,⟨#[]⟩⟩:Vl)) (w:=(⟨0,0,⟨#[]⟩⟩:Vl)) (by kernel_rfl) (by kernel_rfl) (by kernel_rfl) (eqB_iff.2 rfl)) ?_
 refine go0 11 [.b 0 5] [] ?_
 refine hQ.to [.bool true] (fun H sH=>?_)
 exact rfl
theorem never_no (nm:ByteArray) (x:Ex) (A:Option Addr) (n c:Nat) (B:Option Addr) (m d:Nat) (h:Vw) (hx:x.op≠0):C0 Tryz.prog 48 #[.agg #[.string nm,.slice A n c,.int .i64 x.op,.int .i64 x.k,.int .i64 x.n,.string x.s,.string x.nm,.slice B m d]] h (fun r _=>r=.bool false):=by
 refine sQ Tryz.func48 (c:=Tryz.f48.body.getD .skip) (N:=26) ?_
 intro hbx hbad Q hQ
 refine go2 40 [.own,.b 0 2,.own,.b 0 0,.b 0 0] [(8,.bool (x.op == 0),.bool false)] ?_ (hc:=(And.intro (congrArg Value.bool (beq_eq_false_iff_ne.2 hx)) (trivial)))
 intro b1 b2
 refine hQ.to [.bool false] (fun H sH=>?_)
 exact rfl
end Go.Proofs.YtmoahpojchndiaaGreatDoor
namespace Go.Proofs.YtmoahpojchndiaaGreatDoor
open Go.RowKit
set_option linter.unusedVariables false
theorem pgRows_take:∀ (k:Nat) {l:List Pg} {us vs:List Value},us.length=l.length→vs.length=l.length→(aX l us vs).take k=aX (l.take k) (us.take k) (vs.take k)
 | 0,l,us,vs,_,_=>by simp [aX]
 | k + 1,[],[],[],_,_=>rfl
 | k + 1,p :: l,u :: us,v :: vs,h1,h2=>by
  show (pgRow p u v :: aX l us vs).take (k + 1)=pgRow p u v :: aX (l.take k) (us.take k) (vs.take k)
  rw [List.take_succ_cons,pgRows_take k (by simpa using h1) (by simpa using h2)]
theorem AllStr.take {h:Vw}:∀ (k:Nat) {l:List (List ByteArray)} {us:List Value},AllStr h l us→AllStr h (l.take k) (us.take k)
 | 0,_,_,_=>rfl
 | k + 1,[],_,e=>by cases e; rfl
 | k + 1,x :: l,_,⟨u,r,e,k1,k2⟩=>by subst e; exact ⟨u,r.take k,rfl,k1,AllStr.take k k2⟩
theorem pgs_take {h:Vw} {A:Option Addr} {cap:Nat} {l:List Pg} (hp:IsPgs h (.slice A l.length cap) l) (k:Nat) (hk:k≤l.length):IsPgs h (.slice A k cap) (l.take k):=by
 obtain ⟨us,vs,hr,hs,ha⟩:=hp
 have hu:=hs.len
 have hv:=ha.len
 rw [List.length_map] at hu hv
 refine ⟨us.take k,vs.take k,?_,?_,?_⟩
 ·have:=hr.take k (by rw [dX hu hv]; omega)
  rwa [pgRows_take k hu hv] at this
 ·rw [List.map_take]; exact AllStr.take k hs
 ·rw [List.map_take]; exact AllArgs.take' k ha
structure OkGs (fs:List Fd) (l:List Pg):Prop where
 one:1≤l.length
 few:l.length≤6
 name:∀ p∈l,rJ p.name.data.toList
 nodup:(l.map (·.name)).Nodup
 fl:∀ p∈l,p.fields.length≤100
 here:∀ p∈l,∀ s∈p.fields,0≤fQ fs s
 once:(l.flatMap (·.fields)).Nodup
 skip:∀ p∈l,p.skip=zE∨(p.skip.op≠0∧WfE p.skip∧(szE p.skip).1 < 1000000∧fitsE fs p.skip 2=0)
set_option maxHeartbeats 8000000 in
theorem pgCheck_any (fs:List Fd) (fv:Value) (l:List Pg) (v:Value) (h:Vw) (hok:OkGs fs l) (hp:IsPgs h v l) (hfs:IsFds h fv fs) (hfl:fs.length≤1000):C0 Tryz.prog 68 #[v,fv] h (fun r _=>r=.int .i64 0):=by
 obtain ⟨us,vs,A,cap,rfl,hcap,hr,hs,ha,hul,hvl⟩:=pgs_open hp
 have hlc:l.length≤cap:=by
  obtain ⟨A',c',e',h1,-,-⟩:=hr.form
  rw [dX hul hvl] at h1
  simp only [Value.slice.injEq] at e'
  omega
 obtain ⟨-,Af,cf,rfl,-,-,-,-,-,-⟩:=cQ hfs
 have one:=hok.one
 have few:=hok.few
 have hat:=fun i p hp=>pg_at (i:=i) (p:=p) hs ha hp
 have htk:=fun k hk=>pgs_take (h:=h) (A:=A) (cap:=cap) (l:=l) hp k hk
 have hFi:=fun H s q=>findP_any fs (.slice Af fs.length cf) s H q (by omega)
 have hGf:=fun k H s q=>gFind_any (l.take k) (.slice A k cap) s H q (by rw [List.length_take]; omega) (fun p hp=>by have:=hok.fl p (List.mem_of_mem_take hp); omega)
 generalize hL:l.length=len at *
 generalize hM:fs.length=fl at *
 refine sQ Tryz.func68 (c:=Tryz.f68.body.getD .skip) (N:=82) ?_
 intro hbx hbad Q hQ
 refine go0 35 [] [(18,.bool (decide ((len:Int) < 1)),.bool false),(22,.bool (decide ((len:Int) > 6)),.bool false)] ?_ (hc:=(And.intro (congrArg Value.bool (decide_eq_false (by omega))) (And.intro (congrArg Value.bool (decide_eq_false (by omega))) (trivial))))
 refine dV 9 1 ?_
 refine zQ [0,1,0,1,1,1] [.block 0,.seq [1,1,1,1]] (fun (k:Nat) X=>∃ (W1:Vw) (mv:Value),X W1 [(0,.slice A len cap),(1,.slice Af fl cf),(24,.slice A len cap),(25,Vi (len:Int)),(26,Vi (k:Int)),(5,mv)] [.row mv 9 1 (lY ((l.take k).flatMap (·.fields)))] []∧Sees h W1∧(k≤len)) (fun k=>len - k) (0) (fun X q=>⟨h,(Vz),q _ _ _ _ ⟨rfl,by kernel_rfl⟩,Sees.refl _,Nat.zero_le _⟩) ?_
 rintro k a w ⟨W1,mv,hJ,S2,hk⟩; refine eV hJ ?_; clear hJ a w
 refine go0 6 [] [] ?_
 rcases (by omega:k < len∨k=len) with hlt | hke
 ·obtain ⟨p,hpk⟩:∃ p,l[k]?=some p:=⟨_,List.getElem?_eq_getElem (by omega)⟩
  have hpm:=List.mem_of_getElem? hpk
  obtain ⟨Au,cu,Bu,mu,du,hrow,hrs,hxa⟩:=hat k p hpk
  have hnm:=hok.name p hpm
  have htp:=htk k hk
  have hno:findG (l.take k) p.name = -1:=eQ _ _ fun y hy=>tl_no fun e=>by
   obtain ⟨j,hj⟩:=List.mem_iff_getElem?.1 hy
   rw [List.getElem?_take] at hj
   split at hj
   ·rename_i hjk
    have h1:(l.map (fun p:Pg=>p.name))[j]?=some p.name:=by rw [List.getElem?_map,hj]; simp [e]
    have h2:(l.map (fun p:Pg=>p.name))[k]?=some p.name:=by rw [List.getElem?_map,hpk]; rfl
    have:=(List.getElem?_inj (by rw [List.length_map]; omega) hok.nodup).1 (h1.trans h2.symm)
    omega
   ·cases hj
  have hGk:=fun H q=>hGf k H p.name q
  rw [hno] at hGk
  have hfk:=hok.fl p hpm
  have hhere:=hok.here p hpm
  have hsn:(l.take (k + 1)).flatMap (fun p:Pg=>p.fields)=(l.take k).flatMap (fun p:Pg=>p.fields)++p.fields:=by rw [nY l k p hpk,List.flatMap_append]; simp
  have hone:((l.take k).flatMap (fun p:Pg=>p.fields)++p.fields).Nodup:=by
   rw [← hsn]
   have ho:=hok.once
   have e:l.flatMap (fun p:Pg=>p.fields)=(l.take (k + 1)).flatMap (fun p:Pg=>p.fields)++(l.drop (k + 1)).flatMap (fun p:Pg=>p.fields):=by rw [← List.flatMap_append,List.take_append_drop]
   rw [e] at ho
   exact (List.nodup_append.1 ho).1
  have hdl:((l.take k).flatMap (fun p:Pg=>p.fields)).length≤600:=by
   have key:∀ m:List Pg,(∀ p∈m,p.fields.length≤100)→(m.flatMap (fun p:Pg=>p.fields)).length≤100 * m.length:=by
    intro m
    induction m with
    | nil=>intro _; simp
    | cons q m ih =>
     intro hm
     have h1:=hm q (by simp)
     have h2:=ih fun z hz=>hm z (by simp [hz])
     rw [List.flatMap_cons,List.length_append,List.length_cons]
     omega
   have:=key (l.take k) fun q hq=>hok.fl q (List.mem_of_mem_take hq)
   rw [List.length_take] at this
   omega
  have hskip:=hok.skip p hpm
  generalize (l.take k).flatMap (fun p:Pg=>p.fields)=dn at *
  refine kV (t:=decide ((k:Int) < (len:Int))) (decide_eq_true (by omega)) ?_
  refine go0 7 [] [] ?_
  obtain ⟨b3,o4,rfl,-,c5⟩:=RS.row hr (hrow)
  refine tQ (c5.sees S2) ?_
  refine go1 27 [.ix b3 o4 len cap k,.f 0 0,.own,.b 0 0,.b 0 0,.cl 96 #[.string p.name] (Vi 0)] [] ?_ (ho:=(And.intro (by first | omega | (simp; omega)) (And.intro (fun H sH=>c_name _ _ hnm) (trivial))))
  intro b6
  refine gV 11 0 [.pu,.pu,.v (fun gh=>.slice (some ⟨b3,o4,none⟩) k cap),.pu,.ld 0 0,.v (fun gh=>.tuple #[Vi 0,Vi 5]),.pu,.pu,.pu,.pu,.pu] [] (trivial) ?_ ?_
  ·intro R hT hA hmono
   refine And.intro (t_p hT hA (fun gh=>.slice (some ⟨b3,o4,none⟩) k cap) (fun gh w=>run_hi (t:=24) (e:=48) (x:=(.tmp 38)) (y:=(.tmp 39)) (A:=(some ⟨b3,o4,none⟩)) (n:=len) (cap:=cap) (k:=k) (kk:=8) (by kernel_rfl) (by kernel_rfl) (by kernel_rfl) (by omega) Tryz.underlying24 (by kernel_rfl))) ?_
   refine And.intro (t_v hT hA hmono (k:=97) (args:=(fun gh=>#[.slice (some ⟨b3,o4,none⟩) k cap,.string p.name])) (f:=fun gh=>.tuple #[Vi 0,Vi 5]) (fun gh H sH fH lent=>hGk _ (htp.sees (S2.trans sH)))) ?_
   trivial
  rintro W7 S8 -
  refine go0 20 [.b 0 1] [] ?_
  have hd0:lY dn=lY (dn++p.fields.take 0):=by simp
  rw [hd0]
  refine zQ [0,1,0,1,1,1,0,0,1,1,0,0,1,0,1,1,1] [.block 2,.seq [1,1,1,1,0,0,1,1,0,0,1,0,1,1,1],.block 1,.seq [1,1,1,0,0,1,0,1,1,1]] (fun (j:Nat) X=>∃ (W9:Vw) (nv:Value),X W9 [(0,.slice (some ⟨b3,o4,none⟩) len cap),(1,.slice Af fl cf),(24,.slice (some ⟨b3,o4,none⟩) len cap),(25,Vi (len:Int)),(26,Vi (k:Int)),(7,Vp b6),(49,.slice Au p.fields.length cu),(50,Vi (p.fields.length:Int)),(51,Vi (j:Int)),(5,nv)] [.box b6 [.string p.name,.slice Au p.fields.length cu,Vi p.skip.op,Vi p.skip.k,Vi p.skip.n,.string p.skip.s,.string p.skip.nm,.slice Bu mu du],.row nv 9 1 (lY (dn++p.fields.take j))] [(b3,o4 + k * 8,[.string p.name,.slice Au p.fields.length cu,Vi p.skip.op,Vi p.skip.k,Vi p.skip.n,.string p.skip.s,.string p.skip.nm,.slice Bu mu du])]∧Sees W7 W9∧(j≤p.fields.length)) (fun j=>p.fields.length - j) (0) (fun X q=>⟨W7,mv,q _ _ _ _ ⟨rfl,by kernel_rfl⟩,Sees.refl _,Nat.zero_le _⟩) ?_
  rintro j a w ⟨W9,nv,hJ,S10,hj⟩; refine eV hJ ?_; clear hJ a w
  refine go0 6 [] [] ?_
  rcases (by omega:j < p.fields.length∨j=p.fields.length) with hjl | hje
  ·obtain ⟨s,hsj⟩:∃ s,p.fields[j]?=some s:=⟨_,List.getElem?_eq_getElem hjl⟩
   have hsr:=str_row hsj
   have hse:fQ fs s=((plc fs s:Nat):Int):=by have:=hhere s (List.mem_of_getElem? hsj); unfold plc; omega
   have hFs:=fun H q=>hFi H s q
   rw [if_neg (by omega)] at hFs
   have hjn:=nY _ j s hsj
   have hnin:memS (dn++p.fields.take j) s=false:=by
    rw [Bool.eq_false_iff]
    intro q
    have q:=memS_iff.1 q
    rcases List.mem_append.1 q with q | q
    ·exact (List.nodup_append.1 hone).2.2 s q s (List.mem_of_getElem? hsj) rfl
    ·have hd:=(List.nodup_append.1 hone).2.1
     obtain ⟨i,hi⟩:=List.mem_iff_getElem?.1 q
     rw [List.getElem?_take] at hi
     split at hi
     ·have:=(List.getElem?_inj (by omega) hd).1 (hi.trans hsj.symm); omega
     ·cases hi
   have hco:=fun H u q=>contS_any (dn++p.fields.take j) u s H q (by rw [List.length_append,List.length_take]; omega)
   rw [hnin] at hco
   refine kV (t:=decide ((j:Int) < (p.fields.length:Int))) (decide_eq_true (by omega)) ?_
   refine go0 6 [] [] ?_
   obtain ⟨b11,o12,rfl,-,c13⟩:=RS.row hrs (hsr)
   refine tQ (c13.sees (S2.trans (S8.trans S10))) ?_
   refine go0 32 [.ix b11 o12 p.fields.length cu j,.f 0 0,.cl 20 #[.slice Af fl cf,.string s] (.tuple #[Vi ((plc fs s:Nat):Int),Vi 0])] [] ?_ (ho:=(And.intro (by first | omega | (simp; omega)) (And.intro (fun H sH=>hFs _ (hfs.sees (S2.trans (S8.trans (S10.trans sH))))) (trivial))))
   refine g_callq (fun a w hJ=>hco _ _ (hJ.j.rowQ (v:=nv) (e:=9) (k:=1) (l:=lY (dn++p.fields.take j)) 1 (by kernel_rfl))) ?_; intro W14 S15
   refine pV 9 [.fix] [] ?_
   intro b16 W17 S18
   refine goa0 9 [.ap 1 0 (lY (dn++p.fields.take j)) [[.string s]]] [(71,Vi (IntKind.i64.wrap ((j:Int) + 1)),Vi ((j:Int) + 1))] ?_ (ho:=(And.intro (by constructor <;> (simp; omega)) (trivial))) (hc:=(And.intro (jJ (by omega) (by omega)) (trivial)))
   intro v70 W19 S20
   refine xQ [(0,.slice (some ⟨b3,o4,none⟩) len cap),(1,.slice Af fl cf),(24,.slice (some ⟨b3,o4,none⟩) len cap),(25,Vi (len:Int)),(26,Vi (k:Int)),(7,Vp b6),(49,.slice (some ⟨b11,o12,none⟩) p.fields.length cu),(50,Vi (p.fields.length:Int)),(5,.slice (sA v70) (sN v70) (sC v70)),(51,Vi ((j:Int) + 1))] [.box b6 [.string p.name,.slice (some ⟨b11,o12,none⟩) p.fields.length cu,Vi p.skip.op,Vi p.skip.k,Vi p.skip.n,.string p.skip.s,.string p.skip.nm,.slice Bu mu du],.row (.slice (sA v70) (sN v70) (sC v70)) 9 1 ((lY (dn++p.fields.take j))++[[.string s]])] [(b3,o4 + k * 8,[.string p.name,.slice (some ⟨b11,o12,none⟩) p.fields.length cu,Vi p.skip.op,Vi p.skip.k,Vi p.skip.n,.string p.skip.s,.string p.skip.nm,.slice Bu mu du])] ?_
   exact jV (j + 1) (fun X q=>⟨W19,.slice (sA v70) (sN v70) (sC v70),q _ _ _ _ (fY (by rw [hjn,← List.append_assoc]; simp [lY])),(S10.trans (S15.trans (S18.trans S20))),by omega⟩) (by omega)
  ·skip
   have hta:dn++p.fields.take j=dn++p.fields:=by rw [hje,List.take_length]
   rw [hta]
   rcases hskip with hz | ⟨z1,z2,z3,z4⟩
   ·obtain ⟨Bz,dz,ez⟩:=args_zero (by rw [hz]; rfl) hxa
    obtain rfl:mu=0:=by simp only [Value.slice.injEq] at ez; exact ez.2.1
    have hnv:=fun H=>never_yes p.name Au p.fields.length cu Bu du H
    refine uQ (t:=decide ((j:Int) < (p.fields.length:Int))) (decide_eq_false (by omega)) ?_
    refine go0 2 [] [] ?_
    refine yQ ?_
    refine go0 18 [.b 0 0,.cl 48 #[.agg #[.string p.name,.slice Au p.fields.length cu,Vi p.skip.op,Vi p.skip.k,Vi p.skip.n,.string p.skip.s,.string p.skip.nm,.slice Bu 0 du]] (.bool true)] [(81,Vi (IntKind.i64.wrap ((k:Int) + 1)),Vi ((k:Int) + 1))] ?_ (ho:=(And.intro (fun H sH=>by rw [hz]; exact hnv _) (trivial))) (hc:=(And.intro (jJ (by omega) (by omega)) (trivial)))
    refine xQ [(0,.slice (some ⟨b3,o4,none⟩) len cap),(1,.slice Af fl cf),(24,.slice (some ⟨b3,o4,none⟩) len cap),(25,Vi (len:Int)),(5,nv),(26,Vi ((k:Int) + 1))] [.row nv 9 1 (lY (dn++p.fields))] [] ?_
    exact jV (k + 1) (fun X q=>⟨W9,nv,q _ _ _ _ (fY (by rw [hsn]; try rfl)),(S2.trans (S8.trans S10)),by omega⟩) (by omega)
   ·skip
    have hnv:=fun H=>never_no p.name p.skip Au p.fields.length cu Bu mu du H z1
    have hft:=fun H q1 q2=>fits_any fs p.skip (.slice Bu mu du) (.slice Af fl cf) 2 H q1 z2 z3 q2
    rw [z4] at hft
    refine uQ (t:=decide ((j:Int) < (p.fields.length:Int))) (decide_eq_false (by omega)) ?_
    refine go0 2 [] [] ?_
    refine yQ ?_
    refine go0 35 [.b 0 0,.cl 48 #[.agg #[.string p.name,.slice Au p.fields.length cu,Vi p.skip.op,Vi p.skip.k,Vi p.skip.n,.string p.skip.s,.string p.skip.nm,.slice Bu mu du]] (.bool false),.b 0 2,.cl 98 #[.agg #[Vi p.skip.op,Vi p.skip.k,Vi p.skip.n,.string p.skip.s,.string p.skip.nm,.slice Bu mu du],.slice Af fl cf,Vi 2] (Vi 0)] [(81,Vi (IntKind.i64.wrap ((k:Int) + 1)),Vi ((k:Int) + 1))] ?_ (ho:=(And.intro (fun H sH=>hnv _) (And.intro (fun H sH=>hft _ (hxa.sees (S2.trans (S8.trans (S10.trans sH)))) (hfs.sees (S2.trans (S8.trans (S10.trans sH))))) (trivial)))) (hc:=(And.intro (jJ (by omega) (by omega)) (trivial)))
    refine xQ [(0,.slice (some ⟨b3,o4,none⟩) len cap),(1,.slice Af fl cf),(24,.slice (some ⟨b3,o4,none⟩) len cap),(25,Vi (len:Int)),(5,nv),(26,Vi ((k:Int) + 1))] [.row nv 9 1 (lY (dn++p.fields))] [] ?_
    exact jV (k + 1) (fun X q=>⟨W9,nv,q _ _ _ _ (fY (by rw [hsn]; try rfl)),(S2.trans (S8.trans S10)),by omega⟩) (by omega)
 ·skip
  refine uQ (t:=decide ((k:Int) < (len:Int))) (decide_eq_false (by omega)) ?_
  refine go0 2 [] [] ?_
  refine yQ ?_
  refine go0 8 [] [] ?_
  refine hQ.to [Vi 0] (fun H sH=>?_)
  exact rfl
end Go.Proofs.YtmoahpojchndiaaGreatDoor
namespace Go.Proofs.YtmoahpojchndiaaGreatDoor
open Go.RowKit
set_option linter.unusedVariables false
structure OkFm (f:Fm) (ρ:List Int) (lv:Nat→Nat):Prop where
 fields:OkFs f.fields
 pages:OkGs f.fields f.pages
 rank:Ranked (lW f.fields) ρ lv
theorem shCheck_any (f:Fm) (ρ:List Int) (lv:Nat→Nat) (A:Option Addr) (n c:Nat) (B:Option Addr) (m d:Nat) (h:Vw) (hok:OkFm f ρ lv) (hf:IsForm h (.slice A n c) (.slice B m d) f) (hn:n=f.fields.length) :
  C0 Tryz.prog 46 #[.agg #[.slice A n c,.slice B m d]] h (fun r _=>r=.int .i64 0):=by
 have hR:=fun H q=>rankOf_any f.fields (.slice A n c) H hok.fields q ρ lv hok.rank
 have few:=hok.fields.few
 have hP:=fun H q1 q2=>pgCheck_any f.fields (.slice A n c) f.pages (.slice B m d) H hok.pages q1 q2 (by omega)
 rw [← hn] at hR
 refine sQ Tryz.func46 (c:=Tryz.f46.body.getD .skip) (N:=21) ?_
 intro hbx hbad Q hQ
 refine go1 11 [.own,.b 0 0] [] ?_
 intro b1
 refine pQ (fun H sH=>hR _ ((hf.sees sH)).fields) ?_; rintro _ W2 S3 ⟨b,rfl,hro⟩
 refine go0 24 [.b 0 1,.b 0 0] [] ?_
 refine go0 5 [.cl 68 #[.slice B m d,.slice A n c] (Vi 0)] [] ?_ (ho:=(And.intro (fun H sH=>hP _ ((hf.sees (S3.trans sH))).pages ((hf.sees (S3.trans sH))).fields) (trivial)))
 refine hQ.to [Vi 0] (fun H sH=>?_)
 exact rfl
end Go.Proofs.YtmoahpojchndiaaGreatDoor
namespace Go.Proofs.YtmoahpojchndiaaGreatDoor
open Go.RowKit
set_option linter.unusedVariables false
theorem known_no (v:Vl) (h:Vw) (hk:¬ v.k≤3) (h1:1≤v.k):C0 Tryz.prog 21 #[v.val] h (fun r _=>r=.bool false):=by
 refine sQ Tryz.func21 (c:=Tryz.f21.body.getD .skip) (N:=16) ?_
 intro hbx hbad Q hQ
 refine go1 25 [.own,.b 0 0,.b 0 0] [(5,.bool (decide (v.k ≥ 1)),.bool true),(9,.bool (decide (v.k≤3)),.bool false)] ?_ (hc:=(And.intro (congrArg Value.bool (decide_eq_true h1)) (And.intro (congrArg Value.bool (decide_eq_false hk)) (trivial))))
 intro b1
 refine hQ.to [.bool false] (fun H sH=>?_)
 exact rfl
theorem chk_deep {x:Ex} (h:chkE x=0):(szE x).2≤12:=by
 unfold chkE at h
 split at h
 ·cases h
 ·split at h
  ·cases h
  ·omega
theorem asked_no (l:List Aw) (A:Option Addr) (n c:Nat) (s:ByteArray) (key:Vl) (h:Vw) (h4:¬ key.k≤3) (h1:1≤key.k):C0 Tryz.prog 67 #[.slice A n c,.string s,.agg #[.int .i64 key.k,.int .i64 key.n,.string key.s]] h (fun r _=>r=(askV l s key).val):=by
 have e:askV l s key=key:=by unfold askV; rw [if_neg h4]
 rw [e]
 have hk:=fun H=>known_no key H h4 h1
 refine sQ Tryz.func67 (c:=Tryz.f67.body.getD .skip) (N:=33) ?_
 intro hbx hbad Q hQ
 refine go2 23 [.own,.own,.b 1 0,.cl 21 #[.agg #[Vi key.k,Vi key.n,.string key.s]] (.bool false),.b 1 0,.b 0 0] [] ?_ (ho:=(And.intro (fun H sH=>hk _) (trivial)))
 intro b1 b2
 refine hQ.to [.agg #[Vi key.k,Vi key.n,.string key.s]] (fun H sH=>?_) (ix:=[0])
 exact rfl
theorem asked_yes (l:List Aw) (sl:Value) (s:ByteArray) (key:Vl) (h:Vw) (hr:RS h 7 sl (tJ l)) (hl:l.length≤1000000) (hk:key.known):C0 Tryz.prog 67 #[sl,.string s,.agg #[.int .i64 key.k,.int .i64 key.n,.string key.s]] h (fun r _=>r=(askV l s key).val):=by
 have e:askV l s key=askL s key l:=by unfold askV; rw [if_pos (known_kind hk).2]
 rw [e]
 have hkn:=c_kn key.k key.n key.s
 obtain ⟨A,c,rfl,-,-,-⟩:=hr.form
 rw [List.length_map] at *
 generalize hL:l.length=n at *
 refine sQ Tryz.func67 (c:=Tryz.f67.body.getD .skip) (N:=33) ?_
 intro hbx hbad Q hQ
 refine go2 26 [.own,.own,.b 1 0,.cl 21 #[.agg #[Vi key.k,Vi key.n,.string key.s]] (.bool true)] [] ?_ (ho:=(And.intro (fun H sH=>hkn _ hk) (trivial)))
 intro b1 b2
 refine zQ [0,1,0,1,1] [.block 0,.seq [1,1,1]] (fun (k:Nat) X=>∃ (W3:Vw) ,X W3 [(1,.string s),(5,Vp b1),(6,Vp b2),(13,.slice A n c),(14,Vi (n:Int)),(15,Vi (k:Int))] [.box b2 [Vi 0,Vi 0,Ve],.box b1 [Vi key.k,Vi key.n,.string key.s]] []∧Sees h W3∧(k≤n)∧(askL s key (l.drop k)=askL s key l)) (fun k=>n - k) (0) (fun X q=>⟨h,q _ _ _ _ ⟨rfl,by kernel_rfl⟩,Sees.refl _,Nat.zero_le _,rfl⟩) ?_
 rintro k a w ⟨W3,hJ,S4,hkl,hv⟩; refine eV hJ ?_; clear hJ a w
 refine go0 6 [] [] ?_
 rcases (by omega:k < n∨k=n) with hlt | hke
 ·obtain ⟨p,hp⟩:∃ p,l[k]?=some p:=⟨_,List.getElem?_eq_getElem (by omega)⟩
  have hrow:(tJ l)[k]?=some (anRow p):=by rw [List.getElem?_map,hp]; rfl
  have hdr:l.drop k=p :: l.drop (k + 1):=by
   obtain ⟨h1,h2⟩:=List.getElem?_eq_some_iff.1 hp
   rw [List.drop_eq_getElem_cons h1,h2]
  rw [hdr,askL] at hv
  refine kV (t:=decide ((k:Int) < (n:Int))) (decide_eq_true (by omega)) ?_
  refine go0 6 [] [] ?_
  obtain ⟨b5,o6,rfl,-,c7⟩:=RS.row hr (hrow)
  refine tQ (c7.sees S4) ?_
  refine go1 13 [.ix b5 o6 n c k,.f 0 0,.own,.b 0 0,.b 0 0] [] ?_ (ho:=(And.intro (by first | omega | (simp; omega)) (trivial)))
  intro b8
  by_cases g:(p.nm.toList == s.toList)=true
  ·skip
   by_cases q:eqB p.key key=true
   ·have hh:p.hit s key=true:=by unfold Aw.hit; rw [g,q]; rfl
    rw [if_pos hh] at hv
    refine iV 23 (v:=.bool (p.nm.toList == s.toList)) (v':=.bool true) (congrArg Value.bool g) ?_
    refine go0 3 [.b 0 1,.b 2 0] [] ?_
    refine fV (.bool true) (fun w=>run_eqop (x:=(.tmp 25)) (y:=(.tmp 26)) (v:=p.key) (w:=key) (by kernel_rfl) (by kernel_rfl) (by kernel_rfl) (q)) ?_
    refine go0 14 [.b 0 4,.b 1 0] [] ?_
    refine yQ ?_
    refine go0 2 [] [] ?_
    refine hQ.to [.agg #[Vi p.has.k,Vi p.has.n,.string p.has.s]] (fun H sH=>?_) (ix:=[1])
    exact congrArg Vl.val hv
   ·skip
    have hh:¬ p.hit s key=true:=by unfold Aw.hit; rw [g]; exact q
    rw [if_neg hh] at hv
    refine iV 23 (v:=.bool (p.nm.toList == s.toList)) (v':=.bool true) (congrArg Value.bool g) ?_
    refine go0 3 [.b 0 1,.b 2 0] [] ?_
    refine fV (.bool false) (fun w=>run_eqop (x:=(.tmp 25)) (y:=(.tmp 26)) (v:=p.key) (w:=key) (by kernel_rfl) (by kernel_rfl) (by kernel_rfl) (Bool.eq_false_iff.2 q)) ?_
    refine go0 11 [] [(31,Vi (IntKind.i64.wrap ((k:Int) + 1)),Vi ((k:Int) + 1))] ?_ (hc:=(And.intro (jJ (by omega) (by omega)) (trivial)))
    exact jV (k + 1) (fun X q=>⟨W3,q _ _ _ _ ⟨rfl,by kernel_rfl⟩,S4,by omega,hv⟩) (by omega)
  ·skip
   have hh:¬ p.hit s key=true:=by unfold Aw.hit; rw [Bool.eq_false_iff.2 g]; exact Bool.false_ne_true
   rw [if_neg hh] at hv
   refine iV 23 (v:=.bool (p.nm.toList == s.toList)) (v':=.bool false) (congrArg Value.bool (Bool.eq_false_iff.2 g)) ?_
   refine go0 15 [] [(31,Vi (IntKind.i64.wrap ((k:Int) + 1)),Vi ((k:Int) + 1))] ?_ (hc:=(And.intro (jJ (by omega) (by omega)) (trivial)))
   exact jV (k + 1) (fun X q=>⟨W3,q _ _ _ _ ⟨rfl,by kernel_rfl⟩,S4,by omega,hv⟩) (by omega)
 ·skip
  have hd:l.drop k=[]:=List.drop_eq_nil_of_le (by omega)
  rw [hd] at hv
  refine uQ (t:=decide ((k:Int) < (n:Int))) (decide_eq_false (by omega)) ?_
  refine go0 2 [] [] ?_
  refine yQ ?_
  refine go0 9 [.b 0 0] [] ?_
  refine hQ.to [.agg #[Vi 4,Vi 0,Ve]] (fun H sH=>?_) (ix:=[0])
  exact congrArg Vl.val hv
theorem asked_any (l:List Aw) (sl:Value) (s:ByteArray) (key:Vl) (h:Vw) (hr:RS h 7 sl (tJ l)) (hl:l.length≤1000000) (hk:OkV key):C0 Tryz.prog 67 #[sl,.string s,.agg #[.int .i64 key.k,.int .i64 key.n,.string key.s]] h (fun r _=>r=(askV l s key).val):=by
 by_cases g:key.k≤3
 ·rcases hk with q | rfl | ⟨q,-⟩
  ·exact asked_yes l sl s key h hr hl q
  ·exact absurd g (by decide)
  ·omega
 ·obtain ⟨A,c,rfl,-,-,-⟩:=hr.form
  exact asked_no l A _ c s key h g (ok_kinds hk).1
set_option maxHeartbeats 4000000 in
theorem one_inp (f:Fd) (n1 n2 n3 c1 c2 c3:Nat) (A1 A2 A3:Option Addr) (inp:Env) (si:Value) (h:Vw) (hi:RS h 7 si (yK inp)) (li:inp.length≤1000000) (g:f.kind=1) :
  C0 Tryz.prog 44 #[.agg #[.string f.name,.int .i64 f.kind,.int .i64 f.ty,.int .i64 f.src.op,.int .i64 f.src.k,.int .i64 f.src.n,.string f.src.s,.string f.src.nm,.slice A1 n1 c1],si,.slice A2 n2 c2,.slice A3 n3 c3] h (fun r _=>r=(tellV f.name f.ty inp).val):=by
 obtain ⟨A,c,rfl,-,-,-⟩:=hi.form
 rw [List.length_map] at *
 generalize hL:inp.length=n at *
 refine sQ Tryz.func44 (c:=Tryz.f44.body.getD .skip) (N:=49) ?_
 intro hbx hbad Q hQ
 refine go2 24 [.own,.own,.b 1 1] [(15,.bool (f.kind == 1),.bool true)] ?_ (hc:=(And.intro (congrArg Value.bool (beq_iff_eq.2 g)) (trivial)))
 intro b1 b2
 refine zQ [0,1,0,0,1,0,1] [.block 0,.seq [1,0,1,0,1],.seq [1,1]] (fun (k:Nat) X=>∃ (W3:Vw) ,X W3 [(4,Vp b1),(8,Vp b2),(16,.slice A n c),(17,Vi (n:Int)),(18,Vi (k:Int))] [.box b2 [Vi 0,Vi 0,Ve],.box b1 [.string f.name,Vi f.kind,Vi f.ty,Vi f.src.op,Vi f.src.k,Vi f.src.n,.string f.src.s,.string f.src.nm,.slice A1 n1 c1]] []∧Sees h W3∧(k≤n)∧(tellV f.name f.ty (inp.drop k)=tellV f.name f.ty inp)) (fun k=>n - k) (0) (fun X q=>⟨h,q _ _ _ _ ⟨rfl,by kernel_rfl⟩,Sees.refl _,Nat.zero_le _,rfl⟩) ?_
 rintro k a w ⟨W3,hJ,S4,hkl,hv⟩; refine eV hJ ?_; clear hJ a w
 refine go0 6 [] [] ?_
 rcases (by omega:k < n∨k=n) with hlt | hke
 ·obtain ⟨p,hp⟩:∃ p,inp[k]?=some p:=⟨_,List.getElem?_eq_getElem (by omega)⟩
  have hrow:(yK inp)[k]?=some (fcRow p):=by rw [List.getElem?_map,hp]; rfl
  have hdr:inp.drop k=p :: inp.drop (k + 1):=by
   obtain ⟨h1,h2⟩:=List.getElem?_eq_some_iff.1 hp
   rw [List.drop_eq_getElem_cons h1,h2]
  rw [hdr,tellV] at hv
  refine kV (t:=decide ((k:Int) < (n:Int))) (decide_eq_true (by omega)) ?_
  refine go0 6 [] [] ?_
  obtain ⟨b5,o6,rfl,-,c7⟩:=RS.row hi (hrow)
  refine tQ (c7.sees S4) ?_
  refine go1 15 [.ix b5 o6 n c k,.f 0 0,.own,.b 0 0,.b 0 0,.b 2 0] [] ?_ (ho:=(And.intro (by first | omega | (simp; omega)) (trivial)))
  intro b8
  by_cases q:(p.1.toList == f.name.toList)=true
  ·rw [if_pos q] at hv
   refine kV (t:=p.1.toList == f.name.toList) (q) ?_
   refine go0 10 [.b 0 4,.b 1 0] [] ?_
   refine yQ ?_
   refine go0 3 [] [] ?_
   refine hQ.to [.agg #[Vi p.2.k,Vi p.2.n,.string p.2.s]] (fun H sH=>?_) (ix:=[1])
   exact congrArg Vl.val hv
  ·skip
   rw [if_neg q] at hv
   refine uQ (t:=p.1.toList == f.name.toList) (Bool.eq_false_iff.2 q) ?_
   refine go0 7 [] [(29,Vi (IntKind.i64.wrap ((k:Int) + 1)),Vi ((k:Int) + 1))] ?_ (hc:=(And.intro (jJ (by omega) (by omega)) (trivial)))
   exact jV (k + 1) (fun X q=>⟨W3,q _ _ _ _ ⟨rfl,by kernel_rfl⟩,S4,by omega,hv⟩) (by omega)
 ·skip
  have hd:inp.drop k=[]:=List.drop_eq_nil_of_le (by omega)
  rw [hd] at hv
  refine uQ (t:=decide ((k:Int) < (n:Int))) (decide_eq_false (by omega)) ?_
  refine go0 2 [] [] ?_
  refine yQ ?_
  refine go0 12 [.b 1 2,.b 0 0] [] ?_
  refine hQ.to [.agg #[Vi f.ty,Vi 0,Ve]] (fun H sH=>?_) (ix:=[0])
  exact congrArg Vl.val hv
theorem one_wf (f:Fd) (v:Value) (inp:Env) (si:Value) (orc:List Aw) (so:Value) (kn:Env) (sk:Value) (h:Vw) (hf:f.kind≠1→WfE f.src∧(szE f.src).1≤60∧chkE f.src=0) (ha:IsArgs h f.src v) (hi:RS h 7 si (yK inp)) (ho:RS h 7 so (tJ orc)) (hk:RS h 7 sk (yK kn))
  (li:inp.length≤1000) (lo:orc.length≤1000) (lk:kn.length≤1000) (okk:∀ p∈kn,OkV p.2) :
  C0 Tryz.prog 44 #[.agg #[.string f.name,.int .i64 f.kind,.int .i64 f.ty,.int .i64 f.src.op,.int .i64 f.src.k,.int .i64 f.src.n,.string f.src.s,.string f.src.nm,v],si,so,sk] h (fun r _=>r=(oneV f inp orc kn).val):=by
 obtain ⟨A1,n1,c1,rfl⟩:=ha.slice
 obtain ⟨A2,c2,rfl,-,-,-⟩:=ho.form
 obtain ⟨A3,c3,rfl,-,-,-⟩:=hk.form
 rw [List.length_map] at *
 rw [List.length_map] at *
 by_cases g:f.kind=1
 ·have e:oneV f inp orc kn=tellV f.name f.ty inp:=by unfold oneV; rw [if_pos g]
  rw [e]
  exact one_inp f _ _ _ _ _ _ _ _ _ inp si h hi (by omega) g
 ·obtain ⟨w1,w2,w3⟩:=hf g
  have w4:(szE f.src).2≤12:=chk_deep w3
  have hE:=fun H q1 q2=>eval_any f.src (.slice A1 n1 c1) kn (.slice A3 kn.length c3) H q1 w1 w2 w4 q2 okk lk
  have hv:=evalE_ok (get_ok okk) _ f.src (Nat.le_refl _) w1
  have hA:=fun H q=>asked_any orc (.slice A2 orc.length c2) f.name (mK kn f.src) H q (by omega) hv
  obtain ⟨A,c,rfl,-,-,-⟩:=hi.form
  rw [List.length_map] at *
  generalize inp.length=n at *
  have e:oneV f inp orc kn=if f.kind=3 then askV orc f.name (mK kn f.src) else mK kn f.src:=by unfold oneV; rw [if_neg g]
  rw [e]
  generalize mK kn f.src=key at *
  generalize askV orc f.name key=av at *
  generalize orc.length=n2 at *
  generalize kn.length=n3 at *
  by_cases g3:f.kind=3
  ·rw [if_pos g3]
   refine sQ Tryz.func44 (c:=Tryz.f44.body.getD .skip) (N:=49) ?_
   intro hbx hbad Q hQ
   refine go3 52 [.own,.own,.b 1 1,.b 1 3,.cl 37 #[.agg #[Vi f.src.op,Vi f.src.k,Vi f.src.n,.string f.src.s,.string f.src.nm,.slice A1 n1 c1],.slice A3 n3 c3] (.tuple #[.agg #[Vi key.k,Vi key.n,.string key.s],Vi 0]),.own,.b 0 0,.b 2 1,.b 2 0,.b 0 0,.cl 67 #[.slice A2 n2 c2,.string f.name,.agg #[Vi key.k,Vi key.n,.string key.s]] (.agg #[Vi av.k,Vi av.n,.string av.s]),.b 1 0] [(15,.bool (f.kind == 1),.bool false),(42,.bool (f.kind == 3),.bool true)] ?_ (ho:=(And.intro (fun H sH=>hE _ (ha.sees sH) (hk.sees sH)) (And.intro (fun H sH=>hA _ (ho.sees sH)) (trivial)))) (hc:=(And.intro (congrArg Value.bool (beq_eq_false_iff_ne.2 g)) (And.intro (congrArg Value.bool (beq_iff_eq.2 g3)) (trivial))))
   intro b1 b2 b3
   refine hQ.to [.agg #[Vi av.k,Vi av.n,.string av.s]] (fun H sH=>?_) (ix:=[1])
   exact rfl
  ·rw [if_neg g3]
   refine sQ Tryz.func44 (c:=Tryz.f44.body.getD .skip) (N:=49) ?_
   intro hbx hbad Q hQ
   refine go3 49 [.own,.own,.b 1 1,.b 1 3,.cl 37 #[.agg #[Vi f.src.op,Vi f.src.k,Vi f.src.n,.string f.src.s,.string f.src.nm,.slice A1 n1 c1],.slice A3 n3 c3] (.tuple #[.agg #[Vi key.k,Vi key.n,.string key.s],Vi 0]),.own,.b 0 0,.b 2 1,.b 0 0,.b 1 0] [(15,.bool (f.kind == 1),.bool false),(42,.bool (f.kind == 3),.bool false)] ?_ (ho:=(And.intro (fun H sH=>hE _ (ha.sees sH) (hk.sees sH)) (trivial))) (hc:=(And.intro (congrArg Value.bool (beq_eq_false_iff_ne.2 g)) (And.intro (congrArg Value.bool (beq_eq_false_iff_ne.2 g3)) (trivial))))
   intro b1 b2 b3
   refine hQ.to [.agg #[Vi key.k,Vi key.n,.string key.s]] (fun H sH=>?_) (ix:=[1])
   exact rfl
theorem one_any (fs:List Fd) (f:Fd) (v:Value) (inp:Env) (si:Value) (orc:List Aw) (so:Value) (kn:Env) (sk:Value) (h:Vw) (hf:OkF fs f) (ha:IsArgs h f.src v) (hi:RS h 7 si (yK inp)) (ho:RS h 7 so (tJ orc)) (hk:RS h 7 sk (yK kn))
  (li:inp.length≤1000) (lo:orc.length≤1000) (lk:kn.length≤1000) (okk:∀ p∈kn,OkV p.2) :
  C0 Tryz.prog 44 #[.agg #[.string f.name,.int .i64 f.kind,.int .i64 f.ty,.int .i64 f.src.op,.int .i64 f.src.k,.int .i64 f.src.n,.string f.src.s,.string f.src.nm,v],si,so,sk] h (fun r _=>r=(oneV f inp orc kn).val):=one_wf f v inp si orc so kn sk h hf.wf ha hi ho hk li lo lk okk
theorem oracle_nil (A:Option Addr) (n c:Nat) (B:Option Addr) (m d:Nat) (so:Value) (h:Vw) (ho:RS h 7 so (tJ [])):C0 Tryz.prog 62 #[.agg #[.slice A n c,.slice B m d],so] h (fun r _=>r=.int .i64 0):=by
 obtain ⟨A1,c1,rfl,-,-,-⟩:=ho.form
 refine sQ Tryz.func62 (c:=Tryz.f62.body.getD .skip) (N:=83) ?_
 intro hbx hbad Q hQ
 refine go1 15 [.own] [] ?_
 intro b1
 refine zQ [0,1,0,1] [.block 0,.seq [1,1]] (fun (k:Nat) X=>∃ (W2:Vw) ,X W2 [(1,.slice A1 0 c1),(2,Vp b1),(13,.slice A1 0 c1),(14,Vi 0),(15,Vi ((0:Nat):Int))] [.box b1 [.slice A n c,.slice B m d]] []∧Sees h W2∧(k=0)) (fun k=>k) (0) (fun X q=>⟨h,q _ _ _ _ ⟨rfl,by kernel_rfl⟩,Sees.refl _,rfl⟩) ?_
 rintro k a w ⟨W2,hJ,S3,hk⟩; refine eV hJ ?_; clear hJ a w
 refine go0 6 [] [] ?_
 refine uQ (t:=decide (((0:Nat):Int) < 0)) (decide_eq_false (by omega)) ?_
 refine go0 2 [] [] ?_
 refine yQ ?_
 refine go0 8 [] [] ?_
 refine hQ.to [Vi 0] (fun H sH=>?_)
 exact rfl
theorem whCheck_any (f:Fm) (ρ:List Int) (lv:Nat→Nat) (A:Option Addr) (n c:Nat) (B:Option Addr) (m d:Nat) (inp:Env) (si so:Value) (orc:List Aw) (h:Vw) (hok:OkFm f ρ lv) (hf:IsForm h (.slice A n c) (.slice B m d) f) (hn:n=f.fields.length)
  (hi:RS h 7 si (yK inp)) (li:inp.length≤1000000) (ki:∀ p∈inp,p.2.known) (ti:uK f.fields [] inp=0) (ho:RS h 7 so (tJ orc))
  (hO:∀ H,IsForm H (.slice A n c) (.slice B m d) f→RS H 7 so (tJ orc)→C0 Tryz.prog 62 #[.agg #[.slice A n c,.slice B m d],so] H (fun r _=>r=.int .i64 0)) :
  C0 Tryz.prog 42 #[.agg #[.slice A n c,.slice B m d],si,so] h (fun r _=>r=.int .i64 0):=by
 have hC:=fun H q=>shCheck_any f ρ lv A n c B m d H hok q hn
 have few:=hok.fields.few
 have hF:=fun H q1 q2=>facts_v f.fields (.slice A n c) (.slice B m d) inp si H q1 rfl (by omega) q2 li ki
 rw [ti] at hF
 obtain ⟨A1,c1,rfl,-,-,-⟩:=hi.form
 obtain ⟨A2,c2,rfl,-,-,-⟩:=ho.form
 rw [List.length_map] at *
 rw [List.length_map] at *
 refine sQ Tryz.func42 (c:=Tryz.f42.body.getD .skip) (N:=23) ?_
 intro hbx hbad Q hQ
 refine go1 50 [.own,.b 0 0,.cl 46 #[.agg #[.slice A n c,.slice B m d]] (Vi 0),.b 0 0,.cl 61 #[.agg #[.slice A n c,.slice B m d],.slice A1 inp.length c1] (Vi 0),.b 0 0,.cl 62 #[.agg #[.slice A n c,.slice B m d],.slice A2 orc.length c2] (Vi 0)] [] ?_ (ho:=(And.intro (fun H sH=>hC _ (hf.sees sH)) (And.intro (fun H sH=>hF _ ((hf.sees sH)).fields (hi.sees sH)) (And.intro (fun H sH=>hO _ (hf.sees sH) (ho.sees sH)) (trivial)))))
 intro b1
 refine hQ.to [Vi 0] (fun H sH=>?_)
 exact rfl
def AllO (n:Nat) (va:List Vl) (r u:Value) (l:List (List Value)):Prop:=r=.tuple #[u,.int .i64 0]∧(∃ A' c',u=.slice A' n c')∧l=qY va
set_option maxHeartbeats 4000000 in
theorem whAll_own (f:Fm) (ρ:List Int) (lv:Nat→Nat) (A:Option Addr) (n c:Nat) (B:Option Addr) (m d:Nat) (inp:Env) (si so:Value) (orc:List Aw) (h:Vw) (hok:OkFm f ρ lv) (hf:IsForm h (.slice A n c) (.slice B m d) f) (hn:n=f.fields.length) (h1:1≤n)
  (hi:RS h 7 si (yK inp)) (li:inp.length≤1000) (ki:∀ p∈inp,p.2.known) (ti:uK f.fields [] inp=0) (ho:RS h 7 so (tJ orc)) (lo:orc.length≤1000) (ko:∀ p∈orc,OkV p.has)
  (hO:∀ H,IsForm H (.slice A n c) (.slice B m d) f→RS H 7 so (tJ orc)→C0 Tryz.prog 62 #[.agg #[.slice A n c,.slice B m d],so] H (fun r _=>r=.int .i64 0)) :
  C0 Tryz.prog 17 #[.agg #[.slice A n c,.slice B m d],si,so] h (fun r h'=>∃ u l,Ent.ok h.w.heap.size h'.w (.row u 43 3 l)∧AllO n (allW f.fields inp orc (xW ρ n)) r u l):=by
 have hC:=fun H q1 q2 q3=>whCheck_any f ρ lv A n c B m d inp si so orc H hok q1 hn q2 (by omega) ki ti q3 hO
 have few:=hok.fields.few
 have hOr:=fun H q=>order_any f.fields (.slice A n c) H hok.fields q ρ lv hok.rank (by omega) (by omega)
 rw [← hn] at hOr
 have hod:Ordd f.fields ρ lv (xW ρ n):=by rw [hn]; exact ordL_ordd hok.rank (by omega)
 have hol:=hod.len
 have hrun:=run_inv hok.fields ki ko hod
 have hon:∀ (g:Fd) (u sk:Value) (kn:Env) (H:Vw),g∈f.fields→IsArgs H g.src u→RS H 7 si (yK inp)→RS H 7 so (tJ orc)→RS H 7 sk (yK kn)→kn.length≤1000→(∀ p∈kn,OkV p.2)→_:=fun g u sk kn H q0 q1 q2 q3 q4 q5 q6=>one_any f.fields g u inp si orc so kn sk H (hok.fields.each g q0) q1 q2 q3 q4 li lo q5 q6
 obtain ⟨A1,c1,rfl,-,-,-⟩:=hi.form
 obtain ⟨A2,c2,rfl,-,-,-⟩:=ho.form
 rw [List.length_map] at *
 rw [List.length_map] at *
 obtain ⟨vs,A3,c3,e3,-,-,hr3,hs3,hl3,hsl⟩:=cQ hf.fields
 simp only [Value.slice.injEq] at e3
 obtain ⟨rfl,-,rfl⟩:=e3
 rw [← hn] at hr3 hl3
 have hstep:=fun k i (hi:(xW ρ n)[k]?=some i) (g:Fd) (hg:f.fields[i]?=some g)=>run_at f.fields inp orc (xW ρ n) k i hi g hg
 show C0 _ _ _ _ (fun r h'=>∃ u l,Ent.ok h.w.heap.size h'.w (.row u 43 3 l)∧AllO n (runW f.fields inp orc (xW ρ n)).1 r u l)
 have hlt':=fun i (q:i∈xW ρ n)=>hod.lt q
 rw [← hn] at hlt' hol
 have hlen:=fun k q=>(hrun k q).len
 have hkl:=fun k q=>(hrun k q).klen
 have hok':=fun k q=>(hrun k q).ok
 clear hrun hod
 have hw0:runW f.fields inp orc []=(List.replicate n zV,[]):=by rw [hn]; rfl
 generalize xW ρ n=os at *
 generalize runW f.fields inp orc=rw' at *
 generalize hni:inp.length=ni at *
 generalize hno:orc.length=no at *
 refine sQ Tryz.func17 (c:=Tryz.f17.body.getD .skip) (N:=66) ?_
 intro hbx hbad Q hQ
 refine go1 30 [.own,.b 0 0,.cl 42 #[.agg #[.slice A n c,.slice B m d],.slice A1 ni c1,.slice A2 no c2] (Vi 0),.b 0 0] [] ?_ (ho:=(And.intro (fun H sH=>hC _ (hf.sees sH) (hi.sees sH) (ho.sees sH)) (trivial)))
 intro b1
 refine pQ (fun H sH=>hOr _ ((hf.sees sH)).fields) ?_; rintro _ W2 S3 ⟨A4,c4,rfl,hro⟩
 refine go0 12 [.b 0 0] [] ?_
 refine g_makek (t:=27) (e:=43) (z:=.agg #[Vi 0,Vi 0,Ve]) (cs:=[Vi 0,Vi 0,Ve]) (x:=(.tmp 30)) (by_:=32) (m:=n) (kk:=3) (by kernel_rfl) Tryz.underlying27 (by kernel_rfl) rfl rfl (by decide) (by omega) (by omega) (by simp only [maxLen]; omega) ?_; intro b4
 refine go0 17 [] [] ?_
 refine dV 56 7 ?_
 rw [show List.replicate n [.int .i64 0,.int .i64 0,.string ⟨#[]⟩]=qY (List.replicate n zV) from by unfold qY; rw [List.map_replicate]; rfl]
 refine zQ [0,1,0,1,1,1,1,1] [.block 0,.seq [1,1,1,1,1,1]] (fun (k:Nat) X=>∃ (W5:Vw) (v:Value) (ov:List Vl) (kv:Env),X W5 [(1,.slice A1 ni c1),(2,.slice A2 no c2),(3,Vp b1),(11,Vs b4 n n),(32,.slice A4 n c4),(33,Vi (n:Int)),(34,Vi (k:Int)),(12,v)] [.row v 56 7 (yK kv),.row (Vs b4 n n) 43 3 (qY ov),.box b1 [.slice A n c,.slice B m d]] []∧Sees W2 W5∧(k≤n)∧(rw' (os.take k)=(ov,kv))) (fun k=>n - k) (0) (fun X q=>⟨W2,(Vz),List.replicate n zV,[],q _ _ _ _ ⟨rfl,by kernel_rfl⟩,Sees.refl _,Nat.zero_le _,hw0⟩) ?_
 rintro k a w ⟨W5,v,ov,kv,hJ,S6,hk,hv⟩; refine eV hJ ?_; clear hJ a w
 refine go0 6 [] [] ?_
 rcases (by omega:k < n∨k=n) with hlt | hke
 ·obtain ⟨i,hoi⟩:∃ i,os[k]?=some i:=⟨_,List.getElem?_eq_getElem (by omega)⟩
  have hil:=hlt' i (List.mem_of_getElem? hoi)
  obtain ⟨g,hg⟩:∃ g,f.fields[i]?=some g:=⟨_,List.getElem?_eq_getElem (by omega)⟩
  obtain ⟨u,hu⟩:∃ u,vs[i]?=some u:=⟨_,List.getElem?_eq_getElem (by omega)⟩
  have hrow:=aQ hg hu
  have hga:∀ H,AllSrc H f.fields vs→IsArgs H g.src u:=fun H q=>AllArgs.get q (x:=g.src) (by rw [List.getElem?_map,hg]; rfl) hu
  obtain ⟨Au,nu,cu,rfl⟩:=(hga _ hs3).slice
  have hro1:(kW os)[k]?=some [.int .i64 (i:Int)]:=by rw [List.getElem?_map,hoi]; rfl
  have hl1:=hlen k (by omega)
  have hl2:=hkl k (by omega)
  have hl3':=hok' k (by omega)
  have hst:=hstep k i hoi g hg
  rw [hv] at hl1 hl2 hl3' hst
  simp only at hl1 hl2 hl3' hst
  rw [List.length_take] at hl2
  obtain ⟨x0,hx0⟩:∃ x,ov[i]?=some x:=⟨_,List.getElem?_eq_getElem (by omega)⟩
  have hx1:=vlRows_get hx0
  have hon':=fun sk H q1 q2 q3 q4=>hon g (.slice Au nu cu) sk kv H (List.mem_of_getElem? hg) q1 q2 q3 q4 (by omega) hl3'
  have hfr:(yK kv).length=kv.length:=List.length_map _
  generalize oneV g inp orc kv=xv at *
  have hx2:((qY ov).set i [.int .i64 xv.k,.int .i64 xv.n,.string xv.s])[i]?=some [.int .i64 xv.k,.int .i64 xv.n,.string xv.s]:=List.getElem?_set_self (by rw [List.length_map]; omega)
  refine kV (t:=decide ((k:Int) < (n:Int))) (decide_eq_true (by omega)) ?_
  refine go0 6 [] [] ?_
  obtain ⟨b7,o8,rfl,-,c9⟩:=RS.row hro (hro1)
  refine tQ (c9.sees S6) ?_
  refine go0 12 [.ix b7 o8 n c4 k,.f 0 0,.b 2 0] [] ?_ (ho:=(And.intro (by first | omega | (simp; omega)) (trivial)))
  obtain ⟨b10,o11,rfl,-,c12⟩:=RS.row hr3 (hrow)
  refine tQ (c12.sees (S3.trans S6)) ?_
  refine go0 5 [.ix b10 o11 n c i,.f 0 0] [] ?_ (ho:=(And.intro (by first | omega | (simp; omega)) (trivial)))
  refine g_callq (fun a w hJ=>hon' _ _ (hga _ (hs3.sees (S3.trans (S6.trans hJ.j.seesQ)))) (hi.sees (S3.trans (S6.trans hJ.j.seesQ))) (ho.sees (S3.trans (S6.trans hJ.j.seesQ))) (hJ.j.rowQ (v:=v) (e:=56) (k:=7) (l:=yK kv) 0 (by kernel_rfl))) ?_; intro W13 S14
  refine go0 1 [.ix b4 0 n n i] [] ?_ (ho:=(And.intro (by first | omega | (simp; omega)) (trivial)))
  refine g_rowset 1 i 0 (g:=b4) (m:=n) (cap:=n) (kk:=3) (e:=43) (l:=qY ov) (r:=[Vi x0.k,Vi x0.n,.string x0.s]) (r':=[Vi xv.k,Vi xv.n,.string xv.s]) (t:=43) (x:=(.tmp 49)) (y:=(.tmp 48)) (v:=.agg #[Vi xv.k,Vi xv.n,.string xv.s]) (hx1) ?_
  refine go0 2 [] [] ?_
  have c15:=RS.cell hr3 (hrow)
  refine tQ (c15.sees (S3.trans (S6.trans S14))) ?_
  refine gV 15 0 [.pu,.pu,.ld 2 0,.pu,.v (fun gh=>.pointer (some ⟨b10,o11 + i * 9,none⟩)),.pu,.lf 0 0,.pu,.pu,.v (fun gh=>.pointer (some ⟨b4,0 + i * 3,none⟩)),.v (fun gh=>.agg #[Vi xv.k,Vi xv.n,.string xv.s]),.pu,.f (fun gh=>.slice (some ⟨(wJ (gh 12)),0,none⟩) 1 1) (fun gh hh=>Cells hh (wJ (gh 12)) 0 [.string g.name,Vi 0,Vi 0,Ve,Vi xv.k,Vi xv.n,.string xv.s]),.e (fun gh=>.slice (sA (gh 13)) (sN (gh 13)) (sC (gh 13))) 0 (fun gh=>.row (.slice (sA (gh 13)) (sN (gh 13)) (sC (gh 13))) 56 7 ((yK kv)++[[.string g.name,Vi 0,Vi 0,Ve,Vi xv.k,Vi xv.n,.string xv.s]])),.pu] [(12,true),(13,false)] (And.intro (fun _ _ _ s c=>c.sees s) (trivial)) ?_ ?_
  ·intro R hT hA hmono
   refine And.intro (mY hT hA b10 o11 n c i (fun gh=>.pointer (some ⟨b10,o11 + i * 9,none⟩)) (by first | omega | (simp; omega))) ?_
   refine And.intro (mY hT hA b4 0 n n i (fun gh=>.pointer (some ⟨b4,0 + i * 3,none⟩)) (by first | omega | (simp; omega))) ?_
   refine And.intro (r_rowget hT hA 60 (fun gh=>.agg #[Vi xv.k,Vi xv.n,.string xv.s]) [9] 10 (by kernel_rfl) (by kernel_rfl) (by kernel_rfl) (fun _=>by kernel_rfl) 1 (GN R 1) (by kernel_rfl) (by kernel_rfl) b4 n n 3 43 ((qY ov).set i [Vi xv.k,Vi xv.n,.string xv.s]) (fun _=>by kernel_rfl) i 0 (r:=[Vi xv.k,Vi xv.n,.string xv.s]) (hx2) 43 (.tmp 59) (by kernel_rfl) (fun _=>by kernel_rfl) (fun _=>by kernel_rfl)) ?_
   refine And.intro (r_fact hT hA hmono ⟨fun _ _=>by kernel_rfl,fun _ _=>by kernel_rfl,fun _ _=>by kernel_rfl⟩ 62 (fun g=>Vs g 1 1) [11] 12 (by kernel_rfl) (by kernel_rfl) (fun _=>by kernel_rfl) (fun gh=>[.string g.name,Vi 0,Vi 0,Ve,Vi xv.k,Vi xv.n,.string xv.s]) 56 (fun _ _=>by kernel_rfl) (fun gh zb zH zc zj zq zhq zhe=>own_fact (i:=12) (k:=0) (f:=fun gh hh=>Cells hh (wJ (gh 12)) 0 [.string g.name,Vi 0,Vi 0,Ve,Vi xv.k,Vi xv.n,.string xv.s]) (by kernel_rfl) (by kernel_rfl) zc zj zq zhq zhe)) ?_
   refine And.intro (kX hT hA hmono ⟨fun _ _=>by kernel_rfl,fun _ _=>by kernel_rfl,fun _ _=>by kernel_rfl⟩ 63 [0,12] 13 0 (GN R 0) (fun gh=>v) 33 56 7 (fun gh=>yK kv) (fun gh=>[[.string g.name,Vi 0,Vi 0,Ve,Vi xv.k,Vi xv.n,.string xv.s]]) (.tmp 50) (.tmp 62) (fun gh=>(wJ (gh 12))) 1 1 0 12 (fun gh hh=>Cells hh (wJ (gh 12)) 0 [.string g.name,Vi 0,Vi 0,Ve,Vi xv.k,Vi xv.n,.string xv.s]) (fun _ _ c=>c) Tryz.underlying33 (zv:=.agg #[Ve,Vi 0,Vi 0,Ve,Vi 0,Vi 0,Ve]) (bytes:=80) (fun _=>by constructor <;> (simp; omega))) ?_
   trivial
  rintro b17 v63 W18 S19 ⟨f16,-⟩
  replace f16:Cells W18 b17 0 [.string g.name,Vi 0,Vi 0,Ve,Vi xv.k,Vi xv.n,.string xv.s]:=f16
  refine tQ f16 ?_
  refine go0 6 [] [(64,Vi (IntKind.i64.wrap ((k:Int) + 1)),Vi ((k:Int) + 1))] ?_ (hc:=(And.intro (jJ (by omega) (by omega)) (trivial)))
  refine xQ [(1,.slice A1 ni c1),(2,.slice A2 no c2),(3,Vp b1),(11,Vs b4 n n),(32,.slice (some ⟨b7,o8,none⟩) n c4),(33,Vi (n:Int)),(12,.slice (sA v63) (sN v63) (sC v63)),(34,Vi ((k:Int) + 1))] [.row (.slice (sA v63) (sN v63) (sC v63)) 56 7 ((yK kv)++[[.string g.name,Vi 0,Vi 0,Ve,Vi xv.k,Vi xv.n,.string xv.s]]),.row (Vs b4 n n) 43 3 ((qY ov).set i [Vi xv.k,Vi xv.n,.string xv.s]),.box b1 [.slice (some ⟨b10,o11,none⟩) n c,.slice B m d]] [] ?_
  exact jV (k + 1) (fun X q=>⟨W18,.slice (sA v63) (sN v63) (sC v63),ov.set i xv,kv++[(g.name,xv)],q _ _ _ _ (fY (by rw [fcRows_snoc,← vlRows_set])),(S6.trans (S14.trans S19)),by omega,hst⟩) (by omega)
 ·skip
  have hta:os.take k=os:=by rw [hke,← hol,List.take_length]
  rw [hta] at hv
  refine uQ (t:=decide ((k:Int) < (n:Int))) (decide_eq_false (by omega)) ?_
  refine go0 2 [] [] ?_
  refine yQ ?_
  refine go0 10 [] [] ?_
  refine hQ.toJ [Vs b4 n n,Vi 0] [] (fun a w hJ=>?_)
  have fo:=hJ.rowOwn (v:=Vs b4 n n) (e:=43) (kk:=3) (l:=qY ov) 1 (by kernel_rfl)
  exact ⟨_,_,fo,rfl,⟨_,_,rfl⟩,by rw [hv]⟩
theorem whAll_any (f:Fm) (ρ:List Int) (lv:Nat→Nat) (A:Option Addr) (n c:Nat) (B:Option Addr) (m d:Nat) (inp:Env) (si so:Value) (orc:List Aw) (h:Vw) (hok:OkFm f ρ lv) (hf:IsForm h (.slice A n c) (.slice B m d) f) (hn:n=f.fields.length) (h1:1≤n)
  (hi:RS h 7 si (yK inp)) (li:inp.length≤1000) (ki:∀ p∈inp,p.2.known) (ti:uK f.fields [] inp=0) (ho:RS h 7 so (tJ orc)) (lo:orc.length≤1000) (ko:∀ p∈orc,OkV p.has)
  (hO:∀ H,IsForm H (.slice A n c) (.slice B m d) f→RS H 7 so (tJ orc)→C0 Tryz.prog 62 #[.agg #[.slice A n c,.slice B m d],so] H (fun r _=>r=.int .i64 0)) :
  C0 Tryz.prog 17 #[.agg #[.slice A n c,.slice B m d],si,so] h (fun r h'=>∃ A' c',r=.tuple #[.slice A' n c',.int .i64 0]∧RS h' 3 (.slice A' n c') (qY (allW f.fields inp orc (xW ρ n)))):=by
 intro a1 a2 a3 a4
 refine (whAll_own f ρ lv A n c B m d inp si so orc h hok hf hn h1 hi li ki ti ho lo ko hO a1 a2 a3 a4).mono ?_
 rintro e w' ⟨v,Bo,g1,g2,g3,g4,u,l,g5,rfl,⟨A',c',rfl⟩,rfl⟩
 exact ⟨_,Bo,g1,g2,g3,g4,A',c',rfl,row_rs g5 (fun b hb hm=>by have:=a4 b hm; have:=(g5.1.lt b hb).1; omega)⟩
end Go.Proofs.YtmoahpojchndiaaGreatDoor
namespace Go.Proofs.YtmoahpojchndiaaGreatDoor
open Go.RowKit
set_option linter.unusedVariables false
theorem smallX_wf:WfE smallX:=by
 refine WfE.mk' (.inr (.inr ⟨(by decide:(3:Int)≤8),(by decide:(8:Int)≤18),rfl,rfl,rfl,rfl,rfl⟩)) (WfL.all fun y hy=>?_)
 have hy:y∈[refE ⟨#[97]⟩,Ex.mk 1 1 1 ⟨#[]⟩ ⟨#[]⟩ []]:=hy
 rcases List.mem_cons.1 hy with rfl | hy
 ·exact (wf_leaf (refE_ok ⟨by decide,by decide,⟨_,rfl,by decide⟩,by decide,by decide⟩) rfl).1
 ·rw [List.mem_singleton.1 hy]
  exact (wf_leaf (x:=.mk 1 1 1 ⟨#[]⟩ ⟨#[]⟩ []) (.inl ⟨rfl,.inl ⟨rfl,(by unfold Lim; decide:Lim 1),rfl⟩,fun _=>(by decide:(0:Int)≤1),rfl,rfl⟩) rfl).1
theorem smallB_wf:WfE smallB:=(wf_leaf (refE_ok (s:=⟨#[98]⟩) ⟨by decide,by decide,⟨_,rfl,by decide⟩,by decide,by decide⟩) rfl).1
theorem small_ok:OkFs smallF.fields:=by
 refine ⟨fun f hf=>?_,by decide,by decide⟩
 have hf:f∈[(⟨⟨#[98]⟩,2,1,smallX⟩:Fd),⟨⟨#[97]⟩,1,1,zE⟩,⟨⟨#[99]⟩,3,3,smallB⟩]:=hf
 rcases List.mem_cons.1 hf with rfl | hf
 ·exact ⟨⟨by decide,by decide,⟨_,rfl,by decide⟩,by decide,by decide⟩,by decide,by decide,by decide,by decide,fun h=>absurd h (show ¬ (2:Int)=1 by decide),fun _=>⟨smallX_wf,by decide,by decide⟩,fun _=>by decide,fun h=>absurd h (show ¬ (2:Int)=3 by decide)⟩
 ·rcases List.mem_cons.1 hf with rfl | hf
  ·exact ⟨⟨by decide,by decide,⟨_,rfl,by decide⟩,by decide,by decide⟩,by decide,by decide,by decide,by decide,fun _=>rfl,fun h=>absurd rfl h,fun h=>absurd h (show ¬ (1:Int)=2 by decide),fun h=>absurd h (show ¬ (1:Int)=3 by decide)⟩
  ·rw [List.mem_singleton.1 hf]
   exact ⟨⟨by decide,by decide,⟨_,rfl,by decide⟩,by decide,by decide⟩,by decide,by decide,by decide,by decide,fun h=>absurd h (show ¬ (3:Int)=1 by decide),fun _=>⟨smallB_wf,by decide,by decide⟩,fun h=>absurd h (show ¬ (3:Int)=2 by decide),fun _=>⟨1,by decide,by decide,by decide⟩⟩
theorem names_one {x:Ex} {s:ByteArray} (h:oX x=[s]):iW x=[s]:=by
 unfold iW namesB
 rw [h]
 have e:dd ([s].map fun s:ByteArray=>s.data.toList)=[s.data.toList]:=by simp [dd]
 rw [e,List.mergeSort_singleton]
 simp
theorem small_needs:lW smallF.fields=[[1],[],[0]]:=by
 have e1:iW smallX=[⟨#[97]⟩]:=names_one (by decide)
 have e2:iW smallB=[⟨#[98]⟩]:=names_one (by decide)
 show [needE smallF.fields ⟨⟨#[98]⟩,2,1,smallX⟩,needE smallF.fields ⟨⟨#[97]⟩,1,1,zE⟩,needE smallF.fields ⟨⟨#[99]⟩,3,3,smallB⟩]=_
 unfold needE
 rw [if_neg (by decide),if_pos rfl,if_neg (by decide)]
 have p1:plc smallF.fields ⟨#[97]⟩=1:=by
  unfold plc
  rw [show (⟨#[97]⟩:ByteArray)=(⟨⟨#[97]⟩,1,1,zE⟩:Fd).name from rfl,gQ small_ok.nodup (i:=1) rfl]; rfl
 have p2:plc smallF.fields ⟨#[98]⟩=0:=by
  unfold plc
  rw [show (⟨#[98]⟩:ByteArray)=(⟨⟨#[98]⟩,2,1,smallX⟩:Fd).name from rfl,gQ small_ok.nodup (i:=0) rfl]; rfl
 simp only [e1,e2,List.map_cons,List.map_nil,p1,p2]
theorem small_ranked:Ranked (lW smallF.fields) [1,0,2] (fun i=>[1,0,2].getD i 0):=by
 rw [small_needs]
 exact ranked_ex (need:=[[1],[],[0]]) (lv:=fun i=>[1,0,2].getD i 0) (by decide) (by decide)
theorem small_okG:OkGs smallF.fields smallF.pages:=by
 have hm:∀ p∈smallF.pages,p=⟨⟨#[112,49]⟩,[⟨#[97]⟩],zE⟩∨p=⟨⟨#[112,50]⟩,[⟨#[99]⟩],zE⟩:=fun p hp=>by
  have hp:p∈[(⟨⟨#[112,49]⟩,[⟨#[97]⟩],zE⟩:Pg),⟨⟨#[112,50]⟩,[⟨#[99]⟩],zE⟩]:=hp
  rcases List.mem_cons.1 hp with h | h
  ·exact .inl h
  ·exact .inr (List.mem_singleton.1 h)
 have p1:fQ smallF.fields ⟨#[97]⟩=(1:Nat):=gQ small_ok.nodup (i:=1) (f:=⟨⟨#[97]⟩,1,1,zE⟩) rfl
 have p2:fQ smallF.fields ⟨#[99]⟩=(2:Nat):=gQ small_ok.nodup (i:=2) (f:=⟨⟨#[99]⟩,3,3,smallB⟩) rfl
 refine ⟨by decide,by decide,fun p h=>?_,by decide,fun p h=>?_,fun p h s hs=>?_,by decide,fun p h=>?_⟩
 ·rcases hm p h with rfl | rfl
  ·exact ⟨by decide,by decide,⟨_,rfl,by decide⟩,by decide,by decide⟩
  ·exact ⟨by decide,by decide,⟨_,rfl,by decide⟩,by decide,by decide⟩
 ·rcases hm p h with rfl | rfl <;> decide
 ·rcases hm p h with rfl | rfl
  ·rw [List.mem_singleton.1 hs,p1]; omega
  ·rw [List.mem_singleton.1 hs,p2]; omega
 ·rcases hm p h with rfl | rfl <;> exact .inl rfl
end Go.Proofs.YtmoahpojchndiaaGreatDoor
namespace Go.Proofs.YtmoahpojchndiaaGreatDoor
open Go.RowKit
set_option linter.unusedVariables false
abbrev ke1:Env:=[(⟨#[97]⟩,⟨1,4,⟨#[]⟩⟩)]
theorem ke1_known:∀ p∈ke1,p.2.known:=fun p hp=>by rw [List.mem_singleton.1 hp]; exact .inl ⟨rfl,by unfold Lim; decide,rfl⟩
theorem ke1_told:uK smallF.fields [] ke1=0:=by
 unfold uK
 have e:toldE smallF.fields ⟨#[97]⟩ 1=0:=by
  unfold toldE
  rw [gQ (fs:=smallF.fields) (by decide) (i:=1) (f:=⟨⟨#[97]⟩,1,1,zE⟩) rfl,if_neg (by omega)]; rfl
 rw [if_pos (by exact e)]; rfl
theorem small_sol {v:List Vl} (h:Sol smallF.fields ke1 [] v):∃ y z,v=[⟨1,5,⟨#[]⟩⟩,y,⟨4,0,z⟩]:=by
 have hl:=h.len
 obtain ⟨x0,x1,x2,rfl⟩:∃ a b c,v=[a,b,c]:=by
  match v,hl with
  | [a,b,c],_=>exact ⟨a,b,c,rfl⟩
 have e1:=h.at_ 1 ⟨⟨#[97]⟩,1,1,zE⟩ x1 rfl rfl
 have e1:x1=⟨1,4,⟨#[]⟩⟩:=e1.trans (by unfold oneV; rw [if_pos rfl,tellV,if_pos (by rw [tl_dec]; decide)])
 have e0:=h.at_ 0 ⟨⟨#[98]⟩,2,1,smallX⟩ x0 rfl rfl
 subst e1
 have e0:x0=⟨1,5,⟨#[]⟩⟩:=e0.trans (by kernel_rfl)
 have e2:=h.at_ 2 ⟨⟨#[99]⟩,3,3,smallB⟩ x2 rfl rfl
 subst e0
 have e2:x2=pdV:=e2.trans (by kernel_rfl)
 exact ⟨_,_,by rw [e2]⟩
theorem known_any (h:Vw):C0 Tryz.prog 18 #[] h (fun r _=>r=.bool true):=by
 have hSm:OkFm smallF _ _:=⟨small_ok,small_okG,small_ranked⟩
 have hA:=fun H A c B d si q1 q2=>whAll_any smallF _ _ A 3 c B 2 d ke1 si (.slice none 0 0) [] H hSm q1 rfl (by omega) q2 (by decide) ke1_known ke1_told (RS.nil H 7) (by decide) (fun p hp=>by cases hp) (fun H' _ q=>oracle_nil _ _ _ _ _ _ _ H' q)
 have hs:=(all_sol small_ok ke1_known (orc:=[]) (fun p hp=>by cases hp) (ordL_ordd small_ranked (by decide))).1
 obtain ⟨y,z,hv⟩:=small_sol hs
 have hv:allW smallF.fields ke1 [] (xW [1,0,2] 3)=_:=hv
 rw [hv] at hA
 have hone:∀ (H:Vw) (b:Nat),Cells H b 0 [.string ⟨#[97]⟩,.int .i64 0,.int .i64 0,.string ⟨#[]⟩,.int .i64 1,.int .i64 4,.string ⟨#[]⟩]→RS H 7 (.slice (some ⟨b,0,none⟩) 1 1) (yK ke1):=fun H b hc =>
  rs_cells (k:=7) (yK ke1) (fun r hr=>by rw [List.mem_singleton.1 hr]; rfl) (by decide) hc
 refine sQ Tryz.func18 (c:=Tryz.f18.body.getD .skip) (N:=32) ?_
 intro hbx hbad Q hQ
 have hr0:(qY [⟨1,5,⟨#[]⟩⟩,y,⟨4,0,z⟩])[0]?=some [.int .i64 1,.int .i64 5,.string ⟨#[]⟩]:=rfl
 have hr2:(qY [⟨1,5,⟨#[]⟩⟩,y,⟨4,0,z⟩])[2]?=some [.int .i64 4,.int .i64 0,.string z]:=rfl
 refine go0 7 [] [] ?_
 refine pQ (fun H sH=>small_any _) ?_; rintro _ W1 S2 ⟨A,c,B,d,rfl,hf⟩
 refine pV 3 [.fix] [] ?_
 intro bone W3 S4
 refine rQ 0 bone 0 [.string ⟨#[97]⟩,Vi 0,Vi 0,Ve,Vi 1,Vi 4,Ve] fun one=>?_
 refine pQ (fun H sH=>hA _ _ _ _ _ _ (hf.sees (S4.trans sH)) (hone _ _ (one.sees sH))) ?_; rintro _ W5 S6 ⟨A',c',rfl,hr⟩
 refine go0 18 [] [] ?_
 obtain ⟨b7,o8,rfl,-,c9⟩:=RS.row hr (hr0)
 refine tQ (c9.sees (Sees.refl _)) ?_
 refine go0 7 [.ix b7 o8 3 c' 0,.f 0 1] [] ?_ (ho:=(And.intro (by first | omega | (simp; omega)) (trivial)))
 have c10:=RS.cell hr (hr2)
 refine tQ (c10.sees (Sees.refl _)) ?_
 refine go0 9 [.ix b7 o8 3 c' 2,.f 0 0] [] ?_ (ho:=(And.intro (by first | omega | (simp; omega)) (trivial)))
 refine hQ.to [.bool true] (fun H sH=>?_)
 exact rfl
end Go.Proofs.YtmoahpojchndiaaGreatDoor
namespace Go.Proofs.YtmoahpojchndiaaGreatDoor
open Go.RowKit
set_option linter.unusedVariables false
theorem mem_pgNames {fs:List Fd} {n k:Nat} {s:ByteArray}:s∈zW fs n k↔∃ (i:Nat) (f:Fd),fs[i]?=some f∧i % (n + 1)=k∧f.name=s:=by
 unfold zW
 rw [List.mem_map]
 constructor
 ·rintro ⟨⟨f,i⟩,h,rfl⟩
  obtain ⟨h1,h2⟩:=List.mem_filter.1 h
  exact ⟨i,f,List.mem_zipIdx_iff_getElem?.1 h1,beq_iff_eq.1 h2,rfl⟩
 ·rintro ⟨i,f,h1,h2,rfl⟩
  exact ⟨(f,i),List.mem_filter.2 ⟨List.mem_zipIdx_iff_getElem?.2 h1,beq_iff_eq.2 h2⟩,rfl⟩
theorem pgNames_nodup {fs:List Fd} {n k:Nat} (h:(fs.map (fun f:Fd=>f.name)).Nodup):(zW fs n k).Nodup:=by
 unfold zW
 have e:fs.zipIdx.map (fun p=>p.1.name)=fs.map (fun f:Fd=>f.name):=by
  have:fs.zipIdx.map (fun p=>p.1)=fs:=List.zipIdx_map_fst 0 fs
  calc fs.zipIdx.map (fun p=>p.1.name)=(fs.zipIdx.map (fun p=>p.1)).map (fun f:Fd=>f.name):=by rw [List.map_map]; rfl
   _=_:=by rw [this]
 refine List.Sublist.nodup ?_ (e ▸ h)
 exact List.Sublist.map _ List.filter_sublist
theorem pgT_once {l:List RawD} {fs:List Fd} {n n0:Nat} (hd:(fs.map (fun f:Fd=>f.name)).Nodup):∀ k,((oJ l fs n n0 k).1.flatMap (fun p:Pg=>p.fields)).Nodup∧∀ s∈(oJ l fs n n0 k).1.flatMap (fun p:Pg=>p.fields),∃ (i:Nat) (f:Fd),fs[i]?=some f∧i % (n + 1) < k∧f.name=s
 | 0=>⟨List.nodup_nil,fun s hs=>by cases hs⟩
 | k + 1=>by
  obtain ⟨h1,h2⟩:=pgT_once (l:=l) (n:=n) (n0:=n0) hd k
  have e:(oJ l fs n n0 (k + 1)).1.flatMap (fun p:Pg=>p.fields)=(oJ l fs n n0 k).1.flatMap (fun p:Pg=>p.fields)++zW fs n k:=by
   show ((oJ l fs n n0 k).1++[_]).flatMap _=_
   rw [List.flatMap_append]; simp
  rw [e]
  refine ⟨List.nodup_append.2 ⟨h1,pgNames_nodup hd,fun a ha b hb q=>?_⟩,fun s hs=>?_⟩
  ·obtain ⟨i,f,f1,f2,f3⟩:=h2 a ha
   obtain ⟨j,g,g1,g2,g3⟩:=mem_pgNames.1 hb
   have q1:(fs.map (fun f:Fd=>f.name))[i]?=some a:=by rw [List.getElem?_map,f1]; simp [f3]
   have q2:(fs.map (fun f:Fd=>f.name))[j]?=some a:=by rw [List.getElem?_map,g1]; simp [g3,q]
   have:=(List.getElem?_inj (List.getElem?_eq_some_iff.1 q1).1 hd).1 (q1.trans q2.symm)
   subst this
   omega
  ·rcases List.mem_append.1 hs with hs | hs
   ·obtain ⟨i,f,f1,f2,f3⟩:=h2 s hs
    exact ⟨i,f,f1,by omega,f3⟩
   ·obtain ⟨j,g,g1,g2,g3⟩:=mem_pgNames.1 hs
    exact ⟨j,g,g1,by omega,g3⟩
theorem pgT_names (l:List RawD) (fs:List Fd) (n n0:Nat):∀ k,(oJ l fs n n0 k).1.map (fun p:Pg=>p.name)=(List.range k).map yW
 | 0=>rfl
 | k + 1=>by
  show ((oJ l fs n n0 k).1++[_]).map (fun p:Pg=>p.name)=_
  rw [List.map_append,pgT_names l fs n n0 k,List.range_succ,List.map_append]; rfl
theorem pgT_each (l:List RawD) (fs:List Fd) (n n0:Nat):∀ k,∀ p∈(oJ l fs n n0 k).1,∃ i m r,i < k∧p=⟨yW i,zW fs n i,(skipE l fs r m).1⟩
 | 0,p,h=>by cases h
 | k + 1,p,h=>by
  have h:p∈(oJ l fs n n0 k).1++[_]:=h
  rcases List.mem_append.1 h with h | h
  ·obtain ⟨i,m,r,h1,h2⟩:=pgT_each l fs n n0 k p h
   exact ⟨i,m,r,by omega,h2⟩
  ·exact ⟨k,_,_,by omega,List.mem_singleton.1 h⟩
theorem pgName_ok {k:Nat} (h:k < 5):rJ (yW k).data.toList:=by
 match k,h with
 | 0,_=>exact ⟨by decide,by decide,⟨_,rfl,by decide⟩,by decide,by decide⟩
 | 1,_=>exact ⟨by decide,by decide,⟨_,rfl,by decide⟩,by decide,by decide⟩
 | 2,_=>exact ⟨by decide,by decide,⟨_,rfl,by decide⟩,by decide,by decide⟩
 | 3,_=>exact ⟨by decide,by decide,⟨_,rfl,by decide⟩,by decide,by decide⟩
 | 4,_=>exact ⟨by decide,by decide,⟨_,rfl,by decide⟩,by decide,by decide⟩
theorem pgName_inj {i j:Nat} (hi:i < 5) (hj:j < 5) (h:yW i=yW j):i=j:=by
 have key:∀ i,i < 5→∀ j,j < 5→(yW i).data=(yW j).data→i=j:=by decide
 exact key i hi j hj (congrArg ByteArray.data h)
theorem form_okGs (l:List RawD):OkGs (kQ l).fields (kQ l).pages:=by
 have hn:=gW l
 have hp:=nPages_le l
 have hpl:=form_pages l
 have hT:((fJ l (iJ l)).1.map (fun f:Fd=>f.name)).Nodup:=by
  rw [fldT_names]
  refine List.pairwise_map.2 (List.nodup_range.imp_of_mem ?_)
  intro a b ha hb hab e
  exact hab (fname_inj (by have:=List.mem_range.1 ha; omega) (by have:=List.mem_range.1 hb; omega) e)
 have he:∀ p∈(kQ l).pages,∃ i m r,i < eJ l∧p=⟨yW i,zW (fJ l (iJ l)).1 (eJ l) i,(skipE l (fJ l (iJ l)).1 r m).1⟩:=pgT_each _ _ _ _ _
 have hok:=form_okFs l _ (mQ l) (fun f=>Iff.rfl) (by rw [lQ]; omega)
 refine ⟨by omega,by omega,fun p h=>?_,?_,fun p h=>?_,fun p h s hs=>?_,(pgT_once hT _).1,fun p h=>?_⟩
 ·obtain ⟨i,m,r,hi,rfl⟩:=he p h
  exact pgName_ok (by omega)
 ·show ((oJ l _ _ _ _).1.map (fun p:Pg=>p.name)).Nodup
  rw [pgT_names]
  refine List.pairwise_map.2 (List.nodup_range.imp_of_mem ?_)
  intro a b ha hb hab e
  exact hab (pgName_inj (by have:=List.mem_range.1 ha; omega) (by have:=List.mem_range.1 hb; omega) e)
 ·obtain ⟨i,m,r,hi,rfl⟩:=he p h
  have:=pgNames_len (fJ l (iJ l)).1 (eJ l) i
  rw [jQ] at this
  show (zW _ _ _).length≤100
  omega
 ·obtain ⟨i,m,r,hi,rfl⟩:=he p h
  obtain ⟨j,f,f1,-,rfl⟩:=mem_pgNames.1 hs
  obtain ⟨k,hk⟩:=List.mem_iff_getElem?.1 (form_mem.2 (List.mem_of_getElem? f1))
  rw [gQ (mQ l) hk]
  omega
 ·obtain ⟨i,m,r,hi,rfl⟩:=he p h
  show (skipE l _ r m).1=zE∨_
  unfold skipE
  split
  ·right
   have hnm:∀ f∈(fJ l (iJ l)).1,rJ f.name.data.toList:=fun f hf=>(hok.each f (form_mem.2 hf)).name
   obtain ⟨w1,w2,w3⟩:=genE_ok l _ hnm 1 2 m (by omega) (by omega)
   have ht:=ty_gen (fs:=(fJ l (iJ l)).1) (g:=tyF (kQ l).fields) (fun f hf=>tyF_mem (mQ l) f (form_mem.2 hf)) l 1 2 m (by omega) (by omega)
   show (gJ l _ 1 2 m).1.op≠0∧_
   generalize (gJ l (fJ l (iJ l)).1 1 2 m).1=x at *
   have w2:(szE x).1≤4:=w2
   refine ⟨?_,w1,by show (szE x).1 < 1000000; omega,?_⟩
   ·rcases w1.top with t | t | t <;> omega
   ·have cx:chkE x=0:=by unfold chkE; rw [if_neg (by omega),if_neg (by omega)]
    have ho:ofE (kQ l).fields x=(2,0):=by unfold ofE; rw [if_pos cx,ht]
    show fitsE (kQ l).fields x 2=0
    unfold fitsE
    rw [ho]; rfl
  ·left; rfl
end Go.Proofs.YtmoahpojchndiaaGreatDoor
namespace Go.Proofs.YtmoahpojchndiaaGreatDoor
open Go.RowKit
set_option linter.unusedVariables false
theorem form_okFm (l:List RawD):OkFm (kQ l) (rhoL (lW (kQ l).fields)) (lvF l):=⟨form_okFs l _ (mQ l) (fun f=>Iff.rfl) (by have:=lQ l; have:=gW l; omega),form_okGs l,form_ranked l⟩
theorem form_ty (l:List RawD):∀ f∈(kQ l).fields,1≤f.ty∧f.ty≤3:=fun f hf=>by obtain ⟨_,_,_,_,q,_⟩:=form_each hf; exact q
def allF (l m:List RawD) (orc:List Aw):List Vl:=allW (kQ l).fields (inpE (kQ l).fields m) orc (xW (rhoL (lW (kQ l).fields)) (kQ l).fields.length)
structure InpOk (fs:List Fd) (env:Env):Prop where
 known:∀ p∈env,p.2.known
 told:uK fs [] env=0
 few:env.length≤fs.length
 once:(env.map (·.1)).Nodup
theorem inp_ok (l m:List RawD):InpOk (kQ l).fields (inpE (kQ l).fields m):=by
 have k0:=inp_told (l:=m) (mQ l)
 have k2:((inpE (kQ l).fields m).map (·.1)).Nodup:=inpF_nodup (l:=m) (mQ l) (kQ l).fields.length (Nat.le_refl _)
 exact ⟨inp_known (l:=m) (form_ty l),factsV_ok _ _ [] k0 k2,(inpF_le (kQ l).fields m (kQ l).fields.length).2,k2⟩
theorem allF_sol (l m:List RawD) {orc:List Aw} (ho:∀ p∈orc,OkV p.has):Sol (kQ l).fields (inpE (kQ l).fields m) orc (allF l m orc)∧∀ x∈allF l m orc,OkV x :=
 all_sol (form_okFm l).fields (inp_ok l m).known ho (ordL_ordd (form_ranked l) (by have:=lQ l; have:=gW l; omega))
theorem all_form (l m:List RawD) (orc:List Aw) (A:Option Addr) (c:Nat) (B:Option Addr) (d:Nat) (si so:Value) (h:Vw) (hf:IsForm h (.slice A (kQ l).fields.length c) (.slice B (kQ l).pages.length d) (kQ l)) (hi:RS h 7 si (yK (inpE (kQ l).fields m)))
  (ho:RS h 7 so (tJ orc)) (lo:orc.length≤1000) (ko:∀ p∈orc,OkV p.has)
  (hO:∀ H,IsForm H (.slice A (kQ l).fields.length c) (.slice B (kQ l).pages.length d) (kQ l)→RS H 7 so (tJ orc)→C0 Tryz.prog 62 #[.agg #[.slice A (kQ l).fields.length c,.slice B (kQ l).pages.length d],so] H (fun r _=>r=.int .i64 0)) :
  C0 Tryz.prog 17 #[.agg #[.slice A (kQ l).fields.length c,.slice B (kQ l).pages.length d],si,so] h (fun r h'=>∃ A' c',r=.tuple #[.slice A' (kQ l).fields.length c',.int .i64 0]∧RS h' 3 (.slice A' (kQ l).fields.length c') (qY (allF l m orc))):=by
 have hn:=gW l
 have hl:=lQ l
 have hI:=inp_ok l m
 have:=hI.few
 exact whAll_any (kQ l) _ _ A _ c B _ d _ si so orc h (form_okFm l) hf rfl (by omega) hi (by omega) hI.known hI.told ho lo ko hO
end Go.Proofs.YtmoahpojchndiaaGreatDoor
namespace Go.Proofs.YtmoahpojchndiaaGreatDoor
open Go.RowKit
set_option linter.unusedVariables false
theorem int_len (l:List Int):Len 1 (sX l):=fun r hr=>by obtain ⟨x,-,rfl⟩:=List.mem_map.1 hr; rfl
theorem int_one (l:List Int):One (sX l):=fun r hr u hu=>by
 obtain ⟨x,-,rfl⟩:=List.mem_map.1 hr
 rw [List.mem_singleton.1 hu]; rfl
theorem info_int:(Tryz.prog.info? 3).map (fun i=>(i.zero,i.size,i.bytes))=some (some (.int .i64 0),1,8):=by kernel_rfl
set_option maxHeartbeats 2000000 in
theorem clone_int (v:Value) (l:List (List Value)) (w:World) (h:Sl w 1 v l) (hk:Len 1 l) (h1:One l) (hl:l.length * 8≤140737488355328) :
  Calls Tryz.prog 23 #[v] w (GivesOwn 3 1 l w):=by
 have q22:∀ (w:World) (a:Option Addr) (n c n' c':Nat),(binOp .eql 30 (.slice a n c) (.slice none n' c')).run Tryz.prog w=.ok (.bool a.isNone) w:=fun w a n c n' c'=>Lib.run_eql_slice_nil w _ _ a n c n' c' Tryz.underlying30
 obtain ⟨A,cap,rfl,c1,c2,hA⟩:=h.form
 cases A with
 | none =>
  obtain rfl:=hA rfl
  have h0:l.length=0:=by omega
  obtain rfl:=List.length_eq_zero_iff.1 h0
  go_enter Tryz.func23,Tryz.ntmps23
  go_wp2_with fail
  go_ret
  exact ⟨_,rfl,⟨by simp,.inl ⟨rfl,rfl⟩⟩,Evo.refl _⟩
 | some a =>
  have HR:=Lib.hid h
  have HK:=Lib.hid hk
  have H1:=Lib.hid h1
  clear h hk h1
  go_enter Tryz.func23,Tryz.ntmps23
  go_wp2_with (at_builtin; refine wpList_append_rows rfl (.tmp 5) (.tmp 6) 30 rfl 3 _ 1 8 Tryz.underlying30 info_int rfl (by decide) w ((Evo.refl _).alloc _) [] l _ _ rfl rfl ⟨World.ownsRow_made w #[] 0 (Nat.le_refl _) (Nat.zero_le _) (by simp)⟩ (HR.out.at ((Evo.refl _).alloc _)) HK.out H1.out ?c1 ?c2 ?_)
  case c1=>simp; omega
  case c2=>simpa using hl
  intro v' w1 hown hbl hg
  have HW:=Lib.hid (⟨hown,hbl⟩:Own w1 w.heap.size 3 1 v' ([]++l).length ([]++l).flatten∧Evo w w1)
  clear hown hg hbl
  go_wp2_with fail
  go_ret
  exact ⟨_,rfl,HW.out.1,HW.out.2⟩
theorem CRow.slu {P:Program} {f:FuncId} {args:Array Value} {h:Vw} {e:TypeId} {k:Nat} {l:List (List Value)} (hc:CRow P f args h e k (fun _ rows=>rows=l)):CRow P f args h e k (fun v rows=>(∃ u,v=.slice (sA u) (sN u) (sC u))∧rows=l):=by
 intro a1 a2 a3 a4
 refine (hc a1 a2 a3 a4).mono ?_
 rintro en w' ⟨v,Bo,h1,h2,h3,h4,r,h5,rfl⟩
 obtain ⟨A,c,rfl,-,-⟩:=uX h5
 exact ⟨_,Bo,h1,h2,h3,h4,r,h5,⟨.slice A r.length c,rfl⟩,rfl⟩
theorem c_cloneI {h:Vw} {v:Value} {l:List Int} (hr:RS h 1 v (sX l)) (hl:l.length≤1000000):CRow Tryz.prog 23 #[v] h 3 1 (fun v rows=>(∃ u,v=.slice (sA u) (sN u) (sC u))∧rows=sX l) :=
 CRow.slu (CRow.of_own (int_len l) (clone_int v (sX l) h.w (Sl.of_rs hr) (int_len _) (int_one _) (by rw [List.length_map]; omega)))
structure PathOk (l:List Int) (m:Nat):Prop where
 rise:l.Pairwise (· < ·)
 lo:∀ x∈l,0≤x
 hi:∀ x∈l,x≤(m:Int)
theorem rise_at {l:List Int} (h:l.Pairwise (· < ·)) {i j:Nat} {x y:Int} (hij:i < j) (hx:l[i]?=some x) (hy:l[j]?=some y):x < y:=by
 obtain ⟨a,ea⟩:=List.getElem?_eq_some_iff.1 hx
 obtain ⟨b,eb⟩:=List.getElem?_eq_some_iff.1 hy
 have:=List.pairwise_iff_getElem.1 h i j a b hij
 rw [ea,eb] at this
 exact this
set_option maxHeartbeats 4000000 in
theorem navCheck_any (f:Fm) (ρ:List Int) (lv:Nat→Nat) (A:Option Addr) (n c:Nat) (B:Option Addr) (m d:Nat) (va:List Vl) (A1:Option Addr) (c1:Nat) (path:List Int) (A2:Option Addr) (c2:Nat) (at_:Int) (h:Vw) (hok:OkFm f ρ lv) (hf:IsForm h (.slice A n c) (.slice B m d) f) (hn:n=f.fields.length) (hm:m=f.pages.length)
  (hv:RS h 3 (.slice A1 n c1) (qY va)) (la:va.length=n) (ov:∀ x∈va,OkV x) (hp:RS h 1 (.slice A2 path.length c2) (sX path)) (lp:path.length≤100) (pk:PathOk (path++[at_]) m) :
  C0 Tryz.prog 19 #[.agg #[.slice A n c,.slice B m d],.slice A1 n c1,.agg #[.int .i64 at_,.slice A2 path.length c2,.bool (at_ == (m:Int))]] h (fun r _=>r=.int .i64 0):=by
 have hC:=fun H q=>shCheck_any f ρ lv A n c B m d H hok q hn
 have few:=hok.fields.few
 have hck:=fun x (hx:x∈va) H=>check_okv x H (ov x hx)
 have hcl:=fun H (q:RS H 1 (.slice A2 path.length c2) (sX path))=>c_cloneI q (by omega)
 have hpl:(sX path).length=path.length:=List.length_map _
 have hl0:=pk.lo
 have hl1:=pk.hi
 have hl2:=pk.rise
 have hrw:sX path++[[.int .i64 at_]]=sX (path++[at_]):=by simp [sX]
 have hll:(path++[at_]).length=path.length + 1:=by simp
 generalize hL:path++[at_]=l at *
 generalize hnp:path.length=np at *
 refine sQ Tryz.func19 (c:=Tryz.f19.body.getD .skip) (N:=70) ?_
 intro hbx hbad Q hQ
 refine go2 35 [.own,.own,.b 1 0,.cl 46 #[.agg #[.slice A n c,.slice B m d]] (Vi 0),.b 1 0] [] ?_ (ho:=(And.intro (fun H sH=>hC _ (hf.sees sH)) (trivial)))
 intro b1 b2
 refine uQ (t:=(n:Int) != (n:Int)) ((by simp)) ?_
 refine go0 11 [] [] ?_
 refine zQ [0,1,0,1,1,1] [.block 0,.seq [1,1,1,1]] (fun (k:Nat) X=>∃ (W3:Vw) ,X W3 [(3,Vp b1),(5,Vp b2),(25,.slice A1 n c1),(26,Vi (n:Int)),(27,Vi (k:Int))] [.box b2 [Vi at_,.slice A2 np c2,.bool (at_ == (m:Int))],.box b1 [.slice A n c,.slice B m d]] []∧Sees h W3∧(k≤n)) (fun k=>n - k) (0) (fun X q=>⟨h,q _ _ _ _ ⟨rfl,by kernel_rfl⟩,Sees.refl _,Nat.zero_le _⟩) ?_
 rintro k a w ⟨W3,hJ,S4,hk⟩; refine eV hJ ?_; clear hJ a w
 refine go0 6 [] [] ?_
 rcases (by omega:k < n∨k=n) with hlt | hke
 ·obtain ⟨x,hx⟩:∃ x,va[k]?=some x:=⟨_,List.getElem?_eq_getElem (by omega)⟩
  have hrow:=vlRows_get hx
  have hckx:=fun H=>hck x (List.mem_of_getElem? hx) H
  refine kV (t:=decide ((k:Int) < (n:Int))) (decide_eq_true (by omega)) ?_
  refine go0 6 [] [] ?_
  obtain ⟨b5,o6,rfl,-,c7⟩:=RS.row hv (hrow)
  refine tQ (c7.sees S4) ?_
  refine go1 27 [.ix b5 o6 n c1 k,.f 0 0,.own,.b 0 0,.b 0 0,.cl 26 #[.agg #[Vi x.k,Vi x.n,.string x.s]] (Vi 0)] [(36,Vi (IntKind.i64.wrap ((k:Int) + 1)),Vi ((k:Int) + 1))] ?_ (ho:=(And.intro (by first | omega | (simp; omega)) (And.intro (fun H sH=>hckx _) (trivial)))) (hc:=(And.intro (jJ (by omega) (by omega)) (trivial)))
  intro b8
  exact jV (k + 1) (fun X q=>⟨W3,q _ _ _ _ ⟨rfl,by kernel_rfl⟩,S4,by omega⟩) (by omega)
 ·skip
  refine uQ (t:=decide ((k:Int) < (n:Int))) (decide_eq_false (by omega)) ?_
  refine go0 2 [] [] ?_
  refine yQ ?_
  refine go0 9 [] [] ?_
  refine gV 9 1 [.pu,.ld 1 1,.e (fun gh=>.slice (sA (gh 2)) (sN (gh 2)) (sC (gh 2))) 0 (fun gh=>.row (.slice (sA (gh 2)) (sN (gh 2)) (sC (gh 2))) 3 1 (sX path)),.pu,.ld 1 0,.f (fun gh=>.slice (some ⟨(wJ (gh 5)),0,none⟩) 1 1) (fun gh hh=>Cells hh (wJ (gh 5)) 0 [Vi at_]),.e (fun gh=>.slice (sA (gh 6)) (sN (gh 6)) (sC (gh 6))) 0 (fun gh=>.row (.slice (sA (gh 6)) (sN (gh 6)) (sC (gh 6))) 3 1 ((sX path)++[[Vi at_]])),.pu,.pu] [(2,false),(5,true),(6,false)] (And.intro (fun _ _ _ s c=>c.sees s) (trivial)) ?_ ?_
  ·intro R hT hA hmono
   refine And.intro (r_callown hT hA hmono ⟨fun _ _=>by kernel_rfl,fun _ _=>by kernel_rfl,fun _ _=>by kernel_rfl⟩ (by kernel_rfl) 39 (fun u=>.slice (sA u) (sN u) (sC u)) [1] 2 (by kernel_rfl) (fun _=>by kernel_rfl) 0 (GN R 0) (by kernel_rfl) (by kernel_rfl) (by kernel_rfl) 3 1 (fun gh=>sX path) (fun _=>by kernel_rfl) (fun _=>by kernel_rfl) (fun _ _=>rfl) 23 (fun gh=>#[.slice A2 np c2]) (fun _ _=>by kernel_rfl) (fun gh H sH fH=>hcl _ (hp.sees (S4.trans sH)))) ?_
   refine And.intro (r_fact hT hA hmono ⟨fun _ _=>by kernel_rfl,fun _ _=>by kernel_rfl,fun _ _=>by kernel_rfl⟩ 42 (fun g=>Vs g 1 1) [4] 5 (by kernel_rfl) (by kernel_rfl) (fun _=>by kernel_rfl) (fun gh=>[Vi at_]) 3 (fun _ _=>by kernel_rfl) (fun gh zb zH zc zj zq zhq zhe=>own_fact (i:=5) (k:=0) (f:=fun gh hh=>Cells hh (wJ (gh 5)) 0 [Vi at_]) (by kernel_rfl) (by kernel_rfl) zc zj zq zhq zhe)) ?_
   refine And.intro (kX hT hA hmono ⟨fun _ _=>by kernel_rfl,fun _ _=>by kernel_rfl,fun _ _=>by kernel_rfl⟩ 43 [2,5] 6 0 (GN R 0) (fun gh=>.slice (sA (gh 2)) (sN (gh 2)) (sC (gh 2))) 30 3 1 (fun gh=>sX path) (fun gh=>[[Vi at_]]) (.tmp 39) (.tmp 42) (fun gh=>(wJ (gh 5))) 1 1 0 5 (fun gh hh=>Cells hh (wJ (gh 5)) 0 [Vi at_]) (fun _ _ c=>c) Tryz.underlying30 (zv:=Vi 0) (bytes:=8) (fun _=>by constructor <;> (simp; omega))) ?_
   trivial
  rintro u39 b10 v43 W11 S12 ⟨f9,-⟩
  replace f9:Cells W11 b10 0 [Vi at_]:=f9
  refine tQ f9 ?_
  refine go0 2 [] [] ?_
  refine xQ [(3,Vp b1),(5,Vp b2),(11,Vi (-1)),(43,.slice (sA v43) (sN v43) (sC v43)),(44,Vi (sN v43:Int)),(45,Vi 0)] [.row (.slice (sA v43) (sN v43) (sC v43)) 3 1 ((sX path)++[[Vi at_]]),.box b2 [Vi at_,.slice A2 np c2,.bool (at_ == (m:Int))],.box b1 [.slice A n c,.slice B m d]] [(b10,0,[Vi at_])] ?_
  rw [hrw]
  have hlr:(sX l).length=l.length:=List.length_map _
  refine vQ 0 (v:=.slice (sA v43) (sN v43) (sC v43)) (e:=3) (kk:=1) (l:=sX l) ?_; intro Ap cp hE_v43 hc_v43 hm_v43
  rw [show (sX l).length=(np + 1) from by first | omega | (simp; done) | (simp; omega)] at hE_v43 hc_v43
  rw [hE_v43]
  have hE43:(sN v43:Int)=((np + 1:Nat):Int):=by simp only [Value.slice.injEq] at hE_v43; rw [hE_v43.2.1]
  refine iV 44 (v:=Vi (sN v43:Int)) (v':=Vi ((np + 1:Nat):Int)) (congrArg (Value.int .i64) hE43) ?_
  refine wQ 0 (v:=.slice Ap (np + 1) cp) (e:=3) (kk:=1) (l:=sX l) ?_; intro W13 S14 fr
  refine zQ [0,1,0,1,1,1,1,1] [.block 2,.seq [1,1,1,1,1,1]] (fun (j:Nat) X=>∃ (W15:Vw) (last:Int),X W15 [(3,Vp b1),(5,Vp b2),(43,.slice Ap (np + 1) cp),(44,Vi ((np + 1:Nat):Int)),(45,Vi (j:Int)),(11,Vi last)] [.box b2 [Vi at_,.slice A2 np c2,.bool (at_ == (m:Int))],.box b1 [.slice A n c,.slice B m d]] [(b10,0,[Vi at_])]∧Sees W13 W15∧(j≤np + 1)∧(∀ x,l[j]?=some x→last < x)) (fun j=>np + 1 - j) (0) (fun X q=>⟨W13,-1,q _ _ _ _ ⟨rfl,by kernel_rfl⟩,Sees.refl _,Nat.zero_le _,fun x hx=>by have:=hl0 x (List.mem_of_getElem? hx); omega⟩) ?_
  rintro j a w ⟨W15,last,hJ,S16,hj,hlast⟩; refine eV hJ ?_; clear hJ a w
  refine go0 6 [] [] ?_
  rcases (by omega:j < np + 1∨j=np + 1) with hjl | hje
  ·obtain ⟨x,hx⟩:∃ x,l[j]?=some x:=⟨_,List.getElem?_eq_getElem (by omega)⟩
   have hrow:=rk_row hx
   have q1:=hlast x hx
   have q2:=hl1 x (List.mem_of_getElem? hx)
   refine kV (t:=decide ((j:Int) < ((np + 1:Nat):Int))) (decide_eq_true (by omega)) ?_
   refine go0 6 [] [] ?_
   obtain ⟨b17,o18,rfl,-,c19⟩:=RS.row fr (hrow)
   refine tQ (c19.sees S16) ?_
   refine go0 33 [.ix b17 o18 (np + 1) cp j,.f 0 0,.b 1 1] [(51,.bool (decide (x≤last)),.bool false),(57,.bool (decide (x > (m:Int))),.bool false),(60,Vi (IntKind.i64.wrap ((j:Int) + 1)),Vi ((j:Int) + 1))] ?_ (ho:=(And.intro (by first | omega | (simp; omega)) (trivial))) (hc:=(And.intro (congrArg Value.bool (decide_eq_false (by omega))) (And.intro (congrArg Value.bool (decide_eq_false (by omega))) (And.intro (jJ (by omega) (by omega)) (trivial)))))
   exact jV (j + 1) (fun X q=>⟨W15,x,q _ _ _ _ ⟨rfl,by kernel_rfl⟩,S16,by omega,fun y hy=>rise_at hl2 (Nat.lt_succ_self j) hx hy⟩) (by omega)
  ·skip
   refine uQ (t:=decide ((j:Int) < ((np + 1:Nat):Int))) (decide_eq_false (by omega)) ?_
   refine go0 2 [] [] ?_
   refine yQ ?_
   refine go0 25 [.b 0 2,.b 0 0,.b 1 1] [(69,.bool ((at_ == (m:Int)) != (at_ == (m:Int))),.bool false)] ?_ (hc:=(And.intro (congrArg Value.bool (by simp)) (trivial)))
   refine hQ.to [Vi 0] (fun H sH=>?_)
   exact rfl
def wV (fs:List Fd) (va:List Vl) (l:List ByteArray):List ByteArray:=l.filter fun s=>Bool.not (decide ((va.getD (fQ fs s).toNat zV).k≤3))
theorem lackN_snoc (fs:List Fd) (va:List Vl) (l:List ByteArray) (s:ByteArray):wV fs va (l++[s])=wV fs va l++if (va.getD (fQ fs s).toNat zV).k≤3 then [] else [s]:=by
 unfold wV
 rw [List.filter_append]
 by_cases g:(va.getD (fQ fs s).toNat zV).k≤3
 ·rw [if_pos g,List.filter_cons_of_neg (by rw [decide_eq_true g]; exact Bool.false_ne_true)]; rfl
 ·rw [if_neg g,List.filter_cons_of_pos (by rw [decide_eq_false g]; rfl)]; rfl
theorem lackN_len (fs:List Fd) (va:List Vl) (l:List ByteArray):(wV fs va l).length≤l.length:=List.length_filter_le _ _
theorem known_dec (v:Vl) (ho:OkV v) (h:Vw):C0 Tryz.prog 21 #[v.val] h (fun r _=>r=.bool (decide (v.k≤3))):=by
 by_cases g:v.k≤3
 ·rw [decide_eq_true g]
  rcases ho with q | rfl | ⟨q,-⟩
  ·exact c_kn v.k v.n v.s h q
  ·exact absurd g (by decide)
  ·omega
 ·rw [decide_eq_false g]
  exact known_no v h g (ok_kinds ho).1
set_option maxHeartbeats 4000000 in
theorem navLacks_any (f:Fm) (ρ:List Int) (lv:Nat→Nat) (A:Option Addr) (n c:Nat) (B:Option Addr) (m d:Nat) (va:List Vl) (A1:Option Addr) (c1:Nat) (at_:Nat) (p:Pg) (h:Vw) (hok:OkFm f ρ lv) (hf:IsForm h (.slice A n c) (.slice B m d) f) (hn:n=f.fields.length) (hm:m=f.pages.length)
  (hv:RS h 3 (.slice A1 n c1) (qY va)) (la:va.length=n) (ov:∀ x∈va,OkV x) (hpg:f.pages[at_]?=some p) :
  C0 Tryz.prog 22 #[.agg #[.slice A n c,.slice B m d],.slice A1 n c1,.int .i64 (at_:Int)] h (fun r h'=>∃ A c,r=.tuple #[.slice A (wV f.fields va p.fields).length c,.int .i64 0]∧RS h' 1 (.slice A (wV f.fields va p.fields).length c) (lY (wV f.fields va p.fields))):=by
 have m1:=hok.pages.one
 have hC:∀ H,IsForm H (.slice A n c) (.slice B m d) f→RS H 3 (.slice A1 n c1) (qY va)→C0 Tryz.prog 19 #[.agg #[.slice A n c,.slice B m d],.slice A1 n c1,.agg #[.int .i64 0,.slice none 0 0,.bool false]] H (fun r _=>r=.int .i64 0):=fun H q1 q2=>by
  have:=navCheck_any f ρ lv A n c B m d va A1 c1 [] none 0 0 H hok q1 hn hm q2 la ov (RS.nil H 1) (by decide) ⟨List.pairwise_singleton _ _,fun x hx=>by rw [List.mem_singleton.1 hx]; omega,fun x hx=>by rw [List.mem_singleton.1 hx]; omega⟩
  rw [show ((0:Int) == (m:Int))=false from beq_eq_false_iff_ne.2 (by omega)] at this
  exact this
 have few:=hok.fields.few
 have hF:=fun H s i q hp=>find_yes f.fields (.slice A n c) s i H q (by omega) hp
 have hhere:=hok.pages.here p (List.mem_of_getElem? hpg)
 have hpf:=hok.pages.fl p (List.mem_of_getElem? hpg)
 have hatm:at_ < m:=by rw [hm]; exact (List.getElem?_eq_some_iff.1 hpg).1
 obtain ⟨us,ws,B2,d2,e2,-,hpr,hps,hpa,-,-⟩:=pgs_open hf.pages
 simp only [Value.slice.injEq] at e2
 obtain ⟨rfl,-,rfl⟩:=e2
 rw [← hm] at hpr
 obtain ⟨Au,cu,Bu,mu,du,hprow,hrs,-⟩:=pg_at hps hpa hpg
 have hlk:=fun k=>lackN_len f.fields va (p.fields.take k)
 have hst:(lY p.fields).length=p.fields.length:=List.length_map _
 generalize hpl:p.fields.length=np at *
 refine sQ Tryz.func22 (c:=Tryz.f22.body.getD .skip) (N:=60) ?_
 intro hbx hbad Q hQ
 refine go1 54 [.own,.b 0 0,.cl 19 #[.agg #[.slice A n c,.slice B m d],.slice A1 n c1,.agg #[Vi 0,Vz,.bool false]] (Vi 0),.b 0 1,.b 0 1] [(22,.bool (decide ((at_:Int) < 0)),.bool false),(28,.bool (decide ((at_:Int) ≥ (m:Int))),.bool false)] ?_ (ho:=(And.intro (fun H sH=>hC _ (hf.sees sH) (hv.sees sH)) (trivial))) (hc:=(And.intro (congrArg Value.bool (decide_eq_false (by omega))) (And.intro (congrArg Value.bool (decide_eq_false (by omega))) (trivial))))
 intro b1
 obtain ⟨b2,o3,rfl,-,c4⟩:=RS.row hpr (hprow)
 refine tQ (c4.sees (Sees.refl _)) ?_
 refine go0 8 [.ix b2 o3 m d at_,.f 0 1] [] ?_ (ho:=(And.intro (by first | omega | (simp; omega)) (trivial)))
 refine dV 9 1 ?_
 refine zQ [0,1,0,1,1,1,1] [.block 0,.seq [1,1,1,1,1]] (fun (k:Nat) X=>∃ (W5:Vw) (v:Value),X W5 [(1,.slice A1 n c1),(3,Vp b1),(35,.slice Au np cu),(36,Vi (np:Int)),(37,Vi (k:Int)),(9,v)] [.row v 9 1 (lY (wV f.fields va (p.fields.take k))),.box b1 [.slice A n c,.slice (some ⟨b2,o3,none⟩) m d]] [(b2,o3 + at_ * 8,[.string p.name,.slice Au np cu,Vi p.skip.op,Vi p.skip.k,Vi p.skip.n,.string p.skip.s,.string p.skip.nm,.slice Bu mu du])]∧Sees h W5∧(k≤np)) (fun k=>np - k) (0) (fun X q=>⟨h,(Vz),q _ _ _ _ ⟨rfl,by kernel_rfl⟩,Sees.refl _,Nat.zero_le _⟩) ?_
 rintro k a w ⟨W5,v,hJ,S6,hk⟩; refine eV hJ ?_; clear hJ a w
 refine go0 6 [] [] ?_
 rcases (by omega:k < np∨k=np) with hlt | hke
 ·obtain ⟨s,hs⟩:∃ s,p.fields[k]?=some s:=⟨_,List.getElem?_eq_getElem (by omega)⟩
  have hsr:=str_row hs
  have hsn:=lackN_snoc f.fields va (p.fields.take k) s
  rw [← nY _ k s hs] at hsn
  have hl2:=hlk k
  rw [List.length_take] at hl2
  have hsl:(lY (wV f.fields va (p.fields.take k))).length=(wV f.fields va (p.fields.take k)).length:=List.length_map _
  obtain ⟨i,x,hi,hfi⟩:∃ (i:Nat) (x:Vl),fQ f.fields s=(i:Int)∧va[i]?=some x:=by
   have q:=hhere s (List.mem_of_getElem? hs)
   rcases findF_lt f.fields s with g | ⟨i,g,e,hg,-⟩
   ·omega
   ·exact ⟨i,_,e,List.getElem?_eq_getElem (by rw [la,hn]; exact (List.getElem?_eq_some_iff.1 hg).1)⟩
  have hF1:=fun H q=>hF H s i q hi
  have hrow:=vlRows_get hfi
  have hil:i < n:=by rw [← la]; exact (List.getElem?_eq_some_iff.1 hfi).1
  have hkn:=fun H=>known_dec x (ov x (List.mem_of_getElem? hfi)) H
  rw [hi,Int.toNat_natCast,List.getD_eq_getElem?_getD,hfi,Option.getD_some] at hsn
  by_cases g:x.k≤3
  ·rw [if_pos g,List.append_nil] at hsn
   rw [decide_eq_true g] at hkn
   refine kV (t:=decide ((k:Int) < (np:Int))) (decide_eq_true (by omega)) ?_
   refine go0 6 [] [] ?_
   obtain ⟨b7,o8,rfl,-,c9⟩:=RS.row hrs (hsr)
   refine tQ (c9.sees S6) ?_
   refine go0 22 [.ix b7 o8 np cu k,.f 0 0,.b 1 0,.cl 20 #[.slice A n c,.string s] (.tuple #[Vi (i:Int),Vi 0])] [] ?_ (ho:=(And.intro (by first | omega | (simp; omega)) (And.intro (fun H sH=>hF1 _ ((hf.sees (S6.trans sH))).fields) (trivial))))
   obtain ⟨b10,o11,rfl,-,c12⟩:=RS.row hv (hrow)
   refine tQ (c12.sees S6) ?_
   refine go0 14 [.ix b10 o11 n c1 i,.f 0 0,.cl 21 #[.agg #[Vi x.k,Vi x.n,.string x.s]] (.bool true)] [(58,Vi (IntKind.i64.wrap ((k:Int) + 1)),Vi ((k:Int) + 1))] ?_ (ho:=(And.intro (by first | omega | (simp; omega)) (And.intro (fun H sH=>hkn _) (trivial)))) (hc:=(And.intro (jJ (by omega) (by omega)) (trivial)))
   refine xQ [(1,.slice (some ⟨b10,o11,none⟩) n c1),(3,Vp b1),(35,.slice (some ⟨b7,o8,none⟩) np cu),(36,Vi (np:Int)),(9,v),(37,Vi ((k:Int) + 1))] [.row v 9 1 (lY (wV f.fields va (p.fields.take k))),.box b1 [.slice A n c,.slice (some ⟨b2,o3,none⟩) m d]] [(b2,o3 + at_ * 8,[.string p.name,.slice (some ⟨b7,o8,none⟩) np cu,Vi p.skip.op,Vi p.skip.k,Vi p.skip.n,.string p.skip.s,.string p.skip.nm,.slice Bu mu du])] ?_
   exact jV (k + 1) (fun X q=>⟨W5,v,q _ _ _ _ (fY (by rw [hsn])),S6,by omega⟩) (by omega)
  ·skip
   rw [if_neg g] at hsn
   rw [decide_eq_false g] at hkn
   refine kV (t:=decide ((k:Int) < (np:Int))) (decide_eq_true (by omega)) ?_
   refine go0 6 [] [] ?_
   obtain ⟨b13,o14,rfl,-,c15⟩:=RS.row hrs (hsr)
   refine tQ (c15.sees S6) ?_
   refine go0 22 [.ix b13 o14 np cu k,.f 0 0,.b 1 0,.cl 20 #[.slice A n c,.string s] (.tuple #[Vi (i:Int),Vi 0])] [] ?_ (ho:=(And.intro (by first | omega | (simp; omega)) (And.intro (fun H sH=>hF1 _ ((hf.sees (S6.trans sH))).fields) (trivial))))
   obtain ⟨b16,o17,rfl,-,c18⟩:=RS.row hv (hrow)
   refine tQ (c18.sees S6) ?_
   refine pV 11 [.ix b16 o17 n c1 i,.f 0 0,.cl 21 #[.agg #[Vi x.k,Vi x.n,.string x.s]] (.bool false),.fix] [] ?_ (ho:=(And.intro (by first | omega | (simp; omega)) (And.intro (fun H sH=>hkn _) (trivial))))
   intro b19 W20 S21
   refine goa0 9 [.ap 0 0 (lY (wV f.fields va (p.fields.take k))) [[.string s]]] [(58,Vi (IntKind.i64.wrap ((k:Int) + 1)),Vi ((k:Int) + 1))] ?_ (ho:=(And.intro (by constructor <;> (simp; omega)) (trivial))) (hc:=(And.intro (jJ (by omega) (by omega)) (trivial)))
   intro v57 W22 S23
   refine xQ [(1,.slice (some ⟨b16,o17,none⟩) n c1),(3,Vp b1),(35,.slice (some ⟨b13,o14,none⟩) np cu),(36,Vi (np:Int)),(9,.slice (sA v57) (sN v57) (sC v57)),(37,Vi ((k:Int) + 1))] [.row (.slice (sA v57) (sN v57) (sC v57)) 9 1 ((lY (wV f.fields va (p.fields.take k)))++[[.string s]]),.box b1 [.slice A n c,.slice (some ⟨b2,o3,none⟩) m d]] [(b2,o3 + at_ * 8,[.string p.name,.slice (some ⟨b13,o14,none⟩) np cu,Vi p.skip.op,Vi p.skip.k,Vi p.skip.n,.string p.skip.s,.string p.skip.nm,.slice Bu mu du])] ?_
   exact jV (k + 1) (fun X q=>⟨W22,.slice (sA v57) (sN v57) (sC v57),q _ _ _ _ (fY (by rw [hsn]; simp [lY])),(S6.trans (S21.trans S23)),by omega⟩) (by omega)
 ·skip
  have hta:p.fields.take k=p.fields:=by rw [hke,← hpl,List.take_length]
  rw [hta]
  have hrl:(lY (wV f.fields va p.fields)).length=(wV f.fields va p.fields).length:=List.length_map _
  refine vQ 0 (v:=v) (e:=9) (kk:=1) (l:=lY (wV f.fields va p.fields)) ?_; intro Ar cr hE_v hc_v hm_v
  rw [show (lY (wV f.fields va p.fields)).length=(wV f.fields va p.fields).length from by first | omega | (simp; done) | (simp; omega)] at hE_v hc_v
  rw [hE_v]
  refine uQ (t:=decide ((k:Int) < (np:Int))) (decide_eq_false (by omega)) ?_
  refine go0 2 [] [] ?_
  refine yQ ?_
  refine go0 10 [] [] ?_
  refine xQ [(6,.slice Ar ((wV f.fields va p.fields).length) cr),(7,Vi 0)] [.row (.slice Ar ((wV f.fields va p.fields).length) cr) 9 1 (lY (wV f.fields va p.fields)),.box b1 [.slice A n c,.slice (some ⟨b2,o3,none⟩) m d]] [(b2,o3 + at_ * 8,[.string p.name,.slice Au np cu,Vi p.skip.op,Vi p.skip.k,Vi p.skip.n,.string p.skip.s,.string p.skip.nm,.slice Bu mu du])] ?_
  refine hQ.toJ [.slice Ar ((wV f.fields va p.fields).length) cr,Vi 0] [] (fun a w hJ=>?_)
  have fr:=hJ.j.rowOut0 (v:=.slice Ar ((wV f.fields va p.fields).length) cr) (e:=9) (k:=1) (l:=lY (wV f.fields va p.fields)) 0 (by kernel_rfl) rfl
  exact ⟨Ar,cr,rfl,fr⟩
end Go.Proofs.YtmoahpojchndiaaGreatDoor
namespace Go.Proofs.YtmoahpojchndiaaGreatDoor
open Go.RowKit
set_option linter.unusedVariables false
theorem CRow.c0 {P:Program} {f:FuncId} {args:Array Value} {h:Vw} {e:TypeId} {k:Nat} {R:Value→List (List Value)→Prop} (hc:CRow P f args h e k R):C0 P f args h (fun v h'=>∃ l u,v=.slice (sA u) (sN u) (sC u)∧RS h' k (.slice (sA u) (sN u) (sC u)) l∧R v l):=by
 intro a1 a2 a3 a4
 refine (hc a1 a2 a3 a4).mono ?_
 rintro e w' ⟨v,Bo,h1,h2,h3,h4,l,h5,h6⟩
 obtain ⟨A,c,rfl,-,-⟩:=uX h5
 exact ⟨_,Bo,h1,h2,h3,h4,l,.slice A l.length c,rfl,row_rs h5 (fun b hb hm=>by have:=a4 b hm; have:=(h5.1.lt b hb).1; omega),h6⟩
def RSn (h:Vw) (k:Nat) (u:Value) (n:Nat) (l:List (List Value)):Prop:=sN u=n∧RS h k (.slice (sA u) (sN u) (sC u)) l
theorem RSn.sees {h h':Vw} {k n:Nat} {u:Value} {l:List (List Value)} (c:RSn h k u n l) (s:Sees h h'):RSn h' k u n l:=⟨c.1,c.2.sees s⟩
end Go.Proofs.YtmoahpojchndiaaGreatDoor
