/-
  Contract of field.Find.
-/
import Derived.Test.YtmoahpojchndiaaGreatZL9
import Derived.Test.YtmoahpojchndiaaGreatZL22
import Derived.Test.YtmoahpojchndiaaGreatZL3
import Derived.Test.YtmoahpojchndiaaGreatZL4
import Derived.Test.YtmoahpojchndiaaGreatZL10
import Derived.Test.YtmoahpojchndiaaGreatZL27
import Derived.Test.YtmoahpojchndiaaGreatZL5
import Derived.Test.YtmoahpojchndiaaGreatZL15
set_option maxRecDepth 100000
namespace Go.Proofs.YtmoahpojchndiaaGreat
open Go.RowKit
set_option linter.unusedVariables false
theorem cQ {h:Vw} {v:Value} {fs:List Fd} (hf:IsFds h v fs):∃ vs A cap,v=.slice A fs.length cap∧fs.length≤cap∧cap≤maxLen∧RS h 9 (.slice A fs.length cap) (zK fs vs)∧AllSrc h fs vs∧vs.length=fs.length∧∀ u∈vs,.slice (sA u) (sN u) (sC u)=u:=by
 obtain ⟨vs,hr,hs⟩:=hf
 have hl:=hs.len
 have hfl:=bQ hl
 obtain ⟨A,cap,rfl,h1,h2,-⟩:=hr.form
 rw [hfl] at h1 hr ⊢
 refine ⟨vs,A,cap,rfl,h1,h2,hr,hs,hl,fun u hu=>?_⟩
 obtain ⟨i,hi⟩:=List.mem_iff_getElem?.1 hu
 have hil:=(List.getElem?_eq_some_iff.1 hi).1
 obtain ⟨f,hf⟩:∃ f,fs[i]?=some f:=⟨_,List.getElem?_eq_getElem (by omega)⟩
 obtain ⟨Au,nu,cu,rfl⟩:=(AllArgs.get hs (x:=f.src) (by rw [List.getElem?_map,hf]; rfl) hi).slice
 rfl
def dQ (fs:List Fd) (s:ByteArray):Int:=fidx (fun f:Fd=>f.name.toList == s.toList) fs
theorem find1_any (f:Fd) (A:Option Addr) (n c:Nat) (s:ByteArray) (b:Nat) (h:Vw) (hc:Cells h b 0 [.string s]) :
  C0 Tryz.prog 102 #[.agg #[.string f.name,.int .i64 f.kind,.int .i64 f.ty,.int .i64 f.src.op,.int .i64 f.src.k,.int .i64 f.src.n,.string f.src.s,.string f.src.nm,.slice A n c],.pointer (some ⟨b,0,none⟩)] h (fun r _=>r=.bool (f.name.toList == s.toList)):=by
 refine oQ Tryz.func102 (c:=Tryz.f102.body.getD .skip) (N:=8) ?_
 intro hbx hbad Q hQ
 refine pQ (hc.sees (Sees.refl _)) ?_
 refine go1 16 [.own,.b 0 0,.f 0 0] [] ?_
 intro b1
 refine hQ.to [.bool (f.name.toList == s.toList)] (fun H sH=>?_)
 exact rfl
theorem idxF_any (fs:List Fd) (vs:List Value) (A:Option Addr) (cap:Nat) (s:ByteArray) (b:Nat) (h:Vw) (hr:RS h 9 (.slice A fs.length cap) (zK fs vs)) (hl:fs.length≤1000000) (hvl:vs.length=fs.length) (hsl:∀ u∈vs,.slice (sA u) (sN u) (sC u)=u) (hc:Cells h b 0 [.string s]) :
  C0 Tryz.prog 62 #[.slice A fs.length cap,.func (.func 102) #[] #[.pointer (some ⟨b,0,none⟩)]] h (fun r _=>r=.int .i64 (dQ fs s)):=by
 generalize hL:fs.length=len at *
 refine oQ Tryz.func62 (c:=Tryz.f62.body.getD .skip) (N:=19) ?_
 intro hbx hbad Q hQ
 refine go0 14 [] [] ?_
 refine wQ [0,1,0,1] [.block 0,.seq [1,1]] (fun (k:Nat) X=>∃ (W1:Vw) ,X W1 [(0,.slice A len cap),(1,.func (.func 102) #[] #[Vp b]),(7,Vi (len:Int)),(8,Vi (k:Int))] [] []∧Sees h W1∧(k≤len)∧(∀ y∈fs.take k,(y.name.toList == s.toList)=false)) (fun k=>len - k) (0) (fun X q=>⟨h,q _ _ _ _ ⟨rfl,by kernel_rfl⟩,Sees.refl _,Nat.zero_le _,fun y hy=>by simp at hy⟩) ?_
 rintro k a w ⟨W1,hJ,S2,hk,hn⟩; refine aV hJ ?_; clear hJ a w
 refine go0 6 [] [] ?_
 rcases (by omega:k < len∨k=len) with hlt | hke
 ·obtain ⟨f,hfk⟩:∃ f,fs[k]?=some f:=⟨_,List.getElem?_eq_getElem (by omega)⟩
  obtain ⟨u,huk⟩:∃ u,vs[k]?=some u:=⟨_,List.getElem?_eq_getElem (by omega)⟩
  have hrow:(zK fs vs)[k]?=some (fdRow f (.slice (sA u) (sN u) (sC u))):=by rw [hsl u (List.mem_of_getElem? huk)]; exact aQ hfk huk
  refine eV (t:=decide ((k:Int) < (len:Int))) (decide_eq_true (by omega)) ?_
  refine go0 15 [] [] ?_
  obtain ⟨b3,o4,rfl,-,c5⟩:=RS.row hr (hrow)
  refine pQ (c5.sees S2) ?_
  refine go0 5 [.ix b3 o4 len cap k,.f 0 0,.cl 102 #[.agg #[.string f.name,Vi f.kind,Vi f.ty,Vi f.src.op,Vi f.src.k,Vi f.src.n,.string f.src.s,.string f.src.nm,.slice (sA u) (sN u) (sC u)],Vp b] (.bool (f.name.toList == s.toList))] [] ?_ (ho:=(And.intro (by first | omega | (simp; omega)) (And.intro (fun H sH=>find1_any f _ _ _ s b _ (hc.sees (S2.trans sH))) (trivial))))
  cases boolIs (f.name.toList == s.toList) with
  | true hq =>
   refine eV (t:=f.name.toList == s.toList) (hq) ?_
   refine go0 9 [] [] ?_
   refine vQ ?_
   refine go0 2 [] [] ?_
   refine hQ.to [Vi (k:Int)] (fun H sH=>?_)
   exact congrArg (Value.int .i64) (fidx_found _ fs k f hn hfk hq).symm
  | false hq =>
   refine qQ (t:=f.name.toList == s.toList) (hq) ?_
   refine go0 7 [] [(18,Vi (IntKind.i64.wrap ((k:Int) + 1)),Vi ((k:Int) + 1))] ?_ (hc:=(And.intro (jJ (by omega) (by omega)) (trivial)))
   exact dV (k + 1) (fun X q=>⟨W1,q _ _ _ _ ⟨rfl,by kernel_rfl⟩,S2,by omega,(by rw [sY fs k f hfk]; exact fun y hy=>(List.mem_append.1 hy).elim (hn y) (fun e=>by rw [List.mem_singleton.1 e]; exact hq))⟩) (by omega)
 ·skip
  have htk:fs.take k=fs:=by rw [hke,← hL,List.take_length]
  rw [htk] at hn
  refine qQ (t:=decide ((k:Int) < (len:Int))) (decide_eq_false (by omega)) ?_
  refine go0 2 [] [] ?_
  refine vQ ?_
  refine go0 8 [] [] ?_
  refine hQ.to [Vi (-1)] (fun H sH=>?_)
  exact congrArg (Value.int .i64) (fidx_none _ fs hn).symm
def findV (fs:List Fd) (s:ByteArray):Value:=.tuple #[.int .i64 (if dQ fs s < 0 then 0 else dQ fs s),.int .i64 (if dQ fs s < 0 then 5 else 0)]
theorem find_any (fs:List Fd) (v:Value) (s:ByteArray) (h:Vw) (hf:IsFds h v fs) (hl:fs.length≤1000000):C0 Tryz.prog 60 #[v,.string s] h (fun r _=>r=findV fs s):=by
 obtain ⟨vs,A,cap,rfl,-,-,hr,-,hvl,hsl⟩:=cQ hf
 have hi:=fun H hr' b hc=>idxF_any fs vs A cap s b H hr' hl hvl hsl hc
 have e:findV fs s=.tuple #[.int .i64 (if dQ fs s < 0 then 0 else dQ fs s),.int .i64 (if dQ fs s < 0 then 5 else 0)]:=rfl
 rw [e]
 clear e
 generalize dQ fs s=p at *
 refine oQ Tryz.func60 (c:=Tryz.f60.body.getD .skip) (N:=13) ?_
 intro hbx hbad Q hQ
 refine kV 11 [.fix] [] ?_
 intro bsn W1 S2
 refine nQ 0 bsn 0 [.string s] fun sn=>?_
 refine go0 11 [.cl 62 #[.slice A fs.length cap,.func (.func 102) #[] #[Vp bsn]] (Vi p)] [] ?_ (ho:=(And.intro (fun H sH=>hi _ (hr.sees (S2.trans sH)) _ (sn.sees sH)) (trivial)))
 by_cases hp:p < 0
 ·refine eV (t:=decide (p < 0)) (decide_eq_true hp) ?_
  refine go0 8 [] [] ?_
  refine hQ.to [Vi 0,Vi 5] (fun H sH=>?_)
  rw [if_pos hp,if_pos hp]; rfl
 ·skip
  refine qQ (t:=decide (p < 0)) (decide_eq_false hp) ?_
  refine go0 10 [] [] ?_
  refine hQ.to [Vi p,Vi 0] (fun H sH=>?_)
  rw [if_neg hp,if_neg hp]; rfl
theorem find_no (fs:List Fd) (v:Value) (s:ByteArray) (h:Vw) (hf:IsFds h v fs) (hl:fs.length≤1000000) (hp:dQ fs s < 0):C0 Tryz.prog 60 #[v,.string s] h (fun r _=>r=.tuple #[.int .i64 0,.int .i64 5]):=by
 have:=find_any fs v s h hf hl
 unfold findV at this
 rwa [if_pos hp,if_pos hp] at this
theorem find_yes (fs:List Fd) (v:Value) (s:ByteArray) (i:Nat) (h:Vw) (hf:IsFds h v fs) (hl:fs.length≤1000000) (hp:dQ fs s=i):C0 Tryz.prog 60 #[v,.string s] h (fun r _=>r=.tuple #[.int .i64 (i:Int),.int .i64 0]):=by
 have:=find_any fs v s h hf hl
 unfold findV at this
 rwa [hp,if_neg (by omega),if_neg (by omega)] at this
theorem findF_lt (fs:List Fd) (s:ByteArray):dQ fs s = -1∨∃ i:Nat,∃ f,dQ fs s=i∧fs[i]?=some f∧f.name=s:=by
 unfold dQ fidx
 cases e:fs.findIdx? (fun f:Fd=>f.name.toList == s.toList) with
 | none=>exact .inl rfl
 | some k =>
  obtain ⟨h1,h2,-⟩:=List.findIdx?_eq_some_iff_getElem.1 e
  refine .inr ⟨k,_,rfl,List.getElem?_eq_getElem h1,?_⟩
  rw [tl_dec] at h2
  exact of_decide_eq_true h2
theorem eQ {fs:List Fd} (hd:(fs.map (·.name)).Nodup) {i:Nat} {f:Fd} (hi:fs[i]?=some f):dQ fs f.name=i:=by
 have hil:=(List.getElem?_eq_some_iff.1 hi).1
 refine fidx_found _ fs i f (fun y hy=>?_) hi (tl_yes rfl)
 rw [tl_dec,decide_eq_false_iff_not]
 intro e
 obtain ⟨j,hj⟩:=List.mem_iff_getElem?.1 hy
 rw [List.getElem?_take] at hj
 split at hj
 ·rename_i hji
  have h1:(fs.map (·.name))[j]?=some f.name:=by rw [List.getElem?_map,hj,← e]; rfl
  have h2:(fs.map (·.name))[i]?=some f.name:=by rw [List.getElem?_map,hi]; rfl
  have:=((List.getElem?_inj (by rw [List.length_map]; omega) hd).1 (h1.trans h2.symm))
  omega
 ·cases hj
theorem findF_none {fs:List Fd} {s:ByteArray} (h:∀ f∈fs,f.name≠s):dQ fs s = -1:=fidx_none _ fs fun y hy=>tl_no (h y hy)
end Go.Proofs.YtmoahpojchndiaaGreat
namespace Go.Proofs.YtmoahpojchndiaaGreat
open Go.RowKit
set_option linter.unusedVariables false
structure OkF (fs:List Fd) (f:Fd):Prop where
 name:rJ f.name.data.toList
 k1:1≤f.kind
 k3:f.kind≤3
 t1:1≤f.ty
 t3:f.ty≤3
 inp:f.kind=1→f.src=zE
 wf:f.kind≠1→WfE f.src∧(szE f.src).1≤60∧chkE f.src=0
 form:f.kind=2→tyE (tyF fs) f.src=(f.ty,0)
 look:f.kind=3→∃ t,1≤t∧t≤3∧tyE (tyF fs) f.src=(t,0)
structure OkFs (fs:List Fd):Prop where
 each:∀ f∈fs,OkF fs f
 nodup:(fs.map (·.name)).Nodup
 few:fs.length≤14
theorem args_zero {h:Vw} {x:Ex} {v:Value} (hx:x.args=[]) (ha:IsArgs h x v):∃ A c,v=.slice A 0 c:=by
 obtain ⟨vs,hr,-⟩:=ha.form
 obtain ⟨A,c,e,-⟩:=hr.form
 rw [hx] at e
 exact ⟨A,c,e⟩
theorem none_any (A:Option Addr) (c:Nat) (h:Vw):C0 Tryz.prog 210 #[.agg #[.int .i64 0,.int .i64 0,.int .i64 0,.string ⟨#[]⟩,.string ⟨#[]⟩,.slice A 0 c]] h (fun r _=>r=.bool true):=by
 refine oQ Tryz.func210 (c:=Tryz.f210.body.getD .skip) (N:=23) ?_
 intro hbx hbad Q hQ
 refine go1 32 [.own,.b 0 0,.b 0 4,.b 0 1,.b 0 5] [] ?_
 intro b1
 refine hQ.to [.bool true] (fun H sH=>?_)
 exact rfl
theorem right_any (fs:List Fd) (f:Fd) (v:Value) (h:Vw) (hf:OkF fs f) (ha:IsArgs h f.src v):C0 Tryz.prog 178 #[.agg #[.string f.name,.int .i64 f.kind,.int .i64 f.ty,.int .i64 f.src.op,.int .i64 f.src.k,.int .i64 f.src.n,.string f.src.s,.string f.src.nm,v]] h (fun r _=>r=.int .i64 0):=by
 have hn:=fun H=>c_name f.name H hf.name
 have k1:=hf.k1
 have k3:=hf.k3
 have t1:=hf.t1
 have t3:=hf.t3
 by_cases g:f.kind=1
 ·obtain ⟨A,c,rfl⟩:=args_zero (by rw [hf.inp g]; rfl) ha
  have e1:f.src.op=0:=by rw [hf.inp g]; rfl
  have e2:f.src.k=0:=by rw [hf.inp g]; rfl
  have e3:f.src.n=0:=by rw [hf.inp g]; rfl
  have e4:f.src.s=⟨#[]⟩:=by rw [hf.inp g]; rfl
  have e5:f.src.nm=⟨#[]⟩:=by rw [hf.inp g]; rfl
  rw [e1,e2,e3,e4,e5,g]
  refine oQ Tryz.func178 (c:=Tryz.f178.body.getD .skip) (N:=38) ?_
  intro hbx hbad Q hQ
  refine go1 78 [.own,.b 0 0,.cl 160 #[.string f.name] (Vi 0),.b 0 1,.b 0 1,.b 0 2,.b 0 2,.b 0 1,.b 0 3,.cl 210 #[.agg #[Vi 0,Vi 0,Vi 0,Ve,Ve,.slice A 0 c]] (.bool true)] [(21,.bool (decide (f.ty < 1)),.bool false),(26,.bool (decide (f.ty > 3)),.bool false)] ?_ (ho:=(And.intro (fun H sH=>hn _) (And.intro (fun H sH=>none_any A c _) (trivial)))) (hc:=(And.intro (congrArg Value.bool (decide_eq_false (by omega))) (And.intro (congrArg Value.bool (decide_eq_false (by omega))) (trivial))))
  intro b1
  refine hQ.to [Vi 0] (fun H sH=>?_)
  exact rfl
 ·obtain ⟨w1,w2,w3⟩:=hf.wf g
  obtain ⟨A,n,c,rfl⟩:=ha.slice
  have hc:=fun H q=>check_any f.src (.slice A n c) H q w1 (by omega)
  rw [w3] at hc
  refine oQ Tryz.func178 (c:=Tryz.f178.body.getD .skip) (N:=38) ?_
  intro hbx hbad Q hQ
  refine go1 70 [.own,.b 0 0,.cl 160 #[.string f.name] (Vi 0),.b 0 1,.b 0 1,.b 0 2,.b 0 2,.b 0 1,.b 0 3,.cl 104 #[.agg #[Vi f.src.op,Vi f.src.k,Vi f.src.n,.string f.src.s,.string f.src.nm,.slice A n c]] (Vi 0)] [(12,.bool (decide (f.kind < 1)),.bool false),(16,.bool (decide (f.kind > 3)),.bool false),(21,.bool (decide (f.ty < 1)),.bool false),(26,.bool (decide (f.ty > 3)),.bool false),(30,.bool (f.kind == 1),.bool false)] ?_ (ho:=(And.intro (fun H sH=>hn _) (And.intro (fun H sH=>hc _ (ha.sees sH)) (trivial)))) (hc:=(And.intro (congrArg Value.bool (decide_eq_false (by omega))) (And.intro (congrArg Value.bool (decide_eq_false (by omega))) (And.intro (congrArg Value.bool (decide_eq_false (by omega))) (And.intro (congrArg Value.bool (decide_eq_false (by omega))) (And.intro (congrArg Value.bool (beq_eq_false_iff_ne.2 g)) (trivial)))))))
  intro b1
  refine hQ.to [Vi 0] (fun H sH=>?_)
  exact rfl
theorem typed_any (fs:List Fd) (f:Fd) (v fv:Value) (h:Vw) (hf:OkF fs f) (ha:IsArgs h f.src v) (hfs:IsFds h fv fs):C0 Tryz.prog 179 #[.agg #[.string f.name,.int .i64 f.kind,.int .i64 f.ty,.int .i64 f.src.op,.int .i64 f.src.k,.int .i64 f.src.n,.string f.src.s,.string f.src.nm,v],fv] h (fun r _=>r=.int .i64 0):=by
 obtain ⟨A,n,c,rfl⟩:=ha.slice
 obtain ⟨vs,Af,cf,rfl,-⟩:=cQ hfs
 obtain g | g | g:f.kind=1∨f.kind=2∨f.kind=3:=by have:=hf.k1; have:=hf.k3; omega
 ·rw [g]
  refine oQ Tryz.func179 (c:=Tryz.f179.body.getD .skip) (N:=27) ?_
  intro hbx hbad Q hQ
  refine go1 37 [.own,.b 0 1] [] ?_
  intro b1
  refine hQ.to [Vi 0] (fun H sH=>?_)
  exact rfl
 ·obtain ⟨w1,w2,w3⟩:=hf.wf (by omega)
  have hc:=fun H q1 q2=>fits_any fs f.src (.slice A n c) (.slice Af fs.length cf) f.ty H q1 w1 (by omega) q2
  have e:fitsE fs f.src f.ty=0:=by unfold fitsE ofE; rw [if_pos w3,hf.form g]; simp
  rw [e] at hc
  rw [g]
  refine oQ Tryz.func179 (c:=Tryz.f179.body.getD .skip) (N:=27) ?_
  intro hbx hbad Q hQ
  refine go1 35 [.own,.b 0 1,.b 0 3,.b 0 2,.cl 164 #[.agg #[Vi f.src.op,Vi f.src.k,Vi f.src.n,.string f.src.s,.string f.src.nm,.slice A n c],.slice Af fs.length cf,Vi f.ty] (Vi 0)] [] ?_ (ho:=(And.intro (fun H sH=>hc _ (ha.sees sH) (hfs.sees sH)) (trivial)))
  intro b1
  refine hQ.to [Vi 0] (fun H sH=>?_)
  exact rfl
 ·obtain ⟨w1,w2,w3⟩:=hf.wf (by omega)
  obtain ⟨t,-,-,ht⟩:=hf.look g
  have hc:=fun H q1 q2=>tyOf_any fs f.src (.slice A n c) (.slice Af fs.length cf) H q1 w1 (by omega) q2
  have e:ofE fs f.src=(t,0):=by unfold ofE; rw [if_pos w3,ht]
  rw [e] at hc
  rw [g]
  refine oQ Tryz.func179 (c:=Tryz.f179.body.getD .skip) (N:=27) ?_
  intro hbx hbad Q hQ
  refine go1 50 [.own,.b 0 1,.b 0 3,.cl 140 #[.agg #[Vi f.src.op,Vi f.src.k,Vi f.src.n,.string f.src.s,.string f.src.nm,.slice A n c],.slice Af fs.length cf] (.tuple #[Vi t,Vi 0])] [] ?_ (ho:=(And.intro (fun H sH=>hc _ (ha.sees sH) (hfs.sees sH)) (trivial)))
  intro b1
  refine hQ.to [Vi 0] (fun H sH=>?_)
  exact rfl
theorem AllArgs.take' {h:Vw}:∀ (i:Nat) {l:List Ex} {vs:List Value},AllArgs h l vs→AllArgs h (l.take i) (vs.take i)
 | 0,l,vs,_=>by rw [List.take_zero,List.take_zero]; unfold AllArgs; rfl
 | i + 1,[],vs,k=>by unfold AllArgs at k; subst k; rw [List.take_nil,List.take_nil]; unfold AllArgs; rfl
 | i + 1,x :: l,vs,k=>by
  unfold AllArgs at k
  obtain ⟨u,us',rfl,q1,q2⟩:=k
  rw [List.take_succ_cons,List.take_succ_cons]
  unfold AllArgs
  exact ⟨_,_,rfl,q1,AllArgs.take' i q2⟩
theorem fds_take {h:Vw} {A:Option Addr} {cap:Nat} {fs:List Fd} (hf:IsFds h (.slice A fs.length cap) fs) (k:Nat) (hk:k≤fs.length):IsFds h (.slice A k cap) (fs.take k):=by
 obtain ⟨vs,hr,hs⟩:=hf
 have hl:=hs.len
 refine ⟨vs.take k,?_,?_⟩
 ·have:=hr.take k (by rw [bQ hl]; omega)
  rwa [show (zK fs vs).take k=zK (fs.take k) (vs.take k) from List.take_zipWith] at this
 ·unfold AllSrc
  rw [List.map_take]
  exact AllArgs.take' k hs
set_option maxHeartbeats 2000000 in
theorem check_fields (fs:List Fd) (fv:Value) (h:Vw) (hf:OkFs fs) (hfs:IsFds h fv fs):C0 Tryz.prog 142 #[fv] h (fun r _=>r=.int .i64 0):=by
 obtain ⟨vs,A,c,rfl,hc1,hc2,hr,hsrc,hvl,hsl⟩:=cQ hfs
 have few:=hf.few
 refine oQ Tryz.func142 (c:=Tryz.f142.body.getD .skip) (N:=51) ?_
 intro hbx hbad Q hQ
 refine go0 13 [] [] ?_
 refine qQ (t:=decide ((fs.length:Int) > 14)) (decide_eq_false (by omega)) ?_
 refine go0 11 [] [] ?_
 refine wQ [0,1,0,1,1] [.block 0,.seq [1,1,1]] (fun (k:Nat) X=>∃ (W1:Vw) ,X W1 [(0,.slice A fs.length c),(14,.slice A fs.length c),(15,Vi (fs.length:Int)),(16,Vi (k:Int))] [] []∧Sees h W1∧(k≤fs.length)) (fun k=>fs.length - k) (0) (fun X q=>⟨h,q _ _ _ _ ⟨rfl,by kernel_rfl⟩,Sees.refl _,Nat.zero_le _⟩) ?_
 rintro k a w ⟨W1,hJ,S2,hk⟩; refine aV hJ ?_; clear hJ a w
 refine go0 6 [] [] ?_
 rcases (by omega:k < fs.length∨k=fs.length) with hlt | hke
 ·obtain ⟨f,hfk⟩:∃ f,fs[k]?=some f:=⟨_,List.getElem?_eq_getElem (by omega)⟩
  obtain ⟨u,huk⟩:∃ u,vs[k]?=some u:=⟨_,List.getElem?_eq_getElem (by omega)⟩
  have hslu:=hsl u (List.mem_of_getElem? huk)
  have hrow:(zK fs vs)[k]?=some (fdRow f (.slice (sA u) (sN u) (sC u))):=by rw [hslu]; exact aQ hfk huk
  have ha:IsArgs h f.src (.slice (sA u) (sN u) (sC u)):=by rw [hslu]; exact AllArgs.get hsrc (x:=f.src) (by rw [List.getElem?_map,hfk]; rfl) huk
  have hok:=hf.each f (List.mem_of_getElem? hfk)
  have hno:dQ (fs.take k) f.name = -1:=findF_none fun y hy e=>by
   obtain ⟨j,hj⟩:=List.mem_iff_getElem?.1 hy
   rw [List.getElem?_take] at hj
   split at hj
   ·rename_i hjk
    have h1:(fs.map (fun f:Fd=>f.name))[j]?=some f.name:=by rw [List.getElem?_map,hj]; simp [e]
    have h2:(fs.map (fun f:Fd=>f.name))[k]?=some f.name:=by rw [List.getElem?_map,hfk]; rfl
    have:=(List.getElem?_inj (by rw [List.length_map]; omega) hf.nodup).1 (h1.trans h2.symm)
    omega
   ·cases hj
  have htk:=fds_take hfs k hk
  refine eV (t:=decide ((k:Int) < (fs.length:Int))) (decide_eq_true (by omega)) ?_
  refine go0 7 [] [] ?_
  obtain ⟨b3,o4,rfl,-,c5⟩:=RS.row hr (hrow)
  refine pQ (c5.sees S2) ?_
  refine go1 25 [.ix b3 o4 fs.length c k,.f 0 0,.own,.b 0 0,.b 0 0,.cl 178 #[.agg #[.string f.name,Vi f.kind,Vi f.ty,Vi f.src.op,Vi f.src.k,Vi f.src.n,.string f.src.s,.string f.src.nm,.slice (sA u) (sN u) (sC u)]] (Vi 0)] [] ?_ (ho:=(And.intro (by first | omega | (simp; omega)) (And.intro (fun H sH=>right_any fs f _ _ hok (ha.sees (S2.trans sH))) (trivial))))
  intro b6
  refine cV 11 0 [.pu,.pu,.v (fun gh=>.slice (some ⟨b3,o4,none⟩) k c),.pu,.ld 0 0,.v (fun gh=>.tuple #[Vi 0,Vi 5]),.pu,.pu,.pu,.pu,.pu] [] (trivial) ?_ ?_
  ·intro R hT hA hmono
   refine And.intro (t_p hT hA (fun gh=>.slice (some ⟨b3,o4,none⟩) k c) (fun gh w=>run_hi (t:=26) (e:=56) (x:=(.tmp 27)) (y:=(.tmp 28)) (A:=(some ⟨b3,o4,none⟩)) (n:=fs.length) (cap:=c) (k:=k) (kk:=9) (by kernel_rfl) (by kernel_rfl) (by kernel_rfl) (by omega) Tryz.underlying26 (by kernel_rfl))) ?_
   refine And.intro (t_v hT hA hmono (k:=60) (args:=(fun gh=>#[.slice (some ⟨b3,o4,none⟩) k c,.string f.name])) (f:=fun gh=>.tuple #[Vi 0,Vi 5]) (fun gh H sH fH lent=>find_no (fs.take k) _ f.name _ (htk.sees (S2.trans sH)) (by rw [List.length_take]; omega) (by omega))) ?_
   trivial
  rintro W7 S8 -
  refine go0 15 [] [(37,Vi (IntKind.i64.wrap ((k:Int) + 1)),Vi ((k:Int) + 1))] ?_ (hc:=(And.intro (jJ (by omega) (by omega)) (trivial)))
  exact dV (k + 1) (fun X q=>⟨W7,q _ _ _ _ ⟨rfl,by kernel_rfl⟩,(S2.trans S8),by omega⟩) (by omega)
 ·skip
  refine qQ (t:=decide ((k:Int) < (fs.length:Int))) (decide_eq_false (by omega)) ?_
  refine go0 2 [] [] ?_
  refine vQ ?_
  refine go0 11 [] [] ?_
  refine wQ [0,1,0,1,1,1] [.block 2,.seq [1,1,1,1]] (fun (k2:Nat) X=>∃ (W9:Vw) ,X W9 [(0,.slice A fs.length c),(38,.slice A fs.length c),(39,Vi (fs.length:Int)),(40,Vi (k2:Int))] [] []∧Sees W1 W9∧(k2≤fs.length)) (fun k2=>fs.length - k2) (0) (fun X q=>⟨W1,q _ _ _ _ ⟨rfl,by kernel_rfl⟩,Sees.refl _,Nat.zero_le _⟩) ?_
  rintro k2 a w ⟨W9,hJ,S10,hk2⟩; refine aV hJ ?_; clear hJ a w
  refine go0 6 [] [] ?_
  rcases (by omega:k2 < fs.length∨k2=fs.length) with hlt2 | hke2
  ·obtain ⟨f,hfk⟩:∃ f,fs[k2]?=some f:=⟨_,List.getElem?_eq_getElem (by omega)⟩
   obtain ⟨u,huk⟩:∃ u,vs[k2]?=some u:=⟨_,List.getElem?_eq_getElem (by omega)⟩
   have hslu:=hsl u (List.mem_of_getElem? huk)
   have hrow:(zK fs vs)[k2]?=some (fdRow f (.slice (sA u) (sN u) (sC u))):=by rw [hslu]; exact aQ hfk huk
   have ha:IsArgs h f.src (.slice (sA u) (sN u) (sC u)):=by rw [hslu]; exact AllArgs.get hsrc (x:=f.src) (by rw [List.getElem?_map,hfk]; rfl) huk
   have hok:=hf.each f (List.mem_of_getElem? hfk)
   refine eV (t:=decide ((k2:Int) < (fs.length:Int))) (decide_eq_true (by omega)) ?_
   refine go0 6 [] [] ?_
   obtain ⟨b11,o12,rfl,-,c13⟩:=RS.row hr (hrow)
   refine pQ (c13.sees (S2.trans S10)) ?_
   refine go1 28 [.ix b11 o12 fs.length c k2,.f 0 0,.own,.b 0 0,.b 0 0,.cl 179 #[.agg #[.string f.name,Vi f.kind,Vi f.ty,Vi f.src.op,Vi f.src.k,Vi f.src.n,.string f.src.s,.string f.src.nm,.slice (sA u) (sN u) (sC u)],.slice (some ⟨b11,o12,none⟩) fs.length c] (Vi 0)] [(50,Vi (IntKind.i64.wrap ((k2:Int) + 1)),Vi ((k2:Int) + 1))] ?_ (ho:=(And.intro (by first | omega | (simp; omega)) (And.intro (fun H sH=>typed_any fs f _ _ _ hok (ha.sees (S2.trans (S10.trans sH))) (hfs.sees (S2.trans (S10.trans sH)))) (trivial)))) (hc:=(And.intro (jJ (by omega) (by omega)) (trivial)))
   intro b14
   exact dV (k2 + 1) (fun X q=>⟨W9,q _ _ _ _ ⟨rfl,by kernel_rfl⟩,S10,by omega⟩) (by omega)
  ·skip
   refine qQ (t:=decide ((k2:Int) < (fs.length:Int))) (decide_eq_false (by omega)) ?_
   refine go0 2 [] [] ?_
   refine vQ ?_
   refine go0 8 [] [] ?_
   refine hQ.to [Vi 0] (fun H sH=>?_)
   exact rfl
end Go.Proofs.YtmoahpojchndiaaGreat
namespace Go.Proofs.YtmoahpojchndiaaGreat
open Go.RowKit
set_option linter.unusedVariables false
theorem c_kn (k n:Int) (s:ByteArray) (h:Vw) (hk:qJ k n s):C0 Tryz.prog 68 #[.agg #[.int .i64 k,.int .i64 n,.string s]] h (fun v _=>v=.bool true):=C0.of_gives (fun w=>qV k n s w hk) h
def toldE (fs:List Fd) (s:ByteArray) (k:Int):Int:=if dQ fs s < 0 then 5 else match fs[(dQ fs s).toNat]? with
 | some f=>if f.kind=1 then (if k=f.ty then 0 else 9) else 2
 | none=>5
theorem told_any (fs:List Fd) (v:Value) (s:ByteArray) (k n:Int) (t:ByteArray) (h:Vw) (hf:IsFds h v fs) (hl:fs.length≤1000000) (hk:qJ k n t):C0 Tryz.prog 56 #[v,.string s,.agg #[.int .i64 k,.int .i64 n,.string t]] h (fun r _=>r=.int .i64 (toldE fs s k)):=by
 have hkn:=c_kn k n t
 obtain ⟨vs,A,cap,rfl,-,-,hr,hsrc,hvl,hsl⟩:=cQ hf
 rcases findF_lt fs s with hp | ⟨i,f,hp,hfi,-⟩
 ·have hno:=fun H q=>find_no fs (.slice A fs.length cap) s H q hl (by omega)
  have e:toldE fs s k=5:=by unfold toldE; rw [if_pos (by omega)]
  rw [e]
  refine oQ Tryz.func56 (c:=Tryz.f56.body.getD .skip) (N:=40) ?_
  intro hbx hbad Q hQ
  refine go1 37 [.own,.cl 60 #[.slice A fs.length cap,.string s] (.tuple #[Vi 0,Vi 5])] [] ?_ (ho:=(And.intro (fun H sH=>hno _ (hf.sees sH)) (trivial)))
  intro b1
  refine hQ.to [Vi 5] (fun H sH=>?_)
  exact rfl
 ·have hyes:=fun H q=>find_yes fs (.slice A fs.length cap) s i H q hl hp
  have hil:=(List.getElem?_eq_some_iff.1 hfi).1
  obtain ⟨u,hui⟩:∃ u,vs[i]?=some u:=⟨_,List.getElem?_eq_getElem (by omega)⟩
  have hrow:(zK fs vs)[i]?=some (fdRow f (.slice (sA u) (sN u) (sC u))):=by rw [hsl u (List.mem_of_getElem? hui)]; exact aQ hfi hui
  have e:toldE fs s k=if f.kind=1 then (if k=f.ty then 0 else 9) else 2:=by unfold toldE; rw [if_neg (by omega),hp,Int.toNat_natCast,hfi]
  rw [e]
  refine oQ Tryz.func56 (c:=Tryz.f56.body.getD .skip) (N:=40) ?_
  intro hbx hbad Q hQ
  refine go1 32 [.own,.cl 60 #[.slice A fs.length cap,.string s] (.tuple #[Vi (i:Int),Vi 0])] [] ?_ (ho:=(And.intro (fun H sH=>hyes _ (hf.sees sH)) (trivial)))
  intro b1
  obtain ⟨b2,o3,rfl,-,c4⟩:=RS.row hr (hrow)
  refine pQ (c4.sees (Sees.refl _)) ?_
  refine go0 7 [.ix b2 o3 fs.length cap i,.f 0 1] [] ?_ (ho:=(And.intro (by first | omega | (simp; omega)) (trivial)))
  by_cases h1:f.kind=1
  ·skip
   refine qQ (t:=f.kind != 1) ((by rw [bne_eq_false_iff_eq]; exact h1)) ?_
   refine go0 1 [] [] ?_
   have c5:=RS.cell hr (hrow)
   refine pQ (c5.sees (Sees.refl _)) ?_
   refine cV 14 0 [.ld 0 0,.v (fun gh=>.bool true),.pu,.pu,.pu,.ld 0 0,.pu,.pu,.v (fun gh=>.pointer (some ⟨b2,o3 + i * 9,none⟩)),.pu,.lf 0 2,.pu,.pu,.pu] [] (trivial) ?_ ?_
   ·intro R hT hA hmono
    refine And.intro (t_v hT hA hmono (k:=68) (args:=(fun gh=>#[.agg #[Vi k,Vi n,.string t]])) (f:=fun gh=>.bool true) (fun gh H sH fH lent=>hkn _ hk)) ?_
    refine And.intro (rY hT hA b2 o3 fs.length cap i (fun gh=>.pointer (some ⟨b2,o3 + i * 9,none⟩)) (by first | omega | (simp; omega))) ?_
    trivial
   rintro W6 S7 -
   refine go0 1 [] [] ?_
   by_cases h2:k=f.ty
   ·refine qQ (t:=k != f.ty) ((by rw [bne_eq_false_iff_eq]; exact h2)) ?_
    refine go0 9 [] [] ?_
    refine hQ.to [Vi 0] (fun H sH=>?_)
    rw [if_pos h1,if_pos h2]; rfl
   ·skip
    refine eV (t:=k != f.ty) (bne_iff_ne.2 h2) ?_
    refine go0 8 [] [] ?_
    refine hQ.to [Vi 9] (fun H sH=>?_)
    rw [if_pos h1,if_neg h2]; rfl
  ·skip
   refine eV (t:=f.kind != 1) (bne_iff_ne.2 h1) ?_
   refine go0 8 [] [] ?_
   refine hQ.to [Vi 2] (fun H sH=>?_)
   rw [if_neg h1]; rfl
end Go.Proofs.YtmoahpojchndiaaGreat
