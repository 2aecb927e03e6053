/-
  Contract of field.Find.
-/
import Derived.Test.YtjpgjnldeafpkaaGreatZD9
import Derived.Test.YtjpgjnldeafpkaaGreatZD22
import Derived.Test.YtjpgjnldeafpkaaGreatZD3
import Derived.Test.YtjpgjnldeafpkaaGreatZD4
import Derived.Test.YtjpgjnldeafpkaaGreatZD10
import Derived.Test.YtjpgjnldeafpkaaGreatZD15
set_option maxRecDepth 100000
namespace Go.Proofs.YtjpgjnldeafpkaaGreat
open Go.RowKit
set_option linter.unusedVariables false
theorem dQ {h:Vw} {v:Value} {fs:List Fd} (hf:IsFds h v fs):∃ vs A cap,v=.slice A fs.length cap∧fs.length≤cap∧cap≤maxLen∧RS h 9 (.slice A fs.length cap) (aQ fs vs)∧AllSrc h fs vs∧vs.length=fs.length∧∀ u∈vs,.slice (sA u) (sN u) (sC u)=u:=by
 obtain ⟨vs,hr,hs⟩:=hf
 have hl:=hs.len
 have hfl:=cQ hl
 obtain ⟨A,cap,rfl,h1,h2,-⟩:=hr.form
 rw [hfl] at h1 hr ⊢
 refine ⟨vs,A,cap,rfl,h1,h2,hr,hs,hl,fun u hu=>?_⟩
 obtain ⟨i,hi⟩:=List.mem_iff_getElem?.1 hu
 have hil:=(List.getElem?_eq_some_iff.1 hi).1
 obtain ⟨f,hf⟩:∃ f,fs[i]?=some f:=⟨_,List.getElem?_eq_getElem (by omega)⟩
 obtain ⟨Au,nu,cu,rfl⟩:=(AllArgs.get hs (x:=f.src) (by rw [List.getElem?_map,hf]; rfl) hi).slice
 rfl
def gQ (fs:List Fd) (s:ByteArray):Int:=fidx (fun f:Fd=>f.name.toList == s.toList) fs
theorem find1_any (f:Fd) (A:Option Addr) (n c:Nat) (s:ByteArray) (b:Nat) (h:Vw) (hc:Cells h b 0 [.string s]) :
  C0 Tryz.prog 110 #[.agg #[.string f.name,.int .i64 f.kind,.int .i64 f.ty,.int .i64 f.src.op,.int .i64 f.src.k,.int .i64 f.src.n,.string f.src.s,.string f.src.nm,.slice A n c],.pointer (some ⟨b,0,none⟩)] h (fun r _=>r=.bool (f.name.toList == s.toList)):=by
 refine uQ Tryz.func110 (c:=Tryz.f110.body.getD .skip) (N:=8) ?_
 intro hbx hbad Q hQ
 refine vQ (hc.sees (Sees.refl _)) ?_
 refine go1 16 [.own,.b 0 0,.f 0 0] [] ?_
 intro b1
 refine hQ.to [.bool (f.name.toList == s.toList)] (fun H sH=>?_)
 exact rfl
theorem idxF_any (fs:List Fd) (vs:List Value) (A:Option Addr) (cap:Nat) (s:ByteArray) (b:Nat) (h:Vw) (hr:RS h 9 (.slice A fs.length cap) (aQ fs vs)) (hl:fs.length≤1000000) (hvl:vs.length=fs.length) (hsl:∀ u∈vs,.slice (sA u) (sN u) (sC u)=u) (hc:Cells h b 0 [.string s]) :
  C0 Tryz.prog 16 #[.slice A fs.length cap,.func (.func 110) #[] #[.pointer (some ⟨b,0,none⟩)]] h (fun r _=>r=.int .i64 (gQ fs s)):=by
 generalize hL:fs.length=len at *
 refine uQ Tryz.func16 (c:=Tryz.f16.body.getD .skip) (N:=19) ?_
 intro hbx hbad Q hQ
 refine go0 14 [] [] ?_
 refine cV [0,1,0,1] [.block 0,.seq [1,1]] (fun (k:Nat) X=>∃ (W1:Vw) ,X W1 [(0,.slice A len cap),(1,.func (.func 110) #[] #[Vp b]),(7,Vi (len:Int)),(8,Vi (k:Int))] [] []∧Sees h W1∧(k≤len)∧(∀ y∈fs.take k,(y.name.toList == s.toList)=false)) (fun k=>len - k) (0) (fun X q=>⟨h,q _ _ _ _ ⟨rfl,by kernel_rfl⟩,Sees.refl _,Nat.zero_le _,fun y hy=>by simp at hy⟩) ?_
 rintro k a w ⟨W1,hJ,S2,hk,hn⟩; refine gV hJ ?_; clear hJ a w
 refine go0 6 [] [] ?_
 rcases (by omega:k < len∨k=len) with hlt | hke
 ·obtain ⟨f,hfk⟩:∃ f,fs[k]?=some f:=⟨_,List.getElem?_eq_getElem (by omega)⟩
  obtain ⟨u,huk⟩:∃ u,vs[k]?=some u:=⟨_,List.getElem?_eq_getElem (by omega)⟩
  have hrow:(aQ fs vs)[k]?=some (fdRow f (.slice (sA u) (sN u) (sC u))):=by rw [hsl u (List.mem_of_getElem? huk)]; exact bQ hfk huk
  refine mV (t:=decide ((k:Int) < (len:Int))) (decide_eq_true (by omega)) ?_
  refine go0 15 [] [] ?_
  obtain ⟨b3,o4,rfl,-,c5⟩:=RS.row hr (hrow)
  refine vQ (c5.sees S2) ?_
  refine go0 5 [.ix b3 o4 len cap k,.f 0 0,.cl 110 #[.agg #[.string f.name,Vi f.kind,Vi f.ty,Vi f.src.op,Vi f.src.k,Vi f.src.n,.string f.src.s,.string f.src.nm,.slice (sA u) (sN u) (sC u)],Vp b] (.bool (f.name.toList == s.toList))] [] ?_ (ho:=(And.intro (by first | omega | (simp; omega)) (And.intro (fun H sH=>find1_any f _ _ _ s b _ (hc.sees (S2.trans sH))) (trivial))))
  cases boolIs (f.name.toList == s.toList) with
  | true hq =>
   refine mV (t:=f.name.toList == s.toList) (hq) ?_
   refine go0 9 [] [] ?_
   refine aV ?_
   refine go0 2 [] [] ?_
   refine hQ.to [Vi (k:Int)] (fun H sH=>?_)
   exact congrArg (Value.int .i64) (eQ _ fs k f hn hfk hq).symm
  | false hq =>
   refine wQ (t:=f.name.toList == s.toList) (hq) ?_
   refine go0 7 [] [(18,Vi (IntKind.i64.wrap ((k:Int) + 1)),Vi ((k:Int) + 1))] ?_ (hc:=(And.intro (jJ (by omega) (by omega)) (trivial)))
   exact lV (k + 1) (fun X q=>⟨W1,q _ _ _ _ ⟨rfl,by kernel_rfl⟩,S2,by omega,(by rw [bZ fs k f hfk]; exact fun y hy=>(List.mem_append.1 hy).elim (hn y) (fun e=>by rw [List.mem_singleton.1 e]; exact hq))⟩) (by omega)
 ·skip
  have htk:fs.take k=fs:=by rw [hke,← hL,List.take_length]
  rw [htk] at hn
  refine wQ (t:=decide ((k:Int) < (len:Int))) (decide_eq_false (by omega)) ?_
  refine go0 2 [] [] ?_
  refine aV ?_
  refine go0 8 [] [] ?_
  refine hQ.to [Vi (-1)] (fun H sH=>?_)
  exact congrArg (Value.int .i64) (fQ _ fs hn).symm
def findV (fs:List Fd) (s:ByteArray):Value:=.tuple #[.int .i64 (if gQ fs s < 0 then 0 else gQ fs s),.int .i64 (if gQ fs s < 0 then 5 else 0)]
theorem find_any (fs:List Fd) (v:Value) (s:ByteArray) (h:Vw) (hf:IsFds h v fs) (hl:fs.length≤1000000):C0 Tryz.prog 73 #[v,.string s] h (fun r _=>r=findV fs s):=by
 obtain ⟨vs,A,cap,rfl,-,-,hr,-,hvl,hsl⟩:=dQ hf
 have hi:=fun H hr' b hc=>idxF_any fs vs A cap s b H hr' hl hvl hsl hc
 have e:findV fs s=.tuple #[.int .i64 (if gQ fs s < 0 then 0 else gQ fs s),.int .i64 (if gQ fs s < 0 then 5 else 0)]:=rfl
 rw [e]
 clear e
 generalize gQ fs s=p at *
 refine uQ Tryz.func73 (c:=Tryz.f73.body.getD .skip) (N:=13) ?_
 intro hbx hbad Q hQ
 refine rV 11 [.fix] [] ?_
 intro bsn W1 S2
 refine tQ 0 bsn 0 [.string s] fun sn=>?_
 refine go0 11 [.cl 16 #[.slice A fs.length cap,.func (.func 110) #[] #[Vp bsn]] (Vi p)] [] ?_ (ho:=(And.intro (fun H sH=>hi _ (hr.sees (S2.trans sH)) _ (sn.sees sH)) (trivial)))
 by_cases hp:p < 0
 ·refine mV (t:=decide (p < 0)) (decide_eq_true hp) ?_
  refine go0 8 [] [] ?_
  refine hQ.to [Vi 0,Vi 5] (fun H sH=>?_)
  rw [if_pos hp,if_pos hp]; rfl
 ·skip
  refine wQ (t:=decide (p < 0)) (decide_eq_false hp) ?_
  refine go0 10 [] [] ?_
  refine hQ.to [Vi p,Vi 0] (fun H sH=>?_)
  rw [if_neg hp,if_neg hp]; rfl
theorem find_no (fs:List Fd) (v:Value) (s:ByteArray) (h:Vw) (hf:IsFds h v fs) (hl:fs.length≤1000000) (hp:gQ fs s < 0):C0 Tryz.prog 73 #[v,.string s] h (fun r _=>r=.tuple #[.int .i64 0,.int .i64 5]):=by
 have:=find_any fs v s h hf hl
 unfold findV at this
 rwa [if_pos hp,if_pos hp] at this
theorem find_yes (fs:List Fd) (v:Value) (s:ByteArray) (i:Nat) (h:Vw) (hf:IsFds h v fs) (hl:fs.length≤1000000) (hp:gQ fs s=i):C0 Tryz.prog 73 #[v,.string s] h (fun r _=>r=.tuple #[.int .i64 (i:Int),.int .i64 0]):=by
 have:=find_any fs v s h hf hl
 unfold findV at this
 rwa [hp,if_neg (by omega),if_neg (by omega)] at this
theorem findF_lt (fs:List Fd) (s:ByteArray):gQ fs s = -1∨∃ i:Nat,∃ f,gQ fs s=i∧fs[i]?=some f∧f.name=s:=by
 unfold gQ fidx
 cases e:fs.findIdx? (fun f:Fd=>f.name.toList == s.toList) with
 | none=>exact .inl rfl
 | some k =>
  obtain ⟨h1,h2,-⟩:=List.findIdx?_eq_some_iff_getElem.1 e
  refine .inr ⟨k,_,rfl,List.getElem?_eq_getElem h1,?_⟩
  rw [tl_dec] at h2
  exact of_decide_eq_true h2
theorem iQ {fs:List Fd} (hd:(fs.map (·.name)).Nodup) {i:Nat} {f:Fd} (hi:fs[i]?=some f):gQ fs f.name=i:=by
 have hil:=(List.getElem?_eq_some_iff.1 hi).1
 refine eQ _ fs i f (fun y hy=>?_) hi (tl_yes rfl)
 rw [tl_dec,decide_eq_false_iff_not]
 intro e
 obtain ⟨j,hj⟩:=List.mem_iff_getElem?.1 hy
 rw [List.getElem?_take] at hj
 split at hj
 ·rename_i hji
  have h1:(fs.map (·.name))[j]?=some f.name:=by rw [List.getElem?_map,hj,← e]; rfl
  have h2:(fs.map (·.name))[i]?=some f.name:=by rw [List.getElem?_map,hi]; rfl
  have:=((List.getElem?_inj (by rw [List.length_map]; omega) hd).1 (h1.trans h2.symm))
  omega
 ·cases hj
theorem findF_none {fs:List Fd} {s:ByteArray} (h:∀ f∈fs,f.name≠s):gQ fs s = -1:=fQ _ fs fun y hy=>tl_no (h y hy)
end Go.Proofs.YtjpgjnldeafpkaaGreat
namespace Go.Proofs.YtjpgjnldeafpkaaGreat
open Go.RowKit
set_option linter.unusedVariables false
theorem c_kn (k n:Int) (s:ByteArray) (h:Vw) (hk:qJ k n s):C0 Tryz.prog 18 #[.agg #[.int .i64 k,.int .i64 n,.string s]] h (fun v _=>v=.bool true):=C0.of_gives (fun w=>yV k n s w hk) h
def dZ (fs:List Fd) (s:ByteArray) (k:Int):Int:=if gQ fs s < 0 then 5 else match fs[(gQ fs s).toNat]? with
 | some f=>if f.kind=1 then (if k=f.ty then 0 else 9) else 2
 | none=>5
theorem told_any (fs:List Fd) (v:Value) (s:ByteArray) (k n:Int) (t:ByteArray) (h:Vw) (hf:IsFds h v fs) (hl:fs.length≤1000000) (hk:qJ k n t):C0 Tryz.prog 59 #[v,.string s,.agg #[.int .i64 k,.int .i64 n,.string t]] h (fun r _=>r=.int .i64 (dZ fs s k)):=by
 have hkn:=c_kn k n t
 obtain ⟨vs,A,cap,rfl,-,-,hr,hsrc,hvl,hsl⟩:=dQ hf
 rcases findF_lt fs s with hp | ⟨i,f,hp,hfi,-⟩
 ·have hno:=fun H q=>find_no fs (.slice A fs.length cap) s H q hl (by omega)
  have e:dZ fs s k=5:=by unfold dZ; rw [if_pos (by omega)]
  rw [e]
  refine uQ Tryz.func59 (c:=Tryz.f59.body.getD .skip) (N:=40) ?_
  intro hbx hbad Q hQ
  refine go1 37 [.own,.cl 73 #[.slice A fs.length cap,.string s] (.tuple #[Vi 0,Vi 5])] [] ?_ (ho:=(And.intro (fun H sH=>hno _ (hf.sees sH)) (trivial)))
  intro b1
  refine hQ.to [Vi 5] (fun H sH=>?_)
  exact rfl
 ·have hyes:=fun H q=>find_yes fs (.slice A fs.length cap) s i H q hl hp
  have hil:=(List.getElem?_eq_some_iff.1 hfi).1
  obtain ⟨u,hui⟩:∃ u,vs[i]?=some u:=⟨_,List.getElem?_eq_getElem (by omega)⟩
  have hrow:(aQ fs vs)[i]?=some (fdRow f (.slice (sA u) (sN u) (sC u))):=by rw [hsl u (List.mem_of_getElem? hui)]; exact bQ hfi hui
  have e:dZ fs s k=if f.kind=1 then (if k=f.ty then 0 else 9) else 2:=by unfold dZ; rw [if_neg (by omega),hp,Int.toNat_natCast,hfi]
  rw [e]
  refine uQ Tryz.func59 (c:=Tryz.f59.body.getD .skip) (N:=40) ?_
  intro hbx hbad Q hQ
  refine go1 32 [.own,.cl 73 #[.slice A fs.length cap,.string s] (.tuple #[Vi (i:Int),Vi 0])] [] ?_ (ho:=(And.intro (fun H sH=>hyes _ (hf.sees sH)) (trivial)))
  intro b1
  obtain ⟨b2,o3,rfl,-,c4⟩:=RS.row hr (hrow)
  refine vQ (c4.sees (Sees.refl _)) ?_
  refine go0 7 [.ix b2 o3 fs.length cap i,.f 0 1] [] ?_ (ho:=(And.intro (by first | omega | (simp; omega)) (trivial)))
  by_cases h1:f.kind=1
  ·skip
   refine wQ (t:=f.kind != 1) ((by rw [bne_eq_false_iff_eq]; exact h1)) ?_
   refine go0 1 [] [] ?_
   have c5:=RS.cell hr (hrow)
   refine vQ (c5.sees (Sees.refl _)) ?_
   refine jV 14 0 [.ld 0 0,.v (fun gh=>.bool true),.pu,.pu,.pu,.ld 0 0,.pu,.pu,.v (fun gh=>.pointer (some ⟨b2,o3 + i * 9,none⟩)),.pu,.lf 0 2,.pu,.pu,.pu] [] (trivial) ?_ ?_
   ·intro R hT hA hmono
    refine And.intro (t_v hT hA hmono (k:=18) (args:=(fun gh=>#[.agg #[Vi k,Vi n,.string t]])) (f:=fun gh=>.bool true) (fun gh H sH fH lent=>hkn _ hk)) ?_
    refine And.intro (aZ hT hA b2 o3 fs.length cap i (fun gh=>.pointer (some ⟨b2,o3 + i * 9,none⟩)) (by first | omega | (simp; omega))) ?_
    trivial
   rintro W6 S7 -
   refine go0 1 [] [] ?_
   by_cases h2:k=f.ty
   ·refine wQ (t:=k != f.ty) ((by rw [bne_eq_false_iff_eq]; exact h2)) ?_
    refine go0 9 [] [] ?_
    refine hQ.to [Vi 0] (fun H sH=>?_)
    rw [if_pos h1,if_pos h2]; rfl
   ·skip
    refine mV (t:=k != f.ty) (bne_iff_ne.2 h2) ?_
    refine go0 8 [] [] ?_
    refine hQ.to [Vi 9] (fun H sH=>?_)
    rw [if_pos h1,if_neg h2]; rfl
  ·skip
   refine mV (t:=f.kind != 1) (bne_iff_ne.2 h1) ?_
   refine go0 8 [] [] ?_
   refine hQ.to [Vi 2] (fun H sH=>?_)
   rw [if_neg h1]; rfl
end Go.Proofs.YtjpgjnldeafpkaaGreat
