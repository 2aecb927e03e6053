/-
  Contract of field.Find.
-/
import Derived.Test.YthckljafinhepaaGreatZM20
import Derived.Test.YthckljafinhepaaGreatZM3
import Derived.Test.YthckljafinhepaaGreatZM4
import Derived.Test.YthckljafinhepaaGreatZM8
import Derived.Test.YthckljafinhepaaGreatZM13
set_option maxRecDepth 100000
namespace Go.Proofs.YthckljafinhepaaGreat
open Go.RowKit
set_option linter.unusedVariables false
theorem dQ {h:Vw} {v:Value} {fs:List Fd} (hf:IsFds h v fs):∃ vs A cap,v=.slice A fs.length cap∧fs.length≤cap∧cap≤maxLen∧RS h 9 (.slice A fs.length cap) (aQ fs vs)∧AllSrc h fs vs∧vs.length=fs.length∧∀ u∈vs,.slice (sA u) (sN u) (sC u)=u:=by
 obtain ⟨vs,hr,hs⟩:=hf
 have hl:=hs.len
 have hfl:=cQ hl
 obtain ⟨A,cap,rfl,h1,h2,-⟩:=hr.form
 rw [hfl] at h1 hr ⊢
 refine ⟨vs,A,cap,rfl,h1,h2,hr,hs,hl,fun u hu=>?_⟩
 obtain ⟨i,hi⟩:=List.mem_iff_getElem?.1 hu
 have hil:=(List.getElem?_eq_some_iff.1 hi).1
 obtain ⟨f,hf⟩:∃ f,fs[i]?=some f:=⟨_,List.getElem?_eq_getElem (by omega)⟩
 obtain ⟨Au,nu,cu,rfl⟩:=(AllArgs.get hs (x:=f.src) (by rw [List.getElem?_map,hf]; rfl) hi).slice
 rfl
def gQ (fs:List Fd) (s:ByteArray):Int:=fidx (fun f:Fd=>f.name.toList == s.toList) fs
theorem find1_any (f:Fd) (A:Option Addr) (n c:Nat) (s:ByteArray) (b:Nat) (h:Vw) (hc:Cells h b 0 [.string s]) :
  C0 Tryz.prog 96 #[.agg #[.string f.name,.int .i64 f.kind,.int .i64 f.ty,.int .i64 f.src.op,.int .i64 f.src.k,.int .i64 f.src.n,.string f.src.s,.string f.src.nm,.slice A n c],.pointer (some ⟨b,0,none⟩)] h (fun r _=>r=.bool (f.name.toList == s.toList)):=by
 refine fY Tryz.func96 (c:=Tryz.f96.body.getD .skip) (N:=8) ?_
 intro hbx hbad Q hQ a w hJ
 replace hJ:K ⟨8,h.w,h.bad,[]⟩ [(0,.agg #[.string f.name,Vi f.kind,Vi f.ty,Vi f.src.op,Vi f.src.k,Vi f.src.n,.string f.src.s,.string f.src.nm,.slice A n c]),(1,Vp b)] [] [] h a w:=hJ.tw
 replace hJ:=hJ.fact (hc.sees (Sees.refl _))
 refine rx' hJ false 16 [.own,.b 0 0,.f 0 0] [] (.new fun b1=>.ok (.out .ret) [] [(3,.bool (f.name.toList == s.toList))] [.box b1 [.string f.name,Vi f.kind,Vi f.ty,Vi f.src.op,Vi f.src.k,Vi f.src.n,.string f.src.s,.string f.src.nm,.slice A n c]] [(b,0,[.string s])]) (fun b1 _=>by kernel_rfl) ?_
 clear hJ a w; intro b1 a w hJ
 refine gY (hQ [.bool (f.name.toList == s.toList)] _ [] hJ (.rtm hJ.j .nil) (fJ _) rfl ?_).1
 exact rfl
theorem idxF_any (fs:List Fd) (vs:List Value) (A:Option Addr) (cap:Nat) (s:ByteArray) (b:Nat) (h:Vw) (hr:RS h 9 (.slice A fs.length cap) (aQ fs vs)) (hl:fs.length≤1000000) (hvl:vs.length=fs.length) (hsl:∀ u∈vs,.slice (sA u) (sN u) (sC u)=u) (hc:Cells h b 0 [.string s]) :
  C0 Tryz.prog 46 #[.slice A fs.length cap,.func (.func 96) #[] #[.pointer (some ⟨b,0,none⟩)]] h (fun r _=>r=.int .i64 (gQ fs s)):=by
 generalize hL:fs.length=len at *
 refine fY Tryz.func46 (c:=Tryz.f46.body.getD .skip) (N:=19) ?_
 intro hbx hbad Q hQ a w hJ
 refine rk' hJ false 14 [] [] (.k (.code [0,1,0,1]) [.block 0,.seq [1,1]] [0,1] [(7,Vi (len:Int)),(8,Vi 0)]) ?_
 clear hJ a w; intro a w hJ
 refine kY (fun (k:Nat) a w=>∃ (h1:Vw) ,K ⟨19,h.w,h.bad,[]⟩ [(0,.slice A len cap),(1,.func (.func 96) #[] #[Vp b]),(7,Vi (len:Int)),(8,Vi (k:Int))] [] [] h1 a w∧Sees h h1∧(k≤len)∧(∀ y∈fs.take k,(y.name.toList == s.toList)=false)) (fun k=>len - k) (0) ⟨h,hJ.tw,Sees.refl _,Nat.zero_le _,fun y hy=>by simp at hy⟩ ?_
 clear hJ a w; rintro k a w ⟨h1,hJ,s2,hk,hn⟩
 refine rk' hJ false 6 [] [] (.k (.code [0,1,0,0,1,0,1]) [.seq [1,1,0,0,1,0,1]] [0,1,7,8] [(9,.bool (decide ((k:Int) < (len:Int))))]) ?_
 clear hJ a w; intro a w hJ
 rcases (by omega:k < len∨k=len) with hlt | hke
 ·obtain ⟨f,hfk⟩:∃ f,fs[k]?=some f:=⟨_,List.getElem?_eq_getElem (by omega)⟩
  obtain ⟨u,huk⟩:∃ u,vs[k]?=some u:=⟨_,List.getElem?_eq_getElem (by omega)⟩
  have hrow:(aQ fs vs)[k]?=some (fdRow f (.slice (sA u) (sN u) (sC u))):=by rw [hsl u (List.mem_of_getElem? huk)]; exact bQ hfk huk
  refine qY hJ (t:=decide ((k:Int) < (len:Int))) (decide_eq_true (by omega)) ?_
  refine rk' hJ false 15 [] [] (.k (.ops [0,1,0,0,1,1,0,0,1,0,1] 3) [.seq [1,1,0,0,1,1,0,0,1,0,1],.block 1,.seq [1,1,1,0,0,1,0,1]] [0,1,7,8] [(5,Vi (k:Int)),(11,.func (.func 96) #[] #[Vp b]),(12,.slice A len cap),(13,Vi (k:Int))]) ?_
  clear hJ a w; intro a w hJ
  obtain ⟨b3,o4,rfl,-,c5⟩:=RS.row hr (hrow)
  replace hJ:=hJ.fact (c5.sees s2)
  refine rk' hJ false 5 [.ix b3 o4 len cap k,.f 0 0,.cl 96 #[.agg #[.string f.name,Vi f.kind,Vi f.ty,Vi f.src.op,Vi f.src.k,Vi f.src.n,.string f.src.s,.string f.src.nm,.slice (sA u) (sN u) (sC u)],Vp b] (.bool (f.name.toList == s.toList))] [] (.k (.code [1,1,0,0,1,1,0,0,1,0,1]) [.block 1,.seq [1,1,1,0,0,1,0,1]] [0,1,7,8,5] [(16,.bool (f.name.toList == s.toList))]) (ho:=And.intro (by first | omega | (simp; omega)) (And.intro (fun H sH=>find1_any f _ _ _ s b _ (hc.sees (s2.trans sH))) (trivial))) ?_
  clear hJ a w; intro a w hJ
  cases hq:f.name.toList == s.toList with
  | true =>
   refine qY hJ (t:=f.name.toList == s.toList) (hq) ?_
   refine rk' hJ false 9 [] [] (.k (.out .ret) [] [] [(4,Vi (k:Int))]) ?_
   clear hJ a w; intro a w hJ
   refine jY rfl ?_
   refine rk' hJ false 2 [] [] (.k (.out .ret) [] [4] []) ?_
   clear hJ a w; intro a w hJ
   refine gY (hQ [Vi (k:Int)] _ [] hJ (.rtm hJ.j .nil) (fJ _) rfl ?_).1
   exact congrArg (Value.int .i64) (eQ _ fs k f hn hfk hq).symm
  | false =>
   refine iY hJ (t:=f.name.toList == s.toList) (hq) ?_
   refine rk' hJ false 7 [] [(18,Vi (IntKind.i64.wrap ((k:Int) + 1)),Vi ((k:Int) + 1))] (.k (.out .normal) [] [0,1,7] [(8,Vi ((k:Int) + 1))]) (hc:=And.intro (kJ (by omega) (by omega)) (trivial)) ?_
   clear hJ a w; intro a w hJ
   exact pY ⟨k + 1,⟨h1,(hJ.tof [] (F':=[]) (by kernel_rfl)).to (by kernel_rfl) (by kernel_rfl) rfl,s2,by omega,(by rw [tX fs k f hfk]; exact fun y hy=>(List.mem_append.1 hy).elim (hn y) (fun e=>by rw [List.mem_singleton.1 e]; exact hq))⟩,by omega⟩
 ·skip
  have htk:fs.take k=fs:=by rw [hke,← hL,List.take_length]
  rw [htk] at hn
  refine iY hJ (t:=decide ((k:Int) < (len:Int))) (decide_eq_false (by omega)) ?_
  refine rx' hJ false 2 [] [] (.ok (.out (.exit 0)) [] [] [] []) (fun _=>by kernel_rfl) ?_
  clear hJ a w; intro a w hJ
  refine jY rfl ?_
  refine rx' hJ false 8 [] [] (.ok (.out .ret) [] [(4,Vi (-1))] [] []) (fun _=>by kernel_rfl) ?_
  clear hJ a w; intro a w hJ
  refine gY (hQ [Vi (-1)] _ [] hJ (.rtm hJ.j .nil) (fJ _) rfl ?_).1
  exact congrArg (Value.int .i64) (fQ _ fs hn).symm
def findV (fs:List Fd) (s:ByteArray):Value:=.tuple #[.int .i64 (if gQ fs s < 0 then 0 else gQ fs s),.int .i64 (if gQ fs s < 0 then 5 else 0)]
theorem find_any (fs:List Fd) (v:Value) (s:ByteArray) (h:Vw) (hf:IsFds h v fs) (hl:fs.length≤1000000):C0 Tryz.prog 70 #[v,.string s] h (fun r _=>r=findV fs s):=by
 obtain ⟨vs,A,cap,rfl,-,-,hr,-,hvl,hsl⟩:=dQ hf
 have hi:=fun H hr' b hc=>idxF_any fs vs A cap s b H hr' hl hvl hsl hc
 have e:findV fs s=.tuple #[.int .i64 (if gQ fs s < 0 then 0 else gQ fs s),.int .i64 (if gQ fs s < 0 then 5 else 0)]:=rfl
 rw [e]
 clear e
 generalize gQ fs s=p at *
 refine fY Tryz.func70 (c:=Tryz.f70.body.getD .skip) (N:=13) ?_
 intro hbx hbad Q hQ a w hJ
 refine rx' hJ true 11 [.fix] [] (.new fun bsn=>.ok (.ops [0,1] 2) [.seq [1,1]] [(7,.slice A fs.length cap),(8,.func (.func 96) #[] #[Vp bsn])] [] [(bsn,0,[.string s])]) (fun bsn _=>by kernel_rfl) ?_
 clear hJ a w; intro bsn h1 a w s2 hJ
 have sn:Cells h1 bsn 0 [.string s]:=hJ.f _ (List.mem_of_getElem? (i:=0) rfl)
 refine rk' hJ false 11 [.cl 46 #[.slice A fs.length cap,.func (.func 96) #[] #[Vp bsn]] (Vi p)] [] (.k (.code [1,0,1,1]) [.seq [1,1,1]] [] [(6,Vi p),(11,.bool (decide (p < 0)))]) (ho:=And.intro (fun H sH=>hi _ (hr.sees (s2.trans sH)) _ (sn.sees sH)) (trivial)) ?_
 clear hJ a w; intro a w hJ
 by_cases hp:p < 0
 ·refine qY hJ (t:=decide (p < 0)) (decide_eq_true hp) ?_
  refine rk' hJ false 8 [] [] (.k (.out .ret) [] [] [(4,Vi 0),(5,Vi 5)]) ?_
  clear hJ a w; intro a w hJ
  refine gY (hQ [Vi 0,Vi 5] _ [] hJ (.rtm hJ.j (.rtm hJ.j .nil)) (fJ _) rfl ?_).1
  rw [if_pos hp,if_pos hp]; rfl
 ·skip
  refine iY hJ (t:=decide (p < 0)) (decide_eq_false hp) ?_
  refine rk' hJ false 10 [] [] (.k (.out .ret) [] [] [(4,Vi p),(5,Vi 0)]) ?_
  clear hJ a w; intro a w hJ
  refine gY (hQ [Vi p,Vi 0] _ [] hJ (.rtm hJ.j (.rtm hJ.j .nil)) (fJ _) rfl ?_).1
  rw [if_neg hp,if_neg hp]; rfl
theorem find_no (fs:List Fd) (v:Value) (s:ByteArray) (h:Vw) (hf:IsFds h v fs) (hl:fs.length≤1000000) (hp:gQ fs s < 0):C0 Tryz.prog 70 #[v,.string s] h (fun r _=>r=.tuple #[.int .i64 0,.int .i64 5]):=by
 have:=find_any fs v s h hf hl
 unfold findV at this
 rwa [if_pos hp,if_pos hp] at this
theorem find_yes (fs:List Fd) (v:Value) (s:ByteArray) (i:Nat) (h:Vw) (hf:IsFds h v fs) (hl:fs.length≤1000000) (hp:gQ fs s=i):C0 Tryz.prog 70 #[v,.string s] h (fun r _=>r=.tuple #[.int .i64 (i:Int),.int .i64 0]):=by
 have:=find_any fs v s h hf hl
 unfold findV at this
 rwa [hp,if_neg (by omega),if_neg (by omega)] at this
theorem findF_lt (fs:List Fd) (s:ByteArray):gQ fs s = -1∨∃ i:Nat,∃ f,gQ fs s=i∧fs[i]?=some f∧f.name=s:=by
 unfold gQ fidx
 cases e:fs.findIdx? (fun f:Fd=>f.name.toList == s.toList) with
 | none=>exact .inl rfl
 | some k =>
  obtain ⟨h1,h2,-⟩:=List.findIdx?_eq_some_iff_getElem.1 e
  refine .inr ⟨k,_,rfl,List.getElem?_eq_getElem h1,?_⟩
  rw [tl_dec] at h2
  exact of_decide_eq_true h2
theorem iQ {fs:List Fd} (hd:(fs.map (·.name)).Nodup) {i:Nat} {f:Fd} (hi:fs[i]?=some f):gQ fs f.name=i:=by
 have hil:=(List.getElem?_eq_some_iff.1 hi).1
 refine eQ _ fs i f (fun y hy=>?_) hi (tl_yes rfl)
 rw [tl_dec,decide_eq_false_iff_not]
 intro e
 obtain ⟨j,hj⟩:=List.mem_iff_getElem?.1 hy
 rw [List.getElem?_take] at hj
 split at hj
 ·rename_i hji
  have h1:(fs.map (·.name))[j]?=some f.name:=by rw [List.getElem?_map,hj,← e]; rfl
  have h2:(fs.map (·.name))[i]?=some f.name:=by rw [List.getElem?_map,hi]; rfl
  have:=((List.getElem?_inj (by rw [List.length_map]; omega) hd).1 (h1.trans h2.symm))
  omega
 ·cases hj
theorem findF_none {fs:List Fd} {s:ByteArray} (h:∀ f∈fs,f.name≠s):gQ fs s = -1:=fQ _ fs fun y hy=>tl_no (h y hy)
end Go.Proofs.YthckljafinhepaaGreat
namespace Go.Proofs.YthckljafinhepaaGreat
open Go.RowKit
set_option linter.unusedVariables false
theorem c_kn (k n:Int) (s:ByteArray) (h:Vw) (hk:rJ k n s):C0 Tryz.prog 42 #[.agg #[.int .i64 k,.int .i64 n,.string s]] h (fun v _=>v=.bool true):=C0.of_gives (fun w=>known_true k n s w hk) h
def toldE (fs:List Fd) (s:ByteArray) (k:Int):Int:=if gQ fs s < 0 then 5 else match fs[(gQ fs s).toNat]? with
 | some f=>if f.kind=1 then (if k=f.ty then 0 else 9) else 2
 | none=>5
theorem told_any (fs:List Fd) (v:Value) (s:ByteArray) (k n:Int) (t:ByteArray) (h:Vw) (hf:IsFds h v fs) (hl:fs.length≤1000000) (hk:rJ k n t):C0 Tryz.prog 114 #[v,.string s,.agg #[.int .i64 k,.int .i64 n,.string t]] h (fun r _=>r=.int .i64 (toldE fs s k)):=by
 have hkn:=c_kn k n t
 obtain ⟨vs,A,cap,rfl,-,-,hr,hsrc,hvl,hsl⟩:=dQ hf
 rcases findF_lt fs s with hp | ⟨i,f,hp,hfi,-⟩
 ·have hno:=fun H q=>find_no fs (.slice A fs.length cap) s H q hl (by omega)
  have e:toldE fs s k=5:=by unfold toldE; rw [if_pos (by omega)]
  rw [e]
  refine fY Tryz.func114 (c:=Tryz.f114.body.getD .skip) (N:=40) ?_
  intro hbx hbad Q hQ a w hJ
  refine rx' hJ false 37 [.own,.cl 70 #[.slice A fs.length cap,.string s] (.tuple #[Vi 0,Vi 5])] [] (.new fun b1=>.ok (.out .ret) [] [(6,Vi 5)] [.box b1 [Vi k,Vi n,.string t]] []) (ho:=And.intro (fun H sH=>hno _ (hf.sees sH)) (trivial)) (fun b1 _=>by kernel_rfl) ?_
  clear hJ a w; intro b1 a w hJ
  refine gY (hQ [Vi 5] _ [] hJ (.rtm hJ.j .nil) (fJ _) rfl ?_).1
  exact rfl
 ·have hyes:=fun H q=>find_yes fs (.slice A fs.length cap) s i H q hl hp
  have hil:=(List.getElem?_eq_some_iff.1 hfi).1
  obtain ⟨u,hui⟩:∃ u,vs[i]?=some u:=⟨_,List.getElem?_eq_getElem (by omega)⟩
  have hrow:(aQ fs vs)[i]?=some (fdRow f (.slice (sA u) (sN u) (sC u))):=by rw [hsl u (List.mem_of_getElem? hui)]; exact bQ hfi hui
  have e:toldE fs s k=if f.kind=1 then (if k=f.ty then 0 else 9) else 2:=by unfold toldE; rw [if_neg (by omega),hp,Int.toNat_natCast,hfi]
  rw [e]
  refine fY Tryz.func114 (c:=Tryz.f114.body.getD .skip) (N:=40) ?_
  intro hbx hbad Q hQ a w hJ
  refine rk hJ false 32 [.own,.cl 70 #[.slice A fs.length cap,.string s] (.tuple #[Vi (i:Int),Vi 0])] [] (.new fun b1=>.m (.ops [0,1,1,0,0,1,1] 2) [.seq [1,1,1,0,0,1,1],.block 0,.seq [1,1,1]] [0] [(5,Vp b1),(7,Vi (i:Int)),(20,.slice A fs.length cap),(21,Vi (i:Int))] [.box b1 [Vi k,Vi n,.string t]] []) (And.intro (fun H sH=>hyes _ (hf.sees sH)) (trivial)) trivial (fun b1 _=>by kernel_rfl) ?_
  clear hJ a w; intro b1 a w hJ
  obtain ⟨b2,o3,rfl,-,c4⟩:=RS.row hr (hrow)
  replace hJ:=hJ.fact (c4.sees (Sees.refl _))
  refine rk' hJ false 7 [.ix b2 o3 fs.length cap i,.f 0 1] [] (.k (.code [1,1,1,0,0,1,1]) [.block 0,.seq [1,1,1]] [0,5,7] [(19,.bool (f.kind != 1))]) (ho:=And.intro (by first | omega | (simp; omega)) (trivial)) ?_
  clear hJ a w; intro a w hJ
  by_cases h1:f.kind=1
  ·skip
   refine iY hJ (t:=f.kind != 1) ((by rw [bne_eq_false_iff_eq]; exact h1)) ?_
   refine rk' hJ false 1 [] [] (.k (.code [0,1,1,1,1,0,0,1,1]) [.seq [1,1,1,1,1,0,0,1,1],.block 0,.seq [1,1,1]] [0,5,7] []) ?_
   clear hJ a w; intro a w hJ
   have c5:=RS.cell hr (hrow)
   replace hJ:=hJ.fact (c5.sees (Sees.refl _))
   let R:Reg:=⟨⟨40,h.w,h.bad,[]⟩,[(0,27,fun gh=>.agg #[Vi k,Vi n,.string t]),(1,28,fun gh=>.bool true),(2,29,fun gh=>.bool false),(3,30,fun gh=>.bool false),(4,31,fun gh=>Vp b1),(5,32,fun gh=>Vi k),(6,33,fun gh=>.slice (some ⟨b2,o3,none⟩) fs.length cap),(7,34,fun gh=>Vi (i:Int)),(8,35,fun gh=>.pointer (some ⟨b2,o3 + i * 9,none⟩)),(9,36,fun gh=>.pointer (some ⟨b2,o3 + i * 9 + 2,none⟩)),(10,37,fun gh=>Vi f.ty),(11,38,fun gh=>.bool (k != f.ty)),(12,39,fun gh=>.bool (k != f.ty)),(13,26,fun gh=>.bool (k != f.ty))],[(0,.slice (some ⟨b2,o3,none⟩) fs.length cap),(5,Vp b1),(7,Vi (i:Int))],[⟨some (.box b1 [Vi k,Vi n,.string t]),[]⟩],[],[[],[0],[0,1],[0,1,2],[0,1,2,3],[0,1,2,3,4],[0,1,2,3],[0,1,2,3],[0,1,2,3,6,7],[0,1,2,3,6,7,8],[0,1,2,3,6,7,8,9],[0,1,2,3,4,5,6,7,8,9,10],[0,1,2,3,4,5,6,7,8,9,10,11],[0,1,2,3,4,5,6,7,8,9,10,11,12]],h⟩
   have hmono:∀ zq∈R.F,∀ zx zh zi,Sees zh zi→zq.2 zx zh→zq.2 zx zi:=lJ
   refine oY (by kernel_rfl) R hJ 14 [.ld 0 0,.cl,.pu,.pu,.pu,.ld 0 0,.pu,.pu,.cl,.pu,.lf 0 2,.pu,.pu,.pu] (by kernel_rfl) hmono (fun _ _ _=>by kernel_rfl) (fun hT hA=>?_) ?_
   ·clear hJ
    refine And.intro (rW hT hA hmono 28 (fun gh=>.bool true) [0] 1 42 (fun gh=>#[.agg #[Vi k,Vi n,.string t]]) (fun gh H sH fH lent=>hkn _ hk)) ?_
    refine And.intro (sW hT hA 35 (fun gh=>.pointer (some ⟨b2,o3 + i * 9,none⟩)) [3,6,7] 8 (fun gh w=>jX (t:=23) (x:=(.tmp 33)) (y:=(.tmp 34)) (b:=b2) (off:=o3) (n:=fs.length) (cap:=cap) (k:=i) (e:=43) (kk:=9) (by kernel_rfl) (by kernel_rfl) (by kernel_rfl) (by first | omega | (simp; omega)) Tryz.underlying23 (by kernel_rfl))) ?_
    trivial
   clear hJ a w; intro gh h6 a w sR hJ1 hF; have s7:Sees h h6:=sR; clear sR
   have hJ:K ⟨40,h.w,h.bad,[]⟩ [(26,.bool (k != f.ty))] [.box b1 [Vi k,Vi n,.string t]] [(b2,o3 + i * 9,[.string f.name,Vi f.kind,Vi f.ty,Vi f.src.op,Vi f.src.k,Vi f.src.n,.string f.src.s,.string f.src.nm,.slice (sA u) (sN u) (sC u)]),(b2,o3 + i * 9,[.string f.name,Vi f.kind,Vi f.ty,Vi f.src.op,Vi f.src.k,Vi f.src.n,.string f.src.s,.string f.src.nm,.slice (sA u) (sN u) (sC u)])] h6 a w:=hJ1.tw
   clear hJ1 hF hmono R
   clear gh
   refine rk' hJ false 1 [] [] (.k (.code [1,1,1,1,1,0,0,1,1]) [.block 0,.seq [1,1,1]] [26] []) ?_
   clear hJ a w; intro a w hJ
   by_cases h2:k=f.ty
   ·refine iY hJ (t:=k != f.ty) ((by rw [bne_eq_false_iff_eq]; exact h2)) ?_
    refine rk' hJ false 9 [] [] (.k (.out .ret) [] [] [(6,Vi 0)]) ?_
    clear hJ a w; intro a w hJ
    refine gY (hQ [Vi 0] _ [] hJ (.rtm hJ.j .nil) (fJ _) rfl ?_).1
    rw [if_pos h1,if_pos h2]; rfl
   ·skip
    refine qY hJ (t:=k != f.ty) (bne_iff_ne.2 h2) ?_
    refine rk' hJ false 8 [] [] (.k (.out .ret) [] [] [(6,Vi 9)]) ?_
    clear hJ a w; intro a w hJ
    refine gY (hQ [Vi 9] _ [] hJ (.rtm hJ.j .nil) (fJ _) rfl ?_).1
    rw [if_pos h1,if_neg h2]; rfl
  ·skip
   refine qY hJ (t:=f.kind != 1) (bne_iff_ne.2 h1) ?_
   refine rk' hJ false 8 [] [] (.k (.out .ret) [] [] [(6,Vi 2)]) ?_
   clear hJ a w; intro a w hJ
   refine gY (hQ [Vi 2] _ [] hJ (.rtm hJ.j .nil) (fJ _) rfl ?_).1
   rw [if_neg h1]; rfl
end Go.Proofs.YthckljafinhepaaGreat
