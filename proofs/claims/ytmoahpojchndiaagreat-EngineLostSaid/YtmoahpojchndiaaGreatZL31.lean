/-
  Forms as plain data, and how they lie in memory; what the generator of forms gives, in plain words.
-/
import Derived.Test.YtmoahpojchndiaaGreatZL22
namespace Go.Proofs.YtmoahpojchndiaaGreat
open Go.RowKit
set_option linter.unusedVariables false
set_option linter.unusedSimpArgs false
def fnames:List ByteArray:=[⟨#[97]⟩,⟨#[98]⟩,⟨#[99]⟩,⟨#[100,97,121]⟩,⟨#[101,49]⟩,⟨#[102,101,101]⟩,⟨#[103,111,110,101]⟩,⟨#[104,111,109,101]⟩,⟨#[105,116,101,109]⟩,⟨#[106,111,98]⟩]
def fname (i:Nat):ByteArray:=fnames.getD i ⟨#[]⟩
structure Pg where
 name:ByteArray
 fields:List ByteArray
 skip:Ex
structure Fm where
 fields:List Fd
 pages:List Pg
@[reducible] def pgRow (p:Pg) (u v:Value):List Value:=[.string p.name,u,.int .i64 p.skip.op,.int .i64 p.skip.k,.int .i64 p.skip.n,.string p.skip.s,.string p.skip.nm,v]
def yW:List Pg→List Value→List Value→List (List Value)
 | p :: l,u :: us,v :: vs=>pgRow p u v :: yW l us vs
 | _,_,_=>[]
def AllStr (h:Vw):List (List ByteArray)→List Value→Prop
 | [],us=>us=[]
 | x :: l,us=>∃ u r,us=u :: r∧RS h 1 u (pY x)∧AllStr h l r
theorem AllStr.sees {h h':Vw} (s:Sees h h'):∀ {l:List (List ByteArray)} {us:List Value},AllStr h l us→AllStr h' l us
 | [],_,k=>k
 | x :: l,_,⟨u,r,e,k1,k2⟩=>⟨u,r,e,k1.sees s,AllStr.sees s k2⟩
theorem AllStr.len {h:Vw}:∀ {l:List (List ByteArray)} {us:List Value},AllStr h l us→us.length=l.length
 | [],_,k=>by cases k; rfl
 | x :: l,_,⟨u,r,e,k1,k2⟩=>by subst e; simp [AllStr.len k2]
theorem AllStr.snoc {h:Vw} {x:List ByteArray} {u:Value} (k:RS h 1 u (pY x)):∀ {l:List (List ByteArray)} {us:List Value},AllStr h l us→AllStr h (l++[x]) (us++[u])
 | [],_,e=>by cases e; exact ⟨u,[],rfl,k,rfl⟩
 | y :: l,_,⟨u',r,e,k1,k2⟩=>by subst e; exact ⟨u',r++[u],rfl,k1,AllStr.snoc k k2⟩
theorem pgRows_snoc {p:Pg} {u v:Value}:∀ {l:List Pg} {us vs:List Value},us.length=l.length→vs.length=l.length→yW (l++[p]) (us++[u]) (vs++[v])=yW l us vs++[pgRow p u v]
 | [],[],[],_,_=>rfl
 | q :: l,u' :: us,v' :: vs,h1,h2=>by
  show pgRow q u' v' :: yW (l++[p]) (us++[u]) (vs++[v])=_
  rw [pgRows_snoc (by simpa using h1) (by simpa using h2)]; rfl
theorem zW:∀ {l:List Pg} {us vs:List Value},us.length=l.length→vs.length=l.length→(yW l us vs).length=l.length
 | [],[],[],_,_=>rfl
 | q :: l,u' :: us,v' :: vs,h1,h2=>by
  show (pgRow q u' v' :: yW l us vs).length=_
  rw [List.length_cons,zW (by simpa using h1) (by simpa using h2)]; rfl
def IsPgs (h:Vw) (v:Value) (l:List Pg):Prop:=∃ us vs,RS h 8 v (yW l us vs)∧AllStr h (l.map (·.fields)) us∧AllArgs h (l.map (·.skip)) vs
theorem IsPgs.sees {h h':Vw} {v:Value} {l:List Pg} (k:IsPgs h v l) (s:Sees h h'):IsPgs h' v l:=by
 obtain ⟨us,vs,h1,h2,h3⟩:=k
 exact ⟨us,vs,h1.sees s,h2.sees s,h3.sees s⟩
structure IsForm (h:Vw) (u v:Value) (f:Fm):Prop where
 fields:IsFds h u f.fields
 pages:IsPgs h v f.pages
theorem IsForm.sees {h h':Vw} {u v:Value} {f:Fm} (k:IsForm h u v f) (s:Sees h h'):IsForm h' u v f:=⟨k.fields.sees s,k.pages.sees s⟩
theorem fdRows_snoc {f:Fd} {v:Value} {l:List Fd} {vs:List Value} (hl:vs.length=l.length):zK (l++[f]) (vs++[v])=zK l vs++[fdRow f v]:=by
 show List.zipWith _ _ _=_
 rw [List.zipWith_append hl.symm]; rfl
theorem AllSrc.snoc {h:Vw} {f:Fd} {v:Value} {l:List Fd} {vs:List Value} (k:AllSrc h l vs) (hv:IsArgs h f.src v):AllSrc h (l++[f]) (vs++[v]):=by
 unfold AllSrc at k ⊢
 rw [List.map_append,List.map_singleton]
 exact AllArgs.snoc hv k
theorem AllSrc.sees {h h':Vw} {l:List Fd} {vs:List Value} (k:AllSrc h l vs) (s:Sees h h'):AllSrc h' l vs:=AllArgs.sees k s
theorem AllSrc.get {h:Vw} {l:List Fd} {vs:List Value} (k:AllSrc h l vs) {i:Nat} {f:Fd} {v:Value} (hf:l[i]?=some f) (hv:vs[i]?=some v):IsArgs h f.src v :=
 AllArgs.get k (x:=f.src) (by rw [List.getElem?_map,hf]; rfl) hv
def srcE (l:List RawD) (fs:List Fd) (r:RawD) (n:Nat):Ex × Nat :=
 if cJ r.k 3=1 then gJ l fs 2 (1 + cJ r.b 3) n else if cJ r.k 3=2 then gJ l fs 1 (1 + cJ r.a 3) n else (zE,n)
def fJ (l:List RawD):Nat→List Fd × Nat
 | 0=>([],bJ l 0)
 | k + 1=>((fJ l k).1++[⟨fname k,1 + cJ (aJ l (fJ l k).2).k 3,1 + cJ (aJ l (fJ l k).2).b 3,(srcE l (fJ l k).1 (aJ l (fJ l k).2) (bJ l (fJ l k).2)).1⟩],
   (srcE l (fJ l k).1 (aJ l (fJ l k).2) (bJ l (fJ l k).2)).2)
def iJ (l:List RawD):Nat:=(1 + cJ (aJ l 0).a 10).toNat
def eJ (l:List RawD):Nat:=(1 + cJ (aJ l 0).b 4).toNat
def xW (fs:List Fd) (n i:Nat):List ByteArray:=(fs.zipIdx.filter (fun p=>p.2 % (n + 1) == i)).map (·.1.name)
def wW (i:Nat):ByteArray:=⟨#[112,UInt8.ofNat (49 + i)]⟩
def skipE (l:List RawD) (fs:List Fd) (r:RawD) (n:Nat):Ex × Nat:=if cJ r.k 2=0 then gJ l fs 1 2 n else (zE,n)
def oJ (l:List RawD) (fs:List Fd) (n n0:Nat):Nat→List Pg × Nat
 | 0=>([],n0)
 | k + 1=>((oJ l fs n n0 k).1++[⟨wW k,xW fs n k,(skipE l fs (aJ l (oJ l fs n n0 k).2) (bJ l (oJ l fs n n0 k).2)).1⟩],(skipE l fs (aJ l (oJ l fs n n0 k).2) (bJ l (oJ l fs n n0 k).2)).2)
def formF (l:List RawD):List Fd:=if cJ (aJ l 0).k 2=0 then (fJ l (iJ l)).1.reverse else (fJ l (iJ l)).1
def iQ (l:List RawD):Fm:=⟨formF l,(oJ l (fJ l (iJ l)).1 (eJ l) (fJ l (iJ l)).2 (eJ l)).1⟩
theorem srcE_le (l:List RawD) (fs:List Fd) (r:RawD) (n:Nat):n≤(srcE l fs r n).2∧(srcE l fs r n).2≤n + 22:=by
 unfold srcE
 split
 ·have:=genE_le l fs 2 (1 + cJ r.b 3) n; simp only [bnd] at this; omega
 ·split
  ·have:=genE_le l fs 1 (1 + cJ r.a 3) n; simp only [bnd] at this; omega
  ·simp only; omega
theorem gQ (l:List RawD):∀ k,(fJ l k).1.length=k
 | 0=>rfl
 | k + 1=>by show ((fJ l k).1++[_]).length=_; rw [List.length_append,gQ l k]; rfl
theorem fldT_le (l:List RawD):∀ k,(fJ l k).2≤1 + 23 * k
 | 0=>by have:=uJ l 0; show bJ l 0≤_; omega
 | k + 1=>by
  have h1:=fldT_le l k
  have h2:=uJ l (fJ l k).2
  have h3:=srcE_le l (fJ l k).1 (aJ l (fJ l k).2) (bJ l (fJ l k).2)
  show (srcE l (fJ l k).1 (aJ l (fJ l k).2) (bJ l (fJ l k).2)).2≤_
  omega
theorem skipE_le (l:List RawD) (fs:List Fd) (r:RawD) (n:Nat):n≤(skipE l fs r n).2∧(skipE l fs r n).2≤n + 7:=by
 unfold skipE
 split
 ·have:=genE_le l fs 1 2 n; simp only [bnd] at this; omega
 ·simp only; omega
theorem pgT_len (l:List RawD) (fs:List Fd) (n n0:Nat):∀ k,(oJ l fs n n0 k).1.length=k
 | 0=>rfl
 | k + 1=>by show ((oJ l fs n n0 k).1++[_]).length=_; rw [List.length_append,pgT_len l fs n n0 k]; rfl
theorem pgT_le (l:List RawD) (fs:List Fd) (n n0:Nat):∀ k,(oJ l fs n n0 k).2≤n0 + 8 * k
 | 0=>by show n0≤_; omega
 | k + 1=>by
  have h1:=pgT_le l fs n n0 k
  have h2:=uJ l (oJ l fs n n0 k).2
  have h3:=skipE_le l fs (aJ l (oJ l fs n n0 k).2) (bJ l (oJ l fs n n0 k).2)
  show (skipE l fs (aJ l (oJ l fs n n0 k).2) (bJ l (oJ l fs n n0 k).2)).2≤_
  omega
theorem fname_at {k:Nat} (h:k < 10):(pY fnames)[k]?=some [.string (fname k)]:=by
 match k,h with
 | 0,_=>rfl
 | 1,_=>rfl
 | 2,_=>rfl
 | 3,_=>rfl
 | 4,_=>rfl
 | 5,_=>rfl
 | 6,_=>rfl
 | 7,_=>rfl
 | 8,_=>rfl
 | 9,_=>rfl
theorem nFields_le (l:List RawD):1≤iJ l∧iJ l≤10∧(iJ l:Int)=1 + cJ (aJ l 0).a 10:=by
 have h0:=fX (aJ l 0).a 10 (by omega)
 have h1:=eX (aJ l 0).a 10 (by omega)
 unfold iJ; omega
theorem nPages_le (l:List RawD):1≤eJ l∧eJ l≤4∧(eJ l:Int)=1 + cJ (aJ l 0).b 4:=by
 have h0:=fX (aJ l 0).b 4 (by omega)
 have h1:=eX (aJ l 0).b 4 (by omega)
 unfold eJ; omega
theorem pgNames_snoc (fs:List Fd) (n i:Nat) (f:Fd) (k:Nat) (hk:fs.length=k):xW (fs++[f]) n i=if k % (n + 1)=i then xW fs n i++[f.name] else xW fs n i:=by
 unfold xW
 rw [List.zipIdx_append,List.filter_append,List.map_append]
 simp only [hk,Nat.zero_add,List.zipIdx_cons,List.zipIdx_nil]
 by_cases h:k % (n + 1)=i
 ·rw [if_pos h]; simp [List.filter_cons,h]
 ·rw [if_neg h]; simp [List.filter_cons,h]
theorem pgNames_len (fs:List Fd) (n i:Nat):(xW fs n i).length≤fs.length:=by
 unfold xW
 rw [List.length_map]
 exact Nat.le_trans (List.length_filter_le _ _) (by simp)
end Go.Proofs.YtmoahpojchndiaaGreat
