/-
  Formulas as trees, and how they lie in memory; what the generator of formulas gives, in plain words.
-/
import Derived.Test.YthgcgciceejicaaGreatDoorZT10
import Derived.Test.YthgcgciceejicaaGreatDoorZT13
namespace Go.Proofs.YthgcgciceejicaaGreatDoor
open Go.RowKit
inductive Ex where
 | mk (op k n:Int) (s nm:ByteArray) (args:List Ex)
namespace Ex
def op:Ex->Int | .mk a _ _ _ _ _=>a
def k:Ex->Int | .mk _ a _ _ _ _=>a
def n:Ex->Int | .mk _ _ a _ _ _=>a
def s:Ex->ByteArray | .mk _ _ _ a _ _=>a
def nm:Ex->ByteArray | .mk _ _ _ _ a _=>a
def args:Ex->List Ex | .mk _ _ _ _ _ a=>a
end Ex
@[reducible] def exRow (x:Ex) (v:Value):List Value:=[.int .i64 x.op,.int .i64 x.k,.int .i64 x.n,.string x.s,.string x.nm,v]
abbrev rK (l:List Ex) (vs:List Value):List (List Value):=List.zipWith exRow l vs
mutual
def IsArgs (h:Vw):Ex->Value->Prop
 | .mk _ _ _ _ _ args,v=>∃ vs,RS h 6 v (rK args vs)/\AllArgs h args vs
def AllArgs (h:Vw):List Ex->List Value->Prop
 | [],vs=>vs=[]
 | x :: l,vs=>∃ u us,vs=u :: us/\IsArgs h x u/\AllArgs h l us
end
mutual
theorem args_sees {h h':Vw} (s:Sees h h'):∀ (x:Ex) (v:Value),IsArgs h x v->IsArgs h' x v
 | .mk _ _ _ _ _ args,v,k=>by
  unfold IsArgs at k ⊢;obtain ⟨vs,h1,h2⟩:=k;exact ⟨vs,h1.sees s,all_sees s args vs h2⟩
theorem all_sees {h h':Vw} (s:Sees h h'):∀ (l:List Ex) (vs:List Value),AllArgs h l vs->AllArgs h' l vs
 | [],vs,k=>by unfold AllArgs at k ⊢; exact k
 | x :: l,vs,k=>by
  unfold AllArgs at k ⊢;obtain ⟨u,us,h1,h2,h3⟩:=k;exact ⟨u,us,h1,args_sees s x u h2,all_sees s l us h3⟩
end
theorem IsArgs.sees {h h':Vw} {x:Ex} {v:Value} (k:IsArgs h x v) (s:Sees h h'):IsArgs h' x v:=args_sees s x v k
theorem AllArgs.sees {h h':Vw} {l:List Ex} {vs:List Value} (k:AllArgs h l vs) (s:Sees h h'):AllArgs h' l vs:=all_sees s l vs k
theorem AllArgs.len {h:Vw}:∀ {l:List Ex} {vs:List Value},AllArgs h l vs->vs.length=l.length
 | [],vs,k=>by unfold AllArgs at k; subst k; rfl
 | x :: l,vs,k=>by
  unfold AllArgs at k;obtain ⟨u,us,rfl,-,h3⟩:=k;simp [AllArgs.len h3]
theorem AllArgs.snoc {h:Vw} {x:Ex} {v:Value} (hx:IsArgs h x v):∀ {l:List Ex} {vs:List Value},AllArgs h l vs->AllArgs h (l++[x]) (vs++[v])
 | [],vs,k=>by unfold AllArgs at k; subst k; unfold AllArgs; exact ⟨v,[],rfl,hx,by unfold AllArgs; rfl⟩
 | y :: l,vs,k=>by
  unfold AllArgs at k;obtain ⟨u,us,rfl,h2,h3⟩:=k;show AllArgs h (y :: (l++[x])) _;unfold AllArgs;exact ⟨u,us++[v],rfl,h2,AllArgs.snoc hx h3⟩
theorem exRows_snoc {l:List Ex} {vs:List Value} (hl:vs.length=l.length) (x:Ex) (v:Value):rK (l++[x]) (vs++[v])=rK l vs++[exRow x v]:=by
 show List.zipWith _ _ _=_;rw [List.zipWith_append hl.symm]; rfl
theorem sK {l:List Ex} {vs:List Value} (hl:vs.length=l.length):(rK l vs).length=l.length:=by simp [rK,hl]
theorem sJ (h:Vw) (x:Ex) (hx:x.args=[]):IsArgs h x (.slice none 0 0):=by
 obtain ⟨a,b,c,d,e,l⟩:=x;simp only [Ex.args] at hx;subst hx;unfold IsArgs;exact ⟨[],RS.nil _ _,by unfold AllArgs; rfl⟩
theorem IsArgs.form {h:Vw} {x:Ex} {v:Value} (k:IsArgs h x v):∃ vs,RS h 6 v (rK x.args vs)/\AllArgs h x.args vs:=by
 obtain ⟨a,b,c,d,e,l⟩:=x;unfold IsArgs at k;exact k
theorem IsArgs.mk {h:Vw} {x:Ex} {v:Value} {vs:List Value} (h1:RS h 6 v (rK x.args vs)) (h2:AllArgs h x.args vs):IsArgs h x v:=by
 obtain ⟨a,b,c,d,e,l⟩:=x;unfold IsArgs;exact ⟨vs,h1,h2⟩
theorem IsArgs.slice {h:Vw} {x:Ex} {v:Value} (k:IsArgs h x v):∃ A n c,v=.slice A n c:=by
 obtain ⟨vs,h1,-⟩:=k.form;obtain ⟨A,c,e,-⟩:=h1.form;exact ⟨A,_,c,e⟩
theorem AllArgs.get {h:Vw}:∀ {l:List Ex} {vs:List Value},AllArgs h l vs->∀ {i:Nat} {x:Ex} {u:Value},l[i]?=some x->vs[i]?=some u->IsArgs h x u
 | [],vs,_,i,x,u,hx,_=>by simp at hx
 | y :: l,vs,k,i,x,u,hx,hu=>by
  unfold AllArgs at k;obtain ⟨u',us,rfl,h2,h3⟩:=k
  cases i with
  | zero=>simp at hx hu; subst hx hu; exact h2
  | succ i=>exact AllArgs.get h3 (by simpa using hx) (by simpa using hu)
structure Fd where
 name:ByteArray
 kind:Int
 ty:Int
 src:Ex
@[reducible] def fdRow (f:Fd) (v:Value):List Value:=[.string f.name,.int .i64 f.kind,.int .i64 f.ty,.int .i64 f.src.op,.int .i64 f.src.k,.int .i64 f.src.n,.string f.src.s,.string f.src.nm,v]
abbrev xK (l:List Fd) (vs:List Value):List (List Value):=List.zipWith fdRow l vs
def AllSrc (h:Vw) (l:List Fd) (vs:List Value):Prop:=AllArgs h (l.map (·.src)) vs
def IsFds (h:Vw) (v:Value) (l:List Fd):Prop:=∃ vs,RS h 9 v (xK l vs)/\AllSrc h l vs
theorem IsFds.sees {h h':Vw} {v:Value} {l:List Fd} (k:IsFds h v l) (s:Sees h h'):IsFds h' v l:=by
 obtain ⟨vs,h1,h2⟩:=k;exact ⟨vs,h1.sees s,AllArgs.sees h2 s⟩
theorem AllSrc.len {h:Vw} {l:List Fd} {vs:List Value} (k:AllSrc h l vs):vs.length=l.length:=by
 have:=AllArgs.len k; simpa using this
theorem zK {l:List Fd} {vs:List Value} (hl:vs.length=l.length):(xK l vs).length=l.length:=by simp [xK,hl]
theorem yK {l:List Fd} {vs:List Value} {i:Nat} {f:Fd} {v:Value} (hf:l[i]?=some f) (hv:vs[i]?=some v):(xK l vs)[i]?=some (fdRow f v):=by
 show (List.zipWith fdRow l vs)[i]?=_;rw [Dw,hf,hv]
def absI (n:Int):Int:=if n < 0 then -n else n
def gK (kind:Int) (r:RawD):Ex:=.mk 1 kind (if kind=1 then absI (valN kind r.k r.a) else valN kind r.k r.a) (valS kind r.t) ⟨#[]⟩ []
def refE (s:ByteArray):Ex:=.mk 2 0 0 ⟨#[]⟩ s []
def nW (fs:List Fd) (kind:Int):List ByteArray:=(fs.filter (λf=>f.ty == kind)).map (·.name)
def yV (r:RawD) (fs:List Fd) (kind:Int):Ex :=
 match (nW fs kind)[(cJ r.b (nW fs kind).length).toNat]? with
 | some s=>if cJ r.k 4=0 then gK kind r else refE s
 | none=>gK kind r
def dJ (one:Int->Nat->Ex × Nat):List Int->Nat->List Ex × Nat
 | [],n=>([],n)
 | k :: ks,n=>let p:=one k n; let q:=dJ one ks p.2; (p.1 :: q.1,q.2)
def opE (op:Int) (args:List Ex):Ex:=.mk op 0 0 ⟨#[]⟩ ⟨#[]⟩ args
def intOps (n:Int):Int:=if n=2 then 5 else if n=3 then 6 else if n=4 then 7 else if n=5 then 8 else 9
def pX (r:RawD) (kind:Int):Int × List Int :=
 if cJ r.a 6=0 then (17,[2,kind,kind])
 else if kind=1 then (if cJ r.b 7=0 then (3,[1]) else if cJ r.b 7=1 then (18,[3]) else (intOps (cJ r.b 7),[1,1]))
 else if kind=2 then (if cJ r.b 7=0 then (4,[2]) else if cJ r.b 7 < 3 then (15 + cJ r.b 7 - 1,[2,2]) else (11 + cJ r.b 7 - 3,[1 + cJ r.a 3,1 + cJ r.a 3]))
 else (10,[3,3])
def gJ (l:List RawD) (fs:List Fd):Nat->Int->Nat->Ex × Nat
 | 0,kind,n=>(yV (aJ l (bJ l n)) fs kind,bJ l (bJ l n))
 | d + 1,kind,n =>
  if cJ (aJ l n).k 3=0 then (yV (aJ l (bJ l n)) fs kind,bJ l (bJ l n))
  else let p:=pX (aJ l n) kind; let q:=dJ (gJ l fs d) p.2 (bJ l n); (opE p.1 q.1,q.2)
theorem manyE_snoc (one:Int->Nat->Ex × Nat) (k:Int):∀ (l:List Int) (n:Nat),dJ one (l++[k]) n=((dJ one l n).1++[(one k (dJ one l n).2).1],(one k (dJ one l n).2).2)
 | [],n=>rfl
 | x :: l,n=>by
  show ((one x n).1 :: (dJ one (l++[k]) (one x n).2).1,(dJ one (l++[k]) (one x n).2).2)=_;rw [manyE_snoc one k l]; rfl
def bnd:Nat->Nat
 | 0=>2
 | d + 1=>1 + 3 * bnd d
theorem tJ (l:List RawD) (n:Nat):n<=bJ l n/\bJ l n<=n + 1:=by unfold bJ; split <;> omega
theorem manyE_le {one:Int->Nat->Ex × Nat} {b:Nat} (h:∀ k n,n<=(one k n).2/\(one k n).2<=n + b):∀ (l:List Int) (n:Nat),n<=(dJ one l n).2/\(dJ one l n).2<=n + l.length * b
 | [],n=>by simp [dJ]
 | x :: l,n=>by
  have h1:=h x n;have h2:=manyE_le h l (one x n).2;show n<=(dJ one l (one x n).2).2/\(dJ one l (one x n).2).2<=n + (l.length + 1) * b;rw [Uq]; omega
theorem pickE_len (r:RawD) (kind:Int):(pX r kind).2.length<=3:=by
 unfold pX
 repeat' split
 all_goals simp
theorem genE_le (l:List RawD) (fs:List Fd):∀ (d:Nat) (kind:Int) (n:Nat),n<=(gJ l fs d kind n).2/\(gJ l fs d kind n).2<=n + bnd d
 | 0,kind,n=>by
  have h1:=tJ l n;have h2:=tJ l (bJ l n);show n<=bJ l (bJ l n)/\bJ l (bJ l n)<=n + 2;omega
 | d + 1,kind,n=>by
  have h1:=tJ l n;have h2:=tJ l (bJ l n);have hb:2<=bnd (d + 1):=by
   have:∀ d,2<=bnd d:=λd=>by induction d with | zero=>exact Hj _ | succ d ih=>unfold bnd; omega
   exact this _
  unfold gJ
  split
  ·dsimp only; omega
  ·have h3:=manyE_le (genE_le l fs d) (pX (aJ l n) kind).2 (bJ l n);have h4:=Rv (bnd d) (pickE_len (aJ l n) kind)
   dsimp only
   unfold bnd;omega
end Go.Proofs.YthgcgciceejicaaGreatDoor
