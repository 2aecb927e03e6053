/-
  What a formula is by what its fields are, in plain words; what grows.
-/
import Derived.Test.YthckljafinhepaaGreatZM26
import Derived.Test.YthckljafinhepaaGreatZM25
namespace Go.Proofs.YthckljafinhepaaGreat
open Go.RowKit
theorem env_hit (env:Env) (n:ByteArray) (v:Vl):Env.get ((n,v) :: env) n=some v:=by
 unfold Env.get
 rw [if_pos ((Go.MapKept.bytes_beq n n).2 rfl)]
theorem env_miss (env:Env) {n s:ByteArray} (v:Vl) (h:s≠n):Env.get ((n,v) :: env) s=env.get s:=by
 conv=>lhs; unfold Env.get
 rw [if_neg]
 intro hb
 exact h ((Go.MapKept.bytes_beq s n).1 hb)
def evalOp (g:Option Vl) (op k n:Int) (s:ByteArray) (vs:List Vl):Vl :=
 if op=1 then ⟨k,n,s⟩
 else if op=2 then (match g with | some v=>v | none=>xK 5)
 else if op=15∨op=16 then
  (if (jQ (hdV vs 0)).2=false∨((jQ (hdV vs 0)).1.n == 1)=(op == 16) then (jQ (hdV vs 0)).1 else aK (hdV vs 1))
 else if op=17 then
  (if (jQ (hdV vs 0)).2=false then (jQ (hdV vs 0)).1 else if (jQ (hdV vs 0)).1.n=1 then hdV vs 1 else hdV vs 2)
 else (match eV none vs with | some v=>v | none=>oJ op vs)
theorem evalE_op (env:Env) (x:Ex):nK env x=evalOp (env.get x.nm) x.op x.k x.n x.s (oK env x.args):=by
 obtain ⟨a,b,c,d,e,l⟩:=x
 rw [nK]; rfl
theorem evalOp_get {g g':Option Vl} {op k n:Int} {s:ByteArray} {vs:List Vl} (h:op≠2):evalOp g op k n s vs=evalOp g' op k n s vs:=by
 unfold evalOp
 rw [if_neg h,if_neg h]
theorem eval_local {e1 e2:Env} {x:Ex} (h:∀ s∈vW x,e1.get s=e2.get s):nK e1 x=nK e2 x:=by
 revert h
 refine ex_ind (p:=fun x=>(∀ s∈vW x,e1.get s=e2.get s)→nK e1 x=nK e2 x) (fun x ih h=>?_) x
 rw [wW] at h
 have hl:oK e1 x.args=oK e2 x.args:=by
  rw [pK,pK]
  exact List.map_congr_left fun y hy=>ih y hy fun s hs=>h s (List.mem_append_right _ (mem_refsL.2 ⟨y,hy,hs⟩))
 rw [evalE_op,evalE_op,hl]
 by_cases h2:x.op=2
 ·rw [h x.nm (by rw [if_pos h2]; simp)]
 ·exact evalOp_get h2
def Grows (w v:Vl):Prop:=w.k=4∨v=w∨(v.k=5∧w.k=5)
theorem Grows.rfl' (v:Vl):Grows v v:=.inr (.inl rfl)
inductive GrowsL:List Vl→List Vl→Prop
 | nil:GrowsL [] []
 | cons {w v:Vl} {l m:List Vl} (h:Grows w v) (k:GrowsL l m):GrowsL (w :: l) (v :: m)
theorem GrowsL.hd {l m:List Vl} (h:GrowsL l m) (i:Nat):Grows (hdV l i) (hdV m i):=by
 induction h generalizing i with
 | nil=>exact .rfl' _
 | cons h k ih =>
  cases i with
  | zero=>exact h
  | succ i=>exact ih i
theorem GrowsL.map {f g:Ex→Vl}:∀ {l:List Ex},(∀ y∈l,Grows (f y) (g y))→GrowsL (l.map f) (l.map g)
 | [],_=>.nil
 | x :: l,h=>.cons (h x (by simp)) (GrowsL.map fun y hy=>h y (by simp [hy]))
end Go.Proofs.YthckljafinhepaaGreat
