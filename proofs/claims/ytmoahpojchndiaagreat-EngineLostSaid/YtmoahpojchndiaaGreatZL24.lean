/-
  What formulas are, in plain words.
-/
import Derived.Test.YtmoahpojchndiaaGreatZL19
import Derived.Test.YtmoahpojchndiaaGreatZL14
import Derived.Test.YtmoahpojchndiaaGreatZL21
import Derived.Test.YtmoahpojchndiaaGreatZL3
import Derived.Test.YtmoahpojchndiaaGreatZL23
namespace Go.Proofs.YtmoahpojchndiaaGreat
open Go.RowKit
def OkV (v:Vl):Prop:=v.known∨v=⟨4,0,⟨#[]⟩⟩∨(v.k=5∧1≤v.n∧v.n≤15∧v.s=⟨#[]⟩)
def wK (e:Int):Vl:=⟨5,e,⟨#[]⟩⟩
def truthV (b:Bool):Vl:=⟨2,if b then 1 else 0,⟨#[]⟩⟩
def iW (op a b:Int):Int × Int :=
 if op=5 then (if -1099511627776≤a * b∧a * b≤1099511627776 then (a * b,0) else (0,7))
 else if op=6 then (if b=0 then (0,8) else (fq a b,0))
 else if op=7 then (if b=0 then (0,8) else (fr a b,0))
 else if op=8 then (if -1099511627776≤a + b∧a + b≤1099511627776 then (a + b,0) else (0,7))
 else (if -1099511627776≤a - b∧a - b≤1099511627776 then (a - b,0) else (0,7))
def nrV (op a b:Int):Vl:=if (iW op a b).2=0 then ⟨1,(iW op a b).1,⟨#[]⟩⟩ else wK (iW op a b).2
def nV (l:List Vl) (k:Int):Bool:=l.all (fun v=>v.k == k)
def hdV (l:List Vl) (i:Nat):Vl:=l.getD i ⟨0,0,⟨#[]⟩⟩
def cmpB (op c:Int):Bool:=if op=11 then decide (c < 0) else if op=12 then decide (c≤0) else if op=13 then c == 0 else c != 0
def joinV (x y:Vl):Vl:=if 40 < x.s.size + y.s.size then wK 1 else ⟨3,0,x.s++y.s⟩
def nJ (op:Int) (l:List Vl):Vl :=
 if 11≤op∧op≤14 then (if (hdV l 0).k=(hdV l 1).k then truthV (cmpB op (cmpV (hdV l 0).n (hdV l 1).n (hdV l 0).s.toList (hdV l 1).s.toList)) else wK 9)
 else if op=4 then (if nV l 2 then truthV ((hdV l 0).n == 0) else wK 9)
 else if op=18 then (if nV l 3 then ⟨1,((hdV l 0).s.size:Int),⟨#[]⟩⟩ else wK 9)
 else if op=10 then (if nV l 3 then joinV (hdV l 0) (hdV l 1) else wK 9)
 else if op=3 then (if nV l 1 then nrV 9 0 (hdV l 0).n else wK 9)
 else (if nV l 1 then nrV op (hdV l 0).n (hdV l 1).n else wK 9)
def rV:Option Vl→List Vl→Option Vl
 | p,[]=>p
 | p,v :: l=>if v.k=5 then some v else rV (if v.k=4 then some v else p) l
def xJ (v:Vl):Vl:=if v.k=1∨v.k=3 then wK 9 else v
def fQ (v:Vl):Vl × Bool:=if v.k=1∨v.k=3 then (wK 9,false) else (v,v.k == 2)
mutual
def nK (env:Env):Ex→Vl
 | .mk op k n s nm args =>
  if op=1 then ⟨k,n,s⟩
  else if op=2 then (match env.get nm with | some v=>v | none=>wK 5)
  else if op=15∨op=16 then
   (if (fQ (hdV (oK env args) 0)).2=false∨((fQ (hdV (oK env args) 0)).1.n == 1)=(op == 16) then (fQ (hdV (oK env args) 0)).1 else xJ (hdV (oK env args) 1))
  else if op=17 then
   (if (fQ (hdV (oK env args) 0)).2=false then (fQ (hdV (oK env args) 0)).1 else if (fQ (hdV (oK env args) 0)).1.n=1 then hdV (oK env args) 1 else hdV (oK env args) 2)
  else (match rV none (oK env args) with | some v=>v | none=>nJ op (oK env args))
def oK (env:Env):List Ex→List Vl
 | []=>[]
 | x :: l=>nK env x :: oK env l
end
theorem pK (env:Env):∀ l,oK env l=l.map (nK env)
 | []=>by rw [oK]; rfl
 | x :: l=>by rw [oK,pK env l]; rfl
theorem evalE_eq (env:Env) (x:Ex):nK env x =
  if x.op=1 then ⟨x.k,x.n,x.s⟩
  else if x.op=2 then (match env.get x.nm with | some v=>v | none=>wK 5)
  else if x.op=15∨x.op=16 then
   (if (fQ (hdV (oK env x.args) 0)).2=false∨((fQ (hdV (oK env x.args) 0)).1.n == 1)=(x.op == 16) then (fQ (hdV (oK env x.args) 0)).1 else xJ (hdV (oK env x.args) 1))
  else if x.op=17 then
   (if (fQ (hdV (oK env x.args) 0)).2=false then (fQ (hdV (oK env x.args) 0)).1 else if (fQ (hdV (oK env x.args) 0)).1.n=1 then hdV (oK env x.args) 1 else hdV (oK env x.args) 2)
  else (match rV none (oK env x.args) with | some v=>v | none=>nJ x.op (oK env x.args)):=by
 obtain ⟨a,b,c,d,e,l⟩:=x
 rw [nK]; rfl
theorem lW {e:Int} (h0:1≤e) (h1:e≤15):OkV (wK e):=.inr (.inr ⟨rfl,h0,h1,rfl⟩)
theorem ok_truth (b:Bool):OkV (truthV b):=.inl (.inr (.inl ⟨rfl,by cases b <;> simp [truthV],rfl⟩))
theorem ok_kinds {v:Vl} (h:OkV v):1≤v.k∧v.k≤5:=by
 rcases h with h | rfl | ⟨h,-⟩
 ·have:=known_kind h; omega
 ·exact ⟨by decide,by decide⟩
 ·omega
theorem ok_known {v:Vl} (h:OkV v) (h4:v.k≠4) (h5:v.k≠5):v.known:=by
 rcases h with h | rfl | ⟨h,-⟩
 ·exact h
 ·exact absurd rfl h4
 ·exact absurd h h5
theorem numOp_ok {op a b:Int} (ha:Lim a) (hb:Lim b):((iW op a b).2=0∧Lim (iW op a b).1)∨(iW op a b).2=7∨(iW op a b).2=8:=by
 unfold iW
 repeat' split
 all_goals first | (left; exact ⟨rfl,by unfold Lim; assumption⟩) | (right; left; rfl) | (right; right; rfl) | (left; exact ⟨rfl,fq_lim ha hb (by assumption)⟩) | (left; exact ⟨rfl,fr_lim ha hb (by assumption)⟩)
theorem nrV_ok {op a b:Int} (ha:Lim a) (hb:Lim b):OkV (nrV op a b):=by
 unfold nrV
 rcases numOp_ok (op:=op) ha hb with ⟨h,hl⟩ | h | h
 ·rw [if_pos h]; exact .inl (.inl ⟨rfl,hl,rfl⟩)
 ·rw [if_neg (by omega),h]; exact lW (by omega) (by omega)
 ·rw [if_neg (by omega),h]; exact lW (by omega) (by omega)
end Go.Proofs.YtmoahpojchndiaaGreat
