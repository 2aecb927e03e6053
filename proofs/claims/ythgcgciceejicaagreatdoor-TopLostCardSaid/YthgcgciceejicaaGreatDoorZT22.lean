/-
  Values, facts, in plain words. Two values: are they the same?
-/
import Derived.Test.YthgcgciceejicaaGreatDoorZT21
namespace Go.Proofs.YthgcgciceejicaaGreatDoor
open Go.RowKit
structure Vl where
 k:Int
 n:Int
 s:ByteArray
@[reducible] def Vl.cells (v:Vl):List Value:=[.int .i64 v.k,.int .i64 v.n,.string v.s]
@[reducible] def Vl.val (v:Vl):Value:=.agg #[.int .i64 v.k,.int .i64 v.n,.string v.s]
def Vl.known (v:Vl):Prop:=pJ v.k v.n v.s
theorem Vl.ext' {v w:Vl} (h1:v.k=w.k) (h2:v.n=w.n) (h3:v.s=w.s):v=w:=by cases v; cases w; simp_all
abbrev Env:=List (ByteArray × Vl)
def Env.get (env:Env) (s:ByteArray):Option Vl:=match env with
 | []=>none
 | (k,v) :: l=>if s == k then some v else Env.get l s
@[reducible] def fcRow (p:ByteArray × Vl):List Value:=[.string p.1,.int .i64 0,.int .i64 0,.string ⟨#[]⟩,.int .i64 p.2.k,.int .i64 p.2.n,.string p.2.s]
abbrev wK (l:Env):List (List Value):=l.map fcRow
theorem fcRows_snoc (l:Env) (p:ByteArray × Vl):wK (l++[p])=wK l++[fcRow p]:=by simp [wK]
def eqB (v w:Vl):Bool:=v.k == w.k && (v.n == w.n && v.s == w.s)
theorem eqB_iff {v w:Vl}:eqB v w=true↔v=w:=by
 unfold eqB;simp only [Uj,Xj,Xk];exact ⟨λ⟨h1,h2,h3⟩=>Vl.ext' h1 h2 h3,λh=>by subst h; exact ⟨rfl,rfl,rfl⟩⟩
set_option maxRecDepth 100000 in
theorem run_eqV (v w:Vl) (W:World):((binOp .eql 44 v.val w.val).run Tryz.prog W)=.ok (.bool (eqB v w)) W:=by
 have h3:(v.s.toList=w.s.toList)↔v.s=w.s:=by
  rw [ByteArray.toList_eq,ByteArray.toList_eq]
  cases v.s; cases w.s; simp
 have hb:(v.s == w.s)=true↔v.s=w.s:=Xk _ _;unfold eqB;simp [go_sem,Tryz.underlying44,Tryz.underlying3,Tryz.underlying9,h3]
 by_cases h1:v.k=w.k
 ·by_cases h2:v.n=w.n
  ·by_cases h4:v.s=w.s
   ·simp [h1,h2,h4,(Go.MapKept.bytes_beq w.s w.s).2 rfl]
   ·have:(v.s == w.s)=false:=by cases he:v.s == w.s with | false=>rfl | true=>exact absurd (hb.1 he) h4
    simp [h1,h2,h4,this]
  ·simp [h1,h2]
 ·simp [h1]
theorem run_eqop {ρ:Operand->Value} {o:Oper} {x y:Operand} {v w:Vl} {W:World} {b:Bool} (ho:o.op=.binOp .eql 44 x y 44) (hx:ρ x=v.val) (hy:ρ y=w.val) (hb:eqB v w=b):(execOp ρ o).run Tryz.prog W=.ok (.value (.bool b)) W:=by
 subst hb;unfold execOp;simp only [ho,hx,hy,Kk,run_eqGuard_agg W .eql 44 x y _ _ (show Tryz.prog.eqGuardType Tryz.prog.depth 44=false by kernel_rfl),run_eqV,Wk,Hq]
theorem run_neqV (v w:Vl) (W:World):((binOp .neq 44 v.val w.val).run Tryz.prog W)=.ok (.bool (!eqB v w)) W:=by
 have h3:(v.s.toList=w.s.toList)↔v.s=w.s:=by
  rw [ByteArray.toList_eq,ByteArray.toList_eq]
  cases v.s; cases w.s; simp
 have hb:(v.s == w.s)=true↔v.s=w.s:=Xk _ _;unfold eqB;simp [go_sem,Tryz.underlying44,Tryz.underlying3,Tryz.underlying9,h3]
 by_cases h1:v.k=w.k
 ·by_cases h2:v.n=w.n
  ·by_cases h4:v.s=w.s
   ·simp [h1,h2,h4,(Go.MapKept.bytes_beq w.s w.s).2 rfl]
   ·have:(v.s == w.s)=false:=by cases he:v.s == w.s with | false=>rfl | true=>exact absurd (hb.1 he) h4
    simp [h1,h2,h4,this]
  ·simp [h1,h2]
 ·simp [h1]
theorem run_neqop {ρ:Operand->Value} {o:Oper} {x y:Operand} {v w:Vl} {W:World} {b:Bool} (ho:o.op=.binOp .neq 44 x y 44) (hx:ρ x=v.val) (hy:ρ y=w.val) (hb:eqB v w=b):(execOp ρ o).run Tryz.prog W=.ok (.value (.bool (!b))) W:=by
 subst hb;unfold execOp;simp only [ho,hx,hy,Kk,run_eqGuard_agg W .neq 44 x y _ _ (show Tryz.prog.eqGuardType Tryz.prog.depth 44=false by kernel_rfl),run_neqV,Wk,Hq]
end Go.Proofs.YthgcgciceejicaaGreatDoor
