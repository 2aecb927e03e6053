/-
  The tokens of a text, in plain Lean: lengths and errors.
-/
import Derived.Test.YthgcgciceejicaaGreatDoorZT18
namespace Go.Proofs.YthgcgciceejicaaGreatDoor
open Go.RowKit
@[reducible] def tcells (a:TokA):List Value:=[.int .i64 a.t.kd,.int .i64 a.at',.string ⟨a.t.s.toArray⟩,.int .i64 a.t.vk,.int .i64 a.t.vn,.string ⟨a.t.vs.toArray⟩]
theorem tcells_len (ts:List TokA):∀ r∈ts.map tcells,r.length=6:=by
 intro r hr;obtain ⟨d,-,rfl⟩:=Rj.1 hr
 rfl
def Behind (l:List UInt8) (n:Nat) (r:List UInt8):Prop:=r=[]\/r.head?=some 32\/r.head?=(l.drop n).head?
end Go.Proofs.YthgcgciceejicaaGreatDoor
