/-
  Well typed formulas are of their types, in plain words.
-/
import Derived.Test.YthgcgciceejicaaGreatDoorZT37
namespace Go.Proofs.YthgcgciceejicaaGreatDoor
open Go.RowKit
structure NotYet (B:Vl->Prop):Prop where
 kind:∀ v,B v->v.k=4\/v.k=5
 over:B (uK 7)
 zero:B (uK 8)
 size:B (uK 1)
end Go.Proofs.YthgcgciceejicaaGreatDoor
