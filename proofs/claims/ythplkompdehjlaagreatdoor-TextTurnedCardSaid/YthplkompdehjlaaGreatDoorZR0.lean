/-
  Words that the contracts here share: what a call gives, where it makes at most new memory.
-/
import Derived.Test.YthplkompdehjlaaGreatDoorRows
import Derived.WalkKit
import Derived.WalkSpells
import Derived.WalkLawsBesides
import Derived.Lib.Hide
import Derived.Deep.QuietTactic
import Derived.BigQuiet
namespace Go.Proofs.YthplkompdehjlaaGreatDoor
open Go.RowKit
def Gives (v:Value) (w:World) (e:Ending) (w':World):Prop:=e=.returned v∧Below w.heap.size w w'
theorem zQ {v v':Value} {w w':World} (h:v=v') (hb:Below w.heap.size w w'):Gives v' w (.returned v) w':=by subst h; exact ⟨rfl,hb⟩
structure Box (w:World) (b:Nat) (vs:List Value):Prop where
 lt:b < w.heap.size
 cells:∀ i v,vs[i]?=some v→w.cell? ⟨b,i,none⟩=some v
 free:∀ i,w.frozen? ⟨b,i,none⟩=false
theorem Box.new (w:World) (a:Array Value) (t:TypeId):Box (w.alloc (.cells a t)) w.heap.size a.toList:=by
 refine ⟨by simp,fun i v h=>?_,fun i=>World.frozen?_alloc_at _ _ _ _ rfl⟩
 rw [World.cell?_alloc_at _ _ _ _ rfl]
 simpa using h
theorem Box.keep {w w':World} {b:Nat} {vs:List Value} (h:Box w b vs) (hb:Below w.heap.size w w'):Box w' b vs :=
 ⟨Nat.lt_of_lt_of_le h.lt hb.size,fun i v hv=>(hb.cell (p:=⟨b,i,none⟩) h.lt).trans (h.cells i v hv),fun i=>(hb.frozen (p:=⟨b,i,none⟩) h.lt).trans (h.free i)⟩
theorem Box.alloc {w:World} {b:Nat} {vs:List Value} (h:Box w b vs) (o:Obj):Box (w.alloc o) b vs :=
 h.keep ((Below.refl _ _).alloc (Nat.le_refl _) _)
theorem Box.drew {w:World} {b:Nat} {vs:List Value} (h:Box w b vs) (n:Nat):Box (w.drewN n) b vs :=
 h.keep (below_drewN (Below.refl _ _) n)
theorem below_box {w w':World} {o:Obj} (hb:Below (w.alloc o).heap.size (w.alloc o) w'):Below w.heap.size w w' :=
 ((Below.refl _ _).alloc (Nat.le_refl _) _).trans (hb.mono (by simp))
theorem bthen {w w' w'':World} (h:Below w.heap.size w w') (k:Below w'.heap.size w' w''):Below w.heap.size w w'':=h.trans (k.mono h.size)
end Go.Proofs.YthplkompdehjlaaGreatDoor
