/-
  slices.Reverse at fields, at a slice of the caller's own. (Imports the seat's Rev text: wip/rev.sh.)
-/
import Derived.Test.YthplkompdehjlaaGreatDoorZO5
import Derived.Test.YthplkompdehjlaaGreatDoorZO38
namespace Go.Proofs.YthplkompdehjlaaGreatDoor
open Go.RowKit Go.Sort Go.Shelf
abbrev Row9:={ r:List Value // r.length=9∧∀ v∈r,v.oneCell'=true }
instance:Inhabited Row9:=⟨⟨List.replicate 9 (.bool false),by simp,by intro v hv; rw [List.eq_of_mem_replicate hv]; rfl⟩⟩
end Go.Proofs.YthplkompdehjlaaGreatDoor
