/-
  Rows of the call's own that are turned in place: what is left behind a delete.
-/
import Derived.Test.YthckljafinhepaaGreatZB26
import Derived.Lib.SliceRun
import Derived.Deep.Upon
import Derived.Deep.MidRow
import Derived.Deep.RegionLaw
namespace Go.Proofs.YthckljafinhepaaGreat
open Go.RowKit

theorem Evo.setCells {x w:World} (h:Evo x w) {g:Nat} (hg:x.heap.size≤g) (o:Nat) (vs:List Value):Evo x (w.setCells g o vs):=by
 refine ⟨h.below.trans ?_⟩
 have hs:∀ (vs:List Value) (o:Nat) (w:World),(w.setCells g o vs).heap.size=w.heap.size:=by
  intro vs
  induction vs with
  | nil=>intro o w; rfl
  | cons v r ih=>intro o w; show ((w.setCell ⟨g,o,none⟩ v).setCells g (o + 1) r).heap.size=_; rw [ih]; simp [World.setCell]
 have ht:∀ (vs:List Value) (o:Nat) (w:World),(w.setCells g o vs).tape=w.tape:=by
  intro vs
  induction vs with
  | nil=>intro o w; rfl
  | cons v r ih=>intro o w; show ((w.setCell ⟨g,o,none⟩ v).setCells g (o + 1) r).tape=_; rw [ih]; rfl
 refine ⟨World.os_setCells _ _ _ _,ht _ _ _,World.output_setCells _ _ _ _,Nat.le_of_eq (hs _ _ _).symm,fun k hk=>?_⟩
 rcases Nat.lt_or_ge k w.heap.size with h1 | h1
 ·exact World.heap_setCells_other _ _ _ _ h1 (by omega)
 ·rw [Array.getElem?_eq_none h1,Array.getElem?_eq_none (by rw [hs]; exact h1)]

end Go.Proofs.YthckljafinhepaaGreat
