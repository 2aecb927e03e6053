/-
  A store of ten cells into a block of the call's own; a parameter of a law's own type opened at a Call.
-/
import Derived.Test.YtpckomnpeainlaaCallD
namespace Go.Proofs.Ytpckomnpeainlaa
open Go.RowKit

theorem set10_box {w : World} {g : Nat} {z0 z1 z2 z3 z4 z5 z6 z7 z8 z9 : Value} (u0 u1 u2 u3 u4 u5 u6 u7 u8 u9 : Value) (h : Box w g [z0, z1, z2, z3, z4, z5, z6, z7, z8, z9]) :
    Box ((((((((((w.setCell ⟨g, 0, none⟩ u0).setCell ⟨g, 1, none⟩ u1).setCell ⟨g, 2, none⟩ u2).setCell ⟨g, 3, none⟩ u3).setCell ⟨g, 4, none⟩ u4).setCell ⟨g, 5, none⟩ u5).setCell ⟨g, 6, none⟩ u6).setCell ⟨g, 7, none⟩ u7).setCell ⟨g, 8, none⟩ u8).setCell ⟨g, 9, none⟩ u9)
      g [u0, u1, u2, u3, u4, u5, u6, u7, u8, u9] := by
  have := (((((((((h.set 0 u0 (by simp)).set 1 u1 (by simp)).set 2 u2 (by simp)).set 3 u3 (by simp)).set 4 u4 (by simp)).set 5 u5 (by simp)).set 6 u6 (by simp)).set 7 u7 (by simp)).set 8 u8 (by simp)).set 9 u9 (by simp)
  exact this
theorem only10 {w : World} {g : Nat} (u0 u1 u2 u3 u4 u5 u6 u7 u8 u9 : Value) :
    OnlyAt g w ((((((((((w.setCell ⟨g, 0, none⟩ u0).setCell ⟨g, 1, none⟩ u1).setCell ⟨g, 2, none⟩ u2).setCell ⟨g, 3, none⟩ u3).setCell ⟨g, 4, none⟩ u4).setCell ⟨g, 5, none⟩ u5).setCell ⟨g, 6, none⟩ u6).setCell ⟨g, 7, none⟩ u7).setCell ⟨g, 8, none⟩ u8).setCell ⟨g, 9, none⟩ u9) :=
  ((((((((((OnlyAt.refl g w).set 0 u0).set 1 u1).set 2 u2).set 3 u3).set 4 u4).set 5 u5).set 6 u6).set 7 u7).set 8 u8).set 9 u9

end Go.Proofs.Ytpckomnpeainlaa
