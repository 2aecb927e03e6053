/-
  A store into a map inside a range over a function.
-/
import Derived.Test.YtgjndkphfabnnaaNmW
import Derived.Test.YtgjndkphfabnnaaMs
import Derived.Maps.OwnIn
namespace Go.Proofs.Ytgjndkphfabnnaa
open Go.RowKit Go.Shelf

attribute [local go_sem] Oper.semAt_some

section
variable {F : Fence} {n : Nat} {P : Program} {w w' : World} {ops : Array Oper} {rest : List Oper} {o : Oper} {a : Act} {Q : Exit → Act → World → Prop}
/-- m[k] = v, at whatever is known of it. -/
theorem wpListIn_mapUpdate_at (hg : o.guard = none) (m x v : Operand) (t : TypeId) (hop : o.op = Op.mapUpdate t m x v) {b key val : Value} (hm : a.eval m = b) (hx : a.eval x = key) (hv : a.eval v = val) (hr : (Instr.mapUpdate t b key val).run P w = .ok () w')
    (hK : wpListIn F n P ops Q rest (a.put o.dst undef) w') : wpListIn F n P ops Q (o :: rest) a w := by
  refine wpListIn_plain hg fun K' hK' => ?_
  unfold Oper.wpIn
  refine ⟨by simp [Oper.about, hop], ?_⟩
  rw [Oper.semAt_plain F _ _ (by rw [hop]; intro c hc'; cases hc')]
  simp [execOp, hop, hm, hx, hv, hr, Result.andThen]
  exact hK' _ _ hK
end
theorem cells_own {A : World} {b : Nat} {o : Obj} (hb : A.heap[b]? = some o) (hc : o.isCells = true) {row : Option Nat} (hr : ∀ r, row = some r → ∃ o : Obj, A.heap[r]? = some o ∧ o.isCells = false) : some b ≠ row := fun e => by
  obtain ⟨o', h1, h2⟩ := hr _ e.symm
  rw [hb] at h1
  cases h1; rw [hc] at h2; cases h2
theorem grown_set {W : World} {M : Nat} {o : Obj} (o' : Obj) (hm : W.heap[M]? = some o) : W.grownBy { W with heap := W.heap.setIfInBounds M o' } (some M) :=
  ⟨rfl, rfl, rfl, by simp, fun k _ ne => (Go.MapKept.heap_set hm).2 k (fun e => ne (by rw [e]))⟩

end Go.Proofs.Ytgjndkphfabnnaa
