/-
  Two values: are they the same? Arguments of a formula that is built.
-/
import Derived.Test.YteolcggpflnpoaaEvP
import Derived.Test.YteolcggpflnpoaaSome
namespace Go.Proofs.Yteolcggpflnpoaa
open Go.RowKit

/-! ### Two values: are they the same? -/
def eqB (v w : Vl) : Bool := v.k == w.k && (v.n == w.n && v.s == w.s)
theorem eqB_iff {v w : Vl} : eqB v w = true ↔ v = w := by
  unfold eqB
  simp only [Bool.and_eq_true, beq_iff_eq, Go.MapKept.bytes_beq]
  exact ⟨fun ⟨h1, h2, h3⟩ => Vl.ext' h1 h2 h3, fun h => by subst h; exact ⟨rfl, rfl, rfl⟩⟩
set_option maxRecDepth 100000 in
theorem run_eqV (v w : Vl) (W : World) : ((binOp .eql 28 v.val w.val).run Try.prog W) = .ok (.bool (eqB v w)) W := by
  have h3 : (v.s.toList = w.s.toList) ↔ v.s = w.s := by
    rw [ByteArray.toList_eq, ByteArray.toList_eq]
    cases v.s; cases w.s; simp
  have hb : (v.s == w.s) = true ↔ v.s = w.s := Go.MapKept.bytes_beq _ _
  unfold eqB
  simp [go_sem, Try.underlying28, Try.underlying3, Try.underlying9, h3]
  by_cases h1 : v.k = w.k
  · by_cases h2 : v.n = w.n
    · by_cases h4 : v.s = w.s
      · simp [h1, h2, h4, (Go.MapKept.bytes_beq w.s w.s).2 rfl]
      · have : (v.s == w.s) = false := by cases he : v.s == w.s with | false => rfl | true => exact absurd (hb.1 he) h4
        simp [h1, h2, h4, this]
    · simp [h1, h2]
  · simp [h1]
theorem run_eqop {ρ : Operand → Value} {o : Oper} {x y : Operand} {v w : Vl} {W : World} {b : Bool} (ho : o.op = .binOp .eql 28 x y 28) (hx : ρ x = v.val) (hy : ρ y = w.val) (hb : eqB v w = b) : (execOp ρ o).run Try.prog W = .ok (.value (.bool b)) W := by
  subst hb
  unfold execOp
  simp only [ho, hx, hy, Sem.run_bind, run_eqGuard_agg W .eql 28 x y _ _ (show Try.prog.eqGuardType Try.prog.depth 28 = false by kernel_rfl), run_eqV, Sem.run_pure, Result.andThen_ok]

/-- The arguments l lie in the slice at b. -/
theorem args_made {H : Vw} {b : Nat} {l : List Ex} {vs : List Value} (op : Int) (c : Cells H b 0 (exRows l vs).flatten) (hv : AllArgs H l vs) (hl : l.length ≤ 3) : IsArgs H (opE op l) (.slice (some ⟨b, 0, none⟩) l.length l.length) := by
  have hr := rs_cells (k := 6) (exRows l vs) (fun r hr => by
    obtain ⟨i, hi⟩ := List.getElem?_of_mem hr
    rw [show (exRows l vs)[i]? = (List.zipWith exRow l vs)[i]? from rfl, List.getElem?_zipWith] at hi
    cases h1 : l[i]? <;> cases h2 : vs[i]? <;> simp [h1, h2] at hi
    subst hi; rfl) (by rw [exRows_len hv.len]; unfold maxLen; omega) c
  rw [exRows_len hv.len] at hr
  exact IsArgs.mk (x := opE op l) hr hv
theorem all1 {H : Vw} {x : Ex} {v : Value} (h : IsArgs H x v) : AllArgs H [x] [v] := by
  unfold AllArgs; exact ⟨_, _, rfl, h, by unfold AllArgs; rfl⟩
theorem all2 {H : Vw} {x y : Ex} {v u : Value} (h : IsArgs H x v) (k : IsArgs H y u) : AllArgs H [x, y] [v, u] := by
  unfold AllArgs; exact ⟨_, _, rfl, h, all1 k⟩
theorem all3 {H : Vw} {x y z : Ex} {v u w : Value} (h : IsArgs H x v) (k : IsArgs H y u) (j : IsArgs H z w) : AllArgs H [x, y, z] [v, u, w] := by
  unfold AllArgs; exact ⟨_, _, rfl, h, all2 k j⟩
theorem wf_ref {s : ByteArray} (h : NameOk s.data.toList) : WfE (refE s) ∧ szE (refE s) = (1, 1) := wf_leaf (refE_ok h) rfl
theorem some5_ok : ∀ f ∈ some5, NameOk f.name.data.toList := fun f hf => by
  simp [some5] at hf
  rcases hf with rfl | rfl | rfl | rfl | rfl <;> exact ⟨by decide, by decide, ⟨_, rfl, by decide⟩, by decide, by decide⟩

end Go.Proofs.Yteolcggpflnpoaa
