/-
  Two values: are they the same? Arguments of a formula that is built.
-/
import Derived.Test.YthgcgciceejicaaEvP
import Derived.Test.YthgcgciceejicaaSome
import Derived.Test.YthgcgciceejicaaVl
namespace Go.Proofs.Ythgcgciceejicaa
open Go.RowKit

/-- The arguments l lie in the slice at b. -/
theorem args_made {H : Vw} {b : Nat} {l : List Ex} {vs : List Value} (op : Int) (c : Cells H b 0 (exRows l vs).flatten) (hv : AllArgs H l vs) (hl : l.length ≤ 3) : IsArgs H (opE op l) (.slice (some ⟨b, 0, none⟩) l.length l.length) := by
  have hr := rs_cells (k := 6) (exRows l vs) (fun r hr => by
    obtain ⟨i, hi⟩ := List.getElem?_of_mem hr
    rw [show (exRows l vs)[i]? = (List.zipWith exRow l vs)[i]? from rfl, List.getElem?_zipWith] at hi
    cases h1 : l[i]? <;> cases h2 : vs[i]? <;> simp [h1, h2] at hi
    subst hi; rfl) (by rw [exRows_len hv.len]; unfold maxLen; omega) c
  rw [exRows_len hv.len] at hr
  exact IsArgs.mk (x := opE op l) hr hv
theorem all1 {H : Vw} {x : Ex} {v : Value} (h : IsArgs H x v) : AllArgs H [x] [v] := by
  unfold AllArgs; exact ⟨_, _, rfl, h, by unfold AllArgs; rfl⟩
theorem all2 {H : Vw} {x y : Ex} {v u : Value} (h : IsArgs H x v) (k : IsArgs H y u) : AllArgs H [x, y] [v, u] := by
  unfold AllArgs; exact ⟨_, _, rfl, h, all1 k⟩
theorem all3 {H : Vw} {x y z : Ex} {v u w : Value} (h : IsArgs H x v) (k : IsArgs H y u) (j : IsArgs H z w) : AllArgs H [x, y, z] [v, u, w] := by
  unfold AllArgs; exact ⟨_, _, rfl, h, all2 k j⟩
theorem wf_ref {s : ByteArray} (h : NameOk s.data.toList) : WfE (refE s) ∧ szE (refE s) = (1, 1) := wf_leaf (refE_ok h) rfl
theorem some5_ok : ∀ f ∈ some5, NameOk f.name.data.toList := fun f hf => by
  simp [some5] at hf
  rcases hf with rfl | rfl | rfl | rfl | rfl <;> exact ⟨by decide, by decide, ⟨_, rfl, by decide⟩, by decide, by decide⟩

end Go.Proofs.Ythgcgciceejicaa
