/-
  What the second form's bound gives of an argument: the length of a slice of raw things, of a string.
-/
import Derived.Test.YtpckomnpeainlaaRaws
import Derived.Test.YtpckomnpeainlaaBulk
import Derived.Deep.CondSized
namespace Go.Proofs.Ytpckomnpeainlaa
open Go.ChangeShapes Go.WideShapes Go.ChangeAt Go.RowKit Go.Deep

section
variable {H : Type} {enc : TypeId × Value → H} {w : World} {base : Nat} {sp : Nat → Bool} {held : Bool}

set_option maxRecDepth 100000 in
theorem raws_bulk {v : Value} {d : DataW H} {p : List MemPlace} {l : List RawD} (hl : IsRaws w v l) (h : DataW.Trod enc Try.prog w 0 (fun _ => true) held 22 v d p) : l.length + 1 ≤ Rows.uptoBulk d := by
  obtain ⟨A, cap, rfl, _⟩ := hl
  obtain ⟨fuel, hf⟩ := h
  rcases open_slice_fields Try.underlying22 Try.underlying50 (by kernel_rfl) cellsRaw hf with ⟨hcs, hx⟩ | ⟨x, n, c, m, D, Pl, hcs, _, hn, hm, hmm, hx, hi⟩
  · simp [Value.cells] at hcs
    simp only [Prod.mk.injEq] at hx
    rw [hx.1]
    simp [Rows.uptoBulk, hcs.2.1]
  · simp [Value.cells] at hcs
    simp only [Prod.mk.injEq] at hx
    rw [hx.1]
    have := bulks.slice_le (H := H) ((List.range n).map D) ((List.range (m - n)).map fun j => D (n + j))
    rw [List.length_map, List.length_range] at this
    omega
end

end Go.Proofs.Ytpckomnpeainlaa
