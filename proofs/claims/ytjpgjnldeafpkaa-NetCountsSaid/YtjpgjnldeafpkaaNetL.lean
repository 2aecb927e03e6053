/-
  What the laws on letters share.
-/
import Derived.Test.YtjpgjnldeafpkaaNetD
namespace Go.Proofs.Ytjpgjnldeafpkaa
open Go.RowKit

theorem Sl.made (w : World) (rows : List (List Value)) (cs : Array Value) (t : TypeId) (k : Nat) (hk : Len k rows) (hm : rows.length ≤ maxLen) (e : cs.toList = rows.flatten) :
    Sl (w.alloc (.cells cs t)) k (.slice (some ⟨w.heap.size, 0, none⟩) rows.length rows.length) rows := by
  refine .inr ⟨w.heap.size, 0, rows.length, rfl, Nat.le_refl _, hm, by simp, fun i r hi j u hj => ?_⟩
  have := (Box.new w cs t).cells (i * k + j) u (by rw [e]; exact flat_get rows hk i r j u hi hj)
  simpa using this

def rawZ : RawD := ⟨0, 0, 0, ⟨#[]⟩⟩
abbrev Z0 : List Value := [.int .i64 0, .int .i64 0, .int .i64 0, .string ⟨#[]⟩]
theorem rawZ_ok : rawZ.ok := ⟨by simp [rawZ], by simp [rawZ], by simp [rawZ], by exact Nat.zero_le _⟩
theorem z_len1 : Len 4 [Z0] := fun r hr => by obtain rfl := List.mem_singleton.1 hr; rfl
theorem z_len2 : Len 4 [Z0, Z0] := fun r hr => by simp at hr; subst hr; rfl
theorem z_one1 : One [Z0] := fun r hr => by
  obtain rfl := List.mem_singleton.1 hr
  intro u hu; simp at hu; rcases hu with rfl | rfl | rfl <;> rfl
theorem z_one2 : One [Z0, Z0] := fun r hr => by
  simp at hr; subst hr
  intro u hu; simp at hu; rcases hu with rfl | rfl | rfl <;> rfl
theorem z_app1 (l : List RawD) : l.map RawD.cells ++ [Z0] = (l ++ [rawZ]).map RawD.cells := by simp [rawZ]
theorem z_app2 (l : List RawD) : l.map RawD.cells ++ [Z0, Z0] = (l ++ [rawZ, rawZ]).map RawD.cells := by simp [rawZ]

theorem erase_two {α : Type} : ∀ (l : List α) (a d : Nat), a + 1 + d < l.length → (l.eraseIdx (a + 1 + d)).eraseIdx a = (l.eraseIdx a).eraseIdx (a + d)
  | [], a, d, h => by simp at h
  | x :: l, 0, d, h => by
    rw [show 0 + 1 + d = d + 1 by omega, List.eraseIdx_cons_succ, List.eraseIdx_cons_zero, List.eraseIdx_cons_zero, Nat.zero_add]
  | x :: l, a + 1, d, h => by
    rw [show a + 1 + 1 + d = (a + 1 + d) + 1 by omega, show a + 1 + d = (a + d) + 1 by omega, List.eraseIdx_cons_succ, List.eraseIdx_cons_succ, List.eraseIdx_cons_succ, List.eraseIdx_cons_succ]
    rw [← erase_two l a d (by simp at h; omega), show a + d + 1 = a + 1 + d by omega]
theorem erase_ok {l : List Ltr} (h : ∀ x ∈ l, OkL x) (i : Nat) : ∀ x ∈ l.eraseIdx i, OkL x := fun x hx => h x (List.mem_of_mem_eraseIdx hx)
theorem erase_len {α : Type} {l : List α} {i : Nat} (h : i < l.length) : (l.eraseIdx i).length = l.length - 1 := by rw [List.length_eraseIdx, if_pos h]

end Go.Proofs.Ytjpgjnldeafpkaa
