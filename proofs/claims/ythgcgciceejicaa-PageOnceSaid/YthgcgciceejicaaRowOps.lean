/-
  Rows of the call's own that are turned in place: what is left behind a delete.
-/
import Derived.Test.YthgcgciceejicaaEvo
import Derived.Lib.SliceRun
import Derived.Deep.Upon
import Derived.Deep.MidRow
import Derived.Deep.RegionLaw
namespace Go.Proofs.Ythgcgciceejicaa
open Go.RowKit

theorem addr_add (b off n : Nat) : (⟨b, off, none⟩ : Addr).add n = ⟨b, off + n, none⟩ := by unfold Addr.add; split <;> simp_all

theorem Evo.setCells {x w : World} (h : Evo x w) {g : Nat} (hg : x.heap.size ≤ g) (o : Nat) (vs : List Value) : Evo x (w.setCells g o vs) := by
  refine ⟨h.below.trans ?_⟩
  have hs : ∀ (vs : List Value) (o : Nat) (w : World), (w.setCells g o vs).heap.size = w.heap.size := by
    intro vs
    induction vs with
    | nil => intro o w; rfl
    | cons v r ih => intro o w; show ((w.setCell ⟨g, o, none⟩ v).setCells g (o + 1) r).heap.size = _; rw [ih]; simp [World.setCell]
  have ht : ∀ (vs : List Value) (o : Nat) (w : World), (w.setCells g o vs).tape = w.tape := by
    intro vs
    induction vs with
    | nil => intro o w; rfl
    | cons v r ih => intro o w; show ((w.setCell ⟨g, o, none⟩ v).setCells g (o + 1) r).tape = _; rw [ih]; rfl
  refine ⟨World.os_setCells _ _ _ _, ht _ _ _, World.output_setCells _ _ _ _, Nat.le_of_eq (hs _ _ _).symm, fun k hk => ?_⟩
  rcases Nat.lt_or_ge k w.heap.size with h1 | h1
  · exact World.heap_setCells_other _ _ _ _ h1 (by omega)
  · rw [Array.getElem?_eq_none h1, Array.getElem?_eq_none (by rw [hs]; exact h1)]

theorem run_clear_row {P : Program} {w : World} (t e ty : TypeId) (z : Value) (zs : List Value) (ht : P.underlying t = some (.slice e)) (hv : ∀ w, (zeroValue e).run P w = .ok z w) (hz : (Builtin.zeroCells z.cells 1).toList = zs) (h1 : ∀ u ∈ zs, u.oneCell' = true) (b o c : Nat)
    (hc : ∀ j, j < zs.length → (w.cell? ⟨b, o + j, none⟩).isSome = true) (hf : ∀ j, j < zs.length → w.frozen? ⟨b, o + j, none⟩ = false) :
    (Builtin.clear_ #[t] ty #[.slice (some ⟨b, o, none⟩) 1 c]).run P w = .ok (.tuple #[]) (w.setCells b o zs) := by
  have hst := run_storeCells_cells (P := P) b o zs 0 w (by simpa using hc) (by simpa using hf) h1
  simp only [Nat.add_zero] at hst
  simp [Builtin.clear_, run_underlying ht, hv, hz, hst]

theorem cell_in {w : World} (b o : Nat) (vs : List Value) (h : ∀ j, j < vs.length → (w.cell? ⟨b, o + j, none⟩).isSome = true) (j : Nat) (u : Value) (hj : vs[j]? = some u) : (w.setCells b o vs).cell? ⟨b, o + j, none⟩ = some u := by
  obtain ⟨hl, rfl⟩ := List.getElem?_eq_some_iff.1 hj
  exact World.cell?_setCells_in b vs o w h j hl
theorem cell_out {w : World} (b o : Nat) (vs : List Value) (p : Nat) (h : p < o ∨ o + vs.length ≤ p) : (w.setCells b o vs).cell? ⟨b, p, none⟩ = w.cell? ⟨b, p, none⟩ :=
  World.cell?_setCells_out b vs o w ⟨b, p, none⟩ (fun _ _ => h)

/-- Row i struck, what stood behind it moved down, the last row's cells set to zs. -/
theorem del_rows {w : World} {g k i p : Nat} {l : List (List Value)} (hk : Len k l) (hl : l.length = p + 1) (hi : i ≤ p) (hrow : ∀ q r, l[q]? = some r → ∀ j u, r[j]? = some u → w.cell? ⟨g, q * k + j, none⟩ = some u) (zs : List Value) (hz : zs.length = k) :
    ∀ q r, (l.eraseIdx i)[q]? = some r → ∀ j u, r[j]? = some u → ((w.setCells g (i * k) (l.drop (i + 1)).flatten).setCells g (p * k) zs).cell? ⟨g, 0 + q * k + j, none⟩ = some u := by
  intro q r hq j u hj
  have hrl : r.length = k := hk r (List.mem_of_mem_eraseIdx (List.mem_of_getElem? hq))
  have hjk : j < k := by rw [← hrl]; exact (List.getElem?_eq_some_iff.1 hj).1
  have hqp : q < p := by
    have := (List.getElem?_eq_some_iff.1 hq).1
    rw [List.length_eraseIdx] at this
    split at this <;> omega
  have hmul : (q + 1) * k ≤ p * k := Nat.mul_le_mul_right _ hqp
  rw [Nat.succ_mul] at hmul
  rw [Nat.zero_add, cell_out g (p * k) zs _ (.inl (by omega))]
  have hdl : Len k (l.drop (i + 1)) := fun r hr => hk r (List.mem_of_mem_drop hr)
  rw [List.getElem?_eraseIdx] at hq
  by_cases hqi : q < i
  · rw [if_pos hqi] at hq
    have hm2 : (q + 1) * k ≤ i * k := Nat.mul_le_mul_right _ hqi
    rw [Nat.succ_mul] at hm2
    rw [cell_out g (i * k) _ _ (.inl (by omega))]
    exact hrow q r hq j u hj
  · rw [if_neg hqi] at hq
    have hf := flat_get (k := k) (l.drop (i + 1)) hdl (q - i) r j u (by rw [List.getElem?_drop, show i + 1 + (q - i) = q + 1 by omega]; exact hq) hj
    have := cell_in (w := w) g (i * k) (l.drop (i + 1)).flatten (fun y hy => ?_) ((q - i) * k + j) u hf
    · rw [show i * k + ((q - i) * k + j) = q * k + j from by rw [← Nat.add_assoc, ← Nat.add_mul, show i + (q - i) = q by omega]] at this
      exact this
    · rw [flat_len _ hdl, List.length_drop, hl] at hy
      have hy2 : i * k + y < (p + 1) * k := by
        have : i * k + (p + 1 - (i + 1)) * k = p * k := by rw [← Nat.add_mul]; congr 1; omega
        rw [Nat.succ_mul]; omega
      have hkp : 0 < k := by omega
      obtain ⟨a, ha⟩ : ∃ r', l[(i * k + y) / k]? = some r' := ⟨_, List.getElem?_eq_getElem (by rw [hl]; exact (Nat.div_lt_iff_lt_mul hkp).2 hy2)⟩
      have hal := hk a (List.mem_of_getElem? ha)
      obtain ⟨b, hb⟩ : ∃ u, a[(i * k + y) % k]? = some u := ⟨_, List.getElem?_eq_getElem (by rw [hal]; exact Nat.mod_lt _ hkp)⟩
      have := hrow _ a ha _ b hb
      rw [Nat.div_add_mod' (i * k + y) k] at this
      rw [this]; rfl

end Go.Proofs.Ythgcgciceejicaa
