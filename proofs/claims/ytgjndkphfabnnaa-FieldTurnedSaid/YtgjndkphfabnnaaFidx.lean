/-
  The first place where a test holds.
-/
import Derived.Test.YtgjndkphfabnnaaEvo
namespace Go.Proofs.Ytgjndkphfabnnaa
open Go.RowKit

/-- The first place where p holds; none: -1. -/
def fidx {α : Type} (p : α → Bool) (l : List α) : Int := match l.findIdx? p with | some k => k | none => -1

theorem fidx_found {α : Type} (p : α → Bool) : ∀ (l : List α) (k : Nat) (x : α), (∀ y ∈ l.take k, p y = false) → l[k]? = some x → p x = true → fidx p l = k
  | [], k, x, _, h, _ => by simp at h
  | y :: l, 0, x, _, h, hx => by
    simp at h; subst h
    simp [fidx, List.findIdx?_cons, hx]
  | y :: l, k + 1, x, ha, h, hx => by
    have hy := ha y (by simp)
    have ih := fidx_found p l k x (fun z hz => ha z (by simp [hz])) (by simpa using h) hx
    unfold fidx at ih ⊢
    rw [List.findIdx?_cons, hy]
    cases e : l.findIdx? p with
    | none => rw [e] at ih; simp at ih <;> omega
    | some j => rw [e] at ih; simp at ih ⊢; omega
theorem fidx_none {α : Type} (p : α → Bool) (l : List α) (h : ∀ y ∈ l, p y = false) : fidx p l = -1 := by
  unfold fidx
  rw [List.findIdx?_eq_none_iff.2 h]
theorem fidx_any {α : Type} (p : α → Bool) (l : List α) : l.any p = true ↔ 0 ≤ fidx p l := by
  unfold fidx
  cases e : l.findIdx? p with
  | none =>
    rw [List.findIdx?_eq_none_iff] at e
    simp
    intro x hx; simp [e x hx]
  | some k =>
    simp
    obtain ⟨h, hk, -⟩ := List.findIdx?_eq_some_iff_getElem.1 e
    exact ⟨_, List.getElem_mem h, hk⟩

theorem fidx_dec {α : Type} (p : α → Bool) (l : List α) : decide (0 ≤ fidx p l) = l.any p := by
  rw [Bool.eq_iff_iff, decide_eq_true_iff]; exact (fidx_any p l).symm
theorem ret_b {a b : Bool} (h : a = b) : Ending.returned (.bool a) = .returned (.bool b) := by rw [h]
theorem ret_i {a b : Int} (h : a = b) : Ending.returned (.int .i64 a) = .returned (.int .i64 b) := by rw [h]

/-- A store into a block of one cell leaves rows of more cells. -/
theorem Sl.setOne {w : World} {k : Nat} {v : Value} {l : List (List Value)} {g : Nat} {c : Value} {t : TypeId} (h : Sl w k v l) (hk : Len k l) (h2 : 2 ≤ k) (hg : w.heap[g]? = some (.cells #[c] t (0, 0))) (u : Value) : Sl (w.setCell ⟨g, 0, none⟩ u) k v l := by
  rcases h with h | ⟨b, off, cap, e, h1, h3, hb, hc⟩
  · exact .inl h
  · refine .inr ⟨b, off, cap, e, h1, h3, by simpa [World.setCell] using hb, fun i r hi j x hj => ?_⟩
    by_cases hbg : b = g
    · exfalso
      subst hbg
      have hl := hk r (List.mem_of_getElem? hi)
      obtain ⟨y, hy⟩ : ∃ y, r[1]? = some y := ⟨_, List.getElem?_eq_getElem (by omega)⟩
      have := hc i r hi 1 y hy
      unfold World.cell? at this
      simp only [hg] at this
      simp at this
    · rw [World.cell?_setCell_other _ _ _ _ (by first | (simp; done) | (simp; omega) | (intro q; simp at q; exact hbg q.1.symm) | (intro q; simp at q; exact hbg q.1))]
      exact hc i r hi j x hj

end Go.Proofs.Ytgjndkphfabnnaa
