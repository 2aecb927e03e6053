/-
  Timers that are due, plain; a slice of two slices.
-/
import Derived.Test.YtpckomnpeainlabTmrP
namespace Go.Proofs.Ytpckomnpeainlab
open Go.RowKit

theorem due_split : ∀ (l : List Tmr) (lo hi : Int), lo ≤ hi → dueN l hi = dueN l lo + dueN (l.drop (dueN l lo)) hi
  | [], lo, hi, _ => by simp [dueN]
  | x :: l, lo, hi, h => by
    have ih := due_split l lo hi h
    unfold dueN at *
    rw [List.takeWhile_cons (a := x) (l := l) (p := fun x => decide (x.at' ≤ lo))]
    by_cases h1 : x.at' ≤ lo
    · rw [if_pos (by simpa using h1), List.takeWhile_cons, if_pos (by simp; omega)]
      simp only [List.length_cons, List.drop_succ_cons]
      omega
    · rw [if_neg (by simpa using h1)]
      simp
theorem due_take (l : List Tmr) (lo hi : Int) (h : lo ≤ hi) : l.take (dueN l lo) ++ (l.drop (dueN l lo)).take (dueN (l.drop (dueN l lo)) hi) = l.take (dueN l hi) := by
  rw [due_split l lo hi h, List.take_add]
theorem due_drop (l : List Tmr) (lo hi : Int) (h : lo ≤ hi) : (l.drop (dueN l lo)).drop (dueN (l.drop (dueN l lo)) hi) = l.drop (dueN l hi) := by
  rw [due_split l lo hi h, List.drop_drop]
theorem due_lo (l : List Tmr) (now : Int) : ∀ x ∈ l.take (dueN l now), x.at' ≤ now := fun x hx => by
  obtain ⟨i, hi, rfl⟩ := List.mem_iff_getElem.1 hx
  rw [List.getElem_take]
  rw [List.length_take] at hi
  have := tw_lo (fun x : Tmr => decide (x.at' ≤ now)) l i _ (by show i < dueN l now; omega) (List.getElem?_eq_getElem (by omega))
  simpa using this
theorem due_hi {l : List Tmr} (h : OkT l) (now : Int) : ∀ x ∈ l.drop (dueN l now), now < x.at' := fun x hx => by
  obtain ⟨i, hi, rfl⟩ := List.mem_iff_getElem.1 hx
  rw [List.getElem_drop]
  rw [List.length_drop] at hi
  have hf := tw_hi (fun x : Tmr => decide (x.at' ≤ now)) l l[dueN l now] (List.getElem?_eq_getElem (i := dueN l now) (by omega))
  have hf' : now < l[dueN l now].at' := by simpa using hf
  rcases Nat.eq_zero_or_pos i with rfl | hp
  · exact hf'
  · have := List.pairwise_iff_getElem.1 h.wk.ord (dueN l now) (dueN l now + i) (by omega) (by omega) (by omega)
    unfold ltT at this
    omega

theorem Sl.form3 {w : World} {k : Nat} {v : Value} {l : List (List Value)} (h : Sl w k v l) : ∃ A n cap, v = .slice A n cap := by
  obtain ⟨A, cap, e, -⟩ := h.form
  exact ⟨_, _, _, e⟩

theorem Sl.two (w : World) (a b : Value) (t : TypeId) : Sl (w.alloc (.cells #[a, b] t)) 1 (.slice (some ⟨w.heap.size, 0, none⟩) 2 2) [[a], [b]] := by
  refine .inr ⟨w.heap.size, 0, 2, rfl, by simp, by unfold maxLen; omega, by simp, fun i r hi j u hj => ?_⟩
  have hx := Box.new w #[a, b] t
  match i, hi with
  | 0, hi =>
    simp at hi; subst hi
    obtain rfl : j = 0 := by have := (List.getElem?_eq_some_iff.1 hj).1; simp at this; exact this
    simp at hj; subst hj
    exact (hx.cells 0 _ rfl)
  | 1, hi =>
    simp at hi; subst hi
    obtain rfl : j = 0 := by have := (List.getElem?_eq_some_iff.1 hj).1; simp at this; exact this
    simp at hj; subst hj
    exact (hx.cells 1 _ rfl)

end Go.Proofs.Ytpckomnpeainlab
