/-
  Slices of structs: what they hold; rows of the call's own.
-/
import Derived.Test.YthgcgciceejicaaBase
import Derived.Test.YthgcgciceejicaaRegion
import Derived.Laws.AppendOwn
import Derived.Laws.OwnMore
import Derived.OwnWalk
namespace Go.Proofs.Ythgcgciceejicaa
open Go.RowKit

/-- A slice of rows of k cells each, below the heap's end. -/
def IsRows (w : World) (k : Nat) (v : Value) (l : List (List Value)) : Prop :=
  ∃ (A : Option Addr) (cap : Nat), v = .slice A l.length cap ∧ l.length ≤ cap ∧
    (l = [] ∨ ∃ b off, A = some ⟨b, off, none⟩ ∧ b < w.heap.size ∧ ∀ i r, l[i]? = some r → ∀ j u, r[j]? = some u → w.cell? ⟨b, off + i * k + j, none⟩ = some u)

theorem IsRows.keep {w w' : World} {k : Nat} {v : Value} {l : List (List Value)} (h : IsRows w k v l) (hb : Below w.heap.size w w') : IsRows w' k v l := by
  obtain ⟨A, cap, e, hc, hr⟩ := h
  refine ⟨A, cap, e, hc, ?_⟩
  rcases hr with hr | ⟨b, off, e, hlt, hr⟩
  · exact .inl hr
  · exact .inr ⟨b, off, e, Nat.lt_of_lt_of_le hlt hb.size, fun i r hi j u hj => (hb.cell (p := ⟨b, off + i * k + j, none⟩) hlt).trans (hr i r hi j u hj)⟩
theorem IsRows.alloc {w : World} {k : Nat} {v : Value} {l : List (List Value)} (h : IsRows w k v l) (o : Obj) : IsRows (w.alloc o) k v l :=
  h.keep ((Below.refl _ _).alloc (Nat.le_refl _) _)

/-- A row of the call's own. -/
structure Own (w : World) (base : Nat) (e : TypeId) (size : Nat) (v : Value) (n : Nat) (xs : List Value) : Prop where
  own : w.ownsRow base e size v n xs

theorem Own.keep {w w' : World} {base : Nat} {e : TypeId} {size : Nat} {v : Value} {n : Nat} {xs : List Value} (h : Own w base e size v n xs) (hb : Below w.heap.size w w') : Own w' base e size v n xs := by
  obtain ⟨hl, hn | ⟨g, cap, cur, rfl, hbg, hgg, rest⟩⟩ := h
  · exact ⟨hl, .inl hn⟩
  · refine ⟨hl, .inr ⟨g, cap, cur, rfl, hbg, ?_, rest⟩⟩
    rw [hb.block g (Array.getElem?_eq_some_iff.1 hgg).1]
    exact hgg
theorem Own.alloc {w : World} {base : Nat} {e : TypeId} {size : Nat} {v : Value} {n : Nat} {xs : List Value} (h : Own w base e size v n xs) (o : Obj) : Own (w.alloc o) base e size v n xs :=
  h.keep ((Below.refl _ _).alloc (Nat.le_refl _) _)
theorem Own.block {w : World} {base : Nat} {e : TypeId} {size : Nat} {v : Value} {n : Nat} {xs : List Value} (h : Own w base e size v n xs) {g : Nat} (hg : v.ownBlock = some g) : base ≤ g := (h.own.lt g hg).1

theorem Own.only {w w' : World} {base : Nat} {e : TypeId} {size : Nat} {v : Value} {n : Nat} {xs : List Value} {g : Nat} (h : Own w base e size v n xs) (ho : OnlyAt g w w') (hne : ∀ k, v.ownBlock = some k → k ≠ g) : Own w' base e size v n xs := by
  obtain ⟨hl, hn | ⟨g', cap, cur, rfl, hbg, hgg, rest⟩⟩ := h
  · exact ⟨hl, .inl hn⟩
  · refine ⟨hl, .inr ⟨g', cap, cur, rfl, hbg, ?_, rest⟩⟩
    rw [ho.block g' (hne g' rfl)]
    exact hgg

/-- What grows by a row of the call's own leaves the rest. -/
theorem grown_below {w w' : World} {base : Nat} {e : TypeId} {size : Nat} {v : Value} {n : Nat} {xs : List Value} (h : Own w base e size v n xs) (hg : w.grownBy w' v.ownBlock) (hb : base ≤ w.heap.size) : Below base w w' :=
  ⟨hg.os, hg.tape, hg.output, hg.size, fun k hk => hg.block k (by omega) (fun e => by have := h.block e.symm; omega)⟩
theorem Box.low {w w' : World} {b B : Nat} {vs : List Value} (h : Box w b vs) (hb : Below B w w') (hB : b < B) : Box w' b vs :=
  ⟨Nat.lt_of_lt_of_le h.lt hb.size, fun i v hv => (hb.cell (p := ⟨b, i, none⟩) hB).trans (h.cells i v hv), fun i => (hb.frozen (p := ⟨b, i, none⟩) hB).trans (h.free i)⟩
theorem box_add {w : World} {b : Nat} {vs : List Value} (h : Box w b vs) : ∀ j u, vs[j]? = some u → w.cell? ((⟨b, 0, none⟩ : Addr).add j) = some u := by
  intro j u hj
  have := h.cells j u hj
  unfold Addr.add
  split
  · simp_all
  · simpa using this

theorem flat_get {k : Nat} : ∀ (l : List (List Value)), (∀ r ∈ l, r.length = k) → ∀ i r j u, l[i]? = some r → r[j]? = some u → l.flatten[i * k + j]? = some u
  | [], _, i, r, j, u, h, _ => by simp at h
  | x :: l, hk, 0, r, j, u, h, hj => by
    simp at h; subst h
    rw [List.flatten_cons, Nat.zero_mul, Nat.zero_add, List.getElem?_append_left (by have := (List.getElem?_eq_some_iff.1 hj).1; exact this)]
    exact hj
  | x :: l, hk, i + 1, r, j, u, h, hj => by
    have hx := hk x (by simp)
    rw [List.flatten_cons, List.getElem?_append_right (by rw [hx, Nat.succ_mul]; omega), hx, show (i + 1) * k + j - k = i * k + j by rw [Nat.succ_mul]; omega]
    exact flat_get l (fun r hr => hk r (by simp [hr])) i r j u (by simpa using h) hj

/-- A row of the call's own reads so. -/
theorem IsRows.of_own {w : World} {base k : Nat} {e : TypeId} {v : Value} {l : List (List Value)} (hk : ∀ r ∈ l, r.length = k) (h : Own w base e k v l.length l.flatten) : IsRows w k v l := by
  obtain ⟨h⟩ := h
  rcases h.2 with ⟨rfl, h0⟩ | ⟨g, cap, cur, rfl, hb, hg, hn, hm, hs, ht⟩
  · exact ⟨none, 0, by rw [h0], by omega, .inl (List.length_eq_zero_iff.1 h0)⟩
  · refine ⟨some ⟨g, 0, none⟩, cap, rfl, hn, .inr ⟨g, 0, rfl, (Array.getElem?_eq_some_iff.1 hg).1, fun i r hi j u hj => ?_⟩⟩
    have hf := flat_get l hk i r j u hi hj
    have := h.cells (g := g) rfl (i * k + j) u hf
    rw [show ((⟨g, 0, none⟩ : Addr).add (i * k + j)) = ⟨g, 0 + i * k + j, none⟩ from by unfold Addr.add; split <;> simp_all <;> omega] at this
    exact this

theorem take_snoc' {α : Type} (l : List α) (k : Nat) (x : α) (h : l[k]? = some x) : l.take (k + 1) = l.take k ++ [x] := by
  rw [List.take_add_one, h]; rfl

theorem one_row (w : World) (cs : Array Value) (t : TypeId) (n : Nat) : IsRows (w.alloc (.cells cs t)) n (.slice (some ⟨w.heap.size, 0, none⟩) 1 1) [cs.toList] := by
  refine ⟨some ⟨w.heap.size, 0, none⟩, 1, rfl, by simp, .inr ⟨w.heap.size, 0, rfl, by simp, fun i r hi j u hj => ?_⟩⟩
  have hi0 : i = 0 := by
    have := (List.getElem?_eq_some_iff.1 hi).1; simp at this; exact this
  subst hi0
  simp at hi
  subst hi
  have := (Box.new w cs t).cells j u hj
  simpa using this

theorem Own.drewN {w : World} {base : Nat} {e : TypeId} {size : Nat} {v : Value} {n : Nat} {xs : List Value} (h : Own w base e size v n xs) (k : Nat) : Own (w.drewN k) base e size v n xs :=
  h.keep (below_drewN (Below.refl _ _) k)
theorem Own.drew {w : World} {base : Nat} {e : TypeId} {size : Nat} {v : Value} {n : Nat} {xs : List Value} (h : Own w base e size v n xs) : Own w.drew base e size v n xs := h.drewN 1

end Go.Proofs.Ythgcgciceejicaa
