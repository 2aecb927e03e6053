/-
  Words that the contracts here share: what a call gives, where it makes at most new memory.
-/
import Derived.Test.YthgcgciceejicaaRows
import Derived.WalkKit
import Derived.WalkSpells
import Derived.WalkLawsBesides
import Derived.Lib.Hide
import Derived.Deep.QuietTactic
import Derived.BigQuiet
namespace Go.Proofs.Ythgcgciceejicaa
open Go.RowKit

/-- The call gives v; of what was there when it began nothing has turned. -/
def Gives (v : Value) (w : World) (e : Ending) (w' : World) : Prop := e = .returned v ∧ Below w.heap.size w w'

theorem gives_mk {v v' : Value} {w w' : World} (h : v = v') (hb : Below w.heap.size w w') : Gives v' w (.returned v) w' := by subst h; exact ⟨rfl, hb⟩

/-- Old cells and old marks read as before. -/
theorem bcell {W w1 : World} (hb : Below W.heap.size W w1) : (∀ b o, b < W.heap.size → w1.cell? ⟨b, o, none⟩ = W.cell? ⟨b, o, none⟩) ∧ (∀ b o, b < W.heap.size → w1.frozen? ⟨b, o, none⟩ = W.frozen? ⟨b, o, none⟩) :=
  ⟨fun b o h => hb.cell (p := ⟨b, o, none⟩) h, fun b o h => hb.frozen (p := ⟨b, o, none⟩) h⟩

/-- A block of the call's own (a boxed parameter, a local struct): its cells, none frozen. -/
structure Box (w : World) (b : Nat) (vs : List Value) : Prop where
  lt : b < w.heap.size
  cells : ∀ i v, vs[i]? = some v → w.cell? ⟨b, i, none⟩ = some v
  free : ∀ i, w.frozen? ⟨b, i, none⟩ = false

theorem Box.new (w : World) (a : Array Value) (t : TypeId) : Box (w.alloc (.cells a t)) w.heap.size a.toList := by
  refine ⟨by simp, fun i v h => ?_, fun i => World.frozen?_alloc_at _ _ _ _ rfl⟩
  rw [World.cell?_alloc_at _ _ _ _ rfl]
  simpa using h

theorem Box.keep {w w' : World} {b : Nat} {vs : List Value} (h : Box w b vs) (hb : Below w.heap.size w w') : Box w' b vs :=
  ⟨Nat.lt_of_lt_of_le h.lt hb.size, fun i v hv => (hb.cell (p := ⟨b, i, none⟩) h.lt).trans (h.cells i v hv), fun i => (hb.frozen (p := ⟨b, i, none⟩) h.lt).trans (h.free i)⟩

/-- What is made besides leaves the block. -/
theorem Box.alloc {w : World} {b : Nat} {vs : List Value} (h : Box w b vs) (o : Obj) : Box (w.alloc o) b vs :=
  h.keep ((Below.refl _ _).alloc (Nat.le_refl _) _)
theorem Box.drew {w : World} {b : Nat} {vs : List Value} (h : Box w b vs) (n : Nat) : Box (w.drewN n) b vs :=
  h.keep (below_drewN (Below.refl _ _) n)

/-- A new block, then a call that leaves what was there. -/
theorem below_box {w w' : World} {o : Obj} (hb : Below (w.alloc o).heap.size (w.alloc o) w') : Below w.heap.size w w' :=
  ((Below.refl _ _).alloc (Nat.le_refl _) _).trans (hb.mono (by simp))

theorem bnext {w w' w'' : World} {B : Nat} (h : Below B w w') (hB : B ≤ w'.heap.size) (k : Below w'.heap.size w' w'') : Below B w w'' := h.trans (k.mono hB)

theorem bthen {w w' w'' : World} (h : Below w.heap.size w w') (k : Below w'.heap.size w' w'') : Below w.heap.size w w'' := h.trans (k.mono h.size)

theorem Box.set {w : World} {b : Nat} {vs : List Value} (h : Box w b vs) (i : Nat) (u : Value) (hi : i < vs.length) : Box (w.setCell ⟨b, i, none⟩ u) b (vs.set i u) := by
  refine ⟨by simpa [World.setCell] using h.lt, fun j v hv => ?_, fun j => by rw [World.frozen?_setCell]; exact h.free j⟩
  by_cases e : j = i
  · subst e
    rw [List.getElem?_set_self hi] at hv
    rw [World.cell?_setCell_same _ _ _ (h.cells j vs[j] (List.getElem?_eq_getElem hi))]
    exact hv
  · rw [List.getElem?_set_ne (fun k => e k.symm)] at hv
    rw [World.cell?_setCell_other _ _ _ _ (by first | (simp; done) | (simp; omega))]
    exact h.cells j v hv
theorem Box.far {w : World} {b : Nat} {vs : List Value} (h : Box w b vs) {p : Addr} (hp : p.block ≠ b) (u : Value) : Box (w.setCell p u) b vs := by
  have hk : ∀ o, (⟨b, o, none⟩ : Addr) ≠ p := fun o e => hp (by rw [← e])
  exact ⟨by simpa [World.setCell] using h.lt, fun i v hv => by rw [World.cell?_setCell_other _ _ _ _ (by first | exact hk i | exact (hk i).symm)]; exact h.cells i v hv, fun i => by rw [World.frozen?_setCell]; exact h.free i⟩

theorem keep_lt {W w' : World} {b : Nat} (hb : Below W.heap.size W w') (h : b < W.heap.size) : b < w'.heap.size := Nat.lt_of_lt_of_le h hb.size
theorem keep_cell {W w' : World} {b o : Nat} {v : Value} (hb : Below W.heap.size W w') (h : b < W.heap.size) (c : W.cell? ⟨b, o, none⟩ = some v) : w'.cell? ⟨b, o, none⟩ = some v :=
  (hb.cell (p := ⟨b, o, none⟩) h).trans c

theorem keep_lt_alloc {W : World} {b : Nat} {x : Obj} (h : b < W.heap.size) : b < (W.alloc x).heap.size := by simp; omega
theorem keep_lt_set {W : World} {b : Nat} {p : Addr} {u : Value} (h : b < W.heap.size) : b < (W.setCell p u).heap.size := by simpa [World.setCell] using h
theorem keep_cell_alloc {W : World} {b o : Nat} {x : Obj} {v : Value} (h : b < W.heap.size) (c : W.cell? ⟨b, o, none⟩ = some v) : (W.alloc x).cell? ⟨b, o, none⟩ = some v :=
  (World.cell?_alloc_past _ _ _ (by simpa using h)).trans c

theorem keep_lt_drew {W : World} {b : Nat} (h : b < W.heap.size) : b < W.drew.heap.size := h
theorem keep_cell_drew {W : World} {b o : Nat} {v : Value} (c : W.cell? ⟨b, o, none⟩ = some v) : W.drew.cell? ⟨b, o, none⟩ = some v := c
theorem keep_lt_alloc3 {W : World} {b : Nat} {x y z : Obj} (h : b < W.heap.size) : b < (((W.alloc x).alloc y).alloc z).heap.size := by simp; omega
theorem le_first {W w' : World} (hb : Below W.drew.heap.size W.drew w') : W.heap.size ≤ w'.heap.size := hb.size
theorem le_next {W w1 w' : World} (hb : Below w1.heap.size w1 w') (h : W.heap.size ≤ w1.heap.size) : W.heap.size ≤ w'.heap.size := Nat.le_trans h hb.size
theorem keep_cell_alloc3 {W : World} {b o : Nat} {x y z x' y' z' : Obj} {v : Value} (h : b < W.heap.size) (c : (((W.alloc x).alloc y).alloc z).cell? ⟨b, o, none⟩ = some v) :
    (((W.alloc x').alloc y').alloc z').cell? ⟨b, o, none⟩ = some v := by
  have k : ∀ (x y z : Obj), (((W.alloc x).alloc y).alloc z).cell? ⟨b, o, none⟩ = W.cell? ⟨b, o, none⟩ := fun x y z =>
    (World.cell?_alloc_past _ _ _ (by simp; omega)).trans ((World.cell?_alloc_past _ _ _ (by simp; omega)).trans (World.cell?_alloc_past _ _ _ (by simpa using h)))
  rw [k] at c
  rw [k]; exact c

end Go.Proofs.Ythgcgciceejicaa
