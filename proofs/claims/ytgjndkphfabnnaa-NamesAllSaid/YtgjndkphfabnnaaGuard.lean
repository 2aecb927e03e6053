/-
  Steps of a drawn region for guarded operations: one that is wanted, one that is passed over.
-/
import Derived.Test.YtgjndkphfabnnaaRegion
namespace Go.Proofs.Ytgjndkphfabnnaa
open Go.RowKit

section
variable {P : Program} {ops : Array Oper} {Q : Exit → Act → World → Prop} {a0 a : Act} {T : List (Nat × Nat × Value)} {X : List Nat} {A : List VarE} {B : Nat} {W w w' : World} {D : Nat → Prop} {i : Nat} {o : Oper}

theorem wanted_of {g dg : Nat} {b want : Bool} (hg : o.guard = some (g, want)) (hd : (ops[g]?).bind (·.dst) = some dg) (h : a.eval (.tmp dg) = .bool b) : Region.wanted o (yielded ops a.tmps) = (b == want) := by
  have ht : a.tmps[dg]? = some (.bool b) := by
    simp only [Act.eval, Array.getD_eq_getD_getElem?] at h
    cases e : a.tmps[dg]? with
    | none => rw [e] at h; simp [undef] at h
    | some v => rw [e] at h; simp at h; rw [h]
  have hy : yielded ops a.tmps g = some b := by
    unfold yielded
    rw [hd]
    simp [ht]
  unfold Region.wanted
  rw [hg]
  simp only [hy]
  cases b <;> cases want <;> rfl

theorem wanted_ok {g dg : Nat} (b : Bool) (hg : o.guard = some (g, b)) (hd : (ops[g]?).bind (·.dst) = some dg) (h : a.eval (.tmp dg) = .bool b) : Region.wanted o (yielded ops a.tmps) = true := by
  rw [wanted_of hg hd h]; cases b <;> rfl
theorem wanted_no {g dg : Nat} (b : Bool) (hg : o.guard = some (g, !b)) (hd : (ops[g]?).bind (·.dst) = some dg) (h : a.eval (.tmp dg) = .bool b) : Region.wanted o (yielded ops a.tmps) = false := by
  rw [wanted_of hg hd h]; cases b <;> rfl

theorem step_valueG {d : Nat} {v : Value} (hw : Region.wanted o (yielded ops a.tmps) = true) (ho : ops[i]? = some o) (hd : o.dst = some d) (hT : okT a0.tmps.size T X = true) (hx : (i, d, v) ∈ T) (hA : (A.all fun x => decide (i ≠ x.al ∧ i ≠ x.st ∧ d ≠ x.sl)) = true)
    (hS : Slots a0 T X D a) (hV : Vars B A D a w) (hB : Below B W w) (hb : Below w.heap.size w w') (hBs : B ≤ w.heap.size) (hr : (execOp a.eval o).run P w = .ok (.value v) w') : wpOp P ops Q i (Kept a0 T X A B W (fun j => j = i ∨ D j)) a w := by
  refine wpOp_value ho hw hr ?_
  rw [hd]
  refine ⟨hS.value hT hx, (hV.keep hb).other (fun x hx => ?_) (fun x hx => ?_), hB.trans (hb.mono hBs)⟩
  · have := List.all_eq_true.1 hA x hx
    simp only [decide_eq_true_eq] at this
    exact ⟨this.1, this.2.1⟩
  · have := List.all_eq_true.1 hA x hx
    simp only [decide_eq_true_eq] at this
    simpa using this.2.2

theorem step_callG {d : Nat} {v : Value} {f : FuncId} {args : Array Value} (hw : Region.wanted o (yielded ops a.tmps) = true) (ho : ops[i]? = some o) (hd : o.dst = some d) (hT : okT a0.tmps.size T X = true) (hx : (i, d, v) ∈ T) (hA : (A.all fun x => decide (i ≠ x.al ∧ i ≠ x.st ∧ d ≠ x.sl)) = true)
    (hS : Slots a0 T X D a) (hV : Vars B A D a w) (hB : Below B W w) (hBs : B ≤ w.heap.size) (hr : (execOp a.eval o).run P w = .ok (.enter f args) w) (hc : Calls P f args w (Gives v w)) : wpOp P ops Q i (Kept a0 T X A B W (fun j => j = i ∨ D j)) a w := by
  refine wpOp_call ho hw hr (hc.mono ?_)
  rintro e w1 ⟨rfl, hb⟩
  refine ⟨v, rfl, ?_⟩
  rw [hd]
  refine ⟨hS.value hT hx, (hV.keep hb).other (fun x hx => ?_) (fun x hx => ?_), hB.trans (hb.mono hBs)⟩
  · have := List.all_eq_true.1 hA x hx
    simp only [decide_eq_true_eq] at this
    exact ⟨this.1, this.2.1⟩
  · have := List.all_eq_true.1 hA x hx
    simp only [decide_eq_true_eq] at this
    simpa using this.2.2

theorem step_passed {d : Nat} (hw : Region.wanted o (yielded ops a.tmps) = false) (ho : ops[i]? = some o) (hd : o.dst = some d) (hT : okT a0.tmps.size T X = true) (hx : (i, d, undef) ∈ T) (hA : (A.all fun x => decide (i ≠ x.al ∧ i ≠ x.st ∧ d ≠ x.sl)) = true)
    (hS : Slots a0 T X D a) (hV : Vars B A D a w) (hB : Below B W w) : wpOp P ops Q i (Kept a0 T X A B W (fun j => j = i ∨ D j)) a w := by
  refine wpOp_passed ho hw ?_
  rw [hd]
  refine ⟨hS.value hT hx, hV.other (fun x hx => ?_) (fun x hx => ?_), hB⟩
  · have := List.all_eq_true.1 hA x hx
    simp only [decide_eq_true_eq] at this
    exact ⟨this.1, this.2.1⟩
  · have := List.all_eq_true.1 hA x hx
    simp only [decide_eq_true_eq] at this
    simpa using this.2.2
end

/-! ### The same law for long regions: one goal an operation, the lists behind names -/
def StepAt (P : Program) (ops : Array Oper) (Q : Exit → Act → World → Prop) (T : List (Nat × Nat × Value)) (X : List Nat) (A : List VarE) (w : World) (a0 : Act) (D : Nat → Prop) (a' : Act) (w' : World) (i : Nat) : Prop :=
  ∀ o, ops[i]? = some o → ¬ D i → (∀ e ∈ o.after, Region.binds .any e = true → D e.on) → wpOp P ops Q i (Kept a0 T X A w.heap.size w (fun j => j = i ∨ D j)) a' w'

theorem all_zero (p : Nat → Prop) : ∀ i, i < 0 → p i := fun _ h => absurd h (Nat.not_lt_zero _)
theorem all_succ {n : Nat} {p : Nat → Prop} (r : ∀ i, i < n → p i) (h : p n) : ∀ i, i < n + 1 → p i := fun i hi => by
  rcases Nat.lt_or_eq_of_le (Nat.lt_succ_iff.1 hi) with k | k
  · exact r i k
  · subst k; exact h

theorem region_go2 {P : Program} {ops : Array Oper} {Q : Exit → Act → World → Prop} {id : Nat} {a : Act} {w : World} (hm : P.follows .mixedOrders = true)
    (hok : (ops.toList.zipIdx.all fun (o, i) => o.after.all fun e => !Region.binds .any e || decide (e.on < i)) = true)
    (T : List (Nat × Nat × Value)) (X : List Nat) (A : List VarE) (E : List (Nat × Value)) (n : Nat) (hn : ops.size = n) (hT : okT a.tmps.size T X = true) (hE : Base E a)
    (hEo : (E.all fun p => !(T.map (·.2.1)).contains p.1 && !X.contains p.1) = true)
    (step : ∀ (a0 : Act) (D : Nat → Prop) (a' : Act) (w' : World), okT a0.tmps.size T X = true → Base E a' →
      Slots a0 T X D a' → Vars w.heap.size A D a' w' → Below w.heap.size w w' → ∀ i, i < n → StepAt P ops Q T X A w a0 D a' w' i)
    (fin : ∀ a' w', Slots a T X (fun j => j < ops.size) a' → Vars w.heap.size A (fun j => j < ops.size) a' w' → Below w.heap.size w w' → Q .normal a' w') : (Code.region id ops true).wp P Q a w :=
  region_go hm hok T X A E hT hE hEo (fun a0 i o D a' w' ho hn' hd hT' hE' hS hV hB => step a0 D a' w' hT' hE' hS hV hB i (by rw [← hn]; exact (Array.getElem?_eq_some_iff.1 ho).1) o ho hn' hd) fin

theorem mem_at {α : Type} {l l' : List α} {x : α} (h : Hid (l = l')) (k : Nat) (e : l'[k]? = some x) : x ∈ l := by
  rw [h.out]; exact List.mem_of_getElem? e

end Go.Proofs.Ytgjndkphfabnnaa
