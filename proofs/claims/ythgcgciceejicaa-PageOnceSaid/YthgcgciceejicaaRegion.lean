/-
  A law for a region that draws its order: an invariant over the set of operations that are done, kept by each operation when all that it waits for is done. Over any program. Steps of a drawn region for guarded operations: one that is wanted, one that is passed over.
-/
import Derived.WalkKit
import Derived.Lib.Hide
import Derived.Test.YthgcgciceejicaaBase
namespace Go.Proofs.Ythgcgciceejicaa
open Go.RowKit

section
variable {P : Program} {ops : Array Oper} {Q : Exit → Act → World → Prop}

/-- How many operations are not listed. -/
def left (n : Nat) (listed : Array Bool) : Nat := (List.range n).countP (fun j => !listed.getD j false)

theorem countP_turn (p q : Nat → Bool) (i : Nat) (hq : ∀ j, j ≠ i → q j = p j) (hp : p i = true) (hqi : q i = false) : ∀ n, i < n → (List.range n).countP p = (List.range n).countP q + 1
  | 0, h => absurd h (Nat.not_lt_zero _)
  | n + 1, h => by
    rw [List.range_succ, List.countP_append, List.countP_append]
    by_cases e : i = n
    · subst e
      have : (List.range i).countP p = (List.range i).countP q := List.countP_congr fun j hj => by
        rw [hq j (by have := List.mem_range.1 hj; omega)]
      simp [this, hp, hqi]
    · have := countP_turn p q i hq hp hqi n (by omega)
      rw [this]
      simp [hq n (fun h => e h.symm)]
      omega

theorem ready_mem {listed : Array Bool} {i : Nat} (h : i ∈ Region.ready .any ops listed) :
    ∃ o, ops[i]? = some o ∧ i < ops.size ∧ listed.getD i true = false ∧ ∀ e ∈ o.after, Region.binds .any e = true → listed.getD e.on false = true := by
  unfold Region.ready at h
  rw [List.mem_filter, List.mem_range] at h
  obtain ⟨h1, h2⟩ := h
  rw [Array.getElem?_eq_getElem h1] at h2
  simp only [Bool.and_eq_true, Bool.not_eq_true', Option.map_some, Option.getD_some] at h2
  refine ⟨ops[i], Array.getElem?_eq_getElem h1, h1, h2.1, fun e he hb => ?_⟩
  have := Array.all_eq_true'.1 h2.2 e he
  simpa [hb] using this

theorem wpAny_inv (I : (Nat → Prop) → Act → World → Prop) (hok : ∀ i o, ops[i]? = some o → ∀ e ∈ o.after, Region.binds .any e = true → e.on < i)
    (step : ∀ (i : Nat) (o : Oper) (D : Nat → Prop) (a : Act) (w : World), ops[i]? = some o → ¬ D i → (∀ e ∈ o.after, Region.binds .any e = true → D e.on) → I D a w →
      wpOp P ops Q i (fun a' w' => I (fun j => j = i ∨ D j) a' w') a w)
    (fin : ∀ a w, I (fun j => j < ops.size) a w → Q .normal a w) :
    ∀ (fuel : Nat) (listed : Array Bool) (a : Act) (w : World), listed.size = ops.size → left ops.size listed = fuel → I (fun j => listed.getD j false = true) a w → wpAny P .any ops Q fuel listed a w := by
  have ready_some : ∀ (listed : Array Bool) (n : Nat), listed.size = ops.size → Region.ready .any ops listed = [] → ∀ j, j < n → j < ops.size → listed.getD j false = true := by
    intro listed n hs hr
    induction n with
    | zero => intro j hj; omega
    | succ n ih =>
      intro j hj hjs
      by_cases e : j < n
      · exact ih j e hjs
      · have e : j = n := by omega
        subst e
        cases hc : listed.getD j false with
        | true => rfl
        | false =>
          exfalso
          have : j ∈ Region.ready .any ops listed := by
            unfold Region.ready
            rw [List.mem_filter, List.mem_range]
            refine ⟨hjs, ?_⟩
            have hct : listed.getD j true = false := by
              simp only [Array.getD_eq_getD_getElem?, Array.getElem?_eq_getElem (show j < listed.size by omega), Option.getD_some] at hc ⊢
              exact hc
            rw [Array.getElem?_eq_getElem hjs, hct]
            simp only [Bool.not_false, Bool.true_and, Option.map_some, Option.getD_some]
            rw [Array.all_eq_true']
            intro e he
            cases hb : Region.binds .any e with
            | false => rfl
            | true =>
              have hlt := hok j ops[j] (Array.getElem?_eq_getElem hjs) e he hb
              have := ih e.on hlt (by omega)
              simpa using this
          rw [hr] at this
          cases this
  intro fuel
  induction fuel with
  | zero =>
    intro listed a w hs hl hI
    have all : ∀ j, j < ops.size → listed.getD j false = true := by
      intro j hj
      have := List.countP_eq_zero.1 hl j (List.mem_range.2 hj)
      simpa using this
    refine ⟨?_, fin a w ?_⟩
    · cases hr : Region.ready .any ops listed with
      | nil => rfl
      | cons i l =>
        obtain ⟨o, _, hi, hf, _⟩ := ready_mem (show i ∈ Region.ready .any ops listed by rw [hr]; exact List.mem_cons_self)
        have := all i hi
        simp only [Array.getD_eq_getD_getElem?, Array.getElem?_eq_getElem (show i < listed.size by omega), Option.getD_some] at this hf
        rw [this] at hf; cases hf
    · have e : (fun j => listed.getD j false = true) = (fun j => j < ops.size) := by
        funext j
        apply propext
        refine ⟨fun h => ?_, all j⟩
        rcases Nat.lt_or_ge j ops.size with g | g
        · exact g
        · simp [Array.getD_eq_getD_getElem?, Array.getElem?_eq_none (show listed.size ≤ j by omega)] at h
      rw [← e]; exact hI
  | succ fuel ih =>
    intro listed a w hs hl hI
    refine ⟨fun hr => ?_, fun i hi => ?_⟩
    · exfalso
      have : left ops.size listed = 0 := List.countP_eq_zero.2 fun j hj => by
        have := ready_some listed ops.size hs hr j (List.mem_range.1 hj) (List.mem_range.1 hj)
        simp [this]
      omega
    · obtain ⟨o, ho, hlt, hf, hd⟩ := ready_mem hi
      have hff : listed.getD i false = false := by
        simp only [Array.getD_eq_getD_getElem?, Array.getElem?_eq_getElem (show i < listed.size by omega), Option.getD_some] at hf ⊢
        exact hf
      refine wpOp_mono ?_ (step i o _ a w ho (by rw [hff]; simp) hd hI)
      intro a' w' hI'
      have hset : ∀ j, (listed.setIfInBounds i true).getD j false = if j = i then true else listed.getD j false := by
        intro j
        simp only [Array.getD_eq_getD_getElem?, Array.getElem?_setIfInBounds]
        by_cases e : i = j
        · subst e; simp [show i < listed.size by omega]
        · rw [if_neg (fun h : j = i => e h.symm)]; simp [e]
      refine ih _ a' w' (by simpa using hs) ?_ ?_
      · have := countP_turn (fun j => !listed.getD j false) (fun j => !(listed.setIfInBounds i true).getD j false) i (fun j hj => by simp only [hset, if_neg hj]) (by simp [hff]) (by simp [hset]) ops.size hlt
        unfold left at hl ⊢
        omega
      · have e : (fun j => (listed.setIfInBounds i true).getD j false = true) = (fun j => j = i ∨ listed.getD j false = true) := by
          funext j
          apply propext
          rw [hset]
          by_cases e : j = i <;> simp [e]
        rw [e]; exact hI'

theorem region_inv {id : Nat} {a : Act} {w : World} (hm : P.follows .mixedOrders = true) (I : (Nat → Prop) → Act → World → Prop)
    (hok : ∀ i o, ops[i]? = some o → ∀ e ∈ o.after, Region.binds .any e = true → e.on < i)
    (h0 : I (fun _ => False) a w.drew)
    (step : ∀ (i : Nat) (o : Oper) (D : Nat → Prop) (a : Act) (w : World), ops[i]? = some o → ¬ D i → (∀ e ∈ o.after, Region.binds .any e = true → D e.on) → I D a w →
      wpOp P ops Q i (fun a' w' => I (fun j => j = i ∨ D j) a' w') a w)
    (fin : ∀ a w, I (fun j => j < ops.size) a w → Q .normal a w) : (Code.region id ops true).wp P Q a w := by
  refine wp_region_any hm (wpAny_inv I hok step fin ops.size _ a _ (by simp) ?_ ?_)
  · unfold left
    rw [List.countP_eq_length.2]
    · simp
    · intro j _
      simp [Array.getD_eq_getD_getElem?, Array.getElem?_replicate]
      split <;> simp
  · have e : (fun j => (Array.replicate ops.size false).getD j false = true) = (fun _ => False) := by
      funext j
      apply propext
      simp [Array.getD_eq_getD_getElem?, Array.getElem?_replicate]
      split <;> simp
    rw [e]; exact h0

/-! ### One operation -/
theorem wpOp_value {i : Nat} {o : Oper} {a : Act} {w w' : World} {K : Act → World → Prop} {v : Value} (h : ops[i]? = some o) (hg : Region.wanted o (yielded ops a.tmps) = true)
    (hr : (execOp a.eval o).run P w = .ok (.value v) w') (hk : K (a.put o.dst v) w') : wpOp P ops Q i K a w := by
  unfold wpOp
  rw [h]
  simp only [hg, if_true]
  left
  unfold Oper.wp
  rw [hr]
  exact hk
theorem wpOp_skip {i : Nat} {o : Oper} {a : Act} {w w' : World} {K : Act → World → Prop} (h : ops[i]? = some o) (hg : Region.wanted o (yielded ops a.tmps) = true)
    (hr : (execOp a.eval o).run P w = .ok .skip w') (hk : K (a.put o.dst undef) w') : wpOp P ops Q i K a w := by
  unfold wpOp
  rw [h]
  simp only [hg, if_true]
  left
  unfold Oper.wp
  rw [hr]
  exact hk
theorem wpOp_passed {i : Nat} {o : Oper} {a : Act} {w : World} {K : Act → World → Prop} (h : ops[i]? = some o) (hg : Region.wanted o (yielded ops a.tmps) = false)
    (hk : K (a.put o.dst undef) w) : wpOp P ops Q i K a w := by
  unfold wpOp
  rw [h]
  simp only [hg]
  exact hk
theorem wpOp_call {i : Nat} {o : Oper} {a : Act} {w w' : World} {K : Act → World → Prop} {f : FuncId} {args : Array Value} (h : ops[i]? = some o) (hg : Region.wanted o (yielded ops a.tmps) = true)
    (hr : (execOp a.eval o).run P w = .ok (.enter f args) w') (hc : Calls P f args w' fun e w'' => ∃ v, e = .returned v ∧ K (a.put o.dst v) w'') : wpOp P ops Q i K a w := by
  unfold wpOp
  rw [h]
  simp only [hg, if_true]
  left
  unfold Oper.wp
  rw [hr]
  refine hc.mono ?_
  rintro e w'' ⟨v, rfl, hk⟩
  exact hk

/-! ### The slots -/
theorem eval_put_same {a : Act} {d : Nat} {v : Value} (h : d < a.tmps.size) : (a.put (some d) v).eval (.tmp d) = v := by
  simp [Act.put, Act.eval, Array.getD_eq_getD_getElem?, h]
theorem eval_put_other {a : Act} {d t : Nat} {v : Value} (h : d ≠ t) : (a.put (some d) v).eval (.tmp t) = a.eval (.tmp t) := by
  simp [Act.put, Act.eval, Array.getD_eq_getD_getElem?, h]

/-- The frame a is a0, but for the slots of T (an operation, its slot, its value: those that are done hold it) and those of X. -/
structure Slots (a0 : Act) (T : List (Nat × Nat × Value)) (X : List Nat) (D : Nat → Prop) (a : Act) : Prop where
  size : a.tmps.size = a0.tmps.size
  defers : a.defers = a0.defers
  out : ∀ t, t ∉ T.map (·.2.1) → t ∉ X → a.eval (.tmp t) = a0.eval (.tmp t)
  done : ∀ x ∈ T, D x.1 → a.eval (.tmp x.2.1) = x.2.2

/-- What T must be: each operation and each slot once, the slots within the frame, none of X. -/
def okT (n : Nat) (T : List (Nat × Nat × Value)) (X : List Nat) : Bool :=
  decide (T.map (·.1)).Nodup && decide (T.map (·.2.1)).Nodup && T.all (fun x => decide (x.2.1 < n) && !X.contains x.2.1) && X.all (fun d => decide (d < n))

variable {a0 a : Act} {T : List (Nat × Nat × Value)} {X : List Nat} {D : Nat → Prop}

theorem Slots.start (a0 : Act) (T : List (Nat × Nat × Value)) (X : List Nat) : Slots a0 T X (fun _ => False) a0 := ⟨rfl, rfl, fun _ _ _ => rfl, fun _ _ h => h.elim⟩

theorem nodup_fst {α β : Type} {f : α → β} {l : List α} (h : (l.map f).Nodup) {x y : α} (hx : x ∈ l) (hy : y ∈ l) (e : f x = f y) : x = y := by
  induction l with
  | nil => cases hx
  | cons z l ih =>
    rw [List.map_cons, List.nodup_cons] at h
    rcases List.mem_cons.1 hx with hx' | hx' <;> rcases List.mem_cons.1 hy with hy' | hy'
    · rw [hx', hy']
    · exact (h.1 (List.mem_map.2 ⟨y, hy', by rw [← e, hx']⟩)).elim
    · exact (h.1 (List.mem_map.2 ⟨x, hx', by rw [e, hy']⟩)).elim
    · exact ih h.2 hx' hy'

theorem Slots.value {i d : Nat} {v : Value} (h : Slots a0 T X D a) (hT : okT a0.tmps.size T X = true) (hx : (i, d, v) ∈ T) : Slots a0 T X (fun j => j = i ∨ D j) (a.put (some d) v) := by
  simp only [okT, Bool.and_eq_true, decide_eq_true_eq] at hT
  obtain ⟨⟨⟨h1, h2⟩, h3⟩, h4⟩ := hT
  have hb := (List.all_eq_true.1 h3) _ hx
  simp only [Bool.and_eq_true, decide_eq_true_eq] at hb
  refine ⟨by simpa [Act.put] using h.size, h.defers, fun t ht hX => ?_, fun y hy hD => ?_⟩
  · rw [eval_put_other (fun e => ht (List.mem_map.2 ⟨_, hx, e⟩))]
    exact h.out t ht hX
  · by_cases e : y.2.1 = d
    · have : y = (i, d, v) := nodup_fst (f := fun x : Nat × Nat × Value => x.2.1) h2 hy hx e
      subst this
      exact eval_put_same (by rw [h.size]; exact hb.1)
    · rw [eval_put_other (fun k => e k.symm)]
      refine h.done y hy ?_
      rcases hD with hD | hD
      · exact (e (by rw [nodup_fst (f := fun x : Nat × Nat × Value => x.1) h1 hy hx hD])).elim
      · exact hD

theorem Slots.extra {i d : Nat} {v : Value} (h : Slots a0 T X D a) (hT : okT a0.tmps.size T X = true) (hd : d ∈ X) (hi : i ∉ T.map (·.1)) : Slots a0 T X (fun j => j = i ∨ D j) (a.put (some d) v) := by
  simp only [okT, Bool.and_eq_true, decide_eq_true_eq] at hT
  obtain ⟨⟨⟨h1, h2⟩, h3⟩, h4⟩ := hT
  refine ⟨by simpa [Act.put] using h.size, h.defers, fun t ht hX => ?_, fun y hy hD => ?_⟩
  · rw [eval_put_other (fun e => hX (by rw [← e]; exact hd))]
    exact h.out t ht hX
  · have hb := (List.all_eq_true.1 h3) _ hy
    simp only [Bool.and_eq_true, decide_eq_true_eq, Bool.not_eq_true', List.contains_eq_mem, decide_eq_false_iff_not] at hb
    rw [eval_put_other (fun e => hb.2 (by rw [← e]; exact hd))]
    refine h.done y hy ?_
    rcases hD with hD | hD
    · exact (hi (List.mem_map.2 ⟨y, hy, hD⟩)).elim
    · exact hD

theorem Slots.none {i : Nat} (h : Slots a0 T X D a) (hi : i ∉ T.map (·.1)) : Slots a0 T X (fun j => j = i ∨ D j) a :=
  ⟨h.size, h.defers, h.out, fun y hy hD => h.done y hy (hD.resolve_left fun e => hi (List.mem_map.2 ⟨y, hy, e⟩))⟩

/-- The frame behind the region, written out. -/
def puts (a : Act) (L : List (Nat × Value)) : Act := L.foldl (fun a p => a.put (some p.1) p.2) a

theorem puts_size (L : List (Nat × Value)) : ∀ (a : Act), (puts a L).tmps.size = a.tmps.size := by
  induction L with
  | nil => intro a; rfl
  | cons p L ih => intro a; show (puts (a.put (some p.1) p.2) L).tmps.size = _; rw [ih]; simp [Act.put]
theorem puts_defers (L : List (Nat × Value)) : ∀ (a : Act), (puts a L).defers = a.defers := by
  induction L with
  | nil => intro a; rfl
  | cons p L ih => intro a; show (puts (a.put (some p.1) p.2) L).defers = _; rw [ih]; rfl
theorem puts_out (L : List (Nat × Value)) : ∀ (a : Act) (t : Nat), t ∉ L.map (·.1) → (puts a L).eval (.tmp t) = a.eval (.tmp t) := by
  induction L with
  | nil => intro a t _; rfl
  | cons p L ih =>
    intro a t ht
    show (puts (a.put (some p.1) p.2) L).eval _ = _
    rw [List.map_cons, List.mem_cons] at ht
    rw [ih _ t (fun h => ht (.inr h)), eval_put_other (fun e => ht (.inl e.symm))]
theorem puts_in (L : List (Nat × Value)) (hn : (L.map (·.1)).Nodup) : ∀ (a : Act) (p : Nat × Value), p ∈ L → p.1 < a.tmps.size → (puts a L).eval (.tmp p.1) = p.2 := by
  induction L with
  | nil => intro a p hp; cases hp
  | cons q L ih =>
    rw [List.map_cons, List.nodup_cons] at hn
    intro a p hp hlt
    show (puts (a.put (some q.1) q.2) L).eval _ = _
    rcases List.mem_cons.1 hp with rfl | hp
    · rw [puts_out L _ _ hn.1, eval_put_same hlt]
    · exact ih hn.2 _ p hp (by simpa [Act.put] using hlt)

theorem act_ext {a b : Act} (hs : a.tmps.size = b.tmps.size) (hd : a.defers = b.defers) (h : ∀ t, a.eval (.tmp t) = b.eval (.tmp t)) : a = b := by
  obtain ⟨ta, da⟩ := a
  obtain ⟨tb, db⟩ := b
  simp only at hs hd
  subst hd
  congr 1
  apply Array.ext hs
  intro i h1 h2
  have := h i
  simp only [Act.eval, Array.getD_eq_getD_getElem?, Array.getElem?_eq_getElem h1, Array.getElem?_eq_getElem h2, Option.getD_some] at this
  exact this

/-- .. where all is done: 'xs' are the values of X's slots. -/
theorem Slots.all (h : Slots a0 T X D a) (hT : okT a0.tmps.size T X = true) (hX : X.Nodup) (hD : ∀ x ∈ T, D x.1) (L : List (Nat × Value)) (hL : L.map (·.1) = X) (hLv : ∀ p ∈ L, a.eval (.tmp p.1) = p.2) :
    a = puts a0 (T.map (·.2) ++ L) := by
  simp only [okT, Bool.and_eq_true, decide_eq_true_eq] at hT
  obtain ⟨⟨⟨h1, h2⟩, h3⟩, h4⟩ := hT
  have hn : ((T.map (·.2) ++ L).map (·.1)).Nodup := by
    rw [List.map_append, List.map_map, hL, List.nodup_append]
    refine ⟨h2, hX, fun x hx y hy => ?_⟩
    rintro rfl
    obtain ⟨z, hz, e⟩ := List.mem_map.1 hx
    have hb := (List.all_eq_true.1 h3) _ hz
    simp only [Bool.and_eq_true, decide_eq_true_eq, Bool.not_eq_true', List.contains_eq_mem, decide_eq_false_iff_not] at hb
    exact hb.2 (by rw [show z.2.1 = x from e]; exact hy)
  have val : ∀ p ∈ T.map (·.2) ++ L, a.eval (.tmp p.1) = p.2 ∧ p.1 < a0.tmps.size := by
    intro p hp
    rcases List.mem_append.1 hp with hp | hp
    · obtain ⟨z, hz, rfl⟩ := List.mem_map.1 hp
      have hb := (List.all_eq_true.1 h3) _ hz
      simp only [Bool.and_eq_true, decide_eq_true_eq] at hb
      exact ⟨h.done z hz (hD z hz), hb.1⟩
    · refine ⟨hLv p hp, ?_⟩
      have := (List.all_eq_true.1 h4) p.1 (by rw [← hL]; exact List.mem_map.2 ⟨p, hp, rfl⟩)
      simpa using this
  refine act_ext (h.size.trans (puts_size _ _).symm) (h.defers.trans (puts_defers _ _).symm) fun t => ?_
  by_cases ht : t ∈ (T.map (·.2) ++ L).map (·.1)
  · obtain ⟨p, hp, rfl⟩ := List.mem_map.1 ht
    obtain ⟨hv, hb⟩ := val p hp
    rw [hv, puts_in _ hn _ p hp hb]
  · rw [puts_out _ _ _ ht]
    rw [List.map_append, List.mem_append, List.map_map, hL] at ht
    exact h.out t (fun k => ht (.inl k)) (fun k => ht (.inr k))
end

/-! ### Variables that the region declares: an alloc (operation al, slot sl; the cells z), a store (operation st; then the cells f) -/
structure VarE where
  al : Nat
  sl : Nat
  st : Nat
  z : List Value
  f : List Value

/-- A store into block g alone. -/
structure OnlyAt (g : Nat) (w w' : World) : Prop where
  os : w'.os = w.os
  tape : w'.tape = w.tape
  output : w'.output = w.output
  size : w'.heap.size = w.heap.size
  block : ∀ k, k ≠ g → w'.heap[k]? = w.heap[k]?

theorem OnlyAt.refl (g : Nat) (w : World) : OnlyAt g w w := ⟨rfl, rfl, rfl, rfl, fun _ _ => rfl⟩
theorem OnlyAt.set {g : Nat} {w w' : World} (h : OnlyAt g w w') (i : Nat) (u : Value) : OnlyAt g w (w'.setCell ⟨g, i, none⟩ u) :=
  ⟨h.os, h.tape, h.output, by simpa [World.setCell] using h.size, fun k hk => (Below.heap_setCell _ _ _ _ hk).trans (h.block k hk)⟩
theorem OnlyAt.below {g B : Nat} {w w' : World} (h : OnlyAt g w w') (hg : B ≤ g) : Below B w w' :=
  ⟨h.os, h.tape, h.output, Nat.le_of_eq h.size.symm, fun k hk => h.block k (by omega)⟩
theorem OnlyAt.box {g b : Nat} {w w' : World} {vs : List Value} (h : OnlyAt g w w') (hb : b ≠ g) (k : Box w b vs) : Box w' b vs :=
  ⟨by rw [h.size]; exact k.lt, fun i v hv => (World.cell?_of_block (w := w) (h.block b hb)).trans (k.cells i v hv), fun i => (World.frozen?_of_block (w := w) (h.block b hb)).trans (k.free i)⟩

def Vars (B : Nat) (A : List VarE) (D : Nat → Prop) (a : Act) (w : World) : Prop :=
  ∃ g : Nat → Nat, (∀ x ∈ A, D x.al → a.eval (.tmp x.sl) = .pointer (some ⟨g x.al, 0, none⟩) ∧ B ≤ g x.al ∧ (¬ D x.st → Box w (g x.al) x.z) ∧ (D x.st → Box w (g x.al) x.f)) ∧
    (∀ x ∈ A, ∀ y ∈ A, D x.al → D y.al → x.al ≠ y.al → g x.al ≠ g y.al) ∧ (∀ x ∈ A, D x.st → D x.al)

def okA (A : List VarE) : Bool :=
  decide (A.map (·.al)).Nodup && decide (A.map (·.sl)).Nodup && decide (A.map (·.st)).Nodup && A.all (fun x => A.all fun y => decide (x.al ≠ y.st))

section
variable {B : Nat} {A : List VarE} {D : Nat → Prop} {a : Act} {w w' : World}

theorem Vars.start (B : Nat) (A : List VarE) (a : Act) (w : World) : Vars B A (fun _ => False) a w := ⟨fun _ => 0, fun _ _ h => h.elim, fun _ _ _ _ h => h.elim, fun _ _ h => h.elim⟩

theorem Vars.keep (h : Vars B A D a w) (hb : Below w.heap.size w w') : Vars B A D a w' := by
  obtain ⟨g, h1, h2, h3⟩ := h
  exact ⟨g, fun x hx hD => let ⟨e, l, z, f⟩ := h1 x hx hD; ⟨e, l, fun k => (z k).keep hb, fun k => (f k).keep hb⟩, h2, h3⟩

/-- Another operation, with or without a slot of its own. -/
theorem Vars.other {i : Nat} {d : Option Nat} {v : Value} (h : Vars B A D a w) (hi : ∀ x ∈ A, i ≠ x.al ∧ i ≠ x.st) (hd : ∀ x ∈ A, d ≠ some x.sl) : Vars B A (fun j => j = i ∨ D j) (a.put d v) w := by
  obtain ⟨g, h1, h2, h3⟩ := h
  have dal : ∀ x ∈ A, (x.al = i ∨ D x.al) → D x.al := fun x hx h => h.resolve_left fun e => (hi x hx).1 e.symm
  have dst : ∀ x ∈ A, (x.st = i ∨ D x.st) → D x.st := fun x hx h => h.resolve_left fun e => (hi x hx).2 e.symm
  refine ⟨g, fun x hx hD => ?_, fun x hx y hy a b => h2 x hx y hy (dal x hx a) (dal y hy b), fun x hx h => .inr (h3 x hx (dst x hx h))⟩
  obtain ⟨e, l, z, f⟩ := h1 x hx (dal x hx hD)
  refine ⟨?_, l, fun k => z fun k' => k (.inr k'), fun k => f (dst x hx k)⟩
  cases d with
  | none => exact e
  | some d => rw [eval_put_other (fun k => hd x hx (by rw [k]))]; exact e

theorem Vars.alloc {x : VarE} {v : Value} {cs : Array Value} {t : TypeId} (h : Vars B A D a w) (hA : okA A = true) (hx : x ∈ A) (hn : ¬ D x.al) (hs : x.sl < a.tmps.size) (hB : B ≤ w.heap.size) (hz : cs.toList = x.z)
    (hv : v = .pointer (some ⟨w.heap.size, 0, none⟩)) : Vars B A (fun j => j = x.al ∨ D j) (a.put (some x.sl) v) (w.alloc (.cells cs t)) := by
  simp only [okA, Bool.and_eq_true, decide_eq_true_eq] at hA
  obtain ⟨⟨⟨n1, n2⟩, n3⟩, n4⟩ := hA
  obtain ⟨g, h1, h2, h3⟩ := h
  have dst : ∀ y ∈ A, (y.st = x.al ∨ D y.st) → D y.st := fun y hy h => h.resolve_left fun e => by
    have := List.all_eq_true.1 (List.all_eq_true.1 n4 x hx) y hy
    simp only [decide_eq_true_eq] at this
    exact this e.symm
  have one : ∀ y ∈ A, y.al = x.al → y = x := fun y hy e => nodup_fst (f := fun x : VarE => x.al) n1 hy hx e
  refine ⟨fun j => if j = x.al then w.heap.size else g j, fun y hy hD => ?_, fun y hy y' hy' hD hD' hne => ?_, fun y hy h => .inr (h3 y hy (dst y hy h))⟩
  · by_cases e : y.al = x.al
    · have := one y hy e
      subst this
      simp only [if_true]
      refine ⟨by rw [eval_put_same hs, hv], hB, fun _ => by rw [← hz]; exact Box.new w cs t, fun k => (hn (h3 y hy (dst y hy k))).elim⟩
    · simp only [if_neg e]
      obtain ⟨ee, l, z, f⟩ := h1 y hy (hD.resolve_left e)
      refine ⟨?_, l, fun k => (z fun k' => k (.inr k')).alloc _, fun k => (f (dst y hy k)).alloc _⟩
      rw [eval_put_other (fun k => e (by rw [nodup_fst (f := fun x : VarE => x.sl) n2 hy hx k.symm]))]
      exact ee
  · by_cases e : y.al = x.al <;> by_cases e' : y'.al = x.al
    · exact (hne (e.trans e'.symm)).elim
    · simp only [if_pos e, if_neg e']
      obtain ⟨_, _, z, f⟩ := h1 y' hy' (hD'.resolve_left e')
      have : g y'.al < w.heap.size := by
        by_cases k : D y'.st
        · exact (f k).lt
        · exact (z k).lt
      omega
    · simp only [if_neg e, if_pos e']
      obtain ⟨_, _, z, f⟩ := h1 y hy (hD.resolve_left e)
      have : g y.al < w.heap.size := by
        by_cases k : D y.st
        · exact (f k).lt
        · exact (z k).lt
      omega
    · simp only [if_neg e, if_neg e']
      exact h2 y hy y' hy' (hD.resolve_left e) (hD'.resolve_left e') hne

/-- The store: the block, what it holds, and what is left behind it. -/
theorem Vars.block {x : VarE} (h : Vars B A D a w) (hx : x ∈ A) (hal : D x.al) (hn : ¬ D x.st) :
    ∃ g : Nat, a.eval (.tmp x.sl) = .pointer (some ⟨g, 0, none⟩) ∧ B ≤ g ∧ Box w g x.z := by
  obtain ⟨g, h1, h2, h3⟩ := h
  obtain ⟨e, l, z, _⟩ := h1 x hx hal
  exact ⟨_, e, l, z hn⟩
theorem Vars.stored {x : VarE} {g : Nat} (h : Vars B A D a w) (hA : okA A = true) (hx : x ∈ A) (hal : D x.al) (he : a.eval (.tmp x.sl) = .pointer (some ⟨g, 0, none⟩))
    (ho : OnlyAt g w w') (hb : Box w' g x.f) : Vars B A (fun j => j = x.st ∨ D j) a w' := by
  simp only [okA, Bool.and_eq_true, decide_eq_true_eq] at hA
  obtain ⟨⟨⟨n1, n2⟩, n3⟩, n4⟩ := hA
  obtain ⟨gg, h1, h2, h3⟩ := h
  have hg : gg x.al = g := by
    have := (h1 x hx hal).1
    rw [he] at this
    simp at this
    exact this.symm
  have nst : ∀ y ∈ A, y.al ≠ x.st := fun y hy => by
    have := List.all_eq_true.1 (List.all_eq_true.1 n4 y hy) x hx
    simpa using this
  have dal : ∀ y ∈ A, (y.al = x.st ∨ D y.al) → D y.al := fun y hy h => h.resolve_left (nst y hy)
  refine ⟨gg, fun y hy hD => ?_, fun y hy y' hy' hD hD' => h2 y hy y' hy' (dal y hy hD) (dal y' hy' hD'), fun y hy h => ?_⟩
  · obtain ⟨e, l, z, f⟩ := h1 y hy (dal y hy hD)
    by_cases k : y.st = x.st
    · have := nodup_fst (f := fun x : VarE => x.st) n3 hy hx k
      subst this
      exact ⟨e, l, fun k' => (k' (.inl rfl)).elim, fun _ => by rw [hg]; exact hb⟩
    · have hne : gg y.al ≠ g := by
        rw [← hg]
        refine h2 y hy x hx (dal y hy hD) hal fun k' => k ?_
        rw [nodup_fst (f := fun x : VarE => x.al) n1 hy hx k']
      exact ⟨e, l, fun k' => ho.box hne (z fun k'' => k' (.inr k'')), fun k' => ho.box hne (f (k'.resolve_left k))⟩
  · rcases h with h | h
    · rw [nodup_fst (f := fun x : VarE => x.st) n3 hy hx h]; exact .inr hal
    · exact .inr (h3 y hy h)

/-- .. where all is done. -/
theorem Vars.fin {x : VarE} (h : Vars B A D a w) (hx : x ∈ A) (hal : D x.al) (hst : D x.st) : ∃ g : Nat, a.eval (.tmp x.sl) = .pointer (some ⟨g, 0, none⟩) ∧ B ≤ g ∧ Box w g x.f := by
  obtain ⟨g, h1, h2, h3⟩ := h
  obtain ⟨e, l, _, f⟩ := h1 x hx hal
  exact ⟨_, e, l, f hst⟩

end

/-- What the walk knows of slots that the region does not write. -/
def Base (E : List (Nat × Value)) (a : Act) : Prop := ∀ p ∈ E, a.eval (.tmp p.1) = p.2

/-- A step's end. -/
structure Kept (a0 : Act) (T : List (Nat × Nat × Value)) (X : List Nat) (A : List VarE) (B : Nat) (W : World) (D : Nat → Prop) (a : Act) (w : World) : Prop where
  slots : Slots a0 T X D a
  vars : Vars B A D a w
  below : Below B W w

theorem region_go {P : Program} {ops : Array Oper} {Q : Exit → Act → World → Prop} {id : Nat} {a : Act} {w : World} (hm : P.follows .mixedOrders = true)
    (hok : (ops.toList.zipIdx.all fun (o, i) => o.after.all fun e => !Region.binds .any e || decide (e.on < i)) = true)
    (T : List (Nat × Nat × Value)) (X : List Nat) (A : List VarE) (E : List (Nat × Value)) (hT : okT a.tmps.size T X = true) (hE : Base E a)
    (hEo : (E.all fun p => !(T.map (·.2.1)).contains p.1 && !X.contains p.1) = true)
    (step : ∀ (a0 : Act) (i : Nat) (o : Oper) (D : Nat → Prop) (a' : Act) (w' : World), ops[i]? = some o → ¬ D i → (∀ e ∈ o.after, Region.binds .any e = true → D e.on) → okT a0.tmps.size T X = true → Base E a' →
      Slots a0 T X D a' → Vars w.heap.size A D a' w' → Below w.heap.size w w' → wpOp P ops Q i (Kept a0 T X A w.heap.size w (fun j => j = i ∨ D j)) a' w')
    (fin : ∀ a' w', Slots a T X (fun j => j < ops.size) a' → Vars w.heap.size A (fun j => j < ops.size) a' w' → Below w.heap.size w w' → Q .normal a' w') : (Code.region id ops true).wp P Q a w := by
  refine region_inv hm (Kept a T X A w.heap.size w) ?_ ⟨Slots.start _ _ _, Vars.start _ _ _ _, (Below.refl _ _).drew⟩ ?_ (fun a' w' h => fin a' w' h.slots h.vars h.below)
  · intro i o ho e he hb
    have hi : i < ops.toList.length := by
      have := (Array.getElem?_eq_some_iff.1 ho).1
      simpa using this
    have hmem : (o, i) ∈ ops.toList.zipIdx := by
      rw [List.mem_zipIdx_iff_getElem?]
      simpa using ho
    have := (List.all_eq_true.1 hok) _ hmem
    have := Array.all_eq_true'.1 this e he
    simpa [hb] using this
  · intro i o D a' w' ho hn hd hI
    refine step a i o D a' w' ho hn hd hT (fun p hp => ?_) hI.slots hI.vars hI.below
    have := (List.all_eq_true.1 hEo) p hp
    simp only [Bool.and_eq_true, Bool.not_eq_true', List.contains_eq_mem, decide_eq_false_iff_not] at this
    rw [hI.slots.out p.1 this.1 this.2]
    exact hE p hp

section
variable {P : Program} {ops : Array Oper} {Q : Exit → Act → World → Prop} {a0 a : Act} {T : List (Nat × Nat × Value)} {X : List Nat} {A : List VarE} {B : Nat} {W w w' : World} {D : Nat → Prop} {i : Nat} {o : Oper}

/-- An operation that gives a known value and leaves the world, or makes something besides. -/
theorem step_value {d : Nat} {v : Value} (ho : ops[i]? = some o) (hd : o.dst = some d) (hg : o.guard = none) (hT : okT a0.tmps.size T X = true) (hx : (i, d, v) ∈ T) (hA : (A.all fun x => decide (i ≠ x.al ∧ i ≠ x.st ∧ d ≠ x.sl)) = true)
    (hS : Slots a0 T X D a) (hV : Vars B A D a w) (hB : Below B W w) (hb : Below w.heap.size w w') (hBs : B ≤ w.heap.size) (hr : (execOp a.eval o).run P w = .ok (.value v) w') : wpOp P ops Q i (Kept a0 T X A B W (fun j => j = i ∨ D j)) a w := by
  refine wpOp_value ho (by simp [Region.wanted, hg]) hr ?_
  rw [hd]
  refine ⟨hS.value hT hx, (hV.keep hb).other (fun x hx => ?_) (fun x hx => ?_), hB.trans (hb.mono hBs)⟩
  · have := List.all_eq_true.1 hA x hx
    simp only [decide_eq_true_eq] at this
    exact ⟨this.1, this.2.1⟩
  · have := List.all_eq_true.1 hA x hx
    simp only [decide_eq_true_eq] at this
    simpa using this.2.2

theorem step_call {d : Nat} {v : Value} {f : FuncId} {args : Array Value} (ho : ops[i]? = some o) (hd : o.dst = some d) (hg : o.guard = none) (hT : okT a0.tmps.size T X = true) (hx : (i, d, v) ∈ T) (hA : (A.all fun x => decide (i ≠ x.al ∧ i ≠ x.st ∧ d ≠ x.sl)) = true)
    (hS : Slots a0 T X D a) (hV : Vars B A D a w) (hB : Below B W w) (hBs : B ≤ w.heap.size) (hr : (execOp a.eval o).run P w = .ok (.enter f args) w) (hc : Calls P f args w (Gives v w)) : wpOp P ops Q i (Kept a0 T X A B W (fun j => j = i ∨ D j)) a w := by
  refine wpOp_call ho (by simp [Region.wanted, hg]) hr (hc.mono ?_)
  rintro e w1 ⟨rfl, hb⟩
  refine ⟨v, rfl, ?_⟩
  rw [hd]
  refine ⟨hS.value hT hx, (hV.keep hb).other (fun x hx => ?_) (fun x hx => ?_), hB.trans (hb.mono hBs)⟩
  · have := List.all_eq_true.1 hA x hx
    simp only [decide_eq_true_eq] at this
    exact ⟨this.1, this.2.1⟩
  · have := List.all_eq_true.1 hA x hx
    simp only [decide_eq_true_eq] at this
    simpa using this.2.2

theorem step_alloc {x : VarE} {cs : Array Value} {t : TypeId} (ho : ops[x.al]? = some o) (hd : o.dst = some x.sl) (hg : o.guard = none) (hT : okT a0.tmps.size T X = true) (hA : okA A = true) (hx : x ∈ A) (hX : x.sl ∈ X) (hi : (T.map (·.1)).contains x.al = false) (hn : ¬ D x.al)
    (hS : Slots a0 T X D a) (hV : Vars B A D a w) (hB : Below B W w) (hBs : B ≤ w.heap.size) (hz : cs.toList = x.z)
    (hr : (execOp a.eval o).run P w = .ok (.value (.pointer (some ⟨w.heap.size, 0, none⟩))) (w.alloc (.cells cs t))) : wpOp P ops Q x.al (Kept a0 T X A B W (fun j => j = x.al ∨ D j)) a w := by
  refine wpOp_value ho (by simp [Region.wanted, hg]) hr ?_
  rw [hd]
  refine ⟨hS.extra hT hX (by simpa using hi), hV.alloc hA hx hn ?_ hBs hz rfl, hB.alloc hBs _⟩
  have h4 := hT
  simp only [okT, Bool.and_eq_true] at h4
  have := (List.all_eq_true.1 h4.2) x.sl hX
  rw [hS.size]; simpa using this

theorem step_store {x : VarE} (ho : ops[x.st]? = some o) (hd : o.dst = none) (hg : o.guard = none) (hA : okA A = true) (hx : x ∈ A) (hi : (T.map (·.1)).contains x.st = false) (hn : ¬ D x.st) (hal : D x.al)
    (hS : Slots a0 T X D a) (hV : Vars B A D a w) (hB : Below B W w)
    (hr : ∀ g : Nat, a.eval (.tmp x.sl) = .pointer (some ⟨g, 0, none⟩) → Box w g x.z → ∃ w', (execOp a.eval o).run P w = .ok .skip w' ∧ OnlyAt g w w' ∧ Box w' g x.f) : wpOp P ops Q x.st (Kept a0 T X A B W (fun j => j = x.st ∨ D j)) a w := by
  obtain ⟨g, he, hBg, hbox⟩ := hV.block hx hal hn
  obtain ⟨w', hr', h1, h2⟩ := hr g he hbox
  refine wpOp_skip ho (by simp [Region.wanted, hg]) hr' ?_
  rw [hd]
  exact ⟨hS.none (by simpa using hi), hV.stored hA hx hal he h1 h2, hB.trans (h1.below hBg)⟩
end

/-- A store of three, of four cells. -/
theorem set3_box {w : World} {g : Nat} {z0 z1 z2 : Value} (u0 u1 u2 : Value) (h : Box w g [z0, z1, z2]) :
    Box (((w.setCell ⟨g, 0, none⟩ u0).setCell ⟨g, 1, none⟩ u1).setCell ⟨g, 2, none⟩ u2) g [u0, u1, u2] := by
  have c0 := h.cells 0 _ rfl
  have c1 := h.cells 1 _ rfl
  have c2 := h.cells 2 _ rfl
  refine ⟨by simpa [World.setCell] using h.lt, fun i v hv => ?_, fun i => by rw [World.frozen?_setCell, World.frozen?_setCell, World.frozen?_setCell]; exact h.free i⟩
  match i, hv with
  | 0, hv =>
    simp at hv; subst hv
    rw [World.cell?_setCell_other _ _ _ _ (by simp), World.cell?_setCell_other _ _ _ _ (by simp), World.cell?_setCell_same _ _ _ c0]
  | 1, hv =>
    simp at hv; subst hv
    rw [World.cell?_setCell_other _ _ _ _ (by simp), World.cell?_setCell_same _ _ _ (by rw [World.cell?_setCell_other _ _ _ _ (by simp)]; exact c1)]
  | 2, hv =>
    simp at hv; subst hv
    rw [World.cell?_setCell_same _ _ _ (by rw [World.cell?_setCell_other _ _ _ _ (by simp), World.cell?_setCell_other _ _ _ _ (by simp)]; exact c2)]
theorem only3 {w : World} {g : Nat} (u0 u1 u2 : Value) : OnlyAt g w (((w.setCell ⟨g, 0, none⟩ u0).setCell ⟨g, 1, none⟩ u1).setCell ⟨g, 2, none⟩ u2) :=
  (((OnlyAt.refl g w).set 0 u0).set 1 u1).set 2 u2

end Go.Proofs.Ythgcgciceejicaa

namespace Go.Proofs.Ythgcgciceejicaa
open Go.RowKit

section
variable {P : Program} {ops : Array Oper} {Q : Exit → Act → World → Prop} {a0 a : Act} {T : List (Nat × Nat × Value)} {X : List Nat} {A : List VarE} {B : Nat} {W w w' : World} {D : Nat → Prop} {i : Nat} {o : Oper}

theorem wanted_of {g dg : Nat} {b want : Bool} (hg : o.guard = some (g, want)) (hd : (ops[g]?).bind (·.dst) = some dg) (h : a.eval (.tmp dg) = .bool b) : Region.wanted o (yielded ops a.tmps) = (b == want) := by
  have ht : a.tmps[dg]? = some (.bool b) := by
    simp only [Act.eval, Array.getD_eq_getD_getElem?] at h
    cases e : a.tmps[dg]? with
    | none => rw [e] at h; simp [undef] at h
    | some v => rw [e] at h; simp at h; rw [h]
  have hy : yielded ops a.tmps g = some b := by
    unfold yielded
    rw [hd]
    simp [ht]
  unfold Region.wanted
  rw [hg]
  simp only [hy]
  cases b <;> cases want <;> rfl

theorem wanted_ok {g dg : Nat} (b : Bool) (hg : o.guard = some (g, b)) (hd : (ops[g]?).bind (·.dst) = some dg) (h : a.eval (.tmp dg) = .bool b) : Region.wanted o (yielded ops a.tmps) = true := by
  rw [wanted_of hg hd h]; cases b <;> rfl
theorem wanted_no {g dg : Nat} (b : Bool) (hg : o.guard = some (g, !b)) (hd : (ops[g]?).bind (·.dst) = some dg) (h : a.eval (.tmp dg) = .bool b) : Region.wanted o (yielded ops a.tmps) = false := by
  rw [wanted_of hg hd h]; cases b <;> rfl

theorem step_valueG {d : Nat} {v : Value} (hw : Region.wanted o (yielded ops a.tmps) = true) (ho : ops[i]? = some o) (hd : o.dst = some d) (hT : okT a0.tmps.size T X = true) (hx : (i, d, v) ∈ T) (hA : (A.all fun x => decide (i ≠ x.al ∧ i ≠ x.st ∧ d ≠ x.sl)) = true)
    (hS : Slots a0 T X D a) (hV : Vars B A D a w) (hB : Below B W w) (hb : Below w.heap.size w w') (hBs : B ≤ w.heap.size) (hr : (execOp a.eval o).run P w = .ok (.value v) w') : wpOp P ops Q i (Kept a0 T X A B W (fun j => j = i ∨ D j)) a w := by
  refine wpOp_value ho hw hr ?_
  rw [hd]
  refine ⟨hS.value hT hx, (hV.keep hb).other (fun x hx => ?_) (fun x hx => ?_), hB.trans (hb.mono hBs)⟩
  · have := List.all_eq_true.1 hA x hx
    simp only [decide_eq_true_eq] at this
    exact ⟨this.1, this.2.1⟩
  · have := List.all_eq_true.1 hA x hx
    simp only [decide_eq_true_eq] at this
    simpa using this.2.2

theorem step_callG {d : Nat} {v : Value} {f : FuncId} {args : Array Value} (hw : Region.wanted o (yielded ops a.tmps) = true) (ho : ops[i]? = some o) (hd : o.dst = some d) (hT : okT a0.tmps.size T X = true) (hx : (i, d, v) ∈ T) (hA : (A.all fun x => decide (i ≠ x.al ∧ i ≠ x.st ∧ d ≠ x.sl)) = true)
    (hS : Slots a0 T X D a) (hV : Vars B A D a w) (hB : Below B W w) (hBs : B ≤ w.heap.size) (hr : (execOp a.eval o).run P w = .ok (.enter f args) w) (hc : Calls P f args w (Gives v w)) : wpOp P ops Q i (Kept a0 T X A B W (fun j => j = i ∨ D j)) a w := by
  refine wpOp_call ho hw hr (hc.mono ?_)
  rintro e w1 ⟨rfl, hb⟩
  refine ⟨v, rfl, ?_⟩
  rw [hd]
  refine ⟨hS.value hT hx, (hV.keep hb).other (fun x hx => ?_) (fun x hx => ?_), hB.trans (hb.mono hBs)⟩
  · have := List.all_eq_true.1 hA x hx
    simp only [decide_eq_true_eq] at this
    exact ⟨this.1, this.2.1⟩
  · have := List.all_eq_true.1 hA x hx
    simp only [decide_eq_true_eq] at this
    simpa using this.2.2

theorem step_passed {d : Nat} (hw : Region.wanted o (yielded ops a.tmps) = false) (ho : ops[i]? = some o) (hd : o.dst = some d) (hT : okT a0.tmps.size T X = true) (hx : (i, d, undef) ∈ T) (hA : (A.all fun x => decide (i ≠ x.al ∧ i ≠ x.st ∧ d ≠ x.sl)) = true)
    (hS : Slots a0 T X D a) (hV : Vars B A D a w) (hB : Below B W w) : wpOp P ops Q i (Kept a0 T X A B W (fun j => j = i ∨ D j)) a w := by
  refine wpOp_passed ho hw ?_
  rw [hd]
  refine ⟨hS.value hT hx, hV.other (fun x hx => ?_) (fun x hx => ?_), hB⟩
  · have := List.all_eq_true.1 hA x hx
    simp only [decide_eq_true_eq] at this
    exact ⟨this.1, this.2.1⟩
  · have := List.all_eq_true.1 hA x hx
    simp only [decide_eq_true_eq] at this
    simpa using this.2.2
end

/-! ### The same law for long regions: one goal an operation, the lists behind names -/
def StepAt (P : Program) (ops : Array Oper) (Q : Exit → Act → World → Prop) (T : List (Nat × Nat × Value)) (X : List Nat) (A : List VarE) (w : World) (a0 : Act) (D : Nat → Prop) (a' : Act) (w' : World) (i : Nat) : Prop :=
  ∀ o, ops[i]? = some o → ¬ D i → (∀ e ∈ o.after, Region.binds .any e = true → D e.on) → wpOp P ops Q i (Kept a0 T X A w.heap.size w (fun j => j = i ∨ D j)) a' w'

theorem all_zero (p : Nat → Prop) : ∀ i, i < 0 → p i := fun _ h => absurd h (Nat.not_lt_zero _)
theorem all_succ {n : Nat} {p : Nat → Prop} (r : ∀ i, i < n → p i) (h : p n) : ∀ i, i < n + 1 → p i := fun i hi => by
  rcases Nat.lt_or_eq_of_le (Nat.lt_succ_iff.1 hi) with k | k
  · exact r i k
  · subst k; exact h

theorem region_go2 {P : Program} {ops : Array Oper} {Q : Exit → Act → World → Prop} {id : Nat} {a : Act} {w : World} (hm : P.follows .mixedOrders = true)
    (hok : (ops.toList.zipIdx.all fun (o, i) => o.after.all fun e => !Region.binds .any e || decide (e.on < i)) = true)
    (T : List (Nat × Nat × Value)) (X : List Nat) (A : List VarE) (E : List (Nat × Value)) (n : Nat) (hn : ops.size = n) (hT : okT a.tmps.size T X = true) (hE : Base E a)
    (hEo : (E.all fun p => !(T.map (·.2.1)).contains p.1 && !X.contains p.1) = true)
    (step : ∀ (a0 : Act) (D : Nat → Prop) (a' : Act) (w' : World), okT a0.tmps.size T X = true → Base E a' →
      Slots a0 T X D a' → Vars w.heap.size A D a' w' → Below w.heap.size w w' → ∀ i, i < n → StepAt P ops Q T X A w a0 D a' w' i)
    (fin : ∀ a' w', Slots a T X (fun j => j < ops.size) a' → Vars w.heap.size A (fun j => j < ops.size) a' w' → Below w.heap.size w w' → Q .normal a' w') : (Code.region id ops true).wp P Q a w :=
  region_go hm hok T X A E hT hE hEo (fun a0 i o D a' w' ho hn' hd hT' hE' hS hV hB => step a0 D a' w' hT' hE' hS hV hB i (by rw [← hn]; exact (Array.getElem?_eq_some_iff.1 ho).1) o ho hn' hd) fin

theorem mem_at {α : Type} {l l' : List α} {x : α} (h : Hid (l = l')) (k : Nat) (e : l'[k]? = some x) : x ∈ l := by
  rw [h.out]; exact List.mem_of_getElem? e

end Go.Proofs.Ythgcgciceejicaa
