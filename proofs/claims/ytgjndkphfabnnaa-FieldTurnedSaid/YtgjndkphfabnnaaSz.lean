/-
  A walk by certificates: regions that draw their order. What an operation gives is told once, as a function of what the calls and the allocations gave; it holds in whatever order.
-/
import Derived.Test.YtgjndkphfabnnaaSy
import Derived.Test.YtgjndkphfabnnaaRegion
namespace Go.Proofs.Ytgjndkphfabnnaa
open Go.RowKit

/-- The parts of a slice that is not known. -/
def sA : Value → Option Addr | .slice a _ _ => a | _ => none
def sN : Value → Nat | .slice _ n _ => n | _ => 0
def sC : Value → Nat | .slice _ _ c => c | _ => 0
theorem slu {A : Option Addr} {n c : Nat} : Value.slice (sA (.slice A n c)) (sN (.slice A n c)) (sC (.slice A n c)) = .slice A n c := rfl

abbrev Gh := Nat → Value
def upd (x : Gh) (i : Nat) (v : Value) : Gh := fun j => match Nat.beq j i with
  | true => v
  | false => x j
def blkOf : Value → Nat
  | .pointer (some a) => a.block
  | _ => 0
/-- A block of the call's own through the region: what it is at first (none: it is not there yet), and behind which operations it is what. -/
structure Gent where
  start : Option Ent
  vers : List (Nat × (Gh → Ent))
/-- What a region does: slots (operation, slot, value); blocks; facts (operation, fact); what each operation waits for. -/
structure Reg where
  C : Fx
  T : List (Nat × Nat × (Gh → Value))
  E : List (Nat × Value)
  G : List Gent
  F : List (Nat × (Gh → Vw → Prop))
  anc : List (List Nat)
  h : Vw

def Reg.an (R : Reg) (i : Nat) : List Nat := R.anc.getD i []
def dirs (o : Oper) : List Nat := (o.after.toList.filter (Region.binds .any ·)).map (·.on)
def opAt (ops : Array Oper) (i : Nat) : Oper := ops.toList.getD i default

open Classical in
noncomputable def sel (c : Prop) (u v : Option Ent) : Option Ent := if c then u else v
theorem sel_pos {c : Prop} {u v : Option Ent} (h : c) : sel c u v = u := if_pos h
theorem sel_neg {c : Prop} {u v : Option Ent} (h : ¬ c) : sel c u v = v := if_neg h
noncomputable def cur (D : Nat → Prop) (x : Gh) (g : Gent) : Option Ent := g.vers.foldl (fun acc p => sel (D p.1) (some (p.2 x)) acc) g.start
noncomputable def BD (G : List Gent) (D : Nat → Prop) (x : Gh) : List Ent := G.filterMap (cur D x)
def curA (A : List Nat) (x : Gh) (g : Gent) : Option Ent := g.vers.foldl (fun acc p => match A.contains p.1 with | true => some (p.2 x) | false => acc) g.start

structure Inv (R : Reg) (D : Nat → Prop) (x : Gh) (h : Vw) (a : Act) (w : World) : Prop where
  done : ∀ t ∈ R.T, D t.1 → a.eval (.tmp t.2.1) = t.2.2 x
  base : ∀ d v, lookup R.E d = some v → (∀ t ∈ R.T, t.2.1 = d → ¬ D t.1) → a.eval (.tmp d) = v
  mem : J R.C [] (BD R.G D x) h a w
  sees : Sees R.h h
  facts : ∀ p ∈ R.F, D p.1 → p.2 x h
  closed : ∀ j, D j → ∀ k ∈ R.an j, D k

theorem fits_nil (a : Act) : Fits [] a := fun _ _ h => by simp [lookup] at h
theorem fits_pre {L E : List (Nat × Value)} {a : Act} (h : ∀ p ∈ L, a.eval (.tmp p.1) = p.2) (k : Fits E a) : Fits (L ++ E) a := by
  induction L with
  | nil => exact k
  | cons p L ih =>
    intro d v hv
    simp only [lookup, List.cons_append] at hv
    split at hv
    · rename_i e
      have e := Nat.eq_of_beq_eq_true e
      simp only [Option.some.injEq] at hv
      subst hv e
      exact h p (by simp)
    · exact ih (fun q hq => h q (by simp [hq])) d v hv

theorem lookup_pre {E : List (Nat × Value)} {d : Nat} {v : Value} : ∀ {L : List (Nat × Value)}, lookup (L ++ E) d = some v → (∃ p ∈ L, p.1 = d ∧ p.2 = v) ∨ ((∀ p ∈ L, p.1 ≠ d) ∧ lookup E d = some v)
  | [], h => .inr ⟨fun p hp => (by cases hp), h⟩
  | p :: L, h => by
    simp only [lookup, List.cons_append] at h
    split at h
    · rename_i e
      simp only [Option.some.injEq] at h
      exact .inl ⟨p, by simp, Nat.eq_of_beq_eq_true e, h⟩
    · rename_i e
      rcases lookup_pre h with ⟨q, hq, e1, e2⟩ | ⟨hno, hl⟩
      · exact .inl ⟨q, by simp [hq], e1, e2⟩
      · refine .inr ⟨fun q hq => ?_, hl⟩
        rcases List.mem_cons.1 hq with rfl | hq
        · exact Nat.ne_of_beq_eq_false e
        · exact hno q hq
theorem fits_pre' {L E : List (Nat × Value)} {a : Act} (h : ∀ p ∈ L, a.eval (.tmp p.1) = p.2) (k : ∀ d v, lookup E d = some v → (∀ p ∈ L, p.1 ≠ d) → a.eval (.tmp d) = v) : Fits (L ++ E) a := fun d v hv => by
  rcases lookup_pre hv with ⟨p, hp, rfl, rfl⟩ | ⟨hno, hl⟩
  · exact h p hp
  · exact k d v hl hno

/-! ### What must be checked once -/
/-- Slots and operations once each, the slots in the frame and new. -/
def chkT (R : Reg) : Bool :=
  decide (R.T.map (·.1)).Nodup && decide (R.T.map (·.2.1)).Nodup && R.T.all (fun t => Nat.blt t.2.1 R.C.N)
/-- What an operation waits for is what its edges say, or what those wait for. -/
def chkA (R : Reg) (ops : Array Oper) : Bool :=
  (List.range ops.size).all fun i => let ds := dirs (opAt ops i); ds.all (fun k => Nat.blt k i) && (R.an i).all fun k => ds.contains k || ds.any fun m => (R.an m).contains k

section
variable {P : Program} {ops : Array Oper} {Q : Exit → Act → World → Prop} {R : Reg} {D : Nat → Prop} {x x' : Gh} {h h' : Vw} {a a' : Act} {w w' : World} {i : Nat}

theorem op_at {o : Oper} (ho : ops[i]? = some o) : opAt ops i = o := by
  unfold opAt
  rw [List.getD_eq_getElem?_getD, Array.getElem?_toList, ho]; rfl

theorem an_done (hA : chkA R ops = true) {o : Oper} (ho : ops[i]? = some o) (I : Inv R D x h a w) (hd : ∀ k ∈ dirs o, D k) : ∀ k ∈ R.an i, D k := by
  have hlt := (Array.getElem?_eq_some_iff.1 ho).1
  have := List.all_eq_true.1 hA i (List.mem_range.2 hlt)
  simp only [op_at ho, Bool.and_eq_true] at this
  intro k hk
  have hk := List.all_eq_true.1 this.2 k hk
  rcases Bool.or_eq_true_iff.1 hk with g | g
  · exact hd k (by simpa using g)
  · obtain ⟨m, hm, hc⟩ := List.any_eq_true.1 g
    exact I.closed m (hd m hm) k (by simpa using hc)

theorem fm_congr {α β : Type} {f g : α → Option β} : ∀ {l : List α}, (∀ y ∈ l, f y = g y) → l.filterMap f = l.filterMap g
  | [], _ => rfl
  | y :: l, h => by rw [List.filterMap_cons, List.filterMap_cons, h y (by simp), fm_congr (fun z hz => h z (by simp [hz]))]
theorem cur_same {g : Gent} (hg : ∀ p ∈ g.vers, p.1 ≠ i) : cur (fun j => j = i ∨ D j) x g = cur D x g := by
  unfold cur
  obtain ⟨s, vs⟩ := g
  simp only at hg ⊢
  induction vs generalizing s with
  | nil => rfl
  | cons p vs ih =>
    have h0 := hg p (by simp)
    have e : sel (p.1 = i ∨ D p.1) (some (p.2 x)) s = sel (D p.1) (some (p.2 x)) s := by
      by_cases hp : D p.1
      · rw [sel_pos hp, sel_pos (.inr hp)]
      · rw [sel_neg hp, sel_neg (fun k => k.elim h0 hp)]
    rw [List.foldl_cons, List.foldl_cons, e]
    exact ih _ (fun q hq => hg q (by simp [hq]))

theorem cur_at {g : Gent} {A : List Nat} (hs : ∀ p ∈ g.vers, (A.contains p.1 = true ∧ D p.1) ∨ (A.contains p.1 = false ∧ ¬ D p.1)) : cur D x g = curA A x g := by
  unfold cur curA
  obtain ⟨s, vs⟩ := g
  simp only at hs ⊢
  induction vs generalizing s with
  | nil => rfl
  | cons p vs ih =>
    have h0 := hs p (by simp)
    simp only [List.foldl_cons]
    rw [ih _ (fun q hq => hs q (by simp [hq]))]
    congr 1
    rcases h0 with ⟨h1, h2⟩ | ⟨h1, h2⟩
    · rw [sel_pos h2, h1]
    · rw [sel_neg h2, h1]

/-- Each write of the block is ahead of i, or i itself, or waits for i. -/
def sync (R : Reg) (i : Nat) (g : Gent) : Bool := g.vers.all fun p => (R.an i).contains p.1 || p.1 == i || (R.an p.1).contains i

theorem cur_sync {g : Gent} (I : Inv R D x h a w) (hn : ¬ D i) (han : ∀ k ∈ R.an i, D k) (hs : sync R i g = true) : cur D x' g = curA (R.an i) x' g := by
  refine cur_at fun p hp => ?_
  have := List.all_eq_true.1 hs p hp
  simp only [Bool.or_eq_true] at this
  cases hc : (R.an i).contains p.1 with
  | true => exact .inl ⟨rfl, han _ (by simpa using hc)⟩
  | false =>
    refine .inr ⟨rfl, fun hD => ?_⟩
    rw [hc] at this
    rcases this with (g | g) | g
    · cases g
    · have : p.1 = i := by simpa using g
      exact hn (this ▸ hD)
    · exact hn (I.closed _ hD _ (by simpa using g))

theorem BD_split {G : List Gent} {e : Nat} {g : Gent} (hg : G[e]? = some g) : BD G D x = BD (G.take e) D x ++ (cur D x g).toList ++ BD (G.drop (e + 1)) D x := by
  have hlt := (List.getElem?_eq_some_iff.1 hg).1
  have e1 : G = G.take e ++ g :: G.drop (e + 1) := by
    have := List.set_eq_take_append_cons_drop (l := G) (i := e) (a := g)
    rw [if_pos hlt] at this
    rw [← this]
    refine (List.ext_getElem? fun j => ?_)
    rw [List.getElem?_set]
    split
    · subst_vars; rw [hg]
    · rfl
  conv => lhs; rw [e1]
  unfold BD
  rw [List.filterMap_append, List.filterMap_cons]
  cases cur D x g <;> simp

theorem BD_same {G : List Gent} (hG : ∀ g ∈ G, ∀ p ∈ g.vers, p.1 ≠ i) : BD G (fun j => j = i ∨ D j) x = BD G D x := by
  unfold BD
  refine fm_congr fun g hg => cur_same (hG g hg)

/-- Only block e is written by i. -/
def only (R : Reg) (i : Nat) (e : Option Nat) : Bool := R.G.zipIdx.all fun (g, j) => e == some j || g.vers.all fun p => p.1 != i

theorem only_none (hk : only R i none = true) : BD R.G (fun j => j = i ∨ D j) x = BD R.G D x := by
  refine BD_same fun g hg p hp => ?_
  obtain ⟨j, hj⟩ := List.getElem?_of_mem hg
  have := List.all_eq_true.1 hk (g, j) (List.mem_zipIdx_iff_getElem?.2 hj)
  simp only [Bool.or_eq_true] at this
  rcases this with g' | g'
  · cases g'
  · simpa using List.all_eq_true.1 g' p hp
theorem only_some {e : Nat} {g : Gent} (hk : only R i (some e) = true) (hg : R.G[e]? = some g) :
    BD R.G (fun j => j = i ∨ D j) x = BD (R.G.take e) D x ++ (cur (fun j => j = i ∨ D j) x g).toList ++ BD (R.G.drop (e + 1)) D x := by
  have key : ∀ (j : Nat) (g' : Gent), R.G[j]? = some g' → j ≠ e → ∀ p ∈ g'.vers, p.1 ≠ i := by
    intro j g' hj hne p hp
    have := List.all_eq_true.1 hk (g', j) (List.mem_zipIdx_iff_getElem?.2 hj)
    simp only [Bool.or_eq_true] at this
    rcases this with k | k
    · simp at k; exact absurd k.symm hne
    · simpa using List.all_eq_true.1 k p hp
  rw [BD_split hg]
  congr 1
  · congr 1
    refine BD_same fun g' hg' => ?_
    obtain ⟨j, hj⟩ := List.getElem?_of_mem hg'
    rw [List.getElem?_take] at hj
    split at hj
    · exact key j g' hj (by omega)
    · cases hj
  · refine BD_same fun g' hg' => ?_
    obtain ⟨j, hj⟩ := List.getElem?_of_mem hg'
    rw [List.getElem?_drop] at hj
    exact key _ g' hj (by omega)

theorem Inv.next (I : Inv R D x h a w) {o : Oper} (ho : ops[i]? = some o) (hT : chkT R = true) (hA : chkA R ops = true) (hn : ¬ D i) (hd : ∀ k ∈ dirs o, D k)
    (hmem : J R.C [] (BD R.G (fun j => j = i ∨ D j) x') h' a' w') (hs : Sees h h') (hx : ∀ t ∈ R.T, D t.1 → t.2.2 x' = t.2.2 x)
    (hfr : (∃ d f, (i, d, f) ∈ R.T ∧ a' = a.put (some d) (f x')) ∨ (i ∉ R.T.map (·.1) ∧ a' = a)) (hF : ∀ p ∈ R.F, (p.1 = i ∨ D p.1) → p.2 x' h') : Inv R (fun j => j = i ∨ D j) x' h' a' w' := by
  simp only [chkT, Bool.and_eq_true, decide_eq_true_eq] at hT
  obtain ⟨⟨n1, n2⟩, n3⟩ := hT
  have hsz : a.tmps.size = R.C.N := I.mem.size
  refine ⟨fun t ht hD => ?_, ?_, hmem, I.sees.trans hs, hF, fun j hj k hk => ?_⟩
  · rcases hfr with ⟨d, f, hm, rfl⟩ | ⟨hm, rfl⟩
    · by_cases e : t.1 = i
      · have : t = (i, d, f) := nodup_fst (f := fun t : Nat × Nat × (Gh → Value) => t.1) n1 ht hm e
        subst this
        have hlt : Nat.blt d R.C.N = true := List.all_eq_true.1 n3 _ hm
        exact eval_put_same (by rw [hsz]; have := Nat.le_of_ble_eq_true hlt; omega)
      · rw [eval_put_other (fun k => e (by rw [nodup_fst (f := fun t : Nat × Nat × (Gh → Value) => t.2.1) n2 ht hm k.symm]))]
        rw [hx t ht (hD.resolve_left e)]
        exact I.done t ht (hD.resolve_left e)
    · have e : t.1 ≠ i := fun e => hm (List.mem_map.2 ⟨t, ht, e⟩)
      rw [hx t ht (hD.resolve_left e)]
      exact I.done t ht (hD.resolve_left e)
  · rcases hfr with ⟨d, f, hm, rfl⟩ | ⟨hm, rfl⟩
    · intro t v hv hno
      have hdt : d ≠ t := fun k => hno _ hm k (.inl rfl)
      rw [eval_put_other (fun k => hdt (by first | exact k | exact k.symm))]
      exact I.base t v hv (fun q hq e hD => hno q hq e (.inr hD))
    · exact fun t v hv hno => I.base t v hv (fun q hq e hD => hno q hq e (.inr hD))
  · rcases hj with rfl | hj
    · exact .inr (an_done hA ho I hd k hk)
    · exact .inr (I.closed j hj k hk)

/-! ### The region -/
def StepAt' (P : Program) (ops : Array Oper) (Q : Exit → Act → World → Prop) (R : Reg) (i : Nat) : Prop :=
  ∀ (o : Oper) (D : Nat → Prop) (x : Gh) (h : Vw) (a : Act) (w : World), ops[i]? = some o → ¬ D i → (∀ k ∈ dirs o, D k) → Inv R D x h a w → wpOp P ops Q i (fun a' w' => ∃ x h, Inv R (fun j => j = i ∨ D j) x h a' w') a w

theorem cur_all {g : Gent} {n : Nat} (hg : ∀ p ∈ g.vers, p.1 < n) : cur (fun j => j < n) x g = curA (List.range n) x g :=
  cur_at fun p hp => .inl ⟨by simpa using hg p hp, hg p hp⟩

theorem region_sx {id : Nat} {B : List Ent} (hm : P.follows .mixedOrders = true) (R : Reg) (n : Nat) (hJ : J R.C R.E B R.h a w) (hn : ops.size = n) (hT : chkT R = true) (hA : chkA R ops = true)
    (hB : R.G.filterMap (·.start) = B) (hv : (R.G.all fun g => g.vers.all fun p => Nat.blt p.1 n) = true) (hTn : (R.T.all fun t => Nat.blt t.1 n) = true) (hFn : (R.F.all fun t => Nat.blt t.1 n) = true)
    (step : chkT R = true → chkA R ops = true → ∀ i, i < n → StepAt' P ops Q R i)
    (fin : ∀ x h a w, Sees R.h h → J R.C (R.T.map (fun t => (t.2.1, t.2.2 x)) ++ R.E) (R.G.filterMap (curA (List.range n) x)) h a w → (∀ p ∈ R.F, p.2 x h) → Q .normal a w) : (Code.region id ops true).wp P Q a w := by
  have blt : ∀ {a b : Nat}, Nat.blt a b = true → a < b := fun h => by have := Nat.le_of_ble_eq_true h; omega
  refine region_inv hm (fun D a w => ∃ x h, Inv R D x h a w) (fun i o ho e he hb => ?_) ?_ (fun i o D a w ho hn' hd ⟨x, h, I⟩ => ?_) (fun a w ⟨x, h, I⟩ => ?_)
  · have hlt := (Array.getElem?_eq_some_iff.1 ho).1
    have := List.all_eq_true.1 hA i (List.mem_range.2 hlt)
    simp only [op_at ho, Bool.and_eq_true] at this
    exact blt (List.all_eq_true.1 this.1 e.on (List.mem_map.2 ⟨e, List.mem_filter.2 ⟨by simpa using he, hb⟩, rfl⟩))
  · have hc0 : ∀ g : Gent, cur (fun _ => False) (fun _ => undef) g = g.start := by
      intro g
      unfold cur
      generalize g.start = s
      induction g.vers generalizing s with
      | nil => rfl
      | cons p vs ih => rw [List.foldl_cons, sel_neg (fun h => h)]; exact ih s
    have hB0 : BD R.G (fun _ => False) (fun _ => undef) = B := by
      rw [← hB]
      exact fm_congr fun g _ => hc0 g
    have hl : Low [] w w.drew := Low.of_below (Below.refl _ _).drew
    refine ⟨fun _ => undef, _, fun t _ h => h.elim, fun d v hv _ => hJ.fits d v hv, ?_, (hJ.grow hl).sees, fun p _ h => h.elim, fun j h => h.elim⟩
    rw [hB0]
    have := (hJ.grow hl).now
    exact this.to (E' := []) rfl rfl
  · exact step hT hA i (by rw [← hn]; exact (Array.getElem?_eq_some_iff.1 ho).1) o D x h a w ho hn' (fun k hk => by
      obtain ⟨e, he, rfl⟩ := List.mem_map.1 hk
      obtain ⟨h1, h2⟩ := List.mem_filter.1 he
      exact hd e (by simpa using h1) h2) I
  · have hBD : BD R.G (fun j => j < ops.size) x = R.G.filterMap (curA (List.range n) x) := by
      rw [hn]
      exact fm_congr fun g hg => cur_all fun p hp => blt (List.all_eq_true.1 (List.all_eq_true.1 hv g hg) p hp)
    refine fin x h a w I.sees ?_ (fun p hp => I.facts p hp (by rw [hn]; exact blt (List.all_eq_true.1 hFn p hp)))
    rw [← hBD]
    refine ⟨fits_pre' (fun p hp => ?_) (fun d v hv hno => I.base d v hv fun t ht e _ => hno _ (List.mem_map.2 ⟨t, ht, rfl⟩) e), I.mem.size, I.mem.defers, I.mem.low, I.mem.sees, I.mem.ents, I.mem.nodup, I.mem.own, I.mem.badlt⟩
    obtain ⟨t, ht, rfl⟩ := List.mem_map.1 hp
    exact I.done t ht (by rw [hn]; exact blt (List.all_eq_true.1 hTn t ht))

/-! ### Its operations -/
/-- The slots that operation i reads: those at the places dp of T, and what was there ahead of the region. -/
def rdE (R : Reg) (i : Nat) (dp : List Nat) (x : Gh) : List (Nat × Value) := dp.filterMap (fun p => (R.T[p]?).map fun t => (t.2.1, t.2.2 x)) ++ R.E.filter (fun p => R.T.all fun t => !(Nat.beq t.2.1 p.1) || (R.an t.1).contains i || t.1 == i)
def chkD (R : Reg) (ops : Array Oper) (i : Nat) (dp : List Nat) : Bool := dp.all fun p => match R.T[p]? with | some t => (dirs (opAt ops i)).contains t.1 | none => true
/-- Operation i is done: it has no guard, or its guard's value is known. -/
def gOk (R : Reg) (ops : Array Oper) (i : Nat) (dp : List Nat) (x : Gh) (yes : Bool) : Bool :=
  match (opAt ops i).guard with
  | none => yes
  | some (g, b) => match (opAt ops g).dst with
    | some dg => match lookup (rdE R i dp x) dg with
      | some (.bool c) => (c == b) == yes
      | some (.tuple _) => !yes
      | _ => false
    | none => false
/-- Operation i, at place p of T, writes slot d; its operands are known. -/
def okR (R : Reg) (ops : Array Oper) (i d : Nat) (dp : List Nat) (x : Gh) : Bool :=
  chkD R ops i dp && gOk R ops i dp x true && (match (opAt ops i).dst with | some y => Nat.beq y d | none => false) && opsKnown (rdE R i dp x) (opAt ops i)

theorem lookup_filter {q : Nat → Bool} {d : Nat} {v : Value} : ∀ {E : List (Nat × Value)}, lookup (E.filter fun p => q p.1) d = some v → q d = true ∧ lookup E d = some v
  | [], h => by cases h
  | p :: E, h => by
    rw [List.filter_cons] at h
    split at h
    · rename_i hq
      unfold lookup at h ⊢
      split at h
      · rename_i e
        have e' := Nat.eq_of_beq_eq_true e
        subst e'
        exact ⟨hq, h⟩
      · rename_i e
        obtain ⟨h1, h2⟩ := lookup_filter h
        exact ⟨h1, h2⟩
    · rename_i hq
      obtain ⟨h1, h2⟩ := lookup_filter h
      refine ⟨h1, ?_⟩
      unfold lookup
      cases e : Nat.beq p.1 d with
      | true => rw [Nat.eq_of_beq_eq_true e] at hq; exact absurd h1 hq
      | false => exact h2
theorem rd_fits {dp : List Nat} {o : Oper} (ho : ops[i]? = some o) (hc : chkD R ops i dp = true) (I : Inv R D x h a w) (hd : ∀ k ∈ dirs o, D k) (hn : ¬ D i) : Fits (rdE R i dp x) a := by
  refine fits_pre (fun p hp => ?_) (fun d v hv => by
    obtain ⟨h1, h2⟩ := lookup_filter (q := fun s => R.T.all fun t => !(Nat.beq t.2.1 s) || (R.an t.1).contains i || t.1 == i) hv
    refine I.base d v h2 fun t ht e hD => ?_
    have := List.all_eq_true.1 h1 t ht
    rw [e, Nat.beq_refl] at this
    simp only [Bool.not_true, Bool.false_or, Bool.or_eq_true] at this
    rcases this with g | g
    · exact hn (I.closed t.1 hD i (by simpa using g))
    · rw [eq_of_beq g] at hD; exact hn hD)
  obtain ⟨q, hq, e⟩ := List.mem_filterMap.1 hp
  cases ht : R.T[q]? with
  | none => rw [ht] at e; cases e
  | some t =>
    rw [ht] at e
    simp only [Option.map_some, Option.some.injEq] at e
    subst e
    have := List.all_eq_true.1 hc q hq
    rw [ht] at this
    simp only [op_at ho] at this
    exact I.done t (List.mem_of_getElem? ht) (hd _ (by simpa using this))

theorem wanted_tuple {a : Act} {ops : Array Oper} {o : Oper} {g dg : Nat} {want : Bool} {cs : Array Value} (hg : o.guard = some (g, want)) (hd : (ops[g]?).bind (·.dst) = some dg) (h : a.eval (.tmp dg) = .tuple cs) : Region.wanted o (yielded ops a.tmps) = false := by
  have hy : yielded ops a.tmps g = none := by
    unfold yielded
    rw [hd]
    simp only [Act.eval, Array.getD_eq_getD_getElem?] at h
    cases e : a.tmps[dg]? with
    | none => simp [e]
    | some v => rw [e] at h; simp at h; subst h; simp [e]
  simp [Region.wanted, hg, hy]
theorem gOk_wanted {dp : List Nat} {o : Oper} {yes : Bool} (ho : ops[i]? = some o) (hf : Fits (rdE R i dp x) a) (hk : gOk R ops i dp x yes = true) : Region.wanted o (yielded ops a.tmps) = yes := by
  unfold gOk at hk
  rw [op_at ho] at hk
  split at hk
  · rename_i e; simp [Region.wanted, e, hk]
  · rename_i g b e
    split at hk
    · rename_i dg hdg
      split at hk
      · rename_i c hc
        have hgd : (ops[g]?).bind (·.dst) = some dg := by
          cases hg : ops[g]? with
          | none =>
            exfalso
            unfold opAt at hdg
            rw [List.getD_eq_getElem?_getD, Array.getElem?_toList, hg] at hdg
            cases hdg
          | some og => rw [op_at hg] at hdg; exact hdg
        rw [wanted_of e hgd (hf dg _ hc)]
        simpa using hk
      · rename_i cs hc
        have hgd : (ops[g]?).bind (·.dst) = some dg := by
          cases hg : ops[g]? with
          | none =>
            exfalso
            unfold opAt at hdg
            rw [List.getD_eq_getElem?_getD, Array.getElem?_toList, hg] at hdg
            cases hdg
          | some og => rw [op_at hg] at hdg; exact hdg
        rw [wanted_tuple e hgd (hf dg _ hc)]
        cases yes
        · rfl
        · cases hk
      · cases hk
    · cases hk

theorem okR_parts {d : Nat} {dp : List Nat} {o : Oper} (ho : ops[i]? = some o) (hk : okR R ops i d dp x = true) : chkD R ops i dp = true ∧ gOk R ops i dp x true = true ∧ o.dst = some d ∧ opsKnown (rdE R i dp x) o = true := by
  unfold okR at hk
  rw [op_at ho] at hk
  simp only [Bool.and_eq_true] at hk
  obtain ⟨⟨⟨h1, h2⟩, h3⟩, h4⟩ := hk
  refine ⟨h1, h2, ?_, h4⟩
  split at h3
  · rename_i y e; rw [e, Nat.eq_of_beq_eq_true h3]
  · cases h3

theorem J.putN {C : Fx} {B : List Ent} (hJ : J C [] B h a w) (d : Nat) (v : Value) : J C [] B h (a.put (some d) v) w :=
  ⟨fits_nil _, by simpa [Act.put] using hJ.size, hJ.defers, hJ.low, hJ.sees, hJ.ents, hJ.nodup, hJ.own, hJ.badlt⟩

/-- An operation that writes no memory. -/
theorem r_pure (hT : chkT R = true) (hA : chkA R ops = true) (d : Nat) (f : Gh → Value) (dp : List Nat) (p : Nat) (hp : R.T[p]? = some (i, d, f)) (ho : only R i none = true) (hF : (R.F.all fun t => t.1 != i) = true) (hk : ∀ x, okR R ops i d dp x = true)
    (hr : ∀ x w, (execOp (evD (rdE R i dp x)) (opAt ops i)).run P w = .ok (.value (f x)) w) : StepAt' P ops Q R i := by
  intro o D x h a w hio hn hd I
  obtain ⟨h1, h2, h3, h4⟩ := okR_parts hio (hk x)
  refine wpOp_value hio (gOk_wanted hio (rd_fits hio h1 I hd hn) h2) (by rw [run_ev (rd_fits hio h1 I hd hn) h4, ← op_at hio]; exact hr x w) ⟨x, h, ?_⟩
  rw [h3]
  refine I.next hio hT hA hn hd ?_ (Sees.refl _) (fun _ _ _ => rfl) (.inl ⟨d, f, List.mem_of_getElem? hp, rfl⟩) (fun q hq hD => I.facts q hq (hD.resolve_left fun e => ?_))
  · rw [only_none ho]; exact I.mem.putN _ _
  · have := List.all_eq_true.1 hF q hq
    simp [e] at this

/-- A load out of a block of the call's own. -/
theorem r_load (hT : chkT R = true) (hA : chkA R ops = true) (d : Nat) (f : Gh → Value) (dp : List Nat) (p : Nat) (hp : R.T[p]? = some (i, d, f)) (ho : only R i none = true) (hF : (R.F.all fun t => t.1 != i) = true) (hk : ∀ x, okR R ops i d dp x = true)
    (e : Nat) (g : Gent) (hg : R.G[e]? = some g) (hs : sync R i g = true) (b : Gh → Nat) (cs : Gh → List Value) (hc : ∀ x, curA (R.an i) x g = some (.box (b x) (cs x)))
    (t : TypeId) (y : Operand) (off : Nat) (hop : (opAt ops i).op = .load t y) (hy : ∀ x, evE (rdE R i dp x) y = some (.pointer (some ⟨b x, off, none⟩))) (hv : ∀ x, loadsAs P t (cs x) off = some (f x)) : StepAt' P ops Q R i := by
  intro o D x h a w hio hn hd I
  obtain ⟨h1, h2, h3, h4⟩ := okR_parts hio (hk x)
  have hcur := (cur_sync (x' := x) I hn (an_done hA hio I hd) hs).trans (hc x)
  have hm : Ent.box (b x) (cs x) ∈ BD R.G D x := by
    rw [BD_split hg, hcur]; simp
  have hld := run_loads (P := P) (o0 := 0) (off := off) (box_range (I.mem.ents _ hm)) (hv x)
  rw [Nat.zero_add] at hld
  refine wpOp_value hio (gOk_wanted hio (rd_fits hio h1 I hd hn) h2) (v := f x) (w' := w) ?_ ⟨x, h, ?_⟩
  · rw [op_at hio] at hop
    unfold execOp
    simp only [hop, (rd_fits hio h1 I hd hn).ev (hy x), Sem.run_bind, Sem.run_pure, Result.andThen_ok, hld]
  · rw [h3]
    refine I.next hio hT hA hn hd ?_ (Sees.refl _) (fun _ _ _ => rfl) (.inl ⟨d, f, List.mem_of_getElem? hp, rfl⟩) (fun q hq hD => I.facts q hq (hD.resolve_left fun e => ?_))
    · rw [only_none ho]; exact I.mem.putN _ _
    · have := List.all_eq_true.1 hF q hq
      simp [e] at this

/-- A load of cells that are known ahead of the region. -/
theorem r_loadf (hT : chkT R = true) (hA : chkA R ops = true) (d : Nat) (f : Gh → Value) (dp : List Nat) (p : Nat) (hp : R.T[p]? = some (i, d, f)) (ho : only R i none = true) (hF : (R.F.all fun t => t.1 != i) = true) (hk : ∀ x, okR R ops i d dp x = true)
    {g : Vw} {b o0 : Nat} {cs : List Value} (hc : Cells g b o0 cs) (hs : Sees g R.h)
    (t : TypeId) (y : Operand) (off : Nat) (hop : (opAt ops i).op = .load t y) (hy : ∀ x, evE (rdE R i dp x) y = some (.pointer (some ⟨b, o0 + off, none⟩))) (hv : ∀ x, loadsAs P t cs off = some (f x)) : StepAt' P ops Q R i := by
  intro o D x h a w hio hn hd I
  obtain ⟨h1, h2, h3, h4⟩ := okR_parts hio (hk x)
  have hld := run_loads (P := P) (off := off) (hc.sees (hs.trans (I.sees.trans I.mem.sees))).lies (hv x)
  refine wpOp_value hio (gOk_wanted hio (rd_fits hio h1 I hd hn) h2) (v := f x) (w' := w) ?_ ⟨x, h, ?_⟩
  · rw [op_at hio] at hop
    unfold execOp
    simp only [hop, (rd_fits hio h1 I hd hn).ev (hy x), Sem.run_bind, Sem.run_pure, Result.andThen_ok, hld]
  · rw [h3]
    refine I.next hio hT hA hn hd ?_ (Sees.refl _) (fun _ _ _ => rfl) (.inl ⟨d, f, List.mem_of_getElem? hp, rfl⟩) (fun q hq hD => I.facts q hq (hD.resolve_left fun e => ?_))
    · rw [only_none ho]; exact I.mem.putN _ _
    · have := List.all_eq_true.1 hF q hq
      simp [e] at this

/-- A load of cells that were there when the call began. -/
theorem r_loadl (hT : chkT R = true) (hA : chkA R ops = true) (d : Nat) (f : Gh → Value) (dp : List Nat) (p : Nat) (hp : R.T[p]? = some (i, d, f)) (ho : only R i none = true) (hF : (R.F.all fun t => t.1 != i) = true) (hk : ∀ x, okR R ops i d dp x = true)
    {m : List Nat} {b o0 : Nat} {cs : List Value} (hc : Cells ⟨R.C.w0, m⟩ b o0 cs) (hs : ∀ b ∈ R.C.wr, b ∈ m)
    (t : TypeId) (y : Operand) (off : Nat) (hop : (opAt ops i).op = .load t y) (hy : ∀ x, evE (rdE R i dp x) y = some (.pointer (some ⟨b, o0 + off, none⟩))) (hv : ∀ x, loadsAs P t cs off = some (f x)) : StepAt' P ops Q R i := by
  intro o D x h a w hio hn hd I
  obtain ⟨h1, h2, h3, h4⟩ := okR_parts hio (hk x)
  have hld := run_loads (P := P) (off := off) (hc.sees (I.mem.lent hs)).lies (hv x)
  refine wpOp_value hio (gOk_wanted hio (rd_fits hio h1 I hd hn) h2) (v := f x) (w' := w) ?_ ⟨x, h, ?_⟩
  · rw [op_at hio] at hop
    unfold execOp
    simp only [hop, (rd_fits hio h1 I hd hn).ev (hy x), Sem.run_bind, Sem.run_pure, Result.andThen_ok, hld]
  · rw [h3]
    refine I.next hio hT hA hn hd ?_ (Sees.refl _) (fun _ _ _ => rfl) (.inl ⟨d, f, List.mem_of_getElem? hp, rfl⟩) (fun q hq hD => I.facts q hq (hD.resolve_left fun e => ?_))
    · rw [only_none ho]; exact I.mem.putN _ _
    · have := List.all_eq_true.1 hF q hq
      simp [e] at this

/-- A call whose value is known. -/
theorem r_callv (hT : chkT R = true) (hA : chkA R ops = true) (hmono : ∀ q ∈ R.F, ∀ x h h', Sees h h' → q.2 x h → q.2 x h') (d : Nat) (f : Gh → Value) (dp : List Nat) (p : Nat) (hp : R.T[p]? = some (i, d, f)) (ho : only R i none = true) (hF : (R.F.all fun t => t.1 != i) = true) (hk : ∀ x, okR R ops i d dp x = true)
    (k : FuncId) (args : Gh → Array Value) (hr : ∀ x w, (execOp (evD (rdE R i dp x)) (opAt ops i)).run P w = .ok (.enter k (args x)) w)
    (hc : ∀ x H, Sees R.h H → (∀ (j : Nat) (q : Nat × (Gh → Vw → Prop)), R.F[j]? = some q → (R.an i).contains q.1 = true → q.2 x H) → (∀ m, (∀ b ∈ R.C.wr, b ∈ m) → ∃ l, Sees ⟨R.C.w0, m⟩ ⟨H.w, l⟩) → C0 P k (args x) H (fun v _ => v = f x)) : StepAt' P ops Q R i := by
  intro o D x h a w hio hn hd I
  obtain ⟨h1, h2, h3, h4⟩ := okR_parts hio (hk x)
  have han := an_done hA hio I hd
  have hcc := hc x ⟨w, blk (BD R.G D x) ++ R.C.bad0⟩ (I.sees.trans I.mem.sees) (fun j q hq hc => hmono q (List.mem_of_getElem? hq) x _ _ I.mem.sees (I.facts q (List.mem_of_getElem? hq) (han _ (by simpa using hc)))) (fun m hm => ⟨_, I.mem.lent hm⟩)
  refine wpOp_call hio (gOk_wanted hio (rd_fits hio h1 I hd hn) h2) (by rw [run_ev (rd_fits hio h1 I hd hn) h4, ← op_at hio]; exact hr x w) ((hcc (by intro x hx; cases hx) (by simp) (by simp) (bad_lt I.mem)).mono ?_)
  rintro e w' ⟨v, Bo, rfl, hl, -, -, rfl⟩
  obtain ⟨j, s⟩ := I.mem.called hl
  refine ⟨f x, rfl, x, ⟨w', blk (BD R.G D x) ++ R.C.bad0⟩, ?_⟩
  rw [h3]
  refine I.next hio hT hA hn hd ?_ s (fun _ _ _ => rfl) (.inl ⟨d, f, List.mem_of_getElem? hp, rfl⟩) (fun q hq hD => hmono q hq x _ _ s (I.facts q hq (hD.resolve_left fun e => ?_)))
  · rw [only_none ho]; exact j.putN _ _
  · have := List.all_eq_true.1 hF q hq
    simp [e] at this

/-- An operation that is passed over: its guard says so. -/
theorem r_pass (hT : chkT R = true) (hA : chkA R ops = true) (d : Nat) (dp : List Nat) (p : Nat) (hp : R.T[p]? = some (i, d, fun _ => undef)) (ho : only R i none = true) (hF : (R.F.all fun t => t.1 != i) = true)
    (hk : ∀ x, (chkD R ops i dp && gOk R ops i dp x false && (match (opAt ops i).dst with | some y => Nat.beq y d | none => false)) = true) : StepAt' P ops Q R i := by
  intro o D x h a w hio hn hd I
  have hk := hk x
  simp only [Bool.and_eq_true] at hk
  obtain ⟨⟨h1, h2⟩, h3⟩ := hk
  have h3 : o.dst = some d := by
    rw [op_at hio] at h3
    split at h3
    · rename_i y e; rw [e, Nat.eq_of_beq_eq_true h3]
    · cases h3
  refine wpOp_passed hio (gOk_wanted hio (rd_fits hio h1 I hd hn) h2) ⟨x, h, ?_⟩
  rw [h3]
  refine I.next hio hT hA hn hd ?_ (Sees.refl _) (fun _ _ _ => rfl) (.inl ⟨d, _, List.mem_of_getElem? hp, rfl⟩) (fun q hq hD => I.facts q hq (hD.resolve_left fun e => ?_))
  · rw [only_none ho]; exact I.mem.putN _ _
  · have := List.all_eq_true.1 hF q hq
    simp [e] at this

/-! ### Operations that give what is not known ahead -/
/-- What is done, and does not wait for i, does not speak of what i gives. -/
structure Ind (R : Reg) (i : Nat) : Prop where
  t : ∀ (x : Gh) (v : Value), (R.T.filter (fun t => !((R.an t.1).contains i || t.1 == i))).map (fun t => t.2.2 (upd x i v)) = (R.T.filter (fun t => !((R.an t.1).contains i || t.1 == i))).map (fun t => t.2.2 x)
  g : ∀ (x : Gh) (v : Value), R.G.map (fun g => (g.vers.filter (fun t => !((R.an t.1).contains i || t.1 == i))).map (fun t => t.2 (upd x i v))) = R.G.map (fun g => (g.vers.filter (fun t => !((R.an t.1).contains i || t.1 == i))).map (fun t => t.2 x))
  f : ∀ (x : Gh) (v : Value), (R.F.filter (fun t => !((R.an t.1).contains i || t.1 == i))).map (fun t => t.2 (upd x i v)) = (R.F.filter (fun t => !((R.an t.1).contains i || t.1 == i))).map (fun t => t.2 x)

theorem map_at {α β : Type} {f g : α → β} : ∀ {l : List α}, l.map f = l.map g → ∀ y ∈ l, f y = g y
  | [], _, _, hy => by cases hy
  | z :: l, h, y, hy => by
    rw [List.map_cons, List.map_cons, List.cons.injEq] at h
    rcases List.mem_cons.1 hy with rfl | hy
    · exact h.1
    · exact map_at h.2 y hy

theorem free_of (I : Inv R D x h a w) (hn : ¬ D i) {j : Nat} (hD : D j) : (!((R.an j).contains i || j == i)) = true := by
  rw [Bool.not_eq_true', Bool.or_eq_false_iff]
  refine ⟨?_, ?_⟩
  · cases hc : (R.an j).contains i with
    | false => rfl
    | true => exact absurd (I.closed j hD i (by simpa using hc)) hn
  · cases hc : j == i with
    | false => rfl
    | true => exact absurd ((by simpa using hc : j = i) ▸ hD) hn

theorem Ind.at_t (hi : Ind R i) (I : Inv R D x h a w) (hn : ¬ D i) (v : Value) : ∀ t ∈ R.T, D t.1 → t.2.2 (upd x i v) = t.2.2 x := fun t ht hD =>
  map_at (hi.t x v) t (List.mem_filter.2 ⟨ht, free_of I hn hD⟩)
theorem Ind.at_f (hi : Ind R i) (I : Inv R D x h a w) (hn : ¬ D i) (v : Value) : ∀ t ∈ R.F, D t.1 → t.2 (upd x i v) = t.2 x := fun t ht hD =>
  map_at (hi.f x v) t (List.mem_filter.2 ⟨ht, free_of I hn hD⟩)
theorem cur_upd {g : Gent} (v : Value) (hg : ∀ p ∈ g.vers, D p.1 → p.2 (upd x i v) = p.2 x) : cur D (upd x i v) g = cur D x g := by
  unfold cur
  obtain ⟨s, vs⟩ := g
  simp only at hg ⊢
  induction vs generalizing s with
  | nil => rfl
  | cons p vs ih =>
    have e : sel (D p.1) (some (p.2 (upd x i v))) s = sel (D p.1) (some (p.2 x)) s := by
      by_cases hp : D p.1
      · rw [sel_pos hp, sel_pos hp, hg p (by simp) hp]
      · rw [sel_neg hp, sel_neg hp]
    rw [List.foldl_cons, List.foldl_cons, e]
    exact ih _ (fun q hq => hg q (by simp [hq]))
theorem Ind.at_g (hi : Ind R i) (I : Inv R D x h a w) (hn : ¬ D i) (v : Value) (l : List Gent) (hl : ∀ g ∈ l, g ∈ R.G) : BD l D (upd x i v) = BD l D x := by
  unfold BD
  refine fm_congr fun g hg => cur_upd v fun p hp hD => ?_
  have := map_at (hi.g x v) g (hl g hg)
  exact map_at this p (List.mem_filter.2 ⟨hp, free_of I hn hD⟩)

/-- The facts behind an operation that gives v: those that were there, and its own. -/
theorem facts_next (hi : Ind R i) (hmono : ∀ q ∈ R.F, ∀ x h h', Sees h h' → q.2 x h → q.2 x h') (I : Inv R D x h a w) (hn : ¬ D i) (v : Value) (s : Sees h h') (own : ∀ (j : Nat) (q : Nat × (Gh → Vw → Prop)), R.F[j]? = some q → q.1 = i → q.2 (upd x i v) h') :
    ∀ q ∈ R.F, (q.1 = i ∨ D q.1) → q.2 (upd x i v) h' := by
  intro q hq hD
  rcases hD with e | hD
  · obtain ⟨j, hj⟩ := List.getElem?_of_mem hq
    exact own j q hj e
  · rw [hi.at_f I hn v q hq hD]
    exact hmono q hq x _ _ s (I.facts q hq hD)

theorem mem_take {α : Type} {l : List α} {n : Nat} : ∀ g ∈ l.take n, g ∈ l := fun _ h => List.mem_of_mem_take h
theorem mem_drop {α : Type} {l : List α} {n : Nat} : ∀ g ∈ l.drop n, g ∈ l := fun _ h => List.mem_of_mem_drop h

/-- A call that gives what is told by facts alone: F of what is not known. -/
theorem r_call (hT : chkT R = true) (hA : chkA R ops = true) (hmono : ∀ q ∈ R.F, ∀ x h h', Sees h h' → q.2 x h → q.2 x h') (hi : Ind R i) (d : Nat) (F : Value → Value) (dp : List Nat) (p : Nat) (hp : R.T[p]? = some (i, d, fun x => F (x i))) (ho : only R i none = true) (hk : ∀ x, okR R ops i d dp x = true)
    (k : FuncId) (args : Gh → Array Value) (hr : ∀ x w, (execOp (evD (rdE R i dp x)) (opAt ops i)).run P w = .ok (.enter k (args x)) w)
    (hc : ∀ x H, Sees R.h H → (∀ (j : Nat) (q : Nat × (Gh → Vw → Prop)), R.F[j]? = some q → (R.an i).contains q.1 = true → q.2 x H) → (∀ m, (∀ b ∈ R.C.wr, b ∈ m) → ∃ l, Sees ⟨R.C.w0, m⟩ ⟨H.w, l⟩) →
      C0 P k (args x) H (fun v H' => ∃ u, v = F u ∧ ∀ (j : Nat) (q : Nat × (Gh → Vw → Prop)), R.F[j]? = some q → q.1 = i → q.2 (upd x i u) H')) : StepAt' P ops Q R i := by
  intro o D x h a w hio hn hd I
  obtain ⟨h1, h2, h3, h4⟩ := okR_parts hio (hk x)
  have han := an_done hA hio I hd
  have hcc := hc x ⟨w, blk (BD R.G D x) ++ R.C.bad0⟩ (I.sees.trans I.mem.sees) (fun j q hq hc => hmono q (List.mem_of_getElem? hq) x _ _ I.mem.sees (I.facts q (List.mem_of_getElem? hq) (han _ (by simpa using hc)))) (fun m hm => ⟨_, I.mem.lent hm⟩)
  refine wpOp_call hio (gOk_wanted hio (rd_fits hio h1 I hd hn) h2) (by rw [run_ev (rd_fits hio h1 I hd hn) h4, ← op_at hio]; exact hr x w) ((hcc (by intro x hx; cases hx) (by simp) (by simp) (bad_lt I.mem)).mono ?_)
  rintro e w' ⟨v, Bo, rfl, hl, -, -, u, rfl, hv⟩
  obtain ⟨j, s⟩ := I.mem.called hl
  refine ⟨F u, rfl, upd x i u, ⟨w', blk (BD R.G D x) ++ R.C.bad0⟩, ?_⟩
  rw [h3]
  have hself : upd x i u i = u := by simp [upd]
  refine I.next hio hT hA hn hd ?_ s (hi.at_t I hn u) (.inl ⟨d, _, List.mem_of_getElem? hp, by simp only [hself]⟩) (facts_next hi hmono I hn u s hv)
  rw [only_none ho, hi.at_g I hn u _ (fun _ h => h)]
  exact j.putN _ _

theorem at_next (I : Inv R D x h a w) (hn : ¬ D i) (han : ∀ k ∈ R.an i, D k) {g : Gent} (hs : sync R i g = true) (x' : Gh) : cur (fun j => j = i ∨ D j) x' g = curA (i :: R.an i) x' g := by
  refine cur_at fun p hp => ?_
  have := List.all_eq_true.1 hs p hp
  simp only [Bool.or_eq_true] at this
  by_cases hpi : p.1 = i
  · exact .inl ⟨by simp [hpi], .inl hpi⟩
  · cases hc : (R.an i).contains p.1 with
    | true => exact .inl ⟨by simp only [List.contains_cons, hc, Bool.or_true], .inr (han _ (by simpa using hc))⟩
    | false =>
      refine .inr ⟨by simp only [List.contains_cons, hc, Bool.or_false]; simpa using hpi, fun hD => ?_⟩
      rcases hD with hD | hD
      · exact hpi hD
      · rw [hc] at this
        rcases this with (k | k) | k
        · cases k
        · exact hpi (by simpa using k)
        · exact hn (I.closed _ hD _ (by simpa using k))

/-- A call that writes one block of the caller's. -/
theorem r_call1 (hT : chkT R = true) (hA : chkA R ops = true) (hmono : ∀ q ∈ R.F, ∀ x h h', Sees h h' → q.2 x h → q.2 x h') (hi : Ind R i) (d : Nat) (F : Value → Value) (dp : List Nat) (p : Nat) (hp : R.T[p]? = some (i, d, fun x => F (x i))) (hk : ∀ x, okR R ops i d dp x = true)
    (e : Nat) (g : Gent) (hg : R.G[e]? = some g) (ho : only R i (some e) = true) (hs : sync R i g = true) (b : Nat) (cs cs' : Gh → List Value) (hc0 : ∀ x, curA (R.an i) x g = some (.box b (cs x))) (hc1 : ∀ x, curA (i :: R.an i) x g = some (.box b (cs' x)))
    (k : FuncId) (args : Gh → Array Value) (hr : ∀ x w, (execOp (evD (rdE R i dp x)) (opAt ops i)).run P w = .ok (.enter k (args x)) w)
    (hc : ∀ x H, Sees R.h H → (∀ (j : Nat) (q : Nat × (Gh → Vw → Prop)), R.F[j]? = some q → (R.an i).contains q.1 = true → q.2 x H) → (∀ m, (∀ b ∈ R.C.wr, b ∈ m) → ∃ l, b ∈ l ∧ Sees ⟨R.C.w0, m⟩ ⟨H.w, l⟩) →
      C1 P k (args x) H b (cs x) (fun v c H' => ∃ u, v = F u ∧ c = cs' (upd x i u) ∧ ∀ (j : Nat) (q : Nat × (Gh → Vw → Prop)), R.F[j]? = some q → q.1 = i → q.2 (upd x i u) H')) : StepAt' P ops Q R i := by
  intro o D x h a w hio hn hd I
  obtain ⟨h1, h2, h3, h4⟩ := okR_parts hio (hk x)
  have han := an_done hA hio I hd
  have hcur := (cur_sync (x' := x) I hn han hs).trans (hc0 x)
  have hB0 := BD_split (D := D) (x := x) hg
  rw [hcur] at hB0
  have hB1 : BD R.G D x = BD (R.G.take e) D x ++ .box b (cs x) :: BD (R.G.drop (e + 1)) D x := by rw [hB0]; simp
  have hbm : b ∈ blk (BD R.G D x) := by rw [hB1]; exact List.mem_flatMap.2 ⟨.box b (cs x), by simp, by simp [Ent.blocks]⟩
  have hbi : (BD R.G D x)[(BD (R.G.take e) D x).length]? = some (.box b (cs x)) := by rw [hB1]; simp
  have hbx : Box w b (cs x) := I.mem.ents (.box b (cs x)) (List.mem_of_getElem? hbi)
  have hcc := hc x ⟨w, blk (BD R.G D x) ++ R.C.bad0⟩ (I.sees.trans I.mem.sees) (fun j q hq hc => hmono q (List.mem_of_getElem? hq) x _ _ I.mem.sees (I.facts q (List.mem_of_getElem? hq) (han _ (by simpa using hc)))) (fun m hm => ⟨_, List.mem_append_left _ hbm, I.mem.lent hm⟩)
  refine wpOp_call hio (gOk_wanted hio (rd_fits hio h1 I hd hn) h2) (by rw [run_ev (rd_fits hio h1 I hd hn) h4, ← op_at hio]; exact hr x w) ((hcc (by intro y hy; simp at hy; subst hy; exact hbx) (by simp) (by simp [hbm]) (bad_lt I.mem)).mono ?_)
  rintro e' w' ⟨v, Bo, rfl, hl, hbo, hbn, c, hcs, u, rfl, rfl, hv⟩
  have hBo : Bo = [(b, cs' (upd x i u))] := by
    match Bo, hbn, hcs with
    | [y], hbn, hcs => simp at hbn hcs; obtain ⟨y1, y2⟩ := y; simp at hbn hcs; rw [hbn, hcs]
    | [], hbn, _ => simp at hbn
    | _ :: _ :: _, hbn, _ => simp at hbn
  subst hBo
  obtain ⟨j, s⟩ := I.mem.called1 (cs' := cs' (upd x i u)) hbi (by simpa using hl) (hbo _ (List.mem_singleton.2 rfl))
  refine ⟨F u, rfl, upd x i u, ⟨w', blk (BD R.G D x) ++ R.C.bad0⟩, ?_⟩
  rw [h3]
  have hself : upd x i u i = u := by simp [upd]
  refine I.next hio hT hA hn hd ?_ s (hi.at_t I hn u) (.inl ⟨d, _, List.mem_of_getElem? hp, by simp only [hself]⟩) (facts_next hi hmono I hn u s hv)
  rw [only_some ho hg, at_next I hn han hs, hc1, hi.at_g I hn u _ mem_take, hi.at_g I hn u _ mem_drop]
  have hset : (BD R.G D x).set (BD (R.G.take e) D x).length (.box b (cs' (upd x i u))) = BD (R.G.take e) D x ++ .box b (cs' (upd x i u)) :: BD (R.G.drop (e + 1)) D x := by
    rw [hB1]; simp
  rw [hset] at j
  have := j.putN d (F u)
  simpa using this

/-- A new block that is known, and not to be written. -/
theorem r_fact (hT : chkT R = true) (hA : chkA R ops = true) (hmono : ∀ q ∈ R.F, ∀ x h h', Sees h h' → q.2 x h → q.2 x h') (hi : Ind R i) (d : Nat) (f : Nat → Value) (dp : List Nat) (p : Nat) (hp : R.T[p]? = some (i, d, fun x => f (blkOf (x i)))) (ho : only R i none = true) (hk : ∀ x, okR R ops i d dp x = true)
    (cs : Gh → List Value) (t : TypeId) (hr : ∀ x w, (execOp (evD (rdE R i dp x)) (opAt ops i)).run P w = .ok (.value (f w.heap.size)) (w.alloc (.cells (cs x).toArray t)))
    (hR : ∀ x b H, Cells H b 0 (cs x) → ∀ (j : Nat) (q : Nat × (Gh → Vw → Prop)), R.F[j]? = some q → q.1 = i → q.2 (upd x i (.pointer (some ⟨b, 0, none⟩))) H) : StepAt' P ops Q R i := by
  intro o D x h a w hio hn hd I
  obtain ⟨h1, h2, h3, h4⟩ := okR_parts hio (hk x)
  refine wpOp_value hio (gOk_wanted hio (rd_fits hio h1 I hd hn) h2) (by rw [run_ev (rd_fits hio h1 I hd hn) h4, ← op_at hio]; exact hr x w) ?_
  obtain ⟨h', s, c, j⟩ := I.mem.fact (cs x) t
  refine ⟨upd x i (.pointer (some ⟨w.heap.size, 0, none⟩)), h', ?_⟩
  rw [h3]
  have hself : upd x i (.pointer (some ⟨w.heap.size, 0, none⟩)) i = .pointer (some ⟨w.heap.size, 0, none⟩) := by simp [upd]
  refine I.next hio hT hA hn hd ?_ s (hi.at_t I hn _) (.inl ⟨d, _, List.mem_of_getElem? hp, by simp only [hself, blkOf]⟩) (facts_next hi hmono I hn _ s (hR x _ _ c))
  rw [only_none ho, hi.at_g I hn _ _ (fun _ h => h)]
  exact j.putN _ _

theorem J.perm {C : Fx} {E : List (Nat × Value)} {B B' : List Ent} (hJ : J C E B h a w) (hp : B.Perm B') : J C E B' h a w := by
  have hb : (blk B).Perm (blk B') := hp.flatMap_right _
  refine ⟨hJ.fits, hJ.size, hJ.defers, hJ.low, ⟨hJ.sees.size, hJ.sees.block, fun b hb' hlt => hJ.sees.bad b ?_ hlt⟩, fun e he => hJ.ents e (hp.mem_iff.2 he), hb.nodup_iff.1 hJ.nodup, fun b hb' => hJ.own b (hb.mem_iff.2 hb'), hJ.badlt⟩
  rcases List.mem_append.1 hb' with g | g
  · exact List.mem_append_left _ (hb.mem_iff.2 g)
  · exact List.mem_append_right _ g


/-- A new block of the call's own: a variable. -/
theorem r_alloc (hT : chkT R = true) (hA : chkA R ops = true) (hmono : ∀ q ∈ R.F, ∀ x h h', Sees h h' → q.2 x h → q.2 x h') (hi : Ind R i) (hF : (R.F.all fun t => t.1 != i) = true) (d : Nat) (dp : List Nat) (p : Nat) (hp : R.T[p]? = some (i, d, fun x => .pointer (some ⟨blkOf (x i), 0, none⟩))) (hk : ∀ x, okR R ops i d dp x = true)
    (e : Nat) (g : Gent) (hg : R.G[e]? = some g) (ho : only R i (some e) = true) (hs : sync R i g = true) (cs : Gh → List Value) (hc0 : ∀ x, curA (R.an i) x g = none) (hc1 : ∀ x, curA (i :: R.an i) x g = some (.box (blkOf (x i)) (cs x)))
    (t : TypeId) (hr : ∀ x w, (execOp (evD (rdE R i dp x)) (opAt ops i)).run P w = .ok (.value (.pointer (some ⟨w.heap.size, 0, none⟩))) (w.alloc (.cells (cs x).toArray t))) (hcs : ∀ x v, cs (upd x i v) = cs x) : StepAt' P ops Q R i := by
  intro o D x h a w hio hn hd I
  obtain ⟨h1, h2, h3, h4⟩ := okR_parts hio (hk x)
  have han := an_done hA hio I hd
  refine wpOp_value hio (gOk_wanted hio (rd_fits hio h1 I hd hn) h2) (by rw [run_ev (rd_fits hio h1 I hd hn) h4, ← op_at hio]; exact hr x w) ?_
  have hl : Low [] w (w.alloc (.cells (cs x).toArray t)) := Low.of_below ((Below.refl _ _).alloc (Nat.le_refl _) _)
  have s := (I.mem.grow hl).sees
  have hcur := (cur_sync (x' := x) I hn han hs).trans (hc0 x)
  refine ⟨upd x i (.pointer (some ⟨w.heap.size, 0, none⟩)), ⟨w.alloc (.cells (cs x).toArray t), w.heap.size :: (blk (BD R.G D x) ++ R.C.bad0)⟩, ?_⟩
  rw [h3]
  have hself : upd x i (.pointer (some ⟨w.heap.size, 0, none⟩)) i = .pointer (some ⟨w.heap.size, 0, none⟩) := by simp [upd]
  have hcur1 : cur (fun j => j = i ∨ D j) (upd x i (.pointer (some ⟨w.heap.size, 0, none⟩))) g = some (.box w.heap.size (cs x)) := by
    rw [cur_at (A := i :: R.an i) (fun p hp => ?_), hc1, hself, hcs]; rfl
    have := List.all_eq_true.1 hs p hp
    simp only [Bool.or_eq_true] at this
    by_cases hpi : p.1 = i
    · exact .inl ⟨by simp [hpi], .inl hpi⟩
    · cases hc : (R.an i).contains p.1 with
      | true => exact .inl ⟨by simp only [List.contains_cons, hc, Bool.or_true], .inr (han _ (by simpa using hc))⟩
      | false =>
        refine .inr ⟨by simp only [List.contains_cons, hc, Bool.or_false]; simpa using hpi, fun hD => ?_⟩
        rcases hD with hD | hD
        · exact hpi hD
        · rw [hc] at this
          rcases this with (k | k) | k
          · cases k
          · exact hpi (by simpa using k)
          · exact hn (I.closed _ hD _ (by simpa using k))
  have hnew := (I.mem.new (cs x) t)
  have hBD : BD R.G D x = BD (R.G.take e) D x ++ BD (R.G.drop (e + 1)) D x := by rw [BD_split hg, hcur]; simp
  have hmem : J R.C [] (BD R.G (fun j => j = i ∨ D j) (upd x i (.pointer (some ⟨w.heap.size, 0, none⟩)))) ⟨w.alloc (.cells (cs x).toArray t), w.heap.size :: (blk (BD R.G D x) ++ R.C.bad0)⟩ a (w.alloc (.cells (cs x).toArray t)) := by
    have hn' := hnew.now
    have hsee : Sees (⟨w.alloc (.cells (cs x).toArray t), w.heap.size :: (blk (BD R.G D x) ++ R.C.bad0)⟩ : Vw) ⟨w.alloc (.cells (cs x).toArray t), blk (.box w.heap.size (cs x) :: BD R.G D x) ++ R.C.bad0⟩ := ⟨Nat.le_refl _, fun _ _ _ => rfl, fun b hb _ => by simpa [blk, Ent.blocks] using hb⟩
    have hj : J R.C [] (.box w.heap.size (cs x) :: BD R.G D x) ⟨w.alloc (.cells (cs x).toArray t), w.heap.size :: (blk (BD R.G D x) ++ R.C.bad0)⟩ a (w.alloc (.cells (cs x).toArray t)) :=
      ⟨hn'.fits, hn'.size, hn'.defers, hn'.low, hsee, hn'.ents, hn'.nodup, hn'.own, hn'.badlt⟩
    refine hj.perm ?_
    rw [only_some ho hg, hcur1, hi.at_g I hn _ _ mem_take, hi.at_g I hn _ _ mem_drop, hBD]
    simp only [Option.toList_some, List.append_assoc, List.singleton_append]
    exact List.perm_middle.symm
  have hs2 : Sees h ⟨w.alloc (.cells (cs x).toArray t), w.heap.size :: (blk (BD R.G D x) ++ R.C.bad0)⟩ := by
    refine ⟨s.size, s.block, fun b hb hlt => ?_⟩
    rcases List.mem_cons.1 hb with rfl | hb
    · have := I.mem.sees.size
      simp only at this
      omega
    · exact s.bad b hb hlt
  refine I.next hio hT hA hn hd (hmem.putN _ _) hs2 (hi.at_t I hn _) (.inl ⟨d, _, List.mem_of_getElem? hp, by simp only [hself, blkOf]⟩) (facts_next hi hmono I hn _ hs2 (fun j q hq he => ?_))
  have := List.all_eq_true.1 hF q (List.mem_of_getElem? hq)
  simp [he] at this

/-- append of rows to a row of the call's own. -/
theorem J.appended {C : Fx} {E : List (Nat × Value)} {B1 B2 : List Ent} {v v' : Value} {t : TypeId} {kk : Nat} {l m : List (List Value)} (hJ : J C E (B1 ++ .row v t kk l :: B2) h a w) (hg : w.grownBy w' v.ownBlock) (hw : w'.ownsRow C.w0.heap.size t kk v' (l ++ m).length (l ++ m).flatten) (hk : ∀ r ∈ m, r.length = kk)
    (hb : v'.ownBlock = v.ownBlock ∨ v'.ownBlock = some w.heap.size) : ∃ h', Sees h h' ∧ J C E (B1 ++ .row v' t kk (l ++ m) :: B2) h' a w' := by
  have hvm : ∀ b, v.ownBlock = some b → b ∈ blk (B1 ++ .row v t kk l :: B2) := fun b hb => List.mem_flatMap.2 ⟨.row v t kk l, by simp, by simp [Ent.blocks, hb]⟩
  have hrow := hJ.ents (.row v t kk l) (by simp)
  have hnd := hJ.nodup
  have hblt := blk_lt hJ
  have hbad := bad_lt hJ
  have hown := hJ.own
  have ho : ∀ k, k < w.heap.size → v.ownBlock ≠ some k → w'.heap[k]? = w.heap[k]? := fun k hk hne => hg.block k hk (fun e => hne e.symm)
  have hsub : ∀ b ∈ blk (B1 ++ .row v' t kk (l ++ m) :: B2), b ∈ blk (B1 ++ .row v t kk l :: B2) ∨ b = w.heap.size := by
    intro b hb'
    rw [blk_append] at hb' ⊢
    simp only [blk, List.flatMap_cons, Ent.blocks, List.mem_append] at hb' ⊢
    rcases hb' with k | k | k
    · exact .inl (.inl k)
    · simp only [Option.mem_toList] at k
      rcases hb with e | e
      · exact .inl (.inr (.inl (by simp only [Option.mem_toList]; rw [← e]; exact k)))
      · rw [e] at k; simp at k; exact .inr k.symm
    · exact .inl (.inr (.inr k))
  have hlow : Low C.wr C.w0 w' := ⟨hg.os.trans hJ.low.os, hg.tape.trans hJ.low.tape, hg.output.trans hJ.low.output, Nat.le_trans hJ.low.size hg.size, fun k hk hm => (ho k (Nat.lt_of_lt_of_le hk hJ.low.size) (fun e => by
    rcases hown k (hvm k e) with g | g
    · omega
    · exact hm g)).trans (hJ.low.block k hk hm)⟩
  have hsee : Sees h ⟨w', blk (B1 ++ .row v' t kk (l ++ m) :: B2) ++ C.bad0⟩ := ⟨Nat.le_trans hJ.sees.size hg.size, fun b hb1 hn => (ho b (Nat.lt_of_lt_of_le hb1 hJ.sees.size) (fun e => hn (hJ.sees.bad b (List.mem_append_left _ (hvm b e)) hb1))).trans (hJ.sees.block b hb1 hn), fun b hb1 hlt => by
    rcases List.mem_append.1 hb1 with k | k
    · rcases hsub b k with k | k
      · exact hJ.sees.bad b (List.mem_append_left _ k) hlt
      · have := hJ.sees.size; simp only at this; omega
    · exact hJ.sees.bad b (List.mem_append_right _ k) hlt⟩
  refine ⟨_, hsee, hJ.fits, hJ.size, hJ.defers, hlow, Sees.refl _, fun e he => ?_, ?_, fun b hb1 => ?_, hJ.badlt⟩
  · have key : ∀ e ∈ B1 ++ B2, e.ok C.w0.heap.size w' := by
      intro e he
      have heB : e ∈ B1 ++ .row v t kk l :: B2 := by
        rcases List.mem_append.1 he with g | g
        · exact List.mem_append_left _ g
        · exact List.mem_append_right _ (List.mem_cons_of_mem _ g)
      refine ok_block (hJ.ents e heB) hg.size (fun k hk => ho k (hblt k (List.mem_flatMap.2 ⟨e, heB, hk⟩)) (fun ev => ?_))
      rw [blk_append] at hnd
      simp only [blk, List.flatMap_cons, Ent.blocks, ev, Option.toList_some] at hnd
      rw [List.nodup_append] at hnd
      obtain ⟨n1, n2, n3⟩ := hnd
      rcases List.mem_append.1 he with g | g
      · exact n3 _ (List.mem_flatMap.2 ⟨e, g, hk⟩) _ (by simp) rfl
      · rw [List.singleton_append, List.nodup_cons] at n2
        exact n2.1 (List.mem_flatMap.2 ⟨e, g, hk⟩)
    rcases List.mem_append.1 he with g | g
    · exact key e (List.mem_append_left _ g)
    · rcases List.mem_cons.1 g with rfl | g
      · exact ⟨hw, fun r hr => (List.mem_append.1 hr).elim (hrow.2 r) (hk r)⟩
      · exact key e (List.mem_append_right _ g)
  · rw [blk_append] at hnd ⊢
    simp only [blk, List.flatMap_cons, Ent.blocks] at hnd ⊢
    rcases hb with e | e
    · rw [e]; exact hnd
    · rw [e]
      have hfresh : ∀ e' ∈ B1 ++ B2, w.heap.size ∉ e'.blocks := fun e' he' hm => by
        have : e' ∈ B1 ++ .row v t kk l :: B2 := by
          rcases List.mem_append.1 he' with g | g
          · exact List.mem_append_left _ g
          · exact List.mem_append_right _ (List.mem_cons_of_mem _ g)
        have := hblt _ (List.mem_flatMap.2 ⟨e', this, hm⟩)
        omega
      rw [List.nodup_append] at hnd ⊢
      obtain ⟨n1, n2, n3⟩ := hnd
      rw [List.nodup_append] at n2
      obtain ⟨m1, m2, m3⟩ := n2
      refine ⟨n1, ?_, fun b hb1 c hc1 => ?_⟩
      · simp only [Option.toList_some, List.singleton_append, List.nodup_cons]
        refine ⟨fun hm => ?_, m2⟩
        obtain ⟨e', he', hm⟩ := List.mem_flatMap.1 hm
        exact hfresh e' (List.mem_append_right _ he') hm
      · simp only [Option.toList_some, List.singleton_append, List.mem_cons] at hc1
        rcases hc1 with rfl | hc1
        · rintro rfl
          obtain ⟨e', he', hm⟩ := List.mem_flatMap.1 hb1
          exact hfresh e' (List.mem_append_left _ he') hm
        · exact n3 b hb1 c (List.mem_append_right _ hc1)
  · rcases hsub b hb1 with k | k
    · exact hown b k
    · exact .inl (by rw [k]; exact hJ.low.size)

theorem flat_size {kk : Nat} : ∀ (l : List (List Value)), (∀ r ∈ l, r.length = kk) → l.flatten.length = l.length * kk
  | [], _ => by simp
  | y :: l, hl => by
    rw [List.flatten_cons, List.length_append, flat_size l (fun r hr => hl r (by simp [hr])), hl y (by simp), List.length_cons, Nat.succ_mul]; omega

theorem run_append_at {base : Nat} {v : Value} {t e : TypeId} {kk bytes m c : Nat} {z : Value} {l ns : List (List Value)} {g : Nat} (ht : P.underlying t = some (.slice e)) (hi : (P.info? e).map (fun i => (i.zero, i.size, i.bytes)) = some (some z, kk, bytes)) (hz : z.cells.size = kk) (hk0 : 0 < kk)
    (hown : w.ownsRow base e kk v l.length l.flatten) (hnews : w.rangeAt g 0 ns.flatten) (hns : ∀ r ∈ ns, r.length = kk) (hm : ns.length = m) (h1 : ns.flatten.all (·.oneCell') = true) (hlen : (l.length + m) * bytes ≤ 140737488355328) (hlen2 : l.length + m ≤ maxLen) (hb : base ≤ w.heap.size) :
    ∃ v' w', (Builtin.append_ #[t, t] t #[v, .slice (some ⟨g, 0, none⟩) m c]).run P w = .ok v' w' ∧ w'.ownsRow base e kk v' (l ++ ns).length (l ++ ns).flatten ∧ w.grownBy w' v.ownBlock ∧ (v'.ownBlock = v.ownBlock ∨ v'.ownBlock = some w.heap.size) := by
  cases hq : P.info? e with
  | none => simp [hq] at hi
  | some i =>
    simp only [hq, Option.map_some, Option.some.injEq, Prod.mk.injEq] at hi
    obtain ⟨hi1, hi2, hi3⟩ := hi
    obtain ⟨v', w', hr, h2, h3, -, h5⟩ := run_append_own_at (P := P) w base t t e i z kk bytes ht hq hi1 hi2 hi3 hz hk0 v l.length l.flatten hown ⟨g, 0, none⟩ m c ns.flatten (by rw [flat_size ns hns, hm]) (fun j u hj => by rw [Addr.add_mid]; exact hnews j u hj) (fun u hu => List.all_eq_true.1 h1 u hu) hlen2 hlen hb
    exact ⟨v', w', hr, by rw [List.length_append, List.flatten_append, hm]; exact h2, h3, h5⟩

def chkRows (kk : Nat) (ns : List (List Value)) (m : Nat) : Bool := Nat.ble 1 kk && ns.all (fun r => Nat.beq r.length kk) && Nat.beq ns.length m && ns.flatten.all (·.oneCell')
theorem chkRows_parts {kk m : Nat} {ns : List (List Value)} (h : chkRows kk ns m = true) : 0 < kk ∧ (∀ r ∈ ns, r.length = kk) ∧ ns.length = m ∧ ns.flatten.all (·.oneCell') = true := by
  simp only [chkRows, Bool.and_eq_true] at h
  obtain ⟨⟨⟨h1, h2⟩, h3⟩, h4⟩ := h
  exact ⟨Nat.le_of_ble_eq_true h1, fun r hr => Nat.eq_of_beq_eq_true (List.all_eq_true.1 h2 r hr), Nat.eq_of_beq_eq_true h3, h4⟩
/-- append, in a plain region. -/
theorem s_append {C : Fx} {E : List (Nat × Value)} {B : List Ent} {rest : List Oper} {o : Oper} {g0 : Vw} (hJ : J C E B h a w) (d i : Nat) {v : Value} {t te : TypeId} {kk : Nat} {l ns : List (List Value)} {b m c : Nat} {y z : Operand} (hk : okOp C E o d = true) (hop : o.op = .call { callee := .builtin .append, args := #[y, z], argTypes := #[t, t] }) (hty : o.type = t)
    (hB : B[i]? = some (.row v te kk l)) (hy : evE E y = some v) (hz : evE E z = some (.slice (some ⟨b, 0, none⟩) m c)) (hc : Cells g0 b 0 ns.flatten) (hs : Sees g0 h)
    (ht : P.underlying t = some (.slice te)) {zv : Value} {bytes : Nat} (hinfo : (P.info? te).map (fun i => (i.zero, i.size, i.bytes)) = some (some zv, kk, bytes)) (hzs : zv.cells.size = kk) (hck : chkRows kk ns m = true)
    (hlen : (l.length + m) * bytes ≤ 140737488355328 ∧ l.length + m ≤ 9223372036854775807) (k : ∀ u h' a w, Sees h h' → J C ((d, .slice (sA u) (sN u) (sC u)) :: E) (B.set i (.row (.slice (sA u) (sN u) (sC u)) te kk (l ++ ns))) h' a w → wpList P ops Q rest a w) : wpList P ops Q (o :: rest) a w := by
  obtain ⟨h1', h2, h3, h4⟩ := okOp_parts hk
  obtain ⟨hk0, hns, hm, h1⟩ := chkRows_parts hck
  have hi := (List.getElem?_eq_some_iff.1 hB).1
  have hset : ∀ x, B.set i x = B.take i ++ x :: B.drop (i + 1) := fun x => by
    have := List.set_eq_take_append_cons_drop (l := B) (i := i) (a := x)
    rwa [if_pos hi] at this
  have hB1 : B = B.take i ++ .row v te kk l :: B.drop (i + 1) := by
    rw [← hset]
    refine (List.ext_getElem? fun j => ?_)
    rw [List.getElem?_set]
    split
    · subst_vars; rw [hB]
    · rfl
  have hmem := hJ
  rw [hB1] at hmem
  have hrow : Ent.ok C.w0.heap.size w (.row v te kk l) := hmem.ents _ (by simp)
  obtain ⟨v', w', hrun, hown, hgr, hob⟩ := run_append_at (P := P) (c := c) ht hinfo hzs hk0 hrow.1 (hc.sees (hs.trans hJ.sees)).lies hns hm h1 hlen.1 (by unfold maxLen; exact hlen.2) hJ.low.size
  obtain ⟨h', s, j⟩ := hmem.appended hgr hown hns hob
  refine wpList_plain h1' fun _ hK => ?_
  unfold Oper.wp execOp
  simp only [hop, resolve, invoke, builtin, Sem.run_bind, Sem.run_pure, Result.andThen_ok, List.map_toArray, List.map_cons, List.map_nil, hJ.fits.ev hy, hJ.fits.ev hz, hty, hrun]
  obtain ⟨A', c', rfl, -, -⟩ := row_form (j.ents (.row v' te kk (l ++ ns)) (by simp))
  refine hK _ _ (k (.slice A' (l ++ ns).length c') h' _ _ s ?_)
  rw [hset]
  exact j.putd _ h2 h3

theorem r_append (hT : chkT R = true) (hA : chkA R ops = true) (hmono : ∀ q ∈ R.F, ∀ x h h', Sees h h' → q.2 x h → q.2 x h') (hi : Ind R i) (hF : (R.F.all fun t => t.1 != i) = true) (d : Nat) (dp : List Nat) (p : Nat) (hp : R.T[p]? = some (i, d, fun x => .slice (sA (x i)) (sN (x i)) (sC (x i)))) (hk : ∀ x, okR R ops i d dp x = true)
    (e : Nat) (g : Gent) (hg : R.G[e]? = some g) (ho : only R i (some e) = true) (hs : sync R i g = true) (v : Gh → Value) (t te : TypeId) (kk : Nat) (l ns : Gh → List (List Value)) (hc0 : ∀ x, curA (R.an i) x g = some (.row (v x) te kk (l x))) (hc1 : ∀ x, curA (i :: R.an i) x g = some (.row (.slice (sA (x i)) (sN (x i)) (sC (x i))) te kk (l x ++ ns x)))
    (hln : ∀ x u, (l (upd x i u), ns (upd x i u)) = (l x, ns x)) (y z : Operand) (hop : (opAt ops i).op = .call { callee := .builtin .append, args := #[y, z], argTypes := #[t, t] }) (hty : (opAt ops i).type = t) (b : Gh → Nat) (m c : Nat) (hy : ∀ x, evE (rdE R i dp x) y = some (v x)) (hz : ∀ x, evE (rdE R i dp x) z = some (.slice (some ⟨b x, 0, none⟩) m c))
    (fk : Nat) (fi : Nat) (ff : Gh → Vw → Prop) (hfk : R.F[fk]? = some (fi, ff)) (hfa : (R.an i).contains fi = true) (hff : ∀ x H, ff x H → Cells H (b x) 0 (ns x).flatten)
    (ht : P.underlying t = some (.slice te)) {zv : Value} {bytes : Nat} (hinfo : (P.info? te).map (fun i => (i.zero, i.size, i.bytes)) = some (some zv, kk, bytes)) (hzs : zv.cells.size = kk) (hck : ∀ x, chkRows kk (ns x) m = true)
    (hlen : ∀ x, ((l x).length + m) * bytes ≤ 140737488355328 ∧ (l x).length + m ≤ 9223372036854775807) : StepAt' P ops Q R i := by
  intro o D x h a w hio hn hd I
  obtain ⟨h1', h2, h3, h4⟩ := okR_parts hio (hk x)
  obtain ⟨hk0, hns, hm, h1⟩ := chkRows_parts (hck x)
  rw [op_at hio] at hop hty
  have han := an_done hA hio I hd
  have hf := rd_fits hio h1' I hd hn
  have hcur := (cur_sync (x' := x) I hn han hs).trans (hc0 x)
  have hB0 := BD_split (D := D) (x := x) hg
  rw [hcur] at hB0
  have hB1 : BD R.G D x = BD (R.G.take e) D x ++ .row (v x) te kk (l x) :: BD (R.G.drop (e + 1)) D x := by rw [hB0]; simp
  have hmem := I.mem
  rw [hB1] at hmem
  have hrow : Ent.ok R.C.w0.heap.size w (.row (v x) te kk (l x)) := hmem.ents _ (by simp)
  have hcell := (hff x h (I.facts _ (List.mem_of_getElem? hfk) (han _ (by simpa using hfa)))).sees I.mem.sees
  obtain ⟨v', w', hrun, hown, hgr, hob⟩ := run_append_at (P := P) (c := c) ht hinfo hzs hk0 hrow.1 hcell.lies hns hm h1 (hlen x).1 (by unfold maxLen; exact (hlen x).2) I.mem.low.size
  obtain ⟨h', s, j⟩ := hmem.appended hgr hown hns hob
  obtain ⟨A', c', rfl, -, -⟩ := row_form (j.ents (.row v' te kk (l x ++ ns x)) (by simp))
  generalize hv' : Value.slice A' (l x ++ ns x).length c' = v' at *
  have hsl : Value.slice (sA v') (sN v') (sC v') = v' := by rw [← hv']; rfl
  refine wpOp_value hio (gOk_wanted hio hf h2) (v := v') (w' := w') ?_ ⟨upd x i v', h', ?_⟩
  · unfold execOp
    simp only [hop, resolve, invoke, builtin, Sem.run_bind, Sem.run_pure, Result.andThen_ok, List.map_toArray, List.map_cons, List.map_nil, hf.ev (hy x), hf.ev (hz x), hty, hrun]
  · rw [h3]
    have hself : upd x i v' i = v' := by simp [upd]
    have hl2 := hln x v'
    simp only [Prod.mk.injEq] at hl2
    refine I.next hio hT hA hn hd ?_ s (hi.at_t I hn v') (.inl ⟨d, _, List.mem_of_getElem? hp, by simp only [hself, hsl]⟩) (facts_next hi hmono I hn v' s (fun j q hq he => ?_))
    · rw [only_some ho hg, at_next I hn han hs, hc1, hself, hsl, hi.at_g I hn v' _ mem_take, hi.at_g I hn v' _ mem_drop, hl2.1, hl2.2]
      have := j.putN d v'
      simpa using this
    · have := List.all_eq_true.1 hF q (List.mem_of_getElem? hq)
      simp [he] at this

/-- A store. -/
theorem r_store (hT : chkT R = true) (hA : chkA R ops = true) (dp : List Nat) (hp : (R.T.all fun t => t.1 != i) = true) (hF : (R.F.all fun t => t.1 != i) = true) (hk : ∀ x, (chkD R ops i dp && gOk R ops i dp x true && (opAt ops i).dst.isNone) = true)
    (e : Nat) (g : Gent) (hg : R.G[e]? = some g) (ho : only R i (some e) = true) (hs : sync R i g = true) (b : Gh → Nat) (cs cs' : Gh → List Value) (hc0 : ∀ x, curA (R.an i) x g = some (.box (b x) (cs x))) (hc1 : ∀ x, curA (i :: R.an i) x g = some (.box (b x) (cs' x)))
    (t : TypeId) (y z : Operand) (off : Nat) (v : Gh → Value) (hop : (opAt ops i).op = .store t y z) (hy : ∀ x, evE (rdE R i dp x) y = some (.pointer (some ⟨b x, off, none⟩))) (hz : ∀ x, evE (rdE R i dp x) z = some (v x))
    (hv : ∀ x, storesOk P t (cs x) off (v x) = true) (hcs : ∀ x, putMany (cs x) off (v x).cells.toList = cs' x) : StepAt' P ops Q R i := by
  intro o D x h a w hio hn hd I
  have hk := hk x
  simp only [Bool.and_eq_true] at hk
  obtain ⟨⟨h1, h2⟩, h3⟩ := hk
  rw [op_at hio] at h3 hop
  have h3 : o.dst = none := by simpa using h3
  have han := an_done hA hio I hd
  have hcur := (cur_sync (x' := x) I hn han hs).trans (hc0 x)
  have hf := rd_fits hio h1 I hd hn
  have hB0 := BD_split (D := D) (x := x) hg
  rw [hcur] at hB0
  have hbx : Box w (b x) (cs x) := I.mem.ents (.box (b x) (cs x)) (by rw [hB0]; simp)
  obtain ⟨w', hrun, k1, k2, k3⟩ := run_store_box (P := P) hbx (hv x)
  refine wpOp_skip hio (gOk_wanted hio hf h2) (w' := w') ?_ ⟨x, h, ?_⟩
  · unfold execOp
    simp only [hop, hf.ev (hy x), hf.ev (hz x), Sem.run_bind, Sem.run_pure, Result.andThen_ok, hrun]
  · have hput : a.put o.dst undef = a := by rw [h3]; rfl
    rw [hput]
    have hcur1 : cur (fun j => j = i ∨ D j) x g = some (.box (b x) (cs' x)) := by
      rw [cur_at (A := i :: R.an i) (fun p hp => ?_), hc1]
      have := List.all_eq_true.1 hs p hp
      simp only [Bool.or_eq_true] at this
      by_cases hpi : p.1 = i
      · exact .inl ⟨by simp [hpi], .inl hpi⟩
      · cases hc : (R.an i).contains p.1 with
        | true => exact .inl ⟨by simp only [List.contains_cons, hc, Bool.or_true], .inr (han _ (by simpa using hc))⟩
        | false =>
          refine .inr ⟨by simp only [List.contains_cons, hc, Bool.or_false]; simpa using hpi, fun hD => ?_⟩
          rcases hD with hD | hD
          · exact hpi hD
          · rw [hc] at this
            rcases this with (k | k) | k
            · cases k
            · exact hpi (by simpa using k)
            · exact hn (I.closed _ hD _ (by simpa using k))
    refine I.next hio hT hA hn hd ?_ (Sees.refl _) (fun _ _ _ => rfl) (.inr ⟨fun hm => ?_, rfl⟩) (fun q hq hD => I.facts q hq (hD.resolve_left fun e => ?_))
    · rw [only_some ho hg, hcur1]
      have := I.mem.set (B1 := BD (R.G.take e) D x) (B2 := BD (R.G.drop (e + 1)) D x) (b := b x) (cs := cs x) (cs' := cs' x) (by rw [hB0]; simp) k1 k2 (by rw [← hcs x]; exact k3)
      simpa using this
    · obtain ⟨q, hq, e⟩ := List.mem_map.1 hm
      have := List.all_eq_true.1 hp q hq
      simp [e] at this
    · have := List.all_eq_true.1 hF q hq
      simp [e] at this

/-! ### Guards in a plain region -/
def gKnown (E : List (Nat × Value)) (ops : Array Oper) (o : Oper) : Option Bool :=
  match o.guard with
  | none => some true
  | some (g, b) => match (opAt ops g).dst with
    | some dg => match lookup E dg with
      | some (.bool c) => some (c == b)
      | some (.tuple _) => some false
      | _ => none
    | none => none
theorem gKnown_wanted {E : List (Nat × Value)} {o : Oper} {yes : Bool} (hf : Fits E a) (hk : gKnown E ops o = some yes) : Region.wanted o (yielded ops a.tmps) = yes := by
  unfold gKnown at hk
  split at hk
  · rename_i e; simp only [Option.some.injEq] at hk; subst hk; simp [Region.wanted, e]
  · rename_i g b e
    split at hk
    · rename_i dg hdg
      split at hk
      · rename_i c hc
        have hgd : (ops[g]?).bind (·.dst) = some dg := by
          cases hg : ops[g]? with
          | none =>
            exfalso
            unfold opAt at hdg
            rw [List.getD_eq_getElem?_getD, Array.getElem?_toList, hg] at hdg
            cases hdg
          | some og => rw [op_at hg] at hdg; exact hdg
        rw [wanted_of e hgd (hf dg _ hc)]
        simpa using hk
      · rename_i cs hc
        have hgd : (ops[g]?).bind (·.dst) = some dg := by
          cases hg : ops[g]? with
          | none =>
            exfalso
            unfold opAt at hdg
            rw [List.getD_eq_getElem?_getD, Array.getElem?_toList, hg] at hdg
            cases hdg
          | some og => rw [op_at hg] at hdg; exact hdg
        rw [wanted_tuple e hgd (hf dg _ hc)]
        simpa using hk
      · cases hk
    · cases hk
theorem s_guarded {C : Fx} {E : List (Nat × Value)} {B : List Ent} {rest : List Oper} {o : Oper} (hJ : J C E B h a w) (hk : gKnown E ops o = some true) (k : wpList P ops Q ({ o with guard := none } :: rest) a w) : wpList P ops Q (o :: rest) a w := by
  unfold wpList at k ⊢
  rw [if_pos (gKnown_wanted hJ.fits hk)]
  rw [if_pos (by simp [Region.wanted])] at k
  exact k
theorem s_passed {C : Fx} {E : List (Nat × Value)} {B : List Ent} {rest : List Oper} {o : Oper} (hJ : J C E B h a w) (d : Nat) (hk : gKnown E ops o = some false) (hd : (match o.dst with | some y => Nat.beq y d && Nat.blt d C.N | none => false) = true) (k : ∀ a, J C ((d, undef) :: E) B h a w → wpList P ops Q rest a w) : wpList P ops Q (o :: rest) a w := by
  unfold wpList
  rw [if_neg (by rw [gKnown_wanted hJ.fits hk]; simp)]
  split at hd
  · rename_i y e
    rw [Bool.and_eq_true] at hd
    have h1 := Nat.eq_of_beq_eq_true hd.1
    have h2 := Nat.le_of_ble_eq_true hd.2
    subst h1
    exact k _ (hJ.putd _ e h2)
  · cases hd
theorem J.rew {C : Fx} {E : List (Nat × Value)} {B : List Ent} (hJ : J C E B h a w) (d : Nat) {v v' : Value} (hv : v = v') (hd : lookup E d = some v) : J C ((d, v') :: E) B h a w := by
  subst hv
  refine ⟨fun t u ht => ?_, hJ.size, hJ.defers, hJ.low, hJ.sees, hJ.ents, hJ.nodup, hJ.own, hJ.badlt⟩
  simp only [lookup] at ht
  split at ht
  · rename_i e
    have e := Nat.eq_of_beq_eq_true e
    simp only [Option.some.injEq] at ht
    subst ht e
    exact hJ.fits _ _ hd
  · exact hJ.fits _ _ ht

/-- A contract's facts, as r_call wants them. -/
theorem C0.facts {k : FuncId} {args : Array Value} {H : Vw} {F : Value → Value} {G : Value → Vw → Prop} {f : Gh → Vw → Prop} {n : Nat} (hc : C0 P k args H (fun v H' => ∃ u, v = F u ∧ G u H')) (hk : R.F[n]? = some (i, f)) (ho : (R.F.zipIdx.all fun (p, j) => p.1 != i || j == n) = true) (hG : ∀ u H', G u H' → f (upd x i u) H') :
    C0 P k args H (fun v H' => ∃ u, v = F u ∧ ∀ (j : Nat) (q : Nat × (Gh → Vw → Prop)), R.F[j]? = some q → q.1 = i → q.2 (upd x i u) H') := by
  intro a1 a2 a3 a4
  refine (hc a1 a2 a3 a4).mono ?_
  rintro e w' ⟨v, Bo, h1, h2, h3, h4, u, h5, h6⟩
  refine ⟨v, Bo, h1, h2, h3, h4, u, h5, fun j q hq he => ?_⟩
  have := List.all_eq_true.1 ho (q, j) (List.mem_zipIdx_iff_getElem?.2 hq)
  simp only [he, bne_self_eq_false, Bool.false_or, beq_iff_eq] at this
  subst this
  rw [hk] at hq
  simp only [Option.some.injEq] at hq
  subst hq
  exact hG u _ h6
theorem C1.facts {k : FuncId} {args : Array Value} {H : Vw} {b : Nat} {cs : List Value} {F : Value → Value} {N : Value → List Value} {N' : Gh → List Value} {G : Value → Vw → Prop} {f : Gh → Vw → Prop} {n : Nat} (hc : C1 P k args H b cs (fun v c H' => ∃ u, v = F u ∧ c = N u ∧ G u H')) (hk : R.F[n]? = some (i, f)) (ho : (R.F.zipIdx.all fun (p, j) => p.1 != i || j == n) = true)
    (hN : ∀ u, N u = N' (upd x i u)) (hG : ∀ u H', G u H' → f (upd x i u) H') :
    C1 P k args H b cs (fun v c H' => ∃ u, v = F u ∧ c = N' (upd x i u) ∧ ∀ (j : Nat) (q : Nat × (Gh → Vw → Prop)), R.F[j]? = some q → q.1 = i → q.2 (upd x i u) H') := by
  intro a1 a2 a3 a4
  refine (hc a1 a2 a3 a4).mono ?_
  rintro e w' ⟨v, Bo, h1, h2, h3, h4, cs', h5, u, h6, h7, h8⟩
  refine ⟨v, Bo, h1, h2, h3, h4, cs', h5, u, h6, by rw [h7, hN], fun j q hq he => ?_⟩
  have := List.all_eq_true.1 ho (q, j) (List.mem_zipIdx_iff_getElem?.2 hq)
  simp only [he, bne_self_eq_false, Bool.false_or, beq_iff_eq] at this
  subst this
  rw [hk] at hq
  simp only [Option.some.injEq] at hq
  subst hq
  exact hG u _ h8
/-- .. of a call that gives nothing unknown, and no fact. -/
theorem C1.known {k : FuncId} {args : Array Value} {H : Vw} {b : Nat} {cs cs' : List Value} {v0 : Value} {N' : Gh → List Value} (hc : C1 P k args H b cs (fun v c _ => v = v0 ∧ c = cs')) (ho : (R.F.all fun p => p.1 != i) = true) (hN : ∀ u, cs' = N' (upd x i u)) :
    C1 P k args H b cs (fun v c H' => ∃ u, v = (fun _ => v0) u ∧ c = N' (upd x i u) ∧ ∀ (j : Nat) (q : Nat × (Gh → Vw → Prop)), R.F[j]? = some q → q.1 = i → q.2 (upd x i u) H') := by
  intro a1 a2 a3 a4
  refine (hc a1 a2 a3 a4).mono ?_
  rintro e w' ⟨v, Bo, h1, h2, h3, h4, c, h5, h6, h7⟩
  refine ⟨v, Bo, h1, h2, h3, h4, c, h5, undef, h6, by rw [h7, ← hN], fun j q hq he => ?_⟩
  have := List.all_eq_true.1 ho q (List.mem_of_getElem? hq)
  simp [he] at this

theorem dec_wrap (d : Nat) (h : d < 1000000) : Value.int .i64 (IntKind.i64.wrap (((d + 1 : Nat) : Int) - 1)) = .int .i64 (d : Int) := by
  rw [IntWalk.i64_in _ (by omega)]
  congr 1
  omega

/-! ### Contracts of the elder form -/
theorem C0.of_same {k : FuncId} {args : Array Value} {v : Value} (hc : ∀ w, Calls P k args w fun e w' => e = .returned v ∧ w = w') (h : Vw) : C0 P k args h (fun v' _ => v' = v) := by
  intro _ _ _ _
  refine (hc h.w).mono ?_
  rintro e w' ⟨rfl, rfl⟩
  exact ⟨v, [], rfl, Low.refl _ _, (fun x hx => by cases hx), rfl, rfl⟩
theorem C0.of_gives {k : FuncId} {args : Array Value} {v : Value} (hc : ∀ w, Calls P k args w (Gives v w)) (h : Vw) : C0 P k args h (fun v' _ => v' = v) := by
  intro _ _ _ _
  refine (hc h.w).mono ?_
  rintro e w' ⟨rfl, hb⟩
  exact ⟨v, [], rfl, Low.of_below hb, (fun x hx => by cases hx), rfl, rfl⟩
theorem C0.mono {k : FuncId} {args : Array Value} {R R' : Value → Vw → Prop} (hc : C0 P k args h R) (hr : ∀ v h', Sees h h' → R v h' → R' v h') : C0 P k args h R' := by
  intro a1 a2 a3 a4
  refine (hc a1 a2 a3 a4).mono ?_
  rintro e w' ⟨v, Bo, h1, h2, h3, h4, h5⟩
  exact ⟨v, Bo, h1, h2, h3, h4, hr v _ ⟨h2.size, fun b hb _ => h2.block b hb (by simp), fun b hb _ => hb⟩ h5⟩

theorem Reg.fact {f : Gh → Vw → Prop} (hF : ∀ p ∈ R.F, p.2 x h) (k : Nat) (hk : R.F[k]? = some (i, f)) : f x h := hF (i, f) (List.mem_of_getElem? hk)
theorem own_fact {k : Nat} {f : Gh → Vw → Prop} (hk : R.F[k]? = some (i, f)) (ho : (R.F.zipIdx.all fun (p, j) => p.1 != i || j == k) = true) (c : f x h) (j : Nat) (q : Nat × (Gh → Vw → Prop)) (hq : R.F[j]? = some q) (he : q.1 = i) : q.2 x h := by
  have := List.all_eq_true.1 ho (q, j) (List.mem_zipIdx_iff_getElem?.2 hq)
  simp only [he, bne_self_eq_false, Bool.false_or, beq_iff_eq] at this
  subst this
  rw [hk] at hq
  simp only [Option.some.injEq] at hq
  subst hq
  exact c
theorem mono_nil : ∀ q ∈ ([] : List (Nat × (Gh → Vw → Prop))), ∀ x h h', Sees h h' → q.2 x h → q.2 x h' := fun _ h => by cases h
theorem mono_cons {q : Nat × (Gh → Vw → Prop)} {l : List (Nat × (Gh → Vw → Prop))} (h : ∀ x h h', Sees h h' → q.2 x h → q.2 x h') (k : ∀ q ∈ l, ∀ x h h', Sees h h' → q.2 x h → q.2 x h') : ∀ p ∈ q :: l, ∀ x h h', Sees h h' → p.2 x h → p.2 x h' := fun p hp => by
  rcases List.mem_cons.1 hp with rfl | hp
  · exact h
  · exact k p hp
end

end Go.Proofs.Ytgjndkphfabnnaa
