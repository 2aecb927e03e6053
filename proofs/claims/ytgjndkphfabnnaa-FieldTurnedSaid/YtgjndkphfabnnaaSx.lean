/-
  A walk by certificates: the frame as a list of slots that are known, the memory of the call's own as a list of blocks, all else through views that only grow. Over any program.
-/
import Derived.Test.YtgjndkphfabnnaaOwn
import Derived.Orders
import Derived.Deep.MidRow
namespace Go.Proofs.Ytgjndkphfabnnaa
open Go.RowKit

/-! ### Views -/
/-- A world, and the blocks of it that facts keep clear of. -/
structure Vw where
  w : World
  bad : List Nat

/-- What lay in h, clear of its bad blocks, lies in h', and is clear of the bad blocks of h'. -/
structure Sees (h h' : Vw) : Prop where
  size : h.w.heap.size ≤ h'.w.heap.size
  block : ∀ b, b < h.w.heap.size → b ∉ h.bad → h'.w.heap[b]? = h.w.heap[b]?
  bad : ∀ b, b ∈ h'.bad → b < h.w.heap.size → b ∈ h.bad

theorem Sees.refl (h : Vw) : Sees h h := ⟨Nat.le_refl _, fun _ _ _ => rfl, fun _ hb _ => hb⟩
theorem Sees.trans {h h' h'' : Vw} (s : Sees h h') (t : Sees h' h'') : Sees h h'' :=
  ⟨Nat.le_trans s.size t.size, fun b hb hn => (t.block b (Nat.lt_of_lt_of_le hb s.size) (fun k => hn (s.bad b k hb))).trans (s.block b hb hn),
   fun b hb hl => s.bad b (t.bad b hb (Nat.lt_of_lt_of_le hl s.size)) hl⟩
theorem Sees.less {h h' : Vw} (s : Sees h h') {l : List Nat} (hl : ∀ b ∈ l, b ∈ h'.bad) : Sees h ⟨h'.w, l⟩ :=
  ⟨s.size, s.block, fun b hb hlt => s.bad b (hl b hb) hlt⟩

/-- The cells cs lie in block b from o on. -/
structure Cells (h : Vw) (b o : Nat) (cs : List Value) : Prop where
  lt : b < h.w.heap.size
  ok : b ∉ h.bad
  lies : h.w.rangeAt b o cs

theorem range_of_block {w w' : World} {b o : Nat} {cs : List Value} (e : w'.heap[b]? = w.heap[b]?) (h : w.rangeAt b o cs) : w'.rangeAt b o cs := fun j v hv =>
  (World.cell?_of_block (w := w) (a := ⟨b, o + j, none⟩) e).trans (h j v hv)
theorem Cells.sees {h h' : Vw} {b o : Nat} {cs : List Value} (c : Cells h b o cs) (s : Sees h h') : Cells h' b o cs :=
  ⟨Nat.lt_of_lt_of_le c.lt s.size, fun k => c.ok (s.bad b k c.lt), range_of_block (s.block b c.lt c.ok) c.lies⟩

/-- The slice v holds the rows l of k cells each. -/
def RS (h : Vw) (k : Nat) (v : Value) (l : List (List Value)) : Prop :=
  (∃ A cap, v = .slice A 0 cap ∧ (A = none → cap = 0) ∧ cap ≤ maxLen ∧ l = []) ∨ ∃ b off cap, v = .slice (some ⟨b, off, none⟩) l.length cap ∧ l.length ≤ cap ∧ cap ≤ maxLen ∧ b < h.w.heap.size ∧ b ∉ h.bad ∧
    ∀ i r, l[i]? = some r → h.w.rangeAt b (off + i * k) r

theorem RS.nil (h : Vw) (k : Nat) : RS h k (.slice none 0 0) [] := .inl ⟨none, 0, rfl, fun _ => rfl, Nat.zero_le _, rfl⟩
theorem RS.sees {h h' : Vw} {k : Nat} {v : Value} {l : List (List Value)} (r : RS h k v l) (s : Sees h h') : RS h' k v l := by
  rcases r with r | ⟨b, off, cap, e, h1, h2, hb, hn, hc⟩
  · exact .inl r
  · exact .inr ⟨b, off, cap, e, h1, h2, Nat.lt_of_lt_of_le hb s.size, fun q => hn (s.bad b q hb), fun i r hi => range_of_block (s.block b hb hn) (hc i r hi)⟩
theorem RS.form {h : Vw} {k : Nat} {v : Value} {l : List (List Value)} (r : RS h k v l) : ∃ A cap, v = .slice A l.length cap ∧ l.length ≤ cap ∧ cap ≤ maxLen ∧ (A = none → cap = 0) := by
  rcases r with ⟨A, cap, rfl, hA, hm, rfl⟩ | ⟨b, off, cap, e, h1, h2, hb, hc⟩
  · exact ⟨A, cap, rfl, Nat.zero_le _, hm, hA⟩
  · exact ⟨_, cap, e, h1, h2, fun k => by cases k⟩
/-- Its element i. -/
theorem RS.row {h : Vw} {k : Nat} {A : Option Addr} {n cap : Nat} {l : List (List Value)} (r : RS h k (.slice A n cap) l) {i : Nat} {x : List Value} (hi : l[i]? = some x) :
    ∃ b off, A = some ⟨b, off, none⟩ ∧ n = l.length ∧ Cells h b (off + i * k) x := by
  rcases r with ⟨_, _, _, _, _, rfl⟩ | ⟨b, off, cap', e, h1, h2, hb, hn, hc⟩
  · simp at hi
  · simp only [Value.slice.injEq] at e
    obtain ⟨rfl, rfl, -⟩ := e
    exact ⟨b, off, rfl, rfl, hb, hn, hc i x hi⟩
theorem RS.take {h : Vw} {k : Nat} {A : Option Addr} {n cap : Nat} {l : List (List Value)} (r : RS h k (.slice A n cap) l) (i : Nat) (hi : i ≤ l.length) : RS h k (.slice A i cap) (l.take i) := by
  rcases r with ⟨A', cap', e, hA, hm, rfl⟩ | ⟨b, off, cap', e, h1, h2, hb, hn, hc⟩
  · simp only [Value.slice.injEq] at e
    obtain ⟨rfl, rfl, rfl⟩ := e
    have : i = 0 := by simpa using hi
    subst this
    exact .inl ⟨A, cap, rfl, hA, hm, rfl⟩
  · simp only [Value.slice.injEq] at e
    obtain ⟨rfl, rfl, rfl⟩ := e
    have hl : (l.take i).length = i := by rw [List.length_take]; omega
    refine .inr ⟨b, off, cap, by rw [hl], by omega, h2, hb, hn, fun j r hj => hc j r ?_⟩
    rw [List.getElem?_take] at hj
    split at hj
    · exact hj
    · cases hj
theorem RS.drop {h : Vw} {k : Nat} {A : Option Addr} {n cap : Nat} {l : List (List Value)} (r : RS h k (.slice A n cap) l) (i : Nat) (hi : i ≤ l.length) :
    RS h k (.slice (if cap = i then A else A.map (·.add (i * k))) (n - i) (cap - i)) (l.drop i) := by
  rcases r with ⟨A', cap', e, hA, hm, rfl⟩ | ⟨b, off, cap', e, h1, h2, hb, hn, hc⟩
  · simp only [Value.slice.injEq] at e
    obtain ⟨rfl, rfl, rfl⟩ := e
    have : i = 0 := by simpa using hi
    subst this
    refine .inl ⟨A, cap, ?_, hA, hm, rfl⟩
    have ha : A.map (·.add (0 * k)) = A := by cases A <;> simp [Addr.add]
    rw [ha]; simp
  · simp only [Value.slice.injEq] at e
    obtain ⟨rfl, rfl, rfl⟩ := e
    have hl : (l.drop i).length = l.length - i := List.length_drop
    have h2' : cap - i ≤ maxLen := by omega
    by_cases hci : cap = i
    · rw [if_pos hci]
      refine .inr ⟨b, off, cap - i, by rw [hl], by omega, h2', hb, hn, fun j r hj => ?_⟩
      rw [List.drop_eq_nil_of_le (by omega)] at hj
      simp at hj
    · rw [if_neg hci]
      refine .inr ⟨b, off + i * k, cap - i, ?_, by omega, h2', hb, hn, fun j r hj => ?_⟩
      · rw [hl]
        unfold Addr.add
        by_cases h0 : i * k = 0
        · simp [h0]
        · simp [h0]
      · rw [List.getElem?_drop] at hj
        have := hc (i + j) r hj
        rwa [show off + i * k + j * k = off + (i + j) * k by rw [Nat.add_mul]; omega]

/-! ### Blocks of the call's own -/
/-- A block of the call's own (or one that was handed in to be written), or a row that it appends to. -/
inductive Ent where
  | box (b : Nat) (cs : List Value)
  | row (v : Value) (e : TypeId) (k : Nat) (l : List (List Value))
  | map (b : Nat) (es : List (Value × Value))

/-- The entries of a map into which the pairs es were put one after the other, each a new one. -/
def ments (es : List (Value × Value)) : List MapEntry := es.zipIdx.map fun p => ⟨p.1.1, p.1.2, p.2⟩
def mapObj (es : List (Value × Value)) : Obj := .map (ments es).toArray es.length
def Ent.blocks : Ent → List Nat
  | .box b _ => [b]
  | .row v _ _ _ => v.ownBlock.toList
  | .map b _ => [b]
def Ent.ok (base : Nat) (w : World) : Ent → Prop
  | .box b cs => Box w b cs
  | .row v e k l => w.ownsRow base e k v l.length l.flatten ∧ ∀ r ∈ l, r.length = k
  | .map b es => w.heap[b]? = some (mapObj es)
def blk (B : List Ent) : List Nat := B.flatMap Ent.blocks

/-- Below its end w' is as w, but for the blocks m. -/
structure Low (m : List Nat) (w w' : World) : Prop where
  os : w'.os = w.os
  tape : w'.tape = w.tape
  output : w'.output = w.output
  size : w.heap.size ≤ w'.heap.size
  block : ∀ k, k < w.heap.size → k ∉ m → w'.heap[k]? = w.heap[k]?

theorem Low.refl (m : List Nat) (w : World) : Low m w w := ⟨rfl, rfl, rfl, Nat.le_refl _, fun _ _ _ => rfl⟩
theorem Low.below {w w' : World} (h : Low [] w w') : Below w.heap.size w w' := ⟨h.os, h.tape, h.output, h.size, fun k hk => h.block k hk (by simp)⟩
theorem Low.of_below {w w' : World} {m : List Nat} (h : Below w.heap.size w w') : Low m w w' := ⟨h.os, h.tape, h.output, h.size, fun k hk _ => h.block k hk⟩

/-! ### The frame -/
def lookup : List (Nat × Value) → Nat → Option Value
  | [], _ => none
  | p :: E, d => match Nat.beq p.1 d with
    | true => some p.2
    | false => lookup E d
def evE (E : List (Nat × Value)) : Operand → Option Value
  | .tmp t => lookup E t
  | .const v => some v
  | .global g => some (.pointer (some ⟨g, 0, none⟩))
  | .func f => some (.func (.func f) #[] #[])
def evD (E : List (Nat × Value)) (x : Operand) : Value := (evE E x).getD undef
/-- The frame a holds what E says. -/
def Fits (E : List (Nat × Value)) (a : Act) : Prop := ∀ d v, lookup E d = some v → a.eval (.tmp d) = v

theorem Fits.ev {E : List (Nat × Value)} {a : Act} (h : Fits E a) {x : Operand} {v : Value} (hx : evE E x = some v) : a.eval x = v := by
  cases x with
  | tmp t => exact h t v hx
  | const u => simpa [evE, Act.eval] using hx
  | global g => simpa [evE, Act.eval] using hx
  | func f => simpa [evE, Act.eval] using hx
theorem Fits.put {E : List (Nat × Value)} {a : Act} (h : Fits E a) {d : Nat} (v : Value) (hd : d < a.tmps.size) : Fits ((d, v) :: E) (a.put (some d) v) := by
  intro t u ht
  simp only [lookup] at ht
  split at ht
  · rename_i e
    have e := Nat.eq_of_beq_eq_true e
    simp only [Option.some.injEq] at ht
    subst ht e
    exact eval_put_same hd
  · rename_i e
    have e := Nat.ne_of_beq_eq_false e
    rw [eval_put_other e]
    exact h t u ht
/-- Fewer slots. -/
theorem Fits.to {E E' : List (Nat × Value)} {a : Act} (h : Fits E a) (hE : E'.map (fun p => lookup E p.1) = E'.map (fun p => some p.2)) : Fits E' a := by
  induction E' with
  | nil => intro d v hv; simp [lookup] at hv
  | cons p E' ih =>
    rw [List.map_cons, List.map_cons, List.cons.injEq] at hE
    intro d v hv
    simp only [lookup] at hv
    split at hv
    · rename_i e
      have e := Nat.eq_of_beq_eq_true e
      simp only [Option.some.injEq] at hv
      subst hv e
      exact h _ _ hE.1
    · exact ih hE.2 d v hv

/-! ### The state -/
structure Fx where
  N : Nat
  w0 : World
  bad0 : List Nat
  wr : List Nat

structure J (C : Fx) (E : List (Nat × Value)) (B : List Ent) (h : Vw) (a : Act) (w : World) : Prop where
  fits : Fits E a
  size : a.tmps.size = C.N
  defers : a.defers = []
  low : Low C.wr C.w0 w
  sees : Sees h ⟨w, blk B ++ C.bad0⟩
  ents : ∀ e ∈ B, e.ok C.w0.heap.size w
  nodup : (blk B).Nodup
  own : ∀ b ∈ blk B, C.w0.heap.size ≤ b ∨ b ∈ C.wr
  badlt : ∀ b ∈ C.bad0, b < C.w0.heap.size

section
variable {C : Fx} {E E' : List (Nat × Value)} {B B' : List Ent} {h h' : Vw} {a a' : Act} {w w' : World}

theorem blk_lt (hJ : J C E B h a w) : ∀ b ∈ blk B, b < w.heap.size := by
  intro b hb
  obtain ⟨e, he, hb⟩ := List.mem_flatMap.1 hb
  have := hJ.ents e he
  cases e with
  | box g cs => simp [Ent.blocks] at hb; subst hb; exact this.lt
  | row v t k l => 
    simp only [Ent.blocks, Option.mem_toList] at hb
    exact (this.1.lt _ hb).2
  | map g es => simp [Ent.blocks] at hb; subst hb; exact (Array.getElem?_eq_some_iff.1 this).1
theorem bad_lt (hJ : J C E B h a w) : ∀ b ∈ blk B ++ C.bad0, b < w.heap.size := by
  intro b hb
  rcases List.mem_append.1 hb with k | k
  · exact blk_lt hJ b k
  · exact Nat.lt_of_lt_of_le (hJ.badlt b k) hJ.low.size
/-- What is known of the view holds in the world as one who called sees it. -/
theorem J.out (hJ : J C E B h a w) : Sees h ⟨w, C.bad0⟩ := hJ.sees.less fun _ hb => List.mem_append_right _ hb
theorem J.to (hJ : J C E B h a w) (hE : E'.map (fun p => lookup E p.1) = E'.map (fun p => some p.2)) (hB : B' = B) : J C E' B' h a w := by
  subst hB
  exact ⟨hJ.fits.to hE, hJ.size, hJ.defers, hJ.low, hJ.sees, hJ.ents, hJ.nodup, hJ.own, hJ.badlt⟩
theorem J.put (hJ : J C E B h a w) {d : Nat} (v : Value) (hd : d < C.N) : J C ((d, v) :: E) B h (a.put (some d) v) w :=
  ⟨hJ.fits.put v (by rw [hJ.size]; exact hd), by simpa [Act.put] using hJ.size, hJ.defers, hJ.low, hJ.sees, hJ.ents, hJ.nodup, hJ.own, hJ.badlt⟩
/-- The view is brought up to now. -/
theorem J.now (hJ : J C E B h a w) : J C E B ⟨w, blk B ++ C.bad0⟩ a w :=
  ⟨hJ.fits, hJ.size, hJ.defers, hJ.low, Sees.refl _, hJ.ents, hJ.nodup, hJ.own, hJ.badlt⟩

/-- What was there when the call began, clear of the blocks m (and so of those that may be written), is there now. -/
theorem J.lent (hJ : J C E B h a w) {m : List Nat} (hm : ∀ b ∈ C.wr, b ∈ m) : Sees ⟨C.w0, m⟩ ⟨w, blk B ++ m⟩ := by
  refine ⟨hJ.low.size, fun b hb hn => hJ.low.block b hb (fun k => hn (hm b k)), fun b hb hlt => ?_⟩
  rcases List.mem_append.1 hb with k | k
  · rcases hJ.own b k with g | g
    · exact absurd hlt (by simp only; omega)
    · exact hm b g
  · exact k
/-- A row of the call's own, as one who called sees it. -/
theorem row_rs {base : Nat} {v : Value} {e : TypeId} {k : Nat} {l : List (List Value)} (hr : Ent.ok base w (.row v e k l)) {m : List Nat} (hm : ∀ b, v.ownBlock = some b → b ∉ m) : RS ⟨w, m⟩ k v l := by
  obtain ⟨hw, hk⟩ := hr
  rcases hw.2 with ⟨rfl, h0⟩ | ⟨g, cap, cur, rfl, hb, hg, hn, hm', hs, ht⟩
  · have : l = [] := List.length_eq_zero_iff.1 h0
    subst this
    exact .inl ⟨none, 0, rfl, fun _ => rfl, Nat.zero_le _, rfl⟩
  · refine .inr ⟨g, 0, cap, rfl, hn, hm', (Array.getElem?_eq_some_iff.1 hg).1, hm g rfl, fun i r hi j u hj => ?_⟩
    have hf := flat_get l hk i r j u hi hj
    have := hw.cells (g := g) rfl (i * k + j) u hf
    rw [show ((⟨g, 0, none⟩ : Addr).add (i * k + j)) = ⟨g, 0 + i * k + j, none⟩ from by unfold Addr.add; split <;> simp_all <;> omega] at this
    exact this
theorem J.rowOut0 (hJ : J C E B h a w) (i : Nat) {v : Value} {e : TypeId} {k : Nat} {l : List (List Value)} (hB : B[i]? = some (.row v e k l)) (hC : C.wr = []) : RS ⟨w, C.bad0⟩ k v l := by
  have hm := List.mem_of_getElem? hB
  refine row_rs (hJ.ents _ hm) fun b hb hbad => ?_
  rcases hJ.own b (List.mem_flatMap.2 ⟨_, hm, by simp [Ent.blocks, hb]⟩) with g | g
  · have := hJ.badlt b hbad; omega
  · rw [hC] at g; cases g
theorem ent_apart {x y : Ent} {i j : Nat} (hnd : (blk B).Nodup) (hi : B[i]? = some x) (hj : B[j]? = some y) (hne : i ≠ j) : ∀ b ∈ x.blocks, b ∉ y.blocks := by
  induction B generalizing i j with
  | nil => simp at hi
  | cons z B ih =>
    simp only [blk, List.flatMap_cons, List.nodup_append] at hnd
    obtain ⟨n1, n2, n3⟩ := hnd
    intro b hb hb'
    cases i with
    | zero =>
      cases j with
      | zero => exact hne rfl
      | succ j =>
        simp at hi hj
        subst hi
        exact n3 b hb b (List.mem_flatMap.2 ⟨y, List.mem_of_getElem? hj, hb'⟩) rfl
    | succ i =>
      cases j with
      | zero =>
        simp at hi hj
        subst hj
        exact n3 b hb' b (List.mem_flatMap.2 ⟨x, List.mem_of_getElem? hi, hb⟩) rfl
      | succ j => exact ih n2 (by simpa using hi) (by simpa using hj) (by omega) b hb hb'
theorem J.rowOut1 (hJ : J C E B h a w) (i j : Nat) {v : Value} {e : TypeId} {k g : Nat} {cs : List Value} {l : List (List Value)} (hB : B[i]? = some (.row v e k l)) (hj : B[j]? = some (.box g cs)) (hne : Nat.beq i j = false) (hC : C.wr = [g]) : RS ⟨w, C.bad0⟩ k v l := by
  have hm := List.mem_of_getElem? hB
  refine row_rs (hJ.ents _ hm) fun b hb hbad => ?_
  rcases hJ.own b (List.mem_flatMap.2 ⟨_, hm, by simp [Ent.blocks, hb]⟩) with q | q
  · have := hJ.badlt b hbad; omega
  · rw [hC, List.mem_singleton] at q
    subst q
    exact ent_apart hJ.nodup hB hj (Nat.ne_of_beq_eq_false hne) b (by simp [Ent.blocks, hb]) (by simp [Ent.blocks])
theorem row_form {base : Nat} {v : Value} {e : TypeId} {k : Nat} {l : List (List Value)} (hr : Ent.ok base w (.row v e k l)) : ∃ A c, v = .slice A l.length c ∧ l.length ≤ c ∧ c ≤ maxLen := by
  obtain ⟨hw, -⟩ := hr
  rcases hw.2 with ⟨rfl, h0⟩ | ⟨g, cap, cur, rfl, -, -, hn, hm, -, -⟩
  · exact ⟨none, 0, by rw [h0], by omega, Nat.zero_le _⟩
  · exact ⟨_, cap, rfl, hn, hm⟩
theorem J.form (hJ : J C E B h a w) (i : Nat) {v : Value} {e : TypeId} {k : Nat} {l : List (List Value)} (hB : B[i]? = some (.row v e k l)) : ∃ A c, v = .slice A l.length c ∧ l.length ≤ c ∧ c ≤ maxLen := row_form (hJ.ents _ (List.mem_of_getElem? hB))
theorem sub_flat {α β : Type} {f : α → List β} {l m : List α} (h : l.Sublist m) : (l.flatMap f).Sublist (m.flatMap f) := by
  induction h with
  | slnil => exact List.Sublist.refl _
  | cons a _ ih => rw [List.flatMap_cons]; exact ih.trans (List.sublist_append_right _ _)
  | cons_cons a _ ih => rw [List.flatMap_cons, List.flatMap_cons]; exact (List.Sublist.refl _).append ih
/-- A block that is not needed any more. -/
theorem J.drop (hJ : J C E B h a w) (i : Nat) : J C E (B.eraseIdx i) h a w := by
  have hsub : ∀ b ∈ blk (B.eraseIdx i), b ∈ blk B := fun b hb => by
    obtain ⟨x, hx, hb⟩ := List.mem_flatMap.1 hb
    exact List.mem_flatMap.2 ⟨x, List.mem_of_mem_eraseIdx hx, hb⟩
  refine ⟨hJ.fits, hJ.size, hJ.defers, hJ.low, ⟨hJ.sees.size, hJ.sees.block, fun b hb hlt => hJ.sees.bad b ?_ hlt⟩, fun x hx => hJ.ents x (List.mem_of_mem_eraseIdx hx), ?_, fun b hb => hJ.own b (hsub b hb), hJ.badlt⟩
  · rcases List.mem_append.1 hb with g | g
    · exact List.mem_append_left _ (hsub b g)
    · exact List.mem_append_right _ g
  · have : (blk B).Nodup := hJ.nodup
    unfold blk at this ⊢
    exact this.sublist (sub_flat (List.eraseIdx_sublist _ _))
/-- A row that is not appended to any more. -/
theorem J.frozen (hJ : J C E B h a w) (i : Nat) {v : Value} {e : TypeId} {k : Nat} {l : List (List Value)} (hB : B[i]? = some (.row v e k l)) (hout : RS ⟨w, C.bad0⟩ k v l) : ∃ h', Sees h h' ∧ RS h' k v l ∧ J C E (B.eraseIdx i) h' a w := by
  have hm := List.mem_of_getElem? hB
  have hsub : ∀ b ∈ blk (B.eraseIdx i), b ∈ blk B := fun b hb => by
    obtain ⟨x, hx, hb⟩ := List.mem_flatMap.1 hb
    exact List.mem_flatMap.2 ⟨x, List.mem_of_mem_eraseIdx hx, hb⟩
  have hnd : ∀ b, v.ownBlock = some b → b ∉ blk (B.eraseIdx i) := by
    intro b hb hin
    obtain ⟨x, hx, hbx⟩ := List.mem_flatMap.1 hin
    obtain ⟨j, hj⟩ := List.getElem?_of_mem hx
    rw [List.getElem?_eraseIdx] at hj
    split at hj
    · exact ent_apart hJ.nodup hB hj (by omega) b (by simp [Ent.blocks, hb]) hbx
    · exact ent_apart hJ.nodup hB hj (by omega) b (by simp [Ent.blocks, hb]) hbx
  refine ⟨⟨w, blk (B.eraseIdx i) ++ C.bad0⟩, ⟨hJ.sees.size, hJ.sees.block, fun b hb hlt => ?_⟩, ?_, hJ.fits, hJ.size, hJ.defers, hJ.low, Sees.refl _, fun x hx => hJ.ents x (List.mem_of_mem_eraseIdx hx), ?_, fun b hb => hJ.own b (hsub b hb), hJ.badlt⟩
  · refine hJ.sees.bad b ?_ hlt
    rcases List.mem_append.1 hb with g | g
    · exact List.mem_append_left _ (hsub b g)
    · exact List.mem_append_right _ g
  · refine row_rs (hJ.ents _ hm) fun b hb hin => ?_
    rcases List.mem_append.1 hin with g | g
    · exact hnd b hb g
    · rcases hout with ⟨A, cap, e1, -, -, -⟩ | ⟨b', off, cap, e1, -, -, -, hn, -⟩
      · subst e1
        cases A with
        | none => simp [Value.ownBlock] at hb
        | some ad =>
          -- a row that is empty, and not nil: its block is the row's own
          have hrow := (hJ.ents _ hm).1
          rcases hrow.2 with ⟨e2, -⟩ | ⟨g', cap', cur, e2, hb2, hg2, -⟩
          · simp at e2
          · simp only [Value.slice.injEq, Option.some.injEq] at e2
            obtain ⟨rfl, -, -⟩ := e2
            simp only [Value.ownBlock, Option.some.injEq] at hb
            subst hb
            have := hJ.badlt _ g
            omega
      · subst e1
        simp only [Value.ownBlock, Option.some.injEq] at hb
        subst hb
        exact hn g
  · have : (blk B).Nodup := hJ.nodup
    unfold blk at this ⊢
    exact this.sublist (sub_flat (List.eraseIdx_sublist _ _))

/-- A slice that is nil is a row. -/
theorem J.nilrow (hJ : J C E B h a w) (e : TypeId) (k : Nat) : J C E (.row (.slice none 0 0) e k [] :: B) h a w := by
  have hb : blk (.row (.slice none 0 0) e k [] :: B) = blk B := by simp [blk, Ent.blocks, Value.ownBlock]
  refine ⟨hJ.fits, hJ.size, hJ.defers, hJ.low, by rw [hb]; exact hJ.sees, fun e' he => ?_, by rw [hb]; exact hJ.nodup, by rw [hb]; exact hJ.own, hJ.badlt⟩
  rcases List.mem_cons.1 he with rfl | he
  · exact ⟨World.ownsRow_nil _ _ _ _, by simp⟩
  · exact hJ.ents e' he

theorem ok_block {base : Nat} {e : Ent} (he : e.ok base w) (hs : w.heap.size ≤ w'.heap.size) (hb : ∀ b ∈ e.blocks, w'.heap[b]? = w.heap[b]?) : e.ok base w' := by
  cases e with
  | box b cs =>
    have hb := hb b (by simp [Ent.blocks])
    have he : Box w b cs := he
    exact ⟨Nat.lt_of_lt_of_le he.lt hs, fun i v hv => (World.cell?_of_block (w := w) (a := ⟨b, i, none⟩) hb).trans (he.cells i v hv), fun i => (World.frozen?_of_block (w := w) (a := ⟨b, i, none⟩) hb).trans (he.free i)⟩
  | row v t k l =>
    obtain ⟨⟨h1, h2⟩, h3⟩ := he
    refine ⟨⟨h1, ?_⟩, h3⟩
    rcases h2 with h2 | ⟨g, cap, cur, rfl, hg, hh, r⟩
    · exact .inl h2
    · exact .inr ⟨g, cap, cur, rfl, hg, by rw [hb g (by simp [Ent.blocks, Value.ownBlock])]; exact hh, r⟩
  | map b es => exact (hb b (by simp [Ent.blocks])).trans he

/-- A world in which nothing but new blocks came. -/
theorem J.grow (hJ : J C E B h a w) (hl : Low [] w w') : J C E B h a w' := by
  refine ⟨hJ.fits, hJ.size, hJ.defers, ⟨hl.os.trans hJ.low.os, hl.tape.trans hJ.low.tape, hl.output.trans hJ.low.output, Nat.le_trans hJ.low.size hl.size, fun k hk hm => (hl.block k (Nat.lt_of_lt_of_le hk hJ.low.size) (by simp)).trans (hJ.low.block k hk hm)⟩,
    ?_, fun e he => ok_block (hJ.ents e he) hl.size (fun b hb => hl.block b (blk_lt hJ b (List.mem_flatMap.2 ⟨e, he, hb⟩)) (by simp)), hJ.nodup, hJ.own, hJ.badlt⟩
  exact ⟨Nat.le_trans hJ.sees.size hl.size, fun b hb hn => (hl.block b (Nat.lt_of_lt_of_le hb hJ.sees.size) (by simp)).trans (hJ.sees.block b hb hn), hJ.sees.bad⟩

/-- A new block of the call's own. -/
theorem J.new (hJ : J C E B h a w) (cs : List Value) (t : TypeId) : J C E (.box w.heap.size cs :: B) h a (w.alloc (.cells cs.toArray t)) := by
  have hl : Low [] w (w.alloc (.cells cs.toArray t)) := Low.of_below ((Below.refl _ _).alloc (Nat.le_refl _) _)
  have hg := hJ.grow hl
  refine ⟨hJ.fits, hJ.size, hJ.defers, hg.low, ⟨hg.sees.size, hg.sees.block, fun b hb hlt => ?_⟩, fun e he => ?_, ?_, fun b hb => ?_, hJ.badlt⟩
  · have hs := hJ.sees.size
    rcases List.mem_cons.1 hb with rfl | hb
    · exact absurd hlt (by simp only at hs; omega)
    · exact hg.sees.bad b hb hlt
  · rcases List.mem_cons.1 he with rfl | he
    · have := Box.new w cs.toArray t
      show Box _ _ _
      simpa using this
    · exact hg.ents e he
  · show (w.heap.size :: blk B).Nodup
    refine List.nodup_cons.2 ⟨fun hm => ?_, hJ.nodup⟩
    have := blk_lt hJ _ hm; omega
  · rcases List.mem_cons.1 hb with rfl | hb
    · exact .inl hJ.low.size
    · exact hJ.own b hb

/-- A new block that is known, and not to be written. -/
theorem J.fact (hJ : J C E B h a w) (cs : List Value) (t : TypeId) : ∃ h', Sees h h' ∧ Cells h' w.heap.size 0 cs ∧ J C E B h' a (w.alloc (.cells cs.toArray t)) := by
  have hl : Low [] w (w.alloc (.cells cs.toArray t)) := Low.of_below ((Below.refl _ _).alloc (Nat.le_refl _) _)
  have hg := hJ.grow hl
  refine ⟨_, hg.sees, ⟨by simp, fun hb => ?_, fun j v hv => ?_⟩, hg.now⟩
  · have := bad_lt hJ _ hb; omega
  · have := (Box.new w cs.toArray t).cells j v (by simpa using hv)
    simpa using this

/-- A store into a block of the call's own. -/
theorem blk_append (l m : List Ent) : blk (l ++ m) = blk l ++ blk m := by simp [blk]
theorem J.setE (hJ : J C E B h a w) {B1 B2 : List Ent} {b : Nat} {x x' : Ent} (hx : x.blocks = [b]) (hx' : x'.blocks = [b]) (hB : B = B1 ++ x :: B2) (hw : w'.os = w.os ∧ w'.tape = w.tape ∧ w'.output = w.output ∧ w'.heap.size = w.heap.size)
    (ho : ∀ k, k ≠ b → w'.heap[k]? = w.heap[k]?) (hb : x'.ok C.w0.heap.size w') : J C E (B1 ++ x' :: B2) h a w' := by
  have hbk : blk (B1 ++ x' :: B2) = blk B := by subst hB; simp [blk, hx, hx']
  have hbm : b ∈ blk B := by subst hB; simp [blk, hx]
  have hnd := hJ.nodup
  obtain ⟨w1, w2, w3, w4⟩ := hw
  refine ⟨hJ.fits, hJ.size, hJ.defers, ⟨w1.trans hJ.low.os, w2.trans hJ.low.tape, w3.trans hJ.low.output, by rw [w4]; exact hJ.low.size, fun k hk hm => ?_⟩, ⟨by rw [w4]; exact hJ.sees.size, fun k hk hn => ?_, by rw [hbk]; exact hJ.sees.bad⟩, fun e he => ?_, by rw [hbk]; exact hJ.nodup, by rw [hbk]; exact hJ.own, hJ.badlt⟩
  · rw [ho k (fun e => ?_)]
    · exact hJ.low.block k hk hm
    · subst e
      rcases hJ.own _ hbm with g | g
      · omega
      · exact hm g
  · rw [ho k (fun e => ?_)]
    · exact hJ.sees.block k hk hn
    · subst e
      exact hn (hJ.sees.bad _ (List.mem_append_left _ hbm) hk)
  · have key : ∀ e ∈ B1 ++ B2, e.ok C.w0.heap.size w' := by
      intro e he
      have heB : e ∈ B := by
        subst hB
        rcases List.mem_append.1 he with g | g
        · exact List.mem_append_left _ g
        · exact List.mem_append_right _ (List.mem_cons_of_mem _ g)
      refine ok_block (hJ.ents e heB) (by omega) (fun k hk => ho k (fun ek => ?_))
      rw [ek] at hk
      subst hB
      rw [blk_append] at hnd
      simp only [blk, List.flatMap_cons, hx] at hnd
      rw [List.nodup_append] at hnd
      obtain ⟨n1, n2, n3⟩ := hnd
      rcases List.mem_append.1 he with g | g
      · exact n3 _ (List.mem_flatMap.2 ⟨e, g, hk⟩) _ (by simp) rfl
      · rw [List.singleton_append, List.nodup_cons] at n2
        exact n2.1 (List.mem_flatMap.2 ⟨e, g, hk⟩)
    rcases List.mem_append.1 he with g | g
    · exact key e (List.mem_append_left _ g)
    · rcases List.mem_cons.1 g with rfl | g
      · exact hb
      · exact key e (List.mem_append_right _ g)
theorem J.set (hJ : J C E B h a w) {B1 B2 : List Ent} {b : Nat} {cs cs' : List Value} (hB : B = B1 ++ .box b cs :: B2) (hw : w'.os = w.os ∧ w'.tape = w.tape ∧ w'.output = w.output ∧ w'.heap.size = w.heap.size)
    (ho : ∀ k, k ≠ b → w'.heap[k]? = w.heap[k]?) (hb : Box w' b cs') : J C E (B1 ++ .box b cs' :: B2) h a w' := hJ.setE (x := .box b cs) (x' := .box b cs') rfl rfl hB hw ho hb
end

end Go.Proofs.Ytgjndkphfabnnaa
