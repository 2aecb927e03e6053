/-
  A world that has come of another one by growth alone: what was there is as it was. Facts on cells are laid once, for every such world. The first place where a test holds.
-/
import Derived.Test.YthgcgciceejicaaOwn
import Derived.Laws.AppendOwnNone
import Derived.Deep.RegionLaw
import Derived.Deep.AppendLies
import Derived.Lib.AppendZeros
namespace Go.Proofs.Ythgcgciceejicaa
open Go.RowKit

/-- W has come of x: what lay in x lies there unturned. -/
structure Evo (x W : World) : Prop where
  below : Below x.heap.size x W

theorem Evo.refl (x : World) : Evo x x := ⟨Below.refl _ _⟩
theorem Evo.trans {x y z : World} (h : Evo x y) (k : Evo y z) : Evo x z := ⟨h.below.trans (k.below.mono h.below.size)⟩
theorem Evo.alloc {x W : World} (h : Evo x W) (o : Obj) : Evo x (W.alloc o) := ⟨h.below.alloc h.below.size o⟩
theorem Evo.drew {x W : World} (h : Evo x W) : Evo x W.drew := ⟨h.below.drew⟩
theorem Evo.drewN {x W : World} (h : Evo x W) (n : Nat) : Evo x (W.drewN n) := ⟨below_drewN h.below n⟩
theorem Evo.set {x u W : World} (h : Evo x W) (k : Evo x u) (i : Nat) (v : Value) : Evo x (W.setCell ⟨u.heap.size, i, none⟩ v) := ⟨h.below.setCell k.below.size v⟩
theorem Evo.cell {x W : World} (h : Evo x W) {b o : Nat} {v : Value} (hb : b < x.heap.size) (c : x.cell? ⟨b, o, none⟩ = some v) : W.cell? ⟨b, o, none⟩ = some v := (h.below.cell (p := ⟨b, o, none⟩) hb).trans c
theorem Evo.free {x W : World} (h : Evo x W) {b o : Nat} (hb : b < x.heap.size) (c : x.frozen? ⟨b, o, none⟩ = false) : W.frozen? ⟨b, o, none⟩ = false := (h.below.frozen (p := ⟨b, o, none⟩) hb).trans c
/-- As a rule of the walk: from whatever x on. -/
theorem Evo.rule {w w' : World} (h : Evo w w') : ∀ x, Evo x w → Evo x w' := fun _ k => k.trans h

attribute [local go_sem] Evo.refl Evo.alloc Evo.drew Evo.drewN

/-- The call gives v; of what was there nothing has turned. -/
def GivesE (v : Value) (w : World) (e : Ending) (w' : World) : Prop := e = .returned v ∧ Evo w w'
theorem gives_e {v : Value} {w : World} {e : Ending} {w' : World} (h : Gives v w e w') : GivesE v w e w' := ⟨h.1, ⟨h.2⟩⟩
theorem gives_of {v : Value} {w : World} {e : Ending} {w' : World} (h : GivesE v w e w') : Gives v w e w' := ⟨h.1, h.2.below⟩

/-- The slice v holds the rows l of k cells each: nil, or in a block that lies in w. -/
def Sl (w : World) (k : Nat) (v : Value) (l : List (List Value)) : Prop :=
  (∃ A cap, v = .slice A 0 cap ∧ (A = none → cap = 0) ∧ cap ≤ maxLen ∧ l = []) ∨ ∃ b off cap, v = .slice (some ⟨b, off, none⟩) l.length cap ∧ l.length ≤ cap ∧ cap ≤ maxLen ∧ b < w.heap.size ∧
    ∀ i r, l[i]? = some r → ∀ j u, r[j]? = some u → w.cell? ⟨b, off + i * k + j, none⟩ = some u

theorem Sl.nil (w : World) (k : Nat) : Sl w k (.slice none 0 0) [] := .inl ⟨none, 0, rfl, fun _ => rfl, Nat.zero_le _, rfl⟩
theorem Sl.at {w : World} {k : Nat} {v : Value} {l : List (List Value)} (h : Sl w k v l) {W : World} (hW : Evo w W) : Sl W k v l := by
  rcases h with h | ⟨b, off, cap, e, h1, h2, hb, hc⟩
  · exact .inl h
  · exact .inr ⟨b, off, cap, e, h1, h2, Nat.lt_of_lt_of_le hb hW.below.size, fun i r hi j u hj => hW.cell hb (hc i r hi j u hj)⟩
theorem Sl.form {w : World} {k : Nat} {v : Value} {l : List (List Value)} (h : Sl w k v l) : ∃ A cap, v = .slice A l.length cap ∧ l.length ≤ cap ∧ cap ≤ maxLen ∧ (A = none → cap = 0) := by
  rcases h with ⟨A, cap, rfl, hA, hm, rfl⟩ | ⟨b, off, cap, e, h1, h2, hb, hc⟩
  · exact ⟨A, cap, rfl, Nat.zero_le _, hm, hA⟩
  · exact ⟨_, cap, e, h1, h2, fun k => by cases k⟩
/-- The cells of a row, in every world that comes after. -/
theorem Sl.row {w : World} {k : Nat} {A : Option Addr} {n cap : Nat} {l : List (List Value)} (h : Sl w k (.slice A n cap) l) {i : Nat} {r : List Value} (hi : l[i]? = some r) :
    ∃ b off, A = some ⟨b, off, none⟩ ∧ b < w.heap.size ∧ ∀ j u, r[j]? = some u → ∀ W, Evo w W → W.cell? ⟨b, off + i * k + j, none⟩ = some u := by
  rcases h with ⟨_, _, _, _, _, rfl⟩ | ⟨b, off, cap', e, h1, h2, hb, hc⟩
  · simp at hi
  · simp only [Value.slice.injEq] at e
    obtain ⟨rfl, -, -⟩ := e
    exact ⟨b, off, rfl, hb, fun j u hj W hW => hW.cell hb (hc i r hi j u hj)⟩
/-- The first i rows. -/
theorem Sl.take {w : World} {k : Nat} {A : Option Addr} {n cap : Nat} {l : List (List Value)} (h : Sl w k (.slice A n cap) l) (i : Nat) (hi : i ≤ l.length) : Sl w k (.slice A i cap) (l.take i) := by
  rcases h with ⟨A', cap', e, hA, hm, rfl⟩ | ⟨b, off, cap', e, h1, h2, hb, hc⟩
  · simp only [Value.slice.injEq] at e
    obtain ⟨rfl, rfl, rfl⟩ := e
    have : i = 0 := by simpa using hi
    subst this
    exact .inl ⟨A, cap, rfl, hA, hm, rfl⟩
  · simp only [Value.slice.injEq] at e
    obtain ⟨rfl, rfl, rfl⟩ := e
    have hl : (l.take i).length = i := by rw [List.length_take]; omega
    refine .inr ⟨b, off, cap, by rw [hl], by omega, h2, hb, fun j r hj m u hm => hc j r ?_ m u hm⟩
    rw [List.getElem?_take] at hj
    split at hj
    · exact hj
    · cases hj
/-- From row i on. -/
theorem Sl.drop {w : World} {k : Nat} {A : Option Addr} {n cap : Nat} {l : List (List Value)} (h : Sl w k (.slice A n cap) l) (i : Nat) (hi : i ≤ l.length) :
    Sl w k (.slice (if cap = i then A else A.map (·.add (i * k))) (n - i) (cap - i)) (l.drop i) := by
  rcases h with ⟨A', cap', e, hA, hm, rfl⟩ | ⟨b, off, cap', e, h1, h2, hb, hc⟩
  · simp only [Value.slice.injEq] at e
    obtain ⟨rfl, rfl, rfl⟩ := e
    have : i = 0 := by simpa using hi
    subst this
    refine .inl ⟨A, cap, ?_, hA, hm, rfl⟩
    have ha : A.map (·.add (0 * k)) = A := by cases A <;> simp [Addr.add]
    rw [ha]; simp
  · simp only [Value.slice.injEq] at e
    obtain ⟨rfl, rfl, rfl⟩ := e
    have hl : (l.drop i).length = l.length - i := List.length_drop
    have h2' : cap - i ≤ maxLen := by omega
    by_cases hci : cap = i
    · rw [if_pos hci]
      refine .inr ⟨b, off, cap - i, by rw [hl], by omega, h2', hb, fun j r hj => ?_⟩
      rw [List.drop_eq_nil_of_le (by omega)] at hj
      simp at hj
    · rw [if_neg hci]
      refine .inr ⟨b, off + i * k, cap - i, ?_, by omega, h2', hb, fun j r hj m u hm => ?_⟩
      · rw [hl]
        unfold Addr.add
        by_cases h0 : i * k = 0
        · simp [h0]
        · simp [h0]
      · rw [List.getElem?_drop] at hj
        have := hc (i + j) r hj m u hm
        rwa [show off + i * k + j * k + m = off + (i + j) * k + m by rw [Nat.add_mul]; omega]
/-- Where a reslice from i on begins, under one name. -/
theorem Sl.drop' {w : World} {k : Nat} {A : Option Addr} {n cap : Nat} {l : List (List Value)} (h : Sl w k (.slice A n cap) l) (i : Nat) (hi : i ≤ l.length) :
    ∃ A', (if cap = i then A else A.map (·.add (i * k))) = A' ∧ Sl w k (.slice A' (n - i) (cap - i)) (l.drop i) := ⟨_, rfl, h.drop i hi⟩
theorem Sl.of_own {w : World} {base k : Nat} {e : TypeId} {v : Value} {l : List (List Value)} (hk : ∀ r ∈ l, r.length = k) (h : Own w base e k v l.length l.flatten) : Sl w k v l := by
  obtain ⟨h⟩ := h
  rcases h.2 with ⟨rfl, h0⟩ | ⟨g, cap, cur, rfl, hb, hg, hn, hm, hs, ht⟩
  · exact .inl ⟨none, 0, rfl, fun _ => rfl, Nat.zero_le _, List.length_eq_zero_iff.1 h0⟩
  · refine .inr ⟨g, 0, cap, rfl, hn, hm, (Array.getElem?_eq_some_iff.1 hg).1, fun i r hi j u hj => ?_⟩
    have hf := flat_get l hk i r j u hi hj
    have := h.cells (g := g) rfl (i * k + j) u hf
    rw [show ((⟨g, 0, none⟩ : Addr).add (i * k + j)) = ⟨g, 0 + i * k + j, none⟩ from by unfold Addr.add; split <;> simp_all <;> omega] at this
    exact this
theorem Sl.one (w : World) (cs : Array Value) (t : TypeId) (n : Nat) : Sl (w.alloc (.cells cs t)) n (.slice (some ⟨w.heap.size, 0, none⟩) 1 1) [cs.toList] := by
  refine .inr ⟨w.heap.size, 0, 1, rfl, by simp, by unfold maxLen; omega, by simp, fun i r hi j u hj => ?_⟩
  have hi0 : i = 0 := by
    have := (List.getElem?_eq_some_iff.1 hi).1; simp at this; exact this
  subst hi0
  simp at hi
  subst hi
  have := (Box.new w cs t).cells j u hj
  simpa using this
theorem Own.at {w : World} {base : Nat} {e : TypeId} {size : Nat} {v : Value} {n : Nat} {xs : List Value} (h : Own w base e size v n xs) {W : World} (hW : Evo w W) : Own W base e size v n xs := h.keep hW.below
/-- Sl of an IsRows, where the slice's capacity is bounded, and its address has a block where it has an element. -/
theorem flat_len {k : Nat} : ∀ (l : List (List Value)), (∀ r ∈ l, r.length = k) → l.flatten.length = l.length * k
  | [], _ => by simp
  | x :: l, h => by
    rw [List.flatten_cons, List.length_append, flat_len l (fun r hr => h r (by simp [hr])), h x (by simp), List.length_cons, Nat.succ_mul]; omega
theorem flat_split {k : Nat} : ∀ (l : List (List Value)), (∀ r ∈ l, r.length = k) → ∀ j u, l.flatten[j]? = some u → ∃ i r m, l[i]? = some r ∧ r[m]? = some u ∧ j = i * k + m
  | [], _, j, u, h => by simp at h
  | x :: l, hk, j, u, h => by
    have hx := hk x (by simp)
    rw [List.flatten_cons] at h
    by_cases hj : j < x.length
    · rw [List.getElem?_append_left hj] at h
      exact ⟨0, x, j, rfl, h, by simp⟩
    · rw [List.getElem?_append_right (by omega)] at h
      obtain ⟨i, r, m, h1, h2, h3⟩ := flat_split l (fun r hr => hk r (by simp [hr])) _ u h
      exact ⟨i + 1, r, m, by simpa using h1, h2, by rw [hx] at h3 hj; rw [Nat.succ_mul]; omega⟩

def One (l : List (List Value)) : Prop := ∀ r ∈ l, ∀ u ∈ r, u.oneCell' = true
def Len (k : Nat) (l : List (List Value)) : Prop := ∀ r ∈ l, r.length = k

theorem Evo.size {x W : World} (h : Evo x W) : x.heap.size ≤ W.heap.size := h.below.size
theorem Own.low {w : World} {base base' : Nat} {e : TypeId} {size : Nat} {v : Value} {n : Nat} {xs : List Value} (h : Own w base e size v n xs) (hb : base' ≤ base) : Own w base' e size v n xs := by
  obtain ⟨hl, hn | ⟨g, cap, cur, rfl, hbg, rest⟩⟩ := h
  · exact ⟨hl, .inl hn⟩
  · exact ⟨hl, .inr ⟨g, cap, cur, rfl, by omega, rest⟩⟩

theorem run_append_rows {P : Program} {w : World} (t ty e : TypeId) (z : Value) (k bytes : Nat) (ht : P.underlying t = some (.slice e)) (hinfo : (P.info? e).map (fun i => (i.zero, i.size, i.bytes)) = some (some z, k, bytes)) (hzs : z.cells.size = k) (hsz : 0 < k)
    (x : World) (hE : Evo x w) (v sv : Value) (l m : List (List Value)) (hown : Own w x.heap.size e k v l.length l.flatten) (hsrc : Sl w k sv m) (hk : Len k m) (h1 : One m)
    (h63 : l.length + m.length ≤ 9223372036854775807) (hbytes : (l.length + m.length) * bytes ≤ 140737488355328) :
    ∃ v' w', (Builtin.append_ #[t, t] ty #[v, sv]).run P w = .ok v' w' ∧ Own w' x.heap.size e k v' (l ++ m).length (l ++ m).flatten ∧ Evo x w' ∧ w.grownBy w' v.ownBlock ∧ (v'.ownBlock = v.ownBlock ∨ v'.ownBlock = some w.heap.size) := by
  obtain ⟨i0, hi, hz0, hz1, hz2⟩ := info_parts hinfo
  rcases hsrc with ⟨A, cap, rfl, hA, hm, rfl⟩ | ⟨b, off, cap, rfl, c1, c2, hb, hc⟩
  · cases A with
    | some a =>
      obtain ⟨v', w', hr, h2, h3, -, h5⟩ := run_append_own_at (P := P) w x.heap.size t ty e i0 z k bytes ht hi hz0 hz1 hz2 hzs hsz v l.length l.flatten hown.own a 0 cap [] (by simp) (by simp) (by simp) (by unfold maxLen; simp at h63; omega) (by simpa using hbytes) hE.size
      refine ⟨v', w', hr, ?_, ⟨hE.below.trans (grown_below hown h3 hE.size)⟩, h3, h5⟩
      rw [List.append_nil]; simpa using (⟨h2⟩ : Own _ _ _ _ _ _ _)
    | none =>
    obtain rfl := hA rfl
    refine ⟨v, w, run_append_owned_none w x.heap.size t ty e i0 k ht hi v l.length l.flatten hown.own, ?_, hE, ⟨rfl, rfl, rfl, Nat.le_refl _, fun _ _ _ => rfl⟩, .inl rfl⟩
    rw [List.append_nil]; exact hown
  · have hml : m.flatten.length = m.length * k := flat_len m hk
    obtain ⟨v', w', hr, h2, h3, -, h5⟩ := run_append_own_at (P := P) w x.heap.size t ty e i0 z k bytes ht hi hz0 hz1 hz2 hzs hsz v l.length l.flatten hown.own ⟨b, off, none⟩ m.length cap m.flatten hml (fun j u hj => by
      obtain ⟨i, r, q, e1, e2, e3⟩ := flat_split m hk j u hj
      have := hc i r e1 q u e2
      rw [show ((⟨b, off, none⟩ : Addr).add j) = ⟨b, off + i * k + q, none⟩ from by unfold Addr.add; split <;> simp_all <;> omega]
      exact this) (fun u hu => by
      obtain ⟨r, hr, hur⟩ := List.mem_flatten.1 hu
      exact h1 r hr u hur) (by unfold maxLen; omega) hbytes hE.size
    refine ⟨v', w', hr, ?_, ⟨hE.below.trans (grown_below hown h3 hE.size)⟩, h3, h5⟩
    rw [List.length_append, List.flatten_append]; exact ⟨h2⟩

/-- append of rows onto a row of the call's own. -/
theorem wpList_append_rows {P : Program} {w : World} {ops : Array Oper} {rest : List Oper} {o : Oper} {a : Act} {Q : Exit → Act → World → Prop} (hgd : o.guard = none) (s x : Operand) (t : TypeId)
    (ho : o.op = .call { callee := .builtin .append, args := #[s, x], argTypes := #[t, t] })
    (e : TypeId) (z : Value) (k bytes : Nat) (ht : P.underlying t = some (.slice e)) (hinfo : (P.info? e).map (fun i => (i.zero, i.size, i.bytes)) = some (some z, k, bytes)) (hzs : z.cells.size = k) (hsz : 0 < k)
    (y : World) (hE : Evo y w) (l m : List (List Value)) (v sv : Value) (hs : a.eval s = v) (hx : a.eval x = sv) (hown : Own w y.heap.size e k v l.length l.flatten) (hsrc : Sl w k sv m) (hk : Len k m) (h1 : One m)
    (h63 : l.length + m.length ≤ 9223372036854775807) (hbytes : (l.length + m.length) * bytes ≤ 140737488355328)
    (h : ∀ v' w', Own w' y.heap.size e k v' (l ++ m).length (l ++ m).flatten → Evo y w' → w.grownBy w' v.ownBlock → wpList P ops Q rest (a.put o.dst v') w') : wpList P ops Q (o :: rest) a w := by
  obtain ⟨v', w', hr, h2, h3, h4, -⟩ := run_append_rows (P := P) (w := w) t o.type e z k bytes ht hinfo hzs hsz y hE v sv l m hown hsrc hk h1 h63 hbytes
  exact Lib.wpList_append_run w hgd s x t t ho v sv hs hx v' w' hr (h v' w' h2 h3 h4)

/-- append of rows, as a step of a region that draws. -/
theorem step_append_rows {P : Program} {ops : Array Oper} {o : Oper} {a : Act} {w : World} {K : Act → World → Prop} {Q : Exit → Act → World → Prop} {E : Prop} (hgd : o.guard = none) (s x : Operand) (t : TypeId)
    (ho : o.op = .call { callee := .builtin .append, args := #[s, x], argTypes := #[t, t] })
    (e : TypeId) (z : Value) (k bytes : Nat) (ht : P.underlying t = some (.slice e)) (hinfo : (P.info? e).map (fun i => (i.zero, i.size, i.bytes)) = some (some z, k, bytes)) (hzs : z.cells.size = k) (hsz : 0 < k)
    (y : World) (hE : Evo y w) (l m : List (List Value)) (v sv : Value) (hs : a.eval s = v) (hx : a.eval x = sv) (hown : Own w y.heap.size e k v l.length l.flatten) (hsrc : Sl w k sv m) (hk : Len k m) (h1 : One m)
    (h63 : l.length + m.length ≤ 9223372036854775807) (hbytes : (l.length + m.length) * bytes ≤ 140737488355328)
    (h : ∀ v' w', Own w' y.heap.size e k v' (l ++ m).length (l ++ m).flatten → Evo y w' → K (a.put o.dst v') w') : if Region.wanted o (yielded ops a.tmps) = true then Oper.wp P o a w K Q else E := by
  have hw : Region.wanted o (yielded ops a.tmps) = true := by simp [Region.wanted, hgd]
  rw [if_pos hw]
  obtain ⟨v', w', hr, h2, h3, -, -⟩ := run_append_rows (P := P) (w := w) t o.type e z k bytes ht hinfo hzs hsz y hE v sv l m hown hsrc hk h1 h63 hbytes
  unfold Oper.wp execOp
  simp only [ho, resolve, invoke, builtin, Sem.run_bind, Sem.run_pure, Result.andThen_ok, List.map_toArray, List.map_cons, List.map_nil, hs, hx, hr]
  exact h v' w' h2 h3

/-- The call gives a slice of the rows l, in memory of its own. -/
def GivesOwn (E : TypeId) (k : Nat) (l : List (List Value)) (w : World) (e : Ending) (w' : World) : Prop := ∃ v, e = .returned v ∧ Own w' w.heap.size E k v l.length l.flatten ∧ Evo w w'
/-- .. a slice of the rows l. -/
def GivesRows (k : Nat) (l : List (List Value)) (w : World) (e : Ending) (w' : World) : Prop := ∃ v, e = .returned v ∧ Sl w' k v l ∧ Evo w w'
/-- .. a slice of the rows l, and no error. -/
def GivesRows0 (k : Nat) (l : List (List Value)) (w : World) (e : Ending) (w' : World) : Prop := ∃ v, e = .returned (.tuple #[v, .int .i64 0]) ∧ Sl w' k v l ∧ Evo w w'
theorem Len.app {k : Nat} {l m : List (List Value)} (h : Len k l) (h' : Len k m) : Len k (l ++ m) := fun r hr => (List.mem_append.1 hr).elim (h r) (h' r)
theorem One.app {l m : List (List Value)} (h : One l) (h' : One m) : One (l ++ m) := fun r hr => (List.mem_append.1 hr).elim (h r) (h' r)

end Go.Proofs.Ythgcgciceejicaa

namespace Go.Proofs.Ythgcgciceejicaa
open Go.RowKit

/-- The first place where p holds; none: -1. -/
def fidx {α : Type} (p : α → Bool) (l : List α) : Int := match l.findIdx? p with | some k => k | none => -1

theorem fidx_found {α : Type} (p : α → Bool) : ∀ (l : List α) (k : Nat) (x : α), (∀ y ∈ l.take k, p y = false) → l[k]? = some x → p x = true → fidx p l = k
  | [], k, x, _, h, _ => by simp at h
  | y :: l, 0, x, _, h, hx => by
    simp at h; subst h
    simp [fidx, List.findIdx?_cons, hx]
  | y :: l, k + 1, x, ha, h, hx => by
    have hy := ha y (by simp)
    have ih := fidx_found p l k x (fun z hz => ha z (by simp [hz])) (by simpa using h) hx
    unfold fidx at ih ⊢
    rw [List.findIdx?_cons, hy]
    cases e : l.findIdx? p with
    | none => rw [e] at ih; simp at ih <;> omega
    | some j => rw [e] at ih; simp at ih ⊢; omega
theorem fidx_none {α : Type} (p : α → Bool) (l : List α) (h : ∀ y ∈ l, p y = false) : fidx p l = -1 := by
  unfold fidx
  rw [List.findIdx?_eq_none_iff.2 h]
theorem fidx_any {α : Type} (p : α → Bool) (l : List α) : l.any p = true ↔ 0 ≤ fidx p l := by
  unfold fidx
  cases e : l.findIdx? p with
  | none =>
    rw [List.findIdx?_eq_none_iff] at e
    simp
    intro x hx; simp [e x hx]
  | some k =>
    simp
    obtain ⟨h, hk, -⟩ := List.findIdx?_eq_some_iff_getElem.1 e
    exact ⟨_, List.getElem_mem h, hk⟩

theorem fidx_dec {α : Type} (p : α → Bool) (l : List α) : decide (0 ≤ fidx p l) = l.any p := by
  rw [Bool.eq_iff_iff, decide_eq_true_iff]; exact (fidx_any p l).symm
theorem ret_b {a b : Bool} (h : a = b) : Ending.returned (.bool a) = .returned (.bool b) := by rw [h]
theorem ret_i {a b : Int} (h : a = b) : Ending.returned (.int .i64 a) = .returned (.int .i64 b) := by rw [h]

/-- A store into a block of one cell leaves rows of more cells. -/
theorem Sl.setOne {w : World} {k : Nat} {v : Value} {l : List (List Value)} {g : Nat} {c : Value} {t : TypeId} (h : Sl w k v l) (hk : Len k l) (h2 : 2 ≤ k) (hg : w.heap[g]? = some (.cells #[c] t (0, 0))) (u : Value) : Sl (w.setCell ⟨g, 0, none⟩ u) k v l := by
  rcases h with h | ⟨b, off, cap, e, h1, h3, hb, hc⟩
  · exact .inl h
  · refine .inr ⟨b, off, cap, e, h1, h3, by simpa [World.setCell] using hb, fun i r hi j x hj => ?_⟩
    by_cases hbg : b = g
    · exfalso
      subst hbg
      have hl := hk r (List.mem_of_getElem? hi)
      obtain ⟨y, hy⟩ : ∃ y, r[1]? = some y := ⟨_, List.getElem?_eq_getElem (by omega)⟩
      have := hc i r hi 1 y hy
      unfold World.cell? at this
      simp only [hg] at this
      simp at this
    · rw [World.cell?_setCell_other _ _ _ _ (by first | (simp; done) | (simp; omega) | (intro q; simp at q; exact hbg q.1.symm) | (intro q; simp at q; exact hbg q.1))]
      exact hc i r hi j x hj

end Go.Proofs.Ythgcgciceejicaa
