/-
  Timers, plain: sorted lists of timers, what an insertion makes of them.
-/
import Derived.Test.YtpckomnpeainlabClockC
namespace Go.Proofs.Ytpckomnpeainlab
open Go.RowKit

def ltT (x y : Tmr) : Prop := x.at' < y.at' ∨ x.at' = y.at' ∧ x.id < y.id
instance (x y : Tmr) : Decidable (ltT x y) := by unfold ltT; exact inferInstance

theorem cmpT_neg (x y : Tmr) : cmpT x y < 0 ↔ ltT x y := by
  unfold cmpT orI cmpI ltT
  repeat' split <;> omega
  all_goals omega
theorem cmpT_pos (x y : Tmr) : 0 < cmpT x y ↔ ltT y x := by
  unfold cmpT orI cmpI ltT
  repeat' split <;> omega
  all_goals omega
theorem ltT_trans {x y z : Tmr} (h : ltT x y) (k : ltT y z) : ltT x z := by unfold ltT at *; omega
theorem ltT_not_trans {x y z : Tmr} (h : ¬ ltT y x) (k : ¬ ltT z y) : ¬ ltT z x := by unfold ltT at *; omega
theorem ltT_asymm {x y : Tmr} (h : ltT x y) : ¬ ltT y x := by unfold ltT at *; omega

theorem idxT_lt {id : Int} {l : List Tmr} (h : ∀ x ∈ l, x.id ≠ id) : idxT id l < 0 := by
  rw [idx_none id l (fun x hx => beq_eq_false_iff_ne.2 (h x hx))]; omega
theorem idxT_ge {id : Int} {l : List Tmr} {x : Tmr} (hx : x ∈ l) (h : x.id = id) : 0 ≤ idxT id l := by
  unfold idxT
  cases e : l.findIdx? (fun x => x.id == id) with
  | none =>
    rw [List.findIdx?_eq_none_iff] at e
    have := e x hx
    simp [h] at this
  | some k => simp
theorem idxT_at {id : Int} {l r : List Tmr} {t : Tmr} (h : ∀ x ∈ l, x.id ≠ id) (ht : t.id = id) : idxT id (l ++ t :: r) = l.length :=
  idx_found id (l ++ t :: r) l.length t (by simpa using fun y hy => h y hy) (by simp) (by simp [ht])

/-- Timers that may be but for their numbers: each in its range, none behind a later one. -/
structure Wk (l : List Tmr) : Prop where
  len : l.length ≤ 20
  rng : ∀ x ∈ l, 1 ≤ x.id ∧ 0 ≤ x.at' ∧ x.at' ≤ 1073741824
  ord : l.Pairwise (fun x y => ¬ ltT y x)
/-- Timers that may be. -/
structure OkT (l : List Tmr) : Prop where
  wk : Wk l
  ids : (l.map (·.id)).Nodup

theorem badT_wk {l : List Tmr} (h : Wk l) {j : Nat} {x : Tmr} (hj : l[j]? = some x) : badT l j = if 0 ≤ idxT x.id (l.take j) then 6 else 0 := by
  obtain ⟨r1, r2, r3⟩ := h.rng x (List.mem_of_getElem? hj)
  unfold badT
  rw [hj]
  simp only
  rw [if_neg (by omega), if_neg (by omega), if_neg (by omega)]
  by_cases h0 : 0 ≤ idxT x.id (l.take j)
  · rw [if_pos h0, if_pos h0]
  · rw [if_neg h0, if_neg h0, if_neg]
    rintro ⟨hj0, hc⟩
    obtain ⟨y, hy⟩ : ∃ y, l[j - 1]? = some y := ⟨_, List.getElem?_eq_getElem (by have := (List.getElem?_eq_some_iff.1 hj).1; omega)⟩
    rw [List.getD_eq_getElem?_getD, hy] at hc
    have hp := List.pairwise_iff_getElem.1 h.ord (j - 1) j (by have := (List.getElem?_eq_some_iff.1 hj).1; omega) (List.getElem?_eq_some_iff.1 hj).1 (by omega)
    rw [(List.getElem?_eq_some_iff.1 hj).2, (List.getElem?_eq_some_iff.1 hy).2] at hp
    exact hp ((cmpT_pos y x).1 hc)

theorem chk_ok {l : List Tmr} (h : OkT l) : chkT l = 0 := by
  refine chk_none l h.wk.len fun j hj => ?_
  obtain ⟨x, hx⟩ : ∃ x, l[j]? = some x := ⟨_, List.getElem?_eq_getElem hj⟩
  rw [badT_wk h.wk hx, if_neg]
  have := idxT_lt (id := x.id) (l := l.take j) (fun y hy e => by
    have hs : l = l.take j ++ x :: l.drop (j + 1) := by
      conv => lhs; rw [← List.take_append_drop j l, List.drop_eq_getElem_cons hj]
      rw [(List.getElem?_eq_some_iff.1 hx).2]
    have hn := h.ids
    rw [hs, List.map_append, List.nodup_append] at hn
    exact hn.2.2 y.id (List.mem_map.2 ⟨y, hy, rfl⟩) x.id (by simp) e)
  omega
theorem chk_twice {l : List Tmr} (h : Wk l) (hn : ¬ (l.map (·.id)).Nodup) : chkT l = 6 := by
  unfold chkT
  rw [if_neg (by have := h.len; omega)]
  cases e : (List.range l.length).find? (fun j => badT l j != 0) with
  | none =>
    exfalso
    apply hn
    rw [List.nodup_iff_pairwise_ne, List.pairwise_map, List.pairwise_iff_getElem]
    intro i j hi hj hij he
    have := List.find?_eq_none.1 e j (List.mem_range.2 hj)
    rw [badT_wk h (List.getElem?_eq_getElem hj), if_pos (idxT_ge (x := l[i]) (by rw [List.mem_take_iff_getElem]; exact ⟨i, by omega, rfl⟩) he)] at this
    simp at this
  | some j =>
    have hj := List.mem_range.1 (List.mem_of_find?_eq_some e)
    have hb := List.find?_some e
    simp only
    rw [badT_wk h (List.getElem?_eq_getElem hj)] at hb ⊢
    split
    · rfl
    · rename_i h0; rw [if_neg h0] at hb; simp at hb

/-- Where a timer is put in. -/
def plc (l : List Tmr) (t : Tmr) : Nat := (l.takeWhile (fun x => decide (ltT x t))).length
def ins (l : List Tmr) (t : Tmr) : List Tmr := l.take (plc l t) ++ t :: l.drop (plc l t)

theorem tw_le {α : Type} (p : α → Bool) (l : List α) : (l.takeWhile p).length ≤ l.length := (List.takeWhile_sublist _).length_le
theorem tw_lo {α : Type} (p : α → Bool) : ∀ (l : List α) (i : Nat) (x : α), i < (l.takeWhile p).length → l[i]? = some x → p x = true
  | [], i, x, h, _ => by simp at h
  | y :: l, i, x, h, hx => by
    rw [List.takeWhile_cons] at h
    split at h
    · rename_i hy
      cases i with
      | zero => simp at hx; subst hx; exact hy
      | succ i => exact tw_lo p l i x (by simpa using h) (by simpa using hx)
    · simp at h
theorem tw_hi {α : Type} (p : α → Bool) : ∀ (l : List α) (x : α), l[(l.takeWhile p).length]? = some x → p x = false
  | [], x, h => by simp at h
  | y :: l, x, h => by
    rw [List.takeWhile_cons] at h
    split at h
    · exact tw_hi p l x (by simpa using h)
    · rename_i hy
      simp at h; subst h; simpa using hy
theorem plc_le (l : List Tmr) (t : Tmr) : plc l t ≤ l.length := tw_le _ _
theorem plc_lo (l : List Tmr) (t : Tmr) : ∀ i x, i < plc l t → l[i]? = some x → cmpT x t < 0 := by
  intro i x hi hx
  have := tw_lo _ l i x hi hx
  exact (cmpT_neg x t).2 (by simpa using this)
theorem plc_hi {l : List Tmr} (h : Wk l) (t : Tmr) : ∀ i x, plc l t ≤ i → l[i]? = some x → 0 ≤ cmpT x t := by
  intro i x hi hx
  rcases Int.lt_or_le (cmpT x t) 0 with g | g
  · exfalso
    have hxl := (cmpT_neg x t).1 g
    have hil := (List.getElem?_eq_some_iff.1 hx).1
    have hpl : plc l t < l.length := by omega
    have hf := tw_hi (fun x => decide (ltT x t)) l l[plc l t] (List.getElem?_eq_getElem hpl)
    have hf' : ¬ ltT l[plc l t] t := by simpa using hf
    rcases Nat.lt_or_eq_of_le hi with k | k
    · have hp := List.pairwise_iff_getElem.1 h.ord (plc l t) i hpl hil k
      rw [(List.getElem?_eq_some_iff.1 hx).2] at hp
      unfold ltT at *; omega
    · subst k
      rw [(List.getElem?_eq_some_iff.1 hx).2] at hf'
      exact hf' hxl
  · exact g

theorem wk_sub {l m : List Tmr} (h : Wk l) (hs : m.Sublist l) : Wk m := ⟨Nat.le_trans hs.length_le h.len, fun x hx => h.rng x (hs.subset hx), h.ord.sublist hs⟩
theorem ok_sub {l m : List Tmr} (h : OkT l) (hs : m.Sublist l) : OkT m := ⟨wk_sub h.wk hs, h.ids.sublist (hs.map _)⟩

theorem ins_wk {l : List Tmr} (h : Wk l) (hl : l.length < 20) {t : Tmr} (ht : 1 ≤ t.id ∧ 0 ≤ t.at' ∧ t.at' ≤ 1073741824) : Wk (ins l t) := by
  refine ⟨by have := plc_le l t; simp [ins]; omega, fun x hx => ?_, ?_⟩
  · unfold ins at hx
    rcases List.mem_append.1 hx with hx | hx
    · exact h.rng x (List.mem_of_mem_take hx)
    · rcases List.mem_cons.1 hx with rfl | hx
      · exact ht
      · exact h.rng x (List.mem_of_mem_drop hx)
  · unfold ins
    have ho := h.ord
    rw [← List.take_append_drop (plc l t) l, List.pairwise_append] at ho
    rw [List.pairwise_append, List.pairwise_cons]
    refine ⟨ho.1, ⟨fun x hx => ?_, ho.2.1⟩, fun x hx y hy => ?_⟩
    · obtain ⟨i, hi, rfl⟩ := List.mem_iff_getElem.1 hx
      rw [List.getElem_drop]
      have := plc_hi h t (plc l t + i) _ (by omega) (List.getElem?_eq_getElem (by simp at hi; omega))
      exact fun k => by have := (cmpT_neg _ _).2 k; omega
    · obtain ⟨i, hi, rfl⟩ := List.mem_iff_getElem.1 hx
      rw [List.getElem_take] at *
      have hlt := (cmpT_neg _ _).1 (plc_lo l t i _ (by simp at hi; omega) (List.getElem?_eq_getElem (by simp at hi; omega)))
      rcases List.mem_cons.1 hy with rfl | hy
      · exact ltT_asymm hlt
      · exact ho.2.2 _ hx y hy
theorem ins_perm (l : List Tmr) (t : Tmr) : (ins l t).Perm (t :: l) := by
  unfold ins
  refine List.perm_middle.trans ?_
  rw [List.take_append_drop]
theorem ins_ok {l : List Tmr} (h : OkT l) (hl : l.length < 20) {t : Tmr} (ht : 1 ≤ t.id ∧ 0 ≤ t.at' ∧ t.at' ≤ 1073741824) (hn : ∀ x ∈ l, x.id ≠ t.id) : OkT (ins l t) := by
  refine ⟨ins_wk h.wk hl ht, ?_⟩
  refine (((ins_perm l t).map (·.id)).nodup_iff).2 ?_
  rw [List.map_cons, List.nodup_cons]
  refine ⟨fun hm => ?_, h.ids⟩
  obtain ⟨x, hx, e⟩ := List.mem_map.1 hm
  exact hn x hx e
theorem ins_twice {l : List Tmr} (h : Wk l) (hl : l.length < 20) {t x : Tmr} (ht : 1 ≤ t.id ∧ 0 ≤ t.at' ∧ t.at' ≤ 1073741824) (hx : x ∈ l) (e : x.id = t.id) : chkT (ins l t) = 6 := by
  refine chk_twice (ins_wk h hl ht) fun hn => ?_
  have := (((ins_perm l t).map (·.id)).nodup_iff).1 hn
  rw [List.map_cons, List.nodup_cons] at this
  exact this.1 (List.mem_map.2 ⟨x, hx, e⟩)
theorem ins_len (l : List Tmr) (t : Tmr) : (ins l t).length = l.length + 1 := by
  have := (ins_perm l t).length_eq; simpa using this
theorem ins_mem {l : List Tmr} {t x : Tmr} : x ∈ ins l t ↔ x = t ∨ x ∈ l := by rw [(ins_perm l t).mem_iff]; simp
theorem ins_idx {l : List Tmr} {t : Tmr} (hn : ∀ x ∈ l, x.id ≠ t.id) : idxT t.id (ins l t) = plc l t := by
  unfold ins
  rw [idxT_at (fun x hx => hn x (List.mem_of_mem_take hx)) rfl, List.length_take, Nat.min_eq_left (plc_le l t)]
theorem ins_erase (l : List Tmr) (t : Tmr) : (ins l t).eraseIdx (plc l t) = l := by
  unfold ins
  rw [List.eraseIdx_append_of_length_le (by rw [List.length_take]; omega), List.length_take, Nat.min_eq_left (plc_le l t), Nat.sub_self, List.eraseIdx_cons_zero, List.take_append_drop]

/-- Those whose time has come. -/
def dueN (l : List Tmr) (now : Int) : Nat := (l.takeWhile (fun x => decide (x.at' ≤ now))).length
theorem dueN_le (l : List Tmr) (now : Int) : dueN l now ≤ l.length := tw_le _ _

/-- The timers of raw things: numbers from i + 1 on, at times a. -/
def tmrs (l : List Tmr) : List Int → Nat → List Tmr
  | [], _ => l
  | a :: r, i => tmrs (ins l ⟨(i : Int) + 1, a⟩) r (i + 1)
theorem tmrs_snoc : ∀ (r : List Int) (a : Int) (l : List Tmr) (i : Nat), tmrs l (r ++ [a]) i = ins (tmrs l r i) ⟨((i + r.length : Nat) : Int) + 1, a⟩
  | [], a, l, i => by simp [tmrs]
  | b :: r, a, l, i => by
    rw [List.cons_append, tmrs, tmrs, tmrs_snoc r a _ (i + 1), List.length_cons, show i + 1 + r.length = i + (r.length + 1) by omega]
theorem snoc_ind {α : Type} {P : List α → Prop} (h0 : P []) (hs : ∀ l a, P l → P (l ++ [a])) (l : List α) : P l := by
  have : ∀ m : List α, P m.reverse := by
    intro m
    induction m with
    | nil => exact h0
    | cons a m ih => rw [List.reverse_cons]; exact hs _ _ ih
  simpa using this l.reverse
/-- .. may be; their numbers are those. -/
theorem tmrs_ok (r : List Int) : (∀ a ∈ r, 0 ≤ a ∧ a ≤ 1073741824) → r.length ≤ 12 → OkT (tmrs [] r 0) ∧ (tmrs [] r 0).length = r.length ∧ ∀ x ∈ tmrs [] r 0, x.id ≤ r.length ∧ x.at' ∈ r := by
  refine snoc_ind (P := fun r => (∀ a ∈ r, 0 ≤ a ∧ a ≤ 1073741824) → r.length ≤ 12 → OkT (tmrs [] r 0) ∧ (tmrs [] r 0).length = r.length ∧ ∀ x ∈ tmrs [] r 0, x.id ≤ r.length ∧ x.at' ∈ r) ?_ ?_ r
  · intro _ _; exact ⟨⟨⟨by simp [tmrs], by simp [tmrs], by simp [tmrs]⟩, by simp [tmrs]⟩, rfl, by simp [tmrs]⟩
  · intro r a ih hr hl
    simp at hl
    obtain ⟨h1, h2, h3⟩ := ih (fun b hb => hr b (by simp [hb])) (by omega)
    have ha := hr a (by simp)
    rw [tmrs_snoc, Nat.zero_add]
    refine ⟨ins_ok h1 (by omega) ⟨by simp; omega, ha⟩ (fun x hx => ?_), by rw [ins_len, h2]; simp, fun x hx => ?_⟩
    · have := (h3 x hx).1; simp only; omega
    · rcases ins_mem.1 hx with rfl | hx
      · simp
      · have := h3 x hx
        simp only [List.length_append, List.length_singleton]
        exact ⟨by omega, by simp [this.2]⟩

end Go.Proofs.Ytpckomnpeainlab
