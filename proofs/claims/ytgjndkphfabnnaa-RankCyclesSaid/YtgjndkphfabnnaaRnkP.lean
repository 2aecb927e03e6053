/-
  Ranks, in plain words.
-/
import Derived.Test.YtgjndkphfabnnaaChk
import Derived.Test.YtgjndkphfabnnaaNmO
namespace Go.Proofs.Ytgjndkphfabnnaa
open Go.RowKit

def plc (fs : List Fd) (s : ByteArray) : Nat := (findF fs s).toNat
/-- The places of the fields that a field asks for. -/
def needE (fs : List Fd) (f : Fd) : List Nat := if f.kind = 1 then [] else (namesE f.src).map (plc fs)
def needsE (fs : List Fd) : List (List Nat) := fs.map (needE fs)
/-- What a field's rank would be by the ranks so far: below 0 where one that it asks for has none. -/
def mostA (out : List Int) : Int → List Nat → Int
  | a, [] => a
  | a, k :: l => if out.getD k 0 < 0 then -1 else mostA out (max a (out.getD k 0 + 1)) l
def rkStep (need : List (List Nat)) (out : List Int) (i : Nat) : List Int := out.set i (max (out.getD i 0) (mostA out 0 (need.getD i [])))
/-- A round through the fields ahead of i. -/
def roundR (need : List (List Nat)) (out : List Int) : Nat → List Int
  | 0 => out
  | i + 1 => rkStep need (roundR need out i) i
/-- The ranks after t rounds. -/
def ranksR (need : List (List Nat)) : Nat → List Int
  | 0 => List.replicate need.length (-1)
  | t + 1 => roundR need (ranksR need t) need.length
theorem round_len (need : List (List Nat)) (out : List Int) : ∀ i, (roundR need out i).length = out.length
  | 0 => rfl
  | i + 1 => by rw [roundR, rkStep, List.length_set, round_len need out i]
theorem ranks_len (need : List (List Nat)) : ∀ t, (ranksR need t).length = need.length
  | 0 => by rw [ranksR, List.length_replicate]
  | t + 1 => by rw [ranksR, round_len, ranks_len need t]

/-! ### Where each field asks for those of a lower place alone (in some order), all have ranks -/
/-- r is right: each is one more than the greatest of those that it asks for. -/
def topR (r : List Int) (l : List Nat) : Int := l.foldl (fun a k => max a (r.getD k 0 + 1)) 0
theorem fold_top (r : List Int) : ∀ (l : List Nat) (a : Int), 0 ≤ a → l.foldl (fun a k => max a (r.getD k 0 + 1)) a = max a (topR r l) ∧ 0 ≤ topR r l
  | [], a, h => ⟨by unfold topR; simp only [List.foldl_nil]; omega, by unfold topR; simp⟩
  | k :: l, a, h => by
    have h1 := fold_top r l (max a (r.getD k 0 + 1)) (by omega)
    have h2 := fold_top r l (max 0 (r.getD k 0 + 1)) (by omega)
    have e : topR r (k :: l) = max (max 0 (r.getD k 0 + 1)) (topR r l) := by show List.foldl _ _ _ = _; rw [List.foldl_cons]; exact h2.1
    rw [List.foldl_cons, h1.1, e]
    have := h1.2
    exact ⟨by omega, by omega⟩
theorem top_cons (r : List Int) (k : Nat) (l : List Nat) : topR r (k :: l) = max (max 0 (r.getD k 0 + 1)) (topR r l) := (fold_top r l (max 0 (r.getD k 0 + 1)) (by omega)).1
theorem top_nn (r : List Int) (l : List Nat) : 0 ≤ topR r l := (fold_top r l 0 (Int.le_refl _)).2
theorem top_le {r : List Int} {k : Nat} : ∀ {l : List Nat}, k ∈ l → r.getD k 0 + 1 ≤ topR r l
  | x :: l, h => by
    rw [top_cons]
    rcases List.mem_cons.1 h with rfl | h
    · omega
    · have := top_le (r := r) h; omega
theorem top_ex {r : List Int} : ∀ {l : List Nat}, topR r l = 0 ∨ ∃ k ∈ l, topR r l = r.getD k 0 + 1
  | [] => .inl rfl
  | x :: l => by
    rw [top_cons]
    rcases top_ex (r := r) (l := l) with h | ⟨k, hk, h⟩
    · by_cases q : 0 ≤ r.getD x 0 + 1
      · exact .inr ⟨x, List.mem_cons_self, by omega⟩
      · exact .inl (by omega)
    · have := top_nn r l
      by_cases q : r.getD k 0 ≤ r.getD x 0
      · exact .inr ⟨x, List.mem_cons_self, by omega⟩
      · exact .inr ⟨k, List.mem_cons_of_mem _ hk, by omega⟩

/-- The true ranks ρ of needs by a level lv that falls from a field to those that it asks for. -/
structure Ranked (need : List (List Nat)) (ρ : List Int) (lv : Nat → Nat) : Prop where
  len : ρ.length = need.length
  at_ : ∀ i, i < need.length → ρ.getD i 0 = topR ρ (need.getD i [])
  low : ∀ i, i < need.length → ∀ k ∈ need.getD i [], k < need.length ∧ lv k < lv i
  few : ∀ i, i < need.length → lv i < need.length
theorem mostA_yes {out ρ : List Int} : ∀ (l : List Nat) (a : Int), 0 ≤ a → (∀ k ∈ l, out.getD k 0 = ρ.getD k 0 ∧ 0 ≤ ρ.getD k 0) → mostA out a l = max a (topR ρ l)
  | [], a, h, _ => by unfold mostA topR; simp only [List.foldl_nil]; omega
  | k :: l, a, h, hk => by
    obtain ⟨h1, h2⟩ := hk k (by simp)
    unfold mostA
    rw [if_neg (by omega), mostA_yes l _ (by omega) (fun k' hk' => hk k' (by simp [hk'])), h1, top_cons]
    omega
theorem mostA_no {out : List Int} : ∀ (l : List Nat) (a : Int), (∃ k ∈ l, out.getD k 0 < 0) → mostA out a l = -1
  | k :: l, a, ⟨k', hk', h⟩ => by
    unfold mostA
    split
    · rfl
    · rename_i q
      rcases List.mem_cons.1 hk' with rfl | hk'
      · exact absurd h q
      · exact mostA_no l _ ⟨k', hk', h⟩
/-- Each has its rank or none yet, and those below a level have it. -/
structure Good (need : List (List Nat)) (ρ : List Int) (lv : Nat → Nat) (out : List Int) (t i : Nat) : Prop where
  len : out.length = need.length
  or_ : ∀ j, j < need.length → out.getD j 0 = ρ.getD j 0 ∨ out.getD j 0 = -1
  has : ∀ j, j < need.length → lv j < t → out.getD j 0 = ρ.getD j 0
  now : ∀ j, j < i → j < need.length → lv j < t + 1 → out.getD j 0 = ρ.getD j 0
theorem rank_nn {need : List (List Nat)} {ρ : List Int} {lv : Nat → Nat} (h : Ranked need ρ lv) {i : Nat} (hi : i < need.length) : 0 ≤ ρ.getD i 0 := by rw [h.at_ i hi]; exact top_nn _ _
theorem getD_set {l : List Int} {i j : Nat} {v : Int} (hi : i < l.length) : (l.set i v).getD j 0 = if j = i then v else l.getD j 0 := by
  rw [List.getD_eq_getElem?_getD, List.getD_eq_getElem?_getD, List.getElem?_set]
  by_cases e : i = j
  · subst e; rw [if_pos rfl, if_pos hi, if_pos rfl]; rfl
  · rw [if_neg e, if_neg fun q => e q.symm]
theorem step_good {need : List (List Nat)} {ρ : List Int} {lv : Nat → Nat} (h : Ranked need ρ lv) {out : List Int} {t i : Nat} (g : Good need ρ lv out t i) (hi : i < need.length) : Good need ρ lv (rkStep need out i) t (i + 1) := by
  have hil : i < out.length := by rw [g.len]; exact hi
  have hn := rank_nn h hi
  have hold := g.or_ i hi
  have key : (max (out.getD i 0) (mostA out 0 (need.getD i [])) = ρ.getD i 0 ∨ max (out.getD i 0) (mostA out 0 (need.getD i [])) = out.getD i 0) ∧ (lv i < t + 1 → max (out.getD i 0) (mostA out 0 (need.getD i [])) = ρ.getD i 0) := by
    by_cases q : ∃ k ∈ need.getD i [], out.getD k 0 < 0
    · rw [mostA_no _ _ q]
      refine ⟨.inr (by omega), fun hlv => ?_⟩
      obtain ⟨k, hk, hkl⟩ := q
      obtain ⟨k1, k2⟩ := h.low i hi k hk
      have := g.has k k1 (by omega)
      have := rank_nn h k1
      omega
    · have hy : mostA out 0 (need.getD i []) = max 0 (topR ρ (need.getD i [])) := mostA_yes _ _ (Int.le_refl _) fun k hk => by
        obtain ⟨k1, k2⟩ := h.low i hi k hk
        have hp := rank_nn h k1
        refine ⟨?_, hp⟩
        rcases g.or_ k k1 with e | e
        · exact e
        · exact absurd ⟨k, hk, by omega⟩ q
      rw [hy, ← h.at_ i hi]
      exact ⟨.inl (by omega), fun _ => by omega⟩
  unfold rkStep
  refine ⟨by rw [List.length_set]; exact g.len, fun j hj => ?_, fun j hj hl => ?_, fun j hj hj2 hl => ?_⟩
  · rw [getD_set hil]
    split
    · rename_i e; subst e
      rcases key.1 with q | q
      · exact .inl q
      · rw [q]; exact hold
    · exact g.or_ j hj
  · rw [getD_set hil]
    split
    · rename_i e; subst e; exact key.2 (by omega)
    · exact g.has j hj hl
  · rw [getD_set hil]
    split
    · rename_i e; subst e; exact key.2 hl
    · exact g.now j (by omega) hj2 hl
theorem round_good {need : List (List Nat)} {ρ : List Int} {lv : Nat → Nat} (h : Ranked need ρ lv) {out : List Int} {t : Nat} (g : Good need ρ lv out t 0) : ∀ i, i ≤ need.length → Good need ρ lv (roundR need out i) t i
  | 0, _ => g
  | i + 1, hi => step_good h (round_good h g i (by omega)) (by omega)
theorem ranks_good {need : List (List Nat)} {ρ : List Int} {lv : Nat → Nat} (h : Ranked need ρ lv) : ∀ t, Good need ρ lv (ranksR need t) t 0
  | 0 => ⟨ranks_len need 0, fun j hj => .inr (by rw [ranksR, List.getD_eq_getElem?_getD, List.getElem?_replicate, if_pos hj]; rfl), fun j hj hl => absurd hl (by omega), fun j hj => absurd hj (by omega)⟩
  | t + 1 => by
    have g := round_good h (ranks_good h t) need.length (Nat.le_refl _)
    exact ⟨g.len, g.or_, fun j hj hl => g.now j hj hj hl, fun j hj => absurd hj (by omega)⟩
theorem ranks_true {need : List (List Nat)} {ρ : List Int} {lv : Nat → Nat} (h : Ranked need ρ lv) : ranksR need need.length = ρ := by
  have g := ranks_good h need.length
  refine List.ext_getElem? fun i => ?_
  by_cases hi : i < need.length
  · have := g.has i hi (h.few i hi)
    rw [List.getD_eq_getElem?_getD, List.getD_eq_getElem?_getD, List.getElem?_eq_getElem (by rw [g.len]; exact hi), List.getElem?_eq_getElem (by rw [h.len]; exact hi)] at this
    rw [List.getElem?_eq_getElem (by rw [g.len]; exact hi), List.getElem?_eq_getElem (by rw [h.len]; exact hi)]
    exact congrArg some this
  · rw [List.getElem?_eq_none (by rw [g.len]; omega), List.getElem?_eq_none (by rw [h.len]; omega)]

end Go.Proofs.Ytgjndkphfabnnaa
