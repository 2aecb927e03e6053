/-
  How values are shown, in plain Lean: quoting and its undoing, numerals and their reading.
-/
import Derived.Test.YthplkompdehjlaaGreatDoorVl
import Derived.Lib.SplitLaws
import Derived.Lib.Replace
import Derived.Lib.ItoaNum
import Derived.Lib.ItoaMem
import Derived.Lib.AtoiAllCases
import Derived.Lib.Small
namespace Go.Proofs.YthplkompdehjlaaGreatDoor
open Go.RowKit
set_option linter.unusedVariables false

/-! ### Quoting -/
def rp (c : UInt8) (new : List UInt8) (b : UInt8) : List UInt8 := if b = c then new else [b]
theorem replaceK_one (c : UInt8) (new : List UInt8) : ∀ (s : List UInt8), Lib.replaceK [c] new (Lib.count s [c]) s = s.flatMap (rp c new)
  | [] => by rw [Lib.count_miss (by simp [Lib.index])]; rfl
  | b :: l => by
    have ih := replaceK_one c new l
    by_cases h : b = c
    · subst h
      have hix : Lib.index (b :: l) [b] = ((0 : Nat) : Int) := by rw [Lib.index]; simp [List.isPrefixOf]
      rw [Lib.count_cons_eq, Nat.add_comm, Lib.replaceK_hit _ _ _ _ 0 hix]
      simp [rp, ih]
    · rw [Lib.count_cons_ne b c l h]
      have e : (b :: l).flatMap (rp c new) = b :: l.flatMap (rp c new) := by simp [rp, h]
      rw [e, ← ih]
      cases hk : Lib.count l [c] with
      | zero => rfl
      | succ k =>
        obtain ⟨i, hi⟩ := Lib.index_of_count (s := l) (old := [c]) (by omega)
        have hp : ([c] : List UInt8).isPrefixOf (b :: l) = false := by simp [List.isPrefixOf, Ne.symm h]
        have hix : Lib.index (b :: l) [c] = ((i + 1 : Nat) : Int) := by
          rw [Lib.index, hp]
          simp only [Bool.false_eq_true, if_false]
          rw [hi, if_neg (by intro q; have := beq_iff_eq.1 q; omega)]; omega
        rw [Lib.replaceK_hit _ _ _ _ _ hix, Lib.replaceK_hit _ _ _ _ _ hi]
        rw [List.take_succ_cons, show i + 1 + ([c] : List UInt8).length = (i + ([c] : List UInt8).length) + 1 by simp, List.drop_succ_cons]
        rfl
theorem replaceAll_one (s : List UInt8) (c : UInt8) (new : List UInt8) (h : [c] ≠ new) : Lib.replaceAll s [c] new = s.flatMap (rp c new) := by
  unfold Lib.replaceAll Lib.replace
  rw [if_neg (by intro q; exact h (by simpa using q))]
  rw [show Lib.replaceNum s [c] (-1) = Lib.count s [c] from by unfold Lib.replaceNum; rw [if_pos (.inl (by decide))]]
  exact replaceK_one c new s

def escB (c : UInt8) : List UInt8 := if c = 34 ∨ c = 92 then [92, c] else [c]
def escL (s : List UInt8) : List UInt8 := s.flatMap escB
theorem rep_two (s : List UInt8) : Lib.replaceAll (Lib.replaceAll s [92] [92, 92]) [34] [92, 34] = escL s := by
  rw [replaceAll_one _ _ _ (by decide), replaceAll_one _ _ _ (by decide), List.flatMap_assoc]
  unfold escL
  congr 1
  funext c
  unfold rp escB
  by_cases h1 : c = 92
  · subst h1; simp
  · by_cases h2 : c = 34
    · subst h2; simp
    · simp [h1, h2]

def unqL : List UInt8 → List UInt8
  | [] => []
  | [c] => [c]
  | c :: d :: r => if c = 92 then d :: unqL r else c :: unqL (d :: r)
theorem unqL_cons (c : UInt8) (l : List UInt8) (h : c ≠ 92) : unqL (c :: l) = c :: unqL l := by
  cases l with
  | nil => rfl
  | cons d r => rw [unqL, if_neg h]
theorem unqL_esc (c : UInt8) (l : List UInt8) : unqL (92 :: c :: l) = c :: unqL l := by rw [unqL, if_pos rfl]
theorem unq_esc : ∀ s : List UInt8, unqL (escL s) = s
  | [] => rfl
  | c :: s => by
    have e : escL (c :: s) = escB c ++ escL s := rfl
    rw [e]
    unfold escB
    split
    · rw [List.cons_append, List.cons_append, List.nil_append, unqL_esc, unq_esc s]
    · rename_i h
      rw [List.cons_append, List.nil_append, unqL_cons _ _ (fun q => h (.inr q)), unq_esc s]
/-- What stands between the quotes, from i on. -/
def betw (s : ByteArray) (i : Nat) : List UInt8 := (s.data.toList.take (s.size - 1)).drop i
def unqS (s : ByteArray) : List UInt8 := unqL (betw s 1)
theorem toList_size (s : ByteArray) : s.data.toList.length = s.size := by rw [Array.length_toList]; rfl
theorem betw_end (s : ByteArray) (i : Nat) (h : s.size ≤ i + 1) : betw s i = [] := by
  unfold betw
  exact List.drop_eq_nil_of_le (by rw [List.length_take]; omega)
theorem betw_cons (s : ByteArray) (i : Nat) (h : i + 1 < s.size) : betw s i = s[i] :: betw s (i + 1) := by
  unfold betw
  have hl := toList_size s
  have h2 : i < (s.data.toList.take (s.size - 1)).length := by rw [List.length_take]; omega
  rw [List.drop_eq_getElem_cons h2]
  congr 1
  rw [List.getElem_take]
  rfl
theorem unq_skip (s : ByteArray) (i : Nat) (h : i + 2 < s.size) (hc : s[i] = 92) : unqL (betw s i) = s[i + 1] :: unqL (betw s (i + 2)) := by
  rw [betw_cons s i (by omega), betw_cons s (i + 1) (by omega), hc, unqL_esc]
theorem unq_one (s : ByteArray) (i : Nat) (h : i + 1 < s.size) (hc : s[i] ≠ 92 ∨ s.size ≤ i + 2) : unqL (betw s i) = s[i] :: unqL (betw s (i + 1)) := by
  rw [betw_cons s i h]
  rcases hc with hc | hc
  · exact unqL_cons _ _ hc
  · rw [betw_end s (i + 1) hc]; rfl

/-! ### Numerals -/
theorem dig_toNat (k : Nat) (h : k < 10) : (UInt8.ofNat (48 + k)).toNat = 48 + k := by rw [UInt8.toNat_ofNat']; omega
theorem parse_snoc (d : Nat) (hd : d < 10) : ∀ (l : List UInt8) (acc u : Nat), Lib.parseUint10 acc l = .ok u → u * 10 + d < 18446744073709551616 → u < 1844674407370955162 → Lib.parseUint10 acc (l ++ [UInt8.ofNat (48 + d)]) = .ok (u * 10 + d)
  | [], acc, u, h, hb, hb2 => by
    simp only [Lib.parseUint10, Lib.NumEnd.ok.injEq] at h
    subst h
    have e := dig_toNat d hd
    simp only [List.nil_append, Lib.parseUint10]
    rw [e, if_pos (by omega), if_neg (by omega), if_neg (by omega)]
    congr 1; omega
  | c :: r, acc, u, h, hb, hb2 => by
    rw [List.cons_append]
    simp only [Lib.parseUint10] at h ⊢
    split at h
    · rename_i h1
      rw [if_pos h1]
      split at h
      · cases h
      · rename_i h2
        rw [if_neg h2]
        split at h
        · cases h
        · rename_i h3
          rw [if_neg h3]
          exact parse_snoc d hd r _ u h hb hb2
    · cases h
theorem parse_dec (u : Nat) : u < 9223372036854775808 → Lib.parseUint10 0 (Lib.decDigits u) = .ok u := by
  induction u using Nat.strongRecOn with
  | _ u ih =>
    intro hu
    by_cases h : u < 10
    · rw [Lib.decDigits, dif_pos h]
      have e := dig_toNat u h
      simp only [Lib.parseUint10]
      rw [e, if_pos (by omega), if_neg (by omega), if_neg (by omega)]
      congr 1; omega
    · rw [Lib.decDigits, dif_neg h]
      have := parse_snoc (u % 10) (Nat.mod_lt _ (by omega)) _ 0 (u / 10) (ih (u / 10) (by omega) (by omega)) (by omega) (by omega)
      rw [this]
      congr 1; omega
theorem dec_head (u : Nat) : ∃ c r, Lib.decDigits u = c :: r ∧ 48 ≤ c.toNat ∧ c.toNat ≤ 57 := by
  induction u using Nat.strongRecOn with
  | _ u ih =>
    by_cases h : u < 10
    · exact ⟨_, [], by rw [Lib.decDigits, dif_pos h], by rw [dig_toNat u h]; omega, by rw [dig_toNat u h]; omega⟩
    · obtain ⟨c, r, e, h1, h2⟩ := ih (u / 10) (by omega)
      exact ⟨c, r ++ [UInt8.ofNat (48 + u % 10)], by rw [Lib.decDigits, dif_neg h, e]; rfl, h1, h2⟩
/-- What Atoi gives of a text. -/
def atoiN (l : List UInt8) : Int := match Lib.atoiAll l with
  | .ok v => v
  | .range => Lib.atoiSat l
  | _ => 0
theorem atoi_itoa (n : Int) (h0 : -9223372036854775807 ≤ n) (h1 : n ≤ 9223372036854775807) : atoiN (Lib.itoa n) = n := by
  unfold atoiN
  by_cases hn : n < 0
  · obtain ⟨u, rfl⟩ : ∃ u : Nat, n = -(u : Int) := ⟨n.natAbs, by omega⟩
    rw [Lib.itoa_neg u (by omega), Lib.atoiAll_minus]
    obtain ⟨c, r, e, -, -⟩ := dec_head u
    have hp : Lib.parseMag (Lib.decDigits u) = .ok u := by unfold Lib.parseMag; rw [if_neg (by rw [e]; simp), parse_dec u (by omega)]
    rw [hp, Lib.signed, if_neg (by omega)]
  · obtain ⟨u, rfl⟩ : ∃ u : Nat, n = (u : Int) := ⟨n.toNat, by omega⟩
    rw [Lib.itoa_nonneg]
    obtain ⟨c, r, e, k1, k2⟩ := dec_head u
    have hp : Lib.parseMag (Lib.decDigits u) = .ok u := by unfold Lib.parseMag; rw [if_neg (by rw [e]; simp), parse_dec u (by omega)]
    rw [e] at hp ⊢
    rw [Lib.atoiAll_plain c r (by omega) (by omega), hp, Lib.signless, if_neg (by omega)]
theorem itoa_head (n : Int) : ∃ c r, Lib.itoa n = c :: r ∧ (c.toNat = 45 ∨ (48 ≤ c.toNat ∧ c.toNat ≤ 57)) := by
  by_cases hn : n < 0
  · obtain ⟨u, rfl⟩ : ∃ u : Nat, n = -(u : Int) := ⟨n.natAbs, by omega⟩
    exact ⟨45, _, Lib.itoa_neg u (by omega), .inl rfl⟩
  · obtain ⟨u, rfl⟩ : ∃ u : Nat, n = (u : Int) := ⟨n.toNat, by omega⟩
    obtain ⟨c, r, e, k1, k2⟩ := dec_head u
    exact ⟨c, r, by rw [Lib.itoa_nonneg, e], .inr ⟨k1, k2⟩⟩
theorem atoiN_bd (l : List UInt8) : -9223372036854775808 ≤ atoiN l ∧ atoiN l ≤ 9223372036854775807 := by
  unfold atoiN
  split
  · rename_i v h; exact Lib.atoiAll_bounds h
  · unfold Lib.atoiSat; split <;> omega
  · omega
/-- How a reading ends. -/
theorem atoi_ends (l : List UInt8) : (∃ v, Lib.atoiAll l = .ok v) ∨ Lib.atoiAll l = Lib.atoiAll [] ∨ Lib.atoiAll l = .range := by
  cases Lib.atoiAll l with
  | ok v => exact .inl ⟨v, rfl⟩
  | range => exact .inr (.inr rfl)
  | _ => exact .inr (.inl rfl)

/-! ### Shown, and read -/
def bqm : ByteArray := ⟨#[63]⟩
def btrue : ByteArray := ⟨#[116, 114, 117, 101]⟩
def bfalse : ByteArray := ⟨#[102, 97, 108, 115, 101]⟩
/-- The value that a text may show. -/
def parseV (s : ByteArray) : Vl :=
  if s = bqm then ⟨4, 0, ⟨#[]⟩⟩ else if s = btrue then ⟨2, 1, ⟨#[]⟩⟩ else if s = bfalse then ⟨2, 0, ⟨#[]⟩⟩
  else match s.data.toList with
    | [] => ⟨1, 0, ⟨#[]⟩⟩
    | c :: r => if c = 33 then ⟨5, atoiN r, ⟨#[]⟩⟩ else if c = 34 then ⟨3, 0, ⟨(unqS s).toArray⟩⟩ else ⟨1, atoiN (c :: r), ⟨#[]⟩⟩
/-- The text that shows a value. -/
def showV (v : Vl) : ByteArray :=
  if v.k = 1 then ⟨(Lib.itoa v.n).toArray⟩ else if v.k = 2 then (if v.n = 1 then btrue else bfalse) else if v.k = 3 then ⟨(34 :: (escL v.s.data.toList ++ [34])).toArray⟩
  else if v.k = 4 then bqm else ⟨(33 :: Lib.itoa v.n).toArray⟩
theorem parse_show (v : Vl) (h : v.known) : parseV (showV v) = v := by
  obtain ⟨k, n, s⟩ := v
  rcases h with ⟨h1, h2, h3⟩ | ⟨h1, h2, h3⟩ | ⟨h1, h2, h3, h4⟩
  · simp only at h1 h2 h3
    subst h1 h3
    obtain ⟨b0, b1⟩ := h2
    have hs : showV ⟨1, n, ⟨#[]⟩⟩ = ⟨(Lib.itoa n).toArray⟩ := rfl
    have ha := atoi_itoa n (by omega) (by omega)
    obtain ⟨c, r, e, hc⟩ := itoa_head n
    rw [e] at ha
    rw [hs, e]
    have ne : ∀ (d : UInt8) (m : List UInt8), (d.toNat = 45 ∨ (48 ≤ d.toNat ∧ d.toNat ≤ 57)) ∨ (⟨(c :: r).toArray⟩ : ByteArray) ≠ ⟨(d :: m).toArray⟩ := by
      intro d m
      by_cases hd : c = d
      · subst hd; exact .inl hc
      · refine .inr fun q => hd ?_
        injection q with q
        have := congrArg Array.toList q
        simp at this
        exact this.1
    have n1 : (⟨(c :: r).toArray⟩ : ByteArray) ≠ bqm := (ne 63 []).resolve_left (by decide)
    have n2 : (⟨(c :: r).toArray⟩ : ByteArray) ≠ btrue := (ne 116 [114, 117, 101]).resolve_left (by decide)
    have n3 : (⟨(c :: r).toArray⟩ : ByteArray) ≠ bfalse := (ne 102 [97, 108, 115, 101]).resolve_left (by decide)
    unfold parseV
    rw [if_neg n1, if_neg n2, if_neg n3]
    simp only
    rw [if_neg (by intro q; subst q; revert hc; decide), if_neg (by intro q; subst q; revert hc; decide), ha]
  · simp only at h1 h2 h3
    subst h1 h3
    rcases h2 with rfl | rfl <;> rfl
  · simp only at h1 h2
    subst h1 h2
    have hs : showV ⟨3, 0, s⟩ = ⟨(34 :: (escL s.data.toList ++ [34])).toArray⟩ := rfl
    rw [hs]
    have ne : ∀ (d : UInt8) (m : List UInt8), d ≠ 34 → (⟨(34 :: (escL s.data.toList ++ [34])).toArray⟩ : ByteArray) ≠ ⟨(d :: m).toArray⟩ := by
      intro d m hd q
      injection q with q
      have := congrArg Array.toList q
      simp at this
      exact hd this.1.symm
    have n1 : _ ≠ bqm := ne 63 [] (by decide)
    have n2 : _ ≠ btrue := ne 116 [114, 117, 101] (by decide)
    have n3 : _ ≠ bfalse := ne 102 [97, 108, 115, 101] (by decide)
    unfold parseV
    rw [if_neg n1, if_neg n2, if_neg n3]
    simp only
    rw [if_neg (by decide)]
    have hu : unqS ⟨(34 :: (escL s.data.toList ++ [34])).toArray⟩ = s.data.toList := by
      unfold unqS betw
      have e1 : (⟨(34 :: (escL s.data.toList ++ [34])).toArray⟩ : ByteArray).size = (escL s.data.toList).length + 2 := by show Array.size _ = _; simp
      rw [e1]
      show unqL (((34 :: (escL s.data.toList ++ [34])).take ((escL s.data.toList).length + 2 - 1)).drop 1) = _
      rw [show (escL s.data.toList).length + 2 - 1 = (escL s.data.toList).length + 1 from rfl, List.take_succ_cons, List.drop_succ_cons, List.drop_zero, List.take_left, unq_esc]
    rw [hu, if_pos trivial]
theorem show_ne (v : Vl) (h : v.known) : showV v ≠ ⟨#[]⟩ := by
  intro q
  have hp := parse_show v h
  rw [q] at hp
  have e : parseV ⟨#[]⟩ = ⟨1, 0, ⟨#[]⟩⟩ := by
    unfold parseV; rw [if_neg (by decide), if_neg (by decide), if_neg (by decide)]
  rw [e] at hp
  subst hp
  have e2 : showV ⟨1, 0, ⟨#[]⟩⟩ = ⟨(Lib.itoa 0).toArray⟩ := rfl
  obtain ⟨c, r, e3, -⟩ := itoa_head 0
  rw [e2, e3] at q
  injection q with q
  simp at q

end Go.Proofs.YthplkompdehjlaaGreatDoor
