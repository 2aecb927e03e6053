/-
  Contracts of num.Mul: the product where it is within the limits, else ErrOver; of any two numbers within the limits. Contracts of num.Div and num.Mod.
-/
import Derived.Test.YthgcgciceejicaaNum
import Derived.Deep.QuietTactic
import Derived.BigQuiet
namespace Go.Proofs.Ythgcgciceejicaa
open Go.RowKit

/-- The plain law of the test by division, for a above 0. -/
theorem lim_mul_pos {a b : Int} (h : 0 < a) : Lim (a * b) ↔ b ≤ 1099511627776 / a ∧ -(1099511627776 / a) ≤ b := by
  have q1 : a * (1099511627776 / a) ≤ 1099511627776 := Int.mul_ediv_self_le (by omega)
  have q2 : (1099511627776 : Int) < a * (1099511627776 / a) + a := Int.lt_mul_ediv_self_add h
  generalize (1099511627776 : Int) / a = q at *
  unfold Lim
  constructor
  · rintro ⟨l, u⟩
    constructor
    · apply Int.not_lt.1
      intro hb
      have := Int.mul_le_mul_of_nonneg_left (show q + 1 ≤ b by omega) (show 0 ≤ a by omega)
      rw [Int.mul_add, Int.mul_one] at this
      omega
    · apply Int.not_lt.1
      intro hb
      have := Int.mul_le_mul_of_nonneg_left (show b ≤ -q - 1 by omega) (show 0 ≤ a by omega)
      rw [Int.mul_sub, Int.mul_one, Int.mul_neg] at this
      omega
  · rintro ⟨l, u⟩
    have h1 := Int.mul_le_mul_of_nonneg_left l (show 0 ≤ a by omega)
    have h2 := Int.mul_le_mul_of_nonneg_left u (show 0 ≤ a by omega)
    rw [Int.mul_neg] at h2
    constructor <;> omega

theorem quo_bounds {a : Int} (h : 0 < a) : 0 ≤ (1099511627776 : Int) / a ∧ (1099511627776 : Int) / a ≤ 1099511627776 := by
  refine ⟨Int.ediv_nonneg (by omega) (by omega), ?_⟩
  exact Int.ediv_le_self _ (by omega)

theorem wrap_pos {a : Int} (h : 0 < a) : wrap64 (-Int.tdiv 1099511627776 a) = -(1099511627776 / a) := by
  rw [Int.tdiv_eq_ediv_of_nonneg (by omega)]
  have := quo_bounds h
  exact IntWalk.wrap64_in _ (by omega)

theorem tdiv_neg {a : Int} (_h : a < 0) : Int.tdiv 1099511627776 a = -(1099511627776 / (-a)) := by
  have : Int.tdiv 1099511627776 a = -Int.tdiv 1099511627776 (-a) := by rw [Int.tdiv_neg, Int.neg_neg]
  rw [this, Int.tdiv_eq_ediv_of_nonneg (by omega)]

theorem wrap_neg1 {a : Int} (h : a < 0) : wrap64 (-Int.tdiv 1099511627776 a) = 1099511627776 / (-a) := by
  rw [tdiv_neg h, Int.neg_neg]
  have := quo_bounds (a := -a) (by omega)
  exact IntWalk.wrap64_in _ (by omega)
theorem wrap_neg2 {a : Int} (h : a < 0) : wrap64 (Int.tdiv 1099511627776 a) = -(1099511627776 / (-a)) := by
  rw [tdiv_neg h]
  have := quo_bounds (a := -a) (by omega)
  exact IntWalk.wrap64_in _ (by omega)

theorem lim_mul_neg {a b : Int} (h : a < 0) : Lim (a * b) ↔ -b ≤ 1099511627776 / (-a) ∧ -(1099511627776 / (-a)) ≤ -b := by
  rw [← lim_mul_pos (show 0 < -a by omega), Int.neg_mul_neg]

/-- The post of the product's closure. -/
def MulPost (a b : Int) (w : World) (e : Ending) (w' : World) : Prop :=
  ∃ n : Int, e = .returned (.int .i64 n) ∧ w = w' ∧ ((Lim (a * b) ∧ n = a * b) ∨ (¬ Lim (a * b) ∧ n = 1099511627777))

theorem mulPost_ok {a b n : Int} {w : World} (h : Lim (a * b)) (hn : n = wrap64 (a * b)) : MulPost a b w (.returned (.int .i64 n)) w :=
  ⟨n, rfl, rfl, .inl ⟨h, by rw [hn]; exact IntWalk.wrap64_in _ (by obtain ⟨h1, h2⟩ := h; omega)⟩⟩
theorem mulPost_over {a b n : Int} {w : World} (h : ¬ Lim (a * b)) (hn : n = 1099511627777) : MulPost a b w (.returned (.int .i64 n)) w :=
  ⟨n, rfl, rfl, .inr ⟨h, hn⟩⟩

theorem pos_ok {a b : Int} (h : 0 < a) (h1 : b ≤ 1099511627776 / a) (h2 : wrap64 (-Int.tdiv 1099511627776 a) ≤ b) : Lim (a * b) := by
  rw [wrap_pos h] at h2; exact (lim_mul_pos h).2 ⟨h1, h2⟩
theorem pos_over1 {a b : Int} (h : 0 < a) (h1 : 1099511627776 / a < b) : ¬ Lim (a * b) := fun k => by have := (lim_mul_pos h).1 k; omega
theorem pos_over2 {a b : Int} (h : 0 < a) (h2 : b < wrap64 (-Int.tdiv 1099511627776 a)) : ¬ Lim (a * b) := fun k => by
  rw [wrap_pos h] at h2; have := (lim_mul_pos h).1 k; omega
theorem neg_ok {a b : Int} (h : a < 0) (h1 : b ≤ wrap64 (-Int.tdiv 1099511627776 a)) (h2 : wrap64 (Int.tdiv 1099511627776 a) ≤ b) : Lim (a * b) := by
  rw [wrap_neg1 h] at h1; rw [wrap_neg2 h] at h2; exact (lim_mul_neg h).2 ⟨by omega, by omega⟩
theorem neg_over1 {a b : Int} (h : a < 0) (h1 : wrap64 (-Int.tdiv 1099511627776 a) < b) : ¬ Lim (a * b) := fun k => by
  rw [wrap_neg1 h] at h1; have := (lim_mul_neg h).1 k; omega
theorem neg_over2 {a b : Int} (h : a < 0) (h2 : b < wrap64 (Int.tdiv 1099511627776 a)) : ¬ Lim (a * b) := fun k => by
  rw [wrap_neg2 h] at h2; have := (lim_mul_neg h).1 k; omega

end Go.Proofs.Ythgcgciceejicaa

namespace Go.Proofs.Ythgcgciceejicaa
open Go.RowKit

/-- Whether the truncated quotient is one too great. -/
def down (a b : Int) : Bool := decide (a.tmod b ≠ 0) && (decide (a.tmod b < 0) != decide (b < 0))
def fq (a b : Int) : Int := if down a b then a.tdiv b - 1 else a.tdiv b
def fr (a b : Int) : Int := if down a b then a.tmod b + b else a.tmod b

theorem tmod_abs (a b : Int) (h : b ≠ 0) : (0 ≤ a.tmod b → 0 ≤ a.tmod b ∧ a.tmod b < b.natAbs) ∧ (a.tmod b < 0 → -(b.natAbs : Int) < a.tmod b) := by
  have h1 : (a.tmod b).natAbs < b.natAbs := by
    rw [Int.natAbs_tmod]; exact Nat.mod_lt _ (by omega)
  omega

theorem tdiv_lim {a b : Int} (ha : Lim a) : -1099511627776 ≤ a.tdiv b ∧ a.tdiv b ≤ 1099511627776 := by
  have h1 : (a.tdiv b).natAbs ≤ a.natAbs := by
    rw [Int.natAbs_tdiv]; exact Nat.div_le_self _ _
  obtain ⟨a0, a1⟩ := ha
  omega

theorem tmod_lim {a b : Int} (ha : Lim a) : -1099511627776 ≤ a.tmod b ∧ a.tmod b ≤ 1099511627776 := by
  have h1 : (a.tmod b).natAbs ≤ a.natAbs := by
    rw [Int.natAbs_tmod]; exact Nat.mod_le _ _
  obtain ⟨a0, a1⟩ := ha
  omega

/-- The post of a function that only reads, in an order that Go leaves open. -/
def Draws (v : Value) (w : World) (e : Ending) (w' : World) : Prop := e = .returned v ∧ ∃ n, w' = w.drewN n

theorem draws_mk {v v' : Value} {w : World} {n : Nat} (h : v = v') : Draws v' w (.returned v) (w.drewN n) := by subst h; exact ⟨rfl, n, rfl⟩

theorem down_false0 {a b : Int} (h : a.tmod b = 0) : down a b = false := by simp [down, h]
theorem down_true {a b : Int} (h : (a.tmod b != 0) = true ∧ (!decide (a.tmod b < 0) == decide (b < 0)) = true) : down a b = true := by
  obtain ⟨h1, h2⟩ := h
  have h1' : a.tmod b ≠ 0 := bne_iff_ne.1 h1
  unfold down
  rw [decide_eq_true h1']
  cases h3 : decide (a.tmod b < 0) <;> cases h4 : decide (b < 0) <;> simp_all
theorem down_false {a b : Int} (h : (a.tmod b != 0) = false ∨ (!decide (a.tmod b < 0) == decide (b < 0)) = false) : down a b = false := by
  unfold down
  rcases h with h | h
  · have : a.tmod b = 0 := by simpa using h
    simp [this]
  · cases h3 : decide (a.tmod b < 0) <;> cases h4 : decide (b < 0) <;> simp_all

theorem pair_down {a b q r : Int} (h : down a b = true) (hq : q = a.tdiv b - 1) (hr : r = a.tmod b + b) :
    Value.tuple #[.int .i64 q, .int .i64 r] = .tuple #[.int .i64 (fq a b), .int .i64 (fr a b)] := by simp [fq, fr, h, hq, hr]
theorem pair_up {a b : Int} (h : down a b = false) :
    Value.tuple #[.int .i64 (a.tdiv b), .int .i64 (a.tmod b)] = .tuple #[.int .i64 (fq a b), .int .i64 (fr a b)] := by simp [fq, fr, h]

theorem pair_zero {a b : Int} (h : a.tmod b = 0) :
    Value.tuple #[.int .i64 (a.tdiv b), .int .i64 0] = .tuple #[.int .i64 (fq a b), .int .i64 (fr a b)] := by simp [fq, fr, down_false0 h, h]

theorem fq_lim {a b : Int} (ha : Lim a) (_hb : Lim b) (h : b ≠ 0) : Lim (fq a b) := by
  have h1 := tdiv_lim (b := b) ha
  unfold fq
  split
  · rename_i k
    have h2 : a.tmod b ≠ 0 := by
      intro e; rw [down_false0 e] at k; cases k
    have h3 : (a.tdiv b).natAbs < a.natAbs ∨ -1099511627776 < a.tdiv b := by
      by_cases hb1 : b.natAbs = 1
      · exfalso; apply h2
        have : (a.tmod b).natAbs < 1 := by rw [Int.natAbs_tmod, hb1]; exact Nat.mod_lt _ (by omega)
        omega
      · by_cases ha0 : a.natAbs = 0
        · exfalso; apply h2
          have : a = 0 := by omega
          subst this; simp
        · left
          rw [Int.natAbs_tdiv]
          exact Nat.div_lt_self (by omega) (by omega)
    obtain ⟨a0, a1⟩ := ha
    unfold Lim; omega
  · exact h1

theorem fr_lim {a b : Int} (ha : Lim a) (hb : Lim b) (h : b ≠ 0) : Lim (fr a b) := by
  have h1 := tmod_lim (b := b) ha
  have h2 := tmod_abs a b h
  unfold fr
  split
  · rename_i k
    obtain ⟨b0, b1⟩ := hb
    unfold down at k
    have k2 : decide (a.tmod b < 0) ≠ decide (b < 0) := by
      intro e; rw [e] at k; simp at k
    unfold Lim
    by_cases c1 : a.tmod b < 0 <;> by_cases c2 : b < 0 <;> simp [c1, c2] at k2 <;> omega
  · exact h1

end Go.Proofs.Ythgcgciceejicaa
