/-
  Contracts of num.Mul: the product where it is within the limits, else ErrOver; of any two numbers within the limits.
-/
import Derived.Test.YtgjndkphfabnnaaNum
namespace Go.Proofs.Ytgjndkphfabnnaa
open Go.RowKit

/-- The plain law of the test by division, for a above 0. -/
theorem lim_mul_pos {a b : Int} (h : 0 < a) : Lim (a * b) ↔ b ≤ 1099511627776 / a ∧ -(1099511627776 / a) ≤ b := by
  have q1 : a * (1099511627776 / a) ≤ 1099511627776 := Int.mul_ediv_self_le (by omega)
  have q2 : (1099511627776 : Int) < a * (1099511627776 / a) + a := Int.lt_mul_ediv_self_add h
  generalize (1099511627776 : Int) / a = q at *
  unfold Lim
  constructor
  · rintro ⟨l, u⟩
    constructor
    · apply Int.not_lt.1
      intro hb
      have := Int.mul_le_mul_of_nonneg_left (show q + 1 ≤ b by omega) (show 0 ≤ a by omega)
      rw [Int.mul_add, Int.mul_one] at this
      omega
    · apply Int.not_lt.1
      intro hb
      have := Int.mul_le_mul_of_nonneg_left (show b ≤ -q - 1 by omega) (show 0 ≤ a by omega)
      rw [Int.mul_sub, Int.mul_one, Int.mul_neg] at this
      omega
  · rintro ⟨l, u⟩
    have h1 := Int.mul_le_mul_of_nonneg_left l (show 0 ≤ a by omega)
    have h2 := Int.mul_le_mul_of_nonneg_left u (show 0 ≤ a by omega)
    rw [Int.mul_neg] at h2
    constructor <;> omega

theorem quo_bounds {a : Int} (h : 0 < a) : 0 ≤ (1099511627776 : Int) / a ∧ (1099511627776 : Int) / a ≤ 1099511627776 := by
  refine ⟨Int.ediv_nonneg (by omega) (by omega), ?_⟩
  exact Int.ediv_le_self _ (by omega)

theorem wrap_pos {a : Int} (h : 0 < a) : wrap64 (-Int.tdiv 1099511627776 a) = -(1099511627776 / a) := by
  rw [Int.tdiv_eq_ediv_of_nonneg (by omega)]
  have := quo_bounds h
  exact IntWalk.wrap64_in _ (by omega)

theorem tdiv_neg {a : Int} (_h : a < 0) : Int.tdiv 1099511627776 a = -(1099511627776 / (-a)) := by
  have : Int.tdiv 1099511627776 a = -Int.tdiv 1099511627776 (-a) := by rw [Int.tdiv_neg, Int.neg_neg]
  rw [this, Int.tdiv_eq_ediv_of_nonneg (by omega)]

theorem wrap_neg1 {a : Int} (h : a < 0) : wrap64 (-Int.tdiv 1099511627776 a) = 1099511627776 / (-a) := by
  rw [tdiv_neg h, Int.neg_neg]
  have := quo_bounds (a := -a) (by omega)
  exact IntWalk.wrap64_in _ (by omega)
theorem wrap_neg2 {a : Int} (h : a < 0) : wrap64 (Int.tdiv 1099511627776 a) = -(1099511627776 / (-a)) := by
  rw [tdiv_neg h]
  have := quo_bounds (a := -a) (by omega)
  exact IntWalk.wrap64_in _ (by omega)

theorem lim_mul_neg {a b : Int} (h : a < 0) : Lim (a * b) ↔ -b ≤ 1099511627776 / (-a) ∧ -(1099511627776 / (-a)) ≤ -b := by
  rw [← lim_mul_pos (show 0 < -a by omega), Int.neg_mul_neg]

/-- The post of the product's closure. -/
def MulPost (a b : Int) (w : World) (e : Ending) (w' : World) : Prop :=
  ∃ n : Int, e = .returned (.int .i64 n) ∧ w = w' ∧ ((Lim (a * b) ∧ n = a * b) ∨ (¬ Lim (a * b) ∧ n = 1099511627777))

theorem mulPost_ok {a b n : Int} {w : World} (h : Lim (a * b)) (hn : n = wrap64 (a * b)) : MulPost a b w (.returned (.int .i64 n)) w :=
  ⟨n, rfl, rfl, .inl ⟨h, by rw [hn]; exact IntWalk.wrap64_in _ (by obtain ⟨h1, h2⟩ := h; omega)⟩⟩
theorem mulPost_over {a b n : Int} {w : World} (h : ¬ Lim (a * b)) (hn : n = 1099511627777) : MulPost a b w (.returned (.int .i64 n)) w :=
  ⟨n, rfl, rfl, .inr ⟨h, hn⟩⟩

theorem pos_ok {a b : Int} (h : 0 < a) (h1 : b ≤ 1099511627776 / a) (h2 : wrap64 (-Int.tdiv 1099511627776 a) ≤ b) : Lim (a * b) := by
  rw [wrap_pos h] at h2; exact (lim_mul_pos h).2 ⟨h1, h2⟩
theorem pos_over1 {a b : Int} (h : 0 < a) (h1 : 1099511627776 / a < b) : ¬ Lim (a * b) := fun k => by have := (lim_mul_pos h).1 k; omega
theorem pos_over2 {a b : Int} (h : 0 < a) (h2 : b < wrap64 (-Int.tdiv 1099511627776 a)) : ¬ Lim (a * b) := fun k => by
  rw [wrap_pos h] at h2; have := (lim_mul_pos h).1 k; omega
theorem neg_ok {a b : Int} (h : a < 0) (h1 : b ≤ wrap64 (-Int.tdiv 1099511627776 a)) (h2 : wrap64 (Int.tdiv 1099511627776 a) ≤ b) : Lim (a * b) := by
  rw [wrap_neg1 h] at h1; rw [wrap_neg2 h] at h2; exact (lim_mul_neg h).2 ⟨by omega, by omega⟩
theorem neg_over1 {a b : Int} (h : a < 0) (h1 : wrap64 (-Int.tdiv 1099511627776 a) < b) : ¬ Lim (a * b) := fun k => by
  rw [wrap_neg1 h] at h1; have := (lim_mul_neg h).1 k; omega
theorem neg_over2 {a b : Int} (h : a < 0) (h2 : b < wrap64 (Int.tdiv 1099511627776 a)) : ¬ Lim (a * b) := fun k => by
  rw [wrap_neg2 h] at h2; have := (lim_mul_neg h).1 k; omega

set_option maxHeartbeats 400000 in
theorem mul1_pos (a b : Int) (w : World) (ha : Lim a) (hb : Lim b) (h : 0 < a) :
    Calls Try.prog 151 #[.int .i64 a, .int .i64 b] w (MulPost a b w) := by
  obtain ⟨a0, a1⟩ := ha
  obtain ⟨b0, b1⟩ := hb
  go_enter Try.func151, Try.ntmps151
  go_wp2
  · go_ret
    exact mulPost_ok (pos_ok h ‹_› ‹_›) rfl
  · go_ret
    exact mulPost_over (pos_over2 h ‹_›) rfl
  · go_ret
    exact mulPost_over (pos_over1 h ‹_›) rfl

set_option maxHeartbeats 400000 in
theorem mul1_neg (a b : Int) (w : World) (ha : Lim a) (hb : Lim b) (h : a < 0) :
    Calls Try.prog 151 #[.int .i64 a, .int .i64 b] w (MulPost a b w) := by
  obtain ⟨a0, a1⟩ := ha
  obtain ⟨b0, b1⟩ := hb
  have hz : (a != 0) = true := by rw [bne_iff_ne]; omega
  go_enter Try.func151, Try.ntmps151
  go_wp2
  · go_ret
    rename_i k1 k2 _
    rcases k2 with k2 | k2
    · exact mulPost_over (neg_over1 h k2) rfl
    · exact mulPost_over (neg_over2 h k2) rfl
  · go_ret
    rename_i k1 k2 _
    exact mulPost_ok (neg_ok h k2.1 k2.2) rfl
  · go_ret
    exact mulPost_over (neg_over1 h ‹_›) rfl

set_option maxHeartbeats 400000 in
theorem mul1_zero (b : Int) (w : World) :
    Calls Try.prog 151 #[.int .i64 0, .int .i64 b] w (MulPost 0 b w) := by
  have hz : ((0 : Int) != 0) = false := by decide
  go_enter Try.func151, Try.ntmps151
  go_wp2
  go_ret
  exact ⟨0, by simp, rfl, .inl ⟨by simp [Lim], by simp⟩⟩

theorem mul1_any (a b : Int) (w : World) (ha : Lim a) (hb : Lim b) : Calls Try.prog 151 #[.int .i64 a, .int .i64 b] w (MulPost a b w) := by
  by_cases h : 0 < a
  · exact mul1_pos a b w ha hb h
  · by_cases k : a < 0
    · exact mul1_neg a b w ha hb k
    · obtain rfl : a = 0 := by omega
      exact mul1_zero b w

theorem mul1_ok (a b : Int) (w : World) (ha : Lim a) (hb : Lim b) (hn : Lim (a * b)) :
    Calls Try.prog 151 #[.int .i64 a, .int .i64 b] w fun e w' => e = .returned (.int .i64 (a * b)) ∧ w = w' := by
  refine (mul1_any a b w ha hb).mono ?_
  rintro e w' ⟨n, rfl, rfl, ⟨_, rfl⟩ | ⟨h, _⟩⟩
  · exact ⟨rfl, rfl⟩
  · exact (h hn).elim
theorem mul1_over (a b : Int) (w : World) (ha : Lim a) (hb : Lim b) (hn : ¬ Lim (a * b)) :
    Calls Try.prog 151 #[.int .i64 a, .int .i64 b] w fun e w' => e = .returned (.int .i64 1099511627777) ∧ w = w' := by
  refine (mul1_any a b w ha hb).mono ?_
  rintro e w' ⟨n, rfl, rfl, ⟨h, rfl⟩ | ⟨_, rfl⟩⟩
  · exact (hn h).elim
  · exact ⟨rfl, rfl⟩

set_option maxRecDepth 100000 in
theorem mul_ok (a b n : Int) (w : World) (ha : Lim a) (hb : Lim b) (hn : Lim n) (h : n = a * b) :
    Calls Try.prog 129 #[.int .i64 a, .int .i64 b] w fun e w' => e = .returned (.tuple #[.int .i64 n, .int .i64 0]) ∧ w = w' := by
  subst h
  have H := Lib.hid (within_ok 151 a b (a * b) w ha hb hn (by rfl) (mul1_ok a b w ha hb hn))
  clear ha hb hn
  generalize a * b = n at *
  go_enter Try.func129, Try.ntmps129
  go_wp2_with fail
  with_reducible refine (H.out).mono ?_
  rintro e w' ⟨rfl, rfl⟩
  go_wp2_with fail
  go_ret2
  exact ⟨rfl, rfl⟩

set_option maxRecDepth 100000 in
theorem mul_over (a b : Int) (w : World) (ha : Lim a) (hb : Lim b) (hn : ¬ Lim (a * b)) :
    Calls Try.prog 129 #[.int .i64 a, .int .i64 b] w fun e w' => e = .returned (.tuple #[.int .i64 0, .int .i64 7]) ∧ w = w' := by
  have H := Lib.hid (within_over 151 a b 1099511627777 w ha hb (by omega) (by rfl) (mul1_over a b w ha hb hn))
  clear ha hb hn
  go_enter Try.func129, Try.ntmps129
  go_wp2_with fail
  with_reducible refine (H.out).mono ?_
  rintro e w' ⟨rfl, rfl⟩
  go_wp2_with fail
  go_ret2
  exact ⟨rfl, rfl⟩

end Go.Proofs.Ytgjndkphfabnnaa
