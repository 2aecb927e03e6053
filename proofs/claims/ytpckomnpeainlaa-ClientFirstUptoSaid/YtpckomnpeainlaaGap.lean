/-
  Contracts of package gap and of the law's own Policy.
-/
import Derived.Test.YtpckomnpeainlaaNum
import Derived.Test.YtpckomnpeainlaaBase
namespace Go.Proofs.Ytpckomnpeainlaa
open Go.RowKit

def pol (t b c : Int) : Value := .agg #[.int .i64 t, .int .i64 b, .int .i64 c]

set_option maxHeartbeats 400000 in
theorem gap_check (t b c : Int) (w : World) (h0 : 1 ≤ t) (h1 : t ≤ 6) (h2 : 1 ≤ b) (h3 : b ≤ c) (h4 : c ≤ 1000) :
    Calls Try.prog 52 #[.agg #[.int .i64 t, .int .i64 b, .int .i64 c]] w (Gives (.int .i64 0) w) := by
  go_enter Try.func52, Try.ntmps52
  go_wp2
  go_ret
  exact ⟨rfl, (Below.refl _ _).alloc (Nat.le_refl _) _⟩

/-- How long is waited behind try n. -/
def gapV (b c n : Int) : Int := if b * 2 ^ (n.toNat - 1) ≤ c then b * 2 ^ (n.toNat - 1) else c

theorem pow_small {b n : Int} (h2 : 1 ≤ b) (h3 : b ≤ 1000) (h5 : 1 ≤ n) (h6 : n ≤ 6) : 1 ≤ b * 2 ^ (n.toNat - 1) ∧ b * 2 ^ (n.toNat - 1) ≤ 32000 := by
  obtain rfl | rfl | rfl | rfl | rfl | rfl : n = 1 ∨ n = 2 ∨ n = 3 ∨ n = 4 ∨ n = 5 ∨ n = 6 := by omega
  all_goals simp
  all_goals omega

theorem gap_le {b c n : Int} (h2 : 1 ≤ b) (h3 : b ≤ 1000) (h5 : 1 ≤ n) (h6 : n ≤ 6) (h : wrap64 (b * 2 ^ (n.toNat - 1)) ≤ c) :
    Value.tuple #[.int .i64 (wrap64 (b * 2 ^ (n.toNat - 1))), .int .i64 0] = .tuple #[.int .i64 (gapV b c n), .int .i64 0] := by
  have := pow_small h2 h3 h5 h6
  rw [IntWalk.wrap64_in _ (by omega)] at h ⊢
  rw [gapV, if_pos h]
theorem gap_gt {b c n : Int} (h2 : 1 ≤ b) (h3 : b ≤ 1000) (h5 : 1 ≤ n) (h6 : n ≤ 6) (h : c < wrap64 (b * 2 ^ (n.toNat - 1))) :
    Value.tuple #[.int .i64 c, .int .i64 0] = .tuple #[.int .i64 (gapV b c n), .int .i64 0] := by
  have := pow_small h2 h3 h5 h6
  rw [IntWalk.wrap64_in _ (by omega)] at h
  rw [gapV, if_neg (by omega)]

theorem gapV_lo {b c n : Int} (h2 : 1 ≤ b) (h3 : b ≤ c) (h4 : c ≤ 1000) (h5 : 1 ≤ n) (h6 : n ≤ 6) : 1 ≤ gapV b c n := by
  have := pow_small h2 (by omega) h5 h6
  unfold gapV; split <;> omega
theorem gapV_hi {b c n : Int} : gapV b c n ≤ c := by
  unfold gapV; split <;> omega

set_option maxHeartbeats 400000 in
theorem gap_of (t b c n : Int) (w : World) (h0 : 1 ≤ t) (h1 : t ≤ 6) (h2 : 1 ≤ b) (h3 : b ≤ c) (h4 : c ≤ 1000) (h5 : 1 ≤ n) (h6 : n ≤ t) :
    Calls Try.prog 25 #[.agg #[.int .i64 t, .int .i64 b, .int .i64 c], .int .i64 n] w (Gives (.tuple #[.int .i64 (gapV b c n), .int .i64 0]) w) := by
  go_enter Try.func25, Try.ntmps25
  go_wp2_with fail
  with_reducible refine (gap_check t b c _ h0 h1 h2 h3 h4).mono ?_
  rintro e w' ⟨rfl, hb⟩
  have hbb : Below w.heap.size w w' := ((Below.refl _ _).alloc (Nat.le_refl _) _).trans (hb.mono (by simp))
  obtain ⟨hc, hf⟩ := bcell hb
  go_wp2_with fail
  go_quiet (fail)
  go_wp2_with fail
  all_goals go_ret2
  all_goals first | exact gives_mk (gap_le h2 (by omega) h5 (by omega) (by assumption)) (below_drewN hbb _) | exact gives_mk (gap_gt h2 (by omega) h5 (by omega) (by assumption)) (below_drewN hbb _)

set_option maxHeartbeats 400000 in
theorem gap_of_over (t b c n : Int) (w : World) (h0 : 1 ≤ t) (h1 : t ≤ 6) (h2 : 1 ≤ b) (h3 : b ≤ c) (h4 : c ≤ 1000) (h6 : t < n) :
    Calls Try.prog 25 #[.agg #[.int .i64 t, .int .i64 b, .int .i64 c], .int .i64 n] w (Gives (.tuple #[.int .i64 0, .int .i64 4]) w) := by
  go_enter Try.func25, Try.ntmps25
  go_wp2_with fail
  with_reducible refine (gap_check t b c _ h0 h1 h2 h3 h4).mono ?_
  rintro e w' ⟨rfl, hb⟩
  have hbb : Below w.heap.size w w' := ((Below.refl _ _).alloc (Nat.le_refl _) _).trans (hb.mono (by simp))
  obtain ⟨hc, hf⟩ := bcell hb
  go_wp2_with fail
  go_ret2
  exact ⟨rfl, hbb⟩

/-- The post of the law's own Policy: a policy that may be. -/
def SomePol (w : World) (e : Ending) (w' : World) : Prop :=
  ∃ t b c : Int, 1 ≤ t ∧ t ≤ 6 ∧ 1 ≤ b ∧ b ≤ c ∧ b ≤ 50 ∧ c ≤ 249 ∧ e = .returned (.agg #[.int .i64 t, .int .i64 b, .int .i64 c]) ∧ Below w.heap.size w w'

set_option maxHeartbeats 400000 in
theorem policy_any (a b c : Int) (w : World) (h0 : -9223372036854775808 ≤ a) (h1 : a ≤ 9223372036854775807) (h2 : -9223372036854775808 ≤ b) (h3 : b ≤ 9223372036854775807)
    (h4 : -9223372036854775808 ≤ c) (h5 : c ≤ 9223372036854775807) : Calls Try.prog 24 #[.int .i64 a, .int .i64 b, .int .i64 c] w (SomePol w) := by
  have p0 := pickL_lo a 6 (by omega)
  have p1 := pickL_hi a 6 (by omega)
  have q0 := pickL_lo b 50 (by omega)
  have q1 := pickL_hi b 50 (by omega)
  have r0 := pickL_lo c 200 (by omega)
  have r1 := pickL_hi c 200 (by omega)
  go_enter Try.func24, Try.ntmps24
  go_wp2_with fail
  with_reducible refine (picked_any b 50 _ h2 h3 (by omega) (by omega)).mono ?_
  rintro e w' ⟨rfl, rfl⟩
  go_wp2_with fail
  with_reducible refine (picked_any a 6 _ h0 h1 (by omega) (by omega)).mono ?_
  rintro e w' ⟨rfl, rfl⟩
  go_wp2_with fail
  with_reducible refine (picked_any c 200 _ h4 h5 (by omega) (by omega)).mono ?_
  rintro e w' ⟨rfl, rfl⟩
  go_wp2_with fail
  refine bodyPost_ret (v := .agg #[.int .i64 (1 + pickL a 6), .int .i64 (1 + pickL b 50), .int .i64 (1 + pickL b 50 + pickL c 200)]) (by simp [results, Try.results24, go_sem]) rfl ⟨_, _, _, by omega, by omega, by omega, by omega, by omega, by omega, rfl, (Below.refl _ _).alloc (Nat.le_refl _) _⟩

/-- How long is waited in the first k tries. -/
def sumV (b c : Int) : Nat → Int
  | 0 => 0
  | k + 1 => sumV b c k + gapV b c ((k : Int) + 1)

theorem sumV_bd {b c : Int} (h2 : 1 ≤ b) (h3 : b ≤ c) (h4 : c ≤ 1000) (k : Nat) (hk : k ≤ 6) : 0 ≤ sumV b c k ∧ sumV b c k ≤ 1000 * k := by
  induction k with
  | zero => simp [sumV]
  | succ k ih =>
    have := ih (by omega)
    have h5 := gapV_lo (n := (k : Int) + 1) h2 h3 h4 (by omega) (by omega)
    have h6 := gapV_hi (b := b) (c := c) (n := (k : Int) + 1)
    simp only [sumV]
    omega

set_option maxHeartbeats 400000 in
theorem gap_whole (t b c : Int) (w : World) (h0 : 1 ≤ t) (h1 : t ≤ 6) (h2 : 1 ≤ b) (h3 : b ≤ c) (h4 : c ≤ 1000) :
    Calls Try.prog 26 #[.agg #[.int .i64 t, .int .i64 b, .int .i64 c]] w (Gives (.tuple #[.int .i64 (sumV b c t.toNat), .int .i64 0]) w) := by
  have hx := Box.new w #[.int .i64 t, .int .i64 b, .int .i64 c] 45
  have hbw : Below w.heap.size w (w.alloc (.cells #[.int .i64 t, .int .i64 b, .int .i64 c] 45)) := (Below.refl _ _).alloc (Nat.le_refl _) _
  have HX := Lib.hid hx
  clear hx
  go_enter Try.func26, Try.ntmps26
  go_wp2_with fail
  with_reducible refine (gap_check t b c _ h0 h1 h2 h3 h4).mono ?_
  rintro e w' ⟨rfl, hb⟩
  have hx := HX.out.keep hb
  have hbw' := bnext hbw (by simp) hb
  clear HX hb hbw
  have x0 := hx.cells 0 _ rfl
  go_wp2_with fail
  clear x0
  go_loopw [5, 16] (fun n i wr => ∃ k : Nat, k ≤ t.toNat ∧ i = .int .i64 k ∧ n = .int .i64 (sumV b c k) ∧ Box wr w.heap.size [.int .i64 t, .int .i64 b, .int .i64 c] ∧ Below w.heap.size w wr) (fun _ i _ => 6 - (intOf i).toNat)
  case atStart => exact ⟨0, by omega, rfl, rfl, hx, hbw'⟩
  case round =>
    obtain ⟨k, hk, rfl, rfl, hxr, hbr⟩ := hrel
    have x0 := hxr.cells 0 _ rfl
    have x1 := hxr.cells 1 _ rfl
    have x2 := hxr.cells 2 _ rfl
    have hs := sumV_bd h2 h3 h4 k (by omega)
    obtain ⟨s0, s1⟩ := hs
    by_cases hlt : (k : Int) < t
    · have g1 := gapV_lo (n := (k : Int) + 1) h2 h3 h4 (by omega) (by omega)
      have g2 := gapV_hi (b := b) (c := c) (n := (k : Int) + 1)
      go_wp2_with fail
      with_reducible refine (gap_of t b c ((k : Int) + 1) _ h0 h1 h2 h3 h4 (by omega) (by omega)).mono ?_
      rintro e w' ⟨rfl, hb⟩
      have hxr' := hxr.keep hb
      have hbr' := bnext hbr (Nat.le_of_lt hxr.lt) hb
      clear x0 x1 x2 hxr hbr hb
      go_wp2_with fail
      go_roundw
      case rel => exact ⟨k + 1, by omega, by go_num, by rw [sumV], hxr', hbr'⟩
      case measure => simp [intOf]; omega
    · have ek : k = t.toNat := by omega
      have EK := Lib.hid ek
      clear ek
      go_wp2_with fail
      go_ret2
      exact ⟨by rw [EK.out]; rfl, hbr⟩

end Go.Proofs.Ytpckomnpeainlaa
