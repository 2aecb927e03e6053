/-
  For all numbers a, b and c NumShares returns true: products are shared out, where nothing goes over. No condition.
-/
import Derived.Test.YtpckomnpeainlaaMul
namespace Go.Proofs.Ytpckomnpeainlaa
open Go.RowKit

/-- The product of a small number with one of at most twice that size is within the limits. -/
theorem lim_prod {a b : Int} (a0 : -99999 ≤ a) (a1 : a ≤ 99999) (b0 : -199998 ≤ b) (b1 : b ≤ 199998) : Lim (a * b) := by
  have h1 : a * b ≤ 99999 * 199998 := by
    rcases Int.le_total 0 a with ha | ha
    · exact Int.le_trans (Int.mul_le_mul_of_nonneg_left b1 ha) (Int.mul_le_mul_of_nonneg_right a1 (by omega))
    · have e : a * b = -a * -b := by rw [Int.neg_mul_neg]
      rw [e]
      exact Int.le_trans (Int.mul_le_mul_of_nonneg_left (show -b ≤ 199998 by omega) (by omega)) (Int.mul_le_mul_of_nonneg_right (show -a ≤ 99999 by omega) (by omega))
  have h2 : -(a * b) ≤ 99999 * 199998 := by
    rcases Int.le_total 0 a with ha | ha
    · rw [← Int.mul_neg]
      exact Int.le_trans (Int.mul_le_mul_of_nonneg_left (show -b ≤ 199998 by omega) ha) (Int.mul_le_mul_of_nonneg_right a1 (by omega))
    · rw [← Int.neg_mul]
      exact Int.le_trans (Int.mul_le_mul_of_nonneg_left b1 (by omega)) (Int.mul_le_mul_of_nonneg_right (show -a ≤ 99999 by omega) (by omega))
  unfold Lim
  omega

/-- What is left of a division by 100000. -/
theorem rem_bounds (n : Int) : -99999 ≤ n.tmod 100000 ∧ n.tmod 100000 ≤ 99999 := by
  have h1 := Int.tmod_lt_of_pos n (show (0 : Int) < 100000 by omega)
  have h2 : -100000 < n.tmod 100000 := by
    have := Int.tmod_lt_of_pos (-n) (show (0 : Int) < 100000 by omega)
    rw [Int.neg_tmod] at this; omega
  omega

set_option maxHeartbeats 1000000 in
theorem numShares_walk (a b c : Int) (w : World) (h0 : -9223372036854775808 ≤ a) (h1 : a ≤ 9223372036854775807) (h2 : -9223372036854775808 ≤ b) (h3 : b ≤ 9223372036854775807)
    (h4 : -9223372036854775808 ≤ c) (h5 : c ≤ 9223372036854775807) :
    Calls Try.prog 6 #[.int .i64 a, .int .i64 b, .int .i64 c] w fun e w' => e = .returned (.bool true) ∧ Below w.heap.size w w' := by
  go_enter Try.func6, Try.ntmps6
  go_wp2_with fail
  with_reducible refine (lim_any a _ h0 h1).mono ?_
  rintro e w' ⟨x', _, rfl, rfl⟩
  go_wp2_with fail
  with_reducible refine (lim_any b _ h2 h3).mono ?_
  rintro e w' ⟨y', _, rfl, rfl⟩
  go_wp2_with fail
  with_reducible refine (lim_any c _ h4 h5).mono ?_
  rintro e w' ⟨z', _, rfl, rfl⟩
  clear h0 h1 h2 h3 h4 h5
  go_wp2_with fail
  have bx := rem_bounds x'
  have bY := rem_bounds y'
  have bz := rem_bounds z'
  generalize x'.tmod 100000 = x at *
  generalize y'.tmod 100000 = y at *
  generalize z'.tmod 100000 = z at *
  obtain ⟨x0, x1⟩ := bx
  obtain ⟨y0, y1⟩ := bY
  obtain ⟨z0, z1⟩ := bz
  obtain ⟨p, hp⟩ : ∃ p, p = x * (y + z) := ⟨_, rfl⟩
  obtain ⟨q, hq⟩ : ∃ q, q = x * y := ⟨_, rfl⟩
  obtain ⟨r, hr⟩ : ∃ r, r = x * z := ⟨_, rfl⟩
  have hs : p = q + r := by rw [hp, hq, hr, Int.mul_add]
  have LP : Hid (Lim p) := by rw [hp]; exact lim_prod x0 x1 (by omega) (by omega)
  have LQ : Hid (Lim q) := by rw [hq]; exact lim_prod x0 x1 (by omega) (by omega)
  have LR : Hid (Lim r) := by rw [hr]; exact lim_prod x0 x1 (by omega) (by omega)
  have LX : Hid (Lim x) := ⟨by omega, by omega⟩
  have LY : Hid (Lim y) := ⟨by omega, by omega⟩
  have LZ : Hid (Lim z) := ⟨by omega, by omega⟩
  have LS : Hid (Lim (y + z)) := ⟨by omega, by omega⟩
  have HP := Lib.hid hp
  have HQ := Lib.hid hq
  have HR := Lib.hid hr
  have HS := Lib.hid hs
  clear hp hq hr hs
  with_reducible refine (add_ok_eq y z (y + z) _ LY.out LZ.out LS.out rfl).mono ?_
  rintro e w' ⟨rfl, rfl⟩
  go_wp2_with fail
  with_reducible refine (mul_ok x (y + z) p _ LX.out LS.out LP.out HP.out).mono ?_
  rintro e w' ⟨rfl, rfl⟩
  go_wp2_with fail
  with_reducible refine (mul_ok x y q _ LX.out LY.out LQ.out HQ.out).mono ?_
  rintro e w' ⟨rfl, rfl⟩
  go_wp2_with fail
  with_reducible refine (mul_ok x z r _ LX.out LZ.out LR.out HR.out).mono ?_
  rintro e w' ⟨rfl, rfl⟩
  go_wp2_with fail
  with_reducible refine (add_ok_eq q r p _ LQ.out LR.out LP.out HS.out).mono ?_
  rintro e w' ⟨rfl, rfl⟩
  go_wp2_with fail
  with_reducible refine (mul_ok 2 3 6 _ (lim_mk (by omega) (by omega)) (lim_mk (by omega) (by omega)) (lim_mk (by omega) (by omega)) (by omega)).mono ?_
  rintro e w' ⟨rfl, rfl⟩
  go_wp2_with fail
  go_ret
  exact ⟨rfl, Below.refl _ _⟩

namespace numSharesLaw
open Go.ChangeShapes Go.WideShapes Go.ChangeAt Go.RowKit
open Go.ChangeMaps (open_string shut_string)
set_option linter.unusedVariables false

set_option maxRecDepth 100000 in
theorem lifted (os : Os) (started : os.Started) (H : Type) (enc : TypeId × Value → H) :
    ReturnsInHanded {} Try.checked os 6 .any (Rows.numSharesSpec.pre6 enc Try.prog Try.f6 Rows.numSharesRow.domain false) (Rows.numSharesSpec.post enc Try.prog Try.f6 false true false false) := by
  refine returnsInHanded_of_change_sized (C := Try.checked) ownNone started (by kernel_rfl) Try.func6
    (ChangeSpec.witness6 (enc := enc) (C := Try.checked) false ⟨#[], #[.int .i64 0, .int .i64 0, .int .i64 0], []⟩ 8 (by kernel_rfl) (by kernel_rfl) (by kernel_rfl) (by kernel_rfl)) ?_
  intro W base args ds gs before hval0 hW hcnd hsz0 _
  have hval : ∀ (j : Nat) t v, Try.f6.params[j]? = some t → args[j]? = some v → Value.okWide Try.prog W .any base t v := hval0
  have hsz : (DataW.weightsEach Try.prog (Try.f6.params.toList ++ Rows.numSharesSpec.plain.varTypes Try.prog) (ds ++ gs)).all (· ≤ reachBytes) = true := hsz0
  have hW' := hW
  obtain ⟨p, q, hA0, hV, rfl, hfz, hnd⟩ := hW
  have hA : DataW.TrodAll enc Try.prog W 0 (fun _ => true) true Try.f6.params.toList args.toList ds p := hA0
  rw [Try.params6] at hA hval hsz
  obtain ⟨v0, vs0, d0, ds0, p0, q0, hargs, rfl, rfl, h0, r0⟩ := trodAll_cons hA
  obtain ⟨v1, vs1, d1, ds1, p1, q1, rfl, rfl, rfl, h1, r1⟩ := trodAll_cons r0
  obtain ⟨v2, vs2, d2, ds2, p2, q2, rfl, rfl, rfl, h2, r2⟩ := trodAll_cons r1
  obtain ⟨rfl, rfl, rfl⟩ := trodAll_nil r2
  obtain rfl : args = #[v0, v1, v2] := by cases args; simp_all
  obtain ⟨rfl, rfl⟩ := trodVars_none hV
  have k0 := h0
  have lt0 : ∀ x ∈ p0, x.block < W.heap.size := by obtain ⟨m, hm⟩ := k0; exact DataW.trod_lt m _ _ _ hm
  obtain ⟨a0, rfl, -, -, w0⟩ := open_int Try.underlying3 (hval 0 3 v0 rfl rfl) h0
  have k1 := h1
  have lt1 : ∀ x ∈ p1, x.block < W.heap.size := by obtain ⟨m, hm⟩ := k1; exact DataW.trod_lt m _ _ _ hm
  obtain ⟨a1, rfl, -, -, w1⟩ := open_int Try.underlying3 (hval 1 3 v1 rfl rfl) h1
  have k2 := h2
  have lt2 : ∀ x ∈ p2, x.block < W.heap.size := by obtain ⟨m, hm⟩ := k2; exact DataW.trod_lt m _ _ _ hm
  obtain ⟨a2, rfl, -, -, w2⟩ := open_int Try.underlying3 (hval 2 3 v2 rfl rfl) h2
  clear hA0 hval0 hsz0
  refine (numShares_walk a0 a1 a2 W (int_lo w0) (int_hi w0) (int_lo w1) (int_hi w1) (int_lo w2) (int_hi w2)).mono fun e W' ⟨he, bel⟩ => ?_
  subst he
  exact ⟨_, rfl, _, _, _, [], _, [], hW', trodAll_mk1 (shut_bool Try.underlying4 _), (trodAll_cons_mk (Below.trod laidOutTrue (by kernel_rfl) (of_decide_eq_true (by kernel_rfl)) k0 bel lt0) (trodAll_cons_mk (Below.trod laidOutTrue (by kernel_rfl) (of_decide_eq_true (by kernel_rfl)) k1 bel lt1) (trodAll_cons_mk (Below.trod laidOutTrue (by kernel_rfl) (of_decide_eq_true (by kernel_rfl)) k2 bel lt2) trodAll_mk0))), rfl, bel.frame _, fun h => by cases h⟩

theorem over : Rows.numSharesRow.holds Try.pinned (OpenSpec.ofChange Rows.numSharesSpec) :=
  OpenClaim.holds_of_wide 6 Try.f6 rfl rfl rfl rfl rfl rfl rfl ⟨rfl, rfl, rfl, rfl, rfl⟩ rfl rfl rfl rfl rfl (by kernel_rfl) Try.func6 (by kernel_rfl)
    (of_decide_eq_true (by kernel_rfl)) (by unfold Func.isWrapper; first | (rw [if_pos (by decide +kernel)]; kernel_rfl) | (rw [if_neg (by decide +kernel)]; exact ⟨rfl, rfl⟩))
    (fun os started H enc _ => lifted os started H enc)

end numSharesLaw
theorem numShares_holds : Rows.NumSharesSaid := numSharesLaw.over
#print axioms numShares_holds
end Go.Proofs.Ytpckomnpeainlaa
