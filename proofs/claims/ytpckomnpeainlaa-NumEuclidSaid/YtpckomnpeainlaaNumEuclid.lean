/-
  For all numbers a and b NumEuclid returns true: a is b times the quotient and what is left, which has b's sign and is less than it. No condition.
-/
import Derived.Test.YtpckomnpeainlaaDiv
namespace Go.Proofs.Ytpckomnpeainlaa
open Go.RowKit

theorem div_eq (a b n : Int) (w : World) (ha : Lim a) (hb : Lim b) (h : b ≠ 0) (e : fq a b = n) :
    Calls Try.prog 22 #[.int .i64 a, .int .i64 b] w (Draws (.tuple #[.int .i64 n, .int .i64 0]) w) := by subst e; exact div_ok a b w ha hb h
theorem mod_eq (a b n : Int) (w : World) (ha : Lim a) (hb : Lim b) (h : b ≠ 0) (e : fr a b = n) :
    Calls Try.prog 23 #[.int .i64 a, .int .i64 b] w (Draws (.tuple #[.int .i64 n, .int .i64 0]) w) := by subst e; exact mod_ok a b w ha hb h

theorem fq_fr (a b : Int) : fq a b * b + fr a b = a := by
  have h := Int.tdiv_mul_add_tmod a b
  unfold fq fr
  split
  · rw [Int.sub_mul]; omega
  · exact h

theorem fr_sign {a b : Int} (h : b ≠ 0) : fr a b = 0 ∨ (0 < fr a b ∧ 0 < b ∧ fr a b < b) ∨ (fr a b < 0 ∧ b < 0 ∧ b < fr a b) := by
  have h1 := tmod_abs a b h
  unfold fr
  split
  · rename_i k
    unfold down at k
    have k2 : decide (a.tmod b < 0) ≠ decide (b < 0) := by
      intro e; rw [e] at k; simp at k
    have k3 : a.tmod b ≠ 0 := by
      intro e; rw [e] at k; simp at k
    by_cases c1 : a.tmod b < 0 <;> by_cases c2 : b < 0 <;> simp [c1, c2] at k2 <;> omega
  · rename_i k
    by_cases k3 : a.tmod b = 0
    · exact .inl k3
    · have k2 : decide (a.tmod b < 0) = decide (b < 0) := by
        unfold down at k
        cases e1 : decide (a.tmod b < 0) <;> cases e2 : decide (b < 0) <;> simp_all
      by_cases c1 : a.tmod b < 0 <;> by_cases c2 : b < 0 <;> simp [c1, c2] at k2 <;> omega

theorem below_drawsN {w : World} {n : Nat} : Below w.heap.size w (w.drewN n) := below_drewN (Below.refl _ _) n


set_option maxHeartbeats 1000000 in
theorem numEuclid_walk (a b : Int) (w : World) (h0 : -9223372036854775808 ≤ a) (h1 : a ≤ 9223372036854775807) (h2 : -9223372036854775808 ≤ b) (h3 : b ≤ 9223372036854775807) :
    Calls Try.prog 7 #[.int .i64 a, .int .i64 b] w fun e w' => e = .returned (.bool true) ∧ Below w.heap.size w w' := by
  have c4 : fq (-7) 2 = -4 := by decide
  have C4 := Lib.hid c4
  clear c4
  go_enter Try.func7, Try.ntmps7
  go_wp2_with fail
  with_reducible refine (lim_any a _ h0 h1).mono ?_
  rintro e w' ⟨x, hx, rfl, rfl⟩
  go_wp2_with fail
  with_reducible refine (lim_any b _ h2 h3).mono ?_
  rintro e w' ⟨y, hy, rfl, rfl⟩
  clear h0 h1 h2 h3
  have LX := Lib.hid hx
  have LY := Lib.hid hy
  obtain ⟨x0, x1⟩ := hx
  obtain ⟨y0, y1⟩ := hy
  by_cases hz : y = 0
  · subst hz
    go_wp2_with fail
    with_reducible refine (div_zero x _ LX.out).mono ?_
    rintro e w' ⟨rfl, rfl⟩
    go_wp2_with fail
    with_reducible refine (mod_zero x _ LX.out).mono ?_
    rintro e w' ⟨rfl, rfl⟩
    go_wp2_with fail
    with_reducible refine (div_eq (-7) 2 (-4) _ (lim_mk (by omega) (by omega)) (lim_mk (by omega) (by omega)) (by omega) C4.out).mono ?_
    rintro e w' ⟨rfl, k, rfl⟩
    go_wp2_with fail
    go_ret
    exact ⟨rfl, below_drawsN⟩
  · have HZ := Lib.hid hz
    have fs := fr_sign (a := x) hz
    have fe := fq_fr x y
    have FL := Lib.hid (fq_lim LX.out LY.out hz)
    have RL := fr_lim LX.out LY.out hz
    obtain ⟨q, hq⟩ : ∃ q, fq x y = q := ⟨_, rfl⟩
    obtain ⟨r, hr⟩ : ∃ r, fr x y = r := ⟨_, rfl⟩
    rw [hq, hr] at fe
    rw [hr] at fs RL
    rw [hq] at FL
    obtain ⟨r0, r1⟩ := RL
    have HQ := Lib.hid hq
    have HR := Lib.hid hr
    clear hq hr
    have hy0 : (y == 0) = false := beq_eq_false_iff_ne.2 hz
    clear hz
    go_wp2_with fail
    with_reducible refine (div_eq x y q _ LX.out LY.out HZ.out HQ.out).mono ?_
    rintro e w' ⟨rfl, k1, rfl⟩
    go_wp2_with fail
    with_reducible refine (mod_eq x y r _ LX.out LY.out HZ.out HR.out).mono ?_
    rintro e w' ⟨rfl, k2, rfl⟩
    go_wp2_with fail
    with_reducible refine (div_eq (-7) 2 (-4) _ (lim_mk (by omega) (by omega)) (lim_mk (by omega) (by omega)) (by omega) C4.out).mono ?_
    rintro e w' ⟨rfl, k3, rfl⟩
    clear HQ HR C4 HZ LX
    obtain ⟨p, hp⟩ : ∃ p, p = q * y := ⟨_, rfl⟩
    have HP := Lib.hid hp
    rw [← hp] at fe
    have fe1 : ((p + r : Int) != x) = false := by rw [fe]; simp
    clear hp fe
    by_cases hpl : Lim p
    · have LP := Lib.hid hpl
      obtain ⟨p0, p1⟩ := hpl
      go_wp2_with fail
      with_reducible refine (mul_ok q y p _ FL.out LY.out LP.out HP.out).mono ?_
      rintro e w' ⟨rfl, rfl⟩
      rcases fs with f1 | ⟨f1, f2, f3⟩ | ⟨f1, f2, f3⟩
      · have f1' : (r == 0) = true := beq_iff_eq.2 f1
        clear f1
        go_wp2_with fail
        go_ret
        exact ⟨rfl, below_drawsN⟩
      · have f1' : (r == 0) = false := beq_eq_false_iff_ne.2 (by omega)
        go_wp2_with fail
        go_ret
        exact ⟨rfl, below_drawsN⟩
      · have f1' : (r == 0) = false := beq_eq_false_iff_ne.2 (by omega)
        go_wp2_with fail
        go_ret
        exact ⟨rfl, below_drawsN⟩
    · have LP : Hid (¬ Lim (q * y)) := by have := HP.out; rw [← this]; exact hpl
      clear hpl
      go_wp2_with fail
      with_reducible refine (mul_over q y _ FL.out LY.out LP.out).mono ?_
      rintro e w' ⟨rfl, rfl⟩
      rcases fs with f1 | ⟨f1, f2, f3⟩ | ⟨f1, f2, f3⟩
      · have f1' : (r == 0) = true := beq_iff_eq.2 f1
        clear f1
        go_wp2_with fail
        go_ret
        exact ⟨rfl, below_drawsN⟩
      · have f1' : (r == 0) = false := beq_eq_false_iff_ne.2 (by omega)
        go_wp2_with fail
        go_ret
        exact ⟨rfl, below_drawsN⟩
      · have f1' : (r == 0) = false := beq_eq_false_iff_ne.2 (by omega)
        go_wp2_with fail
        go_ret
        exact ⟨rfl, below_drawsN⟩

namespace numEuclidLaw
open Go.ChangeShapes Go.WideShapes Go.ChangeAt Go.RowKit
open Go.ChangeMaps (open_string shut_string)
set_option linter.unusedVariables false

set_option maxRecDepth 100000 in
theorem lifted (os : Os) (started : os.Started) (H : Type) (enc : TypeId × Value → H) :
    ReturnsInHanded {} Try.checked os 7 .any (Rows.numEuclidSpec.pre6 enc Try.prog Try.f7 Rows.numEuclidRow.domain false) (Rows.numEuclidSpec.post enc Try.prog Try.f7 false true false false) := by
  refine returnsInHanded_of_change_sized (C := Try.checked) ownNone started (by kernel_rfl) Try.func7
    (ChangeSpec.witness6 (enc := enc) (C := Try.checked) false ⟨#[], #[.int .i64 0, .int .i64 0], []⟩ 8 (by kernel_rfl) (by kernel_rfl) (by kernel_rfl) (by kernel_rfl)) ?_
  intro W base args ds gs before hval0 hW hcnd hsz0 _
  have hval : ∀ (j : Nat) t v, Try.f7.params[j]? = some t → args[j]? = some v → Value.okWide Try.prog W .any base t v := hval0
  have hsz : (DataW.weightsEach Try.prog (Try.f7.params.toList ++ Rows.numEuclidSpec.plain.varTypes Try.prog) (ds ++ gs)).all (· ≤ reachBytes) = true := hsz0
  have hW' := hW
  obtain ⟨p, q, hA0, hV, rfl, hfz, hnd⟩ := hW
  have hA : DataW.TrodAll enc Try.prog W 0 (fun _ => true) true Try.f7.params.toList args.toList ds p := hA0
  rw [Try.params7] at hA hval hsz
  obtain ⟨v0, vs0, d0, ds0, p0, q0, hargs, rfl, rfl, h0, r0⟩ := trodAll_cons hA
  obtain ⟨v1, vs1, d1, ds1, p1, q1, rfl, rfl, rfl, h1, r1⟩ := trodAll_cons r0
  obtain ⟨rfl, rfl, rfl⟩ := trodAll_nil r1
  obtain rfl : args = #[v0, v1] := by cases args; simp_all
  obtain ⟨rfl, rfl⟩ := trodVars_none hV
  have k0 := h0
  have lt0 : ∀ x ∈ p0, x.block < W.heap.size := by obtain ⟨m, hm⟩ := k0; exact DataW.trod_lt m _ _ _ hm
  obtain ⟨a0, rfl, -, -, w0⟩ := open_int Try.underlying3 (hval 0 3 v0 rfl rfl) h0
  have k1 := h1
  have lt1 : ∀ x ∈ p1, x.block < W.heap.size := by obtain ⟨m, hm⟩ := k1; exact DataW.trod_lt m _ _ _ hm
  obtain ⟨a1, rfl, -, -, w1⟩ := open_int Try.underlying3 (hval 1 3 v1 rfl rfl) h1
  clear hA0 hval0 hsz0
  refine (numEuclid_walk a0 a1 W (int_lo w0) (int_hi w0) (int_lo w1) (int_hi w1)).mono fun e W' ⟨he, bel⟩ => ?_
  subst he
  exact ⟨_, rfl, _, _, _, [], _, [], hW', trodAll_mk1 (shut_bool Try.underlying4 _), (trodAll_cons_mk (Below.trod laidOutTrue (by kernel_rfl) (of_decide_eq_true (by kernel_rfl)) k0 bel lt0) (trodAll_cons_mk (Below.trod laidOutTrue (by kernel_rfl) (of_decide_eq_true (by kernel_rfl)) k1 bel lt1) trodAll_mk0)), rfl, bel.frame _, fun h => by cases h⟩

theorem over : Rows.numEuclidRow.holds Try.pinned (OpenSpec.ofChange Rows.numEuclidSpec) :=
  OpenClaim.holds_of_wide 7 Try.f7 rfl rfl rfl rfl rfl rfl rfl ⟨rfl, rfl, rfl, rfl, rfl⟩ rfl rfl rfl rfl rfl (by kernel_rfl) Try.func7 (by kernel_rfl)
    (of_decide_eq_true (by kernel_rfl)) (by unfold Func.isWrapper; first | (rw [if_pos (by decide +kernel)]; kernel_rfl) | (rw [if_neg (by decide +kernel)]; exact ⟨rfl, rfl⟩))
    (fun os started H enc _ => lifted os started H enc)

end numEuclidLaw
theorem numEuclid_holds : Rows.NumEuclidSaid := numEuclidLaw.over
#print axioms numEuclid_holds
end Go.Proofs.Ytpckomnpeainlaa
