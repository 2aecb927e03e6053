/-
  For all numbers a, b and c GapRises returns true: every wait is twice the one ahead of it, or the greatest. No condition.
-/
import Derived.Test.YtpckomnpeainlaaGap
import Derived.Test.YtpckomnpeainlaaLaw
namespace Go.Proofs.Ytpckomnpeainlaa
open Go.RowKit

theorem gapV_one {b c : Int} (h3 : b ≤ c) : gapV b c 1 = b := by simp [gapV, h3]

theorem gapV_next {b c : Int} {k : Nat} (hk : 0 < k) (h2 : 1 ≤ b) (_h3 : b ≤ c) : gapV b c ((k : Int) + 1) = if 2 * gapV b c k ≤ c then 2 * gapV b c k else c := by
  obtain ⟨m, rfl⟩ : ∃ m, k = m + 1 := ⟨k - 1, by omega⟩
  have e1 : (((m + 1 : Nat) : Int) + 1).toNat - 1 = m + 1 := by omega
  have e2 : (((m + 1 : Nat) : Int)).toNat - 1 = m := by omega
  have hp : (0 : Int) < 2 ^ m := Int.pow_pos (by omega)
  unfold gapV
  rw [e1, e2, Int.pow_succ]
  have hb : 1 ≤ b * 2 ^ m := by
    have := Int.mul_le_mul h2 (show (1 : Int) ≤ 2 ^ m by omega) (by omega) (by omega)
    simpa using this
  rw [show b * (2 ^ m * 2) = 2 * (b * 2 ^ m) by rw [← Int.mul_assoc, Int.mul_comm]]
  generalize b * 2 ^ m = x at *
  repeat' split
  all_goals omega

/-- The last wait, ahead of round k. -/
def lastV (b c : Int) (k : Nat) : Int := if k = 0 then 0 else gapV b c k

set_option maxHeartbeats 1000000 in
theorem gapRises_walk (a b c : Int) (w : World) (h0 : -9223372036854775808 ≤ a) (h1 : a ≤ 9223372036854775807) (h2 : -9223372036854775808 ≤ b) (h3 : b ≤ 9223372036854775807)
    (h4 : -9223372036854775808 ≤ c) (h5 : c ≤ 9223372036854775807) :
    Calls Try.prog 8 #[.int .i64 a, .int .i64 b, .int .i64 c] w fun e w' => e = .returned (.bool true) ∧ Below w.heap.size w w' := by
  go_enter Try.func8, Try.ntmps8
  go_wp2_with fail
  with_reducible refine (policy_any a b c _ h0 h1 h2 h3 h4 h5).mono ?_
  rintro e w' ⟨t, p, q, g0, g1, g2, g3, g4, g5, rfl, hb⟩
  clear h0 h1 h2 h3 h4 h5
  have hx := Box.new w' #[.int .i64 t, .int .i64 p, .int .i64 q] 45
  have hbw := bnext hb hb.size ((Below.refl w'.heap.size w').alloc (Nat.le_refl _) (.cells #[.int .i64 t, .int .i64 p, .int .i64 q] 45))
  have hsz := hb.size
  clear hb
  have x0 := hx.cells 0 _ rfl
  go_wp2_with fail
  clear x0
  go_loopw [8, 9, 23] (fun l s i wr => ∃ k : Nat, k ≤ t.toNat ∧ i = .int .i64 k ∧ s = .int .i64 (sumV p q k) ∧ l = .int .i64 (lastV p q k) ∧ Box wr w'.heap.size [.int .i64 t, .int .i64 p, .int .i64 q] ∧ Below w.heap.size w wr) (fun _ _ i _ => 6 - (intOf i).toNat)
  case atStart => exact ⟨0, by omega, rfl, rfl, rfl, hx, hbw⟩
  case round =>
    clear hx hbw
    obtain ⟨k, hk, rfl, rfl, rfl, hxr, hbr⟩ := hrel
    have x0 := hxr.cells 0 _ rfl
    have x1 := hxr.cells 1 _ rfl
    have x2 := hxr.cells 2 _ rfl
    have hs := sumV_bd g2 g3 (by omega) k (by omega)
    obtain ⟨s0, s1⟩ := hs
    have hszr := Nat.le_of_lt hxr.lt
    by_cases hlt : (k : Int) < t
    · have l1 := gapV_lo (n := (k : Int) + 1) g2 g3 (by omega) (by omega) (by omega)
      have l2 := gapV_hi (b := p) (c := q) (n := (k : Int) + 1)
      by_cases hk0 : k = 0
      · have K0 := Lib.hid hk0
        subst hk0
        have e0 : lastV p q 0 = 0 := rfl
        have e1 : sumV p q 0 = 0 := rfl
        rw [e0, e1]
        clear e0 e1
        have EG : Hid (gapV p q 1 = p) := gapV_one g3
        go_wp2_with fail
        with_reducible refine (gap_of t p q 1 _ g0 g1 g2 g3 (by omega) (by omega) (by omega)).mono ?_
        rintro e w' ⟨rfl, hb⟩
        have hxr' := hxr.keep hb
        have hbr' := bnext hbr (by omega) hb
        clear x0 x1 x2 hxr hbr hb
        have x0 := hxr'.cells 0 _ rfl
        have x1 := hxr'.cells 1 _ rfl
        have x2 := hxr'.cells 2 _ rfl
        rw [EG.out]
        go_wp2_with fail
        go_roundw
        case rel => exact ⟨1, by omega, rfl, by rw [sumV, sumV, show ((0 : Nat) : Int) + 1 = 1 from rfl, EG.out]; simp, by rw [lastV, if_neg (by omega), show ((1 : Nat) : Int) = 1 from rfl, EG.out], hxr', hbr'⟩
        case measure => simp [intOf]
      · have hkp : (0 : Int) < (k : Int) := by omega
        have hke : ((k : Int) == 0) = false := beq_eq_false_iff_ne.2 (by omega)
        have e0 : lastV p q k = gapV p q k := by rw [lastV, if_neg hk0]
        rw [e0]
        have m1 := gapV_lo (n := (k : Int)) g2 g3 (by omega) (by omega) (by omega)
        have m2 := gapV_hi (b := p) (c := q) (n := (k : Int))
        have EN := Lib.hid (gapV_next (k := k) (by omega) g2 g3)
        have EL : Hid (lastV p q (k + 1) = gapV p q ((k : Int) + 1)) := by show _ = _; rw [lastV, if_neg (by omega)]; rfl
        clear e0
        obtain ⟨g, hg⟩ : ∃ g, gapV p q ((k : Int) + 1) = g := ⟨_, rfl⟩
        obtain ⟨l, hl⟩ : ∃ l, gapV p q (k : Int) = l := ⟨_, rfl⟩
        have HG := Lib.hid hg
        rw [hl] at m1 m2 EN
        rw [hl]
        rw [hg] at EN EL l1 l2
        clear hg hl
        by_cases hm : 2 * l ≤ q
        · have hgl : g = 2 * l := by rw [EN.out, if_pos hm]
          clear EN
          go_wp2_with fail
          with_reducible refine (gap_of t p q ((k : Int) + 1) _ g0 g1 g2 g3 (by omega) (by omega) (by omega)).mono ?_
          rintro e w' ⟨rfl, hb⟩
          have hxr' := hxr.keep hb
          have hbr' := bnext hbr (by omega) hb
          clear x0 x1 x2 hxr hbr hb
          have x0 := hxr'.cells 0 _ rfl
          have x1 := hxr'.cells 1 _ rfl
          have x2 := hxr'.cells 2 _ rfl
          rw [HG.out]
          have hne : (g != 2 * l) = false := by rw [hgl]; simp
          clear hgl
          go_wp2_with fail
          go_roundw
          case rel => exact ⟨k + 1, by omega, by go_num, by rw [sumV, HG.out], by rw [EL.out], hxr', hbr'⟩
          case measure => simp [intOf]; omega
        · have hgl : g = q := by rw [EN.out, if_neg hm]
          clear EN
          go_wp2_with fail
          with_reducible refine (gap_of t p q ((k : Int) + 1) _ g0 g1 g2 g3 (by omega) (by omega) (by omega)).mono ?_
          rintro e w' ⟨rfl, hb⟩
          have hxr' := hxr.keep hb
          have hbr' := bnext hbr (by omega) hb
          clear x0 x1 x2 hxr hbr hb
          have x0 := hxr'.cells 0 _ rfl
          have x1 := hxr'.cells 1 _ rfl
          have x2 := hxr'.cells 2 _ rfl
          rw [HG.out]
          have hne : (g != q) = false := by rw [hgl]; simp
          clear hgl
          go_wp2_with fail
          go_roundw
          case rel => exact ⟨k + 1, by omega, by go_num, by rw [sumV, HG.out], by rw [EL.out], hxr', hbr'⟩
          case measure => simp [intOf]; omega
    · have ek : k = t.toNat := by omega
      have EK := Lib.hid ek
      clear ek
      go_wp2_with fail
      refine (gap_whole t p q _ g0 g1 g2 g3 (by omega)).mono ?_
      rintro e w1 ⟨rfl, hb⟩
      have hxr' := hxr.keep hb
      have hbr' := bnext hbr (by omega) hb
      clear x0 x1 x2 hxr hbr hb
      have x0 := hxr'.cells 0 _ rfl
      have x1 := hxr'.cells 1 _ rfl
      have x2 := hxr'.cells 2 _ rfl
      have hsz1 := Nat.le_of_lt hxr'.lt
      rw [← EK.out]
      go_wp2_with fail
      refine (gap_of_over t p q (t + 1) _ g0 g1 g2 g3 (by omega) (by omega)).mono ?_
      rintro e w2 ⟨rfl, hb⟩
      have hbr2 := bnext hbr' (by omega) hb
      clear x0 x1 x2 hxr' hbr' hb
      go_wp2_with fail
      go_ret
      exact ⟨rfl, hbr2⟩

namespace gapRisesLaw
open Go.ChangeShapes Go.WideShapes Go.ChangeAt Go.RowKit
open Go.ChangeMaps (open_string shut_string)
set_option linter.unusedVariables false

set_option maxRecDepth 100000 in
theorem lifted (os : Os) (started : os.Started) (H : Type) (enc : TypeId × Value → H) :
    ReturnsInHanded {} Try.checked os 8 .any (Rows.gapRisesSpec.pre6 enc Try.prog Try.f8 Rows.gapRisesRow.domain false) (Rows.gapRisesSpec.post enc Try.prog Try.f8 false true false false) := by
  refine returnsInHanded_of_change_sized (C := Try.checked) ownNone started (by kernel_rfl) Try.func8
    (ChangeSpec.witness6 (enc := enc) (C := Try.checked) false ⟨#[], #[.int .i64 0, .int .i64 0, .int .i64 0], []⟩ 8 (by kernel_rfl) (by kernel_rfl) (by kernel_rfl) (by kernel_rfl)) ?_
  intro W base args ds gs before hval0 hW hcnd hsz0 _
  have hval : ∀ (j : Nat) t v, Try.f8.params[j]? = some t → args[j]? = some v → Value.okWide Try.prog W .any base t v := hval0
  have hsz : (DataW.weightsEach Try.prog (Try.f8.params.toList ++ Rows.gapRisesSpec.plain.varTypes Try.prog) (ds ++ gs)).all (· ≤ reachBytes) = true := hsz0
  have hW' := hW
  obtain ⟨p, q, hA0, hV, rfl, hfz, hnd⟩ := hW
  have hA : DataW.TrodAll enc Try.prog W 0 (fun _ => true) true Try.f8.params.toList args.toList ds p := hA0
  rw [Try.params8] at hA hval hsz
  obtain ⟨v0, vs0, d0, ds0, p0, q0, hargs, rfl, rfl, h0, r0⟩ := trodAll_cons hA
  obtain ⟨v1, vs1, d1, ds1, p1, q1, rfl, rfl, rfl, h1, r1⟩ := trodAll_cons r0
  obtain ⟨v2, vs2, d2, ds2, p2, q2, rfl, rfl, rfl, h2, r2⟩ := trodAll_cons r1
  obtain ⟨rfl, rfl, rfl⟩ := trodAll_nil r2
  obtain rfl : args = #[v0, v1, v2] := by cases args; simp_all
  obtain ⟨rfl, rfl⟩ := trodVars_none hV
  have k0 := h0
  have lt0 : ∀ x ∈ p0, x.block < W.heap.size := by obtain ⟨m, hm⟩ := k0; exact DataW.trod_lt m _ _ _ hm
  obtain ⟨a0, rfl, -, -, w0⟩ := open_int Try.underlying3 (hval 0 3 v0 rfl rfl) h0
  have k1 := h1
  have lt1 : ∀ x ∈ p1, x.block < W.heap.size := by obtain ⟨m, hm⟩ := k1; exact DataW.trod_lt m _ _ _ hm
  obtain ⟨a1, rfl, -, -, w1⟩ := open_int Try.underlying3 (hval 1 3 v1 rfl rfl) h1
  have k2 := h2
  have lt2 : ∀ x ∈ p2, x.block < W.heap.size := by obtain ⟨m, hm⟩ := k2; exact DataW.trod_lt m _ _ _ hm
  obtain ⟨a2, rfl, -, -, w2⟩ := open_int Try.underlying3 (hval 2 3 v2 rfl rfl) h2
  clear hA0 hval0 hsz0
  refine (gapRises_walk a0 a1 a2 W (int_lo w0) (int_hi w0) (int_lo w1) (int_hi w1) (int_lo w2) (int_hi w2)).mono fun e W' ⟨he, bel⟩ => ?_
  subst he
  exact ⟨_, rfl, _, _, _, [], _, [], hW', trodAll_mk1 (shut_bool Try.underlying4 _), (trodAll_cons_mk (Below.trod laidOutTrue (by kernel_rfl) (of_decide_eq_true (by kernel_rfl)) k0 bel lt0) (trodAll_cons_mk (Below.trod laidOutTrue (by kernel_rfl) (of_decide_eq_true (by kernel_rfl)) k1 bel lt1) (trodAll_cons_mk (Below.trod laidOutTrue (by kernel_rfl) (of_decide_eq_true (by kernel_rfl)) k2 bel lt2) trodAll_mk0))), rfl, bel.frame _, fun h => by cases h⟩

theorem over : Rows.gapRisesRow.holds Try.pinned (OpenSpec.ofChange Rows.gapRisesSpec) :=
  OpenClaim.holds_of_wide 8 Try.f8 rfl rfl rfl rfl rfl rfl rfl ⟨rfl, rfl, rfl, rfl, rfl⟩ rfl rfl rfl rfl rfl (by kernel_rfl) Try.func8 (by kernel_rfl)
    (of_decide_eq_true (by kernel_rfl)) (by unfold Func.isWrapper; first | (rw [if_pos (by decide +kernel)]; kernel_rfl) | (rw [if_neg (by decide +kernel)]; exact ⟨rfl, rfl⟩))
    (fun os started H enc _ => lifted os started H enc)

end gapRisesLaw
theorem gapRises_holds : Rows.GapRisesSaid := gapRisesLaw.over
#print axioms gapRises_holds
end Go.Proofs.Ytpckomnpeainlaa
