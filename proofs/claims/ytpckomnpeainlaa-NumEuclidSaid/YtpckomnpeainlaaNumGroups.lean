/-
  For all numbers a, b and c NumGroups returns true: however sums are grouped they are the same, where nothing goes over. No condition.
-/
import Derived.Test.YtpckomnpeainlaaNumBack
namespace Go.Proofs.Ytpckomnpeainlaa
open Go.RowKit

theorem over_of {n : Int} (h : ¬ Lim n) : n < -1099511627776 ∨ 1099511627776 < n := by unfold Lim at h; omega

theorem add_over_eq (a b n : Int) (w : World) (ha : Lim a) (hb : Lim b) (hn : ¬ Lim n) (h : n = a + b) :
    Calls Try.prog 19 #[.int .i64 a, .int .i64 b] w fun e w' => e = .returned (.tuple #[.int .i64 0, .int .i64 7]) ∧ w = w' := by
  subst h; exact add_over a b w ha hb (over_of hn)

set_option maxHeartbeats 1000000 in
theorem numGroups_walk (a b c : Int) (w : World) (h0 : -9223372036854775808 ≤ a) (h1 : a ≤ 9223372036854775807) (h2 : -9223372036854775808 ≤ b) (h3 : b ≤ 9223372036854775807)
    (h4 : -9223372036854775808 ≤ c) (h5 : c ≤ 9223372036854775807) :
    Calls Try.prog 5 #[.int .i64 a, .int .i64 b, .int .i64 c] w fun e w' => e = .returned (.bool true) ∧ Below w.heap.size w w' := by
  go_enter Try.func5, Try.ntmps5
  go_wp2_with fail
  with_reducible refine (lim_any a _ h0 h1).mono ?_
  rintro e w' ⟨x, hx, rfl, rfl⟩
  go_wp2_with fail
  with_reducible refine (lim_any b _ h2 h3).mono ?_
  rintro e w' ⟨y, hy, rfl, rfl⟩
  go_wp2_with fail
  with_reducible refine (lim_any c _ h4 h5).mono ?_
  rintro e w' ⟨z, hz, rfl, rfl⟩
  clear h0 h1 h2 h3 h4 h5
  have LX := Lib.hid hx
  have LY := Lib.hid hy
  have LZ := Lib.hid hz
  have LNX : Hid (Lim (-x)) := by obtain ⟨p, q⟩ := hx; exact ⟨by omega, by omega⟩
  obtain ⟨x0, x1⟩ := hx
  obtain ⟨y0, y1⟩ := hy
  obtain ⟨z0, z1⟩ := hz
  by_cases hs : Lim (x + y) <;> by_cases ht : Lim (y + z)
  · have LS := Lib.hid hs
    have LT := Lib.hid ht
    obtain ⟨s0, s1⟩ := hs
    obtain ⟨t0, t1⟩ := ht
    by_cases hu : Lim (x + y + z)
    · have LU := Lib.hid hu
      obtain ⟨u0, u1⟩ := hu
      go_wp2_with fail
      with_reducible refine (add_ok_eq x y (x + y) _ LX.out LY.out LS.out rfl).mono ?_
      rintro e w' ⟨rfl, rfl⟩
      go_wp2_with fail
      with_reducible refine (add_ok_eq y z (y + z) _ LY.out LZ.out LT.out rfl).mono ?_
      rintro e w' ⟨rfl, rfl⟩
      go_wp2_with fail
      with_reducible refine (sub_ok_eq 0 7 (-7) _ (lim_mk (by omega) (by omega)) (lim_mk (by omega) (by omega)) (lim_mk (by omega) (by omega)) (by omega)).mono ?_
      rintro e w' ⟨rfl, rfl⟩
      go_wp2_with fail
      with_reducible refine (add_ok_eq (x + y) z (x + y + z) _ LS.out LZ.out LU.out rfl).mono ?_
      rintro e w' ⟨rfl, rfl⟩
      go_wp2_with fail
      with_reducible refine (add_ok_eq x (y + z) (x + y + z) _ LX.out LT.out LU.out (by omega)).mono ?_
      rintro e w' ⟨rfl, rfl⟩
      go_wp2_with fail
      with_reducible refine (sub_ok_eq 0 x (-x) _ (lim_mk (by omega) (by omega)) LX.out LNX.out (by omega)).mono ?_
      rintro e w' ⟨rfl, rfl⟩
      go_wp2_with fail
      with_reducible refine (sub_ok_eq 0 (-x) x _ (lim_mk (by omega) (by omega)) LNX.out LX.out (by omega)).mono ?_
      rintro e w' ⟨rfl, rfl⟩
      go_wp2_with fail
      go_ret
      exact ⟨rfl, Below.refl _ _⟩
    · have LU := Lib.hid hu
      clear hu
      go_wp2_with fail
      with_reducible refine (add_ok_eq x y (x + y) _ LX.out LY.out LS.out rfl).mono ?_
      rintro e w' ⟨rfl, rfl⟩
      go_wp2_with fail
      with_reducible refine (add_ok_eq y z (y + z) _ LY.out LZ.out LT.out rfl).mono ?_
      rintro e w' ⟨rfl, rfl⟩
      go_wp2_with fail
      with_reducible refine (sub_ok_eq 0 7 (-7) _ (lim_mk (by omega) (by omega)) (lim_mk (by omega) (by omega)) (lim_mk (by omega) (by omega)) (by omega)).mono ?_
      rintro e w' ⟨rfl, rfl⟩
      go_wp2_with fail
      with_reducible refine (add_over_eq (x + y) z (x + y + z) _ LS.out LZ.out LU.out rfl).mono ?_
      rintro e w' ⟨rfl, rfl⟩
      go_wp2_with fail
      with_reducible refine (add_over_eq x (y + z) (x + y + z) _ LX.out LT.out LU.out (by omega)).mono ?_
      rintro e w' ⟨rfl, rfl⟩
      go_wp2_with fail
      with_reducible refine (sub_ok_eq 0 x (-x) _ (lim_mk (by omega) (by omega)) LX.out LNX.out (by omega)).mono ?_
      rintro e w' ⟨rfl, rfl⟩
      go_wp2_with fail
      with_reducible refine (sub_ok_eq 0 (-x) x _ (lim_mk (by omega) (by omega)) LNX.out LX.out (by omega)).mono ?_
      rintro e w' ⟨rfl, rfl⟩
      go_wp2_with fail
      go_ret
      exact ⟨rfl, Below.refl _ _⟩
  · have LS := Lib.hid hs
    have LT := Lib.hid ht
    clear ht
    obtain ⟨s0, s1⟩ := hs
    go_wp2_with fail
    with_reducible refine (add_ok_eq x y (x + y) _ LX.out LY.out LS.out rfl).mono ?_
    rintro e w' ⟨rfl, rfl⟩
    go_wp2_with fail
    with_reducible refine (add_over_eq y z (y + z) _ LY.out LZ.out LT.out rfl).mono ?_
    rintro e w' ⟨rfl, rfl⟩
    go_wp2_with fail
    with_reducible refine (sub_ok_eq 0 7 (-7) _ (lim_mk (by omega) (by omega)) (lim_mk (by omega) (by omega)) (lim_mk (by omega) (by omega)) (by omega)).mono ?_
    rintro e w' ⟨rfl, rfl⟩
    go_wp2_with fail
    with_reducible refine (sub_ok_eq 0 x (-x) _ (lim_mk (by omega) (by omega)) LX.out LNX.out (by omega)).mono ?_
    rintro e w' ⟨rfl, rfl⟩
    go_wp2_with fail
    with_reducible refine (sub_ok_eq 0 (-x) x _ (lim_mk (by omega) (by omega)) LNX.out LX.out (by omega)).mono ?_
    rintro e w' ⟨rfl, rfl⟩
    go_wp2_with fail
    go_ret
    exact ⟨rfl, Below.refl _ _⟩
  · have LS := Lib.hid hs
    have LT := Lib.hid ht
    clear hs
    obtain ⟨t0, t1⟩ := ht
    go_wp2_with fail
    with_reducible refine (add_over_eq x y (x + y) _ LX.out LY.out LS.out rfl).mono ?_
    rintro e w' ⟨rfl, rfl⟩
    go_wp2_with fail
    with_reducible refine (add_ok_eq y z (y + z) _ LY.out LZ.out LT.out rfl).mono ?_
    rintro e w' ⟨rfl, rfl⟩
    go_wp2_with fail
    with_reducible refine (sub_ok_eq 0 7 (-7) _ (lim_mk (by omega) (by omega)) (lim_mk (by omega) (by omega)) (lim_mk (by omega) (by omega)) (by omega)).mono ?_
    rintro e w' ⟨rfl, rfl⟩
    go_wp2_with fail
    with_reducible refine (sub_ok_eq 0 x (-x) _ (lim_mk (by omega) (by omega)) LX.out LNX.out (by omega)).mono ?_
    rintro e w' ⟨rfl, rfl⟩
    go_wp2_with fail
    with_reducible refine (sub_ok_eq 0 (-x) x _ (lim_mk (by omega) (by omega)) LNX.out LX.out (by omega)).mono ?_
    rintro e w' ⟨rfl, rfl⟩
    go_wp2_with fail
    go_ret
    exact ⟨rfl, Below.refl _ _⟩
  · have LS := Lib.hid hs
    have LT := Lib.hid ht
    clear hs ht
    go_wp2_with fail
    with_reducible refine (add_over_eq x y (x + y) _ LX.out LY.out LS.out rfl).mono ?_
    rintro e w' ⟨rfl, rfl⟩
    go_wp2_with fail
    with_reducible refine (add_over_eq y z (y + z) _ LY.out LZ.out LT.out rfl).mono ?_
    rintro e w' ⟨rfl, rfl⟩
    go_wp2_with fail
    with_reducible refine (sub_ok_eq 0 7 (-7) _ (lim_mk (by omega) (by omega)) (lim_mk (by omega) (by omega)) (lim_mk (by omega) (by omega)) (by omega)).mono ?_
    rintro e w' ⟨rfl, rfl⟩
    go_wp2_with fail
    with_reducible refine (sub_ok_eq 0 x (-x) _ (lim_mk (by omega) (by omega)) LX.out LNX.out (by omega)).mono ?_
    rintro e w' ⟨rfl, rfl⟩
    go_wp2_with fail
    with_reducible refine (sub_ok_eq 0 (-x) x _ (lim_mk (by omega) (by omega)) LNX.out LX.out (by omega)).mono ?_
    rintro e w' ⟨rfl, rfl⟩
    go_wp2_with fail
    go_ret
    exact ⟨rfl, Below.refl _ _⟩

namespace numGroupsLaw
open Go.ChangeShapes Go.WideShapes Go.ChangeAt Go.RowKit
open Go.ChangeMaps (open_string shut_string)
set_option linter.unusedVariables false

set_option maxRecDepth 100000 in
theorem lifted (os : Os) (started : os.Started) (H : Type) (enc : TypeId × Value → H) :
    ReturnsInHanded {} Try.checked os 5 .any (Rows.numGroupsSpec.pre6 enc Try.prog Try.f5 Rows.numGroupsRow.domain false) (Rows.numGroupsSpec.post enc Try.prog Try.f5 false true false false) := by
  refine returnsInHanded_of_change_sized (C := Try.checked) ownNone started (by kernel_rfl) Try.func5
    (ChangeSpec.witness6 (enc := enc) (C := Try.checked) false ⟨#[], #[.int .i64 0, .int .i64 0, .int .i64 0], []⟩ 8 (by kernel_rfl) (by kernel_rfl) (by kernel_rfl) (by kernel_rfl)) ?_
  intro W base args ds gs before hval0 hW hcnd hsz0 _
  have hval : ∀ (j : Nat) t v, Try.f5.params[j]? = some t → args[j]? = some v → Value.okWide Try.prog W .any base t v := hval0
  have hsz : (DataW.weightsEach Try.prog (Try.f5.params.toList ++ Rows.numGroupsSpec.plain.varTypes Try.prog) (ds ++ gs)).all (· ≤ reachBytes) = true := hsz0
  have hW' := hW
  obtain ⟨p, q, hA0, hV, rfl, hfz, hnd⟩ := hW
  have hA : DataW.TrodAll enc Try.prog W 0 (fun _ => true) true Try.f5.params.toList args.toList ds p := hA0
  rw [Try.params5] at hA hval hsz
  obtain ⟨v0, vs0, d0, ds0, p0, q0, hargs, rfl, rfl, h0, r0⟩ := trodAll_cons hA
  obtain ⟨v1, vs1, d1, ds1, p1, q1, rfl, rfl, rfl, h1, r1⟩ := trodAll_cons r0
  obtain ⟨v2, vs2, d2, ds2, p2, q2, rfl, rfl, rfl, h2, r2⟩ := trodAll_cons r1
  obtain ⟨rfl, rfl, rfl⟩ := trodAll_nil r2
  obtain rfl : args = #[v0, v1, v2] := by cases args; simp_all
  obtain ⟨rfl, rfl⟩ := trodVars_none hV
  have k0 := h0
  have lt0 : ∀ x ∈ p0, x.block < W.heap.size := by obtain ⟨m, hm⟩ := k0; exact DataW.trod_lt m _ _ _ hm
  obtain ⟨a0, rfl, -, -, w0⟩ := open_int Try.underlying3 (hval 0 3 v0 rfl rfl) h0
  have k1 := h1
  have lt1 : ∀ x ∈ p1, x.block < W.heap.size := by obtain ⟨m, hm⟩ := k1; exact DataW.trod_lt m _ _ _ hm
  obtain ⟨a1, rfl, -, -, w1⟩ := open_int Try.underlying3 (hval 1 3 v1 rfl rfl) h1
  have k2 := h2
  have lt2 : ∀ x ∈ p2, x.block < W.heap.size := by obtain ⟨m, hm⟩ := k2; exact DataW.trod_lt m _ _ _ hm
  obtain ⟨a2, rfl, -, -, w2⟩ := open_int Try.underlying3 (hval 2 3 v2 rfl rfl) h2
  clear hA0 hval0 hsz0
  refine (numGroups_walk a0 a1 a2 W (int_lo w0) (int_hi w0) (int_lo w1) (int_hi w1) (int_lo w2) (int_hi w2)).mono fun e W' ⟨he, bel⟩ => ?_
  subst he
  exact ⟨_, rfl, _, _, _, [], _, [], hW', trodAll_mk1 (shut_bool Try.underlying4 _), (trodAll_cons_mk (Below.trod laidOutTrue (by kernel_rfl) (of_decide_eq_true (by kernel_rfl)) k0 bel lt0) (trodAll_cons_mk (Below.trod laidOutTrue (by kernel_rfl) (of_decide_eq_true (by kernel_rfl)) k1 bel lt1) (trodAll_cons_mk (Below.trod laidOutTrue (by kernel_rfl) (of_decide_eq_true (by kernel_rfl)) k2 bel lt2) trodAll_mk0))), rfl, bel.frame _, fun h => by cases h⟩

theorem over : Rows.numGroupsRow.holds Try.pinned (OpenSpec.ofChange Rows.numGroupsSpec) :=
  OpenClaim.holds_of_wide 5 Try.f5 rfl rfl rfl rfl rfl rfl rfl ⟨rfl, rfl, rfl, rfl, rfl⟩ rfl rfl rfl rfl rfl (by kernel_rfl) Try.func5 (by kernel_rfl)
    (of_decide_eq_true (by kernel_rfl)) (by unfold Func.isWrapper; first | (rw [if_pos (by decide +kernel)]; kernel_rfl) | (rw [if_neg (by decide +kernel)]; exact ⟨rfl, rfl⟩))
    (fun os started H enc _ => lifted os started H enc)

end numGroupsLaw
theorem numGroups_holds : Rows.NumGroupsSaid := numGroupsLaw.over
#print axioms numGroups_holds
end Go.Proofs.Ytpckomnpeainlaa
