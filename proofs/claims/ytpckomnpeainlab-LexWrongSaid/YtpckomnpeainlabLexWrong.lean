/-
  For every text LexWrong returns true: the source before the offset of a lexical error is valid. No condition.
-/
import Derived.Test.YtpckomnpeainlabLaw
import Derived.Test.YtpckomnpeainlabLexG
namespace Go.Proofs.Ytpckomnpeainlab
open Go.RowKit

theorem lexA : lexF [97, 32, 35] = .error (2, 3) := by rfl

set_option maxRecDepth 100000 in
set_option maxHeartbeats 4000000 in
theorem lexWrong_walk (s : ByteArray) (w : World) (hz : s.size ≤ reachBytes) : Calls Try.prog 13 #[.string s] w fun e w' => e = .returned (.bool true) ∧ Below w.heap.size w w' := by
  have hs9 : s.size ≤ 9223372036854775807 := by unfold reachBytes at hz; omega
  have hone := fun w => tokens_err (L := [97, 32, 35]) (a := 2) (er := 3) ⟨#[97, 32, 35]⟩ w rfl (by decide) lexA
  have H1 := Lib.hid hone
  clear hone hz
  by_cases c1 : 160 < s.size
  · have hl := fun w => tokens_long s w c1 hs9
    have HL := Lib.hid hl
    have c1' : (160 : Int) < (s.size : Int) := by omega
    clear hl c1
    go_enter Try.func13, Try.ntmps13
    go_wp2_with fail
    with_reducible refine (HL.out _).mono ?_
    rintro e w' ⟨rfl, rfl⟩
    go_wp2_with fail
    with_reducible refine (H1.out _).mono ?_
    rintro e u1 ⟨rfl, hb⟩
    have hw := hb
    clear hb
    go_wp2_with fail
    go_ret
    exact ⟨rfl, hw⟩
  · have hle : s.data.toList.length ≤ 160 := by simp; omega
    have c1' : (s.size : Int) ≤ 160 := by omega
    cases hx : lexF s.data.toList with
    | ok ts =>
      have hl := fun w => tokens_ok s w rfl hle hx
      have HL := Lib.hid hl
      clear hl hx hle c1
      go_enter Try.func13, Try.ntmps13
      go_wp2_with fail
      with_reducible refine (HL.out _).mono ?_
      rintro e u0 ⟨v, rfl, hb, -, -⟩
      have hw := hb
      clear hb
      go_wp2_with fail
      with_reducible refine (H1.out _).mono ?_
      rintro e u1 ⟨rfl, hb⟩
      replace hw := hw.trans (hb.mono hw.size)
      clear hb
      go_wp2_with fail
      go_ret
      exact ⟨rfl, hw⟩
    | error ae =>
      obtain ⟨a, er⟩ := ae
      have hl := fun w => tokens_err s w rfl hle hx
      obtain ⟨ha, ts, hc⟩ := lexF_cut hx
      have he := lexGo_err _ _ _ _ _ _ hx
      have hal : a < s.size := by simpa using ha
      have hok := fun w => tokens_ok (s.extract 0 a) w (by rw [ext_take]) (by rw [List.length_take]; omega) hc
      have HO := Lib.hid hok
      have HL := Lib.hid hl
      have e0 : (er == 0) = false := beq_eq_false_iff_ne.2 (by omega)
      have a0 : (0 : Int) ≤ (a : Int) := by omega
      have a1 : (a : Int) < (s.size : Int) := by omega
      clear hl hx hle hok ha hc c1
      rcases he with rfl | rfl | rfl
      all_goals
        go_enter Try.func13, Try.ntmps13
        go_wp2_with fail
        with_reducible refine (HL.out _).mono ?_
        rintro e u0 ⟨rfl, hb⟩
        have hw := hb
        clear hb
        go_wp2_with fail
        with_reducible refine (H1.out _).mono ?_
        rintro e u1 ⟨rfl, hb⟩
        replace hw := hw.trans (hb.mono hw.size)
        clear hb
        go_wp2_with fail
        with_reducible refine (HO.out _).mono ?_
        rintro e u2 ⟨v, rfl, hb, -, -⟩
        replace hw := hw.trans (hb.mono hw.size)
        clear hb
        go_wp2_with fail
        go_ret
        exact ⟨rfl, hw⟩

namespace lexWrongLaw
open Go.ChangeShapes Go.WideShapes Go.ChangeAt Go.RowKit
open Go.ChangeMaps (open_string shut_string)
set_option linter.unusedVariables false

set_option maxRecDepth 100000 in
theorem lifted (os : Os) (started : os.Started) (H : Type) (enc : TypeId × Value → H) :
    ReturnsInHanded {} Try.checked os 13 .any (Rows.lexWrongSpec.pre6 enc Try.prog Try.f13 Rows.lexWrongRow.domain false) (Rows.lexWrongSpec.post enc Try.prog Try.f13 false true false false) := by
  refine returnsInHanded_of_change_sized (C := Try.checked) ownNone started (by kernel_rfl) Try.func13
    (ChangeSpec.witness6 (enc := enc) (C := Try.checked) false ⟨#[], #[.string ByteArray.empty], []⟩ 8 (by kernel_rfl) (by kernel_rfl) (by kernel_rfl) (by kernel_rfl)) ?_
  intro W base args ds gs before hval0 hW hcnd hsz0 _
  have hval : ∀ (j : Nat) t v, Try.f13.params[j]? = some t → args[j]? = some v → Value.okWide Try.prog W .any base t v := hval0
  have hsz : (DataW.weightsEach Try.prog (Try.f13.params.toList ++ Rows.lexWrongSpec.plain.varTypes Try.prog) (ds ++ gs)).all (· ≤ reachBytes) = true := hsz0
  have hW' := hW
  obtain ⟨p, q, hA0, hV, rfl, hfz, hnd⟩ := hW
  have hA : DataW.TrodAll enc Try.prog W 0 (fun _ => true) true Try.f13.params.toList args.toList ds p := hA0
  rw [Try.params13] at hA hval hsz
  obtain ⟨v0, vs0, d0, ds0, p0, q0, hargs, rfl, rfl, h0, r0⟩ := trodAll_cons hA
  obtain ⟨rfl, rfl, rfl⟩ := trodAll_nil r0
  obtain rfl : args = #[v0] := by cases args; simp_all
  obtain ⟨rfl, rfl⟩ := trodVars_none hV
  have k0 := h0
  have lt0 : ∀ x ∈ p0, x.block < W.heap.size := by obtain ⟨m, hm⟩ := k0; exact DataW.trod_lt m _ _ _ hm
  obtain ⟨a0, rfl, e0, -, w0⟩ := open_string Try.underlying9 (hval 0 9 v0 rfl rfl) h0
  have z0 : a0.size ≤ reachBytes := by have := sized_string hsz (j := 0) (t := 9) (bytes := a0.data.toList) rfl (by rw [e0]; rfl); simpa using this
  clear hA0 hval0 hsz0
  refine (lexWrong_walk a0 W z0).mono fun e W' ⟨he, bel⟩ => ?_
  subst he
  exact ⟨_, rfl, _, _, _, [], _, [], hW', trodAll_mk1 (shut_bool Try.underlying4 _), (trodAll_cons_mk (Below.trod laidOutTrue (by kernel_rfl) (of_decide_eq_true (by kernel_rfl)) k0 bel lt0) trodAll_mk0), rfl, bel.frame _, fun h => by cases h⟩

theorem over : Rows.lexWrongRow.holds Try.pinned (OpenSpec.ofChange Rows.lexWrongSpec) :=
  OpenClaim.holds_of_wide 13 Try.f13 rfl rfl rfl rfl rfl rfl rfl ⟨rfl, rfl, rfl, rfl, rfl⟩ rfl rfl rfl rfl rfl (by kernel_rfl) Try.func13 (by kernel_rfl)
    (of_decide_eq_true (by kernel_rfl)) (by unfold Func.isWrapper; first | (rw [if_pos (by decide +kernel)]; kernel_rfl) | (rw [if_neg (by decide +kernel)]; exact ⟨rfl, rfl⟩))
    (fun os started H enc _ => lifted os started H enc)

end lexWrongLaw
theorem lexWrong_holds : Rows.LexWrongSaid := lexWrongLaw.over
#print axioms lexWrong_holds
end Go.Proofs.Ytpckomnpeainlab
