/-
  For all raw things and numbers ClockBack returns true: adding a timer and canceling it restores the list. No condition.
-/
import Derived.Test.YtpckomnpeainlabClockG
import Derived.Test.YtpckomnpeainlabSlTmrE
namespace Go.Proofs.Ytpckomnpeainlab
open Go.RowKit

attribute [local go_sem] Evo.refl Evo.alloc Evo.drew Evo.drewN

set_option maxRecDepth 100000 in
set_option maxHeartbeats 8000000 in
theorem clockBack_walk (v : Value) (l : List RawD) (a : Int) (w : World) (h : RawsOf w v l) (h0 : -9223372036854775808 ≤ a) (h1 : a ≤ 9223372036854775807) :
    Calls Try.prog 4 #[v, .int .i64 a] w fun e w' => e = .returned (.bool true) ∧ Below w.heap.size w w' := by
  obtain ⟨ok, ol, oi⟩ := tmrT_ok l l.length (Nat.le_refl _)
  have HT := Lib.hid (timers_any v l w h)
  clear h
  generalize hm : tmrT l l.length = m at *
  have HM := Lib.hid hm
  clear hm
  have s0 := pickL_lo a 30 (by omega)
  have s1 := pickL_hi a 30 (by omega)
  have hne : ∀ x ∈ m, x.id ≠ 99 := fun x hx => by have := (oi x hx).1; omega
  have okn : OkNew ⟨99, pickL a 30⟩ := ⟨by simp, s0, by simp; omega⟩
  have okm : OkT (ins m ⟨99, pickL a 30⟩) := ins_ok ok (by omega) okn hne
  have HA := Lib.hid (fun v W (hW : Sl W 2 v (tcs m)) => add_new v m ⟨99, pickL a 30⟩ W hW ok (by omega) okn hne)
  have HB := Lib.hid (fun v W (hW : Sl W 2 v (tcs (ins m ⟨99, pickL a 30⟩))) => add_twice v (ins m ⟨99, pickL a 30⟩) ⟨99, 3⟩ ⟨99, pickL a 30⟩ W hW okm (by rw [ins_len]; omega) ⟨by decide, by decide, by decide⟩ (ins_mem.2 (.inl rfl)) rfl)
  have HC := Lib.hid (fun v W (hW : Sl W 2 v (tcs (ins m ⟨99, pickL a 30⟩))) => cancel_some v (ins m ⟨99, pickL a 30⟩) 99 (plc m ⟨99, pickL a 30⟩) W hW okm (ins_idx (t := ⟨99, pickL a 30⟩) hne) (by rw [ins_len]; have := plc_le m ⟨99, pickL a 30⟩; omega))
  rw [ins_erase] at HC
  have HD := Lib.hid (fun v W (hW : Sl W 2 v (tcs m)) => cancel_none v m 99 W hW ok hne)
  have HE := Lib.hid (fun v v' W (hW : Sl W 2 v (tcs m)) (hW' : Sl W 2 v' (tcs m)) => equal_tmr v v' m W hW hW' (by omega))
  simp only at HA HB
  clear ok ol oi hne okn okm
  go_enter Try.func4, Try.ntmps4
  go_wp2_with fail
  with_reducible refine (HT.out).mono ?_
  rintro e u1 ⟨v1, rfl, f1, e1⟩
  have f1 : Sl u1 2 v1 (tcs m) := HM.out ▸ f1
  have F1 := Lib.hid f1
  clear f1
  go_wp2_with fail
  with_reducible refine (picked_any a 30 _ h0 h1 (by omega) (by omega)).mono ?_
  rintro e w' ⟨rfl, rfl⟩
  generalize pickL a 30 = p at *
  go_wp2_with fail
  with_reducible refine (HA.out _ _ F1.out).mono ?_
  rintro e u2 ⟨v2, rfl, f2, e2⟩
  have F2 := Lib.hid f2
  clear f2
  go_wp2_with fail
  with_reducible refine (HB.out _ _ F2.out).mono ?_
  rintro e u3 ⟨v3, rfl, e3⟩
  go_wp2_with fail
  with_reducible refine (HC.out _ _ (F2.out.at e3)).mono ?_
  rintro e u4 ⟨v4, rfl, f4, e4⟩
  have F4 := Lib.hid f4
  clear f4
  go_wp2_with fail
  with_reducible refine (HD.out _ _ F4.out).mono ?_
  rintro e u5 ⟨rfl, e5⟩
  have F1' := Lib.hid (F1.out.at (((e2.trans e3).trans e4).trans e5))
  have F4' := Lib.hid (F4.out.at e5)
  have E := Lib.hid ((((e1.trans e2).trans e3).trans e4).trans e5)
  clear e1 e2 e3 e4 e5
  go_wp2_with fail
  with_reducible refine (HE.out _ _ _ F4'.out F1'.out).mono ?_
  rintro e u6 ⟨rfl, e6⟩
  go_wp2_with fail
  go_ret
  exact ⟨rfl, (E.out.trans e6).below⟩

namespace clockBackLaw
open Go.ChangeShapes Go.WideShapes Go.ChangeAt Go.RowKit
open Go.ChangeMaps (open_string shut_string)
set_option linter.unusedVariables false

set_option maxRecDepth 100000 in
theorem lifted (os : Os) (started : os.Started) (H : Type) (enc : TypeId × Value → H) :
    ReturnsInHanded {} Try.checked os 4 .any (Rows.clockBackSpec.pre6 enc Try.prog Try.f4 Rows.clockBackRow.domain false) (Rows.clockBackSpec.post enc Try.prog Try.f4 false true false false) := by
  refine returnsInHanded_of_change_sized (C := Try.checked) ownNone started (by kernel_rfl) Try.func4
    (ChangeSpec.witness6 (enc := enc) (C := Try.checked) false ⟨#[], #[.slice none 0 0, .int .i64 0], []⟩ 8 (by kernel_rfl) (by kernel_rfl) (by kernel_rfl) (by kernel_rfl)) ?_
  intro W base args ds gs before hval0 hW hcnd hsz0 _
  have hval : ∀ (j : Nat) t v, Try.f4.params[j]? = some t → args[j]? = some v → Value.okWide Try.prog W .any base t v := hval0
  have hsz : (DataW.weightsEach Try.prog (Try.f4.params.toList ++ Rows.clockBackSpec.plain.varTypes Try.prog) (ds ++ gs)).all (· ≤ reachBytes) = true := hsz0
  have hW' := hW
  obtain ⟨p, q, hA0, hV, rfl, hfz, hnd⟩ := hW
  have hA : DataW.TrodAll enc Try.prog W 0 (fun _ => true) true Try.f4.params.toList args.toList ds p := hA0
  rw [Try.params4] at hA hval hsz
  obtain ⟨v0, vs0, d0, ds0, p0, q0, hargs, rfl, rfl, h0, r0⟩ := trodAll_cons hA
  obtain ⟨v1, vs1, d1, ds1, p1, q1, rfl, rfl, rfl, h1, r1⟩ := trodAll_cons r0
  obtain ⟨rfl, rfl, rfl⟩ := trodAll_nil r1
  obtain rfl : args = #[v0, v1] := by cases args; simp_all
  obtain ⟨rfl, rfl⟩ := trodVars_none hV
  have k0 := h0
  have lt0 : ∀ x ∈ p0, x.block < W.heap.size := by obtain ⟨m, hm⟩ := k0; exact DataW.trod_lt m _ _ _ hm
  obtain ⟨a0, w0⟩ := open_rows (hval 0 22 v0 rfl rfl) h0 (fun es ss hd => sized_slice hsz (j := 0) (t := 22) (elems := es) (spare := ss) rfl (by rw [hd]; rfl) Try.underlying22)
  have k1 := h1
  have lt1 : ∀ x ∈ p1, x.block < W.heap.size := by obtain ⟨m, hm⟩ := k1; exact DataW.trod_lt m _ _ _ hm
  obtain ⟨a1, rfl, -, -, w1⟩ := open_int Try.underlying3 (hval 1 3 v1 rfl rfl) h1
  clear hA0 hval0 hsz0
  refine (clockBack_walk v0 a0 a1 W w0 (int_lo w1) (int_hi w1)).mono fun e W' ⟨he, bel⟩ => ?_
  subst he
  exact ⟨_, rfl, _, _, _, [], _, [], hW', trodAll_mk1 (shut_bool Try.underlying4 _), (trodAll_cons_mk (Below.trod laidOutTrue (by kernel_rfl) (of_decide_eq_true (by kernel_rfl)) k0 bel lt0) (trodAll_cons_mk (Below.trod laidOutTrue (by kernel_rfl) (of_decide_eq_true (by kernel_rfl)) k1 bel lt1) trodAll_mk0)), rfl, bel.frame _, fun h => by cases h⟩

theorem over : Rows.clockBackRow.holds Try.pinned (OpenSpec.ofChange Rows.clockBackSpec) :=
  OpenClaim.holds_of_wide 4 Try.f4 rfl rfl rfl rfl rfl rfl rfl ⟨rfl, rfl, rfl, rfl, rfl⟩ rfl rfl rfl rfl rfl (by kernel_rfl) Try.func4 (by kernel_rfl)
    (of_decide_eq_true (by kernel_rfl)) (by unfold Func.isWrapper; first | (rw [if_pos (by decide +kernel)]; kernel_rfl) | (rw [if_neg (by decide +kernel)]; exact ⟨rfl, rfl⟩))
    (fun os started H enc _ => lifted os started H enc)

end clockBackLaw
theorem clockBack_holds : Rows.ClockBackSaid := clockBackLaw.over
#print axioms clockBack_holds
end Go.Proofs.Ytpckomnpeainlab
