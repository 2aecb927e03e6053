/-
  For all raw things and numbers ClockMoves returns true: the timers that are due at the end do not depend on whether some were taken out earlier. No condition.
-/
import Derived.Test.YtpckomnpeainlabClockG
import Derived.Test.YtpckomnpeainlabSlTmrE
import Derived.Test.YtpckomnpeainlabDueP
namespace Go.Proofs.Ytpckomnpeainlab
open Go.RowKit

attribute [local go_sem] Evo.refl Evo.alloc Evo.drew Evo.drewN

set_option maxRecDepth 100000 in
set_option maxHeartbeats 16000000 in
theorem clockMoves_walk (v : Value) (l : List RawD) (a b : Int) (w : World) (h : RawsOf w v l) (h0 : -9223372036854775808 ≤ a) (h1 : a ≤ 9223372036854775807) (h2 : -9223372036854775808 ≤ b) (h3 : b ≤ 9223372036854775807) :
    Calls Try.prog 5 #[v, .int .i64 a, .int .i64 b] w fun e w' => e = .returned (.bool true) ∧ Below w.heap.size w w' := by
  obtain ⟨ok, ol, oi⟩ := tmrT_ok l l.length (Nat.le_refl _)
  have HT := Lib.hid (timers_any v l w h)
  clear h
  generalize hm : tmrT l l.length = m at *
  have HM := Lib.hid hm
  clear hm
  have hl := ok.wk.len
  have HD := Lib.hid (fun v now W (hW : Sl W 2 v (tcs m)) => due_any v m now W hW ok)
  have HD2 := Lib.hid (fun v lo now W (hW : Sl W 2 v (tcs (m.drop (dueN m lo)))) => due_any v (m.drop (dueN m lo)) now W hW (ok_sub ok (List.drop_sublist _ _)))
  have HS := Lib.hid (fun lo hi (h : lo ≤ hi) => due_split m lo hi h)
  have HC := Lib.hid (fun (l1 l2 : List Tmr) (h : l1.length + l2.length ≤ 40) W v va vb h ha hb => concat_tmr v va vb (tcs l1) (tcs l2) W h ha hb (tcs_len _) (tcs_len _) (tcs_one _) (tcs_one _) (by simp; omega))
  have HE := Lib.hid (fun v v' (m : List Tmr) (hm : m.length ≤ 40) W (hW : Sl W 2 v (tcs m)) (hW' : Sl W 2 v' (tcs m)) => equal_tmr v v' m W hW hW' (by omega))
  clear ok ol oi
  go_enter Try.func5, Try.ntmps5
  go_wp2_with fail
  with_reducible refine (HT.out).mono ?_
  rintro e u1 ⟨v1, rfl, f1, e1⟩
  have F1 := Lib.hid (show Sl u1 2 v1 (tcs m) from HM.out ▸ f1)
  clear f1
  go_wp2_with fail
  with_reducible refine (picked_any a 40 _ h0 h1 (by omega) (by omega)).mono ?_
  rintro e w' ⟨rfl, rfl⟩
  go_wp2_with fail
  with_reducible refine (picked_any b 40 _ h2 h3 (by omega) (by omega)).mono ?_
  rintro e w' ⟨rfl, rfl⟩
  clear h0 h1 h2 h3
  generalize pickL a 40 = p at *
  generalize pickL b 40 = q at *
  rcases (by omega : p < q ∨ p = q ∨ q < p) with g | g | g
  · go_wp2_with fail
    with_reducible refine (HD.out _ p _ F1.out).mono ?_
    rintro e u2 ⟨v2, v3, rfl, f2, f3, e2⟩
    obtain ⟨A2, n2, c2, rfl⟩ := f2.form3
    have F2 := Lib.hid f2
    have F3 := Lib.hid f3
    clear f2 f3
    go_wp2_with fail
    with_reducible refine (HD2.out _ p q _ F3.out).mono ?_
    rintro e u3 ⟨v4, v5, rfl, f4, f5, e3⟩
    obtain ⟨A4, n4, c4, rfl⟩ := f4.form3
    have F4 := Lib.hid f4
    have F5 := Lib.hid f5
    clear f4 f5
    go_wp2_with fail
    with_reducible refine (HD.out _ q _ ((F1.out.at e2).at e3)).mono ?_
    rintro e u4 ⟨v6, v7, rfl, f6, f7, e4⟩
    have F6 := Lib.hid f6
    have F7 := Lib.hid f7
    have ee := (Evo.refl u4).alloc (.cells #[.slice A2 n2 c2, .slice A4 n4 c4] 23)
    have G2 := Lib.hid ((F2.out.at (e3.trans e4)).at ee)
    have G4 := Lib.hid ((F4.out.at e4).at ee)
    have EE := Lib.hid ((((e1.trans e2).trans e3).trans e4).trans ee)
    have F5' := Lib.hid ((F5.out.at e4).at ee)
    have F7' := Lib.hid (F7.out.at ee)
    have F6' := Lib.hid (F6.out.at ee)
    have hts := due_take m p q (by omega)
    have hds := due_drop m p q (by omega)
    have HTS := Lib.hid hts
    have HDS := Lib.hid hds
    have hl2 : (m.take (dueN m p)).length + ((m.drop (dueN m p)).take (dueN (m.drop (dueN m p)) q)).length ≤ 40 := by simp; omega
    have hl3 : (m.take (dueN m q)).length ≤ 40 := by simp; omega
    have hl4 : (m.drop (dueN m q)).length ≤ 40 := by simp; omega
    clear f6 f7 e2 e3 e4 ee hts hds e1 g
    go_wp2_with fail
    with_reducible refine (HC.out _ _ hl2 _ _ _ _ (Sl.two _ _ _ _) G2.out G4.out).mono ?_
    rintro e u5 ⟨v8, rfl, h8, e5⟩
    rw [show tcs (m.take (dueN m p)) ++ tcs ((m.drop (dueN m p)).take (dueN (m.drop (dueN m p)) q)) = tcs (m.take (dueN m q)) from List.map_append.symm.trans (congrArg tcs HTS.out)] at h8
    have G8 := Lib.hid (Sl.of_own (tcs_len _) h8)
    clear h8
    go_wp2_with fail
    with_reducible refine (HE.out _ _ _ hl3 _ G8.out (F6'.out.at e5)).mono ?_
    rintro e u6 ⟨rfl, e6⟩
    have f5 := (F5'.out.at e5).at e6
    rw [HDS.out] at f5
    have G5 := Lib.hid f5
    clear f5
    go_wp2_with fail
    with_reducible refine (HE.out _ _ _ hl4 _ G5.out ((F7'.out.at e5).at e6)).mono ?_
    rintro e u7 ⟨rfl, e7⟩
    go_wp2_with fail
    go_ret
    exact ⟨rfl, (((EE.out.trans e5).trans e6).trans e7).below⟩
  · subst g
    go_wp2_with fail
    with_reducible refine (HD.out _ p _ F1.out).mono ?_
    rintro e u2 ⟨v2, v3, rfl, f2, f3, e2⟩
    obtain ⟨A2, n2, c2, rfl⟩ := f2.form3
    have F2 := Lib.hid f2
    have F3 := Lib.hid f3
    clear f2 f3
    go_wp2_with fail
    with_reducible refine (HD2.out _ p p _ F3.out).mono ?_
    rintro e u3 ⟨v4, v5, rfl, f4, f5, e3⟩
    obtain ⟨A4, n4, c4, rfl⟩ := f4.form3
    have F4 := Lib.hid f4
    have F5 := Lib.hid f5
    clear f4 f5
    go_wp2_with fail
    with_reducible refine (HD.out _ p _ ((F1.out.at e2).at e3)).mono ?_
    rintro e u4 ⟨v6, v7, rfl, f6, f7, e4⟩
    have F6 := Lib.hid f6
    have F7 := Lib.hid f7
    have ee := (Evo.refl u4).alloc (.cells #[.slice A2 n2 c2, .slice A4 n4 c4] 23)
    have G2 := Lib.hid ((F2.out.at (e3.trans e4)).at ee)
    have G4 := Lib.hid ((F4.out.at e4).at ee)
    have EE := Lib.hid ((((e1.trans e2).trans e3).trans e4).trans ee)
    have F5' := Lib.hid ((F5.out.at e4).at ee)
    have F7' := Lib.hid (F7.out.at ee)
    have F6' := Lib.hid (F6.out.at ee)
    have hts := due_take m p p (Int.le_refl _)
    have hds := due_drop m p p (Int.le_refl _)
    have HTS := Lib.hid hts
    have HDS := Lib.hid hds
    have hl2 : (m.take (dueN m p)).length + ((m.drop (dueN m p)).take (dueN (m.drop (dueN m p)) p)).length ≤ 40 := by simp; omega
    have hl3 : (m.take (dueN m p)).length ≤ 40 := by simp; omega
    have hl4 : (m.drop (dueN m p)).length ≤ 40 := by simp; omega
    clear f6 f7 e2 e3 e4 ee hts hds e1
    go_wp2_with fail
    with_reducible refine (HC.out _ _ hl2 _ _ _ _ (Sl.two _ _ _ _) G2.out G4.out).mono ?_
    rintro e u5 ⟨v8, rfl, h8, e5⟩
    rw [show tcs (m.take (dueN m p)) ++ tcs ((m.drop (dueN m p)).take (dueN (m.drop (dueN m p)) p)) = tcs (m.take (dueN m p)) from List.map_append.symm.trans (congrArg tcs HTS.out)] at h8
    have G8 := Lib.hid (Sl.of_own (tcs_len _) h8)
    clear h8
    go_wp2_with fail
    with_reducible refine (HE.out _ _ _ hl3 _ G8.out (F6'.out.at e5)).mono ?_
    rintro e u6 ⟨rfl, e6⟩
    have f5 := (F5'.out.at e5).at e6
    rw [HDS.out] at f5
    have G5 := Lib.hid f5
    clear f5
    go_wp2_with fail
    with_reducible refine (HE.out _ _ _ hl4 _ G5.out ((F7'.out.at e5).at e6)).mono ?_
    rintro e u7 ⟨rfl, e7⟩
    go_wp2_with fail
    go_ret
    exact ⟨rfl, (((EE.out.trans e5).trans e6).trans e7).below⟩
  · go_wp2_with fail
    with_reducible refine (HD.out _ q _ F1.out).mono ?_
    rintro e u2 ⟨v2, v3, rfl, f2, f3, e2⟩
    obtain ⟨A2, n2, c2, rfl⟩ := f2.form3
    have F2 := Lib.hid f2
    have F3 := Lib.hid f3
    clear f2 f3
    go_wp2_with fail
    with_reducible refine (HD2.out _ q p _ F3.out).mono ?_
    rintro e u3 ⟨v4, v5, rfl, f4, f5, e3⟩
    obtain ⟨A4, n4, c4, rfl⟩ := f4.form3
    have F4 := Lib.hid f4
    have F5 := Lib.hid f5
    clear f4 f5
    go_wp2_with fail
    with_reducible refine (HD.out _ p _ ((F1.out.at e2).at e3)).mono ?_
    rintro e u4 ⟨v6, v7, rfl, f6, f7, e4⟩
    have F6 := Lib.hid f6
    have F7 := Lib.hid f7
    have ee := (Evo.refl u4).alloc (.cells #[.slice A2 n2 c2, .slice A4 n4 c4] 23)
    have G2 := Lib.hid ((F2.out.at (e3.trans e4)).at ee)
    have G4 := Lib.hid ((F4.out.at e4).at ee)
    have EE := Lib.hid ((((e1.trans e2).trans e3).trans e4).trans ee)
    have F5' := Lib.hid ((F5.out.at e4).at ee)
    have F7' := Lib.hid (F7.out.at ee)
    have F6' := Lib.hid (F6.out.at ee)
    have hts := due_take m q p (by omega)
    have hds := due_drop m q p (by omega)
    have HTS := Lib.hid hts
    have HDS := Lib.hid hds
    have hl2 : (m.take (dueN m q)).length + ((m.drop (dueN m q)).take (dueN (m.drop (dueN m q)) p)).length ≤ 40 := by simp; omega
    have hl3 : (m.take (dueN m p)).length ≤ 40 := by simp; omega
    have hl4 : (m.drop (dueN m p)).length ≤ 40 := by simp; omega
    clear f6 f7 e2 e3 e4 ee hts hds e1 g
    go_wp2_with fail
    with_reducible refine (HC.out _ _ hl2 _ _ _ _ (Sl.two _ _ _ _) G2.out G4.out).mono ?_
    rintro e u5 ⟨v8, rfl, h8, e5⟩
    rw [show tcs (m.take (dueN m q)) ++ tcs ((m.drop (dueN m q)).take (dueN (m.drop (dueN m q)) p)) = tcs (m.take (dueN m p)) from List.map_append.symm.trans (congrArg tcs HTS.out)] at h8
    have G8 := Lib.hid (Sl.of_own (tcs_len _) h8)
    clear h8
    go_wp2_with fail
    with_reducible refine (HE.out _ _ _ hl3 _ G8.out (F6'.out.at e5)).mono ?_
    rintro e u6 ⟨rfl, e6⟩
    have f5 := (F5'.out.at e5).at e6
    rw [HDS.out] at f5
    have G5 := Lib.hid f5
    clear f5
    go_wp2_with fail
    with_reducible refine (HE.out _ _ _ hl4 _ G5.out ((F7'.out.at e5).at e6)).mono ?_
    rintro e u7 ⟨rfl, e7⟩
    go_wp2_with fail
    go_ret
    exact ⟨rfl, (((EE.out.trans e5).trans e6).trans e7).below⟩

namespace clockMovesLaw
open Go.ChangeShapes Go.WideShapes Go.ChangeAt Go.RowKit
open Go.ChangeMaps (open_string shut_string)
set_option linter.unusedVariables false

set_option maxRecDepth 100000 in
theorem lifted (os : Os) (started : os.Started) (H : Type) (enc : TypeId × Value → H) :
    ReturnsInHanded {} Try.checked os 5 .any (Rows.clockMovesSpec.pre6 enc Try.prog Try.f5 Rows.clockMovesRow.domain false) (Rows.clockMovesSpec.post enc Try.prog Try.f5 false true false false) := by
  refine returnsInHanded_of_change_sized (C := Try.checked) ownNone started (by kernel_rfl) Try.func5
    (ChangeSpec.witness6 (enc := enc) (C := Try.checked) false ⟨#[], #[.slice none 0 0, .int .i64 0, .int .i64 0], []⟩ 8 (by kernel_rfl) (by kernel_rfl) (by kernel_rfl) (by kernel_rfl)) ?_
  intro W base args ds gs before hval0 hW hcnd hsz0 _
  have hval : ∀ (j : Nat) t v, Try.f5.params[j]? = some t → args[j]? = some v → Value.okWide Try.prog W .any base t v := hval0
  have hsz : (DataW.weightsEach Try.prog (Try.f5.params.toList ++ Rows.clockMovesSpec.plain.varTypes Try.prog) (ds ++ gs)).all (· ≤ reachBytes) = true := hsz0
  have hW' := hW
  obtain ⟨p, q, hA0, hV, rfl, hfz, hnd⟩ := hW
  have hA : DataW.TrodAll enc Try.prog W 0 (fun _ => true) true Try.f5.params.toList args.toList ds p := hA0
  rw [Try.params5] at hA hval hsz
  obtain ⟨v0, vs0, d0, ds0, p0, q0, hargs, rfl, rfl, h0, r0⟩ := trodAll_cons hA
  obtain ⟨v1, vs1, d1, ds1, p1, q1, rfl, rfl, rfl, h1, r1⟩ := trodAll_cons r0
  obtain ⟨v2, vs2, d2, ds2, p2, q2, rfl, rfl, rfl, h2, r2⟩ := trodAll_cons r1
  obtain ⟨rfl, rfl, rfl⟩ := trodAll_nil r2
  obtain rfl : args = #[v0, v1, v2] := by cases args; simp_all
  obtain ⟨rfl, rfl⟩ := trodVars_none hV
  have k0 := h0
  have lt0 : ∀ x ∈ p0, x.block < W.heap.size := by obtain ⟨m, hm⟩ := k0; exact DataW.trod_lt m _ _ _ hm
  obtain ⟨a0, w0⟩ := open_rows (hval 0 22 v0 rfl rfl) h0 (fun es ss hd => sized_slice hsz (j := 0) (t := 22) (elems := es) (spare := ss) rfl (by rw [hd]; rfl) Try.underlying22)
  have k1 := h1
  have lt1 : ∀ x ∈ p1, x.block < W.heap.size := by obtain ⟨m, hm⟩ := k1; exact DataW.trod_lt m _ _ _ hm
  obtain ⟨a1, rfl, -, -, w1⟩ := open_int Try.underlying3 (hval 1 3 v1 rfl rfl) h1
  have k2 := h2
  have lt2 : ∀ x ∈ p2, x.block < W.heap.size := by obtain ⟨m, hm⟩ := k2; exact DataW.trod_lt m _ _ _ hm
  obtain ⟨a2, rfl, -, -, w2⟩ := open_int Try.underlying3 (hval 2 3 v2 rfl rfl) h2
  clear hA0 hval0 hsz0
  refine (clockMoves_walk v0 a0 a1 a2 W w0 (int_lo w1) (int_hi w1) (int_lo w2) (int_hi w2)).mono fun e W' ⟨he, bel⟩ => ?_
  subst he
  exact ⟨_, rfl, _, _, _, [], _, [], hW', trodAll_mk1 (shut_bool Try.underlying4 _), (trodAll_cons_mk (Below.trod laidOutTrue (by kernel_rfl) (of_decide_eq_true (by kernel_rfl)) k0 bel lt0) (trodAll_cons_mk (Below.trod laidOutTrue (by kernel_rfl) (of_decide_eq_true (by kernel_rfl)) k1 bel lt1) (trodAll_cons_mk (Below.trod laidOutTrue (by kernel_rfl) (of_decide_eq_true (by kernel_rfl)) k2 bel lt2) trodAll_mk0))), rfl, bel.frame _, fun h => by cases h⟩

theorem over : Rows.clockMovesRow.holds Try.pinned (OpenSpec.ofChange Rows.clockMovesSpec) :=
  OpenClaim.holds_of_wide 5 Try.f5 rfl rfl rfl rfl rfl rfl rfl ⟨rfl, rfl, rfl, rfl, rfl⟩ rfl rfl rfl rfl rfl (by kernel_rfl) Try.func5 (by kernel_rfl)
    (of_decide_eq_true (by kernel_rfl)) (by unfold Func.isWrapper; first | (rw [if_pos (by decide +kernel)]; kernel_rfl) | (rw [if_neg (by decide +kernel)]; exact ⟨rfl, rfl⟩))
    (fun os started H enc _ => lifted os started H enc)

end clockMovesLaw
theorem clockMoves_holds : Rows.ClockMovesSaid := clockMovesLaw.over
#print axioms clockMoves_holds
end Go.Proofs.Ytpckomnpeainlab
