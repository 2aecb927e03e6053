/-
  For all raw things and numbers NetApart returns true: losing two letters in either order has the same result. No condition.
-/
import Derived.Test.YtpckomnpeainlabNetL
namespace Go.Proofs.Ytpckomnpeainlab
open Go.RowKit

attribute [local go_sem] Evo.refl Evo.alloc Evo.drew Evo.drewN

set_option maxRecDepth 100000 in
set_option maxHeartbeats 8000000 in
theorem netApart_walk (v : Value) (l : List RawD) (i j : Int) (w : World) (h : RawsOf w v l) (i0 : -9223372036854775808 ≤ i) (i1 : i ≤ 9223372036854775807) (j0 : -9223372036854775808 ≤ j) (j1 : j ≤ 9223372036854775807) :
    Calls Try.prog 7 #[v, .int .i64 i, .int .i64 j] w fun e w' => e = .returned (.bool true) ∧ Below w.heap.size w w' := by
  obtain ⟨hs, hre, hok⟩ := h
  have hre' : l.length * 40 ≤ 140737488351232 := hre
  have HK := Lib.hid (clone_raw v (l.map RawD.cells) w hs (raws_len l) (raws_one l) (by rw [List.length_map]; omega))
  obtain ⟨xl, xo⟩ := ltrT_ok (l ++ [rawZ, rawZ]) (l ++ [rawZ, rawZ]).length (Nat.le_refl _)
  have hL : ∀ W v' (_ : Sl W 4 v' ((l ++ [rawZ, rawZ]).map RawD.cells)), Calls Try.prog 26 #[v'] W (GivesOwn 54 8 (lcs (ltrT (l ++ [rawZ, rawZ]) (l ++ [rawZ, rawZ]).length)) W) :=
    fun W v' h => letters_gen v' (l ++ [rawZ, rawZ]) W h (by simp; omega) (fun r hr => by
      rcases List.mem_append.1 hr with hr | hr
      · exact hok r hr
      · simp at hr; subst hr; exact rawZ_ok)
  have HL := Lib.hid hL
  have hln : (l.map RawD.cells).length = l.length := List.length_map _
  have HLN := Lib.hid hln
  clear hL hs hok hln
  generalize ltrT (l ++ [rawZ, rawZ]) (l ++ [rawZ, rawZ]).length = x at *
  have hn2 : 2 ≤ x.length := by rw [xl]; simp; omega
  have hn12 : x.length ≤ 12 := by rw [xl]; omega
  clear xl
  have pa0 := pickL_lo i ((x.length : Int) - 1) (by omega)
  have pa1 := pickL_hi i ((x.length : Int) - 1) (by omega)
  obtain ⟨A, hA⟩ : ∃ A : Nat, pickL i ((x.length : Int) - 1) = A := ⟨_, (Int.toNat_of_nonneg pa0).symm⟩
  rw [hA] at pa0 pa1
  have pb0 := pickL_lo j ((x.length : Int) - 1 - A) (by omega)
  have pb1 := pickL_hi j ((x.length : Int) - 1 - A) (by omega)
  obtain ⟨D, hD⟩ : ∃ D : Nat, pickL j ((x.length : Int) - 1 - A) = D := ⟨_, (Int.toNat_of_nonneg pb0).symm⟩
  rw [hD] at pb0 pb1
  have HP1 := Lib.hid (fun W => hA ▸ picked_any i ((x.length : Int) - 1) W i0 i1 (by omega) (by omega))
  have HP2 := Lib.hid (fun W => hD ▸ picked_any j ((x.length : Int) - 1 - A) W j0 j1 (by omega) (by omega))
  have okx : ∀ z ∈ x, OkL z := fun z hz => (xo z hz).1
  have e1 : (A : Int) + 1 + (D : Int) - 1 = ((A + D : Nat) : Int) := by omega
  have e2 : (A : Int) + 1 + (D : Int) = ((A + 1 + D : Nat) : Int) := by omega
  have H1 := Lib.hid (fun W v (h : Sl W 8 v (lcs x)) => net_lose v x A W h (by omega) okx (by omega))
  have h2 : ∀ W v (_ : Sl W 8 v (lcs (x.eraseIdx A))), Calls Try.prog 28 #[v, .int .i64 ((A : Int) + 1 + (D : Int) - 1)] W (LOwn ((x.eraseIdx A).eraseIdx (A + D)) W) := fun W v h => by rw [e1]; exact net_lose v (x.eraseIdx A) (A + D) W h (by rw [erase_len (by omega)]; omega) (erase_ok okx A) (by rw [erase_len (by omega)]; omega)
  have h3 : ∀ W v (_ : Sl W 8 v (lcs x)), Calls Try.prog 28 #[v, .int .i64 ((A : Int) + 1 + (D : Int))] W (LOwn (x.eraseIdx (A + 1 + D)) W) := fun W v h => by rw [e2]; exact net_lose v x (A + 1 + D) W h (by omega) okx (by omega)
  have H4 := Lib.hid (fun W v (h : Sl W 8 v (lcs (x.eraseIdx (A + 1 + D)))) => net_lose v (x.eraseIdx (A + 1 + D)) A W h (by rw [erase_len (by omega)]; omega) (erase_ok okx _) (by rw [erase_len (by omega)]; omega))
  rw [erase_two x A D (by omega)] at H4
  have hz : ((x.eraseIdx A).eraseIdx (A + D)).length = x.length - 2 := by rw [erase_len (by rw [erase_len (by omega)]; omega), erase_len (by omega)]; omega
  have HE := Lib.hid (fun v v' W (hW : Sl W 8 v (lcs ((x.eraseIdx A).eraseIdx (A + D)))) (hW' : Sl W 8 v' (lcs ((x.eraseIdx A).eraseIdx (A + D)))) => equal_ltr v v' _ W hW hW' (by rw [hz]; omega))
  have H2 := Lib.hid h2
  have H3 := Lib.hid h3
  clear h2 h3 e1 e2 okx xo hA hD
  generalize hzz : (x.eraseIdx A).eraseIdx (A + D) = z at *
  clear hzz
  have HZ := Lib.hid (show (lcs z).length = x.length - 2 by simp [lcs, hz])
  have HZ2 := Lib.hid (show (((x.length - 2 : Nat) : Int) == (x.length : Int) - 2) = true by rw [beq_iff_eq]; omega)
  clear hz
  have HX := Lib.hid (show (lcs x).length = x.length by simp [lcs])
  have hq : ¬ ((x.length : Int) < 2) := by omega
  go_enter Try.func7, Try.ntmps7
  go_wp2_with fail
  with_reducible refine (HK.out).mono ?_
  rintro e u0 ⟨v0, rfl, h0, e0⟩
  have E0 := Lib.hid e0
  have H0 := Lib.hid h0
  clear h0 e0
  go_wp2_with (at_builtin; refine wpList_append_rows rfl _ _ _ rfl 47 _ 4 40 Try.underlying22 info_raw rfl (by decide) w (E0.out.alloc _) (l.map RawD.cells) [Z0, Z0] _ _ rfl rfl (H0.out.at ((Evo.refl _).alloc _)) (Sl.made _ [Z0, Z0] _ _ 4 z_len2 (by decide) rfl) z_len2 z_one2 ?c1 ?c2 ?_)
  case c1 => rw [HLN.out]; simp; omega
  case c2 => rw [HLN.out]; simp; omega
  intro v1 u1 h1 e1 hg
  have h1' : Own u1 w.heap.size 47 4 v1 ((l ++ [rawZ, rawZ]).map RawD.cells).length ((l ++ [rawZ, rawZ]).map RawD.cells).flatten := by simpa [rawZ] using h1
  have G1 := Lib.hid (Sl.of_own (raws_len _) h1')
  have E1 := Lib.hid e1
  clear h1 h1' e1 hg
  go_wp2_with fail
  with_reducible refine (HL.out _ _ G1.out).mono ?_
  rintro e u2 ⟨v2, rfl, h2, e2⟩
  have s2 := Sl.of_own (lcs_len _) h2
  obtain ⟨A2, c2, rfl, -, -, -⟩ := s2.form
  rw [HX.out] at s2 ⊢
  have G2 := Lib.hid s2
  have E2 := Lib.hid (E1.out.trans e2)
  clear h2 s2 e2
  go_wp2_with fail
  with_reducible refine (HP1.out _).mono ?_
  rintro e w' ⟨rfl, rfl⟩
  go_wp2_with fail
  with_reducible refine (HP2.out _).mono ?_
  rintro e w' ⟨rfl, rfl⟩
  go_wp2_with fail
  with_reducible refine (H1.out _ _ (G2.out)).mono ?_
  rintro e u3 ⟨v3, rfl, h3, e3⟩
  have G3 := Lib.hid (Sl.of_own (lcs_len _) h3)
  have E3 := Lib.hid e3
  clear h3 e3
  go_wp2_with fail
  with_reducible refine (H2.out _ _ G3.out).mono ?_
  rintro e u4 ⟨v4, rfl, h4, e4⟩
  have G4 := Lib.hid (Sl.of_own (lcs_len _) h4)
  have E4 := Lib.hid (E3.out.trans e4)
  clear h4 e4
  go_wp2_with fail
  with_reducible refine (H3.out _ _ (G2.out.at E4.out)).mono ?_
  rintro e u5 ⟨v5, rfl, h5, e5⟩
  have G5 := Lib.hid (Sl.of_own (lcs_len _) h5)
  have E5 := Lib.hid e5
  clear h5 e5
  go_wp2_with fail
  with_reducible refine (H4.out _ _ G5.out).mono ?_
  rintro e u6 ⟨v6, rfl, h6, e6⟩
  have G6 := Lib.hid (Sl.of_own (lcs_len _) h6)
  have E6 := Lib.hid (E5.out.trans e6)
  clear h6 e6
  obtain ⟨A4, c4, rfl, -, -, -⟩ := G4.out.form
  have g4 := G4.out.at E6.out
  rw [HZ.out] at g4 ⊢
  have G4' := Lib.hid g4
  clear g4
  have E := Lib.hid ((E2.out.trans E4.out).trans E6.out)
  have hz2 := HZ2.out
  go_wp2_with fail
  go_wp2_with fail
  with_reducible refine (HE.out _ _ _ G4'.out G6.out).mono ?_
  rintro e u7 ⟨rfl, e7⟩
  go_wp2_with fail
  go_ret
  exact ⟨rfl, (E.out.trans e7).below⟩

namespace netApartLaw
open Go.ChangeShapes Go.WideShapes Go.ChangeAt Go.RowKit
open Go.ChangeMaps (open_string shut_string)
set_option linter.unusedVariables false

set_option maxRecDepth 100000 in
theorem lifted (os : Os) (started : os.Started) (H : Type) (enc : TypeId × Value → H) :
    ReturnsInHanded {} Try.checked os 7 .any (Rows.netApartSpec.pre6 enc Try.prog Try.f7 Rows.netApartRow.domain false) (Rows.netApartSpec.post enc Try.prog Try.f7 false true false false) := by
  refine returnsInHanded_of_change_sized (C := Try.checked) ownNone started (by kernel_rfl) Try.func7
    (ChangeSpec.witness6 (enc := enc) (C := Try.checked) false ⟨#[], #[.slice none 0 0, .int .i64 0, .int .i64 0], []⟩ 8 (by kernel_rfl) (by kernel_rfl) (by kernel_rfl) (by kernel_rfl)) ?_
  intro W base args ds gs before hval0 hW hcnd hsz0 _
  have hval : ∀ (j : Nat) t v, Try.f7.params[j]? = some t → args[j]? = some v → Value.okWide Try.prog W .any base t v := hval0
  have hsz : (DataW.weightsEach Try.prog (Try.f7.params.toList ++ Rows.netApartSpec.plain.varTypes Try.prog) (ds ++ gs)).all (· ≤ reachBytes) = true := hsz0
  have hW' := hW
  obtain ⟨p, q, hA0, hV, rfl, hfz, hnd⟩ := hW
  have hA : DataW.TrodAll enc Try.prog W 0 (fun _ => true) true Try.f7.params.toList args.toList ds p := hA0
  rw [Try.params7] at hA hval hsz
  obtain ⟨v0, vs0, d0, ds0, p0, q0, hargs, rfl, rfl, h0, r0⟩ := trodAll_cons hA
  obtain ⟨v1, vs1, d1, ds1, p1, q1, rfl, rfl, rfl, h1, r1⟩ := trodAll_cons r0
  obtain ⟨v2, vs2, d2, ds2, p2, q2, rfl, rfl, rfl, h2, r2⟩ := trodAll_cons r1
  obtain ⟨rfl, rfl, rfl⟩ := trodAll_nil r2
  obtain rfl : args = #[v0, v1, v2] := by cases args; simp_all
  obtain ⟨rfl, rfl⟩ := trodVars_none hV
  have k0 := h0
  have lt0 : ∀ x ∈ p0, x.block < W.heap.size := by obtain ⟨m, hm⟩ := k0; exact DataW.trod_lt m _ _ _ hm
  obtain ⟨a0, w0⟩ := open_rows (hval 0 22 v0 rfl rfl) h0 (fun es ss hd => sized_slice hsz (j := 0) (t := 22) (elems := es) (spare := ss) rfl (by rw [hd]; rfl) Try.underlying22)
  have k1 := h1
  have lt1 : ∀ x ∈ p1, x.block < W.heap.size := by obtain ⟨m, hm⟩ := k1; exact DataW.trod_lt m _ _ _ hm
  obtain ⟨a1, rfl, -, -, w1⟩ := open_int Try.underlying3 (hval 1 3 v1 rfl rfl) h1
  have k2 := h2
  have lt2 : ∀ x ∈ p2, x.block < W.heap.size := by obtain ⟨m, hm⟩ := k2; exact DataW.trod_lt m _ _ _ hm
  obtain ⟨a2, rfl, -, -, w2⟩ := open_int Try.underlying3 (hval 2 3 v2 rfl rfl) h2
  clear hA0 hval0 hsz0
  refine (netApart_walk v0 a0 a1 a2 W w0 (int_lo w1) (int_hi w1) (int_lo w2) (int_hi w2)).mono fun e W' ⟨he, bel⟩ => ?_
  subst he
  exact ⟨_, rfl, _, _, _, [], _, [], hW', trodAll_mk1 (shut_bool Try.underlying4 _), (trodAll_cons_mk (Below.trod laidOutTrue (by kernel_rfl) (of_decide_eq_true (by kernel_rfl)) k0 bel lt0) (trodAll_cons_mk (Below.trod laidOutTrue (by kernel_rfl) (of_decide_eq_true (by kernel_rfl)) k1 bel lt1) (trodAll_cons_mk (Below.trod laidOutTrue (by kernel_rfl) (of_decide_eq_true (by kernel_rfl)) k2 bel lt2) trodAll_mk0))), rfl, bel.frame _, fun h => by cases h⟩

theorem over : Rows.netApartRow.holds Try.pinned (OpenSpec.ofChange Rows.netApartSpec) :=
  OpenClaim.holds_of_wide 7 Try.f7 rfl rfl rfl rfl rfl rfl rfl ⟨rfl, rfl, rfl, rfl, rfl⟩ rfl rfl rfl rfl rfl (by kernel_rfl) Try.func7 (by kernel_rfl)
    (of_decide_eq_true (by kernel_rfl)) (by unfold Func.isWrapper; first | (rw [if_pos (by decide +kernel)]; kernel_rfl) | (rw [if_neg (by decide +kernel)]; exact ⟨rfl, rfl⟩))
    (fun os started H enc _ => lifted os started H enc)

end netApartLaw
theorem netApart_holds : Rows.NetApartSaid := netApartLaw.over
#print axioms netApart_holds
end Go.Proofs.Ytpckomnpeainlab
