/-
  For all raw things ClockSorted returns true: timers are kept in order of expiry, in whatever order they are added. No condition.
-/
import Derived.Test.YtpckomnpeainlabClockG
namespace Go.Proofs.Ytpckomnpeainlab
open Go.RowKit

attribute [local go_sem] Evo.refl Evo.alloc Evo.drew Evo.drewN

theorem sorted_at {l : List Tmr} (h : OkT l) {k : Nat} {x y : Tmr} (hy : l[k]? = some y) (hx : l[k + 1]? = some x) : y.at' < x.at' ∨ y.at' = x.at' ∧ y.id < x.id := by
  obtain ⟨hk, rfl⟩ := List.getElem?_eq_some_iff.1 hx
  obtain ⟨hk', rfl⟩ := List.getElem?_eq_some_iff.1 hy
  have h1 := List.pairwise_iff_getElem.1 h.wk.ord k (k + 1) hk' hk (by omega)
  have h2 := h.ids
  rw [List.nodup_iff_pairwise_ne, List.pairwise_map, List.pairwise_iff_getElem] at h2
  have h3 := h2 k (k + 1) hk' hk (by omega)
  unfold ltT at h1
  omega

set_option maxRecDepth 100000 in
set_option maxHeartbeats 8000000 in
theorem clockSorted_walk (v : Value) (l : List RawD) (w : World) (h : RawsOf w v l) :
    Calls Try.prog 3 #[v] w fun e w' => e = .returned (.bool true) ∧ Below w.heap.size w w' := by
  obtain ⟨ok, ol, oi⟩ := tmrT_ok l l.length (Nat.le_refl _)
  have HT := Lib.hid (timers_any v l w h)
  obtain ⟨A0, cap0, rfl, p1, p2, -⟩ := h.1.form
  rw [List.length_map] at *
  have p3 : l.length ≤ 9223372036854775807 := by unfold maxLen at p2; omega
  clear h
  generalize hm : tmrT l l.length = m at *
  have HM := Lib.hid hm
  clear hm
  have HS := Lib.hid (fun k x y (a : m[k]? = some y) (b : m[k + 1]? = some x) => sorted_at ok a b)
  have hl := ok.wk.len
  have HC := Lib.hid (fun v W (hW : Sl W 2 v (tcs m)) => check_any v m W hW (by omega))
  rw [chk_ok ok] at HC
  have OL := Lib.hid ol
  clear ok oi ol
  go_enter Try.func3, Try.ntmps3
  go_wp2_with fail
  with_reducible refine (HT.out).mono ?_
  rintro e u1 ⟨v1, rfl, f1, e1⟩
  have f1 : Sl u1 2 v1 (tcs m) := HM.out ▸ f1
  obtain ⟨A, cap, rfl, q1, q2, -⟩ := f1.form
  rw [List.length_map] at *
  have F1 := Lib.hid f1
  clear f1
  go_wp2_with fail
  go_loopw [13] (fun n wr => ∃ k : Nat, k ≤ m.length ∧ n = .int .i64 k ∧ Evo u1 wr) (fun n _ => m.length - (intOf n).toNat)
  case atStart => exact ⟨0, Nat.zero_le _, rfl, Evo.refl _⟩
  case round =>
    obtain ⟨k, hk, rfl, hb⟩ := hrel
    by_cases hlt : k < m.length
    · rcases k with _ | k
      · go_wp2_with fail
        go_quiet (fail)
        go_wp2_with fail
        go_roundw
        case rel => exact ⟨1, by omega, rfl, by (first | assumption | (exact Evo.drew (Evo.refl _)) | (exact Evo.drew (by assumption)) | (exact Evo.drewN (by assumption) _) | (exact Evo.drewN (Evo.refl _) _) | (exact Evo.trans (by assumption) ⟨by assumption⟩) | (exact Evo.alloc (by assumption) _) | (exact Evo.trans (by assumption) hE))⟩
        case measure => simp [intOf]; omega
      · obtain ⟨x, hx⟩ : ∃ x, m[k + 1]? = some x := ⟨_, List.getElem?_eq_getElem hlt⟩
        obtain ⟨y, hy⟩ : ∃ y, m[k]? = some y := ⟨_, List.getElem?_eq_getElem (by omega)⟩
        have hs := HS.out k x y hy hx
        obtain ⟨b, off, rfl, hbl, hc⟩ := F1.out.row (i := k) (r := y.cells) (by rw [List.getElem?_map, hy]; rfl)
        obtain ⟨b', off', e', -, hd⟩ := F1.out.row (i := k + 1) (r := x.cells) (by rw [List.getElem?_map, hx]; rfl)
        simp only [Option.some.injEq, Addr.mk.injEq] at e'
        obtain ⟨rfl, rfl, -⟩ := e'
        have c0 : ∀ W, Evo u1 W → W.cell? ⟨b, off + k * 2, none⟩ = some _ := hc 0 _ rfl
        have c1 : ∀ W, Evo u1 W → W.cell? ⟨b, off + k * 2 + 1, none⟩ = some _ := hc 1 _ rfl
        have d0 : ∀ W, Evo u1 W → W.cell? ⟨b, off + (k+1) * 2, none⟩ = some _ := hd 0 _ rfl
        have d1 : ∀ W, Evo u1 W → W.cell? ⟨b, off + (k+1) * 2 + 1, none⟩ = some _ := hd 1 _ rfl
        have wm : IntKind.i64.wrap (((k + 1 : Nat) : Int) - 1) = k := by rw [IntWalk.i64_in _ (by omega)]; omega
        have wm' : IntKind.i64.wrap (k : Int) = k := IntWalk.i64_in _ (by omega)
        have wm2 : IntKind.i64.wrap ((k : Int) + 1 - 1) = k := by rw [IntWalk.i64_in _ (by omega)]; omega
        have im0 : (0 : Int) ≤ (k : Int) := by omega
        have im1 : (k : Int) < (m.length : Int) := by omega
        have im2 : (0 : Int) ≤ (k : Int) + 1 := by omega
        have im3 : (k : Int) + 1 < (m.length : Int) := by omega
        clear hc hd hx hy
        rcases hs with hs | ⟨hs, hi⟩
        · have g1 : decide (x.at' < y.at') = false := by simp; omega
          have g2 : (y.at' == x.at') = false := beq_eq_false_iff_ne.2 (by omega)
          go_wp2_with fail
          go_quiet (fail)
          go_wp2_with fail
          go_roundw
          case rel => exact ⟨k + 1 + 1, by omega, by go_num, by (first | assumption | (exact Evo.drew (Evo.refl _)) | (exact Evo.drew (by assumption)) | (exact Evo.drewN (by assumption) _) | (exact Evo.drewN (Evo.refl _) _) | (exact Evo.trans (by assumption) ⟨by assumption⟩) | (exact Evo.alloc (by assumption) _) | (exact Evo.trans (by assumption) hE))⟩
          case measure => simp [intOf]; omega
        · have g1 : decide (x.at' < y.at') = false := by simp; omega
          have g2 : (y.at' == x.at') = true := beq_iff_eq.2 hs
          have g3 : decide (x.id ≤ y.id) = false := by simp; omega
          clear hs
          go_wp2_with fail
          go_quiet (fail)
          go_wp2_with fail
          go_roundw
          case rel => exact ⟨k + 1 + 1, by omega, by go_num, by (first | assumption | (exact Evo.drew (Evo.refl _)) | (exact Evo.drew (by assumption)) | (exact Evo.drewN (by assumption) _) | (exact Evo.drewN (Evo.refl _) _) | (exact Evo.trans (by assumption) ⟨by assumption⟩) | (exact Evo.alloc (by assumption) _) | (exact Evo.trans (by assumption) hE))⟩
          case measure => simp [intOf]; omega
    · obtain rfl : k = m.length := by omega
      have hcl := HC.out _ _ (F1.out.at hb)
      clear hlt hk
      rcases (by omega : l.length < 12 ∨ l.length = 12 ∨ 12 < l.length) with g | g | g
      · have e12 : m.length = l.length := by rw [OL.out]; omega
        rw [e12] at hcl ⊢
        have HCL := Lib.hid hcl
        have g2 : (l.length : Int) < 12 := by omega
        clear hcl
        go_wp2_with fail
        with_reducible refine (HCL.out).mono ?_
        rintro e u2 ⟨rfl, hb2⟩
        go_wp2_with fail
        go_ret
        exact ⟨rfl, (e1.trans (hb.trans ⟨hb2⟩)).below⟩
      · have e12 : m.length = 12 := by rw [OL.out]; omega
        rw [e12] at hcl ⊢
        rw [g]
        have HCL := Lib.hid hcl
        clear hcl g
        go_wp2_with fail
        with_reducible refine (HCL.out).mono ?_
        rintro e u2 ⟨rfl, hb2⟩
        go_wp2_with fail
        go_ret
        exact ⟨rfl, (e1.trans (hb.trans ⟨hb2⟩)).below⟩
      · have e12 : m.length = 12 := by rw [OL.out]; omega
        rw [e12] at hcl ⊢
        have g2 : (12 : Int) < (l.length : Int) := by omega
        have HCL := Lib.hid hcl
        clear hcl
        go_wp2_with fail
        with_reducible refine (HCL.out).mono ?_
        rintro e u2 ⟨rfl, hb2⟩
        go_wp2_with fail
        go_ret
        exact ⟨rfl, (e1.trans (hb.trans ⟨hb2⟩)).below⟩

namespace clockSortedLaw
open Go.ChangeShapes Go.WideShapes Go.ChangeAt Go.RowKit
open Go.ChangeMaps (open_string shut_string)
set_option linter.unusedVariables false

set_option maxRecDepth 100000 in
theorem lifted (os : Os) (started : os.Started) (H : Type) (enc : TypeId × Value → H) :
    ReturnsInHanded {} Try.checked os 3 .any (Rows.clockSortedSpec.pre6 enc Try.prog Try.f3 Rows.clockSortedRow.domain false) (Rows.clockSortedSpec.post enc Try.prog Try.f3 false true false false) := by
  refine returnsInHanded_of_change_sized (C := Try.checked) ownNone started (by kernel_rfl) Try.func3
    (ChangeSpec.witness6 (enc := enc) (C := Try.checked) false ⟨#[], #[.slice none 0 0], []⟩ 8 (by kernel_rfl) (by kernel_rfl) (by kernel_rfl) (by kernel_rfl)) ?_
  intro W base args ds gs before hval0 hW hcnd hsz0 _
  have hval : ∀ (j : Nat) t v, Try.f3.params[j]? = some t → args[j]? = some v → Value.okWide Try.prog W .any base t v := hval0
  have hsz : (DataW.weightsEach Try.prog (Try.f3.params.toList ++ Rows.clockSortedSpec.plain.varTypes Try.prog) (ds ++ gs)).all (· ≤ reachBytes) = true := hsz0
  have hW' := hW
  obtain ⟨p, q, hA0, hV, rfl, hfz, hnd⟩ := hW
  have hA : DataW.TrodAll enc Try.prog W 0 (fun _ => true) true Try.f3.params.toList args.toList ds p := hA0
  rw [Try.params3] at hA hval hsz
  obtain ⟨v0, vs0, d0, ds0, p0, q0, hargs, rfl, rfl, h0, r0⟩ := trodAll_cons hA
  obtain ⟨rfl, rfl, rfl⟩ := trodAll_nil r0
  obtain rfl : args = #[v0] := by cases args; simp_all
  obtain ⟨rfl, rfl⟩ := trodVars_none hV
  have k0 := h0
  have lt0 : ∀ x ∈ p0, x.block < W.heap.size := by obtain ⟨m, hm⟩ := k0; exact DataW.trod_lt m _ _ _ hm
  obtain ⟨a0, w0⟩ := open_rows (hval 0 22 v0 rfl rfl) h0 (fun es ss hd => sized_slice hsz (j := 0) (t := 22) (elems := es) (spare := ss) rfl (by rw [hd]; rfl) Try.underlying22)
  clear hA0 hval0 hsz0
  refine (clockSorted_walk v0 a0 W w0).mono fun e W' ⟨he, bel⟩ => ?_
  subst he
  exact ⟨_, rfl, _, _, _, [], _, [], hW', trodAll_mk1 (shut_bool Try.underlying4 _), (trodAll_cons_mk (Below.trod laidOutTrue (by kernel_rfl) (of_decide_eq_true (by kernel_rfl)) k0 bel lt0) trodAll_mk0), rfl, bel.frame _, fun h => by cases h⟩

theorem over : Rows.clockSortedRow.holds Try.pinned (OpenSpec.ofChange Rows.clockSortedSpec) :=
  OpenClaim.holds_of_wide 3 Try.f3 rfl rfl rfl rfl rfl rfl rfl ⟨rfl, rfl, rfl, rfl, rfl⟩ rfl rfl rfl rfl rfl (by kernel_rfl) Try.func3 (by kernel_rfl)
    (of_decide_eq_true (by kernel_rfl)) (by unfold Func.isWrapper; first | (rw [if_pos (by decide +kernel)]; kernel_rfl) | (rw [if_neg (by decide +kernel)]; exact ⟨rfl, rfl⟩))
    (fun os started H enc _ => lifted os started H enc)

end clockSortedLaw
theorem clockSorted_holds : Rows.ClockSortedSaid := clockSortedLaw.over
#print axioms clockSorted_holds
end Go.Proofs.Ytpckomnpeainlab
