/-
  For every text LexFew returns true: no more tokens than bytes, and every valid name is one token. No condition.
-/
import Derived.Test.YtpckomnpeainlabLaw
import Derived.Test.YtpckomnpeainlabLexH
namespace Go.Proofs.Ytpckomnpeainlab
open Go.RowKit

theorem lexDay : lexF [100, 97, 121] = .ok [⟨⟨2, [100, 97, 121], 0, 0, []⟩, 0⟩] := by rfl

/-- One token: the slice's head. -/
theorem one_tok {w : World} {v : Value} {a : TokA} (h : IsRows w 6 v [tcells a]) : ∃ b off cap, v = .slice (some ⟨b, off, none⟩) 1 cap ∧ 1 ≤ cap ∧ b < w.heap.size ∧ w.cell? ⟨b, off, none⟩ = some (.int .i64 a.t.kd) ∧ w.cell? ⟨b, off + 2, none⟩ = some (.string ⟨a.t.s.toArray⟩) := by
  obtain ⟨A, cap, rfl, hc, h0 | ⟨b, off, rfl, hb, hr⟩⟩ := h
  · cases h0
  · have h1 := hr 0 _ rfl 0 _ rfl
    have h2 := hr 0 _ rfl 2 _ rfl
    exact ⟨b, off, cap, rfl, hc, hb, by simpa using h1, by simpa using h2⟩

set_option maxRecDepth 100000 in
set_option maxHeartbeats 4000000 in
theorem lexFew_walk (s : ByteArray) (w : World) (hz : s.size ≤ reachBytes) : Calls Try.prog 14 #[.string s] w fun e w' => e = .returned (.bool true) ∧ Below w.heap.size w w' := by
  have hs9 : s.size ≤ 9223372036854775806 := by unfold reachBytes at hz; omega
  have hone := fun w => tokens_ok (L := [100, 97, 121]) ⟨#[100, 97, 121]⟩ w rfl (by decide) lexDay
  have H1 := Lib.hid hone
  have hlen : s.data.toList.length = s.size := by simp
  clear hone hz
  by_cases c1 : 160 < s.size
  · have hl := fun w => tokens_long s w c1 (by omega)
    have HL := Lib.hid hl
    have hn := fun w => name_no s w hs9 (fun h => by have := h.2.1; omega)
    have HN := Lib.hid hn
    have c1' : (0 : Int) ≤ (s.size : Int) := by omega
    clear hl hn c1 hlen
    go_enter Try.func14, Try.ntmps14
    go_wp2_with fail
    with_reducible refine (HL.out _).mono ?_
    rintro e w' ⟨rfl, rfl⟩
    go_wp2_with fail
    with_reducible refine (H1.out _).mono ?_
    rintro e u1 ⟨v, rfl, hb, hv, -⟩
    obtain ⟨b, off, cap, rfl, hcap, hbl, k0, k2⟩ := one_tok hv
    have hw := hb
    clear hb hv k2
    simp only at k0
    go_wp2_with fail
    with_reducible refine (HN.out _).mono ?_
    rintro e w' ⟨n, rfl | rfl, rfl, rfl⟩
    all_goals
      go_wp2_with fail
      go_ret
      exact ⟨rfl, hw⟩
  · have hle : s.data.toList.length ≤ 160 := by rw [hlen]; omega
    cases hx : lexF s.data.toList with
    | error ae =>
      obtain ⟨a, er⟩ := ae
      have hl := fun w => tokens_err s w rfl hle hx
      have HL := Lib.hid hl
      have hn := fun w => name_no s w hs9 (fun h => by rw [lexF_name h] at hx; cases hx)
      have HN := Lib.hid hn
      have c1' : (0 : Int) ≤ (s.size : Int) := by omega
      clear hl hn c1 hlen hx hle
      go_enter Try.func14, Try.ntmps14
      go_wp2_with fail
      with_reducible refine (HL.out _).mono ?_
      rintro e u0 ⟨rfl, hb⟩
      have hw := hb
      clear hb
      go_wp2_with fail
      with_reducible refine (H1.out _).mono ?_
      rintro e u1 ⟨v, rfl, hb, hv, -⟩
      obtain ⟨b, off, cap, rfl, hcap, hbl, k0, k2⟩ := one_tok hv
      replace hw := hw.trans (hb.mono hw.size)
      clear hb hv k2
      simp only at k0
      go_wp2_with fail
      with_reducible refine (HN.out _).mono ?_
      rintro e w' ⟨n, rfl | rfl, rfl, rfl⟩
      all_goals
        go_wp2_with fail
        go_ret
        exact ⟨rfl, hw⟩
    | ok ts =>
      have hl := fun w => tokens_ok s w rfl hle hx
      rw [hlen] at hl
      have HL := Lib.hid hl
      by_cases hnm : NameOk s.data.toList
      · have hy := fun w => name_yes s w hnm
        have hk := fun w => key_no s w hnm.2.2.2.2
        have HY := Lib.hid hy
        have HK := Lib.hid hk
        have ht : ts = [⟨⟨2, s.data.toList, 0, 0, []⟩, 0⟩] := by rw [lexF_name hnm] at hx; injection hx with hx; exact hx.symm
        have HT := Lib.hid ht
        clear hl hy hk c1 hlen hx hle ht hnm
        go_enter Try.func14, Try.ntmps14
        go_wp2_with fail
        with_reducible refine (HL.out _).mono ?_
        rintro e u0 ⟨v0, rfl, hb, hv0, -⟩
        rw [HT.out] at hv0
        obtain ⟨b0, off0, cap0, rfl, hcap0, hbl0, j0, j2⟩ := one_tok hv0
        have hw := hb
        clear hb hv0
        simp only at j0 j2
        replace j2 : u0.cell? ⟨b0, off0 + 2, none⟩ = some (.string s) := j2.trans (by simp)
        go_wp2_with fail
        with_reducible refine (H1.out _).mono ?_
        rintro e u1 ⟨v, rfl, hb, hv, -⟩
        obtain ⟨b, off, cap, rfl, hcap, hbl, k0, k2⟩ := one_tok hv
        replace j0 := (hb.cell (p := ⟨b0, off0, none⟩) hbl0).trans j0
        replace j2 := (hb.cell (p := ⟨b0, off0 + 2, none⟩) hbl0).trans j2
        replace hw := hw.trans (hb.mono hw.size)
        clear hb hv k2
        simp only at k0
        go_wp2_with fail
        with_reducible refine (HY.out _).mono ?_
        rintro e w' ⟨rfl, rfl⟩
        go_wp2_with fail
        with_reducible refine (HK.out _).mono ?_
        rintro e w' ⟨rfl, rfl⟩
        go_wp2_with fail
        go_ret
        exact ⟨rfl, hw⟩
      · have hn := fun w => name_no s w hs9 hnm
        have HN := Lib.hid hn
        clear hn c1 hlen hx hle hl hnm
        go_enter Try.func14, Try.ntmps14
        go_wp2_with fail
        with_reducible refine (HL.out _).mono ?_
        rintro e u0 ⟨v0, rfl, hb, hv0, hts⟩
        obtain ⟨A0, cap0, rfl, -, -⟩ := hv0
        rw [List.length_map]
        have hts' : (ts.length : Int) ≤ (s.size : Int) := by omega
        have hw := hb
        clear hb hts
        go_wp2_with fail
        with_reducible refine (H1.out _).mono ?_
        rintro e u1 ⟨v, rfl, hb, hv, -⟩
        obtain ⟨b, off, cap, rfl, hcap, hbl, k0, k2⟩ := one_tok hv
        replace hw := hw.trans (hb.mono hw.size)
        clear hb hv k2
        simp only at k0
        go_wp2_with fail
        with_reducible refine (HN.out _).mono ?_
        rintro e w' ⟨n, rfl | rfl, rfl, rfl⟩
        all_goals
          go_wp2_with fail
          go_ret
          exact ⟨rfl, hw⟩

namespace lexFewLaw
open Go.ChangeShapes Go.WideShapes Go.ChangeAt Go.RowKit
open Go.ChangeMaps (open_string shut_string)
set_option linter.unusedVariables false

set_option maxRecDepth 100000 in
theorem lifted (os : Os) (started : os.Started) (H : Type) (enc : TypeId × Value → H) :
    ReturnsInHanded {} Try.checked os 14 .any (Rows.lexFewSpec.pre6 enc Try.prog Try.f14 Rows.lexFewRow.domain false) (Rows.lexFewSpec.post enc Try.prog Try.f14 false true false false) := by
  refine returnsInHanded_of_change_sized (C := Try.checked) ownNone started (by kernel_rfl) Try.func14
    (ChangeSpec.witness6 (enc := enc) (C := Try.checked) false ⟨#[], #[.string ByteArray.empty], []⟩ 8 (by kernel_rfl) (by kernel_rfl) (by kernel_rfl) (by kernel_rfl)) ?_
  intro W base args ds gs before hval0 hW hcnd hsz0 _
  have hval : ∀ (j : Nat) t v, Try.f14.params[j]? = some t → args[j]? = some v → Value.okWide Try.prog W .any base t v := hval0
  have hsz : (DataW.weightsEach Try.prog (Try.f14.params.toList ++ Rows.lexFewSpec.plain.varTypes Try.prog) (ds ++ gs)).all (· ≤ reachBytes) = true := hsz0
  have hW' := hW
  obtain ⟨p, q, hA0, hV, rfl, hfz, hnd⟩ := hW
  have hA : DataW.TrodAll enc Try.prog W 0 (fun _ => true) true Try.f14.params.toList args.toList ds p := hA0
  rw [Try.params14] at hA hval hsz
  obtain ⟨v0, vs0, d0, ds0, p0, q0, hargs, rfl, rfl, h0, r0⟩ := trodAll_cons hA
  obtain ⟨rfl, rfl, rfl⟩ := trodAll_nil r0
  obtain rfl : args = #[v0] := by cases args; simp_all
  obtain ⟨rfl, rfl⟩ := trodVars_none hV
  have k0 := h0
  have lt0 : ∀ x ∈ p0, x.block < W.heap.size := by obtain ⟨m, hm⟩ := k0; exact DataW.trod_lt m _ _ _ hm
  obtain ⟨a0, rfl, e0, -, w0⟩ := open_string Try.underlying9 (hval 0 9 v0 rfl rfl) h0
  have z0 : a0.size ≤ reachBytes := by have := sized_string hsz (j := 0) (t := 9) (bytes := a0.data.toList) rfl (by rw [e0]; rfl); simpa using this
  clear hA0 hval0 hsz0
  refine (lexFew_walk a0 W z0).mono fun e W' ⟨he, bel⟩ => ?_
  subst he
  exact ⟨_, rfl, _, _, _, [], _, [], hW', trodAll_mk1 (shut_bool Try.underlying4 _), (trodAll_cons_mk (Below.trod laidOutTrue (by kernel_rfl) (of_decide_eq_true (by kernel_rfl)) k0 bel lt0) trodAll_mk0), rfl, bel.frame _, fun h => by cases h⟩

theorem over : Rows.lexFewRow.holds Try.pinned (OpenSpec.ofChange Rows.lexFewSpec) :=
  OpenClaim.holds_of_wide 14 Try.f14 rfl rfl rfl rfl rfl rfl rfl ⟨rfl, rfl, rfl, rfl, rfl⟩ rfl rfl rfl rfl rfl (by kernel_rfl) Try.func14 (by kernel_rfl)
    (of_decide_eq_true (by kernel_rfl)) (by unfold Func.isWrapper; first | (rw [if_pos (by decide +kernel)]; kernel_rfl) | (rw [if_neg (by decide +kernel)]; exact ⟨rfl, rfl⟩))
    (fun os started H enc _ => lifted os started H enc)

end lexFewLaw
theorem lexFew_holds : Rows.LexFewSaid := lexFewLaw.over
#print axioms lexFew_holds
end Go.Proofs.Ytpckomnpeainlab
