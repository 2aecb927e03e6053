/-
  For all raw things RankFew returns true.
-/
import Derived.Test.YtgjndkphfabnnaaRanked
import Derived.Test.YtgjndkphfabnnaaLawX
namespace Go.Proofs.Ytgjndkphfabnnaa
open Go.RowKit

set_option maxHeartbeats 2000000 in
set_option maxRecDepth 100000 in
theorem rankFew_c (l : List RawD) (sl : Value) (h : Vw) (hl : RS h 4 sl (l.map RawD.cs)) (ll : l.length * 40 ≤ reachBytes) (ol : ∀ r ∈ l, r.ok) :
    C0 Try.prog 12 #[sl] h (fun v _ => v = .bool true) := by
  have hF := fun H q => form_c l sl H q ll ol
  have hn := nFields_le l
  have hok := form_okFs l _ (form_nodup l) (fun f => Iff.rfl) (by rw [form_len]; omega)
  have hrk := form_ranked l
  have hnl : (needsE (formE l).fields).length = nFields l := by unfold needsE; rw [List.length_map, form_len]
  have hO := fun H A c q => rankOf_any (formE l).fields (.slice A (nFields l) c) H hok q _ _ hrk
  rw [form_len] at hF hO
  have hρl := hrk.len.trans hnl
  have hlt : ∀ x ∈ rhoL (needsE (formE l).fields), x < (nFields l : Int) := fun x hx => by
    obtain ⟨i, hi, rfl⟩ := mem_getD hx
    have h1 := rank_le hrk _ i (by omega) (Nat.le_refl _)
    have h2 := hrk.few i (by omega)
    omega
  have hnn : ∀ x ∈ rhoL (needsE (formE l).fields), 0 ≤ x := fun x hx => by
    obtain ⟨i, hi, rfl⟩ := mem_getD hx
    exact rank_nn hrk (by omega)
  obtain ⟨i0, hi0, hlv⟩ := lvF_sur l (j := 0) (by omega)
  have hz : (rhoL (needsE (formE l).fields))[i0]? = some 0 := by
    have h1 := rank_le hrk _ i0 (by omega) (Nat.le_refl _)
    have h2 := rank_nn hrk (i := i0) (by omega)
    rw [hlv] at h1
    have h3 : (rhoL (needsE (formE l).fields)).getD i0 0 = 0 := by omega
    rw [List.getD_eq_getElem?_getD, List.getElem?_eq_getElem (by omega)] at h3
    rw [List.getElem?_eq_getElem (by omega)]
    exact congrArg some h3
  have hmin := fun b H q => min_any (rhoL (needsE (formE l).fields)) (some ⟨b, 0, none⟩) (nFields l) H q (by omega) (by omega) hnn i0 hz
  have hmax := fun b H q => max_any (rhoL (needsE (formE l).fields)) (some ⟨b, 0, none⟩) (nFields l) (nFields l) H q (by omega) (by omega) hlt
  rw [hρl] at hmin hmax
  generalize rhoL (needsE (formE l).fields) = ρ at *
  generalize hN : nFields l = N at *
  obtain ⟨A1, cap1, rfl, -, -, -⟩ := hl.form
  rw [List.length_map] at *
  generalize l.length = n1 at *
  refine x_con Try.func12 (c := Try.f12.body.getD .skip) (by kernel_rfl) (N := 35) rfl (by kernel_rfl) ?_
  intro hbx hbad Q hQ a w hJ
  replace hJ : K ⟨35, h.w, h.bad, []⟩ [(0, .slice A1 n1 cap1)] [] [] h a w := hJ.to (by kernel_rfl) (by kernel_rfl) rfl
  refine rx hJ false 8 [] [] (.ok (.ops [0, 1] 1) [.seq [1, 1]] [(2, .bool false), (7, .slice A1 n1 cap1)] [] []) trivial trivial (fun _ => by kernel_rfl) ?_
  clear hJ a w; intro a w hJ
  refine x_call hJ 8 (hF _ (hl.sees hJ.j.sees)) (fun _ => by kernel_rfl) ?_; clear hJ a w; rintro _ h1 a w s2 ⟨A, c, B, d, rfl, hf⟩ hJ
  refine rx hJ false 1 [] [] (.ok (.ops [0, 1] 3) [.seq [1, 1]] [(2, .bool false), (9, .slice A N c)] [] []) trivial trivial (fun _ => by kernel_rfl) ?_
  clear hJ a w; intro a w hJ
  refine x_call hJ 10 (hO _ _ _ ((hf.sees hJ.j.sees)).fields) (fun _ => by kernel_rfl) ?_; clear hJ a w; rintro _ h3 a w s4 ⟨b, rfl, hro⟩ hJ
  refine rx hJ false 12 [] [] (.ok (.ops [0, 0, 1, 1] 0) [.seq [1, 0, 1, 1], .seq [1, 1, 1]] [(2, .bool false), (3, .slice (some ⟨b, 0, none⟩) N N), (5, .int .i64 0)] [] []) trivial trivial (fun _ => by kernel_rfl) ?_
  clear hJ a w; intro a w hJ
  refine rx hJ false 23 [.cl 43 #[] (.bool true), .cl 45 #[.slice (some ⟨b, 0, none⟩) N N] (.int .i64 0)] [(23, .bool ((N : Int) == 0), .bool false)] (.ok (.ops [0, 1, 1, 1] 5) [.seq [1, 1, 1, 1]] [(2, .bool false), (3, .slice (some ⟨b, 0, none⟩) N N), (28, .bool true), (29, .slice (some ⟨b, 0, none⟩) N N)] [] []) (And.intro (fun H sH => ranked_any _) (And.intro (fun H sH => hmin b _ (hro.sees sH)) (trivial))) (And.intro (congrArg Value.bool (beq_eq_false_iff_ne.2 (by omega))) (trivial)) (fun _ => by kernel_rfl) ?_
  clear hJ a w; intro a w hJ
  refine x_call hJ 30 (hmax b _ (hro.sees hJ.j.sees)) (fun _ => by kernel_rfl) ?_; clear hJ a w; rintro _ h5 a w s6 ⟨mx, rfl, hmx⟩ hJ
  refine rx hJ false 8 [] [] (.ok (.out .ret) [] [(2, .bool (decide (mx < (N : Int))))] [] []) trivial trivial (fun _ => by kernel_rfl) ?_
  clear hJ a w; intro a w hJ
  refine x_end (hQ [.bool (decide (mx < (N : Int)))] _ [] hJ (.rtmp hJ.j (by kernel_rfl) .nil) (no_own _) rfl ?_).1
  exact congrArg Value.bool (decide_eq_true hmx)

theorem rankFew_walk (v : Value) (l : List RawD) (w : World) (h : RawsOf w v l) :
    Calls Try.prog 12 #[v] w fun e w' => e = .returned (.bool true) ∧ Below w.heap.size w w' :=
  C0.law (rankFew_c l v ⟨w, []⟩ h.rs h.2.1 h.2.2)

namespace rankFewLaw
open Go.ChangeShapes Go.WideShapes Go.ChangeAt Go.RowKit
open Go.ChangeMaps (open_string shut_string)
set_option linter.unusedVariables false

set_option maxRecDepth 100000 in
theorem lifted (os : Os) (started : os.Started) (H : Type) (enc : TypeId × Value → H) :
    ReturnsInHanded {} Try.checked os 12 .any (Rows.rankFewSpec.pre6 enc Try.prog Try.f12 Rows.rankFewRow.domain false) (Rows.rankFewSpec.post enc Try.prog Try.f12 false true false false) := by
  refine returnsInHanded_of_change_sized (C := Try.checked) ownNone started (by kernel_rfl) Try.func12
    (ChangeSpec.witness6 (enc := enc) (C := Try.checked) false ⟨#[], #[.slice none 0 0], []⟩ 8 (by kernel_rfl) (by kernel_rfl) (by kernel_rfl) (by kernel_rfl)) ?_
  intro W base args ds gs before hval0 hW hcnd hsz0 _
  have hval : ∀ (j : Nat) t v, Try.f12.params[j]? = some t → args[j]? = some v → Value.okWide Try.prog W .any base t v := hval0
  have hsz : (DataW.weightsEach Try.prog (Try.f12.params.toList ++ Rows.rankFewSpec.plain.varTypes Try.prog) (ds ++ gs)).all (· ≤ reachBytes) = true := hsz0
  have hW' := hW
  obtain ⟨p, q, hA0, hV, rfl, hfz, hnd⟩ := hW
  have hA : DataW.TrodAll enc Try.prog W 0 (fun _ => true) true Try.f12.params.toList args.toList ds p := hA0
  rw [Try.params12] at hA hval hsz
  obtain ⟨v0, vs0, d0, ds0, p0, q0, hargs, rfl, rfl, h0, r0⟩ := trodAll_cons hA
  obtain ⟨rfl, rfl, rfl⟩ := trodAll_nil r0
  obtain rfl : args = #[v0] := by cases args; simp_all
  obtain ⟨rfl, rfl⟩ := trodVars_none hV
  have k0 := h0
  have lt0 : ∀ x ∈ p0, x.block < W.heap.size := by obtain ⟨m, hm⟩ := k0; exact DataW.trod_lt m _ _ _ hm
  obtain ⟨a0, w0⟩ := open_rows (hval 0 22 v0 rfl rfl) h0 (fun es ss hd => sized_slice hsz (j := 0) (t := 22) (elems := es) (spare := ss) rfl (by rw [hd]; rfl) Try.underlying22)
  clear hA0 hval0 hsz0
  refine (rankFew_walk v0 a0 W w0).mono fun e W' ⟨he, bel⟩ => ?_
  subst he
  exact ⟨_, rfl, _, _, _, [], _, [], hW', trodAll_mk1 (shut_bool Try.underlying4 _), (trodAll_cons_mk (Below.trod laidOutTrue (by kernel_rfl) (of_decide_eq_true (by kernel_rfl)) k0 bel lt0) trodAll_mk0), rfl, bel.frame _, fun h => by cases h⟩

theorem over : Rows.rankFewRow.holds Try.pinned (OpenSpec.ofChange Rows.rankFewSpec) :=
  OpenClaim.holds_of_wide 12 Try.f12 rfl rfl rfl rfl rfl rfl rfl ⟨rfl, rfl, rfl, rfl, rfl⟩ rfl rfl rfl rfl rfl (by kernel_rfl) Try.func12 (by kernel_rfl)
    (of_decide_eq_true (by kernel_rfl)) (by unfold Func.isWrapper; first | (rw [if_pos (by decide +kernel)]; kernel_rfl) | (rw [if_neg (by decide +kernel)]; exact ⟨rfl, rfl⟩))
    (fun os started H enc _ => lifted os started H enc)

end rankFewLaw
theorem rankFew_holds : Rows.RankFewSaid := rankFewLaw.over
#print axioms rankFew_holds
end Go.Proofs.Ytgjndkphfabnnaa
