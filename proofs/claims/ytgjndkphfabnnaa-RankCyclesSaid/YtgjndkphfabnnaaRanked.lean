/-
  Contract of the laws' ranked; of slices.Min and Max at ranks.
-/
import Derived.Test.YtgjndkphfabnnaaRnkF
namespace Go.Proofs.Ytgjndkphfabnnaa
open Go.RowKit
set_option linter.unusedVariables false

theorem smallX_wf : WfE smallX := by
  refine WfE.mk' (.inr (.inr ⟨(by decide : (3 : Int) ≤ 8), (by decide : (8 : Int) ≤ 18), rfl, rfl, rfl, rfl, rfl⟩)) (WfL.all fun y hy => ?_)
  have hy : y ∈ [refE ⟨#[97]⟩, Ex.mk 1 1 1 ⟨#[]⟩ ⟨#[]⟩ []] := hy
  rcases List.mem_cons.1 hy with rfl | hy
  · exact (wf_leaf (refE_ok ⟨by decide, by decide, ⟨_, rfl, by decide⟩, by decide, by decide⟩) rfl).1
  · rw [List.mem_singleton.1 hy]
    exact (wf_leaf (x := .mk 1 1 1 ⟨#[]⟩ ⟨#[]⟩ []) (.inl ⟨rfl, .inl ⟨rfl, (by unfold Lim; decide : Lim 1), rfl⟩, fun _ => (by decide : (0 : Int) ≤ 1), rfl, rfl⟩) rfl).1
theorem smallB_wf : WfE smallB := (wf_leaf (refE_ok (s := ⟨#[98]⟩) ⟨by decide, by decide, ⟨_, rfl, by decide⟩, by decide, by decide⟩) rfl).1
theorem small_ok : OkFs smallF.fields := by
  refine ⟨fun f hf => ?_, by decide, by decide⟩
  have hf : f ∈ [(⟨⟨#[98]⟩, 2, 1, smallX⟩ : Fd), ⟨⟨#[97]⟩, 1, 1, zE⟩, ⟨⟨#[99]⟩, 3, 3, smallB⟩] := hf
  rcases List.mem_cons.1 hf with rfl | hf
  · exact ⟨⟨by decide, by decide, ⟨_, rfl, by decide⟩, by decide, by decide⟩, by decide, by decide, by decide, by decide, fun h => absurd h (show ¬ (2 : Int) = 1 by decide), fun _ => ⟨smallX_wf, by decide, by decide⟩, fun _ => by decide, fun h => absurd h (show ¬ (2 : Int) = 3 by decide)⟩
  · rcases List.mem_cons.1 hf with rfl | hf
    · exact ⟨⟨by decide, by decide, ⟨_, rfl, by decide⟩, by decide, by decide⟩, by decide, by decide, by decide, by decide, fun _ => rfl, fun h => absurd rfl h, fun h => absurd h (show ¬ (1 : Int) = 2 by decide), fun h => absurd h (show ¬ (1 : Int) = 3 by decide)⟩
    · rw [List.mem_singleton.1 hf]
      exact ⟨⟨by decide, by decide, ⟨_, rfl, by decide⟩, by decide, by decide⟩, by decide, by decide, by decide, by decide, fun h => absurd h (show ¬ (3 : Int) = 1 by decide), fun _ => ⟨smallB_wf, by decide, by decide⟩, fun h => absurd h (show ¬ (3 : Int) = 2 by decide), fun _ => ⟨1, by decide, by decide, by decide⟩⟩
theorem names_one {x : Ex} {s : ByteArray} (h : refsE x = [s]) : namesE x = [s] := by
  unfold namesE namesB
  rw [h]
  have e : dd ([s].map fun s : ByteArray => s.data.toList) = [s.data.toList] := by simp [dd]
  rw [e, List.mergeSort_singleton]
  simp
theorem small_needs : needsE smallF.fields = [[1], [], [0]] := by
  have e1 : namesE smallX = [⟨#[97]⟩] := names_one (by decide)
  have e2 : namesE smallB = [⟨#[98]⟩] := names_one (by decide)
  show [needE smallF.fields ⟨⟨#[98]⟩, 2, 1, smallX⟩, needE smallF.fields ⟨⟨#[97]⟩, 1, 1, zE⟩, needE smallF.fields ⟨⟨#[99]⟩, 3, 3, smallB⟩] = _
  unfold needE
  rw [if_neg (by decide), if_pos rfl, if_neg (by decide)]
  have p1 : plc smallF.fields ⟨#[97]⟩ = 1 := by
    unfold plc
    rw [show (⟨#[97]⟩ : ByteArray) = (⟨⟨#[97]⟩, 1, 1, zE⟩ : Fd).name from rfl, findF_at small_ok.nodup (i := 1) rfl]; rfl
  have p2 : plc smallF.fields ⟨#[98]⟩ = 0 := by
    unfold plc
    rw [show (⟨#[98]⟩ : ByteArray) = (⟨⟨#[98]⟩, 2, 1, smallX⟩ : Fd).name from rfl, findF_at small_ok.nodup (i := 0) rfl]; rfl
  simp only [e1, e2, List.map_cons, List.map_nil, p1, p2]
theorem small_ranked : Ranked (needsE smallF.fields) [1, 0, 2] (fun i => [1, 0, 2].getD i 0) := by
  rw [small_needs]
  exact ranked_ex (need := [[1], [], [0]]) (lv := fun i => [1, 0, 2].getD i 0) (by decide) (by decide)

theorem ranked_any (h : Vw) : C0 Try.prog 43 #[] h (fun r _ => r = .bool true) := by
  have hR := fun H A c q => rankOf_any smallF.fields (.slice A 3 c) H small_ok q _ _ small_ranked
  have hQ2 := fun A H q1 q2 => eqI_any [1, 0, 2] [1, 0, 2] (.slice (some ⟨A, 0, none⟩) 3 3) (.slice (some ⟨q1, 0, none⟩) 3 3) H q2
  have hrow : ∀ H b, Cells H b 0 [.int .i64 1, .int .i64 0, .int .i64 2] → RS H 1 (.slice (some ⟨b, 0, none⟩) 3 3) (rkRows [1, 0, 2]) := fun H b c => rs_cells (k := 1) (rkRows [1, 0, 2]) (fun r hr => by simp at hr; rcases hr with rfl | rfl | rfl <;> rfl) (show (3 : Nat) ≤ maxLen by decide) c
  refine x_con Try.func43 (c := Try.f43.body.getD .skip) (by kernel_rfl) (N := 18) rfl (by kernel_rfl) ?_
  intro hbx hbad Q hQ a w hJ
  replace hJ : K ⟨18, h.w, h.bad, []⟩ [] [] [] h a w := hJ.to (by kernel_rfl) (by kernel_rfl) rfl
  refine rx hJ false 7 [] [] (.ok (.ops [0, 1] 0) [.seq [1, 1]] [(0, .bool false)] [] []) trivial trivial (fun _ => by kernel_rfl) ?_
  clear hJ a w; intro a w hJ
  refine x_call hJ 5 (small_any _) (fun _ => by kernel_rfl) ?_; clear hJ a w; rintro _ h1 a w s2 ⟨A, c, B, d, rfl, hf⟩ hJ
  refine rx hJ false 1 [] [] (.ok (.ops [0, 1] 2) [.seq [1, 1]] [(0, .bool false), (6, .slice A 3 c)] [] []) trivial trivial (fun _ => by kernel_rfl) ?_
  clear hJ a w; intro a w hJ
  refine x_call hJ 7 (hR _ _ _ ((hf.sees hJ.j.sees)).fields) (fun _ => by kernel_rfl) ?_; clear hJ a w; rintro _ h3 a w s4 ⟨b, rfl, hro⟩ hJ
  refine rx hJ true 16 [.fix] [] (.new fun bv15 => .ok (.ops [0, 1, 1] 5) [.seq [1, 1, 1]] [(0, .bool false), (13, .bool true), (14, Vs b 3 3), (15, Vs bv15 3 3)] [] [(bv15, 0, [Vi 1, Vi 0, Vi 2])]) trivial trivial (fun bv15 _ => by kernel_rfl) ?_
  clear hJ a w; intro bv15 h5 a w s6 hJ
  have v15 : Cells h5 bv15 0 [Vi 1, Vi 0, Vi 2] := hJ.f _ (List.mem_of_getElem? (i := 0) rfl)
  refine rx hJ false 6 [.cl 81 #[Vs b 3 3, Vs bv15 3 3] (.bool true)] [] (.ok (.out .ret) [] [(0, .bool true)] [] [(bv15, 0, [Vi 1, Vi 0, Vi 2])]) (And.intro (fun H sH => hQ2 b _ _ (hro.sees (s6.trans sH)) (hrow _ _ (v15.sees sH)) (by decide) rfl) (trivial)) trivial (fun _ => by kernel_rfl) ?_
  clear hJ a w; intro a w hJ
  refine x_end (hQ [.bool true] _ [] hJ (.rtmp hJ.j (by kernel_rfl) .nil) (no_own _) rfl ?_).1
  exact rfl

theorem rank_le {need : List (List Nat)} {ρ : List Int} {lv : Nat → Nat} (h : Ranked need ρ lv) : ∀ t i, i < need.length → lv i ≤ t → ρ.getD i 0 ≤ (lv i : Int) := fun t => by
  induction t with
  | zero =>
    intro i hi hl
    rw [h.at_ i hi]
    rcases top_ex (r := ρ) (l := need.getD i []) with e | ⟨k, hk, e⟩
    · omega
    · have := (h.low i hi k hk).2; omega
  | succ t ih =>
    intro i hi hl
    rw [h.at_ i hi]
    rcases top_ex (r := ρ) (l := need.getD i []) with e | ⟨k, hk, e⟩
    · omega
    · obtain ⟨k1, k2⟩ := h.low i hi k hk
      have := ih k k1 (by omega)
      omega

set_option maxRecDepth 100000 in
theorem min_any (l : List Int) (A : Option Addr) (cap : Nat) (h : Vw) (hr : RS h 1 (.slice A l.length cap) (rkRows l)) (hl : l.length ≤ 1000000) (h1 : 1 ≤ l.length) (hn : ∀ x ∈ l, 0 ≤ x) (i0 : Nat) (h0 : l[i0]? = some 0) :
    C0 Try.prog 45 #[.slice A l.length cap] h (fun r _ => r = .int .i64 0) := by
  have hi0 := (List.getElem?_eq_some_iff.1 h0).1
  obtain ⟨x0, hx0⟩ : ∃ x, l[0]? = some x := ⟨_, List.getElem?_eq_getElem (by omega)⟩
  have hrow0 := rk_row hx0
  have hp0 := hn x0 (List.mem_of_getElem? hx0)
  have hz0 : x0 = 0 ∨ 1 ≤ i0 := by
    by_cases e : i0 = 0
    · subst e; rw [hx0] at h0; exact .inl (Option.some.inj h0)
    · exact .inr (by omega)
  generalize hL : l.length = len at *
  refine x_con Try.func45 (c := Try.f45.body.getD .skip) (by kernel_rfl) (N := 25) rfl (by kernel_rfl) ?_
  intro hbx hbad Q hQ a w hJ
  replace hJ : K ⟨25, h.w, h.bad, []⟩ [(0, .slice A len cap)] [] [] h a w := hJ.to (by kernel_rfl) (by kernel_rfl) rfl
  refine rx hJ false 19 [] [(7, .bool (decide ((len : Int) < 1)), .bool false)] (.ok (.ops [0, 1, 1] 1) [.seq [1, 1, 1]] [(0, .slice A len cap), (2, Vi 0), (9, .slice A len cap)] [] []) trivial (And.intro (congrArg Value.bool (decide_eq_false (by omega))) (trivial)) (fun _ => by kernel_rfl) ?_
  clear hJ a w; intro a w hJ
  obtain ⟨b1, o2, rfl, -, c3⟩ := RS.row hr (hrow0)
  replace hJ := hJ.fact (c3.sees (Sees.refl _))
  refine rx hJ false 12 [.ix b1 o2 len cap 0, .f 0 0] [] (.ok (.code [0, 1, 0, 1, 1, 1]) [.block 0, .seq [1, 1, 1, 1]] [(0, .slice (some ⟨b1, o2, none⟩) len cap), (2, Vi 0), (3, Vi x0), (4, Vi 1)] [] [(b1, o2 + 0 * 1, [Vi x0])]) (And.intro (by first | omega | (simp; omega)) (trivial)) trivial (fun _ => by kernel_rfl) ?_
  clear hJ a w; intro a w hJ
  refine x_loop (fun (k : Nat) a w => ∃ (h4 : Vw) (m0 : Int), K ⟨25, h.w, h.bad, []⟩ [(0, .slice (some ⟨b1, o2, none⟩) len cap), (2, Vi 0), (4, Vi (k : Int)), (3, Vi m0)] [] [(b1, o2 + 0 * 1, [Vi x0])] h4 a w ∧ Sees h h4 ∧ (k ≤ len) ∧ (0 ≤ m0) ∧ (m0 = 0 ∨ k ≤ i0)) (fun k => len - k) (1) (by kernel_rfl) ⟨h, x0, hJ.to (by kernel_rfl) (by kernel_rfl) rfl, Sees.refl _, h1, hp0, hz0⟩ ?_
  clear hJ a w; rintro k a w ⟨h4, m0, hJ, s5, hk, hm0, hm1⟩
  refine rx hJ false 9 [] [] (.ok (.code [1, 0, 0, 0, 1, 0, 1, 1, 1]) [.seq [1, 0, 0, 1, 0, 1, 1, 1]] [(0, .slice (some ⟨b1, o2, none⟩) len cap), (2, Vi 0), (4, Vi (k : Int)), (3, Vi m0), (12, Vi (k : Int)), (13, .slice (some ⟨b1, o2, none⟩) len cap), (14, Vi (len : Int)), (15, .bool (decide ((k : Int) < (len : Int))))] [] [(b1, o2 + 0 * 1, [Vi x0])]) trivial trivial (fun _ => by kernel_rfl) ?_
  clear hJ a w; intro a w hJ
  rcases (by omega : k < len ∨ k = len) with hlt | hke
  · obtain ⟨x, hxk⟩ : ∃ x, l[k]? = some x := ⟨_, List.getElem?_eq_getElem (by omega)⟩
    have hrow := rk_row hxk
    have hxp := hn x (List.mem_of_getElem? hxk)
    have hxz : x = 0 ∨ k ≠ i0 := by
      by_cases e : k = i0
      · subst e; rw [hxk] at h0; exact .inl (Option.some.inj h0)
      · exact .inr e
    refine x_true hJ (t := decide ((k : Int) < (len : Int))) (by kernel_rfl) (decide_eq_true (by omega)) ?_
    refine rx hJ false 8 [] [] (.ok (.ops [0, 0, 1, 0, 0, 1, 0, 1, 1, 1] 3) [.block 1, .seq [1, 1, 0, 0, 1, 0, 1, 1, 1]] [(0, .slice (some ⟨b1, o2, none⟩) len cap), (2, Vi 0), (4, Vi (k : Int)), (3, Vi m0), (12, Vi (k : Int)), (13, .slice (some ⟨b1, o2, none⟩) len cap), (14, Vi (len : Int)), (15, .bool (decide ((k : Int) < (len : Int)))), (18, Vi m0), (19, .slice (some ⟨b1, o2, none⟩) len cap), (20, Vi (k : Int))] [] [(b1, o2 + 0 * 1, [Vi x0])]) trivial trivial (fun _ => by kernel_rfl) ?_
    clear hJ a w; intro a w hJ
    have c6 := RS.cell hr (hrow)
    replace hJ := hJ.fact (c6.sees s5)
    refine rx hJ false 12 [.ix b1 o2 len cap k, .f 0 0] [(23, Vi (if x < m0 then x else m0), Vi (min m0 x)), (17, Vi (IntKind.i64.wrap ((k : Int) + 1)), Vi ((k : Int) + 1))] (.ok (.out .normal) [] [(0, .slice (some ⟨b1, o2, none⟩) len cap), (2, Vi 0), (12, Vi (k : Int)), (13, .slice (some ⟨b1, o2, none⟩) len cap), (14, Vi (len : Int)), (15, .bool (decide ((k : Int) < (len : Int)))), (18, Vi m0), (19, .slice (some ⟨b1, o2, none⟩) len cap), (20, Vi (k : Int)), (21, .pointer (some ⟨b1, o2 + k * 1, none⟩)), (22, Vi x), (23, Vi (min m0 x)), (3, Vi (min m0 x)), (16, Vi (k : Int)), (17, Vi ((k : Int) + 1)), (4, Vi ((k : Int) + 1))] [] [(b1, o2 + k * 1, [Vi x]), (b1, o2 + 0 * 1, [Vi x0])]) (And.intro (by first | omega | (simp; omega)) (trivial)) (And.intro (congrArg (Value.int .i64) (by split <;> omega)) (And.intro (i64_wrap (by omega) (by omega)) (trivial))) (fun _ => by kernel_rfl) ?_
    clear hJ a w; intro a w hJ
    exact x_round ⟨k + 1, ⟨h4, min m0 x, (hJ.tof [1] (F' := [(b1, o2 + 0 * 1, [Vi x0])]) (by kernel_rfl)).to (by kernel_rfl) (by kernel_rfl) rfl, s5, by omega, by omega, by omega⟩, by omega⟩
  · skip
    have e : m0 = 0 := by omega
    refine x_false hJ (t := decide ((k : Int) < (len : Int))) (by kernel_rfl) (decide_eq_false (by omega)) ?_
    refine rx hJ false 2 [] [] (.ok (.out (.exit 0)) [] [(0, .slice (some ⟨b1, o2, none⟩) len cap), (2, Vi 0), (4, Vi (k : Int)), (3, Vi m0), (12, Vi (k : Int)), (13, .slice (some ⟨b1, o2, none⟩) len cap), (14, Vi (len : Int)), (15, .bool (decide ((k : Int) < (len : Int))))] [] [(b1, o2 + 0 * 1, [Vi x0])]) trivial trivial (fun _ => by kernel_rfl) ?_
    clear hJ a w; intro a w hJ
    refine x_leave rfl ?_
    refine rx hJ false 9 [] [] (.ok (.out .ret) [] [(2, Vi m0)] [] [(b1, o2 + 0 * 1, [Vi x0])]) trivial trivial (fun _ => by kernel_rfl) ?_
    clear hJ a w; intro a w hJ
    refine x_end (hQ [Vi m0] _ [] hJ (.rtmp hJ.j (by kernel_rfl) .nil) (no_own _) rfl ?_).1
    exact congrArg (Value.int .i64) e

set_option maxRecDepth 100000 in
theorem max_any (l : List Int) (A : Option Addr) (cap : Nat) (B : Int) (h : Vw) (hr : RS h 1 (.slice A l.length cap) (rkRows l)) (hl : l.length ≤ 1000000) (h1 : 1 ≤ l.length) (hn : ∀ x ∈ l, x < B) :
    C0 Try.prog 46 #[.slice A l.length cap] h (fun r _ => ∃ x, r = .int .i64 x ∧ x < B) := by
  obtain ⟨x0, hx0⟩ : ∃ x, l[0]? = some x := ⟨_, List.getElem?_eq_getElem (by omega)⟩
  have hrow0 := rk_row hx0
  have hp0 := hn x0 (List.mem_of_getElem? hx0)
  generalize hL : l.length = len at *
  refine x_con Try.func46 (c := Try.f46.body.getD .skip) (by kernel_rfl) (N := 25) rfl (by kernel_rfl) ?_
  intro hbx hbad Q hQ a w hJ
  replace hJ : K ⟨25, h.w, h.bad, []⟩ [(0, .slice A len cap)] [] [] h a w := hJ.to (by kernel_rfl) (by kernel_rfl) rfl
  refine rx hJ false 19 [] [(7, .bool (decide ((len : Int) < 1)), .bool false)] (.ok (.ops [0, 1, 1] 1) [.seq [1, 1, 1]] [(0, .slice A len cap), (2, Vi 0), (9, .slice A len cap)] [] []) trivial (And.intro (congrArg Value.bool (decide_eq_false (by omega))) (trivial)) (fun _ => by kernel_rfl) ?_
  clear hJ a w; intro a w hJ
  obtain ⟨b1, o2, rfl, -, c3⟩ := RS.row hr (hrow0)
  replace hJ := hJ.fact (c3.sees (Sees.refl _))
  refine rx hJ false 12 [.ix b1 o2 len cap 0, .f 0 0] [] (.ok (.code [0, 1, 0, 1, 1, 1]) [.block 0, .seq [1, 1, 1, 1]] [(0, .slice (some ⟨b1, o2, none⟩) len cap), (2, Vi 0), (3, Vi x0), (4, Vi 1)] [] [(b1, o2 + 0 * 1, [Vi x0])]) (And.intro (by first | omega | (simp; omega)) (trivial)) trivial (fun _ => by kernel_rfl) ?_
  clear hJ a w; intro a w hJ
  refine x_loop (fun (k : Nat) a w => ∃ (h4 : Vw) (m0 : Int), K ⟨25, h.w, h.bad, []⟩ [(0, .slice (some ⟨b1, o2, none⟩) len cap), (2, Vi 0), (4, Vi (k : Int)), (3, Vi m0)] [] [(b1, o2 + 0 * 1, [Vi x0])] h4 a w ∧ Sees h h4 ∧ (k ≤ len) ∧ (m0 < B)) (fun k => len - k) (1) (by kernel_rfl) ⟨h, x0, hJ.to (by kernel_rfl) (by kernel_rfl) rfl, Sees.refl _, h1, hp0⟩ ?_
  clear hJ a w; rintro k a w ⟨h4, m0, hJ, s5, hk, hm0⟩
  refine rx hJ false 9 [] [] (.ok (.code [1, 0, 0, 0, 1, 0, 1, 1, 1]) [.seq [1, 0, 0, 1, 0, 1, 1, 1]] [(0, .slice (some ⟨b1, o2, none⟩) len cap), (2, Vi 0), (4, Vi (k : Int)), (3, Vi m0), (12, Vi (k : Int)), (13, .slice (some ⟨b1, o2, none⟩) len cap), (14, Vi (len : Int)), (15, .bool (decide ((k : Int) < (len : Int))))] [] [(b1, o2 + 0 * 1, [Vi x0])]) trivial trivial (fun _ => by kernel_rfl) ?_
  clear hJ a w; intro a w hJ
  rcases (by omega : k < len ∨ k = len) with hlt | hke
  · obtain ⟨x, hxk⟩ : ∃ x, l[k]? = some x := ⟨_, List.getElem?_eq_getElem (by omega)⟩
    have hrow := rk_row hxk
    have hxp := hn x (List.mem_of_getElem? hxk)
    refine x_true hJ (t := decide ((k : Int) < (len : Int))) (by kernel_rfl) (decide_eq_true (by omega)) ?_
    refine rx hJ false 8 [] [] (.ok (.ops [0, 0, 1, 0, 0, 1, 0, 1, 1, 1] 3) [.block 1, .seq [1, 1, 0, 0, 1, 0, 1, 1, 1]] [(0, .slice (some ⟨b1, o2, none⟩) len cap), (2, Vi 0), (4, Vi (k : Int)), (3, Vi m0), (12, Vi (k : Int)), (13, .slice (some ⟨b1, o2, none⟩) len cap), (14, Vi (len : Int)), (15, .bool (decide ((k : Int) < (len : Int)))), (18, Vi m0), (19, .slice (some ⟨b1, o2, none⟩) len cap), (20, Vi (k : Int))] [] [(b1, o2 + 0 * 1, [Vi x0])]) trivial trivial (fun _ => by kernel_rfl) ?_
    clear hJ a w; intro a w hJ
    have c6 := RS.cell hr (hrow)
    replace hJ := hJ.fact (c6.sees s5)
    refine rx hJ false 12 [.ix b1 o2 len cap k, .f 0 0] [(23, Vi (if x > m0 then x else m0), Vi (max m0 x)), (17, Vi (IntKind.i64.wrap ((k : Int) + 1)), Vi ((k : Int) + 1))] (.ok (.out .normal) [] [(0, .slice (some ⟨b1, o2, none⟩) len cap), (2, Vi 0), (12, Vi (k : Int)), (13, .slice (some ⟨b1, o2, none⟩) len cap), (14, Vi (len : Int)), (15, .bool (decide ((k : Int) < (len : Int)))), (18, Vi m0), (19, .slice (some ⟨b1, o2, none⟩) len cap), (20, Vi (k : Int)), (21, .pointer (some ⟨b1, o2 + k * 1, none⟩)), (22, Vi x), (23, Vi (max m0 x)), (3, Vi (max m0 x)), (16, Vi (k : Int)), (17, Vi ((k : Int) + 1)), (4, Vi ((k : Int) + 1))] [] [(b1, o2 + k * 1, [Vi x]), (b1, o2 + 0 * 1, [Vi x0])]) (And.intro (by first | omega | (simp; omega)) (trivial)) (And.intro (congrArg (Value.int .i64) (by split <;> omega)) (And.intro (i64_wrap (by omega) (by omega)) (trivial))) (fun _ => by kernel_rfl) ?_
    clear hJ a w; intro a w hJ
    exact x_round ⟨k + 1, ⟨h4, max m0 x, (hJ.tof [1] (F' := [(b1, o2 + 0 * 1, [Vi x0])]) (by kernel_rfl)).to (by kernel_rfl) (by kernel_rfl) rfl, s5, by omega, by omega⟩, by omega⟩
  · skip
    refine x_false hJ (t := decide ((k : Int) < (len : Int))) (by kernel_rfl) (decide_eq_false (by omega)) ?_
    refine rx hJ false 2 [] [] (.ok (.out (.exit 0)) [] [(0, .slice (some ⟨b1, o2, none⟩) len cap), (2, Vi 0), (4, Vi (k : Int)), (3, Vi m0), (12, Vi (k : Int)), (13, .slice (some ⟨b1, o2, none⟩) len cap), (14, Vi (len : Int)), (15, .bool (decide ((k : Int) < (len : Int))))] [] [(b1, o2 + 0 * 1, [Vi x0])]) trivial trivial (fun _ => by kernel_rfl) ?_
    clear hJ a w; intro a w hJ
    refine x_leave rfl ?_
    refine rx hJ false 9 [] [] (.ok (.out .ret) [] [(2, Vi m0)] [] [(b1, o2 + 0 * 1, [Vi x0])]) trivial trivial (fun _ => by kernel_rfl) ?_
    clear hJ a w; intro a w hJ
    refine x_end (hQ [Vi m0] _ [] hJ (.rtmp hJ.j (by kernel_rfl) .nil) (no_own _) rfl ?_).1
    exact ⟨m0, rfl, hm0⟩

end Go.Proofs.Ytgjndkphfabnnaa
