/-
  Contracts of slices.Index and Contains at places.
-/
import Derived.Test.YtgjndkphfabnnaaRankO
namespace Go.Proofs.Ytgjndkphfabnnaa
open Go.RowKit
set_option linter.unusedVariables false

set_option maxRecDepth 100000 in
theorem idxH_any (l : List Nat) (v : Value) (s : Nat) (h : Vw) (hr : RS h 1 v (natRows l)) (hl : l.length ≤ 1000000) : C0 Try.prog 69 #[v, .int .i64 (s : Int)] h (fun r _ => r = .int .i64 (fidx (fun y : Nat => (s : Int) == (y : Int)) l)) := by
  obtain ⟨A, cap, rfl, -, -, -⟩ := hr.form
  rw [List.length_map] at *
  generalize hL : l.length = len at *
  refine x_con Try.func69 (c := Try.f69.body.getD .skip) (by kernel_rfl) (N := 19) rfl (by kernel_rfl) ?_
  intro hbx hbad Q hQ a w hJ
  replace hJ : K ⟨19, h.w, h.bad, []⟩ [(0, .slice A len cap), (1, Vi (s : Int))] [] [] h a w := hJ.to (by kernel_rfl) (by kernel_rfl) rfl
  refine rx hJ false 14 [] [] (.ok (.code [0, 1, 0, 1]) [.block 0, .seq [1, 1]] [(0, .slice A len cap), (1, Vi (s : Int)), (4, Vi 0), (7, Vi (len : Int)), (8, Vi 0)] [] []) trivial trivial (fun _ => by kernel_rfl) ?_
  clear hJ a w; intro a w hJ
  refine x_loop (fun (k : Nat) a w => ∃ (h1 : Vw) , K ⟨19, h.w, h.bad, []⟩ [(0, .slice A len cap), (1, Vi (s : Int)), (7, Vi (len : Int)), (8, Vi (k : Int))] [] [] h1 a w ∧ Sees h h1 ∧ (k ≤ len) ∧ (∀ y ∈ l.take k, ((s : Int) == ((y : Nat) : Int)) = false)) (fun k => len - k) (0) (by kernel_rfl) ⟨h, hJ.to (by kernel_rfl) (by kernel_rfl) rfl, Sees.refl _, Nat.zero_le _, fun y hy => by simp at hy⟩ ?_
  clear hJ a w; rintro k a w ⟨h1, hJ, s2, hk, hn⟩
  refine rx hJ false 6 [] [] (.ok (.code [0, 1, 0, 0, 1, 0, 1]) [.seq [1, 1, 0, 0, 1, 0, 1]] [(0, .slice A len cap), (1, Vi (s : Int)), (7, Vi (len : Int)), (8, Vi (k : Int)), (9, .bool (decide ((k : Int) < (len : Int))))] [] []) trivial trivial (fun _ => by kernel_rfl) ?_
  clear hJ a w; intro a w hJ
  rcases (by omega : k < len ∨ k = len) with hlt | hke
  · obtain ⟨f, hfk⟩ : ∃ f, l[k]? = some f := ⟨_, List.getElem?_eq_getElem (by omega)⟩
    have hrow : (natRows l)[k]? = some [.int .i64 (f : Int)] := by rw [List.getElem?_map, hfk]; rfl
    refine x_true hJ (t := decide ((k : Int) < (len : Int))) (by kernel_rfl) (decide_eq_true (by omega)) ?_
    refine rx hJ false 15 [] [] (.ok (.ops [0, 1, 0, 0, 1, 1, 0, 0, 1, 0, 1] 3) [.seq [1, 1, 0, 0, 1, 1, 0, 0, 1, 0, 1], .block 1, .seq [1, 1, 1, 0, 0, 1, 0, 1]] [(0, .slice A len cap), (1, Vi (s : Int)), (7, Vi (len : Int)), (8, Vi (k : Int)), (9, .bool (decide ((k : Int) < (len : Int)))), (10, Vi (k : Int)), (5, Vi (k : Int)), (11, Vi (s : Int)), (12, .slice A len cap), (13, Vi (k : Int))] [] []) trivial trivial (fun _ => by kernel_rfl) ?_
    clear hJ a w; intro a w hJ
    obtain ⟨b3, o4, rfl, -, c5⟩ := RS.row hr (hrow)
    replace hJ := hJ.fact (c5.sees s2)
    refine rx hJ false 5 [.ix b3 o4 len cap k, .f 0 0] [] (.ok (.code [1, 1, 0, 0, 1, 1, 0, 0, 1, 0, 1]) [.block 1, .seq [1, 1, 1, 0, 0, 1, 0, 1]] [(0, .slice (some ⟨b3, o4, none⟩) len cap), (1, Vi (s : Int)), (7, Vi (len : Int)), (8, Vi (k : Int)), (9, .bool (decide ((k : Int) < (len : Int)))), (10, Vi (k : Int)), (5, Vi (k : Int)), (11, Vi (s : Int)), (12, .slice (some ⟨b3, o4, none⟩) len cap), (13, Vi (k : Int)), (14, .pointer (some ⟨b3, o4 + k * 1, none⟩)), (15, Vi (f : Int)), (16, .bool ((s : Int) == (f : Int)))] [] [(b3, o4 + k * 1, [Vi (f : Int)])]) (And.intro (by first | omega | (simp; omega)) (trivial)) trivial (fun _ => by kernel_rfl) ?_
    clear hJ a w; intro a w hJ
    rcases Bool.eq_false_or_eq_true ((s : Int) == (f : Int)) with hq | hq
    · refine x_true hJ (t := (s : Int) == (f : Int)) (by kernel_rfl) (hq) ?_
      refine rx hJ false 9 [] [] (.ok (.out .ret) [] [(0, .slice (some ⟨b3, o4, none⟩) len cap), (1, Vi (s : Int)), (7, Vi (len : Int)), (8, Vi (k : Int)), (9, .bool (decide ((k : Int) < (len : Int)))), (10, Vi (k : Int)), (5, Vi (k : Int)), (11, Vi (s : Int)), (12, .slice (some ⟨b3, o4, none⟩) len cap), (13, Vi (k : Int)), (14, .pointer (some ⟨b3, o4 + k * 1, none⟩)), (15, Vi (f : Int)), (16, .bool ((s : Int) == (f : Int))), (17, Vi (k : Int)), (4, Vi (k : Int))] [] [(b3, o4 + k * 1, [Vi (f : Int)])]) trivial trivial (fun _ => by kernel_rfl) ?_
      clear hJ a w; intro a w hJ
      refine x_leave rfl ?_
      refine rx hJ false 2 [] [] (.ok (.out .ret) [] [(4, Vi (k : Int))] [] [(b3, o4 + k * 1, [Vi (f : Int)])]) trivial trivial (fun _ => by kernel_rfl) ?_
      clear hJ a w; intro a w hJ
      refine x_end (hQ [Vi (k : Int)] _ [] hJ (.rtmp hJ.j (by kernel_rfl) .nil) (no_own _) rfl ?_).1
      exact congrArg (Value.int .i64) (fidx_found _ l k f hn hfk hq).symm
    · skip
      refine x_false hJ (t := (s : Int) == (f : Int)) (by kernel_rfl) (hq) ?_
      refine rx hJ false 7 [] [(18, Vi (IntKind.i64.wrap ((k : Int) + 1)), Vi ((k : Int) + 1))] (.ok (.out .normal) [] [(0, .slice (some ⟨b3, o4, none⟩) len cap), (1, Vi (s : Int)), (7, Vi (len : Int)), (9, .bool (decide ((k : Int) < (len : Int)))), (10, Vi (k : Int)), (5, Vi (k : Int)), (11, Vi (s : Int)), (12, .slice (some ⟨b3, o4, none⟩) len cap), (13, Vi (k : Int)), (14, .pointer (some ⟨b3, o4 + k * 1, none⟩)), (15, Vi (f : Int)), (16, .bool ((s : Int) == (f : Int))), (18, Vi ((k : Int) + 1)), (8, Vi ((k : Int) + 1))] [] [(b3, o4 + k * 1, [Vi (f : Int)])]) trivial (And.intro (i64_wrap (by omega) (by omega)) (trivial)) (fun _ => by kernel_rfl) ?_
      clear hJ a w; intro a w hJ
      exact x_round ⟨k + 1, ⟨h1, (hJ.tof [] (F' := []) (by kernel_rfl)).to (by kernel_rfl) (by kernel_rfl) rfl, s2, by omega, (by rw [take_snoc' l k f hfk]; exact fun y hy => (List.mem_append.1 hy).elim (hn y) (fun e => by rw [List.mem_singleton.1 e]; exact hq))⟩, by omega⟩
  · skip
    have htk : l.take k = l := by rw [hke, ← hL, List.take_length]
    rw [htk] at hn
    refine x_false hJ (t := decide ((k : Int) < (len : Int))) (by kernel_rfl) (decide_eq_false (by omega)) ?_
    refine rx hJ false 2 [] [] (.ok (.out (.exit 0)) [] [(0, .slice A len cap), (1, Vi (s : Int)), (7, Vi (len : Int)), (8, Vi (k : Int)), (9, .bool (decide ((k : Int) < (len : Int))))] [] []) trivial trivial (fun _ => by kernel_rfl) ?_
    clear hJ a w; intro a w hJ
    refine x_leave rfl ?_
    refine rx hJ false 8 [] [] (.ok (.out .ret) [] [(4, Vi (-1))] [] []) trivial trivial (fun _ => by kernel_rfl) ?_
    clear hJ a w; intro a w hJ
    refine x_end (hQ [Vi (-1)] _ [] hJ (.rtmp hJ.j (by kernel_rfl) .nil) (no_own _) rfl ?_).1
    exact congrArg (Value.int .i64) (fidx_none _ l hn).symm
theorem contH_any (l : List Nat) (v : Value) (s : Nat) (h : Vw) (hr : RS h 1 v (natRows l)) (hl : l.length ≤ 1000000) : C0 Try.prog 35 #[v, .int .i64 (s : Int)] h (fun r _ => r = .bool (decide (s ∈ l))) := by
  have hi := fun H q => idxH_any l v s H q hl
  have e : decide (0 ≤ fidx (fun y : Nat => (s : Int) == (y : Int)) l) = decide (s ∈ l) := by
    rw [fidx_dec, Bool.eq_iff_iff, List.any_eq_true, decide_eq_true_iff]
    constructor
    · rintro ⟨y, hy, q⟩
      have := beq_iff_eq.1 q
      rw [show s = y by omega]; exact hy
    · intro q; exact ⟨s, q, beq_self_eq_true _⟩
  generalize fidx (fun y : Nat => (s : Int) == (y : Int)) l = p at *
  obtain ⟨A, cap, rfl, -, -, -⟩ := hr.form
  refine x_con Try.func35 (c := Try.f35.body.getD .skip) (by kernel_rfl) (N := 9) rfl (by kernel_rfl) ?_
  intro hbx hbad Q hQ a w hJ
  replace hJ : K ⟨9, h.w, h.bad, []⟩ [(0, .slice A ((natRows l).length) cap), (1, Vi (s : Int))] [] [] h a w := hJ.to (by kernel_rfl) (by kernel_rfl) rfl
  refine rx hJ false 15 [.cl 69 #[.slice A ((natRows l).length) cap, Vi (s : Int)] (Vi p)] [] (.ok (.out .ret) [] [(4, .bool (decide (p ≥ 0)))] [] []) (And.intro (fun H sH => hi _ (hr.sees sH)) (trivial)) trivial (fun _ => by kernel_rfl) ?_
  clear hJ a w; intro a w hJ
  refine x_end (hQ [.bool (decide (p ≥ 0))] _ [] hJ (.rtmp hJ.j (by kernel_rfl) .nil) (no_own _) rfl ?_).1
  exact congrArg Value.bool e

end Go.Proofs.Ytgjndkphfabnnaa
