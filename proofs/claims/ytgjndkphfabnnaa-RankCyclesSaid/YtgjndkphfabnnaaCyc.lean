/-
  Contracts of rank.cycle, of rank.Of where fields hang on themselves in a ring.
-/
import Derived.Test.YtgjndkphfabnnaaCycP
import Derived.Test.YtgjndkphfabnnaaIdxH
import Derived.Test.YtgjndkphfabnnaaStr
namespace Go.Proofs.Ytgjndkphfabnnaa
open Go.RowKit
set_option linter.unusedVariables false

theorem cyc1_any (x : Int) (h : Vw) : C0 Try.prog 114 #[.int .i64 x] h (fun r _ => r = .bool (decide (x < 0))) := by
  refine x_con Try.func114 (c := Try.f114.body.getD .skip) (by kernel_rfl) (N := 5) rfl (by kernel_rfl) ?_
  intro hbx hbad Q hQ a w hJ
  replace hJ : K ⟨5, h.w, h.bad, []⟩ [(0, Vi x)] [] [] h a w := hJ.to (by kernel_rfl) (by kernel_rfl) rfl
  refine rx hJ false 13 [] [] (.ok (.out .ret) [] [(2, .bool (decide (x < 0)))] [] []) trivial trivial (fun _ => by kernel_rfl) ?_
  clear hJ a w; intro a w hJ
  refine x_end (hQ [.bool (decide (x < 0))] _ [] hJ (.rtmp hJ.j (by kernel_rfl) .nil) (no_own _) rfl ?_).1
  exact rfl
set_option maxRecDepth 100000 in
theorem idxnegA (l : List Int) (A : Option Addr) (cap : Nat) (h : Vw) (hr : RS h 1 (.slice A l.length cap) (rkRows l)) (hl : l.length ≤ 1000000) :
    C0 Try.prog 113 #[.slice A l.length cap, .func (.func 79) #[] #[]] h (fun r _ => r = .int .i64 (fidx (fun x : Int => decide (x < 0)) l)) := by
  generalize hL : l.length = len at *
  refine x_con Try.func113 (c := Try.f113.body.getD .skip) (by kernel_rfl) (N := 19) rfl (by kernel_rfl) ?_
  intro hbx hbad Q hQ a w hJ
  replace hJ : K ⟨19, h.w, h.bad, []⟩ [(0, .slice A len cap), (1, .func (.func 79) #[] #[])] [] [] h a w := hJ.to (by kernel_rfl) (by kernel_rfl) rfl
  refine rx hJ false 14 [] [] (.ok (.code [0, 1, 0, 1]) [.block 0, .seq [1, 1]] [(0, .slice A len cap), (1, .func (.func 79) #[] #[]), (4, Vi 0), (7, Vi (len : Int)), (8, Vi 0)] [] []) trivial trivial (fun _ => by kernel_rfl) ?_
  clear hJ a w; intro a w hJ
  refine x_loop (fun (k : Nat) a w => ∃ (h1 : Vw) , K ⟨19, h.w, h.bad, []⟩ [(0, .slice A len cap), (1, .func (.func 79) #[] #[]), (7, Vi (len : Int)), (8, Vi (k : Int))] [] [] h1 a w ∧ Sees h h1 ∧ (k ≤ len) ∧ (∀ y ∈ l.take k, decide ((y : Int) < 0) = false)) (fun k => len - k) (0) (by kernel_rfl) ⟨h, hJ.to (by kernel_rfl) (by kernel_rfl) rfl, Sees.refl _, Nat.zero_le _, fun y hy => by simp at hy⟩ ?_
  clear hJ a w; rintro k a w ⟨h1, hJ, s2, hk, hn⟩
  refine rx hJ false 6 [] [] (.ok (.code [0, 1, 0, 0, 1, 0, 1]) [.seq [1, 1, 0, 0, 1, 0, 1]] [(0, .slice A len cap), (1, .func (.func 79) #[] #[]), (7, Vi (len : Int)), (8, Vi (k : Int)), (9, .bool (decide ((k : Int) < (len : Int))))] [] []) trivial trivial (fun _ => by kernel_rfl) ?_
  clear hJ a w; intro a w hJ
  rcases (by omega : k < len ∨ k = len) with hlt | hke
  · obtain ⟨x, hxk⟩ : ∃ x, l[k]? = some x := ⟨_, List.getElem?_eq_getElem (by omega)⟩
    have hrow := rk_row hxk
    have hof := fun H => ofc_any x H
    refine x_true hJ (t := decide ((k : Int) < (len : Int))) (by kernel_rfl) (decide_eq_true (by omega)) ?_
    refine rx hJ false 15 [] [] (.ok (.ops [0, 1, 0, 0, 1, 1, 0, 0, 1, 0, 1] 3) [.seq [1, 1, 0, 0, 1, 1, 0, 0, 1, 0, 1], .block 1, .seq [1, 1, 1, 0, 0, 1, 0, 1]] [(0, .slice A len cap), (1, .func (.func 79) #[] #[]), (7, Vi (len : Int)), (8, Vi (k : Int)), (9, .bool (decide ((k : Int) < (len : Int)))), (10, Vi (k : Int)), (5, Vi (k : Int)), (11, .func (.func 79) #[] #[]), (12, .slice A len cap), (13, Vi (k : Int))] [] []) trivial trivial (fun _ => by kernel_rfl) ?_
    clear hJ a w; intro a w hJ
    obtain ⟨b3, o4, rfl, -, c5⟩ := RS.row hr (hrow)
    replace hJ := hJ.fact (c5.sees s2)
    refine rx hJ false 5 [.ix b3 o4 len cap k, .f 0 0, .cl 79 #[Vi x] (.bool (decide (x < 0)))] [] (.ok (.code [1, 1, 0, 0, 1, 1, 0, 0, 1, 0, 1]) [.block 1, .seq [1, 1, 1, 0, 0, 1, 0, 1]] [(0, .slice (some ⟨b3, o4, none⟩) len cap), (1, .func (.func 79) #[] #[]), (7, Vi (len : Int)), (8, Vi (k : Int)), (9, .bool (decide ((k : Int) < (len : Int)))), (10, Vi (k : Int)), (5, Vi (k : Int)), (11, .func (.func 79) #[] #[]), (12, .slice (some ⟨b3, o4, none⟩) len cap), (13, Vi (k : Int)), (14, .pointer (some ⟨b3, o4 + k * 1, none⟩)), (15, Vi x), (16, .bool (decide (x < 0)))] [] [(b3, o4 + k * 1, [Vi x])]) (And.intro (by first | omega | (simp; omega)) (And.intro (fun H sH => hof _) (trivial))) trivial (fun _ => by kernel_rfl) ?_
    clear hJ a w; intro a w hJ
    rcases Bool.eq_false_or_eq_true (decide (x < 0)) with hq | hq
    · refine x_true hJ (t := decide (x < 0)) (by kernel_rfl) (hq) ?_
      refine rx hJ false 9 [] [] (.ok (.out .ret) [] [(0, .slice (some ⟨b3, o4, none⟩) len cap), (1, .func (.func 79) #[] #[]), (7, Vi (len : Int)), (8, Vi (k : Int)), (9, .bool (decide ((k : Int) < (len : Int)))), (10, Vi (k : Int)), (5, Vi (k : Int)), (11, .func (.func 79) #[] #[]), (12, .slice (some ⟨b3, o4, none⟩) len cap), (13, Vi (k : Int)), (14, .pointer (some ⟨b3, o4 + k * 1, none⟩)), (15, Vi x), (16, .bool (decide (x < 0))), (17, Vi (k : Int)), (4, Vi (k : Int))] [] [(b3, o4 + k * 1, [Vi x])]) trivial trivial (fun _ => by kernel_rfl) ?_
      clear hJ a w; intro a w hJ
      refine x_leave rfl ?_
      refine rx hJ false 2 [] [] (.ok (.out .ret) [] [(4, Vi (k : Int))] [] [(b3, o4 + k * 1, [Vi x])]) trivial trivial (fun _ => by kernel_rfl) ?_
      clear hJ a w; intro a w hJ
      refine x_end (hQ [Vi (k : Int)] _ [] hJ (.rtmp hJ.j (by kernel_rfl) .nil) (no_own _) rfl ?_).1
      exact congrArg (Value.int .i64) (fidx_found _ l k x hn hxk hq).symm
    · skip
      refine x_false hJ (t := decide (x < 0)) (by kernel_rfl) (hq) ?_
      refine rx hJ false 7 [] [(18, Vi (IntKind.i64.wrap ((k : Int) + 1)), Vi ((k : Int) + 1))] (.ok (.out .normal) [] [(0, .slice (some ⟨b3, o4, none⟩) len cap), (1, .func (.func 79) #[] #[]), (7, Vi (len : Int)), (9, .bool (decide ((k : Int) < (len : Int)))), (10, Vi (k : Int)), (5, Vi (k : Int)), (11, .func (.func 79) #[] #[]), (12, .slice (some ⟨b3, o4, none⟩) len cap), (13, Vi (k : Int)), (14, .pointer (some ⟨b3, o4 + k * 1, none⟩)), (15, Vi x), (16, .bool (decide (x < 0))), (18, Vi ((k : Int) + 1)), (8, Vi ((k : Int) + 1))] [] [(b3, o4 + k * 1, [Vi x])]) trivial (And.intro (i64_wrap (by omega) (by omega)) (trivial)) (fun _ => by kernel_rfl) ?_
      clear hJ a w; intro a w hJ
      exact x_round ⟨k + 1, ⟨h1, (hJ.tof [] (F' := []) (by kernel_rfl)).to (by kernel_rfl) (by kernel_rfl) rfl, s2, by omega, (by rw [take_snoc' l k x hxk]; exact fun y hy => (List.mem_append.1 hy).elim (hn y) (fun e => by rw [List.mem_singleton.1 e]; exact hq))⟩, by omega⟩
  · skip
    have htk : l.take k = l := by rw [hke, ← hL, List.take_length]
    rw [htk] at hn
    refine x_false hJ (t := decide ((k : Int) < (len : Int))) (by kernel_rfl) (decide_eq_false (by omega)) ?_
    refine rx hJ false 2 [] [] (.ok (.out (.exit 0)) [] [(0, .slice A len cap), (1, .func (.func 79) #[] #[]), (7, Vi (len : Int)), (8, Vi (k : Int)), (9, .bool (decide ((k : Int) < (len : Int))))] [] []) trivial trivial (fun _ => by kernel_rfl) ?_
    clear hJ a w; intro a w hJ
    refine x_leave rfl ?_
    refine rx hJ false 8 [] [] (.ok (.out .ret) [] [(4, Vi (-1))] [] []) trivial trivial (fun _ => by kernel_rfl) ?_
    clear hJ a w; intro a w hJ
    refine x_end (hQ [Vi (-1)] _ [] hJ (.rtmp hJ.j (by kernel_rfl) .nil) (no_own _) rfl ?_).1
    exact congrArg (Value.int .i64) (fidx_none _ l hn).symm
set_option maxRecDepth 100000 in
theorem idxnegB (l : List Int) (A : Option Addr) (cap : Nat) (h : Vw) (hr : RS h 1 (.slice A l.length cap) (rkRows l)) (hl : l.length ≤ 1000000) :
    C0 Try.prog 113 #[.slice A l.length cap, .func (.func 114) #[] #[]] h (fun r _ => r = .int .i64 (fidx (fun x : Int => decide (x < 0)) l)) := by
  generalize hL : l.length = len at *
  refine x_con Try.func113 (c := Try.f113.body.getD .skip) (by kernel_rfl) (N := 19) rfl (by kernel_rfl) ?_
  intro hbx hbad Q hQ a w hJ
  replace hJ : K ⟨19, h.w, h.bad, []⟩ [(0, .slice A len cap), (1, .func (.func 114) #[] #[])] [] [] h a w := hJ.to (by kernel_rfl) (by kernel_rfl) rfl
  refine rx hJ false 14 [] [] (.ok (.code [0, 1, 0, 1]) [.block 0, .seq [1, 1]] [(0, .slice A len cap), (1, .func (.func 114) #[] #[]), (4, Vi 0), (7, Vi (len : Int)), (8, Vi 0)] [] []) trivial trivial (fun _ => by kernel_rfl) ?_
  clear hJ a w; intro a w hJ
  refine x_loop (fun (k : Nat) a w => ∃ (h1 : Vw) , K ⟨19, h.w, h.bad, []⟩ [(0, .slice A len cap), (1, .func (.func 114) #[] #[]), (7, Vi (len : Int)), (8, Vi (k : Int))] [] [] h1 a w ∧ Sees h h1 ∧ (k ≤ len) ∧ (∀ y ∈ l.take k, decide ((y : Int) < 0) = false)) (fun k => len - k) (0) (by kernel_rfl) ⟨h, hJ.to (by kernel_rfl) (by kernel_rfl) rfl, Sees.refl _, Nat.zero_le _, fun y hy => by simp at hy⟩ ?_
  clear hJ a w; rintro k a w ⟨h1, hJ, s2, hk, hn⟩
  refine rx hJ false 6 [] [] (.ok (.code [0, 1, 0, 0, 1, 0, 1]) [.seq [1, 1, 0, 0, 1, 0, 1]] [(0, .slice A len cap), (1, .func (.func 114) #[] #[]), (7, Vi (len : Int)), (8, Vi (k : Int)), (9, .bool (decide ((k : Int) < (len : Int))))] [] []) trivial trivial (fun _ => by kernel_rfl) ?_
  clear hJ a w; intro a w hJ
  rcases (by omega : k < len ∨ k = len) with hlt | hke
  · obtain ⟨x, hxk⟩ : ∃ x, l[k]? = some x := ⟨_, List.getElem?_eq_getElem (by omega)⟩
    have hrow := rk_row hxk
    have hof := fun H => cyc1_any x H
    refine x_true hJ (t := decide ((k : Int) < (len : Int))) (by kernel_rfl) (decide_eq_true (by omega)) ?_
    refine rx hJ false 15 [] [] (.ok (.ops [0, 1, 0, 0, 1, 1, 0, 0, 1, 0, 1] 3) [.seq [1, 1, 0, 0, 1, 1, 0, 0, 1, 0, 1], .block 1, .seq [1, 1, 1, 0, 0, 1, 0, 1]] [(0, .slice A len cap), (1, .func (.func 114) #[] #[]), (7, Vi (len : Int)), (8, Vi (k : Int)), (9, .bool (decide ((k : Int) < (len : Int)))), (10, Vi (k : Int)), (5, Vi (k : Int)), (11, .func (.func 114) #[] #[]), (12, .slice A len cap), (13, Vi (k : Int))] [] []) trivial trivial (fun _ => by kernel_rfl) ?_
    clear hJ a w; intro a w hJ
    obtain ⟨b3, o4, rfl, -, c5⟩ := RS.row hr (hrow)
    replace hJ := hJ.fact (c5.sees s2)
    refine rx hJ false 5 [.ix b3 o4 len cap k, .f 0 0, .cl 114 #[Vi x] (.bool (decide (x < 0)))] [] (.ok (.code [1, 1, 0, 0, 1, 1, 0, 0, 1, 0, 1]) [.block 1, .seq [1, 1, 1, 0, 0, 1, 0, 1]] [(0, .slice (some ⟨b3, o4, none⟩) len cap), (1, .func (.func 114) #[] #[]), (7, Vi (len : Int)), (8, Vi (k : Int)), (9, .bool (decide ((k : Int) < (len : Int)))), (10, Vi (k : Int)), (5, Vi (k : Int)), (11, .func (.func 114) #[] #[]), (12, .slice (some ⟨b3, o4, none⟩) len cap), (13, Vi (k : Int)), (14, .pointer (some ⟨b3, o4 + k * 1, none⟩)), (15, Vi x), (16, .bool (decide (x < 0)))] [] [(b3, o4 + k * 1, [Vi x])]) (And.intro (by first | omega | (simp; omega)) (And.intro (fun H sH => hof _) (trivial))) trivial (fun _ => by kernel_rfl) ?_
    clear hJ a w; intro a w hJ
    rcases Bool.eq_false_or_eq_true (decide (x < 0)) with hq | hq
    · refine x_true hJ (t := decide (x < 0)) (by kernel_rfl) (hq) ?_
      refine rx hJ false 9 [] [] (.ok (.out .ret) [] [(0, .slice (some ⟨b3, o4, none⟩) len cap), (1, .func (.func 114) #[] #[]), (7, Vi (len : Int)), (8, Vi (k : Int)), (9, .bool (decide ((k : Int) < (len : Int)))), (10, Vi (k : Int)), (5, Vi (k : Int)), (11, .func (.func 114) #[] #[]), (12, .slice (some ⟨b3, o4, none⟩) len cap), (13, Vi (k : Int)), (14, .pointer (some ⟨b3, o4 + k * 1, none⟩)), (15, Vi x), (16, .bool (decide (x < 0))), (17, Vi (k : Int)), (4, Vi (k : Int))] [] [(b3, o4 + k * 1, [Vi x])]) trivial trivial (fun _ => by kernel_rfl) ?_
      clear hJ a w; intro a w hJ
      refine x_leave rfl ?_
      refine rx hJ false 2 [] [] (.ok (.out .ret) [] [(4, Vi (k : Int))] [] [(b3, o4 + k * 1, [Vi x])]) trivial trivial (fun _ => by kernel_rfl) ?_
      clear hJ a w; intro a w hJ
      refine x_end (hQ [Vi (k : Int)] _ [] hJ (.rtmp hJ.j (by kernel_rfl) .nil) (no_own _) rfl ?_).1
      exact congrArg (Value.int .i64) (fidx_found _ l k x hn hxk hq).symm
    · skip
      refine x_false hJ (t := decide (x < 0)) (by kernel_rfl) (hq) ?_
      refine rx hJ false 7 [] [(18, Vi (IntKind.i64.wrap ((k : Int) + 1)), Vi ((k : Int) + 1))] (.ok (.out .normal) [] [(0, .slice (some ⟨b3, o4, none⟩) len cap), (1, .func (.func 114) #[] #[]), (7, Vi (len : Int)), (9, .bool (decide ((k : Int) < (len : Int)))), (10, Vi (k : Int)), (5, Vi (k : Int)), (11, .func (.func 114) #[] #[]), (12, .slice (some ⟨b3, o4, none⟩) len cap), (13, Vi (k : Int)), (14, .pointer (some ⟨b3, o4 + k * 1, none⟩)), (15, Vi x), (16, .bool (decide (x < 0))), (18, Vi ((k : Int) + 1)), (8, Vi ((k : Int) + 1))] [] [(b3, o4 + k * 1, [Vi x])]) trivial (And.intro (i64_wrap (by omega) (by omega)) (trivial)) (fun _ => by kernel_rfl) ?_
      clear hJ a w; intro a w hJ
      exact x_round ⟨k + 1, ⟨h1, (hJ.tof [] (F' := []) (by kernel_rfl)).to (by kernel_rfl) (by kernel_rfl) rfl, s2, by omega, (by rw [take_snoc' l k x hxk]; exact fun y hy => (List.mem_append.1 hy).elim (hn y) (fun e => by rw [List.mem_singleton.1 e]; exact hq))⟩, by omega⟩
  · skip
    have htk : l.take k = l := by rw [hke, ← hL, List.take_length]
    rw [htk] at hn
    refine x_false hJ (t := decide ((k : Int) < (len : Int))) (by kernel_rfl) (decide_eq_false (by omega)) ?_
    refine rx hJ false 2 [] [] (.ok (.out (.exit 0)) [] [(0, .slice A len cap), (1, .func (.func 114) #[] #[]), (7, Vi (len : Int)), (8, Vi (k : Int)), (9, .bool (decide ((k : Int) < (len : Int))))] [] []) trivial trivial (fun _ => by kernel_rfl) ?_
    clear hJ a w; intro a w hJ
    refine x_leave rfl ?_
    refine rx hJ false 8 [] [] (.ok (.out .ret) [] [(4, Vi (-1))] [] []) trivial trivial (fun _ => by kernel_rfl) ?_
    clear hJ a w; intro a w hJ
    refine x_end (hQ [Vi (-1)] _ [] hJ (.rtmp hJ.j (by kernel_rfl) .nil) (no_own _) rfl ?_).1
    exact congrArg (Value.int .i64) (fidx_none _ l hn).symm
theorem first_neg {l : List Int} {N : Nat} (h1 : ∀ i, i < N → 0 ≤ l.getD i 0) (h2 : l.getD N 0 = -1) (hN : N < l.length) : fidx (fun x : Int => decide (x < 0)) l = N := by
  refine fidx_found _ l N (-1) (fun y hy => ?_) ?_ rfl
  · obtain ⟨i, hi⟩ := List.mem_iff_getElem?.1 hy
    rw [List.getElem?_take] at hi
    split at hi
    · have := h1 i (by omega)
      rw [List.getD_eq_getElem?_getD, hi] at this
      exact decide_eq_false (by simp only [Option.getD_some] at this; omega)
    · cases hi
  · rw [List.getD_eq_getElem?_getD, List.getElem?_eq_getElem hN] at h2
    rw [List.getElem?_eq_getElem hN]
    exact congrArg some h2
theorem cfN_any (l : List Int) (N : Nat) (hN : fidx (fun x : Int => decide (x < 0)) l = N) (A : Option Addr) (cap : Nat) (h : Vw) (hr : RS h 1 (.slice A l.length cap) (rkRows l)) (hl : l.length ≤ 1000000) :
    C0 Try.prog 78 #[.slice A l.length cap, .func (.func 79) #[] #[]] h (fun r _ => r = .bool true) := by
  have hi := fun H q => idxnegA l A cap H q hl
  rw [hN] at hi
  refine x_con Try.func78 (c := Try.f78.body.getD .skip) (by kernel_rfl) (N := 9) rfl (by kernel_rfl) ?_
  intro hbx hbad Q hQ a w hJ
  replace hJ : K ⟨9, h.w, h.bad, []⟩ [(0, .slice A l.length cap), (1, .func (.func 79) #[] #[])] [] [] h a w := hJ.to (by kernel_rfl) (by kernel_rfl) rfl
  refine rx hJ false 15 [.cl 113 #[.slice A l.length cap, .func (.func 79) #[] #[]] (Vi (N : Int))] [] (.ok (.out .ret) [] [(4, .bool (decide ((N : Int) ≥ 0)))] [] []) (And.intro (fun H sH => hi _ (hr.sees sH)) (trivial)) trivial (fun _ => by kernel_rfl) ?_
  clear hJ a w; intro a w hJ
  refine x_end (hQ [.bool (decide ((N : Int) ≥ 0))] _ [] hJ (.rtmp hJ.j (by kernel_rfl) .nil) (no_own _) rfl ?_).1
  exact congrArg Value.bool (decide_eq_true (by omega))

/-! ### The ring -/
def cyL (N k : Nat) : List Nat := (List.range k).map (N + ·)
theorem cyL_len (N k : Nat) : (cyL N k).length = k := by unfold cyL; rw [List.length_map, List.length_range]
theorem cyL_succ (N k : Nat) : cyL N (k + 1) = cyL N k ++ [N + k] := by unfold cyL; rw [List.range_succ, List.map_append]; rfl
theorem cyL_mem {N k x : Nat} : x ∈ cyL N k ↔ N ≤ x ∧ x < N + k := by
  unfold cyL
  rw [List.mem_map]
  constructor
  · rintro ⟨j, hj, rfl⟩
    have := List.mem_range.1 hj
    omega
  · intro h; exact ⟨x - N, List.mem_range.2 (by omega), by omega⟩

set_option maxHeartbeats 2000000 in
set_option maxRecDepth 100000 in
theorem cycle_any (need : List (List Nat)) (ρ : List Int) (N m : Nat) (hm1 : 1 ≤ m) (hm4 : m ≤ 4) (hN : N ≤ 100) (hnl : need.length = N + m) (hρl : ρ.length = N + m) (hr : ∀ j, j < m → need.getD (N + j) [] = [N + (j + 1) % m]) (h1 : ∀ i, i < N → 0 ≤ ρ.getD i 0) (h2 : ∀ j, j < m → ρ.getD (N + j) 0 = -1)
    (An : Option Addr) (cn b : Nat) (us : List Value) (h : Vw) (hrn : RS h 1 (.slice An (N + m) cn) (us.map fun u => [u])) (hna : NeedAll h need us) (hro : RS h 1 (.slice (some ⟨b, 0, none⟩) (N + m) (N + m)) (rkRows ρ)) :
    C0 Try.prog 80 #[.slice An (N + m) cn, .slice (some ⟨b, 0, none⟩) (N + m) (N + m)] h (fun r h' => ∃ A c, r = .slice A m c ∧ RS h' 1 (.slice A m c) (natRows (cyL N m))) := by
  have hfn : fidx (fun x : Int => decide (x < 0)) ρ = N := first_neg h1 (by have := h2 0 (by omega); rwa [Nat.add_zero] at this) (by omega)
  have hi := fun H q => idxnegB ρ (some ⟨b, 0, none⟩) (N + m) H q (by omega)
  rw [hρl, hfn] at hi
  have hul := hna.len
  have hz : Value.int .i64 (N : Int) = .int .i64 ((N + 0 % m : Nat) : Int) := by rw [Nat.zero_mod, Nat.add_zero]
  have hco := fun k H v s q => contH_any (cyL N k) v s H q
  have hix := fun H v q => idxH_any (cyL N m) v N H q (by rw [cyL_len]; omega)
  have hi0 : fidx (fun y : Nat => ((N : Nat) : Int) == (y : Int)) (cyL N m) = 0 := by
    refine fidx_found _ _ 0 N (fun y hy => by simp at hy) ?_ (beq_self_eq_true _)
    unfold cyL
    rw [List.getElem?_map, List.getElem?_range (by omega)]; rfl
  rw [hi0] at hix
  refine x_con Try.func80 (c := Try.f80.body.getD .skip) (by kernel_rfl) (N := 40) rfl (by kernel_rfl) ?_
  intro hbx hbad Q hQ a w hJ
  replace hJ : K ⟨40, h.w, h.bad, []⟩ [(0, .slice An (N + m) cn), (1, Vs b (N + m) (N + m))] [] [] h a w := hJ.to (by kernel_rfl) (by kernel_rfl) rfl
  refine rx hJ false 19 [.cl 113 #[Vs b (N + m) (N + m), .func (.func 114) #[] #[]] (Vi (N : Int))] [] (.ok (.code [0, 0, 1, 1, 1]) [.block 0, .seq [1, 1, 1, 1]] [(0, .slice An (N + m) cn), (1, Vs b (N + m) (N + m)), (4, Vz), (5, Vi (N : Int)), (6, Vz)] [] []) (And.intro (fun H sH => hi _ (hro.sees sH)) (trivial)) trivial (fun _ => by kernel_rfl) ?_
  clear hJ a w; intro a w hJ
  replace hJ := hJ.rew 5 (v := Vi (N : Int)) (v' := Vi ((N + 0 % m : Nat) : Int)) (hz) (by kernel_rfl)
  replace hJ : K ⟨40, h.w, h.bad, []⟩ [(0, .slice An (N + m) cn), (1, Vs b (N + m) (N + m)), (4, Vz), (6, Vz), (5, Vi ((N + 0 % m : Nat) : Int))] [] [] h a w := hJ.to (by kernel_rfl) rfl rfl
  replace hJ := hJ.nilrow 3 1
  refine x_loop (fun (k : Nat) a w => ∃ (h1 : Vw) (v : Value), K ⟨40, h.w, h.bad, []⟩ [(0, .slice An (N + m) cn), (1, Vs b (N + m) (N + m)), (4, Vz), (5, Vi ((N + k % m : Nat) : Int)), (6, v)] [.row v 3 1 (natRows (cyL N k))] [] h1 a w ∧ Sees h h1 ∧ (k ≤ m)) (fun k => m + 1 - k) (0) (by kernel_rfl) ⟨h, (Vz), hJ.to (by kernel_rfl) (by kernel_rfl) rfl, Sees.refl _, Nat.zero_le _⟩ ?_
  clear hJ a w; rintro k a w ⟨h1, v, hJ, s2, hk⟩
  refine rx hJ false 5 [] [] (.ok (.ops [0, 0, 0, 0, 0, 1, 1, 1] 2) [.seq [1, 0, 0, 0, 0, 1, 1, 1], .seq [1, 0, 0, 0, 1, 1, 1]] [(0, .slice An (N + m) cn), (1, Vs b (N + m) (N + m)), (4, Vz), (5, Vi ((N + k % m : Nat) : Int)), (6, v), (11, v), (12, Vi ((N + k % m : Nat) : Int))] [.row v 3 1 (natRows (cyL N k))] []) trivial trivial (fun _ => by kernel_rfl) ?_
  clear hJ a w; intro a w hJ
  have hmk : k % m < m := Nat.mod_lt _ (by omega)
  have hcl := cyL_len N k
  have hck := fun H v q => hco k H v (N + k % m) q (by omega)
  rcases (by omega : k < m ∨ k = m) with hlt | hke
  · have hkm : k % m = k := Nat.mod_eq_of_lt hlt
    rw [decide_eq_false (by rw [cyL_mem]; omega)] at hck
    have hk1 := Nat.mod_lt (k + 1) (show 0 < m by omega)
    have hnk := hr k hlt
    rw [← hkm] at hnk
    obtain ⟨u, hu⟩ : ∃ u, us[N + k % m]? = some u := ⟨_, List.getElem?_eq_getElem (by omega)⟩
    have hneed : need[N + k % m]? = some [N + (k % m + 1) % m] := by
      rw [List.getD_eq_getElem?_getD, List.getElem?_eq_getElem (by omega)] at hnk
      rw [List.getElem?_eq_getElem (by omega)]
      exact congrArg some hnk
    have hrow : (us.map fun u => [u])[N + k % m]? = some [u] := by rw [List.getElem?_map, hu]; rfl
    have hnr := NeedAll.get hna hneed hu
    rw [hkm] at hnr
    obtain ⟨Au, cu, rfl, -⟩ := hnr.form
    have hq : (natRows [N + (k + 1) % m])[0]? = some [.int .i64 ((N + (k + 1) % m : Nat) : Int)] := rfl
    have hrq : (rkRows ρ)[N + (k + 1) % m]? = some [.int .i64 (ρ.getD (N + (k + 1) % m) 0)] := rk_get (by omega)
    have hneg := h2 _ hk1
    refine x_callq hJ 13 (hck _ _ (hJ.j.rowQ (v := v) (e := 3) (k := 1) (l := natRows (cyL N k)) 0 rfl)) (fun _ => by kernel_rfl) ?_; clear hJ a w; intro h3 a w s4 hJ
    refine rx hJ true 12 [.fix] [] (.new fun b5 => .ok (.ops [0, 0, 1, 0, 0, 0, 1, 1, 1] 3) [.seq [1, 0, 1, 0, 0, 0, 1, 1, 1], .block 1] [(0, .slice An (N + m) cn), (1, Vs b (N + m) (N + m)), (4, Vz), (5, Vi ((N + k % m : Nat) : Int)), (6, v), (11, v), (12, Vi ((N + k % m : Nat) : Int)), (13, .bool false), (14, .bool true), (15, v), (16, Vi ((N + k % m : Nat) : Int)), (17, Vs b5 1 1)] [.row v 3 1 (natRows (cyL N k))] [(b5, 0, [Vi ((N + k % m : Nat) : Int)])]) trivial trivial (fun b5 _ => by kernel_rfl) ?_
    clear hJ a w; intro b5 h6 a w s7 hJ
    refine rx hJ true 8 [.ap 0 0 (natRows (cyL N k)) [[Vi ((N + k % m : Nat) : Int)]]] [] (.nv fun v18 => .ok (.ops [0, 1, 0, 1, 0, 0, 0, 1, 1, 1] 2) [.seq [1, 1, 0, 1, 0, 0, 0, 1, 1, 1], .block 1] [(0, .slice An (N + m) cn), (1, Vs b (N + m) (N + m)), (4, Vz), (5, Vi ((N + k % m : Nat) : Int)), (11, v), (12, Vi ((N + k % m : Nat) : Int)), (13, .bool false), (14, .bool true), (15, v), (16, Vi ((N + k % m : Nat) : Int)), (17, Vs b5 1 1), (18, .slice (sA v18) (sN v18) (sC v18)), (6, .slice (sA v18) (sN v18) (sC v18)), (19, .slice An (N + m) cn), (20, Vi ((N + k % m : Nat) : Int))] [.row (.slice (sA v18) (sN v18) (sC v18)) 3 1 ((natRows (cyL N k)) ++ [[Vi ((N + k % m : Nat) : Int)]])] [(b5, 0, [Vi ((N + k % m : Nat) : Int)])]) (And.intro (by constructor <;> (simp; omega)) (trivial)) trivial (fun v18 _ => by kernel_rfl) ?_
    clear hJ a w; intro v18 h8 a w s9 hJ
    obtain ⟨b10, o11, rfl, -, c12⟩ := RS.row hrn (hrow)
    replace hJ := hJ.fact (c12.sees (s2.trans (s4.trans (s7.trans s9))))
    refine rx hJ false 7 [.ix b10 o11 (N + m) cn (N + k % m), .f 0 0] [] (.ok (.code [0, 1, 1, 0, 1, 0, 0, 0, 1, 1, 1]) [.block 2, .block 1] [(0, .slice (some ⟨b10, o11, none⟩) (N + m) cn), (1, Vs b (N + m) (N + m)), (4, Vz), (5, Vi ((N + k % m : Nat) : Int)), (11, v), (12, Vi ((N + k % m : Nat) : Int)), (13, .bool false), (14, .bool true), (15, v), (16, Vi ((N + k % m : Nat) : Int)), (17, Vs b5 1 1), (18, .slice (sA v18) (sN v18) (sC v18)), (6, .slice (sA v18) (sN v18) (sC v18)), (19, .slice (some ⟨b10, o11, none⟩) (N + m) cn), (20, Vi ((N + k % m : Nat) : Int)), (21, .pointer (some ⟨b10, o11 + (N + k % m) * 1, none⟩)), (22, .slice Au 1 cu), (23, Vi 1), (24, Vi 0)] [.row (.slice (sA v18) (sN v18) (sC v18)) 3 1 ((natRows (cyL N k)) ++ [[Vi ((N + k % m : Nat) : Int)]])] [(b10, o11 + (N + k % m) * 1, [.slice Au 1 cu]), (b5, 0, [Vi ((N + k % m : Nat) : Int)])]) (And.intro (by first | omega | (simp; omega)) (trivial)) trivial (fun _ => by kernel_rfl) ?_
    clear hJ a w; intro a w hJ
    refine x_loop (fun (i : Nat) a w => ∃ (h13 : Vw) , K ⟨40, h.w, h.bad, []⟩ [(0, .slice (some ⟨b10, o11, none⟩) (N + m) cn), (1, Vs b (N + m) (N + m)), (4, Vz), (11, v), (12, Vi ((N + k % m : Nat) : Int)), (13, .bool false), (14, .bool true), (15, v), (16, Vi ((N + k % m : Nat) : Int)), (17, Vs b5 1 1), (18, .slice (sA v18) (sN v18) (sC v18)), (6, .slice (sA v18) (sN v18) (sC v18)), (19, .slice (some ⟨b10, o11, none⟩) (N + m) cn), (20, Vi ((N + k % m : Nat) : Int)), (21, .pointer (some ⟨b10, o11 + (N + k % m) * 1, none⟩)), (22, .slice Au 1 cu), (23, Vi 1), (24, Vi (i : Int))] [.row (.slice (sA v18) (sN v18) (sC v18)) 3 1 (natRows (cyL N k) ++ [[Vi ((N + k % m : Nat) : Int)]])] [(b10, o11 + (N + k % m) * 1, [.slice Au 1 cu]), (b5, 0, [Vi ((N + k % m : Nat) : Int)])] h13 a w ∧ Sees h8 h13 ∧ (i = 0)) (fun i => 1 - i) (0) (by kernel_rfl) ⟨h8, hJ.to (by kernel_rfl) (by kernel_rfl) rfl, Sees.refl _, rfl⟩ ?_
    clear hJ a w; rintro i a w ⟨h13, hJ, s14, hi0⟩
    refine rx hJ false 6 [] [] (.ok (.code [0, 1, 0, 0, 1, 1, 0, 1, 0, 0, 0, 1, 1, 1]) [.seq [1, 1, 0, 0, 1, 1, 0, 1, 0, 0, 0, 1, 1, 1]] [(0, .slice (some ⟨b10, o11, none⟩) (N + m) cn), (1, Vs b (N + m) (N + m)), (4, Vz), (11, v), (12, Vi ((N + k % m : Nat) : Int)), (13, .bool false), (14, .bool true), (15, v), (16, Vi ((N + k % m : Nat) : Int)), (17, Vs b5 1 1), (18, .slice (sA v18) (sN v18) (sC v18)), (6, .slice (sA v18) (sN v18) (sC v18)), (19, .slice (some ⟨b10, o11, none⟩) (N + m) cn), (20, Vi ((N + k % m : Nat) : Int)), (21, .pointer (some ⟨b10, o11 + (N + k % m) * 1, none⟩)), (22, .slice Au 1 cu), (23, Vi 1), (24, Vi (i : Int)), (25, .bool (decide ((i : Int) < 1)))] [.row (.slice (sA v18) (sN v18) (sC v18)) 3 1 (natRows (cyL N k) ++ [[Vi ((N + k % m : Nat) : Int)]])] [(b10, o11 + (N + k % m) * 1, [.slice Au 1 cu]), (b5, 0, [Vi ((N + k % m : Nat) : Int)])]) trivial trivial (fun _ => by kernel_rfl) ?_
    clear hJ a w; intro a w hJ
    have hqi : (natRows [N + (k + 1) % m])[i]? = some [.int .i64 ((N + (k + 1) % m : Nat) : Int)] := by rw [hi0]; rfl
    refine x_true hJ (t := decide ((i : Int) < 1)) (by kernel_rfl) (decide_eq_true (by omega)) ?_
    refine rx hJ false 6 [] [] (.ok (.ops [0, 0, 0, 1, 1, 0, 0, 1, 1, 0, 1, 0, 0, 0, 1, 1, 1] 0) [.seq [1, 0, 0, 1, 1, 0, 0, 1, 1, 0, 1, 0, 0, 0, 1, 1, 1], .block 3, .seq [1, 1, 1, 0, 0, 1, 1, 0, 1, 0, 0, 0, 1, 1, 1]] [(0, .slice (some ⟨b10, o11, none⟩) (N + m) cn), (1, Vs b (N + m) (N + m)), (4, Vz), (11, v), (12, Vi ((N + k % m : Nat) : Int)), (13, .bool false), (14, .bool true), (15, v), (16, Vi ((N + k % m : Nat) : Int)), (17, Vs b5 1 1), (18, .slice (sA v18) (sN v18) (sC v18)), (6, .slice (sA v18) (sN v18) (sC v18)), (19, .slice (some ⟨b10, o11, none⟩) (N + m) cn), (20, Vi ((N + k % m : Nat) : Int)), (21, .pointer (some ⟨b10, o11 + (N + k % m) * 1, none⟩)), (22, .slice Au 1 cu), (23, Vi 1), (24, Vi (i : Int)), (25, .bool (decide ((i : Int) < 1)))] [.row (.slice (sA v18) (sN v18) (sC v18)) 3 1 (natRows (cyL N k) ++ [[Vi ((N + k % m : Nat) : Int)]])] [(b10, o11 + (N + k % m) * 1, [.slice Au 1 cu]), (b5, 0, [Vi ((N + k % m : Nat) : Int)])]) trivial trivial (fun _ => by kernel_rfl) ?_
    clear hJ a w; intro a w hJ
    obtain ⟨b15, o16, rfl, -, c17⟩ := RS.row hnr (hqi)
    replace hJ := hJ.fact (c17.sees (s2.trans (s4.trans (s7.trans (s9.trans s14)))))
    refine rx hJ false 9 [.ix b15 o16 1 cu i, .f 0 0] [] (.ok (.ops [0, 1, 0, 0, 1, 1, 0, 0, 1, 1, 0, 1, 0, 0, 0, 1, 1, 1] 2) [.seq [1, 1, 0, 0, 1, 1, 0, 0, 1, 1, 0, 1, 0, 0, 0, 1, 1, 1], .block 3, .seq [1, 1, 1, 0, 0, 1, 1, 0, 1, 0, 0, 0, 1, 1, 1]] [(0, .slice (some ⟨b10, o11, none⟩) (N + m) cn), (1, Vs b (N + m) (N + m)), (4, Vz), (11, v), (12, Vi ((N + k % m : Nat) : Int)), (13, .bool false), (14, .bool true), (15, v), (16, Vi ((N + k % m : Nat) : Int)), (17, Vs b5 1 1), (18, .slice (sA v18) (sN v18) (sC v18)), (6, .slice (sA v18) (sN v18) (sC v18)), (19, .slice (some ⟨b10, o11, none⟩) (N + m) cn), (20, Vi ((N + k % m : Nat) : Int)), (21, .pointer (some ⟨b10, o11 + (N + k % m) * 1, none⟩)), (22, .slice (some ⟨b15, o16, none⟩) 1 cu), (23, Vi 1), (24, Vi (i : Int)), (25, .bool (decide ((i : Int) < 1))), (26, .pointer (some ⟨b15, o16 + i * 1, none⟩)), (27, Vi ((N + (k + 1) % m : Nat) : Int)), (8, Vi ((N + (k + 1) % m : Nat) : Int)), (28, Vs b (N + m) (N + m)), (29, Vi ((N + (k + 1) % m : Nat) : Int))] [.row (.slice (sA v18) (sN v18) (sC v18)) 3 1 (natRows (cyL N k) ++ [[Vi ((N + k % m : Nat) : Int)]])] [(b15, o16 + i * 1, [Vi ((N + (k + 1) % m : Nat) : Int)]), (b10, o11 + (N + k % m) * 1, [.slice (some ⟨b15, o16, none⟩) 1 cu]), (b5, 0, [Vi ((N + k % m : Nat) : Int)])]) (And.intro (by first | omega | (simp; omega)) (trivial)) trivial (fun _ => by kernel_rfl) ?_
    clear hJ a w; intro a w hJ
    have c18 := RS.cell hro (hrq)
    replace hJ := hJ.fact (c18.sees (s2.trans (s4.trans (s7.trans (s9.trans s14)))))
    refine rx hJ false 5 [.ix b 0 (N + m) (N + m) (N + (k + 1) % m), .f 0 0] [] (.ok (.code [1, 1, 0, 0, 1, 1, 0, 0, 1, 1, 0, 1, 0, 0, 0, 1, 1, 1]) [.block 3, .seq [1, 1, 1, 0, 0, 1, 1, 0, 1, 0, 0, 0, 1, 1, 1]] [(0, .slice (some ⟨b10, o11, none⟩) (N + m) cn), (1, Vs b (N + m) (N + m)), (4, Vz), (11, v), (12, Vi ((N + k % m : Nat) : Int)), (13, .bool false), (14, .bool true), (15, v), (16, Vi ((N + k % m : Nat) : Int)), (17, Vs b5 1 1), (18, .slice (sA v18) (sN v18) (sC v18)), (6, .slice (sA v18) (sN v18) (sC v18)), (19, .slice (some ⟨b10, o11, none⟩) (N + m) cn), (20, Vi ((N + k % m : Nat) : Int)), (21, .pointer (some ⟨b10, o11 + (N + k % m) * 1, none⟩)), (22, .slice (some ⟨b15, o16, none⟩) 1 cu), (23, Vi 1), (24, Vi (i : Int)), (25, .bool (decide ((i : Int) < 1))), (26, .pointer (some ⟨b15, o16 + i * 1, none⟩)), (27, Vi ((N + (k + 1) % m : Nat) : Int)), (8, Vi ((N + (k + 1) % m : Nat) : Int)), (28, Vs b (N + m) (N + m)), (29, Vi ((N + (k + 1) % m : Nat) : Int)), (30, .pointer (some ⟨b, 0 + (N + (k + 1) % m) * 1, none⟩)), (31, Vi (ρ.getD (N + (k + 1) % m) 0)), (32, .bool (decide ((ρ.getD (N + (k + 1) % m) 0) < 0)))] [.row (.slice (sA v18) (sN v18) (sC v18)) 3 1 (natRows (cyL N k) ++ [[Vi ((N + k % m : Nat) : Int)]])] [(b, 0 + (N + (k + 1) % m) * 1, [Vi (ρ.getD (N + (k + 1) % m) 0)]), (b15, o16 + i * 1, [Vi ((N + (k + 1) % m : Nat) : Int)]), (b10, o11 + (N + k % m) * 1, [.slice (some ⟨b15, o16, none⟩) 1 cu]), (b5, 0, [Vi ((N + k % m : Nat) : Int)])]) (And.intro (by first | omega | (simp; omega)) (trivial)) trivial (fun _ => by kernel_rfl) ?_
    clear hJ a w; intro a w hJ
    refine x_true hJ (t := decide ((ρ.getD (N + (k + 1) % m) 0) < 0)) (by kernel_rfl) (decide_eq_true (by omega)) ?_
    refine rx hJ false 9 [] [] (.ok (.out (.exit 2)) [] [(0, .slice (some ⟨b10, o11, none⟩) (N + m) cn), (1, Vs b (N + m) (N + m)), (4, Vz), (11, v), (12, Vi ((N + k % m : Nat) : Int)), (13, .bool false), (14, .bool true), (15, v), (16, Vi ((N + k % m : Nat) : Int)), (17, Vs b5 1 1), (18, .slice (sA v18) (sN v18) (sC v18)), (6, .slice (sA v18) (sN v18) (sC v18)), (19, .slice (some ⟨b10, o11, none⟩) (N + m) cn), (20, Vi ((N + k % m : Nat) : Int)), (21, .pointer (some ⟨b10, o11 + (N + k % m) * 1, none⟩)), (22, .slice (some ⟨b15, o16, none⟩) 1 cu), (23, Vi 1), (24, Vi (i : Int)), (25, .bool (decide ((i : Int) < 1))), (26, .pointer (some ⟨b15, o16 + i * 1, none⟩)), (27, Vi ((N + (k + 1) % m : Nat) : Int)), (8, Vi ((N + (k + 1) % m : Nat) : Int)), (28, Vs b (N + m) (N + m)), (29, Vi ((N + (k + 1) % m : Nat) : Int)), (30, .pointer (some ⟨b, 0 + (N + (k + 1) % m) * 1, none⟩)), (31, Vi (ρ.getD (N + (k + 1) % m) 0)), (32, .bool (decide ((ρ.getD (N + (k + 1) % m) 0) < 0))), (33, Vi ((N + (k + 1) % m : Nat) : Int)), (5, Vi ((N + (k + 1) % m : Nat) : Int))] [.row (.slice (sA v18) (sN v18) (sC v18)) 3 1 (natRows (cyL N k) ++ [[Vi ((N + k % m : Nat) : Int)]])] [(b, 0 + (N + (k + 1) % m) * 1, [Vi (ρ.getD (N + (k + 1) % m) 0)]), (b15, o16 + i * 1, [Vi ((N + (k + 1) % m : Nat) : Int)]), (b10, o11 + (N + k % m) * 1, [.slice (some ⟨b15, o16, none⟩) 1 cu]), (b5, 0, [Vi ((N + k % m : Nat) : Int)])]) trivial trivial (fun _ => by kernel_rfl) ?_
    clear hJ a w; intro a w hJ
    refine x_leave rfl ?_
    refine rx hJ false 2 [] [] (.ok (.out .normal) [] [(0, .slice (some ⟨b10, o11, none⟩) (N + m) cn), (1, Vs b (N + m) (N + m)), (4, Vz), (11, v), (12, Vi ((N + k % m : Nat) : Int)), (13, .bool false), (14, .bool true), (15, v), (16, Vi ((N + k % m : Nat) : Int)), (17, Vs b5 1 1), (18, .slice (sA v18) (sN v18) (sC v18)), (6, .slice (sA v18) (sN v18) (sC v18)), (19, .slice (some ⟨b10, o11, none⟩) (N + m) cn), (20, Vi ((N + k % m : Nat) : Int)), (21, .pointer (some ⟨b10, o11 + (N + k % m) * 1, none⟩)), (22, .slice (some ⟨b15, o16, none⟩) 1 cu), (23, Vi 1), (24, Vi (i : Int)), (25, .bool (decide ((i : Int) < 1))), (26, .pointer (some ⟨b15, o16 + i * 1, none⟩)), (27, Vi ((N + (k + 1) % m : Nat) : Int)), (8, Vi ((N + (k + 1) % m : Nat) : Int)), (28, Vs b (N + m) (N + m)), (29, Vi ((N + (k + 1) % m : Nat) : Int)), (30, .pointer (some ⟨b, 0 + (N + (k + 1) % m) * 1, none⟩)), (31, Vi (ρ.getD (N + (k + 1) % m) 0)), (32, .bool (decide ((ρ.getD (N + (k + 1) % m) 0) < 0))), (33, Vi ((N + (k + 1) % m : Nat) : Int)), (5, Vi ((N + (k + 1) % m : Nat) : Int))] [.row (.slice (sA v18) (sN v18) (sC v18)) 3 1 (natRows (cyL N k) ++ [[Vi ((N + k % m : Nat) : Int)]])] [(b, 0 + (N + (k + 1) % m) * 1, [Vi (ρ.getD (N + (k + 1) % m) 0)]), (b15, o16 + i * 1, [Vi ((N + (k + 1) % m : Nat) : Int)]), (b10, o11 + (N + k % m) * 1, [.slice (some ⟨b15, o16, none⟩) 1 cu]), (b5, 0, [Vi ((N + k % m : Nat) : Int)])]) trivial trivial (fun _ => by kernel_rfl) ?_
    clear hJ a w; intro a w hJ
    exact x_round ⟨k + 1, ⟨h13, .slice (sA v18) (sN v18) (sC v18), (hJ.tof [] (F' := []) (by kernel_rfl)).to (by kernel_rfl) (by rw [cyL_succ, natRows_snoc, hkm]) rfl, (s2.trans (s4.trans (s7.trans (s9.trans s14)))), by omega⟩, by omega⟩
  · skip
    have hmm : N + m % m = N := by rw [Nat.mod_self, Nat.add_zero]
    have hc2 := fun H v q => hco m H v N q (by rw [cyL_len]; omega)
    rw [decide_eq_true (by rw [cyL_mem]; omega)] at hc2
    rw [hke, hmm] at hJ
    have hcm := cyL_len N m
    obtain ⟨Av, cv, hE_v, hc_v, hm_v⟩ := hJ.form (v := v) (e := 3) (k := 1) (l := natRows (cyL N m)) 0 (by kernel_rfl)
    rw [show (natRows (cyL N m)).length = m from by first | omega | (simp; done) | (simp; omega)] at hE_v hc_v
    rw [hE_v] at hJ
    refine x_callq hJ 13 (hc2 _ _ (hJ.j.rowQ (v := .slice Av m cv) (e := 3) (k := 1) (l := natRows (cyL N m)) 0 rfl)) (fun _ => by kernel_rfl) ?_; clear hJ a w; intro h19 a w s20 hJ
    refine rx hJ false 6 [] [] (.ok (.out (.exit 0)) [] [(0, .slice An (N + m) cn), (1, Vs b (N + m) (N + m)), (4, Vz), (5, Vi (N : Int)), (6, .slice Av m cv), (11, .slice Av m cv), (12, Vi (N : Int)), (13, .bool true), (14, .bool false)] [.row (.slice Av m cv) 3 1 (natRows (cyL N m))] []) trivial trivial (fun _ => by kernel_rfl) ?_
    clear hJ a w; intro a w hJ
    refine x_leave rfl ?_
    refine rx hJ false 7 [] [] (.ok (.ops [0, 1, 1, 1, 1] 3) [.seq [1, 1, 1, 1, 1]] [(4, Vz), (35, .slice Av m cv), (36, .slice Av m cv), (37, Vi (N : Int))] [.row (.slice Av m cv) 3 1 (natRows (cyL N m))] []) trivial trivial (fun _ => by kernel_rfl) ?_
    clear hJ a w; intro a w hJ
    refine x_callq hJ 38 (hix _ _ (hJ.j.rowQ (v := .slice Av m cv) (e := 3) (k := 1) (l := natRows (cyL N m)) 0 rfl)) (fun _ => by kernel_rfl) ?_; clear hJ a w; intro h21 a w s22 hJ
    obtain ⟨Ad, hAd⟩ : ∃ x, x = (if cv = 0 then Av else (Av : Option Addr).map (·.add (0 * 1))) := ⟨_, rfl⟩
    refine x_pure hJ 39 (.slice Ad (m - 0) (cv - 0)) (by kernel_rfl) (fun w => run_lo (t := 58) (e := 3) (x := (.tmp 35)) (y := (.tmp 38)) (A := Av) (A' := Ad) (n := m) (cap := cv) (k := 0) (kk := 1) (by kernel_rfl) (by kernel_rfl) (by kernel_rfl) (by omega) Try.underlying58 (by kernel_rfl) hAd) ?_; clear hJ a w; intro a w hJ
    refine rx hJ false 4 [] [] (.ok (.out .ret) [] [(4, .slice Ad (m - 0) (cv - 0))] [.row (.slice Av m cv) 3 1 (natRows (cyL N m))] []) trivial trivial (fun _ => by kernel_rfl) ?_
    clear hJ a w; intro a w hJ
    obtain ⟨h23, s24, fr, hJn⟩ := hJ.frozen (v := .slice Av m cv) (e := 3) (k := 1) (l := natRows (cyL N m)) 0 (by kernel_rfl) (hJ.j.rowOut0 (v := .slice Av m cv) (e := 3) (k := 1) (l := natRows (cyL N m)) 0 (by kernel_rfl) rfl); clear hJ; have hJ := hJn; clear hJn
    have fd := RS.drop fr 0 (Nat.zero_le _)
    rw [← hAd] at fd
    refine x_end (hQ [.slice Ad (m - 0) (cv - 0)] _ [] hJ (.rtmp hJ.j (by kernel_rfl) .nil) (no_own _) rfl ?_).1
    exact ⟨_, _, rfl, (fd.sees hJ.j.out)⟩

set_option maxHeartbeats 2000000 in
set_option maxRecDepth 100000 in
theorem rankOf_cyc (l : List RawD) (m : Nat) (m1 : 1 ≤ m) (m4 : m ≤ 4) (fv : Value) (h : Vw) (hfs : IsFds h fv (fsC l m)) :
    C0 Try.prog 42 #[fv] h (fun r h' => ∃ A c, r = .tuple #[.slice none 0 0, .slice A m c, .int .i64 10] ∧ RS h' 1 (.slice A m c) (strRows ((List.range m).map rname))) := by
  have hok := fsC_ok (l := l) m1 m4
  have hfl := fsC_len (l := l) (m := m)
  have hn := nFields_le l
  have hnl : (needsE (fsC l m)).length = (fsC l m).length := by unfold needsE; rw [List.length_map]
  have hck := fun H q => check_fields (fsC l m) fv H hok q
  have hne := fun H q => needs_any (fsC l m) fv H hok q
  obtain ⟨r1, r2⟩ := fsC_ranks l m m1 m4
  have hnew := fun j (hj : j < m) => need_new (l := l) m1 m4 hj
  have hb : ∀ l' ∈ needsE (fsC l m), l'.length ≤ 1000 ∧ ∀ k ∈ l', k < (needsE (fsC l m)).length := fun l' hl => by
    obtain ⟨i, hi⟩ := List.mem_iff_getElem?.1 hl
    have hil := (List.getElem?_eq_some_iff.1 hi).1
    have hg : (needsE (fsC l m)).getD i [] = l' := by rw [List.getD_eq_getElem?_getD, hi]; rfl
    constructor
    · obtain ⟨f, hf, rfl⟩ := List.mem_map.1 hl
      unfold needE
      split
      · simp
      · rename_i g
        obtain ⟨-, w2, -⟩ := (hok.each f hf).wf g
        have := Nat.le_trans (namesE_len f.src) (refs_le f.src)
        rw [List.length_map]; omega
    · intro k hk
      rw [← hg] at hk
      by_cases q : i < nFields l
      · rw [need_old m4 q] at hk
        have hn1 : (needsE (formE l).fields).length = nFields l := by unfold needsE; rw [List.length_map, form_len]
        have := (form_low l i (by omega) k hk).1
        omega
      · have e : i = nFields l + (i - nFields l) := by omega
        rw [e, hnew _ (by omega)] at hk
        have := Nat.mod_lt (i - nFields l + 1) (show 0 < m by omega)
        rw [List.mem_singleton.1 hk]; omega
  have hrk := fun A cap us H q1 q2 => ranks_any (needsE (fsC l m)) A cap us H q1 q2 (by omega) hb
  have hρl := ranks_len (needsE (fsC l m)) (nFields l + m)
  have hget := fun j (hj : j < m) => fsC_new (l := l) hj
  rw [hnl, hfl] at hrk hρl
  rw [hfl] at hne hnl
  have hfn : fidx (fun x : Int => decide (x < 0)) (ranksR (needsE (fsC l m)) (nFields l + m)) = nFields l := first_neg r1 (by have := r2 0 (by omega); rwa [Nat.add_zero] at this) (by omega)
  have hcf := fun b H q => cfN_any _ (nFields l) hfn (some ⟨b, 0, none⟩) (nFields l + m) H q (by omega)
  rw [hρl] at hcf
  have hcy := fun An cn b us H q1 q2 q3 => cycle_any (needsE (fsC l m)) _ (nFields l) m m1 m4 (by omega) hnl hρl hnew r1 r2 An cn b us H q1 q2 q3
  obtain ⟨vs, A, c, rfl, -, -, hr, hsrc, hvl, hsl⟩ := fds_open hfs
  rw [hfl] at *
  generalize needsE (fsC l m) = need at *
  generalize ranksR need (nFields l + m) = ρ at *
  generalize hL : nFields l = N at *
  have hcl := cyL_len N m
  refine x_con Try.func42 (c := Try.f42.body.getD .skip) (by kernel_rfl) (N := 42) rfl (by kernel_rfl) ?_
  intro hbx hbad Q hQ a w hJ
  replace hJ : K ⟨42, h.w, h.bad, []⟩ [(0, .slice A (N + m) c)] [] [] h a w := hJ.to (by kernel_rfl) (by kernel_rfl) rfl
  refine rx hJ false 27 [.cl 27 #[.slice A (N + m) c] (Vi 0)] [] (.ok (.ops [0, 1, 1] 1) [.seq [1, 1, 1]] [(0, .slice A (N + m) c), (2, Vz), (3, Vz), (4, Vi 0), (16, .slice A (N + m) c)] [] []) (And.intro (fun H sH => hck _ (hfs.sees sH)) (trivial)) trivial (fun _ => by kernel_rfl) ?_
  clear hJ a w; intro a w hJ
  refine x_call hJ 17 (hne _ (hfs.sees hJ.j.sees)) (fun _ => by kernel_rfl) ?_; clear hJ a w; rintro _ h1 a w s2 ⟨An, cn, us, rfl, hrn, hna⟩ hJ
  refine rx hJ false 6 [] [] (.ok (.ops [0, 1, 1, 1] 1) [.seq [1, 1, 1, 1]] [(0, .slice A (N + m) c), (2, Vz), (3, Vz), (4, Vi 0), (6, .slice An (N + m) cn), (18, .slice An (N + m) cn)] [] []) trivial trivial (fun _ => by kernel_rfl) ?_
  clear hJ a w; intro a w hJ
  refine x_call hJ 19 (hrk _ _ us _ (hrn.sees hJ.j.sees) (hna.sees hJ.j.sees)) (fun _ => by kernel_rfl) ?_; clear hJ a w; rintro _ h3 a w s4 ⟨b, rfl, hro⟩ hJ
  refine rx hJ false 7 [] [] (.ok (.ops [0, 0, 1, 1, 1, 1] 1) [.seq [1, 0, 1, 1, 1, 1], .seq [1, 1, 1, 1, 1]] [(0, .slice A (N + m) c), (2, Vz), (3, Vz), (4, Vi 0), (6, .slice An (N + m) cn), (7, Vs b (N + m) (N + m)), (20, Vs b (N + m) (N + m))] [] []) trivial trivial (fun _ => by kernel_rfl) ?_
  clear hJ a w; intro a w hJ
  refine rx hJ false 17 [.cl 78 #[Vs b (N + m) (N + m), .func (.func 79) #[] #[]] (.bool true)] [] (.ok (.ops [0, 0, 1, 1, 1, 1, 1, 1] 2) [.seq [1, 0, 1, 1, 1, 1, 1, 1], .seq [1, 1, 1, 1, 1, 1, 1]] [(0, .slice A (N + m) c), (2, Vz), (3, Vz), (4, Vi 0), (8, Vz), (24, .slice An (N + m) cn), (25, Vs b (N + m) (N + m))] [] []) (And.intro (fun H sH => hcf b _ (hro.sees sH)) (trivial)) trivial (fun _ => by kernel_rfl) ?_
  clear hJ a w; intro a w hJ
  refine x_call hJ 26 (hcy _ _ b us _ (hrn.sees (s4.trans hJ.j.sees)) (hna.sees (s4.trans hJ.j.sees)) (hro.sees hJ.j.sees)) (fun _ => by kernel_rfl) ?_; clear hJ a w; rintro _ h5 a w s6 ⟨Ac, cc, rfl, hrc⟩ hJ
  refine rx hJ false 5 [] [] (.ok (.code [0, 1, 0, 1, 1, 1, 1, 1, 1]) [.block 0, .seq [1, 1, 1, 1, 1, 1, 1]] [(0, .slice A (N + m) c), (2, Vz), (3, Vz), (4, Vi 0), (8, Vz), (26, .slice Ac m cc), (27, Vi (m : Int)), (28, Vi 0)] [] []) trivial trivial (fun _ => by kernel_rfl) ?_
  clear hJ a w; intro a w hJ
  replace hJ := hJ.nilrow 9 1
  refine x_loop (fun (k : Nat) a w => ∃ (h7 : Vw) (v : Value), K ⟨42, h.w, h.bad, []⟩ [(0, .slice A (N + m) c), (2, Vz), (3, Vz), (4, Vi 0), (26, .slice Ac m cc), (27, Vi (m : Int)), (28, Vi (k : Int)), (8, v)] [.row v 9 1 (strRows ((List.range k).map rname))] [] h7 a w ∧ Sees h5 h7 ∧ (k ≤ m)) (fun k => m - k) (0) (by kernel_rfl) ⟨h5, (Vz), hJ.to (by kernel_rfl) (by kernel_rfl) rfl, Sees.refl _, Nat.zero_le _⟩ ?_
  clear hJ a w; rintro k a w ⟨h7, v, hJ, s8, hk⟩
  refine rx hJ false 6 [] [] (.ok (.code [0, 1, 0, 0, 1, 0, 1, 1, 1, 1, 1, 1]) [.seq [1, 1, 0, 0, 1, 0, 1, 1, 1, 1, 1, 1]] [(0, .slice A (N + m) c), (2, Vz), (3, Vz), (4, Vi 0), (26, .slice Ac m cc), (27, Vi (m : Int)), (28, Vi (k : Int)), (8, v), (29, .bool (decide ((k : Int) < (m : Int))))] [.row v 9 1 (strRows ((List.range k).map rname))] []) trivial trivial (fun _ => by kernel_rfl) ?_
  clear hJ a w; intro a w hJ
  rcases (by omega : k < m ∨ k = m) with hlt | hke
  · have hx := hget k hlt
    obtain ⟨u, hu⟩ : ∃ u, vs[N + k]? = some u := ⟨_, List.getElem?_eq_getElem (by omega)⟩
    have hrow := fdRows_get hx hu
    have hxa := AllArgs.get hsrc (x := (ringF m k).src) (by rw [List.getElem?_map, hx]; rfl) hu
    obtain ⟨Au, nu, cu, rfl⟩ := hxa.slice
    have hcr : (natRows (cyL N m))[k]? = some [.int .i64 ((N + k : Nat) : Int)] := by
      unfold cyL
      rw [List.getElem?_map, List.getElem?_map, List.getElem?_range hlt]; rfl
    refine x_true hJ (t := decide ((k : Int) < (m : Int))) (by kernel_rfl) (decide_eq_true (by omega)) ?_
    refine rx hJ false 6 [] [] (.ok (.ops [0, 0, 0, 1, 1, 0, 0, 1, 0, 1, 1, 1, 1, 1, 1] 0) [.seq [1, 0, 0, 1, 1, 0, 0, 1, 0, 1, 1, 1, 1, 1, 1], .block 1, .seq [1, 1, 1, 0, 0, 1, 0, 1, 1, 1, 1, 1, 1]] [(0, .slice A (N + m) c), (2, Vz), (3, Vz), (4, Vi 0), (26, .slice Ac m cc), (27, Vi (m : Int)), (28, Vi (k : Int)), (8, v), (29, .bool (decide ((k : Int) < (m : Int))))] [.row v 9 1 (strRows ((List.range k).map rname))] []) trivial trivial (fun _ => by kernel_rfl) ?_
    clear hJ a w; intro a w hJ
    obtain ⟨b9, o10, rfl, -, c11⟩ := RS.row hrc (hcr)
    replace hJ := hJ.fact (c11.sees s8)
    refine rx hJ false 9 [.ix b9 o10 m cc k, .f 0 0] [] (.ok (.ops [1, 0, 0, 1, 1, 0, 0, 1, 0, 1, 1, 1, 1, 1, 1] 3) [.block 1, .seq [1, 1, 1, 0, 0, 1, 0, 1, 1, 1, 1, 1, 1]] [(0, .slice A (N + m) c), (2, Vz), (3, Vz), (4, Vi 0), (26, .slice (some ⟨b9, o10, none⟩) m cc), (27, Vi (m : Int)), (28, Vi (k : Int)), (8, v), (29, .bool (decide ((k : Int) < (m : Int)))), (30, .pointer (some ⟨b9, o10 + k * 1, none⟩)), (31, Vi ((N + k : Nat) : Int)), (10, Vi ((N + k : Nat) : Int)), (32, v), (33, .slice A (N + m) c), (34, Vi ((N + k : Nat) : Int))] [.row v 9 1 (strRows ((List.range k).map rname))] [(b9, o10 + k * 1, [Vi ((N + k : Nat) : Int)])]) (And.intro (by first | omega | (simp; omega)) (trivial)) trivial (fun _ => by kernel_rfl) ?_
    clear hJ a w; intro a w hJ
    obtain ⟨b12, o13, rfl, -, c14⟩ := RS.row hr (hrow)
    replace hJ := hJ.fact (c14.sees (s2.trans (s4.trans (s6.trans s8))))
    refine rx hJ true 4 [.ix b12 o13 (N + m) c (N + k), .f 0 0, .fix] [] (.new fun b15 => .ok (.ops [1, 0, 0, 1, 1, 0, 0, 1, 0, 1, 1, 1, 1, 1, 1] 7) [.block 1, .seq [1, 1, 1, 0, 0, 1, 0, 1, 1, 1, 1, 1, 1]] [(0, .slice (some ⟨b12, o13, none⟩) (N + m) c), (2, Vz), (3, Vz), (4, Vi 0), (26, .slice (some ⟨b9, o10, none⟩) m cc), (27, Vi (m : Int)), (28, Vi (k : Int)), (8, v), (29, .bool (decide ((k : Int) < (m : Int)))), (30, .pointer (some ⟨b9, o10 + k * 1, none⟩)), (31, Vi ((N + k : Nat) : Int)), (10, Vi ((N + k : Nat) : Int)), (32, v), (33, .slice (some ⟨b12, o13, none⟩) (N + m) c), (34, Vi ((N + k : Nat) : Int)), (35, .pointer (some ⟨b12, o13 + (N + k) * 9, none⟩)), (36, .pointer (some ⟨b12, o13 + (N + k) * 9, none⟩)), (37, .string (rname k)), (38, Vs b15 1 1)] [.row v 9 1 (strRows ((List.range k).map rname))] [(b15, 0, [.string (rname k)]), (b12, o13 + (N + k) * 9, [.string (rname k), Vi 2, Vi 1, Vi 2, Vi 0, Vi 0, Ve, .string (rname ((k + 1) % m)), .slice Au nu cu]), (b9, o10 + k * 1, [Vi ((N + k : Nat) : Int)])]) (And.intro (by first | omega | (simp; omega)) (trivial)) trivial (fun b15 _ => by kernel_rfl) ?_
    clear hJ a w; intro b15 h16 a w s17 hJ
    refine rx hJ true 9 [.ap 0 0 (strRows ((List.range k).map rname)) [[.string (rname k)]]] [(40, Vi (IntKind.i64.wrap ((k : Int) + 1)), Vi ((k : Int) + 1))] (.nv fun v39 => .ok (.out .normal) [] [(0, .slice (some ⟨b12, o13, none⟩) (N + m) c), (2, Vz), (3, Vz), (4, Vi 0), (26, .slice (some ⟨b9, o10, none⟩) m cc), (27, Vi (m : Int)), (29, .bool (decide ((k : Int) < (m : Int)))), (30, .pointer (some ⟨b9, o10 + k * 1, none⟩)), (31, Vi ((N + k : Nat) : Int)), (10, Vi ((N + k : Nat) : Int)), (32, v), (33, .slice (some ⟨b12, o13, none⟩) (N + m) c), (34, Vi ((N + k : Nat) : Int)), (35, .pointer (some ⟨b12, o13 + (N + k) * 9, none⟩)), (36, .pointer (some ⟨b12, o13 + (N + k) * 9, none⟩)), (37, .string (rname k)), (38, Vs b15 1 1), (39, .slice (sA v39) (sN v39) (sC v39)), (8, .slice (sA v39) (sN v39) (sC v39)), (40, Vi ((k : Int) + 1)), (28, Vi ((k : Int) + 1))] [.row (.slice (sA v39) (sN v39) (sC v39)) 9 1 ((strRows ((List.range k).map rname)) ++ [[.string (rname k)]])] [(b15, 0, [.string (rname k)]), (b12, o13 + (N + k) * 9, [.string (rname k), Vi 2, Vi 1, Vi 2, Vi 0, Vi 0, Ve, .string (rname ((k + 1) % m)), .slice Au nu cu]), (b9, o10 + k * 1, [Vi ((N + k : Nat) : Int)])]) (And.intro (by constructor <;> (simp; omega)) (trivial)) (And.intro (i64_wrap (by omega) (by omega)) (trivial)) (fun v39 _ => by kernel_rfl) ?_
    clear hJ a w; intro v39 h18 a w s19 hJ
    exact x_round ⟨k + 1, ⟨h18, .slice (sA v39) (sN v39) (sC v39), (hJ.tof [] (F' := []) (by kernel_rfl)).to (by kernel_rfl) (by rw [List.range_succ, List.map_append]; simp [strRows]) rfl, (s8.trans (s17.trans s19)), by omega⟩, by omega⟩
  · skip
    rw [hke] at hJ
    obtain ⟨Av, cv, hE_v, hc_v, hm_v⟩ := hJ.form (v := v) (e := 9) (k := 1) (l := strRows ((List.range m).map rname)) 0 (by kernel_rfl)
    rw [show (strRows ((List.range m).map rname)).length = m from by first | omega | (simp; done) | (simp; omega)] at hE_v hc_v
    rw [hE_v] at hJ
    obtain ⟨h20, s21, fr, hJn⟩ := hJ.frozen (v := .slice Av m cv) (e := 9) (k := 1) (l := strRows ((List.range m).map rname)) 0 (by kernel_rfl) (hJ.j.rowOut0 (v := .slice Av m cv) (e := 9) (k := 1) (l := strRows ((List.range m).map rname)) 0 (by kernel_rfl) rfl); clear hJ; have hJ := hJn; clear hJn
    refine x_false hJ (t := decide ((m : Int) < (m : Int))) (by kernel_rfl) (decide_eq_false (by omega)) ?_
    refine rx hJ false 2 [] [] (.ok (.out (.exit 0)) [] [(0, .slice A (N + m) c), (2, Vz), (3, Vz), (4, Vi 0), (26, .slice Ac m cc), (27, Vi (m : Int)), (28, Vi (m : Int)), (8, .slice Av m cv), (29, .bool (decide ((m : Int) < (m : Int))))] [] []) trivial trivial (fun _ => by kernel_rfl) ?_
    clear hJ a w; intro a w hJ
    refine x_leave rfl ?_
    refine rx hJ false 11 [] [] (.ok (.out .ret) [] [(2, Vz), (3, .slice Av m cv), (4, Vi 10)] [] []) trivial trivial (fun _ => by kernel_rfl) ?_
    clear hJ a w; intro a w hJ
    refine x_end (hQ [Vz, .slice Av m cv, Vi 10] _ [] hJ (.rtmp hJ.j (by kernel_rfl) (.rtmp hJ.j (by kernel_rfl) (.rtmp hJ.j (by kernel_rfl) .nil))) (no_own _) rfl ?_).1
    exact ⟨Av, cv, rfl, (fr.sees hJ.j.out)⟩

end Go.Proofs.Ytgjndkphfabnnaa
