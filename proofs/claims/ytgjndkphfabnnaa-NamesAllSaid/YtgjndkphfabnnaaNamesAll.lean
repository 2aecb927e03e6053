/-
  For all raw things and kinds NamesAll returns true: Of returns exactly the names for which Has is true. No condition.
-/
import Derived.Test.YtgjndkphfabnnaaNmO
import Derived.Test.YtgjndkphfabnnaaNmH
import Derived.Test.YtgjndkphfabnnaaStrC
import Derived.Test.YtgjndkphfabnnaaEqB
import Derived.Test.YtgjndkphfabnnaaLawX
import Derived.Test.YtgjndkphfabnnaaFind
namespace Go.Proofs.Ytgjndkphfabnnaa
open Go.RowKit
set_option linter.unusedVariables false

theorem nan_any (s : ByteArray) (h : Vw) : C0 Try.prog 95 #[.string s] h (fun r _ => r = .bool false) := by
  refine x_con Try.func95 (c := Try.f95.body.getD .skip) (by kernel_rfl) (N := 6) rfl (by kernel_rfl) ?_
  intro hbx hbad Q hQ a w hJ
  replace hJ : K ⟨6, h.w, h.bad, []⟩ [(0, .string s)] [] [] h a w := hJ.to (by kernel_rfl) (by kernel_rfl) rfl
  refine rx hJ false 14 [] [(5, .bool (s.toList != s.toList), .bool false)] (.ok (.out .ret) [] [(2, .bool false)] [] []) trivial (And.intro (congrArg Value.bool (by simp)) (trivial)) (fun _ => by kernel_rfl) ?_
  clear hJ a w; intro a w hJ
  refine x_end (hQ [.bool false] _ [] hJ (.rtmp hJ.j (by kernel_rfl) .nil) (no_own _) rfl ?_).1
  exact rfl
theorem less_any (s u : ByteArray) (h : Vw) : C0 Try.prog 53 #[.string s, .string u] h (fun r _ => r = .bool (Op.bytesLess s.toList u.toList)) := by
  refine x_con Try.func53 (c := Try.f53.body.getD .skip) (by kernel_rfl) (N := 17) rfl (by kernel_rfl) ?_
  intro hbx hbad Q hQ a w hJ
  replace hJ : K ⟨17, h.w, h.bad, []⟩ [(0, .string s), (1, .string u)] [] [] h a w := hJ.to (by kernel_rfl) (by kernel_rfl) rfl
  refine rx hJ false 17 [.cl 95 #[.string s] (.bool false)] [] (.ok (.ops [0, 1] 10) [.seq [1, 1]] [(4, .bool false), (12, .bool false), (13, .string s), (14, .string u)] [] []) (And.intro (fun H sH => nan_any s _) (trivial)) trivial (fun _ => by kernel_rfl) ?_
  clear hJ a w; intro a w hJ
  refine x_pure hJ 15 (.bool (Op.bytesLess s.toList u.toList)) (by kernel_rfl) (fun w => by kernel_rfl) ?_; clear hJ a w; intro a w hJ
  refine rx hJ false 5 [] [] (.ok (.out .ret) [] [(4, .bool (Op.bytesLess s.toList u.toList))] [] []) trivial trivial (fun _ => by kernel_rfl) ?_
  clear hJ a w; intro a w hJ
  refine x_end (hQ [.bool (Op.bytesLess s.toList u.toList)] _ [] hJ (.rtmp hJ.j (by kernel_rfl) .nil) (no_own _) rfl ?_).1
  exact rfl

/-- Names that rise. -/
def RiseS (l : List ByteArray) : Prop := ∀ (i : Nat) (a b : ByteArray), l[i]? = some a → l[i + 1]? = some b → Op.bytesLess b.toList a.toList = false ∧ a ≠ b

set_option maxRecDepth 100000 in
theorem isSorted_any (l : List ByteArray) (v : Value) (h : Vw) (hr : RS h 1 v (strRows l)) (hl : l.length ≤ 1000000) (hs : RiseS l) : C0 Try.prog 20 #[v] h (fun r _ => r = .bool true) := by
  obtain ⟨A, cap, rfl, -, -, -⟩ := hr.form
  rw [List.length_map] at *
  generalize hL : l.length = len at *
  refine x_con Try.func20 (c := Try.f20.body.getD .skip) (by kernel_rfl) (N := 21) rfl (by kernel_rfl) ?_
  intro hbx hbad Q hQ a w hJ
  replace hJ : K ⟨21, h.w, h.bad, []⟩ [(0, .slice A len cap)] [] [] h a w := hJ.to (by kernel_rfl) (by kernel_rfl) rfl
  refine rx hJ false 15 [] [(6, .int .i64 (IntKind.i64.wrap ((len : Int) - 1)), .int .i64 ((len : Int) - 1))] (.ok (.code [0, 1, 0, 1]) [.block 0, .seq [1, 1]] [(0, .slice A len cap), (2, .bool false), (3, .int .i64 ((len : Int) - 1))] [] []) trivial (And.intro (i64_wrap (by omega) (by omega)) (trivial)) (fun _ => by kernel_rfl) ?_
  clear hJ a w; intro a w hJ
  replace hJ := hJ.rew 3 (v := .int .i64 ((len : Int) - 1)) (v' := .int .i64 ((len : Int) - 1 - ((0 : Nat) : Int))) (congrArg (Value.int .i64) (by omega)) (by kernel_rfl)
  replace hJ : K ⟨21, h.w, h.bad, []⟩ [(0, .slice A len cap), (2, .bool false), (3, .int .i64 ((len : Int) - 1 - ((0 : Nat) : Int)))] [] [] h a w := hJ.to (by kernel_rfl) rfl rfl
  refine x_loop (fun (k : Nat) a w => ∃ (h1 : Vw) , K ⟨21, h.w, h.bad, []⟩ [(0, .slice A len cap), (3, .int .i64 ((len : Int) - 1 - (k : Int)))] [] [] h1 a w ∧ Sees h h1 ∧ (k ≤ len)) (fun k => len - k) (0) (by kernel_rfl) ⟨h, hJ.to (by kernel_rfl) (by kernel_rfl) rfl, Sees.refl _, Nat.zero_le _⟩ ?_
  clear hJ a w; rintro k a w ⟨h1, hJ, s2, hk⟩
  refine rx hJ false 7 [] [] (.ok (.code [1, 0, 0, 0, 1, 0, 1]) [.seq [1, 0, 0, 1, 0, 1]] [(0, .slice A len cap), (3, .int .i64 ((len : Int) - 1 - (k : Int))), (7, .int .i64 ((len : Int) - 1 - (k : Int))), (8, .bool (decide (((len : Int) - 1 - (k : Int)) > 0)))] [] []) trivial trivial (fun _ => by kernel_rfl) ?_
  clear hJ a w; intro a w hJ
  rcases (by omega : k + 1 < len ∨ len ≤ k + 1) with hlt | hke
  · obtain ⟨i, hi⟩ : ∃ i : Nat, (len : Int) - 1 - (k : Int) = ((i + 1 : Nat) : Int) := ⟨len - 2 - k, by omega⟩
    obtain ⟨sa, ha⟩ : ∃ sa, l[i]? = some sa := ⟨_, List.getElem?_eq_getElem (by omega)⟩
    obtain ⟨sb, hb⟩ : ∃ sb, l[i + 1]? = some sb := ⟨_, List.getElem?_eq_getElem (by omega)⟩
    have hra := str_row ha
    have hrb := str_row hb
    have hle := fun H => less_any sb sa H
    rw [(hs i sa sb ha hb).1] at hle
    replace hJ := hJ.rew 3 (v := .int .i64 ((len : Int) - 1 - (k : Int))) (v' := .int .i64 ((i + 1 : Nat) : Int)) (congrArg (Value.int .i64) hi) (by kernel_rfl)
    replace hJ : K ⟨21, h.w, h.bad, []⟩ [(0, .slice A len cap), (7, .int .i64 ((len : Int) - 1 - (k : Int))), (8, .bool (decide (((len : Int) - 1 - (k : Int)) > 0))), (3, .int .i64 ((i + 1 : Nat) : Int))] [] [] h1 a w := hJ.to (by kernel_rfl) rfl rfl
    refine x_true hJ (t := decide (((len : Int) - 1 - (k : Int)) > 0)) (by kernel_rfl) (decide_eq_true (by omega)) ?_
    refine rx hJ false 5 [] [] (.ok (.code [0, 0, 0, 1, 0, 0, 1, 0, 1]) [.seq [1, 0, 0, 1, 0, 0, 1, 0, 1], .block 1, .seq [1, 1, 0, 0, 1, 0, 1]] [(0, .slice A len cap), (7, .int .i64 ((len : Int) - 1 - (k : Int))), (8, .bool (decide (((len : Int) - 1 - (k : Int)) > 0))), (3, .int .i64 ((i + 1 : Nat) : Int))] [] []) trivial trivial (fun _ => by kernel_rfl) ?_
    clear hJ a w; intro a w hJ
    obtain ⟨b3, o4, rfl, -, c5⟩ := RS.row hr (hrb)
    replace hJ := hJ.fact (c5.sees s2)
    have c6 := RS.cell hr (hra)
    replace hJ := hJ.fact (c6.sees s2)
    let R : Reg := ⟨⟨21, h.w, h.bad, []⟩, [(0, 11, fun gh => .slice (some ⟨b3, o4, none⟩) len cap), (1, 12, fun gh => .int .i64 ((i + 1 : Nat) : Int)), (2, 13, fun gh => .pointer (some ⟨b3, o4 + (i + 1) * 1, none⟩)), (3, 14, fun gh => .string sb), (4, 15, fun gh => .slice (some ⟨b3, o4, none⟩) len cap), (5, 16, fun gh => .int .i64 ((i + 1 : Nat) : Int)), (6, 17, fun gh => .int .i64 (i : Int)), (7, 18, fun gh => .pointer (some ⟨b3, o4 + i * 1, none⟩)), (8, 19, fun gh => .string sa), (9, 20, fun gh => .bool false)], [(0, .slice (some ⟨b3, o4, none⟩) len cap), (7, .int .i64 ((len : Int) - 1 - (k : Int))), (8, .bool (decide (((len : Int) - 1 - (k : Int)) > 0))), (3, .int .i64 ((i + 1 : Nat) : Int))], [], [], [[], [], [0, 1], [0, 1, 2], [], [], [5], [4, 5, 6], [4, 5, 6, 7], [0, 1, 2, 3, 4, 5, 6, 7, 8]], h1⟩
    have hmono : ∀ zq ∈ R.F, ∀ zx zh zi, Sees zh zi → zq.2 zx zh → zq.2 zx zi := mono_nil
    refine x_region (by kernel_rfl) R hJ 10 [.pu, .pu, .cl, .lf 1 0, .pu, .pu, .cl, .cl, .lf 0 0, .cl] (by kernel_rfl) hmono (fun _ _ _ => by kernel_rfl) (fun hT hA => ?_) ?_
    · clear hJ
      refine And.intro (r_pure hT hA 13 (fun gh => .pointer (some ⟨b3, o4 + (i + 1) * 1, none⟩)) [0, 1] 2 (by kernel_rfl) (by kernel_rfl) (by kernel_rfl) (fun _ => by kernel_rfl) (fun gh w => run_indexAddr (t := 32) (x := (.tmp 11)) (y := (.tmp 12)) (b := b3) (off := o4) (n := len) (cap := cap) (k := (i + 1)) (e := 9) (kk := 1) (by kernel_rfl) (by kernel_rfl) (by kernel_rfl) (by first | omega | (simp; omega)) Try.underlying32 (by kernel_rfl))) ?_
      refine And.intro (r_pure hT hA 17 (fun gh => .int .i64 (i : Int)) [5] 6 (by kernel_rfl) (by kernel_rfl) (by kernel_rfl) (fun _ => by kernel_rfl) (fun gh w => run_eq (v0 := .int .i64 (IntKind.i64.wrap (((i + 1 : Nat) : Int) - 1))) (by kernel_rfl) ((by rw [show ((i + 1 : Nat) : Int) - 1 = (i : Int) by omega]; exact i64_wrap (by omega) (by omega))))) ?_
      refine And.intro (r_pure hT hA 18 (fun gh => .pointer (some ⟨b3, o4 + i * 1, none⟩)) [4, 6] 7 (by kernel_rfl) (by kernel_rfl) (by kernel_rfl) (fun _ => by kernel_rfl) (fun gh w => run_indexAddr (t := 32) (x := (.tmp 15)) (y := (.tmp 17)) (b := b3) (off := o4) (n := len) (cap := cap) (k := i) (e := 9) (kk := 1) (by kernel_rfl) (by kernel_rfl) (by kernel_rfl) (by first | omega | (simp; omega)) Try.underlying32 (by kernel_rfl))) ?_
      refine And.intro (r_callv hT hA hmono 20 (fun gh => .bool false) [3, 8] 9 (by kernel_rfl) (by kernel_rfl) (by kernel_rfl) (fun _ => by kernel_rfl) 53 (fun gh => #[.string sb, .string sa]) (fun _ _ => by kernel_rfl) (fun gh H sH fH lent => hle _)) ?_
      trivial
    clear hJ a w; intro gh h7 a w sR hJ1 hF; have s8 : Sees h1 h7 := sR; clear sR
    have hJ : K ⟨21, h.w, h.bad, []⟩ [(0, .slice (some ⟨b3, o4, none⟩) len cap), (7, .int .i64 ((len : Int) - 1 - (k : Int))), (8, .bool (decide (((len : Int) - 1 - (k : Int)) > 0))), (3, .int .i64 ((i + 1 : Nat) : Int)), (11, .slice (some ⟨b3, o4, none⟩) len cap), (12, .int .i64 ((i + 1 : Nat) : Int)), (13, .pointer (some ⟨b3, o4 + (i + 1) * 1, none⟩)), (14, .string sb), (15, .slice (some ⟨b3, o4, none⟩) len cap), (16, .int .i64 ((i + 1 : Nat) : Int)), (17, .int .i64 (i : Int)), (18, .pointer (some ⟨b3, o4 + i * 1, none⟩)), (19, .string sa), (20, .bool false)] [] [(b3, o4 + i * 1, [.string sa]), (b3, o4 + (i + 1) * 1, [.string sb])] h7 a w := hJ1.to (by kernel_rfl) (by kernel_rfl) rfl
    clear hJ1 hF hmono R
    clear gh
    refine rx hJ false 10 [] [(10, .int .i64 (IntKind.i64.wrap (((i + 1 : Nat) : Int) - 1)), .int .i64 ((len : Int) - 1 - ((k + 1 : Nat) : Int)))] (.ok (.out .normal) [] [(0, .slice (some ⟨b3, o4, none⟩) len cap), (7, .int .i64 ((len : Int) - 1 - (k : Int))), (8, .bool (decide (((len : Int) - 1 - (k : Int)) > 0))), (11, .slice (some ⟨b3, o4, none⟩) len cap), (12, .int .i64 ((i + 1 : Nat) : Int)), (13, .pointer (some ⟨b3, o4 + (i + 1) * 1, none⟩)), (14, .string sb), (15, .slice (some ⟨b3, o4, none⟩) len cap), (16, .int .i64 ((i + 1 : Nat) : Int)), (17, .int .i64 (i : Int)), (18, .pointer (some ⟨b3, o4 + i * 1, none⟩)), (19, .string sa), (20, .bool false), (9, .int .i64 ((i + 1 : Nat) : Int)), (10, .int .i64 ((len : Int) - 1 - ((k + 1 : Nat) : Int))), (3, .int .i64 ((len : Int) - 1 - ((k + 1 : Nat) : Int)))] [] [(b3, o4 + i * 1, [.string sa]), (b3, o4 + (i + 1) * 1, [.string sb])]) trivial (And.intro ((by rw [show ((i + 1 : Nat) : Int) - 1 = (len : Int) - 1 - ((k + 1 : Nat) : Int) by omega]; exact i64_wrap (by omega) (by omega))) (trivial)) (fun _ => by kernel_rfl) ?_
    clear hJ a w; intro a w hJ
    exact x_round ⟨k + 1, ⟨h7, (hJ.tof [] (F' := []) (by kernel_rfl)).to (by kernel_rfl) (by kernel_rfl) rfl, (s2.trans s8), by omega⟩, by omega⟩
  · skip
    refine x_false hJ (t := decide (((len : Int) - 1 - (k : Int)) > 0)) (by kernel_rfl) (decide_eq_false (by omega)) ?_
    refine rx hJ false 2 [] [] (.ok (.out (.exit 0)) [] [(0, .slice A len cap), (3, .int .i64 ((len : Int) - 1 - (k : Int))), (7, .int .i64 ((len : Int) - 1 - (k : Int))), (8, .bool (decide (((len : Int) - 1 - (k : Int)) > 0)))] [] []) trivial trivial (fun _ => by kernel_rfl) ?_
    clear hJ a w; intro a w hJ
    refine x_leave rfl ?_
    refine rx hJ false 8 [] [] (.ok (.out .ret) [] [(2, .bool true)] [] []) trivial trivial (fun _ => by kernel_rfl) ?_
    clear hJ a w; intro a w hJ
    refine x_end (hQ [.bool true] _ [] hJ (.rtmp hJ.j (by kernel_rfl) .nil) (no_own _) rfl ?_).1
    exact rfl

set_option maxRecDepth 100000 in
theorem compact_any (l : List ByteArray) (A : Option Addr) (cap : Nat) (h : Vw) (hr : RS h 1 (.slice A l.length cap) (strRows l)) (hl : l.length ≤ 1000000) (hs : RiseS l) : C0 Try.prog 21 #[.slice A l.length cap] h (fun r _ => r = .slice A l.length cap) := by
  generalize hL : l.length = len at *
  refine x_con Try.func21 (c := Try.f21.body.getD .skip) (by kernel_rfl) (N := 61) rfl (by kernel_rfl) ?_
  intro hbx hbad Q hQ a w hJ
  replace hJ : K ⟨61, h.w, h.bad, []⟩ [(0, .slice A len cap)] [] [] h a w := hJ.to (by kernel_rfl) (by kernel_rfl) rfl
  refine rx hJ false 13 [] [] (.ok (.code [1, 0, 1]) [.seq [1, 1]] [(0, .slice A len cap), (2, .slice none 0 0), (8, .bool (decide ((len : Int) < 2)))] [] []) trivial trivial (fun _ => by kernel_rfl) ?_
  clear hJ a w; intro a w hJ
  by_cases h2 : len < 2
  · refine x_true hJ (t := decide ((len : Int) < 2)) (by kernel_rfl) (decide_eq_true (by omega)) ?_
    refine rx hJ false 8 [] [] (.ok (.out .ret) [] [(2, .slice A len cap)] [] []) trivial trivial (fun _ => by kernel_rfl) ?_
    clear hJ a w; intro a w hJ
    refine x_end (hQ [.slice A len cap] _ [] hJ (.rtmp hJ.j (by kernel_rfl) .nil) (no_own _) rfl ?_).1
    exact rfl
  · skip
    refine x_false hJ (t := decide ((len : Int) < 2)) (by kernel_rfl) (decide_eq_false (by omega)) ?_
    refine rx hJ false 9 [] [] (.ok (.code [0, 1, 0, 1, 1]) [.block 0, .seq [1, 1, 1]] [(0, .slice A len cap), (2, .slice none 0 0), (3, .int .i64 1)] [] []) trivial trivial (fun _ => by kernel_rfl) ?_
    clear hJ a w; intro a w hJ
    refine x_loop (fun (k : Nat) a w => ∃ (h1 : Vw) , K ⟨61, h.w, h.bad, []⟩ [(0, .slice A len cap), (3, .int .i64 ((k + 1 : Nat) : Int))] [] [] h1 a w ∧ Sees h h1 ∧ (k + 1 ≤ len)) (fun k => len - k) (0) (by kernel_rfl) ⟨h, hJ.to (by kernel_rfl) (by kernel_rfl) rfl, Sees.refl _, by omega⟩ ?_
    clear hJ a w; rintro k a w ⟨h1, hJ, s2, hk⟩
    refine rx hJ false 9 [] [] (.ok (.code [1, 0, 0, 0, 1, 0, 1, 1]) [.seq [1, 0, 0, 1, 0, 1, 1]] [(0, .slice A len cap), (3, .int .i64 ((k + 1 : Nat) : Int)), (10, .int .i64 ((k + 1 : Nat) : Int)), (11, .slice A len cap), (12, .int .i64 (len : Int)), (13, .bool (decide (((k + 1 : Nat) : Int) < (len : Int))))] [] []) trivial trivial (fun _ => by kernel_rfl) ?_
    clear hJ a w; intro a w hJ
    rcases (by omega : k + 1 < len ∨ len ≤ k + 1) with hlt | hke
    · obtain ⟨sa, ha⟩ : ∃ sa, l[k]? = some sa := ⟨_, List.getElem?_eq_getElem (by omega)⟩
      obtain ⟨sb, hb⟩ : ∃ sb, l[k + 1]? = some sb := ⟨_, List.getElem?_eq_getElem (by omega)⟩
      have hra := str_row ha
      have hrb := str_row hb
      have hne := (hs k sa sb ha hb).2
      refine x_true hJ (t := decide (((k + 1 : Nat) : Int) < (len : Int))) (by kernel_rfl) (decide_eq_true (by omega)) ?_
      refine rx hJ false 5 [] [] (.ok (.code [0, 0, 0, 1, 0, 0, 1, 0, 1, 1]) [.seq [1, 0, 0, 1, 0, 0, 1, 0, 1, 1], .block 1, .seq [1, 1, 0, 0, 1, 0, 1, 1]] [(0, .slice A len cap), (3, .int .i64 ((k + 1 : Nat) : Int)), (10, .int .i64 ((k + 1 : Nat) : Int)), (11, .slice A len cap), (12, .int .i64 (len : Int)), (13, .bool (decide (((k + 1 : Nat) : Int) < (len : Int))))] [] []) trivial trivial (fun _ => by kernel_rfl) ?_
      clear hJ a w; intro a w hJ
      obtain ⟨b3, o4, rfl, -, c5⟩ := RS.row hr (hrb)
      replace hJ := hJ.fact (c5.sees s2)
      have c6 := RS.cell hr (hra)
      replace hJ := hJ.fact (c6.sees s2)
      let R : Reg := ⟨⟨61, h.w, h.bad, []⟩, [(0, 16, fun gh => .slice (some ⟨b3, o4, none⟩) len cap), (1, 17, fun gh => .int .i64 ((k + 1 : Nat) : Int)), (2, 18, fun gh => .pointer (some ⟨b3, o4 + (k + 1) * 1, none⟩)), (3, 19, fun gh => .string sb), (4, 20, fun gh => .slice (some ⟨b3, o4, none⟩) len cap), (5, 21, fun gh => .int .i64 ((k + 1 : Nat) : Int)), (6, 22, fun gh => .int .i64 (k : Int)), (7, 23, fun gh => .pointer (some ⟨b3, o4 + k * 1, none⟩)), (8, 24, fun gh => .string sa), (9, 25, fun gh => .bool (sb.toList == sa.toList))], [(0, .slice (some ⟨b3, o4, none⟩) len cap), (3, .int .i64 ((k + 1 : Nat) : Int)), (10, .int .i64 ((k + 1 : Nat) : Int)), (11, .slice (some ⟨b3, o4, none⟩) len cap), (12, .int .i64 (len : Int)), (13, .bool (decide (((k + 1 : Nat) : Int) < (len : Int))))], [], [], [[], [], [0, 1], [0, 1, 2], [], [], [5], [4, 5, 6], [4, 5, 6, 7], [0, 1, 2, 3, 4, 5, 6, 7, 8]], h1⟩
      have hmono : ∀ zq ∈ R.F, ∀ zx zh zi, Sees zh zi → zq.2 zx zh → zq.2 zx zi := mono_nil
      refine x_region (by kernel_rfl) R hJ 10 [.pu, .pu, .cl, .lf 1 0, .pu, .pu, .cl, .cl, .lf 0 0, .pu] (by kernel_rfl) hmono (fun _ _ _ => by kernel_rfl) (fun hT hA => ?_) ?_
      · clear hJ
        refine And.intro (r_pure hT hA 18 (fun gh => .pointer (some ⟨b3, o4 + (k + 1) * 1, none⟩)) [0, 1] 2 (by kernel_rfl) (by kernel_rfl) (by kernel_rfl) (fun _ => by kernel_rfl) (fun gh w => run_indexAddr (t := 32) (x := (.tmp 16)) (y := (.tmp 17)) (b := b3) (off := o4) (n := len) (cap := cap) (k := (k + 1)) (e := 9) (kk := 1) (by kernel_rfl) (by kernel_rfl) (by kernel_rfl) (by first | omega | (simp; omega)) Try.underlying32 (by kernel_rfl))) ?_
        refine And.intro (r_pure hT hA 22 (fun gh => .int .i64 (k : Int)) [5] 6 (by kernel_rfl) (by kernel_rfl) (by kernel_rfl) (fun _ => by kernel_rfl) (fun gh w => run_eq (v0 := .int .i64 (IntKind.i64.wrap (((k + 1 : Nat) : Int) - 1))) (by kernel_rfl) ((by rw [show ((k + 1 : Nat) : Int) - 1 = (k : Int) by omega]; exact i64_wrap (by omega) (by omega))))) ?_
        refine And.intro (r_pure hT hA 23 (fun gh => .pointer (some ⟨b3, o4 + k * 1, none⟩)) [4, 6] 7 (by kernel_rfl) (by kernel_rfl) (by kernel_rfl) (fun _ => by kernel_rfl) (fun gh w => run_indexAddr (t := 32) (x := (.tmp 20)) (y := (.tmp 22)) (b := b3) (off := o4) (n := len) (cap := cap) (k := k) (e := 9) (kk := 1) (by kernel_rfl) (by kernel_rfl) (by kernel_rfl) (by first | omega | (simp; omega)) Try.underlying32 (by kernel_rfl))) ?_
        trivial
      clear hJ a w; intro gh h7 a w sR hJ1 hF; have s8 : Sees h1 h7 := sR; clear sR
      have hJ : K ⟨61, h.w, h.bad, []⟩ [(0, .slice (some ⟨b3, o4, none⟩) len cap), (3, .int .i64 ((k + 1 : Nat) : Int)), (10, .int .i64 ((k + 1 : Nat) : Int)), (11, .slice (some ⟨b3, o4, none⟩) len cap), (12, .int .i64 (len : Int)), (13, .bool (decide (((k + 1 : Nat) : Int) < (len : Int)))), (16, .slice (some ⟨b3, o4, none⟩) len cap), (17, .int .i64 ((k + 1 : Nat) : Int)), (18, .pointer (some ⟨b3, o4 + (k + 1) * 1, none⟩)), (19, .string sb), (20, .slice (some ⟨b3, o4, none⟩) len cap), (21, .int .i64 ((k + 1 : Nat) : Int)), (22, .int .i64 (k : Int)), (23, .pointer (some ⟨b3, o4 + k * 1, none⟩)), (24, .string sa), (25, .bool (sb.toList == sa.toList))] [] [(b3, o4 + k * 1, [.string sa]), (b3, o4 + (k + 1) * 1, [.string sb])] h7 a w := hJ1.to (by kernel_rfl) (by kernel_rfl) rfl
      clear hJ1 hF hmono R
      clear gh
      refine rx hJ false 1 [] [] (.ok (.code [1, 0, 0, 1, 0, 0, 1, 0, 1, 1]) [.block 1, .seq [1, 1, 0, 0, 1, 0, 1, 1]] [(0, .slice (some ⟨b3, o4, none⟩) len cap), (3, .int .i64 ((k + 1 : Nat) : Int)), (10, .int .i64 ((k + 1 : Nat) : Int)), (11, .slice (some ⟨b3, o4, none⟩) len cap), (12, .int .i64 (len : Int)), (13, .bool (decide (((k + 1 : Nat) : Int) < (len : Int)))), (16, .slice (some ⟨b3, o4, none⟩) len cap), (17, .int .i64 ((k + 1 : Nat) : Int)), (18, .pointer (some ⟨b3, o4 + (k + 1) * 1, none⟩)), (19, .string sb), (20, .slice (some ⟨b3, o4, none⟩) len cap), (21, .int .i64 ((k + 1 : Nat) : Int)), (22, .int .i64 (k : Int)), (23, .pointer (some ⟨b3, o4 + k * 1, none⟩)), (24, .string sa), (25, .bool (sb.toList == sa.toList))] [] [(b3, o4 + k * 1, [.string sa]), (b3, o4 + (k + 1) * 1, [.string sb])]) trivial trivial (fun _ => by kernel_rfl) ?_
      clear hJ a w; intro a w hJ
      refine x_false hJ (t := sb.toList == sa.toList) (by kernel_rfl) (tl_no (fun e => hne e.symm)) ?_
      refine rx hJ false 8 [] [(15, .int .i64 (IntKind.i64.wrap (((k + 1 : Nat) : Int) + 1)), .int .i64 ((k + 1 + 1 : Nat) : Int))] (.ok (.out .normal) [] [(0, .slice (some ⟨b3, o4, none⟩) len cap), (10, .int .i64 ((k + 1 : Nat) : Int)), (11, .slice (some ⟨b3, o4, none⟩) len cap), (12, .int .i64 (len : Int)), (13, .bool (decide (((k + 1 : Nat) : Int) < (len : Int)))), (16, .slice (some ⟨b3, o4, none⟩) len cap), (17, .int .i64 ((k + 1 : Nat) : Int)), (18, .pointer (some ⟨b3, o4 + (k + 1) * 1, none⟩)), (19, .string sb), (20, .slice (some ⟨b3, o4, none⟩) len cap), (21, .int .i64 ((k + 1 : Nat) : Int)), (22, .int .i64 (k : Int)), (23, .pointer (some ⟨b3, o4 + k * 1, none⟩)), (24, .string sa), (25, .bool (sb.toList == sa.toList)), (14, .int .i64 ((k + 1 : Nat) : Int)), (15, .int .i64 ((k + 1 + 1 : Nat) : Int)), (3, .int .i64 ((k + 1 + 1 : Nat) : Int))] [] [(b3, o4 + k * 1, [.string sa]), (b3, o4 + (k + 1) * 1, [.string sb])]) trivial (And.intro ((by rw [show ((k + 1 : Nat) : Int) + 1 = ((k + 1 + 1 : Nat) : Int) by omega]; exact i64_wrap (by omega) (by omega))) (trivial)) (fun _ => by kernel_rfl) ?_
      clear hJ a w; intro a w hJ
      exact x_round ⟨k + 1, ⟨h7, (hJ.tof [] (F' := []) (by kernel_rfl)).to (by kernel_rfl) (by kernel_rfl) rfl, (s2.trans s8), by omega⟩, by omega⟩
    · skip
      refine x_false hJ (t := decide (((k + 1 : Nat) : Int) < (len : Int))) (by kernel_rfl) (decide_eq_false (by omega)) ?_
      refine rx hJ false 2 [] [] (.ok (.out (.exit 0)) [] [(0, .slice A len cap), (3, .int .i64 ((k + 1 : Nat) : Int)), (10, .int .i64 ((k + 1 : Nat) : Int)), (11, .slice A len cap), (12, .int .i64 (len : Int)), (13, .bool (decide (((k + 1 : Nat) : Int) < (len : Int))))] [] []) trivial trivial (fun _ => by kernel_rfl) ?_
      clear hJ a w; intro a w hJ
      refine x_leave rfl ?_
      refine rx hJ false 9 [] [] (.ok (.out .ret) [] [(2, .slice A len cap)] [] []) trivial trivial (fun _ => by kernel_rfl) ?_
      clear hJ a w; intro a w hJ
      refine x_end (hQ [.slice A len cap] _ [] hJ (.rtmp hJ.j (by kernel_rfl) .nil) (no_own _) rfl ?_).1
      exact rfl

theorem names_rise (x : Ex) : RiseS (namesE x) := by
  intro i a b ha hb
  have hp : (namesB x).Pairwise (fun p q => decide (p ≤ q) = true) := by
    refine List.pairwise_mergeSort (fun a b c h1 h2 => ?_) (fun a b => ?_) _
    · simp only [decide_eq_true_eq] at *; exact List.le_trans h1 h2
    · simp only [Bool.or_eq_true, decide_eq_true_eq]; exact List.le_total a b
  have hil := (List.getElem?_eq_some_iff.1 hb).1
  have hlen : (namesE x).length = (namesB x).length := List.length_map _
  obtain ⟨p, hp1⟩ : ∃ p, (namesB x)[i]? = some p := ⟨_, List.getElem?_eq_getElem (by omega)⟩
  obtain ⟨q, hq1⟩ : ∃ q, (namesB x)[i + 1]? = some q := ⟨_, List.getElem?_eq_getElem (by omega)⟩
  have ea : a = ⟨p.toArray⟩ := by unfold namesE at ha; rw [List.getElem?_map, hp1] at ha; simpa using ha.symm
  have eb : b = ⟨q.toArray⟩ := by unfold namesE at hb; rw [List.getElem?_map, hq1] at hb; simpa using hb.symm
  have hle : p ≤ q := by
    obtain ⟨h1, e1⟩ := List.getElem?_eq_some_iff.1 hp1
    obtain ⟨h2, e2⟩ := List.getElem?_eq_some_iff.1 hq1
    have := List.pairwise_iff_getElem.1 hp i (i + 1) h1 h2 (by omega)
    rw [e1, e2] at this
    exact of_decide_eq_true this
  refine ⟨?_, fun e => ?_⟩
  · rw [Go.Proofs.bytesLess_eq, decide_eq_false_iff_not, ea, eb, ByteArray.toList_eq, ByteArray.toList_eq]
    simpa using hle
  · have := (List.getElem?_inj (i := i) (j := i + 1) (by omega) (namesE_nodup x)).1 (by rw [ha, hb, e])
    omega

set_option maxHeartbeats 4000000 in
set_option maxRecDepth 100000 in
theorem namesAll_c (l : List RawD) (sl : Value) (kd : Int) (h : Vw) (hl : RS h 4 sl (l.map RawD.cs)) (ll : l.length * 40 ≤ reachBytes) (ol : ∀ r ∈ l, r.ok) (k0 : -9223372036854775808 ≤ kd) (k1 : kd ≤ 9223372036854775807) :
    C0 Try.prog 3 #[sl, .int .i64 kd] h (fun v _ => v = .bool true) := by
  have hp := pick_range kd 3 (by omega)
  have hpk := c_picked kd 3
  have hE := fun H v q g => expr_any l some5 ll ol (by decide) v g (1 + pickL kd 3) H q
  obtain ⟨xw, x1, x2⟩ := genE_ok l some5 some5_ok 3 (1 + pickL kd 3) 0 (by omega) (by omega)
  generalize (genE l some5 3 (1 + pickL kd 3) 0).1 = x at *
  generalize pickL kd 3 = q at *
  have x1 : (szE x).1 ≤ 40 := x1
  have cx : chkE x = 0 := by unfold chkE; rw [if_neg (by omega), if_neg (by omega)]
  obtain ⟨rw', rs'⟩ := wf_ref (s := ⟨#[97]⟩) ⟨by decide, by decide, ⟨_, rfl, by decide⟩, by decide, by decide⟩
  have cr : chkE (refE ⟨#[97]⟩) = 0 := by unfold chkE; rw [rs']; rfl
  have hn1 : namesE (refE ⟨#[97]⟩) = [⟨#[97]⟩] := by
    have hm : ∀ s, s ∈ namesE (refE ⟨#[97]⟩) ↔ s = ⟨#[97]⟩ := fun s => by rw [mem_namesE, refs_ref, List.mem_singleton]
    have hnd := namesE_nodup (refE ⟨#[97]⟩)
    match hq : namesE (refE ⟨#[97]⟩), hm, hnd with
    | [], hm, _ => exact absurd ((hm _).2 rfl) (by simp)
    | [y], hm, _ => rw [(hm y).1 (by simp)]
    | y :: z :: r, hm, hnd =>
      have e1 := (hm y).1 (by simp)
      have e2 := (hm z).1 (by simp)
      subst e1 e2
      exact ((List.nodup_cons.1 hnd).1 (by simp)).elim
  have hO := fun H v g => of_any x v H g xw (by omega) cx
  have hO1 := fun H g => of_any (refE ⟨#[97]⟩) (.slice none 0 0) H g rw' (by rw [rs']; decide) cr
  rw [hn1] at hO1
  have hlen : (namesE x).length ≤ 1000000 := by have := namesE_len x; have := refs_len x; omega
  have hri := names_rise x
  have hH := fun H v g s => has_any x v H g xw s
  have hHc : ∀ s, hasE x s = memS (namesE x) s := fun s => by rw [Bool.eq_iff_iff, hasE_iff, memS_iff, mem_namesE]
  generalize namesE x = ns at *
  obtain ⟨A0, c0, rfl, -, -, -⟩ := hl.form
  rw [List.length_map] at *
  refine x_con Try.func3 (c := Try.f3.body.getD .skip) (by kernel_rfl) (N := 70) rfl (by kernel_rfl) ?_
  intro hbx hbad Q hQ a w hJ
  replace hJ : K ⟨70, h.w, h.bad, []⟩ [(0, .slice A0 l.length c0), (1, .int .i64 kd)] [] [] h a w := hJ.to (by kernel_rfl) (by kernel_rfl) rfl
  refine rx hJ false 11 [.cl 16 #[.int .i64 kd, .int .i64 3] (.int .i64 q)] [(15, .int .i64 (IntKind.i64.wrap (1 + q)), .int .i64 (1 + q))] (.ok (.ops [0, 1] 4) [.seq [1, 1]] [(4, .bool false), (12, .slice A0 l.length c0), (15, .int .i64 (1 + q))] [] []) (And.intro (fun H sH => hpk _ k0 k1 (by omega) (by omega)) (trivial)) (And.intro (i64_wrap (by omega) (by omega)) (trivial)) (fun _ => by kernel_rfl) ?_
  clear hJ a w; intro a w hJ
  refine x_call hJ 16 (some_any _) (fun _ => by kernel_rfl) ?_; clear hJ a w; rintro _ h1 a w s2 ⟨hfs, b, rfl⟩ hJ
  refine x_call hJ 17 (hE _ _ (hl.sees (s2.trans hJ.j.sees)) _ (hfs.sees hJ.j.sees) (by omega) (by omega)) (fun _ => by kernel_rfl) ?_; clear hJ a w; rintro _ h3 a w s4 ⟨u, rfl, hx⟩ hJ
  refine rx hJ false 7 [.own, .b 0 0, .b 0 0] [] (.new fun b5 => .ok (.ops [0, 1, 1] 1) [.seq [1, 1, 1]] [(4, .bool false), (5, .pointer (some ⟨b5, 0, none⟩)), (19, .agg #[.int .i64 x.op, .int .i64 x.k, .int .i64 x.n, .string x.s, .string x.nm, .slice (sA u) (sN u) (sC u)])] [.box b5 [.int .i64 x.op, .int .i64 x.k, .int .i64 x.n, .string x.s, .string x.nm, .slice (sA u) (sN u) (sC u)]] []) trivial trivial (fun b5 _ => by kernel_rfl) ?_
  clear hJ a w; intro b5 a w hJ
  refine x_call hJ 20 (hO _ _ (hx.sees hJ.j.sees)) (fun _ => by kernel_rfl) ?_; clear hJ a w; rintro _ h6 a w s7 ⟨An, cn, rfl, hns⟩ hJ
  refine rx hJ false 10 [] [] (.ok (.ops [0, 1, 1, 1] 1) [.seq [1, 1, 1, 1]] [(4, .bool false), (5, .pointer (some ⟨b5, 0, none⟩)), (6, .slice An ns.length cn), (7, .int .i64 0), (24, .agg #[.int .i64 2, .int .i64 0, .int .i64 0, .string ⟨#[]⟩, .string ⟨#[97]⟩, .slice none 0 0])] [.box b5 [.int .i64 x.op, .int .i64 x.k, .int .i64 x.n, .string x.s, .string x.nm, .slice (sA u) (sN u) (sC u)]] []) trivial trivial (fun _ => by kernel_rfl) ?_
  clear hJ a w; intro a w hJ
  refine x_call hJ 25 (hO1 _ (args_nil _ _ rfl)) (fun _ => by kernel_rfl) ?_; clear hJ a w; rintro _ h8 a w s9 ⟨Ao, co, rfl, hno⟩ hJ
  refine rx hJ true 19 [.fix] [] (.new fun bone => .ok (.ops [0, 0, 1, 1, 1, 1] 9) [.seq [1, 0, 1, 1, 1, 1], .seq [1, 1, 1, 1, 1]] [(4, .bool false), (5, .pointer (some ⟨b5, 0, none⟩)), (6, .slice An ns.length cn), (34, .bool false), (35, .slice Ao 1 co), (36, .slice (some ⟨bone, 0, none⟩) 1 1)] [.box b5 [.int .i64 x.op, .int .i64 x.k, .int .i64 x.n, .string x.s, .string x.nm, .slice (sA u) (sN u) (sC u)]] [(bone, 0, [.string ⟨#[97]⟩])]) trivial trivial (fun bone _ => by kernel_rfl) ?_
  clear hJ a w; intro bone h10 a w s11 hJ
  have one : Cells h10 bone 0 [.string ⟨#[97]⟩] := hJ.f _ (List.mem_of_getElem? (i := 0) rfl)
  have hone : ∀ (H : Vw) (b : Nat), Cells H b 0 [.string ⟨#[97]⟩] → RS H 1 (.slice (some ⟨b, 0, none⟩) 1 1) (strRows [⟨#[97]⟩]) := fun H b hc => rs_cells (k := 1) (strRows [⟨#[97]⟩]) (fun r hr => by rw [List.mem_singleton.1 hr]; rfl) (by decide) hc
  refine rx hJ false 10 [.cl 19 #[.slice Ao 1 co, .slice (some ⟨bone, 0, none⟩) 1 1] (.bool true), .cl 20 #[.slice An ns.length cn] (.bool true)] [] (.ok (.ops [0, 0, 1, 1, 1, 1] 19) [.seq [1, 0, 1, 1, 1, 1], .seq [1, 1, 1, 1, 1]] [(4, .bool false), (5, .pointer (some ⟨b5, 0, none⟩)), (6, .slice An ns.length cn), (45, .bool false), (46, .slice An ns.length cn)] [.box b5 [.int .i64 x.op, .int .i64 x.k, .int .i64 x.n, .string x.s, .string x.nm, .slice (sA u) (sN u) (sC u)]] [(bone, 0, [.string ⟨#[97]⟩])]) (And.intro (fun H sH => eqS_any [⟨#[97]⟩] [⟨#[97]⟩] _ _ _ (hno.sees (s11.trans sH)) (hone _ _ (one.sees sH)) (by simp) (by simp)) (And.intro (fun H sH => isSorted_any ns _ _ (hns.sees (s9.trans (s11.trans sH))) hlen hri) (trivial))) trivial (fun _ => by kernel_rfl) ?_
  clear hJ a w; intro a w hJ
  refine x_callrow hJ 47 (c_cloneS (hns.sees (s9.trans (s11.trans hJ.j.sees))) hlen) (fun _ => by kernel_rfl) ?_; clear hJ a w; rintro v47 _ a w rfl hJ
  obtain ⟨Av, cv, hE_v47, hc_v47, hm_v47⟩ := hJ.form (v := v47) (e := 9) (k := 1) (l := strRows ns) 0 (by kernel_rfl)
  rw [show (strRows ns).length = ns.length from by first | omega | (simp; done) | (simp; omega)] at hE_v47 hc_v47
  rw [hE_v47] at hJ
  obtain ⟨h12, s13, fr, hJn⟩ := hJ.frozen (v := .slice Av ns.length cv) (e := 9) (k := 1) (l := strRows ns) 0 (by kernel_rfl) (hJ.j.rowOut0 (v := .slice Av ns.length cv) (e := 9) (k := 1) (l := strRows ns) 0 (by kernel_rfl) rfl); clear hJ; have hJ := hJn; clear hJn
  refine rx hJ false 8 [.cl 21 #[.slice Av ns.length cv] (.slice Av ns.length cv)] [] (.ok (.code [1, 0, 1, 1, 1, 1]) [.seq [1, 1, 1, 1, 1]] [(4, .bool false), (5, .pointer (some ⟨b5, 0, none⟩)), (6, .slice An ns.length cn), (53, .bool ((ns.length : Int) != (ns.length : Int)))] [.box b5 [.int .i64 x.op, .int .i64 x.k, .int .i64 x.n, .string x.s, .string x.nm, .slice (sA u) (sN u) (sC u)]] [(bone, 0, [.string ⟨#[97]⟩])]) (And.intro (fun H sH => compact_any ns _ _ _ (fr.sees sH) hlen hri) (trivial)) trivial (fun _ => by kernel_rfl) ?_
  clear hJ a w; intro a w hJ
  refine x_false hJ (t := (ns.length : Int) != (ns.length : Int)) (by kernel_rfl) ((by simp)) ?_
  refine rx hJ false 5 [] [] (.ok (.ops [0, 0, 1, 1, 1, 1, 1] 0) [.seq [1, 0, 1, 1, 1, 1, 1], .seq [1, 1, 1, 1, 1, 1]] [(4, .bool false), (5, .pointer (some ⟨b5, 0, none⟩)), (6, .slice An ns.length cn)] [.box b5 [.int .i64 x.op, .int .i64 x.k, .int .i64 x.n, .string x.s, .string x.nm, .slice (sA u) (sN u) (sC u)]] [(bone, 0, [.string ⟨#[97]⟩])]) trivial trivial (fun _ => by kernel_rfl) ?_
  clear hJ a w; intro a w hJ
  refine x_call hJ 54 (some_any _) (fun _ => by kernel_rfl) ?_; clear hJ a w; rintro _ h14 a w s15 ⟨hfs2, bS, rfl⟩ hJ
  refine rx hJ false 5 [] [] (.ok (.code [0, 1, 0, 1, 1, 1, 1, 1]) [.block 0, .seq [1, 1, 1, 1, 1, 1]] [(4, .bool false), (5, .pointer (some ⟨b5, 0, none⟩)), (6, .slice An ns.length cn), (54, .slice (some ⟨bS, 0, none⟩) 5 5), (55, .int .i64 5), (56, .int .i64 0)] [.box b5 [.int .i64 x.op, .int .i64 x.k, .int .i64 x.n, .string x.s, .string x.nm, .slice (sA u) (sN u) (sC u)]] [(bone, 0, [.string ⟨#[97]⟩])]) trivial trivial (fun _ => by kernel_rfl) ?_
  clear hJ a w; intro a w hJ
  obtain ⟨vs, A', c', e, -, -, hr, -, hvl, hsl⟩ := fds_open hfs2
  simp only [Value.slice.injEq] at e
  obtain ⟨rfl, -, rfl⟩ := e
  refine x_loop (fun (k : Nat) a w => ∃ (h16 : Vw) , K ⟨70, h.w, h.bad, []⟩ [(5, .pointer (some ⟨b5, 0, none⟩)), (6, .slice An ns.length cn), (54, .slice (some ⟨bS, 0, none⟩) 5 5), (55, .int .i64 5), (56, .int .i64 (k : Int))] [.box b5 [.int .i64 x.op, .int .i64 x.k, .int .i64 x.n, .string x.s, .string x.nm, .slice (sA u) (sN u) (sC u)]] [(bone, 0, [.string ⟨#[97]⟩])] h16 a w ∧ Sees h14 h16 ∧ (k ≤ 5)) (fun k => 5 - k) (0) (by kernel_rfl) ⟨h14, hJ.to (by kernel_rfl) (by kernel_rfl) rfl, Sees.refl _, Nat.zero_le _⟩ ?_
  clear hJ a w; rintro k a w ⟨h16, hJ, s17, hk⟩
  refine rx hJ false 6 [] [] (.ok (.code [0, 1, 0, 0, 1, 0, 1, 1, 1, 1, 1]) [.seq [1, 1, 0, 0, 1, 0, 1, 1, 1, 1, 1]] [(5, .pointer (some ⟨b5, 0, none⟩)), (6, .slice An ns.length cn), (54, .slice (some ⟨bS, 0, none⟩) 5 5), (55, .int .i64 5), (56, .int .i64 (k : Int)), (57, .bool (decide ((k : Int) < 5)))] [.box b5 [.int .i64 x.op, .int .i64 x.k, .int .i64 x.n, .string x.s, .string x.nm, .slice (sA u) (sN u) (sC u)]] [(bone, 0, [.string ⟨#[97]⟩])]) trivial trivial (fun _ => by kernel_rfl) ?_
  clear hJ a w; intro a w hJ
  rcases (by omega : k < 5 ∨ k = 5) with hlt | hke
  · have hs5 : some5.length = 5 := rfl
    obtain ⟨f, hfk⟩ : ∃ f, some5[k]? = some f := ⟨_, List.getElem?_eq_getElem (by omega)⟩
    obtain ⟨z, hzk⟩ : ∃ z, vs[k]? = some z := ⟨_, List.getElem?_eq_getElem (by omega)⟩
    have hrow : (fdRows some5 vs)[k]? = some (fdRow f (.slice (sA z) (sN z) (sC z))) := by rw [hsl z (List.mem_of_getElem? hzk)]; exact fdRows_get hfk hzk
    refine x_true hJ (t := decide ((k : Int) < 5)) (by kernel_rfl) (decide_eq_true (by omega)) ?_
    refine rx hJ false 6 [] [] (.ok (.ops [0, 0, 0, 1, 1, 0, 0, 1, 0, 1, 1, 1, 1, 1] 0) [.seq [1, 0, 0, 1, 1, 0, 0, 1, 0, 1, 1, 1, 1, 1], .block 1, .seq [1, 1, 1, 0, 0, 1, 0, 1, 1, 1, 1, 1]] [(5, .pointer (some ⟨b5, 0, none⟩)), (6, .slice An ns.length cn), (54, .slice (some ⟨bS, 0, none⟩) 5 5), (55, .int .i64 5), (56, .int .i64 (k : Int)), (57, .bool (decide ((k : Int) < 5)))] [.box b5 [.int .i64 x.op, .int .i64 x.k, .int .i64 x.n, .string x.s, .string x.nm, .slice (sA u) (sN u) (sC u)]] [(bone, 0, [.string ⟨#[97]⟩])]) trivial trivial (fun _ => by kernel_rfl) ?_
    clear hJ a w; intro a w hJ
    have c18 := RS.cell hr (hrow)
    replace hJ := hJ.fact (c18.sees s17)
    refine rx hJ false 7 [.ix bS 0 5 5 k, .f 0 0, .own, .b 0 0] [] (.new fun b19 => .ok (.code [0, 1, 0, 0, 1, 1, 0, 0, 1, 0, 1, 1, 1, 1, 1]) [.seq [1, 1, 0, 0, 1, 1, 0, 0, 1, 0, 1, 1, 1, 1, 1], .block 1, .seq [1, 1, 1, 0, 0, 1, 0, 1, 1, 1, 1, 1]] [(5, .pointer (some ⟨b5, 0, none⟩)), (6, .slice An ns.length cn), (54, .slice (some ⟨bS, 0, none⟩) 5 5), (55, .int .i64 5), (56, .int .i64 (k : Int)), (57, .bool (decide ((k : Int) < 5))), (58, .pointer (some ⟨bS, 0 + k * 9, none⟩)), (59, .agg #[.string f.name, .int .i64 f.kind, .int .i64 f.ty, .int .i64 f.src.op, .int .i64 f.src.k, .int .i64 f.src.n, .string f.src.s, .string f.src.nm, .slice (sA z) (sN z) (sC z)]), (11, .pointer (some ⟨b19, 0, none⟩))] [.box b19 [.string f.name, .int .i64 f.kind, .int .i64 f.ty, .int .i64 f.src.op, .int .i64 f.src.k, .int .i64 f.src.n, .string f.src.s, .string f.src.nm, .slice (sA z) (sN z) (sC z)], .box b5 [.int .i64 x.op, .int .i64 x.k, .int .i64 x.n, .string x.s, .string x.nm, .slice (sA u) (sN u) (sC u)]] [(bS, 0 + k * 9, [.string f.name, .int .i64 f.kind, .int .i64 f.ty, .int .i64 f.src.op, .int .i64 f.src.k, .int .i64 f.src.n, .string f.src.s, .string f.src.nm, .slice (sA z) (sN z) (sC z)]), (bone, 0, [.string ⟨#[97]⟩])]) (And.intro (by first | omega | (simp; omega)) (trivial)) trivial (fun b19 _ => by kernel_rfl) ?_
    clear hJ a w; intro b19 a w hJ
    let R : Reg := ⟨⟨70, h.w, h.bad, []⟩, [(0, 60, fun gh => .agg #[.int .i64 x.op, .int .i64 x.k, .int .i64 x.n, .string x.s, .string x.nm, .slice (sA u) (sN u) (sC u)]), (1, 61, fun gh => .pointer (some ⟨b19, 0, none⟩)), (2, 62, fun gh => .string f.name), (3, 63, fun gh => .bool (hasE x f.name)), (4, 64, fun gh => .slice An ns.length cn), (5, 65, fun gh => .pointer (some ⟨b19, 0, none⟩)), (6, 66, fun gh => .string f.name), (7, 67, fun gh => .bool (memS ns f.name)), (8, 68, fun gh => .bool ((hasE x f.name) != (memS ns f.name)))], [(5, .pointer (some ⟨b5, 0, none⟩)), (6, .slice An ns.length cn), (54, .slice (some ⟨bS, 0, none⟩) 5 5), (55, .int .i64 5), (56, .int .i64 (k : Int)), (57, .bool (decide ((k : Int) < 5))), (58, .pointer (some ⟨bS, 0 + k * 9, none⟩)), (59, .agg #[.string f.name, .int .i64 f.kind, .int .i64 f.ty, .int .i64 f.src.op, .int .i64 f.src.k, .int .i64 f.src.n, .string f.src.s, .string f.src.nm, .slice (sA z) (sN z) (sC z)]), (11, .pointer (some ⟨b19, 0, none⟩))], [⟨some (.box b19 [.string f.name, .int .i64 f.kind, .int .i64 f.ty, .int .i64 f.src.op, .int .i64 f.src.k, .int .i64 f.src.n, .string f.src.s, .string f.src.nm, .slice (sA z) (sN z) (sC z)]), []⟩, ⟨some (.box b5 [.int .i64 x.op, .int .i64 x.k, .int .i64 x.n, .string x.s, .string x.nm, .slice (sA u) (sN u) (sC u)]), []⟩], [], [[], [], [1], [0, 1, 2], [], [], [5], [0, 1, 2, 3, 4, 5, 6], [0, 1, 2, 3, 4, 5, 6, 7]], h16⟩
    have hmono : ∀ zq ∈ R.F, ∀ zx zh zi, Sees zh zi → zq.2 zx zh → zq.2 zx zi := mono_nil
    refine x_region (by kernel_rfl) R hJ 9 [.ld 1 0, .pu, .ld 0 0, .cl, .pu, .pu, .ld 0 0, .cl, .pu] (by kernel_rfl) hmono (fun _ _ _ => by kernel_rfl) (fun hT hA => ?_) ?_
    · clear hJ
      refine And.intro (r_callv hT hA hmono 63 (fun gh => .bool (hasE x f.name)) [0, 2] 3 (by kernel_rfl) (by kernel_rfl) (by kernel_rfl) (fun _ => by kernel_rfl) 23 (fun gh => #[.agg #[.int .i64 x.op, .int .i64 x.k, .int .i64 x.n, .string x.s, .string x.nm, .slice (sA u) (sN u) (sC u)], .string f.name]) (fun _ _ => by kernel_rfl) (fun gh H sH fH lent => hH _ _ (hx.sees (s7.trans (s9.trans (s11.trans (s13.trans (s15.trans (s17.trans sH))))))) f.name)) ?_
      refine And.intro (r_callv hT hA hmono 67 (fun gh => .bool (memS ns f.name)) [3, 4, 6] 7 (by kernel_rfl) (by kernel_rfl) (by kernel_rfl) (fun _ => by kernel_rfl) 24 (fun gh => #[.slice An ns.length cn, .string f.name]) (fun _ _ => by kernel_rfl) (fun gh H sH fH lent => contS_any ns _ f.name _ (hns.sees (s9.trans (s11.trans (s13.trans (s15.trans (s17.trans sH)))))) hlen)) ?_
      trivial
    clear hJ a w; intro gh h20 a w sR hJ1 hF; have s21 : Sees h16 h20 := sR; clear sR
    have hJ : K ⟨70, h.w, h.bad, []⟩ [(5, .pointer (some ⟨b5, 0, none⟩)), (6, .slice An ns.length cn), (54, .slice (some ⟨bS, 0, none⟩) 5 5), (55, .int .i64 5), (56, .int .i64 (k : Int)), (57, .bool (decide ((k : Int) < 5))), (58, .pointer (some ⟨bS, 0 + k * 9, none⟩)), (59, .agg #[.string f.name, .int .i64 f.kind, .int .i64 f.ty, .int .i64 f.src.op, .int .i64 f.src.k, .int .i64 f.src.n, .string f.src.s, .string f.src.nm, .slice (sA z) (sN z) (sC z)]), (11, .pointer (some ⟨b19, 0, none⟩)), (60, .agg #[.int .i64 x.op, .int .i64 x.k, .int .i64 x.n, .string x.s, .string x.nm, .slice (sA u) (sN u) (sC u)]), (61, .pointer (some ⟨b19, 0, none⟩)), (62, .string f.name), (63, .bool (hasE x f.name)), (64, .slice An ns.length cn), (65, .pointer (some ⟨b19, 0, none⟩)), (66, .string f.name), (67, .bool (memS ns f.name)), (68, .bool ((hasE x f.name) != (memS ns f.name)))] [.box b19 [.string f.name, .int .i64 f.kind, .int .i64 f.ty, .int .i64 f.src.op, .int .i64 f.src.k, .int .i64 f.src.n, .string f.src.s, .string f.src.nm, .slice (sA z) (sN z) (sC z)], .box b5 [.int .i64 x.op, .int .i64 x.k, .int .i64 x.n, .string x.s, .string x.nm, .slice (sA u) (sN u) (sC u)]] [(bS, 0 + k * 9, [.string f.name, .int .i64 f.kind, .int .i64 f.ty, .int .i64 f.src.op, .int .i64 f.src.k, .int .i64 f.src.n, .string f.src.s, .string f.src.nm, .slice (sA z) (sN z) (sC z)]), (bone, 0, [.string ⟨#[97]⟩])] h20 a w := hJ1.to (by kernel_rfl) (by kernel_rfl) rfl
    clear hJ1 hF hmono R
    clear gh
    refine rx hJ false 1 [] [] (.ok (.code [1, 1, 0, 0, 1, 1, 0, 0, 1, 0, 1, 1, 1, 1, 1]) [.block 1, .seq [1, 1, 1, 0, 0, 1, 0, 1, 1, 1, 1, 1]] [(5, .pointer (some ⟨b5, 0, none⟩)), (6, .slice An ns.length cn), (54, .slice (some ⟨bS, 0, none⟩) 5 5), (55, .int .i64 5), (56, .int .i64 (k : Int)), (57, .bool (decide ((k : Int) < 5))), (58, .pointer (some ⟨bS, 0 + k * 9, none⟩)), (59, .agg #[.string f.name, .int .i64 f.kind, .int .i64 f.ty, .int .i64 f.src.op, .int .i64 f.src.k, .int .i64 f.src.n, .string f.src.s, .string f.src.nm, .slice (sA z) (sN z) (sC z)]), (11, .pointer (some ⟨b19, 0, none⟩)), (60, .agg #[.int .i64 x.op, .int .i64 x.k, .int .i64 x.n, .string x.s, .string x.nm, .slice (sA u) (sN u) (sC u)]), (61, .pointer (some ⟨b19, 0, none⟩)), (62, .string f.name), (63, .bool (hasE x f.name)), (64, .slice An ns.length cn), (65, .pointer (some ⟨b19, 0, none⟩)), (66, .string f.name), (67, .bool (memS ns f.name)), (68, .bool ((hasE x f.name) != (memS ns f.name)))] [.box b19 [.string f.name, .int .i64 f.kind, .int .i64 f.ty, .int .i64 f.src.op, .int .i64 f.src.k, .int .i64 f.src.n, .string f.src.s, .string f.src.nm, .slice (sA z) (sN z) (sC z)], .box b5 [.int .i64 x.op, .int .i64 x.k, .int .i64 x.n, .string x.s, .string x.nm, .slice (sA u) (sN u) (sC u)]] [(bS, 0 + k * 9, [.string f.name, .int .i64 f.kind, .int .i64 f.ty, .int .i64 f.src.op, .int .i64 f.src.k, .int .i64 f.src.n, .string f.src.s, .string f.src.nm, .slice (sA z) (sN z) (sC z)]), (bone, 0, [.string ⟨#[97]⟩])]) trivial trivial (fun _ => by kernel_rfl) ?_
    clear hJ a w; intro a w hJ
    refine x_false hJ (t := (hasE x f.name) != (memS ns f.name)) (by kernel_rfl) ((by rw [hHc]; simp)) ?_
    refine rx hJ false 7 [] [(69, .int .i64 (IntKind.i64.wrap ((k : Int) + 1)), .int .i64 ((k : Int) + 1))] (.ok (.out .normal) [] [(5, .pointer (some ⟨b5, 0, none⟩)), (6, .slice An ns.length cn), (54, .slice (some ⟨bS, 0, none⟩) 5 5), (55, .int .i64 5), (57, .bool (decide ((k : Int) < 5))), (58, .pointer (some ⟨bS, 0 + k * 9, none⟩)), (59, .agg #[.string f.name, .int .i64 f.kind, .int .i64 f.ty, .int .i64 f.src.op, .int .i64 f.src.k, .int .i64 f.src.n, .string f.src.s, .string f.src.nm, .slice (sA z) (sN z) (sC z)]), (11, .pointer (some ⟨b19, 0, none⟩)), (60, .agg #[.int .i64 x.op, .int .i64 x.k, .int .i64 x.n, .string x.s, .string x.nm, .slice (sA u) (sN u) (sC u)]), (61, .pointer (some ⟨b19, 0, none⟩)), (62, .string f.name), (63, .bool (hasE x f.name)), (64, .slice An ns.length cn), (65, .pointer (some ⟨b19, 0, none⟩)), (66, .string f.name), (67, .bool (memS ns f.name)), (68, .bool ((hasE x f.name) != (memS ns f.name))), (69, .int .i64 ((k : Int) + 1)), (56, .int .i64 ((k : Int) + 1))] [.box b19 [.string f.name, .int .i64 f.kind, .int .i64 f.ty, .int .i64 f.src.op, .int .i64 f.src.k, .int .i64 f.src.n, .string f.src.s, .string f.src.nm, .slice (sA z) (sN z) (sC z)], .box b5 [.int .i64 x.op, .int .i64 x.k, .int .i64 x.n, .string x.s, .string x.nm, .slice (sA u) (sN u) (sC u)]] [(bS, 0 + k * 9, [.string f.name, .int .i64 f.kind, .int .i64 f.ty, .int .i64 f.src.op, .int .i64 f.src.k, .int .i64 f.src.n, .string f.src.s, .string f.src.nm, .slice (sA z) (sN z) (sC z)]), (bone, 0, [.string ⟨#[97]⟩])]) trivial (And.intro (i64_wrap (by omega) (by omega)) (trivial)) (fun _ => by kernel_rfl) ?_
    clear hJ a w; intro a w hJ
    replace hJ := hJ.drop 0
    exact x_round ⟨k + 1, ⟨h20, (hJ.tof [1] (F' := [(bone, 0, [.string ⟨#[97]⟩])]) (by kernel_rfl)).to (by kernel_rfl) (by kernel_rfl) rfl, (s17.trans s21), by omega⟩, by omega⟩
  · skip
    refine x_false hJ (t := decide ((k : Int) < 5)) (by kernel_rfl) (decide_eq_false (by omega)) ?_
    refine rx hJ false 2 [] [] (.ok (.out (.exit 0)) [] [(5, .pointer (some ⟨b5, 0, none⟩)), (6, .slice An ns.length cn), (54, .slice (some ⟨bS, 0, none⟩) 5 5), (55, .int .i64 5), (56, .int .i64 (k : Int)), (57, .bool (decide ((k : Int) < 5)))] [.box b5 [.int .i64 x.op, .int .i64 x.k, .int .i64 x.n, .string x.s, .string x.nm, .slice (sA u) (sN u) (sC u)]] [(bone, 0, [.string ⟨#[97]⟩])]) trivial trivial (fun _ => by kernel_rfl) ?_
    clear hJ a w; intro a w hJ
    refine x_leave rfl ?_
    refine rx hJ false 8 [] [] (.ok (.out .ret) [] [(4, .bool true)] [.box b5 [.int .i64 x.op, .int .i64 x.k, .int .i64 x.n, .string x.s, .string x.nm, .slice (sA u) (sN u) (sC u)]] [(bone, 0, [.string ⟨#[97]⟩])]) trivial trivial (fun _ => by kernel_rfl) ?_
    clear hJ a w; intro a w hJ
    refine x_end (hQ [.bool true] _ [] hJ (.rtmp hJ.j (by kernel_rfl) .nil) (no_own _) rfl ?_).1
    exact rfl

theorem namesAll_walk (v : Value) (l : List RawD) (kd : Int) (w : World) (h : RawsOf w v l) (k0 : -9223372036854775808 ≤ kd) (k1 : kd ≤ 9223372036854775807) :
    Calls Try.prog 3 #[v, .int .i64 kd] w fun e w' => e = .returned (.bool true) ∧ Below w.heap.size w w' :=
  C0.law (namesAll_c l v kd ⟨w, []⟩ h.rs h.2.1 h.2.2 k0 k1)

namespace namesAllLaw
open Go.ChangeShapes Go.WideShapes Go.ChangeAt Go.RowKit
open Go.ChangeMaps (open_string shut_string)
set_option linter.unusedVariables false

set_option maxRecDepth 100000 in
theorem lifted (os : Os) (started : os.Started) (H : Type) (enc : TypeId × Value → H) :
    ReturnsInHanded {} Try.checked os 3 .any (Rows.namesAllSpec.pre6 enc Try.prog Try.f3 Rows.namesAllRow.domain false) (Rows.namesAllSpec.post enc Try.prog Try.f3 false true false false) := by
  refine returnsInHanded_of_change_sized (C := Try.checked) ownNone started (by kernel_rfl) Try.func3
    (ChangeSpec.witness6 (enc := enc) (C := Try.checked) false ⟨#[], #[.slice none 0 0, .int .i64 0], []⟩ 8 (by kernel_rfl) (by kernel_rfl) (by kernel_rfl) (by kernel_rfl)) ?_
  intro W base args ds gs before hval0 hW hcnd hsz0 _
  have hval : ∀ (j : Nat) t v, Try.f3.params[j]? = some t → args[j]? = some v → Value.okWide Try.prog W .any base t v := hval0
  have hsz : (DataW.weightsEach Try.prog (Try.f3.params.toList ++ Rows.namesAllSpec.plain.varTypes Try.prog) (ds ++ gs)).all (· ≤ reachBytes) = true := hsz0
  have hW' := hW
  obtain ⟨p, q, hA0, hV, rfl, hfz, hnd⟩ := hW
  have hA : DataW.TrodAll enc Try.prog W 0 (fun _ => true) true Try.f3.params.toList args.toList ds p := hA0
  rw [Try.params3] at hA hval hsz
  obtain ⟨v0, vs0, d0, ds0, p0, q0, hargs, rfl, rfl, h0, r0⟩ := trodAll_cons hA
  obtain ⟨v1, vs1, d1, ds1, p1, q1, rfl, rfl, rfl, h1, r1⟩ := trodAll_cons r0
  obtain ⟨rfl, rfl, rfl⟩ := trodAll_nil r1
  obtain rfl : args = #[v0, v1] := by cases args; simp_all
  obtain ⟨rfl, rfl⟩ := trodVars_none hV
  have k0 := h0
  have lt0 : ∀ x ∈ p0, x.block < W.heap.size := by obtain ⟨m, hm⟩ := k0; exact DataW.trod_lt m _ _ _ hm
  obtain ⟨a0, w0⟩ := open_rows (hval 0 22 v0 rfl rfl) h0 (fun es ss hd => sized_slice hsz (j := 0) (t := 22) (elems := es) (spare := ss) rfl (by rw [hd]; rfl) Try.underlying22)
  have k1 := h1
  have lt1 : ∀ x ∈ p1, x.block < W.heap.size := by obtain ⟨m, hm⟩ := k1; exact DataW.trod_lt m _ _ _ hm
  obtain ⟨a1, rfl, -, -, w1⟩ := open_int Try.underlying3 (hval 1 3 v1 rfl rfl) h1
  clear hA0 hval0 hsz0
  refine (namesAll_walk v0 a0 a1 W w0 (int_lo w1) (int_hi w1)).mono fun e W' ⟨he, bel⟩ => ?_
  subst he
  exact ⟨_, rfl, _, _, _, [], _, [], hW', trodAll_mk1 (shut_bool Try.underlying4 _), (trodAll_cons_mk (Below.trod laidOutTrue (by kernel_rfl) (of_decide_eq_true (by kernel_rfl)) k0 bel lt0) (trodAll_cons_mk (Below.trod laidOutTrue (by kernel_rfl) (of_decide_eq_true (by kernel_rfl)) k1 bel lt1) trodAll_mk0)), rfl, bel.frame _, fun h => by cases h⟩

theorem over : Rows.namesAllRow.holds Try.pinned (OpenSpec.ofChange Rows.namesAllSpec) :=
  OpenClaim.holds_of_wide 3 Try.f3 rfl rfl rfl rfl rfl rfl rfl ⟨rfl, rfl, rfl, rfl, rfl⟩ rfl rfl rfl rfl rfl (by kernel_rfl) Try.func3 (by kernel_rfl)
    (of_decide_eq_true (by kernel_rfl)) (by unfold Func.isWrapper; first | (rw [if_pos (by decide +kernel)]; kernel_rfl) | (rw [if_neg (by decide +kernel)]; exact ⟨rfl, rfl⟩))
    (fun os started H enc _ => lifted os started H enc)

end namesAllLaw
theorem namesAll_holds : Rows.NamesAllSaid := namesAllLaw.over
#print axioms namesAll_holds
end Go.Proofs.Ytgjndkphfabnnaa
