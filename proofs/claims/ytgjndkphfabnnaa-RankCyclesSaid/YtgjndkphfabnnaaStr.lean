/-
  Contracts of package slices at []string. slices.Clone at []string.
-/
import Derived.Test.YtgjndkphfabnnaaRow
import Derived.Test.YtgjndkphfabnnaaEvo
import Derived.Test.YtgjndkphfabnnaaLaw
import Derived.Test.YtgjndkphfabnnaaGenB
import Derived.Test.YtgjndkphfabnnaaRowOps
import Derived.Lib.AppendZerosOnto
namespace Go.Proofs.Ytgjndkphfabnnaa
open Go.RowKit
set_option linter.unusedVariables false

theorem str_row {l : List ByteArray} {i : Nat} {s : ByteArray} (h : l[i]? = some s) : (strRows l)[i]? = some [.string s] := by rw [List.getElem?_map, h]; rfl
theorem str_len (l : List ByteArray) : Len 1 (strRows l) := fun r hr => by obtain ⟨x, -, rfl⟩ := List.mem_map.1 hr; rfl
theorem str_one (l : List ByteArray) : One (strRows l) := fun r hr u hu => by
  obtain ⟨x, -, rfl⟩ := List.mem_map.1 hr
  rw [List.mem_singleton.1 hu]; rfl

set_option maxRecDepth 100000 in
theorem idxS_any (l : List ByteArray) (v : Value) (s : ByteArray) (h : Vw) (hr : RS h 1 v (strRows l)) (hl : l.length ≤ 1000000) : C0 Try.prog 54 #[v, .string s] h (fun r _ => r = .int .i64 (fidx (fun y : ByteArray => s.toList == y.toList) l)) := by
  obtain ⟨A, cap, rfl, -, -, -⟩ := hr.form
  rw [List.length_map] at *
  generalize hL : l.length = len at *
  refine x_con Try.func54 (c := Try.f54.body.getD .skip) (by kernel_rfl) (N := 19) rfl (by kernel_rfl) ?_
  intro hbx hbad Q hQ a w hJ
  replace hJ : K ⟨19, h.w, h.bad, []⟩ [(0, .slice A len cap), (1, .string s)] [] [] h a w := hJ.to (by kernel_rfl) (by kernel_rfl) rfl
  refine rx hJ false 14 [] [] (.ok (.code [0, 1, 0, 1]) [.block 0, .seq [1, 1]] [(0, .slice A len cap), (1, .string s), (4, Vi 0), (7, Vi (len : Int)), (8, Vi 0)] [] []) trivial trivial (fun _ => by kernel_rfl) ?_
  clear hJ a w; intro a w hJ
  refine x_loop (fun (k : Nat) a w => ∃ (h1 : Vw) , K ⟨19, h.w, h.bad, []⟩ [(0, .slice A len cap), (1, .string s), (7, Vi (len : Int)), (8, Vi (k : Int))] [] [] h1 a w ∧ Sees h h1 ∧ (k ≤ len) ∧ (∀ y ∈ l.take k, (s.toList == y.toList) = false)) (fun k => len - k) (0) (by kernel_rfl) ⟨h, hJ.to (by kernel_rfl) (by kernel_rfl) rfl, Sees.refl _, Nat.zero_le _, fun y hy => by simp at hy⟩ ?_
  clear hJ a w; rintro k a w ⟨h1, hJ, s2, hk, hn⟩
  refine rx hJ false 6 [] [] (.ok (.code [0, 1, 0, 0, 1, 0, 1]) [.seq [1, 1, 0, 0, 1, 0, 1]] [(0, .slice A len cap), (1, .string s), (7, Vi (len : Int)), (8, Vi (k : Int)), (9, .bool (decide ((k : Int) < (len : Int))))] [] []) trivial trivial (fun _ => by kernel_rfl) ?_
  clear hJ a w; intro a w hJ
  rcases (by omega : k < len ∨ k = len) with hlt | hke
  · obtain ⟨f, hfk⟩ : ∃ f, l[k]? = some f := ⟨_, List.getElem?_eq_getElem (by omega)⟩
    have hrow := str_row hfk
    refine x_true hJ (t := decide ((k : Int) < (len : Int))) (by kernel_rfl) (decide_eq_true (by omega)) ?_
    refine rx hJ false 15 [] [] (.ok (.ops [0, 1, 0, 0, 1, 1, 0, 0, 1, 0, 1] 3) [.seq [1, 1, 0, 0, 1, 1, 0, 0, 1, 0, 1], .block 1, .seq [1, 1, 1, 0, 0, 1, 0, 1]] [(0, .slice A len cap), (1, .string s), (7, Vi (len : Int)), (8, Vi (k : Int)), (9, .bool (decide ((k : Int) < (len : Int)))), (10, Vi (k : Int)), (5, Vi (k : Int)), (11, .string s), (12, .slice A len cap), (13, Vi (k : Int))] [] []) trivial trivial (fun _ => by kernel_rfl) ?_
    clear hJ a w; intro a w hJ
    obtain ⟨b3, o4, rfl, -, c5⟩ := RS.row hr (hrow)
    replace hJ := hJ.fact (c5.sees s2)
    refine rx hJ false 5 [.ix b3 o4 len cap k, .f 0 0] [] (.ok (.code [1, 1, 0, 0, 1, 1, 0, 0, 1, 0, 1]) [.block 1, .seq [1, 1, 1, 0, 0, 1, 0, 1]] [(0, .slice (some ⟨b3, o4, none⟩) len cap), (1, .string s), (7, Vi (len : Int)), (8, Vi (k : Int)), (9, .bool (decide ((k : Int) < (len : Int)))), (10, Vi (k : Int)), (5, Vi (k : Int)), (11, .string s), (12, .slice (some ⟨b3, o4, none⟩) len cap), (13, Vi (k : Int)), (14, .pointer (some ⟨b3, o4 + k * 1, none⟩)), (15, .string f), (16, .bool (s.toList == f.toList))] [] [(b3, o4 + k * 1, [.string f])]) (And.intro (by first | omega | (simp; omega)) (trivial)) trivial (fun _ => by kernel_rfl) ?_
    clear hJ a w; intro a w hJ
    rcases Bool.eq_false_or_eq_true (s.toList == f.toList) with hq | hq
    · refine x_true hJ (t := s.toList == f.toList) (by kernel_rfl) (hq) ?_
      refine rx hJ false 9 [] [] (.ok (.out .ret) [] [(0, .slice (some ⟨b3, o4, none⟩) len cap), (1, .string s), (7, Vi (len : Int)), (8, Vi (k : Int)), (9, .bool (decide ((k : Int) < (len : Int)))), (10, Vi (k : Int)), (5, Vi (k : Int)), (11, .string s), (12, .slice (some ⟨b3, o4, none⟩) len cap), (13, Vi (k : Int)), (14, .pointer (some ⟨b3, o4 + k * 1, none⟩)), (15, .string f), (16, .bool (s.toList == f.toList)), (17, Vi (k : Int)), (4, Vi (k : Int))] [] [(b3, o4 + k * 1, [.string f])]) trivial trivial (fun _ => by kernel_rfl) ?_
      clear hJ a w; intro a w hJ
      refine x_leave rfl ?_
      refine rx hJ false 2 [] [] (.ok (.out .ret) [] [(4, Vi (k : Int))] [] [(b3, o4 + k * 1, [.string f])]) trivial trivial (fun _ => by kernel_rfl) ?_
      clear hJ a w; intro a w hJ
      refine x_end (hQ [Vi (k : Int)] _ [] hJ (.rtmp hJ.j (by kernel_rfl) .nil) (no_own _) rfl ?_).1
      exact congrArg (Value.int .i64) (fidx_found _ l k f hn hfk hq).symm
    · skip
      refine x_false hJ (t := s.toList == f.toList) (by kernel_rfl) (hq) ?_
      refine rx hJ false 7 [] [(18, Vi (IntKind.i64.wrap ((k : Int) + 1)), Vi ((k : Int) + 1))] (.ok (.out .normal) [] [(0, .slice (some ⟨b3, o4, none⟩) len cap), (1, .string s), (7, Vi (len : Int)), (9, .bool (decide ((k : Int) < (len : Int)))), (10, Vi (k : Int)), (5, Vi (k : Int)), (11, .string s), (12, .slice (some ⟨b3, o4, none⟩) len cap), (13, Vi (k : Int)), (14, .pointer (some ⟨b3, o4 + k * 1, none⟩)), (15, .string f), (16, .bool (s.toList == f.toList)), (18, Vi ((k : Int) + 1)), (8, Vi ((k : Int) + 1))] [] [(b3, o4 + k * 1, [.string f])]) trivial (And.intro (i64_wrap (by omega) (by omega)) (trivial)) (fun _ => by kernel_rfl) ?_
      clear hJ a w; intro a w hJ
      exact x_round ⟨k + 1, ⟨h1, (hJ.tof [] (F' := []) (by kernel_rfl)).to (by kernel_rfl) (by kernel_rfl) rfl, s2, by omega, (by rw [take_snoc' l k f hfk]; exact fun y hy => (List.mem_append.1 hy).elim (hn y) (fun e => by rw [List.mem_singleton.1 e]; exact hq))⟩, by omega⟩
  · skip
    have htk : l.take k = l := by rw [hke, ← hL, List.take_length]
    rw [htk] at hn
    refine x_false hJ (t := decide ((k : Int) < (len : Int))) (by kernel_rfl) (decide_eq_false (by omega)) ?_
    refine rx hJ false 2 [] [] (.ok (.out (.exit 0)) [] [(0, .slice A len cap), (1, .string s), (7, Vi (len : Int)), (8, Vi (k : Int)), (9, .bool (decide ((k : Int) < (len : Int))))] [] []) trivial trivial (fun _ => by kernel_rfl) ?_
    clear hJ a w; intro a w hJ
    refine x_leave rfl ?_
    refine rx hJ false 8 [] [] (.ok (.out .ret) [] [(4, Vi (-1))] [] []) trivial trivial (fun _ => by kernel_rfl) ?_
    clear hJ a w; intro a w hJ
    refine x_end (hQ [Vi (-1)] _ [] hJ (.rtmp hJ.j (by kernel_rfl) .nil) (no_own _) rfl ?_).1
    exact congrArg (Value.int .i64) (fidx_none _ l hn).symm
def memS (l : List ByteArray) (s : ByteArray) : Bool := l.any fun y => s.toList == y.toList
theorem memS_iff {l : List ByteArray} {s : ByteArray} : memS l s = true ↔ s ∈ l := by
  unfold memS
  rw [List.any_eq_true]
  constructor
  · rintro ⟨y, hy, q⟩
    rw [tl_dec] at q
    rw [of_decide_eq_true q]; exact hy
  · intro hm
    exact ⟨s, hm, tl_yes rfl⟩
theorem memS_no {l : List ByteArray} {s : ByteArray} (h : s ∉ l) : memS l s = false := by
  rw [Bool.eq_false_iff]; exact fun q => h (memS_iff.1 q)
theorem contS_any (l : List ByteArray) (v : Value) (s : ByteArray) (h : Vw) (hr : RS h 1 v (strRows l)) (hl : l.length ≤ 1000000) : C0 Try.prog 24 #[v, .string s] h (fun r _ => r = .bool (memS l s)) := by
  have hi := fun H q => idxS_any l v s H q hl
  have e : decide (0 ≤ fidx (fun y : ByteArray => s.toList == y.toList) l) = memS l s := fidx_dec _ _
  generalize fidx (fun y : ByteArray => s.toList == y.toList) l = p at *
  obtain ⟨A, cap, rfl, -, -, -⟩ := hr.form
  refine x_con Try.func24 (c := Try.f24.body.getD .skip) (by kernel_rfl) (N := 9) rfl (by kernel_rfl) ?_
  intro hbx hbad Q hQ a w hJ
  replace hJ : K ⟨9, h.w, h.bad, []⟩ [(0, .slice A ((strRows l).length) cap), (1, .string s)] [] [] h a w := hJ.to (by kernel_rfl) (by kernel_rfl) rfl
  refine rx hJ false 15 [.cl 54 #[.slice A ((strRows l).length) cap, .string s] (Vi p)] [] (.ok (.out .ret) [] [(4, .bool (decide (p ≥ 0)))] [] []) (And.intro (fun H sH => hi _ (hr.sees sH)) (trivial)) trivial (fun _ => by kernel_rfl) ?_
  clear hJ a w; intro a w hJ
  refine x_end (hQ [.bool (decide (p ≥ 0))] _ [] hJ (.rtmp hJ.j (by kernel_rfl) .nil) (no_own _) rfl ?_).1
  exact congrArg Value.bool e

set_option maxRecDepth 100000 in
theorem eqS_any (l m : List ByteArray) (v u : Value) (h : Vw) (hr : RS h 1 v (strRows l)) (hs : RS h 1 u (strRows m)) (hl : l.length ≤ 1000000) (hm : m.length ≤ 1000000) : C0 Try.prog 19 #[v, u] h (fun r _ => r = .bool (decide (l = m))) := by
  obtain ⟨A, cap, rfl, -, -, -⟩ := hr.form
  obtain ⟨B, cap', rfl, -, -, -⟩ := hs.form
  rw [List.length_map] at *
  rw [List.length_map] at *
  refine x_con Try.func19 (c := Try.f19.body.getD .skip) (by kernel_rfl) (N := 26) rfl (by kernel_rfl) ?_
  intro hbx hbad Q hQ a w hJ
  replace hJ : K ⟨26, h.w, h.bad, []⟩ [(0, .slice A l.length cap), (1, .slice B m.length cap')] [] [] h a w := hJ.to (by kernel_rfl) (by kernel_rfl) rfl
  refine rx hJ false 15 [] [] (.ok (.code [1, 0, 1]) [.seq [1, 1]] [(0, .slice A l.length cap), (1, .slice B m.length cap'), (4, .bool false), (10, .bool ((l.length : Int) != (m.length : Int)))] [] []) trivial trivial (fun _ => by kernel_rfl) ?_
  clear hJ a w; intro a w hJ
  by_cases hlm : l.length = m.length
  · refine x_false hJ (t := (l.length : Int) != (m.length : Int)) (by kernel_rfl) ((by rw [bne_eq_false_iff_eq]; omega)) ?_
    refine rx hJ false 11 [] [] (.ok (.code [0, 1, 0, 1, 1]) [.block 0, .seq [1, 1, 1]] [(0, .slice A l.length cap), (1, .slice B m.length cap'), (4, .bool false), (12, Vi (l.length : Int)), (13, Vi 0)] [] []) trivial trivial (fun _ => by kernel_rfl) ?_
    clear hJ a w; intro a w hJ
    refine x_loop (fun (k : Nat) a w => ∃ (h1 : Vw) , K ⟨26, h.w, h.bad, []⟩ [(0, .slice A l.length cap), (1, .slice B m.length cap'), (12, Vi (l.length : Int)), (13, Vi (k : Int))] [] [] h1 a w ∧ Sees h h1 ∧ (k ≤ l.length) ∧ (l.take k = m.take k)) (fun k => l.length - k) (0) (by kernel_rfl) ⟨h, hJ.to (by kernel_rfl) (by kernel_rfl) rfl, Sees.refl _, Nat.zero_le _, by simp⟩ ?_
    clear hJ a w; rintro k a w ⟨h1, hJ, s2, hk, hn⟩
    refine rx hJ false 6 [] [] (.ok (.code [0, 1, 0, 0, 1, 0, 1, 1]) [.seq [1, 1, 0, 0, 1, 0, 1, 1]] [(0, .slice A l.length cap), (1, .slice B m.length cap'), (12, Vi (l.length : Int)), (13, Vi (k : Int)), (14, .bool (decide ((k : Int) < (l.length : Int))))] [] []) trivial trivial (fun _ => by kernel_rfl) ?_
    clear hJ a w; intro a w hJ
    rcases (by omega : k < l.length ∨ k = l.length) with hlt | hke
    · obtain ⟨f, hfk⟩ : ∃ f, l[k]? = some f := ⟨_, List.getElem?_eq_getElem (by omega)⟩
      obtain ⟨g, hgk⟩ : ∃ g, m[k]? = some g := ⟨_, List.getElem?_eq_getElem (by omega)⟩
      have hrow := str_row hfk
      have hrog := str_row hgk
      refine x_true hJ (t := decide ((k : Int) < (l.length : Int))) (by kernel_rfl) (decide_eq_true (by omega)) ?_
      refine rx hJ false 11 [] [] (.ok (.code [0, 1, 0, 0, 1, 1, 0, 0, 1, 0, 1, 1]) [.seq [1, 1, 0, 0, 1, 1, 0, 0, 1, 0, 1, 1], .block 1, .seq [1, 1, 1, 0, 0, 1, 0, 1, 1]] [(0, .slice A l.length cap), (1, .slice B m.length cap'), (12, Vi (l.length : Int)), (13, Vi (k : Int)), (14, .bool (decide ((k : Int) < (l.length : Int)))), (15, Vi (k : Int)), (5, Vi (k : Int))] [] []) trivial trivial (fun _ => by kernel_rfl) ?_
      clear hJ a w; intro a w hJ
      obtain ⟨b3, o4, rfl, -, c5⟩ := RS.row hr (hrow)
      replace hJ := hJ.fact (c5.sees s2)
      obtain ⟨b6, o7, rfl, -, c8⟩ := RS.row hs (hrog)
      replace hJ := hJ.fact (c8.sees s2)
      let R : Reg := ⟨⟨26, h.w, h.bad, []⟩, [(0, 16, fun gh => .slice (some ⟨b3, o4, none⟩) l.length cap), (1, 17, fun gh => Vi (k : Int)), (2, 18, fun gh => .pointer (some ⟨b3, o4 + k * 1, none⟩)), (3, 19, fun gh => .string f), (4, 20, fun gh => .slice (some ⟨b6, o7, none⟩) m.length cap'), (5, 21, fun gh => Vi (k : Int)), (6, 22, fun gh => .pointer (some ⟨b6, o7 + k * 1, none⟩)), (7, 23, fun gh => .string g), (8, 24, fun gh => .bool (f.toList != g.toList))], [(0, .slice (some ⟨b3, o4, none⟩) l.length cap), (1, .slice (some ⟨b6, o7, none⟩) m.length cap'), (12, Vi (l.length : Int)), (13, Vi (k : Int)), (14, .bool (decide ((k : Int) < (l.length : Int)))), (15, Vi (k : Int)), (5, Vi (k : Int))], [], [], [[], [], [0, 1], [0, 1, 2], [], [], [4, 5], [4, 5, 6], [0, 1, 2, 3, 4, 5, 6, 7]], h1⟩
      have hmono : ∀ zq ∈ R.F, ∀ zx zh zi, Sees zh zi → zq.2 zx zh → zq.2 zx zi := mono_nil
      refine x_region (by kernel_rfl) R hJ 9 [.pu, .pu, .cl, .lf 1 0, .pu, .pu, .cl, .lf 0 0, .pu] (by kernel_rfl) hmono (fun _ _ _ => by kernel_rfl) (fun hT hA => ?_) ?_
      · clear hJ
        refine And.intro (r_pure hT hA 18 (fun gh => .pointer (some ⟨b3, o4 + k * 1, none⟩)) [0, 1] 2 (by kernel_rfl) (by kernel_rfl) (by kernel_rfl) (fun _ => by kernel_rfl) (fun gh w => run_indexAddr (t := 32) (x := (.tmp 16)) (y := (.tmp 17)) (b := b3) (off := o4) (n := l.length) (cap := cap) (k := k) (e := 9) (kk := 1) (by kernel_rfl) (by kernel_rfl) (by kernel_rfl) (by first | omega | (simp; omega)) Try.underlying32 (by kernel_rfl))) ?_
        refine And.intro (r_pure hT hA 22 (fun gh => .pointer (some ⟨b6, o7 + k * 1, none⟩)) [4, 5] 6 (by kernel_rfl) (by kernel_rfl) (by kernel_rfl) (fun _ => by kernel_rfl) (fun gh w => run_indexAddr (t := 32) (x := (.tmp 20)) (y := (.tmp 21)) (b := b6) (off := o7) (n := m.length) (cap := cap') (k := k) (e := 9) (kk := 1) (by kernel_rfl) (by kernel_rfl) (by kernel_rfl) (by first | omega | (simp; omega)) Try.underlying32 (by kernel_rfl))) ?_
        trivial
      clear hJ a w; intro gh h9 a w sR hJ1 hF; have s10 : Sees h1 h9 := sR; clear sR
      have hJ : K ⟨26, h.w, h.bad, []⟩ [(0, .slice (some ⟨b3, o4, none⟩) l.length cap), (1, .slice (some ⟨b6, o7, none⟩) m.length cap'), (12, Vi (l.length : Int)), (13, Vi (k : Int)), (14, .bool (decide ((k : Int) < (l.length : Int)))), (15, Vi (k : Int)), (5, Vi (k : Int)), (16, .slice (some ⟨b3, o4, none⟩) l.length cap), (17, Vi (k : Int)), (18, .pointer (some ⟨b3, o4 + k * 1, none⟩)), (19, .string f), (20, .slice (some ⟨b6, o7, none⟩) m.length cap'), (21, Vi (k : Int)), (22, .pointer (some ⟨b6, o7 + k * 1, none⟩)), (23, .string g), (24, .bool (f.toList != g.toList))] [] [(b6, o7 + k * 1, [.string g]), (b3, o4 + k * 1, [.string f])] h9 a w := hJ1.to (by kernel_rfl) (by kernel_rfl) rfl
      clear hJ1 hF hmono R
      clear gh
      refine rx hJ false 1 [] [] (.ok (.code [1, 1, 0, 0, 1, 1, 0, 0, 1, 0, 1, 1]) [.block 1, .seq [1, 1, 1, 0, 0, 1, 0, 1, 1]] [(0, .slice (some ⟨b3, o4, none⟩) l.length cap), (1, .slice (some ⟨b6, o7, none⟩) m.length cap'), (12, Vi (l.length : Int)), (13, Vi (k : Int)), (14, .bool (decide ((k : Int) < (l.length : Int)))), (15, Vi (k : Int)), (5, Vi (k : Int)), (16, .slice (some ⟨b3, o4, none⟩) l.length cap), (17, Vi (k : Int)), (18, .pointer (some ⟨b3, o4 + k * 1, none⟩)), (19, .string f), (20, .slice (some ⟨b6, o7, none⟩) m.length cap'), (21, Vi (k : Int)), (22, .pointer (some ⟨b6, o7 + k * 1, none⟩)), (23, .string g), (24, .bool (f.toList != g.toList))] [] [(b6, o7 + k * 1, [.string g]), (b3, o4 + k * 1, [.string f])]) trivial trivial (fun _ => by kernel_rfl) ?_
      clear hJ a w; intro a w hJ
      by_cases hq : f = g
      · refine x_false hJ (t := f.toList != g.toList) (by kernel_rfl) ((by rw [hq]; simp)) ?_
        refine rx hJ false 7 [] [(25, Vi (IntKind.i64.wrap ((k : Int) + 1)), Vi ((k : Int) + 1))] (.ok (.out .normal) [] [(0, .slice (some ⟨b3, o4, none⟩) l.length cap), (1, .slice (some ⟨b6, o7, none⟩) m.length cap'), (12, Vi (l.length : Int)), (14, .bool (decide ((k : Int) < (l.length : Int)))), (15, Vi (k : Int)), (5, Vi (k : Int)), (16, .slice (some ⟨b3, o4, none⟩) l.length cap), (17, Vi (k : Int)), (18, .pointer (some ⟨b3, o4 + k * 1, none⟩)), (19, .string f), (20, .slice (some ⟨b6, o7, none⟩) m.length cap'), (21, Vi (k : Int)), (22, .pointer (some ⟨b6, o7 + k * 1, none⟩)), (23, .string g), (24, .bool (f.toList != g.toList)), (25, Vi ((k : Int) + 1)), (13, Vi ((k : Int) + 1))] [] [(b6, o7 + k * 1, [.string g]), (b3, o4 + k * 1, [.string f])]) trivial (And.intro (i64_wrap (by omega) (by omega)) (trivial)) (fun _ => by kernel_rfl) ?_
        clear hJ a w; intro a w hJ
        exact x_round ⟨k + 1, ⟨h9, (hJ.tof [] (F' := []) (by kernel_rfl)).to (by kernel_rfl) (by kernel_rfl) rfl, (s2.trans s10), by omega, (by rw [take_snoc' l k f hfk, take_snoc' m k g hgk, hn, hq])⟩, by omega⟩
      · skip
        refine x_true hJ (t := f.toList != g.toList) (by kernel_rfl) ((by have := tl_no hq; simpa using this)) ?_
        refine rx hJ false 8 [] [] (.ok (.out .ret) [] [(0, .slice (some ⟨b3, o4, none⟩) l.length cap), (1, .slice (some ⟨b6, o7, none⟩) m.length cap'), (12, Vi (l.length : Int)), (13, Vi (k : Int)), (14, .bool (decide ((k : Int) < (l.length : Int)))), (15, Vi (k : Int)), (5, Vi (k : Int)), (16, .slice (some ⟨b3, o4, none⟩) l.length cap), (17, Vi (k : Int)), (18, .pointer (some ⟨b3, o4 + k * 1, none⟩)), (19, .string f), (20, .slice (some ⟨b6, o7, none⟩) m.length cap'), (21, Vi (k : Int)), (22, .pointer (some ⟨b6, o7 + k * 1, none⟩)), (23, .string g), (24, .bool (f.toList != g.toList)), (4, .bool false)] [] [(b6, o7 + k * 1, [.string g]), (b3, o4 + k * 1, [.string f])]) trivial trivial (fun _ => by kernel_rfl) ?_
        clear hJ a w; intro a w hJ
        refine x_leave rfl ?_
        refine rx hJ false 2 [] [] (.ok (.out .ret) [] [(4, .bool false)] [] [(b6, o7 + k * 1, [.string g]), (b3, o4 + k * 1, [.string f])]) trivial trivial (fun _ => by kernel_rfl) ?_
        clear hJ a w; intro a w hJ
        refine x_end (hQ [.bool false] _ [] hJ (.rtmp hJ.j (by kernel_rfl) .nil) (no_own _) rfl ?_).1
        exact congrArg Value.bool (decide_eq_false (fun e => hq (by rw [e, hgk] at hfk; injection hfk with hfk; exact hfk.symm))).symm
    · skip
      have e : l = m := by
        have h1 : l.take k = l := by rw [hke, List.take_length]
        have h2 : m.take k = m := by rw [hke, hlm, List.take_length]
        rw [← h1, hn, h2]
      refine x_false hJ (t := decide ((k : Int) < (l.length : Int))) (by kernel_rfl) (decide_eq_false (by omega)) ?_
      refine rx hJ false 2 [] [] (.ok (.out (.exit 0)) [] [(0, .slice A l.length cap), (1, .slice B m.length cap'), (12, Vi (l.length : Int)), (13, Vi (k : Int)), (14, .bool (decide ((k : Int) < (l.length : Int))))] [] []) trivial trivial (fun _ => by kernel_rfl) ?_
      clear hJ a w; intro a w hJ
      refine x_leave rfl ?_
      refine rx hJ false 8 [] [] (.ok (.out .ret) [] [(4, .bool true)] [] []) trivial trivial (fun _ => by kernel_rfl) ?_
      clear hJ a w; intro a w hJ
      refine x_end (hQ [.bool true] _ [] hJ (.rtmp hJ.j (by kernel_rfl) .nil) (no_own _) rfl ?_).1
      exact congrArg Value.bool (decide_eq_true e).symm
  · skip
    refine x_true hJ (t := (l.length : Int) != (m.length : Int)) (by kernel_rfl) (bne_iff_ne.2 (by omega)) ?_
    refine rx hJ false 7 [] [] (.ok (.out .ret) [] [(4, .bool false)] [] []) trivial trivial (fun _ => by kernel_rfl) ?_
    clear hJ a w; intro a w hJ
    refine x_end (hQ [.bool false] _ [] hJ (.rtmp hJ.j (by kernel_rfl) .nil) (no_own _) rfl ?_).1
    exact congrArg Value.bool (decide_eq_false (fun e => hlm (by rw [e]))).symm

end Go.Proofs.Ytgjndkphfabnnaa

namespace Go.Proofs.Ytgjndkphfabnnaa
open Go.RowKit
set_option linter.unusedVariables false

theorem info_str : (Try.prog.info? 9).map (fun i => (i.zero, i.size, i.bytes)) = some (some (.string ⟨#[]⟩), 1, 16) := by kernel_rfl

set_option maxRecDepth 100000 in
set_option maxHeartbeats 2000000 in
theorem clone_str (v : Value) (l : List (List Value)) (w : World) (h : Sl w 1 v l) (hk : Len 1 l) (h1 : One l) (hl : l.length * 16 ≤ 140737488355328) :
    Calls Try.prog 22 #[v] w (GivesOwn 9 1 l w) := by
  have q22 : ∀ (w : World) (a : Option Addr) (n c n' c' : Nat), (binOp .eql 32 (.slice a n c) (.slice none n' c')).run Try.prog w = .ok (.bool a.isNone) w := fun w a n c n' c' => Lib.run_eql_slice_nil w _ _ a n c n' c' Try.underlying32
  obtain ⟨A, cap, rfl, c1, c2, hA⟩ := h.form
  cases A with
  | none =>
    obtain rfl := hA rfl
    have h0 : l.length = 0 := by omega
    obtain rfl := List.length_eq_zero_iff.1 h0
    go_enter Try.func22, Try.ntmps22
    go_wp2_with fail
    go_ret
    exact ⟨_, rfl, ⟨by simp, .inl ⟨rfl, rfl⟩⟩, Evo.refl _⟩
  | some a =>
    have HR := Lib.hid h
    have HK := Lib.hid hk
    have H1 := Lib.hid h1
    clear h hk h1
    go_enter Try.func22, Try.ntmps22
    go_wp2_with (at_builtin; refine wpList_append_rows rfl (.tmp 5) (.tmp 6) 32 rfl 9 _ 1 16 Try.underlying32 info_str rfl (by decide) w ((Evo.refl _).alloc _) [] l _ _ rfl rfl ⟨World.ownsRow_made w #[] 0 (Nat.le_refl _) (Nat.zero_le _) (by simp)⟩ (HR.out.at ((Evo.refl _).alloc _)) HK.out H1.out ?c1 ?c2 ?_)
    case c1 => simp; omega
    case c2 => simpa using hl
    intro v' w1 hown hbl hg
    have HW := Lib.hid (⟨hown, hbl⟩ : Own w1 w.heap.size 9 1 v' ([] ++ l).length ([] ++ l).flatten ∧ Evo w w1)
    clear hown hg hbl
    go_wp2_with fail
    go_ret
    exact ⟨_, rfl, HW.out.1, HW.out.2⟩

theorem c_cloneS {h : Vw} {v : Value} {l : List ByteArray} (hr : RS h 1 v (strRows l)) (hl : l.length ≤ 1000000) : CRow Try.prog 22 #[v] h 9 1 (fun _ rows => rows = strRows l) :=
  CRow.of_own (str_len l) (clone_str v (strRows l) h.w (Sl.of_rs hr) (str_len _) (str_one _) (by rw [List.length_map]; omega))

end Go.Proofs.Ytgjndkphfabnnaa
