/-
  Contract of rank.Of where all fields can be ranked; the laws' ranked; slices.Equal at ints.
-/
import Derived.Test.YtgjndkphfabnnaaRank
import Derived.Test.YtgjndkphfabnnaaSmall
namespace Go.Proofs.Ytgjndkphfabnnaa
open Go.RowKit
set_option linter.unusedVariables false

theorem ofc_any (x : Int) (h : Vw) : C0 Try.prog 79 #[.int .i64 x] h (fun r _ => r = .bool (decide (x < 0))) := by
  refine x_con Try.func79 (c := Try.f79.body.getD .skip) (by kernel_rfl) (N := 5) rfl (by kernel_rfl) ?_
  intro hbx hbad Q hQ a w hJ
  replace hJ : K ⟨5, h.w, h.bad, []⟩ [(0, Vi x)] [] [] h a w := hJ.to (by kernel_rfl) (by kernel_rfl) rfl
  refine rx hJ false 13 [] [] (.ok (.out .ret) [] [(2, .bool (decide (x < 0)))] [] []) trivial trivial (fun _ => by kernel_rfl) ?_
  clear hJ a w; intro a w hJ
  refine x_end (hQ [.bool (decide (x < 0))] _ [] hJ (.rtmp hJ.j (by kernel_rfl) .nil) (no_own _) rfl ?_).1
  exact rfl
theorem rk_row {l : List Int} {k : Nat} {x : Int} (h : l[k]? = some x) : (rkRows l)[k]? = some [.int .i64 x] := by show (l.map _)[k]? = _; rw [List.getElem?_map, h]; rfl

set_option maxRecDepth 100000 in
theorem idxI_any (l : List Int) (A : Option Addr) (cap : Nat) (h : Vw) (hr : RS h 1 (.slice A l.length cap) (rkRows l)) (hl : l.length ≤ 1000000) (hn : ∀ x ∈ l, 0 ≤ x) :
    C0 Try.prog 113 #[.slice A l.length cap, .func (.func 79) #[] #[]] h (fun r _ => r = .int .i64 (-1)) := by
  generalize hL : l.length = len at *
  refine x_con Try.func113 (c := Try.f113.body.getD .skip) (by kernel_rfl) (N := 19) rfl (by kernel_rfl) ?_
  intro hbx hbad Q hQ a w hJ
  replace hJ : K ⟨19, h.w, h.bad, []⟩ [(0, .slice A len cap), (1, .func (.func 79) #[] #[])] [] [] h a w := hJ.to (by kernel_rfl) (by kernel_rfl) rfl
  refine rx hJ false 14 [] [] (.ok (.code [0, 1, 0, 1]) [.block 0, .seq [1, 1]] [(0, .slice A len cap), (1, .func (.func 79) #[] #[]), (4, Vi 0), (7, Vi (len : Int)), (8, Vi 0)] [] []) trivial trivial (fun _ => by kernel_rfl) ?_
  clear hJ a w; intro a w hJ
  refine x_loop (fun (k : Nat) a w => ∃ (h1 : Vw) , K ⟨19, h.w, h.bad, []⟩ [(0, .slice A len cap), (1, .func (.func 79) #[] #[]), (7, Vi (len : Int)), (8, Vi (k : Int))] [] [] h1 a w ∧ Sees h h1 ∧ (k ≤ len)) (fun k => len - k) (0) (by kernel_rfl) ⟨h, hJ.to (by kernel_rfl) (by kernel_rfl) rfl, Sees.refl _, Nat.zero_le _⟩ ?_
  clear hJ a w; rintro k a w ⟨h1, hJ, s2, hk⟩
  refine rx hJ false 6 [] [] (.ok (.code [0, 1, 0, 0, 1, 0, 1]) [.seq [1, 1, 0, 0, 1, 0, 1]] [(0, .slice A len cap), (1, .func (.func 79) #[] #[]), (7, Vi (len : Int)), (8, Vi (k : Int)), (9, .bool (decide ((k : Int) < (len : Int))))] [] []) trivial trivial (fun _ => by kernel_rfl) ?_
  clear hJ a w; intro a w hJ
  rcases (by omega : k < len ∨ k = len) with hlt | hke
  · obtain ⟨x, hxk⟩ : ∃ x, l[k]? = some x := ⟨_, List.getElem?_eq_getElem (by omega)⟩
    have hrow := rk_row hxk
    have hx0 := hn x (List.mem_of_getElem? hxk)
    have hof := fun H => ofc_any x H
    rw [show decide (x < 0) = false from decide_eq_false (by omega)] at hof
    refine x_true hJ (t := decide ((k : Int) < (len : Int))) (by kernel_rfl) (decide_eq_true (by omega)) ?_
    refine rx hJ false 15 [] [] (.ok (.ops [0, 1, 0, 0, 1, 1, 0, 0, 1, 0, 1] 3) [.seq [1, 1, 0, 0, 1, 1, 0, 0, 1, 0, 1], .block 1, .seq [1, 1, 1, 0, 0, 1, 0, 1]] [(0, .slice A len cap), (1, .func (.func 79) #[] #[]), (7, Vi (len : Int)), (8, Vi (k : Int)), (9, .bool (decide ((k : Int) < (len : Int)))), (10, Vi (k : Int)), (5, Vi (k : Int)), (11, .func (.func 79) #[] #[]), (12, .slice A len cap), (13, Vi (k : Int))] [] []) trivial trivial (fun _ => by kernel_rfl) ?_
    clear hJ a w; intro a w hJ
    obtain ⟨b3, o4, rfl, -, c5⟩ := RS.row hr (hrow)
    replace hJ := hJ.fact (c5.sees s2)
    refine rx hJ false 13 [.ix b3 o4 len cap k, .f 0 0, .cl 79 #[Vi x] (.bool false)] [(18, Vi (IntKind.i64.wrap ((k : Int) + 1)), Vi ((k : Int) + 1))] (.ok (.out .normal) [] [(0, .slice (some ⟨b3, o4, none⟩) len cap), (1, .func (.func 79) #[] #[]), (7, Vi (len : Int)), (9, .bool (decide ((k : Int) < (len : Int)))), (10, Vi (k : Int)), (5, Vi (k : Int)), (11, .func (.func 79) #[] #[]), (12, .slice (some ⟨b3, o4, none⟩) len cap), (13, Vi (k : Int)), (14, .pointer (some ⟨b3, o4 + k * 1, none⟩)), (15, Vi x), (16, .bool false), (18, Vi ((k : Int) + 1)), (8, Vi ((k : Int) + 1))] [] [(b3, o4 + k * 1, [Vi x])]) (And.intro (by first | omega | (simp; omega)) (And.intro (fun H sH => hof _) (trivial))) (And.intro (i64_wrap (by omega) (by omega)) (trivial)) (fun _ => by kernel_rfl) ?_
    clear hJ a w; intro a w hJ
    exact x_round ⟨k + 1, ⟨h1, (hJ.tof [] (F' := []) (by kernel_rfl)).to (by kernel_rfl) (by kernel_rfl) rfl, s2, by omega⟩, by omega⟩
  · skip
    refine x_false hJ (t := decide ((k : Int) < (len : Int))) (by kernel_rfl) (decide_eq_false (by omega)) ?_
    refine rx hJ false 2 [] [] (.ok (.out (.exit 0)) [] [(0, .slice A len cap), (1, .func (.func 79) #[] #[]), (7, Vi (len : Int)), (8, Vi (k : Int)), (9, .bool (decide ((k : Int) < (len : Int))))] [] []) trivial trivial (fun _ => by kernel_rfl) ?_
    clear hJ a w; intro a w hJ
    refine x_leave rfl ?_
    refine rx hJ false 8 [] [] (.ok (.out .ret) [] [(4, Vi (-1))] [] []) trivial trivial (fun _ => by kernel_rfl) ?_
    clear hJ a w; intro a w hJ
    refine x_end (hQ [Vi (-1)] _ [] hJ (.rtmp hJ.j (by kernel_rfl) .nil) (no_own _) rfl ?_).1
    exact rfl
theorem cfI_any (l : List Int) (A : Option Addr) (cap : Nat) (h : Vw) (hr : RS h 1 (.slice A l.length cap) (rkRows l)) (hl : l.length ≤ 1000000) (hn : ∀ x ∈ l, 0 ≤ x) :
    C0 Try.prog 78 #[.slice A l.length cap, .func (.func 79) #[] #[]] h (fun r _ => r = .bool false) := by
  have hi := fun H q => idxI_any l A cap H q hl hn
  refine x_con Try.func78 (c := Try.f78.body.getD .skip) (by kernel_rfl) (N := 9) rfl (by kernel_rfl) ?_
  intro hbx hbad Q hQ a w hJ
  replace hJ : K ⟨9, h.w, h.bad, []⟩ [(0, .slice A l.length cap), (1, .func (.func 79) #[] #[])] [] [] h a w := hJ.to (by kernel_rfl) (by kernel_rfl) rfl
  refine rx hJ false 15 [.cl 113 #[.slice A l.length cap, .func (.func 79) #[] #[]] (Vi (-1))] [] (.ok (.out .ret) [] [(4, .bool false)] [] []) (And.intro (fun H sH => hi _ (hr.sees sH)) (trivial)) trivial (fun _ => by kernel_rfl) ?_
  clear hJ a w; intro a w hJ
  refine x_end (hQ [.bool false] _ [] hJ (.rtmp hJ.j (by kernel_rfl) .nil) (no_own _) rfl ?_).1
  exact rfl

set_option maxRecDepth 100000 in
theorem eqI_any (l m : List Int) (v u : Value) (h : Vw) (hr : RS h 1 v (rkRows l)) (hs : RS h 1 u (rkRows m)) (hl : l.length ≤ 1000000) (he : l = m) : C0 Try.prog 81 #[v, u] h (fun r _ => r = .bool true) := by
  subst he
  obtain ⟨A, cap, rfl, -, -, -⟩ := hr.form
  obtain ⟨B, cap', rfl, -, -, -⟩ := hs.form
  rw [List.length_map] at *
  generalize hL : l.length = len at *
  refine x_con Try.func81 (c := Try.f81.body.getD .skip) (by kernel_rfl) (N := 26) rfl (by kernel_rfl) ?_
  intro hbx hbad Q hQ a w hJ
  replace hJ : K ⟨26, h.w, h.bad, []⟩ [(0, .slice A len cap), (1, .slice B len cap')] [] [] h a w := hJ.to (by kernel_rfl) (by kernel_rfl) rfl
  refine rx hJ false 15 [] [] (.ok (.code [1, 0, 1]) [.seq [1, 1]] [(0, .slice A len cap), (1, .slice B len cap'), (4, .bool false), (10, .bool ((len : Int) != (len : Int)))] [] []) trivial trivial (fun _ => by kernel_rfl) ?_
  clear hJ a w; intro a w hJ
  refine x_false hJ (t := (len : Int) != (len : Int)) (by kernel_rfl) ((by simp)) ?_
  refine rx hJ false 11 [] [] (.ok (.code [0, 1, 0, 1, 1]) [.block 0, .seq [1, 1, 1]] [(0, .slice A len cap), (1, .slice B len cap'), (4, .bool false), (12, Vi (len : Int)), (13, Vi 0)] [] []) trivial trivial (fun _ => by kernel_rfl) ?_
  clear hJ a w; intro a w hJ
  refine x_loop (fun (k : Nat) a w => ∃ (h1 : Vw) , K ⟨26, h.w, h.bad, []⟩ [(0, .slice A len cap), (1, .slice B len cap'), (12, Vi (len : Int)), (13, Vi (k : Int))] [] [] h1 a w ∧ Sees h h1 ∧ (k ≤ len)) (fun k => len - k) (0) (by kernel_rfl) ⟨h, hJ.to (by kernel_rfl) (by kernel_rfl) rfl, Sees.refl _, Nat.zero_le _⟩ ?_
  clear hJ a w; rintro k a w ⟨h1, hJ, s2, hk⟩
  refine rx hJ false 6 [] [] (.ok (.code [0, 1, 0, 0, 1, 0, 1, 1]) [.seq [1, 1, 0, 0, 1, 0, 1, 1]] [(0, .slice A len cap), (1, .slice B len cap'), (12, Vi (len : Int)), (13, Vi (k : Int)), (14, .bool (decide ((k : Int) < (len : Int))))] [] []) trivial trivial (fun _ => by kernel_rfl) ?_
  clear hJ a w; intro a w hJ
  rcases (by omega : k < len ∨ k = len) with hlt | hke
  · obtain ⟨x, hxk⟩ : ∃ x, l[k]? = some x := ⟨_, List.getElem?_eq_getElem (by omega)⟩
    have hrow := rk_row hxk
    refine x_true hJ (t := decide ((k : Int) < (len : Int))) (by kernel_rfl) (decide_eq_true (by omega)) ?_
    refine rx hJ false 11 [] [] (.ok (.code [0, 1, 0, 0, 1, 1, 0, 0, 1, 0, 1, 1]) [.seq [1, 1, 0, 0, 1, 1, 0, 0, 1, 0, 1, 1], .block 1, .seq [1, 1, 1, 0, 0, 1, 0, 1, 1]] [(0, .slice A len cap), (1, .slice B len cap'), (12, Vi (len : Int)), (13, Vi (k : Int)), (14, .bool (decide ((k : Int) < (len : Int)))), (15, Vi (k : Int)), (5, Vi (k : Int))] [] []) trivial trivial (fun _ => by kernel_rfl) ?_
    clear hJ a w; intro a w hJ
    obtain ⟨b3, o4, rfl, -, c5⟩ := RS.row hr (hrow)
    replace hJ := hJ.fact (c5.sees s2)
    obtain ⟨b6, o7, rfl, -, c8⟩ := RS.row hs (hrow)
    replace hJ := hJ.fact (c8.sees s2)
    let R : Reg := ⟨⟨26, h.w, h.bad, []⟩, [(0, 16, fun gh => .slice (some ⟨b3, o4, none⟩) len cap), (1, 17, fun gh => Vi (k : Int)), (2, 18, fun gh => .pointer (some ⟨b3, o4 + k * 1, none⟩)), (3, 19, fun gh => Vi x), (4, 20, fun gh => .slice (some ⟨b6, o7, none⟩) len cap'), (5, 21, fun gh => Vi (k : Int)), (6, 22, fun gh => .pointer (some ⟨b6, o7 + k * 1, none⟩)), (7, 23, fun gh => Vi x), (8, 24, fun gh => .bool (x != x))], [(0, .slice (some ⟨b3, o4, none⟩) len cap), (1, .slice (some ⟨b6, o7, none⟩) len cap'), (12, Vi (len : Int)), (13, Vi (k : Int)), (14, .bool (decide ((k : Int) < (len : Int)))), (15, Vi (k : Int)), (5, Vi (k : Int))], [], [], [[], [], [0, 1], [0, 1, 2], [], [], [4, 5], [4, 5, 6], [0, 1, 2, 3, 4, 5, 6, 7]], h1⟩
    have hmono : ∀ zq ∈ R.F, ∀ zx zh zi, Sees zh zi → zq.2 zx zh → zq.2 zx zi := mono_nil
    refine x_region (by kernel_rfl) R hJ 9 [.pu, .pu, .cl, .lf 1 0, .pu, .pu, .cl, .lf 0 0, .pu] (by kernel_rfl) hmono (fun _ _ _ => by kernel_rfl) (fun hT hA => ?_) ?_
    · clear hJ
      refine And.intro (r_pure hT hA 18 (fun gh => .pointer (some ⟨b3, o4 + k * 1, none⟩)) [0, 1] 2 (by kernel_rfl) (by kernel_rfl) (by kernel_rfl) (fun _ => by kernel_rfl) (fun gh w => run_indexAddr (t := 58) (x := (.tmp 16)) (y := (.tmp 17)) (b := b3) (off := o4) (n := len) (cap := cap) (k := k) (e := 3) (kk := 1) (by kernel_rfl) (by kernel_rfl) (by kernel_rfl) (by first | omega | (simp; omega)) Try.underlying58 (by kernel_rfl))) ?_
      refine And.intro (r_pure hT hA 22 (fun gh => .pointer (some ⟨b6, o7 + k * 1, none⟩)) [4, 5] 6 (by kernel_rfl) (by kernel_rfl) (by kernel_rfl) (fun _ => by kernel_rfl) (fun gh w => run_indexAddr (t := 58) (x := (.tmp 20)) (y := (.tmp 21)) (b := b6) (off := o7) (n := len) (cap := cap') (k := k) (e := 3) (kk := 1) (by kernel_rfl) (by kernel_rfl) (by kernel_rfl) (by first | omega | (simp; omega)) Try.underlying58 (by kernel_rfl))) ?_
      trivial
    clear hJ a w; intro gh h9 a w sR hJ1 hF; have s10 : Sees h1 h9 := sR; clear sR
    have hJ : K ⟨26, h.w, h.bad, []⟩ [(0, .slice (some ⟨b3, o4, none⟩) len cap), (1, .slice (some ⟨b6, o7, none⟩) len cap'), (12, Vi (len : Int)), (13, Vi (k : Int)), (14, .bool (decide ((k : Int) < (len : Int)))), (15, Vi (k : Int)), (5, Vi (k : Int)), (16, .slice (some ⟨b3, o4, none⟩) len cap), (17, Vi (k : Int)), (18, .pointer (some ⟨b3, o4 + k * 1, none⟩)), (19, Vi x), (20, .slice (some ⟨b6, o7, none⟩) len cap'), (21, Vi (k : Int)), (22, .pointer (some ⟨b6, o7 + k * 1, none⟩)), (23, Vi x), (24, .bool (x != x))] [] [(b6, o7 + k * 1, [Vi x]), (b3, o4 + k * 1, [Vi x])] h9 a w := hJ1.to (by kernel_rfl) (by kernel_rfl) rfl
    clear hJ1 hF hmono R
    clear gh
    refine rx hJ false 1 [] [] (.ok (.code [1, 1, 0, 0, 1, 1, 0, 0, 1, 0, 1, 1]) [.block 1, .seq [1, 1, 1, 0, 0, 1, 0, 1, 1]] [(0, .slice (some ⟨b3, o4, none⟩) len cap), (1, .slice (some ⟨b6, o7, none⟩) len cap'), (12, Vi (len : Int)), (13, Vi (k : Int)), (14, .bool (decide ((k : Int) < (len : Int)))), (15, Vi (k : Int)), (5, Vi (k : Int)), (16, .slice (some ⟨b3, o4, none⟩) len cap), (17, Vi (k : Int)), (18, .pointer (some ⟨b3, o4 + k * 1, none⟩)), (19, Vi x), (20, .slice (some ⟨b6, o7, none⟩) len cap'), (21, Vi (k : Int)), (22, .pointer (some ⟨b6, o7 + k * 1, none⟩)), (23, Vi x), (24, .bool (x != x))] [] [(b6, o7 + k * 1, [Vi x]), (b3, o4 + k * 1, [Vi x])]) trivial trivial (fun _ => by kernel_rfl) ?_
    clear hJ a w; intro a w hJ
    refine x_false hJ (t := x != x) (by kernel_rfl) ((by simp)) ?_
    refine rx hJ false 7 [] [(25, Vi (IntKind.i64.wrap ((k : Int) + 1)), Vi ((k : Int) + 1))] (.ok (.out .normal) [] [(0, .slice (some ⟨b3, o4, none⟩) len cap), (1, .slice (some ⟨b6, o7, none⟩) len cap'), (12, Vi (len : Int)), (14, .bool (decide ((k : Int) < (len : Int)))), (15, Vi (k : Int)), (5, Vi (k : Int)), (16, .slice (some ⟨b3, o4, none⟩) len cap), (17, Vi (k : Int)), (18, .pointer (some ⟨b3, o4 + k * 1, none⟩)), (19, Vi x), (20, .slice (some ⟨b6, o7, none⟩) len cap'), (21, Vi (k : Int)), (22, .pointer (some ⟨b6, o7 + k * 1, none⟩)), (23, Vi x), (24, .bool (x != x)), (25, Vi ((k : Int) + 1)), (13, Vi ((k : Int) + 1))] [] [(b6, o7 + k * 1, [Vi x]), (b3, o4 + k * 1, [Vi x])]) trivial (And.intro (i64_wrap (by omega) (by omega)) (trivial)) (fun _ => by kernel_rfl) ?_
    clear hJ a w; intro a w hJ
    exact x_round ⟨k + 1, ⟨h9, (hJ.tof [] (F' := []) (by kernel_rfl)).to (by kernel_rfl) (by kernel_rfl) rfl, (s2.trans s10), by omega⟩, by omega⟩
  · skip
    refine x_false hJ (t := decide ((k : Int) < (len : Int))) (by kernel_rfl) (decide_eq_false (by omega)) ?_
    refine rx hJ false 2 [] [] (.ok (.out (.exit 0)) [] [(0, .slice A len cap), (1, .slice B len cap'), (12, Vi (len : Int)), (13, Vi (k : Int)), (14, .bool (decide ((k : Int) < (len : Int))))] [] []) trivial trivial (fun _ => by kernel_rfl) ?_
    clear hJ a w; intro a w hJ
    refine x_leave rfl ?_
    refine rx hJ false 8 [] [] (.ok (.out .ret) [] [(4, .bool true)] [] []) trivial trivial (fun _ => by kernel_rfl) ?_
    clear hJ a w; intro a w hJ
    refine x_end (hQ [.bool true] _ [] hJ (.rtmp hJ.j (by kernel_rfl) .nil) (no_own _) rfl ?_).1
    exact rfl

theorem mem_getD {l : List Int} {x : Int} (h : x ∈ l) : ∃ i, i < l.length ∧ x = l.getD i 0 := by
  obtain ⟨i, hi, e⟩ := List.mem_iff_getElem.1 h
  exact ⟨i, hi, by rw [List.getD_eq_getElem?_getD, List.getElem?_eq_getElem hi, e]; rfl⟩

set_option maxRecDepth 100000 in
theorem rankOf_any (fs : List Fd) (fv : Value) (h : Vw) (hok : OkFs fs) (hfs : IsFds h fv fs) (ρ : List Int) (lv : Nat → Nat) (hρ : Ranked (needsE fs) ρ lv) :
    C0 Try.prog 42 #[fv] h (fun r h' => ∃ b, r = .tuple #[.slice (some ⟨b, 0, none⟩) fs.length fs.length, .slice none 0 0, .int .i64 0] ∧ RS h' 1 (.slice (some ⟨b, 0, none⟩) fs.length fs.length) (rkRows ρ)) := by
  have few := hok.few
  have hck := fun H q => check_fields fs fv H hok q
  have hne := fun H q => needs_any fs fv H hok q
  have hnl : (needsE fs).length = fs.length := by unfold needsE; rw [List.length_map]
  have hb : ∀ l ∈ needsE fs, l.length ≤ 1000 ∧ ∀ k ∈ l, k < (needsE fs).length := fun l hl => by
    obtain ⟨i, hi⟩ := List.mem_iff_getElem?.1 hl
    have hil := (List.getElem?_eq_some_iff.1 hi).1
    have hg : (needsE fs).getD i [] = l := by rw [List.getD_eq_getElem?_getD, hi]; rfl
    refine ⟨?_, fun k hk => (hρ.low i hil k (by rw [hg]; exact hk)).1⟩
    obtain ⟨f, hf, rfl⟩ := List.mem_map.1 hl
    unfold needE
    split
    · simp
    · rename_i g
      obtain ⟨-, w2, -⟩ := (hok.each f hf).wf g
      have := Nat.le_trans (namesE_len f.src) (refs_le f.src)
      rw [List.length_map]; omega
  have hrk := fun A cap us H q1 q2 => ranks_any (needsE fs) A cap us H q1 q2 (by omega) hb
  rw [ranks_true hρ, hnl] at hrk
  have hρl : ρ.length = fs.length := hρ.len.trans hnl
  have hnn : ∀ x ∈ ρ, 0 ≤ x := fun x hx => by
    obtain ⟨i, hi, rfl⟩ := mem_getD hx
    exact rank_nn hρ (by have := hρ.len; omega)
  have hcf := fun b H q => cfI_any ρ (some ⟨b, 0, none⟩) fs.length H q (by omega) hnn
  rw [hρl] at hcf
  obtain ⟨-, A, c, rfl, -, -, -, -, -, -⟩ := fds_open hfs
  generalize needsE fs = need at *
  generalize hL : fs.length = len at *
  refine x_con Try.func42 (c := Try.f42.body.getD .skip) (by kernel_rfl) (N := 42) rfl (by kernel_rfl) ?_
  intro hbx hbad Q hQ a w hJ
  replace hJ : K ⟨42, h.w, h.bad, []⟩ [(0, .slice A len c)] [] [] h a w := hJ.to (by kernel_rfl) (by kernel_rfl) rfl
  refine rx hJ false 27 [.cl 27 #[.slice A len c] (Vi 0)] [] (.ok (.ops [0, 1, 1] 1) [.seq [1, 1, 1]] [(0, .slice A len c), (2, Vz), (3, Vz), (4, Vi 0), (16, .slice A len c)] [] []) (And.intro (fun H sH => hck _ (hfs.sees sH)) (trivial)) trivial (fun _ => by kernel_rfl) ?_
  clear hJ a w; intro a w hJ
  refine x_call hJ 17 (hne _ (hfs.sees hJ.j.sees)) (fun _ => by kernel_rfl) ?_; clear hJ a w; rintro _ h1 a w s2 ⟨An, cn, us, rfl, hrn, hna⟩ hJ
  refine rx hJ false 6 [] [] (.ok (.ops [0, 1, 1, 1] 1) [.seq [1, 1, 1, 1]] [(0, .slice A len c), (2, Vz), (3, Vz), (4, Vi 0), (6, .slice An len cn), (18, .slice An len cn)] [] []) trivial trivial (fun _ => by kernel_rfl) ?_
  clear hJ a w; intro a w hJ
  refine x_call hJ 19 (hrk _ _ us _ (hrn.sees hJ.j.sees) (hna.sees hJ.j.sees)) (fun _ => by kernel_rfl) ?_; clear hJ a w; rintro _ h3 a w s4 ⟨b, rfl, hro⟩ hJ
  refine rx hJ false 7 [] [] (.ok (.ops [0, 0, 1, 1, 1, 1] 1) [.seq [1, 0, 1, 1, 1, 1], .seq [1, 1, 1, 1, 1]] [(0, .slice A len c), (2, Vz), (3, Vz), (4, Vi 0), (6, .slice An len cn), (7, Vs b len len), (20, Vs b len len)] [] []) trivial trivial (fun _ => by kernel_rfl) ?_
  clear hJ a w; intro a w hJ
  refine rx hJ false 15 [.cl 78 #[Vs b len len, .func (.func 79) #[] #[]] (.bool false)] [] (.ok (.out .ret) [] [(2, Vs b len len), (3, Vz), (4, Vi 0)] [] []) (And.intro (fun H sH => hcf b _ (hro.sees sH)) (trivial)) trivial (fun _ => by kernel_rfl) ?_
  clear hJ a w; intro a w hJ
  refine x_end (hQ [Vs b len len, Vz, Vi 0] _ [] hJ (.rtmp hJ.j (by kernel_rfl) (.rtmp hJ.j (by kernel_rfl) (.rtmp hJ.j (by kernel_rfl) .nil))) (no_own _) rfl ?_).1
  exact ⟨b, rfl, (hro.sees hJ.j.out)⟩

end Go.Proofs.Ytgjndkphfabnnaa
