/-
  For all raw things and kinds FoldLess returns true.
-/
import Derived.Test.YtgjndkphfabnnaaFold
import Derived.Test.YtgjndkphfabnnaaNmH
import Derived.Test.YtgjndkphfabnnaaFind
import Derived.Test.YtgjndkphfabnnaaLawX
namespace Go.Proofs.Ytgjndkphfabnnaa
open Go.RowKit

set_option maxHeartbeats 2000000 in
set_option maxRecDepth 100000 in
theorem foldLess_c (l : List RawD) (sl : Value) (kd : Int) (h : Vw) (hl : RS h 4 sl (l.map RawD.cs)) (ll : l.length * 40 ≤ reachBytes)
    (ol : ∀ r ∈ l, r.ok) (k0 : -9223372036854775808 ≤ kd) (k1 : kd ≤ 9223372036854775807) :
    C0 Try.prog 9 #[sl, .int .i64 kd] h (fun v _ => v = .bool true) := by
  have p0 := pickL_lo kd 3 (by omega)
  have p1 := pickL_hi kd 3 (by omega)
  have hpk := c_picked kd 3
  have hE := fun H v q g => expr_any l some5 ll ol (by decide) v g (1 + pickL kd 3) H q
  obtain ⟨xw, x1, x2⟩ := genE_ok l some5 some5_ok 3 (1 + pickL kd 3) 0 (by omega) (by omega)
  generalize (genE l some5 3 (1 + pickL kd 3) 0).1 = x at *
  have x1 : (szE x).1 ≤ 40 := x1
  have x2 : (szE x).2 ≤ 4 := x2
  have x0 := szE_pos x
  have yw := wf_fold xw
  obtain ⟨y1, y2⟩ := sz_fold xw
  have hF := fun H v q => foldX_any x v H q xw (by omega) (by omega)
  have hS := fun H v q => size_any _ x v H (Nat.le_refl _) q (by omega)
  have hT := fun H v q => size_any _ (foldE x) v H (Nat.le_refl _) q (by omega)
  have hck := fun H v q => check_any (foldE x) v H q yw (by omega)
  rw [show chkE (foldE x) = 0 from by unfold chkE; rw [if_neg (by omega), if_neg (by omega)]] at hck
  have hH := fun H v q s => has_any x v H q xw s
  have hG := fun H v q s => has_any (foldE x) v H q yw s
  have hsub : ∀ s, hasE (foldE x) s = true → hasE x s = true := fun s q => hasE_yes (refs_fold xw (hasE_iff.1 q))
  generalize foldE x = y at *
  obtain ⟨A1, cap1, rfl, -, -, -⟩ := hl.form
  rw [List.length_map] at *
  generalize l.length = n1 at *
  refine x_con Try.func9 (c := Try.f9.body.getD .skip) (by kernel_rfl) (N := 69) rfl (by kernel_rfl) ?_
  intro hbx hbad Q hQ a w hJ
  replace hJ : K ⟨69, h.w, h.bad, []⟩ [(0, .slice A1 n1 cap1), (1, .int .i64 kd)] [] [] h a w := hJ.to (by kernel_rfl) (by kernel_rfl) rfl
  refine rx hJ false 11 [.cl 16 #[.int .i64 kd, .int .i64 3] (.int .i64 (pickL kd 3))] [(17, .int .i64 (IntKind.i64.wrap (1 + (pickL kd 3))), .int .i64 (1 + (pickL kd 3)))] (.ok (.ops [0, 1] 4) [.seq [1, 1]] [(4, .bool false), (14, .slice A1 n1 cap1), (17, .int .i64 (1 + (pickL kd 3)))] [] []) (And.intro (fun H sH => hpk _ k0 k1 (by omega) (by omega)) (trivial)) (And.intro (i64_wrap (by omega) (by omega)) (trivial)) (fun _ => by kernel_rfl) ?_
  clear hJ a w; intro a w hJ
  refine x_call hJ 18 (some_any _) (fun _ => by kernel_rfl) ?_; clear hJ a w; rintro _ h1 a w s2 ⟨hfs, bs, rfl⟩ hJ
  refine x_call hJ 19 (hE _ _ (hl.sees (s2.trans hJ.j.sees)) _ (hfs.sees hJ.j.sees) (by omega) (by omega)) (fun _ => by kernel_rfl) ?_; clear hJ a w; rintro _ h3 a w s4 ⟨u, rfl, hx⟩ hJ
  refine rx hJ false 7 [.own, .b 0 0, .b 0 0] [] (.new fun b5 => .ok (.ops [0, 1, 1] 1) [.seq [1, 1, 1]] [(4, .bool false), (5, .pointer (some ⟨b5, 0, none⟩)), (21, .agg #[.int .i64 x.op, .int .i64 x.k, .int .i64 x.n, .string x.s, .string x.nm, .slice (sA u) (sN u) (sC u)])] [.box b5 [.int .i64 x.op, .int .i64 x.k, .int .i64 x.n, .string x.s, .string x.nm, .slice (sA u) (sN u) (sC u)]] []) trivial trivial (fun b5 _ => by kernel_rfl) ?_
  clear hJ a w; intro b5 a w hJ
  refine x_call hJ 22 (hF _ _ (hx.sees hJ.j.sees)) (fun _ => by kernel_rfl) ?_; clear hJ a w; rintro _ h6 a w s7 ⟨u2, rfl, hy⟩ hJ
  refine rx hJ false 11 [.own, .b 0 0, .b 1 0] [] (.new fun b8 => .ok (.ops [0, 1, 1, 1] 1) [.seq [1, 1, 1, 1]] [(4, .bool false), (5, .pointer (some ⟨b5, 0, none⟩)), (6, .pointer (some ⟨b8, 0, none⟩)), (7, .int .i64 0), (26, .agg #[.int .i64 x.op, .int .i64 x.k, .int .i64 x.n, .string x.s, .string x.nm, .slice (sA u) (sN u) (sC u)])] [.box b8 [.int .i64 y.op, .int .i64 y.k, .int .i64 y.n, .string y.s, .string y.nm, .slice (sA u2) (sN u2) (sC u2)], .box b5 [.int .i64 x.op, .int .i64 x.k, .int .i64 x.n, .string x.s, .string x.nm, .slice (sA u) (sN u) (sC u)]] []) trivial trivial (fun b8 _ => by kernel_rfl) ?_
  clear hJ a w; intro b8 a w hJ
  refine rx hJ false 46 [.cl 40 #[.agg #[.int .i64 x.op, .int .i64 x.k, .int .i64 x.n, .string x.s, .string x.nm, .slice (sA u) (sN u) (sC u)]] (.tuple #[.int .i64 ((szE x).1 : Int), .int .i64 ((szE x).2 : Int)]), .b 0 0, .cl 40 #[.agg #[.int .i64 y.op, .int .i64 y.k, .int .i64 y.n, .string y.s, .string y.nm, .slice (sA u2) (sN u2) (sC u2)]] (.tuple #[.int .i64 ((szE y).1 : Int), .int .i64 ((szE y).2 : Int)]), .b 0 0, .cl 41 #[.agg #[.int .i64 y.op, .int .i64 y.k, .int .i64 y.n, .string y.s, .string y.nm, .slice (sA u2) (sN u2) (sC u2)]] (.int .i64 0)] [(39, .bool (decide (((szE x).1 : Int) < 1)), .bool false), (44, .bool (decide (((szE y).1 : Int) > ((szE x).1 : Int))), .bool false)] (.ok (.ops [0, 0, 1, 1, 1, 1, 1, 1] 0) [.seq [1, 0, 1, 1, 1, 1, 1, 1], .seq [1, 1, 1, 1, 1, 1, 1]] [(4, .bool false), (5, .pointer (some ⟨b5, 0, none⟩)), (6, .pointer (some ⟨b8, 0, none⟩))] [.box b8 [.int .i64 y.op, .int .i64 y.k, .int .i64 y.n, .string y.s, .string y.nm, .slice (sA u2) (sN u2) (sC u2)], .box b5 [.int .i64 x.op, .int .i64 x.k, .int .i64 x.n, .string x.s, .string x.nm, .slice (sA u) (sN u) (sC u)]] []) (And.intro (fun H sH => hS _ _ (hx.sees (s7.trans sH))) (And.intro (fun H sH => hT _ _ (hy.sees sH)) (And.intro (fun H sH => hck _ _ (hy.sees sH)) (trivial)))) (And.intro (congrArg Value.bool (decide_eq_false (by omega))) (And.intro (congrArg Value.bool (decide_eq_false (by omega))) (trivial))) (fun _ => by kernel_rfl) ?_
  clear hJ a w; intro a w hJ
  refine x_call hJ 51 (some_any _) (fun _ => by kernel_rfl) ?_; clear hJ a w; rintro _ h9 a w s10 ⟨hfs2, bs2, rfl⟩ hJ
  refine rx hJ false 5 [] [] (.ok (.code [0, 1, 0, 1, 1, 1, 1, 1, 1]) [.block 0, .seq [1, 1, 1, 1, 1, 1, 1]] [(4, .bool false), (5, .pointer (some ⟨b5, 0, none⟩)), (6, .pointer (some ⟨b8, 0, none⟩)), (51, .slice (some ⟨bs2, 0, none⟩) 5 5), (52, .int .i64 5), (53, .int .i64 0)] [.box b8 [.int .i64 y.op, .int .i64 y.k, .int .i64 y.n, .string y.s, .string y.nm, .slice (sA u2) (sN u2) (sC u2)], .box b5 [.int .i64 x.op, .int .i64 x.k, .int .i64 x.n, .string x.s, .string x.nm, .slice (sA u) (sN u) (sC u)]] []) trivial trivial (fun _ => by kernel_rfl) ?_
  clear hJ a w; intro a w hJ
  obtain ⟨vs, A3, c3, e3, -, -, hr3, hs3, hl3, -⟩ := fds_open hfs2
  simp only [Value.slice.injEq] at e3
  obtain ⟨rfl, -, rfl⟩ := e3
  refine x_loop (fun (k : Nat) a w => ∃ (h11 : Vw) , K ⟨69, h.w, h.bad, []⟩ [(5, .pointer (some ⟨b5, 0, none⟩)), (6, .pointer (some ⟨b8, 0, none⟩)), (51, .slice (some ⟨bs2, 0, none⟩) 5 5), (52, .int .i64 5), (53, .int .i64 (k : Int))] [.box b8 [.int .i64 y.op, .int .i64 y.k, .int .i64 y.n, .string y.s, .string y.nm, .slice (sA u2) (sN u2) (sC u2)], .box b5 [.int .i64 x.op, .int .i64 x.k, .int .i64 x.n, .string x.s, .string x.nm, .slice (sA u) (sN u) (sC u)]] [] h11 a w ∧ Sees h9 h11 ∧ (k ≤ 5)) (fun k => 5 - k) (0) (by kernel_rfl) ⟨h9, hJ.to (by kernel_rfl) (by kernel_rfl) rfl, Sees.refl _, Nat.zero_le _⟩ ?_
  clear hJ a w; rintro k a w ⟨h11, hJ, s12, hk⟩
  refine rx hJ false 6 [] [] (.ok (.code [0, 1, 0, 0, 1, 0, 1, 1, 1, 1, 1, 1]) [.seq [1, 1, 0, 0, 1, 0, 1, 1, 1, 1, 1, 1]] [(5, .pointer (some ⟨b5, 0, none⟩)), (6, .pointer (some ⟨b8, 0, none⟩)), (51, .slice (some ⟨bs2, 0, none⟩) 5 5), (52, .int .i64 5), (53, .int .i64 (k : Int)), (54, .bool (decide ((k : Int) < 5)))] [.box b8 [.int .i64 y.op, .int .i64 y.k, .int .i64 y.n, .string y.s, .string y.nm, .slice (sA u2) (sN u2) (sC u2)], .box b5 [.int .i64 x.op, .int .i64 x.k, .int .i64 x.n, .string x.s, .string x.nm, .slice (sA u) (sN u) (sC u)]] []) trivial trivial (fun _ => by kernel_rfl) ?_
  clear hJ a w; intro a w hJ
  rcases (by omega : k < 5 ∨ k = 5) with hlt | hke
  · obtain ⟨f, hf⟩ : ∃ f, some5[k]? = some f := ⟨_, List.getElem?_eq_getElem hlt⟩
    obtain ⟨v, hv⟩ : ∃ v, vs[k]? = some v := ⟨_, List.getElem?_eq_getElem (by rw [hl3]; exact hlt)⟩
    have hrow := fdRows_get hf hv
    have hsl := (AllArgs.get hs3 (x := f.src) (by rw [List.getElem?_map, hf]; rfl) hv).slice
    obtain ⟨Av, nv, cv, rfl⟩ := hsl
    by_cases g : hasE y f.name = true
    · have hG1 := fun H v q => hG H v q f.name
      have hH1 := fun H v q => hH H v q f.name
      rw [g] at hG1
      rw [hsub _ g] at hH1
      refine x_true hJ (t := decide ((k : Int) < 5)) (by kernel_rfl) (decide_eq_true (by omega)) ?_
      refine rx hJ false 6 [] [] (.ok (.ops [0, 0, 0, 1, 1, 0, 0, 1, 0, 1, 1, 1, 1, 1, 1] 0) [.seq [1, 0, 0, 1, 1, 0, 0, 1, 0, 1, 1, 1, 1, 1, 1], .block 1, .seq [1, 1, 1, 0, 0, 1, 0, 1, 1, 1, 1, 1, 1]] [(5, .pointer (some ⟨b5, 0, none⟩)), (6, .pointer (some ⟨b8, 0, none⟩)), (51, .slice (some ⟨bs2, 0, none⟩) 5 5), (52, .int .i64 5), (53, .int .i64 (k : Int)), (54, .bool (decide ((k : Int) < 5)))] [.box b8 [.int .i64 y.op, .int .i64 y.k, .int .i64 y.n, .string y.s, .string y.nm, .slice (sA u2) (sN u2) (sC u2)], .box b5 [.int .i64 x.op, .int .i64 x.k, .int .i64 x.n, .string x.s, .string x.nm, .slice (sA u) (sN u) (sC u)]] []) trivial trivial (fun _ => by kernel_rfl) ?_
      clear hJ a w; intro a w hJ
      have c13 := RS.cell hr3 (hrow)
      replace hJ := hJ.fact (c13.sees s12)
      refine rx hJ false 29 [.ix bs2 0 5 5 k, .f 0 0, .own, .b 0 0, .b 1 0, .b 0 0, .cl 23 #[.agg #[.int .i64 y.op, .int .i64 y.k, .int .i64 y.n, .string y.s, .string y.nm, .slice (sA u2) (sN u2) (sC u2)], .string f.name] (.bool true), .b 2 0, .b 0 0, .cl 23 #[.agg #[.int .i64 x.op, .int .i64 x.k, .int .i64 x.n, .string x.s, .string x.nm, .slice (sA u) (sN u) (sC u)], .string f.name] (.bool true)] [(68, .int .i64 (IntKind.i64.wrap ((k : Int) + 1)), .int .i64 ((k : Int) + 1))] (.new fun b14 => .ok (.out .normal) [] [(5, .pointer (some ⟨b5, 0, none⟩)), (6, .pointer (some ⟨b8, 0, none⟩)), (51, .slice (some ⟨bs2, 0, none⟩) 5 5), (52, .int .i64 5), (54, .bool (decide ((k : Int) < 5))), (55, .pointer (some ⟨bs2, 0 + k * 9, none⟩)), (56, .agg #[.string f.name, .int .i64 f.kind, .int .i64 f.ty, .int .i64 f.src.op, .int .i64 f.src.k, .int .i64 f.src.n, .string f.src.s, .string f.src.nm, .slice Av nv cv]), (13, .pointer (some ⟨b14, 0, none⟩)), (57, .agg #[.int .i64 y.op, .int .i64 y.k, .int .i64 y.n, .string y.s, .string y.nm, .slice (sA u2) (sN u2) (sC u2)]), (58, .pointer (some ⟨b14, 0, none⟩)), (59, .string f.name), (60, .bool true), (61, .bool true), (62, .agg #[.int .i64 x.op, .int .i64 x.k, .int .i64 x.n, .string x.s, .string x.nm, .slice (sA u) (sN u) (sC u)]), (63, .pointer (some ⟨b14, 0, none⟩)), (64, .string f.name), (65, .bool true), (66, .bool false), (67, .bool false), (68, .int .i64 ((k : Int) + 1)), (53, .int .i64 ((k : Int) + 1))] [.box b14 [.string f.name, .int .i64 f.kind, .int .i64 f.ty, .int .i64 f.src.op, .int .i64 f.src.k, .int .i64 f.src.n, .string f.src.s, .string f.src.nm, .slice Av nv cv], .box b8 [.int .i64 y.op, .int .i64 y.k, .int .i64 y.n, .string y.s, .string y.nm, .slice (sA u2) (sN u2) (sC u2)], .box b5 [.int .i64 x.op, .int .i64 x.k, .int .i64 x.n, .string x.s, .string x.nm, .slice (sA u) (sN u) (sC u)]] [(bs2, 0 + k * 9, [.string f.name, .int .i64 f.kind, .int .i64 f.ty, .int .i64 f.src.op, .int .i64 f.src.k, .int .i64 f.src.n, .string f.src.s, .string f.src.nm, .slice Av nv cv])]) (And.intro (by first | omega | (simp; omega)) (And.intro (fun H sH => hG1 _ _ (hy.sees (s10.trans (s12.trans sH)))) (And.intro (fun H sH => hH1 _ _ (hx.sees (s7.trans (s10.trans (s12.trans sH))))) (trivial)))) (And.intro (i64_wrap (by omega) (by omega)) (trivial)) (fun b14 _ => by kernel_rfl) ?_
      clear hJ a w; intro b14 a w hJ
      replace hJ := hJ.drop 0
      exact x_round ⟨k + 1, ⟨h11, (hJ.tof [] (F' := []) (by kernel_rfl)).to (by kernel_rfl) (by kernel_rfl) rfl, s12, by omega⟩, by omega⟩
    · skip
      have hG1 := fun H v q => hG H v q f.name
      rw [show hasE y f.name = false by simpa using g] at hG1
      refine x_true hJ (t := decide ((k : Int) < 5)) (by kernel_rfl) (decide_eq_true (by omega)) ?_
      refine rx hJ false 6 [] [] (.ok (.ops [0, 0, 0, 1, 1, 0, 0, 1, 0, 1, 1, 1, 1, 1, 1] 0) [.seq [1, 0, 0, 1, 1, 0, 0, 1, 0, 1, 1, 1, 1, 1, 1], .block 1, .seq [1, 1, 1, 0, 0, 1, 0, 1, 1, 1, 1, 1, 1]] [(5, .pointer (some ⟨b5, 0, none⟩)), (6, .pointer (some ⟨b8, 0, none⟩)), (51, .slice (some ⟨bs2, 0, none⟩) 5 5), (52, .int .i64 5), (53, .int .i64 (k : Int)), (54, .bool (decide ((k : Int) < 5)))] [.box b8 [.int .i64 y.op, .int .i64 y.k, .int .i64 y.n, .string y.s, .string y.nm, .slice (sA u2) (sN u2) (sC u2)], .box b5 [.int .i64 x.op, .int .i64 x.k, .int .i64 x.n, .string x.s, .string x.nm, .slice (sA u) (sN u) (sC u)]] []) trivial trivial (fun _ => by kernel_rfl) ?_
      clear hJ a w; intro a w hJ
      have c15 := RS.cell hr3 (hrow)
      replace hJ := hJ.fact (c15.sees s12)
      refine rx hJ false 29 [.ix bs2 0 5 5 k, .f 0 0, .own, .b 0 0, .b 1 0, .b 0 0, .cl 23 #[.agg #[.int .i64 y.op, .int .i64 y.k, .int .i64 y.n, .string y.s, .string y.nm, .slice (sA u2) (sN u2) (sC u2)], .string f.name] (.bool false)] [(68, .int .i64 (IntKind.i64.wrap ((k : Int) + 1)), .int .i64 ((k : Int) + 1))] (.new fun b16 => .ok (.out .normal) [] [(5, .pointer (some ⟨b5, 0, none⟩)), (6, .pointer (some ⟨b8, 0, none⟩)), (51, .slice (some ⟨bs2, 0, none⟩) 5 5), (52, .int .i64 5), (54, .bool (decide ((k : Int) < 5))), (55, .pointer (some ⟨bs2, 0 + k * 9, none⟩)), (56, .agg #[.string f.name, .int .i64 f.kind, .int .i64 f.ty, .int .i64 f.src.op, .int .i64 f.src.k, .int .i64 f.src.n, .string f.src.s, .string f.src.nm, .slice Av nv cv]), (13, .pointer (some ⟨b16, 0, none⟩)), (57, .agg #[.int .i64 y.op, .int .i64 y.k, .int .i64 y.n, .string y.s, .string y.nm, .slice (sA u2) (sN u2) (sC u2)]), (58, .pointer (some ⟨b16, 0, none⟩)), (59, .string f.name), (60, .bool false), (61, .bool false), (67, .bool false), (68, .int .i64 ((k : Int) + 1)), (53, .int .i64 ((k : Int) + 1))] [.box b16 [.string f.name, .int .i64 f.kind, .int .i64 f.ty, .int .i64 f.src.op, .int .i64 f.src.k, .int .i64 f.src.n, .string f.src.s, .string f.src.nm, .slice Av nv cv], .box b8 [.int .i64 y.op, .int .i64 y.k, .int .i64 y.n, .string y.s, .string y.nm, .slice (sA u2) (sN u2) (sC u2)], .box b5 [.int .i64 x.op, .int .i64 x.k, .int .i64 x.n, .string x.s, .string x.nm, .slice (sA u) (sN u) (sC u)]] [(bs2, 0 + k * 9, [.string f.name, .int .i64 f.kind, .int .i64 f.ty, .int .i64 f.src.op, .int .i64 f.src.k, .int .i64 f.src.n, .string f.src.s, .string f.src.nm, .slice Av nv cv])]) (And.intro (by first | omega | (simp; omega)) (And.intro (fun H sH => hG1 _ _ (hy.sees (s10.trans (s12.trans sH)))) (trivial))) (And.intro (i64_wrap (by omega) (by omega)) (trivial)) (fun b16 _ => by kernel_rfl) ?_
      clear hJ a w; intro b16 a w hJ
      replace hJ := hJ.drop 0
      exact x_round ⟨k + 1, ⟨h11, (hJ.tof [] (F' := []) (by kernel_rfl)).to (by kernel_rfl) (by kernel_rfl) rfl, s12, by omega⟩, by omega⟩
  · skip
    refine x_false hJ (t := decide ((k : Int) < 5)) (by kernel_rfl) (decide_eq_false (by omega)) ?_
    refine rx hJ false 2 [] [] (.ok (.out (.exit 0)) [] [(5, .pointer (some ⟨b5, 0, none⟩)), (6, .pointer (some ⟨b8, 0, none⟩)), (51, .slice (some ⟨bs2, 0, none⟩) 5 5), (52, .int .i64 5), (53, .int .i64 (k : Int)), (54, .bool (decide ((k : Int) < 5)))] [.box b8 [.int .i64 y.op, .int .i64 y.k, .int .i64 y.n, .string y.s, .string y.nm, .slice (sA u2) (sN u2) (sC u2)], .box b5 [.int .i64 x.op, .int .i64 x.k, .int .i64 x.n, .string x.s, .string x.nm, .slice (sA u) (sN u) (sC u)]] []) trivial trivial (fun _ => by kernel_rfl) ?_
    clear hJ a w; intro a w hJ
    refine x_leave rfl ?_
    refine rx hJ false 8 [] [] (.ok (.out .ret) [] [(4, .bool true)] [.box b8 [.int .i64 y.op, .int .i64 y.k, .int .i64 y.n, .string y.s, .string y.nm, .slice (sA u2) (sN u2) (sC u2)], .box b5 [.int .i64 x.op, .int .i64 x.k, .int .i64 x.n, .string x.s, .string x.nm, .slice (sA u) (sN u) (sC u)]] []) trivial trivial (fun _ => by kernel_rfl) ?_
    clear hJ a w; intro a w hJ
    refine x_end (hQ [.bool true] _ [] hJ (.rtmp hJ.j (by kernel_rfl) .nil) (no_own _) rfl ?_).1
    exact rfl

theorem foldLess_walk (v : Value) (l : List RawD) (kd : Int) (w : World) (h : RawsOf w v l) (k0 : -9223372036854775808 ≤ kd) (k1 : kd ≤ 9223372036854775807) :
    Calls Try.prog 9 #[v, .int .i64 kd] w fun e w' => e = .returned (.bool true) ∧ Below w.heap.size w w' :=
  C0.law (foldLess_c l v kd ⟨w, []⟩ h.rs h.2.1 h.2.2 k0 k1)

namespace foldLessLaw
open Go.ChangeShapes Go.WideShapes Go.ChangeAt Go.RowKit
open Go.ChangeMaps (open_string shut_string)
set_option linter.unusedVariables false

set_option maxRecDepth 100000 in
theorem lifted (os : Os) (started : os.Started) (H : Type) (enc : TypeId × Value → H) :
    ReturnsInHanded {} Try.checked os 9 .any (Rows.foldLessSpec.pre6 enc Try.prog Try.f9 Rows.foldLessRow.domain false) (Rows.foldLessSpec.post enc Try.prog Try.f9 false true false false) := by
  refine returnsInHanded_of_change_sized (C := Try.checked) ownNone started (by kernel_rfl) Try.func9
    (ChangeSpec.witness6 (enc := enc) (C := Try.checked) false ⟨#[], #[.slice none 0 0, .int .i64 0], []⟩ 8 (by kernel_rfl) (by kernel_rfl) (by kernel_rfl) (by kernel_rfl)) ?_
  intro W base args ds gs before hval0 hW hcnd hsz0 _
  have hval : ∀ (j : Nat) t v, Try.f9.params[j]? = some t → args[j]? = some v → Value.okWide Try.prog W .any base t v := hval0
  have hsz : (DataW.weightsEach Try.prog (Try.f9.params.toList ++ Rows.foldLessSpec.plain.varTypes Try.prog) (ds ++ gs)).all (· ≤ reachBytes) = true := hsz0
  have hW' := hW
  obtain ⟨p, q, hA0, hV, rfl, hfz, hnd⟩ := hW
  have hA : DataW.TrodAll enc Try.prog W 0 (fun _ => true) true Try.f9.params.toList args.toList ds p := hA0
  rw [Try.params9] at hA hval hsz
  obtain ⟨v0, vs0, d0, ds0, p0, q0, hargs, rfl, rfl, h0, r0⟩ := trodAll_cons hA
  obtain ⟨v1, vs1, d1, ds1, p1, q1, rfl, rfl, rfl, h1, r1⟩ := trodAll_cons r0
  obtain ⟨rfl, rfl, rfl⟩ := trodAll_nil r1
  obtain rfl : args = #[v0, v1] := by cases args; simp_all
  obtain ⟨rfl, rfl⟩ := trodVars_none hV
  have k0 := h0
  have lt0 : ∀ x ∈ p0, x.block < W.heap.size := by obtain ⟨m, hm⟩ := k0; exact DataW.trod_lt m _ _ _ hm
  obtain ⟨a0, w0⟩ := open_rows (hval 0 22 v0 rfl rfl) h0 (fun es ss hd => sized_slice hsz (j := 0) (t := 22) (elems := es) (spare := ss) rfl (by rw [hd]; rfl) Try.underlying22)
  have k1 := h1
  have lt1 : ∀ x ∈ p1, x.block < W.heap.size := by obtain ⟨m, hm⟩ := k1; exact DataW.trod_lt m _ _ _ hm
  obtain ⟨a1, rfl, -, -, w1⟩ := open_int Try.underlying3 (hval 1 3 v1 rfl rfl) h1
  clear hA0 hval0 hsz0
  refine (foldLess_walk v0 a0 a1 W w0 (int_lo w1) (int_hi w1)).mono fun e W' ⟨he, bel⟩ => ?_
  subst he
  exact ⟨_, rfl, _, _, _, [], _, [], hW', trodAll_mk1 (shut_bool Try.underlying4 _), (trodAll_cons_mk (Below.trod laidOutTrue (by kernel_rfl) (of_decide_eq_true (by kernel_rfl)) k0 bel lt0) (trodAll_cons_mk (Below.trod laidOutTrue (by kernel_rfl) (of_decide_eq_true (by kernel_rfl)) k1 bel lt1) trodAll_mk0)), rfl, bel.frame _, fun h => by cases h⟩

theorem over : Rows.foldLessRow.holds Try.pinned (OpenSpec.ofChange Rows.foldLessSpec) :=
  OpenClaim.holds_of_wide 9 Try.f9 rfl rfl rfl rfl rfl rfl rfl ⟨rfl, rfl, rfl, rfl, rfl⟩ rfl rfl rfl rfl rfl (by kernel_rfl) Try.func9 (by kernel_rfl)
    (of_decide_eq_true (by kernel_rfl)) (by unfold Func.isWrapper; first | (rw [if_pos (by decide +kernel)]; kernel_rfl) | (rw [if_neg (by decide +kernel)]; exact ⟨rfl, rfl⟩))
    (fun os started H enc _ => lifted os started H enc)

end foldLessLaw
theorem foldLess_holds : Rows.FoldLessSaid := foldLessLaw.over
#print axioms foldLess_holds
end Go.Proofs.Ytgjndkphfabnnaa
