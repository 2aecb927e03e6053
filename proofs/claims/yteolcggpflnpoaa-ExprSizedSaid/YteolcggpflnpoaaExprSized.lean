/-
  For all raw things and numbers ExprSized returns true: the number of nodes of a formula is one more than those of its operands, and its depth is one more than the greatest depth of its operands. No condition.
-/
import Derived.Test.YteolcggpflnpoaaSome
import Derived.Test.YteolcggpflnpoaaLawX
namespace Go.Proofs.Yteolcggpflnpoaa
open Go.RowKit

set_option maxRecDepth 100000 in
theorem parts_none (h : Vw) : C0 Try.prog 40 #[.agg #[.int .i64 0, .int .i64 0, .int .i64 0, .string ⟨#[]⟩, .string ⟨#[]⟩, .slice none 0 0]] h (fun r _ => r = .int .i64 2) := by
  refine x_con Try.func40 (c := Try.f40.body.getD .skip) (by kernel_rfl) (N := 25) rfl (by kernel_rfl) ?_
  intro hbx hbad Q hQ a w hJ
  replace hJ : K ⟨25, h.w, h.bad, []⟩ [(0, .agg #[.int .i64 0, .int .i64 0, .int .i64 0, .string ⟨#[]⟩, .string ⟨#[]⟩, .slice none 0 0])] [] [] h a w := hJ.to (by kernel_rfl) (by kernel_rfl) rfl
  refine rx hJ true 29 [.fix, .f 0 0, .cl 63 #[.agg #[.int .i64 0, .int .i64 0, .int .i64 0, .string ⟨#[]⟩, .string ⟨#[]⟩, .slice none 0 0]] (.int .i64 2)] [] (.new fun b1 => .ok (.out .ret) [] [(2, .int .i64 2)] [] [(b1, 0, [.int .i64 0, .int .i64 0, .int .i64 0, .string ⟨#[]⟩, .string ⟨#[]⟩, .slice none 0 0])]) (And.intro (fun H sH => part_none _) (trivial)) trivial (fun b1 _ => by kernel_rfl) ?_
  clear hJ a w; intro b1 h2 a w s3 hJ
  refine x_end (hQ [.int .i64 2] [] [] hJ (.rtmp hJ.j (by kernel_rfl) .nil) (by kernel_rfl) (by kernel_rfl) ?_).1
  exact rfl
set_option maxRecDepth 100000 in
theorem check_none (h : Vw) : C0 Try.prog 22 #[.agg #[.int .i64 0, .int .i64 0, .int .i64 0, .string ⟨#[]⟩, .string ⟨#[]⟩, .slice none 0 0]] h (fun r _ => r = .int .i64 2) := by
  have hse := fun H => size_any 1 zE (.slice none 0 0) H (Nat.le_refl _) (args_nil _ _ rfl) (by decide)
  refine x_con Try.func22 (c := Try.f22.body.getD .skip) (by kernel_rfl) (N := 16) rfl (by kernel_rfl) ?_
  intro hbx hbad Q hQ a w hJ
  replace hJ : K ⟨16, h.w, h.bad, []⟩ [(0, .agg #[.int .i64 0, .int .i64 0, .int .i64 0, .string ⟨#[]⟩, .string ⟨#[]⟩, .slice none 0 0])] [] [] h a w := hJ.to (by kernel_rfl) (by kernel_rfl) rfl
  refine rx hJ true 45 [.fix, .f 0 0, .cl 21 #[.agg #[.int .i64 0, .int .i64 0, .int .i64 0, .string ⟨#[]⟩, .string ⟨#[]⟩, .slice none 0 0]] (.tuple #[.int .i64 1, .int .i64 1]), .f 0 0, .cl 40 #[.agg #[.int .i64 0, .int .i64 0, .int .i64 0, .string ⟨#[]⟩, .string ⟨#[]⟩, .slice none 0 0]] (.int .i64 2)] [] (.new fun b1 => .ok (.out .ret) [] [(2, .int .i64 2)] [] [(b1, 0, [.int .i64 0, .int .i64 0, .int .i64 0, .string ⟨#[]⟩, .string ⟨#[]⟩, .slice none 0 0])]) (And.intro (fun H sH => hse _) (And.intro (fun H sH => parts_none _) (trivial))) trivial (fun b1 _ => by kernel_rfl) ?_
  clear hJ a w; intro b1 h2 a w s3 hJ
  refine x_end (hQ [.int .i64 2] [] [] hJ (.rtmp hJ.j (by kernel_rfl) .nil) (by kernel_rfl) (by kernel_rfl) ?_).1
  exact rfl

theorem some5_ok : ∀ f ∈ some5, NameOk f.name.data.toList := fun f hf => by
  simp [some5] at hf
  rcases hf with rfl | rfl | rfl | rfl | rfl <;> exact ⟨by decide, by decide, ⟨_, rfl, by decide⟩, by decide, by decide⟩
/-- The law's formula: its contract, what it is. -/
theorem law_expr (l : List RawD) (hlen : l.length * 40 ≤ reachBytes) (hok : ∀ r ∈ l, r.ok) (kind : Int) (h1 : 1 ≤ kind) (h3 : kind ≤ 3) :
    ∃ x : Ex, WfE x ∧ (szE x).1 ≤ 40 ∧ (szE x).2 ≤ 4 ∧ ∀ H sl fv, RS H 4 sl (l.map RawD.cs) → IsFds H fv some5 → C0 Try.prog 18 #[sl, .int .i64 kind, fv] H (fun v h' => ∃ A c vs, v = .agg #[.int .i64 x.op, .int .i64 x.k, .int .i64 x.n, .string x.s, .string x.nm, .slice A x.args.length c] ∧ RS h' 6 (.slice A x.args.length c) (exRows x.args vs) ∧ AllArgs h' x.args vs) := by
  obtain ⟨g1, g2, g3⟩ := genE_ok l some5 some5_ok 3 kind 0 h1 h3
  refine ⟨_, g1, g2, g3, fun H sl fv hr hf => (expr_any l some5 hlen hok (by decide) sl fv kind H hr hf h1 h3).mono ?_⟩
  rintro v h' - ⟨u, rfl, ha⟩
  obtain ⟨vs, hrs, hvs⟩ := ha.form
  obtain ⟨A, c, e, -⟩ := hrs.form
  rw [exRows_len hvs.len] at e
  rw [e] at hrs ⊢
  exact ⟨A, c, vs, rfl, hrs, hvs⟩

set_option maxRecDepth 100000 in
theorem exprSized_c (l : List RawD) (sl : Value) (kd : Int) (h : Vw) (hr : RS h 4 sl (l.map RawD.cs)) (hlen : l.length * 40 ≤ reachBytes) (hok : ∀ r ∈ l, r.ok) (k0 : -9223372036854775808 ≤ kd) (k1 : kd ≤ 9223372036854775807) :
    C0 Try.prog 4 #[sl, .int .i64 kd] h (fun v _ => v = .bool true) := by
  have p0 := pickL_lo kd 3 (by omega)
  have p1 := pickL_hi kd 3 (by omega)
  have hpk := c_picked kd 3
  obtain ⟨x, xw, x1, x2, hE⟩ := law_expr l hlen hok (1 + pickL kd 3) (by omega) (by omega)
  have hs1 := size_any 40
  have hck := check_any x
  have hc0 : chkE x = 0 := by unfold chkE; rw [if_neg (by omega), if_neg (by omega)]
  rw [hc0] at hck
  have hsz := szE_eq x
  have hlen := szL_len x.args
  obtain ⟨A0, cap, rfl, -, -, -⟩ := hr.form
  rw [List.length_map] at *
  generalize l.length = len0 at *
  generalize hL : x.args.length = len at *
  refine x_con Try.func4 (c := Try.f4.body.getD .skip) (by kernel_rfl) (N := 67) rfl (by kernel_rfl) ?_
  intro hbx hbad Q hQ a w hJ
  replace hJ : K ⟨67, h.w, h.bad, []⟩ [(0, .slice A0 len0 cap), (1, .int .i64 kd)] [] [] h a w := hJ.to (by kernel_rfl) (by kernel_rfl) rfl
  refine rx hJ false 11 [.cl 19 #[.int .i64 kd, .int .i64 3] (.int .i64 (pickL kd 3))] [(17, .int .i64 (IntKind.i64.wrap (1 + (pickL kd 3))), .int .i64 (1 + (pickL kd 3)))] (.ok (.ops [0, 1] 4) [.seq [1, 1]] [(4, .bool false), (14, .slice A0 len0 cap), (17, .int .i64 (1 + (pickL kd 3)))] [] []) (And.intro (fun H sH => hpk _ k0 k1 (by omega) (by omega)) (trivial)) (And.intro (i64_wrap (by omega) (by omega)) (trivial)) (fun _ => by kernel_rfl) ?_
  clear hJ a w; intro a w hJ
  refine x_call hJ 18 (f := 20) (args := #[]) (some_any _) (fun _ => by kernel_rfl) ?_; clear hJ a w; rintro _ h1 a w s2 ⟨hfs, b, rfl⟩ hJ
  refine x_call hJ 19 (f := 18) (args := #[.slice A0 len0 cap, .int .i64 (1 + (pickL kd 3)), .slice (some ⟨b, 0, none⟩) 5 5]) (hE _ _ _ (hr.sees (s2.trans hJ.j.sees)) (hfs.sees hJ.j.sees)) (fun _ => by kernel_rfl) ?_; clear hJ a w; rintro _ h3 a w s4 ⟨A, c, vs, rfl, hrs, hvs⟩ hJ
  refine rx hJ false 7 [.own, .b 0 0, .b 0 0] [] (.new fun b5 => .ok (.ops [0, 1, 1] 1) [.seq [1, 1, 1]] [(4, .bool false), (5, .pointer (some ⟨b5, 0, none⟩)), (21, .agg #[.int .i64 x.op, .int .i64 x.k, .int .i64 x.n, .string x.s, .string x.nm, .slice A len c])] [.box b5 [.int .i64 x.op, .int .i64 x.k, .int .i64 x.n, .string x.s, .string x.nm, .slice A len c]] []) trivial trivial (fun b5 _ => by kernel_rfl) ?_
  clear hJ a w; intro b5 a w hJ
  refine rx hJ false 24 [.cl 21 #[.agg #[.int .i64 x.op, .int .i64 x.k, .int .i64 x.n, .string x.s, .string x.nm, .slice A len c]] (.tuple #[.int .i64 ((szE x).1 : Int), .int .i64 ((szE x).2 : Int)]), .b 0 5] [] (.ok (.code [0, 1, 0, 1, 1, 1, 1]) [.block 0, .seq [1, 1, 1, 1, 1]] [(4, .bool false), (5, .pointer (some ⟨b5, 0, none⟩)), (6, .int .i64 ((szE x).1 : Int)), (7, .int .i64 ((szE x).2 : Int)), (8, .int .i64 1), (9, .int .i64 0), (26, .slice A len c), (27, .int .i64 (len : Int)), (28, .int .i64 0)] [.box b5 [.int .i64 x.op, .int .i64 x.k, .int .i64 x.n, .string x.s, .string x.nm, .slice A len c]] []) (And.intro (fun H sH => hs1 x _ _ (by omega) (IsArgs.mk (x := x) (hrs.sees sH) (hvs.sees sH)) (by omega)) (trivial)) trivial (fun _ => by kernel_rfl) ?_
  clear hJ a w; intro a w hJ
  refine x_loop (fun (k : Nat) a w => ∃ (h6 : Vw) , K ⟨67, h.w, h.bad, []⟩ [(4, .bool false), (5, .pointer (some ⟨b5, 0, none⟩)), (6, .int .i64 ((szE x).1 : Int)), (7, .int .i64 ((szE x).2 : Int)), (26, .slice A len c), (27, .int .i64 (len : Int)), (28, .int .i64 (k : Int)), (8, .int .i64 ((1 + (szL (x.args.take k)).1 : Nat) : Int)), (9, .int .i64 ((szL (x.args.take k)).2 : Int))] [.box b5 [.int .i64 x.op, .int .i64 x.k, .int .i64 x.n, .string x.s, .string x.nm, .slice A len c]] [] h6 a w ∧ Sees h3 h6 ∧ (k ≤ len)) (fun k => len - k) (0) (by kernel_rfl) ⟨h3, hJ.to (by kernel_rfl) (by kernel_rfl) rfl, Sees.refl _, Nat.zero_le _⟩ ?_
  clear hJ a w; rintro k a w ⟨h6, hJ, s7, hk⟩
  refine rx hJ false 6 [] [] (.ok (.code [0, 1, 0, 0, 1, 0, 1, 1, 1, 1]) [.seq [1, 1, 0, 0, 1, 0, 1, 1, 1, 1]] [(4, .bool false), (5, .pointer (some ⟨b5, 0, none⟩)), (6, .int .i64 ((szE x).1 : Int)), (7, .int .i64 ((szE x).2 : Int)), (26, .slice A len c), (27, .int .i64 (len : Int)), (28, .int .i64 (k : Int)), (8, .int .i64 ((1 + (szL (x.args.take k)).1 : Nat) : Int)), (9, .int .i64 ((szL (x.args.take k)).2 : Int)), (29, .bool (decide ((k : Int) < (len : Int))))] [.box b5 [.int .i64 x.op, .int .i64 x.k, .int .i64 x.n, .string x.s, .string x.nm, .slice A len c]] []) trivial trivial (fun _ => by kernel_rfl) ?_
  clear hJ a w; intro a w hJ
  have htk := szL_take x.args k
  have hvl := hvs.len
  rcases (by omega : k < len ∨ len = k) with hlt | hke
  · obtain ⟨y, hy⟩ : ∃ y, x.args[k]? = some y := ⟨_, List.getElem?_eq_getElem (by omega)⟩
    obtain ⟨u, hu⟩ : ∃ u, vs[k]? = some u := ⟨_, List.getElem?_eq_getElem (by omega)⟩
    have hyu := AllArgs.get hvs hy hu
    obtain ⟨Au, nu, cu, rfl⟩ := hyu.slice
    have hym := szL_mem (List.mem_of_getElem? hy)
    have hrow : (exRows x.args vs)[k]? = some (exRow y (.slice Au nu cu)) := by show (List.zipWith exRow _ _)[k]? = _; rw [List.getElem?_zipWith, hy, hu]
    have hsn := szL_snoc y (x.args.take k)
    rw [← take_snoc' _ k y hy] at hsn
    have hsn1 := congrArg Prod.fst hsn
    have hsn2 := congrArg Prod.snd hsn
    have htk2 := szL_take x.args (k + 1)
    simp only at hsn1 hsn2
    rw [hsz] at x1 x2
    simp only at x1 x2
    refine x_true hJ (t := decide ((k : Int) < (len : Int))) (by kernel_rfl) (decide_eq_true (by omega)) ?_
    refine rx hJ false 6 [] [] (.ok (.ops [0, 0, 0, 1, 1, 0, 0, 1, 0, 1, 1, 1, 1] 0) [.seq [1, 0, 0, 1, 1, 0, 0, 1, 0, 1, 1, 1, 1], .block 1, .seq [1, 1, 1, 0, 0, 1, 0, 1, 1, 1, 1]] [(4, .bool false), (5, .pointer (some ⟨b5, 0, none⟩)), (6, .int .i64 ((szE x).1 : Int)), (7, .int .i64 ((szE x).2 : Int)), (26, .slice A len c), (27, .int .i64 (len : Int)), (28, .int .i64 (k : Int)), (8, .int .i64 ((1 + (szL (x.args.take k)).1 : Nat) : Int)), (9, .int .i64 ((szL (x.args.take k)).2 : Int)), (29, .bool (decide ((k : Int) < (len : Int))))] [.box b5 [.int .i64 x.op, .int .i64 x.k, .int .i64 x.n, .string x.s, .string x.nm, .slice A len c]] []) trivial trivial (fun _ => by kernel_rfl) ?_
    clear hJ a w; intro a w hJ
    obtain ⟨b8, o9, rfl, -, c10⟩ := RS.row hrs (hrow)
    replace hJ := hJ.fact (c10.sees s7)
    refine rx hJ false 33 [.ix b8 o9 len c k, .f 0 0, .own, .b 0 0, .b 0 0, .cl 21 #[.agg #[.int .i64 y.op, .int .i64 y.k, .int .i64 y.n, .string y.s, .string y.nm, .slice Au nu cu]] (.tuple #[.int .i64 ((szE y).1 : Int), .int .i64 ((szE y).2 : Int)])] [(39, .int .i64 (IntKind.i64.wrap (((1 + (szL (x.args.take k)).1 : Nat) : Int) + ((szE y).1 : Int))), .int .i64 (((1 + (szL (x.args.take k)).1 : Nat) : Int) + ((szE y).1 : Int))), (43, .int .i64 (IntKind.i64.wrap ((k : Int) + 1)), .int .i64 ((k : Int) + 1))] (.new fun b11 => .ok (.out .normal) [] [(4, .bool false), (5, .pointer (some ⟨b5, 0, none⟩)), (6, .int .i64 ((szE x).1 : Int)), (7, .int .i64 ((szE x).2 : Int)), (26, .slice (some ⟨b8, o9, none⟩) len c), (27, .int .i64 (len : Int)), (29, .bool (decide ((k : Int) < (len : Int)))), (30, .pointer (some ⟨b8, o9 + k * 6, none⟩)), (31, .agg #[.int .i64 y.op, .int .i64 y.k, .int .i64 y.n, .string y.s, .string y.nm, .slice Au nu cu]), (11, .pointer (some ⟨b11, 0, none⟩)), (33, .agg #[.int .i64 y.op, .int .i64 y.k, .int .i64 y.n, .string y.s, .string y.nm, .slice Au nu cu]), (34, .tuple #[.int .i64 ((szE y).1 : Int), .int .i64 ((szE y).2 : Int)]), (32, .tuple #[.int .i64 ((szE y).1 : Int), .int .i64 ((szE y).2 : Int)]), (35, .int .i64 ((szE y).1 : Int)), (36, .int .i64 ((szE y).2 : Int)), (12, .int .i64 ((szE y).1 : Int)), (13, .int .i64 ((szE y).2 : Int)), (37, .int .i64 ((1 + (szL (x.args.take k)).1 : Nat) : Int)), (38, .int .i64 ((szE y).1 : Int)), (39, .int .i64 (((1 + (szL (x.args.take k)).1 : Nat) : Int) + ((szE y).1 : Int))), (40, .int .i64 ((szL (x.args.take k)).2 : Int)), (41, .int .i64 ((szE y).2 : Int)), (42, .int .i64 (if ((szE y).2 : Int) > ((szL (x.args.take k)).2 : Int) then ((szE y).2 : Int) else ((szL (x.args.take k)).2 : Int))), (8, .int .i64 (((1 + (szL (x.args.take k)).1 : Nat) : Int) + ((szE y).1 : Int))), (9, .int .i64 (if ((szE y).2 : Int) > ((szL (x.args.take k)).2 : Int) then ((szE y).2 : Int) else ((szL (x.args.take k)).2 : Int))), (43, .int .i64 ((k : Int) + 1)), (28, .int .i64 ((k : Int) + 1))] [.box b11 [.int .i64 y.op, .int .i64 y.k, .int .i64 y.n, .string y.s, .string y.nm, .slice Au nu cu], .box b5 [.int .i64 x.op, .int .i64 x.k, .int .i64 x.n, .string x.s, .string x.nm, .slice (some ⟨b8, o9, none⟩) len c]] [(b8, o9 + k * 6, [.int .i64 y.op, .int .i64 y.k, .int .i64 y.n, .string y.s, .string y.nm, .slice Au nu cu])]) (And.intro (by first | omega | (simp; omega)) (And.intro (fun H sH => hs1 y _ _ (by omega) (hyu.sees (s7.trans sH)) (by omega)) (trivial))) (And.intro (i64_wrap (by omega) (by omega)) (And.intro (i64_wrap (by omega) (by omega)) (trivial))) (fun b11 _ => by kernel_rfl) ?_
    clear hJ a w; intro b11 a w hJ
    replace hJ := hJ.rew 8 (v := .int .i64 (((1 + (szL (x.args.take k)).1 : Nat) : Int) + ((szE y).1 : Int))) (v' := .int .i64 ((1 + (szL (x.args.take (k + 1))).1 : Nat) : Int)) (congrArg (Value.int .i64) (by omega)) (by kernel_rfl)
    replace hJ : K ⟨67, h.w, h.bad, []⟩ [(4, .bool false), (5, .pointer (some ⟨b5, 0, none⟩)), (6, .int .i64 ((szE x).1 : Int)), (7, .int .i64 ((szE x).2 : Int)), (26, .slice (some ⟨b8, o9, none⟩) len c), (27, .int .i64 (len : Int)), (29, .bool (decide ((k : Int) < (len : Int)))), (30, .pointer (some ⟨b8, o9 + k * 6, none⟩)), (31, .agg #[.int .i64 y.op, .int .i64 y.k, .int .i64 y.n, .string y.s, .string y.nm, .slice Au nu cu]), (11, .pointer (some ⟨b11, 0, none⟩)), (33, .agg #[.int .i64 y.op, .int .i64 y.k, .int .i64 y.n, .string y.s, .string y.nm, .slice Au nu cu]), (34, .tuple #[.int .i64 ((szE y).1 : Int), .int .i64 ((szE y).2 : Int)]), (32, .tuple #[.int .i64 ((szE y).1 : Int), .int .i64 ((szE y).2 : Int)]), (35, .int .i64 ((szE y).1 : Int)), (36, .int .i64 ((szE y).2 : Int)), (12, .int .i64 ((szE y).1 : Int)), (13, .int .i64 ((szE y).2 : Int)), (37, .int .i64 ((1 + (szL (x.args.take k)).1 : Nat) : Int)), (38, .int .i64 ((szE y).1 : Int)), (39, .int .i64 (((1 + (szL (x.args.take k)).1 : Nat) : Int) + ((szE y).1 : Int))), (40, .int .i64 ((szL (x.args.take k)).2 : Int)), (41, .int .i64 ((szE y).2 : Int)), (42, .int .i64 (if ((szE y).2 : Int) > ((szL (x.args.take k)).2 : Int) then ((szE y).2 : Int) else ((szL (x.args.take k)).2 : Int))), (9, .int .i64 (if ((szE y).2 : Int) > ((szL (x.args.take k)).2 : Int) then ((szE y).2 : Int) else ((szL (x.args.take k)).2 : Int))), (43, .int .i64 ((k : Int) + 1)), (28, .int .i64 ((k : Int) + 1)), (8, .int .i64 ((1 + (szL (x.args.take (k + 1))).1 : Nat) : Int))] [.box b11 [.int .i64 y.op, .int .i64 y.k, .int .i64 y.n, .string y.s, .string y.nm, .slice Au nu cu], .box b5 [.int .i64 x.op, .int .i64 x.k, .int .i64 x.n, .string x.s, .string x.nm, .slice (some ⟨b8, o9, none⟩) len c]] [(b8, o9 + k * 6, [.int .i64 y.op, .int .i64 y.k, .int .i64 y.n, .string y.s, .string y.nm, .slice Au nu cu])] h6 a w := hJ.to (by kernel_rfl) rfl rfl
    replace hJ := hJ.rew 9 (v := .int .i64 (if ((szE y).2 : Int) > ((szL (x.args.take k)).2 : Int) then ((szE y).2 : Int) else ((szL (x.args.take k)).2 : Int))) (v' := .int .i64 ((szL (x.args.take (k + 1))).2 : Int)) (congrArg (Value.int .i64) (by split <;> omega)) (by kernel_rfl)
    replace hJ : K ⟨67, h.w, h.bad, []⟩ [(4, .bool false), (5, .pointer (some ⟨b5, 0, none⟩)), (6, .int .i64 ((szE x).1 : Int)), (7, .int .i64 ((szE x).2 : Int)), (26, .slice (some ⟨b8, o9, none⟩) len c), (27, .int .i64 (len : Int)), (29, .bool (decide ((k : Int) < (len : Int)))), (30, .pointer (some ⟨b8, o9 + k * 6, none⟩)), (31, .agg #[.int .i64 y.op, .int .i64 y.k, .int .i64 y.n, .string y.s, .string y.nm, .slice Au nu cu]), (11, .pointer (some ⟨b11, 0, none⟩)), (33, .agg #[.int .i64 y.op, .int .i64 y.k, .int .i64 y.n, .string y.s, .string y.nm, .slice Au nu cu]), (34, .tuple #[.int .i64 ((szE y).1 : Int), .int .i64 ((szE y).2 : Int)]), (32, .tuple #[.int .i64 ((szE y).1 : Int), .int .i64 ((szE y).2 : Int)]), (35, .int .i64 ((szE y).1 : Int)), (36, .int .i64 ((szE y).2 : Int)), (12, .int .i64 ((szE y).1 : Int)), (13, .int .i64 ((szE y).2 : Int)), (37, .int .i64 ((1 + (szL (x.args.take k)).1 : Nat) : Int)), (38, .int .i64 ((szE y).1 : Int)), (39, .int .i64 (((1 + (szL (x.args.take k)).1 : Nat) : Int) + ((szE y).1 : Int))), (40, .int .i64 ((szL (x.args.take k)).2 : Int)), (41, .int .i64 ((szE y).2 : Int)), (42, .int .i64 (if ((szE y).2 : Int) > ((szL (x.args.take k)).2 : Int) then ((szE y).2 : Int) else ((szL (x.args.take k)).2 : Int))), (43, .int .i64 ((k : Int) + 1)), (28, .int .i64 ((k : Int) + 1)), (8, .int .i64 ((1 + (szL (x.args.take (k + 1))).1 : Nat) : Int)), (9, .int .i64 ((szL (x.args.take (k + 1))).2 : Int))] [.box b11 [.int .i64 y.op, .int .i64 y.k, .int .i64 y.n, .string y.s, .string y.nm, .slice Au nu cu], .box b5 [.int .i64 x.op, .int .i64 x.k, .int .i64 x.n, .string x.s, .string x.nm, .slice (some ⟨b8, o9, none⟩) len c]] [(b8, o9 + k * 6, [.int .i64 y.op, .int .i64 y.k, .int .i64 y.n, .string y.s, .string y.nm, .slice Au nu cu])] h6 a w := hJ.to (by kernel_rfl) rfl rfl
    replace hJ := hJ.drop 0
    exact x_round ⟨k + 1, ⟨h6, (hJ.tof [] (F' := []) (by kernel_rfl)).to (by kernel_rfl) (by kernel_rfl) rfl, s7, by omega⟩, by omega⟩
  · skip
    have hta : x.args.take k = x.args := by rw [← hke, ← hL, List.take_length]
    rw [hta] at hJ htk
    have z1 := congrArg Prod.fst hsz
    have z2 := congrArg Prod.snd hsz
    simp only at z1 z2
    refine x_false hJ (t := decide ((k : Int) < (len : Int))) (by kernel_rfl) (decide_eq_false (by omega)) ?_
    refine rx hJ false 2 [] [] (.ok (.out (.exit 0)) [] [(4, .bool false), (5, .pointer (some ⟨b5, 0, none⟩)), (6, .int .i64 ((szE x).1 : Int)), (7, .int .i64 ((szE x).2 : Int)), (26, .slice A len c), (27, .int .i64 (len : Int)), (28, .int .i64 (k : Int)), (8, .int .i64 ((1 + (szL x.args).1 : Nat) : Int)), (9, .int .i64 ((szL x.args).2 : Int)), (29, .bool (decide ((k : Int) < (len : Int))))] [.box b5 [.int .i64 x.op, .int .i64 x.k, .int .i64 x.n, .string x.s, .string x.nm, .slice A len c]] []) trivial trivial (fun _ => by kernel_rfl) ?_
    clear hJ a w; intro a w hJ
    refine x_leave rfl ?_
    refine rx hJ false 31 [.b 0 0, .cl 22 #[.agg #[.int .i64 x.op, .int .i64 x.k, .int .i64 x.n, .string x.s, .string x.nm, .slice A len c]] (.int .i64 0), .cl 22 #[.agg #[.int .i64 0, .int .i64 0, .int .i64 0, .string ⟨#[]⟩, .string ⟨#[]⟩, .slice none 0 0]] (.int .i64 2)] [(46, .bool (((szE x).1 : Int) == ((1 + (szL x.args).1 : Nat) : Int)), .bool true), (50, .int .i64 (IntKind.i64.wrap (((szL x.args).2 : Int) + 1)), .int .i64 (((szL x.args).2 : Int) + 1)), (51, .bool (((szE x).2 : Int) == (((szL x.args).2 : Int) + 1)), .bool true), (55, .bool (decide (((szE x).1 : Int) ≥ 1)), .bool true)] (.ok (.out .ret) [] [(4, .bool true)] [.box b5 [.int .i64 x.op, .int .i64 x.k, .int .i64 x.n, .string x.s, .string x.nm, .slice A len c]] []) (And.intro (fun H sH => hck _ _ (IsArgs.mk (x := x) (hrs.sees (s7.trans sH)) (hvs.sees (s7.trans sH))) xw (by omega)) (And.intro (fun H sH => check_none _) (trivial))) (And.intro (congrArg Value.bool (beq_iff_eq.2 (by omega))) (And.intro (i64_wrap (by omega) (by omega)) (And.intro (congrArg Value.bool (beq_iff_eq.2 (by omega))) (And.intro (congrArg Value.bool (decide_eq_true (by omega))) (trivial))))) (fun _ => by kernel_rfl) ?_
    clear hJ a w; intro a w hJ
    refine x_end (hQ [.bool true] [.box b5 [.int .i64 x.op, .int .i64 x.k, .int .i64 x.n, .string x.s, .string x.nm, .slice A len c]] [] hJ (.rtmp hJ.j (by kernel_rfl) .nil) (by kernel_rfl) (by kernel_rfl) ?_).1
    exact rfl

theorem exprSized_walk (v : Value) (l : List RawD) (kd : Int) (w : World) (h : RawsOf w v l) (k0 : -9223372036854775808 ≤ kd) (k1 : kd ≤ 9223372036854775807) :
    Calls Try.prog 4 #[v, .int .i64 kd] w fun e w' => e = .returned (.bool true) ∧ Below w.heap.size w w' :=
  C0.law (exprSized_c l v kd ⟨w, []⟩ h.rs h.2.1 h.2.2 k0 k1)

namespace exprSizedLaw
open Go.ChangeShapes Go.WideShapes Go.ChangeAt Go.RowKit
open Go.ChangeMaps (open_string shut_string)
set_option linter.unusedVariables false

set_option maxRecDepth 100000 in
theorem lifted (os : Os) (started : os.Started) (H : Type) (enc : TypeId × Value → H) :
    ReturnsInHanded {} Try.checked os 4 .any (Rows.exprSizedSpec.pre6 enc Try.prog Try.f4 Rows.exprSizedRow.domain false) (Rows.exprSizedSpec.post enc Try.prog Try.f4 false true false false) := by
  refine returnsInHanded_of_change_sized (C := Try.checked) ownNone started (by kernel_rfl) Try.func4
    (ChangeSpec.witness6 (enc := enc) (C := Try.checked) false ⟨#[], #[.slice none 0 0, .int .i64 0], []⟩ 8 (by kernel_rfl) (by kernel_rfl) (by kernel_rfl) (by kernel_rfl)) ?_
  intro W base args ds gs before hval0 hW hcnd hsz0 _
  have hval : ∀ (j : Nat) t v, Try.f4.params[j]? = some t → args[j]? = some v → Value.okWide Try.prog W .any base t v := hval0
  have hsz : (DataW.weightsEach Try.prog (Try.f4.params.toList ++ Rows.exprSizedSpec.plain.varTypes Try.prog) (ds ++ gs)).all (· ≤ reachBytes) = true := hsz0
  have hW' := hW
  obtain ⟨p, q, hA0, hV, rfl, hfz, hnd⟩ := hW
  have hA : DataW.TrodAll enc Try.prog W 0 (fun _ => true) true Try.f4.params.toList args.toList ds p := hA0
  rw [Try.params4] at hA hval hsz
  obtain ⟨v0, vs0, d0, ds0, p0, q0, hargs, rfl, rfl, h0, r0⟩ := trodAll_cons hA
  obtain ⟨v1, vs1, d1, ds1, p1, q1, rfl, rfl, rfl, h1, r1⟩ := trodAll_cons r0
  obtain ⟨rfl, rfl, rfl⟩ := trodAll_nil r1
  obtain rfl : args = #[v0, v1] := by cases args; simp_all
  obtain ⟨rfl, rfl⟩ := trodVars_none hV
  have k0 := h0
  have lt0 : ∀ x ∈ p0, x.block < W.heap.size := by obtain ⟨m, hm⟩ := k0; exact DataW.trod_lt m _ _ _ hm
  obtain ⟨a0, w0⟩ := open_rows (hval 0 35 v0 rfl rfl) h0 (fun es ss hd => sized_slice hsz (j := 0) (t := 35) (elems := es) (spare := ss) rfl (by rw [hd]; rfl) Try.underlying35)
  have k1 := h1
  have lt1 : ∀ x ∈ p1, x.block < W.heap.size := by obtain ⟨m, hm⟩ := k1; exact DataW.trod_lt m _ _ _ hm
  obtain ⟨a1, rfl, -, -, w1⟩ := open_int Try.underlying3 (hval 1 3 v1 rfl rfl) h1
  clear hA0 hval0 hsz0
  refine (exprSized_walk v0 a0 a1 W w0 (int_lo w1) (int_hi w1)).mono fun e W' ⟨he, bel⟩ => ?_
  subst he
  exact ⟨_, rfl, _, _, _, [], _, [], hW', trodAll_mk1 (shut_bool Try.underlying4 _), (trodAll_cons_mk (Below.trod laidOutTrue (by kernel_rfl) (of_decide_eq_true (by kernel_rfl)) k0 bel lt0) (trodAll_cons_mk (Below.trod laidOutTrue (by kernel_rfl) (of_decide_eq_true (by kernel_rfl)) k1 bel lt1) trodAll_mk0)), rfl, bel.frame _, fun h => by cases h⟩

theorem over : Rows.exprSizedRow.holds Try.pinned (OpenSpec.ofChange Rows.exprSizedSpec) :=
  OpenClaim.holds_of_wide 4 Try.f4 rfl rfl rfl rfl rfl rfl rfl ⟨rfl, rfl, rfl, rfl, rfl⟩ rfl rfl rfl rfl rfl (by kernel_rfl) Try.func4 (by kernel_rfl)
    (of_decide_eq_true (by kernel_rfl)) (by unfold Func.isWrapper; first | (rw [if_pos (by decide +kernel)]; kernel_rfl) | (rw [if_neg (by decide +kernel)]; exact ⟨rfl, rfl⟩))
    (fun os started H enc _ => lifted os started H enc)

end exprSizedLaw
theorem exprSized_holds : Rows.ExprSizedSaid := exprSizedLaw.over
#print axioms exprSized_holds
end Go.Proofs.Yteolcggpflnpoaa
