/-
  Contracts of the law's SameExpr, of slices.EqualFunc at it; of names.Put.
-/
import Derived.Test.YteolcggpflnpoaaNmC
namespace Go.Proofs.Yteolcggpflnpoaa
open Go.RowKit

/-- The same formula, wherever it lies: the contract. -/
def SameC (x : Ex) : Prop := ∀ (v v' : Value) (h : Vw), IsArgs h x v → IsArgs h x v' → C0 Try.prog 24 #[.agg #[.int .i64 x.op, .int .i64 x.k, .int .i64 x.n, .string x.s, .string x.nm, v], .agg #[.int .i64 x.op, .int .i64 x.k, .int .i64 x.n, .string x.s, .string x.nm, v']] h (fun r _ => r = .bool true)

set_option maxRecDepth 100000 in
theorem eqf_any (l : List Ex) (hs : ∀ y ∈ l, SameC y) (hl : l.length < 1000000) (sl sl' : Value) (ws ws' : List Value) (h : Vw) (hr : RS h 6 sl (exRows l ws)) (hw : AllArgs h l ws) (hr' : RS h 6 sl' (exRows l ws')) (hw' : AllArgs h l ws') :
    C0 Try.prog 43 #[sl, sl', .func (.func 24) #[] #[]] h (fun r _ => r = .bool true) := by
  have hwl := hw.len
  have hwl' := hw'.len
  have hrl := exRows_len hwl
  have hrl' := exRows_len hwl'
  obtain ⟨A, ca, rfl, -, -, -⟩ := hr.form
  obtain ⟨A', ca', rfl, -, -, -⟩ := hr'.form
  rw [hrl] at hr ⊢
  rw [hrl'] at hr' ⊢
  generalize hL : l.length = len at *
  refine x_con Try.func43 (c := Try.f43.body.getD .skip) (by kernel_rfl) (N := 32) rfl (by kernel_rfl) ?_
  intro hbx hbad Q hQ a w hJ
  replace hJ : K ⟨32, h.w, h.bad, []⟩ [(0, .slice A len ca), (1, .slice A' len ca'), (2, .func (.func 24) #[] #[])] [] [] h a w := hJ.to (by kernel_rfl) (by kernel_rfl) rfl
  refine rx hJ false 27 [] [(14, .bool ((len : Int) != (len : Int)), .bool false)] (.ok (.code [0, 1, 0, 1, 1]) [.block 0, .seq [1, 1, 1]] [(1, .slice A' len ca'), (2, .func (.func 24) #[] #[]), (6, .bool false), (15, .slice A len ca), (16, .int .i64 (len : Int)), (17, .int .i64 0)] [] []) trivial (And.intro (congrArg Value.bool (bne_self_eq_false _)) (trivial)) (fun _ => by kernel_rfl) ?_
  clear hJ a w; intro a w hJ
  refine x_loop (fun (k : Nat) a w => ∃ (h1 : Vw) , K ⟨32, h.w, h.bad, []⟩ [(1, .slice A' len ca'), (2, .func (.func 24) #[] #[]), (15, .slice A len ca), (16, .int .i64 (len : Int)), (17, .int .i64 (k : Int))] [] [] h1 a w ∧ Sees h h1 ∧ (k ≤ len)) (fun k => len - k) (0) (by kernel_rfl) ⟨h, hJ.to (by kernel_rfl) (by kernel_rfl) rfl, Sees.refl _, Nat.zero_le _⟩ ?_
  clear hJ a w; rintro k a w ⟨h1, hJ, s2, hk⟩
  refine rx hJ false 6 [] [] (.ok (.code [0, 1, 0, 0, 1, 0, 1, 1]) [.seq [1, 1, 0, 0, 1, 0, 1, 1]] [(1, .slice A' len ca'), (2, .func (.func 24) #[] #[]), (15, .slice A len ca), (16, .int .i64 (len : Int)), (17, .int .i64 (k : Int)), (18, .bool (decide ((k : Int) < (len : Int))))] [] []) trivial trivial (fun _ => by kernel_rfl) ?_
  clear hJ a w; intro a w hJ
  rcases (by omega : k < len ∨ len = k) with hlt | hke
  · obtain ⟨y, hy⟩ : ∃ y, l[k]? = some y := ⟨_, List.getElem?_eq_getElem (by omega)⟩
    obtain ⟨u, hu⟩ : ∃ u, ws[k]? = some u := ⟨_, List.getElem?_eq_getElem (by omega)⟩
    obtain ⟨u', hu'⟩ : ∃ u, ws'[k]? = some u := ⟨_, List.getElem?_eq_getElem (by omega)⟩
    have hyu := AllArgs.get hw hy hu
    have hyu' := AllArgs.get hw' hy hu'
    obtain ⟨Au, nu, cu, rfl⟩ := hyu.slice
    obtain ⟨Au', nu', cu', rfl⟩ := hyu'.slice
    have hrow : (exRows l ws)[k]? = some (exRow y (.slice Au nu cu)) := by show (List.zipWith exRow _ _)[k]? = _; rw [List.getElem?_zipWith, hy, hu]
    have hrow' : (exRows l ws')[k]? = some (exRow y (.slice Au' nu' cu')) := by show (List.zipWith exRow _ _)[k]? = _; rw [List.getElem?_zipWith, hy, hu']
    have hsy := hs y (List.mem_of_getElem? hy)
    refine x_true hJ (t := decide ((k : Int) < (len : Int))) (by kernel_rfl) (decide_eq_true (by omega)) ?_
    refine rx hJ false 7 [] [] (.ok (.ops [0, 0, 0, 1, 1, 0, 0, 1, 0, 1, 1] 1) [.seq [1, 0, 0, 1, 1, 0, 0, 1, 0, 1, 1], .block 1, .seq [1, 1, 1, 0, 0, 1, 0, 1, 1]] [(1, .slice A' len ca'), (2, .func (.func 24) #[] #[]), (15, .slice A len ca), (16, .int .i64 (len : Int)), (17, .int .i64 (k : Int)), (18, .bool (decide ((k : Int) < (len : Int)))), (19, .int .i64 (k : Int))] [] []) trivial trivial (fun _ => by kernel_rfl) ?_
    clear hJ a w; intro a w hJ
    obtain ⟨b3, o4, rfl, -, c5⟩ := RS.row hr (hrow)
    replace hJ := hJ.fact (c5.sees s2)
    refine rx hJ false 11 [.ix b3 o4 len ca k, .f 0 0, .own, .b 0 0] [] (.new fun b6 => .ok (.ops [0, 1, 0, 0, 1, 1, 0, 0, 1, 0, 1, 1] 2) [.seq [1, 1, 0, 0, 1, 1, 0, 0, 1, 0, 1, 1], .block 1, .seq [1, 1, 1, 0, 0, 1, 0, 1, 1]] [(1, .slice A' len ca'), (2, .func (.func 24) #[] #[]), (15, .slice (some ⟨b3, o4, none⟩) len ca), (16, .int .i64 (len : Int)), (17, .int .i64 (k : Int)), (18, .bool (decide ((k : Int) < (len : Int)))), (19, .int .i64 (k : Int)), (20, .pointer (some ⟨b3, o4 + k * 6, none⟩)), (21, .agg #[.int .i64 y.op, .int .i64 y.k, .int .i64 y.n, .string y.s, .string y.nm, .slice Au nu cu]), (8, .pointer (some ⟨b6, 0, none⟩)), (7, .int .i64 (k : Int)), (22, .slice A' len ca'), (23, .int .i64 (k : Int))] [.box b6 [.int .i64 y.op, .int .i64 y.k, .int .i64 y.n, .string y.s, .string y.nm, .slice Au nu cu]] [(b3, o4 + k * 6, [.int .i64 y.op, .int .i64 y.k, .int .i64 y.n, .string y.s, .string y.nm, .slice Au nu cu])]) (And.intro (by first | omega | (simp; omega)) (trivial)) trivial (fun b6 _ => by kernel_rfl) ?_
    clear hJ a w; intro b6 a w hJ
    obtain ⟨b7, o8, rfl, -, c9⟩ := RS.row hr' (hrow')
    replace hJ := hJ.fact (c9.sees s2)
    refine rx hJ false 23 [.ix b7 o8 len ca' k, .f 0 0, .own, .b 0 0, .b 1 0, .b 0 0, .cl 24 #[.agg #[.int .i64 y.op, .int .i64 y.k, .int .i64 y.n, .string y.s, .string y.nm, .slice Au nu cu], .agg #[.int .i64 y.op, .int .i64 y.k, .int .i64 y.n, .string y.s, .string y.nm, .slice Au' nu' cu']] (.bool true)] [(31, .int .i64 (IntKind.i64.wrap ((k : Int) + 1)), .int .i64 ((k : Int) + 1))] (.new fun b10 => .ok (.out .normal) [] [(1, .slice (some ⟨b7, o8, none⟩) len ca'), (2, .func (.func 24) #[] #[]), (15, .slice (some ⟨b3, o4, none⟩) len ca), (16, .int .i64 (len : Int)), (18, .bool (decide ((k : Int) < (len : Int)))), (19, .int .i64 (k : Int)), (20, .pointer (some ⟨b3, o4 + k * 6, none⟩)), (21, .agg #[.int .i64 y.op, .int .i64 y.k, .int .i64 y.n, .string y.s, .string y.nm, .slice Au nu cu]), (8, .pointer (some ⟨b6, 0, none⟩)), (7, .int .i64 (k : Int)), (22, .slice (some ⟨b7, o8, none⟩) len ca'), (23, .int .i64 (k : Int)), (24, .pointer (some ⟨b7, o8 + k * 6, none⟩)), (25, .agg #[.int .i64 y.op, .int .i64 y.k, .int .i64 y.n, .string y.s, .string y.nm, .slice Au' nu' cu']), (9, .pointer (some ⟨b10, 0, none⟩)), (26, .func (.func 24) #[] #[]), (27, .agg #[.int .i64 y.op, .int .i64 y.k, .int .i64 y.n, .string y.s, .string y.nm, .slice Au nu cu]), (28, .agg #[.int .i64 y.op, .int .i64 y.k, .int .i64 y.n, .string y.s, .string y.nm, .slice Au' nu' cu']), (29, .bool true), (30, .bool false), (31, .int .i64 ((k : Int) + 1)), (17, .int .i64 ((k : Int) + 1))] [.box b10 [.int .i64 y.op, .int .i64 y.k, .int .i64 y.n, .string y.s, .string y.nm, .slice Au' nu' cu'], .box b6 [.int .i64 y.op, .int .i64 y.k, .int .i64 y.n, .string y.s, .string y.nm, .slice Au nu cu]] [(b7, o8 + k * 6, [.int .i64 y.op, .int .i64 y.k, .int .i64 y.n, .string y.s, .string y.nm, .slice Au' nu' cu']), (b3, o4 + k * 6, [.int .i64 y.op, .int .i64 y.k, .int .i64 y.n, .string y.s, .string y.nm, .slice Au nu cu])]) (And.intro (by first | omega | (simp; omega)) (And.intro (fun H sH => hsy _ _ _ (hyu.sees (s2.trans sH)) (hyu'.sees (s2.trans sH))) (trivial))) (And.intro (i64_wrap (by omega) (by omega)) (trivial)) (fun b10 _ => by kernel_rfl) ?_
    clear hJ a w; intro b10 a w hJ
    replace hJ := hJ.drop 1
    replace hJ := hJ.drop 0
    exact x_round ⟨k + 1, ⟨h1, (hJ.tof [] (F' := []) (by kernel_rfl)).to (by kernel_rfl) (by kernel_rfl) rfl, s2, by omega⟩, by omega⟩
  · skip
    refine x_false hJ (t := decide ((k : Int) < (len : Int))) (by kernel_rfl) (decide_eq_false (by omega)) ?_
    refine rx hJ false 2 [] [] (.ok (.out (.exit 0)) [] [(1, .slice A' len ca'), (2, .func (.func 24) #[] #[]), (15, .slice A len ca), (16, .int .i64 (len : Int)), (17, .int .i64 (k : Int)), (18, .bool (decide ((k : Int) < (len : Int))))] [] []) trivial trivial (fun _ => by kernel_rfl) ?_
    clear hJ a w; intro a w hJ
    refine x_leave rfl ?_
    refine rx hJ false 8 [] [] (.ok (.out .ret) [] [(6, .bool true)] [] []) trivial trivial (fun _ => by kernel_rfl) ?_
    clear hJ a w; intro a w hJ
    refine x_end (hQ [.bool true] _ [] hJ (.rtmp hJ.j (by kernel_rfl) .nil) (no_own _) rfl ?_).1
    exact rfl

set_option maxRecDepth 100000 in
theorem same_rec : ∀ (m : Nat) (x : Ex), (szE x).1 ≤ m → (szE x).1 < 1000000 → SameC x
  | 0, x, hm, _ => by have := szE_pos x; omega
  | m + 1, x, hm, hb => by
    intro v v' h hx hx'
    have IH := same_rec m
    have hse := szE_eq x
    obtain ⟨ws, hr, hws⟩ := hx.form
    obtain ⟨ws', hr', hws'⟩ := hx'.form
    obtain ⟨A, ca, rfl, -, -, -⟩ := hr.form
    obtain ⟨A', ca', rfl, -, -, -⟩ := hr'.form
    have hlen := szL_len x.args
    rw [hse] at hm hb
    simp only at hm hb
    have he := fun H a b c d => eqf_any x.args (fun y hy => IH y (by have := (szL_mem hy).1; omega) (by have := (szL_mem hy).1; omega)) (by omega) (.slice A (exRows x.args ws).length ca) (.slice A' (exRows x.args ws').length ca') ws ws' H a b c d
    generalize (exRows x.args ws).length = n1 at *
    generalize (exRows x.args ws').length = n2 at *
    refine x_con Try.func24 (c := Try.f24.body.getD .skip) (by kernel_rfl) (N := 31) rfl (by kernel_rfl) ?_
    intro hbx hbad Q hQ a w hJ
    replace hJ : K ⟨31, h.w, h.bad, []⟩ [(0, .agg #[.int .i64 x.op, .int .i64 x.k, .int .i64 x.n, .string x.s, .string x.nm, .slice A n1 ca]), (1, .agg #[.int .i64 x.op, .int .i64 x.k, .int .i64 x.n, .string x.s, .string x.nm, .slice A' n2 ca'])] [] [] h a w := hJ.to (by kernel_rfl) (by kernel_rfl) rfl
    refine rx hJ false 19 [.own, .own, .b 1 0, .b 0 0, .b 1 1, .b 0 1] [(9, .bool (x.op == x.op), .bool true)] (.new fun b1 => .new fun b2 => .ok (.ops [0, 1] 10) [.seq [1, 1]] [(2, .pointer (some ⟨b1, 0, none⟩)), (3, .pointer (some ⟨b2, 0, none⟩)), (4, .bool false), (10, .bool true), (12, .agg #[.int .i64 x.k, .int .i64 x.n, .string x.s]), (14, .agg #[.int .i64 x.k, .int .i64 x.n, .string x.s])] [.box b2 [.int .i64 x.op, .int .i64 x.k, .int .i64 x.n, .string x.s, .string x.nm, .slice A' n2 ca'], .box b1 [.int .i64 x.op, .int .i64 x.k, .int .i64 x.n, .string x.s, .string x.nm, .slice A n1 ca]] []) trivial (And.intro (congrArg Value.bool (beq_self_eq_true _)) (trivial)) (fun b1 b2 _ => by kernel_rfl) ?_
    clear hJ a w; intro b1 b2 a w hJ
    refine x_pure hJ 15 (.bool true) (by kernel_rfl) (fun w => run_eqop (x := (.tmp 12)) (y := (.tmp 14)) (v := ⟨x.k, x.n, x.s⟩) (w := ⟨x.k, x.n, x.s⟩) (by kernel_rfl) (by kernel_rfl) (by kernel_rfl) (eqB_iff.2 rfl)) ?_; clear hJ a w; intro a w hJ
    refine rx hJ false 19 [.b 1 4, .b 0 4, .b 1 5, .b 0 5, .cl 43 #[.slice A n1 ca, .slice A' n2 ca', .func (.func 24) #[] #[]] (.bool true)] [(22, .bool (x.nm.toList == x.nm.toList), .bool true)] (.ok (.out .ret) [] [(4, .bool true)] [.box b2 [.int .i64 x.op, .int .i64 x.k, .int .i64 x.n, .string x.s, .string x.nm, .slice A' n2 ca'], .box b1 [.int .i64 x.op, .int .i64 x.k, .int .i64 x.n, .string x.s, .string x.nm, .slice A n1 ca]] []) (And.intro (fun H sH => he _ (hr.sees sH) (hws.sees sH) (hr'.sees sH) (hws'.sees sH)) (trivial)) (And.intro (congrArg Value.bool (tl_yes rfl)) (trivial)) (fun _ => by kernel_rfl) ?_
    clear hJ a w; intro a w hJ
    refine x_end (hQ [.bool true] _ [] hJ (.rtmp hJ.j (by kernel_rfl) .nil) (no_own _) rfl ?_).1
    exact rfl
theorem same_any (x : Ex) (hb : (szE x).1 < 1000000) : SameC x := same_rec _ x (Nat.le_refl _) hb

set_option maxRecDepth 100000 in
theorem putx_any (n : ByteArray) (hn : NameOk n.data.toList) (x y : Ex) (v vy : Value) (h : Vw) (hx : IsArgs h x v) (hy : IsArgs h y vy) (wx : WfE x) (wy : WfE y) (cx : chkE x = 0) (cy : chkE y = 0) (bx : (szE x).1 ≤ 60) (by' : (szE y).1 ≤ 60) :
    C0 Try.prog 23 #[.agg #[.int .i64 x.op, .int .i64 x.k, .int .i64 x.n, .string x.s, .string x.nm, v], .string n, .agg #[.int .i64 y.op, .int .i64 y.k, .int .i64 y.n, .string y.s, .string y.nm, vy]] h (fun r h' => (chkE (putE n y x) = 0 ∧ ∃ u, r = .tuple #[.agg #[.int .i64 (putE n y x).op, .int .i64 (putE n y x).k, .int .i64 (putE n y x).n, .string (putE n y x).s, .string (putE n y x).nm, .slice (sA u) (sN u) (sC u)], .int .i64 0] ∧ IsArgs h' (putE n y x) (.slice (sA u) (sN u) (sC u))) ∨ (chkE (putE n y x) ≠ 0 ∧ r = .tuple #[.agg #[.int .i64 0, .int .i64 0, .int .i64 0, .string ⟨#[]⟩, .string ⟨#[]⟩, .slice none 0 0], .int .i64 (chkE (putE n y x))])) := by
  obtain ⟨A, na, ca, rfl⟩ := hx.slice
  obtain ⟨A1, n1, c1, rfl⟩ := hy.slice
  have hcx := fun H q => check_any x (.slice A na ca) H q wx (by omega)
  have hcy := fun H q => check_any y (.slice A1 n1 c1) H q wy (by omega)
  rw [cx] at hcx
  rw [cy] at hcy
  have hnm := c_name n
  have hpt := fun H q1 q2 => put_rec n y (by omega) _ x (.slice A na ca) (.slice A1 n1 c1) H (Nat.le_refl _) q1 q2 (by omega)
  have hzb : (szE (putE n y x)).1 < 1000000 := by
    have h1 := (sz_put (n := n) (y := y) (x := x)).1
    have h2 : (szE x).1 * (szE y).1 ≤ 60 * 60 := Nat.mul_le_mul bx by'
    omega
  have hcz := fun H u q => check_any (putE n y x) u H q (wf_put wx wy) hzb
  generalize putE n y x = z at *
  generalize chkE z = e at *
  refine x_con Try.func23 (c := Try.f23.body.getD .skip) (by kernel_rfl) (N := 44) rfl (by kernel_rfl) ?_
  intro hbx hbad Q hQ a w hJ
  replace hJ : K ⟨44, h.w, h.bad, []⟩ [(0, .agg #[.int .i64 x.op, .int .i64 x.k, .int .i64 x.n, .string x.s, .string x.nm, .slice A na ca]), (1, .string n), (2, .agg #[.int .i64 y.op, .int .i64 y.k, .int .i64 y.n, .string y.s, .string y.nm, .slice A1 n1 c1])] [] [] h a w := hJ.to (by kernel_rfl) (by kernel_rfl) rfl
  refine rx hJ true 18 [.fix, .fix, .own, .f 1 0, .f 0 0] [] (.new fun b1 => .new fun b2 => .new fun b3 => .ok (.code [0, 1, 0, 1]) [.block 0, .seq [1, 1]] [(1, .string n), (3, .pointer (some ⟨b1, 0, none⟩)), (5, .pointer (some ⟨b2, 0, none⟩)), (6, .pointer (some ⟨b3, 0, none⟩)), (7, .int .i64 0), (16, .agg #[.int .i64 x.op, .int .i64 x.k, .int .i64 x.n, .string x.s, .string x.nm, .slice A na ca, .int .i64 y.op, .int .i64 y.k, .int .i64 y.n, .string y.s, .string y.nm, .slice A1 n1 c1]), (17, .int .i64 0)] [.box b3 [.int .i64 0, .int .i64 0, .int .i64 0, .string ⟨#[]⟩, .string ⟨#[]⟩, .slice none 0 0]] [(b2, 0, [.int .i64 y.op, .int .i64 y.k, .int .i64 y.n, .string y.s, .string y.nm, .slice A1 n1 c1]), (b1, 0, [.int .i64 x.op, .int .i64 x.k, .int .i64 x.n, .string x.s, .string x.nm, .slice A na ca])]) trivial trivial (fun b1 b2 b3 _ => by kernel_rfl) ?_
  clear hJ a w; intro b1 b2 b3 h4 a w s5 hJ
  refine x_loop (fun (k : Nat) a w => ∃ (h6 : Vw) , K ⟨44, h.w, h.bad, []⟩ [(1, .string n), (3, .pointer (some ⟨b1, 0, none⟩)), (5, .pointer (some ⟨b2, 0, none⟩)), (6, .pointer (some ⟨b3, 0, none⟩)), (16, .agg #[.int .i64 x.op, .int .i64 x.k, .int .i64 x.n, .string x.s, .string x.nm, .slice A na ca, .int .i64 y.op, .int .i64 y.k, .int .i64 y.n, .string y.s, .string y.nm, .slice A1 n1 c1]), (17, .int .i64 (k : Int))] [.box b3 [.int .i64 0, .int .i64 0, .int .i64 0, .string ⟨#[]⟩, .string ⟨#[]⟩, .slice none 0 0]] [(b2, 0, [.int .i64 y.op, .int .i64 y.k, .int .i64 y.n, .string y.s, .string y.nm, .slice A1 n1 c1]), (b1, 0, [.int .i64 x.op, .int .i64 x.k, .int .i64 x.n, .string x.s, .string x.nm, .slice A na ca])] h6 a w ∧ Sees h4 h6 ∧ (k ≤ 2)) (fun k => 2 - k) (0) (by kernel_rfl) ⟨h4, hJ.to (by kernel_rfl) (by kernel_rfl) rfl, Sees.refl _, Nat.zero_le _⟩ ?_
  clear hJ a w; rintro k a w ⟨h6, hJ, s7, hk⟩
  refine rx hJ false 6 [] [] (.ok (.code [0, 1, 0, 0, 1, 0, 1]) [.seq [1, 1, 0, 0, 1, 0, 1]] [(1, .string n), (3, .pointer (some ⟨b1, 0, none⟩)), (5, .pointer (some ⟨b2, 0, none⟩)), (6, .pointer (some ⟨b3, 0, none⟩)), (16, .agg #[.int .i64 x.op, .int .i64 x.k, .int .i64 x.n, .string x.s, .string x.nm, .slice A na ca, .int .i64 y.op, .int .i64 y.k, .int .i64 y.n, .string y.s, .string y.nm, .slice A1 n1 c1]), (17, .int .i64 (k : Int)), (18, .bool (decide ((k : Int) < 2)))] [.box b3 [.int .i64 0, .int .i64 0, .int .i64 0, .string ⟨#[]⟩, .string ⟨#[]⟩, .slice none 0 0]] [(b2, 0, [.int .i64 y.op, .int .i64 y.k, .int .i64 y.n, .string y.s, .string y.nm, .slice A1 n1 c1]), (b1, 0, [.int .i64 x.op, .int .i64 x.k, .int .i64 x.n, .string x.s, .string x.nm, .slice A na ca])]) trivial trivial (fun _ => by kernel_rfl) ?_
  clear hJ a w; intro a w hJ
  rcases (by omega : k = 0 ∨ k = 1 ∨ k = 2) with rfl | rfl | rfl
  · skip
    refine x_true hJ (t := decide (0 < 2)) (by kernel_rfl) (decide_eq_true (by decide)) ?_
    refine rx hJ false 32 [.own, .b 0 0, .b 0 0, .cl 22 #[.agg #[.int .i64 x.op, .int .i64 x.k, .int .i64 x.n, .string x.s, .string x.nm, .slice A na ca]] (.int .i64 0)] [] (.new fun b8 => .ok (.out .normal) [] [(1, .string n), (3, .pointer (some ⟨b1, 0, none⟩)), (5, .pointer (some ⟨b2, 0, none⟩)), (6, .pointer (some ⟨b3, 0, none⟩)), (16, .agg #[.int .i64 x.op, .int .i64 x.k, .int .i64 x.n, .string x.s, .string x.nm, .slice A na ca, .int .i64 y.op, .int .i64 y.k, .int .i64 y.n, .string y.s, .string y.nm, .slice A1 n1 c1]), (18, .bool (decide (0 < 2))), (19, .agg #[.int .i64 x.op, .int .i64 x.k, .int .i64 x.n, .string x.s, .string x.nm, .slice A na ca]), (9, .pointer (some ⟨b8, 0, none⟩)), (20, .agg #[.int .i64 x.op, .int .i64 x.k, .int .i64 x.n, .string x.s, .string x.nm, .slice A na ca]), (21, .int .i64 0), (10, .int .i64 0), (22, .int .i64 0), (23, .bool false), (26, .int .i64 1), (17, .int .i64 1)] [.box b8 [.int .i64 x.op, .int .i64 x.k, .int .i64 x.n, .string x.s, .string x.nm, .slice A na ca], .box b3 [.int .i64 0, .int .i64 0, .int .i64 0, .string ⟨#[]⟩, .string ⟨#[]⟩, .slice none 0 0]] [(b2, 0, [.int .i64 y.op, .int .i64 y.k, .int .i64 y.n, .string y.s, .string y.nm, .slice A1 n1 c1]), (b1, 0, [.int .i64 x.op, .int .i64 x.k, .int .i64 x.n, .string x.s, .string x.nm, .slice A na ca])]) (And.intro (fun H sH => hcx _ (hx.sees (s5.trans (s7.trans sH)))) (trivial)) trivial (fun b8 _ => by kernel_rfl) ?_
    clear hJ a w; intro b8 a w hJ
    replace hJ := hJ.drop 0
    exact x_round ⟨1, ⟨h6, hJ.to (by kernel_rfl) (by kernel_rfl) rfl, s7, by omega⟩, by omega⟩
  · skip
    refine x_true hJ (t := decide (1 < 2)) (by kernel_rfl) (decide_eq_true (by decide)) ?_
    refine rx hJ false 32 [.own, .b 0 0, .b 0 0, .cl 22 #[.agg #[.int .i64 y.op, .int .i64 y.k, .int .i64 y.n, .string y.s, .string y.nm, .slice A1 n1 c1]] (.int .i64 0)] [] (.new fun b9 => .ok (.out .normal) [] [(1, .string n), (3, .pointer (some ⟨b1, 0, none⟩)), (5, .pointer (some ⟨b2, 0, none⟩)), (6, .pointer (some ⟨b3, 0, none⟩)), (16, .agg #[.int .i64 x.op, .int .i64 x.k, .int .i64 x.n, .string x.s, .string x.nm, .slice A na ca, .int .i64 y.op, .int .i64 y.k, .int .i64 y.n, .string y.s, .string y.nm, .slice A1 n1 c1]), (18, .bool (decide (1 < 2))), (19, .agg #[.int .i64 y.op, .int .i64 y.k, .int .i64 y.n, .string y.s, .string y.nm, .slice A1 n1 c1]), (9, .pointer (some ⟨b9, 0, none⟩)), (20, .agg #[.int .i64 y.op, .int .i64 y.k, .int .i64 y.n, .string y.s, .string y.nm, .slice A1 n1 c1]), (21, .int .i64 0), (10, .int .i64 0), (22, .int .i64 0), (23, .bool false), (26, .int .i64 2), (17, .int .i64 2)] [.box b9 [.int .i64 y.op, .int .i64 y.k, .int .i64 y.n, .string y.s, .string y.nm, .slice A1 n1 c1], .box b3 [.int .i64 0, .int .i64 0, .int .i64 0, .string ⟨#[]⟩, .string ⟨#[]⟩, .slice none 0 0]] [(b2, 0, [.int .i64 y.op, .int .i64 y.k, .int .i64 y.n, .string y.s, .string y.nm, .slice A1 n1 c1]), (b1, 0, [.int .i64 x.op, .int .i64 x.k, .int .i64 x.n, .string x.s, .string x.nm, .slice A na ca])]) (And.intro (fun H sH => hcy _ (hy.sees (s5.trans (s7.trans sH)))) (trivial)) trivial (fun b9 _ => by kernel_rfl) ?_
    clear hJ a w; intro b9 a w hJ
    replace hJ := hJ.drop 0
    exact x_round ⟨2, ⟨h6, hJ.to (by kernel_rfl) (by kernel_rfl) rfl, s7, by omega⟩, by omega⟩
  · skip
    refine x_false hJ (t := decide (2 < 2)) (by kernel_rfl) (decide_eq_false (by decide)) ?_
    refine rx hJ false 2 [] [] (.ok (.out (.exit 0)) [] [(1, .string n), (3, .pointer (some ⟨b1, 0, none⟩)), (5, .pointer (some ⟨b2, 0, none⟩)), (6, .pointer (some ⟨b3, 0, none⟩)), (16, .agg #[.int .i64 x.op, .int .i64 x.k, .int .i64 x.n, .string x.s, .string x.nm, .slice A na ca, .int .i64 y.op, .int .i64 y.k, .int .i64 y.n, .string y.s, .string y.nm, .slice A1 n1 c1]), (17, .int .i64 2), (18, .bool (decide (2 < 2)))] [.box b3 [.int .i64 0, .int .i64 0, .int .i64 0, .string ⟨#[]⟩, .string ⟨#[]⟩, .slice none 0 0]] [(b2, 0, [.int .i64 y.op, .int .i64 y.k, .int .i64 y.n, .string y.s, .string y.nm, .slice A1 n1 c1]), (b1, 0, [.int .i64 x.op, .int .i64 x.k, .int .i64 x.n, .string x.s, .string x.nm, .slice A na ca])]) trivial trivial (fun _ => by kernel_rfl) ?_
    clear hJ a w; intro a w hJ
    refine x_leave rfl ?_
    refine rx hJ false 24 [.cl 41 #[.string n] (.int .i64 0), .f 1 0, .f 0 0] [] (.ok (.ops [0, 1, 1, 1] 3) [.seq [1, 1, 1, 1]] [(6, .pointer (some ⟨b3, 0, none⟩)), (33, .agg #[.int .i64 x.op, .int .i64 x.k, .int .i64 x.n, .string x.s, .string x.nm, .slice A na ca]), (34, .string n), (35, .agg #[.int .i64 y.op, .int .i64 y.k, .int .i64 y.n, .string y.s, .string y.nm, .slice A1 n1 c1])] [.box b3 [.int .i64 0, .int .i64 0, .int .i64 0, .string ⟨#[]⟩, .string ⟨#[]⟩, .slice none 0 0]] [(b2, 0, [.int .i64 y.op, .int .i64 y.k, .int .i64 y.n, .string y.s, .string y.nm, .slice A1 n1 c1]), (b1, 0, [.int .i64 x.op, .int .i64 x.k, .int .i64 x.n, .string x.s, .string x.nm, .slice A na ca])]) (And.intro (fun H sH => hnm _ hn) (trivial)) trivial (fun _ => by kernel_rfl) ?_
    clear hJ a w; intro a w hJ
    refine x_call hJ 36 (hpt _ (hx.sees (s5.trans (s7.trans hJ.j.sees))) (hy.sees (s5.trans (s7.trans hJ.j.sees)))) (fun _ => by kernel_rfl) ?_; clear hJ a w; rintro _ h10 a w s11 ⟨u, rfl, hz⟩ hJ
    refine rx hJ false 8 [.own, .b 0 0, .b 0 0] [] (.new fun b12 => .ok (.ops [0, 0, 1, 1, 1, 1] 1) [.seq [1, 0, 1, 1, 1, 1], .seq [1, 1, 1, 1, 1]] [(6, .pointer (some ⟨b3, 0, none⟩)), (12, .pointer (some ⟨b12, 0, none⟩)), (37, .agg #[.int .i64 z.op, .int .i64 z.k, .int .i64 z.n, .string z.s, .string z.nm, .slice (sA u) (sN u) (sC u)])] [.box b12 [.int .i64 z.op, .int .i64 z.k, .int .i64 z.n, .string z.s, .string z.nm, .slice (sA u) (sN u) (sC u)], .box b3 [.int .i64 0, .int .i64 0, .int .i64 0, .string ⟨#[]⟩, .string ⟨#[]⟩, .slice none 0 0]] [(b2, 0, [.int .i64 y.op, .int .i64 y.k, .int .i64 y.n, .string y.s, .string y.nm, .slice A1 n1 c1]), (b1, 0, [.int .i64 x.op, .int .i64 x.k, .int .i64 x.n, .string x.s, .string x.nm, .slice A na ca])]) trivial trivial (fun b12 _ => by kernel_rfl) ?_
    clear hJ a w; intro b12 a w hJ
    refine rx hJ false 10 [.cl 22 #[.agg #[.int .i64 z.op, .int .i64 z.k, .int .i64 z.n, .string z.s, .string z.nm, .slice (sA u) (sN u) (sC u)]] (.int .i64 e)] [] (.ok (.code [1, 1, 0, 1, 1, 1, 1]) [.seq [1, 1, 1, 1, 1]] [(6, .pointer (some ⟨b3, 0, none⟩)), (12, .pointer (some ⟨b12, 0, none⟩)), (13, .int .i64 e), (40, .bool (e != 0))] [.box b12 [.int .i64 z.op, .int .i64 z.k, .int .i64 z.n, .string z.s, .string z.nm, .slice (sA u) (sN u) (sC u)], .box b3 [.int .i64 0, .int .i64 0, .int .i64 0, .string ⟨#[]⟩, .string ⟨#[]⟩, .slice none 0 0]] [(b2, 0, [.int .i64 y.op, .int .i64 y.k, .int .i64 y.n, .string y.s, .string y.nm, .slice A1 n1 c1]), (b1, 0, [.int .i64 x.op, .int .i64 x.k, .int .i64 x.n, .string x.s, .string x.nm, .slice A na ca])]) (And.intro (fun H sH => hcz _ _ (hz.sees sH)) (trivial)) trivial (fun _ => by kernel_rfl) ?_
    clear hJ a w; intro a w hJ
    by_cases h0 : e = 0
    · refine x_false hJ (t := e != 0) (by kernel_rfl) (bne_eq_false_iff_eq.2 h0) ?_
      refine rx hJ false 10 [.b 0 0, .b 1 0] [] (.ok (.out .ret) [] [(6, .pointer (some ⟨b3, 0, none⟩)), (7, .int .i64 0)] [.box b12 [.int .i64 z.op, .int .i64 z.k, .int .i64 z.n, .string z.s, .string z.nm, .slice (sA u) (sN u) (sC u)], .box b3 [.int .i64 z.op, .int .i64 z.k, .int .i64 z.n, .string z.s, .string z.nm, .slice (sA u) (sN u) (sC u)]] [(b2, 0, [.int .i64 y.op, .int .i64 y.k, .int .i64 y.n, .string y.s, .string y.nm, .slice A1 n1 c1]), (b1, 0, [.int .i64 x.op, .int .i64 x.k, .int .i64 x.n, .string x.s, .string x.nm, .slice A na ca])]) trivial trivial (fun _ => by kernel_rfl) ?_
      clear hJ a w; intro a w hJ
      refine x_end (hQ [.agg #[.int .i64 z.op, .int .i64 z.k, .int .i64 z.n, .string z.s, .string z.nm, .slice (sA u) (sN u) (sC u)], .int .i64 0] _ [] hJ (.rcell hJ.j 1 rfl (by kernel_rfl) (by kernel_rfl) (.rtmp hJ.j (by kernel_rfl) .nil)) (no_own _) rfl ?_).1
      exact .inl ⟨h0, u, rfl, (hz.sees hJ.j.out)⟩
    · skip
      refine x_true hJ (t := e != 0) (by kernel_rfl) (bne_iff_ne.2 h0) ?_
      refine rx hJ false 10 [.b 1 0] [] (.ok (.out .ret) [] [(6, .pointer (some ⟨b3, 0, none⟩)), (7, .int .i64 e)] [.box b12 [.int .i64 z.op, .int .i64 z.k, .int .i64 z.n, .string z.s, .string z.nm, .slice (sA u) (sN u) (sC u)], .box b3 [.int .i64 0, .int .i64 0, .int .i64 0, .string ⟨#[]⟩, .string ⟨#[]⟩, .slice none 0 0]] [(b2, 0, [.int .i64 y.op, .int .i64 y.k, .int .i64 y.n, .string y.s, .string y.nm, .slice A1 n1 c1]), (b1, 0, [.int .i64 x.op, .int .i64 x.k, .int .i64 x.n, .string x.s, .string x.nm, .slice A na ca])]) trivial trivial (fun _ => by kernel_rfl) ?_
      clear hJ a w; intro a w hJ
      refine x_end (hQ [.agg #[.int .i64 0, .int .i64 0, .int .i64 0, .string ⟨#[]⟩, .string ⟨#[]⟩, .slice none 0 0], .int .i64 e] _ [] hJ (.rcell hJ.j 1 rfl (by kernel_rfl) (by kernel_rfl) (.rtmp hJ.j (by kernel_rfl) .nil)) (no_own _) rfl ?_).1
      exact .inr ⟨h0, rfl⟩

theorem putx_ok (n : ByteArray) (hn : NameOk n.data.toList) (x y : Ex) (v vy : Value) (h : Vw) (hx : IsArgs h x v) (hy : IsArgs h y vy) (wx : WfE x) (wy : WfE y) (cx : chkE x = 0) (cy : chkE y = 0) (bx : (szE x).1 ≤ 60) (by' : (szE y).1 ≤ 60) {z : Ex} (hz : putE n y x = z) (h0 : chkE z = 0) :
    C0 Try.prog 23 #[.agg #[.int .i64 x.op, .int .i64 x.k, .int .i64 x.n, .string x.s, .string x.nm, v], .string n, .agg #[.int .i64 y.op, .int .i64 y.k, .int .i64 y.n, .string y.s, .string y.nm, vy]] h (fun r h' => ∃ u, r = .tuple #[.agg #[.int .i64 z.op, .int .i64 z.k, .int .i64 z.n, .string z.s, .string z.nm, .slice (sA u) (sN u) (sC u)], .int .i64 0] ∧ IsArgs h' z (.slice (sA u) (sN u) (sC u))) := by
  subst hz
  refine (putx_any n hn x y v vy h hx hy wx wy cx cy bx by').mono ?_
  rintro r h' - (⟨-, hr⟩ | ⟨hne, -⟩)
  · exact hr
  · exact absurd h0 hne
theorem putx_bad (n : ByteArray) (hn : NameOk n.data.toList) (x y : Ex) (v vy : Value) (h : Vw) (hx : IsArgs h x v) (hy : IsArgs h y vy) (wx : WfE x) (wy : WfE y) (cx : chkE x = 0) (cy : chkE y = 0) (bx : (szE x).1 ≤ 60) (by' : (szE y).1 ≤ 60) {e : Int} (he : chkE (putE n y x) = e) (h0 : e ≠ 0) :
    C0 Try.prog 23 #[.agg #[.int .i64 x.op, .int .i64 x.k, .int .i64 x.n, .string x.s, .string x.nm, v], .string n, .agg #[.int .i64 y.op, .int .i64 y.k, .int .i64 y.n, .string y.s, .string y.nm, vy]] h (fun r _ => r = .tuple #[.agg #[.int .i64 0, .int .i64 0, .int .i64 0, .string ⟨#[]⟩, .string ⟨#[]⟩, .slice none 0 0], .int .i64 e]) := by
  subst he
  refine (putx_any n hn x y v vy h hx hy wx wy cx cy bx by').mono ?_
  rintro r h' - (⟨he, -⟩ | ⟨-, hr⟩)
  · exact absurd he h0
  · exact hr

end Go.Proofs.Yteolcggpflnpoaa
