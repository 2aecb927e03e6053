/-
  For all raw things and kinds TypingMade returns true.
-/
import Derived.Test.YteolcggpflnpoaaTyU
import Derived.Test.YteolcggpflnpoaaNmD
import Derived.Test.YteolcggpflnpoaaLawX
namespace Go.Proofs.Yteolcggpflnpoaa
open Go.RowKit

abbrev nmN : ByteArray := ⟨#[110]⟩
theorem nmN_ok : NameOk nmN.data.toList := ⟨by decide, by decide, ⟨_, rfl, by decide⟩, by decide, by decide⟩

set_option maxHeartbeats 4000000 in
set_option maxRecDepth 100000 in
theorem typingMade_c (l m : List RawD) (sl sm : Value) (kd : Int) (h : Vw) (hr : RS h 4 sl (l.map RawD.cs)) (hs : RS h 4 sm (m.map RawD.cs)) (hlen : l.length * 40 ≤ reachBytes) (hlen' : m.length * 40 ≤ reachBytes) (hok : ∀ r ∈ l, r.ok) (hok' : ∀ r ∈ m, r.ok) (k0 : -9223372036854775808 ≤ kd) (k1 : kd ≤ 9223372036854775807) :
    C0 Try.prog 7 #[sl, sm, .int .i64 kd] h (fun v _ => v = .bool true) := by
  have p0 := pickL_lo kd 3 (by omega)
  have p1 := pickL_hi kd 3 (by omega)
  have hpk := c_picked kd 3
  have hE := fun H v q g => expr_any l some5 hlen hok (by decide) v g (1 + pickL kd 3) H q
  have hE' := fun H v q g => expr_any m some5 hlen' hok' (by decide) v g 1 H q
  obtain ⟨xw, x1, x2⟩ := genE_ok l some5 some5_ok 3 (1 + pickL kd 3) 0 (by omega) (by omega)
  obtain ⟨yw, y1, y2⟩ := genE_ok m some5 some5_ok 3 1 0 (by omega) (by omega)
  have xt := ty_gen some5_tyF l 3 (1 + pickL kd 3) 0 (by omega) (by omega)
  have yt := ty_gen some5_tyF m 3 1 0 (by omega) (by omega)
  generalize (genE l some5 3 (1 + pickL kd 3) 0).1 = x at *
  generalize (genE m some5 3 1 0).1 = y at *
  have x1 : (szE x).1 ≤ 40 := x1
  have y1 : (szE y).1 ≤ 40 := y1
  have c3 : cntE 3 = 40 := rfl
  have cx : chkE x = 0 := by unfold chkE; rw [if_neg (by omega), if_neg (by omega)]
  have cy : chkE y = 0 := by unfold chkE; rw [if_neg (by omega), if_neg (by omega)]
  have zt : tyE (tyF some5) (putE nmN y x) = (1 + pickL kd 3, 0) := (ty_put (n := nmN) (t := 1) (by decide) yt).trans xt
  have hzw := wf_put (n := nmN) xw yw
  have hzb : (szE (putE nmN y x)).1 < 1000000 := by
    have h1 := (sz_put (n := nmN) (y := y) (x := x)).1
    have h2 : (szE x).1 * (szE y).1 ≤ 40 * 40 := Nat.mul_le_mul x1 y1
    omega
  have hox : ofE some5 x = (1 + pickL kd 3, 0) := by unfold ofE; rw [if_pos cx, xt]
  have hoz : chkE (putE nmN y x) = 0 → ofE some5 (putE nmN y x) = (1 + pickL kd 3, 0) := fun q => by unfold ofE; rw [if_pos q, zt]
  have hOx := fun H v fv q1 q2 => tyOf_any some5 x v fv H q1 xw (by omega) q2
  have hOz := fun H v fv q1 q2 => tyOf_any some5 (putE nmN y x) v fv H q1 hzw hzb q2
  rw [hox] at hOx
  have hPok := fun H v vy q1 q2 h0 => putx_ok nmN nmN_ok x y v vy H q1 q2 xw yw cx cy (by omega) (by omega) rfl h0
  have hPbad := fun H v vy q1 q2 e he h0 => putx_bad nmN nmN_ok x y v vy H q1 q2 xw yw cx cy (by omega) (by omega) (e := e) he h0
  have hce : chkE (putE nmN y x) = 0 ∨ chkE (putE nmN y x) = 1 ∨ chkE (putE nmN y x) = 4 := by
    unfold chkE
    split
    · exact .inr (.inl rfl)
    · split
      · exact .inr (.inr rfl)
      · exact .inl rfl
  generalize hkind : 1 + pickL kd 3 = kind at *
  generalize putE nmN y x = z at *
  obtain ⟨A0, cap, rfl, -, -, -⟩ := hr.form
  obtain ⟨A1, cap1, rfl, -, -, -⟩ := hs.form
  rw [List.length_map] at *
  rw [List.length_map] at *
  generalize l.length = n1 at *
  generalize m.length = n2 at *
  refine x_con Try.func7 (c := Try.f7.body.getD .skip) (by kernel_rfl) (N := 59) rfl (by kernel_rfl) ?_
  intro hbx hbad Q hQ a w hJ
  replace hJ : K ⟨59, h.w, h.bad, []⟩ [(0, .slice A0 n1 cap), (1, .slice A1 n2 cap1), (2, .int .i64 kd)] [] [] h a w := hJ.to (by kernel_rfl) (by kernel_rfl) rfl
  refine rx hJ false 17 [.cl 19 #[.int .i64 kd, .int .i64 3] (.int .i64 (pickL kd 3))] [(16, .int .i64 (IntKind.i64.wrap (1 + (pickL kd 3))), .int .i64 (1 + (pickL kd 3)))] (.ok (.ops [0, 1, 1] 2) [.seq [1, 1, 1]] [(1, .slice A1 n2 cap1), (6, .bool false), (2, .int .i64 (1 + (pickL kd 3))), (17, .slice A0 n1 cap), (18, .int .i64 (1 + (pickL kd 3)))] [] []) (And.intro (fun H sH => hpk _ k0 k1 (by omega) (by omega)) (trivial)) (And.intro (i64_wrap (by omega) (by omega)) (trivial)) (fun _ => by kernel_rfl) ?_
  clear hJ a w; intro a w hJ
  replace hJ := hJ.rew 2 (v := .int .i64 (1 + (pickL kd 3))) (v' := .int .i64 kind) (congrArg (Value.int .i64) hkind) (by kernel_rfl)
  replace hJ : K ⟨59, h.w, h.bad, []⟩ [(1, .slice A1 n2 cap1), (6, .bool false), (17, .slice A0 n1 cap), (18, .int .i64 (1 + (pickL kd 3))), (2, .int .i64 kind)] [] [] h a w := hJ.to (by kernel_rfl) rfl rfl
  replace hJ := hJ.rew 18 (v := .int .i64 (1 + (pickL kd 3))) (v' := .int .i64 kind) (congrArg (Value.int .i64) hkind) (by kernel_rfl)
  replace hJ : K ⟨59, h.w, h.bad, []⟩ [(1, .slice A1 n2 cap1), (6, .bool false), (17, .slice A0 n1 cap), (2, .int .i64 kind), (18, .int .i64 kind)] [] [] h a w := hJ.to (by kernel_rfl) rfl rfl
  refine x_call hJ 19 (f := 20) (args := #[]) (some_any _) (fun _ => by kernel_rfl) ?_; clear hJ a w; rintro _ h1 a w s2 ⟨hfs, b, rfl⟩ hJ
  rcases hce with h0 | h0 | h0
  · have hOz2 := hoz h0 ▸ hOz
    refine x_call hJ 20 (f := 18) (args := #[.slice A0 n1 cap, .int .i64 kind, .slice (some ⟨b, 0, none⟩) 5 5]) (hE _ _ (hr.sees (s2.trans hJ.j.sees)) _ (hfs.sees hJ.j.sees) (by omega) (by omega)) (fun _ => by kernel_rfl) ?_; clear hJ a w; rintro _ h3 a w s4 ⟨u, rfl, hx⟩ hJ
    refine rx hJ false 5 [.own, .b 0 0] [] (.new fun b5 => .ok (.code [0, 1, 1, 1]) [.seq [1, 1, 1, 1]] [(1, .slice A1 n2 cap1), (6, .bool false), (2, .int .i64 kind), (7, .pointer (some ⟨b5, 0, none⟩))] [.box b5 [.int .i64 x.op, .int .i64 x.k, .int .i64 x.n, .string x.s, .string x.nm, .slice (sA u) (sN u) (sC u)]] []) trivial trivial (fun b5 _ => by kernel_rfl) ?_
    clear hJ a w; intro b5 a w hJ
    let R : Reg := ⟨⟨59, h.w, h.bad, []⟩, [(0, 22, fun gh => .agg #[.int .i64 x.op, .int .i64 x.k, .int .i64 x.n, .string x.s, .string x.nm, .slice (sA u) (sN u) (sC u)]), (1, 23, fun gh => .slice (sA (gh 1)) (sN (gh 1)) (sC (gh 1))), (2, 24, fun gh => .tuple #[.int .i64 kind, .int .i64 0]), (3, 21, fun gh => .tuple #[.int .i64 kind, .int .i64 0]), (4, 25, fun gh => .int .i64 kind), (5, 26, fun gh => .int .i64 0), (6, 8, fun gh => .int .i64 kind), (7, 9, fun gh => .int .i64 0)], [(1, .slice A1 n2 cap1), (6, .bool false), (2, .int .i64 kind), (7, .pointer (some ⟨b5, 0, none⟩))], [⟨some (.box b5 [.int .i64 x.op, .int .i64 x.k, .int .i64 x.n, .string x.s, .string x.nm, .slice (sA u) (sN u) (sC u)]), []⟩], [(1, fun gh hh => IsFds hh (.slice (sA (gh 1)) (sN (gh 1)) (sC (gh 1))) some5)], [[], [], [0, 1], [0, 1, 2], [0, 1, 2, 3], [0, 1, 2, 3], [0, 1, 2, 3, 4], [0, 1, 2, 3, 4, 5, 6]], h3⟩
    have hmono : ∀ zq ∈ R.F, ∀ zx zh zi, Sees zh zi → zq.2 zx zh → zq.2 zx zi := mono_cons (fun _ _ _ s c => c.sees s) (mono_nil)
    refine x_region (by kernel_rfl) R hJ 8 [.ld 0 0, .cl, .cl, .pu, .pu, .pu, .pu, .pu] (by kernel_rfl) hmono (fun _ _ _ => by kernel_rfl) (fun hT hA => ?_) ?_
    · clear hJ
      refine And.intro (r_call hT hA hmono ⟨fun _ _ => by kernel_rfl, fun _ _ => by kernel_rfl, fun _ _ => by kernel_rfl⟩ 23 (fun u => .slice (sA u) (sN u) (sC u)) [] 1 (by kernel_rfl) (by kernel_rfl) (fun _ => by kernel_rfl) 20 (fun gh => #[]) (fun _ _ => by kernel_rfl) (fun gh H sH fH lent => C0.facts (R := R) (x := gh) (i := 1) (n := 0) (F := (fun u => .slice (sA u) (sN u) (sC u))) (G := fun u hh => IsFds hh (.slice (sA u) (sN u) (sC u)) some5) (f := fun gh hh => IsFds hh (.slice (sA (gh 1)) (sN (gh 1)) (sC (gh 1))) some5) (some_u _) (by kernel_rfl) (by kernel_rfl) (fun _ _ r => r))) ?_
      refine And.intro (r_callv hT hA hmono 24 (fun gh => .tuple #[.int .i64 kind, .int .i64 0]) [0, 1] 2 (by kernel_rfl) (by kernel_rfl) (by kernel_rfl) (fun _ => by kernel_rfl) 27 (fun gh => #[.agg #[.int .i64 x.op, .int .i64 x.k, .int .i64 x.n, .string x.s, .string x.nm, .slice (sA u) (sN u) (sC u)], .slice (sA (gh 1)) (sN (gh 1)) (sC (gh 1))]) (fun _ _ => by kernel_rfl) (fun gh H sH fH lent => hOx _ _ _ (hx.sees sH) (fH 0 _ rfl (by kernel_rfl)))) ?_
      trivial
    clear hJ a w; intro gh h6 a w sR hJ1 hF; have s7 : Sees h3 h6 := sR; clear sR
    have hJ : K ⟨59, h.w, h.bad, []⟩ [(1, .slice A1 n2 cap1), (6, .bool false), (2, .int .i64 kind), (7, .pointer (some ⟨b5, 0, none⟩)), (8, .int .i64 kind), (9, .int .i64 0)] [.box b5 [.int .i64 x.op, .int .i64 x.k, .int .i64 x.n, .string x.s, .string x.nm, .slice (sA u) (sN u) (sC u)]] [] h6 a w := hJ1.to (by kernel_rfl) (by kernel_rfl) rfl
    have f23 : IsFds h6 (.slice (sA (gh 1)) (sN (gh 1)) (sC (gh 1))) some5 := Reg.fact (i := 1) (f := fun gh hh => IsFds hh (.slice (sA (gh 1)) (sN (gh 1)) (sC (gh 1))) some5) hF 0 (by kernel_rfl)
    clear hJ1 hF hmono R
    generalize gh 1 = u23 at *
    clear gh
    refine rx hJ false 2 [] [] (.ok (.code [0, 1, 1, 1, 1]) [.seq [1, 1, 1, 1, 1]] [(1, .slice A1 n2 cap1), (6, .bool false), (2, .int .i64 kind), (7, .pointer (some ⟨b5, 0, none⟩)), (8, .int .i64 kind), (9, .int .i64 0)] [.box b5 [.int .i64 x.op, .int .i64 x.k, .int .i64 x.n, .string x.s, .string x.nm, .slice (sA u) (sN u) (sC u)]] []) trivial trivial (fun _ => by kernel_rfl) ?_
    clear hJ a w; intro a w hJ
    let R : Reg := ⟨⟨59, h.w, h.bad, []⟩, [(0, 28, fun gh => .agg #[.int .i64 x.op, .int .i64 x.k, .int .i64 x.n, .string x.s, .string x.nm, .slice (sA u) (sN u) (sC u)]), (1, 29, fun gh => .slice A1 n2 cap1), (2, 30, fun gh => .slice (sA (gh 2)) (sN (gh 2)) (sC (gh 2))), (3, 31, fun gh => .agg #[.int .i64 y.op, .int .i64 y.k, .int .i64 y.n, .string y.s, .string y.nm, .slice (sA (gh 3)) (sN (gh 3)) (sC (gh 3))]), (4, 32, fun gh => .tuple #[.agg #[.int .i64 z.op, .int .i64 z.k, .int .i64 z.n, .string z.s, .string z.nm, .slice (sA (gh 4)) (sN (gh 4)) (sC (gh 4))], .int .i64 0]), (5, 27, fun gh => .tuple #[.agg #[.int .i64 z.op, .int .i64 z.k, .int .i64 z.n, .string z.s, .string z.nm, .slice (sA (gh 4)) (sN (gh 4)) (sC (gh 4))], .int .i64 0]), (6, 33, fun gh => .agg #[.int .i64 z.op, .int .i64 z.k, .int .i64 z.n, .string z.s, .string z.nm, .slice (sA (gh 4)) (sN (gh 4)) (sC (gh 4))]), (7, 34, fun gh => .int .i64 0), (8, 10, fun gh => .pointer (some ⟨(blkOf (gh 8)), 0, none⟩)), (10, 11, fun gh => .int .i64 0)], [(1, .slice A1 n2 cap1), (6, .bool false), (2, .int .i64 kind), (7, .pointer (some ⟨b5, 0, none⟩)), (8, .int .i64 kind), (9, .int .i64 0)], [⟨none, [(8, fun gh => .box (blkOf (gh 8)) [.int .i64 0, .int .i64 0, .int .i64 0, .string ⟨#[]⟩, .string ⟨#[]⟩, .slice none 0 0]), (9, fun gh => .box (blkOf (gh 8)) [.int .i64 z.op, .int .i64 z.k, .int .i64 z.n, .string z.s, .string z.nm, .slice (sA (gh 4)) (sN (gh 4)) (sC (gh 4))])]⟩, ⟨some (.box b5 [.int .i64 x.op, .int .i64 x.k, .int .i64 x.n, .string x.s, .string x.nm, .slice (sA u) (sN u) (sC u)]), []⟩], [(2, fun gh hh => IsFds hh (.slice (sA (gh 2)) (sN (gh 2)) (sC (gh 2))) some5), (3, fun gh hh => IsArgs hh y (.slice (sA (gh 3)) (sN (gh 3)) (sC (gh 3)))), (4, fun gh hh => IsArgs hh z (.slice (sA (gh 4)) (sN (gh 4)) (sC (gh 4))))], [[], [], [], [1, 2], [0, 1, 2, 3], [0, 1, 2, 3, 4], [0, 1, 2, 3, 4, 5], [0, 1, 2, 3, 4, 5], [], [0, 1, 2, 3, 4, 5, 6, 8], [0, 1, 2, 3, 4, 5, 6, 7, 8, 9]], h6⟩
    have hmono : ∀ zq ∈ R.F, ∀ zx zh zi, Sees zh zi → zq.2 zx zh → zq.2 zx zi := mono_cons (fun _ _ _ s c => c.sees s) (mono_cons (fun _ _ _ s c => c.sees s) (mono_cons (fun _ _ _ s c => c.sees s) (mono_nil)))
    refine x_region (by kernel_rfl) R hJ 11 [.ld 1 0, .pu, .cl, .cl, .cl, .pu, .pu, .pu, .al 0, .st 0 0, .pu] (by kernel_rfl) hmono (fun _ _ _ => by kernel_rfl) (fun hT hA => ?_) ?_
    · clear hJ
      refine And.intro (r_call hT hA hmono ⟨fun _ _ => by kernel_rfl, fun _ _ => by kernel_rfl, fun _ _ => by kernel_rfl⟩ 30 (fun u => .slice (sA u) (sN u) (sC u)) [] 2 (by kernel_rfl) (by kernel_rfl) (fun _ => by kernel_rfl) 20 (fun gh => #[]) (fun _ _ => by kernel_rfl) (fun gh H sH fH lent => C0.facts (R := R) (x := gh) (i := 2) (n := 0) (F := (fun u => .slice (sA u) (sN u) (sC u))) (G := fun u hh => IsFds hh (.slice (sA u) (sN u) (sC u)) some5) (f := fun gh hh => IsFds hh (.slice (sA (gh 2)) (sN (gh 2)) (sC (gh 2))) some5) (some_u _) (by kernel_rfl) (by kernel_rfl) (fun _ _ r => r))) ?_
      refine And.intro (r_call hT hA hmono ⟨fun _ _ => by kernel_rfl, fun _ _ => by kernel_rfl, fun _ _ => by kernel_rfl⟩ 31 (fun u => .agg #[.int .i64 y.op, .int .i64 y.k, .int .i64 y.n, .string y.s, .string y.nm, .slice (sA u) (sN u) (sC u)]) [1, 2] 3 (by kernel_rfl) (by kernel_rfl) (fun _ => by kernel_rfl) 18 (fun gh => #[.slice A1 n2 cap1, .int .i64 1, .slice (sA (gh 2)) (sN (gh 2)) (sC (gh 2))]) (fun _ _ => by kernel_rfl) (fun gh H sH fH lent => C0.facts (R := R) (x := gh) (i := 3) (n := 1) (F := (fun u => .agg #[.int .i64 y.op, .int .i64 y.k, .int .i64 y.n, .string y.s, .string y.nm, .slice (sA u) (sN u) (sC u)])) (G := fun u hh => IsArgs hh y (.slice (sA u) (sN u) (sC u))) (f := fun gh hh => IsArgs hh y (.slice (sA (gh 3)) (sN (gh 3)) (sC (gh 3)))) (hE' _ _ (hs.sees (s2.trans (s4.trans (s7.trans sH)))) _ (fH 0 _ rfl (by kernel_rfl)) (by omega) (by omega)) (by kernel_rfl) (by kernel_rfl) (fun _ _ r => r))) ?_
      refine And.intro (r_call hT hA hmono ⟨fun _ _ => by kernel_rfl, fun _ _ => by kernel_rfl, fun _ _ => by kernel_rfl⟩ 32 (fun u => .tuple #[.agg #[.int .i64 z.op, .int .i64 z.k, .int .i64 z.n, .string z.s, .string z.nm, .slice (sA u) (sN u) (sC u)], .int .i64 0]) [0, 3] 4 (by kernel_rfl) (by kernel_rfl) (fun _ => by kernel_rfl) 23 (fun gh => #[.agg #[.int .i64 x.op, .int .i64 x.k, .int .i64 x.n, .string x.s, .string x.nm, .slice (sA u) (sN u) (sC u)], .string ⟨#[110]⟩, .agg #[.int .i64 y.op, .int .i64 y.k, .int .i64 y.n, .string y.s, .string y.nm, .slice (sA (gh 3)) (sN (gh 3)) (sC (gh 3))]]) (fun _ _ => by kernel_rfl) (fun gh H sH fH lent => C0.facts (R := R) (x := gh) (i := 4) (n := 2) (F := (fun u => .tuple #[.agg #[.int .i64 z.op, .int .i64 z.k, .int .i64 z.n, .string z.s, .string z.nm, .slice (sA u) (sN u) (sC u)], .int .i64 0])) (G := fun u hh => IsArgs hh z (.slice (sA u) (sN u) (sC u))) (f := fun gh hh => IsArgs hh z (.slice (sA (gh 4)) (sN (gh 4)) (sC (gh 4)))) (hPok _ _ _ (hx.sees (s7.trans sH)) (fH 1 _ rfl (by kernel_rfl)) h0) (by kernel_rfl) (by kernel_rfl) (fun _ _ r => r))) ?_
      trivial
    clear hJ a w; intro gh h9 a w sR hJ1 hF; have s10 : Sees h6 h9 := sR; clear sR
    have hJ : K ⟨59, h.w, h.bad, []⟩ [(6, .bool false), (2, .int .i64 kind), (8, .int .i64 kind), (9, .int .i64 0), (10, .pointer (some ⟨(blkOf (gh 8)), 0, none⟩)), (11, .int .i64 0)] [.box (blkOf (gh 8)) [.int .i64 z.op, .int .i64 z.k, .int .i64 z.n, .string z.s, .string z.nm, .slice (sA (gh 4)) (sN (gh 4)) (sC (gh 4))], .box b5 [.int .i64 x.op, .int .i64 x.k, .int .i64 x.n, .string x.s, .string x.nm, .slice (sA u) (sN u) (sC u)]] [] h9 a w := hJ1.to (by kernel_rfl) (by kernel_rfl) rfl
    have f30 : IsFds h9 (.slice (sA (gh 2)) (sN (gh 2)) (sC (gh 2))) some5 := Reg.fact (i := 2) (f := fun gh hh => IsFds hh (.slice (sA (gh 2)) (sN (gh 2)) (sC (gh 2))) some5) hF 0 (by kernel_rfl)
    have f31 : IsArgs h9 y (.slice (sA (gh 3)) (sN (gh 3)) (sC (gh 3))) := Reg.fact (i := 3) (f := fun gh hh => IsArgs hh y (.slice (sA (gh 3)) (sN (gh 3)) (sC (gh 3)))) hF 1 (by kernel_rfl)
    have f32 : IsArgs h9 z (.slice (sA (gh 4)) (sN (gh 4)) (sC (gh 4))) := Reg.fact (i := 4) (f := fun gh hh => IsArgs hh z (.slice (sA (gh 4)) (sN (gh 4)) (sC (gh 4)))) hF 2 (by kernel_rfl)
    clear hJ1 hF hmono R
    generalize gh 2 = u30 at *
    generalize gh 3 = u31 at *
    generalize gh 4 = u32 at *
    generalize blkOf (gh 8) = b8 at *
    clear gh
    refine rx hJ false 17 [] [(40, .bool (kind != kind), .bool false)] (.ok (.code [0, 1, 1, 1, 1, 1, 1]) [.seq [1, 1, 1, 1, 1, 1, 1]] [(6, .bool false), (2, .int .i64 kind), (10, .pointer (some ⟨b8, 0, none⟩)), (11, .int .i64 0)] [.box b8 [.int .i64 z.op, .int .i64 z.k, .int .i64 z.n, .string z.s, .string z.nm, .slice (sA u32) (sN u32) (sC u32)], .box b5 [.int .i64 x.op, .int .i64 x.k, .int .i64 x.n, .string x.s, .string x.nm, .slice (sA u) (sN u) (sC u)]] []) trivial (And.intro (congrArg Value.bool (bne_self_eq_false _)) (trivial)) (fun _ => by kernel_rfl) ?_
    clear hJ a w; intro a w hJ
    let R : Reg := ⟨⟨59, h.w, h.bad, []⟩, [(0, 43, fun gh => .agg #[.int .i64 z.op, .int .i64 z.k, .int .i64 z.n, .string z.s, .string z.nm, .slice (sA u32) (sN u32) (sC u32)]), (1, 44, fun gh => .slice (sA (gh 1)) (sN (gh 1)) (sC (gh 1))), (2, 45, fun gh => .tuple #[.int .i64 kind, .int .i64 0]), (3, 42, fun gh => .tuple #[.int .i64 kind, .int .i64 0]), (4, 46, fun gh => .int .i64 kind), (5, 47, fun gh => .int .i64 0), (6, 12, fun gh => .int .i64 kind), (7, 13, fun gh => .int .i64 0)], [(6, .bool false), (2, .int .i64 kind), (10, .pointer (some ⟨b8, 0, none⟩)), (11, .int .i64 0)], [⟨some (.box b8 [.int .i64 z.op, .int .i64 z.k, .int .i64 z.n, .string z.s, .string z.nm, .slice (sA u32) (sN u32) (sC u32)]), []⟩, ⟨some (.box b5 [.int .i64 x.op, .int .i64 x.k, .int .i64 x.n, .string x.s, .string x.nm, .slice (sA u) (sN u) (sC u)]), []⟩], [(1, fun gh hh => IsFds hh (.slice (sA (gh 1)) (sN (gh 1)) (sC (gh 1))) some5)], [[], [], [0, 1], [0, 1, 2], [0, 1, 2, 3], [0, 1, 2, 3], [0, 1, 2, 3, 4], [0, 1, 2, 3, 4, 5, 6]], h9⟩
    have hmono : ∀ zq ∈ R.F, ∀ zx zh zi, Sees zh zi → zq.2 zx zh → zq.2 zx zi := mono_cons (fun _ _ _ s c => c.sees s) (mono_nil)
    refine x_region (by kernel_rfl) R hJ 8 [.ld 0 0, .cl, .cl, .pu, .pu, .pu, .pu, .pu] (by kernel_rfl) hmono (fun _ _ _ => by kernel_rfl) (fun hT hA => ?_) ?_
    · clear hJ
      refine And.intro (r_call hT hA hmono ⟨fun _ _ => by kernel_rfl, fun _ _ => by kernel_rfl, fun _ _ => by kernel_rfl⟩ 44 (fun u => .slice (sA u) (sN u) (sC u)) [] 1 (by kernel_rfl) (by kernel_rfl) (fun _ => by kernel_rfl) 20 (fun gh => #[]) (fun _ _ => by kernel_rfl) (fun gh H sH fH lent => C0.facts (R := R) (x := gh) (i := 1) (n := 0) (F := (fun u => .slice (sA u) (sN u) (sC u))) (G := fun u hh => IsFds hh (.slice (sA u) (sN u) (sC u)) some5) (f := fun gh hh => IsFds hh (.slice (sA (gh 1)) (sN (gh 1)) (sC (gh 1))) some5) (some_u _) (by kernel_rfl) (by kernel_rfl) (fun _ _ r => r))) ?_
      refine And.intro (r_callv hT hA hmono 45 (fun gh => .tuple #[.int .i64 kind, .int .i64 0]) [0, 1] 2 (by kernel_rfl) (by kernel_rfl) (by kernel_rfl) (fun _ => by kernel_rfl) 27 (fun gh => #[.agg #[.int .i64 z.op, .int .i64 z.k, .int .i64 z.n, .string z.s, .string z.nm, .slice (sA u32) (sN u32) (sC u32)], .slice (sA (gh 1)) (sN (gh 1)) (sC (gh 1))]) (fun _ _ => by kernel_rfl) (fun gh H sH fH lent => hOz2 _ _ _ (f32.sees sH) (fH 0 _ rfl (by kernel_rfl)))) ?_
      trivial
    clear hJ a w; intro gh h11 a w sR hJ1 hF; have s12 : Sees h9 h11 := sR; clear sR
    have hJ : K ⟨59, h.w, h.bad, []⟩ [(6, .bool false), (2, .int .i64 kind), (11, .int .i64 0), (12, .int .i64 kind), (13, .int .i64 0)] [.box b8 [.int .i64 z.op, .int .i64 z.k, .int .i64 z.n, .string z.s, .string z.nm, .slice (sA u32) (sN u32) (sC u32)], .box b5 [.int .i64 x.op, .int .i64 x.k, .int .i64 x.n, .string x.s, .string x.nm, .slice (sA u) (sN u) (sC u)]] [] h11 a w := hJ1.to (by kernel_rfl) (by kernel_rfl) rfl
    have f44 : IsFds h11 (.slice (sA (gh 1)) (sN (gh 1)) (sC (gh 1))) some5 := Reg.fact (i := 1) (f := fun gh hh => IsFds hh (.slice (sA (gh 1)) (sN (gh 1)) (sC (gh 1))) some5) hF 0 (by kernel_rfl)
    clear hJ1 hF hmono R
    generalize gh 1 = u44 at *
    clear gh
    refine rx hJ false 18 [] [(56, .bool (kind == kind), .bool true)] (.ok (.out .ret) [] [(6, .bool true)] [.box b8 [.int .i64 z.op, .int .i64 z.k, .int .i64 z.n, .string z.s, .string z.nm, .slice (sA u32) (sN u32) (sC u32)], .box b5 [.int .i64 x.op, .int .i64 x.k, .int .i64 x.n, .string x.s, .string x.nm, .slice (sA u) (sN u) (sC u)]] []) trivial (And.intro (congrArg Value.bool (beq_self_eq_true _)) (trivial)) (fun _ => by kernel_rfl) ?_
    clear hJ a w; intro a w hJ
    refine x_end (hQ [.bool true] [.box b8 [.int .i64 z.op, .int .i64 z.k, .int .i64 z.n, .string z.s, .string z.nm, .slice (sA u32) (sN u32) (sC u32)], .box b5 [.int .i64 x.op, .int .i64 x.k, .int .i64 x.n, .string x.s, .string x.nm, .slice (sA u) (sN u) (sC u)]] [] hJ (.rtmp hJ.j (by kernel_rfl) .nil) (by kernel_rfl) (by kernel_rfl) ?_).1
    exact rfl
  · skip
    refine x_call hJ 20 (f := 18) (args := #[.slice A0 n1 cap, .int .i64 kind, .slice (some ⟨b, 0, none⟩) 5 5]) (hE _ _ (hr.sees (s2.trans hJ.j.sees)) _ (hfs.sees hJ.j.sees) (by omega) (by omega)) (fun _ => by kernel_rfl) ?_; clear hJ a w; rintro _ h13 a w s14 ⟨u, rfl, hx⟩ hJ
    refine rx hJ false 5 [.own, .b 0 0] [] (.new fun b15 => .ok (.code [0, 1, 1, 1]) [.seq [1, 1, 1, 1]] [(1, .slice A1 n2 cap1), (6, .bool false), (2, .int .i64 kind), (7, .pointer (some ⟨b15, 0, none⟩))] [.box b15 [.int .i64 x.op, .int .i64 x.k, .int .i64 x.n, .string x.s, .string x.nm, .slice (sA u) (sN u) (sC u)]] []) trivial trivial (fun b15 _ => by kernel_rfl) ?_
    clear hJ a w; intro b15 a w hJ
    let R : Reg := ⟨⟨59, h.w, h.bad, []⟩, [(0, 22, fun gh => .agg #[.int .i64 x.op, .int .i64 x.k, .int .i64 x.n, .string x.s, .string x.nm, .slice (sA u) (sN u) (sC u)]), (1, 23, fun gh => .slice (sA (gh 1)) (sN (gh 1)) (sC (gh 1))), (2, 24, fun gh => .tuple #[.int .i64 kind, .int .i64 0]), (3, 21, fun gh => .tuple #[.int .i64 kind, .int .i64 0]), (4, 25, fun gh => .int .i64 kind), (5, 26, fun gh => .int .i64 0), (6, 8, fun gh => .int .i64 kind), (7, 9, fun gh => .int .i64 0)], [(1, .slice A1 n2 cap1), (6, .bool false), (2, .int .i64 kind), (7, .pointer (some ⟨b15, 0, none⟩))], [⟨some (.box b15 [.int .i64 x.op, .int .i64 x.k, .int .i64 x.n, .string x.s, .string x.nm, .slice (sA u) (sN u) (sC u)]), []⟩], [(1, fun gh hh => IsFds hh (.slice (sA (gh 1)) (sN (gh 1)) (sC (gh 1))) some5)], [[], [], [0, 1], [0, 1, 2], [0, 1, 2, 3], [0, 1, 2, 3], [0, 1, 2, 3, 4], [0, 1, 2, 3, 4, 5, 6]], h13⟩
    have hmono : ∀ zq ∈ R.F, ∀ zx zh zi, Sees zh zi → zq.2 zx zh → zq.2 zx zi := mono_cons (fun _ _ _ s c => c.sees s) (mono_nil)
    refine x_region (by kernel_rfl) R hJ 8 [.ld 0 0, .cl, .cl, .pu, .pu, .pu, .pu, .pu] (by kernel_rfl) hmono (fun _ _ _ => by kernel_rfl) (fun hT hA => ?_) ?_
    · clear hJ
      refine And.intro (r_call hT hA hmono ⟨fun _ _ => by kernel_rfl, fun _ _ => by kernel_rfl, fun _ _ => by kernel_rfl⟩ 23 (fun u => .slice (sA u) (sN u) (sC u)) [] 1 (by kernel_rfl) (by kernel_rfl) (fun _ => by kernel_rfl) 20 (fun gh => #[]) (fun _ _ => by kernel_rfl) (fun gh H sH fH lent => C0.facts (R := R) (x := gh) (i := 1) (n := 0) (F := (fun u => .slice (sA u) (sN u) (sC u))) (G := fun u hh => IsFds hh (.slice (sA u) (sN u) (sC u)) some5) (f := fun gh hh => IsFds hh (.slice (sA (gh 1)) (sN (gh 1)) (sC (gh 1))) some5) (some_u _) (by kernel_rfl) (by kernel_rfl) (fun _ _ r => r))) ?_
      refine And.intro (r_callv hT hA hmono 24 (fun gh => .tuple #[.int .i64 kind, .int .i64 0]) [0, 1] 2 (by kernel_rfl) (by kernel_rfl) (by kernel_rfl) (fun _ => by kernel_rfl) 27 (fun gh => #[.agg #[.int .i64 x.op, .int .i64 x.k, .int .i64 x.n, .string x.s, .string x.nm, .slice (sA u) (sN u) (sC u)], .slice (sA (gh 1)) (sN (gh 1)) (sC (gh 1))]) (fun _ _ => by kernel_rfl) (fun gh H sH fH lent => hOx _ _ _ (hx.sees sH) (fH 0 _ rfl (by kernel_rfl)))) ?_
      trivial
    clear hJ a w; intro gh h16 a w sR hJ1 hF; have s17 : Sees h13 h16 := sR; clear sR
    have hJ : K ⟨59, h.w, h.bad, []⟩ [(1, .slice A1 n2 cap1), (6, .bool false), (2, .int .i64 kind), (7, .pointer (some ⟨b15, 0, none⟩)), (8, .int .i64 kind), (9, .int .i64 0)] [.box b15 [.int .i64 x.op, .int .i64 x.k, .int .i64 x.n, .string x.s, .string x.nm, .slice (sA u) (sN u) (sC u)]] [] h16 a w := hJ1.to (by kernel_rfl) (by kernel_rfl) rfl
    have f23 : IsFds h16 (.slice (sA (gh 1)) (sN (gh 1)) (sC (gh 1))) some5 := Reg.fact (i := 1) (f := fun gh hh => IsFds hh (.slice (sA (gh 1)) (sN (gh 1)) (sC (gh 1))) some5) hF 0 (by kernel_rfl)
    clear hJ1 hF hmono R
    generalize gh 1 = u23 at *
    clear gh
    refine rx hJ false 2 [] [] (.ok (.code [0, 1, 1, 1, 1]) [.seq [1, 1, 1, 1, 1]] [(1, .slice A1 n2 cap1), (6, .bool false), (2, .int .i64 kind), (7, .pointer (some ⟨b15, 0, none⟩)), (8, .int .i64 kind), (9, .int .i64 0)] [.box b15 [.int .i64 x.op, .int .i64 x.k, .int .i64 x.n, .string x.s, .string x.nm, .slice (sA u) (sN u) (sC u)]] []) trivial trivial (fun _ => by kernel_rfl) ?_
    clear hJ a w; intro a w hJ
    let R : Reg := ⟨⟨59, h.w, h.bad, []⟩, [(0, 28, fun gh => .agg #[.int .i64 x.op, .int .i64 x.k, .int .i64 x.n, .string x.s, .string x.nm, .slice (sA u) (sN u) (sC u)]), (1, 29, fun gh => .slice A1 n2 cap1), (2, 30, fun gh => .slice (sA (gh 2)) (sN (gh 2)) (sC (gh 2))), (3, 31, fun gh => .agg #[.int .i64 y.op, .int .i64 y.k, .int .i64 y.n, .string y.s, .string y.nm, .slice (sA (gh 3)) (sN (gh 3)) (sC (gh 3))]), (4, 32, fun gh => .tuple #[.agg #[.int .i64 0, .int .i64 0, .int .i64 0, .string ⟨#[]⟩, .string ⟨#[]⟩, .slice none 0 0], .int .i64 1]), (5, 27, fun gh => .tuple #[.agg #[.int .i64 0, .int .i64 0, .int .i64 0, .string ⟨#[]⟩, .string ⟨#[]⟩, .slice none 0 0], .int .i64 1]), (6, 33, fun gh => .agg #[.int .i64 0, .int .i64 0, .int .i64 0, .string ⟨#[]⟩, .string ⟨#[]⟩, .slice none 0 0]), (7, 34, fun gh => .int .i64 1), (8, 10, fun gh => .pointer (some ⟨(blkOf (gh 8)), 0, none⟩)), (10, 11, fun gh => .int .i64 1)], [(1, .slice A1 n2 cap1), (6, .bool false), (2, .int .i64 kind), (7, .pointer (some ⟨b15, 0, none⟩)), (8, .int .i64 kind), (9, .int .i64 0)], [⟨none, [(8, fun gh => .box (blkOf (gh 8)) [.int .i64 0, .int .i64 0, .int .i64 0, .string ⟨#[]⟩, .string ⟨#[]⟩, .slice none 0 0]), (9, fun gh => .box (blkOf (gh 8)) [.int .i64 0, .int .i64 0, .int .i64 0, .string ⟨#[]⟩, .string ⟨#[]⟩, .slice none 0 0])]⟩, ⟨some (.box b15 [.int .i64 x.op, .int .i64 x.k, .int .i64 x.n, .string x.s, .string x.nm, .slice (sA u) (sN u) (sC u)]), []⟩], [(2, fun gh hh => IsFds hh (.slice (sA (gh 2)) (sN (gh 2)) (sC (gh 2))) some5), (3, fun gh hh => IsArgs hh y (.slice (sA (gh 3)) (sN (gh 3)) (sC (gh 3))))], [[], [], [], [1, 2], [0, 1, 2, 3], [0, 1, 2, 3, 4], [0, 1, 2, 3, 4, 5], [0, 1, 2, 3, 4, 5], [], [0, 1, 2, 3, 4, 5, 6, 8], [0, 1, 2, 3, 4, 5, 6, 7, 8, 9]], h16⟩
    have hmono : ∀ zq ∈ R.F, ∀ zx zh zi, Sees zh zi → zq.2 zx zh → zq.2 zx zi := mono_cons (fun _ _ _ s c => c.sees s) (mono_cons (fun _ _ _ s c => c.sees s) (mono_nil))
    refine x_region (by kernel_rfl) R hJ 11 [.ld 1 0, .pu, .cl, .cl, .cl, .pu, .pu, .pu, .al 0, .st 0 0, .pu] (by kernel_rfl) hmono (fun _ _ _ => by kernel_rfl) (fun hT hA => ?_) ?_
    · clear hJ
      refine And.intro (r_call hT hA hmono ⟨fun _ _ => by kernel_rfl, fun _ _ => by kernel_rfl, fun _ _ => by kernel_rfl⟩ 30 (fun u => .slice (sA u) (sN u) (sC u)) [] 2 (by kernel_rfl) (by kernel_rfl) (fun _ => by kernel_rfl) 20 (fun gh => #[]) (fun _ _ => by kernel_rfl) (fun gh H sH fH lent => C0.facts (R := R) (x := gh) (i := 2) (n := 0) (F := (fun u => .slice (sA u) (sN u) (sC u))) (G := fun u hh => IsFds hh (.slice (sA u) (sN u) (sC u)) some5) (f := fun gh hh => IsFds hh (.slice (sA (gh 2)) (sN (gh 2)) (sC (gh 2))) some5) (some_u _) (by kernel_rfl) (by kernel_rfl) (fun _ _ r => r))) ?_
      refine And.intro (r_call hT hA hmono ⟨fun _ _ => by kernel_rfl, fun _ _ => by kernel_rfl, fun _ _ => by kernel_rfl⟩ 31 (fun u => .agg #[.int .i64 y.op, .int .i64 y.k, .int .i64 y.n, .string y.s, .string y.nm, .slice (sA u) (sN u) (sC u)]) [1, 2] 3 (by kernel_rfl) (by kernel_rfl) (fun _ => by kernel_rfl) 18 (fun gh => #[.slice A1 n2 cap1, .int .i64 1, .slice (sA (gh 2)) (sN (gh 2)) (sC (gh 2))]) (fun _ _ => by kernel_rfl) (fun gh H sH fH lent => C0.facts (R := R) (x := gh) (i := 3) (n := 1) (F := (fun u => .agg #[.int .i64 y.op, .int .i64 y.k, .int .i64 y.n, .string y.s, .string y.nm, .slice (sA u) (sN u) (sC u)])) (G := fun u hh => IsArgs hh y (.slice (sA u) (sN u) (sC u))) (f := fun gh hh => IsArgs hh y (.slice (sA (gh 3)) (sN (gh 3)) (sC (gh 3)))) (hE' _ _ (hs.sees (s2.trans (s14.trans (s17.trans sH)))) _ (fH 0 _ rfl (by kernel_rfl)) (by omega) (by omega)) (by kernel_rfl) (by kernel_rfl) (fun _ _ r => r))) ?_
      refine And.intro (r_callv hT hA hmono 32 (fun gh => .tuple #[.agg #[.int .i64 0, .int .i64 0, .int .i64 0, .string ⟨#[]⟩, .string ⟨#[]⟩, .slice none 0 0], .int .i64 1]) [0, 3] 4 (by kernel_rfl) (by kernel_rfl) (by kernel_rfl) (fun _ => by kernel_rfl) 23 (fun gh => #[.agg #[.int .i64 x.op, .int .i64 x.k, .int .i64 x.n, .string x.s, .string x.nm, .slice (sA u) (sN u) (sC u)], .string ⟨#[110]⟩, .agg #[.int .i64 y.op, .int .i64 y.k, .int .i64 y.n, .string y.s, .string y.nm, .slice (sA (gh 3)) (sN (gh 3)) (sC (gh 3))]]) (fun _ _ => by kernel_rfl) (fun gh H sH fH lent => hPbad _ _ _ (hx.sees (s17.trans sH)) (fH 1 _ rfl (by kernel_rfl)) 1 h0 (by omega))) ?_
      trivial
    clear hJ a w; intro gh h19 a w sR hJ1 hF; have s20 : Sees h16 h19 := sR; clear sR
    have hJ : K ⟨59, h.w, h.bad, []⟩ [(6, .bool false), (2, .int .i64 kind), (8, .int .i64 kind), (9, .int .i64 0), (10, .pointer (some ⟨(blkOf (gh 8)), 0, none⟩)), (11, .int .i64 1)] [.box (blkOf (gh 8)) [.int .i64 0, .int .i64 0, .int .i64 0, .string ⟨#[]⟩, .string ⟨#[]⟩, .slice none 0 0], .box b15 [.int .i64 x.op, .int .i64 x.k, .int .i64 x.n, .string x.s, .string x.nm, .slice (sA u) (sN u) (sC u)]] [] h19 a w := hJ1.to (by kernel_rfl) (by kernel_rfl) rfl
    have f30 : IsFds h19 (.slice (sA (gh 2)) (sN (gh 2)) (sC (gh 2))) some5 := Reg.fact (i := 2) (f := fun gh hh => IsFds hh (.slice (sA (gh 2)) (sN (gh 2)) (sC (gh 2))) some5) hF 0 (by kernel_rfl)
    have f31 : IsArgs h19 y (.slice (sA (gh 3)) (sN (gh 3)) (sC (gh 3))) := Reg.fact (i := 3) (f := fun gh hh => IsArgs hh y (.slice (sA (gh 3)) (sN (gh 3)) (sC (gh 3)))) hF 1 (by kernel_rfl)
    clear hJ1 hF hmono R
    generalize gh 2 = u30 at *
    generalize gh 3 = u31 at *
    generalize blkOf (gh 8) = b18 at *
    clear gh
    refine rx hJ false 17 [] [(40, .bool (kind != kind), .bool false)] (.ok (.code [0, 1, 1, 1, 1, 1, 1]) [.seq [1, 1, 1, 1, 1, 1, 1]] [(6, .bool false), (2, .int .i64 kind), (10, .pointer (some ⟨b18, 0, none⟩)), (11, .int .i64 1)] [.box b18 [.int .i64 0, .int .i64 0, .int .i64 0, .string ⟨#[]⟩, .string ⟨#[]⟩, .slice none 0 0], .box b15 [.int .i64 x.op, .int .i64 x.k, .int .i64 x.n, .string x.s, .string x.nm, .slice (sA u) (sN u) (sC u)]] []) trivial (And.intro (congrArg Value.bool (bne_self_eq_false _)) (trivial)) (fun _ => by kernel_rfl) ?_
    clear hJ a w; intro a w hJ
    let R : Reg := ⟨⟨59, h.w, h.bad, []⟩, [(0, 43, fun gh => .agg #[.int .i64 0, .int .i64 0, .int .i64 0, .string ⟨#[]⟩, .string ⟨#[]⟩, .slice none 0 0]), (1, 44, fun gh => .slice (sA (gh 1)) (sN (gh 1)) (sC (gh 1))), (2, 45, fun gh => .tuple #[.int .i64 0, .int .i64 2]), (3, 42, fun gh => .tuple #[.int .i64 0, .int .i64 2]), (4, 46, fun gh => .int .i64 0), (5, 47, fun gh => .int .i64 2), (6, 12, fun gh => .int .i64 0), (7, 13, fun gh => .int .i64 2)], [(6, .bool false), (2, .int .i64 kind), (10, .pointer (some ⟨b18, 0, none⟩)), (11, .int .i64 1)], [⟨some (.box b18 [.int .i64 0, .int .i64 0, .int .i64 0, .string ⟨#[]⟩, .string ⟨#[]⟩, .slice none 0 0]), []⟩, ⟨some (.box b15 [.int .i64 x.op, .int .i64 x.k, .int .i64 x.n, .string x.s, .string x.nm, .slice (sA u) (sN u) (sC u)]), []⟩], [(1, fun gh hh => IsFds hh (.slice (sA (gh 1)) (sN (gh 1)) (sC (gh 1))) some5)], [[], [], [0, 1], [0, 1, 2], [0, 1, 2, 3], [0, 1, 2, 3], [0, 1, 2, 3, 4], [0, 1, 2, 3, 4, 5, 6]], h19⟩
    have hmono : ∀ zq ∈ R.F, ∀ zx zh zi, Sees zh zi → zq.2 zx zh → zq.2 zx zi := mono_cons (fun _ _ _ s c => c.sees s) (mono_nil)
    refine x_region (by kernel_rfl) R hJ 8 [.ld 0 0, .cl, .cl, .pu, .pu, .pu, .pu, .pu] (by kernel_rfl) hmono (fun _ _ _ => by kernel_rfl) (fun hT hA => ?_) ?_
    · clear hJ
      refine And.intro (r_call hT hA hmono ⟨fun _ _ => by kernel_rfl, fun _ _ => by kernel_rfl, fun _ _ => by kernel_rfl⟩ 44 (fun u => .slice (sA u) (sN u) (sC u)) [] 1 (by kernel_rfl) (by kernel_rfl) (fun _ => by kernel_rfl) 20 (fun gh => #[]) (fun _ _ => by kernel_rfl) (fun gh H sH fH lent => C0.facts (R := R) (x := gh) (i := 1) (n := 0) (F := (fun u => .slice (sA u) (sN u) (sC u))) (G := fun u hh => IsFds hh (.slice (sA u) (sN u) (sC u)) some5) (f := fun gh hh => IsFds hh (.slice (sA (gh 1)) (sN (gh 1)) (sC (gh 1))) some5) (some_u _) (by kernel_rfl) (by kernel_rfl) (fun _ _ r => r))) ?_
      refine And.intro (r_callv hT hA hmono 45 (fun gh => .tuple #[.int .i64 0, .int .i64 2]) [0, 1] 2 (by kernel_rfl) (by kernel_rfl) (by kernel_rfl) (fun _ => by kernel_rfl) 27 (fun gh => #[.agg #[.int .i64 0, .int .i64 0, .int .i64 0, .string ⟨#[]⟩, .string ⟨#[]⟩, .slice none 0 0], .slice (sA (gh 1)) (sN (gh 1)) (sC (gh 1))]) (fun _ _ => by kernel_rfl) (fun gh H sH fH lent => tyOf_no _ _ _ _)) ?_
      trivial
    clear hJ a w; intro gh h21 a w sR hJ1 hF; have s22 : Sees h19 h21 := sR; clear sR
    have hJ : K ⟨59, h.w, h.bad, []⟩ [(6, .bool false), (2, .int .i64 kind), (11, .int .i64 1), (12, .int .i64 0), (13, .int .i64 2)] [.box b18 [.int .i64 0, .int .i64 0, .int .i64 0, .string ⟨#[]⟩, .string ⟨#[]⟩, .slice none 0 0], .box b15 [.int .i64 x.op, .int .i64 x.k, .int .i64 x.n, .string x.s, .string x.nm, .slice (sA u) (sN u) (sC u)]] [] h21 a w := hJ1.to (by kernel_rfl) (by kernel_rfl) rfl
    have f44 : IsFds h21 (.slice (sA (gh 1)) (sN (gh 1)) (sC (gh 1))) some5 := Reg.fact (i := 1) (f := fun gh hh => IsFds hh (.slice (sA (gh 1)) (sN (gh 1)) (sC (gh 1))) some5) hF 0 (by kernel_rfl)
    clear hJ1 hF hmono R
    generalize gh 1 = u44 at *
    clear gh
    refine rx hJ false 18 [] [] (.ok (.out .ret) [] [(6, .bool true)] [.box b18 [.int .i64 0, .int .i64 0, .int .i64 0, .string ⟨#[]⟩, .string ⟨#[]⟩, .slice none 0 0], .box b15 [.int .i64 x.op, .int .i64 x.k, .int .i64 x.n, .string x.s, .string x.nm, .slice (sA u) (sN u) (sC u)]] []) trivial trivial (fun _ => by kernel_rfl) ?_
    clear hJ a w; intro a w hJ
    refine x_end (hQ [.bool true] [.box b18 [.int .i64 0, .int .i64 0, .int .i64 0, .string ⟨#[]⟩, .string ⟨#[]⟩, .slice none 0 0], .box b15 [.int .i64 x.op, .int .i64 x.k, .int .i64 x.n, .string x.s, .string x.nm, .slice (sA u) (sN u) (sC u)]] [] hJ (.rtmp hJ.j (by kernel_rfl) .nil) (by kernel_rfl) (by kernel_rfl) ?_).1
    exact rfl
  · skip
    refine x_call hJ 20 (f := 18) (args := #[.slice A0 n1 cap, .int .i64 kind, .slice (some ⟨b, 0, none⟩) 5 5]) (hE _ _ (hr.sees (s2.trans hJ.j.sees)) _ (hfs.sees hJ.j.sees) (by omega) (by omega)) (fun _ => by kernel_rfl) ?_; clear hJ a w; rintro _ h23 a w s24 ⟨u, rfl, hx⟩ hJ
    refine rx hJ false 5 [.own, .b 0 0] [] (.new fun b25 => .ok (.code [0, 1, 1, 1]) [.seq [1, 1, 1, 1]] [(1, .slice A1 n2 cap1), (6, .bool false), (2, .int .i64 kind), (7, .pointer (some ⟨b25, 0, none⟩))] [.box b25 [.int .i64 x.op, .int .i64 x.k, .int .i64 x.n, .string x.s, .string x.nm, .slice (sA u) (sN u) (sC u)]] []) trivial trivial (fun b25 _ => by kernel_rfl) ?_
    clear hJ a w; intro b25 a w hJ
    let R : Reg := ⟨⟨59, h.w, h.bad, []⟩, [(0, 22, fun gh => .agg #[.int .i64 x.op, .int .i64 x.k, .int .i64 x.n, .string x.s, .string x.nm, .slice (sA u) (sN u) (sC u)]), (1, 23, fun gh => .slice (sA (gh 1)) (sN (gh 1)) (sC (gh 1))), (2, 24, fun gh => .tuple #[.int .i64 kind, .int .i64 0]), (3, 21, fun gh => .tuple #[.int .i64 kind, .int .i64 0]), (4, 25, fun gh => .int .i64 kind), (5, 26, fun gh => .int .i64 0), (6, 8, fun gh => .int .i64 kind), (7, 9, fun gh => .int .i64 0)], [(1, .slice A1 n2 cap1), (6, .bool false), (2, .int .i64 kind), (7, .pointer (some ⟨b25, 0, none⟩))], [⟨some (.box b25 [.int .i64 x.op, .int .i64 x.k, .int .i64 x.n, .string x.s, .string x.nm, .slice (sA u) (sN u) (sC u)]), []⟩], [(1, fun gh hh => IsFds hh (.slice (sA (gh 1)) (sN (gh 1)) (sC (gh 1))) some5)], [[], [], [0, 1], [0, 1, 2], [0, 1, 2, 3], [0, 1, 2, 3], [0, 1, 2, 3, 4], [0, 1, 2, 3, 4, 5, 6]], h23⟩
    have hmono : ∀ zq ∈ R.F, ∀ zx zh zi, Sees zh zi → zq.2 zx zh → zq.2 zx zi := mono_cons (fun _ _ _ s c => c.sees s) (mono_nil)
    refine x_region (by kernel_rfl) R hJ 8 [.ld 0 0, .cl, .cl, .pu, .pu, .pu, .pu, .pu] (by kernel_rfl) hmono (fun _ _ _ => by kernel_rfl) (fun hT hA => ?_) ?_
    · clear hJ
      refine And.intro (r_call hT hA hmono ⟨fun _ _ => by kernel_rfl, fun _ _ => by kernel_rfl, fun _ _ => by kernel_rfl⟩ 23 (fun u => .slice (sA u) (sN u) (sC u)) [] 1 (by kernel_rfl) (by kernel_rfl) (fun _ => by kernel_rfl) 20 (fun gh => #[]) (fun _ _ => by kernel_rfl) (fun gh H sH fH lent => C0.facts (R := R) (x := gh) (i := 1) (n := 0) (F := (fun u => .slice (sA u) (sN u) (sC u))) (G := fun u hh => IsFds hh (.slice (sA u) (sN u) (sC u)) some5) (f := fun gh hh => IsFds hh (.slice (sA (gh 1)) (sN (gh 1)) (sC (gh 1))) some5) (some_u _) (by kernel_rfl) (by kernel_rfl) (fun _ _ r => r))) ?_
      refine And.intro (r_callv hT hA hmono 24 (fun gh => .tuple #[.int .i64 kind, .int .i64 0]) [0, 1] 2 (by kernel_rfl) (by kernel_rfl) (by kernel_rfl) (fun _ => by kernel_rfl) 27 (fun gh => #[.agg #[.int .i64 x.op, .int .i64 x.k, .int .i64 x.n, .string x.s, .string x.nm, .slice (sA u) (sN u) (sC u)], .slice (sA (gh 1)) (sN (gh 1)) (sC (gh 1))]) (fun _ _ => by kernel_rfl) (fun gh H sH fH lent => hOx _ _ _ (hx.sees sH) (fH 0 _ rfl (by kernel_rfl)))) ?_
      trivial
    clear hJ a w; intro gh h26 a w sR hJ1 hF; have s27 : Sees h23 h26 := sR; clear sR
    have hJ : K ⟨59, h.w, h.bad, []⟩ [(1, .slice A1 n2 cap1), (6, .bool false), (2, .int .i64 kind), (7, .pointer (some ⟨b25, 0, none⟩)), (8, .int .i64 kind), (9, .int .i64 0)] [.box b25 [.int .i64 x.op, .int .i64 x.k, .int .i64 x.n, .string x.s, .string x.nm, .slice (sA u) (sN u) (sC u)]] [] h26 a w := hJ1.to (by kernel_rfl) (by kernel_rfl) rfl
    have f23 : IsFds h26 (.slice (sA (gh 1)) (sN (gh 1)) (sC (gh 1))) some5 := Reg.fact (i := 1) (f := fun gh hh => IsFds hh (.slice (sA (gh 1)) (sN (gh 1)) (sC (gh 1))) some5) hF 0 (by kernel_rfl)
    clear hJ1 hF hmono R
    generalize gh 1 = u23 at *
    clear gh
    refine rx hJ false 2 [] [] (.ok (.code [0, 1, 1, 1, 1]) [.seq [1, 1, 1, 1, 1]] [(1, .slice A1 n2 cap1), (6, .bool false), (2, .int .i64 kind), (7, .pointer (some ⟨b25, 0, none⟩)), (8, .int .i64 kind), (9, .int .i64 0)] [.box b25 [.int .i64 x.op, .int .i64 x.k, .int .i64 x.n, .string x.s, .string x.nm, .slice (sA u) (sN u) (sC u)]] []) trivial trivial (fun _ => by kernel_rfl) ?_
    clear hJ a w; intro a w hJ
    let R : Reg := ⟨⟨59, h.w, h.bad, []⟩, [(0, 28, fun gh => .agg #[.int .i64 x.op, .int .i64 x.k, .int .i64 x.n, .string x.s, .string x.nm, .slice (sA u) (sN u) (sC u)]), (1, 29, fun gh => .slice A1 n2 cap1), (2, 30, fun gh => .slice (sA (gh 2)) (sN (gh 2)) (sC (gh 2))), (3, 31, fun gh => .agg #[.int .i64 y.op, .int .i64 y.k, .int .i64 y.n, .string y.s, .string y.nm, .slice (sA (gh 3)) (sN (gh 3)) (sC (gh 3))]), (4, 32, fun gh => .tuple #[.agg #[.int .i64 0, .int .i64 0, .int .i64 0, .string ⟨#[]⟩, .string ⟨#[]⟩, .slice none 0 0], .int .i64 4]), (5, 27, fun gh => .tuple #[.agg #[.int .i64 0, .int .i64 0, .int .i64 0, .string ⟨#[]⟩, .string ⟨#[]⟩, .slice none 0 0], .int .i64 4]), (6, 33, fun gh => .agg #[.int .i64 0, .int .i64 0, .int .i64 0, .string ⟨#[]⟩, .string ⟨#[]⟩, .slice none 0 0]), (7, 34, fun gh => .int .i64 4), (8, 10, fun gh => .pointer (some ⟨(blkOf (gh 8)), 0, none⟩)), (10, 11, fun gh => .int .i64 4)], [(1, .slice A1 n2 cap1), (6, .bool false), (2, .int .i64 kind), (7, .pointer (some ⟨b25, 0, none⟩)), (8, .int .i64 kind), (9, .int .i64 0)], [⟨none, [(8, fun gh => .box (blkOf (gh 8)) [.int .i64 0, .int .i64 0, .int .i64 0, .string ⟨#[]⟩, .string ⟨#[]⟩, .slice none 0 0]), (9, fun gh => .box (blkOf (gh 8)) [.int .i64 0, .int .i64 0, .int .i64 0, .string ⟨#[]⟩, .string ⟨#[]⟩, .slice none 0 0])]⟩, ⟨some (.box b25 [.int .i64 x.op, .int .i64 x.k, .int .i64 x.n, .string x.s, .string x.nm, .slice (sA u) (sN u) (sC u)]), []⟩], [(2, fun gh hh => IsFds hh (.slice (sA (gh 2)) (sN (gh 2)) (sC (gh 2))) some5), (3, fun gh hh => IsArgs hh y (.slice (sA (gh 3)) (sN (gh 3)) (sC (gh 3))))], [[], [], [], [1, 2], [0, 1, 2, 3], [0, 1, 2, 3, 4], [0, 1, 2, 3, 4, 5], [0, 1, 2, 3, 4, 5], [], [0, 1, 2, 3, 4, 5, 6, 8], [0, 1, 2, 3, 4, 5, 6, 7, 8, 9]], h26⟩
    have hmono : ∀ zq ∈ R.F, ∀ zx zh zi, Sees zh zi → zq.2 zx zh → zq.2 zx zi := mono_cons (fun _ _ _ s c => c.sees s) (mono_cons (fun _ _ _ s c => c.sees s) (mono_nil))
    refine x_region (by kernel_rfl) R hJ 11 [.ld 1 0, .pu, .cl, .cl, .cl, .pu, .pu, .pu, .al 0, .st 0 0, .pu] (by kernel_rfl) hmono (fun _ _ _ => by kernel_rfl) (fun hT hA => ?_) ?_
    · clear hJ
      refine And.intro (r_call hT hA hmono ⟨fun _ _ => by kernel_rfl, fun _ _ => by kernel_rfl, fun _ _ => by kernel_rfl⟩ 30 (fun u => .slice (sA u) (sN u) (sC u)) [] 2 (by kernel_rfl) (by kernel_rfl) (fun _ => by kernel_rfl) 20 (fun gh => #[]) (fun _ _ => by kernel_rfl) (fun gh H sH fH lent => C0.facts (R := R) (x := gh) (i := 2) (n := 0) (F := (fun u => .slice (sA u) (sN u) (sC u))) (G := fun u hh => IsFds hh (.slice (sA u) (sN u) (sC u)) some5) (f := fun gh hh => IsFds hh (.slice (sA (gh 2)) (sN (gh 2)) (sC (gh 2))) some5) (some_u _) (by kernel_rfl) (by kernel_rfl) (fun _ _ r => r))) ?_
      refine And.intro (r_call hT hA hmono ⟨fun _ _ => by kernel_rfl, fun _ _ => by kernel_rfl, fun _ _ => by kernel_rfl⟩ 31 (fun u => .agg #[.int .i64 y.op, .int .i64 y.k, .int .i64 y.n, .string y.s, .string y.nm, .slice (sA u) (sN u) (sC u)]) [1, 2] 3 (by kernel_rfl) (by kernel_rfl) (fun _ => by kernel_rfl) 18 (fun gh => #[.slice A1 n2 cap1, .int .i64 1, .slice (sA (gh 2)) (sN (gh 2)) (sC (gh 2))]) (fun _ _ => by kernel_rfl) (fun gh H sH fH lent => C0.facts (R := R) (x := gh) (i := 3) (n := 1) (F := (fun u => .agg #[.int .i64 y.op, .int .i64 y.k, .int .i64 y.n, .string y.s, .string y.nm, .slice (sA u) (sN u) (sC u)])) (G := fun u hh => IsArgs hh y (.slice (sA u) (sN u) (sC u))) (f := fun gh hh => IsArgs hh y (.slice (sA (gh 3)) (sN (gh 3)) (sC (gh 3)))) (hE' _ _ (hs.sees (s2.trans (s24.trans (s27.trans sH)))) _ (fH 0 _ rfl (by kernel_rfl)) (by omega) (by omega)) (by kernel_rfl) (by kernel_rfl) (fun _ _ r => r))) ?_
      refine And.intro (r_callv hT hA hmono 32 (fun gh => .tuple #[.agg #[.int .i64 0, .int .i64 0, .int .i64 0, .string ⟨#[]⟩, .string ⟨#[]⟩, .slice none 0 0], .int .i64 4]) [0, 3] 4 (by kernel_rfl) (by kernel_rfl) (by kernel_rfl) (fun _ => by kernel_rfl) 23 (fun gh => #[.agg #[.int .i64 x.op, .int .i64 x.k, .int .i64 x.n, .string x.s, .string x.nm, .slice (sA u) (sN u) (sC u)], .string ⟨#[110]⟩, .agg #[.int .i64 y.op, .int .i64 y.k, .int .i64 y.n, .string y.s, .string y.nm, .slice (sA (gh 3)) (sN (gh 3)) (sC (gh 3))]]) (fun _ _ => by kernel_rfl) (fun gh H sH fH lent => hPbad _ _ _ (hx.sees (s27.trans sH)) (fH 1 _ rfl (by kernel_rfl)) 4 h0 (by omega))) ?_
      trivial
    clear hJ a w; intro gh h29 a w sR hJ1 hF; have s30 : Sees h26 h29 := sR; clear sR
    have hJ : K ⟨59, h.w, h.bad, []⟩ [(6, .bool false), (2, .int .i64 kind), (8, .int .i64 kind), (9, .int .i64 0), (10, .pointer (some ⟨(blkOf (gh 8)), 0, none⟩)), (11, .int .i64 4)] [.box (blkOf (gh 8)) [.int .i64 0, .int .i64 0, .int .i64 0, .string ⟨#[]⟩, .string ⟨#[]⟩, .slice none 0 0], .box b25 [.int .i64 x.op, .int .i64 x.k, .int .i64 x.n, .string x.s, .string x.nm, .slice (sA u) (sN u) (sC u)]] [] h29 a w := hJ1.to (by kernel_rfl) (by kernel_rfl) rfl
    have f30 : IsFds h29 (.slice (sA (gh 2)) (sN (gh 2)) (sC (gh 2))) some5 := Reg.fact (i := 2) (f := fun gh hh => IsFds hh (.slice (sA (gh 2)) (sN (gh 2)) (sC (gh 2))) some5) hF 0 (by kernel_rfl)
    have f31 : IsArgs h29 y (.slice (sA (gh 3)) (sN (gh 3)) (sC (gh 3))) := Reg.fact (i := 3) (f := fun gh hh => IsArgs hh y (.slice (sA (gh 3)) (sN (gh 3)) (sC (gh 3)))) hF 1 (by kernel_rfl)
    clear hJ1 hF hmono R
    generalize gh 2 = u30 at *
    generalize gh 3 = u31 at *
    generalize blkOf (gh 8) = b28 at *
    clear gh
    refine rx hJ false 17 [] [(40, .bool (kind != kind), .bool false)] (.ok (.code [0, 1, 1, 1, 1, 1, 1]) [.seq [1, 1, 1, 1, 1, 1, 1]] [(6, .bool false), (2, .int .i64 kind), (10, .pointer (some ⟨b28, 0, none⟩)), (11, .int .i64 4)] [.box b28 [.int .i64 0, .int .i64 0, .int .i64 0, .string ⟨#[]⟩, .string ⟨#[]⟩, .slice none 0 0], .box b25 [.int .i64 x.op, .int .i64 x.k, .int .i64 x.n, .string x.s, .string x.nm, .slice (sA u) (sN u) (sC u)]] []) trivial (And.intro (congrArg Value.bool (bne_self_eq_false _)) (trivial)) (fun _ => by kernel_rfl) ?_
    clear hJ a w; intro a w hJ
    let R : Reg := ⟨⟨59, h.w, h.bad, []⟩, [(0, 43, fun gh => .agg #[.int .i64 0, .int .i64 0, .int .i64 0, .string ⟨#[]⟩, .string ⟨#[]⟩, .slice none 0 0]), (1, 44, fun gh => .slice (sA (gh 1)) (sN (gh 1)) (sC (gh 1))), (2, 45, fun gh => .tuple #[.int .i64 0, .int .i64 2]), (3, 42, fun gh => .tuple #[.int .i64 0, .int .i64 2]), (4, 46, fun gh => .int .i64 0), (5, 47, fun gh => .int .i64 2), (6, 12, fun gh => .int .i64 0), (7, 13, fun gh => .int .i64 2)], [(6, .bool false), (2, .int .i64 kind), (10, .pointer (some ⟨b28, 0, none⟩)), (11, .int .i64 4)], [⟨some (.box b28 [.int .i64 0, .int .i64 0, .int .i64 0, .string ⟨#[]⟩, .string ⟨#[]⟩, .slice none 0 0]), []⟩, ⟨some (.box b25 [.int .i64 x.op, .int .i64 x.k, .int .i64 x.n, .string x.s, .string x.nm, .slice (sA u) (sN u) (sC u)]), []⟩], [(1, fun gh hh => IsFds hh (.slice (sA (gh 1)) (sN (gh 1)) (sC (gh 1))) some5)], [[], [], [0, 1], [0, 1, 2], [0, 1, 2, 3], [0, 1, 2, 3], [0, 1, 2, 3, 4], [0, 1, 2, 3, 4, 5, 6]], h29⟩
    have hmono : ∀ zq ∈ R.F, ∀ zx zh zi, Sees zh zi → zq.2 zx zh → zq.2 zx zi := mono_cons (fun _ _ _ s c => c.sees s) (mono_nil)
    refine x_region (by kernel_rfl) R hJ 8 [.ld 0 0, .cl, .cl, .pu, .pu, .pu, .pu, .pu] (by kernel_rfl) hmono (fun _ _ _ => by kernel_rfl) (fun hT hA => ?_) ?_
    · clear hJ
      refine And.intro (r_call hT hA hmono ⟨fun _ _ => by kernel_rfl, fun _ _ => by kernel_rfl, fun _ _ => by kernel_rfl⟩ 44 (fun u => .slice (sA u) (sN u) (sC u)) [] 1 (by kernel_rfl) (by kernel_rfl) (fun _ => by kernel_rfl) 20 (fun gh => #[]) (fun _ _ => by kernel_rfl) (fun gh H sH fH lent => C0.facts (R := R) (x := gh) (i := 1) (n := 0) (F := (fun u => .slice (sA u) (sN u) (sC u))) (G := fun u hh => IsFds hh (.slice (sA u) (sN u) (sC u)) some5) (f := fun gh hh => IsFds hh (.slice (sA (gh 1)) (sN (gh 1)) (sC (gh 1))) some5) (some_u _) (by kernel_rfl) (by kernel_rfl) (fun _ _ r => r))) ?_
      refine And.intro (r_callv hT hA hmono 45 (fun gh => .tuple #[.int .i64 0, .int .i64 2]) [0, 1] 2 (by kernel_rfl) (by kernel_rfl) (by kernel_rfl) (fun _ => by kernel_rfl) 27 (fun gh => #[.agg #[.int .i64 0, .int .i64 0, .int .i64 0, .string ⟨#[]⟩, .string ⟨#[]⟩, .slice none 0 0], .slice (sA (gh 1)) (sN (gh 1)) (sC (gh 1))]) (fun _ _ => by kernel_rfl) (fun gh H sH fH lent => tyOf_no _ _ _ _)) ?_
      trivial
    clear hJ a w; intro gh h31 a w sR hJ1 hF; have s32 : Sees h29 h31 := sR; clear sR
    have hJ : K ⟨59, h.w, h.bad, []⟩ [(6, .bool false), (2, .int .i64 kind), (11, .int .i64 4), (12, .int .i64 0), (13, .int .i64 2)] [.box b28 [.int .i64 0, .int .i64 0, .int .i64 0, .string ⟨#[]⟩, .string ⟨#[]⟩, .slice none 0 0], .box b25 [.int .i64 x.op, .int .i64 x.k, .int .i64 x.n, .string x.s, .string x.nm, .slice (sA u) (sN u) (sC u)]] [] h31 a w := hJ1.to (by kernel_rfl) (by kernel_rfl) rfl
    have f44 : IsFds h31 (.slice (sA (gh 1)) (sN (gh 1)) (sC (gh 1))) some5 := Reg.fact (i := 1) (f := fun gh hh => IsFds hh (.slice (sA (gh 1)) (sN (gh 1)) (sC (gh 1))) some5) hF 0 (by kernel_rfl)
    clear hJ1 hF hmono R
    generalize gh 1 = u44 at *
    clear gh
    refine rx hJ false 18 [] [] (.ok (.out .ret) [] [(6, .bool true)] [.box b28 [.int .i64 0, .int .i64 0, .int .i64 0, .string ⟨#[]⟩, .string ⟨#[]⟩, .slice none 0 0], .box b25 [.int .i64 x.op, .int .i64 x.k, .int .i64 x.n, .string x.s, .string x.nm, .slice (sA u) (sN u) (sC u)]] []) trivial trivial (fun _ => by kernel_rfl) ?_
    clear hJ a w; intro a w hJ
    refine x_end (hQ [.bool true] [.box b28 [.int .i64 0, .int .i64 0, .int .i64 0, .string ⟨#[]⟩, .string ⟨#[]⟩, .slice none 0 0], .box b25 [.int .i64 x.op, .int .i64 x.k, .int .i64 x.n, .string x.s, .string x.nm, .slice (sA u) (sN u) (sC u)]] [] hJ (.rtmp hJ.j (by kernel_rfl) .nil) (by kernel_rfl) (by kernel_rfl) ?_).1
    exact rfl

theorem typingMade_walk (v : Value) (l : List RawD) (v' : Value) (m : List RawD) (kd : Int) (w : World) (h : RawsOf w v l) (h' : RawsOf w v' m) (k0 : -9223372036854775808 ≤ kd) (k1 : kd ≤ 9223372036854775807) :
    Calls Try.prog 7 #[v, v', .int .i64 kd] w fun e w' => e = .returned (.bool true) ∧ Below w.heap.size w w' :=
  C0.law (typingMade_c l m v v' kd ⟨w, []⟩ h.rs h'.rs h.2.1 h'.2.1 h.2.2 h'.2.2 k0 k1)

namespace typingMadeLaw
open Go.ChangeShapes Go.WideShapes Go.ChangeAt Go.RowKit
open Go.ChangeMaps (open_string shut_string)
set_option linter.unusedVariables false

set_option maxRecDepth 100000 in
theorem lifted (os : Os) (started : os.Started) (H : Type) (enc : TypeId × Value → H) :
    ReturnsInHanded {} Try.checked os 7 .any (Rows.typingMadeSpec.pre6 enc Try.prog Try.f7 Rows.typingMadeRow.domain false) (Rows.typingMadeSpec.post enc Try.prog Try.f7 false true false false) := by
  refine returnsInHanded_of_change_sized (C := Try.checked) ownNone started (by kernel_rfl) Try.func7
    (ChangeSpec.witness6 (enc := enc) (C := Try.checked) false ⟨#[], #[.slice none 0 0, .slice none 0 0, .int .i64 0], []⟩ 8 (by kernel_rfl) (by kernel_rfl) (by kernel_rfl) (by kernel_rfl)) ?_
  intro W base args ds gs before hval0 hW hcnd hsz0 _
  have hval : ∀ (j : Nat) t v, Try.f7.params[j]? = some t → args[j]? = some v → Value.okWide Try.prog W .any base t v := hval0
  have hsz : (DataW.weightsEach Try.prog (Try.f7.params.toList ++ Rows.typingMadeSpec.plain.varTypes Try.prog) (ds ++ gs)).all (· ≤ reachBytes) = true := hsz0
  have hW' := hW
  obtain ⟨p, q, hA0, hV, rfl, hfz, hnd⟩ := hW
  have hA : DataW.TrodAll enc Try.prog W 0 (fun _ => true) true Try.f7.params.toList args.toList ds p := hA0
  rw [Try.params7] at hA hval hsz
  obtain ⟨v0, vs0, d0, ds0, p0, q0, hargs, rfl, rfl, h0, r0⟩ := trodAll_cons hA
  obtain ⟨v1, vs1, d1, ds1, p1, q1, rfl, rfl, rfl, h1, r1⟩ := trodAll_cons r0
  obtain ⟨v2, vs2, d2, ds2, p2, q2, rfl, rfl, rfl, h2, r2⟩ := trodAll_cons r1
  obtain ⟨rfl, rfl, rfl⟩ := trodAll_nil r2
  obtain rfl : args = #[v0, v1, v2] := by cases args; simp_all
  obtain ⟨rfl, rfl⟩ := trodVars_none hV
  have k0 := h0
  have lt0 : ∀ x ∈ p0, x.block < W.heap.size := by obtain ⟨m, hm⟩ := k0; exact DataW.trod_lt m _ _ _ hm
  obtain ⟨a0, w0⟩ := open_rows (hval 0 35 v0 rfl rfl) h0 (fun es ss hd => sized_slice hsz (j := 0) (t := 35) (elems := es) (spare := ss) rfl (by rw [hd]; rfl) Try.underlying35)
  have k1 := h1
  have lt1 : ∀ x ∈ p1, x.block < W.heap.size := by obtain ⟨m, hm⟩ := k1; exact DataW.trod_lt m _ _ _ hm
  obtain ⟨a1, w1⟩ := open_rows (hval 1 35 v1 rfl rfl) h1 (fun es ss hd => sized_slice hsz (j := 1) (t := 35) (elems := es) (spare := ss) rfl (by rw [hd]; rfl) Try.underlying35)
  have k2 := h2
  have lt2 : ∀ x ∈ p2, x.block < W.heap.size := by obtain ⟨m, hm⟩ := k2; exact DataW.trod_lt m _ _ _ hm
  obtain ⟨a2, rfl, -, -, w2⟩ := open_int Try.underlying3 (hval 2 3 v2 rfl rfl) h2
  clear hA0 hval0 hsz0
  refine (typingMade_walk v0 a0 v1 a1 a2 W w0 w1 (int_lo w2) (int_hi w2)).mono fun e W' ⟨he, bel⟩ => ?_
  subst he
  exact ⟨_, rfl, _, _, _, [], _, [], hW', trodAll_mk1 (shut_bool Try.underlying4 _), (trodAll_cons_mk (Below.trod laidOutTrue (by kernel_rfl) (of_decide_eq_true (by kernel_rfl)) k0 bel lt0) (trodAll_cons_mk (Below.trod laidOutTrue (by kernel_rfl) (of_decide_eq_true (by kernel_rfl)) k1 bel lt1) (trodAll_cons_mk (Below.trod laidOutTrue (by kernel_rfl) (of_decide_eq_true (by kernel_rfl)) k2 bel lt2) trodAll_mk0))), rfl, bel.frame _, fun h => by cases h⟩

theorem over : Rows.typingMadeRow.holds Try.pinned (OpenSpec.ofChange Rows.typingMadeSpec) :=
  OpenClaim.holds_of_wide 7 Try.f7 rfl rfl rfl rfl rfl rfl rfl ⟨rfl, rfl, rfl, rfl, rfl⟩ rfl rfl rfl rfl rfl (by kernel_rfl) Try.func7 (by kernel_rfl)
    (of_decide_eq_true (by kernel_rfl)) (by unfold Func.isWrapper; first | (rw [if_pos (by decide +kernel)]; kernel_rfl) | (rw [if_neg (by decide +kernel)]; exact ⟨rfl, rfl⟩))
    (fun os started H enc _ => lifted os started H enc)

end typingMadeLaw
theorem typingMade_holds : Rows.TypingMadeSaid := typingMadeLaw.over
#print axioms typingMade_holds
end Go.Proofs.Yteolcggpflnpoaa
