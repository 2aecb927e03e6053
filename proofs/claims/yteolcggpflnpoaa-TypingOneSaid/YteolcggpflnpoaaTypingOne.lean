/-
  For all raw things and kinds TypingOne returns true.
-/
import Derived.Test.YteolcggpflnpoaaTyO
import Derived.Test.YteolcggpflnpoaaEqB
import Derived.Test.YteolcggpflnpoaaLawX
namespace Go.Proofs.Yteolcggpflnpoaa
open Go.RowKit

theorem some_u (h : Vw) : C0 Try.prog 20 #[] h (fun v h' => ∃ u, v = .slice (sA u) (sN u) (sC u) ∧ IsFds h' (.slice (sA u) (sN u) (sC u)) some5) := by
  intro a b c d
  refine (some_any h a b c d).mono ?_
  rintro e w' ⟨v, Bo, rfl, h1, h2, h3, h4, b, rfl⟩
  exact ⟨_, Bo, rfl, h1, h2, h3, .slice (some ⟨b, 0, none⟩) 5 5, rfl, h4⟩
theorem some5_tyF : ∀ f ∈ some5, tyF some5 f.name = some f.ty := fun f hf => by
  simp [some5] at hf
  rcases hf with rfl | rfl | rfl | rfl | rfl <;> decide
/-- How many of the types below n are the kind. -/
def oneOf (kind : Int) (n : Nat) : Int := if kind < n then 1 else 0

set_option maxHeartbeats 4000000 in
set_option maxRecDepth 100000 in
theorem typingOne_c (l : List RawD) (sl : Value) (kd : Int) (h : Vw) (hr : RS h 4 sl (l.map RawD.cs)) (hlen : l.length * 40 ≤ reachBytes) (hok : ∀ r ∈ l, r.ok) (k0 : -9223372036854775808 ≤ kd) (k1 : kd ≤ 9223372036854775807) :
    C0 Try.prog 6 #[sl, .int .i64 kd] h (fun v _ => v = .bool true) := by
  have p0 := pickL_lo kd 3 (by omega)
  have p1 := pickL_hi kd 3 (by omega)
  have hpk := c_picked kd 3
  have hE := fun H v q g => expr_any l some5 hlen hok (by decide) v g (1 + pickL kd 3) H q
  obtain ⟨xw, x1, x2⟩ := genE_ok l some5 some5_ok 3 (1 + pickL kd 3) 0 (by omega) (by omega)
  have xt := ty_gen some5_tyF l 3 (1 + pickL kd 3) 0 (by omega) (by omega)
  generalize (genE l some5 3 (1 + pickL kd 3) 0).1 = x at *
  have x1 : (szE x).1 ≤ 40 := x1
  have cx : chkE x = 0 := by unfold chkE; rw [if_neg (by omega), if_neg (by have : cntE 3 = 40 := rfl; omega)]
  have hfit : ∀ (k : Int), fitsE some5 x k = if 1 + pickL kd 3 = k then 0 else 9 := fun k => by
    unfold fitsE ofE
    rw [if_pos cx, xt]; simp
  have hF := fun H v fv q1 q2 k => fits_any some5 x v fv k H q1 xw (by omega) q2
  simp only [hfit] at hF
  generalize hkind : 1 + pickL kd 3 = kind at *
  obtain ⟨A0, cap, rfl, -, -, -⟩ := hr.form
  rw [List.length_map] at *
  generalize l.length = n1 at *
  refine x_con Try.func6 (c := Try.f6.body.getD .skip) (by kernel_rfl) (N := 27) rfl (by kernel_rfl) ?_
  intro hbx hbad Q hQ a w hJ
  replace hJ : K ⟨27, h.w, h.bad, []⟩ [(0, .slice A0 n1 cap), (1, .int .i64 kd)] [] [] h a w := hJ.to (by kernel_rfl) (by kernel_rfl) rfl
  refine rx hJ false 11 [.cl 19 #[.int .i64 kd, .int .i64 3] (.int .i64 (pickL kd 3))] [(11, .int .i64 (IntKind.i64.wrap (1 + (pickL kd 3))), .int .i64 (1 + (pickL kd 3)))] (.ok (.ops [0, 1] 4) [.seq [1, 1]] [(4, .bool false), (8, .slice A0 n1 cap), (11, .int .i64 (1 + (pickL kd 3)))] [] []) (And.intro (fun H sH => hpk _ k0 k1 (by omega) (by omega)) (trivial)) (And.intro (i64_wrap (by omega) (by omega)) (trivial)) (fun _ => by kernel_rfl) ?_
  clear hJ a w; intro a w hJ
  replace hJ := hJ.rew 11 (v := .int .i64 (1 + (pickL kd 3))) (v' := .int .i64 kind) (congrArg (Value.int .i64) hkind) (by kernel_rfl)
  replace hJ : K ⟨27, h.w, h.bad, []⟩ [(4, .bool false), (8, .slice A0 n1 cap), (11, .int .i64 kind)] [] [] h a w := hJ.to (by kernel_rfl) rfl rfl
  refine x_call hJ 12 (f := 20) (args := #[]) (some_any _) (fun _ => by kernel_rfl) ?_; clear hJ a w; rintro _ h1 a w s2 ⟨hfs, b, rfl⟩ hJ
  refine x_call hJ 13 (f := 18) (args := #[.slice A0 n1 cap, .int .i64 kind, .slice (some ⟨b, 0, none⟩) 5 5]) (hE _ _ (hr.sees (s2.trans hJ.j.sees)) _ (hfs.sees hJ.j.sees) (by omega) (by omega)) (fun _ => by kernel_rfl) ?_; clear hJ a w; rintro _ h3 a w s4 ⟨u, rfl, hx⟩ hJ
  refine rx hJ false 16 [.own, .b 0 0] [] (.new fun b5 => .ok (.code [0, 1, 0, 1, 1, 1]) [.block 0, .seq [1, 1, 1, 1]] [(4, .bool false), (5, .pointer (some ⟨b5, 0, none⟩)), (6, .int .i64 0), (14, .int .i64 0)] [.box b5 [.int .i64 x.op, .int .i64 x.k, .int .i64 x.n, .string x.s, .string x.nm, .slice (sA u) (sN u) (sC u)]] []) trivial trivial (fun b5 _ => by kernel_rfl) ?_
  clear hJ a w; intro b5 a w hJ
  refine x_loop (fun (k : Nat) a w => ∃ (h6 : Vw) (c : Int), K ⟨27, h.w, h.bad, []⟩ [(4, .bool false), (5, .pointer (some ⟨b5, 0, none⟩)), (14, .int .i64 (k : Int)), (6, .int .i64 c)] [.box b5 [.int .i64 x.op, .int .i64 x.k, .int .i64 x.n, .string x.s, .string x.nm, .slice (sA u) (sN u) (sC u)]] [] h6 a w ∧ Sees h3 h6 ∧ (k ≤ 5) ∧ (c = oneOf kind k)) (fun k => 5 - k) (0) (by kernel_rfl) ⟨h3, 0, hJ.to (by kernel_rfl) (by kernel_rfl) rfl, Sees.refl _, Nat.zero_le _, (by unfold oneOf; rw [if_neg (by omega)])⟩ ?_
  clear hJ a w; rintro k a w ⟨h6, c, hJ, s7, hk, hc⟩
  refine rx hJ false 6 [] [] (.ok (.code [0, 1, 0, 0, 1, 0, 1, 1, 1]) [.seq [1, 1, 0, 0, 1, 0, 1, 1, 1]] [(4, .bool false), (5, .pointer (some ⟨b5, 0, none⟩)), (14, .int .i64 (k : Int)), (6, .int .i64 c), (15, .bool (decide ((k : Int) < 5)))] [.box b5 [.int .i64 x.op, .int .i64 x.k, .int .i64 x.n, .string x.s, .string x.nm, .slice (sA u) (sN u) (sC u)]] []) trivial trivial (fun _ => by kernel_rfl) ?_
  clear hJ a w; intro a w hJ
  have hc0 : 0 ≤ c ∧ c ≤ 1 := by rw [hc]; unfold oneOf; split <;> omega
  rcases (by omega : k < 5 ∨ k = 5) with hlt | hke
  · skip
    by_cases e : kind = k
    · have hfv : (if kind = (k : Int) then (0 : Int) else 9) = 0 := if_pos e
      refine x_true hJ (t := decide ((k : Int) < 5)) (by kernel_rfl) (decide_eq_true (by omega)) ?_
      refine rx hJ false 11 [] [] (.ok (.code [0, 1, 0, 0, 1, 1, 0, 0, 1, 0, 1, 1, 1]) [.seq [1, 1, 0, 0, 1, 1, 0, 0, 1, 0, 1, 1, 1], .block 1, .seq [1, 1, 1, 0, 0, 1, 0, 1, 1, 1]] [(4, .bool false), (5, .pointer (some ⟨b5, 0, none⟩)), (14, .int .i64 (k : Int)), (6, .int .i64 c), (15, .bool (decide ((k : Int) < 5))), (16, .int .i64 (k : Int)), (7, .int .i64 (k : Int))] [.box b5 [.int .i64 x.op, .int .i64 x.k, .int .i64 x.n, .string x.s, .string x.nm, .slice (sA u) (sN u) (sC u)]] []) trivial trivial (fun _ => by kernel_rfl) ?_
      clear hJ a w; intro a w hJ
      let R : Reg := ⟨⟨27, h.w, h.bad, []⟩, [(0, 17, fun gh => .agg #[.int .i64 x.op, .int .i64 x.k, .int .i64 x.n, .string x.s, .string x.nm, .slice (sA u) (sN u) (sC u)]), (1, 18, fun gh => .slice (sA (gh 1)) (sN (gh 1)) (sC (gh 1))), (2, 19, fun gh => .int .i64 (k : Int)), (3, 20, fun gh => .int .i64 0), (4, 21, fun gh => .bool true)], [(4, .bool false), (5, .pointer (some ⟨b5, 0, none⟩)), (14, .int .i64 (k : Int)), (6, .int .i64 c), (15, .bool (decide ((k : Int) < 5))), (16, .int .i64 (k : Int)), (7, .int .i64 (k : Int))], [⟨some (.box b5 [.int .i64 x.op, .int .i64 x.k, .int .i64 x.n, .string x.s, .string x.nm, .slice (sA u) (sN u) (sC u)]), []⟩], [(1, fun gh hh => IsFds hh (.slice (sA (gh 1)) (sN (gh 1)) (sC (gh 1))) some5)], [[], [], [], [0, 1, 2], [0, 1, 2, 3]], h6⟩
      have hmono : ∀ zq ∈ R.F, ∀ zx zh zi, Sees zh zi → zq.2 zx zh → zq.2 zx zi := mono_cons (fun _ _ _ s c => c.sees s) (mono_nil)
      refine x_region (by kernel_rfl) R hJ 5 [.ld 0 0, .cl, .pu, .cl, .pu] (by kernel_rfl) hmono (fun _ _ _ => by kernel_rfl) (fun hT hA => ?_) ?_
      · clear hJ
        refine And.intro (r_call hT hA hmono ⟨fun _ _ => by kernel_rfl, fun _ _ => by kernel_rfl, fun _ _ => by kernel_rfl⟩ 18 (fun u => .slice (sA u) (sN u) (sC u)) [] 1 (by kernel_rfl) (by kernel_rfl) (fun _ => by kernel_rfl) 20 (fun gh => #[]) (fun _ _ => by kernel_rfl) (fun gh H sH fH lent => C0.facts (R := R) (x := gh) (i := 1) (n := 0) (F := (fun u => .slice (sA u) (sN u) (sC u))) (G := fun u hh => IsFds hh (.slice (sA u) (sN u) (sC u)) some5) (f := fun gh hh => IsFds hh (.slice (sA (gh 1)) (sN (gh 1)) (sC (gh 1))) some5) (some_u _) (by kernel_rfl) (by kernel_rfl) (fun _ _ r => r))) ?_
        refine And.intro (r_callv hT hA hmono 20 (fun gh => .int .i64 0) [0, 1, 2] 3 (by kernel_rfl) (by kernel_rfl) (by kernel_rfl) (fun _ => by kernel_rfl) 26 (fun gh => #[.agg #[.int .i64 x.op, .int .i64 x.k, .int .i64 x.n, .string x.s, .string x.nm, .slice (sA u) (sN u) (sC u)], .slice (sA (gh 1)) (sN (gh 1)) (sC (gh 1)), .int .i64 (k : Int)]) (fun _ _ => by kernel_rfl) (fun gh H sH fH lent => hfv ▸ hF _ _ _ (hx.sees (s7.trans sH)) (fH 0 _ rfl (by kernel_rfl)) k)) ?_
        trivial
      clear hJ a w; intro gh h8 a w sR hJ1 hF; have s9 : Sees h6 h8 := sR; clear sR
      have hJ : K ⟨27, h.w, h.bad, []⟩ [(4, .bool false), (5, .pointer (some ⟨b5, 0, none⟩)), (14, .int .i64 (k : Int)), (6, .int .i64 c), (15, .bool (decide ((k : Int) < 5))), (16, .int .i64 (k : Int)), (7, .int .i64 (k : Int)), (17, .agg #[.int .i64 x.op, .int .i64 x.k, .int .i64 x.n, .string x.s, .string x.nm, .slice (sA u) (sN u) (sC u)]), (18, .slice (sA (gh 1)) (sN (gh 1)) (sC (gh 1))), (19, .int .i64 (k : Int)), (20, .int .i64 0), (21, .bool true)] [.box b5 [.int .i64 x.op, .int .i64 x.k, .int .i64 x.n, .string x.s, .string x.nm, .slice (sA u) (sN u) (sC u)]] [] h8 a w := hJ1.to (by kernel_rfl) (by kernel_rfl) rfl
      have f18 : IsFds h8 (.slice (sA (gh 1)) (sN (gh 1)) (sC (gh 1))) some5 := Reg.fact (i := 1) (f := fun gh hh => IsFds hh (.slice (sA (gh 1)) (sN (gh 1)) (sC (gh 1))) some5) hF 0 (by kernel_rfl)
      clear hJ1 hF hmono R
      generalize gh 1 = u18 at *
      clear gh
      refine rx hJ false 13 [] [(23, .int .i64 (IntKind.i64.wrap (c + 1)), .int .i64 (c + 1)), (24, .int .i64 (IntKind.i64.wrap ((k : Int) + 1)), .int .i64 ((k : Int) + 1))] (.ok (.out .normal) [] [(4, .bool false), (5, .pointer (some ⟨b5, 0, none⟩)), (15, .bool (decide ((k : Int) < 5))), (16, .int .i64 (k : Int)), (7, .int .i64 (k : Int)), (17, .agg #[.int .i64 x.op, .int .i64 x.k, .int .i64 x.n, .string x.s, .string x.nm, .slice (sA u) (sN u) (sC u)]), (18, .slice (sA u18) (sN u18) (sC u18)), (19, .int .i64 (k : Int)), (20, .int .i64 0), (21, .bool true), (22, .int .i64 c), (23, .int .i64 (c + 1)), (6, .int .i64 (c + 1)), (24, .int .i64 ((k : Int) + 1)), (14, .int .i64 ((k : Int) + 1))] [.box b5 [.int .i64 x.op, .int .i64 x.k, .int .i64 x.n, .string x.s, .string x.nm, .slice (sA u) (sN u) (sC u)]] []) trivial (And.intro (i64_wrap (by omega) (by omega)) (And.intro (i64_wrap (by omega) (by omega)) (trivial))) (fun _ => by kernel_rfl) ?_
      clear hJ a w; intro a w hJ
      exact x_round ⟨k + 1, ⟨h8, c + 1, hJ.to (by kernel_rfl) (by kernel_rfl) rfl, (s7.trans s9), by omega, by rw [hc]; unfold oneOf; rw [if_neg (by omega), if_pos (by omega)]; rfl⟩, by omega⟩
    · skip
      have hfv : (if kind = (k : Int) then (0 : Int) else 9) = 9 := if_neg e
      refine x_true hJ (t := decide ((k : Int) < 5)) (by kernel_rfl) (decide_eq_true (by omega)) ?_
      refine rx hJ false 11 [] [] (.ok (.code [0, 1, 0, 0, 1, 1, 0, 0, 1, 0, 1, 1, 1]) [.seq [1, 1, 0, 0, 1, 1, 0, 0, 1, 0, 1, 1, 1], .block 1, .seq [1, 1, 1, 0, 0, 1, 0, 1, 1, 1]] [(4, .bool false), (5, .pointer (some ⟨b5, 0, none⟩)), (14, .int .i64 (k : Int)), (6, .int .i64 c), (15, .bool (decide ((k : Int) < 5))), (16, .int .i64 (k : Int)), (7, .int .i64 (k : Int))] [.box b5 [.int .i64 x.op, .int .i64 x.k, .int .i64 x.n, .string x.s, .string x.nm, .slice (sA u) (sN u) (sC u)]] []) trivial trivial (fun _ => by kernel_rfl) ?_
      clear hJ a w; intro a w hJ
      let R : Reg := ⟨⟨27, h.w, h.bad, []⟩, [(0, 17, fun gh => .agg #[.int .i64 x.op, .int .i64 x.k, .int .i64 x.n, .string x.s, .string x.nm, .slice (sA u) (sN u) (sC u)]), (1, 18, fun gh => .slice (sA (gh 1)) (sN (gh 1)) (sC (gh 1))), (2, 19, fun gh => .int .i64 (k : Int)), (3, 20, fun gh => .int .i64 9), (4, 21, fun gh => .bool false)], [(4, .bool false), (5, .pointer (some ⟨b5, 0, none⟩)), (14, .int .i64 (k : Int)), (6, .int .i64 c), (15, .bool (decide ((k : Int) < 5))), (16, .int .i64 (k : Int)), (7, .int .i64 (k : Int))], [⟨some (.box b5 [.int .i64 x.op, .int .i64 x.k, .int .i64 x.n, .string x.s, .string x.nm, .slice (sA u) (sN u) (sC u)]), []⟩], [(1, fun gh hh => IsFds hh (.slice (sA (gh 1)) (sN (gh 1)) (sC (gh 1))) some5)], [[], [], [], [0, 1, 2], [0, 1, 2, 3]], h6⟩
      have hmono : ∀ zq ∈ R.F, ∀ zx zh zi, Sees zh zi → zq.2 zx zh → zq.2 zx zi := mono_cons (fun _ _ _ s c => c.sees s) (mono_nil)
      refine x_region (by kernel_rfl) R hJ 5 [.ld 0 0, .cl, .pu, .cl, .pu] (by kernel_rfl) hmono (fun _ _ _ => by kernel_rfl) (fun hT hA => ?_) ?_
      · clear hJ
        refine And.intro (r_call hT hA hmono ⟨fun _ _ => by kernel_rfl, fun _ _ => by kernel_rfl, fun _ _ => by kernel_rfl⟩ 18 (fun u => .slice (sA u) (sN u) (sC u)) [] 1 (by kernel_rfl) (by kernel_rfl) (fun _ => by kernel_rfl) 20 (fun gh => #[]) (fun _ _ => by kernel_rfl) (fun gh H sH fH lent => C0.facts (R := R) (x := gh) (i := 1) (n := 0) (F := (fun u => .slice (sA u) (sN u) (sC u))) (G := fun u hh => IsFds hh (.slice (sA u) (sN u) (sC u)) some5) (f := fun gh hh => IsFds hh (.slice (sA (gh 1)) (sN (gh 1)) (sC (gh 1))) some5) (some_u _) (by kernel_rfl) (by kernel_rfl) (fun _ _ r => r))) ?_
        refine And.intro (r_callv hT hA hmono 20 (fun gh => .int .i64 9) [0, 1, 2] 3 (by kernel_rfl) (by kernel_rfl) (by kernel_rfl) (fun _ => by kernel_rfl) 26 (fun gh => #[.agg #[.int .i64 x.op, .int .i64 x.k, .int .i64 x.n, .string x.s, .string x.nm, .slice (sA u) (sN u) (sC u)], .slice (sA (gh 1)) (sN (gh 1)) (sC (gh 1)), .int .i64 (k : Int)]) (fun _ _ => by kernel_rfl) (fun gh H sH fH lent => hfv ▸ hF _ _ _ (hx.sees (s7.trans sH)) (fH 0 _ rfl (by kernel_rfl)) k)) ?_
        trivial
      clear hJ a w; intro gh h10 a w sR hJ1 hF; have s11 : Sees h6 h10 := sR; clear sR
      have hJ : K ⟨27, h.w, h.bad, []⟩ [(4, .bool false), (5, .pointer (some ⟨b5, 0, none⟩)), (14, .int .i64 (k : Int)), (6, .int .i64 c), (15, .bool (decide ((k : Int) < 5))), (16, .int .i64 (k : Int)), (7, .int .i64 (k : Int)), (17, .agg #[.int .i64 x.op, .int .i64 x.k, .int .i64 x.n, .string x.s, .string x.nm, .slice (sA u) (sN u) (sC u)]), (18, .slice (sA (gh 1)) (sN (gh 1)) (sC (gh 1))), (19, .int .i64 (k : Int)), (20, .int .i64 9), (21, .bool false)] [.box b5 [.int .i64 x.op, .int .i64 x.k, .int .i64 x.n, .string x.s, .string x.nm, .slice (sA u) (sN u) (sC u)]] [] h10 a w := hJ1.to (by kernel_rfl) (by kernel_rfl) rfl
      have f18 : IsFds h10 (.slice (sA (gh 1)) (sN (gh 1)) (sC (gh 1))) some5 := Reg.fact (i := 1) (f := fun gh hh => IsFds hh (.slice (sA (gh 1)) (sN (gh 1)) (sC (gh 1))) some5) hF 0 (by kernel_rfl)
      clear hJ1 hF hmono R
      generalize gh 1 = u18 at *
      clear gh
      refine rx hJ false 9 [] [(24, .int .i64 (IntKind.i64.wrap ((k : Int) + 1)), .int .i64 ((k : Int) + 1))] (.ok (.out .normal) [] [(4, .bool false), (5, .pointer (some ⟨b5, 0, none⟩)), (6, .int .i64 c), (15, .bool (decide ((k : Int) < 5))), (16, .int .i64 (k : Int)), (7, .int .i64 (k : Int)), (17, .agg #[.int .i64 x.op, .int .i64 x.k, .int .i64 x.n, .string x.s, .string x.nm, .slice (sA u) (sN u) (sC u)]), (18, .slice (sA u18) (sN u18) (sC u18)), (19, .int .i64 (k : Int)), (20, .int .i64 9), (21, .bool false), (24, .int .i64 ((k : Int) + 1)), (14, .int .i64 ((k : Int) + 1))] [.box b5 [.int .i64 x.op, .int .i64 x.k, .int .i64 x.n, .string x.s, .string x.nm, .slice (sA u) (sN u) (sC u)]] []) trivial (And.intro (i64_wrap (by omega) (by omega)) (trivial)) (fun _ => by kernel_rfl) ?_
      clear hJ a w; intro a w hJ
      exact x_round ⟨k + 1, ⟨h10, c, hJ.to (by kernel_rfl) (by kernel_rfl) rfl, (s7.trans s11), by omega, by rw [hc]; unfold oneOf; split <;> split <;> omega⟩, by omega⟩
  · skip
    have hc1 : c = 1 := by rw [hc]; unfold oneOf; rw [if_pos (by omega)]
    refine x_false hJ (t := decide ((k : Int) < 5)) (by kernel_rfl) (decide_eq_false (by omega)) ?_
    refine rx hJ false 2 [] [] (.ok (.out (.exit 0)) [] [(4, .bool false), (5, .pointer (some ⟨b5, 0, none⟩)), (14, .int .i64 (k : Int)), (6, .int .i64 c), (15, .bool (decide ((k : Int) < 5)))] [.box b5 [.int .i64 x.op, .int .i64 x.k, .int .i64 x.n, .string x.s, .string x.nm, .slice (sA u) (sN u) (sC u)]] []) trivial trivial (fun _ => by kernel_rfl) ?_
    clear hJ a w; intro a w hJ
    refine x_leave rfl ?_
    refine rx hJ false 10 [] [(26, .bool (c == 1), .bool true)] (.ok (.out .ret) [] [(4, .bool true)] [.box b5 [.int .i64 x.op, .int .i64 x.k, .int .i64 x.n, .string x.s, .string x.nm, .slice (sA u) (sN u) (sC u)]] []) trivial (And.intro (congrArg Value.bool (beq_iff_eq.2 hc1)) (trivial)) (fun _ => by kernel_rfl) ?_
    clear hJ a w; intro a w hJ
    refine x_end (hQ [.bool true] [.box b5 [.int .i64 x.op, .int .i64 x.k, .int .i64 x.n, .string x.s, .string x.nm, .slice (sA u) (sN u) (sC u)]] [] hJ (.rtmp hJ.j (by kernel_rfl) .nil) (by kernel_rfl) (by kernel_rfl) ?_).1
    exact rfl

theorem typingOne_walk (v : Value) (l : List RawD) (kd : Int) (w : World) (h : RawsOf w v l) (k0 : -9223372036854775808 ≤ kd) (k1 : kd ≤ 9223372036854775807) :
    Calls Try.prog 6 #[v, .int .i64 kd] w fun e w' => e = .returned (.bool true) ∧ Below w.heap.size w w' :=
  C0.law (typingOne_c l v kd ⟨w, []⟩ h.rs h.2.1 h.2.2 k0 k1)

namespace typingOneLaw
open Go.ChangeShapes Go.WideShapes Go.ChangeAt Go.RowKit
open Go.ChangeMaps (open_string shut_string)
set_option linter.unusedVariables false

set_option maxRecDepth 100000 in
theorem lifted (os : Os) (started : os.Started) (H : Type) (enc : TypeId × Value → H) :
    ReturnsInHanded {} Try.checked os 6 .any (Rows.typingOneSpec.pre6 enc Try.prog Try.f6 Rows.typingOneRow.domain false) (Rows.typingOneSpec.post enc Try.prog Try.f6 false true false false) := by
  refine returnsInHanded_of_change_sized (C := Try.checked) ownNone started (by kernel_rfl) Try.func6
    (ChangeSpec.witness6 (enc := enc) (C := Try.checked) false ⟨#[], #[.slice none 0 0, .int .i64 0], []⟩ 8 (by kernel_rfl) (by kernel_rfl) (by kernel_rfl) (by kernel_rfl)) ?_
  intro W base args ds gs before hval0 hW hcnd hsz0 _
  have hval : ∀ (j : Nat) t v, Try.f6.params[j]? = some t → args[j]? = some v → Value.okWide Try.prog W .any base t v := hval0
  have hsz : (DataW.weightsEach Try.prog (Try.f6.params.toList ++ Rows.typingOneSpec.plain.varTypes Try.prog) (ds ++ gs)).all (· ≤ reachBytes) = true := hsz0
  have hW' := hW
  obtain ⟨p, q, hA0, hV, rfl, hfz, hnd⟩ := hW
  have hA : DataW.TrodAll enc Try.prog W 0 (fun _ => true) true Try.f6.params.toList args.toList ds p := hA0
  rw [Try.params6] at hA hval hsz
  obtain ⟨v0, vs0, d0, ds0, p0, q0, hargs, rfl, rfl, h0, r0⟩ := trodAll_cons hA
  obtain ⟨v1, vs1, d1, ds1, p1, q1, rfl, rfl, rfl, h1, r1⟩ := trodAll_cons r0
  obtain ⟨rfl, rfl, rfl⟩ := trodAll_nil r1
  obtain rfl : args = #[v0, v1] := by cases args; simp_all
  obtain ⟨rfl, rfl⟩ := trodVars_none hV
  have k0 := h0
  have lt0 : ∀ x ∈ p0, x.block < W.heap.size := by obtain ⟨m, hm⟩ := k0; exact DataW.trod_lt m _ _ _ hm
  obtain ⟨a0, w0⟩ := open_rows (hval 0 35 v0 rfl rfl) h0 (fun es ss hd => sized_slice hsz (j := 0) (t := 35) (elems := es) (spare := ss) rfl (by rw [hd]; rfl) Try.underlying35)
  have k1 := h1
  have lt1 : ∀ x ∈ p1, x.block < W.heap.size := by obtain ⟨m, hm⟩ := k1; exact DataW.trod_lt m _ _ _ hm
  obtain ⟨a1, rfl, -, -, w1⟩ := open_int Try.underlying3 (hval 1 3 v1 rfl rfl) h1
  clear hA0 hval0 hsz0
  refine (typingOne_walk v0 a0 a1 W w0 (int_lo w1) (int_hi w1)).mono fun e W' ⟨he, bel⟩ => ?_
  subst he
  exact ⟨_, rfl, _, _, _, [], _, [], hW', trodAll_mk1 (shut_bool Try.underlying4 _), (trodAll_cons_mk (Below.trod laidOutTrue (by kernel_rfl) (of_decide_eq_true (by kernel_rfl)) k0 bel lt0) (trodAll_cons_mk (Below.trod laidOutTrue (by kernel_rfl) (of_decide_eq_true (by kernel_rfl)) k1 bel lt1) trodAll_mk0)), rfl, bel.frame _, fun h => by cases h⟩

theorem over : Rows.typingOneRow.holds Try.pinned (OpenSpec.ofChange Rows.typingOneSpec) :=
  OpenClaim.holds_of_wide 6 Try.f6 rfl rfl rfl rfl rfl rfl rfl ⟨rfl, rfl, rfl, rfl, rfl⟩ rfl rfl rfl rfl rfl (by kernel_rfl) Try.func6 (by kernel_rfl)
    (of_decide_eq_true (by kernel_rfl)) (by unfold Func.isWrapper; first | (rw [if_pos (by decide +kernel)]; kernel_rfl) | (rw [if_neg (by decide +kernel)]; exact ⟨rfl, rfl⟩))
    (fun os started H enc _ => lifted os started H enc)

end typingOneLaw
theorem typingOne_holds : Rows.TypingOneSaid := typingOneLaw.over
#print axioms typingOne_holds
end Go.Proofs.Yteolcggpflnpoaa
