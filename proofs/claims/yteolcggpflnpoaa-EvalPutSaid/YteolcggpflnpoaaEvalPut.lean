/-
  For all raw things and kinds EvalPut returns true.
-/
import Derived.Test.YteolcggpflnpoaaEvG
import Derived.Test.YteolcggpflnpoaaEvL
import Derived.Test.YteolcggpflnpoaaNmD
import Derived.Test.YteolcggpflnpoaaNmG
import Derived.Test.YteolcggpflnpoaaRow
namespace Go.Proofs.Yteolcggpflnpoaa
open Go.RowKit

abbrev stN : ByteArray := ⟨#[110]⟩
theorem stN_ok : NameOk stN.data.toList := ⟨by decide, by decide, ⟨_, rfl, by decide⟩, by decide, by decide⟩
abbrev fd4 : List Fd := some5.drop 1
theorem fd4_ok : ∀ f ∈ fd4, NameOk f.name.data.toList := fun f hf => some5_ok f (List.mem_of_mem_drop hf)
theorem some_4 {h : Vw} {b : Nat} (hf : IsFds h (.slice (some ⟨b, 0, none⟩) 5 5) some5) : IsFds h (.slice (some ⟨b, 9, none⟩) 4 4) fd4 := fds_sub hf 1 5 9 rfl rfl rfl
theorem fact_u (l : List RawD) (sl : Value) (h : Vw) (hr : RS h 4 sl (l.map RawD.cs)) (hlen : l.length * 40 ≤ reachBytes) (hok : ∀ r ∈ l, r.ok) :
    C0 Try.prog 33 #[sl] h (fun v h' => ∃ u, v = .slice (sA u) (sN u) (sC u) ∧ RS h' 7 (.slice (sA u) (sN u) (sC u)) (fcRows (lawEnv l))) := by
  intro a b c d
  refine (lawFacts_any l sl h hr hlen hok a b c d).mono ?_
  rintro e w' ⟨v, Bo, rfl, h1, h2, h3, A, c, rfl, h4⟩
  exact ⟨_, Bo, rfl, h1, h2, h3, .slice A 5 c, rfl, h4⟩
theorem fcs_len (l : Env) : ∀ r ∈ fcRows l, r.length = 7 := fun r hr => by obtain ⟨p, -, rfl⟩ := List.mem_map.1 hr; rfl

set_option maxHeartbeats 4000000 in
set_option maxRecDepth 100000 in
theorem evalPut_c (l m k : List RawD) (sl sm sk : Value) (kd : Int) (h : Vw) (hl : RS h 4 sl (l.map RawD.cs)) (hm : RS h 4 sm (m.map RawD.cs)) (hk : RS h 4 sk (k.map RawD.cs)) (ll : l.length * 40 ≤ reachBytes) (lm : m.length * 40 ≤ reachBytes) (lk : k.length * 40 ≤ reachBytes)
    (ol : ∀ r ∈ l, r.ok) (om : ∀ r ∈ m, r.ok) (ok : ∀ r ∈ k, r.ok) (k0 : -9223372036854775808 ≤ kd) (k1 : kd ≤ 9223372036854775807) :
    C0 Try.prog 13 #[sl, sm, sk, .int .i64 kd] h (fun v _ => v = .bool true) := by
  have p0 := pickL_lo kd 3 (by omega)
  have p1 := pickL_hi kd 3 (by omega)
  have hpk := c_picked kd 3
  have hE := fun H v q g => expr_any l some5 ll ol (by decide) v g (1 + pickL kd 3) H q
  have hE' := fun H v q g => expr_any k fd4 lk ok (by decide) v g 1 H q
  obtain ⟨xw, x1, x2⟩ := genE_ok l some5 some5_ok 3 (1 + pickL kd 3) 0 (by omega) (by omega)
  obtain ⟨yw, y1, y2⟩ := genE_ok k fd4 fd4_ok 3 1 0 (by omega) (by omega)
  generalize (genE l some5 3 (1 + pickL kd 3) 0).1 = x at *
  generalize (genE k fd4 3 1 0).1 = y at *
  have x1 : (szE x).1 ≤ 40 := x1
  have y1 : (szE y).1 ≤ 40 := y1
  have c3 : cntE 3 = 40 := rfl
  have cx : chkE x = 0 := by unfold chkE; rw [if_neg (by omega), if_neg (by omega)]
  have cy : chkE y = 0 := by unfold chkE; rw [if_neg (by omega), if_neg (by omega)]
  have eok := lawEnv_ok m
  have eln := lawEnv_len m
  have hF := fun H q => fact_u m sm H q lm om
  generalize lawEnv m = env at *
  have vok := ev_ok eok yw
  have vk := ok_kinds vok
  have hzw := wf_put (n := stN) xw yw
  have hzs : chkE (putE stN y x) = 0 → (szE (putE stN y x)).1 ≤ 60 ∧ (szE (putE stN y x)).2 ≤ 12 := fun q => by
    unfold chkE at q
    split at q
    · cases q
    · split at q
      · cases q
      · omega
  have hput := eval_put (env := env) (n := stN) (y := y) (x := x)
  have hVy := fun H v A q1 q2 => eval_any y v env A H q1 yw (by omega) (by omega) q2 eok (by omega)
  have hVz := fun (q : chkE (putE stN y x) = 0) H v A q1 q2 => eval_any (putE stN y x) v env A H q1 hzw (hzs q).1 (hzs q).2 q2 eok (by omega)
  have hVx := fun H v A q1 q2 => eval_any x v ((stN, evalE env y) :: env) A H q1 xw (by omega) (by omega) q2 (fun p hp => by
    rcases List.mem_cons.1 hp with rfl | hp
    · exact vok
    · exact eok p hp) (by simp only [List.length_cons]; omega)
  rw [hput] at hVz
  have hPok := fun H v vy q1 q2 h0 => putx_ok stN stN_ok x y v vy H q1 q2 xw yw cx cy (by omega) (by omega) rfl h0
  have hPbad := fun H v vy q1 q2 e he h0 => putx_bad stN stN_ok x y v vy H q1 q2 xw yw cx cy (by omega) (by omega) (e := e) he h0
  have hce : chkE (putE stN y x) = 0 ∨ chkE (putE stN y x) = 1 ∨ chkE (putE stN y x) = 4 := by
    unfold chkE
    split
    · exact .inr (.inl rfl)
    · split
      · exact .inr (.inr rfl)
      · exact .inl rfl
  generalize evalE ((stN, evalE env y) :: env) x = val at *
  generalize evalE env y = vy at *
  generalize putE stN y x = z at *
  obtain ⟨A1, cap1, rfl, -, -, -⟩ := hl.form
  obtain ⟨A2, cap2, rfl, -, -, -⟩ := hm.form
  obtain ⟨A3, cap3, rfl, -, -, -⟩ := hk.form
  rw [List.length_map] at *
  rw [List.length_map] at *
  rw [List.length_map] at *
  generalize l.length = n1 at *
  generalize m.length = n2 at *
  generalize k.length = n3 at *
  refine x_con Try.func13 (c := Try.f13.body.getD .skip) (by kernel_rfl) (N := 80) rfl (by kernel_rfl) ?_
  intro hbx hbad Q hQ a w hJ
  replace hJ : K ⟨80, h.w, h.bad, []⟩ [(0, .slice A1 n1 cap1), (1, .slice A2 n2 cap2), (2, .slice A3 n3 cap3), (3, .int .i64 kd)] [] [] h a w := hJ.to (by kernel_rfl) (by kernel_rfl) rfl
  refine rx hJ false 11 [.cl 19 #[.int .i64 kd, .int .i64 3] (.int .i64 (pickL kd 3))] [(22, .int .i64 (IntKind.i64.wrap (1 + (pickL kd 3))), .int .i64 (1 + (pickL kd 3)))] (.ok (.ops [0, 1] 4) [.seq [1, 1]] [(1, .slice A2 n2 cap2), (2, .slice A3 n3 cap3), (8, .bool false), (19, .slice A1 n1 cap1), (22, .int .i64 (1 + (pickL kd 3)))] [] []) (And.intro (fun H sH => hpk _ k0 k1 (by omega) (by omega)) (trivial)) (And.intro (i64_wrap (by omega) (by omega)) (trivial)) (fun _ => by kernel_rfl) ?_
  clear hJ a w; intro a w hJ
  refine x_call hJ 23 (some_any _) (fun _ => by kernel_rfl) ?_; clear hJ a w; rintro _ h1 a w s2 ⟨hfs, b, rfl⟩ hJ
  refine x_call hJ 24 (hE _ _ (hl.sees (s2.trans hJ.j.sees)) _ (hfs.sees hJ.j.sees) (by omega) (by omega)) (fun _ => by kernel_rfl) ?_; clear hJ a w; rintro _ h3 a w s4 ⟨u, rfl, hx⟩ hJ
  refine rx hJ false 7 [.own, .b 0 0] [] (.new fun b5 => .ok (.ops [0, 1, 1] 1) [.seq [1, 1, 1]] [(1, .slice A2 n2 cap2), (8, .bool false), (9, .pointer (some ⟨b5, 0, none⟩)), (25, .slice A3 n3 cap3)] [.box b5 [.int .i64 x.op, .int .i64 x.k, .int .i64 x.n, .string x.s, .string x.nm, .slice (sA u) (sN u) (sC u)]] []) trivial trivial (fun b5 _ => by kernel_rfl) ?_
  clear hJ a w; intro b5 a w hJ
  refine x_call hJ 26 (some_any _) (fun _ => by kernel_rfl) ?_; clear hJ a w; rintro _ h6 a w s7 ⟨hfs', b', rfl⟩ hJ
  refine rx hJ false 1 [] [] (.ok (.ops [0, 1, 1] 3) [.seq [1, 1, 1]] [(1, .slice A2 n2 cap2), (8, .bool false), (9, .pointer (some ⟨b5, 0, none⟩)), (25, .slice A3 n3 cap3), (27, .slice (some ⟨b', 9, none⟩) 4 4)] [.box b5 [.int .i64 x.op, .int .i64 x.k, .int .i64 x.n, .string x.s, .string x.nm, .slice (sA u) (sN u) (sC u)]] []) trivial trivial (fun _ => by kernel_rfl) ?_
  clear hJ a w; intro a w hJ
  have hf4 := some_4 hfs'
  refine x_call hJ 28 (hE' _ _ (hk.sees (s2.trans (s4.trans (s7.trans hJ.j.sees)))) _ (hf4.sees hJ.j.sees) (by omega) (by omega)) (fun _ => by kernel_rfl) ?_; clear hJ a w; rintro _ h8 a w s9 ⟨u', rfl, hy⟩ hJ
  refine rx hJ false 8 [.own, .b 0 0, .b 1 0, .b 0 0] [] (.new fun b10 => .ok (.ops [0, 1, 1, 1] 2) [.seq [1, 1, 1, 1]] [(1, .slice A2 n2 cap2), (8, .bool false), (9, .pointer (some ⟨b5, 0, none⟩)), (10, .pointer (some ⟨b10, 0, none⟩)), (30, .agg #[.int .i64 x.op, .int .i64 x.k, .int .i64 x.n, .string x.s, .string x.nm, .slice (sA u) (sN u) (sC u)]), (31, .agg #[.int .i64 y.op, .int .i64 y.k, .int .i64 y.n, .string y.s, .string y.nm, .slice (sA u') (sN u') (sC u')])] [.box b10 [.int .i64 y.op, .int .i64 y.k, .int .i64 y.n, .string y.s, .string y.nm, .slice (sA u') (sN u') (sC u')], .box b5 [.int .i64 x.op, .int .i64 x.k, .int .i64 x.n, .string x.s, .string x.nm, .slice (sA u) (sN u) (sC u)]] []) trivial trivial (fun b10 _ => by kernel_rfl) ?_
  clear hJ a w; intro b10 a w hJ
  rcases hce with h0 | h0 | h0
  · have hVz0 := hVz h0
    refine x_call hJ 32 (hPok _ _ _ (hx.sees (s7.trans (s9.trans hJ.j.sees))) (hy.sees hJ.j.sees) h0) (fun _ => by kernel_rfl) ?_; clear hJ a w; rintro _ h11 a w s12 ⟨uz, rfl, hz⟩ hJ
    refine rx hJ false 9 [.own, .b 0 0] [] (.new fun b13 => .ok (.code [0, 1, 1, 1, 1]) [.seq [1, 1, 1, 1, 1]] [(1, .slice A2 n2 cap2), (8, .bool false), (9, .pointer (some ⟨b5, 0, none⟩)), (10, .pointer (some ⟨b10, 0, none⟩)), (11, .pointer (some ⟨b13, 0, none⟩)), (12, .int .i64 0)] [.box b13 [.int .i64 z.op, .int .i64 z.k, .int .i64 z.n, .string z.s, .string z.nm, .slice (sA uz) (sN uz) (sC uz)], .box b10 [.int .i64 y.op, .int .i64 y.k, .int .i64 y.n, .string y.s, .string y.nm, .slice (sA u') (sN u') (sC u')], .box b5 [.int .i64 x.op, .int .i64 x.k, .int .i64 x.n, .string x.s, .string x.nm, .slice (sA u) (sN u) (sC u)]] []) trivial trivial (fun b13 _ => by kernel_rfl) ?_
    clear hJ a w; intro b13 a w hJ
    let R : Reg := ⟨⟨80, h.w, h.bad, []⟩, [(0, 36, fun gh => .agg #[.int .i64 y.op, .int .i64 y.k, .int .i64 y.n, .string y.s, .string y.nm, .slice (sA u') (sN u') (sC u')]), (1, 37, fun gh => .slice A2 n2 cap2), (2, 38, fun gh => .slice (sA (gh 2)) (sN (gh 2)) (sC (gh 2))), (3, 39, fun gh => .tuple #[.agg #[.int .i64 vy.k, .int .i64 vy.n, .string vy.s], .int .i64 0]), (4, 35, fun gh => .tuple #[.agg #[.int .i64 vy.k, .int .i64 vy.n, .string vy.s], .int .i64 0]), (5, 40, fun gh => .agg #[.int .i64 vy.k, .int .i64 vy.n, .string vy.s]), (6, 41, fun gh => .int .i64 0), (7, 13, fun gh => .pointer (some ⟨(blkOf (gh 7)), 0, none⟩)), (9, 14, fun gh => .int .i64 0)], [(1, .slice A2 n2 cap2), (8, .bool false), (9, .pointer (some ⟨b5, 0, none⟩)), (10, .pointer (some ⟨b10, 0, none⟩)), (11, .pointer (some ⟨b13, 0, none⟩)), (12, .int .i64 0)], [⟨none, [(7, fun gh => .box (blkOf (gh 7)) [.int .i64 0, .int .i64 0, .string ⟨#[]⟩]), (8, fun gh => .box (blkOf (gh 7)) [.int .i64 vy.k, .int .i64 vy.n, .string vy.s])]⟩, ⟨some (.box b13 [.int .i64 z.op, .int .i64 z.k, .int .i64 z.n, .string z.s, .string z.nm, .slice (sA uz) (sN uz) (sC uz)]), []⟩, ⟨some (.box b10 [.int .i64 y.op, .int .i64 y.k, .int .i64 y.n, .string y.s, .string y.nm, .slice (sA u') (sN u') (sC u')]), []⟩, ⟨some (.box b5 [.int .i64 x.op, .int .i64 x.k, .int .i64 x.n, .string x.s, .string x.nm, .slice (sA u) (sN u) (sC u)]), []⟩], [(2, fun gh hh => RS hh 7 (.slice (sA (gh 2)) (sN (gh 2)) (sC (gh 2))) (fcRows env))], [[], [], [1], [0, 1, 2], [0, 1, 2, 3], [0, 1, 2, 3, 4], [0, 1, 2, 3, 4], [], [0, 1, 2, 3, 4, 5, 7], [0, 1, 2, 3, 4, 5, 6, 7, 8]], h11⟩
    have hmono : ∀ zq ∈ R.F, ∀ zx zh zi, Sees zh zi → zq.2 zx zh → zq.2 zx zi := mono_cons (fun _ _ _ s c => c.sees s) (mono_nil)
    refine x_region (by kernel_rfl) R hJ 10 [.ld 2 0, .pu, .cl, .cl, .pu, .pu, .pu, .al 0, .st 0 0, .pu] (by kernel_rfl) hmono (fun _ _ _ => by kernel_rfl) (fun hT hA => ?_) ?_
    · clear hJ
      refine And.intro (r_call hT hA hmono ⟨fun _ _ => by kernel_rfl, fun _ _ => by kernel_rfl, fun _ _ => by kernel_rfl⟩ 38 (fun u => .slice (sA u) (sN u) (sC u)) [1] 2 (by kernel_rfl) (by kernel_rfl) (fun _ => by kernel_rfl) 33 (fun gh => #[.slice A2 n2 cap2]) (fun _ _ => by kernel_rfl) (fun gh H sH fH lent => C0.facts (R := R) (x := gh) (i := 2) (n := 0) (F := (fun u => .slice (sA u) (sN u) (sC u))) (G := fun u hh => RS hh 7 (.slice (sA u) (sN u) (sC u)) (fcRows env)) (f := fun gh hh => RS hh 7 (.slice (sA (gh 2)) (sN (gh 2)) (sC (gh 2))) (fcRows env)) (hF _ (hm.sees (s2.trans (s4.trans (s7.trans (s9.trans (s12.trans sH))))))) (by kernel_rfl) (by kernel_rfl) (fun _ _ r => r))) ?_
      refine And.intro (r_callv hT hA hmono 39 (fun gh => .tuple #[.agg #[.int .i64 vy.k, .int .i64 vy.n, .string vy.s], .int .i64 0]) [0, 2] 3 (by kernel_rfl) (by kernel_rfl) (by kernel_rfl) (fun _ => by kernel_rfl) 29 (fun gh => #[.agg #[.int .i64 y.op, .int .i64 y.k, .int .i64 y.n, .string y.s, .string y.nm, .slice (sA u') (sN u') (sC u')], .slice (sA (gh 2)) (sN (gh 2)) (sC (gh 2))]) (fun _ _ => by kernel_rfl) (fun gh H sH fH lent => hVy _ _ _ (hy.sees (s12.trans sH)) (fH 0 _ rfl (by kernel_rfl)))) ?_
      trivial
    clear hJ a w; intro gh h15 a w sR hJ1 hF; have s16 : Sees h11 h15 := sR; clear sR
    have hJ : K ⟨80, h.w, h.bad, []⟩ [(1, .slice A2 n2 cap2), (8, .bool false), (9, .pointer (some ⟨b5, 0, none⟩)), (11, .pointer (some ⟨b13, 0, none⟩)), (12, .int .i64 0), (13, .pointer (some ⟨(blkOf (gh 7)), 0, none⟩)), (14, .int .i64 0)] [.box (blkOf (gh 7)) [.int .i64 vy.k, .int .i64 vy.n, .string vy.s], .box b13 [.int .i64 z.op, .int .i64 z.k, .int .i64 z.n, .string z.s, .string z.nm, .slice (sA uz) (sN uz) (sC uz)], .box b10 [.int .i64 y.op, .int .i64 y.k, .int .i64 y.n, .string y.s, .string y.nm, .slice (sA u') (sN u') (sC u')], .box b5 [.int .i64 x.op, .int .i64 x.k, .int .i64 x.n, .string x.s, .string x.nm, .slice (sA u) (sN u) (sC u)]] [] h15 a w := hJ1.to (by kernel_rfl) (by kernel_rfl) rfl
    have f38 : RS h15 7 (.slice (sA (gh 2)) (sN (gh 2)) (sC (gh 2))) (fcRows env) := Reg.fact (i := 2) (f := fun gh hh => RS hh 7 (.slice (sA (gh 2)) (sN (gh 2)) (sC (gh 2))) (fcRows env)) hF 0 (by kernel_rfl)
    clear hJ1 hF hmono R
    generalize gh 2 = u38 at *
    generalize blkOf (gh 7) = b14 at *
    clear gh
    refine rx hJ false 27 [.b 0 0] [(47, .bool (vy.k == 0), .bool false)] (.ok (.code [0, 1, 1, 1, 1, 1, 1, 1]) [.seq [1, 1, 1, 1, 1, 1, 1, 1]] [(1, .slice A2 n2 cap2), (8, .bool false), (9, .pointer (some ⟨b5, 0, none⟩)), (11, .pointer (some ⟨b13, 0, none⟩)), (13, .pointer (some ⟨b14, 0, none⟩))] [.box b14 [.int .i64 vy.k, .int .i64 vy.n, .string vy.s], .box b13 [.int .i64 z.op, .int .i64 z.k, .int .i64 z.n, .string z.s, .string z.nm, .slice (sA uz) (sN uz) (sC uz)], .box b10 [.int .i64 y.op, .int .i64 y.k, .int .i64 y.n, .string y.s, .string y.nm, .slice (sA u') (sN u') (sC u')], .box b5 [.int .i64 x.op, .int .i64 x.k, .int .i64 x.n, .string x.s, .string x.nm, .slice (sA u) (sN u) (sC u)]] []) trivial (And.intro (congrArg Value.bool (beq_eq_false_iff_ne.2 (by omega))) (trivial)) (fun _ => by kernel_rfl) ?_
    clear hJ a w; intro a w hJ
    let R : Reg := ⟨⟨80, h.w, h.bad, []⟩, [(0, 52, fun gh => .agg #[.int .i64 z.op, .int .i64 z.k, .int .i64 z.n, .string z.s, .string z.nm, .slice (sA uz) (sN uz) (sC uz)]), (1, 53, fun gh => .slice A2 n2 cap2), (2, 54, fun gh => .slice (sA (gh 2)) (sN (gh 2)) (sC (gh 2))), (3, 55, fun gh => .tuple #[.agg #[.int .i64 val.k, .int .i64 val.n, .string val.s], .int .i64 0]), (4, 51, fun gh => .tuple #[.agg #[.int .i64 val.k, .int .i64 val.n, .string val.s], .int .i64 0]), (5, 56, fun gh => .agg #[.int .i64 val.k, .int .i64 val.n, .string val.s]), (6, 57, fun gh => .int .i64 0), (7, 15, fun gh => .pointer (some ⟨(blkOf (gh 7)), 0, none⟩)), (9, 16, fun gh => .int .i64 0)], [(1, .slice A2 n2 cap2), (8, .bool false), (9, .pointer (some ⟨b5, 0, none⟩)), (11, .pointer (some ⟨b13, 0, none⟩)), (13, .pointer (some ⟨b14, 0, none⟩))], [⟨none, [(7, fun gh => .box (blkOf (gh 7)) [.int .i64 0, .int .i64 0, .string ⟨#[]⟩]), (8, fun gh => .box (blkOf (gh 7)) [.int .i64 val.k, .int .i64 val.n, .string val.s])]⟩, ⟨some (.box b14 [.int .i64 vy.k, .int .i64 vy.n, .string vy.s]), []⟩, ⟨some (.box b13 [.int .i64 z.op, .int .i64 z.k, .int .i64 z.n, .string z.s, .string z.nm, .slice (sA uz) (sN uz) (sC uz)]), []⟩, ⟨some (.box b10 [.int .i64 y.op, .int .i64 y.k, .int .i64 y.n, .string y.s, .string y.nm, .slice (sA u') (sN u') (sC u')]), []⟩, ⟨some (.box b5 [.int .i64 x.op, .int .i64 x.k, .int .i64 x.n, .string x.s, .string x.nm, .slice (sA u) (sN u) (sC u)]), []⟩], [(2, fun gh hh => RS hh 7 (.slice (sA (gh 2)) (sN (gh 2)) (sC (gh 2))) (fcRows env))], [[], [], [1], [0, 1, 2], [0, 1, 2, 3], [0, 1, 2, 3, 4], [0, 1, 2, 3, 4], [], [0, 1, 2, 3, 4, 5, 7], [0, 1, 2, 3, 4, 5, 6, 7, 8]], h15⟩
    have hmono : ∀ zq ∈ R.F, ∀ zx zh zi, Sees zh zi → zq.2 zx zh → zq.2 zx zi := mono_cons (fun _ _ _ s c => c.sees s) (mono_nil)
    refine x_region (by kernel_rfl) R hJ 10 [.ld 2 0, .pu, .cl, .cl, .pu, .pu, .pu, .al 0, .st 0 0, .pu] (by kernel_rfl) hmono (fun _ _ _ => by kernel_rfl) (fun hT hA => ?_) ?_
    · clear hJ
      refine And.intro (r_call hT hA hmono ⟨fun _ _ => by kernel_rfl, fun _ _ => by kernel_rfl, fun _ _ => by kernel_rfl⟩ 54 (fun u => .slice (sA u) (sN u) (sC u)) [1] 2 (by kernel_rfl) (by kernel_rfl) (fun _ => by kernel_rfl) 33 (fun gh => #[.slice A2 n2 cap2]) (fun _ _ => by kernel_rfl) (fun gh H sH fH lent => C0.facts (R := R) (x := gh) (i := 2) (n := 0) (F := (fun u => .slice (sA u) (sN u) (sC u))) (G := fun u hh => RS hh 7 (.slice (sA u) (sN u) (sC u)) (fcRows env)) (f := fun gh hh => RS hh 7 (.slice (sA (gh 2)) (sN (gh 2)) (sC (gh 2))) (fcRows env)) (hF _ (hm.sees (s2.trans (s4.trans (s7.trans (s9.trans (s12.trans (s16.trans sH)))))))) (by kernel_rfl) (by kernel_rfl) (fun _ _ r => r))) ?_
      refine And.intro (r_callv hT hA hmono 55 (fun gh => .tuple #[.agg #[.int .i64 val.k, .int .i64 val.n, .string val.s], .int .i64 0]) [0, 2] 3 (by kernel_rfl) (by kernel_rfl) (by kernel_rfl) (fun _ => by kernel_rfl) 29 (fun gh => #[.agg #[.int .i64 z.op, .int .i64 z.k, .int .i64 z.n, .string z.s, .string z.nm, .slice (sA uz) (sN uz) (sC uz)], .slice (sA (gh 2)) (sN (gh 2)) (sC (gh 2))]) (fun _ _ => by kernel_rfl) (fun gh H sH fH lent => hVz0 _ _ _ (hz.sees (s16.trans sH)) (fH 0 _ rfl (by kernel_rfl)))) ?_
      trivial
    clear hJ a w; intro gh h18 a w sR hJ1 hF; have s19 : Sees h15 h18 := sR; clear sR
    have hJ : K ⟨80, h.w, h.bad, []⟩ [(1, .slice A2 n2 cap2), (8, .bool false), (9, .pointer (some ⟨b5, 0, none⟩)), (13, .pointer (some ⟨b14, 0, none⟩)), (15, .pointer (some ⟨(blkOf (gh 7)), 0, none⟩)), (16, .int .i64 0)] [.box (blkOf (gh 7)) [.int .i64 val.k, .int .i64 val.n, .string val.s], .box b14 [.int .i64 vy.k, .int .i64 vy.n, .string vy.s], .box b13 [.int .i64 z.op, .int .i64 z.k, .int .i64 z.n, .string z.s, .string z.nm, .slice (sA uz) (sN uz) (sC uz)], .box b10 [.int .i64 y.op, .int .i64 y.k, .int .i64 y.n, .string y.s, .string y.nm, .slice (sA u') (sN u') (sC u')], .box b5 [.int .i64 x.op, .int .i64 x.k, .int .i64 x.n, .string x.s, .string x.nm, .slice (sA u) (sN u) (sC u)]] [] h18 a w := hJ1.to (by kernel_rfl) (by kernel_rfl) rfl
    have f54 : RS h18 7 (.slice (sA (gh 2)) (sN (gh 2)) (sC (gh 2))) (fcRows env) := Reg.fact (i := 2) (f := fun gh hh => RS hh 7 (.slice (sA (gh 2)) (sN (gh 2)) (sC (gh 2))) (fcRows env)) hF 0 (by kernel_rfl)
    clear hJ1 hF hmono R
    generalize gh 2 = u54 at *
    generalize blkOf (gh 7) = b17 at *
    clear gh
    refine rx hJ false 2 [] [] (.ok (.code [0, 1, 1, 1, 1, 1, 1, 1, 1]) [.seq [1, 1, 1, 1, 1, 1, 1, 1, 1]] [(1, .slice A2 n2 cap2), (8, .bool false), (9, .pointer (some ⟨b5, 0, none⟩)), (13, .pointer (some ⟨b14, 0, none⟩)), (15, .pointer (some ⟨b17, 0, none⟩)), (16, .int .i64 0)] [.box b17 [.int .i64 val.k, .int .i64 val.n, .string val.s], .box b14 [.int .i64 vy.k, .int .i64 vy.n, .string vy.s], .box b13 [.int .i64 z.op, .int .i64 z.k, .int .i64 z.n, .string z.s, .string z.nm, .slice (sA uz) (sN uz) (sC uz)], .box b10 [.int .i64 y.op, .int .i64 y.k, .int .i64 y.n, .string y.s, .string y.nm, .slice (sA u') (sN u') (sC u')], .box b5 [.int .i64 x.op, .int .i64 x.k, .int .i64 x.n, .string x.s, .string x.nm, .slice (sA u) (sN u) (sC u)]] []) trivial trivial (fun _ => by kernel_rfl) ?_
    clear hJ a w; intro a w hJ
    let R : Reg := ⟨⟨80, h.w, h.bad, []⟩, [(0, 59, fun gh => .agg #[.int .i64 x.op, .int .i64 x.k, .int .i64 x.n, .string x.s, .string x.nm, .slice (sA u) (sN u) (sC u)]), (1, 60, fun gh => .agg #[.int .i64 vy.k, .int .i64 vy.n, .string vy.s]), (2, 61, fun gh => .agg #[.string ⟨#[110]⟩, .int .i64 0, .int .i64 0, .string ⟨#[]⟩, .int .i64 vy.k, .int .i64 vy.n, .string vy.s]), (3, 62, fun gh => .slice (some ⟨(blkOf (gh 3)), 0, none⟩) 1 1), (4, 63, fun gh => .slice A2 n2 cap2), (5, 64, fun gh => .slice (sA (gh 5)) (sN (gh 5)) (sC (gh 5))), (6, 65, fun gh => .slice (sA (gh 6)) (sN (gh 6)) (sC (gh 6))), (7, 66, fun gh => .tuple #[.agg #[.int .i64 val.k, .int .i64 val.n, .string val.s], .int .i64 0]), (8, 58, fun gh => .tuple #[.agg #[.int .i64 val.k, .int .i64 val.n, .string val.s], .int .i64 0]), (9, 67, fun gh => .agg #[.int .i64 val.k, .int .i64 val.n, .string val.s]), (10, 68, fun gh => .int .i64 0), (11, 17, fun gh => .pointer (some ⟨(blkOf (gh 11)), 0, none⟩)), (13, 18, fun gh => .int .i64 0)], [(1, .slice A2 n2 cap2), (8, .bool false), (9, .pointer (some ⟨b5, 0, none⟩)), (13, .pointer (some ⟨b14, 0, none⟩)), (15, .pointer (some ⟨b17, 0, none⟩)), (16, .int .i64 0)], [⟨none, [(11, fun gh => .box (blkOf (gh 11)) [.int .i64 0, .int .i64 0, .string ⟨#[]⟩]), (12, fun gh => .box (blkOf (gh 11)) [.int .i64 val.k, .int .i64 val.n, .string val.s])]⟩, ⟨some (.box b17 [.int .i64 val.k, .int .i64 val.n, .string val.s]), []⟩, ⟨some (.box b14 [.int .i64 vy.k, .int .i64 vy.n, .string vy.s]), []⟩, ⟨some (.box b13 [.int .i64 z.op, .int .i64 z.k, .int .i64 z.n, .string z.s, .string z.nm, .slice (sA uz) (sN uz) (sC uz)]), []⟩, ⟨some (.box b10 [.int .i64 y.op, .int .i64 y.k, .int .i64 y.n, .string y.s, .string y.nm, .slice (sA u') (sN u') (sC u')]), []⟩, ⟨some (.box b5 [.int .i64 x.op, .int .i64 x.k, .int .i64 x.n, .string x.s, .string x.nm, .slice (sA u) (sN u) (sC u)]), []⟩], [(3, fun gh hh => Cells hh (blkOf (gh 3)) 0 [.string ⟨#[110]⟩, .int .i64 0, .int .i64 0, .string ⟨#[]⟩, .int .i64 vy.k, .int .i64 vy.n, .string vy.s]), (5, fun gh hh => RS hh 7 (.slice (sA (gh 5)) (sN (gh 5)) (sC (gh 5))) (fcRows env)), (6, fun gh hh => RS hh 7 (.slice (sA (gh 6)) (sN (gh 6)) (sC (gh 6))) ((fcRows [(stN, vy)]) ++ (fcRows env)))], [[], [], [1], [1, 2], [], [4], [1, 2, 3, 4, 5], [0, 1, 2, 3, 4, 5, 6], [0, 1, 2, 3, 4, 5, 6, 7], [0, 1, 2, 3, 4, 5, 6, 7, 8], [0, 1, 2, 3, 4, 5, 6, 7, 8], [], [0, 1, 2, 3, 4, 5, 6, 7, 8, 9, 11], [0, 1, 2, 3, 4, 5, 6, 7, 8, 9, 10, 11, 12]], h18⟩
    have hmono : ∀ zq ∈ R.F, ∀ zx zh zi, Sees zh zi → zq.2 zx zh → zq.2 zx zi := mono_cons (fun _ _ _ s c => c.sees s) (mono_cons (fun _ _ _ s c => c.sees s) (mono_cons (fun _ _ _ s c => c.sees s) (mono_nil)))
    refine x_region (by kernel_rfl) R hJ 14 [.ld 5 0, .ld 2 0, .pu, .cl, .pu, .cl, .cl, .cl, .pu, .pu, .pu, .al 0, .st 0 0, .pu] (by kernel_rfl) hmono (fun _ _ _ => by kernel_rfl) (fun hT hA => ?_) ?_
    · clear hJ
      refine And.intro (r_fact hT hA hmono ⟨fun _ _ => by kernel_rfl, fun _ _ => by kernel_rfl, fun _ _ => by kernel_rfl⟩ 62 (fun g => .slice (some ⟨g, 0, none⟩) 1 1) [2] 3 (by kernel_rfl) (by kernel_rfl) (fun _ => by kernel_rfl) (fun gh => [.string ⟨#[110]⟩, .int .i64 0, .int .i64 0, .string ⟨#[]⟩, .int .i64 vy.k, .int .i64 vy.n, .string vy.s]) 64 (fun _ _ => by kernel_rfl) (fun gh zb zH zc zj zq zhq zhe => own_fact (i := 3) (k := 0) (f := fun gh hh => Cells hh (blkOf (gh 3)) 0 [.string ⟨#[110]⟩, .int .i64 0, .int .i64 0, .string ⟨#[]⟩, .int .i64 vy.k, .int .i64 vy.n, .string vy.s]) (by kernel_rfl) (by kernel_rfl) zc zj zq zhq zhe)) ?_
      refine And.intro (r_call hT hA hmono ⟨fun _ _ => by kernel_rfl, fun _ _ => by kernel_rfl, fun _ _ => by kernel_rfl⟩ 64 (fun u => .slice (sA u) (sN u) (sC u)) [4] 5 (by kernel_rfl) (by kernel_rfl) (fun _ => by kernel_rfl) 33 (fun gh => #[.slice A2 n2 cap2]) (fun _ _ => by kernel_rfl) (fun gh H sH fH lent => C0.facts (R := R) (x := gh) (i := 5) (n := 1) (F := (fun u => .slice (sA u) (sN u) (sC u))) (G := fun u hh => RS hh 7 (.slice (sA u) (sN u) (sC u)) (fcRows env)) (f := fun gh hh => RS hh 7 (.slice (sA (gh 5)) (sN (gh 5)) (sC (gh 5))) (fcRows env)) (hF _ (hm.sees (s2.trans (s4.trans (s7.trans (s9.trans (s12.trans (s16.trans (s19.trans sH))))))))) (by kernel_rfl) (by kernel_rfl) (fun _ _ r => r))) ?_
      refine And.intro (r_appgrow hT hA hmono ⟨fun _ _ => by kernel_rfl, fun _ _ => by kernel_rfl, fun _ _ => by kernel_rfl⟩ 65 [3, 5] 6 (by kernel_rfl) (by kernel_rfl) (fun _ => by kernel_rfl) 55 64 7 (.tmp 62) (.tmp 64) (by kernel_rfl) (by kernel_rfl) (fun gh => .slice (some ⟨(blkOf (gh 3)), 0, none⟩) 1 1) (fun gh => .slice (sA (gh 5)) (sN (gh 5)) (sC (gh 5))) (fun _ => by kernel_rfl) (fun _ => by kernel_rfl) Try.underlying55 (zv := .agg #[.string ⟨#[]⟩, .int .i64 0, .int .i64 0, .string ⟨#[]⟩, .int .i64 0, .int .i64 0, .string ⟨#[]⟩]) (bytes := 80) (by kernel_rfl) (by kernel_rfl) (by decide) (fcRows [(stN, vy)]) (fcRows env) 1 (fcs_len _) (fcs_len _) ((by rw [List.length_map]; omega)) ((by rw [List.length_map, List.length_map, eln]; show 1 < 1 + 5; omega)) ((by rw [List.length_map, List.length_map, eln]; show (1 + 5) * 80 ≤ 140737488355328; omega)) ((by rw [List.length_map, List.length_map, eln]; show 1 + 5 ≤ 1000000; omega)) (fun gh H fH sH => ⟨⟨_, rfl, fH 0 _ rfl (by kernel_rfl)⟩, fH 1 _ rfl (by kernel_rfl)⟩) (fun gh zu zH zc zj zq zhq zhe => own_fact (i := 6) (k := 2) (f := fun gh hh => RS hh 7 (.slice (sA (gh 6)) (sN (gh 6)) (sC (gh 6))) ((fcRows [(stN, vy)]) ++ (fcRows env))) (by kernel_rfl) (by kernel_rfl) zc zj zq zhq zhe)) ?_
      refine And.intro (r_callv hT hA hmono 66 (fun gh => .tuple #[.agg #[.int .i64 val.k, .int .i64 val.n, .string val.s], .int .i64 0]) [0, 6] 7 (by kernel_rfl) (by kernel_rfl) (by kernel_rfl) (fun _ => by kernel_rfl) 29 (fun gh => #[.agg #[.int .i64 x.op, .int .i64 x.k, .int .i64 x.n, .string x.s, .string x.nm, .slice (sA u) (sN u) (sC u)], .slice (sA (gh 6)) (sN (gh 6)) (sC (gh 6))]) (fun _ _ => by kernel_rfl) (fun gh H sH fH lent => hVx _ _ _ (hx.sees (s7.trans (s9.trans (s12.trans (s16.trans (s19.trans sH)))))) (fH 2 _ rfl (by kernel_rfl)))) ?_
      trivial
    clear hJ a w; intro gh h23 a w sR hJ1 hF; have s24 : Sees h18 h23 := sR; clear sR
    have hJ : K ⟨80, h.w, h.bad, []⟩ [(8, .bool false), (15, .pointer (some ⟨b17, 0, none⟩)), (16, .int .i64 0), (17, .pointer (some ⟨(blkOf (gh 11)), 0, none⟩)), (18, .int .i64 0)] [.box (blkOf (gh 11)) [.int .i64 val.k, .int .i64 val.n, .string val.s], .box b17 [.int .i64 val.k, .int .i64 val.n, .string val.s], .box b14 [.int .i64 vy.k, .int .i64 vy.n, .string vy.s], .box b13 [.int .i64 z.op, .int .i64 z.k, .int .i64 z.n, .string z.s, .string z.nm, .slice (sA uz) (sN uz) (sC uz)], .box b10 [.int .i64 y.op, .int .i64 y.k, .int .i64 y.n, .string y.s, .string y.nm, .slice (sA u') (sN u') (sC u')], .box b5 [.int .i64 x.op, .int .i64 x.k, .int .i64 x.n, .string x.s, .string x.nm, .slice (sA u) (sN u) (sC u)]] [] h23 a w := hJ1.to (by kernel_rfl) (by kernel_rfl) rfl
    have f20 : Cells h23 (blkOf (gh 3)) 0 [.string ⟨#[110]⟩, .int .i64 0, .int .i64 0, .string ⟨#[]⟩, .int .i64 vy.k, .int .i64 vy.n, .string vy.s] := Reg.fact (i := 3) (f := fun gh hh => Cells hh (blkOf (gh 3)) 0 [.string ⟨#[110]⟩, .int .i64 0, .int .i64 0, .string ⟨#[]⟩, .int .i64 vy.k, .int .i64 vy.n, .string vy.s]) hF 0 (by kernel_rfl)
    replace hJ := hJ.fact f20
    have f64 : RS h23 7 (.slice (sA (gh 5)) (sN (gh 5)) (sC (gh 5))) (fcRows env) := Reg.fact (i := 5) (f := fun gh hh => RS hh 7 (.slice (sA (gh 5)) (sN (gh 5)) (sC (gh 5))) (fcRows env)) hF 1 (by kernel_rfl)
    have f65 : RS h23 7 (.slice (sA (gh 6)) (sN (gh 6)) (sC (gh 6))) ((fcRows [(stN, vy)]) ++ (fcRows env)) := Reg.fact (i := 6) (f := fun gh hh => RS hh 7 (.slice (sA (gh 6)) (sN (gh 6)) (sC (gh 6))) ((fcRows [(stN, vy)]) ++ (fcRows env))) hF 2 (by kernel_rfl)
    clear hJ1 hF hmono R
    generalize blkOf (gh 3) = b21 at *
    generalize gh 5 = u64 at *
    generalize gh 6 = u65 at *
    generalize blkOf (gh 11) = b22 at *
    clear gh
    refine rx hJ false 12 [.b 1 0, .b 0 0] [] (.ok (.ops [0, 1, 1, 1, 1, 1, 1, 1, 1, 1] 9) [.seq [1, 1, 1, 1, 1, 1, 1, 1, 1, 1]] [(8, .bool false), (75, .bool true), (76, .agg #[.int .i64 val.k, .int .i64 val.n, .string val.s]), (77, .agg #[.int .i64 val.k, .int .i64 val.n, .string val.s])] [.box b22 [.int .i64 val.k, .int .i64 val.n, .string val.s], .box b17 [.int .i64 val.k, .int .i64 val.n, .string val.s], .box b14 [.int .i64 vy.k, .int .i64 vy.n, .string vy.s], .box b13 [.int .i64 z.op, .int .i64 z.k, .int .i64 z.n, .string z.s, .string z.nm, .slice (sA uz) (sN uz) (sC uz)], .box b10 [.int .i64 y.op, .int .i64 y.k, .int .i64 y.n, .string y.s, .string y.nm, .slice (sA u') (sN u') (sC u')], .box b5 [.int .i64 x.op, .int .i64 x.k, .int .i64 x.n, .string x.s, .string x.nm, .slice (sA u) (sN u) (sC u)]] [(b21, 0, [.string ⟨#[110]⟩, .int .i64 0, .int .i64 0, .string ⟨#[]⟩, .int .i64 vy.k, .int .i64 vy.n, .string vy.s])]) trivial trivial (fun _ => by kernel_rfl) ?_
    clear hJ a w; intro a w hJ
    refine x_pure hJ 78 (.bool true) (by kernel_rfl) (fun w => run_eqop (x := (.tmp 76)) (y := (.tmp 77)) (v := val) (w := val) (by kernel_rfl) (by kernel_rfl) (by kernel_rfl) (eqB_iff.2 rfl)) ?_; clear hJ a w; intro a w hJ
    refine rx hJ false 5 [] [] (.ok (.out .ret) [] [(8, .bool true)] [.box b22 [.int .i64 val.k, .int .i64 val.n, .string val.s], .box b17 [.int .i64 val.k, .int .i64 val.n, .string val.s], .box b14 [.int .i64 vy.k, .int .i64 vy.n, .string vy.s], .box b13 [.int .i64 z.op, .int .i64 z.k, .int .i64 z.n, .string z.s, .string z.nm, .slice (sA uz) (sN uz) (sC uz)], .box b10 [.int .i64 y.op, .int .i64 y.k, .int .i64 y.n, .string y.s, .string y.nm, .slice (sA u') (sN u') (sC u')], .box b5 [.int .i64 x.op, .int .i64 x.k, .int .i64 x.n, .string x.s, .string x.nm, .slice (sA u) (sN u) (sC u)]] [(b21, 0, [.string ⟨#[110]⟩, .int .i64 0, .int .i64 0, .string ⟨#[]⟩, .int .i64 vy.k, .int .i64 vy.n, .string vy.s])]) trivial trivial (fun _ => by kernel_rfl) ?_
    clear hJ a w; intro a w hJ
    refine x_end (hQ [.bool true] _ [] hJ (.rtmp hJ.j (by kernel_rfl) .nil) (no_own _) rfl ?_).1
    exact rfl
  · skip
    have hPb := fun H v vy q1 q2 => hPbad H v vy q1 q2 1 h0 (by omega)
    refine rx hJ false 10 [.cl 23 #[.agg #[.int .i64 x.op, .int .i64 x.k, .int .i64 x.n, .string x.s, .string x.nm, .slice (sA u) (sN u) (sC u)], .string ⟨#[110]⟩, .agg #[.int .i64 y.op, .int .i64 y.k, .int .i64 y.n, .string y.s, .string y.nm, .slice (sA u') (sN u') (sC u')]] (.tuple #[.agg #[.int .i64 0, .int .i64 0, .int .i64 0, .string ⟨#[]⟩, .string ⟨#[]⟩, .slice none 0 0], .int .i64 1]), .own, .b 0 0] [] (.new fun b25 => .ok (.code [0, 1, 1, 1, 1]) [.seq [1, 1, 1, 1, 1]] [(1, .slice A2 n2 cap2), (8, .bool false), (9, .pointer (some ⟨b5, 0, none⟩)), (10, .pointer (some ⟨b10, 0, none⟩)), (11, .pointer (some ⟨b25, 0, none⟩)), (12, .int .i64 1)] [.box b25 [.int .i64 0, .int .i64 0, .int .i64 0, .string ⟨#[]⟩, .string ⟨#[]⟩, .slice none 0 0], .box b10 [.int .i64 y.op, .int .i64 y.k, .int .i64 y.n, .string y.s, .string y.nm, .slice (sA u') (sN u') (sC u')], .box b5 [.int .i64 x.op, .int .i64 x.k, .int .i64 x.n, .string x.s, .string x.nm, .slice (sA u) (sN u) (sC u)]] []) (And.intro (fun H sH => hPb _ _ _ (hx.sees (s7.trans (s9.trans sH))) (hy.sees sH)) (trivial)) trivial (fun b25 _ => by kernel_rfl) ?_
    clear hJ a w; intro b25 a w hJ
    let R : Reg := ⟨⟨80, h.w, h.bad, []⟩, [(0, 36, fun gh => .agg #[.int .i64 y.op, .int .i64 y.k, .int .i64 y.n, .string y.s, .string y.nm, .slice (sA u') (sN u') (sC u')]), (1, 37, fun gh => .slice A2 n2 cap2), (2, 38, fun gh => .slice (sA (gh 2)) (sN (gh 2)) (sC (gh 2))), (3, 39, fun gh => .tuple #[.agg #[.int .i64 vy.k, .int .i64 vy.n, .string vy.s], .int .i64 0]), (4, 35, fun gh => .tuple #[.agg #[.int .i64 vy.k, .int .i64 vy.n, .string vy.s], .int .i64 0]), (5, 40, fun gh => .agg #[.int .i64 vy.k, .int .i64 vy.n, .string vy.s]), (6, 41, fun gh => .int .i64 0), (7, 13, fun gh => .pointer (some ⟨(blkOf (gh 7)), 0, none⟩)), (9, 14, fun gh => .int .i64 0)], [(1, .slice A2 n2 cap2), (8, .bool false), (9, .pointer (some ⟨b5, 0, none⟩)), (10, .pointer (some ⟨b10, 0, none⟩)), (11, .pointer (some ⟨b25, 0, none⟩)), (12, .int .i64 1)], [⟨none, [(7, fun gh => .box (blkOf (gh 7)) [.int .i64 0, .int .i64 0, .string ⟨#[]⟩]), (8, fun gh => .box (blkOf (gh 7)) [.int .i64 vy.k, .int .i64 vy.n, .string vy.s])]⟩, ⟨some (.box b25 [.int .i64 0, .int .i64 0, .int .i64 0, .string ⟨#[]⟩, .string ⟨#[]⟩, .slice none 0 0]), []⟩, ⟨some (.box b10 [.int .i64 y.op, .int .i64 y.k, .int .i64 y.n, .string y.s, .string y.nm, .slice (sA u') (sN u') (sC u')]), []⟩, ⟨some (.box b5 [.int .i64 x.op, .int .i64 x.k, .int .i64 x.n, .string x.s, .string x.nm, .slice (sA u) (sN u) (sC u)]), []⟩], [(2, fun gh hh => RS hh 7 (.slice (sA (gh 2)) (sN (gh 2)) (sC (gh 2))) (fcRows env))], [[], [], [1], [0, 1, 2], [0, 1, 2, 3], [0, 1, 2, 3, 4], [0, 1, 2, 3, 4], [], [0, 1, 2, 3, 4, 5, 7], [0, 1, 2, 3, 4, 5, 6, 7, 8]], h8⟩
    have hmono : ∀ zq ∈ R.F, ∀ zx zh zi, Sees zh zi → zq.2 zx zh → zq.2 zx zi := mono_cons (fun _ _ _ s c => c.sees s) (mono_nil)
    refine x_region (by kernel_rfl) R hJ 10 [.ld 2 0, .pu, .cl, .cl, .pu, .pu, .pu, .al 0, .st 0 0, .pu] (by kernel_rfl) hmono (fun _ _ _ => by kernel_rfl) (fun hT hA => ?_) ?_
    · clear hJ
      refine And.intro (r_call hT hA hmono ⟨fun _ _ => by kernel_rfl, fun _ _ => by kernel_rfl, fun _ _ => by kernel_rfl⟩ 38 (fun u => .slice (sA u) (sN u) (sC u)) [1] 2 (by kernel_rfl) (by kernel_rfl) (fun _ => by kernel_rfl) 33 (fun gh => #[.slice A2 n2 cap2]) (fun _ _ => by kernel_rfl) (fun gh H sH fH lent => C0.facts (R := R) (x := gh) (i := 2) (n := 0) (F := (fun u => .slice (sA u) (sN u) (sC u))) (G := fun u hh => RS hh 7 (.slice (sA u) (sN u) (sC u)) (fcRows env)) (f := fun gh hh => RS hh 7 (.slice (sA (gh 2)) (sN (gh 2)) (sC (gh 2))) (fcRows env)) (hF _ (hm.sees (s2.trans (s4.trans (s7.trans (s9.trans sH)))))) (by kernel_rfl) (by kernel_rfl) (fun _ _ r => r))) ?_
      refine And.intro (r_callv hT hA hmono 39 (fun gh => .tuple #[.agg #[.int .i64 vy.k, .int .i64 vy.n, .string vy.s], .int .i64 0]) [0, 2] 3 (by kernel_rfl) (by kernel_rfl) (by kernel_rfl) (fun _ => by kernel_rfl) 29 (fun gh => #[.agg #[.int .i64 y.op, .int .i64 y.k, .int .i64 y.n, .string y.s, .string y.nm, .slice (sA u') (sN u') (sC u')], .slice (sA (gh 2)) (sN (gh 2)) (sC (gh 2))]) (fun _ _ => by kernel_rfl) (fun gh H sH fH lent => hVy _ _ _ (hy.sees sH) (fH 0 _ rfl (by kernel_rfl)))) ?_
      trivial
    clear hJ a w; intro gh h27 a w sR hJ1 hF; have s28 : Sees h8 h27 := sR; clear sR
    have hJ : K ⟨80, h.w, h.bad, []⟩ [(1, .slice A2 n2 cap2), (8, .bool false), (9, .pointer (some ⟨b5, 0, none⟩)), (11, .pointer (some ⟨b25, 0, none⟩)), (12, .int .i64 1), (13, .pointer (some ⟨(blkOf (gh 7)), 0, none⟩)), (14, .int .i64 0)] [.box (blkOf (gh 7)) [.int .i64 vy.k, .int .i64 vy.n, .string vy.s], .box b25 [.int .i64 0, .int .i64 0, .int .i64 0, .string ⟨#[]⟩, .string ⟨#[]⟩, .slice none 0 0], .box b10 [.int .i64 y.op, .int .i64 y.k, .int .i64 y.n, .string y.s, .string y.nm, .slice (sA u') (sN u') (sC u')], .box b5 [.int .i64 x.op, .int .i64 x.k, .int .i64 x.n, .string x.s, .string x.nm, .slice (sA u) (sN u) (sC u)]] [] h27 a w := hJ1.to (by kernel_rfl) (by kernel_rfl) rfl
    have f38 : RS h27 7 (.slice (sA (gh 2)) (sN (gh 2)) (sC (gh 2))) (fcRows env) := Reg.fact (i := 2) (f := fun gh hh => RS hh 7 (.slice (sA (gh 2)) (sN (gh 2)) (sC (gh 2))) (fcRows env)) hF 0 (by kernel_rfl)
    clear hJ1 hF hmono R
    generalize gh 2 = u38 at *
    generalize blkOf (gh 7) = b26 at *
    clear gh
    refine rx hJ false 31 [.b 0 0] [(47, .bool (vy.k == 0), .bool false)] (.ok (.out .ret) [] [(8, .bool true)] [.box b26 [.int .i64 vy.k, .int .i64 vy.n, .string vy.s], .box b25 [.int .i64 0, .int .i64 0, .int .i64 0, .string ⟨#[]⟩, .string ⟨#[]⟩, .slice none 0 0], .box b10 [.int .i64 y.op, .int .i64 y.k, .int .i64 y.n, .string y.s, .string y.nm, .slice (sA u') (sN u') (sC u')], .box b5 [.int .i64 x.op, .int .i64 x.k, .int .i64 x.n, .string x.s, .string x.nm, .slice (sA u) (sN u) (sC u)]] []) trivial (And.intro (congrArg Value.bool (beq_eq_false_iff_ne.2 (by omega))) (trivial)) (fun _ => by kernel_rfl) ?_
    clear hJ a w; intro a w hJ
    refine x_end (hQ [.bool true] _ [] hJ (.rtmp hJ.j (by kernel_rfl) .nil) (no_own _) rfl ?_).1
    exact rfl
  · skip
    have hPb := fun H v vy q1 q2 => hPbad H v vy q1 q2 4 h0 (by omega)
    refine rx hJ false 10 [.cl 23 #[.agg #[.int .i64 x.op, .int .i64 x.k, .int .i64 x.n, .string x.s, .string x.nm, .slice (sA u) (sN u) (sC u)], .string ⟨#[110]⟩, .agg #[.int .i64 y.op, .int .i64 y.k, .int .i64 y.n, .string y.s, .string y.nm, .slice (sA u') (sN u') (sC u')]] (.tuple #[.agg #[.int .i64 0, .int .i64 0, .int .i64 0, .string ⟨#[]⟩, .string ⟨#[]⟩, .slice none 0 0], .int .i64 4]), .own, .b 0 0] [] (.new fun b29 => .ok (.code [0, 1, 1, 1, 1]) [.seq [1, 1, 1, 1, 1]] [(1, .slice A2 n2 cap2), (8, .bool false), (9, .pointer (some ⟨b5, 0, none⟩)), (10, .pointer (some ⟨b10, 0, none⟩)), (11, .pointer (some ⟨b29, 0, none⟩)), (12, .int .i64 4)] [.box b29 [.int .i64 0, .int .i64 0, .int .i64 0, .string ⟨#[]⟩, .string ⟨#[]⟩, .slice none 0 0], .box b10 [.int .i64 y.op, .int .i64 y.k, .int .i64 y.n, .string y.s, .string y.nm, .slice (sA u') (sN u') (sC u')], .box b5 [.int .i64 x.op, .int .i64 x.k, .int .i64 x.n, .string x.s, .string x.nm, .slice (sA u) (sN u) (sC u)]] []) (And.intro (fun H sH => hPb _ _ _ (hx.sees (s7.trans (s9.trans sH))) (hy.sees sH)) (trivial)) trivial (fun b29 _ => by kernel_rfl) ?_
    clear hJ a w; intro b29 a w hJ
    let R : Reg := ⟨⟨80, h.w, h.bad, []⟩, [(0, 36, fun gh => .agg #[.int .i64 y.op, .int .i64 y.k, .int .i64 y.n, .string y.s, .string y.nm, .slice (sA u') (sN u') (sC u')]), (1, 37, fun gh => .slice A2 n2 cap2), (2, 38, fun gh => .slice (sA (gh 2)) (sN (gh 2)) (sC (gh 2))), (3, 39, fun gh => .tuple #[.agg #[.int .i64 vy.k, .int .i64 vy.n, .string vy.s], .int .i64 0]), (4, 35, fun gh => .tuple #[.agg #[.int .i64 vy.k, .int .i64 vy.n, .string vy.s], .int .i64 0]), (5, 40, fun gh => .agg #[.int .i64 vy.k, .int .i64 vy.n, .string vy.s]), (6, 41, fun gh => .int .i64 0), (7, 13, fun gh => .pointer (some ⟨(blkOf (gh 7)), 0, none⟩)), (9, 14, fun gh => .int .i64 0)], [(1, .slice A2 n2 cap2), (8, .bool false), (9, .pointer (some ⟨b5, 0, none⟩)), (10, .pointer (some ⟨b10, 0, none⟩)), (11, .pointer (some ⟨b29, 0, none⟩)), (12, .int .i64 4)], [⟨none, [(7, fun gh => .box (blkOf (gh 7)) [.int .i64 0, .int .i64 0, .string ⟨#[]⟩]), (8, fun gh => .box (blkOf (gh 7)) [.int .i64 vy.k, .int .i64 vy.n, .string vy.s])]⟩, ⟨some (.box b29 [.int .i64 0, .int .i64 0, .int .i64 0, .string ⟨#[]⟩, .string ⟨#[]⟩, .slice none 0 0]), []⟩, ⟨some (.box b10 [.int .i64 y.op, .int .i64 y.k, .int .i64 y.n, .string y.s, .string y.nm, .slice (sA u') (sN u') (sC u')]), []⟩, ⟨some (.box b5 [.int .i64 x.op, .int .i64 x.k, .int .i64 x.n, .string x.s, .string x.nm, .slice (sA u) (sN u) (sC u)]), []⟩], [(2, fun gh hh => RS hh 7 (.slice (sA (gh 2)) (sN (gh 2)) (sC (gh 2))) (fcRows env))], [[], [], [1], [0, 1, 2], [0, 1, 2, 3], [0, 1, 2, 3, 4], [0, 1, 2, 3, 4], [], [0, 1, 2, 3, 4, 5, 7], [0, 1, 2, 3, 4, 5, 6, 7, 8]], h8⟩
    have hmono : ∀ zq ∈ R.F, ∀ zx zh zi, Sees zh zi → zq.2 zx zh → zq.2 zx zi := mono_cons (fun _ _ _ s c => c.sees s) (mono_nil)
    refine x_region (by kernel_rfl) R hJ 10 [.ld 2 0, .pu, .cl, .cl, .pu, .pu, .pu, .al 0, .st 0 0, .pu] (by kernel_rfl) hmono (fun _ _ _ => by kernel_rfl) (fun hT hA => ?_) ?_
    · clear hJ
      refine And.intro (r_call hT hA hmono ⟨fun _ _ => by kernel_rfl, fun _ _ => by kernel_rfl, fun _ _ => by kernel_rfl⟩ 38 (fun u => .slice (sA u) (sN u) (sC u)) [1] 2 (by kernel_rfl) (by kernel_rfl) (fun _ => by kernel_rfl) 33 (fun gh => #[.slice A2 n2 cap2]) (fun _ _ => by kernel_rfl) (fun gh H sH fH lent => C0.facts (R := R) (x := gh) (i := 2) (n := 0) (F := (fun u => .slice (sA u) (sN u) (sC u))) (G := fun u hh => RS hh 7 (.slice (sA u) (sN u) (sC u)) (fcRows env)) (f := fun gh hh => RS hh 7 (.slice (sA (gh 2)) (sN (gh 2)) (sC (gh 2))) (fcRows env)) (hF _ (hm.sees (s2.trans (s4.trans (s7.trans (s9.trans sH)))))) (by kernel_rfl) (by kernel_rfl) (fun _ _ r => r))) ?_
      refine And.intro (r_callv hT hA hmono 39 (fun gh => .tuple #[.agg #[.int .i64 vy.k, .int .i64 vy.n, .string vy.s], .int .i64 0]) [0, 2] 3 (by kernel_rfl) (by kernel_rfl) (by kernel_rfl) (fun _ => by kernel_rfl) 29 (fun gh => #[.agg #[.int .i64 y.op, .int .i64 y.k, .int .i64 y.n, .string y.s, .string y.nm, .slice (sA u') (sN u') (sC u')], .slice (sA (gh 2)) (sN (gh 2)) (sC (gh 2))]) (fun _ _ => by kernel_rfl) (fun gh H sH fH lent => hVy _ _ _ (hy.sees sH) (fH 0 _ rfl (by kernel_rfl)))) ?_
      trivial
    clear hJ a w; intro gh h31 a w sR hJ1 hF; have s32 : Sees h8 h31 := sR; clear sR
    have hJ : K ⟨80, h.w, h.bad, []⟩ [(1, .slice A2 n2 cap2), (8, .bool false), (9, .pointer (some ⟨b5, 0, none⟩)), (11, .pointer (some ⟨b29, 0, none⟩)), (12, .int .i64 4), (13, .pointer (some ⟨(blkOf (gh 7)), 0, none⟩)), (14, .int .i64 0)] [.box (blkOf (gh 7)) [.int .i64 vy.k, .int .i64 vy.n, .string vy.s], .box b29 [.int .i64 0, .int .i64 0, .int .i64 0, .string ⟨#[]⟩, .string ⟨#[]⟩, .slice none 0 0], .box b10 [.int .i64 y.op, .int .i64 y.k, .int .i64 y.n, .string y.s, .string y.nm, .slice (sA u') (sN u') (sC u')], .box b5 [.int .i64 x.op, .int .i64 x.k, .int .i64 x.n, .string x.s, .string x.nm, .slice (sA u) (sN u) (sC u)]] [] h31 a w := hJ1.to (by kernel_rfl) (by kernel_rfl) rfl
    have f38 : RS h31 7 (.slice (sA (gh 2)) (sN (gh 2)) (sC (gh 2))) (fcRows env) := Reg.fact (i := 2) (f := fun gh hh => RS hh 7 (.slice (sA (gh 2)) (sN (gh 2)) (sC (gh 2))) (fcRows env)) hF 0 (by kernel_rfl)
    clear hJ1 hF hmono R
    generalize gh 2 = u38 at *
    generalize blkOf (gh 7) = b30 at *
    clear gh
    refine rx hJ false 31 [.b 0 0] [(47, .bool (vy.k == 0), .bool false)] (.ok (.out .ret) [] [(8, .bool true)] [.box b30 [.int .i64 vy.k, .int .i64 vy.n, .string vy.s], .box b29 [.int .i64 0, .int .i64 0, .int .i64 0, .string ⟨#[]⟩, .string ⟨#[]⟩, .slice none 0 0], .box b10 [.int .i64 y.op, .int .i64 y.k, .int .i64 y.n, .string y.s, .string y.nm, .slice (sA u') (sN u') (sC u')], .box b5 [.int .i64 x.op, .int .i64 x.k, .int .i64 x.n, .string x.s, .string x.nm, .slice (sA u) (sN u) (sC u)]] []) trivial (And.intro (congrArg Value.bool (beq_eq_false_iff_ne.2 (by omega))) (trivial)) (fun _ => by kernel_rfl) ?_
    clear hJ a w; intro a w hJ
    refine x_end (hQ [.bool true] _ [] hJ (.rtmp hJ.j (by kernel_rfl) .nil) (no_own _) rfl ?_).1
    exact rfl

theorem evalPut_walk (v : Value) (l : List RawD) (v' : Value) (m : List RawD) (v2 : Value) (k : List RawD) (kd : Int) (w : World) (h : RawsOf w v l) (h' : RawsOf w v' m) (h2 : RawsOf w v2 k) (k0 : -9223372036854775808 ≤ kd) (k1 : kd ≤ 9223372036854775807) :
    Calls Try.prog 13 #[v, v', v2, .int .i64 kd] w fun e w' => e = .returned (.bool true) ∧ Below w.heap.size w w' :=
  C0.law (evalPut_c l m k v v' v2 kd ⟨w, []⟩ h.rs h'.rs h2.rs h.2.1 h'.2.1 h2.2.1 h.2.2 h'.2.2 h2.2.2 k0 k1)

namespace evalPutLaw
open Go.ChangeShapes Go.WideShapes Go.ChangeAt Go.RowKit
open Go.ChangeMaps (open_string shut_string)
set_option linter.unusedVariables false

set_option maxRecDepth 100000 in
theorem lifted (os : Os) (started : os.Started) (H : Type) (enc : TypeId × Value → H) :
    ReturnsInHanded {} Try.checked os 13 .any (Rows.evalPutSpec.pre6 enc Try.prog Try.f13 Rows.evalPutRow.domain false) (Rows.evalPutSpec.post enc Try.prog Try.f13 false true false false) := by
  refine returnsInHanded_of_change_sized (C := Try.checked) ownNone started (by kernel_rfl) Try.func13
    (ChangeSpec.witness6 (enc := enc) (C := Try.checked) false ⟨#[], #[.slice none 0 0, .slice none 0 0, .slice none 0 0, .int .i64 0], []⟩ 8 (by kernel_rfl) (by kernel_rfl) (by kernel_rfl) (by kernel_rfl)) ?_
  intro W base args ds gs before hval0 hW hcnd hsz0 _
  have hval : ∀ (j : Nat) t v, Try.f13.params[j]? = some t → args[j]? = some v → Value.okWide Try.prog W .any base t v := hval0
  have hsz : (DataW.weightsEach Try.prog (Try.f13.params.toList ++ Rows.evalPutSpec.plain.varTypes Try.prog) (ds ++ gs)).all (· ≤ reachBytes) = true := hsz0
  have hW' := hW
  obtain ⟨p, q, hA0, hV, rfl, hfz, hnd⟩ := hW
  have hA : DataW.TrodAll enc Try.prog W 0 (fun _ => true) true Try.f13.params.toList args.toList ds p := hA0
  rw [Try.params13] at hA hval hsz
  obtain ⟨v0, vs0, d0, ds0, p0, q0, hargs, rfl, rfl, h0, r0⟩ := trodAll_cons hA
  obtain ⟨v1, vs1, d1, ds1, p1, q1, rfl, rfl, rfl, h1, r1⟩ := trodAll_cons r0
  obtain ⟨v2, vs2, d2, ds2, p2, q2, rfl, rfl, rfl, h2, r2⟩ := trodAll_cons r1
  obtain ⟨v3, vs3, d3, ds3, p3, q3, rfl, rfl, rfl, h3, r3⟩ := trodAll_cons r2
  obtain ⟨rfl, rfl, rfl⟩ := trodAll_nil r3
  obtain rfl : args = #[v0, v1, v2, v3] := by cases args; simp_all
  obtain ⟨rfl, rfl⟩ := trodVars_none hV
  have k0 := h0
  have lt0 : ∀ x ∈ p0, x.block < W.heap.size := by obtain ⟨m, hm⟩ := k0; exact DataW.trod_lt m _ _ _ hm
  obtain ⟨a0, w0⟩ := open_rows (hval 0 35 v0 rfl rfl) h0 (fun es ss hd => sized_slice hsz (j := 0) (t := 35) (elems := es) (spare := ss) rfl (by rw [hd]; rfl) Try.underlying35)
  have k1 := h1
  have lt1 : ∀ x ∈ p1, x.block < W.heap.size := by obtain ⟨m, hm⟩ := k1; exact DataW.trod_lt m _ _ _ hm
  obtain ⟨a1, w1⟩ := open_rows (hval 1 35 v1 rfl rfl) h1 (fun es ss hd => sized_slice hsz (j := 1) (t := 35) (elems := es) (spare := ss) rfl (by rw [hd]; rfl) Try.underlying35)
  have k2 := h2
  have lt2 : ∀ x ∈ p2, x.block < W.heap.size := by obtain ⟨m, hm⟩ := k2; exact DataW.trod_lt m _ _ _ hm
  obtain ⟨a2, w2⟩ := open_rows (hval 2 35 v2 rfl rfl) h2 (fun es ss hd => sized_slice hsz (j := 2) (t := 35) (elems := es) (spare := ss) rfl (by rw [hd]; rfl) Try.underlying35)
  have k3 := h3
  have lt3 : ∀ x ∈ p3, x.block < W.heap.size := by obtain ⟨m, hm⟩ := k3; exact DataW.trod_lt m _ _ _ hm
  obtain ⟨a3, rfl, -, -, w3⟩ := open_int Try.underlying3 (hval 3 3 v3 rfl rfl) h3
  clear hA0 hval0 hsz0
  refine (evalPut_walk v0 a0 v1 a1 v2 a2 a3 W w0 w1 w2 (int_lo w3) (int_hi w3)).mono fun e W' ⟨he, bel⟩ => ?_
  subst he
  exact ⟨_, rfl, _, _, _, [], _, [], hW', trodAll_mk1 (shut_bool Try.underlying4 _), (trodAll_cons_mk (Below.trod laidOutTrue (by kernel_rfl) (of_decide_eq_true (by kernel_rfl)) k0 bel lt0) (trodAll_cons_mk (Below.trod laidOutTrue (by kernel_rfl) (of_decide_eq_true (by kernel_rfl)) k1 bel lt1) (trodAll_cons_mk (Below.trod laidOutTrue (by kernel_rfl) (of_decide_eq_true (by kernel_rfl)) k2 bel lt2) (trodAll_cons_mk (Below.trod laidOutTrue (by kernel_rfl) (of_decide_eq_true (by kernel_rfl)) k3 bel lt3) trodAll_mk0)))), rfl, bel.frame _, fun h => by cases h⟩

theorem over : Rows.evalPutRow.holds Try.pinned (OpenSpec.ofChange Rows.evalPutSpec) :=
  OpenClaim.holds_of_wide 13 Try.f13 rfl rfl rfl rfl rfl rfl rfl ⟨rfl, rfl, rfl, rfl, rfl⟩ rfl rfl rfl rfl rfl (by kernel_rfl) Try.func13 (by kernel_rfl)
    (of_decide_eq_true (by kernel_rfl)) (by unfold Func.isWrapper; first | (rw [if_pos (by decide +kernel)]; kernel_rfl) | (rw [if_neg (by decide +kernel)]; exact ⟨rfl, rfl⟩))
    (fun os started H enc _ => lifted os started H enc)

end evalPutLaw
theorem evalPut_holds : Rows.EvalPutSaid := evalPutLaw.over
#print axioms evalPut_holds
end Go.Proofs.Yteolcggpflnpoaa
