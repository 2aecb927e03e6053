/-
  For all raw things and numbers EvalGrows returns true.
-/
import Derived.Test.YteolcggpflnpoaaEvG
import Derived.Test.YteolcggpflnpoaaEvL
import Derived.Test.YteolcggpflnpoaaClF
namespace Go.Proofs.Yteolcggpflnpoaa
open Go.RowKit

abbrev pendV : Vl := ⟨4, 0, ⟨#[]⟩⟩
/-- One fact that is not known yet: each field is as it was, or it grows. -/
theorem grows_set : ∀ (l : Env) (j : Nat) (p : ByteArray × Vl), l[j]? = some p → ∀ s, (Env.get (l.set j (p.1, pendV)) s = none ∧ Env.get l s = none) ∨ ∃ w v, Env.get (l.set j (p.1, pendV)) s = some w ∧ Env.get l s = some v ∧ Grows w v
  | [], j, p, h, _ => by simp at h
  | (k, u) :: l, 0, p, h, s => by
    simp only [List.getElem?_cons_zero, Option.some.injEq] at h
    subst h
    rw [List.set_cons_zero]
    unfold Env.get
    by_cases e : (s == k) = true
    · rw [if_pos e, if_pos e]; exact .inr ⟨_, _, rfl, rfl, .inl rfl⟩
    · rw [if_neg e, if_neg e]
      cases hg : Env.get l s with
      | none => exact .inl ⟨rfl, rfl⟩
      | some v => exact .inr ⟨v, v, rfl, rfl, .rfl' v⟩
  | (k, u) :: l, j + 1, p, h, s => by
    simp only [List.getElem?_cons_succ] at h
    rw [List.set_cons_succ]
    unfold Env.get
    by_cases e : (s == k) = true
    · rw [if_pos e, if_pos e]; exact .inr ⟨u, u, rfl, rfl, .rfl' u⟩
    · rw [if_neg e, if_neg e]
      exact grows_set l j p h s
theorem fcRows_set (l : Env) (k : Nat) (p : ByteArray × Vl) : fcRows (l.set k p) = (fcRows l).set k (fcRow p) := List.map_set
abbrev oneP : Env := [(⟨#[110]⟩, pendV)]
theorem oneP_ok : NameOk (⟨#[110]⟩ : ByteArray).data.toList := ⟨by decide, by decide, ⟨_, rfl, by decide⟩, by decide, by decide⟩
theorem oneP_row {H : Vw} {b : Nat} (c : Cells H b 0 [.string ⟨#[110]⟩, .int .i64 0, .int .i64 0, .string ⟨#[]⟩, .int .i64 4, .int .i64 0, .string ⟨#[]⟩]) : RS H 7 (.slice (some ⟨b, 0, none⟩) 1 1) (fcRows oneP) :=
  rs_cells (k := 7) (fcRows oneP) (fun r hr => by simp at hr; subst hr; rfl) (by decide) c

set_option maxHeartbeats 4000000 in
set_option maxRecDepth 100000 in
theorem evalGrows_c (l m : List RawD) (sl sm : Value) (kd wh : Int) (h : Vw) (hl : RS h 4 sl (l.map RawD.cs)) (hm : RS h 4 sm (m.map RawD.cs)) (ll : l.length * 40 ≤ reachBytes) (lm : m.length * 40 ≤ reachBytes)
    (ol : ∀ r ∈ l, r.ok) (om : ∀ r ∈ m, r.ok) (k0 : -9223372036854775808 ≤ kd) (k1 : kd ≤ 9223372036854775807) (w0 : -9223372036854775808 ≤ wh) (w1 : wh ≤ 9223372036854775807) :
    C0 Try.prog 11 #[sl, sm, .int .i64 kd, .int .i64 wh] h (fun v _ => v = .bool true) := by
  have p0 := pickL_lo kd 3 (by omega)
  have p1 := pickL_hi kd 3 (by omega)
  have q0 := pickL_lo wh 5 (by omega)
  have q1 := pickL_hi wh 5 (by omega)
  have hpk := c_picked kd 3
  have hpw := fun H => c_picked wh 5 H w0 w1 (by omega) (by omega)
  obtain ⟨j, hj⟩ : ∃ j : Nat, pickL wh 5 = (j : Int) := ⟨(pickL wh 5).toNat, by omega⟩
  rw [hj] at hpw q1
  have hE := fun H v q g => expr_any l some5 ll ol (by decide) v g (1 + pickL kd 3) H q
  obtain ⟨xw, x1, x2⟩ := genE_ok l some5 some5_ok 3 (1 + pickL kd 3) 0 (by omega) (by omega)
  generalize (genE l some5 3 (1 + pickL kd 3) 0).1 = x at *
  have x1 : (szE x).1 ≤ 40 := x1
  have hFa := fun H q => lawFacts_any m sm H q lm om
  have oka := lawEnv_ok m
  have lna := lawEnv_len m
  generalize lawEnv m = fa at *
  have hCl := fun H v q => cloneF_own fa v H q (by omega) (by omega)
  rw [lna] at hCl
  obtain ⟨p, hp⟩ : ∃ p, fa[j]? = some p := ⟨_, List.getElem?_eq_getElem (by omega)⟩
  have hrow : (fcRows fa)[j]? = some (fcRow p) := by rw [List.getElem?_map, hp]; rfl
  have hgr : Grows (evalE (fa.set j (p.1, pendV)) x) (evalE fa x) := eval_grows (grows_set fa j p hp) xw
  have hVa := fun H v A c q1 q2 => eval_any x v fa (.slice A 5 c) H q1 xw (by omega) (by omega) q2 oka (by omega)
  have hVb := fun H v A c q1 q2 => eval_any x v (fa.set j (p.1, pendV)) (.slice A 5 c) H q1 xw (by omega) (by omega) q2 (fun r hr => by
    rcases List.mem_or_eq_of_mem_set hr with hr | rfl
    · exact oka r hr
    · exact .inr (.inl rfl)) (by rw [List.length_set]; omega)
  have hst : fcRows (fa.set j (p.1, pendV)) = (fcRows fa).set j [.string p.1, .int .i64 0, .int .i64 0, .string ⟨#[]⟩, .int .i64 4, .int .i64 0, .string ⟨#[]⟩] := fcRows_set fa j _
  rw [hst] at hVb
  obtain ⟨ow, oz⟩ := wf_ref oneP_ok
  have hV1 := fun H A c q2 => eval_any (refE ⟨#[110]⟩) (.slice none 0 0) oneP (.slice A 1 c) H (args_nil _ _ rfl) ow (by rw [oz]; decide) (by rw [oz]; decide) q2 (fun p hp => by rw [List.mem_singleton.1 hp]; exact .inr (.inl rfl)) (by decide)
  rw [show evalE oneP (refE ⟨#[110]⟩) = pendV from rfl] at hV1
  generalize evalE (fa.set j (p.1, pendV)) x = wv at *
  generalize evalE fa x = val at *
  obtain ⟨A1, cap1, rfl, -, -, -⟩ := hl.form
  obtain ⟨A2, cap2, rfl, -, -, -⟩ := hm.form
  rw [List.length_map] at *
  rw [List.length_map] at *
  generalize l.length = n1 at *
  generalize m.length = n2 at *
  refine x_con Try.func11 (c := Try.f11.body.getD .skip) (by kernel_rfl) (N := 91) rfl (by kernel_rfl) ?_
  intro hbx hbad Q hQ a w hJ
  replace hJ : K ⟨91, h.w, h.bad, []⟩ [(0, .slice A1 n1 cap1), (1, .slice A2 n2 cap2), (2, .int .i64 kd), (3, .int .i64 wh)] [] [] h a w := hJ.to (by kernel_rfl) (by kernel_rfl) rfl
  refine rx hJ false 11 [.cl 19 #[.int .i64 kd, .int .i64 3] (.int .i64 (pickL kd 3))] [(21, .int .i64 (IntKind.i64.wrap (1 + (pickL kd 3))), .int .i64 (1 + (pickL kd 3)))] (.ok (.ops [0, 1] 4) [.seq [1, 1]] [(1, .slice A2 n2 cap2), (3, .int .i64 wh), (8, .bool false), (18, .slice A1 n1 cap1), (21, .int .i64 (1 + (pickL kd 3)))] [] []) (And.intro (fun H sH => hpk _ k0 k1 (by omega) (by omega)) (trivial)) (And.intro (i64_wrap (by omega) (by omega)) (trivial)) (fun _ => by kernel_rfl) ?_
  clear hJ a w; intro a w hJ
  refine x_call hJ 22 (some_any _) (fun _ => by kernel_rfl) ?_; clear hJ a w; rintro _ h1 a w s2 ⟨hfs, bs, rfl⟩ hJ
  refine x_call hJ 23 (hE _ _ (hl.sees (s2.trans hJ.j.sees)) _ (hfs.sees hJ.j.sees) (by omega) (by omega)) (fun _ => by kernel_rfl) ?_; clear hJ a w; rintro _ h3 a w s4 ⟨u, rfl, hx⟩ hJ
  refine rx hJ false 7 [.own, .b 0 0] [] (.new fun b5 => .ok (.ops [0, 1, 1] 1) [.seq [1, 1, 1]] [(3, .int .i64 wh), (8, .bool false), (9, .pointer (some ⟨b5, 0, none⟩)), (24, .slice A2 n2 cap2)] [.box b5 [.int .i64 x.op, .int .i64 x.k, .int .i64 x.n, .string x.s, .string x.nm, .slice (sA u) (sN u) (sC u)]] []) trivial trivial (fun b5 _ => by kernel_rfl) ?_
  clear hJ a w; intro b5 a w hJ
  refine x_call hJ 25 (hFa _ (hm.sees (s2.trans (s4.trans hJ.j.sees)))) (fun _ => by kernel_rfl) ?_; clear hJ a w; rintro _ h6 a w s7 ⟨Aa, ca, rfl, hra⟩ hJ
  refine rx hJ false 6 [] [] (.ok (.ops [0, 1, 1, 1] 1) [.seq [1, 1, 1, 1]] [(3, .int .i64 wh), (8, .bool false), (9, .pointer (some ⟨b5, 0, none⟩)), (10, .slice Aa 5 ca), (26, .slice Aa 5 ca)] [.box b5 [.int .i64 x.op, .int .i64 x.k, .int .i64 x.n, .string x.s, .string x.nm, .slice (sA u) (sN u) (sC u)]] []) trivial trivial (fun _ => by kernel_rfl) ?_
  clear hJ a w; intro a w hJ
  refine x_callrow hJ 27 (hCl _ _ (hra.sees hJ.j.sees)) (fun _ => by kernel_rfl) ?_; clear hJ a w; rintro _ _ a w ⟨gb, cb, rfl, rfl⟩ hJ
  refine rx hJ false 13 [.cl 19 #[.int .i64 wh, .int .i64 5] (.int .i64 (j : Int)), .ix gb 0 5 cb j] [] (.ok (.ops [0, 1, 1, 1, 1] 8) [.seq [1, 1, 1, 1, 1]] [(8, .bool false), (9, .pointer (some ⟨b5, 0, none⟩)), (10, .slice Aa 5 ca), (11, .slice (some ⟨gb, 0, none⟩) 5 cb), (33, .agg #[.int .i64 4, .int .i64 0, .string ⟨#[]⟩]), (35, .pointer (some ⟨gb, 0 + j * 7 + 4, none⟩))] [.row (.slice (some ⟨gb, 0, none⟩) 5 cb) 64 7 (fcRows fa), .box b5 [.int .i64 x.op, .int .i64 x.k, .int .i64 x.n, .string x.s, .string x.nm, .slice (sA u) (sN u) (sC u)]] []) (And.intro (fun H sH => hpw _) (And.intro (by first | omega | (simp; omega)) (trivial))) trivial (fun _ => by kernel_rfl) ?_
  clear hJ a w; intro a w hJ
  refine x_rowset hJ 0 j 4 (g := gb) (m := 5) (cap := cb) (kk := 7) (e := 64) (l := fcRows fa) (r := [.string p.1, .int .i64 0, .int .i64 0, .string ⟨#[]⟩, .int .i64 p.2.k, .int .i64 p.2.n, .string p.2.s]) (t := 28) (x := (.tmp 35)) (y := (.tmp 33)) (u := .agg #[.int .i64 4, .int .i64 0, .string ⟨#[]⟩]) (by kernel_rfl) (by kernel_rfl) (by kernel_rfl) (by kernel_rfl) (by kernel_rfl) (hrow) (by kernel_rfl) ?_; clear hJ a w; intro a w hJ
  replace hJ : K ⟨91, h.w, h.bad, []⟩ [(8, .bool false), (9, .pointer (some ⟨b5, 0, none⟩)), (10, .slice Aa 5 ca), (11, .slice (some ⟨gb, 0, none⟩) 5 cb), (33, .agg #[.int .i64 4, .int .i64 0, .string ⟨#[]⟩]), (35, .pointer (some ⟨gb, 0 + j * 7 + 4, none⟩))] [.row (.slice (some ⟨gb, 0, none⟩) 5 cb) 64 7 ((fcRows fa).set j [.string p.1, .int .i64 0, .int .i64 0, .string ⟨#[]⟩, .int .i64 4, .int .i64 0, .string ⟨#[]⟩]), .box b5 [.int .i64 x.op, .int .i64 x.k, .int .i64 x.n, .string x.s, .string x.nm, .slice (sA u) (sN u) (sC u)]] [] h6 a w := hJ.to (by kernel_rfl) (by kernel_rfl) rfl
  refine rx hJ false 6 [.b 1 0] [] (.ok (.ops [0, 1, 1, 1, 1, 1] 2) [.seq [1, 1, 1, 1, 1, 1]] [(8, .bool false), (9, .pointer (some ⟨b5, 0, none⟩)), (11, .slice (some ⟨gb, 0, none⟩) 5 cb), (37, .agg #[.int .i64 x.op, .int .i64 x.k, .int .i64 x.n, .string x.s, .string x.nm, .slice (sA u) (sN u) (sC u)]), (38, .slice Aa 5 ca)] [.row (.slice (some ⟨gb, 0, none⟩) 5 cb) 64 7 ((fcRows fa).set j [.string p.1, .int .i64 0, .int .i64 0, .string ⟨#[]⟩, .int .i64 4, .int .i64 0, .string ⟨#[]⟩]), .box b5 [.int .i64 x.op, .int .i64 x.k, .int .i64 x.n, .string x.s, .string x.nm, .slice (sA u) (sN u) (sC u)]] []) trivial trivial (fun _ => by kernel_rfl) ?_
  clear hJ a w; intro a w hJ
  obtain ⟨h8, s9, frb, hJn⟩ := hJ.frozen (v := .slice (some ⟨gb, 0, none⟩) 5 cb) (e := 64) (k := 7) (l := (fcRows fa).set j [.string p.1, .int .i64 0, .int .i64 0, .string ⟨#[]⟩, .int .i64 4, .int .i64 0, .string ⟨#[]⟩]) 0 (by kernel_rfl) (hJ.j.rowOut0 (v := .slice (some ⟨gb, 0, none⟩) 5 cb) (e := 64) (k := 7) (l := (fcRows fa).set j [.string p.1, .int .i64 0, .int .i64 0, .string ⟨#[]⟩, .int .i64 4, .int .i64 0, .string ⟨#[]⟩]) 0 (by kernel_rfl) rfl); clear hJ; have hJ := hJn; clear hJn
  refine rx hJ true 28 [.cl 29 #[.agg #[.int .i64 x.op, .int .i64 x.k, .int .i64 x.n, .string x.s, .string x.nm, .slice (sA u) (sN u) (sC u)], .slice Aa 5 ca] (.tuple #[.agg #[.int .i64 val.k, .int .i64 val.n, .string val.s], .int .i64 0]), .own, .b 0 0, .b 1 0, .cl 29 #[.agg #[.int .i64 x.op, .int .i64 x.k, .int .i64 x.n, .string x.s, .string x.nm, .slice (sA u) (sN u) (sC u)], .slice (some ⟨gb, 0, none⟩) 5 cb] (.tuple #[.agg #[.int .i64 wv.k, .int .i64 wv.n, .string wv.s], .int .i64 0]), .own, .b 0 0, .fix] [] (.new fun b10 => .new fun b11 => .new fun bv52 => .ok (.ops [0, 1, 1, 1, 1, 1, 1, 1] 4) [.seq [1, 1, 1, 1, 1, 1, 1, 1]] [(8, .bool false), (12, .pointer (some ⟨b10, 0, none⟩)), (13, .int .i64 0), (14, .pointer (some ⟨b11, 0, none⟩)), (15, .int .i64 0), (49, .agg #[.int .i64 2, .int .i64 0, .int .i64 0, .string ⟨#[]⟩, .string ⟨#[110]⟩, .slice none 0 0]), (52, .slice (some ⟨bv52, 0, none⟩) 1 1)] [.box b11 [.int .i64 wv.k, .int .i64 wv.n, .string wv.s], .box b10 [.int .i64 val.k, .int .i64 val.n, .string val.s], .box b5 [.int .i64 x.op, .int .i64 x.k, .int .i64 x.n, .string x.s, .string x.nm, .slice (sA u) (sN u) (sC u)]] [(bv52, 0, [.string ⟨#[110]⟩, .int .i64 0, .int .i64 0, .string ⟨#[]⟩, .int .i64 4, .int .i64 0, .string ⟨#[]⟩])]) (And.intro (fun H sH => hVa _ _ _ _ (hx.sees (s7.trans (s9.trans sH))) (hra.sees (s9.trans sH))) (And.intro (fun H sH => hVb _ _ _ _ (hx.sees (s7.trans (s9.trans sH))) (frb.sees sH)) (trivial))) trivial (fun b10 b11 bv52 _ => by kernel_rfl) ?_
  clear hJ a w; intro b10 b11 bv52 h12 a w s13 hJ
  have v52 : Cells h12 bv52 0 [.string ⟨#[110]⟩, .int .i64 0, .int .i64 0, .string ⟨#[]⟩, .int .i64 4, .int .i64 0, .string ⟨#[]⟩] := hJ.f _ (List.mem_of_getElem? (i := 0) rfl)
  refine x_call hJ 53 (hV1 _ _ _ (oneP_row (v52.sees hJ.j.sees))) (fun _ => by kernel_rfl) ?_; clear hJ a w; rintro _ h14 a w s15 rfl hJ
  refine rx hJ false 30 [.own, .b 0 0, .b 0 0, .b 1 0] [] (.new fun b16 => .ok (.ops [0, 1, 1, 1, 1, 1, 1, 1, 1] 20) [.seq [1, 1, 1, 1, 1, 1, 1, 1, 1]] [(8, .bool false), (12, .pointer (some ⟨b10, 0, none⟩)), (14, .pointer (some ⟨b11, 0, none⟩)), (71, .bool true), (75, .bool (wv.k == 4))] [.box b16 [.int .i64 4, .int .i64 0, .string ⟨#[]⟩], .box b11 [.int .i64 wv.k, .int .i64 wv.n, .string wv.s], .box b10 [.int .i64 val.k, .int .i64 val.n, .string val.s], .box b5 [.int .i64 x.op, .int .i64 x.k, .int .i64 x.n, .string x.s, .string x.nm, .slice (sA u) (sN u) (sC u)]] [(bv52, 0, [.string ⟨#[110]⟩, .int .i64 0, .int .i64 0, .string ⟨#[]⟩, .int .i64 4, .int .i64 0, .string ⟨#[]⟩])]) trivial trivial (fun b16 _ => by kernel_rfl) ?_
  clear hJ a w; intro b16 a w hJ
  by_cases h4 : wv.k = 4
  · replace hJ := hJ.rew 75 (v := .bool (wv.k == 4)) (v' := .bool true) (congrArg Value.bool (beq_iff_eq.2 h4)) (by kernel_rfl)
    replace hJ : K ⟨91, h.w, h.bad, []⟩ [(8, .bool false), (12, .pointer (some ⟨b10, 0, none⟩)), (14, .pointer (some ⟨b11, 0, none⟩)), (71, .bool true), (75, .bool true)] [.box b16 [.int .i64 4, .int .i64 0, .string ⟨#[]⟩], .box b11 [.int .i64 wv.k, .int .i64 wv.n, .string wv.s], .box b10 [.int .i64 val.k, .int .i64 val.n, .string val.s], .box b5 [.int .i64 x.op, .int .i64 x.k, .int .i64 x.n, .string x.s, .string x.nm, .slice (sA u) (sN u) (sC u)]] [(bv52, 0, [.string ⟨#[110]⟩, .int .i64 0, .int .i64 0, .string ⟨#[]⟩, .int .i64 4, .int .i64 0, .string ⟨#[]⟩])] h14 a w := hJ.to (by kernel_rfl) rfl rfl
    refine rx hJ false 19 [] [] (.ok (.out .ret) [] [(8, .bool true)] [.box b16 [.int .i64 4, .int .i64 0, .string ⟨#[]⟩], .box b11 [.int .i64 wv.k, .int .i64 wv.n, .string wv.s], .box b10 [.int .i64 val.k, .int .i64 val.n, .string val.s], .box b5 [.int .i64 x.op, .int .i64 x.k, .int .i64 x.n, .string x.s, .string x.nm, .slice (sA u) (sN u) (sC u)]] [(bv52, 0, [.string ⟨#[110]⟩, .int .i64 0, .int .i64 0, .string ⟨#[]⟩, .int .i64 4, .int .i64 0, .string ⟨#[]⟩])]) trivial trivial (fun _ => by kernel_rfl) ?_
    clear hJ a w; intro a w hJ
    refine x_end (hQ [.bool true] _ [] hJ (.rtmp hJ.j (by kernel_rfl) .nil) (no_own _) rfl ?_).1
    exact rfl
  · skip
    replace hJ := hJ.rew 75 (v := .bool (wv.k == 4)) (v' := .bool false) (congrArg Value.bool (beq_eq_false_iff_ne.2 h4)) (by kernel_rfl)
    replace hJ : K ⟨91, h.w, h.bad, []⟩ [(8, .bool false), (12, .pointer (some ⟨b10, 0, none⟩)), (14, .pointer (some ⟨b11, 0, none⟩)), (71, .bool true), (75, .bool false)] [.box b16 [.int .i64 4, .int .i64 0, .string ⟨#[]⟩], .box b11 [.int .i64 wv.k, .int .i64 wv.n, .string wv.s], .box b10 [.int .i64 val.k, .int .i64 val.n, .string val.s], .box b5 [.int .i64 x.op, .int .i64 x.k, .int .i64 x.n, .string x.s, .string x.nm, .slice (sA u) (sN u) (sC u)]] [(bv52, 0, [.string ⟨#[110]⟩, .int .i64 0, .int .i64 0, .string ⟨#[]⟩, .int .i64 4, .int .i64 0, .string ⟨#[]⟩])] h14 a w := hJ.to (by kernel_rfl) rfl rfl
    by_cases he : val = wv
    · skip
      refine rx hJ false 2 [.b 2 0, .b 1 0] [] (.ok (.ops [0, 1, 1, 1, 1, 1, 1, 1, 1] 22) [.seq [1, 1, 1, 1, 1, 1, 1, 1, 1]] [(8, .bool false), (12, .pointer (some ⟨b10, 0, none⟩)), (14, .pointer (some ⟨b11, 0, none⟩)), (71, .bool true), (75, .bool false), (76, .agg #[.int .i64 val.k, .int .i64 val.n, .string val.s]), (77, .agg #[.int .i64 wv.k, .int .i64 wv.n, .string wv.s])] [.box b16 [.int .i64 4, .int .i64 0, .string ⟨#[]⟩], .box b11 [.int .i64 wv.k, .int .i64 wv.n, .string wv.s], .box b10 [.int .i64 val.k, .int .i64 val.n, .string val.s], .box b5 [.int .i64 x.op, .int .i64 x.k, .int .i64 x.n, .string x.s, .string x.nm, .slice (sA u) (sN u) (sC u)]] [(bv52, 0, [.string ⟨#[110]⟩, .int .i64 0, .int .i64 0, .string ⟨#[]⟩, .int .i64 4, .int .i64 0, .string ⟨#[]⟩])]) trivial trivial (fun _ => by kernel_rfl) ?_
      clear hJ a w; intro a w hJ
      refine x_pure hJ 78 (.bool true) (by kernel_rfl) (fun w => run_eqop (x := (.tmp 76)) (y := (.tmp 77)) (v := val) (w := wv) (by kernel_rfl) (by kernel_rfl) (by kernel_rfl) (eqB_iff.2 he)) ?_; clear hJ a w; intro a w hJ
      refine rx hJ false 16 [] [] (.ok (.out .ret) [] [(8, .bool true)] [.box b16 [.int .i64 4, .int .i64 0, .string ⟨#[]⟩], .box b11 [.int .i64 wv.k, .int .i64 wv.n, .string wv.s], .box b10 [.int .i64 val.k, .int .i64 val.n, .string val.s], .box b5 [.int .i64 x.op, .int .i64 x.k, .int .i64 x.n, .string x.s, .string x.nm, .slice (sA u) (sN u) (sC u)]] [(bv52, 0, [.string ⟨#[110]⟩, .int .i64 0, .int .i64 0, .string ⟨#[]⟩, .int .i64 4, .int .i64 0, .string ⟨#[]⟩])]) trivial trivial (fun _ => by kernel_rfl) ?_
      clear hJ a w; intro a w hJ
      refine x_end (hQ [.bool true] _ [] hJ (.rtmp hJ.j (by kernel_rfl) .nil) (no_own _) rfl ?_).1
      exact rfl
    · skip
      have hb : eqB val wv = false := by
        cases g : eqB val wv with
        | false => rfl
        | true => exact absurd (eqB_iff.1 g) he
      have h5 : val.k = 5 ∧ wv.k = 5 := by
        rcases hgr with g | g | g
        · exact absurd g h4
        · exact absurd g he
        · exact g
      refine rx hJ false 2 [.b 2 0, .b 1 0] [] (.ok (.ops [0, 1, 1, 1, 1, 1, 1, 1, 1] 22) [.seq [1, 1, 1, 1, 1, 1, 1, 1, 1]] [(8, .bool false), (12, .pointer (some ⟨b10, 0, none⟩)), (14, .pointer (some ⟨b11, 0, none⟩)), (71, .bool true), (75, .bool false), (76, .agg #[.int .i64 val.k, .int .i64 val.n, .string val.s]), (77, .agg #[.int .i64 wv.k, .int .i64 wv.n, .string wv.s])] [.box b16 [.int .i64 4, .int .i64 0, .string ⟨#[]⟩], .box b11 [.int .i64 wv.k, .int .i64 wv.n, .string wv.s], .box b10 [.int .i64 val.k, .int .i64 val.n, .string val.s], .box b5 [.int .i64 x.op, .int .i64 x.k, .int .i64 x.n, .string x.s, .string x.nm, .slice (sA u) (sN u) (sC u)]] [(bv52, 0, [.string ⟨#[110]⟩, .int .i64 0, .int .i64 0, .string ⟨#[]⟩, .int .i64 4, .int .i64 0, .string ⟨#[]⟩])]) trivial trivial (fun _ => by kernel_rfl) ?_
      clear hJ a w; intro a w hJ
      refine x_pure hJ 78 (.bool false) (by kernel_rfl) (fun w => run_eqop (x := (.tmp 76)) (y := (.tmp 77)) (v := val) (w := wv) (by kernel_rfl) (by kernel_rfl) (by kernel_rfl) (hb)) ?_; clear hJ a w; intro a w hJ
      refine rx hJ false 16 [.b 2 0, .b 1 0] [(83, .bool (val.k == 5), .bool true), (87, .bool (wv.k == 5), .bool true)] (.ok (.out .ret) [] [(8, .bool true)] [.box b16 [.int .i64 4, .int .i64 0, .string ⟨#[]⟩], .box b11 [.int .i64 wv.k, .int .i64 wv.n, .string wv.s], .box b10 [.int .i64 val.k, .int .i64 val.n, .string val.s], .box b5 [.int .i64 x.op, .int .i64 x.k, .int .i64 x.n, .string x.s, .string x.nm, .slice (sA u) (sN u) (sC u)]] [(bv52, 0, [.string ⟨#[110]⟩, .int .i64 0, .int .i64 0, .string ⟨#[]⟩, .int .i64 4, .int .i64 0, .string ⟨#[]⟩])]) trivial (And.intro (congrArg Value.bool (beq_iff_eq.2 h5.1)) (And.intro (congrArg Value.bool (beq_iff_eq.2 h5.2)) (trivial))) (fun _ => by kernel_rfl) ?_
      clear hJ a w; intro a w hJ
      refine x_end (hQ [.bool true] _ [] hJ (.rtmp hJ.j (by kernel_rfl) .nil) (no_own _) rfl ?_).1
      exact rfl

theorem evalGrows_walk (v : Value) (l : List RawD) (v' : Value) (m : List RawD) (kd wh : Int) (w : World) (h : RawsOf w v l) (h' : RawsOf w v' m) (k0 : -9223372036854775808 ≤ kd) (k1 : kd ≤ 9223372036854775807) (w0 : -9223372036854775808 ≤ wh) (w1 : wh ≤ 9223372036854775807) :
    Calls Try.prog 11 #[v, v', .int .i64 kd, .int .i64 wh] w fun e w' => e = .returned (.bool true) ∧ Below w.heap.size w w' :=
  C0.law (evalGrows_c l m v v' kd wh ⟨w, []⟩ h.rs h'.rs h.2.1 h'.2.1 h.2.2 h'.2.2 k0 k1 w0 w1)

namespace evalGrowsLaw
open Go.ChangeShapes Go.WideShapes Go.ChangeAt Go.RowKit
open Go.ChangeMaps (open_string shut_string)
set_option linter.unusedVariables false

set_option maxRecDepth 100000 in
theorem lifted (os : Os) (started : os.Started) (H : Type) (enc : TypeId × Value → H) :
    ReturnsInHanded {} Try.checked os 11 .any (Rows.evalGrowsSpec.pre6 enc Try.prog Try.f11 Rows.evalGrowsRow.domain false) (Rows.evalGrowsSpec.post enc Try.prog Try.f11 false true false false) := by
  refine returnsInHanded_of_change_sized (C := Try.checked) ownNone started (by kernel_rfl) Try.func11
    (ChangeSpec.witness6 (enc := enc) (C := Try.checked) false ⟨#[], #[.slice none 0 0, .slice none 0 0, .int .i64 0, .int .i64 0], []⟩ 8 (by kernel_rfl) (by kernel_rfl) (by kernel_rfl) (by kernel_rfl)) ?_
  intro W base args ds gs before hval0 hW hcnd hsz0 _
  have hval : ∀ (j : Nat) t v, Try.f11.params[j]? = some t → args[j]? = some v → Value.okWide Try.prog W .any base t v := hval0
  have hsz : (DataW.weightsEach Try.prog (Try.f11.params.toList ++ Rows.evalGrowsSpec.plain.varTypes Try.prog) (ds ++ gs)).all (· ≤ reachBytes) = true := hsz0
  have hW' := hW
  obtain ⟨p, q, hA0, hV, rfl, hfz, hnd⟩ := hW
  have hA : DataW.TrodAll enc Try.prog W 0 (fun _ => true) true Try.f11.params.toList args.toList ds p := hA0
  rw [Try.params11] at hA hval hsz
  obtain ⟨v0, vs0, d0, ds0, p0, q0, hargs, rfl, rfl, h0, r0⟩ := trodAll_cons hA
  obtain ⟨v1, vs1, d1, ds1, p1, q1, rfl, rfl, rfl, h1, r1⟩ := trodAll_cons r0
  obtain ⟨v2, vs2, d2, ds2, p2, q2, rfl, rfl, rfl, h2, r2⟩ := trodAll_cons r1
  obtain ⟨v3, vs3, d3, ds3, p3, q3, rfl, rfl, rfl, h3, r3⟩ := trodAll_cons r2
  obtain ⟨rfl, rfl, rfl⟩ := trodAll_nil r3
  obtain rfl : args = #[v0, v1, v2, v3] := by cases args; simp_all
  obtain ⟨rfl, rfl⟩ := trodVars_none hV
  have k0 := h0
  have lt0 : ∀ x ∈ p0, x.block < W.heap.size := by obtain ⟨m, hm⟩ := k0; exact DataW.trod_lt m _ _ _ hm
  obtain ⟨a0, w0⟩ := open_rows (hval 0 35 v0 rfl rfl) h0 (fun es ss hd => sized_slice hsz (j := 0) (t := 35) (elems := es) (spare := ss) rfl (by rw [hd]; rfl) Try.underlying35)
  have k1 := h1
  have lt1 : ∀ x ∈ p1, x.block < W.heap.size := by obtain ⟨m, hm⟩ := k1; exact DataW.trod_lt m _ _ _ hm
  obtain ⟨a1, w1⟩ := open_rows (hval 1 35 v1 rfl rfl) h1 (fun es ss hd => sized_slice hsz (j := 1) (t := 35) (elems := es) (spare := ss) rfl (by rw [hd]; rfl) Try.underlying35)
  have k2 := h2
  have lt2 : ∀ x ∈ p2, x.block < W.heap.size := by obtain ⟨m, hm⟩ := k2; exact DataW.trod_lt m _ _ _ hm
  obtain ⟨a2, rfl, -, -, w2⟩ := open_int Try.underlying3 (hval 2 3 v2 rfl rfl) h2
  have k3 := h3
  have lt3 : ∀ x ∈ p3, x.block < W.heap.size := by obtain ⟨m, hm⟩ := k3; exact DataW.trod_lt m _ _ _ hm
  obtain ⟨a3, rfl, -, -, w3⟩ := open_int Try.underlying3 (hval 3 3 v3 rfl rfl) h3
  clear hA0 hval0 hsz0
  refine (evalGrows_walk v0 a0 v1 a1 a2 a3 W w0 w1 (int_lo w2) (int_hi w2) (int_lo w3) (int_hi w3)).mono fun e W' ⟨he, bel⟩ => ?_
  subst he
  exact ⟨_, rfl, _, _, _, [], _, [], hW', trodAll_mk1 (shut_bool Try.underlying4 _), (trodAll_cons_mk (Below.trod laidOutTrue (by kernel_rfl) (of_decide_eq_true (by kernel_rfl)) k0 bel lt0) (trodAll_cons_mk (Below.trod laidOutTrue (by kernel_rfl) (of_decide_eq_true (by kernel_rfl)) k1 bel lt1) (trodAll_cons_mk (Below.trod laidOutTrue (by kernel_rfl) (of_decide_eq_true (by kernel_rfl)) k2 bel lt2) (trodAll_cons_mk (Below.trod laidOutTrue (by kernel_rfl) (of_decide_eq_true (by kernel_rfl)) k3 bel lt3) trodAll_mk0)))), rfl, bel.frame _, fun h => by cases h⟩

theorem over : Rows.evalGrowsRow.holds Try.pinned (OpenSpec.ofChange Rows.evalGrowsSpec) :=
  OpenClaim.holds_of_wide 11 Try.f11 rfl rfl rfl rfl rfl rfl rfl ⟨rfl, rfl, rfl, rfl, rfl⟩ rfl rfl rfl rfl rfl (by kernel_rfl) Try.func11 (by kernel_rfl)
    (of_decide_eq_true (by kernel_rfl)) (by unfold Func.isWrapper; first | (rw [if_pos (by decide +kernel)]; kernel_rfl) | (rw [if_neg (by decide +kernel)]; exact ⟨rfl, rfl⟩))
    (fun os started H enc _ => lifted os started H enc)

end evalGrowsLaw
theorem evalGrows_holds : Rows.EvalGrowsSaid := evalGrowsLaw.over
#print axioms evalGrows_holds
end Go.Proofs.Yteolcggpflnpoaa
