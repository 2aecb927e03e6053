/-
  For all raw things and kinds FoldSame returns true.
-/
import Derived.Test.YtgjndkphfabnnaaFold
import Derived.Test.YtgjndkphfabnnaaLawX
import Derived.Test.YtgjndkphfabnnaaEqB
namespace Go.Proofs.Ytgjndkphfabnnaa
open Go.RowKit

abbrev pendV : Vl := ⟨4, 0, ⟨#[]⟩⟩
theorem fcRows_set (l : Env) (k : Nat) (p : ByteArray × Vl) : fcRows (l.set k p) = (fcRows l).set k (fcRow p) := List.map_set
theorem set_okv {l : Env} {k : Nat} {s : ByteArray} (h : ∀ p ∈ l, OkV p.2) : ∀ p ∈ l.set k (s, pendV), OkV p.2 := fun p hp => by
  rcases List.mem_or_eq_of_mem_set hp with q | rfl
  · exact h p q
  · exact .inr (.inl rfl)

set_option maxHeartbeats 2000000 in
set_option maxRecDepth 100000 in
theorem foldSame_c (l m : List RawD) (sl sm : Value) (kd wh : Int) (h : Vw) (hl : RS h 4 sl (l.map RawD.cs)) (hm : RS h 4 sm (m.map RawD.cs)) (ll : l.length * 40 ≤ reachBytes) (lm : m.length * 40 ≤ reachBytes)
    (ol : ∀ r ∈ l, r.ok) (om : ∀ r ∈ m, r.ok) (k0 : -9223372036854775808 ≤ kd) (k1 : kd ≤ 9223372036854775807) (w0 : -9223372036854775808 ≤ wh) (w1 : wh ≤ 9223372036854775807) :
    C0 Try.prog 7 #[sl, sm, .int .i64 kd, .int .i64 wh] h (fun v _ => v = .bool true) := by
  have p0 := pickL_lo kd 3 (by omega)
  have p1 := pickL_hi kd 3 (by omega)
  have hpk := c_picked kd 3
  have q0 := pickL_lo wh 10 (by omega)
  have q1 := pickL_hi wh 10 (by omega)
  have hqk := c_picked wh 10
  obtain ⟨k, hk⟩ : ∃ k : Nat, pickL wh 10 = (k : Int) := ⟨(pickL wh 10).toNat, by omega⟩
  rw [hk] at hqk q0 q1
  have hE := fun H v q g => expr_any l some5 ll ol (by decide) v g (1 + pickL kd 3) H q
  obtain ⟨xw, x1, x2⟩ := genE_ok l some5 some5_ok 3 (1 + pickL kd 3) 0 (by omega) (by omega)
  generalize (genE l some5 3 (1 + pickL kd 3) 0).1 = x at *
  have x1 : (szE x).1 ≤ 40 := x1
  have x2 : (szE x).2 ≤ 4 := x2
  have yw := wf_fold xw
  obtain ⟨y1, y2⟩ := sz_fold xw
  have hF := fun H v q => foldX_any x v H q xw (by omega) (by omega)
  have hFb := fun H q => lawFacts_own m sm H q lm om
  have okb := lawEnv_ok m
  have lnb := lawEnv_len m
  generalize lawEnv m = fb at *
  have hsame := fun env => ev_fold (env := env) xw
  have hEv := fun (env : Env) (he : ∀ p ∈ env, OkV p.2) => ok_kinds (ev_ok he xw)
  have hVx := fun H v env A c q1 q2 q3 (q4 : env.length = 5) => eval_any x v env (.slice A 5 c) H q1 xw (by omega) (by omega) q2 q3 (by omega)
  have hVy := fun H v env A c q1 q2 q3 (q4 : env.length = 5) => eval_any (foldE x) v env (.slice A 5 c) H q1 yw (by omega) (by omega) q2 q3 (by omega)
  simp only [hsame] at hVy
  generalize foldE x = y at *
  obtain ⟨A1, cap1, rfl, -, -, -⟩ := hl.form
  obtain ⟨A2, cap2, rfl, -, -, -⟩ := hm.form
  rw [List.length_map] at *
  rw [List.length_map] at *
  generalize l.length = n1 at *
  generalize m.length = n2 at *
  refine x_con Try.func7 (c := Try.f7.body.getD .skip) (by kernel_rfl) (N := 77) rfl (by kernel_rfl) ?_
  intro hbx hbad Q hQ a w hJ
  replace hJ : K ⟨77, h.w, h.bad, []⟩ [(0, .slice A1 n1 cap1), (1, .slice A2 n2 cap2), (2, .int .i64 kd), (3, .int .i64 wh)] [] [] h a w := hJ.to (by kernel_rfl) (by kernel_rfl) rfl
  refine rx hJ false 11 [.cl 16 #[.int .i64 kd, .int .i64 3] (.int .i64 (pickL kd 3))] [(21, .int .i64 (IntKind.i64.wrap (1 + (pickL kd 3))), .int .i64 (1 + (pickL kd 3)))] (.ok (.ops [0, 1] 4) [.seq [1, 1]] [(1, .slice A2 n2 cap2), (3, .int .i64 wh), (8, .bool false), (18, .slice A1 n1 cap1), (21, .int .i64 (1 + (pickL kd 3)))] [] []) (And.intro (fun H sH => hpk _ k0 k1 (by omega) (by omega)) (trivial)) (And.intro (i64_wrap (by omega) (by omega)) (trivial)) (fun _ => by kernel_rfl) ?_
  clear hJ a w; intro a w hJ
  refine x_call hJ 22 (some_any _) (fun _ => by kernel_rfl) ?_; clear hJ a w; rintro _ h1 a w s2 ⟨hfs, bs, rfl⟩ hJ
  refine x_call hJ 23 (hE _ _ (hl.sees (s2.trans hJ.j.sees)) _ (hfs.sees hJ.j.sees) (by omega) (by omega)) (fun _ => by kernel_rfl) ?_; clear hJ a w; rintro _ h3 a w s4 ⟨u, rfl, hx⟩ hJ
  refine rx hJ false 7 [.own, .b 0 0, .b 0 0] [] (.new fun b5 => .ok (.ops [0, 1, 1] 1) [.seq [1, 1, 1]] [(1, .slice A2 n2 cap2), (3, .int .i64 wh), (8, .bool false), (9, .pointer (some ⟨b5, 0, none⟩)), (25, .agg #[.int .i64 x.op, .int .i64 x.k, .int .i64 x.n, .string x.s, .string x.nm, .slice (sA u) (sN u) (sC u)])] [.box b5 [.int .i64 x.op, .int .i64 x.k, .int .i64 x.n, .string x.s, .string x.nm, .slice (sA u) (sN u) (sC u)]] []) trivial trivial (fun b5 _ => by kernel_rfl) ?_
  clear hJ a w; intro b5 a w hJ
  refine x_call hJ 26 (hF _ _ (hx.sees hJ.j.sees)) (fun _ => by kernel_rfl) ?_; clear hJ a w; rintro _ h6 a w s7 ⟨u2, rfl, hy⟩ hJ
  refine rx hJ false 11 [.own, .b 0 0] [] (.new fun b8 => .ok (.ops [0, 1, 1, 1] 1) [.seq [1, 1, 1, 1]] [(3, .int .i64 wh), (8, .bool false), (9, .pointer (some ⟨b5, 0, none⟩)), (10, .pointer (some ⟨b8, 0, none⟩)), (11, .int .i64 0), (29, .slice A2 n2 cap2)] [.box b8 [.int .i64 y.op, .int .i64 y.k, .int .i64 y.n, .string y.s, .string y.nm, .slice (sA u2) (sN u2) (sC u2)], .box b5 [.int .i64 x.op, .int .i64 x.k, .int .i64 x.n, .string x.s, .string x.nm, .slice (sA u) (sN u) (sC u)]] []) trivial trivial (fun b8 _ => by kernel_rfl) ?_
  clear hJ a w; intro b8 a w hJ
  refine x_callrow hJ 30 (hFb _ (hm.sees (s2.trans (s4.trans (s7.trans hJ.j.sees))))) (fun _ => by kernel_rfl) ?_; clear hJ a w; rintro _ _ a w ⟨gb, cb, rfl, rfl⟩ hJ
  refine rx hJ false 10 [] [] (.ok (.ops [0, 0, 1, 1, 1, 1] 4) [.seq [1, 0, 1, 1, 1, 1], .seq [1, 1, 1, 1, 1]] [(8, .bool false), (9, .pointer (some ⟨b5, 0, none⟩)), (10, .pointer (some ⟨b8, 0, none⟩)), (11, .int .i64 0), (12, .slice (some ⟨gb, 0, none⟩) 5 cb), (31, .int .i64 wh), (34, .int .i64 10)] [.row (.slice (some ⟨gb, 0, none⟩) 5 cb) 68 7 (fcRows fb), .box b8 [.int .i64 y.op, .int .i64 y.k, .int .i64 y.n, .string y.s, .string y.nm, .slice (sA u2) (sN u2) (sC u2)], .box b5 [.int .i64 x.op, .int .i64 x.k, .int .i64 x.n, .string x.s, .string x.nm, .slice (sA u) (sN u) (sC u)]] []) trivial trivial (fun _ => by kernel_rfl) ?_
  clear hJ a w; intro a w hJ
  refine rx hJ false 12 [.cl 16 #[.int .i64 wh, .int .i64 10] (.int .i64 (k : Int))] [] (.ok (.code [1, 1, 0, 1, 1, 1, 1]) [.seq [1, 1, 1, 1, 1]] [(8, .bool false), (9, .pointer (some ⟨b5, 0, none⟩)), (10, .pointer (some ⟨b8, 0, none⟩)), (11, .int .i64 0), (12, .slice (some ⟨gb, 0, none⟩) 5 cb), (13, .int .i64 (k : Int)), (39, .bool (decide ((k : Int) < 5)))] [.row (.slice (some ⟨gb, 0, none⟩) 5 cb) 68 7 (fcRows fb), .box b8 [.int .i64 y.op, .int .i64 y.k, .int .i64 y.n, .string y.s, .string y.nm, .slice (sA u2) (sN u2) (sC u2)], .box b5 [.int .i64 x.op, .int .i64 x.k, .int .i64 x.n, .string x.s, .string x.nm, .slice (sA u) (sN u) (sC u)]] []) (And.intro (fun H sH => hqk _ w0 w1 (by omega) (by omega)) (trivial)) trivial (fun _ => by kernel_rfl) ?_
  clear hJ a w; intro a w hJ
  by_cases g : k < 5
  · obtain ⟨p, hp⟩ : ∃ p, fb[k]? = some p := ⟨_, List.getElem?_eq_getElem (by omega)⟩
    have hrow : (fcRows fb)[k]? = some (fcRow p) := by rw [List.getElem?_map, hp]; rfl
    have hso := set_okv (k := k) (s := p.1) okb
    have hsl : (fb.set k (p.1, pendV)).length = 5 := by rw [List.length_set]; exact lnb
    have hWx := fun H v A c q1 q2 => hVx H v (fb.set k (p.1, pendV)) A c q1 (by rw [fcRows_set]; exact q2) hso hsl
    have hWy := fun H v A c q1 q2 => hVy H v (fb.set k (p.1, pendV)) A c q1 (by rw [fcRows_set]; exact q2) hso hsl
    have hk2 := hEv _ hso
    generalize evalE (fb.set k (p.1, pendV)) x = V at *
    refine x_true hJ (t := decide ((k : Int) < 5)) (by kernel_rfl) (decide_eq_true (by omega)) ?_
    refine rx hJ false 6 [.ix gb 0 5 cb k] [] (.ok (.ops [0, 1, 1, 0, 1, 1, 1, 1] 5) [.seq [1, 1, 1, 1, 1]] [(8, .bool false), (9, .pointer (some ⟨b5, 0, none⟩)), (10, .pointer (some ⟨b8, 0, none⟩)), (11, .int .i64 0), (12, .slice (some ⟨gb, 0, none⟩) 5 cb), (42, .agg #[.int .i64 4, .int .i64 0, .string ⟨#[]⟩]), (44, .pointer (some ⟨gb, 0 + k * 7 + 4, none⟩))] [.row (.slice (some ⟨gb, 0, none⟩) 5 cb) 68 7 (fcRows fb), .box b8 [.int .i64 y.op, .int .i64 y.k, .int .i64 y.n, .string y.s, .string y.nm, .slice (sA u2) (sN u2) (sC u2)], .box b5 [.int .i64 x.op, .int .i64 x.k, .int .i64 x.n, .string x.s, .string x.nm, .slice (sA u) (sN u) (sC u)]] []) (And.intro (by first | omega | (simp; omega)) (trivial)) trivial (fun _ => by kernel_rfl) ?_
    clear hJ a w; intro a w hJ
    refine x_rowset hJ 0 k 4 (g := gb) (m := 5) (cap := cb) (kk := 7) (e := 68) (l := fcRows fb) (r := [.string p.1, .int .i64 0, .int .i64 0, .string ⟨#[]⟩, .int .i64 p.2.k, .int .i64 p.2.n, .string p.2.s]) (t := 24) (x := (.tmp 44)) (y := (.tmp 42)) (u := .agg #[.int .i64 4, .int .i64 0, .string ⟨#[]⟩]) (by kernel_rfl) (by kernel_rfl) (by kernel_rfl) (by kernel_rfl) (by kernel_rfl) (hrow) (by kernel_rfl) ?_; clear hJ a w; intro a w hJ
    replace hJ : K ⟨77, h.w, h.bad, []⟩ [(8, .bool false), (9, .pointer (some ⟨b5, 0, none⟩)), (10, .pointer (some ⟨b8, 0, none⟩)), (11, .int .i64 0), (12, .slice (some ⟨gb, 0, none⟩) 5 cb), (42, .agg #[.int .i64 4, .int .i64 0, .string ⟨#[]⟩]), (44, .pointer (some ⟨gb, 0 + k * 7 + 4, none⟩))] [.row (.slice (some ⟨gb, 0, none⟩) 5 cb) 68 7 ((fcRows fb).set k [.string p.1, .int .i64 0, .int .i64 0, .string ⟨#[]⟩, .int .i64 4, .int .i64 0, .string ⟨#[]⟩]), .box b8 [.int .i64 y.op, .int .i64 y.k, .int .i64 y.n, .string y.s, .string y.nm, .slice (sA u2) (sN u2) (sC u2)], .box b5 [.int .i64 x.op, .int .i64 x.k, .int .i64 x.n, .string x.s, .string x.nm, .slice (sA u) (sN u) (sC u)]] [] h6 a w := hJ.to (by kernel_rfl) (by kernel_rfl) rfl
    refine rx hJ false 6 [.b 2 0] [] (.ok (.ops [0, 1, 1, 1, 1, 1] 2) [.seq [1, 1, 1, 1, 1, 1]] [(8, .bool false), (10, .pointer (some ⟨b8, 0, none⟩)), (11, .int .i64 0), (12, .slice (some ⟨gb, 0, none⟩) 5 cb), (46, .agg #[.int .i64 x.op, .int .i64 x.k, .int .i64 x.n, .string x.s, .string x.nm, .slice (sA u) (sN u) (sC u)]), (47, .slice (some ⟨gb, 0, none⟩) 5 cb)] [.row (.slice (some ⟨gb, 0, none⟩) 5 cb) 68 7 ((fcRows fb).set k [.string p.1, .int .i64 0, .int .i64 0, .string ⟨#[]⟩, .int .i64 4, .int .i64 0, .string ⟨#[]⟩]), .box b8 [.int .i64 y.op, .int .i64 y.k, .int .i64 y.n, .string y.s, .string y.nm, .slice (sA u2) (sN u2) (sC u2)], .box b5 [.int .i64 x.op, .int .i64 x.k, .int .i64 x.n, .string x.s, .string x.nm, .slice (sA u) (sN u) (sC u)]] []) trivial trivial (fun _ => by kernel_rfl) ?_
    clear hJ a w; intro a w hJ
    obtain ⟨h9, s10, frb, hJn⟩ := hJ.frozen (v := .slice (some ⟨gb, 0, none⟩) 5 cb) (e := 68) (k := 7) (l := (fcRows fb).set k [.string p.1, .int .i64 0, .int .i64 0, .string ⟨#[]⟩, .int .i64 4, .int .i64 0, .string ⟨#[]⟩]) 0 (by kernel_rfl) (hJ.j.rowOut0 (v := .slice (some ⟨gb, 0, none⟩) 5 cb) (e := 68) (k := 7) (l := (fcRows fb).set k [.string p.1, .int .i64 0, .int .i64 0, .string ⟨#[]⟩, .int .i64 4, .int .i64 0, .string ⟨#[]⟩]) 0 (by kernel_rfl) rfl); clear hJ; have hJ := hJn; clear hJn
    refine rx hJ false 42 [.cl 38 #[.agg #[.int .i64 x.op, .int .i64 x.k, .int .i64 x.n, .string x.s, .string x.nm, .slice (sA u) (sN u) (sC u)], .slice (some ⟨gb, 0, none⟩) 5 cb] (.tuple #[.agg #[.int .i64 V.k, .int .i64 V.n, .string V.s], .int .i64 0]), .own, .b 0 0, .b 1 0, .cl 38 #[.agg #[.int .i64 y.op, .int .i64 y.k, .int .i64 y.n, .string y.s, .string y.nm, .slice (sA u2) (sN u2) (sC u2)], .slice (some ⟨gb, 0, none⟩) 5 cb] (.tuple #[.agg #[.int .i64 V.k, .int .i64 V.n, .string V.s], .int .i64 0]), .own, .b 0 0, .b 1 0, .b 1 0, .b 0 0] [(70, .bool (decide (V.k > 0)), .bool true)] (.new fun b11 => .new fun b12 => .ok (.ops [0, 1, 1, 1, 1, 1, 1, 1] 18) [.seq [1, 1, 1, 1, 1, 1, 1, 1]] [(8, .bool false), (72, .bool true), (73, .agg #[.int .i64 V.k, .int .i64 V.n, .string V.s]), (74, .agg #[.int .i64 V.k, .int .i64 V.n, .string V.s])] [.box b12 [.int .i64 V.k, .int .i64 V.n, .string V.s], .box b11 [.int .i64 V.k, .int .i64 V.n, .string V.s], .box b8 [.int .i64 y.op, .int .i64 y.k, .int .i64 y.n, .string y.s, .string y.nm, .slice (sA u2) (sN u2) (sC u2)], .box b5 [.int .i64 x.op, .int .i64 x.k, .int .i64 x.n, .string x.s, .string x.nm, .slice (sA u) (sN u) (sC u)]] []) (And.intro (fun H sH => hWx _ _ _ _ (hx.sees (s7.trans (s10.trans sH))) (frb.sees sH)) (And.intro (fun H sH => hWy _ _ _ _ (hy.sees (s10.trans sH)) (frb.sees sH)) (trivial))) (And.intro (congrArg Value.bool (decide_eq_true (by omega))) (trivial)) (fun b11 b12 _ => by kernel_rfl) ?_
    clear hJ a w; intro b11 b12 a w hJ
    refine x_pure hJ 75 (.bool true) (by kernel_rfl) (fun w => run_eqop (x := (.tmp 73)) (y := (.tmp 74)) (v := V) (w := V) (by kernel_rfl) (by kernel_rfl) (by kernel_rfl) (eqB_iff.2 rfl)) ?_; clear hJ a w; intro a w hJ
    refine rx hJ false 5 [] [] (.ok (.out .ret) [] [(8, .bool true)] [.box b12 [.int .i64 V.k, .int .i64 V.n, .string V.s], .box b11 [.int .i64 V.k, .int .i64 V.n, .string V.s], .box b8 [.int .i64 y.op, .int .i64 y.k, .int .i64 y.n, .string y.s, .string y.nm, .slice (sA u2) (sN u2) (sC u2)], .box b5 [.int .i64 x.op, .int .i64 x.k, .int .i64 x.n, .string x.s, .string x.nm, .slice (sA u) (sN u) (sC u)]] []) trivial trivial (fun _ => by kernel_rfl) ?_
    clear hJ a w; intro a w hJ
    refine x_end (hQ [.bool true] _ [] hJ (.rtmp hJ.j (by kernel_rfl) .nil) (no_own _) rfl ?_).1
    exact rfl
  · skip
    have hWx := fun H v A c q1 q2 => hVx H v fb A c q1 q2 okb lnb
    have hWy := fun H v A c q1 q2 => hVy H v fb A c q1 q2 okb lnb
    have hk2 := hEv _ okb
    generalize evalE fb x = V at *
    obtain ⟨h13, s14, frb, hJn⟩ := hJ.frozen (v := .slice (some ⟨gb, 0, none⟩) 5 cb) (e := 68) (k := 7) (l := fcRows fb) 0 (by kernel_rfl) (hJ.j.rowOut0 (v := .slice (some ⟨gb, 0, none⟩) 5 cb) (e := 68) (k := 7) (l := fcRows fb) 0 (by kernel_rfl) rfl); clear hJ; have hJ := hJn; clear hJn
    refine x_false hJ (t := decide ((k : Int) < 5)) (by kernel_rfl) (decide_eq_false (by omega)) ?_
    refine rx hJ false 48 [.b 1 0, .cl 38 #[.agg #[.int .i64 x.op, .int .i64 x.k, .int .i64 x.n, .string x.s, .string x.nm, .slice (sA u) (sN u) (sC u)], .slice (some ⟨gb, 0, none⟩) 5 cb] (.tuple #[.agg #[.int .i64 V.k, .int .i64 V.n, .string V.s], .int .i64 0]), .own, .b 0 0, .b 1 0, .cl 38 #[.agg #[.int .i64 y.op, .int .i64 y.k, .int .i64 y.n, .string y.s, .string y.nm, .slice (sA u2) (sN u2) (sC u2)], .slice (some ⟨gb, 0, none⟩) 5 cb] (.tuple #[.agg #[.int .i64 V.k, .int .i64 V.n, .string V.s], .int .i64 0]), .own, .b 0 0, .b 1 0, .b 1 0, .b 0 0] [(70, .bool (decide (V.k > 0)), .bool true)] (.new fun b15 => .new fun b16 => .ok (.ops [0, 1, 1, 1, 1, 1, 1, 1] 18) [.seq [1, 1, 1, 1, 1, 1, 1, 1]] [(8, .bool false), (72, .bool true), (73, .agg #[.int .i64 V.k, .int .i64 V.n, .string V.s]), (74, .agg #[.int .i64 V.k, .int .i64 V.n, .string V.s])] [.box b16 [.int .i64 V.k, .int .i64 V.n, .string V.s], .box b15 [.int .i64 V.k, .int .i64 V.n, .string V.s], .box b8 [.int .i64 y.op, .int .i64 y.k, .int .i64 y.n, .string y.s, .string y.nm, .slice (sA u2) (sN u2) (sC u2)], .box b5 [.int .i64 x.op, .int .i64 x.k, .int .i64 x.n, .string x.s, .string x.nm, .slice (sA u) (sN u) (sC u)]] []) (And.intro (fun H sH => hWx _ _ _ _ (hx.sees (s7.trans (s14.trans sH))) (frb.sees sH)) (And.intro (fun H sH => hWy _ _ _ _ (hy.sees (s14.trans sH)) (frb.sees sH)) (trivial))) (And.intro (congrArg Value.bool (decide_eq_true (by omega))) (trivial)) (fun b15 b16 _ => by kernel_rfl) ?_
    clear hJ a w; intro b15 b16 a w hJ
    refine x_pure hJ 75 (.bool true) (by kernel_rfl) (fun w => run_eqop (x := (.tmp 73)) (y := (.tmp 74)) (v := V) (w := V) (by kernel_rfl) (by kernel_rfl) (by kernel_rfl) (eqB_iff.2 rfl)) ?_; clear hJ a w; intro a w hJ
    refine rx hJ false 5 [] [] (.ok (.out .ret) [] [(8, .bool true)] [.box b16 [.int .i64 V.k, .int .i64 V.n, .string V.s], .box b15 [.int .i64 V.k, .int .i64 V.n, .string V.s], .box b8 [.int .i64 y.op, .int .i64 y.k, .int .i64 y.n, .string y.s, .string y.nm, .slice (sA u2) (sN u2) (sC u2)], .box b5 [.int .i64 x.op, .int .i64 x.k, .int .i64 x.n, .string x.s, .string x.nm, .slice (sA u) (sN u) (sC u)]] []) trivial trivial (fun _ => by kernel_rfl) ?_
    clear hJ a w; intro a w hJ
    refine x_end (hQ [.bool true] _ [] hJ (.rtmp hJ.j (by kernel_rfl) .nil) (no_own _) rfl ?_).1
    exact rfl

theorem foldSame_walk (v : Value) (l : List RawD) (v' : Value) (m : List RawD) (kd wh : Int) (w : World) (h : RawsOf w v l) (h' : RawsOf w v' m) (k0 : -9223372036854775808 ≤ kd) (k1 : kd ≤ 9223372036854775807) (w0 : -9223372036854775808 ≤ wh) (w1 : wh ≤ 9223372036854775807) :
    Calls Try.prog 7 #[v, v', .int .i64 kd, .int .i64 wh] w fun e w' => e = .returned (.bool true) ∧ Below w.heap.size w w' :=
  C0.law (foldSame_c l m v v' kd wh ⟨w, []⟩ h.rs h'.rs h.2.1 h'.2.1 h.2.2 h'.2.2 k0 k1 w0 w1)

namespace foldSameLaw
open Go.ChangeShapes Go.WideShapes Go.ChangeAt Go.RowKit
open Go.ChangeMaps (open_string shut_string)
set_option linter.unusedVariables false

set_option maxRecDepth 100000 in
theorem lifted (os : Os) (started : os.Started) (H : Type) (enc : TypeId × Value → H) :
    ReturnsInHanded {} Try.checked os 7 .any (Rows.foldSameSpec.pre6 enc Try.prog Try.f7 Rows.foldSameRow.domain false) (Rows.foldSameSpec.post enc Try.prog Try.f7 false true false false) := by
  refine returnsInHanded_of_change_sized (C := Try.checked) ownNone started (by kernel_rfl) Try.func7
    (ChangeSpec.witness6 (enc := enc) (C := Try.checked) false ⟨#[], #[.slice none 0 0, .slice none 0 0, .int .i64 0, .int .i64 0], []⟩ 8 (by kernel_rfl) (by kernel_rfl) (by kernel_rfl) (by kernel_rfl)) ?_
  intro W base args ds gs before hval0 hW hcnd hsz0 _
  have hval : ∀ (j : Nat) t v, Try.f7.params[j]? = some t → args[j]? = some v → Value.okWide Try.prog W .any base t v := hval0
  have hsz : (DataW.weightsEach Try.prog (Try.f7.params.toList ++ Rows.foldSameSpec.plain.varTypes Try.prog) (ds ++ gs)).all (· ≤ reachBytes) = true := hsz0
  have hW' := hW
  obtain ⟨p, q, hA0, hV, rfl, hfz, hnd⟩ := hW
  have hA : DataW.TrodAll enc Try.prog W 0 (fun _ => true) true Try.f7.params.toList args.toList ds p := hA0
  rw [Try.params7] at hA hval hsz
  obtain ⟨v0, vs0, d0, ds0, p0, q0, hargs, rfl, rfl, h0, r0⟩ := trodAll_cons hA
  obtain ⟨v1, vs1, d1, ds1, p1, q1, rfl, rfl, rfl, h1, r1⟩ := trodAll_cons r0
  obtain ⟨v2, vs2, d2, ds2, p2, q2, rfl, rfl, rfl, h2, r2⟩ := trodAll_cons r1
  obtain ⟨v3, vs3, d3, ds3, p3, q3, rfl, rfl, rfl, h3, r3⟩ := trodAll_cons r2
  obtain ⟨rfl, rfl, rfl⟩ := trodAll_nil r3
  obtain rfl : args = #[v0, v1, v2, v3] := by cases args; simp_all
  obtain ⟨rfl, rfl⟩ := trodVars_none hV
  have k0 := h0
  have lt0 : ∀ x ∈ p0, x.block < W.heap.size := by obtain ⟨m, hm⟩ := k0; exact DataW.trod_lt m _ _ _ hm
  obtain ⟨a0, w0⟩ := open_rows (hval 0 22 v0 rfl rfl) h0 (fun es ss hd => sized_slice hsz (j := 0) (t := 22) (elems := es) (spare := ss) rfl (by rw [hd]; rfl) Try.underlying22)
  have k1 := h1
  have lt1 : ∀ x ∈ p1, x.block < W.heap.size := by obtain ⟨m, hm⟩ := k1; exact DataW.trod_lt m _ _ _ hm
  obtain ⟨a1, w1⟩ := open_rows (hval 1 22 v1 rfl rfl) h1 (fun es ss hd => sized_slice hsz (j := 1) (t := 22) (elems := es) (spare := ss) rfl (by rw [hd]; rfl) Try.underlying22)
  have k2 := h2
  have lt2 : ∀ x ∈ p2, x.block < W.heap.size := by obtain ⟨m, hm⟩ := k2; exact DataW.trod_lt m _ _ _ hm
  obtain ⟨a2, rfl, -, -, w2⟩ := open_int Try.underlying3 (hval 2 3 v2 rfl rfl) h2
  have k3 := h3
  have lt3 : ∀ x ∈ p3, x.block < W.heap.size := by obtain ⟨m, hm⟩ := k3; exact DataW.trod_lt m _ _ _ hm
  obtain ⟨a3, rfl, -, -, w3⟩ := open_int Try.underlying3 (hval 3 3 v3 rfl rfl) h3
  clear hA0 hval0 hsz0
  refine (foldSame_walk v0 a0 v1 a1 a2 a3 W w0 w1 (int_lo w2) (int_hi w2) (int_lo w3) (int_hi w3)).mono fun e W' ⟨he, bel⟩ => ?_
  subst he
  exact ⟨_, rfl, _, _, _, [], _, [], hW', trodAll_mk1 (shut_bool Try.underlying4 _), (trodAll_cons_mk (Below.trod laidOutTrue (by kernel_rfl) (of_decide_eq_true (by kernel_rfl)) k0 bel lt0) (trodAll_cons_mk (Below.trod laidOutTrue (by kernel_rfl) (of_decide_eq_true (by kernel_rfl)) k1 bel lt1) (trodAll_cons_mk (Below.trod laidOutTrue (by kernel_rfl) (of_decide_eq_true (by kernel_rfl)) k2 bel lt2) (trodAll_cons_mk (Below.trod laidOutTrue (by kernel_rfl) (of_decide_eq_true (by kernel_rfl)) k3 bel lt3) trodAll_mk0)))), rfl, bel.frame _, fun h => by cases h⟩

theorem over : Rows.foldSameRow.holds Try.pinned (OpenSpec.ofChange Rows.foldSameSpec) :=
  OpenClaim.holds_of_wide 7 Try.f7 rfl rfl rfl rfl rfl rfl rfl ⟨rfl, rfl, rfl, rfl, rfl⟩ rfl rfl rfl rfl rfl (by kernel_rfl) Try.func7 (by kernel_rfl)
    (of_decide_eq_true (by kernel_rfl)) (by unfold Func.isWrapper; first | (rw [if_pos (by decide +kernel)]; kernel_rfl) | (rw [if_neg (by decide +kernel)]; exact ⟨rfl, rfl⟩))
    (fun os started H enc _ => lifted os started H enc)

end foldSameLaw
theorem foldSame_holds : Rows.FoldSameSaid := foldSameLaw.over
#print axioms foldSame_holds
end Go.Proofs.Ytgjndkphfabnnaa
