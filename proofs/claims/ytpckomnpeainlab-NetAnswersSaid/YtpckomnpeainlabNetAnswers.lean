/-
  For all raw things and numbers NetAnswers returns true: a question that has been replied to is received as a reply, once, and questions are not received. No condition.
-/
import Derived.Test.YtpckomnpeainlabNetX
import Derived.Test.YtpckomnpeainlabEqV
import Derived.Test.YtpckomnpeainlabLawX
namespace Go.Proofs.Ytpckomnpeainlab
open Go.RowKit
set_option linter.unusedVariables false

theorem set_erase {α : Type} : ∀ (l : List α) (i : Nat) (a : α), (l.set i a).eraseIdx i = l.eraseIdx i
  | [], _, _ => rfl
  | x :: l, 0, a => rfl
  | x :: l, i + 1, a => by rw [List.set_cons_succ, List.eraseIdx_cons_succ, List.eraseIdx_cons_succ, set_erase l i a]
theorem erase_eq {α : Type} : ∀ (l : List α) (i : Nat), l.eraseIdx i = l.take i ++ l.drop (i + 1)
  | [], _ => by simp
  | x :: l, 0 => by simp
  | x :: l, i + 1 => by rw [List.eraseIdx_cons_succ, erase_eq l i]; rfl

set_option maxHeartbeats 8000000 in
set_option maxRecDepth 100000 in
theorem netAnswers_c (l : List RawD) (sl : Value) (i : Int) (r : RawD) (h : Vw) (hl : RS h 4 sl (l.map RawD.cs)) (ll : l.length * 40 ≤ 140737488351232) (ol : ∀ r ∈ l, r.ok) (i0 : -9223372036854775808 ≤ i) (i1 : i ≤ 9223372036854775807) (ro : r.ok) :
    C0 Try.prog 9 #[sl, .int .i64 i, .agg #[.int .i64 r.k, .int .i64 r.a, .int .i64 r.b, .string r.t]] h (fun v _ => v = .bool true) := by
  have hq := pick_range r.k 3 (by omega)
  have hV := c_value (1 + pickL r.k 3) r
  have hkn := val_known (1 + pickL r.k 3) r.k r.a r.t (by omega) (by omega)
  have hpk := c_picked r.k 3
  obtain ⟨rk0, rk1⟩ := ro.1
  generalize pickL r.k 3 = q at *
  generalize valN (1 + q) r.k r.a = vn at *
  generalize valS (1 + q) r.t = vt at *
  obtain ⟨xl, xo⟩ := ltrT_ok (l ++ [rawZ]) (l ++ [rawZ]).length (Nat.le_refl _)
  have hL := fun H v g => c_letters (h := H) (v := v) (rs := l ++ [rawZ]) g (by simp; omega) (fun r hr => by
    rcases List.mem_append.1 hr with hr | hr
    · exact ol r hr
    · rw [List.mem_singleton.1 hr]; exact rawZ_ok)
  have hx1 : ltrOf (l ++ [rawZ]) = ltrT (l ++ [rawZ]) (l ++ [rawZ]).length := rfl
  rw [hx1] at hL
  generalize ltrT (l ++ [rawZ]) (l ++ [rawZ]).length = x at *
  have xn : 1 ≤ x.length := by rw [xl]; simp; omega
  have xm : x.length ≤ 12 := by omega
  have p0 := pickL_lo i x.length (by omega)
  have p1 := pickL_hi i x.length (by omega)
  have hpi := c_picked i x.length
  obtain ⟨k, hk⟩ : ∃ k : Nat, pickL i x.length = (k : Int) := ⟨_, (Int.toNat_of_nonneg p0).symm⟩
  rw [hk] at p1 hpi
  obtain ⟨z, hz⟩ : ∃ z, x[k]? = some z := ⟨_, List.getElem?_eq_getElem (by omega)⟩
  obtain ⟨zo, zk⟩ := xo z (List.mem_of_getElem? hz)
  have okx : ∀ y ∈ x, OkL y := fun y hy => (xo y hy).1
  have okz : OkL (z.ans (1 + q) vn vt) := ⟨zo.id0, zo.id1, zo.key, .inr hkn⟩
  have oky : ∀ y ∈ x.set k (z.ans (1 + q) vn vt), OkL y := fun y hy => (List.mem_or_eq_of_mem_set hy).elim (okx y) (fun e => e ▸ okz)
  have hzy : (x.set k (z.ans (1 + q) vn vt))[k]? = some (z.ans (1 + q) vn vt) := List.getElem?_set_self (by omega)
  have hyl : (x.set k (z.ans (1 + q) vn vt)).length = x.length := List.length_set
  have hye := (set_erase x k (z.ans (1 + q) vn vt)).trans (erase_eq x k)
  have hC1 := fun H v g => come_kind x v k z H g (by omega) okx hz zk
  have hA1 := fun H v g => answer_yes x v k z (1 + q) vn vt H g (by omega) okx hz zk hkn
  have hA2 := fun H v g => answer_twice (x.set k (z.ans (1 + q) vn vt)) v k (z.ans (1 + q) vn vt) (1 + q) vn vt H g (by omega) oky hzy (by show (1 + q : Int) ≠ 0; omega)
  have hC2 := fun H v g => come_yes (x.set k (z.ans (1 + q) vn vt)) v k (z.ans (1 + q) vn vt) H g (by omega) oky hzy (by show (1 + q : Int) ≠ 0; omega)
  rw [hye] at hC2
  generalize x.set k (z.ans (1 + q) vn vt) = y at *
  have hrowz : (lcs x)[k]? = some z.cells := by rw [List.getElem?_map, hz]; rfl
  have hxl : (lcs x).length = x.length := List.length_map _
  have htd : ∀ (H : Vw) (A : Option Addr) (c : Nat) (A' : Option Addr) (b : Nat), RS H 8 (.slice A x.length c) (lcs x) → (A' = if c = k + 1 then A else A.map (·.add ((k + 1) * 8))) → Cells H b 0 [.slice A k c, .slice A' (x.length - (k + 1)) (c - (k + 1))] →
      C0 Try.prog 31 #[.slice (some ⟨b, 0, none⟩) 2 2] H (fun r h' => ∃ u, r = .slice (sA u) (sN u) (sC u) ∧ RS h' 8 (.slice (sA u) (sN u) (sC u)) (lcs (x.take k ++ x.drop (k + 1)))) := fun H A c A' b g e hc => by
    have g1 := g.take k (by omega)
    have g2 := g.drop (k + 1) (by omega)
    rw [← e] at g2
    rw [← List.map_take] at g1
    rw [← List.map_drop] at g2
    exact c_concat (rs_cells (k := 1) [[.slice A k c], [.slice A' (x.length - (k + 1)) (c - (k + 1))]] (fun r hr => by simp at hr; rcases hr with rfl | rfl <;> rfl) (show (2 : Nat) ≤ maxLen by decide) hc) g1 g2 (by simp; omega)
  have hEq := fun H v v' g g' => c_equal (h := H) (v := v) (v' := v') (l := x.take k ++ x.drop (k + 1)) g g' (by simp; omega)
  obtain ⟨A0, c0, rfl, -, -, -⟩ := hl.form
  rw [List.length_map] at *
  refine x_con Try.func9 (c := Try.f9.body.getD .skip) (by kernel_rfl) (N := 117) rfl (by kernel_rfl) ?_
  intro hbx hbad Q hQ a w hJ
  replace hJ : K ⟨117, h.w, h.bad, []⟩ [(0, .slice A0 l.length c0), (1, .int .i64 i), (2, .agg #[.int .i64 r.k, .int .i64 r.a, .int .i64 r.b, .string r.t])] [] [] h a w := hJ.to (by kernel_rfl) (by kernel_rfl) rfl
  refine rx hJ false 9 [.own] [] (.new fun b1 => .ok (.ops [0, 1] 1) [.seq [1, 1]] [(1, .int .i64 i), (5, .pointer (some ⟨b1, 0, none⟩)), (6, .bool false), (20, .slice A0 l.length c0)] [.box b1 [.int .i64 r.k, .int .i64 r.a, .int .i64 r.b, .string r.t]] []) trivial trivial (fun b1 _ => by kernel_rfl) ?_
  clear hJ a w; intro b1 a w hJ
  refine x_callrow hJ 21 (c_cloneR (hl.sees hJ.j.sees) (by omega)) (fun _ => by kernel_rfl) ?_; clear hJ a w; rintro v21 _ a w rfl hJ
  refine rx hJ true 2 [.fix] [] (.new fun b2 => .ok (.ops [0, 1] 4) [.seq [1, 1]] [(1, .int .i64 i), (5, .pointer (some ⟨b1, 0, none⟩)), (6, .bool false), (21, v21), (23, .slice (some ⟨b2, 0, none⟩) 1 1)] [.row v21 47 4 (l.map RawD.cs), .box b1 [.int .i64 r.k, .int .i64 r.a, .int .i64 r.b, .string r.t]] [(b2, 0, [.int .i64 0, .int .i64 0, .int .i64 0, .string ⟨#[]⟩])]) trivial trivial (fun b2 _ => by kernel_rfl) ?_
  clear hJ a w; intro b2 h3 a w s4 hJ
  refine x_append hJ 24 0 (v := v21) (kk := 4) (t := 22) (te := 47) (l := (l.map RawD.cs)) (ns := [[.int .i64 0, .int .i64 0, .int .i64 0, .string ⟨#[]⟩]]) (b := b2) (m := 1) (c := 1) (y := (.tmp 21)) (z := (.tmp 23)) (zv := .agg #[.int .i64 0, .int .i64 0, .int .i64 0, .string ⟨#[]⟩]) (bytes := 40) (by kernel_rfl) (by kernel_rfl) (by kernel_rfl) rfl (by kernel_rfl) (by kernel_rfl) (hJ.f _ (List.mem_of_getElem? (i := 0) rfl)) (Sees.refl _) Try.underlying22 (by kernel_rfl) (by kernel_rfl) (by kernel_rfl) (by rw [List.length_map]; omega) ?_; clear hJ a w; intro v24 h5 a w s6 hJ
  obtain ⟨h7, s8, fr, hJn⟩ := hJ.frozen (v := .slice (sA v24) (sN v24) (sC v24)) (e := 47) (k := 4) (l := (l.map RawD.cs) ++ [[.int .i64 0, .int .i64 0, .int .i64 0, .string ⟨#[]⟩]]) 0 (by kernel_rfl) (hJ.j.rowOut0 (v := .slice (sA v24) (sN v24) (sC v24)) (e := 47) (k := 4) (l := (l.map RawD.cs) ++ [[.int .i64 0, .int .i64 0, .int .i64 0, .string ⟨#[]⟩]]) 0 (by kernel_rfl) rfl); clear hJ; have hJ := hJn; clear hJn
  have hzc : (l.map RawD.cs) ++ [[.int .i64 0, .int .i64 0, .int .i64 0, .string ⟨#[]⟩]] = (l ++ [rawZ]).map RawD.cs := by rw [List.map_append]; rfl
  rw [hzc] at fr
  refine x_call hJ 25 (hL _ _ (fr.sees hJ.j.sees)) (fun _ => by kernel_rfl) ?_; clear hJ a w; rintro _ h9 a w s10 ⟨A, c, rfl, hx⟩ hJ
  refine rx hJ false 13 [.cl 18 #[.int .i64 i, .int .i64 (x.length : Int)] (.int .i64 (k : Int))] [] (.ok (.code [0, 1, 1, 1]) [.seq [1, 1, 1, 1]] [(5, .pointer (some ⟨b1, 0, none⟩)), (6, .bool false), (7, .slice A x.length c), (8, .int .i64 (k : Int))] [.box b1 [.int .i64 r.k, .int .i64 r.a, .int .i64 r.b, .string r.t]] [(b2, 0, [.int .i64 0, .int .i64 0, .int .i64 0, .string ⟨#[]⟩])]) (And.intro (fun H sH => hpi _ i0 i1 (by omega) (by omega)) (trivial)) trivial (fun _ => by kernel_rfl) ?_
  clear hJ a w; intro a w hJ
  let R : Reg := ⟨⟨117, h.w, h.bad, []⟩, [(0, 30, fun gh => .pointer (some ⟨b1, 0, none⟩)), (1, 31, fun gh => .int .i64 r.k), (2, 32, fun gh => .int .i64 q), (3, 33, fun gh => .int .i64 (1 + q)), (4, 34, fun gh => .agg #[.int .i64 r.k, .int .i64 r.a, .int .i64 r.b, .string r.t]), (5, 35, fun gh => .agg #[.int .i64 (1 + q), .int .i64 vn, .string vt]), (6, 9, fun gh => .pointer (some ⟨(blkOf (gh 6)), 0, none⟩))], [(5, .pointer (some ⟨b1, 0, none⟩)), (6, .bool false), (7, .slice A x.length c), (8, .int .i64 (k : Int))], [⟨none, [(6, fun gh => .box (blkOf (gh 6)) [.int .i64 0, .int .i64 0, .string ⟨#[]⟩]), (7, fun gh => .box (blkOf (gh 6)) [.int .i64 (1 + q), .int .i64 vn, .string vt])]⟩, ⟨some (.box b1 [.int .i64 r.k, .int .i64 r.a, .int .i64 r.b, .string r.t]), []⟩], [], [[], [0], [0, 1], [0, 1, 2], [], [0, 1, 2, 3, 4], [], [0, 1, 2, 3, 4, 5, 6]], h9⟩
  have hmono : ∀ zq ∈ R.F, ∀ zx zh zi, Sees zh zi → zq.2 zx zh → zq.2 zx zi := mono_nil
  refine x_region (by kernel_rfl) R hJ 8 [.pu, .ld 1 0, .cl, .cl, .ld 1 0, .cl, .al 0, .st 0 0] (by kernel_rfl) hmono (fun _ _ _ => by kernel_rfl) (fun hT hA => ?_) ?_
  · clear hJ
    refine And.intro (r_callv hT hA hmono 32 (fun gh => .int .i64 q) [1] 2 (by kernel_rfl) (by kernel_rfl) (by kernel_rfl) (fun _ => by kernel_rfl) 18 (fun gh => #[.int .i64 r.k, .int .i64 3]) (fun _ _ => by kernel_rfl) (fun gh H sH fH lent => hpk _ rk0 rk1 (by omega) (by omega))) ?_
    refine And.intro (r_pure hT hA 33 (fun gh => .int .i64 (1 + q)) [2] 3 (by kernel_rfl) (by kernel_rfl) (by kernel_rfl) (fun _ => by kernel_rfl) (fun gh w => run_eq (by kernel_rfl) (i64_wrap (by omega) (by omega)))) ?_
    refine And.intro (r_callv hT hA hmono 35 (fun gh => .agg #[.int .i64 (1 + q), .int .i64 vn, .string vt]) [2, 3, 4] 5 (by kernel_rfl) (by kernel_rfl) (by kernel_rfl) (fun _ => by kernel_rfl) 32 (fun gh => #[.int .i64 (1 + q), .agg #[.int .i64 r.k, .int .i64 r.a, .int .i64 r.b, .string r.t]]) (fun _ _ => by kernel_rfl) (fun gh H sH fH lent => hV _ (by omega) (by omega) ro)) ?_
    trivial
  clear hJ a w; intro gh h12 a w sR hJ1 hF; have s13 : Sees h9 h12 := sR; clear sR
  have hJ : K ⟨117, h.w, h.bad, []⟩ [(6, .bool false), (7, .slice A x.length c), (8, .int .i64 (k : Int)), (9, .pointer (some ⟨(blkOf (gh 6)), 0, none⟩))] [.box (blkOf (gh 6)) [.int .i64 (1 + q), .int .i64 vn, .string vt], .box b1 [.int .i64 r.k, .int .i64 r.a, .int .i64 r.b, .string r.t]] [(b2, 0, [.int .i64 0, .int .i64 0, .int .i64 0, .string ⟨#[]⟩])] h12 a w := hJ1.to (by kernel_rfl) (by kernel_rfl) rfl
  clear hJ1 hF hmono R
  generalize blkOf (gh 6) = b11 at *
  clear gh
  refine rx hJ false 5 [] [] (.ok (.ops [0, 1, 1, 1, 1] 2) [.seq [1, 1, 1, 1, 1]] [(6, .bool false), (7, .slice A x.length c), (8, .int .i64 (k : Int)), (9, .pointer (some ⟨b11, 0, none⟩)), (37, .slice A x.length c), (38, .int .i64 (k : Int))] [.box b11 [.int .i64 (1 + q), .int .i64 vn, .string vt], .box b1 [.int .i64 r.k, .int .i64 r.a, .int .i64 r.b, .string r.t]] [(b2, 0, [.int .i64 0, .int .i64 0, .int .i64 0, .string ⟨#[]⟩])]) trivial trivial (fun _ => by kernel_rfl) ?_
  clear hJ a w; intro a w hJ
  have hcap : x.length ≤ c := by obtain ⟨_, _, e, q, -⟩ := hx.form; simp only [Value.slice.injEq] at e; omega
  refine rx hJ false 16 [.cl 33 #[.slice A x.length c, .int .i64 (k : Int)] (.tuple #[.agg #[.string ⟨#[]⟩, .int .i64 0, .int .i64 0, .int .i64 0, .string ⟨#[]⟩, .int .i64 0, .int .i64 0, .string ⟨#[]⟩], .slice none 0 0, .int .i64 2]), .own, .b 0 0, .b 1 0] [] (.new fun b14 => .ok (.ops [0, 1, 1, 1, 1, 1] 3) [.seq [1, 1, 1, 1, 1, 1]] [(6, .bool false), (7, .slice A x.length c), (8, .int .i64 (k : Int)), (9, .pointer (some ⟨b11, 0, none⟩)), (12, .int .i64 2), (44, .slice A x.length c), (45, .int .i64 (k : Int)), (46, .agg #[.int .i64 (1 + q), .int .i64 vn, .string vt])] [.box b14 [.string ⟨#[]⟩, .int .i64 0, .int .i64 0, .int .i64 0, .string ⟨#[]⟩, .int .i64 0, .int .i64 0, .string ⟨#[]⟩], .box b11 [.int .i64 (1 + q), .int .i64 vn, .string vt], .box b1 [.int .i64 r.k, .int .i64 r.a, .int .i64 r.b, .string r.t]] [(b2, 0, [.int .i64 0, .int .i64 0, .int .i64 0, .string ⟨#[]⟩])]) (And.intro (fun H sH => hC1 _ _ (hx.sees (s13.trans sH))) (trivial)) trivial (fun b14 _ => by kernel_rfl) ?_
  clear hJ a w; intro b14 a w hJ
  refine x_call hJ 47 (hA1 _ _ (hx.sees (s13.trans hJ.j.sees))) (fun _ => by kernel_rfl) ?_; clear hJ a w; rintro _ h15 a w s16 ⟨u, rfl, hy⟩ hJ
  refine rx hJ false 12 [.b 1 0] [] (.ok (.ops [0, 1, 1, 1, 1, 1, 1] 3) [.seq [1, 1, 1, 1, 1, 1, 1]] [(6, .bool false), (7, .slice A x.length c), (8, .int .i64 (k : Int)), (9, .pointer (some ⟨b11, 0, none⟩)), (12, .int .i64 2), (13, .slice (sA u) (sN u) (sC u)), (14, .int .i64 0), (51, .slice (sA u) (sN u) (sC u)), (52, .int .i64 (k : Int)), (53, .agg #[.int .i64 (1 + q), .int .i64 vn, .string vt])] [.box b14 [.string ⟨#[]⟩, .int .i64 0, .int .i64 0, .int .i64 0, .string ⟨#[]⟩, .int .i64 0, .int .i64 0, .string ⟨#[]⟩], .box b11 [.int .i64 (1 + q), .int .i64 vn, .string vt], .box b1 [.int .i64 r.k, .int .i64 r.a, .int .i64 r.b, .string r.t]] [(b2, 0, [.int .i64 0, .int .i64 0, .int .i64 0, .string ⟨#[]⟩])]) trivial trivial (fun _ => by kernel_rfl) ?_
  clear hJ a w; intro a w hJ
  refine rx hJ false 12 [.cl 34 #[.slice (sA u) (sN u) (sC u), .int .i64 (k : Int), .agg #[.int .i64 (1 + q), .int .i64 vn, .string vt]] (.tuple #[.slice none 0 0, .int .i64 2])] [] (.ok (.ops [0, 1, 1, 1, 1, 1, 1, 1] 2) [.seq [1, 1, 1, 1, 1, 1, 1, 1]] [(6, .bool false), (7, .slice A x.length c), (8, .int .i64 (k : Int)), (9, .pointer (some ⟨b11, 0, none⟩)), (12, .int .i64 2), (14, .int .i64 0), (16, .int .i64 2), (58, .slice (sA u) (sN u) (sC u)), (59, .int .i64 (k : Int))] [.box b14 [.string ⟨#[]⟩, .int .i64 0, .int .i64 0, .int .i64 0, .string ⟨#[]⟩, .int .i64 0, .int .i64 0, .string ⟨#[]⟩], .box b11 [.int .i64 (1 + q), .int .i64 vn, .string vt], .box b1 [.int .i64 r.k, .int .i64 r.a, .int .i64 r.b, .string r.t]] [(b2, 0, [.int .i64 0, .int .i64 0, .int .i64 0, .string ⟨#[]⟩])]) (And.intro (fun H sH => hA2 _ _ (hy.sees sH)) (trivial)) trivial (fun _ => by kernel_rfl) ?_
  clear hJ a w; intro a w hJ
  refine x_call hJ 60 (hC2 _ _ (hy.sees hJ.j.sees)) (fun _ => by kernel_rfl) ?_; clear hJ a w; rintro _ h17 a w s18 ⟨u2, rfl, hr9⟩ hJ
  refine rx hJ false 11 [.own, .b 0 0] [] (.new fun b19 => .ok (.code [0, 1, 1, 1, 1, 1, 1, 1, 1]) [.seq [1, 1, 1, 1, 1, 1, 1, 1, 1]] [(6, .bool false), (7, .slice A x.length c), (8, .int .i64 (k : Int)), (9, .pointer (some ⟨b11, 0, none⟩)), (12, .int .i64 2), (14, .int .i64 0), (16, .int .i64 2), (17, .pointer (some ⟨b19, 0, none⟩)), (18, .slice (sA u2) (sN u2) (sC u2)), (19, .int .i64 0)] [.box b19 [.string z.f, .int .i64 z.id, .int .i64 z.kk, .int .i64 z.kn, .string z.ks, .int .i64 (1 + q), .int .i64 vn, .string vt], .box b14 [.string ⟨#[]⟩, .int .i64 0, .int .i64 0, .int .i64 0, .string ⟨#[]⟩, .int .i64 0, .int .i64 0, .string ⟨#[]⟩], .box b11 [.int .i64 (1 + q), .int .i64 vn, .string vt], .box b1 [.int .i64 r.k, .int .i64 r.a, .int .i64 r.b, .string r.t]] [(b2, 0, [.int .i64 0, .int .i64 0, .int .i64 0, .string ⟨#[]⟩])]) trivial trivial (fun b19 _ => by kernel_rfl) ?_
  clear hJ a w; intro b19 a w hJ
  obtain ⟨b20, o21, rfl, -, c22⟩ := RS.row hx (hrowz)
  replace hJ := hJ.fact (c22.sees (s13.trans (s16.trans s18)))
  have c23 := RS.cell hx (hrowz)
  replace hJ := hJ.fact (c23.sees (s13.trans (s16.trans s18)))
  obtain ⟨Ad, hAd⟩ : ∃ x, x = (if c = (k + 1) then (some ⟨b20, o21, none⟩) else (some ⟨b20, o21, none⟩ : Option Addr).map (·.add ((k + 1) * 8))) := ⟨_, rfl⟩
  let R : Reg := ⟨⟨117, h.w, h.bad, []⟩, [(0, 64, fun gh => .int .i64 2), (1, 65, fun gh => .bool true), (2, 66, fun gh => .bool true), (3, 67, fun gh => .int .i64 0), (4, 68, fun gh => .bool true), (5, 69, fun gh => .bool true), (6, 70, fun gh => .bool true), (7, 71, fun gh => .int .i64 2), (8, 72, fun gh => .bool true), (9, 73, fun gh => .bool true), (10, 74, fun gh => .bool true), (11, 75, fun gh => .int .i64 0), (12, 76, fun gh => .bool true), (13, 77, fun gh => .bool true), (14, 78, fun gh => .bool true), (15, 79, fun gh => .pointer (some ⟨b19, 1, none⟩)), (16, 80, fun gh => .int .i64 z.id), (17, 81, fun gh => .slice (some ⟨b20, o21, none⟩) x.length c), (18, 82, fun gh => .int .i64 (k : Int)), (19, 83, fun gh => .pointer (some ⟨b20, o21 + k * 8, none⟩)), (20, 84, fun gh => .pointer (some ⟨b20, o21 + k * 8 + 1, none⟩)), (21, 85, fun gh => .int .i64 z.id), (22, 86, fun gh => .bool true), (23, 87, fun gh => .bool true), (24, 88, fun gh => .bool true), (25, 89, fun gh => .pointer (some ⟨b19, 2, none⟩)), (26, 90, fun gh => .agg #[.int .i64 z.kk, .int .i64 z.kn, .string z.ks]), (27, 91, fun gh => .slice (some ⟨b20, o21, none⟩) x.length c), (28, 92, fun gh => .int .i64 (k : Int)), (29, 93, fun gh => .pointer (some ⟨b20, o21 + k * 8, none⟩)), (30, 94, fun gh => .pointer (some ⟨b20, o21 + k * 8 + 2, none⟩)), (31, 95, fun gh => .agg #[.int .i64 z.kk, .int .i64 z.kn, .string z.ks]), (32, 96, fun gh => .bool true), (33, 97, fun gh => .bool true), (34, 98, fun gh => .bool true), (35, 99, fun gh => .pointer (some ⟨b19, 5, none⟩)), (36, 100, fun gh => .agg #[.int .i64 (1 + q), .int .i64 vn, .string vt]), (37, 101, fun gh => .agg #[.int .i64 (1 + q), .int .i64 vn, .string vt]), (38, 102, fun gh => .bool true), (39, 103, fun gh => .bool true), (40, 104, fun gh => .bool true), (41, 105, fun gh => .slice (sA u2) (sN u2) (sC u2)), (42, 106, fun gh => .slice (some ⟨b20, o21, none⟩) x.length c), (43, 107, fun gh => .int .i64 (k : Int)), (44, 108, fun gh => .slice (some ⟨b20, o21, none⟩) k c), (45, 109, fun gh => .slice (some ⟨b20, o21, none⟩) x.length c), (46, 110, fun gh => .int .i64 (k : Int)), (47, 111, fun gh => .int .i64 ((k + 1 : Nat) : Int)), (48, 112, fun gh => .slice Ad (x.length - (k + 1)) (c - (k + 1))), (49, 113, fun gh => .slice (some ⟨(blkOf (gh 49)), 0, none⟩) 2 2), (50, 114, fun gh => .slice (sA (gh 50)) (sN (gh 50)) (sC (gh 50))), (51, 115, fun gh => .bool true), (52, 116, fun gh => .bool true), (53, 6, fun gh => .bool true)], [(6, .bool false), (7, .slice (some ⟨b20, o21, none⟩) x.length c), (8, .int .i64 (k : Int)), (9, .pointer (some ⟨b11, 0, none⟩)), (12, .int .i64 2), (14, .int .i64 0), (16, .int .i64 2), (17, .pointer (some ⟨b19, 0, none⟩)), (18, .slice (sA u2) (sN u2) (sC u2)), (19, .int .i64 0)], [⟨some (.box b19 [.string z.f, .int .i64 z.id, .int .i64 z.kk, .int .i64 z.kn, .string z.ks, .int .i64 (1 + q), .int .i64 vn, .string vt]), []⟩, ⟨some (.box b14 [.string ⟨#[]⟩, .int .i64 0, .int .i64 0, .int .i64 0, .string ⟨#[]⟩, .int .i64 0, .int .i64 0, .string ⟨#[]⟩]), []⟩, ⟨some (.box b11 [.int .i64 (1 + q), .int .i64 vn, .string vt]), []⟩, ⟨some (.box b1 [.int .i64 r.k, .int .i64 r.a, .int .i64 r.b, .string r.t]), []⟩], [(49, fun gh hh => Cells hh (blkOf (gh 49)) 0 [.slice (some ⟨b20, o21, none⟩) k c, .slice Ad (x.length - (k + 1)) (c - (k + 1))]), (50, fun gh hh => RS hh 8 (.slice (sA (gh 50)) (sN (gh 50)) (sC (gh 50))) (lcs (x.take k ++ x.drop (k + 1))))], [[], [0], [0, 1], [0, 1, 2], [0, 1, 2, 3], [0, 1, 2, 3, 4], [0, 1, 2, 3, 4, 5], [0, 1, 2, 3, 4, 5, 6], [0, 1, 2, 3, 4, 5, 6, 7], [0, 1, 2, 3, 4, 5, 6, 7, 8], [0, 1, 2, 3, 4, 5, 6, 7, 8, 9], [0, 1, 2, 3, 4, 5, 6, 7, 8, 9, 10], [0, 1, 2, 3, 4, 5, 6, 7, 8, 9, 10, 11], [0, 1, 2, 3, 4, 5, 6, 7, 8, 9, 10, 11, 12], [0, 1, 2, 3, 4, 5, 6, 7, 8, 9, 10, 11, 12, 13], [0, 1, 2, 3, 4, 5, 6, 7, 8, 9, 10, 11, 12, 13, 14], [0, 1, 2, 3, 4, 5, 6, 7, 8, 9, 10, 11, 12, 13, 14, 15], [0, 1, 2, 3, 4, 5, 6, 7, 8, 9, 10, 11, 12, 13, 14], [0, 1, 2, 3, 4, 5, 6, 7, 8, 9, 10, 11, 12, 13, 14], [0, 1, 2, 3, 4, 5, 6, 7, 8, 9, 10, 11, 12, 13, 14, 17, 18], [0, 1, 2, 3, 4, 5, 6, 7, 8, 9, 10, 11, 12, 13, 14, 17, 18, 19], [0, 1, 2, 3, 4, 5, 6, 7, 8, 9, 10, 11, 12, 13, 14, 17, 18, 19, 20], [0, 1, 2, 3, 4, 5, 6, 7, 8, 9, 10, 11, 12, 13, 14, 15, 16, 17, 18, 19, 20, 21], [0, 1, 2, 3, 4, 5, 6, 7, 8, 9, 10, 11, 12, 13, 14, 15, 16, 17, 18, 19, 20, 21, 22], [0, 1, 2, 3, 4, 5, 6, 7, 8, 9, 10, 11, 12, 13, 14, 15, 16, 17, 18, 19, 20, 21, 22, 23], [0, 1, 2, 3, 4, 5, 6, 7, 8, 9, 10, 11, 12, 13, 14, 15, 16, 17, 18, 19, 20, 21, 22, 23, 24], [0, 1, 2, 3, 4, 5, 6, 7, 8, 9, 10, 11, 12, 13, 14, 15, 16, 17, 18, 19, 20, 21, 22, 23, 24, 25], [0, 1, 2, 3, 4, 5, 6, 7, 8, 9, 10, 11, 12, 13, 14, 15, 16, 17, 18, 19, 20, 21, 22, 23, 24], [0, 1, 2, 3, 4, 5, 6, 7, 8, 9, 10, 11, 12, 13, 14, 15, 16, 17, 18, 19, 20, 21, 22, 23, 24], [0, 1, 2, 3, 4, 5, 6, 7, 8, 9, 10, 11, 12, 13, 14, 15, 16, 17, 18, 19, 20, 21, 22, 23, 24, 27, 28], [0, 1, 2, 3, 4, 5, 6, 7, 8, 9, 10, 11, 12, 13, 14, 15, 16, 17, 18, 19, 20, 21, 22, 23, 24, 27, 28, 29], [0, 1, 2, 3, 4, 5, 6, 7, 8, 9, 10, 11, 12, 13, 14, 15, 16, 17, 18, 19, 20, 21, 22, 23, 24, 27, 28, 29, 30], [0, 1, 2, 3, 4, 5, 6, 7, 8, 9, 10, 11, 12, 13, 14, 15, 16, 17, 18, 19, 20, 21, 22, 23, 24, 25, 26, 27, 28, 29, 30, 31], [0, 1, 2, 3, 4, 5, 6, 7, 8, 9, 10, 11, 12, 13, 14, 15, 16, 17, 18, 19, 20, 21, 22, 23, 24, 25, 26, 27, 28, 29, 30, 31, 32], [0, 1, 2, 3, 4, 5, 6, 7, 8, 9, 10, 11, 12, 13, 14, 15, 16, 17, 18, 19, 20, 21, 22, 23, 24, 25, 26, 27, 28, 29, 30, 31, 32, 33], [0, 1, 2, 3, 4, 5, 6, 7, 8, 9, 10, 11, 12, 13, 14, 15, 16, 17, 18, 19, 20, 21, 22, 23, 24, 25, 26, 27, 28, 29, 30, 31, 32, 33, 34], [0, 1, 2, 3, 4, 5, 6, 7, 8, 9, 10, 11, 12, 13, 14, 15, 16, 17, 18, 19, 20, 21, 22, 23, 24, 25, 26, 27, 28, 29, 30, 31, 32, 33, 34, 35], [0, 1, 2, 3, 4, 5, 6, 7, 8, 9, 10, 11, 12, 13, 14, 15, 16, 17, 18, 19, 20, 21, 22, 23, 24, 25, 26, 27, 28, 29, 30, 31, 32, 33, 34], [0, 1, 2, 3, 4, 5, 6, 7, 8, 9, 10, 11, 12, 13, 14, 15, 16, 17, 18, 19, 20, 21, 22, 23, 24, 25, 26, 27, 28, 29, 30, 31, 32, 33, 34, 35, 36, 37], [0, 1, 2, 3, 4, 5, 6, 7, 8, 9, 10, 11, 12, 13, 14, 15, 16, 17, 18, 19, 20, 21, 22, 23, 24, 25, 26, 27, 28, 29, 30, 31, 32, 33, 34, 35, 36, 37, 38], [0, 1, 2, 3, 4, 5, 6, 7, 8, 9, 10, 11, 12, 13, 14, 15, 16, 17, 18, 19, 20, 21, 22, 23, 24, 25, 26, 27, 28, 29, 30, 31, 32, 33, 34, 35, 36, 37, 38, 39], [0, 1, 2, 3, 4, 5, 6, 7, 8, 9, 10, 11, 12, 13, 14, 15, 16, 17, 18, 19, 20, 21, 22, 23, 24, 25, 26, 27, 28, 29, 30, 31, 32, 33, 34, 35, 36, 37, 38, 39, 40], [0, 1, 2, 3, 4, 5, 6, 7, 8, 9, 10, 11, 12, 13, 14, 15, 16, 17, 18, 19, 20, 21, 22, 23, 24, 25, 26, 27, 28, 29, 30, 31, 32, 33, 34, 35, 36, 37, 38, 39, 40], [0, 1, 2, 3, 4, 5, 6, 7, 8, 9, 10, 11, 12, 13, 14, 15, 16, 17, 18, 19, 20, 21, 22, 23, 24, 25, 26, 27, 28, 29, 30, 31, 32, 33, 34, 35, 36, 37, 38, 39, 40], [0, 1, 2, 3, 4, 5, 6, 7, 8, 9, 10, 11, 12, 13, 14, 15, 16, 17, 18, 19, 20, 21, 22, 23, 24, 25, 26, 27, 28, 29, 30, 31, 32, 33, 34, 35, 36, 37, 38, 39, 40, 42, 43], [0, 1, 2, 3, 4, 5, 6, 7, 8, 9, 10, 11, 12, 13, 14, 15, 16, 17, 18, 19, 20, 21, 22, 23, 24, 25, 26, 27, 28, 29, 30, 31, 32, 33, 34, 35, 36, 37, 38, 39, 40], [0, 1, 2, 3, 4, 5, 6, 7, 8, 9, 10, 11, 12, 13, 14, 15, 16, 17, 18, 19, 20, 21, 22, 23, 24, 25, 26, 27, 28, 29, 30, 31, 32, 33, 34, 35, 36, 37, 38, 39, 40], [0, 1, 2, 3, 4, 5, 6, 7, 8, 9, 10, 11, 12, 13, 14, 15, 16, 17, 18, 19, 20, 21, 22, 23, 24, 25, 26, 27, 28, 29, 30, 31, 32, 33, 34, 35, 36, 37, 38, 39, 40, 46], [0, 1, 2, 3, 4, 5, 6, 7, 8, 9, 10, 11, 12, 13, 14, 15, 16, 17, 18, 19, 20, 21, 22, 23, 24, 25, 26, 27, 28, 29, 30, 31, 32, 33, 34, 35, 36, 37, 38, 39, 40, 45, 46, 47], [0, 1, 2, 3, 4, 5, 6, 7, 8, 9, 10, 11, 12, 13, 14, 15, 16, 17, 18, 19, 20, 21, 22, 23, 24, 25, 26, 27, 28, 29, 30, 31, 32, 33, 34, 35, 36, 37, 38, 39, 40, 42, 43, 44, 45, 46, 47, 48], [0, 1, 2, 3, 4, 5, 6, 7, 8, 9, 10, 11, 12, 13, 14, 15, 16, 17, 18, 19, 20, 21, 22, 23, 24, 25, 26, 27, 28, 29, 30, 31, 32, 33, 34, 35, 36, 37, 38, 39, 40, 42, 43, 44, 45, 46, 47, 48, 49], [0, 1, 2, 3, 4, 5, 6, 7, 8, 9, 10, 11, 12, 13, 14, 15, 16, 17, 18, 19, 20, 21, 22, 23, 24, 25, 26, 27, 28, 29, 30, 31, 32, 33, 34, 35, 36, 37, 38, 39, 40, 41, 42, 43, 44, 45, 46, 47, 48, 49, 50], [0, 1, 2, 3, 4, 5, 6, 7, 8, 9, 10, 11, 12, 13, 14, 15, 16, 17, 18, 19, 20, 21, 22, 23, 24, 25, 26, 27, 28, 29, 30, 31, 32, 33, 34, 35, 36, 37, 38, 39, 40, 41, 42, 43, 44, 45, 46, 47, 48, 49, 50, 51], [0, 1, 2, 3, 4, 5, 6, 7, 8, 9, 10, 11, 12, 13, 14, 15, 16, 17, 18, 19, 20, 21, 22, 23, 24, 25, 26, 27, 28, 29, 30, 31, 32, 33, 34, 35, 36, 37, 38, 39, 40, 41, 42, 43, 44, 45, 46, 47, 48, 49, 50, 51, 52]], h17⟩
  have hmono : ∀ zq ∈ R.F, ∀ zx zh zi, Sees zh zi → zq.2 zx zh → zq.2 zx zi := mono_cons (fun _ _ _ s c => c.sees s) (mono_cons (fun _ _ _ s c => c.sees s) (mono_nil))
  refine x_region (by kernel_rfl) R hJ 54 [.pu, .pu, .pu, .pu, .pu, .pu, .pu, .pu, .pu, .pu, .pu, .pu, .pu, .pu, .pu, .pu, .ld 0 1, .pu, .pu, .cl, .pu, .lf 0 1, .cl, .pu, .pu, .pu, .ld 0 2, .pu, .pu, .cl, .pu, .lf 0 2, .cl, .pu, .pu, .pu, .ld 0 5, .ld 2 0, .cl, .pu, .pu, .pu, .pu, .pu, .cl, .pu, .pu, .cl, .cl, .cl, .cl, .cl, .pu, .pu] (by kernel_rfl) hmono (fun _ _ _ => by kernel_rfl) (fun hT hA => ?_) ?_
  · clear hJ
    refine And.intro (r_pure hT hA 83 (fun gh => .pointer (some ⟨b20, o21 + k * 8, none⟩)) [14, 17, 18] 19 (by kernel_rfl) (by kernel_rfl) (by kernel_rfl) (fun _ => by kernel_rfl) (fun gh w => run_indexAddr (t := 43) (x := (.tmp 81)) (y := (.tmp 82)) (b := b20) (off := o21) (n := x.length) (cap := c) (k := k) (e := 54) (kk := 8) (by kernel_rfl) (by kernel_rfl) (by kernel_rfl) (by first | omega | (simp; omega)) Try.underlying43 (by kernel_rfl))) ?_
    refine And.intro (r_pure hT hA 86 (fun gh => .bool true) [14, 16, 21] 22 (by kernel_rfl) (by kernel_rfl) (by kernel_rfl) (fun _ => by kernel_rfl) (fun gh w => run_eq (v0 := .bool (z.id == z.id)) (by kernel_rfl) (congrArg Value.bool (beq_self_eq_true _)))) ?_
    refine And.intro (r_pure hT hA 93 (fun gh => .pointer (some ⟨b20, o21 + k * 8, none⟩)) [24, 27, 28] 29 (by kernel_rfl) (by kernel_rfl) (by kernel_rfl) (fun _ => by kernel_rfl) (fun gh w => run_indexAddr (t := 43) (x := (.tmp 91)) (y := (.tmp 92)) (b := b20) (off := o21) (n := x.length) (cap := c) (k := k) (e := 54) (kk := 8) (by kernel_rfl) (by kernel_rfl) (by kernel_rfl) (by first | omega | (simp; omega)) Try.underlying43 (by kernel_rfl))) ?_
    refine And.intro (r_pure hT hA 96 (fun gh => .bool true) [24, 26, 31] 32 (by kernel_rfl) (by kernel_rfl) (by kernel_rfl) (fun _ => by kernel_rfl) (fun gh w => run_eqop (x := (.tmp 90)) (y := (.tmp 95)) (v := ⟨z.kk, z.kn, z.ks⟩) (w := ⟨z.kk, z.kn, z.ks⟩) (by kernel_rfl) (by kernel_rfl) (by kernel_rfl) (eqB_iff.2 rfl))) ?_
    refine And.intro (r_pure hT hA 102 (fun gh => .bool true) [34, 36, 37] 38 (by kernel_rfl) (by kernel_rfl) (by kernel_rfl) (fun _ => by kernel_rfl) (fun gh w => run_eqop (x := (.tmp 100)) (y := (.tmp 101)) (v := ⟨1 + q, vn, vt⟩) (w := ⟨1 + q, vn, vt⟩) (by kernel_rfl) (by kernel_rfl) (by kernel_rfl) (eqB_iff.2 rfl))) ?_
    refine And.intro (r_pure hT hA 108 (fun gh => .slice (some ⟨b20, o21, none⟩) k c) [40, 42, 43] 44 (by kernel_rfl) (by kernel_rfl) (by kernel_rfl) (fun _ => by kernel_rfl) (fun gh w => run_hi (t := 43) (e := 54) (x := (.tmp 106)) (y := (.tmp 107)) (A := (some ⟨b20, o21, none⟩)) (n := x.length) (cap := c) (k := k) (kk := 8) (by kernel_rfl) (by kernel_rfl) (by kernel_rfl) (by omega) Try.underlying43 (by kernel_rfl))) ?_
    refine And.intro (r_pure hT hA 111 (fun gh => .int .i64 ((k + 1 : Nat) : Int)) [40, 46] 47 (by kernel_rfl) (by kernel_rfl) (by kernel_rfl) (fun _ => by kernel_rfl) (fun gh w => run_eq (v0 := .int .i64 (IntKind.i64.wrap ((k : Int) + 1))) (by kernel_rfl) (i64_wrap (by omega) (by omega)))) ?_
    refine And.intro (r_pure hT hA 112 (fun gh => .slice Ad (x.length - (k + 1)) (c - (k + 1))) [40, 45, 47] 48 (by kernel_rfl) (by kernel_rfl) (by kernel_rfl) (fun _ => by kernel_rfl) (fun gh w => run_lo (t := 43) (e := 54) (x := (.tmp 109)) (y := (.tmp 111)) (A := (some ⟨b20, o21, none⟩)) (A' := Ad) (n := x.length) (cap := c) (k := (k + 1)) (kk := 8) (by kernel_rfl) (by kernel_rfl) (by kernel_rfl) (by omega) Try.underlying43 (by kernel_rfl) hAd)) ?_
    refine And.intro (r_fact hT hA hmono ⟨fun _ _ => by kernel_rfl, fun _ _ => by kernel_rfl, fun _ _ => by kernel_rfl⟩ 113 (fun g => .slice (some ⟨g, 0, none⟩) 2 2) [40, 44, 48] 49 (by kernel_rfl) (by kernel_rfl) (fun _ => by kernel_rfl) (fun gh => [.slice (some ⟨b20, o21, none⟩) k c, .slice Ad (x.length - (k + 1)) (c - (k + 1))]) 43 (fun _ _ => by kernel_rfl) (fun gh zb zH zc zj zq zhq zhe => own_fact (i := 49) (k := 0) (f := fun gh hh => Cells hh (blkOf (gh 49)) 0 [.slice (some ⟨b20, o21, none⟩) k c, .slice Ad (x.length - (k + 1)) (c - (k + 1))]) (by kernel_rfl) (by kernel_rfl) zc zj zq zhq zhe)) ?_
    refine And.intro (r_call hT hA hmono ⟨fun _ _ => by kernel_rfl, fun _ _ => by kernel_rfl, fun _ _ => by kernel_rfl⟩ 114 (fun u => .slice (sA u) (sN u) (sC u)) [40, 49] 50 (by kernel_rfl) (by kernel_rfl) (fun _ => by kernel_rfl) 31 (fun gh => #[.slice (some ⟨(blkOf (gh 49)), 0, none⟩) 2 2]) (fun _ _ => by kernel_rfl) (fun gh H sH fH lent => C0.facts (R := R) (x := gh) (i := 50) (n := 1) (F := (fun u => .slice (sA u) (sN u) (sC u))) (G := fun u hh => RS hh 8 (.slice (sA u) (sN u) (sC u)) (lcs (x.take k ++ x.drop (k + 1)))) (f := fun gh hh => RS hh 8 (.slice (sA (gh 50)) (sN (gh 50)) (sC (gh 50))) (lcs (x.take k ++ x.drop (k + 1)))) (htd _ _ _ _ _ (hx.sees (s13.trans (s16.trans (s18.trans sH)))) hAd (fH 0 _ rfl (by kernel_rfl))) (by kernel_rfl) (by kernel_rfl) (fun _ _ r => r))) ?_
    refine And.intro (r_callv hT hA hmono 115 (fun gh => .bool true) [40, 41, 50] 51 (by kernel_rfl) (by kernel_rfl) (by kernel_rfl) (fun _ => by kernel_rfl) 29 (fun gh => #[.slice (sA u2) (sN u2) (sC u2), .slice (sA (gh 50)) (sN (gh 50)) (sC (gh 50))]) (fun _ _ => by kernel_rfl) (fun gh H sH fH lent => hEq _ _ _ (hr9.sees sH) (fH 1 _ rfl (by kernel_rfl)))) ?_
    trivial
  clear hJ a w; intro gh h26 a w sR hJ1 hF; have s27 : Sees h17 h26 := sR; clear sR
  have hJ : K ⟨117, h.w, h.bad, []⟩ [(6, .bool true)] [.box b19 [.string z.f, .int .i64 z.id, .int .i64 z.kk, .int .i64 z.kn, .string z.ks, .int .i64 (1 + q), .int .i64 vn, .string vt], .box b14 [.string ⟨#[]⟩, .int .i64 0, .int .i64 0, .int .i64 0, .string ⟨#[]⟩, .int .i64 0, .int .i64 0, .string ⟨#[]⟩], .box b11 [.int .i64 (1 + q), .int .i64 vn, .string vt], .box b1 [.int .i64 r.k, .int .i64 r.a, .int .i64 r.b, .string r.t]] [(b20, o21 + k * 8, [.string z.f, .int .i64 z.id, .int .i64 z.kk, .int .i64 z.kn, .string z.ks, .int .i64 z.ak, .int .i64 z.an, .string z.as']), (b20, o21 + k * 8, [.string z.f, .int .i64 z.id, .int .i64 z.kk, .int .i64 z.kn, .string z.ks, .int .i64 z.ak, .int .i64 z.an, .string z.as']), (b2, 0, [.int .i64 0, .int .i64 0, .int .i64 0, .string ⟨#[]⟩])] h26 a w := hJ1.to (by kernel_rfl) (by kernel_rfl) rfl
  have f24 : Cells h26 (blkOf (gh 49)) 0 [.slice (some ⟨b20, o21, none⟩) k c, .slice Ad (x.length - (k + 1)) (c - (k + 1))] := Reg.fact (i := 49) (f := fun gh hh => Cells hh (blkOf (gh 49)) 0 [.slice (some ⟨b20, o21, none⟩) k c, .slice Ad (x.length - (k + 1)) (c - (k + 1))]) hF 0 (by kernel_rfl)
  replace hJ := hJ.fact f24
  have f114 : RS h26 8 (.slice (sA (gh 50)) (sN (gh 50)) (sC (gh 50))) (lcs (x.take k ++ x.drop (k + 1))) := Reg.fact (i := 50) (f := fun gh hh => RS hh 8 (.slice (sA (gh 50)) (sN (gh 50)) (sC (gh 50))) (lcs (x.take k ++ x.drop (k + 1)))) hF 1 (by kernel_rfl)
  clear hJ1 hF hmono R
  generalize blkOf (gh 49) = b25 at *
  generalize gh 50 = u114 at *
  clear gh
  refine rx hJ false 2 [] [] (.ok (.out .ret) [] [(6, .bool true)] [.box b19 [.string z.f, .int .i64 z.id, .int .i64 z.kk, .int .i64 z.kn, .string z.ks, .int .i64 (1 + q), .int .i64 vn, .string vt], .box b14 [.string ⟨#[]⟩, .int .i64 0, .int .i64 0, .int .i64 0, .string ⟨#[]⟩, .int .i64 0, .int .i64 0, .string ⟨#[]⟩], .box b11 [.int .i64 (1 + q), .int .i64 vn, .string vt], .box b1 [.int .i64 r.k, .int .i64 r.a, .int .i64 r.b, .string r.t]] [(b25, 0, [.slice (some ⟨b20, o21, none⟩) k c, .slice Ad (x.length - (k + 1)) (c - (k + 1))]), (b20, o21 + k * 8, [.string z.f, .int .i64 z.id, .int .i64 z.kk, .int .i64 z.kn, .string z.ks, .int .i64 z.ak, .int .i64 z.an, .string z.as']), (b20, o21 + k * 8, [.string z.f, .int .i64 z.id, .int .i64 z.kk, .int .i64 z.kn, .string z.ks, .int .i64 z.ak, .int .i64 z.an, .string z.as']), (b2, 0, [.int .i64 0, .int .i64 0, .int .i64 0, .string ⟨#[]⟩])]) trivial trivial (fun _ => by kernel_rfl) ?_
  clear hJ a w; intro a w hJ
  refine x_end (hQ [.bool true] _ [] hJ (.rtmp hJ.j (by kernel_rfl) .nil) (no_own _) rfl ?_).1
  exact rfl

theorem netAnswers_walk (v : Value) (l : List RawD) (i : Int) (r : RawD) (w : World) (h : RawsOf w v l) (i0 : -9223372036854775808 ≤ i) (i1 : i ≤ 9223372036854775807) (hr : r.ok) :
    Calls Try.prog 9 #[v, .int .i64 i, r.val] w fun e w' => e = .returned (.bool true) ∧ Below w.heap.size w w' :=
  C0.law (netAnswers_c l v i r ⟨w, []⟩ h.rs h.2.1 h.2.2 i0 i1 hr)

namespace netAnswersLaw
open Go.ChangeShapes Go.WideShapes Go.ChangeAt Go.RowKit
open Go.ChangeMaps (open_string shut_string)
set_option linter.unusedVariables false

set_option maxRecDepth 100000 in
theorem lifted (os : Os) (started : os.Started) (H : Type) (enc : TypeId × Value → H) :
    ReturnsInHanded {} Try.checked os 9 .any (Rows.netAnswersSpec.pre6 enc Try.prog Try.f9 Rows.netAnswersRow.domain false) (Rows.netAnswersSpec.post enc Try.prog Try.f9 false true false false) := by
  refine returnsInHanded_of_change_sized (C := Try.checked) ownNone started (by kernel_rfl) Try.func9
    (ChangeSpec.witness6 (enc := enc) (C := Try.checked) false ⟨#[], #[.slice none 0 0, .int .i64 0, .agg #[.int .i64 0, .int .i64 0, .int .i64 0, .string ByteArray.empty]], []⟩ 8 (by kernel_rfl) (by kernel_rfl) (by kernel_rfl) (by kernel_rfl)) ?_
  intro W base args ds gs before hval0 hW hcnd hsz0 _
  have hval : ∀ (j : Nat) t v, Try.f9.params[j]? = some t → args[j]? = some v → Value.okWide Try.prog W .any base t v := hval0
  have hsz : (DataW.weightsEach Try.prog (Try.f9.params.toList ++ Rows.netAnswersSpec.plain.varTypes Try.prog) (ds ++ gs)).all (· ≤ reachBytes) = true := hsz0
  have hW' := hW
  obtain ⟨p, q, hA0, hV, rfl, hfz, hnd⟩ := hW
  have hA : DataW.TrodAll enc Try.prog W 0 (fun _ => true) true Try.f9.params.toList args.toList ds p := hA0
  rw [Try.params9] at hA hval hsz
  obtain ⟨v0, vs0, d0, ds0, p0, q0, hargs, rfl, rfl, h0, r0⟩ := trodAll_cons hA
  obtain ⟨v1, vs1, d1, ds1, p1, q1, rfl, rfl, rfl, h1, r1⟩ := trodAll_cons r0
  obtain ⟨v2, vs2, d2, ds2, p2, q2, rfl, rfl, rfl, h2, r2⟩ := trodAll_cons r1
  obtain ⟨rfl, rfl, rfl⟩ := trodAll_nil r2
  obtain rfl : args = #[v0, v1, v2] := by cases args; simp_all
  obtain ⟨rfl, rfl⟩ := trodVars_none hV
  have k0 := h0
  have lt0 : ∀ x ∈ p0, x.block < W.heap.size := by obtain ⟨m, hm⟩ := k0; exact DataW.trod_lt m _ _ _ hm
  obtain ⟨a0, w0⟩ := open_rows (hval 0 22 v0 rfl rfl) h0 (fun es ss hd => sized_slice hsz (j := 0) (t := 22) (elems := es) (spare := ss) rfl (by rw [hd]; rfl) Try.underlying22)
  have k1 := h1
  have lt1 : ∀ x ∈ p1, x.block < W.heap.size := by obtain ⟨m, hm⟩ := k1; exact DataW.trod_lt m _ _ _ hm
  obtain ⟨a1, rfl, -, -, w1⟩ := open_int Try.underlying3 (hval 1 3 v1 rfl rfl) h1
  have k2 := h2
  have lt2 : ∀ x ∈ p2, x.block < W.heap.size := by obtain ⟨m, hm⟩ := k2; exact DataW.trod_lt m _ _ _ hm
  obtain ⟨a2, rfl, w2⟩ := open_raw (hval 2 47 v2 rfl rfl) h2
  clear hA0 hval0 hsz0
  refine (netAnswers_walk v0 a0 a1 a2 W w0 (int_lo w1) (int_hi w1) w2).mono fun e W' ⟨he, bel⟩ => ?_
  subst he
  exact ⟨_, rfl, _, _, _, [], _, [], hW', trodAll_mk1 (shut_bool Try.underlying4 _), (trodAll_cons_mk (Below.trod laidOutTrue (by kernel_rfl) (of_decide_eq_true (by kernel_rfl)) k0 bel lt0) (trodAll_cons_mk (Below.trod laidOutTrue (by kernel_rfl) (of_decide_eq_true (by kernel_rfl)) k1 bel lt1) (trodAll_cons_mk (Below.trod laidOutTrue (by kernel_rfl) (of_decide_eq_true (by kernel_rfl)) k2 bel lt2) trodAll_mk0))), rfl, bel.frame _, fun h => by cases h⟩

theorem over : Rows.netAnswersRow.holds Try.pinned (OpenSpec.ofChange Rows.netAnswersSpec) :=
  OpenClaim.holds_of_wide 9 Try.f9 rfl rfl rfl rfl rfl rfl rfl ⟨rfl, rfl, rfl, rfl, rfl⟩ rfl rfl rfl rfl rfl (by kernel_rfl) Try.func9 (by kernel_rfl)
    (of_decide_eq_true (by kernel_rfl)) (by unfold Func.isWrapper; first | (rw [if_pos (by decide +kernel)]; kernel_rfl) | (rw [if_neg (by decide +kernel)]; exact ⟨rfl, rfl⟩))
    (fun os started H enc _ => lifted os started H enc)

end netAnswersLaw
theorem netAnswers_holds : Rows.NetAnswersSaid := netAnswersLaw.over
#print axioms netAnswers_holds
end Go.Proofs.Ytpckomnpeainlab
