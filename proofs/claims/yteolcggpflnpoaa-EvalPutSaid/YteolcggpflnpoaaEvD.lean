/-
  The contracts of eval's machine: all, of.
-/
import Derived.Test.YteolcggpflnpoaaEvC
namespace Go.Proofs.Yteolcggpflnpoaa
open Go.RowKit

theorem vrows_snoc (l : List Vl) (e : Vl) : vrows (l ++ [e]) = vrows l ++ [e.cells] := by simp [vrows]
def zV : Vl := ⟨0, 0, ⟨#[]⟩⟩
theorem lackV_step (p : Option Vl) (v : Vl) (l : List Vl) (h : v.k ≠ 5) : lackV p (v :: l) = lackV (if v.k = 4 then some v else p) l := by
  conv => lhs; unfold lackV
  rw [if_neg h]
theorem lackV_hit (p : Option Vl) (v : Vl) (l : List Vl) (h : v.k = 5) : lackV p (v :: l) = some v := by
  unfold lackV
  rw [if_pos h]
theorem drop_at {α : Type} {l : List α} {k : Nat} {x : α} (h : l[k]? = some x) : l.drop k = x :: l.drop (k + 1) := by
  obtain ⟨hk, rfl⟩ := List.getElem?_eq_some_iff.1 h
  exact List.drop_eq_getElem_cons hk

set_option maxRecDepth 100000 in
theorem all_any (env : Env) (b : Nat) (x : Ex) (sl : Value) (h : Vw) (hx : IsArgs h x sl) (hm : MapAt h b (envEs env)) (hof : OfAll env b x.args) (hl3 : x.args.length ≤ 3) :
    C0 Try.prog 75 #[.map (some b), sl] h (fun v h' => ∃ A n c u, v = .tuple #[.slice A n c, u.val] ∧ (lackV none (evalL env x.args)).getD zV = u ∧ (lackV none (evalL env x.args) = none → n = x.args.length ∧ RS h' 3 (.slice A n c) (vrows (evalL env x.args)))) := by
  obtain ⟨vs, hr, hvs⟩ := hx.form
  obtain ⟨A, cap, rfl, -, -, -⟩ := hr.form
  have hvl := hvs.len
  have hrl := exRows_len hvl
  rw [hrl] at hr ⊢
  rw [evalL_map]
  generalize hL : x.args.length = len at *
  have hel : (x.args.map (evalE env)).length = len := by rw [List.length_map, hL]
  refine x_con Try.func75 (c := Try.f75.body.getD .skip) (by kernel_rfl) (N := 35) rfl (by kernel_rfl) ?_
  intro hbx hbad Q hQ a w hJ
  replace hJ : K ⟨35, h.w, h.bad, []⟩ [(0, .map (some b)), (1, .slice A len cap)] [] [] h a w := hJ.to (by kernel_rfl) (by kernel_rfl) rfl
  replace hJ := hJ.nilrow 28 3
  refine rx hJ false 25 [.own, .own] [] (.new fun b1 => .new fun b2 => .ok (.code [0, 1, 0, 1, 1, 1]) [.block 0, .seq [1, 1, 1, 1]] [(0, .map (some b)), (4, .slice none 0 0), (5, .pointer (some ⟨b1, 0, none⟩)), (6, .slice none 0 0), (7, .pointer (some ⟨b2, 0, none⟩)), (11, .slice A len cap), (12, .int .i64 (len : Int)), (13, .int .i64 0)] [.box b2 [.int .i64 0, .int .i64 0, .string ⟨#[]⟩], .box b1 [.int .i64 0, .int .i64 0, .string ⟨#[]⟩], .row (.slice none 0 0) 28 3 ([])] []) trivial trivial (fun b1 b2 _ => by kernel_rfl) ?_
  clear hJ a w; intro b1 b2 a w hJ
  refine x_loop (fun (k : Nat) a w => ∃ (h3 : Vw) (v : Value) (pd : Option Vl), K ⟨35, h.w, h.bad, []⟩ [(0, .map (some b)), (5, .pointer (some ⟨b1, 0, none⟩)), (7, .pointer (some ⟨b2, 0, none⟩)), (11, .slice A len cap), (12, .int .i64 (len : Int)), (13, .int .i64 (k : Int)), (6, v)] [.box b2 [.int .i64 ((pd.getD zV).k), .int .i64 ((pd.getD zV).n), .string ((pd.getD zV).s)], .box b1 [.int .i64 0, .int .i64 0, .string ⟨#[]⟩], .row v 28 3 (vrows ((x.args.map (evalE env)).take k))] [] h3 a w ∧ Sees h h3 ∧ (k ≤ len) ∧ (lackV none (x.args.map (evalE env)) = lackV pd ((x.args.map (evalE env)).drop k))) (fun k => len - k) (0) (by kernel_rfl) ⟨h, (.slice none 0 0), none, hJ.to (by kernel_rfl) (by kernel_rfl) rfl, Sees.refl _, Nat.zero_le _, rfl⟩ ?_
  clear hJ a w; rintro k a w ⟨h3, v, pd, hJ, s4, hk, hlk⟩
  refine rx hJ false 6 [] [] (.ok (.code [0, 1, 0, 0, 1, 0, 1, 1, 1]) [.seq [1, 1, 0, 0, 1, 0, 1, 1, 1]] [(0, .map (some b)), (5, .pointer (some ⟨b1, 0, none⟩)), (7, .pointer (some ⟨b2, 0, none⟩)), (11, .slice A len cap), (12, .int .i64 (len : Int)), (13, .int .i64 (k : Int)), (6, v), (14, .bool (decide ((k : Int) < (len : Int))))] [.box b2 [.int .i64 ((pd.getD zV).k), .int .i64 ((pd.getD zV).n), .string ((pd.getD zV).s)], .box b1 [.int .i64 0, .int .i64 0, .string ⟨#[]⟩], .row v 28 3 (vrows ((x.args.map (evalE env)).take k))] []) trivial trivial (fun _ => by kernel_rfl) ?_
  clear hJ a w; intro a w hJ
  rcases (by omega : k < len ∨ len = k) with hlt | hke
  · obtain ⟨y, hy⟩ : ∃ y, x.args[k]? = some y := ⟨_, List.getElem?_eq_getElem (by omega)⟩
    obtain ⟨u, hu⟩ : ∃ u, vs[k]? = some u := ⟨_, List.getElem?_eq_getElem (by omega)⟩
    have hyu := AllArgs.get hvs hy hu
    obtain ⟨Au, nu, cu, rfl⟩ := hyu.slice
    have hrow : (exRows x.args vs)[k]? = some (exRow y (.slice Au nu cu)) := by show (List.zipWith exRow _ _)[k]? = _; rw [List.getElem?_zipWith, hy, hu]
    have ho := hof y (List.mem_of_getElem? hy)
    have hek : (x.args.map (evalE env))[k]? = some (evalE env y) := by rw [List.getElem?_map, hy]; rfl
    rw [drop_at hek] at hlk
    have htk := take_snoc' _ k _ hek
    have htl : ((x.args.map (evalE env)).take k).length = k := by rw [List.length_take, hel]; omega
    generalize evalE env y = e at *
    generalize x.args.map (evalE env) = vals at *
    refine x_true hJ (t := decide ((k : Int) < (len : Int))) (by kernel_rfl) (decide_eq_true (by omega)) ?_
    refine rx hJ false 6 [] [] (.ok (.ops [0, 0, 0, 1, 1, 0, 0, 1, 0, 1, 1, 1] 0) [.seq [1, 0, 0, 1, 1, 0, 0, 1, 0, 1, 1, 1], .block 1, .seq [1, 1, 1, 0, 0, 1, 0, 1, 1, 1]] [(0, .map (some b)), (5, .pointer (some ⟨b1, 0, none⟩)), (7, .pointer (some ⟨b2, 0, none⟩)), (11, .slice A len cap), (12, .int .i64 (len : Int)), (13, .int .i64 (k : Int)), (6, v), (14, .bool (decide ((k : Int) < (len : Int))))] [.box b2 [.int .i64 ((pd.getD zV).k), .int .i64 ((pd.getD zV).n), .string ((pd.getD zV).s)], .box b1 [.int .i64 0, .int .i64 0, .string ⟨#[]⟩], .row v 28 3 (vrows (vals.take k))] []) trivial trivial (fun _ => by kernel_rfl) ?_
    clear hJ a w; intro a w hJ
    obtain ⟨b5, o6, rfl, -, c7⟩ := RS.row hr (hrow)
    replace hJ := hJ.fact (c7.sees s4)
    refine rx hJ false 23 [.ix b5 o6 len cap k, .f 0 0, .own, .b 0 0, .b 0 0, .cl 49 #[.map (some b), .agg #[.int .i64 y.op, .int .i64 y.k, .int .i64 y.n, .string y.s, .string y.nm, .slice Au nu cu]] (.agg #[.int .i64 e.k, .int .i64 e.n, .string e.s]), .own, .b 0 0, .b 0 0] [] (.new fun b8 => .new fun b9 => .ok (.code [1, 0, 1, 1, 0, 0, 1, 1, 0, 0, 1, 0, 1, 1, 1]) [.seq [1, 1, 1, 0, 0, 1, 1, 0, 0, 1, 0, 1, 1, 1], .block 1, .seq [1, 1, 1, 0, 0, 1, 0, 1, 1, 1]] [(0, .map (some b)), (5, .pointer (some ⟨b1, 0, none⟩)), (7, .pointer (some ⟨b2, 0, none⟩)), (11, .slice (some ⟨b5, o6, none⟩) len cap), (12, .int .i64 (len : Int)), (13, .int .i64 (k : Int)), (6, v), (14, .bool (decide ((k : Int) < (len : Int)))), (15, .pointer (some ⟨b5, o6 + k * 6, none⟩)), (16, .agg #[.int .i64 y.op, .int .i64 y.k, .int .i64 y.n, .string y.s, .string y.nm, .slice Au nu cu]), (9, .pointer (some ⟨b8, 0, none⟩)), (17, .map (some b)), (18, .agg #[.int .i64 y.op, .int .i64 y.k, .int .i64 y.n, .string y.s, .string y.nm, .slice Au nu cu]), (19, .agg #[.int .i64 e.k, .int .i64 e.n, .string e.s]), (10, .pointer (some ⟨b9, 0, none⟩)), (20, .pointer (some ⟨b9, 0, none⟩)), (21, .int .i64 e.k), (22, .bool (e.k == 5))] [.box b9 [.int .i64 e.k, .int .i64 e.n, .string e.s], .box b8 [.int .i64 y.op, .int .i64 y.k, .int .i64 y.n, .string y.s, .string y.nm, .slice Au nu cu], .box b2 [.int .i64 ((pd.getD zV).k), .int .i64 ((pd.getD zV).n), .string ((pd.getD zV).s)], .box b1 [.int .i64 0, .int .i64 0, .string ⟨#[]⟩], .row v 28 3 (vrows (vals.take k))] [(b5, o6 + k * 6, [.int .i64 y.op, .int .i64 y.k, .int .i64 y.n, .string y.s, .string y.nm, .slice Au nu cu])]) (And.intro (by first | omega | (simp; omega)) (And.intro (fun H sH => ho _ _ (hyu.sees (s4.trans sH)) (hm.sees (s4.trans sH))) (trivial))) trivial (fun b8 b9 _ => by kernel_rfl) ?_
    clear hJ a w; intro b8 b9 a w hJ
    by_cases h5 : e.k = 5
    · rw [lackV_hit _ _ _ h5] at hlk
      refine x_true hJ (t := e.k == 5) (by kernel_rfl) (beq_iff_eq.2 h5) ?_
      refine rx hJ false 1 [] [] (.ok (.code [0, 0, 1, 0, 1, 1, 0, 0, 1, 1, 0, 0, 1, 0, 1, 1, 1]) [.seq [1, 0, 1, 0, 1, 1, 0, 0, 1, 1, 0, 0, 1, 0, 1, 1, 1], .seq [1, 1, 1, 0, 0, 1, 1, 0, 0, 1, 0, 1, 1, 1], .block 1, .seq [1, 1, 1, 0, 0, 1, 0, 1, 1, 1]] [(0, .map (some b)), (5, .pointer (some ⟨b1, 0, none⟩)), (7, .pointer (some ⟨b2, 0, none⟩)), (11, .slice (some ⟨b5, o6, none⟩) len cap), (12, .int .i64 (len : Int)), (13, .int .i64 (k : Int)), (6, v), (14, .bool (decide ((k : Int) < (len : Int)))), (15, .pointer (some ⟨b5, o6 + k * 6, none⟩)), (16, .agg #[.int .i64 y.op, .int .i64 y.k, .int .i64 y.n, .string y.s, .string y.nm, .slice Au nu cu]), (9, .pointer (some ⟨b8, 0, none⟩)), (17, .map (some b)), (18, .agg #[.int .i64 y.op, .int .i64 y.k, .int .i64 y.n, .string y.s, .string y.nm, .slice Au nu cu]), (19, .agg #[.int .i64 e.k, .int .i64 e.n, .string e.s]), (10, .pointer (some ⟨b9, 0, none⟩)), (20, .pointer (some ⟨b9, 0, none⟩)), (21, .int .i64 e.k), (22, .bool (e.k == 5))] [.box b9 [.int .i64 e.k, .int .i64 e.n, .string e.s], .box b8 [.int .i64 y.op, .int .i64 y.k, .int .i64 y.n, .string y.s, .string y.nm, .slice Au nu cu], .box b2 [.int .i64 ((pd.getD zV).k), .int .i64 ((pd.getD zV).n), .string ((pd.getD zV).s)], .box b1 [.int .i64 0, .int .i64 0, .string ⟨#[]⟩], .row v 28 3 (vrows (vals.take k))] [(b5, o6 + k * 6, [.int .i64 y.op, .int .i64 y.k, .int .i64 y.n, .string y.s, .string y.nm, .slice Au nu cu])]) trivial trivial (fun _ => by kernel_rfl) ?_
      clear hJ a w; intro a w hJ
      let R : Reg := ⟨⟨35, h.w, h.bad, []⟩, [(0, 23, fun gh => .agg #[.int .i64 e.k, .int .i64 e.n, .string e.s]), (1, 4, fun gh => .slice none 0 0)], [(0, .map (some b)), (5, .pointer (some ⟨b1, 0, none⟩)), (7, .pointer (some ⟨b2, 0, none⟩)), (11, .slice (some ⟨b5, o6, none⟩) len cap), (12, .int .i64 (len : Int)), (13, .int .i64 (k : Int)), (6, v), (14, .bool (decide ((k : Int) < (len : Int)))), (15, .pointer (some ⟨b5, o6 + k * 6, none⟩)), (16, .agg #[.int .i64 y.op, .int .i64 y.k, .int .i64 y.n, .string y.s, .string y.nm, .slice Au nu cu]), (9, .pointer (some ⟨b8, 0, none⟩)), (17, .map (some b)), (18, .agg #[.int .i64 y.op, .int .i64 y.k, .int .i64 y.n, .string y.s, .string y.nm, .slice Au nu cu]), (19, .agg #[.int .i64 e.k, .int .i64 e.n, .string e.s]), (10, .pointer (some ⟨b9, 0, none⟩)), (20, .pointer (some ⟨b9, 0, none⟩)), (21, .int .i64 e.k), (22, .bool (e.k == 5))], [⟨some (.box b9 [.int .i64 e.k, .int .i64 e.n, .string e.s]), []⟩, ⟨some (.box b8 [.int .i64 y.op, .int .i64 y.k, .int .i64 y.n, .string y.s, .string y.nm, .slice Au nu cu]), []⟩, ⟨some (.box b2 [.int .i64 ((pd.getD zV).k), .int .i64 ((pd.getD zV).n), .string ((pd.getD zV).s)]), []⟩, ⟨some (.box b1 [.int .i64 0, .int .i64 0, .string ⟨#[]⟩]), [(2, fun gh => .box b1 [.int .i64 e.k, .int .i64 e.n, .string e.s])]⟩, ⟨some (.row v 28 3 (vrows (vals.take k))), []⟩], [], [[], [], [0, 1]], h3⟩
      have hmono : ∀ zq ∈ R.F, ∀ zx zh zi, Sees zh zi → zq.2 zx zh → zq.2 zx zi := mono_nil
      refine x_region (by kernel_rfl) R hJ 3 [.ld 0 0, .pu, .st 3 0] (by kernel_rfl) hmono (fun _ _ _ => by kernel_rfl) (fun hT hA => ?_) ?_
      · trivial
      clear hJ a w; intro gh h10 a w sR hJ1 hF; have s11 : Sees h3 h10 := sR; clear sR
      have hJ : K ⟨35, h.w, h.bad, []⟩ [(0, .map (some b)), (5, .pointer (some ⟨b1, 0, none⟩)), (7, .pointer (some ⟨b2, 0, none⟩)), (11, .slice (some ⟨b5, o6, none⟩) len cap), (12, .int .i64 (len : Int)), (13, .int .i64 (k : Int)), (6, v), (14, .bool (decide ((k : Int) < (len : Int)))), (15, .pointer (some ⟨b5, o6 + k * 6, none⟩)), (16, .agg #[.int .i64 y.op, .int .i64 y.k, .int .i64 y.n, .string y.s, .string y.nm, .slice Au nu cu]), (9, .pointer (some ⟨b8, 0, none⟩)), (17, .map (some b)), (18, .agg #[.int .i64 y.op, .int .i64 y.k, .int .i64 y.n, .string y.s, .string y.nm, .slice Au nu cu]), (19, .agg #[.int .i64 e.k, .int .i64 e.n, .string e.s]), (10, .pointer (some ⟨b9, 0, none⟩)), (20, .pointer (some ⟨b9, 0, none⟩)), (21, .int .i64 e.k), (22, .bool (e.k == 5)), (23, .agg #[.int .i64 e.k, .int .i64 e.n, .string e.s]), (4, .slice none 0 0)] [.box b9 [.int .i64 e.k, .int .i64 e.n, .string e.s], .box b8 [.int .i64 y.op, .int .i64 y.k, .int .i64 y.n, .string y.s, .string y.nm, .slice Au nu cu], .box b2 [.int .i64 ((pd.getD zV).k), .int .i64 ((pd.getD zV).n), .string ((pd.getD zV).s)], .box b1 [.int .i64 e.k, .int .i64 e.n, .string e.s], .row v 28 3 (vrows (vals.take k))] [(b5, o6 + k * 6, [.int .i64 y.op, .int .i64 y.k, .int .i64 y.n, .string y.s, .string y.nm, .slice Au nu cu])] h10 a w := hJ1.to (by kernel_rfl) (by kernel_rfl) rfl
      clear hJ1 hF hmono R
      clear gh
      refine rx hJ false 5 [] [] (.ok (.out .ret) [] [(0, .map (some b)), (5, .pointer (some ⟨b1, 0, none⟩)), (7, .pointer (some ⟨b2, 0, none⟩)), (11, .slice (some ⟨b5, o6, none⟩) len cap), (12, .int .i64 (len : Int)), (13, .int .i64 (k : Int)), (6, v), (14, .bool (decide ((k : Int) < (len : Int)))), (15, .pointer (some ⟨b5, o6 + k * 6, none⟩)), (16, .agg #[.int .i64 y.op, .int .i64 y.k, .int .i64 y.n, .string y.s, .string y.nm, .slice Au nu cu]), (9, .pointer (some ⟨b8, 0, none⟩)), (17, .map (some b)), (18, .agg #[.int .i64 y.op, .int .i64 y.k, .int .i64 y.n, .string y.s, .string y.nm, .slice Au nu cu]), (19, .agg #[.int .i64 e.k, .int .i64 e.n, .string e.s]), (10, .pointer (some ⟨b9, 0, none⟩)), (20, .pointer (some ⟨b9, 0, none⟩)), (21, .int .i64 e.k), (22, .bool (e.k == 5)), (23, .agg #[.int .i64 e.k, .int .i64 e.n, .string e.s]), (4, .slice none 0 0)] [.box b9 [.int .i64 e.k, .int .i64 e.n, .string e.s], .box b8 [.int .i64 y.op, .int .i64 y.k, .int .i64 y.n, .string y.s, .string y.nm, .slice Au nu cu], .box b2 [.int .i64 ((pd.getD zV).k), .int .i64 ((pd.getD zV).n), .string ((pd.getD zV).s)], .box b1 [.int .i64 e.k, .int .i64 e.n, .string e.s], .row v 28 3 (vrows (vals.take k))] [(b5, o6 + k * 6, [.int .i64 y.op, .int .i64 y.k, .int .i64 y.n, .string y.s, .string y.nm, .slice Au nu cu])]) trivial trivial (fun _ => by kernel_rfl) ?_
      clear hJ a w; intro a w hJ
      refine x_leave rfl ?_
      refine rx hJ false 2 [] [] (.ok (.out .ret) [] [(5, .pointer (some ⟨b1, 0, none⟩)), (4, .slice none 0 0)] [.box b9 [.int .i64 e.k, .int .i64 e.n, .string e.s], .box b8 [.int .i64 y.op, .int .i64 y.k, .int .i64 y.n, .string y.s, .string y.nm, .slice Au nu cu], .box b2 [.int .i64 ((pd.getD zV).k), .int .i64 ((pd.getD zV).n), .string ((pd.getD zV).s)], .box b1 [.int .i64 e.k, .int .i64 e.n, .string e.s], .row v 28 3 (vrows (vals.take k))] [(b5, o6 + k * 6, [.int .i64 y.op, .int .i64 y.k, .int .i64 y.n, .string y.s, .string y.nm, .slice Au nu cu])]) trivial trivial (fun _ => by kernel_rfl) ?_
      clear hJ a w; intro a w hJ
      refine x_end (hQ [.slice none 0 0, .agg #[.int .i64 e.k, .int .i64 e.n, .string e.s]] _ [] hJ (.rtmp hJ.j (by kernel_rfl) (.rcell hJ.j 3 rfl (by kernel_rfl) (by kernel_rfl) .nil)) (no_own _) rfl ?_).1
      exact ⟨none, 0, 0, e, rfl, by rw [hlk]; rfl, fun hn => by rw [hlk] at hn; cases hn⟩
    · skip
      rw [lackV_step _ _ _ h5] at hlk
      refine x_false hJ (t := e.k == 5) (by kernel_rfl) (beq_eq_false_iff_ne.2 h5) ?_
      refine rx hJ false 10 [.b 0 0] [] (.ok (.code [1, 0, 1, 1, 1, 0, 0, 1, 1, 0, 0, 1, 0, 1, 1, 1]) [.seq [1, 1, 1, 1, 0, 0, 1, 1, 0, 0, 1, 0, 1, 1, 1], .block 1, .seq [1, 1, 1, 0, 0, 1, 0, 1, 1, 1]] [(0, .map (some b)), (5, .pointer (some ⟨b1, 0, none⟩)), (7, .pointer (some ⟨b2, 0, none⟩)), (11, .slice (some ⟨b5, o6, none⟩) len cap), (12, .int .i64 (len : Int)), (13, .int .i64 (k : Int)), (6, v), (14, .bool (decide ((k : Int) < (len : Int)))), (15, .pointer (some ⟨b5, o6 + k * 6, none⟩)), (16, .agg #[.int .i64 y.op, .int .i64 y.k, .int .i64 y.n, .string y.s, .string y.nm, .slice Au nu cu]), (9, .pointer (some ⟨b8, 0, none⟩)), (17, .map (some b)), (18, .agg #[.int .i64 y.op, .int .i64 y.k, .int .i64 y.n, .string y.s, .string y.nm, .slice Au nu cu]), (19, .agg #[.int .i64 e.k, .int .i64 e.n, .string e.s]), (10, .pointer (some ⟨b9, 0, none⟩)), (20, .pointer (some ⟨b9, 0, none⟩)), (21, .int .i64 e.k), (22, .bool (e.k == 5)), (24, .pointer (some ⟨b9, 0, none⟩)), (25, .int .i64 e.k), (26, .bool (e.k == 4))] [.box b9 [.int .i64 e.k, .int .i64 e.n, .string e.s], .box b8 [.int .i64 y.op, .int .i64 y.k, .int .i64 y.n, .string y.s, .string y.nm, .slice Au nu cu], .box b2 [.int .i64 ((pd.getD zV).k), .int .i64 ((pd.getD zV).n), .string ((pd.getD zV).s)], .box b1 [.int .i64 0, .int .i64 0, .string ⟨#[]⟩], .row v 28 3 (vrows (vals.take k))] [(b5, o6 + k * 6, [.int .i64 y.op, .int .i64 y.k, .int .i64 y.n, .string y.s, .string y.nm, .slice Au nu cu])]) trivial trivial (fun _ => by kernel_rfl) ?_
      clear hJ a w; intro a w hJ
      by_cases h4 : e.k = 4
      · rw [if_pos h4] at hlk
        refine x_true hJ (t := e.k == 4) (by kernel_rfl) (beq_iff_eq.2 h4) ?_
        refine rx hJ true 18 [.b 0 0, .b 2 0, .b 0 0, .fix, .ap 4 0 (vrows (vals.take k)) [[.int .i64 e.k, .int .i64 e.n, .string e.s]]] [(32, .int .i64 (IntKind.i64.wrap ((k : Int) + 1)), .int .i64 ((k : Int) + 1))] (.new fun b12 => .nv fun v31 => .ok (.out .normal) [] [(0, .map (some b)), (5, .pointer (some ⟨b1, 0, none⟩)), (7, .pointer (some ⟨b2, 0, none⟩)), (11, .slice (some ⟨b5, o6, none⟩) len cap), (12, .int .i64 (len : Int)), (14, .bool (decide ((k : Int) < (len : Int)))), (15, .pointer (some ⟨b5, o6 + k * 6, none⟩)), (16, .agg #[.int .i64 y.op, .int .i64 y.k, .int .i64 y.n, .string y.s, .string y.nm, .slice Au nu cu]), (9, .pointer (some ⟨b8, 0, none⟩)), (17, .map (some b)), (18, .agg #[.int .i64 y.op, .int .i64 y.k, .int .i64 y.n, .string y.s, .string y.nm, .slice Au nu cu]), (19, .agg #[.int .i64 e.k, .int .i64 e.n, .string e.s]), (10, .pointer (some ⟨b9, 0, none⟩)), (20, .pointer (some ⟨b9, 0, none⟩)), (21, .int .i64 e.k), (22, .bool (e.k == 5)), (24, .pointer (some ⟨b9, 0, none⟩)), (25, .int .i64 e.k), (26, .bool (e.k == 4)), (27, .agg #[.int .i64 e.k, .int .i64 e.n, .string e.s]), (28, v), (29, .agg #[.int .i64 e.k, .int .i64 e.n, .string e.s]), (30, .slice (some ⟨b12, 0, none⟩) 1 1), (31, .slice (sA v31) (sN v31) (sC v31)), (6, .slice (sA v31) (sN v31) (sC v31)), (32, .int .i64 ((k : Int) + 1)), (13, .int .i64 ((k : Int) + 1))] [.box b9 [.int .i64 e.k, .int .i64 e.n, .string e.s], .box b8 [.int .i64 y.op, .int .i64 y.k, .int .i64 y.n, .string y.s, .string y.nm, .slice Au nu cu], .box b2 [.int .i64 e.k, .int .i64 e.n, .string e.s], .box b1 [.int .i64 0, .int .i64 0, .string ⟨#[]⟩], .row (.slice (sA v31) (sN v31) (sC v31)) 28 3 ((vrows (vals.take k)) ++ [[.int .i64 e.k, .int .i64 e.n, .string e.s]])] [(b12, 0, [.int .i64 e.k, .int .i64 e.n, .string e.s]), (b5, o6 + k * 6, [.int .i64 y.op, .int .i64 y.k, .int .i64 y.n, .string y.s, .string y.nm, .slice Au nu cu])]) (And.intro (by rw [List.length_map, htl]; simp; omega) (trivial)) (And.intro (i64_wrap (by omega) (by omega)) (trivial)) (fun b12 v31 _ => by kernel_rfl) ?_
        clear hJ a w; intro b12 v31 h13 a w s14 hJ
        replace hJ := hJ.drop 1
        replace hJ := hJ.drop 0
        exact x_round ⟨k + 1, ⟨h13, .slice (sA v31) (sN v31) (sC v31), some e, (hJ.tof [] (F' := []) (by kernel_rfl)).to (by kernel_rfl) (by rw [htk, vrows_snoc]; rfl) rfl, (s4.trans s14), by omega, hlk⟩, by omega⟩
      · skip
        rw [if_neg h4] at hlk
        refine x_false hJ (t := e.k == 4) (by kernel_rfl) (beq_eq_false_iff_ne.2 h4) ?_
        refine rx hJ true 15 [.b 0 0, .fix, .ap 4 0 (vrows (vals.take k)) [[.int .i64 e.k, .int .i64 e.n, .string e.s]]] [(32, .int .i64 (IntKind.i64.wrap ((k : Int) + 1)), .int .i64 ((k : Int) + 1))] (.new fun b15 => .nv fun v31 => .ok (.out .normal) [] [(0, .map (some b)), (5, .pointer (some ⟨b1, 0, none⟩)), (7, .pointer (some ⟨b2, 0, none⟩)), (11, .slice (some ⟨b5, o6, none⟩) len cap), (12, .int .i64 (len : Int)), (14, .bool (decide ((k : Int) < (len : Int)))), (15, .pointer (some ⟨b5, o6 + k * 6, none⟩)), (16, .agg #[.int .i64 y.op, .int .i64 y.k, .int .i64 y.n, .string y.s, .string y.nm, .slice Au nu cu]), (9, .pointer (some ⟨b8, 0, none⟩)), (17, .map (some b)), (18, .agg #[.int .i64 y.op, .int .i64 y.k, .int .i64 y.n, .string y.s, .string y.nm, .slice Au nu cu]), (19, .agg #[.int .i64 e.k, .int .i64 e.n, .string e.s]), (10, .pointer (some ⟨b9, 0, none⟩)), (20, .pointer (some ⟨b9, 0, none⟩)), (21, .int .i64 e.k), (22, .bool (e.k == 5)), (24, .pointer (some ⟨b9, 0, none⟩)), (25, .int .i64 e.k), (26, .bool (e.k == 4)), (28, v), (29, .agg #[.int .i64 e.k, .int .i64 e.n, .string e.s]), (30, .slice (some ⟨b15, 0, none⟩) 1 1), (31, .slice (sA v31) (sN v31) (sC v31)), (6, .slice (sA v31) (sN v31) (sC v31)), (32, .int .i64 ((k : Int) + 1)), (13, .int .i64 ((k : Int) + 1))] [.box b9 [.int .i64 e.k, .int .i64 e.n, .string e.s], .box b8 [.int .i64 y.op, .int .i64 y.k, .int .i64 y.n, .string y.s, .string y.nm, .slice Au nu cu], .box b2 [.int .i64 ((pd.getD zV).k), .int .i64 ((pd.getD zV).n), .string ((pd.getD zV).s)], .box b1 [.int .i64 0, .int .i64 0, .string ⟨#[]⟩], .row (.slice (sA v31) (sN v31) (sC v31)) 28 3 ((vrows (vals.take k)) ++ [[.int .i64 e.k, .int .i64 e.n, .string e.s]])] [(b15, 0, [.int .i64 e.k, .int .i64 e.n, .string e.s]), (b5, o6 + k * 6, [.int .i64 y.op, .int .i64 y.k, .int .i64 y.n, .string y.s, .string y.nm, .slice Au nu cu])]) (And.intro (by rw [List.length_map, htl]; simp; omega) (trivial)) (And.intro (i64_wrap (by omega) (by omega)) (trivial)) (fun b15 v31 _ => by kernel_rfl) ?_
        clear hJ a w; intro b15 v31 h16 a w s17 hJ
        replace hJ := hJ.drop 1
        replace hJ := hJ.drop 0
        exact x_round ⟨k + 1, ⟨h16, .slice (sA v31) (sN v31) (sC v31), pd, (hJ.tof [] (F' := []) (by kernel_rfl)).to (by kernel_rfl) (by rw [htk, vrows_snoc]; rfl) rfl, (s4.trans s17), by omega, hlk⟩, by omega⟩
  · skip
    have hta : (x.args.map (evalE env)).take k = x.args.map (evalE env) := List.take_of_length_le (by omega)
    rw [hta] at hJ
    rw [List.drop_eq_nil_of_le (by omega)] at hlk
    obtain ⟨A2, c2, hE_v, hc_v, hm_v⟩ := hJ.form (v := v) (e := 28) (k := 3) (l := vrows (x.args.map (evalE env))) 2 (by kernel_rfl)
    rw [show (vrows (x.args.map (evalE env))).length = len from by first | (simp; done) | (simp; omega)] at hE_v hc_v
    rw [hE_v] at hJ
    refine x_false hJ (t := decide ((k : Int) < (len : Int))) (by kernel_rfl) (decide_eq_false (by omega)) ?_
    refine rx hJ false 2 [] [] (.ok (.out (.exit 0)) [] [(0, .map (some b)), (5, .pointer (some ⟨b1, 0, none⟩)), (7, .pointer (some ⟨b2, 0, none⟩)), (11, .slice A len cap), (12, .int .i64 (len : Int)), (13, .int .i64 (k : Int)), (6, .slice A2 len c2), (14, .bool (decide ((k : Int) < (len : Int))))] [.box b2 [.int .i64 ((pd.getD zV).k), .int .i64 ((pd.getD zV).n), .string ((pd.getD zV).s)], .box b1 [.int .i64 0, .int .i64 0, .string ⟨#[]⟩], .row (.slice A2 len c2) 28 3 (vrows (x.args.map (evalE env)))] []) trivial trivial (fun _ => by kernel_rfl) ?_
    clear hJ a w; intro a w hJ
    refine x_leave rfl ?_
    refine rx hJ false 3 [] [] (.ok (.code [0, 1, 1, 1, 1]) [.seq [1, 1, 1, 1, 1]] [(5, .pointer (some ⟨b1, 0, none⟩)), (7, .pointer (some ⟨b2, 0, none⟩)), (6, .slice A2 len c2)] [.box b2 [.int .i64 ((pd.getD zV).k), .int .i64 ((pd.getD zV).n), .string ((pd.getD zV).s)], .box b1 [.int .i64 0, .int .i64 0, .string ⟨#[]⟩], .row (.slice A2 len c2) 28 3 (vrows (x.args.map (evalE env)))] []) trivial trivial (fun _ => by kernel_rfl) ?_
    clear hJ a w; intro a w hJ
    let R : Reg := ⟨⟨35, h.w, h.bad, []⟩, [(0, 33, fun gh => .slice A2 len c2), (1, 34, fun gh => .agg #[.int .i64 ((pd.getD zV).k), .int .i64 ((pd.getD zV).n), .string ((pd.getD zV).s)]), (2, 4, fun gh => .slice A2 len c2)], [(5, .pointer (some ⟨b1, 0, none⟩)), (7, .pointer (some ⟨b2, 0, none⟩)), (6, .slice A2 len c2)], [⟨some (.box b2 [.int .i64 ((pd.getD zV).k), .int .i64 ((pd.getD zV).n), .string ((pd.getD zV).s)]), []⟩, ⟨some (.box b1 [.int .i64 0, .int .i64 0, .string ⟨#[]⟩]), [(3, fun gh => .box b1 [.int .i64 ((pd.getD zV).k), .int .i64 ((pd.getD zV).n), .string ((pd.getD zV).s)])]⟩, ⟨some (.row (.slice A2 len c2) 28 3 (vrows (x.args.map (evalE env)))), []⟩], [], [[], [], [0], [0, 1, 2]], h3⟩
    have hmono : ∀ zq ∈ R.F, ∀ zx zh zi, Sees zh zi → zq.2 zx zh → zq.2 zx zi := mono_nil
    refine x_region (by kernel_rfl) R hJ 4 [.pu, .ld 0 0, .pu, .st 1 0] (by kernel_rfl) hmono (fun _ _ _ => by kernel_rfl) (fun hT hA => ?_) ?_
    · trivial
    clear hJ a w; intro gh h18 a w sR hJ1 hF; have s19 : Sees h3 h18 := sR; clear sR
    have hJ : K ⟨35, h.w, h.bad, []⟩ [(5, .pointer (some ⟨b1, 0, none⟩)), (4, .slice A2 len c2)] [.box b2 [.int .i64 ((pd.getD zV).k), .int .i64 ((pd.getD zV).n), .string ((pd.getD zV).s)], .box b1 [.int .i64 ((pd.getD zV).k), .int .i64 ((pd.getD zV).n), .string ((pd.getD zV).s)], .row (.slice A2 len c2) 28 3 (vrows (x.args.map (evalE env)))] [] h18 a w := hJ1.to (by kernel_rfl) (by kernel_rfl) rfl
    clear hJ1 hF hmono R
    clear gh
    refine rx hJ false 2 [] [] (.ok (.out .ret) [] [(5, .pointer (some ⟨b1, 0, none⟩)), (4, .slice A2 len c2)] [.box b2 [.int .i64 ((pd.getD zV).k), .int .i64 ((pd.getD zV).n), .string ((pd.getD zV).s)], .box b1 [.int .i64 ((pd.getD zV).k), .int .i64 ((pd.getD zV).n), .string ((pd.getD zV).s)], .row (.slice A2 len c2) 28 3 (vrows (x.args.map (evalE env)))] []) trivial trivial (fun _ => by kernel_rfl) ?_
    clear hJ a w; intro a w hJ
    have fr := hJ.j.rowOut0 (v := .slice A2 len c2) (e := 28) (k := 3) (l := vrows (x.args.map (evalE env))) 2 (by kernel_rfl) rfl
    refine x_end (hQ [.slice A2 len c2, .agg #[.int .i64 ((pd.getD zV).k), .int .i64 ((pd.getD zV).n), .string ((pd.getD zV).s)]] _ [] hJ (.rtmp hJ.j (by kernel_rfl) (.rcell hJ.j 1 rfl (by kernel_rfl) (by kernel_rfl) .nil)) (no_own _) rfl ?_).1
    exact ⟨A2, len, c2, pd.getD zV, rfl, by rw [hlk]; rfl, fun _ => ⟨rfl, fr⟩⟩

end Go.Proofs.Yteolcggpflnpoaa
