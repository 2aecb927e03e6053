/-
  The contract of the generator's formulas.
-/
import Derived.Test.YteolcggpflnpoaaGenD
namespace Go.Proofs.Yteolcggpflnpoaa
open Go.RowKit

theorem genE_leaf {l : List RawD} {fs : List Fd} {d : Nat} {kind : Int} {n : Nat} (h : pickL (rawAt l n).k 3 = 0) : genE l fs (d + 1) kind n = (leafE (rawAt l (atNext l n)) fs kind, atNext l (atNext l n)) := by
  show (if _ then _ else _) = _
  rw [if_pos h]
theorem genE_with {l : List RawD} {fs : List Fd} {d : Nat} {kind op : Int} {ks : List Int} {n : Nat} (h : pickL (rawAt l n).k 3 ≠ 0) (hp : pickE (rawAt l n) kind = (op, ks)) : genE l fs (d + 1) kind n = (opE op (manyE (genE l fs d) ks (atNext l n)).1, (manyE (genE l fs d) ks (atNext l n)).2) := by
  show (if _ then _ else _) = _
  rw [if_neg h, hp]
theorem pick_range (n m : Int) (h : 1 ≤ m) : 0 ≤ pickL n m ∧ pickL n m < m := ⟨pickL_lo n m h, pickL_hi n m h⟩
theorem rs_cells {h : Vw} {b k : Nat} (rows : List (List Value)) (hk : ∀ r ∈ rows, r.length = k) (hm : rows.length ≤ maxLen) (c : Cells h b 0 rows.flatten) : RS h k (.slice (some ⟨b, 0, none⟩) rows.length rows.length) rows := by
  refine .inr ⟨b, 0, rows.length, rfl, Nat.le_refl _, hm, c.lt, c.ok, fun i r hi j v hj => ?_⟩
  have := c.lies (i * k + j) v (flat_get rows hk i r j v hi hj)
  rwa [← Nat.add_assoc] at this
theorem rs_ints {h : Vw} {b : Nat} (ks : List Int) (hm : ks.length ≤ maxLen) (c : Cells h b 0 (intRows ks).flatten) : RS h 1 (.slice (some ⟨b, 0, none⟩) ks.length ks.length) (intRows ks) := by
  have := rs_cells (k := 1) (intRows ks) (fun r hr => by obtain ⟨x, -, rfl⟩ := List.mem_map.1 hr; rfl) (by simpa using hm) c
  simpa using this
/-- How the contract's end follows, where the formula is told otherwise. -/
theorem expr_end {h : Vw} {sl : Value} {p q : Ex × Nat} (e : p = q) {u : Value} {v : Value} {cs : List Value} (hv : v = .agg #[.int .i64 q.1.op, .int .i64 q.1.k, .int .i64 q.1.n, .string q.1.s, .string q.1.nm, .slice (sA u) (sN u) (sC u)]) (hc : cs = [sl, .int .i64 ((q.2 : Nat) : Int)]) (ha : IsArgs h q.1 (.slice (sA u) (sN u) (sC u))) :
    ∃ cs', [cs] = [cs'] ∧ ∃ u, v = .agg #[.int .i64 p.1.op, .int .i64 p.1.k, .int .i64 p.1.n, .string p.1.s, .string p.1.nm, .slice (sA u) (sN u) (sC u)] ∧ cs' = [sl, .int .i64 ((p.2 : Nat) : Int)] ∧ IsArgs h p.1 (.slice (sA u) (sN u) (sC u)) := by
  subst e
  exact ⟨cs, rfl, u, hv, hc, ha⟩
theorem leaf_args (r : RawD) (fs : List Fd) (kind : Int) : (leafE r fs kind).args = [] := by
  unfold leafE
  repeat' split
  all_goals rfl

set_option maxRecDepth 100000 in
theorem expr_zero (l : List RawD) (fs : List Fd) (hlen : l.length * 40 ≤ reachBytes) (hok : ∀ r ∈ l, r.ok) (hfs : fs.length ≤ 100) : ExprC l fs 0 := by
  intro g sl n kind fv m h hr hn h1 h3 hf hg
  have hm : ∀ b ∈ [g], b ∈ m := fun b hb => by simp at hb; rw [hb]; exact hg
  obtain ⟨A, nf, cap, rfl⟩ : ∃ A nf cap, fv = .slice A nf cap := by obtain ⟨vs, hrs, -⟩ := hf; obtain ⟨A, c, e, -⟩ := hrs.form; exact ⟨A, _, c, e⟩
  have hat := atNext_le l n
  have hb : bnd 0 = 2 := rfl
  refine con_start Try.func39 rfl (N := 98) rfl (by kernel_rfl) ?_
  intro hbx hbad Q hQ a w hJ
  replace hJ : J ⟨98, h.w, h.bad, [g]⟩ [(0, .pointer (some ⟨g, 0, none⟩)), (1, .int .i64 kind), (2, .slice A nf cap), (3, .int .i64 ((0 : Nat) : Int))] [.box g [sl, .int .i64 (n : Int)]] h a w := hJ.to (by kernel_rfl) (by kernel_rfl)
  refine wp_seq ?_
  refine wp_region_lit ?_
  refine s_fact hJ 4 (fun g => .pointer (some ⟨g, 0, none⟩)) [.pointer (some ⟨g, 0, none⟩)] 83 (by kernel_rfl) (fun _ => by kernel_rfl) ?_; clear hJ a w; intro b1 h2 a w s3 f4 hJ
  refine s_fact hJ 6 (fun g => .pointer (some ⟨g, 0, none⟩)) [.slice A nf cap] 41 (by kernel_rfl) (fun _ => by kernel_rfl) ?_; clear hJ a w; intro b5 h6 a w s7 f8 hJ
  refine s_fact hJ 7 (fun g => .pointer (some ⟨g, 0, none⟩)) [.int .i64 ((0 : Nat) : Int)] 3 (by kernel_rfl) (fun _ => by kernel_rfl) ?_; clear hJ a w; intro b9 h10 a w s11 f12 hJ
  refine s_new hJ 8 (fun g => .pointer (some ⟨g, 0, none⟩)) [.int .i64 0, .int .i64 0, .int .i64 0, .string ⟨#[]⟩, .string ⟨#[]⟩, .slice none 0 0] 38 (by kernel_rfl) (fun _ => by kernel_rfl) ?_; clear hJ a w; intro b13 a w hJ
  refine wpList_nil ?_
  refine then_normal ?_
  refine wp_seq ?_
  refine wp_region_lit ?_
  refine s_loadf hJ (t := 83) (x := (.tmp 4)) 14 (.pointer (some ⟨g, 0, none⟩)) (off := 0) f4 (s7.trans s11) (by kernel_rfl) (by kernel_rfl) (by kernel_rfl) (by kernel_rfl) ?_; clear hJ a; intro a hJ
  refine s_call1 hJ 15 1 (gen_next_any g l sl n _ (hr.sees (s3.trans (s7.trans (s11.trans hJ.sees)))) (by omega) hlen) (by kernel_rfl) (by kernel_rfl) (fun _ => by kernel_rfl) ?_; clear hJ a w; rintro _ _ h14 a w s15 ⟨rfl, rfl⟩ hJ
  refine s_new hJ 9 (fun g => .pointer (some ⟨g, 0, none⟩)) [.int .i64 0, .int .i64 0, .int .i64 0, .string ⟨#[]⟩] 108 (by kernel_rfl) (fun _ => by kernel_rfl) ?_; clear hJ a w; intro b16 a w hJ
  refine s_store hJ (t := 108) (x := (.tmp 9)) (y := (.tmp 15)) 0 (.agg #[.int .i64 ((rawAt l n).k), .int .i64 ((rawAt l n).a), .int .i64 ((rawAt l n).b), .string ((rawAt l n).t)]) (b := b16) (off := 0) (cs := [.int .i64 0, .int .i64 0, .int .i64 0, .string ⟨#[]⟩]) [.int .i64 ((rawAt l n).k), .int .i64 ((rawAt l n).a), .int .i64 ((rawAt l n).b), .string ((rawAt l n).t)] (by kernel_rfl) (by kernel_rfl) (by kernel_rfl) (by kernel_rfl) (by kernel_rfl) (by kernel_rfl) (by kernel_rfl) ?_; clear hJ w; intro w hJ
  refine wpList_nil ?_
  refine then_normal ?_
  refine wp_seq ?_
  refine wp_seq ?_
  refine wp_region_lit ?_
  refine s_loadf hJ (t := 3) (x := (.tmp 7)) 16 (.int .i64 ((0 : Nat) : Int)) (off := 0) f12 s15 (by kernel_rfl) (by kernel_rfl) (by kernel_rfl) (by kernel_rfl) ?_; clear hJ a; intro a hJ
  refine s_pure hJ 17 (.bool (decide (((0 : Nat) : Int) ≤ 0))) (by kernel_rfl) (fun _ => by kernel_rfl) ?_; clear hJ a; intro a hJ
  refine s_pure hJ 18 (.bool (decide (((0 : Nat) : Int) ≤ 0))) (by kernel_rfl) (fun _ => by kernel_rfl) ?_; clear hJ a; intro a hJ
  replace hJ := hJ.rew 18 (v := .bool (decide (((0 : Nat) : Int) ≤ 0))) (v' := .bool true) (rfl) (by kernel_rfl)
  replace hJ := hJ.rew 17 (v := .bool (decide (((0 : Nat) : Int) ≤ 0))) (v' := .bool true) (rfl) (by kernel_rfl)
  refine s_passed hJ 19 (by kernel_rfl) (by kernel_rfl) ?_; clear hJ a; intro a hJ
  refine s_passed hJ 20 (by kernel_rfl) (by kernel_rfl) ?_; clear hJ a; intro a hJ
  refine s_passed hJ 21 (by kernel_rfl) (by kernel_rfl) ?_; clear hJ a; intro a hJ
  refine s_passed hJ 22 (by kernel_rfl) (by kernel_rfl) ?_; clear hJ a; intro a hJ
  refine s_pure hJ 23 (.bool true) (by kernel_rfl) (fun _ => by kernel_rfl) ?_; clear hJ a; intro a hJ
  refine wpList_nil ?_
  refine then_normal ?_
  refine c_true hJ (t := true) (by kernel_rfl) rfl ?_
  refine wp_seq ?_
  refine wp_region_lit ?_
  refine s_loadf hJ (t := 83) (x := (.tmp 4)) 24 (.pointer (some ⟨g, 0, none⟩)) (off := 0) f4 (s7.trans (s11.trans s15)) (by kernel_rfl) (by kernel_rfl) (by kernel_rfl) (by kernel_rfl) ?_; clear hJ a; intro a hJ
  refine s_pure hJ 25 (.int .i64 kind) (by kernel_rfl) (fun _ => by kernel_rfl) ?_; clear hJ a; intro a hJ
  refine s_loadf hJ (t := 41) (x := (.tmp 6)) 26 (.slice A nf cap) (off := 0) f8 (s11.trans s15) (by kernel_rfl) (by kernel_rfl) (by kernel_rfl) (by kernel_rfl) ?_; clear hJ a; intro a hJ
  refine s_call1 hJ 27 2 (leaf_any g l sl (atNext l n) kind fs _ _ _ (hr.sees (s3.trans (s7.trans (s11.trans (s15.trans hJ.sees))))) (by omega) hlen hok h1 h3 (hf.sees (hJ.lent hm)) hfs (List.mem_append_right _ hg)) (by kernel_rfl) (by kernel_rfl) (fun _ => by kernel_rfl) ?_; clear hJ a w; rintro _ _ h17 a w s18 ⟨rfl, rfl⟩ hJ
  refine s_store hJ (t := 38) (x := (.tmp 8)) (y := (.tmp 27)) 1 (.agg #[.int .i64 ((leafE (rawAt l (atNext l n)) fs kind).op), .int .i64 ((leafE (rawAt l (atNext l n)) fs kind).k), .int .i64 ((leafE (rawAt l (atNext l n)) fs kind).n), .string ((leafE (rawAt l (atNext l n)) fs kind).s), .string ((leafE (rawAt l (atNext l n)) fs kind).nm), .slice none 0 0]) (b := b13) (off := 0) (cs := [.int .i64 0, .int .i64 0, .int .i64 0, .string ⟨#[]⟩, .string ⟨#[]⟩, .slice none 0 0]) [.int .i64 ((leafE (rawAt l (atNext l n)) fs kind).op), .int .i64 ((leafE (rawAt l (atNext l n)) fs kind).k), .int .i64 ((leafE (rawAt l (atNext l n)) fs kind).n), .string ((leafE (rawAt l (atNext l n)) fs kind).s), .string ((leafE (rawAt l (atNext l n)) fs kind).nm), .slice none 0 0] (by kernel_rfl) (by kernel_rfl) (by kernel_rfl) (by kernel_rfl) (by kernel_rfl) (by kernel_rfl) (by kernel_rfl) ?_; clear hJ w; intro w hJ
  refine wpList_nil ?_
  refine then_normal ?_
  refine wp_ret ?_
  refine then_ret ?_
  refine (hQ [.agg #[.int .i64 ((leafE (rawAt l (atNext l n)) fs kind).op), .int .i64 ((leafE (rawAt l (atNext l n)) fs kind).k), .int .i64 ((leafE (rawAt l (atNext l n)) fs kind).n), .string ((leafE (rawAt l (atNext l n)) fs kind).s), .string ((leafE (rawAt l (atNext l n)) fs kind).nm), .slice none 0 0]] [.box b16 [.int .i64 ((rawAt l n).k), .int .i64 ((rawAt l n).a), .int .i64 ((rawAt l n).b), .string ((rawAt l n).t)], .box b13 [.int .i64 ((leafE (rawAt l (atNext l n)) fs kind).op), .int .i64 ((leafE (rawAt l (atNext l n)) fs kind).k), .int .i64 ((leafE (rawAt l (atNext l n)) fs kind).n), .string ((leafE (rawAt l (atNext l n)) fs kind).s), .string ((leafE (rawAt l (atNext l n)) fs kind).nm), .slice none 0 0]] [(g, [sl, .int .i64 ((atNext l (atNext l n) : Nat) : Int)])] hJ (.rcell hJ 1 (b := b13) (cs := [.int .i64 ((leafE (rawAt l (atNext l n)) fs kind).op), .int .i64 ((leafE (rawAt l (atNext l n)) fs kind).k), .int .i64 ((leafE (rawAt l (atNext l n)) fs kind).n), .string ((leafE (rawAt l (atNext l n)) fs kind).s), .string ((leafE (rawAt l (atNext l n)) fs kind).nm), .slice none 0 0]) (by kernel_rfl) (by kernel_rfl) (by kernel_rfl) .nil) (by kernel_rfl) (by kernel_rfl) ?_).1
  exact expr_end (u := .slice none 0 0) (show genE l fs 0 kind n = _ from rfl) rfl rfl (args_nil _ _ (leaf_args _ _ _))

set_option maxHeartbeats 4000000 in
set_option maxRecDepth 100000 in
theorem expr_succ (l : List RawD) (fs : List Fd) (hlen : l.length * 40 ≤ reachBytes) (hok : ∀ r ∈ l, r.ok) (hfs : fs.length ≤ 100) (d : Nat) (hd : d < 1000) (IH : ExprC l fs d) : ExprC l fs (d + 1) := by
  intro g sl n kind fv m h hr hn h1 h3 hf hg
  have hm : ∀ b ∈ [g], b ∈ m := fun b hb => by simp at hb; rw [hb]; exact hg
  obtain ⟨A, nf, cap, rfl⟩ : ∃ A nf cap, fv = .slice A nf cap := by obtain ⟨vs, hrs, -⟩ := hf; obtain ⟨A, c, e, -⟩ := hrs.form; exact ⟨A, _, c, e⟩
  have hat := atNext_le l n
  have hbd : bnd (d + 1) = 1 + 3 * bnd d := rfl
  have hb2 : 2 ≤ bnd d := by
    cases d with
    | zero => exact Nat.le_refl _
    | succ d => show 2 ≤ 1 + 3 * bnd d; have : 1 ≤ bnd d := by cases d with | zero => decide | succ d => show 1 ≤ 1 + _; omega
                omega
  obtain ⟨⟨k0, k1⟩, ⟨a0, a1⟩, ⟨rb0, rb1⟩, -⟩ := rawAt_ok hok n
  have hd0 : decide (((d + 1 : Nat) : Int) ≤ 0) = false := decide_eq_false (by omega)
  have many := many_any l fs d hd IH g sl (atNext l n)
  have hq7 := pick_range (rawAt l n).b 7 (by omega)
  have hq3 := pick_range (rawAt l n).a 3 (by omega)
  have pa3 := c_picked (rawAt l n).a 3
  have pb7 := c_picked (rawAt l n).b 7
  refine con_start Try.func39 rfl (N := 98) rfl (by kernel_rfl) ?_
  intro hbx hbad Q hQ a w hJ
  replace hJ : J ⟨98, h.w, h.bad, [g]⟩ [(0, .pointer (some ⟨g, 0, none⟩)), (1, .int .i64 kind), (2, .slice A nf cap), (3, .int .i64 ((d + 1 : Nat) : Int))] [.box g [sl, .int .i64 (n : Int)]] h a w := hJ.to (by kernel_rfl) (by kernel_rfl)
  refine wp_seq ?_
  refine wp_region_lit ?_
  refine s_fact hJ 4 (fun g => .pointer (some ⟨g, 0, none⟩)) [.pointer (some ⟨g, 0, none⟩)] 83 (by kernel_rfl) (fun _ => by kernel_rfl) ?_; clear hJ a w; intro b1 h2 a w s3 f4 hJ
  refine s_fact hJ 6 (fun g => .pointer (some ⟨g, 0, none⟩)) [.slice A nf cap] 41 (by kernel_rfl) (fun _ => by kernel_rfl) ?_; clear hJ a w; intro b5 h6 a w s7 f8 hJ
  refine s_fact hJ 7 (fun g => .pointer (some ⟨g, 0, none⟩)) [.int .i64 ((d + 1 : Nat) : Int)] 3 (by kernel_rfl) (fun _ => by kernel_rfl) ?_; clear hJ a w; intro b9 h10 a w s11 f12 hJ
  refine s_new hJ 8 (fun g => .pointer (some ⟨g, 0, none⟩)) [.int .i64 0, .int .i64 0, .int .i64 0, .string ⟨#[]⟩, .string ⟨#[]⟩, .slice none 0 0] 38 (by kernel_rfl) (fun _ => by kernel_rfl) ?_; clear hJ a w; intro b13 a w hJ
  refine wpList_nil ?_
  refine then_normal ?_
  refine wp_seq ?_
  refine wp_region_lit ?_
  refine s_loadf hJ (t := 83) (x := (.tmp 4)) 14 (.pointer (some ⟨g, 0, none⟩)) (off := 0) f4 (s7.trans s11) (by kernel_rfl) (by kernel_rfl) (by kernel_rfl) (by kernel_rfl) ?_; clear hJ a; intro a hJ
  refine s_call1 hJ 15 1 (gen_next_any g l sl n _ (hr.sees (s3.trans (s7.trans (s11.trans hJ.sees)))) (by omega) hlen) (by kernel_rfl) (by kernel_rfl) (fun _ => by kernel_rfl) ?_; clear hJ a w; rintro _ _ h14 a w s15 ⟨rfl, rfl⟩ hJ
  refine s_new hJ 9 (fun g => .pointer (some ⟨g, 0, none⟩)) [.int .i64 0, .int .i64 0, .int .i64 0, .string ⟨#[]⟩] 108 (by kernel_rfl) (fun _ => by kernel_rfl) ?_; clear hJ a w; intro b16 a w hJ
  refine s_store hJ (t := 108) (x := (.tmp 9)) (y := (.tmp 15)) 0 (.agg #[.int .i64 ((rawAt l n).k), .int .i64 ((rawAt l n).a), .int .i64 ((rawAt l n).b), .string ((rawAt l n).t)]) (b := b16) (off := 0) (cs := [.int .i64 0, .int .i64 0, .int .i64 0, .string ⟨#[]⟩]) [.int .i64 ((rawAt l n).k), .int .i64 ((rawAt l n).a), .int .i64 ((rawAt l n).b), .string ((rawAt l n).t)] (by kernel_rfl) (by kernel_rfl) (by kernel_rfl) (by kernel_rfl) (by kernel_rfl) (by kernel_rfl) (by kernel_rfl) ?_; clear hJ w; intro w hJ
  refine wpList_nil ?_
  refine then_normal ?_
  refine wp_seq ?_
  refine wp_seq ?_
  refine wp_region_lit ?_
  refine s_loadf hJ (t := 3) (x := (.tmp 7)) 16 (.int .i64 ((d + 1 : Nat) : Int)) (off := 0) f12 s15 (by kernel_rfl) (by kernel_rfl) (by kernel_rfl) (by kernel_rfl) ?_; clear hJ a; intro a hJ
  refine s_pure hJ 17 (.bool (decide (((d + 1 : Nat) : Int) ≤ 0))) (by kernel_rfl) (fun _ => by kernel_rfl) ?_; clear hJ a; intro a hJ
  refine s_pure hJ 18 (.bool (decide (((d + 1 : Nat) : Int) ≤ 0))) (by kernel_rfl) (fun _ => by kernel_rfl) ?_; clear hJ a; intro a hJ
  replace hJ := hJ.rew 18 (v := .bool (decide (((d + 1 : Nat) : Int) ≤ 0))) (v' := .bool false) (congrArg Value.bool hd0) (by kernel_rfl)
  replace hJ := hJ.rew 17 (v := .bool (decide (((d + 1 : Nat) : Int) ≤ 0))) (v' := .bool false) (congrArg Value.bool hd0) (by kernel_rfl)
  refine s_guarded hJ (by kernel_rfl) ?_
  refine s_pure hJ 19 (.pointer (some ⟨b16, 0, none⟩)) (by kernel_rfl) (fun _ => by kernel_rfl) ?_; clear hJ a; intro a hJ
  refine s_guarded hJ (by kernel_rfl) ?_
  refine s_load hJ (t := 3) (x := (.tmp 19)) 20 (.int .i64 ((rawAt l n).k)) 0 (b := b16) (off := 0) (cs := [.int .i64 ((rawAt l n).k), .int .i64 ((rawAt l n).a), .int .i64 ((rawAt l n).b), .string ((rawAt l n).t)]) (by kernel_rfl) (by kernel_rfl) (by kernel_rfl) (by kernel_rfl) (by kernel_rfl) ?_; clear hJ a; intro a hJ
  refine s_guarded hJ (by kernel_rfl) ?_
  refine s_call hJ 21 (c_picked _ 3 _ k0 k1 (by omega) (by omega)) (by kernel_rfl) (fun _ => by kernel_rfl) ?_; clear hJ a w; rintro _ h17 a w s18 rfl hJ
  refine s_guarded hJ (by kernel_rfl) ?_
  refine s_pure hJ 22 (.bool ((pickL (rawAt l n).k 3) == 0)) (by kernel_rfl) (fun _ => by kernel_rfl) ?_; clear hJ a; intro a hJ
  refine s_pure hJ 23 (.bool ((pickL (rawAt l n).k 3) == 0)) (by kernel_rfl) (fun _ => by kernel_rfl) ?_; clear hJ a; intro a hJ
  refine wpList_nil ?_
  refine then_normal ?_
  by_cases q3 : pickL (rawAt l n).k 3 = 0
  · refine c_true hJ (t := (pickL (rawAt l n).k 3) == 0) (by kernel_rfl) (beq_iff_eq.2 q3) ?_
    refine wp_seq ?_
    refine wp_region_lit ?_
    refine s_loadf hJ (t := 83) (x := (.tmp 4)) 24 (.pointer (some ⟨g, 0, none⟩)) (off := 0) f4 (s7.trans (s11.trans (s15.trans s18))) (by kernel_rfl) (by kernel_rfl) (by kernel_rfl) (by kernel_rfl) ?_; clear hJ a; intro a hJ
    refine s_pure hJ 25 (.int .i64 kind) (by kernel_rfl) (fun _ => by kernel_rfl) ?_; clear hJ a; intro a hJ
    refine s_loadf hJ (t := 41) (x := (.tmp 6)) 26 (.slice A nf cap) (off := 0) f8 (s11.trans (s15.trans s18)) (by kernel_rfl) (by kernel_rfl) (by kernel_rfl) (by kernel_rfl) ?_; clear hJ a; intro a hJ
    refine s_call1 hJ 27 2 (leaf_any g l sl (atNext l n) kind fs _ _ _ (hr.sees (s3.trans (s7.trans (s11.trans (s15.trans (s18.trans hJ.sees)))))) (by omega) hlen hok h1 h3 (hf.sees (hJ.lent hm)) hfs (List.mem_append_right _ hg)) (by kernel_rfl) (by kernel_rfl) (fun _ => by kernel_rfl) ?_; clear hJ a w; rintro _ _ h19 a w s20 ⟨rfl, rfl⟩ hJ
    refine s_store hJ (t := 38) (x := (.tmp 8)) (y := (.tmp 27)) 1 (.agg #[.int .i64 ((leafE (rawAt l (atNext l n)) fs kind).op), .int .i64 ((leafE (rawAt l (atNext l n)) fs kind).k), .int .i64 ((leafE (rawAt l (atNext l n)) fs kind).n), .string ((leafE (rawAt l (atNext l n)) fs kind).s), .string ((leafE (rawAt l (atNext l n)) fs kind).nm), .slice none 0 0]) (b := b13) (off := 0) (cs := [.int .i64 0, .int .i64 0, .int .i64 0, .string ⟨#[]⟩, .string ⟨#[]⟩, .slice none 0 0]) [.int .i64 ((leafE (rawAt l (atNext l n)) fs kind).op), .int .i64 ((leafE (rawAt l (atNext l n)) fs kind).k), .int .i64 ((leafE (rawAt l (atNext l n)) fs kind).n), .string ((leafE (rawAt l (atNext l n)) fs kind).s), .string ((leafE (rawAt l (atNext l n)) fs kind).nm), .slice none 0 0] (by kernel_rfl) (by kernel_rfl) (by kernel_rfl) (by kernel_rfl) (by kernel_rfl) (by kernel_rfl) (by kernel_rfl) ?_; clear hJ w; intro w hJ
    refine wpList_nil ?_
    refine then_normal ?_
    refine wp_ret ?_
    refine then_ret ?_
    refine (hQ [.agg #[.int .i64 ((leafE (rawAt l (atNext l n)) fs kind).op), .int .i64 ((leafE (rawAt l (atNext l n)) fs kind).k), .int .i64 ((leafE (rawAt l (atNext l n)) fs kind).n), .string ((leafE (rawAt l (atNext l n)) fs kind).s), .string ((leafE (rawAt l (atNext l n)) fs kind).nm), .slice none 0 0]] [.box b16 [.int .i64 ((rawAt l n).k), .int .i64 ((rawAt l n).a), .int .i64 ((rawAt l n).b), .string ((rawAt l n).t)], .box b13 [.int .i64 ((leafE (rawAt l (atNext l n)) fs kind).op), .int .i64 ((leafE (rawAt l (atNext l n)) fs kind).k), .int .i64 ((leafE (rawAt l (atNext l n)) fs kind).n), .string ((leafE (rawAt l (atNext l n)) fs kind).s), .string ((leafE (rawAt l (atNext l n)) fs kind).nm), .slice none 0 0]] [(g, [sl, .int .i64 ((atNext l (atNext l n) : Nat) : Int)])] hJ (.rcell hJ 1 (b := b13) (cs := [.int .i64 ((leafE (rawAt l (atNext l n)) fs kind).op), .int .i64 ((leafE (rawAt l (atNext l n)) fs kind).k), .int .i64 ((leafE (rawAt l (atNext l n)) fs kind).n), .string ((leafE (rawAt l (atNext l n)) fs kind).s), .string ((leafE (rawAt l (atNext l n)) fs kind).nm), .slice none 0 0]) (by kernel_rfl) (by kernel_rfl) (by kernel_rfl) .nil) (by kernel_rfl) (by kernel_rfl) ?_).1
    exact expr_end (u := .slice none 0 0) (genE_leaf q3) rfl rfl (args_nil _ _ (leaf_args _ _ _))
  · skip
    refine c_false hJ (t := (pickL (rawAt l n).k 3) == 0) (by kernel_rfl) (beq_eq_false_iff_ne.2 q3) ?_
    refine wp_skip ?_
    refine then_normal ?_
    refine wp_seq ?_
    refine wp_region_lit ?_
    refine s_pure hJ 28 (.func (.func 62) #[] #[.pointer (some ⟨b1, 0, none⟩), .pointer (some ⟨b5, 0, none⟩), .pointer (some ⟨b9, 0, none⟩)]) (by kernel_rfl) (fun _ => by kernel_rfl) ?_; clear hJ a; intro a hJ
    refine s_pure hJ 10 (.func (.func 62) #[] #[.pointer (some ⟨b1, 0, none⟩), .pointer (some ⟨b5, 0, none⟩), .pointer (some ⟨b9, 0, none⟩)]) (by kernel_rfl) (fun _ => by kernel_rfl) ?_; clear hJ a; intro a hJ
    refine wpList_nil ?_
    refine then_normal ?_
    refine wp_seq ?_
    refine wp_seq ?_
    refine wp_region_lit ?_
    refine s_pure hJ 29 (.pointer (some ⟨b16, 1, none⟩)) (by kernel_rfl) (fun _ => by kernel_rfl) ?_; clear hJ a; intro a hJ
    refine s_load hJ (t := 3) (x := (.tmp 29)) 30 (.int .i64 ((rawAt l n).a)) 0 (b := b16) (off := 1) (cs := [.int .i64 ((rawAt l n).k), .int .i64 ((rawAt l n).a), .int .i64 ((rawAt l n).b), .string ((rawAt l n).t)]) (by kernel_rfl) (by kernel_rfl) (by kernel_rfl) (by kernel_rfl) (by kernel_rfl) ?_; clear hJ a; intro a hJ
    refine s_call hJ 31 (c_picked _ 6 _ a0 a1 (by omega) (by omega)) (by kernel_rfl) (fun _ => by kernel_rfl) ?_; clear hJ a w; rintro _ h21 a w s22 rfl hJ
    refine s_pure hJ 32 (.bool ((pickL (rawAt l n).a 6) == 0)) (by kernel_rfl) (fun _ => by kernel_rfl) ?_; clear hJ a; intro a hJ
    refine wpList_nil ?_
    refine then_normal ?_
    obtain rfl | rfl | rfl : kind = 1 ∨ kind = 2 ∨ kind = 3 := by omega
    · skip
      by_cases q6 : pickL (rawAt l n).a 6 = 0
      · refine c_true hJ (t := (pickL (rawAt l n).a 6) == 0) (by kernel_rfl) (beq_iff_eq.2 q6) ?_
        refine wp_seq ?_
        refine wp_region_lit ?_
        refine s_pure hJ 33 (.func (.func 62) #[] #[.pointer (some ⟨b1, 0, none⟩), .pointer (some ⟨b5, 0, none⟩), .pointer (some ⟨b9, 0, none⟩)]) (by kernel_rfl) (fun _ => by kernel_rfl) ?_; clear hJ a; intro a hJ
        refine s_pure hJ 34 (.int .i64 1) (by kernel_rfl) (fun _ => by kernel_rfl) ?_; clear hJ a; intro a hJ
        refine s_pure hJ 35 (.int .i64 1) (by kernel_rfl) (fun _ => by kernel_rfl) ?_; clear hJ a; intro a hJ
        refine s_fact hJ 36 (fun g => .slice (some ⟨g, 0, none⟩) 3 3) [.int .i64 2, .int .i64 1, .int .i64 1] 3 (by kernel_rfl) (fun _ => by kernel_rfl) ?_; clear hJ a w; intro b23 h24 a w s25 fk hJ
        refine s_call1 hJ 37 2 (many 17 [2, 1, 1] _ _ _ _ _ _ _ (hr.sees (s3.trans (s7.trans (s11.trans (s15.trans (s18.trans (s22.trans (s25.trans hJ.sees)))))))) (by omega) (by simp) (by simp <;> omega) (rs_ints [2, 1, 1] (by unfold maxLen; simp) (fk.sees hJ.sees)) (hf.sees (hJ.lent hm)) (List.mem_append_right _ hg) (f4.sees (s7.trans (s11.trans (s15.trans (s18.trans (s22.trans (s25.trans hJ.sees))))))) (f8.sees (s11.trans (s15.trans (s18.trans (s22.trans (s25.trans hJ.sees)))))) (f12.sees (s15.trans (s18.trans (s22.trans (s25.trans hJ.sees)))))) (by kernel_rfl) (by kernel_rfl) (fun _ => by kernel_rfl) ?_; clear hJ a w; rintro _ _ h26 a w s27 ⟨u, rfl, rfl, fu⟩ hJ
        refine s_store hJ (t := 38) (x := (.tmp 8)) (y := (.tmp 37)) 1 (.agg #[.int .i64 ((opE 17 (manyE (genE l fs d) [2, 1, 1] (atNext l n)).1).op), .int .i64 ((opE 17 (manyE (genE l fs d) [2, 1, 1] (atNext l n)).1).k), .int .i64 ((opE 17 (manyE (genE l fs d) [2, 1, 1] (atNext l n)).1).n), .string ((opE 17 (manyE (genE l fs d) [2, 1, 1] (atNext l n)).1).s), .string ((opE 17 (manyE (genE l fs d) [2, 1, 1] (atNext l n)).1).nm), .slice (sA u) (sN u) (sC u)]) (b := b13) (off := 0) (cs := [.int .i64 0, .int .i64 0, .int .i64 0, .string ⟨#[]⟩, .string ⟨#[]⟩, .slice none 0 0]) [.int .i64 ((opE 17 (manyE (genE l fs d) [2, 1, 1] (atNext l n)).1).op), .int .i64 ((opE 17 (manyE (genE l fs d) [2, 1, 1] (atNext l n)).1).k), .int .i64 ((opE 17 (manyE (genE l fs d) [2, 1, 1] (atNext l n)).1).n), .string ((opE 17 (manyE (genE l fs d) [2, 1, 1] (atNext l n)).1).s), .string ((opE 17 (manyE (genE l fs d) [2, 1, 1] (atNext l n)).1).nm), .slice (sA u) (sN u) (sC u)] (by kernel_rfl) (by kernel_rfl) (by kernel_rfl) (by kernel_rfl) (by kernel_rfl) (by kernel_rfl) (by kernel_rfl) ?_; clear hJ w; intro w hJ
        refine wpList_nil ?_
        refine then_normal ?_
        refine wp_ret ?_
        refine then_ret ?_
        refine (hQ [.agg #[.int .i64 ((opE 17 (manyE (genE l fs d) [2, 1, 1] (atNext l n)).1).op), .int .i64 ((opE 17 (manyE (genE l fs d) [2, 1, 1] (atNext l n)).1).k), .int .i64 ((opE 17 (manyE (genE l fs d) [2, 1, 1] (atNext l n)).1).n), .string ((opE 17 (manyE (genE l fs d) [2, 1, 1] (atNext l n)).1).s), .string ((opE 17 (manyE (genE l fs d) [2, 1, 1] (atNext l n)).1).nm), .slice (sA u) (sN u) (sC u)]] [.box b16 [.int .i64 ((rawAt l n).k), .int .i64 ((rawAt l n).a), .int .i64 ((rawAt l n).b), .string ((rawAt l n).t)], .box b13 [.int .i64 ((opE 17 (manyE (genE l fs d) [2, 1, 1] (atNext l n)).1).op), .int .i64 ((opE 17 (manyE (genE l fs d) [2, 1, 1] (atNext l n)).1).k), .int .i64 ((opE 17 (manyE (genE l fs d) [2, 1, 1] (atNext l n)).1).n), .string ((opE 17 (manyE (genE l fs d) [2, 1, 1] (atNext l n)).1).s), .string ((opE 17 (manyE (genE l fs d) [2, 1, 1] (atNext l n)).1).nm), .slice (sA u) (sN u) (sC u)]] [(g, [sl, .int .i64 (((manyE (genE l fs d) [2, 1, 1] (atNext l n)).2 : Nat) : Int)])] hJ (.rcell hJ 1 (b := b13) (cs := [.int .i64 ((opE 17 (manyE (genE l fs d) [2, 1, 1] (atNext l n)).1).op), .int .i64 ((opE 17 (manyE (genE l fs d) [2, 1, 1] (atNext l n)).1).k), .int .i64 ((opE 17 (manyE (genE l fs d) [2, 1, 1] (atNext l n)).1).n), .string ((opE 17 (manyE (genE l fs d) [2, 1, 1] (atNext l n)).1).s), .string ((opE 17 (manyE (genE l fs d) [2, 1, 1] (atNext l n)).1).nm), .slice (sA u) (sN u) (sC u)]) (by kernel_rfl) (by kernel_rfl) (by kernel_rfl) .nil) (by kernel_rfl) (by kernel_rfl) ?_).1
        exact expr_end (genE_with q3 (by unfold pickE; rw [if_pos q6])) rfl rfl (fu.sees hJ.out)
      · skip
        obtain q7 | q7 | q7 | q7 | q7 | q7 | q7 : pickL (rawAt l n).b 7 = 0 ∨ pickL (rawAt l n).b 7 = 1 ∨ pickL (rawAt l n).b 7 = 2 ∨ pickL (rawAt l n).b 7 = 3 ∨ pickL (rawAt l n).b 7 = 4 ∨ pickL (rawAt l n).b 7 = 5 ∨ pickL (rawAt l n).b 7 = 6 := by omega
        · skip
          rw [q7] at pb7
          refine c_false hJ (t := (pickL (rawAt l n).a 6) == 0) (by kernel_rfl) (beq_eq_false_iff_ne.2 q6) ?_
          refine wp_skip ?_
          refine then_normal ?_
          refine wp_seq ?_
          refine wp_seq ?_
          refine wp_region_lit ?_
          refine s_pure hJ 38 (.int .i64 1) (by kernel_rfl) (fun _ => by kernel_rfl) ?_; clear hJ a; intro a hJ
          refine wpList_nil ?_
          refine then_normal ?_
          refine wp_block ?_
          refine wp_seq ?_
          refine wp_region_lit ?_
          refine s_pure hJ 40 (.bool true) (by kernel_rfl) (fun _ => by kernel_rfl) ?_; clear hJ a; intro a hJ
          refine s_pure hJ 39 (.bool true) (by kernel_rfl) (fun _ => by kernel_rfl) ?_; clear hJ a; intro a hJ
          refine wpList_nil ?_
          refine then_normal ?_
          refine c_true hJ (t := true) (by kernel_rfl) rfl ?_
          refine wp_seq ?_
          refine wp_region_lit ?_
          refine s_pure hJ 41 (.pointer (some ⟨b16, 2, none⟩)) (by kernel_rfl) (fun _ => by kernel_rfl) ?_; clear hJ a; intro a hJ
          refine s_load hJ (t := 3) (x := (.tmp 41)) 42 (.int .i64 ((rawAt l n).b)) 0 (b := b16) (off := 2) (cs := [.int .i64 ((rawAt l n).k), .int .i64 ((rawAt l n).a), .int .i64 ((rawAt l n).b), .string ((rawAt l n).t)]) (by kernel_rfl) (by kernel_rfl) (by kernel_rfl) (by kernel_rfl) (by kernel_rfl) ?_; clear hJ a; intro a hJ
          refine s_call hJ 43 (pb7 _ rb0 rb1 (by omega) (by omega)) (by kernel_rfl) (fun _ => by kernel_rfl) ?_; clear hJ a w; rintro _ h28 a w s29 rfl hJ
          refine s_pure hJ 11 (.int .i64 0) (by kernel_rfl) (fun _ => by kernel_rfl) ?_; clear hJ a; intro a hJ
          refine wpList_nil ?_
          refine then_normal ?_
          refine wp_seq ?_
          refine wp_region_lit ?_
          refine s_pure hJ 44 (.int .i64 0) (by kernel_rfl) (fun _ => by kernel_rfl) ?_; clear hJ a; intro a hJ
          refine wpList_nil ?_
          refine then_normal ?_
          refine wp_block ?_
          refine wp_seq ?_
          refine wp_region_lit ?_
          refine s_pure hJ 54 (.bool true) (by kernel_rfl) (fun _ => by kernel_rfl) ?_; clear hJ a; intro a hJ
          refine s_pure hJ 53 (.bool true) (by kernel_rfl) (fun _ => by kernel_rfl) ?_; clear hJ a; intro a hJ
          refine wpList_nil ?_
          refine then_normal ?_
          refine c_true hJ (t := true) (by kernel_rfl) rfl ?_
          refine wp_seq ?_
          refine wp_region_lit ?_
          refine s_pure hJ 55 (.func (.func 62) #[] #[.pointer (some ⟨b1, 0, none⟩), .pointer (some ⟨b5, 0, none⟩), .pointer (some ⟨b9, 0, none⟩)]) (by kernel_rfl) (fun _ => by kernel_rfl) ?_; clear hJ a; intro a hJ
          refine s_fact hJ 56 (fun g => .slice (some ⟨g, 0, none⟩) 1 1) [.int .i64 1] 3 (by kernel_rfl) (fun _ => by kernel_rfl) ?_; clear hJ a w; intro b30 h31 a w s32 fk hJ
          refine s_call1 hJ 57 2 (many 3 [1] _ _ _ _ _ _ _ (hr.sees (s3.trans (s7.trans (s11.trans (s15.trans (s18.trans (s22.trans (s29.trans (s32.trans hJ.sees))))))))) (by omega) (by simp) (by simp <;> omega) (rs_ints [1] (by unfold maxLen; simp) (fk.sees hJ.sees)) (hf.sees (hJ.lent hm)) (List.mem_append_right _ hg) (f4.sees (s7.trans (s11.trans (s15.trans (s18.trans (s22.trans (s29.trans (s32.trans hJ.sees)))))))) (f8.sees (s11.trans (s15.trans (s18.trans (s22.trans (s29.trans (s32.trans hJ.sees))))))) (f12.sees (s15.trans (s18.trans (s22.trans (s29.trans (s32.trans hJ.sees))))))) (by kernel_rfl) (by kernel_rfl) (fun _ => by kernel_rfl) ?_; clear hJ a w; rintro _ _ h33 a w s34 ⟨u, rfl, rfl, fu⟩ hJ
          refine s_store hJ (t := 38) (x := (.tmp 8)) (y := (.tmp 57)) 1 (.agg #[.int .i64 ((opE 3 (manyE (genE l fs d) [1] (atNext l n)).1).op), .int .i64 ((opE 3 (manyE (genE l fs d) [1] (atNext l n)).1).k), .int .i64 ((opE 3 (manyE (genE l fs d) [1] (atNext l n)).1).n), .string ((opE 3 (manyE (genE l fs d) [1] (atNext l n)).1).s), .string ((opE 3 (manyE (genE l fs d) [1] (atNext l n)).1).nm), .slice (sA u) (sN u) (sC u)]) (b := b13) (off := 0) (cs := [.int .i64 0, .int .i64 0, .int .i64 0, .string ⟨#[]⟩, .string ⟨#[]⟩, .slice none 0 0]) [.int .i64 ((opE 3 (manyE (genE l fs d) [1] (atNext l n)).1).op), .int .i64 ((opE 3 (manyE (genE l fs d) [1] (atNext l n)).1).k), .int .i64 ((opE 3 (manyE (genE l fs d) [1] (atNext l n)).1).n), .string ((opE 3 (manyE (genE l fs d) [1] (atNext l n)).1).s), .string ((opE 3 (manyE (genE l fs d) [1] (atNext l n)).1).nm), .slice (sA u) (sN u) (sC u)] (by kernel_rfl) (by kernel_rfl) (by kernel_rfl) (by kernel_rfl) (by kernel_rfl) (by kernel_rfl) (by kernel_rfl) ?_; clear hJ w; intro w hJ
          refine wpList_nil ?_
          refine then_normal ?_
          refine wp_ret ?_
          refine block_ret ?_
          refine block_ret ?_
          refine then_ret ?_
          refine (hQ [.agg #[.int .i64 ((opE 3 (manyE (genE l fs d) [1] (atNext l n)).1).op), .int .i64 ((opE 3 (manyE (genE l fs d) [1] (atNext l n)).1).k), .int .i64 ((opE 3 (manyE (genE l fs d) [1] (atNext l n)).1).n), .string ((opE 3 (manyE (genE l fs d) [1] (atNext l n)).1).s), .string ((opE 3 (manyE (genE l fs d) [1] (atNext l n)).1).nm), .slice (sA u) (sN u) (sC u)]] [.box b16 [.int .i64 ((rawAt l n).k), .int .i64 ((rawAt l n).a), .int .i64 ((rawAt l n).b), .string ((rawAt l n).t)], .box b13 [.int .i64 ((opE 3 (manyE (genE l fs d) [1] (atNext l n)).1).op), .int .i64 ((opE 3 (manyE (genE l fs d) [1] (atNext l n)).1).k), .int .i64 ((opE 3 (manyE (genE l fs d) [1] (atNext l n)).1).n), .string ((opE 3 (manyE (genE l fs d) [1] (atNext l n)).1).s), .string ((opE 3 (manyE (genE l fs d) [1] (atNext l n)).1).nm), .slice (sA u) (sN u) (sC u)]] [(g, [sl, .int .i64 (((manyE (genE l fs d) [1] (atNext l n)).2 : Nat) : Int)])] hJ (.rcell hJ 1 (b := b13) (cs := [.int .i64 ((opE 3 (manyE (genE l fs d) [1] (atNext l n)).1).op), .int .i64 ((opE 3 (manyE (genE l fs d) [1] (atNext l n)).1).k), .int .i64 ((opE 3 (manyE (genE l fs d) [1] (atNext l n)).1).n), .string ((opE 3 (manyE (genE l fs d) [1] (atNext l n)).1).s), .string ((opE 3 (manyE (genE l fs d) [1] (atNext l n)).1).nm), .slice (sA u) (sN u) (sC u)]) (by kernel_rfl) (by kernel_rfl) (by kernel_rfl) .nil) (by kernel_rfl) (by kernel_rfl) ?_).1
          exact expr_end (genE_with q3 (by unfold pickE; rw [if_neg q6, q7]; rfl)) rfl rfl (fu.sees hJ.out)
        · skip
          rw [q7] at pb7
          refine c_false hJ (t := (pickL (rawAt l n).a 6) == 0) (by kernel_rfl) (beq_eq_false_iff_ne.2 q6) ?_
          refine wp_skip ?_
          refine then_normal ?_
          refine wp_seq ?_
          refine wp_seq ?_
          refine wp_region_lit ?_
          refine s_pure hJ 38 (.int .i64 1) (by kernel_rfl) (fun _ => by kernel_rfl) ?_; clear hJ a; intro a hJ
          refine wpList_nil ?_
          refine then_normal ?_
          refine wp_block ?_
          refine wp_seq ?_
          refine wp_region_lit ?_
          refine s_pure hJ 40 (.bool true) (by kernel_rfl) (fun _ => by kernel_rfl) ?_; clear hJ a; intro a hJ
          refine s_pure hJ 39 (.bool true) (by kernel_rfl) (fun _ => by kernel_rfl) ?_; clear hJ a; intro a hJ
          refine wpList_nil ?_
          refine then_normal ?_
          refine c_true hJ (t := true) (by kernel_rfl) rfl ?_
          refine wp_seq ?_
          refine wp_region_lit ?_
          refine s_pure hJ 41 (.pointer (some ⟨b16, 2, none⟩)) (by kernel_rfl) (fun _ => by kernel_rfl) ?_; clear hJ a; intro a hJ
          refine s_load hJ (t := 3) (x := (.tmp 41)) 42 (.int .i64 ((rawAt l n).b)) 0 (b := b16) (off := 2) (cs := [.int .i64 ((rawAt l n).k), .int .i64 ((rawAt l n).a), .int .i64 ((rawAt l n).b), .string ((rawAt l n).t)]) (by kernel_rfl) (by kernel_rfl) (by kernel_rfl) (by kernel_rfl) (by kernel_rfl) ?_; clear hJ a; intro a hJ
          refine s_call hJ 43 (pb7 _ rb0 rb1 (by omega) (by omega)) (by kernel_rfl) (fun _ => by kernel_rfl) ?_; clear hJ a w; rintro _ h35 a w s36 rfl hJ
          refine s_pure hJ 11 (.int .i64 1) (by kernel_rfl) (fun _ => by kernel_rfl) ?_; clear hJ a; intro a hJ
          refine wpList_nil ?_
          refine then_normal ?_
          refine wp_seq ?_
          refine wp_region_lit ?_
          refine s_pure hJ 44 (.int .i64 1) (by kernel_rfl) (fun _ => by kernel_rfl) ?_; clear hJ a; intro a hJ
          refine wpList_nil ?_
          refine then_normal ?_
          refine wp_block ?_
          refine wp_seq ?_
          refine wp_region_lit ?_
          refine s_pure hJ 54 (.bool false) (by kernel_rfl) (fun _ => by kernel_rfl) ?_; clear hJ a; intro a hJ
          refine s_pure hJ 53 (.bool false) (by kernel_rfl) (fun _ => by kernel_rfl) ?_; clear hJ a; intro a hJ
          refine wpList_nil ?_
          refine then_normal ?_
          refine c_false hJ (t := false) (by kernel_rfl) rfl ?_
          refine wp_seq ?_
          refine wp_region_lit ?_
          refine s_pure hJ 59 (.bool true) (by kernel_rfl) (fun _ => by kernel_rfl) ?_; clear hJ a; intro a hJ
          refine s_pure hJ 58 (.bool true) (by kernel_rfl) (fun _ => by kernel_rfl) ?_; clear hJ a; intro a hJ
          refine wpList_nil ?_
          refine then_normal ?_
          refine c_true hJ (t := true) (by kernel_rfl) rfl ?_
          refine wp_seq ?_
          refine wp_region_lit ?_
          refine s_pure hJ 60 (.func (.func 62) #[] #[.pointer (some ⟨b1, 0, none⟩), .pointer (some ⟨b5, 0, none⟩), .pointer (some ⟨b9, 0, none⟩)]) (by kernel_rfl) (fun _ => by kernel_rfl) ?_; clear hJ a; intro a hJ
          refine s_fact hJ 61 (fun g => .slice (some ⟨g, 0, none⟩) 1 1) [.int .i64 3] 3 (by kernel_rfl) (fun _ => by kernel_rfl) ?_; clear hJ a w; intro b37 h38 a w s39 fk hJ
          refine s_call1 hJ 62 2 (many 18 [3] _ _ _ _ _ _ _ (hr.sees (s3.trans (s7.trans (s11.trans (s15.trans (s18.trans (s22.trans (s36.trans (s39.trans hJ.sees))))))))) (by omega) (by simp) (by simp <;> omega) (rs_ints [3] (by unfold maxLen; simp) (fk.sees hJ.sees)) (hf.sees (hJ.lent hm)) (List.mem_append_right _ hg) (f4.sees (s7.trans (s11.trans (s15.trans (s18.trans (s22.trans (s36.trans (s39.trans hJ.sees)))))))) (f8.sees (s11.trans (s15.trans (s18.trans (s22.trans (s36.trans (s39.trans hJ.sees))))))) (f12.sees (s15.trans (s18.trans (s22.trans (s36.trans (s39.trans hJ.sees))))))) (by kernel_rfl) (by kernel_rfl) (fun _ => by kernel_rfl) ?_; clear hJ a w; rintro _ _ h40 a w s41 ⟨u, rfl, rfl, fu⟩ hJ
          refine s_store hJ (t := 38) (x := (.tmp 8)) (y := (.tmp 62)) 1 (.agg #[.int .i64 ((opE 18 (manyE (genE l fs d) [3] (atNext l n)).1).op), .int .i64 ((opE 18 (manyE (genE l fs d) [3] (atNext l n)).1).k), .int .i64 ((opE 18 (manyE (genE l fs d) [3] (atNext l n)).1).n), .string ((opE 18 (manyE (genE l fs d) [3] (atNext l n)).1).s), .string ((opE 18 (manyE (genE l fs d) [3] (atNext l n)).1).nm), .slice (sA u) (sN u) (sC u)]) (b := b13) (off := 0) (cs := [.int .i64 0, .int .i64 0, .int .i64 0, .string ⟨#[]⟩, .string ⟨#[]⟩, .slice none 0 0]) [.int .i64 ((opE 18 (manyE (genE l fs d) [3] (atNext l n)).1).op), .int .i64 ((opE 18 (manyE (genE l fs d) [3] (atNext l n)).1).k), .int .i64 ((opE 18 (manyE (genE l fs d) [3] (atNext l n)).1).n), .string ((opE 18 (manyE (genE l fs d) [3] (atNext l n)).1).s), .string ((opE 18 (manyE (genE l fs d) [3] (atNext l n)).1).nm), .slice (sA u) (sN u) (sC u)] (by kernel_rfl) (by kernel_rfl) (by kernel_rfl) (by kernel_rfl) (by kernel_rfl) (by kernel_rfl) (by kernel_rfl) ?_; clear hJ w; intro w hJ
          refine wpList_nil ?_
          refine then_normal ?_
          refine wp_ret ?_
          refine block_ret ?_
          refine block_ret ?_
          refine then_ret ?_
          refine (hQ [.agg #[.int .i64 ((opE 18 (manyE (genE l fs d) [3] (atNext l n)).1).op), .int .i64 ((opE 18 (manyE (genE l fs d) [3] (atNext l n)).1).k), .int .i64 ((opE 18 (manyE (genE l fs d) [3] (atNext l n)).1).n), .string ((opE 18 (manyE (genE l fs d) [3] (atNext l n)).1).s), .string ((opE 18 (manyE (genE l fs d) [3] (atNext l n)).1).nm), .slice (sA u) (sN u) (sC u)]] [.box b16 [.int .i64 ((rawAt l n).k), .int .i64 ((rawAt l n).a), .int .i64 ((rawAt l n).b), .string ((rawAt l n).t)], .box b13 [.int .i64 ((opE 18 (manyE (genE l fs d) [3] (atNext l n)).1).op), .int .i64 ((opE 18 (manyE (genE l fs d) [3] (atNext l n)).1).k), .int .i64 ((opE 18 (manyE (genE l fs d) [3] (atNext l n)).1).n), .string ((opE 18 (manyE (genE l fs d) [3] (atNext l n)).1).s), .string ((opE 18 (manyE (genE l fs d) [3] (atNext l n)).1).nm), .slice (sA u) (sN u) (sC u)]] [(g, [sl, .int .i64 (((manyE (genE l fs d) [3] (atNext l n)).2 : Nat) : Int)])] hJ (.rcell hJ 1 (b := b13) (cs := [.int .i64 ((opE 18 (manyE (genE l fs d) [3] (atNext l n)).1).op), .int .i64 ((opE 18 (manyE (genE l fs d) [3] (atNext l n)).1).k), .int .i64 ((opE 18 (manyE (genE l fs d) [3] (atNext l n)).1).n), .string ((opE 18 (manyE (genE l fs d) [3] (atNext l n)).1).s), .string ((opE 18 (manyE (genE l fs d) [3] (atNext l n)).1).nm), .slice (sA u) (sN u) (sC u)]) (by kernel_rfl) (by kernel_rfl) (by kernel_rfl) .nil) (by kernel_rfl) (by kernel_rfl) ?_).1
          exact expr_end (genE_with q3 (by unfold pickE; rw [if_neg q6, q7]; rfl)) rfl rfl (fu.sees hJ.out)
        · skip
          rw [q7] at pb7
          refine c_false hJ (t := (pickL (rawAt l n).a 6) == 0) (by kernel_rfl) (beq_eq_false_iff_ne.2 q6) ?_
          refine wp_skip ?_
          refine then_normal ?_
          refine wp_seq ?_
          refine wp_seq ?_
          refine wp_region_lit ?_
          refine s_pure hJ 38 (.int .i64 1) (by kernel_rfl) (fun _ => by kernel_rfl) ?_; clear hJ a; intro a hJ
          refine wpList_nil ?_
          refine then_normal ?_
          refine wp_block ?_
          refine wp_seq ?_
          refine wp_region_lit ?_
          refine s_pure hJ 40 (.bool true) (by kernel_rfl) (fun _ => by kernel_rfl) ?_; clear hJ a; intro a hJ
          refine s_pure hJ 39 (.bool true) (by kernel_rfl) (fun _ => by kernel_rfl) ?_; clear hJ a; intro a hJ
          refine wpList_nil ?_
          refine then_normal ?_
          refine c_true hJ (t := true) (by kernel_rfl) rfl ?_
          refine wp_seq ?_
          refine wp_region_lit ?_
          refine s_pure hJ 41 (.pointer (some ⟨b16, 2, none⟩)) (by kernel_rfl) (fun _ => by kernel_rfl) ?_; clear hJ a; intro a hJ
          refine s_load hJ (t := 3) (x := (.tmp 41)) 42 (.int .i64 ((rawAt l n).b)) 0 (b := b16) (off := 2) (cs := [.int .i64 ((rawAt l n).k), .int .i64 ((rawAt l n).a), .int .i64 ((rawAt l n).b), .string ((rawAt l n).t)]) (by kernel_rfl) (by kernel_rfl) (by kernel_rfl) (by kernel_rfl) (by kernel_rfl) ?_; clear hJ a; intro a hJ
          refine s_call hJ 43 (pb7 _ rb0 rb1 (by omega) (by omega)) (by kernel_rfl) (fun _ => by kernel_rfl) ?_; clear hJ a w; rintro _ h42 a w s43 rfl hJ
          refine s_pure hJ 11 (.int .i64 2) (by kernel_rfl) (fun _ => by kernel_rfl) ?_; clear hJ a; intro a hJ
          refine wpList_nil ?_
          refine then_normal ?_
          refine wp_seq ?_
          refine wp_region_lit ?_
          refine s_pure hJ 44 (.int .i64 2) (by kernel_rfl) (fun _ => by kernel_rfl) ?_; clear hJ a; intro a hJ
          refine wpList_nil ?_
          refine then_normal ?_
          refine wp_block ?_
          refine wp_seq ?_
          refine wp_region_lit ?_
          refine s_pure hJ 54 (.bool false) (by kernel_rfl) (fun _ => by kernel_rfl) ?_; clear hJ a; intro a hJ
          refine s_pure hJ 53 (.bool false) (by kernel_rfl) (fun _ => by kernel_rfl) ?_; clear hJ a; intro a hJ
          refine wpList_nil ?_
          refine then_normal ?_
          refine c_false hJ (t := false) (by kernel_rfl) rfl ?_
          refine wp_seq ?_
          refine wp_region_lit ?_
          refine s_pure hJ 59 (.bool false) (by kernel_rfl) (fun _ => by kernel_rfl) ?_; clear hJ a; intro a hJ
          refine s_pure hJ 58 (.bool false) (by kernel_rfl) (fun _ => by kernel_rfl) ?_; clear hJ a; intro a hJ
          refine wpList_nil ?_
          refine then_normal ?_
          refine c_false hJ (t := false) (by kernel_rfl) rfl ?_
          refine wp_seq ?_
          refine wp_region_lit ?_
          refine s_pure hJ 45 (.func (.func 62) #[] #[.pointer (some ⟨b1, 0, none⟩), .pointer (some ⟨b5, 0, none⟩), .pointer (some ⟨b9, 0, none⟩)]) (by kernel_rfl) (fun _ => by kernel_rfl) ?_; clear hJ a; intro a hJ
          refine s_fact hJ 46 (fun g => .slice (some ⟨g, 0, none⟩) 5 5) [.int .i64 5, .int .i64 6, .int .i64 7, .int .i64 8, .int .i64 9] 3 (by kernel_rfl) (fun _ => by kernel_rfl) ?_; clear hJ a w; intro b44 h45 a w s46 f47 hJ
          refine s_pure hJ 47 (.int .i64 2) (by kernel_rfl) (fun _ => by kernel_rfl) ?_; clear hJ a; intro a hJ
          refine s_pure hJ 48 (.int .i64 0) (by kernel_rfl) (fun _ => by kernel_rfl) ?_; clear hJ a; intro a hJ
          refine s_pure hJ 49 (.pointer (some ⟨b44, 0, none⟩)) (by kernel_rfl) (fun _ => by kernel_rfl) ?_; clear hJ a; intro a hJ
          refine s_loadf hJ (t := 3) (x := (.tmp 49)) 50 (.int .i64 5) (off := 0) f47 (Sees.refl _) (by kernel_rfl) (by kernel_rfl) (by kernel_rfl) (by kernel_rfl) ?_; clear hJ a; intro a hJ
          refine s_fact hJ 51 (fun g => .slice (some ⟨g, 0, none⟩) 2 2) [.int .i64 1, .int .i64 1] 3 (by kernel_rfl) (fun _ => by kernel_rfl) ?_; clear hJ a w; intro b48 h49 a w s50 fk hJ
          refine s_call1 hJ 52 2 (many 5 [1, 1] _ _ _ _ _ _ _ (hr.sees (s3.trans (s7.trans (s11.trans (s15.trans (s18.trans (s22.trans (s43.trans (s46.trans (s50.trans hJ.sees)))))))))) (by omega) (by simp) (by simp <;> omega) (rs_ints [1, 1] (by unfold maxLen; simp) (fk.sees hJ.sees)) (hf.sees (hJ.lent hm)) (List.mem_append_right _ hg) (f4.sees (s7.trans (s11.trans (s15.trans (s18.trans (s22.trans (s43.trans (s46.trans (s50.trans hJ.sees))))))))) (f8.sees (s11.trans (s15.trans (s18.trans (s22.trans (s43.trans (s46.trans (s50.trans hJ.sees)))))))) (f12.sees (s15.trans (s18.trans (s22.trans (s43.trans (s46.trans (s50.trans hJ.sees)))))))) (by kernel_rfl) (by kernel_rfl) (fun _ => by kernel_rfl) ?_; clear hJ a w; rintro _ _ h51 a w s52 ⟨u, rfl, rfl, fu⟩ hJ
          refine s_store hJ (t := 38) (x := (.tmp 8)) (y := (.tmp 52)) 1 (.agg #[.int .i64 ((opE 5 (manyE (genE l fs d) [1, 1] (atNext l n)).1).op), .int .i64 ((opE 5 (manyE (genE l fs d) [1, 1] (atNext l n)).1).k), .int .i64 ((opE 5 (manyE (genE l fs d) [1, 1] (atNext l n)).1).n), .string ((opE 5 (manyE (genE l fs d) [1, 1] (atNext l n)).1).s), .string ((opE 5 (manyE (genE l fs d) [1, 1] (atNext l n)).1).nm), .slice (sA u) (sN u) (sC u)]) (b := b13) (off := 0) (cs := [.int .i64 0, .int .i64 0, .int .i64 0, .string ⟨#[]⟩, .string ⟨#[]⟩, .slice none 0 0]) [.int .i64 ((opE 5 (manyE (genE l fs d) [1, 1] (atNext l n)).1).op), .int .i64 ((opE 5 (manyE (genE l fs d) [1, 1] (atNext l n)).1).k), .int .i64 ((opE 5 (manyE (genE l fs d) [1, 1] (atNext l n)).1).n), .string ((opE 5 (manyE (genE l fs d) [1, 1] (atNext l n)).1).s), .string ((opE 5 (manyE (genE l fs d) [1, 1] (atNext l n)).1).nm), .slice (sA u) (sN u) (sC u)] (by kernel_rfl) (by kernel_rfl) (by kernel_rfl) (by kernel_rfl) (by kernel_rfl) (by kernel_rfl) (by kernel_rfl) ?_; clear hJ w; intro w hJ
          refine wpList_nil ?_
          refine then_normal ?_
          refine wp_ret ?_
          refine block_ret ?_
          refine block_ret ?_
          refine then_ret ?_
          refine (hQ [.agg #[.int .i64 ((opE 5 (manyE (genE l fs d) [1, 1] (atNext l n)).1).op), .int .i64 ((opE 5 (manyE (genE l fs d) [1, 1] (atNext l n)).1).k), .int .i64 ((opE 5 (manyE (genE l fs d) [1, 1] (atNext l n)).1).n), .string ((opE 5 (manyE (genE l fs d) [1, 1] (atNext l n)).1).s), .string ((opE 5 (manyE (genE l fs d) [1, 1] (atNext l n)).1).nm), .slice (sA u) (sN u) (sC u)]] [.box b16 [.int .i64 ((rawAt l n).k), .int .i64 ((rawAt l n).a), .int .i64 ((rawAt l n).b), .string ((rawAt l n).t)], .box b13 [.int .i64 ((opE 5 (manyE (genE l fs d) [1, 1] (atNext l n)).1).op), .int .i64 ((opE 5 (manyE (genE l fs d) [1, 1] (atNext l n)).1).k), .int .i64 ((opE 5 (manyE (genE l fs d) [1, 1] (atNext l n)).1).n), .string ((opE 5 (manyE (genE l fs d) [1, 1] (atNext l n)).1).s), .string ((opE 5 (manyE (genE l fs d) [1, 1] (atNext l n)).1).nm), .slice (sA u) (sN u) (sC u)]] [(g, [sl, .int .i64 (((manyE (genE l fs d) [1, 1] (atNext l n)).2 : Nat) : Int)])] hJ (.rcell hJ 1 (b := b13) (cs := [.int .i64 ((opE 5 (manyE (genE l fs d) [1, 1] (atNext l n)).1).op), .int .i64 ((opE 5 (manyE (genE l fs d) [1, 1] (atNext l n)).1).k), .int .i64 ((opE 5 (manyE (genE l fs d) [1, 1] (atNext l n)).1).n), .string ((opE 5 (manyE (genE l fs d) [1, 1] (atNext l n)).1).s), .string ((opE 5 (manyE (genE l fs d) [1, 1] (atNext l n)).1).nm), .slice (sA u) (sN u) (sC u)]) (by kernel_rfl) (by kernel_rfl) (by kernel_rfl) .nil) (by kernel_rfl) (by kernel_rfl) ?_).1
          exact expr_end (genE_with q3 (by unfold pickE; rw [if_neg q6, q7]; rfl)) rfl rfl (fu.sees hJ.out)
        · skip
          rw [q7] at pb7
          refine c_false hJ (t := (pickL (rawAt l n).a 6) == 0) (by kernel_rfl) (beq_eq_false_iff_ne.2 q6) ?_
          refine wp_skip ?_
          refine then_normal ?_
          refine wp_seq ?_
          refine wp_seq ?_
          refine wp_region_lit ?_
          refine s_pure hJ 38 (.int .i64 1) (by kernel_rfl) (fun _ => by kernel_rfl) ?_; clear hJ a; intro a hJ
          refine wpList_nil ?_
          refine then_normal ?_
          refine wp_block ?_
          refine wp_seq ?_
          refine wp_region_lit ?_
          refine s_pure hJ 40 (.bool true) (by kernel_rfl) (fun _ => by kernel_rfl) ?_; clear hJ a; intro a hJ
          refine s_pure hJ 39 (.bool true) (by kernel_rfl) (fun _ => by kernel_rfl) ?_; clear hJ a; intro a hJ
          refine wpList_nil ?_
          refine then_normal ?_
          refine c_true hJ (t := true) (by kernel_rfl) rfl ?_
          refine wp_seq ?_
          refine wp_region_lit ?_
          refine s_pure hJ 41 (.pointer (some ⟨b16, 2, none⟩)) (by kernel_rfl) (fun _ => by kernel_rfl) ?_; clear hJ a; intro a hJ
          refine s_load hJ (t := 3) (x := (.tmp 41)) 42 (.int .i64 ((rawAt l n).b)) 0 (b := b16) (off := 2) (cs := [.int .i64 ((rawAt l n).k), .int .i64 ((rawAt l n).a), .int .i64 ((rawAt l n).b), .string ((rawAt l n).t)]) (by kernel_rfl) (by kernel_rfl) (by kernel_rfl) (by kernel_rfl) (by kernel_rfl) ?_; clear hJ a; intro a hJ
          refine s_call hJ 43 (pb7 _ rb0 rb1 (by omega) (by omega)) (by kernel_rfl) (fun _ => by kernel_rfl) ?_; clear hJ a w; rintro _ h53 a w s54 rfl hJ
          refine s_pure hJ 11 (.int .i64 3) (by kernel_rfl) (fun _ => by kernel_rfl) ?_; clear hJ a; intro a hJ
          refine wpList_nil ?_
          refine then_normal ?_
          refine wp_seq ?_
          refine wp_region_lit ?_
          refine s_pure hJ 44 (.int .i64 3) (by kernel_rfl) (fun _ => by kernel_rfl) ?_; clear hJ a; intro a hJ
          refine wpList_nil ?_
          refine then_normal ?_
          refine wp_block ?_
          refine wp_seq ?_
          refine wp_region_lit ?_
          refine s_pure hJ 54 (.bool false) (by kernel_rfl) (fun _ => by kernel_rfl) ?_; clear hJ a; intro a hJ
          refine s_pure hJ 53 (.bool false) (by kernel_rfl) (fun _ => by kernel_rfl) ?_; clear hJ a; intro a hJ
          refine wpList_nil ?_
          refine then_normal ?_
          refine c_false hJ (t := false) (by kernel_rfl) rfl ?_
          refine wp_seq ?_
          refine wp_region_lit ?_
          refine s_pure hJ 59 (.bool false) (by kernel_rfl) (fun _ => by kernel_rfl) ?_; clear hJ a; intro a hJ
          refine s_pure hJ 58 (.bool false) (by kernel_rfl) (fun _ => by kernel_rfl) ?_; clear hJ a; intro a hJ
          refine wpList_nil ?_
          refine then_normal ?_
          refine c_false hJ (t := false) (by kernel_rfl) rfl ?_
          refine wp_seq ?_
          refine wp_region_lit ?_
          refine s_pure hJ 45 (.func (.func 62) #[] #[.pointer (some ⟨b1, 0, none⟩), .pointer (some ⟨b5, 0, none⟩), .pointer (some ⟨b9, 0, none⟩)]) (by kernel_rfl) (fun _ => by kernel_rfl) ?_; clear hJ a; intro a hJ
          refine s_fact hJ 46 (fun g => .slice (some ⟨g, 0, none⟩) 5 5) [.int .i64 5, .int .i64 6, .int .i64 7, .int .i64 8, .int .i64 9] 3 (by kernel_rfl) (fun _ => by kernel_rfl) ?_; clear hJ a w; intro b55 h56 a w s57 f58 hJ
          refine s_pure hJ 47 (.int .i64 3) (by kernel_rfl) (fun _ => by kernel_rfl) ?_; clear hJ a; intro a hJ
          refine s_pure hJ 48 (.int .i64 1) (by kernel_rfl) (fun _ => by kernel_rfl) ?_; clear hJ a; intro a hJ
          refine s_pure hJ 49 (.pointer (some ⟨b55, 1, none⟩)) (by kernel_rfl) (fun _ => by kernel_rfl) ?_; clear hJ a; intro a hJ
          refine s_loadf hJ (t := 3) (x := (.tmp 49)) 50 (.int .i64 6) (off := 1) f58 (Sees.refl _) (by kernel_rfl) (by kernel_rfl) (by kernel_rfl) (by kernel_rfl) ?_; clear hJ a; intro a hJ
          refine s_fact hJ 51 (fun g => .slice (some ⟨g, 0, none⟩) 2 2) [.int .i64 1, .int .i64 1] 3 (by kernel_rfl) (fun _ => by kernel_rfl) ?_; clear hJ a w; intro b59 h60 a w s61 fk hJ
          refine s_call1 hJ 52 2 (many 6 [1, 1] _ _ _ _ _ _ _ (hr.sees (s3.trans (s7.trans (s11.trans (s15.trans (s18.trans (s22.trans (s54.trans (s57.trans (s61.trans hJ.sees)))))))))) (by omega) (by simp) (by simp <;> omega) (rs_ints [1, 1] (by unfold maxLen; simp) (fk.sees hJ.sees)) (hf.sees (hJ.lent hm)) (List.mem_append_right _ hg) (f4.sees (s7.trans (s11.trans (s15.trans (s18.trans (s22.trans (s54.trans (s57.trans (s61.trans hJ.sees))))))))) (f8.sees (s11.trans (s15.trans (s18.trans (s22.trans (s54.trans (s57.trans (s61.trans hJ.sees)))))))) (f12.sees (s15.trans (s18.trans (s22.trans (s54.trans (s57.trans (s61.trans hJ.sees)))))))) (by kernel_rfl) (by kernel_rfl) (fun _ => by kernel_rfl) ?_; clear hJ a w; rintro _ _ h62 a w s63 ⟨u, rfl, rfl, fu⟩ hJ
          refine s_store hJ (t := 38) (x := (.tmp 8)) (y := (.tmp 52)) 1 (.agg #[.int .i64 ((opE 6 (manyE (genE l fs d) [1, 1] (atNext l n)).1).op), .int .i64 ((opE 6 (manyE (genE l fs d) [1, 1] (atNext l n)).1).k), .int .i64 ((opE 6 (manyE (genE l fs d) [1, 1] (atNext l n)).1).n), .string ((opE 6 (manyE (genE l fs d) [1, 1] (atNext l n)).1).s), .string ((opE 6 (manyE (genE l fs d) [1, 1] (atNext l n)).1).nm), .slice (sA u) (sN u) (sC u)]) (b := b13) (off := 0) (cs := [.int .i64 0, .int .i64 0, .int .i64 0, .string ⟨#[]⟩, .string ⟨#[]⟩, .slice none 0 0]) [.int .i64 ((opE 6 (manyE (genE l fs d) [1, 1] (atNext l n)).1).op), .int .i64 ((opE 6 (manyE (genE l fs d) [1, 1] (atNext l n)).1).k), .int .i64 ((opE 6 (manyE (genE l fs d) [1, 1] (atNext l n)).1).n), .string ((opE 6 (manyE (genE l fs d) [1, 1] (atNext l n)).1).s), .string ((opE 6 (manyE (genE l fs d) [1, 1] (atNext l n)).1).nm), .slice (sA u) (sN u) (sC u)] (by kernel_rfl) (by kernel_rfl) (by kernel_rfl) (by kernel_rfl) (by kernel_rfl) (by kernel_rfl) (by kernel_rfl) ?_; clear hJ w; intro w hJ
          refine wpList_nil ?_
          refine then_normal ?_
          refine wp_ret ?_
          refine block_ret ?_
          refine block_ret ?_
          refine then_ret ?_
          refine (hQ [.agg #[.int .i64 ((opE 6 (manyE (genE l fs d) [1, 1] (atNext l n)).1).op), .int .i64 ((opE 6 (manyE (genE l fs d) [1, 1] (atNext l n)).1).k), .int .i64 ((opE 6 (manyE (genE l fs d) [1, 1] (atNext l n)).1).n), .string ((opE 6 (manyE (genE l fs d) [1, 1] (atNext l n)).1).s), .string ((opE 6 (manyE (genE l fs d) [1, 1] (atNext l n)).1).nm), .slice (sA u) (sN u) (sC u)]] [.box b16 [.int .i64 ((rawAt l n).k), .int .i64 ((rawAt l n).a), .int .i64 ((rawAt l n).b), .string ((rawAt l n).t)], .box b13 [.int .i64 ((opE 6 (manyE (genE l fs d) [1, 1] (atNext l n)).1).op), .int .i64 ((opE 6 (manyE (genE l fs d) [1, 1] (atNext l n)).1).k), .int .i64 ((opE 6 (manyE (genE l fs d) [1, 1] (atNext l n)).1).n), .string ((opE 6 (manyE (genE l fs d) [1, 1] (atNext l n)).1).s), .string ((opE 6 (manyE (genE l fs d) [1, 1] (atNext l n)).1).nm), .slice (sA u) (sN u) (sC u)]] [(g, [sl, .int .i64 (((manyE (genE l fs d) [1, 1] (atNext l n)).2 : Nat) : Int)])] hJ (.rcell hJ 1 (b := b13) (cs := [.int .i64 ((opE 6 (manyE (genE l fs d) [1, 1] (atNext l n)).1).op), .int .i64 ((opE 6 (manyE (genE l fs d) [1, 1] (atNext l n)).1).k), .int .i64 ((opE 6 (manyE (genE l fs d) [1, 1] (atNext l n)).1).n), .string ((opE 6 (manyE (genE l fs d) [1, 1] (atNext l n)).1).s), .string ((opE 6 (manyE (genE l fs d) [1, 1] (atNext l n)).1).nm), .slice (sA u) (sN u) (sC u)]) (by kernel_rfl) (by kernel_rfl) (by kernel_rfl) .nil) (by kernel_rfl) (by kernel_rfl) ?_).1
          exact expr_end (genE_with q3 (by unfold pickE; rw [if_neg q6, q7]; rfl)) rfl rfl (fu.sees hJ.out)
        · skip
          rw [q7] at pb7
          refine c_false hJ (t := (pickL (rawAt l n).a 6) == 0) (by kernel_rfl) (beq_eq_false_iff_ne.2 q6) ?_
          refine wp_skip ?_
          refine then_normal ?_
          refine wp_seq ?_
          refine wp_seq ?_
          refine wp_region_lit ?_
          refine s_pure hJ 38 (.int .i64 1) (by kernel_rfl) (fun _ => by kernel_rfl) ?_; clear hJ a; intro a hJ
          refine wpList_nil ?_
          refine then_normal ?_
          refine wp_block ?_
          refine wp_seq ?_
          refine wp_region_lit ?_
          refine s_pure hJ 40 (.bool true) (by kernel_rfl) (fun _ => by kernel_rfl) ?_; clear hJ a; intro a hJ
          refine s_pure hJ 39 (.bool true) (by kernel_rfl) (fun _ => by kernel_rfl) ?_; clear hJ a; intro a hJ
          refine wpList_nil ?_
          refine then_normal ?_
          refine c_true hJ (t := true) (by kernel_rfl) rfl ?_
          refine wp_seq ?_
          refine wp_region_lit ?_
          refine s_pure hJ 41 (.pointer (some ⟨b16, 2, none⟩)) (by kernel_rfl) (fun _ => by kernel_rfl) ?_; clear hJ a; intro a hJ
          refine s_load hJ (t := 3) (x := (.tmp 41)) 42 (.int .i64 ((rawAt l n).b)) 0 (b := b16) (off := 2) (cs := [.int .i64 ((rawAt l n).k), .int .i64 ((rawAt l n).a), .int .i64 ((rawAt l n).b), .string ((rawAt l n).t)]) (by kernel_rfl) (by kernel_rfl) (by kernel_rfl) (by kernel_rfl) (by kernel_rfl) ?_; clear hJ a; intro a hJ
          refine s_call hJ 43 (pb7 _ rb0 rb1 (by omega) (by omega)) (by kernel_rfl) (fun _ => by kernel_rfl) ?_; clear hJ a w; rintro _ h64 a w s65 rfl hJ
          refine s_pure hJ 11 (.int .i64 4) (by kernel_rfl) (fun _ => by kernel_rfl) ?_; clear hJ a; intro a hJ
          refine wpList_nil ?_
          refine then_normal ?_
          refine wp_seq ?_
          refine wp_region_lit ?_
          refine s_pure hJ 44 (.int .i64 4) (by kernel_rfl) (fun _ => by kernel_rfl) ?_; clear hJ a; intro a hJ
          refine wpList_nil ?_
          refine then_normal ?_
          refine wp_block ?_
          refine wp_seq ?_
          refine wp_region_lit ?_
          refine s_pure hJ 54 (.bool false) (by kernel_rfl) (fun _ => by kernel_rfl) ?_; clear hJ a; intro a hJ
          refine s_pure hJ 53 (.bool false) (by kernel_rfl) (fun _ => by kernel_rfl) ?_; clear hJ a; intro a hJ
          refine wpList_nil ?_
          refine then_normal ?_
          refine c_false hJ (t := false) (by kernel_rfl) rfl ?_
          refine wp_seq ?_
          refine wp_region_lit ?_
          refine s_pure hJ 59 (.bool false) (by kernel_rfl) (fun _ => by kernel_rfl) ?_; clear hJ a; intro a hJ
          refine s_pure hJ 58 (.bool false) (by kernel_rfl) (fun _ => by kernel_rfl) ?_; clear hJ a; intro a hJ
          refine wpList_nil ?_
          refine then_normal ?_
          refine c_false hJ (t := false) (by kernel_rfl) rfl ?_
          refine wp_seq ?_
          refine wp_region_lit ?_
          refine s_pure hJ 45 (.func (.func 62) #[] #[.pointer (some ⟨b1, 0, none⟩), .pointer (some ⟨b5, 0, none⟩), .pointer (some ⟨b9, 0, none⟩)]) (by kernel_rfl) (fun _ => by kernel_rfl) ?_; clear hJ a; intro a hJ
          refine s_fact hJ 46 (fun g => .slice (some ⟨g, 0, none⟩) 5 5) [.int .i64 5, .int .i64 6, .int .i64 7, .int .i64 8, .int .i64 9] 3 (by kernel_rfl) (fun _ => by kernel_rfl) ?_; clear hJ a w; intro b66 h67 a w s68 f69 hJ
          refine s_pure hJ 47 (.int .i64 4) (by kernel_rfl) (fun _ => by kernel_rfl) ?_; clear hJ a; intro a hJ
          refine s_pure hJ 48 (.int .i64 2) (by kernel_rfl) (fun _ => by kernel_rfl) ?_; clear hJ a; intro a hJ
          refine s_pure hJ 49 (.pointer (some ⟨b66, 2, none⟩)) (by kernel_rfl) (fun _ => by kernel_rfl) ?_; clear hJ a; intro a hJ
          refine s_loadf hJ (t := 3) (x := (.tmp 49)) 50 (.int .i64 7) (off := 2) f69 (Sees.refl _) (by kernel_rfl) (by kernel_rfl) (by kernel_rfl) (by kernel_rfl) ?_; clear hJ a; intro a hJ
          refine s_fact hJ 51 (fun g => .slice (some ⟨g, 0, none⟩) 2 2) [.int .i64 1, .int .i64 1] 3 (by kernel_rfl) (fun _ => by kernel_rfl) ?_; clear hJ a w; intro b70 h71 a w s72 fk hJ
          refine s_call1 hJ 52 2 (many 7 [1, 1] _ _ _ _ _ _ _ (hr.sees (s3.trans (s7.trans (s11.trans (s15.trans (s18.trans (s22.trans (s65.trans (s68.trans (s72.trans hJ.sees)))))))))) (by omega) (by simp) (by simp <;> omega) (rs_ints [1, 1] (by unfold maxLen; simp) (fk.sees hJ.sees)) (hf.sees (hJ.lent hm)) (List.mem_append_right _ hg) (f4.sees (s7.trans (s11.trans (s15.trans (s18.trans (s22.trans (s65.trans (s68.trans (s72.trans hJ.sees))))))))) (f8.sees (s11.trans (s15.trans (s18.trans (s22.trans (s65.trans (s68.trans (s72.trans hJ.sees)))))))) (f12.sees (s15.trans (s18.trans (s22.trans (s65.trans (s68.trans (s72.trans hJ.sees)))))))) (by kernel_rfl) (by kernel_rfl) (fun _ => by kernel_rfl) ?_; clear hJ a w; rintro _ _ h73 a w s74 ⟨u, rfl, rfl, fu⟩ hJ
          refine s_store hJ (t := 38) (x := (.tmp 8)) (y := (.tmp 52)) 1 (.agg #[.int .i64 ((opE 7 (manyE (genE l fs d) [1, 1] (atNext l n)).1).op), .int .i64 ((opE 7 (manyE (genE l fs d) [1, 1] (atNext l n)).1).k), .int .i64 ((opE 7 (manyE (genE l fs d) [1, 1] (atNext l n)).1).n), .string ((opE 7 (manyE (genE l fs d) [1, 1] (atNext l n)).1).s), .string ((opE 7 (manyE (genE l fs d) [1, 1] (atNext l n)).1).nm), .slice (sA u) (sN u) (sC u)]) (b := b13) (off := 0) (cs := [.int .i64 0, .int .i64 0, .int .i64 0, .string ⟨#[]⟩, .string ⟨#[]⟩, .slice none 0 0]) [.int .i64 ((opE 7 (manyE (genE l fs d) [1, 1] (atNext l n)).1).op), .int .i64 ((opE 7 (manyE (genE l fs d) [1, 1] (atNext l n)).1).k), .int .i64 ((opE 7 (manyE (genE l fs d) [1, 1] (atNext l n)).1).n), .string ((opE 7 (manyE (genE l fs d) [1, 1] (atNext l n)).1).s), .string ((opE 7 (manyE (genE l fs d) [1, 1] (atNext l n)).1).nm), .slice (sA u) (sN u) (sC u)] (by kernel_rfl) (by kernel_rfl) (by kernel_rfl) (by kernel_rfl) (by kernel_rfl) (by kernel_rfl) (by kernel_rfl) ?_; clear hJ w; intro w hJ
          refine wpList_nil ?_
          refine then_normal ?_
          refine wp_ret ?_
          refine block_ret ?_
          refine block_ret ?_
          refine then_ret ?_
          refine (hQ [.agg #[.int .i64 ((opE 7 (manyE (genE l fs d) [1, 1] (atNext l n)).1).op), .int .i64 ((opE 7 (manyE (genE l fs d) [1, 1] (atNext l n)).1).k), .int .i64 ((opE 7 (manyE (genE l fs d) [1, 1] (atNext l n)).1).n), .string ((opE 7 (manyE (genE l fs d) [1, 1] (atNext l n)).1).s), .string ((opE 7 (manyE (genE l fs d) [1, 1] (atNext l n)).1).nm), .slice (sA u) (sN u) (sC u)]] [.box b16 [.int .i64 ((rawAt l n).k), .int .i64 ((rawAt l n).a), .int .i64 ((rawAt l n).b), .string ((rawAt l n).t)], .box b13 [.int .i64 ((opE 7 (manyE (genE l fs d) [1, 1] (atNext l n)).1).op), .int .i64 ((opE 7 (manyE (genE l fs d) [1, 1] (atNext l n)).1).k), .int .i64 ((opE 7 (manyE (genE l fs d) [1, 1] (atNext l n)).1).n), .string ((opE 7 (manyE (genE l fs d) [1, 1] (atNext l n)).1).s), .string ((opE 7 (manyE (genE l fs d) [1, 1] (atNext l n)).1).nm), .slice (sA u) (sN u) (sC u)]] [(g, [sl, .int .i64 (((manyE (genE l fs d) [1, 1] (atNext l n)).2 : Nat) : Int)])] hJ (.rcell hJ 1 (b := b13) (cs := [.int .i64 ((opE 7 (manyE (genE l fs d) [1, 1] (atNext l n)).1).op), .int .i64 ((opE 7 (manyE (genE l fs d) [1, 1] (atNext l n)).1).k), .int .i64 ((opE 7 (manyE (genE l fs d) [1, 1] (atNext l n)).1).n), .string ((opE 7 (manyE (genE l fs d) [1, 1] (atNext l n)).1).s), .string ((opE 7 (manyE (genE l fs d) [1, 1] (atNext l n)).1).nm), .slice (sA u) (sN u) (sC u)]) (by kernel_rfl) (by kernel_rfl) (by kernel_rfl) .nil) (by kernel_rfl) (by kernel_rfl) ?_).1
          exact expr_end (genE_with q3 (by unfold pickE; rw [if_neg q6, q7]; rfl)) rfl rfl (fu.sees hJ.out)
        · skip
          rw [q7] at pb7
          refine c_false hJ (t := (pickL (rawAt l n).a 6) == 0) (by kernel_rfl) (beq_eq_false_iff_ne.2 q6) ?_
          refine wp_skip ?_
          refine then_normal ?_
          refine wp_seq ?_
          refine wp_seq ?_
          refine wp_region_lit ?_
          refine s_pure hJ 38 (.int .i64 1) (by kernel_rfl) (fun _ => by kernel_rfl) ?_; clear hJ a; intro a hJ
          refine wpList_nil ?_
          refine then_normal ?_
          refine wp_block ?_
          refine wp_seq ?_
          refine wp_region_lit ?_
          refine s_pure hJ 40 (.bool true) (by kernel_rfl) (fun _ => by kernel_rfl) ?_; clear hJ a; intro a hJ
          refine s_pure hJ 39 (.bool true) (by kernel_rfl) (fun _ => by kernel_rfl) ?_; clear hJ a; intro a hJ
          refine wpList_nil ?_
          refine then_normal ?_
          refine c_true hJ (t := true) (by kernel_rfl) rfl ?_
          refine wp_seq ?_
          refine wp_region_lit ?_
          refine s_pure hJ 41 (.pointer (some ⟨b16, 2, none⟩)) (by kernel_rfl) (fun _ => by kernel_rfl) ?_; clear hJ a; intro a hJ
          refine s_load hJ (t := 3) (x := (.tmp 41)) 42 (.int .i64 ((rawAt l n).b)) 0 (b := b16) (off := 2) (cs := [.int .i64 ((rawAt l n).k), .int .i64 ((rawAt l n).a), .int .i64 ((rawAt l n).b), .string ((rawAt l n).t)]) (by kernel_rfl) (by kernel_rfl) (by kernel_rfl) (by kernel_rfl) (by kernel_rfl) ?_; clear hJ a; intro a hJ
          refine s_call hJ 43 (pb7 _ rb0 rb1 (by omega) (by omega)) (by kernel_rfl) (fun _ => by kernel_rfl) ?_; clear hJ a w; rintro _ h75 a w s76 rfl hJ
          refine s_pure hJ 11 (.int .i64 5) (by kernel_rfl) (fun _ => by kernel_rfl) ?_; clear hJ a; intro a hJ
          refine wpList_nil ?_
          refine then_normal ?_
          refine wp_seq ?_
          refine wp_region_lit ?_
          refine s_pure hJ 44 (.int .i64 5) (by kernel_rfl) (fun _ => by kernel_rfl) ?_; clear hJ a; intro a hJ
          refine wpList_nil ?_
          refine then_normal ?_
          refine wp_block ?_
          refine wp_seq ?_
          refine wp_region_lit ?_
          refine s_pure hJ 54 (.bool false) (by kernel_rfl) (fun _ => by kernel_rfl) ?_; clear hJ a; intro a hJ
          refine s_pure hJ 53 (.bool false) (by kernel_rfl) (fun _ => by kernel_rfl) ?_; clear hJ a; intro a hJ
          refine wpList_nil ?_
          refine then_normal ?_
          refine c_false hJ (t := false) (by kernel_rfl) rfl ?_
          refine wp_seq ?_
          refine wp_region_lit ?_
          refine s_pure hJ 59 (.bool false) (by kernel_rfl) (fun _ => by kernel_rfl) ?_; clear hJ a; intro a hJ
          refine s_pure hJ 58 (.bool false) (by kernel_rfl) (fun _ => by kernel_rfl) ?_; clear hJ a; intro a hJ
          refine wpList_nil ?_
          refine then_normal ?_
          refine c_false hJ (t := false) (by kernel_rfl) rfl ?_
          refine wp_seq ?_
          refine wp_region_lit ?_
          refine s_pure hJ 45 (.func (.func 62) #[] #[.pointer (some ⟨b1, 0, none⟩), .pointer (some ⟨b5, 0, none⟩), .pointer (some ⟨b9, 0, none⟩)]) (by kernel_rfl) (fun _ => by kernel_rfl) ?_; clear hJ a; intro a hJ
          refine s_fact hJ 46 (fun g => .slice (some ⟨g, 0, none⟩) 5 5) [.int .i64 5, .int .i64 6, .int .i64 7, .int .i64 8, .int .i64 9] 3 (by kernel_rfl) (fun _ => by kernel_rfl) ?_; clear hJ a w; intro b77 h78 a w s79 f80 hJ
          refine s_pure hJ 47 (.int .i64 5) (by kernel_rfl) (fun _ => by kernel_rfl) ?_; clear hJ a; intro a hJ
          refine s_pure hJ 48 (.int .i64 3) (by kernel_rfl) (fun _ => by kernel_rfl) ?_; clear hJ a; intro a hJ
          refine s_pure hJ 49 (.pointer (some ⟨b77, 3, none⟩)) (by kernel_rfl) (fun _ => by kernel_rfl) ?_; clear hJ a; intro a hJ
          refine s_loadf hJ (t := 3) (x := (.tmp 49)) 50 (.int .i64 8) (off := 3) f80 (Sees.refl _) (by kernel_rfl) (by kernel_rfl) (by kernel_rfl) (by kernel_rfl) ?_; clear hJ a; intro a hJ
          refine s_fact hJ 51 (fun g => .slice (some ⟨g, 0, none⟩) 2 2) [.int .i64 1, .int .i64 1] 3 (by kernel_rfl) (fun _ => by kernel_rfl) ?_; clear hJ a w; intro b81 h82 a w s83 fk hJ
          refine s_call1 hJ 52 2 (many 8 [1, 1] _ _ _ _ _ _ _ (hr.sees (s3.trans (s7.trans (s11.trans (s15.trans (s18.trans (s22.trans (s76.trans (s79.trans (s83.trans hJ.sees)))))))))) (by omega) (by simp) (by simp <;> omega) (rs_ints [1, 1] (by unfold maxLen; simp) (fk.sees hJ.sees)) (hf.sees (hJ.lent hm)) (List.mem_append_right _ hg) (f4.sees (s7.trans (s11.trans (s15.trans (s18.trans (s22.trans (s76.trans (s79.trans (s83.trans hJ.sees))))))))) (f8.sees (s11.trans (s15.trans (s18.trans (s22.trans (s76.trans (s79.trans (s83.trans hJ.sees)))))))) (f12.sees (s15.trans (s18.trans (s22.trans (s76.trans (s79.trans (s83.trans hJ.sees)))))))) (by kernel_rfl) (by kernel_rfl) (fun _ => by kernel_rfl) ?_; clear hJ a w; rintro _ _ h84 a w s85 ⟨u, rfl, rfl, fu⟩ hJ
          refine s_store hJ (t := 38) (x := (.tmp 8)) (y := (.tmp 52)) 1 (.agg #[.int .i64 ((opE 8 (manyE (genE l fs d) [1, 1] (atNext l n)).1).op), .int .i64 ((opE 8 (manyE (genE l fs d) [1, 1] (atNext l n)).1).k), .int .i64 ((opE 8 (manyE (genE l fs d) [1, 1] (atNext l n)).1).n), .string ((opE 8 (manyE (genE l fs d) [1, 1] (atNext l n)).1).s), .string ((opE 8 (manyE (genE l fs d) [1, 1] (atNext l n)).1).nm), .slice (sA u) (sN u) (sC u)]) (b := b13) (off := 0) (cs := [.int .i64 0, .int .i64 0, .int .i64 0, .string ⟨#[]⟩, .string ⟨#[]⟩, .slice none 0 0]) [.int .i64 ((opE 8 (manyE (genE l fs d) [1, 1] (atNext l n)).1).op), .int .i64 ((opE 8 (manyE (genE l fs d) [1, 1] (atNext l n)).1).k), .int .i64 ((opE 8 (manyE (genE l fs d) [1, 1] (atNext l n)).1).n), .string ((opE 8 (manyE (genE l fs d) [1, 1] (atNext l n)).1).s), .string ((opE 8 (manyE (genE l fs d) [1, 1] (atNext l n)).1).nm), .slice (sA u) (sN u) (sC u)] (by kernel_rfl) (by kernel_rfl) (by kernel_rfl) (by kernel_rfl) (by kernel_rfl) (by kernel_rfl) (by kernel_rfl) ?_; clear hJ w; intro w hJ
          refine wpList_nil ?_
          refine then_normal ?_
          refine wp_ret ?_
          refine block_ret ?_
          refine block_ret ?_
          refine then_ret ?_
          refine (hQ [.agg #[.int .i64 ((opE 8 (manyE (genE l fs d) [1, 1] (atNext l n)).1).op), .int .i64 ((opE 8 (manyE (genE l fs d) [1, 1] (atNext l n)).1).k), .int .i64 ((opE 8 (manyE (genE l fs d) [1, 1] (atNext l n)).1).n), .string ((opE 8 (manyE (genE l fs d) [1, 1] (atNext l n)).1).s), .string ((opE 8 (manyE (genE l fs d) [1, 1] (atNext l n)).1).nm), .slice (sA u) (sN u) (sC u)]] [.box b16 [.int .i64 ((rawAt l n).k), .int .i64 ((rawAt l n).a), .int .i64 ((rawAt l n).b), .string ((rawAt l n).t)], .box b13 [.int .i64 ((opE 8 (manyE (genE l fs d) [1, 1] (atNext l n)).1).op), .int .i64 ((opE 8 (manyE (genE l fs d) [1, 1] (atNext l n)).1).k), .int .i64 ((opE 8 (manyE (genE l fs d) [1, 1] (atNext l n)).1).n), .string ((opE 8 (manyE (genE l fs d) [1, 1] (atNext l n)).1).s), .string ((opE 8 (manyE (genE l fs d) [1, 1] (atNext l n)).1).nm), .slice (sA u) (sN u) (sC u)]] [(g, [sl, .int .i64 (((manyE (genE l fs d) [1, 1] (atNext l n)).2 : Nat) : Int)])] hJ (.rcell hJ 1 (b := b13) (cs := [.int .i64 ((opE 8 (manyE (genE l fs d) [1, 1] (atNext l n)).1).op), .int .i64 ((opE 8 (manyE (genE l fs d) [1, 1] (atNext l n)).1).k), .int .i64 ((opE 8 (manyE (genE l fs d) [1, 1] (atNext l n)).1).n), .string ((opE 8 (manyE (genE l fs d) [1, 1] (atNext l n)).1).s), .string ((opE 8 (manyE (genE l fs d) [1, 1] (atNext l n)).1).nm), .slice (sA u) (sN u) (sC u)]) (by kernel_rfl) (by kernel_rfl) (by kernel_rfl) .nil) (by kernel_rfl) (by kernel_rfl) ?_).1
          exact expr_end (genE_with q3 (by unfold pickE; rw [if_neg q6, q7]; rfl)) rfl rfl (fu.sees hJ.out)
        · skip
          rw [q7] at pb7
          refine c_false hJ (t := (pickL (rawAt l n).a 6) == 0) (by kernel_rfl) (beq_eq_false_iff_ne.2 q6) ?_
          refine wp_skip ?_
          refine then_normal ?_
          refine wp_seq ?_
          refine wp_seq ?_
          refine wp_region_lit ?_
          refine s_pure hJ 38 (.int .i64 1) (by kernel_rfl) (fun _ => by kernel_rfl) ?_; clear hJ a; intro a hJ
          refine wpList_nil ?_
          refine then_normal ?_
          refine wp_block ?_
          refine wp_seq ?_
          refine wp_region_lit ?_
          refine s_pure hJ 40 (.bool true) (by kernel_rfl) (fun _ => by kernel_rfl) ?_; clear hJ a; intro a hJ
          refine s_pure hJ 39 (.bool true) (by kernel_rfl) (fun _ => by kernel_rfl) ?_; clear hJ a; intro a hJ
          refine wpList_nil ?_
          refine then_normal ?_
          refine c_true hJ (t := true) (by kernel_rfl) rfl ?_
          refine wp_seq ?_
          refine wp_region_lit ?_
          refine s_pure hJ 41 (.pointer (some ⟨b16, 2, none⟩)) (by kernel_rfl) (fun _ => by kernel_rfl) ?_; clear hJ a; intro a hJ
          refine s_load hJ (t := 3) (x := (.tmp 41)) 42 (.int .i64 ((rawAt l n).b)) 0 (b := b16) (off := 2) (cs := [.int .i64 ((rawAt l n).k), .int .i64 ((rawAt l n).a), .int .i64 ((rawAt l n).b), .string ((rawAt l n).t)]) (by kernel_rfl) (by kernel_rfl) (by kernel_rfl) (by kernel_rfl) (by kernel_rfl) ?_; clear hJ a; intro a hJ
          refine s_call hJ 43 (pb7 _ rb0 rb1 (by omega) (by omega)) (by kernel_rfl) (fun _ => by kernel_rfl) ?_; clear hJ a w; rintro _ h86 a w s87 rfl hJ
          refine s_pure hJ 11 (.int .i64 6) (by kernel_rfl) (fun _ => by kernel_rfl) ?_; clear hJ a; intro a hJ
          refine wpList_nil ?_
          refine then_normal ?_
          refine wp_seq ?_
          refine wp_region_lit ?_
          refine s_pure hJ 44 (.int .i64 6) (by kernel_rfl) (fun _ => by kernel_rfl) ?_; clear hJ a; intro a hJ
          refine wpList_nil ?_
          refine then_normal ?_
          refine wp_block ?_
          refine wp_seq ?_
          refine wp_region_lit ?_
          refine s_pure hJ 54 (.bool false) (by kernel_rfl) (fun _ => by kernel_rfl) ?_; clear hJ a; intro a hJ
          refine s_pure hJ 53 (.bool false) (by kernel_rfl) (fun _ => by kernel_rfl) ?_; clear hJ a; intro a hJ
          refine wpList_nil ?_
          refine then_normal ?_
          refine c_false hJ (t := false) (by kernel_rfl) rfl ?_
          refine wp_seq ?_
          refine wp_region_lit ?_
          refine s_pure hJ 59 (.bool false) (by kernel_rfl) (fun _ => by kernel_rfl) ?_; clear hJ a; intro a hJ
          refine s_pure hJ 58 (.bool false) (by kernel_rfl) (fun _ => by kernel_rfl) ?_; clear hJ a; intro a hJ
          refine wpList_nil ?_
          refine then_normal ?_
          refine c_false hJ (t := false) (by kernel_rfl) rfl ?_
          refine wp_seq ?_
          refine wp_region_lit ?_
          refine s_pure hJ 45 (.func (.func 62) #[] #[.pointer (some ⟨b1, 0, none⟩), .pointer (some ⟨b5, 0, none⟩), .pointer (some ⟨b9, 0, none⟩)]) (by kernel_rfl) (fun _ => by kernel_rfl) ?_; clear hJ a; intro a hJ
          refine s_fact hJ 46 (fun g => .slice (some ⟨g, 0, none⟩) 5 5) [.int .i64 5, .int .i64 6, .int .i64 7, .int .i64 8, .int .i64 9] 3 (by kernel_rfl) (fun _ => by kernel_rfl) ?_; clear hJ a w; intro b88 h89 a w s90 f91 hJ
          refine s_pure hJ 47 (.int .i64 6) (by kernel_rfl) (fun _ => by kernel_rfl) ?_; clear hJ a; intro a hJ
          refine s_pure hJ 48 (.int .i64 4) (by kernel_rfl) (fun _ => by kernel_rfl) ?_; clear hJ a; intro a hJ
          refine s_pure hJ 49 (.pointer (some ⟨b88, 4, none⟩)) (by kernel_rfl) (fun _ => by kernel_rfl) ?_; clear hJ a; intro a hJ
          refine s_loadf hJ (t := 3) (x := (.tmp 49)) 50 (.int .i64 9) (off := 4) f91 (Sees.refl _) (by kernel_rfl) (by kernel_rfl) (by kernel_rfl) (by kernel_rfl) ?_; clear hJ a; intro a hJ
          refine s_fact hJ 51 (fun g => .slice (some ⟨g, 0, none⟩) 2 2) [.int .i64 1, .int .i64 1] 3 (by kernel_rfl) (fun _ => by kernel_rfl) ?_; clear hJ a w; intro b92 h93 a w s94 fk hJ
          refine s_call1 hJ 52 2 (many 9 [1, 1] _ _ _ _ _ _ _ (hr.sees (s3.trans (s7.trans (s11.trans (s15.trans (s18.trans (s22.trans (s87.trans (s90.trans (s94.trans hJ.sees)))))))))) (by omega) (by simp) (by simp <;> omega) (rs_ints [1, 1] (by unfold maxLen; simp) (fk.sees hJ.sees)) (hf.sees (hJ.lent hm)) (List.mem_append_right _ hg) (f4.sees (s7.trans (s11.trans (s15.trans (s18.trans (s22.trans (s87.trans (s90.trans (s94.trans hJ.sees))))))))) (f8.sees (s11.trans (s15.trans (s18.trans (s22.trans (s87.trans (s90.trans (s94.trans hJ.sees)))))))) (f12.sees (s15.trans (s18.trans (s22.trans (s87.trans (s90.trans (s94.trans hJ.sees)))))))) (by kernel_rfl) (by kernel_rfl) (fun _ => by kernel_rfl) ?_; clear hJ a w; rintro _ _ h95 a w s96 ⟨u, rfl, rfl, fu⟩ hJ
          refine s_store hJ (t := 38) (x := (.tmp 8)) (y := (.tmp 52)) 1 (.agg #[.int .i64 ((opE 9 (manyE (genE l fs d) [1, 1] (atNext l n)).1).op), .int .i64 ((opE 9 (manyE (genE l fs d) [1, 1] (atNext l n)).1).k), .int .i64 ((opE 9 (manyE (genE l fs d) [1, 1] (atNext l n)).1).n), .string ((opE 9 (manyE (genE l fs d) [1, 1] (atNext l n)).1).s), .string ((opE 9 (manyE (genE l fs d) [1, 1] (atNext l n)).1).nm), .slice (sA u) (sN u) (sC u)]) (b := b13) (off := 0) (cs := [.int .i64 0, .int .i64 0, .int .i64 0, .string ⟨#[]⟩, .string ⟨#[]⟩, .slice none 0 0]) [.int .i64 ((opE 9 (manyE (genE l fs d) [1, 1] (atNext l n)).1).op), .int .i64 ((opE 9 (manyE (genE l fs d) [1, 1] (atNext l n)).1).k), .int .i64 ((opE 9 (manyE (genE l fs d) [1, 1] (atNext l n)).1).n), .string ((opE 9 (manyE (genE l fs d) [1, 1] (atNext l n)).1).s), .string ((opE 9 (manyE (genE l fs d) [1, 1] (atNext l n)).1).nm), .slice (sA u) (sN u) (sC u)] (by kernel_rfl) (by kernel_rfl) (by kernel_rfl) (by kernel_rfl) (by kernel_rfl) (by kernel_rfl) (by kernel_rfl) ?_; clear hJ w; intro w hJ
          refine wpList_nil ?_
          refine then_normal ?_
          refine wp_ret ?_
          refine block_ret ?_
          refine block_ret ?_
          refine then_ret ?_
          refine (hQ [.agg #[.int .i64 ((opE 9 (manyE (genE l fs d) [1, 1] (atNext l n)).1).op), .int .i64 ((opE 9 (manyE (genE l fs d) [1, 1] (atNext l n)).1).k), .int .i64 ((opE 9 (manyE (genE l fs d) [1, 1] (atNext l n)).1).n), .string ((opE 9 (manyE (genE l fs d) [1, 1] (atNext l n)).1).s), .string ((opE 9 (manyE (genE l fs d) [1, 1] (atNext l n)).1).nm), .slice (sA u) (sN u) (sC u)]] [.box b16 [.int .i64 ((rawAt l n).k), .int .i64 ((rawAt l n).a), .int .i64 ((rawAt l n).b), .string ((rawAt l n).t)], .box b13 [.int .i64 ((opE 9 (manyE (genE l fs d) [1, 1] (atNext l n)).1).op), .int .i64 ((opE 9 (manyE (genE l fs d) [1, 1] (atNext l n)).1).k), .int .i64 ((opE 9 (manyE (genE l fs d) [1, 1] (atNext l n)).1).n), .string ((opE 9 (manyE (genE l fs d) [1, 1] (atNext l n)).1).s), .string ((opE 9 (manyE (genE l fs d) [1, 1] (atNext l n)).1).nm), .slice (sA u) (sN u) (sC u)]] [(g, [sl, .int .i64 (((manyE (genE l fs d) [1, 1] (atNext l n)).2 : Nat) : Int)])] hJ (.rcell hJ 1 (b := b13) (cs := [.int .i64 ((opE 9 (manyE (genE l fs d) [1, 1] (atNext l n)).1).op), .int .i64 ((opE 9 (manyE (genE l fs d) [1, 1] (atNext l n)).1).k), .int .i64 ((opE 9 (manyE (genE l fs d) [1, 1] (atNext l n)).1).n), .string ((opE 9 (manyE (genE l fs d) [1, 1] (atNext l n)).1).s), .string ((opE 9 (manyE (genE l fs d) [1, 1] (atNext l n)).1).nm), .slice (sA u) (sN u) (sC u)]) (by kernel_rfl) (by kernel_rfl) (by kernel_rfl) .nil) (by kernel_rfl) (by kernel_rfl) ?_).1
          exact expr_end (genE_with q3 (by unfold pickE; rw [if_neg q6, q7]; rfl)) rfl rfl (fu.sees hJ.out)
    · skip
      by_cases q6 : pickL (rawAt l n).a 6 = 0
      · refine c_true hJ (t := (pickL (rawAt l n).a 6) == 0) (by kernel_rfl) (beq_iff_eq.2 q6) ?_
        refine wp_seq ?_
        refine wp_region_lit ?_
        refine s_pure hJ 33 (.func (.func 62) #[] #[.pointer (some ⟨b1, 0, none⟩), .pointer (some ⟨b5, 0, none⟩), .pointer (some ⟨b9, 0, none⟩)]) (by kernel_rfl) (fun _ => by kernel_rfl) ?_; clear hJ a; intro a hJ
        refine s_pure hJ 34 (.int .i64 2) (by kernel_rfl) (fun _ => by kernel_rfl) ?_; clear hJ a; intro a hJ
        refine s_pure hJ 35 (.int .i64 2) (by kernel_rfl) (fun _ => by kernel_rfl) ?_; clear hJ a; intro a hJ
        refine s_fact hJ 36 (fun g => .slice (some ⟨g, 0, none⟩) 3 3) [.int .i64 2, .int .i64 2, .int .i64 2] 3 (by kernel_rfl) (fun _ => by kernel_rfl) ?_; clear hJ a w; intro b97 h98 a w s99 fk hJ
        refine s_call1 hJ 37 2 (many 17 [2, 2, 2] _ _ _ _ _ _ _ (hr.sees (s3.trans (s7.trans (s11.trans (s15.trans (s18.trans (s22.trans (s99.trans hJ.sees)))))))) (by omega) (by simp) (by simp <;> omega) (rs_ints [2, 2, 2] (by unfold maxLen; simp) (fk.sees hJ.sees)) (hf.sees (hJ.lent hm)) (List.mem_append_right _ hg) (f4.sees (s7.trans (s11.trans (s15.trans (s18.trans (s22.trans (s99.trans hJ.sees))))))) (f8.sees (s11.trans (s15.trans (s18.trans (s22.trans (s99.trans hJ.sees)))))) (f12.sees (s15.trans (s18.trans (s22.trans (s99.trans hJ.sees)))))) (by kernel_rfl) (by kernel_rfl) (fun _ => by kernel_rfl) ?_; clear hJ a w; rintro _ _ h100 a w s101 ⟨u, rfl, rfl, fu⟩ hJ
        refine s_store hJ (t := 38) (x := (.tmp 8)) (y := (.tmp 37)) 1 (.agg #[.int .i64 ((opE 17 (manyE (genE l fs d) [2, 2, 2] (atNext l n)).1).op), .int .i64 ((opE 17 (manyE (genE l fs d) [2, 2, 2] (atNext l n)).1).k), .int .i64 ((opE 17 (manyE (genE l fs d) [2, 2, 2] (atNext l n)).1).n), .string ((opE 17 (manyE (genE l fs d) [2, 2, 2] (atNext l n)).1).s), .string ((opE 17 (manyE (genE l fs d) [2, 2, 2] (atNext l n)).1).nm), .slice (sA u) (sN u) (sC u)]) (b := b13) (off := 0) (cs := [.int .i64 0, .int .i64 0, .int .i64 0, .string ⟨#[]⟩, .string ⟨#[]⟩, .slice none 0 0]) [.int .i64 ((opE 17 (manyE (genE l fs d) [2, 2, 2] (atNext l n)).1).op), .int .i64 ((opE 17 (manyE (genE l fs d) [2, 2, 2] (atNext l n)).1).k), .int .i64 ((opE 17 (manyE (genE l fs d) [2, 2, 2] (atNext l n)).1).n), .string ((opE 17 (manyE (genE l fs d) [2, 2, 2] (atNext l n)).1).s), .string ((opE 17 (manyE (genE l fs d) [2, 2, 2] (atNext l n)).1).nm), .slice (sA u) (sN u) (sC u)] (by kernel_rfl) (by kernel_rfl) (by kernel_rfl) (by kernel_rfl) (by kernel_rfl) (by kernel_rfl) (by kernel_rfl) ?_; clear hJ w; intro w hJ
        refine wpList_nil ?_
        refine then_normal ?_
        refine wp_ret ?_
        refine then_ret ?_
        refine (hQ [.agg #[.int .i64 ((opE 17 (manyE (genE l fs d) [2, 2, 2] (atNext l n)).1).op), .int .i64 ((opE 17 (manyE (genE l fs d) [2, 2, 2] (atNext l n)).1).k), .int .i64 ((opE 17 (manyE (genE l fs d) [2, 2, 2] (atNext l n)).1).n), .string ((opE 17 (manyE (genE l fs d) [2, 2, 2] (atNext l n)).1).s), .string ((opE 17 (manyE (genE l fs d) [2, 2, 2] (atNext l n)).1).nm), .slice (sA u) (sN u) (sC u)]] [.box b16 [.int .i64 ((rawAt l n).k), .int .i64 ((rawAt l n).a), .int .i64 ((rawAt l n).b), .string ((rawAt l n).t)], .box b13 [.int .i64 ((opE 17 (manyE (genE l fs d) [2, 2, 2] (atNext l n)).1).op), .int .i64 ((opE 17 (manyE (genE l fs d) [2, 2, 2] (atNext l n)).1).k), .int .i64 ((opE 17 (manyE (genE l fs d) [2, 2, 2] (atNext l n)).1).n), .string ((opE 17 (manyE (genE l fs d) [2, 2, 2] (atNext l n)).1).s), .string ((opE 17 (manyE (genE l fs d) [2, 2, 2] (atNext l n)).1).nm), .slice (sA u) (sN u) (sC u)]] [(g, [sl, .int .i64 (((manyE (genE l fs d) [2, 2, 2] (atNext l n)).2 : Nat) : Int)])] hJ (.rcell hJ 1 (b := b13) (cs := [.int .i64 ((opE 17 (manyE (genE l fs d) [2, 2, 2] (atNext l n)).1).op), .int .i64 ((opE 17 (manyE (genE l fs d) [2, 2, 2] (atNext l n)).1).k), .int .i64 ((opE 17 (manyE (genE l fs d) [2, 2, 2] (atNext l n)).1).n), .string ((opE 17 (manyE (genE l fs d) [2, 2, 2] (atNext l n)).1).s), .string ((opE 17 (manyE (genE l fs d) [2, 2, 2] (atNext l n)).1).nm), .slice (sA u) (sN u) (sC u)]) (by kernel_rfl) (by kernel_rfl) (by kernel_rfl) .nil) (by kernel_rfl) (by kernel_rfl) ?_).1
        exact expr_end (genE_with q3 (by unfold pickE; rw [if_pos q6])) rfl rfl (fu.sees hJ.out)
      · skip
        obtain q7 | q7 | q7 | q7 | q7 | q7 | q7 : pickL (rawAt l n).b 7 = 0 ∨ pickL (rawAt l n).b 7 = 1 ∨ pickL (rawAt l n).b 7 = 2 ∨ pickL (rawAt l n).b 7 = 3 ∨ pickL (rawAt l n).b 7 = 4 ∨ pickL (rawAt l n).b 7 = 5 ∨ pickL (rawAt l n).b 7 = 6 := by omega
        · skip
          rw [q7] at pb7
          refine c_false hJ (t := (pickL (rawAt l n).a 6) == 0) (by kernel_rfl) (beq_eq_false_iff_ne.2 q6) ?_
          refine wp_skip ?_
          refine then_normal ?_
          refine wp_seq ?_
          refine wp_seq ?_
          refine wp_region_lit ?_
          refine s_pure hJ 38 (.int .i64 2) (by kernel_rfl) (fun _ => by kernel_rfl) ?_; clear hJ a; intro a hJ
          refine wpList_nil ?_
          refine then_normal ?_
          refine wp_block ?_
          refine wp_seq ?_
          refine wp_region_lit ?_
          refine s_pure hJ 40 (.bool false) (by kernel_rfl) (fun _ => by kernel_rfl) ?_; clear hJ a; intro a hJ
          refine s_pure hJ 39 (.bool false) (by kernel_rfl) (fun _ => by kernel_rfl) ?_; clear hJ a; intro a hJ
          refine wpList_nil ?_
          refine then_normal ?_
          refine c_false hJ (t := false) (by kernel_rfl) rfl ?_
          refine wp_seq ?_
          refine wp_region_lit ?_
          refine s_pure hJ 64 (.bool true) (by kernel_rfl) (fun _ => by kernel_rfl) ?_; clear hJ a; intro a hJ
          refine s_pure hJ 63 (.bool true) (by kernel_rfl) (fun _ => by kernel_rfl) ?_; clear hJ a; intro a hJ
          refine wpList_nil ?_
          refine then_normal ?_
          refine c_true hJ (t := true) (by kernel_rfl) rfl ?_
          refine wp_seq ?_
          refine wp_region_lit ?_
          refine s_pure hJ 65 (.pointer (some ⟨b16, 2, none⟩)) (by kernel_rfl) (fun _ => by kernel_rfl) ?_; clear hJ a; intro a hJ
          refine s_load hJ (t := 3) (x := (.tmp 65)) 66 (.int .i64 ((rawAt l n).b)) 0 (b := b16) (off := 2) (cs := [.int .i64 ((rawAt l n).k), .int .i64 ((rawAt l n).a), .int .i64 ((rawAt l n).b), .string ((rawAt l n).t)]) (by kernel_rfl) (by kernel_rfl) (by kernel_rfl) (by kernel_rfl) (by kernel_rfl) ?_; clear hJ a; intro a hJ
          refine s_call hJ 67 (pb7 _ rb0 rb1 (by omega) (by omega)) (by kernel_rfl) (fun _ => by kernel_rfl) ?_; clear hJ a w; rintro _ h102 a w s103 rfl hJ
          refine s_pure hJ 12 (.int .i64 0) (by kernel_rfl) (fun _ => by kernel_rfl) ?_; clear hJ a; intro a hJ
          refine wpList_nil ?_
          refine then_normal ?_
          refine wp_block ?_
          refine wp_seq ?_
          refine wp_region_lit ?_
          refine s_pure hJ 81 (.int .i64 0) (by kernel_rfl) (fun _ => by kernel_rfl) ?_; clear hJ a; intro a hJ
          refine s_pure hJ 82 (.bool true) (by kernel_rfl) (fun _ => by kernel_rfl) ?_; clear hJ a; intro a hJ
          refine s_pure hJ 80 (.bool true) (by kernel_rfl) (fun _ => by kernel_rfl) ?_; clear hJ a; intro a hJ
          refine wpList_nil ?_
          refine then_normal ?_
          refine c_true hJ (t := true) (by kernel_rfl) rfl ?_
          refine wp_seq ?_
          refine wp_region_lit ?_
          refine s_pure hJ 83 (.func (.func 62) #[] #[.pointer (some ⟨b1, 0, none⟩), .pointer (some ⟨b5, 0, none⟩), .pointer (some ⟨b9, 0, none⟩)]) (by kernel_rfl) (fun _ => by kernel_rfl) ?_; clear hJ a; intro a hJ
          refine s_fact hJ 84 (fun g => .slice (some ⟨g, 0, none⟩) 1 1) [.int .i64 2] 3 (by kernel_rfl) (fun _ => by kernel_rfl) ?_; clear hJ a w; intro b104 h105 a w s106 fk hJ
          refine s_call1 hJ 85 2 (many 4 [2] _ _ _ _ _ _ _ (hr.sees (s3.trans (s7.trans (s11.trans (s15.trans (s18.trans (s22.trans (s103.trans (s106.trans hJ.sees))))))))) (by omega) (by simp) (by simp <;> omega) (rs_ints [2] (by unfold maxLen; simp) (fk.sees hJ.sees)) (hf.sees (hJ.lent hm)) (List.mem_append_right _ hg) (f4.sees (s7.trans (s11.trans (s15.trans (s18.trans (s22.trans (s103.trans (s106.trans hJ.sees)))))))) (f8.sees (s11.trans (s15.trans (s18.trans (s22.trans (s103.trans (s106.trans hJ.sees))))))) (f12.sees (s15.trans (s18.trans (s22.trans (s103.trans (s106.trans hJ.sees))))))) (by kernel_rfl) (by kernel_rfl) (fun _ => by kernel_rfl) ?_; clear hJ a w; rintro _ _ h107 a w s108 ⟨u, rfl, rfl, fu⟩ hJ
          refine s_store hJ (t := 38) (x := (.tmp 8)) (y := (.tmp 85)) 1 (.agg #[.int .i64 ((opE 4 (manyE (genE l fs d) [2] (atNext l n)).1).op), .int .i64 ((opE 4 (manyE (genE l fs d) [2] (atNext l n)).1).k), .int .i64 ((opE 4 (manyE (genE l fs d) [2] (atNext l n)).1).n), .string ((opE 4 (manyE (genE l fs d) [2] (atNext l n)).1).s), .string ((opE 4 (manyE (genE l fs d) [2] (atNext l n)).1).nm), .slice (sA u) (sN u) (sC u)]) (b := b13) (off := 0) (cs := [.int .i64 0, .int .i64 0, .int .i64 0, .string ⟨#[]⟩, .string ⟨#[]⟩, .slice none 0 0]) [.int .i64 ((opE 4 (manyE (genE l fs d) [2] (atNext l n)).1).op), .int .i64 ((opE 4 (manyE (genE l fs d) [2] (atNext l n)).1).k), .int .i64 ((opE 4 (manyE (genE l fs d) [2] (atNext l n)).1).n), .string ((opE 4 (manyE (genE l fs d) [2] (atNext l n)).1).s), .string ((opE 4 (manyE (genE l fs d) [2] (atNext l n)).1).nm), .slice (sA u) (sN u) (sC u)] (by kernel_rfl) (by kernel_rfl) (by kernel_rfl) (by kernel_rfl) (by kernel_rfl) (by kernel_rfl) (by kernel_rfl) ?_; clear hJ w; intro w hJ
          refine wpList_nil ?_
          refine then_normal ?_
          refine wp_ret ?_
          refine block_ret ?_
          refine block_ret ?_
          refine then_ret ?_
          refine (hQ [.agg #[.int .i64 ((opE 4 (manyE (genE l fs d) [2] (atNext l n)).1).op), .int .i64 ((opE 4 (manyE (genE l fs d) [2] (atNext l n)).1).k), .int .i64 ((opE 4 (manyE (genE l fs d) [2] (atNext l n)).1).n), .string ((opE 4 (manyE (genE l fs d) [2] (atNext l n)).1).s), .string ((opE 4 (manyE (genE l fs d) [2] (atNext l n)).1).nm), .slice (sA u) (sN u) (sC u)]] [.box b16 [.int .i64 ((rawAt l n).k), .int .i64 ((rawAt l n).a), .int .i64 ((rawAt l n).b), .string ((rawAt l n).t)], .box b13 [.int .i64 ((opE 4 (manyE (genE l fs d) [2] (atNext l n)).1).op), .int .i64 ((opE 4 (manyE (genE l fs d) [2] (atNext l n)).1).k), .int .i64 ((opE 4 (manyE (genE l fs d) [2] (atNext l n)).1).n), .string ((opE 4 (manyE (genE l fs d) [2] (atNext l n)).1).s), .string ((opE 4 (manyE (genE l fs d) [2] (atNext l n)).1).nm), .slice (sA u) (sN u) (sC u)]] [(g, [sl, .int .i64 (((manyE (genE l fs d) [2] (atNext l n)).2 : Nat) : Int)])] hJ (.rcell hJ 1 (b := b13) (cs := [.int .i64 ((opE 4 (manyE (genE l fs d) [2] (atNext l n)).1).op), .int .i64 ((opE 4 (manyE (genE l fs d) [2] (atNext l n)).1).k), .int .i64 ((opE 4 (manyE (genE l fs d) [2] (atNext l n)).1).n), .string ((opE 4 (manyE (genE l fs d) [2] (atNext l n)).1).s), .string ((opE 4 (manyE (genE l fs d) [2] (atNext l n)).1).nm), .slice (sA u) (sN u) (sC u)]) (by kernel_rfl) (by kernel_rfl) (by kernel_rfl) .nil) (by kernel_rfl) (by kernel_rfl) ?_).1
          exact expr_end (genE_with q3 (by unfold pickE; rw [if_neg q6, q7]; rfl)) rfl rfl (fu.sees hJ.out)
        · skip
          rw [q7] at pb7
          refine c_false hJ (t := (pickL (rawAt l n).a 6) == 0) (by kernel_rfl) (beq_eq_false_iff_ne.2 q6) ?_
          refine wp_skip ?_
          refine then_normal ?_
          refine wp_seq ?_
          refine wp_seq ?_
          refine wp_region_lit ?_
          refine s_pure hJ 38 (.int .i64 2) (by kernel_rfl) (fun _ => by kernel_rfl) ?_; clear hJ a; intro a hJ
          refine wpList_nil ?_
          refine then_normal ?_
          refine wp_block ?_
          refine wp_seq ?_
          refine wp_region_lit ?_
          refine s_pure hJ 40 (.bool false) (by kernel_rfl) (fun _ => by kernel_rfl) ?_; clear hJ a; intro a hJ
          refine s_pure hJ 39 (.bool false) (by kernel_rfl) (fun _ => by kernel_rfl) ?_; clear hJ a; intro a hJ
          refine wpList_nil ?_
          refine then_normal ?_
          refine c_false hJ (t := false) (by kernel_rfl) rfl ?_
          refine wp_seq ?_
          refine wp_region_lit ?_
          refine s_pure hJ 64 (.bool true) (by kernel_rfl) (fun _ => by kernel_rfl) ?_; clear hJ a; intro a hJ
          refine s_pure hJ 63 (.bool true) (by kernel_rfl) (fun _ => by kernel_rfl) ?_; clear hJ a; intro a hJ
          refine wpList_nil ?_
          refine then_normal ?_
          refine c_true hJ (t := true) (by kernel_rfl) rfl ?_
          refine wp_seq ?_
          refine wp_region_lit ?_
          refine s_pure hJ 65 (.pointer (some ⟨b16, 2, none⟩)) (by kernel_rfl) (fun _ => by kernel_rfl) ?_; clear hJ a; intro a hJ
          refine s_load hJ (t := 3) (x := (.tmp 65)) 66 (.int .i64 ((rawAt l n).b)) 0 (b := b16) (off := 2) (cs := [.int .i64 ((rawAt l n).k), .int .i64 ((rawAt l n).a), .int .i64 ((rawAt l n).b), .string ((rawAt l n).t)]) (by kernel_rfl) (by kernel_rfl) (by kernel_rfl) (by kernel_rfl) (by kernel_rfl) ?_; clear hJ a; intro a hJ
          refine s_call hJ 67 (pb7 _ rb0 rb1 (by omega) (by omega)) (by kernel_rfl) (fun _ => by kernel_rfl) ?_; clear hJ a w; rintro _ h109 a w s110 rfl hJ
          refine s_pure hJ 12 (.int .i64 1) (by kernel_rfl) (fun _ => by kernel_rfl) ?_; clear hJ a; intro a hJ
          refine wpList_nil ?_
          refine then_normal ?_
          refine wp_block ?_
          refine wp_seq ?_
          refine wp_region_lit ?_
          refine s_pure hJ 81 (.int .i64 1) (by kernel_rfl) (fun _ => by kernel_rfl) ?_; clear hJ a; intro a hJ
          refine s_pure hJ 82 (.bool false) (by kernel_rfl) (fun _ => by kernel_rfl) ?_; clear hJ a; intro a hJ
          refine s_pure hJ 80 (.bool false) (by kernel_rfl) (fun _ => by kernel_rfl) ?_; clear hJ a; intro a hJ
          refine wpList_nil ?_
          refine then_normal ?_
          refine c_false hJ (t := false) (by kernel_rfl) rfl ?_
          refine wp_seq ?_
          refine wp_region_lit ?_
          refine s_pure hJ 87 (.int .i64 1) (by kernel_rfl) (fun _ => by kernel_rfl) ?_; clear hJ a; intro a hJ
          refine s_pure hJ 88 (.bool true) (by kernel_rfl) (fun _ => by kernel_rfl) ?_; clear hJ a; intro a hJ
          refine s_pure hJ 86 (.bool true) (by kernel_rfl) (fun _ => by kernel_rfl) ?_; clear hJ a; intro a hJ
          refine wpList_nil ?_
          refine then_normal ?_
          refine c_true hJ (t := true) (by kernel_rfl) rfl ?_
          refine wp_seq ?_
          refine wp_region_lit ?_
          refine s_pure hJ 89 (.func (.func 62) #[] #[.pointer (some ⟨b1, 0, none⟩), .pointer (some ⟨b5, 0, none⟩), .pointer (some ⟨b9, 0, none⟩)]) (by kernel_rfl) (fun _ => by kernel_rfl) ?_; clear hJ a; intro a hJ
          refine s_pure hJ 90 (.int .i64 1) (by kernel_rfl) (fun _ => by kernel_rfl) ?_; clear hJ a; intro a hJ
          refine s_pure hJ 91 (.int .i64 16) (by kernel_rfl) (fun _ => by kernel_rfl) ?_; clear hJ a; intro a hJ
          refine s_pure hJ 92 (.int .i64 15) (by kernel_rfl) (fun _ => by kernel_rfl) ?_; clear hJ a; intro a hJ
          refine s_fact hJ 93 (fun g => .slice (some ⟨g, 0, none⟩) 2 2) [.int .i64 2, .int .i64 2] 3 (by kernel_rfl) (fun _ => by kernel_rfl) ?_; clear hJ a w; intro b111 h112 a w s113 fk hJ
          refine s_call1 hJ 94 2 (many 15 [2, 2] _ _ _ _ _ _ _ (hr.sees (s3.trans (s7.trans (s11.trans (s15.trans (s18.trans (s22.trans (s110.trans (s113.trans hJ.sees))))))))) (by omega) (by simp) (by simp <;> omega) (rs_ints [2, 2] (by unfold maxLen; simp) (fk.sees hJ.sees)) (hf.sees (hJ.lent hm)) (List.mem_append_right _ hg) (f4.sees (s7.trans (s11.trans (s15.trans (s18.trans (s22.trans (s110.trans (s113.trans hJ.sees)))))))) (f8.sees (s11.trans (s15.trans (s18.trans (s22.trans (s110.trans (s113.trans hJ.sees))))))) (f12.sees (s15.trans (s18.trans (s22.trans (s110.trans (s113.trans hJ.sees))))))) (by kernel_rfl) (by kernel_rfl) (fun _ => by kernel_rfl) ?_; clear hJ a w; rintro _ _ h114 a w s115 ⟨u, rfl, rfl, fu⟩ hJ
          refine s_store hJ (t := 38) (x := (.tmp 8)) (y := (.tmp 94)) 1 (.agg #[.int .i64 ((opE 15 (manyE (genE l fs d) [2, 2] (atNext l n)).1).op), .int .i64 ((opE 15 (manyE (genE l fs d) [2, 2] (atNext l n)).1).k), .int .i64 ((opE 15 (manyE (genE l fs d) [2, 2] (atNext l n)).1).n), .string ((opE 15 (manyE (genE l fs d) [2, 2] (atNext l n)).1).s), .string ((opE 15 (manyE (genE l fs d) [2, 2] (atNext l n)).1).nm), .slice (sA u) (sN u) (sC u)]) (b := b13) (off := 0) (cs := [.int .i64 0, .int .i64 0, .int .i64 0, .string ⟨#[]⟩, .string ⟨#[]⟩, .slice none 0 0]) [.int .i64 ((opE 15 (manyE (genE l fs d) [2, 2] (atNext l n)).1).op), .int .i64 ((opE 15 (manyE (genE l fs d) [2, 2] (atNext l n)).1).k), .int .i64 ((opE 15 (manyE (genE l fs d) [2, 2] (atNext l n)).1).n), .string ((opE 15 (manyE (genE l fs d) [2, 2] (atNext l n)).1).s), .string ((opE 15 (manyE (genE l fs d) [2, 2] (atNext l n)).1).nm), .slice (sA u) (sN u) (sC u)] (by kernel_rfl) (by kernel_rfl) (by kernel_rfl) (by kernel_rfl) (by kernel_rfl) (by kernel_rfl) (by kernel_rfl) ?_; clear hJ w; intro w hJ
          refine wpList_nil ?_
          refine then_normal ?_
          refine wp_ret ?_
          refine block_ret ?_
          refine block_ret ?_
          refine then_ret ?_
          refine (hQ [.agg #[.int .i64 ((opE 15 (manyE (genE l fs d) [2, 2] (atNext l n)).1).op), .int .i64 ((opE 15 (manyE (genE l fs d) [2, 2] (atNext l n)).1).k), .int .i64 ((opE 15 (manyE (genE l fs d) [2, 2] (atNext l n)).1).n), .string ((opE 15 (manyE (genE l fs d) [2, 2] (atNext l n)).1).s), .string ((opE 15 (manyE (genE l fs d) [2, 2] (atNext l n)).1).nm), .slice (sA u) (sN u) (sC u)]] [.box b16 [.int .i64 ((rawAt l n).k), .int .i64 ((rawAt l n).a), .int .i64 ((rawAt l n).b), .string ((rawAt l n).t)], .box b13 [.int .i64 ((opE 15 (manyE (genE l fs d) [2, 2] (atNext l n)).1).op), .int .i64 ((opE 15 (manyE (genE l fs d) [2, 2] (atNext l n)).1).k), .int .i64 ((opE 15 (manyE (genE l fs d) [2, 2] (atNext l n)).1).n), .string ((opE 15 (manyE (genE l fs d) [2, 2] (atNext l n)).1).s), .string ((opE 15 (manyE (genE l fs d) [2, 2] (atNext l n)).1).nm), .slice (sA u) (sN u) (sC u)]] [(g, [sl, .int .i64 (((manyE (genE l fs d) [2, 2] (atNext l n)).2 : Nat) : Int)])] hJ (.rcell hJ 1 (b := b13) (cs := [.int .i64 ((opE 15 (manyE (genE l fs d) [2, 2] (atNext l n)).1).op), .int .i64 ((opE 15 (manyE (genE l fs d) [2, 2] (atNext l n)).1).k), .int .i64 ((opE 15 (manyE (genE l fs d) [2, 2] (atNext l n)).1).n), .string ((opE 15 (manyE (genE l fs d) [2, 2] (atNext l n)).1).s), .string ((opE 15 (manyE (genE l fs d) [2, 2] (atNext l n)).1).nm), .slice (sA u) (sN u) (sC u)]) (by kernel_rfl) (by kernel_rfl) (by kernel_rfl) .nil) (by kernel_rfl) (by kernel_rfl) ?_).1
          exact expr_end (genE_with q3 (by unfold pickE; rw [if_neg q6, q7]; rfl)) rfl rfl (fu.sees hJ.out)
        · skip
          rw [q7] at pb7
          refine c_false hJ (t := (pickL (rawAt l n).a 6) == 0) (by kernel_rfl) (beq_eq_false_iff_ne.2 q6) ?_
          refine wp_skip ?_
          refine then_normal ?_
          refine wp_seq ?_
          refine wp_seq ?_
          refine wp_region_lit ?_
          refine s_pure hJ 38 (.int .i64 2) (by kernel_rfl) (fun _ => by kernel_rfl) ?_; clear hJ a; intro a hJ
          refine wpList_nil ?_
          refine then_normal ?_
          refine wp_block ?_
          refine wp_seq ?_
          refine wp_region_lit ?_
          refine s_pure hJ 40 (.bool false) (by kernel_rfl) (fun _ => by kernel_rfl) ?_; clear hJ a; intro a hJ
          refine s_pure hJ 39 (.bool false) (by kernel_rfl) (fun _ => by kernel_rfl) ?_; clear hJ a; intro a hJ
          refine wpList_nil ?_
          refine then_normal ?_
          refine c_false hJ (t := false) (by kernel_rfl) rfl ?_
          refine wp_seq ?_
          refine wp_region_lit ?_
          refine s_pure hJ 64 (.bool true) (by kernel_rfl) (fun _ => by kernel_rfl) ?_; clear hJ a; intro a hJ
          refine s_pure hJ 63 (.bool true) (by kernel_rfl) (fun _ => by kernel_rfl) ?_; clear hJ a; intro a hJ
          refine wpList_nil ?_
          refine then_normal ?_
          refine c_true hJ (t := true) (by kernel_rfl) rfl ?_
          refine wp_seq ?_
          refine wp_region_lit ?_
          refine s_pure hJ 65 (.pointer (some ⟨b16, 2, none⟩)) (by kernel_rfl) (fun _ => by kernel_rfl) ?_; clear hJ a; intro a hJ
          refine s_load hJ (t := 3) (x := (.tmp 65)) 66 (.int .i64 ((rawAt l n).b)) 0 (b := b16) (off := 2) (cs := [.int .i64 ((rawAt l n).k), .int .i64 ((rawAt l n).a), .int .i64 ((rawAt l n).b), .string ((rawAt l n).t)]) (by kernel_rfl) (by kernel_rfl) (by kernel_rfl) (by kernel_rfl) (by kernel_rfl) ?_; clear hJ a; intro a hJ
          refine s_call hJ 67 (pb7 _ rb0 rb1 (by omega) (by omega)) (by kernel_rfl) (fun _ => by kernel_rfl) ?_; clear hJ a w; rintro _ h116 a w s117 rfl hJ
          refine s_pure hJ 12 (.int .i64 2) (by kernel_rfl) (fun _ => by kernel_rfl) ?_; clear hJ a; intro a hJ
          refine wpList_nil ?_
          refine then_normal ?_
          refine wp_block ?_
          refine wp_seq ?_
          refine wp_region_lit ?_
          refine s_pure hJ 81 (.int .i64 2) (by kernel_rfl) (fun _ => by kernel_rfl) ?_; clear hJ a; intro a hJ
          refine s_pure hJ 82 (.bool false) (by kernel_rfl) (fun _ => by kernel_rfl) ?_; clear hJ a; intro a hJ
          refine s_pure hJ 80 (.bool false) (by kernel_rfl) (fun _ => by kernel_rfl) ?_; clear hJ a; intro a hJ
          refine wpList_nil ?_
          refine then_normal ?_
          refine c_false hJ (t := false) (by kernel_rfl) rfl ?_
          refine wp_seq ?_
          refine wp_region_lit ?_
          refine s_pure hJ 87 (.int .i64 2) (by kernel_rfl) (fun _ => by kernel_rfl) ?_; clear hJ a; intro a hJ
          refine s_pure hJ 88 (.bool true) (by kernel_rfl) (fun _ => by kernel_rfl) ?_; clear hJ a; intro a hJ
          refine s_pure hJ 86 (.bool true) (by kernel_rfl) (fun _ => by kernel_rfl) ?_; clear hJ a; intro a hJ
          refine wpList_nil ?_
          refine then_normal ?_
          refine c_true hJ (t := true) (by kernel_rfl) rfl ?_
          refine wp_seq ?_
          refine wp_region_lit ?_
          refine s_pure hJ 89 (.func (.func 62) #[] #[.pointer (some ⟨b1, 0, none⟩), .pointer (some ⟨b5, 0, none⟩), .pointer (some ⟨b9, 0, none⟩)]) (by kernel_rfl) (fun _ => by kernel_rfl) ?_; clear hJ a; intro a hJ
          refine s_pure hJ 90 (.int .i64 2) (by kernel_rfl) (fun _ => by kernel_rfl) ?_; clear hJ a; intro a hJ
          refine s_pure hJ 91 (.int .i64 17) (by kernel_rfl) (fun _ => by kernel_rfl) ?_; clear hJ a; intro a hJ
          refine s_pure hJ 92 (.int .i64 16) (by kernel_rfl) (fun _ => by kernel_rfl) ?_; clear hJ a; intro a hJ
          refine s_fact hJ 93 (fun g => .slice (some ⟨g, 0, none⟩) 2 2) [.int .i64 2, .int .i64 2] 3 (by kernel_rfl) (fun _ => by kernel_rfl) ?_; clear hJ a w; intro b118 h119 a w s120 fk hJ
          refine s_call1 hJ 94 2 (many 16 [2, 2] _ _ _ _ _ _ _ (hr.sees (s3.trans (s7.trans (s11.trans (s15.trans (s18.trans (s22.trans (s117.trans (s120.trans hJ.sees))))))))) (by omega) (by simp) (by simp <;> omega) (rs_ints [2, 2] (by unfold maxLen; simp) (fk.sees hJ.sees)) (hf.sees (hJ.lent hm)) (List.mem_append_right _ hg) (f4.sees (s7.trans (s11.trans (s15.trans (s18.trans (s22.trans (s117.trans (s120.trans hJ.sees)))))))) (f8.sees (s11.trans (s15.trans (s18.trans (s22.trans (s117.trans (s120.trans hJ.sees))))))) (f12.sees (s15.trans (s18.trans (s22.trans (s117.trans (s120.trans hJ.sees))))))) (by kernel_rfl) (by kernel_rfl) (fun _ => by kernel_rfl) ?_; clear hJ a w; rintro _ _ h121 a w s122 ⟨u, rfl, rfl, fu⟩ hJ
          refine s_store hJ (t := 38) (x := (.tmp 8)) (y := (.tmp 94)) 1 (.agg #[.int .i64 ((opE 16 (manyE (genE l fs d) [2, 2] (atNext l n)).1).op), .int .i64 ((opE 16 (manyE (genE l fs d) [2, 2] (atNext l n)).1).k), .int .i64 ((opE 16 (manyE (genE l fs d) [2, 2] (atNext l n)).1).n), .string ((opE 16 (manyE (genE l fs d) [2, 2] (atNext l n)).1).s), .string ((opE 16 (manyE (genE l fs d) [2, 2] (atNext l n)).1).nm), .slice (sA u) (sN u) (sC u)]) (b := b13) (off := 0) (cs := [.int .i64 0, .int .i64 0, .int .i64 0, .string ⟨#[]⟩, .string ⟨#[]⟩, .slice none 0 0]) [.int .i64 ((opE 16 (manyE (genE l fs d) [2, 2] (atNext l n)).1).op), .int .i64 ((opE 16 (manyE (genE l fs d) [2, 2] (atNext l n)).1).k), .int .i64 ((opE 16 (manyE (genE l fs d) [2, 2] (atNext l n)).1).n), .string ((opE 16 (manyE (genE l fs d) [2, 2] (atNext l n)).1).s), .string ((opE 16 (manyE (genE l fs d) [2, 2] (atNext l n)).1).nm), .slice (sA u) (sN u) (sC u)] (by kernel_rfl) (by kernel_rfl) (by kernel_rfl) (by kernel_rfl) (by kernel_rfl) (by kernel_rfl) (by kernel_rfl) ?_; clear hJ w; intro w hJ
          refine wpList_nil ?_
          refine then_normal ?_
          refine wp_ret ?_
          refine block_ret ?_
          refine block_ret ?_
          refine then_ret ?_
          refine (hQ [.agg #[.int .i64 ((opE 16 (manyE (genE l fs d) [2, 2] (atNext l n)).1).op), .int .i64 ((opE 16 (manyE (genE l fs d) [2, 2] (atNext l n)).1).k), .int .i64 ((opE 16 (manyE (genE l fs d) [2, 2] (atNext l n)).1).n), .string ((opE 16 (manyE (genE l fs d) [2, 2] (atNext l n)).1).s), .string ((opE 16 (manyE (genE l fs d) [2, 2] (atNext l n)).1).nm), .slice (sA u) (sN u) (sC u)]] [.box b16 [.int .i64 ((rawAt l n).k), .int .i64 ((rawAt l n).a), .int .i64 ((rawAt l n).b), .string ((rawAt l n).t)], .box b13 [.int .i64 ((opE 16 (manyE (genE l fs d) [2, 2] (atNext l n)).1).op), .int .i64 ((opE 16 (manyE (genE l fs d) [2, 2] (atNext l n)).1).k), .int .i64 ((opE 16 (manyE (genE l fs d) [2, 2] (atNext l n)).1).n), .string ((opE 16 (manyE (genE l fs d) [2, 2] (atNext l n)).1).s), .string ((opE 16 (manyE (genE l fs d) [2, 2] (atNext l n)).1).nm), .slice (sA u) (sN u) (sC u)]] [(g, [sl, .int .i64 (((manyE (genE l fs d) [2, 2] (atNext l n)).2 : Nat) : Int)])] hJ (.rcell hJ 1 (b := b13) (cs := [.int .i64 ((opE 16 (manyE (genE l fs d) [2, 2] (atNext l n)).1).op), .int .i64 ((opE 16 (manyE (genE l fs d) [2, 2] (atNext l n)).1).k), .int .i64 ((opE 16 (manyE (genE l fs d) [2, 2] (atNext l n)).1).n), .string ((opE 16 (manyE (genE l fs d) [2, 2] (atNext l n)).1).s), .string ((opE 16 (manyE (genE l fs d) [2, 2] (atNext l n)).1).nm), .slice (sA u) (sN u) (sC u)]) (by kernel_rfl) (by kernel_rfl) (by kernel_rfl) .nil) (by kernel_rfl) (by kernel_rfl) ?_).1
          exact expr_end (genE_with q3 (by unfold pickE; rw [if_neg q6, q7]; rfl)) rfl rfl (fu.sees hJ.out)
        · skip
          rw [q7] at pb7
          obtain q4 | q4 | q4 : pickL (rawAt l n).a 3 = 0 ∨ pickL (rawAt l n).a 3 = 1 ∨ pickL (rawAt l n).a 3 = 2 := by omega
          · skip
            rw [q4] at pa3
            refine c_false hJ (t := (pickL (rawAt l n).a 6) == 0) (by kernel_rfl) (beq_eq_false_iff_ne.2 q6) ?_
            refine wp_skip ?_
            refine then_normal ?_
            refine wp_seq ?_
            refine wp_seq ?_
            refine wp_region_lit ?_
            refine s_pure hJ 38 (.int .i64 2) (by kernel_rfl) (fun _ => by kernel_rfl) ?_; clear hJ a; intro a hJ
            refine wpList_nil ?_
            refine then_normal ?_
            refine wp_block ?_
            refine wp_seq ?_
            refine wp_region_lit ?_
            refine s_pure hJ 40 (.bool false) (by kernel_rfl) (fun _ => by kernel_rfl) ?_; clear hJ a; intro a hJ
            refine s_pure hJ 39 (.bool false) (by kernel_rfl) (fun _ => by kernel_rfl) ?_; clear hJ a; intro a hJ
            refine wpList_nil ?_
            refine then_normal ?_
            refine c_false hJ (t := false) (by kernel_rfl) rfl ?_
            refine wp_seq ?_
            refine wp_region_lit ?_
            refine s_pure hJ 64 (.bool true) (by kernel_rfl) (fun _ => by kernel_rfl) ?_; clear hJ a; intro a hJ
            refine s_pure hJ 63 (.bool true) (by kernel_rfl) (fun _ => by kernel_rfl) ?_; clear hJ a; intro a hJ
            refine wpList_nil ?_
            refine then_normal ?_
            refine c_true hJ (t := true) (by kernel_rfl) rfl ?_
            refine wp_seq ?_
            refine wp_region_lit ?_
            refine s_pure hJ 65 (.pointer (some ⟨b16, 2, none⟩)) (by kernel_rfl) (fun _ => by kernel_rfl) ?_; clear hJ a; intro a hJ
            refine s_load hJ (t := 3) (x := (.tmp 65)) 66 (.int .i64 ((rawAt l n).b)) 0 (b := b16) (off := 2) (cs := [.int .i64 ((rawAt l n).k), .int .i64 ((rawAt l n).a), .int .i64 ((rawAt l n).b), .string ((rawAt l n).t)]) (by kernel_rfl) (by kernel_rfl) (by kernel_rfl) (by kernel_rfl) (by kernel_rfl) ?_; clear hJ a; intro a hJ
            refine s_call hJ 67 (pb7 _ rb0 rb1 (by omega) (by omega)) (by kernel_rfl) (fun _ => by kernel_rfl) ?_; clear hJ a w; rintro _ h123 a w s124 rfl hJ
            refine s_pure hJ 12 (.int .i64 3) (by kernel_rfl) (fun _ => by kernel_rfl) ?_; clear hJ a; intro a hJ
            refine wpList_nil ?_
            refine then_normal ?_
            refine wp_block ?_
            refine wp_seq ?_
            refine wp_region_lit ?_
            refine s_pure hJ 81 (.int .i64 3) (by kernel_rfl) (fun _ => by kernel_rfl) ?_; clear hJ a; intro a hJ
            refine s_pure hJ 82 (.bool false) (by kernel_rfl) (fun _ => by kernel_rfl) ?_; clear hJ a; intro a hJ
            refine s_pure hJ 80 (.bool false) (by kernel_rfl) (fun _ => by kernel_rfl) ?_; clear hJ a; intro a hJ
            refine wpList_nil ?_
            refine then_normal ?_
            refine c_false hJ (t := false) (by kernel_rfl) rfl ?_
            refine wp_seq ?_
            refine wp_region_lit ?_
            refine s_pure hJ 87 (.int .i64 3) (by kernel_rfl) (fun _ => by kernel_rfl) ?_; clear hJ a; intro a hJ
            refine s_pure hJ 88 (.bool false) (by kernel_rfl) (fun _ => by kernel_rfl) ?_; clear hJ a; intro a hJ
            refine s_pure hJ 86 (.bool false) (by kernel_rfl) (fun _ => by kernel_rfl) ?_; clear hJ a; intro a hJ
            refine wpList_nil ?_
            refine then_normal ?_
            refine c_false hJ (t := false) (by kernel_rfl) rfl ?_
            refine wp_seq ?_
            refine wp_region_lit ?_
            refine s_pure hJ 68 (.pointer (some ⟨b16, 1, none⟩)) (by kernel_rfl) (fun _ => by kernel_rfl) ?_; clear hJ a; intro a hJ
            refine s_load hJ (t := 3) (x := (.tmp 68)) 69 (.int .i64 ((rawAt l n).a)) 0 (b := b16) (off := 1) (cs := [.int .i64 ((rawAt l n).k), .int .i64 ((rawAt l n).a), .int .i64 ((rawAt l n).b), .string ((rawAt l n).t)]) (by kernel_rfl) (by kernel_rfl) (by kernel_rfl) (by kernel_rfl) (by kernel_rfl) ?_; clear hJ a; intro a hJ
            refine s_call hJ 70 (pa3 _ a0 a1 (by omega) (by omega)) (by kernel_rfl) (fun _ => by kernel_rfl) ?_; clear hJ a w; rintro _ h125 a w s126 rfl hJ
            refine s_pure hJ 71 (.int .i64 1) (by kernel_rfl) (fun _ => by kernel_rfl) ?_; clear hJ a; intro a hJ
            refine s_pure hJ 13 (.int .i64 1) (by kernel_rfl) (fun _ => by kernel_rfl) ?_; clear hJ a; intro a hJ
            refine wpList_nil ?_
            refine then_normal ?_
            refine wp_seq ?_
            refine wp_region_lit ?_
            refine s_pure hJ 72 (.func (.func 62) #[] #[.pointer (some ⟨b1, 0, none⟩), .pointer (some ⟨b5, 0, none⟩), .pointer (some ⟨b9, 0, none⟩)]) (by kernel_rfl) (fun _ => by kernel_rfl) ?_; clear hJ a; intro a hJ
            refine s_pure hJ 73 (.int .i64 3) (by kernel_rfl) (fun _ => by kernel_rfl) ?_; clear hJ a; intro a hJ
            refine s_pure hJ 74 (.int .i64 14) (by kernel_rfl) (fun _ => by kernel_rfl) ?_; clear hJ a; intro a hJ
            refine s_pure hJ 75 (.int .i64 11) (by kernel_rfl) (fun _ => by kernel_rfl) ?_; clear hJ a; intro a hJ
            refine s_pure hJ 76 (.int .i64 1) (by kernel_rfl) (fun _ => by kernel_rfl) ?_; clear hJ a; intro a hJ
            refine s_pure hJ 77 (.int .i64 1) (by kernel_rfl) (fun _ => by kernel_rfl) ?_; clear hJ a; intro a hJ
            refine s_fact hJ 78 (fun g => .slice (some ⟨g, 0, none⟩) 2 2) [.int .i64 1, .int .i64 1] 3 (by kernel_rfl) (fun _ => by kernel_rfl) ?_; clear hJ a w; intro b127 h128 a w s129 fk hJ
            refine s_call1 hJ 79 2 (many 11 [1, 1] _ _ _ _ _ _ _ (hr.sees (s3.trans (s7.trans (s11.trans (s15.trans (s18.trans (s22.trans (s124.trans (s126.trans (s129.trans hJ.sees)))))))))) (by omega) (by simp) (by simp <;> omega) (rs_ints [1, 1] (by unfold maxLen; simp) (fk.sees hJ.sees)) (hf.sees (hJ.lent hm)) (List.mem_append_right _ hg) (f4.sees (s7.trans (s11.trans (s15.trans (s18.trans (s22.trans (s124.trans (s126.trans (s129.trans hJ.sees))))))))) (f8.sees (s11.trans (s15.trans (s18.trans (s22.trans (s124.trans (s126.trans (s129.trans hJ.sees)))))))) (f12.sees (s15.trans (s18.trans (s22.trans (s124.trans (s126.trans (s129.trans hJ.sees)))))))) (by kernel_rfl) (by kernel_rfl) (fun _ => by kernel_rfl) ?_; clear hJ a w; rintro _ _ h130 a w s131 ⟨u, rfl, rfl, fu⟩ hJ
            refine s_store hJ (t := 38) (x := (.tmp 8)) (y := (.tmp 79)) 1 (.agg #[.int .i64 ((opE 11 (manyE (genE l fs d) [1, 1] (atNext l n)).1).op), .int .i64 ((opE 11 (manyE (genE l fs d) [1, 1] (atNext l n)).1).k), .int .i64 ((opE 11 (manyE (genE l fs d) [1, 1] (atNext l n)).1).n), .string ((opE 11 (manyE (genE l fs d) [1, 1] (atNext l n)).1).s), .string ((opE 11 (manyE (genE l fs d) [1, 1] (atNext l n)).1).nm), .slice (sA u) (sN u) (sC u)]) (b := b13) (off := 0) (cs := [.int .i64 0, .int .i64 0, .int .i64 0, .string ⟨#[]⟩, .string ⟨#[]⟩, .slice none 0 0]) [.int .i64 ((opE 11 (manyE (genE l fs d) [1, 1] (atNext l n)).1).op), .int .i64 ((opE 11 (manyE (genE l fs d) [1, 1] (atNext l n)).1).k), .int .i64 ((opE 11 (manyE (genE l fs d) [1, 1] (atNext l n)).1).n), .string ((opE 11 (manyE (genE l fs d) [1, 1] (atNext l n)).1).s), .string ((opE 11 (manyE (genE l fs d) [1, 1] (atNext l n)).1).nm), .slice (sA u) (sN u) (sC u)] (by kernel_rfl) (by kernel_rfl) (by kernel_rfl) (by kernel_rfl) (by kernel_rfl) (by kernel_rfl) (by kernel_rfl) ?_; clear hJ w; intro w hJ
            refine wpList_nil ?_
            refine then_normal ?_
            refine wp_ret ?_
            refine block_ret ?_
            refine block_ret ?_
            refine then_ret ?_
            refine (hQ [.agg #[.int .i64 ((opE 11 (manyE (genE l fs d) [1, 1] (atNext l n)).1).op), .int .i64 ((opE 11 (manyE (genE l fs d) [1, 1] (atNext l n)).1).k), .int .i64 ((opE 11 (manyE (genE l fs d) [1, 1] (atNext l n)).1).n), .string ((opE 11 (manyE (genE l fs d) [1, 1] (atNext l n)).1).s), .string ((opE 11 (manyE (genE l fs d) [1, 1] (atNext l n)).1).nm), .slice (sA u) (sN u) (sC u)]] [.box b16 [.int .i64 ((rawAt l n).k), .int .i64 ((rawAt l n).a), .int .i64 ((rawAt l n).b), .string ((rawAt l n).t)], .box b13 [.int .i64 ((opE 11 (manyE (genE l fs d) [1, 1] (atNext l n)).1).op), .int .i64 ((opE 11 (manyE (genE l fs d) [1, 1] (atNext l n)).1).k), .int .i64 ((opE 11 (manyE (genE l fs d) [1, 1] (atNext l n)).1).n), .string ((opE 11 (manyE (genE l fs d) [1, 1] (atNext l n)).1).s), .string ((opE 11 (manyE (genE l fs d) [1, 1] (atNext l n)).1).nm), .slice (sA u) (sN u) (sC u)]] [(g, [sl, .int .i64 (((manyE (genE l fs d) [1, 1] (atNext l n)).2 : Nat) : Int)])] hJ (.rcell hJ 1 (b := b13) (cs := [.int .i64 ((opE 11 (manyE (genE l fs d) [1, 1] (atNext l n)).1).op), .int .i64 ((opE 11 (manyE (genE l fs d) [1, 1] (atNext l n)).1).k), .int .i64 ((opE 11 (manyE (genE l fs d) [1, 1] (atNext l n)).1).n), .string ((opE 11 (manyE (genE l fs d) [1, 1] (atNext l n)).1).s), .string ((opE 11 (manyE (genE l fs d) [1, 1] (atNext l n)).1).nm), .slice (sA u) (sN u) (sC u)]) (by kernel_rfl) (by kernel_rfl) (by kernel_rfl) .nil) (by kernel_rfl) (by kernel_rfl) ?_).1
            exact expr_end (genE_with q3 (by unfold pickE; rw [if_neg q6, q7, q4]; rfl)) rfl rfl (fu.sees hJ.out)
          · skip
            rw [q4] at pa3
            refine c_false hJ (t := (pickL (rawAt l n).a 6) == 0) (by kernel_rfl) (beq_eq_false_iff_ne.2 q6) ?_
            refine wp_skip ?_
            refine then_normal ?_
            refine wp_seq ?_
            refine wp_seq ?_
            refine wp_region_lit ?_
            refine s_pure hJ 38 (.int .i64 2) (by kernel_rfl) (fun _ => by kernel_rfl) ?_; clear hJ a; intro a hJ
            refine wpList_nil ?_
            refine then_normal ?_
            refine wp_block ?_
            refine wp_seq ?_
            refine wp_region_lit ?_
            refine s_pure hJ 40 (.bool false) (by kernel_rfl) (fun _ => by kernel_rfl) ?_; clear hJ a; intro a hJ
            refine s_pure hJ 39 (.bool false) (by kernel_rfl) (fun _ => by kernel_rfl) ?_; clear hJ a; intro a hJ
            refine wpList_nil ?_
            refine then_normal ?_
            refine c_false hJ (t := false) (by kernel_rfl) rfl ?_
            refine wp_seq ?_
            refine wp_region_lit ?_
            refine s_pure hJ 64 (.bool true) (by kernel_rfl) (fun _ => by kernel_rfl) ?_; clear hJ a; intro a hJ
            refine s_pure hJ 63 (.bool true) (by kernel_rfl) (fun _ => by kernel_rfl) ?_; clear hJ a; intro a hJ
            refine wpList_nil ?_
            refine then_normal ?_
            refine c_true hJ (t := true) (by kernel_rfl) rfl ?_
            refine wp_seq ?_
            refine wp_region_lit ?_
            refine s_pure hJ 65 (.pointer (some ⟨b16, 2, none⟩)) (by kernel_rfl) (fun _ => by kernel_rfl) ?_; clear hJ a; intro a hJ
            refine s_load hJ (t := 3) (x := (.tmp 65)) 66 (.int .i64 ((rawAt l n).b)) 0 (b := b16) (off := 2) (cs := [.int .i64 ((rawAt l n).k), .int .i64 ((rawAt l n).a), .int .i64 ((rawAt l n).b), .string ((rawAt l n).t)]) (by kernel_rfl) (by kernel_rfl) (by kernel_rfl) (by kernel_rfl) (by kernel_rfl) ?_; clear hJ a; intro a hJ
            refine s_call hJ 67 (pb7 _ rb0 rb1 (by omega) (by omega)) (by kernel_rfl) (fun _ => by kernel_rfl) ?_; clear hJ a w; rintro _ h132 a w s133 rfl hJ
            refine s_pure hJ 12 (.int .i64 3) (by kernel_rfl) (fun _ => by kernel_rfl) ?_; clear hJ a; intro a hJ
            refine wpList_nil ?_
            refine then_normal ?_
            refine wp_block ?_
            refine wp_seq ?_
            refine wp_region_lit ?_
            refine s_pure hJ 81 (.int .i64 3) (by kernel_rfl) (fun _ => by kernel_rfl) ?_; clear hJ a; intro a hJ
            refine s_pure hJ 82 (.bool false) (by kernel_rfl) (fun _ => by kernel_rfl) ?_; clear hJ a; intro a hJ
            refine s_pure hJ 80 (.bool false) (by kernel_rfl) (fun _ => by kernel_rfl) ?_; clear hJ a; intro a hJ
            refine wpList_nil ?_
            refine then_normal ?_
            refine c_false hJ (t := false) (by kernel_rfl) rfl ?_
            refine wp_seq ?_
            refine wp_region_lit ?_
            refine s_pure hJ 87 (.int .i64 3) (by kernel_rfl) (fun _ => by kernel_rfl) ?_; clear hJ a; intro a hJ
            refine s_pure hJ 88 (.bool false) (by kernel_rfl) (fun _ => by kernel_rfl) ?_; clear hJ a; intro a hJ
            refine s_pure hJ 86 (.bool false) (by kernel_rfl) (fun _ => by kernel_rfl) ?_; clear hJ a; intro a hJ
            refine wpList_nil ?_
            refine then_normal ?_
            refine c_false hJ (t := false) (by kernel_rfl) rfl ?_
            refine wp_seq ?_
            refine wp_region_lit ?_
            refine s_pure hJ 68 (.pointer (some ⟨b16, 1, none⟩)) (by kernel_rfl) (fun _ => by kernel_rfl) ?_; clear hJ a; intro a hJ
            refine s_load hJ (t := 3) (x := (.tmp 68)) 69 (.int .i64 ((rawAt l n).a)) 0 (b := b16) (off := 1) (cs := [.int .i64 ((rawAt l n).k), .int .i64 ((rawAt l n).a), .int .i64 ((rawAt l n).b), .string ((rawAt l n).t)]) (by kernel_rfl) (by kernel_rfl) (by kernel_rfl) (by kernel_rfl) (by kernel_rfl) ?_; clear hJ a; intro a hJ
            refine s_call hJ 70 (pa3 _ a0 a1 (by omega) (by omega)) (by kernel_rfl) (fun _ => by kernel_rfl) ?_; clear hJ a w; rintro _ h134 a w s135 rfl hJ
            refine s_pure hJ 71 (.int .i64 2) (by kernel_rfl) (fun _ => by kernel_rfl) ?_; clear hJ a; intro a hJ
            refine s_pure hJ 13 (.int .i64 2) (by kernel_rfl) (fun _ => by kernel_rfl) ?_; clear hJ a; intro a hJ
            refine wpList_nil ?_
            refine then_normal ?_
            refine wp_seq ?_
            refine wp_region_lit ?_
            refine s_pure hJ 72 (.func (.func 62) #[] #[.pointer (some ⟨b1, 0, none⟩), .pointer (some ⟨b5, 0, none⟩), .pointer (some ⟨b9, 0, none⟩)]) (by kernel_rfl) (fun _ => by kernel_rfl) ?_; clear hJ a; intro a hJ
            refine s_pure hJ 73 (.int .i64 3) (by kernel_rfl) (fun _ => by kernel_rfl) ?_; clear hJ a; intro a hJ
            refine s_pure hJ 74 (.int .i64 14) (by kernel_rfl) (fun _ => by kernel_rfl) ?_; clear hJ a; intro a hJ
            refine s_pure hJ 75 (.int .i64 11) (by kernel_rfl) (fun _ => by kernel_rfl) ?_; clear hJ a; intro a hJ
            refine s_pure hJ 76 (.int .i64 2) (by kernel_rfl) (fun _ => by kernel_rfl) ?_; clear hJ a; intro a hJ
            refine s_pure hJ 77 (.int .i64 2) (by kernel_rfl) (fun _ => by kernel_rfl) ?_; clear hJ a; intro a hJ
            refine s_fact hJ 78 (fun g => .slice (some ⟨g, 0, none⟩) 2 2) [.int .i64 2, .int .i64 2] 3 (by kernel_rfl) (fun _ => by kernel_rfl) ?_; clear hJ a w; intro b136 h137 a w s138 fk hJ
            refine s_call1 hJ 79 2 (many 11 [2, 2] _ _ _ _ _ _ _ (hr.sees (s3.trans (s7.trans (s11.trans (s15.trans (s18.trans (s22.trans (s133.trans (s135.trans (s138.trans hJ.sees)))))))))) (by omega) (by simp) (by simp <;> omega) (rs_ints [2, 2] (by unfold maxLen; simp) (fk.sees hJ.sees)) (hf.sees (hJ.lent hm)) (List.mem_append_right _ hg) (f4.sees (s7.trans (s11.trans (s15.trans (s18.trans (s22.trans (s133.trans (s135.trans (s138.trans hJ.sees))))))))) (f8.sees (s11.trans (s15.trans (s18.trans (s22.trans (s133.trans (s135.trans (s138.trans hJ.sees)))))))) (f12.sees (s15.trans (s18.trans (s22.trans (s133.trans (s135.trans (s138.trans hJ.sees)))))))) (by kernel_rfl) (by kernel_rfl) (fun _ => by kernel_rfl) ?_; clear hJ a w; rintro _ _ h139 a w s140 ⟨u, rfl, rfl, fu⟩ hJ
            refine s_store hJ (t := 38) (x := (.tmp 8)) (y := (.tmp 79)) 1 (.agg #[.int .i64 ((opE 11 (manyE (genE l fs d) [2, 2] (atNext l n)).1).op), .int .i64 ((opE 11 (manyE (genE l fs d) [2, 2] (atNext l n)).1).k), .int .i64 ((opE 11 (manyE (genE l fs d) [2, 2] (atNext l n)).1).n), .string ((opE 11 (manyE (genE l fs d) [2, 2] (atNext l n)).1).s), .string ((opE 11 (manyE (genE l fs d) [2, 2] (atNext l n)).1).nm), .slice (sA u) (sN u) (sC u)]) (b := b13) (off := 0) (cs := [.int .i64 0, .int .i64 0, .int .i64 0, .string ⟨#[]⟩, .string ⟨#[]⟩, .slice none 0 0]) [.int .i64 ((opE 11 (manyE (genE l fs d) [2, 2] (atNext l n)).1).op), .int .i64 ((opE 11 (manyE (genE l fs d) [2, 2] (atNext l n)).1).k), .int .i64 ((opE 11 (manyE (genE l fs d) [2, 2] (atNext l n)).1).n), .string ((opE 11 (manyE (genE l fs d) [2, 2] (atNext l n)).1).s), .string ((opE 11 (manyE (genE l fs d) [2, 2] (atNext l n)).1).nm), .slice (sA u) (sN u) (sC u)] (by kernel_rfl) (by kernel_rfl) (by kernel_rfl) (by kernel_rfl) (by kernel_rfl) (by kernel_rfl) (by kernel_rfl) ?_; clear hJ w; intro w hJ
            refine wpList_nil ?_
            refine then_normal ?_
            refine wp_ret ?_
            refine block_ret ?_
            refine block_ret ?_
            refine then_ret ?_
            refine (hQ [.agg #[.int .i64 ((opE 11 (manyE (genE l fs d) [2, 2] (atNext l n)).1).op), .int .i64 ((opE 11 (manyE (genE l fs d) [2, 2] (atNext l n)).1).k), .int .i64 ((opE 11 (manyE (genE l fs d) [2, 2] (atNext l n)).1).n), .string ((opE 11 (manyE (genE l fs d) [2, 2] (atNext l n)).1).s), .string ((opE 11 (manyE (genE l fs d) [2, 2] (atNext l n)).1).nm), .slice (sA u) (sN u) (sC u)]] [.box b16 [.int .i64 ((rawAt l n).k), .int .i64 ((rawAt l n).a), .int .i64 ((rawAt l n).b), .string ((rawAt l n).t)], .box b13 [.int .i64 ((opE 11 (manyE (genE l fs d) [2, 2] (atNext l n)).1).op), .int .i64 ((opE 11 (manyE (genE l fs d) [2, 2] (atNext l n)).1).k), .int .i64 ((opE 11 (manyE (genE l fs d) [2, 2] (atNext l n)).1).n), .string ((opE 11 (manyE (genE l fs d) [2, 2] (atNext l n)).1).s), .string ((opE 11 (manyE (genE l fs d) [2, 2] (atNext l n)).1).nm), .slice (sA u) (sN u) (sC u)]] [(g, [sl, .int .i64 (((manyE (genE l fs d) [2, 2] (atNext l n)).2 : Nat) : Int)])] hJ (.rcell hJ 1 (b := b13) (cs := [.int .i64 ((opE 11 (manyE (genE l fs d) [2, 2] (atNext l n)).1).op), .int .i64 ((opE 11 (manyE (genE l fs d) [2, 2] (atNext l n)).1).k), .int .i64 ((opE 11 (manyE (genE l fs d) [2, 2] (atNext l n)).1).n), .string ((opE 11 (manyE (genE l fs d) [2, 2] (atNext l n)).1).s), .string ((opE 11 (manyE (genE l fs d) [2, 2] (atNext l n)).1).nm), .slice (sA u) (sN u) (sC u)]) (by kernel_rfl) (by kernel_rfl) (by kernel_rfl) .nil) (by kernel_rfl) (by kernel_rfl) ?_).1
            exact expr_end (genE_with q3 (by unfold pickE; rw [if_neg q6, q7, q4]; rfl)) rfl rfl (fu.sees hJ.out)
          · skip
            rw [q4] at pa3
            refine c_false hJ (t := (pickL (rawAt l n).a 6) == 0) (by kernel_rfl) (beq_eq_false_iff_ne.2 q6) ?_
            refine wp_skip ?_
            refine then_normal ?_
            refine wp_seq ?_
            refine wp_seq ?_
            refine wp_region_lit ?_
            refine s_pure hJ 38 (.int .i64 2) (by kernel_rfl) (fun _ => by kernel_rfl) ?_; clear hJ a; intro a hJ
            refine wpList_nil ?_
            refine then_normal ?_
            refine wp_block ?_
            refine wp_seq ?_
            refine wp_region_lit ?_
            refine s_pure hJ 40 (.bool false) (by kernel_rfl) (fun _ => by kernel_rfl) ?_; clear hJ a; intro a hJ
            refine s_pure hJ 39 (.bool false) (by kernel_rfl) (fun _ => by kernel_rfl) ?_; clear hJ a; intro a hJ
            refine wpList_nil ?_
            refine then_normal ?_
            refine c_false hJ (t := false) (by kernel_rfl) rfl ?_
            refine wp_seq ?_
            refine wp_region_lit ?_
            refine s_pure hJ 64 (.bool true) (by kernel_rfl) (fun _ => by kernel_rfl) ?_; clear hJ a; intro a hJ
            refine s_pure hJ 63 (.bool true) (by kernel_rfl) (fun _ => by kernel_rfl) ?_; clear hJ a; intro a hJ
            refine wpList_nil ?_
            refine then_normal ?_
            refine c_true hJ (t := true) (by kernel_rfl) rfl ?_
            refine wp_seq ?_
            refine wp_region_lit ?_
            refine s_pure hJ 65 (.pointer (some ⟨b16, 2, none⟩)) (by kernel_rfl) (fun _ => by kernel_rfl) ?_; clear hJ a; intro a hJ
            refine s_load hJ (t := 3) (x := (.tmp 65)) 66 (.int .i64 ((rawAt l n).b)) 0 (b := b16) (off := 2) (cs := [.int .i64 ((rawAt l n).k), .int .i64 ((rawAt l n).a), .int .i64 ((rawAt l n).b), .string ((rawAt l n).t)]) (by kernel_rfl) (by kernel_rfl) (by kernel_rfl) (by kernel_rfl) (by kernel_rfl) ?_; clear hJ a; intro a hJ
            refine s_call hJ 67 (pb7 _ rb0 rb1 (by omega) (by omega)) (by kernel_rfl) (fun _ => by kernel_rfl) ?_; clear hJ a w; rintro _ h141 a w s142 rfl hJ
            refine s_pure hJ 12 (.int .i64 3) (by kernel_rfl) (fun _ => by kernel_rfl) ?_; clear hJ a; intro a hJ
            refine wpList_nil ?_
            refine then_normal ?_
            refine wp_block ?_
            refine wp_seq ?_
            refine wp_region_lit ?_
            refine s_pure hJ 81 (.int .i64 3) (by kernel_rfl) (fun _ => by kernel_rfl) ?_; clear hJ a; intro a hJ
            refine s_pure hJ 82 (.bool false) (by kernel_rfl) (fun _ => by kernel_rfl) ?_; clear hJ a; intro a hJ
            refine s_pure hJ 80 (.bool false) (by kernel_rfl) (fun _ => by kernel_rfl) ?_; clear hJ a; intro a hJ
            refine wpList_nil ?_
            refine then_normal ?_
            refine c_false hJ (t := false) (by kernel_rfl) rfl ?_
            refine wp_seq ?_
            refine wp_region_lit ?_
            refine s_pure hJ 87 (.int .i64 3) (by kernel_rfl) (fun _ => by kernel_rfl) ?_; clear hJ a; intro a hJ
            refine s_pure hJ 88 (.bool false) (by kernel_rfl) (fun _ => by kernel_rfl) ?_; clear hJ a; intro a hJ
            refine s_pure hJ 86 (.bool false) (by kernel_rfl) (fun _ => by kernel_rfl) ?_; clear hJ a; intro a hJ
            refine wpList_nil ?_
            refine then_normal ?_
            refine c_false hJ (t := false) (by kernel_rfl) rfl ?_
            refine wp_seq ?_
            refine wp_region_lit ?_
            refine s_pure hJ 68 (.pointer (some ⟨b16, 1, none⟩)) (by kernel_rfl) (fun _ => by kernel_rfl) ?_; clear hJ a; intro a hJ
            refine s_load hJ (t := 3) (x := (.tmp 68)) 69 (.int .i64 ((rawAt l n).a)) 0 (b := b16) (off := 1) (cs := [.int .i64 ((rawAt l n).k), .int .i64 ((rawAt l n).a), .int .i64 ((rawAt l n).b), .string ((rawAt l n).t)]) (by kernel_rfl) (by kernel_rfl) (by kernel_rfl) (by kernel_rfl) (by kernel_rfl) ?_; clear hJ a; intro a hJ
            refine s_call hJ 70 (pa3 _ a0 a1 (by omega) (by omega)) (by kernel_rfl) (fun _ => by kernel_rfl) ?_; clear hJ a w; rintro _ h143 a w s144 rfl hJ
            refine s_pure hJ 71 (.int .i64 3) (by kernel_rfl) (fun _ => by kernel_rfl) ?_; clear hJ a; intro a hJ
            refine s_pure hJ 13 (.int .i64 3) (by kernel_rfl) (fun _ => by kernel_rfl) ?_; clear hJ a; intro a hJ
            refine wpList_nil ?_
            refine then_normal ?_
            refine wp_seq ?_
            refine wp_region_lit ?_
            refine s_pure hJ 72 (.func (.func 62) #[] #[.pointer (some ⟨b1, 0, none⟩), .pointer (some ⟨b5, 0, none⟩), .pointer (some ⟨b9, 0, none⟩)]) (by kernel_rfl) (fun _ => by kernel_rfl) ?_; clear hJ a; intro a hJ
            refine s_pure hJ 73 (.int .i64 3) (by kernel_rfl) (fun _ => by kernel_rfl) ?_; clear hJ a; intro a hJ
            refine s_pure hJ 74 (.int .i64 14) (by kernel_rfl) (fun _ => by kernel_rfl) ?_; clear hJ a; intro a hJ
            refine s_pure hJ 75 (.int .i64 11) (by kernel_rfl) (fun _ => by kernel_rfl) ?_; clear hJ a; intro a hJ
            refine s_pure hJ 76 (.int .i64 3) (by kernel_rfl) (fun _ => by kernel_rfl) ?_; clear hJ a; intro a hJ
            refine s_pure hJ 77 (.int .i64 3) (by kernel_rfl) (fun _ => by kernel_rfl) ?_; clear hJ a; intro a hJ
            refine s_fact hJ 78 (fun g => .slice (some ⟨g, 0, none⟩) 2 2) [.int .i64 3, .int .i64 3] 3 (by kernel_rfl) (fun _ => by kernel_rfl) ?_; clear hJ a w; intro b145 h146 a w s147 fk hJ
            refine s_call1 hJ 79 2 (many 11 [3, 3] _ _ _ _ _ _ _ (hr.sees (s3.trans (s7.trans (s11.trans (s15.trans (s18.trans (s22.trans (s142.trans (s144.trans (s147.trans hJ.sees)))))))))) (by omega) (by simp) (by simp <;> omega) (rs_ints [3, 3] (by unfold maxLen; simp) (fk.sees hJ.sees)) (hf.sees (hJ.lent hm)) (List.mem_append_right _ hg) (f4.sees (s7.trans (s11.trans (s15.trans (s18.trans (s22.trans (s142.trans (s144.trans (s147.trans hJ.sees))))))))) (f8.sees (s11.trans (s15.trans (s18.trans (s22.trans (s142.trans (s144.trans (s147.trans hJ.sees)))))))) (f12.sees (s15.trans (s18.trans (s22.trans (s142.trans (s144.trans (s147.trans hJ.sees)))))))) (by kernel_rfl) (by kernel_rfl) (fun _ => by kernel_rfl) ?_; clear hJ a w; rintro _ _ h148 a w s149 ⟨u, rfl, rfl, fu⟩ hJ
            refine s_store hJ (t := 38) (x := (.tmp 8)) (y := (.tmp 79)) 1 (.agg #[.int .i64 ((opE 11 (manyE (genE l fs d) [3, 3] (atNext l n)).1).op), .int .i64 ((opE 11 (manyE (genE l fs d) [3, 3] (atNext l n)).1).k), .int .i64 ((opE 11 (manyE (genE l fs d) [3, 3] (atNext l n)).1).n), .string ((opE 11 (manyE (genE l fs d) [3, 3] (atNext l n)).1).s), .string ((opE 11 (manyE (genE l fs d) [3, 3] (atNext l n)).1).nm), .slice (sA u) (sN u) (sC u)]) (b := b13) (off := 0) (cs := [.int .i64 0, .int .i64 0, .int .i64 0, .string ⟨#[]⟩, .string ⟨#[]⟩, .slice none 0 0]) [.int .i64 ((opE 11 (manyE (genE l fs d) [3, 3] (atNext l n)).1).op), .int .i64 ((opE 11 (manyE (genE l fs d) [3, 3] (atNext l n)).1).k), .int .i64 ((opE 11 (manyE (genE l fs d) [3, 3] (atNext l n)).1).n), .string ((opE 11 (manyE (genE l fs d) [3, 3] (atNext l n)).1).s), .string ((opE 11 (manyE (genE l fs d) [3, 3] (atNext l n)).1).nm), .slice (sA u) (sN u) (sC u)] (by kernel_rfl) (by kernel_rfl) (by kernel_rfl) (by kernel_rfl) (by kernel_rfl) (by kernel_rfl) (by kernel_rfl) ?_; clear hJ w; intro w hJ
            refine wpList_nil ?_
            refine then_normal ?_
            refine wp_ret ?_
            refine block_ret ?_
            refine block_ret ?_
            refine then_ret ?_
            refine (hQ [.agg #[.int .i64 ((opE 11 (manyE (genE l fs d) [3, 3] (atNext l n)).1).op), .int .i64 ((opE 11 (manyE (genE l fs d) [3, 3] (atNext l n)).1).k), .int .i64 ((opE 11 (manyE (genE l fs d) [3, 3] (atNext l n)).1).n), .string ((opE 11 (manyE (genE l fs d) [3, 3] (atNext l n)).1).s), .string ((opE 11 (manyE (genE l fs d) [3, 3] (atNext l n)).1).nm), .slice (sA u) (sN u) (sC u)]] [.box b16 [.int .i64 ((rawAt l n).k), .int .i64 ((rawAt l n).a), .int .i64 ((rawAt l n).b), .string ((rawAt l n).t)], .box b13 [.int .i64 ((opE 11 (manyE (genE l fs d) [3, 3] (atNext l n)).1).op), .int .i64 ((opE 11 (manyE (genE l fs d) [3, 3] (atNext l n)).1).k), .int .i64 ((opE 11 (manyE (genE l fs d) [3, 3] (atNext l n)).1).n), .string ((opE 11 (manyE (genE l fs d) [3, 3] (atNext l n)).1).s), .string ((opE 11 (manyE (genE l fs d) [3, 3] (atNext l n)).1).nm), .slice (sA u) (sN u) (sC u)]] [(g, [sl, .int .i64 (((manyE (genE l fs d) [3, 3] (atNext l n)).2 : Nat) : Int)])] hJ (.rcell hJ 1 (b := b13) (cs := [.int .i64 ((opE 11 (manyE (genE l fs d) [3, 3] (atNext l n)).1).op), .int .i64 ((opE 11 (manyE (genE l fs d) [3, 3] (atNext l n)).1).k), .int .i64 ((opE 11 (manyE (genE l fs d) [3, 3] (atNext l n)).1).n), .string ((opE 11 (manyE (genE l fs d) [3, 3] (atNext l n)).1).s), .string ((opE 11 (manyE (genE l fs d) [3, 3] (atNext l n)).1).nm), .slice (sA u) (sN u) (sC u)]) (by kernel_rfl) (by kernel_rfl) (by kernel_rfl) .nil) (by kernel_rfl) (by kernel_rfl) ?_).1
            exact expr_end (genE_with q3 (by unfold pickE; rw [if_neg q6, q7, q4]; rfl)) rfl rfl (fu.sees hJ.out)
        · skip
          rw [q7] at pb7
          obtain q4 | q4 | q4 : pickL (rawAt l n).a 3 = 0 ∨ pickL (rawAt l n).a 3 = 1 ∨ pickL (rawAt l n).a 3 = 2 := by omega
          · skip
            rw [q4] at pa3
            refine c_false hJ (t := (pickL (rawAt l n).a 6) == 0) (by kernel_rfl) (beq_eq_false_iff_ne.2 q6) ?_
            refine wp_skip ?_
            refine then_normal ?_
            refine wp_seq ?_
            refine wp_seq ?_
            refine wp_region_lit ?_
            refine s_pure hJ 38 (.int .i64 2) (by kernel_rfl) (fun _ => by kernel_rfl) ?_; clear hJ a; intro a hJ
            refine wpList_nil ?_
            refine then_normal ?_
            refine wp_block ?_
            refine wp_seq ?_
            refine wp_region_lit ?_
            refine s_pure hJ 40 (.bool false) (by kernel_rfl) (fun _ => by kernel_rfl) ?_; clear hJ a; intro a hJ
            refine s_pure hJ 39 (.bool false) (by kernel_rfl) (fun _ => by kernel_rfl) ?_; clear hJ a; intro a hJ
            refine wpList_nil ?_
            refine then_normal ?_
            refine c_false hJ (t := false) (by kernel_rfl) rfl ?_
            refine wp_seq ?_
            refine wp_region_lit ?_
            refine s_pure hJ 64 (.bool true) (by kernel_rfl) (fun _ => by kernel_rfl) ?_; clear hJ a; intro a hJ
            refine s_pure hJ 63 (.bool true) (by kernel_rfl) (fun _ => by kernel_rfl) ?_; clear hJ a; intro a hJ
            refine wpList_nil ?_
            refine then_normal ?_
            refine c_true hJ (t := true) (by kernel_rfl) rfl ?_
            refine wp_seq ?_
            refine wp_region_lit ?_
            refine s_pure hJ 65 (.pointer (some ⟨b16, 2, none⟩)) (by kernel_rfl) (fun _ => by kernel_rfl) ?_; clear hJ a; intro a hJ
            refine s_load hJ (t := 3) (x := (.tmp 65)) 66 (.int .i64 ((rawAt l n).b)) 0 (b := b16) (off := 2) (cs := [.int .i64 ((rawAt l n).k), .int .i64 ((rawAt l n).a), .int .i64 ((rawAt l n).b), .string ((rawAt l n).t)]) (by kernel_rfl) (by kernel_rfl) (by kernel_rfl) (by kernel_rfl) (by kernel_rfl) ?_; clear hJ a; intro a hJ
            refine s_call hJ 67 (pb7 _ rb0 rb1 (by omega) (by omega)) (by kernel_rfl) (fun _ => by kernel_rfl) ?_; clear hJ a w; rintro _ h150 a w s151 rfl hJ
            refine s_pure hJ 12 (.int .i64 4) (by kernel_rfl) (fun _ => by kernel_rfl) ?_; clear hJ a; intro a hJ
            refine wpList_nil ?_
            refine then_normal ?_
            refine wp_block ?_
            refine wp_seq ?_
            refine wp_region_lit ?_
            refine s_pure hJ 81 (.int .i64 4) (by kernel_rfl) (fun _ => by kernel_rfl) ?_; clear hJ a; intro a hJ
            refine s_pure hJ 82 (.bool false) (by kernel_rfl) (fun _ => by kernel_rfl) ?_; clear hJ a; intro a hJ
            refine s_pure hJ 80 (.bool false) (by kernel_rfl) (fun _ => by kernel_rfl) ?_; clear hJ a; intro a hJ
            refine wpList_nil ?_
            refine then_normal ?_
            refine c_false hJ (t := false) (by kernel_rfl) rfl ?_
            refine wp_seq ?_
            refine wp_region_lit ?_
            refine s_pure hJ 87 (.int .i64 4) (by kernel_rfl) (fun _ => by kernel_rfl) ?_; clear hJ a; intro a hJ
            refine s_pure hJ 88 (.bool false) (by kernel_rfl) (fun _ => by kernel_rfl) ?_; clear hJ a; intro a hJ
            refine s_pure hJ 86 (.bool false) (by kernel_rfl) (fun _ => by kernel_rfl) ?_; clear hJ a; intro a hJ
            refine wpList_nil ?_
            refine then_normal ?_
            refine c_false hJ (t := false) (by kernel_rfl) rfl ?_
            refine wp_seq ?_
            refine wp_region_lit ?_
            refine s_pure hJ 68 (.pointer (some ⟨b16, 1, none⟩)) (by kernel_rfl) (fun _ => by kernel_rfl) ?_; clear hJ a; intro a hJ
            refine s_load hJ (t := 3) (x := (.tmp 68)) 69 (.int .i64 ((rawAt l n).a)) 0 (b := b16) (off := 1) (cs := [.int .i64 ((rawAt l n).k), .int .i64 ((rawAt l n).a), .int .i64 ((rawAt l n).b), .string ((rawAt l n).t)]) (by kernel_rfl) (by kernel_rfl) (by kernel_rfl) (by kernel_rfl) (by kernel_rfl) ?_; clear hJ a; intro a hJ
            refine s_call hJ 70 (pa3 _ a0 a1 (by omega) (by omega)) (by kernel_rfl) (fun _ => by kernel_rfl) ?_; clear hJ a w; rintro _ h152 a w s153 rfl hJ
            refine s_pure hJ 71 (.int .i64 1) (by kernel_rfl) (fun _ => by kernel_rfl) ?_; clear hJ a; intro a hJ
            refine s_pure hJ 13 (.int .i64 1) (by kernel_rfl) (fun _ => by kernel_rfl) ?_; clear hJ a; intro a hJ
            refine wpList_nil ?_
            refine then_normal ?_
            refine wp_seq ?_
            refine wp_region_lit ?_
            refine s_pure hJ 72 (.func (.func 62) #[] #[.pointer (some ⟨b1, 0, none⟩), .pointer (some ⟨b5, 0, none⟩), .pointer (some ⟨b9, 0, none⟩)]) (by kernel_rfl) (fun _ => by kernel_rfl) ?_; clear hJ a; intro a hJ
            refine s_pure hJ 73 (.int .i64 4) (by kernel_rfl) (fun _ => by kernel_rfl) ?_; clear hJ a; intro a hJ
            refine s_pure hJ 74 (.int .i64 15) (by kernel_rfl) (fun _ => by kernel_rfl) ?_; clear hJ a; intro a hJ
            refine s_pure hJ 75 (.int .i64 12) (by kernel_rfl) (fun _ => by kernel_rfl) ?_; clear hJ a; intro a hJ
            refine s_pure hJ 76 (.int .i64 1) (by kernel_rfl) (fun _ => by kernel_rfl) ?_; clear hJ a; intro a hJ
            refine s_pure hJ 77 (.int .i64 1) (by kernel_rfl) (fun _ => by kernel_rfl) ?_; clear hJ a; intro a hJ
            refine s_fact hJ 78 (fun g => .slice (some ⟨g, 0, none⟩) 2 2) [.int .i64 1, .int .i64 1] 3 (by kernel_rfl) (fun _ => by kernel_rfl) ?_; clear hJ a w; intro b154 h155 a w s156 fk hJ
            refine s_call1 hJ 79 2 (many 12 [1, 1] _ _ _ _ _ _ _ (hr.sees (s3.trans (s7.trans (s11.trans (s15.trans (s18.trans (s22.trans (s151.trans (s153.trans (s156.trans hJ.sees)))))))))) (by omega) (by simp) (by simp <;> omega) (rs_ints [1, 1] (by unfold maxLen; simp) (fk.sees hJ.sees)) (hf.sees (hJ.lent hm)) (List.mem_append_right _ hg) (f4.sees (s7.trans (s11.trans (s15.trans (s18.trans (s22.trans (s151.trans (s153.trans (s156.trans hJ.sees))))))))) (f8.sees (s11.trans (s15.trans (s18.trans (s22.trans (s151.trans (s153.trans (s156.trans hJ.sees)))))))) (f12.sees (s15.trans (s18.trans (s22.trans (s151.trans (s153.trans (s156.trans hJ.sees)))))))) (by kernel_rfl) (by kernel_rfl) (fun _ => by kernel_rfl) ?_; clear hJ a w; rintro _ _ h157 a w s158 ⟨u, rfl, rfl, fu⟩ hJ
            refine s_store hJ (t := 38) (x := (.tmp 8)) (y := (.tmp 79)) 1 (.agg #[.int .i64 ((opE 12 (manyE (genE l fs d) [1, 1] (atNext l n)).1).op), .int .i64 ((opE 12 (manyE (genE l fs d) [1, 1] (atNext l n)).1).k), .int .i64 ((opE 12 (manyE (genE l fs d) [1, 1] (atNext l n)).1).n), .string ((opE 12 (manyE (genE l fs d) [1, 1] (atNext l n)).1).s), .string ((opE 12 (manyE (genE l fs d) [1, 1] (atNext l n)).1).nm), .slice (sA u) (sN u) (sC u)]) (b := b13) (off := 0) (cs := [.int .i64 0, .int .i64 0, .int .i64 0, .string ⟨#[]⟩, .string ⟨#[]⟩, .slice none 0 0]) [.int .i64 ((opE 12 (manyE (genE l fs d) [1, 1] (atNext l n)).1).op), .int .i64 ((opE 12 (manyE (genE l fs d) [1, 1] (atNext l n)).1).k), .int .i64 ((opE 12 (manyE (genE l fs d) [1, 1] (atNext l n)).1).n), .string ((opE 12 (manyE (genE l fs d) [1, 1] (atNext l n)).1).s), .string ((opE 12 (manyE (genE l fs d) [1, 1] (atNext l n)).1).nm), .slice (sA u) (sN u) (sC u)] (by kernel_rfl) (by kernel_rfl) (by kernel_rfl) (by kernel_rfl) (by kernel_rfl) (by kernel_rfl) (by kernel_rfl) ?_; clear hJ w; intro w hJ
            refine wpList_nil ?_
            refine then_normal ?_
            refine wp_ret ?_
            refine block_ret ?_
            refine block_ret ?_
            refine then_ret ?_
            refine (hQ [.agg #[.int .i64 ((opE 12 (manyE (genE l fs d) [1, 1] (atNext l n)).1).op), .int .i64 ((opE 12 (manyE (genE l fs d) [1, 1] (atNext l n)).1).k), .int .i64 ((opE 12 (manyE (genE l fs d) [1, 1] (atNext l n)).1).n), .string ((opE 12 (manyE (genE l fs d) [1, 1] (atNext l n)).1).s), .string ((opE 12 (manyE (genE l fs d) [1, 1] (atNext l n)).1).nm), .slice (sA u) (sN u) (sC u)]] [.box b16 [.int .i64 ((rawAt l n).k), .int .i64 ((rawAt l n).a), .int .i64 ((rawAt l n).b), .string ((rawAt l n).t)], .box b13 [.int .i64 ((opE 12 (manyE (genE l fs d) [1, 1] (atNext l n)).1).op), .int .i64 ((opE 12 (manyE (genE l fs d) [1, 1] (atNext l n)).1).k), .int .i64 ((opE 12 (manyE (genE l fs d) [1, 1] (atNext l n)).1).n), .string ((opE 12 (manyE (genE l fs d) [1, 1] (atNext l n)).1).s), .string ((opE 12 (manyE (genE l fs d) [1, 1] (atNext l n)).1).nm), .slice (sA u) (sN u) (sC u)]] [(g, [sl, .int .i64 (((manyE (genE l fs d) [1, 1] (atNext l n)).2 : Nat) : Int)])] hJ (.rcell hJ 1 (b := b13) (cs := [.int .i64 ((opE 12 (manyE (genE l fs d) [1, 1] (atNext l n)).1).op), .int .i64 ((opE 12 (manyE (genE l fs d) [1, 1] (atNext l n)).1).k), .int .i64 ((opE 12 (manyE (genE l fs d) [1, 1] (atNext l n)).1).n), .string ((opE 12 (manyE (genE l fs d) [1, 1] (atNext l n)).1).s), .string ((opE 12 (manyE (genE l fs d) [1, 1] (atNext l n)).1).nm), .slice (sA u) (sN u) (sC u)]) (by kernel_rfl) (by kernel_rfl) (by kernel_rfl) .nil) (by kernel_rfl) (by kernel_rfl) ?_).1
            exact expr_end (genE_with q3 (by unfold pickE; rw [if_neg q6, q7, q4]; rfl)) rfl rfl (fu.sees hJ.out)
          · skip
            rw [q4] at pa3
            refine c_false hJ (t := (pickL (rawAt l n).a 6) == 0) (by kernel_rfl) (beq_eq_false_iff_ne.2 q6) ?_
            refine wp_skip ?_
            refine then_normal ?_
            refine wp_seq ?_
            refine wp_seq ?_
            refine wp_region_lit ?_
            refine s_pure hJ 38 (.int .i64 2) (by kernel_rfl) (fun _ => by kernel_rfl) ?_; clear hJ a; intro a hJ
            refine wpList_nil ?_
            refine then_normal ?_
            refine wp_block ?_
            refine wp_seq ?_
            refine wp_region_lit ?_
            refine s_pure hJ 40 (.bool false) (by kernel_rfl) (fun _ => by kernel_rfl) ?_; clear hJ a; intro a hJ
            refine s_pure hJ 39 (.bool false) (by kernel_rfl) (fun _ => by kernel_rfl) ?_; clear hJ a; intro a hJ
            refine wpList_nil ?_
            refine then_normal ?_
            refine c_false hJ (t := false) (by kernel_rfl) rfl ?_
            refine wp_seq ?_
            refine wp_region_lit ?_
            refine s_pure hJ 64 (.bool true) (by kernel_rfl) (fun _ => by kernel_rfl) ?_; clear hJ a; intro a hJ
            refine s_pure hJ 63 (.bool true) (by kernel_rfl) (fun _ => by kernel_rfl) ?_; clear hJ a; intro a hJ
            refine wpList_nil ?_
            refine then_normal ?_
            refine c_true hJ (t := true) (by kernel_rfl) rfl ?_
            refine wp_seq ?_
            refine wp_region_lit ?_
            refine s_pure hJ 65 (.pointer (some ⟨b16, 2, none⟩)) (by kernel_rfl) (fun _ => by kernel_rfl) ?_; clear hJ a; intro a hJ
            refine s_load hJ (t := 3) (x := (.tmp 65)) 66 (.int .i64 ((rawAt l n).b)) 0 (b := b16) (off := 2) (cs := [.int .i64 ((rawAt l n).k), .int .i64 ((rawAt l n).a), .int .i64 ((rawAt l n).b), .string ((rawAt l n).t)]) (by kernel_rfl) (by kernel_rfl) (by kernel_rfl) (by kernel_rfl) (by kernel_rfl) ?_; clear hJ a; intro a hJ
            refine s_call hJ 67 (pb7 _ rb0 rb1 (by omega) (by omega)) (by kernel_rfl) (fun _ => by kernel_rfl) ?_; clear hJ a w; rintro _ h159 a w s160 rfl hJ
            refine s_pure hJ 12 (.int .i64 4) (by kernel_rfl) (fun _ => by kernel_rfl) ?_; clear hJ a; intro a hJ
            refine wpList_nil ?_
            refine then_normal ?_
            refine wp_block ?_
            refine wp_seq ?_
            refine wp_region_lit ?_
            refine s_pure hJ 81 (.int .i64 4) (by kernel_rfl) (fun _ => by kernel_rfl) ?_; clear hJ a; intro a hJ
            refine s_pure hJ 82 (.bool false) (by kernel_rfl) (fun _ => by kernel_rfl) ?_; clear hJ a; intro a hJ
            refine s_pure hJ 80 (.bool false) (by kernel_rfl) (fun _ => by kernel_rfl) ?_; clear hJ a; intro a hJ
            refine wpList_nil ?_
            refine then_normal ?_
            refine c_false hJ (t := false) (by kernel_rfl) rfl ?_
            refine wp_seq ?_
            refine wp_region_lit ?_
            refine s_pure hJ 87 (.int .i64 4) (by kernel_rfl) (fun _ => by kernel_rfl) ?_; clear hJ a; intro a hJ
            refine s_pure hJ 88 (.bool false) (by kernel_rfl) (fun _ => by kernel_rfl) ?_; clear hJ a; intro a hJ
            refine s_pure hJ 86 (.bool false) (by kernel_rfl) (fun _ => by kernel_rfl) ?_; clear hJ a; intro a hJ
            refine wpList_nil ?_
            refine then_normal ?_
            refine c_false hJ (t := false) (by kernel_rfl) rfl ?_
            refine wp_seq ?_
            refine wp_region_lit ?_
            refine s_pure hJ 68 (.pointer (some ⟨b16, 1, none⟩)) (by kernel_rfl) (fun _ => by kernel_rfl) ?_; clear hJ a; intro a hJ
            refine s_load hJ (t := 3) (x := (.tmp 68)) 69 (.int .i64 ((rawAt l n).a)) 0 (b := b16) (off := 1) (cs := [.int .i64 ((rawAt l n).k), .int .i64 ((rawAt l n).a), .int .i64 ((rawAt l n).b), .string ((rawAt l n).t)]) (by kernel_rfl) (by kernel_rfl) (by kernel_rfl) (by kernel_rfl) (by kernel_rfl) ?_; clear hJ a; intro a hJ
            refine s_call hJ 70 (pa3 _ a0 a1 (by omega) (by omega)) (by kernel_rfl) (fun _ => by kernel_rfl) ?_; clear hJ a w; rintro _ h161 a w s162 rfl hJ
            refine s_pure hJ 71 (.int .i64 2) (by kernel_rfl) (fun _ => by kernel_rfl) ?_; clear hJ a; intro a hJ
            refine s_pure hJ 13 (.int .i64 2) (by kernel_rfl) (fun _ => by kernel_rfl) ?_; clear hJ a; intro a hJ
            refine wpList_nil ?_
            refine then_normal ?_
            refine wp_seq ?_
            refine wp_region_lit ?_
            refine s_pure hJ 72 (.func (.func 62) #[] #[.pointer (some ⟨b1, 0, none⟩), .pointer (some ⟨b5, 0, none⟩), .pointer (some ⟨b9, 0, none⟩)]) (by kernel_rfl) (fun _ => by kernel_rfl) ?_; clear hJ a; intro a hJ
            refine s_pure hJ 73 (.int .i64 4) (by kernel_rfl) (fun _ => by kernel_rfl) ?_; clear hJ a; intro a hJ
            refine s_pure hJ 74 (.int .i64 15) (by kernel_rfl) (fun _ => by kernel_rfl) ?_; clear hJ a; intro a hJ
            refine s_pure hJ 75 (.int .i64 12) (by kernel_rfl) (fun _ => by kernel_rfl) ?_; clear hJ a; intro a hJ
            refine s_pure hJ 76 (.int .i64 2) (by kernel_rfl) (fun _ => by kernel_rfl) ?_; clear hJ a; intro a hJ
            refine s_pure hJ 77 (.int .i64 2) (by kernel_rfl) (fun _ => by kernel_rfl) ?_; clear hJ a; intro a hJ
            refine s_fact hJ 78 (fun g => .slice (some ⟨g, 0, none⟩) 2 2) [.int .i64 2, .int .i64 2] 3 (by kernel_rfl) (fun _ => by kernel_rfl) ?_; clear hJ a w; intro b163 h164 a w s165 fk hJ
            refine s_call1 hJ 79 2 (many 12 [2, 2] _ _ _ _ _ _ _ (hr.sees (s3.trans (s7.trans (s11.trans (s15.trans (s18.trans (s22.trans (s160.trans (s162.trans (s165.trans hJ.sees)))))))))) (by omega) (by simp) (by simp <;> omega) (rs_ints [2, 2] (by unfold maxLen; simp) (fk.sees hJ.sees)) (hf.sees (hJ.lent hm)) (List.mem_append_right _ hg) (f4.sees (s7.trans (s11.trans (s15.trans (s18.trans (s22.trans (s160.trans (s162.trans (s165.trans hJ.sees))))))))) (f8.sees (s11.trans (s15.trans (s18.trans (s22.trans (s160.trans (s162.trans (s165.trans hJ.sees)))))))) (f12.sees (s15.trans (s18.trans (s22.trans (s160.trans (s162.trans (s165.trans hJ.sees)))))))) (by kernel_rfl) (by kernel_rfl) (fun _ => by kernel_rfl) ?_; clear hJ a w; rintro _ _ h166 a w s167 ⟨u, rfl, rfl, fu⟩ hJ
            refine s_store hJ (t := 38) (x := (.tmp 8)) (y := (.tmp 79)) 1 (.agg #[.int .i64 ((opE 12 (manyE (genE l fs d) [2, 2] (atNext l n)).1).op), .int .i64 ((opE 12 (manyE (genE l fs d) [2, 2] (atNext l n)).1).k), .int .i64 ((opE 12 (manyE (genE l fs d) [2, 2] (atNext l n)).1).n), .string ((opE 12 (manyE (genE l fs d) [2, 2] (atNext l n)).1).s), .string ((opE 12 (manyE (genE l fs d) [2, 2] (atNext l n)).1).nm), .slice (sA u) (sN u) (sC u)]) (b := b13) (off := 0) (cs := [.int .i64 0, .int .i64 0, .int .i64 0, .string ⟨#[]⟩, .string ⟨#[]⟩, .slice none 0 0]) [.int .i64 ((opE 12 (manyE (genE l fs d) [2, 2] (atNext l n)).1).op), .int .i64 ((opE 12 (manyE (genE l fs d) [2, 2] (atNext l n)).1).k), .int .i64 ((opE 12 (manyE (genE l fs d) [2, 2] (atNext l n)).1).n), .string ((opE 12 (manyE (genE l fs d) [2, 2] (atNext l n)).1).s), .string ((opE 12 (manyE (genE l fs d) [2, 2] (atNext l n)).1).nm), .slice (sA u) (sN u) (sC u)] (by kernel_rfl) (by kernel_rfl) (by kernel_rfl) (by kernel_rfl) (by kernel_rfl) (by kernel_rfl) (by kernel_rfl) ?_; clear hJ w; intro w hJ
            refine wpList_nil ?_
            refine then_normal ?_
            refine wp_ret ?_
            refine block_ret ?_
            refine block_ret ?_
            refine then_ret ?_
            refine (hQ [.agg #[.int .i64 ((opE 12 (manyE (genE l fs d) [2, 2] (atNext l n)).1).op), .int .i64 ((opE 12 (manyE (genE l fs d) [2, 2] (atNext l n)).1).k), .int .i64 ((opE 12 (manyE (genE l fs d) [2, 2] (atNext l n)).1).n), .string ((opE 12 (manyE (genE l fs d) [2, 2] (atNext l n)).1).s), .string ((opE 12 (manyE (genE l fs d) [2, 2] (atNext l n)).1).nm), .slice (sA u) (sN u) (sC u)]] [.box b16 [.int .i64 ((rawAt l n).k), .int .i64 ((rawAt l n).a), .int .i64 ((rawAt l n).b), .string ((rawAt l n).t)], .box b13 [.int .i64 ((opE 12 (manyE (genE l fs d) [2, 2] (atNext l n)).1).op), .int .i64 ((opE 12 (manyE (genE l fs d) [2, 2] (atNext l n)).1).k), .int .i64 ((opE 12 (manyE (genE l fs d) [2, 2] (atNext l n)).1).n), .string ((opE 12 (manyE (genE l fs d) [2, 2] (atNext l n)).1).s), .string ((opE 12 (manyE (genE l fs d) [2, 2] (atNext l n)).1).nm), .slice (sA u) (sN u) (sC u)]] [(g, [sl, .int .i64 (((manyE (genE l fs d) [2, 2] (atNext l n)).2 : Nat) : Int)])] hJ (.rcell hJ 1 (b := b13) (cs := [.int .i64 ((opE 12 (manyE (genE l fs d) [2, 2] (atNext l n)).1).op), .int .i64 ((opE 12 (manyE (genE l fs d) [2, 2] (atNext l n)).1).k), .int .i64 ((opE 12 (manyE (genE l fs d) [2, 2] (atNext l n)).1).n), .string ((opE 12 (manyE (genE l fs d) [2, 2] (atNext l n)).1).s), .string ((opE 12 (manyE (genE l fs d) [2, 2] (atNext l n)).1).nm), .slice (sA u) (sN u) (sC u)]) (by kernel_rfl) (by kernel_rfl) (by kernel_rfl) .nil) (by kernel_rfl) (by kernel_rfl) ?_).1
            exact expr_end (genE_with q3 (by unfold pickE; rw [if_neg q6, q7, q4]; rfl)) rfl rfl (fu.sees hJ.out)
          · skip
            rw [q4] at pa3
            refine c_false hJ (t := (pickL (rawAt l n).a 6) == 0) (by kernel_rfl) (beq_eq_false_iff_ne.2 q6) ?_
            refine wp_skip ?_
            refine then_normal ?_
            refine wp_seq ?_
            refine wp_seq ?_
            refine wp_region_lit ?_
            refine s_pure hJ 38 (.int .i64 2) (by kernel_rfl) (fun _ => by kernel_rfl) ?_; clear hJ a; intro a hJ
            refine wpList_nil ?_
            refine then_normal ?_
            refine wp_block ?_
            refine wp_seq ?_
            refine wp_region_lit ?_
            refine s_pure hJ 40 (.bool false) (by kernel_rfl) (fun _ => by kernel_rfl) ?_; clear hJ a; intro a hJ
            refine s_pure hJ 39 (.bool false) (by kernel_rfl) (fun _ => by kernel_rfl) ?_; clear hJ a; intro a hJ
            refine wpList_nil ?_
            refine then_normal ?_
            refine c_false hJ (t := false) (by kernel_rfl) rfl ?_
            refine wp_seq ?_
            refine wp_region_lit ?_
            refine s_pure hJ 64 (.bool true) (by kernel_rfl) (fun _ => by kernel_rfl) ?_; clear hJ a; intro a hJ
            refine s_pure hJ 63 (.bool true) (by kernel_rfl) (fun _ => by kernel_rfl) ?_; clear hJ a; intro a hJ
            refine wpList_nil ?_
            refine then_normal ?_
            refine c_true hJ (t := true) (by kernel_rfl) rfl ?_
            refine wp_seq ?_
            refine wp_region_lit ?_
            refine s_pure hJ 65 (.pointer (some ⟨b16, 2, none⟩)) (by kernel_rfl) (fun _ => by kernel_rfl) ?_; clear hJ a; intro a hJ
            refine s_load hJ (t := 3) (x := (.tmp 65)) 66 (.int .i64 ((rawAt l n).b)) 0 (b := b16) (off := 2) (cs := [.int .i64 ((rawAt l n).k), .int .i64 ((rawAt l n).a), .int .i64 ((rawAt l n).b), .string ((rawAt l n).t)]) (by kernel_rfl) (by kernel_rfl) (by kernel_rfl) (by kernel_rfl) (by kernel_rfl) ?_; clear hJ a; intro a hJ
            refine s_call hJ 67 (pb7 _ rb0 rb1 (by omega) (by omega)) (by kernel_rfl) (fun _ => by kernel_rfl) ?_; clear hJ a w; rintro _ h168 a w s169 rfl hJ
            refine s_pure hJ 12 (.int .i64 4) (by kernel_rfl) (fun _ => by kernel_rfl) ?_; clear hJ a; intro a hJ
            refine wpList_nil ?_
            refine then_normal ?_
            refine wp_block ?_
            refine wp_seq ?_
            refine wp_region_lit ?_
            refine s_pure hJ 81 (.int .i64 4) (by kernel_rfl) (fun _ => by kernel_rfl) ?_; clear hJ a; intro a hJ
            refine s_pure hJ 82 (.bool false) (by kernel_rfl) (fun _ => by kernel_rfl) ?_; clear hJ a; intro a hJ
            refine s_pure hJ 80 (.bool false) (by kernel_rfl) (fun _ => by kernel_rfl) ?_; clear hJ a; intro a hJ
            refine wpList_nil ?_
            refine then_normal ?_
            refine c_false hJ (t := false) (by kernel_rfl) rfl ?_
            refine wp_seq ?_
            refine wp_region_lit ?_
            refine s_pure hJ 87 (.int .i64 4) (by kernel_rfl) (fun _ => by kernel_rfl) ?_; clear hJ a; intro a hJ
            refine s_pure hJ 88 (.bool false) (by kernel_rfl) (fun _ => by kernel_rfl) ?_; clear hJ a; intro a hJ
            refine s_pure hJ 86 (.bool false) (by kernel_rfl) (fun _ => by kernel_rfl) ?_; clear hJ a; intro a hJ
            refine wpList_nil ?_
            refine then_normal ?_
            refine c_false hJ (t := false) (by kernel_rfl) rfl ?_
            refine wp_seq ?_
            refine wp_region_lit ?_
            refine s_pure hJ 68 (.pointer (some ⟨b16, 1, none⟩)) (by kernel_rfl) (fun _ => by kernel_rfl) ?_; clear hJ a; intro a hJ
            refine s_load hJ (t := 3) (x := (.tmp 68)) 69 (.int .i64 ((rawAt l n).a)) 0 (b := b16) (off := 1) (cs := [.int .i64 ((rawAt l n).k), .int .i64 ((rawAt l n).a), .int .i64 ((rawAt l n).b), .string ((rawAt l n).t)]) (by kernel_rfl) (by kernel_rfl) (by kernel_rfl) (by kernel_rfl) (by kernel_rfl) ?_; clear hJ a; intro a hJ
            refine s_call hJ 70 (pa3 _ a0 a1 (by omega) (by omega)) (by kernel_rfl) (fun _ => by kernel_rfl) ?_; clear hJ a w; rintro _ h170 a w s171 rfl hJ
            refine s_pure hJ 71 (.int .i64 3) (by kernel_rfl) (fun _ => by kernel_rfl) ?_; clear hJ a; intro a hJ
            refine s_pure hJ 13 (.int .i64 3) (by kernel_rfl) (fun _ => by kernel_rfl) ?_; clear hJ a; intro a hJ
            refine wpList_nil ?_
            refine then_normal ?_
            refine wp_seq ?_
            refine wp_region_lit ?_
            refine s_pure hJ 72 (.func (.func 62) #[] #[.pointer (some ⟨b1, 0, none⟩), .pointer (some ⟨b5, 0, none⟩), .pointer (some ⟨b9, 0, none⟩)]) (by kernel_rfl) (fun _ => by kernel_rfl) ?_; clear hJ a; intro a hJ
            refine s_pure hJ 73 (.int .i64 4) (by kernel_rfl) (fun _ => by kernel_rfl) ?_; clear hJ a; intro a hJ
            refine s_pure hJ 74 (.int .i64 15) (by kernel_rfl) (fun _ => by kernel_rfl) ?_; clear hJ a; intro a hJ
            refine s_pure hJ 75 (.int .i64 12) (by kernel_rfl) (fun _ => by kernel_rfl) ?_; clear hJ a; intro a hJ
            refine s_pure hJ 76 (.int .i64 3) (by kernel_rfl) (fun _ => by kernel_rfl) ?_; clear hJ a; intro a hJ
            refine s_pure hJ 77 (.int .i64 3) (by kernel_rfl) (fun _ => by kernel_rfl) ?_; clear hJ a; intro a hJ
            refine s_fact hJ 78 (fun g => .slice (some ⟨g, 0, none⟩) 2 2) [.int .i64 3, .int .i64 3] 3 (by kernel_rfl) (fun _ => by kernel_rfl) ?_; clear hJ a w; intro b172 h173 a w s174 fk hJ
            refine s_call1 hJ 79 2 (many 12 [3, 3] _ _ _ _ _ _ _ (hr.sees (s3.trans (s7.trans (s11.trans (s15.trans (s18.trans (s22.trans (s169.trans (s171.trans (s174.trans hJ.sees)))))))))) (by omega) (by simp) (by simp <;> omega) (rs_ints [3, 3] (by unfold maxLen; simp) (fk.sees hJ.sees)) (hf.sees (hJ.lent hm)) (List.mem_append_right _ hg) (f4.sees (s7.trans (s11.trans (s15.trans (s18.trans (s22.trans (s169.trans (s171.trans (s174.trans hJ.sees))))))))) (f8.sees (s11.trans (s15.trans (s18.trans (s22.trans (s169.trans (s171.trans (s174.trans hJ.sees)))))))) (f12.sees (s15.trans (s18.trans (s22.trans (s169.trans (s171.trans (s174.trans hJ.sees)))))))) (by kernel_rfl) (by kernel_rfl) (fun _ => by kernel_rfl) ?_; clear hJ a w; rintro _ _ h175 a w s176 ⟨u, rfl, rfl, fu⟩ hJ
            refine s_store hJ (t := 38) (x := (.tmp 8)) (y := (.tmp 79)) 1 (.agg #[.int .i64 ((opE 12 (manyE (genE l fs d) [3, 3] (atNext l n)).1).op), .int .i64 ((opE 12 (manyE (genE l fs d) [3, 3] (atNext l n)).1).k), .int .i64 ((opE 12 (manyE (genE l fs d) [3, 3] (atNext l n)).1).n), .string ((opE 12 (manyE (genE l fs d) [3, 3] (atNext l n)).1).s), .string ((opE 12 (manyE (genE l fs d) [3, 3] (atNext l n)).1).nm), .slice (sA u) (sN u) (sC u)]) (b := b13) (off := 0) (cs := [.int .i64 0, .int .i64 0, .int .i64 0, .string ⟨#[]⟩, .string ⟨#[]⟩, .slice none 0 0]) [.int .i64 ((opE 12 (manyE (genE l fs d) [3, 3] (atNext l n)).1).op), .int .i64 ((opE 12 (manyE (genE l fs d) [3, 3] (atNext l n)).1).k), .int .i64 ((opE 12 (manyE (genE l fs d) [3, 3] (atNext l n)).1).n), .string ((opE 12 (manyE (genE l fs d) [3, 3] (atNext l n)).1).s), .string ((opE 12 (manyE (genE l fs d) [3, 3] (atNext l n)).1).nm), .slice (sA u) (sN u) (sC u)] (by kernel_rfl) (by kernel_rfl) (by kernel_rfl) (by kernel_rfl) (by kernel_rfl) (by kernel_rfl) (by kernel_rfl) ?_; clear hJ w; intro w hJ
            refine wpList_nil ?_
            refine then_normal ?_
            refine wp_ret ?_
            refine block_ret ?_
            refine block_ret ?_
            refine then_ret ?_
            refine (hQ [.agg #[.int .i64 ((opE 12 (manyE (genE l fs d) [3, 3] (atNext l n)).1).op), .int .i64 ((opE 12 (manyE (genE l fs d) [3, 3] (atNext l n)).1).k), .int .i64 ((opE 12 (manyE (genE l fs d) [3, 3] (atNext l n)).1).n), .string ((opE 12 (manyE (genE l fs d) [3, 3] (atNext l n)).1).s), .string ((opE 12 (manyE (genE l fs d) [3, 3] (atNext l n)).1).nm), .slice (sA u) (sN u) (sC u)]] [.box b16 [.int .i64 ((rawAt l n).k), .int .i64 ((rawAt l n).a), .int .i64 ((rawAt l n).b), .string ((rawAt l n).t)], .box b13 [.int .i64 ((opE 12 (manyE (genE l fs d) [3, 3] (atNext l n)).1).op), .int .i64 ((opE 12 (manyE (genE l fs d) [3, 3] (atNext l n)).1).k), .int .i64 ((opE 12 (manyE (genE l fs d) [3, 3] (atNext l n)).1).n), .string ((opE 12 (manyE (genE l fs d) [3, 3] (atNext l n)).1).s), .string ((opE 12 (manyE (genE l fs d) [3, 3] (atNext l n)).1).nm), .slice (sA u) (sN u) (sC u)]] [(g, [sl, .int .i64 (((manyE (genE l fs d) [3, 3] (atNext l n)).2 : Nat) : Int)])] hJ (.rcell hJ 1 (b := b13) (cs := [.int .i64 ((opE 12 (manyE (genE l fs d) [3, 3] (atNext l n)).1).op), .int .i64 ((opE 12 (manyE (genE l fs d) [3, 3] (atNext l n)).1).k), .int .i64 ((opE 12 (manyE (genE l fs d) [3, 3] (atNext l n)).1).n), .string ((opE 12 (manyE (genE l fs d) [3, 3] (atNext l n)).1).s), .string ((opE 12 (manyE (genE l fs d) [3, 3] (atNext l n)).1).nm), .slice (sA u) (sN u) (sC u)]) (by kernel_rfl) (by kernel_rfl) (by kernel_rfl) .nil) (by kernel_rfl) (by kernel_rfl) ?_).1
            exact expr_end (genE_with q3 (by unfold pickE; rw [if_neg q6, q7, q4]; rfl)) rfl rfl (fu.sees hJ.out)
        · skip
          rw [q7] at pb7
          obtain q4 | q4 | q4 : pickL (rawAt l n).a 3 = 0 ∨ pickL (rawAt l n).a 3 = 1 ∨ pickL (rawAt l n).a 3 = 2 := by omega
          · skip
            rw [q4] at pa3
            refine c_false hJ (t := (pickL (rawAt l n).a 6) == 0) (by kernel_rfl) (beq_eq_false_iff_ne.2 q6) ?_
            refine wp_skip ?_
            refine then_normal ?_
            refine wp_seq ?_
            refine wp_seq ?_
            refine wp_region_lit ?_
            refine s_pure hJ 38 (.int .i64 2) (by kernel_rfl) (fun _ => by kernel_rfl) ?_; clear hJ a; intro a hJ
            refine wpList_nil ?_
            refine then_normal ?_
            refine wp_block ?_
            refine wp_seq ?_
            refine wp_region_lit ?_
            refine s_pure hJ 40 (.bool false) (by kernel_rfl) (fun _ => by kernel_rfl) ?_; clear hJ a; intro a hJ
            refine s_pure hJ 39 (.bool false) (by kernel_rfl) (fun _ => by kernel_rfl) ?_; clear hJ a; intro a hJ
            refine wpList_nil ?_
            refine then_normal ?_
            refine c_false hJ (t := false) (by kernel_rfl) rfl ?_
            refine wp_seq ?_
            refine wp_region_lit ?_
            refine s_pure hJ 64 (.bool true) (by kernel_rfl) (fun _ => by kernel_rfl) ?_; clear hJ a; intro a hJ
            refine s_pure hJ 63 (.bool true) (by kernel_rfl) (fun _ => by kernel_rfl) ?_; clear hJ a; intro a hJ
            refine wpList_nil ?_
            refine then_normal ?_
            refine c_true hJ (t := true) (by kernel_rfl) rfl ?_
            refine wp_seq ?_
            refine wp_region_lit ?_
            refine s_pure hJ 65 (.pointer (some ⟨b16, 2, none⟩)) (by kernel_rfl) (fun _ => by kernel_rfl) ?_; clear hJ a; intro a hJ
            refine s_load hJ (t := 3) (x := (.tmp 65)) 66 (.int .i64 ((rawAt l n).b)) 0 (b := b16) (off := 2) (cs := [.int .i64 ((rawAt l n).k), .int .i64 ((rawAt l n).a), .int .i64 ((rawAt l n).b), .string ((rawAt l n).t)]) (by kernel_rfl) (by kernel_rfl) (by kernel_rfl) (by kernel_rfl) (by kernel_rfl) ?_; clear hJ a; intro a hJ
            refine s_call hJ 67 (pb7 _ rb0 rb1 (by omega) (by omega)) (by kernel_rfl) (fun _ => by kernel_rfl) ?_; clear hJ a w; rintro _ h177 a w s178 rfl hJ
            refine s_pure hJ 12 (.int .i64 5) (by kernel_rfl) (fun _ => by kernel_rfl) ?_; clear hJ a; intro a hJ
            refine wpList_nil ?_
            refine then_normal ?_
            refine wp_block ?_
            refine wp_seq ?_
            refine wp_region_lit ?_
            refine s_pure hJ 81 (.int .i64 5) (by kernel_rfl) (fun _ => by kernel_rfl) ?_; clear hJ a; intro a hJ
            refine s_pure hJ 82 (.bool false) (by kernel_rfl) (fun _ => by kernel_rfl) ?_; clear hJ a; intro a hJ
            refine s_pure hJ 80 (.bool false) (by kernel_rfl) (fun _ => by kernel_rfl) ?_; clear hJ a; intro a hJ
            refine wpList_nil ?_
            refine then_normal ?_
            refine c_false hJ (t := false) (by kernel_rfl) rfl ?_
            refine wp_seq ?_
            refine wp_region_lit ?_
            refine s_pure hJ 87 (.int .i64 5) (by kernel_rfl) (fun _ => by kernel_rfl) ?_; clear hJ a; intro a hJ
            refine s_pure hJ 88 (.bool false) (by kernel_rfl) (fun _ => by kernel_rfl) ?_; clear hJ a; intro a hJ
            refine s_pure hJ 86 (.bool false) (by kernel_rfl) (fun _ => by kernel_rfl) ?_; clear hJ a; intro a hJ
            refine wpList_nil ?_
            refine then_normal ?_
            refine c_false hJ (t := false) (by kernel_rfl) rfl ?_
            refine wp_seq ?_
            refine wp_region_lit ?_
            refine s_pure hJ 68 (.pointer (some ⟨b16, 1, none⟩)) (by kernel_rfl) (fun _ => by kernel_rfl) ?_; clear hJ a; intro a hJ
            refine s_load hJ (t := 3) (x := (.tmp 68)) 69 (.int .i64 ((rawAt l n).a)) 0 (b := b16) (off := 1) (cs := [.int .i64 ((rawAt l n).k), .int .i64 ((rawAt l n).a), .int .i64 ((rawAt l n).b), .string ((rawAt l n).t)]) (by kernel_rfl) (by kernel_rfl) (by kernel_rfl) (by kernel_rfl) (by kernel_rfl) ?_; clear hJ a; intro a hJ
            refine s_call hJ 70 (pa3 _ a0 a1 (by omega) (by omega)) (by kernel_rfl) (fun _ => by kernel_rfl) ?_; clear hJ a w; rintro _ h179 a w s180 rfl hJ
            refine s_pure hJ 71 (.int .i64 1) (by kernel_rfl) (fun _ => by kernel_rfl) ?_; clear hJ a; intro a hJ
            refine s_pure hJ 13 (.int .i64 1) (by kernel_rfl) (fun _ => by kernel_rfl) ?_; clear hJ a; intro a hJ
            refine wpList_nil ?_
            refine then_normal ?_
            refine wp_seq ?_
            refine wp_region_lit ?_
            refine s_pure hJ 72 (.func (.func 62) #[] #[.pointer (some ⟨b1, 0, none⟩), .pointer (some ⟨b5, 0, none⟩), .pointer (some ⟨b9, 0, none⟩)]) (by kernel_rfl) (fun _ => by kernel_rfl) ?_; clear hJ a; intro a hJ
            refine s_pure hJ 73 (.int .i64 5) (by kernel_rfl) (fun _ => by kernel_rfl) ?_; clear hJ a; intro a hJ
            refine s_pure hJ 74 (.int .i64 16) (by kernel_rfl) (fun _ => by kernel_rfl) ?_; clear hJ a; intro a hJ
            refine s_pure hJ 75 (.int .i64 13) (by kernel_rfl) (fun _ => by kernel_rfl) ?_; clear hJ a; intro a hJ
            refine s_pure hJ 76 (.int .i64 1) (by kernel_rfl) (fun _ => by kernel_rfl) ?_; clear hJ a; intro a hJ
            refine s_pure hJ 77 (.int .i64 1) (by kernel_rfl) (fun _ => by kernel_rfl) ?_; clear hJ a; intro a hJ
            refine s_fact hJ 78 (fun g => .slice (some ⟨g, 0, none⟩) 2 2) [.int .i64 1, .int .i64 1] 3 (by kernel_rfl) (fun _ => by kernel_rfl) ?_; clear hJ a w; intro b181 h182 a w s183 fk hJ
            refine s_call1 hJ 79 2 (many 13 [1, 1] _ _ _ _ _ _ _ (hr.sees (s3.trans (s7.trans (s11.trans (s15.trans (s18.trans (s22.trans (s178.trans (s180.trans (s183.trans hJ.sees)))))))))) (by omega) (by simp) (by simp <;> omega) (rs_ints [1, 1] (by unfold maxLen; simp) (fk.sees hJ.sees)) (hf.sees (hJ.lent hm)) (List.mem_append_right _ hg) (f4.sees (s7.trans (s11.trans (s15.trans (s18.trans (s22.trans (s178.trans (s180.trans (s183.trans hJ.sees))))))))) (f8.sees (s11.trans (s15.trans (s18.trans (s22.trans (s178.trans (s180.trans (s183.trans hJ.sees)))))))) (f12.sees (s15.trans (s18.trans (s22.trans (s178.trans (s180.trans (s183.trans hJ.sees)))))))) (by kernel_rfl) (by kernel_rfl) (fun _ => by kernel_rfl) ?_; clear hJ a w; rintro _ _ h184 a w s185 ⟨u, rfl, rfl, fu⟩ hJ
            refine s_store hJ (t := 38) (x := (.tmp 8)) (y := (.tmp 79)) 1 (.agg #[.int .i64 ((opE 13 (manyE (genE l fs d) [1, 1] (atNext l n)).1).op), .int .i64 ((opE 13 (manyE (genE l fs d) [1, 1] (atNext l n)).1).k), .int .i64 ((opE 13 (manyE (genE l fs d) [1, 1] (atNext l n)).1).n), .string ((opE 13 (manyE (genE l fs d) [1, 1] (atNext l n)).1).s), .string ((opE 13 (manyE (genE l fs d) [1, 1] (atNext l n)).1).nm), .slice (sA u) (sN u) (sC u)]) (b := b13) (off := 0) (cs := [.int .i64 0, .int .i64 0, .int .i64 0, .string ⟨#[]⟩, .string ⟨#[]⟩, .slice none 0 0]) [.int .i64 ((opE 13 (manyE (genE l fs d) [1, 1] (atNext l n)).1).op), .int .i64 ((opE 13 (manyE (genE l fs d) [1, 1] (atNext l n)).1).k), .int .i64 ((opE 13 (manyE (genE l fs d) [1, 1] (atNext l n)).1).n), .string ((opE 13 (manyE (genE l fs d) [1, 1] (atNext l n)).1).s), .string ((opE 13 (manyE (genE l fs d) [1, 1] (atNext l n)).1).nm), .slice (sA u) (sN u) (sC u)] (by kernel_rfl) (by kernel_rfl) (by kernel_rfl) (by kernel_rfl) (by kernel_rfl) (by kernel_rfl) (by kernel_rfl) ?_; clear hJ w; intro w hJ
            refine wpList_nil ?_
            refine then_normal ?_
            refine wp_ret ?_
            refine block_ret ?_
            refine block_ret ?_
            refine then_ret ?_
            refine (hQ [.agg #[.int .i64 ((opE 13 (manyE (genE l fs d) [1, 1] (atNext l n)).1).op), .int .i64 ((opE 13 (manyE (genE l fs d) [1, 1] (atNext l n)).1).k), .int .i64 ((opE 13 (manyE (genE l fs d) [1, 1] (atNext l n)).1).n), .string ((opE 13 (manyE (genE l fs d) [1, 1] (atNext l n)).1).s), .string ((opE 13 (manyE (genE l fs d) [1, 1] (atNext l n)).1).nm), .slice (sA u) (sN u) (sC u)]] [.box b16 [.int .i64 ((rawAt l n).k), .int .i64 ((rawAt l n).a), .int .i64 ((rawAt l n).b), .string ((rawAt l n).t)], .box b13 [.int .i64 ((opE 13 (manyE (genE l fs d) [1, 1] (atNext l n)).1).op), .int .i64 ((opE 13 (manyE (genE l fs d) [1, 1] (atNext l n)).1).k), .int .i64 ((opE 13 (manyE (genE l fs d) [1, 1] (atNext l n)).1).n), .string ((opE 13 (manyE (genE l fs d) [1, 1] (atNext l n)).1).s), .string ((opE 13 (manyE (genE l fs d) [1, 1] (atNext l n)).1).nm), .slice (sA u) (sN u) (sC u)]] [(g, [sl, .int .i64 (((manyE (genE l fs d) [1, 1] (atNext l n)).2 : Nat) : Int)])] hJ (.rcell hJ 1 (b := b13) (cs := [.int .i64 ((opE 13 (manyE (genE l fs d) [1, 1] (atNext l n)).1).op), .int .i64 ((opE 13 (manyE (genE l fs d) [1, 1] (atNext l n)).1).k), .int .i64 ((opE 13 (manyE (genE l fs d) [1, 1] (atNext l n)).1).n), .string ((opE 13 (manyE (genE l fs d) [1, 1] (atNext l n)).1).s), .string ((opE 13 (manyE (genE l fs d) [1, 1] (atNext l n)).1).nm), .slice (sA u) (sN u) (sC u)]) (by kernel_rfl) (by kernel_rfl) (by kernel_rfl) .nil) (by kernel_rfl) (by kernel_rfl) ?_).1
            exact expr_end (genE_with q3 (by unfold pickE; rw [if_neg q6, q7, q4]; rfl)) rfl rfl (fu.sees hJ.out)
          · skip
            rw [q4] at pa3
            refine c_false hJ (t := (pickL (rawAt l n).a 6) == 0) (by kernel_rfl) (beq_eq_false_iff_ne.2 q6) ?_
            refine wp_skip ?_
            refine then_normal ?_
            refine wp_seq ?_
            refine wp_seq ?_
            refine wp_region_lit ?_
            refine s_pure hJ 38 (.int .i64 2) (by kernel_rfl) (fun _ => by kernel_rfl) ?_; clear hJ a; intro a hJ
            refine wpList_nil ?_
            refine then_normal ?_
            refine wp_block ?_
            refine wp_seq ?_
            refine wp_region_lit ?_
            refine s_pure hJ 40 (.bool false) (by kernel_rfl) (fun _ => by kernel_rfl) ?_; clear hJ a; intro a hJ
            refine s_pure hJ 39 (.bool false) (by kernel_rfl) (fun _ => by kernel_rfl) ?_; clear hJ a; intro a hJ
            refine wpList_nil ?_
            refine then_normal ?_
            refine c_false hJ (t := false) (by kernel_rfl) rfl ?_
            refine wp_seq ?_
            refine wp_region_lit ?_
            refine s_pure hJ 64 (.bool true) (by kernel_rfl) (fun _ => by kernel_rfl) ?_; clear hJ a; intro a hJ
            refine s_pure hJ 63 (.bool true) (by kernel_rfl) (fun _ => by kernel_rfl) ?_; clear hJ a; intro a hJ
            refine wpList_nil ?_
            refine then_normal ?_
            refine c_true hJ (t := true) (by kernel_rfl) rfl ?_
            refine wp_seq ?_
            refine wp_region_lit ?_
            refine s_pure hJ 65 (.pointer (some ⟨b16, 2, none⟩)) (by kernel_rfl) (fun _ => by kernel_rfl) ?_; clear hJ a; intro a hJ
            refine s_load hJ (t := 3) (x := (.tmp 65)) 66 (.int .i64 ((rawAt l n).b)) 0 (b := b16) (off := 2) (cs := [.int .i64 ((rawAt l n).k), .int .i64 ((rawAt l n).a), .int .i64 ((rawAt l n).b), .string ((rawAt l n).t)]) (by kernel_rfl) (by kernel_rfl) (by kernel_rfl) (by kernel_rfl) (by kernel_rfl) ?_; clear hJ a; intro a hJ
            refine s_call hJ 67 (pb7 _ rb0 rb1 (by omega) (by omega)) (by kernel_rfl) (fun _ => by kernel_rfl) ?_; clear hJ a w; rintro _ h186 a w s187 rfl hJ
            refine s_pure hJ 12 (.int .i64 5) (by kernel_rfl) (fun _ => by kernel_rfl) ?_; clear hJ a; intro a hJ
            refine wpList_nil ?_
            refine then_normal ?_
            refine wp_block ?_
            refine wp_seq ?_
            refine wp_region_lit ?_
            refine s_pure hJ 81 (.int .i64 5) (by kernel_rfl) (fun _ => by kernel_rfl) ?_; clear hJ a; intro a hJ
            refine s_pure hJ 82 (.bool false) (by kernel_rfl) (fun _ => by kernel_rfl) ?_; clear hJ a; intro a hJ
            refine s_pure hJ 80 (.bool false) (by kernel_rfl) (fun _ => by kernel_rfl) ?_; clear hJ a; intro a hJ
            refine wpList_nil ?_
            refine then_normal ?_
            refine c_false hJ (t := false) (by kernel_rfl) rfl ?_
            refine wp_seq ?_
            refine wp_region_lit ?_
            refine s_pure hJ 87 (.int .i64 5) (by kernel_rfl) (fun _ => by kernel_rfl) ?_; clear hJ a; intro a hJ
            refine s_pure hJ 88 (.bool false) (by kernel_rfl) (fun _ => by kernel_rfl) ?_; clear hJ a; intro a hJ
            refine s_pure hJ 86 (.bool false) (by kernel_rfl) (fun _ => by kernel_rfl) ?_; clear hJ a; intro a hJ
            refine wpList_nil ?_
            refine then_normal ?_
            refine c_false hJ (t := false) (by kernel_rfl) rfl ?_
            refine wp_seq ?_
            refine wp_region_lit ?_
            refine s_pure hJ 68 (.pointer (some ⟨b16, 1, none⟩)) (by kernel_rfl) (fun _ => by kernel_rfl) ?_; clear hJ a; intro a hJ
            refine s_load hJ (t := 3) (x := (.tmp 68)) 69 (.int .i64 ((rawAt l n).a)) 0 (b := b16) (off := 1) (cs := [.int .i64 ((rawAt l n).k), .int .i64 ((rawAt l n).a), .int .i64 ((rawAt l n).b), .string ((rawAt l n).t)]) (by kernel_rfl) (by kernel_rfl) (by kernel_rfl) (by kernel_rfl) (by kernel_rfl) ?_; clear hJ a; intro a hJ
            refine s_call hJ 70 (pa3 _ a0 a1 (by omega) (by omega)) (by kernel_rfl) (fun _ => by kernel_rfl) ?_; clear hJ a w; rintro _ h188 a w s189 rfl hJ
            refine s_pure hJ 71 (.int .i64 2) (by kernel_rfl) (fun _ => by kernel_rfl) ?_; clear hJ a; intro a hJ
            refine s_pure hJ 13 (.int .i64 2) (by kernel_rfl) (fun _ => by kernel_rfl) ?_; clear hJ a; intro a hJ
            refine wpList_nil ?_
            refine then_normal ?_
            refine wp_seq ?_
            refine wp_region_lit ?_
            refine s_pure hJ 72 (.func (.func 62) #[] #[.pointer (some ⟨b1, 0, none⟩), .pointer (some ⟨b5, 0, none⟩), .pointer (some ⟨b9, 0, none⟩)]) (by kernel_rfl) (fun _ => by kernel_rfl) ?_; clear hJ a; intro a hJ
            refine s_pure hJ 73 (.int .i64 5) (by kernel_rfl) (fun _ => by kernel_rfl) ?_; clear hJ a; intro a hJ
            refine s_pure hJ 74 (.int .i64 16) (by kernel_rfl) (fun _ => by kernel_rfl) ?_; clear hJ a; intro a hJ
            refine s_pure hJ 75 (.int .i64 13) (by kernel_rfl) (fun _ => by kernel_rfl) ?_; clear hJ a; intro a hJ
            refine s_pure hJ 76 (.int .i64 2) (by kernel_rfl) (fun _ => by kernel_rfl) ?_; clear hJ a; intro a hJ
            refine s_pure hJ 77 (.int .i64 2) (by kernel_rfl) (fun _ => by kernel_rfl) ?_; clear hJ a; intro a hJ
            refine s_fact hJ 78 (fun g => .slice (some ⟨g, 0, none⟩) 2 2) [.int .i64 2, .int .i64 2] 3 (by kernel_rfl) (fun _ => by kernel_rfl) ?_; clear hJ a w; intro b190 h191 a w s192 fk hJ
            refine s_call1 hJ 79 2 (many 13 [2, 2] _ _ _ _ _ _ _ (hr.sees (s3.trans (s7.trans (s11.trans (s15.trans (s18.trans (s22.trans (s187.trans (s189.trans (s192.trans hJ.sees)))))))))) (by omega) (by simp) (by simp <;> omega) (rs_ints [2, 2] (by unfold maxLen; simp) (fk.sees hJ.sees)) (hf.sees (hJ.lent hm)) (List.mem_append_right _ hg) (f4.sees (s7.trans (s11.trans (s15.trans (s18.trans (s22.trans (s187.trans (s189.trans (s192.trans hJ.sees))))))))) (f8.sees (s11.trans (s15.trans (s18.trans (s22.trans (s187.trans (s189.trans (s192.trans hJ.sees)))))))) (f12.sees (s15.trans (s18.trans (s22.trans (s187.trans (s189.trans (s192.trans hJ.sees)))))))) (by kernel_rfl) (by kernel_rfl) (fun _ => by kernel_rfl) ?_; clear hJ a w; rintro _ _ h193 a w s194 ⟨u, rfl, rfl, fu⟩ hJ
            refine s_store hJ (t := 38) (x := (.tmp 8)) (y := (.tmp 79)) 1 (.agg #[.int .i64 ((opE 13 (manyE (genE l fs d) [2, 2] (atNext l n)).1).op), .int .i64 ((opE 13 (manyE (genE l fs d) [2, 2] (atNext l n)).1).k), .int .i64 ((opE 13 (manyE (genE l fs d) [2, 2] (atNext l n)).1).n), .string ((opE 13 (manyE (genE l fs d) [2, 2] (atNext l n)).1).s), .string ((opE 13 (manyE (genE l fs d) [2, 2] (atNext l n)).1).nm), .slice (sA u) (sN u) (sC u)]) (b := b13) (off := 0) (cs := [.int .i64 0, .int .i64 0, .int .i64 0, .string ⟨#[]⟩, .string ⟨#[]⟩, .slice none 0 0]) [.int .i64 ((opE 13 (manyE (genE l fs d) [2, 2] (atNext l n)).1).op), .int .i64 ((opE 13 (manyE (genE l fs d) [2, 2] (atNext l n)).1).k), .int .i64 ((opE 13 (manyE (genE l fs d) [2, 2] (atNext l n)).1).n), .string ((opE 13 (manyE (genE l fs d) [2, 2] (atNext l n)).1).s), .string ((opE 13 (manyE (genE l fs d) [2, 2] (atNext l n)).1).nm), .slice (sA u) (sN u) (sC u)] (by kernel_rfl) (by kernel_rfl) (by kernel_rfl) (by kernel_rfl) (by kernel_rfl) (by kernel_rfl) (by kernel_rfl) ?_; clear hJ w; intro w hJ
            refine wpList_nil ?_
            refine then_normal ?_
            refine wp_ret ?_
            refine block_ret ?_
            refine block_ret ?_
            refine then_ret ?_
            refine (hQ [.agg #[.int .i64 ((opE 13 (manyE (genE l fs d) [2, 2] (atNext l n)).1).op), .int .i64 ((opE 13 (manyE (genE l fs d) [2, 2] (atNext l n)).1).k), .int .i64 ((opE 13 (manyE (genE l fs d) [2, 2] (atNext l n)).1).n), .string ((opE 13 (manyE (genE l fs d) [2, 2] (atNext l n)).1).s), .string ((opE 13 (manyE (genE l fs d) [2, 2] (atNext l n)).1).nm), .slice (sA u) (sN u) (sC u)]] [.box b16 [.int .i64 ((rawAt l n).k), .int .i64 ((rawAt l n).a), .int .i64 ((rawAt l n).b), .string ((rawAt l n).t)], .box b13 [.int .i64 ((opE 13 (manyE (genE l fs d) [2, 2] (atNext l n)).1).op), .int .i64 ((opE 13 (manyE (genE l fs d) [2, 2] (atNext l n)).1).k), .int .i64 ((opE 13 (manyE (genE l fs d) [2, 2] (atNext l n)).1).n), .string ((opE 13 (manyE (genE l fs d) [2, 2] (atNext l n)).1).s), .string ((opE 13 (manyE (genE l fs d) [2, 2] (atNext l n)).1).nm), .slice (sA u) (sN u) (sC u)]] [(g, [sl, .int .i64 (((manyE (genE l fs d) [2, 2] (atNext l n)).2 : Nat) : Int)])] hJ (.rcell hJ 1 (b := b13) (cs := [.int .i64 ((opE 13 (manyE (genE l fs d) [2, 2] (atNext l n)).1).op), .int .i64 ((opE 13 (manyE (genE l fs d) [2, 2] (atNext l n)).1).k), .int .i64 ((opE 13 (manyE (genE l fs d) [2, 2] (atNext l n)).1).n), .string ((opE 13 (manyE (genE l fs d) [2, 2] (atNext l n)).1).s), .string ((opE 13 (manyE (genE l fs d) [2, 2] (atNext l n)).1).nm), .slice (sA u) (sN u) (sC u)]) (by kernel_rfl) (by kernel_rfl) (by kernel_rfl) .nil) (by kernel_rfl) (by kernel_rfl) ?_).1
            exact expr_end (genE_with q3 (by unfold pickE; rw [if_neg q6, q7, q4]; rfl)) rfl rfl (fu.sees hJ.out)
          · skip
            rw [q4] at pa3
            refine c_false hJ (t := (pickL (rawAt l n).a 6) == 0) (by kernel_rfl) (beq_eq_false_iff_ne.2 q6) ?_
            refine wp_skip ?_
            refine then_normal ?_
            refine wp_seq ?_
            refine wp_seq ?_
            refine wp_region_lit ?_
            refine s_pure hJ 38 (.int .i64 2) (by kernel_rfl) (fun _ => by kernel_rfl) ?_; clear hJ a; intro a hJ
            refine wpList_nil ?_
            refine then_normal ?_
            refine wp_block ?_
            refine wp_seq ?_
            refine wp_region_lit ?_
            refine s_pure hJ 40 (.bool false) (by kernel_rfl) (fun _ => by kernel_rfl) ?_; clear hJ a; intro a hJ
            refine s_pure hJ 39 (.bool false) (by kernel_rfl) (fun _ => by kernel_rfl) ?_; clear hJ a; intro a hJ
            refine wpList_nil ?_
            refine then_normal ?_
            refine c_false hJ (t := false) (by kernel_rfl) rfl ?_
            refine wp_seq ?_
            refine wp_region_lit ?_
            refine s_pure hJ 64 (.bool true) (by kernel_rfl) (fun _ => by kernel_rfl) ?_; clear hJ a; intro a hJ
            refine s_pure hJ 63 (.bool true) (by kernel_rfl) (fun _ => by kernel_rfl) ?_; clear hJ a; intro a hJ
            refine wpList_nil ?_
            refine then_normal ?_
            refine c_true hJ (t := true) (by kernel_rfl) rfl ?_
            refine wp_seq ?_
            refine wp_region_lit ?_
            refine s_pure hJ 65 (.pointer (some ⟨b16, 2, none⟩)) (by kernel_rfl) (fun _ => by kernel_rfl) ?_; clear hJ a; intro a hJ
            refine s_load hJ (t := 3) (x := (.tmp 65)) 66 (.int .i64 ((rawAt l n).b)) 0 (b := b16) (off := 2) (cs := [.int .i64 ((rawAt l n).k), .int .i64 ((rawAt l n).a), .int .i64 ((rawAt l n).b), .string ((rawAt l n).t)]) (by kernel_rfl) (by kernel_rfl) (by kernel_rfl) (by kernel_rfl) (by kernel_rfl) ?_; clear hJ a; intro a hJ
            refine s_call hJ 67 (pb7 _ rb0 rb1 (by omega) (by omega)) (by kernel_rfl) (fun _ => by kernel_rfl) ?_; clear hJ a w; rintro _ h195 a w s196 rfl hJ
            refine s_pure hJ 12 (.int .i64 5) (by kernel_rfl) (fun _ => by kernel_rfl) ?_; clear hJ a; intro a hJ
            refine wpList_nil ?_
            refine then_normal ?_
            refine wp_block ?_
            refine wp_seq ?_
            refine wp_region_lit ?_
            refine s_pure hJ 81 (.int .i64 5) (by kernel_rfl) (fun _ => by kernel_rfl) ?_; clear hJ a; intro a hJ
            refine s_pure hJ 82 (.bool false) (by kernel_rfl) (fun _ => by kernel_rfl) ?_; clear hJ a; intro a hJ
            refine s_pure hJ 80 (.bool false) (by kernel_rfl) (fun _ => by kernel_rfl) ?_; clear hJ a; intro a hJ
            refine wpList_nil ?_
            refine then_normal ?_
            refine c_false hJ (t := false) (by kernel_rfl) rfl ?_
            refine wp_seq ?_
            refine wp_region_lit ?_
            refine s_pure hJ 87 (.int .i64 5) (by kernel_rfl) (fun _ => by kernel_rfl) ?_; clear hJ a; intro a hJ
            refine s_pure hJ 88 (.bool false) (by kernel_rfl) (fun _ => by kernel_rfl) ?_; clear hJ a; intro a hJ
            refine s_pure hJ 86 (.bool false) (by kernel_rfl) (fun _ => by kernel_rfl) ?_; clear hJ a; intro a hJ
            refine wpList_nil ?_
            refine then_normal ?_
            refine c_false hJ (t := false) (by kernel_rfl) rfl ?_
            refine wp_seq ?_
            refine wp_region_lit ?_
            refine s_pure hJ 68 (.pointer (some ⟨b16, 1, none⟩)) (by kernel_rfl) (fun _ => by kernel_rfl) ?_; clear hJ a; intro a hJ
            refine s_load hJ (t := 3) (x := (.tmp 68)) 69 (.int .i64 ((rawAt l n).a)) 0 (b := b16) (off := 1) (cs := [.int .i64 ((rawAt l n).k), .int .i64 ((rawAt l n).a), .int .i64 ((rawAt l n).b), .string ((rawAt l n).t)]) (by kernel_rfl) (by kernel_rfl) (by kernel_rfl) (by kernel_rfl) (by kernel_rfl) ?_; clear hJ a; intro a hJ
            refine s_call hJ 70 (pa3 _ a0 a1 (by omega) (by omega)) (by kernel_rfl) (fun _ => by kernel_rfl) ?_; clear hJ a w; rintro _ h197 a w s198 rfl hJ
            refine s_pure hJ 71 (.int .i64 3) (by kernel_rfl) (fun _ => by kernel_rfl) ?_; clear hJ a; intro a hJ
            refine s_pure hJ 13 (.int .i64 3) (by kernel_rfl) (fun _ => by kernel_rfl) ?_; clear hJ a; intro a hJ
            refine wpList_nil ?_
            refine then_normal ?_
            refine wp_seq ?_
            refine wp_region_lit ?_
            refine s_pure hJ 72 (.func (.func 62) #[] #[.pointer (some ⟨b1, 0, none⟩), .pointer (some ⟨b5, 0, none⟩), .pointer (some ⟨b9, 0, none⟩)]) (by kernel_rfl) (fun _ => by kernel_rfl) ?_; clear hJ a; intro a hJ
            refine s_pure hJ 73 (.int .i64 5) (by kernel_rfl) (fun _ => by kernel_rfl) ?_; clear hJ a; intro a hJ
            refine s_pure hJ 74 (.int .i64 16) (by kernel_rfl) (fun _ => by kernel_rfl) ?_; clear hJ a; intro a hJ
            refine s_pure hJ 75 (.int .i64 13) (by kernel_rfl) (fun _ => by kernel_rfl) ?_; clear hJ a; intro a hJ
            refine s_pure hJ 76 (.int .i64 3) (by kernel_rfl) (fun _ => by kernel_rfl) ?_; clear hJ a; intro a hJ
            refine s_pure hJ 77 (.int .i64 3) (by kernel_rfl) (fun _ => by kernel_rfl) ?_; clear hJ a; intro a hJ
            refine s_fact hJ 78 (fun g => .slice (some ⟨g, 0, none⟩) 2 2) [.int .i64 3, .int .i64 3] 3 (by kernel_rfl) (fun _ => by kernel_rfl) ?_; clear hJ a w; intro b199 h200 a w s201 fk hJ
            refine s_call1 hJ 79 2 (many 13 [3, 3] _ _ _ _ _ _ _ (hr.sees (s3.trans (s7.trans (s11.trans (s15.trans (s18.trans (s22.trans (s196.trans (s198.trans (s201.trans hJ.sees)))))))))) (by omega) (by simp) (by simp <;> omega) (rs_ints [3, 3] (by unfold maxLen; simp) (fk.sees hJ.sees)) (hf.sees (hJ.lent hm)) (List.mem_append_right _ hg) (f4.sees (s7.trans (s11.trans (s15.trans (s18.trans (s22.trans (s196.trans (s198.trans (s201.trans hJ.sees))))))))) (f8.sees (s11.trans (s15.trans (s18.trans (s22.trans (s196.trans (s198.trans (s201.trans hJ.sees)))))))) (f12.sees (s15.trans (s18.trans (s22.trans (s196.trans (s198.trans (s201.trans hJ.sees)))))))) (by kernel_rfl) (by kernel_rfl) (fun _ => by kernel_rfl) ?_; clear hJ a w; rintro _ _ h202 a w s203 ⟨u, rfl, rfl, fu⟩ hJ
            refine s_store hJ (t := 38) (x := (.tmp 8)) (y := (.tmp 79)) 1 (.agg #[.int .i64 ((opE 13 (manyE (genE l fs d) [3, 3] (atNext l n)).1).op), .int .i64 ((opE 13 (manyE (genE l fs d) [3, 3] (atNext l n)).1).k), .int .i64 ((opE 13 (manyE (genE l fs d) [3, 3] (atNext l n)).1).n), .string ((opE 13 (manyE (genE l fs d) [3, 3] (atNext l n)).1).s), .string ((opE 13 (manyE (genE l fs d) [3, 3] (atNext l n)).1).nm), .slice (sA u) (sN u) (sC u)]) (b := b13) (off := 0) (cs := [.int .i64 0, .int .i64 0, .int .i64 0, .string ⟨#[]⟩, .string ⟨#[]⟩, .slice none 0 0]) [.int .i64 ((opE 13 (manyE (genE l fs d) [3, 3] (atNext l n)).1).op), .int .i64 ((opE 13 (manyE (genE l fs d) [3, 3] (atNext l n)).1).k), .int .i64 ((opE 13 (manyE (genE l fs d) [3, 3] (atNext l n)).1).n), .string ((opE 13 (manyE (genE l fs d) [3, 3] (atNext l n)).1).s), .string ((opE 13 (manyE (genE l fs d) [3, 3] (atNext l n)).1).nm), .slice (sA u) (sN u) (sC u)] (by kernel_rfl) (by kernel_rfl) (by kernel_rfl) (by kernel_rfl) (by kernel_rfl) (by kernel_rfl) (by kernel_rfl) ?_; clear hJ w; intro w hJ
            refine wpList_nil ?_
            refine then_normal ?_
            refine wp_ret ?_
            refine block_ret ?_
            refine block_ret ?_
            refine then_ret ?_
            refine (hQ [.agg #[.int .i64 ((opE 13 (manyE (genE l fs d) [3, 3] (atNext l n)).1).op), .int .i64 ((opE 13 (manyE (genE l fs d) [3, 3] (atNext l n)).1).k), .int .i64 ((opE 13 (manyE (genE l fs d) [3, 3] (atNext l n)).1).n), .string ((opE 13 (manyE (genE l fs d) [3, 3] (atNext l n)).1).s), .string ((opE 13 (manyE (genE l fs d) [3, 3] (atNext l n)).1).nm), .slice (sA u) (sN u) (sC u)]] [.box b16 [.int .i64 ((rawAt l n).k), .int .i64 ((rawAt l n).a), .int .i64 ((rawAt l n).b), .string ((rawAt l n).t)], .box b13 [.int .i64 ((opE 13 (manyE (genE l fs d) [3, 3] (atNext l n)).1).op), .int .i64 ((opE 13 (manyE (genE l fs d) [3, 3] (atNext l n)).1).k), .int .i64 ((opE 13 (manyE (genE l fs d) [3, 3] (atNext l n)).1).n), .string ((opE 13 (manyE (genE l fs d) [3, 3] (atNext l n)).1).s), .string ((opE 13 (manyE (genE l fs d) [3, 3] (atNext l n)).1).nm), .slice (sA u) (sN u) (sC u)]] [(g, [sl, .int .i64 (((manyE (genE l fs d) [3, 3] (atNext l n)).2 : Nat) : Int)])] hJ (.rcell hJ 1 (b := b13) (cs := [.int .i64 ((opE 13 (manyE (genE l fs d) [3, 3] (atNext l n)).1).op), .int .i64 ((opE 13 (manyE (genE l fs d) [3, 3] (atNext l n)).1).k), .int .i64 ((opE 13 (manyE (genE l fs d) [3, 3] (atNext l n)).1).n), .string ((opE 13 (manyE (genE l fs d) [3, 3] (atNext l n)).1).s), .string ((opE 13 (manyE (genE l fs d) [3, 3] (atNext l n)).1).nm), .slice (sA u) (sN u) (sC u)]) (by kernel_rfl) (by kernel_rfl) (by kernel_rfl) .nil) (by kernel_rfl) (by kernel_rfl) ?_).1
            exact expr_end (genE_with q3 (by unfold pickE; rw [if_neg q6, q7, q4]; rfl)) rfl rfl (fu.sees hJ.out)
        · skip
          rw [q7] at pb7
          obtain q4 | q4 | q4 : pickL (rawAt l n).a 3 = 0 ∨ pickL (rawAt l n).a 3 = 1 ∨ pickL (rawAt l n).a 3 = 2 := by omega
          · skip
            rw [q4] at pa3
            refine c_false hJ (t := (pickL (rawAt l n).a 6) == 0) (by kernel_rfl) (beq_eq_false_iff_ne.2 q6) ?_
            refine wp_skip ?_
            refine then_normal ?_
            refine wp_seq ?_
            refine wp_seq ?_
            refine wp_region_lit ?_
            refine s_pure hJ 38 (.int .i64 2) (by kernel_rfl) (fun _ => by kernel_rfl) ?_; clear hJ a; intro a hJ
            refine wpList_nil ?_
            refine then_normal ?_
            refine wp_block ?_
            refine wp_seq ?_
            refine wp_region_lit ?_
            refine s_pure hJ 40 (.bool false) (by kernel_rfl) (fun _ => by kernel_rfl) ?_; clear hJ a; intro a hJ
            refine s_pure hJ 39 (.bool false) (by kernel_rfl) (fun _ => by kernel_rfl) ?_; clear hJ a; intro a hJ
            refine wpList_nil ?_
            refine then_normal ?_
            refine c_false hJ (t := false) (by kernel_rfl) rfl ?_
            refine wp_seq ?_
            refine wp_region_lit ?_
            refine s_pure hJ 64 (.bool true) (by kernel_rfl) (fun _ => by kernel_rfl) ?_; clear hJ a; intro a hJ
            refine s_pure hJ 63 (.bool true) (by kernel_rfl) (fun _ => by kernel_rfl) ?_; clear hJ a; intro a hJ
            refine wpList_nil ?_
            refine then_normal ?_
            refine c_true hJ (t := true) (by kernel_rfl) rfl ?_
            refine wp_seq ?_
            refine wp_region_lit ?_
            refine s_pure hJ 65 (.pointer (some ⟨b16, 2, none⟩)) (by kernel_rfl) (fun _ => by kernel_rfl) ?_; clear hJ a; intro a hJ
            refine s_load hJ (t := 3) (x := (.tmp 65)) 66 (.int .i64 ((rawAt l n).b)) 0 (b := b16) (off := 2) (cs := [.int .i64 ((rawAt l n).k), .int .i64 ((rawAt l n).a), .int .i64 ((rawAt l n).b), .string ((rawAt l n).t)]) (by kernel_rfl) (by kernel_rfl) (by kernel_rfl) (by kernel_rfl) (by kernel_rfl) ?_; clear hJ a; intro a hJ
            refine s_call hJ 67 (pb7 _ rb0 rb1 (by omega) (by omega)) (by kernel_rfl) (fun _ => by kernel_rfl) ?_; clear hJ a w; rintro _ h204 a w s205 rfl hJ
            refine s_pure hJ 12 (.int .i64 6) (by kernel_rfl) (fun _ => by kernel_rfl) ?_; clear hJ a; intro a hJ
            refine wpList_nil ?_
            refine then_normal ?_
            refine wp_block ?_
            refine wp_seq ?_
            refine wp_region_lit ?_
            refine s_pure hJ 81 (.int .i64 6) (by kernel_rfl) (fun _ => by kernel_rfl) ?_; clear hJ a; intro a hJ
            refine s_pure hJ 82 (.bool false) (by kernel_rfl) (fun _ => by kernel_rfl) ?_; clear hJ a; intro a hJ
            refine s_pure hJ 80 (.bool false) (by kernel_rfl) (fun _ => by kernel_rfl) ?_; clear hJ a; intro a hJ
            refine wpList_nil ?_
            refine then_normal ?_
            refine c_false hJ (t := false) (by kernel_rfl) rfl ?_
            refine wp_seq ?_
            refine wp_region_lit ?_
            refine s_pure hJ 87 (.int .i64 6) (by kernel_rfl) (fun _ => by kernel_rfl) ?_; clear hJ a; intro a hJ
            refine s_pure hJ 88 (.bool false) (by kernel_rfl) (fun _ => by kernel_rfl) ?_; clear hJ a; intro a hJ
            refine s_pure hJ 86 (.bool false) (by kernel_rfl) (fun _ => by kernel_rfl) ?_; clear hJ a; intro a hJ
            refine wpList_nil ?_
            refine then_normal ?_
            refine c_false hJ (t := false) (by kernel_rfl) rfl ?_
            refine wp_seq ?_
            refine wp_region_lit ?_
            refine s_pure hJ 68 (.pointer (some ⟨b16, 1, none⟩)) (by kernel_rfl) (fun _ => by kernel_rfl) ?_; clear hJ a; intro a hJ
            refine s_load hJ (t := 3) (x := (.tmp 68)) 69 (.int .i64 ((rawAt l n).a)) 0 (b := b16) (off := 1) (cs := [.int .i64 ((rawAt l n).k), .int .i64 ((rawAt l n).a), .int .i64 ((rawAt l n).b), .string ((rawAt l n).t)]) (by kernel_rfl) (by kernel_rfl) (by kernel_rfl) (by kernel_rfl) (by kernel_rfl) ?_; clear hJ a; intro a hJ
            refine s_call hJ 70 (pa3 _ a0 a1 (by omega) (by omega)) (by kernel_rfl) (fun _ => by kernel_rfl) ?_; clear hJ a w; rintro _ h206 a w s207 rfl hJ
            refine s_pure hJ 71 (.int .i64 1) (by kernel_rfl) (fun _ => by kernel_rfl) ?_; clear hJ a; intro a hJ
            refine s_pure hJ 13 (.int .i64 1) (by kernel_rfl) (fun _ => by kernel_rfl) ?_; clear hJ a; intro a hJ
            refine wpList_nil ?_
            refine then_normal ?_
            refine wp_seq ?_
            refine wp_region_lit ?_
            refine s_pure hJ 72 (.func (.func 62) #[] #[.pointer (some ⟨b1, 0, none⟩), .pointer (some ⟨b5, 0, none⟩), .pointer (some ⟨b9, 0, none⟩)]) (by kernel_rfl) (fun _ => by kernel_rfl) ?_; clear hJ a; intro a hJ
            refine s_pure hJ 73 (.int .i64 6) (by kernel_rfl) (fun _ => by kernel_rfl) ?_; clear hJ a; intro a hJ
            refine s_pure hJ 74 (.int .i64 17) (by kernel_rfl) (fun _ => by kernel_rfl) ?_; clear hJ a; intro a hJ
            refine s_pure hJ 75 (.int .i64 14) (by kernel_rfl) (fun _ => by kernel_rfl) ?_; clear hJ a; intro a hJ
            refine s_pure hJ 76 (.int .i64 1) (by kernel_rfl) (fun _ => by kernel_rfl) ?_; clear hJ a; intro a hJ
            refine s_pure hJ 77 (.int .i64 1) (by kernel_rfl) (fun _ => by kernel_rfl) ?_; clear hJ a; intro a hJ
            refine s_fact hJ 78 (fun g => .slice (some ⟨g, 0, none⟩) 2 2) [.int .i64 1, .int .i64 1] 3 (by kernel_rfl) (fun _ => by kernel_rfl) ?_; clear hJ a w; intro b208 h209 a w s210 fk hJ
            refine s_call1 hJ 79 2 (many 14 [1, 1] _ _ _ _ _ _ _ (hr.sees (s3.trans (s7.trans (s11.trans (s15.trans (s18.trans (s22.trans (s205.trans (s207.trans (s210.trans hJ.sees)))))))))) (by omega) (by simp) (by simp <;> omega) (rs_ints [1, 1] (by unfold maxLen; simp) (fk.sees hJ.sees)) (hf.sees (hJ.lent hm)) (List.mem_append_right _ hg) (f4.sees (s7.trans (s11.trans (s15.trans (s18.trans (s22.trans (s205.trans (s207.trans (s210.trans hJ.sees))))))))) (f8.sees (s11.trans (s15.trans (s18.trans (s22.trans (s205.trans (s207.trans (s210.trans hJ.sees)))))))) (f12.sees (s15.trans (s18.trans (s22.trans (s205.trans (s207.trans (s210.trans hJ.sees)))))))) (by kernel_rfl) (by kernel_rfl) (fun _ => by kernel_rfl) ?_; clear hJ a w; rintro _ _ h211 a w s212 ⟨u, rfl, rfl, fu⟩ hJ
            refine s_store hJ (t := 38) (x := (.tmp 8)) (y := (.tmp 79)) 1 (.agg #[.int .i64 ((opE 14 (manyE (genE l fs d) [1, 1] (atNext l n)).1).op), .int .i64 ((opE 14 (manyE (genE l fs d) [1, 1] (atNext l n)).1).k), .int .i64 ((opE 14 (manyE (genE l fs d) [1, 1] (atNext l n)).1).n), .string ((opE 14 (manyE (genE l fs d) [1, 1] (atNext l n)).1).s), .string ((opE 14 (manyE (genE l fs d) [1, 1] (atNext l n)).1).nm), .slice (sA u) (sN u) (sC u)]) (b := b13) (off := 0) (cs := [.int .i64 0, .int .i64 0, .int .i64 0, .string ⟨#[]⟩, .string ⟨#[]⟩, .slice none 0 0]) [.int .i64 ((opE 14 (manyE (genE l fs d) [1, 1] (atNext l n)).1).op), .int .i64 ((opE 14 (manyE (genE l fs d) [1, 1] (atNext l n)).1).k), .int .i64 ((opE 14 (manyE (genE l fs d) [1, 1] (atNext l n)).1).n), .string ((opE 14 (manyE (genE l fs d) [1, 1] (atNext l n)).1).s), .string ((opE 14 (manyE (genE l fs d) [1, 1] (atNext l n)).1).nm), .slice (sA u) (sN u) (sC u)] (by kernel_rfl) (by kernel_rfl) (by kernel_rfl) (by kernel_rfl) (by kernel_rfl) (by kernel_rfl) (by kernel_rfl) ?_; clear hJ w; intro w hJ
            refine wpList_nil ?_
            refine then_normal ?_
            refine wp_ret ?_
            refine block_ret ?_
            refine block_ret ?_
            refine then_ret ?_
            refine (hQ [.agg #[.int .i64 ((opE 14 (manyE (genE l fs d) [1, 1] (atNext l n)).1).op), .int .i64 ((opE 14 (manyE (genE l fs d) [1, 1] (atNext l n)).1).k), .int .i64 ((opE 14 (manyE (genE l fs d) [1, 1] (atNext l n)).1).n), .string ((opE 14 (manyE (genE l fs d) [1, 1] (atNext l n)).1).s), .string ((opE 14 (manyE (genE l fs d) [1, 1] (atNext l n)).1).nm), .slice (sA u) (sN u) (sC u)]] [.box b16 [.int .i64 ((rawAt l n).k), .int .i64 ((rawAt l n).a), .int .i64 ((rawAt l n).b), .string ((rawAt l n).t)], .box b13 [.int .i64 ((opE 14 (manyE (genE l fs d) [1, 1] (atNext l n)).1).op), .int .i64 ((opE 14 (manyE (genE l fs d) [1, 1] (atNext l n)).1).k), .int .i64 ((opE 14 (manyE (genE l fs d) [1, 1] (atNext l n)).1).n), .string ((opE 14 (manyE (genE l fs d) [1, 1] (atNext l n)).1).s), .string ((opE 14 (manyE (genE l fs d) [1, 1] (atNext l n)).1).nm), .slice (sA u) (sN u) (sC u)]] [(g, [sl, .int .i64 (((manyE (genE l fs d) [1, 1] (atNext l n)).2 : Nat) : Int)])] hJ (.rcell hJ 1 (b := b13) (cs := [.int .i64 ((opE 14 (manyE (genE l fs d) [1, 1] (atNext l n)).1).op), .int .i64 ((opE 14 (manyE (genE l fs d) [1, 1] (atNext l n)).1).k), .int .i64 ((opE 14 (manyE (genE l fs d) [1, 1] (atNext l n)).1).n), .string ((opE 14 (manyE (genE l fs d) [1, 1] (atNext l n)).1).s), .string ((opE 14 (manyE (genE l fs d) [1, 1] (atNext l n)).1).nm), .slice (sA u) (sN u) (sC u)]) (by kernel_rfl) (by kernel_rfl) (by kernel_rfl) .nil) (by kernel_rfl) (by kernel_rfl) ?_).1
            exact expr_end (genE_with q3 (by unfold pickE; rw [if_neg q6, q7, q4]; rfl)) rfl rfl (fu.sees hJ.out)
          · skip
            rw [q4] at pa3
            refine c_false hJ (t := (pickL (rawAt l n).a 6) == 0) (by kernel_rfl) (beq_eq_false_iff_ne.2 q6) ?_
            refine wp_skip ?_
            refine then_normal ?_
            refine wp_seq ?_
            refine wp_seq ?_
            refine wp_region_lit ?_
            refine s_pure hJ 38 (.int .i64 2) (by kernel_rfl) (fun _ => by kernel_rfl) ?_; clear hJ a; intro a hJ
            refine wpList_nil ?_
            refine then_normal ?_
            refine wp_block ?_
            refine wp_seq ?_
            refine wp_region_lit ?_
            refine s_pure hJ 40 (.bool false) (by kernel_rfl) (fun _ => by kernel_rfl) ?_; clear hJ a; intro a hJ
            refine s_pure hJ 39 (.bool false) (by kernel_rfl) (fun _ => by kernel_rfl) ?_; clear hJ a; intro a hJ
            refine wpList_nil ?_
            refine then_normal ?_
            refine c_false hJ (t := false) (by kernel_rfl) rfl ?_
            refine wp_seq ?_
            refine wp_region_lit ?_
            refine s_pure hJ 64 (.bool true) (by kernel_rfl) (fun _ => by kernel_rfl) ?_; clear hJ a; intro a hJ
            refine s_pure hJ 63 (.bool true) (by kernel_rfl) (fun _ => by kernel_rfl) ?_; clear hJ a; intro a hJ
            refine wpList_nil ?_
            refine then_normal ?_
            refine c_true hJ (t := true) (by kernel_rfl) rfl ?_
            refine wp_seq ?_
            refine wp_region_lit ?_
            refine s_pure hJ 65 (.pointer (some ⟨b16, 2, none⟩)) (by kernel_rfl) (fun _ => by kernel_rfl) ?_; clear hJ a; intro a hJ
            refine s_load hJ (t := 3) (x := (.tmp 65)) 66 (.int .i64 ((rawAt l n).b)) 0 (b := b16) (off := 2) (cs := [.int .i64 ((rawAt l n).k), .int .i64 ((rawAt l n).a), .int .i64 ((rawAt l n).b), .string ((rawAt l n).t)]) (by kernel_rfl) (by kernel_rfl) (by kernel_rfl) (by kernel_rfl) (by kernel_rfl) ?_; clear hJ a; intro a hJ
            refine s_call hJ 67 (pb7 _ rb0 rb1 (by omega) (by omega)) (by kernel_rfl) (fun _ => by kernel_rfl) ?_; clear hJ a w; rintro _ h213 a w s214 rfl hJ
            refine s_pure hJ 12 (.int .i64 6) (by kernel_rfl) (fun _ => by kernel_rfl) ?_; clear hJ a; intro a hJ
            refine wpList_nil ?_
            refine then_normal ?_
            refine wp_block ?_
            refine wp_seq ?_
            refine wp_region_lit ?_
            refine s_pure hJ 81 (.int .i64 6) (by kernel_rfl) (fun _ => by kernel_rfl) ?_; clear hJ a; intro a hJ
            refine s_pure hJ 82 (.bool false) (by kernel_rfl) (fun _ => by kernel_rfl) ?_; clear hJ a; intro a hJ
            refine s_pure hJ 80 (.bool false) (by kernel_rfl) (fun _ => by kernel_rfl) ?_; clear hJ a; intro a hJ
            refine wpList_nil ?_
            refine then_normal ?_
            refine c_false hJ (t := false) (by kernel_rfl) rfl ?_
            refine wp_seq ?_
            refine wp_region_lit ?_
            refine s_pure hJ 87 (.int .i64 6) (by kernel_rfl) (fun _ => by kernel_rfl) ?_; clear hJ a; intro a hJ
            refine s_pure hJ 88 (.bool false) (by kernel_rfl) (fun _ => by kernel_rfl) ?_; clear hJ a; intro a hJ
            refine s_pure hJ 86 (.bool false) (by kernel_rfl) (fun _ => by kernel_rfl) ?_; clear hJ a; intro a hJ
            refine wpList_nil ?_
            refine then_normal ?_
            refine c_false hJ (t := false) (by kernel_rfl) rfl ?_
            refine wp_seq ?_
            refine wp_region_lit ?_
            refine s_pure hJ 68 (.pointer (some ⟨b16, 1, none⟩)) (by kernel_rfl) (fun _ => by kernel_rfl) ?_; clear hJ a; intro a hJ
            refine s_load hJ (t := 3) (x := (.tmp 68)) 69 (.int .i64 ((rawAt l n).a)) 0 (b := b16) (off := 1) (cs := [.int .i64 ((rawAt l n).k), .int .i64 ((rawAt l n).a), .int .i64 ((rawAt l n).b), .string ((rawAt l n).t)]) (by kernel_rfl) (by kernel_rfl) (by kernel_rfl) (by kernel_rfl) (by kernel_rfl) ?_; clear hJ a; intro a hJ
            refine s_call hJ 70 (pa3 _ a0 a1 (by omega) (by omega)) (by kernel_rfl) (fun _ => by kernel_rfl) ?_; clear hJ a w; rintro _ h215 a w s216 rfl hJ
            refine s_pure hJ 71 (.int .i64 2) (by kernel_rfl) (fun _ => by kernel_rfl) ?_; clear hJ a; intro a hJ
            refine s_pure hJ 13 (.int .i64 2) (by kernel_rfl) (fun _ => by kernel_rfl) ?_; clear hJ a; intro a hJ
            refine wpList_nil ?_
            refine then_normal ?_
            refine wp_seq ?_
            refine wp_region_lit ?_
            refine s_pure hJ 72 (.func (.func 62) #[] #[.pointer (some ⟨b1, 0, none⟩), .pointer (some ⟨b5, 0, none⟩), .pointer (some ⟨b9, 0, none⟩)]) (by kernel_rfl) (fun _ => by kernel_rfl) ?_; clear hJ a; intro a hJ
            refine s_pure hJ 73 (.int .i64 6) (by kernel_rfl) (fun _ => by kernel_rfl) ?_; clear hJ a; intro a hJ
            refine s_pure hJ 74 (.int .i64 17) (by kernel_rfl) (fun _ => by kernel_rfl) ?_; clear hJ a; intro a hJ
            refine s_pure hJ 75 (.int .i64 14) (by kernel_rfl) (fun _ => by kernel_rfl) ?_; clear hJ a; intro a hJ
            refine s_pure hJ 76 (.int .i64 2) (by kernel_rfl) (fun _ => by kernel_rfl) ?_; clear hJ a; intro a hJ
            refine s_pure hJ 77 (.int .i64 2) (by kernel_rfl) (fun _ => by kernel_rfl) ?_; clear hJ a; intro a hJ
            refine s_fact hJ 78 (fun g => .slice (some ⟨g, 0, none⟩) 2 2) [.int .i64 2, .int .i64 2] 3 (by kernel_rfl) (fun _ => by kernel_rfl) ?_; clear hJ a w; intro b217 h218 a w s219 fk hJ
            refine s_call1 hJ 79 2 (many 14 [2, 2] _ _ _ _ _ _ _ (hr.sees (s3.trans (s7.trans (s11.trans (s15.trans (s18.trans (s22.trans (s214.trans (s216.trans (s219.trans hJ.sees)))))))))) (by omega) (by simp) (by simp <;> omega) (rs_ints [2, 2] (by unfold maxLen; simp) (fk.sees hJ.sees)) (hf.sees (hJ.lent hm)) (List.mem_append_right _ hg) (f4.sees (s7.trans (s11.trans (s15.trans (s18.trans (s22.trans (s214.trans (s216.trans (s219.trans hJ.sees))))))))) (f8.sees (s11.trans (s15.trans (s18.trans (s22.trans (s214.trans (s216.trans (s219.trans hJ.sees)))))))) (f12.sees (s15.trans (s18.trans (s22.trans (s214.trans (s216.trans (s219.trans hJ.sees)))))))) (by kernel_rfl) (by kernel_rfl) (fun _ => by kernel_rfl) ?_; clear hJ a w; rintro _ _ h220 a w s221 ⟨u, rfl, rfl, fu⟩ hJ
            refine s_store hJ (t := 38) (x := (.tmp 8)) (y := (.tmp 79)) 1 (.agg #[.int .i64 ((opE 14 (manyE (genE l fs d) [2, 2] (atNext l n)).1).op), .int .i64 ((opE 14 (manyE (genE l fs d) [2, 2] (atNext l n)).1).k), .int .i64 ((opE 14 (manyE (genE l fs d) [2, 2] (atNext l n)).1).n), .string ((opE 14 (manyE (genE l fs d) [2, 2] (atNext l n)).1).s), .string ((opE 14 (manyE (genE l fs d) [2, 2] (atNext l n)).1).nm), .slice (sA u) (sN u) (sC u)]) (b := b13) (off := 0) (cs := [.int .i64 0, .int .i64 0, .int .i64 0, .string ⟨#[]⟩, .string ⟨#[]⟩, .slice none 0 0]) [.int .i64 ((opE 14 (manyE (genE l fs d) [2, 2] (atNext l n)).1).op), .int .i64 ((opE 14 (manyE (genE l fs d) [2, 2] (atNext l n)).1).k), .int .i64 ((opE 14 (manyE (genE l fs d) [2, 2] (atNext l n)).1).n), .string ((opE 14 (manyE (genE l fs d) [2, 2] (atNext l n)).1).s), .string ((opE 14 (manyE (genE l fs d) [2, 2] (atNext l n)).1).nm), .slice (sA u) (sN u) (sC u)] (by kernel_rfl) (by kernel_rfl) (by kernel_rfl) (by kernel_rfl) (by kernel_rfl) (by kernel_rfl) (by kernel_rfl) ?_; clear hJ w; intro w hJ
            refine wpList_nil ?_
            refine then_normal ?_
            refine wp_ret ?_
            refine block_ret ?_
            refine block_ret ?_
            refine then_ret ?_
            refine (hQ [.agg #[.int .i64 ((opE 14 (manyE (genE l fs d) [2, 2] (atNext l n)).1).op), .int .i64 ((opE 14 (manyE (genE l fs d) [2, 2] (atNext l n)).1).k), .int .i64 ((opE 14 (manyE (genE l fs d) [2, 2] (atNext l n)).1).n), .string ((opE 14 (manyE (genE l fs d) [2, 2] (atNext l n)).1).s), .string ((opE 14 (manyE (genE l fs d) [2, 2] (atNext l n)).1).nm), .slice (sA u) (sN u) (sC u)]] [.box b16 [.int .i64 ((rawAt l n).k), .int .i64 ((rawAt l n).a), .int .i64 ((rawAt l n).b), .string ((rawAt l n).t)], .box b13 [.int .i64 ((opE 14 (manyE (genE l fs d) [2, 2] (atNext l n)).1).op), .int .i64 ((opE 14 (manyE (genE l fs d) [2, 2] (atNext l n)).1).k), .int .i64 ((opE 14 (manyE (genE l fs d) [2, 2] (atNext l n)).1).n), .string ((opE 14 (manyE (genE l fs d) [2, 2] (atNext l n)).1).s), .string ((opE 14 (manyE (genE l fs d) [2, 2] (atNext l n)).1).nm), .slice (sA u) (sN u) (sC u)]] [(g, [sl, .int .i64 (((manyE (genE l fs d) [2, 2] (atNext l n)).2 : Nat) : Int)])] hJ (.rcell hJ 1 (b := b13) (cs := [.int .i64 ((opE 14 (manyE (genE l fs d) [2, 2] (atNext l n)).1).op), .int .i64 ((opE 14 (manyE (genE l fs d) [2, 2] (atNext l n)).1).k), .int .i64 ((opE 14 (manyE (genE l fs d) [2, 2] (atNext l n)).1).n), .string ((opE 14 (manyE (genE l fs d) [2, 2] (atNext l n)).1).s), .string ((opE 14 (manyE (genE l fs d) [2, 2] (atNext l n)).1).nm), .slice (sA u) (sN u) (sC u)]) (by kernel_rfl) (by kernel_rfl) (by kernel_rfl) .nil) (by kernel_rfl) (by kernel_rfl) ?_).1
            exact expr_end (genE_with q3 (by unfold pickE; rw [if_neg q6, q7, q4]; rfl)) rfl rfl (fu.sees hJ.out)
          · skip
            rw [q4] at pa3
            refine c_false hJ (t := (pickL (rawAt l n).a 6) == 0) (by kernel_rfl) (beq_eq_false_iff_ne.2 q6) ?_
            refine wp_skip ?_
            refine then_normal ?_
            refine wp_seq ?_
            refine wp_seq ?_
            refine wp_region_lit ?_
            refine s_pure hJ 38 (.int .i64 2) (by kernel_rfl) (fun _ => by kernel_rfl) ?_; clear hJ a; intro a hJ
            refine wpList_nil ?_
            refine then_normal ?_
            refine wp_block ?_
            refine wp_seq ?_
            refine wp_region_lit ?_
            refine s_pure hJ 40 (.bool false) (by kernel_rfl) (fun _ => by kernel_rfl) ?_; clear hJ a; intro a hJ
            refine s_pure hJ 39 (.bool false) (by kernel_rfl) (fun _ => by kernel_rfl) ?_; clear hJ a; intro a hJ
            refine wpList_nil ?_
            refine then_normal ?_
            refine c_false hJ (t := false) (by kernel_rfl) rfl ?_
            refine wp_seq ?_
            refine wp_region_lit ?_
            refine s_pure hJ 64 (.bool true) (by kernel_rfl) (fun _ => by kernel_rfl) ?_; clear hJ a; intro a hJ
            refine s_pure hJ 63 (.bool true) (by kernel_rfl) (fun _ => by kernel_rfl) ?_; clear hJ a; intro a hJ
            refine wpList_nil ?_
            refine then_normal ?_
            refine c_true hJ (t := true) (by kernel_rfl) rfl ?_
            refine wp_seq ?_
            refine wp_region_lit ?_
            refine s_pure hJ 65 (.pointer (some ⟨b16, 2, none⟩)) (by kernel_rfl) (fun _ => by kernel_rfl) ?_; clear hJ a; intro a hJ
            refine s_load hJ (t := 3) (x := (.tmp 65)) 66 (.int .i64 ((rawAt l n).b)) 0 (b := b16) (off := 2) (cs := [.int .i64 ((rawAt l n).k), .int .i64 ((rawAt l n).a), .int .i64 ((rawAt l n).b), .string ((rawAt l n).t)]) (by kernel_rfl) (by kernel_rfl) (by kernel_rfl) (by kernel_rfl) (by kernel_rfl) ?_; clear hJ a; intro a hJ
            refine s_call hJ 67 (pb7 _ rb0 rb1 (by omega) (by omega)) (by kernel_rfl) (fun _ => by kernel_rfl) ?_; clear hJ a w; rintro _ h222 a w s223 rfl hJ
            refine s_pure hJ 12 (.int .i64 6) (by kernel_rfl) (fun _ => by kernel_rfl) ?_; clear hJ a; intro a hJ
            refine wpList_nil ?_
            refine then_normal ?_
            refine wp_block ?_
            refine wp_seq ?_
            refine wp_region_lit ?_
            refine s_pure hJ 81 (.int .i64 6) (by kernel_rfl) (fun _ => by kernel_rfl) ?_; clear hJ a; intro a hJ
            refine s_pure hJ 82 (.bool false) (by kernel_rfl) (fun _ => by kernel_rfl) ?_; clear hJ a; intro a hJ
            refine s_pure hJ 80 (.bool false) (by kernel_rfl) (fun _ => by kernel_rfl) ?_; clear hJ a; intro a hJ
            refine wpList_nil ?_
            refine then_normal ?_
            refine c_false hJ (t := false) (by kernel_rfl) rfl ?_
            refine wp_seq ?_
            refine wp_region_lit ?_
            refine s_pure hJ 87 (.int .i64 6) (by kernel_rfl) (fun _ => by kernel_rfl) ?_; clear hJ a; intro a hJ
            refine s_pure hJ 88 (.bool false) (by kernel_rfl) (fun _ => by kernel_rfl) ?_; clear hJ a; intro a hJ
            refine s_pure hJ 86 (.bool false) (by kernel_rfl) (fun _ => by kernel_rfl) ?_; clear hJ a; intro a hJ
            refine wpList_nil ?_
            refine then_normal ?_
            refine c_false hJ (t := false) (by kernel_rfl) rfl ?_
            refine wp_seq ?_
            refine wp_region_lit ?_
            refine s_pure hJ 68 (.pointer (some ⟨b16, 1, none⟩)) (by kernel_rfl) (fun _ => by kernel_rfl) ?_; clear hJ a; intro a hJ
            refine s_load hJ (t := 3) (x := (.tmp 68)) 69 (.int .i64 ((rawAt l n).a)) 0 (b := b16) (off := 1) (cs := [.int .i64 ((rawAt l n).k), .int .i64 ((rawAt l n).a), .int .i64 ((rawAt l n).b), .string ((rawAt l n).t)]) (by kernel_rfl) (by kernel_rfl) (by kernel_rfl) (by kernel_rfl) (by kernel_rfl) ?_; clear hJ a; intro a hJ
            refine s_call hJ 70 (pa3 _ a0 a1 (by omega) (by omega)) (by kernel_rfl) (fun _ => by kernel_rfl) ?_; clear hJ a w; rintro _ h224 a w s225 rfl hJ
            refine s_pure hJ 71 (.int .i64 3) (by kernel_rfl) (fun _ => by kernel_rfl) ?_; clear hJ a; intro a hJ
            refine s_pure hJ 13 (.int .i64 3) (by kernel_rfl) (fun _ => by kernel_rfl) ?_; clear hJ a; intro a hJ
            refine wpList_nil ?_
            refine then_normal ?_
            refine wp_seq ?_
            refine wp_region_lit ?_
            refine s_pure hJ 72 (.func (.func 62) #[] #[.pointer (some ⟨b1, 0, none⟩), .pointer (some ⟨b5, 0, none⟩), .pointer (some ⟨b9, 0, none⟩)]) (by kernel_rfl) (fun _ => by kernel_rfl) ?_; clear hJ a; intro a hJ
            refine s_pure hJ 73 (.int .i64 6) (by kernel_rfl) (fun _ => by kernel_rfl) ?_; clear hJ a; intro a hJ
            refine s_pure hJ 74 (.int .i64 17) (by kernel_rfl) (fun _ => by kernel_rfl) ?_; clear hJ a; intro a hJ
            refine s_pure hJ 75 (.int .i64 14) (by kernel_rfl) (fun _ => by kernel_rfl) ?_; clear hJ a; intro a hJ
            refine s_pure hJ 76 (.int .i64 3) (by kernel_rfl) (fun _ => by kernel_rfl) ?_; clear hJ a; intro a hJ
            refine s_pure hJ 77 (.int .i64 3) (by kernel_rfl) (fun _ => by kernel_rfl) ?_; clear hJ a; intro a hJ
            refine s_fact hJ 78 (fun g => .slice (some ⟨g, 0, none⟩) 2 2) [.int .i64 3, .int .i64 3] 3 (by kernel_rfl) (fun _ => by kernel_rfl) ?_; clear hJ a w; intro b226 h227 a w s228 fk hJ
            refine s_call1 hJ 79 2 (many 14 [3, 3] _ _ _ _ _ _ _ (hr.sees (s3.trans (s7.trans (s11.trans (s15.trans (s18.trans (s22.trans (s223.trans (s225.trans (s228.trans hJ.sees)))))))))) (by omega) (by simp) (by simp <;> omega) (rs_ints [3, 3] (by unfold maxLen; simp) (fk.sees hJ.sees)) (hf.sees (hJ.lent hm)) (List.mem_append_right _ hg) (f4.sees (s7.trans (s11.trans (s15.trans (s18.trans (s22.trans (s223.trans (s225.trans (s228.trans hJ.sees))))))))) (f8.sees (s11.trans (s15.trans (s18.trans (s22.trans (s223.trans (s225.trans (s228.trans hJ.sees)))))))) (f12.sees (s15.trans (s18.trans (s22.trans (s223.trans (s225.trans (s228.trans hJ.sees)))))))) (by kernel_rfl) (by kernel_rfl) (fun _ => by kernel_rfl) ?_; clear hJ a w; rintro _ _ h229 a w s230 ⟨u, rfl, rfl, fu⟩ hJ
            refine s_store hJ (t := 38) (x := (.tmp 8)) (y := (.tmp 79)) 1 (.agg #[.int .i64 ((opE 14 (manyE (genE l fs d) [3, 3] (atNext l n)).1).op), .int .i64 ((opE 14 (manyE (genE l fs d) [3, 3] (atNext l n)).1).k), .int .i64 ((opE 14 (manyE (genE l fs d) [3, 3] (atNext l n)).1).n), .string ((opE 14 (manyE (genE l fs d) [3, 3] (atNext l n)).1).s), .string ((opE 14 (manyE (genE l fs d) [3, 3] (atNext l n)).1).nm), .slice (sA u) (sN u) (sC u)]) (b := b13) (off := 0) (cs := [.int .i64 0, .int .i64 0, .int .i64 0, .string ⟨#[]⟩, .string ⟨#[]⟩, .slice none 0 0]) [.int .i64 ((opE 14 (manyE (genE l fs d) [3, 3] (atNext l n)).1).op), .int .i64 ((opE 14 (manyE (genE l fs d) [3, 3] (atNext l n)).1).k), .int .i64 ((opE 14 (manyE (genE l fs d) [3, 3] (atNext l n)).1).n), .string ((opE 14 (manyE (genE l fs d) [3, 3] (atNext l n)).1).s), .string ((opE 14 (manyE (genE l fs d) [3, 3] (atNext l n)).1).nm), .slice (sA u) (sN u) (sC u)] (by kernel_rfl) (by kernel_rfl) (by kernel_rfl) (by kernel_rfl) (by kernel_rfl) (by kernel_rfl) (by kernel_rfl) ?_; clear hJ w; intro w hJ
            refine wpList_nil ?_
            refine then_normal ?_
            refine wp_ret ?_
            refine block_ret ?_
            refine block_ret ?_
            refine then_ret ?_
            refine (hQ [.agg #[.int .i64 ((opE 14 (manyE (genE l fs d) [3, 3] (atNext l n)).1).op), .int .i64 ((opE 14 (manyE (genE l fs d) [3, 3] (atNext l n)).1).k), .int .i64 ((opE 14 (manyE (genE l fs d) [3, 3] (atNext l n)).1).n), .string ((opE 14 (manyE (genE l fs d) [3, 3] (atNext l n)).1).s), .string ((opE 14 (manyE (genE l fs d) [3, 3] (atNext l n)).1).nm), .slice (sA u) (sN u) (sC u)]] [.box b16 [.int .i64 ((rawAt l n).k), .int .i64 ((rawAt l n).a), .int .i64 ((rawAt l n).b), .string ((rawAt l n).t)], .box b13 [.int .i64 ((opE 14 (manyE (genE l fs d) [3, 3] (atNext l n)).1).op), .int .i64 ((opE 14 (manyE (genE l fs d) [3, 3] (atNext l n)).1).k), .int .i64 ((opE 14 (manyE (genE l fs d) [3, 3] (atNext l n)).1).n), .string ((opE 14 (manyE (genE l fs d) [3, 3] (atNext l n)).1).s), .string ((opE 14 (manyE (genE l fs d) [3, 3] (atNext l n)).1).nm), .slice (sA u) (sN u) (sC u)]] [(g, [sl, .int .i64 (((manyE (genE l fs d) [3, 3] (atNext l n)).2 : Nat) : Int)])] hJ (.rcell hJ 1 (b := b13) (cs := [.int .i64 ((opE 14 (manyE (genE l fs d) [3, 3] (atNext l n)).1).op), .int .i64 ((opE 14 (manyE (genE l fs d) [3, 3] (atNext l n)).1).k), .int .i64 ((opE 14 (manyE (genE l fs d) [3, 3] (atNext l n)).1).n), .string ((opE 14 (manyE (genE l fs d) [3, 3] (atNext l n)).1).s), .string ((opE 14 (manyE (genE l fs d) [3, 3] (atNext l n)).1).nm), .slice (sA u) (sN u) (sC u)]) (by kernel_rfl) (by kernel_rfl) (by kernel_rfl) .nil) (by kernel_rfl) (by kernel_rfl) ?_).1
            exact expr_end (genE_with q3 (by unfold pickE; rw [if_neg q6, q7, q4]; rfl)) rfl rfl (fu.sees hJ.out)
    · skip
      by_cases q6 : pickL (rawAt l n).a 6 = 0
      · refine c_true hJ (t := (pickL (rawAt l n).a 6) == 0) (by kernel_rfl) (beq_iff_eq.2 q6) ?_
        refine wp_seq ?_
        refine wp_region_lit ?_
        refine s_pure hJ 33 (.func (.func 62) #[] #[.pointer (some ⟨b1, 0, none⟩), .pointer (some ⟨b5, 0, none⟩), .pointer (some ⟨b9, 0, none⟩)]) (by kernel_rfl) (fun _ => by kernel_rfl) ?_; clear hJ a; intro a hJ
        refine s_pure hJ 34 (.int .i64 3) (by kernel_rfl) (fun _ => by kernel_rfl) ?_; clear hJ a; intro a hJ
        refine s_pure hJ 35 (.int .i64 3) (by kernel_rfl) (fun _ => by kernel_rfl) ?_; clear hJ a; intro a hJ
        refine s_fact hJ 36 (fun g => .slice (some ⟨g, 0, none⟩) 3 3) [.int .i64 2, .int .i64 3, .int .i64 3] 3 (by kernel_rfl) (fun _ => by kernel_rfl) ?_; clear hJ a w; intro b231 h232 a w s233 fk hJ
        refine s_call1 hJ 37 2 (many 17 [2, 3, 3] _ _ _ _ _ _ _ (hr.sees (s3.trans (s7.trans (s11.trans (s15.trans (s18.trans (s22.trans (s233.trans hJ.sees)))))))) (by omega) (by simp) (by simp <;> omega) (rs_ints [2, 3, 3] (by unfold maxLen; simp) (fk.sees hJ.sees)) (hf.sees (hJ.lent hm)) (List.mem_append_right _ hg) (f4.sees (s7.trans (s11.trans (s15.trans (s18.trans (s22.trans (s233.trans hJ.sees))))))) (f8.sees (s11.trans (s15.trans (s18.trans (s22.trans (s233.trans hJ.sees)))))) (f12.sees (s15.trans (s18.trans (s22.trans (s233.trans hJ.sees)))))) (by kernel_rfl) (by kernel_rfl) (fun _ => by kernel_rfl) ?_; clear hJ a w; rintro _ _ h234 a w s235 ⟨u, rfl, rfl, fu⟩ hJ
        refine s_store hJ (t := 38) (x := (.tmp 8)) (y := (.tmp 37)) 1 (.agg #[.int .i64 ((opE 17 (manyE (genE l fs d) [2, 3, 3] (atNext l n)).1).op), .int .i64 ((opE 17 (manyE (genE l fs d) [2, 3, 3] (atNext l n)).1).k), .int .i64 ((opE 17 (manyE (genE l fs d) [2, 3, 3] (atNext l n)).1).n), .string ((opE 17 (manyE (genE l fs d) [2, 3, 3] (atNext l n)).1).s), .string ((opE 17 (manyE (genE l fs d) [2, 3, 3] (atNext l n)).1).nm), .slice (sA u) (sN u) (sC u)]) (b := b13) (off := 0) (cs := [.int .i64 0, .int .i64 0, .int .i64 0, .string ⟨#[]⟩, .string ⟨#[]⟩, .slice none 0 0]) [.int .i64 ((opE 17 (manyE (genE l fs d) [2, 3, 3] (atNext l n)).1).op), .int .i64 ((opE 17 (manyE (genE l fs d) [2, 3, 3] (atNext l n)).1).k), .int .i64 ((opE 17 (manyE (genE l fs d) [2, 3, 3] (atNext l n)).1).n), .string ((opE 17 (manyE (genE l fs d) [2, 3, 3] (atNext l n)).1).s), .string ((opE 17 (manyE (genE l fs d) [2, 3, 3] (atNext l n)).1).nm), .slice (sA u) (sN u) (sC u)] (by kernel_rfl) (by kernel_rfl) (by kernel_rfl) (by kernel_rfl) (by kernel_rfl) (by kernel_rfl) (by kernel_rfl) ?_; clear hJ w; intro w hJ
        refine wpList_nil ?_
        refine then_normal ?_
        refine wp_ret ?_
        refine then_ret ?_
        refine (hQ [.agg #[.int .i64 ((opE 17 (manyE (genE l fs d) [2, 3, 3] (atNext l n)).1).op), .int .i64 ((opE 17 (manyE (genE l fs d) [2, 3, 3] (atNext l n)).1).k), .int .i64 ((opE 17 (manyE (genE l fs d) [2, 3, 3] (atNext l n)).1).n), .string ((opE 17 (manyE (genE l fs d) [2, 3, 3] (atNext l n)).1).s), .string ((opE 17 (manyE (genE l fs d) [2, 3, 3] (atNext l n)).1).nm), .slice (sA u) (sN u) (sC u)]] [.box b16 [.int .i64 ((rawAt l n).k), .int .i64 ((rawAt l n).a), .int .i64 ((rawAt l n).b), .string ((rawAt l n).t)], .box b13 [.int .i64 ((opE 17 (manyE (genE l fs d) [2, 3, 3] (atNext l n)).1).op), .int .i64 ((opE 17 (manyE (genE l fs d) [2, 3, 3] (atNext l n)).1).k), .int .i64 ((opE 17 (manyE (genE l fs d) [2, 3, 3] (atNext l n)).1).n), .string ((opE 17 (manyE (genE l fs d) [2, 3, 3] (atNext l n)).1).s), .string ((opE 17 (manyE (genE l fs d) [2, 3, 3] (atNext l n)).1).nm), .slice (sA u) (sN u) (sC u)]] [(g, [sl, .int .i64 (((manyE (genE l fs d) [2, 3, 3] (atNext l n)).2 : Nat) : Int)])] hJ (.rcell hJ 1 (b := b13) (cs := [.int .i64 ((opE 17 (manyE (genE l fs d) [2, 3, 3] (atNext l n)).1).op), .int .i64 ((opE 17 (manyE (genE l fs d) [2, 3, 3] (atNext l n)).1).k), .int .i64 ((opE 17 (manyE (genE l fs d) [2, 3, 3] (atNext l n)).1).n), .string ((opE 17 (manyE (genE l fs d) [2, 3, 3] (atNext l n)).1).s), .string ((opE 17 (manyE (genE l fs d) [2, 3, 3] (atNext l n)).1).nm), .slice (sA u) (sN u) (sC u)]) (by kernel_rfl) (by kernel_rfl) (by kernel_rfl) .nil) (by kernel_rfl) (by kernel_rfl) ?_).1
        exact expr_end (genE_with q3 (by unfold pickE; rw [if_pos q6])) rfl rfl (fu.sees hJ.out)
      · skip
        refine c_false hJ (t := (pickL (rawAt l n).a 6) == 0) (by kernel_rfl) (beq_eq_false_iff_ne.2 q6) ?_
        refine wp_skip ?_
        refine then_normal ?_
        refine wp_seq ?_
        refine wp_seq ?_
        refine wp_region_lit ?_
        refine s_pure hJ 38 (.int .i64 3) (by kernel_rfl) (fun _ => by kernel_rfl) ?_; clear hJ a; intro a hJ
        refine wpList_nil ?_
        refine then_normal ?_
        refine wp_block ?_
        refine wp_seq ?_
        refine wp_region_lit ?_
        refine s_pure hJ 40 (.bool false) (by kernel_rfl) (fun _ => by kernel_rfl) ?_; clear hJ a; intro a hJ
        refine s_pure hJ 39 (.bool false) (by kernel_rfl) (fun _ => by kernel_rfl) ?_; clear hJ a; intro a hJ
        refine wpList_nil ?_
        refine then_normal ?_
        refine c_false hJ (t := false) (by kernel_rfl) rfl ?_
        refine wp_seq ?_
        refine wp_region_lit ?_
        refine s_pure hJ 64 (.bool false) (by kernel_rfl) (fun _ => by kernel_rfl) ?_; clear hJ a; intro a hJ
        refine s_pure hJ 63 (.bool false) (by kernel_rfl) (fun _ => by kernel_rfl) ?_; clear hJ a; intro a hJ
        refine wpList_nil ?_
        refine then_normal ?_
        refine c_false hJ (t := false) (by kernel_rfl) rfl ?_
        refine wp_skip ?_
        refine block_normal ?_
        refine then_normal ?_
        refine wp_seq ?_
        refine wp_region_lit ?_
        refine s_pure hJ 95 (.func (.func 62) #[] #[.pointer (some ⟨b1, 0, none⟩), .pointer (some ⟨b5, 0, none⟩), .pointer (some ⟨b9, 0, none⟩)]) (by kernel_rfl) (fun _ => by kernel_rfl) ?_; clear hJ a; intro a hJ
        refine s_fact hJ 96 (fun g => .slice (some ⟨g, 0, none⟩) 2 2) [.int .i64 3, .int .i64 3] 3 (by kernel_rfl) (fun _ => by kernel_rfl) ?_; clear hJ a w; intro b236 h237 a w s238 fk hJ
        refine s_call1 hJ 97 2 (many 10 [3, 3] _ _ _ _ _ _ _ (hr.sees (s3.trans (s7.trans (s11.trans (s15.trans (s18.trans (s22.trans (s238.trans hJ.sees)))))))) (by omega) (by simp) (by simp <;> omega) (rs_ints [3, 3] (by unfold maxLen; simp) (fk.sees hJ.sees)) (hf.sees (hJ.lent hm)) (List.mem_append_right _ hg) (f4.sees (s7.trans (s11.trans (s15.trans (s18.trans (s22.trans (s238.trans hJ.sees))))))) (f8.sees (s11.trans (s15.trans (s18.trans (s22.trans (s238.trans hJ.sees)))))) (f12.sees (s15.trans (s18.trans (s22.trans (s238.trans hJ.sees)))))) (by kernel_rfl) (by kernel_rfl) (fun _ => by kernel_rfl) ?_; clear hJ a w; rintro _ _ h239 a w s240 ⟨u, rfl, rfl, fu⟩ hJ
        refine s_store hJ (t := 38) (x := (.tmp 8)) (y := (.tmp 97)) 1 (.agg #[.int .i64 ((opE 10 (manyE (genE l fs d) [3, 3] (atNext l n)).1).op), .int .i64 ((opE 10 (manyE (genE l fs d) [3, 3] (atNext l n)).1).k), .int .i64 ((opE 10 (manyE (genE l fs d) [3, 3] (atNext l n)).1).n), .string ((opE 10 (manyE (genE l fs d) [3, 3] (atNext l n)).1).s), .string ((opE 10 (manyE (genE l fs d) [3, 3] (atNext l n)).1).nm), .slice (sA u) (sN u) (sC u)]) (b := b13) (off := 0) (cs := [.int .i64 0, .int .i64 0, .int .i64 0, .string ⟨#[]⟩, .string ⟨#[]⟩, .slice none 0 0]) [.int .i64 ((opE 10 (manyE (genE l fs d) [3, 3] (atNext l n)).1).op), .int .i64 ((opE 10 (manyE (genE l fs d) [3, 3] (atNext l n)).1).k), .int .i64 ((opE 10 (manyE (genE l fs d) [3, 3] (atNext l n)).1).n), .string ((opE 10 (manyE (genE l fs d) [3, 3] (atNext l n)).1).s), .string ((opE 10 (manyE (genE l fs d) [3, 3] (atNext l n)).1).nm), .slice (sA u) (sN u) (sC u)] (by kernel_rfl) (by kernel_rfl) (by kernel_rfl) (by kernel_rfl) (by kernel_rfl) (by kernel_rfl) (by kernel_rfl) ?_; clear hJ w; intro w hJ
        refine wpList_nil ?_
        refine then_normal ?_
        refine wp_ret ?_
        refine (hQ [.agg #[.int .i64 ((opE 10 (manyE (genE l fs d) [3, 3] (atNext l n)).1).op), .int .i64 ((opE 10 (manyE (genE l fs d) [3, 3] (atNext l n)).1).k), .int .i64 ((opE 10 (manyE (genE l fs d) [3, 3] (atNext l n)).1).n), .string ((opE 10 (manyE (genE l fs d) [3, 3] (atNext l n)).1).s), .string ((opE 10 (manyE (genE l fs d) [3, 3] (atNext l n)).1).nm), .slice (sA u) (sN u) (sC u)]] [.box b16 [.int .i64 ((rawAt l n).k), .int .i64 ((rawAt l n).a), .int .i64 ((rawAt l n).b), .string ((rawAt l n).t)], .box b13 [.int .i64 ((opE 10 (manyE (genE l fs d) [3, 3] (atNext l n)).1).op), .int .i64 ((opE 10 (manyE (genE l fs d) [3, 3] (atNext l n)).1).k), .int .i64 ((opE 10 (manyE (genE l fs d) [3, 3] (atNext l n)).1).n), .string ((opE 10 (manyE (genE l fs d) [3, 3] (atNext l n)).1).s), .string ((opE 10 (manyE (genE l fs d) [3, 3] (atNext l n)).1).nm), .slice (sA u) (sN u) (sC u)]] [(g, [sl, .int .i64 (((manyE (genE l fs d) [3, 3] (atNext l n)).2 : Nat) : Int)])] hJ (.rcell hJ 1 (b := b13) (cs := [.int .i64 ((opE 10 (manyE (genE l fs d) [3, 3] (atNext l n)).1).op), .int .i64 ((opE 10 (manyE (genE l fs d) [3, 3] (atNext l n)).1).k), .int .i64 ((opE 10 (manyE (genE l fs d) [3, 3] (atNext l n)).1).n), .string ((opE 10 (manyE (genE l fs d) [3, 3] (atNext l n)).1).s), .string ((opE 10 (manyE (genE l fs d) [3, 3] (atNext l n)).1).nm), .slice (sA u) (sN u) (sC u)]) (by kernel_rfl) (by kernel_rfl) (by kernel_rfl) .nil) (by kernel_rfl) (by kernel_rfl) ?_).1
        exact expr_end (genE_with q3 (by unfold pickE; rw [if_neg q6]; rfl)) rfl rfl (fu.sees hJ.out)

end Go.Proofs.Yteolcggpflnpoaa
