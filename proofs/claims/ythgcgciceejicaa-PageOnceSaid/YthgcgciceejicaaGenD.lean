/-
  Contracts of the generator's formulas: several arguments. The contract of the generator's formulas.
-/
import Derived.Test.YthgcgciceejicaaGo
import Derived.Test.YthgcgciceejicaaGenB
import Derived.Test.YthgcgciceejicaaSx
namespace Go.Proofs.Ythgcgciceejicaa
open Go.RowKit
set_option linter.unusedVariables false

abbrev intRows (l : List Int) : List (List Value) := l.map (fun k => [.int .i64 k])

/-- The contract of a formula of depth d. -/
def ExprC (l : List RawD) (fs : List Fd) (d : Nat) : Prop :=
  ∀ (g : Nat) (sl : Value) (n : Nat) (kind : Int) (fv : Value) (m : List Nat) (h : Vw), RS h 4 sl (l.map RawD.cs) → n + bnd d < 100000 → 1 ≤ kind → kind ≤ 3 → IsFds ⟨h.w, m⟩ fv fs → g ∈ m →
    C1 Try.prog 13 #[.pointer (some ⟨g, 0, none⟩), .int .i64 kind, fv, .int .i64 (d : Int)] h g [sl, .int .i64 (n : Int)]
      (fun v cs' h' => ∃ u, v = .agg #[.int .i64 ((genE l fs d kind n).1).op, .int .i64 ((genE l fs d kind n).1).k, .int .i64 ((genE l fs d kind n).1).n, .string ((genE l fs d kind n).1).s, .string ((genE l fs d kind n).1).nm, .slice (sA u) (sN u) (sC u)] ∧ cs' = [sl, .int .i64 (((genE l fs d kind n).2 : Nat) : Int)] ∧ IsArgs h' (genE l fs d kind n).1 (.slice (sA u) (sN u) (sC u)))

set_option maxRecDepth 100000 in
theorem many_any (l : List RawD) (fs : List Fd) (d : Nat) (hd : d < 1000) (IH : ExprC l fs d) (g : Nat) (sl : Value) (n : Nat) (op : Int) (ks : List Int) (kv fv : Value) (b4 b6 b7 : Nat) (m : List Nat) (h : Vw) (hr : RS h 4 sl (l.map RawD.cs)) (hn : n + 3 * bnd d < 100000) (hks : ks.length ≤ 3)
    (hk1 : ∀ k ∈ ks, 1 ≤ k ∧ k ≤ 3) (hkv : RS h 1 kv (intRows ks)) (hf : IsFds ⟨h.w, m⟩ fv fs) (hg : g ∈ m) (f4 : Cells h b4 0 [.pointer (some ⟨g, 0, none⟩)]) (f6 : Cells h b6 0 [fv]) (f7 : Cells h b7 0 [.int .i64 ((d + 1 : Nat) : Int)]) :
    C1 Try.prog 26 #[.int .i64 op, kv, .pointer (some ⟨b4, 0, none⟩), .pointer (some ⟨b6, 0, none⟩), .pointer (some ⟨b7, 0, none⟩)] h g [sl, .int .i64 (n : Int)]
      (fun v cs' h' => ∃ u, v = .agg #[.int .i64 (opE op (manyE (genE l fs d) ks n).1).op, .int .i64 (opE op (manyE (genE l fs d) ks n).1).k, .int .i64 (opE op (manyE (genE l fs d) ks n).1).n, .string (opE op (manyE (genE l fs d) ks n).1).s, .string (opE op (manyE (genE l fs d) ks n).1).nm, .slice (sA u) (sN u) (sC u)] ∧ cs' = [sl, .int .i64 (((manyE (genE l fs d) ks n).2 : Nat) : Int)] ∧ IsArgs h' (opE op (manyE (genE l fs d) ks n).1) (.slice (sA u) (sN u) (sC u))) := by
  obtain ⟨A, cap, rfl, hc1, hc2, -⟩ := hkv.form
  rw [List.length_map] at hc1 hkv ⊢
  have hm : ∀ b ∈ [g], b ∈ m := fun b hb => by simp at hb; rw [hb]; exact hg
  generalize hL : ks.length = len at *
  refine g_con Try.func26 fun hbx hbad Q hQ => ?_
  refine g_fact (f4.sees (Sees.refl _)) ?_
  refine g_fact (f6.sees (Sees.refl _)) ?_
  refine g_fact (f7.sees (Sees.refl _)) ?_
  refine g_nilrow 36 6 ?_
  refine go2 22 [.own, .own, .b 0 0] [] ?_
  intro b1 b2
  refine g_loop [0, 1, 0, 1, 1] [.block 0, .seq [1, 1, 1]] (fun (k : Nat) X => ∃ (W3 : Vw) (v : Value) (vs : List Value), X W3 [(2, Vp b4), (3, Vp b6), (4, Vp b7), (7, Vp b1), (8, Vp b2), (13, .slice A len cap), (14, Vi (len : Int)), (15, Vi (k : Int))] [.box b2 [Vi op, Vi 0, Vi 0, Ve, Ve, v], .box b1 [Vi 0, Vi 0, Vi 0, Ve, Ve, Vz], .row v 36 6 (exRows (manyE (genE l fs d) (ks.take k) n).1 vs), .box g [sl, Vi (((manyE (genE l fs d) (ks.take k) n).2 : Nat) : Int)]] [(b7, 0, [Vi ((d + 1 : Nat) : Int)]), (b6, 0, [fv]), (b4, 0, [Vp g])] ∧ Sees h W3 ∧ (k ≤ len) ∧ (AllArgs W3 (manyE (genE l fs d) (ks.take k) n).1 vs)) (fun k => len - k) (0) (fun X q => ⟨h, (Vz), [], q _ _ _ _ ⟨rfl, by kernel_rfl⟩, Sees.refl _, Nat.zero_le _, by unfold manyE AllArgs; rfl⟩) ?_
  rintro k a w ⟨W3, v, vs, hJ, S4, hk, hvs⟩; refine g_of hJ ?_; clear hJ a w
  refine go0 6 [] [] ?_
  have hle := manyE_le (genE_le l fs d) (ks.take k) n
  rcases (by omega : k < len ∨ len = k) with hlt | hke
  · obtain ⟨kk, hkk⟩ : ∃ x, ks[k]? = some x := ⟨_, List.getElem?_eq_getElem (by omega)⟩
    have hki : (intRows ks)[k]? = some [.int .i64 kk] := by rw [List.getElem?_map, hkk]; rfl
    obtain ⟨q1, q2⟩ := hk1 kk (List.mem_of_getElem? hkk)
    have hms := manyE_snoc (genE l fs d) kk (ks.take k) n
    rw [← take_snoc' ks k kk hkk] at hms
    have hlt2 : (ks.take k).length * bnd d ≤ 2 * bnd d := Nat.mul_le_mul_right _ (by rw [List.length_take]; omega)
    have hvl := hvs.len
    have hxl : (manyE (genE l fs d) (ks.take k) n).1.length ≤ k := by
      have : ∀ (one : Int → Nat → Ex × Nat) (l : List Int) (n : Nat), (manyE one l n).1.length = l.length := by
        intro one l
        induction l with
        | nil => intro n; rfl
        | cons x l ih => intro n; show ((manyE one l (one x n).2).1.length + 1) = l.length + 1; rw [ih]
      rw [this, List.length_take]; omega
    generalize manyE (genE l fs d) (ks.take k) n = p at *
    have hIH := fun H m' hr' hf' hg' => IH g sl p.2 kk fv m' H hr' (by omega) q1 q2 hf' hg'
    generalize genE l fs d kk p.2 = q at *
    have hrl := exRows_len hvl
    refine g_true (t := decide ((k : Int) < (len : Int))) (decide_eq_true (by omega)) ?_
    refine go0 6 [] [] ?_
    obtain ⟨b5, o6, rfl, -, c7⟩ := RS.row hkv (hki)
    refine g_fact (c7.sees S4) ?_
    refine go0 5 [.ix b5 o6 len cap k, .f 0 0] [] ?_ (ho := (And.intro (by first | omega | (simp; omega)) (trivial)))
    refine g_reg 12 0 [.pu, .ld 0 5, .lf 3 0, .pu, .lf 2 0, .lf 1 0, .v (fun gh => Vi (d : Int)), .ef (fun gh => .agg #[Vi q.1.op, Vi q.1.k, Vi q.1.n, .string q.1.s, .string q.1.nm, .slice (sA (gh 7)) (sN (gh 7)) (sC (gh 7))]) 3 (fun gh => .box g [sl, Vi ((q.2 : Nat) : Int)]) (fun gh hh => IsArgs hh q.1 (.slice (sA (gh 7)) (sN (gh 7)) (sC (gh 7)))), .f (fun gh => .slice (some ⟨(blkOf (gh 8)), 0, none⟩) 1 1) (fun gh hh => Cells hh (blkOf (gh 8)) 0 [Vi q.1.op, Vi q.1.k, Vi q.1.n, .string q.1.s, .string q.1.nm, .slice (sA (gh 7)) (sN (gh 7)) (sC (gh 7))]), .e (fun gh => .slice (sA (gh 9)) (sN (gh 9)) (sC (gh 9))) 2 (fun gh => .row (.slice (sA (gh 9)) (sN (gh 9)) (sC (gh 9))) 36 6 ((exRows (p).1 vs) ++ [[Vi q.1.op, Vi q.1.k, Vi q.1.n, .string q.1.s, .string q.1.nm, .slice (sA (gh 7)) (sN (gh 7)) (sC (gh 7))]])), .pu, .st 0 5] [(7, false), (8, true), (9, false)] (And.intro (fun _ _ _ s c => c.sees s) (And.intro (fun _ _ _ s c => c.sees s) (trivial))) ?_ ?_
    · intro R hT hA hmono
      refine And.intro (t_eq hT hA (fun gh => Vi (d : Int)) (fun gh => Vi (IntKind.i64.wrap (((d + 1 : Nat) : Int) - 1))) (fun gh => dec_wrap d (by omega))) ?_
      refine And.intro (r_call1 hT hA hmono ⟨fun _ _ => by kernel_rfl, fun _ _ => by kernel_rfl, fun _ _ => by kernel_rfl⟩ 26 (fun u => .agg #[Vi q.1.op, Vi q.1.k, Vi q.1.n, .string q.1.s, .string q.1.nm, .slice (sA u) (sN u) (sC u)]) [2, 3, 4, 6] 7 (by kernel_rfl) (fun _ => by kernel_rfl) 3 (GN R 3) (by kernel_rfl) (by kernel_rfl) (by kernel_rfl) g (fun gh => [sl, Vi (((p).2 : Nat) : Int)]) (fun gh => [sl, Vi ((q.2 : Nat) : Int)]) (fun _ => by kernel_rfl) (fun _ => by kernel_rfl) 13 (fun gh => #[Vp g, Vi kk, fv, Vi (d : Int)]) (fun _ _ => by kernel_rfl) (fun gh H sH fH lent => C1.facts (R := R) (x := gh) (N' := fun gh => [sl, Vi ((q.2 : Nat) : Int)]) (i := 7) (n := 0) (F := (fun u => .agg #[Vi q.1.op, Vi q.1.k, Vi q.1.n, .string q.1.s, .string q.1.nm, .slice (sA u) (sN u) (sC u)])) (N := fun u => [sl, Vi ((q.2 : Nat) : Int)]) (G := fun u hh => IsArgs hh q.1 (.slice (sA u) (sN u) (sC u))) (f := fun gh hh => IsArgs hh q.1 (.slice (sA (gh 7)) (sN (gh 7)) (sC (gh 7)))) (by obtain ⟨m', hgm, sm⟩ := lent m hm; exact hIH H m' (hr.sees (S4.trans sH)) (hf.sees sm) hgm) (by kernel_rfl) (by kernel_rfl) (fun _ => by kernel_rfl) (fun _ _ r => r))) ?_
      refine And.intro (r_fact hT hA hmono ⟨fun _ _ => by kernel_rfl, fun _ _ => by kernel_rfl, fun _ _ => by kernel_rfl⟩ 27 (fun g => Vs g 1 1) [7] 8 (by kernel_rfl) (by kernel_rfl) (fun _ => by kernel_rfl) (fun gh => [Vi q.1.op, Vi q.1.k, Vi q.1.n, .string q.1.s, .string q.1.nm, .slice (sA (gh 7)) (sN (gh 7)) (sC (gh 7))]) 36 (fun _ _ => by kernel_rfl) (fun gh zb zH zc zj zq zhq zhe => own_fact (i := 8) (k := 1) (f := fun gh hh => Cells hh (blkOf (gh 8)) 0 [Vi q.1.op, Vi q.1.k, Vi q.1.n, .string q.1.s, .string q.1.nm, .slice (sA (gh 7)) (sN (gh 7)) (sC (gh 7))]) (by kernel_rfl) (by kernel_rfl) zc zj zq zhq zhe)) ?_
      refine And.intro (r_append hT hA hmono ⟨fun _ _ => by kernel_rfl, fun _ _ => by kernel_rfl, fun _ _ => by kernel_rfl⟩ (by kernel_rfl) 28 [1, 7, 8] 9 (by kernel_rfl) (fun _ => by kernel_rfl) 2 (GN R 2) (by kernel_rfl) (by kernel_rfl) (by kernel_rfl) (fun gh => v) 34 36 6 (fun gh => exRows (p).1 vs) (fun gh => [[Vi q.1.op, Vi q.1.k, Vi q.1.n, .string q.1.s, .string q.1.nm, .slice (sA (gh 7)) (sN (gh 7)) (sC (gh 7))]]) (fun _ => by kernel_rfl) (fun _ => by kernel_rfl) (fun _ _ => by kernel_rfl) (.tmp 20) (.tmp 27) (by kernel_rfl) (by kernel_rfl) (fun gh => (blkOf (gh 8))) 1 1 (fun _ => by kernel_rfl) (fun _ => by kernel_rfl) 1 8 (fun gh hh => Cells hh (blkOf (gh 8)) 0 [Vi q.1.op, Vi q.1.k, Vi q.1.n, .string q.1.s, .string q.1.nm, .slice (sA (gh 7)) (sN (gh 7)) (sC (gh 7))]) (by kernel_rfl) (by kernel_rfl) (fun _ _ c => c) Try.underlying34 (zv := .agg #[Vi 0, Vi 0, Vi 0, Ve, Ve, Vz]) (bytes := 80) (by kernel_rfl) (by kernel_rfl) (fun _ => by kernel_rfl) (fun _ => by constructor <;> (rw [hrl]; omega))) ?_
      trivial
    rintro u26 b9 v28 W10 S11 ⟨f26, f8, -⟩
    replace f26 : IsArgs W10 q.1 (.slice (sA u26) (sN u26) (sC u26)) := f26
    replace f8 : Cells W10 b9 0 [Vi q.1.op, Vi q.1.k, Vi q.1.n, .string q.1.s, .string q.1.nm, .slice (sA u26) (sN u26) (sC u26)] := f8
    refine g_fact f8 ?_
    refine go0 6 [] [(30, Vi (IntKind.i64.wrap ((k : Int) + 1)), Vi ((k : Int) + 1))] ?_ (hc := (And.intro (i64_wrap (by omega) (by omega)) (trivial)))
    refine g_is [(2, Vp b4), (3, Vp b6), (4, Vp b7), (7, Vp b1), (8, Vp b2), (13, .slice (some ⟨b5, o6, none⟩) len cap), (14, Vi (len : Int)), (15, Vi ((k : Int) + 1))] [.box b2 [Vi op, Vi 0, Vi 0, Ve, Ve, .slice (sA v28) (sN v28) (sC v28)], .box b1 [Vi 0, Vi 0, Vi 0, Ve, Ve, Vz], .row (.slice (sA v28) (sN v28) (sC v28)) 36 6 ((exRows (p).1 vs) ++ [[Vi q.1.op, Vi q.1.k, Vi q.1.n, .string q.1.s, .string q.1.nm, .slice (sA u26) (sN u26) (sC u26)]]), .box g [sl, Vi ((q.2 : Nat) : Int)]] [(b7, 0, [Vi ((d + 1 : Nat) : Int)]), (b6, 0, [fv]), (b4, 0, [Vp g])] ?_
    exact g_round (k + 1) (fun X q => ⟨W10, .slice (sA v28) (sN v28) (sC v28), vs ++ [.slice (sA u26) (sN u26) (sC u26)], q _ _ _ _ (says_ents (by rw [hms, exRows_snoc hvl])), (S4.trans S11), by omega, by rw [hms]; exact AllArgs.snoc f26 (hvs.sees S11)⟩) (by omega)
  · skip
    have htk : ks.take k = ks := by rw [← hke, ← hL, List.take_length]
    rw [htk] at hvs ⊢
    refine g_form 2 (v := v) (e := 36) (kk := 6) (l := exRows (manyE (genE l fs d) ks n).1 vs) ?_; intro A2 c2 hE_v hc_v hm_v
    rw [hE_v]
    refine g_false (t := decide ((k : Int) < (len : Int))) (decide_eq_false (by omega)) ?_
    refine go0 2 [] [] ?_
    refine g_leave ?_
    refine go0 9 [.b 0 0, .b 1 0] [] ?_
    refine g_is [(7, Vp b1)] [.box b2 [Vi op, Vi 0, Vi 0, Ve, Ve, .slice A2 ((exRows (manyE (genE l fs d) ks n).1 vs).length) c2], .box b1 [Vi op, Vi 0, Vi 0, Ve, Ve, .slice A2 ((exRows (manyE (genE l fs d) ks n).1 vs).length) c2], .row (.slice A2 ((exRows (manyE (genE l fs d) ks n).1 vs).length) c2) 36 6 (exRows (manyE (genE l fs d) ks n).1 vs), .box g [sl, Vi (((manyE (genE l fs d) ks n).2 : Nat) : Int)]] [(b7, 0, [Vi ((d + 1 : Nat) : Int)]), (b6, 0, [fv]), (b4, 0, [Vp g])] ?_
    refine hQ.toJ [.agg #[Vi op, Vi 0, Vi 0, Ve, Ve, .slice A2 ((exRows (manyE (genE l fs d) ks n).1 vs).length) c2]] [[sl, Vi (((manyE (genE l fs d) ks n).2 : Nat) : Int)]] (fun a w hJ => ?_) (ix := [1])
    have fr := hJ.j.rowOut1 (v := .slice A2 ((exRows (manyE (genE l fs d) ks n).1 vs).length) c2) (e := 36) (k := 6) (l := exRows (manyE (genE l fs d) ks n).1 vs) (g := g) (cs := [sl, Vi (((manyE (genE l fs d) ks n).2 : Nat) : Int)]) 2 3 (by kernel_rfl) (by kernel_rfl) (by kernel_rfl) rfl
    exact ⟨_, rfl, .slice A2 (exRows (manyE (genE l fs d) ks n).1 vs).length c2, rfl, rfl, IsArgs.mk (x := opE op (manyE (genE l fs d) ks n).1) fr (hvs.sees hJ.j.out)⟩

end Go.Proofs.Ythgcgciceejicaa

namespace Go.Proofs.Ythgcgciceejicaa
open Go.RowKit

theorem genE_leaf {l : List RawD} {fs : List Fd} {d : Nat} {kind : Int} {n : Nat} (h : pickL (rawAt l n).k 3 = 0) : genE l fs (d + 1) kind n = (leafE (rawAt l (atNext l n)) fs kind, atNext l (atNext l n)) := by
  show (if _ then _ else _) = _
  rw [if_pos h]
theorem genE_with {l : List RawD} {fs : List Fd} {d : Nat} {kind op : Int} {ks : List Int} {n : Nat} (h : pickL (rawAt l n).k 3 ≠ 0) (hp : pickE (rawAt l n) kind = (op, ks)) : genE l fs (d + 1) kind n = (opE op (manyE (genE l fs d) ks (atNext l n)).1, (manyE (genE l fs d) ks (atNext l n)).2) := by
  show (if _ then _ else _) = _
  rw [if_neg h, hp]
theorem rs_ints {h : Vw} {b : Nat} (ks : List Int) (hm : ks.length ≤ maxLen) (c : Cells h b 0 (intRows ks).flatten) : RS h 1 (.slice (some ⟨b, 0, none⟩) ks.length ks.length) (intRows ks) := by
  have := rs_cells (k := 1) (intRows ks) (fun r hr => by obtain ⟨x, -, rfl⟩ := List.mem_map.1 hr; rfl) (by simpa using hm) c
  simpa using this
/-- How the contract's end follows, where the formula is told otherwise. -/
theorem expr_end {h : Vw} {sl : Value} {p q : Ex × Nat} (e : p = q) {u : Value} {v : Value} {cs : List Value} (hv : v = .agg #[.int .i64 q.1.op, .int .i64 q.1.k, .int .i64 q.1.n, .string q.1.s, .string q.1.nm, .slice (sA u) (sN u) (sC u)]) (hc : cs = [sl, .int .i64 ((q.2 : Nat) : Int)]) (ha : IsArgs h q.1 (.slice (sA u) (sN u) (sC u))) :
    ∃ cs', [cs] = [cs'] ∧ ∃ u, v = .agg #[.int .i64 p.1.op, .int .i64 p.1.k, .int .i64 p.1.n, .string p.1.s, .string p.1.nm, .slice (sA u) (sN u) (sC u)] ∧ cs' = [sl, .int .i64 ((p.2 : Nat) : Int)] ∧ IsArgs h p.1 (.slice (sA u) (sN u) (sC u)) := by
  subst e
  exact ⟨cs, rfl, u, hv, hc, ha⟩
theorem leaf_args (r : RawD) (fs : List Fd) (kind : Int) : (leafE r fs kind).args = [] := by
  unfold leafE
  repeat' split
  all_goals rfl

set_option maxRecDepth 100000 in
theorem expr_zero (l : List RawD) (fs : List Fd) (hlen : l.length * 40 ≤ reachBytes) (hok : ∀ r ∈ l, r.ok) (hfs : fs.length ≤ 100) : ExprC l fs 0 := by
  intro g sl n kind fv m h hr hn h1 h3 hf hg
  have hm : ∀ b ∈ [g], b ∈ m := fun b hb => by simp at hb; rw [hb]; exact hg
  obtain ⟨A, nf, cap, rfl⟩ : ∃ A nf cap, fv = .slice A nf cap := by obtain ⟨vs, hrs, -⟩ := hf; obtain ⟨A, c, e, -⟩ := hrs.form; exact ⟨A, _, c, e⟩
  have hat := atNext_le l n
  have hb : bnd 0 = 2 := rfl
  refine g_con Try.func13 fun hbx hbad Q hQ => ?_
  refine gov3 5 [.fix, .fix, .fix] [] ?_
  intro b1 b2 b3 W4 S5
  refine go1 6 [.own, .f 2 0] [] ?_
  intro b6
  refine g_call1 1 (fun H sH => gen_next_any g l sl n _ (hr.sees (S5.trans sH)) (by omega) hlen) ?_; rintro _ _ W7 S8 ⟨rfl, rfl⟩
  refine go1 23 [.own, .b 0 0, .f 0 0, .f 2 0, .f 1 0] [(17, .bool (decide (((0 : Nat) : Int) ≤ 0)), .bool true)] ?_ (hc := (And.intro (rfl) (trivial)))
  intro b9
  refine g_call1J 2 (fun a w hJ => leaf_any g l sl (atNext l n) kind fs _ _ _ (hr.sees (S5.trans (S8.trans hJ.j.sees))) (by omega) hlen hok h1 h3 (hf.sees (hJ.j.lent hm)) hfs (List.mem_append_right _ hg)) ?_; rintro _ _ W10 S11 ⟨rfl, rfl⟩
  refine go0 5 [.b 1 0] [] ?_
  refine hQ.toB [.agg #[Vi ((leafE (rawAt l (atNext l n)) fs kind).op), Vi ((leafE (rawAt l (atNext l n)) fs kind).k), Vi ((leafE (rawAt l (atNext l n)) fs kind).n), .string ((leafE (rawAt l (atNext l n)) fs kind).s), .string ((leafE (rawAt l (atNext l n)) fs kind).nm), Vz]] [[sl, Vi ((atNext l (atNext l n) : Nat) : Int)]] (fun H sH => ?_) (ix := [1])
  exact expr_end (u := Vz) (show genE l fs 0 kind n = _ from rfl) rfl rfl (args_nil _ _ (leaf_args _ _ _))

/-- What a call of the closure wants. -/
structure GX (l : List RawD) (sl : Value) (g b4 b8 b12 : Nat) (fv : Value) (d : Nat) (H : Vw) : Prop where
  raw : RS H 4 sl (l.map RawD.cs)
  c4 : Cells H b4 0 [.pointer (some ⟨g, 0, none⟩)]
  c8 : Cells H b8 0 [fv]
  c12 : Cells H b12 0 [.int .i64 ((d + 1 : Nat) : Int)]
theorem GX.sees {l : List RawD} {sl : Value} {g b4 b8 b12 : Nat} {fv : Value} {d : Nat} {H H' : Vw} (q : GX l sl g b4 b8 b12 fv d H) (s : Sees H H') : GX l sl g b4 b8 b12 fv d H' := ⟨q.raw.sees s, q.c4.sees s, q.c8.sees s, q.c12.sees s⟩
set_option maxHeartbeats 4000000 in
set_option maxRecDepth 100000 in
theorem expr_succ (l : List RawD) (fs : List Fd) (hlen : l.length * 40 ≤ reachBytes) (hok : ∀ r ∈ l, r.ok) (hfs : fs.length ≤ 100) (d : Nat) (hd : d < 1000) (IH : ExprC l fs d) : ExprC l fs (d + 1) := by
  intro g sl n kind fv m h hr hn h1 h3 hf hg
  have hm : ∀ b ∈ [g], b ∈ m := fun b hb => by simp at hb; rw [hb]; exact hg
  obtain ⟨A, nf, cap, rfl⟩ : ∃ A nf cap, fv = .slice A nf cap := by obtain ⟨vs, hrs, -⟩ := hf; obtain ⟨A, c, e, -⟩ := hrs.form; exact ⟨A, _, c, e⟩
  have hat := atNext_le l n
  have hbd : bnd (d + 1) = 1 + 3 * bnd d := rfl
  have hb2 : 2 ≤ bnd d := by
    cases d with
    | zero => exact Nat.le_refl _
    | succ d => show 2 ≤ 1 + 3 * bnd d; have : 1 ≤ bnd d := by cases d with | zero => decide | succ d => show 1 ≤ 1 + _; omega
                omega
  obtain ⟨⟨k0, k1⟩, ⟨a0, a1⟩, ⟨rb0, rb1⟩, -⟩ := rawAt_ok hok n
  have hd0 : decide (((d + 1 : Nat) : Int) ≤ 0) = false := decide_eq_false (by omega)
  have many := many_any l fs d hd IH g sl (atNext l n)
  have hq7 := pick_range (rawAt l n).b 7 (by omega)
  have hq3 := pick_range (rawAt l n).a 3 (by omega)
  have pa3 := c_picked (rawAt l n).a 3
  have pb7 := c_picked (rawAt l n).b 7
  refine g_con Try.func13 fun hbx hbad Q hQ => ?_
  refine gov3 5 [.fix, .fix, .fix] [] ?_
  intro bf4 bf8 bf12 W1 S2
  refine g_cells 2 bf4 0 [Vp g] fun f4 => ?_
  refine g_cells 1 bf8 0 [.slice A nf cap] fun f8 => ?_
  refine g_cells 0 bf12 0 [Vi ((d + 1 : Nat) : Int)] fun f12 => ?_
  refine go1 6 [.own, .f 2 0] [] ?_
  intro b3
  refine g_call1 1 (fun H sH => gen_next_any g l sl n _ (hr.sees (S2.trans sH)) (by omega) hlen) ?_; rintro _ _ W4 S5 ⟨rfl, rfl⟩
  refine go1 17 [.own, .b 0 0, .f 0 0, .b 0 0, .cl 9 #[Vi ((rawAt l n).k), Vi 3] (Vi (pickL (rawAt l n).k 3))] [(17, .bool (decide (((d + 1 : Nat) : Int) ≤ 0)), .bool false)] ?_ (ho := (And.intro (fun H sH => c_picked _ 3 _ k0 k1 (by omega) (by omega)) (trivial))) (hc := (And.intro (congrArg Value.bool hd0) (trivial)))
  intro b6
  have gx : GX l sl g bf4 bf8 bf12 (.slice A nf cap) d W4 := ⟨hr.sees (S2.trans S5), f4.sees S5, f8.sees S5, f12.sees S5⟩
  have mn := fun (op : Int) (ks : List Int) (hks : ks.length ≤ 3) (hk1 : ∀ k ∈ ks, 1 ≤ k ∧ k ≤ 3) (H : Vw) (b : Nat) (q : GX l sl g bf4 bf8 bf12 (.slice A nf cap) d H) (c : Cells H b 0 (intRows ks).flatten) (m' : List Nat) (hg' : g ∈ m') (hF : IsFds ⟨H.w, m'⟩ (.slice A nf cap) fs) => many op ks _ _ _ _ _ m' H q.raw (by omega) hks hk1 (rs_ints ks (by unfold maxLen; omega) c) hF hg' q.c4 q.c8 q.c12
  have fin := fun (op : Int) (ks : List Int) (u : Value) (q : genE l fs (d + 1) kind n = (opE op (manyE (genE l fs d) ks (atNext l n)).1, (manyE (genE l fs d) ks (atNext l n)).2)) (h' : Vw) (hu : IsArgs h' (opE op (manyE (genE l fs d) ks (atNext l n)).1) (.slice (sA u) (sN u) (sC u))) s hc => hQ.toB (s := s) (h := h') [.agg #[.int .i64 (opE op (manyE (genE l fs d) ks (atNext l n)).1).op, .int .i64 (opE op (manyE (genE l fs d) ks (atNext l n)).1).k, .int .i64 (opE op (manyE (genE l fs d) ks (atNext l n)).1).n, .string (opE op (manyE (genE l fs d) ks (atNext l n)).1).s, .string (opE op (manyE (genE l fs d) ks (atNext l n)).1).nm, .slice (sA u) (sN u) (sC u)]] [[sl, .int .i64 (((manyE (genE l fs d) ks (atNext l n)).2 : Nat) : Int)]] (fun H sH => expr_end q rfl rfl (hu.sees sH)) [1] hc
  by_cases q3 : pickL (rawAt l n).k 3 = 0
  · refine g_true (t := (pickL (rawAt l n).k 3) == 0) (beq_iff_eq.2 q3) ?_
    refine go0 5 [.f 2 0, .f 1 0] [] ?_
    refine g_call1J 2 (fun a w hJ => leaf_any g l sl (atNext l n) kind fs _ _ _ (hr.sees (S2.trans (S5.trans hJ.j.sees))) (by omega) hlen hok h1 h3 (hf.sees (hJ.j.lent hm)) hfs (List.mem_append_right _ hg)) ?_; rintro _ _ W7 S8 ⟨rfl, rfl⟩
    refine go0 5 [.b 1 0] [] ?_
    refine hQ.toB [.agg #[Vi ((leafE (rawAt l (atNext l n)) fs kind).op), Vi ((leafE (rawAt l (atNext l n)) fs kind).k), Vi ((leafE (rawAt l (atNext l n)) fs kind).n), .string ((leafE (rawAt l (atNext l n)) fs kind).s), .string ((leafE (rawAt l (atNext l n)) fs kind).nm), Vz]] [[sl, Vi ((atNext l (atNext l n) : Nat) : Int)]] (fun H sH => ?_) (ix := [1])
    exact expr_end (u := Vz) (genE_leaf q3) rfl rfl (args_nil _ _ (leaf_args _ _ _))
  · skip
    refine g_false (t := (pickL (rawAt l n).k 3) == 0) (beq_eq_false_iff_ne.2 q3) ?_
    refine go0 17 [.b 0 1, .cl 9 #[Vi ((rawAt l n).a), Vi 6] (Vi (pickL (rawAt l n).a 6))] [] ?_ (ho := (And.intro (fun H sH => c_picked _ 6 _ a0 a1 (by omega) (by omega)) (trivial)))
    obtain rfl | rfl | rfl : kind = 1 ∨ kind = 2 ∨ kind = 3 := by omega
    · skip
      by_cases q6 : pickL (rawAt l n).a 6 = 0
      · refine g_true (t := (pickL (rawAt l n).a 6) == 0) (beq_iff_eq.2 q6) ?_
        refine gov1 6 [.fix] [] ?_
        intro bfk W9 S10
        refine g_cells 0 bfk 0 [Vi 2, Vi 1, Vi 1] fun fk => ?_
        refine g_call1J 2 (fun a w hJ => mn 17 [2, 1, 1] (by decide) (by decide) _ _ (gx.sees (S10.trans hJ.j.sees)) (fk.sees hJ.j.sees) _ (List.mem_append_right _ hg) (hf.sees (hJ.j.lent hm))) ?_; rintro _ _ W11 S12 ⟨u, rfl, rfl, fu⟩
        refine go0 5 [.b 1 0] [] ?_
        exact fin 17 [2, 1, 1] _ (genE_with q3 (by unfold pickE; rw [if_pos q6])) _ fu _ (by kernel_rfl)
      · skip
        obtain q7 | q7 | q7 | q7 | q7 | q7 | q7 : pickL (rawAt l n).b 7 = 0 ∨ pickL (rawAt l n).b 7 = 1 ∨ pickL (rawAt l n).b 7 = 2 ∨ pickL (rawAt l n).b 7 = 3 ∨ pickL (rawAt l n).b 7 = 4 ∨ pickL (rawAt l n).b 7 = 5 ∨ pickL (rawAt l n).b 7 = 6 := by omega
        · skip
          rw [q7] at pb7
          refine g_false (t := (pickL (rawAt l n).a 6) == 0) (beq_eq_false_iff_ne.2 q6) ?_
          refine gov1 41 [.b 0 2, .cl 9 #[Vi ((rawAt l n).b), Vi 7] (Vi 0), .fix] [] ?_ (ho := (And.intro (fun H sH => pb7 _ rb0 rb1 (by omega) (by omega)) (trivial)))
          intro bfk W13 S14
          refine g_cells 0 bfk 0 [Vi 1] fun fk => ?_
          refine g_call1J 2 (fun a w hJ => mn 3 [1] (by decide) (by decide) _ _ (gx.sees (S14.trans hJ.j.sees)) (fk.sees hJ.j.sees) _ (List.mem_append_right _ hg) (hf.sees (hJ.j.lent hm))) ?_; rintro _ _ W15 S16 ⟨u, rfl, rfl, fu⟩
          refine go0 7 [.b 1 0] [] ?_
          exact fin 3 [1] _ (genE_with q3 (by unfold pickE; rw [if_neg q6, q7]; rfl)) _ fu _ (by kernel_rfl)
        · skip
          rw [q7] at pb7
          refine g_false (t := (pickL (rawAt l n).a 6) == 0) (beq_eq_false_iff_ne.2 q6) ?_
          refine gov1 48 [.b 0 2, .cl 9 #[Vi ((rawAt l n).b), Vi 7] (Vi 1), .fix] [] ?_ (ho := (And.intro (fun H sH => pb7 _ rb0 rb1 (by omega) (by omega)) (trivial)))
          intro bfk W17 S18
          refine g_cells 0 bfk 0 [Vi 3] fun fk => ?_
          refine g_call1J 2 (fun a w hJ => mn 18 [3] (by decide) (by decide) _ _ (gx.sees (S18.trans hJ.j.sees)) (fk.sees hJ.j.sees) _ (List.mem_append_right _ hg) (hf.sees (hJ.j.lent hm))) ?_; rintro _ _ W19 S20 ⟨u, rfl, rfl, fu⟩
          refine go0 7 [.b 1 0] [] ?_
          exact fin 18 [3] _ (genE_with q3 (by unfold pickE; rw [if_neg q6, q7]; rfl)) _ fu _ (by kernel_rfl)
        · skip
          rw [q7] at pb7
          refine g_false (t := (pickL (rawAt l n).a 6) == 0) (beq_eq_false_iff_ne.2 q6) ?_
          refine gov2 53 [.b 0 2, .cl 9 #[Vi ((rawAt l n).b), Vi 7] (Vi 2), .fix, .pu, .f 0 0, .fix] [] ?_ (ho := (And.intro (fun H sH => pb7 _ rb0 rb1 (by omega) (by omega)) (trivial)))
          intro b21 bfk W22 S23
          refine g_cells 0 bfk 0 [Vi 1, Vi 1] fun fk => ?_
          refine g_call1J 2 (fun a w hJ => mn 5 [1, 1] (by decide) (by decide) _ _ (gx.sees (S23.trans hJ.j.sees)) (fk.sees hJ.j.sees) _ (List.mem_append_right _ hg) (hf.sees (hJ.j.lent hm))) ?_; rintro _ _ W24 S25 ⟨u, rfl, rfl, fu⟩
          refine go0 7 [.b 1 0] [] ?_
          exact fin 5 [1, 1] _ (genE_with q3 (by unfold pickE; rw [if_neg q6, q7]; rfl)) _ fu _ (by kernel_rfl)
        · skip
          rw [q7] at pb7
          refine g_false (t := (pickL (rawAt l n).a 6) == 0) (beq_eq_false_iff_ne.2 q6) ?_
          refine gov2 53 [.b 0 2, .cl 9 #[Vi ((rawAt l n).b), Vi 7] (Vi 3), .fix, .pu, .f 0 1, .fix] [] ?_ (ho := (And.intro (fun H sH => pb7 _ rb0 rb1 (by omega) (by omega)) (trivial)))
          intro b26 bfk W27 S28
          refine g_cells 0 bfk 0 [Vi 1, Vi 1] fun fk => ?_
          refine g_call1J 2 (fun a w hJ => mn 6 [1, 1] (by decide) (by decide) _ _ (gx.sees (S28.trans hJ.j.sees)) (fk.sees hJ.j.sees) _ (List.mem_append_right _ hg) (hf.sees (hJ.j.lent hm))) ?_; rintro _ _ W29 S30 ⟨u, rfl, rfl, fu⟩
          refine go0 7 [.b 1 0] [] ?_
          exact fin 6 [1, 1] _ (genE_with q3 (by unfold pickE; rw [if_neg q6, q7]; rfl)) _ fu _ (by kernel_rfl)
        · skip
          rw [q7] at pb7
          refine g_false (t := (pickL (rawAt l n).a 6) == 0) (beq_eq_false_iff_ne.2 q6) ?_
          refine gov2 53 [.b 0 2, .cl 9 #[Vi ((rawAt l n).b), Vi 7] (Vi 4), .fix, .pu, .f 0 2, .fix] [] ?_ (ho := (And.intro (fun H sH => pb7 _ rb0 rb1 (by omega) (by omega)) (trivial)))
          intro b31 bfk W32 S33
          refine g_cells 0 bfk 0 [Vi 1, Vi 1] fun fk => ?_
          refine g_call1J 2 (fun a w hJ => mn 7 [1, 1] (by decide) (by decide) _ _ (gx.sees (S33.trans hJ.j.sees)) (fk.sees hJ.j.sees) _ (List.mem_append_right _ hg) (hf.sees (hJ.j.lent hm))) ?_; rintro _ _ W34 S35 ⟨u, rfl, rfl, fu⟩
          refine go0 7 [.b 1 0] [] ?_
          exact fin 7 [1, 1] _ (genE_with q3 (by unfold pickE; rw [if_neg q6, q7]; rfl)) _ fu _ (by kernel_rfl)
        · skip
          rw [q7] at pb7
          refine g_false (t := (pickL (rawAt l n).a 6) == 0) (beq_eq_false_iff_ne.2 q6) ?_
          refine gov2 53 [.b 0 2, .cl 9 #[Vi ((rawAt l n).b), Vi 7] (Vi 5), .fix, .pu, .f 0 3, .fix] [] ?_ (ho := (And.intro (fun H sH => pb7 _ rb0 rb1 (by omega) (by omega)) (trivial)))
          intro b36 bfk W37 S38
          refine g_cells 0 bfk 0 [Vi 1, Vi 1] fun fk => ?_
          refine g_call1J 2 (fun a w hJ => mn 8 [1, 1] (by decide) (by decide) _ _ (gx.sees (S38.trans hJ.j.sees)) (fk.sees hJ.j.sees) _ (List.mem_append_right _ hg) (hf.sees (hJ.j.lent hm))) ?_; rintro _ _ W39 S40 ⟨u, rfl, rfl, fu⟩
          refine go0 7 [.b 1 0] [] ?_
          exact fin 8 [1, 1] _ (genE_with q3 (by unfold pickE; rw [if_neg q6, q7]; rfl)) _ fu _ (by kernel_rfl)
        · skip
          rw [q7] at pb7
          refine g_false (t := (pickL (rawAt l n).a 6) == 0) (beq_eq_false_iff_ne.2 q6) ?_
          refine gov2 53 [.b 0 2, .cl 9 #[Vi ((rawAt l n).b), Vi 7] (Vi 6), .fix, .pu, .f 0 4, .fix] [] ?_ (ho := (And.intro (fun H sH => pb7 _ rb0 rb1 (by omega) (by omega)) (trivial)))
          intro b41 bfk W42 S43
          refine g_cells 0 bfk 0 [Vi 1, Vi 1] fun fk => ?_
          refine g_call1J 2 (fun a w hJ => mn 9 [1, 1] (by decide) (by decide) _ _ (gx.sees (S43.trans hJ.j.sees)) (fk.sees hJ.j.sees) _ (List.mem_append_right _ hg) (hf.sees (hJ.j.lent hm))) ?_; rintro _ _ W44 S45 ⟨u, rfl, rfl, fu⟩
          refine go0 7 [.b 1 0] [] ?_
          exact fin 9 [1, 1] _ (genE_with q3 (by unfold pickE; rw [if_neg q6, q7]; rfl)) _ fu _ (by kernel_rfl)
    · skip
      by_cases q6 : pickL (rawAt l n).a 6 = 0
      · refine g_true (t := (pickL (rawAt l n).a 6) == 0) (beq_iff_eq.2 q6) ?_
        refine gov1 6 [.fix] [] ?_
        intro bfk W46 S47
        refine g_cells 0 bfk 0 [Vi 2, Vi 2, Vi 2] fun fk => ?_
        refine g_call1J 2 (fun a w hJ => mn 17 [2, 2, 2] (by decide) (by decide) _ _ (gx.sees (S47.trans hJ.j.sees)) (fk.sees hJ.j.sees) _ (List.mem_append_right _ hg) (hf.sees (hJ.j.lent hm))) ?_; rintro _ _ W48 S49 ⟨u, rfl, rfl, fu⟩
        refine go0 5 [.b 1 0] [] ?_
        exact fin 17 [2, 2, 2] _ (genE_with q3 (by unfold pickE; rw [if_pos q6])) _ fu _ (by kernel_rfl)
      · skip
        obtain q7 | q7 | q7 | q7 | q7 | q7 | q7 : pickL (rawAt l n).b 7 = 0 ∨ pickL (rawAt l n).b 7 = 1 ∨ pickL (rawAt l n).b 7 = 2 ∨ pickL (rawAt l n).b 7 = 3 ∨ pickL (rawAt l n).b 7 = 4 ∨ pickL (rawAt l n).b 7 = 5 ∨ pickL (rawAt l n).b 7 = 6 := by omega
        · skip
          rw [q7] at pb7
          refine g_false (t := (pickL (rawAt l n).a 6) == 0) (beq_eq_false_iff_ne.2 q6) ?_
          refine gov1 44 [.b 0 2, .cl 9 #[Vi ((rawAt l n).b), Vi 7] (Vi 0), .fix] [] ?_ (ho := (And.intro (fun H sH => pb7 _ rb0 rb1 (by omega) (by omega)) (trivial)))
          intro bfk W50 S51
          refine g_cells 0 bfk 0 [Vi 2] fun fk => ?_
          refine g_call1J 2 (fun a w hJ => mn 4 [2] (by decide) (by decide) _ _ (gx.sees (S51.trans hJ.j.sees)) (fk.sees hJ.j.sees) _ (List.mem_append_right _ hg) (hf.sees (hJ.j.lent hm))) ?_; rintro _ _ W52 S53 ⟨u, rfl, rfl, fu⟩
          refine go0 7 [.b 1 0] [] ?_
          exact fin 4 [2] _ (genE_with q3 (by unfold pickE; rw [if_neg q6, q7]; rfl)) _ fu _ (by kernel_rfl)
        · skip
          rw [q7] at pb7
          refine g_false (t := (pickL (rawAt l n).a 6) == 0) (beq_eq_false_iff_ne.2 q6) ?_
          refine gov1 55 [.b 0 2, .cl 9 #[Vi ((rawAt l n).b), Vi 7] (Vi 1), .fix] [] ?_ (ho := (And.intro (fun H sH => pb7 _ rb0 rb1 (by omega) (by omega)) (trivial)))
          intro bfk W54 S55
          refine g_cells 0 bfk 0 [Vi 2, Vi 2] fun fk => ?_
          refine g_call1J 2 (fun a w hJ => mn 15 [2, 2] (by decide) (by decide) _ _ (gx.sees (S55.trans hJ.j.sees)) (fk.sees hJ.j.sees) _ (List.mem_append_right _ hg) (hf.sees (hJ.j.lent hm))) ?_; rintro _ _ W56 S57 ⟨u, rfl, rfl, fu⟩
          refine go0 7 [.b 1 0] [] ?_
          exact fin 15 [2, 2] _ (genE_with q3 (by unfold pickE; rw [if_neg q6, q7]; rfl)) _ fu _ (by kernel_rfl)
        · skip
          rw [q7] at pb7
          refine g_false (t := (pickL (rawAt l n).a 6) == 0) (beq_eq_false_iff_ne.2 q6) ?_
          refine gov1 55 [.b 0 2, .cl 9 #[Vi ((rawAt l n).b), Vi 7] (Vi 2), .fix] [] ?_ (ho := (And.intro (fun H sH => pb7 _ rb0 rb1 (by omega) (by omega)) (trivial)))
          intro bfk W58 S59
          refine g_cells 0 bfk 0 [Vi 2, Vi 2] fun fk => ?_
          refine g_call1J 2 (fun a w hJ => mn 16 [2, 2] (by decide) (by decide) _ _ (gx.sees (S59.trans hJ.j.sees)) (fk.sees hJ.j.sees) _ (List.mem_append_right _ hg) (hf.sees (hJ.j.lent hm))) ?_; rintro _ _ W60 S61 ⟨u, rfl, rfl, fu⟩
          refine go0 7 [.b 1 0] [] ?_
          exact fin 16 [2, 2] _ (genE_with q3 (by unfold pickE; rw [if_neg q6, q7]; rfl)) _ fu _ (by kernel_rfl)
        · skip
          rw [q7] at pb7
          obtain q4 | q4 | q4 : pickL (rawAt l n).a 3 = 0 ∨ pickL (rawAt l n).a 3 = 1 ∨ pickL (rawAt l n).a 3 = 2 := by omega
          · skip
            rw [q4] at pa3
            refine g_false (t := (pickL (rawAt l n).a 6) == 0) (beq_eq_false_iff_ne.2 q6) ?_
            refine gov1 66 [.b 0 2, .cl 9 #[Vi ((rawAt l n).b), Vi 7] (Vi 3), .b 0 1, .cl 9 #[Vi ((rawAt l n).a), Vi 3] (Vi 0), .fix] [] ?_ (ho := (And.intro (fun H sH => pb7 _ rb0 rb1 (by omega) (by omega)) (And.intro (fun H sH => pa3 _ a0 a1 (by omega) (by omega)) (trivial))))
            intro bfk W62 S63
            refine g_cells 0 bfk 0 [Vi 1, Vi 1] fun fk => ?_
            refine g_call1J 2 (fun a w hJ => mn 11 [1, 1] (by decide) (by decide) _ _ (gx.sees (S63.trans hJ.j.sees)) (fk.sees hJ.j.sees) _ (List.mem_append_right _ hg) (hf.sees (hJ.j.lent hm))) ?_; rintro _ _ W64 S65 ⟨u, rfl, rfl, fu⟩
            refine go0 7 [.b 1 0] [] ?_
            exact fin 11 [1, 1] _ (genE_with q3 (by unfold pickE; rw [if_neg q6, q7, q4]; rfl)) _ fu _ (by kernel_rfl)
          · skip
            rw [q4] at pa3
            refine g_false (t := (pickL (rawAt l n).a 6) == 0) (beq_eq_false_iff_ne.2 q6) ?_
            refine gov1 66 [.b 0 2, .cl 9 #[Vi ((rawAt l n).b), Vi 7] (Vi 3), .b 0 1, .cl 9 #[Vi ((rawAt l n).a), Vi 3] (Vi 1), .fix] [] ?_ (ho := (And.intro (fun H sH => pb7 _ rb0 rb1 (by omega) (by omega)) (And.intro (fun H sH => pa3 _ a0 a1 (by omega) (by omega)) (trivial))))
            intro bfk W66 S67
            refine g_cells 0 bfk 0 [Vi 2, Vi 2] fun fk => ?_
            refine g_call1J 2 (fun a w hJ => mn 11 [2, 2] (by decide) (by decide) _ _ (gx.sees (S67.trans hJ.j.sees)) (fk.sees hJ.j.sees) _ (List.mem_append_right _ hg) (hf.sees (hJ.j.lent hm))) ?_; rintro _ _ W68 S69 ⟨u, rfl, rfl, fu⟩
            refine go0 7 [.b 1 0] [] ?_
            exact fin 11 [2, 2] _ (genE_with q3 (by unfold pickE; rw [if_neg q6, q7, q4]; rfl)) _ fu _ (by kernel_rfl)
          · skip
            rw [q4] at pa3
            refine g_false (t := (pickL (rawAt l n).a 6) == 0) (beq_eq_false_iff_ne.2 q6) ?_
            refine gov1 66 [.b 0 2, .cl 9 #[Vi ((rawAt l n).b), Vi 7] (Vi 3), .b 0 1, .cl 9 #[Vi ((rawAt l n).a), Vi 3] (Vi 2), .fix] [] ?_ (ho := (And.intro (fun H sH => pb7 _ rb0 rb1 (by omega) (by omega)) (And.intro (fun H sH => pa3 _ a0 a1 (by omega) (by omega)) (trivial))))
            intro bfk W70 S71
            refine g_cells 0 bfk 0 [Vi 3, Vi 3] fun fk => ?_
            refine g_call1J 2 (fun a w hJ => mn 11 [3, 3] (by decide) (by decide) _ _ (gx.sees (S71.trans hJ.j.sees)) (fk.sees hJ.j.sees) _ (List.mem_append_right _ hg) (hf.sees (hJ.j.lent hm))) ?_; rintro _ _ W72 S73 ⟨u, rfl, rfl, fu⟩
            refine go0 7 [.b 1 0] [] ?_
            exact fin 11 [3, 3] _ (genE_with q3 (by unfold pickE; rw [if_neg q6, q7, q4]; rfl)) _ fu _ (by kernel_rfl)
        · skip
          rw [q7] at pb7
          obtain q4 | q4 | q4 : pickL (rawAt l n).a 3 = 0 ∨ pickL (rawAt l n).a 3 = 1 ∨ pickL (rawAt l n).a 3 = 2 := by omega
          · skip
            rw [q4] at pa3
            refine g_false (t := (pickL (rawAt l n).a 6) == 0) (beq_eq_false_iff_ne.2 q6) ?_
            refine gov1 66 [.b 0 2, .cl 9 #[Vi ((rawAt l n).b), Vi 7] (Vi 4), .b 0 1, .cl 9 #[Vi ((rawAt l n).a), Vi 3] (Vi 0), .fix] [] ?_ (ho := (And.intro (fun H sH => pb7 _ rb0 rb1 (by omega) (by omega)) (And.intro (fun H sH => pa3 _ a0 a1 (by omega) (by omega)) (trivial))))
            intro bfk W74 S75
            refine g_cells 0 bfk 0 [Vi 1, Vi 1] fun fk => ?_
            refine g_call1J 2 (fun a w hJ => mn 12 [1, 1] (by decide) (by decide) _ _ (gx.sees (S75.trans hJ.j.sees)) (fk.sees hJ.j.sees) _ (List.mem_append_right _ hg) (hf.sees (hJ.j.lent hm))) ?_; rintro _ _ W76 S77 ⟨u, rfl, rfl, fu⟩
            refine go0 7 [.b 1 0] [] ?_
            exact fin 12 [1, 1] _ (genE_with q3 (by unfold pickE; rw [if_neg q6, q7, q4]; rfl)) _ fu _ (by kernel_rfl)
          · skip
            rw [q4] at pa3
            refine g_false (t := (pickL (rawAt l n).a 6) == 0) (beq_eq_false_iff_ne.2 q6) ?_
            refine gov1 66 [.b 0 2, .cl 9 #[Vi ((rawAt l n).b), Vi 7] (Vi 4), .b 0 1, .cl 9 #[Vi ((rawAt l n).a), Vi 3] (Vi 1), .fix] [] ?_ (ho := (And.intro (fun H sH => pb7 _ rb0 rb1 (by omega) (by omega)) (And.intro (fun H sH => pa3 _ a0 a1 (by omega) (by omega)) (trivial))))
            intro bfk W78 S79
            refine g_cells 0 bfk 0 [Vi 2, Vi 2] fun fk => ?_
            refine g_call1J 2 (fun a w hJ => mn 12 [2, 2] (by decide) (by decide) _ _ (gx.sees (S79.trans hJ.j.sees)) (fk.sees hJ.j.sees) _ (List.mem_append_right _ hg) (hf.sees (hJ.j.lent hm))) ?_; rintro _ _ W80 S81 ⟨u, rfl, rfl, fu⟩
            refine go0 7 [.b 1 0] [] ?_
            exact fin 12 [2, 2] _ (genE_with q3 (by unfold pickE; rw [if_neg q6, q7, q4]; rfl)) _ fu _ (by kernel_rfl)
          · skip
            rw [q4] at pa3
            refine g_false (t := (pickL (rawAt l n).a 6) == 0) (beq_eq_false_iff_ne.2 q6) ?_
            refine gov1 66 [.b 0 2, .cl 9 #[Vi ((rawAt l n).b), Vi 7] (Vi 4), .b 0 1, .cl 9 #[Vi ((rawAt l n).a), Vi 3] (Vi 2), .fix] [] ?_ (ho := (And.intro (fun H sH => pb7 _ rb0 rb1 (by omega) (by omega)) (And.intro (fun H sH => pa3 _ a0 a1 (by omega) (by omega)) (trivial))))
            intro bfk W82 S83
            refine g_cells 0 bfk 0 [Vi 3, Vi 3] fun fk => ?_
            refine g_call1J 2 (fun a w hJ => mn 12 [3, 3] (by decide) (by decide) _ _ (gx.sees (S83.trans hJ.j.sees)) (fk.sees hJ.j.sees) _ (List.mem_append_right _ hg) (hf.sees (hJ.j.lent hm))) ?_; rintro _ _ W84 S85 ⟨u, rfl, rfl, fu⟩
            refine go0 7 [.b 1 0] [] ?_
            exact fin 12 [3, 3] _ (genE_with q3 (by unfold pickE; rw [if_neg q6, q7, q4]; rfl)) _ fu _ (by kernel_rfl)
        · skip
          rw [q7] at pb7
          obtain q4 | q4 | q4 : pickL (rawAt l n).a 3 = 0 ∨ pickL (rawAt l n).a 3 = 1 ∨ pickL (rawAt l n).a 3 = 2 := by omega
          · skip
            rw [q4] at pa3
            refine g_false (t := (pickL (rawAt l n).a 6) == 0) (beq_eq_false_iff_ne.2 q6) ?_
            refine gov1 66 [.b 0 2, .cl 9 #[Vi ((rawAt l n).b), Vi 7] (Vi 5), .b 0 1, .cl 9 #[Vi ((rawAt l n).a), Vi 3] (Vi 0), .fix] [] ?_ (ho := (And.intro (fun H sH => pb7 _ rb0 rb1 (by omega) (by omega)) (And.intro (fun H sH => pa3 _ a0 a1 (by omega) (by omega)) (trivial))))
            intro bfk W86 S87
            refine g_cells 0 bfk 0 [Vi 1, Vi 1] fun fk => ?_
            refine g_call1J 2 (fun a w hJ => mn 13 [1, 1] (by decide) (by decide) _ _ (gx.sees (S87.trans hJ.j.sees)) (fk.sees hJ.j.sees) _ (List.mem_append_right _ hg) (hf.sees (hJ.j.lent hm))) ?_; rintro _ _ W88 S89 ⟨u, rfl, rfl, fu⟩
            refine go0 7 [.b 1 0] [] ?_
            exact fin 13 [1, 1] _ (genE_with q3 (by unfold pickE; rw [if_neg q6, q7, q4]; rfl)) _ fu _ (by kernel_rfl)
          · skip
            rw [q4] at pa3
            refine g_false (t := (pickL (rawAt l n).a 6) == 0) (beq_eq_false_iff_ne.2 q6) ?_
            refine gov1 66 [.b 0 2, .cl 9 #[Vi ((rawAt l n).b), Vi 7] (Vi 5), .b 0 1, .cl 9 #[Vi ((rawAt l n).a), Vi 3] (Vi 1), .fix] [] ?_ (ho := (And.intro (fun H sH => pb7 _ rb0 rb1 (by omega) (by omega)) (And.intro (fun H sH => pa3 _ a0 a1 (by omega) (by omega)) (trivial))))
            intro bfk W90 S91
            refine g_cells 0 bfk 0 [Vi 2, Vi 2] fun fk => ?_
            refine g_call1J 2 (fun a w hJ => mn 13 [2, 2] (by decide) (by decide) _ _ (gx.sees (S91.trans hJ.j.sees)) (fk.sees hJ.j.sees) _ (List.mem_append_right _ hg) (hf.sees (hJ.j.lent hm))) ?_; rintro _ _ W92 S93 ⟨u, rfl, rfl, fu⟩
            refine go0 7 [.b 1 0] [] ?_
            exact fin 13 [2, 2] _ (genE_with q3 (by unfold pickE; rw [if_neg q6, q7, q4]; rfl)) _ fu _ (by kernel_rfl)
          · skip
            rw [q4] at pa3
            refine g_false (t := (pickL (rawAt l n).a 6) == 0) (beq_eq_false_iff_ne.2 q6) ?_
            refine gov1 66 [.b 0 2, .cl 9 #[Vi ((rawAt l n).b), Vi 7] (Vi 5), .b 0 1, .cl 9 #[Vi ((rawAt l n).a), Vi 3] (Vi 2), .fix] [] ?_ (ho := (And.intro (fun H sH => pb7 _ rb0 rb1 (by omega) (by omega)) (And.intro (fun H sH => pa3 _ a0 a1 (by omega) (by omega)) (trivial))))
            intro bfk W94 S95
            refine g_cells 0 bfk 0 [Vi 3, Vi 3] fun fk => ?_
            refine g_call1J 2 (fun a w hJ => mn 13 [3, 3] (by decide) (by decide) _ _ (gx.sees (S95.trans hJ.j.sees)) (fk.sees hJ.j.sees) _ (List.mem_append_right _ hg) (hf.sees (hJ.j.lent hm))) ?_; rintro _ _ W96 S97 ⟨u, rfl, rfl, fu⟩
            refine go0 7 [.b 1 0] [] ?_
            exact fin 13 [3, 3] _ (genE_with q3 (by unfold pickE; rw [if_neg q6, q7, q4]; rfl)) _ fu _ (by kernel_rfl)
        · skip
          rw [q7] at pb7
          obtain q4 | q4 | q4 : pickL (rawAt l n).a 3 = 0 ∨ pickL (rawAt l n).a 3 = 1 ∨ pickL (rawAt l n).a 3 = 2 := by omega
          · skip
            rw [q4] at pa3
            refine g_false (t := (pickL (rawAt l n).a 6) == 0) (beq_eq_false_iff_ne.2 q6) ?_
            refine gov1 66 [.b 0 2, .cl 9 #[Vi ((rawAt l n).b), Vi 7] (Vi 6), .b 0 1, .cl 9 #[Vi ((rawAt l n).a), Vi 3] (Vi 0), .fix] [] ?_ (ho := (And.intro (fun H sH => pb7 _ rb0 rb1 (by omega) (by omega)) (And.intro (fun H sH => pa3 _ a0 a1 (by omega) (by omega)) (trivial))))
            intro bfk W98 S99
            refine g_cells 0 bfk 0 [Vi 1, Vi 1] fun fk => ?_
            refine g_call1J 2 (fun a w hJ => mn 14 [1, 1] (by decide) (by decide) _ _ (gx.sees (S99.trans hJ.j.sees)) (fk.sees hJ.j.sees) _ (List.mem_append_right _ hg) (hf.sees (hJ.j.lent hm))) ?_; rintro _ _ W100 S101 ⟨u, rfl, rfl, fu⟩
            refine go0 7 [.b 1 0] [] ?_
            exact fin 14 [1, 1] _ (genE_with q3 (by unfold pickE; rw [if_neg q6, q7, q4]; rfl)) _ fu _ (by kernel_rfl)
          · skip
            rw [q4] at pa3
            refine g_false (t := (pickL (rawAt l n).a 6) == 0) (beq_eq_false_iff_ne.2 q6) ?_
            refine gov1 66 [.b 0 2, .cl 9 #[Vi ((rawAt l n).b), Vi 7] (Vi 6), .b 0 1, .cl 9 #[Vi ((rawAt l n).a), Vi 3] (Vi 1), .fix] [] ?_ (ho := (And.intro (fun H sH => pb7 _ rb0 rb1 (by omega) (by omega)) (And.intro (fun H sH => pa3 _ a0 a1 (by omega) (by omega)) (trivial))))
            intro bfk W102 S103
            refine g_cells 0 bfk 0 [Vi 2, Vi 2] fun fk => ?_
            refine g_call1J 2 (fun a w hJ => mn 14 [2, 2] (by decide) (by decide) _ _ (gx.sees (S103.trans hJ.j.sees)) (fk.sees hJ.j.sees) _ (List.mem_append_right _ hg) (hf.sees (hJ.j.lent hm))) ?_; rintro _ _ W104 S105 ⟨u, rfl, rfl, fu⟩
            refine go0 7 [.b 1 0] [] ?_
            exact fin 14 [2, 2] _ (genE_with q3 (by unfold pickE; rw [if_neg q6, q7, q4]; rfl)) _ fu _ (by kernel_rfl)
          · skip
            rw [q4] at pa3
            refine g_false (t := (pickL (rawAt l n).a 6) == 0) (beq_eq_false_iff_ne.2 q6) ?_
            refine gov1 66 [.b 0 2, .cl 9 #[Vi ((rawAt l n).b), Vi 7] (Vi 6), .b 0 1, .cl 9 #[Vi ((rawAt l n).a), Vi 3] (Vi 2), .fix] [] ?_ (ho := (And.intro (fun H sH => pb7 _ rb0 rb1 (by omega) (by omega)) (And.intro (fun H sH => pa3 _ a0 a1 (by omega) (by omega)) (trivial))))
            intro bfk W106 S107
            refine g_cells 0 bfk 0 [Vi 3, Vi 3] fun fk => ?_
            refine g_call1J 2 (fun a w hJ => mn 14 [3, 3] (by decide) (by decide) _ _ (gx.sees (S107.trans hJ.j.sees)) (fk.sees hJ.j.sees) _ (List.mem_append_right _ hg) (hf.sees (hJ.j.lent hm))) ?_; rintro _ _ W108 S109 ⟨u, rfl, rfl, fu⟩
            refine go0 7 [.b 1 0] [] ?_
            exact fin 14 [3, 3] _ (genE_with q3 (by unfold pickE; rw [if_neg q6, q7, q4]; rfl)) _ fu _ (by kernel_rfl)
    · skip
      by_cases q6 : pickL (rawAt l n).a 6 = 0
      · refine g_true (t := (pickL (rawAt l n).a 6) == 0) (beq_iff_eq.2 q6) ?_
        refine gov1 6 [.fix] [] ?_
        intro bfk W110 S111
        refine g_cells 0 bfk 0 [Vi 2, Vi 3, Vi 3] fun fk => ?_
        refine g_call1J 2 (fun a w hJ => mn 17 [2, 3, 3] (by decide) (by decide) _ _ (gx.sees (S111.trans hJ.j.sees)) (fk.sees hJ.j.sees) _ (List.mem_append_right _ hg) (hf.sees (hJ.j.lent hm))) ?_; rintro _ _ W112 S113 ⟨u, rfl, rfl, fu⟩
        refine go0 5 [.b 1 0] [] ?_
        exact fin 17 [2, 3, 3] _ (genE_with q3 (by unfold pickE; rw [if_pos q6])) _ fu _ (by kernel_rfl)
      · skip
        refine g_false (t := (pickL (rawAt l n).a 6) == 0) (beq_eq_false_iff_ne.2 q6) ?_
        refine gov1 30 [.fix] [] ?_
        intro bfk W114 S115
        refine g_cells 0 bfk 0 [Vi 3, Vi 3] fun fk => ?_
        refine g_call1J 2 (fun a w hJ => mn 10 [3, 3] (by decide) (by decide) _ _ (gx.sees (S115.trans hJ.j.sees)) (fk.sees hJ.j.sees) _ (List.mem_append_right _ hg) (hf.sees (hJ.j.lent hm))) ?_; rintro _ _ W116 S117 ⟨u, rfl, rfl, fu⟩
        refine go0 4 [.b 1 0] [] ?_
        exact fin 10 [3, 3] _ (genE_with q3 (by unfold pickE; rw [if_neg q6]; rfl)) _ fu _ (by kernel_rfl)

theorem exprC_all (l : List RawD) (fs : List Fd) (hlen : l.length * 40 ≤ reachBytes) (hok : ∀ r ∈ l, r.ok) (hfs : fs.length ≤ 100) : ∀ d, d < 1000 → ExprC l fs d
  | 0, _ => expr_zero l fs hlen hok hfs
  | d + 1, hd => expr_succ l fs hlen hok hfs d (by omega) (exprC_all l fs hlen hok hfs d (by omega))

end Go.Proofs.Ythgcgciceejicaa
