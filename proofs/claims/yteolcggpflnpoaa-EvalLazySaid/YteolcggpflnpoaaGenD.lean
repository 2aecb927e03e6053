/-
  Contracts of the generator's formulas: several arguments.
-/
import Derived.Test.YteolcggpflnpoaaGenC
namespace Go.Proofs.Yteolcggpflnpoaa
open Go.RowKit

abbrev intRows (l : List Int) : List (List Value) := l.map (fun k => [.int .i64 k])

/-- The contract of a formula of depth d. -/
def ExprC (l : List RawD) (fs : List Fd) (d : Nat) : Prop :=
  ∀ (g : Nat) (sl : Value) (n : Nat) (kind : Int) (fv : Value) (m : List Nat) (h : Vw), RS h 4 sl (l.map RawD.cs) → n + bnd d < 100000 → 1 ≤ kind → kind ≤ 3 → IsFds ⟨h.w, m⟩ fv fs → g ∈ m →
    C1 Try.prog 39 #[.pointer (some ⟨g, 0, none⟩), .int .i64 kind, fv, .int .i64 (d : Int)] h g [sl, .int .i64 (n : Int)]
      (fun v cs' h' => ∃ u, v = .agg #[.int .i64 ((genE l fs d kind n).1).op, .int .i64 ((genE l fs d kind n).1).k, .int .i64 ((genE l fs d kind n).1).n, .string ((genE l fs d kind n).1).s, .string ((genE l fs d kind n).1).nm, .slice (sA u) (sN u) (sC u)] ∧ cs' = [sl, .int .i64 (((genE l fs d kind n).2 : Nat) : Int)] ∧ IsArgs h' (genE l fs d kind n).1 (.slice (sA u) (sN u) (sC u)))

set_option maxRecDepth 100000 in
theorem many_any (l : List RawD) (fs : List Fd) (d : Nat) (hd : d < 1000) (IH : ExprC l fs d) (g : Nat) (sl : Value) (n : Nat) (op : Int) (ks : List Int) (kv fv : Value) (b4 b6 b7 : Nat) (m : List Nat) (h : Vw) (hr : RS h 4 sl (l.map RawD.cs)) (hn : n + 3 * bnd d < 100000) (hks : ks.length ≤ 3)
    (hk1 : ∀ k ∈ ks, 1 ≤ k ∧ k ≤ 3) (hkv : RS h 1 kv (intRows ks)) (hf : IsFds ⟨h.w, m⟩ fv fs) (hg : g ∈ m) (f4 : Cells h b4 0 [.pointer (some ⟨g, 0, none⟩)]) (f6 : Cells h b6 0 [fv]) (f7 : Cells h b7 0 [.int .i64 ((d + 1 : Nat) : Int)]) :
    C1 Try.prog 62 #[.int .i64 op, kv, .pointer (some ⟨b4, 0, none⟩), .pointer (some ⟨b6, 0, none⟩), .pointer (some ⟨b7, 0, none⟩)] h g [sl, .int .i64 (n : Int)]
      (fun v cs' h' => ∃ u, v = .agg #[.int .i64 (opE op (manyE (genE l fs d) ks n).1).op, .int .i64 (opE op (manyE (genE l fs d) ks n).1).k, .int .i64 (opE op (manyE (genE l fs d) ks n).1).n, .string (opE op (manyE (genE l fs d) ks n).1).s, .string (opE op (manyE (genE l fs d) ks n).1).nm, .slice (sA u) (sN u) (sC u)] ∧ cs' = [sl, .int .i64 (((manyE (genE l fs d) ks n).2 : Nat) : Int)] ∧ IsArgs h' (opE op (manyE (genE l fs d) ks n).1) (.slice (sA u) (sN u) (sC u))) := by
  obtain ⟨A, cap, rfl, hc1, hc2, -⟩ := hkv.form
  rw [List.length_map] at hc1 hkv ⊢
  have hm : ∀ b ∈ [g], b ∈ m := fun b hb => by simp at hb; rw [hb]; exact hg
  generalize hL : ks.length = len at *
  refine con_start Try.func62 rfl (N := 32) rfl (by kernel_rfl) ?_
  intro hbx hbad Q hQ a w hJ
  replace hJ : J ⟨32, h.w, h.bad, [g]⟩ [(0, .int .i64 op), (1, .slice A len cap), (2, .pointer (some ⟨b4, 0, none⟩)), (3, .pointer (some ⟨b6, 0, none⟩)), (4, .pointer (some ⟨b7, 0, none⟩))] [.box g [sl, .int .i64 (n : Int)]] h a w := hJ.to (by kernel_rfl) (by kernel_rfl)
  replace hJ := hJ.nilrow 38 6
  refine wp_seq ?_
  refine wp_region_lit ?_
  refine s_new hJ 7 (fun g => .pointer (some ⟨g, 0, none⟩)) [.int .i64 0, .int .i64 0, .int .i64 0, .string ⟨#[]⟩, .string ⟨#[]⟩, .slice none 0 0] 38 (by kernel_rfl) (fun _ => by kernel_rfl) ?_; clear hJ a w; intro b1 a w hJ
  refine wpList_nil ?_
  refine then_normal ?_
  refine wp_seq ?_
  refine wp_region_lit ?_
  refine s_pure hJ 11 (.int .i64 op) (by kernel_rfl) (fun _ => by kernel_rfl) ?_; clear hJ a; intro a hJ
  refine s_pure hJ 12 (.agg #[.int .i64 op, .int .i64 0, .int .i64 0, .string ⟨#[]⟩, .string ⟨#[]⟩, .slice none 0 0]) (by kernel_rfl) (fun _ => by kernel_rfl) ?_; clear hJ a; intro a hJ
  refine s_new hJ 8 (fun g => .pointer (some ⟨g, 0, none⟩)) [.int .i64 0, .int .i64 0, .int .i64 0, .string ⟨#[]⟩, .string ⟨#[]⟩, .slice none 0 0] 38 (by kernel_rfl) (fun _ => by kernel_rfl) ?_; clear hJ a w; intro b2 a w hJ
  refine s_store hJ (t := 38) (x := (.tmp 8)) (y := (.tmp 12)) 0 (.agg #[.int .i64 op, .int .i64 0, .int .i64 0, .string ⟨#[]⟩, .string ⟨#[]⟩, .slice none 0 0]) (b := b2) (off := 0) (cs := [.int .i64 0, .int .i64 0, .int .i64 0, .string ⟨#[]⟩, .string ⟨#[]⟩, .slice none 0 0]) [.int .i64 op, .int .i64 0, .int .i64 0, .string ⟨#[]⟩, .string ⟨#[]⟩, .slice none 0 0] (by kernel_rfl) (by kernel_rfl) (by kernel_rfl) (by kernel_rfl) (by kernel_rfl) (by kernel_rfl) (by kernel_rfl) ?_; clear hJ w; intro w hJ
  refine wpList_nil ?_
  refine then_normal ?_
  refine wp_seq ?_
  refine wp_seq ?_
  refine wp_region_lit ?_
  refine s_pure hJ 13 (.slice A len cap) (by kernel_rfl) (fun _ => by kernel_rfl) ?_; clear hJ a; intro a hJ
  refine s_pure hJ 14 (.int .i64 (len : Int)) (by kernel_rfl) (fun _ => by kernel_rfl) ?_; clear hJ a; intro a hJ
  refine s_pure hJ 15 (.int .i64 0) (by kernel_rfl) (fun _ => by kernel_rfl) ?_; clear hJ a; intro a hJ
  refine wpList_nil ?_
  refine then_normal ?_
  refine wp_block ?_
  refine c_loop (fun (k : Nat) a w => ∃ (h3 : Vw) (v : Value) (vs : List Value), J ⟨32, h.w, h.bad, [g]⟩ [(0, .int .i64 op), (1, .slice A len cap), (2, .pointer (some ⟨b4, 0, none⟩)), (3, .pointer (some ⟨b6, 0, none⟩)), (4, .pointer (some ⟨b7, 0, none⟩)), (7, .pointer (some ⟨b1, 0, none⟩)), (11, .int .i64 op), (12, .agg #[.int .i64 op, .int .i64 0, .int .i64 0, .string ⟨#[]⟩, .string ⟨#[]⟩, .slice none 0 0]), (8, .pointer (some ⟨b2, 0, none⟩)), (13, .slice A len cap), (14, .int .i64 (len : Int)), (15, .int .i64 (k : Int))] [.box b2 [.int .i64 op, .int .i64 0, .int .i64 0, .string ⟨#[]⟩, .string ⟨#[]⟩, v], .box b1 [.int .i64 0, .int .i64 0, .int .i64 0, .string ⟨#[]⟩, .string ⟨#[]⟩, .slice none 0 0], .row v 38 6 (exRows (manyE (genE l fs d) (ks.take k) n).1 vs), .box g [sl, .int .i64 (((manyE (genE l fs d) (ks.take k) n).2 : Nat) : Int)]] h3 a w ∧ Sees h h3 ∧ (k ≤ len) ∧ (AllArgs h3 (manyE (genE l fs d) (ks.take k) n).1 vs)) (fun k => len - k) (0) ⟨h, (.slice none 0 0), [], hJ.to (by kernel_rfl) (by kernel_rfl), Sees.refl _, Nat.zero_le _, by unfold manyE AllArgs; rfl⟩ ?_
  clear hJ a w; rintro k a w ⟨h3, v, vs, hJ, s4, hk, hvs⟩
  refine wp_seq ?_
  refine wp_region_lit ?_
  refine s_pure hJ 16 (.bool (decide ((k : Int) < (len : Int)))) (by kernel_rfl) (fun _ => by kernel_rfl) ?_; clear hJ a; intro a hJ
  refine wpList_nil ?_
  refine then_normal ?_
  refine wp_seq ?_
  have hle := manyE_le (genE_le l fs d) (ks.take k) n
  rcases (by omega : k < len ∨ len = k) with hlt | hke
  · obtain ⟨kk, hkk⟩ : ∃ x, ks[k]? = some x := ⟨_, List.getElem?_eq_getElem (by omega)⟩
    have hki : (intRows ks)[k]? = some [.int .i64 kk] := by rw [List.getElem?_map, hkk]; rfl
    obtain ⟨q1, q2⟩ := hk1 kk (List.mem_of_getElem? hkk)
    have hms := manyE_snoc (genE l fs d) kk (ks.take k) n
    rw [← take_snoc' ks k kk hkk] at hms
    have hlt2 : (ks.take k).length * bnd d ≤ 2 * bnd d := Nat.mul_le_mul_right _ (by rw [List.length_take]; omega)
    have hvl := hvs.len
    have hxl : (manyE (genE l fs d) (ks.take k) n).1.length ≤ k := by
      have : ∀ (one : Int → Nat → Ex × Nat) (l : List Int) (n : Nat), (manyE one l n).1.length = l.length := by
        intro one l
        induction l with
        | nil => intro n; rfl
        | cons x l ih => intro n; show ((manyE one l (one x n).2).1.length + 1) = l.length + 1; rw [ih]
      rw [this, List.length_take]; omega
    generalize manyE (genE l fs d) (ks.take k) n = p at *
    have hIH := fun H m' hr' hf' hg' => IH g sl p.2 kk fv m' H hr' (by omega) q1 q2 hf' hg'
    generalize genE l fs d kk p.2 = q at *
    have hrl := exRows_len hvl
    refine c_true hJ (t := decide ((k : Int) < (len : Int))) (by kernel_rfl) (decide_eq_true (by omega)) ?_
    refine wp_skip ?_
    refine then_normal ?_
    refine wp_seq ?_
    refine wp_block ?_
    refine wp_seq ?_
    refine wp_region_lit ?_
    refine s_index hJ 17 (t := 66) (e := 3) (x := (.tmp 13)) (y := (.tmp 15)) (A := A) (n := len) (cap := cap) (i := k) (kk := 1) (r := [.int .i64 kk]) (hkv) (hki) (by kernel_rfl) (by kernel_rfl) (by kernel_rfl) (by kernel_rfl) Try.underlying66 (by kernel_rfl) ?_; clear hJ a; intro b5 o6 a c7 hJ
    refine s_loadf hJ (t := 3) (x := (.tmp 17)) 18 (.int .i64 kk) (off := 0) c7 s4 (by kernel_rfl) (by kernel_rfl) (by kernel_rfl) (by kernel_rfl) ?_; clear hJ a; intro a hJ
    refine s_pure hJ 10 (.int .i64 kk) (by kernel_rfl) (fun _ => by kernel_rfl) ?_; clear hJ a; intro a hJ
    refine wpList_nil ?_
    refine then_normal ?_
    let R : Reg := ⟨⟨32, h.w, h.bad, [g]⟩, [(0, 19, fun gh => .pointer (some ⟨b2, 5, none⟩)), (1, 20, fun gh => v), (2, 21, fun gh => .pointer (some ⟨g, 0, none⟩)), (3, 22, fun gh => .int .i64 kk), (4, 23, fun gh => fv), (5, 24, fun gh => .int .i64 ((d + 1 : Nat) : Int)), (6, 25, fun gh => .int .i64 (d : Int)), (7, 26, fun gh => .agg #[.int .i64 q.1.op, .int .i64 q.1.k, .int .i64 q.1.n, .string q.1.s, .string q.1.nm, .slice (sA (gh 7)) (sN (gh 7)) (sC (gh 7))]), (8, 27, fun gh => .slice (some ⟨(blkOf (gh 8)), 0, none⟩) 1 1), (9, 28, fun gh => .slice (sA (gh 9)) (sN (gh 9)) (sC (gh 9))), (10, 29, fun gh => .pointer (some ⟨b2, 5, none⟩))], [(0, .int .i64 op), (1, .slice A len cap), (2, .pointer (some ⟨b4, 0, none⟩)), (3, .pointer (some ⟨b6, 0, none⟩)), (4, .pointer (some ⟨b7, 0, none⟩)), (7, .pointer (some ⟨b1, 0, none⟩)), (11, .int .i64 op), (12, .agg #[.int .i64 op, .int .i64 0, .int .i64 0, .string ⟨#[]⟩, .string ⟨#[]⟩, .slice none 0 0]), (8, .pointer (some ⟨b2, 0, none⟩)), (13, .slice A len cap), (14, .int .i64 (len : Int)), (15, .int .i64 (k : Int)), (16, .bool (decide ((k : Int) < (len : Int)))), (17, .pointer (some ⟨b5, o6, none⟩)), (18, .int .i64 kk), (10, .int .i64 kk)], [⟨some (.box b2 [.int .i64 op, .int .i64 0, .int .i64 0, .string ⟨#[]⟩, .string ⟨#[]⟩, v]), [(11, fun gh => .box b2 [.int .i64 op, .int .i64 0, .int .i64 0, .string ⟨#[]⟩, .string ⟨#[]⟩, .slice (sA (gh 9)) (sN (gh 9)) (sC (gh 9))])]⟩, ⟨some (.box b1 [.int .i64 0, .int .i64 0, .int .i64 0, .string ⟨#[]⟩, .string ⟨#[]⟩, .slice none 0 0]), []⟩, ⟨some (.row v 38 6 (exRows (p).1 vs)), [(9, fun gh => .row (.slice (sA (gh 9)) (sN (gh 9)) (sC (gh 9))) 38 6 ((exRows (p).1 vs) ++ [[.int .i64 q.1.op, .int .i64 q.1.k, .int .i64 q.1.n, .string q.1.s, .string q.1.nm, .slice (sA (gh 7)) (sN (gh 7)) (sC (gh 7))]]))]⟩, ⟨some (.box g [sl, .int .i64 (((p).2 : Nat) : Int)]), [(7, fun gh => .box g [sl, .int .i64 ((q.2 : Nat) : Int)])]⟩], [(7, fun gh hh => IsArgs hh q.1 (.slice (sA (gh 7)) (sN (gh 7)) (sC (gh 7)))), (8, fun gh hh => Cells hh (blkOf (gh 8)) 0 [.int .i64 q.1.op, .int .i64 q.1.k, .int .i64 q.1.n, .string q.1.s, .string q.1.nm, .slice (sA (gh 7)) (sN (gh 7)) (sC (gh 7))])], [[], [0], [], [], [], [], [5], [2, 3, 4, 5, 6], [2, 3, 4, 5, 6, 7], [0, 1, 2, 3, 4, 5, 6, 7, 8], [0, 1, 2, 3, 4, 5, 6, 7, 8, 9], [0, 1, 2, 3, 4, 5, 6, 7, 8, 9, 10]], h3⟩
    refine region_sx (B := [.box b2 [.int .i64 op, .int .i64 0, .int .i64 0, .string ⟨#[]⟩, .string ⟨#[]⟩, v], .box b1 [.int .i64 0, .int .i64 0, .int .i64 0, .string ⟨#[]⟩, .string ⟨#[]⟩, .slice none 0 0], .row v 38 6 (exRows (p).1 vs), .box g [sl, .int .i64 (((p).2 : Nat) : Int)]]) (by kernel_rfl) R 12 (hJ.to (by kernel_rfl) (by kernel_rfl)) (by kernel_rfl) (by kernel_rfl) (by kernel_rfl) (by kernel_rfl) (by kernel_rfl) (by kernel_rfl) (by kernel_rfl) ?_ ?_
    · intro hT hA
      have hmono : ∀ zq ∈ R.F, ∀ zx zh zi, Sees zh zi → zq.2 zx zh → zq.2 zx zi := mono_cons (fun _ _ _ s c => c.sees s) (mono_cons (fun _ _ _ s c => c.sees s) (mono_nil))
      refine all_succ ?_ (r_store hT hA [0, 1, 2, 3, 4, 5, 6, 7, 8, 9, 10] (by kernel_rfl) (by kernel_rfl) (fun _ => by kernel_rfl) 0 ⟨some (.box b2 [.int .i64 op, .int .i64 0, .int .i64 0, .string ⟨#[]⟩, .string ⟨#[]⟩, v]), [(11, fun gh => .box b2 [.int .i64 op, .int .i64 0, .int .i64 0, .string ⟨#[]⟩, .string ⟨#[]⟩, .slice (sA (gh 9)) (sN (gh 9)) (sC (gh 9))])]⟩ (by kernel_rfl) (by kernel_rfl) (by kernel_rfl) (fun gh => b2) (fun gh => [.int .i64 op, .int .i64 0, .int .i64 0, .string ⟨#[]⟩, .string ⟨#[]⟩, v]) (fun gh => [.int .i64 op, .int .i64 0, .int .i64 0, .string ⟨#[]⟩, .string ⟨#[]⟩, .slice (sA (gh 9)) (sN (gh 9)) (sC (gh 9))]) (fun _ => by kernel_rfl) (fun _ => by kernel_rfl) 36 (.tmp 29) (.tmp 28) 5 (fun gh => .slice (sA (gh 9)) (sN (gh 9)) (sC (gh 9))) (by kernel_rfl) (fun _ => by kernel_rfl) (fun _ => by kernel_rfl) (fun _ => by kernel_rfl) (fun _ => by kernel_rfl))
      refine all_succ ?_ (r_pure hT hA 29 (fun gh => .pointer (some ⟨b2, 5, none⟩)) [0, 1, 2, 3, 4, 5, 6, 7, 8, 9] 10 (by kernel_rfl) (by kernel_rfl) (by kernel_rfl) (fun _ => by kernel_rfl) (fun _ _ => by kernel_rfl))
      refine all_succ ?_ (r_append hT hA hmono ⟨fun _ _ => by kernel_rfl, fun _ _ => by kernel_rfl, fun _ _ => by kernel_rfl⟩ (by kernel_rfl) 28 [1, 7, 8] 9 (by kernel_rfl) (fun _ => by kernel_rfl) 2 ⟨some (.row v 38 6 (exRows (p).1 vs)), [(9, fun gh => .row (.slice (sA (gh 9)) (sN (gh 9)) (sC (gh 9))) 38 6 ((exRows (p).1 vs) ++ [[.int .i64 q.1.op, .int .i64 q.1.k, .int .i64 q.1.n, .string q.1.s, .string q.1.nm, .slice (sA (gh 7)) (sN (gh 7)) (sC (gh 7))]]))]⟩ (by kernel_rfl) (by kernel_rfl) (by kernel_rfl) (fun gh => v) 36 38 6 (fun gh => exRows (p).1 vs) (fun gh => [[.int .i64 q.1.op, .int .i64 q.1.k, .int .i64 q.1.n, .string q.1.s, .string q.1.nm, .slice (sA (gh 7)) (sN (gh 7)) (sC (gh 7))]]) (fun _ => by kernel_rfl) (fun _ => by kernel_rfl) (fun _ _ => by kernel_rfl) (.tmp 20) (.tmp 27) (by kernel_rfl) (by kernel_rfl) (fun gh => (blkOf (gh 8))) 1 1 (fun _ => by kernel_rfl) (fun _ => by kernel_rfl) 1 8 (fun gh hh => Cells hh (blkOf (gh 8)) 0 [.int .i64 q.1.op, .int .i64 q.1.k, .int .i64 q.1.n, .string q.1.s, .string q.1.nm, .slice (sA (gh 7)) (sN (gh 7)) (sC (gh 7))]) (by kernel_rfl) (by kernel_rfl) (fun _ _ c => c) Try.underlying36 (zv := .agg #[.int .i64 0, .int .i64 0, .int .i64 0, .string ⟨#[]⟩, .string ⟨#[]⟩, .slice none 0 0]) (bytes := 80) (by kernel_rfl) (by kernel_rfl) (fun _ => by kernel_rfl) (fun _ => by constructor <;> (rw [hrl]; omega)))
      refine all_succ ?_ (r_fact hT hA hmono ⟨fun _ _ => by kernel_rfl, fun _ _ => by kernel_rfl, fun _ _ => by kernel_rfl⟩ 27 (fun g => .slice (some ⟨g, 0, none⟩) 1 1) [7] 8 (by kernel_rfl) (by kernel_rfl) (fun _ => by kernel_rfl) (fun gh => [.int .i64 q.1.op, .int .i64 q.1.k, .int .i64 q.1.n, .string q.1.s, .string q.1.nm, .slice (sA (gh 7)) (sN (gh 7)) (sC (gh 7))]) 38 (fun _ _ => by kernel_rfl) (fun gh zb zH zc zj zq zhq zhe => own_fact (i := 8) (k := 1) (f := fun gh hh => Cells hh (blkOf (gh 8)) 0 [.int .i64 q.1.op, .int .i64 q.1.k, .int .i64 q.1.n, .string q.1.s, .string q.1.nm, .slice (sA (gh 7)) (sN (gh 7)) (sC (gh 7))]) (by kernel_rfl) (by kernel_rfl) zc zj zq zhq zhe))
      refine all_succ ?_ (r_call1 hT hA hmono ⟨fun _ _ => by kernel_rfl, fun _ _ => by kernel_rfl, fun _ _ => by kernel_rfl⟩ 26 (fun u => .agg #[.int .i64 q.1.op, .int .i64 q.1.k, .int .i64 q.1.n, .string q.1.s, .string q.1.nm, .slice (sA u) (sN u) (sC u)]) [2, 3, 4, 6] 7 (by kernel_rfl) (fun _ => by kernel_rfl) 3 ⟨some (.box g [sl, .int .i64 (((p).2 : Nat) : Int)]), [(7, fun gh => .box g [sl, .int .i64 ((q.2 : Nat) : Int)])]⟩ (by kernel_rfl) (by kernel_rfl) (by kernel_rfl) g (fun gh => [sl, .int .i64 (((p).2 : Nat) : Int)]) (fun gh => [sl, .int .i64 ((q.2 : Nat) : Int)]) (fun _ => by kernel_rfl) (fun _ => by kernel_rfl) 39 (fun gh => #[.pointer (some ⟨g, 0, none⟩), .int .i64 kk, fv, .int .i64 (d : Int)]) (fun _ _ => by kernel_rfl) (fun gh H sH fH lent => C1.facts (R := R) (x := gh) (N' := fun gh => [sl, .int .i64 ((q.2 : Nat) : Int)]) (i := 7) (n := 0) (F := (fun u => .agg #[.int .i64 q.1.op, .int .i64 q.1.k, .int .i64 q.1.n, .string q.1.s, .string q.1.nm, .slice (sA u) (sN u) (sC u)])) (N := fun u => [sl, .int .i64 ((q.2 : Nat) : Int)]) (G := fun u hh => IsArgs hh q.1 (.slice (sA u) (sN u) (sC u))) (f := fun gh hh => IsArgs hh q.1 (.slice (sA (gh 7)) (sN (gh 7)) (sC (gh 7)))) (by obtain ⟨m', hgm, sm⟩ := lent m hm; exact hIH H m' (hr.sees (s4.trans sH)) (hf.sees sm) hgm) (by kernel_rfl) (by kernel_rfl) (fun _ => by kernel_rfl) (fun _ _ r => r)))
      refine all_succ ?_ (r_pure hT hA 25 (fun gh => .int .i64 (d : Int)) [5] 6 (by kernel_rfl) (by kernel_rfl) (by kernel_rfl) (fun _ => by kernel_rfl) (fun _ w => run_eq (v0 := .int .i64 (IntKind.i64.wrap (((d + 1 : Nat) : Int) - 1))) (by kernel_rfl) (dec_wrap d (by omega))))
      refine all_succ ?_ (r_loadf hT hA 24 (fun gh => .int .i64 ((d + 1 : Nat) : Int)) [] 5 (by kernel_rfl) (by kernel_rfl) (by kernel_rfl) (fun _ => by kernel_rfl) f7 s4 3 (.tmp 4) 0 (by kernel_rfl) (fun _ => by kernel_rfl) (fun _ => by kernel_rfl))
      refine all_succ ?_ (r_loadf hT hA 23 (fun gh => fv) [] 4 (by kernel_rfl) (by kernel_rfl) (by kernel_rfl) (fun _ => by kernel_rfl) f6 s4 41 (.tmp 3) 0 (by kernel_rfl) (fun _ => by kernel_rfl) (fun _ => by kernel_rfl))
      refine all_succ ?_ (r_pure hT hA 22 (fun gh => .int .i64 kk) [] 3 (by kernel_rfl) (by kernel_rfl) (by kernel_rfl) (fun _ => by kernel_rfl) (fun _ _ => by kernel_rfl))
      refine all_succ ?_ (r_loadf hT hA 21 (fun gh => .pointer (some ⟨g, 0, none⟩)) [] 2 (by kernel_rfl) (by kernel_rfl) (by kernel_rfl) (fun _ => by kernel_rfl) f4 s4 83 (.tmp 2) 0 (by kernel_rfl) (fun _ => by kernel_rfl) (fun _ => by kernel_rfl))
      refine all_succ ?_ (r_load hT hA 20 (fun gh => v) [0] 1 (by kernel_rfl) (by kernel_rfl) (by kernel_rfl) (fun _ => by kernel_rfl) 0 ⟨some (.box b2 [.int .i64 op, .int .i64 0, .int .i64 0, .string ⟨#[]⟩, .string ⟨#[]⟩, v]), [(11, fun gh => .box b2 [.int .i64 op, .int .i64 0, .int .i64 0, .string ⟨#[]⟩, .string ⟨#[]⟩, .slice (sA (gh 9)) (sN (gh 9)) (sC (gh 9))])]⟩ (by kernel_rfl) (by kernel_rfl) (fun gh => b2) (fun gh => [.int .i64 op, .int .i64 0, .int .i64 0, .string ⟨#[]⟩, .string ⟨#[]⟩, v]) (fun _ => by kernel_rfl) 36 (.tmp 19) 5 (by kernel_rfl) (fun _ => by kernel_rfl) (fun _ => by kernel_rfl))
      refine all_succ ?_ (r_pure hT hA 19 (fun gh => .pointer (some ⟨b2, 5, none⟩)) [] 0 (by kernel_rfl) (by kernel_rfl) (by kernel_rfl) (fun _ => by kernel_rfl) (fun _ _ => by kernel_rfl))
      exact all_zero _
    clear hJ a w; intro gh h10 a w sR hJ1 hF; have s11 : Sees h3 h10 := sR; clear sR
    have hJ : J ⟨32, h.w, h.bad, [g]⟩ [(0, .int .i64 op), (1, .slice A len cap), (2, .pointer (some ⟨b4, 0, none⟩)), (3, .pointer (some ⟨b6, 0, none⟩)), (4, .pointer (some ⟨b7, 0, none⟩)), (7, .pointer (some ⟨b1, 0, none⟩)), (11, .int .i64 op), (12, .agg #[.int .i64 op, .int .i64 0, .int .i64 0, .string ⟨#[]⟩, .string ⟨#[]⟩, .slice none 0 0]), (8, .pointer (some ⟨b2, 0, none⟩)), (13, .slice A len cap), (14, .int .i64 (len : Int)), (15, .int .i64 (k : Int)), (16, .bool (decide ((k : Int) < (len : Int)))), (17, .pointer (some ⟨b5, o6, none⟩)), (18, .int .i64 kk), (10, .int .i64 kk), (19, .pointer (some ⟨b2, 5, none⟩)), (20, v), (21, .pointer (some ⟨g, 0, none⟩)), (22, .int .i64 kk), (23, fv), (24, .int .i64 ((d + 1 : Nat) : Int)), (25, .int .i64 (d : Int)), (26, .agg #[.int .i64 q.1.op, .int .i64 q.1.k, .int .i64 q.1.n, .string q.1.s, .string q.1.nm, .slice (sA (gh 7)) (sN (gh 7)) (sC (gh 7))]), (27, .slice (some ⟨(blkOf (gh 8)), 0, none⟩) 1 1), (28, .slice (sA (gh 9)) (sN (gh 9)) (sC (gh 9))), (29, .pointer (some ⟨b2, 5, none⟩))] [.box b2 [.int .i64 op, .int .i64 0, .int .i64 0, .string ⟨#[]⟩, .string ⟨#[]⟩, .slice (sA (gh 9)) (sN (gh 9)) (sC (gh 9))], .box b1 [.int .i64 0, .int .i64 0, .int .i64 0, .string ⟨#[]⟩, .string ⟨#[]⟩, .slice none 0 0], .row (.slice (sA (gh 9)) (sN (gh 9)) (sC (gh 9))) 38 6 ((exRows (p).1 vs) ++ [[.int .i64 q.1.op, .int .i64 q.1.k, .int .i64 q.1.n, .string q.1.s, .string q.1.nm, .slice (sA (gh 7)) (sN (gh 7)) (sC (gh 7))]]), .box g [sl, .int .i64 ((q.2 : Nat) : Int)]] h10 a w := hJ1.to (by kernel_rfl) (by kernel_rfl)
    have f26 : IsArgs h10 q.1 (.slice (sA (gh 7)) (sN (gh 7)) (sC (gh 7))) := Reg.fact (i := 7) (f := fun gh hh => IsArgs hh q.1 (.slice (sA (gh 7)) (sN (gh 7)) (sC (gh 7)))) hF 0 (by kernel_rfl)
    have f8 : Cells h10 (blkOf (gh 8)) 0 [.int .i64 q.1.op, .int .i64 q.1.k, .int .i64 q.1.n, .string q.1.s, .string q.1.nm, .slice (sA (gh 7)) (sN (gh 7)) (sC (gh 7))] := Reg.fact (i := 8) (f := fun gh hh => Cells hh (blkOf (gh 8)) 0 [.int .i64 q.1.op, .int .i64 q.1.k, .int .i64 q.1.n, .string q.1.s, .string q.1.nm, .slice (sA (gh 7)) (sN (gh 7)) (sC (gh 7))]) hF 1 (by kernel_rfl)
    clear hJ1 hF R
    generalize gh 7 = u26 at *
    generalize blkOf (gh 8) = b9 at *
    generalize gh 9 = v28 at *
    clear gh
    refine block_normal ?_
    refine then_normal ?_
    refine wp_region_lit ?_
    refine s_pure hJ 30 (.int .i64 ((k : Int) + 1)) (by kernel_rfl) (fun w => run_eq (by kernel_rfl) (i64_wrap (by omega) (by omega))) ?_; clear hJ a; intro a hJ
    refine s_pure hJ 15 (.int .i64 ((k : Int) + 1)) (by kernel_rfl) (fun _ => by kernel_rfl) ?_; clear hJ a; intro a hJ
    refine wpList_nil ?_
    exact then_normal ⟨k + 1, ⟨h10, .slice (sA v28) (sN v28) (sC v28), vs ++ [.slice (sA u26) (sN u26) (sC u26)], hJ.to (by kernel_rfl) (by rw [hms, exRows_snoc hvl]), (s4.trans s11), by omega, by rw [hms]; exact AllArgs.snoc f26 (hvs.sees s11)⟩, by omega⟩
  · skip
    have htk : ks.take k = ks := by rw [← hke, ← hL, List.take_length]
    rw [htk] at hJ hvs
    obtain ⟨A2, c2, rfl, hc_v, hm_v⟩ := hJ.form (v := v) (e := 38) (k := 6) (l := exRows (manyE (genE l fs d) ks n).1 vs) 2 (by kernel_rfl)
    refine c_false hJ (t := decide ((k : Int) < (len : Int))) (by kernel_rfl) (decide_eq_false (by omega)) ?_
    refine wp_exit ?_
    refine then_exit ?_
    refine then_exit ?_
    refine block_same ?_
    refine then_normal ?_
    refine wp_seq ?_
    refine wp_region_lit ?_
    refine s_load hJ (t := 38) (x := (.tmp 8)) 31 (.agg #[.int .i64 op, .int .i64 0, .int .i64 0, .string ⟨#[]⟩, .string ⟨#[]⟩, .slice A2 ((exRows (manyE (genE l fs d) ks n).1 vs).length) c2]) 0 (b := b2) (off := 0) (cs := [.int .i64 op, .int .i64 0, .int .i64 0, .string ⟨#[]⟩, .string ⟨#[]⟩, .slice A2 ((exRows (manyE (genE l fs d) ks n).1 vs).length) c2]) (by kernel_rfl) (by kernel_rfl) (by kernel_rfl) (by kernel_rfl) (by kernel_rfl) ?_; clear hJ a; intro a hJ
    refine s_store hJ (t := 38) (x := (.tmp 7)) (y := (.tmp 31)) 1 (.agg #[.int .i64 op, .int .i64 0, .int .i64 0, .string ⟨#[]⟩, .string ⟨#[]⟩, .slice A2 ((exRows (manyE (genE l fs d) ks n).1 vs).length) c2]) (b := b1) (off := 0) (cs := [.int .i64 0, .int .i64 0, .int .i64 0, .string ⟨#[]⟩, .string ⟨#[]⟩, .slice none 0 0]) [.int .i64 op, .int .i64 0, .int .i64 0, .string ⟨#[]⟩, .string ⟨#[]⟩, .slice A2 ((exRows (manyE (genE l fs d) ks n).1 vs).length) c2] (by kernel_rfl) (by kernel_rfl) (by kernel_rfl) (by kernel_rfl) (by kernel_rfl) (by kernel_rfl) (by kernel_rfl) ?_; clear hJ w; intro w hJ
    refine wpList_nil ?_
    refine then_normal ?_
    refine wp_ret ?_
    have fr := hJ.rowOut1 (v := .slice A2 ((exRows (manyE (genE l fs d) ks n).1 vs).length) c2) (e := 38) (k := 6) (l := exRows (manyE (genE l fs d) ks n).1 vs) (g := g) (cs := [sl, .int .i64 (((manyE (genE l fs d) ks n).2 : Nat) : Int)]) 2 3 (by kernel_rfl) (by kernel_rfl) (by kernel_rfl) rfl
    refine (hQ [.agg #[.int .i64 op, .int .i64 0, .int .i64 0, .string ⟨#[]⟩, .string ⟨#[]⟩, .slice A2 ((exRows (manyE (genE l fs d) ks n).1 vs).length) c2]] [.box b2 [.int .i64 op, .int .i64 0, .int .i64 0, .string ⟨#[]⟩, .string ⟨#[]⟩, .slice A2 ((exRows (manyE (genE l fs d) ks n).1 vs).length) c2], .box b1 [.int .i64 op, .int .i64 0, .int .i64 0, .string ⟨#[]⟩, .string ⟨#[]⟩, .slice A2 ((exRows (manyE (genE l fs d) ks n).1 vs).length) c2], .row (.slice A2 ((exRows (manyE (genE l fs d) ks n).1 vs).length) c2) 38 6 (exRows (manyE (genE l fs d) ks n).1 vs)] [(g, [sl, .int .i64 (((manyE (genE l fs d) ks n).2 : Nat) : Int)])] hJ (.rcell hJ 1 (b := b1) (cs := [.int .i64 op, .int .i64 0, .int .i64 0, .string ⟨#[]⟩, .string ⟨#[]⟩, .slice A2 ((exRows (manyE (genE l fs d) ks n).1 vs).length) c2]) (by kernel_rfl) (by kernel_rfl) (by kernel_rfl) .nil) (by kernel_rfl) (by kernel_rfl) ?_).1
    exact ⟨_, rfl, .slice A2 (exRows (manyE (genE l fs d) ks n).1 vs).length c2, rfl, rfl, IsArgs.mk (x := opE op (manyE (genE l fs d) ks n).1) fr (hvs.sees hJ.out)⟩

end Go.Proofs.Yteolcggpflnpoaa
