/-
  Contracts of names.Copy, put.
-/
import Derived.Test.YthgcgciceejicaaGo
import Derived.Test.YthgcgciceejicaaNmP
import Derived.Test.YthgcgciceejicaaEqB
namespace Go.Proofs.Ythgcgciceejicaa
open Go.RowKit

set_option maxRecDepth 100000 in
theorem copy_rec : ∀ (m : Nat) (x : Ex) (v : Value) (h : Vw), (szE x).1 ≤ m → IsArgs h x v → (szE x).1 < 1000000 →
    C0 Try.prog 24 #[.agg #[.int .i64 x.op, .int .i64 x.k, .int .i64 x.n, .string x.s, .string x.nm, v]] h (fun r h' => ∃ u, r = .agg #[.int .i64 x.op, .int .i64 x.k, .int .i64 x.n, .string x.s, .string x.nm, .slice (sA u) (sN u) (sC u)] ∧ IsArgs h' x (.slice (sA u) (sN u) (sC u)))
  | 0, x, v, h, hm, _, _ => by have := szE_pos x; omega
  | m + 1, x, v, h, hm, hx, hb => by
    have IH := copy_rec m
    have hse := szE_eq x
    obtain ⟨ws, hr, hws⟩ := hx.form
    obtain ⟨A, ca, rfl, hc1, hc2, -⟩ := hr.form
    have hwl := hws.len
    have hrl := exRows_len hwl
    have hlen := szL_len x.args
    rw [hrl] at hc1 hr ⊢
    rw [hse] at hm hb
    simp only at hm hb
    generalize hL : x.args.length = len at *
    refine g_con Try.func24 fun hbx hbad Q hQ => ?_
    refine g_nilrow 36 6 ?_
    refine gov3 29 [.fix, .own, .f 0 0, .own, .b 0 0, .b 0 5, .f 0 5] [] ?_
    intro b1 b2 b3 W4 S5
    refine g_loop [0, 1, 0, 1, 1, 1] [.block 0, .seq [1, 1, 1, 1]] (fun (k : Nat) X => ∃ (W6 : Vw) (v : Value) (vs : List Value), X W6 [(2, Vp b2), (3, Vp b3), (9, .slice A len ca), (10, Vi (len : Int)), (11, Vi (k : Int))] [.box b3 [Vi x.op, Vi x.k, Vi x.n, .string x.s, .string x.nm, v], .box b2 [Vi 0, Vi 0, Vi 0, Ve, Ve, Vz], .row v 36 6 (exRows (x.args.take k) vs)] [(b1, 0, [Vi x.op, Vi x.k, Vi x.n, .string x.s, .string x.nm, .slice A len ca])] ∧ Sees W4 W6 ∧ (k ≤ len) ∧ (AllArgs W6 (x.args.take k) vs)) (fun k => len - k) (0) (fun X q => ⟨W4, (Vz), [], q _ _ _ _ ⟨rfl, by kernel_rfl⟩, Sees.refl _, Nat.zero_le _, by unfold AllArgs; rfl⟩) ?_
    rintro k a w ⟨W6, v, vs, hJ, S7, hk, hvs⟩; refine g_of hJ ?_; clear hJ a w
    refine go0 6 [] [] ?_
    rcases (by omega : k < len ∨ len = k) with hlt | hke
    · obtain ⟨y, hy⟩ : ∃ y, x.args[k]? = some y := ⟨_, List.getElem?_eq_getElem (by omega)⟩
      obtain ⟨u, hu⟩ : ∃ u, ws[k]? = some u := ⟨_, List.getElem?_eq_getElem (by omega)⟩
      have hyu := AllArgs.get hws hy hu
      obtain ⟨Au, nu, cu, rfl⟩ := hyu.slice
      have hym := szL_mem (List.mem_of_getElem? hy)
      have hrow : (exRows x.args ws)[k]? = some (exRow y (.slice Au nu cu)) := by show (List.zipWith exRow _ _)[k]? = _; rw [List.getElem?_zipWith, hy, hu]
      have hsn := take_snoc' _ k y hy
      have hvl := hvs.len
      have hrl2 := exRows_len hvl
      have htl : (x.args.take k).length = k := by rw [List.length_take]; omega
      refine g_true (t := decide ((k : Int) < (len : Int))) (decide_eq_true (by omega)) ?_
      refine go0 6 [] [] ?_
      obtain ⟨b8, o9, rfl, -, c10⟩ := RS.row hr (hrow)
      refine g_fact (c10.sees (S5.trans S7)) ?_
      refine go1 6 [.ix b8 o9 len ca k, .f 0 0, .own, .b 0 0] [] ?_ (ho := (And.intro (by first | omega | (simp; omega)) (trivial)))
      intro b11
      refine g_reg 8 0 [.pu, .ld 1 5, .ld 0 0, .f (fun gh => .agg #[Vi y.op, Vi y.k, Vi y.n, .string y.s, .string y.nm, .slice (sA (gh 3)) (sN (gh 3)) (sC (gh 3))]) (fun gh hh => IsArgs hh y (.slice (sA (gh 3)) (sN (gh 3)) (sC (gh 3)))), .f (fun gh => .slice (some ⟨(blkOf (gh 4)), 0, none⟩) 1 1) (fun gh hh => Cells hh (blkOf (gh 4)) 0 [Vi y.op, Vi y.k, Vi y.n, .string y.s, .string y.nm, .slice (sA (gh 3)) (sN (gh 3)) (sC (gh 3))]), .e (fun gh => .slice (sA (gh 5)) (sN (gh 5)) (sC (gh 5))) 3 (fun gh => .row (.slice (sA (gh 5)) (sN (gh 5)) (sC (gh 5))) 36 6 ((exRows (x.args.take k) vs) ++ [[Vi y.op, Vi y.k, Vi y.n, .string y.s, .string y.nm, .slice (sA (gh 3)) (sN (gh 3)) (sC (gh 3))]])), .pu, .st 1 5] [(3, false), (4, true), (5, false)] (And.intro (fun _ _ _ s c => c.sees s) (And.intro (fun _ _ _ s c => c.sees s) (trivial))) ?_ ?_
      · intro R hT hA hmono
        refine And.intro (r_call hT hA hmono ⟨fun _ _ => by kernel_rfl, fun _ _ => by kernel_rfl, fun _ _ => by kernel_rfl⟩ 18 (fun u => .agg #[Vi y.op, Vi y.k, Vi y.n, .string y.s, .string y.nm, .slice (sA u) (sN u) (sC u)]) [2] 3 (by kernel_rfl) (by kernel_rfl) (fun _ => by kernel_rfl) 24 (fun gh => #[.agg #[Vi y.op, Vi y.k, Vi y.n, .string y.s, .string y.nm, .slice Au nu cu]]) (fun _ _ => by kernel_rfl) (fun gh H sH fH lent => C0.facts (R := R) (x := gh) (i := 3) (n := 0) (F := (fun u => .agg #[Vi y.op, Vi y.k, Vi y.n, .string y.s, .string y.nm, .slice (sA u) (sN u) (sC u)])) (G := fun u hh => IsArgs hh y (.slice (sA u) (sN u) (sC u))) (f := fun gh hh => IsArgs hh y (.slice (sA (gh 3)) (sN (gh 3)) (sC (gh 3)))) (IH y _ _ (by omega) (hyu.sees (S5.trans (S7.trans sH))) (by omega)) (by kernel_rfl) (by kernel_rfl) (fun _ _ r => r))) ?_
        refine And.intro (r_fact hT hA hmono ⟨fun _ _ => by kernel_rfl, fun _ _ => by kernel_rfl, fun _ _ => by kernel_rfl⟩ 19 (fun g => Vs g 1 1) [3] 4 (by kernel_rfl) (by kernel_rfl) (fun _ => by kernel_rfl) (fun gh => [Vi y.op, Vi y.k, Vi y.n, .string y.s, .string y.nm, .slice (sA (gh 3)) (sN (gh 3)) (sC (gh 3))]) 36 (fun _ _ => by kernel_rfl) (fun gh zb zH zc zj zq zhq zhe => own_fact (i := 4) (k := 1) (f := fun gh hh => Cells hh (blkOf (gh 4)) 0 [Vi y.op, Vi y.k, Vi y.n, .string y.s, .string y.nm, .slice (sA (gh 3)) (sN (gh 3)) (sC (gh 3))]) (by kernel_rfl) (by kernel_rfl) zc zj zq zhq zhe)) ?_
        refine And.intro (r_append hT hA hmono ⟨fun _ _ => by kernel_rfl, fun _ _ => by kernel_rfl, fun _ _ => by kernel_rfl⟩ (by kernel_rfl) 20 [1, 3, 4] 5 (by kernel_rfl) (fun _ => by kernel_rfl) 3 (GN R 3) (by kernel_rfl) (by kernel_rfl) (by kernel_rfl) (fun gh => v) 34 36 6 (fun gh => exRows (x.args.take k) vs) (fun gh => [[Vi y.op, Vi y.k, Vi y.n, .string y.s, .string y.nm, .slice (sA (gh 3)) (sN (gh 3)) (sC (gh 3))]]) (fun _ => by kernel_rfl) (fun _ => by kernel_rfl) (fun _ _ => by kernel_rfl) (.tmp 16) (.tmp 19) (by kernel_rfl) (by kernel_rfl) (fun gh => (blkOf (gh 4))) 1 1 (fun _ => by kernel_rfl) (fun _ => by kernel_rfl) 1 4 (fun gh hh => Cells hh (blkOf (gh 4)) 0 [Vi y.op, Vi y.k, Vi y.n, .string y.s, .string y.nm, .slice (sA (gh 3)) (sN (gh 3)) (sC (gh 3))]) (by kernel_rfl) (by kernel_rfl) (fun _ _ c => c) Try.underlying34 (zv := .agg #[Vi 0, Vi 0, Vi 0, Ve, Ve, Vz]) (bytes := 80) (by kernel_rfl) (by kernel_rfl) (fun _ => by kernel_rfl) (fun _ => by constructor <;> (rw [hrl2, htl]; omega))) ?_
        trivial
      rintro u18 b13 v20 W14 S15 ⟨f18, f12, -⟩
      replace f18 : IsArgs W14 y (.slice (sA u18) (sN u18) (sC u18)) := f18
      replace f12 : Cells W14 b13 0 [Vi y.op, Vi y.k, Vi y.n, .string y.s, .string y.nm, .slice (sA u18) (sN u18) (sC u18)] := f12
      refine g_fact f12 ?_
      refine go0 6 [] [(22, Vi (IntKind.i64.wrap ((k : Int) + 1)), Vi ((k : Int) + 1))] ?_ (hc := (And.intro (i64_wrap (by omega) (by omega)) (trivial)))
      refine g_is [(2, Vp b2), (3, Vp b3), (9, .slice (some ⟨b8, o9, none⟩) len ca), (10, Vi (len : Int)), (11, Vi ((k : Int) + 1))] [.box b3 [Vi x.op, Vi x.k, Vi x.n, .string x.s, .string x.nm, .slice (sA v20) (sN v20) (sC v20)], .box b2 [Vi 0, Vi 0, Vi 0, Ve, Ve, Vz], .row (.slice (sA v20) (sN v20) (sC v20)) 36 6 ((exRows (x.args.take k) vs) ++ [[Vi y.op, Vi y.k, Vi y.n, .string y.s, .string y.nm, .slice (sA u18) (sN u18) (sC u18)]])] [(b1, 0, [Vi x.op, Vi x.k, Vi x.n, .string x.s, .string x.nm, .slice (some ⟨b8, o9, none⟩) len ca])] ?_
      exact g_round (k + 1) (fun X q => ⟨W14, .slice (sA v20) (sN v20) (sC v20), vs ++ [.slice (sA u18) (sN u18) (sC u18)], q _ _ _ _ (says_ents (by rw [hsn, exRows_snoc hvl]; try rfl)), (S7.trans S15), by omega, by rw [hsn]; exact AllArgs.snoc f18 (hvs.sees S15)⟩) (by omega)
    · skip
      have hta : x.args.take k = x.args := by rw [← hke, ← hL, List.take_length]
      rw [hta] at hvs ⊢
      refine g_form 2 (v := v) (e := 36) (kk := 6) (l := exRows x.args vs) ?_; intro A2 c2 hE_v hc_v hm_v
      rw [hE_v]
      refine g_false (t := decide ((k : Int) < (len : Int))) (decide_eq_false (by omega)) ?_
      refine go0 2 [] [] ?_
      refine g_leave ?_
      refine go0 9 [.b 0 0, .b 1 0] [] ?_
      refine g_is [(2, Vp b2)] [.box b3 [Vi x.op, Vi x.k, Vi x.n, .string x.s, .string x.nm, .slice A2 ((exRows x.args vs).length) c2], .box b2 [Vi x.op, Vi x.k, Vi x.n, .string x.s, .string x.nm, .slice A2 ((exRows x.args vs).length) c2], .row (.slice A2 ((exRows x.args vs).length) c2) 36 6 (exRows x.args vs)] [(b1, 0, [Vi x.op, Vi x.k, Vi x.n, .string x.s, .string x.nm, .slice A len ca])] ?_
      refine hQ.toJ [.agg #[Vi x.op, Vi x.k, Vi x.n, .string x.s, .string x.nm, .slice A2 ((exRows x.args vs).length) c2]] [] (fun a w hJ => ?_) (ix := [1])
      have fr := hJ.j.rowOut0 (v := .slice A2 ((exRows x.args vs).length) c2) (e := 36) (k := 6) (l := exRows x.args vs) 2 (by kernel_rfl) rfl
      exact ⟨.slice A2 (exRows x.args vs).length c2, rfl, IsArgs.mk fr (hvs.sees hJ.j.out)⟩

theorem copy_any (x : Ex) (v : Value) (h : Vw) (hx : IsArgs h x v) (hb : (szE x).1 < 1000000) : C0 Try.prog 24 #[.agg #[.int .i64 x.op, .int .i64 x.k, .int .i64 x.n, .string x.s, .string x.nm, v]] h (fun r h' => ∃ u, r = .agg #[.int .i64 x.op, .int .i64 x.k, .int .i64 x.n, .string x.s, .string x.nm, .slice (sA u) (sN u) (sC u)] ∧ IsArgs h' x (.slice (sA u) (sN u) (sC u))) := copy_rec _ x v h (Nat.le_refl _) hx hb


end Go.Proofs.Ythgcgciceejicaa
