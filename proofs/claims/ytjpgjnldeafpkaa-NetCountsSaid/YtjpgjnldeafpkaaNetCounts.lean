/-
  For all raw things and numbers NetCounts returns true: letters appear and disappear only as the operations say, and all others keep their order. No condition.
-/
import Derived.Test.YtjpgjnldeafpkaaGo
import Derived.Test.YtjpgjnldeafpkaaNetX
import Derived.Test.YtjpgjnldeafpkaaSlLtrI
import Derived.Test.YtjpgjnldeafpkaaRgE
import Derived.Test.YtjpgjnldeafpkaaLawX
namespace Go.Proofs.Ytjpgjnldeafpkaa
open Go.RowKit
set_option linter.unusedVariables false

theorem CRow.new {P : Program} {f : FuncId} {args : Array Value} {h : Vw} {e : TypeId} {k : Nat} {l : List (List Value)} (hc : CRow P f args h e k (fun _ rows => rows = l)) :
    C0 P f args h (fun v h' => ∃ u lu, Ent.ok h.w.heap.size h'.w (.row u e k lu) ∧ (∃ z, u = .slice (sA z) (sN z) (sC z)) ∧ v = u ∧ lu = l) := by
  intro a1 a2 a3 a4
  refine (hc a1 a2 a3 a4).mono ?_
  rintro en w' ⟨v, Bo, h1, h2, h3, h4, r, h5, rfl⟩
  refine ⟨v, Bo, h1, h2, h3, h4, v, _, h5, ?_, rfl, rfl⟩
  rcases h5.1.2 with ⟨rfl, -⟩ | ⟨g, cap, cur, rfl, -⟩
  · exact ⟨.slice none 0 0, rfl⟩
  · exact ⟨.slice (some ⟨g, 0, none⟩) _ cap, rfl⟩
theorem CRow.sluL {P : Program} {f : FuncId} {args : Array Value} {h : Vw} {e : TypeId} {k : Nat} {l : List (List Value)} (hc : CRow P f args h e k (fun _ rows => rows = l)) : CRow P f args h e k (fun v rows => (∃ u, v = .slice (sA u) (sN u) (sC u)) ∧ rows = l) := by
  intro a1 a2 a3 a4
  refine (hc a1 a2 a3 a4).mono ?_
  rintro en w' ⟨v, Bo, h1, h2, h3, h4, r, h5, rfl⟩
  refine ⟨v, Bo, h1, h2, h3, h4, _, h5, ?_, rfl⟩
  rcases h5.1.2 with ⟨rfl, -⟩ | ⟨g, cap, cur, rfl, -⟩
  · exact ⟨.slice none 0 0, rfl⟩
  · exact ⟨.slice (some ⟨g, 0, none⟩) _ cap, rfl⟩

theorem lcs_ins (l : List Ltr) (i : Nat) (x : Ltr) : (lcs l).take i ++ x.cells :: (lcs l).drop i = lcs (l.take i ++ x :: l.drop i) := by
  unfold lcs
  rw [List.map_append, List.map_cons, List.map_take, List.map_drop]

set_option maxRecDepth 100000 in
theorem c_twice (l : List Ltr) (v : Value) (i : Nat) (x : Ltr) (h : Vw) (hr : RS h 8 v (lcs l)) (hl : l.length ≤ 23) (hok : ∀ x ∈ l, OkL x) (hi : l[i]? = some x) :
    C0 Try.prog 9 #[v, .int .i64 (i : Int)] h (fun r h' => ∃ u, r = .tuple #[.slice (sA u) (sN u) (sC u), .int .i64 0] ∧ RS h' 8 (.slice (sA u) (sN u) (sC u)) (lcs (l.take i ++ x :: l.drop i))) := by
  have hA := fun H q => c_at (h := H) (v := v) q (by omega) hok i x hi
  have hC := fun H (q : RS H 8 v (lcs l)) => CRow.sluL (c_cloneL q (by omega))
  have hC2 := fun H v2 (q : RS H 8 v2 (lcs (l.take i ++ x :: l.drop i))) => CRow.new (c_cloneL q (by simp; omega))
  have hil := (List.getElem?_eq_some_iff.1 hi).1
  have hx1 : ∀ u ∈ x.cells, u.oneCell' = true := lcs_one l _ (List.mem_map.2 ⟨x, List.mem_of_getElem? hi, rfl⟩)
  have hI := fun v1 vb H => c_insert v1 (lcs l) i vb x.cells H (lcs_len l) rfl (lcs_one l) hx1 (by rw [List.length_map]; exact hil) (by rw [List.length_map]; omega)
  rw [lcs_ins] at hI
  obtain ⟨A, c, rfl, -, -, -⟩ := hr.form
  rw [List.length_map] at *
  generalize hn : l.length = n at *
  refine g_con Try.func9 (c := Try.f9.body.getD .skip) (N := 27) ?_
  intro hbx hbad Q hQ
  refine go1 41 [.cl 19 #[.slice A n c, Vi (i : Int)] (.tuple #[.agg #[.string x.f, Vi x.id, Vi x.kk, Vi x.kn, .string x.ks, Vi x.ak, Vi x.an, .string x.as'], Vi 0]), .own, .b 0 0] [(19, .bool ((n : Int) == 24), .bool false)] ?_ (ho := (And.intro (fun H sH => hA _ (hr.sees sH)) (trivial))) (hc := (And.intro (congrArg Value.bool (beq_eq_false_iff_ne.2 (by omega))) (trivial)))
  intro b1
  refine g_reg 9 2 [.pu, .e (fun gh => .slice (sA (gh 1)) (sN (gh 1)) (sC (gh 1))) 0 (fun gh => .row (.slice (sA (gh 1)) (sN (gh 1)) (sC (gh 1))) 36 8 (lcs l)), .pu, .ld 2 0, .e (fun gh => .slice (some ⟨(blkOf (gh 4)), 0, none⟩) 1 1) 1 (fun gh => .box (blkOf (gh 4)) [.string x.f, Vi x.id, Vi x.kk, Vi x.kn, .string x.ks, Vi x.ak, Vi x.an, .string x.as']), .e (fun gh => .slice (sA (gh 5)) (sN (gh 5)) (sC (gh 5))) 0 (fun gh => .row (.slice (sA (gh 5)) (sN (gh 5)) (sC (gh 5))) 36 8 (lcs (l.take i ++ x :: l.drop i))), .f (fun gh => .slice (sA (gh 6)) (sN (gh 6)) (sC (gh 6))) (fun gh hh => RS hh 8 (.slice (sA (gh 6)) (sN (gh 6)) (sC (gh 6))) (lcs (l.take i ++ x :: l.drop i))), .pu, .pu] [(1, false), (4, true), (5, false), (6, false)] (And.intro (fun _ _ _ s c => c.sees s) (trivial)) ?_ ?_
  · intro R hT hA hmono
    refine And.intro (r_callown hT hA hmono ⟨fun _ _ => by kernel_rfl, fun _ _ => by kernel_rfl, fun _ _ => by kernel_rfl⟩ (by kernel_rfl) 21 (fun u => .slice (sA u) (sN u) (sC u)) [0] 1 (by kernel_rfl) (fun _ => by kernel_rfl) 0 (GN R 0) (by kernel_rfl) (by kernel_rfl) (by kernel_rfl) 36 8 (fun gh => lcs l) (fun _ => by kernel_rfl) (fun _ => by kernel_rfl) (fun _ _ => rfl) 20 (fun gh => #[.slice A n c]) (fun _ _ => by kernel_rfl) (fun gh H sH fH => hC _ (hr.sees sH))) ?_
    refine And.intro (r_allocF hT hA hmono ⟨fun _ _ => by kernel_rfl, fun _ _ => by kernel_rfl, fun _ _ => by kernel_rfl⟩ (by kernel_rfl) 24 (fun g => Vs g 1 1) [3] 4 (by kernel_rfl) (fun _ => by kernel_rfl) 1 (GN R 1) (by kernel_rfl) (by kernel_rfl) (by kernel_rfl) (fun gh => [.string x.f, Vi x.id, Vi x.kk, Vi x.kn, .string x.ks, Vi x.ak, Vi x.an, .string x.as']) (fun _ => by kernel_rfl) (fun _ => by kernel_rfl) 36 (fun _ _ => by kernel_rfl) (fun _ _ => by kernel_rfl)) ?_
    refine And.intro (r_callE' hT hA hmono ⟨fun _ _ => by kernel_rfl, fun _ _ => by kernel_rfl, fun _ _ => by kernel_rfl⟩ (by kernel_rfl) 25 (fun u => .slice (sA u) (sN u) (sC u)) [1, 2, 4] 5 (by kernel_rfl) (fun _ => by kernel_rfl) [0, 1] (by kernel_rfl) (by kernel_rfl) (fun gh => [.row (.slice (sA (gh 1)) (sN (gh 1)) (sC (gh 1))) 36 8 (lcs l), .box (blkOf (gh 4)) [.string x.f, Vi x.id, Vi x.kk, Vi x.kn, .string x.ks, Vi x.ak, Vi x.an, .string x.as']]) (fun gh u => [.row (.slice (sA u) (sN u) (sC u)) 36 8 (lcs (l.take i ++ x :: l.drop i)), .box (blkOf (gh 4)) [.string x.f, Vi x.id, Vi x.kk, Vi x.kn, .string x.ks, Vi x.ak, Vi x.an, .string x.as']]) (fun _ => by kernel_rfl) (fun _ => by kernel_rfl) (fun _ _ => by kernel_rfl) 22 (fun gh => #[.slice (sA (gh 1)) (sN (gh 1)) (sC (gh 1)), Vi (i : Int), .slice (some ⟨(blkOf (gh 4)), 0, none⟩) 1 1]) (fun _ _ => by kernel_rfl) (fun gh H sH fH => hI _ _ _)) ?_
    refine And.intro (r_callqf hT hA hmono ⟨fun _ _ => by kernel_rfl, fun _ _ => by kernel_rfl, fun _ _ => by kernel_rfl⟩ 26 (fun u => .slice (sA u) (sN u) (sC u)) [5] 6 (by kernel_rfl) (by kernel_rfl) (fun _ => by kernel_rfl) 0 (GN R 0) (by kernel_rfl) (by kernel_rfl) (fun gh => .slice (sA (gh 5)) (sN (gh 5)) (sC (gh 5))) 36 8 (lcs (l.take i ++ x :: l.drop i)) (fun _ => by kernel_rfl) (te := 36) (k1 := 8) (lcs (l.take i ++ x :: l.drop i)) 0 (by kernel_rfl) (by kernel_rfl) 20 (fun gh => #[.slice (sA (gh 5)) (sN (gh 5)) (sC (gh 5))]) (fun _ _ => by kernel_rfl) (fun gh H bH sH fH rQ => hC2 _ _ rQ)) ?_
    trivial
  rintro u21 b2 u25 u26 W3 S4 ⟨f26, -⟩
  replace f26 : RS W3 8 (.slice (sA u26) (sN u26) (sC u26)) (lcs (l.take i ++ x :: l.drop i)) := f26
  refine go0 2 [] [] ?_
  refine hQ.to [.slice (sA u26) (sN u26) (sC u26), Vi 0] (fun H sH => ?_)
  exact ⟨u26, rfl, (f26.sees sH)⟩

theorem erase_eq {α : Type} : ∀ (l : List α) (i : Nat), l.eraseIdx i = l.take i ++ l.drop (i + 1)
  | [], _ => by simp
  | x :: l, 0 => by simp
  | x :: l, i + 1 => by rw [List.eraseIdx_cons_succ, erase_eq l i]; rfl
theorem erase_ins {α : Type} (z : α) : ∀ (l : List α) (i : Nat), i ≤ l.length → (l.take i ++ z :: l.drop i).eraseIdx i = l
  | [], 0, _ => rfl
  | [], i + 1, h => by simp at h
  | x :: l, 0, _ => rfl
  | x :: l, i + 1, h => by
    show (x :: (l.take i ++ z :: l.drop i)).eraseIdx (i + 1) = _
    rw [List.eraseIdx_cons_succ, erase_ins z l i (by simpa using h)]

set_option maxHeartbeats 8000000 in
set_option maxRecDepth 100000 in
theorem netCounts_c (l : List RawD) (sl : Value) (i : Int) (h : Vw) (hl : RS h 4 sl (l.map RawD.cs)) (ll : l.length * 40 ≤ 140737488351232) (ol : ∀ r ∈ l, r.ok) (i0 : -9223372036854775808 ≤ i) (i1 : i ≤ 9223372036854775807) :
    C0 Try.prog 3 #[sl, .int .i64 i] h (fun v _ => v = .bool true) := by
  obtain ⟨xl, xo⟩ := ltrT_ok (l ++ [rawZ]) (l ++ [rawZ]).length (Nat.le_refl _)
  have hL := fun H v g => c_letters (h := H) (v := v) (rs := l ++ [rawZ]) g (by simp; omega) (fun r hr => by
    rcases List.mem_append.1 hr with hr | hr
    · exact ol r hr
    · rw [List.mem_singleton.1 hr]; exact rawZ_ok)
  have hx1 : ltrOf (l ++ [rawZ]) = ltrT (l ++ [rawZ]) (l ++ [rawZ]).length := rfl
  rw [hx1] at hL
  generalize ltrT (l ++ [rawZ]) (l ++ [rawZ]).length = x at *
  have xn : 1 ≤ x.length := by rw [xl]; simp; omega
  have xm : x.length ≤ 12 := by omega
  have p0 := pickL_lo i x.length (by omega)
  have p1 := pickL_hi i x.length (by omega)
  have hpi := c_picked i x.length
  obtain ⟨k, hk⟩ : ∃ k : Nat, pickL i x.length = (k : Int) := ⟨_, (Int.toNat_of_nonneg p0).symm⟩
  rw [hk] at p1 hpi
  obtain ⟨z, hz⟩ : ∃ z, x[k]? = some z := ⟨_, List.getElem?_eq_getElem (by omega)⟩
  have okx : ∀ y ∈ x, OkL y := fun y hy => (xo y hy).1
  have okb : ∀ y ∈ x.take k ++ z :: x.drop k, OkL y := fun y hy => by
    rcases List.mem_append.1 hy with q | q
    · exact okx y (List.mem_of_mem_take q)
    · rcases List.mem_cons.1 q with rfl | q
      · exact okx _ (List.mem_of_getElem? hz)
      · exact okx y (List.mem_of_mem_drop q)
  have hbl : (x.take k ++ z :: x.drop k).length = x.length + 1 := by simp; omega
  have hLo := fun H v g => c_lose (h := H) (v := v) (l := x) g (by omega) okx k (by omega)
  rw [erase_eq] at hLo
  have hTw : ∀ H v, RS H 8 v (lcs x) → C0 Try.prog 9 #[v, .int .i64 (k : Int)] H (fun r h' => ∃ A c, r = .tuple #[.slice A (x.length + 1) c, .int .i64 0] ∧ RS h' 8 (.slice A (x.length + 1) c) (lcs (x.take k ++ z :: x.drop k))) := fun H v g => (c_twice x v k z H g (by omega) okx hz).mono fun r h' _ => by
    rintro ⟨u, rfl, q⟩
    obtain ⟨A, c, e, -⟩ := q.form
    rw [List.length_map, hbl] at e
    rw [e] at q ⊢
    exact ⟨A, c, rfl, q⟩
  have hL2 := fun H v g => c_lose (h := H) (v := v) (l := x.take k ++ z :: x.drop k) g (by omega) okb k (by omega)
  rw [erase_ins z x k (by omega)] at hL2
  generalize x.take k ++ z :: x.drop k = y at *
  have hxl : (lcs x).length = x.length := List.length_map _
  have htd : ∀ (H : Vw) (A : Option Addr) (c : Nat) (A' : Option Addr) (b : Nat), RS H 8 (.slice A x.length c) (lcs x) → (A' = if c = k + 1 then A else A.map (·.add ((k + 1) * 8))) → Cells H b 0 [.slice A k c, .slice A' (x.length - (k + 1)) (c - (k + 1))] →
      C0 Try.prog 11 #[.slice (some ⟨b, 0, none⟩) 2 2] H (fun r h' => ∃ u, r = .slice (sA u) (sN u) (sC u) ∧ RS h' 8 (.slice (sA u) (sN u) (sC u)) (lcs (x.take k ++ x.drop (k + 1)))) := fun H A c A' b g e hc => by
    have g1 := g.take k (by omega)
    have g2 := g.drop (k + 1) (by omega)
    rw [← e] at g2
    rw [← List.map_take] at g1
    rw [← List.map_drop] at g2
    exact c_concat (rs_cells (k := 1) [[.slice A k c], [.slice A' (x.length - (k + 1)) (c - (k + 1))]] (fun r hr => by simp at hr; rcases hr with rfl | rfl <;> rfl) (show (2 : Nat) ≤ maxLen by decide) hc) g1 g2 (by simp; omega)
  have hEq := fun H v v' g g' => c_equal (h := H) (v := v) (v' := v') (l := x.take k ++ x.drop (k + 1)) g g' (by simp; omega)
  have hEx := fun H v v' g g' => c_equal (h := H) (v := v) (v' := v') (l := x) g g' (by omega)
  obtain ⟨A0, c0, rfl, -, -, -⟩ := hl.form
  rw [List.length_map] at *
  refine g_con Try.func3 (c := Try.f3.body.getD .skip) (N := 77) ?_
  intro hbx hbad Q hQ
  refine go0 8 [] [] ?_
  refine g_callrow (fun H sH => c_cloneR (hl.sees sH) (by omega)) ?_; rintro v14 _ rfl
  refine gov1 2 [.fix] [] ?_
  intro b1 W2 S3
  refine g_append 0 0 (v := v14) (kk := 4) (t := 22) (te := 27) (l := (l.map RawD.cs)) (ns := [[Vi 0, Vi 0, Vi 0, Ve]]) (b := b1) (m := 1) (c := 1) (y := (.tmp 14)) (z := (.tmp 16)) (zv := .agg #[Vi 0, Vi 0, Vi 0, Ve]) (bytes := 40) (by kernel_rfl) Try.underlying22 (by kernel_rfl) (by kernel_rfl) (by rw [List.length_map]; omega) ?_; intro v17 W4 S5
  refine g_freeze 0 (v := .slice (sA v17) (sN v17) (sC v17)) (e := 27) (kk := 4) (l := (l.map RawD.cs) ++ [[Vi 0, Vi 0, Vi 0, Ve]]) ?_; intro W6 S7 fr
  have hzc : (l.map RawD.cs) ++ [[.int .i64 0, .int .i64 0, .int .i64 0, .string ⟨#[]⟩]] = (l ++ [rawZ]).map RawD.cs := by rw [List.map_append]; rfl
  rw [hzc] at fr
  refine g_call (fun H sH => hL _ _ (fr.sees sH)) ?_; rintro _ W8 S9 ⟨A, c, rfl, hx⟩
  refine go0 16 [.cl 7 #[Vi i, Vi (x.length : Int)] (Vi (k : Int))] [] ?_ (ho := (And.intro (fun H sH => hpi _ i0 i1 (by omega) (by omega)) (trivial)))
  have hcap : x.length ≤ c := by obtain ⟨_, _, e, q, -⟩ := hx.form; simp only [Value.slice.injEq] at e; omega
  refine g_call (fun H sH => hLo _ _ (hx.sees sH)) ?_; rintro _ W10 S11 ⟨ua, rfl, ha⟩
  refine go0 11 [] [] ?_
  refine g_call (fun H sH => hTw _ _ (hx.sees (S11.trans sH))) ?_; rintro _ W12 S13 ⟨Ab, cb, rfl, hb⟩
  refine go0 11 [] [] ?_
  refine g_call (fun H sH => hL2 _ _ (hb.sees sH)) ?_; rintro _ W14 S15 ⟨uc, rfl, hc⟩
  refine go0 8 [] [] ?_
  obtain ⟨Ad, hAd⟩ : ∃ x, x = (if c = (k + 1) then A else (A : Option Addr).map (·.add ((k + 1) * 8))) := ⟨_, rfl⟩
  refine g_reg 37 0 [.pu, .pu, .pu, .pu, .pu, .pu, .pu, .pu, .pu, .pu, .pu, .pu, .pu, .pu, .v (fun gh => .slice A k c), .pu, .pu, .v (fun gh => Vi ((k + 1 : Nat) : Int)), .v (fun gh => .slice Ad (x.length - (k + 1)) (c - (k + 1))), .f (fun gh => .slice (some ⟨(blkOf (gh 19)), 0, none⟩) 2 2) (fun gh hh => Cells hh (blkOf (gh 19)) 0 [.slice A k c, .slice Ad (x.length - (k + 1)) (c - (k + 1))]), .f (fun gh => .slice (sA (gh 20)) (sN (gh 20)) (sC (gh 20))) (fun gh hh => RS hh 8 (.slice (sA (gh 20)) (sN (gh 20)) (sC (gh 20))) (lcs (x.take k ++ x.drop (k + 1)))), .v (fun gh => .bool true), .pu, .pu, .pu, .pu, .pu, .pu, .v (fun gh => Vi ((x.length + 1 : Nat) : Int)), .v (fun gh => .bool true), .pu, .pu, .pu, .pu, .v (fun gh => .bool true), .pu, .pu] [(19, true), (20, false)] (by exact And.intro (fun _ _ _ s c => c.sees s) (And.intro (fun _ _ _ s c => c.sees s) (trivial))) ?_ ?_
  · intro R hT hA hmono
    refine And.intro (t_p hT hA (fun gh => .slice A k c) (fun gh w => run_hi (t := 23) (e := 36) (x := (.tmp 53)) (y := (.tmp 54)) (A := A) (n := x.length) (cap := c) (k := k) (kk := 8) (by kernel_rfl) (by kernel_rfl) (by kernel_rfl) (by omega) Try.underlying23 (by kernel_rfl))) ?_
    refine And.intro (t_eq hT hA (fun gh => Vi ((k + 1 : Nat) : Int)) (fun gh => Vi (IntKind.i64.wrap ((k : Int) + 1))) (fun gh => i64_wrap (by omega) (by omega))) ?_
    refine And.intro (t_p hT hA (fun gh => .slice Ad (x.length - (k + 1)) (c - (k + 1))) (fun gh w => run_lo (t := 23) (e := 36) (x := (.tmp 56)) (y := (.tmp 58)) (A := A) (A' := Ad) (n := x.length) (cap := c) (k := (k + 1)) (kk := 8) (by kernel_rfl) (by kernel_rfl) (by kernel_rfl) (by omega) Try.underlying23 (by kernel_rfl) hAd)) ?_
    refine And.intro (r_fact hT hA hmono ⟨fun _ _ => by kernel_rfl, fun _ _ => by kernel_rfl, fun _ _ => by kernel_rfl⟩ 60 (fun g => Vs g 2 2) [10, 14, 18] 19 (by kernel_rfl) (by kernel_rfl) (fun _ => by kernel_rfl) (fun gh => [.slice A k c, .slice Ad (x.length - (k + 1)) (c - (k + 1))]) 23 (fun _ _ => by kernel_rfl) (fun gh zb zH zc zj zq zhq zhe => own_fact (i := 19) (k := 0) (f := fun gh hh => Cells hh (blkOf (gh 19)) 0 [.slice A k c, .slice Ad (x.length - (k + 1)) (c - (k + 1))]) (by kernel_rfl) (by kernel_rfl) zc zj zq zhq zhe)) ?_
    refine And.intro (r_call hT hA hmono ⟨fun _ _ => by kernel_rfl, fun _ _ => by kernel_rfl, fun _ _ => by kernel_rfl⟩ 61 (fun u => .slice (sA u) (sN u) (sC u)) [10, 19] 20 (by kernel_rfl) (by kernel_rfl) (fun _ => by kernel_rfl) 11 (fun gh => #[.slice (some ⟨(blkOf (gh 19)), 0, none⟩) 2 2]) (fun _ _ => by kernel_rfl) (fun gh H sH fH lent => C0.facts (R := R) (x := gh) (i := 20) (n := 1) (F := (fun u => .slice (sA u) (sN u) (sC u))) (G := fun u hh => RS hh 8 (.slice (sA u) (sN u) (sC u)) (lcs (x.take k ++ x.drop (k + 1)))) (f := fun gh hh => RS hh 8 (.slice (sA (gh 20)) (sN (gh 20)) (sC (gh 20))) (lcs (x.take k ++ x.drop (k + 1)))) (htd _ _ _ _ _ (hx.sees (S11.trans (S13.trans (S15.trans sH)))) hAd (fH 0 _ rfl (by kernel_rfl))) (by kernel_rfl) (by kernel_rfl) (fun _ _ r => r))) ?_
    refine And.intro (t_v hT hA hmono (k := 10) (args := (fun gh => #[.slice (sA ua) (sN ua) (sC ua), .slice (sA (gh 20)) (sN (gh 20)) (sC (gh 20))])) (f := fun gh => .bool true) (fun gh H sH fH lent => hEq _ _ _ (ha.sees (S13.trans (S15.trans sH))) (fH 1 _ rfl (by kernel_rfl)))) ?_
    refine And.intro (t_eq hT hA (fun gh => Vi ((x.length + 1 : Nat) : Int)) (fun gh => Vi (IntKind.i64.wrap ((x.length : Int) + 1))) (fun gh => i64_wrap (by omega) (by omega))) ?_
    refine And.intro (t_eq hT hA (fun gh => .bool true) (fun gh => .bool ((x.length + 1 : Int) == ((x.length + 1 : Nat) : Int))) (fun gh => congrArg Value.bool (beq_self_eq_true _))) ?_
    refine And.intro (t_v hT hA hmono (k := 10) (args := (fun gh => #[.slice (sA uc) (sN uc) (sC uc), .slice A x.length c])) (f := fun gh => .bool true) (fun gh H sH fH lent => hEx _ _ _ (hc.sees sH) (hx.sees (S11.trans (S13.trans (S15.trans sH)))))) ?_
    trivial
  rintro b17 u61 W18 S19 ⟨f16, f61, -⟩
  replace f16 : Cells W18 b17 0 [.slice A k c, .slice Ad (x.length - (k + 1)) (c - (k + 1))] := f16
  replace f61 : RS W18 8 (.slice (sA u61) (sN u61) (sC u61)) (lcs (x.take k ++ x.drop (k + 1))) := f61
  refine g_fact f16 ?_
  refine go0 2 [] [] ?_
  refine hQ.to [.bool true] (fun H sH => ?_)
  exact rfl

theorem netCounts_walk (v : Value) (l : List RawD) (i : Int) (w : World) (h : RawsOf w v l) (i0 : -9223372036854775808 ≤ i) (i1 : i ≤ 9223372036854775807) :
    Calls Try.prog 3 #[v, .int .i64 i] w fun e w' => e = .returned (.bool true) ∧ Below w.heap.size w w' :=
  C0.law (netCounts_c l v i ⟨w, []⟩ h.rs h.2.1 h.2.2 i0 i1)

namespace netCountsLaw
open Go.ChangeShapes Go.WideShapes Go.ChangeAt Go.RowKit
open Go.ChangeMaps (open_string shut_string)
set_option linter.unusedVariables false

set_option maxRecDepth 100000 in
theorem lifted (os : Os) (started : os.Started) (H : Type) (enc : TypeId × Value → H) :
    ReturnsInHanded {} Try.checked os 3 .any (Rows.netCountsSpec.pre6 enc Try.prog Try.f3 Rows.netCountsRow.domain false) (Rows.netCountsSpec.post enc Try.prog Try.f3 false true false false) := by
  refine returnsInHanded_of_change_sized (C := Try.checked) ownNone started (by kernel_rfl) Try.func3
    (ChangeSpec.witness6 (enc := enc) (C := Try.checked) false ⟨#[], #[.slice none 0 0, .int .i64 0], []⟩ 8 (by kernel_rfl) (by kernel_rfl) (by kernel_rfl) (by kernel_rfl)) ?_
  intro W base args ds gs before hval0 hW hcnd hsz0 _
  have hval : ∀ (j : Nat) t v, Try.f3.params[j]? = some t → args[j]? = some v → Value.okWide Try.prog W .any base t v := hval0
  have hsz : (DataW.weightsEach Try.prog (Try.f3.params.toList ++ Rows.netCountsSpec.plain.varTypes Try.prog) (ds ++ gs)).all (· ≤ reachBytes) = true := hsz0
  have hW' := hW
  obtain ⟨p, q, hA0, hV, rfl, hfz, hnd⟩ := hW
  have hA : DataW.TrodAll enc Try.prog W 0 (fun _ => true) true Try.f3.params.toList args.toList ds p := hA0
  rw [Try.params3] at hA hval hsz
  obtain ⟨v0, vs0, d0, ds0, p0, q0, hargs, rfl, rfl, h0, r0⟩ := trodAll_cons hA
  obtain ⟨v1, vs1, d1, ds1, p1, q1, rfl, rfl, rfl, h1, r1⟩ := trodAll_cons r0
  obtain ⟨rfl, rfl, rfl⟩ := trodAll_nil r1
  obtain rfl : args = #[v0, v1] := by cases args; simp_all
  obtain ⟨rfl, rfl⟩ := trodVars_none hV
  have k0 := h0
  have lt0 : ∀ x ∈ p0, x.block < W.heap.size := by obtain ⟨m, hm⟩ := k0; exact DataW.trod_lt m _ _ _ hm
  obtain ⟨a0, w0⟩ := open_rows (hval 0 22 v0 rfl rfl) h0 (fun es ss hd => sized_slice hsz (j := 0) (t := 22) (elems := es) (spare := ss) rfl (by rw [hd]; rfl) Try.underlying22)
  have k1 := h1
  have lt1 : ∀ x ∈ p1, x.block < W.heap.size := by obtain ⟨m, hm⟩ := k1; exact DataW.trod_lt m _ _ _ hm
  obtain ⟨a1, rfl, -, -, w1⟩ := open_int Try.underlying3 (hval 1 3 v1 rfl rfl) h1
  clear hA0 hval0 hsz0
  refine (netCounts_walk v0 a0 a1 W w0 (int_lo w1) (int_hi w1)).mono fun e W' ⟨he, bel⟩ => ?_
  subst he
  exact ⟨_, rfl, _, _, _, [], _, [], hW', trodAll_mk1 (shut_bool Try.underlying4 _), (trodAll_cons_mk (Below.trod laidOutTrue (by kernel_rfl) (of_decide_eq_true (by kernel_rfl)) k0 bel lt0) (trodAll_cons_mk (Below.trod laidOutTrue (by kernel_rfl) (of_decide_eq_true (by kernel_rfl)) k1 bel lt1) trodAll_mk0)), rfl, bel.frame _, fun h => by cases h⟩

theorem over : Rows.netCountsRow.holds Try.pinned (OpenSpec.ofChange Rows.netCountsSpec) :=
  OpenClaim.holds_of_wide 3 Try.f3 rfl rfl rfl rfl rfl rfl rfl ⟨rfl, rfl, rfl, rfl, rfl⟩ rfl rfl rfl rfl rfl (by kernel_rfl) Try.func3 (by kernel_rfl)
    (of_decide_eq_true (by kernel_rfl)) (by unfold Func.isWrapper; first | (rw [if_pos (by decide +kernel)]; kernel_rfl) | (rw [if_neg (by decide +kernel)]; exact ⟨rfl, rfl⟩))
    (fun os started H enc _ => lifted os started H enc)

end netCountsLaw
theorem netCounts_holds : Rows.NetCountsSaid := netCountsLaw.over
#print axioms netCounts_holds
end Go.Proofs.Ytjpgjnldeafpkaa
