/-
  Contracts of package expr's reader where the text is a formula: level, one, whole, args.
-/
import Derived.Test.YthplkompdehjlaaGreatDoorGo
import Derived.Test.YthplkompdehjlaaGreatDoorRdr
import Derived.Test.YthplkompdehjlaaGreatDoorShow
namespace Go.Proofs.YthplkompdehjlaaGreatDoor
open Go.RowKit
set_option linter.unusedVariables false

/-- What a reading gives: the formula, and where the reader stands. -/
def PrsR (A : Option Addr) (C n : Nat) (en : Int) (x : Ex) (k' : Nat) (v : Value) (cs : List Value) (H : Vw) : Prop :=
  ∃ u, v = .agg #[.int .i64 x.op, .int .i64 x.k, .int .i64 x.n, .string x.s, .string x.nm, .slice (sA u) (sN u) (sC u)] ∧ cs = rdL (.slice (tkA A C k') (n - k') (C - k')) en ∧ IsArgs H x (.slice (sA u) (sN u) (sC u))
def PrsA (A : Option Addr) (C n : Nat) (en : Int) (l : List Ex) (k' : Nat) (v : Value) (cs : List Value) (H : Vw) : Prop :=
  ∃ u vs, v = .slice (sA u) (sN u) (sC u) ∧ cs = rdL (.slice (tkA A C k') (n - k') (C - k')) en ∧ RS H 6 (.slice (sA u) (sN u) (sC u)) (exRows l vs) ∧ AllArgs H l vs
/-- The readers' contracts, where so much is left to go. -/
structure PC (A : Option Addr) (C n : Nat) (en : Int) (T : List TokA) (f : Nat) : Prop where
  lv : ∀ (l k b : Nat) (h : Vw) (x : Ex) (k' : Nat), RS h 6 (.slice A n C) (tkRows T) → 1 ≤ l → l ≤ 6 → (prsF (T.map (·.t)) f).lv l k = .ok x k' →
    C1 Tryz.prog 30 #[.pointer (some ⟨b, 0, none⟩), .int .i64 (l : Int)] h b (rdL (.slice (tkA A C k) (n - k) (C - k)) en) (PrsR A C n en x k')
  on : ∀ (k b : Nat) (h : Vw) (x : Ex) (k' : Nat), RS h 6 (.slice A n C) (tkRows T) → (prsF (T.map (·.t)) f).on k = .ok x k' →
    C1 Tryz.prog 60 #[.pointer (some ⟨b, 0, none⟩)] h b (rdL (.slice (tkA A C k) (n - k) (C - k)) en) (PrsR A C n en x k')
  wh : ∀ (k b : Nat) (h : Vw) (x : Ex) (k' : Nat), RS h 6 (.slice A n C) (tkRows T) → (prsF (T.map (·.t)) f).wh k = .ok x k' →
    C1 Tryz.prog 92 #[.pointer (some ⟨b, 0, none⟩)] h b (rdL (.slice (tkA A C k) (n - k) (C - k)) en) (PrsR A C n en x k')
  ag : ∀ (m k b : Nat) (h : Vw) (l : List Ex) (k' : Nat), RS h 6 (.slice A n C) (tkRows T) → m ≤ 3 → (prsF (T.map (·.t)) f).ag m 0 [] k = .ok l k' →
    C1 Tryz.prog 123 #[.pointer (some ⟨b, 0, none⟩), .int .i64 (m : Int)] h b (rdL (.slice (tkA A C k) (n - k) (C - k)) en) (PrsA A C n en l k')
theorem then_ok {α β : Type} {r : PR α} {g : α → Nat → PR β} {y : β} {k' : Nat} (h : r.then g = .ok y k') : ∃ x k, r = .ok x k ∧ g x k = .ok y k' := by
  cases r with
  | ok x k => exact ⟨x, k, rfl, h⟩
  | bad k => cases h
  | out => cases h
theorem args_one {h : Vw} {x : Ex} {op : Int} {u : Value} {b : Nat} (hu : IsArgs h x u) (c : Cells h b 0 (exRow x u)) : IsArgs h (opE op [x]) (.slice (some ⟨b, 0, none⟩) 1 1) := by
  refine IsArgs.mk (vs := [u]) ?_ ?_
  · exact rs_cells (k := 6) (exRows [x] [u]) (fun r hr => by simp [exRows] at hr; subst hr; rfl) (by simp [exRows]; decide) (by simpa [exRows] using c)
  · show AllArgs h [x] [u]
    unfold AllArgs
    exact ⟨u, [], rfl, hu, by unfold AllArgs; rfl⟩
theorem args_two {h : Vw} {x y : Ex} {op : Int} {u v : Value} {b : Nat} (hu : IsArgs h x u) (hv : IsArgs h y v) (c : Cells h b 0 (exRow x u ++ exRow y v)) : IsArgs h (opE op [x, y]) (.slice (some ⟨b, 0, none⟩) 2 2) := by
  refine IsArgs.mk (vs := [u, v]) ?_ ?_
  · exact rs_cells (k := 6) (exRows [x, y] [u, v]) (fun r hr => by simp [exRows] at hr; rcases hr with rfl | rfl <;> rfl) (by simp [exRows]; decide) (by simpa [exRows] using c)
  · show AllArgs h [x, y] [u, v]
    unfold AllArgs
    refine ⟨u, [v], rfl, hu, ?_⟩
    unfold AllArgs
    exact ⟨v, [], rfl, hv, by unfold AllArgs; rfl⟩

set_option maxHeartbeats 1000000 in
set_option maxRecDepth 100000 in
theorem parse_true (h : Vw) : C0 Tryz.prog 122 #[.string ⟨#[116, 114, 117, 101]⟩] h (fun r _ => r = .tuple #[.agg #[.int .i64 2, .int .i64 1, .string ⟨#[]⟩], .int .i64 0]) := by
  have hS := fun H => sh_bool 1 H (.inr rfl)
  refine g_con Tryz.func122 (c := Tryz.f122.body.getD .skip) (N := 62) ?_
  intro hbx hbad Q hQ
  refine go2 76 [.own, .own, .b 0 0, .b 0 0, .cl 58 #[.agg #[Vi 2, Vi 1, Ve]] (.tuple #[.string ⟨#[116, 114, 117, 101]⟩, Vi 0]), .b 0 0, .b 1 0] [] ?_ (ho := (And.intro (fun H sH => hS _) (trivial)))
  intro b1 b2
  refine hQ.to [.agg #[Vi 2, Vi 1, Ve], Vi 0] (fun H sH => ?_) (ix := [1])
  exact rfl
set_option maxHeartbeats 1000000 in
set_option maxRecDepth 100000 in
theorem parse_false (h : Vw) : C0 Tryz.prog 122 #[.string ⟨#[102, 97, 108, 115, 101]⟩] h (fun r _ => r = .tuple #[.agg #[.int .i64 2, .int .i64 0, .string ⟨#[]⟩], .int .i64 0]) := by
  have hS := fun H => sh_bool 0 H (.inl rfl)
  refine g_con Tryz.func122 (c := Tryz.f122.body.getD .skip) (N := 62) ?_
  intro hbx hbad Q hQ
  refine go2 80 [.own, .own, .b 0 0, .b 0 0, .cl 58 #[.agg #[Vi 2, Vi 0, Ve]] (.tuple #[.string ⟨#[102, 97, 108, 115, 101]⟩, Vi 0]), .b 0 0, .b 1 0] [] ?_ (ho := (And.intro (fun H sH => hS _) (trivial)))
  intro b1 b2
  refine hQ.to [.agg #[Vi 2, Vi 0, Ve], Vi 0] (fun H sH => ?_) (ix := [1])
  exact rfl

theorem c_key (s : List UInt8) (h : Vw) : C0 Tryz.prog 95 #[.string ⟨s.toArray⟩] h (fun v _ => v = .bool (isKey s)) := by
  rcases Bool.eq_false_or_eq_true (isKey s) with hk | hk
  · rw [hk]; exact C0.of_same (fun w => key_yes ⟨s.toArray⟩ w hk) h
  · rw [hk]; exact C0.of_same (fun w => key_no ⟨s.toArray⟩ w hk) h

section
variable {A : Option Addr} {C : Nat} {T : List TokA}
set_option maxHeartbeats 1000000 in
set_option maxRecDepth 100000 in
theorem level_step (n : Nat) (hn : n = T.length) (en : Int) (f : Nat) (IH : ∀ g, g ≤ f → PC A C n en T g) (l k b : Nat) (h : Vw) (x : Ex) (k' : Nat) (hr : RS h 6 (.slice A n C) (tkRows T)) (l1 : 1 ≤ l) (l6 : l ≤ 6) (hp : (prsF (T.map (·.t)) (f + 1)).lv l k = .ok x k') :
    C1 Tryz.prog 30 #[.pointer (some ⟨b, 0, none⟩), .int .i64 (l : Int)] h b (rdL (.slice (tkA A C k) (n - k) (C - k)) en) (PrsR A C n en x k') := by
  have hp : (if l = 6 then (prsF (T.map (·.t)) f).on k else ((prsF (T.map (·.t)) f).lv (l + 1) k).then ((prsF (T.map (·.t)) f).lp l)) = .ok x k' := hp
  by_cases g6 : l = 6
  · rw [if_pos g6] at hp
    have hO := fun H q1 => (IH f (Nat.le_refl _)).on k b H x k' q1 hp
    refine g_con Tryz.func30 (c := Tryz.f30.body.getD .skip) (N := 34) ?_
    intro hbx hbad Q hQ
    refine go1 12 [.own] [] ?_
    intro b1
    refine g_true (t := (l : Int) == 6) (beq_iff_eq.2 (by omega)) ?_
    refine go0 3 [] [] ?_
    refine g_call1 1 (fun H sH => hO _ (hr.sees sH)) ?_; rintro _ _ W2 S3 ⟨u, rfl, rfl, hu⟩
    refine go0 5 [.b 0 0] [] ?_
    refine hQ.toB [.agg #[Vi x.op, Vi x.k, Vi x.n, .string x.s, .string x.nm, .slice (sA u) (sN u) (sC u)]] [(.slice (tkA A C k') (n - k') (C - k') :: Vi en :: shapesL)] (fun H sH => ?_) (ix := [0])
    exact ⟨_, rfl, u, rfl, rfl, (hu.sees sH)⟩
  · rw [if_neg g6] at hp
    obtain ⟨y, k1, e1, e2⟩ := then_ok hp
    have hO := fun H q1 => (IH f (Nat.le_refl _)).lv (l + 1) k b H y k1 q1 (by omega) (by omega) e1
    have hOp := fun k H q => op_any (A := A) (C := C) n hn en l k b H q
    have hTk := fun x k H q hx => take_any (A := A) (C := C) n hn en x k b H q hx
    refine g_con Tryz.func30 (c := Tryz.f30.body.getD .skip) (N := 34) ?_
    intro hbx hbad Q hQ
    refine go1 12 [.own] [] ?_
    intro b1
    refine g_false (t := (l : Int) == 6) (beq_eq_false_iff_ne.2 (by omega)) ?_
    refine go0 7 [] [(13, Vi (IntKind.i64.wrap ((l : Int) + 1)), Vi ((l + 1 : Nat) : Int))] ?_ (hc := (And.intro (i64_wrap (by omega) (by omega)) (trivial)))
    refine g_call1 1 (fun H sH => hO _ (hr.sees sH)) ?_; rintro _ _ W2 S3 ⟨u, rfl, rfl, hu⟩
    refine go1 5 [.own, .b 0 0] [] ?_
    intro bq
    refine g_loop [0, 1, 1, 1] [.block 0] (fun (g : Nat) X => ∃ (W4 : Vw) (z : Ex) (kz : Nat) (uz : Value), X W4 [(0, Vp b), (1, Vi (l : Int)), (4, Vp b1), (5, Vp bq)] [.box bq [Vi z.op, Vi z.k, Vi z.n, .string z.s, .string z.nm, .slice (sA uz) (sN uz) (sC uz)], .box b1 [Vi 0, Vi 0, Vi 0, Ve, Ve, Vz], .box b (.slice (tkA A C kz) (n - kz) (C - kz) :: Vi en :: shapesL)] [] ∧ Sees W2 W4 ∧ (g ≤ f) ∧ ((prsF (T.map (·.t)) g).lp l z kz = .ok x k') ∧ (IsArgs W4 z (.slice (sA uz) (sN uz) (sC uz)))) (fun g => g) (f) (fun X q => ⟨W2, y, k1, u, q _ _ _ _ ⟨rfl, by kernel_rfl⟩, Sees.refl _, Nat.le_refl _, e2, hu⟩) ?_
    rintro g a w ⟨W4, z, kz, uz, hJ, S5, hg, hz, hu2⟩; refine g_of hJ ?_; clear hJ a w
    refine go0 5 [] [] ?_
    obtain ⟨g', rfl⟩ : ∃ g', g = g' + 1 := by
      cases g with
      | zero => cases hz
      | succ g' => exact ⟨g', rfl⟩
    have hz : (if opkT (T.map (·.t)) l kz = 0 then PR.ok z kz else ((prsF (T.map (·.t)) g').lv (l + 1) (kz + 1)).then fun y k' => if l = 3 then .ok (opE (opkT (T.map (·.t)) l kz) [z, y]) k' else (prsF (T.map (·.t)) g').lp l (opE (opkT (T.map (·.t)) l kz) [z, y]) k') = .ok x k' := hz
    have hO2 := hOp kz
    have hob := opkT_tok (T := T) (l := l) (k := kz)
    generalize opkT (T.map (·.t)) l kz = op at *
    refine g_call1 2 (fun H sH => hO2 _ (hr.sees (S3.trans (S5.trans sH)))) ?_; rintro _ _ W6 S7 ⟨rfl, rfl⟩
    refine go0 10 [] [] ?_
    by_cases g0 : op = 0
    · rw [if_pos g0] at hz
      injection hz with hz1 hz2
      refine g_true (t := op == 0) (beq_iff_eq.2 g0) ?_
      refine go0 9 [.b 0 0, .b 1 0] [] ?_
      refine g_leave ?_
      refine go0 1 [] [] ?_
      refine hQ.toB [.agg #[Vi z.op, Vi z.k, Vi z.n, .string z.s, .string z.nm, .slice (sA uz) (sN uz) (sC uz)]] [(.slice (tkA A C kz) (n - kz) (C - kz) :: Vi en :: shapesL)] (fun H sH => ?_) (ix := [1])
      exact ⟨_, rfl, uz, by rw [hz1]; rfl, by rw [hz2], by rw [← hz1]; exact (hu2.sees (S7.trans sH))⟩
    · skip
      rw [if_neg g0] at hz
      obtain ⟨y2, k2, e3, e4⟩ := then_ok hz
      obtain ⟨t, ht⟩ := hob g0
      have hO3 := fun H q1 => (IH g' (by omega)).lv (l + 1) (kz + 1) b H y2 k2 q1 (by omega) (by omega) e3
      refine g_false (t := op == 0) (beq_eq_false_iff_ne.2 g0) ?_
      refine go0 5 [] [] ?_
      refine g_call1 2 (fun H sH => hTk t kz _ (hr.sees (S3.trans (S5.trans (S7.trans sH)))) ht) ?_; rintro _ _ W8 S9 ⟨rfl, rfl⟩
      refine go0 3 [] [] ?_
      refine g_reg 9 0 [.pu, .ld 0 0, .pu, .pu, .v (fun gh => Vi ((l + 1 : Nat) : Int)), .ef (fun gh => .agg #[Vi y2.op, Vi y2.k, Vi y2.n, .string y2.s, .string y2.nm, .slice (sA (gh 5)) (sN (gh 5)) (sC (gh 5))]) 2 (fun gh => .box b (.slice (tkA A C k2) (n - k2) (C - k2) :: Vi en :: shapesL)) (fun gh hh => IsArgs hh y2 (.slice (sA (gh 5)) (sN (gh 5)) (sC (gh 5)))), .f (fun gh => .slice (some ⟨(blkOf (gh 6)), 0, none⟩) 2 2) (fun gh hh => Cells hh (blkOf (gh 6)) 0 [Vi z.op, Vi z.k, Vi z.n, .string z.s, .string z.nm, .slice (sA uz) (sN uz) (sC uz), Vi y2.op, Vi y2.k, Vi y2.n, .string y2.s, .string y2.nm, .slice (sA (gh 5)) (sN (gh 5)) (sC (gh 5))]), .pu, .st 0 0] [(5, false), (6, true)] (And.intro (fun _ _ _ s c => c.sees s) (And.intro (fun _ _ _ s c => c.sees s) (trivial))) ?_ ?_
      · intro R hT hA hmono
        refine And.intro (t_eq hT hA (fun gh => Vi ((l + 1 : Nat) : Int)) (fun gh => Vi (IntKind.i64.wrap ((l : Int) + 1))) (fun gh => i64_wrap (by omega) (by omega))) ?_
        refine And.intro (r_call1 hT hA hmono ⟨fun _ _ => by kernel_rfl, fun _ _ => by kernel_rfl, fun _ _ => by kernel_rfl⟩ 28 (fun u => .agg #[Vi y2.op, Vi y2.k, Vi y2.n, .string y2.s, .string y2.nm, .slice (sA u) (sN u) (sC u)]) [2, 4] 5 (by kernel_rfl) (fun _ => by kernel_rfl) 2 (GN R 2) (by kernel_rfl) (by kernel_rfl) (by kernel_rfl) b (fun gh => (.slice (tkA A C (kz + 1)) (n - (kz + 1)) (C - (kz + 1)) :: Vi en :: shapesL)) (fun gh => (.slice (tkA A C k2) (n - k2) (C - k2) :: Vi en :: shapesL)) (fun _ => by kernel_rfl) (fun _ => by kernel_rfl) 30 (fun gh => #[Vp b, Vi ((l + 1 : Nat) : Int)]) (fun _ _ => by kernel_rfl) (fun gh H sH fH lent => C1.facts (R := R) (x := gh) (N' := fun gh => (.slice (tkA A C k2) (n - k2) (C - k2) :: Vi en :: shapesL)) (i := 5) (n := 0) (F := (fun u => .agg #[Vi y2.op, Vi y2.k, Vi y2.n, .string y2.s, .string y2.nm, .slice (sA u) (sN u) (sC u)])) (N := fun u => (.slice (tkA A C k2) (n - k2) (C - k2) :: Vi en :: shapesL)) (G := fun u hh => IsArgs hh y2 (.slice (sA u) (sN u) (sC u))) (f := fun gh hh => IsArgs hh y2 (.slice (sA (gh 5)) (sN (gh 5)) (sC (gh 5)))) (hO3 _ (hr.sees (S3.trans (S5.trans (S7.trans (S9.trans sH)))))) (by kernel_rfl) (by kernel_rfl) (fun _ => by kernel_rfl) (fun _ _ r => r))) ?_
        refine And.intro (r_fact hT hA hmono ⟨fun _ _ => by kernel_rfl, fun _ _ => by kernel_rfl, fun _ _ => by kernel_rfl⟩ 29 (fun g => Vs g 2 2) [1, 5] 6 (by kernel_rfl) (by kernel_rfl) (fun _ => by kernel_rfl) (fun gh => [Vi z.op, Vi z.k, Vi z.n, .string z.s, .string z.nm, .slice (sA uz) (sN uz) (sC uz), Vi y2.op, Vi y2.k, Vi y2.n, .string y2.s, .string y2.nm, .slice (sA (gh 5)) (sN (gh 5)) (sC (gh 5))]) 27 (fun _ _ => by kernel_rfl) (fun gh zb zH zc zj zq zhq zhe => own_fact (i := 6) (k := 1) (f := fun gh hh => Cells hh (blkOf (gh 6)) 0 [Vi z.op, Vi z.k, Vi z.n, .string z.s, .string z.nm, .slice (sA uz) (sN uz) (sC uz), Vi y2.op, Vi y2.k, Vi y2.n, .string y2.s, .string y2.nm, .slice (sA (gh 5)) (sN (gh 5)) (sC (gh 5))]) (by kernel_rfl) (by kernel_rfl) zc zj zq zhq zhe)) ?_
        trivial
      rintro u28 b11 W12 S13 ⟨f28, f10, -⟩
      replace f28 : IsArgs W12 y2 (.slice (sA u28) (sN u28) (sC u28)) := f28
      replace f10 : Cells W12 b11 0 [Vi z.op, Vi z.k, Vi z.n, .string z.s, .string z.nm, .slice (sA uz) (sN uz) (sC uz), Vi y2.op, Vi y2.k, Vi y2.n, .string y2.s, .string y2.nm, .slice (sA u28) (sN u28) (sC u28)] := f10
      refine g_fact f10 ?_
      refine go0 7 [] [] ?_
      by_cases g3 : l = 3
      · rw [if_pos g3] at e4
        injection e4 with hz1 hz2
        refine g_true (t := (l : Int) == 3) (beq_iff_eq.2 (by omega)) ?_
        refine go0 8 [.b 0 0, .b 1 0] [] ?_
        refine g_leave ?_
        refine go0 1 [] [] ?_
        refine hQ.toB [.agg #[Vi op, Vi 0, Vi 0, Ve, Ve, Vs b11 2 2]] [(.slice (tkA A C k2) (n - k2) (C - k2) :: Vi en :: shapesL)] (fun H sH => ?_) (ix := [1])
        exact ⟨_, rfl, Vs b11 2 2, by rw [← hz1]; rfl, by rw [hz2], by rw [← hz1]; exact args_two (hu2.sees (S7.trans (S9.trans (S13.trans sH)))) (f28.sees sH) (f10.sees sH)⟩
      · skip
        rw [if_neg g3] at e4
        refine g_false (t := (l : Int) == 3) (beq_eq_false_iff_ne.2 (by omega)) ?_
        refine go0 2 [] [] ?_
        exact g_round (g') (fun X q => ⟨W12, opE op [z, y2], k2, Vs b11 2 2, q _ _ _ _ ⟨rfl, by kernel_rfl⟩, (S5.trans (S7.trans (S9.trans S13))), by omega, e4, args_two (hu2.sees (S7.trans (S9.trans S13))) f28 f10⟩) (by omega)

set_option maxHeartbeats 1000000 in
set_option maxRecDepth 100000 in
theorem one_step (n : Nat) (hn : n = T.length) (en : Int) (f : Nat) (IH : PC A C n en T f) (k b : Nat) (h : Vw) (x : Ex) (k' : Nat) (hr : RS h 6 (.slice A n C) (tkRows T)) (hp : (prsF (T.map (·.t)) (f + 1)).on k = .ok x k') :
    C1 Tryz.prog 60 #[.pointer (some ⟨b, 0, none⟩)] h b (rdL (.slice (tkA A C k) (n - k) (C - k)) en) (PrsR A C n en x k') := by
  have hp : (if isK (T.map (·.t)) k [45] then ((prsF (T.map (·.t)) f).on (k + 1)).then fun x k' => PR.ok (opE 3 [x]) k' else if isK (T.map (·.t)) k [110, 111, 116] then ((prsF (T.map (·.t)) f).on (k + 1)).then fun x k' => .ok (opE 4 [x]) k' else (prsF (T.map (·.t)) f).wh k) = .ok x k' := hp
  have hI := fun s H q => is_any (A := A) (C := C) n hn en s k b H q
  have hI1 := fun H q => hI ⟨#[45]⟩ H q
  have hI2 := fun H q => hI ⟨#[110, 111, 116]⟩ H q
  have hT := fun t H q ht => take_any (A := A) (C := C) n hn en t k b H q ht
  have hm1 := fun q => isK_some (T := T) (k := k) (s := [45]) q
  have hm2 := fun q => isK_some (T := T) (k := k) (s := [110, 111, 116]) q
  change ∀ H, _ → C1 Tryz.prog 91 _ H b _ (fun v cs _ => v = .bool (isK (T.map (·.t)) k [45]) ∧ _) at hI1
  change ∀ H, _ → C1 Tryz.prog 91 _ H b _ (fun v cs _ => v = .bool (isK (T.map (·.t)) k [110, 111, 116]) ∧ _) at hI2
  generalize isK (T.map (·.t)) k [45] = i1 at *
  generalize isK (T.map (·.t)) k [110, 111, 116] = i2 at *
  refine g_con Tryz.func60 (c := Tryz.f60.body.getD .skip) (N := 28) ?_
  intro hbx hbad Q hQ
  refine go1 13 [.own] [] ?_
  intro b1
  refine g_loop [0, 1, 0, 1] [.block 0, .seq [1, 1]] (fun (j : Nat) X => ∃ (W2 : Vw) , X W2 [(0, Vp b), (2, Vp b1), (5, .agg #[Vi 3, Vi 4]), (6, Vi (j : Int))] [.box b1 [Vi 0, Vi 0, Vi 0, Ve, Ve, Vz], .box b (.slice (tkA A C k) (n - k) (C - k) :: Vi en :: shapesL)] [] ∧ Sees h W2 ∧ (j = 0 ∨ (j = 1 ∧ i1 = false) ∨ (j = 2 ∧ i1 = false ∧ i2 = false))) (fun j => 2 - j) (0) (fun X q => ⟨h, q _ _ _ _ ⟨rfl, by kernel_rfl⟩, Sees.refl _, .inl rfl⟩) ?_
  rintro j a w ⟨W2, hJ, S3, hj⟩; refine g_of hJ ?_; clear hJ a w
  refine go0 6 [] [] ?_
  rcases hj with j0 | ⟨j0, j1⟩ | ⟨j0, j1, j2⟩
  · skip
    refine g_true (t := decide ((j : Int) < 2)) (decide_eq_true (by omega)) ?_
    refine go0 6 [] [] ?_
    refine g_pure (Vi 3) (fun w => by subst j0; kernel_rfl) ?_
    refine go0 13 [.b 1 11] [] ?_
    refine g_call1 1 (fun H sH => hI1 _ (hr.sees (S3.trans sH))) ?_; rintro _ _ W4 S5 ⟨rfl, rfl⟩
    refine go0 2 [] [] ?_
    by_cases q0 : i1 = true
    · rw [if_pos q0] at hp
      obtain ⟨y, k2, e1, e2⟩ := then_ok hp
      injection e2 with hz1 hz2
      obtain ⟨t, ht, -⟩ := hm1 q0
      have hO := fun H p1 => IH.on (k + 1) b H y k2 p1 e1
      refine g_true (t := i1) (q0) ?_
      refine go0 3 [] [] ?_
      refine g_call1 1 (fun H sH => hT t _ (hr.sees (S3.trans (S5.trans sH))) ht) ?_; rintro _ _ W6 S7 ⟨rfl, rfl⟩
      refine go0 6 [] [] ?_
      refine g_call1 1 (fun H sH => hO _ (hr.sees (S3.trans (S5.trans (S7.trans sH))))) ?_; rintro _ _ W8 S9 ⟨u, rfl, rfl, hu⟩
      refine gov1 8 [.fix, .b 0 0] [] ?_
      intro b10 W11 S12
      refine g_leave ?_
      refine go0 2 [] [] ?_
      refine hQ.toJ [.agg #[Vi 3, Vi 0, Vi 0, Ve, Ve, Vs b10 1 1]] [(.slice (tkA A C k2) (n - k2) (C - k2) :: Vi en :: shapesL)] (fun a w hJ => ?_) (ix := [0])
      exact ⟨_, rfl, Vs b10 1 1, by rw [← hz1]; rfl, by rw [hz2], by rw [← hz1]; exact args_one (hu.sees (S12.trans hJ.j.out)) (show Cells ⟨w, h.bad⟩ b10 0 (exRow y (.slice (sA u) (sN u) (sC u))) from (hJ.f (_, _, _) (List.mem_of_getElem? (i := 0) (by kernel_rfl))).sees hJ.j.out)⟩
    · skip
      have q0 := Bool.eq_false_iff.2 q0
      refine g_false (t := i1) (q0) ?_
      refine go0 7 [] [(25, Vi (IntKind.i64.wrap ((j : Int) + 1)), Vi ((j : Int) + 1))] ?_ (hc := (And.intro (i64_wrap (by omega) (by omega)) (trivial)))
      exact g_round (j + 1) (fun X q => ⟨W4, q _ _ _ _ ⟨rfl, by kernel_rfl⟩, (S3.trans S5), .inr (.inl ⟨by omega, q0⟩)⟩) (by omega)
  · skip
    refine g_true (t := decide ((j : Int) < 2)) (decide_eq_true (by omega)) ?_
    refine go0 6 [] [] ?_
    refine g_pure (Vi 4) (fun w => by subst j0; kernel_rfl) ?_
    refine go0 13 [.b 1 14] [] ?_
    refine g_call1 1 (fun H sH => hI2 _ (hr.sees (S3.trans sH))) ?_; rintro _ _ W13 S14 ⟨rfl, rfl⟩
    refine go0 2 [] [] ?_
    by_cases q1 : i2 = true
    · rw [j1, if_neg Bool.false_ne_true, if_pos q1] at hp
      obtain ⟨y, k2, e1, e2⟩ := then_ok hp
      injection e2 with hz1 hz2
      obtain ⟨t, ht, -⟩ := hm2 q1
      have hO := fun H p1 => IH.on (k + 1) b H y k2 p1 e1
      refine g_true (t := i2) (q1) ?_
      refine go0 3 [] [] ?_
      refine g_call1 1 (fun H sH => hT t _ (hr.sees (S3.trans (S14.trans sH))) ht) ?_; rintro _ _ W15 S16 ⟨rfl, rfl⟩
      refine go0 6 [] [] ?_
      refine g_call1 1 (fun H sH => hO _ (hr.sees (S3.trans (S14.trans (S16.trans sH))))) ?_; rintro _ _ W17 S18 ⟨u, rfl, rfl, hu⟩
      refine gov1 8 [.fix, .b 0 0] [] ?_
      intro b19 W20 S21
      refine g_leave ?_
      refine go0 2 [] [] ?_
      refine hQ.toJ [.agg #[Vi 4, Vi 0, Vi 0, Ve, Ve, Vs b19 1 1]] [(.slice (tkA A C k2) (n - k2) (C - k2) :: Vi en :: shapesL)] (fun a w hJ => ?_) (ix := [0])
      exact ⟨_, rfl, Vs b19 1 1, by rw [← hz1]; rfl, by rw [hz2], by rw [← hz1]; exact args_one (hu.sees (S21.trans hJ.j.out)) (show Cells ⟨w, h.bad⟩ b19 0 (exRow y (.slice (sA u) (sN u) (sC u))) from (hJ.f (_, _, _) (List.mem_of_getElem? (i := 0) (by kernel_rfl))).sees hJ.j.out)⟩
    · skip
      have q1 := Bool.eq_false_iff.2 q1
      refine g_false (t := i2) (q1) ?_
      refine go0 7 [] [(25, Vi (IntKind.i64.wrap ((j : Int) + 1)), Vi ((j : Int) + 1))] ?_ (hc := (And.intro (i64_wrap (by omega) (by omega)) (trivial)))
      exact g_round (j + 1) (fun X q => ⟨W13, q _ _ _ _ ⟨rfl, by kernel_rfl⟩, (S3.trans S14), .inr (.inr ⟨by omega, j1, q1⟩)⟩) (by omega)
  · skip
    rw [j1, j2, if_neg Bool.false_ne_true, if_neg Bool.false_ne_true] at hp
    have hW := fun H p1 => IH.wh k b H x k' p1 hp
    refine g_false (t := decide ((j : Int) < 2)) (decide_eq_false (by omega)) ?_
    refine go0 2 [] [] ?_
    refine g_leave ?_
    refine go0 5 [] [] ?_
    refine g_call1 1 (fun H sH => hW _ (hr.sees (S3.trans sH))) ?_; rintro _ _ W22 S23 ⟨u, rfl, rfl, hu⟩
    refine go0 4 [.b 0 0] [] ?_
    refine hQ.toB [.agg #[Vi x.op, Vi x.k, Vi x.n, .string x.s, .string x.nm, .slice (sA u) (sN u) (sC u)]] [(.slice (tkA A C k') (n - k') (C - k') :: Vi en :: shapesL)] (fun H sH => ?_) (ix := [0])
    exact ⟨_, rfl, u, rfl, rfl, (hu.sees sH)⟩

set_option maxHeartbeats 1000000 in
set_option maxRecDepth 100000 in
theorem args_step (n : Nat) (hn : n = T.length) (en : Int) (f : Nat) (IH : ∀ g, g < f → PC A C n en T g) (m k b : Nat) (h : Vw) (l : List Ex) (k' : Nat) (hr : RS h 6 (.slice A n C) (tkRows T)) (hm : m ≤ 3) (hp : (prsF (T.map (·.t)) f).ag m 0 [] k = .ok l k') :
    C1 Tryz.prog 123 #[.pointer (some ⟨b, 0, none⟩), .int .i64 (m : Int)] h b (rdL (.slice (tkA A C k) (n - k) (C - k)) en) (PrsA A C n en l k') := by
  have hW := fun s k H q e => want_any (A := A) (C := C) n hn en s k b H q e
  refine g_con Tryz.func123 (c := Tryz.f123.body.getD .skip) (N := 27) ?_
  intro hbx hbad Q hQ
  refine g_nilrow 27 6 ?_
  refine go0 18 [] [] ?_
  refine g_loop [0, 1, 0, 1, 1] [.block 0, .seq [1, 1, 1]] (fun (g : Nat) X => ∃ (W1 : Vw) (i : Nat) (acc : List Ex) (us : List Value) (v : Value) (kz : Nat), X W1 [(0, Vp b), (7, Vi (m : Int)), (8, Vi (i : Int)), (5, v)] [.row v 27 6 (exRows acc us), .box b (.slice (tkA A C kz) (n - kz) (C - kz) :: Vi en :: shapesL)] [] ∧ Sees h W1 ∧ (g ≤ f) ∧ (i ≤ m) ∧ (acc.length = i) ∧ ((prsF (T.map (·.t)) g).ag m i acc kz = .ok l k') ∧ (AllArgs W1 acc us)) (fun g => g) (f) (fun X q => ⟨h, 0, [], [], (Vz), k, q _ _ _ _ ⟨rfl, by kernel_rfl⟩, Sees.refl _, Nat.le_refl _, Nat.zero_le _, rfl, hp, (by unfold AllArgs; rfl)⟩) ?_
  rintro g a w ⟨W1, i, acc, us, v, kz, hJ, S2, hg, hi, hai, hz, hvs⟩; refine g_of hJ ?_; clear hJ a w
  refine go0 6 [] [] ?_
  obtain ⟨g', rfl⟩ : ∃ g', g = g' + 1 := by
    cases g with
    | zero => cases hz
    | succ g' => exact ⟨g', rfl⟩
  have hz : (if i = m then (if isK (T.map (·.t)) kz [41] then PR.ok acc (kz + 1) else .bad kz) else if isK (T.map (·.t)) kz (if i = 0 then [40] else [44]) then ((prsF (T.map (·.t)) g').lv 1 (kz + 1)).then fun x k' => (prsF (T.map (·.t)) g').ag m (i + 1) (acc ++ [x]) k' else .bad kz) = .ok l k' := hz
  have hvl := hvs.len
  rcases (by omega : i < m ∨ i = m) with hlt | hke
  · rw [if_neg (by omega : ¬ i = m)] at hz
    by_cases hs : isK (T.map (·.t)) kz (if i = 0 then [40] else [44]) = true
    · rw [if_pos hs] at hz
      obtain ⟨x, k2, e1, e2⟩ := then_ok hz
      have hO := fun H p1 => (IH g' (by omega)).lv 1 (kz + 1) b H x k2 p1 (by omega) (by omega) e1
      refine g_true (t := decide ((i : Int) < (m : Int))) (decide_eq_true (by omega)) ?_
      refine gov1 16 [.fix] [] ?_
      intro b3 W4 S5
      by_cases h0 : i = 0
      · rw [if_pos h0] at hs
        refine g_rew 14 (v := Vi (if (1 : Int) < (i : Int) then (1 : Int) else (i : Int))) (v' := Vi 0) (congrArg (Value.int .i64) (by split <;> omega)) ?_
        refine go0 2 [.pu, .f 0 0] [] ?_
        refine g_call1 1 (fun H sH => hW ⟨#[40]⟩ kz _ (hr.sees (S2.trans (S5.trans sH))) hs) ?_; rintro _ _ W6 S7 ⟨rfl, rfl⟩
        refine go0 5 [] [] ?_
        refine g_call1 1 (fun H sH => hO _ (hr.sees (S2.trans (S5.trans (S7.trans sH))))) ?_; rintro _ _ W8 S9 ⟨u, rfl, rfl, hu⟩
        refine gov1 1 [.fix] [] ?_
        intro b10 W11 S12
        refine goa0 9 [.ap 0 0 (exRows acc us) [[Vi x.op, Vi x.k, Vi x.n, .string x.s, .string x.nm, .slice (sA u) (sN u) (sC u)]]] [(23, Vi (IntKind.i64.wrap ((i : Int) + 1)), Vi ((i : Int) + 1))] ?_ (ho := (And.intro (by have hxl := exRows_len hvl; simp only [List.length_cons, List.length_nil]; omega) (trivial))) (hc := (And.intro (i64_wrap (by omega) (by omega)) (trivial)))
        intro v22 W13 S14
        refine g_is [(0, Vp b), (7, Vi (m : Int)), (5, .slice (sA v22) (sN v22) (sC v22)), (8, Vi ((i : Int) + 1))] [.row (.slice (sA v22) (sN v22) (sC v22)) 27 6 ((exRows acc us) ++ [[Vi x.op, Vi x.k, Vi x.n, .string x.s, .string x.nm, .slice (sA u) (sN u) (sC u)]]), .box b (.slice (tkA A C k2) (n - k2) (C - k2) :: Vi en :: shapesL)] [] ?_
        exact g_round (g') (fun X q => ⟨W13, i + 1, acc ++ [x], us ++ [.slice (sA u) (sN u) (sC u)], .slice (sA v22) (sN v22) (sC v22), k2, q _ _ _ _ (says_ents (by rw [exRows_snoc hvl])), (S2.trans (S5.trans (S7.trans (S9.trans (S12.trans S14))))), by omega, by omega, by simp [hai], e2, AllArgs.snoc (hu.sees (S12.trans S14)) (hvs.sees (S5.trans (S7.trans (S9.trans (S12.trans S14)))))⟩) (by omega)
      · skip
        rw [if_neg h0] at hs
        refine g_rew 14 (v := Vi (if (1 : Int) < (i : Int) then (1 : Int) else (i : Int))) (v' := Vi 1) (congrArg (Value.int .i64) (by split <;> omega)) ?_
        refine go0 2 [.pu, .f 0 1] [] ?_
        refine g_call1 1 (fun H sH => hW ⟨#[44]⟩ kz _ (hr.sees (S2.trans (S5.trans sH))) hs) ?_; rintro _ _ W15 S16 ⟨rfl, rfl⟩
        refine go0 5 [] [] ?_
        refine g_call1 1 (fun H sH => hO _ (hr.sees (S2.trans (S5.trans (S16.trans sH))))) ?_; rintro _ _ W17 S18 ⟨u, rfl, rfl, hu⟩
        refine gov1 1 [.fix] [] ?_
        intro b19 W20 S21
        refine goa0 9 [.ap 0 0 (exRows acc us) [[Vi x.op, Vi x.k, Vi x.n, .string x.s, .string x.nm, .slice (sA u) (sN u) (sC u)]]] [(23, Vi (IntKind.i64.wrap ((i : Int) + 1)), Vi ((i : Int) + 1))] ?_ (ho := (And.intro (by have hxl := exRows_len hvl; simp only [List.length_cons, List.length_nil]; omega) (trivial))) (hc := (And.intro (i64_wrap (by omega) (by omega)) (trivial)))
        intro v22 W22 S23
        refine g_is [(0, Vp b), (7, Vi (m : Int)), (5, .slice (sA v22) (sN v22) (sC v22)), (8, Vi ((i : Int) + 1))] [.row (.slice (sA v22) (sN v22) (sC v22)) 27 6 ((exRows acc us) ++ [[Vi x.op, Vi x.k, Vi x.n, .string x.s, .string x.nm, .slice (sA u) (sN u) (sC u)]]), .box b (.slice (tkA A C k2) (n - k2) (C - k2) :: Vi en :: shapesL)] [] ?_
        exact g_round (g') (fun X q => ⟨W22, i + 1, acc ++ [x], us ++ [.slice (sA u) (sN u) (sC u)], .slice (sA v22) (sN v22) (sC v22), k2, q _ _ _ _ (says_ents (by rw [exRows_snoc hvl])), (S2.trans (S5.trans (S16.trans (S18.trans (S21.trans S23))))), by omega, by omega, by simp [hai], e2, AllArgs.snoc (hu.sees (S21.trans S23)) (hvs.sees (S5.trans (S16.trans (S18.trans (S21.trans S23)))))⟩) (by omega)
    · rw [if_neg hs] at hz
      cases hz
  · skip
    rw [if_pos hke] at hz
    by_cases hs : isK (T.map (·.t)) kz [41] = true
    · rw [if_pos hs] at hz
      injection hz with hz1 hz2
      refine g_form 0 (v := v) (e := 27) (kk := 6) (l := exRows acc us) ?_; intro A2 c2 hE_v hc_v hm_v
      rw [hE_v]
      refine g_false (t := decide ((i : Int) < (m : Int))) (decide_eq_false (by omega)) ?_
      refine go0 2 [] [] ?_
      refine g_leave ?_
      refine go0 5 [] [] ?_
      refine g_call1 1 (fun H sH => hW ⟨#[41]⟩ kz _ (hr.sees (S2.trans sH)) hs) ?_; rintro _ _ W24 S25 ⟨rfl, rfl⟩
      refine go0 9 [] [] ?_
      refine g_is [(4, .slice A2 ((exRows acc us).length) c2)] [.row (.slice A2 ((exRows acc us).length) c2) 27 6 (exRows acc us), .box b (.slice (tkA A C (kz + 1)) (n - (kz + 1)) (C - (kz + 1)) :: Vi en :: shapesL)] [] ?_
      refine hQ.toJ [.slice A2 ((exRows acc us).length) c2] [(.slice (tkA A C (kz + 1)) (n - (kz + 1)) (C - (kz + 1)) :: Vi en :: shapesL)] (fun a w hJ => ?_)
      have fr := hJ.j.rowOut1 (v := .slice A2 ((exRows acc us).length) c2) (e := 27) (k := 6) (l := exRows acc us) (g := b) (cs := (.slice (tkA A C (kz + 1)) (n - (kz + 1)) (C - (kz + 1)) :: Vi en :: shapesL)) 0 1 (by kernel_rfl) (by kernel_rfl) (by kernel_rfl) rfl
      exact ⟨_, rfl, .slice A2 (exRows acc us).length c2, us, rfl, by rw [hz2], by rw [← hz1]; exact fr, by rw [← hz1]; exact (hvs.sees (S25.trans hJ.j.out))⟩
    · rw [if_neg hs] at hz
      cases hz

set_option maxHeartbeats 2000000 in
set_option maxRecDepth 100000 in
theorem whole_step (n : Nat) (hn : n = T.length) (en : Int) (f : Nat) (IH : PC A C n en T f) (k b : Nat) (h : Vw) (x : Ex) (k' : Nat) (hr : RS h 6 (.slice A n C) (tkRows T)) (hp : (prsF (T.map (·.t)) (f + 1)).wh k = .ok x k') :
    C1 Tryz.prog 92 #[.pointer (some ⟨b, 0, none⟩)] h b (rdL (.slice (tkA A C k) (n - k) (C - k)) en) (PrsR A C n en x k') := by
  have hp : (if isK (T.map (·.t)) k [40] then ((prsF (T.map (·.t)) f).lv 1 (k + 1)).then fun x k' => if isK (T.map (·.t)) k' [41] then PR.ok x (k' + 1) else .bad k'
    else if isK (T.map (·.t)) k [116, 114, 117, 101] then .ok (.mk 1 2 1 ⟨#[]⟩ ⟨#[]⟩ []) (k + 1) else if isK (T.map (·.t)) k [102, 97, 108, 115, 101] then .ok (.mk 1 2 0 ⟨#[]⟩ ⟨#[]⟩ []) (k + 1)
    else if isK (T.map (·.t)) k [105, 102] then ((prsF (T.map (·.t)) f).ag 3 0 [] (k + 1)).then fun l k' => .ok (opE 17 l) k' else if isK (T.map (·.t)) k [108, 101, 110] then ((prsF (T.map (·.t)) f).ag 1 0 [] (k + 1)).then fun l k' => .ok (opE 18 l) k'
    else match (T.map (·.t))[k]? with
      | some x => if x.kd = 2 ∧ isKey x.s = false then .ok (refE ⟨x.s.toArray⟩) (k + 1) else if x.kd = 1 ∨ x.kd = 3 then .ok (conV x) (k + 1) else .bad k
      | none => .bad k) = .ok x k' := hp
  have hI := fun (s : ByteArray) v (e : isK (T.map (·.t)) k s.data.toList = v) H q => by
    have := is_any (A := A) (C := C) n hn en s k b H q
    rw [e] at this
    exact this
  have hW := fun s k H q e => want_any (A := A) (C := C) n hn en s k b H q e
  have hT := fun t H q ht => take_any (A := A) (C := C) n hn en t k b H q ht
  have hm := fun s q => isK_some (T := T) (k := k) (s := s) q
  have htl := fun q => tk_at hr k q
  have hkn : n - k = 0 ∨ k < T.length := by omega
  generalize hnk : n - k = nk at *
  generalize C - k = ck at *
  generalize tkA A C k = Ak at *
  refine g_con Tryz.func92 (c := Tryz.f92.body.getD .skip) (N := 117) ?_
  intro hbx hbad Q hQ
  refine go1 10 [.own] [] ?_
  intro b1
  by_cases q1 : isK (T.map (·.t)) k [40] = true
  · rw [if_pos q1] at hp
    obtain ⟨y, k2, e1, e2⟩ := then_ok hp
    obtain ⟨t, ht, -⟩ := hm _ q1
    by_cases q2 : isK (T.map (·.t)) k2 [41] = true
    · rw [if_pos q2] at e2
      injection e2 with hz1 hz2
      have hO := fun H p1 => IH.lv 1 (k + 1) b H y k2 p1 (by omega) (by omega) e1
      refine g_call1 1 (fun H sH => hI ⟨#[40]⟩ true q1 _ (hr.sees sH)) ?_; rintro _ _ W2 S3 ⟨rfl, rfl⟩
      refine go0 7 [] [] ?_
      refine g_call1 1 (fun H sH => hT t _ (hr.sees (S3.trans sH)) ht) ?_; rintro _ _ W4 S5 ⟨rfl, rfl⟩
      refine go0 5 [] [] ?_
      refine g_call1 1 (fun H sH => hO _ (hr.sees (S3.trans (S5.trans sH)))) ?_; rintro _ _ W6 S7 ⟨u, rfl, rfl, hu⟩
      refine go1 7 [.own, .b 0 0] [] ?_
      intro b8
      refine g_call1 2 (fun H sH => hW ⟨#[41]⟩ k2 _ (hr.sees (S3.trans (S5.trans (S7.trans sH)))) q2) ?_; rintro _ _ W9 S10 ⟨rfl, rfl⟩
      refine go0 11 [.b 0 0, .b 1 0] [] ?_
      refine hQ.toB [.agg #[Vi y.op, Vi y.k, Vi y.n, .string y.s, .string y.nm, .slice (sA u) (sN u) (sC u)]] [(.slice (tkA A C (k2 + 1)) (n - (k2 + 1)) (C - (k2 + 1)) :: Vi en :: shapesL)] (fun H sH => ?_) (ix := [1])
      exact ⟨_, rfl, u, by rw [hz1]; rfl, by rw [hz2], by rw [← hz1]; exact (hu.sees (S10.trans sH))⟩
    · rw [if_neg q2] at e2
      cases e2
  · skip
    rw [if_neg q1] at hp
    refine g_call1 1 (fun H sH => hI ⟨#[40]⟩ false (Bool.eq_false_iff.2 q1) _ (hr.sees sH)) ?_; rintro _ _ W11 S12 ⟨rfl, rfl⟩
    refine go0 8 [] [] ?_
    by_cases q2 : isK (T.map (·.t)) k [116, 114, 117, 101] = true
    · rw [if_pos q2] at hp
      injection hp with hz1 hz2
      obtain ⟨t, ht, hts⟩ := hm _ q2
      have hT2 := fun H q => hT t H q ht
      rw [hts] at hT2
      refine g_call1 1 (fun H sH => hI ⟨#[116, 114, 117, 101]⟩ true q2 _ (hr.sees (S12.trans sH))) ?_; rintro _ _ W13 S14 ⟨rfl, rfl⟩
      refine go0 10 [] [] ?_
      refine g_call1 1 (fun H sH => hT2 _ (hr.sees (S12.trans (S14.trans sH)))) ?_; rintro _ _ W15 S16 ⟨rfl, rfl⟩
      refine go1 20 [.cl 122 #[.string ⟨#[116, 114, 117, 101]⟩] (.tuple #[.agg #[Vi 2, Vi 1, Ve], Vi 0]), .own, .b 0 0, .b 0 0, .b 1 0] [] ?_ (ho := (And.intro (fun H sH => parse_true _) (trivial)))
      intro b17
      refine hQ.toB [.agg #[Vi 1, Vi 2, Vi 1, Ve, Ve, Vz]] [(.slice (tkA A C (k + 1)) (n - (k + 1)) (C - (k + 1)) :: Vi en :: shapesL)] (fun H sH => ?_) (ix := [1])
      exact ⟨_, rfl, Vz, by rw [← hz1]; rfl, by rw [hz2], by rw [← hz1]; exact args_nil _ _ rfl⟩
    · skip
      rw [if_neg q2] at hp
      refine g_call1 1 (fun H sH => hI ⟨#[116, 114, 117, 101]⟩ false (Bool.eq_false_iff.2 q2) _ (hr.sees (S12.trans sH))) ?_; rintro _ _ W18 S19 ⟨rfl, rfl⟩
      refine go0 6 [] [] ?_
      by_cases q3 : isK (T.map (·.t)) k [102, 97, 108, 115, 101] = true
      · rw [if_pos q3] at hp
        injection hp with hz1 hz2
        obtain ⟨t, ht, hts⟩ := hm _ q3
        have hT2 := fun H q => hT t H q ht
        rw [hts] at hT2
        refine g_call1 1 (fun H sH => hI ⟨#[102, 97, 108, 115, 101]⟩ true q3 _ (hr.sees (S12.trans (S19.trans sH)))) ?_; rintro _ _ W20 S21 ⟨rfl, rfl⟩
        refine go0 7 [] [] ?_
        refine g_call1 1 (fun H sH => hT2 _ (hr.sees (S12.trans (S19.trans (S21.trans sH))))) ?_; rintro _ _ W22 S23 ⟨rfl, rfl⟩
        refine go1 20 [.cl 122 #[.string ⟨#[102, 97, 108, 115, 101]⟩] (.tuple #[.agg #[Vi 2, Vi 0, Ve], Vi 0]), .own, .b 0 0, .b 0 0, .b 1 0] [] ?_ (ho := (And.intro (fun H sH => parse_false _) (trivial)))
        intro b24
        refine hQ.toB [.agg #[Vi 1, Vi 2, Vi 0, Ve, Ve, Vz]] [(.slice (tkA A C (k + 1)) (n - (k + 1)) (C - (k + 1)) :: Vi en :: shapesL)] (fun H sH => ?_) (ix := [1])
        exact ⟨_, rfl, Vz, by rw [← hz1]; rfl, by rw [hz2], by rw [← hz1]; exact args_nil _ _ rfl⟩
      · skip
        rw [if_neg q3] at hp
        refine g_call1 1 (fun H sH => hI ⟨#[102, 97, 108, 115, 101]⟩ false (Bool.eq_false_iff.2 q3) _ (hr.sees (S12.trans (S19.trans sH)))) ?_; rintro _ _ W25 S26 ⟨rfl, rfl⟩
        refine go0 8 [] [] ?_
        by_cases q4 : isK (T.map (·.t)) k [105, 102] = true
        · rw [if_pos q4] at hp
          obtain ⟨l, k2, e1, e2⟩ := then_ok hp
          injection e2 with hz1 hz2
          obtain ⟨t, ht, hts⟩ := hm _ q4
          have hT2 := fun H q => hT t H q ht
          rw [hts] at hT2
          have hO := fun H p1 => IH.ag 3 (k + 1) b H l k2 p1 (by omega) e1
          refine g_call1 1 (fun H sH => hI ⟨#[105, 102]⟩ true q4 _ (hr.sees (S12.trans (S19.trans (S26.trans sH))))) ?_; rintro _ _ W27 S28 ⟨rfl, rfl⟩
          refine go0 16 [] [] ?_
          refine g_call1 1 (fun H sH => hT2 _ (hr.sees (S12.trans (S19.trans (S26.trans (S28.trans sH)))))) ?_; rintro _ _ W29 S30 ⟨rfl, rfl⟩
          refine go0 18 [.b 1 55] [] ?_
          refine g_call1 1 (fun H sH => hO _ (hr.sees (S12.trans (S19.trans (S26.trans (S28.trans (S30.trans sH))))))) ?_; rintro _ _ W31 S32 ⟨u, vs, rfl, rfl, hu, hv⟩
          refine go0 7 [.b 0 0] [] ?_
          refine hQ.toB [.agg #[Vi 17, Vi 0, Vi 0, Ve, Ve, .slice (sA u) (sN u) (sC u)]] [(.slice (tkA A C k2) (n - k2) (C - k2) :: Vi en :: shapesL)] (fun H sH => ?_) (ix := [0])
          exact ⟨_, rfl, u, by rw [← hz1]; rfl, by rw [hz2], by rw [← hz1]; exact IsArgs.mk (x := opE 17 l) (hu.sees sH) (hv.sees sH)⟩
        · skip
          rw [if_neg q4] at hp
          refine g_call1 1 (fun H sH => hI ⟨#[105, 102]⟩ false (Bool.eq_false_iff.2 q4) _ (hr.sees (S12.trans (S19.trans (S26.trans sH))))) ?_; rintro _ _ W33 S34 ⟨rfl, rfl⟩
          refine go0 6 [] [] ?_
          by_cases q5 : isK (T.map (·.t)) k [108, 101, 110] = true
          · rw [if_pos q5] at hp
            obtain ⟨l, k2, e1, e2⟩ := then_ok hp
            injection e2 with hz1 hz2
            obtain ⟨t, ht, hts⟩ := hm _ q5
            have hT2 := fun H q => hT t H q ht
            rw [hts] at hT2
            have hO := fun H p1 => IH.ag 1 (k + 1) b H l k2 p1 (by omega) e1
            refine g_call1 1 (fun H sH => hI ⟨#[108, 101, 110]⟩ true q5 _ (hr.sees (S12.trans (S19.trans (S26.trans (S34.trans sH)))))) ?_; rintro _ _ W35 S36 ⟨rfl, rfl⟩
            refine go0 13 [] [] ?_
            refine g_call1 1 (fun H sH => hT2 _ (hr.sees (S12.trans (S19.trans (S26.trans (S34.trans (S36.trans sH))))))) ?_; rintro _ _ W37 S38 ⟨rfl, rfl⟩
            refine go0 20 [.b 1 58] [] ?_
            refine g_call1 1 (fun H sH => hO _ (hr.sees (S12.trans (S19.trans (S26.trans (S34.trans (S36.trans (S38.trans sH)))))))) ?_; rintro _ _ W39 S40 ⟨u, vs, rfl, rfl, hu, hv⟩
            refine go0 7 [.b 0 0] [] ?_
            refine hQ.toB [.agg #[Vi 18, Vi 0, Vi 0, Ve, Ve, .slice (sA u) (sN u) (sC u)]] [(.slice (tkA A C k2) (n - k2) (C - k2) :: Vi en :: shapesL)] (fun H sH => ?_) (ix := [0])
            exact ⟨_, rfl, u, by rw [← hz1]; rfl, by rw [hz2], by rw [← hz1]; exact IsArgs.mk (x := opE 18 l) (hu.sees sH) (hv.sees sH)⟩
          · skip
            rw [if_neg q5] at hp
            refine g_call1 1 (fun H sH => hI ⟨#[108, 101, 110]⟩ false (Bool.eq_false_iff.2 q5) _ (hr.sees (S12.trans (S19.trans (S26.trans (S34.trans sH)))))) ?_; rintro _ _ W41 S42 ⟨rfl, rfl⟩
            refine go0 13 [.b 1 0] [] ?_
            rw [List.getElem?_map] at hp
            obtain ⟨t, ht⟩ : ∃ t, T[k]? = some t := by
              cases hx : T[k]? with
              | none => rw [hx] at hp; cases hp
              | some t => exact ⟨t, rfl⟩
            have hkl := (List.getElem?_eq_some_iff.1 ht).1
            rw [ht] at hp
            have hp : (if t.t.kd = 2 ∧ isKey t.t.s = false then PR.ok (refE ⟨t.t.s.toArray⟩) (k + 1) else if t.t.kd = 1 ∨ t.t.kd = 3 then .ok (conV t.t) (k + 1) else .bad k) = .ok x k' := hp
            have hfr := htl (by omega)
            have hrow : ((tkRows T).drop k)[0]? = some (tcells t) := by rw [List.getElem?_drop]; simp [ht]
            have hKy := fun H => c_key t.t.s H
            refine g_rew 58 (v := .bool (decide ((nk : Int) > 0))) (v' := .bool true) (congrArg Value.bool (decide_eq_true (by omega))) ?_
            by_cases c2 : t.t.kd = 2
            · skip
              by_cases c3 : isKey t.t.s = false
              · rw [if_pos ⟨c2, c3⟩] at hp
                injection hp with hz1 hz2
                refine go0 4 [.b 1 0] [] ?_
                obtain ⟨b43, o44, rfl, -, c45⟩ := RS.row hfr (hrow)
                refine g_fact (c45.sees (S12.trans (S19.trans (S26.trans (S34.trans S42))))) ?_
                refine go0 10 [.ix b43 o44 nk ck 0, .f 0 0, .b 1 0] [(66, .bool (t.t.kd == 2), .bool true)] ?_ (ho := (And.intro (by first | omega | (simp; omega)) (trivial))) (hc := (And.intro (congrArg Value.bool (beq_iff_eq.2 c2)) (trivial)))
                have c46 := RS.cell hfr (hrow)
                refine g_fact (c46.sees (S12.trans (S19.trans (S26.trans (S34.trans S42))))) ?_
                refine go0 9 [.ix b43 o44 nk ck 0, .f 0 2, .cl 95 #[.string ⟨t.t.s.toArray⟩] (.bool (isKey t.t.s))] [] ?_ (ho := (And.intro (by first | omega | (simp; omega)) (And.intro (fun H sH => hKy _) (trivial))))
                refine g_true (t := !(isKey t.t.s)) (by rw [c3]; rfl) ?_
                refine go0 3 [] [] ?_
                refine g_call1 1 (fun H sH => hT t _ (hr.sees (S12.trans (S19.trans (S26.trans (S34.trans (S42.trans sH)))))) ht) ?_; rintro _ _ W47 S48 ⟨rfl, rfl⟩
                refine go0 8 [.b 0 0] [] ?_
                refine hQ.toB [.agg #[Vi 2, Vi 0, Vi 0, Ve, .string ⟨t.t.s.toArray⟩, Vz]] [(.slice (tkA A C (k + 1)) (n - (k + 1)) (C - (k + 1)) :: Vi en :: shapesL)] (fun H sH => ?_) (ix := [0])
                exact ⟨_, rfl, Vz, by rw [← hz1]; rfl, by rw [hz2], by rw [← hz1]; exact args_nil _ _ rfl⟩
              · rw [if_neg (fun q => c3 q.2), if_neg (by omega)] at hp
                cases hp
            · skip
              rw [if_neg (fun q => c2 q.1)] at hp
              by_cases c13 : t.t.kd = 1 ∨ t.t.kd = 3
              · rw [if_pos c13] at hp
                injection hp with hz1 hz2
                refine go0 4 [.b 1 0] [] ?_
                obtain ⟨b49, o50, rfl, -, c51⟩ := RS.row hfr (hrow)
                refine g_fact (c51.sees (S12.trans (S19.trans (S26.trans (S34.trans S42))))) ?_
                refine go0 29 [.ix b49 o50 nk ck 0, .f 0 0, .b 1 0] [(66, .bool (t.t.kd == 2), .bool false)] ?_ (ho := (And.intro (by first | omega | (simp; omega)) (trivial))) (hc := (And.intro (congrArg Value.bool (beq_eq_false_iff_ne.2 c2)) (trivial)))
                refine g_rew 90 (v := .bool (decide ((nk : Int) > 0))) (v' := .bool true) (congrArg Value.bool (decide_eq_true (by omega))) ?_
                by_cases c1 : t.t.kd = 1
                · skip
                  refine go0 4 [.b 1 0] [] ?_
                  have c52 := RS.cell hfr (hrow)
                  refine g_fact (c52.sees (S12.trans (S19.trans (S26.trans (S34.trans S42))))) ?_
                  refine go0 22 [.ix b49 o50 nk ck 0, .f 0 0] [(98, .bool (t.t.kd == 1), .bool true)] ?_ (ho := (And.intro (by first | omega | (simp; omega)) (trivial))) (hc := (And.intro (congrArg Value.bool (beq_iff_eq.2 c1)) (trivial)))
                  refine g_call1 1 (fun H sH => hT t _ (hr.sees (S12.trans (S19.trans (S26.trans (S34.trans (S42.trans sH)))))) ht) ?_; rintro _ _ W53 S54 ⟨rfl, rfl⟩
                  refine go0 8 [.b 0 0] [] ?_
                  refine hQ.toB [.agg #[Vi 1, Vi t.t.vk, Vi t.t.vn, .string ⟨t.t.vs.toArray⟩, Ve, Vz]] [(.slice (tkA A C (k + 1)) (n - (k + 1)) (C - (k + 1)) :: Vi en :: shapesL)] (fun H sH => ?_) (ix := [0])
                  exact ⟨_, rfl, Vz, by rw [← hz1]; rfl, by rw [hz2], by rw [← hz1]; exact args_nil _ _ rfl⟩
                · skip
                  refine go0 4 [.b 1 0] [] ?_
                  have c55 := RS.cell hfr (hrow)
                  refine g_fact (c55.sees (S12.trans (S19.trans (S26.trans (S34.trans S42))))) ?_
                  refine go0 9 [.ix b49 o50 nk ck 0, .f 0 0, .b 1 0] [(98, .bool (t.t.kd == 1), .bool false)] ?_ (ho := (And.intro (by first | omega | (simp; omega)) (trivial))) (hc := (And.intro (congrArg Value.bool (beq_eq_false_iff_ne.2 c1)) (trivial)))
                  have c56 := RS.cell hfr (hrow)
                  refine g_fact (c56.sees (S12.trans (S19.trans (S26.trans (S34.trans S42))))) ?_
                  refine go0 13 [.ix b49 o50 nk ck 0, .f 0 0] [(107, .bool (t.t.kd == 3), .bool true)] ?_ (ho := (And.intro (by first | omega | (simp; omega)) (trivial))) (hc := (And.intro (congrArg Value.bool (beq_iff_eq.2 (by omega))) (trivial)))
                  refine g_call1 1 (fun H sH => hT t _ (hr.sees (S12.trans (S19.trans (S26.trans (S34.trans (S42.trans sH)))))) ht) ?_; rintro _ _ W57 S58 ⟨rfl, rfl⟩
                  refine go0 8 [.b 0 0] [] ?_
                  refine hQ.toB [.agg #[Vi 1, Vi t.t.vk, Vi t.t.vn, .string ⟨t.t.vs.toArray⟩, Ve, Vz]] [(.slice (tkA A C (k + 1)) (n - (k + 1)) (C - (k + 1)) :: Vi en :: shapesL)] (fun H sH => ?_) (ix := [0])
                  exact ⟨_, rfl, Vz, by rw [← hz1]; rfl, by rw [hz2], by rw [← hz1]; exact args_nil _ _ rfl⟩
              · rw [if_neg c13] at hp
                cases hp

/-- All of the reader. -/
theorem prs_all (n : Nat) (hn : n = T.length) (en : Int) : ∀ f, ∀ g, g ≤ f → PC A C n en T g
  | 0, g, hg => by
    obtain rfl : g = 0 := by omega
    exact ⟨fun _ _ _ _ _ _ _ _ _ h => (by cases h), fun _ _ _ _ _ _ h => (by cases h), fun _ _ _ _ _ _ h => (by cases h), fun _ _ _ _ _ _ _ _ h => (by cases h)⟩
  | f + 1, g, hg => by
    have IH := prs_all n hn en f
    rcases (by omega : g ≤ f ∨ g = f + 1) with q | rfl
    · exact IH g q
    · exact ⟨fun l k b h x k' hr l1 l6 hp => level_step n hn en f IH l k b h x k' hr l1 l6 hp, fun k b h x k' hr hp => one_step n hn en f (IH f (Nat.le_refl _)) k b h x k' hr hp,
        fun k b h x k' hr hp => whole_step n hn en f (IH f (Nat.le_refl _)) k b h x k' hr hp, fun m k b h l k' hr hm hp => args_step n hn en (f + 1) (fun g hg => IH g (by omega)) m k b h l k' hr hm hp⟩

end
end Go.Proofs.YthplkompdehjlaaGreatDoor
