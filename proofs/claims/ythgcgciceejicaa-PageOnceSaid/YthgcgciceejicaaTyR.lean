/-
  Contracts of typing.types, typing.rules, slices.Equal at ints, typing.of, Of, Fits.
-/
import Derived.Test.YthgcgciceejicaaGo
import Derived.Test.YthgcgciceejicaaTyW
import Derived.Test.YthgcgciceejicaaMl
import Derived.Test.YthgcgciceejicaaGenD
namespace Go.Proofs.Ythgcgciceejicaa
open Go.RowKit Go.Shelf

/-- A map of the types of fields. -/
def TypesAt (h : Vw) (b : Nat) (f : ByteArray → Option Int) : Prop := ∃ l, MapAt h b (strEs l) ∧ ∀ s, sget s l = (f s).map (.int .i64)
theorem TypesAt.sees {h h' : Vw} {b : Nat} {f : ByteArray → Option Int} (k : TypesAt h b f) (s : Sees h h') : TypesAt h' b f := by
  obtain ⟨l, h1, h2⟩ := k
  exact ⟨l, h1.sees s, h2⟩
theorem types_any (fs : List Fd) (v : Value) (h : Vw) (hf : IsFds h v fs) : C0 Try.prog 39 #[v] h (fun r h' => ∃ b, r = .map (some b) ∧ TypesAt h' b (tyF fs)) := by
  intro _ _ _ hbad
  obtain ⟨vs, hr, hs⟩ := hf
  have hvl := hs.len
  obtain ⟨A, cap, rfl, -, -, -⟩ := hr.form
  rw [fdRows_len hvl] at hr ⊢
  have hsl : ∀ v ∈ vs, .slice (sA v) (sN v) (sC v) = v := fun v hv => by
    obtain ⟨i, hi⟩ := List.getElem?_of_mem hv
    have hlt := (List.getElem?_eq_some_iff.1 hi).1
    obtain ⟨x, hx⟩ : ∃ x, (fs.map (·.src))[i]? = some x := ⟨_, List.getElem?_eq_getElem (by rw [List.length_map]; omega)⟩
    obtain ⟨A, n, c, rfl⟩ := (AllArgs.get hs hx hi).slice
    rfl
  refine (callsIn_wide.1 (types_in fs vs A cap h hr hvl hsl 9 (by omega))).mono ?_
  rintro e w' ⟨rfl, ⟨l, h1, h2⟩, hb⟩
  exact ⟨_, [], rfl, Low.of_below hb, (fun x hx => by cases hx), rfl, _, rfl, l, ⟨fun hm => Nat.lt_irrefl _ (hbad _ hm), h1⟩, h2⟩

/-- The map of the rules of ops. -/
def RulesAt (h : Vw) (b : Nat) : Prop := ∃ es, MapAt h b (intEs es) ∧ ∀ op, match ruleT op with
  | some (a, t) => ∃ A n c, iget op es = some (.agg #[.slice A n c, .int .i64 t]) ∧ RS h 1 (.slice A n c) (intRows a)
  | none => iget op es = none
theorem RulesAt.sees {h h' : Vw} {b : Nat} (k : RulesAt h b) (s : Sees h h') : RulesAt h' b := by
  obtain ⟨es, h1, h2⟩ := k
  refine ⟨es, h1.sees s, fun op => ?_⟩
  have := h2 op
  split at this
  · obtain ⟨A, n, c, h3, h4⟩ := this
    exact ⟨A, n, c, h3, h4.sees s⟩
  · exact this

/-- The pairs of the rules. -/
def rulesL (A B C : Value × Value) : List (Int × Value) :=
  [(3, .agg #[A.2, .int .i64 1]), (4, .agg #[B.2, .int .i64 2]), (18, .agg #[C.2, .int .i64 1]), (5, .agg #[A.1, .int .i64 1]), (6, .agg #[A.1, .int .i64 1]), (7, .agg #[A.1, .int .i64 1]), (8, .agg #[A.1, .int .i64 1]), (9, .agg #[A.1, .int .i64 1]),
    (10, .agg #[C.1, .int .i64 3]), (15, .agg #[B.1, .int .i64 2]), (16, .agg #[B.1, .int .i64 2])]
theorem rules_get {es : List (Int × Value)} {A B C : Value × Value} (hn : (es.map (·.1)).Nodup) (he : ∀ k v, (k, v) ∈ es ↔ (k, v) ∈ rulesL A B C) (op : Int) : iget op es = iget op (rulesL A B C) := by
  have hnl : ((rulesL A B C).map (·.1)).Nodup := by simp [rulesL]
  cases h : iget op (rulesL A B C) with
  | some v =>
    have hm : ∀ {l : List (Int × Value)}, iget op l = some v → (op, v) ∈ l := by
      intro l
      induction l with
      | nil => intro h; cases h
      | cons p l ih =>
        obtain ⟨k, u⟩ := p
        intro h
        unfold iget at h
        split at h
        · rename_i e; simp only [Option.some.injEq] at h; subst e h; simp
        · exact List.mem_cons_of_mem _ (ih h)
    exact iget_mem hn ((he op v).2 (hm h))
  | none =>
    refine iget_none fun hm => ?_
    obtain ⟨⟨k, v⟩, hm2, rfl⟩ := List.mem_map.1 hm
    rw [iget_mem hnl ((he k v).1 hm2)] at h
    cases h

set_option maxRecDepth 100000 in
theorem rules_any (h : Vw) : C0 Try.prog 40 #[] h (fun r h' => ∃ b, r = .map (some b) ∧ RulesAt h' b) := by
  refine g_con Try.func40 fun hbx hbad Q hQ => ?_
  refine gov3 16 [.fix, .fix, .fix] [] ?_
  intro b1 b2 b3 W4 S5
  refine g_is [(1, Vs b1 2 2), (2, Vs b2 2 2), (3, Vs b3 2 2)] [] [(b3, 0, [Vi 3, Vi 3]), (b2, 0, [Vi 2, Vi 2]), (b1, 0, [Vi 1, Vi 1])] ?_
  refine g_maplit 79 [.mk 7, .pu 8 (Vs b1 2 2), .pu 9 (Vs b1 1 2), .pu 10 (.agg #[Vs b1 1 2, Vi 1]), .ins 3 (.agg #[Vs b1 1 2, Vi 1]), .pu 11 (Vs b2 2 2), .pu 12 (Vs b2 1 2), .pu 13 (.agg #[Vs b2 1 2, Vi 2]), .ins 4 (.agg #[Vs b2 1 2, Vi 2]), .pu 14 (Vs b3 2 2), .pu 15 (Vs b3 1 2), .pu 16 (.agg #[Vs b3 1 2, Vi 1]), .ins 18 (.agg #[Vs b3 1 2, Vi 1]), .pu 17 (Vs b1 2 2), .pu 18 (.agg #[Vs b1 2 2, Vi 1]), .ins 5 (.agg #[Vs b1 2 2, Vi 1]), .pu 19 (Vs b1 2 2), .pu 20 (.agg #[Vs b1 2 2, Vi 1]), .ins 6 (.agg #[Vs b1 2 2, Vi 1]), .pu 21 (Vs b1 2 2), .pu 22 (.agg #[Vs b1 2 2, Vi 1]), .ins 7 (.agg #[Vs b1 2 2, Vi 1]), .pu 23 (Vs b1 2 2), .pu 24 (.agg #[Vs b1 2 2, Vi 1]), .ins 8 (.agg #[Vs b1 2 2, Vi 1]), .pu 25 (Vs b1 2 2), .pu 26 (.agg #[Vs b1 2 2, Vi 1]), .ins 9 (.agg #[Vs b1 2 2, Vi 1]), .pu 27 (Vs b3 2 2), .pu 28 (.agg #[Vs b3 2 2, Vi 3]), .ins 10 (.agg #[Vs b3 2 2, Vi 3]), .pu 29 (Vs b2 2 2), .pu 30 (.agg #[Vs b2 2 2, Vi 2]), .ins 15 (.agg #[Vs b2 2 2, Vi 2]), .pu 31 (Vs b2 2 2), .pu 32 (.agg #[Vs b2 2 2, Vi 2]), .ins 16 (.agg #[Vs b2 2 2, Vi 2]), .mv 33, .mv 0] ?_ Try.underlying79 Try.underlying3; intro b6 es7 hes8 hnd9
  refine go0 2 [] [] ?_
  refine hQ.toJ [.map (some b6)] [] (fun a w hJ => ?_)
  skip
  have c1 : Cells ⟨w, h.bad⟩ b1 0 [.int .i64 1, .int .i64 1] := (hJ.f (_, _, _) (List.mem_of_getElem? (i := 2) (by kernel_rfl))).sees hJ.j.out
  have c2 : Cells ⟨w, h.bad⟩ b2 0 [.int .i64 2, .int .i64 2] := (hJ.f (_, _, _) (List.mem_of_getElem? (i := 1) (by kernel_rfl))).sees hJ.j.out
  have c3 : Cells ⟨w, h.bad⟩ b3 0 [.int .i64 3, .int .i64 3] := (hJ.f (_, _, _) (List.mem_of_getElem? (i := 0) (by kernel_rfl))).sees hJ.j.out
  have n2 := rs_ints [1, 1] (by decide) c1
  have t2 := rs_ints [2, 2] (by decide) c2
  have s2 := rs_ints [3, 3] (by decide) c3
  have n1 := n2.take 1 (by decide)
  have t1 := t2.take 1 (by decide)
  have s1 := s2.take 1 (by decide)
  refine ⟨b6, rfl, es7, hJ.mapOut 0 (by kernel_rfl) rfl, fun op => ?_⟩
  rw [rules_get (A := (.slice (some ⟨b1, 0, none⟩) 2 2, .slice (some ⟨b1, 0, none⟩) 1 2)) (B := (.slice (some ⟨b2, 0, none⟩) 2 2, .slice (some ⟨b2, 0, none⟩) 1 2)) (C := (.slice (some ⟨b3, 0, none⟩) 2 2, .slice (some ⟨b3, 0, none⟩) 1 2)) hnd9 (fun k v => by
    rw [hes8]
    simp [rulesL])]
  clear hJ hes8 hnd9
  unfold ruleT
  by_cases e3 : op = 3
  · subst e3; exact ⟨_, _, _, rfl, n1⟩
  by_cases e4 : op = 4
  · subst e4; exact ⟨_, _, _, rfl, t1⟩
  by_cases e18 : op = 18
  · subst e18; exact ⟨_, _, _, rfl, s1⟩
  by_cases e5 : 5 ≤ op ∧ op ≤ 9
  · rcases (by omega : op = 5 ∨ op = 6 ∨ op = 7 ∨ op = 8 ∨ op = 9) with rfl | rfl | rfl | rfl | rfl <;> exact ⟨_, _, _, rfl, n2⟩
  by_cases e10 : op = 10
  · subst e10; exact ⟨_, _, _, rfl, s2⟩
  by_cases e15 : op = 15
  · subst e15; exact ⟨_, _, _, rfl, t2⟩
  by_cases e16 : op = 16
  · subst e16; exact ⟨_, _, _, rfl, t2⟩
  rw [if_neg e3, if_neg e4, if_neg e18, if_neg e5, if_neg e10, if_neg (by omega)]
  simp only
  unfold rulesL iget
  simp only [iget]
  rw [if_neg e3, if_neg e4, if_neg e18, if_neg (by omega), if_neg (by omega), if_neg (by omega), if_neg (by omega), if_neg (by omega), if_neg e10, if_neg e15, if_neg e16]

set_option maxRecDepth 100000 in
theorem equal_any (l m : List Int) (sl sl' : Value) (h : Vw) (hr : RS h 1 sl (intRows l)) (hr' : RS h 1 sl' (intRows m)) : C0 Try.prog 44 #[sl, sl'] h (fun r _ => r = .bool (decide (l = m))) := by
  obtain ⟨A, ca, rfl, l1, l2, -⟩ := hr.form
  obtain ⟨A', ca', rfl, -, -, -⟩ := hr'.form
  rw [List.length_map] at hr hr' l1 ⊢
  unfold maxLen at l2
  rw [List.length_map]
  by_cases hlm : l.length = m.length
  rotate_left
  · rw [decide_eq_false (fun e => hlm (by rw [e]))]
    generalize hL : l.length = len at *
    generalize hL' : m.length = len' at *
    refine g_con Try.func44 fun hbx hbad Q hQ => ?_
    refine go0 15 [] [] ?_
    refine g_true (t := (len : Int) != (len' : Int)) (bne_iff_ne.2 (by omega)) ?_
    refine go0 7 [] [] ?_
    refine hQ.to [.bool false] (fun H sH => ?_)
    exact rfl
  · rw [← hlm] at hr' ⊢
    have hml : m.length = l.length := hlm.symm
    clear hlm
    generalize hL : l.length = len at *
    refine g_con Try.func44 fun hbx hbad Q hQ => ?_
    refine go0 27 [] [(10, .bool ((len : Int) != (len : Int)), .bool false)] ?_ (hc := (And.intro (congrArg Value.bool (bne_self_eq_false _)) (trivial)))
    refine g_loop [0, 1, 0, 1, 1] [.block 0, .seq [1, 1, 1]] (fun (k : Nat) X => ∃ (W1 : Vw) , X W1 [(0, .slice A len ca), (1, .slice A' len ca'), (12, Vi (len : Int)), (13, Vi (k : Int))] [] [] ∧ Sees h W1 ∧ (k ≤ len) ∧ (l.take k = m.take k)) (fun k => len - k) (0) (fun X q => ⟨h, q _ _ _ _ ⟨rfl, by kernel_rfl⟩, Sees.refl _, Nat.zero_le _, rfl⟩) ?_
    rintro k a w ⟨W1, hJ, S2, hk, hpre⟩; refine g_of hJ ?_; clear hJ a w
    refine go0 6 [] [] ?_
    rcases (by omega : k < len ∨ len = k) with hlt | hke
    · obtain ⟨x, hx⟩ : ∃ x, l[k]? = some x := ⟨_, List.getElem?_eq_getElem (by omega)⟩
      obtain ⟨y, hy⟩ : ∃ y, m[k]? = some y := ⟨_, List.getElem?_eq_getElem (by omega)⟩
      have hrow : (intRows l)[k]? = some [.int .i64 x] := by rw [List.getElem?_map, hx]; rfl
      have hrow' : (intRows m)[k]? = some [.int .i64 y] := by rw [List.getElem?_map, hy]; rfl
      refine g_true (t := decide ((k : Int) < (len : Int))) (decide_eq_true (by omega)) ?_
      refine go0 11 [] [] ?_
      obtain ⟨b3, o4, rfl, -, c5⟩ := RS.row hr (hrow)
      refine g_fact (c5.sees S2) ?_
      obtain ⟨b6, o7, rfl, -, c8⟩ := RS.row hr' (hrow')
      refine g_fact (c8.sees S2) ?_
      refine g_reg 9 0 [.pu, .pu, .v (fun gh => .pointer (some ⟨b3, o4 + k * 1, none⟩)), .lf 1 0, .pu, .pu, .v (fun gh => .pointer (some ⟨b6, o7 + k * 1, none⟩)), .lf 0 0, .pu] [] (trivial) ?_ ?_
      · intro R hT hA hmono
        refine And.intro (t_ix hT hA b3 o4 len ca k (fun gh => .pointer (some ⟨b3, o4 + k * 1, none⟩)) (by first | omega | (simp; omega))) ?_
        refine And.intro (t_ix hT hA b6 o7 len ca' k (fun gh => .pointer (some ⟨b6, o7 + k * 1, none⟩)) (by first | omega | (simp; omega))) ?_
        trivial
      rintro W9 S10 -
      refine go0 1 [] [] ?_
      by_cases e : x = y
      · refine g_false (t := x != y) (bne_eq_false_iff_eq.2 e) ?_
        refine go0 7 [] [(25, Vi (IntKind.i64.wrap ((k : Int) + 1)), Vi ((k : Int) + 1))] ?_ (hc := (And.intro (i64_wrap (by omega) (by omega)) (trivial)))
        exact g_round (k + 1) (fun X q => ⟨W9, q _ _ _ _ ⟨rfl, by kernel_rfl⟩, (S2.trans S10), by omega, by rw [take_snoc' _ k _ hx, take_snoc' _ k _ hy, hpre, e]⟩) (by omega)
      · skip
        refine g_true (t := x != y) (bne_iff_ne.2 e) ?_
        refine go0 8 [] [] ?_
        refine g_leave ?_
        refine go0 2 [] [] ?_
        have hne : ¬ l = m := fun q => e (by rw [q, hy] at hx; exact (Option.some.inj hx).symm)
        refine hQ.to [.bool false] (fun H sH => ?_)
        exact congrArg Value.bool (decide_eq_false hne).symm
    · skip
      refine g_false (t := decide ((k : Int) < (len : Int))) (decide_eq_false (by omega)) ?_
      refine go0 2 [] [] ?_
      refine g_leave ?_
      refine go0 8 [] [] ?_
      have heq : l = m := by
        have h1 : l.take k = l := List.take_of_length_le (by omega)
        have h2 : m.take k = m := List.take_of_length_le (by omega)
        rw [← h1, ← h2, hpre]
      refine hQ.to [.bool true] (fun H sH => ?_)
      exact congrArg Value.bool (decide_eq_true heq).symm

def tysE (f : ByteArray → Option Int) (l : List Ex) : List Int := l.map fun y => (tyE f y).1
theorem tyL_all {f : ByteArray → Option Int} : ∀ {l : List Ex}, (∀ y ∈ l, (tyE f y).2 = 0) → tyL f l = (tysE f l, 0)
  | [], _ => by rw [tyL]; rfl
  | x :: l, h => by
    have h1 := h x (by simp)
    have h2 := tyL_all (f := f) (l := l) (fun y hy => h y (by simp [hy]))
    rw [tyL, h2, if_pos h1]; simp [tysE]
theorem tyL_err {f : ByteArray → Option Int} : ∀ {l : List Ex} {k : Nat} {y : Ex}, l[k]? = some y → (∀ z ∈ l.take k, (tyE f z).2 = 0) → (tyE f y).2 ≠ 0 → (tyL f l).2 = (tyE f y).2
  | [], k, y, h, _, _ => by simp at h
  | x :: l, 0, y, h, _, he => by
    simp only [List.getElem?_cons_zero, Option.some.injEq] at h
    subst h
    rw [tyL, if_neg he]
  | x :: l, k + 1, y, h, hp, he => by
    simp only [List.getElem?_cons_succ] at h
    have h1 := hp x (by simp)
    have h2 := tyL_err (f := f) h (fun z hz => hp z (by simp [hz])) he
    rw [tyL, if_pos h1, if_neg (by rw [h2]; exact he)]
    exact h2

theorem ret2 {p : Int × Int} {a b : Int} (h : p = (a, b)) : Value.tuple #[.int .i64 a, .int .i64 b] = .tuple #[.int .i64 p.1, .int .i64 p.2] := by rw [h]
theorem rule_none {op : Int} (h1 : 3 ≤ op) (h2 : op ≤ 18) (h : ruleT op = none) : op = 17 ∨ (op ≠ 17 ∧ 11 ≤ op ∧ op ≤ 14) := by
  unfold ruleT at h
  repeat' split at h
  all_goals first | (cases h; done) | omega
theorem arity_le (op : Int) : arity op ≤ 3 := by
  unfold arity
  repeat' split
  all_goals omega

set_option maxRecDepth 100000 in
theorem tyof_any (f : ByteArray → Option Int) (fb rb : Nat) : ∀ (m : Nat) (x : Ex) (sl : Value) (h : Vw), (szE x).1 ≤ m → IsArgs h x sl → WfE x → TypesAt h fb f → RulesAt h rb →
    C0 Try.prog 38 #[.agg #[.int .i64 x.op, .int .i64 x.k, .int .i64 x.n, .string x.s, .string x.nm, sl], .map (some fb), .map (some rb)] h (fun r _ => r = .tuple #[.int .i64 (tyE f x).1, .int .i64 (tyE f x).2])
  | 0, x, sl, h, hm, _, _, _, _ => by have := szE_pos x; omega
  | m + 1, x, sl, h, hm, hx, hw, hF, hR => by
    have IH := tyof_any f fb rb m
    have hse := szE_eq x
    rw [hse] at hm
    simp only at hm
    have hwl := hw.list
    have hev := tyE_eq f x
    rcases hw.top with ⟨h1, -⟩ | ⟨h1, -⟩ | ⟨h1, ho2, -, -, -, -, h7⟩
    · obtain ⟨A, len, c, rfl⟩ := hx.slice
      rw [if_pos h1] at hev
      rw [hev, h1]
      refine g_con Try.func38 fun hbx hbad Q hQ => ?_
      refine go1 34 [.own, .b 0 0, .b 0 1] [] ?_
      intro b1
      refine hQ.to [Vi x.k, Vi 0] (fun H sH => ?_)
      exact rfl
    · obtain ⟨A, len, c, rfl⟩ := hx.slice
      rw [if_neg (by omega), if_pos h1] at hev
      obtain ⟨ls, hmp, hgt⟩ := hF
      have hgt := hgt x.nm
      rw [h1]
      cases hg : f x.nm with
      | none =>
        rw [hg] at hev hgt
        rw [hev]
        have hl := mfind_none hgt
        refine g_con Try.func38 fun hbx hbad Q hQ => ?_
        refine go1 34 [.own, .b 0 0, .b 0 4] [] ?_
        intro b1
        refine g_mapgetJ fb (es := strEs ls) (td := .string) (key := .string x.nm) (r := none) (Vi 0) (.tuple #[Vi 0, .bool false]) (fun a w hJ => MapAt.now (hmp.sees (Sees.refl _)) hJ) (hl) ?_
        refine go0 25 [] [] ?_
        refine hQ.to [Vi 0, Vi 5] (fun H sH => ?_)
        exact rfl
      | some t =>
        rw [hg] at hev hgt
        rw [hev]
        obtain ⟨i, hl⟩ := mfind_some hgt
        refine g_con Try.func38 fun hbx hbad Q hQ => ?_
        refine go1 34 [.own, .b 0 0, .b 0 4] [] ?_
        intro b1
        refine g_mapgetJ fb (es := strEs ls) (td := .string) (key := .string x.nm) (r := some (i, Vi t)) (Vi 0) (.tuple #[Vi t, .bool true]) (fun a w hJ => MapAt.now (hmp.sees (Sees.refl _)) hJ) (hl) ?_
        refine go0 27 [] [] ?_
        refine hQ.to [Vi t, Vi 0] (fun H sH => ?_)
        exact rfl
    · obtain ⟨vs, hr, hvs⟩ := hx.form
      obtain ⟨A, ca, rfl, -, -, -⟩ := hr.form
      have hvl := hvs.len
      have hrl := exRows_len hvl
      rw [hrl] at hr ⊢
      rw [if_neg (by omega), if_neg (by omega)] at hev
      rw [hev]
      have hl3 : x.args.length ≤ 3 := by rw [h7]; exact arity_le _
      generalize hL : x.args.length = len at *
      obtain ⟨es, hmp, hgt⟩ := hR
      have hRR : RulesAt h rb := ⟨es, hmp, hgt⟩
      have hgt := hgt x.op
      have htl : (tysE f x.args).length = len := by rw [tysE, List.length_map, hL]
      refine g_con Try.func38 fun hbx hbad Q hQ => ?_
      refine g_nilrow 3 1 ?_
      refine go1 21 [.own, .b 0 0] [] ?_
      intro b1
      refine g_false (t := x.op == 1) (beq_eq_false_iff_ne.2 (by omega)) ?_
      refine go0 6 [] [] ?_
      refine g_false (t := x.op == 2) (beq_eq_false_iff_ne.2 (by omega)) ?_
      refine go0 18 [.b 0 5] [] ?_
      refine g_loop [0, 1, 0, 1, 1, 1] [.block 1, .seq [1, 1, 1, 1]] (fun (k : Nat) X => ∃ (W2 : Vw) (v : Value), X W2 [(1, .map (some fb)), (2, .map (some rb)), (3, Vp b1), (37, .slice A len ca), (38, Vi (len : Int)), (39, Vi (k : Int)), (10, v)] [.box b1 [Vi x.op, Vi x.k, Vi x.n, .string x.s, .string x.nm, .slice A len ca], .row v 3 1 (intRows ((tysE f x.args).take k))] [] ∧ Sees h W2 ∧ (k ≤ len) ∧ (∀ y ∈ x.args.take k, (tyE f y).2 = 0)) (fun k => len - k) (0) (fun X q => ⟨h, (Vz), q _ _ _ _ ⟨rfl, by kernel_rfl⟩, Sees.refl _, Nat.zero_le _, (fun y hy => by simp at hy)⟩) ?_
      rintro k a w ⟨W2, v, hJ, S3, hk, hpre⟩; refine g_of hJ ?_; clear hJ a w
      refine go0 6 [] [] ?_
      rcases (by omega : k < len ∨ len = k) with hlt | hke
      · obtain ⟨y, hy⟩ : ∃ y, x.args[k]? = some y := ⟨_, List.getElem?_eq_getElem (by omega)⟩
        obtain ⟨u, hu⟩ : ∃ u, vs[k]? = some u := ⟨_, List.getElem?_eq_getElem (by omega)⟩
        have hyu := AllArgs.get hvs hy hu
        obtain ⟨Au, nu, cu, rfl⟩ := hyu.slice
        have hrow : (exRows x.args vs)[k]? = some (exRow y (.slice Au nu cu)) := by show (List.zipWith exRow _ _)[k]? = _; rw [List.getElem?_zipWith, hy, hu]
        have hym := List.mem_of_getElem? hy
        have hcall := fun H q1 q2 q3 => IH y (.slice Au nu cu) H (by have := (szL_mem hym).1; omega) q1 (hwl.get hym) q2 q3
        have hek : (tysE f x.args)[k]? = some (tyE f y).1 := by rw [tysE, List.getElem?_map, hy]; rfl
        have htk := take_snoc' _ k _ hek
        have hxk := take_snoc' _ k _ hy
        have htn : ((tysE f x.args).take k).length = k := by rw [List.length_take, htl]; omega
        refine g_true (t := decide ((k : Int) < (len : Int))) (decide_eq_true (by omega)) ?_
        refine go0 6 [] [] ?_
        obtain ⟨b4, o5, rfl, -, c6⟩ := RS.row hr (hrow)
        refine g_fact (c6.sees S3) ?_
        refine go1 26 [.ix b4 o5 len ca k, .f 0 0, .own, .b 0 0, .b 0 0, .cl 38 #[.agg #[Vi y.op, Vi y.k, Vi y.n, .string y.s, .string y.nm, .slice Au nu cu], .map (some fb), .map (some rb)] (.tuple #[Vi ((tyE f y).1), Vi ((tyE f y).2)])] [] ?_ (ho := (And.intro (by first | omega | (simp; omega)) (And.intro (fun H sH => hcall _ (hyu.sees (S3.trans sH)) (hF.sees (S3.trans sH)) (hRR.sees (S3.trans sH))) (trivial))))
        intro b7
        by_cases he : (tyE f y).2 = 0
        · refine g_false (t := ((tyE f y).2) != 0) (bne_eq_false_iff_eq.2 he) ?_
          refine gov1 6 [.fix] [] ?_
          intro b8 W9 S10
          refine goa0 9 [.ap 2 0 (intRows ((tysE f x.args).take k)) [[Vi ((tyE f y).1)]]] [(57, Vi (IntKind.i64.wrap ((k : Int) + 1)), Vi ((k : Int) + 1))] ?_ (ho := (And.intro (by rw [List.length_map, htn]; simp; omega) (trivial))) (hc := (And.intro (i64_wrap (by omega) (by omega)) (trivial)))
          intro v56 W11 S12
          refine g_is [(1, .map (some fb)), (2, .map (some rb)), (3, Vp b1), (37, .slice (some ⟨b4, o5, none⟩) len ca), (38, Vi (len : Int)), (10, .slice (sA v56) (sN v56) (sC v56)), (39, Vi ((k : Int) + 1))] [.box b1 [Vi x.op, Vi x.k, Vi x.n, .string x.s, .string x.nm, .slice (some ⟨b4, o5, none⟩) len ca], .row (.slice (sA v56) (sN v56) (sC v56)) 3 1 ((intRows ((tysE f x.args).take k)) ++ [[Vi ((tyE f y).1)]])] [] ?_
          exact g_round (k + 1) (fun X q => ⟨W11, .slice (sA v56) (sN v56) (sC v56), q _ _ _ _ (says_ents (by rw [htk]; simp)), (S3.trans (S10.trans S12)), by omega, (fun z hz => by rw [hxk] at hz; rcases List.mem_append.1 hz with q | q; exact hpre z q; rw [List.mem_singleton.1 q]; exact he)⟩) (by omega)
        · skip
          refine g_true (t := ((tyE f y).2) != 0) (bne_iff_ne.2 he) ?_
          refine go0 11 [] [] ?_
          refine g_leave ?_
          refine go0 2 [] [] ?_
          have htE := tyL_err hy hpre he
          refine hQ.to [Vi 0, Vi ((tyE f y).2)] (fun H sH => ?_)
          rw [if_neg (by rw [htE]; exact he), htE]; rfl
      · skip
        have hta : x.args.take k = x.args := List.take_of_length_le (by omega)
        have htb : (tysE f x.args).take k = (tysE f x.args) := List.take_of_length_le (by omega)
        rw [hta] at hpre
        have htE := tyL_all hpre
        rw [htb]
        rw [htE] at hev
        generalize (tysE f x.args) = tys at *
        refine g_form 1 (v := v) (e := 3) (kk := 1) (l := intRows tys) ?_; intro A2 c2 hE_v hc_v hm_v
        rw [show (intRows tys).length = k from by first | omega | (simp; done) | (simp; omega)] at hE_v hc_v
        rw [hE_v]
        refine g_freeze 1 (v := .slice A2 k c2) (e := 3) (kk := 1) (l := intRows tys) ?_; intro W13 S14 fr
        refine g_false (t := decide ((k : Int) < (len : Int))) (decide_eq_false (by omega)) ?_
        refine go0 2 [] [] ?_
        refine g_leave ?_
        refine go0 7 [.b 0 0] [] ?_
        cases hru : ruleT x.op with
        | some ru =>
          obtain ⟨ta, t⟩ := ru
          rw [hru] at hgt
          obtain ⟨Ar, nr, cr, hge, hrr⟩ := hgt
          obtain ⟨i, hl⟩ := ifind_some hge
          have hq := fun H q1 q2 => equal_any tys ta (.slice A2 k c2) (.slice Ar nr cr) H q1 q2
          refine g_mapgetJ rb (es := intEs es) (td := .int .i64) (key := Vi x.op) (r := some (i, .agg #[.slice Ar nr cr, Vi t])) (.agg #[Vz, Vi 0]) (.tuple #[.agg #[.slice Ar nr cr, Vi t], .bool true]) (fun a w hJ => MapAt.now (hmp.sees (S3.trans S14)) hJ) (hl) ?_
          refine go1 22 [.own, .b 0 0, .b 0 0, .cl 44 #[.slice A2 k c2, .slice Ar nr cr] (.bool (decide (tys = ta)))] [] ?_ (ho := (And.intro (fun H sH => hq _ (fr.sees sH) (hrr.sees (S3.trans (S14.trans sH)))) (trivial)))
          intro b15
          by_cases e : tys = ta
          · skip
            refine g_true (t := decide (tys = ta)) (decide_eq_true e) ?_
            refine go0 11 [.b 0 1] [] ?_
            refine hQ.to [Vi t, Vi 0] (fun H sH => ?_)
            exact ret2 (by rw [htE, if_pos rfl]; unfold opTy; rw [hru]; simp [e])
          · skip
            refine g_false (t := decide (tys = ta)) (decide_eq_false e) ?_
            refine go0 16 [] [] ?_
            refine hQ.to [Vi 0, Vi 9] (fun H sH => ?_)
            exact ret2 (by rw [htE, if_pos rfl]; unfold opTy; rw [hru]; simp [e])
        | none =>
          rw [hru] at hgt
          have hl := ifind_none hgt
          have htk : tys.length = k := by omega
          rcases rule_none h1 ho2 hru with h17 | ⟨h17, ho3, ho4⟩
          · have hk3 : k = 3 := by rw [← hke, h7, h17]; rfl
            obtain ⟨p, q, r, rfl⟩ : ∃ p q r, tys = [p, q, r] := by
              match tys, htk.trans hk3 with
              | [p, q, r], _ => exact ⟨p, q, r, rfl⟩
            have r0 : (intRows [p, q, r])[0]? = some [.int .i64 p] := rfl
            have r1 : (intRows [p, q, r])[1]? = some [.int .i64 q] := rfl
            have r2 : (intRows [p, q, r])[2]? = some [.int .i64 r] := rfl
            by_cases hp : p = 2
            · skip
              by_cases hq : q = r
              · skip
                refine g_mapgetJ rb (es := intEs es) (td := .int .i64) (key := Vi x.op) (r := none) (.agg #[Vz, Vi 0]) (.tuple #[.agg #[Vz, Vi 0], .bool false]) (fun a w hJ => MapAt.now (hmp.sees (S3.trans S14)) hJ) (hl) ?_
                refine go1 31 [.own, .b 0 0] [] ?_
                intro b16
                obtain ⟨b17, o18, rfl, -, c19⟩ := RS.row fr (r0)
                refine g_fact (c19.sees (Sees.refl _)) ?_
                have c20 := RS.cell fr (r1)
                refine g_fact (c20.sees (Sees.refl _)) ?_
                have c21 := RS.cell fr (r2)
                refine g_fact (c21.sees (Sees.refl _)) ?_
                refine g_reg 19 0 [.pu, .ld 1 0, .v (fun gh => .bool true), .pu, .pu, .v (fun gh => .pointer (some ⟨b17, o18 + 0 * 1, none⟩)), .lf 2 0, .v (fun gh => .bool true), .pu, .pu, .pu, .v (fun gh => .pointer (some ⟨b17, o18 + 1 * 1, none⟩)), .lf 1 0, .pu, .v (fun gh => .pointer (some ⟨b17, o18 + 2 * 1, none⟩)), .lf 0 0, .v (fun gh => .bool true), .pu, .pu] [] (trivial) ?_ ?_
                · intro R hT hA hmono
                  refine And.intro (t_eq hT hA (fun gh => .bool true) (fun gh => .bool (x.op == 17)) (fun gh => congrArg Value.bool (beq_iff_eq.2 h17))) ?_
                  refine And.intro (t_ix hT hA b17 o18 k c2 0 (fun gh => .pointer (some ⟨b17, o18 + 0 * 1, none⟩)) (by first | omega | (simp; omega))) ?_
                  refine And.intro (t_eq hT hA (fun gh => .bool true) (fun gh => .bool (p == 2)) (fun gh => congrArg Value.bool (beq_iff_eq.2 hp))) ?_
                  refine And.intro (t_ix hT hA b17 o18 k c2 1 (fun gh => .pointer (some ⟨b17, o18 + 1 * 1, none⟩)) (by first | omega | (simp; omega))) ?_
                  refine And.intro (t_ix hT hA b17 o18 k c2 2 (fun gh => .pointer (some ⟨b17, o18 + 2 * 1, none⟩)) (by first | omega | (simp; omega))) ?_
                  refine And.intro (t_eq hT hA (fun gh => .bool true) (fun gh => .bool (q == r)) (fun gh => congrArg Value.bool (beq_iff_eq.2 hq))) ?_
                  trivial
                rintro W22 S23 -
                refine go0 5 [] [] ?_
                have c24 := RS.cell fr (r1)
                refine g_fact (c24.sees S23) ?_
                refine go0 9 [.ix b17 o18 k c2 1, .f 0 0] [] ?_ (ho := (And.intro (by first | omega | (simp; omega)) (trivial)))
                refine hQ.to [Vi q, Vi 0] (fun H sH => ?_)
                exact ret2 (by rw [htE, if_pos rfl]; unfold opTy; rw [hru]; simp [h17, hp, hq])
              · skip
                refine g_mapgetJ rb (es := intEs es) (td := .int .i64) (key := Vi x.op) (r := none) (.agg #[Vz, Vi 0]) (.tuple #[.agg #[Vz, Vi 0], .bool false]) (fun a w hJ => MapAt.now (hmp.sees (S3.trans S14)) hJ) (hl) ?_
                refine go1 31 [.own, .b 0 0] [] ?_
                intro b25
                obtain ⟨b26, o27, rfl, -, c28⟩ := RS.row fr (r0)
                refine g_fact (c28.sees (Sees.refl _)) ?_
                have c29 := RS.cell fr (r1)
                refine g_fact (c29.sees (Sees.refl _)) ?_
                have c30 := RS.cell fr (r2)
                refine g_fact (c30.sees (Sees.refl _)) ?_
                refine g_reg 19 0 [.pu, .ld 1 0, .v (fun gh => .bool true), .pu, .pu, .v (fun gh => .pointer (some ⟨b26, o27 + 0 * 1, none⟩)), .lf 2 0, .v (fun gh => .bool true), .pu, .pu, .pu, .v (fun gh => .pointer (some ⟨b26, o27 + 1 * 1, none⟩)), .lf 1 0, .pu, .v (fun gh => .pointer (some ⟨b26, o27 + 2 * 1, none⟩)), .lf 0 0, .v (fun gh => .bool false), .pu, .pu] [] (trivial) ?_ ?_
                · intro R hT hA hmono
                  refine And.intro (t_eq hT hA (fun gh => .bool true) (fun gh => .bool (x.op == 17)) (fun gh => congrArg Value.bool (beq_iff_eq.2 h17))) ?_
                  refine And.intro (t_ix hT hA b26 o27 k c2 0 (fun gh => .pointer (some ⟨b26, o27 + 0 * 1, none⟩)) (by first | omega | (simp; omega))) ?_
                  refine And.intro (t_eq hT hA (fun gh => .bool true) (fun gh => .bool (p == 2)) (fun gh => congrArg Value.bool (beq_iff_eq.2 hp))) ?_
                  refine And.intro (t_ix hT hA b26 o27 k c2 1 (fun gh => .pointer (some ⟨b26, o27 + 1 * 1, none⟩)) (by first | omega | (simp; omega))) ?_
                  refine And.intro (t_ix hT hA b26 o27 k c2 2 (fun gh => .pointer (some ⟨b26, o27 + 2 * 1, none⟩)) (by first | omega | (simp; omega))) ?_
                  refine And.intro (t_eq hT hA (fun gh => .bool false) (fun gh => .bool (q == r)) (fun gh => congrArg Value.bool (beq_eq_false_iff_ne.2 hq))) ?_
                  trivial
                rintro W31 S32 -
                refine go0 3 [] [] ?_
                refine g_reg 13 0 [.pu, .ld 1 0, .v (fun gh => .bool false), .pu, .ps, .ps, .ps, .ps, .ps, .ps, .ps, .pu, .pu] [] (trivial) ?_ ?_
                · intro R hT hA hmono
                  refine And.intro (t_eq hT hA (fun gh => .bool false) (fun gh => .bool (x.op != 17)) (fun gh => congrArg Value.bool (bne_eq_false_iff_eq.2 h17))) ?_
                  trivial
                rintro W33 S34 -
                refine go0 12 [] [] ?_
                refine hQ.to [Vi 0, Vi 9] (fun H sH => ?_)
                exact ret2 (by rw [htE, if_pos rfl]; unfold opTy; rw [hru]; simp [h17, hp, hq])
            · skip
              refine g_mapgetJ rb (es := intEs es) (td := .int .i64) (key := Vi x.op) (r := none) (.agg #[Vz, Vi 0]) (.tuple #[.agg #[Vz, Vi 0], .bool false]) (fun a w hJ => MapAt.now (hmp.sees (S3.trans S14)) hJ) (hl) ?_
              refine go1 31 [.own, .b 0 0] [] ?_
              intro b35
              obtain ⟨b36, o37, rfl, -, c38⟩ := RS.row fr (r0)
              refine g_fact (c38.sees (Sees.refl _)) ?_
              have c39 := RS.cell fr (r1)
              refine g_fact (c39.sees (Sees.refl _)) ?_
              have c40 := RS.cell fr (r2)
              refine g_fact (c40.sees (Sees.refl _)) ?_
              refine g_reg 19 0 [.pu, .ld 1 0, .v (fun gh => .bool true), .pu, .pu, .v (fun gh => .pointer (some ⟨b36, o37 + 0 * 1, none⟩)), .lf 2 0, .v (fun gh => .bool false), .pu, .pu, .ps, .ps, .ps, .ps, .ps, .ps, .ps, .pu, .pu] [] (trivial) ?_ ?_
              · intro R hT hA hmono
                refine And.intro (t_eq hT hA (fun gh => .bool true) (fun gh => .bool (x.op == 17)) (fun gh => congrArg Value.bool (beq_iff_eq.2 h17))) ?_
                refine And.intro (t_ix hT hA b36 o37 k c2 0 (fun gh => .pointer (some ⟨b36, o37 + 0 * 1, none⟩)) (by first | omega | (simp; omega))) ?_
                refine And.intro (t_eq hT hA (fun gh => .bool false) (fun gh => .bool (p == 2)) (fun gh => congrArg Value.bool (beq_eq_false_iff_ne.2 hp))) ?_
                trivial
              rintro W41 S42 -
              refine go0 3 [] [] ?_
              refine g_reg 13 0 [.pu, .ld 1 0, .v (fun gh => .bool false), .pu, .ps, .ps, .ps, .ps, .ps, .ps, .ps, .pu, .pu] [] (trivial) ?_ ?_
              · intro R hT hA hmono
                refine And.intro (t_eq hT hA (fun gh => .bool false) (fun gh => .bool (x.op != 17)) (fun gh => congrArg Value.bool (bne_eq_false_iff_eq.2 h17))) ?_
                trivial
              rintro W43 S44 -
              refine go0 12 [] [] ?_
              refine hQ.to [Vi 0, Vi 9] (fun H sH => ?_)
              exact ret2 (by rw [htE, if_pos rfl]; unfold opTy; rw [hru]; simp [h17, hp])
          · skip
            have hk2 : k = 2 := by
              rw [← hke, h7]; unfold arity
              rw [if_neg (by omega), if_neg (by omega), if_neg h17]
            obtain ⟨p, q, rfl⟩ : ∃ p q, tys = [p, q] := by
              match tys, htk.trans hk2 with
              | [p, q], _ => exact ⟨p, q, rfl⟩
            have r0 : (intRows [p, q])[0]? = some [.int .i64 p] := rfl
            have r1 : (intRows [p, q])[1]? = some [.int .i64 q] := rfl
            by_cases hp : p = q
            · skip
              refine g_mapgetJ rb (es := intEs es) (td := .int .i64) (key := Vi x.op) (r := none) (.agg #[Vz, Vi 0]) (.tuple #[.agg #[Vz, Vi 0], .bool false]) (fun a w hJ => MapAt.now (hmp.sees (S3.trans S14)) hJ) (hl) ?_
              refine go1 31 [.own, .b 0 0] [] ?_
              intro b45
              refine g_reg 19 0 [.pu, .ld 1 0, .v (fun gh => .bool false), .pu, .ps, .ps, .ps, .ps, .pu, .pu, .ps, .ps, .ps, .ps, .ps, .ps, .ps, .pu, .pu] [] (trivial) ?_ ?_
              · intro R hT hA hmono
                refine And.intro (t_eq hT hA (fun gh => .bool false) (fun gh => .bool (x.op == 17)) (fun gh => congrArg Value.bool (beq_eq_false_iff_ne.2 h17))) ?_
                trivial
              rintro W46 S47 -
              refine go0 3 [] [] ?_
              obtain ⟨b48, o49, rfl, -, c50⟩ := RS.row fr (r0)
              refine g_fact (c50.sees S47) ?_
              have c51 := RS.cell fr (r1)
              refine g_fact (c51.sees S47) ?_
              refine g_reg 13 0 [.pu, .ld 1 0, .v (fun gh => .bool true), .pu, .pu, .v (fun gh => .pointer (some ⟨b48, o49 + 0 * 1, none⟩)), .lf 1 0, .pu, .v (fun gh => .pointer (some ⟨b48, o49 + 1 * 1, none⟩)), .lf 0 0, .v (fun gh => .bool true), .pu, .pu] [] (trivial) ?_ ?_
              · intro R hT hA hmono
                refine And.intro (t_eq hT hA (fun gh => .bool true) (fun gh => .bool (x.op != 17)) (fun gh => congrArg Value.bool (bne_iff_ne.2 h17))) ?_
                refine And.intro (t_ix hT hA b48 o49 k c2 0 (fun gh => .pointer (some ⟨b48, o49 + 0 * 1, none⟩)) (by first | omega | (simp; omega))) ?_
                refine And.intro (t_ix hT hA b48 o49 k c2 1 (fun gh => .pointer (some ⟨b48, o49 + 1 * 1, none⟩)) (by first | omega | (simp; omega))) ?_
                refine And.intro (t_eq hT hA (fun gh => .bool true) (fun gh => .bool (p == q)) (fun gh => congrArg Value.bool (beq_iff_eq.2 hp))) ?_
                trivial
              rintro W52 S53 -
              refine go0 11 [] [] ?_
              refine hQ.to [Vi 2, Vi 0] (fun H sH => ?_)
              exact ret2 (by rw [htE, if_pos rfl]; unfold opTy; rw [hru]; simp [h17, hp])
            · skip
              refine g_mapgetJ rb (es := intEs es) (td := .int .i64) (key := Vi x.op) (r := none) (.agg #[Vz, Vi 0]) (.tuple #[.agg #[Vz, Vi 0], .bool false]) (fun a w hJ => MapAt.now (hmp.sees (S3.trans S14)) hJ) (hl) ?_
              refine go1 31 [.own, .b 0 0] [] ?_
              intro b54
              refine g_reg 19 0 [.pu, .ld 1 0, .v (fun gh => .bool false), .pu, .ps, .ps, .ps, .ps, .pu, .pu, .ps, .ps, .ps, .ps, .ps, .ps, .ps, .pu, .pu] [] (trivial) ?_ ?_
              · intro R hT hA hmono
                refine And.intro (t_eq hT hA (fun gh => .bool false) (fun gh => .bool (x.op == 17)) (fun gh => congrArg Value.bool (beq_eq_false_iff_ne.2 h17))) ?_
                trivial
              rintro W55 S56 -
              refine go0 3 [] [] ?_
              obtain ⟨b57, o58, rfl, -, c59⟩ := RS.row fr (r0)
              refine g_fact (c59.sees S56) ?_
              have c60 := RS.cell fr (r1)
              refine g_fact (c60.sees S56) ?_
              refine g_reg 13 0 [.pu, .ld 1 0, .v (fun gh => .bool true), .pu, .pu, .v (fun gh => .pointer (some ⟨b57, o58 + 0 * 1, none⟩)), .lf 1 0, .pu, .v (fun gh => .pointer (some ⟨b57, o58 + 1 * 1, none⟩)), .lf 0 0, .v (fun gh => .bool false), .pu, .pu] [] (trivial) ?_ ?_
              · intro R hT hA hmono
                refine And.intro (t_eq hT hA (fun gh => .bool true) (fun gh => .bool (x.op != 17)) (fun gh => congrArg Value.bool (bne_iff_ne.2 h17))) ?_
                refine And.intro (t_ix hT hA b57 o58 k c2 0 (fun gh => .pointer (some ⟨b57, o58 + 0 * 1, none⟩)) (by first | omega | (simp; omega))) ?_
                refine And.intro (t_ix hT hA b57 o58 k c2 1 (fun gh => .pointer (some ⟨b57, o58 + 1 * 1, none⟩)) (by first | omega | (simp; omega))) ?_
                refine And.intro (t_eq hT hA (fun gh => .bool false) (fun gh => .bool (p == q)) (fun gh => congrArg Value.bool (beq_eq_false_iff_ne.2 hp))) ?_
                trivial
              rintro W61 S62 -
              refine go0 12 [] [] ?_
              refine hQ.to [Vi 0, Vi 9] (fun H sH => ?_)
              exact ret2 (by rw [htE, if_pos rfl]; unfold opTy; rw [hru]; simp [h17, hp])

end Go.Proofs.Ythgcgciceejicaa
