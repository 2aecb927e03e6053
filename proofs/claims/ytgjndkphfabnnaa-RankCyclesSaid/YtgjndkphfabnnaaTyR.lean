/-
  Contracts of typing.types, typing.rules, slices.Equal at ints, typing.of, Of, Fits.
-/
import Derived.Test.YtgjndkphfabnnaaTyW
import Derived.Test.YtgjndkphfabnnaaMl
import Derived.Test.YtgjndkphfabnnaaGenD
namespace Go.Proofs.Ytgjndkphfabnnaa
open Go.RowKit Go.Shelf

/-- A map of the types of fields. -/
def TypesAt (h : Vw) (b : Nat) (f : ByteArray → Option Int) : Prop := ∃ l, MapAt h b (strEs l) ∧ ∀ s, sget s l = (f s).map (.int .i64)
theorem TypesAt.sees {h h' : Vw} {b : Nat} {f : ByteArray → Option Int} (k : TypesAt h b f) (s : Sees h h') : TypesAt h' b f := by
  obtain ⟨l, h1, h2⟩ := k
  exact ⟨l, h1.sees s, h2⟩
theorem types_any (fs : List Fd) (v : Value) (h : Vw) (hf : IsFds h v fs) : C0 Try.prog 122 #[v] h (fun r h' => ∃ b, r = .map (some b) ∧ TypesAt h' b (tyF fs)) := by
  intro _ _ _ hbad
  obtain ⟨vs, hr, hs⟩ := hf
  have hvl := hs.len
  obtain ⟨A, cap, rfl, -, -, -⟩ := hr.form
  rw [fdRows_len hvl] at hr ⊢
  have hsl : ∀ v ∈ vs, .slice (sA v) (sN v) (sC v) = v := fun v hv => by
    obtain ⟨i, hi⟩ := List.getElem?_of_mem hv
    have hlt := (List.getElem?_eq_some_iff.1 hi).1
    obtain ⟨x, hx⟩ : ∃ x, (fs.map (·.src))[i]? = some x := ⟨_, List.getElem?_eq_getElem (by rw [List.length_map]; omega)⟩
    obtain ⟨A, n, c, rfl⟩ := (AllArgs.get hs hx hi).slice
    rfl
  refine (callsIn_wide.1 (types_in fs vs A cap h hr hvl hsl 9 (by omega))).mono ?_
  rintro e w' ⟨rfl, ⟨l, h1, h2⟩, hb⟩
  exact ⟨_, [], rfl, Low.of_below hb, (fun x hx => by cases hx), rfl, _, rfl, l, ⟨fun hm => Nat.lt_irrefl _ (hbad _ hm), h1⟩, h2⟩

/-- The map of the rules of ops. -/
def RulesAt (h : Vw) (b : Nat) : Prop := ∃ es, MapAt h b (intEs es) ∧ ∀ op, match ruleT op with
  | some (a, t) => ∃ A n c, iget op es = some (.agg #[.slice A n c, .int .i64 t]) ∧ RS h 1 (.slice A n c) (intRows a)
  | none => iget op es = none
theorem RulesAt.sees {h h' : Vw} {b : Nat} (k : RulesAt h b) (s : Sees h h') : RulesAt h' b := by
  obtain ⟨es, h1, h2⟩ := k
  refine ⟨es, h1.sees s, fun op => ?_⟩
  have := h2 op
  split at this
  · obtain ⟨A, n, c, h3, h4⟩ := this
    exact ⟨A, n, c, h3, h4.sees s⟩
  · exact this

/-- The pairs of the rules. -/
def rulesL (A B C : Value × Value) : List (Int × Value) :=
  [(3, .agg #[A.2, .int .i64 1]), (4, .agg #[B.2, .int .i64 2]), (18, .agg #[C.2, .int .i64 1]), (5, .agg #[A.1, .int .i64 1]), (6, .agg #[A.1, .int .i64 1]), (7, .agg #[A.1, .int .i64 1]), (8, .agg #[A.1, .int .i64 1]), (9, .agg #[A.1, .int .i64 1]),
    (10, .agg #[C.1, .int .i64 3]), (15, .agg #[B.1, .int .i64 2]), (16, .agg #[B.1, .int .i64 2])]
theorem rules_get {es : List (Int × Value)} {A B C : Value × Value} (hn : (es.map (·.1)).Nodup) (he : ∀ k v, (k, v) ∈ es ↔ (k, v) ∈ rulesL A B C) (op : Int) : iget op es = iget op (rulesL A B C) := by
  have hnl : ((rulesL A B C).map (·.1)).Nodup := by simp [rulesL]
  cases h : iget op (rulesL A B C) with
  | some v =>
    have hm : ∀ {l : List (Int × Value)}, iget op l = some v → (op, v) ∈ l := by
      intro l
      induction l with
      | nil => intro h; cases h
      | cons p l ih =>
        obtain ⟨k, u⟩ := p
        intro h
        unfold iget at h
        split at h
        · rename_i e; simp only [Option.some.injEq] at h; subst e h; simp
        · exact List.mem_cons_of_mem _ (ih h)
    exact iget_mem hn ((he op v).2 (hm h))
  | none =>
    refine iget_none fun hm => ?_
    obtain ⟨⟨k, v⟩, hm2, rfl⟩ := List.mem_map.1 hm
    rw [iget_mem hnl ((he k v).1 hm2)] at h
    cases h

set_option maxRecDepth 100000 in
theorem rules_any (h : Vw) : C0 Try.prog 123 #[] h (fun r h' => ∃ b, r = .map (some b) ∧ RulesAt h' b) := by
  refine x_con Try.func123 (c := Try.f123.body.getD .skip) (by kernel_rfl) (N := 34) rfl (by kernel_rfl) ?_
  intro hbx hbad Q hQ a w hJ
  replace hJ : K ⟨34, h.w, h.bad, []⟩ [] [] [] h a w := hJ.to (by kernel_rfl) (by kernel_rfl) rfl
  refine rx hJ true 16 [.fix, .fix, .fix] [] (.new fun b1 => .new fun b2 => .new fun b3 => .ok (.code [0, 1, 1]) [.seq [1, 1, 1]] [(0, .map none), (1, Vs b1 2 2), (2, Vs b2 2 2), (3, Vs b3 2 2)] [] [(b3, 0, [Vi 3, Vi 3]), (b2, 0, [Vi 2, Vi 2]), (b1, 0, [Vi 1, Vi 1])]) trivial trivial (fun b1 b2 b3 _ => by kernel_rfl) ?_
  clear hJ a w; intro b1 b2 b3 h4 a w s5 hJ
  replace hJ : K ⟨34, h.w, h.bad, []⟩ [(1, Vs b1 2 2), (2, Vs b2 2 2), (3, Vs b3 2 2)] [] [(b3, 0, [Vi 3, Vi 3]), (b2, 0, [Vi 2, Vi 2]), (b1, 0, [Vi 1, Vi 1])] h4 a w := hJ.to (by kernel_rfl) (by kernel_rfl) rfl
  refine x_maplit (by kernel_rfl) hJ 160 Try.underlying160 Try.underlying3 [.mk 7, .pu 8 (Vs b1 2 2), .pu 9 (Vs b1 1 2), .pu 10 (.agg #[Vs b1 1 2, Vi 1]), .ins 3 (.agg #[Vs b1 1 2, Vi 1]), .pu 11 (Vs b2 2 2), .pu 12 (Vs b2 1 2), .pu 13 (.agg #[Vs b2 1 2, Vi 2]), .ins 4 (.agg #[Vs b2 1 2, Vi 2]), .pu 14 (Vs b3 2 2), .pu 15 (Vs b3 1 2), .pu 16 (.agg #[Vs b3 1 2, Vi 1]), .ins 18 (.agg #[Vs b3 1 2, Vi 1]), .pu 17 (Vs b1 2 2), .pu 18 (.agg #[Vs b1 2 2, Vi 1]), .ins 5 (.agg #[Vs b1 2 2, Vi 1]), .pu 19 (Vs b1 2 2), .pu 20 (.agg #[Vs b1 2 2, Vi 1]), .ins 6 (.agg #[Vs b1 2 2, Vi 1]), .pu 21 (Vs b1 2 2), .pu 22 (.agg #[Vs b1 2 2, Vi 1]), .ins 7 (.agg #[Vs b1 2 2, Vi 1]), .pu 23 (Vs b1 2 2), .pu 24 (.agg #[Vs b1 2 2, Vi 1]), .ins 8 (.agg #[Vs b1 2 2, Vi 1]), .pu 25 (Vs b1 2 2), .pu 26 (.agg #[Vs b1 2 2, Vi 1]), .ins 9 (.agg #[Vs b1 2 2, Vi 1]), .pu 27 (Vs b3 2 2), .pu 28 (.agg #[Vs b3 2 2, Vi 3]), .ins 10 (.agg #[Vs b3 2 2, Vi 3]), .pu 29 (Vs b2 2 2), .pu 30 (.agg #[Vs b2 2 2, Vi 2]), .ins 15 (.agg #[Vs b2 2 2, Vi 2]), .pu 31 (Vs b2 2 2), .pu 32 (.agg #[Vs b2 2 2, Vi 2]), .ins 16 (.agg #[Vs b2 2 2, Vi 2]), .mv 33, .mv 0] (by kernel_rfl) (fun _ _ => by kernel_rfl) ?_; clear hJ a w; intro b6 es7 a w hJ1 hes8 hnd9
  have hJ : K ⟨34, h.w, h.bad, []⟩ [(0, .map (some b6))] [.map b6 (intEs es7)] [(b3, 0, [Vi 3, Vi 3]), (b2, 0, [Vi 2, Vi 2]), (b1, 0, [Vi 1, Vi 1])] h4 a w := hJ1.to (by kernel_rfl) (by kernel_rfl) rfl; clear hJ1
  refine rx hJ false 2 [] [] (.ok (.out .ret) [] [(0, .map (some b6))] [.map b6 (intEs es7)] [(b3, 0, [Vi 3, Vi 3]), (b2, 0, [Vi 2, Vi 2]), (b1, 0, [Vi 1, Vi 1])]) trivial trivial (fun _ => by kernel_rfl) ?_
  clear hJ a w; intro a w hJ
  refine x_end (hQ [.map (some b6)] _ [] hJ (.rtmp hJ.j (by kernel_rfl) .nil) (no_own _) rfl ?_).1
  skip
  have c1 : Cells ⟨w, h.bad⟩ b1 0 _ := (hJ.f _ (List.mem_cons_of_mem _ (List.mem_cons_of_mem _ List.mem_cons_self))).sees hJ.j.out
  have c2 : Cells ⟨w, h.bad⟩ b2 0 _ := (hJ.f _ (List.mem_cons_of_mem _ List.mem_cons_self)).sees hJ.j.out
  have c3 : Cells ⟨w, h.bad⟩ b3 0 _ := (hJ.f _ List.mem_cons_self).sees hJ.j.out
  have n2 := rs_ints [1, 1] (by decide) c1
  have t2 := rs_ints [2, 2] (by decide) c2
  have s2 := rs_ints [3, 3] (by decide) c3
  have n1 := n2.take 1 (by decide)
  have t1 := t2.take 1 (by decide)
  have s1 := s2.take 1 (by decide)
  refine ⟨b6, rfl, es7, hJ.mapOut 0 (by kernel_rfl) rfl, fun op => ?_⟩
  rw [rules_get (A := (.slice (some ⟨b1, 0, none⟩) 2 2, .slice (some ⟨b1, 0, none⟩) 1 2)) (B := (.slice (some ⟨b2, 0, none⟩) 2 2, .slice (some ⟨b2, 0, none⟩) 1 2)) (C := (.slice (some ⟨b3, 0, none⟩) 2 2, .slice (some ⟨b3, 0, none⟩) 1 2)) hnd9 (fun k v => by
    rw [hes8]
    simp [rulesL])]
  clear hJ hes8 hnd9
  unfold ruleT
  by_cases e3 : op = 3
  · subst e3; exact ⟨_, _, _, rfl, n1⟩
  by_cases e4 : op = 4
  · subst e4; exact ⟨_, _, _, rfl, t1⟩
  by_cases e18 : op = 18
  · subst e18; exact ⟨_, _, _, rfl, s1⟩
  by_cases e5 : 5 ≤ op ∧ op ≤ 9
  · rcases (by omega : op = 5 ∨ op = 6 ∨ op = 7 ∨ op = 8 ∨ op = 9) with rfl | rfl | rfl | rfl | rfl <;> exact ⟨_, _, _, rfl, n2⟩
  by_cases e10 : op = 10
  · subst e10; exact ⟨_, _, _, rfl, s2⟩
  by_cases e15 : op = 15
  · subst e15; exact ⟨_, _, _, rfl, t2⟩
  by_cases e16 : op = 16
  · subst e16; exact ⟨_, _, _, rfl, t2⟩
  rw [if_neg e3, if_neg e4, if_neg e18, if_neg e5, if_neg e10, if_neg (by omega)]
  simp only
  unfold rulesL iget
  simp only [iget]
  rw [if_neg e3, if_neg e4, if_neg e18, if_neg (by omega), if_neg (by omega), if_neg (by omega), if_neg (by omega), if_neg (by omega), if_neg e10, if_neg e15, if_neg e16]

set_option maxRecDepth 100000 in
theorem equal_any (l m : List Int) (sl sl' : Value) (h : Vw) (hr : RS h 1 sl (intRows l)) (hr' : RS h 1 sl' (intRows m)) : C0 Try.prog 81 #[sl, sl'] h (fun r _ => r = .bool (decide (l = m))) := by
  obtain ⟨A, ca, rfl, l1, l2, -⟩ := hr.form
  obtain ⟨A', ca', rfl, -, -, -⟩ := hr'.form
  rw [List.length_map] at hr hr' l1 ⊢
  unfold maxLen at l2
  rw [List.length_map]
  by_cases hlm : l.length = m.length
  rotate_left
  · rw [decide_eq_false (fun e => hlm (by rw [e]))]
    generalize hL : l.length = len at *
    generalize hL' : m.length = len' at *
    refine x_con Try.func81 (c := Try.f81.body.getD .skip) (by kernel_rfl) (N := 26) rfl (by kernel_rfl) ?_
    intro hbx hbad Q hQ a w hJ
    replace hJ : K ⟨26, h.w, h.bad, []⟩ [(0, .slice A len ca), (1, .slice A' len' ca')] [] [] h a w := hJ.to (by kernel_rfl) (by kernel_rfl) rfl
    refine rx hJ false 15 [] [] (.ok (.code [1, 0, 1]) [.seq [1, 1]] [(0, .slice A len ca), (1, .slice A' len' ca'), (4, .bool false), (10, .bool ((len : Int) != (len' : Int)))] [] []) trivial trivial (fun _ => by kernel_rfl) ?_
    clear hJ a w; intro a w hJ
    refine x_true hJ (t := (len : Int) != (len' : Int)) (by kernel_rfl) (bne_iff_ne.2 (by omega)) ?_
    refine rx hJ false 7 [] [] (.ok (.out .ret) [] [(4, .bool false)] [] []) trivial trivial (fun _ => by kernel_rfl) ?_
    clear hJ a w; intro a w hJ
    refine x_end (hQ [.bool false] _ [] hJ (.rtmp hJ.j (by kernel_rfl) .nil) (no_own _) rfl ?_).1
    exact rfl
  · rw [← hlm] at hr' ⊢
    have hml : m.length = l.length := hlm.symm
    clear hlm
    generalize hL : l.length = len at *
    refine x_con Try.func81 (c := Try.f81.body.getD .skip) (by kernel_rfl) (N := 26) rfl (by kernel_rfl) ?_
    intro hbx hbad Q hQ a w hJ
    replace hJ : K ⟨26, h.w, h.bad, []⟩ [(0, .slice A len ca), (1, .slice A' len ca')] [] [] h a w := hJ.to (by kernel_rfl) (by kernel_rfl) rfl
    refine rx hJ false 27 [] [(10, .bool ((len : Int) != (len : Int)), .bool false)] (.ok (.code [0, 1, 0, 1, 1]) [.block 0, .seq [1, 1, 1]] [(0, .slice A len ca), (1, .slice A' len ca'), (4, .bool false), (12, Vi (len : Int)), (13, Vi 0)] [] []) trivial (And.intro (congrArg Value.bool (bne_self_eq_false _)) (trivial)) (fun _ => by kernel_rfl) ?_
    clear hJ a w; intro a w hJ
    refine x_loop (fun (k : Nat) a w => ∃ (h1 : Vw) , K ⟨26, h.w, h.bad, []⟩ [(0, .slice A len ca), (1, .slice A' len ca'), (12, Vi (len : Int)), (13, Vi (k : Int))] [] [] h1 a w ∧ Sees h h1 ∧ (k ≤ len) ∧ (l.take k = m.take k)) (fun k => len - k) (0) (by kernel_rfl) ⟨h, hJ.to (by kernel_rfl) (by kernel_rfl) rfl, Sees.refl _, Nat.zero_le _, rfl⟩ ?_
    clear hJ a w; rintro k a w ⟨h1, hJ, s2, hk, hpre⟩
    refine rx hJ false 6 [] [] (.ok (.code [0, 1, 0, 0, 1, 0, 1, 1]) [.seq [1, 1, 0, 0, 1, 0, 1, 1]] [(0, .slice A len ca), (1, .slice A' len ca'), (12, Vi (len : Int)), (13, Vi (k : Int)), (14, .bool (decide ((k : Int) < (len : Int))))] [] []) trivial trivial (fun _ => by kernel_rfl) ?_
    clear hJ a w; intro a w hJ
    rcases (by omega : k < len ∨ len = k) with hlt | hke
    · obtain ⟨x, hx⟩ : ∃ x, l[k]? = some x := ⟨_, List.getElem?_eq_getElem (by omega)⟩
      obtain ⟨y, hy⟩ : ∃ y, m[k]? = some y := ⟨_, List.getElem?_eq_getElem (by omega)⟩
      have hrow : (intRows l)[k]? = some [.int .i64 x] := by rw [List.getElem?_map, hx]; rfl
      have hrow' : (intRows m)[k]? = some [.int .i64 y] := by rw [List.getElem?_map, hy]; rfl
      refine x_true hJ (t := decide ((k : Int) < (len : Int))) (by kernel_rfl) (decide_eq_true (by omega)) ?_
      refine rx hJ false 11 [] [] (.ok (.code [0, 1, 0, 0, 1, 1, 0, 0, 1, 0, 1, 1]) [.seq [1, 1, 0, 0, 1, 1, 0, 0, 1, 0, 1, 1], .block 1, .seq [1, 1, 1, 0, 0, 1, 0, 1, 1]] [(0, .slice A len ca), (1, .slice A' len ca'), (12, Vi (len : Int)), (13, Vi (k : Int)), (14, .bool (decide ((k : Int) < (len : Int)))), (15, Vi (k : Int)), (5, Vi (k : Int))] [] []) trivial trivial (fun _ => by kernel_rfl) ?_
      clear hJ a w; intro a w hJ
      obtain ⟨b3, o4, rfl, -, c5⟩ := RS.row hr (hrow)
      replace hJ := hJ.fact (c5.sees s2)
      obtain ⟨b6, o7, rfl, -, c8⟩ := RS.row hr' (hrow')
      replace hJ := hJ.fact (c8.sees s2)
      let R : Reg := ⟨⟨26, h.w, h.bad, []⟩, [(0, 16, fun gh => .slice (some ⟨b3, o4, none⟩) len ca), (1, 17, fun gh => Vi (k : Int)), (2, 18, fun gh => .pointer (some ⟨b3, o4 + k * 1, none⟩)), (3, 19, fun gh => Vi x), (4, 20, fun gh => .slice (some ⟨b6, o7, none⟩) len ca'), (5, 21, fun gh => Vi (k : Int)), (6, 22, fun gh => .pointer (some ⟨b6, o7 + k * 1, none⟩)), (7, 23, fun gh => Vi y), (8, 24, fun gh => .bool (x != y))], [(0, .slice (some ⟨b3, o4, none⟩) len ca), (1, .slice (some ⟨b6, o7, none⟩) len ca'), (12, Vi (len : Int)), (13, Vi (k : Int)), (14, .bool (decide ((k : Int) < (len : Int)))), (15, Vi (k : Int)), (5, Vi (k : Int))], [], [], [[], [], [0, 1], [0, 1, 2], [], [], [4, 5], [4, 5, 6], [0, 1, 2, 3, 4, 5, 6, 7]], h1⟩
      have hmono : ∀ zq ∈ R.F, ∀ zx zh zi, Sees zh zi → zq.2 zx zh → zq.2 zx zi := mono_nil
      refine x_region (by kernel_rfl) R hJ 9 [.pu, .pu, .cl, .lf 1 0, .pu, .pu, .cl, .lf 0 0, .pu] (by kernel_rfl) hmono (fun _ _ _ => by kernel_rfl) (fun hT hA => ?_) ?_
      · clear hJ
        refine And.intro (r_pure hT hA 18 (fun gh => .pointer (some ⟨b3, o4 + k * 1, none⟩)) [0, 1] 2 (by kernel_rfl) (by kernel_rfl) (by kernel_rfl) (fun _ => by kernel_rfl) (fun gh w => run_indexAddr (t := 58) (x := (.tmp 16)) (y := (.tmp 17)) (b := b3) (off := o4) (n := len) (cap := ca) (k := k) (e := 3) (kk := 1) (by kernel_rfl) (by kernel_rfl) (by kernel_rfl) (by first | omega | (simp; omega)) Try.underlying58 (by kernel_rfl))) ?_
        refine And.intro (r_pure hT hA 22 (fun gh => .pointer (some ⟨b6, o7 + k * 1, none⟩)) [4, 5] 6 (by kernel_rfl) (by kernel_rfl) (by kernel_rfl) (fun _ => by kernel_rfl) (fun gh w => run_indexAddr (t := 58) (x := (.tmp 20)) (y := (.tmp 21)) (b := b6) (off := o7) (n := len) (cap := ca') (k := k) (e := 3) (kk := 1) (by kernel_rfl) (by kernel_rfl) (by kernel_rfl) (by first | omega | (simp; omega)) Try.underlying58 (by kernel_rfl))) ?_
        trivial
      clear hJ a w; intro gh h9 a w sR hJ1 hF; have s10 : Sees h1 h9 := sR; clear sR
      have hJ : K ⟨26, h.w, h.bad, []⟩ [(0, .slice (some ⟨b3, o4, none⟩) len ca), (1, .slice (some ⟨b6, o7, none⟩) len ca'), (12, Vi (len : Int)), (13, Vi (k : Int)), (14, .bool (decide ((k : Int) < (len : Int)))), (15, Vi (k : Int)), (5, Vi (k : Int)), (16, .slice (some ⟨b3, o4, none⟩) len ca), (17, Vi (k : Int)), (18, .pointer (some ⟨b3, o4 + k * 1, none⟩)), (19, Vi x), (20, .slice (some ⟨b6, o7, none⟩) len ca'), (21, Vi (k : Int)), (22, .pointer (some ⟨b6, o7 + k * 1, none⟩)), (23, Vi y), (24, .bool (x != y))] [] [(b6, o7 + k * 1, [Vi y]), (b3, o4 + k * 1, [Vi x])] h9 a w := hJ1.to (by kernel_rfl) (by kernel_rfl) rfl
      clear hJ1 hF hmono R
      clear gh
      refine rx hJ false 1 [] [] (.ok (.code [1, 1, 0, 0, 1, 1, 0, 0, 1, 0, 1, 1]) [.block 1, .seq [1, 1, 1, 0, 0, 1, 0, 1, 1]] [(0, .slice (some ⟨b3, o4, none⟩) len ca), (1, .slice (some ⟨b6, o7, none⟩) len ca'), (12, Vi (len : Int)), (13, Vi (k : Int)), (14, .bool (decide ((k : Int) < (len : Int)))), (15, Vi (k : Int)), (5, Vi (k : Int)), (16, .slice (some ⟨b3, o4, none⟩) len ca), (17, Vi (k : Int)), (18, .pointer (some ⟨b3, o4 + k * 1, none⟩)), (19, Vi x), (20, .slice (some ⟨b6, o7, none⟩) len ca'), (21, Vi (k : Int)), (22, .pointer (some ⟨b6, o7 + k * 1, none⟩)), (23, Vi y), (24, .bool (x != y))] [] [(b6, o7 + k * 1, [Vi y]), (b3, o4 + k * 1, [Vi x])]) trivial trivial (fun _ => by kernel_rfl) ?_
      clear hJ a w; intro a w hJ
      by_cases e : x = y
      · refine x_false hJ (t := x != y) (by kernel_rfl) (bne_eq_false_iff_eq.2 e) ?_
        refine rx hJ false 7 [] [(25, Vi (IntKind.i64.wrap ((k : Int) + 1)), Vi ((k : Int) + 1))] (.ok (.out .normal) [] [(0, .slice (some ⟨b3, o4, none⟩) len ca), (1, .slice (some ⟨b6, o7, none⟩) len ca'), (12, Vi (len : Int)), (14, .bool (decide ((k : Int) < (len : Int)))), (15, Vi (k : Int)), (5, Vi (k : Int)), (16, .slice (some ⟨b3, o4, none⟩) len ca), (17, Vi (k : Int)), (18, .pointer (some ⟨b3, o4 + k * 1, none⟩)), (19, Vi x), (20, .slice (some ⟨b6, o7, none⟩) len ca'), (21, Vi (k : Int)), (22, .pointer (some ⟨b6, o7 + k * 1, none⟩)), (23, Vi y), (24, .bool (x != y)), (25, Vi ((k : Int) + 1)), (13, Vi ((k : Int) + 1))] [] [(b6, o7 + k * 1, [Vi y]), (b3, o4 + k * 1, [Vi x])]) trivial (And.intro (i64_wrap (by omega) (by omega)) (trivial)) (fun _ => by kernel_rfl) ?_
        clear hJ a w; intro a w hJ
        exact x_round ⟨k + 1, ⟨h9, (hJ.tof [] (F' := []) (by kernel_rfl)).to (by kernel_rfl) (by kernel_rfl) rfl, (s2.trans s10), by omega, by rw [take_snoc' _ k _ hx, take_snoc' _ k _ hy, hpre, e]⟩, by omega⟩
      · skip
        refine x_true hJ (t := x != y) (by kernel_rfl) (bne_iff_ne.2 e) ?_
        refine rx hJ false 8 [] [] (.ok (.out .ret) [] [(0, .slice (some ⟨b3, o4, none⟩) len ca), (1, .slice (some ⟨b6, o7, none⟩) len ca'), (12, Vi (len : Int)), (13, Vi (k : Int)), (14, .bool (decide ((k : Int) < (len : Int)))), (15, Vi (k : Int)), (5, Vi (k : Int)), (16, .slice (some ⟨b3, o4, none⟩) len ca), (17, Vi (k : Int)), (18, .pointer (some ⟨b3, o4 + k * 1, none⟩)), (19, Vi x), (20, .slice (some ⟨b6, o7, none⟩) len ca'), (21, Vi (k : Int)), (22, .pointer (some ⟨b6, o7 + k * 1, none⟩)), (23, Vi y), (24, .bool (x != y)), (4, .bool false)] [] [(b6, o7 + k * 1, [Vi y]), (b3, o4 + k * 1, [Vi x])]) trivial trivial (fun _ => by kernel_rfl) ?_
        clear hJ a w; intro a w hJ
        refine x_leave rfl ?_
        refine rx hJ false 2 [] [] (.ok (.out .ret) [] [(4, .bool false)] [] [(b6, o7 + k * 1, [Vi y]), (b3, o4 + k * 1, [Vi x])]) trivial trivial (fun _ => by kernel_rfl) ?_
        clear hJ a w; intro a w hJ
        have hne : ¬ l = m := fun q => e (by rw [q, hy] at hx; exact (Option.some.inj hx).symm)
        refine x_end (hQ [.bool false] _ [] hJ (.rtmp hJ.j (by kernel_rfl) .nil) (no_own _) rfl ?_).1
        exact congrArg Value.bool (decide_eq_false hne).symm
    · skip
      refine x_false hJ (t := decide ((k : Int) < (len : Int))) (by kernel_rfl) (decide_eq_false (by omega)) ?_
      refine rx hJ false 2 [] [] (.ok (.out (.exit 0)) [] [(0, .slice A len ca), (1, .slice A' len ca'), (12, Vi (len : Int)), (13, Vi (k : Int)), (14, .bool (decide ((k : Int) < (len : Int))))] [] []) trivial trivial (fun _ => by kernel_rfl) ?_
      clear hJ a w; intro a w hJ
      refine x_leave rfl ?_
      refine rx hJ false 8 [] [] (.ok (.out .ret) [] [(4, .bool true)] [] []) trivial trivial (fun _ => by kernel_rfl) ?_
      clear hJ a w; intro a w hJ
      have heq : l = m := by
        have h1 : l.take k = l := List.take_of_length_le (by omega)
        have h2 : m.take k = m := List.take_of_length_le (by omega)
        rw [← h1, ← h2, hpre]
      refine x_end (hQ [.bool true] _ [] hJ (.rtmp hJ.j (by kernel_rfl) .nil) (no_own _) rfl ?_).1
      exact congrArg Value.bool (decide_eq_true heq).symm

def tysE (f : ByteArray → Option Int) (l : List Ex) : List Int := l.map fun y => (tyE f y).1
theorem tyL_all {f : ByteArray → Option Int} : ∀ {l : List Ex}, (∀ y ∈ l, (tyE f y).2 = 0) → tyL f l = (tysE f l, 0)
  | [], _ => by rw [tyL]; rfl
  | x :: l, h => by
    have h1 := h x (by simp)
    have h2 := tyL_all (f := f) (l := l) (fun y hy => h y (by simp [hy]))
    rw [tyL, h2, if_pos h1]; simp [tysE]
theorem tyL_err {f : ByteArray → Option Int} : ∀ {l : List Ex} {k : Nat} {y : Ex}, l[k]? = some y → (∀ z ∈ l.take k, (tyE f z).2 = 0) → (tyE f y).2 ≠ 0 → (tyL f l).2 = (tyE f y).2
  | [], k, y, h, _, _ => by simp at h
  | x :: l, 0, y, h, _, he => by
    simp only [List.getElem?_cons_zero, Option.some.injEq] at h
    subst h
    rw [tyL, if_neg he]
  | x :: l, k + 1, y, h, hp, he => by
    simp only [List.getElem?_cons_succ] at h
    have h1 := hp x (by simp)
    have h2 := tyL_err (f := f) h (fun z hz => hp z (by simp [hz])) he
    rw [tyL, if_pos h1, if_neg (by rw [h2]; exact he)]
    exact h2

theorem ret2 {p : Int × Int} {a b : Int} (h : p = (a, b)) : Value.tuple #[.int .i64 a, .int .i64 b] = .tuple #[.int .i64 p.1, .int .i64 p.2] := by rw [h]
theorem rule_none {op : Int} (h1 : 3 ≤ op) (h2 : op ≤ 18) (h : ruleT op = none) : op = 17 ∨ (op ≠ 17 ∧ 11 ≤ op ∧ op ≤ 14) := by
  unfold ruleT at h
  repeat' split at h
  all_goals first | (cases h; done) | omega
theorem arity_le (op : Int) : arity op ≤ 3 := by
  unfold arity
  repeat' split
  all_goals omega

set_option maxRecDepth 100000 in
theorem tyof_any (f : ByteArray → Option Int) (fb rb : Nat) : ∀ (m : Nat) (x : Ex) (sl : Value) (h : Vw), (szE x).1 ≤ m → IsArgs h x sl → WfE x → TypesAt h fb f → RulesAt h rb →
    C0 Try.prog 121 #[.agg #[.int .i64 x.op, .int .i64 x.k, .int .i64 x.n, .string x.s, .string x.nm, sl], .map (some fb), .map (some rb)] h (fun r _ => r = .tuple #[.int .i64 (tyE f x).1, .int .i64 (tyE f x).2])
  | 0, x, sl, h, hm, _, _, _, _ => by have := szE_pos x; omega
  | m + 1, x, sl, h, hm, hx, hw, hF, hR => by
    have IH := tyof_any f fb rb m
    have hse := szE_eq x
    rw [hse] at hm
    simp only at hm
    have hwl := hw.list
    have hev := tyE_eq f x
    rcases hw.top with ⟨h1, -⟩ | ⟨h1, -⟩ | ⟨h1, ho2, -, -, -, -, h7⟩
    · obtain ⟨A, len, c, rfl⟩ := hx.slice
      rw [if_pos h1] at hev
      rw [hev, h1]
      refine x_con Try.func121 (c := Try.f121.body.getD .skip) (by kernel_rfl) (N := 112) rfl (by kernel_rfl) ?_
      intro hbx hbad Q hQ a w hJ
      replace hJ : K ⟨112, h.w, h.bad, []⟩ [(0, .agg #[Vi 1, Vi x.k, Vi x.n, .string x.s, .string x.nm, .slice A len c]), (1, .map (some fb)), (2, .map (some rb))] [] [] h a w := hJ.to (by kernel_rfl) (by kernel_rfl) rfl
      refine rx hJ false 34 [.own, .b 0 0, .b 0 1] [] (.new fun b1 => .ok (.out .ret) [] [(6, Vi x.k), (7, Vi 0)] [.box b1 [Vi 1, Vi x.k, Vi x.n, .string x.s, .string x.nm, .slice A len c]] []) trivial trivial (fun b1 _ => by kernel_rfl) ?_
      clear hJ a w; intro b1 a w hJ
      refine x_end (hQ [Vi x.k, Vi 0] _ [] hJ (.rtmp hJ.j (by kernel_rfl) (.rtmp hJ.j (by kernel_rfl) .nil)) (no_own _) rfl ?_).1
      exact rfl
    · obtain ⟨A, len, c, rfl⟩ := hx.slice
      rw [if_neg (by omega), if_pos h1] at hev
      obtain ⟨ls, hmp, hgt⟩ := hF
      have hgt := hgt x.nm
      rw [h1]
      cases hg : f x.nm with
      | none =>
        rw [hg] at hev hgt
        rw [hev]
        have hl := mfind_none hgt
        refine x_con Try.func121 (c := Try.f121.body.getD .skip) (by kernel_rfl) (N := 112) rfl (by kernel_rfl) ?_
        intro hbx hbad Q hQ a w hJ
        replace hJ : K ⟨112, h.w, h.bad, []⟩ [(0, .agg #[Vi 2, Vi x.k, Vi x.n, .string x.s, .string x.nm, .slice A len c]), (1, .map (some fb)), (2, .map (some rb))] [] [] h a w := hJ.to (by kernel_rfl) (by kernel_rfl) rfl
        refine rx hJ false 34 [.own, .b 0 0, .b 0 4] [] (.new fun b1 => .ok (.ops [0, 0, 1, 1, 1, 0, 1, 0, 1] 3) [.seq [1, 0, 1, 1, 1, 0, 1, 0, 1], .block 0, .seq [1, 1]] [(1, .map (some fb)), (2, .map (some rb)), (3, Vp b1), (6, Vi 0), (7, Vi 0), (27, .map (some fb)), (29, .string x.nm)] [.box b1 [Vi 2, Vi x.k, Vi x.n, .string x.s, .string x.nm, .slice A len c]] []) trivial trivial (fun b1 _ => by kernel_rfl) ?_
        clear hJ a w; intro b1 a w hJ
        refine x_mapget hJ 30 (b := fb) (t := 158) (mo := (.tmp 27)) (ko := (.tmp 29)) (c := true) (es := strEs ls) (kt := 9) (et := 3) (td := .string) (key := .string x.nm) (z := Vi 0) (v := .tuple #[Vi 0, .bool false]) (r := none) (by kernel_rfl) (by kernel_rfl) (MapAt.now (hmp.sees (Sees.refl _)) hJ) (by kernel_rfl) (by kernel_rfl) Try.underlying158 Try.underlying9 (by kernel_rfl) (hl) (fun _ => by kernel_rfl) (by kernel_rfl) ?_; clear hJ a w; intro a w hJ
        refine rx hJ false 25 [] [] (.ok (.out .ret) [] [(6, Vi 0), (7, Vi 5)] [.box b1 [Vi 2, Vi x.k, Vi x.n, .string x.s, .string x.nm, .slice A len c]] []) trivial trivial (fun _ => by kernel_rfl) ?_
        clear hJ a w; intro a w hJ
        refine x_end (hQ [Vi 0, Vi 5] _ [] hJ (.rtmp hJ.j (by kernel_rfl) (.rtmp hJ.j (by kernel_rfl) .nil)) (no_own _) rfl ?_).1
        exact rfl
      | some t =>
        rw [hg] at hev hgt
        rw [hev]
        obtain ⟨i, hl⟩ := mfind_some hgt
        refine x_con Try.func121 (c := Try.f121.body.getD .skip) (by kernel_rfl) (N := 112) rfl (by kernel_rfl) ?_
        intro hbx hbad Q hQ a w hJ
        replace hJ : K ⟨112, h.w, h.bad, []⟩ [(0, .agg #[Vi 2, Vi x.k, Vi x.n, .string x.s, .string x.nm, .slice A len c]), (1, .map (some fb)), (2, .map (some rb))] [] [] h a w := hJ.to (by kernel_rfl) (by kernel_rfl) rfl
        refine rx hJ false 34 [.own, .b 0 0, .b 0 4] [] (.new fun b1 => .ok (.ops [0, 0, 1, 1, 1, 0, 1, 0, 1] 3) [.seq [1, 0, 1, 1, 1, 0, 1, 0, 1], .block 0, .seq [1, 1]] [(1, .map (some fb)), (2, .map (some rb)), (3, Vp b1), (6, Vi 0), (7, Vi 0), (27, .map (some fb)), (29, .string x.nm)] [.box b1 [Vi 2, Vi x.k, Vi x.n, .string x.s, .string x.nm, .slice A len c]] []) trivial trivial (fun b1 _ => by kernel_rfl) ?_
        clear hJ a w; intro b1 a w hJ
        refine x_mapget hJ 30 (b := fb) (t := 158) (mo := (.tmp 27)) (ko := (.tmp 29)) (c := true) (es := strEs ls) (kt := 9) (et := 3) (td := .string) (key := .string x.nm) (z := Vi 0) (v := .tuple #[Vi t, .bool true]) (r := some (i, Vi t)) (by kernel_rfl) (by kernel_rfl) (MapAt.now (hmp.sees (Sees.refl _)) hJ) (by kernel_rfl) (by kernel_rfl) Try.underlying158 Try.underlying9 (by kernel_rfl) (hl) (fun _ => by kernel_rfl) (by kernel_rfl) ?_; clear hJ a w; intro a w hJ
        refine rx hJ false 27 [] [] (.ok (.out .ret) [] [(6, Vi t), (7, Vi 0)] [.box b1 [Vi 2, Vi x.k, Vi x.n, .string x.s, .string x.nm, .slice A len c]] []) trivial trivial (fun _ => by kernel_rfl) ?_
        clear hJ a w; intro a w hJ
        refine x_end (hQ [Vi t, Vi 0] _ [] hJ (.rtmp hJ.j (by kernel_rfl) (.rtmp hJ.j (by kernel_rfl) .nil)) (no_own _) rfl ?_).1
        exact rfl
    · obtain ⟨vs, hr, hvs⟩ := hx.form
      obtain ⟨A, ca, rfl, -, -, -⟩ := hr.form
      have hvl := hvs.len
      have hrl := exRows_len hvl
      rw [hrl] at hr ⊢
      rw [if_neg (by omega), if_neg (by omega)] at hev
      rw [hev]
      have hl3 : x.args.length ≤ 3 := by rw [h7]; exact arity_le _
      generalize hL : x.args.length = len at *
      obtain ⟨es, hmp, hgt⟩ := hR
      have hRR : RulesAt h rb := ⟨es, hmp, hgt⟩
      have hgt := hgt x.op
      have htl : (tysE f x.args).length = len := by rw [tysE, List.length_map, hL]
      refine x_con Try.func121 (c := Try.f121.body.getD .skip) (by kernel_rfl) (N := 112) rfl (by kernel_rfl) ?_
      intro hbx hbad Q hQ a w hJ
      replace hJ : K ⟨112, h.w, h.bad, []⟩ [(0, .agg #[Vi x.op, Vi x.k, Vi x.n, .string x.s, .string x.nm, .slice A len ca]), (1, .map (some fb)), (2, .map (some rb))] [] [] h a w := hJ.to (by kernel_rfl) (by kernel_rfl) rfl
      replace hJ := hJ.nilrow 3 1
      refine rx hJ false 21 [.own, .b 0 0] [] (.new fun b1 => .ok (.code [1, 0, 1, 0, 1]) [.block 0, .seq [1, 1]] [(1, .map (some fb)), (2, .map (some rb)), (3, Vp b1), (6, Vi 0), (7, Vi 0), (18, Vi x.op), (19, .bool (x.op == 1))] [.box b1 [Vi x.op, Vi x.k, Vi x.n, .string x.s, .string x.nm, .slice A len ca], .row (Vz) 3 1 ([])] []) trivial trivial (fun b1 _ => by kernel_rfl) ?_
      clear hJ a w; intro b1 a w hJ
      refine x_false hJ (t := x.op == 1) (by kernel_rfl) (beq_eq_false_iff_ne.2 (by omega)) ?_
      refine rx hJ false 6 [] [] (.ok (.code [1, 1, 1, 0, 1, 0, 1]) [.block 0, .seq [1, 1]] [(1, .map (some fb)), (2, .map (some rb)), (3, Vp b1), (6, Vi 0), (7, Vi 0), (24, .bool (x.op == 2))] [.box b1 [Vi x.op, Vi x.k, Vi x.n, .string x.s, .string x.nm, .slice A len ca], .row (Vz) 3 1 ([])] []) trivial trivial (fun _ => by kernel_rfl) ?_
      clear hJ a w; intro a w hJ
      refine x_false hJ (t := x.op == 2) (by kernel_rfl) (beq_eq_false_iff_ne.2 (by omega)) ?_
      refine rx hJ false 18 [.b 0 5] [] (.ok (.code [0, 1, 0, 1, 1, 1]) [.block 1, .seq [1, 1, 1, 1]] [(1, .map (some fb)), (2, .map (some rb)), (3, Vp b1), (6, Vi 0), (7, Vi 0), (10, Vz), (37, .slice A len ca), (38, Vi (len : Int)), (39, Vi 0)] [.box b1 [Vi x.op, Vi x.k, Vi x.n, .string x.s, .string x.nm, .slice A len ca], .row (Vz) 3 1 ([])] []) trivial trivial (fun _ => by kernel_rfl) ?_
      clear hJ a w; intro a w hJ
      refine x_loop (fun (k : Nat) a w => ∃ (h2 : Vw) (v : Value), K ⟨112, h.w, h.bad, []⟩ [(1, .map (some fb)), (2, .map (some rb)), (3, Vp b1), (37, .slice A len ca), (38, Vi (len : Int)), (39, Vi (k : Int)), (10, v)] [.box b1 [Vi x.op, Vi x.k, Vi x.n, .string x.s, .string x.nm, .slice A len ca], .row v 3 1 (intRows ((tysE f x.args).take k))] [] h2 a w ∧ Sees h h2 ∧ (k ≤ len) ∧ (∀ y ∈ x.args.take k, (tyE f y).2 = 0)) (fun k => len - k) (0) (by kernel_rfl) ⟨h, (Vz), hJ.to (by kernel_rfl) (by kernel_rfl) rfl, Sees.refl _, Nat.zero_le _, (fun y hy => by simp at hy)⟩ ?_
      clear hJ a w; rintro k a w ⟨h2, v, hJ, s3, hk, hpre⟩
      refine rx hJ false 6 [] [] (.ok (.code [0, 1, 0, 0, 1, 0, 1, 1, 1]) [.seq [1, 1, 0, 0, 1, 0, 1, 1, 1]] [(1, .map (some fb)), (2, .map (some rb)), (3, Vp b1), (37, .slice A len ca), (38, Vi (len : Int)), (39, Vi (k : Int)), (10, v), (40, .bool (decide ((k : Int) < (len : Int))))] [.box b1 [Vi x.op, Vi x.k, Vi x.n, .string x.s, .string x.nm, .slice A len ca], .row v 3 1 (intRows ((tysE f x.args).take k))] []) trivial trivial (fun _ => by kernel_rfl) ?_
      clear hJ a w; intro a w hJ
      rcases (by omega : k < len ∨ len = k) with hlt | hke
      · obtain ⟨y, hy⟩ : ∃ y, x.args[k]? = some y := ⟨_, List.getElem?_eq_getElem (by omega)⟩
        obtain ⟨u, hu⟩ : ∃ u, vs[k]? = some u := ⟨_, List.getElem?_eq_getElem (by omega)⟩
        have hyu := AllArgs.get hvs hy hu
        obtain ⟨Au, nu, cu, rfl⟩ := hyu.slice
        have hrow : (exRows x.args vs)[k]? = some (exRow y (.slice Au nu cu)) := by show (List.zipWith exRow _ _)[k]? = _; rw [List.getElem?_zipWith, hy, hu]
        have hym := List.mem_of_getElem? hy
        have hcall := fun H q1 q2 q3 => IH y (.slice Au nu cu) H (by have := (szL_mem hym).1; omega) q1 (hwl.get hym) q2 q3
        have hek : (tysE f x.args)[k]? = some (tyE f y).1 := by rw [tysE, List.getElem?_map, hy]; rfl
        have htk := take_snoc' _ k _ hek
        have hxk := take_snoc' _ k _ hy
        have htn : ((tysE f x.args).take k).length = k := by rw [List.length_take, htl]; omega
        refine x_true hJ (t := decide ((k : Int) < (len : Int))) (by kernel_rfl) (decide_eq_true (by omega)) ?_
        refine rx hJ false 6 [] [] (.ok (.ops [0, 0, 0, 1, 1, 0, 0, 1, 0, 1, 1, 1] 0) [.seq [1, 0, 0, 1, 1, 0, 0, 1, 0, 1, 1, 1], .block 2, .seq [1, 1, 1, 0, 0, 1, 0, 1, 1, 1]] [(1, .map (some fb)), (2, .map (some rb)), (3, Vp b1), (37, .slice A len ca), (38, Vi (len : Int)), (39, Vi (k : Int)), (10, v), (40, .bool (decide ((k : Int) < (len : Int))))] [.box b1 [Vi x.op, Vi x.k, Vi x.n, .string x.s, .string x.nm, .slice A len ca], .row v 3 1 (intRows ((tysE f x.args).take k))] []) trivial trivial (fun _ => by kernel_rfl) ?_
        clear hJ a w; intro a w hJ
        obtain ⟨b4, o5, rfl, -, c6⟩ := RS.row hr (hrow)
        replace hJ := hJ.fact (c6.sees s3)
        refine rx hJ false 26 [.ix b4 o5 len ca k, .f 0 0, .own, .b 0 0, .b 0 0, .cl 121 #[.agg #[Vi y.op, Vi y.k, Vi y.n, .string y.s, .string y.nm, .slice Au nu cu], .map (some fb), .map (some rb)] (.tuple #[Vi ((tyE f y).1), Vi ((tyE f y).2)])] [] (.new fun b7 => .ok (.code [1, 0, 1, 1, 0, 0, 1, 1, 0, 0, 1, 0, 1, 1, 1]) [.seq [1, 1, 1, 0, 0, 1, 1, 0, 0, 1, 0, 1, 1, 1], .block 2, .seq [1, 1, 1, 0, 0, 1, 0, 1, 1, 1]] [(1, .map (some fb)), (2, .map (some rb)), (3, Vp b1), (37, .slice (some ⟨b4, o5, none⟩) len ca), (38, Vi (len : Int)), (39, Vi (k : Int)), (10, v), (40, .bool (decide ((k : Int) < (len : Int)))), (41, .pointer (some ⟨b4, o5 + k * 6, none⟩)), (42, .agg #[Vi y.op, Vi y.k, Vi y.n, .string y.s, .string y.nm, .slice Au nu cu]), (12, Vp b7), (44, .agg #[Vi y.op, Vi y.k, Vi y.n, .string y.s, .string y.nm, .slice Au nu cu]), (45, .map (some fb)), (46, .map (some rb)), (47, .tuple #[Vi ((tyE f y).1), Vi ((tyE f y).2)]), (43, .tuple #[Vi ((tyE f y).1), Vi ((tyE f y).2)]), (48, Vi ((tyE f y).1)), (49, Vi ((tyE f y).2)), (13, Vi ((tyE f y).1)), (14, Vi ((tyE f y).2)), (50, Vi ((tyE f y).2)), (51, .bool (((tyE f y).2) != 0))] [.box b7 [Vi y.op, Vi y.k, Vi y.n, .string y.s, .string y.nm, .slice Au nu cu], .box b1 [Vi x.op, Vi x.k, Vi x.n, .string x.s, .string x.nm, .slice (some ⟨b4, o5, none⟩) len ca], .row v 3 1 (intRows ((tysE f x.args).take k))] [(b4, o5 + k * 6, [Vi y.op, Vi y.k, Vi y.n, .string y.s, .string y.nm, .slice Au nu cu])]) (And.intro (by first | omega | (simp; omega)) (And.intro (fun H sH => hcall _ (hyu.sees (s3.trans sH)) (hF.sees (s3.trans sH)) (hRR.sees (s3.trans sH))) (trivial))) trivial (fun b7 _ => by kernel_rfl) ?_
        clear hJ a w; intro b7 a w hJ
        by_cases he : (tyE f y).2 = 0
        · refine x_false hJ (t := ((tyE f y).2) != 0) (by kernel_rfl) (bne_eq_false_iff_eq.2 he) ?_
          refine rx hJ true 6 [.fix] [] (.new fun b8 => .ok (.ops [1, 1, 1, 0, 0, 1, 1, 0, 0, 1, 0, 1, 1, 1] 3) [.block 2, .seq [1, 1, 1, 0, 0, 1, 0, 1, 1, 1]] [(1, .map (some fb)), (2, .map (some rb)), (3, Vp b1), (37, .slice (some ⟨b4, o5, none⟩) len ca), (38, Vi (len : Int)), (39, Vi (k : Int)), (10, v), (40, .bool (decide ((k : Int) < (len : Int)))), (41, .pointer (some ⟨b4, o5 + k * 6, none⟩)), (42, .agg #[Vi y.op, Vi y.k, Vi y.n, .string y.s, .string y.nm, .slice Au nu cu]), (12, Vp b7), (44, .agg #[Vi y.op, Vi y.k, Vi y.n, .string y.s, .string y.nm, .slice Au nu cu]), (45, .map (some fb)), (46, .map (some rb)), (47, .tuple #[Vi ((tyE f y).1), Vi ((tyE f y).2)]), (43, .tuple #[Vi ((tyE f y).1), Vi ((tyE f y).2)]), (48, Vi ((tyE f y).1)), (49, Vi ((tyE f y).2)), (13, Vi ((tyE f y).1)), (14, Vi ((tyE f y).2)), (50, Vi ((tyE f y).2)), (51, .bool (((tyE f y).2) != 0)), (53, v), (54, Vi ((tyE f y).1)), (55, Vs b8 1 1)] [.box b7 [Vi y.op, Vi y.k, Vi y.n, .string y.s, .string y.nm, .slice Au nu cu], .box b1 [Vi x.op, Vi x.k, Vi x.n, .string x.s, .string x.nm, .slice (some ⟨b4, o5, none⟩) len ca], .row v 3 1 (intRows ((tysE f x.args).take k))] [(b8, 0, [Vi ((tyE f y).1)]), (b4, o5 + k * 6, [Vi y.op, Vi y.k, Vi y.n, .string y.s, .string y.nm, .slice Au nu cu])]) trivial trivial (fun b8 _ => by kernel_rfl) ?_
          clear hJ a w; intro b8 h9 a w s10 hJ
          refine rx hJ true 9 [.ap 2 0 (intRows ((tysE f x.args).take k)) [[Vi ((tyE f y).1)]]] [(57, Vi (IntKind.i64.wrap ((k : Int) + 1)), Vi ((k : Int) + 1))] (.nv fun v56 => .ok (.out .normal) [] [(1, .map (some fb)), (2, .map (some rb)), (3, Vp b1), (37, .slice (some ⟨b4, o5, none⟩) len ca), (38, Vi (len : Int)), (40, .bool (decide ((k : Int) < (len : Int)))), (41, .pointer (some ⟨b4, o5 + k * 6, none⟩)), (42, .agg #[Vi y.op, Vi y.k, Vi y.n, .string y.s, .string y.nm, .slice Au nu cu]), (12, Vp b7), (44, .agg #[Vi y.op, Vi y.k, Vi y.n, .string y.s, .string y.nm, .slice Au nu cu]), (45, .map (some fb)), (46, .map (some rb)), (47, .tuple #[Vi ((tyE f y).1), Vi ((tyE f y).2)]), (43, .tuple #[Vi ((tyE f y).1), Vi ((tyE f y).2)]), (48, Vi ((tyE f y).1)), (49, Vi ((tyE f y).2)), (13, Vi ((tyE f y).1)), (14, Vi ((tyE f y).2)), (50, Vi ((tyE f y).2)), (51, .bool (((tyE f y).2) != 0)), (53, v), (54, Vi ((tyE f y).1)), (55, Vs b8 1 1), (56, .slice (sA v56) (sN v56) (sC v56)), (10, .slice (sA v56) (sN v56) (sC v56)), (57, Vi ((k : Int) + 1)), (39, Vi ((k : Int) + 1))] [.box b7 [Vi y.op, Vi y.k, Vi y.n, .string y.s, .string y.nm, .slice Au nu cu], .box b1 [Vi x.op, Vi x.k, Vi x.n, .string x.s, .string x.nm, .slice (some ⟨b4, o5, none⟩) len ca], .row (.slice (sA v56) (sN v56) (sC v56)) 3 1 ((intRows ((tysE f x.args).take k)) ++ [[Vi ((tyE f y).1)]])] [(b8, 0, [Vi ((tyE f y).1)]), (b4, o5 + k * 6, [Vi y.op, Vi y.k, Vi y.n, .string y.s, .string y.nm, .slice Au nu cu])]) (And.intro (by rw [List.length_map, htn]; simp; omega) (trivial)) (And.intro (i64_wrap (by omega) (by omega)) (trivial)) (fun v56 _ => by kernel_rfl) ?_
          clear hJ a w; intro v56 h11 a w s12 hJ
          replace hJ := hJ.drop 0
          exact x_round ⟨k + 1, ⟨h11, .slice (sA v56) (sN v56) (sC v56), (hJ.tof [] (F' := []) (by kernel_rfl)).to (by kernel_rfl) (by rw [htk]; simp) rfl, (s3.trans (s10.trans s12)), by omega, (fun z hz => by rw [hxk] at hz; rcases List.mem_append.1 hz with q | q; exact hpre z q; rw [List.mem_singleton.1 q]; exact he)⟩, by omega⟩
        · skip
          refine x_true hJ (t := ((tyE f y).2) != 0) (by kernel_rfl) (bne_iff_ne.2 he) ?_
          refine rx hJ false 11 [] [] (.ok (.out .ret) [] [(1, .map (some fb)), (2, .map (some rb)), (3, Vp b1), (37, .slice (some ⟨b4, o5, none⟩) len ca), (38, Vi (len : Int)), (39, Vi (k : Int)), (10, v), (40, .bool (decide ((k : Int) < (len : Int)))), (41, .pointer (some ⟨b4, o5 + k * 6, none⟩)), (42, .agg #[Vi y.op, Vi y.k, Vi y.n, .string y.s, .string y.nm, .slice Au nu cu]), (12, Vp b7), (44, .agg #[Vi y.op, Vi y.k, Vi y.n, .string y.s, .string y.nm, .slice Au nu cu]), (45, .map (some fb)), (46, .map (some rb)), (47, .tuple #[Vi ((tyE f y).1), Vi ((tyE f y).2)]), (43, .tuple #[Vi ((tyE f y).1), Vi ((tyE f y).2)]), (48, Vi ((tyE f y).1)), (49, Vi ((tyE f y).2)), (13, Vi ((tyE f y).1)), (14, Vi ((tyE f y).2)), (50, Vi ((tyE f y).2)), (51, .bool (((tyE f y).2) != 0)), (52, Vi ((tyE f y).2)), (6, Vi 0), (7, Vi ((tyE f y).2))] [.box b7 [Vi y.op, Vi y.k, Vi y.n, .string y.s, .string y.nm, .slice Au nu cu], .box b1 [Vi x.op, Vi x.k, Vi x.n, .string x.s, .string x.nm, .slice (some ⟨b4, o5, none⟩) len ca], .row v 3 1 (intRows ((tysE f x.args).take k))] [(b4, o5 + k * 6, [Vi y.op, Vi y.k, Vi y.n, .string y.s, .string y.nm, .slice Au nu cu])]) trivial trivial (fun _ => by kernel_rfl) ?_
          clear hJ a w; intro a w hJ
          refine x_leave rfl ?_
          refine rx hJ false 2 [] [] (.ok (.out .ret) [] [(6, Vi 0), (7, Vi ((tyE f y).2))] [.box b7 [Vi y.op, Vi y.k, Vi y.n, .string y.s, .string y.nm, .slice Au nu cu], .box b1 [Vi x.op, Vi x.k, Vi x.n, .string x.s, .string x.nm, .slice (some ⟨b4, o5, none⟩) len ca], .row v 3 1 (intRows ((tysE f x.args).take k))] [(b4, o5 + k * 6, [Vi y.op, Vi y.k, Vi y.n, .string y.s, .string y.nm, .slice Au nu cu])]) trivial trivial (fun _ => by kernel_rfl) ?_
          clear hJ a w; intro a w hJ
          have htE := tyL_err hy hpre he
          refine x_end (hQ [Vi 0, Vi ((tyE f y).2)] _ [] hJ (.rtmp hJ.j (by kernel_rfl) (.rtmp hJ.j (by kernel_rfl) .nil)) (no_own _) rfl ?_).1
          rw [if_neg (by rw [htE]; exact he), htE]; rfl
      · skip
        have hta : x.args.take k = x.args := List.take_of_length_le (by omega)
        have htb : (tysE f x.args).take k = (tysE f x.args) := List.take_of_length_le (by omega)
        rw [hta] at hpre
        have htE := tyL_all hpre
        rw [htb] at hJ
        rw [htE] at hev
        generalize (tysE f x.args) = tys at *
        obtain ⟨A2, c2, hE_v, hc_v, hm_v⟩ := hJ.form (v := v) (e := 3) (k := 1) (l := intRows tys) 1 (by kernel_rfl)
        rw [show (intRows tys).length = k from by first | omega | (simp; done) | (simp; omega)] at hE_v hc_v
        rw [hE_v] at hJ
        obtain ⟨h13, s14, fr, hJn⟩ := hJ.frozen (v := .slice A2 k c2) (e := 3) (k := 1) (l := intRows tys) 1 (by kernel_rfl) (hJ.j.rowOut0 (v := .slice A2 k c2) (e := 3) (k := 1) (l := intRows tys) 1 (by kernel_rfl) rfl); clear hJ; have hJ := hJn; clear hJn
        refine x_false hJ (t := decide ((k : Int) < (len : Int))) (by kernel_rfl) (decide_eq_false (by omega)) ?_
        refine rx hJ false 2 [] [] (.ok (.out (.exit 1)) [] [(1, .map (some fb)), (2, .map (some rb)), (3, Vp b1), (37, .slice A len ca), (38, Vi (len : Int)), (39, Vi (k : Int)), (10, .slice A2 k c2), (40, .bool (decide ((k : Int) < (len : Int))))] [.box b1 [Vi x.op, Vi x.k, Vi x.n, .string x.s, .string x.nm, .slice A len ca]] []) trivial trivial (fun _ => by kernel_rfl) ?_
        clear hJ a w; intro a w hJ
        refine x_leave rfl ?_
        refine rx hJ false 7 [.b 0 0] [] (.ok (.ops [0, 1, 1, 1, 1] 3) [.seq [1, 1, 1, 1, 1]] [(3, Vp b1), (10, .slice A2 k c2), (59, .map (some rb)), (61, Vi x.op)] [.box b1 [Vi x.op, Vi x.k, Vi x.n, .string x.s, .string x.nm, .slice A len ca]] []) trivial trivial (fun _ => by kernel_rfl) ?_
        clear hJ a w; intro a w hJ
        cases hru : ruleT x.op with
        | some ru =>
          obtain ⟨ta, t⟩ := ru
          rw [hru] at hgt
          obtain ⟨Ar, nr, cr, hge, hrr⟩ := hgt
          obtain ⟨i, hl⟩ := ifind_some hge
          have hq := fun H q1 q2 => equal_any tys ta (.slice A2 k c2) (.slice Ar nr cr) H q1 q2
          refine x_mapget hJ 62 (b := rb) (t := 160) (mo := (.tmp 59)) (ko := (.tmp 61)) (c := true) (es := intEs es) (kt := 3) (et := 187) (td := .int .i64) (key := Vi x.op) (z := .agg #[Vz, Vi 0]) (v := .tuple #[.agg #[.slice Ar nr cr, Vi t], .bool true]) (r := some (i, .agg #[.slice Ar nr cr, Vi t])) (by kernel_rfl) (by kernel_rfl) (MapAt.now (hmp.sees (s3.trans s14)) hJ) (by kernel_rfl) (by kernel_rfl) Try.underlying160 Try.underlying3 (by kernel_rfl) (hl) (fun _ => by kernel_rfl) (by kernel_rfl) ?_; clear hJ a w; intro a w hJ
          refine rx hJ false 22 [.own, .b 0 0, .b 0 0, .cl 81 #[.slice A2 k c2, .slice Ar nr cr] (.bool (decide (tys = ta)))] [] (.new fun b15 => .ok (.code [1, 0, 0, 1, 1, 1, 1, 1]) [.block 3, .seq [1, 1, 1, 1, 1, 1]] [(3, Vp b1), (10, .slice A2 k c2), (15, Vp b15), (16, .bool true), (65, .bool (decide (tys = ta)))] [.box b15 [.slice Ar nr cr, Vi t], .box b1 [Vi x.op, Vi x.k, Vi x.n, .string x.s, .string x.nm, .slice A len ca]] []) (And.intro (fun H sH => hq _ (fr.sees sH) (hrr.sees (s3.trans (s14.trans sH)))) (trivial)) trivial (fun b15 _ => by kernel_rfl) ?_
          clear hJ a w; intro b15 a w hJ
          by_cases e : tys = ta
          · skip
            refine x_true hJ (t := decide (tys = ta)) (by kernel_rfl) (decide_eq_true e) ?_
            refine rx hJ false 11 [.b 0 1] [] (.ok (.out .ret) [] [(6, Vi t), (7, Vi 0)] [.box b15 [.slice Ar nr cr, Vi t], .box b1 [Vi x.op, Vi x.k, Vi x.n, .string x.s, .string x.nm, .slice A len ca]] []) trivial trivial (fun _ => by kernel_rfl) ?_
            clear hJ a w; intro a w hJ
            refine x_end (hQ [Vi t, Vi 0] _ [] hJ (.rtmp hJ.j (by kernel_rfl) (.rtmp hJ.j (by kernel_rfl) .nil)) (no_own _) rfl ?_).1
            exact ret2 (by rw [htE, if_pos rfl]; unfold opTy; rw [hru]; simp [e])
          · skip
            refine x_false hJ (t := decide (tys = ta)) (by kernel_rfl) (decide_eq_false e) ?_
            refine rx hJ false 16 [] [] (.ok (.out .ret) [] [(6, Vi 0), (7, Vi 9)] [.box b15 [.slice Ar nr cr, Vi t], .box b1 [Vi x.op, Vi x.k, Vi x.n, .string x.s, .string x.nm, .slice A len ca]] []) trivial trivial (fun _ => by kernel_rfl) ?_
            clear hJ a w; intro a w hJ
            refine x_end (hQ [Vi 0, Vi 9] _ [] hJ (.rtmp hJ.j (by kernel_rfl) (.rtmp hJ.j (by kernel_rfl) .nil)) (no_own _) rfl ?_).1
            exact ret2 (by rw [htE, if_pos rfl]; unfold opTy; rw [hru]; simp [e])
        | none =>
          rw [hru] at hgt
          have hl := ifind_none hgt
          have htk : tys.length = k := by omega
          rcases rule_none h1 ho2 hru with h17 | ⟨h17, ho3, ho4⟩
          · have hk3 : k = 3 := by rw [← hke, h7, h17]; rfl
            obtain ⟨p, q, r, rfl⟩ : ∃ p q r, tys = [p, q, r] := by
              match tys, htk.trans hk3 with
              | [p, q, r], _ => exact ⟨p, q, r, rfl⟩
            have r0 : (intRows [p, q, r])[0]? = some [.int .i64 p] := rfl
            have r1 : (intRows [p, q, r])[1]? = some [.int .i64 q] := rfl
            have r2 : (intRows [p, q, r])[2]? = some [.int .i64 r] := rfl
            by_cases hp : p = 2
            · skip
              by_cases hq : q = r
              · skip
                refine x_mapget hJ 62 (b := rb) (t := 160) (mo := (.tmp 59)) (ko := (.tmp 61)) (c := true) (es := intEs es) (kt := 3) (et := 187) (td := .int .i64) (key := Vi x.op) (z := .agg #[Vz, Vi 0]) (v := .tuple #[.agg #[Vz, Vi 0], .bool false]) (r := none) (by kernel_rfl) (by kernel_rfl) (MapAt.now (hmp.sees (s3.trans s14)) hJ) (by kernel_rfl) (by kernel_rfl) Try.underlying160 Try.underlying3 (by kernel_rfl) (hl) (fun _ => by kernel_rfl) (by kernel_rfl) ?_; clear hJ a w; intro a w hJ
                refine rx hJ false 31 [.own, .b 0 0] [] (.new fun b16 => .ok (.code [0, 1, 1, 1, 1, 0, 0, 1, 1, 1, 1, 1]) [.seq [1, 1, 1, 1, 1, 0, 0, 1, 1, 1, 1, 1], .block 3, .seq [1, 1, 1, 1, 1, 1]] [(3, Vp b1), (10, .slice A2 k c2)] [.box b16 [Vz, Vi 0], .box b1 [Vi x.op, Vi x.k, Vi x.n, .string x.s, .string x.nm, .slice A len ca]] []) trivial trivial (fun b16 _ => by kernel_rfl) ?_
                clear hJ a w; intro b16 a w hJ
                obtain ⟨b17, o18, rfl, -, c19⟩ := RS.row fr (r0)
                replace hJ := hJ.fact (c19.sees (Sees.refl _))
                have c20 := RS.cell fr (r1)
                replace hJ := hJ.fact (c20.sees (Sees.refl _))
                have c21 := RS.cell fr (r2)
                replace hJ := hJ.fact (c21.sees (Sees.refl _))
                let R : Reg := ⟨⟨112, h.w, h.bad, []⟩, [(0, 78, fun gh => Vp b1), (1, 79, fun gh => Vi x.op), (2, 80, fun gh => .bool true), (3, 81, fun gh => .bool true), (4, 82, fun gh => .slice (some ⟨b17, o18, none⟩) k c2), (5, 83, fun gh => .pointer (some ⟨b17, o18 + 0 * 1, none⟩)), (6, 84, fun gh => Vi p), (7, 85, fun gh => .bool true), (8, 86, fun gh => .bool true), (9, 87, fun gh => .bool true), (10, 88, fun gh => .slice (some ⟨b17, o18, none⟩) k c2), (11, 89, fun gh => .pointer (some ⟨b17, o18 + 1 * 1, none⟩)), (12, 90, fun gh => Vi q), (13, 91, fun gh => .slice (some ⟨b17, o18, none⟩) k c2), (14, 92, fun gh => .pointer (some ⟨b17, o18 + 2 * 1, none⟩)), (15, 93, fun gh => Vi r), (16, 94, fun gh => .bool true), (17, 95, fun gh => .bool true), (18, 77, fun gh => .bool true)], [(3, Vp b1), (10, .slice (some ⟨b17, o18, none⟩) k c2)], [⟨some (.box b16 [Vz, Vi 0]), []⟩, ⟨some (.box b1 [Vi x.op, Vi x.k, Vi x.n, .string x.s, .string x.nm, .slice A len ca]), []⟩], [], [[], [0], [0, 1], [0, 1, 2], [0, 1, 2, 3], [0, 1, 2, 3, 4], [0, 1, 2, 3, 4, 5], [0, 1, 2, 3, 4, 5, 6], [0, 1, 2, 3, 4, 5, 6, 7], [0, 1, 2, 3, 4, 5, 6, 7, 8], [0, 1, 2, 3, 4, 5, 6, 7, 8, 9], [0, 1, 2, 3, 4, 5, 6, 7, 8, 9, 10], [0, 1, 2, 3, 4, 5, 6, 7, 8, 9, 10, 11], [0, 1, 2, 3, 4, 5, 6, 7, 8, 9], [0, 1, 2, 3, 4, 5, 6, 7, 8, 9, 13], [0, 1, 2, 3, 4, 5, 6, 7, 8, 9, 13, 14], [0, 1, 2, 3, 4, 5, 6, 7, 8, 9, 10, 11, 12, 13, 14, 15], [0, 1, 2, 3, 4, 5, 6, 7, 8, 9, 10, 11, 12, 13, 14, 15, 16], [0, 1, 2, 3, 4, 5, 6, 7, 8, 9, 10, 11, 12, 13, 14, 15, 16, 17]], h13⟩
                have hmono : ∀ zq ∈ R.F, ∀ zx zh zi, Sees zh zi → zq.2 zx zh → zq.2 zx zi := mono_nil
                refine x_region (by kernel_rfl) R hJ 19 [.pu, .ld 1 0, .cl, .pu, .pu, .cl, .lf 2 0, .cl, .pu, .pu, .pu, .cl, .lf 1 0, .pu, .cl, .lf 0 0, .cl, .pu, .pu] (by kernel_rfl) hmono (fun _ _ _ => by kernel_rfl) (fun hT hA => ?_) ?_
                · clear hJ
                  refine And.intro (r_pure hT hA 80 (fun gh => .bool true) [1] 2 (by kernel_rfl) (by kernel_rfl) (by kernel_rfl) (fun _ => by kernel_rfl) (fun gh w => run_eq (v0 := .bool (x.op == 17)) (by kernel_rfl) (congrArg Value.bool (beq_iff_eq.2 h17)))) ?_
                  refine And.intro (r_pure hT hA 83 (fun gh => .pointer (some ⟨b17, o18 + 0 * 1, none⟩)) [3, 4] 5 (by kernel_rfl) (by kernel_rfl) (by kernel_rfl) (fun _ => by kernel_rfl) (fun gh w => run_indexAddr (t := 58) (x := (.tmp 82)) (y := (.const (Vi 0))) (b := b17) (off := o18) (n := k) (cap := c2) (k := 0) (e := 3) (kk := 1) (by kernel_rfl) (by kernel_rfl) (by kernel_rfl) (by first | omega | (simp; omega)) Try.underlying58 (by kernel_rfl))) ?_
                  refine And.intro (r_pure hT hA 85 (fun gh => .bool true) [3, 6] 7 (by kernel_rfl) (by kernel_rfl) (by kernel_rfl) (fun _ => by kernel_rfl) (fun gh w => run_eq (v0 := .bool (p == 2)) (by kernel_rfl) (congrArg Value.bool (beq_iff_eq.2 hp)))) ?_
                  refine And.intro (r_pure hT hA 89 (fun gh => .pointer (some ⟨b17, o18 + 1 * 1, none⟩)) [9, 10] 11 (by kernel_rfl) (by kernel_rfl) (by kernel_rfl) (fun _ => by kernel_rfl) (fun gh w => run_indexAddr (t := 58) (x := (.tmp 88)) (y := (.const (Vi 1))) (b := b17) (off := o18) (n := k) (cap := c2) (k := 1) (e := 3) (kk := 1) (by kernel_rfl) (by kernel_rfl) (by kernel_rfl) (by first | omega | (simp; omega)) Try.underlying58 (by kernel_rfl))) ?_
                  refine And.intro (r_pure hT hA 92 (fun gh => .pointer (some ⟨b17, o18 + 2 * 1, none⟩)) [9, 13] 14 (by kernel_rfl) (by kernel_rfl) (by kernel_rfl) (fun _ => by kernel_rfl) (fun gh w => run_indexAddr (t := 58) (x := (.tmp 91)) (y := (.const (Vi 2))) (b := b17) (off := o18) (n := k) (cap := c2) (k := 2) (e := 3) (kk := 1) (by kernel_rfl) (by kernel_rfl) (by kernel_rfl) (by first | omega | (simp; omega)) Try.underlying58 (by kernel_rfl))) ?_
                  refine And.intro (r_pure hT hA 94 (fun gh => .bool true) [9, 12, 15] 16 (by kernel_rfl) (by kernel_rfl) (by kernel_rfl) (fun _ => by kernel_rfl) (fun gh w => run_eq (v0 := .bool (q == r)) (by kernel_rfl) (congrArg Value.bool (beq_iff_eq.2 hq)))) ?_
                  trivial
                clear hJ a w; intro gh h22 a w sR hJ1 hF; have s23 : Sees h13 h22 := sR; clear sR
                have hJ : K ⟨112, h.w, h.bad, []⟩ [(3, Vp b1), (10, .slice (some ⟨b17, o18, none⟩) k c2), (77, .bool true)] [.box b16 [Vz, Vi 0], .box b1 [Vi x.op, Vi x.k, Vi x.n, .string x.s, .string x.nm, .slice A len ca]] [(b17, o18 + 2 * 1, [Vi r]), (b17, o18 + 1 * 1, [Vi q]), (b17, o18 + 0 * 1, [Vi p])] h22 a w := hJ1.to (by kernel_rfl) (by kernel_rfl) rfl
                clear hJ1 hF hmono R
                clear gh
                refine rx hJ false 5 [] [] (.ok (.ops [0, 0, 1, 1, 1, 1, 1, 0, 0, 1, 1, 1, 1, 1] 1) [.seq [1, 0, 1, 1, 1, 1, 1, 0, 0, 1, 1, 1, 1, 1], .block 3, .seq [1, 1, 1, 1, 1, 1]] [(96, .slice (some ⟨b17, o18, none⟩) k c2)] [.box b16 [Vz, Vi 0], .box b1 [Vi x.op, Vi x.k, Vi x.n, .string x.s, .string x.nm, .slice A len ca]] [(b17, o18 + 2 * 1, [Vi r]), (b17, o18 + 1 * 1, [Vi q]), (b17, o18 + 0 * 1, [Vi p])]) trivial trivial (fun _ => by kernel_rfl) ?_
                clear hJ a w; intro a w hJ
                have c24 := RS.cell fr (r1)
                replace hJ := hJ.fact (c24.sees s23)
                refine rx hJ false 9 [.ix b17 o18 k c2 1, .f 0 0] [] (.ok (.out .ret) [] [(6, Vi q), (7, Vi 0)] [.box b16 [Vz, Vi 0], .box b1 [Vi x.op, Vi x.k, Vi x.n, .string x.s, .string x.nm, .slice A len ca]] [(b17, o18 + 1 * 1, [Vi q]), (b17, o18 + 2 * 1, [Vi r]), (b17, o18 + 1 * 1, [Vi q]), (b17, o18 + 0 * 1, [Vi p])]) (And.intro (by first | omega | (simp; omega)) (trivial)) trivial (fun _ => by kernel_rfl) ?_
                clear hJ a w; intro a w hJ
                refine x_end (hQ [Vi q, Vi 0] _ [] hJ (.rtmp hJ.j (by kernel_rfl) (.rtmp hJ.j (by kernel_rfl) .nil)) (no_own _) rfl ?_).1
                exact ret2 (by rw [htE, if_pos rfl]; unfold opTy; rw [hru]; simp [h17, hp, hq])
              · skip
                refine x_mapget hJ 62 (b := rb) (t := 160) (mo := (.tmp 59)) (ko := (.tmp 61)) (c := true) (es := intEs es) (kt := 3) (et := 187) (td := .int .i64) (key := Vi x.op) (z := .agg #[Vz, Vi 0]) (v := .tuple #[.agg #[Vz, Vi 0], .bool false]) (r := none) (by kernel_rfl) (by kernel_rfl) (MapAt.now (hmp.sees (s3.trans s14)) hJ) (by kernel_rfl) (by kernel_rfl) Try.underlying160 Try.underlying3 (by kernel_rfl) (hl) (fun _ => by kernel_rfl) (by kernel_rfl) ?_; clear hJ a w; intro a w hJ
                refine rx hJ false 31 [.own, .b 0 0] [] (.new fun b25 => .ok (.code [0, 1, 1, 1, 1, 0, 0, 1, 1, 1, 1, 1]) [.seq [1, 1, 1, 1, 1, 0, 0, 1, 1, 1, 1, 1], .block 3, .seq [1, 1, 1, 1, 1, 1]] [(3, Vp b1), (10, .slice A2 k c2)] [.box b25 [Vz, Vi 0], .box b1 [Vi x.op, Vi x.k, Vi x.n, .string x.s, .string x.nm, .slice A len ca]] []) trivial trivial (fun b25 _ => by kernel_rfl) ?_
                clear hJ a w; intro b25 a w hJ
                obtain ⟨b26, o27, rfl, -, c28⟩ := RS.row fr (r0)
                replace hJ := hJ.fact (c28.sees (Sees.refl _))
                have c29 := RS.cell fr (r1)
                replace hJ := hJ.fact (c29.sees (Sees.refl _))
                have c30 := RS.cell fr (r2)
                replace hJ := hJ.fact (c30.sees (Sees.refl _))
                let R : Reg := ⟨⟨112, h.w, h.bad, []⟩, [(0, 78, fun gh => Vp b1), (1, 79, fun gh => Vi x.op), (2, 80, fun gh => .bool true), (3, 81, fun gh => .bool true), (4, 82, fun gh => .slice (some ⟨b26, o27, none⟩) k c2), (5, 83, fun gh => .pointer (some ⟨b26, o27 + 0 * 1, none⟩)), (6, 84, fun gh => Vi p), (7, 85, fun gh => .bool true), (8, 86, fun gh => .bool true), (9, 87, fun gh => .bool true), (10, 88, fun gh => .slice (some ⟨b26, o27, none⟩) k c2), (11, 89, fun gh => .pointer (some ⟨b26, o27 + 1 * 1, none⟩)), (12, 90, fun gh => Vi q), (13, 91, fun gh => .slice (some ⟨b26, o27, none⟩) k c2), (14, 92, fun gh => .pointer (some ⟨b26, o27 + 2 * 1, none⟩)), (15, 93, fun gh => Vi r), (16, 94, fun gh => .bool false), (17, 95, fun gh => .bool false), (18, 77, fun gh => .bool false)], [(3, Vp b1), (10, .slice (some ⟨b26, o27, none⟩) k c2)], [⟨some (.box b25 [Vz, Vi 0]), []⟩, ⟨some (.box b1 [Vi x.op, Vi x.k, Vi x.n, .string x.s, .string x.nm, .slice A len ca]), []⟩], [], [[], [0], [0, 1], [0, 1, 2], [0, 1, 2, 3], [0, 1, 2, 3, 4], [0, 1, 2, 3, 4, 5], [0, 1, 2, 3, 4, 5, 6], [0, 1, 2, 3, 4, 5, 6, 7], [0, 1, 2, 3, 4, 5, 6, 7, 8], [0, 1, 2, 3, 4, 5, 6, 7, 8, 9], [0, 1, 2, 3, 4, 5, 6, 7, 8, 9, 10], [0, 1, 2, 3, 4, 5, 6, 7, 8, 9, 10, 11], [0, 1, 2, 3, 4, 5, 6, 7, 8, 9], [0, 1, 2, 3, 4, 5, 6, 7, 8, 9, 13], [0, 1, 2, 3, 4, 5, 6, 7, 8, 9, 13, 14], [0, 1, 2, 3, 4, 5, 6, 7, 8, 9, 10, 11, 12, 13, 14, 15], [0, 1, 2, 3, 4, 5, 6, 7, 8, 9, 10, 11, 12, 13, 14, 15, 16], [0, 1, 2, 3, 4, 5, 6, 7, 8, 9, 10, 11, 12, 13, 14, 15, 16, 17]], h13⟩
                have hmono : ∀ zq ∈ R.F, ∀ zx zh zi, Sees zh zi → zq.2 zx zh → zq.2 zx zi := mono_nil
                refine x_region (by kernel_rfl) R hJ 19 [.pu, .ld 1 0, .cl, .pu, .pu, .cl, .lf 2 0, .cl, .pu, .pu, .pu, .cl, .lf 1 0, .pu, .cl, .lf 0 0, .cl, .pu, .pu] (by kernel_rfl) hmono (fun _ _ _ => by kernel_rfl) (fun hT hA => ?_) ?_
                · clear hJ
                  refine And.intro (r_pure hT hA 80 (fun gh => .bool true) [1] 2 (by kernel_rfl) (by kernel_rfl) (by kernel_rfl) (fun _ => by kernel_rfl) (fun gh w => run_eq (v0 := .bool (x.op == 17)) (by kernel_rfl) (congrArg Value.bool (beq_iff_eq.2 h17)))) ?_
                  refine And.intro (r_pure hT hA 83 (fun gh => .pointer (some ⟨b26, o27 + 0 * 1, none⟩)) [3, 4] 5 (by kernel_rfl) (by kernel_rfl) (by kernel_rfl) (fun _ => by kernel_rfl) (fun gh w => run_indexAddr (t := 58) (x := (.tmp 82)) (y := (.const (Vi 0))) (b := b26) (off := o27) (n := k) (cap := c2) (k := 0) (e := 3) (kk := 1) (by kernel_rfl) (by kernel_rfl) (by kernel_rfl) (by first | omega | (simp; omega)) Try.underlying58 (by kernel_rfl))) ?_
                  refine And.intro (r_pure hT hA 85 (fun gh => .bool true) [3, 6] 7 (by kernel_rfl) (by kernel_rfl) (by kernel_rfl) (fun _ => by kernel_rfl) (fun gh w => run_eq (v0 := .bool (p == 2)) (by kernel_rfl) (congrArg Value.bool (beq_iff_eq.2 hp)))) ?_
                  refine And.intro (r_pure hT hA 89 (fun gh => .pointer (some ⟨b26, o27 + 1 * 1, none⟩)) [9, 10] 11 (by kernel_rfl) (by kernel_rfl) (by kernel_rfl) (fun _ => by kernel_rfl) (fun gh w => run_indexAddr (t := 58) (x := (.tmp 88)) (y := (.const (Vi 1))) (b := b26) (off := o27) (n := k) (cap := c2) (k := 1) (e := 3) (kk := 1) (by kernel_rfl) (by kernel_rfl) (by kernel_rfl) (by first | omega | (simp; omega)) Try.underlying58 (by kernel_rfl))) ?_
                  refine And.intro (r_pure hT hA 92 (fun gh => .pointer (some ⟨b26, o27 + 2 * 1, none⟩)) [9, 13] 14 (by kernel_rfl) (by kernel_rfl) (by kernel_rfl) (fun _ => by kernel_rfl) (fun gh w => run_indexAddr (t := 58) (x := (.tmp 91)) (y := (.const (Vi 2))) (b := b26) (off := o27) (n := k) (cap := c2) (k := 2) (e := 3) (kk := 1) (by kernel_rfl) (by kernel_rfl) (by kernel_rfl) (by first | omega | (simp; omega)) Try.underlying58 (by kernel_rfl))) ?_
                  refine And.intro (r_pure hT hA 94 (fun gh => .bool false) [9, 12, 15] 16 (by kernel_rfl) (by kernel_rfl) (by kernel_rfl) (fun _ => by kernel_rfl) (fun gh w => run_eq (v0 := .bool (q == r)) (by kernel_rfl) (congrArg Value.bool (beq_eq_false_iff_ne.2 hq)))) ?_
                  trivial
                clear hJ a w; intro gh h31 a w sR hJ1 hF; have s32 : Sees h13 h31 := sR; clear sR
                have hJ : K ⟨112, h.w, h.bad, []⟩ [(3, Vp b1), (10, .slice (some ⟨b26, o27, none⟩) k c2), (77, .bool false)] [.box b25 [Vz, Vi 0], .box b1 [Vi x.op, Vi x.k, Vi x.n, .string x.s, .string x.nm, .slice A len ca]] [(b26, o27 + 2 * 1, [Vi r]), (b26, o27 + 1 * 1, [Vi q]), (b26, o27 + 0 * 1, [Vi p])] h31 a w := hJ1.to (by kernel_rfl) (by kernel_rfl) rfl
                clear hJ1 hF hmono R
                clear gh
                refine rx hJ false 3 [] [] (.ok (.code [0, 1, 1, 1, 1, 1, 1, 0, 0, 1, 1, 1, 1, 1]) [.seq [1, 1, 1, 1, 1, 1, 1, 0, 0, 1, 1, 1, 1, 1], .block 3, .seq [1, 1, 1, 1, 1, 1]] [(3, Vp b1), (10, .slice (some ⟨b26, o27, none⟩) k c2)] [.box b25 [Vz, Vi 0], .box b1 [Vi x.op, Vi x.k, Vi x.n, .string x.s, .string x.nm, .slice A len ca]] [(b26, o27 + 2 * 1, [Vi r]), (b26, o27 + 1 * 1, [Vi q]), (b26, o27 + 0 * 1, [Vi p])]) trivial trivial (fun _ => by kernel_rfl) ?_
                clear hJ a w; intro a w hJ
                let R : Reg := ⟨⟨112, h.w, h.bad, []⟩, [(0, 100, fun gh => Vp b1), (1, 101, fun gh => Vi x.op), (2, 102, fun gh => .bool false), (3, 103, fun gh => .bool false), (4, 104, fun gh => undef), (5, 105, fun gh => undef), (6, 106, fun gh => undef), (7, 107, fun gh => undef), (8, 108, fun gh => undef), (9, 109, fun gh => undef), (10, 110, fun gh => undef), (11, 111, fun gh => .bool false), (12, 99, fun gh => .bool false)], [(3, Vp b1), (10, .slice (some ⟨b26, o27, none⟩) k c2)], [⟨some (.box b25 [Vz, Vi 0]), []⟩, ⟨some (.box b1 [Vi x.op, Vi x.k, Vi x.n, .string x.s, .string x.nm, .slice A len ca]), []⟩], [], [[], [0], [0, 1], [0, 1, 2], [0, 1, 2, 3], [0, 1, 2, 3, 4], [0, 1, 2, 3, 4, 5], [0, 1, 2, 3], [0, 1, 2, 3, 7], [0, 1, 2, 3, 7, 8], [0, 1, 2, 3, 4, 5, 6, 7, 8, 9], [0, 1, 2, 3, 4, 5, 6, 7, 8, 9, 10], [0, 1, 2, 3, 4, 5, 6, 7, 8, 9, 10, 11]], h31⟩
                have hmono : ∀ zq ∈ R.F, ∀ zx zh zi, Sees zh zi → zq.2 zx zh → zq.2 zx zi := mono_nil
                refine x_region (by kernel_rfl) R hJ 13 [.pu, .ld 1 0, .cl, .pu, .ps, .ps, .ps, .ps, .ps, .ps, .ps, .pu, .pu] (by kernel_rfl) hmono (fun _ _ _ => by kernel_rfl) (fun hT hA => ?_) ?_
                · clear hJ
                  refine And.intro (r_pure hT hA 102 (fun gh => .bool false) [1] 2 (by kernel_rfl) (by kernel_rfl) (by kernel_rfl) (fun _ => by kernel_rfl) (fun gh w => run_eq (v0 := .bool (x.op != 17)) (by kernel_rfl) (congrArg Value.bool (bne_eq_false_iff_eq.2 h17)))) ?_
                  trivial
                clear hJ a w; intro gh h33 a w sR hJ1 hF; have s34 : Sees h31 h33 := sR; clear sR
                have hJ : K ⟨112, h.w, h.bad, []⟩ [(99, .bool false)] [.box b25 [Vz, Vi 0], .box b1 [Vi x.op, Vi x.k, Vi x.n, .string x.s, .string x.nm, .slice A len ca]] [(b26, o27 + 2 * 1, [Vi r]), (b26, o27 + 1 * 1, [Vi q]), (b26, o27 + 0 * 1, [Vi p])] h33 a w := hJ1.to (by kernel_rfl) (by kernel_rfl) rfl
                clear hJ1 hF hmono R
                clear gh
                refine rx hJ false 12 [] [] (.ok (.out .ret) [] [(6, Vi 0), (7, Vi 9)] [.box b25 [Vz, Vi 0], .box b1 [Vi x.op, Vi x.k, Vi x.n, .string x.s, .string x.nm, .slice A len ca]] [(b26, o27 + 2 * 1, [Vi r]), (b26, o27 + 1 * 1, [Vi q]), (b26, o27 + 0 * 1, [Vi p])]) trivial trivial (fun _ => by kernel_rfl) ?_
                clear hJ a w; intro a w hJ
                refine x_end (hQ [Vi 0, Vi 9] _ [] hJ (.rtmp hJ.j (by kernel_rfl) (.rtmp hJ.j (by kernel_rfl) .nil)) (no_own _) rfl ?_).1
                exact ret2 (by rw [htE, if_pos rfl]; unfold opTy; rw [hru]; simp [h17, hp, hq])
            · skip
              refine x_mapget hJ 62 (b := rb) (t := 160) (mo := (.tmp 59)) (ko := (.tmp 61)) (c := true) (es := intEs es) (kt := 3) (et := 187) (td := .int .i64) (key := Vi x.op) (z := .agg #[Vz, Vi 0]) (v := .tuple #[.agg #[Vz, Vi 0], .bool false]) (r := none) (by kernel_rfl) (by kernel_rfl) (MapAt.now (hmp.sees (s3.trans s14)) hJ) (by kernel_rfl) (by kernel_rfl) Try.underlying160 Try.underlying3 (by kernel_rfl) (hl) (fun _ => by kernel_rfl) (by kernel_rfl) ?_; clear hJ a w; intro a w hJ
              refine rx hJ false 31 [.own, .b 0 0] [] (.new fun b35 => .ok (.code [0, 1, 1, 1, 1, 0, 0, 1, 1, 1, 1, 1]) [.seq [1, 1, 1, 1, 1, 0, 0, 1, 1, 1, 1, 1], .block 3, .seq [1, 1, 1, 1, 1, 1]] [(3, Vp b1), (10, .slice A2 k c2)] [.box b35 [Vz, Vi 0], .box b1 [Vi x.op, Vi x.k, Vi x.n, .string x.s, .string x.nm, .slice A len ca]] []) trivial trivial (fun b35 _ => by kernel_rfl) ?_
              clear hJ a w; intro b35 a w hJ
              obtain ⟨b36, o37, rfl, -, c38⟩ := RS.row fr (r0)
              replace hJ := hJ.fact (c38.sees (Sees.refl _))
              have c39 := RS.cell fr (r1)
              replace hJ := hJ.fact (c39.sees (Sees.refl _))
              have c40 := RS.cell fr (r2)
              replace hJ := hJ.fact (c40.sees (Sees.refl _))
              let R : Reg := ⟨⟨112, h.w, h.bad, []⟩, [(0, 78, fun gh => Vp b1), (1, 79, fun gh => Vi x.op), (2, 80, fun gh => .bool true), (3, 81, fun gh => .bool true), (4, 82, fun gh => .slice (some ⟨b36, o37, none⟩) k c2), (5, 83, fun gh => .pointer (some ⟨b36, o37 + 0 * 1, none⟩)), (6, 84, fun gh => Vi p), (7, 85, fun gh => .bool false), (8, 86, fun gh => .bool false), (9, 87, fun gh => .bool false), (10, 88, fun gh => undef), (11, 89, fun gh => undef), (12, 90, fun gh => undef), (13, 91, fun gh => undef), (14, 92, fun gh => undef), (15, 93, fun gh => undef), (16, 94, fun gh => undef), (17, 95, fun gh => .bool false), (18, 77, fun gh => .bool false)], [(3, Vp b1), (10, .slice (some ⟨b36, o37, none⟩) k c2)], [⟨some (.box b35 [Vz, Vi 0]), []⟩, ⟨some (.box b1 [Vi x.op, Vi x.k, Vi x.n, .string x.s, .string x.nm, .slice A len ca]), []⟩], [], [[], [0], [0, 1], [0, 1, 2], [0, 1, 2, 3], [0, 1, 2, 3, 4], [0, 1, 2, 3, 4, 5], [0, 1, 2, 3, 4, 5, 6], [0, 1, 2, 3, 4, 5, 6, 7], [0, 1, 2, 3, 4, 5, 6, 7, 8], [0, 1, 2, 3, 4, 5, 6, 7, 8, 9], [0, 1, 2, 3, 4, 5, 6, 7, 8, 9, 10], [0, 1, 2, 3, 4, 5, 6, 7, 8, 9, 10, 11], [0, 1, 2, 3, 4, 5, 6, 7, 8, 9], [0, 1, 2, 3, 4, 5, 6, 7, 8, 9, 13], [0, 1, 2, 3, 4, 5, 6, 7, 8, 9, 13, 14], [0, 1, 2, 3, 4, 5, 6, 7, 8, 9, 10, 11, 12, 13, 14, 15], [0, 1, 2, 3, 4, 5, 6, 7, 8, 9, 10, 11, 12, 13, 14, 15, 16], [0, 1, 2, 3, 4, 5, 6, 7, 8, 9, 10, 11, 12, 13, 14, 15, 16, 17]], h13⟩
              have hmono : ∀ zq ∈ R.F, ∀ zx zh zi, Sees zh zi → zq.2 zx zh → zq.2 zx zi := mono_nil
              refine x_region (by kernel_rfl) R hJ 19 [.pu, .ld 1 0, .cl, .pu, .pu, .cl, .lf 2 0, .cl, .pu, .pu, .ps, .ps, .ps, .ps, .ps, .ps, .ps, .pu, .pu] (by kernel_rfl) hmono (fun _ _ _ => by kernel_rfl) (fun hT hA => ?_) ?_
              · clear hJ
                refine And.intro (r_pure hT hA 80 (fun gh => .bool true) [1] 2 (by kernel_rfl) (by kernel_rfl) (by kernel_rfl) (fun _ => by kernel_rfl) (fun gh w => run_eq (v0 := .bool (x.op == 17)) (by kernel_rfl) (congrArg Value.bool (beq_iff_eq.2 h17)))) ?_
                refine And.intro (r_pure hT hA 83 (fun gh => .pointer (some ⟨b36, o37 + 0 * 1, none⟩)) [3, 4] 5 (by kernel_rfl) (by kernel_rfl) (by kernel_rfl) (fun _ => by kernel_rfl) (fun gh w => run_indexAddr (t := 58) (x := (.tmp 82)) (y := (.const (Vi 0))) (b := b36) (off := o37) (n := k) (cap := c2) (k := 0) (e := 3) (kk := 1) (by kernel_rfl) (by kernel_rfl) (by kernel_rfl) (by first | omega | (simp; omega)) Try.underlying58 (by kernel_rfl))) ?_
                refine And.intro (r_pure hT hA 85 (fun gh => .bool false) [3, 6] 7 (by kernel_rfl) (by kernel_rfl) (by kernel_rfl) (fun _ => by kernel_rfl) (fun gh w => run_eq (v0 := .bool (p == 2)) (by kernel_rfl) (congrArg Value.bool (beq_eq_false_iff_ne.2 hp)))) ?_
                trivial
              clear hJ a w; intro gh h41 a w sR hJ1 hF; have s42 : Sees h13 h41 := sR; clear sR
              have hJ : K ⟨112, h.w, h.bad, []⟩ [(3, Vp b1), (10, .slice (some ⟨b36, o37, none⟩) k c2), (77, .bool false)] [.box b35 [Vz, Vi 0], .box b1 [Vi x.op, Vi x.k, Vi x.n, .string x.s, .string x.nm, .slice A len ca]] [(b36, o37 + 2 * 1, [Vi r]), (b36, o37 + 1 * 1, [Vi q]), (b36, o37 + 0 * 1, [Vi p])] h41 a w := hJ1.to (by kernel_rfl) (by kernel_rfl) rfl
              clear hJ1 hF hmono R
              clear gh
              refine rx hJ false 3 [] [] (.ok (.code [0, 1, 1, 1, 1, 1, 1, 0, 0, 1, 1, 1, 1, 1]) [.seq [1, 1, 1, 1, 1, 1, 1, 0, 0, 1, 1, 1, 1, 1], .block 3, .seq [1, 1, 1, 1, 1, 1]] [(3, Vp b1), (10, .slice (some ⟨b36, o37, none⟩) k c2)] [.box b35 [Vz, Vi 0], .box b1 [Vi x.op, Vi x.k, Vi x.n, .string x.s, .string x.nm, .slice A len ca]] [(b36, o37 + 2 * 1, [Vi r]), (b36, o37 + 1 * 1, [Vi q]), (b36, o37 + 0 * 1, [Vi p])]) trivial trivial (fun _ => by kernel_rfl) ?_
              clear hJ a w; intro a w hJ
              let R : Reg := ⟨⟨112, h.w, h.bad, []⟩, [(0, 100, fun gh => Vp b1), (1, 101, fun gh => Vi x.op), (2, 102, fun gh => .bool false), (3, 103, fun gh => .bool false), (4, 104, fun gh => undef), (5, 105, fun gh => undef), (6, 106, fun gh => undef), (7, 107, fun gh => undef), (8, 108, fun gh => undef), (9, 109, fun gh => undef), (10, 110, fun gh => undef), (11, 111, fun gh => .bool false), (12, 99, fun gh => .bool false)], [(3, Vp b1), (10, .slice (some ⟨b36, o37, none⟩) k c2)], [⟨some (.box b35 [Vz, Vi 0]), []⟩, ⟨some (.box b1 [Vi x.op, Vi x.k, Vi x.n, .string x.s, .string x.nm, .slice A len ca]), []⟩], [], [[], [0], [0, 1], [0, 1, 2], [0, 1, 2, 3], [0, 1, 2, 3, 4], [0, 1, 2, 3, 4, 5], [0, 1, 2, 3], [0, 1, 2, 3, 7], [0, 1, 2, 3, 7, 8], [0, 1, 2, 3, 4, 5, 6, 7, 8, 9], [0, 1, 2, 3, 4, 5, 6, 7, 8, 9, 10], [0, 1, 2, 3, 4, 5, 6, 7, 8, 9, 10, 11]], h41⟩
              have hmono : ∀ zq ∈ R.F, ∀ zx zh zi, Sees zh zi → zq.2 zx zh → zq.2 zx zi := mono_nil
              refine x_region (by kernel_rfl) R hJ 13 [.pu, .ld 1 0, .cl, .pu, .ps, .ps, .ps, .ps, .ps, .ps, .ps, .pu, .pu] (by kernel_rfl) hmono (fun _ _ _ => by kernel_rfl) (fun hT hA => ?_) ?_
              · clear hJ
                refine And.intro (r_pure hT hA 102 (fun gh => .bool false) [1] 2 (by kernel_rfl) (by kernel_rfl) (by kernel_rfl) (fun _ => by kernel_rfl) (fun gh w => run_eq (v0 := .bool (x.op != 17)) (by kernel_rfl) (congrArg Value.bool (bne_eq_false_iff_eq.2 h17)))) ?_
                trivial
              clear hJ a w; intro gh h43 a w sR hJ1 hF; have s44 : Sees h41 h43 := sR; clear sR
              have hJ : K ⟨112, h.w, h.bad, []⟩ [(99, .bool false)] [.box b35 [Vz, Vi 0], .box b1 [Vi x.op, Vi x.k, Vi x.n, .string x.s, .string x.nm, .slice A len ca]] [(b36, o37 + 2 * 1, [Vi r]), (b36, o37 + 1 * 1, [Vi q]), (b36, o37 + 0 * 1, [Vi p])] h43 a w := hJ1.to (by kernel_rfl) (by kernel_rfl) rfl
              clear hJ1 hF hmono R
              clear gh
              refine rx hJ false 12 [] [] (.ok (.out .ret) [] [(6, Vi 0), (7, Vi 9)] [.box b35 [Vz, Vi 0], .box b1 [Vi x.op, Vi x.k, Vi x.n, .string x.s, .string x.nm, .slice A len ca]] [(b36, o37 + 2 * 1, [Vi r]), (b36, o37 + 1 * 1, [Vi q]), (b36, o37 + 0 * 1, [Vi p])]) trivial trivial (fun _ => by kernel_rfl) ?_
              clear hJ a w; intro a w hJ
              refine x_end (hQ [Vi 0, Vi 9] _ [] hJ (.rtmp hJ.j (by kernel_rfl) (.rtmp hJ.j (by kernel_rfl) .nil)) (no_own _) rfl ?_).1
              exact ret2 (by rw [htE, if_pos rfl]; unfold opTy; rw [hru]; simp [h17, hp])
          · skip
            have hk2 : k = 2 := by
              rw [← hke, h7]; unfold arity
              rw [if_neg (by omega), if_neg (by omega), if_neg h17]
            obtain ⟨p, q, rfl⟩ : ∃ p q, tys = [p, q] := by
              match tys, htk.trans hk2 with
              | [p, q], _ => exact ⟨p, q, rfl⟩
            have r0 : (intRows [p, q])[0]? = some [.int .i64 p] := rfl
            have r1 : (intRows [p, q])[1]? = some [.int .i64 q] := rfl
            by_cases hp : p = q
            · skip
              refine x_mapget hJ 62 (b := rb) (t := 160) (mo := (.tmp 59)) (ko := (.tmp 61)) (c := true) (es := intEs es) (kt := 3) (et := 187) (td := .int .i64) (key := Vi x.op) (z := .agg #[Vz, Vi 0]) (v := .tuple #[.agg #[Vz, Vi 0], .bool false]) (r := none) (by kernel_rfl) (by kernel_rfl) (MapAt.now (hmp.sees (s3.trans s14)) hJ) (by kernel_rfl) (by kernel_rfl) Try.underlying160 Try.underlying3 (by kernel_rfl) (hl) (fun _ => by kernel_rfl) (by kernel_rfl) ?_; clear hJ a w; intro a w hJ
              refine rx hJ false 31 [.own, .b 0 0] [] (.new fun b45 => .ok (.code [0, 1, 1, 1, 1, 0, 0, 1, 1, 1, 1, 1]) [.seq [1, 1, 1, 1, 1, 0, 0, 1, 1, 1, 1, 1], .block 3, .seq [1, 1, 1, 1, 1, 1]] [(3, Vp b1), (10, .slice A2 k c2)] [.box b45 [Vz, Vi 0], .box b1 [Vi x.op, Vi x.k, Vi x.n, .string x.s, .string x.nm, .slice A len ca]] []) trivial trivial (fun b45 _ => by kernel_rfl) ?_
              clear hJ a w; intro b45 a w hJ
              let R : Reg := ⟨⟨112, h.w, h.bad, []⟩, [(0, 78, fun gh => Vp b1), (1, 79, fun gh => Vi x.op), (2, 80, fun gh => .bool false), (3, 81, fun gh => .bool false), (4, 82, fun gh => undef), (5, 83, fun gh => undef), (6, 84, fun gh => undef), (7, 85, fun gh => undef), (8, 86, fun gh => .bool false), (9, 87, fun gh => .bool false), (10, 88, fun gh => undef), (11, 89, fun gh => undef), (12, 90, fun gh => undef), (13, 91, fun gh => undef), (14, 92, fun gh => undef), (15, 93, fun gh => undef), (16, 94, fun gh => undef), (17, 95, fun gh => .bool false), (18, 77, fun gh => .bool false)], [(3, Vp b1), (10, .slice A2 k c2)], [⟨some (.box b45 [Vz, Vi 0]), []⟩, ⟨some (.box b1 [Vi x.op, Vi x.k, Vi x.n, .string x.s, .string x.nm, .slice A len ca]), []⟩], [], [[], [0], [0, 1], [0, 1, 2], [0, 1, 2, 3], [0, 1, 2, 3, 4], [0, 1, 2, 3, 4, 5], [0, 1, 2, 3, 4, 5, 6], [0, 1, 2, 3, 4, 5, 6, 7], [0, 1, 2, 3, 4, 5, 6, 7, 8], [0, 1, 2, 3, 4, 5, 6, 7, 8, 9], [0, 1, 2, 3, 4, 5, 6, 7, 8, 9, 10], [0, 1, 2, 3, 4, 5, 6, 7, 8, 9, 10, 11], [0, 1, 2, 3, 4, 5, 6, 7, 8, 9], [0, 1, 2, 3, 4, 5, 6, 7, 8, 9, 13], [0, 1, 2, 3, 4, 5, 6, 7, 8, 9, 13, 14], [0, 1, 2, 3, 4, 5, 6, 7, 8, 9, 10, 11, 12, 13, 14, 15], [0, 1, 2, 3, 4, 5, 6, 7, 8, 9, 10, 11, 12, 13, 14, 15, 16], [0, 1, 2, 3, 4, 5, 6, 7, 8, 9, 10, 11, 12, 13, 14, 15, 16, 17]], h13⟩
              have hmono : ∀ zq ∈ R.F, ∀ zx zh zi, Sees zh zi → zq.2 zx zh → zq.2 zx zi := mono_nil
              refine x_region (by kernel_rfl) R hJ 19 [.pu, .ld 1 0, .cl, .pu, .ps, .ps, .ps, .ps, .pu, .pu, .ps, .ps, .ps, .ps, .ps, .ps, .ps, .pu, .pu] (by kernel_rfl) hmono (fun _ _ _ => by kernel_rfl) (fun hT hA => ?_) ?_
              · clear hJ
                refine And.intro (r_pure hT hA 80 (fun gh => .bool false) [1] 2 (by kernel_rfl) (by kernel_rfl) (by kernel_rfl) (fun _ => by kernel_rfl) (fun gh w => run_eq (v0 := .bool (x.op == 17)) (by kernel_rfl) (congrArg Value.bool (beq_eq_false_iff_ne.2 h17)))) ?_
                trivial
              clear hJ a w; intro gh h46 a w sR hJ1 hF; have s47 : Sees h13 h46 := sR; clear sR
              have hJ : K ⟨112, h.w, h.bad, []⟩ [(3, Vp b1), (10, .slice A2 k c2), (77, .bool false)] [.box b45 [Vz, Vi 0], .box b1 [Vi x.op, Vi x.k, Vi x.n, .string x.s, .string x.nm, .slice A len ca]] [] h46 a w := hJ1.to (by kernel_rfl) (by kernel_rfl) rfl
              clear hJ1 hF hmono R
              clear gh
              refine rx hJ false 3 [] [] (.ok (.code [0, 1, 1, 1, 1, 1, 1, 0, 0, 1, 1, 1, 1, 1]) [.seq [1, 1, 1, 1, 1, 1, 1, 0, 0, 1, 1, 1, 1, 1], .block 3, .seq [1, 1, 1, 1, 1, 1]] [(3, Vp b1), (10, .slice A2 k c2)] [.box b45 [Vz, Vi 0], .box b1 [Vi x.op, Vi x.k, Vi x.n, .string x.s, .string x.nm, .slice A len ca]] []) trivial trivial (fun _ => by kernel_rfl) ?_
              clear hJ a w; intro a w hJ
              obtain ⟨b48, o49, rfl, -, c50⟩ := RS.row fr (r0)
              replace hJ := hJ.fact (c50.sees s47)
              have c51 := RS.cell fr (r1)
              replace hJ := hJ.fact (c51.sees s47)
              let R : Reg := ⟨⟨112, h.w, h.bad, []⟩, [(0, 100, fun gh => Vp b1), (1, 101, fun gh => Vi x.op), (2, 102, fun gh => .bool true), (3, 103, fun gh => .bool true), (4, 104, fun gh => .slice (some ⟨b48, o49, none⟩) k c2), (5, 105, fun gh => .pointer (some ⟨b48, o49 + 0 * 1, none⟩)), (6, 106, fun gh => Vi p), (7, 107, fun gh => .slice (some ⟨b48, o49, none⟩) k c2), (8, 108, fun gh => .pointer (some ⟨b48, o49 + 1 * 1, none⟩)), (9, 109, fun gh => Vi q), (10, 110, fun gh => .bool true), (11, 111, fun gh => .bool true), (12, 99, fun gh => .bool true)], [(3, Vp b1), (10, .slice (some ⟨b48, o49, none⟩) k c2)], [⟨some (.box b45 [Vz, Vi 0]), []⟩, ⟨some (.box b1 [Vi x.op, Vi x.k, Vi x.n, .string x.s, .string x.nm, .slice A len ca]), []⟩], [], [[], [0], [0, 1], [0, 1, 2], [0, 1, 2, 3], [0, 1, 2, 3, 4], [0, 1, 2, 3, 4, 5], [0, 1, 2, 3], [0, 1, 2, 3, 7], [0, 1, 2, 3, 7, 8], [0, 1, 2, 3, 4, 5, 6, 7, 8, 9], [0, 1, 2, 3, 4, 5, 6, 7, 8, 9, 10], [0, 1, 2, 3, 4, 5, 6, 7, 8, 9, 10, 11]], h46⟩
              have hmono : ∀ zq ∈ R.F, ∀ zx zh zi, Sees zh zi → zq.2 zx zh → zq.2 zx zi := mono_nil
              refine x_region (by kernel_rfl) R hJ 13 [.pu, .ld 1 0, .cl, .pu, .pu, .cl, .lf 1 0, .pu, .cl, .lf 0 0, .cl, .pu, .pu] (by kernel_rfl) hmono (fun _ _ _ => by kernel_rfl) (fun hT hA => ?_) ?_
              · clear hJ
                refine And.intro (r_pure hT hA 102 (fun gh => .bool true) [1] 2 (by kernel_rfl) (by kernel_rfl) (by kernel_rfl) (fun _ => by kernel_rfl) (fun gh w => run_eq (v0 := .bool (x.op != 17)) (by kernel_rfl) (congrArg Value.bool (bne_iff_ne.2 h17)))) ?_
                refine And.intro (r_pure hT hA 105 (fun gh => .pointer (some ⟨b48, o49 + 0 * 1, none⟩)) [3, 4] 5 (by kernel_rfl) (by kernel_rfl) (by kernel_rfl) (fun _ => by kernel_rfl) (fun gh w => run_indexAddr (t := 58) (x := (.tmp 104)) (y := (.const (Vi 0))) (b := b48) (off := o49) (n := k) (cap := c2) (k := 0) (e := 3) (kk := 1) (by kernel_rfl) (by kernel_rfl) (by kernel_rfl) (by first | omega | (simp; omega)) Try.underlying58 (by kernel_rfl))) ?_
                refine And.intro (r_pure hT hA 108 (fun gh => .pointer (some ⟨b48, o49 + 1 * 1, none⟩)) [3, 7] 8 (by kernel_rfl) (by kernel_rfl) (by kernel_rfl) (fun _ => by kernel_rfl) (fun gh w => run_indexAddr (t := 58) (x := (.tmp 107)) (y := (.const (Vi 1))) (b := b48) (off := o49) (n := k) (cap := c2) (k := 1) (e := 3) (kk := 1) (by kernel_rfl) (by kernel_rfl) (by kernel_rfl) (by first | omega | (simp; omega)) Try.underlying58 (by kernel_rfl))) ?_
                refine And.intro (r_pure hT hA 110 (fun gh => .bool true) [3, 6, 9] 10 (by kernel_rfl) (by kernel_rfl) (by kernel_rfl) (fun _ => by kernel_rfl) (fun gh w => run_eq (v0 := .bool (p == q)) (by kernel_rfl) (congrArg Value.bool (beq_iff_eq.2 hp)))) ?_
                trivial
              clear hJ a w; intro gh h52 a w sR hJ1 hF; have s53 : Sees h46 h52 := sR; clear sR
              have hJ : K ⟨112, h.w, h.bad, []⟩ [(99, .bool true)] [.box b45 [Vz, Vi 0], .box b1 [Vi x.op, Vi x.k, Vi x.n, .string x.s, .string x.nm, .slice A len ca]] [(b48, o49 + 1 * 1, [Vi q]), (b48, o49 + 0 * 1, [Vi p])] h52 a w := hJ1.to (by kernel_rfl) (by kernel_rfl) rfl
              clear hJ1 hF hmono R
              clear gh
              refine rx hJ false 11 [] [] (.ok (.out .ret) [] [(6, Vi 2), (7, Vi 0)] [.box b45 [Vz, Vi 0], .box b1 [Vi x.op, Vi x.k, Vi x.n, .string x.s, .string x.nm, .slice A len ca]] [(b48, o49 + 1 * 1, [Vi q]), (b48, o49 + 0 * 1, [Vi p])]) trivial trivial (fun _ => by kernel_rfl) ?_
              clear hJ a w; intro a w hJ
              refine x_end (hQ [Vi 2, Vi 0] _ [] hJ (.rtmp hJ.j (by kernel_rfl) (.rtmp hJ.j (by kernel_rfl) .nil)) (no_own _) rfl ?_).1
              exact ret2 (by rw [htE, if_pos rfl]; unfold opTy; rw [hru]; simp [h17, hp])
            · skip
              refine x_mapget hJ 62 (b := rb) (t := 160) (mo := (.tmp 59)) (ko := (.tmp 61)) (c := true) (es := intEs es) (kt := 3) (et := 187) (td := .int .i64) (key := Vi x.op) (z := .agg #[Vz, Vi 0]) (v := .tuple #[.agg #[Vz, Vi 0], .bool false]) (r := none) (by kernel_rfl) (by kernel_rfl) (MapAt.now (hmp.sees (s3.trans s14)) hJ) (by kernel_rfl) (by kernel_rfl) Try.underlying160 Try.underlying3 (by kernel_rfl) (hl) (fun _ => by kernel_rfl) (by kernel_rfl) ?_; clear hJ a w; intro a w hJ
              refine rx hJ false 31 [.own, .b 0 0] [] (.new fun b54 => .ok (.code [0, 1, 1, 1, 1, 0, 0, 1, 1, 1, 1, 1]) [.seq [1, 1, 1, 1, 1, 0, 0, 1, 1, 1, 1, 1], .block 3, .seq [1, 1, 1, 1, 1, 1]] [(3, Vp b1), (10, .slice A2 k c2)] [.box b54 [Vz, Vi 0], .box b1 [Vi x.op, Vi x.k, Vi x.n, .string x.s, .string x.nm, .slice A len ca]] []) trivial trivial (fun b54 _ => by kernel_rfl) ?_
              clear hJ a w; intro b54 a w hJ
              let R : Reg := ⟨⟨112, h.w, h.bad, []⟩, [(0, 78, fun gh => Vp b1), (1, 79, fun gh => Vi x.op), (2, 80, fun gh => .bool false), (3, 81, fun gh => .bool false), (4, 82, fun gh => undef), (5, 83, fun gh => undef), (6, 84, fun gh => undef), (7, 85, fun gh => undef), (8, 86, fun gh => .bool false), (9, 87, fun gh => .bool false), (10, 88, fun gh => undef), (11, 89, fun gh => undef), (12, 90, fun gh => undef), (13, 91, fun gh => undef), (14, 92, fun gh => undef), (15, 93, fun gh => undef), (16, 94, fun gh => undef), (17, 95, fun gh => .bool false), (18, 77, fun gh => .bool false)], [(3, Vp b1), (10, .slice A2 k c2)], [⟨some (.box b54 [Vz, Vi 0]), []⟩, ⟨some (.box b1 [Vi x.op, Vi x.k, Vi x.n, .string x.s, .string x.nm, .slice A len ca]), []⟩], [], [[], [0], [0, 1], [0, 1, 2], [0, 1, 2, 3], [0, 1, 2, 3, 4], [0, 1, 2, 3, 4, 5], [0, 1, 2, 3, 4, 5, 6], [0, 1, 2, 3, 4, 5, 6, 7], [0, 1, 2, 3, 4, 5, 6, 7, 8], [0, 1, 2, 3, 4, 5, 6, 7, 8, 9], [0, 1, 2, 3, 4, 5, 6, 7, 8, 9, 10], [0, 1, 2, 3, 4, 5, 6, 7, 8, 9, 10, 11], [0, 1, 2, 3, 4, 5, 6, 7, 8, 9], [0, 1, 2, 3, 4, 5, 6, 7, 8, 9, 13], [0, 1, 2, 3, 4, 5, 6, 7, 8, 9, 13, 14], [0, 1, 2, 3, 4, 5, 6, 7, 8, 9, 10, 11, 12, 13, 14, 15], [0, 1, 2, 3, 4, 5, 6, 7, 8, 9, 10, 11, 12, 13, 14, 15, 16], [0, 1, 2, 3, 4, 5, 6, 7, 8, 9, 10, 11, 12, 13, 14, 15, 16, 17]], h13⟩
              have hmono : ∀ zq ∈ R.F, ∀ zx zh zi, Sees zh zi → zq.2 zx zh → zq.2 zx zi := mono_nil
              refine x_region (by kernel_rfl) R hJ 19 [.pu, .ld 1 0, .cl, .pu, .ps, .ps, .ps, .ps, .pu, .pu, .ps, .ps, .ps, .ps, .ps, .ps, .ps, .pu, .pu] (by kernel_rfl) hmono (fun _ _ _ => by kernel_rfl) (fun hT hA => ?_) ?_
              · clear hJ
                refine And.intro (r_pure hT hA 80 (fun gh => .bool false) [1] 2 (by kernel_rfl) (by kernel_rfl) (by kernel_rfl) (fun _ => by kernel_rfl) (fun gh w => run_eq (v0 := .bool (x.op == 17)) (by kernel_rfl) (congrArg Value.bool (beq_eq_false_iff_ne.2 h17)))) ?_
                trivial
              clear hJ a w; intro gh h55 a w sR hJ1 hF; have s56 : Sees h13 h55 := sR; clear sR
              have hJ : K ⟨112, h.w, h.bad, []⟩ [(3, Vp b1), (10, .slice A2 k c2), (77, .bool false)] [.box b54 [Vz, Vi 0], .box b1 [Vi x.op, Vi x.k, Vi x.n, .string x.s, .string x.nm, .slice A len ca]] [] h55 a w := hJ1.to (by kernel_rfl) (by kernel_rfl) rfl
              clear hJ1 hF hmono R
              clear gh
              refine rx hJ false 3 [] [] (.ok (.code [0, 1, 1, 1, 1, 1, 1, 0, 0, 1, 1, 1, 1, 1]) [.seq [1, 1, 1, 1, 1, 1, 1, 0, 0, 1, 1, 1, 1, 1], .block 3, .seq [1, 1, 1, 1, 1, 1]] [(3, Vp b1), (10, .slice A2 k c2)] [.box b54 [Vz, Vi 0], .box b1 [Vi x.op, Vi x.k, Vi x.n, .string x.s, .string x.nm, .slice A len ca]] []) trivial trivial (fun _ => by kernel_rfl) ?_
              clear hJ a w; intro a w hJ
              obtain ⟨b57, o58, rfl, -, c59⟩ := RS.row fr (r0)
              replace hJ := hJ.fact (c59.sees s56)
              have c60 := RS.cell fr (r1)
              replace hJ := hJ.fact (c60.sees s56)
              let R : Reg := ⟨⟨112, h.w, h.bad, []⟩, [(0, 100, fun gh => Vp b1), (1, 101, fun gh => Vi x.op), (2, 102, fun gh => .bool true), (3, 103, fun gh => .bool true), (4, 104, fun gh => .slice (some ⟨b57, o58, none⟩) k c2), (5, 105, fun gh => .pointer (some ⟨b57, o58 + 0 * 1, none⟩)), (6, 106, fun gh => Vi p), (7, 107, fun gh => .slice (some ⟨b57, o58, none⟩) k c2), (8, 108, fun gh => .pointer (some ⟨b57, o58 + 1 * 1, none⟩)), (9, 109, fun gh => Vi q), (10, 110, fun gh => .bool false), (11, 111, fun gh => .bool false), (12, 99, fun gh => .bool false)], [(3, Vp b1), (10, .slice (some ⟨b57, o58, none⟩) k c2)], [⟨some (.box b54 [Vz, Vi 0]), []⟩, ⟨some (.box b1 [Vi x.op, Vi x.k, Vi x.n, .string x.s, .string x.nm, .slice A len ca]), []⟩], [], [[], [0], [0, 1], [0, 1, 2], [0, 1, 2, 3], [0, 1, 2, 3, 4], [0, 1, 2, 3, 4, 5], [0, 1, 2, 3], [0, 1, 2, 3, 7], [0, 1, 2, 3, 7, 8], [0, 1, 2, 3, 4, 5, 6, 7, 8, 9], [0, 1, 2, 3, 4, 5, 6, 7, 8, 9, 10], [0, 1, 2, 3, 4, 5, 6, 7, 8, 9, 10, 11]], h55⟩
              have hmono : ∀ zq ∈ R.F, ∀ zx zh zi, Sees zh zi → zq.2 zx zh → zq.2 zx zi := mono_nil
              refine x_region (by kernel_rfl) R hJ 13 [.pu, .ld 1 0, .cl, .pu, .pu, .cl, .lf 1 0, .pu, .cl, .lf 0 0, .cl, .pu, .pu] (by kernel_rfl) hmono (fun _ _ _ => by kernel_rfl) (fun hT hA => ?_) ?_
              · clear hJ
                refine And.intro (r_pure hT hA 102 (fun gh => .bool true) [1] 2 (by kernel_rfl) (by kernel_rfl) (by kernel_rfl) (fun _ => by kernel_rfl) (fun gh w => run_eq (v0 := .bool (x.op != 17)) (by kernel_rfl) (congrArg Value.bool (bne_iff_ne.2 h17)))) ?_
                refine And.intro (r_pure hT hA 105 (fun gh => .pointer (some ⟨b57, o58 + 0 * 1, none⟩)) [3, 4] 5 (by kernel_rfl) (by kernel_rfl) (by kernel_rfl) (fun _ => by kernel_rfl) (fun gh w => run_indexAddr (t := 58) (x := (.tmp 104)) (y := (.const (Vi 0))) (b := b57) (off := o58) (n := k) (cap := c2) (k := 0) (e := 3) (kk := 1) (by kernel_rfl) (by kernel_rfl) (by kernel_rfl) (by first | omega | (simp; omega)) Try.underlying58 (by kernel_rfl))) ?_
                refine And.intro (r_pure hT hA 108 (fun gh => .pointer (some ⟨b57, o58 + 1 * 1, none⟩)) [3, 7] 8 (by kernel_rfl) (by kernel_rfl) (by kernel_rfl) (fun _ => by kernel_rfl) (fun gh w => run_indexAddr (t := 58) (x := (.tmp 107)) (y := (.const (Vi 1))) (b := b57) (off := o58) (n := k) (cap := c2) (k := 1) (e := 3) (kk := 1) (by kernel_rfl) (by kernel_rfl) (by kernel_rfl) (by first | omega | (simp; omega)) Try.underlying58 (by kernel_rfl))) ?_
                refine And.intro (r_pure hT hA 110 (fun gh => .bool false) [3, 6, 9] 10 (by kernel_rfl) (by kernel_rfl) (by kernel_rfl) (fun _ => by kernel_rfl) (fun gh w => run_eq (v0 := .bool (p == q)) (by kernel_rfl) (congrArg Value.bool (beq_eq_false_iff_ne.2 hp)))) ?_
                trivial
              clear hJ a w; intro gh h61 a w sR hJ1 hF; have s62 : Sees h55 h61 := sR; clear sR
              have hJ : K ⟨112, h.w, h.bad, []⟩ [(99, .bool false)] [.box b54 [Vz, Vi 0], .box b1 [Vi x.op, Vi x.k, Vi x.n, .string x.s, .string x.nm, .slice A len ca]] [(b57, o58 + 1 * 1, [Vi q]), (b57, o58 + 0 * 1, [Vi p])] h61 a w := hJ1.to (by kernel_rfl) (by kernel_rfl) rfl
              clear hJ1 hF hmono R
              clear gh
              refine rx hJ false 12 [] [] (.ok (.out .ret) [] [(6, Vi 0), (7, Vi 9)] [.box b54 [Vz, Vi 0], .box b1 [Vi x.op, Vi x.k, Vi x.n, .string x.s, .string x.nm, .slice A len ca]] [(b57, o58 + 1 * 1, [Vi q]), (b57, o58 + 0 * 1, [Vi p])]) trivial trivial (fun _ => by kernel_rfl) ?_
              clear hJ a w; intro a w hJ
              refine x_end (hQ [Vi 0, Vi 9] _ [] hJ (.rtmp hJ.j (by kernel_rfl) (.rtmp hJ.j (by kernel_rfl) .nil)) (no_own _) rfl ?_).1
              exact ret2 (by rw [htE, if_pos rfl]; unfold opTy; rw [hru]; simp [h17, hp])

end Go.Proofs.Ytgjndkphfabnnaa
