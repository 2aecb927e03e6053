/-
  Contracts of package value: Check at values that may not be, Show, Parse.
-/
import Derived.Test.YthplkompdehjlaaGreatDoorGo
import Derived.Test.YthplkompdehjlaaGreatDoorShowP
import Derived.Test.YthplkompdehjlaaGreatDoorRow
import Derived.Test.YthplkompdehjlaaGreatDoorShelf
import Derived.Lib.LaidTab
import Derived.Lib.ItoaLen
import Derived.Lib.IndexBytes
namespace Go.Proofs.YthplkompdehjlaaGreatDoor
open Go.RowKit Go.Sort
set_option linter.unusedVariables false

/-! ### What Go's library reads -/
structure Lk (h : Vw) : Prop where
  mx : ∃ m, Cells h 0 0 [.int .i64 m]
  tl : 3 < h.w.heap.size
  tn : 3 ∉ h.bad
  tb : Lib.TabIs Tryz.prog h.w "internal/strconv.uint64pow10" .u64 Lib.pow10Tab
  sy : ∃ e, Cells h 4 0 [e] ∧ (e = .nilIface ∨ ∃ t p, e = .iface t p)
  rg : ∃ e, Cells h 5 0 [e] ∧ (e = .nilIface ∨ ∃ t p, e = .iface t p)
theorem gTab : Tryz.prog.globalNamed "internal/strconv.uint64pow10" = some 3 := by kernel_rfl
theorem Lk.sees {h h' : Vw} (l : Lk h) (s : Sees h h') : Lk h' := by
  obtain ⟨⟨m, h1⟩, h2, h3, h4, ⟨e, h5, h6⟩, ⟨f, h7, h8⟩⟩ := l
  refine ⟨⟨m, h1.sees s⟩, Nat.lt_of_lt_of_le h2 s.size, fun k => h3 (s.bad _ k h2), ?_, ⟨e, h5.sees s, h6⟩, ⟨f, h7.sees s, h8⟩⟩
  have hb := s.block _ h2 h3
  unfold Lib.TabIs World.var? at h4 ⊢
  rw [gTab] at h4 ⊢
  simp only [Option.bind_some] at h4 ⊢
  rw [hb]; exact h4
theorem Cells.one {h : Vw} {b : Nat} {v : Value} (c : Cells h b 0 [v]) : h.w.cell? ⟨b, 0, none⟩ = some v := by
  have := c.lies 0 v rfl
  simpa using this
theorem C0.at_ {f : FuncId} {args : Array Value} {v : Value} {h : Vw} (hc : Calls Tryz.prog f args h.w fun e w' => e = .returned v ∧ Below h.w.heap.size h.w w') : C0 Tryz.prog f args h (fun r _ => r = v) := by
  intro _ _ _ _
  refine hc.mono ?_
  rintro e w' ⟨rfl, hb⟩
  exact ⟨_, [], rfl, Low.of_below hb, (fun x hx => by cases hx), rfl, rfl⟩

/-! ### Go's library -/
theorem below_gd (w : World) (k : Nat) (os : Array Obj) : Below w.heap.size w (grow (w.drewN k) os) := by
  refine ⟨rfl, rfl, rfl, by simp [grow], fun j hj => ?_⟩
  show (w.heap ++ os)[j]? = _
  rw [Array.getElem?_append_left hj]
theorem c_itoa (n : Int) (h : Vw) (l : Lk h) (h0 : -9223372036854775808 ≤ n) (h1 : n ≤ 9223372036854775807) : C0 Tryz.prog 82 #[.int .i64 n] h (fun r _ => r = .string ⟨(Lib.itoa n).toArray⟩) :=
  C0.at_ ((Tryz.strconv_Itoa n h0 h1 h.w l.tb).mono fun e w' ⟨he, k, os, hw⟩ => ⟨he, by subst hw; exact below_gd _ _ _⟩)
theorem c_fmt (b : Bool) (h : Vw) : C0 Tryz.prog 83 #[.bool b] h (fun r _ => r = .string (if b then btrue else bfalse)) :=
  C0.at_ ((Tryz.strconv_FormatBool b h.w).mono fun e w' ⟨he, hw⟩ => ⟨by rw [he]; cases b <;> rfl, by rw [hw]; exact Below.refl _ _⟩)
theorem c_pre (s : ByteArray) (c : UInt8) (h : Vw) : C0 Tryz.prog 18 #[.string s, .string ⟨#[c]⟩] h (fun r _ => r = .bool (Lib.hasPrefix s.data.toList [c])) :=
  C0.at_ ((Tryz.strings_HasPrefix s ⟨#[c]⟩ h.w).mono fun e w' ⟨he, hw⟩ => ⟨he, by rw [hw]; exact Below.refl _ _⟩)
theorem c_rep (s old new : ByteArray) (h : Vw) (l : Lk h) (hs : s.size ≤ 1000) (h1 : 1 ≤ old.size) (h2 : Lib.countB s old * new.size ≤ 1000000) : C0 Tryz.prog 84 #[.string s, .string old, .string new] h (fun r _ => r = .string ⟨(Lib.replaceAll s.data.toList old.data.toList new.data.toList).toArray⟩) := by
  obtain ⟨m, hm⟩ := l.mx
  exact C0.at_ ((Tryz.strings_ReplaceAll s old new m h.w (by omega) hm.one h1 (by omega)).mono fun e w' h => h)
theorem c_atoi (s : ByteArray) (h : Vw) (l : Lk h) (hs : s.size ≤ 281474976710656) : C0 Tryz.prog 143 #[.string s] h (fun r _ => ∃ u, r = .tuple #[.int .i64 (atoiN s.data.toList), u]) := by
  unfold atoiN
  have key : ∀ (x : Int), (Calls Tryz.prog 143 #[.string s] h.w fun e w' => (∃ u, e = .returned (.tuple #[.int .i64 x, u])) ∧ Below h.w.heap.size h.w w') → C0 Tryz.prog 143 #[.string s] h (fun r _ => ∃ u, r = .tuple #[.int .i64 x, u]) := by
    intro x hc _ _ _ _
    refine hc.mono ?_
    rintro e w' ⟨⟨u, rfl⟩, hb⟩
    exact ⟨_, [], rfl, Low.of_below hb, (fun x hx => by cases hx), rfl, u, rfl⟩
  rcases atoi_ends s.data.toList with ⟨v, hq⟩ | hq | hq
  · rw [hq]
    refine key v ((Tryz.strconv_Atoi_ok s (by omega) v hq h.w).mono ?_)
    rintro e w' ⟨rfl, hw⟩
    refine ⟨⟨_, rfl⟩, ?_⟩
    rcases hw with rfl | ⟨t, rfl⟩
    · exact Below.refl _ _
    · exact Lib.bytesWorld_below _ _ _
  · obtain ⟨ev, hv, hev⟩ := l.sy
    rw [hq]
    refine key 0 ((Any.strconv_Atoi_syntax Tryz.laysC172 s hs hq ev h.w hv.one hev).mono ?_)
    rintro e w' ⟨N, rfl, -, -, hb⟩
    exact ⟨⟨_, rfl⟩, hb⟩
  · obtain ⟨ev, hv, hev⟩ := l.rg
    rw [hq]
    refine key _ ((Tryz.strconv_Atoi_range s hs hq ev h.w hv.one hev).mono ?_)
    rintro e w' ⟨N, rfl, -, -, hb⟩
    exact ⟨⟨_, rfl⟩, hb⟩
theorem pre_yes {s : ByteArray} {c : UInt8} {r : List UInt8} (h : s.data.toList = c :: r) (d : UInt8) : Lib.hasPrefix s.data.toList [d] = (d == c) := by
  rw [h]
  by_cases e : d = c
  · subst e; simp [Lib.hasPrefix, List.isPrefixOf]
  · have e1 : (d == c) = false := beq_eq_false_iff_ne.2 e
    rw [e1]; simp [Lib.hasPrefix, List.isPrefixOf, e1]
theorem pre_no {s : ByteArray} (h : s.data.toList = []) (d : UInt8) : Lib.hasPrefix s.data.toList [d] = false := by rw [h]; rfl

/-! ### A sign of a text; a text of bytes -/
theorem run_sidx {o : Oper} {ρ : Operand → Value} {t : TypeId} {x y : Operand} {s : ByteArray} {i : Nat} {P : Program} {w : World} (ho : o.op = .index t x y) (hx : ρ x = .string s) (hy : ρ y = .int .i64 (i : Int)) (ht : P.underlying t = some .string) (hi : i < s.size) :
    (execOp ρ o).run P w = .ok (.value (.int .u8 (s[i].toNat : Int))) w := by
  unfold execOp
  simp only [ho, hx, hy, Sem.run_bind]
  rw [run_index_string w t s .i64 i ht, dif_pos (by omega)]
  simp [Sem.run_pure]
/-- Bytes as rows. -/
abbrev byRows (l : List UInt8) : List (List Value) := l.map fun c => [.int .u8 (c.toNat : Int)]
theorem run_textr {o : Oper} {ρ : Operand → Value} {src dst e : TypeId} {x : Operand} {v : Value} {l : List UInt8} {P : Program} {w : World} {h : Vw} {bd : List Nat} (ho : o.op = .convert src dst x) (hx : ρ x = v) (hs : P.underlying src = some (.slice e)) (he : P.underlying e = some (.int .u8)) (hd : P.underlying dst = some .string)
    (hr : RS h 1 v (byRows l)) (s : Sees h ⟨w, bd⟩) : (execOp ρ o).run P w = .ok (.value (.string ⟨l.toArray⟩)) w := by
  have hr' := hr.sees s
  unfold execOp
  simp only [ho, hx, Sem.run_bind]
  rcases hr' with ⟨A, cap, rfl, hA, -, hl⟩ | ⟨b, off, cap, rfl, -, -, -, -, hc⟩
  · obtain rfl : l = [] := by simpa using hl
    cases A with
    | none => rw [run_convert_bytes_nil w src e hs he 0 cap dst hd]; rfl
    | some a =>
      have := run_convert_bytes_back w src dst e a cap [] hs he hd (fun j hj => absurd hj (Nat.not_lt_zero _))
      simp only [List.length_nil] at this
      rw [this]; simp [Sem.run_pure]
  · rw [List.length_map]
    rw [run_convert_bytes_back w src dst e ⟨b, off, none⟩ cap l hs he hd (fun j hj => by
      have := hc j [.int .u8 (l[j].toNat : Int)] (by rw [List.getElem?_map, List.getElem?_eq_getElem hj]; rfl) 0 _ rfl
      rw [show ((⟨b, off, none⟩ : Addr).add j) = ⟨b, off + j * 1 + 0, none⟩ from by unfold Addr.add; split <;> simp_all]; exact this)]
    simp [Sem.run_pure]

theorem byRows_snoc (l : List UInt8) (c : UInt8) : byRows (l ++ [c]) = byRows l ++ [[.int .u8 (c.toNat : Int)]] := by simp [byRows]
set_option maxRecDepth 100000 in
theorem unq_any (s : ByteArray) (h : Vw) (hs : s.size ≤ 140737488351232) : C0 Tryz.prog 144 #[.string s] h (fun r _ => r = .string ⟨(unqS s).toArray⟩) := by
  refine g_con Tryz.func144 (c := Tryz.f144.body.getD .skip) (N := 33) ?_
  intro hbx hbad Q hQ
  refine g_nilrow 5 1 ?_
  refine go0 17 [] [] ?_
  refine g_loop [0, 1, 0, 1, 1] [.block 0, .seq [1, 1, 1]] (fun (k : Nat) X => ∃ (W1 : Vw) (v : Value) (out : List UInt8), X W1 [(0, .string s), (4, Vi (k : Int)), (3, v)] [.row v 5 1 (byRows out)] [] ∧ Sees h W1 ∧ (out.length + 1 ≤ k) ∧ (out ++ unqL (betw s k) = unqS s)) (fun k => s.size - k) (1) (fun X q => ⟨h, (Vz), [], q _ _ _ _ ⟨rfl, by kernel_rfl⟩, Sees.refl _, Nat.le_refl _, rfl⟩) ?_
  rintro k a w ⟨W1, v, out, hJ, S2, ho, hq⟩; refine g_of hJ ?_; clear hJ a w
  refine go0 10 [] [(8, Vi (IntKind.i64.wrap ((s.size : Int) - 1)), Vi ((s.size : Int) - 1))] ?_ (hc := (And.intro (i64_wrap (by omega) (by omega)) (trivial)))
  rcases (by omega : k + 1 < s.size ∨ s.size ≤ k + 1) with hlt | hke
  · have wr1 : Value.int .i64 (IntKind.i64.wrap ((k : Int) + 1)) = .int .i64 ((k + 1 : Nat) : Int) := by rw [i64_wrap (by omega) (by omega)]; rfl
    refine g_true (t := decide ((k : Int) < ((s.size : Int) - 1))) (decide_eq_true (by omega)) ?_
    refine go0 9 [] [] ?_
    refine g_pure (.int .u8 (s[k].toNat : Int)) (fun w => run_sidx (x := (.tmp 12)) (y := (.tmp 13)) (t := 9) (s := s) (i := k) (by kernel_rfl) (by kernel_rfl) (by kernel_rfl) Tryz.underlying9 ((by omega))) ?_
    refine go0 2 [] [] ?_
    by_cases h92 : s[k] = 92
    · refine g_rew 16 (v := .bool ((s[k].toNat : Int) == 92)) (v' := .bool true) (congrArg Value.bool (by rw [h92]; rfl)) ?_
      by_cases h2 : k + 2 < s.size
      · skip
        refine go0 19 [] [(20, Vi (IntKind.i64.wrap ((s.size : Int) - 2)), Vi ((s.size : Int) - 2)), (21, .bool (decide ((k : Int) < ((s.size : Int) - 2))), .bool true), (24, Vi (IntKind.i64.wrap ((k : Int) + 1)), Vi ((k + 1 : Nat) : Int))] ?_ (hc := (And.intro (i64_wrap (by omega) (by omega)) (And.intro (congrArg Value.bool (decide_eq_true (by omega))) (And.intro (wr1) (trivial)))))
        refine g_pure (.int .u8 (s[k + 1].toNat : Int)) (fun w => run_sidx (x := (.tmp 26)) (y := (.tmp 27)) (t := 9) (s := s) (i := k + 1) (by kernel_rfl) (by kernel_rfl) (by kernel_rfl) Tryz.underlying9 ((by omega))) ?_
        refine gov1 1 [.fix] [] ?_
        intro b3 W4 S5
        refine g_append 0 0 (v := v) (kk := 1) (t := 90) (te := 5) (l := (byRows out)) (ns := [[.int .u8 (s[k + 1].toNat : Int)]]) (b := b3) (m := 1) (c := 1) (y := (.tmp 25)) (z := (.tmp 29)) (zv := .int .u8 0) (bytes := 1) (by kernel_rfl) Tryz.underlying90 (by kernel_rfl) (by kernel_rfl) (by simp; omega) ?_; intro v30 W6 S7
        refine go0 9 [] [(11, Vi (IntKind.i64.wrap (((k + 1 : Nat) : Int) + 1)), Vi (((k + 1 : Nat) : Int) + 1))] ?_ (hc := (And.intro (i64_wrap (by omega) (by omega)) (trivial)))
        refine g_is [(0, .string s), (3, .slice (sA v30) (sN v30) (sC v30)), (4, Vi (((k + 1 : Nat) : Int) + 1))] [.row (.slice (sA v30) (sN v30) (sC v30)) 5 1 ((byRows out) ++ [[.int .u8 (s[k + 1].toNat : Int)]])] [] ?_
        exact g_round (k + 2) (fun X q => ⟨W6, .slice (sA v30) (sN v30) (sC v30), out ++ [s[k + 1]], q _ _ _ _ (says_ents (by rw [byRows_snoc])), (S2.trans (S5.trans S7)), by simp; omega, by rw [← hq, unq_skip s k h2 h92]; simp⟩) (by omega)
      · skip
        refine go0 15 [] [(20, Vi (IntKind.i64.wrap ((s.size : Int) - 2)), Vi ((s.size : Int) - 2)), (21, .bool (decide ((k : Int) < ((s.size : Int) - 2))), .bool false)] ?_ (hc := (And.intro (i64_wrap (by omega) (by omega)) (And.intro (congrArg Value.bool (decide_eq_false (by omega))) (trivial))))
        refine g_pure (.int .u8 (s[k].toNat : Int)) (fun w => run_sidx (x := (.tmp 26)) (y := (.tmp 27)) (t := 9) (s := s) (i := k) (by kernel_rfl) (by kernel_rfl) (by kernel_rfl) Tryz.underlying9 ((by omega))) ?_
        refine gov1 1 [.fix] [] ?_
        intro b8 W9 S10
        refine g_append 0 0 (v := v) (kk := 1) (t := 90) (te := 5) (l := (byRows out)) (ns := [[.int .u8 (s[k].toNat : Int)]]) (b := b8) (m := 1) (c := 1) (y := (.tmp 25)) (z := (.tmp 29)) (zv := .int .u8 0) (bytes := 1) (by kernel_rfl) Tryz.underlying90 (by kernel_rfl) (by kernel_rfl) (by simp; omega) ?_; intro v30 W11 S12
        refine go0 9 [] [(11, Vi (IntKind.i64.wrap ((k : Int) + 1)), Vi ((k : Int) + 1))] ?_ (hc := (And.intro (i64_wrap (by omega) (by omega)) (trivial)))
        refine g_is [(0, .string s), (3, .slice (sA v30) (sN v30) (sC v30)), (4, Vi ((k : Int) + 1))] [.row (.slice (sA v30) (sN v30) (sC v30)) 5 1 ((byRows out) ++ [[.int .u8 (s[k].toNat : Int)]])] [] ?_
        exact g_round (k + 1) (fun X q => ⟨W11, .slice (sA v30) (sN v30) (sC v30), out ++ [s[k]], q _ _ _ _ (says_ents (by rw [byRows_snoc])), (S2.trans (S10.trans S12)), by simp; omega, by rw [← hq, unq_one s k hlt (.inr (by omega))]; simp⟩) (by omega)
    · skip
      have n92 : ((s[k].toNat : Int) == 92) = false := beq_eq_false_iff_ne.2 (fun q => h92 (UInt8.toNat_inj.1 (show s[k].toNat = 92 by omega)))
      refine g_rew 16 (v := .bool ((s[k].toNat : Int) == 92)) (v' := .bool false) (congrArg Value.bool n92) ?_
      refine go0 15 [] [] ?_
      refine g_pure (.int .u8 (s[k].toNat : Int)) (fun w => run_sidx (x := (.tmp 26)) (y := (.tmp 27)) (t := 9) (s := s) (i := k) (by kernel_rfl) (by kernel_rfl) (by kernel_rfl) Tryz.underlying9 ((by omega))) ?_
      refine gov1 1 [.fix] [] ?_
      intro b13 W14 S15
      refine g_append 0 0 (v := v) (kk := 1) (t := 90) (te := 5) (l := (byRows out)) (ns := [[.int .u8 (s[k].toNat : Int)]]) (b := b13) (m := 1) (c := 1) (y := (.tmp 25)) (z := (.tmp 29)) (zv := .int .u8 0) (bytes := 1) (by kernel_rfl) Tryz.underlying90 (by kernel_rfl) (by kernel_rfl) (by simp; omega) ?_; intro v30 W16 S17
      refine go0 9 [] [(11, Vi (IntKind.i64.wrap ((k : Int) + 1)), Vi ((k : Int) + 1))] ?_ (hc := (And.intro (i64_wrap (by omega) (by omega)) (trivial)))
      refine g_is [(0, .string s), (3, .slice (sA v30) (sN v30) (sC v30)), (4, Vi ((k : Int) + 1))] [.row (.slice (sA v30) (sN v30) (sC v30)) 5 1 ((byRows out) ++ [[.int .u8 (s[k].toNat : Int)]])] [] ?_
      exact g_round (k + 1) (fun X q => ⟨W16, .slice (sA v30) (sN v30) (sC v30), out ++ [s[k]], q _ _ _ _ (says_ents (by rw [byRows_snoc])), (S2.trans (S15.trans S17)), by simp; omega, by rw [← hq, unq_one s k hlt (.inl h92)]; simp⟩) (by omega)
  · skip
    rw [betw_end s k hke, unqL, List.append_nil] at hq
    refine g_false (t := decide ((k : Int) < ((s.size : Int) - 1))) (decide_eq_false (by omega)) ?_
    refine go0 2 [] [] ?_
    refine g_leave ?_
    refine go0 5 [] [] ?_
    refine g_freeze 0 (v := v) (e := 5) (kk := 1) (l := byRows out) ?_; intro W18 S19 fr
    refine g_purew (.string ⟨(out).toArray⟩) (fun a w hJ => run_textr (src := 90) (dst := 9) (x := (.tmp 31)) (v := v) (l := out) (by kernel_rfl) (by kernel_rfl) Tryz.underlying90 Tryz.underlying5 Tryz.underlying9 ((fr.sees hJ.j.sees)) (Sees.refl _)) ?_
    refine go0 4 [] [] ?_
    refine hQ.to [.string ⟨(out).toArray⟩] (fun H sH => ?_)
    exact congrArg (fun l : List UInt8 => Value.string ⟨l.toArray⟩) hq

/-! ### Check -/
theorem ck_int (n : Int) (h : Vw) (hn : n < -1099511627776 ∨ 1099511627776 < n) : C0 Tryz.prog 81 #[.agg #[.int .i64 1, .int .i64 n, .string ⟨#[]⟩]] h (fun r _ => r = .int .i64 7) := by
  have hc := fun H => C0.of_same (fun w => check_over n w hn) H
  refine g_con Tryz.func81 (c := Tryz.f81.body.getD .skip) (N := 50) ?_
  intro hbx hbad Q hQ
  refine go1 45 [.own, .b 0 0, .b 0 1, .cl 116 #[Vi n] (Vi 7)] [] ?_ (ho := (And.intro (fun H sH => hc _) (trivial)))
  intro b1
  refine hQ.to [Vi 7] (fun H sH => ?_)
  exact rfl
theorem ck_pend (h : Vw) : C0 Tryz.prog 81 #[.agg #[.int .i64 4, .int .i64 0, .string ⟨#[]⟩]] h (fun v _ => v = .int .i64 0) := by
  refine g_con Tryz.func81 (c := Tryz.f81.body.getD .skip) (N := 50) ?_
  intro hbx hbad Q hQ
  refine go1 70 [.own, .b 0 0, .b 0 1, .b 0 2] [] ?_
  intro b1
  refine hQ.to [Vi 0] (fun H sH => ?_)
  exact rfl
theorem ck_fault (n : Int) (h : Vw) (h0 : 1 ≤ n) (h1 : n ≤ 15) : C0 Tryz.prog 81 #[.agg #[.int .i64 5, .int .i64 n, .string ⟨#[]⟩]] h (fun v _ => v = .int .i64 0) := by
  refine g_con Tryz.func81 (c := Tryz.f81.body.getD .skip) (N := 50) ?_
  intro hbx hbad Q hQ
  refine go1 82 [.own, .b 0 0, .b 0 1, .b 0 1, .b 0 2] [(41, .bool (decide (n < 1)), .bool false), (45, .bool (decide (n > 15)), .bool false)] ?_ (hc := (And.intro (congrArg Value.bool (decide_eq_false (by omega))) (And.intro (congrArg Value.bool (decide_eq_false (by omega))) (trivial))))
  intro b1
  refine hQ.to [Vi 0] (fun H sH => ?_)
  exact rfl
theorem ck_fault0 (n : Int) (h : Vw) (h0 : n < 1) : C0 Tryz.prog 81 #[.agg #[.int .i64 5, .int .i64 n, .string ⟨#[]⟩]] h (fun v _ => v = .int .i64 4) := by
  refine g_con Tryz.func81 (c := Tryz.f81.body.getD .skip) (N := 50) ?_
  intro hbx hbad Q hQ
  refine go1 70 [.own, .b 0 0, .b 0 1] [(41, .bool (decide (n < 1)), .bool true)] ?_ (hc := (And.intro (congrArg Value.bool (decide_eq_true (by omega))) (trivial)))
  intro b1
  refine hQ.to [Vi 4] (fun H sH => ?_)
  exact rfl
theorem ck_fault1 (n : Int) (h : Vw) (h0 : 15 < n) : C0 Tryz.prog 81 #[.agg #[.int .i64 5, .int .i64 n, .string ⟨#[]⟩]] h (fun v _ => v = .int .i64 4) := by
  refine g_con Tryz.func81 (c := Tryz.f81.body.getD .skip) (N := 50) ?_
  intro hbx hbad Q hQ
  refine go1 70 [.own, .b 0 0, .b 0 1, .b 0 1] [(41, .bool (decide (n < 1)), .bool false), (45, .bool (decide (n > 15)), .bool true)] ?_ (hc := (And.intro (congrArg Value.bool (decide_eq_false (by omega))) (And.intro (congrArg Value.bool (decide_eq_true (by omega))) (trivial))))
  intro b1
  refine hQ.to [Vi 4] (fun H sH => ?_)
  exact rfl
theorem tx_long (s : ByteArray) (h : Vw) (hs : 40 < s.size) : C0 Tryz.prog 117 #[.string s] h (fun v _ => v = .int .i64 1) := by
  refine g_con Tryz.func117 (c := Tryz.f117.body.getD .skip) (N := 23) ?_
  intro hbx hbad Q hQ
  refine go0 13 [] [] ?_
  refine g_true (t := decide ((s.size : Int) > 40)) (decide_eq_true (by omega)) ?_
  refine go0 7 [] [] ?_
  refine hQ.to [Vi 1] (fun H sH => ?_)
  exact rfl
set_option maxRecDepth 100000 in
theorem tx_bad (s : ByteArray) (h : Vw) (hs : s.size ≤ 40) (hb : ¬ ∀ i (h : i < s.size), 32 ≤ s[i].toNat ∧ s[i].toNat ≤ 126) : C0 Tryz.prog 117 #[.string s] h (fun v _ => v = .int .i64 3) := by
  refine g_con Tryz.func117 (c := Tryz.f117.body.getD .skip) (N := 23) ?_
  intro hbx hbad Q hQ
  refine go0 13 [] [] ?_
  refine g_false (t := decide ((s.size : Int) > 40)) (decide_eq_false (by omega)) ?_
  refine go0 11 [] [] ?_
  refine g_loop [0, 1, 0, 1, 1] [.block 0, .seq [1, 1, 1]] (fun (k : Nat) X => ∃ (W1 : Vw) , X W1 [(0, .string s), (8, Vi (s.size : Int)), (9, Vi (k : Int))] [] [] ∧ Sees h W1 ∧ (k ≤ s.size) ∧ (∀ i (h : i < s.size), i < k → 32 ≤ s[i].toNat ∧ s[i].toNat ≤ 126)) (fun k => s.size - k) (0) (fun X q => ⟨h, q _ _ _ _ ⟨rfl, by kernel_rfl⟩, Sees.refl _, Nat.zero_le _, fun i h q => absurd q (Nat.not_lt_zero _)⟩) ?_
  rintro k a w ⟨W1, hJ, S2, hk, ha⟩; refine g_of hJ ?_; clear hJ a w
  refine go0 6 [] [] ?_
  have hlt : k < s.size := by
    rcases Nat.lt_or_ge k s.size with q | q
    · exact q
    · exact absurd (fun i hi => ha i hi (by omega)) hb
  refine g_true (t := decide ((k : Int) < (s.size : Int))) (decide_eq_true (by omega)) ?_
  refine go0 14 [] [] ?_
  refine g_pure (.int .u8 (s[k].toNat : Int)) (fun w => run_sidx (x := (.tmp 12)) (y := (.tmp 13)) (t := 9) (s := s) (i := k) (by kernel_rfl) (by kernel_rfl) (by kernel_rfl) Tryz.underlying9 (hlt)) ?_
  refine go0 2 [] [] ?_
  by_cases c1 : s[k].toNat < 32
  · refine g_rew 16 (v := .bool (decide ((s[k].toNat : Int) < 32))) (v' := .bool true) (congrArg Value.bool (decide_eq_true (by omega))) ?_
    refine go0 16 [] [] ?_
    refine g_leave ?_
    refine go0 2 [] [] ?_
    refine hQ.to [Vi 3] (fun H sH => ?_)
    exact rfl
  · skip
    refine g_rew 16 (v := .bool (decide ((s[k].toNat : Int) < 32))) (v' := .bool false) (congrArg Value.bool (decide_eq_false (by omega))) ?_
    by_cases c2 : 126 < s[k].toNat
    · skip
      refine go0 2 [] [] ?_
      refine g_pure (.int .u8 (s[k].toNat : Int)) (fun w => run_sidx (x := (.tmp 17)) (y := (.tmp 18)) (t := 9) (s := s) (i := k) (by kernel_rfl) (by kernel_rfl) (by kernel_rfl) Tryz.underlying9 (hlt)) ?_
      refine go0 13 [] [(20, .bool (decide ((s[k].toNat : Int) > 126)), .bool true)] ?_ (hc := (And.intro (congrArg Value.bool (decide_eq_true (by omega))) (trivial)))
      refine g_leave ?_
      refine go0 2 [] [] ?_
      refine hQ.to [Vi 3] (fun H sH => ?_)
      exact rfl
    · skip
      refine go0 2 [] [] ?_
      refine g_pure (.int .u8 (s[k].toNat : Int)) (fun w => run_sidx (x := (.tmp 17)) (y := (.tmp 18)) (t := 9) (s := s) (i := k) (by kernel_rfl) (by kernel_rfl) (by kernel_rfl) Tryz.underlying9 (hlt)) ?_
      refine go0 12 [] [(20, .bool (decide ((s[k].toNat : Int) > 126)), .bool false), (22, Vi (IntKind.i64.wrap ((k : Int) + 1)), Vi ((k : Int) + 1))] ?_ (hc := (And.intro (congrArg Value.bool (decide_eq_false (by omega))) (And.intro (i64_wrap (by omega) (by omega)) (trivial))))
      have hb2 : ∀ i (h : i < s.size), i < k + 1 → 32 ≤ s[i].toNat ∧ s[i].toNat ≤ 126 := by
        intro i hi q
        by_cases e : i = k
        · subst e; exact ⟨by omega, by omega⟩
        · exact ha i hi (by omega)
      exact g_round (k + 1) (fun X q => ⟨W1, q _ _ _ _ ⟨rfl, by kernel_rfl⟩, S2, hlt, hb2⟩) (by omega)
theorem ck_text (s : ByteArray) (e : Int) (hc : ∀ H, C0 Tryz.prog 117 #[.string s] H (fun v _ => v = .int .i64 e)) (h : Vw) : C0 Tryz.prog 81 #[.agg #[.int .i64 3, .int .i64 0, .string s]] h (fun v _ => v = .int .i64 e) := by
  refine g_con Tryz.func81 (c := Tryz.f81.body.getD .skip) (N := 50) ?_
  intro hbx hbad Q hQ
  refine go1 57 [.own, .b 0 0, .b 0 1, .b 0 2, .cl 117 #[.string s] (Vi e)] [] ?_ (ho := (And.intro (fun H sH => hc _) (trivial)))
  intro b1
  refine hQ.to [Vi e] (fun H sH => ?_)
  exact rfl

/-- A value that may be. -/
def OkW (v : Vl) : Prop := v.known ∨ v = ⟨4, 0, ⟨#[]⟩⟩ ∨ (v.k = 5 ∧ 1 ≤ v.n ∧ v.n ≤ 15 ∧ v.s = ⟨#[]⟩)
theorem ck_ok (v : Vl) (h : Vw) (hv : OkW v) : C0 Tryz.prog 81 #[v.val] h (fun r _ => r = .int .i64 0) := by
  rcases hv with hv | rfl | ⟨h1, h2, h3, h4⟩
  · exact C0.of_gives (fun w => value_check v.k v.n v.s w hv) h
  · exact ck_pend h
  · obtain ⟨k, n, s⟩ := v
    simp only at h1 h2 h3 h4
    subst h1 h4
    exact ck_fault n h h2 h3
theorem ck_bad (v : Vl) (hv : ¬ OkW v) (hs : (v.k = 1 ∧ v.s = ⟨#[]⟩) ∨ (v.k = 5 ∧ v.s = ⟨#[]⟩) ∨ (v.k = 3 ∧ v.n = 0)) : ∃ e, e ≠ 0 ∧ ∀ h, C0 Tryz.prog 81 #[v.val] h (fun r _ => r = .int .i64 e) := by
  obtain ⟨k, n, s⟩ := v
  rcases hs with ⟨h1, h2⟩ | ⟨h1, h2⟩ | ⟨h1, h2⟩
  · simp only at h1 h2
    subst h1 h2
    refine ⟨7, by decide, fun h => ck_int n h ?_⟩
    by_cases q : -1099511627776 ≤ n ∧ n ≤ 1099511627776
    · exact absurd (.inl (.inl ⟨rfl, q, rfl⟩)) hv
    · omega
  · simp only at h1 h2
    subst h1 h2
    refine ⟨4, by decide, fun h => ?_⟩
    by_cases q : n < 1
    · exact ck_fault0 n h q
    · by_cases q2 : 15 < n
      · exact ck_fault1 n h q2
      · exact absurd (.inr (.inr ⟨rfl, by show 1 ≤ n; omega, by show n ≤ 15; omega, rfl⟩)) hv
  · simp only at h1 h2
    subst h1 h2
    by_cases q : 40 < s.size
    · exact ⟨1, by decide, fun h => ck_text s 1 (fun H => tx_long s H q) h⟩
    · by_cases q2 : ∀ i (h : i < s.size), 32 ≤ s[i].toNat ∧ s[i].toNat ≤ 126
      · exact absurd (.inl (.inr (.inr ⟨rfl, rfl, by show s.size ≤ 40; omega, q2⟩))) hv
      · exact ⟨3, by decide, fun h => ck_text s 3 (fun H => tx_bad s H (by omega) q2) h⟩

/-! ### Show -/
theorem sh_bad (v : Vl) (e : Int) (he : e ≠ 0) (hc : ∀ H, C0 Tryz.prog 81 #[v.val] H (fun r _ => r = .int .i64 e)) (h : Vw) : C0 Tryz.prog 58 #[v.val] h (fun r _ => r = .tuple #[.string ⟨#[]⟩, .int .i64 e]) := by
  refine g_con Tryz.func58 (c := Tryz.f58.body.getD .skip) (N := 37) ?_
  intro hbx hbad Q hQ
  refine go1 21 [.own, .b 0 0, .cl 81 #[.agg #[Vi v.k, Vi v.n, .string v.s]] (Vi e)] [] ?_ (ho := (And.intro (fun H sH => hc _) (trivial)))
  intro b1
  refine g_true (t := e != 0) (bne_iff_ne.2 he) ?_
  refine go0 9 [] [] ?_
  refine hQ.to [Ve, Vi e] (fun H sH => ?_)
  exact rfl
theorem sh_int (n : Int) (h : Vw) (l : Lk h) (hn : Lim n) : C0 Tryz.prog 58 #[.agg #[.int .i64 1, .int .i64 n, .string ⟨#[]⟩]] h (fun r _ => r = .tuple #[.string ⟨(Lib.itoa n).toArray⟩, .int .i64 0]) := by
  have hc := fun H => ck_ok ⟨1, n, ⟨#[]⟩⟩ H (.inl (.inl ⟨rfl, hn, rfl⟩))
  have hi := fun H q => c_itoa n H q (by have := hn.1; omega) (by have := hn.2; omega)
  refine g_con Tryz.func58 (c := Tryz.f58.body.getD .skip) (N := 37) ?_
  intro hbx hbad Q hQ
  refine go1 51 [.own, .b 0 0, .cl 81 #[.agg #[Vi 1, Vi n, Ve]] (Vi 0), .b 0 0, .b 0 1, .cl 82 #[Vi n] (.string ⟨(Lib.itoa n).toArray⟩)] [] ?_ (ho := (And.intro (fun H sH => hc _) (And.intro (fun H sH => hi _ (l.sees sH)) (trivial))))
  intro b1
  refine hQ.to [.string ⟨(Lib.itoa n).toArray⟩, Vi 0] (fun H sH => ?_)
  exact rfl
theorem sh_bool (n : Int) (h : Vw) (hn : n = 0 ∨ n = 1) : C0 Tryz.prog 58 #[.agg #[.int .i64 2, .int .i64 n, .string ⟨#[]⟩]] h (fun r _ => r = .tuple #[.string (if n = 1 then btrue else bfalse), .int .i64 0]) := by
  have hc := fun H => ck_ok ⟨2, n, ⟨#[]⟩⟩ H (.inl (.inr (.inl ⟨rfl, hn, rfl⟩)))
  have hi := fun H => c_fmt (n == 1) H
  refine g_con Tryz.func58 (c := Tryz.f58.body.getD .skip) (N := 37) ?_
  intro hbx hbad Q hQ
  refine go1 59 [.own, .b 0 0, .cl 81 #[.agg #[Vi 2, Vi n, Ve]] (Vi 0), .b 0 0, .b 0 1, .cl 83 #[.bool (n == 1)] (.string (if (n == 1) then btrue else bfalse))] [] ?_ (ho := (And.intro (fun H sH => hc _) (And.intro (fun H sH => hi _) (trivial))))
  intro b1
  refine hQ.to [.string (if (n == 1) then btrue else bfalse), Vi 0] (fun H sH => ?_)
  exact by rcases hn with rfl | rfl <;> rfl
theorem sh_pend (h : Vw) : C0 Tryz.prog 58 #[.agg #[.int .i64 4, .int .i64 0, .string ⟨#[]⟩]] h (fun r _ => r = .tuple #[.string bqm, .int .i64 0]) := by
  have hc := fun H => ck_pend H
  refine g_con Tryz.func58 (c := Tryz.f58.body.getD .skip) (N := 37) ?_
  intro hbx hbad Q hQ
  refine go1 69 [.own, .b 0 0, .cl 81 #[.agg #[Vi 4, Vi 0, Ve]] (Vi 0), .b 0 0] [] ?_ (ho := (And.intro (fun H sH => hc _) (trivial)))
  intro b1
  refine hQ.to [.string ⟨#[63]⟩, Vi 0] (fun H sH => ?_)
  exact rfl
theorem run_catb {t : TypeId} {a b : ByteArray} {c : List UInt8} {P : Program} {w : World} (h : a.size + b.size ≤ 100000) (e : a.data.toList ++ b.data.toList = c) : (binOp .add t (.string a) (.string b)).run P w = .ok (.string ⟨c.toArray⟩) w := by
  rw [binOp_string_add, run_string_add_sum w a b (by omega)]
  subst e
  have e2 : a ++ b = ⟨(a.data.toList ++ b.data.toList).toArray⟩ := by
    apply ByteArray.ext
    simp
  rw [e2]
theorem sh_fault (n : Int) (h : Vw) (l : Lk h) (h0 : 1 ≤ n) (h1 : n ≤ 15) : C0 Tryz.prog 58 #[.agg #[.int .i64 5, .int .i64 n, .string ⟨#[]⟩]] h (fun r _ => r = .tuple #[.string ⟨(33 :: Lib.itoa n).toArray⟩, .int .i64 0]) := by
  have hc := fun H => ck_fault n H h0 h1
  have hi := fun H q => c_itoa n H q (by omega) (by omega)
  have hlen : (Lib.itoa n).length ≤ 21 := Lib.itoa_length_le n (by omega) (by omega)
  refine g_con Tryz.func58 (c := Tryz.f58.body.getD .skip) (N := 37) ?_
  intro hbx hbad Q hQ
  refine go1 68 [.own, .b 0 0, .cl 81 #[.agg #[Vi 5, Vi n, Ve]] (Vi 0), .b 0 0, .b 0 1, .cl 82 #[Vi n] (.string ⟨(Lib.itoa n).toArray⟩)] [] ?_ (ho := (And.intro (fun H sH => hc _) (And.intro (fun H sH => hi _ (l.sees sH)) (trivial))))
  intro b1
  refine g_pure (.string ⟨(33 :: Lib.itoa n).toArray⟩) (fun w => run_bin (op := .add) (t := 9) (x := (.const (.string ⟨#[33]⟩))) (y := (.tmp 35)) (yt := 9) (va := .string ⟨#[33]⟩) (vb := .string ⟨(Lib.itoa n).toArray⟩) (by kernel_rfl) (by kernel_rfl) (by kernel_rfl) (by kernel_rfl) (run_catb (by show 1 + Array.size _ ≤ _; simp; omega) (by simp))) ?_
  refine go0 5 [] [] ?_
  refine hQ.to [.string ⟨(33 :: Lib.itoa n).toArray⟩, Vi 0] (fun H sH => ?_)
  exact rfl
theorem esc_len (l : List UInt8) : (escL l).length ≤ 2 * l.length := by
  induction l with
  | nil => simp [escL]
  | cons c l ih =>
    show (escB c ++ escL l).length ≤ _
    have : (escB c).length ≤ 2 := by unfold escB; split <;> simp
    rw [List.length_append, List.length_cons]; omega
theorem sh_text (s : ByteArray) (h : Vw) (l : Lk h) (hk : Vl.known ⟨3, 0, s⟩) : C0 Tryz.prog 58 #[.agg #[.int .i64 3, .int .i64 0, .string s]] h (fun r _ => r = .tuple #[.string ⟨(34 :: (escL s.data.toList ++ [34])).toArray⟩, .int .i64 0]) := by
  have hs : s.size ≤ 40 := by
    rcases hk with ⟨q, -⟩ | ⟨q, -⟩ | ⟨-, -, q, -⟩
    · cases q
    · cases q
    · exact q
  have hl := toList_size s
  have hc := fun H => ck_ok ⟨3, 0, s⟩ H (.inl hk)
  have c1 : ∀ (x : ByteArray) (c : UInt8), Lib.countB x ⟨#[c]⟩ ≤ x.size := fun x c => Lib.countB_le ⟨#[c]⟩ (by show 1 ≤ 1; omega) x.size x (Nat.le_refl _)
  have b1 := c1 s 92
  have e1 : Lib.replaceAll s.data.toList [92] [92, 92] = s.data.toList.flatMap (rp 92 [92, 92]) := replaceAll_one _ _ _ (by decide)
  have l1 : (s.data.toList.flatMap (rp 92 [92, 92])).length ≤ 2 * s.data.toList.length := by
    generalize s.data.toList = m
    induction m with
    | nil => simp
    | cons c m ih =>
      have : (rp 92 [92, 92] c).length ≤ 2 := by unfold rp; split <;> simp
      rw [List.flatMap_cons, List.length_append, List.length_cons]; omega
  have z1 : (⟨(Lib.replaceAll s.data.toList [92] [92, 92]).toArray⟩ : ByteArray).size ≤ 80 := by rw [e1]; show (List.toArray _).size ≤ 80; rw [List.size_toArray]; omega
  have b2 := c1 ⟨(Lib.replaceAll s.data.toList [92] [92, 92]).toArray⟩ 34
  have hr1 := fun H q => c_rep s ⟨#[92]⟩ ⟨#[92, 92]⟩ H q (by omega) (by decide) (by show _ * 2 ≤ _; omega)
  have hr2 := fun H q => c_rep ⟨(Lib.replaceAll s.data.toList [92] [92, 92]).toArray⟩ ⟨#[34]⟩ ⟨#[92, 34]⟩ H q (by omega) (by decide) (by show _ * 2 ≤ _; omega)
  have e2 : Lib.replaceAll (Lib.replaceAll s.data.toList [92] [92, 92]) [34] [92, 34] = escL s.data.toList := rep_two _
  simp only [e2] at hr2
  have l2 := esc_len s.data.toList
  generalize escL s.data.toList = q at *
  generalize Lib.replaceAll s.data.toList [92] [92, 92] = p at *
  refine g_con Tryz.func58 (c := Tryz.f58.body.getD .skip) (N := 37) ?_
  intro hbx hbad Q hQ
  refine go1 59 [.own, .b 0 0, .cl 81 #[.agg #[Vi 3, Vi 0, .string s]] (Vi 0), .b 0 0, .b 0 2, .cl 84 #[.string s, .string ⟨#[92]⟩, .string ⟨#[92, 92]⟩] (.string ⟨p.toArray⟩), .cl 84 #[.string ⟨p.toArray⟩, .string ⟨#[34]⟩, .string ⟨#[92, 34]⟩] (.string ⟨q.toArray⟩)] [] ?_ (ho := (And.intro (fun H sH => hc _) (And.intro (fun H sH => hr1 _ (l.sees sH)) (And.intro (fun H sH => hr2 _ (l.sees sH)) (trivial)))))
  intro b1
  refine g_pure (.string ⟨(34 :: q).toArray⟩) (fun w => run_bin (op := .add) (t := 9) (x := (.const (.string ⟨#[34]⟩))) (y := (.tmp 28)) (yt := 9) (va := .string ⟨#[34]⟩) (vb := .string ⟨q.toArray⟩) (by kernel_rfl) (by kernel_rfl) (by kernel_rfl) (by kernel_rfl) (run_catb (by show 1 + Array.size _ ≤ _; simp; omega) (by simp))) ?_
  refine g_pure (.string ⟨(34 :: (q ++ [34])).toArray⟩) (fun w => run_bin (op := .add) (t := 9) (x := (.tmp 29)) (y := (.const (.string ⟨#[34]⟩))) (yt := 9) (va := .string ⟨(34 :: q).toArray⟩) (vb := .string ⟨#[34]⟩) (by kernel_rfl) (by kernel_rfl) (by kernel_rfl) (by kernel_rfl) (run_catb (by show Array.size _ + 1 ≤ _; simp; omega) (by simp))) ?_
  refine go0 7 [] [] ?_
  refine hQ.to [.string ⟨(34 :: (q ++ [34])).toArray⟩, Vi 0] (fun H sH => ?_)
  exact rfl
theorem sh_ok (v : Vl) (h : Vw) (l : Lk h) (hv : OkW v) : C0 Tryz.prog 58 #[v.val] h (fun r _ => r = .tuple #[.string (showV v), .int .i64 0]) := by
  obtain ⟨k, n, s⟩ := v
  rcases hv with (⟨h1, h2, h3⟩ | ⟨h1, h2, h3⟩ | ⟨h1, h2, h3⟩) | h1 | ⟨h1, h2, h3, h4⟩
  · simp only at h1 h3
    subst h1 h3
    exact sh_int n h l h2
  · simp only at h1 h3
    subst h1 h3
    exact sh_bool n h h2
  · simp only at h1 h2
    subst h1 h2
    exact sh_text s h l (.inr (.inr ⟨rfl, rfl, h3⟩))
  · rw [h1]; exact sh_pend h
  · simp only at h1 h4
    subst h1 h4
    exact sh_fault n h l h2 h3
theorem parse_shape (s : ByteArray) (hv : ¬ OkW (parseV s)) : ((parseV s).k = 1 ∧ (parseV s).s = ⟨#[]⟩) ∨ ((parseV s).k = 5 ∧ (parseV s).s = ⟨#[]⟩) ∨ ((parseV s).k = 3 ∧ (parseV s).n = 0) := by
  unfold parseV at hv ⊢
  split
  · rename_i q; rw [if_pos q] at hv; exact absurd (.inr (.inl rfl)) hv
  · rename_i q; rw [if_neg q] at hv
    split
    · rename_i q; rw [if_pos q] at hv; exact absurd (.inl (.inr (.inl ⟨rfl, .inr rfl, rfl⟩))) hv
    · rename_i q; rw [if_neg q] at hv
      split
      · rename_i q; rw [if_pos q] at hv; exact absurd (.inl (.inr (.inl ⟨rfl, .inl rfl, rfl⟩))) hv
      · split
        · exact .inl ⟨rfl, rfl⟩
        · split
          · exact .inr (.inl ⟨rfl, rfl⟩)
          · split
            · exact .inr (.inr ⟨rfl, rfl⟩)
            · exact .inl ⟨rfl, rfl⟩
theorem sh_any (s : ByteArray) : ∃ t e, (∀ H, Lk H → C0 Tryz.prog 58 #[(parseV s).val] H (fun r _ => r = .tuple #[.string t, .int .i64 e])) ∧ ((OkW (parseV s) ∧ e = 0 ∧ t = showV (parseV s)) ∨ (¬ OkW (parseV s) ∧ e ≠ 0)) := by
  by_cases hv : OkW (parseV s)
  · exact ⟨_, 0, fun H q => sh_ok _ H q hv, .inl ⟨hv, rfl, rfl⟩⟩
  · obtain ⟨e, he, hc⟩ := ck_bad _ hv (parse_shape s hv)
    exact ⟨_, e, fun H q => sh_bad _ e he hc H, .inr ⟨hv, he⟩⟩

/-! ### Parse -/
theorem run_from {o : Oper} {ρ : Operand → Value} {t : TypeId} {x y : Operand} {s : ByteArray} {P : Program} {w : World} (ho : o.op = .slice t x (some y) none none) (hx : ρ x = .string s) (hy : ρ y = .int .i64 1) (ht : P.underlying t = some .string) (h1 : 1 ≤ s.size) :
    (execOp ρ o).run P w = .ok (.value (.string (s.extract 1 s.size))) w := by
  unfold execOp
  simp only [ho, hx, hy, Sem.run_bind, Option.map_some, Option.map_none]
  rw [run_sliceAt_string w t _ _ _ _ ht, run_slice_string_l w t s ht .i64 1 (by omega) (by omega)]
  simp [Sem.run_pure]
abbrev zV : Value := .agg #[.int .i64 0, .int .i64 0, .string ⟨#[]⟩]
def GoodS (s : ByteArray) : Prop := OkW (parseV s) ∧ showV (parseV s) = s
set_option maxHeartbeats 2000000 in
set_option maxRecDepth 100000 in
theorem parse_any (s : ByteArray) (h : Vw) (l : Lk h) (hs : s.size ≤ 140737488351232) : C0 Tryz.prog 122 #[.string s] h (fun r _ => (GoodS s ∧ r = .tuple #[(parseV s).val, .int .i64 0]) ∨ (¬ GoodS s ∧ r = .tuple #[zV, .int .i64 3])) := by
  obtain ⟨t, e, hS, hte⟩ := sh_any s
  have hG : (e = 0 ∧ t = s → GoodS s) ∧ (GoodS s → e = 0 ∧ t = s) := by
    unfold GoodS
    rcases hte with ⟨h1, h2, h3⟩ | ⟨h1, h2⟩
    · subst h3; exact ⟨fun q => ⟨h1, q.2⟩, fun q => ⟨h2, q.2⟩⟩
    · exact ⟨fun q => absurd q.1 h2, fun q => absurd q.1 h1⟩
  generalize hgp : GoodS s = gp at *
  clear hte hgp
  have hat := fun H q => c_atoi s H q (by omega)
  have hun := fun H => unq_any s H hs
  have hpre := fun c H => c_pre s c H
  have hq0 : parseV s = parseV s := rfl
  refine g_con Tryz.func122 (c := Tryz.f122.body.getD .skip) (N := 62) ?_
  intro hbx hbad Q hQ
  refine go2 20 [.own, .own] [] ?_
  intro b1 b2
  by_cases h1 : s = bqm
  · have hp : parseV s = ⟨4, 0, ⟨#[]⟩⟩ := by unfold parseV; rw [if_pos h1]
    rw [hp] at hS
    refine g_true (t := s.toList == (⟨#[63]⟩ : ByteArray).toList) (tl_yes h1) ?_
    refine go0 23 [.b 0 0, .b 0 0, .cl 58 #[.agg #[Vi 4, Vi 0, Ve]] (.tuple #[.string t, Vi e])] [] ?_ (ho := (And.intro (fun H sH => hS _ (l.sees sH)) (trivial)))
    by_cases g1 : e = 0
    · refine g_rew 55 (v := .bool (e != 0)) (v' := .bool false) (congrArg Value.bool (by rw [g1]; rfl)) ?_
      refine go0 6 [] [] ?_
      by_cases g2 : t = s
      · refine g_false (t := t.toList != s.toList) ((by rw [g2]; exact bne_self_eq_false _)) ?_
        refine go0 10 [.b 0 0, .b 1 0] [] ?_
        refine hQ.to [.agg #[Vi 4, Vi 0, Ve], Vi 0] (fun H sH => ?_) (ix := [1])
        exact Or.inl (And.intro (hG.1 ⟨g1, g2⟩) (by rw [hp]; rfl))
      · skip
        refine g_true (t := t.toList != s.toList) ((by show (!(t.toList == s.toList)) = true; rw [tl_no g2]; rfl)) ?_
        refine go0 9 [.b 1 0] [] ?_
        refine hQ.to [.agg #[Vi 0, Vi 0, Ve], Vi 3] (fun H sH => ?_) (ix := [1])
        exact Or.inr (And.intro (fun q => g2 (hG.2 q).2) rfl)
    · skip
      refine g_rew 55 (v := .bool (e != 0)) (v' := .bool true) (congrArg Value.bool (bne_iff_ne.2 g1)) ?_
      refine go0 16 [.b 1 0] [] ?_
      refine hQ.to [.agg #[Vi 0, Vi 0, Ve], Vi 3] (fun H sH => ?_) (ix := [1])
      exact Or.inr (And.intro (fun q => g1 (hG.2 q).1) rfl)
  · skip
    refine g_false (t := s.toList == (⟨#[63]⟩ : ByteArray).toList) (tl_no h1) ?_
    refine go0 8 [] [] ?_
    by_cases h2 : s = btrue
    · have hp : parseV s = ⟨2, 1, ⟨#[]⟩⟩ := by unfold parseV; rw [if_neg h1, if_pos h2]
      rw [hp] at hS
      have hz : Value.int .i64 (IntKind.i64.wrap (5 - (s.size : Int))) = .int .i64 1 := by rw [h2]; rfl
      refine g_true (t := s.toList == (⟨#[116, 114, 117, 101]⟩ : ByteArray).toList) (tl_yes h2) ?_
      refine go0 2 [] [] ?_
      refine g_true (t := s.toList == (⟨#[116, 114, 117, 101]⟩ : ByteArray).toList) (tl_yes h2) ?_
      refine go0 26 [.b 0 0, .b 0 0, .cl 58 #[.agg #[Vi 2, Vi 1, Ve]] (.tuple #[.string t, Vi e])] [(29, Vi (IntKind.i64.wrap (5 - (s.size : Int))), Vi 1)] ?_ (ho := (And.intro (fun H sH => hS _ (l.sees sH)) (trivial))) (hc := (And.intro (hz) (trivial)))
      by_cases g1 : e = 0
      · refine g_rew 55 (v := .bool (e != 0)) (v' := .bool false) (congrArg Value.bool (by rw [g1]; rfl)) ?_
        refine go0 6 [] [] ?_
        by_cases g2 : t = s
        · refine g_false (t := t.toList != s.toList) ((by rw [g2]; exact bne_self_eq_false _)) ?_
          refine go0 10 [.b 0 0, .b 1 0] [] ?_
          refine hQ.to [.agg #[Vi 2, Vi 1, Ve], Vi 0] (fun H sH => ?_) (ix := [1])
          exact Or.inl (And.intro (hG.1 ⟨g1, g2⟩) (by rw [hp]; rfl))
        · skip
          refine g_true (t := t.toList != s.toList) ((by show (!(t.toList == s.toList)) = true; rw [tl_no g2]; rfl)) ?_
          refine go0 9 [.b 1 0] [] ?_
          refine hQ.to [.agg #[Vi 0, Vi 0, Ve], Vi 3] (fun H sH => ?_) (ix := [1])
          exact Or.inr (And.intro (fun q => g2 (hG.2 q).2) rfl)
      · skip
        refine g_rew 55 (v := .bool (e != 0)) (v' := .bool true) (congrArg Value.bool (bne_iff_ne.2 g1)) ?_
        refine go0 16 [.b 1 0] [] ?_
        refine hQ.to [.agg #[Vi 0, Vi 0, Ve], Vi 3] (fun H sH => ?_) (ix := [1])
        exact Or.inr (And.intro (fun q => g1 (hG.2 q).1) rfl)
    · skip
      refine g_false (t := s.toList == (⟨#[116, 114, 117, 101]⟩ : ByteArray).toList) (tl_no h2) ?_
      refine go0 6 [] [] ?_
      by_cases h3 : s = bfalse
      · have hp : parseV s = ⟨2, 0, ⟨#[]⟩⟩ := by unfold parseV; rw [if_neg h1, if_neg h2, if_pos h3]
        rw [hp] at hS
        have hz : Value.int .i64 (IntKind.i64.wrap (5 - (s.size : Int))) = .int .i64 0 := by rw [h3]; rfl
        refine g_true (t := s.toList == (⟨#[102, 97, 108, 115, 101]⟩ : ByteArray).toList) (tl_yes h3) ?_
        refine go0 26 [.b 0 0, .b 0 0, .cl 58 #[.agg #[Vi 2, Vi 0, Ve]] (.tuple #[.string t, Vi e])] [(29, Vi (IntKind.i64.wrap (5 - (s.size : Int))), Vi 0)] ?_ (ho := (And.intro (fun H sH => hS _ (l.sees sH)) (trivial))) (hc := (And.intro (hz) (trivial)))
        by_cases g1 : e = 0
        · refine g_rew 55 (v := .bool (e != 0)) (v' := .bool false) (congrArg Value.bool (by rw [g1]; rfl)) ?_
          refine go0 6 [] [] ?_
          by_cases g2 : t = s
          · refine g_false (t := t.toList != s.toList) ((by rw [g2]; exact bne_self_eq_false _)) ?_
            refine go0 10 [.b 0 0, .b 1 0] [] ?_
            refine hQ.to [.agg #[Vi 2, Vi 0, Ve], Vi 0] (fun H sH => ?_) (ix := [1])
            exact Or.inl (And.intro (hG.1 ⟨g1, g2⟩) (by rw [hp]; rfl))
          · skip
            refine g_true (t := t.toList != s.toList) ((by show (!(t.toList == s.toList)) = true; rw [tl_no g2]; rfl)) ?_
            refine go0 9 [.b 1 0] [] ?_
            refine hQ.to [.agg #[Vi 0, Vi 0, Ve], Vi 3] (fun H sH => ?_) (ix := [1])
            exact Or.inr (And.intro (fun q => g2 (hG.2 q).2) rfl)
        · skip
          refine g_rew 55 (v := .bool (e != 0)) (v' := .bool true) (congrArg Value.bool (bne_iff_ne.2 g1)) ?_
          refine go0 16 [.b 1 0] [] ?_
          refine hQ.to [.agg #[Vi 0, Vi 0, Ve], Vi 3] (fun H sH => ?_) (ix := [1])
          exact Or.inr (And.intro (fun q => g1 (hG.2 q).1) rfl)
      · skip
        cases hl : s.data.toList with
        | nil =>
          have hp : parseV s = ⟨1, atoiN s.data.toList, ⟨#[]⟩⟩ := by unfold parseV; rw [if_neg h1, if_neg h2, if_neg h3, hl]; rfl
          rw [hp] at hS
          have hp1 := fun H => hpre 33 H
          have hp2 := fun H => hpre 34 H
          rw [pre_no hl] at hp1 hp2
          refine g_false (t := s.toList == (⟨#[102, 97, 108, 115, 101]⟩ : ByteArray).toList) (tl_no h3) ?_
          refine go0 19 [.cl 18 #[.string s, .string ⟨#[33]⟩] (.bool false), .cl 18 #[.string s, .string ⟨#[34]⟩] (.bool false)] [] ?_ (ho := (And.intro (fun H sH => hp1 _) (And.intro (fun H sH => hp2 _) (trivial))))
          refine g_call (fun H sH => hat _ (l.sees sH)) ?_; rintro _ W3 S4 ⟨u, rfl⟩
          refine go0 18 [.b 0 0, .b 0 0] [] ?_
          refine go0 13 [.cl 58 #[.agg #[Vi 1, Vi (atoiN s.data.toList), Ve]] (.tuple #[.string t, Vi e])] [] ?_ (ho := (And.intro (fun H sH => hS _ (l.sees (S4.trans sH))) (trivial)))
          by_cases g1 : e = 0
          · refine g_rew 55 (v := .bool (e != 0)) (v' := .bool false) (congrArg Value.bool (by rw [g1]; rfl)) ?_
            refine go0 6 [] [] ?_
            by_cases g2 : t = s
            · refine g_false (t := t.toList != s.toList) ((by rw [g2]; exact bne_self_eq_false _)) ?_
              refine go0 10 [.b 0 0, .b 1 0] [] ?_
              refine hQ.to [.agg #[Vi 1, Vi (atoiN s.data.toList), Ve], Vi 0] (fun H sH => ?_) (ix := [1])
              exact Or.inl (And.intro (hG.1 ⟨g1, g2⟩) (by rw [hp]; rfl))
            · skip
              refine g_true (t := t.toList != s.toList) ((by show (!(t.toList == s.toList)) = true; rw [tl_no g2]; rfl)) ?_
              refine go0 9 [.b 1 0] [] ?_
              refine hQ.to [.agg #[Vi 0, Vi 0, Ve], Vi 3] (fun H sH => ?_) (ix := [1])
              exact Or.inr (And.intro (fun q => g2 (hG.2 q).2) rfl)
          · skip
            refine g_rew 55 (v := .bool (e != 0)) (v' := .bool true) (congrArg Value.bool (bne_iff_ne.2 g1)) ?_
            refine go0 16 [.b 1 0] [] ?_
            refine hQ.to [.agg #[Vi 0, Vi 0, Ve], Vi 3] (fun H sH => ?_) (ix := [1])
            exact Or.inr (And.intro (fun q => g1 (hG.2 q).1) rfl)
        | cons c r =>
          have hz1 : 1 ≤ s.size := by rw [← toList_size, hl]; simp
          have hr : (s.extract 1 s.size).data.toList = r := by rw [Lib.extract_to_end, hl]; rfl
          have hzx : (s.extract 1 s.size).size ≤ s.size := by simp
          have hat2 := fun H q => c_atoi (s.extract 1 s.size) H q (by omega)
          rw [hr] at hat2
          have hp1 := fun H => hpre 33 H
          have hp2 := fun H => hpre 34 H
          rw [pre_yes hl] at hp1 hp2
          by_cases c1 : c = 33
          · have hp : parseV s = ⟨5, atoiN r, ⟨#[]⟩⟩ := by unfold parseV; rw [if_neg h1, if_neg h2, if_neg h3, hl]; simp only; rw [if_pos c1]
            rw [hp] at hS
            rw [c1] at hp1
            refine g_false (t := s.toList == (⟨#[102, 97, 108, 115, 101]⟩ : ByteArray).toList) (tl_no h3) ?_
            refine go0 11 [.cl 18 #[.string s, .string ⟨#[33]⟩] (.bool true)] [] ?_ (ho := (And.intro (fun H sH => hp1 _) (trivial)))
            refine g_pure (.string (s.extract 1 s.size)) (fun w => run_from (x := .tmp 35) (y := .const (Vi 1)) (t := 9) (by kernel_rfl) (by kernel_rfl) (by kernel_rfl) Tryz.underlying9 hz1) ?_
            refine g_call (fun H sH => hat2 _ (l.sees sH)) ?_; rintro _ W5 S6 ⟨u, rfl⟩
            refine go0 18 [.b 0 0, .b 0 0] [] ?_
            refine go0 13 [.cl 58 #[.agg #[Vi 5, Vi (atoiN r), Ve]] (.tuple #[.string t, Vi e])] [] ?_ (ho := (And.intro (fun H sH => hS _ (l.sees (S6.trans sH))) (trivial)))
            by_cases g1 : e = 0
            · refine g_rew 55 (v := .bool (e != 0)) (v' := .bool false) (congrArg Value.bool (by rw [g1]; rfl)) ?_
              refine go0 6 [] [] ?_
              by_cases g2 : t = s
              · refine g_false (t := t.toList != s.toList) ((by rw [g2]; exact bne_self_eq_false _)) ?_
                refine go0 10 [.b 0 0, .b 1 0] [] ?_
                refine hQ.to [.agg #[Vi 5, Vi (atoiN r), Ve], Vi 0] (fun H sH => ?_) (ix := [1])
                exact Or.inl (And.intro (hG.1 ⟨g1, g2⟩) (by rw [hp]; rfl))
              · skip
                refine g_true (t := t.toList != s.toList) ((by show (!(t.toList == s.toList)) = true; rw [tl_no g2]; rfl)) ?_
                refine go0 9 [.b 1 0] [] ?_
                refine hQ.to [.agg #[Vi 0, Vi 0, Ve], Vi 3] (fun H sH => ?_) (ix := [1])
                exact Or.inr (And.intro (fun q => g2 (hG.2 q).2) rfl)
            · skip
              refine g_rew 55 (v := .bool (e != 0)) (v' := .bool true) (congrArg Value.bool (bne_iff_ne.2 g1)) ?_
              refine go0 16 [.b 1 0] [] ?_
              refine hQ.to [.agg #[Vi 0, Vi 0, Ve], Vi 3] (fun H sH => ?_) (ix := [1])
              exact Or.inr (And.intro (fun q => g1 (hG.2 q).1) rfl)
          · have e33 : ((33 : UInt8) == c) = false := beq_eq_false_iff_ne.2 (fun q => c1 q.symm)
            rw [e33] at hp1
            by_cases c2 : c = 34
            · have hp : parseV s = ⟨3, 0, ⟨(unqS s).toArray⟩⟩ := by unfold parseV; rw [if_neg h1, if_neg h2, if_neg h3, hl]; simp only; rw [if_neg c1, if_pos c2]
              rw [hp] at hS
              rw [c2] at hp2
              refine g_false (t := s.toList == (⟨#[102, 97, 108, 115, 101]⟩ : ByteArray).toList) (tl_no h3) ?_
              refine go0 41 [.cl 18 #[.string s, .string ⟨#[33]⟩] (.bool false), .cl 18 #[.string s, .string ⟨#[34]⟩] (.bool true), .cl 144 #[.string s] (.string ⟨(unqS s).toArray⟩), .b 0 0, .b 0 0, .cl 58 #[.agg #[Vi 3, Vi 0, .string ⟨(unqS s).toArray⟩]] (.tuple #[.string t, Vi e])] [] ?_ (ho := (And.intro (fun H sH => hp1 _) (And.intro (fun H sH => hp2 _) (And.intro (fun H sH => hun _) (And.intro (fun H sH => hS _ (l.sees sH)) (trivial))))))
              by_cases g1 : e = 0
              · refine g_rew 55 (v := .bool (e != 0)) (v' := .bool false) (congrArg Value.bool (by rw [g1]; rfl)) ?_
                refine go0 6 [] [] ?_
                by_cases g2 : t = s
                · refine g_false (t := t.toList != s.toList) ((by rw [g2]; exact bne_self_eq_false _)) ?_
                  refine go0 10 [.b 0 0, .b 1 0] [] ?_
                  refine hQ.to [.agg #[Vi 3, Vi 0, .string ⟨(unqS s).toArray⟩], Vi 0] (fun H sH => ?_) (ix := [1])
                  exact Or.inl (And.intro (hG.1 ⟨g1, g2⟩) (by rw [hp]; rfl))
                · skip
                  refine g_true (t := t.toList != s.toList) ((by show (!(t.toList == s.toList)) = true; rw [tl_no g2]; rfl)) ?_
                  refine go0 9 [.b 1 0] [] ?_
                  refine hQ.to [.agg #[Vi 0, Vi 0, Ve], Vi 3] (fun H sH => ?_) (ix := [1])
                  exact Or.inr (And.intro (fun q => g2 (hG.2 q).2) rfl)
              · skip
                refine g_rew 55 (v := .bool (e != 0)) (v' := .bool true) (congrArg Value.bool (bne_iff_ne.2 g1)) ?_
                refine go0 16 [.b 1 0] [] ?_
                refine hQ.to [.agg #[Vi 0, Vi 0, Ve], Vi 3] (fun H sH => ?_) (ix := [1])
                exact Or.inr (And.intro (fun q => g1 (hG.2 q).1) rfl)
            · have e34 : ((34 : UInt8) == c) = false := beq_eq_false_iff_ne.2 (fun q => c2 q.symm)
              have hp : parseV s = ⟨1, atoiN s.data.toList, ⟨#[]⟩⟩ := by unfold parseV; rw [if_neg h1, if_neg h2, if_neg h3, hl]; simp only; rw [if_neg c1, if_neg c2]
              rw [hp] at hS
              rw [e34] at hp2
              refine g_false (t := s.toList == (⟨#[102, 97, 108, 115, 101]⟩ : ByteArray).toList) (tl_no h3) ?_
              refine go0 19 [.cl 18 #[.string s, .string ⟨#[33]⟩] (.bool false), .cl 18 #[.string s, .string ⟨#[34]⟩] (.bool false)] [] ?_ (ho := (And.intro (fun H sH => hp1 _) (And.intro (fun H sH => hp2 _) (trivial))))
              refine g_call (fun H sH => hat _ (l.sees sH)) ?_; rintro _ W7 S8 ⟨u, rfl⟩
              refine go0 18 [.b 0 0, .b 0 0] [] ?_
              refine go0 13 [.cl 58 #[.agg #[Vi 1, Vi (atoiN s.data.toList), Ve]] (.tuple #[.string t, Vi e])] [] ?_ (ho := (And.intro (fun H sH => hS _ (l.sees (S8.trans sH))) (trivial)))
              by_cases g1 : e = 0
              · refine g_rew 55 (v := .bool (e != 0)) (v' := .bool false) (congrArg Value.bool (by rw [g1]; rfl)) ?_
                refine go0 6 [] [] ?_
                by_cases g2 : t = s
                · refine g_false (t := t.toList != s.toList) ((by rw [g2]; exact bne_self_eq_false _)) ?_
                  refine go0 10 [.b 0 0, .b 1 0] [] ?_
                  refine hQ.to [.agg #[Vi 1, Vi (atoiN s.data.toList), Ve], Vi 0] (fun H sH => ?_) (ix := [1])
                  exact Or.inl (And.intro (hG.1 ⟨g1, g2⟩) (by rw [hp]; rfl))
                · skip
                  refine g_true (t := t.toList != s.toList) ((by show (!(t.toList == s.toList)) = true; rw [tl_no g2]; rfl)) ?_
                  refine go0 9 [.b 1 0] [] ?_
                  refine hQ.to [.agg #[Vi 0, Vi 0, Ve], Vi 3] (fun H sH => ?_) (ix := [1])
                  exact Or.inr (And.intro (fun q => g2 (hG.2 q).2) rfl)
              · skip
                refine g_rew 55 (v := .bool (e != 0)) (v' := .bool true) (congrArg Value.bool (bne_iff_ne.2 g1)) ?_
                refine go0 16 [.b 1 0] [] ?_
                refine hQ.to [.agg #[Vi 0, Vi 0, Ve], Vi 3] (fun H sH => ?_) (ix := [1])
                exact Or.inr (And.intro (fun q => g1 (hG.2 q).1) rfl)

end Go.Proofs.YthplkompdehjlaaGreatDoor
