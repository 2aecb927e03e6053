/-
  Contracts of package value: Check at values that may not be, Show, Parse.
-/
import Derived.Test.YtapdpoijdmpfbaaDoorShowP
import Derived.Test.YtapdpoijdmpfbaaDoorRow
import Derived.Test.YtapdpoijdmpfbaaDoorShelf
import Derived.Lib.LaidTab
import Derived.Lib.ItoaLen
import Derived.Lib.IndexBytes
namespace Go.Proofs.YtapdpoijdmpfbaaDoor
open Go.RowKit Go.Sort
set_option linter.unusedVariables false

/-! ### What Go's library reads -/
structure Lk (h : Vw) : Prop where
  mx : ∃ m, Cells h 3 0 [.int .i64 m]
  tl : 2 < h.w.heap.size
  tn : 2 ∉ h.bad
  tb : Lib.TabIs Tryd.prog h.w "internal/strconv.uint64pow10" .u64 Lib.pow10Tab
  sy : ∃ e, Cells h 0 0 [e] ∧ (e = .nilIface ∨ ∃ t p, e = .iface t p)
  rg : ∃ e, Cells h 1 0 [e] ∧ (e = .nilIface ∨ ∃ t p, e = .iface t p)
theorem gTab : Tryd.prog.globalNamed "internal/strconv.uint64pow10" = some 2 := by kernel_rfl
theorem Lk.sees {h h' : Vw} (l : Lk h) (s : Sees h h') : Lk h' := by
  obtain ⟨⟨m, h1⟩, h2, h3, h4, ⟨e, h5, h6⟩, ⟨f, h7, h8⟩⟩ := l
  refine ⟨⟨m, h1.sees s⟩, Nat.lt_of_lt_of_le h2 s.size, fun k => h3 (s.bad _ k h2), ?_, ⟨e, h5.sees s, h6⟩, ⟨f, h7.sees s, h8⟩⟩
  have hb := s.block _ h2 h3
  unfold Lib.TabIs World.var? at h4 ⊢
  rw [gTab] at h4 ⊢
  simp only [Option.bind_some] at h4 ⊢
  rw [hb]; exact h4
theorem Cells.one {h : Vw} {b : Nat} {v : Value} (c : Cells h b 0 [v]) : h.w.cell? ⟨b, 0, none⟩ = some v := by
  have := c.lies 0 v rfl
  simpa using this
theorem C0.at_ {f : FuncId} {args : Array Value} {v : Value} {h : Vw} (hc : Calls Tryd.prog f args h.w fun e w' => e = .returned v ∧ Below h.w.heap.size h.w w') : C0 Tryd.prog f args h (fun r _ => r = v) := by
  intro _ _ _ _
  refine hc.mono ?_
  rintro e w' ⟨rfl, hb⟩
  exact ⟨_, [], rfl, Low.of_below hb, (fun x hx => by cases hx), rfl, rfl⟩

/-! ### Go's library -/
theorem below_gd (w : World) (k : Nat) (os : Array Obj) : Below w.heap.size w (grow (w.drewN k) os) := by
  refine ⟨rfl, rfl, rfl, by simp [grow], fun j hj => ?_⟩
  show (w.heap ++ os)[j]? = _
  rw [Array.getElem?_append_left hj]
theorem c_itoa (n : Int) (h : Vw) (l : Lk h) (h0 : -9223372036854775808 ≤ n) (h1 : n ≤ 9223372036854775807) : C0 Tryd.prog 12 #[.int .i64 n] h (fun r _ => r = .string ⟨(Lib.itoa n).toArray⟩) :=
  C0.at_ ((Tryd.strconv_Itoa n h0 h1 h.w l.tb).mono fun e w' ⟨he, k, os, hw⟩ => ⟨he, by subst hw; exact below_gd _ _ _⟩)
theorem c_fmt (b : Bool) (h : Vw) : C0 Tryd.prog 13 #[.bool b] h (fun r _ => r = .string (if b then btrue else bfalse)) :=
  C0.at_ ((Tryd.strconv_FormatBool b h.w).mono fun e w' ⟨he, hw⟩ => ⟨by rw [he]; cases b <;> rfl, by rw [hw]; exact Below.refl _ _⟩)
theorem c_pre (s : ByteArray) (c : UInt8) (h : Vw) : C0 Tryd.prog 15 #[.string s, .string ⟨#[c]⟩] h (fun r _ => r = .bool (Lib.hasPrefix s.data.toList [c])) :=
  C0.at_ ((Tryd.strings_HasPrefix s ⟨#[c]⟩ h.w).mono fun e w' ⟨he, hw⟩ => ⟨he, by rw [hw]; exact Below.refl _ _⟩)
theorem c_rep (s old new : ByteArray) (h : Vw) (l : Lk h) (hs : s.size ≤ 1000) (h1 : 1 ≤ old.size) (h2 : Lib.countB s old * new.size ≤ 1000000) : C0 Tryd.prog 14 #[.string s, .string old, .string new] h (fun r _ => r = .string ⟨(Lib.replaceAll s.data.toList old.data.toList new.data.toList).toArray⟩) := by
  obtain ⟨m, hm⟩ := l.mx
  exact C0.at_ ((Tryd.strings_ReplaceAll s old new m h.w (by omega) hm.one h1 (by omega)).mono fun e w' h => h)
theorem c_atoi (s : ByteArray) (h : Vw) (l : Lk h) (hs : s.size ≤ 281474976710656) : C0 Tryd.prog 16 #[.string s] h (fun r _ => ∃ u, r = .tuple #[.int .i64 (atoiN s.data.toList), u]) := by
  unfold atoiN
  have key : ∀ (x : Int), (Calls Tryd.prog 16 #[.string s] h.w fun e w' => (∃ u, e = .returned (.tuple #[.int .i64 x, u])) ∧ Below h.w.heap.size h.w w') → C0 Tryd.prog 16 #[.string s] h (fun r _ => ∃ u, r = .tuple #[.int .i64 x, u]) := by
    intro x hc _ _ _ _
    refine hc.mono ?_
    rintro e w' ⟨⟨u, rfl⟩, hb⟩
    exact ⟨_, [], rfl, Low.of_below hb, (fun x hx => by cases hx), rfl, u, rfl⟩
  rcases atoi_ends s.data.toList with ⟨v, hq⟩ | hq | hq
  · rw [hq]
    refine key v ((Tryd.strconv_Atoi_ok s (by omega) v hq h.w).mono ?_)
    rintro e w' ⟨rfl, hw⟩
    refine ⟨⟨_, rfl⟩, ?_⟩
    rcases hw with rfl | ⟨t, rfl⟩
    · exact Below.refl _ _
    · exact Lib.bytesWorld_below _ _ _
  · obtain ⟨ev, hv, hev⟩ := l.sy
    rw [hq]
    refine key 0 ((Any.strconv_Atoi_syntax Tryd.laysC172 s hs hq ev h.w hv.one hev).mono ?_)
    rintro e w' ⟨N, rfl, -, -, hb⟩
    exact ⟨⟨_, rfl⟩, hb⟩
  · obtain ⟨ev, hv, hev⟩ := l.rg
    rw [hq]
    refine key _ ((Tryd.strconv_Atoi_range s hs hq ev h.w hv.one hev).mono ?_)
    rintro e w' ⟨N, rfl, -, -, hb⟩
    exact ⟨⟨_, rfl⟩, hb⟩
theorem pre_yes {s : ByteArray} {c : UInt8} {r : List UInt8} (h : s.data.toList = c :: r) (d : UInt8) : Lib.hasPrefix s.data.toList [d] = (d == c) := by
  rw [h]
  by_cases e : d = c
  · subst e; simp [Lib.hasPrefix, List.isPrefixOf]
  · have e1 : (d == c) = false := beq_eq_false_iff_ne.2 e
    rw [e1]; simp [Lib.hasPrefix, List.isPrefixOf, e1]
theorem pre_no {s : ByteArray} (h : s.data.toList = []) (d : UInt8) : Lib.hasPrefix s.data.toList [d] = false := by rw [h]; rfl

/-! ### A sign of a text; a text of bytes -/
theorem run_sidx {o : Oper} {ρ : Operand → Value} {t : TypeId} {x y : Operand} {s : ByteArray} {i : Nat} {P : Program} {w : World} (ho : o.op = .index t x y) (hx : ρ x = .string s) (hy : ρ y = .int .i64 (i : Int)) (ht : P.underlying t = some .string) (hi : i < s.size) :
    (execOp ρ o).run P w = .ok (.value (.int .u8 (s[i].toNat : Int))) w := by
  unfold execOp
  simp only [ho, hx, hy, Sem.run_bind]
  rw [run_index_string w t s .i64 i ht, dif_pos (by omega)]
  simp [Sem.run_pure]
/-- Bytes as rows. -/
abbrev byRows (l : List UInt8) : List (List Value) := l.map fun c => [.int .u8 (c.toNat : Int)]
theorem run_textr {o : Oper} {ρ : Operand → Value} {src dst e : TypeId} {x : Operand} {v : Value} {l : List UInt8} {P : Program} {w : World} {h : Vw} {bd : List Nat} (ho : o.op = .convert src dst x) (hx : ρ x = v) (hs : P.underlying src = some (.slice e)) (he : P.underlying e = some (.int .u8)) (hd : P.underlying dst = some .string)
    (hr : RS h 1 v (byRows l)) (s : Sees h ⟨w, bd⟩) : (execOp ρ o).run P w = .ok (.value (.string ⟨l.toArray⟩)) w := by
  have hr' := hr.sees s
  unfold execOp
  simp only [ho, hx, Sem.run_bind]
  rcases hr' with ⟨A, cap, rfl, hA, -, hl⟩ | ⟨b, off, cap, rfl, -, -, -, -, hc⟩
  · obtain rfl : l = [] := by simpa using hl
    cases A with
    | none => rw [run_convert_bytes_nil w src e hs he 0 cap dst hd]; rfl
    | some a =>
      have := run_convert_bytes_back w src dst e a cap [] hs he hd (fun j hj => absurd hj (Nat.not_lt_zero _))
      simp only [List.length_nil] at this
      rw [this]; simp [Sem.run_pure]
  · rw [List.length_map]
    rw [run_convert_bytes_back w src dst e ⟨b, off, none⟩ cap l hs he hd (fun j hj => by
      have := hc j [.int .u8 (l[j].toNat : Int)] (by rw [List.getElem?_map, List.getElem?_eq_getElem hj]; rfl) 0 _ rfl
      rw [show ((⟨b, off, none⟩ : Addr).add j) = ⟨b, off + j * 1 + 0, none⟩ from by unfold Addr.add; split <;> simp_all]; exact this)]
    simp [Sem.run_pure]

theorem byRows_snoc (l : List UInt8) (c : UInt8) : byRows (l ++ [c]) = byRows l ++ [[.int .u8 (c.toNat : Int)]] := by simp [byRows]
set_option maxRecDepth 100000 in
theorem unq_any (s : ByteArray) (h : Vw) (hs : s.size ≤ 140737488351232) : C0 Tryd.prog 17 #[.string s] h (fun r _ => r = .string ⟨(unqS s).toArray⟩) := by
  refine x_con Tryd.func17 (c := Tryd.f17.body.getD .skip) (by kernel_rfl) (N := 33) rfl (by kernel_rfl) ?_
  intro hbx hbad Q hQ a w hJ
  replace hJ : K ⟨33, h.w, h.bad, []⟩ [(0, .string s)] [] [] h a w := hJ.to (by kernel_rfl) (by kernel_rfl) rfl
  replace hJ := hJ.nilrow 5 1
  refine rx hJ false 17 [] [] (.ok (.code [0, 1, 0, 1, 1]) [.block 0, .seq [1, 1, 1]] [(0, .string s), (2, .string ⟨#[]⟩), (3, .slice none 0 0), (4, .int .i64 1)] [.row (.slice none 0 0) 5 1 ([])] []) trivial trivial (fun _ => by kernel_rfl) ?_
  clear hJ a w; intro a w hJ
  refine x_loop (fun (k : Nat) a w => ∃ (h1 : Vw) (v : Value) (out : List UInt8), K ⟨33, h.w, h.bad, []⟩ [(0, .string s), (2, .string ⟨#[]⟩), (4, .int .i64 (k : Int)), (3, v)] [.row v 5 1 (byRows out)] [] h1 a w ∧ Sees h h1 ∧ (out.length + 1 ≤ k) ∧ (out ++ unqL (betw s k) = unqS s)) (fun k => s.size - k) (1) (by kernel_rfl) ⟨h, (.slice none 0 0), [], hJ.to (by kernel_rfl) (by kernel_rfl) rfl, Sees.refl _, Nat.le_refl _, rfl⟩ ?_
  clear hJ a w; rintro k a w ⟨h1, v, out, hJ, s2, ho, hq⟩
  refine rx hJ false 10 [] [(8, .int .i64 (IntKind.i64.wrap ((s.size : Int) - 1)), .int .i64 ((s.size : Int) - 1))] (.ok (.code [1, 0, 0, 0, 1, 0, 1, 1]) [.seq [1, 0, 0, 1, 0, 1, 1]] [(0, .string s), (2, .string ⟨#[]⟩), (4, .int .i64 (k : Int)), (3, v), (5, .int .i64 (k : Int)), (6, .string s), (7, .int .i64 (s.size : Int)), (8, .int .i64 ((s.size : Int) - 1)), (9, .bool (decide ((k : Int) < ((s.size : Int) - 1))))] [.row v 5 1 (byRows out)] []) trivial (And.intro (i64_wrap (by omega) (by omega)) (trivial)) (fun _ => by kernel_rfl) ?_
  clear hJ a w; intro a w hJ
  rcases (by omega : k + 1 < s.size ∨ s.size ≤ k + 1) with hlt | hke
  · have wr1 : Value.int .i64 (IntKind.i64.wrap ((k : Int) + 1)) = .int .i64 ((k + 1 : Nat) : Int) := by rw [i64_wrap (by omega) (by omega)]; rfl
    refine x_true hJ (t := decide ((k : Int) < ((s.size : Int) - 1))) (by kernel_rfl) (decide_eq_true (by omega)) ?_
    refine rx hJ false 9 [] [] (.ok (.ops [0, 0, 0, 0, 1, 0, 0, 1, 0, 1, 1] 2) [.seq [1, 0, 0, 0, 1, 0, 0, 1, 0, 1, 1], .seq [1, 0, 0, 1, 0, 0, 1, 0, 1, 1], .block 1, .seq [1, 1, 0, 0, 1, 0, 1, 1]] [(0, .string s), (2, .string ⟨#[]⟩), (4, .int .i64 (k : Int)), (3, v), (5, .int .i64 (k : Int)), (6, .string s), (7, .int .i64 (s.size : Int)), (8, .int .i64 ((s.size : Int) - 1)), (9, .bool (decide ((k : Int) < ((s.size : Int) - 1)))), (12, .string s), (13, .int .i64 (k : Int))] [.row v 5 1 (byRows out)] []) trivial trivial (fun _ => by kernel_rfl) ?_
    clear hJ a w; intro a w hJ
    refine x_pure hJ 14 (.int .u8 (s[k].toNat : Int)) (by kernel_rfl) (fun w => run_sidx (x := (.tmp 12)) (y := (.tmp 13)) (t := 9) (s := s) (i := k) (by kernel_rfl) (by kernel_rfl) (by kernel_rfl) Tryd.underlying9 ((by omega))) ?_; clear hJ a w; intro a w hJ
    refine rx hJ false 2 [] [] (.ok (.ops [0, 0, 0, 0, 1, 0, 0, 1, 0, 1, 1] 5) [.seq [1, 0, 0, 0, 1, 0, 0, 1, 0, 1, 1], .seq [1, 0, 0, 1, 0, 0, 1, 0, 1, 1], .block 1, .seq [1, 1, 0, 0, 1, 0, 1, 1]] [(0, .string s), (2, .string ⟨#[]⟩), (4, .int .i64 (k : Int)), (3, v), (5, .int .i64 (k : Int)), (6, .string s), (7, .int .i64 (s.size : Int)), (8, .int .i64 ((s.size : Int) - 1)), (9, .bool (decide ((k : Int) < ((s.size : Int) - 1)))), (12, .string s), (13, .int .i64 (k : Int)), (14, .int .u8 (s[k].toNat : Int)), (15, .bool ((s[k].toNat : Int) == 92)), (16, .bool ((s[k].toNat : Int) == 92))] [.row v 5 1 (byRows out)] []) trivial trivial (fun _ => by kernel_rfl) ?_
    clear hJ a w; intro a w hJ
    by_cases h92 : s[k] = 92
    · replace hJ := hJ.rew 16 (v := .bool ((s[k].toNat : Int) == 92)) (v' := .bool true) (congrArg Value.bool (by rw [h92]; rfl)) (by kernel_rfl)
      replace hJ : K ⟨33, h.w, h.bad, []⟩ [(0, .string s), (2, .string ⟨#[]⟩), (4, .int .i64 (k : Int)), (3, v), (5, .int .i64 (k : Int)), (6, .string s), (7, .int .i64 (s.size : Int)), (8, .int .i64 ((s.size : Int) - 1)), (9, .bool (decide ((k : Int) < ((s.size : Int) - 1)))), (12, .string s), (13, .int .i64 (k : Int)), (14, .int .u8 (s[k].toNat : Int)), (15, .bool ((s[k].toNat : Int) == 92)), (16, .bool true)] [.row v 5 1 (byRows out)] [] h1 a w := hJ.to (by kernel_rfl) rfl rfl
      by_cases h2 : k + 2 < s.size
      · skip
        refine rx hJ false 19 [] [(20, .int .i64 (IntKind.i64.wrap ((s.size : Int) - 2)), .int .i64 ((s.size : Int) - 2)), (21, .bool (decide ((k : Int) < ((s.size : Int) - 2))), .bool true), (24, .int .i64 (IntKind.i64.wrap ((k : Int) + 1)), .int .i64 ((k + 1 : Nat) : Int))] (.ok (.ops [1, 0, 0, 1, 0, 0, 1, 0, 1, 1] 3) [.block 1, .seq [1, 1, 0, 0, 1, 0, 1, 1]] [(0, .string s), (2, .string ⟨#[]⟩), (3, v), (5, .int .i64 (k : Int)), (6, .string s), (7, .int .i64 (s.size : Int)), (8, .int .i64 ((s.size : Int) - 1)), (9, .bool (decide ((k : Int) < ((s.size : Int) - 1)))), (12, .string s), (13, .int .i64 (k : Int)), (14, .int .u8 (s[k].toNat : Int)), (15, .bool ((s[k].toNat : Int) == 92)), (16, .bool true), (17, .int .i64 (k : Int)), (18, .string s), (19, .int .i64 (s.size : Int)), (20, .int .i64 ((s.size : Int) - 2)), (21, .bool true), (22, .bool true), (23, .int .i64 (k : Int)), (24, .int .i64 ((k + 1 : Nat) : Int)), (4, .int .i64 ((k + 1 : Nat) : Int)), (25, v), (26, .string s), (27, .int .i64 ((k + 1 : Nat) : Int))] [.row v 5 1 (byRows out)] []) trivial (And.intro (i64_wrap (by omega) (by omega)) (And.intro (congrArg Value.bool (decide_eq_true (by omega))) (And.intro (wr1) (trivial)))) (fun _ => by kernel_rfl) ?_
        clear hJ a w; intro a w hJ
        refine x_pure hJ 28 (.int .u8 (s[k + 1].toNat : Int)) (by kernel_rfl) (fun w => run_sidx (x := (.tmp 26)) (y := (.tmp 27)) (t := 9) (s := s) (i := k + 1) (by kernel_rfl) (by kernel_rfl) (by kernel_rfl) Tryd.underlying9 ((by omega))) ?_; clear hJ a w; intro a w hJ
        refine rx hJ true 1 [.fix] [] (.new fun b3 => .ok (.ops [1, 0, 0, 1, 0, 0, 1, 0, 1, 1] 5) [.block 1, .seq [1, 1, 0, 0, 1, 0, 1, 1]] [(0, .string s), (2, .string ⟨#[]⟩), (3, v), (5, .int .i64 (k : Int)), (6, .string s), (7, .int .i64 (s.size : Int)), (8, .int .i64 ((s.size : Int) - 1)), (9, .bool (decide ((k : Int) < ((s.size : Int) - 1)))), (12, .string s), (13, .int .i64 (k : Int)), (14, .int .u8 (s[k].toNat : Int)), (15, .bool ((s[k].toNat : Int) == 92)), (16, .bool true), (17, .int .i64 (k : Int)), (18, .string s), (19, .int .i64 (s.size : Int)), (20, .int .i64 ((s.size : Int) - 2)), (21, .bool true), (22, .bool true), (23, .int .i64 (k : Int)), (24, .int .i64 ((k + 1 : Nat) : Int)), (4, .int .i64 ((k + 1 : Nat) : Int)), (25, v), (26, .string s), (27, .int .i64 ((k + 1 : Nat) : Int)), (28, .int .u8 (s[k + 1].toNat : Int)), (29, .slice (some ⟨b3, 0, none⟩) 1 1)] [.row v 5 1 (byRows out)] [(b3, 0, [.int .u8 (s[k + 1].toNat : Int)])]) trivial trivial (fun b3 _ => by kernel_rfl) ?_
        clear hJ a w; intro b3 h4 a w s5 hJ
        refine x_append hJ 30 0 (v := v) (kk := 1) (t := 47) (te := 5) (l := (byRows out)) (ns := [[.int .u8 (s[k + 1].toNat : Int)]]) (b := b3) (m := 1) (c := 1) (y := (.tmp 25)) (z := (.tmp 29)) (zv := .int .u8 0) (bytes := 1) (by kernel_rfl) (by kernel_rfl) (by kernel_rfl) rfl (by kernel_rfl) (by kernel_rfl) (hJ.f _ (List.mem_of_getElem? (i := 0) rfl)) (Sees.refl _) Tryd.underlying47 (by kernel_rfl) (by kernel_rfl) (by kernel_rfl) (by simp; omega) ?_; clear hJ a w; intro v30 h6 a w s7 hJ
        refine rx hJ false 9 [] [(11, .int .i64 (IntKind.i64.wrap (((k + 1 : Nat) : Int) + 1)), .int .i64 (((k + 1 : Nat) : Int) + 1))] (.ok (.out .normal) [] [(0, .string s), (2, .string ⟨#[]⟩), (5, .int .i64 (k : Int)), (6, .string s), (7, .int .i64 (s.size : Int)), (8, .int .i64 ((s.size : Int) - 1)), (9, .bool (decide ((k : Int) < ((s.size : Int) - 1)))), (12, .string s), (13, .int .i64 (k : Int)), (14, .int .u8 (s[k].toNat : Int)), (15, .bool ((s[k].toNat : Int) == 92)), (16, .bool true), (17, .int .i64 (k : Int)), (18, .string s), (19, .int .i64 (s.size : Int)), (20, .int .i64 ((s.size : Int) - 2)), (21, .bool true), (22, .bool true), (23, .int .i64 (k : Int)), (24, .int .i64 ((k + 1 : Nat) : Int)), (25, v), (26, .string s), (27, .int .i64 ((k + 1 : Nat) : Int)), (28, .int .u8 (s[k + 1].toNat : Int)), (29, .slice (some ⟨b3, 0, none⟩) 1 1), (30, .slice (sA v30) (sN v30) (sC v30)), (3, .slice (sA v30) (sN v30) (sC v30)), (10, .int .i64 ((k + 1 : Nat) : Int)), (11, .int .i64 (((k + 1 : Nat) : Int) + 1)), (4, .int .i64 (((k + 1 : Nat) : Int) + 1))] [.row (.slice (sA v30) (sN v30) (sC v30)) 5 1 ((byRows out) ++ [[.int .u8 (s[k + 1].toNat : Int)]])] [(b3, 0, [.int .u8 (s[k + 1].toNat : Int)])]) trivial (And.intro (i64_wrap (by omega) (by omega)) (trivial)) (fun _ => by kernel_rfl) ?_
        clear hJ a w; intro a w hJ
        exact x_round ⟨k + 2, ⟨h6, .slice (sA v30) (sN v30) (sC v30), out ++ [s[k + 1]], (hJ.tof [] (F' := []) (by kernel_rfl)).to (by kernel_rfl) (by rw [byRows_snoc]) rfl, (s2.trans (s5.trans s7)), by simp; omega, by rw [← hq, unq_skip s k h2 h92]; simp⟩, by omega⟩
      · skip
        refine rx hJ false 15 [] [(20, .int .i64 (IntKind.i64.wrap ((s.size : Int) - 2)), .int .i64 ((s.size : Int) - 2)), (21, .bool (decide ((k : Int) < ((s.size : Int) - 2))), .bool false)] (.ok (.ops [1, 0, 0, 1, 0, 0, 1, 0, 1, 1] 3) [.block 1, .seq [1, 1, 0, 0, 1, 0, 1, 1]] [(0, .string s), (2, .string ⟨#[]⟩), (4, .int .i64 (k : Int)), (3, v), (5, .int .i64 (k : Int)), (6, .string s), (7, .int .i64 (s.size : Int)), (8, .int .i64 ((s.size : Int) - 1)), (9, .bool (decide ((k : Int) < ((s.size : Int) - 1)))), (12, .string s), (13, .int .i64 (k : Int)), (14, .int .u8 (s[k].toNat : Int)), (15, .bool ((s[k].toNat : Int) == 92)), (16, .bool true), (17, .int .i64 (k : Int)), (18, .string s), (19, .int .i64 (s.size : Int)), (20, .int .i64 ((s.size : Int) - 2)), (21, .bool false), (22, .bool false), (25, v), (26, .string s), (27, .int .i64 (k : Int))] [.row v 5 1 (byRows out)] []) trivial (And.intro (i64_wrap (by omega) (by omega)) (And.intro (congrArg Value.bool (decide_eq_false (by omega))) (trivial))) (fun _ => by kernel_rfl) ?_
        clear hJ a w; intro a w hJ
        refine x_pure hJ 28 (.int .u8 (s[k].toNat : Int)) (by kernel_rfl) (fun w => run_sidx (x := (.tmp 26)) (y := (.tmp 27)) (t := 9) (s := s) (i := k) (by kernel_rfl) (by kernel_rfl) (by kernel_rfl) Tryd.underlying9 ((by omega))) ?_; clear hJ a w; intro a w hJ
        refine rx hJ true 1 [.fix] [] (.new fun b8 => .ok (.ops [1, 0, 0, 1, 0, 0, 1, 0, 1, 1] 5) [.block 1, .seq [1, 1, 0, 0, 1, 0, 1, 1]] [(0, .string s), (2, .string ⟨#[]⟩), (4, .int .i64 (k : Int)), (3, v), (5, .int .i64 (k : Int)), (6, .string s), (7, .int .i64 (s.size : Int)), (8, .int .i64 ((s.size : Int) - 1)), (9, .bool (decide ((k : Int) < ((s.size : Int) - 1)))), (12, .string s), (13, .int .i64 (k : Int)), (14, .int .u8 (s[k].toNat : Int)), (15, .bool ((s[k].toNat : Int) == 92)), (16, .bool true), (17, .int .i64 (k : Int)), (18, .string s), (19, .int .i64 (s.size : Int)), (20, .int .i64 ((s.size : Int) - 2)), (21, .bool false), (22, .bool false), (25, v), (26, .string s), (27, .int .i64 (k : Int)), (28, .int .u8 (s[k].toNat : Int)), (29, .slice (some ⟨b8, 0, none⟩) 1 1)] [.row v 5 1 (byRows out)] [(b8, 0, [.int .u8 (s[k].toNat : Int)])]) trivial trivial (fun b8 _ => by kernel_rfl) ?_
        clear hJ a w; intro b8 h9 a w s10 hJ
        refine x_append hJ 30 0 (v := v) (kk := 1) (t := 47) (te := 5) (l := (byRows out)) (ns := [[.int .u8 (s[k].toNat : Int)]]) (b := b8) (m := 1) (c := 1) (y := (.tmp 25)) (z := (.tmp 29)) (zv := .int .u8 0) (bytes := 1) (by kernel_rfl) (by kernel_rfl) (by kernel_rfl) rfl (by kernel_rfl) (by kernel_rfl) (hJ.f _ (List.mem_of_getElem? (i := 0) rfl)) (Sees.refl _) Tryd.underlying47 (by kernel_rfl) (by kernel_rfl) (by kernel_rfl) (by simp; omega) ?_; clear hJ a w; intro v30 h11 a w s12 hJ
        refine rx hJ false 9 [] [(11, .int .i64 (IntKind.i64.wrap ((k : Int) + 1)), .int .i64 ((k : Int) + 1))] (.ok (.out .normal) [] [(0, .string s), (2, .string ⟨#[]⟩), (5, .int .i64 (k : Int)), (6, .string s), (7, .int .i64 (s.size : Int)), (8, .int .i64 ((s.size : Int) - 1)), (9, .bool (decide ((k : Int) < ((s.size : Int) - 1)))), (12, .string s), (13, .int .i64 (k : Int)), (14, .int .u8 (s[k].toNat : Int)), (15, .bool ((s[k].toNat : Int) == 92)), (16, .bool true), (17, .int .i64 (k : Int)), (18, .string s), (19, .int .i64 (s.size : Int)), (20, .int .i64 ((s.size : Int) - 2)), (21, .bool false), (22, .bool false), (25, v), (26, .string s), (27, .int .i64 (k : Int)), (28, .int .u8 (s[k].toNat : Int)), (29, .slice (some ⟨b8, 0, none⟩) 1 1), (30, .slice (sA v30) (sN v30) (sC v30)), (3, .slice (sA v30) (sN v30) (sC v30)), (10, .int .i64 (k : Int)), (11, .int .i64 ((k : Int) + 1)), (4, .int .i64 ((k : Int) + 1))] [.row (.slice (sA v30) (sN v30) (sC v30)) 5 1 ((byRows out) ++ [[.int .u8 (s[k].toNat : Int)]])] [(b8, 0, [.int .u8 (s[k].toNat : Int)])]) trivial (And.intro (i64_wrap (by omega) (by omega)) (trivial)) (fun _ => by kernel_rfl) ?_
        clear hJ a w; intro a w hJ
        exact x_round ⟨k + 1, ⟨h11, .slice (sA v30) (sN v30) (sC v30), out ++ [s[k]], (hJ.tof [] (F' := []) (by kernel_rfl)).to (by kernel_rfl) (by rw [byRows_snoc]) rfl, (s2.trans (s10.trans s12)), by simp; omega, by rw [← hq, unq_one s k hlt (.inr (by omega))]; simp⟩, by omega⟩
    · skip
      have n92 : ((s[k].toNat : Int) == 92) = false := beq_eq_false_iff_ne.2 (fun q => h92 (UInt8.toNat_inj.1 (show s[k].toNat = 92 by omega)))
      replace hJ := hJ.rew 16 (v := .bool ((s[k].toNat : Int) == 92)) (v' := .bool false) (congrArg Value.bool n92) (by kernel_rfl)
      replace hJ : K ⟨33, h.w, h.bad, []⟩ [(0, .string s), (2, .string ⟨#[]⟩), (4, .int .i64 (k : Int)), (3, v), (5, .int .i64 (k : Int)), (6, .string s), (7, .int .i64 (s.size : Int)), (8, .int .i64 ((s.size : Int) - 1)), (9, .bool (decide ((k : Int) < ((s.size : Int) - 1)))), (12, .string s), (13, .int .i64 (k : Int)), (14, .int .u8 (s[k].toNat : Int)), (15, .bool ((s[k].toNat : Int) == 92)), (16, .bool false)] [.row v 5 1 (byRows out)] [] h1 a w := hJ.to (by kernel_rfl) rfl rfl
      refine rx hJ false 15 [] [] (.ok (.ops [1, 0, 0, 1, 0, 0, 1, 0, 1, 1] 3) [.block 1, .seq [1, 1, 0, 0, 1, 0, 1, 1]] [(0, .string s), (2, .string ⟨#[]⟩), (4, .int .i64 (k : Int)), (3, v), (5, .int .i64 (k : Int)), (6, .string s), (7, .int .i64 (s.size : Int)), (8, .int .i64 ((s.size : Int) - 1)), (9, .bool (decide ((k : Int) < ((s.size : Int) - 1)))), (12, .string s), (13, .int .i64 (k : Int)), (14, .int .u8 (s[k].toNat : Int)), (15, .bool ((s[k].toNat : Int) == 92)), (16, .bool false), (22, .bool false), (25, v), (26, .string s), (27, .int .i64 (k : Int))] [.row v 5 1 (byRows out)] []) trivial trivial (fun _ => by kernel_rfl) ?_
      clear hJ a w; intro a w hJ
      refine x_pure hJ 28 (.int .u8 (s[k].toNat : Int)) (by kernel_rfl) (fun w => run_sidx (x := (.tmp 26)) (y := (.tmp 27)) (t := 9) (s := s) (i := k) (by kernel_rfl) (by kernel_rfl) (by kernel_rfl) Tryd.underlying9 ((by omega))) ?_; clear hJ a w; intro a w hJ
      refine rx hJ true 1 [.fix] [] (.new fun b13 => .ok (.ops [1, 0, 0, 1, 0, 0, 1, 0, 1, 1] 5) [.block 1, .seq [1, 1, 0, 0, 1, 0, 1, 1]] [(0, .string s), (2, .string ⟨#[]⟩), (4, .int .i64 (k : Int)), (3, v), (5, .int .i64 (k : Int)), (6, .string s), (7, .int .i64 (s.size : Int)), (8, .int .i64 ((s.size : Int) - 1)), (9, .bool (decide ((k : Int) < ((s.size : Int) - 1)))), (12, .string s), (13, .int .i64 (k : Int)), (14, .int .u8 (s[k].toNat : Int)), (15, .bool ((s[k].toNat : Int) == 92)), (16, .bool false), (22, .bool false), (25, v), (26, .string s), (27, .int .i64 (k : Int)), (28, .int .u8 (s[k].toNat : Int)), (29, .slice (some ⟨b13, 0, none⟩) 1 1)] [.row v 5 1 (byRows out)] [(b13, 0, [.int .u8 (s[k].toNat : Int)])]) trivial trivial (fun b13 _ => by kernel_rfl) ?_
      clear hJ a w; intro b13 h14 a w s15 hJ
      refine x_append hJ 30 0 (v := v) (kk := 1) (t := 47) (te := 5) (l := (byRows out)) (ns := [[.int .u8 (s[k].toNat : Int)]]) (b := b13) (m := 1) (c := 1) (y := (.tmp 25)) (z := (.tmp 29)) (zv := .int .u8 0) (bytes := 1) (by kernel_rfl) (by kernel_rfl) (by kernel_rfl) rfl (by kernel_rfl) (by kernel_rfl) (hJ.f _ (List.mem_of_getElem? (i := 0) rfl)) (Sees.refl _) Tryd.underlying47 (by kernel_rfl) (by kernel_rfl) (by kernel_rfl) (by simp; omega) ?_; clear hJ a w; intro v30 h16 a w s17 hJ
      refine rx hJ false 9 [] [(11, .int .i64 (IntKind.i64.wrap ((k : Int) + 1)), .int .i64 ((k : Int) + 1))] (.ok (.out .normal) [] [(0, .string s), (2, .string ⟨#[]⟩), (5, .int .i64 (k : Int)), (6, .string s), (7, .int .i64 (s.size : Int)), (8, .int .i64 ((s.size : Int) - 1)), (9, .bool (decide ((k : Int) < ((s.size : Int) - 1)))), (12, .string s), (13, .int .i64 (k : Int)), (14, .int .u8 (s[k].toNat : Int)), (15, .bool ((s[k].toNat : Int) == 92)), (16, .bool false), (22, .bool false), (25, v), (26, .string s), (27, .int .i64 (k : Int)), (28, .int .u8 (s[k].toNat : Int)), (29, .slice (some ⟨b13, 0, none⟩) 1 1), (30, .slice (sA v30) (sN v30) (sC v30)), (3, .slice (sA v30) (sN v30) (sC v30)), (10, .int .i64 (k : Int)), (11, .int .i64 ((k : Int) + 1)), (4, .int .i64 ((k : Int) + 1))] [.row (.slice (sA v30) (sN v30) (sC v30)) 5 1 ((byRows out) ++ [[.int .u8 (s[k].toNat : Int)]])] [(b13, 0, [.int .u8 (s[k].toNat : Int)])]) trivial (And.intro (i64_wrap (by omega) (by omega)) (trivial)) (fun _ => by kernel_rfl) ?_
      clear hJ a w; intro a w hJ
      exact x_round ⟨k + 1, ⟨h16, .slice (sA v30) (sN v30) (sC v30), out ++ [s[k]], (hJ.tof [] (F' := []) (by kernel_rfl)).to (by kernel_rfl) (by rw [byRows_snoc]) rfl, (s2.trans (s15.trans s17)), by simp; omega, by rw [← hq, unq_one s k hlt (.inl h92)]; simp⟩, by omega⟩
  · skip
    rw [betw_end s k hke, unqL, List.append_nil] at hq
    refine x_false hJ (t := decide ((k : Int) < ((s.size : Int) - 1))) (by kernel_rfl) (decide_eq_false (by omega)) ?_
    refine rx hJ false 2 [] [] (.ok (.out (.exit 0)) [] [(0, .string s), (2, .string ⟨#[]⟩), (4, .int .i64 (k : Int)), (3, v), (5, .int .i64 (k : Int)), (6, .string s), (7, .int .i64 (s.size : Int)), (8, .int .i64 ((s.size : Int) - 1)), (9, .bool (decide ((k : Int) < ((s.size : Int) - 1))))] [.row v 5 1 (byRows out)] []) trivial trivial (fun _ => by kernel_rfl) ?_
    clear hJ a w; intro a w hJ
    refine x_leave rfl ?_
    refine rx hJ false 5 [] [] (.ok (.ops [0, 1, 1, 1] 1) [.seq [1, 1, 1, 1]] [(2, .string ⟨#[]⟩), (31, v)] [.row v 5 1 (byRows out)] []) trivial trivial (fun _ => by kernel_rfl) ?_
    clear hJ a w; intro a w hJ
    obtain ⟨h18, s19, fr, hJn⟩ := hJ.frozen (v := v) (e := 5) (k := 1) (l := byRows out) 0 (by kernel_rfl) (hJ.j.rowOut0 (v := v) (e := 5) (k := 1) (l := byRows out) 0 (by kernel_rfl) rfl); clear hJ; have hJ := hJn; clear hJn
    refine x_purew hJ 32 (.string ⟨(out).toArray⟩) (by kernel_rfl) (run_textr (src := 47) (dst := 9) (x := (.tmp 31)) (v := v) (l := out) (by kernel_rfl) (by kernel_rfl) Tryd.underlying47 Tryd.underlying5 Tryd.underlying9 ((fr.sees hJ.j.sees)) (Sees.refl _)) ?_; clear hJ a w; intro a w hJ
    refine rx hJ false 4 [] [] (.ok (.out .ret) [] [(2, .string ⟨(out).toArray⟩)] [] []) trivial trivial (fun _ => by kernel_rfl) ?_
    clear hJ a w; intro a w hJ
    refine x_end (hQ [.string ⟨(out).toArray⟩] _ [] hJ (.rtmp hJ.j (by kernel_rfl) .nil) (no_own _) rfl ?_).1
    exact congrArg (fun l : List UInt8 => Value.string ⟨l.toArray⟩) hq

/-! ### Check -/
theorem ck_int (n : Int) (h : Vw) (hn : n < -1099511627776 ∨ 1099511627776 < n) : C0 Tryd.prog 11 #[.agg #[.int .i64 1, .int .i64 n, .string ⟨#[]⟩]] h (fun r _ => r = .int .i64 7) := by
  have hc := fun H => C0.of_same (fun w => check_over n w hn) H
  refine x_con Tryd.func11 (c := Tryd.f11.body.getD .skip) (by kernel_rfl) (N := 50) rfl (by kernel_rfl) ?_
  intro hbx hbad Q hQ a w hJ
  replace hJ : K ⟨50, h.w, h.bad, []⟩ [(0, .agg #[.int .i64 1, .int .i64 n, .string ⟨#[]⟩])] [] [] h a w := hJ.to (by kernel_rfl) (by kernel_rfl) rfl
  refine rx hJ false 45 [.own, .b 0 0, .b 0 1, .cl 18 #[.int .i64 n] (.int .i64 7)] [] (.new fun b1 => .ok (.out .ret) [] [(2, .int .i64 7)] [.box b1 [.int .i64 1, .int .i64 n, .string ⟨#[]⟩]] []) (And.intro (fun H sH => hc _) (trivial)) trivial (fun b1 _ => by kernel_rfl) ?_
  clear hJ a w; intro b1 a w hJ
  refine x_end (hQ [.int .i64 7] _ [] hJ (.rtmp hJ.j (by kernel_rfl) .nil) (no_own _) rfl ?_).1
  exact rfl
theorem ck_pend (h : Vw) : C0 Tryd.prog 11 #[.agg #[.int .i64 4, .int .i64 0, .string ⟨#[]⟩]] h (fun v _ => v = .int .i64 0) := by
  refine x_con Tryd.func11 (c := Tryd.f11.body.getD .skip) (by kernel_rfl) (N := 50) rfl (by kernel_rfl) ?_
  intro hbx hbad Q hQ a w hJ
  replace hJ : K ⟨50, h.w, h.bad, []⟩ [(0, .agg #[.int .i64 4, .int .i64 0, .string ⟨#[]⟩])] [] [] h a w := hJ.to (by kernel_rfl) (by kernel_rfl) rfl
  refine rx hJ false 70 [.own, .b 0 0, .b 0 1, .b 0 2] [] (.new fun b1 => .ok (.out .ret) [] [(2, .int .i64 0)] [.box b1 [.int .i64 4, .int .i64 0, .string ⟨#[]⟩]] []) trivial trivial (fun b1 _ => by kernel_rfl) ?_
  clear hJ a w; intro b1 a w hJ
  refine x_end (hQ [.int .i64 0] _ [] hJ (.rtmp hJ.j (by kernel_rfl) .nil) (no_own _) rfl ?_).1
  exact rfl
theorem ck_fault (n : Int) (h : Vw) (h0 : 1 ≤ n) (h1 : n ≤ 15) : C0 Tryd.prog 11 #[.agg #[.int .i64 5, .int .i64 n, .string ⟨#[]⟩]] h (fun v _ => v = .int .i64 0) := by
  refine x_con Tryd.func11 (c := Tryd.f11.body.getD .skip) (by kernel_rfl) (N := 50) rfl (by kernel_rfl) ?_
  intro hbx hbad Q hQ a w hJ
  replace hJ : K ⟨50, h.w, h.bad, []⟩ [(0, .agg #[.int .i64 5, .int .i64 n, .string ⟨#[]⟩])] [] [] h a w := hJ.to (by kernel_rfl) (by kernel_rfl) rfl
  refine rx hJ false 82 [.own, .b 0 0, .b 0 1, .b 0 1, .b 0 2] [(41, .bool (decide (n < 1)), .bool false), (45, .bool (decide (n > 15)), .bool false)] (.new fun b1 => .ok (.out .ret) [] [(2, .int .i64 0)] [.box b1 [.int .i64 5, .int .i64 n, .string ⟨#[]⟩]] []) trivial (And.intro (congrArg Value.bool (decide_eq_false (by omega))) (And.intro (congrArg Value.bool (decide_eq_false (by omega))) (trivial))) (fun b1 _ => by kernel_rfl) ?_
  clear hJ a w; intro b1 a w hJ
  refine x_end (hQ [.int .i64 0] _ [] hJ (.rtmp hJ.j (by kernel_rfl) .nil) (no_own _) rfl ?_).1
  exact rfl
theorem ck_fault0 (n : Int) (h : Vw) (h0 : n < 1) : C0 Tryd.prog 11 #[.agg #[.int .i64 5, .int .i64 n, .string ⟨#[]⟩]] h (fun v _ => v = .int .i64 4) := by
  refine x_con Tryd.func11 (c := Tryd.f11.body.getD .skip) (by kernel_rfl) (N := 50) rfl (by kernel_rfl) ?_
  intro hbx hbad Q hQ a w hJ
  replace hJ : K ⟨50, h.w, h.bad, []⟩ [(0, .agg #[.int .i64 5, .int .i64 n, .string ⟨#[]⟩])] [] [] h a w := hJ.to (by kernel_rfl) (by kernel_rfl) rfl
  refine rx hJ false 70 [.own, .b 0 0, .b 0 1] [(41, .bool (decide (n < 1)), .bool true)] (.new fun b1 => .ok (.out .ret) [] [(2, .int .i64 4)] [.box b1 [.int .i64 5, .int .i64 n, .string ⟨#[]⟩]] []) trivial (And.intro (congrArg Value.bool (decide_eq_true (by omega))) (trivial)) (fun b1 _ => by kernel_rfl) ?_
  clear hJ a w; intro b1 a w hJ
  refine x_end (hQ [.int .i64 4] _ [] hJ (.rtmp hJ.j (by kernel_rfl) .nil) (no_own _) rfl ?_).1
  exact rfl
theorem ck_fault1 (n : Int) (h : Vw) (h0 : 15 < n) : C0 Tryd.prog 11 #[.agg #[.int .i64 5, .int .i64 n, .string ⟨#[]⟩]] h (fun v _ => v = .int .i64 4) := by
  refine x_con Tryd.func11 (c := Tryd.f11.body.getD .skip) (by kernel_rfl) (N := 50) rfl (by kernel_rfl) ?_
  intro hbx hbad Q hQ a w hJ
  replace hJ : K ⟨50, h.w, h.bad, []⟩ [(0, .agg #[.int .i64 5, .int .i64 n, .string ⟨#[]⟩])] [] [] h a w := hJ.to (by kernel_rfl) (by kernel_rfl) rfl
  refine rx hJ false 70 [.own, .b 0 0, .b 0 1, .b 0 1] [(41, .bool (decide (n < 1)), .bool false), (45, .bool (decide (n > 15)), .bool true)] (.new fun b1 => .ok (.out .ret) [] [(2, .int .i64 4)] [.box b1 [.int .i64 5, .int .i64 n, .string ⟨#[]⟩]] []) trivial (And.intro (congrArg Value.bool (decide_eq_false (by omega))) (And.intro (congrArg Value.bool (decide_eq_true (by omega))) (trivial))) (fun b1 _ => by kernel_rfl) ?_
  clear hJ a w; intro b1 a w hJ
  refine x_end (hQ [.int .i64 4] _ [] hJ (.rtmp hJ.j (by kernel_rfl) .nil) (no_own _) rfl ?_).1
  exact rfl
theorem tx_long (s : ByteArray) (h : Vw) (hs : 40 < s.size) : C0 Tryd.prog 19 #[.string s] h (fun v _ => v = .int .i64 1) := by
  refine x_con Tryd.func19 (c := Tryd.f19.body.getD .skip) (by kernel_rfl) (N := 23) rfl (by kernel_rfl) ?_
  intro hbx hbad Q hQ a w hJ
  replace hJ : K ⟨23, h.w, h.bad, []⟩ [(0, .string s)] [] [] h a w := hJ.to (by kernel_rfl) (by kernel_rfl) rfl
  refine rx hJ false 13 [] [] (.ok (.code [1, 0, 1]) [.seq [1, 1]] [(0, .string s), (2, .int .i64 0), (6, .bool (decide ((s.size : Int) > 40)))] [] []) trivial trivial (fun _ => by kernel_rfl) ?_
  clear hJ a w; intro a w hJ
  refine x_true hJ (t := decide ((s.size : Int) > 40)) (by kernel_rfl) (decide_eq_true (by omega)) ?_
  refine rx hJ false 7 [] [] (.ok (.out .ret) [] [(2, .int .i64 1)] [] []) trivial trivial (fun _ => by kernel_rfl) ?_
  clear hJ a w; intro a w hJ
  refine x_end (hQ [.int .i64 1] _ [] hJ (.rtmp hJ.j (by kernel_rfl) .nil) (no_own _) rfl ?_).1
  exact rfl
set_option maxRecDepth 100000 in
theorem tx_bad (s : ByteArray) (h : Vw) (hs : s.size ≤ 40) (hb : ¬ ∀ i (h : i < s.size), 32 ≤ s[i].toNat ∧ s[i].toNat ≤ 126) : C0 Tryd.prog 19 #[.string s] h (fun v _ => v = .int .i64 3) := by
  refine x_con Tryd.func19 (c := Tryd.f19.body.getD .skip) (by kernel_rfl) (N := 23) rfl (by kernel_rfl) ?_
  intro hbx hbad Q hQ a w hJ
  replace hJ : K ⟨23, h.w, h.bad, []⟩ [(0, .string s)] [] [] h a w := hJ.to (by kernel_rfl) (by kernel_rfl) rfl
  refine rx hJ false 13 [] [] (.ok (.code [1, 0, 1]) [.seq [1, 1]] [(0, .string s), (2, .int .i64 0), (6, .bool (decide ((s.size : Int) > 40)))] [] []) trivial trivial (fun _ => by kernel_rfl) ?_
  clear hJ a w; intro a w hJ
  refine x_false hJ (t := decide ((s.size : Int) > 40)) (by kernel_rfl) (decide_eq_false (by omega)) ?_
  refine rx hJ false 11 [] [] (.ok (.code [0, 1, 0, 1, 1]) [.block 0, .seq [1, 1, 1]] [(0, .string s), (2, .int .i64 0), (8, .int .i64 (s.size : Int)), (9, .int .i64 0)] [] []) trivial trivial (fun _ => by kernel_rfl) ?_
  clear hJ a w; intro a w hJ
  refine x_loop (fun (k : Nat) a w => ∃ (h1 : Vw) , K ⟨23, h.w, h.bad, []⟩ [(0, .string s), (8, .int .i64 (s.size : Int)), (9, .int .i64 (k : Int))] [] [] h1 a w ∧ Sees h h1 ∧ (k ≤ s.size) ∧ (∀ i (h : i < s.size), i < k → 32 ≤ s[i].toNat ∧ s[i].toNat ≤ 126)) (fun k => s.size - k) (0) (by kernel_rfl) ⟨h, hJ.to (by kernel_rfl) (by kernel_rfl) rfl, Sees.refl _, Nat.zero_le _, fun i h q => absurd q (Nat.not_lt_zero _)⟩ ?_
  clear hJ a w; rintro k a w ⟨h1, hJ, s2, hk, ha⟩
  refine rx hJ false 6 [] [] (.ok (.code [0, 1, 0, 0, 1, 0, 1, 1]) [.seq [1, 1, 0, 0, 1, 0, 1, 1]] [(0, .string s), (8, .int .i64 (s.size : Int)), (9, .int .i64 (k : Int)), (10, .bool (decide ((k : Int) < (s.size : Int))))] [] []) trivial trivial (fun _ => by kernel_rfl) ?_
  clear hJ a w; intro a w hJ
  have hlt : k < s.size := by
    rcases Nat.lt_or_ge k s.size with q | q
    · exact q
    · exact absurd (fun i hi => ha i hi (by omega)) hb
  refine x_true hJ (t := decide ((k : Int) < (s.size : Int))) (by kernel_rfl) (decide_eq_true (by omega)) ?_
  refine rx hJ false 14 [] [] (.ok (.ops [0, 1, 0, 0, 1, 1, 0, 0, 1, 0, 1, 1] 2) [.seq [1, 1, 0, 0, 1, 1, 0, 0, 1, 0, 1, 1], .block 1, .seq [1, 1, 1, 0, 0, 1, 0, 1, 1]] [(0, .string s), (8, .int .i64 (s.size : Int)), (9, .int .i64 (k : Int)), (10, .bool (decide ((k : Int) < (s.size : Int)))), (11, .int .i64 (k : Int)), (3, .int .i64 (k : Int)), (12, .string s), (13, .int .i64 (k : Int))] [] []) trivial trivial (fun _ => by kernel_rfl) ?_
  clear hJ a w; intro a w hJ
  refine x_pure hJ 14 (.int .u8 (s[k].toNat : Int)) (by kernel_rfl) (fun w => run_sidx (x := (.tmp 12)) (y := (.tmp 13)) (t := 9) (s := s) (i := k) (by kernel_rfl) (by kernel_rfl) (by kernel_rfl) Tryd.underlying9 (hlt)) ?_; clear hJ a w; intro a w hJ
  refine rx hJ false 2 [] [] (.ok (.ops [0, 1, 0, 0, 1, 1, 0, 0, 1, 0, 1, 1] 5) [.seq [1, 1, 0, 0, 1, 1, 0, 0, 1, 0, 1, 1], .block 1, .seq [1, 1, 1, 0, 0, 1, 0, 1, 1]] [(0, .string s), (8, .int .i64 (s.size : Int)), (9, .int .i64 (k : Int)), (10, .bool (decide ((k : Int) < (s.size : Int)))), (11, .int .i64 (k : Int)), (3, .int .i64 (k : Int)), (12, .string s), (13, .int .i64 (k : Int)), (14, .int .u8 (s[k].toNat : Int)), (15, .bool (decide ((s[k].toNat : Int) < 32))), (16, .bool (decide ((s[k].toNat : Int) < 32)))] [] []) trivial trivial (fun _ => by kernel_rfl) ?_
  clear hJ a w; intro a w hJ
  by_cases c1 : s[k].toNat < 32
  · replace hJ := hJ.rew 16 (v := .bool (decide ((s[k].toNat : Int) < 32))) (v' := .bool true) (congrArg Value.bool (decide_eq_true (by omega))) (by kernel_rfl)
    replace hJ : K ⟨23, h.w, h.bad, []⟩ [(0, .string s), (8, .int .i64 (s.size : Int)), (9, .int .i64 (k : Int)), (10, .bool (decide ((k : Int) < (s.size : Int)))), (11, .int .i64 (k : Int)), (3, .int .i64 (k : Int)), (12, .string s), (13, .int .i64 (k : Int)), (14, .int .u8 (s[k].toNat : Int)), (15, .bool (decide ((s[k].toNat : Int) < 32))), (16, .bool true)] [] [] h1 a w := hJ.to (by kernel_rfl) rfl rfl
    refine rx hJ false 16 [] [] (.ok (.out .ret) [] [(0, .string s), (8, .int .i64 (s.size : Int)), (9, .int .i64 (k : Int)), (10, .bool (decide ((k : Int) < (s.size : Int)))), (11, .int .i64 (k : Int)), (3, .int .i64 (k : Int)), (12, .string s), (13, .int .i64 (k : Int)), (14, .int .u8 (s[k].toNat : Int)), (15, .bool (decide ((s[k].toNat : Int) < 32))), (16, .bool true), (21, .bool true), (2, .int .i64 3)] [] []) trivial trivial (fun _ => by kernel_rfl) ?_
    clear hJ a w; intro a w hJ
    refine x_leave rfl ?_
    refine rx hJ false 2 [] [] (.ok (.out .ret) [] [(2, .int .i64 3)] [] []) trivial trivial (fun _ => by kernel_rfl) ?_
    clear hJ a w; intro a w hJ
    refine x_end (hQ [.int .i64 3] _ [] hJ (.rtmp hJ.j (by kernel_rfl) .nil) (no_own _) rfl ?_).1
    exact rfl
  · skip
    replace hJ := hJ.rew 16 (v := .bool (decide ((s[k].toNat : Int) < 32))) (v' := .bool false) (congrArg Value.bool (decide_eq_false (by omega))) (by kernel_rfl)
    replace hJ : K ⟨23, h.w, h.bad, []⟩ [(0, .string s), (8, .int .i64 (s.size : Int)), (9, .int .i64 (k : Int)), (10, .bool (decide ((k : Int) < (s.size : Int)))), (11, .int .i64 (k : Int)), (3, .int .i64 (k : Int)), (12, .string s), (13, .int .i64 (k : Int)), (14, .int .u8 (s[k].toNat : Int)), (15, .bool (decide ((s[k].toNat : Int) < 32))), (16, .bool false)] [] [] h1 a w := hJ.to (by kernel_rfl) rfl rfl
    by_cases c2 : 126 < s[k].toNat
    · skip
      refine rx hJ false 2 [] [] (.ok (.ops [0, 1, 0, 0, 1, 1, 0, 0, 1, 0, 1, 1] 7) [.seq [1, 1, 0, 0, 1, 1, 0, 0, 1, 0, 1, 1], .block 1, .seq [1, 1, 1, 0, 0, 1, 0, 1, 1]] [(0, .string s), (8, .int .i64 (s.size : Int)), (9, .int .i64 (k : Int)), (10, .bool (decide ((k : Int) < (s.size : Int)))), (11, .int .i64 (k : Int)), (3, .int .i64 (k : Int)), (12, .string s), (13, .int .i64 (k : Int)), (14, .int .u8 (s[k].toNat : Int)), (15, .bool (decide ((s[k].toNat : Int) < 32))), (16, .bool false), (17, .string s), (18, .int .i64 (k : Int))] [] []) trivial trivial (fun _ => by kernel_rfl) ?_
      clear hJ a w; intro a w hJ
      refine x_pure hJ 19 (.int .u8 (s[k].toNat : Int)) (by kernel_rfl) (fun w => run_sidx (x := (.tmp 17)) (y := (.tmp 18)) (t := 9) (s := s) (i := k) (by kernel_rfl) (by kernel_rfl) (by kernel_rfl) Tryd.underlying9 (hlt)) ?_; clear hJ a w; intro a w hJ
      refine rx hJ false 13 [] [(20, .bool (decide ((s[k].toNat : Int) > 126)), .bool true)] (.ok (.out .ret) [] [(0, .string s), (8, .int .i64 (s.size : Int)), (9, .int .i64 (k : Int)), (10, .bool (decide ((k : Int) < (s.size : Int)))), (11, .int .i64 (k : Int)), (3, .int .i64 (k : Int)), (12, .string s), (13, .int .i64 (k : Int)), (14, .int .u8 (s[k].toNat : Int)), (15, .bool (decide ((s[k].toNat : Int) < 32))), (16, .bool false), (17, .string s), (18, .int .i64 (k : Int)), (19, .int .u8 (s[k].toNat : Int)), (20, .bool true), (21, .bool true), (2, .int .i64 3)] [] []) trivial (And.intro (congrArg Value.bool (decide_eq_true (by omega))) (trivial)) (fun _ => by kernel_rfl) ?_
      clear hJ a w; intro a w hJ
      refine x_leave rfl ?_
      refine rx hJ false 2 [] [] (.ok (.out .ret) [] [(2, .int .i64 3)] [] []) trivial trivial (fun _ => by kernel_rfl) ?_
      clear hJ a w; intro a w hJ
      refine x_end (hQ [.int .i64 3] _ [] hJ (.rtmp hJ.j (by kernel_rfl) .nil) (no_own _) rfl ?_).1
      exact rfl
    · skip
      refine rx hJ false 2 [] [] (.ok (.ops [0, 1, 0, 0, 1, 1, 0, 0, 1, 0, 1, 1] 7) [.seq [1, 1, 0, 0, 1, 1, 0, 0, 1, 0, 1, 1], .block 1, .seq [1, 1, 1, 0, 0, 1, 0, 1, 1]] [(0, .string s), (8, .int .i64 (s.size : Int)), (9, .int .i64 (k : Int)), (10, .bool (decide ((k : Int) < (s.size : Int)))), (11, .int .i64 (k : Int)), (3, .int .i64 (k : Int)), (12, .string s), (13, .int .i64 (k : Int)), (14, .int .u8 (s[k].toNat : Int)), (15, .bool (decide ((s[k].toNat : Int) < 32))), (16, .bool false), (17, .string s), (18, .int .i64 (k : Int))] [] []) trivial trivial (fun _ => by kernel_rfl) ?_
      clear hJ a w; intro a w hJ
      refine x_pure hJ 19 (.int .u8 (s[k].toNat : Int)) (by kernel_rfl) (fun w => run_sidx (x := (.tmp 17)) (y := (.tmp 18)) (t := 9) (s := s) (i := k) (by kernel_rfl) (by kernel_rfl) (by kernel_rfl) Tryd.underlying9 (hlt)) ?_; clear hJ a w; intro a w hJ
      refine rx hJ false 12 [] [(20, .bool (decide ((s[k].toNat : Int) > 126)), .bool false), (22, .int .i64 (IntKind.i64.wrap ((k : Int) + 1)), .int .i64 ((k : Int) + 1))] (.ok (.out .normal) [] [(0, .string s), (8, .int .i64 (s.size : Int)), (10, .bool (decide ((k : Int) < (s.size : Int)))), (11, .int .i64 (k : Int)), (3, .int .i64 (k : Int)), (12, .string s), (13, .int .i64 (k : Int)), (14, .int .u8 (s[k].toNat : Int)), (15, .bool (decide ((s[k].toNat : Int) < 32))), (16, .bool false), (17, .string s), (18, .int .i64 (k : Int)), (19, .int .u8 (s[k].toNat : Int)), (20, .bool false), (21, .bool false), (22, .int .i64 ((k : Int) + 1)), (9, .int .i64 ((k : Int) + 1))] [] []) trivial (And.intro (congrArg Value.bool (decide_eq_false (by omega))) (And.intro (i64_wrap (by omega) (by omega)) (trivial))) (fun _ => by kernel_rfl) ?_
      clear hJ a w; intro a w hJ
      have hb2 : ∀ i (h : i < s.size), i < k + 1 → 32 ≤ s[i].toNat ∧ s[i].toNat ≤ 126 := by
        intro i hi q
        by_cases e : i = k
        · subst e; exact ⟨by omega, by omega⟩
        · exact ha i hi (by omega)
      exact x_round ⟨k + 1, ⟨h1, hJ.to (by kernel_rfl) (by kernel_rfl) rfl, s2, hlt, hb2⟩, by omega⟩
theorem ck_text (s : ByteArray) (e : Int) (hc : ∀ H, C0 Tryd.prog 19 #[.string s] H (fun v _ => v = .int .i64 e)) (h : Vw) : C0 Tryd.prog 11 #[.agg #[.int .i64 3, .int .i64 0, .string s]] h (fun v _ => v = .int .i64 e) := by
  refine x_con Tryd.func11 (c := Tryd.f11.body.getD .skip) (by kernel_rfl) (N := 50) rfl (by kernel_rfl) ?_
  intro hbx hbad Q hQ a w hJ
  replace hJ : K ⟨50, h.w, h.bad, []⟩ [(0, .agg #[.int .i64 3, .int .i64 0, .string s])] [] [] h a w := hJ.to (by kernel_rfl) (by kernel_rfl) rfl
  refine rx hJ false 57 [.own, .b 0 0, .b 0 1, .b 0 2, .cl 19 #[.string s] (.int .i64 e)] [] (.new fun b1 => .ok (.out .ret) [] [(2, .int .i64 e)] [.box b1 [.int .i64 3, .int .i64 0, .string s]] []) (And.intro (fun H sH => hc _) (trivial)) trivial (fun b1 _ => by kernel_rfl) ?_
  clear hJ a w; intro b1 a w hJ
  refine x_end (hQ [.int .i64 e] _ [] hJ (.rtmp hJ.j (by kernel_rfl) .nil) (no_own _) rfl ?_).1
  exact rfl

/-- A value that may be. -/
def OkW (v : Vl) : Prop := v.known ∨ v = ⟨4, 0, ⟨#[]⟩⟩ ∨ (v.k = 5 ∧ 1 ≤ v.n ∧ v.n ≤ 15 ∧ v.s = ⟨#[]⟩)
theorem ck_ok (v : Vl) (h : Vw) (hv : OkW v) : C0 Tryd.prog 11 #[v.val] h (fun r _ => r = .int .i64 0) := by
  rcases hv with hv | rfl | ⟨h1, h2, h3, h4⟩
  · exact C0.of_gives (fun w => value_check v.k v.n v.s w hv) h
  · exact ck_pend h
  · obtain ⟨k, n, s⟩ := v
    simp only at h1 h2 h3 h4
    subst h1 h4
    exact ck_fault n h h2 h3
theorem ck_bad (v : Vl) (hv : ¬ OkW v) (hs : (v.k = 1 ∧ v.s = ⟨#[]⟩) ∨ (v.k = 5 ∧ v.s = ⟨#[]⟩) ∨ (v.k = 3 ∧ v.n = 0)) : ∃ e, e ≠ 0 ∧ ∀ h, C0 Tryd.prog 11 #[v.val] h (fun r _ => r = .int .i64 e) := by
  obtain ⟨k, n, s⟩ := v
  rcases hs with ⟨h1, h2⟩ | ⟨h1, h2⟩ | ⟨h1, h2⟩
  · simp only at h1 h2
    subst h1 h2
    refine ⟨7, by decide, fun h => ck_int n h ?_⟩
    by_cases q : -1099511627776 ≤ n ∧ n ≤ 1099511627776
    · exact absurd (.inl (.inl ⟨rfl, q, rfl⟩)) hv
    · omega
  · simp only at h1 h2
    subst h1 h2
    refine ⟨4, by decide, fun h => ?_⟩
    by_cases q : n < 1
    · exact ck_fault0 n h q
    · by_cases q2 : 15 < n
      · exact ck_fault1 n h q2
      · exact absurd (.inr (.inr ⟨rfl, by show 1 ≤ n; omega, by show n ≤ 15; omega, rfl⟩)) hv
  · simp only at h1 h2
    subst h1 h2
    by_cases q : 40 < s.size
    · exact ⟨1, by decide, fun h => ck_text s 1 (fun H => tx_long s H q) h⟩
    · by_cases q2 : ∀ i (h : i < s.size), 32 ≤ s[i].toNat ∧ s[i].toNat ≤ 126
      · exact absurd (.inl (.inr (.inr ⟨rfl, rfl, by show s.size ≤ 40; omega, q2⟩))) hv
      · exact ⟨3, by decide, fun h => ck_text s 3 (fun H => tx_bad s H (by omega) q2) h⟩

/-! ### Show -/
theorem sh_bad (v : Vl) (e : Int) (he : e ≠ 0) (hc : ∀ H, C0 Tryd.prog 11 #[v.val] H (fun r _ => r = .int .i64 e)) (h : Vw) : C0 Tryd.prog 7 #[v.val] h (fun r _ => r = .tuple #[.string ⟨#[]⟩, .int .i64 e]) := by
  refine x_con Tryd.func7 (c := Tryd.f7.body.getD .skip) (by kernel_rfl) (N := 37) rfl (by kernel_rfl) ?_
  intro hbx hbad Q hQ a w hJ
  replace hJ : K ⟨37, h.w, h.bad, []⟩ [(0, .agg #[.int .i64 v.k, .int .i64 v.n, .string v.s])] [] [] h a w := hJ.to (by kernel_rfl) (by kernel_rfl) rfl
  refine rx hJ false 21 [.own, .b 0 0, .cl 11 #[.agg #[.int .i64 v.k, .int .i64 v.n, .string v.s]] (.int .i64 e)] [] (.new fun b1 => .ok (.code [1, 1, 0, 1]) [.seq [1, 1]] [(1, .pointer (some ⟨b1, 0, none⟩)), (2, .string ⟨#[]⟩), (3, .int .i64 0), (4, .int .i64 e), (8, .bool (e != 0))] [.box b1 [.int .i64 v.k, .int .i64 v.n, .string v.s]] []) (And.intro (fun H sH => hc _) (trivial)) trivial (fun b1 _ => by kernel_rfl) ?_
  clear hJ a w; intro b1 a w hJ
  refine x_true hJ (t := e != 0) (by kernel_rfl) (bne_iff_ne.2 he) ?_
  refine rx hJ false 9 [] [] (.ok (.out .ret) [] [(2, .string ⟨#[]⟩), (3, .int .i64 e)] [.box b1 [.int .i64 v.k, .int .i64 v.n, .string v.s]] []) trivial trivial (fun _ => by kernel_rfl) ?_
  clear hJ a w; intro a w hJ
  refine x_end (hQ [.string ⟨#[]⟩, .int .i64 e] _ [] hJ (.rtmp hJ.j (by kernel_rfl) (.rtmp hJ.j (by kernel_rfl) .nil)) (no_own _) rfl ?_).1
  exact rfl
theorem sh_int (n : Int) (h : Vw) (l : Lk h) (hn : Lim n) : C0 Tryd.prog 7 #[.agg #[.int .i64 1, .int .i64 n, .string ⟨#[]⟩]] h (fun r _ => r = .tuple #[.string ⟨(Lib.itoa n).toArray⟩, .int .i64 0]) := by
  have hc := fun H => ck_ok ⟨1, n, ⟨#[]⟩⟩ H (.inl (.inl ⟨rfl, hn, rfl⟩))
  have hi := fun H q => c_itoa n H q (by have := hn.1; omega) (by have := hn.2; omega)
  refine x_con Tryd.func7 (c := Tryd.f7.body.getD .skip) (by kernel_rfl) (N := 37) rfl (by kernel_rfl) ?_
  intro hbx hbad Q hQ a w hJ
  replace hJ : K ⟨37, h.w, h.bad, []⟩ [(0, .agg #[.int .i64 1, .int .i64 n, .string ⟨#[]⟩])] [] [] h a w := hJ.to (by kernel_rfl) (by kernel_rfl) rfl
  refine rx hJ false 51 [.own, .b 0 0, .cl 11 #[.agg #[.int .i64 1, .int .i64 n, .string ⟨#[]⟩]] (.int .i64 0), .b 0 0, .b 0 1, .cl 12 #[.int .i64 n] (.string ⟨(Lib.itoa n).toArray⟩)] [] (.new fun b1 => .ok (.out .ret) [] [(2, .string ⟨(Lib.itoa n).toArray⟩), (3, .int .i64 0)] [.box b1 [.int .i64 1, .int .i64 n, .string ⟨#[]⟩]] []) (And.intro (fun H sH => hc _) (And.intro (fun H sH => hi _ (l.sees sH)) (trivial))) trivial (fun b1 _ => by kernel_rfl) ?_
  clear hJ a w; intro b1 a w hJ
  refine x_end (hQ [.string ⟨(Lib.itoa n).toArray⟩, .int .i64 0] _ [] hJ (.rtmp hJ.j (by kernel_rfl) (.rtmp hJ.j (by kernel_rfl) .nil)) (no_own _) rfl ?_).1
  exact rfl
theorem sh_bool (n : Int) (h : Vw) (hn : n = 0 ∨ n = 1) : C0 Tryd.prog 7 #[.agg #[.int .i64 2, .int .i64 n, .string ⟨#[]⟩]] h (fun r _ => r = .tuple #[.string (if n = 1 then btrue else bfalse), .int .i64 0]) := by
  have hc := fun H => ck_ok ⟨2, n, ⟨#[]⟩⟩ H (.inl (.inr (.inl ⟨rfl, hn, rfl⟩)))
  have hi := fun H => c_fmt (n == 1) H
  refine x_con Tryd.func7 (c := Tryd.f7.body.getD .skip) (by kernel_rfl) (N := 37) rfl (by kernel_rfl) ?_
  intro hbx hbad Q hQ a w hJ
  replace hJ : K ⟨37, h.w, h.bad, []⟩ [(0, .agg #[.int .i64 2, .int .i64 n, .string ⟨#[]⟩])] [] [] h a w := hJ.to (by kernel_rfl) (by kernel_rfl) rfl
  refine rx hJ false 59 [.own, .b 0 0, .cl 11 #[.agg #[.int .i64 2, .int .i64 n, .string ⟨#[]⟩]] (.int .i64 0), .b 0 0, .b 0 1, .cl 13 #[.bool (n == 1)] (.string (if (n == 1) then btrue else bfalse))] [] (.new fun b1 => .ok (.out .ret) [] [(2, .string (if (n == 1) then btrue else bfalse)), (3, .int .i64 0)] [.box b1 [.int .i64 2, .int .i64 n, .string ⟨#[]⟩]] []) (And.intro (fun H sH => hc _) (And.intro (fun H sH => hi _) (trivial))) trivial (fun b1 _ => by kernel_rfl) ?_
  clear hJ a w; intro b1 a w hJ
  refine x_end (hQ [.string (if (n == 1) then btrue else bfalse), .int .i64 0] _ [] hJ (.rtmp hJ.j (by kernel_rfl) (.rtmp hJ.j (by kernel_rfl) .nil)) (no_own _) rfl ?_).1
  exact by rcases hn with rfl | rfl <;> rfl
theorem sh_pend (h : Vw) : C0 Tryd.prog 7 #[.agg #[.int .i64 4, .int .i64 0, .string ⟨#[]⟩]] h (fun r _ => r = .tuple #[.string bqm, .int .i64 0]) := by
  have hc := fun H => ck_pend H
  refine x_con Tryd.func7 (c := Tryd.f7.body.getD .skip) (by kernel_rfl) (N := 37) rfl (by kernel_rfl) ?_
  intro hbx hbad Q hQ a w hJ
  replace hJ : K ⟨37, h.w, h.bad, []⟩ [(0, .agg #[.int .i64 4, .int .i64 0, .string ⟨#[]⟩])] [] [] h a w := hJ.to (by kernel_rfl) (by kernel_rfl) rfl
  refine rx hJ false 69 [.own, .b 0 0, .cl 11 #[.agg #[.int .i64 4, .int .i64 0, .string ⟨#[]⟩]] (.int .i64 0), .b 0 0] [] (.new fun b1 => .ok (.out .ret) [] [(2, .string ⟨#[63]⟩), (3, .int .i64 0)] [.box b1 [.int .i64 4, .int .i64 0, .string ⟨#[]⟩]] []) (And.intro (fun H sH => hc _) (trivial)) trivial (fun b1 _ => by kernel_rfl) ?_
  clear hJ a w; intro b1 a w hJ
  refine x_end (hQ [.string ⟨#[63]⟩, .int .i64 0] _ [] hJ (.rtmp hJ.j (by kernel_rfl) (.rtmp hJ.j (by kernel_rfl) .nil)) (no_own _) rfl ?_).1
  exact rfl
theorem run_catb {t : TypeId} {a b : ByteArray} {c : List UInt8} {P : Program} {w : World} (h : a.size + b.size ≤ 100000) (e : a.data.toList ++ b.data.toList = c) : (binOp .add t (.string a) (.string b)).run P w = .ok (.string ⟨c.toArray⟩) w := by
  rw [binOp_string_add, run_string_add_sum w a b (by omega)]
  subst e
  have e2 : a ++ b = ⟨(a.data.toList ++ b.data.toList).toArray⟩ := by
    apply ByteArray.ext
    simp
  rw [e2]
theorem sh_fault (n : Int) (h : Vw) (l : Lk h) (h0 : 1 ≤ n) (h1 : n ≤ 15) : C0 Tryd.prog 7 #[.agg #[.int .i64 5, .int .i64 n, .string ⟨#[]⟩]] h (fun r _ => r = .tuple #[.string ⟨(33 :: Lib.itoa n).toArray⟩, .int .i64 0]) := by
  have hc := fun H => ck_fault n H h0 h1
  have hi := fun H q => c_itoa n H q (by omega) (by omega)
  have hlen : (Lib.itoa n).length ≤ 21 := Lib.itoa_length_le n (by omega) (by omega)
  refine x_con Tryd.func7 (c := Tryd.f7.body.getD .skip) (by kernel_rfl) (N := 37) rfl (by kernel_rfl) ?_
  intro hbx hbad Q hQ a w hJ
  replace hJ : K ⟨37, h.w, h.bad, []⟩ [(0, .agg #[.int .i64 5, .int .i64 n, .string ⟨#[]⟩])] [] [] h a w := hJ.to (by kernel_rfl) (by kernel_rfl) rfl
  refine rx hJ false 68 [.own, .b 0 0, .cl 11 #[.agg #[.int .i64 5, .int .i64 n, .string ⟨#[]⟩]] (.int .i64 0), .b 0 0, .b 0 1, .cl 12 #[.int .i64 n] (.string ⟨(Lib.itoa n).toArray⟩)] [] (.new fun b1 => .ok (.ops [0, 1, 1, 1] 3) [.seq [1, 1, 1, 1]] [(2, .string ⟨#[]⟩), (3, .int .i64 0), (35, .string ⟨(Lib.itoa n).toArray⟩)] [.box b1 [.int .i64 5, .int .i64 n, .string ⟨#[]⟩]] []) (And.intro (fun H sH => hc _) (And.intro (fun H sH => hi _ (l.sees sH)) (trivial))) trivial (fun b1 _ => by kernel_rfl) ?_
  clear hJ a w; intro b1 a w hJ
  refine x_pure hJ 36 (.string ⟨(33 :: Lib.itoa n).toArray⟩) (by kernel_rfl) (fun w => run_bin (va := .string ⟨#[33]⟩) (vb := .string ⟨(Lib.itoa n).toArray⟩) rfl (by kernel_rfl) (by kernel_rfl) (by kernel_rfl) (run_catb (by show 1 + Array.size _ ≤ _; simp; omega) (by simp))) ?_; clear hJ a w; intro a w hJ
  refine rx hJ false 5 [] [] (.ok (.out .ret) [] [(2, .string ⟨(33 :: Lib.itoa n).toArray⟩), (3, .int .i64 0)] [.box b1 [.int .i64 5, .int .i64 n, .string ⟨#[]⟩]] []) trivial trivial (fun _ => by kernel_rfl) ?_
  clear hJ a w; intro a w hJ
  refine x_end (hQ [.string ⟨(33 :: Lib.itoa n).toArray⟩, .int .i64 0] _ [] hJ (.rtmp hJ.j (by kernel_rfl) (.rtmp hJ.j (by kernel_rfl) .nil)) (no_own _) rfl ?_).1
  exact rfl
theorem esc_len (l : List UInt8) : (escL l).length ≤ 2 * l.length := by
  induction l with
  | nil => simp [escL]
  | cons c l ih =>
    show (escB c ++ escL l).length ≤ _
    have : (escB c).length ≤ 2 := by unfold escB; split <;> simp
    rw [List.length_append, List.length_cons]; omega
theorem sh_text (s : ByteArray) (h : Vw) (l : Lk h) (hk : Vl.known ⟨3, 0, s⟩) : C0 Tryd.prog 7 #[.agg #[.int .i64 3, .int .i64 0, .string s]] h (fun r _ => r = .tuple #[.string ⟨(34 :: (escL s.data.toList ++ [34])).toArray⟩, .int .i64 0]) := by
  have hs : s.size ≤ 40 := by
    rcases hk with ⟨q, -⟩ | ⟨q, -⟩ | ⟨-, -, q, -⟩
    · cases q
    · cases q
    · exact q
  have hl := toList_size s
  have hc := fun H => ck_ok ⟨3, 0, s⟩ H (.inl hk)
  have c1 : ∀ (x : ByteArray) (c : UInt8), Lib.countB x ⟨#[c]⟩ ≤ x.size := fun x c => Lib.countB_le ⟨#[c]⟩ (by show 1 ≤ 1; omega) x.size x (Nat.le_refl _)
  have b1 := c1 s 92
  have e1 : Lib.replaceAll s.data.toList [92] [92, 92] = s.data.toList.flatMap (rp 92 [92, 92]) := replaceAll_one _ _ _ (by decide)
  have l1 : (s.data.toList.flatMap (rp 92 [92, 92])).length ≤ 2 * s.data.toList.length := by
    generalize s.data.toList = m
    induction m with
    | nil => simp
    | cons c m ih =>
      have : (rp 92 [92, 92] c).length ≤ 2 := by unfold rp; split <;> simp
      rw [List.flatMap_cons, List.length_append, List.length_cons]; omega
  have z1 : (⟨(Lib.replaceAll s.data.toList [92] [92, 92]).toArray⟩ : ByteArray).size ≤ 80 := by rw [e1]; show (List.toArray _).size ≤ 80; rw [List.size_toArray]; omega
  have b2 := c1 ⟨(Lib.replaceAll s.data.toList [92] [92, 92]).toArray⟩ 34
  have hr1 := fun H q => c_rep s ⟨#[92]⟩ ⟨#[92, 92]⟩ H q (by omega) (by decide) (by show _ * 2 ≤ _; omega)
  have hr2 := fun H q => c_rep ⟨(Lib.replaceAll s.data.toList [92] [92, 92]).toArray⟩ ⟨#[34]⟩ ⟨#[92, 34]⟩ H q (by omega) (by decide) (by show _ * 2 ≤ _; omega)
  have e2 : Lib.replaceAll (Lib.replaceAll s.data.toList [92] [92, 92]) [34] [92, 34] = escL s.data.toList := rep_two _
  simp only [e2] at hr2
  have l2 := esc_len s.data.toList
  generalize escL s.data.toList = q at *
  generalize Lib.replaceAll s.data.toList [92] [92, 92] = p at *
  refine x_con Tryd.func7 (c := Tryd.f7.body.getD .skip) (by kernel_rfl) (N := 37) rfl (by kernel_rfl) ?_
  intro hbx hbad Q hQ a w hJ
  replace hJ : K ⟨37, h.w, h.bad, []⟩ [(0, .agg #[.int .i64 3, .int .i64 0, .string s])] [] [] h a w := hJ.to (by kernel_rfl) (by kernel_rfl) rfl
  refine rx hJ false 59 [.own, .b 0 0, .cl 11 #[.agg #[.int .i64 3, .int .i64 0, .string s]] (.int .i64 0), .b 0 0, .b 0 2, .cl 14 #[.string s, .string ⟨#[92]⟩, .string ⟨#[92, 92]⟩] (.string ⟨p.toArray⟩), .cl 14 #[.string ⟨p.toArray⟩, .string ⟨#[34]⟩, .string ⟨#[92, 34]⟩] (.string ⟨q.toArray⟩)] [] (.new fun b1 => .ok (.ops [0, 0, 1, 1, 1, 1, 1, 0, 1, 0, 1, 1] 4) [.seq [1, 0, 1, 1, 1, 1, 1, 0, 1, 0, 1, 1], .block 0, .seq [1, 1, 1]] [(1, .pointer (some ⟨b1, 0, none⟩)), (2, .string ⟨#[]⟩), (3, .int .i64 0), (28, .string ⟨q.toArray⟩)] [.box b1 [.int .i64 3, .int .i64 0, .string s]] []) (And.intro (fun H sH => hc _) (And.intro (fun H sH => hr1 _ (l.sees sH)) (And.intro (fun H sH => hr2 _ (l.sees sH)) (trivial)))) trivial (fun b1 _ => by kernel_rfl) ?_
  clear hJ a w; intro b1 a w hJ
  refine x_pure hJ 29 (.string ⟨(34 :: q).toArray⟩) (by kernel_rfl) (fun w => run_bin (va := .string ⟨#[34]⟩) (vb := .string ⟨q.toArray⟩) rfl (by kernel_rfl) (by kernel_rfl) (by kernel_rfl) (run_catb (by show 1 + Array.size _ ≤ _; simp; omega) (by simp))) ?_; clear hJ a w; intro a w hJ
  refine x_pure hJ 30 (.string ⟨(34 :: (q ++ [34])).toArray⟩) (by kernel_rfl) (fun w => run_bin (va := .string ⟨(34 :: q).toArray⟩) (vb := .string ⟨#[34]⟩) rfl (by kernel_rfl) (by kernel_rfl) (by kernel_rfl) (run_catb (by show Array.size _ + 1 ≤ _; simp; omega) (by simp))) ?_; clear hJ a w; intro a w hJ
  refine rx hJ false 7 [] [] (.ok (.out .ret) [] [(2, .string ⟨(34 :: (q ++ [34])).toArray⟩), (3, .int .i64 0)] [.box b1 [.int .i64 3, .int .i64 0, .string s]] []) trivial trivial (fun _ => by kernel_rfl) ?_
  clear hJ a w; intro a w hJ
  refine x_end (hQ [.string ⟨(34 :: (q ++ [34])).toArray⟩, .int .i64 0] _ [] hJ (.rtmp hJ.j (by kernel_rfl) (.rtmp hJ.j (by kernel_rfl) .nil)) (no_own _) rfl ?_).1
  exact rfl
theorem sh_ok (v : Vl) (h : Vw) (l : Lk h) (hv : OkW v) : C0 Tryd.prog 7 #[v.val] h (fun r _ => r = .tuple #[.string (showV v), .int .i64 0]) := by
  obtain ⟨k, n, s⟩ := v
  rcases hv with (⟨h1, h2, h3⟩ | ⟨h1, h2, h3⟩ | ⟨h1, h2, h3⟩) | h1 | ⟨h1, h2, h3, h4⟩
  · simp only at h1 h3
    subst h1 h3
    exact sh_int n h l h2
  · simp only at h1 h3
    subst h1 h3
    exact sh_bool n h h2
  · simp only at h1 h2
    subst h1 h2
    exact sh_text s h l (.inr (.inr ⟨rfl, rfl, h3⟩))
  · rw [h1]; exact sh_pend h
  · simp only at h1 h4
    subst h1 h4
    exact sh_fault n h l h2 h3
theorem parse_shape (s : ByteArray) (hv : ¬ OkW (parseV s)) : ((parseV s).k = 1 ∧ (parseV s).s = ⟨#[]⟩) ∨ ((parseV s).k = 5 ∧ (parseV s).s = ⟨#[]⟩) ∨ ((parseV s).k = 3 ∧ (parseV s).n = 0) := by
  unfold parseV at hv ⊢
  split
  · rename_i q; rw [if_pos q] at hv; exact absurd (.inr (.inl rfl)) hv
  · rename_i q; rw [if_neg q] at hv
    split
    · rename_i q; rw [if_pos q] at hv; exact absurd (.inl (.inr (.inl ⟨rfl, .inr rfl, rfl⟩))) hv
    · rename_i q; rw [if_neg q] at hv
      split
      · rename_i q; rw [if_pos q] at hv; exact absurd (.inl (.inr (.inl ⟨rfl, .inl rfl, rfl⟩))) hv
      · split
        · exact .inl ⟨rfl, rfl⟩
        · split
          · exact .inr (.inl ⟨rfl, rfl⟩)
          · split
            · exact .inr (.inr ⟨rfl, rfl⟩)
            · exact .inl ⟨rfl, rfl⟩
theorem sh_any (s : ByteArray) : ∃ t e, (∀ H, Lk H → C0 Tryd.prog 7 #[(parseV s).val] H (fun r _ => r = .tuple #[.string t, .int .i64 e])) ∧ ((OkW (parseV s) ∧ e = 0 ∧ t = showV (parseV s)) ∨ (¬ OkW (parseV s) ∧ e ≠ 0)) := by
  by_cases hv : OkW (parseV s)
  · exact ⟨_, 0, fun H q => sh_ok _ H q hv, .inl ⟨hv, rfl, rfl⟩⟩
  · obtain ⟨e, he, hc⟩ := ck_bad _ hv (parse_shape s hv)
    exact ⟨_, e, fun H q => sh_bad _ e he hc H, .inr ⟨hv, he⟩⟩

/-! ### Parse -/
theorem run_from {o : Oper} {ρ : Operand → Value} {t : TypeId} {x y : Operand} {s : ByteArray} {P : Program} {w : World} (ho : o.op = .slice t x (some y) none none) (hx : ρ x = .string s) (hy : ρ y = .int .i64 1) (ht : P.underlying t = some .string) (h1 : 1 ≤ s.size) :
    (execOp ρ o).run P w = .ok (.value (.string (s.extract 1 s.size))) w := by
  unfold execOp
  simp only [ho, hx, hy, Sem.run_bind, Option.map_some, Option.map_none]
  rw [run_sliceAt_string w t _ _ _ _ ht, run_slice_string_l w t s ht .i64 1 (by omega) (by omega)]
  simp [Sem.run_pure]
abbrev zV : Value := .agg #[.int .i64 0, .int .i64 0, .string ⟨#[]⟩]
def GoodS (s : ByteArray) : Prop := OkW (parseV s) ∧ showV (parseV s) = s
set_option maxHeartbeats 2000000 in
set_option maxRecDepth 100000 in
theorem parse_any (s : ByteArray) (h : Vw) (l : Lk h) (hs : s.size ≤ 140737488351232) : C0 Tryd.prog 8 #[.string s] h (fun r _ => (GoodS s ∧ r = .tuple #[(parseV s).val, .int .i64 0]) ∨ (¬ GoodS s ∧ r = .tuple #[zV, .int .i64 3])) := by
  obtain ⟨t, e, hS, hte⟩ := sh_any s
  have hG : (e = 0 ∧ t = s → GoodS s) ∧ (GoodS s → e = 0 ∧ t = s) := by
    unfold GoodS
    rcases hte with ⟨h1, h2, h3⟩ | ⟨h1, h2⟩
    · subst h3; exact ⟨fun q => ⟨h1, q.2⟩, fun q => ⟨h2, q.2⟩⟩
    · exact ⟨fun q => absurd q.1 h2, fun q => absurd q.1 h1⟩
  generalize hgp : GoodS s = gp at *
  clear hte hgp
  have hat := fun H q => c_atoi s H q (by omega)
  have hun := fun H => unq_any s H hs
  have hpre := fun c H => c_pre s c H
  have hq0 : parseV s = parseV s := rfl
  refine x_con Tryd.func8 (c := Tryd.f8.body.getD .skip) (by kernel_rfl) (N := 62) rfl (by kernel_rfl) ?_
  intro hbx hbad Q hQ a w hJ
  replace hJ : K ⟨62, h.w, h.bad, []⟩ [(0, .string s)] [] [] h a w := hJ.to (by kernel_rfl) (by kernel_rfl) rfl
  refine rx hJ false 20 [.own, .own] [] (.new fun b1 => .new fun b2 => .ok (.code [1, 0, 0, 1, 1]) [.block 0, .seq [1, 1, 1]] [(0, .string s), (2, .pointer (some ⟨b1, 0, none⟩)), (3, .int .i64 0), (4, .pointer (some ⟨b2, 0, none⟩)), (18, .bool (s.toList == (⟨#[63]⟩ : ByteArray).toList))] [.box b2 [.int .i64 0, .int .i64 0, .string ⟨#[]⟩], .box b1 [.int .i64 0, .int .i64 0, .string ⟨#[]⟩]] []) trivial trivial (fun b1 b2 _ => by kernel_rfl) ?_
  clear hJ a w; intro b1 b2 a w hJ
  by_cases h1 : s = bqm
  · have hp : parseV s = ⟨4, 0, ⟨#[]⟩⟩ := by unfold parseV; rw [if_pos h1]
    rw [hp] at hS
    refine x_true hJ (t := s.toList == (⟨#[63]⟩ : ByteArray).toList) (by kernel_rfl) (tl_yes h1) ?_
    refine rx hJ false 23 [.b 0 0, .b 0 0, .cl 7 #[.agg #[.int .i64 4, .int .i64 0, .string ⟨#[]⟩]] (.tuple #[.string t, .int .i64 e])] [] (.ok (.ops [0, 1, 0, 1, 1, 1] 3) [.seq [1, 1, 0, 1, 1, 1], .seq [1, 1, 1, 1]] [(0, .string s), (2, .pointer (some ⟨b1, 0, none⟩)), (3, .int .i64 0), (4, .pointer (some ⟨b2, 0, none⟩)), (9, .string t), (55, .bool (e != 0))] [.box b2 [.int .i64 4, .int .i64 0, .string ⟨#[]⟩], .box b1 [.int .i64 0, .int .i64 0, .string ⟨#[]⟩]] []) (And.intro (fun H sH => hS _ (l.sees sH)) (trivial)) trivial (fun _ => by kernel_rfl) ?_
    clear hJ a w; intro a w hJ
    by_cases g1 : e = 0
    · replace hJ := hJ.rew 55 (v := .bool (e != 0)) (v' := .bool false) (congrArg Value.bool (by rw [g1]; rfl)) (by kernel_rfl)
      replace hJ : K ⟨62, h.w, h.bad, []⟩ [(0, .string s), (2, .pointer (some ⟨b1, 0, none⟩)), (3, .int .i64 0), (4, .pointer (some ⟨b2, 0, none⟩)), (9, .string t), (55, .bool false)] [.box b2 [.int .i64 4, .int .i64 0, .string ⟨#[]⟩], .box b1 [.int .i64 0, .int .i64 0, .string ⟨#[]⟩]] [] h a w := hJ.to (by kernel_rfl) rfl rfl
      refine rx hJ false 6 [] [] (.ok (.code [1, 1, 0, 1, 1, 1]) [.seq [1, 1, 1, 1]] [(2, .pointer (some ⟨b1, 0, none⟩)), (3, .int .i64 0), (4, .pointer (some ⟨b2, 0, none⟩)), (59, .bool (t.toList != s.toList))] [.box b2 [.int .i64 4, .int .i64 0, .string ⟨#[]⟩], .box b1 [.int .i64 0, .int .i64 0, .string ⟨#[]⟩]] []) trivial trivial (fun _ => by kernel_rfl) ?_
      clear hJ a w; intro a w hJ
      by_cases g2 : t = s
      · refine x_false hJ (t := t.toList != s.toList) (by kernel_rfl) ((by rw [g2]; exact bne_self_eq_false _)) ?_
        refine rx hJ false 10 [.b 0 0, .b 1 0] [] (.ok (.out .ret) [] [(2, .pointer (some ⟨b1, 0, none⟩)), (3, .int .i64 0)] [.box b2 [.int .i64 4, .int .i64 0, .string ⟨#[]⟩], .box b1 [.int .i64 4, .int .i64 0, .string ⟨#[]⟩]] []) trivial trivial (fun _ => by kernel_rfl) ?_
        clear hJ a w; intro a w hJ
        refine x_end (hQ [.agg #[.int .i64 4, .int .i64 0, .string ⟨#[]⟩], .int .i64 0] _ [] hJ (.rcell hJ.j 1 rfl (by kernel_rfl) (by kernel_rfl) (.rtmp hJ.j (by kernel_rfl) .nil)) (no_own _) rfl ?_).1
        exact Or.inl (And.intro (hG.1 ⟨g1, g2⟩) (by rw [hp]; rfl))
      · skip
        refine x_true hJ (t := t.toList != s.toList) (by kernel_rfl) ((by show (!(t.toList == s.toList)) = true; rw [tl_no g2]; rfl)) ?_
        refine rx hJ false 9 [.b 1 0] [] (.ok (.out .ret) [] [(2, .pointer (some ⟨b1, 0, none⟩)), (3, .int .i64 3)] [.box b2 [.int .i64 4, .int .i64 0, .string ⟨#[]⟩], .box b1 [.int .i64 0, .int .i64 0, .string ⟨#[]⟩]] []) trivial trivial (fun _ => by kernel_rfl) ?_
        clear hJ a w; intro a w hJ
        refine x_end (hQ [.agg #[.int .i64 0, .int .i64 0, .string ⟨#[]⟩], .int .i64 3] _ [] hJ (.rcell hJ.j 1 rfl (by kernel_rfl) (by kernel_rfl) (.rtmp hJ.j (by kernel_rfl) .nil)) (no_own _) rfl ?_).1
        exact Or.inr (And.intro (fun q => g2 (hG.2 q).2) rfl)
    · skip
      replace hJ := hJ.rew 55 (v := .bool (e != 0)) (v' := .bool true) (congrArg Value.bool (bne_iff_ne.2 g1)) (by kernel_rfl)
      replace hJ : K ⟨62, h.w, h.bad, []⟩ [(0, .string s), (2, .pointer (some ⟨b1, 0, none⟩)), (3, .int .i64 0), (4, .pointer (some ⟨b2, 0, none⟩)), (9, .string t), (55, .bool true)] [.box b2 [.int .i64 4, .int .i64 0, .string ⟨#[]⟩], .box b1 [.int .i64 0, .int .i64 0, .string ⟨#[]⟩]] [] h a w := hJ.to (by kernel_rfl) rfl rfl
      refine rx hJ false 16 [.b 1 0] [] (.ok (.out .ret) [] [(2, .pointer (some ⟨b1, 0, none⟩)), (3, .int .i64 3)] [.box b2 [.int .i64 4, .int .i64 0, .string ⟨#[]⟩], .box b1 [.int .i64 0, .int .i64 0, .string ⟨#[]⟩]] []) trivial trivial (fun _ => by kernel_rfl) ?_
      clear hJ a w; intro a w hJ
      refine x_end (hQ [.agg #[.int .i64 0, .int .i64 0, .string ⟨#[]⟩], .int .i64 3] _ [] hJ (.rcell hJ.j 1 rfl (by kernel_rfl) (by kernel_rfl) (.rtmp hJ.j (by kernel_rfl) .nil)) (no_own _) rfl ?_).1
      exact Or.inr (And.intro (fun q => g1 (hG.2 q).1) rfl)
  · skip
    refine x_false hJ (t := s.toList == (⟨#[63]⟩ : ByteArray).toList) (by kernel_rfl) (tl_no h1) ?_
    refine rx hJ false 8 [] [] (.ok (.code [1, 0, 1, 1, 0, 0, 1, 1]) [.seq [1, 1, 1, 0, 0, 1, 1], .block 0, .seq [1, 1, 1]] [(0, .string s), (2, .pointer (some ⟨b1, 0, none⟩)), (3, .int .i64 0), (4, .pointer (some ⟨b2, 0, none⟩)), (22, .bool (s.toList == (⟨#[116, 114, 117, 101]⟩ : ByteArray).toList))] [.box b2 [.int .i64 0, .int .i64 0, .string ⟨#[]⟩], .box b1 [.int .i64 0, .int .i64 0, .string ⟨#[]⟩]] []) trivial trivial (fun _ => by kernel_rfl) ?_
    clear hJ a w; intro a w hJ
    by_cases h2 : s = btrue
    · have hp : parseV s = ⟨2, 1, ⟨#[]⟩⟩ := by unfold parseV; rw [if_neg h1, if_pos h2]
      rw [hp] at hS
      have hz : Value.int .i64 (IntKind.i64.wrap (5 - (s.size : Int))) = .int .i64 1 := by rw [h2]; rfl
      refine x_true hJ (t := s.toList == (⟨#[116, 114, 117, 101]⟩ : ByteArray).toList) (by kernel_rfl) (tl_yes h2) ?_
      refine rx hJ false 2 [] [] (.ok (.code [1, 1, 1, 0, 0, 1, 1]) [.block 0, .seq [1, 1, 1]] [(0, .string s), (2, .pointer (some ⟨b1, 0, none⟩)), (3, .int .i64 0), (4, .pointer (some ⟨b2, 0, none⟩)), (22, .bool (s.toList == (⟨#[116, 114, 117, 101]⟩ : ByteArray).toList))] [.box b2 [.int .i64 0, .int .i64 0, .string ⟨#[]⟩], .box b1 [.int .i64 0, .int .i64 0, .string ⟨#[]⟩]] []) trivial trivial (fun _ => by kernel_rfl) ?_
      clear hJ a w; intro a w hJ
      refine x_true hJ (t := s.toList == (⟨#[116, 114, 117, 101]⟩ : ByteArray).toList) (by kernel_rfl) (tl_yes h2) ?_
      refine rx hJ false 26 [.b 0 0, .b 0 0, .cl 7 #[.agg #[.int .i64 2, .int .i64 1, .string ⟨#[]⟩]] (.tuple #[.string t, .int .i64 e])] [(29, .int .i64 (IntKind.i64.wrap (5 - (s.size : Int))), .int .i64 1)] (.ok (.ops [0, 1, 0, 1, 1, 1] 3) [.seq [1, 1, 0, 1, 1, 1], .seq [1, 1, 1, 1]] [(0, .string s), (2, .pointer (some ⟨b1, 0, none⟩)), (3, .int .i64 0), (4, .pointer (some ⟨b2, 0, none⟩)), (9, .string t), (55, .bool (e != 0))] [.box b2 [.int .i64 2, .int .i64 1, .string ⟨#[]⟩], .box b1 [.int .i64 0, .int .i64 0, .string ⟨#[]⟩]] []) (And.intro (fun H sH => hS _ (l.sees sH)) (trivial)) (And.intro (hz) (trivial)) (fun _ => by kernel_rfl) ?_
      clear hJ a w; intro a w hJ
      by_cases g1 : e = 0
      · replace hJ := hJ.rew 55 (v := .bool (e != 0)) (v' := .bool false) (congrArg Value.bool (by rw [g1]; rfl)) (by kernel_rfl)
        replace hJ : K ⟨62, h.w, h.bad, []⟩ [(0, .string s), (2, .pointer (some ⟨b1, 0, none⟩)), (3, .int .i64 0), (4, .pointer (some ⟨b2, 0, none⟩)), (9, .string t), (55, .bool false)] [.box b2 [.int .i64 2, .int .i64 1, .string ⟨#[]⟩], .box b1 [.int .i64 0, .int .i64 0, .string ⟨#[]⟩]] [] h a w := hJ.to (by kernel_rfl) rfl rfl
        refine rx hJ false 6 [] [] (.ok (.code [1, 1, 0, 1, 1, 1]) [.seq [1, 1, 1, 1]] [(2, .pointer (some ⟨b1, 0, none⟩)), (3, .int .i64 0), (4, .pointer (some ⟨b2, 0, none⟩)), (59, .bool (t.toList != s.toList))] [.box b2 [.int .i64 2, .int .i64 1, .string ⟨#[]⟩], .box b1 [.int .i64 0, .int .i64 0, .string ⟨#[]⟩]] []) trivial trivial (fun _ => by kernel_rfl) ?_
        clear hJ a w; intro a w hJ
        by_cases g2 : t = s
        · refine x_false hJ (t := t.toList != s.toList) (by kernel_rfl) ((by rw [g2]; exact bne_self_eq_false _)) ?_
          refine rx hJ false 10 [.b 0 0, .b 1 0] [] (.ok (.out .ret) [] [(2, .pointer (some ⟨b1, 0, none⟩)), (3, .int .i64 0)] [.box b2 [.int .i64 2, .int .i64 1, .string ⟨#[]⟩], .box b1 [.int .i64 2, .int .i64 1, .string ⟨#[]⟩]] []) trivial trivial (fun _ => by kernel_rfl) ?_
          clear hJ a w; intro a w hJ
          refine x_end (hQ [.agg #[.int .i64 2, .int .i64 1, .string ⟨#[]⟩], .int .i64 0] _ [] hJ (.rcell hJ.j 1 rfl (by kernel_rfl) (by kernel_rfl) (.rtmp hJ.j (by kernel_rfl) .nil)) (no_own _) rfl ?_).1
          exact Or.inl (And.intro (hG.1 ⟨g1, g2⟩) (by rw [hp]; rfl))
        · skip
          refine x_true hJ (t := t.toList != s.toList) (by kernel_rfl) ((by show (!(t.toList == s.toList)) = true; rw [tl_no g2]; rfl)) ?_
          refine rx hJ false 9 [.b 1 0] [] (.ok (.out .ret) [] [(2, .pointer (some ⟨b1, 0, none⟩)), (3, .int .i64 3)] [.box b2 [.int .i64 2, .int .i64 1, .string ⟨#[]⟩], .box b1 [.int .i64 0, .int .i64 0, .string ⟨#[]⟩]] []) trivial trivial (fun _ => by kernel_rfl) ?_
          clear hJ a w; intro a w hJ
          refine x_end (hQ [.agg #[.int .i64 0, .int .i64 0, .string ⟨#[]⟩], .int .i64 3] _ [] hJ (.rcell hJ.j 1 rfl (by kernel_rfl) (by kernel_rfl) (.rtmp hJ.j (by kernel_rfl) .nil)) (no_own _) rfl ?_).1
          exact Or.inr (And.intro (fun q => g2 (hG.2 q).2) rfl)
      · skip
        replace hJ := hJ.rew 55 (v := .bool (e != 0)) (v' := .bool true) (congrArg Value.bool (bne_iff_ne.2 g1)) (by kernel_rfl)
        replace hJ : K ⟨62, h.w, h.bad, []⟩ [(0, .string s), (2, .pointer (some ⟨b1, 0, none⟩)), (3, .int .i64 0), (4, .pointer (some ⟨b2, 0, none⟩)), (9, .string t), (55, .bool true)] [.box b2 [.int .i64 2, .int .i64 1, .string ⟨#[]⟩], .box b1 [.int .i64 0, .int .i64 0, .string ⟨#[]⟩]] [] h a w := hJ.to (by kernel_rfl) rfl rfl
        refine rx hJ false 16 [.b 1 0] [] (.ok (.out .ret) [] [(2, .pointer (some ⟨b1, 0, none⟩)), (3, .int .i64 3)] [.box b2 [.int .i64 2, .int .i64 1, .string ⟨#[]⟩], .box b1 [.int .i64 0, .int .i64 0, .string ⟨#[]⟩]] []) trivial trivial (fun _ => by kernel_rfl) ?_
        clear hJ a w; intro a w hJ
        refine x_end (hQ [.agg #[.int .i64 0, .int .i64 0, .string ⟨#[]⟩], .int .i64 3] _ [] hJ (.rcell hJ.j 1 rfl (by kernel_rfl) (by kernel_rfl) (.rtmp hJ.j (by kernel_rfl) .nil)) (no_own _) rfl ?_).1
        exact Or.inr (And.intro (fun q => g1 (hG.2 q).1) rfl)
    · skip
      refine x_false hJ (t := s.toList == (⟨#[116, 114, 117, 101]⟩ : ByteArray).toList) (by kernel_rfl) (tl_no h2) ?_
      refine rx hJ false 6 [] [] (.ok (.code [1, 1, 1, 0, 0, 1, 1]) [.block 0, .seq [1, 1, 1]] [(0, .string s), (2, .pointer (some ⟨b1, 0, none⟩)), (3, .int .i64 0), (4, .pointer (some ⟨b2, 0, none⟩)), (22, .bool (s.toList == (⟨#[102, 97, 108, 115, 101]⟩ : ByteArray).toList))] [.box b2 [.int .i64 0, .int .i64 0, .string ⟨#[]⟩], .box b1 [.int .i64 0, .int .i64 0, .string ⟨#[]⟩]] []) trivial trivial (fun _ => by kernel_rfl) ?_
      clear hJ a w; intro a w hJ
      by_cases h3 : s = bfalse
      · have hp : parseV s = ⟨2, 0, ⟨#[]⟩⟩ := by unfold parseV; rw [if_neg h1, if_neg h2, if_pos h3]
        rw [hp] at hS
        have hz : Value.int .i64 (IntKind.i64.wrap (5 - (s.size : Int))) = .int .i64 0 := by rw [h3]; rfl
        refine x_true hJ (t := s.toList == (⟨#[102, 97, 108, 115, 101]⟩ : ByteArray).toList) (by kernel_rfl) (tl_yes h3) ?_
        refine rx hJ false 26 [.b 0 0, .b 0 0, .cl 7 #[.agg #[.int .i64 2, .int .i64 0, .string ⟨#[]⟩]] (.tuple #[.string t, .int .i64 e])] [(29, .int .i64 (IntKind.i64.wrap (5 - (s.size : Int))), .int .i64 0)] (.ok (.ops [0, 1, 0, 1, 1, 1] 3) [.seq [1, 1, 0, 1, 1, 1], .seq [1, 1, 1, 1]] [(0, .string s), (2, .pointer (some ⟨b1, 0, none⟩)), (3, .int .i64 0), (4, .pointer (some ⟨b2, 0, none⟩)), (9, .string t), (55, .bool (e != 0))] [.box b2 [.int .i64 2, .int .i64 0, .string ⟨#[]⟩], .box b1 [.int .i64 0, .int .i64 0, .string ⟨#[]⟩]] []) (And.intro (fun H sH => hS _ (l.sees sH)) (trivial)) (And.intro (hz) (trivial)) (fun _ => by kernel_rfl) ?_
        clear hJ a w; intro a w hJ
        by_cases g1 : e = 0
        · replace hJ := hJ.rew 55 (v := .bool (e != 0)) (v' := .bool false) (congrArg Value.bool (by rw [g1]; rfl)) (by kernel_rfl)
          replace hJ : K ⟨62, h.w, h.bad, []⟩ [(0, .string s), (2, .pointer (some ⟨b1, 0, none⟩)), (3, .int .i64 0), (4, .pointer (some ⟨b2, 0, none⟩)), (9, .string t), (55, .bool false)] [.box b2 [.int .i64 2, .int .i64 0, .string ⟨#[]⟩], .box b1 [.int .i64 0, .int .i64 0, .string ⟨#[]⟩]] [] h a w := hJ.to (by kernel_rfl) rfl rfl
          refine rx hJ false 6 [] [] (.ok (.code [1, 1, 0, 1, 1, 1]) [.seq [1, 1, 1, 1]] [(2, .pointer (some ⟨b1, 0, none⟩)), (3, .int .i64 0), (4, .pointer (some ⟨b2, 0, none⟩)), (59, .bool (t.toList != s.toList))] [.box b2 [.int .i64 2, .int .i64 0, .string ⟨#[]⟩], .box b1 [.int .i64 0, .int .i64 0, .string ⟨#[]⟩]] []) trivial trivial (fun _ => by kernel_rfl) ?_
          clear hJ a w; intro a w hJ
          by_cases g2 : t = s
          · refine x_false hJ (t := t.toList != s.toList) (by kernel_rfl) ((by rw [g2]; exact bne_self_eq_false _)) ?_
            refine rx hJ false 10 [.b 0 0, .b 1 0] [] (.ok (.out .ret) [] [(2, .pointer (some ⟨b1, 0, none⟩)), (3, .int .i64 0)] [.box b2 [.int .i64 2, .int .i64 0, .string ⟨#[]⟩], .box b1 [.int .i64 2, .int .i64 0, .string ⟨#[]⟩]] []) trivial trivial (fun _ => by kernel_rfl) ?_
            clear hJ a w; intro a w hJ
            refine x_end (hQ [.agg #[.int .i64 2, .int .i64 0, .string ⟨#[]⟩], .int .i64 0] _ [] hJ (.rcell hJ.j 1 rfl (by kernel_rfl) (by kernel_rfl) (.rtmp hJ.j (by kernel_rfl) .nil)) (no_own _) rfl ?_).1
            exact Or.inl (And.intro (hG.1 ⟨g1, g2⟩) (by rw [hp]; rfl))
          · skip
            refine x_true hJ (t := t.toList != s.toList) (by kernel_rfl) ((by show (!(t.toList == s.toList)) = true; rw [tl_no g2]; rfl)) ?_
            refine rx hJ false 9 [.b 1 0] [] (.ok (.out .ret) [] [(2, .pointer (some ⟨b1, 0, none⟩)), (3, .int .i64 3)] [.box b2 [.int .i64 2, .int .i64 0, .string ⟨#[]⟩], .box b1 [.int .i64 0, .int .i64 0, .string ⟨#[]⟩]] []) trivial trivial (fun _ => by kernel_rfl) ?_
            clear hJ a w; intro a w hJ
            refine x_end (hQ [.agg #[.int .i64 0, .int .i64 0, .string ⟨#[]⟩], .int .i64 3] _ [] hJ (.rcell hJ.j 1 rfl (by kernel_rfl) (by kernel_rfl) (.rtmp hJ.j (by kernel_rfl) .nil)) (no_own _) rfl ?_).1
            exact Or.inr (And.intro (fun q => g2 (hG.2 q).2) rfl)
        · skip
          replace hJ := hJ.rew 55 (v := .bool (e != 0)) (v' := .bool true) (congrArg Value.bool (bne_iff_ne.2 g1)) (by kernel_rfl)
          replace hJ : K ⟨62, h.w, h.bad, []⟩ [(0, .string s), (2, .pointer (some ⟨b1, 0, none⟩)), (3, .int .i64 0), (4, .pointer (some ⟨b2, 0, none⟩)), (9, .string t), (55, .bool true)] [.box b2 [.int .i64 2, .int .i64 0, .string ⟨#[]⟩], .box b1 [.int .i64 0, .int .i64 0, .string ⟨#[]⟩]] [] h a w := hJ.to (by kernel_rfl) rfl rfl
          refine rx hJ false 16 [.b 1 0] [] (.ok (.out .ret) [] [(2, .pointer (some ⟨b1, 0, none⟩)), (3, .int .i64 3)] [.box b2 [.int .i64 2, .int .i64 0, .string ⟨#[]⟩], .box b1 [.int .i64 0, .int .i64 0, .string ⟨#[]⟩]] []) trivial trivial (fun _ => by kernel_rfl) ?_
          clear hJ a w; intro a w hJ
          refine x_end (hQ [.agg #[.int .i64 0, .int .i64 0, .string ⟨#[]⟩], .int .i64 3] _ [] hJ (.rcell hJ.j 1 rfl (by kernel_rfl) (by kernel_rfl) (.rtmp hJ.j (by kernel_rfl) .nil)) (no_own _) rfl ?_).1
          exact Or.inr (And.intro (fun q => g1 (hG.2 q).1) rfl)
      · skip
        cases hl : s.data.toList with
        | nil =>
          have hp : parseV s = ⟨1, atoiN s.data.toList, ⟨#[]⟩⟩ := by unfold parseV; rw [if_neg h1, if_neg h2, if_neg h3, hl]; rfl
          rw [hp] at hS
          have hp1 := fun H => hpre 33 H
          have hp2 := fun H => hpre 34 H
          rw [pre_no hl] at hp1 hp2
          refine x_false hJ (t := s.toList == (⟨#[102, 97, 108, 115, 101]⟩ : ByteArray).toList) (by kernel_rfl) (tl_no h3) ?_
          refine rx hJ false 19 [.cl 15 #[.string s, .string ⟨#[33]⟩] (.bool false), .cl 15 #[.string s, .string ⟨#[34]⟩] (.bool false)] [] (.ok (.ops [0, 1, 1, 1, 1, 1, 1, 1, 1, 0, 0, 1, 1] 1) [.seq [1, 1, 1, 1, 1, 1, 1, 1, 1, 0, 0, 1, 1], .block 0, .seq [1, 1, 1]] [(0, .string s), (2, .pointer (some ⟨b1, 0, none⟩)), (3, .int .i64 0), (4, .pointer (some ⟨b2, 0, none⟩)), (12, .string s)] [.box b2 [.int .i64 0, .int .i64 0, .string ⟨#[]⟩], .box b1 [.int .i64 0, .int .i64 0, .string ⟨#[]⟩]] []) (And.intro (fun H sH => hp1 _) (And.intro (fun H sH => hp2 _) (trivial))) trivial (fun _ => by kernel_rfl) ?_
          clear hJ a w; intro a w hJ
          refine x_call hJ 13 (hat _ (l.sees hJ.j.sees)) (fun _ => by kernel_rfl) ?_; clear hJ a w; rintro _ h3 a w s4 ⟨u, rfl⟩ hJ
          refine rx hJ false 18 [.b 0 0, .b 0 0] [] (.ok (.ops [0, 0, 1, 1, 1] 1) [.seq [1, 0, 1, 1, 1], .seq [1, 1, 1, 1]] [(0, .string s), (2, .pointer (some ⟨b1, 0, none⟩)), (3, .int .i64 0), (4, .pointer (some ⟨b2, 0, none⟩)), (49, .agg #[.int .i64 1, .int .i64 (atoiN s.data.toList), .string ⟨#[]⟩])] [.box b2 [.int .i64 1, .int .i64 (atoiN s.data.toList), .string ⟨#[]⟩], .box b1 [.int .i64 0, .int .i64 0, .string ⟨#[]⟩]] []) trivial trivial (fun _ => by kernel_rfl) ?_
          clear hJ a w; intro a w hJ
          refine rx hJ false 13 [.cl 7 #[.agg #[.int .i64 1, .int .i64 (atoiN s.data.toList), .string ⟨#[]⟩]] (.tuple #[.string t, .int .i64 e])] [] (.ok (.ops [0, 1, 0, 1, 1, 1] 3) [.seq [1, 1, 0, 1, 1, 1], .seq [1, 1, 1, 1]] [(0, .string s), (2, .pointer (some ⟨b1, 0, none⟩)), (3, .int .i64 0), (4, .pointer (some ⟨b2, 0, none⟩)), (9, .string t), (55, .bool (e != 0))] [.box b2 [.int .i64 1, .int .i64 (atoiN s.data.toList), .string ⟨#[]⟩], .box b1 [.int .i64 0, .int .i64 0, .string ⟨#[]⟩]] []) (And.intro (fun H sH => hS _ (l.sees (s4.trans sH))) (trivial)) trivial (fun _ => by kernel_rfl) ?_
          clear hJ a w; intro a w hJ
          by_cases g1 : e = 0
          · replace hJ := hJ.rew 55 (v := .bool (e != 0)) (v' := .bool false) (congrArg Value.bool (by rw [g1]; rfl)) (by kernel_rfl)
            replace hJ : K ⟨62, h.w, h.bad, []⟩ [(0, .string s), (2, .pointer (some ⟨b1, 0, none⟩)), (3, .int .i64 0), (4, .pointer (some ⟨b2, 0, none⟩)), (9, .string t), (55, .bool false)] [.box b2 [.int .i64 1, .int .i64 (atoiN s.data.toList), .string ⟨#[]⟩], .box b1 [.int .i64 0, .int .i64 0, .string ⟨#[]⟩]] [] h3 a w := hJ.to (by kernel_rfl) rfl rfl
            refine rx hJ false 6 [] [] (.ok (.code [1, 1, 0, 1, 1, 1]) [.seq [1, 1, 1, 1]] [(2, .pointer (some ⟨b1, 0, none⟩)), (3, .int .i64 0), (4, .pointer (some ⟨b2, 0, none⟩)), (59, .bool (t.toList != s.toList))] [.box b2 [.int .i64 1, .int .i64 (atoiN s.data.toList), .string ⟨#[]⟩], .box b1 [.int .i64 0, .int .i64 0, .string ⟨#[]⟩]] []) trivial trivial (fun _ => by kernel_rfl) ?_
            clear hJ a w; intro a w hJ
            by_cases g2 : t = s
            · refine x_false hJ (t := t.toList != s.toList) (by kernel_rfl) ((by rw [g2]; exact bne_self_eq_false _)) ?_
              refine rx hJ false 10 [.b 0 0, .b 1 0] [] (.ok (.out .ret) [] [(2, .pointer (some ⟨b1, 0, none⟩)), (3, .int .i64 0)] [.box b2 [.int .i64 1, .int .i64 (atoiN s.data.toList), .string ⟨#[]⟩], .box b1 [.int .i64 1, .int .i64 (atoiN s.data.toList), .string ⟨#[]⟩]] []) trivial trivial (fun _ => by kernel_rfl) ?_
              clear hJ a w; intro a w hJ
              refine x_end (hQ [.agg #[.int .i64 1, .int .i64 (atoiN s.data.toList), .string ⟨#[]⟩], .int .i64 0] _ [] hJ (.rcell hJ.j 1 rfl (by kernel_rfl) (by kernel_rfl) (.rtmp hJ.j (by kernel_rfl) .nil)) (no_own _) rfl ?_).1
              exact Or.inl (And.intro (hG.1 ⟨g1, g2⟩) (by rw [hp]; rfl))
            · skip
              refine x_true hJ (t := t.toList != s.toList) (by kernel_rfl) ((by show (!(t.toList == s.toList)) = true; rw [tl_no g2]; rfl)) ?_
              refine rx hJ false 9 [.b 1 0] [] (.ok (.out .ret) [] [(2, .pointer (some ⟨b1, 0, none⟩)), (3, .int .i64 3)] [.box b2 [.int .i64 1, .int .i64 (atoiN s.data.toList), .string ⟨#[]⟩], .box b1 [.int .i64 0, .int .i64 0, .string ⟨#[]⟩]] []) trivial trivial (fun _ => by kernel_rfl) ?_
              clear hJ a w; intro a w hJ
              refine x_end (hQ [.agg #[.int .i64 0, .int .i64 0, .string ⟨#[]⟩], .int .i64 3] _ [] hJ (.rcell hJ.j 1 rfl (by kernel_rfl) (by kernel_rfl) (.rtmp hJ.j (by kernel_rfl) .nil)) (no_own _) rfl ?_).1
              exact Or.inr (And.intro (fun q => g2 (hG.2 q).2) rfl)
          · skip
            replace hJ := hJ.rew 55 (v := .bool (e != 0)) (v' := .bool true) (congrArg Value.bool (bne_iff_ne.2 g1)) (by kernel_rfl)
            replace hJ : K ⟨62, h.w, h.bad, []⟩ [(0, .string s), (2, .pointer (some ⟨b1, 0, none⟩)), (3, .int .i64 0), (4, .pointer (some ⟨b2, 0, none⟩)), (9, .string t), (55, .bool true)] [.box b2 [.int .i64 1, .int .i64 (atoiN s.data.toList), .string ⟨#[]⟩], .box b1 [.int .i64 0, .int .i64 0, .string ⟨#[]⟩]] [] h3 a w := hJ.to (by kernel_rfl) rfl rfl
            refine rx hJ false 16 [.b 1 0] [] (.ok (.out .ret) [] [(2, .pointer (some ⟨b1, 0, none⟩)), (3, .int .i64 3)] [.box b2 [.int .i64 1, .int .i64 (atoiN s.data.toList), .string ⟨#[]⟩], .box b1 [.int .i64 0, .int .i64 0, .string ⟨#[]⟩]] []) trivial trivial (fun _ => by kernel_rfl) ?_
            clear hJ a w; intro a w hJ
            refine x_end (hQ [.agg #[.int .i64 0, .int .i64 0, .string ⟨#[]⟩], .int .i64 3] _ [] hJ (.rcell hJ.j 1 rfl (by kernel_rfl) (by kernel_rfl) (.rtmp hJ.j (by kernel_rfl) .nil)) (no_own _) rfl ?_).1
            exact Or.inr (And.intro (fun q => g1 (hG.2 q).1) rfl)
        | cons c r =>
          have hz1 : 1 ≤ s.size := by rw [← toList_size, hl]; simp
          have hr : (s.extract 1 s.size).data.toList = r := by rw [Lib.extract_to_end, hl]; rfl
          have hzx : (s.extract 1 s.size).size ≤ s.size := by simp
          have hat2 := fun H q => c_atoi (s.extract 1 s.size) H q (by omega)
          rw [hr] at hat2
          have hp1 := fun H => hpre 33 H
          have hp2 := fun H => hpre 34 H
          rw [pre_yes hl] at hp1 hp2
          by_cases c1 : c = 33
          · have hp : parseV s = ⟨5, atoiN r, ⟨#[]⟩⟩ := by unfold parseV; rw [if_neg h1, if_neg h2, if_neg h3, hl]; simp only; rw [if_pos c1]
            rw [hp] at hS
            rw [c1] at hp1
            refine x_false hJ (t := s.toList == (⟨#[102, 97, 108, 115, 101]⟩ : ByteArray).toList) (by kernel_rfl) (tl_no h3) ?_
            refine rx hJ false 11 [.cl 15 #[.string s, .string ⟨#[33]⟩] (.bool true)] [] (.ok (.ops [0, 0, 1, 1, 1, 1, 1, 0, 0, 1, 1] 1) [.seq [1, 0, 1, 1, 1, 1, 1, 0, 0, 1, 1], .block 0, .seq [1, 1, 1]] [(0, .string s), (2, .pointer (some ⟨b1, 0, none⟩)), (3, .int .i64 0), (4, .pointer (some ⟨b2, 0, none⟩)), (35, .string s)] [.box b2 [.int .i64 0, .int .i64 0, .string ⟨#[]⟩], .box b1 [.int .i64 0, .int .i64 0, .string ⟨#[]⟩]] []) (And.intro (fun H sH => hp1 _) (trivial)) trivial (fun _ => by kernel_rfl) ?_
            clear hJ a w; intro a w hJ
            refine x_pure hJ 36 (.string (s.extract 1 s.size)) (by kernel_rfl) (fun w => run_from (x := .tmp 35) (y := .const (.int .i64 1)) (t := 9) (by kernel_rfl) (by kernel_rfl) (by kernel_rfl) Tryd.underlying9 hz1) ?_; clear hJ a w; intro a w hJ
            refine x_call hJ 37 (hat2 _ (l.sees hJ.j.sees)) (fun _ => by kernel_rfl) ?_; clear hJ a w; rintro _ h5 a w s6 ⟨u, rfl⟩ hJ
            refine rx hJ false 18 [.b 0 0, .b 0 0] [] (.ok (.ops [0, 0, 1, 1, 1] 1) [.seq [1, 0, 1, 1, 1], .seq [1, 1, 1, 1]] [(0, .string s), (2, .pointer (some ⟨b1, 0, none⟩)), (3, .int .i64 0), (4, .pointer (some ⟨b2, 0, none⟩)), (49, .agg #[.int .i64 5, .int .i64 (atoiN r), .string ⟨#[]⟩])] [.box b2 [.int .i64 5, .int .i64 (atoiN r), .string ⟨#[]⟩], .box b1 [.int .i64 0, .int .i64 0, .string ⟨#[]⟩]] []) trivial trivial (fun _ => by kernel_rfl) ?_
            clear hJ a w; intro a w hJ
            refine rx hJ false 13 [.cl 7 #[.agg #[.int .i64 5, .int .i64 (atoiN r), .string ⟨#[]⟩]] (.tuple #[.string t, .int .i64 e])] [] (.ok (.ops [0, 1, 0, 1, 1, 1] 3) [.seq [1, 1, 0, 1, 1, 1], .seq [1, 1, 1, 1]] [(0, .string s), (2, .pointer (some ⟨b1, 0, none⟩)), (3, .int .i64 0), (4, .pointer (some ⟨b2, 0, none⟩)), (9, .string t), (55, .bool (e != 0))] [.box b2 [.int .i64 5, .int .i64 (atoiN r), .string ⟨#[]⟩], .box b1 [.int .i64 0, .int .i64 0, .string ⟨#[]⟩]] []) (And.intro (fun H sH => hS _ (l.sees (s6.trans sH))) (trivial)) trivial (fun _ => by kernel_rfl) ?_
            clear hJ a w; intro a w hJ
            by_cases g1 : e = 0
            · replace hJ := hJ.rew 55 (v := .bool (e != 0)) (v' := .bool false) (congrArg Value.bool (by rw [g1]; rfl)) (by kernel_rfl)
              replace hJ : K ⟨62, h.w, h.bad, []⟩ [(0, .string s), (2, .pointer (some ⟨b1, 0, none⟩)), (3, .int .i64 0), (4, .pointer (some ⟨b2, 0, none⟩)), (9, .string t), (55, .bool false)] [.box b2 [.int .i64 5, .int .i64 (atoiN r), .string ⟨#[]⟩], .box b1 [.int .i64 0, .int .i64 0, .string ⟨#[]⟩]] [] h5 a w := hJ.to (by kernel_rfl) rfl rfl
              refine rx hJ false 6 [] [] (.ok (.code [1, 1, 0, 1, 1, 1]) [.seq [1, 1, 1, 1]] [(2, .pointer (some ⟨b1, 0, none⟩)), (3, .int .i64 0), (4, .pointer (some ⟨b2, 0, none⟩)), (59, .bool (t.toList != s.toList))] [.box b2 [.int .i64 5, .int .i64 (atoiN r), .string ⟨#[]⟩], .box b1 [.int .i64 0, .int .i64 0, .string ⟨#[]⟩]] []) trivial trivial (fun _ => by kernel_rfl) ?_
              clear hJ a w; intro a w hJ
              by_cases g2 : t = s
              · refine x_false hJ (t := t.toList != s.toList) (by kernel_rfl) ((by rw [g2]; exact bne_self_eq_false _)) ?_
                refine rx hJ false 10 [.b 0 0, .b 1 0] [] (.ok (.out .ret) [] [(2, .pointer (some ⟨b1, 0, none⟩)), (3, .int .i64 0)] [.box b2 [.int .i64 5, .int .i64 (atoiN r), .string ⟨#[]⟩], .box b1 [.int .i64 5, .int .i64 (atoiN r), .string ⟨#[]⟩]] []) trivial trivial (fun _ => by kernel_rfl) ?_
                clear hJ a w; intro a w hJ
                refine x_end (hQ [.agg #[.int .i64 5, .int .i64 (atoiN r), .string ⟨#[]⟩], .int .i64 0] _ [] hJ (.rcell hJ.j 1 rfl (by kernel_rfl) (by kernel_rfl) (.rtmp hJ.j (by kernel_rfl) .nil)) (no_own _) rfl ?_).1
                exact Or.inl (And.intro (hG.1 ⟨g1, g2⟩) (by rw [hp]; rfl))
              · skip
                refine x_true hJ (t := t.toList != s.toList) (by kernel_rfl) ((by show (!(t.toList == s.toList)) = true; rw [tl_no g2]; rfl)) ?_
                refine rx hJ false 9 [.b 1 0] [] (.ok (.out .ret) [] [(2, .pointer (some ⟨b1, 0, none⟩)), (3, .int .i64 3)] [.box b2 [.int .i64 5, .int .i64 (atoiN r), .string ⟨#[]⟩], .box b1 [.int .i64 0, .int .i64 0, .string ⟨#[]⟩]] []) trivial trivial (fun _ => by kernel_rfl) ?_
                clear hJ a w; intro a w hJ
                refine x_end (hQ [.agg #[.int .i64 0, .int .i64 0, .string ⟨#[]⟩], .int .i64 3] _ [] hJ (.rcell hJ.j 1 rfl (by kernel_rfl) (by kernel_rfl) (.rtmp hJ.j (by kernel_rfl) .nil)) (no_own _) rfl ?_).1
                exact Or.inr (And.intro (fun q => g2 (hG.2 q).2) rfl)
            · skip
              replace hJ := hJ.rew 55 (v := .bool (e != 0)) (v' := .bool true) (congrArg Value.bool (bne_iff_ne.2 g1)) (by kernel_rfl)
              replace hJ : K ⟨62, h.w, h.bad, []⟩ [(0, .string s), (2, .pointer (some ⟨b1, 0, none⟩)), (3, .int .i64 0), (4, .pointer (some ⟨b2, 0, none⟩)), (9, .string t), (55, .bool true)] [.box b2 [.int .i64 5, .int .i64 (atoiN r), .string ⟨#[]⟩], .box b1 [.int .i64 0, .int .i64 0, .string ⟨#[]⟩]] [] h5 a w := hJ.to (by kernel_rfl) rfl rfl
              refine rx hJ false 16 [.b 1 0] [] (.ok (.out .ret) [] [(2, .pointer (some ⟨b1, 0, none⟩)), (3, .int .i64 3)] [.box b2 [.int .i64 5, .int .i64 (atoiN r), .string ⟨#[]⟩], .box b1 [.int .i64 0, .int .i64 0, .string ⟨#[]⟩]] []) trivial trivial (fun _ => by kernel_rfl) ?_
              clear hJ a w; intro a w hJ
              refine x_end (hQ [.agg #[.int .i64 0, .int .i64 0, .string ⟨#[]⟩], .int .i64 3] _ [] hJ (.rcell hJ.j 1 rfl (by kernel_rfl) (by kernel_rfl) (.rtmp hJ.j (by kernel_rfl) .nil)) (no_own _) rfl ?_).1
              exact Or.inr (And.intro (fun q => g1 (hG.2 q).1) rfl)
          · have e33 : ((33 : UInt8) == c) = false := beq_eq_false_iff_ne.2 (fun q => c1 q.symm)
            rw [e33] at hp1
            by_cases c2 : c = 34
            · have hp : parseV s = ⟨3, 0, ⟨(unqS s).toArray⟩⟩ := by unfold parseV; rw [if_neg h1, if_neg h2, if_neg h3, hl]; simp only; rw [if_neg c1, if_pos c2]
              rw [hp] at hS
              rw [c2] at hp2
              refine x_false hJ (t := s.toList == (⟨#[102, 97, 108, 115, 101]⟩ : ByteArray).toList) (by kernel_rfl) (tl_no h3) ?_
              refine rx hJ false 41 [.cl 15 #[.string s, .string ⟨#[33]⟩] (.bool false), .cl 15 #[.string s, .string ⟨#[34]⟩] (.bool true), .cl 17 #[.string s] (.string ⟨(unqS s).toArray⟩), .b 0 0, .b 0 0, .cl 7 #[.agg #[.int .i64 3, .int .i64 0, .string ⟨(unqS s).toArray⟩]] (.tuple #[.string t, .int .i64 e])] [] (.ok (.ops [0, 1, 0, 1, 1, 1] 3) [.seq [1, 1, 0, 1, 1, 1], .seq [1, 1, 1, 1]] [(0, .string s), (2, .pointer (some ⟨b1, 0, none⟩)), (3, .int .i64 0), (4, .pointer (some ⟨b2, 0, none⟩)), (9, .string t), (55, .bool (e != 0))] [.box b2 [.int .i64 3, .int .i64 0, .string ⟨(unqS s).toArray⟩], .box b1 [.int .i64 0, .int .i64 0, .string ⟨#[]⟩]] []) (And.intro (fun H sH => hp1 _) (And.intro (fun H sH => hp2 _) (And.intro (fun H sH => hun _) (And.intro (fun H sH => hS _ (l.sees sH)) (trivial))))) trivial (fun _ => by kernel_rfl) ?_
              clear hJ a w; intro a w hJ
              by_cases g1 : e = 0
              · replace hJ := hJ.rew 55 (v := .bool (e != 0)) (v' := .bool false) (congrArg Value.bool (by rw [g1]; rfl)) (by kernel_rfl)
                replace hJ : K ⟨62, h.w, h.bad, []⟩ [(0, .string s), (2, .pointer (some ⟨b1, 0, none⟩)), (3, .int .i64 0), (4, .pointer (some ⟨b2, 0, none⟩)), (9, .string t), (55, .bool false)] [.box b2 [.int .i64 3, .int .i64 0, .string ⟨(unqS s).toArray⟩], .box b1 [.int .i64 0, .int .i64 0, .string ⟨#[]⟩]] [] h a w := hJ.to (by kernel_rfl) rfl rfl
                refine rx hJ false 6 [] [] (.ok (.code [1, 1, 0, 1, 1, 1]) [.seq [1, 1, 1, 1]] [(2, .pointer (some ⟨b1, 0, none⟩)), (3, .int .i64 0), (4, .pointer (some ⟨b2, 0, none⟩)), (59, .bool (t.toList != s.toList))] [.box b2 [.int .i64 3, .int .i64 0, .string ⟨(unqS s).toArray⟩], .box b1 [.int .i64 0, .int .i64 0, .string ⟨#[]⟩]] []) trivial trivial (fun _ => by kernel_rfl) ?_
                clear hJ a w; intro a w hJ
                by_cases g2 : t = s
                · refine x_false hJ (t := t.toList != s.toList) (by kernel_rfl) ((by rw [g2]; exact bne_self_eq_false _)) ?_
                  refine rx hJ false 10 [.b 0 0, .b 1 0] [] (.ok (.out .ret) [] [(2, .pointer (some ⟨b1, 0, none⟩)), (3, .int .i64 0)] [.box b2 [.int .i64 3, .int .i64 0, .string ⟨(unqS s).toArray⟩], .box b1 [.int .i64 3, .int .i64 0, .string ⟨(unqS s).toArray⟩]] []) trivial trivial (fun _ => by kernel_rfl) ?_
                  clear hJ a w; intro a w hJ
                  refine x_end (hQ [.agg #[.int .i64 3, .int .i64 0, .string ⟨(unqS s).toArray⟩], .int .i64 0] _ [] hJ (.rcell hJ.j 1 rfl (by kernel_rfl) (by kernel_rfl) (.rtmp hJ.j (by kernel_rfl) .nil)) (no_own _) rfl ?_).1
                  exact Or.inl (And.intro (hG.1 ⟨g1, g2⟩) (by rw [hp]; rfl))
                · skip
                  refine x_true hJ (t := t.toList != s.toList) (by kernel_rfl) ((by show (!(t.toList == s.toList)) = true; rw [tl_no g2]; rfl)) ?_
                  refine rx hJ false 9 [.b 1 0] [] (.ok (.out .ret) [] [(2, .pointer (some ⟨b1, 0, none⟩)), (3, .int .i64 3)] [.box b2 [.int .i64 3, .int .i64 0, .string ⟨(unqS s).toArray⟩], .box b1 [.int .i64 0, .int .i64 0, .string ⟨#[]⟩]] []) trivial trivial (fun _ => by kernel_rfl) ?_
                  clear hJ a w; intro a w hJ
                  refine x_end (hQ [.agg #[.int .i64 0, .int .i64 0, .string ⟨#[]⟩], .int .i64 3] _ [] hJ (.rcell hJ.j 1 rfl (by kernel_rfl) (by kernel_rfl) (.rtmp hJ.j (by kernel_rfl) .nil)) (no_own _) rfl ?_).1
                  exact Or.inr (And.intro (fun q => g2 (hG.2 q).2) rfl)
              · skip
                replace hJ := hJ.rew 55 (v := .bool (e != 0)) (v' := .bool true) (congrArg Value.bool (bne_iff_ne.2 g1)) (by kernel_rfl)
                replace hJ : K ⟨62, h.w, h.bad, []⟩ [(0, .string s), (2, .pointer (some ⟨b1, 0, none⟩)), (3, .int .i64 0), (4, .pointer (some ⟨b2, 0, none⟩)), (9, .string t), (55, .bool true)] [.box b2 [.int .i64 3, .int .i64 0, .string ⟨(unqS s).toArray⟩], .box b1 [.int .i64 0, .int .i64 0, .string ⟨#[]⟩]] [] h a w := hJ.to (by kernel_rfl) rfl rfl
                refine rx hJ false 16 [.b 1 0] [] (.ok (.out .ret) [] [(2, .pointer (some ⟨b1, 0, none⟩)), (3, .int .i64 3)] [.box b2 [.int .i64 3, .int .i64 0, .string ⟨(unqS s).toArray⟩], .box b1 [.int .i64 0, .int .i64 0, .string ⟨#[]⟩]] []) trivial trivial (fun _ => by kernel_rfl) ?_
                clear hJ a w; intro a w hJ
                refine x_end (hQ [.agg #[.int .i64 0, .int .i64 0, .string ⟨#[]⟩], .int .i64 3] _ [] hJ (.rcell hJ.j 1 rfl (by kernel_rfl) (by kernel_rfl) (.rtmp hJ.j (by kernel_rfl) .nil)) (no_own _) rfl ?_).1
                exact Or.inr (And.intro (fun q => g1 (hG.2 q).1) rfl)
            · have e34 : ((34 : UInt8) == c) = false := beq_eq_false_iff_ne.2 (fun q => c2 q.symm)
              have hp : parseV s = ⟨1, atoiN s.data.toList, ⟨#[]⟩⟩ := by unfold parseV; rw [if_neg h1, if_neg h2, if_neg h3, hl]; simp only; rw [if_neg c1, if_neg c2]
              rw [hp] at hS
              rw [e34] at hp2
              refine x_false hJ (t := s.toList == (⟨#[102, 97, 108, 115, 101]⟩ : ByteArray).toList) (by kernel_rfl) (tl_no h3) ?_
              refine rx hJ false 19 [.cl 15 #[.string s, .string ⟨#[33]⟩] (.bool false), .cl 15 #[.string s, .string ⟨#[34]⟩] (.bool false)] [] (.ok (.ops [0, 1, 1, 1, 1, 1, 1, 1, 1, 0, 0, 1, 1] 1) [.seq [1, 1, 1, 1, 1, 1, 1, 1, 1, 0, 0, 1, 1], .block 0, .seq [1, 1, 1]] [(0, .string s), (2, .pointer (some ⟨b1, 0, none⟩)), (3, .int .i64 0), (4, .pointer (some ⟨b2, 0, none⟩)), (12, .string s)] [.box b2 [.int .i64 0, .int .i64 0, .string ⟨#[]⟩], .box b1 [.int .i64 0, .int .i64 0, .string ⟨#[]⟩]] []) (And.intro (fun H sH => hp1 _) (And.intro (fun H sH => hp2 _) (trivial))) trivial (fun _ => by kernel_rfl) ?_
              clear hJ a w; intro a w hJ
              refine x_call hJ 13 (hat _ (l.sees hJ.j.sees)) (fun _ => by kernel_rfl) ?_; clear hJ a w; rintro _ h7 a w s8 ⟨u, rfl⟩ hJ
              refine rx hJ false 18 [.b 0 0, .b 0 0] [] (.ok (.ops [0, 0, 1, 1, 1] 1) [.seq [1, 0, 1, 1, 1], .seq [1, 1, 1, 1]] [(0, .string s), (2, .pointer (some ⟨b1, 0, none⟩)), (3, .int .i64 0), (4, .pointer (some ⟨b2, 0, none⟩)), (49, .agg #[.int .i64 1, .int .i64 (atoiN s.data.toList), .string ⟨#[]⟩])] [.box b2 [.int .i64 1, .int .i64 (atoiN s.data.toList), .string ⟨#[]⟩], .box b1 [.int .i64 0, .int .i64 0, .string ⟨#[]⟩]] []) trivial trivial (fun _ => by kernel_rfl) ?_
              clear hJ a w; intro a w hJ
              refine rx hJ false 13 [.cl 7 #[.agg #[.int .i64 1, .int .i64 (atoiN s.data.toList), .string ⟨#[]⟩]] (.tuple #[.string t, .int .i64 e])] [] (.ok (.ops [0, 1, 0, 1, 1, 1] 3) [.seq [1, 1, 0, 1, 1, 1], .seq [1, 1, 1, 1]] [(0, .string s), (2, .pointer (some ⟨b1, 0, none⟩)), (3, .int .i64 0), (4, .pointer (some ⟨b2, 0, none⟩)), (9, .string t), (55, .bool (e != 0))] [.box b2 [.int .i64 1, .int .i64 (atoiN s.data.toList), .string ⟨#[]⟩], .box b1 [.int .i64 0, .int .i64 0, .string ⟨#[]⟩]] []) (And.intro (fun H sH => hS _ (l.sees (s8.trans sH))) (trivial)) trivial (fun _ => by kernel_rfl) ?_
              clear hJ a w; intro a w hJ
              by_cases g1 : e = 0
              · replace hJ := hJ.rew 55 (v := .bool (e != 0)) (v' := .bool false) (congrArg Value.bool (by rw [g1]; rfl)) (by kernel_rfl)
                replace hJ : K ⟨62, h.w, h.bad, []⟩ [(0, .string s), (2, .pointer (some ⟨b1, 0, none⟩)), (3, .int .i64 0), (4, .pointer (some ⟨b2, 0, none⟩)), (9, .string t), (55, .bool false)] [.box b2 [.int .i64 1, .int .i64 (atoiN s.data.toList), .string ⟨#[]⟩], .box b1 [.int .i64 0, .int .i64 0, .string ⟨#[]⟩]] [] h7 a w := hJ.to (by kernel_rfl) rfl rfl
                refine rx hJ false 6 [] [] (.ok (.code [1, 1, 0, 1, 1, 1]) [.seq [1, 1, 1, 1]] [(2, .pointer (some ⟨b1, 0, none⟩)), (3, .int .i64 0), (4, .pointer (some ⟨b2, 0, none⟩)), (59, .bool (t.toList != s.toList))] [.box b2 [.int .i64 1, .int .i64 (atoiN s.data.toList), .string ⟨#[]⟩], .box b1 [.int .i64 0, .int .i64 0, .string ⟨#[]⟩]] []) trivial trivial (fun _ => by kernel_rfl) ?_
                clear hJ a w; intro a w hJ
                by_cases g2 : t = s
                · refine x_false hJ (t := t.toList != s.toList) (by kernel_rfl) ((by rw [g2]; exact bne_self_eq_false _)) ?_
                  refine rx hJ false 10 [.b 0 0, .b 1 0] [] (.ok (.out .ret) [] [(2, .pointer (some ⟨b1, 0, none⟩)), (3, .int .i64 0)] [.box b2 [.int .i64 1, .int .i64 (atoiN s.data.toList), .string ⟨#[]⟩], .box b1 [.int .i64 1, .int .i64 (atoiN s.data.toList), .string ⟨#[]⟩]] []) trivial trivial (fun _ => by kernel_rfl) ?_
                  clear hJ a w; intro a w hJ
                  refine x_end (hQ [.agg #[.int .i64 1, .int .i64 (atoiN s.data.toList), .string ⟨#[]⟩], .int .i64 0] _ [] hJ (.rcell hJ.j 1 rfl (by kernel_rfl) (by kernel_rfl) (.rtmp hJ.j (by kernel_rfl) .nil)) (no_own _) rfl ?_).1
                  exact Or.inl (And.intro (hG.1 ⟨g1, g2⟩) (by rw [hp]; rfl))
                · skip
                  refine x_true hJ (t := t.toList != s.toList) (by kernel_rfl) ((by show (!(t.toList == s.toList)) = true; rw [tl_no g2]; rfl)) ?_
                  refine rx hJ false 9 [.b 1 0] [] (.ok (.out .ret) [] [(2, .pointer (some ⟨b1, 0, none⟩)), (3, .int .i64 3)] [.box b2 [.int .i64 1, .int .i64 (atoiN s.data.toList), .string ⟨#[]⟩], .box b1 [.int .i64 0, .int .i64 0, .string ⟨#[]⟩]] []) trivial trivial (fun _ => by kernel_rfl) ?_
                  clear hJ a w; intro a w hJ
                  refine x_end (hQ [.agg #[.int .i64 0, .int .i64 0, .string ⟨#[]⟩], .int .i64 3] _ [] hJ (.rcell hJ.j 1 rfl (by kernel_rfl) (by kernel_rfl) (.rtmp hJ.j (by kernel_rfl) .nil)) (no_own _) rfl ?_).1
                  exact Or.inr (And.intro (fun q => g2 (hG.2 q).2) rfl)
              · skip
                replace hJ := hJ.rew 55 (v := .bool (e != 0)) (v' := .bool true) (congrArg Value.bool (bne_iff_ne.2 g1)) (by kernel_rfl)
                replace hJ : K ⟨62, h.w, h.bad, []⟩ [(0, .string s), (2, .pointer (some ⟨b1, 0, none⟩)), (3, .int .i64 0), (4, .pointer (some ⟨b2, 0, none⟩)), (9, .string t), (55, .bool true)] [.box b2 [.int .i64 1, .int .i64 (atoiN s.data.toList), .string ⟨#[]⟩], .box b1 [.int .i64 0, .int .i64 0, .string ⟨#[]⟩]] [] h7 a w := hJ.to (by kernel_rfl) rfl rfl
                refine rx hJ false 16 [.b 1 0] [] (.ok (.out .ret) [] [(2, .pointer (some ⟨b1, 0, none⟩)), (3, .int .i64 3)] [.box b2 [.int .i64 1, .int .i64 (atoiN s.data.toList), .string ⟨#[]⟩], .box b1 [.int .i64 0, .int .i64 0, .string ⟨#[]⟩]] []) trivial trivial (fun _ => by kernel_rfl) ?_
                clear hJ a w; intro a w hJ
                refine x_end (hQ [.agg #[.int .i64 0, .int .i64 0, .string ⟨#[]⟩], .int .i64 3] _ [] hJ (.rcell hJ.j 1 rfl (by kernel_rfl) (by kernel_rfl) (.rtmp hJ.j (by kernel_rfl) .nil)) (no_own _) rfl ?_).1
                exact Or.inr (And.intro (fun q => g1 (hG.2 q).1) rfl)

end Go.Proofs.YtapdpoijdmpfbaaDoor
