/-
  Contracts of expr.Parse: a text that is a formula; one that is too long.
-/
import Derived.Test.YthplkompdehjlaaGreatDoorGo
import Derived.Test.YthplkompdehjlaaGreatDoorPrnR
import Derived.Test.YthplkompdehjlaaGreatDoorRds
import Derived.Test.YthplkompdehjlaaGreatDoorDef
import Derived.Test.YthplkompdehjlaaGreatDoorLexG
namespace Go.Proofs.YthplkompdehjlaaGreatDoor
open Go.RowKit
set_option linter.unusedVariables false

/-! ### The deferred call, where nothing was thrown up -/
theorem prs_idle (args : Array Value) (hs : args.size = 3) (w : World) : CallsD Tryz.prog 28 args .returning w fun e u' w' => e = .returned (.tuple #[]) ∧ u' = .returning ∧ w' = w := by
  obtain ⟨x, y, z, rfl⟩ : ∃ x y z, args = #[x, y, z] := by
    obtain ⟨l⟩ := args
    match l, hs with
    | [x, y, z], _ => exact ⟨x, y, z, rfl⟩
  refine callsD_of_wpS Tryz.func28 rfl fun c₀ cs hu => ?_
  apply wpS_seq
  apply wpS_region
  simp [wpOpsS, go_sem, recoverD, hu, Tryz.ntmps28, Exit.thenS]
  refine wpS_of_wp ?_
  go_wp2_with fail
  refine ⟨rfl, .returning, ?_, .tuple #[], ?_, rfl, rfl, rfl⟩
  · obtain ⟨⟩ := c₀
    simp only at hu
    subst hu
    rfl
  · simp [results, Tryz.results28, go_sem]
theorem prs_idleD (x y z : Value) : Idle Tryz.prog ⟨.fn (.func 28) #[x, y, z], #[]⟩ := ⟨_, _, 28, #[x, y, z], rfl, fun w => by kernel_rfl, fun w => prs_idle #[x, y, z] rfl w⟩
/-- A text that is too long. -/
theorem tok_long (s : ByteArray) (h : Vw) (hs : 160 < s.size) (hs2 : s.size ≤ 9223372036854775807) : C0 Tryz.prog 27 #[.string s] h (fun r _ => r = .tuple #[.slice none 0 0, .int .i64 0, .int .i64 1]) := C0.of_same (fun w => tokens_long s w hs hs2) h
theorem tok_ok (s : ByteArray) (ts : List TokA) (h : Vw) (hs : s.size ≤ 160) (he : lexF s.data.toList = .ok ts) : C0 Tryz.prog 27 #[.string s] h (fun r h' => ∃ A C, r = .tuple #[.slice A ts.length C, .int .i64 0, .int .i64 0] ∧ RS h' 6 (.slice A ts.length C) (tkRows ts)) := by
  intro _ _ _ hbad
  refine (tokens_any s h.w hs).mono ?_
  rintro e w' ⟨hb, ⟨a', er', h1, rfl⟩ | ⟨us, v, h1, rfl, ho, hl⟩⟩
  · rw [he] at h1; cases h1
  · rw [he] at h1
    injection h1 with h1
    subst h1
    have ho' : Own w' h.w.heap.size 117 6 v (tkRows ts).length (tkRows ts).flatten := by rw [List.length_map]; exact ho
    have hr := rs_of_own (bad := h.bad) ho' (tcells_len ts) hbad
    obtain ⟨A, c, rfl, -⟩ := hr.form
    rw [List.length_map] at *
    exact ⟨_, [], rfl, Low.of_below hb, (fun x hx => by cases hx), rfl, A, c, rfl, hr⟩
def zX : Value := .agg #[.int .i64 0, .int .i64 0, .int .i64 0, .string ⟨#[]⟩, .string ⟨#[]⟩, .slice none 0 0]
set_option maxRecDepth 100000 in
theorem parse_long (s : ByteArray) (h : Vw) (hs : 160 < s.size) (hs2 : s.size ≤ 9223372036854775807) : C0 Tryz.prog 12 #[.string s] h (fun r _ => r = .tuple #[zX, .int .i64 0, .int .i64 1]) := by
  have hT := fun H => tok_long s H hs hs2
  refine g_conD Tryz.func12 (c := Tryz.f12.body.getD .skip) (N := 43) ?_
  intro Q hQ hD
  refine go3 29 [.own, .own, .own, .cl 27 #[.string s] (.tuple #[Vz, Vi 0, Vi 1]), .b 1 0, .b 0 0, .b 0 0] [] ?_ (ho := (And.intro (fun H sH => hT _) (trivial)))
  intro b1 b2 b3
  refine g_reg 6 0 [.pu, .ld 1 0, .ld 0 0, .st 2 0, .st 1 0, .st 0 0] [] (trivial) ?_ ?_
  · intros; trivial
  rintro W4 S5 -
  refine go0 3 [] [] ?_
  refine hQ.to [.agg #[Vi 0, Vi 0, Vi 0, Ve, Ve, Vz], Vi 0, Vi 1] (fun H sH => ?_) (ix := [2, 1, 0])
  exact rfl
set_option maxHeartbeats 1000000 in
set_option maxRecDepth 100000 in
theorem parse_any1 (s : ByteArray) (ts : List TokA) (x : Ex) (F : Nat) (h : Vw) (hs : s.size ≤ 160) (he : lexF s.data.toList = .ok ts) (hp : (prsF (ts.map (·.t)) F).lv 1 0 = .ok x ts.length) (hw : WfE x) (hz : (szE x).1 < 1000000) (hc : chkE x = 0) :
    C0 Tryz.prog 12 #[.string s] h (fun r h' => ∃ u, r = .tuple #[.agg #[.int .i64 x.op, .int .i64 x.k, .int .i64 x.n, .string x.s, .string x.nm, .slice (sA u) (sN u) (sC u)], .int .i64 0, .int .i64 0] ∧ IsArgs h' x (.slice (sA u) (sN u) (sC u))) := by
  have hT := fun H => tok_ok s ts H hs he
  have hL : ∀ (A : Option Addr) (C : Nat) (en : Int) (b : Nat) (H : Vw), RS H 6 (.slice A ts.length C) (tkRows ts) → C1 Tryz.prog 30 #[.pointer (some ⟨b, 0, none⟩), .int .i64 1] H b (rdL (.slice A ts.length C) en) (fun v cs H => ∃ u, v = .agg #[.int .i64 x.op, .int .i64 x.k, .int .i64 x.n, .string x.s, .string x.nm, .slice (sA u) (sN u) (sC u)] ∧ cs = rdL (.slice (tkA A C ts.length) 0 (C - ts.length)) en ∧ IsArgs H x (.slice (sA u) (sN u) (sC u))) := fun A C en b H q => by
    have := (prs_all (A := A) (C := C) (T := ts) ts.length rfl en F F (Nat.le_refl _)).lv 1 0 b H x ts.length q (by omega) (by omega) hp
    unfold PrsR at this
    rw [Nat.sub_self] at this
    exact this
  have hC := fun v H q => check_any x v H q hw hz
  rw [hc] at hC
  generalize ts.length = n at *
  refine g_conD Tryz.func12 (c := Tryz.f12.body.getD .skip) (N := 43) ?_
  intro Q hQ hD
  refine go3 10 [.own, .own, .own] [] ?_
  intro b1 b2 b3
  refine g_call (fun H sH => hT _) ?_; rintro _ W4 S5 ⟨A, C, rfl, hr⟩
  refine go0 22 [.b 1 0, .b 0 0, .b 0 0] [] ?_
  refine g_defer ⟨.fn (.func 28) #[Vp b1, Vp b2, Vp b3], #[]⟩ ?_
  replace hQ := hD ⟨.fn (.func 28) #[Vp b1, Vp b2, Vp b3], #[]⟩ (prs_idleD _ _ _)
  refine go1 16 [.cl 29 #[] (.agg shapesA), .own] [] ?_ (ho := (And.intro (fun H sH => shapes_any _) (trivial)))
  intro brd
  refine g_call1 0 (fun H sH => hL A C (s.size : Int) brd _ (hr.sees sH)) ?_; rintro _ _ W6 S7 ⟨u, rfl, rfl, hu⟩
  refine go0 21 [.b 3 0, .b 0 0, .b 3 0] [] ?_
  refine go0 22 [.cl 25 #[.agg #[Vi x.op, Vi x.k, Vi x.n, .string x.s, .string x.nm, .slice (sA u) (sN u) (sC u)]] (Vi 0), .b 3 0, .b 3 0, .b 2 0, .b 1 0] [] ?_ (ho := (And.intro (fun H sH => hC _ _ (hu.sees sH)) (trivial)))
  refine hQ.to [.agg #[Vi x.op, Vi x.k, Vi x.n, .string x.s, .string x.nm, .slice (sA u) (sN u) (sC u)], Vi 0, Vi 0] (fun H sH => ?_) (ix := [3, 2, 1])
  exact ⟨u, rfl, (hu.sees sH)⟩

end Go.Proofs.YthplkompdehjlaaGreatDoor
