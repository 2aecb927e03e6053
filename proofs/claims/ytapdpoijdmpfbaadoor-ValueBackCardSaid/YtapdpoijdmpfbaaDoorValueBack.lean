/-
  For every kind and raw thing ValueBack returns true: parsing the notation of a value returns the value. The card: no condition beyond what the card itself says.
-/
import Derived.Test.YtapdpoijdmpfbaaDoorShow
import Derived.Test.YtapdpoijdmpfbaaDoorCardX
namespace Go.Proofs.YtapdpoijdmpfbaaDoor
open Go.RowKit
set_option linter.unusedVariables false

theorem run_eqv (k n : Int) (s : ByteArray) (w : World) : (binOp .eql 25 (.agg #[.int .i64 k, .int .i64 n, .string s]) (.agg #[.int .i64 k, .int .i64 n, .string s])).run Tryd.prog w = .ok (.bool true) w := by
  have := run_eqV ⟨k, n, s⟩ ⟨k, n, s⟩ w
  rw [eqB_iff.2 rfl] at this
  exact this
theorem show_size (v : Vl) (h : v.known) : (showV v).size ≤ 200 := by
  obtain ⟨k, n, s⟩ := v
  rcases h with ⟨h1, h2, h3⟩ | ⟨h1, h2, h3⟩ | ⟨h1, h2, h3, h4⟩
  · simp only at h1 h3
    subst h1 h3
    have hi := Lib.itoa_length_le n (by have := h2.1; simp only at this; omega) (by have := h2.2; simp only at this; omega)
    show (List.toArray (Lib.itoa n)).size ≤ 200
    rw [List.size_toArray]; omega
  · simp only at h1
    subst h1
    unfold showV
    rw [if_neg (show ¬ (2 : Int) = 1 by decide), if_pos rfl]
    split <;> decide
  · simp only at h1 h2 h3
    subst h1
    have hl := esc_len s.data.toList
    have hs := toList_size s
    show (List.toArray (34 :: (escL s.data.toList ++ [34]))).size ≤ 200
    rw [List.size_toArray, List.length_cons, List.length_append]
    simp only [List.length_cons, List.length_nil]; omega

set_option maxRecDepth 100000 in
theorem valueBack_c (kind : Int) (r : RawD) (h : Vw) (l : Lk h) (k0 : -9223372036854775808 ≤ kind) (k1 : kind ≤ 9223372036854775807) (hr : r.ok) : C0 Tryd.prog 3 #[.int .i64 kind, .agg #[.int .i64 r.k, .int .i64 r.a, .int .i64 r.b, .string r.t]] h (fun r _ => r = .bool true) := by
  have p0 := pickL_lo kind 3 (by omega)
  have p1 := pickL_hi kind 3 (by omega)
  have hpk := fun H => C0.of_same (fun w => picked_any kind 3 w k0 k1 (by omega) (by omega)) H
  generalize pickL kind 3 = q at *
  have hV := fun H => C0.of_gives (fun w => val_any (1 + q) r w (by omega) (by omega) hr) H
  have hk := valR_known (1 + q) r (by omega) (by omega)
  unfold valR at hk
  generalize hkd : 1 + q = kd at *
  generalize valN kd r.k r.a = n at *
  generalize valS kd r.t = s at *
  have hp := parse_show ⟨kd, n, s⟩ hk
  have hne := show_ne ⟨kd, n, s⟩ hk
  have hSh := fun H q => sh_ok ⟨kd, n, s⟩ H q (.inl hk)
  have hgd : GoodS (showV ⟨kd, n, s⟩) := ⟨by rw [hp]; exact .inl hk, by rw [hp]⟩
  have hsz := show_size ⟨kd, n, s⟩ hk
  have hKn := fun H => C0.of_gives (fun w => known_true kd n s w hk) H
  generalize showV ⟨kd, n, s⟩ = t at *
  have hP : ∀ H, Lk H → C0 Tryd.prog 8 #[.string t] H (fun r _ => r = .tuple #[.agg #[.int .i64 kd, .int .i64 n, .string s], .int .i64 0]) := fun H q => by
    refine (parse_any t H q (by omega)).mono ?_
    rintro r h' - (⟨-, rfl⟩ | ⟨q, -⟩)
    · rw [hp]
    · exact absurd hgd q
  obtain ⟨rk, ra, rb, rt⟩ := r
  refine x_con Tryd.func3 (c := Tryd.f3.body.getD .skip) (by kernel_rfl) (N := 44) rfl (by kernel_rfl) ?_
  intro hbx hbad Q hQ a w hJ
  replace hJ : K ⟨44, h.w, h.bad, []⟩ [(0, .int .i64 kind), (1, .agg #[.int .i64 rk, .int .i64 ra, .int .i64 rb, .string rt])] [] [] h a w := hJ.to (by kernel_rfl) (by kernel_rfl) rfl
  refine rx hJ false 7 [.own] [] (.new fun b1 => .ok (.code [0, 1]) [.seq [1, 1]] [(0, .int .i64 kind), (3, .pointer (some ⟨b1, 0, none⟩)), (4, .bool false)] [.box b1 [.int .i64 rk, .int .i64 ra, .int .i64 rb, .string rt]] []) trivial trivial (fun b1 _ => by kernel_rfl) ?_
  clear hJ a w; intro b1 a w hJ
  let R : Reg := ⟨⟨44, h.w, h.bad, []⟩, [(0, 10, fun gh => .int .i64 kind), (1, 11, fun gh => .int .i64 q), (2, 12, fun gh => .int .i64 kd), (3, 13, fun gh => .agg #[.int .i64 rk, .int .i64 ra, .int .i64 rb, .string rt]), (4, 14, fun gh => .agg #[.int .i64 kd, .int .i64 n, .string s]), (5, 5, fun gh => .pointer (some ⟨(blkOf (gh 5)), 0, none⟩))], [(0, .int .i64 kind), (3, .pointer (some ⟨b1, 0, none⟩)), (4, .bool false)], [⟨none, [(5, fun gh => .box (blkOf (gh 5)) [.int .i64 0, .int .i64 0, .string ⟨#[]⟩]), (6, fun gh => .box (blkOf (gh 5)) [.int .i64 kd, .int .i64 n, .string s])]⟩, ⟨some (.box b1 [.int .i64 rk, .int .i64 ra, .int .i64 rb, .string rt]), []⟩], [], [[], [0], [0, 1], [], [0, 1, 2, 3], [], [0, 1, 2, 3, 4, 5]], h⟩
  have hmono : ∀ zq ∈ R.F, ∀ zx zh zi, Sees zh zi → zq.2 zx zh → zq.2 zx zi := mono_nil
  refine x_region (by kernel_rfl) R hJ 7 [.pu, .cl, .cl, .ld 1 0, .cl, .al 0, .st 0 0] (by kernel_rfl) hmono (fun _ _ _ => by kernel_rfl) (fun hT hA => ?_) ?_
  · clear hJ
    refine And.intro (r_callv hT hA hmono 11 (fun gh => .int .i64 q) [0] 1 (by kernel_rfl) (by kernel_rfl) (by kernel_rfl) (fun _ => by kernel_rfl) 6 (fun gh => #[.int .i64 kind, .int .i64 3]) (fun _ _ => by kernel_rfl) (fun gh H sH fH lent => hpk _)) ?_
    refine And.intro (r_pure hT hA 12 (fun gh => .int .i64 kd) [1] 2 (by kernel_rfl) (by kernel_rfl) (by kernel_rfl) (fun _ => by kernel_rfl) (fun gh w => run_eq (v0 := .int .i64 (IntKind.i64.wrap (1 + q))) (by kernel_rfl) ((by rw [← hkd]; exact i64_wrap (by omega) (by omega))))) ?_
    refine And.intro (r_callv hT hA hmono 14 (fun gh => .agg #[.int .i64 kd, .int .i64 n, .string s]) [1, 2, 3] 4 (by kernel_rfl) (by kernel_rfl) (by kernel_rfl) (fun _ => by kernel_rfl) 5 (fun gh => #[.int .i64 kd, .agg #[.int .i64 rk, .int .i64 ra, .int .i64 rb, .string rt]]) (fun _ _ => by kernel_rfl) (fun gh H sH fH lent => hV _)) ?_
    trivial
  clear hJ a w; intro gh h3 a w sR hJ1 hF; have s4 : Sees h h3 := sR; clear sR
  have hJ : K ⟨44, h.w, h.bad, []⟩ [(4, .bool false), (5, .pointer (some ⟨(blkOf (gh 5)), 0, none⟩))] [.box (blkOf (gh 5)) [.int .i64 kd, .int .i64 n, .string s], .box b1 [.int .i64 rk, .int .i64 ra, .int .i64 rb, .string rt]] [] h3 a w := hJ1.to (by kernel_rfl) (by kernel_rfl) rfl
  clear hJ1 hF hmono R
  generalize blkOf (gh 5) = b2 at *
  clear gh
  refine rx hJ false 35 [.b 0 0, .cl 7 #[.agg #[.int .i64 kd, .int .i64 n, .string s]] (.tuple #[.string t, .int .i64 0]), .cl 8 #[.string t] (.tuple #[.agg #[.int .i64 kd, .int .i64 n, .string s], .int .i64 0]), .own, .b 0 0, .b 1 0, .b 0 0] [] (.new fun b5 => .ok (.ops [0, 1, 1, 1, 1] 9) [.seq [1, 1, 1, 1, 1]] [(4, .bool false), (6, .string t), (8, .pointer (some ⟨b5, 0, none⟩)), (31, .bool true), (32, .agg #[.int .i64 kd, .int .i64 n, .string s]), (33, .agg #[.int .i64 kd, .int .i64 n, .string s])] [.box b5 [.int .i64 kd, .int .i64 n, .string s], .box b2 [.int .i64 kd, .int .i64 n, .string s], .box b1 [.int .i64 rk, .int .i64 ra, .int .i64 rb, .string rt]] []) (And.intro (fun H sH => hSh _ (l.sees (s4.trans sH))) (And.intro (fun H sH => hP _ (l.sees (s4.trans sH))) (trivial))) trivial (fun b5 _ => by kernel_rfl) ?_
  clear hJ a w; intro b5 a w hJ
  refine x_pure hJ 34 (.bool true) (by kernel_rfl) (fun w => run_eqop (x := (.tmp 32)) (y := (.tmp 33)) (v := ⟨kd, n, s⟩) (w := ⟨kd, n, s⟩) (by kernel_rfl) (by kernel_rfl) (by kernel_rfl) (eqB_iff.2 rfl)) ?_; clear hJ a w; intro a w hJ
  refine rx hJ false 13 [.b 0 0, .cl 9 #[.agg #[.int .i64 kd, .int .i64 n, .string s]] (.bool true)] [] (.ok (.out .ret) [] [(4, .bool (t.toList != (⟨#[]⟩ : ByteArray).toList))] [.box b5 [.int .i64 kd, .int .i64 n, .string s], .box b2 [.int .i64 kd, .int .i64 n, .string s], .box b1 [.int .i64 rk, .int .i64 ra, .int .i64 rb, .string rt]] []) (And.intro (fun H sH => hKn _) (trivial)) trivial (fun _ => by kernel_rfl) ?_
  clear hJ a w; intro a w hJ
  refine x_end (hQ [.bool (t.toList != (⟨#[]⟩ : ByteArray).toList)] _ [] hJ (.rtmp hJ.j (by kernel_rfl) .nil) (no_own _) rfl ?_).1
  exact congrArg Value.bool (by show (!(t.toList == ByteArray.toList ⟨#[]⟩)) = true; rw [tl_no hne]; rfl)

theorem valueBack_walk (a : Int) (r : RawD) (w : World) (a0 : -9223372036854775808 ≤ a) (a1 : a ≤ 9223372036854775807) (hr : r.ok) (hL : laidMet Tryd.prog Rows.valueBackRow.laid w) (hsh : w.ShapedOpen Tryd.prog) :
    Calls Tryd.prog 3 #[.int .i64 a, .agg #[.int .i64 r.k, .int .i64 r.a, .int .i64 r.b, .string r.t]] w fun e w' => e = .returned (.bool true) ∧ Below w.heap.size w w' :=
  lawC (valueBack_c a r ⟨w, []⟩ (Lk.of_laid hL hsh) a0 a1 hr)

namespace valueBackLaw
open Go.ChangeShapes Go.WideShapes Go.ChangeAt Go.RowKit
open Go.ChangeMaps (open_string shut_string)
set_option linter.unusedVariables false

set_option maxRecDepth 100000 in
theorem contract (H : Type) (enc : TypeId × Value → H) (W : World) (base : Nat) (args : Array Value) (ds gs : List (DataW H)) (before : List MemPlace)
    (hval0 : ∀ (j : Nat) t v, Tryd.f3.params[j]? = some t → args[j]? = some v → Value.okWide Tryd.prog W .any base t v)
    (hW : DataW.Whole enc Tryd.prog Tryd.f3.params.toList Rows.valueBackSpec.vars false W args.toList ds gs before)
    (hsz0 : (DataW.weightsEach Tryd.prog (Tryd.f3.params.toList ++ Rows.valueBackSpec.plain.varTypes Tryd.prog) (ds ++ gs)).all (· ≤ reachBytes) = true) (hL : laidMet Tryd.prog Rows.valueBackRow.laid W) (hsh : W.ShapedOpen Tryd.prog) :
    Calls Tryd.prog 3 args W fun e W' => ∃ v, e = .returned v ∧ Rows.valueBackSpec.post enc Tryd.prog Tryd.f3 false true false false W args v W' := by
  have hval : ∀ (j : Nat) t v, Tryd.f3.params[j]? = some t → args[j]? = some v → Value.okWide Tryd.prog W .any base t v := hval0
  have hsz : (DataW.weightsEach Tryd.prog (Tryd.f3.params.toList ++ Rows.valueBackSpec.plain.varTypes Tryd.prog) (ds ++ gs)).all (· ≤ reachBytes) = true := hsz0
  have hW' := hW
  obtain ⟨p, q, hA0, hV, rfl, hfz, hnd⟩ := hW
  have hA : DataW.TrodAll enc Tryd.prog W 0 (fun _ => true) true Tryd.f3.params.toList args.toList ds p := hA0
  rw [Tryd.params3] at hA hval hsz
  obtain ⟨v0, vs0, d0, ds0, p0, q0, hargs, rfl, rfl, h0, r0⟩ := trodAll_cons hA
  obtain ⟨v1, vs1, d1, ds1, p1, q1, rfl, rfl, rfl, h1, r1⟩ := trodAll_cons r0
  obtain ⟨rfl, rfl, rfl⟩ := trodAll_nil r1
  obtain rfl : args = #[v0, v1] := by cases args; simp_all
  obtain ⟨rfl, rfl⟩ := trodVars_none hV
  have k0 := h0
  have lt0 : ∀ x ∈ p0, x.block < W.heap.size := by obtain ⟨m, hm⟩ := k0; exact DataW.trod_lt m _ _ _ hm
  obtain ⟨a0, rfl, -, -, w0⟩ := open_int Tryd.underlying3 (hval 0 3 v0 rfl rfl) h0
  have k1 := h1
  have lt1 : ∀ x ∈ p1, x.block < W.heap.size := by obtain ⟨m, hm⟩ := k1; exact DataW.trod_lt m _ _ _ hm
  obtain ⟨a1, rfl, w1⟩ := open_raw (hval 1 23 v1 rfl rfl) h1
  clear hA0 hval0 hsz0
  refine (valueBack_walk a0 a1 W (int_lo w0) (int_hi w0) w1 hL hsh).mono fun e W' ⟨he, bel⟩ => ?_
  subst he
  exact ⟨_, rfl, _, _, _, [], _, [], hW', trodAll_mk1 (shut_bool Tryd.underlying4 _), (trodAll_cons_mk (Below.trod laidOutTrue (by kernel_rfl) (of_decide_eq_true (by kernel_rfl)) k0 bel lt0) (trodAll_cons_mk (Below.trod laidOutTrue (by kernel_rfl) (of_decide_eq_true (by kernel_rfl)) k1 bel lt1) trodAll_mk0)), rfl, bel.frame _, fun h => by cases h⟩

theorem reads (os : Os) {H : Type} (enc : TypeId × Value → H) : ∃ places, DataW.whole enc Tryd.prog ((World.laidAll Tryd.prog os Rows.valueBackRow.laid).forCall (fun _ _ => 0) ⟨#[], #[.int .i64 0, .agg #[.int .i64 0, .int .i64 0, .int .i64 0, .string ByteArray.empty]], []⟩).memory Tryd.f3.params.toList Rows.valueBackSpec.vars false (#[.int .i64 0, .agg #[.int .i64 0, .int .i64 0, .int .i64 0, .string ByteArray.empty]] : Array Value).toList 8 = some ([.lit (.int .i64 0), .agg [.lit (.int .i64 0), .lit (.int .i64 0), .lit (.int .i64 0), .lit (.string [])]], [], places) :=
  ⟨[], by kernel_rfl⟩

set_option maxRecDepth 100000 in
theorem lifted (os : Os) (started : os.Started) (H : Type) (enc : TypeId × Value → H) (FF : Stop.Interp) :
    ReturnsInHanded {} Tryd.checked os 3 .any ((OpenSpec.ofChange Rows.valueBackSpec).preRow enc Tryd.prog Tryd.f3 Rows.valueBackRow.domain false Rows.valueBackRow.laid) (((OpenSpec.ofChange Rows.valueBackSpec).at FF).post enc Tryd.prog Tryd.f3 false true false false) := by
  obtain ⟨places, hx⟩ := reads os enc
  refine returnsInHanded_of_row (C := Tryd.checked) (s := OpenSpec.ofChange Rows.valueBackSpec) ownNone started (by kernel_rfl) Tryd.func3
    (witness_row_at (enc := enc) (C := Tryd.checked) false (World.laidAll Tryd.prog os Rows.valueBackRow.laid) #[.int .i64 0, .agg #[.int .i64 0, .int .i64 0, .int .i64 0, .string ByteArray.empty]] (World.laidAll_os _ _ _) (by kernel_rfl) (by kernel_rfl) (by kernel_rfl)
      (OpenSpec.preRow_of_cond 8 hx (by kernel_rfl) (fun k hk => by cases hk) (by kernel_rfl) (laidMet_laidAll _ (by kernel_rfl) (by kernel_rfl)))) ?_
  intro W base args ds gs before hval hW _ _ hsz hL hsh _
  rw [MakeChecks.laidMetH_plain _ _ _ (by kernel_rfl)] at hL
  exact contract H enc W base args ds gs before hval hW hsz hL hsh

theorem said : Rows.ValueBackSaid :=
  OpenClaim.holds_of_cond 3 Tryd.f3 rfl rfl rfl rfl rfl rfl rfl ⟨rfl, rfl, rfl, rfl, rfl⟩ rfl rfl rfl rfl rfl (by kernel_rfl) Tryd.func3 (by kernel_rfl)
    (of_decide_eq_true (by kernel_rfl)) (by unfold Func.isWrapper; first | (rw [if_pos (by decide +kernel)]; kernel_rfl) | (rw [if_neg (by decide +kernel)]; exact ⟨rfl, rfl⟩))
    (fun os started H enc _ FF => by rw [OpenClaim.pre_eq_preRow]; exact lifted os started H enc FF)

/-- No parameter wants a stand-in; the program's own looks are off: what the card asks. -/
theorem plain (f : FuncId) (fn : Func) (hf : Tryd.pinned.checked.prog.funcNamed "lychway/lychwaykeep.ValueBack" = some f) (hfn : Tryd.pinned.checked.prog.funcs[f]? = some fn) :
    Rows.valueBackCard.stood.looks = Tryd.pinned.checked.prog.looks [] ∧ ∀ (j : Nat) t, fn.params[j]? = some t → Tryd.pinned.checked.prog.wantsStandIn t = false := by
  obtain rfl : f = 3 := Option.some.inj ((show Tryd.prog.funcNamed "lychway/lychwaykeep.ValueBack" = some 3 by kernel_rfl).symm.trans hf) |>.symm
  obtain rfl : fn = Tryd.f3 := (Option.some.inj (Tryd.func3.symm.trans hfn)).symm
  refine ⟨by kernel_rfl, fun j t ht => ?_⟩
  rw [Tryd.params3] at ht
  have hm := Array.mem_of_getElem? ht
  simp at hm
  first
    | (obtain rfl := hm; exact (show Tryd.prog.wantsStandIn _ = false by kernel_rfl))
    | (rcases hm with rfl | rfl <;> exact (show Tryd.prog.wantsStandIn _ = false by kernel_rfl))

end valueBackLaw

/-- The card. -/
theorem valueBack_holds : Rows.ValueBackCardSaid :=
  Claim7.holds_tied_plain_at .later [] _ _ _ _ valueBackLaw.said (fun _ h => by cases h) (by kernel_rfl) (fun _ h => by cases h) valueBack_row_tie rfl ⟨rfl, rfl⟩ (by kernel_rfl) rfl valueBackLaw.plain (by kernel_rfl)
#print axioms valueBack_holds
end Go.Proofs.YtapdpoijdmpfbaaDoor
