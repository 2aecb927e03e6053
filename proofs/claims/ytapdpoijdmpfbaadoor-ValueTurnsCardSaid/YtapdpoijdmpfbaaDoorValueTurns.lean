/-
  For every text ValueTurns returns true: a string that Parse accepts is the notation of the parsed value. The card: no condition beyond what the card itself says.
-/
import Derived.Test.YtapdpoijdmpfbaaDoorShow
import Derived.Test.YtapdpoijdmpfbaaDoorCardX
namespace Go.Proofs.YtapdpoijdmpfbaaDoor
open Go.RowKit
set_option linter.unusedVariables false

theorem p8 : parseV ⟨#[33, 56]⟩ = ⟨5, 8, ⟨#[]⟩⟩ := by
  unfold parseV
  rw [if_neg (by decide), if_neg (by decide), if_neg (by decide)]
  show (if (33 : UInt8) = 33 then _ else _) = _
  rw [if_pos rfl]
  congr 1
theorem good8 : GoodS ⟨#[33, 56]⟩ := by
  unfold GoodS
  rw [p8]
  refine ⟨.inr (.inr ⟨rfl, (by decide : (1 : Int) ≤ 8), (by decide : (8 : Int) ≤ 15), rfl⟩), ?_⟩
  show (⟨(33 :: Lib.itoa 8).toArray⟩ : ByteArray) = _
  rw [show Lib.itoa 8 = Lib.decDigits 8 from Lib.itoa_nonneg 8, Lib.decDigits_one (by omega)]
  rfl

set_option maxRecDepth 100000 in
theorem valueTurns_c (s : ByteArray) (h : Vw) (l : Lk h) (hs : s.size ≤ 140737488351232) : C0 Tryd.prog 4 #[.string s] h (fun r _ => r = .bool true) := by
  have hP8 : ∀ H, Lk H → C0 Tryd.prog 8 #[.string ⟨#[33, 56]⟩] H (fun r _ => r = .tuple #[.agg #[.int .i64 5, .int .i64 8, .string ⟨#[]⟩], .int .i64 0]) := fun H q => by
    refine (parse_any ⟨#[33, 56]⟩ H q (by decide)).mono ?_
    rintro r h' - (⟨-, rfl⟩ | ⟨q, -⟩)
    · rw [p8]
    · exact absurd good8 q
  by_cases g : GoodS s
  · have hP : ∀ H, Lk H → C0 Tryd.prog 8 #[.string s] H (fun r _ => r = .tuple #[(parseV s).val, .int .i64 0]) := fun H q => by
      refine (parse_any s H q hs).mono ?_
      rintro r h' - (⟨-, rfl⟩ | ⟨q, -⟩)
      · rfl
      · exact absurd g q
    have hSh := fun H q => sh_ok (parseV s) H q g.1
    rw [g.2] at hSh
    generalize parseV s = p at *
    refine x_con Tryd.func4 (c := Tryd.f4.body.getD .skip) (by kernel_rfl) (N := 42) rfl (by kernel_rfl) ?_
    intro hbx hbad Q hQ a w hJ
    replace hJ : K ⟨42, h.w, h.bad, []⟩ [(0, .string s)] [] [] h a w := hJ.to (by kernel_rfl) (by kernel_rfl) rfl
    refine rx hJ false 77 [.cl 8 #[.string s] (.tuple #[.agg #[.int .i64 p.k, .int .i64 p.n, .string p.s], .int .i64 0]), .own, .b 0 0, .cl 8 #[.string ⟨#[33, 56]⟩] (.tuple #[.agg #[.int .i64 5, .int .i64 8, .string ⟨#[]⟩], .int .i64 0]), .own, .b 0 0, .b 0 0, .b 1 0, .cl 7 #[.agg #[.int .i64 p.k, .int .i64 p.n, .string p.s]] (.tuple #[.string s, .int .i64 0])] [] (.new fun b1 => .new fun b2 => .ok (.out .ret) [] [(2, .bool (s.toList == s.toList))] [.box b2 [.int .i64 5, .int .i64 8, .string ⟨#[]⟩], .box b1 [.int .i64 p.k, .int .i64 p.n, .string p.s]] []) (And.intro (fun H sH => hP _ (l.sees sH)) (And.intro (fun H sH => hP8 _ (l.sees sH)) (And.intro (fun H sH => hSh _ (l.sees sH)) (trivial)))) trivial (fun b1 b2 _ => by kernel_rfl) ?_
    clear hJ a w; intro b1 b2 a w hJ
    refine x_end (hQ [.bool (s.toList == s.toList)] _ [] hJ (.rtmp hJ.j (by kernel_rfl) .nil) (no_own _) rfl ?_).1
    exact congrArg Value.bool (beq_self_eq_true _)
  · have hP : ∀ H, Lk H → C0 Tryd.prog 8 #[.string s] H (fun r _ => r = .tuple #[zV, .int .i64 3]) := fun H q => by
      refine (parse_any s H q hs).mono ?_
      rintro r h' - (⟨q, -⟩ | ⟨-, rfl⟩)
      · exact absurd q g
      · rfl
    refine x_con Tryd.func4 (c := Tryd.f4.body.getD .skip) (by kernel_rfl) (N := 42) rfl (by kernel_rfl) ?_
    intro hbx hbad Q hQ a w hJ
    replace hJ : K ⟨42, h.w, h.bad, []⟩ [(0, .string s)] [] [] h a w := hJ.to (by kernel_rfl) (by kernel_rfl) rfl
    refine rx hJ false 61 [.cl 8 #[.string s] (.tuple #[.agg #[.int .i64 0, .int .i64 0, .string ⟨#[]⟩], .int .i64 3]), .own, .b 0 0, .cl 8 #[.string ⟨#[33, 56]⟩] (.tuple #[.agg #[.int .i64 5, .int .i64 8, .string ⟨#[]⟩], .int .i64 0]), .own, .b 0 0, .b 0 0, .b 1 0] [] (.new fun b1 => .new fun b2 => .ok (.out .ret) [] [(2, .bool true)] [.box b2 [.int .i64 5, .int .i64 8, .string ⟨#[]⟩], .box b1 [.int .i64 0, .int .i64 0, .string ⟨#[]⟩]] []) (And.intro (fun H sH => hP _ (l.sees sH)) (And.intro (fun H sH => hP8 _ (l.sees sH)) (trivial))) trivial (fun b1 b2 _ => by kernel_rfl) ?_
    clear hJ a w; intro b1 b2 a w hJ
    refine x_end (hQ [.bool true] _ [] hJ (.rtmp hJ.j (by kernel_rfl) .nil) (no_own _) rfl ?_).1
    exact rfl

theorem valueTurns_walk (s : ByteArray) (w : World) (hs : s.size ≤ reachBytes) (hL : laidMet Tryd.prog Rows.valueTurnsRow.laid w) (hsh : w.ShapedOpen Tryd.prog) :
    Calls Tryd.prog 4 #[.string s] w fun e w' => e = .returned (.bool true) ∧ Below w.heap.size w w' :=
  lawC (valueTurns_c s ⟨w, []⟩ (Lk.of_laid hL hsh) hs)

namespace valueTurnsLaw
open Go.ChangeShapes Go.WideShapes Go.ChangeAt Go.RowKit
open Go.ChangeMaps (open_string shut_string)
set_option linter.unusedVariables false

set_option maxRecDepth 100000 in
theorem contract (H : Type) (enc : TypeId × Value → H) (W : World) (base : Nat) (args : Array Value) (ds gs : List (DataW H)) (before : List MemPlace)
    (hval0 : ∀ (j : Nat) t v, Tryd.f4.params[j]? = some t → args[j]? = some v → Value.okWide Tryd.prog W .any base t v)
    (hW : DataW.Whole enc Tryd.prog Tryd.f4.params.toList Rows.valueTurnsSpec.vars false W args.toList ds gs before)
    (hsz0 : (DataW.weightsEach Tryd.prog (Tryd.f4.params.toList ++ Rows.valueTurnsSpec.plain.varTypes Tryd.prog) (ds ++ gs)).all (· ≤ reachBytes) = true) (hL : laidMet Tryd.prog Rows.valueTurnsRow.laid W) (hsh : W.ShapedOpen Tryd.prog) :
    Calls Tryd.prog 4 args W fun e W' => ∃ v, e = .returned v ∧ Rows.valueTurnsSpec.post enc Tryd.prog Tryd.f4 false true false false W args v W' := by
  have hval : ∀ (j : Nat) t v, Tryd.f4.params[j]? = some t → args[j]? = some v → Value.okWide Tryd.prog W .any base t v := hval0
  have hsz : (DataW.weightsEach Tryd.prog (Tryd.f4.params.toList ++ Rows.valueTurnsSpec.plain.varTypes Tryd.prog) (ds ++ gs)).all (· ≤ reachBytes) = true := hsz0
  have hW' := hW
  obtain ⟨p, q, hA0, hV, rfl, hfz, hnd⟩ := hW
  have hA : DataW.TrodAll enc Tryd.prog W 0 (fun _ => true) true Tryd.f4.params.toList args.toList ds p := hA0
  rw [Tryd.params4] at hA hval hsz
  obtain ⟨v0, vs0, d0, ds0, p0, q0, hargs, rfl, rfl, h0, r0⟩ := trodAll_cons hA
  obtain ⟨rfl, rfl, rfl⟩ := trodAll_nil r0
  obtain rfl : args = #[v0] := by cases args; simp_all
  obtain ⟨rfl, rfl⟩ := trodVars_none hV
  have k0 := h0
  have lt0 : ∀ x ∈ p0, x.block < W.heap.size := by obtain ⟨m, hm⟩ := k0; exact DataW.trod_lt m _ _ _ hm
  obtain ⟨a0, rfl, e0, -, w0⟩ := open_string Tryd.underlying9 (hval 0 9 v0 rfl rfl) h0
  have z0 : a0.size ≤ reachBytes := by have := sized_string hsz (j := 0) (t := 9) (bytes := a0.data.toList) rfl (by rw [e0]; rfl); simpa using this
  clear hA0 hval0 hsz0
  refine (valueTurns_walk a0 W z0 hL hsh).mono fun e W' ⟨he, bel⟩ => ?_
  subst he
  exact ⟨_, rfl, _, _, _, [], _, [], hW', trodAll_mk1 (shut_bool Tryd.underlying4 _), (trodAll_cons_mk (Below.trod laidOutTrue (by kernel_rfl) (of_decide_eq_true (by kernel_rfl)) k0 bel lt0) trodAll_mk0), rfl, bel.frame _, fun h => by cases h⟩

theorem reads (os : Os) {H : Type} (enc : TypeId × Value → H) : ∃ places, DataW.whole enc Tryd.prog ((World.laidAll Tryd.prog os Rows.valueTurnsRow.laid).forCall (fun _ _ => 0) ⟨#[], #[.string ByteArray.empty], []⟩).memory Tryd.f4.params.toList Rows.valueTurnsSpec.vars false (#[.string ByteArray.empty] : Array Value).toList 8 = some ([.lit (.string [])], [], places) :=
  ⟨[], by kernel_rfl⟩

set_option maxRecDepth 100000 in
theorem lifted (os : Os) (started : os.Started) (H : Type) (enc : TypeId × Value → H) (FF : Stop.Interp) :
    ReturnsInHanded {} Tryd.checked os 4 .any ((OpenSpec.ofChange Rows.valueTurnsSpec).preRow enc Tryd.prog Tryd.f4 Rows.valueTurnsRow.domain false Rows.valueTurnsRow.laid) (((OpenSpec.ofChange Rows.valueTurnsSpec).at FF).post enc Tryd.prog Tryd.f4 false true false false) := by
  obtain ⟨places, hx⟩ := reads os enc
  refine returnsInHanded_of_row (C := Tryd.checked) (s := OpenSpec.ofChange Rows.valueTurnsSpec) ownNone started (by kernel_rfl) Tryd.func4
    (witness_row_at (enc := enc) (C := Tryd.checked) false (World.laidAll Tryd.prog os Rows.valueTurnsRow.laid) #[.string ByteArray.empty] (World.laidAll_os _ _ _) (by kernel_rfl) (by kernel_rfl) (by kernel_rfl)
      (OpenSpec.preRow_of_cond 8 hx (by kernel_rfl) (fun k hk => by cases hk) (by kernel_rfl) (laidMet_laidAll _ (by kernel_rfl) (by kernel_rfl)))) ?_
  intro W base args ds gs before hval hW _ _ hsz hL hsh _
  rw [MakeChecks.laidMetH_plain _ _ _ (by kernel_rfl)] at hL
  exact contract H enc W base args ds gs before hval hW hsz hL hsh

theorem said : Rows.ValueTurnsSaid :=
  OpenClaim.holds_of_cond 4 Tryd.f4 rfl rfl rfl rfl rfl rfl rfl ⟨rfl, rfl, rfl, rfl, rfl⟩ rfl rfl rfl rfl rfl (by kernel_rfl) Tryd.func4 (by kernel_rfl)
    (of_decide_eq_true (by kernel_rfl)) (by unfold Func.isWrapper; first | (rw [if_pos (by decide +kernel)]; kernel_rfl) | (rw [if_neg (by decide +kernel)]; exact ⟨rfl, rfl⟩))
    (fun os started H enc _ FF => by rw [OpenClaim.pre_eq_preRow]; exact lifted os started H enc FF)

/-- No parameter wants a stand-in; the program's own looks are off: what the card asks. -/
theorem plain (f : FuncId) (fn : Func) (hf : Tryd.pinned.checked.prog.funcNamed "lychway/lychwaykeep.ValueTurns" = some f) (hfn : Tryd.pinned.checked.prog.funcs[f]? = some fn) :
    Rows.valueTurnsCard.stood.looks = Tryd.pinned.checked.prog.looks [] ∧ ∀ (j : Nat) t, fn.params[j]? = some t → Tryd.pinned.checked.prog.wantsStandIn t = false := by
  obtain rfl : f = 4 := Option.some.inj ((show Tryd.prog.funcNamed "lychway/lychwaykeep.ValueTurns" = some 4 by kernel_rfl).symm.trans hf) |>.symm
  obtain rfl : fn = Tryd.f4 := (Option.some.inj (Tryd.func4.symm.trans hfn)).symm
  refine ⟨by kernel_rfl, fun j t ht => ?_⟩
  rw [Tryd.params4] at ht
  have hm := Array.mem_of_getElem? ht
  simp at hm
  first
    | (obtain rfl := hm; exact (show Tryd.prog.wantsStandIn _ = false by kernel_rfl))
    | (rcases hm with rfl | rfl <;> exact (show Tryd.prog.wantsStandIn _ = false by kernel_rfl))

end valueTurnsLaw

/-- The card. -/
theorem valueTurns_holds : Rows.ValueTurnsCardSaid :=
  Claim7.holds_tied_plain_at .later [] _ _ _ _ valueTurnsLaw.said (fun _ h => by cases h) (by kernel_rfl) (fun _ h => by cases h) valueTurns_row_tie rfl ⟨rfl, rfl⟩ (by kernel_rfl) rfl valueTurnsLaw.plain (by kernel_rfl)
#print axioms valueTurns_holds
end Go.Proofs.YtapdpoijdmpfbaaDoor
