/-
  For every text LexCovers returns true: the tokens, at their offsets, are all bytes of the source except spaces. The card: no condition beyond what the card itself says.
-/
import Derived.Test.YtkjkdiaejmkmfaaDoorLaw
import Derived.Test.YtkjkdiaejmkmfaaDoorLexG
import Derived.Test.YtkjkdiaejmkmfaaDoorLexS
import Derived.Test.YtkjkdiaejmkmfaaDoorTrim
import Derived.IntWalk
import Derived.Test.YtkjkdiaejmkmfaaDoorCards
import Derived.Test.YtkjkdiaejmkmfaaDoorTie
import Derived.Deep.DeepHandedRow
import Derived.Lib.LaidTab
import Derived.Deep.Cut
import Derived.Deep.QuietTactic
import Derived.BigQuiet
namespace Go.Proofs.YtkjkdiaejmkmfaaDoor
open Go.RowKit

theorem lexA1 : ∃ a b c, lexF [32, 97, 43, 49] = .ok [⟨a, 1⟩, b, c] := ⟨_, _, _, rfl⟩

theorem rows3at {w : World} {v : Value} {a : Tok} {b c : TokA} (h : IsRows w 6 v [tcells ⟨a, 1⟩, tcells b, tcells c]) : ∃ b off cap, v = .slice (some ⟨b, off, none⟩) 3 cap ∧ 3 ≤ cap ∧ b < w.heap.size ∧ w.cell? ⟨b, off + 1, none⟩ = some (.int .i64 1) := by
  obtain ⟨A, cap, rfl, hc, h0 | ⟨b, off, rfl, hb, hr⟩⟩ := h
  · cases h0
  · have h1 := hr 0 _ rfl 1 _ rfl
    exact ⟨b, off, cap, rfl, hc, hb, by simpa using h1⟩

set_option maxRecDepth 100000 in
set_option maxHeartbeats 8000000 in
theorem lexCovers_walk (s : ByteArray) (w : World) (hz : s.size ≤ reachBytes) : Calls Tryd.prog 3 #[.string s] w fun e w' => e = .returned (.bool true) ∧ Below w.heap.size w w' := by
  have hs9 : s.size ≤ 9223372036854775806 := by unfold reachBytes at hz; omega
  obtain ⟨t1, t2, t3, hab⟩ := lexA1
  have hone := fun w => tokens_ok (L := [32, 97, 43, 49]) ⟨#[32, 97, 43, 49]⟩ w rfl (by decide) hab
  have H1 := Lib.hid hone
  have hlen : s.data.toList.length = s.size := by simp
  clear hone hz hab
  by_cases c1 : 160 < s.size
  · have hl := fun w => tokens_long s w c1 (by omega)
    have HL := Lib.hid hl
    clear hl c1 hlen
    go_enter Tryd.func3, Tryd.ntmps3
    go_wp2_with fail
    with_reducible refine (HL.out _).mono ?_
    rintro e w' ⟨rfl, rfl⟩
    go_wp2_with fail
    with_reducible refine (H1.out _).mono ?_
    rintro e u1 ⟨v, rfl, hb, hv, -⟩
    obtain ⟨b1, o1, cap1, rfl, hc1, hbl1, k1⟩ := rows3at hv
    have hw := hb
    clear hb hv
    go_wp2_with fail
    go_ret
    exact ⟨rfl, hw⟩
  · have hle : s.data.toList.length ≤ 160 := by rw [hlen]; omega
    cases hx : lexF s.data.toList with
    | error ae =>
      obtain ⟨a, er⟩ := ae
      have hl := fun w => tokens_err s w rfl hle hx
      have he := lexGo_err _ _ _ _ _ _ hx
      have e0 : (er == 0) = false := beq_eq_false_iff_ne.2 (by omega)
      have HL := Lib.hid hl
      clear hl c1 hlen hx hle he
      go_enter Tryd.func3, Tryd.ntmps3
      go_wp2_with fail
      with_reducible refine (HL.out _).mono ?_
      rintro e u0 ⟨rfl, hb⟩
      have hw := hb
      clear hb
      go_wp2_with fail
      with_reducible refine (H1.out _).mono ?_
      rintro e u1 ⟨v, rfl, hb, hv, -⟩
      obtain ⟨b1, o1, cap1, rfl, hc1, hbl1, k1⟩ := rows3at hv
      replace hw := hw.trans (hb.mono hw.size)
      clear hb hv
      go_wp2_with fail
      go_ret
      exact ⟨rfl, hw⟩
    | ok ts =>
      have hl := fun w => tokens_ok s w rfl hle hx
      rw [hlen] at hl
      have HL := Lib.hid hl
      have hcov := lexF_covers hx
      have HC := Lib.hid hcov
      have HLN := Lib.hid hlen
      have hs160 : s.size ≤ 160 := by omega
      clear hl c1 hlen hx hle hcov
      go_enter Tryd.func3, Tryd.ntmps3
      go_wp2_with fail
      with_reducible refine (HL.out _).mono ?_
      rintro e u0 ⟨v0, rfl, hb, hv0, hts⟩
      have hw := hb
      clear hb
      go_wp2_with fail
      with_reducible refine (H1.out _).mono ?_
      rintro e u1 ⟨v, rfl, hb, hv, -⟩
      obtain ⟨b1, o1, cap1, rfl, hc1, hbl1, k1⟩ := rows3at hv
      replace hw := hw.trans (hb.mono hw.size)
      replace hv0 := hv0.keep hb
      clear hb hv
      obtain ⟨A0, cap0, rfl, hcap0, hr0⟩ := hv0
      rw [List.length_map] at hcap0 ⊢
      have HR := Lib.hid hr0
      clear hr0
      go_wp2_with fail
      go_loopw [9, 44] (fun at_ i wr => ∃ k p : Nat, k ≤ ts.length ∧ p ≤ s.size ∧ i = .int .i64 k ∧ at_ = .int .i64 p ∧ Covers s.data.toList p (ts.drop k) ∧ Below u1.heap.size u1 wr) (fun _ i _ => ts.length - (intOf i).toNat)
      case atStart => exact ⟨0, 0, Nat.zero_le _, Nat.zero_le _, rfl, rfl, HC.out, Below.refl _ _⟩
      case round =>
        obtain ⟨k, p, hk, hps, rfl, rfl, hcv, hb⟩ := hrel
        by_cases hlt : k < ts.length
        · obtain ⟨d, hd⟩ : ∃ d, ts[k]? = some d := ⟨_, List.getElem?_eq_getElem hlt⟩
          have hdr : ts.drop k = d :: ts.drop (k + 1) := by rw [List.drop_eq_getElem_cons hlt, (List.getElem?_eq_some_iff.1 hd).2]
          rw [hdr] at hcv
          obtain ⟨q1, q2, q3, q4, q5, q6⟩ := hcv
          rw [HLN.out] at q4
          obtain ⟨b, off, rfl, hbl, hc⟩ : ∃ b off, A0 = some ⟨b, off, none⟩ ∧ b < u1.heap.size ∧ ∀ j u, (tcells d)[j]? = some u → u1.cell? ⟨b, off + k * 6 + j, none⟩ = some u := by
            rcases HR.out with h0 | ⟨b, off, e, hbl, hc⟩
            · simp at h0; subst h0; simp at hlt
            · exact ⟨b, off, e, hbl, hc k _ (by rw [List.getElem?_map, hd]; rfl)⟩
          have c0 : _ = some _ := (hb.cell (p := ⟨b, off + k * 6, none⟩) hbl).trans (hc 0 _ rfl)
          have c1 : _ = some _ := (hb.cell (p := ⟨b, off + k * 6 + 1, none⟩) hbl).trans (hc 1 _ rfl)
          have c2 : _ = some _ := (hb.cell (p := ⟨b, off + k * 6 + 2, none⟩) hbl).trans (hc 2 _ rfl)
          have c3 : _ = some _ := (hb.cell (p := ⟨b, off + k * 6 + 3, none⟩) hbl).trans (hc 3 _ rfl)
          have c4 : _ = some _ := (hb.cell (p := ⟨b, off + k * 6 + 4, none⟩) hbl).trans (hc 4 _ rfl)
          have c5 : _ = some _ := (hb.cell (p := ⟨b, off + k * 6 + 5, none⟩) hbl).trans (hc 5 _ rfl)
          obtain ⟨⟨kd, sx, vk, vn, vs⟩, a⟩ := d
          simp only at c0 c1 c2 c3 c4 c5 q1 q2 q3 q4 q5 q6
          have es : s.extract a (a + sx.length) = ⟨sx.toArray⟩ := by
            apply ByteArray.ext
            rw [ByteArray.data_extract]
            apply Array.toList_inj.1
            simp
            exact q5.symm
          have ez : (⟨sx.toArray⟩ : ByteArray).size = sx.length := by show sx.toArray.size = _; simp
          have eb := ext_blank (s := s) (a := p) (b := a) q2
          have ebs : (s.extract p a).size = a - p := by rw [ByteArray.size_extract]; omega
          rw [ebs] at eb
          have ne := not_empty (s := (⟨sx.toArray⟩ : ByteArray)) (by rw [ez]; omega)
          generalize hS : (⟨sx.toArray⟩ : ByteArray) = S at *
          rw [← ez] at es q3 q4 q6
          clear hS ez ebs q5 q2 hd hdr hc
          have HQ := Lib.hid q6
          have hb2 := Lib.hid hb
          clear q6 hb
          go_upto_region 11 with (fail)
          have x1 : (p : Int) ≤ (a : Int) := by omega
          have x2 : (a : Int) + (S.size : Int) ≤ (s.size : Int) := by omega
          have x3 : IntKind.i64.wrap ((a : Int) + (S.size : Int)) = (a : Int) + (S.size : Int) := IntWalk.i64_in _ (by omega)
          have x4 : (0 : Int) ≤ (a : Int) + (S.size : Int) := by omega
          have x5 : ((a : Int) + (S.size : Int)).toNat = a + S.size := by omega
          have x6 : (a : Int) ≤ (s.size : Int) := by omega
          have x7 : (a : Int) ≤ (a : Int) + (S.size : Int) := by omega
          have x8 : a - p ≤ 1000 := by omega
          obtain ⟨n1, n2⟩ := ne
          go_quiet ((go_at_call 5; exact Calls.quiet_of (trim_blank (a - p) _ x8)))
          clear x3 x5 n1 n2 es eb
          go_wp2_with fail
          go_roundw
          case rel => exact ⟨k + 1, a + S.size, by omega, by omega, by go_num, by go_num, HQ.out, below_drewN (hb2.out.alloc hb2.out.size _) _⟩
          case measure => simp [intOf]; omega
        · have hkn : k = ts.length := by omega
          subst hkn
          rw [List.drop_length] at hcv
          have eb := ext_blank (s := s) (a := p) (b := s.size) (fun c hc => hcv c (List.mem_of_mem_take hc))
          have ebs : (s.extract p s.size).size = s.size - p := by rw [ByteArray.size_extract]; omega
          rw [ebs] at eb
          have hwr := hw.trans (hb.mono hw.size)
          clear hcv hb hw ebs
          go_wp2_with fail
          with_reducible refine (trim_blank (s.size - p) _ (by omega)).mono ?_
          rintro e w' ⟨rfl, kk, rfl⟩
          go_wp2_with fail
          go_ret
          exact ⟨rfl, below_drewN hwr _⟩

namespace lexCoversLaw
open Go.ChangeShapes Go.WideShapes Go.ChangeAt Go.RowKit
open Go.ChangeMaps (open_string shut_string)
set_option linter.unusedVariables false

set_option maxRecDepth 100000 in
theorem contract (H : Type) (enc : TypeId × Value → H) (W : World) (base : Nat) (args : Array Value) (ds gs : List (DataW H)) (before : List MemPlace)
    (hval : ∀ (j : Nat) t v, Tryd.f3.params[j]? = some t → args[j]? = some v → Value.okWide Tryd.prog W .any base t v)
    (hW : DataW.Whole enc Tryd.prog Tryd.f3.params.toList Rows.lexCoversSpec.vars false W args.toList ds gs before)
    (hsz : (DataW.weightsEach Tryd.prog (Tryd.f3.params.toList ++ Rows.lexCoversSpec.plain.varTypes Tryd.prog) (ds ++ gs)).all (· ≤ reachBytes) = true) :
    Calls Tryd.prog 3 args W fun e W' => ∃ v, e = .returned v ∧ Rows.lexCoversSpec.post enc Tryd.prog Tryd.f3 false true false false W args v W' := by
  have hW' := hW
  obtain ⟨p, q, hA0, hV, rfl, hfz, hnd⟩ := hW
  have hA : DataW.TrodAll enc Tryd.prog W 0 (fun _ => true) true Tryd.f3.params.toList args.toList ds p := hA0
  rw [Tryd.params3] at hA hval hsz
  obtain ⟨v0, vs0, d0, ds0, p0, q0, hargs, rfl, rfl, h0, r0⟩ := trodAll_cons hA
  obtain ⟨rfl, rfl, rfl⟩ := trodAll_nil r0
  obtain rfl : args = #[v0] := by cases args; simp_all
  obtain ⟨rfl, rfl⟩ := trodVars_none hV
  have k0 := h0
  have lt0 : ∀ x ∈ p0, x.block < W.heap.size := by obtain ⟨m, hm⟩ := k0; exact DataW.trod_lt m _ _ _ hm
  obtain ⟨a0, rfl, e0, -, w0⟩ := open_string Tryd.underlying9 (hval 0 9 v0 rfl rfl) h0
  have z0 : a0.size ≤ reachBytes := by have := sized_string hsz (j := 0) (t := 9) (bytes := a0.data.toList) rfl (by rw [e0]; rfl); simpa using this
  clear hA0
  refine (lexCovers_walk a0 W z0).mono fun e W' ⟨he, bel⟩ => ?_
  subst he
  exact ⟨_, rfl, _, _, _, [], _, [], hW', trodAll_mk1 (shut_bool Tryd.underlying4 _), (trodAll_cons_mk (Below.trod laidOutTrue (by kernel_rfl) (of_decide_eq_true (by kernel_rfl)) k0 bel lt0) trodAll_mk0), rfl, bel.frame _, fun h => by cases h⟩

/-- The two tables, as their initialisers lay them. -/
def lay0 : Obj → Obj
  | .cells _ t frozen => .cells #[.int .u8 240, .int .u8 240, .int .u8 240, .int .u8 240, .int .u8 240, .int .u8 240, .int .u8 240, .int .u8 240, .int .u8 240, .int .u8 240, .int .u8 240, .int .u8 240, .int .u8 240, .int .u8 240, .int .u8 240, .int .u8 240, .int .u8 240, .int .u8 240, .int .u8 240, .int .u8 240, .int .u8 240, .int .u8 240, .int .u8 240, .int .u8 240, .int .u8 240, .int .u8 240, .int .u8 240, .int .u8 240, .int .u8 240, .int .u8 240, .int .u8 240, .int .u8 240, .int .u8 240, .int .u8 240, .int .u8 240, .int .u8 240, .int .u8 240, .int .u8 240, .int .u8 240, .int .u8 240, .int .u8 240, .int .u8 240, .int .u8 240, .int .u8 240, .int .u8 240, .int .u8 240, .int .u8 240, .int .u8 240, .int .u8 240, .int .u8 240, .int .u8 240, .int .u8 240, .int .u8 240, .int .u8 240, .int .u8 240, .int .u8 240, .int .u8 240, .int .u8 240, .int .u8 240, .int .u8 240, .int .u8 240, .int .u8 240, .int .u8 240, .int .u8 240, .int .u8 240, .int .u8 240, .int .u8 240, .int .u8 240, .int .u8 240, .int .u8 240, .int .u8 240, .int .u8 240, .int .u8 240, .int .u8 240, .int .u8 240, .int .u8 240, .int .u8 240, .int .u8 240, .int .u8 240, .int .u8 240, .int .u8 240, .int .u8 240, .int .u8 240, .int .u8 240, .int .u8 240, .int .u8 240, .int .u8 240, .int .u8 240, .int .u8 240, .int .u8 240, .int .u8 240, .int .u8 240, .int .u8 240, .int .u8 240, .int .u8 240, .int .u8 240, .int .u8 240, .int .u8 240, .int .u8 240, .int .u8 240, .int .u8 240, .int .u8 240, .int .u8 240, .int .u8 240, .int .u8 240, .int .u8 240, .int .u8 240, .int .u8 240, .int .u8 240, .int .u8 240, .int .u8 240, .int .u8 240, .int .u8 240, .int .u8 240, .int .u8 240, .int .u8 240, .int .u8 240, .int .u8 240, .int .u8 240, .int .u8 240, .int .u8 240, .int .u8 240, .int .u8 240, .int .u8 240, .int .u8 240, .int .u8 240, .int .u8 240, .int .u8 240, .int .u8 241, .int .u8 241, .int .u8 241, .int .u8 241, .int .u8 241, .int .u8 241, .int .u8 241, .int .u8 241, .int .u8 241, .int .u8 241, .int .u8 241, .int .u8 241, .int .u8 241, .int .u8 241, .int .u8 241, .int .u8 241, .int .u8 241, .int .u8 241, .int .u8 241, .int .u8 241, .int .u8 241, .int .u8 241, .int .u8 241, .int .u8 241, .int .u8 241, .int .u8 241, .int .u8 241, .int .u8 241, .int .u8 241, .int .u8 241, .int .u8 241, .int .u8 241, .int .u8 241, .int .u8 241, .int .u8 241, .int .u8 241, .int .u8 241, .int .u8 241, .int .u8 241, .int .u8 241, .int .u8 241, .int .u8 241, .int .u8 241, .int .u8 241, .int .u8 241, .int .u8 241, .int .u8 241, .int .u8 241, .int .u8 241, .int .u8 241, .int .u8 241, .int .u8 241, .int .u8 241, .int .u8 241, .int .u8 241, .int .u8 241, .int .u8 241, .int .u8 241, .int .u8 241, .int .u8 241, .int .u8 241, .int .u8 241, .int .u8 241, .int .u8 241, .int .u8 241, .int .u8 241, .int .u8 2, .int .u8 2, .int .u8 2, .int .u8 2, .int .u8 2, .int .u8 2, .int .u8 2, .int .u8 2, .int .u8 2, .int .u8 2, .int .u8 2, .int .u8 2, .int .u8 2, .int .u8 2, .int .u8 2, .int .u8 2, .int .u8 2, .int .u8 2, .int .u8 2, .int .u8 2, .int .u8 2, .int .u8 2, .int .u8 2, .int .u8 2, .int .u8 2, .int .u8 2, .int .u8 2, .int .u8 2, .int .u8 2, .int .u8 2, .int .u8 19, .int .u8 3, .int .u8 3, .int .u8 3, .int .u8 3, .int .u8 3, .int .u8 3, .int .u8 3, .int .u8 3, .int .u8 3, .int .u8 3, .int .u8 3, .int .u8 3, .int .u8 35, .int .u8 3, .int .u8 3, .int .u8 52, .int .u8 4, .int .u8 4, .int .u8 4, .int .u8 68, .int .u8 241, .int .u8 241, .int .u8 241, .int .u8 241, .int .u8 241, .int .u8 241, .int .u8 241, .int .u8 241, .int .u8 241, .int .u8 241, .int .u8 241] t frozen
  | o => o
def lay1 : Obj → Obj
  | .cells _ t frozen => .cells #[.int .u8 128, .int .u8 191, .int .u8 160, .int .u8 191, .int .u8 128, .int .u8 159, .int .u8 144, .int .u8 191, .int .u8 128, .int .u8 143, .int .u8 0, .int .u8 0, .int .u8 0, .int .u8 0, .int .u8 0, .int .u8 0, .int .u8 0, .int .u8 0, .int .u8 0, .int .u8 0, .int .u8 0, .int .u8 0, .int .u8 0, .int .u8 0, .int .u8 0, .int .u8 0, .int .u8 0, .int .u8 0, .int .u8 0, .int .u8 0, .int .u8 0, .int .u8 0] t frozen
  | o => o
/-- A world for the witness: the settled one, with the two tables. -/
noncomputable def laidWorld (os : Os) : World :=
  { World.holding Tryd.prog os ⟨#[], #[], []⟩ with heap := ((World.holding Tryd.prog os ⟨#[], #[], []⟩).heap.modify 0 lay0).modify 1 lay1 }
theorem laid_met (os : Os) : laidMet Tryd.prog Rows.lexCoversRow.laid ((laidWorld os).forCall (fun _ _ => 0) ⟨#[], #[.string ByteArray.empty], []⟩).memory :=
  laidMet_of_run' 8 (by kernel_rfl) (by kernel_rfl)
theorem reads (os : Os) {H : Type} (enc : TypeId × Value → H) : ∃ places, DataW.whole enc Tryd.prog ((laidWorld os).forCall (fun _ _ => 0) ⟨#[], #[.string ByteArray.empty], []⟩).memory Tryd.f3.params.toList Rows.lexCoversSpec.vars false #[Value.string ByteArray.empty].toList 8 = some ([.lit (.string [])], [], places) :=
  ⟨[], by kernel_rfl⟩

set_option maxRecDepth 100000 in
theorem lifted (os : Os) (started : os.Started) (H : Type) (enc : TypeId × Value → H) (F : Stop.Interp) :
    ReturnsInHanded {} Tryd.checked os 3 .any ((OpenSpec.ofChange Rows.lexCoversSpec).preRow enc Tryd.prog Tryd.f3 Rows.lexCoversRow.domain false Rows.lexCoversRow.laid) (((OpenSpec.ofChange Rows.lexCoversSpec).at F).post enc Tryd.prog Tryd.f3 false true false false) := by
  obtain ⟨places, hx⟩ := reads os enc
  refine returnsInHanded_of_row (C := Tryd.checked) (s := OpenSpec.ofChange Rows.lexCoversSpec) ownNone started (by kernel_rfl) Tryd.func3
    (witness_row_at (enc := enc) (C := Tryd.checked) false (laidWorld os) #[.string ByteArray.empty] rfl (by kernel_rfl) (by kernel_rfl) (by kernel_rfl)
      (OpenSpec.preRow_of_cond 8 hx (by kernel_rfl) (fun k hk => by cases hk) (by kernel_rfl) (laid_met os))) ?_
  intro W base args ds gs before hval hW _ _ hsz _ _ _
  exact contract H enc W base args ds gs before hval hW hsz

theorem said : Rows.LexCoversSaid :=
  OpenClaim.holds_of_cond 3 Tryd.f3 rfl rfl rfl rfl rfl rfl rfl ⟨rfl, rfl, rfl, rfl, rfl⟩ rfl rfl rfl rfl rfl (by kernel_rfl) Tryd.func3 (by kernel_rfl)
    (of_decide_eq_true (by kernel_rfl)) (by unfold Func.isWrapper; first | (rw [if_pos (by decide +kernel)]; kernel_rfl) | (rw [if_neg (by decide +kernel)]; exact ⟨rfl, rfl⟩))
    (fun os started H enc _ F => by rw [OpenClaim.pre_eq_preRow]; exact lifted os started H enc F)

/-- No parameter wants a stand-in; the program's own looks are off: what the card asks. -/
theorem plain (f : FuncId) (fn : Func) (hf : Tryd.pinned.checked.prog.funcNamed "lychway/lychwaykeep.LexCovers" = some f) (hfn : Tryd.pinned.checked.prog.funcs[f]? = some fn) :
    false = Tryd.pinned.checked.prog.looks [] ∧ ∀ (j : Nat) t, fn.params[j]? = some t → Tryd.pinned.checked.prog.wantsStandIn t = false := by
  obtain rfl : f = 3 := Option.some.inj ((show Tryd.prog.funcNamed "lychway/lychwaykeep.LexCovers" = some 3 by kernel_rfl).symm.trans hf) |>.symm
  obtain rfl : fn = Tryd.f3 := (Option.some.inj (Tryd.func3.symm.trans hfn)).symm
  refine ⟨by kernel_rfl, fun j t ht => ?_⟩
  rw [Tryd.params3] at ht
  obtain rfl : t = 9 := by simpa using Array.mem_of_getElem? ht
  exact (show Tryd.prog.wantsStandIn 9 = false by kernel_rfl)

end lexCoversLaw

/-- The card. -/
theorem lexCovers_holds : Rows.LexCoversCardSaid :=
  Claim7.holds_tied_plain_at .later [] _ _ _ _ lexCoversLaw.said (fun _ h => by cases h) (by kernel_rfl) (fun _ h => by cases h) lexCovers_row_tie rfl ⟨rfl, rfl⟩ (by kernel_rfl) rfl lexCoversLaw.plain (by kernel_rfl)
#print axioms lexCovers_holds
end Go.Proofs.YtkjkdiaejmkmfaaDoor
