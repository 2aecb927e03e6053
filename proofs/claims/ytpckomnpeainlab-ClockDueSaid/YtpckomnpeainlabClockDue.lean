/-
  For all raw things and numbers ClockDue returns true: exactly the timers whose time has come are due, and no timer is lost. No condition.
-/
import Derived.Test.YtpckomnpeainlabClockG
import Derived.Test.YtpckomnpeainlabSlTmrE
import Derived.Test.YtpckomnpeainlabDueP
import Derived.Test.YtpckomnpeainlabFidx
namespace Go.Proofs.Ytpckomnpeainlab
open Go.RowKit

attribute [local go_sem] Evo.refl Evo.alloc Evo.drew Evo.drewN

set_option maxRecDepth 100000 in
set_option maxHeartbeats 4000000 in
theorem indexFunc_due1 (v : Value) (l : List Tmr) (p : Tmr → Bool) (B : Nat) (w : World) (h : Sl w 2 v (l.map Tmr.cells)) (hl : l.length ≤ 9223372036854775806)
    (hp : ∀ x ∈ l, ∀ W, Evo w W → Calls Try.prog 24 #[.agg #[.int .i64 x.id, .int .i64 x.at'], .pointer (some ⟨B, 0, none⟩)] W (Gives (.bool (p x)) W)) :
    Calls Try.prog 50 #[v, .func (.func 24) #[] #[.pointer (some ⟨B, 0, none⟩)]] w (GivesE (.int .i64 (fidx p l)) w) := by
  obtain ⟨A, cap, rfl, hcap, -⟩ := h.form
  rw [List.length_map] at *
  have HR := Lib.hid h
  have HP := Lib.hid hp
  have HI := Lib.hid (fidx_found p l)
  have HN := Lib.hid (fidx_none p l)
  clear h hp
  go_enter Try.func50, Try.ntmps50
  go_wp2_with fail
  go_loopw [8] (fun n wr => ∃ k : Nat, k ≤ l.length ∧ n = .int .i64 k ∧ (∀ y ∈ l.take k, p y = false) ∧ Evo w wr) (fun n _ => l.length - (intOf n).toNat)
  case atStart => exact ⟨0, Nat.zero_le _, rfl, by simp, Evo.refl _⟩
  case round =>
    obtain ⟨k, hk, rfl, hno, hb⟩ := hrel
    by_cases hlt : k < l.length
    · obtain ⟨x, hd⟩ : ∃ x, l[k]? = some x := ⟨_, List.getElem?_eq_getElem hlt⟩
      have htk := take_snoc' l k x hd
      obtain ⟨b, off, rfl, hbl, hc⟩ := HR.out.row (i := k) (r := Tmr.cells x) (by rw [List.getElem?_map, hd]; rfl)
      have c0 : ∀ W, Evo w W → W.cell? ⟨b, off + k * 2, none⟩ = some _ := hc 0 _ rfl
      have c1 : ∀ W, Evo w W → W.cell? ⟨b, off + k * 2 + 1, none⟩ = some _ := hc 1 _ rfl
      have HT := HP.out x (List.mem_of_getElem? hd) wr hb
      cases hx : p x with
      | true =>
        have HE := Lib.hid (HI.out k x hno hd hx)
        rw [hx] at HT
        have HT2 := Lib.hid HT
        clear HT hno hd htk hx hc
        go_wp2_with fail
        with_reducible refine (HT2.out).mono ?_
        rintro e u1 ⟨rfl, hb2⟩
        have hw := Lib.hid (hb.trans ⟨hb2⟩)
        clear hb2 hb
        go_wp2_with fail
        go_ret
        exact ⟨ret_i (by rw [HE.out]), hw.out⟩
      | false =>
        have HNO := Lib.hid (show ∀ y ∈ l.take (k + 1), p y = false from fun y hy => by
          rw [htk] at hy
          rcases List.mem_append.1 hy with hy | hy
          · exact hno y hy
          · simp at hy; subst hy; exact hx)
        rw [hx] at HT
        have HT2 := Lib.hid HT
        clear HT hno hd htk hx hc
        go_wp2_with fail
        with_reducible refine (HT2.out).mono ?_
        rintro e u1 ⟨rfl, hb2⟩
        have hw := Lib.hid (hb.trans ⟨hb2⟩)
        clear hb2 hb
        go_wp2_with fail
        go_roundw
        case rel => exact ⟨k + 1, by omega, by go_num, HNO.out, hw.out⟩
        case measure => simp [intOf]; omega
    · have hkn : k = l.length := by omega
      subst hkn
      rw [List.take_length] at hno
      have HE := Lib.hid (HN.out hno)
      clear hno
      go_wp2_with fail
      go_ret
      exact ⟨ret_i (by rw [HE.out]), hb⟩

set_option maxRecDepth 100000 in
set_option maxHeartbeats 4000000 in
theorem containsFunc_due1 (v : Value) (l : List Tmr) (p : Tmr → Bool) (B : Nat) (w : World) (h : Sl w 2 v (l.map Tmr.cells)) (hl : l.length ≤ 9223372036854775806)
    (hp : ∀ x ∈ l, ∀ W, Evo w W → Calls Try.prog 24 #[.agg #[.int .i64 x.id, .int .i64 x.at'], .pointer (some ⟨B, 0, none⟩)] W (Gives (.bool (p x)) W)) :
    Calls Try.prog 23 #[v, .func (.func 24) #[] #[.pointer (some ⟨B, 0, none⟩)]] w (GivesE (.bool (l.any p)) w) := by
  have HI := Lib.hid (indexFunc_due1 v l p B w h hl hp)
  have he := fidx_dec p l
  generalize fidx p l = q at *
  have HE := Lib.hid he
  clear h hp he
  go_enter Try.func23, Try.ntmps23
  go_wp2_with fail
  with_reducible refine (HI.out).mono ?_
  rintro e u1 ⟨rfl, hb⟩
  go_wp2_with fail
  go_ret
  exact ⟨ret_b HE.out, hb⟩

set_option maxRecDepth 100000 in
set_option maxHeartbeats 4000000 in
theorem indexFunc_due2 (v : Value) (l : List Tmr) (p : Tmr → Bool) (B : Nat) (w : World) (h : Sl w 2 v (l.map Tmr.cells)) (hl : l.length ≤ 9223372036854775806)
    (hp : ∀ x ∈ l, ∀ W, Evo w W → Calls Try.prog 25 #[.agg #[.int .i64 x.id, .int .i64 x.at'], .pointer (some ⟨B, 0, none⟩)] W (Gives (.bool (p x)) W)) :
    Calls Try.prog 50 #[v, .func (.func 25) #[] #[.pointer (some ⟨B, 0, none⟩)]] w (GivesE (.int .i64 (fidx p l)) w) := by
  obtain ⟨A, cap, rfl, hcap, -⟩ := h.form
  rw [List.length_map] at *
  have HR := Lib.hid h
  have HP := Lib.hid hp
  have HI := Lib.hid (fidx_found p l)
  have HN := Lib.hid (fidx_none p l)
  clear h hp
  go_enter Try.func50, Try.ntmps50
  go_wp2_with fail
  go_loopw [8] (fun n wr => ∃ k : Nat, k ≤ l.length ∧ n = .int .i64 k ∧ (∀ y ∈ l.take k, p y = false) ∧ Evo w wr) (fun n _ => l.length - (intOf n).toNat)
  case atStart => exact ⟨0, Nat.zero_le _, rfl, by simp, Evo.refl _⟩
  case round =>
    obtain ⟨k, hk, rfl, hno, hb⟩ := hrel
    by_cases hlt : k < l.length
    · obtain ⟨x, hd⟩ : ∃ x, l[k]? = some x := ⟨_, List.getElem?_eq_getElem hlt⟩
      have htk := take_snoc' l k x hd
      obtain ⟨b, off, rfl, hbl, hc⟩ := HR.out.row (i := k) (r := Tmr.cells x) (by rw [List.getElem?_map, hd]; rfl)
      have c0 : ∀ W, Evo w W → W.cell? ⟨b, off + k * 2, none⟩ = some _ := hc 0 _ rfl
      have c1 : ∀ W, Evo w W → W.cell? ⟨b, off + k * 2 + 1, none⟩ = some _ := hc 1 _ rfl
      have HT := HP.out x (List.mem_of_getElem? hd) wr hb
      cases hx : p x with
      | true =>
        have HE := Lib.hid (HI.out k x hno hd hx)
        rw [hx] at HT
        have HT2 := Lib.hid HT
        clear HT hno hd htk hx hc
        go_wp2_with fail
        with_reducible refine (HT2.out).mono ?_
        rintro e u1 ⟨rfl, hb2⟩
        have hw := Lib.hid (hb.trans ⟨hb2⟩)
        clear hb2 hb
        go_wp2_with fail
        go_ret
        exact ⟨ret_i (by rw [HE.out]), hw.out⟩
      | false =>
        have HNO := Lib.hid (show ∀ y ∈ l.take (k + 1), p y = false from fun y hy => by
          rw [htk] at hy
          rcases List.mem_append.1 hy with hy | hy
          · exact hno y hy
          · simp at hy; subst hy; exact hx)
        rw [hx] at HT
        have HT2 := Lib.hid HT
        clear HT hno hd htk hx hc
        go_wp2_with fail
        with_reducible refine (HT2.out).mono ?_
        rintro e u1 ⟨rfl, hb2⟩
        have hw := Lib.hid (hb.trans ⟨hb2⟩)
        clear hb2 hb
        go_wp2_with fail
        go_roundw
        case rel => exact ⟨k + 1, by omega, by go_num, HNO.out, hw.out⟩
        case measure => simp [intOf]; omega
    · have hkn : k = l.length := by omega
      subst hkn
      rw [List.take_length] at hno
      have HE := Lib.hid (HN.out hno)
      clear hno
      go_wp2_with fail
      go_ret
      exact ⟨ret_i (by rw [HE.out]), hb⟩

set_option maxRecDepth 100000 in
set_option maxHeartbeats 4000000 in
theorem containsFunc_due2 (v : Value) (l : List Tmr) (p : Tmr → Bool) (B : Nat) (w : World) (h : Sl w 2 v (l.map Tmr.cells)) (hl : l.length ≤ 9223372036854775806)
    (hp : ∀ x ∈ l, ∀ W, Evo w W → Calls Try.prog 25 #[.agg #[.int .i64 x.id, .int .i64 x.at'], .pointer (some ⟨B, 0, none⟩)] W (Gives (.bool (p x)) W)) :
    Calls Try.prog 23 #[v, .func (.func 25) #[] #[.pointer (some ⟨B, 0, none⟩)]] w (GivesE (.bool (l.any p)) w) := by
  have HI := Lib.hid (indexFunc_due2 v l p B w h hl hp)
  have he := fidx_dec p l
  generalize fidx p l = q at *
  have HE := Lib.hid he
  clear h hp he
  go_enter Try.func23, Try.ntmps23
  go_wp2_with fail
  with_reducible refine (HI.out).mono ?_
  rintro e u1 ⟨rfl, hb⟩
  go_wp2_with fail
  go_ret
  exact ⟨ret_b HE.out, hb⟩

set_option maxHeartbeats 2000000 in
theorem due1_is (x : Tmr) (now : Int) (B : Nat) (w : World) (hB : B < w.heap.size) (hc : w.cell? ⟨B, 0, none⟩ = some (.int .i64 now)) (h : x.at' ≤ now) :
    Calls Try.prog 24 #[.agg #[.int .i64 x.id, .int .i64 x.at'], .pointer (some ⟨B, 0, none⟩)] w (Gives (.bool false) w) := by
  have bx1 := Box.new w #[.int .i64 x.id, .int .i64 x.at'] 27
  have BX1 := Lib.hid bx1
  clear bx1
  have bw := (Below.refl w.heap.size w).alloc (Nat.le_refl _) (.cells #[.int .i64 x.id, .int .i64 x.at'] 27)
  have BW := Lib.hid bw
  clear bw
  go_enter Try.func24, Try.ntmps24
  have hx := BX1.out
  have hw := BW.out
  clear BX1 BW
  have x0 := hx.cells 0 _ rfl
  have x1 := hx.cells 1 _ rfl
  go_wp2_with fail
  go_ret
  exact ⟨ret_b (by simp; omega), hw⟩
set_option maxHeartbeats 2000000 in
theorem due2_is (x : Tmr) (now : Int) (B : Nat) (w : World) (hB : B < w.heap.size) (hc : w.cell? ⟨B, 0, none⟩ = some (.int .i64 now)) (h : now < x.at') :
    Calls Try.prog 25 #[.agg #[.int .i64 x.id, .int .i64 x.at'], .pointer (some ⟨B, 0, none⟩)] w (Gives (.bool false) w) := by
  have bx1 := Box.new w #[.int .i64 x.id, .int .i64 x.at'] 27
  have BX1 := Lib.hid bx1
  clear bx1
  have bw := (Below.refl w.heap.size w).alloc (Nat.le_refl _) (.cells #[.int .i64 x.id, .int .i64 x.at'] 27)
  have BW := Lib.hid bw
  clear bw
  go_enter Try.func25, Try.ntmps25
  have hx := BX1.out
  have hw := BW.out
  clear BX1 BW
  have x0 := hx.cells 0 _ rfl
  have x1 := hx.cells 1 _ rfl
  go_wp2_with fail
  go_ret
  exact ⟨ret_b (by simp; omega), hw⟩

theorem any_false {α : Type} (l : List α) : l.any (fun _ => false) = false := by simp

set_option maxRecDepth 100000 in
set_option maxHeartbeats 16000000 in
theorem clockDue_walk (v : Value) (l : List RawD) (a : Int) (w : World) (h : RawsOf w v l) (h0 : -9223372036854775808 ≤ a) (h1 : a ≤ 9223372036854775807) :
    Calls Try.prog 6 #[v, .int .i64 a] w fun e w' => e = .returned (.bool true) ∧ Below w.heap.size w w' := by
  obtain ⟨ok, ol, oi⟩ := tmrT_ok l l.length (Nat.le_refl _)
  have HT := Lib.hid (fun W hW => timers_any v l W (⟨h.1.at hW, h.2⟩ : RawsOf W v l))
  clear h
  generalize hm : tmrT l l.length = m at *
  have HM := Lib.hid hm
  clear hm
  have hl := ok.wk.len
  have HD := Lib.hid (fun v now W (hW : Sl W 2 v (tcs m)) => due_any v m now W hW ok)
  have HC := Lib.hid (fun (l1 l2 : List Tmr) (h : l1.length + l2.length ≤ 40) W v va vb h ha hb => concat_tmr v va vb (tcs l1) (tcs l2) W h ha hb (tcs_len _) (tcs_len _) (tcs_one _) (tcs_one _) (by simp; omega))
  have HE := Lib.hid (fun v v' (m : List Tmr) (hm : m.length ≤ 40) W (hW : Sl W 2 v (tcs m)) (hW' : Sl W 2 v' (tcs m)) => equal_tmr v v' m W hW hW' (by omega))
  have HLO := Lib.hid (due_lo m)
  have HHI := Lib.hid (due_hi ok)
  clear ok ol oi
  go_enter Try.func6, Try.ntmps6
  go_wp2_with fail
  have ex := (Evo.refl w).alloc (.cells #[.int .i64 a] 3)
  have bx := Box.new w #[.int .i64 a] 3
  with_reducible refine (HT.out _ ex).mono ?_
  rintro e u1 ⟨v1, rfl, f1, e1⟩
  have F1 := Lib.hid (show Sl u1 2 v1 (tcs m) from HM.out ▸ f1)
  have ew := Lib.hid (ex.trans e1)
  have hg : u1.heap[w.heap.size]? = some (.cells #[.int .i64 a] 3 (0, 0)) := by
    rw [e1.below.block w.heap.size (by simp)]
    exact heap_alloc_new w _
  have HG := Lib.hid (fun (c : Value) => Sl.setOne (show Sl u1 2 v1 (tcs m) from HM.out ▸ f1) (tcs_len _) (by omega) hg c)
  clear hg
  have b1 := bx.keep e1.below
  have bc := b1.cells 0 _ rfl
  have bf := b1.free 0
  have BL := Lib.hid b1.lt
  clear f1 bx ex e1
  go_wp2_with fail
  with_reducible refine (picked_any a 40 _ h0 h1 (by omega) (by omega)).mono ?_
  rintro e w' ⟨rfl, rfl⟩
  have s0 := pickL_lo a 40 (by omega)
  have s1 := pickL_hi a 40 (by omega)
  generalize pickL a 40 = p at *
  clear h0 h1
  go_wp2_with fail
  have hbx := Box.set b1 0 (.int .i64 (p - 4)) (by simp)
  simp only [List.set_cons_zero] at hbx
  have ew2 := ew.out.set (Evo.refl w) 0 (.int .i64 (p - 4))
  have G1 := Lib.hid (HG.out (.int .i64 (p - 4)))
  clear bc bf
  generalize u1.setCell ⟨w.heap.size, 0, none⟩ (.int .i64 (p - 4)) = u2 at *
  have bc : ∀ W, Evo u2 W → W.cell? ⟨w.heap.size, 0, none⟩ = some (.int .i64 (p - 4)) := fun W h => h.cell hbx.lt (hbx.cells 0 _ rfl)
  have BC := Lib.hid bc
  have BL := Lib.hid hbx.lt
  have er := Evo.refl u2
  clear hbx b1
  with_reducible refine (HD.out _ (p - 4) _ G1.out).mono ?_
  rintro e u3 ⟨v2, v3, rfl, f2, f3, e2⟩
  obtain ⟨A2, n2, c2, rfl⟩ := f2.form3
  obtain ⟨A3, n3, c3, rfl⟩ := f3.form3
  have ee := (Evo.refl u3).alloc (.cells #[.slice A2 n2 c2, .slice A3 n3 c3] 23)
  have G2 := Lib.hid (f2.at ee)
  have G3 := Lib.hid (f3.at ee)
  have E3 := Lib.hid (e2.trans ee)
  have EW := Lib.hid (ew2.trans (e2.trans ee))
  have hl2 : (m.take (dueN m (p - 4))).length + (m.drop (dueN m (p - 4))).length ≤ 40 := by simp; omega
  clear f2 f3 e2 ee ew2 bc
  go_wp2_with fail
  with_reducible refine (HC.out _ _ hl2 _ _ _ _ (Sl.two _ _ _ _) G2.out G3.out).mono ?_
  rintro e u5 ⟨v8, rfl, h8, e5⟩
  rw [show tcs (m.take (dueN m (p - 4))) ++ tcs (m.drop (dueN m (p - 4))) = tcs m from List.map_append.symm.trans (congrArg tcs (List.take_append_drop _ _))] at h8
  have G8 := Lib.hid (Sl.of_own (tcs_len _) h8)
  clear h8
  go_wp2_with fail
  with_reducible refine (HE.out _ _ m (by omega) _ G8.out ((G1.out.at E3.out).at e5)).mono ?_
  rintro e u6 ⟨rfl, e6⟩
  have E6 := Lib.hid (E3.out.trans (e5.trans e6))
  have E7 := Lib.hid (EW.out.trans (e5.trans e6))
  have G2' := Lib.hid (G2.out.at (e5.trans e6))
  have G3' := Lib.hid (G3.out.at (e5.trans e6))
  clear e5 e6 er
  have h1 := containsFunc_due1 _ (m.take (dueN m (p - 4))) (fun _ => false) w.heap.size u6 G2'.out (by simp; omega) (fun x hx W hW => due1_is x (p - 4) w.heap.size W (Nat.lt_of_lt_of_le BL.out (E6.out.trans hW).size) (BC.out W (E6.out.trans hW)) (HLO.out _ x hx))
  have h2 := fun W (hW : Evo u6 W) => containsFunc_due2 _ (m.drop (dueN m (p - 4))) (fun _ => false) w.heap.size W (G3'.out.at hW) (by simp; omega) (fun x hx W' hW' => due2_is x (p - 4) w.heap.size W' (Nat.lt_of_lt_of_le BL.out (E6.out.trans (hW.trans hW')).size) (BC.out W' (E6.out.trans (hW.trans hW'))) (HHI.out _ x hx))
  rw [any_false] at h1
  simp only [any_false] at h2
  have H1 := Lib.hid h1
  have H2 := Lib.hid h2
  clear h1 h2
  go_wp2_with fail
  with_reducible refine (H1.out).mono ?_
  rintro e u8 ⟨rfl, e8⟩
  go_wp2_with fail
  with_reducible refine (H2.out _ e8).mono ?_
  rintro e u9 ⟨rfl, e9⟩
  go_wp2_with fail
  go_ret
  exact ⟨rfl, ((E7.out.trans e8).trans e9).below⟩

namespace clockDueLaw
open Go.ChangeShapes Go.WideShapes Go.ChangeAt Go.RowKit
open Go.ChangeMaps (open_string shut_string)
set_option linter.unusedVariables false

set_option maxRecDepth 100000 in
theorem lifted (os : Os) (started : os.Started) (H : Type) (enc : TypeId × Value → H) :
    ReturnsInHanded {} Try.checked os 6 .any (Rows.clockDueSpec.pre6 enc Try.prog Try.f6 Rows.clockDueRow.domain false) (Rows.clockDueSpec.post enc Try.prog Try.f6 false true false false) := by
  refine returnsInHanded_of_change_sized (C := Try.checked) ownNone started (by kernel_rfl) Try.func6
    (ChangeSpec.witness6 (enc := enc) (C := Try.checked) false ⟨#[], #[.slice none 0 0, .int .i64 0], []⟩ 8 (by kernel_rfl) (by kernel_rfl) (by kernel_rfl) (by kernel_rfl)) ?_
  intro W base args ds gs before hval0 hW hcnd hsz0 _
  have hval : ∀ (j : Nat) t v, Try.f6.params[j]? = some t → args[j]? = some v → Value.okWide Try.prog W .any base t v := hval0
  have hsz : (DataW.weightsEach Try.prog (Try.f6.params.toList ++ Rows.clockDueSpec.plain.varTypes Try.prog) (ds ++ gs)).all (· ≤ reachBytes) = true := hsz0
  have hW' := hW
  obtain ⟨p, q, hA0, hV, rfl, hfz, hnd⟩ := hW
  have hA : DataW.TrodAll enc Try.prog W 0 (fun _ => true) true Try.f6.params.toList args.toList ds p := hA0
  rw [Try.params6] at hA hval hsz
  obtain ⟨v0, vs0, d0, ds0, p0, q0, hargs, rfl, rfl, h0, r0⟩ := trodAll_cons hA
  obtain ⟨v1, vs1, d1, ds1, p1, q1, rfl, rfl, rfl, h1, r1⟩ := trodAll_cons r0
  obtain ⟨rfl, rfl, rfl⟩ := trodAll_nil r1
  obtain rfl : args = #[v0, v1] := by cases args; simp_all
  obtain ⟨rfl, rfl⟩ := trodVars_none hV
  have k0 := h0
  have lt0 : ∀ x ∈ p0, x.block < W.heap.size := by obtain ⟨m, hm⟩ := k0; exact DataW.trod_lt m _ _ _ hm
  obtain ⟨a0, w0⟩ := open_rows (hval 0 22 v0 rfl rfl) h0 (fun es ss hd => sized_slice hsz (j := 0) (t := 22) (elems := es) (spare := ss) rfl (by rw [hd]; rfl) Try.underlying22)
  have k1 := h1
  have lt1 : ∀ x ∈ p1, x.block < W.heap.size := by obtain ⟨m, hm⟩ := k1; exact DataW.trod_lt m _ _ _ hm
  obtain ⟨a1, rfl, -, -, w1⟩ := open_int Try.underlying3 (hval 1 3 v1 rfl rfl) h1
  clear hA0 hval0 hsz0
  refine (clockDue_walk v0 a0 a1 W w0 (int_lo w1) (int_hi w1)).mono fun e W' ⟨he, bel⟩ => ?_
  subst he
  exact ⟨_, rfl, _, _, _, [], _, [], hW', trodAll_mk1 (shut_bool Try.underlying4 _), (trodAll_cons_mk (Below.trod laidOutTrue (by kernel_rfl) (of_decide_eq_true (by kernel_rfl)) k0 bel lt0) (trodAll_cons_mk (Below.trod laidOutTrue (by kernel_rfl) (of_decide_eq_true (by kernel_rfl)) k1 bel lt1) trodAll_mk0)), rfl, bel.frame _, fun h => by cases h⟩

theorem over : Rows.clockDueRow.holds Try.pinned (OpenSpec.ofChange Rows.clockDueSpec) :=
  OpenClaim.holds_of_wide 6 Try.f6 rfl rfl rfl rfl rfl rfl rfl ⟨rfl, rfl, rfl, rfl, rfl⟩ rfl rfl rfl rfl rfl (by kernel_rfl) Try.func6 (by kernel_rfl)
    (of_decide_eq_true (by kernel_rfl)) (by unfold Func.isWrapper; first | (rw [if_pos (by decide +kernel)]; kernel_rfl) | (rw [if_neg (by decide +kernel)]; exact ⟨rfl, rfl⟩))
    (fun os started H enc _ => lifted os started H enc)

end clockDueLaw
theorem clockDue_holds : Rows.ClockDueSaid := clockDueLaw.over
#print axioms clockDue_holds
end Go.Proofs.Ytpckomnpeainlab
