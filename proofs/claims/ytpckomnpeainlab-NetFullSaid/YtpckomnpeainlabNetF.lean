/-
  Contract of net.Send.
-/
import Derived.Test.YtpckomnpeainlabNetC
namespace Go.Proofs.Ytpckomnpeainlab
open Go.RowKit

attribute [local go_sem] Evo.refl Evo.alloc Evo.drew Evo.drewN

theorem Sl.form3 {w : World} {k : Nat} {v : Value} {l : List (List Value)} (h : Sl w k v l) : ∃ A n cap, v = .slice A n cap := by
  obtain ⟨A, cap, e, -⟩ := h.form
  exact ⟨_, _, _, e⟩
theorem Sl.two (w : World) (a b : Value) (t : TypeId) : Sl (w.alloc (.cells #[a, b] t)) 1 (.slice (some ⟨w.heap.size, 0, none⟩) 2 2) [[a], [b]] := by
  refine .inr ⟨w.heap.size, 0, 2, rfl, by simp, by unfold maxLen; omega, by simp, fun i r hi j u hj => ?_⟩
  have hx := Box.new w #[a, b] t
  match i, hi with
  | 0, hi =>
    simp at hi; subst hi
    obtain rfl : j = 0 := by have := (List.getElem?_eq_some_iff.1 hj).1; simp at this; exact this
    simp at hj; subst hj
    exact (hx.cells 0 _ rfl)
  | 1, hi =>
    simp at hi; subst hi
    obtain rfl : j = 0 := by have := (List.getElem?_eq_some_iff.1 hj).1; simp at this; exact this
    simp at hj; subst hj
    exact (hx.cells 1 _ rfl)

set_option maxRecDepth 100000 in
set_option maxHeartbeats 8000000 in
theorem net_send (va vb : Value) (la lb : List Ltr) (w : World) (ha : Sl w 8 va (lcs la)) (hb : Sl w 8 vb (lcs lb)) (hl : la.length + lb.length ≤ 24) (oa : ∀ x ∈ la, OkL x) (ob : ∀ x ∈ lb, OkL x) :
    Calls Try.prog 30 #[va, vb] w (LOwn (la ++ lb) w) := by
  have HA := Lib.hid (fun W (hW : Evo w W) => net_check va la W (ha.at hW) (by omega) oa)
  have HB := Lib.hid (fun W (hW : Evo w W) => net_check vb lb W (hb.at hW) (by omega) ob)
  have HC := Lib.hid (fun W (hW : Evo w W) v (h : Sl W 1 v [[va], [vb]]) => concat_ltr v va vb (lcs la) (lcs lb) W h (ha.at hW) (hb.at hW) (lcs_len _) (lcs_len _) (lcs_one _) (lcs_one _) (by simp; omega))
  obtain ⟨A1, c1, rfl, p1, p2, -⟩ := ha.form
  obtain ⟨A2, c2, rfl, q1, q2, -⟩ := hb.form
  rw [List.length_map, List.length_map] at *
  have HM := Lib.hid (show lcs la ++ lcs lb = lcs (la ++ lb) by simp [lcs])
  have x0 : ∀ w, (Instr.index 102 (.agg #[.slice A1 la.length c1, .slice A2 lb.length c2]) (.int .i64 0)).run Try.prog w = .ok (.slice A1 la.length c1) w := fun _ => by kernel_rfl
  have x1 : ∀ w, (Instr.index 102 (.agg #[.slice A1 la.length c1, .slice A2 lb.length c2]) (.int .i64 1)).run Try.prog w = .ok (.slice A2 lb.length c2) w := fun _ => by kernel_rfl
  clear ha hb oa ob p1 p2 q1 q2
  go_enter Try.func30, Try.ntmps30
  go_wp2_with fail
  go_loopw [12] (fun n wr => (n = .int .i64 0 ∨ n = .int .i64 1 ∨ n = .int .i64 2) ∧ Evo w wr) (fun n _ => 2 - (intOf n).toNat)
  case atStart => exact ⟨.inl rfl, Evo.refl _⟩
  case round =>
    obtain ⟨hn, e1⟩ := hrel
    rcases hn with rfl | rfl | rfl
    · go_wp2_with fail
      with_reducible refine (HA.out _ e1).mono ?_
      rintro e u1 ⟨rfl, e2⟩
      have F := Lib.hid (e1.trans e2)
      go_wp2_with fail
      go_roundw
      case rel => exact ⟨.inr (.inl rfl), F.out⟩
      case measure => simp [intOf]
    · go_wp2_with fail
      with_reducible refine (HB.out _ e1).mono ?_
      rintro e u1 ⟨rfl, e2⟩
      have F := Lib.hid (e1.trans e2)
      go_wp2_with fail
      go_roundw
      case rel => exact ⟨.inr (.inr rfl), F.out⟩
      case measure => simp [intOf]
    · have hle : ¬ (24 : Int) < (la.length : Int) + (lb.length : Int) := by omega
      have l0 : (la.length : Int) ≤ 24 := by omega
      have l1 : (lb.length : Int) ≤ 24 := by omega
      have e2 := e1.alloc (.cells #[.slice A1 la.length c1, .slice A2 lb.length c2] 43)
      go_wp2_with fail
      with_reducible refine (HC.out _ e2 _ (Sl.two _ _ _ _)).mono ?_
      rintro e u1 ⟨v1, rfl, hown, e3⟩
      rw [HM.out] at hown
      have F := Lib.hid (And.intro (hown.low e2.size) (e2.trans e3))
      clear hown e3
      go_wp2_with fail
      go_ret2
      exact ⟨_, rfl, F.out⟩

set_option maxRecDepth 100000 in
set_option maxHeartbeats 8000000 in
theorem net_send_busy (va vb : Value) (la lb : List Ltr) (w : World) (ha : Sl w 8 va (lcs la)) (hb : Sl w 8 vb (lcs lb)) (h1 : la.length ≤ 24) (h2 : lb.length ≤ 24) (hl : 24 < la.length + lb.length) (oa : ∀ x ∈ la, OkL x) (ob : ∀ x ∈ lb, OkL x) :
    Calls Try.prog 30 #[va, vb] w (LErr 12 w) := by
  have HA := Lib.hid (fun W (hW : Evo w W) => net_check va la W (ha.at hW) (by omega) oa)
  have HB := Lib.hid (fun W (hW : Evo w W) => net_check vb lb W (hb.at hW) (by omega) ob)
  obtain ⟨A1, c1, rfl, p1, p2, -⟩ := ha.form
  obtain ⟨A2, c2, rfl, q1, q2, -⟩ := hb.form
  rw [List.length_map, List.length_map] at *
  have x0 : ∀ w, (Instr.index 102 (.agg #[.slice A1 la.length c1, .slice A2 lb.length c2]) (.int .i64 0)).run Try.prog w = .ok (.slice A1 la.length c1) w := fun _ => by kernel_rfl
  have x1 : ∀ w, (Instr.index 102 (.agg #[.slice A1 la.length c1, .slice A2 lb.length c2]) (.int .i64 1)).run Try.prog w = .ok (.slice A2 lb.length c2) w := fun _ => by kernel_rfl
  clear ha hb oa ob p1 p2 q1 q2
  go_enter Try.func30, Try.ntmps30
  go_wp2_with fail
  go_loopw [12] (fun n wr => (n = .int .i64 0 ∨ n = .int .i64 1 ∨ n = .int .i64 2) ∧ Evo w wr) (fun n _ => 2 - (intOf n).toNat)
  case atStart => exact ⟨.inl rfl, Evo.refl _⟩
  case round =>
    obtain ⟨hn, e1⟩ := hrel
    rcases hn with rfl | rfl | rfl
    · go_wp2_with fail
      with_reducible refine (HA.out _ e1).mono ?_
      rintro e u1 ⟨rfl, e2⟩
      have F := Lib.hid (e1.trans e2)
      go_wp2_with fail
      go_roundw
      case rel => exact ⟨.inr (.inl rfl), F.out⟩
      case measure => simp [intOf]
    · go_wp2_with fail
      with_reducible refine (HB.out _ e1).mono ?_
      rintro e u1 ⟨rfl, e2⟩
      have F := Lib.hid (e1.trans e2)
      go_wp2_with fail
      go_roundw
      case rel => exact ⟨.inr (.inr rfl), F.out⟩
      case measure => simp [intOf]
    · have hle : (24 : Int) < (la.length : Int) + (lb.length : Int) := by omega
      have l0 : (la.length : Int) ≤ 24 := by omega
      have l1 : (lb.length : Int) ≤ 24 := by omega
      go_wp2_with fail
      go_ret2
      exact ⟨rfl, e1⟩

end Go.Proofs.Ytpckomnpeainlab
