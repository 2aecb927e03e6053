/-
  Contract of clock.Check.
-/
import Derived.Test.YtpckomnpeainlabClockB
import Derived.Test.YtpckomnpeainlabEvo
import Derived.Deep.RegionHeld3
namespace Go.Proofs.Ytpckomnpeainlab
open Go.RowKit

/-- What is wrong with timer j of l; 0: nothing. -/
def badT (l : List Tmr) (j : Nat) : Int := match l[j]? with
  | none => 0
  | some t => if t.id < 1 then 4 else if t.at' < 0 then 4 else if 1073741824 < t.at' then 4 else if 0 ≤ idxT t.id (l.take j) then 6 else if 0 < j ∧ 0 < cmpT (l.getD (j - 1) t) t then 15 else 0

def chkT (l : List Tmr) : Int := if 20 < l.length then 1 else match (List.range l.length).find? (fun j => badT l j != 0) with | none => 0 | some j => badT l j

theorem chk_first (l : List Tmr) (k : Nat) (e : Int) (hl : l.length ≤ 20) (hk : k < l.length) (hno : ∀ j, j < k → badT l j = 0) (he : badT l k = e) (h0 : e ≠ 0) : chkT l = e := by
  unfold chkT
  rw [if_neg (by omega)]
  have : (List.range l.length).find? (fun j => badT l j != 0) = some k := by
    rw [List.find?_range_eq_some]
    refine ⟨by simp [he, h0], List.mem_range.2 hk, fun j hj => by simp [hno j hj]⟩
  rw [this]
  exact he
theorem chk_none (l : List Tmr) (hl : l.length ≤ 20) (hno : ∀ j, j < l.length → badT l j = 0) : chkT l = 0 := by
  unfold chkT
  rw [if_neg (by omega)]
  have : (List.range l.length).find? (fun j => badT l j != 0) = none := by
    rw [List.find?_range_eq_none]
    intro j hj
    simp [hno j hj]
  rw [this]
theorem chk_many (l : List Tmr) (hl : 20 < l.length) : chkT l = 1 := by unfold chkT; rw [if_pos hl]

theorem bad_range {l : List Tmr} {k : Nat} {x : Tmr} (hd : l[k]? = some x) (h : x.id < 1 ∨ x.at' < 0 ∨ 1073741824 < x.at') : badT l k = 4 := by
  unfold badT; rw [hd]; simp only
  split
  · rfl
  · split
    · rfl
    · split
      · rfl
      · omega
theorem bad_twice {l : List Tmr} {k : Nat} {x : Tmr} (hd : l[k]? = some x) (h1 : 1 ≤ x.id) (h2 : 0 ≤ x.at') (h3 : x.at' ≤ 1073741824) (h : 0 ≤ idxT x.id (l.take k)) : badT l k = 6 := by
  unfold badT; rw [hd]; simp only
  rw [if_neg (by omega), if_neg (by omega), if_neg (by omega), if_pos h]
theorem bad_order {l : List Tmr} {k : Nat} {x y : Tmr} (hd : l[k + 1]? = some x) (hy : l[k]? = some y) (h1 : 1 ≤ x.id) (h2 : 0 ≤ x.at') (h3 : x.at' ≤ 1073741824) (h : idxT x.id (l.take (k + 1)) < 0) (h4 : 0 < cmpT y x) : badT l (k + 1) = 15 := by
  unfold badT; rw [hd]; simp only
  rw [if_neg (by omega), if_neg (by omega), if_neg (by omega), if_neg (by omega), if_pos]
  refine ⟨by omega, ?_⟩
  rw [Nat.add_sub_cancel, List.getD_eq_getElem?_getD, hy]; exact h4
theorem bad_no {l : List Tmr} {k : Nat} {x y : Tmr} (hd : l[k + 1]? = some x) (hy : l[k]? = some y) (h1 : 1 ≤ x.id) (h2 : 0 ≤ x.at') (h3 : x.at' ≤ 1073741824) (h : idxT x.id (l.take (k + 1)) < 0) (h4 : ¬ 0 < cmpT y x) : badT l (k + 1) = 0 := by
  unfold badT; rw [hd]; simp only
  rw [if_neg (by omega), if_neg (by omega), if_neg (by omega), if_neg (by omega), if_neg]
  rintro ⟨-, h5⟩
  rw [Nat.add_sub_cancel, List.getD_eq_getElem?_getD, hy] at h5; exact h4 h5
theorem bad_no0 {l : List Tmr} {x : Tmr} (hd : l[0]? = some x) (h1 : 1 ≤ x.id) (h2 : 0 ≤ x.at') (h3 : x.at' ≤ 1073741824) (h : idxT x.id (l.take 0) < 0) : badT l 0 = 0 := by
  unfold badT; rw [hd]; simp only
  rw [if_neg (by omega), if_neg (by omega), if_neg (by omega), if_neg (by omega), if_neg]
  rintro ⟨h5, -⟩; omega

attribute [local go_sem] Evo.refl Evo.alloc Evo.drew Evo.drewN

set_option maxRecDepth 100000 in
set_option maxHeartbeats 4000000 in
theorem check_any (v : Value) (l : List Tmr) (w : World) (h : Sl w 2 v (l.map Tmr.cells)) (hl : l.length ≤ 9223372036854775806) :
    Calls Try.prog 16 #[v] w (Gives (.int .i64 (chkT l)) w) := by
  obtain ⟨A, cap, rfl, hcap, -⟩ := h.form
  rw [List.length_map] at *
  have HR := Lib.hid h
  clear h
  by_cases h20 : 20 < l.length
  · have HE := Lib.hid (chk_many l h20)
    go_enter Try.func16, Try.ntmps16
    go_wp2_with fail
    go_ret
    exact ⟨ret_ix (by rw [HE.out]), Below.refl _ _⟩
  · have HF := Lib.hid (chk_first l)
    have HN := Lib.hid (chk_none l)
    go_enter Try.func16, Try.ntmps16
    go_wp2_with fail
    go_loopw [10] (fun n wr => ∃ k : Nat, k ≤ l.length ∧ n = .int .i64 k ∧ (∀ j, j < k → badT l j = 0) ∧ Evo w wr) (fun n _ => l.length - (intOf n).toNat)
    case atStart => exact ⟨0, Nat.zero_le _, rfl, by simp, Evo.refl _⟩
    case round =>
      obtain ⟨k, hk, rfl, hno, hb⟩ := hrel
      by_cases hlt : k < l.length
      · obtain ⟨x, hd⟩ : ∃ x, l[k]? = some x := ⟨_, List.getElem?_eq_getElem hlt⟩
        obtain ⟨b, off, rfl, hbl, hc⟩ := HR.out.row (i := k) (r := x.cells) (by rw [List.getElem?_map, hd]; rfl)
        have c0 : ∀ W, Evo w W → W.cell? ⟨b, off + k * 2, none⟩ = some _ := hc 0 _ rfl
        have c1 : ∀ W, Evo w W → W.cell? ⟨b, off + k * 2 + 1, none⟩ = some _ := hc 1 _ rfl
        have HC := Lib.hid hc
        have HNO := Lib.hid hno
        have HD := Lib.hid hd
        clear hc hno hd
        rcases (by omega : x.id < 1 ∨ 1 ≤ x.id) with h1 | h1
        · have HE := Lib.hid (HF.out k 4 (by omega) hlt HNO.out (bad_range HD.out (.inl h1)) (by decide))
          go_wp2_with fail
          go_ret
          exact ⟨ret_ix (by rw [HE.out]), (hb.alloc _).below⟩
        rcases (by omega : x.at' < 0 ∨ 0 ≤ x.at') with h2 | h2
        · have HE := Lib.hid (HF.out k 4 (by omega) hlt HNO.out (bad_range HD.out (.inr (.inl h2))) (by decide))
          go_wp2_with fail
          go_ret
          exact ⟨ret_ix (by rw [HE.out]), (hb.alloc _).below⟩
        rcases (by omega : 1073741824 < x.at' ∨ x.at' ≤ 1073741824) with h3 | h3
        · have HE := Lib.hid (HF.out k 4 (by omega) hlt HNO.out (bad_range HD.out (.inr (.inr h3))) (by decide))
          go_wp2_with fail
          go_ret
          exact ⟨ret_ix (by rw [HE.out]), (hb.alloc _).below⟩
        have HI := Lib.hid (fun W (h : Evo w W) => (index_any (.slice (some ⟨b, off, none⟩) k cap) (l.take k) x.id W (by have := (HR.out.take k (by simp; omega)).at h; rwa [← List.map_take] at this) (by simp; omega)))
        have hx0 := (Evo.refl (wr.alloc (.cells #[.int .i64 x.id, .int .i64 x.at'] 27))).cell (b := wr.heap.size) (o := 0) (by simp) (World.cell?_alloc_at _ _ _ _ rfl)
        have t0 : ∀ W, Evo (wr.alloc (.cells #[.int .i64 x.id, .int .i64 x.at'] 27)) W → W.cell? ⟨wr.heap.size, 0, none⟩ = some (.int .i64 x.id) := fun W h => h.cell (by simp) (World.cell?_alloc_at _ _ _ _ rfl)
        have t1 : ∀ W, Evo (wr.alloc (.cells #[.int .i64 x.id, .int .i64 x.at'] 27)) W → W.cell? ⟨wr.heap.size, 1, none⟩ = some (.int .i64 x.at') := fun W h => h.cell (by simp) (World.cell?_alloc_at _ _ _ _ rfl)
        have tw : ∀ W, Evo (wr.alloc (.cells #[.int .i64 x.id, .int .i64 x.at'] 27)) W → Evo w W := fun W h => (hb.alloc _).trans h
        clear hx0
        have ik0 : (0 : Int) ≤ (k : Int) := by omega
        have ik1 : (k : Int) ≤ (cap : Int) := by omega
        generalize hq : idxT x.id (l.take k) = q at *
        have HQ := Lib.hid hq
        clear hq
        rcases (by omega : 0 ≤ q ∨ q < 0) with h4 | h4
        · have HE := Lib.hid (HF.out k 6 (by omega) hlt HNO.out (bad_twice HD.out h1 h2 h3 (by rw [HQ.out]; exact h4)) (by decide))
          go_wp2_with fail
          generalize wr.alloc (.cells #[.int .i64 x.id, .int .i64 x.at'] 27) = V at *
          go_region_held3 (fun W => Evo V W) (first | assumption | (exact Evo.drew (Evo.refl _)) | (exact Evo.drew (by assumption)) | (exact Evo.drewN (by assumption) _) | (exact Evo.drewN (Evo.refl _) _) | (exact Evo.trans (by assumption) ⟨by assumption⟩) | (exact Evo.alloc (by assumption) _) | (exact Evo.trans (by assumption) hE))
            (first | (go_at_call 44; refine (HI.out _ (tw _ (by assumption))).mono ?_; rintro e w' ⟨rfl, hw'⟩))
          go_wp2_with fail
          go_ret
          exact ⟨ret_ix (by rw [HE.out]), (tw _ (by assumption)).below⟩
        rcases k with _ | m
        · simp only [Nat.zero_mul, Nat.add_zero] at c0 c1
          have HE := Lib.hid (bad_no0 HD.out h1 h2 h3 (by rw [HQ.out]; exact h4))
          go_wp2_with fail
          generalize wr.alloc (.cells #[.int .i64 x.id, .int .i64 x.at'] 27) = V at *
          go_region_held3 (fun W => Evo V W) (first | assumption | (exact Evo.drew (Evo.refl _)) | (exact Evo.drew (by assumption)) | (exact Evo.drewN (by assumption) _) | (exact Evo.drewN (Evo.refl _) _) | (exact Evo.trans (by assumption) ⟨by assumption⟩) | (exact Evo.alloc (by assumption) _) | (exact Evo.trans (by assumption) hE))
            (first | (go_at_call 44; refine (HI.out _ (tw _ (by assumption))).mono ?_; rintro e w' ⟨rfl, hw'⟩))
          go_wp2_with fail
          go_quiet (fail)
          go_wp2_with fail
          go_roundw
          case rel => exact ⟨1, by omega, rfl, fun j hj => by rw [show j = 0 by omega]; exact HE.out, (tw _ (by (first | assumption | (exact Evo.drew (Evo.refl _)) | (exact Evo.drew (by assumption)) | (exact Evo.drewN (by assumption) _) | (exact Evo.drewN (Evo.refl _) _) | (exact Evo.trans (by assumption) ⟨by assumption⟩) | (exact Evo.alloc (by assumption) _) | (exact Evo.trans (by assumption) hE))))⟩
          case measure => simp [intOf]; omega
        · obtain ⟨y, hy⟩ : ∃ y, l[m]? = some y := ⟨_, List.getElem?_eq_getElem (by omega)⟩
          obtain ⟨b', off', e', hbl', hc'⟩ := HR.out.row (i := m) (r := y.cells) (by rw [List.getElem?_map, hy]; rfl)
          simp at e'
          obtain ⟨rfl, rfl⟩ := e'
          have d0 : ∀ W, Evo w W → W.cell? ⟨b, off + m * 2, none⟩ = some _ := hc' 0 _ rfl
          have d1 : ∀ W, Evo w W → W.cell? ⟨b, off + m * 2 + 1, none⟩ = some _ := hc' 1 _ rfl
          have HY := Lib.hid hy
          clear hc' hy
          have wm : IntKind.i64.wrap (((m + 1 : Nat) : Int) - 1) = m := by rw [IntWalk.i64_in _ (by omega)]; omega
          have wm' : IntKind.i64.wrap (m : Int) = m := IntWalk.i64_in _ (by omega)
          have wm2 : IntKind.i64.wrap ((m : Int) + 1 - 1) = m := by rw [IntWalk.i64_in _ (by omega)]; omega
          have im0 : (0 : Int) ≤ (m : Int) := by omega
          have im2 : (0 : Int) ≤ (m : Int) + 1 := by omega
          have im3 : (m : Int) + 1 ≤ (cap : Int) := by omega
          have im1 : (m : Int) < (l.length : Int) := by omega
          generalize hp : cmpT y x = p at *
          have HP := Lib.hid hp
          clear hp
          rcases (by omega : 0 < p ∨ p ≤ 0) with h5 | h5
          · have HE := Lib.hid (HF.out (m + 1) 15 (by omega) hlt HNO.out (bad_order HD.out HY.out h1 h2 h3 (by rw [HQ.out]; exact h4) (by rw [HP.out]; exact h5)) (by decide))
            go_wp2_with fail
            generalize wr.alloc (.cells #[.int .i64 x.id, .int .i64 x.at'] 27) = V at *
            go_region_held3 (fun W => Evo V W) (first | assumption | (exact Evo.drew (Evo.refl _)) | (exact Evo.drew (by assumption)) | (exact Evo.drewN (by assumption) _) | (exact Evo.drewN (Evo.refl _) _) | (exact Evo.trans (by assumption) ⟨by assumption⟩) | (exact Evo.alloc (by assumption) _) | (exact Evo.trans (by assumption) hE))
              (first | (go_at_call 44; refine (HI.out _ (tw _ (by assumption))).mono ?_; rintro e w' ⟨rfl, hw'⟩))
            go_wp2_with fail
            go_region_held3 (fun W => Evo V W) (first | assumption | (exact Evo.drew (Evo.refl _)) | (exact Evo.drew (by assumption)) | (exact Evo.drewN (by assumption) _) | (exact Evo.drewN (Evo.refl _) _) | (exact Evo.trans (by assumption) ⟨by assumption⟩) | (exact Evo.alloc (by assumption) _) | (exact Evo.trans (by assumption) hE))
              (first | (go_at_call 45; refine (compare_any y x _).mono ?_; rw [HP.out]; rintro e w' ⟨rfl, hw'⟩))
            go_wp2_with fail
            go_ret
            exact ⟨ret_ix (by rw [HE.out]), (tw _ (by assumption)).below⟩
          · have HE := Lib.hid (bad_no HD.out HY.out h1 h2 h3 (by rw [HQ.out]; exact h4) (by rw [HP.out]; omega))
            go_wp2_with fail
            generalize wr.alloc (.cells #[.int .i64 x.id, .int .i64 x.at'] 27) = V at *
            go_region_held3 (fun W => Evo V W) (first | assumption | (exact Evo.drew (Evo.refl _)) | (exact Evo.drew (by assumption)) | (exact Evo.drewN (by assumption) _) | (exact Evo.drewN (Evo.refl _) _) | (exact Evo.trans (by assumption) ⟨by assumption⟩) | (exact Evo.alloc (by assumption) _) | (exact Evo.trans (by assumption) hE))
              (first | (go_at_call 44; refine (HI.out _ (tw _ (by assumption))).mono ?_; rintro e w' ⟨rfl, hw'⟩))
            go_wp2_with fail
            go_region_held3 (fun W => Evo V W) (first | assumption | (exact Evo.drew (Evo.refl _)) | (exact Evo.drew (by assumption)) | (exact Evo.drewN (by assumption) _) | (exact Evo.drewN (Evo.refl _) _) | (exact Evo.trans (by assumption) ⟨by assumption⟩) | (exact Evo.alloc (by assumption) _) | (exact Evo.trans (by assumption) hE))
              (first | (go_at_call 45; refine (compare_any y x _).mono ?_; rw [HP.out]; rintro e w' ⟨rfl, hw'⟩))
            go_wp2_with fail
            go_roundw
            case rel => exact ⟨m + 1 + 1, by omega, by go_num, fun j hj => by
              rcases (by omega : j < m + 1 ∨ j = m + 1) with h | h
              · exact HNO.out j h
              · rw [h]; exact HE.out, (tw _ (by (first | assumption | (exact Evo.drew (Evo.refl _)) | (exact Evo.drew (by assumption)) | (exact Evo.drewN (by assumption) _) | (exact Evo.drewN (Evo.refl _) _) | (exact Evo.trans (by assumption) ⟨by assumption⟩) | (exact Evo.alloc (by assumption) _) | (exact Evo.trans (by assumption) hE))))⟩
            case measure => simp [intOf]; omega
      · have hkn : k = l.length := by omega
        subst hkn
        have HE := Lib.hid (HN.out (by omega) hno)
        clear hno
        go_wp2_with fail
        go_ret
        exact ⟨ret_ix (by rw [HE.out]), hb.below⟩

end Go.Proofs.Ytpckomnpeainlab
