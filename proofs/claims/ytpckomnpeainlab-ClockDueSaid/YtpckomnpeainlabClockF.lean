/-
  Contracts of clock.Cancel, clock.Due and the law's own timers.
-/
import Derived.Test.YtpckomnpeainlabClockE
import Derived.Test.YtpckomnpeainlabTmrP
import Derived.Test.YtpckomnpeainlabSlTmrD
import Derived.Test.YtpckomnpeainlabRawSl
import Derived.Test.YtpckomnpeainlabPick
namespace Go.Proofs.Ytpckomnpeainlab
open Go.RowKit

attribute [local go_sem] Evo.refl Evo.alloc Evo.drew Evo.drewN

theorem eraseIdx_tcs : ∀ (l : List Tmr) (i : Nat), (tcs l).eraseIdx i = tcs (l.eraseIdx i)
  | [], i => by simp [tcs]
  | x :: l, 0 => by simp [tcs]
  | x :: l, i + 1 => by
    have := eraseIdx_tcs l i
    simp only [tcs, List.map_cons, List.eraseIdx_cons_succ] at this ⊢
    rw [this]
/-- Rows and no error; an error alone. -/
def RowsOr (l : List Tmr) (w : World) (e : Ending) (w' : World) : Prop := ∃ v, e = .returned (.tuple #[v, .int .i64 0]) ∧ Sl w' 2 v (tcs l) ∧ Evo w w'
def ErrE (q : Int) (w : World) (e : Ending) (w' : World) : Prop := e = .returned (.tuple #[.slice none 0 0, .int .i64 q]) ∧ Evo w w'

set_option maxRecDepth 100000 in
set_option maxHeartbeats 4000000 in
theorem cancel_none (v : Value) (l : List Tmr) (id : Int) (w : World) (h : Sl w 2 v (tcs l)) (hok : OkT l) (hn : ∀ x ∈ l, x.id ≠ id) :
    Calls Try.prog 19 #[v, .int .i64 id] w (ErrE 5 w) := by
  have hq := idxT_lt hn
  have hl := hok.wk.len
  have HC := Lib.hid (fun W (hW : Evo w W) => check_any v l W (h.at hW) (by omega))
  have HI := Lib.hid (fun W (hW : Evo w W) => index_any v l id W (h.at hW) (by omega))
  rw [chk_ok hok] at HC
  generalize idxT id l = q at *
  clear h hn hok
  go_enter Try.func19, Try.ntmps19
  go_wp2_with fail
  with_reducible refine (HC.out _ (Evo.refl _)).mono ?_
  rintro e u1 ⟨rfl, hb⟩
  have e1 : Evo w u1 := ⟨hb⟩
  clear hb
  go_wp2_with fail
  with_reducible refine (HI.out _ e1).mono ?_
  rintro e u2 ⟨rfl, hb⟩
  have e2 : Evo w u2 := e1.trans ⟨hb⟩
  clear hb
  go_wp2_with fail
  go_ret2
  exact ⟨rfl, e2⟩

set_option maxRecDepth 100000 in
set_option maxHeartbeats 4000000 in
theorem cancel_some (v : Value) (l : List Tmr) (id : Int) (i : Nat) (w : World) (h : Sl w 2 v (tcs l)) (hok : OkT l) (hi : idxT id l = i) (hil : i < l.length) :
    Calls Try.prog 19 #[v, .int .i64 id] w (RowsOr (l.eraseIdx i) w) := by
  have hl := hok.wk.len
  have HC := Lib.hid (fun W (hW : Evo w W) => check_any v l W (h.at hW) (by omega))
  have HI := Lib.hid (fun W (hW : Evo w W) => index_any v l id W (h.at hW) (by omega))
  have HL := Lib.hid (fun W (hW : Evo w W) => clone_tmr v (tcs l) W (h.at hW) (tcs_len _) (tcs_one _) (by simp; omega))
  have HE := Lib.hid (eraseIdx_tcs l i)
  obtain ⟨p, hp⟩ : ∃ p, l.length = p + 1 := ⟨l.length - 1, by omega⟩
  have HP := Lib.hid (show (tcs l).length = p + 1 by simpa using hp)
  have hip : i ≤ p := by omega
  have hp2 : p ≤ 20 := by omega
  have hel : (l.eraseIdx i).length ≤ 20 := by rw [List.length_eraseIdx]; split <;> omega
  rw [chk_ok hok] at HC
  rw [hi] at HI
  clear h hok hi hil hp hl
  go_enter Try.func19, Try.ntmps19
  go_wp2_with fail
  with_reducible refine (HC.out _ (Evo.refl _)).mono ?_
  rintro e u1 ⟨rfl, hb⟩
  have e1 : Evo w u1 := ⟨hb⟩
  clear hb
  go_wp2_with fail
  with_reducible refine (HI.out _ e1).mono ?_
  rintro e u2 ⟨rfl, hb⟩
  have e2 : Evo w u2 := e1.trans ⟨hb⟩
  clear hb e1
  go_wp2_with fail
  with_reducible refine (HL.out _ e2).mono ?_
  rintro e u3 ⟨v1, rfl, hown, e3⟩
  have hd := delete_tmr v1 (tcs l) i p u3 u2 e3 hown (tcs_len _) (tcs_one _) HP.out hip (by omega)
  have HD := Lib.hid hd
  have e4 := e2.trans e3
  clear hd hown e3
  go_wp2_with fail
  with_reducible refine (HD.out).mono ?_
  rintro e u4 ⟨v2, rfl, hs, e5⟩
  rw [HE.out] at hs
  have hc := clone_tmr v2 (tcs (l.eraseIdx i)) u4 hs (tcs_len _) (tcs_one _) (by simp; omega)
  have HF := Lib.hid hc
  have e6 := e2.trans e5
  clear hc hs e5
  go_wp2_with fail
  with_reducible refine (HF.out).mono ?_
  rintro e u5 ⟨v3, rfl, hown, e7⟩
  have hf := Lib.hid (And.intro (Sl.of_own (tcs_len _) hown) (e6.trans e7))
  clear hown e7 e6
  go_wp2_with fail
  go_ret2
  exact ⟨_, rfl, hf.out⟩

/-- The due ones, and the others. -/
def DuePost (l : List Tmr) (now : Int) (w : World) (e : Ending) (w' : World) : Prop :=
  ∃ v v', e = .returned (.tuple #[v, v', .int .i64 0]) ∧ Sl w' 2 v (tcs (l.take (dueN l now))) ∧ Sl w' 2 v' (tcs (l.drop (dueN l now))) ∧ Evo w w'

set_option maxRecDepth 100000 in
set_option maxHeartbeats 4000000 in
theorem due_any (v : Value) (l : List Tmr) (now : Int) (w : World) (h : Sl w 2 v (tcs l)) (hok : OkT l) :
    Calls Try.prog 21 #[v, .int .i64 now] w (DuePost l now w) := by
  have hl := hok.wk.len
  have HC := Lib.hid (fun W (hW : Evo w W) => check_any v l W (h.at hW) (by omega))
  rw [chk_ok hok] at HC
  have hlo : ∀ i x, i < dueN l now → l[i]? = some x → x.at' ≤ now := fun i x hi hx => by simpa using tw_lo _ l i x hi hx
  have hhi : ∀ x, l[dueN l now]? = some x → now < x.at' := fun x hx => by simpa using tw_hi _ l x hx
  have hnl := dueN_le l now
  obtain ⟨A, cap, rfl, hcap, hmax, -⟩ := h.form
  have HR := Lib.hid h
  have HT := Lib.hid (h.take (dueN l now) (by simpa using hnl))
  obtain ⟨A', eA, hd⟩ := h.drop' (dueN l now) (by simpa using hnl)
  have HD := Lib.hid hd
  have ep : tcs (l.take (dueN l now)) = (tcs l).take (dueN l now) := by simp [tcs, List.map_take]
  have eq : tcs (l.drop (dueN l now)) = (tcs l).drop (dueN l now) := by simp [tcs, List.map_drop]
  have HP := Lib.hid ep
  have HQ := Lib.hid eq
  rw [List.length_map] at *
  generalize hn : dueN l now = n at *
  have HLO := Lib.hid hlo
  have HHI := Lib.hid hhi
  have HN := Lib.hid hn
  clear h hok hlo hhi hd ep eq hn
  go_enter Try.func21, Try.ntmps21
  go_wp2_with fail
  with_reducible refine (HC.out _ (Evo.refl _)).mono ?_
  rintro e u1 ⟨rfl, hb⟩
  have e1 : Evo w u1 := ⟨hb⟩
  clear hb
  go_wp2_with fail
  go_loopw [8] (fun n' wr => ∃ k : Nat, k ≤ n ∧ n' = .int .i64 k ∧ Evo w wr) (fun n' _ => n - (intOf n').toNat)
  case atStart => exact ⟨0, Nat.zero_le _, rfl, e1⟩
  case round =>
    obtain ⟨k, hk, rfl, hb⟩ := hrel
    clear e1
    by_cases hkl : k < l.length
    · obtain ⟨x, hd⟩ : ∃ x, l[k]? = some x := ⟨_, List.getElem?_eq_getElem hkl⟩
      obtain ⟨b, off, rfl, hbl, hc⟩ := HR.out.row (i := k) (r := x.cells) (by rw [List.getElem?_map, hd]; rfl)
      have c0 : ∀ W, Evo w W → W.cell? ⟨b, off + k * 2, none⟩ = some _ := hc 0 _ rfl
      have c1 : ∀ W, Evo w W → W.cell? ⟨b, off + k * 2 + 1, none⟩ = some _ := hc 1 _ rfl
      have HX := Lib.hid hd
      clear hc hd
      by_cases hkn : k < n
      · have hx := HLO.out k x hkn HX.out
        go_wp2_with fail
        go_roundw
        case rel => exact ⟨k + 1, by omega, by go_num, by (first | assumption | (exact Evo.drew (Evo.refl _)) | (exact Evo.drew (by assumption)) | (exact Evo.drewN (by assumption) _) | (exact Evo.drewN (Evo.refl _) _) | (exact Evo.trans (by assumption) ⟨by assumption⟩) | (exact Evo.alloc (by assumption) _) | (exact Evo.trans (by assumption) hE))⟩
        case measure => simp [intOf]; omega
      · obtain rfl : k = n := by omega
        have hx := HHI.out x HX.out
        have hck : ¬ cap = k := by omega
        rw [if_neg hck, Option.map_some, addr_add] at eA
        subst eA
        have n0 : (0 : Int) ≤ (k : Int) := by omega
        have n2 : (k : Int) ≤ (cap : Int) := by omega
        have n3 : (k : Int) ≤ (l.length : Int) := by omega
        go_wp2_with fail
        obtain ⟨wo, rfl⟩ : ∃ wo : World, wo = wr := ⟨_, rfl⟩
        go_region_held3 (fun W => Evo wo W) (first | assumption | (exact Evo.drew (Evo.refl _)) | (exact Evo.drew (by assumption)) | (exact Evo.drewN (by assumption) _) | (exact Evo.drewN (Evo.refl _) _) | (exact Evo.trans (by assumption) ⟨by assumption⟩) | (exact Evo.alloc (by assumption) _) | (exact Evo.trans (by assumption) hE))
          (first
            | (go_at_call 47; refine (clone_tmr (.slice (some ⟨b, off, none⟩) k cap) _ _ (HT.out.at (hb.trans (by assumption))) (by rw [← HP.out]; exact tcs_len _) (by rw [← HP.out]; exact tcs_one _) (by simp; omega)).mono ?_; rintro e w' ⟨v1, rfl, hown1, hE⟩; replace hown1 := Sl.of_own (by rw [← HP.out]; exact tcs_len _) hown1)
            | (go_at_call 47; refine (clone_tmr (.slice (some ⟨b, off + k * 2, none⟩) (l.length - k) (cap - k)) _ _ (HD.out.at (hb.trans (by assumption))) (by rw [← HQ.out]; exact tcs_len _) (by rw [← HQ.out]; exact tcs_one _) (by simp; omega)).mono ?_; rintro e w' ⟨v2, rfl, hown2, hE⟩; replace hown2 := Sl.of_own (by rw [← HQ.out]; exact tcs_len _) hown2))
        all_goals
          have f1 : Sl w' 2 v1 (tcs (l.take k)) := by
            rw [HP.out]
            first | exact hown1 | exact hown1.at hE
          have f2 : Sl w' 2 v2 (tcs (l.drop k)) := by
            rw [HQ.out]
            first | exact hown2 | exact hown2.at hE
          have f3 : Evo w w' := hb.trans (by assumption)
          rw [← HN.out] at f1 f2
          have F := Lib.hid (And.intro f1 (And.intro f2 f3))
          clear f1 f2 f3 hown1 hown2
          go_wp2_with fail
          go_ret3
          exact ⟨_, _, rfl, F.out⟩
    · obtain rfl : k = n := by omega
      have n0 : (0 : Int) ≤ (k : Int) := by omega
      have n2 : (k : Int) ≤ (cap : Int) := by omega
      have n3 : (k : Int) ≤ (l.length : Int) := by omega
      go_wp2_with fail
      obtain ⟨wo, rfl⟩ : ∃ wo : World, wo = wr := ⟨_, rfl⟩
      go_region_held3 (fun W => Evo wo W) (first | assumption | (exact Evo.drew (Evo.refl _)) | (exact Evo.drew (by assumption)) | (exact Evo.drewN (by assumption) _) | (exact Evo.drewN (Evo.refl _) _) | (exact Evo.trans (by assumption) ⟨by assumption⟩) | (exact Evo.alloc (by assumption) _) | (exact Evo.trans (by assumption) hE))
        (first
          | (go_at_call 47; refine (clone_tmr (.slice A k cap) _ _ (HT.out.at (hb.trans (by assumption))) (by rw [← HP.out]; exact tcs_len _) (by rw [← HP.out]; exact tcs_one _) (by simp; omega)).mono ?_; rintro e w' ⟨v1, rfl, hown1, hE⟩; replace hown1 := Sl.of_own (by rw [← HP.out]; exact tcs_len _) hown1)
          | (go_at_call 47; refine (clone_tmr (.slice A' (l.length - k) (cap - k)) _ _ (HD.out.at (hb.trans (by assumption))) (by rw [← HQ.out]; exact tcs_len _) (by rw [← HQ.out]; exact tcs_one _) (by simp; omega)).mono ?_; rintro e w' ⟨v2, rfl, hown2, hE⟩; replace hown2 := Sl.of_own (by rw [← HQ.out]; exact tcs_len _) hown2))
      all_goals
        have f1 : Sl w' 2 v1 (tcs (l.take k)) := by
          rw [HP.out]
          first | exact hown1 | exact hown1.at hE
        have f2 : Sl w' 2 v2 (tcs (l.drop k)) := by
          rw [HQ.out]
          first | exact hown2 | exact hown2.at hE
        have f3 : Evo w w' := hb.trans (by assumption)
        rw [← HN.out] at f1 f2
        have F := Lib.hid (And.intro f1 (And.intro f2 f3))
        clear f1 f2 f3 hown1 hown2
        go_wp2_with fail
        go_ret3
        exact ⟨_, _, rfl, F.out⟩

end Go.Proofs.Ytpckomnpeainlab
