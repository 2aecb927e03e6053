/-
  Contracts of package clock, first part: the index of a timer.
-/
import Derived.Test.YtpckomnpeainlabEvo
import Derived.IntWalk
namespace Go.Proofs.Ytpckomnpeainlab
open Go.RowKit

/-- A timer: its number, its time. -/
structure Tmr where
  id : Int
  at' : Int

@[reducible] def Tmr.cells (x : Tmr) : List Value := [.int .i64 x.id, .int .i64 x.at']

theorem ret_ix {a b : Int} (h : a = b) : Ending.returned (.int .i64 a) = .returned (.int .i64 b) := by rw [h]

/-- The place of a number; none: -1. -/
def idxT (id : Int) (l : List Tmr) : Int := match l.findIdx? (fun x => x.id == id) with | some k => k | none => -1

set_option maxHeartbeats 2000000 in
theorem timer_is (x : Tmr) (id : Int) (B : Nat) (w : World) (hB : B < w.heap.size) (hc : w.cell? ⟨B, 0, none⟩ = some (.int .i64 id)) :
    Calls Try.prog 71 #[.agg #[.int .i64 x.id, .int .i64 x.at'], .pointer (some ⟨B, 0, none⟩)] w (Gives (.bool (x.id == id)) w) := by
  have bx1 := Box.new w #[.int .i64 x.id, .int .i64 x.at'] 27
  have BX1 := Lib.hid bx1
  clear bx1
  have bw := (Below.refl w.heap.size w).alloc (Nat.le_refl _) (.cells #[.int .i64 x.id, .int .i64 x.at'] 27)
  have BW := Lib.hid bw
  clear bw
  go_enter Try.func71, Try.ntmps71
  have hx := BX1.out
  have hw := BW.out
  clear BX1 BW
  have x0 := hx.cells 0 _ rfl
  have x1 := hx.cells 1 _ rfl
  go_wp2_with fail
  go_ret
  exact ⟨rfl, hw⟩

theorem idx_found (id : Int) : ∀ (l : List Tmr) (k : Nat) (x : Tmr), (∀ y ∈ l.take k, (y.id == id) = false) → l[k]? = some x → (x.id == id) = true → idxT id l = k
  | [], k, x, _, h, _ => by simp at h
  | y :: l, 0, x, _, h, hx => by
    simp at h; subst h
    simp [idxT, List.findIdx?_cons, hx]
  | y :: l, k + 1, x, ha, h, hx => by
    have hy := ha y (by simp)
    have ih := idx_found id l k x (fun z hz => ha z (by simp [hz])) (by simpa using h) hx
    unfold idxT at ih ⊢
    rw [List.findIdx?_cons, hy]
    cases e : l.findIdx? (fun x => x.id == id) with
    | none => rw [e] at ih; simp at ih <;> omega
    | some j => rw [e] at ih; simp at ih ⊢; omega
theorem idx_none (id : Int) (l : List Tmr) (h : ∀ y ∈ l, (y.id == id) = false) : idxT id l = -1 := by
  unfold idxT
  rw [List.findIdx?_eq_none_iff.2 h]

set_option maxRecDepth 100000 in
set_option maxHeartbeats 4000000 in
theorem indexFunc_any (v : Value) (l : List Tmr) (id : Int) (B : Nat) (w : World) (h : Sl w 2 v (l.map Tmr.cells)) (hl : l.length ≤ 9223372036854775806) (hB : B < w.heap.size) (hc : w.cell? ⟨B, 0, none⟩ = some (.int .i64 id)) :
    Calls Try.prog 50 #[v, .func (.func 71) #[] #[.pointer (some ⟨B, 0, none⟩)]] w (Gives (.int .i64 (idxT id l)) w) := by
  obtain ⟨A, cap, rfl, hcap, -⟩ := h.form
  have HR := Lib.hid h
  rw [List.length_map] at *
  have hr := h
  have HC := Lib.hid hc
  have HI := Lib.hid (idx_found id l)
  have HN := Lib.hid (idx_none id l)
  clear hr h hc
  go_enter Try.func50, Try.ntmps50
  go_wp2_with fail
  go_loopw [8] (fun n wr => ∃ k : Nat, k ≤ l.length ∧ n = .int .i64 k ∧ (∀ y ∈ l.take k, (y.id == id) = false) ∧ Below w.heap.size w wr) (fun n _ => l.length - (intOf n).toNat)
  case atStart => exact ⟨0, Nat.zero_le _, rfl, by simp, Below.refl _ _⟩
  case round =>
    obtain ⟨k, hk, rfl, hno, hb⟩ := hrel
    by_cases hlt : k < l.length
    · obtain ⟨x, hd⟩ : ∃ x, l[k]? = some x := ⟨_, List.getElem?_eq_getElem hlt⟩
      have htk := take_snoc' l k x hd
      obtain ⟨b, off, rfl, hbl, hc⟩ := HR.out.row (i := k) (r := x.cells) (by rw [List.getElem?_map, hd]; rfl)
      have c0 : wr.cell? ⟨b, off + k * 2, none⟩ = some _ := hc 0 _ rfl wr ⟨hb⟩
      have c1 : _ = some _ := hc 1 _ rfl wr ⟨hb⟩
      have hcap' := (hb.cell (p := ⟨B, 0, none⟩) hB).trans HC.out
      have hB' : B < wr.heap.size := Nat.lt_of_lt_of_le hB hb.size
      have HT := Lib.hid (timer_is x id B wr hB' hcap')
      have HB := Lib.hid hb
      clear hcap' hc hb
      cases hx : x.id == id with
      | true =>
        have HE := Lib.hid (HI.out k x hno hd hx)
        have ht := HT.out
        rw [hx] at ht
        have HT2 := Lib.hid ht
        clear ht hno hd htk hx HT
        go_wp2_with fail
        with_reducible refine (HT2.out).mono ?_
        rintro e u1 ⟨rfl, hb⟩
        have hw := HB.out.trans (hb.mono HB.out.size)
        clear hb
        go_wp2_with fail
        go_ret
        exact ⟨ret_ix (by rw [HE.out]), hw⟩
      | false =>
        have HNO := Lib.hid (show ∀ y ∈ l.take (k + 1), (y.id == id) = false from fun y hy => by
          rw [htk] at hy
          rcases List.mem_append.1 hy with hy | hy
          · exact hno y hy
          · simp at hy; subst hy; exact hx)
        have ht := HT.out
        rw [hx] at ht
        have HT2 := Lib.hid ht
        clear ht hno hd htk hx HT
        go_wp2_with fail
        with_reducible refine (HT2.out).mono ?_
        rintro e u1 ⟨rfl, hb⟩
        have hw := Lib.hid (HB.out.trans (hb.mono HB.out.size))
        clear hb
        go_wp2_with fail
        go_roundw
        case rel => exact ⟨k + 1, by omega, by go_num, HNO.out, hw.out⟩
        case measure => simp [intOf]; omega
    · have hkn : k = l.length := by omega
      subst hkn
      rw [List.take_length] at hno
      have HE := Lib.hid (HN.out hno)
      clear hno
      go_wp2_with fail
      go_ret
      exact ⟨ret_ix (by rw [HE.out]), hb⟩

set_option maxRecDepth 100000 in
set_option maxHeartbeats 2000000 in
theorem index_any (v : Value) (l : List Tmr) (id : Int) (w : World) (h : Sl w 2 v (l.map Tmr.cells)) (hl : l.length ≤ 9223372036854775806) :
    Calls Try.prog 44 #[v, .int .i64 id] w (Gives (.int .i64 (idxT id l)) w) := by
  have bx := Box.new w #[.int .i64 id] 3
  have hr := h.at ((Evo.refl _).alloc (.cells #[.int .i64 id] 3))
  have hi := indexFunc_any v l id w.heap.size _ hr hl bx.lt (bx.cells 0 _ rfl)
  have HI := Lib.hid hi
  clear bx hr hi h
  go_enter Try.func44, Try.ntmps44
  go_wp2_with fail
  with_reducible refine (HI.out).mono ?_
  rintro e u1 ⟨rfl, hb⟩
  have hw := below_box hb
  clear hb
  go_wp2_with fail
  go_ret
  exact ⟨rfl, hw⟩

end Go.Proofs.Ytpckomnpeainlab
