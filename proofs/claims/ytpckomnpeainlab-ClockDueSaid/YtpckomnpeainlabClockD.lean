/-
  Contract of slices.BinarySearchFunc at timers by clock.compare.
-/
import Derived.Test.YtpckomnpeainlabClockC
namespace Go.Proofs.Ytpckomnpeainlab
open Go.RowKit

/-- A place and a bool. -/
def AtPlace (n : Nat) (w : World) (e : Ending) (w' : World) : Prop := ∃ b : Bool, e = .returned (.tuple #[.int .i64 n, .bool b]) ∧ Evo w w'
theorem atPlace {n : Nat} {w w' : World} (b : Bool) (h : Evo w w') : AtPlace n w (.returned (.tuple #[.int .i64 n, .bool b])) w' := ⟨b, rfl, h⟩

attribute [local go_sem] Evo.refl Evo.alloc Evo.drew Evo.drewN

set_option maxRecDepth 100000 in
set_option maxHeartbeats 4000000 in
theorem bsearch_any (v : Value) (l : List Tmr) (t : Tmr) (n : Nat) (w : World) (h : Sl w 2 v (l.map Tmr.cells)) (hl : l.length ≤ 20) (hn : n ≤ l.length)
    (hlo : ∀ i x, i < n → l[i]? = some x → cmpT x t < 0) (hhi : ∀ i x, n ≤ i → l[i]? = some x → 0 ≤ cmpT x t) :
    Calls Try.prog 46 #[v, .agg #[.int .i64 t.id, .int .i64 t.at'], .func (.func 45) #[] #[]] w (AtPlace n w) := by
  obtain ⟨A, cap, rfl, hcap, -⟩ := h.form
  rw [List.length_map] at *
  have HR := Lib.hid h
  have HLO := Lib.hid hlo
  have HHI := Lib.hid hhi
  clear h hlo hhi
  have t0 : ∀ W, Evo (w.alloc (.cells #[.int .i64 t.id, .int .i64 t.at'] 27)) W → W.cell? ⟨w.heap.size, 0, none⟩ = some (.int .i64 t.id) := fun W h => h.cell (by simp) (World.cell?_alloc_at _ _ _ _ rfl)
  have t1 : ∀ W, Evo (w.alloc (.cells #[.int .i64 t.id, .int .i64 t.at'] 27)) W → W.cell? ⟨w.heap.size, 1, none⟩ = some (.int .i64 t.at') := fun W h => h.cell (by simp) (World.cell?_alloc_at _ _ _ _ rfl)
  have tw : ∀ W, Evo (w.alloc (.cells #[.int .i64 t.id, .int .i64 t.at'] 27)) W → Evo w W := fun W h => ((Evo.refl _).alloc _).trans h
  go_enter Try.func46, Try.ntmps46
  go_wp2_with fail
  generalize w.alloc (.cells #[.int .i64 t.id, .int .i64 t.at'] 27) = V at *
  go_loopw [9, 10] (fun a b wr => ∃ i j : Nat, i ≤ n ∧ n ≤ j ∧ j ≤ l.length ∧ a = .int .i64 i ∧ b = .int .i64 j ∧ Evo V wr) (fun a b _ => (intOf b).toNat - (intOf a).toNat)
  case atStart => exact ⟨0, l.length, by omega, by omega, by omega, rfl, rfl, Evo.refl _⟩
  case round =>
    obtain ⟨i, j, hi, hj, hjl, rfl, rfl, hb⟩ := hrel
    by_cases hlt : i < j
    · obtain ⟨m, em, m1, m2⟩ : ∃ m : Nat, ((i : Int) + (j : Int)) / 2 = (m : Int) ∧ i ≤ m ∧ m < j := ⟨(i + j) / 2, by omega, by omega, by omega⟩
      obtain ⟨x, hd⟩ : ∃ x, l[m]? = some x := ⟨_, List.getElem?_eq_getElem (by omega)⟩
      obtain ⟨b, off, rfl, hbl, hc⟩ := HR.out.row (i := m) (r := x.cells) (by rw [List.getElem?_map, hd]; rfl)
      have c0 : ∀ W, Evo w W → W.cell? ⟨b, off + m * 2, none⟩ = some _ := hc 0 _ rfl
      have c1 : ∀ W, Evo w W → W.cell? ⟨b, off + m * 2 + 1, none⟩ = some _ := hc 1 _ rfl
      have HD := Lib.hid hd
      have m3 : (m : Int) < (l.length : Int) := by omega
      have m4 : (0 : Int) ≤ (m : Int) := by omega
      clear hc hd
      generalize hp : cmpT x t = p at *
      have HP := Lib.hid hp
      clear hp
      rcases (by omega : p < 0 ∨ 0 ≤ p) with h5 | h5
      · have hmn : m < n := by
          rcases Nat.lt_or_ge m n with g | g
          · exact g
          · have := HHI.out m x g HD.out; rw [HP.out] at this; omega
        go_wp2_with fail
        go_region_held3 (fun W => Evo V W) (first | assumption | (exact Evo.drew (Evo.refl _)) | (exact Evo.drew (by assumption)) | (exact Evo.drewN (by assumption) _) | (exact Evo.drewN (Evo.refl _) _) | (exact Evo.trans (by assumption) ⟨by assumption⟩) | (exact Evo.alloc (by assumption) _) | (exact Evo.trans (by assumption) hE))
          (first | (go_at_call 45; refine (compare_any x t _).mono ?_; rw [HP.out]; rintro e w' ⟨rfl, hw'⟩))
        go_wp2_with fail
        go_roundw
        case rel => exact ⟨m + 1, j, by omega, by omega, by omega, by go_num, rfl, by (first | assumption | (exact Evo.drew (Evo.refl _)) | (exact Evo.drew (by assumption)) | (exact Evo.drewN (by assumption) _) | (exact Evo.drewN (Evo.refl _) _) | (exact Evo.trans (by assumption) ⟨by assumption⟩) | (exact Evo.alloc (by assumption) _) | (exact Evo.trans (by assumption) hE))⟩
        case measure => simp [intOf]; omega
      · have hmn : n ≤ m := by
          rcases Nat.lt_or_ge m n with g | g
          · have := HLO.out m x g HD.out; rw [HP.out] at this; omega
          · exact g
        go_wp2_with fail
        go_region_held3 (fun W => Evo V W) (first | assumption | (exact Evo.drew (Evo.refl _)) | (exact Evo.drew (by assumption)) | (exact Evo.drewN (by assumption) _) | (exact Evo.drewN (Evo.refl _) _) | (exact Evo.trans (by assumption) ⟨by assumption⟩) | (exact Evo.alloc (by assumption) _) | (exact Evo.trans (by assumption) hE))
          (first | (go_at_call 45; refine (compare_any x t _).mono ?_; rw [HP.out]; rintro e w' ⟨rfl, hw'⟩))
        go_wp2_with fail
        go_roundw
        case rel => exact ⟨i, m, by omega, by omega, by omega, rfl, rfl, by (first | assumption | (exact Evo.drew (Evo.refl _)) | (exact Evo.drew (by assumption)) | (exact Evo.drewN (by assumption) _) | (exact Evo.drewN (Evo.refl _) _) | (exact Evo.trans (by assumption) ⟨by assumption⟩) | (exact Evo.alloc (by assumption) _) | (exact Evo.trans (by assumption) hE))⟩
        case measure => simp [intOf]; omega
    · obtain rfl : i = n := by omega
      obtain rfl : j = i := by omega
      clear hlt
      by_cases hil : j < l.length
      · obtain ⟨x, hd⟩ : ∃ x, l[j]? = some x := ⟨_, List.getElem?_eq_getElem (by omega)⟩
        obtain ⟨b, off, rfl, hbl, hc⟩ := HR.out.row (i := j) (r := x.cells) (by rw [List.getElem?_map, hd]; rfl)
        have c0 : ∀ W, Evo w W → W.cell? ⟨b, off + j * 2, none⟩ = some _ := hc 0 _ rfl
        have c1 : ∀ W, Evo w W → W.cell? ⟨b, off + j * 2 + 1, none⟩ = some _ := hc 1 _ rfl
        have m3 : (j : Int) < (l.length : Int) := by omega
        have m4 : (0 : Int) ≤ (j : Int) := by omega
        clear hc hd
        go_wp2_with fail
        go_region_held3 (fun W => Evo V W) (first | assumption | (exact Evo.drew (Evo.refl _)) | (exact Evo.drew (by assumption)) | (exact Evo.drewN (by assumption) _) | (exact Evo.drewN (Evo.refl _) _) | (exact Evo.trans (by assumption) ⟨by assumption⟩) | (exact Evo.alloc (by assumption) _) | (exact Evo.trans (by assumption) hE))
          (first | (go_at_call 45; refine (compare_any x t _).mono ?_; rintro e w' ⟨rfl, hw'⟩))
        go_wp2_with fail
        go_ret2
        exact atPlace _ (tw _ (by (first | assumption | (exact Evo.drew (Evo.refl _)) | (exact Evo.drew (by assumption)) | (exact Evo.drewN (by assumption) _) | (exact Evo.drewN (Evo.refl _) _) | (exact Evo.trans (by assumption) ⟨by assumption⟩) | (exact Evo.alloc (by assumption) _) | (exact Evo.trans (by assumption) hE))))
      · obtain rfl : j = l.length := by omega
        clear hil
        go_wp2_with fail
        go_quiet (fail)
        go_wp2_with fail
        go_ret2
        exact atPlace _ (tw _ (by (first | assumption | (exact Evo.drew (Evo.refl _)) | (exact Evo.drew (by assumption)) | (exact Evo.drewN (by assumption) _) | (exact Evo.drewN (Evo.refl _) _) | (exact Evo.trans (by assumption) ⟨by assumption⟩) | (exact Evo.alloc (by assumption) _) | (exact Evo.trans (by assumption) hE))))

end Go.Proofs.Ytpckomnpeainlab
