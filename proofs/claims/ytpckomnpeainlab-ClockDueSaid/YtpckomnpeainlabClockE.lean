/-
  Contract of clock.Add, where the list may be.
-/
import Derived.Test.YtpckomnpeainlabClockD
import Derived.Test.YtpckomnpeainlabSlTmr
namespace Go.Proofs.Ytpckomnpeainlab
open Go.RowKit

attribute [local go_sem] Evo.refl Evo.alloc Evo.drew Evo.drewN

abbrev tcs (l : List Tmr) : List (List Value) := l.map Tmr.cells
theorem tcs_len (l : List Tmr) : Len 2 (tcs l) := fun r hr => by obtain ⟨x, -, rfl⟩ := List.mem_map.1 hr; rfl
theorem tcs_one (l : List Tmr) : One (tcs l) := fun r hr => by
  obtain ⟨x, -, rfl⟩ := List.mem_map.1 hr
  intro u hu
  simp at hu
  rcases hu with rfl | rfl <;> rfl

/-- What clock.Add gives: the rows, or an error. -/
def AddPost (l : List Tmr) (w : World) (e : Ending) (w' : World) : Prop := ∃ v, e = .returned (.tuple #[v, .int .i64 (chkT l)]) ∧ Sl w' 2 v (if chkT l = 0 then tcs l else []) ∧ Evo w w'
theorem addOk {l : List Tmr} {w w' : World} {v : Value} (h0 : chkT l = 0) (h : Sl w' 2 v (tcs l)) (hE : Evo w w') : AddPost l w (.returned (.tuple #[v, .int .i64 0])) w' := ⟨v, by rw [h0], by rw [if_pos h0]; exact h, hE⟩
theorem addBad {l : List Tmr} {w w' : World} {q : Int} (hq : chkT l = q) (h0 : q ≠ 0) (hE : Evo w w') : AddPost l w (.returned (.tuple #[.slice none 0 0, .int .i64 q])) w' :=
  ⟨_, by rw [hq], by rw [hq, if_neg h0]; exact Sl.nil _ _, hE⟩

set_option maxRecDepth 100000 in
set_option maxHeartbeats 4000000 in
theorem add_any (v : Value) (l : List Tmr) (t : Tmr) (n : Nat) (w : World) (h : Sl w 2 v (tcs l)) (hchk : chkT l = 0) (hl : l.length ≤ 20) (hn : n ≤ l.length)
    (hlo : ∀ i x, i < n → l[i]? = some x → cmpT x t < 0) (hhi : ∀ i x, n ≤ i → l[i]? = some x → 0 ≤ cmpT x t) :
    Calls Try.prog 17 #[v, .agg #[.int .i64 t.id, .int .i64 t.at']] w (AddPost (l.take n ++ t :: l.drop n) w) := by
  have HC := Lib.hid (fun W (hW : Evo w W) => check_any v l W (h.at hW) (by omega))
  have HB := Lib.hid (fun W (hW : Evo w W) => bsearch_any v l t n W (h.at hW) hl hn hlo hhi)
  clear hlo hhi
  obtain ⟨A, cap, rfl, hcap, hmax, -⟩ := h.form
  have HT := Lib.hid (h.take n (by simpa using hn))
  obtain ⟨A', eA, hd⟩ := h.drop' n (by simpa using hn)
  have HD := Lib.hid hd
  rw [List.length_map] at *
  rw [hchk] at HC
  clear h hd hchk
  have t0 : ∀ W, Evo (w.alloc (.cells #[.int .i64 t.id, .int .i64 t.at'] 27)) W → W.cell? ⟨w.heap.size, 0, none⟩ = some (.int .i64 t.id) := fun W h => h.cell (by simp) (World.cell?_alloc_at _ _ _ _ rfl)
  have t1 : ∀ W, Evo (w.alloc (.cells #[.int .i64 t.id, .int .i64 t.at'] 27)) W → W.cell? ⟨w.heap.size, 1, none⟩ = some (.int .i64 t.at') := fun W h => h.cell (by simp) (World.cell?_alloc_at _ _ _ _ rfl)
  have tw : ∀ W, Evo (w.alloc (.cells #[.int .i64 t.id, .int .i64 t.at'] 27)) W → Evo w W := fun W h => ((Evo.refl _).alloc _).trans h
  go_enter Try.func17, Try.ntmps17
  go_wp2_with fail
  generalize w.alloc (.cells #[.int .i64 t.id, .int .i64 t.at'] 27) = V at *
  with_reducible refine (HC.out V (tw V (Evo.refl _))).mono ?_
  rintro e u1 ⟨rfl, hb⟩
  have e1 : Evo V u1 := ⟨hb⟩
  clear hb
  go_wp2_with fail
  with_reducible refine (HB.out u1 (tw _ e1)).mono ?_
  rintro e u2 ⟨b1, rfl, e2⟩
  have e3 := e1.trans e2
  clear e1 e2
  have n0 : (0 : Int) ≤ (n : Int) := by omega
  have n1 : (n : Int) ≤ (l.length : Int) := by omega
  have n2 : (n : Int) ≤ (cap : Int) := by omega
  go_wp2_with fail
  go_region_held3 (fun W => Evo V W) (first | assumption | (exact Evo.drew (Evo.refl _)) | (exact Evo.drew (by assumption)) | (exact Evo.drewN (by assumption) _) | (exact Evo.drewN (Evo.refl _) _) | (exact Evo.trans (by assumption) ⟨by assumption⟩) | (exact Evo.alloc (by assumption) _) | (exact Evo.trans (by assumption) hE))
    (first
      | (go_at_call 47; refine (clone_tmr _ _ _ (HT.out.at (tw _ (by assumption))) (by rw [← List.map_take]; exact tcs_len _) (by rw [← List.map_take]; exact tcs_one _) (by simp; omega)).mono ?_; rintro e w' ⟨v1, rfl, hown, hE⟩; replace hown := hown.low (Evo.size (by assumption)))
      | (refine step_append_rows rfl (.tmp 25) (.tmp 27) 23 rfl 27 _ 2 16 Try.underlying23 info_tmr rfl (by decide) V (by assumption) _ [t.cells] _ _ rfl rfl (by first | assumption | exact Own.alloc (by assumption) _) (by first | exact Sl.one _ _ _ _ | exact (Sl.one _ _ _ _).at (by assumption) | exact (Sl.one _ _ _ _).at (Evo.trans ((Evo.refl _).drew) hE) | exact (Sl.one _ _ _ _).at (Evo.trans ((Evo.refl _).drewN _) hE)) (tcs_len [t]) (tcs_one [t]) (by simp; omega) (by simp; omega) ?_; intro v2 w2 hown2 hE2)
      | (refine step_append_rows rfl (.tmp 28) (.tmp 31) 23 rfl 27 _ 2 16 Try.underlying23 info_tmr rfl (by decide) V (by assumption) _ _ _ _ rfl rfl (by assumption) (HD.out.at (tw _ (by assumption))) (by rw [← List.map_drop]; exact tcs_len _) (by rw [← List.map_drop]; exact tcs_one _) (by simp; omega) (by simp; omega) ?_; intro v3 w3 hown3 hE3))
  all_goals
    have es : List.take n (tcs l) ++ [t.cells] ++ List.drop n (tcs l) = tcs (l.take n ++ t :: l.drop n) := by simp [tcs, List.map_take, List.map_drop]
    rw [es] at hown3
    have hs := Sl.of_own (tcs_len _) hown3
    have ho := Lib.hid hown3
    have hE := tw _ hE3
    clear es hown3 hown2 hE3 hE2 hown tw
    have hll : (l.take n ++ t :: l.drop n).length ≤ 21 := by simp; omega
    generalize l.take n ++ t :: l.drop n = m at *
    generalize hq : chkT m = q at *
    have HQ := Lib.hid hq
    have hc := check_any v3 m w3 hs (by omega)
    rw [hq] at hc
    have HC2 := Lib.hid hc
    have HL := Lib.hid hll
    clear hq hc hll
    go_wp2_with fail
    with_reducible refine (HC2.out).mono ?_
    rintro e u4 ⟨rfl, hb⟩
    by_cases h0 : q = 0
    · subst h0
      go_wp2_with fail
      have hc := clone_tmr v3 (tcs m) u4 (hs.at ⟨hb⟩) (tcs_len _) (tcs_one _) (by have := HL.out; simp; omega)
      have HC3 := Lib.hid hc
      clear hc
      with_reducible refine (HC3.out).mono ?_
      rintro e u5 ⟨v4, rfl, h4, e4⟩
      have hf := Lib.hid (addOk HQ.out (Sl.of_own (tcs_len _) h4) ((hE.trans ⟨hb⟩).trans e4))
      clear hs hb h4 e4
      go_wp2_with fail
      go_ret2
      exact hf.out
    · have hq' : (q != 0) = true := bne_iff_ne.2 h0
      have hf := Lib.hid (addBad HQ.out h0 (hE.trans ⟨hb⟩))
      clear hs hb h0
      go_wp2_with fail
      go_ret2
      exact hf.out

end Go.Proofs.Ytpckomnpeainlab
