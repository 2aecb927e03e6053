/-
  Contracts of Go's package slices at []api.Timer: Equal, Grow.
-/
import Derived.Test.YtpckomnpeainlabSlTmr
import Derived.Test.YtpckomnpeainlabClockA
import Derived.Lib.AppendZerosOnto
namespace Go.Proofs.Ytpckomnpeainlab
open Go.RowKit

set_option maxRecDepth 100000 in
set_option maxHeartbeats 4000000 in
theorem equal_tmr (v v' : Value) (l : List Tmr) (w : World) (h : Sl w 2 v (l.map Tmr.cells)) (h' : Sl w 2 v' (l.map Tmr.cells)) (hl : l.length ≤ 9223372036854775806) :
    Calls Try.prog 20 #[v, v'] w (GivesE (.bool true) w) := by
  obtain ⟨A, cap, rfl, hcap, -⟩ := h.form
  obtain ⟨A', cap', rfl, hcap', -⟩ := h'.form
  rw [List.length_map] at *
  have HR := Lib.hid h
  have HS := Lib.hid h'
  clear h h'
  go_enter Try.func20, Try.ntmps20
  go_wp2_with fail
  go_loopw [13] (fun n wr => ∃ k : Nat, k ≤ l.length ∧ n = .int .i64 k ∧ Evo w wr) (fun n _ => l.length - (intOf n).toNat)
  case atStart => exact ⟨0, Nat.zero_le _, rfl, Evo.refl _⟩
  case round =>
    obtain ⟨k, hk, rfl, hb⟩ := hrel
    by_cases hlt : k < l.length
    · obtain ⟨x, hd⟩ : ∃ x, l[k]? = some x := ⟨_, List.getElem?_eq_getElem hlt⟩
      obtain ⟨b, off, rfl, hbl, hc⟩ := HR.out.row (i := k) (r := Tmr.cells x) (by rw [List.getElem?_map, hd]; rfl)
      have c0 : ∀ W, Evo w W → W.cell? ⟨b, off + k * 2, none⟩ = some _ := hc 0 _ rfl
      have c1 : ∀ W, Evo w W → W.cell? ⟨b, off + k * 2 + 1, none⟩ = some _ := hc 1 _ rfl
      obtain ⟨b', off', rfl, hbl', hc'⟩ := HS.out.row (i := k) (r := Tmr.cells x) (by rw [List.getElem?_map, hd]; rfl)
      have d0 : ∀ W, Evo w W → W.cell? ⟨b', off' + k * 2, none⟩ = some _ := hc' 0 _ rfl
      have d1 : ∀ W, Evo w W → W.cell? ⟨b', off' + k * 2 + 1, none⟩ = some _ := hc' 1 _ rfl
      have k0 : (0 : Int) ≤ (k : Int) := by omega
      have k1 : (k : Int) < (l.length : Int) := by omega
      clear hc hc' hd
      go_wp2_with fail
      go_quiet (fail)
      go_wp2_with fail
      go_roundw
      case rel => exact ⟨k + 1, by omega, by go_num, by (first | assumption | (exact Evo.drew (Evo.refl _)) | (exact Evo.drew (by assumption)) | (exact Evo.drewN (by assumption) _) | (exact Evo.drewN (Evo.refl _) _) | (exact Evo.trans (by assumption) ⟨by assumption⟩) | (exact Evo.alloc (by assumption) _) | (exact Evo.trans (by assumption) hE))⟩
      case measure => simp [intOf]; omega
    · have hkn : k = l.length := by omega
      subst hkn
      clear hlt hk
      go_wp2_with fail
      go_ret
      exact ⟨rfl, hb⟩

set_option maxRecDepth 100000 in
set_option maxHeartbeats 4000000 in
/-- slices.Grow at nil. -/
theorem grow_tmr (n : Nat) (w : World) (hl : n * 16 ≤ 140737488355328) : Calls Try.prog 49 #[.slice none 0 0, .int .i64 n] w (GivesOwn 27 2 [] w) := by
  have hn63 : n ≤ 140737488355328 := by omega
  obtain ⟨i0, hi0, hz0, hz1, hz2⟩ := info_parts info_tmr
  have h1 : ¬ ((n : Int) < 0) := by omega
  rcases Nat.eq_zero_or_pos n with rfl | hpos
  · go_enter Try.func49, Try.ntmps49
    go_wp2_with fail
    go_ret
    exact ⟨_, rfl, ⟨by simp, .inl ⟨rfl, rfl⟩⟩, Evo.refl _⟩
  · have h4 : (0 : Int) < (n : Int) := by omega
    have hrz : ∀ ty, (Builtin.append_ #[23, 3] ty #[.slice none 0 0, .int .i64 (n : Int)]).run Try.prog w =
        .ok (.slice (some ⟨w.heap.size, 0, none⟩) n (grownCap w n 0 27)) (w.drew.alloc (.cells ((#[] : Array Value) ++ Builtin.zeroCells (.agg #[.int .i64 0, .int .i64 0] : Value).cells n ++ Builtin.zeroCells (.agg #[.int .i64 0, .int .i64 0] : Value).cells (grownCap w n 0 27 - n)) 27)) := fun ty => by
      have h := Lib.run_append_grow_zeros w 23 3 ty 27 i0 (.agg #[.int .i64 0, .int .i64 0]) .i64 .i64 Try.underlying23 Try.underlying3 hi0 hz0 none 0 0 [] (run_firstCells_none w.drew i0.size 0 0 0) n (by omega) (by rw [hz1]; omega) (by omega) (by omega) (by rw [hz2]; omega) (by rw [hz2]; exact growslice_fits (by omega) (by simpa using hl))
      simpa using h
    have hGn : n ≤ grownCap w n 0 27 := grownCap_ge w _ _ _
    have hG63 := grownCap_le_maxLen w n 0 27 (by unfold maxLen; omega)
    obtain ⟨G, hG⟩ : ∃ G, G = grownCap w n 0 27 := ⟨_, rfl⟩
    rw [← hG] at hrz hGn hG63
    clear hG
    have hsz : ((#[] : Array Value) ++ Builtin.zeroCells (.agg #[.int .i64 0, .int .i64 0] : Value).cells n ++ Builtin.zeroCells (.agg #[.int .i64 0, .int .i64 0] : Value).cells (G - n)).size = G * 2 := by
      simp [Builtin.zeroCells, Value.cells]; omega
    have hown : Own (w.drew.alloc (.cells ((#[] : Array Value) ++ Builtin.zeroCells (.agg #[.int .i64 0, .int .i64 0] : Value).cells n ++ Builtin.zeroCells (.agg #[.int .i64 0, .int .i64 0] : Value).cells (G - n)) 27)) w.heap.size 27 2 (.slice (some ⟨w.heap.size, 0, none⟩) 0 G) 0 [] :=
      ⟨World.ownsRow_made w.drew _ G (by exact Nat.le_refl _) hG63 hsz⟩
    have hE : Evo w (w.drew.alloc (.cells ((#[] : Array Value) ++ Builtin.zeroCells (.agg #[.int .i64 0, .int .i64 0] : Value).cells n ++ Builtin.zeroCells (.agg #[.int .i64 0, .int .i64 0] : Value).cells (G - n)) 27)) := (Evo.refl w).drew.alloc _
    obtain ⟨W, hW⟩ : ∃ W, W = w.drew.alloc (.cells ((#[] : Array Value) ++ Builtin.zeroCells (.agg #[.int .i64 0, .int .i64 0] : Value).cells n ++ Builtin.zeroCells (.agg #[.int .i64 0, .int .i64 0] : Value).cells (G - n)) 27) := ⟨_, rfl⟩
    rw [← hW] at hrz hown hE
    have HO := Lib.hid hown
    unfold maxLen at hG63
    clear hW hsz hown hpos
    go_enter Try.func49, Try.ntmps49
    go_wp2_with (at_builtin; refine Lib.wpList_append_run _ rfl _ _ _ _ rfl _ _ rfl rfl _ _ (hrz _) ?_)
    all_goals (go_ret; exact ⟨_, rfl, HO.out, hE⟩)

set_option maxRecDepth 100000 in
set_option maxHeartbeats 4000000 in
theorem concat_tmr (v va vb : Value) (la lb : List (List Value)) (w : World) (h : Sl w 1 v [[va], [vb]]) (ha : Sl w 2 va la) (hb : Sl w 2 vb lb) (ka : Len 2 la) (kb : Len 2 lb) (oa : One la) (ob : One lb) (hl : (la.length + lb.length) * 16 ≤ 140737488355328) :
    Calls Try.prog 22 #[v] w (GivesOwn 27 2 (la ++ lb) w) := by
  obtain ⟨A, cap, rfl, hcap, hmax, -⟩ := h.form
  obtain ⟨b, off, rfl, hbl, hc0⟩ := h.row (i := 0) (r := [va]) rfl
  obtain ⟨b', off', e', -, hc1⟩ := h.row (i := 1) (r := [vb]) rfl
  simp only [Option.some.injEq, Addr.mk.injEq] at e'
  obtain ⟨rfl, rfl, -⟩ := e'
  have c0 : ∀ W, Evo w W → W.cell? ⟨b, off, none⟩ = some va := by simpa using hc0 0 _ rfl
  have c1 : ∀ W, Evo w W → W.cell? ⟨b, off + 1, none⟩ = some vb := by simpa using hc1 0 _ rfl
  obtain ⟨A1, cap1, rfl, hcap1, hmax1, -⟩ := ha.form
  obtain ⟨A2, cap2, rfl, hcap2, hmax2, -⟩ := hb.form
  have HA := Lib.hid ha
  have HB := Lib.hid hb
  have KA := Lib.hid ka
  have KB := Lib.hid kb
  have OA := Lib.hid oa
  have OB := Lib.hid ob
  have hg := fun W => grow_tmr (la.length + lb.length) W (by omega)
  simp only [Int.natCast_add] at hg
  have HG := Lib.hid hg
  clear hg
  have l0 : la.length ≤ 140737488355328 := by omega
  have l1 : lb.length ≤ 140737488355328 := by omega
  clear h ha hb ka kb oa ob hc0 hc1
  go_enter Try.func22, Try.ntmps22
  go_wp2_with fail
  go_loopw [3, 11] (fun s n wr => wr = w ∧ ((s = .int .i64 0 ∧ n = .int .i64 0) ∨ (s = .int .i64 la.length ∧ n = .int .i64 1) ∨ (s = .int .i64 ((la.length : Int) + (lb.length : Int)) ∧ n = .int .i64 2))) (fun _ n _ => 2 - (intOf n).toNat)
  case atStart => exact ⟨rfl, .inl ⟨rfl, rfl⟩⟩
  case round =>
    obtain ⟨rfl, hrel⟩ := hrel
    have e0 := Evo.refl wr
    rcases hrel with ⟨rfl, rfl⟩ | ⟨rfl, rfl⟩ | ⟨rfl, rfl⟩
    · go_wp2_with fail
      go_roundw
      case rel => exact ⟨trivial, .inr (.inl ⟨rfl, rfl⟩)⟩
      case measure => simp [intOf]
    · go_wp2_with fail
      go_roundw
      case rel => exact ⟨trivial, .inr (.inr ⟨rfl, rfl⟩)⟩
      case measure => simp [intOf]
    · go_wp2_with fail
      obtain ⟨wo, rfl⟩ : ∃ wo : World, wo = wr := ⟨_, rfl⟩
      with_reducible refine (HG.out _).mono ?_
      rintro e u1 ⟨v0, rfl, h0, hE⟩
      have HO := Lib.hid h0
      clear h0
      go_wp2_with fail
      go_loopw [6, 27] (fun v n wr => ∃ (k : Nat) (m : List (List Value)), n = .int .i64 k ∧ Own wr wo.heap.size 27 2 v m.length m.flatten ∧ Evo wo wr ∧ ((k = 0 ∧ m = []) ∨ (k = 1 ∧ m = la) ∨ (k = 2 ∧ m = la ++ lb))) (fun _ n _ => 2 - (intOf n).toNat)
      case atStart => exact ⟨0, [], rfl, HO.out, hE, .inl ⟨rfl, rfl⟩⟩
      case round =>
        obtain ⟨k, m, rfl, hown, e1, hm⟩ := hrel
        have HN := Lib.hid hown
        clear hown hE HO
        rcases hm with ⟨rfl, rfl⟩ | ⟨rfl, rfl⟩ | ⟨rfl, rfl⟩
        · go_wp2_with (at_builtin; refine wpList_append_rows rfl (.tmp 31) (.tmp 32) 23 rfl 27 _ 2 16 Try.underlying23 info_tmr rfl (by decide) wo e1 [] la _ _ rfl rfl HN.out (HA.out.at e1) KA.out OA.out ?c1 ?c2 ?_)
          case c1 => simp; omega
          case c2 => simp; omega
          intro v' w1 hown e2 hg
          have HM := Lib.hid hown
          clear hown hg e1
          go_wp2_with fail
          go_roundw
          case rel => exact ⟨1, la, rfl, by simpa using HM.out, e2, .inr (.inl ⟨rfl, rfl⟩)⟩
          case measure => simp [intOf]
        · go_wp2_with (at_builtin; refine wpList_append_rows rfl (.tmp 31) (.tmp 32) 23 rfl 27 _ 2 16 Try.underlying23 info_tmr rfl (by decide) wo e1 m lb _ _ rfl rfl HN.out (HB.out.at e1) KB.out OB.out ?c1 ?c2 ?_)
          case c1 => omega
          case c2 => omega
          intro v' w1 hown e2 hg
          have HM := Lib.hid hown
          clear hown hg e1
          go_wp2_with fail
          go_roundw
          case rel => exact ⟨2, m ++ lb, rfl, by simpa using HM.out, e2, .inr (.inr ⟨rfl, rfl⟩)⟩
          case measure => simp [intOf]
        · go_wp2_with fail
          go_ret
          exact ⟨_, rfl, by simpa using HN.out, e1⟩

end Go.Proofs.Ytpckomnpeainlab
