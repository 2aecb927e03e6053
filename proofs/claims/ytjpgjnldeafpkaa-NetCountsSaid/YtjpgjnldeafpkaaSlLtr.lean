/-
  Contracts of Go's package slices at []api.Letter and at []Raw.
-/
import Derived.Test.YtjpgjnldeafpkaaNetA
import Derived.Test.YtjpgjnldeafpkaaRawSl
import Derived.Test.YtjpgjnldeafpkaaRowOps
import Derived.Lib.AppendZerosOnto
namespace Go.Proofs.Ytjpgjnldeafpkaa
open Go.RowKit

theorem info_ltr : (Try.prog.info? 36).map (fun i => (i.zero, i.size, i.bytes)) = some (some (.agg #[.string ⟨#[]⟩, .int .i64 0, .int .i64 0, .int .i64 0, .string ⟨#[]⟩, .int .i64 0, .int .i64 0, .string ⟨#[]⟩]), 8, 88) := by kernel_rfl

set_option maxRecDepth 100000 in
set_option maxHeartbeats 2000000 in
theorem clone_ltr (v : Value) (l : List (List Value)) (w : World) (h : Sl w 8 v l) (hk : Len 8 l) (h1 : One l) (hl : l.length * 88 ≤ 140737488355328) :
    Calls Try.prog 20 #[v] w (GivesOwn 36 8 l w) := by
  have q22 : ∀ (w : World) (a : Option Addr) (n c n' c' : Nat), (binOp .eql 23 (.slice a n c) (.slice none n' c')).run Try.prog w = .ok (.bool a.isNone) w := fun w a n c n' c' => Lib.run_eql_slice_nil w _ _ a n c n' c' Try.underlying23
  obtain ⟨A, cap, rfl, c1, c2, hA⟩ := h.form
  cases A with
  | none =>
    obtain rfl := hA rfl
    have h0 : l.length = 0 := by omega
    obtain rfl := List.length_eq_zero_iff.1 h0
    go_enter Try.func20, Try.ntmps20
    go_wp2_with fail
    go_ret
    exact ⟨_, rfl, ⟨by simp, .inl ⟨rfl, rfl⟩⟩, Evo.refl _⟩
  | some a =>
    have HR := Lib.hid h
    have HK := Lib.hid hk
    have H1 := Lib.hid h1
    clear h hk h1
    go_enter Try.func20, Try.ntmps20
    go_wp2_with (at_builtin; refine wpList_append_rows rfl (.tmp 5) (.tmp 6) 23 rfl 36 _ 8 88 Try.underlying23 info_ltr rfl (by decide) w ((Evo.refl _).alloc _) [] l _ _ rfl rfl ⟨World.ownsRow_made w #[] 0 (Nat.le_refl _) (Nat.zero_le _) (by simp)⟩ (HR.out.at ((Evo.refl _).alloc _)) HK.out H1.out ?c1 ?c2 ?_)
    case c1 => simp; omega
    case c2 => simpa using hl
    intro v' w1 hown hbl hg
    have HW := Lib.hid (⟨hown, hbl⟩ : Own w1 w.heap.size 36 8 v' ([] ++ l).length ([] ++ l).flatten ∧ Evo w w1)
    clear hown hg hbl
    go_wp2_with fail
    go_ret
    exact ⟨_, rfl, HW.out.1, HW.out.2⟩

set_option maxRecDepth 100000 in
set_option maxHeartbeats 4000000 in
theorem equal_ltr (v v' : Value) (l : List Ltr) (w : World) (h : Sl w 8 v (l.map Ltr.cells)) (h' : Sl w 8 v' (l.map Ltr.cells)) (hl : l.length ≤ 9223372036854775806) :
    Calls Try.prog 10 #[v, v'] w (GivesE (.bool true) w) := by
  obtain ⟨A, cap, rfl, hcap, -⟩ := h.form
  obtain ⟨A', cap', rfl, hcap', -⟩ := h'.form
  rw [List.length_map] at *
  have HR := Lib.hid h
  have HS := Lib.hid h'
  clear h h'
  go_enter Try.func10, Try.ntmps10
  go_wp2_with fail
  go_loopw [13] (fun n wr => ∃ k : Nat, k ≤ l.length ∧ n = .int .i64 k ∧ Evo w wr) (fun n _ => l.length - (intOf n).toNat)
  case atStart => exact ⟨0, Nat.zero_le _, rfl, Evo.refl _⟩
  case round =>
    obtain ⟨k, hk, rfl, hb⟩ := hrel
    by_cases hlt : k < l.length
    · obtain ⟨x, hd⟩ : ∃ x, l[k]? = some x := ⟨_, List.getElem?_eq_getElem hlt⟩
      obtain ⟨b, off, rfl, hbl, hc⟩ := HR.out.row (i := k) (r := Ltr.cells x) (by rw [List.getElem?_map, hd]; rfl)
      have c0 : ∀ W, Evo w W → W.cell? ⟨b, off + k * 8, none⟩ = some _ := hc 0 _ rfl
      have c1 : ∀ W, Evo w W → W.cell? ⟨b, off + k * 8 + 1, none⟩ = some _ := hc 1 _ rfl
      have c2 : ∀ W, Evo w W → W.cell? ⟨b, off + k * 8 + 2, none⟩ = some _ := hc 2 _ rfl
      have c3 : ∀ W, Evo w W → W.cell? ⟨b, off + k * 8 + 3, none⟩ = some _ := hc 3 _ rfl
      have c4 : ∀ W, Evo w W → W.cell? ⟨b, off + k * 8 + 4, none⟩ = some _ := hc 4 _ rfl
      have c5 : ∀ W, Evo w W → W.cell? ⟨b, off + k * 8 + 5, none⟩ = some _ := hc 5 _ rfl
      have c6 : ∀ W, Evo w W → W.cell? ⟨b, off + k * 8 + 6, none⟩ = some _ := hc 6 _ rfl
      have c7 : ∀ W, Evo w W → W.cell? ⟨b, off + k * 8 + 7, none⟩ = some _ := hc 7 _ rfl
      obtain ⟨b', off', rfl, hbl', hc'⟩ := HS.out.row (i := k) (r := Ltr.cells x) (by rw [List.getElem?_map, hd]; rfl)
      have d0 : ∀ W, Evo w W → W.cell? ⟨b', off' + k * 8, none⟩ = some _ := hc' 0 _ rfl
      have d1 : ∀ W, Evo w W → W.cell? ⟨b', off' + k * 8 + 1, none⟩ = some _ := hc' 1 _ rfl
      have d2 : ∀ W, Evo w W → W.cell? ⟨b', off' + k * 8 + 2, none⟩ = some _ := hc' 2 _ rfl
      have d3 : ∀ W, Evo w W → W.cell? ⟨b', off' + k * 8 + 3, none⟩ = some _ := hc' 3 _ rfl
      have d4 : ∀ W, Evo w W → W.cell? ⟨b', off' + k * 8 + 4, none⟩ = some _ := hc' 4 _ rfl
      have d5 : ∀ W, Evo w W → W.cell? ⟨b', off' + k * 8 + 5, none⟩ = some _ := hc' 5 _ rfl
      have d6 : ∀ W, Evo w W → W.cell? ⟨b', off' + k * 8 + 6, none⟩ = some _ := hc' 6 _ rfl
      have d7 : ∀ W, Evo w W → W.cell? ⟨b', off' + k * 8 + 7, none⟩ = some _ := hc' 7 _ rfl
      have k0 : (0 : Int) ≤ (k : Int) := by omega
      have k1 : (k : Int) < (l.length : Int) := by omega
      clear hc hc' hd
      go_wp2_with fail
      go_quiet (fail)
      go_wp2_with fail
      go_roundw
      case rel => exact ⟨k + 1, by omega, by go_num, by (first | assumption | (exact Evo.drew (Evo.refl _)) | (exact Evo.drew (by assumption)) | (exact Evo.drewN (by assumption) _) | (exact Evo.drewN (Evo.refl _) _) | (exact Evo.trans (by assumption) ⟨by assumption⟩) | (exact Evo.alloc (by assumption) _) | (exact Evo.trans (by assumption) hE))⟩
      case measure => simp [intOf]; omega
    · have hkn : k = l.length := by omega
      subst hkn
      clear hlt hk
      go_wp2_with fail
      go_ret
      exact ⟨rfl, hb⟩

set_option maxRecDepth 100000 in
set_option maxHeartbeats 4000000 in
/-- slices.Grow at nil. -/
theorem grow_ltr (n : Nat) (w : World) (hl : n * 88 ≤ 140737488355328) : Calls Try.prog 23 #[.slice none 0 0, .int .i64 n] w (GivesOwn 36 8 [] w) := by
  have hn63 : n ≤ 140737488355328 := by omega
  obtain ⟨i0, hi0, hz0, hz1, hz2⟩ := info_parts info_ltr
  have h1 : ¬ ((n : Int) < 0) := by omega
  rcases Nat.eq_zero_or_pos n with rfl | hpos
  · go_enter Try.func23, Try.ntmps23
    go_wp2_with fail
    go_ret
    exact ⟨_, rfl, ⟨by simp, .inl ⟨rfl, rfl⟩⟩, Evo.refl _⟩
  · have h4 : (0 : Int) < (n : Int) := by omega
    have hrz : ∀ ty, (Builtin.append_ #[23, 3] ty #[.slice none 0 0, .int .i64 (n : Int)]).run Try.prog w =
        .ok (.slice (some ⟨w.heap.size, 0, none⟩) n (grownCap w n 0 36)) (w.drew.alloc (.cells ((#[] : Array Value) ++ Builtin.zeroCells (.agg #[.string ⟨#[]⟩, .int .i64 0, .int .i64 0, .int .i64 0, .string ⟨#[]⟩, .int .i64 0, .int .i64 0, .string ⟨#[]⟩] : Value).cells n ++ Builtin.zeroCells (.agg #[.string ⟨#[]⟩, .int .i64 0, .int .i64 0, .int .i64 0, .string ⟨#[]⟩, .int .i64 0, .int .i64 0, .string ⟨#[]⟩] : Value).cells (grownCap w n 0 36 - n)) 36)) := fun ty => by
      have h := Lib.run_append_grow_zeros w 23 3 ty 36 i0 (.agg #[.string ⟨#[]⟩, .int .i64 0, .int .i64 0, .int .i64 0, .string ⟨#[]⟩, .int .i64 0, .int .i64 0, .string ⟨#[]⟩]) .i64 .i64 Try.underlying23 Try.underlying3 hi0 hz0 none 0 0 [] (run_firstCells_none w.drew i0.size 0 0 0) n (by omega) (by rw [hz1]; omega) (by omega) (by omega) (by rw [hz2]; omega) (by rw [hz2]; exact growslice_fits (by omega) (by simpa using hl))
      simpa using h
    have hGn : n ≤ grownCap w n 0 36 := grownCap_ge w _ _ _
    have hG63 := grownCap_le_maxLen w n 0 36 (by unfold maxLen; omega)
    obtain ⟨G, hG⟩ : ∃ G, G = grownCap w n 0 36 := ⟨_, rfl⟩
    rw [← hG] at hrz hGn hG63
    clear hG
    have hsz : ((#[] : Array Value) ++ Builtin.zeroCells (.agg #[.string ⟨#[]⟩, .int .i64 0, .int .i64 0, .int .i64 0, .string ⟨#[]⟩, .int .i64 0, .int .i64 0, .string ⟨#[]⟩] : Value).cells n ++ Builtin.zeroCells (.agg #[.string ⟨#[]⟩, .int .i64 0, .int .i64 0, .int .i64 0, .string ⟨#[]⟩, .int .i64 0, .int .i64 0, .string ⟨#[]⟩] : Value).cells (G - n)).size = G * 8 := by
      simp [Builtin.zeroCells, Value.cells]; omega
    have hown : Own (w.drew.alloc (.cells ((#[] : Array Value) ++ Builtin.zeroCells (.agg #[.string ⟨#[]⟩, .int .i64 0, .int .i64 0, .int .i64 0, .string ⟨#[]⟩, .int .i64 0, .int .i64 0, .string ⟨#[]⟩] : Value).cells n ++ Builtin.zeroCells (.agg #[.string ⟨#[]⟩, .int .i64 0, .int .i64 0, .int .i64 0, .string ⟨#[]⟩, .int .i64 0, .int .i64 0, .string ⟨#[]⟩] : Value).cells (G - n)) 36)) w.heap.size 36 8 (.slice (some ⟨w.heap.size, 0, none⟩) 0 G) 0 [] :=
      ⟨World.ownsRow_made w.drew _ G (by exact Nat.le_refl _) hG63 hsz⟩
    have hE : Evo w (w.drew.alloc (.cells ((#[] : Array Value) ++ Builtin.zeroCells (.agg #[.string ⟨#[]⟩, .int .i64 0, .int .i64 0, .int .i64 0, .string ⟨#[]⟩, .int .i64 0, .int .i64 0, .string ⟨#[]⟩] : Value).cells n ++ Builtin.zeroCells (.agg #[.string ⟨#[]⟩, .int .i64 0, .int .i64 0, .int .i64 0, .string ⟨#[]⟩, .int .i64 0, .int .i64 0, .string ⟨#[]⟩] : Value).cells (G - n)) 36)) := (Evo.refl w).drew.alloc _
    obtain ⟨W, hW⟩ : ∃ W, W = w.drew.alloc (.cells ((#[] : Array Value) ++ Builtin.zeroCells (.agg #[.string ⟨#[]⟩, .int .i64 0, .int .i64 0, .int .i64 0, .string ⟨#[]⟩, .int .i64 0, .int .i64 0, .string ⟨#[]⟩] : Value).cells n ++ Builtin.zeroCells (.agg #[.string ⟨#[]⟩, .int .i64 0, .int .i64 0, .int .i64 0, .string ⟨#[]⟩, .int .i64 0, .int .i64 0, .string ⟨#[]⟩] : Value).cells (G - n)) 36) := ⟨_, rfl⟩
    rw [← hW] at hrz hown hE
    have HO := Lib.hid hown
    unfold maxLen at hG63
    clear hW hsz hown hpos
    go_enter Try.func23, Try.ntmps23
    go_wp2_with (at_builtin; refine Lib.wpList_append_run _ rfl _ _ _ _ rfl _ _ rfl rfl _ _ (hrz _) ?_)
    all_goals (go_ret; exact ⟨_, rfl, HO.out, hE⟩)

set_option maxRecDepth 100000 in
set_option maxHeartbeats 4000000 in
theorem concat_ltr (v va vb : Value) (la lb : List (List Value)) (w : World) (h : Sl w 1 v [[va], [vb]]) (ha : Sl w 8 va la) (hb : Sl w 8 vb lb) (ka : Len 8 la) (kb : Len 8 lb) (oa : One la) (ob : One lb) (hl : (la.length + lb.length) * 88 ≤ 140737488355328) :
    Calls Try.prog 11 #[v] w (GivesOwn 36 8 (la ++ lb) w) := by
  obtain ⟨A, cap, rfl, hcap, hmax, -⟩ := h.form
  obtain ⟨b, off, rfl, hbl, hc0⟩ := h.row (i := 0) (r := [va]) rfl
  obtain ⟨b', off', e', -, hc1⟩ := h.row (i := 1) (r := [vb]) rfl
  simp only [Option.some.injEq, Addr.mk.injEq] at e'
  obtain ⟨rfl, rfl, -⟩ := e'
  have c0 : ∀ W, Evo w W → W.cell? ⟨b, off, none⟩ = some va := by simpa using hc0 0 _ rfl
  have c1 : ∀ W, Evo w W → W.cell? ⟨b, off + 1, none⟩ = some vb := by simpa using hc1 0 _ rfl
  obtain ⟨A1, cap1, rfl, hcap1, hmax1, -⟩ := ha.form
  obtain ⟨A2, cap2, rfl, hcap2, hmax2, -⟩ := hb.form
  have HA := Lib.hid ha
  have HB := Lib.hid hb
  have KA := Lib.hid ka
  have KB := Lib.hid kb
  have OA := Lib.hid oa
  have OB := Lib.hid ob
  have hg := fun W => grow_ltr (la.length + lb.length) W (by omega)
  simp only [Int.natCast_add] at hg
  have HG := Lib.hid hg
  clear hg
  have l0 : la.length ≤ 140737488355328 := by omega
  have l1 : lb.length ≤ 140737488355328 := by omega
  clear h ha hb ka kb oa ob hc0 hc1
  go_enter Try.func11, Try.ntmps11
  go_wp2_with fail
  go_loopw [3, 11] (fun s n wr => wr = w ∧ ((s = .int .i64 0 ∧ n = .int .i64 0) ∨ (s = .int .i64 la.length ∧ n = .int .i64 1) ∨ (s = .int .i64 ((la.length : Int) + (lb.length : Int)) ∧ n = .int .i64 2))) (fun _ n _ => 2 - (intOf n).toNat)
  case atStart => exact ⟨rfl, .inl ⟨rfl, rfl⟩⟩
  case round =>
    obtain ⟨rfl, hrel⟩ := hrel
    have e0 := Evo.refl wr
    rcases hrel with ⟨rfl, rfl⟩ | ⟨rfl, rfl⟩ | ⟨rfl, rfl⟩
    · go_wp2_with fail
      go_roundw
      case rel => exact ⟨trivial, .inr (.inl ⟨rfl, rfl⟩)⟩
      case measure => simp [intOf]
    · go_wp2_with fail
      go_roundw
      case rel => exact ⟨trivial, .inr (.inr ⟨rfl, rfl⟩)⟩
      case measure => simp [intOf]
    · go_wp2_with fail
      obtain ⟨wo, rfl⟩ : ∃ wo : World, wo = wr := ⟨_, rfl⟩
      with_reducible refine (HG.out _).mono ?_
      rintro e u1 ⟨v0, rfl, h0, hE⟩
      have HO := Lib.hid h0
      clear h0
      go_wp2_with fail
      go_loopw [6, 27] (fun v n wr => ∃ (k : Nat) (m : List (List Value)), n = .int .i64 k ∧ Own wr wo.heap.size 36 8 v m.length m.flatten ∧ Evo wo wr ∧ ((k = 0 ∧ m = []) ∨ (k = 1 ∧ m = la) ∨ (k = 2 ∧ m = la ++ lb))) (fun _ n _ => 2 - (intOf n).toNat)
      case atStart => exact ⟨0, [], rfl, HO.out, hE, .inl ⟨rfl, rfl⟩⟩
      case round =>
        obtain ⟨k, m, rfl, hown, e1, hm⟩ := hrel
        have HN := Lib.hid hown
        clear hown hE HO
        rcases hm with ⟨rfl, rfl⟩ | ⟨rfl, rfl⟩ | ⟨rfl, rfl⟩
        · go_wp2_with (at_builtin; refine wpList_append_rows rfl (.tmp 31) (.tmp 32) 23 rfl 36 _ 8 88 Try.underlying23 info_ltr rfl (by decide) wo e1 [] la _ _ rfl rfl HN.out (HA.out.at e1) KA.out OA.out ?c1 ?c2 ?_)
          case c1 => simp; omega
          case c2 => simp; omega
          intro v' w1 hown e2 hg
          have HM := Lib.hid hown
          clear hown hg e1
          go_wp2_with fail
          go_roundw
          case rel => exact ⟨1, la, rfl, by simpa using HM.out, e2, .inr (.inl ⟨rfl, rfl⟩)⟩
          case measure => simp [intOf]
        · go_wp2_with (at_builtin; refine wpList_append_rows rfl (.tmp 31) (.tmp 32) 23 rfl 36 _ 8 88 Try.underlying23 info_ltr rfl (by decide) wo e1 m lb _ _ rfl rfl HN.out (HB.out.at e1) KB.out OB.out ?c1 ?c2 ?_)
          case c1 => omega
          case c2 => omega
          intro v' w1 hown e2 hg
          have HM := Lib.hid hown
          clear hown hg e1
          go_wp2_with fail
          go_roundw
          case rel => exact ⟨2, m ++ lb, rfl, by simpa using HM.out, e2, .inr (.inr ⟨rfl, rfl⟩)⟩
          case measure => simp [intOf]
        · go_wp2_with fail
          go_ret
          exact ⟨_, rfl, by simpa using HN.out, e1⟩

theorem info_raw : (Try.prog.info? 27).map (fun i => (i.zero, i.size, i.bytes)) = some (some (.agg #[.int .i64 0, .int .i64 0, .int .i64 0, .string ⟨#[]⟩]), 4, 40) := by kernel_rfl

set_option maxRecDepth 100000 in
set_option maxHeartbeats 2000000 in
theorem clone_raw (v : Value) (l : List (List Value)) (w : World) (h : Sl w 4 v l) (hk : Len 4 l) (h1 : One l) (hl : l.length * 40 ≤ 140737488355328) :
    Calls Try.prog 6 #[v] w (GivesOwn 27 4 l w) := by
  have q22 : ∀ (w : World) (a : Option Addr) (n c n' c' : Nat), (binOp .eql 22 (.slice a n c) (.slice none n' c')).run Try.prog w = .ok (.bool a.isNone) w := fun w a n c n' c' => Lib.run_eql_slice_nil w _ _ a n c n' c' Try.underlying22
  obtain ⟨A, cap, rfl, c1, c2, hA⟩ := h.form
  cases A with
  | none =>
    obtain rfl := hA rfl
    have h0 : l.length = 0 := by omega
    obtain rfl := List.length_eq_zero_iff.1 h0
    go_enter Try.func6, Try.ntmps6
    go_wp2_with fail
    go_ret
    exact ⟨_, rfl, ⟨by simp, .inl ⟨rfl, rfl⟩⟩, Evo.refl _⟩
  | some a =>
    have HR := Lib.hid h
    have HK := Lib.hid hk
    have H1 := Lib.hid h1
    clear h hk h1
    go_enter Try.func6, Try.ntmps6
    go_wp2_with (at_builtin; refine wpList_append_rows rfl (.tmp 5) (.tmp 6) 22 rfl 27 _ 4 40 Try.underlying22 info_raw rfl (by decide) w ((Evo.refl _).alloc _) [] l _ _ rfl rfl ⟨World.ownsRow_made w #[] 0 (Nat.le_refl _) (Nat.zero_le _) (by simp)⟩ (HR.out.at ((Evo.refl _).alloc _)) HK.out H1.out ?c1 ?c2 ?_)
    case c1 => simp; omega
    case c2 => simpa using hl
    intro v' w1 hown hbl hg
    have HW := Lib.hid (⟨hown, hbl⟩ : Own w1 w.heap.size 27 4 v' ([] ++ l).length ([] ++ l).flatten ∧ Evo w w1)
    clear hown hg hbl
    go_wp2_with fail
    go_ret
    exact ⟨_, rfl, HW.out.1, HW.out.2⟩

end Go.Proofs.Ytjpgjnldeafpkaa
