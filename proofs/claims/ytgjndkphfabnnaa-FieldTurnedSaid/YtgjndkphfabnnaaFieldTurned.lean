/-
  For all raw things and numbers FieldTurned returns true: the validity of a list of fields does not depend on their order. No condition.
-/
import Derived.Test.YtgjndkphfabnnaaFormR
import Derived.Test.YtgjndkphfabnnaaBridge
import Derived.Test.YtgjndkphfabnnaaRowOps
import Derived.Lib.AppendZerosOnto
import Derived.Test.YtgjndkphfabnnaaLawX
namespace Go.Proofs.Ytgjndkphfabnnaa
open Go.RowKit
set_option linter.unusedVariables false

theorem info_fld : (Try.prog.info? 40).map (fun i => (i.zero, i.size, i.bytes)) = some (some (.agg #[.string ⟨#[]⟩, .int .i64 0, .int .i64 0, .int .i64 0, .int .i64 0, .int .i64 0, .string ⟨#[]⟩, .string ⟨#[]⟩, .slice none 0 0]), 9, 112) := by kernel_rfl

set_option maxRecDepth 100000 in
set_option maxHeartbeats 4000000 in
/-- slices.Grow at nil. -/
theorem grow_fld (n : Nat) (w : World) (hl : n * 112 ≤ 140737488355328) : Calls Try.prog 58 #[.slice none 0 0, .int .i64 n] w (GivesOwn 40 9 [] w) := by
  have hn63 : n ≤ 140737488355328 := by omega
  obtain ⟨i0, hi0, hz0, hz1, hz2⟩ := info_parts info_fld
  have h1 : ¬ ((n : Int) < 0) := by omega
  rcases Nat.eq_zero_or_pos n with rfl | hpos
  · go_enter Try.func58, Try.ntmps58
    go_wp2_with fail
    go_ret
    exact ⟨_, rfl, ⟨by simp, .inl ⟨rfl, rfl⟩⟩, Evo.refl _⟩
  · have h4 : (0 : Int) < (n : Int) := by omega
    have hrz : ∀ ty, (Builtin.append_ #[30, 3] ty #[.slice none 0 0, .int .i64 (n : Int)]).run Try.prog w =
        .ok (.slice (some ⟨w.heap.size, 0, none⟩) n (grownCap w n 0 40)) (w.drew.alloc (.cells ((#[] : Array Value) ++ Builtin.zeroCells (.agg #[.string ⟨#[]⟩, .int .i64 0, .int .i64 0, .int .i64 0, .int .i64 0, .int .i64 0, .string ⟨#[]⟩, .string ⟨#[]⟩, .slice none 0 0] : Value).cells n ++ Builtin.zeroCells (.agg #[.string ⟨#[]⟩, .int .i64 0, .int .i64 0, .int .i64 0, .int .i64 0, .int .i64 0, .string ⟨#[]⟩, .string ⟨#[]⟩, .slice none 0 0] : Value).cells (grownCap w n 0 40 - n)) 40)) := fun ty => by
      have h := Lib.run_append_grow_zeros w 30 3 ty 40 i0 (.agg #[.string ⟨#[]⟩, .int .i64 0, .int .i64 0, .int .i64 0, .int .i64 0, .int .i64 0, .string ⟨#[]⟩, .string ⟨#[]⟩, .slice none 0 0]) .i64 .i64 Try.underlying30 Try.underlying3 hi0 hz0 none 0 0 [] (run_firstCells_none w.drew i0.size 0 0 0) n (by omega) (by rw [hz1]; omega) (by omega) (by omega) (by rw [hz2]; omega) (by rw [hz2]; exact growslice_fits (by omega) (by simpa using hl))
      simpa using h
    have hGn : n ≤ grownCap w n 0 40 := grownCap_ge w _ _ _
    have hG63 := grownCap_le_maxLen w n 0 40 (by unfold maxLen; omega)
    obtain ⟨G, hG⟩ : ∃ G, G = grownCap w n 0 40 := ⟨_, rfl⟩
    rw [← hG] at hrz hGn hG63
    clear hG
    have hsz : ((#[] : Array Value) ++ Builtin.zeroCells (.agg #[.string ⟨#[]⟩, .int .i64 0, .int .i64 0, .int .i64 0, .int .i64 0, .int .i64 0, .string ⟨#[]⟩, .string ⟨#[]⟩, .slice none 0 0] : Value).cells n ++ Builtin.zeroCells (.agg #[.string ⟨#[]⟩, .int .i64 0, .int .i64 0, .int .i64 0, .int .i64 0, .int .i64 0, .string ⟨#[]⟩, .string ⟨#[]⟩, .slice none 0 0] : Value).cells (G - n)).size = G * 9 := by
      simp [Builtin.zeroCells, Value.cells]; omega
    have hown : Own (w.drew.alloc (.cells ((#[] : Array Value) ++ Builtin.zeroCells (.agg #[.string ⟨#[]⟩, .int .i64 0, .int .i64 0, .int .i64 0, .int .i64 0, .int .i64 0, .string ⟨#[]⟩, .string ⟨#[]⟩, .slice none 0 0] : Value).cells n ++ Builtin.zeroCells (.agg #[.string ⟨#[]⟩, .int .i64 0, .int .i64 0, .int .i64 0, .int .i64 0, .int .i64 0, .string ⟨#[]⟩, .string ⟨#[]⟩, .slice none 0 0] : Value).cells (G - n)) 40)) w.heap.size 40 9 (.slice (some ⟨w.heap.size, 0, none⟩) 0 G) 0 [] :=
      ⟨World.ownsRow_made w.drew _ G (by exact Nat.le_refl _) hG63 hsz⟩
    have hE : Evo w (w.drew.alloc (.cells ((#[] : Array Value) ++ Builtin.zeroCells (.agg #[.string ⟨#[]⟩, .int .i64 0, .int .i64 0, .int .i64 0, .int .i64 0, .int .i64 0, .string ⟨#[]⟩, .string ⟨#[]⟩, .slice none 0 0] : Value).cells n ++ Builtin.zeroCells (.agg #[.string ⟨#[]⟩, .int .i64 0, .int .i64 0, .int .i64 0, .int .i64 0, .int .i64 0, .string ⟨#[]⟩, .string ⟨#[]⟩, .slice none 0 0] : Value).cells (G - n)) 40)) := (Evo.refl w).drew.alloc _
    obtain ⟨W, hW⟩ : ∃ W, W = w.drew.alloc (.cells ((#[] : Array Value) ++ Builtin.zeroCells (.agg #[.string ⟨#[]⟩, .int .i64 0, .int .i64 0, .int .i64 0, .int .i64 0, .int .i64 0, .string ⟨#[]⟩, .string ⟨#[]⟩, .slice none 0 0] : Value).cells n ++ Builtin.zeroCells (.agg #[.string ⟨#[]⟩, .int .i64 0, .int .i64 0, .int .i64 0, .int .i64 0, .int .i64 0, .string ⟨#[]⟩, .string ⟨#[]⟩, .slice none 0 0] : Value).cells (G - n)) 40) := ⟨_, rfl⟩
    rw [← hW] at hrz hown hE
    have HO := Lib.hid hown
    unfold maxLen at hG63
    clear hW hsz hown hpos
    go_enter Try.func58, Try.ntmps58
    go_wp2_with (at_builtin; refine Lib.wpList_append_run _ rfl _ _ _ _ rfl _ _ rfl rfl _ _ (hrz _) ?_)
    all_goals (go_ret; exact ⟨_, rfl, HO.out, hE⟩)

set_option maxRecDepth 100000 in
set_option maxHeartbeats 4000000 in
theorem concat_fld (v va vb : Value) (la lb : List (List Value)) (w : World) (h : Sl w 1 v [[va], [vb]]) (ha : Sl w 9 va la) (hb : Sl w 9 vb lb) (ka : Len 9 la) (kb : Len 9 lb) (oa : One la) (ob : One lb) (hl : (la.length + lb.length) * 112 ≤ 140737488355328) :
    Calls Try.prog 26 #[v] w (GivesOwn 40 9 (la ++ lb) w) := by
  obtain ⟨A, cap, rfl, hcap, hmax, -⟩ := h.form
  obtain ⟨b, off, rfl, hbl, hc0⟩ := h.row (i := 0) (r := [va]) rfl
  obtain ⟨b', off', e', -, hc1⟩ := h.row (i := 1) (r := [vb]) rfl
  simp only [Option.some.injEq, Addr.mk.injEq] at e'
  obtain ⟨rfl, rfl, -⟩ := e'
  have c0 : ∀ W, Evo w W → W.cell? ⟨b, off, none⟩ = some va := by simpa using hc0 0 _ rfl
  have c1 : ∀ W, Evo w W → W.cell? ⟨b, off + 1, none⟩ = some vb := by simpa using hc1 0 _ rfl
  obtain ⟨A1, cap1, rfl, hcap1, hmax1, -⟩ := ha.form
  obtain ⟨A2, cap2, rfl, hcap2, hmax2, -⟩ := hb.form
  have HA := Lib.hid ha
  have HB := Lib.hid hb
  have KA := Lib.hid ka
  have KB := Lib.hid kb
  have OA := Lib.hid oa
  have OB := Lib.hid ob
  have hg := fun W => grow_fld (la.length + lb.length) W (by omega)
  simp only [Int.natCast_add] at hg
  have HG := Lib.hid hg
  clear hg
  have l0 : la.length ≤ 140737488355328 := by omega
  have l1 : lb.length ≤ 140737488355328 := by omega
  clear h ha hb ka kb oa ob hc0 hc1
  go_enter Try.func26, Try.ntmps26
  go_wp2_with fail
  go_loopw [3, 11] (fun s n wr => wr = w ∧ ((s = .int .i64 0 ∧ n = .int .i64 0) ∨ (s = .int .i64 la.length ∧ n = .int .i64 1) ∨ (s = .int .i64 ((la.length : Int) + (lb.length : Int)) ∧ n = .int .i64 2))) (fun _ n _ => 2 - (intOf n).toNat)
  case atStart => exact ⟨rfl, .inl ⟨rfl, rfl⟩⟩
  case round =>
    obtain ⟨rfl, hrel⟩ := hrel
    have e0 := Evo.refl wr
    rcases hrel with ⟨rfl, rfl⟩ | ⟨rfl, rfl⟩ | ⟨rfl, rfl⟩
    · go_wp2_with fail
      go_roundw
      case rel => exact ⟨trivial, .inr (.inl ⟨rfl, rfl⟩)⟩
      case measure => simp [intOf]
    · go_wp2_with fail
      go_roundw
      case rel => exact ⟨trivial, .inr (.inr ⟨rfl, rfl⟩)⟩
      case measure => simp [intOf]
    · go_wp2_with fail
      obtain ⟨wo, rfl⟩ : ∃ wo : World, wo = wr := ⟨_, rfl⟩
      with_reducible refine (HG.out _).mono ?_
      rintro e u1 ⟨v0, rfl, h0, hE⟩
      have HO := Lib.hid h0
      clear h0
      go_wp2_with fail
      go_loopw [6, 27] (fun v n wr => ∃ (k : Nat) (m : List (List Value)), n = .int .i64 k ∧ Own wr wo.heap.size 40 9 v m.length m.flatten ∧ Evo wo wr ∧ ((k = 0 ∧ m = []) ∨ (k = 1 ∧ m = la) ∨ (k = 2 ∧ m = la ++ lb))) (fun _ n _ => 2 - (intOf n).toNat)
      case atStart => exact ⟨0, [], rfl, HO.out, hE, .inl ⟨rfl, rfl⟩⟩
      case round =>
        obtain ⟨k, m, rfl, hown, e1, hm⟩ := hrel
        have HN := Lib.hid hown
        clear hown hE HO
        rcases hm with ⟨rfl, rfl⟩ | ⟨rfl, rfl⟩ | ⟨rfl, rfl⟩
        · go_wp2_with (at_builtin; refine wpList_append_rows rfl (.tmp 31) (.tmp 32) 30 rfl 40 _ 9 112 Try.underlying30 info_fld rfl (by decide) wo e1 [] la _ _ rfl rfl HN.out (HA.out.at e1) KA.out OA.out ?c1 ?c2 ?_)
          case c1 => simp; omega
          case c2 => simp; omega
          intro v' w1 hown e2 hg
          have HM := Lib.hid hown
          clear hown hg e1
          go_wp2_with fail
          go_roundw
          case rel => exact ⟨1, la, rfl, by simpa using HM.out, e2, .inr (.inl ⟨rfl, rfl⟩)⟩
          case measure => simp [intOf]
        · go_wp2_with (at_builtin; refine wpList_append_rows rfl (.tmp 31) (.tmp 32) 30 rfl 40 _ 9 112 Try.underlying30 info_fld rfl (by decide) wo e1 m lb _ _ rfl rfl HN.out (HB.out.at e1) KB.out OB.out ?c1 ?c2 ?_)
          case c1 => omega
          case c2 => omega
          intro v' w1 hown e2 hg
          have HM := Lib.hid hown
          clear hown hg e1
          go_wp2_with fail
          go_roundw
          case rel => exact ⟨2, m ++ lb, rfl, by simpa using HM.out, e2, .inr (.inr ⟨rfl, rfl⟩)⟩
          case measure => simp [intOf]
        · go_wp2_with fail
          go_ret
          exact ⟨_, rfl, by simpa using HN.out, e1⟩

theorem fd_len {fs : List Fd} {vs : List Value} : Len 9 (fdRows fs vs) := fun r hr => by
  obtain ⟨i, hi⟩ := List.getElem?_of_mem hr
  rw [show (fdRows fs vs)[i]? = (List.zipWith fdRow fs vs)[i]? from rfl, List.getElem?_zipWith] at hi
  cases h1 : fs[i]? <;> cases h2 : vs[i]? <;> simp [h1, h2] at hi
  subst hi; rfl
theorem AllArgs.app {h : Vw} : ∀ {l m : List Ex} {us vs : List Value}, AllArgs h l us → AllArgs h m vs → AllArgs h (l ++ m) (us ++ vs)
  | [], m, us, vs, k1, k2 => by unfold AllArgs at k1; subst k1; exact k2
  | x :: l, m, us, vs, k1, k2 => by
    unfold AllArgs at k1
    obtain ⟨u, us', rfl, q1, q2⟩ := k1
    show AllArgs h (x :: (l ++ m)) (u :: (us' ++ vs))
    unfold AllArgs
    exact ⟨_, _, rfl, q1, AllArgs.app q2 k2⟩
theorem AllArgs.drop' {h : Vw} : ∀ (i : Nat) {l : List Ex} {vs : List Value}, AllArgs h l vs → AllArgs h (l.drop i) (vs.drop i)
  | 0, l, vs, k => k
  | i + 1, [], vs, k => by unfold AllArgs at k; subst k; rw [List.drop_nil, List.drop_nil]; unfold AllArgs; rfl
  | i + 1, x :: l, vs, k => by
    unfold AllArgs at k
    obtain ⟨u, us', rfl, q1, q2⟩ := k
    rw [List.drop_succ_cons, List.drop_succ_cons]
    exact AllArgs.drop' i q2
/-- Two lists of fields, one behind the other. -/
theorem c_concatF {h : Vw} {v va vb : Value} {la lb : List Fd} {us ws : List Value} (hr : RS h 1 v [[va], [vb]]) (ha : RS h 9 va (fdRows la us)) (hb : RS h 9 vb (fdRows lb ws)) (sa : AllSrc h la us) (sb : AllSrc h lb ws) (ia : ∀ u ∈ us, .slice (sA u) (sN u) (sC u) = u) (ib : ∀ u ∈ ws, .slice (sA u) (sN u) (sC u) = u) (hl : la.length + lb.length ≤ 1000) :
    C0 Try.prog 26 #[v] h (fun r h' => ∃ u, r = .slice (sA u) (sN u) (sC u) ∧ IsFds h' (.slice (sA u) (sN u) (sC u)) (la ++ lb)) := by
  have hc := concat_fld v va vb (fdRows la us) (fdRows lb ws) h.w (Sl.of_rs hr) (Sl.of_rs ha) (Sl.of_rs hb) fd_len fd_len (fun r hr => fdRows_one la us ia r hr) (fun r hr => fdRows_one lb ws ib r hr) (by rw [fdRows_len sa.len, fdRows_len sb.len]; omega)
  have e : fdRows la us ++ fdRows lb ws = fdRows (la ++ lb) (us ++ ws) := (List.zipWith_append sa.len.symm).symm
  rw [e] at hc
  refine (C0.of_own fd_len hc).mono fun r h' s => ?_
  rintro ⟨u, rfl, k⟩
  refine ⟨u, rfl, us ++ ws, k, ?_⟩
  unfold AllSrc
  rw [List.map_append]
  exact AllArgs.app (sa.sees s) (sb.sees s)
theorem rot_mem {α : Type} {l : List α} {k : Nat} {x : α} : x ∈ l.drop k ++ l.take k ↔ x ∈ l := by
  rw [List.mem_append, or_comm, ← List.mem_append, List.take_append_drop]
theorem rot_nodup {l : List ByteArray} {k : Nat} (h : l.Nodup) : (l.drop k ++ l.take k).Nodup := by
  have : (l.take k ++ l.drop k).Nodup := by rw [List.take_append_drop]; exact h
  exact (List.perm_append_comm.nodup_iff).1 this

set_option maxRecDepth 100000 in
theorem check_bad (b : Nat) (h : Vw) (hc : Cells h b 0 [.string ⟨#[97]⟩, .int .i64 2, .int .i64 1, .int .i64 0, .int .i64 0, .int .i64 0, .string ⟨#[]⟩, .string ⟨#[]⟩, .slice none 0 0]) : C0 Try.prog 27 #[.slice (some ⟨b, 0, none⟩) 1 1] h (fun r _ => r = .int .i64 2) := by
  have hra : RS h 9 (.slice (some ⟨b, 0, none⟩) 1 1) [[.string ⟨#[97]⟩, .int .i64 2, .int .i64 1, .int .i64 0, .int .i64 0, .int .i64 0, .string ⟨#[]⟩, .string ⟨#[]⟩, .slice none 0 0]] := rs_cells (k := 9) [[.string ⟨#[97]⟩, .int .i64 2, .int .i64 1, .int .i64 0, .int .i64 0, .int .i64 0, .string ⟨#[]⟩, .string ⟨#[]⟩, .slice none 0 0]] (fun r hr => by rw [List.mem_singleton.1 hr]; rfl) (by decide) hc
  have hra0 : [[.string ⟨#[97]⟩, .int .i64 2, .int .i64 1, .int .i64 0, .int .i64 0, .int .i64 0, .string ⟨#[]⟩, .string ⟨#[]⟩, .slice none 0 0]][0]? = some ([.string ⟨#[97]⟩, .int .i64 2, .int .i64 1, .int .i64 0, .int .i64 0, .int .i64 0, .string ⟨#[]⟩, .string ⟨#[]⟩, .slice none 0 0] : List Value) := rfl
  refine x_con Try.func27 (c := Try.f27.body.getD .skip) (by kernel_rfl) (N := 51) rfl (by kernel_rfl) ?_
  intro hbx hbad Q hQ a w hJ
  replace hJ : K ⟨51, h.w, h.bad, []⟩ [(0, .slice (some ⟨b, 0, none⟩) 1 1)] [] [] h a w := hJ.to (by kernel_rfl) (by kernel_rfl) rfl
  refine rx hJ false 25 [] [] (.ok (.code [0, 1, 0, 1, 1]) [.block 0, .seq [1, 1, 1]] [(0, .slice (some ⟨b, 0, none⟩) 1 1), (2, .int .i64 0), (14, .slice (some ⟨b, 0, none⟩) 1 1), (15, .int .i64 1), (16, .int .i64 0)] [] []) trivial trivial (fun _ => by kernel_rfl) ?_
  clear hJ a w; intro a w hJ
  refine x_loop (fun (k : Nat) a w => ∃ (h1 : Vw) , K ⟨51, h.w, h.bad, []⟩ [(0, .slice (some ⟨b, 0, none⟩) 1 1), (14, .slice (some ⟨b, 0, none⟩) 1 1), (15, .int .i64 1), (16, .int .i64 ((0 : Nat) : Int))] [] [] h1 a w ∧ Sees h h1 ∧ (k = 0)) (fun k => 0 - k) (0) (by kernel_rfl) ⟨h, hJ.to (by kernel_rfl) (by kernel_rfl) rfl, Sees.refl _, rfl⟩ ?_
  clear hJ a w; rintro k a w ⟨h1, hJ, s2, hk⟩
  refine rx hJ false 6 [] [] (.ok (.code [0, 1, 0, 0, 1, 0, 1, 1]) [.seq [1, 1, 0, 0, 1, 0, 1, 1]] [(0, .slice (some ⟨b, 0, none⟩) 1 1), (14, .slice (some ⟨b, 0, none⟩) 1 1), (15, .int .i64 1), (16, .int .i64 ((0 : Nat) : Int)), (17, .bool (decide (((0 : Nat) : Int) < 1)))] [] []) trivial trivial (fun _ => by kernel_rfl) ?_
  clear hJ a w; intro a w hJ
  refine x_true hJ (t := decide (((0 : Nat) : Int) < 1)) (by kernel_rfl) (by decide) ?_
  refine rx hJ false 7 [] [] (.ok (.ops [0, 0, 0, 1, 1, 0, 0, 1, 0, 1, 1] 1) [.seq [1, 0, 0, 1, 1, 0, 0, 1, 0, 1, 1], .block 1, .seq [1, 1, 1, 0, 0, 1, 0, 1, 1]] [(0, .slice (some ⟨b, 0, none⟩) 1 1), (14, .slice (some ⟨b, 0, none⟩) 1 1), (15, .int .i64 1), (16, .int .i64 ((0 : Nat) : Int)), (17, .bool (decide (((0 : Nat) : Int) < 1))), (18, .int .i64 ((0 : Nat) : Int))] [] []) trivial trivial (fun _ => by kernel_rfl) ?_
  clear hJ a w; intro a w hJ
  have c3 := RS.cell hra (hra0)
  replace hJ := hJ.fact (c3.sees s2)
  refine rx hJ false 32 [.ix b 0 1 1 0, .f 0 0, .own, .b 0 0, .b 0 0, .cl 59 #[.agg #[.string ⟨#[97]⟩, .int .i64 2, .int .i64 1, .int .i64 0, .int .i64 0, .int .i64 0, .string ⟨#[]⟩, .string ⟨#[]⟩, .slice none 0 0]] (.int .i64 2)] [] (.new fun b4 => .ok (.out .ret) [] [(0, .slice (some ⟨b, 0, none⟩) 1 1), (14, .slice (some ⟨b, 0, none⟩) 1 1), (15, .int .i64 1), (16, .int .i64 ((0 : Nat) : Int)), (17, .bool (decide (((0 : Nat) : Int) < 1))), (18, .int .i64 ((0 : Nat) : Int)), (19, .pointer (some ⟨b, 0 + 0 * 9, none⟩)), (20, .agg #[.string ⟨#[97]⟩, .int .i64 2, .int .i64 1, .int .i64 0, .int .i64 0, .int .i64 0, .string ⟨#[]⟩, .string ⟨#[]⟩, .slice none 0 0]), (4, .pointer (some ⟨b4, 0, none⟩)), (3, .int .i64 ((0 : Nat) : Int)), (21, .agg #[.string ⟨#[97]⟩, .int .i64 2, .int .i64 1, .int .i64 0, .int .i64 0, .int .i64 0, .string ⟨#[]⟩, .string ⟨#[]⟩, .slice none 0 0]), (22, .int .i64 2), (5, .int .i64 2), (23, .int .i64 2), (24, .bool true), (25, .int .i64 2), (2, .int .i64 2)] [.box b4 [.string ⟨#[97]⟩, .int .i64 2, .int .i64 1, .int .i64 0, .int .i64 0, .int .i64 0, .string ⟨#[]⟩, .string ⟨#[]⟩, .slice none 0 0]] [(b, 0 + 0 * 9, [.string ⟨#[97]⟩, .int .i64 2, .int .i64 1, .int .i64 0, .int .i64 0, .int .i64 0, .string ⟨#[]⟩, .string ⟨#[]⟩, .slice none 0 0])]) (And.intro (by first | omega | (simp; omega)) (And.intro (fun H sH => right_none _ _ (fname_ok (k := 0) (by decide))) (trivial))) trivial (fun b4 _ => by kernel_rfl) ?_
  clear hJ a w; intro b4 a w hJ
  refine x_leave rfl ?_
  refine rx hJ false 2 [] [] (.ok (.out .ret) [] [(2, .int .i64 2)] [.box b4 [.string ⟨#[97]⟩, .int .i64 2, .int .i64 1, .int .i64 0, .int .i64 0, .int .i64 0, .string ⟨#[]⟩, .string ⟨#[]⟩, .slice none 0 0]] [(b, 0 + 0 * 9, [.string ⟨#[97]⟩, .int .i64 2, .int .i64 1, .int .i64 0, .int .i64 0, .int .i64 0, .string ⟨#[]⟩, .string ⟨#[]⟩, .slice none 0 0])]) trivial trivial (fun _ => by kernel_rfl) ?_
  clear hJ a w; intro a w hJ
  refine x_end (hQ [.int .i64 2] _ [] hJ (.rtmp hJ.j (by kernel_rfl) .nil) (no_own _) rfl ?_).1
  exact rfl

set_option maxHeartbeats 4000000 in
set_option maxRecDepth 100000 in
theorem fieldTurned_c (l : List RawD) (sl : Value) (n : Int) (h : Vw) (hl : RS h 4 sl (l.map RawD.cs)) (ll : l.length * 40 ≤ reachBytes) (ol : ∀ r ∈ l, r.ok) (i0 : -9223372036854775808 ≤ n) (i1 : n ≤ 9223372036854775807) :
    C0 Try.prog 4 #[sl, .int .i64 n] h (fun v _ => v = .bool true) := by
  have hF := form_c l sl
  have hlen := form_len l
  have hnl := nFields_le l
  have hnd := form_nodup l
  have hok := form_okFs l
  generalize formE l = fm at *
  have p0 := pickL_lo n fm.fields.length (by omega)
  have p1 := pickL_hi n fm.fields.length (by omega)
  have hpk := c_picked n fm.fields.length
  obtain ⟨k, hk⟩ : ∃ k : Nat, pickL n fm.fields.length = (k : Int) := ⟨_, (Int.toNat_of_nonneg p0).symm⟩
  rw [hk] at p1 hpk
  have ok1 := hok fm.fields hnd (fun f => Iff.rfl) (by omega)
  have ok2 := hok (fm.fields.drop k ++ fm.fields.take k) (by rw [List.map_append, List.map_drop, List.map_take]; exact rot_nodup hnd) (fun f => rot_mem) (by rw [List.length_append, List.length_drop, List.length_take]; omega)
  obtain ⟨A0, c0, rfl, -, -, -⟩ := hl.form
  rw [List.length_map] at *
  refine x_con Try.func4 (c := Try.f4.body.getD .skip) (by kernel_rfl) (N := 35) rfl (by kernel_rfl) ?_
  intro hbx hbad Q hQ a w hJ
  replace hJ : K ⟨35, h.w, h.bad, []⟩ [(0, .slice A0 l.length c0), (1, .int .i64 n)] [] [] h a w := hJ.to (by kernel_rfl) (by kernel_rfl) rfl
  refine rx hJ false 8 [] [] (.ok (.ops [0, 1] 1) [.seq [1, 1]] [(1, .int .i64 n), (4, .bool false), (8, .slice A0 l.length c0)] [] []) trivial trivial (fun _ => by kernel_rfl) ?_
  clear hJ a w; intro a w hJ
  refine x_call hJ 9 (hF _ (hl.sees hJ.j.sees) ll ol) (fun _ => by kernel_rfl) ?_; clear hJ a w; rintro _ h1 a w s2 ⟨A, c, B, d, rfl, hfm⟩ hJ
  refine rx hJ false 14 [.cl 16 #[.int .i64 n, .int .i64 (fm.fields.length : Int)] (.int .i64 (k : Int))] [] (.ok (.code [0, 1, 1, 1]) [.seq [1, 1, 1, 1]] [(4, .bool false), (5, .slice A fm.fields.length c), (6, .int .i64 (k : Int))] [] []) (And.intro (fun H sH => hpk _ i0 i1 (by omega) (by omega)) (trivial)) trivial (fun _ => by kernel_rfl) ?_
  clear hJ a w; intro a w hJ
  obtain ⟨vs, A', c', e, hcap, -, hr, hsrc, hvl, hsl⟩ := fds_open hfm.fields
  simp only [Value.slice.injEq] at e
  obtain ⟨rfl, -, rfl⟩ := e
  have hcc : ∀ (H : Vw) (b : Nat) (Ad : Option Addr), Sees h1 H → Cells H b 0 [.slice Ad (fm.fields.length - k) (c - k), .slice A k c] → (Ad = if c = k then A else A.map (·.add (k * 9))) →
      C0 Try.prog 26 #[.slice (some ⟨b, 0, none⟩) 2 2] H (fun r h' => ∃ u, r = .slice (sA u) (sN u) (sC u) ∧ IsFds h' (.slice (sA u) (sN u) (sC u)) (fm.fields.drop k ++ fm.fields.take k)) := fun H b Ad s hc e => by
    have g1 := (hr.sees s).take k (by rw [fdRows_len hvl]; omega)
    have g2 := (hr.sees s).drop k (by rw [fdRows_len hvl]; omega)
    rw [← e] at g2
    rw [show (fdRows fm.fields vs).take k = fdRows (fm.fields.take k) (vs.take k) from List.take_zipWith] at g1
    rw [show (fdRows fm.fields vs).drop k = fdRows (fm.fields.drop k) (vs.drop k) from List.drop_zipWith] at g2
    have s1 := (fds_take (hfm.fields.sees s) k (by omega))
    have hs := hsrc.sees s
    have sd : AllSrc H (fm.fields.drop k) (vs.drop k) := by unfold AllSrc; rw [List.map_drop]; exact AllArgs.drop' k hs
    have st : AllSrc H (fm.fields.take k) (vs.take k) := by
      unfold AllSrc
      rw [List.map_take]
      exact AllArgs.take' k hs
    exact c_concatF (rs_cells (k := 1) [[.slice Ad (fm.fields.length - k) (c - k)], [.slice A k c]] (fun r hr => by simp at hr; rcases hr with rfl | rfl <;> rfl) (show (2 : Nat) ≤ maxLen by decide) hc) g2 g1 sd st (fun u hu => hsl u (List.mem_of_mem_drop hu)) (fun u hu => hsl u (List.mem_of_mem_take hu)) (by rw [List.length_drop, List.length_take]; omega)
  obtain ⟨Ad, hAd⟩ : ∃ x, x = (if c = k then A else (A : Option Addr).map (·.add (k * 9))) := ⟨_, rfl⟩
  let R : Reg := ⟨⟨35, h.w, h.bad, []⟩, [(0, 15, fun gh => .slice A fm.fields.length c), (1, 16, fun gh => .int .i64 (k : Int)), (2, 17, fun gh => .slice Ad (fm.fields.length - k) (c - k)), (3, 18, fun gh => .slice A fm.fields.length c), (4, 19, fun gh => .int .i64 (k : Int)), (5, 20, fun gh => .slice A k c), (6, 21, fun gh => .slice (some ⟨(blkOf (gh 6)), 0, none⟩) 2 2), (7, 22, fun gh => .slice (sA (gh 7)) (sN (gh 7)) (sC (gh 7))), (8, 7, fun gh => .slice (sA (gh 7)) (sN (gh 7)) (sC (gh 7)))], [(4, .bool false), (5, .slice A fm.fields.length c), (6, .int .i64 (k : Int))], [], [(6, fun gh hh => Cells hh (blkOf (gh 6)) 0 [.slice Ad (fm.fields.length - k) (c - k), .slice A k c]), (7, fun gh hh => IsFds hh (.slice (sA (gh 7)) (sN (gh 7)) (sC (gh 7))) (fm.fields.drop k ++ fm.fields.take k))], [[], [], [0, 1], [], [], [3, 4], [0, 1, 2, 3, 4, 5], [0, 1, 2, 3, 4, 5, 6], [0, 1, 2, 3, 4, 5, 6, 7]], h1⟩
  have hmono : ∀ zq ∈ R.F, ∀ zx zh zi, Sees zh zi → zq.2 zx zh → zq.2 zx zi := mono_cons (fun _ _ _ s c => c.sees s) (mono_cons (fun _ _ _ s c => c.sees s) (mono_nil))
  refine x_region (by kernel_rfl) R hJ 9 [.pu, .pu, .cl, .pu, .pu, .cl, .cl, .cl, .pu] (by kernel_rfl) hmono (fun _ _ _ => by kernel_rfl) (fun hT hA => ?_) ?_
  · clear hJ
    refine And.intro (r_pure hT hA 17 (fun gh => .slice Ad (fm.fields.length - k) (c - k)) [0, 1] 2 (by kernel_rfl) (by kernel_rfl) (by kernel_rfl) (fun _ => by kernel_rfl) (fun gh w => run_lo (t := 30) (e := 40) (x := (.tmp 15)) (y := (.tmp 16)) (A := A) (A' := Ad) (n := fm.fields.length) (cap := c) (k := k) (kk := 9) (by kernel_rfl) (by kernel_rfl) (by kernel_rfl) (by omega) Try.underlying30 (by kernel_rfl) hAd)) ?_
    refine And.intro (r_pure hT hA 20 (fun gh => .slice A k c) [3, 4] 5 (by kernel_rfl) (by kernel_rfl) (by kernel_rfl) (fun _ => by kernel_rfl) (fun gh w => run_hi (t := 30) (e := 40) (x := (.tmp 18)) (y := (.tmp 19)) (A := A) (n := fm.fields.length) (cap := c) (k := k) (kk := 9) (by kernel_rfl) (by kernel_rfl) (by kernel_rfl) (by omega) Try.underlying30 (by kernel_rfl))) ?_
    refine And.intro (r_fact hT hA hmono ⟨fun _ _ => by kernel_rfl, fun _ _ => by kernel_rfl, fun _ _ => by kernel_rfl⟩ 21 (fun g => .slice (some ⟨g, 0, none⟩) 2 2) [2, 5] 6 (by kernel_rfl) (by kernel_rfl) (fun _ => by kernel_rfl) (fun gh => [.slice Ad (fm.fields.length - k) (c - k), .slice A k c]) 30 (fun _ _ => by kernel_rfl) (fun gh zb zH zc zj zq zhq zhe => own_fact (i := 6) (k := 0) (f := fun gh hh => Cells hh (blkOf (gh 6)) 0 [.slice Ad (fm.fields.length - k) (c - k), .slice A k c]) (by kernel_rfl) (by kernel_rfl) zc zj zq zhq zhe)) ?_
    refine And.intro (r_call hT hA hmono ⟨fun _ _ => by kernel_rfl, fun _ _ => by kernel_rfl, fun _ _ => by kernel_rfl⟩ 22 (fun u => .slice (sA u) (sN u) (sC u)) [6] 7 (by kernel_rfl) (by kernel_rfl) (fun _ => by kernel_rfl) 26 (fun gh => #[.slice (some ⟨(blkOf (gh 6)), 0, none⟩) 2 2]) (fun _ _ => by kernel_rfl) (fun gh H sH fH lent => C0.facts (R := R) (x := gh) (i := 7) (n := 1) (F := (fun u => .slice (sA u) (sN u) (sC u))) (G := fun u hh => IsFds hh (.slice (sA u) (sN u) (sC u)) (fm.fields.drop k ++ fm.fields.take k)) (f := fun gh hh => IsFds hh (.slice (sA (gh 7)) (sN (gh 7)) (sC (gh 7))) (fm.fields.drop k ++ fm.fields.take k)) (hcc _ _ _ sH (fH 0 _ rfl (by kernel_rfl)) hAd) (by kernel_rfl) (by kernel_rfl) (fun _ _ r => r))) ?_
    trivial
  clear hJ a w; intro gh h5 a w sR hJ1 hF; have s6 : Sees h1 h5 := sR; clear sR
  have hJ : K ⟨35, h.w, h.bad, []⟩ [(4, .bool false), (5, .slice A fm.fields.length c), (7, .slice (sA (gh 7)) (sN (gh 7)) (sC (gh 7)))] [] [] h5 a w := hJ1.to (by kernel_rfl) (by kernel_rfl) rfl
  have f3 : Cells h5 (blkOf (gh 6)) 0 [.slice Ad (fm.fields.length - k) (c - k), .slice A k c] := Reg.fact (i := 6) (f := fun gh hh => Cells hh (blkOf (gh 6)) 0 [.slice Ad (fm.fields.length - k) (c - k), .slice A k c]) hF 0 (by kernel_rfl)
  replace hJ := hJ.fact f3
  have f22 : IsFds h5 (.slice (sA (gh 7)) (sN (gh 7)) (sC (gh 7))) (fm.fields.drop k ++ fm.fields.take k) := Reg.fact (i := 7) (f := fun gh hh => IsFds hh (.slice (sA (gh 7)) (sN (gh 7)) (sC (gh 7))) (fm.fields.drop k ++ fm.fields.take k)) hF 1 (by kernel_rfl)
  clear hJ1 hF hmono R
  generalize blkOf (gh 6) = b4 at *
  generalize gh 7 = u22 at *
  clear gh
  refine rx hJ true 6 [.fix] [] (.new fun bone => .ok (.ops [0, 0, 1, 1, 1, 1] 2) [.seq [1, 0, 1, 1, 1, 1], .seq [1, 1, 1, 1, 1]] [(4, .bool false), (5, .slice A fm.fields.length c), (7, .slice (sA u22) (sN u22) (sC u22)), (24, .slice (some ⟨bone, 0, none⟩) 1 1)] [] [(bone, 0, [.string ⟨#[97]⟩, .int .i64 2, .int .i64 1, .int .i64 0, .int .i64 0, .int .i64 0, .string ⟨#[]⟩, .string ⟨#[]⟩, .slice none 0 0]), (b4, 0, [.slice Ad (fm.fields.length - k) (c - k), .slice A k c])]) trivial trivial (fun bone _ => by kernel_rfl) ?_
  clear hJ a w; intro bone h7 a w s8 hJ
  have one : Cells h7 bone 0 [.string ⟨#[97]⟩, .int .i64 2, .int .i64 1, .int .i64 0, .int .i64 0, .int .i64 0, .string ⟨#[]⟩, .string ⟨#[]⟩, .slice none 0 0] := hJ.f _ (List.mem_of_getElem? (i := 0) rfl)
  refine rx hJ false 21 [.cl 27 #[.slice (some ⟨bone, 0, none⟩) 1 1] (.int .i64 2), .cl 27 #[.slice A fm.fields.length c] (.int .i64 0), .cl 27 #[.slice (sA u22) (sN u22) (sC u22)] (.int .i64 0)] [] (.ok (.out .ret) [] [(4, .bool true)] [] [(bone, 0, [.string ⟨#[97]⟩, .int .i64 2, .int .i64 1, .int .i64 0, .int .i64 0, .int .i64 0, .string ⟨#[]⟩, .string ⟨#[]⟩, .slice none 0 0]), (b4, 0, [.slice Ad (fm.fields.length - k) (c - k), .slice A k c])]) (And.intro (fun H sH => check_bad _ _ (one.sees sH)) (And.intro (fun H sH => check_fields fm.fields _ _ ok1 ((hfm.sees (s6.trans (s8.trans sH)))).fields) (And.intro (fun H sH => check_fields _ _ _ ok2 (f22.sees (s8.trans sH))) (trivial)))) trivial (fun _ => by kernel_rfl) ?_
  clear hJ a w; intro a w hJ
  refine x_end (hQ [.bool true] _ [] hJ (.rtmp hJ.j (by kernel_rfl) .nil) (no_own _) rfl ?_).1
  exact rfl

theorem fieldTurned_walk (v : Value) (l : List RawD) (n : Int) (w : World) (h : RawsOf w v l) (i0 : -9223372036854775808 ≤ n) (i1 : n ≤ 9223372036854775807) :
    Calls Try.prog 4 #[v, .int .i64 n] w fun e w' => e = .returned (.bool true) ∧ Below w.heap.size w w' :=
  C0.law (fieldTurned_c l v n ⟨w, []⟩ h.rs h.2.1 h.2.2 i0 i1)

namespace fieldTurnedLaw
open Go.ChangeShapes Go.WideShapes Go.ChangeAt Go.RowKit
open Go.ChangeMaps (open_string shut_string)
set_option linter.unusedVariables false

set_option maxRecDepth 100000 in
theorem lifted (os : Os) (started : os.Started) (H : Type) (enc : TypeId × Value → H) :
    ReturnsInHanded {} Try.checked os 4 .any (Rows.fieldTurnedSpec.pre6 enc Try.prog Try.f4 Rows.fieldTurnedRow.domain false) (Rows.fieldTurnedSpec.post enc Try.prog Try.f4 false true false false) := by
  refine returnsInHanded_of_change_sized (C := Try.checked) ownNone started (by kernel_rfl) Try.func4
    (ChangeSpec.witness6 (enc := enc) (C := Try.checked) false ⟨#[], #[.slice none 0 0, .int .i64 0], []⟩ 8 (by kernel_rfl) (by kernel_rfl) (by kernel_rfl) (by kernel_rfl)) ?_
  intro W base args ds gs before hval0 hW hcnd hsz0 _
  have hval : ∀ (j : Nat) t v, Try.f4.params[j]? = some t → args[j]? = some v → Value.okWide Try.prog W .any base t v := hval0
  have hsz : (DataW.weightsEach Try.prog (Try.f4.params.toList ++ Rows.fieldTurnedSpec.plain.varTypes Try.prog) (ds ++ gs)).all (· ≤ reachBytes) = true := hsz0
  have hW' := hW
  obtain ⟨p, q, hA0, hV, rfl, hfz, hnd⟩ := hW
  have hA : DataW.TrodAll enc Try.prog W 0 (fun _ => true) true Try.f4.params.toList args.toList ds p := hA0
  rw [Try.params4] at hA hval hsz
  obtain ⟨v0, vs0, d0, ds0, p0, q0, hargs, rfl, rfl, h0, r0⟩ := trodAll_cons hA
  obtain ⟨v1, vs1, d1, ds1, p1, q1, rfl, rfl, rfl, h1, r1⟩ := trodAll_cons r0
  obtain ⟨rfl, rfl, rfl⟩ := trodAll_nil r1
  obtain rfl : args = #[v0, v1] := by cases args; simp_all
  obtain ⟨rfl, rfl⟩ := trodVars_none hV
  have k0 := h0
  have lt0 : ∀ x ∈ p0, x.block < W.heap.size := by obtain ⟨m, hm⟩ := k0; exact DataW.trod_lt m _ _ _ hm
  obtain ⟨a0, w0⟩ := open_rows (hval 0 22 v0 rfl rfl) h0 (fun es ss hd => sized_slice hsz (j := 0) (t := 22) (elems := es) (spare := ss) rfl (by rw [hd]; rfl) Try.underlying22)
  have k1 := h1
  have lt1 : ∀ x ∈ p1, x.block < W.heap.size := by obtain ⟨m, hm⟩ := k1; exact DataW.trod_lt m _ _ _ hm
  obtain ⟨a1, rfl, -, -, w1⟩ := open_int Try.underlying3 (hval 1 3 v1 rfl rfl) h1
  clear hA0 hval0 hsz0
  refine (fieldTurned_walk v0 a0 a1 W w0 (int_lo w1) (int_hi w1)).mono fun e W' ⟨he, bel⟩ => ?_
  subst he
  exact ⟨_, rfl, _, _, _, [], _, [], hW', trodAll_mk1 (shut_bool Try.underlying4 _), (trodAll_cons_mk (Below.trod laidOutTrue (by kernel_rfl) (of_decide_eq_true (by kernel_rfl)) k0 bel lt0) (trodAll_cons_mk (Below.trod laidOutTrue (by kernel_rfl) (of_decide_eq_true (by kernel_rfl)) k1 bel lt1) trodAll_mk0)), rfl, bel.frame _, fun h => by cases h⟩

theorem over : Rows.fieldTurnedRow.holds Try.pinned (OpenSpec.ofChange Rows.fieldTurnedSpec) :=
  OpenClaim.holds_of_wide 4 Try.f4 rfl rfl rfl rfl rfl rfl rfl ⟨rfl, rfl, rfl, rfl, rfl⟩ rfl rfl rfl rfl rfl (by kernel_rfl) Try.func4 (by kernel_rfl)
    (of_decide_eq_true (by kernel_rfl)) (by unfold Func.isWrapper; first | (rw [if_pos (by decide +kernel)]; kernel_rfl) | (rw [if_neg (by decide +kernel)]; exact ⟨rfl, rfl⟩))
    (fun os started H enc _ => lifted os started H enc)

end fieldTurnedLaw
theorem fieldTurned_holds : Rows.FieldTurnedSaid := fieldTurnedLaw.over
#print axioms fieldTurned_holds
end Go.Proofs.Ytgjndkphfabnnaa

