/-
  names.Of: the fields that a formula asks for, each once, rising. (Imports the seat's Iter text: wip/iter.sh.)
-/
import Derived.Test.YtgjndkphfabnnaaNmW
import Derived.Test.YtgjndkphfabnnaaMo
import Derived.Test.YtgjndkphfabnnaaExB
import Derived.Test.YtgjndkphfabnnaaIter
namespace Go.Proofs.Ytgjndkphfabnnaa
open Go.RowKit Go.Shelf Go.Maps Go.Sort

attribute [local go_sem] Oper.semAt_some

theorem key_iff {s : ByteArray} : ∀ {l : List (ByteArray × Value)}, s ∈ l.map (·.1) ↔ sget s l ≠ none
  | [] => by simp [sget]
  | (k, v) :: l => by
    rw [List.map_cons, List.mem_cons, key_iff (l := l)]
    rw [show sget s ((k, v) :: l) = if s == k then some v else sget s l from rfl]
    by_cases e : (s == k) = true
    · rw [if_pos e]
      exact ⟨fun _ => Option.some_ne_none v, fun _ => .inl ((Go.MapKept.bytes_beq s k).1 e)⟩
    · rw [if_neg e]
      exact ⟨fun h => h.elim (fun q => absurd ((Go.MapKept.bytes_beq s k).2 q) e) (fun q => q), .inr⟩
/-- A map of the names pre. -/
def MetAt (W : World) (M : Nat) (pre : List ByteArray) : Prop := ∃ l, W.heap[M]? = some (mapObj (strEs l)) ∧ (∀ s, s ∈ l.map (·.1) ↔ s ∈ pre) ∧ (l.map (·.1)).Nodup ∧ ∀ p ∈ l, p.2 = .bool true
theorem met_nil {W : World} {M : Nat} (h : W.heap[M]? = some (mapObj (strEs []))) : MetAt W M [] := ⟨[], h, fun s => by simp, List.nodup_nil, fun p hp => by cases hp⟩
theorem met_put {P : Program} {W : World} {M : Nat} {pre : List ByteArray} {t kt et : TypeId} (s : ByteArray) (h : MetAt W M pre) (ht : P.underlying t = some (.map kt et)) (htd : P.underlying kt = some .string) :
    ∃ o W', (Instr.mapUpdate t (.map (some M)) (.string s) (.bool true)).run P W = .ok () W' ∧ W' = { W with heap := W.heap.setIfInBounds M o } ∧ MetAt W' M (pre ++ [s]) := by
  obtain ⟨l, h1, h2, h3, h4⟩ := h
  obtain ⟨l', hu, hg, hn, hm⟩ := run_update_str (P := P) (s := s) (v := .bool true) h1 ht htd
  refine ⟨_, _, hu, rfl, l', (Go.MapKept.heap_set h1).1, fun x => ?_, hn h3, fun p hp => ?_⟩
  · rw [key_iff, hg x, List.mem_append, List.mem_singleton, ← h2 x, key_iff]
    by_cases e : x = s
    · rw [if_pos e]; simp [e]
    · rw [if_neg e]; simp [e]
  · rcases hm p hp with q | q
    · exact h4 p q
    · rw [q]

theorem nodup_le {α : Type} : ∀ {l m : List α}, l.Nodup → (∀ x ∈ l, x ∈ m) → l.length ≤ m.length
  | [], m, _, _ => Nat.zero_le _
  | x :: l, m, hn, hs => by
    obtain ⟨s, t, rfl⟩ := List.append_of_mem (hs x (by simp))
    have hx := List.nodup_cons.1 hn
    have := nodup_le (m := s ++ t) hx.2 (fun y hy => by
      rcases List.mem_append.1 (hs y (by simp [hy])) with q | q
      · exact List.mem_append_left _ q
      · rcases List.mem_cons.1 q with rfl | q
        · exact absurd hy hx.1
        · exact List.mem_append_right _ q)
    simp only [List.length_append, List.length_cons] at this ⊢
    omega
theorem refs_ok {s : ByteArray} {x : Ex} (hw : WfE x) (hs : s ∈ refsE x) : NameOk s.data.toList := by
  revert hw hs
  refine ex_ind (p := fun x => WfE x → s ∈ refsE x → NameOk s.data.toList) (fun x ih hw hs => ?_) x
  rw [refsE_eq, List.mem_append] at hs
  rcases hs with hs | hs
  · by_cases h2 : x.op = 2
    · rw [if_pos h2] at hs
      rw [List.mem_singleton.1 hs]; exact (ref_shape hw h2).2
    · rw [if_neg h2] at hs; cases hs
  · obtain ⟨y, hy, hys⟩ := mem_refsL.1 hs
    exact ih y hy (hw.list.get hy) hys
theorem refs_len (x : Ex) : (refsE x).length ≤ (szE x).1 := by
  refine ex_ind (p := fun x => (refsE x).length ≤ (szE x).1) (fun x ih => ?_) x
  rw [refsE_eq, szE_eq, List.length_append]
  have hL : ∀ l : List Ex, (∀ y ∈ l, (refsE y).length ≤ (szE y).1) → (refsL l).length ≤ (szL l).1 := by
    intro l
    induction l with
    | nil => intro _; simp [refsL]
    | cons y l ih2 =>
      intro h
      have h1 := h y (by simp)
      have h2 := ih2 (fun z hz => h z (by simp [hz]))
      rw [refsL, szL, List.length_append]
      simp only
      omega
  have := hL x.args ih
  simp only
  split <;> simp <;> omega

set_option maxRecDepth 100000 in
set_option maxHeartbeats 4000000 in
theorem of_in (x : Ex) (v : Value) (w : World) (bad : List Nat) (hx : IsArgs ⟨w, bad⟩ x v) (hw : WfE x) (hsz : (szE x).1 < 1000000) (hcx : chkE x = 0) :
    CallsIn Fence.wide 6 Try.prog 18 #[.agg #[.int .i64 x.op, .int .i64 x.k, .int .i64 x.n, .string x.s, .string x.nm, v]] w (fun e W' => ∃ (r : Value) (ss : List (List UInt8)) (D0 : DataW Unit), e = .returned (.tuple #[r, .int .i64 0]) ∧ ss.Perm (strKeys D0) ∧ (strKeys D0).Nodup ∧ (∀ s : ByteArray, s.data.toList ∈ strKeys D0 ↔ s ∈ refsE x) ∧ W'.ownsRow w.heap.size 9 1 r ss.length ((ss.mergeSort (fun x y => decide (x ≤ y))).map Go.Proofs.encStr) ∧ (r = .slice none 0 0 ↔ ss = []) ∧ Below w.heap.size w W') := by
  have h1 : 1 ≤ 6 := by omega
  obtain ⟨xA, xn, xc, rfl⟩ := hx.slice
  have HX := Lib.hid hx
  have HW := Lib.hid hw
  refine callsIn_of_wp_marks Try.func18 rfl trivial ?_ rfl
  simp only [Try.ntmps18, List.size_toArray, List.length_cons, List.length_nil, Nat.reduceAdd, Nat.reduceSub, Array.replicate_succ, Array.replicate_zero, List.push_toArray, List.append_toArray, List.nil_append, List.cons_append]
  have hs0 : Sees ⟨w, bad⟩ ⟨w.alloc (.cells #[.int .i64 x.op, .int .i64 x.k, .int .i64 x.n, .string x.s, .string x.nm, .slice xA xn xc] 27), bad⟩ := sees_below ((Below.refl _ w).alloc (Nat.le_refl _) _)
  have hck : CallsIn Fence.wide (6 - 1) Try.prog 41 #[.agg #[.int .i64 x.op, .int .i64 x.k, .int .i64 x.n, .string x.s, .string x.nm, .slice xA xn xc]] (w.alloc (.cells #[.int .i64 x.op, .int .i64 x.k, .int .i64 x.n, .string x.s, .string x.nm, .slice xA xn xc] 27)) (fun e W' => e = .returned (.int .i64 0) ∧ Below (w.alloc (.cells #[.int .i64 x.op, .int .i64 x.k, .int .i64 x.n, .string x.s, .string x.nm, .slice xA xn xc] 27)).heap.size (w.alloc (.cells #[.int .i64 x.op, .int .i64 x.k, .int .i64 x.n, .string x.s, .string x.nm, .slice xA xn xc] 27)) W') := by
    refine callsIn_wide.2 ((check_any x (.slice xA xn xc) ⟨w.alloc (.cells #[.int .i64 x.op, .int .i64 x.k, .int .i64 x.n, .string x.s, .string x.nm, .slice xA xn xc] 27), []⟩ (hx.sees ⟨hs0.size, fun b hb _ => ((Below.refl _ w).alloc (Nat.le_refl _) _).block b hb, fun _ h => (by cases h)⟩) hw hsz (fun x hx => by cases hx) (by simp) (by simp) (by simp)).mono ?_)
    rintro e W' ⟨r, Bo, rfl, hlo, -, -, rfl⟩
    exact ⟨by rw [hcx], hlo.below⟩
  gi_wp2_with ((try refine ⟨trivial, ?_⟩); (try refine ⟨wide_depth _, ?_⟩); gi_at_call 41; refine hck.mono ?_; clear hck; rintro e W1 ⟨rfl, hB1⟩)
  have bx0 := Box.new w #[.int .i64 x.op, .int .i64 x.k, .int .i64 x.n, .string x.s, .string x.nm, .slice xA xn xc] 27
  have hz0 : (w.alloc (.cells #[.int .i64 x.op, .int .i64 x.k, .int .i64 x.n, .string x.s, .string x.nm, .slice xA xn xc] 27)).heap.size = w.heap.size + 1 := by simp
  have hBw : Below w.heap.size w W1 := ((Below.refl _ w).alloc (Nat.le_refl _) _).trans (hB1.mono (by simp))
  generalize (w.alloc (.cells #[.int .i64 x.op, .int .i64 x.k, .int .i64 x.n, .string x.s, .string x.nm, .slice xA xn xc] 27)) = W0 at *
  obtain ⟨M, hM⟩ : ∃ M, M = W1.heap.size := ⟨_, rfl⟩
  have hb1 := bx0.low hB1 (by omega)
  have hsz1 := hB1.size
  obtain ⟨W2, hW2⟩ : ∃ W2, W2 = W1.alloc (.map #[] 0) := ⟨_, rfl⟩
  obtain ⟨W3, hW3⟩ : ∃ W3, W3 = W2.alloc (.cells #[.map (some M)] 89) := ⟨_, rfl⟩
  have hb3 : Box W3 w.heap.size [.int .i64 x.op, .int .i64 x.k, .int .i64 x.n, .string x.s, .string x.nm, .slice xA xn xc] := by
    rw [hW3, hW2]
    exact hb1.low (((Below.refl _ W1).alloc (Nat.le_refl _) _).alloc (by simp) _) (by omega)
  have c0 := hb3.cells 0 _ rfl
  have c1 := hb3.cells 1 _ rfl
  have c2 := hb3.cells 2 _ rfl
  have c3 := hb3.cells 3 _ rfl
  have c4 := hb3.cells 4 _ rfl
  have c5 := hb3.cells 5 _ rfl
  rw [hW3, hW2, hM] at c0 c1 c2 c3 c4 c5
  simp only [run_makeMap, Result.andThen]
  gi_wp2_with ((try refine ⟨trivial, ?_⟩); (try refine ⟨wide_depth _, ?_⟩); gi_at_call 50; refine (refs_in x (.slice xA xn xc) (6 - 1) _).mono ?_; rintro e w' ⟨rfl, rfl⟩)
  rw [← hM, ← hW2, ← hW3]
  have z2 : W2.heap.size = M + 1 := by rw [hW2, hM]; simp
  have z3 : W3.heap.size = M + 1 + 1 := by rw [hW3, World.size_alloc, z2]
  have m3 : W3.heap[M]? = some (mapObj (strEs [])) := by
    rw [hW3]
    refine ((Go.MapKept.heap_alloc _ _).2 _ (by omega)).trans ?_
    rw [hW2, hM]; exact (Go.MapKept.heap_alloc _ _).1
  have b3 : Boxed W3 (M + 1) 89 (.map (some M)) := by rw [hW3, ← z2]; exact Boxed.new _ _ _
  obtain ⟨W4, hW4⟩ : ∃ W4, W4 = W3.alloc (.cells #[.int .i64 x.op, .int .i64 x.k, .int .i64 x.n, .string x.s, .string x.nm, .slice xA xn xc] 27) := ⟨_, rfl⟩
  have z4 : W4.heap.size = M + 1 + 1 + 1 := by rw [hW4, World.size_alloc, z3]
  have m4 : W4.heap[M]? = some (mapObj (strEs [])) := by rw [hW4]; exact ((Go.MapKept.heap_alloc _ _).2 _ (by omega)).trans m3
  have b4 : Boxed W4 (M + 1) 89 (.map (some M)) := by rw [hW4]; exact b3.alloc _
  have x4 : W4.heap[M + 1 + 1]? = some (.cells #[.int .i64 x.op, .int .i64 x.k, .int .i64 x.n, .string x.s, .string x.nm, .slice xA xn xc] 27 (0, 0)) := by rw [hW4, ← z3]; exact World.alloc_heap_new _ _
  have hB4 : Below w.heap.size w W4 := by
    rw [hW4, hW3, hW2]
    exact hBw.trans (((((Below.refl _ W1).alloc (Nat.le_refl _) _).alloc (by simp) _).alloc (by simp; omega) _).mono (by omega))
  rw [← hW4]
  clear hW4 hW3 hW2 c0 c1 c2 c3 c4 c5 hb3 m3 b3 z2 z3
  have HB := Lib.hid hB4
  have HM := Lib.hid m4
  have HBX := Lib.hid b4
  have HX4 := Lib.hid x4
  clear hB4 m4 b4 x4 hb1 bx0 hB1 hs0 hx hw
  subst hM
  refine wpIn_rangeFunc_ownG (α := ByteArray) rfl h1 (gf := 90) (lb := #[.pointer (some ⟨W1.heap.size + 1 + 1, 0, none⟩)]) rfl trivial (enters_of Try.func90 (by kernel_rfl) rfl)
    (refs_stops x (.slice xA xn xc) ⟨w, bad⟩ HX.out HW.out (6 - 1) (W1.heap.size + 1 + 1) W4 HB.out HX4.out) kp_t (kp_b HB.out.size) (Below.refl _ _) (fun _ => rfl)
    (fun pre W => (MetAt W W1.heap.size pre ∧ Boxed W (W1.heap.size + 1) 89 (.map (some W1.heap.size))) ∧ Below w.heap.size w W)
    (fun _ _ W => False ∧ Below w.heap.size w W)
    (OwnFrom.and (fun s A B row hs hg hr => ⟨by
        obtain ⟨l, h2, h3⟩ := hs.1
        exact ⟨l, (hg.block _ (Array.getElem?_eq_some_iff.1 h2).1 (fun e => by have := (hr _ e.symm).1; omega)).trans h2, h3⟩, hs.2.kept hg (cells_own hs.2 rfl (fun r e => (hr r e).2))⟩) (ownFrom_below (Nat.le_refl _) (by have := HB.out.size; omega)))
    (fun c => OwnFrom.and (fun s A B row hs hg hr => hs) (ownFrom_below (Nat.le_refl _) (by have := HB.out.size; omega)))
    ⟨⟨met_nil HM.out, HBX.out⟩, HB.out⟩
    (fun s => { tmps := #[.agg #[.int .i64 x.op, .int .i64 x.k, .int .i64 x.n, .string x.s, .string x.nm, .slice xA xn xc], .pointer (some ⟨w.heap.size, 0, none⟩), .slice none 0 0, .int .i64 0, .int .i64 0, .pointer (some ⟨W1.heap.size + 1, 0, none⟩), .string s, .agg #[.int .i64 x.op, .int .i64 x.k, .int .i64 x.n, .string x.s, .string x.nm, .slice xA xn xc], .int .i64 0, .int .i64 0, .bool false, undef, .map (some W1.heap.size), .agg #[.int .i64 x.op, .int .i64 x.k, .int .i64 x.n, .string x.s, .string x.nm, .slice xA xn xc], .func (.func 90) #[] #[.pointer (some ⟨W1.heap.size + 1 + 1, 0, none⟩)], .string s, undef, undef, undef, undef, undef], defers := [] }) ?assign ?body ?done ?stop
  case assign =>
    intro l s W K hK
    gi_wp2
    exact hK
  case body =>
    rintro l pre s W ⟨⟨hmet, hbx⟩, hB⟩ hpl
    obtain ⟨o, W', hu, hW', hmet'⟩ := met_put (P := Try.prog) (t := 89) s hmet Try.underlying89 Try.underlying9
    obtain ⟨lm, hm, -⟩ := hmet
    have cM := hbx.cell
    have hgr := grown_set o hm
    have hml := (Array.getElem?_eq_some_iff.1 hm).1
    have hbl : Below w.heap.size W _ := (Below.refl w.heap.size W).grown hgr hB.size (fun k e => by cases e; exact hBw.size)
    have hkc := KeepsCells.grown hgr (fun r e => by cases e; exact ⟨_, hm, rfl⟩)
    rw [← hW'] at hgr hbl hkc
    have HF := Lib.hid (And.intro (KeepsFrom.of_grownBy (B := W4.heap.size) hgr (fun j e => by cases e; omega)) (And.intro (Kp.mk hbl hkc) (And.intro (And.intro hmet' (hkc.boxed hbx)) (hB.trans hbl))))
    clear hgr hbl hkc hmet' hW' hB hm hml hbx hpl
    gi_wp2_with (first | (gi_at_mapUpdate; refine wpListIn_mapUpdate_at rfl _ _ _ 89 rfl rfl rfl rfl hu ?_) | gi_in)
    have hfo := HF.out
    rw [z4] at hfo
    exact ⟨hfo.1, hfo.2.1, hfo.2.2⟩
  case done =>
    rintro D ys W hD rfl ⟨⟨⟨l, hm, hk, hnd, hv⟩, hbx⟩, hB⟩ hK
    have hks : ∀ p ∈ l, p.1.size ≤ 10 := fun p hp => by
      have hr := (hk p.1).1 (List.mem_map.2 ⟨p, hp, rfl⟩)
      have := refs_ok HW.out hr
      simpa using this.2.1
    have hll : l.length ≤ 1000000 := by
      have h1 := nodup_le hnd (m := refsE x) (fun s hs => (hk s).1 hs)
      have h2 := refs_len x
      simp only [List.length_map] at h1
      omega
    obtain ⟨D0, hown, hkeys, hsize⟩ := map_owned (P := Try.prog) (k := 9) (e := 4) hm hnd (fun p hp => by have := hks p hp; unfold maxLen; omega) hv (by unfold maxLen; omega) Try.underlying9 Try.underlying4
    have cM := hbx.cell
    have hfK : Fence.wide.fn 52 := trivial
    have hfS : Fence.wide.fn 51 := trivial
    gi_wp2_with (first
      | (gi_at_call 52; refine (Try.maps_Keys_52 _ _).mono ?_; rintro e w' ⟨rfl, rfl⟩)
      | (gi_at_call 51; refine (Try.slices_Sorted_keys_51_52 W1.heap.size l.length D0 _ W hown (by unfold maxLen; omega) (by omega)).mono ?_; rintro e w' ⟨r, ss, rfl, hS, hrow, hnil, hb⟩))
    have hWD : D < W.heap.size := (Array.getElem?_eq_some_iff.1 hK).1
    have hza : (W.alloc (.cells #[.map (some W1.heap.size)] 89)).heap.size = W.heap.size + 1 := World.size_alloc _ _
    have hK' : w'.heap[D]? = some (.deferred (some [])) := (hb.block D (by omega)).trans (((Below.refl _ W).alloc (Nat.le_refl _) _).block D hWD |>.trans hK)
    have hBz := hB.size
    have hrow2 : (w'.putObj D (.deferred none)).ownsRow w.heap.size 9 1 r ss.length ((ss.mergeSort (fun x y => decide (x ≤ y))).map Go.Proofs.encStr) := by
      refine ⟨hrow.1, ?_⟩
      rcases hrow.2 with q | ⟨g, cap, cur, e, hbg, hg, rest⟩
      · exact .inl q
      · refine .inr ⟨g, cap, cur, e, by omega, ?_, rest⟩
        rw [(grownBy_putObj' w' D (.deferred none)).block g (Array.getElem?_eq_some_iff.1 hg).1 (fun e => by injection e; omega)]
        exact hg
    have hmem : ∀ s : ByteArray, s.data.toList ∈ strKeys D0 ↔ s ∈ refsE x := fun s => by
      rw [hkeys.mem_iff, ← hk s, List.mem_map, List.mem_map]
      constructor
      · rintro ⟨p, hp, e⟩
        refine ⟨p, hp, ?_⟩
        obtain ⟨⟨⟨a⟩⟩, b⟩ := p
        obtain ⟨⟨c⟩⟩ := s
        simp only at e ⊢
        rw [e]
      · rintro ⟨p, hp, e⟩
        exact ⟨p, hp, by rw [e]⟩
    have hndk : (strKeys D0).Nodup := by
      rw [hkeys.nodup_iff]
      refine List.pairwise_map.2 ((List.pairwise_map.1 hnd).imp fun {p q} hpq e => hpq ?_)
      obtain ⟨⟨⟨a⟩⟩, b⟩ := p
      obtain ⟨⟨⟨c⟩⟩, d⟩ := q
      simp only at e ⊢
      rw [e]
    refine ⟨by simp, .inl ⟨_, _, rfl, run_takeDeferred hK', ?_⟩⟩
    refine ⟨.tuple #[r, .int .i64 0], ?_, r, ss, D0, rfl, hS, hndk, hmem, hrow2, hnil, (hB.trans ((((Below.refl w.heap.size W).alloc (by omega) _)).trans (hb.mono (by omega)))).trans (belowK_b (w := w) (Nat.le_refl _) _ D _ _ (by omega) hK' rfl rfl)⟩
    simp [results, Try.f18, go_sem]
  case stop =>
    rintro D c pre W hD - ⟨hf, -⟩
    exact hf.elim

/-! ### The names of a formula, in plain words -/
def dd {α : Type} [DecidableEq α] : List α → List α
  | [] => []
  | x :: l => if x ∈ l then dd l else x :: dd l
theorem mem_dd {α : Type} [DecidableEq α] {x : α} : ∀ {l : List α}, x ∈ dd l ↔ x ∈ l
  | [] => Iff.rfl
  | y :: l => by
    unfold dd
    split
    · rename_i h
      rw [mem_dd (l := l), List.mem_cons]
      exact ⟨.inr, fun q => q.elim (fun e => e ▸ h) id⟩
    · rw [List.mem_cons, List.mem_cons, mem_dd (l := l)]
theorem nodup_dd {α : Type} [DecidableEq α] : ∀ l : List α, (dd l).Nodup
  | [] => List.nodup_nil
  | y :: l => by
    unfold dd
    split
    · exact nodup_dd l
    · rename_i h
      exact List.nodup_cons.2 ⟨fun q => h (mem_dd.1 q), nodup_dd l⟩
/-- The names that a formula asks for, as bytes: each once, rising. -/
def namesB (x : Ex) : List (List UInt8) := (dd ((refsE x).map fun s => s.data.toList)).mergeSort fun x y => decide (x ≤ y)
def namesE (x : Ex) : List ByteArray := (namesB x).map fun l => ⟨l.toArray⟩
theorem tol_inj {a b : ByteArray} (h : a.data.toList = b.data.toList) : a = b := by
  obtain ⟨⟨a⟩⟩ := a
  obtain ⟨⟨b⟩⟩ := b
  simp only at h
  rw [h]
theorem mem_namesB {x : Ex} {l : List UInt8} : l ∈ namesB x ↔ ∃ s ∈ refsE x, s.data.toList = l := by
  unfold namesB
  rw [List.mem_mergeSort, mem_dd, List.mem_map]
theorem mem_namesE {x : Ex} {s : ByteArray} : s ∈ namesE x ↔ s ∈ refsE x := by
  unfold namesE
  rw [List.mem_map]
  constructor
  · rintro ⟨l, hl, rfl⟩
    obtain ⟨t, ht, rfl⟩ := mem_namesB.1 hl
    have : (⟨t.data.toList.toArray⟩ : ByteArray) = t := by simp
    rw [this]; exact ht
  · intro h
    exact ⟨s.data.toList, mem_namesB.2 ⟨s, h, rfl⟩, by simp⟩
theorem namesB_nodup (x : Ex) : (namesB x).Nodup := (List.mergeSort_perm _ _).nodup_iff.2 (nodup_dd _)
theorem namesE_nodup (x : Ex) : (namesE x).Nodup := List.pairwise_map.2 ((namesB_nodup x).imp fun {a b} h e => h (by simpa using congrArg (fun s : ByteArray => s.data.toList) e))
theorem namesE_len (x : Ex) : (namesE x).length ≤ (refsE x).length := nodup_le (namesE_nodup x) fun _ h => mem_namesE.1 h
theorem sort_names {x : Ex} {ss ks : List (List UInt8)} (h : ss.Perm ks) (hn : ks.Nodup) (hm : ∀ s : ByteArray, s.data.toList ∈ ks ↔ s ∈ refsE x) : ss.mergeSort (fun x y => decide (x ≤ y)) = namesB x := by
  refine mergeSort_of_perm (h.trans ((List.perm_ext_iff_of_nodup hn (nodup_dd _)).2 fun l => ?_))
  rw [mem_dd, List.mem_map]
  have := hm ⟨l.toArray⟩
  simp only at this
  rw [this]
  constructor
  · intro q; exact ⟨_, q, by simp⟩
  · rintro ⟨s, hs, rfl⟩
    simpa using hs
theorem enc_flat : ∀ l : List (List UInt8), (l.map Go.Proofs.encStr) = (strRows (l.map fun l => (⟨l.toArray⟩ : ByteArray))).flatten
  | [] => rfl
  | x :: l => by
    rw [List.map_cons, enc_flat l]; rfl

theorem nmOf_any (x : Ex) (v : Value) (h : Vw) (hx : IsArgs h x v) (hw : WfE x) (hsz : (szE x).1 < 1000000) (hcx : chkE x = 0) :
    C0 Try.prog 18 #[.agg #[.int .i64 x.op, .int .i64 x.k, .int .i64 x.n, .string x.s, .string x.nm, v]] h (fun r h' => ∃ A c, r = .tuple #[.slice A (namesE x).length c, .int .i64 0] ∧ RS h' 1 (.slice A (namesE x).length c) (strRows (namesE x))) := by
  intro _ _ _ hbad
  refine (callsIn_wide.1 (of_in x v h.w h.bad hx hw hsz hcx)).mono ?_
  rintro e w' ⟨r, ss, D0, rfl, hS, hnd, hm, hrow, -, hb⟩
  rw [sort_names hS hnd hm, enc_flat] at hrow
  have hl : ss.length = (strRows (namesE x)).length := by
    rw [List.length_map, namesE, List.length_map, ← sort_names hS hnd hm, List.length_mergeSort]
  rw [hl] at hrow
  have hent : Ent.ok h.w.heap.size w' (.row r 9 1 (strRows (namesE x))) := ⟨hrow, fun q hq => by obtain ⟨s, -, rfl⟩ := List.mem_map.1 hq; rfl⟩
  have hrs : RS ⟨w', h.bad⟩ 1 r (strRows (namesE x)) := row_rs hent fun b hb' hm => by have := (hrow.lt b hb').1; have := hbad b hm; omega
  obtain ⟨A, c, e, -⟩ := hrs.form
  rw [List.length_map] at e
  subst e
  exact ⟨_, [], rfl, Low.of_below hb, (fun x hx => by cases hx), rfl, A, c, rfl, hrs⟩

end Go.Proofs.Ytgjndkphfabnnaa
