/-
  Contract of names.Has.
-/
import Derived.Test.YtgjndkphfabnnaaNmW
namespace Go.Proofs.Ytgjndkphfabnnaa
open Go.RowKit Go.Shelf

attribute [local go_sem] Oper.semAt_some

theorem boxed_own {A : World} {b : Nat} {t : TypeId} {v : Value} (hb : Boxed A b t v) {row : Option Nat} (hr : ∀ r, row = some r → ∃ o : Obj, A.heap[r]? = some o ∧ o.isCells = false) : some b ≠ row := fun e => by
  obtain ⟨o, h1, h2⟩ := hr _ e.symm
  rw [show A.heap[b]? = _ from hb] at h1
  cases h1; cases h2

set_option maxRecDepth 100000 in
set_option maxHeartbeats 4000000 in
theorem has_in (x : Ex) (v : Value) (w : World) (bad : List Nat) (hx : IsArgs ⟨w, bad⟩ x v) (hw : WfE x) (name : ByteArray) (n : Nat) (hn : 3 ≤ n) :
    CallsIn Fence.wide n Try.prog 23 #[.agg #[.int .i64 x.op, .int .i64 x.k, .int .i64 x.n, .string x.s, .string x.nm, v], .string name] w (fun e W' => e = .returned (.bool (hasE x name)) ∧ Below w.heap.size w W') := by
  have h1 : 1 ≤ n := by omega
  have HX := Lib.hid hx
  have HW := Lib.hid hw
  have B0 := Boxed.new (w.alloc (.cells #[.int .i64 x.op, .int .i64 x.k, .int .i64 x.n, .string x.s, .string x.nm, v] 27)) 9 (.string name)
  have B1 := Boxed.new ((w.alloc (.cells #[.int .i64 x.op, .int .i64 x.k, .int .i64 x.n, .string x.s, .string x.nm, v] 27)).alloc (.cells #[.string name] 9)) 4 (.bool false)
  have HBX := World.alloc_heap_new (((w.alloc (.cells #[.int .i64 x.op, .int .i64 x.k, .int .i64 x.n, .string x.s, .string x.nm, v] 27)).alloc (.cells #[.string name] 9)).alloc (.cells #[.bool false] 4)) (.cells #[.int .i64 x.op, .int .i64 x.k, .int .i64 x.n, .string x.s, .string x.nm, v] 27)
  simp only [World.size_alloc] at B0 B1 HBX
  have B0' := B0.alloc (.cells #[.bool false] 4)
  have B0'' := B0'.alloc (.cells #[.int .i64 x.op, .int .i64 x.k, .int .i64 x.n, .string x.s, .string x.nm, v] 27)
  have B1' := B1.alloc (.cells #[.int .i64 x.op, .int .i64 x.k, .int .i64 x.n, .string x.s, .string x.nm, v] 27)
  have hB0 : Below w.heap.size w ((((w.alloc (.cells #[.int .i64 x.op, .int .i64 x.k, .int .i64 x.n, .string x.s, .string x.nm, v] 27)).alloc (.cells #[.string name] 9)).alloc (.cells #[.bool false] 4)).alloc (.cells #[.int .i64 x.op, .int .i64 x.k, .int .i64 x.n, .string x.s, .string x.nm, v] 27)) :=
    ((((Below.refl _ w).alloc (Nat.le_refl _) _).alloc (by simp) _).alloc (by simp; omega) _).alloc (by simp; omega) _
  have HBE := Lib.hid hB0
  have HB0 := Lib.hid B0''
  have HB1 := Lib.hid B1'
  have HHX := Lib.hid HBX
  clear hx hw B0 B1 B0' B0'' B1' HBX hB0
  refine callsIn_of_wp_marks Try.func23 rfl trivial ?_ rfl
  simp only [Try.ntmps23, List.size_toArray, List.length_cons, List.length_nil, Nat.reduceAdd, Nat.reduceSub, Array.replicate_succ, Array.replicate_zero, List.push_toArray, List.append_toArray, List.nil_append, List.cons_append]
  gi_wp2_with ((try refine ⟨trivial, ?_⟩); (try refine ⟨wide_depth _, ?_⟩); gi_at_call 50; refine (refs_in x v (n - 1) _).mono ?_; rintro e w' ⟨rfl, rfl⟩)
  have hX := HHX.out
  have bN := HB0.out
  have bR := HB1.out
  have hBE := HBE.out
  generalize hWq : (((w.alloc (.cells #[.int .i64 x.op, .int .i64 x.k, .int .i64 x.n, .string x.s, .string x.nm, v] 27)).alloc (.cells #[.string name] 9)).alloc (.cells #[.bool false] 4)).alloc (.cells #[.int .i64 x.op, .int .i64 x.k, .int .i64 x.n, .string x.s, .string x.nm, v] 27) = Wq at *
  have hsz : w.heap.size + 4 ≤ Wq.heap.size := by rw [← hWq]; simp
  clear HHX HB0 HB1 HBE hWq
  refine wpIn_rangeFunc_ownG (α := ByteArray) rfl h1 (gf := 90) (lb := #[.pointer (some ⟨w.heap.size + 1 + 1 + 1, 0, none⟩)]) rfl trivial (enters_of Try.func90 (by kernel_rfl) rfl)
    (refs_stops x v ⟨w, bad⟩ HX.out HW.out (n - 1) (w.heap.size + 1 + 1 + 1) Wq hBE hX) kp_t (kp_b hBE.size) (Below.refl _ _) (fun _ => rfl)
    (fun pre W => (name ∉ pre ∧ Boxed W (w.heap.size + 1) 9 (.string name) ∧ Boxed W (w.heap.size + 1 + 1) 4 (.bool false)) ∧ Below w.heap.size w W)
    (fun c pre W => (c = .ret ∧ name ∈ pre ∧ Boxed W (w.heap.size + 1 + 1) 4 (.bool true)) ∧ Below w.heap.size w W)
    (OwnFrom.and (Own.from (fun s A B row hs hg hr => ⟨hs.1, hs.2.1.kept hg (boxed_own hs.2.1 hr), hs.2.2.kept hg (boxed_own hs.2.2 hr)⟩) _) (ownFrom_below (Nat.le_refl _) (by omega)))
    (fun c => OwnFrom.and (Own.from (fun s A B row hs hg hr => ⟨hs.1, hs.2.1, hs.2.2.kept hg (boxed_own hs.2.2 hr)⟩) _) (ownFrom_below (Nat.le_refl _) (by omega)))
    ⟨⟨by simp, bN, bR⟩, hBE⟩
    (fun s => { tmps := #[.agg #[.int .i64 x.op, .int .i64 x.k, .int .i64 x.n, .string x.s, .string x.nm, v], .string name, .pointer (some ⟨w.heap.size, 0, none⟩), .pointer (some ⟨w.heap.size + 1, 0, none⟩), .pointer (some ⟨w.heap.size + 1 + 1, 0, none⟩), .string s, .agg #[.int .i64 x.op, .int .i64 x.k, .int .i64 x.n, .string x.s, .string x.nm, v], .func (.func 90) #[] #[.pointer (some ⟨w.heap.size + 1 + 1 + 1, 0, none⟩)], .string s, undef, undef, undef], defers := [] }) ?assign ?body ?done ?stop
  case assign =>
    intro l s W K hK
    gi_wp2
    exact hK
  case body =>
    rintro l pre s W ⟨⟨hnp, hN, hR⟩, hB⟩ _
    have cN := hN.cell
    have cR := hR.cell
    have fR := hR.frozen
    by_cases hs : s = name
    · have ht : (s.toList == name.toList) = true := tl_yes hs
      have hm : name ∈ pre ++ [s] := by rw [hs]; simp
      clear hs
      gi_wp2
      exact ⟨(KeepsOthers.setCell _ _ _).from _, ⟨rfl, hm, hR.set _⟩, hB.setCell (by simp; omega) _⟩
    · have ht := tl_no hs
      gi_wp2
      exact ⟨KeepsFrom.refl _ _, Kp.refl _ _, ⟨fun hm => (List.mem_append.1 hm).elim hnp (fun e => hs (List.mem_singleton.1 e).symm), hN, hR⟩, hB⟩
  case done =>
    rintro D ys W hD rfl ⟨⟨hne, hN, hR⟩, hB⟩ hK
    have cR := hR.cell
    have fR := hR.frozen
    have hh := hasE_no hne
    have HH := Lib.hid hh
    clear hh
    gi_wp2
    have hK' := (KeepsOthers.setCell W ⟨w.heap.size + 1 + 1, 0, none⟩ (.bool false)).same D _ hK rfl
    refine ⟨by simp, .inl ⟨_, _, rfl, run_takeDeferred hK', ?_⟩⟩
    have c5 := ((hR.set (.bool false)).kept (grownBy_putObj' _ D (.deferred none)) (boxed_own (hR.set _) (fun r e => by cases e; exact ⟨_, hK', rfl⟩))).cell
    refine ⟨.bool false, ?_, by rw [HH.out], (hB.setCell (by simp; omega) _).trans (belowK_b (w := w) (Nat.le_refl _) _ D _ _ (by omega) hK' rfl rfl)⟩
    simp [results, Try.f23, go_sem, c5]
  case stop =>
    rintro D c pre W hD hpre ⟨⟨rfl, hm, hR⟩, hB⟩ hK
    have hh := hasE_yes (hpre.subset hm)
    have HH := Lib.hid hh
    clear hh
    gi_wp2
    refine ⟨by simp, .inl ⟨_, _, rfl, run_takeDeferred hK, ?_⟩⟩
    have c5 := (hR.kept (grownBy_putObj' _ D (.deferred none)) (boxed_own hR (fun r e => by cases e; exact ⟨_, hK, rfl⟩))).cell
    refine ⟨.bool true, ?_, by rw [HH.out], hB.trans (belowK_b (w := w) (Nat.le_refl _) _ D _ _ (by omega) hK rfl rfl)⟩
    simp [results, Try.f23, go_sem, c5]

theorem has_any (x : Ex) (v : Value) (h : Vw) (hx : IsArgs h x v) (hw : WfE x) (name : ByteArray) : C0 Try.prog 23 #[.agg #[.int .i64 x.op, .int .i64 x.k, .int .i64 x.n, .string x.s, .string x.nm, v], .string name] h (fun r _ => r = .bool (hasE x name)) := by
  intro _ _ _ _
  refine (callsIn_wide.1 (has_in x v h.w h.bad hx hw name 9 (by omega))).mono ?_
  rintro e w' ⟨rfl, hb⟩
  exact ⟨_, [], rfl, Low.of_below hb, (fun x hx => by cases hx), rfl, rfl⟩

end Go.Proofs.Ytgjndkphfabnnaa
