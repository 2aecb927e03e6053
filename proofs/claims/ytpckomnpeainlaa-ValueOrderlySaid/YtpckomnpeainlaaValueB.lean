/-
  Contracts of value.Compare, and of the law's own clean and Value.
-/
import Derived.Test.YtpckomnpeainlaaValue
import Derived.Test.YtpckomnpeainlaaOrder
import Derived.Test.YtpckomnpeainlaaRaws
import Derived.Deep.RegionHeld3
namespace Go.Proofs.Ytpckomnpeainlaa
open Go.RowKit

set_option maxHeartbeats 400000 in
theorem cmp_str (a b : ByteArray) (w : World) : Calls Try.prog 57 #[.string a, .string b] w fun e w' => e = .returned (.int .i64 (cmpL a.toList b.toList)) ∧ w = w' := by
  by_cases h : Op.bytesLess a.toList b.toList = true
  · have E : Hid (cmpL a.toList b.toList = -1) := by show _ = _; rw [cmpL, if_pos h]
    go_enter Try.func57, Try.ntmps57
    go_wp2
    go_ret
    exact ⟨ret_int (by rw [E.out]), rfl⟩
  · have h' : Op.bytesLess a.toList b.toList = false := by simpa using h
    by_cases g : a.toList = b.toList
    · have E : Hid (cmpL a.toList b.toList = 0) := by show _ = _; rw [cmpL, if_neg h, if_pos g]
      have g' : (a.toList == b.toList) = true := beq_iff_eq.2 g
      clear g h
      go_enter Try.func57, Try.ntmps57
      go_wp2
      go_ret
      exact ⟨ret_int (by rw [E.out]), rfl⟩
    · have E : Hid (cmpL a.toList b.toList = 1) := by show _ = _; rw [cmpL, if_neg h, if_neg g]
      have g' : (a.toList == b.toList) = false := beq_eq_false_iff_ne.2 g
      clear g h
      go_enter Try.func57, Try.ntmps57
      go_wp2
      go_ret
      exact ⟨ret_int (by rw [E.out]), rfl⟩

/-- cmp.Or of two numbers: the first that is not 0. -/
theorem cmp_or (a b : Int) (g : Nat) (w : World) (ha : w.cell? ⟨g, 0, none⟩ = some (.int .i64 a)) (hb : w.cell? ⟨g, 1, none⟩ = some (.int .i64 b)) :
    Calls Try.prog 55 #[.slice (some ⟨g, 0, none⟩) 2 2] w fun e w' => e = .returned (.int .i64 (orI a b)) ∧ w = w' := by
  by_cases h : a = 0
  · have h0 : (a != 0) = false := by simp [h]
    have E : Hid (orI a b = b) := by show _ = _; rw [orI, if_pos h]
    by_cases k : b = 0
    · have k0 : (b != 0) = false := by simp [k]
      have E2 : Hid (b = 0) := k
      clear h k
      go_enter Try.func55, Try.ntmps55
      go_wp2
      go_loop [8] (fun i => ∃ k : Nat, k ≤ 2 ∧ i = .int .i64 k) (fun i => 2 - (intOf i).toNat)
      case atStart => exact ⟨0, by omega, rfl⟩
      case round =>
        obtain ⟨j, hj, rfl⟩ := hrel
        obtain rfl | rfl | rfl : j = 0 ∨ j = 1 ∨ j = 2 := by omega
        · go_wp2
          go_round
          case rel => exact ⟨1, by omega, rfl⟩
          case measure => simp [intOf]
        · go_wp2
          go_round
          case rel => exact ⟨2, by omega, rfl⟩
          case measure => simp [intOf]
        · go_wp2
          go_ret
          exact ⟨ret_int (by first | rw [E.out, E2.out] | exact E2.out.symm), rfl⟩
    · have k0 : (b != 0) = true := bne_iff_ne.2 k
      clear h k
      go_enter Try.func55, Try.ntmps55
      go_wp2
      go_loop [8] (fun i => ∃ k : Nat, k ≤ 1 ∧ i = .int .i64 k) (fun i => 2 - (intOf i).toNat)
      case atStart => exact ⟨0, by omega, rfl⟩
      case round =>
        obtain ⟨j, hj, rfl⟩ := hrel
        obtain rfl | rfl : j = 0 ∨ j = 1 := by omega
        · go_wp2
          go_round
          case rel => exact ⟨1, by omega, rfl⟩
          case measure => simp [intOf]
        · go_wp2
          go_ret
          exact ⟨ret_int (by rw [E.out]), rfl⟩
  · have h0 : (a != 0) = true := bne_iff_ne.2 h
    have E : Hid (orI a b = a) := by show _ = _; rw [orI, if_neg h]
    clear h
    go_enter Try.func55, Try.ntmps55
    go_wp2
    go_loop [8] (fun i => i = .int .i64 0) (fun _ => 0)
    case atStart => exact rfl
    case round =>
      obtain rfl := hrel
      go_wp2
      go_ret
      exact ⟨ret_int (by rw [E.out]), rfl⟩

theorem new2a (w : World) (a b : Value) (t : TypeId) : (w.alloc (.cells #[a, b] t)).drew.cell? ⟨w.heap.size, 0, none⟩ = some a := by
  show (w.alloc _).cell? _ = _
  rw [World.cell?_alloc_at _ _ _ _ rfl]; rfl
theorem new2b (w : World) (a b : Value) (t : TypeId) : (w.alloc (.cells #[a, b] t)).drew.cell? ⟨w.heap.size, 1, none⟩ = some b := by
  show (w.alloc _).cell? _ = _
  rw [World.cell?_alloc_at _ _ _ _ rfl]; rfl

set_option maxHeartbeats 1000000 in
theorem compare_known (k n m : Int) (s t : ByteArray) (w : World) (ha : KnownV k n s) (hb : KnownV k m t) :
    Calls Try.prog 29 #[.agg #[.int .i64 k, .int .i64 n, .string s], .agg #[.int .i64 k, .int .i64 m, .string t]] w (Gives (.tuple #[.int .i64 (cmpV n m s.toList t.toList), .int .i64 0]) w) := by
  have HA := Lib.hid ha
  have HB := Lib.hid hb
  clear ha hb
  have hx := (Box.new w #[.int .i64 k, .int .i64 n, .string s] 29).alloc (.cells #[.int .i64 k, .int .i64 m, .string t] 29)
  have hy := Box.new (w.alloc (.cells #[.int .i64 k, .int .i64 n, .string s] 29)) #[.int .i64 k, .int .i64 m, .string t] 29
  have hbw : Below w.heap.size w ((w.alloc (.cells #[.int .i64 k, .int .i64 n, .string s] 29)).alloc (.cells #[.int .i64 k, .int .i64 m, .string t] 29)) := ((Below.refl _ _).alloc (Nat.le_refl _) _).alloc (by simp) _
  have HX := Lib.hid hx
  have HY := Lib.hid hy
  have HW := Lib.hid hbw
  clear hx hy hbw
  go_enter Try.func29, Try.ntmps29
  go_wp2_with fail
  with_reducible refine (known_true k n s _ HA.out).mono ?_
  rintro e w' ⟨rfl, h1⟩
  have hx1 := HX.out.keep h1
  have hy1 := HY.out.keep h1
  have hw1 := bthen HW.out h1
  have hsz1 : w.heap.size ≤ w'.heap.size := hw1.size
  clear HX HY HW h1
  have y0 := hy1.cells 0 _ rfl
  have y1 := hy1.cells 1 _ rfl
  have y2 := hy1.cells 2 _ rfl
  simp at y0 y1 y2
  go_wp2_with fail
  with_reducible refine (known_true k m t _ HB.out).mono ?_
  rintro e w2 ⟨rfl, h2⟩
  have hx2 := hx1.keep h2
  have hy2 := hy1.keep h2
  have hw2 := bthen hw1 h2
  have hsz2 : w.heap.size ≤ w2.heap.size := hw2.size
  clear hx1 hy1 hw1 h2 y0 y1 y2
  have x0 := hx2.cells 0 _ rfl
  have x1 := hx2.cells 1 _ rfl
  have x2 := hx2.cells 2 _ rfl
  have y0 := hy2.cells 0 _ rfl
  have y1 := hy2.cells 1 _ rfl
  have y2 := hy2.cells 2 _ rfl
  simp at y0 y1 y2
  go_wp2_with fail
  go_region_held3 (fun w' => w'.cell? ⟨w.heap.size, 1, none⟩ = some (.int .i64 n) ∧ w'.cell? ⟨w.heap.size, 2, none⟩ = some (.string s) ∧
      w'.cell? ⟨w.heap.size + 1, 1, none⟩ = some (.int .i64 m) ∧ w'.cell? ⟨w.heap.size + 1, 2, none⟩ = some (.string t)) (go_keep)
    (first
      | (go_at_call 56; refine (cmp_int n m _).mono ?_; rintro e w' ⟨rfl, rfl⟩)
      | (go_at_call 57; refine (cmp_str s t _).mono ?_; rintro e w' ⟨rfl, rfl⟩)
      | (go_at_call 55; refine (cmp_or (cmpI n m) (cmpL s.toList t.toList) _ _ (new2a w2 _ _ _) (new2b w2 _ _ _)).mono ?_; rintro e w' ⟨rfl, rfl⟩))
  go_wp2_with fail
  go_ret2
  exact ⟨rfl, bthen hw2 (((Below.refl _ _).alloc (Nat.le_refl _) _).drew)⟩

end Go.Proofs.Ytpckomnpeainlaa
