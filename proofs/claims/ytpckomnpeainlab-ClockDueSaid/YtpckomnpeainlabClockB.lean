/-
  Contract of clock.compare.
-/
import Derived.Test.YtpckomnpeainlabClockA
import Derived.Test.YtpckomnpeainlabCmpOr
import Derived.Deep.RegionHeld3
namespace Go.Proofs.Ytpckomnpeainlab
open Go.RowKit

/-- The order of timers: by time, then by number. -/
def cmpT (x y : Tmr) : Int := orI (cmpI x.at' y.at') (cmpI x.id y.id)

set_option maxRecDepth 100000 in
set_option maxHeartbeats 2000000 in
theorem compare_any (x y : Tmr) (w : World) : Calls Try.prog 45 #[.agg #[.int .i64 x.id, .int .i64 x.at'], .agg #[.int .i64 y.id, .int .i64 y.at']] w (Gives (.int .i64 (cmpT x y)) w) := by
  obtain ⟨i, a⟩ := x
  obtain ⟨j, b⟩ := y
  have bx1 := (Box.new w #[.int .i64 i, .int .i64 a] 27).alloc (.cells #[.int .i64 j, .int .i64 b] 27)
  have BX1 := Lib.hid bx1
  clear bx1
  have bx2 := Box.new (w.alloc (.cells #[.int .i64 i, .int .i64 a] 27)) #[.int .i64 j, .int .i64 b] 27
  rw [show (w.alloc (.cells #[.int .i64 i, .int .i64 a] 27)).heap.size = w.heap.size + 1 from by simp] at bx2
  have BX2 := Lib.hid bx2
  clear bx2
  have bw := bthen ((Below.refl w.heap.size w).alloc (Nat.le_refl _) (.cells #[.int .i64 i, .int .i64 a] 27)) ((Below.refl _ _).alloc (Nat.le_refl _) (.cells #[.int .i64 j, .int .i64 b] 27))
  have BW := Lib.hid bw
  clear bw
  go_enter Try.func45, Try.ntmps45
  have hx := BX1.out
  have hy := BX2.out
  have hw := BW.out
  clear BX1 BX2 BW
  have x0 := hx.cells 0 _ rfl
  have x1 := hx.cells 1 _ rfl
  have y0 := hy.cells 0 _ rfl
  have y1 := hy.cells 1 _ rfl
  go_wp2_with fail
  generalize hW : (w.alloc (.cells #[.int .i64 i, .int .i64 a] 27)).alloc (.cells #[.int .i64 j, .int .i64 b] 27) = W at *
  clear hW
  go_region_held3 (fun w' => w'.cell? ⟨w.heap.size, 0, none⟩ = some (.int .i64 i) ∧ w'.cell? ⟨w.heap.size, 1, none⟩ = some (.int .i64 a) ∧
      w'.cell? ⟨w.heap.size + 1, 0, none⟩ = some (.int .i64 j) ∧ w'.cell? ⟨w.heap.size + 1, 1, none⟩ = some (.int .i64 b)) (go_keep)
    (first
      | (go_at_call 73; refine (cmp_int _ _ _).mono ?_; rintro e w' ⟨rfl, rfl⟩)
      | (go_at_call 72; refine (cmp_or (cmpI a b) (cmpI i j) _ _ (new2a W _ _ _) (new2b W _ _ _)).mono ?_; rintro e w' ⟨rfl, rfl⟩))
  go_wp2_with fail
  go_ret
  exact ⟨rfl, bthen hw (((Below.refl _ _).alloc (Nat.le_refl _) _).drew)⟩

end Go.Proofs.Ytpckomnpeainlab
