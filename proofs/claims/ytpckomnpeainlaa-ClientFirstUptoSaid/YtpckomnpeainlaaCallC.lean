/-
  Contracts of call.Wake where it does something, and of call.Hear.
-/
import Derived.Test.YtpckomnpeainlaaCallB
import Derived.Test.YtpckomnpeainlaaRegion
namespace Go.Proofs.Ytpckomnpeainlaa
open Go.RowKit

/-- At its last try it is given up. -/
theorem call_wake_gives (t b c id kk kn nx now : Int) (ks : ByteArray) (w : World) (hp : OkPol t b c) (i0 : 1 ≤ id) (i1 : id ≤ 1073741824) (n0 : 0 ≤ now) (n1 : now ≤ 1073741824)
    (x0 : 0 ≤ nx) (x1 : nx ≤ now) (hk : KnownV kk kn ks) :
    Calls Try.prog 33 #[.agg #[.int .i64 1, .int .i64 id, .int .i64 t, .int .i64 kk, .int .i64 kn, .string ks, .int .i64 0, .int .i64 0, .string ⟨#[]⟩, .int .i64 nx], .agg #[.int .i64 t, .int .i64 b, .int .i64 c], .int .i64 now] w (Gives (.tuple #[.agg #[.int .i64 3, .int .i64 id, .int .i64 t, .int .i64 kk, .int .i64 kn, .string ks, .int .i64 0, .int .i64 0, .string ⟨#[]⟩, .int .i64 0], .bool false, .int .i64 0]) w) := by
  have HC := fun w => Lib.hid (call_check_ask t b c id t kk kn nx ks w hp i0 i1 hp.1 (Int.le_refl _) x0 (by omega) hk)
  have HC' := Lib.hid HC
  clear HC hk hp
  have bx1 := ((Box.new w #[.int .i64 1, .int .i64 id, .int .i64 t, .int .i64 kk, .int .i64 kn, .string ks, .int .i64 0, .int .i64 0, .string ⟨#[]⟩, .int .i64 nx] 56).alloc (.cells #[.int .i64 t, .int .i64 b, .int .i64 c] 45)).alloc (.cells #[.int .i64 0, .int .i64 0, .int .i64 0, .int .i64 0, .int .i64 0, .string ⟨#[]⟩, .int .i64 0, .int .i64 0, .string ⟨#[]⟩, .int .i64 0] 56)
  have BX1 := Lib.hid bx1
  clear bx1
  have bx2 := (Box.new (w.alloc (.cells #[.int .i64 1, .int .i64 id, .int .i64 t, .int .i64 kk, .int .i64 kn, .string ks, .int .i64 0, .int .i64 0, .string ⟨#[]⟩, .int .i64 nx] 56)) #[.int .i64 t, .int .i64 b, .int .i64 c] 45).alloc (.cells #[.int .i64 0, .int .i64 0, .int .i64 0, .int .i64 0, .int .i64 0, .string ⟨#[]⟩, .int .i64 0, .int .i64 0, .string ⟨#[]⟩, .int .i64 0] 56)
  rw [show (w.alloc (.cells #[.int .i64 1, .int .i64 id, .int .i64 t, .int .i64 kk, .int .i64 kn, .string ks, .int .i64 0, .int .i64 0, .string ⟨#[]⟩, .int .i64 nx] 56)).heap.size = w.heap.size + 1 from by simp] at bx2
  have BX2 := Lib.hid bx2
  clear bx2
  have bx3 := Box.new ((w.alloc (.cells #[.int .i64 1, .int .i64 id, .int .i64 t, .int .i64 kk, .int .i64 kn, .string ks, .int .i64 0, .int .i64 0, .string ⟨#[]⟩, .int .i64 nx] 56)).alloc (.cells #[.int .i64 t, .int .i64 b, .int .i64 c] 45)) #[.int .i64 0, .int .i64 0, .int .i64 0, .int .i64 0, .int .i64 0, .string ⟨#[]⟩, .int .i64 0, .int .i64 0, .string ⟨#[]⟩, .int .i64 0] 56
  rw [show ((w.alloc (.cells #[.int .i64 1, .int .i64 id, .int .i64 t, .int .i64 kk, .int .i64 kn, .string ks, .int .i64 0, .int .i64 0, .string ⟨#[]⟩, .int .i64 nx] 56)).alloc (.cells #[.int .i64 t, .int .i64 b, .int .i64 c] 45)).heap.size = w.heap.size + 1 + 1 from by simp] at bx3
  have BX3 := Lib.hid bx3
  clear bx3
  have bw := bthen (bthen ((Below.refl w.heap.size w).alloc (Nat.le_refl _) (.cells #[.int .i64 1, .int .i64 id, .int .i64 t, .int .i64 kk, .int .i64 kn, .string ks, .int .i64 0, .int .i64 0, .string ⟨#[]⟩, .int .i64 nx] 56)) ((Below.refl _ _).alloc (Nat.le_refl _) (.cells #[.int .i64 t, .int .i64 b, .int .i64 c] 45))) ((Below.refl _ _).alloc (Nat.le_refl _) (.cells #[.int .i64 0, .int .i64 0, .int .i64 0, .int .i64 0, .int .i64 0, .string ⟨#[]⟩, .int .i64 0, .int .i64 0, .string ⟨#[]⟩, .int .i64 0] 56))
  have BW := Lib.hid bw
  clear bw
  go_enter Try.func33, Try.ntmps33
  go_wp2_with fail
  with_reducible refine ((HC'.out _).out).mono ?_
  rintro e w' ⟨rfl, hb⟩
  have hx := BX1.out.keep hb
  have hy := BX2.out.keep hb
  have hz := BX3.out.keep hb
  have hw := bthen BW.out hb
  clear BX1 BX2 BX3 BW hb HC'
  have x0 := hx.cells 0 _ rfl
  have x1 := hx.cells 1 _ rfl
  have x2 := hx.cells 2 _ rfl
  have x3 := hx.cells 3 _ rfl
  have x4 := hx.cells 4 _ rfl
  have x5 := hx.cells 5 _ rfl
  have x6 := hx.cells 6 _ rfl
  have x7 := hx.cells 7 _ rfl
  have x8 := hx.cells 8 _ rfl
  have x9 := hx.cells 9 _ rfl
  have e0 := hx.free 0
  have e1 := hx.free 1
  have e2 := hx.free 2
  have e3 := hx.free 3
  have e4 := hx.free 4
  have e5 := hx.free 5
  have e6 := hx.free 6
  have e7 := hx.free 7
  have e8 := hx.free 8
  have e9 := hx.free 9
  have y0 := hy.cells 0 _ rfl
  have y1 := hy.cells 1 _ rfl
  have y2 := hy.cells 2 _ rfl
  have z0 := hz.cells 0 _ rfl
  have z1 := hz.cells 1 _ rfl
  have z2 := hz.cells 2 _ rfl
  have z3 := hz.cells 3 _ rfl
  have z4 := hz.cells 4 _ rfl
  have z5 := hz.cells 5 _ rfl
  have z6 := hz.cells 6 _ rfl
  have z7 := hz.cells 7 _ rfl
  have z8 := hz.cells 8 _ rfl
  have z9 := hz.cells 9 _ rfl
  have f0 := hz.free 0
  have f1 := hz.free 1
  have f2 := hz.free 2
  have f3 := hz.free 3
  have f4 := hz.free 4
  have f5 := hz.free 5
  have f6 := hz.free 6
  have f7 := hz.free 7
  have f8 := hz.free 8
  have f9 := hz.free 9
  go_wp2_with fail
  refine bodyPost_ret (v := .tuple #[.agg #[.int .i64 3, .int .i64 id, .int .i64 t, .int .i64 kk, .int .i64 kn, .string ks, .int .i64 0, .int .i64 0, .string ⟨#[]⟩, .int .i64 0], .bool false, .int .i64 0]) (by simp [results, Try.results33, go_sem, z0, z1, z2, z3, z4, z5, z6, z7, z8, z9]) rfl (gives_mk rfl ?_)
  repeat (first | with_reducible refine Below.drew ?_ | with_reducible refine Below.setCell ?_ (by first | (simp; done) | (simp; omega)) _)
  exact hw

theorem gap_eq (t b c n v : Int) (w : World) (h0 : 1 ≤ t) (h1 : t ≤ 6) (h2 : 1 ≤ b) (h3 : b ≤ c) (h4 : c ≤ 1000) (h5 : 1 ≤ n) (h6 : n ≤ t) (e : gapV b c n = v) :
    Calls Try.prog 25 #[.agg #[.int .i64 t, .int .i64 b, .int .i64 c], .int .i64 n] w (Gives (.tuple #[.int .i64 v, .int .i64 0]) w) := by
  subst e; exact gap_of t b c n w h0 h1 h2 h3 h4 h5 h6

/-- Else it is asked again. -/
theorem call_wake_again (t b c id tr kk kn nx now g : Int) (ks : ByteArray) (w : World) (hp : OkPol t b c) (i0 : 1 ≤ id) (i1 : id ≤ 1073741824) (n0 : 0 ≤ now) (n1 : now ≤ 1073741824)
    (t0 : 1 ≤ tr) (t1 : tr < t) (v0 : 0 ≤ nx) (v1 : nx ≤ now) (hk : KnownV kk kn ks) (hg : gapV b c (tr + 1) = g) :
    Calls Try.prog 33 #[.agg #[.int .i64 1, .int .i64 id, .int .i64 tr, .int .i64 kk, .int .i64 kn, .string ks, .int .i64 0, .int .i64 0, .string ⟨#[]⟩, .int .i64 nx], .agg #[.int .i64 t, .int .i64 b, .int .i64 c], .int .i64 now] w (Gives (.tuple #[.agg #[.int .i64 1, .int .i64 id, .int .i64 (tr + 1), .int .i64 kk, .int .i64 kn, .string ks, .int .i64 0, .int .i64 0, .string ⟨#[]⟩, .int .i64 (now + g)], .bool true, .int .i64 0]) w) := by
  have HC := fun w => Lib.hid (call_check_ask t b c id tr kk kn nx ks w hp i0 i1 t0 (by omega) v0 (by omega) hk)
  have HC' := Lib.hid HC
  clear HC hk
  obtain ⟨p0, p1, p2, p3, p4⟩ := hp
  have g0 := gapV_lo (n := tr + 1) p2 p3 p4 (by omega) (by omega)
  have g1 := gapV_hi (b := b) (c := c) (n := tr + 1)
  rw [hg] at g0 g1
  have HG := Lib.hid hg
  have hte : (tr == t) = false := beq_eq_false_iff_ne.2 (by omega)
  clear hg
  have bx1 := ((Box.new w #[.int .i64 1, .int .i64 id, .int .i64 tr, .int .i64 kk, .int .i64 kn, .string ks, .int .i64 0, .int .i64 0, .string ⟨#[]⟩, .int .i64 nx] 56).alloc (.cells #[.int .i64 t, .int .i64 b, .int .i64 c] 45)).alloc (.cells #[.int .i64 0, .int .i64 0, .int .i64 0, .int .i64 0, .int .i64 0, .string ⟨#[]⟩, .int .i64 0, .int .i64 0, .string ⟨#[]⟩, .int .i64 0] 56)
  have BX1 := Lib.hid bx1
  clear bx1
  have bx2 := (Box.new (w.alloc (.cells #[.int .i64 1, .int .i64 id, .int .i64 tr, .int .i64 kk, .int .i64 kn, .string ks, .int .i64 0, .int .i64 0, .string ⟨#[]⟩, .int .i64 nx] 56)) #[.int .i64 t, .int .i64 b, .int .i64 c] 45).alloc (.cells #[.int .i64 0, .int .i64 0, .int .i64 0, .int .i64 0, .int .i64 0, .string ⟨#[]⟩, .int .i64 0, .int .i64 0, .string ⟨#[]⟩, .int .i64 0] 56)
  rw [show (w.alloc (.cells #[.int .i64 1, .int .i64 id, .int .i64 tr, .int .i64 kk, .int .i64 kn, .string ks, .int .i64 0, .int .i64 0, .string ⟨#[]⟩, .int .i64 nx] 56)).heap.size = w.heap.size + 1 from by simp] at bx2
  have BX2 := Lib.hid bx2
  clear bx2
  have bx3 := Box.new ((w.alloc (.cells #[.int .i64 1, .int .i64 id, .int .i64 tr, .int .i64 kk, .int .i64 kn, .string ks, .int .i64 0, .int .i64 0, .string ⟨#[]⟩, .int .i64 nx] 56)).alloc (.cells #[.int .i64 t, .int .i64 b, .int .i64 c] 45)) #[.int .i64 0, .int .i64 0, .int .i64 0, .int .i64 0, .int .i64 0, .string ⟨#[]⟩, .int .i64 0, .int .i64 0, .string ⟨#[]⟩, .int .i64 0] 56
  rw [show ((w.alloc (.cells #[.int .i64 1, .int .i64 id, .int .i64 tr, .int .i64 kk, .int .i64 kn, .string ks, .int .i64 0, .int .i64 0, .string ⟨#[]⟩, .int .i64 nx] 56)).alloc (.cells #[.int .i64 t, .int .i64 b, .int .i64 c] 45)).heap.size = w.heap.size + 1 + 1 from by simp] at bx3
  have BX3 := Lib.hid bx3
  clear bx3
  have bw := bthen (bthen ((Below.refl w.heap.size w).alloc (Nat.le_refl _) (.cells #[.int .i64 1, .int .i64 id, .int .i64 tr, .int .i64 kk, .int .i64 kn, .string ks, .int .i64 0, .int .i64 0, .string ⟨#[]⟩, .int .i64 nx] 56)) ((Below.refl _ _).alloc (Nat.le_refl _) (.cells #[.int .i64 t, .int .i64 b, .int .i64 c] 45))) ((Below.refl _ _).alloc (Nat.le_refl _) (.cells #[.int .i64 0, .int .i64 0, .int .i64 0, .int .i64 0, .int .i64 0, .string ⟨#[]⟩, .int .i64 0, .int .i64 0, .string ⟨#[]⟩, .int .i64 0] 56))
  have BW := Lib.hid bw
  clear bw
  go_enter Try.func33, Try.ntmps33
  go_wp2_with fail
  with_reducible refine ((HC'.out _).out).mono ?_
  rintro e w' ⟨rfl, hb⟩
  have hx := BX1.out.keep hb
  have hy := BX2.out.keep hb
  have hz := BX3.out.keep hb
  have hw := bthen BW.out hb
  clear BX1 BX2 BX3 BW hb HC'
  have x0 := hx.cells 0 _ rfl
  have x1 := hx.cells 1 _ rfl
  have x2 := hx.cells 2 _ rfl
  have x3 := hx.cells 3 _ rfl
  have x4 := hx.cells 4 _ rfl
  have x5 := hx.cells 5 _ rfl
  have x6 := hx.cells 6 _ rfl
  have x7 := hx.cells 7 _ rfl
  have x8 := hx.cells 8 _ rfl
  have x9 := hx.cells 9 _ rfl
  have e0 := hx.free 0
  have e1 := hx.free 1
  have e2 := hx.free 2
  have e3 := hx.free 3
  have e4 := hx.free 4
  have e5 := hx.free 5
  have e6 := hx.free 6
  have e7 := hx.free 7
  have e8 := hx.free 8
  have e9 := hx.free 9
  have y0 := hy.cells 0 _ rfl
  have y1 := hy.cells 1 _ rfl
  have y2 := hy.cells 2 _ rfl
  go_wp2_with fail
  with_reducible refine (gap_eq t b c (tr + 1) g _ p0 p1 p2 p3 p4 (by omega) (by omega) HG.out).mono ?_
  rintro e w2 ⟨rfl, hb⟩
  have hx2 := (hx.set 2 (.int .i64 (tr + 1)) (by simp)).keep hb
  have hy2 := (hy.far (p := ⟨w.heap.size, 2, none⟩) (by simp) (.int .i64 (tr + 1))).keep hb
  have hz2 := (hz.far (p := ⟨w.heap.size, 2, none⟩) (by simp; try omega) (.int .i64 (tr + 1))).keep hb
  have hw2 := bthen (hw.setCell (p := ⟨w.heap.size, 2, none⟩) (Nat.le_refl _) (.int .i64 (tr + 1))) hb
  clear x0 x1 x2 x3 x4 x5 x6 x7 x8 x9 y0 y1 y2 e0 e1 e2 e3 e4 e5 e6 e7 e8 e9
  clear hx hy hz hw hb
  have x0 := hx2.cells 0 _ rfl
  have x1 := hx2.cells 1 _ rfl
  have x2 := hx2.cells 2 _ rfl
  have x3 := hx2.cells 3 _ rfl
  have x4 := hx2.cells 4 _ rfl
  have x5 := hx2.cells 5 _ rfl
  have x6 := hx2.cells 6 _ rfl
  have x7 := hx2.cells 7 _ rfl
  have x8 := hx2.cells 8 _ rfl
  have x9 := hx2.cells 9 _ rfl
  have e0 := hx2.free 0
  have e1 := hx2.free 1
  have e2 := hx2.free 2
  have e3 := hx2.free 3
  have e4 := hx2.free 4
  have e5 := hx2.free 5
  have e6 := hx2.free 6
  have e7 := hx2.free 7
  have e8 := hx2.free 8
  have e9 := hx2.free 9
  have z0 := hz2.cells 0 _ rfl
  have z1 := hz2.cells 1 _ rfl
  have z2 := hz2.cells 2 _ rfl
  have z3 := hz2.cells 3 _ rfl
  have z4 := hz2.cells 4 _ rfl
  have z5 := hz2.cells 5 _ rfl
  have z6 := hz2.cells 6 _ rfl
  have z7 := hz2.cells 7 _ rfl
  have z8 := hz2.cells 8 _ rfl
  have z9 := hz2.cells 9 _ rfl
  have f0 := hz2.free 0
  have f1 := hz2.free 1
  have f2 := hz2.free 2
  have f3 := hz2.free 3
  have f4 := hz2.free 4
  have f5 := hz2.free 5
  have f6 := hz2.free 6
  have f7 := hz2.free 7
  have f8 := hz2.free 8
  have f9 := hz2.free 9
  go_wp2_with fail
  refine bodyPost_ret (v := .tuple #[.agg #[.int .i64 1, .int .i64 id, .int .i64 (tr + 1), .int .i64 kk, .int .i64 kn, .string ks, .int .i64 0, .int .i64 0, .string ⟨#[]⟩, .int .i64 (now + g)], .bool true, .int .i64 0]) (by simp [results, Try.results33, go_sem, z0, z1, z2, z3, z4, z5, z6, z7, z8, z9]) rfl (gives_mk rfl ?_)
  repeat (first | with_reducible refine Below.drew ?_ | with_reducible refine Below.setCell ?_ (by first | (simp; done) | (simp; omega)) _)
  exact hw2

end Go.Proofs.Ytpckomnpeainlaa
