/-
  Contracts of call.Check at the states that a call can be in.
-/
import Derived.Test.YtpckomnpeainlaaGap
import Derived.Test.YtpckomnpeainlaaValue
namespace Go.Proofs.Ytpckomnpeainlaa
open Go.RowKit

/-- A policy that may be. -/
def OkPol (t b c : Int) : Prop := 1 ≤ t ∧ t ≤ 6 ∧ 1 ≤ b ∧ b ≤ c ∧ c ≤ 1000

theorem known_kind0 {k n : Int} {s : ByteArray} (h : KnownV k n s) : (k == 0) = false := by
  have := known_kind h
  exact beq_eq_false_iff_ne.2 (by omega)

set_option maxHeartbeats 1000000 in
theorem call_check_ask (t b c id tr kk kn nx : Int) (ks : ByteArray) (w : World) (hp : OkPol t b c) (i0 : 1 ≤ id) (i1 : id ≤ 1073741824) (t0 : 1 ≤ tr) (t1 : tr ≤ t) (n0 : 0 ≤ nx) (n1 : nx ≤ 1073742824) (hk : KnownV kk kn ks) :
    Calls Try.prog 34 #[.agg #[.int .i64 1, .int .i64 id, .int .i64 tr, .int .i64 kk, .int .i64 kn, .string ks, .int .i64 0, .int .i64 0, .string ⟨#[]⟩, .int .i64 nx], .agg #[.int .i64 t, .int .i64 b, .int .i64 c]] w (Gives (.int .i64 0) w) := by
  obtain ⟨p0, p1, p2, p3, p4⟩ := hp
  have HK := Lib.hid hk
  clear hk
  have bx1 := (Box.new w #[.int .i64 1, .int .i64 id, .int .i64 tr, .int .i64 kk, .int .i64 kn, .string ks, .int .i64 0, .int .i64 0, .string ⟨#[]⟩, .int .i64 nx] 56).alloc (.cells #[.int .i64 t, .int .i64 b, .int .i64 c] 45)
  have BX1 := Lib.hid bx1
  clear bx1
  have bx2 := Box.new (w.alloc (.cells #[.int .i64 1, .int .i64 id, .int .i64 tr, .int .i64 kk, .int .i64 kn, .string ks, .int .i64 0, .int .i64 0, .string ⟨#[]⟩, .int .i64 nx] 56)) #[.int .i64 t, .int .i64 b, .int .i64 c] 45
  rw [show (w.alloc (.cells #[.int .i64 1, .int .i64 id, .int .i64 tr, .int .i64 kk, .int .i64 kn, .string ks, .int .i64 0, .int .i64 0, .string ⟨#[]⟩, .int .i64 nx] 56)).heap.size = w.heap.size + 1 from by simp] at bx2
  have BX2 := Lib.hid bx2
  clear bx2
  have bw := bthen ((Below.refl w.heap.size w).alloc (Nat.le_refl _) (.cells #[.int .i64 1, .int .i64 id, .int .i64 tr, .int .i64 kk, .int .i64 kn, .string ks, .int .i64 0, .int .i64 0, .string ⟨#[]⟩, .int .i64 nx] 56)) ((Below.refl _ _).alloc (Nat.le_refl _) (.cells #[.int .i64 t, .int .i64 b, .int .i64 c] 45))
  have BW := Lib.hid bw
  clear bw
  go_enter Try.func34, Try.ntmps34
  go_wp2_with fail
  with_reducible refine (gap_check t b c _ p0 p1 p2 p3 p4).mono ?_
  rintro e w' ⟨rfl, hb⟩
  have hx := BX1.out.keep hb
  have hy := BX2.out.keep hb
  have hw := bthen BW.out hb
  clear BX1 BX2 BW hb
  have x0 := hx.cells 0 _ rfl
  have x1 := hx.cells 1 _ rfl
  have x2 := hx.cells 2 _ rfl
  have x3 := hx.cells 3 _ rfl
  have x4 := hx.cells 4 _ rfl
  have x5 := hx.cells 5 _ rfl
  have x6 := hx.cells 6 _ rfl
  have x7 := hx.cells 7 _ rfl
  have x8 := hx.cells 8 _ rfl
  have x9 := hx.cells 9 _ rfl
  have y0 := hy.cells 0 _ rfl
  have y1 := hy.cells 1 _ rfl
  have y2 := hy.cells 2 _ rfl
  go_wp2_with fail
  go_quiet (fail)
  go_wp2_with fail
  with_reducible refine (known_true kk kn ks _ HK.out).mono ?_
  rintro e w2 ⟨rfl, hb⟩
  have hx2 := (hx.drew _).keep hb
  have hy2 := (hy.drew _).keep hb
  have hw2 := bthen (below_drewN hw _) hb
  clear x0 x1 x2 x3 x4 x5 x6 x7 x8 x9 y0 y1 y2
  clear hx hy hw hb
  have x0 := hx2.cells 0 _ rfl
  have x1 := hx2.cells 1 _ rfl
  have x2 := hx2.cells 2 _ rfl
  have x3 := hx2.cells 3 _ rfl
  have x4 := hx2.cells 4 _ rfl
  have x5 := hx2.cells 5 _ rfl
  have x6 := hx2.cells 6 _ rfl
  have x7 := hx2.cells 7 _ rfl
  have x8 := hx2.cells 8 _ rfl
  have x9 := hx2.cells 9 _ rfl
  have y0 := hy2.cells 0 _ rfl
  have y1 := hy2.cells 1 _ rfl
  have y2 := hy2.cells 2 _ rfl
  go_wp2_with fail
  go_ret
  exact ⟨rfl, hw2⟩

set_option maxHeartbeats 1000000 in
theorem call_check_given (t b c id tr kk kn : Int) (ks : ByteArray) (w : World) (hp : OkPol t b c) (i0 : 1 ≤ id) (i1 : id ≤ 1073741824) (t1 : tr = t) (hk : KnownV kk kn ks) :
    Calls Try.prog 34 #[.agg #[.int .i64 3, .int .i64 id, .int .i64 tr, .int .i64 kk, .int .i64 kn, .string ks, .int .i64 0, .int .i64 0, .string ⟨#[]⟩, .int .i64 0], .agg #[.int .i64 t, .int .i64 b, .int .i64 c]] w (Gives (.int .i64 0) w) := by
  subst t1
  obtain ⟨p0, p1, p2, p3, p4⟩ := hp
  have HK := Lib.hid hk
  clear hk
  have bx1 := (Box.new w #[.int .i64 3, .int .i64 id, .int .i64 tr, .int .i64 kk, .int .i64 kn, .string ks, .int .i64 0, .int .i64 0, .string ⟨#[]⟩, .int .i64 0] 56).alloc (.cells #[.int .i64 tr, .int .i64 b, .int .i64 c] 45)
  have BX1 := Lib.hid bx1
  clear bx1
  have bx2 := Box.new (w.alloc (.cells #[.int .i64 3, .int .i64 id, .int .i64 tr, .int .i64 kk, .int .i64 kn, .string ks, .int .i64 0, .int .i64 0, .string ⟨#[]⟩, .int .i64 0] 56)) #[.int .i64 tr, .int .i64 b, .int .i64 c] 45
  rw [show (w.alloc (.cells #[.int .i64 3, .int .i64 id, .int .i64 tr, .int .i64 kk, .int .i64 kn, .string ks, .int .i64 0, .int .i64 0, .string ⟨#[]⟩, .int .i64 0] 56)).heap.size = w.heap.size + 1 from by simp] at bx2
  have BX2 := Lib.hid bx2
  clear bx2
  have bw := bthen ((Below.refl w.heap.size w).alloc (Nat.le_refl _) (.cells #[.int .i64 3, .int .i64 id, .int .i64 tr, .int .i64 kk, .int .i64 kn, .string ks, .int .i64 0, .int .i64 0, .string ⟨#[]⟩, .int .i64 0] 56)) ((Below.refl _ _).alloc (Nat.le_refl _) (.cells #[.int .i64 tr, .int .i64 b, .int .i64 c] 45))
  have BW := Lib.hid bw
  clear bw
  go_enter Try.func34, Try.ntmps34
  go_wp2_with fail
  with_reducible refine (gap_check tr b c _ p0 p1 p2 p3 p4).mono ?_
  rintro e w' ⟨rfl, hb⟩
  have hx := BX1.out.keep hb
  have hy := BX2.out.keep hb
  have hw := bthen BW.out hb
  clear BX1 BX2 BW hb
  have x0 := hx.cells 0 _ rfl
  have x1 := hx.cells 1 _ rfl
  have x2 := hx.cells 2 _ rfl
  have x3 := hx.cells 3 _ rfl
  have x4 := hx.cells 4 _ rfl
  have x5 := hx.cells 5 _ rfl
  have x6 := hx.cells 6 _ rfl
  have x7 := hx.cells 7 _ rfl
  have x8 := hx.cells 8 _ rfl
  have x9 := hx.cells 9 _ rfl
  have y0 := hy.cells 0 _ rfl
  have y1 := hy.cells 1 _ rfl
  have y2 := hy.cells 2 _ rfl
  go_wp2_with fail
  go_quiet (fail)
  go_wp2_with fail
  with_reducible refine (known_true kk kn ks _ HK.out).mono ?_
  rintro e w2 ⟨rfl, hb⟩
  have hx2 := (hx.drew _).keep hb
  have hy2 := (hy.drew _).keep hb
  have hw2 := bthen (below_drewN hw _) hb
  clear x0 x1 x2 x3 x4 x5 x6 x7 x8 x9 y0 y1 y2
  clear hx hy hw hb
  have x0 := hx2.cells 0 _ rfl
  have x1 := hx2.cells 1 _ rfl
  have x2 := hx2.cells 2 _ rfl
  have x3 := hx2.cells 3 _ rfl
  have x4 := hx2.cells 4 _ rfl
  have x5 := hx2.cells 5 _ rfl
  have x6 := hx2.cells 6 _ rfl
  have x7 := hx2.cells 7 _ rfl
  have x8 := hx2.cells 8 _ rfl
  have x9 := hx2.cells 9 _ rfl
  have y0 := hy2.cells 0 _ rfl
  have y1 := hy2.cells 1 _ rfl
  have y2 := hy2.cells 2 _ rfl
  go_wp2_with fail
  go_ret
  exact ⟨rfl, hw2⟩

set_option maxHeartbeats 1000000 in
theorem call_check_known (t b c id tr kk kn hk hn : Int) (ks hs : ByteArray) (w : World) (hp : OkPol t b c) (i0 : 1 ≤ id) (i1 : id ≤ 1073741824) (t0 : 1 ≤ tr) (t1 : tr ≤ t) (hkey : KnownV kk kn ks) (hhas : KnownV hk hn hs) :
    Calls Try.prog 34 #[.agg #[.int .i64 2, .int .i64 id, .int .i64 tr, .int .i64 kk, .int .i64 kn, .string ks, .int .i64 hk, .int .i64 hn, .string hs, .int .i64 0], .agg #[.int .i64 t, .int .i64 b, .int .i64 c]] w (Gives (.int .i64 0) w) := by
  obtain ⟨p0, p1, p2, p3, p4⟩ := hp
  have HK := Lib.hid hkey
  have HH := Lib.hid hhas
  have z0 := known_kind0 hhas
  clear hkey hhas
  have bx1 := (Box.new w #[.int .i64 2, .int .i64 id, .int .i64 tr, .int .i64 kk, .int .i64 kn, .string ks, .int .i64 hk, .int .i64 hn, .string hs, .int .i64 0] 56).alloc (.cells #[.int .i64 t, .int .i64 b, .int .i64 c] 45)
  have BX1 := Lib.hid bx1
  clear bx1
  have bx2 := Box.new (w.alloc (.cells #[.int .i64 2, .int .i64 id, .int .i64 tr, .int .i64 kk, .int .i64 kn, .string ks, .int .i64 hk, .int .i64 hn, .string hs, .int .i64 0] 56)) #[.int .i64 t, .int .i64 b, .int .i64 c] 45
  rw [show (w.alloc (.cells #[.int .i64 2, .int .i64 id, .int .i64 tr, .int .i64 kk, .int .i64 kn, .string ks, .int .i64 hk, .int .i64 hn, .string hs, .int .i64 0] 56)).heap.size = w.heap.size + 1 from by simp] at bx2
  have BX2 := Lib.hid bx2
  clear bx2
  have bw := bthen ((Below.refl w.heap.size w).alloc (Nat.le_refl _) (.cells #[.int .i64 2, .int .i64 id, .int .i64 tr, .int .i64 kk, .int .i64 kn, .string ks, .int .i64 hk, .int .i64 hn, .string hs, .int .i64 0] 56)) ((Below.refl _ _).alloc (Nat.le_refl _) (.cells #[.int .i64 t, .int .i64 b, .int .i64 c] 45))
  have BW := Lib.hid bw
  clear bw
  go_enter Try.func34, Try.ntmps34
  go_wp2_with fail
  with_reducible refine (gap_check t b c _ p0 p1 p2 p3 p4).mono ?_
  rintro e w' ⟨rfl, hb⟩
  have hx := BX1.out.keep hb
  have hy := BX2.out.keep hb
  have hw := bthen BW.out hb
  clear BX1 BX2 BW hb
  have x0 := hx.cells 0 _ rfl
  have x1 := hx.cells 1 _ rfl
  have x2 := hx.cells 2 _ rfl
  have x3 := hx.cells 3 _ rfl
  have x4 := hx.cells 4 _ rfl
  have x5 := hx.cells 5 _ rfl
  have x6 := hx.cells 6 _ rfl
  have x7 := hx.cells 7 _ rfl
  have x8 := hx.cells 8 _ rfl
  have x9 := hx.cells 9 _ rfl
  have y0 := hy.cells 0 _ rfl
  have y1 := hy.cells 1 _ rfl
  have y2 := hy.cells 2 _ rfl
  go_wp2_with fail
  go_quiet (fail)
  go_wp2_with fail
  with_reducible refine (known_true kk kn ks _ HK.out).mono ?_
  rintro e w2 ⟨rfl, hb⟩
  have hx2 := (hx.drew _).keep hb
  have hy2 := (hy.drew _).keep hb
  have hw2 := bthen (below_drewN hw _) hb
  clear x0 x1 x2 x3 x4 x5 x6 x7 x8 x9 y0 y1 y2
  clear hx hy hw hb
  have x0 := hx2.cells 0 _ rfl
  have x1 := hx2.cells 1 _ rfl
  have x2 := hx2.cells 2 _ rfl
  have x3 := hx2.cells 3 _ rfl
  have x4 := hx2.cells 4 _ rfl
  have x5 := hx2.cells 5 _ rfl
  have x6 := hx2.cells 6 _ rfl
  have x7 := hx2.cells 7 _ rfl
  have x8 := hx2.cells 8 _ rfl
  have x9 := hx2.cells 9 _ rfl
  have y0 := hy2.cells 0 _ rfl
  have y1 := hy2.cells 1 _ rfl
  have y2 := hy2.cells 2 _ rfl
  go_wp2_with fail
  with_reducible refine (known_true hk hn hs _ HH.out).mono ?_
  rintro e w3 ⟨rfl, hb⟩
  have hx3 := hx2.keep hb
  have hy3 := hy2.keep hb
  have hw3 := bthen hw2 hb
  clear x0 x1 x2 x3 x4 x5 x6 x7 x8 x9 y0 y1 y2
  clear hx2 hy2 hw2 hb
  have x0 := hx3.cells 0 _ rfl
  have x1 := hx3.cells 1 _ rfl
  have x2 := hx3.cells 2 _ rfl
  have x3 := hx3.cells 3 _ rfl
  have x4 := hx3.cells 4 _ rfl
  have x5 := hx3.cells 5 _ rfl
  have x6 := hx3.cells 6 _ rfl
  have x7 := hx3.cells 7 _ rfl
  have x8 := hx3.cells 8 _ rfl
  have x9 := hx3.cells 9 _ rfl
  have y0 := hy3.cells 0 _ rfl
  have y1 := hy3.cells 1 _ rfl
  have y2 := hy3.cells 2 _ rfl
  go_wp2_with fail
  go_ret
  exact ⟨rfl, hw3⟩

end Go.Proofs.Ytpckomnpeainlaa
