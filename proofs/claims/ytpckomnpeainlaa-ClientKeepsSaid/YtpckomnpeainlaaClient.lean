/-
  Contracts of client.Turn and client.Letter.
-/
import Derived.Test.YtpckomnpeainlaaCallD
namespace Go.Proofs.Ytpckomnpeainlaa
open Go.RowKit

theorem balloc {a w : World} {o : Obj} (h : Below a.heap.size a w) : Below a.heap.size a (w.alloc o) := h.alloc h.size o

set_option maxHeartbeats 1000000 in
theorem call_check_idle (t b c : Int) (w : World) (hp : OkPol t b c) :
    Calls Try.prog 34 #[.agg #[.int .i64 0, .int .i64 0, .int .i64 0, .int .i64 0, .int .i64 0, .string ⟨#[]⟩, .int .i64 0, .int .i64 0, .string ⟨#[]⟩, .int .i64 0], .agg #[.int .i64 t, .int .i64 b, .int .i64 c]] w (Gives (.int .i64 0) w) := by
  obtain ⟨p0, p1, p2, p3, p4⟩ := hp
  have bx1 := (Box.new w #[.int .i64 0, .int .i64 0, .int .i64 0, .int .i64 0, .int .i64 0, .string ⟨#[]⟩, .int .i64 0, .int .i64 0, .string ⟨#[]⟩, .int .i64 0] 56).alloc (.cells #[.int .i64 t, .int .i64 b, .int .i64 c] 45)
  have BX1 := Lib.hid bx1
  clear bx1
  have bx2 := Box.new (w.alloc (.cells #[.int .i64 0, .int .i64 0, .int .i64 0, .int .i64 0, .int .i64 0, .string ⟨#[]⟩, .int .i64 0, .int .i64 0, .string ⟨#[]⟩, .int .i64 0] 56)) #[.int .i64 t, .int .i64 b, .int .i64 c] 45
  rw [show (w.alloc (.cells #[.int .i64 0, .int .i64 0, .int .i64 0, .int .i64 0, .int .i64 0, .string ⟨#[]⟩, .int .i64 0, .int .i64 0, .string ⟨#[]⟩, .int .i64 0] 56)).heap.size = w.heap.size + 1 from by simp] at bx2
  have BX2 := Lib.hid bx2
  clear bx2
  have bw := bthen ((Below.refl w.heap.size w).alloc (Nat.le_refl _) (.cells #[.int .i64 0, .int .i64 0, .int .i64 0, .int .i64 0, .int .i64 0, .string ⟨#[]⟩, .int .i64 0, .int .i64 0, .string ⟨#[]⟩, .int .i64 0] 56)) ((Below.refl _ _).alloc (Nat.le_refl _) (.cells #[.int .i64 t, .int .i64 b, .int .i64 c] 45))
  have BW := Lib.hid bw
  clear bw
  go_enter Try.func34, Try.ntmps34
  go_wp2_with fail
  with_reducible refine (gap_check t b c _ p0 p1 p2 p3 p4).mono ?_
  rintro e w' ⟨rfl, hb⟩
  have hx := BX1.out.keep hb
  have hw := bthen BW.out hb
  clear BX1 BX2 BW hb
  have x0 := hx.cells 0 _ rfl
  have x1 := hx.cells 1 _ rfl
  have x2 := hx.cells 2 _ rfl
  have x3 := hx.cells 3 _ rfl
  have x4 := hx.cells 4 _ rfl
  have x5 := hx.cells 5 _ rfl
  have x6 := hx.cells 6 _ rfl
  have x7 := hx.cells 7 _ rfl
  have x8 := hx.cells 8 _ rfl
  have x9 := hx.cells 9 _ rfl
  go_wp2_with fail
  go_ret
  exact ⟨rfl, hw⟩

set_option maxHeartbeats 400000 in
theorem value_check_pending (w : World) : Calls Try.prog 58 #[.agg #[.int .i64 4, .int .i64 0, .string ⟨#[]⟩]] w (Gives (.int .i64 0) w) := by
  go_enter Try.func58, Try.ntmps58
  go_wp2_with fail
  go_ret
  exact ⟨rfl, (Below.refl _ _).alloc (Nat.le_refl _) _⟩

set_option maxRecDepth 100000 in
set_option maxHeartbeats 2000000 in
/-- Another key, or the first one: it is asked for. -/
theorem turn_asks (t b c st id tr kk kn hk hn nx id' ak an now : Int) (ks hs av : ByteArray) (w : World) (hp : OkPol t b c)
    (hck : ∀ w, Calls Try.prog 34 #[.agg #[.int .i64 st, .int .i64 id, .int .i64 tr, .int .i64 kk, .int .i64 kn, .string ks, .int .i64 hk, .int .i64 hn, .string hs, .int .i64 nx], .agg #[.int .i64 t, .int .i64 b, .int .i64 c]] w (Gives (.int .i64 0) w)) (i0 : 1 ≤ id') (i1 : id' ≤ 1073741824) (n0 : 0 ≤ now) (n1 : now ≤ 1073741824) (hkey : KnownV ak an av)
    (hne : (st != 0) = false ∨ ((st != 0) = true ∧ (kk == ak) = false) ∨ ((st != 0) = true ∧ (kk == ak) = true ∧ (kn == an) = false)) :
    Calls Try.prog 36 #[.agg #[.int .i64 st, .int .i64 id, .int .i64 tr, .int .i64 kk, .int .i64 kn, .string ks, .int .i64 hk, .int .i64 hn, .string hs, .int .i64 nx], .agg #[.int .i64 t, .int .i64 b, .int .i64 c], .int .i64 id', .agg #[.int .i64 ak, .int .i64 an, .string av], .int .i64 now] w
      (Gives (.tuple #[.agg #[.int .i64 1, .int .i64 (id'), .int .i64 1, .int .i64 ak, .int .i64 an, .string av, .int .i64 0, .int .i64 0, .string ⟨#[]⟩, .int .i64 (now + b)], .bool true, .int .i64 0]) w) := by
  have HC := Lib.hid hck
  have HK := Lib.hid hkey
  have HP := Lib.hid hp
  clear hck hkey hp
  have bx1 := (((Box.new w #[.int .i64 st, .int .i64 id, .int .i64 tr, .int .i64 kk, .int .i64 kn, .string ks, .int .i64 hk, .int .i64 hn, .string hs, .int .i64 nx] 56).alloc (.cells #[.int .i64 t, .int .i64 b, .int .i64 c] 45)).alloc (.cells #[.int .i64 ak, .int .i64 an, .string av] 29)).alloc (.cells #[.int .i64 0, .int .i64 0, .int .i64 0, .int .i64 0, .int .i64 0, .string ⟨#[]⟩, .int .i64 0, .int .i64 0, .string ⟨#[]⟩, .int .i64 0] 56)
  have BX1 := Lib.hid bx1
  clear bx1
  have bx2 := ((Box.new (w.alloc (.cells #[.int .i64 st, .int .i64 id, .int .i64 tr, .int .i64 kk, .int .i64 kn, .string ks, .int .i64 hk, .int .i64 hn, .string hs, .int .i64 nx] 56)) #[.int .i64 t, .int .i64 b, .int .i64 c] 45).alloc (.cells #[.int .i64 ak, .int .i64 an, .string av] 29)).alloc (.cells #[.int .i64 0, .int .i64 0, .int .i64 0, .int .i64 0, .int .i64 0, .string ⟨#[]⟩, .int .i64 0, .int .i64 0, .string ⟨#[]⟩, .int .i64 0] 56)
  rw [show (w.alloc (.cells #[.int .i64 st, .int .i64 id, .int .i64 tr, .int .i64 kk, .int .i64 kn, .string ks, .int .i64 hk, .int .i64 hn, .string hs, .int .i64 nx] 56)).heap.size = w.heap.size + 1 from by simp] at bx2
  have BX2 := Lib.hid bx2
  clear bx2
  have bx3 := (Box.new ((w.alloc (.cells #[.int .i64 st, .int .i64 id, .int .i64 tr, .int .i64 kk, .int .i64 kn, .string ks, .int .i64 hk, .int .i64 hn, .string hs, .int .i64 nx] 56)).alloc (.cells #[.int .i64 t, .int .i64 b, .int .i64 c] 45)) #[.int .i64 ak, .int .i64 an, .string av] 29).alloc (.cells #[.int .i64 0, .int .i64 0, .int .i64 0, .int .i64 0, .int .i64 0, .string ⟨#[]⟩, .int .i64 0, .int .i64 0, .string ⟨#[]⟩, .int .i64 0] 56)
  rw [show ((w.alloc (.cells #[.int .i64 st, .int .i64 id, .int .i64 tr, .int .i64 kk, .int .i64 kn, .string ks, .int .i64 hk, .int .i64 hn, .string hs, .int .i64 nx] 56)).alloc (.cells #[.int .i64 t, .int .i64 b, .int .i64 c] 45)).heap.size = w.heap.size + 1 + 1 from by simp] at bx3
  have BX3 := Lib.hid bx3
  clear bx3
  have bx4 := Box.new (((w.alloc (.cells #[.int .i64 st, .int .i64 id, .int .i64 tr, .int .i64 kk, .int .i64 kn, .string ks, .int .i64 hk, .int .i64 hn, .string hs, .int .i64 nx] 56)).alloc (.cells #[.int .i64 t, .int .i64 b, .int .i64 c] 45)).alloc (.cells #[.int .i64 ak, .int .i64 an, .string av] 29)) #[.int .i64 0, .int .i64 0, .int .i64 0, .int .i64 0, .int .i64 0, .string ⟨#[]⟩, .int .i64 0, .int .i64 0, .string ⟨#[]⟩, .int .i64 0] 56
  rw [show (((w.alloc (.cells #[.int .i64 st, .int .i64 id, .int .i64 tr, .int .i64 kk, .int .i64 kn, .string ks, .int .i64 hk, .int .i64 hn, .string hs, .int .i64 nx] 56)).alloc (.cells #[.int .i64 t, .int .i64 b, .int .i64 c] 45)).alloc (.cells #[.int .i64 ak, .int .i64 an, .string av] 29)).heap.size = w.heap.size + 1 + 1 + 1 from by simp] at bx4
  have BX4 := Lib.hid bx4
  clear bx4
  have bw := bthen (bthen (bthen ((Below.refl w.heap.size w).alloc (Nat.le_refl _) (.cells #[.int .i64 st, .int .i64 id, .int .i64 tr, .int .i64 kk, .int .i64 kn, .string ks, .int .i64 hk, .int .i64 hn, .string hs, .int .i64 nx] 56)) ((Below.refl _ _).alloc (Nat.le_refl _) (.cells #[.int .i64 t, .int .i64 b, .int .i64 c] 45))) ((Below.refl _ _).alloc (Nat.le_refl _) (.cells #[.int .i64 ak, .int .i64 an, .string av] 29))) ((Below.refl _ _).alloc (Nat.le_refl _) (.cells #[.int .i64 0, .int .i64 0, .int .i64 0, .int .i64 0, .int .i64 0, .string ⟨#[]⟩, .int .i64 0, .int .i64 0, .string ⟨#[]⟩, .int .i64 0] 56))
  have BW := Lib.hid bw
  clear bw
  rcases hne with q1 | ⟨q1, q2⟩ | ⟨q1, q2, q3⟩
  all_goals
    go_enter Try.func36, Try.ntmps36
    go_wp2_with fail
    with_reducible refine (HC.out _).mono ?_
    rintro e w' ⟨rfl, hb⟩
    have hx := BX1.out.keep hb
    have hp := BX2.out.keep hb
    have hy := BX3.out.keep hb
    have hz := BX4.out.keep hb
    have hw := bthen BW.out hb
    clear BX1 BX2 BX3 BX4 BW hb HC
    have y0 := hy.cells 0 _ rfl
    have y1 := hy.cells 1 _ rfl
    have y2 := hy.cells 2 _ rfl
    go_wp2_with fail
    with_reducible refine (value_check ak an av _ HK.out).mono ?_
    rintro e w2 ⟨rfl, hb⟩
    replace hx := hx.keep hb
    replace hp := hp.keep hb
    replace hy := hy.keep hb
    replace hz := hz.keep hb
    replace hw := bthen hw hb
    clear y0 y1 y2
    clear hb
    have y0 := hy.cells 0 _ rfl
    have y1 := hy.cells 1 _ rfl
    have y2 := hy.cells 2 _ rfl
    go_wp2_with fail
    with_reducible refine (known_true ak an av _ HK.out).mono ?_
    rintro e w3 ⟨rfl, hb⟩
    replace hx := hx.keep hb
    replace hp := hp.keep hb
    replace hy := hy.keep hb
    replace hz := hz.keep hb
    replace hw := bthen hw hb
    clear y0 y1 y2
    clear hb
    have x0 := hx.cells 0 _ rfl
    have x1 := hx.cells 1 _ rfl
    have x2 := hx.cells 2 _ rfl
    have x3 := hx.cells 3 _ rfl
    have x4 := hx.cells 4 _ rfl
    have x5 := hx.cells 5 _ rfl
    have x6 := hx.cells 6 _ rfl
    have x7 := hx.cells 7 _ rfl
    have x8 := hx.cells 8 _ rfl
    have x9 := hx.cells 9 _ rfl
    have p0 := hp.cells 0 _ rfl
    have p1 := hp.cells 1 _ rfl
    have p2 := hp.cells 2 _ rfl
    have y0 := hy.cells 0 _ rfl
    have y1 := hy.cells 1 _ rfl
    have y2 := hy.cells 2 _ rfl
    go_wp2_with fail
    with_reducible refine (call_start t b c id' ak an now av _ HP.out i0 i1 n0 n1 HK.out).mono ?_
    rintro e w4 ⟨rfl, hb⟩
    replace hz := hz.keep hb
    replace hw := bthen hw hb
    clear x0 x1 x2 x3 x4 x5 x6 x7 x8 x9 p0 p1 p2 y0 y1 y2
    clear hb hx hp hy
    have z0 := hz.cells 0 _ rfl
    have z1 := hz.cells 1 _ rfl
    have z2 := hz.cells 2 _ rfl
    have z3 := hz.cells 3 _ rfl
    have z4 := hz.cells 4 _ rfl
    have z5 := hz.cells 5 _ rfl
    have z6 := hz.cells 6 _ rfl
    have z7 := hz.cells 7 _ rfl
    have z8 := hz.cells 8 _ rfl
    have z9 := hz.cells 9 _ rfl
    have f0 := hz.free 0
    have f1 := hz.free 1
    have f2 := hz.free 2
    have f3 := hz.free 3
    have f4 := hz.free 4
    have f5 := hz.free 5
    have f6 := hz.free 6
    have f7 := hz.free 7
    have f8 := hz.free 8
    have f9 := hz.free 9
    have gl := hz.lt
    go_wp2_with fail
    refine bodyPost_ret (v := .tuple #[.agg #[.int .i64 1, .int .i64 (id'), .int .i64 1, .int .i64 ak, .int .i64 an, .string av, .int .i64 0, .int .i64 0, .string ⟨#[]⟩, .int .i64 (now + b)], .bool true, .int .i64 0]) (by simp [results, Try.results36, go_sem, z0, z1, z2, z3, z4, z5, z6, z7, z8, z9, gl]) rfl (gives_mk rfl ?_)
    refine balloc ?_
    repeat (first | with_reducible refine Below.drew ?_ | with_reducible refine Below.setCell ?_ (by first | (simp; done) | (simp; omega)) _)
    exact hw

set_option maxRecDepth 100000 in
set_option maxHeartbeats 1000000 in
theorem turn_same (t b c id tr kk kn nx id' now : Int) (ks : ByteArray) (w : World)
    (hck : ∀ w, Calls Try.prog 34 #[.agg #[.int .i64 1, .int .i64 id, .int .i64 tr, .int .i64 kk, .int .i64 kn, .string ks, .int .i64 0, .int .i64 0, .string ⟨#[]⟩, .int .i64 nx], .agg #[.int .i64 t, .int .i64 b, .int .i64 c]] w (Gives (.int .i64 0) w)) (hkey : KnownV kk kn ks) :
    Calls Try.prog 36 #[.agg #[.int .i64 1, .int .i64 id, .int .i64 tr, .int .i64 kk, .int .i64 kn, .string ks, .int .i64 0, .int .i64 0, .string ⟨#[]⟩, .int .i64 nx], .agg #[.int .i64 t, .int .i64 b, .int .i64 c], .int .i64 id', .agg #[.int .i64 kk, .int .i64 kn, .string ks], .int .i64 now] w
      (Gives (.tuple #[.agg #[.int .i64 1, .int .i64 id, .int .i64 tr, .int .i64 kk, .int .i64 kn, .string ks, .int .i64 0, .int .i64 0, .string ⟨#[]⟩, .int .i64 nx], .bool false, .int .i64 0]) w) := by
  have HC := Lib.hid hck
  have HK := Lib.hid hkey
  clear hck hkey
  have bx1 := (((Box.new w #[.int .i64 1, .int .i64 id, .int .i64 tr, .int .i64 kk, .int .i64 kn, .string ks, .int .i64 0, .int .i64 0, .string ⟨#[]⟩, .int .i64 nx] 56).alloc (.cells #[.int .i64 t, .int .i64 b, .int .i64 c] 45)).alloc (.cells #[.int .i64 kk, .int .i64 kn, .string ks] 29)).alloc (.cells #[.int .i64 0, .int .i64 0, .int .i64 0, .int .i64 0, .int .i64 0, .string ⟨#[]⟩, .int .i64 0, .int .i64 0, .string ⟨#[]⟩, .int .i64 0] 56)
  have BX1 := Lib.hid bx1
  clear bx1
  have bx2 := ((Box.new (w.alloc (.cells #[.int .i64 1, .int .i64 id, .int .i64 tr, .int .i64 kk, .int .i64 kn, .string ks, .int .i64 0, .int .i64 0, .string ⟨#[]⟩, .int .i64 nx] 56)) #[.int .i64 t, .int .i64 b, .int .i64 c] 45).alloc (.cells #[.int .i64 kk, .int .i64 kn, .string ks] 29)).alloc (.cells #[.int .i64 0, .int .i64 0, .int .i64 0, .int .i64 0, .int .i64 0, .string ⟨#[]⟩, .int .i64 0, .int .i64 0, .string ⟨#[]⟩, .int .i64 0] 56)
  rw [show (w.alloc (.cells #[.int .i64 1, .int .i64 id, .int .i64 tr, .int .i64 kk, .int .i64 kn, .string ks, .int .i64 0, .int .i64 0, .string ⟨#[]⟩, .int .i64 nx] 56)).heap.size = w.heap.size + 1 from by simp] at bx2
  have BX2 := Lib.hid bx2
  clear bx2
  have bx3 := (Box.new ((w.alloc (.cells #[.int .i64 1, .int .i64 id, .int .i64 tr, .int .i64 kk, .int .i64 kn, .string ks, .int .i64 0, .int .i64 0, .string ⟨#[]⟩, .int .i64 nx] 56)).alloc (.cells #[.int .i64 t, .int .i64 b, .int .i64 c] 45)) #[.int .i64 kk, .int .i64 kn, .string ks] 29).alloc (.cells #[.int .i64 0, .int .i64 0, .int .i64 0, .int .i64 0, .int .i64 0, .string ⟨#[]⟩, .int .i64 0, .int .i64 0, .string ⟨#[]⟩, .int .i64 0] 56)
  rw [show ((w.alloc (.cells #[.int .i64 1, .int .i64 id, .int .i64 tr, .int .i64 kk, .int .i64 kn, .string ks, .int .i64 0, .int .i64 0, .string ⟨#[]⟩, .int .i64 nx] 56)).alloc (.cells #[.int .i64 t, .int .i64 b, .int .i64 c] 45)).heap.size = w.heap.size + 1 + 1 from by simp] at bx3
  have BX3 := Lib.hid bx3
  clear bx3
  have bx4 := Box.new (((w.alloc (.cells #[.int .i64 1, .int .i64 id, .int .i64 tr, .int .i64 kk, .int .i64 kn, .string ks, .int .i64 0, .int .i64 0, .string ⟨#[]⟩, .int .i64 nx] 56)).alloc (.cells #[.int .i64 t, .int .i64 b, .int .i64 c] 45)).alloc (.cells #[.int .i64 kk, .int .i64 kn, .string ks] 29)) #[.int .i64 0, .int .i64 0, .int .i64 0, .int .i64 0, .int .i64 0, .string ⟨#[]⟩, .int .i64 0, .int .i64 0, .string ⟨#[]⟩, .int .i64 0] 56
  rw [show (((w.alloc (.cells #[.int .i64 1, .int .i64 id, .int .i64 tr, .int .i64 kk, .int .i64 kn, .string ks, .int .i64 0, .int .i64 0, .string ⟨#[]⟩, .int .i64 nx] 56)).alloc (.cells #[.int .i64 t, .int .i64 b, .int .i64 c] 45)).alloc (.cells #[.int .i64 kk, .int .i64 kn, .string ks] 29)).heap.size = w.heap.size + 1 + 1 + 1 from by simp] at bx4
  have BX4 := Lib.hid bx4
  clear bx4
  have bw := bthen (bthen (bthen ((Below.refl w.heap.size w).alloc (Nat.le_refl _) (.cells #[.int .i64 1, .int .i64 id, .int .i64 tr, .int .i64 kk, .int .i64 kn, .string ks, .int .i64 0, .int .i64 0, .string ⟨#[]⟩, .int .i64 nx] 56)) ((Below.refl _ _).alloc (Nat.le_refl _) (.cells #[.int .i64 t, .int .i64 b, .int .i64 c] 45))) ((Below.refl _ _).alloc (Nat.le_refl _) (.cells #[.int .i64 kk, .int .i64 kn, .string ks] 29))) ((Below.refl _ _).alloc (Nat.le_refl _) (.cells #[.int .i64 0, .int .i64 0, .int .i64 0, .int .i64 0, .int .i64 0, .string ⟨#[]⟩, .int .i64 0, .int .i64 0, .string ⟨#[]⟩, .int .i64 0] 56))
  have BW := Lib.hid bw
  clear bw
  go_enter Try.func36, Try.ntmps36
  go_wp2_with fail
  with_reducible refine (HC.out _).mono ?_
  rintro e w' ⟨rfl, hb⟩
  have hx := BX1.out.keep hb
  have hy := BX3.out.keep hb
  have hz := BX4.out.keep hb
  have hw := bthen BW.out hb
  clear BX1 BX2 BX3 BX4 BW hb HC
  have y0 := hy.cells 0 _ rfl
  have y1 := hy.cells 1 _ rfl
  have y2 := hy.cells 2 _ rfl
  go_wp2_with fail
  with_reducible refine (value_check kk kn ks _ HK.out).mono ?_
  rintro e w2 ⟨rfl, hb⟩
  replace hx := hx.keep hb
  replace hy := hy.keep hb
  replace hz := hz.keep hb
  replace hw := bthen hw hb
  clear y0 y1 y2
  clear hb
  have y0 := hy.cells 0 _ rfl
  have y1 := hy.cells 1 _ rfl
  have y2 := hy.cells 2 _ rfl
  go_wp2_with fail
  with_reducible refine (known_true kk kn ks _ HK.out).mono ?_
  rintro e w3 ⟨rfl, hb⟩
  replace hx := hx.keep hb
  replace hy := hy.keep hb
  replace hz := hz.keep hb
  replace hw := bthen hw hb
  clear y0 y1 y2
  clear hb
  have x0 := hx.cells 0 _ rfl
  have x1 := hx.cells 1 _ rfl
  have x2 := hx.cells 2 _ rfl
  have x3 := hx.cells 3 _ rfl
  have x4 := hx.cells 4 _ rfl
  have x5 := hx.cells 5 _ rfl
  have x6 := hx.cells 6 _ rfl
  have x7 := hx.cells 7 _ rfl
  have x8 := hx.cells 8 _ rfl
  have x9 := hx.cells 9 _ rfl
  have y0 := hy.cells 0 _ rfl
  have y1 := hy.cells 1 _ rfl
  have y2 := hy.cells 2 _ rfl
  have z0 := hz.cells 0 _ rfl
  have z1 := hz.cells 1 _ rfl
  have z2 := hz.cells 2 _ rfl
  have z3 := hz.cells 3 _ rfl
  have z4 := hz.cells 4 _ rfl
  have z5 := hz.cells 5 _ rfl
  have z6 := hz.cells 6 _ rfl
  have z7 := hz.cells 7 _ rfl
  have z8 := hz.cells 8 _ rfl
  have z9 := hz.cells 9 _ rfl
  have f0 := hz.free 0
  have f1 := hz.free 1
  have f2 := hz.free 2
  have f3 := hz.free 3
  have f4 := hz.free 4
  have f5 := hz.free 5
  have f6 := hz.free 6
  have f7 := hz.free 7
  have f8 := hz.free 8
  have f9 := hz.free 9
  go_wp2_with fail
  refine bodyPost_ret (v := .tuple #[.agg #[.int .i64 1, .int .i64 id, .int .i64 tr, .int .i64 kk, .int .i64 kn, .string ks, .int .i64 0, .int .i64 0, .string ⟨#[]⟩, .int .i64 nx], .bool false, .int .i64 0]) (by simp [results, Try.results36, go_sem, z0, z1, z2, z3, z4, z5, z6, z7, z8, z9]) rfl (gives_mk rfl ?_)
  repeat (first | with_reducible refine Below.drew ?_ | with_reducible refine Below.setCell ?_ (by first | (simp; done) | (simp; omega)) _)
  exact hw

set_option maxRecDepth 100000 in
set_option maxHeartbeats 1000000 in
/-- For a key that is pending nothing is asked. -/
theorem turn_pending (t b c st id tr kk kn hk hn nx id' now : Int) (ks hs : ByteArray) (w : World)
    (hck : ∀ w, Calls Try.prog 34 #[.agg #[.int .i64 st, .int .i64 id, .int .i64 tr, .int .i64 kk, .int .i64 kn, .string ks, .int .i64 hk, .int .i64 hn, .string hs, .int .i64 nx], .agg #[.int .i64 t, .int .i64 b, .int .i64 c]] w (Gives (.int .i64 0) w)) :
    Calls Try.prog 36 #[.agg #[.int .i64 st, .int .i64 id, .int .i64 tr, .int .i64 kk, .int .i64 kn, .string ks, .int .i64 hk, .int .i64 hn, .string hs, .int .i64 nx], .agg #[.int .i64 t, .int .i64 b, .int .i64 c], .int .i64 id', .agg #[.int .i64 4, .int .i64 0, .string ⟨#[]⟩], .int .i64 now] w
      (Gives (.tuple #[.agg #[.int .i64 0, .int .i64 0, .int .i64 0, .int .i64 0, .int .i64 0, .string ⟨#[]⟩, .int .i64 0, .int .i64 0, .string ⟨#[]⟩, .int .i64 0], .bool false, .int .i64 0]) w) := by
  have HC := Lib.hid hck
  clear hck
  have bx1 := (((Box.new w #[.int .i64 st, .int .i64 id, .int .i64 tr, .int .i64 kk, .int .i64 kn, .string ks, .int .i64 hk, .int .i64 hn, .string hs, .int .i64 nx] 56).alloc (.cells #[.int .i64 t, .int .i64 b, .int .i64 c] 45)).alloc (.cells #[.int .i64 4, .int .i64 0, .string ⟨#[]⟩] 29)).alloc (.cells #[.int .i64 0, .int .i64 0, .int .i64 0, .int .i64 0, .int .i64 0, .string ⟨#[]⟩, .int .i64 0, .int .i64 0, .string ⟨#[]⟩, .int .i64 0] 56)
  have BX1 := Lib.hid bx1
  clear bx1
  have bx2 := ((Box.new (w.alloc (.cells #[.int .i64 st, .int .i64 id, .int .i64 tr, .int .i64 kk, .int .i64 kn, .string ks, .int .i64 hk, .int .i64 hn, .string hs, .int .i64 nx] 56)) #[.int .i64 t, .int .i64 b, .int .i64 c] 45).alloc (.cells #[.int .i64 4, .int .i64 0, .string ⟨#[]⟩] 29)).alloc (.cells #[.int .i64 0, .int .i64 0, .int .i64 0, .int .i64 0, .int .i64 0, .string ⟨#[]⟩, .int .i64 0, .int .i64 0, .string ⟨#[]⟩, .int .i64 0] 56)
  rw [show (w.alloc (.cells #[.int .i64 st, .int .i64 id, .int .i64 tr, .int .i64 kk, .int .i64 kn, .string ks, .int .i64 hk, .int .i64 hn, .string hs, .int .i64 nx] 56)).heap.size = w.heap.size + 1 from by simp] at bx2
  have BX2 := Lib.hid bx2
  clear bx2
  have bx3 := (Box.new ((w.alloc (.cells #[.int .i64 st, .int .i64 id, .int .i64 tr, .int .i64 kk, .int .i64 kn, .string ks, .int .i64 hk, .int .i64 hn, .string hs, .int .i64 nx] 56)).alloc (.cells #[.int .i64 t, .int .i64 b, .int .i64 c] 45)) #[.int .i64 4, .int .i64 0, .string ⟨#[]⟩] 29).alloc (.cells #[.int .i64 0, .int .i64 0, .int .i64 0, .int .i64 0, .int .i64 0, .string ⟨#[]⟩, .int .i64 0, .int .i64 0, .string ⟨#[]⟩, .int .i64 0] 56)
  rw [show ((w.alloc (.cells #[.int .i64 st, .int .i64 id, .int .i64 tr, .int .i64 kk, .int .i64 kn, .string ks, .int .i64 hk, .int .i64 hn, .string hs, .int .i64 nx] 56)).alloc (.cells #[.int .i64 t, .int .i64 b, .int .i64 c] 45)).heap.size = w.heap.size + 1 + 1 from by simp] at bx3
  have BX3 := Lib.hid bx3
  clear bx3
  have bx4 := Box.new (((w.alloc (.cells #[.int .i64 st, .int .i64 id, .int .i64 tr, .int .i64 kk, .int .i64 kn, .string ks, .int .i64 hk, .int .i64 hn, .string hs, .int .i64 nx] 56)).alloc (.cells #[.int .i64 t, .int .i64 b, .int .i64 c] 45)).alloc (.cells #[.int .i64 4, .int .i64 0, .string ⟨#[]⟩] 29)) #[.int .i64 0, .int .i64 0, .int .i64 0, .int .i64 0, .int .i64 0, .string ⟨#[]⟩, .int .i64 0, .int .i64 0, .string ⟨#[]⟩, .int .i64 0] 56
  rw [show (((w.alloc (.cells #[.int .i64 st, .int .i64 id, .int .i64 tr, .int .i64 kk, .int .i64 kn, .string ks, .int .i64 hk, .int .i64 hn, .string hs, .int .i64 nx] 56)).alloc (.cells #[.int .i64 t, .int .i64 b, .int .i64 c] 45)).alloc (.cells #[.int .i64 4, .int .i64 0, .string ⟨#[]⟩] 29)).heap.size = w.heap.size + 1 + 1 + 1 from by simp] at bx4
  have BX4 := Lib.hid bx4
  clear bx4
  have bw := bthen (bthen (bthen ((Below.refl w.heap.size w).alloc (Nat.le_refl _) (.cells #[.int .i64 st, .int .i64 id, .int .i64 tr, .int .i64 kk, .int .i64 kn, .string ks, .int .i64 hk, .int .i64 hn, .string hs, .int .i64 nx] 56)) ((Below.refl _ _).alloc (Nat.le_refl _) (.cells #[.int .i64 t, .int .i64 b, .int .i64 c] 45))) ((Below.refl _ _).alloc (Nat.le_refl _) (.cells #[.int .i64 4, .int .i64 0, .string ⟨#[]⟩] 29))) ((Below.refl _ _).alloc (Nat.le_refl _) (.cells #[.int .i64 0, .int .i64 0, .int .i64 0, .int .i64 0, .int .i64 0, .string ⟨#[]⟩, .int .i64 0, .int .i64 0, .string ⟨#[]⟩, .int .i64 0] 56))
  have BW := Lib.hid bw
  clear bw
  go_enter Try.func36, Try.ntmps36
  go_wp2_with fail
  with_reducible refine (HC.out _).mono ?_
  rintro e w' ⟨rfl, hb⟩
  have hy := BX3.out.keep hb
  have hz := BX4.out.keep hb
  have hw := bthen BW.out hb
  clear BX1 BX2 BX3 BX4 BW hb HC
  have y0 := hy.cells 0 _ rfl
  have y1 := hy.cells 1 _ rfl
  have y2 := hy.cells 2 _ rfl
  go_wp2_with fail
  with_reducible refine (value_check_pending _).mono ?_
  rintro e w2 ⟨rfl, hb⟩
  replace hy := hy.keep hb
  replace hz := hz.keep hb
  replace hw := bthen hw hb
  clear y0 y1 y2
  clear hb
  have y0 := hy.cells 0 _ rfl
  have y1 := hy.cells 1 _ rfl
  have y2 := hy.cells 2 _ rfl
  go_wp2_with fail
  with_reducible refine (known_pending _).mono ?_
  rintro e w3 ⟨rfl, hb⟩
  replace hz := hz.keep hb
  replace hw := bthen hw hb
  clear y0 y1 y2
  clear hb hy
  have z0 := hz.cells 0 _ rfl
  have z1 := hz.cells 1 _ rfl
  have z2 := hz.cells 2 _ rfl
  have z3 := hz.cells 3 _ rfl
  have z4 := hz.cells 4 _ rfl
  have z5 := hz.cells 5 _ rfl
  have z6 := hz.cells 6 _ rfl
  have z7 := hz.cells 7 _ rfl
  have z8 := hz.cells 8 _ rfl
  have z9 := hz.cells 9 _ rfl
  have f0 := hz.free 0
  have f1 := hz.free 1
  have f2 := hz.free 2
  have f3 := hz.free 3
  have f4 := hz.free 4
  have f5 := hz.free 5
  have f6 := hz.free 6
  have f7 := hz.free 7
  have f8 := hz.free 8
  have f9 := hz.free 9
  go_wp2_with fail
  refine bodyPost_ret (v := .tuple #[.agg #[.int .i64 0, .int .i64 0, .int .i64 0, .int .i64 0, .int .i64 0, .string ⟨#[]⟩, .int .i64 0, .int .i64 0, .string ⟨#[]⟩, .int .i64 0], .bool false, .int .i64 0]) (by simp [results, Try.results36, go_sem, z0, z1, z2, z3, z4, z5, z6, z7, z8, z9]) rfl (gives_mk rfl ?_)
  repeat (first | with_reducible refine Below.drew ?_ | with_reducible refine Below.setCell ?_ (by first | (simp; done) | (simp; omega)) _)
  exact hw

set_option maxRecDepth 100000 in
set_option maxHeartbeats 1000000 in
/-- The letter of a call that is asking. -/
theorem letter_ask (id tr kk kn hk hn nx : Int) (ks hs nm : ByteArray) (w : World) :
    Calls Try.prog 37 #[.string nm, .agg #[.int .i64 1, .int .i64 id, .int .i64 tr, .int .i64 kk, .int .i64 kn, .string ks, .int .i64 hk, .int .i64 hn, .string hs, .int .i64 nx]] w (Gives (.tuple #[.agg #[.string nm, .int .i64 id, .int .i64 kk, .int .i64 kn, .string ks, .int .i64 0, .int .i64 0, .string ⟨#[]⟩], .int .i64 0]) w) := by
  go_enter Try.func37, Try.ntmps37
  go_wp2_with fail
  refine bodyPost_ret (v := .tuple #[.agg #[.string nm, .int .i64 id, .int .i64 kk, .int .i64 kn, .string ks, .int .i64 0, .int .i64 0, .string ⟨#[]⟩], .int .i64 0]) (by simp [results, Try.results37, go_sem]) rfl (gives_mk rfl ?_)
  exact ((Below.refl _ _).alloc (Nat.le_refl _) _).alloc (by simp) _

end Go.Proofs.Ytpckomnpeainlaa
