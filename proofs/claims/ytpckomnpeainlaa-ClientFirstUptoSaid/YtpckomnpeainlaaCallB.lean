/-
  Contracts of call.Start, call.Wake, call.Hear and call.Value.
-/
import Derived.Test.YtpckomnpeainlaaCall
namespace Go.Proofs.Ytpckomnpeainlaa
open Go.RowKit

theorem gap_one (t b c : Int) (w : World) (h0 : 1 ≤ t) (h1 : t ≤ 6) (h2 : 1 ≤ b) (h3 : b ≤ c) (h4 : c ≤ 1000) :
    Calls Try.prog 25 #[.agg #[.int .i64 t, .int .i64 b, .int .i64 c], .int .i64 1] w (Gives (.tuple #[.int .i64 b, .int .i64 0]) w) := by
  have h := gap_of t b c 1 w h0 h1 h2 h3 h4 (by omega) (by omega)
  have e : gapV b c 1 = b := by simp [gapV, h3]
  rw [e] at h
  exact h

set_option maxRecDepth 100000 in
set_option maxHeartbeats 1000000 in
theorem call_start (t b c id kk kn now : Int) (ks : ByteArray) (w : World) (hp : OkPol t b c) (i0 : 1 ≤ id) (i1 : id ≤ 1073741824) (n0 : 0 ≤ now) (n1 : now ≤ 1073741824) (hk : KnownV kk kn ks) :
    Calls Try.prog 30 #[.agg #[.int .i64 t, .int .i64 b, .int .i64 c], .int .i64 id, .agg #[.int .i64 kk, .int .i64 kn, .string ks], .int .i64 now] w (Gives (.tuple #[.agg #[.int .i64 1, .int .i64 id, .int .i64 1, .int .i64 kk, .int .i64 kn, .string ks, .int .i64 0, .int .i64 0, .string ⟨#[]⟩, .int .i64 (now + b)], .int .i64 0]) w) := by
  obtain ⟨p0, p1, p2, p3, p4⟩ := hp
  have HK := Lib.hid hk
  clear hk
  have bx1 := ((Box.new w #[.int .i64 t, .int .i64 b, .int .i64 c] 45).alloc (.cells #[.int .i64 kk, .int .i64 kn, .string ks] 29)).alloc (.cells #[.int .i64 0, .int .i64 0, .int .i64 0, .int .i64 0, .int .i64 0, .string ⟨#[]⟩, .int .i64 0, .int .i64 0, .string ⟨#[]⟩, .int .i64 0] 56)
  have BX1 := Lib.hid bx1
  clear bx1
  have bx2 := (Box.new (w.alloc (.cells #[.int .i64 t, .int .i64 b, .int .i64 c] 45)) #[.int .i64 kk, .int .i64 kn, .string ks] 29).alloc (.cells #[.int .i64 0, .int .i64 0, .int .i64 0, .int .i64 0, .int .i64 0, .string ⟨#[]⟩, .int .i64 0, .int .i64 0, .string ⟨#[]⟩, .int .i64 0] 56)
  rw [show (w.alloc (.cells #[.int .i64 t, .int .i64 b, .int .i64 c] 45)).heap.size = w.heap.size + 1 from by simp] at bx2
  have BX2 := Lib.hid bx2
  clear bx2
  have bx3 := Box.new ((w.alloc (.cells #[.int .i64 t, .int .i64 b, .int .i64 c] 45)).alloc (.cells #[.int .i64 kk, .int .i64 kn, .string ks] 29)) #[.int .i64 0, .int .i64 0, .int .i64 0, .int .i64 0, .int .i64 0, .string ⟨#[]⟩, .int .i64 0, .int .i64 0, .string ⟨#[]⟩, .int .i64 0] 56
  rw [show ((w.alloc (.cells #[.int .i64 t, .int .i64 b, .int .i64 c] 45)).alloc (.cells #[.int .i64 kk, .int .i64 kn, .string ks] 29)).heap.size = w.heap.size + 1 + 1 from by simp] at bx3
  have BX3 := Lib.hid bx3
  clear bx3
  have bw := bthen (bthen ((Below.refl w.heap.size w).alloc (Nat.le_refl _) (.cells #[.int .i64 t, .int .i64 b, .int .i64 c] 45)) ((Below.refl _ _).alloc (Nat.le_refl _) (.cells #[.int .i64 kk, .int .i64 kn, .string ks] 29))) ((Below.refl _ _).alloc (Nat.le_refl _) (.cells #[.int .i64 0, .int .i64 0, .int .i64 0, .int .i64 0, .int .i64 0, .string ⟨#[]⟩, .int .i64 0, .int .i64 0, .string ⟨#[]⟩, .int .i64 0] 56))
  have BW := Lib.hid bw
  clear bw
  go_enter Try.func30, Try.ntmps30
  go_wp2_with fail
  with_reducible refine (gap_check t b c _ p0 p1 p2 p3 p4).mono ?_
  rintro e w' ⟨rfl, hb⟩
  have hx := BX1.out.keep hb
  have hy := BX2.out.keep hb
  have hz := BX3.out.keep hb
  have hw := bthen BW.out hb
  clear BX1 BX2 BX3 BW hb
  have y0 := hy.cells 0 _ rfl
  have y1 := hy.cells 1 _ rfl
  have y2 := hy.cells 2 _ rfl
  go_wp2_with fail
  with_reducible refine (known_true kk kn ks _ HK.out).mono ?_
  rintro e w2 ⟨rfl, hb⟩
  replace hx := hx.keep hb
  replace hy := hy.keep hb
  replace hz := hz.keep hb
  replace hw := bthen hw hb
  clear y0 y1 y2
  clear hb
  have x0 := hx.cells 0 _ rfl
  have x1 := hx.cells 1 _ rfl
  have x2 := hx.cells 2 _ rfl
  go_wp2_with fail
  with_reducible refine (gap_one t b c _ p0 p1 p2 p3 p4).mono ?_
  rintro e w3 ⟨rfl, hb⟩
  replace hx := hx.keep hb
  replace hy := hy.keep hb
  replace hz := hz.keep hb
  replace hw := bthen hw hb
  clear x0 x1 x2
  clear hb
  have y0 := hy.cells 0 _ rfl
  have y1 := hy.cells 1 _ rfl
  have y2 := hy.cells 2 _ rfl
  have z0 := hz.cells 0 _ rfl
  have z1 := hz.cells 1 _ rfl
  have z2 := hz.cells 2 _ rfl
  have z3 := hz.cells 3 _ rfl
  have z4 := hz.cells 4 _ rfl
  have z5 := hz.cells 5 _ rfl
  have z6 := hz.cells 6 _ rfl
  have z7 := hz.cells 7 _ rfl
  have z8 := hz.cells 8 _ rfl
  have z9 := hz.cells 9 _ rfl
  have f0 := hz.free 0
  have f1 := hz.free 1
  have f2 := hz.free 2
  have f3 := hz.free 3
  have f4 := hz.free 4
  have f5 := hz.free 5
  have f6 := hz.free 6
  have f7 := hz.free 7
  have f8 := hz.free 8
  have f9 := hz.free 9
  go_wp2_with fail
  refine bodyPost_ret (v := .tuple #[.agg #[.int .i64 1, .int .i64 id, .int .i64 1, .int .i64 kk, .int .i64 kn, .string ks, .int .i64 0, .int .i64 0, .string ⟨#[]⟩, .int .i64 (now + b)], .int .i64 0]) (by simp [results, Try.results30, go_sem, z0, z1, z2, z3, z4, z5, z6, z7, z8, z9]) rfl (gives_mk rfl ?_)
  repeat (first | with_reducible refine Below.drew ?_ | with_reducible refine Below.setCell ?_ (by first | (simp; done) | (simp; omega)) _)
  exact hw

set_option maxRecDepth 100000 in
set_option maxHeartbeats 1000000 in
theorem call_value_ask (id tr kk kn hk hn nx : Int) (ks hs : ByteArray) (w : World) :
    Calls Try.prog 32 #[.agg #[.int .i64 1, .int .i64 id, .int .i64 tr, .int .i64 kk, .int .i64 kn, .string ks, .int .i64 hk, .int .i64 hn, .string hs, .int .i64 nx]] w (Gives (.agg #[.int .i64 4, .int .i64 0, .string ⟨#[]⟩]) w) := by
  go_enter Try.func32, Try.ntmps32
  go_wp2_with fail
  refine bodyPost_ret (v := .agg #[.int .i64 4, .int .i64 0, .string ⟨#[]⟩]) (by simp [results, Try.results32, go_sem]) rfl (gives_mk rfl ?_)
  exact ((Below.refl _ _).alloc (Nat.le_refl _) _).alloc (by simp) _

set_option maxRecDepth 100000 in
set_option maxHeartbeats 1000000 in
theorem call_value_known (id tr kk kn hk hn nx : Int) (ks hs : ByteArray) (w : World) :
    Calls Try.prog 32 #[.agg #[.int .i64 2, .int .i64 id, .int .i64 tr, .int .i64 kk, .int .i64 kn, .string ks, .int .i64 hk, .int .i64 hn, .string hs, .int .i64 nx]] w (Gives (.agg #[.int .i64 hk, .int .i64 hn, .string hs]) w) := by
  go_enter Try.func32, Try.ntmps32
  go_wp2_with fail
  refine bodyPost_ret (v := .agg #[.int .i64 hk, .int .i64 hn, .string hs]) (by simp [results, Try.results32, go_sem]) rfl (gives_mk rfl ?_)
  exact ((Below.refl _ _).alloc (Nat.le_refl _) _).alloc (by simp) _

set_option maxRecDepth 100000 in
set_option maxHeartbeats 1000000 in
theorem call_value_given (id tr kk kn hk hn nx : Int) (ks hs : ByteArray) (w : World) :
    Calls Try.prog 32 #[.agg #[.int .i64 3, .int .i64 id, .int .i64 tr, .int .i64 kk, .int .i64 kn, .string ks, .int .i64 hk, .int .i64 hn, .string hs, .int .i64 nx]] w (Gives (.agg #[.int .i64 5, .int .i64 14, .string ⟨#[]⟩]) w) := by
  go_enter Try.func32, Try.ntmps32
  go_wp2_with fail
  refine bodyPost_ret (v := .agg #[.int .i64 5, .int .i64 14, .string ⟨#[]⟩]) (by simp [results, Try.results32, go_sem]) rfl (gives_mk rfl ?_)
  exact ((Below.refl _ _).alloc (Nat.le_refl _) _).alloc (by simp) _

/-- A call that is not Asking, or not yet to be woken, stays. -/
theorem call_wake_stays (t b c st id tr kk kn hk hn nx now : Int) (ks hs : ByteArray) (w : World) (n0 : 0 ≤ now) (n1 : now ≤ 1073741824)
    (hck : ∀ w, Calls Try.prog 34 #[.agg #[.int .i64 st, .int .i64 id, .int .i64 tr, .int .i64 kk, .int .i64 kn, .string ks, .int .i64 hk, .int .i64 hn, .string hs, .int .i64 nx], .agg #[.int .i64 t, .int .i64 b, .int .i64 c]] w (Gives (.int .i64 0) w)) (hst : (st != 1) = true ∨ (st != 1) = false ∧ now < nx) :
    Calls Try.prog 33 #[.agg #[.int .i64 st, .int .i64 id, .int .i64 tr, .int .i64 kk, .int .i64 kn, .string ks, .int .i64 hk, .int .i64 hn, .string hs, .int .i64 nx], .agg #[.int .i64 t, .int .i64 b, .int .i64 c], .int .i64 now] w (Gives (.tuple #[.agg #[.int .i64 st, .int .i64 id, .int .i64 tr, .int .i64 kk, .int .i64 kn, .string ks, .int .i64 hk, .int .i64 hn, .string hs, .int .i64 nx], .bool false, .int .i64 0]) w) := by
  have HC := Lib.hid hck
  clear hck
  have bx1 := ((Box.new w #[.int .i64 st, .int .i64 id, .int .i64 tr, .int .i64 kk, .int .i64 kn, .string ks, .int .i64 hk, .int .i64 hn, .string hs, .int .i64 nx] 56).alloc (.cells #[.int .i64 t, .int .i64 b, .int .i64 c] 45)).alloc (.cells #[.int .i64 0, .int .i64 0, .int .i64 0, .int .i64 0, .int .i64 0, .string ⟨#[]⟩, .int .i64 0, .int .i64 0, .string ⟨#[]⟩, .int .i64 0] 56)
  have BX1 := Lib.hid bx1
  clear bx1
  have bx2 := (Box.new (w.alloc (.cells #[.int .i64 st, .int .i64 id, .int .i64 tr, .int .i64 kk, .int .i64 kn, .string ks, .int .i64 hk, .int .i64 hn, .string hs, .int .i64 nx] 56)) #[.int .i64 t, .int .i64 b, .int .i64 c] 45).alloc (.cells #[.int .i64 0, .int .i64 0, .int .i64 0, .int .i64 0, .int .i64 0, .string ⟨#[]⟩, .int .i64 0, .int .i64 0, .string ⟨#[]⟩, .int .i64 0] 56)
  rw [show (w.alloc (.cells #[.int .i64 st, .int .i64 id, .int .i64 tr, .int .i64 kk, .int .i64 kn, .string ks, .int .i64 hk, .int .i64 hn, .string hs, .int .i64 nx] 56)).heap.size = w.heap.size + 1 from by simp] at bx2
  have BX2 := Lib.hid bx2
  clear bx2
  have bx3 := Box.new ((w.alloc (.cells #[.int .i64 st, .int .i64 id, .int .i64 tr, .int .i64 kk, .int .i64 kn, .string ks, .int .i64 hk, .int .i64 hn, .string hs, .int .i64 nx] 56)).alloc (.cells #[.int .i64 t, .int .i64 b, .int .i64 c] 45)) #[.int .i64 0, .int .i64 0, .int .i64 0, .int .i64 0, .int .i64 0, .string ⟨#[]⟩, .int .i64 0, .int .i64 0, .string ⟨#[]⟩, .int .i64 0] 56
  rw [show ((w.alloc (.cells #[.int .i64 st, .int .i64 id, .int .i64 tr, .int .i64 kk, .int .i64 kn, .string ks, .int .i64 hk, .int .i64 hn, .string hs, .int .i64 nx] 56)).alloc (.cells #[.int .i64 t, .int .i64 b, .int .i64 c] 45)).heap.size = w.heap.size + 1 + 1 from by simp] at bx3
  have BX3 := Lib.hid bx3
  clear bx3
  have bw := bthen (bthen ((Below.refl w.heap.size w).alloc (Nat.le_refl _) (.cells #[.int .i64 st, .int .i64 id, .int .i64 tr, .int .i64 kk, .int .i64 kn, .string ks, .int .i64 hk, .int .i64 hn, .string hs, .int .i64 nx] 56)) ((Below.refl _ _).alloc (Nat.le_refl _) (.cells #[.int .i64 t, .int .i64 b, .int .i64 c] 45))) ((Below.refl _ _).alloc (Nat.le_refl _) (.cells #[.int .i64 0, .int .i64 0, .int .i64 0, .int .i64 0, .int .i64 0, .string ⟨#[]⟩, .int .i64 0, .int .i64 0, .string ⟨#[]⟩, .int .i64 0] 56))
  have BW := Lib.hid bw
  clear bw
  rcases hst with s1 | ⟨s1, s2⟩
  all_goals
    go_enter Try.func33, Try.ntmps33
    go_wp2_with fail
    with_reducible refine (HC.out _).mono ?_
    rintro e w' ⟨rfl, hb⟩
    have hx := BX1.out.keep hb
    have hz := BX3.out.keep hb
    have hw := bthen BW.out hb
    clear BX1 BX2 BX3 BW hb
    have x0 := hx.cells 0 _ rfl
    have x1 := hx.cells 1 _ rfl
    have x2 := hx.cells 2 _ rfl
    have x3 := hx.cells 3 _ rfl
    have x4 := hx.cells 4 _ rfl
    have x5 := hx.cells 5 _ rfl
    have x6 := hx.cells 6 _ rfl
    have x7 := hx.cells 7 _ rfl
    have x8 := hx.cells 8 _ rfl
    have x9 := hx.cells 9 _ rfl
    have z0 := hz.cells 0 _ rfl
    have z1 := hz.cells 1 _ rfl
    have z2 := hz.cells 2 _ rfl
    have z3 := hz.cells 3 _ rfl
    have z4 := hz.cells 4 _ rfl
    have z5 := hz.cells 5 _ rfl
    have z6 := hz.cells 6 _ rfl
    have z7 := hz.cells 7 _ rfl
    have z8 := hz.cells 8 _ rfl
    have z9 := hz.cells 9 _ rfl
    have f0 := hz.free 0
    have f1 := hz.free 1
    have f2 := hz.free 2
    have f3 := hz.free 3
    have f4 := hz.free 4
    have f5 := hz.free 5
    have f6 := hz.free 6
    have f7 := hz.free 7
    have f8 := hz.free 8
    have f9 := hz.free 9
    go_wp2_with fail
    refine bodyPost_ret (v := .tuple #[.agg #[.int .i64 st, .int .i64 id, .int .i64 tr, .int .i64 kk, .int .i64 kn, .string ks, .int .i64 hk, .int .i64 hn, .string hs, .int .i64 nx], .bool false, .int .i64 0]) (by simp [results, Try.results33, go_sem, z0, z1, z2, z3, z4, z5, z6, z7, z8, z9]) rfl (gives_mk rfl ?_)
    repeat (first | with_reducible refine Below.drew ?_ | with_reducible refine Below.setCell ?_ (by first | (simp; done) | (simp; omega)) _)
    exact hw

end Go.Proofs.Ytpckomnpeainlaa
