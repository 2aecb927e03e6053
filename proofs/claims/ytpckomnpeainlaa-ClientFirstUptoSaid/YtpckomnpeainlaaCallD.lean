/-
  Contracts of call.Hear.
-/
import Derived.Test.YtpckomnpeainlaaCallC
namespace Go.Proofs.Ytpckomnpeainlaa
open Go.RowKit

set_option maxRecDepth 100000 in
set_option maxHeartbeats 1000000 in
/-- The answer that it waits for is taken. -/
theorem call_hear_takes (t b c id tr kk kn nx hk hn : Int) (ks hs : ByteArray) (w : World) (hp : OkPol t b c) (i0 : 1 ≤ id) (i1 : id ≤ 1073741824) (t0 : 1 ≤ tr) (t1 : tr ≤ t) (n0 : 0 ≤ nx) (n1 : nx ≤ 1073742824)
    (hkey : KnownV kk kn ks) (hhas : KnownV hk hn hs) :
    Calls Try.prog 31 #[.agg #[.int .i64 1, .int .i64 id, .int .i64 tr, .int .i64 kk, .int .i64 kn, .string ks, .int .i64 0, .int .i64 0, .string ⟨#[]⟩, .int .i64 nx], .agg #[.int .i64 t, .int .i64 b, .int .i64 c], .int .i64 id, .agg #[.int .i64 kk, .int .i64 kn, .string ks], .agg #[.int .i64 hk, .int .i64 hn, .string hs]] w (Gives (.tuple #[.agg #[.int .i64 2, .int .i64 id, .int .i64 tr, .int .i64 kk, .int .i64 kn, .string ks, .int .i64 hk, .int .i64 hn, .string hs, .int .i64 0], .bool true, .int .i64 0]) w) := by
  have HC := fun w => Lib.hid (call_check_ask t b c id tr kk kn nx ks w hp i0 i1 t0 t1 n0 n1 hkey)
  have HC' := Lib.hid HC
  have HH := Lib.hid hhas
  clear HC hkey hp hhas
  have bx1 := ((((Box.new w #[.int .i64 1, .int .i64 id, .int .i64 tr, .int .i64 kk, .int .i64 kn, .string ks, .int .i64 0, .int .i64 0, .string ⟨#[]⟩, .int .i64 nx] 56).alloc (.cells #[.int .i64 t, .int .i64 b, .int .i64 c] 45)).alloc (.cells #[.int .i64 kk, .int .i64 kn, .string ks] 29)).alloc (.cells #[.int .i64 hk, .int .i64 hn, .string hs] 29)).alloc (.cells #[.int .i64 0, .int .i64 0, .int .i64 0, .int .i64 0, .int .i64 0, .string ⟨#[]⟩, .int .i64 0, .int .i64 0, .string ⟨#[]⟩, .int .i64 0] 56)
  have BX1 := Lib.hid bx1
  clear bx1
  have bx2 := (((Box.new (w.alloc (.cells #[.int .i64 1, .int .i64 id, .int .i64 tr, .int .i64 kk, .int .i64 kn, .string ks, .int .i64 0, .int .i64 0, .string ⟨#[]⟩, .int .i64 nx] 56)) #[.int .i64 t, .int .i64 b, .int .i64 c] 45).alloc (.cells #[.int .i64 kk, .int .i64 kn, .string ks] 29)).alloc (.cells #[.int .i64 hk, .int .i64 hn, .string hs] 29)).alloc (.cells #[.int .i64 0, .int .i64 0, .int .i64 0, .int .i64 0, .int .i64 0, .string ⟨#[]⟩, .int .i64 0, .int .i64 0, .string ⟨#[]⟩, .int .i64 0] 56)
  rw [show (w.alloc (.cells #[.int .i64 1, .int .i64 id, .int .i64 tr, .int .i64 kk, .int .i64 kn, .string ks, .int .i64 0, .int .i64 0, .string ⟨#[]⟩, .int .i64 nx] 56)).heap.size = w.heap.size + 1 from by simp] at bx2
  have BX2 := Lib.hid bx2
  clear bx2
  have bx3 := ((Box.new ((w.alloc (.cells #[.int .i64 1, .int .i64 id, .int .i64 tr, .int .i64 kk, .int .i64 kn, .string ks, .int .i64 0, .int .i64 0, .string ⟨#[]⟩, .int .i64 nx] 56)).alloc (.cells #[.int .i64 t, .int .i64 b, .int .i64 c] 45)) #[.int .i64 kk, .int .i64 kn, .string ks] 29).alloc (.cells #[.int .i64 hk, .int .i64 hn, .string hs] 29)).alloc (.cells #[.int .i64 0, .int .i64 0, .int .i64 0, .int .i64 0, .int .i64 0, .string ⟨#[]⟩, .int .i64 0, .int .i64 0, .string ⟨#[]⟩, .int .i64 0] 56)
  rw [show ((w.alloc (.cells #[.int .i64 1, .int .i64 id, .int .i64 tr, .int .i64 kk, .int .i64 kn, .string ks, .int .i64 0, .int .i64 0, .string ⟨#[]⟩, .int .i64 nx] 56)).alloc (.cells #[.int .i64 t, .int .i64 b, .int .i64 c] 45)).heap.size = w.heap.size + 1 + 1 from by simp] at bx3
  have BX3 := Lib.hid bx3
  clear bx3
  have bx4 := (Box.new (((w.alloc (.cells #[.int .i64 1, .int .i64 id, .int .i64 tr, .int .i64 kk, .int .i64 kn, .string ks, .int .i64 0, .int .i64 0, .string ⟨#[]⟩, .int .i64 nx] 56)).alloc (.cells #[.int .i64 t, .int .i64 b, .int .i64 c] 45)).alloc (.cells #[.int .i64 kk, .int .i64 kn, .string ks] 29)) #[.int .i64 hk, .int .i64 hn, .string hs] 29).alloc (.cells #[.int .i64 0, .int .i64 0, .int .i64 0, .int .i64 0, .int .i64 0, .string ⟨#[]⟩, .int .i64 0, .int .i64 0, .string ⟨#[]⟩, .int .i64 0] 56)
  rw [show (((w.alloc (.cells #[.int .i64 1, .int .i64 id, .int .i64 tr, .int .i64 kk, .int .i64 kn, .string ks, .int .i64 0, .int .i64 0, .string ⟨#[]⟩, .int .i64 nx] 56)).alloc (.cells #[.int .i64 t, .int .i64 b, .int .i64 c] 45)).alloc (.cells #[.int .i64 kk, .int .i64 kn, .string ks] 29)).heap.size = w.heap.size + 1 + 1 + 1 from by simp] at bx4
  have BX4 := Lib.hid bx4
  clear bx4
  have bx5 := Box.new ((((w.alloc (.cells #[.int .i64 1, .int .i64 id, .int .i64 tr, .int .i64 kk, .int .i64 kn, .string ks, .int .i64 0, .int .i64 0, .string ⟨#[]⟩, .int .i64 nx] 56)).alloc (.cells #[.int .i64 t, .int .i64 b, .int .i64 c] 45)).alloc (.cells #[.int .i64 kk, .int .i64 kn, .string ks] 29)).alloc (.cells #[.int .i64 hk, .int .i64 hn, .string hs] 29)) #[.int .i64 0, .int .i64 0, .int .i64 0, .int .i64 0, .int .i64 0, .string ⟨#[]⟩, .int .i64 0, .int .i64 0, .string ⟨#[]⟩, .int .i64 0] 56
  rw [show ((((w.alloc (.cells #[.int .i64 1, .int .i64 id, .int .i64 tr, .int .i64 kk, .int .i64 kn, .string ks, .int .i64 0, .int .i64 0, .string ⟨#[]⟩, .int .i64 nx] 56)).alloc (.cells #[.int .i64 t, .int .i64 b, .int .i64 c] 45)).alloc (.cells #[.int .i64 kk, .int .i64 kn, .string ks] 29)).alloc (.cells #[.int .i64 hk, .int .i64 hn, .string hs] 29)).heap.size = w.heap.size + 1 + 1 + 1 + 1 from by simp] at bx5
  have BX5 := Lib.hid bx5
  clear bx5
  have bw := bthen (bthen (bthen (bthen ((Below.refl w.heap.size w).alloc (Nat.le_refl _) (.cells #[.int .i64 1, .int .i64 id, .int .i64 tr, .int .i64 kk, .int .i64 kn, .string ks, .int .i64 0, .int .i64 0, .string ⟨#[]⟩, .int .i64 nx] 56)) ((Below.refl _ _).alloc (Nat.le_refl _) (.cells #[.int .i64 t, .int .i64 b, .int .i64 c] 45))) ((Below.refl _ _).alloc (Nat.le_refl _) (.cells #[.int .i64 kk, .int .i64 kn, .string ks] 29))) ((Below.refl _ _).alloc (Nat.le_refl _) (.cells #[.int .i64 hk, .int .i64 hn, .string hs] 29))) ((Below.refl _ _).alloc (Nat.le_refl _) (.cells #[.int .i64 0, .int .i64 0, .int .i64 0, .int .i64 0, .int .i64 0, .string ⟨#[]⟩, .int .i64 0, .int .i64 0, .string ⟨#[]⟩, .int .i64 0] 56))
  have BW := Lib.hid bw
  clear bw
  go_enter Try.func31, Try.ntmps31
  go_wp2_with fail
  with_reducible refine ((HC'.out _).out).mono ?_
  rintro e w' ⟨rfl, hb⟩
  have hx := BX1.out.keep hb
  have hy := BX3.out.keep hb
  have hv := BX4.out.keep hb
  have hz := BX5.out.keep hb
  have hw := bthen BW.out hb
  clear BX1 BX2 BX3 BX4 BX5 BW hb HC'
  have x0 := hx.cells 0 _ rfl
  have x1 := hx.cells 1 _ rfl
  have x2 := hx.cells 2 _ rfl
  have x3 := hx.cells 3 _ rfl
  have x4 := hx.cells 4 _ rfl
  have x5 := hx.cells 5 _ rfl
  have x6 := hx.cells 6 _ rfl
  have x7 := hx.cells 7 _ rfl
  have x8 := hx.cells 8 _ rfl
  have x9 := hx.cells 9 _ rfl
  have y0 := hy.cells 0 _ rfl
  have y1 := hy.cells 1 _ rfl
  have y2 := hy.cells 2 _ rfl
  have v0 := hv.cells 0 _ rfl
  have v1 := hv.cells 1 _ rfl
  have v2 := hv.cells 2 _ rfl
  go_wp2_with fail
  with_reducible refine (known_true hk hn hs _ HH.out).mono ?_
  rintro e w2 ⟨rfl, hb⟩
  replace hx := hx.keep hb
  replace hv := hv.keep hb
  replace hz := hz.keep hb
  replace hw := bthen hw hb
  clear x0 x1 x2 x3 x4 x5 x6 x7 x8 x9 y0 y1 y2 v0 v1 v2
  clear hb hy
  have x0 := hx.cells 0 _ rfl
  have x1 := hx.cells 1 _ rfl
  have x2 := hx.cells 2 _ rfl
  have x3 := hx.cells 3 _ rfl
  have x4 := hx.cells 4 _ rfl
  have x5 := hx.cells 5 _ rfl
  have x6 := hx.cells 6 _ rfl
  have x7 := hx.cells 7 _ rfl
  have x8 := hx.cells 8 _ rfl
  have x9 := hx.cells 9 _ rfl
  have e0 := hx.free 0
  have e1 := hx.free 1
  have e2 := hx.free 2
  have e3 := hx.free 3
  have e4 := hx.free 4
  have e5 := hx.free 5
  have e6 := hx.free 6
  have e7 := hx.free 7
  have e8 := hx.free 8
  have e9 := hx.free 9
  have v0 := hv.cells 0 _ rfl
  have v1 := hv.cells 1 _ rfl
  have v2 := hv.cells 2 _ rfl
  have z0 := hz.cells 0 _ rfl
  have z1 := hz.cells 1 _ rfl
  have z2 := hz.cells 2 _ rfl
  have z3 := hz.cells 3 _ rfl
  have z4 := hz.cells 4 _ rfl
  have z5 := hz.cells 5 _ rfl
  have z6 := hz.cells 6 _ rfl
  have z7 := hz.cells 7 _ rfl
  have z8 := hz.cells 8 _ rfl
  have z9 := hz.cells 9 _ rfl
  have f0 := hz.free 0
  have f1 := hz.free 1
  have f2 := hz.free 2
  have f3 := hz.free 3
  have f4 := hz.free 4
  have f5 := hz.free 5
  have f6 := hz.free 6
  have f7 := hz.free 7
  have f8 := hz.free 8
  have f9 := hz.free 9
  go_wp2_with fail
  go_region
  go_wp2_with fail
  refine bodyPost_ret (v := .tuple #[.agg #[.int .i64 2, .int .i64 id, .int .i64 tr, .int .i64 kk, .int .i64 kn, .string ks, .int .i64 hk, .int .i64 hn, .string hs, .int .i64 0], .bool true, .int .i64 0]) (by simp [results, Try.results31, go_sem, z0, z1, z2, z3, z4, z5, z6, z7, z8, z9]) rfl (gives_mk rfl ?_)
  repeat (first | with_reducible refine Below.drew ?_ | with_reducible refine Below.setCell ?_ (by first | (simp; done) | (simp; omega)) _)
  exact hw

/-- What the test of an answer comes to, where it is not the one waited for. -/
def NotMine (st id id' kk kn kk' kn' : Int) (ks ks' : ByteArray) : Prop :=
  (st != 1) = true ∨ ((st != 1) = false ∧ (id != id') = true) ∨ ((st != 1) = false ∧ (id != id') = false ∧ (kk == kk') = false) ∨
    ((st != 1) = false ∧ (id != id') = false ∧ (kk == kk') = true ∧ (kn == kn') = false) ∨ ((st != 1) = false ∧ (id != id') = false ∧ (kk == kk') = true ∧ (kn == kn') = true ∧ (ks.toList == ks'.toList) = false)

set_option maxRecDepth 100000 in
set_option maxHeartbeats 2000000 in
/-- Another one is not. -/
theorem call_hear_not (t b c st id tr kk kn nx hk hn id' kk' kn' ak an : Int) (ks hs ks' av : ByteArray) (w : World)
    (hck : ∀ w, Calls Try.prog 34 #[.agg #[.int .i64 st, .int .i64 id, .int .i64 tr, .int .i64 kk, .int .i64 kn, .string ks, .int .i64 hk, .int .i64 hn, .string hs, .int .i64 nx], .agg #[.int .i64 t, .int .i64 b, .int .i64 c]] w (Gives (.int .i64 0) w)) (hn' : NotMine st id id' kk kn kk' kn' ks ks') :
    Calls Try.prog 31 #[.agg #[.int .i64 st, .int .i64 id, .int .i64 tr, .int .i64 kk, .int .i64 kn, .string ks, .int .i64 hk, .int .i64 hn, .string hs, .int .i64 nx], .agg #[.int .i64 t, .int .i64 b, .int .i64 c], .int .i64 id', .agg #[.int .i64 (kk'), .int .i64 (kn'), .string (ks')], .agg #[.int .i64 ak, .int .i64 an, .string av]] w (Gives (.tuple #[.agg #[.int .i64 st, .int .i64 id, .int .i64 tr, .int .i64 kk, .int .i64 kn, .string ks, .int .i64 hk, .int .i64 hn, .string hs, .int .i64 nx], .bool false, .int .i64 0]) w) := by
  have HC := Lib.hid hck
  clear hck
  have bx1 := ((((Box.new w #[.int .i64 st, .int .i64 id, .int .i64 tr, .int .i64 kk, .int .i64 kn, .string ks, .int .i64 hk, .int .i64 hn, .string hs, .int .i64 nx] 56).alloc (.cells #[.int .i64 t, .int .i64 b, .int .i64 c] 45)).alloc (.cells #[.int .i64 (kk'), .int .i64 (kn'), .string (ks')] 29)).alloc (.cells #[.int .i64 ak, .int .i64 an, .string av] 29)).alloc (.cells #[.int .i64 0, .int .i64 0, .int .i64 0, .int .i64 0, .int .i64 0, .string ⟨#[]⟩, .int .i64 0, .int .i64 0, .string ⟨#[]⟩, .int .i64 0] 56)
  have BX1 := Lib.hid bx1
  clear bx1
  have bx2 := (((Box.new (w.alloc (.cells #[.int .i64 st, .int .i64 id, .int .i64 tr, .int .i64 kk, .int .i64 kn, .string ks, .int .i64 hk, .int .i64 hn, .string hs, .int .i64 nx] 56)) #[.int .i64 t, .int .i64 b, .int .i64 c] 45).alloc (.cells #[.int .i64 (kk'), .int .i64 (kn'), .string (ks')] 29)).alloc (.cells #[.int .i64 ak, .int .i64 an, .string av] 29)).alloc (.cells #[.int .i64 0, .int .i64 0, .int .i64 0, .int .i64 0, .int .i64 0, .string ⟨#[]⟩, .int .i64 0, .int .i64 0, .string ⟨#[]⟩, .int .i64 0] 56)
  rw [show (w.alloc (.cells #[.int .i64 st, .int .i64 id, .int .i64 tr, .int .i64 kk, .int .i64 kn, .string ks, .int .i64 hk, .int .i64 hn, .string hs, .int .i64 nx] 56)).heap.size = w.heap.size + 1 from by simp] at bx2
  have BX2 := Lib.hid bx2
  clear bx2
  have bx3 := ((Box.new ((w.alloc (.cells #[.int .i64 st, .int .i64 id, .int .i64 tr, .int .i64 kk, .int .i64 kn, .string ks, .int .i64 hk, .int .i64 hn, .string hs, .int .i64 nx] 56)).alloc (.cells #[.int .i64 t, .int .i64 b, .int .i64 c] 45)) #[.int .i64 (kk'), .int .i64 (kn'), .string (ks')] 29).alloc (.cells #[.int .i64 ak, .int .i64 an, .string av] 29)).alloc (.cells #[.int .i64 0, .int .i64 0, .int .i64 0, .int .i64 0, .int .i64 0, .string ⟨#[]⟩, .int .i64 0, .int .i64 0, .string ⟨#[]⟩, .int .i64 0] 56)
  rw [show ((w.alloc (.cells #[.int .i64 st, .int .i64 id, .int .i64 tr, .int .i64 kk, .int .i64 kn, .string ks, .int .i64 hk, .int .i64 hn, .string hs, .int .i64 nx] 56)).alloc (.cells #[.int .i64 t, .int .i64 b, .int .i64 c] 45)).heap.size = w.heap.size + 1 + 1 from by simp] at bx3
  have BX3 := Lib.hid bx3
  clear bx3
  have bx4 := (Box.new (((w.alloc (.cells #[.int .i64 st, .int .i64 id, .int .i64 tr, .int .i64 kk, .int .i64 kn, .string ks, .int .i64 hk, .int .i64 hn, .string hs, .int .i64 nx] 56)).alloc (.cells #[.int .i64 t, .int .i64 b, .int .i64 c] 45)).alloc (.cells #[.int .i64 (kk'), .int .i64 (kn'), .string (ks')] 29)) #[.int .i64 ak, .int .i64 an, .string av] 29).alloc (.cells #[.int .i64 0, .int .i64 0, .int .i64 0, .int .i64 0, .int .i64 0, .string ⟨#[]⟩, .int .i64 0, .int .i64 0, .string ⟨#[]⟩, .int .i64 0] 56)
  rw [show (((w.alloc (.cells #[.int .i64 st, .int .i64 id, .int .i64 tr, .int .i64 kk, .int .i64 kn, .string ks, .int .i64 hk, .int .i64 hn, .string hs, .int .i64 nx] 56)).alloc (.cells #[.int .i64 t, .int .i64 b, .int .i64 c] 45)).alloc (.cells #[.int .i64 (kk'), .int .i64 (kn'), .string (ks')] 29)).heap.size = w.heap.size + 1 + 1 + 1 from by simp] at bx4
  have BX4 := Lib.hid bx4
  clear bx4
  have bx5 := Box.new ((((w.alloc (.cells #[.int .i64 st, .int .i64 id, .int .i64 tr, .int .i64 kk, .int .i64 kn, .string ks, .int .i64 hk, .int .i64 hn, .string hs, .int .i64 nx] 56)).alloc (.cells #[.int .i64 t, .int .i64 b, .int .i64 c] 45)).alloc (.cells #[.int .i64 (kk'), .int .i64 (kn'), .string (ks')] 29)).alloc (.cells #[.int .i64 ak, .int .i64 an, .string av] 29)) #[.int .i64 0, .int .i64 0, .int .i64 0, .int .i64 0, .int .i64 0, .string ⟨#[]⟩, .int .i64 0, .int .i64 0, .string ⟨#[]⟩, .int .i64 0] 56
  rw [show ((((w.alloc (.cells #[.int .i64 st, .int .i64 id, .int .i64 tr, .int .i64 kk, .int .i64 kn, .string ks, .int .i64 hk, .int .i64 hn, .string hs, .int .i64 nx] 56)).alloc (.cells #[.int .i64 t, .int .i64 b, .int .i64 c] 45)).alloc (.cells #[.int .i64 (kk'), .int .i64 (kn'), .string (ks')] 29)).alloc (.cells #[.int .i64 ak, .int .i64 an, .string av] 29)).heap.size = w.heap.size + 1 + 1 + 1 + 1 from by simp] at bx5
  have BX5 := Lib.hid bx5
  clear bx5
  have bw := bthen (bthen (bthen (bthen ((Below.refl w.heap.size w).alloc (Nat.le_refl _) (.cells #[.int .i64 st, .int .i64 id, .int .i64 tr, .int .i64 kk, .int .i64 kn, .string ks, .int .i64 hk, .int .i64 hn, .string hs, .int .i64 nx] 56)) ((Below.refl _ _).alloc (Nat.le_refl _) (.cells #[.int .i64 t, .int .i64 b, .int .i64 c] 45))) ((Below.refl _ _).alloc (Nat.le_refl _) (.cells #[.int .i64 (kk'), .int .i64 (kn'), .string (ks')] 29))) ((Below.refl _ _).alloc (Nat.le_refl _) (.cells #[.int .i64 ak, .int .i64 an, .string av] 29))) ((Below.refl _ _).alloc (Nat.le_refl _) (.cells #[.int .i64 0, .int .i64 0, .int .i64 0, .int .i64 0, .int .i64 0, .string ⟨#[]⟩, .int .i64 0, .int .i64 0, .string ⟨#[]⟩, .int .i64 0] 56))
  have BW := Lib.hid bw
  clear bw
  rcases hn' with q1 | ⟨q1, q2⟩ | ⟨q1, q2, q3⟩ | ⟨q1, q2, q3, q4⟩ | ⟨q1, q2, q3, q4, q5⟩
  all_goals
    go_enter Try.func31, Try.ntmps31
    go_wp2_with fail
    with_reducible refine (HC.out _).mono ?_
    rintro e w' ⟨rfl, hb⟩
    have hx := BX1.out.keep hb
    have hy := BX3.out.keep hb
    have hz := BX5.out.keep hb
    have hw := bthen BW.out hb
    clear BX1 BX2 BX3 BX4 BX5 BW hb HC
    have x0 := hx.cells 0 _ rfl
    have x1 := hx.cells 1 _ rfl
    have x2 := hx.cells 2 _ rfl
    have x3 := hx.cells 3 _ rfl
    have x4 := hx.cells 4 _ rfl
    have x5 := hx.cells 5 _ rfl
    have x6 := hx.cells 6 _ rfl
    have x7 := hx.cells 7 _ rfl
    have x8 := hx.cells 8 _ rfl
    have x9 := hx.cells 9 _ rfl
    have y0 := hy.cells 0 _ rfl
    have y1 := hy.cells 1 _ rfl
    have y2 := hy.cells 2 _ rfl
    have z0 := hz.cells 0 _ rfl
    have z1 := hz.cells 1 _ rfl
    have z2 := hz.cells 2 _ rfl
    have z3 := hz.cells 3 _ rfl
    have z4 := hz.cells 4 _ rfl
    have z5 := hz.cells 5 _ rfl
    have z6 := hz.cells 6 _ rfl
    have z7 := hz.cells 7 _ rfl
    have z8 := hz.cells 8 _ rfl
    have z9 := hz.cells 9 _ rfl
    have f0 := hz.free 0
    have f1 := hz.free 1
    have f2 := hz.free 2
    have f3 := hz.free 3
    have f4 := hz.free 4
    have f5 := hz.free 5
    have f6 := hz.free 6
    have f7 := hz.free 7
    have f8 := hz.free 8
    have f9 := hz.free 9
    go_wp2_with fail
    refine bodyPost_ret (v := .tuple #[.agg #[.int .i64 st, .int .i64 id, .int .i64 tr, .int .i64 kk, .int .i64 kn, .string ks, .int .i64 hk, .int .i64 hn, .string hs, .int .i64 nx], .bool false, .int .i64 0]) (by simp [results, Try.results31, go_sem, z0, z1, z2, z3, z4, z5, z6, z7, z8, z9]) rfl (gives_mk rfl ?_)
    repeat (first | with_reducible refine Below.drew ?_ | with_reducible refine Below.setCell ?_ (by first | (simp; done) | (simp; omega)) _)
    exact hw

set_option maxRecDepth 100000 in
set_option maxHeartbeats 2000000 in
/-- What is no value is not taken. -/
theorem call_hear_unknown (t b c id tr kk kn nx hk hn ak an : Int) (ks hs av : ByteArray) (w : World)
    (hck : ∀ w, Calls Try.prog 34 #[.agg #[.int .i64 1, .int .i64 id, .int .i64 tr, .int .i64 kk, .int .i64 kn, .string ks, .int .i64 hk, .int .i64 hn, .string hs, .int .i64 nx], .agg #[.int .i64 t, .int .i64 b, .int .i64 c]] w (Gives (.int .i64 0) w)) (hkn : ∀ w, Calls Try.prog 54 #[.agg #[.int .i64 ak, .int .i64 an, .string av]] w (Gives (.bool false) w)) :
    Calls Try.prog 31 #[.agg #[.int .i64 1, .int .i64 id, .int .i64 tr, .int .i64 kk, .int .i64 kn, .string ks, .int .i64 hk, .int .i64 hn, .string hs, .int .i64 nx], .agg #[.int .i64 t, .int .i64 b, .int .i64 c], .int .i64 id, .agg #[.int .i64 kk, .int .i64 kn, .string ks], .agg #[.int .i64 ak, .int .i64 an, .string av]] w (Gives (.tuple #[.agg #[.int .i64 1, .int .i64 id, .int .i64 tr, .int .i64 kk, .int .i64 kn, .string ks, .int .i64 hk, .int .i64 hn, .string hs, .int .i64 nx], .bool false, .int .i64 0]) w) := by
  have HC := Lib.hid hck
  have HK := Lib.hid hkn
  clear hck hkn
  have bx1 := ((((Box.new w #[.int .i64 1, .int .i64 id, .int .i64 tr, .int .i64 kk, .int .i64 kn, .string ks, .int .i64 hk, .int .i64 hn, .string hs, .int .i64 nx] 56).alloc (.cells #[.int .i64 t, .int .i64 b, .int .i64 c] 45)).alloc (.cells #[.int .i64 kk, .int .i64 kn, .string ks] 29)).alloc (.cells #[.int .i64 ak, .int .i64 an, .string av] 29)).alloc (.cells #[.int .i64 0, .int .i64 0, .int .i64 0, .int .i64 0, .int .i64 0, .string ⟨#[]⟩, .int .i64 0, .int .i64 0, .string ⟨#[]⟩, .int .i64 0] 56)
  have BX1 := Lib.hid bx1
  clear bx1
  have bx2 := (((Box.new (w.alloc (.cells #[.int .i64 1, .int .i64 id, .int .i64 tr, .int .i64 kk, .int .i64 kn, .string ks, .int .i64 hk, .int .i64 hn, .string hs, .int .i64 nx] 56)) #[.int .i64 t, .int .i64 b, .int .i64 c] 45).alloc (.cells #[.int .i64 kk, .int .i64 kn, .string ks] 29)).alloc (.cells #[.int .i64 ak, .int .i64 an, .string av] 29)).alloc (.cells #[.int .i64 0, .int .i64 0, .int .i64 0, .int .i64 0, .int .i64 0, .string ⟨#[]⟩, .int .i64 0, .int .i64 0, .string ⟨#[]⟩, .int .i64 0] 56)
  rw [show (w.alloc (.cells #[.int .i64 1, .int .i64 id, .int .i64 tr, .int .i64 kk, .int .i64 kn, .string ks, .int .i64 hk, .int .i64 hn, .string hs, .int .i64 nx] 56)).heap.size = w.heap.size + 1 from by simp] at bx2
  have BX2 := Lib.hid bx2
  clear bx2
  have bx3 := ((Box.new ((w.alloc (.cells #[.int .i64 1, .int .i64 id, .int .i64 tr, .int .i64 kk, .int .i64 kn, .string ks, .int .i64 hk, .int .i64 hn, .string hs, .int .i64 nx] 56)).alloc (.cells #[.int .i64 t, .int .i64 b, .int .i64 c] 45)) #[.int .i64 kk, .int .i64 kn, .string ks] 29).alloc (.cells #[.int .i64 ak, .int .i64 an, .string av] 29)).alloc (.cells #[.int .i64 0, .int .i64 0, .int .i64 0, .int .i64 0, .int .i64 0, .string ⟨#[]⟩, .int .i64 0, .int .i64 0, .string ⟨#[]⟩, .int .i64 0] 56)
  rw [show ((w.alloc (.cells #[.int .i64 1, .int .i64 id, .int .i64 tr, .int .i64 kk, .int .i64 kn, .string ks, .int .i64 hk, .int .i64 hn, .string hs, .int .i64 nx] 56)).alloc (.cells #[.int .i64 t, .int .i64 b, .int .i64 c] 45)).heap.size = w.heap.size + 1 + 1 from by simp] at bx3
  have BX3 := Lib.hid bx3
  clear bx3
  have bx4 := (Box.new (((w.alloc (.cells #[.int .i64 1, .int .i64 id, .int .i64 tr, .int .i64 kk, .int .i64 kn, .string ks, .int .i64 hk, .int .i64 hn, .string hs, .int .i64 nx] 56)).alloc (.cells #[.int .i64 t, .int .i64 b, .int .i64 c] 45)).alloc (.cells #[.int .i64 kk, .int .i64 kn, .string ks] 29)) #[.int .i64 ak, .int .i64 an, .string av] 29).alloc (.cells #[.int .i64 0, .int .i64 0, .int .i64 0, .int .i64 0, .int .i64 0, .string ⟨#[]⟩, .int .i64 0, .int .i64 0, .string ⟨#[]⟩, .int .i64 0] 56)
  rw [show (((w.alloc (.cells #[.int .i64 1, .int .i64 id, .int .i64 tr, .int .i64 kk, .int .i64 kn, .string ks, .int .i64 hk, .int .i64 hn, .string hs, .int .i64 nx] 56)).alloc (.cells #[.int .i64 t, .int .i64 b, .int .i64 c] 45)).alloc (.cells #[.int .i64 kk, .int .i64 kn, .string ks] 29)).heap.size = w.heap.size + 1 + 1 + 1 from by simp] at bx4
  have BX4 := Lib.hid bx4
  clear bx4
  have bx5 := Box.new ((((w.alloc (.cells #[.int .i64 1, .int .i64 id, .int .i64 tr, .int .i64 kk, .int .i64 kn, .string ks, .int .i64 hk, .int .i64 hn, .string hs, .int .i64 nx] 56)).alloc (.cells #[.int .i64 t, .int .i64 b, .int .i64 c] 45)).alloc (.cells #[.int .i64 kk, .int .i64 kn, .string ks] 29)).alloc (.cells #[.int .i64 ak, .int .i64 an, .string av] 29)) #[.int .i64 0, .int .i64 0, .int .i64 0, .int .i64 0, .int .i64 0, .string ⟨#[]⟩, .int .i64 0, .int .i64 0, .string ⟨#[]⟩, .int .i64 0] 56
  rw [show ((((w.alloc (.cells #[.int .i64 1, .int .i64 id, .int .i64 tr, .int .i64 kk, .int .i64 kn, .string ks, .int .i64 hk, .int .i64 hn, .string hs, .int .i64 nx] 56)).alloc (.cells #[.int .i64 t, .int .i64 b, .int .i64 c] 45)).alloc (.cells #[.int .i64 kk, .int .i64 kn, .string ks] 29)).alloc (.cells #[.int .i64 ak, .int .i64 an, .string av] 29)).heap.size = w.heap.size + 1 + 1 + 1 + 1 from by simp] at bx5
  have BX5 := Lib.hid bx5
  clear bx5
  have bw := bthen (bthen (bthen (bthen ((Below.refl w.heap.size w).alloc (Nat.le_refl _) (.cells #[.int .i64 1, .int .i64 id, .int .i64 tr, .int .i64 kk, .int .i64 kn, .string ks, .int .i64 hk, .int .i64 hn, .string hs, .int .i64 nx] 56)) ((Below.refl _ _).alloc (Nat.le_refl _) (.cells #[.int .i64 t, .int .i64 b, .int .i64 c] 45))) ((Below.refl _ _).alloc (Nat.le_refl _) (.cells #[.int .i64 kk, .int .i64 kn, .string ks] 29))) ((Below.refl _ _).alloc (Nat.le_refl _) (.cells #[.int .i64 ak, .int .i64 an, .string av] 29))) ((Below.refl _ _).alloc (Nat.le_refl _) (.cells #[.int .i64 0, .int .i64 0, .int .i64 0, .int .i64 0, .int .i64 0, .string ⟨#[]⟩, .int .i64 0, .int .i64 0, .string ⟨#[]⟩, .int .i64 0] 56))
  have BW := Lib.hid bw
  clear bw
  go_enter Try.func31, Try.ntmps31
  go_wp2_with fail
  with_reducible refine (HC.out _).mono ?_
  rintro e w' ⟨rfl, hb⟩
  have hx := BX1.out.keep hb
  have hy := BX3.out.keep hb
  have hv := BX4.out.keep hb
  have hz := BX5.out.keep hb
  have hw := bthen BW.out hb
  clear BX1 BX2 BX3 BX4 BX5 BW hb HC
  have x0 := hx.cells 0 _ rfl
  have x1 := hx.cells 1 _ rfl
  have x2 := hx.cells 2 _ rfl
  have x3 := hx.cells 3 _ rfl
  have x4 := hx.cells 4 _ rfl
  have x5 := hx.cells 5 _ rfl
  have x6 := hx.cells 6 _ rfl
  have x7 := hx.cells 7 _ rfl
  have x8 := hx.cells 8 _ rfl
  have x9 := hx.cells 9 _ rfl
  have y0 := hy.cells 0 _ rfl
  have y1 := hy.cells 1 _ rfl
  have y2 := hy.cells 2 _ rfl
  have v0 := hv.cells 0 _ rfl
  have v1 := hv.cells 1 _ rfl
  have v2 := hv.cells 2 _ rfl
  go_wp2_with fail
  with_reducible refine (HK.out _).mono ?_
  rintro e w2 ⟨rfl, hb⟩
  replace hx := hx.keep hb
  replace hz := hz.keep hb
  replace hw := bthen hw hb
  clear x0 x1 x2 x3 x4 x5 x6 x7 x8 x9 y0 y1 y2 v0 v1 v2
  clear hb hy hv
  have x0 := hx.cells 0 _ rfl
  have x1 := hx.cells 1 _ rfl
  have x2 := hx.cells 2 _ rfl
  have x3 := hx.cells 3 _ rfl
  have x4 := hx.cells 4 _ rfl
  have x5 := hx.cells 5 _ rfl
  have x6 := hx.cells 6 _ rfl
  have x7 := hx.cells 7 _ rfl
  have x8 := hx.cells 8 _ rfl
  have x9 := hx.cells 9 _ rfl
  have z0 := hz.cells 0 _ rfl
  have z1 := hz.cells 1 _ rfl
  have z2 := hz.cells 2 _ rfl
  have z3 := hz.cells 3 _ rfl
  have z4 := hz.cells 4 _ rfl
  have z5 := hz.cells 5 _ rfl
  have z6 := hz.cells 6 _ rfl
  have z7 := hz.cells 7 _ rfl
  have z8 := hz.cells 8 _ rfl
  have z9 := hz.cells 9 _ rfl
  have f0 := hz.free 0
  have f1 := hz.free 1
  have f2 := hz.free 2
  have f3 := hz.free 3
  have f4 := hz.free 4
  have f5 := hz.free 5
  have f6 := hz.free 6
  have f7 := hz.free 7
  have f8 := hz.free 8
  have f9 := hz.free 9
  go_wp2_with fail
  refine bodyPost_ret (v := .tuple #[.agg #[.int .i64 1, .int .i64 id, .int .i64 tr, .int .i64 kk, .int .i64 kn, .string ks, .int .i64 hk, .int .i64 hn, .string hs, .int .i64 nx], .bool false, .int .i64 0]) (by simp [results, Try.results31, go_sem, z0, z1, z2, z3, z4, z5, z6, z7, z8, z9]) rfl (gives_mk rfl ?_)
  repeat (first | with_reducible refine Below.drew ?_ | with_reducible refine Below.setCell ?_ (by first | (simp; done) | (simp; omega)) _)
  exact hw

set_option maxHeartbeats 400000 in
theorem known_pending (w : World) : Calls Try.prog 54 #[.agg #[.int .i64 4, .int .i64 0, .string ⟨#[]⟩]] w (Gives (.bool false) w) := by
  go_enter Try.func54, Try.ntmps54
  go_wp2_with fail
  go_ret
  exact ⟨rfl, (Below.refl _ _).alloc (Nat.le_refl _) _⟩

end Go.Proofs.Ytpckomnpeainlaa
