/-
  For all numbers and any two raw things ClientKeeps returns true: who has asked for a key does not ask again for it, for another one it does, for what is not known nobody asks. No condition.
-/
import Derived.Test.YtpckomnpeainlaaClient
import Derived.Test.YtpckomnpeainlaaBox10
import Derived.Test.YtpckomnpeainlaaVal
namespace Go.Proofs.Ytpckomnpeainlaa
open Go.RowKit

set_option maxRecDepth 100000 in
set_option maxHeartbeats 8000000 in
theorem clientKeeps_walk (a b : Int) (r s : RawD) (w : World) (h0 : -9223372036854775808 ≤ a) (h1 : a ≤ 9223372036854775807) (h2 : -9223372036854775808 ≤ b) (h3 : b ≤ 9223372036854775807) (hr : r.ok) (hs : s.ok) :
    Calls Try.prog 14 #[.int .i64 a, .int .i64 b, r.val, s.val] w fun e w' => e = .returned (.bool true) ∧ Below w.heap.size w w' := by
  have HR := Lib.hid hr
  have HS := Lib.hid hs
  clear hr hs
  have bx1 := (Box.new w #[.int .i64 r.k, .int .i64 r.a, .int .i64 r.b, .string r.t] 50).alloc (.cells #[.int .i64 s.k, .int .i64 s.a, .int .i64 s.b, .string s.t] 50)
  have BX1 := Lib.hid bx1
  clear bx1
  have bx2 := Box.new (w.alloc (.cells #[.int .i64 r.k, .int .i64 r.a, .int .i64 r.b, .string r.t] 50)) #[.int .i64 s.k, .int .i64 s.a, .int .i64 s.b, .string s.t] 50
  rw [show (w.alloc (.cells #[.int .i64 r.k, .int .i64 r.a, .int .i64 r.b, .string r.t] 50)).heap.size = w.heap.size + 1 from by simp] at bx2
  have BX2 := Lib.hid bx2
  clear bx2
  have bw := bthen ((Below.refl w.heap.size w).alloc (Nat.le_refl _) (.cells #[.int .i64 r.k, .int .i64 r.a, .int .i64 r.b, .string r.t] 50)) ((Below.refl _ _).alloc (Nat.le_refl _) (.cells #[.int .i64 s.k, .int .i64 s.a, .int .i64 s.b, .string s.t] 50))
  have BW := Lib.hid bw
  clear bw
  go_enter Try.func14, Try.ntmps14
  go_wp2_with fail
  with_reducible refine (policy_any a b 9 _ h0 h1 h2 h3 (by omega) (by omega)).mono ?_
  rintro e w' ⟨t, p, q, g0, g1, g2, g3, g4, g5, rfl, hb⟩
  clear h0 h1 h2 h3
  have hx := (BX1.out.keep hb).alloc (.cells #[.int .i64 t, .int .i64 p, .int .i64 q] 45)
  have hy := (BX2.out.keep hb).alloc (.cells #[.int .i64 t, .int .i64 p, .int .i64 q] 45)
  have hp := Box.new w' #[.int .i64 t, .int .i64 p, .int .i64 q] 45
  have hw := bthen (bthen BW.out hb) ((Below.refl w'.heap.size w').alloc (Nat.le_refl _) (.cells #[.int .i64 t, .int .i64 p, .int .i64 q] 45))
  clear BX1 BX2 BW hb
  go_wp2_with fail
  generalize w'.alloc (.cells #[.int .i64 t, .int .i64 p, .int .i64 q] 45) = W at *
  generalize w'.heap.size = BP at *
  generalize w.heap.size + 1 = B1 at *
  have OP : Hid (OkPol t p q) := ⟨g0, g1, g2, g3, by omega⟩
  have hka := val_known 1 r.k r.a r.t (by omega) (by omega)
  have hkb := val_known 1 s.k s.a s.t (by omega) (by omega)
  have HV := Lib.hid (fun w => val_int r w HR.out)
  have HU := Lib.hid (fun w => val_int s w HS.out)
  clear HR HS
  generalize valN 1 r.k r.a = na at *
  generalize valN 1 s.k s.a = nb at *
  have HA : Hid (KnownV 1 na ⟨#[]⟩) := hka
  have HB : Hid (KnownV 1 nb ⟨#[]⟩) := hkb
  clear hka hkb
  generalize hB0 : w.heap.size = B0 at *
  refine region_go (by kernel_rfl) (by kernel_rfl)
    [(0, 29, r.val), (1, 30, .agg #[.int .i64 1, .int .i64 na, .string ⟨#[]⟩]), (2, 31, s.val), (3, 32, .agg #[.int .i64 1, .int .i64 nb, .string ⟨#[]⟩])]
    [10, 11]
    [⟨4, 10, 6, [.int .i64 0, .int .i64 0, .string ⟨#[]⟩], [.int .i64 1, .int .i64 na, .string ⟨#[]⟩]⟩, ⟨5, 11, 7, [.int .i64 0, .int .i64 0, .string ⟨#[]⟩], [.int .i64 1, .int .i64 nb, .string ⟨#[]⟩]⟩]
    [(6, .pointer (some ⟨B0, 0, none⟩)), (7, .pointer (some ⟨B1, 0, none⟩))]
    (by rfl) ?base (by rfl) ?step ?fin
  case base =>
    intro x hx
    simp only [List.mem_cons, List.not_mem_nil, or_false] at hx
    rcases hx with rfl | rfl <;> rfl
  case step =>
    intro a0 i o D a' w' ho hn hd hT hE hS hV hB
    have hi : i < 8 := (Array.getElem?_eq_some_iff.1 ho).1
    have e6 : a'.eval (.tmp 6) = .pointer (some ⟨B0, 0, none⟩) := hE (6, _) (by simp)
    have e7 : a'.eval (.tmp 7) = .pointer (some ⟨B1, 0, none⟩) := hE (7, _) (by simp)
    have hBs := hB.size
    obtain rfl | rfl | rfl | rfl | rfl | rfl | rfl | rfl : i = 0 ∨ i = 1 ∨ i = 2 ∨ i = 3 ∨ i = 4 ∨ i = 5 ∨ i = 6 ∨ i = 7 := by omega
    all_goals
      have ho' := ho
      simp only [List.getElem?_toArray, List.getElem?_cons_zero, List.getElem?_cons_succ, Option.some.injEq] at ho'
      subst ho'
      simp [Region.binds] at hd
    · have bb := hx.keep hB
      have c0 := bb.cells 0 _ rfl
      have c1 := bb.cells 1 _ rfl
      have c2 := bb.cells 2 _ rfl
      have c3 := bb.cells 3 _ rfl
      refine step_value (d := 29) (v := r.val) ho rfl rfl hT (by simp) (by rfl) hS hV hB (Below.refl _ _) hBs ?_
      simp only [execOp, e6]
      go_simp
    · have f2 : a'.eval (.tmp 29) = r.val := hS.done (0, 29, _) (by simp) (by simp [hd])
      refine step_call (d := 30) (v := .agg #[.int .i64 1, .int .i64 na, .string ⟨#[]⟩]) (f := 28) (args := #[.int .i64 1, r.val]) ho rfl rfl hT (by simp) (by rfl) hS hV hB hBs ?_ (HV.out w')
      simp only [execOp, resolve]
      simp [f2]
      go_simp
    · have bb := hy.keep hB
      have c0 := bb.cells 0 _ rfl
      have c1 := bb.cells 1 _ rfl
      have c2 := bb.cells 2 _ rfl
      have c3 := bb.cells 3 _ rfl
      refine step_value (d := 31) (v := s.val) ho rfl rfl hT (by simp) (by rfl) hS hV hB (Below.refl _ _) hBs ?_
      simp only [execOp, e7]
      go_simp
    · have f2 : a'.eval (.tmp 31) = s.val := hS.done (2, 31, _) (by simp) (by simp [hd])
      refine step_call (d := 32) (v := .agg #[.int .i64 1, .int .i64 nb, .string ⟨#[]⟩]) (f := 28) (args := #[.int .i64 1, s.val]) ho rfl rfl hT (by simp) (by rfl) hS hV hB hBs ?_ (HU.out w')
      simp only [execOp, resolve]
      simp [f2]
      go_simp
    · refine step_alloc (x := ⟨4, 10, 6, [.int .i64 0, .int .i64 0, .string ⟨#[]⟩], [.int .i64 1, .int .i64 na, .string ⟨#[]⟩]⟩) (cs := #[.int .i64 0, .int .i64 0, .string ⟨#[]⟩]) (t := 29) ho rfl rfl hT (by rfl) (by simp) (by simp) (by rfl) hn hS hV hB hBs rfl ?_
      simp only [execOp]
      go_simp
    · refine step_alloc (x := ⟨5, 11, 7, [.int .i64 0, .int .i64 0, .string ⟨#[]⟩], [.int .i64 1, .int .i64 nb, .string ⟨#[]⟩]⟩) (cs := #[.int .i64 0, .int .i64 0, .string ⟨#[]⟩]) (t := 29) ho rfl rfl hT (by rfl) (by simp) (by simp) (by rfl) hn hS hV hB hBs rfl ?_
      simp only [execOp]
      go_simp
    · have f1 : a'.eval (.tmp 30) = .agg #[.int .i64 1, .int .i64 na, .string ⟨#[]⟩] := hS.done (1, 30, _) (by simp) (by simp [hd])
      refine step_store (x := ⟨4, 10, 6, [.int .i64 0, .int .i64 0, .string ⟨#[]⟩], [.int .i64 1, .int .i64 na, .string ⟨#[]⟩]⟩) ho rfl rfl (by rfl) (by simp) (by rfl) hn (by simp [hd]) hS hV hB (fun g hg hbox => ?_)
      have c0 := hbox.cells 0 _ rfl
      have c1 := hbox.cells 1 _ rfl
      have c2 := hbox.cells 2 _ rfl
      have k0 := hbox.free 0
      have k1 := hbox.free 1
      have k2 := hbox.free 2
      refine ⟨_, ?_, only3 (.int .i64 1) (.int .i64 na) (.string ⟨#[]⟩), set3_box _ _ _ hbox⟩
      simp only [execOp, f1, hg]
      go_simp
    · have f1 : a'.eval (.tmp 32) = .agg #[.int .i64 1, .int .i64 nb, .string ⟨#[]⟩] := hS.done (3, 32, _) (by simp) (by simp [hd])
      refine step_store (x := ⟨5, 11, 7, [.int .i64 0, .int .i64 0, .string ⟨#[]⟩], [.int .i64 1, .int .i64 nb, .string ⟨#[]⟩]⟩) ho rfl rfl (by rfl) (by simp) (by rfl) hn (by simp [hd]) hS hV hB (fun g hg hbox => ?_)
      have c0 := hbox.cells 0 _ rfl
      have c1 := hbox.cells 1 _ rfl
      have c2 := hbox.cells 2 _ rfl
      have k0 := hbox.free 0
      have k1 := hbox.free 1
      have k2 := hbox.free 2
      refine ⟨_, ?_, only3 (.int .i64 1) (.int .i64 nb) (.string ⟨#[]⟩), set3_box _ _ _ hbox⟩
      simp only [execOp, f1, hg]
      go_simp
  case fin =>
    intro a' w2 hS hV hB
    obtain ⟨ga, fa, la, ba⟩ := hV.fin (x := ⟨4, 10, 6, [.int .i64 0, .int .i64 0, .string ⟨#[]⟩], [.int .i64 1, .int .i64 na, .string ⟨#[]⟩]⟩) (by simp) (by show (4 : Nat) < 8; omega) (by show (6 : Nat) < 8; omega)
    obtain ⟨gb, fb, lb, bb⟩ := hV.fin (x := ⟨5, 11, 7, [.int .i64 0, .int .i64 0, .string ⟨#[]⟩], [.int .i64 1, .int .i64 nb, .string ⟨#[]⟩]⟩) (by simp) (by show (5 : Nat) < 8; omega) (by show (7 : Nat) < 8; omega)
    have e := hS.all (by rfl) (by decide) (by simp) [(10, .pointer (some ⟨ga, 0, none⟩)), (11, .pointer (some ⟨gb, 0, none⟩))] rfl (by
      intro x hx
      simp only [List.mem_cons, List.not_mem_nil, or_false] at hx
      rcases hx with rfl | rfl
      · exact fa
      · exact fb)
    subst e
    replace hp := hp.keep hB
    have hw2 := hw.trans (hB.mono (by have := hx.lt; omega))
    have hBw : B0 ≤ w2.heap.size := Nat.le_trans (Nat.le_of_lt hx.lt) hB.size
    clear hS hV fa fb hB hx hy hw HV HU la lb
    simp only [puts, List.map_cons, List.map_nil, List.cons_append, List.nil_append, List.foldl_cons, List.foldl_nil]
    by_cases hab : na = nb
    · subst hab
      have hck := fun w => call_check_ask t p q 3 1 1 na (5 + p) ⟨#[]⟩ w OP.out (by omega) (by omega) (by omega) g0 (by omega) (by omega) HA.out
      have HCK := Lib.hid hck
      clear hck
      have p0 := hp.cells 0 _ rfl
      have p1 := hp.cells 1 _ rfl
      have p2 := hp.cells 2 _ rfl
      have pl := hp.lt
      have y0 := ba.cells 0 _ rfl
      have y1 := ba.cells 1 _ rfl
      have y2 := ba.cells 2 _ rfl
      have yl := ba.lt
      have v0 := bb.cells 0 _ rfl
      have v1 := bb.cells 1 _ rfl
      have v2 := bb.cells 2 _ rfl
      have vl := bb.lt
      go_wp2_with fail
      with_reducible refine (turn_asks t p q 0 0 0 0 0 0 0 0 3 1 na 5 ⟨#[]⟩ ⟨#[]⟩ ⟨#[]⟩ _ OP.out (fun w => call_check_idle t p q w OP.out) (by omega) (by omega) (by omega) (by omega) HA.out (.inl (by decide))).mono ?_
      rintro e u0 ⟨rfl, hb⟩
      clear p0 p1 p2 y0 y1 y2 v0 v1 v2
      clear pl yl vl
      replace hp := hp.keep hb
      replace ba := ba.keep hb
      replace bb := bb.keep hb
      replace hw2 := hw2.trans (hb.mono hBw)
      replace hBw := Nat.le_trans hBw hb.size
      clear hb
      have bx := Box.new u0 #[.int .i64 1, .int .i64 3, .int .i64 1, .int .i64 1, .int .i64 na, .string ⟨#[]⟩, .int .i64 0, .int .i64 0, .string ⟨#[]⟩, .int .i64 (5 + p)] 56
      replace hp := hp.alloc (.cells #[.int .i64 1, .int .i64 3, .int .i64 1, .int .i64 1, .int .i64 na, .string ⟨#[]⟩, .int .i64 0, .int .i64 0, .string ⟨#[]⟩, .int .i64 (5 + p)] 56)
      replace ba := ba.alloc (.cells #[.int .i64 1, .int .i64 3, .int .i64 1, .int .i64 1, .int .i64 na, .string ⟨#[]⟩, .int .i64 0, .int .i64 0, .string ⟨#[]⟩, .int .i64 (5 + p)] 56)
      replace bb := bb.alloc (.cells #[.int .i64 1, .int .i64 3, .int .i64 1, .int .i64 1, .int .i64 na, .string ⟨#[]⟩, .int .i64 0, .int .i64 0, .string ⟨#[]⟩, .int .i64 (5 + p)] 56)
      replace hw2 := hw2.alloc hBw (.cells #[.int .i64 1, .int .i64 3, .int .i64 1, .int .i64 1, .int .i64 na, .string ⟨#[]⟩, .int .i64 0, .int .i64 0, .string ⟨#[]⟩, .int .i64 (5 + p)] 56)
      replace hBw : B0 ≤ (u0.alloc (.cells #[.int .i64 1, .int .i64 3, .int .i64 1, .int .i64 1, .int .i64 na, .string ⟨#[]⟩, .int .i64 0, .int .i64 0, .string ⟨#[]⟩, .int .i64 (5 + p)] 56)).heap.size := by simp; omega
      have p0 := hp.cells 0 _ rfl
      have p1 := hp.cells 1 _ rfl
      have p2 := hp.cells 2 _ rfl
      have pl := hp.lt
      have y0 := ba.cells 0 _ rfl
      have y1 := ba.cells 1 _ rfl
      have y2 := ba.cells 2 _ rfl
      have yl := ba.lt
      have v0 := bb.cells 0 _ rfl
      have v1 := bb.cells 1 _ rfl
      have v2 := bb.cells 2 _ rfl
      have vl := bb.lt
      have x0 := bx.cells 0 _ rfl
      have x1 := bx.cells 1 _ rfl
      have x2 := bx.cells 2 _ rfl
      have x3 := bx.cells 3 _ rfl
      have x4 := bx.cells 4 _ rfl
      have x5 := bx.cells 5 _ rfl
      have x6 := bx.cells 6 _ rfl
      have x7 := bx.cells 7 _ rfl
      have x8 := bx.cells 8 _ rfl
      have x9 := bx.cells 9 _ rfl
      have xl := bx.lt
      go_wp2_with fail
      with_reducible refine (turn_same t p q 3 1 1 na (5 + p) 4 9 ⟨#[]⟩ _ HCK.out HA.out).mono ?_
      rintro e u1 ⟨rfl, hb⟩
      clear p0 p1 p2 y0 y1 y2 v0 v1 v2 x0 x1 x2 x3 x4 x5 x6 x7 x8 x9
      clear pl yl vl xl
      replace hp := hp.keep hb
      replace ba := ba.keep hb
      replace bb := bb.keep hb
      replace bx := bx.keep hb
      replace hw2 := hw2.trans (hb.mono hBw)
      replace hBw := Nat.le_trans hBw hb.size
      clear hb
      have bm := Box.new u1 #[.int .i64 1, .int .i64 3, .int .i64 1, .int .i64 1, .int .i64 na, .string ⟨#[]⟩, .int .i64 0, .int .i64 0, .string ⟨#[]⟩, .int .i64 (5 + p)] 56
      replace hp := hp.alloc (.cells #[.int .i64 1, .int .i64 3, .int .i64 1, .int .i64 1, .int .i64 na, .string ⟨#[]⟩, .int .i64 0, .int .i64 0, .string ⟨#[]⟩, .int .i64 (5 + p)] 56)
      replace ba := ba.alloc (.cells #[.int .i64 1, .int .i64 3, .int .i64 1, .int .i64 1, .int .i64 na, .string ⟨#[]⟩, .int .i64 0, .int .i64 0, .string ⟨#[]⟩, .int .i64 (5 + p)] 56)
      replace bb := bb.alloc (.cells #[.int .i64 1, .int .i64 3, .int .i64 1, .int .i64 1, .int .i64 na, .string ⟨#[]⟩, .int .i64 0, .int .i64 0, .string ⟨#[]⟩, .int .i64 (5 + p)] 56)
      replace bx := bx.alloc (.cells #[.int .i64 1, .int .i64 3, .int .i64 1, .int .i64 1, .int .i64 na, .string ⟨#[]⟩, .int .i64 0, .int .i64 0, .string ⟨#[]⟩, .int .i64 (5 + p)] 56)
      replace hw2 := hw2.alloc hBw (.cells #[.int .i64 1, .int .i64 3, .int .i64 1, .int .i64 1, .int .i64 na, .string ⟨#[]⟩, .int .i64 0, .int .i64 0, .string ⟨#[]⟩, .int .i64 (5 + p)] 56)
      replace hBw : B0 ≤ (u1.alloc (.cells #[.int .i64 1, .int .i64 3, .int .i64 1, .int .i64 1, .int .i64 na, .string ⟨#[]⟩, .int .i64 0, .int .i64 0, .string ⟨#[]⟩, .int .i64 (5 + p)] 56)).heap.size := by simp; omega
      have p0 := hp.cells 0 _ rfl
      have p1 := hp.cells 1 _ rfl
      have p2 := hp.cells 2 _ rfl
      have pl := hp.lt
      have y0 := ba.cells 0 _ rfl
      have y1 := ba.cells 1 _ rfl
      have y2 := ba.cells 2 _ rfl
      have yl := ba.lt
      have v0 := bb.cells 0 _ rfl
      have v1 := bb.cells 1 _ rfl
      have v2 := bb.cells 2 _ rfl
      have vl := bb.lt
      have x0 := bx.cells 0 _ rfl
      have x1 := bx.cells 1 _ rfl
      have x2 := bx.cells 2 _ rfl
      have x3 := bx.cells 3 _ rfl
      have x4 := bx.cells 4 _ rfl
      have x5 := bx.cells 5 _ rfl
      have x6 := bx.cells 6 _ rfl
      have x7 := bx.cells 7 _ rfl
      have x8 := bx.cells 8 _ rfl
      have x9 := bx.cells 9 _ rfl
      have xl := bx.lt
      have m0 := bm.cells 0 _ rfl
      have m1 := bm.cells 1 _ rfl
      have m2 := bm.cells 2 _ rfl
      have m3 := bm.cells 3 _ rfl
      have m4 := bm.cells 4 _ rfl
      have m5 := bm.cells 5 _ rfl
      have m6 := bm.cells 6 _ rfl
      have m7 := bm.cells 7 _ rfl
      have m8 := bm.cells 8 _ rfl
      have m9 := bm.cells 9 _ rfl
      have ml := bm.lt
      go_wp2_with fail
      with_reducible refine (turn_same t p q 3 1 1 na (5 + p) 4 9 ⟨#[]⟩ _ HCK.out HA.out).mono ?_
      rintro e u2 ⟨rfl, hb⟩
      clear p0 p1 p2 y0 y1 y2 v0 v1 v2 x0 x1 x2 x3 x4 x5 x6 x7 x8 x9 m0 m1 m2 m3 m4 m5 m6 m7 m8 m9
      clear pl yl vl xl ml
      replace hp := hp.keep hb
      replace ba := ba.keep hb
      replace bb := bb.keep hb
      replace bx := bx.keep hb
      replace bm := bm.keep hb
      replace hw2 := hw2.trans (hb.mono hBw)
      replace hBw := Nat.le_trans hBw hb.size
      clear hb
      have bn := Box.new u2 #[.int .i64 1, .int .i64 3, .int .i64 1, .int .i64 1, .int .i64 na, .string ⟨#[]⟩, .int .i64 0, .int .i64 0, .string ⟨#[]⟩, .int .i64 (5 + p)] 56
      replace hp := hp.alloc (.cells #[.int .i64 1, .int .i64 3, .int .i64 1, .int .i64 1, .int .i64 na, .string ⟨#[]⟩, .int .i64 0, .int .i64 0, .string ⟨#[]⟩, .int .i64 (5 + p)] 56)
      replace ba := ba.alloc (.cells #[.int .i64 1, .int .i64 3, .int .i64 1, .int .i64 1, .int .i64 na, .string ⟨#[]⟩, .int .i64 0, .int .i64 0, .string ⟨#[]⟩, .int .i64 (5 + p)] 56)
      replace bb := bb.alloc (.cells #[.int .i64 1, .int .i64 3, .int .i64 1, .int .i64 1, .int .i64 na, .string ⟨#[]⟩, .int .i64 0, .int .i64 0, .string ⟨#[]⟩, .int .i64 (5 + p)] 56)
      replace bx := bx.alloc (.cells #[.int .i64 1, .int .i64 3, .int .i64 1, .int .i64 1, .int .i64 na, .string ⟨#[]⟩, .int .i64 0, .int .i64 0, .string ⟨#[]⟩, .int .i64 (5 + p)] 56)
      replace bm := bm.alloc (.cells #[.int .i64 1, .int .i64 3, .int .i64 1, .int .i64 1, .int .i64 na, .string ⟨#[]⟩, .int .i64 0, .int .i64 0, .string ⟨#[]⟩, .int .i64 (5 + p)] 56)
      replace hw2 := hw2.alloc hBw (.cells #[.int .i64 1, .int .i64 3, .int .i64 1, .int .i64 1, .int .i64 na, .string ⟨#[]⟩, .int .i64 0, .int .i64 0, .string ⟨#[]⟩, .int .i64 (5 + p)] 56)
      replace hBw : B0 ≤ (u2.alloc (.cells #[.int .i64 1, .int .i64 3, .int .i64 1, .int .i64 1, .int .i64 na, .string ⟨#[]⟩, .int .i64 0, .int .i64 0, .string ⟨#[]⟩, .int .i64 (5 + p)] 56)).heap.size := by simp; omega
      have p0 := hp.cells 0 _ rfl
      have p1 := hp.cells 1 _ rfl
      have p2 := hp.cells 2 _ rfl
      have pl := hp.lt
      have y0 := ba.cells 0 _ rfl
      have y1 := ba.cells 1 _ rfl
      have y2 := ba.cells 2 _ rfl
      have yl := ba.lt
      have v0 := bb.cells 0 _ rfl
      have v1 := bb.cells 1 _ rfl
      have v2 := bb.cells 2 _ rfl
      have vl := bb.lt
      have x0 := bx.cells 0 _ rfl
      have x1 := bx.cells 1 _ rfl
      have x2 := bx.cells 2 _ rfl
      have x3 := bx.cells 3 _ rfl
      have x4 := bx.cells 4 _ rfl
      have x5 := bx.cells 5 _ rfl
      have x6 := bx.cells 6 _ rfl
      have x7 := bx.cells 7 _ rfl
      have x8 := bx.cells 8 _ rfl
      have x9 := bx.cells 9 _ rfl
      have xl := bx.lt
      have m0 := bm.cells 0 _ rfl
      have m1 := bm.cells 1 _ rfl
      have m2 := bm.cells 2 _ rfl
      have m3 := bm.cells 3 _ rfl
      have m4 := bm.cells 4 _ rfl
      have m5 := bm.cells 5 _ rfl
      have m6 := bm.cells 6 _ rfl
      have m7 := bm.cells 7 _ rfl
      have m8 := bm.cells 8 _ rfl
      have m9 := bm.cells 9 _ rfl
      have ml := bm.lt
      have n0 := bn.cells 0 _ rfl
      have n1 := bn.cells 1 _ rfl
      have n2 := bn.cells 2 _ rfl
      have n3 := bn.cells 3 _ rfl
      have n4 := bn.cells 4 _ rfl
      have n5 := bn.cells 5 _ rfl
      have n6 := bn.cells 6 _ rfl
      have n7 := bn.cells 7 _ rfl
      have n8 := bn.cells 8 _ rfl
      have n9 := bn.cells 9 _ rfl
      have nl := bn.lt
      go_wp2_with fail
      with_reducible refine (turn_pending t p q 1 3 1 1 na 0 0 (5 + p) 4 9 ⟨#[]⟩ ⟨#[]⟩ _ HCK.out).mono ?_
      rintro e u3 ⟨rfl, hb⟩
      clear p0 p1 p2 y0 y1 y2 v0 v1 v2 x0 x1 x2 x3 x4 x5 x6 x7 x8 x9 m0 m1 m2 m3 m4 m5 m6 m7 m8 m9 n0 n1 n2 n3 n4 n5 n6 n7 n8 n9
      clear pl yl vl xl ml nl
      replace hp := hp.keep hb
      replace ba := ba.keep hb
      replace bb := bb.keep hb
      replace bx := bx.keep hb
      replace bm := bm.keep hb
      replace bn := bn.keep hb
      replace hw2 := hw2.trans (hb.mono hBw)
      replace hBw := Nat.le_trans hBw hb.size
      clear hb
      have bo := Box.new u3 #[.int .i64 0, .int .i64 0, .int .i64 0, .int .i64 0, .int .i64 0, .string ⟨#[]⟩, .int .i64 0, .int .i64 0, .string ⟨#[]⟩, .int .i64 0] 56
      replace hp := hp.alloc (.cells #[.int .i64 0, .int .i64 0, .int .i64 0, .int .i64 0, .int .i64 0, .string ⟨#[]⟩, .int .i64 0, .int .i64 0, .string ⟨#[]⟩, .int .i64 0] 56)
      replace ba := ba.alloc (.cells #[.int .i64 0, .int .i64 0, .int .i64 0, .int .i64 0, .int .i64 0, .string ⟨#[]⟩, .int .i64 0, .int .i64 0, .string ⟨#[]⟩, .int .i64 0] 56)
      replace bb := bb.alloc (.cells #[.int .i64 0, .int .i64 0, .int .i64 0, .int .i64 0, .int .i64 0, .string ⟨#[]⟩, .int .i64 0, .int .i64 0, .string ⟨#[]⟩, .int .i64 0] 56)
      replace bx := bx.alloc (.cells #[.int .i64 0, .int .i64 0, .int .i64 0, .int .i64 0, .int .i64 0, .string ⟨#[]⟩, .int .i64 0, .int .i64 0, .string ⟨#[]⟩, .int .i64 0] 56)
      replace bm := bm.alloc (.cells #[.int .i64 0, .int .i64 0, .int .i64 0, .int .i64 0, .int .i64 0, .string ⟨#[]⟩, .int .i64 0, .int .i64 0, .string ⟨#[]⟩, .int .i64 0] 56)
      replace bn := bn.alloc (.cells #[.int .i64 0, .int .i64 0, .int .i64 0, .int .i64 0, .int .i64 0, .string ⟨#[]⟩, .int .i64 0, .int .i64 0, .string ⟨#[]⟩, .int .i64 0] 56)
      replace hw2 := hw2.alloc hBw (.cells #[.int .i64 0, .int .i64 0, .int .i64 0, .int .i64 0, .int .i64 0, .string ⟨#[]⟩, .int .i64 0, .int .i64 0, .string ⟨#[]⟩, .int .i64 0] 56)
      replace hBw : B0 ≤ (u3.alloc (.cells #[.int .i64 0, .int .i64 0, .int .i64 0, .int .i64 0, .int .i64 0, .string ⟨#[]⟩, .int .i64 0, .int .i64 0, .string ⟨#[]⟩, .int .i64 0] 56)).heap.size := by simp; omega
      have p0 := hp.cells 0 _ rfl
      have p1 := hp.cells 1 _ rfl
      have p2 := hp.cells 2 _ rfl
      have pl := hp.lt
      have y0 := ba.cells 0 _ rfl
      have y1 := ba.cells 1 _ rfl
      have y2 := ba.cells 2 _ rfl
      have yl := ba.lt
      have v0 := bb.cells 0 _ rfl
      have v1 := bb.cells 1 _ rfl
      have v2 := bb.cells 2 _ rfl
      have vl := bb.lt
      have x0 := bx.cells 0 _ rfl
      have x1 := bx.cells 1 _ rfl
      have x2 := bx.cells 2 _ rfl
      have x3 := bx.cells 3 _ rfl
      have x4 := bx.cells 4 _ rfl
      have x5 := bx.cells 5 _ rfl
      have x6 := bx.cells 6 _ rfl
      have x7 := bx.cells 7 _ rfl
      have x8 := bx.cells 8 _ rfl
      have x9 := bx.cells 9 _ rfl
      have xl := bx.lt
      have m0 := bm.cells 0 _ rfl
      have m1 := bm.cells 1 _ rfl
      have m2 := bm.cells 2 _ rfl
      have m3 := bm.cells 3 _ rfl
      have m4 := bm.cells 4 _ rfl
      have m5 := bm.cells 5 _ rfl
      have m6 := bm.cells 6 _ rfl
      have m7 := bm.cells 7 _ rfl
      have m8 := bm.cells 8 _ rfl
      have m9 := bm.cells 9 _ rfl
      have ml := bm.lt
      have n0 := bn.cells 0 _ rfl
      have n1 := bn.cells 1 _ rfl
      have n2 := bn.cells 2 _ rfl
      have n3 := bn.cells 3 _ rfl
      have n4 := bn.cells 4 _ rfl
      have n5 := bn.cells 5 _ rfl
      have n6 := bn.cells 6 _ rfl
      have n7 := bn.cells 7 _ rfl
      have n8 := bn.cells 8 _ rfl
      have n9 := bn.cells 9 _ rfl
      have nl := bn.lt
      have o0 := bo.cells 0 _ rfl
      have o1 := bo.cells 1 _ rfl
      have o2 := bo.cells 2 _ rfl
      have o3 := bo.cells 3 _ rfl
      have o4 := bo.cells 4 _ rfl
      have o5 := bo.cells 5 _ rfl
      have o6 := bo.cells 6 _ rfl
      have o7 := bo.cells 7 _ rfl
      have o8 := bo.cells 8 _ rfl
      have o9 := bo.cells 9 _ rfl
      have ol := bo.lt
      go_wp2_with fail
      with_reducible refine (letter_ask 3 1 1 na 0 0 (5 + p) ⟨#[]⟩ ⟨#[]⟩ ⟨#[97]⟩ _).mono ?_
      rintro e u4 ⟨rfl, hb⟩
      clear p0 p1 p2 y0 y1 y2 v0 v1 v2 x0 x1 x2 x3 x4 x5 x6 x7 x8 x9 m0 m1 m2 m3 m4 m5 m6 m7 m8 m9 n0 n1 n2 n3 n4 n5 n6 n7 n8 n9 o0 o1 o2 o3 o4 o5 o6 o7 o8 o9
      clear pl yl vl xl ml nl ol
      replace hp := hp.keep hb
      replace ba := ba.keep hb
      replace bb := bb.keep hb
      replace bx := bx.keep hb
      replace bm := bm.keep hb
      replace bn := bn.keep hb
      replace bo := bo.keep hb
      replace hw2 := hw2.trans (hb.mono hBw)
      replace hBw := Nat.le_trans hBw hb.size
      clear hb
      have p0 := hp.cells 0 _ rfl
      have p1 := hp.cells 1 _ rfl
      have p2 := hp.cells 2 _ rfl
      have pl := hp.lt
      have y0 := ba.cells 0 _ rfl
      have y1 := ba.cells 1 _ rfl
      have y2 := ba.cells 2 _ rfl
      have yl := ba.lt
      have v0 := bb.cells 0 _ rfl
      have v1 := bb.cells 1 _ rfl
      have v2 := bb.cells 2 _ rfl
      have vl := bb.lt
      have x0 := bx.cells 0 _ rfl
      have x1 := bx.cells 1 _ rfl
      have x2 := bx.cells 2 _ rfl
      have x3 := bx.cells 3 _ rfl
      have x4 := bx.cells 4 _ rfl
      have x5 := bx.cells 5 _ rfl
      have x6 := bx.cells 6 _ rfl
      have x7 := bx.cells 7 _ rfl
      have x8 := bx.cells 8 _ rfl
      have x9 := bx.cells 9 _ rfl
      have xl := bx.lt
      have m0 := bm.cells 0 _ rfl
      have m1 := bm.cells 1 _ rfl
      have m2 := bm.cells 2 _ rfl
      have m3 := bm.cells 3 _ rfl
      have m4 := bm.cells 4 _ rfl
      have m5 := bm.cells 5 _ rfl
      have m6 := bm.cells 6 _ rfl
      have m7 := bm.cells 7 _ rfl
      have m8 := bm.cells 8 _ rfl
      have m9 := bm.cells 9 _ rfl
      have ml := bm.lt
      have n0 := bn.cells 0 _ rfl
      have n1 := bn.cells 1 _ rfl
      have n2 := bn.cells 2 _ rfl
      have n3 := bn.cells 3 _ rfl
      have n4 := bn.cells 4 _ rfl
      have n5 := bn.cells 5 _ rfl
      have n6 := bn.cells 6 _ rfl
      have n7 := bn.cells 7 _ rfl
      have n8 := bn.cells 8 _ rfl
      have n9 := bn.cells 9 _ rfl
      have nl := bn.lt
      have o0 := bo.cells 0 _ rfl
      have o1 := bo.cells 1 _ rfl
      have o2 := bo.cells 2 _ rfl
      have o3 := bo.cells 3 _ rfl
      have o4 := bo.cells 4 _ rfl
      have o5 := bo.cells 5 _ rfl
      have o6 := bo.cells 6 _ rfl
      have o7 := bo.cells 7 _ rfl
      have o8 := bo.cells 8 _ rfl
      have o9 := bo.cells 9 _ rfl
      have ol := bo.lt
      go_wp2_with fail
      go_ret
      exact ⟨rfl, by first | exact hw2.alloc hBw _ | (rw [hB0]; exact hw2.alloc hBw _)⟩
    · have hab1 : (na == nb) = false := beq_eq_false_iff_ne.2 hab
      clear hab
      have hck := fun w => call_check_ask t p q 3 1 1 na (5 + p) ⟨#[]⟩ w OP.out (by omega) (by omega) (by omega) g0 (by omega) (by omega) HA.out
      have HCK := Lib.hid hck
      clear hck
      have p0 := hp.cells 0 _ rfl
      have p1 := hp.cells 1 _ rfl
      have p2 := hp.cells 2 _ rfl
      have pl := hp.lt
      have y0 := ba.cells 0 _ rfl
      have y1 := ba.cells 1 _ rfl
      have y2 := ba.cells 2 _ rfl
      have yl := ba.lt
      have v0 := bb.cells 0 _ rfl
      have v1 := bb.cells 1 _ rfl
      have v2 := bb.cells 2 _ rfl
      have vl := bb.lt
      go_wp2_with fail
      with_reducible refine (turn_asks t p q 0 0 0 0 0 0 0 0 3 1 na 5 ⟨#[]⟩ ⟨#[]⟩ ⟨#[]⟩ _ OP.out (fun w => call_check_idle t p q w OP.out) (by omega) (by omega) (by omega) (by omega) HA.out (.inl (by decide))).mono ?_
      rintro e u0 ⟨rfl, hb⟩
      clear p0 p1 p2 y0 y1 y2 v0 v1 v2
      clear pl yl vl
      replace hp := hp.keep hb
      replace ba := ba.keep hb
      replace bb := bb.keep hb
      replace hw2 := hw2.trans (hb.mono hBw)
      replace hBw := Nat.le_trans hBw hb.size
      clear hb
      have bx := Box.new u0 #[.int .i64 1, .int .i64 3, .int .i64 1, .int .i64 1, .int .i64 na, .string ⟨#[]⟩, .int .i64 0, .int .i64 0, .string ⟨#[]⟩, .int .i64 (5 + p)] 56
      replace hp := hp.alloc (.cells #[.int .i64 1, .int .i64 3, .int .i64 1, .int .i64 1, .int .i64 na, .string ⟨#[]⟩, .int .i64 0, .int .i64 0, .string ⟨#[]⟩, .int .i64 (5 + p)] 56)
      replace ba := ba.alloc (.cells #[.int .i64 1, .int .i64 3, .int .i64 1, .int .i64 1, .int .i64 na, .string ⟨#[]⟩, .int .i64 0, .int .i64 0, .string ⟨#[]⟩, .int .i64 (5 + p)] 56)
      replace bb := bb.alloc (.cells #[.int .i64 1, .int .i64 3, .int .i64 1, .int .i64 1, .int .i64 na, .string ⟨#[]⟩, .int .i64 0, .int .i64 0, .string ⟨#[]⟩, .int .i64 (5 + p)] 56)
      replace hw2 := hw2.alloc hBw (.cells #[.int .i64 1, .int .i64 3, .int .i64 1, .int .i64 1, .int .i64 na, .string ⟨#[]⟩, .int .i64 0, .int .i64 0, .string ⟨#[]⟩, .int .i64 (5 + p)] 56)
      replace hBw : B0 ≤ (u0.alloc (.cells #[.int .i64 1, .int .i64 3, .int .i64 1, .int .i64 1, .int .i64 na, .string ⟨#[]⟩, .int .i64 0, .int .i64 0, .string ⟨#[]⟩, .int .i64 (5 + p)] 56)).heap.size := by simp; omega
      have p0 := hp.cells 0 _ rfl
      have p1 := hp.cells 1 _ rfl
      have p2 := hp.cells 2 _ rfl
      have pl := hp.lt
      have y0 := ba.cells 0 _ rfl
      have y1 := ba.cells 1 _ rfl
      have y2 := ba.cells 2 _ rfl
      have yl := ba.lt
      have v0 := bb.cells 0 _ rfl
      have v1 := bb.cells 1 _ rfl
      have v2 := bb.cells 2 _ rfl
      have vl := bb.lt
      have x0 := bx.cells 0 _ rfl
      have x1 := bx.cells 1 _ rfl
      have x2 := bx.cells 2 _ rfl
      have x3 := bx.cells 3 _ rfl
      have x4 := bx.cells 4 _ rfl
      have x5 := bx.cells 5 _ rfl
      have x6 := bx.cells 6 _ rfl
      have x7 := bx.cells 7 _ rfl
      have x8 := bx.cells 8 _ rfl
      have x9 := bx.cells 9 _ rfl
      have xl := bx.lt
      go_wp2_with fail
      with_reducible refine (turn_same t p q 3 1 1 na (5 + p) 4 9 ⟨#[]⟩ _ HCK.out HA.out).mono ?_
      rintro e u1 ⟨rfl, hb⟩
      clear p0 p1 p2 y0 y1 y2 v0 v1 v2 x0 x1 x2 x3 x4 x5 x6 x7 x8 x9
      clear pl yl vl xl
      replace hp := hp.keep hb
      replace ba := ba.keep hb
      replace bb := bb.keep hb
      replace bx := bx.keep hb
      replace hw2 := hw2.trans (hb.mono hBw)
      replace hBw := Nat.le_trans hBw hb.size
      clear hb
      have bm := Box.new u1 #[.int .i64 1, .int .i64 3, .int .i64 1, .int .i64 1, .int .i64 na, .string ⟨#[]⟩, .int .i64 0, .int .i64 0, .string ⟨#[]⟩, .int .i64 (5 + p)] 56
      replace hp := hp.alloc (.cells #[.int .i64 1, .int .i64 3, .int .i64 1, .int .i64 1, .int .i64 na, .string ⟨#[]⟩, .int .i64 0, .int .i64 0, .string ⟨#[]⟩, .int .i64 (5 + p)] 56)
      replace ba := ba.alloc (.cells #[.int .i64 1, .int .i64 3, .int .i64 1, .int .i64 1, .int .i64 na, .string ⟨#[]⟩, .int .i64 0, .int .i64 0, .string ⟨#[]⟩, .int .i64 (5 + p)] 56)
      replace bb := bb.alloc (.cells #[.int .i64 1, .int .i64 3, .int .i64 1, .int .i64 1, .int .i64 na, .string ⟨#[]⟩, .int .i64 0, .int .i64 0, .string ⟨#[]⟩, .int .i64 (5 + p)] 56)
      replace bx := bx.alloc (.cells #[.int .i64 1, .int .i64 3, .int .i64 1, .int .i64 1, .int .i64 na, .string ⟨#[]⟩, .int .i64 0, .int .i64 0, .string ⟨#[]⟩, .int .i64 (5 + p)] 56)
      replace hw2 := hw2.alloc hBw (.cells #[.int .i64 1, .int .i64 3, .int .i64 1, .int .i64 1, .int .i64 na, .string ⟨#[]⟩, .int .i64 0, .int .i64 0, .string ⟨#[]⟩, .int .i64 (5 + p)] 56)
      replace hBw : B0 ≤ (u1.alloc (.cells #[.int .i64 1, .int .i64 3, .int .i64 1, .int .i64 1, .int .i64 na, .string ⟨#[]⟩, .int .i64 0, .int .i64 0, .string ⟨#[]⟩, .int .i64 (5 + p)] 56)).heap.size := by simp; omega
      have p0 := hp.cells 0 _ rfl
      have p1 := hp.cells 1 _ rfl
      have p2 := hp.cells 2 _ rfl
      have pl := hp.lt
      have y0 := ba.cells 0 _ rfl
      have y1 := ba.cells 1 _ rfl
      have y2 := ba.cells 2 _ rfl
      have yl := ba.lt
      have v0 := bb.cells 0 _ rfl
      have v1 := bb.cells 1 _ rfl
      have v2 := bb.cells 2 _ rfl
      have vl := bb.lt
      have x0 := bx.cells 0 _ rfl
      have x1 := bx.cells 1 _ rfl
      have x2 := bx.cells 2 _ rfl
      have x3 := bx.cells 3 _ rfl
      have x4 := bx.cells 4 _ rfl
      have x5 := bx.cells 5 _ rfl
      have x6 := bx.cells 6 _ rfl
      have x7 := bx.cells 7 _ rfl
      have x8 := bx.cells 8 _ rfl
      have x9 := bx.cells 9 _ rfl
      have xl := bx.lt
      have m0 := bm.cells 0 _ rfl
      have m1 := bm.cells 1 _ rfl
      have m2 := bm.cells 2 _ rfl
      have m3 := bm.cells 3 _ rfl
      have m4 := bm.cells 4 _ rfl
      have m5 := bm.cells 5 _ rfl
      have m6 := bm.cells 6 _ rfl
      have m7 := bm.cells 7 _ rfl
      have m8 := bm.cells 8 _ rfl
      have m9 := bm.cells 9 _ rfl
      have ml := bm.lt
      go_wp2_with fail
      with_reducible refine (turn_asks t p q 1 3 1 1 na 0 0 (5 + p) 4 1 nb 9 ⟨#[]⟩ ⟨#[]⟩ ⟨#[]⟩ _ OP.out HCK.out (by omega) (by omega) (by omega) (by omega) HB.out (.inr (.inr ⟨by decide, by decide, hab1⟩))).mono ?_
      rintro e u2 ⟨rfl, hb⟩
      clear p0 p1 p2 y0 y1 y2 v0 v1 v2 x0 x1 x2 x3 x4 x5 x6 x7 x8 x9 m0 m1 m2 m3 m4 m5 m6 m7 m8 m9
      clear pl yl vl xl ml
      replace hp := hp.keep hb
      replace ba := ba.keep hb
      replace bb := bb.keep hb
      replace bx := bx.keep hb
      replace bm := bm.keep hb
      replace hw2 := hw2.trans (hb.mono hBw)
      replace hBw := Nat.le_trans hBw hb.size
      clear hb
      have bn := Box.new u2 #[.int .i64 1, .int .i64 4, .int .i64 1, .int .i64 1, .int .i64 nb, .string ⟨#[]⟩, .int .i64 0, .int .i64 0, .string ⟨#[]⟩, .int .i64 (9 + p)] 56
      replace hp := hp.alloc (.cells #[.int .i64 1, .int .i64 4, .int .i64 1, .int .i64 1, .int .i64 nb, .string ⟨#[]⟩, .int .i64 0, .int .i64 0, .string ⟨#[]⟩, .int .i64 (9 + p)] 56)
      replace ba := ba.alloc (.cells #[.int .i64 1, .int .i64 4, .int .i64 1, .int .i64 1, .int .i64 nb, .string ⟨#[]⟩, .int .i64 0, .int .i64 0, .string ⟨#[]⟩, .int .i64 (9 + p)] 56)
      replace bb := bb.alloc (.cells #[.int .i64 1, .int .i64 4, .int .i64 1, .int .i64 1, .int .i64 nb, .string ⟨#[]⟩, .int .i64 0, .int .i64 0, .string ⟨#[]⟩, .int .i64 (9 + p)] 56)
      replace bx := bx.alloc (.cells #[.int .i64 1, .int .i64 4, .int .i64 1, .int .i64 1, .int .i64 nb, .string ⟨#[]⟩, .int .i64 0, .int .i64 0, .string ⟨#[]⟩, .int .i64 (9 + p)] 56)
      replace bm := bm.alloc (.cells #[.int .i64 1, .int .i64 4, .int .i64 1, .int .i64 1, .int .i64 nb, .string ⟨#[]⟩, .int .i64 0, .int .i64 0, .string ⟨#[]⟩, .int .i64 (9 + p)] 56)
      replace hw2 := hw2.alloc hBw (.cells #[.int .i64 1, .int .i64 4, .int .i64 1, .int .i64 1, .int .i64 nb, .string ⟨#[]⟩, .int .i64 0, .int .i64 0, .string ⟨#[]⟩, .int .i64 (9 + p)] 56)
      replace hBw : B0 ≤ (u2.alloc (.cells #[.int .i64 1, .int .i64 4, .int .i64 1, .int .i64 1, .int .i64 nb, .string ⟨#[]⟩, .int .i64 0, .int .i64 0, .string ⟨#[]⟩, .int .i64 (9 + p)] 56)).heap.size := by simp; omega
      have p0 := hp.cells 0 _ rfl
      have p1 := hp.cells 1 _ rfl
      have p2 := hp.cells 2 _ rfl
      have pl := hp.lt
      have y0 := ba.cells 0 _ rfl
      have y1 := ba.cells 1 _ rfl
      have y2 := ba.cells 2 _ rfl
      have yl := ba.lt
      have v0 := bb.cells 0 _ rfl
      have v1 := bb.cells 1 _ rfl
      have v2 := bb.cells 2 _ rfl
      have vl := bb.lt
      have x0 := bx.cells 0 _ rfl
      have x1 := bx.cells 1 _ rfl
      have x2 := bx.cells 2 _ rfl
      have x3 := bx.cells 3 _ rfl
      have x4 := bx.cells 4 _ rfl
      have x5 := bx.cells 5 _ rfl
      have x6 := bx.cells 6 _ rfl
      have x7 := bx.cells 7 _ rfl
      have x8 := bx.cells 8 _ rfl
      have x9 := bx.cells 9 _ rfl
      have xl := bx.lt
      have m0 := bm.cells 0 _ rfl
      have m1 := bm.cells 1 _ rfl
      have m2 := bm.cells 2 _ rfl
      have m3 := bm.cells 3 _ rfl
      have m4 := bm.cells 4 _ rfl
      have m5 := bm.cells 5 _ rfl
      have m6 := bm.cells 6 _ rfl
      have m7 := bm.cells 7 _ rfl
      have m8 := bm.cells 8 _ rfl
      have m9 := bm.cells 9 _ rfl
      have ml := bm.lt
      have n0 := bn.cells 0 _ rfl
      have n1 := bn.cells 1 _ rfl
      have n2 := bn.cells 2 _ rfl
      have n3 := bn.cells 3 _ rfl
      have n4 := bn.cells 4 _ rfl
      have n5 := bn.cells 5 _ rfl
      have n6 := bn.cells 6 _ rfl
      have n7 := bn.cells 7 _ rfl
      have n8 := bn.cells 8 _ rfl
      have n9 := bn.cells 9 _ rfl
      have nl := bn.lt
      go_wp2_with fail
      with_reducible refine (turn_pending t p q 1 3 1 1 na 0 0 (5 + p) 4 9 ⟨#[]⟩ ⟨#[]⟩ _ HCK.out).mono ?_
      rintro e u3 ⟨rfl, hb⟩
      clear p0 p1 p2 y0 y1 y2 v0 v1 v2 x0 x1 x2 x3 x4 x5 x6 x7 x8 x9 m0 m1 m2 m3 m4 m5 m6 m7 m8 m9 n0 n1 n2 n3 n4 n5 n6 n7 n8 n9
      clear pl yl vl xl ml nl
      replace hp := hp.keep hb
      replace ba := ba.keep hb
      replace bb := bb.keep hb
      replace bx := bx.keep hb
      replace bm := bm.keep hb
      replace bn := bn.keep hb
      replace hw2 := hw2.trans (hb.mono hBw)
      replace hBw := Nat.le_trans hBw hb.size
      clear hb
      have bo := Box.new u3 #[.int .i64 0, .int .i64 0, .int .i64 0, .int .i64 0, .int .i64 0, .string ⟨#[]⟩, .int .i64 0, .int .i64 0, .string ⟨#[]⟩, .int .i64 0] 56
      replace hp := hp.alloc (.cells #[.int .i64 0, .int .i64 0, .int .i64 0, .int .i64 0, .int .i64 0, .string ⟨#[]⟩, .int .i64 0, .int .i64 0, .string ⟨#[]⟩, .int .i64 0] 56)
      replace ba := ba.alloc (.cells #[.int .i64 0, .int .i64 0, .int .i64 0, .int .i64 0, .int .i64 0, .string ⟨#[]⟩, .int .i64 0, .int .i64 0, .string ⟨#[]⟩, .int .i64 0] 56)
      replace bb := bb.alloc (.cells #[.int .i64 0, .int .i64 0, .int .i64 0, .int .i64 0, .int .i64 0, .string ⟨#[]⟩, .int .i64 0, .int .i64 0, .string ⟨#[]⟩, .int .i64 0] 56)
      replace bx := bx.alloc (.cells #[.int .i64 0, .int .i64 0, .int .i64 0, .int .i64 0, .int .i64 0, .string ⟨#[]⟩, .int .i64 0, .int .i64 0, .string ⟨#[]⟩, .int .i64 0] 56)
      replace bm := bm.alloc (.cells #[.int .i64 0, .int .i64 0, .int .i64 0, .int .i64 0, .int .i64 0, .string ⟨#[]⟩, .int .i64 0, .int .i64 0, .string ⟨#[]⟩, .int .i64 0] 56)
      replace bn := bn.alloc (.cells #[.int .i64 0, .int .i64 0, .int .i64 0, .int .i64 0, .int .i64 0, .string ⟨#[]⟩, .int .i64 0, .int .i64 0, .string ⟨#[]⟩, .int .i64 0] 56)
      replace hw2 := hw2.alloc hBw (.cells #[.int .i64 0, .int .i64 0, .int .i64 0, .int .i64 0, .int .i64 0, .string ⟨#[]⟩, .int .i64 0, .int .i64 0, .string ⟨#[]⟩, .int .i64 0] 56)
      replace hBw : B0 ≤ (u3.alloc (.cells #[.int .i64 0, .int .i64 0, .int .i64 0, .int .i64 0, .int .i64 0, .string ⟨#[]⟩, .int .i64 0, .int .i64 0, .string ⟨#[]⟩, .int .i64 0] 56)).heap.size := by simp; omega
      have p0 := hp.cells 0 _ rfl
      have p1 := hp.cells 1 _ rfl
      have p2 := hp.cells 2 _ rfl
      have pl := hp.lt
      have y0 := ba.cells 0 _ rfl
      have y1 := ba.cells 1 _ rfl
      have y2 := ba.cells 2 _ rfl
      have yl := ba.lt
      have v0 := bb.cells 0 _ rfl
      have v1 := bb.cells 1 _ rfl
      have v2 := bb.cells 2 _ rfl
      have vl := bb.lt
      have x0 := bx.cells 0 _ rfl
      have x1 := bx.cells 1 _ rfl
      have x2 := bx.cells 2 _ rfl
      have x3 := bx.cells 3 _ rfl
      have x4 := bx.cells 4 _ rfl
      have x5 := bx.cells 5 _ rfl
      have x6 := bx.cells 6 _ rfl
      have x7 := bx.cells 7 _ rfl
      have x8 := bx.cells 8 _ rfl
      have x9 := bx.cells 9 _ rfl
      have xl := bx.lt
      have m0 := bm.cells 0 _ rfl
      have m1 := bm.cells 1 _ rfl
      have m2 := bm.cells 2 _ rfl
      have m3 := bm.cells 3 _ rfl
      have m4 := bm.cells 4 _ rfl
      have m5 := bm.cells 5 _ rfl
      have m6 := bm.cells 6 _ rfl
      have m7 := bm.cells 7 _ rfl
      have m8 := bm.cells 8 _ rfl
      have m9 := bm.cells 9 _ rfl
      have ml := bm.lt
      have n0 := bn.cells 0 _ rfl
      have n1 := bn.cells 1 _ rfl
      have n2 := bn.cells 2 _ rfl
      have n3 := bn.cells 3 _ rfl
      have n4 := bn.cells 4 _ rfl
      have n5 := bn.cells 5 _ rfl
      have n6 := bn.cells 6 _ rfl
      have n7 := bn.cells 7 _ rfl
      have n8 := bn.cells 8 _ rfl
      have n9 := bn.cells 9 _ rfl
      have nl := bn.lt
      have o0 := bo.cells 0 _ rfl
      have o1 := bo.cells 1 _ rfl
      have o2 := bo.cells 2 _ rfl
      have o3 := bo.cells 3 _ rfl
      have o4 := bo.cells 4 _ rfl
      have o5 := bo.cells 5 _ rfl
      have o6 := bo.cells 6 _ rfl
      have o7 := bo.cells 7 _ rfl
      have o8 := bo.cells 8 _ rfl
      have o9 := bo.cells 9 _ rfl
      have ol := bo.lt
      go_wp2_with fail
      with_reducible refine (letter_ask 3 1 1 na 0 0 (5 + p) ⟨#[]⟩ ⟨#[]⟩ ⟨#[97]⟩ _).mono ?_
      rintro e u4 ⟨rfl, hb⟩
      clear p0 p1 p2 y0 y1 y2 v0 v1 v2 x0 x1 x2 x3 x4 x5 x6 x7 x8 x9 m0 m1 m2 m3 m4 m5 m6 m7 m8 m9 n0 n1 n2 n3 n4 n5 n6 n7 n8 n9 o0 o1 o2 o3 o4 o5 o6 o7 o8 o9
      clear pl yl vl xl ml nl ol
      replace hp := hp.keep hb
      replace ba := ba.keep hb
      replace bb := bb.keep hb
      replace bx := bx.keep hb
      replace bm := bm.keep hb
      replace bn := bn.keep hb
      replace bo := bo.keep hb
      replace hw2 := hw2.trans (hb.mono hBw)
      replace hBw := Nat.le_trans hBw hb.size
      clear hb
      have p0 := hp.cells 0 _ rfl
      have p1 := hp.cells 1 _ rfl
      have p2 := hp.cells 2 _ rfl
      have pl := hp.lt
      have y0 := ba.cells 0 _ rfl
      have y1 := ba.cells 1 _ rfl
      have y2 := ba.cells 2 _ rfl
      have yl := ba.lt
      have v0 := bb.cells 0 _ rfl
      have v1 := bb.cells 1 _ rfl
      have v2 := bb.cells 2 _ rfl
      have vl := bb.lt
      have x0 := bx.cells 0 _ rfl
      have x1 := bx.cells 1 _ rfl
      have x2 := bx.cells 2 _ rfl
      have x3 := bx.cells 3 _ rfl
      have x4 := bx.cells 4 _ rfl
      have x5 := bx.cells 5 _ rfl
      have x6 := bx.cells 6 _ rfl
      have x7 := bx.cells 7 _ rfl
      have x8 := bx.cells 8 _ rfl
      have x9 := bx.cells 9 _ rfl
      have xl := bx.lt
      have m0 := bm.cells 0 _ rfl
      have m1 := bm.cells 1 _ rfl
      have m2 := bm.cells 2 _ rfl
      have m3 := bm.cells 3 _ rfl
      have m4 := bm.cells 4 _ rfl
      have m5 := bm.cells 5 _ rfl
      have m6 := bm.cells 6 _ rfl
      have m7 := bm.cells 7 _ rfl
      have m8 := bm.cells 8 _ rfl
      have m9 := bm.cells 9 _ rfl
      have ml := bm.lt
      have n0 := bn.cells 0 _ rfl
      have n1 := bn.cells 1 _ rfl
      have n2 := bn.cells 2 _ rfl
      have n3 := bn.cells 3 _ rfl
      have n4 := bn.cells 4 _ rfl
      have n5 := bn.cells 5 _ rfl
      have n6 := bn.cells 6 _ rfl
      have n7 := bn.cells 7 _ rfl
      have n8 := bn.cells 8 _ rfl
      have n9 := bn.cells 9 _ rfl
      have nl := bn.lt
      have o0 := bo.cells 0 _ rfl
      have o1 := bo.cells 1 _ rfl
      have o2 := bo.cells 2 _ rfl
      have o3 := bo.cells 3 _ rfl
      have o4 := bo.cells 4 _ rfl
      have o5 := bo.cells 5 _ rfl
      have o6 := bo.cells 6 _ rfl
      have o7 := bo.cells 7 _ rfl
      have o8 := bo.cells 8 _ rfl
      have o9 := bo.cells 9 _ rfl
      have ol := bo.lt
      go_wp2_with fail
      go_ret
      exact ⟨rfl, by first | exact hw2.alloc hBw _ | (rw [hB0]; exact hw2.alloc hBw _)⟩

namespace clientKeepsLaw
open Go.ChangeShapes Go.WideShapes Go.ChangeAt Go.RowKit
open Go.ChangeMaps (open_string shut_string)
set_option linter.unusedVariables false

set_option maxRecDepth 100000 in
theorem lifted (os : Os) (started : os.Started) (H : Type) (enc : TypeId × Value → H) :
    ReturnsInHanded {} Try.checked os 14 .any (Rows.clientKeepsSpec.pre6 enc Try.prog Try.f14 Rows.clientKeepsRow.domain false) (Rows.clientKeepsSpec.post enc Try.prog Try.f14 false true false false) := by
  refine returnsInHanded_of_change_sized (C := Try.checked) ownNone started (by kernel_rfl) Try.func14
    (ChangeSpec.witness6 (enc := enc) (C := Try.checked) false ⟨#[], #[.int .i64 0, .int .i64 0, .agg #[.int .i64 0, .int .i64 0, .int .i64 0, .string ByteArray.empty], .agg #[.int .i64 0, .int .i64 0, .int .i64 0, .string ByteArray.empty]], []⟩ 8 (by kernel_rfl) (by kernel_rfl) (by kernel_rfl) (by kernel_rfl)) ?_
  intro W base args ds gs before hval0 hW hcnd hsz0 _
  have hval : ∀ (j : Nat) t v, Try.f14.params[j]? = some t → args[j]? = some v → Value.okWide Try.prog W .any base t v := hval0
  have hsz : (DataW.weightsEach Try.prog (Try.f14.params.toList ++ Rows.clientKeepsSpec.plain.varTypes Try.prog) (ds ++ gs)).all (· ≤ reachBytes) = true := hsz0
  have hW' := hW
  obtain ⟨p, q, hA0, hV, rfl, hfz, hnd⟩ := hW
  have hA : DataW.TrodAll enc Try.prog W 0 (fun _ => true) true Try.f14.params.toList args.toList ds p := hA0
  rw [Try.params14] at hA hval hsz
  obtain ⟨v0, vs0, d0, ds0, p0, q0, hargs, rfl, rfl, h0, r0⟩ := trodAll_cons hA
  obtain ⟨v1, vs1, d1, ds1, p1, q1, rfl, rfl, rfl, h1, r1⟩ := trodAll_cons r0
  obtain ⟨v2, vs2, d2, ds2, p2, q2, rfl, rfl, rfl, h2, r2⟩ := trodAll_cons r1
  obtain ⟨v3, vs3, d3, ds3, p3, q3, rfl, rfl, rfl, h3, r3⟩ := trodAll_cons r2
  obtain ⟨rfl, rfl, rfl⟩ := trodAll_nil r3
  obtain rfl : args = #[v0, v1, v2, v3] := by cases args; simp_all
  obtain ⟨rfl, rfl⟩ := trodVars_none hV
  have k0 := h0
  have lt0 : ∀ x ∈ p0, x.block < W.heap.size := by obtain ⟨m, hm⟩ := k0; exact DataW.trod_lt m _ _ _ hm
  obtain ⟨a0, rfl, -, -, w0⟩ := open_int Try.underlying3 (hval 0 3 v0 rfl rfl) h0
  have k1 := h1
  have lt1 : ∀ x ∈ p1, x.block < W.heap.size := by obtain ⟨m, hm⟩ := k1; exact DataW.trod_lt m _ _ _ hm
  obtain ⟨a1, rfl, -, -, w1⟩ := open_int Try.underlying3 (hval 1 3 v1 rfl rfl) h1
  have k2 := h2
  have lt2 : ∀ x ∈ p2, x.block < W.heap.size := by obtain ⟨m, hm⟩ := k2; exact DataW.trod_lt m _ _ _ hm
  obtain ⟨a2, rfl, w2⟩ := open_raw (hval 2 50 v2 rfl rfl) h2
  have k3 := h3
  have lt3 : ∀ x ∈ p3, x.block < W.heap.size := by obtain ⟨m, hm⟩ := k3; exact DataW.trod_lt m _ _ _ hm
  obtain ⟨a3, rfl, w3⟩ := open_raw (hval 3 50 v3 rfl rfl) h3
  clear hA0 hval0 hsz0
  refine (clientKeeps_walk a0 a1 a2 a3 W (int_lo w0) (int_hi w0) (int_lo w1) (int_hi w1) w2 w3).mono fun e W' ⟨he, bel⟩ => ?_
  subst he
  exact ⟨_, rfl, _, _, _, [], _, [], hW', trodAll_mk1 (shut_bool Try.underlying4 _), (trodAll_cons_mk (Below.trod laidOutTrue (by kernel_rfl) (of_decide_eq_true (by kernel_rfl)) k0 bel lt0) (trodAll_cons_mk (Below.trod laidOutTrue (by kernel_rfl) (of_decide_eq_true (by kernel_rfl)) k1 bel lt1) (trodAll_cons_mk (Below.trod laidOutTrue (by kernel_rfl) (of_decide_eq_true (by kernel_rfl)) k2 bel lt2) (trodAll_cons_mk (Below.trod laidOutTrue (by kernel_rfl) (of_decide_eq_true (by kernel_rfl)) k3 bel lt3) trodAll_mk0)))), rfl, bel.frame _, fun h => by cases h⟩

theorem over : Rows.clientKeepsRow.holds Try.pinned (OpenSpec.ofChange Rows.clientKeepsSpec) :=
  OpenClaim.holds_of_wide 14 Try.f14 rfl rfl rfl rfl rfl rfl rfl ⟨rfl, rfl, rfl, rfl, rfl⟩ rfl rfl rfl rfl rfl (by kernel_rfl) Try.func14 (by kernel_rfl)
    (of_decide_eq_true (by kernel_rfl)) (by unfold Func.isWrapper; first | (rw [if_pos (by decide +kernel)]; kernel_rfl) | (rw [if_neg (by decide +kernel)]; exact ⟨rfl, rfl⟩))
    (fun os started H enc _ => lifted os started H enc)

end clientKeepsLaw
theorem clientKeeps_holds : Rows.ClientKeepsSaid := clientKeepsLaw.over
#print axioms clientKeeps_holds
end Go.Proofs.Ytpckomnpeainlaa
