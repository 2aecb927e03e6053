/-
  For all numbers and every raw thing CallEnds returns true: who is never answered asks so often, at just these times, and gives up. No condition.
-/
import Derived.Test.YtpckomnpeainlaaBox10
import Derived.Test.YtpckomnpeainlaaVal
namespace Go.Proofs.Ytpckomnpeainlaa
open Go.RowKit

/-- The loop's measure: twice the tries to come, and one if it is still asking. -/
def mCall (g : Nat) (v : Value) (wr : World) : Nat :=
  2 * (6 - (intOf v).toNat) + match wr.cell? ⟨g, 0, none⟩ with | some (.int _ 1) => 1 | _ => 0

theorem mCall_ask {g : Nat} {n : Int} {wr : World} (h : wr.cell? ⟨g, 0, none⟩ = some (.int .i64 1)) : mCall g (.int .i64 n) wr = 2 * (6 - n.toNat) + 1 := by simp [mCall, intOf, h]
theorem mCall_given {g : Nat} {n : Int} {wr : World} (h : wr.cell? ⟨g, 0, none⟩ = some (.int .i64 3)) : mCall g (.int .i64 n) wr = 2 * (6 - n.toNat) := by simp [mCall, intOf, h]

/-- The call at the head of a round. -/
def CallAt (t p q kn : Int) (g : Nat) (asks at' : Int) (wr : World) : Prop :=
  (∃ j nx : Int, asks = j ∧ 1 ≤ j ∧ j ≤ t ∧ 0 ≤ at' ∧ at' ≤ 1000 * j ∧ nx = at' + gapV p q j ∧ Box wr g [.int .i64 1, .int .i64 7, .int .i64 j, .int .i64 1, .int .i64 kn, .string ⟨#[]⟩, .int .i64 0, .int .i64 0, .string ⟨#[]⟩, .int .i64 nx]) ∨
  (asks = t ∧ Box wr g [.int .i64 3, .int .i64 7, .int .i64 t, .int .i64 1, .int .i64 kn, .string ⟨#[]⟩, .int .i64 0, .int .i64 0, .string ⟨#[]⟩, .int .i64 0])

set_option maxRecDepth 100000 in
set_option maxHeartbeats 8000000 in
theorem callEnds_walk (a b c start : Int) (r : RawD) (w : World) (h0 : -9223372036854775808 ≤ a) (h1 : a ≤ 9223372036854775807) (h2 : -9223372036854775808 ≤ b) (h3 : b ≤ 9223372036854775807)
    (h4 : -9223372036854775808 ≤ c) (h5 : c ≤ 9223372036854775807) (h6 : -9223372036854775808 ≤ start) (h7 : start ≤ 9223372036854775807) (hr : r.ok) :
    Calls Try.prog 12 #[.int .i64 a, .int .i64 b, .int .i64 c, .int .i64 start, r.val] w fun e w' => e = .returned (.bool true) ∧ Below w.heap.size w w' := by
  have s0 := pickL_lo start 1000 (by omega)
  have s1 := pickL_hi start 1000 (by omega)
  have HR := Lib.hid hr
  clear hr
  have bx1 := Box.new w #[.int .i64 r.k, .int .i64 r.a, .int .i64 r.b, .string r.t] 50
  have BX1 := Lib.hid bx1
  clear bx1
  have bw := (Below.refl w.heap.size w).alloc (Nat.le_refl _) (.cells #[.int .i64 r.k, .int .i64 r.a, .int .i64 r.b, .string r.t] 50)
  have BW := Lib.hid bw
  clear bw
  go_enter Try.func12, Try.ntmps12
  go_wp2_with fail
  with_reducible refine (policy_any a b c _ h0 h1 h2 h3 h4 h5).mono ?_
  rintro e w' ⟨t, p, q, g0, g1, g2, g3, g4, g5, rfl, hb⟩
  clear h0 h1 h2 h3 h4 h5
  have hx := (BX1.out.keep hb).alloc (.cells #[.int .i64 t, .int .i64 p, .int .i64 q] 45)
  have hy := Box.new w' #[.int .i64 t, .int .i64 p, .int .i64 q] 45
  have hw := bthen (bthen BW.out hb) ((Below.refl w'.heap.size w').alloc (Nat.le_refl _) (.cells #[.int .i64 t, .int .i64 p, .int .i64 q] 45))
  have hlt : w.heap.size < w'.heap.size := by have := (BX1.out.keep hb).lt; exact this
  clear BX1 BW hb
  go_wp2_with fail
  with_reducible refine (picked_any start 1000 _ h6 h7 (by omega) (by omega)).mono ?_
  rintro e w' ⟨rfl, rfl⟩
  clear h6 h7
  generalize pickL start 1000 = st at *
  go_wp2_with fail
  generalize w'.alloc (.cells #[.int .i64 t, .int .i64 p, .int .i64 q] 45) = W at *
  generalize w'.heap.size = B1 at *
  have hkn := val_known 1 r.k r.a r.t (by omega) (by omega)
  have HV := fun w => Lib.hid (val_int r w HR.out)
  have HV' := Lib.hid HV
  clear HV HR
  generalize valN 1 r.k r.a = kn at *
  have hkn' : KnownV 1 kn ⟨#[]⟩ := hkn
  have HKN := Lib.hid hkn'
  clear hkn hkn'
  have OP : Hid (OkPol t p q) := ⟨g0, g1, g2, g3, by omega⟩
  generalize hB0 : w.heap.size = B0 at *
  refine region_go (by kernel_rfl) (by kernel_rfl)
    [(0, 31, .agg #[.int .i64 t, .int .i64 p, .int .i64 q]), (1, 32, r.val), (2, 33, .agg #[.int .i64 1, .int .i64 kn, .string ⟨#[]⟩]), (3, 34, .int .i64 st), (4, 35, .tuple #[.agg #[.int .i64 1, .int .i64 7, .int .i64 1, .int .i64 1, .int .i64 kn, .string ⟨#[]⟩, .int .i64 0, .int .i64 0, .string ⟨#[]⟩, .int .i64 (st + p)], .int .i64 0]), (5, 30, .tuple #[.agg #[.int .i64 1, .int .i64 7, .int .i64 1, .int .i64 1, .int .i64 kn, .string ⟨#[]⟩, .int .i64 0, .int .i64 0, .string ⟨#[]⟩, .int .i64 (st + p)], .int .i64 0]),
      (6, 36, .agg #[.int .i64 1, .int .i64 7, .int .i64 1, .int .i64 1, .int .i64 kn, .string ⟨#[]⟩, .int .i64 0, .int .i64 0, .string ⟨#[]⟩, .int .i64 (st + p)]), (7, 37, .int .i64 0), (10, 13, .int .i64 0)]
    [12]
    [⟨8, 12, 9, [.int .i64 0, .int .i64 0, .int .i64 0, .int .i64 0, .int .i64 0, .string ⟨#[]⟩, .int .i64 0, .int .i64 0, .string ⟨#[]⟩, .int .i64 0], [.int .i64 1, .int .i64 7, .int .i64 1, .int .i64 1, .int .i64 kn, .string ⟨#[]⟩, .int .i64 0, .int .i64 0, .string ⟨#[]⟩, .int .i64 (st + p)]⟩]
    [(3, .int .i64 st), (9, .pointer (some ⟨B0, 0, none⟩)), (11, .pointer (some ⟨B1, 0, none⟩))]
    (by rfl) ?base (by rfl) ?step ?fin
  case base =>
    intro x hx
    simp only [List.mem_cons, List.not_mem_nil, or_false] at hx
    rcases hx with rfl | rfl | rfl <;> rfl
  case step =>
    intro a0 i o D a' w' ho hn hd hT hE hS hV hB
    have hi : i < 11 := (Array.getElem?_eq_some_iff.1 ho).1
    have e3 : a'.eval (.tmp 3) = .int .i64 st := hE (3, _) (by simp)
    have e9 : a'.eval (.tmp 9) = .pointer (some ⟨B0, 0, none⟩) := hE (9, _) (by simp)
    have e11 : a'.eval (.tmp 11) = .pointer (some ⟨B1, 0, none⟩) := hE (11, _) (by simp)
    have hBs := hB.size
    obtain rfl | rfl | rfl | rfl | rfl | rfl | rfl | rfl | rfl | rfl | rfl : i = 0 ∨ i = 1 ∨ i = 2 ∨ i = 3 ∨ i = 4 ∨ i = 5 ∨ i = 6 ∨ i = 7 ∨ i = 8 ∨ i = 9 ∨ i = 10 := by omega
    all_goals
      have ho' := ho
      simp only [List.getElem?_toArray, List.getElem?_cons_zero, List.getElem?_cons_succ, Option.some.injEq] at ho'
      subst ho'
      simp [Region.binds] at hd
    · have bb := hy.keep hB
      have c0 := bb.cells 0 _ rfl
      have c1 := bb.cells 1 _ rfl
      have c2 := bb.cells 2 _ rfl
      refine step_value (d := 31) (v := .agg #[.int .i64 t, .int .i64 p, .int .i64 q]) ho rfl rfl hT (by simp) (by rfl) hS hV hB (Below.refl _ _) hBs ?_
      simp only [execOp, e11]
      go_simp
    · have bb := hx.keep hB
      have c0 := bb.cells 0 _ rfl
      have c1 := bb.cells 1 _ rfl
      have c2 := bb.cells 2 _ rfl
      have c3 := bb.cells 3 _ rfl
      refine step_value (d := 32) (v := r.val) ho rfl rfl hT (by simp) (by rfl) hS hV hB (Below.refl _ _) hBs ?_
      simp only [execOp, e9]
      go_simp
    · have f2 : a'.eval (.tmp 32) = r.val := hS.done (1, 32, _) (by simp) (by simp [hd])
      refine step_call (d := 33) (v := .agg #[.int .i64 1, .int .i64 kn, .string ⟨#[]⟩]) (f := 28) (args := #[.int .i64 1, r.val]) ho rfl rfl hT (by simp) (by rfl) hS hV hB hBs ?_ (HV'.out w').out
      simp only [execOp, resolve]
      simp [f2]
      go_simp
    · refine step_value (d := 34) (v := .int .i64 st) ho rfl rfl hT (by simp) (by rfl) hS hV hB (Below.refl _ _) hBs ?_
      simp only [execOp, e3]
      go_simp
    · have f1 : a'.eval (.tmp 31) = .agg #[.int .i64 t, .int .i64 p, .int .i64 q] := hS.done (0, 31, _) (by simp) (by simp [hd])
      have f2 : a'.eval (.tmp 33) = .agg #[.int .i64 1, .int .i64 kn, .string ⟨#[]⟩] := hS.done (2, 33, _) (by simp) (by simp [hd])
      have f3 : a'.eval (.tmp 34) = .int .i64 st := hS.done (3, 34, _) (by simp) (by simp [hd])
      refine step_call (d := 35) (v := .tuple #[.agg #[.int .i64 1, .int .i64 7, .int .i64 1, .int .i64 1, .int .i64 kn, .string ⟨#[]⟩, .int .i64 0, .int .i64 0, .string ⟨#[]⟩, .int .i64 (st + p)], .int .i64 0]) (f := 30) (args := #[.agg #[.int .i64 t, .int .i64 p, .int .i64 q], .int .i64 7, .agg #[.int .i64 1, .int .i64 kn, .string ⟨#[]⟩], .int .i64 st]) ho rfl rfl hT (by simp) (by rfl) hS hV hB hBs ?_
        (call_start t p q 7 1 kn st ⟨#[]⟩ w' OP.out (by omega) (by omega) s0 (by omega) HKN.out)
      simp only [execOp, resolve]
      simp [f1, f2, f3]
      go_simp
    · have f1 : a'.eval (.tmp 35) = .tuple #[.agg #[.int .i64 1, .int .i64 7, .int .i64 1, .int .i64 1, .int .i64 kn, .string ⟨#[]⟩, .int .i64 0, .int .i64 0, .string ⟨#[]⟩, .int .i64 (st + p)], .int .i64 0] := hS.done (4, 35, _) (by simp) (by simp [hd])
      refine step_value (d := 30) (v := .tuple #[.agg #[.int .i64 1, .int .i64 7, .int .i64 1, .int .i64 1, .int .i64 kn, .string ⟨#[]⟩, .int .i64 0, .int .i64 0, .string ⟨#[]⟩, .int .i64 (st + p)], .int .i64 0]) ho rfl rfl hT (by simp) (by rfl) hS hV hB (Below.refl _ _) hBs ?_
      simp only [execOp, f1]
      go_simp
    · have f1 : a'.eval (.tmp 30) = .tuple #[.agg #[.int .i64 1, .int .i64 7, .int .i64 1, .int .i64 1, .int .i64 kn, .string ⟨#[]⟩, .int .i64 0, .int .i64 0, .string ⟨#[]⟩, .int .i64 (st + p)], .int .i64 0] := hS.done (5, 30, _) (by simp) (by simp [hd])
      refine step_value (d := 36) (v := .agg #[.int .i64 1, .int .i64 7, .int .i64 1, .int .i64 1, .int .i64 kn, .string ⟨#[]⟩, .int .i64 0, .int .i64 0, .string ⟨#[]⟩, .int .i64 (st + p)]) ho rfl rfl hT (by simp) (by rfl) hS hV hB (Below.refl _ _) hBs ?_
      simp only [execOp, f1]
      go_simp
    · have f1 : a'.eval (.tmp 30) = .tuple #[.agg #[.int .i64 1, .int .i64 7, .int .i64 1, .int .i64 1, .int .i64 kn, .string ⟨#[]⟩, .int .i64 0, .int .i64 0, .string ⟨#[]⟩, .int .i64 (st + p)], .int .i64 0] := hS.done (5, 30, _) (by simp) (by simp [hd])
      refine step_value (d := 37) (v := .int .i64 0) ho rfl rfl hT (by simp) (by rfl) hS hV hB (Below.refl _ _) hBs ?_
      simp only [execOp, f1]
      go_simp
    · refine step_alloc (x := ⟨8, 12, 9, [.int .i64 0, .int .i64 0, .int .i64 0, .int .i64 0, .int .i64 0, .string ⟨#[]⟩, .int .i64 0, .int .i64 0, .string ⟨#[]⟩, .int .i64 0], [.int .i64 1, .int .i64 7, .int .i64 1, .int .i64 1, .int .i64 kn, .string ⟨#[]⟩, .int .i64 0, .int .i64 0, .string ⟨#[]⟩, .int .i64 (st + p)]⟩) (cs := #[.int .i64 0, .int .i64 0, .int .i64 0, .int .i64 0, .int .i64 0, .string ⟨#[]⟩, .int .i64 0, .int .i64 0, .string ⟨#[]⟩, .int .i64 0]) (t := 56) ho rfl rfl hT (by rfl) (by simp) (by simp) (by rfl) hn hS hV hB hBs rfl ?_
      simp only [execOp]
      go_simp
    · have f1 : a'.eval (.tmp 36) = .agg #[.int .i64 1, .int .i64 7, .int .i64 1, .int .i64 1, .int .i64 kn, .string ⟨#[]⟩, .int .i64 0, .int .i64 0, .string ⟨#[]⟩, .int .i64 (st + p)] := hS.done (6, 36, _) (by simp) (by simp [hd])
      refine step_store (x := ⟨8, 12, 9, [.int .i64 0, .int .i64 0, .int .i64 0, .int .i64 0, .int .i64 0, .string ⟨#[]⟩, .int .i64 0, .int .i64 0, .string ⟨#[]⟩, .int .i64 0], [.int .i64 1, .int .i64 7, .int .i64 1, .int .i64 1, .int .i64 kn, .string ⟨#[]⟩, .int .i64 0, .int .i64 0, .string ⟨#[]⟩, .int .i64 (st + p)]⟩) ho rfl rfl (by rfl) (by simp) (by rfl) hn (by simp [hd]) hS hV hB (fun g hg hbox => ?_)
      have c0 := hbox.cells 0 _ rfl
      have c1 := hbox.cells 1 _ rfl
      have c2 := hbox.cells 2 _ rfl
      have c3 := hbox.cells 3 _ rfl
      have c4 := hbox.cells 4 _ rfl
      have c5 := hbox.cells 5 _ rfl
      have c6 := hbox.cells 6 _ rfl
      have c7 := hbox.cells 7 _ rfl
      have c8 := hbox.cells 8 _ rfl
      have c9 := hbox.cells 9 _ rfl
      have k0 := hbox.free 0
      have k1 := hbox.free 1
      have k2 := hbox.free 2
      have k3 := hbox.free 3
      have k4 := hbox.free 4
      have k5 := hbox.free 5
      have k6 := hbox.free 6
      have k7 := hbox.free 7
      have k8 := hbox.free 8
      have k9 := hbox.free 9
      refine ⟨_, ?_, only10 (.int .i64 1) (.int .i64 7) (.int .i64 1) (.int .i64 1) (.int .i64 kn) (.string ⟨#[]⟩) (.int .i64 0) (.int .i64 0) (.string ⟨#[]⟩) (.int .i64 (st + p)), set10_box _ _ _ _ _ _ _ _ _ _ hbox⟩
      simp only [execOp, f1, hg]
      go_simp
    · have f1 : a'.eval (.tmp 37) = .int .i64 0 := hS.done (7, 37, _) (by simp) (by simp [hd])
      refine step_value (d := 13) (v := .int .i64 0) ho rfl rfl hT (by simp) (by rfl) hS hV hB (Below.refl _ _) hBs ?_
      simp only [execOp, f1]
      go_simp
  case fin =>
    intro a' w2 hS hV hB
    obtain ⟨g, f12, l12, b12⟩ := hV.fin (x := ⟨8, 12, 9, [.int .i64 0, .int .i64 0, .int .i64 0, .int .i64 0, .int .i64 0, .string ⟨#[]⟩, .int .i64 0, .int .i64 0, .string ⟨#[]⟩, .int .i64 0], [.int .i64 1, .int .i64 7, .int .i64 1, .int .i64 1, .int .i64 kn, .string ⟨#[]⟩, .int .i64 0, .int .i64 0, .string ⟨#[]⟩, .int .i64 (st + p)]⟩) (by simp) (by show (8 : Nat) < 11; omega) (by show (9 : Nat) < 11; omega)
    have e := hS.all (by rfl) (by decide) (by simp) [(12, .pointer (some ⟨g, 0, none⟩))] rfl (by
      intro x hx
      simp only [List.mem_cons, List.not_mem_nil, or_false] at hx
      subst hx
      exact f12)
    subst e
    have hy2 := hy.keep hB
    have hw2 := hw.trans (hB.mono (by have := hx.lt; omega))
    have hne : g ≠ B1 := by have := hy.lt; omega
    have hgB : B0 ≤ g := by have := hx.lt; omega
    clear hS hV f12 hB hx hy hw HV'
    simp only [puts, List.map_cons, List.map_nil, List.cons_append, List.nil_append, List.foldl_cons, List.foldl_nil]
    go_wp2_with fail
    have gp : gapV p q 1 = p := by simp [gapV, g3]
    go_loopw [14, 15] (fun n tm wr => ∃ k j : Int, n = .int .i64 k ∧ tm = .int .i64 j ∧ CallAt t p q kn g k j wr ∧ Box wr B1 [.int .i64 t, .int .i64 p, .int .i64 q] ∧ Below B0 w wr) (fun n _ wr => mCall g n wr)
    case atStart => exact ⟨1, st, rfl, rfl, .inl ⟨1, st + p, rfl, by omega, by omega, s0, by omega, by rw [gp], b12⟩, hy2, hw2⟩
    case round =>
      clear b12 hy2 hw2
      obtain ⟨k, j, rfl, rfl, hat, hyr, hwr⟩ := hrel
      rcases hat with ⟨i, nx, rfl, i1, i2, i3, i4, hnx, hxr⟩ | ⟨rfl, hxr⟩
      · have hck := fun w => call_check_ask t p q 7 k 1 kn nx ⟨#[]⟩ w OP.out (by omega) (by omega) i1 i2 (by have := gapV_lo (n := k) g2 g3 (by omega) i1 (by omega); omega) (by have := gapV_hi (b := p) (c := q) (n := k); omega) HKN.out
        have HCK := Lib.hid hck
        clear hck
        obtain ⟨G, hG⟩ : ∃ G, gapV p q k = G := ⟨_, rfl⟩
        have G0 := gapV_lo (n := k) g2 g3 (by omega) i1 (by omega)
        have G1 := gapV_hi (b := p) (c := q) (n := k)
        rw [hG] at hnx G0 G1
        have HG := Lib.hid hG
        have hne1 : (nx != j + G) = false := by rw [hnx]; simp
        have nx0 : 1 ≤ nx := by omega
        have nx1 : nx ≤ 1000 * k + 249 := by omega
        have hold := hxr.cells 0 _ rfl
        have HOLD := Lib.hid hold
        clear hG hnx hold
        have x0 := hxr.cells 0 _ rfl
        have x1 := hxr.cells 1 _ rfl
        have x2 := hxr.cells 2 _ rfl
        have x3 := hxr.cells 3 _ rfl
        have x4 := hxr.cells 4 _ rfl
        have x5 := hxr.cells 5 _ rfl
        have x6 := hxr.cells 6 _ rfl
        have x7 := hxr.cells 7 _ rfl
        have x8 := hxr.cells 8 _ rfl
        have x9 := hxr.cells 9 _ rfl
        have y0 := hyr.cells 0 _ rfl
        have y1 := hyr.cells 1 _ rfl
        have y2 := hyr.cells 2 _ rfl
        go_wp2_with fail
        with_reducible refine (gap_eq t p q k G _ g0 g1 g2 g3 (by omega) i1 i2 HG.out).mono ?_
        rintro e u1 ⟨rfl, hb⟩
        have hx1 := hxr.keep hb
        have hy1 := hyr.keep hb
        have hw1 := hwr.trans (hb.mono (Nat.le_of_lt (Nat.lt_of_le_of_lt hgB hxr.lt)))
        clear x0 x1 x2 x3 x4 x5 x6 x7 x8 x9 y0 y1 y2
        clear hb
        have x0 := hx1.cells 0 _ rfl
        have x1 := hx1.cells 1 _ rfl
        have x2 := hx1.cells 2 _ rfl
        have x3 := hx1.cells 3 _ rfl
        have x4 := hx1.cells 4 _ rfl
        have x5 := hx1.cells 5 _ rfl
        have x6 := hx1.cells 6 _ rfl
        have x7 := hx1.cells 7 _ rfl
        have x8 := hx1.cells 8 _ rfl
        have x9 := hx1.cells 9 _ rfl
        have y0 := hy1.cells 0 _ rfl
        have y1 := hy1.cells 1 _ rfl
        have y2 := hy1.cells 2 _ rfl
        go_wp2_with fail
        with_reducible refine (HCK.out _).mono ?_
        rintro e u2 ⟨rfl, hb⟩
        have hx2 := hx1.keep hb
        have hy2 := hy1.keep hb
        have hw2 := hw1.trans (hb.mono (Nat.le_of_lt (Nat.lt_of_le_of_lt hgB hx1.lt)))
        clear x0 x1 x2 x3 x4 x5 x6 x7 x8 x9 y0 y1 y2
        clear hb
        have x0 := hx2.cells 0 _ rfl
        have x1 := hx2.cells 1 _ rfl
        have x2 := hx2.cells 2 _ rfl
        have x3 := hx2.cells 3 _ rfl
        have x4 := hx2.cells 4 _ rfl
        have x5 := hx2.cells 5 _ rfl
        have x6 := hx2.cells 6 _ rfl
        have x7 := hx2.cells 7 _ rfl
        have x8 := hx2.cells 8 _ rfl
        have x9 := hx2.cells 9 _ rfl
        have y0 := hy2.cells 0 _ rfl
        have y1 := hy2.cells 1 _ rfl
        have y2 := hy2.cells 2 _ rfl
        go_wp2_with fail
        with_reducible refine (call_wake_stays t p q 1 7 k 1 kn 0 0 nx (nx - 1) ⟨#[]⟩ ⟨#[]⟩ _ (by omega) (by omega) HCK.out (.inr ⟨by decide, by omega⟩)).mono ?_
        rintro e u3 ⟨rfl, hb⟩
        have hx3 := hx2.keep hb
        have hy3 := hy2.keep hb
        have hw3 := hw2.trans (hb.mono (Nat.le_of_lt (Nat.lt_of_le_of_lt hgB hx2.lt)))
        clear x0 x1 x2 x3 x4 x5 x6 x7 x8 x9 y0 y1 y2
        clear hb
        have x0 := hx3.cells 0 _ rfl
        have x1 := hx3.cells 1 _ rfl
        have x2 := hx3.cells 2 _ rfl
        have x3 := hx3.cells 3 _ rfl
        have x4 := hx3.cells 4 _ rfl
        have x5 := hx3.cells 5 _ rfl
        have x6 := hx3.cells 6 _ rfl
        have x7 := hx3.cells 7 _ rfl
        have x8 := hx3.cells 8 _ rfl
        have x9 := hx3.cells 9 _ rfl
        have y0 := hy3.cells 0 _ rfl
        have y1 := hy3.cells 1 _ rfl
        have y2 := hy3.cells 2 _ rfl
        have gl := hx3.lt
        have bl := hy3.lt
        go_wp2_with fail
        by_cases hkt : k = t
        · subst hkt
          with_reducible refine (call_wake_gives k p q 7 1 kn nx nx ⟨#[]⟩ _ OP.out (by omega) (by omega) (by omega) (by omega) (by omega) (by omega) HKN.out).mono ?_
          rintro e u4 ⟨rfl, hb⟩
          have hx4 := (hx3.alloc (.cells #[.int .i64 1, .int .i64 7, .int .i64 k, .int .i64 1, .int .i64 kn, .string ⟨#[]⟩, .int .i64 0, .int .i64 0, .string ⟨#[]⟩, .int .i64 nx] 56)).keep hb
          have hy4 := (hy3.alloc (.cells #[.int .i64 1, .int .i64 7, .int .i64 k, .int .i64 1, .int .i64 kn, .string ⟨#[]⟩, .int .i64 0, .int .i64 0, .string ⟨#[]⟩, .int .i64 nx] 56)).keep hb
          have hw4 := (hw3.alloc (Nat.le_of_lt (Nat.lt_of_le_of_lt hgB gl)) (.cells #[.int .i64 1, .int .i64 7, .int .i64 k, .int .i64 1, .int .i64 kn, .string ⟨#[]⟩, .int .i64 0, .int .i64 0, .string ⟨#[]⟩, .int .i64 nx] 56)).trans (hb.mono (by have := gl; simp; omega))
          clear x0 x1 x2 x3 x4 x5 x6 x7 x8 x9 y0 y1 y2
          clear hb gl bl
          have x0 := hx4.cells 0 _ rfl
          have x1 := hx4.cells 1 _ rfl
          have x2 := hx4.cells 2 _ rfl
          have x3 := hx4.cells 3 _ rfl
          have x4 := hx4.cells 4 _ rfl
          have x5 := hx4.cells 5 _ rfl
          have x6 := hx4.cells 6 _ rfl
          have x7 := hx4.cells 7 _ rfl
          have x8 := hx4.cells 8 _ rfl
          have x9 := hx4.cells 9 _ rfl
          have f0 := hx4.free 0
          have f1 := hx4.free 1
          have f2 := hx4.free 2
          have f3 := hx4.free 3
          have f4 := hx4.free 4
          have f5 := hx4.free 5
          have f6 := hx4.free 6
          have f7 := hx4.free 7
          have f8 := hx4.free 8
          have f9 := hx4.free 9
          have y0 := hy4.cells 0 _ rfl
          have y1 := hy4.cells 1 _ rfl
          have y2 := hy4.cells 2 _ rfl
          have gl := hx4.lt
          have bl := hy4.lt
          have nb := (set10_box (.int .i64 3) (.int .i64 7) (.int .i64 k) (.int .i64 1) (.int .i64 kn) (.string ⟨#[]⟩) (.int .i64 0) (.int .i64 0) (.string ⟨#[]⟩) (.int .i64 0) hx4).alloc (.cells #[.int .i64 3, .int .i64 7, .int .i64 k, .int .i64 1, .int .i64 kn, .string ⟨#[]⟩, .int .i64 0, .int .i64 0, .string ⟨#[]⟩, .int .i64 0] 56)
          have ny := ((only10 (w := u4) (g := g) (.int .i64 3) (.int .i64 7) (.int .i64 k) (.int .i64 1) (.int .i64 kn) (.string ⟨#[]⟩) (.int .i64 0) (.int .i64 0) (.string ⟨#[]⟩) (.int .i64 0)).box (b := B1) (fun e => hne e.symm) hy4).alloc (.cells #[.int .i64 3, .int .i64 7, .int .i64 k, .int .i64 1, .int .i64 kn, .string ⟨#[]⟩, .int .i64 0, .int .i64 0, .string ⟨#[]⟩, .int .i64 0] 56)
          have nw := (hw4.trans ((only10 (w := u4) (g := g) (.int .i64 3) (.int .i64 7) (.int .i64 k) (.int .i64 1) (.int .i64 kn) (.string ⟨#[]⟩) (.int .i64 0) (.int .i64 0) (.string ⟨#[]⟩) (.int .i64 0)).below hgB)).alloc (by rw [(only10 (w := u4) (g := g) (.int .i64 3) (.int .i64 7) (.int .i64 k) (.int .i64 1) (.int .i64 kn) (.string ⟨#[]⟩) (.int .i64 0) (.int .i64 0) (.string ⟨#[]⟩) (.int .i64 0)).size]; omega) (.cells #[.int .i64 3, .int .i64 7, .int .i64 k, .int .i64 1, .int .i64 kn, .string ⟨#[]⟩, .int .i64 0, .int .i64 0, .string ⟨#[]⟩, .int .i64 0] 56)
          have NB := Lib.hid nb
          have NY := Lib.hid ny
          have NW := Lib.hid nw
          clear nb ny nw
          go_wp2_with fail
          go_roundw
          case rel =>
            have nb := NB.out
            have ny := NY.out
            have nw := NW.out
            exact ⟨k, nx, rfl, rfl, .inr ⟨rfl, nb⟩, ny, nw⟩
          case measure =>
            have nb := NB.out
            rw [mCall_given (nb.cells 0 _ rfl), mCall_ask HOLD.out]; omega
        · obtain ⟨G2, hG2⟩ : ∃ G, gapV p q (k + 1) = G := ⟨_, rfl⟩
          have HG2 := Lib.hid hG2
          clear hG2
          with_reducible refine (call_wake_again t p q 7 k 1 kn nx nx G2 ⟨#[]⟩ _ OP.out (by omega) (by omega) (by omega) (by omega) i1 (by omega) (by omega) (by omega) HKN.out HG2.out).mono ?_
          rintro e u4 ⟨rfl, hb⟩
          have hx4 := (hx3.alloc (.cells #[.int .i64 1, .int .i64 7, .int .i64 k, .int .i64 1, .int .i64 kn, .string ⟨#[]⟩, .int .i64 0, .int .i64 0, .string ⟨#[]⟩, .int .i64 nx] 56)).keep hb
          have hy4 := (hy3.alloc (.cells #[.int .i64 1, .int .i64 7, .int .i64 k, .int .i64 1, .int .i64 kn, .string ⟨#[]⟩, .int .i64 0, .int .i64 0, .string ⟨#[]⟩, .int .i64 nx] 56)).keep hb
          have hw4 := (hw3.alloc (Nat.le_of_lt (Nat.lt_of_le_of_lt hgB gl)) (.cells #[.int .i64 1, .int .i64 7, .int .i64 k, .int .i64 1, .int .i64 kn, .string ⟨#[]⟩, .int .i64 0, .int .i64 0, .string ⟨#[]⟩, .int .i64 nx] 56)).trans (hb.mono (by have := gl; simp; omega))
          clear x0 x1 x2 x3 x4 x5 x6 x7 x8 x9 y0 y1 y2
          clear hb gl bl
          have x0 := hx4.cells 0 _ rfl
          have x1 := hx4.cells 1 _ rfl
          have x2 := hx4.cells 2 _ rfl
          have x3 := hx4.cells 3 _ rfl
          have x4 := hx4.cells 4 _ rfl
          have x5 := hx4.cells 5 _ rfl
          have x6 := hx4.cells 6 _ rfl
          have x7 := hx4.cells 7 _ rfl
          have x8 := hx4.cells 8 _ rfl
          have x9 := hx4.cells 9 _ rfl
          have f0 := hx4.free 0
          have f1 := hx4.free 1
          have f2 := hx4.free 2
          have f3 := hx4.free 3
          have f4 := hx4.free 4
          have f5 := hx4.free 5
          have f6 := hx4.free 6
          have f7 := hx4.free 7
          have f8 := hx4.free 8
          have f9 := hx4.free 9
          have y0 := hy4.cells 0 _ rfl
          have y1 := hy4.cells 1 _ rfl
          have y2 := hy4.cells 2 _ rfl
          have gl := hx4.lt
          have bl := hy4.lt
          have nb := (set10_box (.int .i64 1) (.int .i64 7) (.int .i64 (k + 1)) (.int .i64 1) (.int .i64 kn) (.string ⟨#[]⟩) (.int .i64 0) (.int .i64 0) (.string ⟨#[]⟩) (.int .i64 (nx + G2)) hx4).alloc (.cells #[.int .i64 1, .int .i64 7, .int .i64 (k + 1), .int .i64 1, .int .i64 kn, .string ⟨#[]⟩, .int .i64 0, .int .i64 0, .string ⟨#[]⟩, .int .i64 (nx + G2)] 56)
          have ny := ((only10 (w := u4) (g := g) (.int .i64 1) (.int .i64 7) (.int .i64 (k + 1)) (.int .i64 1) (.int .i64 kn) (.string ⟨#[]⟩) (.int .i64 0) (.int .i64 0) (.string ⟨#[]⟩) (.int .i64 (nx + G2))).box (b := B1) (fun e => hne e.symm) hy4).alloc (.cells #[.int .i64 1, .int .i64 7, .int .i64 (k + 1), .int .i64 1, .int .i64 kn, .string ⟨#[]⟩, .int .i64 0, .int .i64 0, .string ⟨#[]⟩, .int .i64 (nx + G2)] 56)
          have nw := (hw4.trans ((only10 (w := u4) (g := g) (.int .i64 1) (.int .i64 7) (.int .i64 (k + 1)) (.int .i64 1) (.int .i64 kn) (.string ⟨#[]⟩) (.int .i64 0) (.int .i64 0) (.string ⟨#[]⟩) (.int .i64 (nx + G2))).below hgB)).alloc (by rw [(only10 (w := u4) (g := g) (.int .i64 1) (.int .i64 7) (.int .i64 (k + 1)) (.int .i64 1) (.int .i64 kn) (.string ⟨#[]⟩) (.int .i64 0) (.int .i64 0) (.string ⟨#[]⟩) (.int .i64 (nx + G2))).size]; omega) (.cells #[.int .i64 1, .int .i64 7, .int .i64 (k + 1), .int .i64 1, .int .i64 kn, .string ⟨#[]⟩, .int .i64 0, .int .i64 0, .string ⟨#[]⟩, .int .i64 (nx + G2)] 56)
          have NB := Lib.hid nb
          have NY := Lib.hid ny
          have NW := Lib.hid nw
          clear nb ny nw
          go_wp2_with fail
          go_roundw
          case rel =>
            have nb := NB.out
            have ny := NY.out
            have nw := NW.out
            exact ⟨k + 1, nx, rfl, rfl, .inl ⟨k + 1, nx + G2, rfl, by omega, by omega, by omega, by omega, by rw [HG2.out], nb⟩, ny, nw⟩
          case measure =>
            have nb := NB.out
            rw [mCall_ask (nb.cells 0 _ rfl), mCall_ask HOLD.out]; omega
      · have x0 := hxr.cells 0 _ rfl
        have x1 := hxr.cells 1 _ rfl
        have x2 := hxr.cells 2 _ rfl
        have x3 := hxr.cells 3 _ rfl
        have x4 := hxr.cells 4 _ rfl
        have x5 := hxr.cells 5 _ rfl
        have x6 := hxr.cells 6 _ rfl
        have x7 := hxr.cells 7 _ rfl
        have x8 := hxr.cells 8 _ rfl
        have x9 := hxr.cells 9 _ rfl
        have y0 := hyr.cells 0 _ rfl
        have y1 := hyr.cells 1 _ rfl
        have y2 := hyr.cells 2 _ rfl
        go_wp2_with fail
        with_reducible refine (call_value_given 7 k 1 kn 0 0 0 ⟨#[]⟩ ⟨#[]⟩ _).mono ?_
        rintro e u1 ⟨rfl, hb⟩
        have hwe := hwr.trans (hb.mono (Nat.le_of_lt (Nat.lt_of_le_of_lt hgB hxr.lt)))
        clear x0 x1 x2 x3 x4 x5 x6 x7 x8 x9 y0 y1 y2
        go_wp2_with fail
        go_ret
        exact ⟨rfl, by rw [hB0]; exact hwe⟩

namespace callEndsLaw
open Go.ChangeShapes Go.WideShapes Go.ChangeAt Go.RowKit
open Go.ChangeMaps (open_string shut_string)
set_option linter.unusedVariables false

set_option maxRecDepth 100000 in
theorem lifted (os : Os) (started : os.Started) (H : Type) (enc : TypeId × Value → H) :
    ReturnsInHanded {} Try.checked os 12 .any (Rows.callEndsSpec.pre6 enc Try.prog Try.f12 Rows.callEndsRow.domain false) (Rows.callEndsSpec.post enc Try.prog Try.f12 false true false false) := by
  refine returnsInHanded_of_change_sized (C := Try.checked) ownNone started (by kernel_rfl) Try.func12
    (ChangeSpec.witness6 (enc := enc) (C := Try.checked) false ⟨#[], #[.int .i64 0, .int .i64 0, .int .i64 0, .int .i64 0, .agg #[.int .i64 0, .int .i64 0, .int .i64 0, .string ByteArray.empty]], []⟩ 8 (by kernel_rfl) (by kernel_rfl) (by kernel_rfl) (by kernel_rfl)) ?_
  intro W base args ds gs before hval0 hW hcnd hsz0 _
  have hval : ∀ (j : Nat) t v, Try.f12.params[j]? = some t → args[j]? = some v → Value.okWide Try.prog W .any base t v := hval0
  have hsz : (DataW.weightsEach Try.prog (Try.f12.params.toList ++ Rows.callEndsSpec.plain.varTypes Try.prog) (ds ++ gs)).all (· ≤ reachBytes) = true := hsz0
  have hW' := hW
  obtain ⟨p, q, hA0, hV, rfl, hfz, hnd⟩ := hW
  have hA : DataW.TrodAll enc Try.prog W 0 (fun _ => true) true Try.f12.params.toList args.toList ds p := hA0
  rw [Try.params12] at hA hval hsz
  obtain ⟨v0, vs0, d0, ds0, p0, q0, hargs, rfl, rfl, h0, r0⟩ := trodAll_cons hA
  obtain ⟨v1, vs1, d1, ds1, p1, q1, rfl, rfl, rfl, h1, r1⟩ := trodAll_cons r0
  obtain ⟨v2, vs2, d2, ds2, p2, q2, rfl, rfl, rfl, h2, r2⟩ := trodAll_cons r1
  obtain ⟨v3, vs3, d3, ds3, p3, q3, rfl, rfl, rfl, h3, r3⟩ := trodAll_cons r2
  obtain ⟨v4, vs4, d4, ds4, p4, q4, rfl, rfl, rfl, h4, r4⟩ := trodAll_cons r3
  obtain ⟨rfl, rfl, rfl⟩ := trodAll_nil r4
  obtain rfl : args = #[v0, v1, v2, v3, v4] := by cases args; simp_all
  obtain ⟨rfl, rfl⟩ := trodVars_none hV
  have k0 := h0
  have lt0 : ∀ x ∈ p0, x.block < W.heap.size := by obtain ⟨m, hm⟩ := k0; exact DataW.trod_lt m _ _ _ hm
  obtain ⟨a0, rfl, -, -, w0⟩ := open_int Try.underlying3 (hval 0 3 v0 rfl rfl) h0
  have k1 := h1
  have lt1 : ∀ x ∈ p1, x.block < W.heap.size := by obtain ⟨m, hm⟩ := k1; exact DataW.trod_lt m _ _ _ hm
  obtain ⟨a1, rfl, -, -, w1⟩ := open_int Try.underlying3 (hval 1 3 v1 rfl rfl) h1
  have k2 := h2
  have lt2 : ∀ x ∈ p2, x.block < W.heap.size := by obtain ⟨m, hm⟩ := k2; exact DataW.trod_lt m _ _ _ hm
  obtain ⟨a2, rfl, -, -, w2⟩ := open_int Try.underlying3 (hval 2 3 v2 rfl rfl) h2
  have k3 := h3
  have lt3 : ∀ x ∈ p3, x.block < W.heap.size := by obtain ⟨m, hm⟩ := k3; exact DataW.trod_lt m _ _ _ hm
  obtain ⟨a3, rfl, -, -, w3⟩ := open_int Try.underlying3 (hval 3 3 v3 rfl rfl) h3
  have k4 := h4
  have lt4 : ∀ x ∈ p4, x.block < W.heap.size := by obtain ⟨m, hm⟩ := k4; exact DataW.trod_lt m _ _ _ hm
  obtain ⟨a4, rfl, w4⟩ := open_raw (hval 4 50 v4 rfl rfl) h4
  clear hA0 hval0 hsz0
  refine (callEnds_walk a0 a1 a2 a3 a4 W (int_lo w0) (int_hi w0) (int_lo w1) (int_hi w1) (int_lo w2) (int_hi w2) (int_lo w3) (int_hi w3) w4).mono fun e W' ⟨he, bel⟩ => ?_
  subst he
  exact ⟨_, rfl, _, _, _, [], _, [], hW', trodAll_mk1 (shut_bool Try.underlying4 _), (trodAll_cons_mk (Below.trod laidOutTrue (by kernel_rfl) (of_decide_eq_true (by kernel_rfl)) k0 bel lt0) (trodAll_cons_mk (Below.trod laidOutTrue (by kernel_rfl) (of_decide_eq_true (by kernel_rfl)) k1 bel lt1) (trodAll_cons_mk (Below.trod laidOutTrue (by kernel_rfl) (of_decide_eq_true (by kernel_rfl)) k2 bel lt2) (trodAll_cons_mk (Below.trod laidOutTrue (by kernel_rfl) (of_decide_eq_true (by kernel_rfl)) k3 bel lt3) (trodAll_cons_mk (Below.trod laidOutTrue (by kernel_rfl) (of_decide_eq_true (by kernel_rfl)) k4 bel lt4) trodAll_mk0))))), rfl, bel.frame _, fun h => by cases h⟩

theorem over : Rows.callEndsRow.holds Try.pinned (OpenSpec.ofChange Rows.callEndsSpec) :=
  OpenClaim.holds_of_wide 12 Try.f12 rfl rfl rfl rfl rfl rfl rfl ⟨rfl, rfl, rfl, rfl, rfl⟩ rfl rfl rfl rfl rfl (by kernel_rfl) Try.func12 (by kernel_rfl)
    (of_decide_eq_true (by kernel_rfl)) (by unfold Func.isWrapper; first | (rw [if_pos (by decide +kernel)]; kernel_rfl) | (rw [if_neg (by decide +kernel)]; exact ⟨rfl, rfl⟩))
    (fun os started H enc _ => lifted os started H enc)

end callEndsLaw
theorem callEnds_holds : Rows.CallEndsSaid := callEndsLaw.over
#print axioms callEnds_holds
end Go.Proofs.Ytpckomnpeainlaa
