/-
  For all numbers and every raw thing CallStays returns true: what is known, or was given up, stays so. No condition.
-/
import Derived.Test.YtpckomnpeainlaaBox10
import Derived.Test.YtpckomnpeainlaaVal
namespace Go.Proofs.Ytpckomnpeainlaa
open Go.RowKit

/-- The call at the head of a round: k rounds have gone. -/
def StayAt (t kn : Int) (g : Nat) (k : Int) (wr : World) : Prop :=
  (∃ j nx : Int, j = k + 1 ∧ k < t ∧ 0 ≤ nx ∧ nx ≤ 1000 * j ∧ Box wr g [.int .i64 1, .int .i64 7, .int .i64 j, .int .i64 1, .int .i64 kn, .string ⟨#[]⟩, .int .i64 0, .int .i64 0, .string ⟨#[]⟩, .int .i64 nx]) ∨
  (k = t ∧ Box wr g [.int .i64 3, .int .i64 7, .int .i64 t, .int .i64 1, .int .i64 kn, .string ⟨#[]⟩, .int .i64 0, .int .i64 0, .string ⟨#[]⟩, .int .i64 0])

set_option maxRecDepth 100000 in
set_option maxHeartbeats 8000000 in
theorem callStays_walk (a b : Int) (r : RawD) (now : Int) (w : World) (h0 : -9223372036854775808 ≤ a) (h1 : a ≤ 9223372036854775807) (h2 : -9223372036854775808 ≤ b) (h3 : b ≤ 9223372036854775807)
    (hr : r.ok) (h6 : -9223372036854775808 ≤ now) (h7 : now ≤ 9223372036854775807) :
    Calls Try.prog 11 #[.int .i64 a, .int .i64 b, r.val, .int .i64 now] w fun e w' => e = .returned (.bool true) ∧ Below w.heap.size w w' := by
  have s0 := pickL_lo now 1073741824 (by omega)
  have s1 := pickL_hi now 1073741824 (by omega)
  have HR := Lib.hid hr
  clear hr
  have bx1 := Box.new w #[.int .i64 r.k, .int .i64 r.a, .int .i64 r.b, .string r.t] 50
  have BX1 := Lib.hid bx1
  clear bx1
  have bw := (Below.refl w.heap.size w).alloc (Nat.le_refl _) (.cells #[.int .i64 r.k, .int .i64 r.a, .int .i64 r.b, .string r.t] 50)
  have BW := Lib.hid bw
  clear bw
  go_enter Try.func11, Try.ntmps11
  go_wp2_with fail
  with_reducible refine (policy_any a b 9 _ h0 h1 h2 h3 (by omega) (by omega)).mono ?_
  rintro e w' ⟨t, p, q, g0, g1, g2, g3, g4, g5, rfl, hb⟩
  clear h0 h1 h2 h3
  have hx := (BX1.out.keep hb).alloc (.cells #[.int .i64 t, .int .i64 p, .int .i64 q] 45)
  have hy := Box.new w' #[.int .i64 t, .int .i64 p, .int .i64 q] 45
  have hw := bthen (bthen BW.out hb) ((Below.refl w'.heap.size w').alloc (Nat.le_refl _) (.cells #[.int .i64 t, .int .i64 p, .int .i64 q] 45))
  have hlt : w.heap.size < w'.heap.size := by have := (BX1.out.keep hb).lt; exact this
  clear BX1 BW hb
  go_wp2_with fail
  generalize w'.alloc (.cells #[.int .i64 t, .int .i64 p, .int .i64 q] 45) = W at *
  generalize w'.heap.size = B1 at *
  have hkn := val_known 1 r.k r.a r.t (by omega) (by omega)
  have hkb := val_known 2 r.k r.a r.t (by omega) (by omega)
  have HV := fun w => Lib.hid (val_int r w HR.out)
  have HV' := Lib.hid HV
  have HW := fun w => Lib.hid (val_any 2 r w (by omega) (by omega) HR.out)
  have HW' := Lib.hid HW
  clear HV HW HR
  generalize valN 1 r.k r.a = kn at *
  generalize valN 2 r.k r.a = bn at *
  generalize valS 2 r.t = bs at *
  have hkn' : KnownV 1 kn ⟨#[]⟩ := hkn
  have HKN := Lib.hid hkn'
  have HKB := Lib.hid hkb
  clear hkn hkn' hkb
  have OP : Hid (OkPol t p q) := ⟨g0, g1, g2, g3, by omega⟩
  generalize hB0 : w.heap.size = B0 at *
  refine region_go (by kernel_rfl) (by kernel_rfl)
    [(0, 29, .agg #[.int .i64 t, .int .i64 p, .int .i64 q]), (1, 30, r.val), (2, 31, .agg #[.int .i64 1, .int .i64 kn, .string ⟨#[]⟩]), (3, 32, .tuple #[.agg #[.int .i64 1, .int .i64 7, .int .i64 1, .int .i64 1, .int .i64 kn, .string ⟨#[]⟩, .int .i64 0, .int .i64 0, .string ⟨#[]⟩, .int .i64 (0 + p)], .int .i64 0]), (4, 28, .tuple #[.agg #[.int .i64 1, .int .i64 7, .int .i64 1, .int .i64 1, .int .i64 kn, .string ⟨#[]⟩, .int .i64 0, .int .i64 0, .string ⟨#[]⟩, .int .i64 (0 + p)], .int .i64 0]), (5, 33, .agg #[.int .i64 1, .int .i64 7, .int .i64 1, .int .i64 1, .int .i64 kn, .string ⟨#[]⟩, .int .i64 0, .int .i64 0, .string ⟨#[]⟩, .int .i64 (0 + p)]), (6, 34, .int .i64 0), (9, 11, .int .i64 0)]
    [10]
    [⟨7, 10, 8, [.int .i64 0, .int .i64 0, .int .i64 0, .int .i64 0, .int .i64 0, .string ⟨#[]⟩, .int .i64 0, .int .i64 0, .string ⟨#[]⟩, .int .i64 0], [.int .i64 1, .int .i64 7, .int .i64 1, .int .i64 1, .int .i64 kn, .string ⟨#[]⟩, .int .i64 0, .int .i64 0, .string ⟨#[]⟩, .int .i64 (0 + p)]⟩]
    [(6, .pointer (some ⟨B0, 0, none⟩)), (9, .pointer (some ⟨B1, 0, none⟩))]
    (by rfl) ?basew2 (by rfl) ?stepw2 ?finw2
  case basew2 =>
    intro x hx
    simp only [List.mem_cons, List.not_mem_nil, or_false] at hx
    rcases hx with rfl | rfl <;> rfl
  case stepw2 =>
    intro a0 i o D a' w' ho hn hd hT hE hS hV hB
    have hi : i < 10 := (Array.getElem?_eq_some_iff.1 ho).1
    have e6 : a'.eval (.tmp 6) = .pointer (some ⟨B0, 0, none⟩) := hE (6, _) (by simp)
    have e9 : a'.eval (.tmp 9) = .pointer (some ⟨B1, 0, none⟩) := hE (9, _) (by simp)
    have hBs := hB.size
    obtain rfl | rfl | rfl | rfl | rfl | rfl | rfl | rfl | rfl | rfl : i = 0 ∨ i = 1 ∨ i = 2 ∨ i = 3 ∨ i = 4 ∨ i = 5 ∨ i = 6 ∨ i = 7 ∨ i = 8 ∨ i = 9 := by omega
    all_goals
      have ho' := ho
      simp only [List.getElem?_toArray, List.getElem?_cons_zero, List.getElem?_cons_succ, Option.some.injEq] at ho'
      subst ho'
      simp [Region.binds] at hd
    · have bb := hy.keep hB
      have c0 := bb.cells 0 _ rfl
      have c1 := bb.cells 1 _ rfl
      have c2 := bb.cells 2 _ rfl
      refine step_value (d := 29) (v := .agg #[.int .i64 t, .int .i64 p, .int .i64 q]) ho rfl rfl hT (by simp) (by rfl) hS hV hB (Below.refl _ _) hBs ?_
      simp only [execOp, e9]
      go_simp
    · have bb := hx.keep hB
      have c0 := bb.cells 0 _ rfl
      have c1 := bb.cells 1 _ rfl
      have c2 := bb.cells 2 _ rfl
      have c3 := bb.cells 3 _ rfl
      refine step_value (d := 30) (v := r.val) ho rfl rfl hT (by simp) (by rfl) hS hV hB (Below.refl _ _) hBs ?_
      simp only [execOp, e6]
      go_simp
    · have f30 : a'.eval (.tmp 30) = r.val := hS.done (1, 30, _) (by simp) (by simp [hd])
      refine step_call (d := 31) (v := .agg #[.int .i64 1, .int .i64 kn, .string ⟨#[]⟩]) (f := 28) (args := #[.int .i64 1, r.val]) ho rfl rfl hT (by simp) (by rfl) hS hV hB hBs ?_ ((HV'.out w').out)
      simp only [execOp, resolve]
      simp [f30]
      go_simp
    · have f29 : a'.eval (.tmp 29) = .agg #[.int .i64 t, .int .i64 p, .int .i64 q] := hS.done (0, 29, _) (by simp) (by simp [hd])
      have f31 : a'.eval (.tmp 31) = .agg #[.int .i64 1, .int .i64 kn, .string ⟨#[]⟩] := hS.done (2, 31, _) (by simp) (by simp [hd])
      refine step_call (d := 32) (v := .tuple #[.agg #[.int .i64 1, .int .i64 7, .int .i64 1, .int .i64 1, .int .i64 kn, .string ⟨#[]⟩, .int .i64 0, .int .i64 0, .string ⟨#[]⟩, .int .i64 (0 + p)], .int .i64 0]) (f := 30) (args := #[.agg #[.int .i64 t, .int .i64 p, .int .i64 q], .int .i64 7, .agg #[.int .i64 1, .int .i64 kn, .string ⟨#[]⟩], .int .i64 0]) ho rfl rfl hT (by simp) (by rfl) hS hV hB hBs ?_ (call_start t p q 7 1 kn 0 ⟨#[]⟩ w' OP.out (by omega) (by omega) (by omega) (by omega) HKN.out)
      simp only [execOp, resolve]
      simp [f29, f31]
      go_simp
    · have f32 : a'.eval (.tmp 32) = .tuple #[.agg #[.int .i64 1, .int .i64 7, .int .i64 1, .int .i64 1, .int .i64 kn, .string ⟨#[]⟩, .int .i64 0, .int .i64 0, .string ⟨#[]⟩, .int .i64 (0 + p)], .int .i64 0] := hS.done (3, 32, _) (by simp) (by simp [hd])
      refine step_value (d := 28) (v := .tuple #[.agg #[.int .i64 1, .int .i64 7, .int .i64 1, .int .i64 1, .int .i64 kn, .string ⟨#[]⟩, .int .i64 0, .int .i64 0, .string ⟨#[]⟩, .int .i64 (0 + p)], .int .i64 0]) ho rfl rfl hT (by simp) (by rfl) hS hV hB (Below.refl _ _) hBs ?_
      simp only [execOp, f32]
      go_simp
    · have f28 : a'.eval (.tmp 28) = .tuple #[.agg #[.int .i64 1, .int .i64 7, .int .i64 1, .int .i64 1, .int .i64 kn, .string ⟨#[]⟩, .int .i64 0, .int .i64 0, .string ⟨#[]⟩, .int .i64 (0 + p)], .int .i64 0] := hS.done (4, 28, _) (by simp) (by simp [hd])
      refine step_value (d := 33) (v := .agg #[.int .i64 1, .int .i64 7, .int .i64 1, .int .i64 1, .int .i64 kn, .string ⟨#[]⟩, .int .i64 0, .int .i64 0, .string ⟨#[]⟩, .int .i64 (0 + p)]) ho rfl rfl hT (by simp) (by rfl) hS hV hB (Below.refl _ _) hBs ?_
      simp only [execOp, f28]
      go_simp
    · have f28 : a'.eval (.tmp 28) = .tuple #[.agg #[.int .i64 1, .int .i64 7, .int .i64 1, .int .i64 1, .int .i64 kn, .string ⟨#[]⟩, .int .i64 0, .int .i64 0, .string ⟨#[]⟩, .int .i64 (0 + p)], .int .i64 0] := hS.done (4, 28, _) (by simp) (by simp [hd])
      refine step_value (d := 34) (v := .int .i64 0) ho rfl rfl hT (by simp) (by rfl) hS hV hB (Below.refl _ _) hBs ?_
      simp only [execOp, f28]
      go_simp
    · refine step_alloc (x := ⟨7, 10, 8, [.int .i64 0, .int .i64 0, .int .i64 0, .int .i64 0, .int .i64 0, .string ⟨#[]⟩, .int .i64 0, .int .i64 0, .string ⟨#[]⟩, .int .i64 0], [.int .i64 1, .int .i64 7, .int .i64 1, .int .i64 1, .int .i64 kn, .string ⟨#[]⟩, .int .i64 0, .int .i64 0, .string ⟨#[]⟩, .int .i64 (0 + p)]⟩) (cs := #[.int .i64 0, .int .i64 0, .int .i64 0, .int .i64 0, .int .i64 0, .string ⟨#[]⟩, .int .i64 0, .int .i64 0, .string ⟨#[]⟩, .int .i64 0]) (t := 56) ho rfl rfl hT (by rfl) (by simp) (by simp) (by rfl) hn hS hV hB hBs rfl ?_
      simp only [execOp]
      go_simp
    · have f33 : a'.eval (.tmp 33) = .agg #[.int .i64 1, .int .i64 7, .int .i64 1, .int .i64 1, .int .i64 kn, .string ⟨#[]⟩, .int .i64 0, .int .i64 0, .string ⟨#[]⟩, .int .i64 (0 + p)] := hS.done (5, 33, _) (by simp) (by simp [hd])
      refine step_store (x := ⟨7, 10, 8, [.int .i64 0, .int .i64 0, .int .i64 0, .int .i64 0, .int .i64 0, .string ⟨#[]⟩, .int .i64 0, .int .i64 0, .string ⟨#[]⟩, .int .i64 0], [.int .i64 1, .int .i64 7, .int .i64 1, .int .i64 1, .int .i64 kn, .string ⟨#[]⟩, .int .i64 0, .int .i64 0, .string ⟨#[]⟩, .int .i64 (0 + p)]⟩) ho rfl rfl (by rfl) (by simp) (by rfl) hn (by simp [hd]) hS hV hB (fun g hg hbox => ?_)
      have c0 := hbox.cells 0 _ rfl
      have c1 := hbox.cells 1 _ rfl
      have c2 := hbox.cells 2 _ rfl
      have c3 := hbox.cells 3 _ rfl
      have c4 := hbox.cells 4 _ rfl
      have c5 := hbox.cells 5 _ rfl
      have c6 := hbox.cells 6 _ rfl
      have c7 := hbox.cells 7 _ rfl
      have c8 := hbox.cells 8 _ rfl
      have c9 := hbox.cells 9 _ rfl
      have k0 := hbox.free 0
      have k1 := hbox.free 1
      have k2 := hbox.free 2
      have k3 := hbox.free 3
      have k4 := hbox.free 4
      have k5 := hbox.free 5
      have k6 := hbox.free 6
      have k7 := hbox.free 7
      have k8 := hbox.free 8
      have k9 := hbox.free 9
      refine ⟨_, ?_, only10 _ _ _ _ _ _ _ _ _ _, set10_box _ _ _ _ _ _ _ _ _ _ hbox⟩
      simp only [execOp, f33, hg]
      go_simp
    · have f34 : a'.eval (.tmp 34) = .int .i64 0 := hS.done (6, 34, _) (by simp) (by simp [hd])
      refine step_value (d := 11) (v := .int .i64 0) ho rfl rfl hT (by simp) (by rfl) hS hV hB (Below.refl _ _) hBs ?_
      simp only [execOp, f34]
      go_simp
  intro a' w2 hS hV hB
  obtain ⟨gx, f10, l10, bx⟩ := hV.fin (x := ⟨7, 10, 8, [.int .i64 0, .int .i64 0, .int .i64 0, .int .i64 0, .int .i64 0, .string ⟨#[]⟩, .int .i64 0, .int .i64 0, .string ⟨#[]⟩, .int .i64 0], [.int .i64 1, .int .i64 7, .int .i64 1, .int .i64 1, .int .i64 kn, .string ⟨#[]⟩, .int .i64 0, .int .i64 0, .string ⟨#[]⟩, .int .i64 (0 + p)]⟩) (by simp) (by show (7 : Nat) < 10; omega) (by show (8 : Nat) < 10; omega)
  have bx : Box w2 gx [.int .i64 1, .int .i64 7, .int .i64 1, .int .i64 1, .int .i64 kn, .string ⟨#[]⟩, .int .i64 0, .int .i64 0, .string ⟨#[]⟩, .int .i64 (0 + p)] := bx
  have e := hS.all (by rfl) (by decide) (by simp) [(10, .pointer (some ⟨gx, 0, none⟩))] rfl (by
    intro x hx
    simp only [List.mem_cons, List.not_mem_nil, or_false] at hx
    subst hx
    exact f10)
  subst e
  clear hS hV f10
  simp only [puts, List.map_cons, List.map_nil, List.cons_append, List.nil_append, List.foldl_cons, List.foldl_nil]
  have hx2 := hx.keep hB
  have hy2 := hy.keep hB
  have hw2 := hw.trans (hB.mono (by have := hx.lt; omega))
  have gxB : B0 ≤ gx := by have := hx.lt; omega
  have gxne : gx ≠ B1 := by have := hy.lt; omega
  clear hB hx hy hw HV' l10
  go_wp2_with fail
  refine region_go (by kernel_rfl) (by kernel_rfl)
    [(0, 36, .agg #[.int .i64 1, .int .i64 7, .int .i64 1, .int .i64 1, .int .i64 kn, .string ⟨#[]⟩, .int .i64 0, .int .i64 0, .string ⟨#[]⟩, .int .i64 (0 + p)]), (1, 37, .agg #[.int .i64 t, .int .i64 p, .int .i64 q]), (2, 38, .pointer (some ⟨gx, 3, none⟩)), (3, 39, .agg #[.int .i64 1, .int .i64 kn, .string ⟨#[]⟩]), (4, 40, r.val), (5, 41, .agg #[.int .i64 2, .int .i64 bn, .string bs]), (6, 42, .tuple #[.agg #[.int .i64 2, .int .i64 7, .int .i64 1, .int .i64 1, .int .i64 kn, .string ⟨#[]⟩, .int .i64 2, .int .i64 bn, .string bs, .int .i64 0], .bool true, .int .i64 0]), (7, 35, .tuple #[.agg #[.int .i64 2, .int .i64 7, .int .i64 1, .int .i64 1, .int .i64 kn, .string ⟨#[]⟩, .int .i64 2, .int .i64 bn, .string bs, .int .i64 0], .bool true, .int .i64 0]), (8, 43, .agg #[.int .i64 2, .int .i64 7, .int .i64 1, .int .i64 1, .int .i64 kn, .string ⟨#[]⟩, .int .i64 2, .int .i64 bn, .string bs, .int .i64 0]), (9, 44, .bool true), (10, 45, .int .i64 0), (13, 13, .bool true), (14, 14, .int .i64 0)]
    [12]
    [⟨11, 12, 12, [.int .i64 0, .int .i64 0, .int .i64 0, .int .i64 0, .int .i64 0, .string ⟨#[]⟩, .int .i64 0, .int .i64 0, .string ⟨#[]⟩, .int .i64 0], [.int .i64 2, .int .i64 7, .int .i64 1, .int .i64 1, .int .i64 kn, .string ⟨#[]⟩, .int .i64 2, .int .i64 bn, .string bs, .int .i64 0]⟩]
    [(6, .pointer (some ⟨B0, 0, none⟩)), (9, .pointer (some ⟨B1, 0, none⟩)), (10, .pointer (some ⟨gx, 0, none⟩))]
    (by rfl) ?basew3 (by rfl) ?stepw3 ?finw3
  case basew3 =>
    intro x hx
    simp only [List.mem_cons, List.not_mem_nil, or_false] at hx
    rcases hx with rfl | rfl | rfl <;> rfl
  case stepw3 =>
    intro a0 i o D a' w' ho hn hd hT hE hS hV hB
    have hi : i < 15 := (Array.getElem?_eq_some_iff.1 ho).1
    have e6 : a'.eval (.tmp 6) = .pointer (some ⟨B0, 0, none⟩) := hE (6, _) (by simp)
    have e9 : a'.eval (.tmp 9) = .pointer (some ⟨B1, 0, none⟩) := hE (9, _) (by simp)
    have e10 : a'.eval (.tmp 10) = .pointer (some ⟨gx, 0, none⟩) := hE (10, _) (by simp)
    have hBs := hB.size
    obtain rfl | rfl | rfl | rfl | rfl | rfl | rfl | rfl | rfl | rfl | rfl | rfl | rfl | rfl | rfl : i = 0 ∨ i = 1 ∨ i = 2 ∨ i = 3 ∨ i = 4 ∨ i = 5 ∨ i = 6 ∨ i = 7 ∨ i = 8 ∨ i = 9 ∨ i = 10 ∨ i = 11 ∨ i = 12 ∨ i = 13 ∨ i = 14 := by omega
    all_goals
      have ho' := ho
      simp only [List.getElem?_toArray, List.getElem?_cons_zero, List.getElem?_cons_succ, Option.some.injEq] at ho'
      subst ho'
      simp [Region.binds] at hd
    · have bb := bx.keep hB
      have c0 := bb.cells 0 _ rfl
      have c1 := bb.cells 1 _ rfl
      have c2 := bb.cells 2 _ rfl
      have c3 := bb.cells 3 _ rfl
      have c4 := bb.cells 4 _ rfl
      have c5 := bb.cells 5 _ rfl
      have c6 := bb.cells 6 _ rfl
      have c7 := bb.cells 7 _ rfl
      have c8 := bb.cells 8 _ rfl
      have c9 := bb.cells 9 _ rfl
      refine step_value (d := 36) (v := .agg #[.int .i64 1, .int .i64 7, .int .i64 1, .int .i64 1, .int .i64 kn, .string ⟨#[]⟩, .int .i64 0, .int .i64 0, .string ⟨#[]⟩, .int .i64 (0 + p)]) ho rfl rfl hT (by simp) (by rfl) hS hV hB (Below.refl _ _) hBs ?_
      simp only [execOp, e10]
      go_simp
    · have bb := hy2.keep hB
      have c0 := bb.cells 0 _ rfl
      have c1 := bb.cells 1 _ rfl
      have c2 := bb.cells 2 _ rfl
      refine step_value (d := 37) (v := .agg #[.int .i64 t, .int .i64 p, .int .i64 q]) ho rfl rfl hT (by simp) (by rfl) hS hV hB (Below.refl _ _) hBs ?_
      simp only [execOp, e9]
      go_simp
    · refine step_value (d := 38) (v := .pointer (some ⟨gx, 3, none⟩)) ho rfl rfl hT (by simp) (by rfl) hS hV hB (Below.refl _ _) hBs ?_
      simp only [execOp, e10]
      go_simp
    · have bb := bx.keep hB
      have c0 := bb.cells 0 _ rfl
      have c1 := bb.cells 1 _ rfl
      have c2 := bb.cells 2 _ rfl
      have c3 := bb.cells 3 _ rfl
      have c4 := bb.cells 4 _ rfl
      have c5 := bb.cells 5 _ rfl
      have c6 := bb.cells 6 _ rfl
      have c7 := bb.cells 7 _ rfl
      have c8 := bb.cells 8 _ rfl
      have c9 := bb.cells 9 _ rfl
      have f38 : a'.eval (.tmp 38) = .pointer (some ⟨gx, 3, none⟩) := hS.done (2, 38, _) (by simp) (by simp [hd])
      refine step_value (d := 39) (v := .agg #[.int .i64 1, .int .i64 kn, .string ⟨#[]⟩]) ho rfl rfl hT (by simp) (by rfl) hS hV hB (Below.refl _ _) hBs ?_
      simp only [execOp, f38]
      go_simp
    · have bb := hx2.keep hB
      have c0 := bb.cells 0 _ rfl
      have c1 := bb.cells 1 _ rfl
      have c2 := bb.cells 2 _ rfl
      have c3 := bb.cells 3 _ rfl
      refine step_value (d := 40) (v := r.val) ho rfl rfl hT (by simp) (by rfl) hS hV hB (Below.refl _ _) hBs ?_
      simp only [execOp, e6]
      go_simp
    · have f40 : a'.eval (.tmp 40) = r.val := hS.done (4, 40, _) (by simp) (by simp [hd])
      refine step_call (d := 41) (v := .agg #[.int .i64 2, .int .i64 bn, .string bs]) (f := 28) (args := #[.int .i64 2, r.val]) ho rfl rfl hT (by simp) (by rfl) hS hV hB hBs ?_ ((HW'.out w').out)
      simp only [execOp, resolve]
      simp [f40]
      go_simp
    · have f36 : a'.eval (.tmp 36) = .agg #[.int .i64 1, .int .i64 7, .int .i64 1, .int .i64 1, .int .i64 kn, .string ⟨#[]⟩, .int .i64 0, .int .i64 0, .string ⟨#[]⟩, .int .i64 (0 + p)] := hS.done (0, 36, _) (by simp) (by simp [hd])
      have f37 : a'.eval (.tmp 37) = .agg #[.int .i64 t, .int .i64 p, .int .i64 q] := hS.done (1, 37, _) (by simp) (by simp [hd])
      have f39 : a'.eval (.tmp 39) = .agg #[.int .i64 1, .int .i64 kn, .string ⟨#[]⟩] := hS.done (3, 39, _) (by simp) (by simp [hd])
      have f41 : a'.eval (.tmp 41) = .agg #[.int .i64 2, .int .i64 bn, .string bs] := hS.done (5, 41, _) (by simp) (by simp [hd])
      refine step_call (d := 42) (v := .tuple #[.agg #[.int .i64 2, .int .i64 7, .int .i64 1, .int .i64 1, .int .i64 kn, .string ⟨#[]⟩, .int .i64 2, .int .i64 bn, .string bs, .int .i64 0], .bool true, .int .i64 0]) (f := 31) (args := #[.agg #[.int .i64 1, .int .i64 7, .int .i64 1, .int .i64 1, .int .i64 kn, .string ⟨#[]⟩, .int .i64 0, .int .i64 0, .string ⟨#[]⟩, .int .i64 (0 + p)], .agg #[.int .i64 t, .int .i64 p, .int .i64 q], .int .i64 7, .agg #[.int .i64 1, .int .i64 kn, .string ⟨#[]⟩], .agg #[.int .i64 2, .int .i64 bn, .string bs]]) ho rfl rfl hT (by simp) (by rfl) hS hV hB hBs ?_ (call_hear_takes t p q 7 1 1 kn (0 + p) 2 bn ⟨#[]⟩ bs w' OP.out (by omega) (by omega) (by omega) (by omega) (by omega) (by omega) HKN.out HKB.out)
      simp only [execOp, resolve]
      simp [f36, f37, f39, f41]
      go_simp
    · have f42 : a'.eval (.tmp 42) = .tuple #[.agg #[.int .i64 2, .int .i64 7, .int .i64 1, .int .i64 1, .int .i64 kn, .string ⟨#[]⟩, .int .i64 2, .int .i64 bn, .string bs, .int .i64 0], .bool true, .int .i64 0] := hS.done (6, 42, _) (by simp) (by simp [hd])
      refine step_value (d := 35) (v := .tuple #[.agg #[.int .i64 2, .int .i64 7, .int .i64 1, .int .i64 1, .int .i64 kn, .string ⟨#[]⟩, .int .i64 2, .int .i64 bn, .string bs, .int .i64 0], .bool true, .int .i64 0]) ho rfl rfl hT (by simp) (by rfl) hS hV hB (Below.refl _ _) hBs ?_
      simp only [execOp, f42]
      go_simp
    · have f35 : a'.eval (.tmp 35) = .tuple #[.agg #[.int .i64 2, .int .i64 7, .int .i64 1, .int .i64 1, .int .i64 kn, .string ⟨#[]⟩, .int .i64 2, .int .i64 bn, .string bs, .int .i64 0], .bool true, .int .i64 0] := hS.done (7, 35, _) (by simp) (by simp [hd])
      refine step_value (d := 43) (v := .agg #[.int .i64 2, .int .i64 7, .int .i64 1, .int .i64 1, .int .i64 kn, .string ⟨#[]⟩, .int .i64 2, .int .i64 bn, .string bs, .int .i64 0]) ho rfl rfl hT (by simp) (by rfl) hS hV hB (Below.refl _ _) hBs ?_
      simp only [execOp, f35]
      go_simp
    · have f35 : a'.eval (.tmp 35) = .tuple #[.agg #[.int .i64 2, .int .i64 7, .int .i64 1, .int .i64 1, .int .i64 kn, .string ⟨#[]⟩, .int .i64 2, .int .i64 bn, .string bs, .int .i64 0], .bool true, .int .i64 0] := hS.done (7, 35, _) (by simp) (by simp [hd])
      refine step_value (d := 44) (v := .bool true) ho rfl rfl hT (by simp) (by rfl) hS hV hB (Below.refl _ _) hBs ?_
      simp only [execOp, f35]
      go_simp
    · have f35 : a'.eval (.tmp 35) = .tuple #[.agg #[.int .i64 2, .int .i64 7, .int .i64 1, .int .i64 1, .int .i64 kn, .string ⟨#[]⟩, .int .i64 2, .int .i64 bn, .string bs, .int .i64 0], .bool true, .int .i64 0] := hS.done (7, 35, _) (by simp) (by simp [hd])
      refine step_value (d := 45) (v := .int .i64 0) ho rfl rfl hT (by simp) (by rfl) hS hV hB (Below.refl _ _) hBs ?_
      simp only [execOp, f35]
      go_simp
    · refine step_alloc (x := ⟨11, 12, 12, [.int .i64 0, .int .i64 0, .int .i64 0, .int .i64 0, .int .i64 0, .string ⟨#[]⟩, .int .i64 0, .int .i64 0, .string ⟨#[]⟩, .int .i64 0], [.int .i64 2, .int .i64 7, .int .i64 1, .int .i64 1, .int .i64 kn, .string ⟨#[]⟩, .int .i64 2, .int .i64 bn, .string bs, .int .i64 0]⟩) (cs := #[.int .i64 0, .int .i64 0, .int .i64 0, .int .i64 0, .int .i64 0, .string ⟨#[]⟩, .int .i64 0, .int .i64 0, .string ⟨#[]⟩, .int .i64 0]) (t := 56) ho rfl rfl hT (by rfl) (by simp) (by simp) (by rfl) hn hS hV hB hBs rfl ?_
      simp only [execOp]
      go_simp
    · have f43 : a'.eval (.tmp 43) = .agg #[.int .i64 2, .int .i64 7, .int .i64 1, .int .i64 1, .int .i64 kn, .string ⟨#[]⟩, .int .i64 2, .int .i64 bn, .string bs, .int .i64 0] := hS.done (8, 43, _) (by simp) (by simp [hd])
      refine step_store (x := ⟨11, 12, 12, [.int .i64 0, .int .i64 0, .int .i64 0, .int .i64 0, .int .i64 0, .string ⟨#[]⟩, .int .i64 0, .int .i64 0, .string ⟨#[]⟩, .int .i64 0], [.int .i64 2, .int .i64 7, .int .i64 1, .int .i64 1, .int .i64 kn, .string ⟨#[]⟩, .int .i64 2, .int .i64 bn, .string bs, .int .i64 0]⟩) ho rfl rfl (by rfl) (by simp) (by rfl) hn (by simp [hd]) hS hV hB (fun g hg hbox => ?_)
      have c0 := hbox.cells 0 _ rfl
      have c1 := hbox.cells 1 _ rfl
      have c2 := hbox.cells 2 _ rfl
      have c3 := hbox.cells 3 _ rfl
      have c4 := hbox.cells 4 _ rfl
      have c5 := hbox.cells 5 _ rfl
      have c6 := hbox.cells 6 _ rfl
      have c7 := hbox.cells 7 _ rfl
      have c8 := hbox.cells 8 _ rfl
      have c9 := hbox.cells 9 _ rfl
      have k0 := hbox.free 0
      have k1 := hbox.free 1
      have k2 := hbox.free 2
      have k3 := hbox.free 3
      have k4 := hbox.free 4
      have k5 := hbox.free 5
      have k6 := hbox.free 6
      have k7 := hbox.free 7
      have k8 := hbox.free 8
      have k9 := hbox.free 9
      refine ⟨_, ?_, only10 _ _ _ _ _ _ _ _ _ _, set10_box _ _ _ _ _ _ _ _ _ _ hbox⟩
      simp only [execOp, f43, hg]
      go_simp
    · have f44 : a'.eval (.tmp 44) = .bool true := hS.done (9, 44, _) (by simp) (by simp [hd])
      refine step_value (d := 13) (v := .bool true) ho rfl rfl hT (by simp) (by rfl) hS hV hB (Below.refl _ _) hBs ?_
      simp only [execOp, f44]
      go_simp
    · have f45 : a'.eval (.tmp 45) = .int .i64 0 := hS.done (10, 45, _) (by simp) (by simp [hd])
      refine step_value (d := 14) (v := .int .i64 0) ho rfl rfl hT (by simp) (by rfl) hS hV hB (Below.refl _ _) hBs ?_
      simp only [execOp, f45]
      go_simp
  intro a' w3 hS hV hB
  obtain ⟨gy, f12, l12, bby⟩ := hV.fin (x := ⟨11, 12, 12, [.int .i64 0, .int .i64 0, .int .i64 0, .int .i64 0, .int .i64 0, .string ⟨#[]⟩, .int .i64 0, .int .i64 0, .string ⟨#[]⟩, .int .i64 0], [.int .i64 2, .int .i64 7, .int .i64 1, .int .i64 1, .int .i64 kn, .string ⟨#[]⟩, .int .i64 2, .int .i64 bn, .string bs, .int .i64 0]⟩) (by simp) (by show (11 : Nat) < 15; omega) (by show (12 : Nat) < 15; omega)
  have bby : Box w3 gy [.int .i64 2, .int .i64 7, .int .i64 1, .int .i64 1, .int .i64 kn, .string ⟨#[]⟩, .int .i64 2, .int .i64 bn, .string bs, .int .i64 0] := bby
  have e := hS.all (by rfl) (by decide) (by simp) [(12, .pointer (some ⟨gy, 0, none⟩))] rfl (by
    intro x hx
    simp only [List.mem_cons, List.not_mem_nil, or_false] at hx
    subst hx
    exact f12)
  subst e
  clear hS hV f12
  simp only [puts, List.map_cons, List.map_nil, List.cons_append, List.nil_append, List.foldl_cons, List.foldl_nil]
  have hx3 := bx.keep hB
  have hy3 := hy2.keep hB
  have hr3 := hx2.keep hB
  have hw3 := hw2.trans (hB.mono (by have := hx2.lt; omega))
  have gyB : B0 ≤ gy := by have := hx2.lt; omega
  have gyne : gy ≠ B1 := by have := hy2.lt; omega
  clear hB hx2 hy2 hw2 l12 bx
  go_wp2_with fail
  with_reducible refine (picked_any now 1073741824 _ h6 h7 (by omega) (by omega)).mono ?_
  rintro e w' ⟨rfl, rfl⟩
  generalize pickL now 1073741824 = nw at *
  clear h6 h7
  have y0 := bby.cells 0 _ rfl
  have y1 := bby.cells 1 _ rfl
  have y2 := bby.cells 2 _ rfl
  have y3 := bby.cells 3 _ rfl
  have y4 := bby.cells 4 _ rfl
  have y5 := bby.cells 5 _ rfl
  have y6 := bby.cells 6 _ rfl
  have y7 := bby.cells 7 _ rfl
  have y8 := bby.cells 8 _ rfl
  have y9 := bby.cells 9 _ rfl
  have c0 := hy3.cells 0 _ rfl
  have c1 := hy3.cells 1 _ rfl
  have c2 := hy3.cells 2 _ rfl
  go_wp2_with fail
  with_reducible refine (call_wake_stays t p q 2 7 1 1 kn 2 bn 0 nw ⟨#[]⟩ bs _ s0 (by omega) (fun w => call_check_known t p q 7 1 1 kn 2 bn ⟨#[]⟩ bs w OP.out (by omega) (by omega) (by omega) (by omega) HKN.out HKB.out) (.inl (by decide))).mono ?_
  rintro e w' ⟨rfl, hb⟩
  clear y0 y1 y2 y3 y4 y5 y6 y7 y8 y9 c0 c1 c2
  have hx4 := hx3.keep hb
  have hy4 := hy3.keep hb
  have hz4 := bby.keep hb
  have hr4 := hr3.keep hb
  have hw4 := hw3.trans (hb.mono (by have := hr3.lt; omega))
  clear hb hx3 hy3 hr3 hw3 bby
  have x0 := hx4.cells 0 _ rfl
  have x1 := hx4.cells 1 _ rfl
  have x2 := hx4.cells 2 _ rfl
  have x3 := hx4.cells 3 _ rfl
  have x4 := hx4.cells 4 _ rfl
  have x5 := hx4.cells 5 _ rfl
  have x6 := hx4.cells 6 _ rfl
  have x7 := hx4.cells 7 _ rfl
  have x8 := hx4.cells 8 _ rfl
  have x9 := hx4.cells 9 _ rfl
  have c0 := hy4.cells 0 _ rfl
  have c1 := hy4.cells 1 _ rfl
  have c2 := hy4.cells 2 _ rfl
  have gl := hx4.lt
  have bl := hy4.lt
  go_wp2_with fail
  clear x0 x1 x2 x3 x4 x5 x6 x7 x8 x9 c0 c1 c2
  have zb := (hz4.alloc (.cells #[.int .i64 2, .int .i64 7, .int .i64 1, .int .i64 1, .int .i64 kn, .string ⟨#[]⟩, .int .i64 2, .int .i64 bn, .string bs, .int .i64 0] 56)).alloc (.cells #[.int .i64 1, .int .i64 7, .int .i64 1, .int .i64 1, .int .i64 kn, .string ⟨#[]⟩, .int .i64 0, .int .i64 0, .string ⟨#[]⟩, .int .i64 p] 56)
  have xb := (hx4.alloc (.cells #[.int .i64 2, .int .i64 7, .int .i64 1, .int .i64 1, .int .i64 kn, .string ⟨#[]⟩, .int .i64 2, .int .i64 bn, .string bs, .int .i64 0] 56)).alloc (.cells #[.int .i64 1, .int .i64 7, .int .i64 1, .int .i64 1, .int .i64 kn, .string ⟨#[]⟩, .int .i64 0, .int .i64 0, .string ⟨#[]⟩, .int .i64 p] 56)
  have yb := (hy4.alloc (.cells #[.int .i64 2, .int .i64 7, .int .i64 1, .int .i64 1, .int .i64 kn, .string ⟨#[]⟩, .int .i64 2, .int .i64 bn, .string bs, .int .i64 0] 56)).alloc (.cells #[.int .i64 1, .int .i64 7, .int .i64 1, .int .i64 1, .int .i64 kn, .string ⟨#[]⟩, .int .i64 0, .int .i64 0, .string ⟨#[]⟩, .int .i64 p] 56)
  have rb := (hr4.alloc (.cells #[.int .i64 2, .int .i64 7, .int .i64 1, .int .i64 1, .int .i64 kn, .string ⟨#[]⟩, .int .i64 2, .int .i64 bn, .string bs, .int .i64 0] 56)).alloc (.cells #[.int .i64 1, .int .i64 7, .int .i64 1, .int .i64 1, .int .i64 kn, .string ⟨#[]⟩, .int .i64 0, .int .i64 0, .string ⟨#[]⟩, .int .i64 p] 56)
  have vb := (Box.new w' #[.int .i64 2, .int .i64 7, .int .i64 1, .int .i64 1, .int .i64 kn, .string ⟨#[]⟩, .int .i64 2, .int .i64 bn, .string bs, .int .i64 0] 56).alloc (.cells #[.int .i64 1, .int .i64 7, .int .i64 1, .int .i64 1, .int .i64 kn, .string ⟨#[]⟩, .int .i64 0, .int .i64 0, .string ⟨#[]⟩, .int .i64 p] 56)
  have ub := Box.new (w'.alloc (.cells #[.int .i64 2, .int .i64 7, .int .i64 1, .int .i64 1, .int .i64 kn, .string ⟨#[]⟩, .int .i64 2, .int .i64 bn, .string bs, .int .i64 0] 56)) #[.int .i64 1, .int .i64 7, .int .i64 1, .int .i64 1, .int .i64 kn, .string ⟨#[]⟩, .int .i64 0, .int .i64 0, .string ⟨#[]⟩, .int .i64 p] 56
  have wb := (hw4.alloc (by have := hr4.lt; omega) (.cells #[.int .i64 2, .int .i64 7, .int .i64 1, .int .i64 1, .int .i64 kn, .string ⟨#[]⟩, .int .i64 2, .int .i64 bn, .string bs, .int .i64 0] 56)).alloc (by have := hr4.lt; simp; omega) (.cells #[.int .i64 1, .int .i64 7, .int .i64 1, .int .i64 1, .int .i64 kn, .string ⟨#[]⟩, .int .i64 0, .int .i64 0, .string ⟨#[]⟩, .int .i64 p] 56)
  have un1 : (w'.alloc (.cells #[.int .i64 2, .int .i64 7, .int .i64 1, .int .i64 1, .int .i64 kn, .string ⟨#[]⟩, .int .i64 2, .int .i64 bn, .string bs, .int .i64 0] 56)).heap.size = w'.heap.size + 1 := by simp
  rw [un1] at ub
  have zl := hz4.lt
  have rl := hr4.lt
  clear hz4 hx4 hy4 hr4 hw4 un1
  rw [Int.zero_add] at xb
  generalize (w'.alloc (.cells #[.int .i64 2, .int .i64 7, .int .i64 1, .int .i64 1, .int .i64 kn, .string ⟨#[]⟩, .int .i64 2, .int .i64 bn, .string bs, .int .i64 0] 56)).alloc (.cells #[.int .i64 1, .int .i64 7, .int .i64 1, .int .i64 1, .int .i64 kn, .string ⟨#[]⟩, .int .i64 0, .int .i64 0, .string ⟨#[]⟩, .int .i64 p] 56) = V at *
  generalize w'.heap.size = gv at *
  go_loopw [59] (fun n wr => ∃ k : Int, n = .int .i64 k ∧ 0 ≤ k ∧ k ≤ t ∧ StayAt t kn (gv + 1) k wr ∧ Box wr gx [.int .i64 1, .int .i64 7, .int .i64 1, .int .i64 1, .int .i64 kn, .string ⟨#[]⟩, .int .i64 0, .int .i64 0, .string ⟨#[]⟩, .int .i64 p] ∧ Box wr gy [.int .i64 2, .int .i64 7, .int .i64 1, .int .i64 1, .int .i64 kn, .string ⟨#[]⟩, .int .i64 2, .int .i64 bn, .string bs, .int .i64 0] ∧ Box wr gv [.int .i64 2, .int .i64 7, .int .i64 1, .int .i64 1, .int .i64 kn, .string ⟨#[]⟩, .int .i64 2, .int .i64 bn, .string bs, .int .i64 0] ∧ Box wr B1 [.int .i64 t, .int .i64 p, .int .i64 q] ∧ Box wr B0 [.int .i64 r.k, .int .i64 r.a, .int .i64 r.b, .string r.t] ∧ Below B0 w wr) (fun n _ => (t - intOf n).toNat)
  case atStart => exact ⟨0, rfl, by omega, by omega, .inl ⟨1, p, rfl, by omega, by omega, by omega, ub⟩, xb, zb, vb, yb, rb, wb⟩
  case round =>
    clear vb ub xb yb rb wb zb
    obtain ⟨k, rfl, k0, k1, hst, hgx, hgy, hgv, hpol, hraw, hwr⟩ := hrel
    rcases hst with ⟨j, nx, rfl, k2, n0, n1, hxr⟩ | ⟨rfl, hxr⟩
    · by_cases hjt : k + 1 = t
      · subst hjt
        have x0 := hxr.cells 0 _ rfl
        have x1 := hxr.cells 1 _ rfl
        have x2 := hxr.cells 2 _ rfl
        have x3 := hxr.cells 3 _ rfl
        have x4 := hxr.cells 4 _ rfl
        have x5 := hxr.cells 5 _ rfl
        have x6 := hxr.cells 6 _ rfl
        have x7 := hxr.cells 7 _ rfl
        have x8 := hxr.cells 8 _ rfl
        have x9 := hxr.cells 9 _ rfl
        have y0 := hpol.cells 0 _ rfl
        have y1 := hpol.cells 1 _ rfl
        have y2 := hpol.cells 2 _ rfl
        go_wp2_with fail
        with_reducible refine (call_wake_gives (k + 1) p q 7 1 kn nx nx ⟨#[]⟩ _ OP.out (by omega) (by omega) n0 (by omega) n0 (by omega) HKN.out).mono ?_
        rintro e w' ⟨rfl, hb⟩
        clear x0 x1 x2 x3 x4 x5 x6 x7 x8 x9 y0 y1 y2
        have h1 := hxr.keep hb
        have oo := only10 (w := w') (g := gv + 1) (.int .i64 3) (.int .i64 7) (.int .i64 (k + 1)) (.int .i64 1) (.int .i64 kn) (.string ⟨#[]⟩) (.int .i64 0) (.int .i64 0) (.string ⟨#[]⟩) (.int .i64 0)
        have nb := set10_box (.int .i64 3) (.int .i64 7) (.int .i64 (k + 1)) (.int .i64 1) (.int .i64 kn) (.string ⟨#[]⟩) (.int .i64 0) (.int .i64 0) (.string ⟨#[]⟩) (.int .i64 0) h1
        have nx1 := oo.box (b := gx) (by omega) (hgx.keep hb)
        have ny1 := oo.box (b := gy) (by omega) (hgy.keep hb)
        have nv1 := oo.box (b := gv) (by omega) (hgv.keep hb)
        have np1 := oo.box (b := B1) (by omega) (hpol.keep hb)
        have nr1 := oo.box (b := B0) (by omega) (hraw.keep hb)
        have nw1 := (hwr.trans (hb.mono (by have := hraw.lt; omega))).trans (oo.below (by omega))
        have NALL := Lib.hid (And.intro nb (And.intro nx1 (And.intro ny1 (And.intro nv1 (And.intro np1 (And.intro nr1 nw1))))))
        clear nb nx1 ny1 nv1 np1 nr1 nw1 oo hb hgx hgy hgv hpol hraw hwr hxr
        have x0 := h1.cells 0 _ rfl
        have x1 := h1.cells 1 _ rfl
        have x2 := h1.cells 2 _ rfl
        have x3 := h1.cells 3 _ rfl
        have x4 := h1.cells 4 _ rfl
        have x5 := h1.cells 5 _ rfl
        have x6 := h1.cells 6 _ rfl
        have x7 := h1.cells 7 _ rfl
        have x8 := h1.cells 8 _ rfl
        have x9 := h1.cells 9 _ rfl
        have f0 := h1.free 0
        have f1 := h1.free 1
        have f2 := h1.free 2
        have f3 := h1.free 3
        have f4 := h1.free 4
        have f5 := h1.free 5
        have f6 := h1.free 6
        have f7 := h1.free 7
        have f8 := h1.free 8
        have f9 := h1.free 9
        go_wp2_with fail
        go_roundw
        case rel =>
          obtain ⟨nb, nx1, ny1, nv1, np1, nr1, nw1⟩ := NALL.out
          exact ⟨k + 1, rfl, by omega, by omega, .inr ⟨rfl, nb⟩, nx1, ny1, nv1, np1, nr1, nw1⟩
        case measure => simp [intOf]; omega
      · obtain ⟨G, hG⟩ : ∃ G, gapV p q (k + 1 + 1) = G := ⟨_, rfl⟩
        have G0 := gapV_lo (n := k + 1 + 1) g2 g3 (by omega) (by omega) (by omega)
        have G1 := gapV_hi (b := p) (c := q) (n := k + 1 + 1)
        rw [hG] at G0 G1
        have HG := Lib.hid hG
        clear hG
        have x0 := hxr.cells 0 _ rfl
        have x1 := hxr.cells 1 _ rfl
        have x2 := hxr.cells 2 _ rfl
        have x3 := hxr.cells 3 _ rfl
        have x4 := hxr.cells 4 _ rfl
        have x5 := hxr.cells 5 _ rfl
        have x6 := hxr.cells 6 _ rfl
        have x7 := hxr.cells 7 _ rfl
        have x8 := hxr.cells 8 _ rfl
        have x9 := hxr.cells 9 _ rfl
        have y0 := hpol.cells 0 _ rfl
        have y1 := hpol.cells 1 _ rfl
        have y2 := hpol.cells 2 _ rfl
        go_wp2_with fail
        with_reducible refine (call_wake_again t p q 7 (k + 1) 1 kn nx nx G ⟨#[]⟩ _ OP.out (by omega) (by omega) n0 (by omega) (by omega) (by omega) n0 (by omega) HKN.out HG.out).mono ?_
        rintro e w' ⟨rfl, hb⟩
        clear x0 x1 x2 x3 x4 x5 x6 x7 x8 x9 y0 y1 y2
        have h1 := hxr.keep hb
        have oo := only10 (w := w') (g := gv + 1) (.int .i64 1) (.int .i64 7) (.int .i64 (k + 1 + 1)) (.int .i64 1) (.int .i64 kn) (.string ⟨#[]⟩) (.int .i64 0) (.int .i64 0) (.string ⟨#[]⟩) (.int .i64 (nx + G))
        have nb := set10_box (.int .i64 1) (.int .i64 7) (.int .i64 (k + 1 + 1)) (.int .i64 1) (.int .i64 kn) (.string ⟨#[]⟩) (.int .i64 0) (.int .i64 0) (.string ⟨#[]⟩) (.int .i64 (nx + G)) h1
        have nx1 := oo.box (b := gx) (by omega) (hgx.keep hb)
        have ny1 := oo.box (b := gy) (by omega) (hgy.keep hb)
        have nv1 := oo.box (b := gv) (by omega) (hgv.keep hb)
        have np1 := oo.box (b := B1) (by omega) (hpol.keep hb)
        have nr1 := oo.box (b := B0) (by omega) (hraw.keep hb)
        have nw1 := (hwr.trans (hb.mono (by have := hraw.lt; omega))).trans (oo.below (by omega))
        have NALL := Lib.hid (And.intro nb (And.intro nx1 (And.intro ny1 (And.intro nv1 (And.intro np1 (And.intro nr1 nw1))))))
        clear nb nx1 ny1 nv1 np1 nr1 nw1 oo hb hgx hgy hgv hpol hraw hwr hxr
        have x0 := h1.cells 0 _ rfl
        have x1 := h1.cells 1 _ rfl
        have x2 := h1.cells 2 _ rfl
        have x3 := h1.cells 3 _ rfl
        have x4 := h1.cells 4 _ rfl
        have x5 := h1.cells 5 _ rfl
        have x6 := h1.cells 6 _ rfl
        have x7 := h1.cells 7 _ rfl
        have x8 := h1.cells 8 _ rfl
        have x9 := h1.cells 9 _ rfl
        have f0 := h1.free 0
        have f1 := h1.free 1
        have f2 := h1.free 2
        have f3 := h1.free 3
        have f4 := h1.free 4
        have f5 := h1.free 5
        have f6 := h1.free 6
        have f7 := h1.free 7
        have f8 := h1.free 8
        have f9 := h1.free 9
        go_wp2_with fail
        go_roundw
        case rel =>
          obtain ⟨nb, nx1, ny1, nv1, np1, nr1, nw1⟩ := NALL.out
          exact ⟨k + 1, rfl, by omega, by omega, .inl ⟨k + 1 + 1, nx + G, rfl, by omega, by omega, by omega, nb⟩, nx1, ny1, nv1, np1, nr1, nw1⟩
        case measure => simp [intOf]; omega
    · have x0 := hxr.cells 0 _ rfl
      have x1 := hxr.cells 1 _ rfl
      have x2 := hxr.cells 2 _ rfl
      have x3 := hxr.cells 3 _ rfl
      have x4 := hxr.cells 4 _ rfl
      have x5 := hxr.cells 5 _ rfl
      have x6 := hxr.cells 6 _ rfl
      have x7 := hxr.cells 7 _ rfl
      have x8 := hxr.cells 8 _ rfl
      have x9 := hxr.cells 9 _ rfl
      have y0 := hpol.cells 0 _ rfl
      have y1 := hpol.cells 1 _ rfl
      have y2 := hpol.cells 2 _ rfl
      go_wp2_with fail
      with_reducible refine (call_wake_stays k p q 3 7 k 1 kn 0 0 0 nw ⟨#[]⟩ ⟨#[]⟩ _ s0 (by omega) (fun w => call_check_given k p q 7 k 1 kn ⟨#[]⟩ w OP.out (by omega) (by omega) rfl HKN.out) (.inl (by decide))).mono ?_
      rintro e w' ⟨rfl, hb⟩
      clear x0 x1 x2 x3 x4 x5 x6 x7 x8 x9 y0 y1 y2
      have h1 := hxr.keep hb
      have hx1 := hgx.keep hb
      have hy1 := hgy.keep hb
      have hv1 := hgv.keep hb
      have hp1 := hpol.keep hb
      have hr1 := hraw.keep hb
      have hw1 := hwr.trans (hb.mono (by have := hraw.lt; omega))
      clear hb hgx hgy hgv hpol hraw hwr hxr
      go_wp2_with fail
      have h2 := h1.alloc (.cells #[.int .i64 3, .int .i64 7, .int .i64 k, .int .i64 1, .int .i64 kn, .string ⟨#[]⟩, .int .i64 0, .int .i64 0, .string ⟨#[]⟩, .int .i64 0] 56)
      have hx2 := hx1.alloc (.cells #[.int .i64 3, .int .i64 7, .int .i64 k, .int .i64 1, .int .i64 kn, .string ⟨#[]⟩, .int .i64 0, .int .i64 0, .string ⟨#[]⟩, .int .i64 0] 56)
      have hy2 := hy1.alloc (.cells #[.int .i64 3, .int .i64 7, .int .i64 k, .int .i64 1, .int .i64 kn, .string ⟨#[]⟩, .int .i64 0, .int .i64 0, .string ⟨#[]⟩, .int .i64 0] 56)
      have hv2 := hv1.alloc (.cells #[.int .i64 3, .int .i64 7, .int .i64 k, .int .i64 1, .int .i64 kn, .string ⟨#[]⟩, .int .i64 0, .int .i64 0, .string ⟨#[]⟩, .int .i64 0] 56)
      have hp2 := hp1.alloc (.cells #[.int .i64 3, .int .i64 7, .int .i64 k, .int .i64 1, .int .i64 kn, .string ⟨#[]⟩, .int .i64 0, .int .i64 0, .string ⟨#[]⟩, .int .i64 0] 56)
      have hr2 := hr1.alloc (.cells #[.int .i64 3, .int .i64 7, .int .i64 k, .int .i64 1, .int .i64 kn, .string ⟨#[]⟩, .int .i64 0, .int .i64 0, .string ⟨#[]⟩, .int .i64 0] 56)
      have hg2 := Box.new w' #[.int .i64 3, .int .i64 7, .int .i64 k, .int .i64 1, .int .i64 kn, .string ⟨#[]⟩, .int .i64 0, .int .i64 0, .string ⟨#[]⟩, .int .i64 0] 56
      have hw2 := hw1.alloc (by have := hr1.lt; omega) (.cells #[.int .i64 3, .int .i64 7, .int .i64 k, .int .i64 1, .int .i64 kn, .string ⟨#[]⟩, .int .i64 0, .int .i64 0, .string ⟨#[]⟩, .int .i64 0] 56)
      clear h1 hx1 hy1 hv1 hp1 hr1 hw1
      generalize w'.alloc (.cells #[.int .i64 3, .int .i64 7, .int .i64 k, .int .i64 1, .int .i64 kn, .string ⟨#[]⟩, .int .i64 0, .int .i64 0, .string ⟨#[]⟩, .int .i64 0] 56) = V2 at *
      generalize w'.heap.size = gw at *
      refine region_go (by kernel_rfl) (by kernel_rfl)
        [(0, 81, .agg #[.int .i64 3, .int .i64 7, .int .i64 k, .int .i64 1, .int .i64 kn, .string ⟨#[]⟩, .int .i64 0, .int .i64 0, .string ⟨#[]⟩, .int .i64 0]), (1, 82, .agg #[.int .i64 k, .int .i64 p, .int .i64 q]), (2, 83, .pointer (some ⟨gx, 3, none⟩)), (3, 84, .agg #[.int .i64 1, .int .i64 kn, .string ⟨#[]⟩]), (4, 85, r.val), (5, 86, .agg #[.int .i64 2, .int .i64 bn, .string bs]), (6, 87, .tuple #[.agg #[.int .i64 3, .int .i64 7, .int .i64 k, .int .i64 1, .int .i64 kn, .string ⟨#[]⟩, .int .i64 0, .int .i64 0, .string ⟨#[]⟩, .int .i64 0], .bool false, .int .i64 0]), (7, 80, .tuple #[.agg #[.int .i64 3, .int .i64 7, .int .i64 k, .int .i64 1, .int .i64 kn, .string ⟨#[]⟩, .int .i64 0, .int .i64 0, .string ⟨#[]⟩, .int .i64 0], .bool false, .int .i64 0]), (8, 88, .agg #[.int .i64 3, .int .i64 7, .int .i64 k, .int .i64 1, .int .i64 kn, .string ⟨#[]⟩, .int .i64 0, .int .i64 0, .string ⟨#[]⟩, .int .i64 0]), (9, 89, .bool false), (10, 90, .int .i64 0), (13, 23, .bool false), (14, 24, .int .i64 0)]
        [22]
        [⟨11, 22, 12, [.int .i64 0, .int .i64 0, .int .i64 0, .int .i64 0, .int .i64 0, .string ⟨#[]⟩, .int .i64 0, .int .i64 0, .string ⟨#[]⟩, .int .i64 0], [.int .i64 3, .int .i64 7, .int .i64 k, .int .i64 1, .int .i64 kn, .string ⟨#[]⟩, .int .i64 0, .int .i64 0, .string ⟨#[]⟩, .int .i64 0]⟩]
        [(6, .pointer (some ⟨B0, 0, none⟩)), (9, .pointer (some ⟨B1, 0, none⟩)), (10, .pointer (some ⟨gx, 0, none⟩)), (18, .pointer (some ⟨gv + 1, 0, none⟩))]
        (by rfl) ?basew5 (by rfl) ?stepw5 ?finw5
      case basew5 =>
        intro x hx
        simp only [List.mem_cons, List.not_mem_nil, or_false] at hx
        rcases hx with rfl | rfl | rfl | rfl <;> rfl
      case stepw5 =>
        intro a0 i o D a' w' ho hn hd hT hE hS hV hB
        have hi : i < 15 := (Array.getElem?_eq_some_iff.1 ho).1
        have e6 : a'.eval (.tmp 6) = .pointer (some ⟨B0, 0, none⟩) := hE (6, _) (by simp)
        have e9 : a'.eval (.tmp 9) = .pointer (some ⟨B1, 0, none⟩) := hE (9, _) (by simp)
        have e10 : a'.eval (.tmp 10) = .pointer (some ⟨gx, 0, none⟩) := hE (10, _) (by simp)
        have e18 : a'.eval (.tmp 18) = .pointer (some ⟨gv + 1, 0, none⟩) := hE (18, _) (by simp)
        have hBs := hB.size
        obtain rfl | rfl | rfl | rfl | rfl | rfl | rfl | rfl | rfl | rfl | rfl | rfl | rfl | rfl | rfl : i = 0 ∨ i = 1 ∨ i = 2 ∨ i = 3 ∨ i = 4 ∨ i = 5 ∨ i = 6 ∨ i = 7 ∨ i = 8 ∨ i = 9 ∨ i = 10 ∨ i = 11 ∨ i = 12 ∨ i = 13 ∨ i = 14 := by omega
        all_goals
          have ho' := ho
          simp only [List.getElem?_toArray, List.getElem?_cons_zero, List.getElem?_cons_succ, Option.some.injEq] at ho'
          subst ho'
          simp [Region.binds] at hd
        · have bb := h2.keep hB
          have c0 := bb.cells 0 _ rfl
          have c1 := bb.cells 1 _ rfl
          have c2 := bb.cells 2 _ rfl
          have c3 := bb.cells 3 _ rfl
          have c4 := bb.cells 4 _ rfl
          have c5 := bb.cells 5 _ rfl
          have c6 := bb.cells 6 _ rfl
          have c7 := bb.cells 7 _ rfl
          have c8 := bb.cells 8 _ rfl
          have c9 := bb.cells 9 _ rfl
          refine step_value (d := 81) (v := .agg #[.int .i64 3, .int .i64 7, .int .i64 k, .int .i64 1, .int .i64 kn, .string ⟨#[]⟩, .int .i64 0, .int .i64 0, .string ⟨#[]⟩, .int .i64 0]) ho rfl rfl hT (by simp) (by rfl) hS hV hB (Below.refl _ _) hBs ?_
          simp only [execOp, e18]
          go_simp
        · have bb := hp2.keep hB
          have c0 := bb.cells 0 _ rfl
          have c1 := bb.cells 1 _ rfl
          have c2 := bb.cells 2 _ rfl
          refine step_value (d := 82) (v := .agg #[.int .i64 k, .int .i64 p, .int .i64 q]) ho rfl rfl hT (by simp) (by rfl) hS hV hB (Below.refl _ _) hBs ?_
          simp only [execOp, e9]
          go_simp
        · refine step_value (d := 83) (v := .pointer (some ⟨gx, 3, none⟩)) ho rfl rfl hT (by simp) (by rfl) hS hV hB (Below.refl _ _) hBs ?_
          simp only [execOp, e10]
          go_simp
        · have bb := hx2.keep hB
          have c0 := bb.cells 0 _ rfl
          have c1 := bb.cells 1 _ rfl
          have c2 := bb.cells 2 _ rfl
          have c3 := bb.cells 3 _ rfl
          have c4 := bb.cells 4 _ rfl
          have c5 := bb.cells 5 _ rfl
          have c6 := bb.cells 6 _ rfl
          have c7 := bb.cells 7 _ rfl
          have c8 := bb.cells 8 _ rfl
          have c9 := bb.cells 9 _ rfl
          have f83 : a'.eval (.tmp 83) = .pointer (some ⟨gx, 3, none⟩) := hS.done (2, 83, _) (by simp) (by simp [hd])
          refine step_value (d := 84) (v := .agg #[.int .i64 1, .int .i64 kn, .string ⟨#[]⟩]) ho rfl rfl hT (by simp) (by rfl) hS hV hB (Below.refl _ _) hBs ?_
          simp only [execOp, f83]
          go_simp
        · have bb := hr2.keep hB
          have c0 := bb.cells 0 _ rfl
          have c1 := bb.cells 1 _ rfl
          have c2 := bb.cells 2 _ rfl
          have c3 := bb.cells 3 _ rfl
          refine step_value (d := 85) (v := r.val) ho rfl rfl hT (by simp) (by rfl) hS hV hB (Below.refl _ _) hBs ?_
          simp only [execOp, e6]
          go_simp
        · have f85 : a'.eval (.tmp 85) = r.val := hS.done (4, 85, _) (by simp) (by simp [hd])
          refine step_call (d := 86) (v := .agg #[.int .i64 2, .int .i64 bn, .string bs]) (f := 28) (args := #[.int .i64 2, r.val]) ho rfl rfl hT (by simp) (by rfl) hS hV hB hBs ?_ ((HW'.out w').out)
          simp only [execOp, resolve]
          simp [f85]
          go_simp
        · have f81 : a'.eval (.tmp 81) = .agg #[.int .i64 3, .int .i64 7, .int .i64 k, .int .i64 1, .int .i64 kn, .string ⟨#[]⟩, .int .i64 0, .int .i64 0, .string ⟨#[]⟩, .int .i64 0] := hS.done (0, 81, _) (by simp) (by simp [hd])
          have f82 : a'.eval (.tmp 82) = .agg #[.int .i64 k, .int .i64 p, .int .i64 q] := hS.done (1, 82, _) (by simp) (by simp [hd])
          have f84 : a'.eval (.tmp 84) = .agg #[.int .i64 1, .int .i64 kn, .string ⟨#[]⟩] := hS.done (3, 84, _) (by simp) (by simp [hd])
          have f86 : a'.eval (.tmp 86) = .agg #[.int .i64 2, .int .i64 bn, .string bs] := hS.done (5, 86, _) (by simp) (by simp [hd])
          refine step_call (d := 87) (v := .tuple #[.agg #[.int .i64 3, .int .i64 7, .int .i64 k, .int .i64 1, .int .i64 kn, .string ⟨#[]⟩, .int .i64 0, .int .i64 0, .string ⟨#[]⟩, .int .i64 0], .bool false, .int .i64 0]) (f := 31) (args := #[.agg #[.int .i64 3, .int .i64 7, .int .i64 k, .int .i64 1, .int .i64 kn, .string ⟨#[]⟩, .int .i64 0, .int .i64 0, .string ⟨#[]⟩, .int .i64 0], .agg #[.int .i64 k, .int .i64 p, .int .i64 q], .int .i64 7, .agg #[.int .i64 1, .int .i64 kn, .string ⟨#[]⟩], .agg #[.int .i64 2, .int .i64 bn, .string bs]]) ho rfl rfl hT (by simp) (by rfl) hS hV hB hBs ?_ (call_hear_not k p q 3 7 k 1 kn 0 0 0 7 1 kn 2 bn ⟨#[]⟩ ⟨#[]⟩ ⟨#[]⟩ bs w' (fun w => call_check_given k p q 7 k 1 kn ⟨#[]⟩ w OP.out (by omega) (by omega) rfl HKN.out) (.inl (by decide)))
          simp only [execOp, resolve]
          simp [f81, f82, f84, f86]
          go_simp
        · have f87 : a'.eval (.tmp 87) = .tuple #[.agg #[.int .i64 3, .int .i64 7, .int .i64 k, .int .i64 1, .int .i64 kn, .string ⟨#[]⟩, .int .i64 0, .int .i64 0, .string ⟨#[]⟩, .int .i64 0], .bool false, .int .i64 0] := hS.done (6, 87, _) (by simp) (by simp [hd])
          refine step_value (d := 80) (v := .tuple #[.agg #[.int .i64 3, .int .i64 7, .int .i64 k, .int .i64 1, .int .i64 kn, .string ⟨#[]⟩, .int .i64 0, .int .i64 0, .string ⟨#[]⟩, .int .i64 0], .bool false, .int .i64 0]) ho rfl rfl hT (by simp) (by rfl) hS hV hB (Below.refl _ _) hBs ?_
          simp only [execOp, f87]
          go_simp
        · have f80 : a'.eval (.tmp 80) = .tuple #[.agg #[.int .i64 3, .int .i64 7, .int .i64 k, .int .i64 1, .int .i64 kn, .string ⟨#[]⟩, .int .i64 0, .int .i64 0, .string ⟨#[]⟩, .int .i64 0], .bool false, .int .i64 0] := hS.done (7, 80, _) (by simp) (by simp [hd])
          refine step_value (d := 88) (v := .agg #[.int .i64 3, .int .i64 7, .int .i64 k, .int .i64 1, .int .i64 kn, .string ⟨#[]⟩, .int .i64 0, .int .i64 0, .string ⟨#[]⟩, .int .i64 0]) ho rfl rfl hT (by simp) (by rfl) hS hV hB (Below.refl _ _) hBs ?_
          simp only [execOp, f80]
          go_simp
        · have f80 : a'.eval (.tmp 80) = .tuple #[.agg #[.int .i64 3, .int .i64 7, .int .i64 k, .int .i64 1, .int .i64 kn, .string ⟨#[]⟩, .int .i64 0, .int .i64 0, .string ⟨#[]⟩, .int .i64 0], .bool false, .int .i64 0] := hS.done (7, 80, _) (by simp) (by simp [hd])
          refine step_value (d := 89) (v := .bool false) ho rfl rfl hT (by simp) (by rfl) hS hV hB (Below.refl _ _) hBs ?_
          simp only [execOp, f80]
          go_simp
        · have f80 : a'.eval (.tmp 80) = .tuple #[.agg #[.int .i64 3, .int .i64 7, .int .i64 k, .int .i64 1, .int .i64 kn, .string ⟨#[]⟩, .int .i64 0, .int .i64 0, .string ⟨#[]⟩, .int .i64 0], .bool false, .int .i64 0] := hS.done (7, 80, _) (by simp) (by simp [hd])
          refine step_value (d := 90) (v := .int .i64 0) ho rfl rfl hT (by simp) (by rfl) hS hV hB (Below.refl _ _) hBs ?_
          simp only [execOp, f80]
          go_simp
        · refine step_alloc (x := ⟨11, 22, 12, [.int .i64 0, .int .i64 0, .int .i64 0, .int .i64 0, .int .i64 0, .string ⟨#[]⟩, .int .i64 0, .int .i64 0, .string ⟨#[]⟩, .int .i64 0], [.int .i64 3, .int .i64 7, .int .i64 k, .int .i64 1, .int .i64 kn, .string ⟨#[]⟩, .int .i64 0, .int .i64 0, .string ⟨#[]⟩, .int .i64 0]⟩) (cs := #[.int .i64 0, .int .i64 0, .int .i64 0, .int .i64 0, .int .i64 0, .string ⟨#[]⟩, .int .i64 0, .int .i64 0, .string ⟨#[]⟩, .int .i64 0]) (t := 56) ho rfl rfl hT (by rfl) (by simp) (by simp) (by rfl) hn hS hV hB hBs rfl ?_
          simp only [execOp]
          go_simp
        · have f88 : a'.eval (.tmp 88) = .agg #[.int .i64 3, .int .i64 7, .int .i64 k, .int .i64 1, .int .i64 kn, .string ⟨#[]⟩, .int .i64 0, .int .i64 0, .string ⟨#[]⟩, .int .i64 0] := hS.done (8, 88, _) (by simp) (by simp [hd])
          refine step_store (x := ⟨11, 22, 12, [.int .i64 0, .int .i64 0, .int .i64 0, .int .i64 0, .int .i64 0, .string ⟨#[]⟩, .int .i64 0, .int .i64 0, .string ⟨#[]⟩, .int .i64 0], [.int .i64 3, .int .i64 7, .int .i64 k, .int .i64 1, .int .i64 kn, .string ⟨#[]⟩, .int .i64 0, .int .i64 0, .string ⟨#[]⟩, .int .i64 0]⟩) ho rfl rfl (by rfl) (by simp) (by rfl) hn (by simp [hd]) hS hV hB (fun g hg hbox => ?_)
          have c0 := hbox.cells 0 _ rfl
          have c1 := hbox.cells 1 _ rfl
          have c2 := hbox.cells 2 _ rfl
          have c3 := hbox.cells 3 _ rfl
          have c4 := hbox.cells 4 _ rfl
          have c5 := hbox.cells 5 _ rfl
          have c6 := hbox.cells 6 _ rfl
          have c7 := hbox.cells 7 _ rfl
          have c8 := hbox.cells 8 _ rfl
          have c9 := hbox.cells 9 _ rfl
          have k0 := hbox.free 0
          have k1 := hbox.free 1
          have k2 := hbox.free 2
          have k3 := hbox.free 3
          have k4 := hbox.free 4
          have k5 := hbox.free 5
          have k6 := hbox.free 6
          have k7 := hbox.free 7
          have k8 := hbox.free 8
          have k9 := hbox.free 9
          refine ⟨_, ?_, only10 _ _ _ _ _ _ _ _ _ _, set10_box _ _ _ _ _ _ _ _ _ _ hbox⟩
          simp only [execOp, f88, hg]
          go_simp
        · have f89 : a'.eval (.tmp 89) = .bool false := hS.done (9, 89, _) (by simp) (by simp [hd])
          refine step_value (d := 23) (v := .bool false) ho rfl rfl hT (by simp) (by rfl) hS hV hB (Below.refl _ _) hBs ?_
          simp only [execOp, f89]
          go_simp
        · have f90 : a'.eval (.tmp 90) = .int .i64 0 := hS.done (10, 90, _) (by simp) (by simp [hd])
          refine step_value (d := 24) (v := .int .i64 0) ho rfl rfl hT (by simp) (by rfl) hS hV hB (Below.refl _ _) hBs ?_
          simp only [execOp, f90]
          go_simp
      intro a' w5 hS hV hB
      obtain ⟨gh, f22, l22, bh⟩ := hV.fin (x := ⟨11, 22, 12, [.int .i64 0, .int .i64 0, .int .i64 0, .int .i64 0, .int .i64 0, .string ⟨#[]⟩, .int .i64 0, .int .i64 0, .string ⟨#[]⟩, .int .i64 0], [.int .i64 3, .int .i64 7, .int .i64 k, .int .i64 1, .int .i64 kn, .string ⟨#[]⟩, .int .i64 0, .int .i64 0, .string ⟨#[]⟩, .int .i64 0]⟩) (by simp) (by show (11 : Nat) < 15; omega) (by show (12 : Nat) < 15; omega)
      have bh : Box w5 gh [.int .i64 3, .int .i64 7, .int .i64 k, .int .i64 1, .int .i64 kn, .string ⟨#[]⟩, .int .i64 0, .int .i64 0, .string ⟨#[]⟩, .int .i64 0] := bh
      have e := hS.all (by rfl) (by decide) (by simp) [(22, .pointer (some ⟨gh, 0, none⟩))] rfl (by
        intro x hx
        simp only [List.mem_cons, List.not_mem_nil, or_false] at hx
        subst hx
        exact f22)
      subst e
      clear hS hV f22
      simp only [puts, List.map_cons, List.map_nil, List.cons_append, List.nil_append, List.foldl_cons, List.foldl_nil]
      have h3 := h2.keep hB
      have hy3 := hy2.keep hB
      have hv3 := hv2.keep hB
      have hg3 := hg2.keep hB
      have hw3 := hw2.trans (hB.mono (by have := hr2.lt; omega))
      clear hB h2 hx2 hy2 hv2 hp2 hr2 hg2 hw2 l22
      have a0 := h3.cells 0 _ rfl
      have a1 := h3.cells 1 _ rfl
      have a2 := h3.cells 2 _ rfl
      have a3 := h3.cells 3 _ rfl
      have a4 := h3.cells 4 _ rfl
      have a5 := h3.cells 5 _ rfl
      have a6 := h3.cells 6 _ rfl
      have a7 := h3.cells 7 _ rfl
      have a8 := h3.cells 8 _ rfl
      have a9 := h3.cells 9 _ rfl
      have b0 := hy3.cells 0 _ rfl
      have b1 := hy3.cells 1 _ rfl
      have b2 := hy3.cells 2 _ rfl
      have b3 := hy3.cells 3 _ rfl
      have b4 := hy3.cells 4 _ rfl
      have b5 := hy3.cells 5 _ rfl
      have b6 := hy3.cells 6 _ rfl
      have b7 := hy3.cells 7 _ rfl
      have b8 := hy3.cells 8 _ rfl
      have b9 := hy3.cells 9 _ rfl
      have c0 := hv3.cells 0 _ rfl
      have c1 := hv3.cells 1 _ rfl
      have c2 := hv3.cells 2 _ rfl
      have c3 := hv3.cells 3 _ rfl
      have c4 := hv3.cells 4 _ rfl
      have c5 := hv3.cells 5 _ rfl
      have c6 := hv3.cells 6 _ rfl
      have c7 := hv3.cells 7 _ rfl
      have c8 := hv3.cells 8 _ rfl
      have c9 := hv3.cells 9 _ rfl
      have d0 := hg3.cells 0 _ rfl
      have d1 := hg3.cells 1 _ rfl
      have d2 := hg3.cells 2 _ rfl
      have d3 := hg3.cells 3 _ rfl
      have d4 := hg3.cells 4 _ rfl
      have d5 := hg3.cells 5 _ rfl
      have d6 := hg3.cells 6 _ rfl
      have d7 := hg3.cells 7 _ rfl
      have d8 := hg3.cells 8 _ rfl
      have d9 := hg3.cells 9 _ rfl
      have e0 := bh.cells 0 _ rfl
      have e1 := bh.cells 1 _ rfl
      have e2 := bh.cells 2 _ rfl
      have e3 := bh.cells 3 _ rfl
      have e4 := bh.cells 4 _ rfl
      have e5 := bh.cells 5 _ rfl
      have e6 := bh.cells 6 _ rfl
      have e7 := bh.cells 7 _ rfl
      have e8 := bh.cells 8 _ rfl
      have e9 := bh.cells 9 _ rfl
      go_wp2_with fail
      go_ret
      exact ⟨rfl, by first | exact hw3 | (rw [hB0]; exact hw3)⟩

namespace callStaysLaw
open Go.ChangeShapes Go.WideShapes Go.ChangeAt Go.RowKit
open Go.ChangeMaps (open_string shut_string)
set_option linter.unusedVariables false

set_option maxRecDepth 100000 in
theorem lifted (os : Os) (started : os.Started) (H : Type) (enc : TypeId × Value → H) :
    ReturnsInHanded {} Try.checked os 11 .any (Rows.callStaysSpec.pre6 enc Try.prog Try.f11 Rows.callStaysRow.domain false) (Rows.callStaysSpec.post enc Try.prog Try.f11 false true false false) := by
  refine returnsInHanded_of_change_sized (C := Try.checked) ownNone started (by kernel_rfl) Try.func11
    (ChangeSpec.witness6 (enc := enc) (C := Try.checked) false ⟨#[], #[.int .i64 0, .int .i64 0, .agg #[.int .i64 0, .int .i64 0, .int .i64 0, .string ByteArray.empty], .int .i64 0], []⟩ 8 (by kernel_rfl) (by kernel_rfl) (by kernel_rfl) (by kernel_rfl)) ?_
  intro W base args ds gs before hval0 hW hcnd hsz0 _
  have hval : ∀ (j : Nat) t v, Try.f11.params[j]? = some t → args[j]? = some v → Value.okWide Try.prog W .any base t v := hval0
  have hsz : (DataW.weightsEach Try.prog (Try.f11.params.toList ++ Rows.callStaysSpec.plain.varTypes Try.prog) (ds ++ gs)).all (· ≤ reachBytes) = true := hsz0
  have hW' := hW
  obtain ⟨p, q, hA0, hV, rfl, hfz, hnd⟩ := hW
  have hA : DataW.TrodAll enc Try.prog W 0 (fun _ => true) true Try.f11.params.toList args.toList ds p := hA0
  rw [Try.params11] at hA hval hsz
  obtain ⟨v0, vs0, d0, ds0, p0, q0, hargs, rfl, rfl, h0, r0⟩ := trodAll_cons hA
  obtain ⟨v1, vs1, d1, ds1, p1, q1, rfl, rfl, rfl, h1, r1⟩ := trodAll_cons r0
  obtain ⟨v2, vs2, d2, ds2, p2, q2, rfl, rfl, rfl, h2, r2⟩ := trodAll_cons r1
  obtain ⟨v3, vs3, d3, ds3, p3, q3, rfl, rfl, rfl, h3, r3⟩ := trodAll_cons r2
  obtain ⟨rfl, rfl, rfl⟩ := trodAll_nil r3
  obtain rfl : args = #[v0, v1, v2, v3] := by cases args; simp_all
  obtain ⟨rfl, rfl⟩ := trodVars_none hV
  have k0 := h0
  have lt0 : ∀ x ∈ p0, x.block < W.heap.size := by obtain ⟨m, hm⟩ := k0; exact DataW.trod_lt m _ _ _ hm
  obtain ⟨a0, rfl, -, -, w0⟩ := open_int Try.underlying3 (hval 0 3 v0 rfl rfl) h0
  have k1 := h1
  have lt1 : ∀ x ∈ p1, x.block < W.heap.size := by obtain ⟨m, hm⟩ := k1; exact DataW.trod_lt m _ _ _ hm
  obtain ⟨a1, rfl, -, -, w1⟩ := open_int Try.underlying3 (hval 1 3 v1 rfl rfl) h1
  have k2 := h2
  have lt2 : ∀ x ∈ p2, x.block < W.heap.size := by obtain ⟨m, hm⟩ := k2; exact DataW.trod_lt m _ _ _ hm
  obtain ⟨a2, rfl, w2⟩ := open_raw (hval 2 50 v2 rfl rfl) h2
  have k3 := h3
  have lt3 : ∀ x ∈ p3, x.block < W.heap.size := by obtain ⟨m, hm⟩ := k3; exact DataW.trod_lt m _ _ _ hm
  obtain ⟨a3, rfl, -, -, w3⟩ := open_int Try.underlying3 (hval 3 3 v3 rfl rfl) h3
  clear hA0 hval0 hsz0
  refine (callStays_walk a0 a1 a2 a3 W (int_lo w0) (int_hi w0) (int_lo w1) (int_hi w1) w2 (int_lo w3) (int_hi w3)).mono fun e W' ⟨he, bel⟩ => ?_
  subst he
  exact ⟨_, rfl, _, _, _, [], _, [], hW', trodAll_mk1 (shut_bool Try.underlying4 _), (trodAll_cons_mk (Below.trod laidOutTrue (by kernel_rfl) (of_decide_eq_true (by kernel_rfl)) k0 bel lt0) (trodAll_cons_mk (Below.trod laidOutTrue (by kernel_rfl) (of_decide_eq_true (by kernel_rfl)) k1 bel lt1) (trodAll_cons_mk (Below.trod laidOutTrue (by kernel_rfl) (of_decide_eq_true (by kernel_rfl)) k2 bel lt2) (trodAll_cons_mk (Below.trod laidOutTrue (by kernel_rfl) (of_decide_eq_true (by kernel_rfl)) k3 bel lt3) trodAll_mk0)))), rfl, bel.frame _, fun h => by cases h⟩

theorem over : Rows.callStaysRow.holds Try.pinned (OpenSpec.ofChange Rows.callStaysSpec) :=
  OpenClaim.holds_of_wide 11 Try.f11 rfl rfl rfl rfl rfl rfl rfl ⟨rfl, rfl, rfl, rfl, rfl⟩ rfl rfl rfl rfl rfl (by kernel_rfl) Try.func11 (by kernel_rfl)
    (of_decide_eq_true (by kernel_rfl)) (by unfold Func.isWrapper; first | (rw [if_pos (by decide +kernel)]; kernel_rfl) | (rw [if_neg (by decide +kernel)]; exact ⟨rfl, rfl⟩))
    (fun os started H enc _ => lifted os started H enc)

end callStaysLaw
theorem callStays_holds : Rows.CallStaysSaid := callStaysLaw.over
#print axioms callStays_holds
end Go.Proofs.Ytpckomnpeainlaa
