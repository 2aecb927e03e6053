/-
  For every kind and any three raw things ValueOrderly returns true: the values of one type are in one order. No condition.
-/
import Derived.Test.YtpckomnpeainlaaVal
import Derived.Test.YtpckomnpeainlaaValueB
import Derived.Test.YtpckomnpeainlaaRegion
namespace Go.Proofs.Ytpckomnpeainlaa
open Go.RowKit

theorem compare_eq (k n m : Int) (s t : ByteArray) (r : Int) (w : World) (ha : KnownV k n s) (hb : KnownV k m t) (h : cmpV n m s.toList t.toList = r) :
    Calls Try.prog 29 #[.agg #[.int .i64 k, .int .i64 n, .string s], .agg #[.int .i64 k, .int .i64 m, .string t]] w (Gives (.tuple #[.int .i64 r, .int .i64 0]) w) := by
  subst h; exact compare_known k n m s t w ha hb

theorem orderly (a b c : Int) (x y z : List UInt8) :
    (cmpV a b x y = 0 ∧ (a == b) = true ∧ (x == y) = true ∧ (0 < cmpV b c y z ∨ (cmpV b c y z ≤ 0 ∧ cmpV a c x z ≤ 0))) ∨
    (((a == b) = false ∨ ((a == b) = true ∧ (x == y) = false)) ∧ (cmpV a b x y == 0) = false ∧ (0 < cmpV a b x y ∨ (cmpV a b x y < 0 ∧ 0 < cmpV b c y z) ∨ (cmpV a b x y < 0 ∧ cmpV b c y z ≤ 0 ∧ cmpV a c x z ≤ 0))) := by
  have h := cmpV_zero a b x y
  have ht := cmpV_trans a b c x y z
  by_cases e : a = b ∧ x = y
  · have h0 := h.2 e
    left
    refine ⟨h0, beq_iff_eq.2 e.1, beq_iff_eq.2 e.2, ?_⟩
    rcases Int.lt_or_le 0 (cmpV b c y z) with k | k
    · exact .inl k
    · exact .inr ⟨k, ht (by omega) k⟩
  · have h0 : cmpV a b x y ≠ 0 := fun k => e (h.1 k)
    right
    refine ⟨?_, beq_eq_false_iff_ne.2 h0, ?_⟩
    · by_cases e1 : a = b
      · exact .inr ⟨beq_iff_eq.2 e1, beq_eq_false_iff_ne.2 fun k => e ⟨e1, k⟩⟩
      · exact .inl (beq_eq_false_iff_ne.2 e1)
    · rcases Int.lt_or_le 0 (cmpV a b x y) with k | k
      · exact .inl k
      · rcases Int.lt_or_le 0 (cmpV b c y z) with k' | k'
        · exact .inr (.inl ⟨by omega, k'⟩)
        · exact .inr (.inr ⟨by omega, k', ht k k'⟩)

theorem known_int {n : Int} (h : Lim n) : KnownV 1 n ⟨#[]⟩ := .inl ⟨rfl, h, rfl⟩

set_option maxRecDepth 100000 in
set_option maxHeartbeats 4000000 in
theorem valueOrderly_walk (kind : Int) (p q r : RawD) (w : World) (h0 : -9223372036854775808 ≤ kind) (h1 : kind ≤ 9223372036854775807) (hp : p.ok) (hq : q.ok) (hr : r.ok) :
    Calls Try.prog 9 #[.int .i64 kind, p.val, q.val, r.val] w fun e w' => e = .returned (.bool true) ∧ Below w.heap.size w w' := by
  have p0 := pickL_lo kind 3 (by omega)
  have p1 := pickL_hi kind 3 (by omega)
  go_enter Try.func9, Try.ntmps9
  go_wp2_with fail
  with_reducible refine (picked_any kind 3 _ h0 h1 (by omega) (by omega)).mono ?_
  rintro e w' ⟨rfl, rfl⟩
  clear h0 h1
  generalize pickL kind 3 = kd at *
  go_wp2_with fail
  have hb0 : Below w.heap.size w (((w.alloc (.cells #[.int .i64 p.k, .int .i64 p.a, .int .i64 p.b, .string p.t] 50)).alloc (.cells #[.int .i64 q.k, .int .i64 q.a, .int .i64 q.b, .string q.t] 50)).alloc (.cells #[.int .i64 r.k, .int .i64 r.a, .int .i64 r.b, .string r.t] 50)) :=
    bthen (bthen ((Below.refl _ _).alloc (Nat.le_refl _) _) ((Below.refl _ _).alloc (Nat.le_refl _) _)) ((Below.refl _ _).alloc (Nat.le_refl _) _)
  have hx := ((Box.new w #[.int .i64 p.k, .int .i64 p.a, .int .i64 p.b, .string p.t] 50).alloc (.cells #[.int .i64 q.k, .int .i64 q.a, .int .i64 q.b, .string q.t] 50)).alloc (.cells #[.int .i64 r.k, .int .i64 r.a, .int .i64 r.b, .string r.t] 50)
  have hy := (Box.new (w.alloc (.cells #[.int .i64 p.k, .int .i64 p.a, .int .i64 p.b, .string p.t] 50)) #[.int .i64 q.k, .int .i64 q.a, .int .i64 q.b, .string q.t] 50).alloc (.cells #[.int .i64 r.k, .int .i64 r.a, .int .i64 r.b, .string r.t] 50)
  have hz := Box.new ((w.alloc (.cells #[.int .i64 p.k, .int .i64 p.a, .int .i64 p.b, .string p.t] 50)).alloc (.cells #[.int .i64 q.k, .int .i64 q.a, .int .i64 q.b, .string q.t] 50)) #[.int .i64 r.k, .int .i64 r.a, .int .i64 r.b, .string r.t] 50
  rw [show (w.alloc (.cells #[.int .i64 p.k, .int .i64 p.a, .int .i64 p.b, .string p.t] 50)).heap.size = w.heap.size + 1 from by simp] at hy
  rw [show ((w.alloc (.cells #[.int .i64 p.k, .int .i64 p.a, .int .i64 p.b, .string p.t] 50)).alloc (.cells #[.int .i64 q.k, .int .i64 q.a, .int .i64 q.b, .string q.t] 50)).heap.size = w.heap.size + 1 + 1 from by simp] at hz
  generalize ((w.alloc (.cells #[.int .i64 p.k, .int .i64 p.a, .int .i64 p.b, .string p.t] 50)).alloc (.cells #[.int .i64 q.k, .int .i64 q.a, .int .i64 q.b, .string q.t] 50)).alloc (.cells #[.int .i64 r.k, .int .i64 r.a, .int .i64 r.b, .string r.t] 50) = W at *
  generalize w.heap.size + 1 + 1 = B2 at *
  generalize w.heap.size + 1 = B1 at *
  generalize hB0 : w.heap.size = B0 at *
  refine region_go (by kernel_rfl) (by kernel_rfl)
    [(0, 25, .int .i64 (1 + kd)), (1, 26, p.val), (2, 27, .agg #[.int .i64 (1 + kd), .int .i64 (valN (1 + kd) p.k p.a), .string (valS (1 + kd) p.t)]), (3, 28, .int .i64 (1 + kd)), (4, 29, q.val), (5, 30, .agg #[.int .i64 (1 + kd), .int .i64 (valN (1 + kd) q.k q.a), .string (valS (1 + kd) q.t)]),
      (6, 31, .int .i64 (1 + kd)), (7, 32, r.val), (8, 33, .agg #[.int .i64 (1 + kd), .int .i64 (valN (1 + kd) r.k r.a), .string (valS (1 + kd) r.t)])]
    [9, 10, 11]
    [⟨9, 9, 12, [.int .i64 0, .int .i64 0, .string ⟨#[]⟩], [.int .i64 (1 + kd), .int .i64 (valN (1 + kd) p.k p.a), .string (valS (1 + kd) p.t)]⟩, ⟨10, 10, 13, [.int .i64 0, .int .i64 0, .string ⟨#[]⟩], [.int .i64 (1 + kd), .int .i64 (valN (1 + kd) q.k q.a), .string (valS (1 + kd) q.t)]⟩, ⟨11, 11, 14, [.int .i64 0, .int .i64 0, .string ⟨#[]⟩], [.int .i64 (1 + kd), .int .i64 (valN (1 + kd) r.k r.a), .string (valS (1 + kd) r.t)]⟩]
    [(0, .int .i64 (1 + kd)), (5, .pointer (some ⟨B0, 0, none⟩)), (6, .pointer (some ⟨B1, 0, none⟩)), (7, .pointer (some ⟨B2, 0, none⟩))]
    (by rfl) ?base (by rfl) ?step ?fin
  case base =>
    intro x hx
    simp only [List.mem_cons, List.not_mem_nil, or_false] at hx
    rcases hx with rfl | rfl | rfl | rfl <;> rfl
  case step =>
    intro a0 i o D a' w' ho hn hd hT hE hS hV hB
    have hi : i < 15 := (Array.getElem?_eq_some_iff.1 ho).1
    have e0 : a'.eval (.tmp 0) = .int .i64 (1 + kd) := hE (0, _) (by simp)
    have e5 : a'.eval (.tmp 5) = .pointer (some ⟨B0, 0, none⟩) := hE (5, _) (by simp)
    have e6 : a'.eval (.tmp 6) = .pointer (some ⟨B1, 0, none⟩) := hE (6, _) (by simp)
    have e7 : a'.eval (.tmp 7) = .pointer (some ⟨B2, 0, none⟩) := hE (7, _) (by simp)
    have hBs := hB.size
    obtain rfl | rfl | rfl | rfl | rfl | rfl | rfl | rfl | rfl | rfl | rfl | rfl | rfl | rfl | rfl : i = 0 ∨ i = 1 ∨ i = 2 ∨ i = 3 ∨ i = 4 ∨ i = 5 ∨ i = 6 ∨ i = 7 ∨ i = 8 ∨ i = 9 ∨ i = 10 ∨ i = 11 ∨ i = 12 ∨ i = 13 ∨ i = 14 := by omega
    all_goals
      have ho' := ho
      simp only [List.getElem?_toArray, List.getElem?_cons_zero, List.getElem?_cons_succ, Option.some.injEq] at ho'
      subst ho'
      simp [Region.binds] at hd
    · refine step_value (d := 25) (v := .int .i64 (1 + kd)) ho rfl rfl hT (by simp) (by rfl) hS hV hB (Below.refl _ _) hBs ?_
      simp only [execOp, e0]
      go_simp
    · have bb := hx.keep hB
      have c0 := bb.cells 0 _ rfl
      have c1 := bb.cells 1 _ rfl
      have c2 := bb.cells 2 _ rfl
      have c3 := bb.cells 3 _ rfl
      refine step_value (d := 26) (v := p.val) ho rfl rfl hT (by simp) (by rfl) hS hV hB (Below.refl _ _) hBs ?_
      simp only [execOp, e5]
      go_simp
    · have f1 : a'.eval (.tmp 25) = .int .i64 (1 + kd) := hS.done (0, 25, _) (by simp) (by simp [hd])
      have f2 : a'.eval (.tmp 26) = p.val := hS.done (1, 26, _) (by simp) (by simp [hd])
      refine step_call (d := 27) (v := .agg #[.int .i64 (1 + kd), .int .i64 (valN (1 + kd) p.k p.a), .string (valS (1 + kd) p.t)]) (f := 28) (args := #[.int .i64 (1 + kd), p.val]) ho rfl rfl hT (by simp) (by rfl) hS hV hB hBs ?_ (val_any (1 + kd) p w' (by omega) (by omega) hp)
      simp only [execOp, resolve]
      simp [f1, f2]
      go_simp
    · refine step_value (d := 28) (v := .int .i64 (1 + kd)) ho rfl rfl hT (by simp) (by rfl) hS hV hB (Below.refl _ _) hBs ?_
      simp only [execOp, e0]
      go_simp
    · have bb := hy.keep hB
      have c0 := bb.cells 0 _ rfl
      have c1 := bb.cells 1 _ rfl
      have c2 := bb.cells 2 _ rfl
      have c3 := bb.cells 3 _ rfl
      refine step_value (d := 29) (v := q.val) ho rfl rfl hT (by simp) (by rfl) hS hV hB (Below.refl _ _) hBs ?_
      simp only [execOp, e6]
      go_simp
    · have f1 : a'.eval (.tmp 28) = .int .i64 (1 + kd) := hS.done (3, 28, _) (by simp) (by simp [hd])
      have f2 : a'.eval (.tmp 29) = q.val := hS.done (4, 29, _) (by simp) (by simp [hd])
      refine step_call (d := 30) (v := .agg #[.int .i64 (1 + kd), .int .i64 (valN (1 + kd) q.k q.a), .string (valS (1 + kd) q.t)]) (f := 28) (args := #[.int .i64 (1 + kd), q.val]) ho rfl rfl hT (by simp) (by rfl) hS hV hB hBs ?_ (val_any (1 + kd) q w' (by omega) (by omega) hq)
      simp only [execOp, resolve]
      simp [f1, f2]
      go_simp
    · refine step_value (d := 31) (v := .int .i64 (1 + kd)) ho rfl rfl hT (by simp) (by rfl) hS hV hB (Below.refl _ _) hBs ?_
      simp only [execOp, e0]
      go_simp
    · have bb := hz.keep hB
      have c0 := bb.cells 0 _ rfl
      have c1 := bb.cells 1 _ rfl
      have c2 := bb.cells 2 _ rfl
      have c3 := bb.cells 3 _ rfl
      refine step_value (d := 32) (v := r.val) ho rfl rfl hT (by simp) (by rfl) hS hV hB (Below.refl _ _) hBs ?_
      simp only [execOp, e7]
      go_simp
    · have f1 : a'.eval (.tmp 31) = .int .i64 (1 + kd) := hS.done (6, 31, _) (by simp) (by simp [hd])
      have f2 : a'.eval (.tmp 32) = r.val := hS.done (7, 32, _) (by simp) (by simp [hd])
      refine step_call (d := 33) (v := .agg #[.int .i64 (1 + kd), .int .i64 (valN (1 + kd) r.k r.a), .string (valS (1 + kd) r.t)]) (f := 28) (args := #[.int .i64 (1 + kd), r.val]) ho rfl rfl hT (by simp) (by rfl) hS hV hB hBs ?_ (val_any (1 + kd) r w' (by omega) (by omega) hr)
      simp only [execOp, resolve]
      simp [f1, f2]
      go_simp
    · refine step_alloc (x := ⟨9, 9, 12, [.int .i64 0, .int .i64 0, .string ⟨#[]⟩], [.int .i64 (1 + kd), .int .i64 (valN (1 + kd) p.k p.a), .string (valS (1 + kd) p.t)]⟩) (cs := #[.int .i64 0, .int .i64 0, .string ⟨#[]⟩]) (t := 29) ho rfl rfl hT (by rfl) (by simp) (by simp) (by rfl) hn hS hV hB hBs rfl ?_
      simp only [execOp]
      go_simp
    · refine step_alloc (x := ⟨10, 10, 13, [.int .i64 0, .int .i64 0, .string ⟨#[]⟩], [.int .i64 (1 + kd), .int .i64 (valN (1 + kd) q.k q.a), .string (valS (1 + kd) q.t)]⟩) (cs := #[.int .i64 0, .int .i64 0, .string ⟨#[]⟩]) (t := 29) ho rfl rfl hT (by rfl) (by simp) (by simp) (by rfl) hn hS hV hB hBs rfl ?_
      simp only [execOp]
      go_simp
    · refine step_alloc (x := ⟨11, 11, 14, [.int .i64 0, .int .i64 0, .string ⟨#[]⟩], [.int .i64 (1 + kd), .int .i64 (valN (1 + kd) r.k r.a), .string (valS (1 + kd) r.t)]⟩) (cs := #[.int .i64 0, .int .i64 0, .string ⟨#[]⟩]) (t := 29) ho rfl rfl hT (by rfl) (by simp) (by simp) (by rfl) hn hS hV hB hBs rfl ?_
      simp only [execOp]
      go_simp
    · have f1 : a'.eval (.tmp 27) = .agg #[.int .i64 (1 + kd), .int .i64 (valN (1 + kd) p.k p.a), .string (valS (1 + kd) p.t)] := hS.done (2, 27, _) (by simp) (by simp [hd])
      refine step_store (x := ⟨9, 9, 12, [.int .i64 0, .int .i64 0, .string ⟨#[]⟩], [.int .i64 (1 + kd), .int .i64 (valN (1 + kd) p.k p.a), .string (valS (1 + kd) p.t)]⟩) ho rfl rfl (by rfl) (by simp) (by rfl) hn (by simp [hd]) hS hV hB (fun g hg hbox => ?_)
      have c0 := hbox.cells 0 _ rfl
      have c1 := hbox.cells 1 _ rfl
      have c2 := hbox.cells 2 _ rfl
      have k0 := hbox.free 0
      have k1 := hbox.free 1
      have k2 := hbox.free 2
      refine ⟨_, ?_, only3 (.int .i64 (1 + kd)) (.int .i64 (valN (1 + kd) p.k p.a)) (.string (valS (1 + kd) p.t)), set3_box _ _ _ hbox⟩
      simp only [execOp, f1, hg]
      go_simp
    · have f1 : a'.eval (.tmp 30) = .agg #[.int .i64 (1 + kd), .int .i64 (valN (1 + kd) q.k q.a), .string (valS (1 + kd) q.t)] := hS.done (5, 30, _) (by simp) (by simp [hd])
      refine step_store (x := ⟨10, 10, 13, [.int .i64 0, .int .i64 0, .string ⟨#[]⟩], [.int .i64 (1 + kd), .int .i64 (valN (1 + kd) q.k q.a), .string (valS (1 + kd) q.t)]⟩) ho rfl rfl (by rfl) (by simp) (by rfl) hn (by simp [hd]) hS hV hB (fun g hg hbox => ?_)
      have c0 := hbox.cells 0 _ rfl
      have c1 := hbox.cells 1 _ rfl
      have c2 := hbox.cells 2 _ rfl
      have k0 := hbox.free 0
      have k1 := hbox.free 1
      have k2 := hbox.free 2
      refine ⟨_, ?_, only3 (.int .i64 (1 + kd)) (.int .i64 (valN (1 + kd) q.k q.a)) (.string (valS (1 + kd) q.t)), set3_box _ _ _ hbox⟩
      simp only [execOp, f1, hg]
      go_simp
    · have f1 : a'.eval (.tmp 33) = .agg #[.int .i64 (1 + kd), .int .i64 (valN (1 + kd) r.k r.a), .string (valS (1 + kd) r.t)] := hS.done (8, 33, _) (by simp) (by simp [hd])
      refine step_store (x := ⟨11, 11, 14, [.int .i64 0, .int .i64 0, .string ⟨#[]⟩], [.int .i64 (1 + kd), .int .i64 (valN (1 + kd) r.k r.a), .string (valS (1 + kd) r.t)]⟩) ho rfl rfl (by rfl) (by simp) (by rfl) hn (by simp [hd]) hS hV hB (fun g hg hbox => ?_)
      have c0 := hbox.cells 0 _ rfl
      have c1 := hbox.cells 1 _ rfl
      have c2 := hbox.cells 2 _ rfl
      have k0 := hbox.free 0
      have k1 := hbox.free 1
      have k2 := hbox.free 2
      refine ⟨_, ?_, only3 (.int .i64 (1 + kd)) (.int .i64 (valN (1 + kd) r.k r.a)) (.string (valS (1 + kd) r.t)), set3_box _ _ _ hbox⟩
      simp only [execOp, f1, hg]
      go_simp
  case fin =>
    intro a' w' hS hV hB
    have hk : ∀ k, k < 15 → k < (15 : Nat) := fun _ h => h
    obtain ⟨g9, f9, l9, b9⟩ := hV.fin (x := ⟨9, 9, 12, [.int .i64 0, .int .i64 0, .string ⟨#[]⟩], [.int .i64 (1 + kd), .int .i64 (valN (1 + kd) p.k p.a), .string (valS (1 + kd) p.t)]⟩) (by simp) (by show (9 : Nat) < 15; omega) (by show (12 : Nat) < 15; omega)
    obtain ⟨g10, f10, l10, b10⟩ := hV.fin (x := ⟨10, 10, 13, [.int .i64 0, .int .i64 0, .string ⟨#[]⟩], [.int .i64 (1 + kd), .int .i64 (valN (1 + kd) q.k q.a), .string (valS (1 + kd) q.t)]⟩) (by simp) (by show (10 : Nat) < 15; omega) (by show (13 : Nat) < 15; omega)
    obtain ⟨g11, f11, l11, b11⟩ := hV.fin (x := ⟨11, 11, 14, [.int .i64 0, .int .i64 0, .string ⟨#[]⟩], [.int .i64 (1 + kd), .int .i64 (valN (1 + kd) r.k r.a), .string (valS (1 + kd) r.t)]⟩) (by simp) (by show (11 : Nat) < 15; omega) (by show (14 : Nat) < 15; omega)
    have e := hS.all (by rfl) (by decide) (by simp) [(9, .pointer (some ⟨g9, 0, none⟩)), (10, .pointer (some ⟨g10, 0, none⟩)), (11, .pointer (some ⟨g11, 0, none⟩))] rfl (by
      intro x hx
      simp only [List.mem_cons, List.not_mem_nil, or_false] at hx
      rcases hx with rfl | rfl | rfl
      · exact f9
      · exact f10
      · exact f11)
    subst e
    clear hS hV f9 f10 f11 l9 l10 l11
    simp only [puts, List.map_cons, List.map_nil, List.cons_append, List.nil_append, List.foldl_cons, List.foldl_nil]
    have KA := Lib.hid (val_known (1 + kd) p.k p.a p.t (by omega) (by omega))
    have KB := Lib.hid (val_known (1 + kd) q.k q.a q.t (by omega) (by omega))
    have KC := Lib.hid (val_known (1 + kd) r.k r.a r.t (by omega) (by omega))
    generalize valN (1 + kd) p.k p.a = na at *
    generalize valN (1 + kd) q.k q.a = nb at *
    generalize valN (1 + kd) r.k r.a = nc at *
    generalize valS (1 + kd) p.t = sa at *
    generalize valS (1 + kd) q.t = sb at *
    generalize valS (1 + kd) r.t = sc at *
    rw [← hB0] at hb0
    have hBW := bthen hb0 hB
    clear hb0 hB hB0 hx hy hz hp hq hr
    have b9c0 := b9.cells 0 _ rfl
    have b9c1 := b9.cells 1 _ rfl
    have b9c2 := b9.cells 2 _ rfl
    have b10c0 := b10.cells 0 _ rfl
    have b10c1 := b10.cells 1 _ rfl
    have b10c2 := b10.cells 2 _ rfl
    have b11c0 := b11.cells 0 _ rfl
    have b11c1 := b11.cells 1 _ rfl
    have b11c2 := b11.cells 2 _ rfl
    go_wp2_with fail
    with_reducible refine (compare_known (1 + kd) na nb sa sb _ KA.out KB.out).mono ?_
    rintro e w1 ⟨rfl, hb⟩
    clear b9c0 b9c1 b9c2 b10c0 b10c1 b10c2 b11c0 b11c1 b11c2
    replace b9 := b9.keep hb
    replace b10 := b10.keep hb
    replace b11 := b11.keep hb
    replace hBW := bthen hBW hb
    clear hb
    have b9c0 := b9.cells 0 _ rfl
    have b9c1 := b9.cells 1 _ rfl
    have b9c2 := b9.cells 2 _ rfl
    have b10c0 := b10.cells 0 _ rfl
    have b10c1 := b10.cells 1 _ rfl
    have b10c2 := b10.cells 2 _ rfl
    have b11c0 := b11.cells 0 _ rfl
    have b11c1 := b11.cells 1 _ rfl
    have b11c2 := b11.cells 2 _ rfl
    go_wp2_with fail
    with_reducible refine (compare_known (1 + kd) nb na sb sa _ KB.out KA.out).mono ?_
    rintro e w2 ⟨rfl, hb⟩
    clear b9c0 b9c1 b9c2 b10c0 b10c1 b10c2 b11c0 b11c1 b11c2
    replace b9 := b9.keep hb
    replace b10 := b10.keep hb
    replace b11 := b11.keep hb
    replace hBW := bthen hBW hb
    clear hb
    have b9c0 := b9.cells 0 _ rfl
    have b9c1 := b9.cells 1 _ rfl
    have b9c2 := b9.cells 2 _ rfl
    have b10c0 := b10.cells 0 _ rfl
    have b10c1 := b10.cells 1 _ rfl
    have b10c2 := b10.cells 2 _ rfl
    have b11c0 := b11.cells 0 _ rfl
    have b11c1 := b11.cells 1 _ rfl
    have b11c2 := b11.cells 2 _ rfl
    go_wp2_with fail
    with_reducible refine (compare_known (1 + kd) nb nc sb sc _ KB.out KC.out).mono ?_
    rintro e w3 ⟨rfl, hb⟩
    clear b9c0 b9c1 b9c2 b10c0 b10c1 b10c2 b11c0 b11c1 b11c2
    replace b9 := b9.keep hb
    replace b10 := b10.keep hb
    replace b11 := b11.keep hb
    replace hBW := bthen hBW hb
    clear hb
    have b9c0 := b9.cells 0 _ rfl
    have b9c1 := b9.cells 1 _ rfl
    have b9c2 := b9.cells 2 _ rfl
    have b10c0 := b10.cells 0 _ rfl
    have b10c1 := b10.cells 1 _ rfl
    have b10c2 := b10.cells 2 _ rfl
    have b11c0 := b11.cells 0 _ rfl
    have b11c1 := b11.cells 1 _ rfl
    have b11c2 := b11.cells 2 _ rfl
    go_wp2_with fail
    with_reducible refine (compare_known (1 + kd) na nc sa sc _ KA.out KC.out).mono ?_
    rintro e w4 ⟨rfl, hb⟩
    clear b9c0 b9c1 b9c2 b10c0 b10c1 b10c2 b11c0 b11c1 b11c2
    replace b9 := b9.keep hb
    replace b10 := b10.keep hb
    replace b11 := b11.keep hb
    replace hBW := bthen hBW hb
    clear hb
    have b9c0 := b9.cells 0 _ rfl
    have b9c1 := b9.cells 1 _ rfl
    have b9c2 := b9.cells 2 _ rfl
    have b10c0 := b10.cells 0 _ rfl
    have b10c1 := b10.cells 1 _ rfl
    have b10c2 := b10.cells 2 _ rfl
    have b11c0 := b11.cells 0 _ rfl
    have b11c1 := b11.cells 1 _ rfl
    have b11c2 := b11.cells 2 _ rfl
    go_wp2_with fail
    with_reducible refine (compare_eq 1 1 2 ⟨#[]⟩ ⟨#[]⟩ (-1) _ (known_int (lim_mk (by omega) (by omega))) (known_int (lim_mk (by omega) (by omega))) (by decide)).mono ?_
    rintro e w5 ⟨rfl, hb⟩
    clear b9c0 b9c1 b9c2 b10c0 b10c1 b10c2 b11c0 b11c1 b11c2
    replace b9 := b9.keep hb
    replace b10 := b10.keep hb
    replace b11 := b11.keep hb
    replace hBW := bthen hBW hb
    clear hb
    have b9c0 := b9.cells 0 _ rfl
    have b9c1 := b9.cells 1 _ rfl
    have b9c2 := b9.cells 2 _ rfl
    have b10c0 := b10.cells 0 _ rfl
    have b10c1 := b10.cells 1 _ rfl
    have b10c2 := b10.cells 2 _ rfl
    have b11c0 := b11.cells 0 _ rfl
    have b11c1 := b11.cells 1 _ rfl
    have b11c2 := b11.cells 2 _ rfl
    have o1 := orderly na nb nc sa.toList sb.toList sc.toList
    obtain ⟨d1, d2⟩ := cmpV_bd na nb sa.toList sb.toList
    rw [cmpV_neg na nb sa.toList sb.toList]
    generalize cmpV na nb sa.toList sb.toList = X at *
    generalize cmpV nb nc sb.toList sc.toList = Z at *
    generalize cmpV na nc sa.toList sc.toList = V at *
    clear KA KB KC
    rcases o1 with ⟨rfl, q2, q3, q4 | ⟨q4, q5⟩⟩ | ⟨q2 | ⟨q2, q3⟩, q1, q4 | ⟨q4, q5⟩ | ⟨q4, q5, q6⟩⟩
    all_goals
      go_wp2_with fail
      go_ret
      exact ⟨rfl, hBW⟩

namespace valueOrderlyLaw
open Go.ChangeShapes Go.WideShapes Go.ChangeAt Go.RowKit
open Go.ChangeMaps (open_string shut_string)
set_option linter.unusedVariables false

set_option maxRecDepth 100000 in
theorem lifted (os : Os) (started : os.Started) (H : Type) (enc : TypeId × Value → H) :
    ReturnsInHanded {} Try.checked os 9 .any (Rows.valueOrderlySpec.pre6 enc Try.prog Try.f9 Rows.valueOrderlyRow.domain false) (Rows.valueOrderlySpec.post enc Try.prog Try.f9 false true false false) := by
  refine returnsInHanded_of_change_sized (C := Try.checked) ownNone started (by kernel_rfl) Try.func9
    (ChangeSpec.witness6 (enc := enc) (C := Try.checked) false ⟨#[], #[.int .i64 0, .agg #[.int .i64 0, .int .i64 0, .int .i64 0, .string ByteArray.empty], .agg #[.int .i64 0, .int .i64 0, .int .i64 0, .string ByteArray.empty], .agg #[.int .i64 0, .int .i64 0, .int .i64 0, .string ByteArray.empty]], []⟩ 8 (by kernel_rfl) (by kernel_rfl) (by kernel_rfl) (by kernel_rfl)) ?_
  intro W base args ds gs before hval0 hW hcnd hsz0 _
  have hval : ∀ (j : Nat) t v, Try.f9.params[j]? = some t → args[j]? = some v → Value.okWide Try.prog W .any base t v := hval0
  have hsz : (DataW.weightsEach Try.prog (Try.f9.params.toList ++ Rows.valueOrderlySpec.plain.varTypes Try.prog) (ds ++ gs)).all (· ≤ reachBytes) = true := hsz0
  have hW' := hW
  obtain ⟨p, q, hA0, hV, rfl, hfz, hnd⟩ := hW
  have hA : DataW.TrodAll enc Try.prog W 0 (fun _ => true) true Try.f9.params.toList args.toList ds p := hA0
  rw [Try.params9] at hA hval hsz
  obtain ⟨v0, vs0, d0, ds0, p0, q0, hargs, rfl, rfl, h0, r0⟩ := trodAll_cons hA
  obtain ⟨v1, vs1, d1, ds1, p1, q1, rfl, rfl, rfl, h1, r1⟩ := trodAll_cons r0
  obtain ⟨v2, vs2, d2, ds2, p2, q2, rfl, rfl, rfl, h2, r2⟩ := trodAll_cons r1
  obtain ⟨v3, vs3, d3, ds3, p3, q3, rfl, rfl, rfl, h3, r3⟩ := trodAll_cons r2
  obtain ⟨rfl, rfl, rfl⟩ := trodAll_nil r3
  obtain rfl : args = #[v0, v1, v2, v3] := by cases args; simp_all
  obtain ⟨rfl, rfl⟩ := trodVars_none hV
  have k0 := h0
  have lt0 : ∀ x ∈ p0, x.block < W.heap.size := by obtain ⟨m, hm⟩ := k0; exact DataW.trod_lt m _ _ _ hm
  obtain ⟨a0, rfl, -, -, w0⟩ := open_int Try.underlying3 (hval 0 3 v0 rfl rfl) h0
  have k1 := h1
  have lt1 : ∀ x ∈ p1, x.block < W.heap.size := by obtain ⟨m, hm⟩ := k1; exact DataW.trod_lt m _ _ _ hm
  obtain ⟨a1, rfl, w1⟩ := open_raw (hval 1 50 v1 rfl rfl) h1
  have k2 := h2
  have lt2 : ∀ x ∈ p2, x.block < W.heap.size := by obtain ⟨m, hm⟩ := k2; exact DataW.trod_lt m _ _ _ hm
  obtain ⟨a2, rfl, w2⟩ := open_raw (hval 2 50 v2 rfl rfl) h2
  have k3 := h3
  have lt3 : ∀ x ∈ p3, x.block < W.heap.size := by obtain ⟨m, hm⟩ := k3; exact DataW.trod_lt m _ _ _ hm
  obtain ⟨a3, rfl, w3⟩ := open_raw (hval 3 50 v3 rfl rfl) h3
  clear hA0 hval0 hsz0
  refine (valueOrderly_walk a0 a1 a2 a3 W (int_lo w0) (int_hi w0) w1 w2 w3).mono fun e W' ⟨he, bel⟩ => ?_
  subst he
  exact ⟨_, rfl, _, _, _, [], _, [], hW', trodAll_mk1 (shut_bool Try.underlying4 _), (trodAll_cons_mk (Below.trod laidOutTrue (by kernel_rfl) (of_decide_eq_true (by kernel_rfl)) k0 bel lt0) (trodAll_cons_mk (Below.trod laidOutTrue (by kernel_rfl) (of_decide_eq_true (by kernel_rfl)) k1 bel lt1) (trodAll_cons_mk (Below.trod laidOutTrue (by kernel_rfl) (of_decide_eq_true (by kernel_rfl)) k2 bel lt2) (trodAll_cons_mk (Below.trod laidOutTrue (by kernel_rfl) (of_decide_eq_true (by kernel_rfl)) k3 bel lt3) trodAll_mk0)))), rfl, bel.frame _, fun h => by cases h⟩

theorem over : Rows.valueOrderlyRow.holds Try.pinned (OpenSpec.ofChange Rows.valueOrderlySpec) :=
  OpenClaim.holds_of_wide 9 Try.f9 rfl rfl rfl rfl rfl rfl rfl ⟨rfl, rfl, rfl, rfl, rfl⟩ rfl rfl rfl rfl rfl (by kernel_rfl) Try.func9 (by kernel_rfl)
    (of_decide_eq_true (by kernel_rfl)) (by unfold Func.isWrapper; first | (rw [if_pos (by decide +kernel)]; kernel_rfl) | (rw [if_neg (by decide +kernel)]; exact ⟨rfl, rfl⟩))
    (fun os started H enc _ => lifted os started H enc)

end valueOrderlyLaw
theorem valueOrderly_holds : Rows.ValueOrderlySaid := valueOrderlyLaw.over
#print axioms valueOrderly_holds
end Go.Proofs.Ytpckomnpeainlaa
