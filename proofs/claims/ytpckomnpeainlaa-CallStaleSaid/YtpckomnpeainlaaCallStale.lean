/-
  For all numbers and raw things CallStale returns true: what does not belong to a call does not change it, and a result is taken once. No condition.
-/
import Derived.Test.YtpckomnpeainlaaBox10
import Derived.Test.YtpckomnpeainlaaVal
import Derived.Test.YtpckomnpeainlaaGuard
namespace Go.Proofs.Ytpckomnpeainlaa
open Go.RowKit

set_option maxRecDepth 100000 in
set_option maxHeartbeats 16000000 in
theorem callStale_walk (a b : Int) (r s : RawD) (id : Int) (w : World) (h0 : -9223372036854775808 ≤ a) (h1 : a ≤ 9223372036854775807) (h2 : -9223372036854775808 ≤ b) (h3 : b ≤ 9223372036854775807)
    (hr : r.ok) (hs : s.ok) (h6 : -9223372036854775808 ≤ id) (h7 : id ≤ 9223372036854775807) :
    Calls Try.prog 10 #[.int .i64 a, .int .i64 b, r.val, s.val, .int .i64 id] w fun e w' => e = .returned (.bool true) ∧ Below w.heap.size w w' := by
  have s0 := pickL_lo id 100 (by omega)
  have s1 := pickL_hi id 100 (by omega)
  have HR := Lib.hid hr
  have HS := Lib.hid hs
  clear hr hs
  have bx1 := (Box.new w #[.int .i64 r.k, .int .i64 r.a, .int .i64 r.b, .string r.t] 50).alloc (.cells #[.int .i64 s.k, .int .i64 s.a, .int .i64 s.b, .string s.t] 50)
  have BX1 := Lib.hid bx1
  clear bx1
  have bx2 := Box.new (w.alloc (.cells #[.int .i64 r.k, .int .i64 r.a, .int .i64 r.b, .string r.t] 50)) #[.int .i64 s.k, .int .i64 s.a, .int .i64 s.b, .string s.t] 50
  rw [show (w.alloc (.cells #[.int .i64 r.k, .int .i64 r.a, .int .i64 r.b, .string r.t] 50)).heap.size = w.heap.size + 1 from by simp] at bx2
  have BX2 := Lib.hid bx2
  clear bx2
  have bw := bthen ((Below.refl w.heap.size w).alloc (Nat.le_refl _) (.cells #[.int .i64 r.k, .int .i64 r.a, .int .i64 r.b, .string r.t] 50)) ((Below.refl _ _).alloc (Nat.le_refl _) (.cells #[.int .i64 s.k, .int .i64 s.a, .int .i64 s.b, .string s.t] 50))
  have BW := Lib.hid bw
  clear bw
  go_enter Try.func10, Try.ntmps10
  go_wp2_with fail
  with_reducible refine (policy_any a b 9 _ h0 h1 h2 h3 (by omega) (by omega)).mono ?_
  rintro e u1 ⟨t, p, q, g0, g1, g2, g3, g4, g5, rfl, hb⟩
  clear h0 h1 h2 h3
  have hx := BX1.out
  have hy := BX2.out
  have hw := BW.out
  clear BX1 BX2 BW
  go_wp2_with fail
  generalize hB0 : w.heap.size = B0 at *
  replace hw := hw.trans (hb.mono (by have := hw.size; omega))
  replace hx := hx.keep hb
  replace hy := hy.keep hb
  clear hb
  have hp := Box.new u1 #[.int .i64 t, .int .i64 p, .int .i64 q] 45
  have d_B1_hx := hx.lt
  replace hx := hx.alloc (.cells #[.int .i64 t, .int .i64 p, .int .i64 q] 45)
  have d_B1_hy := hy.lt
  replace hy := hy.alloc (.cells #[.int .i64 t, .int .i64 p, .int .i64 q] 45)
  have d_B1 := hw.size
  replace hw := hw.alloc (by have := hw.size; omega) (.cells #[.int .i64 t, .int .i64 p, .int .i64 q] 45)
  have Z_V1 := Lib.hid (show (u1.alloc (.cells #[.int .i64 t, .int .i64 p, .int .i64 q] 45)).heap.size = u1.heap.size + 1 from by simp)
  generalize u1.alloc (.cells #[.int .i64 t, .int .i64 p, .int .i64 q] 45) = V1 at *
  generalize u1.heap.size = B1 at *
  have hkn := val_known 1 r.k r.a r.t (by omega) (by omega)
  have hkn2 := val_known 1 s.k s.a s.t (by omega) (by omega)
  have hkt := val_known 3 s.k s.a s.t (by omega) (by omega)
  have HV := fun w => Lib.hid (val_int r w HR.out)
  have HV' := Lib.hid HV
  have HU := fun w => Lib.hid (val_int s w HS.out)
  have HU' := Lib.hid HU
  have HW := fun w => Lib.hid (val_any 3 s w (by omega) (by omega) HS.out)
  have HW' := Lib.hid HW
  clear HV HU HW HR HS
  generalize valN 1 r.k r.a = kn at *
  generalize valN 1 s.k s.a = sn at *
  have e3 : valN 3 s.k s.a = 0 := by simp [valN]
  rw [e3] at hkt HW'
  generalize valS 3 s.t = hs at *
  have hkn' : KnownV 1 kn ⟨#[]⟩ := hkn
  have hks' : KnownV 1 sn ⟨#[]⟩ := hkn2
  have kb : -1099511627776 ≤ kn ∧ kn ≤ 1099511627776 := by
    rcases hkn' with ⟨_, ⟨a, b⟩, _⟩ | ⟨h, _⟩ | ⟨h, _⟩
    · exact ⟨a, b⟩
    · omega
    · omega
  obtain ⟨kb0, kb1⟩ := kb
  have HKN := Lib.hid hkn'
  have HKS := Lib.hid hks'
  have HKT := Lib.hid hkt
  clear hkn hkn' hkn2 hks' hkt e3
  have OP : Hid (OkPol t p q) := ⟨g0, g1, g2, g3, by omega⟩
  obtain ⟨TT, HT⟩ : ∃ T : List (Nat × Nat × Value), RowKit.Hid (T = [(0, 35, r.val), (1, 36, .agg #[.int .i64 1, .int .i64 kn, .string ⟨#[]⟩]), (2, 37, s.val), (3, 38, .agg #[.int .i64 3, .int .i64 0, .string hs])]) := ⟨_, Lib.hid rfl⟩
  refine region_go2 (by kernel_rfl) (by kernel_rfl) TT
    [12, 13]
    [⟨4, 12, 6, [.int .i64 0, .int .i64 0, .string ⟨#[]⟩], [.int .i64 1, .int .i64 kn, .string ⟨#[]⟩]⟩, ⟨5, 13, 7, [.int .i64 0, .int .i64 0, .string ⟨#[]⟩], [.int .i64 3, .int .i64 0, .string hs]⟩]
    [(7, .pointer (some ⟨B0, 0, none⟩)), (8, .pointer (some ⟨B0 + 1, 0, none⟩))]
    8 (by rfl) (by rw [HT.out]; rfl) ?basew2 (by rw [HT.out]; rfl) ?stepw2 ?finw2
  case basew2 =>
    intro x hx
    simp only [List.mem_cons, List.not_mem_nil, or_false] at hx
    rcases hx with rfl | rfl <;> rfl
  case stepw2 =>
    intro a0 D a' w' hT hE hS hV hB
    have e7 : a'.eval (.tmp 7) = .pointer (some ⟨B0, 0, none⟩) := hE (7, _) (by simp)
    have e8 : a'.eval (.tmp 8) = .pointer (some ⟨B0 + 1, 0, none⟩) := hE (8, _) (by simp)
    have hBs := hB.size
    refine all_succ (all_succ (all_succ (all_succ (all_succ (all_succ (all_succ (all_succ (all_zero _) ?_) ?_) ?_) ?_) ?_) ?_) ?_) ?_
    all_goals
      intro o ho hn hafter
      have ho' := ho
      simp only [List.getElem?_toArray, List.getElem?_cons_zero, List.getElem?_cons_succ, Option.some.injEq] at ho'
      subst ho'
      simp [Region.binds] at hafter
    · have bb := hx.keep hB
      have c0 := bb.cells 0 _ rfl
      have c1 := bb.cells 1 _ rfl
      have c2 := bb.cells 2 _ rfl
      have c3 := bb.cells 3 _ rfl
      refine step_value (d := 35) (v := r.val) ho rfl rfl hT (mem_at HT 0 rfl) (by rfl) hS hV hB (Below.refl _ _) hBs ?_
      simp only [execOp, e7]
      go_simp
    · have f35 : a'.eval (.tmp 35) = r.val := hS.done (0, 35, r.val) (mem_at HT 0 rfl) (by simp [hafter])
      refine step_call (d := 36) (v := .agg #[.int .i64 1, .int .i64 kn, .string ⟨#[]⟩]) (f := 28) (args := #[.int .i64 1, r.val]) ho rfl rfl hT (mem_at HT 1 rfl) (by rfl) hS hV hB hBs ?_ ((HV'.out w').out)
      simp only [execOp, resolve]
      simp [f35]
      go_simp
    · have bb := hy.keep hB
      have c0 := bb.cells 0 _ rfl
      have c1 := bb.cells 1 _ rfl
      have c2 := bb.cells 2 _ rfl
      have c3 := bb.cells 3 _ rfl
      refine step_value (d := 37) (v := s.val) ho rfl rfl hT (mem_at HT 2 rfl) (by rfl) hS hV hB (Below.refl _ _) hBs ?_
      simp only [execOp, e8]
      go_simp
    · have f37 : a'.eval (.tmp 37) = s.val := hS.done (2, 37, s.val) (mem_at HT 2 rfl) (by simp [hafter])
      refine step_call (d := 38) (v := .agg #[.int .i64 3, .int .i64 0, .string hs]) (f := 28) (args := #[.int .i64 3, s.val]) ho rfl rfl hT (mem_at HT 3 rfl) (by rfl) hS hV hB hBs ?_ ((HW'.out w').out)
      simp only [execOp, resolve]
      simp [f37]
      go_simp
    · refine step_alloc (x := ⟨4, 12, 6, [.int .i64 0, .int .i64 0, .string ⟨#[]⟩], [.int .i64 1, .int .i64 kn, .string ⟨#[]⟩]⟩) (cs := #[.int .i64 0, .int .i64 0, .string ⟨#[]⟩]) (t := 29) ho rfl rfl hT (by rfl) (by simp) (by simp) (by rw [HT.out]; rfl) hn hS hV hB hBs rfl ?_
      simp only [execOp]
      go_simp
    · refine step_alloc (x := ⟨5, 13, 7, [.int .i64 0, .int .i64 0, .string ⟨#[]⟩], [.int .i64 3, .int .i64 0, .string hs]⟩) (cs := #[.int .i64 0, .int .i64 0, .string ⟨#[]⟩]) (t := 29) ho rfl rfl hT (by rfl) (by simp) (by simp) (by rw [HT.out]; rfl) hn hS hV hB hBs rfl ?_
      simp only [execOp]
      go_simp
    · have f36 : a'.eval (.tmp 36) = .agg #[.int .i64 1, .int .i64 kn, .string ⟨#[]⟩] := hS.done (1, 36, .agg #[.int .i64 1, .int .i64 kn, .string ⟨#[]⟩]) (mem_at HT 1 rfl) (by simp [hafter])
      refine step_store (x := ⟨4, 12, 6, [.int .i64 0, .int .i64 0, .string ⟨#[]⟩], [.int .i64 1, .int .i64 kn, .string ⟨#[]⟩]⟩) ho rfl rfl (by rfl) (by simp) (by rw [HT.out]; rfl) hn (by simp [hafter]) hS hV hB (fun g hg hbox => ?_)
      have c0 := hbox.cells 0 _ rfl
      have c1 := hbox.cells 1 _ rfl
      have c2 := hbox.cells 2 _ rfl
      have k0 := hbox.free 0
      have k1 := hbox.free 1
      have k2 := hbox.free 2
      refine ⟨_, ?_, only3 _ _ _, set3_box _ _ _ hbox⟩
      simp only [execOp, f36, hg]
      go_simp
    · have f38 : a'.eval (.tmp 38) = .agg #[.int .i64 3, .int .i64 0, .string hs] := hS.done (3, 38, .agg #[.int .i64 3, .int .i64 0, .string hs]) (mem_at HT 3 rfl) (by simp [hafter])
      refine step_store (x := ⟨5, 13, 7, [.int .i64 0, .int .i64 0, .string ⟨#[]⟩], [.int .i64 3, .int .i64 0, .string hs]⟩) ho rfl rfl (by rfl) (by simp) (by rw [HT.out]; rfl) hn (by simp [hafter]) hS hV hB (fun g hg hbox => ?_)
      have c0 := hbox.cells 0 _ rfl
      have c1 := hbox.cells 1 _ rfl
      have c2 := hbox.cells 2 _ rfl
      have k0 := hbox.free 0
      have k1 := hbox.free 1
      have k2 := hbox.free 2
      refine ⟨_, ?_, only3 _ _ _, set3_box _ _ _ hbox⟩
      simp only [execOp, f38, hg]
      go_simp
  intro a' w2 hS hV hB
  obtain ⟨gk, f12, l12, hk⟩ := hV.fin (x := ⟨4, 12, 6, [.int .i64 0, .int .i64 0, .string ⟨#[]⟩], [.int .i64 1, .int .i64 kn, .string ⟨#[]⟩]⟩) (by simp) (by show (4 : Nat) < 8; omega) (by show (6 : Nat) < 8; omega)
  have hk : Box w2 gk [.int .i64 1, .int .i64 kn, .string ⟨#[]⟩] := hk
  obtain ⟨gh, f13, l13, hh⟩ := hV.fin (x := ⟨5, 13, 7, [.int .i64 0, .int .i64 0, .string ⟨#[]⟩], [.int .i64 3, .int .i64 0, .string hs]⟩) (by simp) (by show (5 : Nat) < 8; omega) (by show (7 : Nat) < 8; omega)
  have hh : Box w2 gh [.int .i64 3, .int .i64 0, .string hs] := hh
  have HT' := HT.out
  subst HT'
  have e := hS.all (by rfl) (by decide) (fun x hx => of_decide_eq_true (List.all_eq_true.1 (show List.all _ (fun x : Nat × Nat × Value => decide (x.1 < 8)) = true from by rfl) x hx)) [(12, .pointer (some ⟨gk, 0, none⟩)), (13, .pointer (some ⟨gh, 0, none⟩))] rfl (by
    intro x hx
    simp only [List.mem_cons, List.not_mem_nil, or_false] at hx
    rcases hx with rfl | rfl
    · exact f12
    · exact f13)
  subst e
  clear hS hV HT f12 f13
  simp only [puts, List.map_cons, List.map_nil, List.cons_append, List.nil_append, List.foldl_cons, List.foldl_nil]
  replace hw := hw.trans (hB.mono (by have := hw.size; omega))
  have d_gk_hx : B0 < gk := by have := hx.lt; omega
  have d_gk_hy : B0 + 1 < gk := by have := hy.lt; omega
  have d_gh_hx : B0 < gh := by have := hx.lt; omega
  have d_gh_hy : B0 + 1 < gh := by have := hy.lt; omega
  replace hx := hx.keep hB
  replace hy := hy.keep hB
  replace hp := hp.keep hB
  clear hB l12 l13
  have c0 := hp.cells 0 _ rfl
  have c1 := hp.cells 1 _ rfl
  have c2 := hp.cells 2 _ rfl
  have k0 := hk.cells 0 _ rfl
  have k1 := hk.cells 1 _ rfl
  have k2 := hk.cells 2 _ rfl
  go_wp2_with fail
  with_reducible refine (call_start t p q 7 1 kn 0 ⟨#[]⟩ _ OP.out (by omega) (by omega) (by omega) (by omega) HKN.out).mono ?_
  rintro e u3 ⟨rfl, hb⟩
  clear c0 c1 c2 k0 k1 k2
  replace hw := hw.trans (hb.mono (by have := hw.size; omega))
  replace hx := hx.keep hb
  replace hy := hy.keep hb
  replace hp := hp.keep hb
  replace hk := hk.keep hb
  replace hh := hh.keep hb
  clear hb
  have k0 := hk.cells 0 _ rfl
  have k1 := hk.cells 1 _ rfl
  have k2 := hk.cells 2 _ rfl
  have gl := hk.lt
  go_wp2_with fail
  with_reducible refine (picked_any id 100 _ h6 h7 (by omega) (by omega)).mono ?_
  rintro e w' ⟨rfl, rfl⟩
  clear k0 k1 k2
  clear gl h6 h7
  generalize pickL id 100 = ni at *
  have hc := Box.new u3 #[.int .i64 1, .int .i64 7, .int .i64 1, .int .i64 1, .int .i64 kn, .string ⟨#[]⟩, .int .i64 0, .int .i64 0, .string ⟨#[]⟩, .int .i64 p] 56
  have d_gx_hx := hx.lt
  replace hx := hx.alloc (.cells #[.int .i64 1, .int .i64 7, .int .i64 1, .int .i64 1, .int .i64 kn, .string ⟨#[]⟩, .int .i64 0, .int .i64 0, .string ⟨#[]⟩, .int .i64 p] 56)
  have d_gx_hy := hy.lt
  replace hy := hy.alloc (.cells #[.int .i64 1, .int .i64 7, .int .i64 1, .int .i64 1, .int .i64 kn, .string ⟨#[]⟩, .int .i64 0, .int .i64 0, .string ⟨#[]⟩, .int .i64 p] 56)
  have d_gx_hp := hp.lt
  replace hp := hp.alloc (.cells #[.int .i64 1, .int .i64 7, .int .i64 1, .int .i64 1, .int .i64 kn, .string ⟨#[]⟩, .int .i64 0, .int .i64 0, .string ⟨#[]⟩, .int .i64 p] 56)
  have d_gx_hk := hk.lt
  replace hk := hk.alloc (.cells #[.int .i64 1, .int .i64 7, .int .i64 1, .int .i64 1, .int .i64 kn, .string ⟨#[]⟩, .int .i64 0, .int .i64 0, .string ⟨#[]⟩, .int .i64 p] 56)
  have d_gx_hh := hh.lt
  replace hh := hh.alloc (.cells #[.int .i64 1, .int .i64 7, .int .i64 1, .int .i64 1, .int .i64 kn, .string ⟨#[]⟩, .int .i64 0, .int .i64 0, .string ⟨#[]⟩, .int .i64 p] 56)
  have d_gx := hw.size
  replace hw := hw.alloc (by have := hw.size; omega) (.cells #[.int .i64 1, .int .i64 7, .int .i64 1, .int .i64 1, .int .i64 kn, .string ⟨#[]⟩, .int .i64 0, .int .i64 0, .string ⟨#[]⟩, .int .i64 p] 56)
  have Z_V3 := Lib.hid (show (u3.alloc (.cells #[.int .i64 1, .int .i64 7, .int .i64 1, .int .i64 1, .int .i64 kn, .string ⟨#[]⟩, .int .i64 0, .int .i64 0, .string ⟨#[]⟩, .int .i64 p] 56)).heap.size = u3.heap.size + 1 from by simp)
  generalize u3.alloc (.cells #[.int .i64 1, .int .i64 7, .int .i64 1, .int .i64 1, .int .i64 kn, .string ⟨#[]⟩, .int .i64 0, .int .i64 0, .string ⟨#[]⟩, .int .i64 p] 56) = V3 at *
  generalize u3.heap.size = gx at *
  have ho := Box.new V3 #[.int .i64 1, .int .i64 (kn + 1), .string ⟨#[]⟩] 29
  have d_gx_1_hx := hx.lt
  replace hx := hx.alloc (.cells #[.int .i64 1, .int .i64 (kn + 1), .string ⟨#[]⟩] 29)
  have d_gx_1_hy := hy.lt
  replace hy := hy.alloc (.cells #[.int .i64 1, .int .i64 (kn + 1), .string ⟨#[]⟩] 29)
  have d_gx_1_hp := hp.lt
  replace hp := hp.alloc (.cells #[.int .i64 1, .int .i64 (kn + 1), .string ⟨#[]⟩] 29)
  have d_gx_1_hk := hk.lt
  replace hk := hk.alloc (.cells #[.int .i64 1, .int .i64 (kn + 1), .string ⟨#[]⟩] 29)
  have d_gx_1_hh := hh.lt
  replace hh := hh.alloc (.cells #[.int .i64 1, .int .i64 (kn + 1), .string ⟨#[]⟩] 29)
  have d_gx_1_hc := hc.lt
  replace hc := hc.alloc (.cells #[.int .i64 1, .int .i64 (kn + 1), .string ⟨#[]⟩] 29)
  have d_gx_1 := hw.size
  replace hw := hw.alloc (by have := hw.size; omega) (.cells #[.int .i64 1, .int .i64 (kn + 1), .string ⟨#[]⟩] 29)
  have Z_V4 := Lib.hid (show (V3.alloc (.cells #[.int .i64 1, .int .i64 (kn + 1), .string ⟨#[]⟩] 29)).heap.size = V3.heap.size + 1 from by simp)
  rw [Z_V3.out] at ho
  replace Z_V4 := Lib.hid ((Z_V4.out).trans (by rw [Z_V3.out]))
  rw [Z_V3.out] at d_gx_1
  rw [Z_V3.out] at d_gx_1_hx
  rw [Z_V3.out] at d_gx_1_hy
  rw [Z_V3.out] at d_gx_1_hp
  rw [Z_V3.out] at d_gx_1_hk
  rw [Z_V3.out] at d_gx_1_hh
  rw [Z_V3.out] at d_gx_1_hc
  generalize V3.alloc (.cells #[.int .i64 1, .int .i64 (kn + 1), .string ⟨#[]⟩] 29) = V4 at *
  have e7 : Hid (((7 : Int) != 8 + ni) = true) := by have : (7 : Int) ≠ 8 + ni := by omega
                                                     show _ = _; simpa using this
  have x0 := hc.cells 0 _ rfl
  have x1 := hc.cells 1 _ rfl
  have x2 := hc.cells 2 _ rfl
  have x3 := hc.cells 3 _ rfl
  have x4 := hc.cells 4 _ rfl
  have x5 := hc.cells 5 _ rfl
  have x6 := hc.cells 6 _ rfl
  have x7 := hc.cells 7 _ rfl
  have x8 := hc.cells 8 _ rfl
  have x9 := hc.cells 9 _ rfl
  have c0 := hp.cells 0 _ rfl
  have c1 := hp.cells 1 _ rfl
  have c2 := hp.cells 2 _ rfl
  have k0 := hk.cells 0 _ rfl
  have k1 := hk.cells 1 _ rfl
  have k2 := hk.cells 2 _ rfl
  have h0 := hh.cells 0 _ rfl
  have h1 := hh.cells 1 _ rfl
  have h2 := hh.cells 2 _ rfl
  go_wp2_with fail
  with_reducible refine (call_hear_not t p q 1 7 1 1 kn p 0 0 (8 + ni) 1 kn 3 0 ⟨#[]⟩ ⟨#[]⟩ ⟨#[]⟩ hs _ (fun w => call_check_ask t p q 7 1 1 kn p ⟨#[]⟩ w OP.out (by omega) (by omega) (by omega) (by omega) (by omega) (by omega) HKN.out) (by unfold NotMine; exact Or.inr (Or.inl ⟨by decide, e7.out⟩))).mono ?_
  rintro e u5 ⟨rfl, hb⟩
  clear x0 x1 x2 x3 x4 x5 x6 x7 x8 x9 c0 c1 c2 k0 k1 k2 h0 h1 h2
  replace hw := hw.trans (hb.mono (by have := hw.size; omega))
  replace hx := hx.keep hb
  replace hy := hy.keep hb
  replace hp := hp.keep hb
  replace hk := hk.keep hb
  replace hh := hh.keep hb
  replace hc := hc.keep hb
  replace ho := ho.keep hb
  clear hb
  have ek : Hid ((kn == kn + 1) = false) := by have : kn ≠ kn + 1 := by omega
                                               show _ = _; simpa using this
  have x0 := hc.cells 0 _ rfl
  have x1 := hc.cells 1 _ rfl
  have x2 := hc.cells 2 _ rfl
  have x3 := hc.cells 3 _ rfl
  have x4 := hc.cells 4 _ rfl
  have x5 := hc.cells 5 _ rfl
  have x6 := hc.cells 6 _ rfl
  have x7 := hc.cells 7 _ rfl
  have x8 := hc.cells 8 _ rfl
  have x9 := hc.cells 9 _ rfl
  have c0 := hp.cells 0 _ rfl
  have c1 := hp.cells 1 _ rfl
  have c2 := hp.cells 2 _ rfl
  have o0 := ho.cells 0 _ rfl
  have o1 := ho.cells 1 _ rfl
  have o2 := ho.cells 2 _ rfl
  have h0 := hh.cells 0 _ rfl
  have h1 := hh.cells 1 _ rfl
  have h2 := hh.cells 2 _ rfl
  have gl1 := hc.lt
  have gl2 := hp.lt
  have gl3 := ho.lt
  have gl4 := hh.lt
  go_wp2_with fail
  with_reducible refine (call_hear_not t p q 1 7 1 1 kn p 0 0 7 1 (kn + 1) 3 0 ⟨#[]⟩ ⟨#[]⟩ ⟨#[]⟩ hs _ (fun w => call_check_ask t p q 7 1 1 kn p ⟨#[]⟩ w OP.out (by omega) (by omega) (by omega) (by omega) (by omega) (by omega) HKN.out) (by unfold NotMine; exact Or.inr (Or.inr (Or.inr (Or.inl ⟨by decide, by decide, by decide, ek.out⟩))))).mono ?_
  rintro e u6 ⟨rfl, hb⟩
  clear x0 x1 x2 x3 x4 x5 x6 x7 x8 x9 c0 c1 c2 o0 o1 o2 h0 h1 h2
  clear gl1 gl2 gl3 gl4
  have hd := Box.new u5 #[.int .i64 1, .int .i64 7, .int .i64 1, .int .i64 1, .int .i64 kn, .string ⟨#[]⟩, .int .i64 0, .int .i64 0, .string ⟨#[]⟩, .int .i64 p] 56
  have d_gy_hx := hx.lt
  replace hx := hx.alloc (.cells #[.int .i64 1, .int .i64 7, .int .i64 1, .int .i64 1, .int .i64 kn, .string ⟨#[]⟩, .int .i64 0, .int .i64 0, .string ⟨#[]⟩, .int .i64 p] 56)
  have d_gy_hy := hy.lt
  replace hy := hy.alloc (.cells #[.int .i64 1, .int .i64 7, .int .i64 1, .int .i64 1, .int .i64 kn, .string ⟨#[]⟩, .int .i64 0, .int .i64 0, .string ⟨#[]⟩, .int .i64 p] 56)
  have d_gy_hp := hp.lt
  replace hp := hp.alloc (.cells #[.int .i64 1, .int .i64 7, .int .i64 1, .int .i64 1, .int .i64 kn, .string ⟨#[]⟩, .int .i64 0, .int .i64 0, .string ⟨#[]⟩, .int .i64 p] 56)
  have d_gy_hk := hk.lt
  replace hk := hk.alloc (.cells #[.int .i64 1, .int .i64 7, .int .i64 1, .int .i64 1, .int .i64 kn, .string ⟨#[]⟩, .int .i64 0, .int .i64 0, .string ⟨#[]⟩, .int .i64 p] 56)
  have d_gy_hh := hh.lt
  replace hh := hh.alloc (.cells #[.int .i64 1, .int .i64 7, .int .i64 1, .int .i64 1, .int .i64 kn, .string ⟨#[]⟩, .int .i64 0, .int .i64 0, .string ⟨#[]⟩, .int .i64 p] 56)
  have d_gy_hc := hc.lt
  replace hc := hc.alloc (.cells #[.int .i64 1, .int .i64 7, .int .i64 1, .int .i64 1, .int .i64 kn, .string ⟨#[]⟩, .int .i64 0, .int .i64 0, .string ⟨#[]⟩, .int .i64 p] 56)
  have d_gy := hw.size
  replace hw := hw.alloc (by have := hw.size; omega) (.cells #[.int .i64 1, .int .i64 7, .int .i64 1, .int .i64 1, .int .i64 kn, .string ⟨#[]⟩, .int .i64 0, .int .i64 0, .string ⟨#[]⟩, .int .i64 p] 56)
  have Z_V5 := Lib.hid (show (u5.alloc (.cells #[.int .i64 1, .int .i64 7, .int .i64 1, .int .i64 1, .int .i64 kn, .string ⟨#[]⟩, .int .i64 0, .int .i64 0, .string ⟨#[]⟩, .int .i64 p] 56)).heap.size = u5.heap.size + 1 from by simp)
  generalize u5.alloc (.cells #[.int .i64 1, .int .i64 7, .int .i64 1, .int .i64 1, .int .i64 kn, .string ⟨#[]⟩, .int .i64 0, .int .i64 0, .string ⟨#[]⟩, .int .i64 p] 56) = V5 at *
  generalize u5.heap.size = gy at *
  replace hw := hw.trans (hb.mono (by have := hw.size; omega))
  replace hx := hx.keep hb
  replace hy := hy.keep hb
  replace hp := hp.keep hb
  replace hk := hk.keep hb
  replace hh := hh.keep hb
  replace hc := hc.keep hb
  replace hd := hd.keep hb
  clear hb
  have x0 := hc.cells 0 _ rfl
  have x1 := hc.cells 1 _ rfl
  have x2 := hc.cells 2 _ rfl
  have x3 := hc.cells 3 _ rfl
  have x4 := hc.cells 4 _ rfl
  have x5 := hc.cells 5 _ rfl
  have x6 := hc.cells 6 _ rfl
  have x7 := hc.cells 7 _ rfl
  have x8 := hc.cells 8 _ rfl
  have x9 := hc.cells 9 _ rfl
  have c0 := hp.cells 0 _ rfl
  have c1 := hp.cells 1 _ rfl
  have c2 := hp.cells 2 _ rfl
  have k0 := hk.cells 0 _ rfl
  have k1 := hk.cells 1 _ rfl
  have k2 := hk.cells 2 _ rfl
  have gl1 := hc.lt
  have gl2 := hp.lt
  have gl3 := hk.lt
  go_wp2_with fail
  with_reducible refine (call_hear_unknown t p q 7 1 1 kn p 0 0 4 0 ⟨#[]⟩ ⟨#[]⟩ ⟨#[]⟩ _ (fun w => call_check_ask t p q 7 1 1 kn p ⟨#[]⟩ w OP.out (by omega) (by omega) (by omega) (by omega) (by omega) (by omega) HKN.out) known_pending).mono ?_
  rintro e u7 ⟨rfl, hb⟩
  clear x0 x1 x2 x3 x4 x5 x6 x7 x8 x9 c0 c1 c2 k0 k1 k2
  clear gl1 gl2 gl3
  have he := Box.new u6 #[.int .i64 1, .int .i64 7, .int .i64 1, .int .i64 1, .int .i64 kn, .string ⟨#[]⟩, .int .i64 0, .int .i64 0, .string ⟨#[]⟩, .int .i64 p] 56
  have d_gz_hx := hx.lt
  replace hx := hx.alloc (.cells #[.int .i64 1, .int .i64 7, .int .i64 1, .int .i64 1, .int .i64 kn, .string ⟨#[]⟩, .int .i64 0, .int .i64 0, .string ⟨#[]⟩, .int .i64 p] 56)
  have d_gz_hy := hy.lt
  replace hy := hy.alloc (.cells #[.int .i64 1, .int .i64 7, .int .i64 1, .int .i64 1, .int .i64 kn, .string ⟨#[]⟩, .int .i64 0, .int .i64 0, .string ⟨#[]⟩, .int .i64 p] 56)
  have d_gz_hp := hp.lt
  replace hp := hp.alloc (.cells #[.int .i64 1, .int .i64 7, .int .i64 1, .int .i64 1, .int .i64 kn, .string ⟨#[]⟩, .int .i64 0, .int .i64 0, .string ⟨#[]⟩, .int .i64 p] 56)
  have d_gz_hk := hk.lt
  replace hk := hk.alloc (.cells #[.int .i64 1, .int .i64 7, .int .i64 1, .int .i64 1, .int .i64 kn, .string ⟨#[]⟩, .int .i64 0, .int .i64 0, .string ⟨#[]⟩, .int .i64 p] 56)
  have d_gz_hh := hh.lt
  replace hh := hh.alloc (.cells #[.int .i64 1, .int .i64 7, .int .i64 1, .int .i64 1, .int .i64 kn, .string ⟨#[]⟩, .int .i64 0, .int .i64 0, .string ⟨#[]⟩, .int .i64 p] 56)
  have d_gz_hc := hc.lt
  replace hc := hc.alloc (.cells #[.int .i64 1, .int .i64 7, .int .i64 1, .int .i64 1, .int .i64 kn, .string ⟨#[]⟩, .int .i64 0, .int .i64 0, .string ⟨#[]⟩, .int .i64 p] 56)
  have d_gz_hd := hd.lt
  replace hd := hd.alloc (.cells #[.int .i64 1, .int .i64 7, .int .i64 1, .int .i64 1, .int .i64 kn, .string ⟨#[]⟩, .int .i64 0, .int .i64 0, .string ⟨#[]⟩, .int .i64 p] 56)
  have d_gz := hw.size
  replace hw := hw.alloc (by have := hw.size; omega) (.cells #[.int .i64 1, .int .i64 7, .int .i64 1, .int .i64 1, .int .i64 kn, .string ⟨#[]⟩, .int .i64 0, .int .i64 0, .string ⟨#[]⟩, .int .i64 p] 56)
  have Z_V6 := Lib.hid (show (u6.alloc (.cells #[.int .i64 1, .int .i64 7, .int .i64 1, .int .i64 1, .int .i64 kn, .string ⟨#[]⟩, .int .i64 0, .int .i64 0, .string ⟨#[]⟩, .int .i64 p] 56)).heap.size = u6.heap.size + 1 from by simp)
  generalize u6.alloc (.cells #[.int .i64 1, .int .i64 7, .int .i64 1, .int .i64 1, .int .i64 kn, .string ⟨#[]⟩, .int .i64 0, .int .i64 0, .string ⟨#[]⟩, .int .i64 p] 56) = V6 at *
  generalize u6.heap.size = gz at *
  replace hw := hw.trans (hb.mono (by have := hw.size; omega))
  replace hx := hx.keep hb
  replace hy := hy.keep hb
  replace hp := hp.keep hb
  replace hk := hk.keep hb
  replace hh := hh.keep hb
  replace hc := hc.keep hb
  replace hd := hd.keep hb
  replace he := he.keep hb
  clear hb
  have x0 := hc.cells 0 _ rfl
  have x1 := hc.cells 1 _ rfl
  have x2 := hc.cells 2 _ rfl
  have x3 := hc.cells 3 _ rfl
  have x4 := hc.cells 4 _ rfl
  have x5 := hc.cells 5 _ rfl
  have x6 := hc.cells 6 _ rfl
  have x7 := hc.cells 7 _ rfl
  have x8 := hc.cells 8 _ rfl
  have x9 := hc.cells 9 _ rfl
  have c0 := hp.cells 0 _ rfl
  have c1 := hp.cells 1 _ rfl
  have c2 := hp.cells 2 _ rfl
  have k0 := hk.cells 0 _ rfl
  have k1 := hk.cells 1 _ rfl
  have k2 := hk.cells 2 _ rfl
  have h0 := hh.cells 0 _ rfl
  have h1 := hh.cells 1 _ rfl
  have h2 := hh.cells 2 _ rfl
  have gl1 := hc.lt
  have gl2 := hp.lt
  have gl3 := hk.lt
  have gl4 := hh.lt
  go_wp2_with fail
  with_reducible refine (call_hear_takes t p q 7 1 1 kn p 3 0 ⟨#[]⟩ hs _ OP.out (by omega) (by omega) (by omega) (by omega) (by omega) (by omega) HKN.out HKT.out).mono ?_
  rintro e u8 ⟨rfl, hb⟩
  clear x0 x1 x2 x3 x4 x5 x6 x7 x8 x9 c0 c1 c2 k0 k1 k2 h0 h1 h2
  clear gl1 gl2 gl3 gl4
  have hu := Box.new u7 #[.int .i64 1, .int .i64 7, .int .i64 1, .int .i64 1, .int .i64 kn, .string ⟨#[]⟩, .int .i64 0, .int .i64 0, .string ⟨#[]⟩, .int .i64 p] 56
  have d_gu_hx := hx.lt
  replace hx := hx.alloc (.cells #[.int .i64 1, .int .i64 7, .int .i64 1, .int .i64 1, .int .i64 kn, .string ⟨#[]⟩, .int .i64 0, .int .i64 0, .string ⟨#[]⟩, .int .i64 p] 56)
  have d_gu_hy := hy.lt
  replace hy := hy.alloc (.cells #[.int .i64 1, .int .i64 7, .int .i64 1, .int .i64 1, .int .i64 kn, .string ⟨#[]⟩, .int .i64 0, .int .i64 0, .string ⟨#[]⟩, .int .i64 p] 56)
  have d_gu_hp := hp.lt
  replace hp := hp.alloc (.cells #[.int .i64 1, .int .i64 7, .int .i64 1, .int .i64 1, .int .i64 kn, .string ⟨#[]⟩, .int .i64 0, .int .i64 0, .string ⟨#[]⟩, .int .i64 p] 56)
  have d_gu_hk := hk.lt
  replace hk := hk.alloc (.cells #[.int .i64 1, .int .i64 7, .int .i64 1, .int .i64 1, .int .i64 kn, .string ⟨#[]⟩, .int .i64 0, .int .i64 0, .string ⟨#[]⟩, .int .i64 p] 56)
  have d_gu_hh := hh.lt
  replace hh := hh.alloc (.cells #[.int .i64 1, .int .i64 7, .int .i64 1, .int .i64 1, .int .i64 kn, .string ⟨#[]⟩, .int .i64 0, .int .i64 0, .string ⟨#[]⟩, .int .i64 p] 56)
  have d_gu_hc := hc.lt
  replace hc := hc.alloc (.cells #[.int .i64 1, .int .i64 7, .int .i64 1, .int .i64 1, .int .i64 kn, .string ⟨#[]⟩, .int .i64 0, .int .i64 0, .string ⟨#[]⟩, .int .i64 p] 56)
  have d_gu_hd := hd.lt
  replace hd := hd.alloc (.cells #[.int .i64 1, .int .i64 7, .int .i64 1, .int .i64 1, .int .i64 kn, .string ⟨#[]⟩, .int .i64 0, .int .i64 0, .string ⟨#[]⟩, .int .i64 p] 56)
  have d_gu_he := he.lt
  replace he := he.alloc (.cells #[.int .i64 1, .int .i64 7, .int .i64 1, .int .i64 1, .int .i64 kn, .string ⟨#[]⟩, .int .i64 0, .int .i64 0, .string ⟨#[]⟩, .int .i64 p] 56)
  have d_gu := hw.size
  replace hw := hw.alloc (by have := hw.size; omega) (.cells #[.int .i64 1, .int .i64 7, .int .i64 1, .int .i64 1, .int .i64 kn, .string ⟨#[]⟩, .int .i64 0, .int .i64 0, .string ⟨#[]⟩, .int .i64 p] 56)
  have Z_V7 := Lib.hid (show (u7.alloc (.cells #[.int .i64 1, .int .i64 7, .int .i64 1, .int .i64 1, .int .i64 kn, .string ⟨#[]⟩, .int .i64 0, .int .i64 0, .string ⟨#[]⟩, .int .i64 p] 56)).heap.size = u7.heap.size + 1 from by simp)
  generalize u7.alloc (.cells #[.int .i64 1, .int .i64 7, .int .i64 1, .int .i64 1, .int .i64 kn, .string ⟨#[]⟩, .int .i64 0, .int .i64 0, .string ⟨#[]⟩, .int .i64 p] 56) = V7 at *
  generalize u7.heap.size = gu at *
  replace hw := hw.trans (hb.mono (by have := hw.size; omega))
  replace hx := hx.keep hb
  replace hy := hy.keep hb
  replace hp := hp.keep hb
  replace hk := hk.keep hb
  replace hh := hh.keep hb
  replace hc := hc.keep hb
  replace hd := hd.keep hb
  replace he := he.keep hb
  replace hu := hu.keep hb
  clear hb
  go_wp2_with fail
  have hv := Box.new u8 #[.int .i64 2, .int .i64 7, .int .i64 1, .int .i64 1, .int .i64 kn, .string ⟨#[]⟩, .int .i64 3, .int .i64 0, .string hs, .int .i64 0] 56
  have d_gv_hy := hy.lt
  replace hy := hy.alloc (.cells #[.int .i64 2, .int .i64 7, .int .i64 1, .int .i64 1, .int .i64 kn, .string ⟨#[]⟩, .int .i64 3, .int .i64 0, .string hs, .int .i64 0] 56)
  have d_gv_hp := hp.lt
  replace hp := hp.alloc (.cells #[.int .i64 2, .int .i64 7, .int .i64 1, .int .i64 1, .int .i64 kn, .string ⟨#[]⟩, .int .i64 3, .int .i64 0, .string hs, .int .i64 0] 56)
  have d_gv_hk := hk.lt
  replace hk := hk.alloc (.cells #[.int .i64 2, .int .i64 7, .int .i64 1, .int .i64 1, .int .i64 kn, .string ⟨#[]⟩, .int .i64 3, .int .i64 0, .string hs, .int .i64 0] 56)
  have d_gv_hh := hh.lt
  replace hh := hh.alloc (.cells #[.int .i64 2, .int .i64 7, .int .i64 1, .int .i64 1, .int .i64 kn, .string ⟨#[]⟩, .int .i64 3, .int .i64 0, .string hs, .int .i64 0] 56)
  have d_gv_hc := hc.lt
  replace hc := hc.alloc (.cells #[.int .i64 2, .int .i64 7, .int .i64 1, .int .i64 1, .int .i64 kn, .string ⟨#[]⟩, .int .i64 3, .int .i64 0, .string hs, .int .i64 0] 56)
  have d_gv_hd := hd.lt
  replace hd := hd.alloc (.cells #[.int .i64 2, .int .i64 7, .int .i64 1, .int .i64 1, .int .i64 kn, .string ⟨#[]⟩, .int .i64 3, .int .i64 0, .string hs, .int .i64 0] 56)
  have d_gv_he := he.lt
  replace he := he.alloc (.cells #[.int .i64 2, .int .i64 7, .int .i64 1, .int .i64 1, .int .i64 kn, .string ⟨#[]⟩, .int .i64 3, .int .i64 0, .string hs, .int .i64 0] 56)
  have d_gv_hu := hu.lt
  replace hu := hu.alloc (.cells #[.int .i64 2, .int .i64 7, .int .i64 1, .int .i64 1, .int .i64 kn, .string ⟨#[]⟩, .int .i64 3, .int .i64 0, .string hs, .int .i64 0] 56)
  have d_gv := hw.size
  replace hw := hw.alloc (by have := hw.size; omega) (.cells #[.int .i64 2, .int .i64 7, .int .i64 1, .int .i64 1, .int .i64 kn, .string ⟨#[]⟩, .int .i64 3, .int .i64 0, .string hs, .int .i64 0] 56)
  have Z_V8 := Lib.hid (show (u8.alloc (.cells #[.int .i64 2, .int .i64 7, .int .i64 1, .int .i64 1, .int .i64 kn, .string ⟨#[]⟩, .int .i64 3, .int .i64 0, .string hs, .int .i64 0] 56)).heap.size = u8.heap.size + 1 from by simp)
  generalize u8.alloc (.cells #[.int .i64 2, .int .i64 7, .int .i64 1, .int .i64 1, .int .i64 kn, .string ⟨#[]⟩, .int .i64 3, .int .i64 0, .string hs, .int .i64 0] 56) = V8 at *
  generalize u8.heap.size = gv at *
  obtain ⟨TT, HT⟩ : ∃ T : List (Nat × Nat × Value), RowKit.Hid (T = [(0, 91, .agg #[.int .i64 2, .int .i64 7, .int .i64 1, .int .i64 1, .int .i64 kn, .string ⟨#[]⟩, .int .i64 3, .int .i64 0, .string hs, .int .i64 0]), (1, 92, .agg #[.int .i64 t, .int .i64 p, .int .i64 q]), (2, 93, .agg #[.int .i64 1, .int .i64 kn, .string ⟨#[]⟩]), (3, 94, s.val), (4, 95, .agg #[.int .i64 1, .int .i64 sn, .string ⟨#[]⟩]), (5, 96, .tuple #[.agg #[.int .i64 2, .int .i64 7, .int .i64 1, .int .i64 1, .int .i64 kn, .string ⟨#[]⟩, .int .i64 3, .int .i64 0, .string hs, .int .i64 0], .bool false, .int .i64 0]), (6, 90, .tuple #[.agg #[.int .i64 2, .int .i64 7, .int .i64 1, .int .i64 1, .int .i64 kn, .string ⟨#[]⟩, .int .i64 3, .int .i64 0, .string hs, .int .i64 0], .bool false, .int .i64 0]), (7, 97, .agg #[.int .i64 2, .int .i64 7, .int .i64 1, .int .i64 1, .int .i64 kn, .string ⟨#[]⟩, .int .i64 3, .int .i64 0, .string hs, .int .i64 0]), (8, 98, .bool false), (9, 99, .int .i64 0), (12, 30, .bool false), (13, 31, .int .i64 0)]) := ⟨_, Lib.hid rfl⟩
  refine region_go2 (by kernel_rfl) (by kernel_rfl) TT
    [29]
    [⟨10, 29, 11, [.int .i64 0, .int .i64 0, .int .i64 0, .int .i64 0, .int .i64 0, .string ⟨#[]⟩, .int .i64 0, .int .i64 0, .string ⟨#[]⟩, .int .i64 0], [.int .i64 2, .int .i64 7, .int .i64 1, .int .i64 1, .int .i64 kn, .string ⟨#[]⟩, .int .i64 3, .int .i64 0, .string hs, .int .i64 0]⟩]
    [(8, .pointer (some ⟨B0 + 1, 0, none⟩)), (11, .pointer (some ⟨B1, 0, none⟩)), (12, .pointer (some ⟨gk, 0, none⟩)), (26, .pointer (some ⟨gv, 0, none⟩))]
    14 (by rfl) (by rw [HT.out]; rfl) ?basew9 (by rw [HT.out]; rfl) ?stepw9 ?finw9
  case basew9 =>
    intro x hx
    simp only [List.mem_cons, List.not_mem_nil, or_false] at hx
    rcases hx with rfl | rfl | rfl | rfl <;> rfl
  case stepw9 =>
    intro a0 D a' w' hT hE hS hV hB
    have e8 : a'.eval (.tmp 8) = .pointer (some ⟨B0 + 1, 0, none⟩) := hE (8, _) (by simp)
    have e11 : a'.eval (.tmp 11) = .pointer (some ⟨B1, 0, none⟩) := hE (11, _) (by simp)
    have e12 : a'.eval (.tmp 12) = .pointer (some ⟨gk, 0, none⟩) := hE (12, _) (by simp)
    have e26 : a'.eval (.tmp 26) = .pointer (some ⟨gv, 0, none⟩) := hE (26, _) (by simp)
    have hBs := hB.size
    refine all_succ (all_succ (all_succ (all_succ (all_succ (all_succ (all_succ (all_succ (all_succ (all_succ (all_succ (all_succ (all_succ (all_succ (all_zero _) ?_) ?_) ?_) ?_) ?_) ?_) ?_) ?_) ?_) ?_) ?_) ?_) ?_) ?_
    all_goals
      intro o ho hn hafter
      have ho' := ho
      simp only [List.getElem?_toArray, List.getElem?_cons_zero, List.getElem?_cons_succ, Option.some.injEq] at ho'
      subst ho'
      simp [Region.binds] at hafter
    · have bb := hv.keep hB
      have c0 := bb.cells 0 _ rfl
      have c1 := bb.cells 1 _ rfl
      have c2 := bb.cells 2 _ rfl
      have c3 := bb.cells 3 _ rfl
      have c4 := bb.cells 4 _ rfl
      have c5 := bb.cells 5 _ rfl
      have c6 := bb.cells 6 _ rfl
      have c7 := bb.cells 7 _ rfl
      have c8 := bb.cells 8 _ rfl
      have c9 := bb.cells 9 _ rfl
      refine step_value (d := 91) (v := .agg #[.int .i64 2, .int .i64 7, .int .i64 1, .int .i64 1, .int .i64 kn, .string ⟨#[]⟩, .int .i64 3, .int .i64 0, .string hs, .int .i64 0]) ho rfl rfl hT (mem_at HT 0 rfl) (by rfl) hS hV hB (Below.refl _ _) hBs ?_
      simp only [execOp, e26]
      go_simp
    · have bb := hp.keep hB
      have c0 := bb.cells 0 _ rfl
      have c1 := bb.cells 1 _ rfl
      have c2 := bb.cells 2 _ rfl
      refine step_value (d := 92) (v := .agg #[.int .i64 t, .int .i64 p, .int .i64 q]) ho rfl rfl hT (mem_at HT 1 rfl) (by rfl) hS hV hB (Below.refl _ _) hBs ?_
      simp only [execOp, e11]
      go_simp
    · have bb := hk.keep hB
      have c0 := bb.cells 0 _ rfl
      have c1 := bb.cells 1 _ rfl
      have c2 := bb.cells 2 _ rfl
      refine step_value (d := 93) (v := .agg #[.int .i64 1, .int .i64 kn, .string ⟨#[]⟩]) ho rfl rfl hT (mem_at HT 2 rfl) (by rfl) hS hV hB (Below.refl _ _) hBs ?_
      simp only [execOp, e12]
      go_simp
    · have bb := hy.keep hB
      have c0 := bb.cells 0 _ rfl
      have c1 := bb.cells 1 _ rfl
      have c2 := bb.cells 2 _ rfl
      have c3 := bb.cells 3 _ rfl
      refine step_value (d := 94) (v := s.val) ho rfl rfl hT (mem_at HT 3 rfl) (by rfl) hS hV hB (Below.refl _ _) hBs ?_
      simp only [execOp, e8]
      go_simp
    · have f94 : a'.eval (.tmp 94) = s.val := hS.done (3, 94, s.val) (mem_at HT 3 rfl) (by simp [hafter])
      refine step_call (d := 95) (v := .agg #[.int .i64 1, .int .i64 sn, .string ⟨#[]⟩]) (f := 28) (args := #[.int .i64 1, s.val]) ho rfl rfl hT (mem_at HT 4 rfl) (by rfl) hS hV hB hBs ?_ ((HU'.out w').out)
      simp only [execOp, resolve]
      simp [f94]
      go_simp
    · have f91 : a'.eval (.tmp 91) = .agg #[.int .i64 2, .int .i64 7, .int .i64 1, .int .i64 1, .int .i64 kn, .string ⟨#[]⟩, .int .i64 3, .int .i64 0, .string hs, .int .i64 0] := hS.done (0, 91, .agg #[.int .i64 2, .int .i64 7, .int .i64 1, .int .i64 1, .int .i64 kn, .string ⟨#[]⟩, .int .i64 3, .int .i64 0, .string hs, .int .i64 0]) (mem_at HT 0 rfl) (by simp [hafter])
      have f92 : a'.eval (.tmp 92) = .agg #[.int .i64 t, .int .i64 p, .int .i64 q] := hS.done (1, 92, .agg #[.int .i64 t, .int .i64 p, .int .i64 q]) (mem_at HT 1 rfl) (by simp [hafter])
      have f93 : a'.eval (.tmp 93) = .agg #[.int .i64 1, .int .i64 kn, .string ⟨#[]⟩] := hS.done (2, 93, .agg #[.int .i64 1, .int .i64 kn, .string ⟨#[]⟩]) (mem_at HT 2 rfl) (by simp [hafter])
      have f95 : a'.eval (.tmp 95) = .agg #[.int .i64 1, .int .i64 sn, .string ⟨#[]⟩] := hS.done (4, 95, .agg #[.int .i64 1, .int .i64 sn, .string ⟨#[]⟩]) (mem_at HT 4 rfl) (by simp [hafter])
      refine step_call (d := 96) (v := .tuple #[.agg #[.int .i64 2, .int .i64 7, .int .i64 1, .int .i64 1, .int .i64 kn, .string ⟨#[]⟩, .int .i64 3, .int .i64 0, .string hs, .int .i64 0], .bool false, .int .i64 0]) (f := 31) (args := #[.agg #[.int .i64 2, .int .i64 7, .int .i64 1, .int .i64 1, .int .i64 kn, .string ⟨#[]⟩, .int .i64 3, .int .i64 0, .string hs, .int .i64 0], .agg #[.int .i64 t, .int .i64 p, .int .i64 q], .int .i64 7, .agg #[.int .i64 1, .int .i64 kn, .string ⟨#[]⟩], .agg #[.int .i64 1, .int .i64 sn, .string ⟨#[]⟩]]) ho rfl rfl hT (mem_at HT 5 rfl) (by rfl) hS hV hB hBs ?_ (call_hear_not t p q 2 7 1 1 kn 0 3 0 7 1 kn 1 sn ⟨#[]⟩ hs ⟨#[]⟩ ⟨#[]⟩ w' (fun w => call_check_known t p q 7 1 1 kn 3 0 ⟨#[]⟩ hs w OP.out (by omega) (by omega) (by omega) (by omega) HKN.out HKT.out) (Or.inl (by decide)))
      simp only [execOp, resolve]
      simp [f91, f92, f93, f95]
      go_simp
    · have f96 : a'.eval (.tmp 96) = .tuple #[.agg #[.int .i64 2, .int .i64 7, .int .i64 1, .int .i64 1, .int .i64 kn, .string ⟨#[]⟩, .int .i64 3, .int .i64 0, .string hs, .int .i64 0], .bool false, .int .i64 0] := hS.done (5, 96, .tuple #[.agg #[.int .i64 2, .int .i64 7, .int .i64 1, .int .i64 1, .int .i64 kn, .string ⟨#[]⟩, .int .i64 3, .int .i64 0, .string hs, .int .i64 0], .bool false, .int .i64 0]) (mem_at HT 5 rfl) (by simp [hafter])
      refine step_value (d := 90) (v := .tuple #[.agg #[.int .i64 2, .int .i64 7, .int .i64 1, .int .i64 1, .int .i64 kn, .string ⟨#[]⟩, .int .i64 3, .int .i64 0, .string hs, .int .i64 0], .bool false, .int .i64 0]) ho rfl rfl hT (mem_at HT 6 rfl) (by rfl) hS hV hB (Below.refl _ _) hBs ?_
      simp only [execOp, f96]
      go_simp
    · have f90 : a'.eval (.tmp 90) = .tuple #[.agg #[.int .i64 2, .int .i64 7, .int .i64 1, .int .i64 1, .int .i64 kn, .string ⟨#[]⟩, .int .i64 3, .int .i64 0, .string hs, .int .i64 0], .bool false, .int .i64 0] := hS.done (6, 90, .tuple #[.agg #[.int .i64 2, .int .i64 7, .int .i64 1, .int .i64 1, .int .i64 kn, .string ⟨#[]⟩, .int .i64 3, .int .i64 0, .string hs, .int .i64 0], .bool false, .int .i64 0]) (mem_at HT 6 rfl) (by simp [hafter])
      refine step_value (d := 97) (v := .agg #[.int .i64 2, .int .i64 7, .int .i64 1, .int .i64 1, .int .i64 kn, .string ⟨#[]⟩, .int .i64 3, .int .i64 0, .string hs, .int .i64 0]) ho rfl rfl hT (mem_at HT 7 rfl) (by rfl) hS hV hB (Below.refl _ _) hBs ?_
      simp only [execOp, f90]
      go_simp
    · have f90 : a'.eval (.tmp 90) = .tuple #[.agg #[.int .i64 2, .int .i64 7, .int .i64 1, .int .i64 1, .int .i64 kn, .string ⟨#[]⟩, .int .i64 3, .int .i64 0, .string hs, .int .i64 0], .bool false, .int .i64 0] := hS.done (6, 90, .tuple #[.agg #[.int .i64 2, .int .i64 7, .int .i64 1, .int .i64 1, .int .i64 kn, .string ⟨#[]⟩, .int .i64 3, .int .i64 0, .string hs, .int .i64 0], .bool false, .int .i64 0]) (mem_at HT 6 rfl) (by simp [hafter])
      refine step_value (d := 98) (v := .bool false) ho rfl rfl hT (mem_at HT 8 rfl) (by rfl) hS hV hB (Below.refl _ _) hBs ?_
      simp only [execOp, f90]
      go_simp
    · have f90 : a'.eval (.tmp 90) = .tuple #[.agg #[.int .i64 2, .int .i64 7, .int .i64 1, .int .i64 1, .int .i64 kn, .string ⟨#[]⟩, .int .i64 3, .int .i64 0, .string hs, .int .i64 0], .bool false, .int .i64 0] := hS.done (6, 90, .tuple #[.agg #[.int .i64 2, .int .i64 7, .int .i64 1, .int .i64 1, .int .i64 kn, .string ⟨#[]⟩, .int .i64 3, .int .i64 0, .string hs, .int .i64 0], .bool false, .int .i64 0]) (mem_at HT 6 rfl) (by simp [hafter])
      refine step_value (d := 99) (v := .int .i64 0) ho rfl rfl hT (mem_at HT 9 rfl) (by rfl) hS hV hB (Below.refl _ _) hBs ?_
      simp only [execOp, f90]
      go_simp
    · refine step_alloc (x := ⟨10, 29, 11, [.int .i64 0, .int .i64 0, .int .i64 0, .int .i64 0, .int .i64 0, .string ⟨#[]⟩, .int .i64 0, .int .i64 0, .string ⟨#[]⟩, .int .i64 0], [.int .i64 2, .int .i64 7, .int .i64 1, .int .i64 1, .int .i64 kn, .string ⟨#[]⟩, .int .i64 3, .int .i64 0, .string hs, .int .i64 0]⟩) (cs := #[.int .i64 0, .int .i64 0, .int .i64 0, .int .i64 0, .int .i64 0, .string ⟨#[]⟩, .int .i64 0, .int .i64 0, .string ⟨#[]⟩, .int .i64 0]) (t := 56) ho rfl rfl hT (by rfl) (by simp) (by simp) (by rw [HT.out]; rfl) hn hS hV hB hBs rfl ?_
      simp only [execOp]
      go_simp
    · have f97 : a'.eval (.tmp 97) = .agg #[.int .i64 2, .int .i64 7, .int .i64 1, .int .i64 1, .int .i64 kn, .string ⟨#[]⟩, .int .i64 3, .int .i64 0, .string hs, .int .i64 0] := hS.done (7, 97, .agg #[.int .i64 2, .int .i64 7, .int .i64 1, .int .i64 1, .int .i64 kn, .string ⟨#[]⟩, .int .i64 3, .int .i64 0, .string hs, .int .i64 0]) (mem_at HT 7 rfl) (by simp [hafter])
      refine step_store (x := ⟨10, 29, 11, [.int .i64 0, .int .i64 0, .int .i64 0, .int .i64 0, .int .i64 0, .string ⟨#[]⟩, .int .i64 0, .int .i64 0, .string ⟨#[]⟩, .int .i64 0], [.int .i64 2, .int .i64 7, .int .i64 1, .int .i64 1, .int .i64 kn, .string ⟨#[]⟩, .int .i64 3, .int .i64 0, .string hs, .int .i64 0]⟩) ho rfl rfl (by rfl) (by simp) (by rw [HT.out]; rfl) hn (by simp [hafter]) hS hV hB (fun g hg hbox => ?_)
      have c0 := hbox.cells 0 _ rfl
      have c1 := hbox.cells 1 _ rfl
      have c2 := hbox.cells 2 _ rfl
      have c3 := hbox.cells 3 _ rfl
      have c4 := hbox.cells 4 _ rfl
      have c5 := hbox.cells 5 _ rfl
      have c6 := hbox.cells 6 _ rfl
      have c7 := hbox.cells 7 _ rfl
      have c8 := hbox.cells 8 _ rfl
      have c9 := hbox.cells 9 _ rfl
      have k0 := hbox.free 0
      have k1 := hbox.free 1
      have k2 := hbox.free 2
      have k3 := hbox.free 3
      have k4 := hbox.free 4
      have k5 := hbox.free 5
      have k6 := hbox.free 6
      have k7 := hbox.free 7
      have k8 := hbox.free 8
      have k9 := hbox.free 9
      refine ⟨_, ?_, only10 _ _ _ _ _ _ _ _ _ _, set10_box _ _ _ _ _ _ _ _ _ _ hbox⟩
      simp only [execOp, f97, hg]
      go_simp
    · have f98 : a'.eval (.tmp 98) = .bool false := hS.done (8, 98, .bool false) (mem_at HT 8 rfl) (by simp [hafter])
      refine step_value (d := 30) (v := .bool false) ho rfl rfl hT (mem_at HT 10 rfl) (by rfl) hS hV hB (Below.refl _ _) hBs ?_
      simp only [execOp, f98]
      go_simp
    · have f99 : a'.eval (.tmp 99) = .int .i64 0 := hS.done (9, 99, .int .i64 0) (mem_at HT 9 rfl) (by simp [hafter])
      refine step_value (d := 31) (v := .int .i64 0) ho rfl rfl hT (mem_at HT 11 rfl) (by rfl) hS hV hB (Below.refl _ _) hBs ?_
      simp only [execOp, f99]
      go_simp
  intro a' w9 hS hV hB
  obtain ⟨gn, f29, l29, hn⟩ := hV.fin (x := ⟨10, 29, 11, [.int .i64 0, .int .i64 0, .int .i64 0, .int .i64 0, .int .i64 0, .string ⟨#[]⟩, .int .i64 0, .int .i64 0, .string ⟨#[]⟩, .int .i64 0], [.int .i64 2, .int .i64 7, .int .i64 1, .int .i64 1, .int .i64 kn, .string ⟨#[]⟩, .int .i64 3, .int .i64 0, .string hs, .int .i64 0]⟩) (by simp) (by show (10 : Nat) < 14; omega) (by show (11 : Nat) < 14; omega)
  have hn : Box w9 gn [.int .i64 2, .int .i64 7, .int .i64 1, .int .i64 1, .int .i64 kn, .string ⟨#[]⟩, .int .i64 3, .int .i64 0, .string hs, .int .i64 0] := hn
  have HT' := HT.out
  subst HT'
  have e := hS.all (by rfl) (by decide) (fun x hx => of_decide_eq_true (List.all_eq_true.1 (show List.all _ (fun x : Nat × Nat × Value => decide (x.1 < 14)) = true from by rfl) x hx)) [(29, .pointer (some ⟨gn, 0, none⟩))] rfl (by
    intro x hx
    simp only [List.mem_cons, List.not_mem_nil, or_false] at hx
    subst hx
    exact f29)
  subst e
  clear hS hV HT f29
  simp only [puts, List.map_cons, List.map_nil, List.cons_append, List.nil_append, List.foldl_cons, List.foldl_nil]
  replace hw := hw.trans (hB.mono (by have := hw.size; omega))
  have d_gn_hp : B1 < gn := by have := hp.lt; omega
  have d_gn_hk : gk < gn := by have := hk.lt; omega
  have d_gn_hh : gh < gn := by have := hh.lt; omega
  have d_gn_hc : gx < gn := by have := hc.lt; omega
  have d_gn_hd : gy < gn := by have := hd.lt; omega
  have d_gn_he : gz < gn := by have := he.lt; omega
  have d_gn_hu : gu < gn := by have := hu.lt; omega
  have d_gn_hv : gv < gn := by have := hv.lt; omega
  replace hp := hp.keep hB
  replace hk := hk.keep hB
  replace hh := hh.keep hB
  replace hc := hc.keep hB
  replace hd := hd.keep hB
  replace he := he.keep hB
  replace hu := hu.keep hB
  replace hv := hv.keep hB
  clear hB hy l29
  have hn2 := hn
  go_wp2_with fail
  obtain ⟨TT, HT⟩ : ∃ T : List (Nat × Nat × Value), RowKit.Hid (T = [(0, 100, .int .i64 0), (1, 101, .bool true), (2, 102, .bool true), (3, 103, .int .i64 0), (4, 104, .bool true), (5, 105, .bool true), (6, 106, .bool true), (7, 107, .int .i64 0), (8, 108, .bool true), (9, 109, .bool true), (10, 110, .bool true), (11, 111, .int .i64 0), (12, 112, .bool true), (13, 113, .bool true), (14, 114, .bool true), (15, 115, .int .i64 0), (16, 116, .bool true), (17, 117, .bool true), (18, 118, .bool true), (19, 119, .int .i64 0), (20, 120, .bool true), (21, 121, .bool true), (22, 122, .bool true), (23, 123, .bool false), (24, 124, .bool true), (25, 125, .bool true), (26, 126, .bool true), (27, 127, .bool false), (28, 128, .bool true), (29, 129, .bool true), (30, 130, .bool true), (31, 131, .bool false), (32, 132, .bool true), (33, 133, .bool true), (34, 134, .bool true), (35, 135, .bool true), (36, 136, .bool true), (37, 137, .bool true), (38, 138, .bool false), (39, 139, .bool true), (40, 140, .bool true), (41, 141, .bool true), (42, 142, .agg #[.int .i64 1, .int .i64 7, .int .i64 1, .int .i64 1, .int .i64 kn, .string ⟨#[]⟩, .int .i64 0, .int .i64 0, .string ⟨#[]⟩, .int .i64 p]), (43, 143, .agg #[.int .i64 1, .int .i64 7, .int .i64 1, .int .i64 1, .int .i64 kn, .string ⟨#[]⟩, .int .i64 0, .int .i64 0, .string ⟨#[]⟩, .int .i64 p]), (44, 144, .bool true), (45, 145, .bool true), (46, 146, .bool true), (47, 147, .agg #[.int .i64 1, .int .i64 7, .int .i64 1, .int .i64 1, .int .i64 kn, .string ⟨#[]⟩, .int .i64 0, .int .i64 0, .string ⟨#[]⟩, .int .i64 p]), (48, 148, .agg #[.int .i64 1, .int .i64 7, .int .i64 1, .int .i64 1, .int .i64 kn, .string ⟨#[]⟩, .int .i64 0, .int .i64 0, .string ⟨#[]⟩, .int .i64 p]), (49, 149, .bool true), (50, 150, .bool true), (51, 151, .bool true), (52, 152, .agg #[.int .i64 1, .int .i64 7, .int .i64 1, .int .i64 1, .int .i64 kn, .string ⟨#[]⟩, .int .i64 0, .int .i64 0, .string ⟨#[]⟩, .int .i64 p]), (53, 153, .agg #[.int .i64 1, .int .i64 7, .int .i64 1, .int .i64 1, .int .i64 kn, .string ⟨#[]⟩, .int .i64 0, .int .i64 0, .string ⟨#[]⟩, .int .i64 p]), (54, 154, .bool true), (55, 155, .bool true), (56, 156, .bool true), (57, 157, .agg #[.int .i64 2, .int .i64 7, .int .i64 1, .int .i64 1, .int .i64 kn, .string ⟨#[]⟩, .int .i64 3, .int .i64 0, .string hs, .int .i64 0]), (58, 158, .agg #[.int .i64 2, .int .i64 7, .int .i64 1, .int .i64 1, .int .i64 kn, .string ⟨#[]⟩, .int .i64 3, .int .i64 0, .string hs, .int .i64 0]), (59, 159, .bool true), (60, 160, .bool true), (61, 161, .bool true), (62, 162, .agg #[.int .i64 1, .int .i64 7, .int .i64 1, .int .i64 1, .int .i64 kn, .string ⟨#[]⟩, .int .i64 0, .int .i64 0, .string ⟨#[]⟩, .int .i64 p]), (63, 163, .agg #[.int .i64 4, .int .i64 0, .string ⟨#[]⟩]), (64, 164, .int .i64 4), (65, 165, .bool true), (66, 166, .bool true), (67, 167, .bool true), (68, 168, .agg #[.int .i64 2, .int .i64 7, .int .i64 1, .int .i64 1, .int .i64 kn, .string ⟨#[]⟩, .int .i64 3, .int .i64 0, .string hs, .int .i64 0]), (69, 169, .agg #[.int .i64 3, .int .i64 0, .string hs]), (70, 170, .agg #[.int .i64 3, .int .i64 0, .string hs]), (71, 171, .bool true), (72, 172, .bool true), (73, 10, .bool true)]) := ⟨_, Lib.hid rfl⟩
  refine region_go2 (by kernel_rfl) (by kernel_rfl) TT
    []
    []
    [(13, .pointer (some ⟨gh, 0, none⟩)), (14, .pointer (some ⟨gx, 0, none⟩)), (17, .pointer (some ⟨gy, 0, none⟩)), (20, .pointer (some ⟨gz, 0, none⟩)), (23, .pointer (some ⟨gu, 0, none⟩)), (26, .pointer (some ⟨gv, 0, none⟩)), (29, .pointer (some ⟨gn, 0, none⟩)), (15, .int .i64 0), (18, .bool false), (19, .int .i64 0), (21, .bool false), (22, .int .i64 0), (24, .bool false), (25, .int .i64 0), (27, .bool true), (28, .int .i64 0), (30, .bool false), (31, .int .i64 0)]
    74 (by rfl) (by rw [HT.out]; rfl) ?basew10 (by rw [HT.out]; rfl) ?stepw10 ?finw10
  case basew10 =>
    intro x hx
    simp only [List.mem_cons, List.not_mem_nil, or_false] at hx
    rcases hx with rfl | rfl | rfl | rfl | rfl | rfl | rfl | rfl | rfl | rfl | rfl | rfl | rfl | rfl | rfl | rfl | rfl | rfl <;> rfl
  case stepw10 =>
    intro a0 D a' w' hT hE hS hV hB
    have e13 : a'.eval (.tmp 13) = .pointer (some ⟨gh, 0, none⟩) := hE (13, _) (by simp)
    have e14 : a'.eval (.tmp 14) = .pointer (some ⟨gx, 0, none⟩) := hE (14, _) (by simp)
    have e17 : a'.eval (.tmp 17) = .pointer (some ⟨gy, 0, none⟩) := hE (17, _) (by simp)
    have e20 : a'.eval (.tmp 20) = .pointer (some ⟨gz, 0, none⟩) := hE (20, _) (by simp)
    have e23 : a'.eval (.tmp 23) = .pointer (some ⟨gu, 0, none⟩) := hE (23, _) (by simp)
    have e26 : a'.eval (.tmp 26) = .pointer (some ⟨gv, 0, none⟩) := hE (26, _) (by simp)
    have e29 : a'.eval (.tmp 29) = .pointer (some ⟨gn, 0, none⟩) := hE (29, _) (by simp)
    have e15 : a'.eval (.tmp 15) = .int .i64 0 := hE (15, _) (by simp)
    have e18 : a'.eval (.tmp 18) = .bool false := hE (18, _) (by simp)
    have e19 : a'.eval (.tmp 19) = .int .i64 0 := hE (19, _) (by simp)
    have e21 : a'.eval (.tmp 21) = .bool false := hE (21, _) (by simp)
    have e22 : a'.eval (.tmp 22) = .int .i64 0 := hE (22, _) (by simp)
    have e24 : a'.eval (.tmp 24) = .bool false := hE (24, _) (by simp)
    have e25 : a'.eval (.tmp 25) = .int .i64 0 := hE (25, _) (by simp)
    have e27 : a'.eval (.tmp 27) = .bool true := hE (27, _) (by simp)
    have e28 : a'.eval (.tmp 28) = .int .i64 0 := hE (28, _) (by simp)
    have e30 : a'.eval (.tmp 30) = .bool false := hE (30, _) (by simp)
    have e31 : a'.eval (.tmp 31) = .int .i64 0 := hE (31, _) (by simp)
    have hBs := hB.size
    refine all_succ (all_succ (all_succ (all_succ (all_succ (all_succ (all_succ (all_succ (all_succ (all_succ (all_succ (all_succ (all_succ (all_succ (all_succ (all_succ (all_succ (all_succ (all_succ (all_succ (all_succ (all_succ (all_succ (all_succ (all_succ (all_succ (all_succ (all_succ (all_succ (all_succ (all_succ (all_succ (all_succ (all_succ (all_succ (all_succ (all_succ (all_succ (all_succ (all_succ (all_succ (all_succ (all_succ (all_succ (all_succ (all_succ (all_succ (all_succ (all_succ (all_succ (all_succ (all_succ (all_succ (all_succ (all_succ (all_succ (all_succ (all_succ (all_succ (all_succ (all_succ (all_succ (all_succ (all_succ (all_succ (all_succ (all_succ (all_succ (all_succ (all_succ (all_succ (all_succ (all_succ (all_succ (all_zero _) ?_) ?_) ?_) ?_) ?_) ?_) ?_) ?_) ?_) ?_) ?_) ?_) ?_) ?_) ?_) ?_) ?_) ?_) ?_) ?_) ?_) ?_) ?_) ?_) ?_) ?_) ?_) ?_) ?_) ?_) ?_) ?_) ?_) ?_) ?_) ?_) ?_) ?_) ?_) ?_) ?_) ?_) ?_) ?_) ?_) ?_) ?_) ?_) ?_) ?_) ?_) ?_) ?_) ?_) ?_) ?_) ?_) ?_) ?_) ?_) ?_) ?_) ?_) ?_) ?_) ?_) ?_) ?_) ?_) ?_) ?_) ?_) ?_) ?_
    all_goals
      intro o ho hn hafter
      have ho' := ho
      simp only [List.getElem?_toArray, List.getElem?_cons_zero, List.getElem?_cons_succ, Option.some.injEq] at ho'
      subst ho'
      simp [Region.binds] at hafter
    · refine step_value (d := 100) (v := .int .i64 0) ho rfl rfl hT (mem_at HT 0 rfl) (by rfl) hS hV hB (Below.refl _ _) hBs ?_
      simp only [execOp, e15]
      go_simp
    · have f100 : a'.eval (.tmp 100) = .int .i64 0 := hS.done (0, 100, .int .i64 0) (mem_at HT 0 rfl) (by simp [hafter])
      refine step_value (d := 101) (v := .bool true) ho rfl rfl hT (mem_at HT 1 rfl) (by rfl) hS hV hB (Below.refl _ _) hBs ?_
      simp only [execOp, f100]
      go_simp
    · have f101 : a'.eval (.tmp 101) = .bool true := hS.done (1, 101, .bool true) (mem_at HT 1 rfl) (by simp [hafter])
      refine step_value (d := 102) (v := .bool true) ho rfl rfl hT (mem_at HT 2 rfl) (by rfl) hS hV hB (Below.refl _ _) hBs ?_
      simp only [execOp, f101]
      go_simp
    · have fg : a'.eval (.tmp 102) = .bool true := hS.done (2, 102, .bool true) (mem_at HT 2 rfl) (by simp [hafter])
      refine step_valueG (d := 103) (v := .int .i64 0) (wanted_ok true rfl rfl fg) ho rfl hT (mem_at HT 3 rfl) (by rfl) hS hV hB (Below.refl _ _) hBs ?_
      simp only [execOp, e19]
      go_simp
    · have fg : a'.eval (.tmp 102) = .bool true := hS.done (2, 102, .bool true) (mem_at HT 2 rfl) (by simp [hafter])
      have f103 : a'.eval (.tmp 103) = .int .i64 0 := hS.done (3, 103, .int .i64 0) (mem_at HT 3 rfl) (by simp [hafter])
      refine step_valueG (d := 104) (v := .bool true) (wanted_ok true rfl rfl fg) ho rfl hT (mem_at HT 4 rfl) (by rfl) hS hV hB (Below.refl _ _) hBs ?_
      simp only [execOp, f103]
      go_simp
    · have f102 : a'.eval (.tmp 102) = .bool true := hS.done (2, 102, .bool true) (mem_at HT 2 rfl) (by simp [hafter])
      have f104 : a'.eval (.tmp 104) = .bool true := hS.done (4, 104, .bool true) (mem_at HT 4 rfl) (by simp [hafter])
      refine step_value (d := 105) (v := .bool true) ho rfl rfl hT (mem_at HT 5 rfl) (by rfl) hS hV hB (Below.refl _ _) hBs ?_
      simp only [execOp, f102, f104]
      go_simp
    · have f105 : a'.eval (.tmp 105) = .bool true := hS.done (5, 105, .bool true) (mem_at HT 5 rfl) (by simp [hafter])
      refine step_value (d := 106) (v := .bool true) ho rfl rfl hT (mem_at HT 6 rfl) (by rfl) hS hV hB (Below.refl _ _) hBs ?_
      simp only [execOp, f105]
      go_simp
    · have fg : a'.eval (.tmp 106) = .bool true := hS.done (6, 106, .bool true) (mem_at HT 6 rfl) (by simp [hafter])
      refine step_valueG (d := 107) (v := .int .i64 0) (wanted_ok true rfl rfl fg) ho rfl hT (mem_at HT 7 rfl) (by rfl) hS hV hB (Below.refl _ _) hBs ?_
      simp only [execOp, e22]
      go_simp
    · have fg : a'.eval (.tmp 106) = .bool true := hS.done (6, 106, .bool true) (mem_at HT 6 rfl) (by simp [hafter])
      have f107 : a'.eval (.tmp 107) = .int .i64 0 := hS.done (7, 107, .int .i64 0) (mem_at HT 7 rfl) (by simp [hafter])
      refine step_valueG (d := 108) (v := .bool true) (wanted_ok true rfl rfl fg) ho rfl hT (mem_at HT 8 rfl) (by rfl) hS hV hB (Below.refl _ _) hBs ?_
      simp only [execOp, f107]
      go_simp
    · have f106 : a'.eval (.tmp 106) = .bool true := hS.done (6, 106, .bool true) (mem_at HT 6 rfl) (by simp [hafter])
      have f108 : a'.eval (.tmp 108) = .bool true := hS.done (8, 108, .bool true) (mem_at HT 8 rfl) (by simp [hafter])
      refine step_value (d := 109) (v := .bool true) ho rfl rfl hT (mem_at HT 9 rfl) (by rfl) hS hV hB (Below.refl _ _) hBs ?_
      simp only [execOp, f106, f108]
      go_simp
    · have f109 : a'.eval (.tmp 109) = .bool true := hS.done (9, 109, .bool true) (mem_at HT 9 rfl) (by simp [hafter])
      refine step_value (d := 110) (v := .bool true) ho rfl rfl hT (mem_at HT 10 rfl) (by rfl) hS hV hB (Below.refl _ _) hBs ?_
      simp only [execOp, f109]
      go_simp
    · have fg : a'.eval (.tmp 110) = .bool true := hS.done (10, 110, .bool true) (mem_at HT 10 rfl) (by simp [hafter])
      refine step_valueG (d := 111) (v := .int .i64 0) (wanted_ok true rfl rfl fg) ho rfl hT (mem_at HT 11 rfl) (by rfl) hS hV hB (Below.refl _ _) hBs ?_
      simp only [execOp, e25]
      go_simp
    · have fg : a'.eval (.tmp 110) = .bool true := hS.done (10, 110, .bool true) (mem_at HT 10 rfl) (by simp [hafter])
      have f111 : a'.eval (.tmp 111) = .int .i64 0 := hS.done (11, 111, .int .i64 0) (mem_at HT 11 rfl) (by simp [hafter])
      refine step_valueG (d := 112) (v := .bool true) (wanted_ok true rfl rfl fg) ho rfl hT (mem_at HT 12 rfl) (by rfl) hS hV hB (Below.refl _ _) hBs ?_
      simp only [execOp, f111]
      go_simp
    · have f110 : a'.eval (.tmp 110) = .bool true := hS.done (10, 110, .bool true) (mem_at HT 10 rfl) (by simp [hafter])
      have f112 : a'.eval (.tmp 112) = .bool true := hS.done (12, 112, .bool true) (mem_at HT 12 rfl) (by simp [hafter])
      refine step_value (d := 113) (v := .bool true) ho rfl rfl hT (mem_at HT 13 rfl) (by rfl) hS hV hB (Below.refl _ _) hBs ?_
      simp only [execOp, f110, f112]
      go_simp
    · have f113 : a'.eval (.tmp 113) = .bool true := hS.done (13, 113, .bool true) (mem_at HT 13 rfl) (by simp [hafter])
      refine step_value (d := 114) (v := .bool true) ho rfl rfl hT (mem_at HT 14 rfl) (by rfl) hS hV hB (Below.refl _ _) hBs ?_
      simp only [execOp, f113]
      go_simp
    · have fg : a'.eval (.tmp 114) = .bool true := hS.done (14, 114, .bool true) (mem_at HT 14 rfl) (by simp [hafter])
      refine step_valueG (d := 115) (v := .int .i64 0) (wanted_ok true rfl rfl fg) ho rfl hT (mem_at HT 15 rfl) (by rfl) hS hV hB (Below.refl _ _) hBs ?_
      simp only [execOp, e28]
      go_simp
    · have fg : a'.eval (.tmp 114) = .bool true := hS.done (14, 114, .bool true) (mem_at HT 14 rfl) (by simp [hafter])
      have f115 : a'.eval (.tmp 115) = .int .i64 0 := hS.done (15, 115, .int .i64 0) (mem_at HT 15 rfl) (by simp [hafter])
      refine step_valueG (d := 116) (v := .bool true) (wanted_ok true rfl rfl fg) ho rfl hT (mem_at HT 16 rfl) (by rfl) hS hV hB (Below.refl _ _) hBs ?_
      simp only [execOp, f115]
      go_simp
    · have f114 : a'.eval (.tmp 114) = .bool true := hS.done (14, 114, .bool true) (mem_at HT 14 rfl) (by simp [hafter])
      have f116 : a'.eval (.tmp 116) = .bool true := hS.done (16, 116, .bool true) (mem_at HT 16 rfl) (by simp [hafter])
      refine step_value (d := 117) (v := .bool true) ho rfl rfl hT (mem_at HT 17 rfl) (by rfl) hS hV hB (Below.refl _ _) hBs ?_
      simp only [execOp, f114, f116]
      go_simp
    · have f117 : a'.eval (.tmp 117) = .bool true := hS.done (17, 117, .bool true) (mem_at HT 17 rfl) (by simp [hafter])
      refine step_value (d := 118) (v := .bool true) ho rfl rfl hT (mem_at HT 18 rfl) (by rfl) hS hV hB (Below.refl _ _) hBs ?_
      simp only [execOp, f117]
      go_simp
    · have fg : a'.eval (.tmp 118) = .bool true := hS.done (18, 118, .bool true) (mem_at HT 18 rfl) (by simp [hafter])
      refine step_valueG (d := 119) (v := .int .i64 0) (wanted_ok true rfl rfl fg) ho rfl hT (mem_at HT 19 rfl) (by rfl) hS hV hB (Below.refl _ _) hBs ?_
      simp only [execOp, e31]
      go_simp
    · have fg : a'.eval (.tmp 118) = .bool true := hS.done (18, 118, .bool true) (mem_at HT 18 rfl) (by simp [hafter])
      have f119 : a'.eval (.tmp 119) = .int .i64 0 := hS.done (19, 119, .int .i64 0) (mem_at HT 19 rfl) (by simp [hafter])
      refine step_valueG (d := 120) (v := .bool true) (wanted_ok true rfl rfl fg) ho rfl hT (mem_at HT 20 rfl) (by rfl) hS hV hB (Below.refl _ _) hBs ?_
      simp only [execOp, f119]
      go_simp
    · have f118 : a'.eval (.tmp 118) = .bool true := hS.done (18, 118, .bool true) (mem_at HT 18 rfl) (by simp [hafter])
      have f120 : a'.eval (.tmp 120) = .bool true := hS.done (20, 120, .bool true) (mem_at HT 20 rfl) (by simp [hafter])
      refine step_value (d := 121) (v := .bool true) ho rfl rfl hT (mem_at HT 21 rfl) (by rfl) hS hV hB (Below.refl _ _) hBs ?_
      simp only [execOp, f118, f120]
      go_simp
    · have f121 : a'.eval (.tmp 121) = .bool true := hS.done (21, 121, .bool true) (mem_at HT 21 rfl) (by simp [hafter])
      refine step_value (d := 122) (v := .bool true) ho rfl rfl hT (mem_at HT 22 rfl) (by rfl) hS hV hB (Below.refl _ _) hBs ?_
      simp only [execOp, f121]
      go_simp
    · have fg : a'.eval (.tmp 122) = .bool true := hS.done (22, 122, .bool true) (mem_at HT 22 rfl) (by simp [hafter])
      refine step_valueG (d := 123) (v := .bool false) (wanted_ok true rfl rfl fg) ho rfl hT (mem_at HT 23 rfl) (by rfl) hS hV hB (Below.refl _ _) hBs ?_
      simp only [execOp, e18]
      go_simp
    · have fg : a'.eval (.tmp 122) = .bool true := hS.done (22, 122, .bool true) (mem_at HT 22 rfl) (by simp [hafter])
      have f123 : a'.eval (.tmp 123) = .bool false := hS.done (23, 123, .bool false) (mem_at HT 23 rfl) (by simp [hafter])
      refine step_valueG (d := 124) (v := .bool true) (wanted_ok true rfl rfl fg) ho rfl hT (mem_at HT 24 rfl) (by rfl) hS hV hB (Below.refl _ _) hBs ?_
      simp only [execOp, f123]
      go_simp
    · have f122 : a'.eval (.tmp 122) = .bool true := hS.done (22, 122, .bool true) (mem_at HT 22 rfl) (by simp [hafter])
      have f124 : a'.eval (.tmp 124) = .bool true := hS.done (24, 124, .bool true) (mem_at HT 24 rfl) (by simp [hafter])
      refine step_value (d := 125) (v := .bool true) ho rfl rfl hT (mem_at HT 25 rfl) (by rfl) hS hV hB (Below.refl _ _) hBs ?_
      simp only [execOp, f122, f124]
      go_simp
    · have f125 : a'.eval (.tmp 125) = .bool true := hS.done (25, 125, .bool true) (mem_at HT 25 rfl) (by simp [hafter])
      refine step_value (d := 126) (v := .bool true) ho rfl rfl hT (mem_at HT 26 rfl) (by rfl) hS hV hB (Below.refl _ _) hBs ?_
      simp only [execOp, f125]
      go_simp
    · have fg : a'.eval (.tmp 126) = .bool true := hS.done (26, 126, .bool true) (mem_at HT 26 rfl) (by simp [hafter])
      refine step_valueG (d := 127) (v := .bool false) (wanted_ok true rfl rfl fg) ho rfl hT (mem_at HT 27 rfl) (by rfl) hS hV hB (Below.refl _ _) hBs ?_
      simp only [execOp, e21]
      go_simp
    · have fg : a'.eval (.tmp 126) = .bool true := hS.done (26, 126, .bool true) (mem_at HT 26 rfl) (by simp [hafter])
      have f127 : a'.eval (.tmp 127) = .bool false := hS.done (27, 127, .bool false) (mem_at HT 27 rfl) (by simp [hafter])
      refine step_valueG (d := 128) (v := .bool true) (wanted_ok true rfl rfl fg) ho rfl hT (mem_at HT 28 rfl) (by rfl) hS hV hB (Below.refl _ _) hBs ?_
      simp only [execOp, f127]
      go_simp
    · have f126 : a'.eval (.tmp 126) = .bool true := hS.done (26, 126, .bool true) (mem_at HT 26 rfl) (by simp [hafter])
      have f128 : a'.eval (.tmp 128) = .bool true := hS.done (28, 128, .bool true) (mem_at HT 28 rfl) (by simp [hafter])
      refine step_value (d := 129) (v := .bool true) ho rfl rfl hT (mem_at HT 29 rfl) (by rfl) hS hV hB (Below.refl _ _) hBs ?_
      simp only [execOp, f126, f128]
      go_simp
    · have f129 : a'.eval (.tmp 129) = .bool true := hS.done (29, 129, .bool true) (mem_at HT 29 rfl) (by simp [hafter])
      refine step_value (d := 130) (v := .bool true) ho rfl rfl hT (mem_at HT 30 rfl) (by rfl) hS hV hB (Below.refl _ _) hBs ?_
      simp only [execOp, f129]
      go_simp
    · have fg : a'.eval (.tmp 130) = .bool true := hS.done (30, 130, .bool true) (mem_at HT 30 rfl) (by simp [hafter])
      refine step_valueG (d := 131) (v := .bool false) (wanted_ok true rfl rfl fg) ho rfl hT (mem_at HT 31 rfl) (by rfl) hS hV hB (Below.refl _ _) hBs ?_
      simp only [execOp, e24]
      go_simp
    · have fg : a'.eval (.tmp 130) = .bool true := hS.done (30, 130, .bool true) (mem_at HT 30 rfl) (by simp [hafter])
      have f131 : a'.eval (.tmp 131) = .bool false := hS.done (31, 131, .bool false) (mem_at HT 31 rfl) (by simp [hafter])
      refine step_valueG (d := 132) (v := .bool true) (wanted_ok true rfl rfl fg) ho rfl hT (mem_at HT 32 rfl) (by rfl) hS hV hB (Below.refl _ _) hBs ?_
      simp only [execOp, f131]
      go_simp
    · have f130 : a'.eval (.tmp 130) = .bool true := hS.done (30, 130, .bool true) (mem_at HT 30 rfl) (by simp [hafter])
      have f132 : a'.eval (.tmp 132) = .bool true := hS.done (32, 132, .bool true) (mem_at HT 32 rfl) (by simp [hafter])
      refine step_value (d := 133) (v := .bool true) ho rfl rfl hT (mem_at HT 33 rfl) (by rfl) hS hV hB (Below.refl _ _) hBs ?_
      simp only [execOp, f130, f132]
      go_simp
    · have f133 : a'.eval (.tmp 133) = .bool true := hS.done (33, 133, .bool true) (mem_at HT 33 rfl) (by simp [hafter])
      refine step_value (d := 134) (v := .bool true) ho rfl rfl hT (mem_at HT 34 rfl) (by rfl) hS hV hB (Below.refl _ _) hBs ?_
      simp only [execOp, f133]
      go_simp
    · have fg : a'.eval (.tmp 134) = .bool true := hS.done (34, 134, .bool true) (mem_at HT 34 rfl) (by simp [hafter])
      refine step_valueG (d := 135) (v := .bool true) (wanted_ok true rfl rfl fg) ho rfl hT (mem_at HT 35 rfl) (by rfl) hS hV hB (Below.refl _ _) hBs ?_
      simp only [execOp, e27]
      go_simp
    · have f134 : a'.eval (.tmp 134) = .bool true := hS.done (34, 134, .bool true) (mem_at HT 34 rfl) (by simp [hafter])
      have f135 : a'.eval (.tmp 135) = .bool true := hS.done (35, 135, .bool true) (mem_at HT 35 rfl) (by simp [hafter])
      refine step_value (d := 136) (v := .bool true) ho rfl rfl hT (mem_at HT 36 rfl) (by rfl) hS hV hB (Below.refl _ _) hBs ?_
      simp only [execOp, f134, f135]
      go_simp
    · have f136 : a'.eval (.tmp 136) = .bool true := hS.done (36, 136, .bool true) (mem_at HT 36 rfl) (by simp [hafter])
      refine step_value (d := 137) (v := .bool true) ho rfl rfl hT (mem_at HT 37 rfl) (by rfl) hS hV hB (Below.refl _ _) hBs ?_
      simp only [execOp, f136]
      go_simp
    · have fg : a'.eval (.tmp 137) = .bool true := hS.done (37, 137, .bool true) (mem_at HT 37 rfl) (by simp [hafter])
      refine step_valueG (d := 138) (v := .bool false) (wanted_ok true rfl rfl fg) ho rfl hT (mem_at HT 38 rfl) (by rfl) hS hV hB (Below.refl _ _) hBs ?_
      simp only [execOp, e30]
      go_simp
    · have fg : a'.eval (.tmp 137) = .bool true := hS.done (37, 137, .bool true) (mem_at HT 37 rfl) (by simp [hafter])
      have f138 : a'.eval (.tmp 138) = .bool false := hS.done (38, 138, .bool false) (mem_at HT 38 rfl) (by simp [hafter])
      refine step_valueG (d := 139) (v := .bool true) (wanted_ok true rfl rfl fg) ho rfl hT (mem_at HT 39 rfl) (by rfl) hS hV hB (Below.refl _ _) hBs ?_
      simp only [execOp, f138]
      go_simp
    · have f137 : a'.eval (.tmp 137) = .bool true := hS.done (37, 137, .bool true) (mem_at HT 37 rfl) (by simp [hafter])
      have f139 : a'.eval (.tmp 139) = .bool true := hS.done (39, 139, .bool true) (mem_at HT 39 rfl) (by simp [hafter])
      refine step_value (d := 140) (v := .bool true) ho rfl rfl hT (mem_at HT 40 rfl) (by rfl) hS hV hB (Below.refl _ _) hBs ?_
      simp only [execOp, f137, f139]
      go_simp
    · have f140 : a'.eval (.tmp 140) = .bool true := hS.done (40, 140, .bool true) (mem_at HT 40 rfl) (by simp [hafter])
      refine step_value (d := 141) (v := .bool true) ho rfl rfl hT (mem_at HT 41 rfl) (by rfl) hS hV hB (Below.refl _ _) hBs ?_
      simp only [execOp, f140]
      go_simp
    · have fg : a'.eval (.tmp 141) = .bool true := hS.done (41, 141, .bool true) (mem_at HT 41 rfl) (by simp [hafter])
      have bb := hd.keep hB
      have c0 := bb.cells 0 _ rfl
      have c1 := bb.cells 1 _ rfl
      have c2 := bb.cells 2 _ rfl
      have c3 := bb.cells 3 _ rfl
      have c4 := bb.cells 4 _ rfl
      have c5 := bb.cells 5 _ rfl
      have c6 := bb.cells 6 _ rfl
      have c7 := bb.cells 7 _ rfl
      have c8 := bb.cells 8 _ rfl
      have c9 := bb.cells 9 _ rfl
      refine step_valueG (d := 142) (v := .agg #[.int .i64 1, .int .i64 7, .int .i64 1, .int .i64 1, .int .i64 kn, .string ⟨#[]⟩, .int .i64 0, .int .i64 0, .string ⟨#[]⟩, .int .i64 p]) (wanted_ok true rfl rfl fg) ho rfl hT (mem_at HT 42 rfl) (by rfl) hS hV hB (Below.refl _ _) hBs ?_
      simp only [execOp, e17]
      go_simp
    · have fg : a'.eval (.tmp 141) = .bool true := hS.done (41, 141, .bool true) (mem_at HT 41 rfl) (by simp [hafter])
      have bb := hc.keep hB
      have c0 := bb.cells 0 _ rfl
      have c1 := bb.cells 1 _ rfl
      have c2 := bb.cells 2 _ rfl
      have c3 := bb.cells 3 _ rfl
      have c4 := bb.cells 4 _ rfl
      have c5 := bb.cells 5 _ rfl
      have c6 := bb.cells 6 _ rfl
      have c7 := bb.cells 7 _ rfl
      have c8 := bb.cells 8 _ rfl
      have c9 := bb.cells 9 _ rfl
      refine step_valueG (d := 143) (v := .agg #[.int .i64 1, .int .i64 7, .int .i64 1, .int .i64 1, .int .i64 kn, .string ⟨#[]⟩, .int .i64 0, .int .i64 0, .string ⟨#[]⟩, .int .i64 p]) (wanted_ok true rfl rfl fg) ho rfl hT (mem_at HT 43 rfl) (by rfl) hS hV hB (Below.refl _ _) hBs ?_
      simp only [execOp, e14]
      go_simp
    · have fg : a'.eval (.tmp 141) = .bool true := hS.done (41, 141, .bool true) (mem_at HT 41 rfl) (by simp [hafter])
      have f142 : a'.eval (.tmp 142) = .agg #[.int .i64 1, .int .i64 7, .int .i64 1, .int .i64 1, .int .i64 kn, .string ⟨#[]⟩, .int .i64 0, .int .i64 0, .string ⟨#[]⟩, .int .i64 p] := hS.done (42, 142, .agg #[.int .i64 1, .int .i64 7, .int .i64 1, .int .i64 1, .int .i64 kn, .string ⟨#[]⟩, .int .i64 0, .int .i64 0, .string ⟨#[]⟩, .int .i64 p]) (mem_at HT 42 rfl) (by simp [hafter])
      have f143 : a'.eval (.tmp 143) = .agg #[.int .i64 1, .int .i64 7, .int .i64 1, .int .i64 1, .int .i64 kn, .string ⟨#[]⟩, .int .i64 0, .int .i64 0, .string ⟨#[]⟩, .int .i64 p] := hS.done (43, 143, .agg #[.int .i64 1, .int .i64 7, .int .i64 1, .int .i64 1, .int .i64 kn, .string ⟨#[]⟩, .int .i64 0, .int .i64 0, .string ⟨#[]⟩, .int .i64 p]) (mem_at HT 43 rfl) (by simp [hafter])
      refine step_valueG (d := 144) (v := .bool true) (wanted_ok true rfl rfl fg) ho rfl hT (mem_at HT 44 rfl) (by rfl) hS hV hB (Below.refl _ _) hBs ?_
      simp only [execOp, f142, f143]
      go_simp
    · have f141 : a'.eval (.tmp 141) = .bool true := hS.done (41, 141, .bool true) (mem_at HT 41 rfl) (by simp [hafter])
      have f144 : a'.eval (.tmp 144) = .bool true := hS.done (44, 144, .bool true) (mem_at HT 44 rfl) (by simp [hafter])
      refine step_value (d := 145) (v := .bool true) ho rfl rfl hT (mem_at HT 45 rfl) (by rfl) hS hV hB (Below.refl _ _) hBs ?_
      simp only [execOp, f141, f144]
      go_simp
    · have f145 : a'.eval (.tmp 145) = .bool true := hS.done (45, 145, .bool true) (mem_at HT 45 rfl) (by simp [hafter])
      refine step_value (d := 146) (v := .bool true) ho rfl rfl hT (mem_at HT 46 rfl) (by rfl) hS hV hB (Below.refl _ _) hBs ?_
      simp only [execOp, f145]
      go_simp
    · have fg : a'.eval (.tmp 146) = .bool true := hS.done (46, 146, .bool true) (mem_at HT 46 rfl) (by simp [hafter])
      have bb := he.keep hB
      have c0 := bb.cells 0 _ rfl
      have c1 := bb.cells 1 _ rfl
      have c2 := bb.cells 2 _ rfl
      have c3 := bb.cells 3 _ rfl
      have c4 := bb.cells 4 _ rfl
      have c5 := bb.cells 5 _ rfl
      have c6 := bb.cells 6 _ rfl
      have c7 := bb.cells 7 _ rfl
      have c8 := bb.cells 8 _ rfl
      have c9 := bb.cells 9 _ rfl
      refine step_valueG (d := 147) (v := .agg #[.int .i64 1, .int .i64 7, .int .i64 1, .int .i64 1, .int .i64 kn, .string ⟨#[]⟩, .int .i64 0, .int .i64 0, .string ⟨#[]⟩, .int .i64 p]) (wanted_ok true rfl rfl fg) ho rfl hT (mem_at HT 47 rfl) (by rfl) hS hV hB (Below.refl _ _) hBs ?_
      simp only [execOp, e20]
      go_simp
    · have fg : a'.eval (.tmp 146) = .bool true := hS.done (46, 146, .bool true) (mem_at HT 46 rfl) (by simp [hafter])
      have bb := hc.keep hB
      have c0 := bb.cells 0 _ rfl
      have c1 := bb.cells 1 _ rfl
      have c2 := bb.cells 2 _ rfl
      have c3 := bb.cells 3 _ rfl
      have c4 := bb.cells 4 _ rfl
      have c5 := bb.cells 5 _ rfl
      have c6 := bb.cells 6 _ rfl
      have c7 := bb.cells 7 _ rfl
      have c8 := bb.cells 8 _ rfl
      have c9 := bb.cells 9 _ rfl
      refine step_valueG (d := 148) (v := .agg #[.int .i64 1, .int .i64 7, .int .i64 1, .int .i64 1, .int .i64 kn, .string ⟨#[]⟩, .int .i64 0, .int .i64 0, .string ⟨#[]⟩, .int .i64 p]) (wanted_ok true rfl rfl fg) ho rfl hT (mem_at HT 48 rfl) (by rfl) hS hV hB (Below.refl _ _) hBs ?_
      simp only [execOp, e14]
      go_simp
    · have fg : a'.eval (.tmp 146) = .bool true := hS.done (46, 146, .bool true) (mem_at HT 46 rfl) (by simp [hafter])
      have f147 : a'.eval (.tmp 147) = .agg #[.int .i64 1, .int .i64 7, .int .i64 1, .int .i64 1, .int .i64 kn, .string ⟨#[]⟩, .int .i64 0, .int .i64 0, .string ⟨#[]⟩, .int .i64 p] := hS.done (47, 147, .agg #[.int .i64 1, .int .i64 7, .int .i64 1, .int .i64 1, .int .i64 kn, .string ⟨#[]⟩, .int .i64 0, .int .i64 0, .string ⟨#[]⟩, .int .i64 p]) (mem_at HT 47 rfl) (by simp [hafter])
      have f148 : a'.eval (.tmp 148) = .agg #[.int .i64 1, .int .i64 7, .int .i64 1, .int .i64 1, .int .i64 kn, .string ⟨#[]⟩, .int .i64 0, .int .i64 0, .string ⟨#[]⟩, .int .i64 p] := hS.done (48, 148, .agg #[.int .i64 1, .int .i64 7, .int .i64 1, .int .i64 1, .int .i64 kn, .string ⟨#[]⟩, .int .i64 0, .int .i64 0, .string ⟨#[]⟩, .int .i64 p]) (mem_at HT 48 rfl) (by simp [hafter])
      refine step_valueG (d := 149) (v := .bool true) (wanted_ok true rfl rfl fg) ho rfl hT (mem_at HT 49 rfl) (by rfl) hS hV hB (Below.refl _ _) hBs ?_
      simp only [execOp, f147, f148]
      go_simp
    · have f146 : a'.eval (.tmp 146) = .bool true := hS.done (46, 146, .bool true) (mem_at HT 46 rfl) (by simp [hafter])
      have f149 : a'.eval (.tmp 149) = .bool true := hS.done (49, 149, .bool true) (mem_at HT 49 rfl) (by simp [hafter])
      refine step_value (d := 150) (v := .bool true) ho rfl rfl hT (mem_at HT 50 rfl) (by rfl) hS hV hB (Below.refl _ _) hBs ?_
      simp only [execOp, f146, f149]
      go_simp
    · have f150 : a'.eval (.tmp 150) = .bool true := hS.done (50, 150, .bool true) (mem_at HT 50 rfl) (by simp [hafter])
      refine step_value (d := 151) (v := .bool true) ho rfl rfl hT (mem_at HT 51 rfl) (by rfl) hS hV hB (Below.refl _ _) hBs ?_
      simp only [execOp, f150]
      go_simp
    · have fg : a'.eval (.tmp 151) = .bool true := hS.done (51, 151, .bool true) (mem_at HT 51 rfl) (by simp [hafter])
      have bb := hu.keep hB
      have c0 := bb.cells 0 _ rfl
      have c1 := bb.cells 1 _ rfl
      have c2 := bb.cells 2 _ rfl
      have c3 := bb.cells 3 _ rfl
      have c4 := bb.cells 4 _ rfl
      have c5 := bb.cells 5 _ rfl
      have c6 := bb.cells 6 _ rfl
      have c7 := bb.cells 7 _ rfl
      have c8 := bb.cells 8 _ rfl
      have c9 := bb.cells 9 _ rfl
      refine step_valueG (d := 152) (v := .agg #[.int .i64 1, .int .i64 7, .int .i64 1, .int .i64 1, .int .i64 kn, .string ⟨#[]⟩, .int .i64 0, .int .i64 0, .string ⟨#[]⟩, .int .i64 p]) (wanted_ok true rfl rfl fg) ho rfl hT (mem_at HT 52 rfl) (by rfl) hS hV hB (Below.refl _ _) hBs ?_
      simp only [execOp, e23]
      go_simp
    · have fg : a'.eval (.tmp 151) = .bool true := hS.done (51, 151, .bool true) (mem_at HT 51 rfl) (by simp [hafter])
      have bb := hc.keep hB
      have c0 := bb.cells 0 _ rfl
      have c1 := bb.cells 1 _ rfl
      have c2 := bb.cells 2 _ rfl
      have c3 := bb.cells 3 _ rfl
      have c4 := bb.cells 4 _ rfl
      have c5 := bb.cells 5 _ rfl
      have c6 := bb.cells 6 _ rfl
      have c7 := bb.cells 7 _ rfl
      have c8 := bb.cells 8 _ rfl
      have c9 := bb.cells 9 _ rfl
      refine step_valueG (d := 153) (v := .agg #[.int .i64 1, .int .i64 7, .int .i64 1, .int .i64 1, .int .i64 kn, .string ⟨#[]⟩, .int .i64 0, .int .i64 0, .string ⟨#[]⟩, .int .i64 p]) (wanted_ok true rfl rfl fg) ho rfl hT (mem_at HT 53 rfl) (by rfl) hS hV hB (Below.refl _ _) hBs ?_
      simp only [execOp, e14]
      go_simp
    · have fg : a'.eval (.tmp 151) = .bool true := hS.done (51, 151, .bool true) (mem_at HT 51 rfl) (by simp [hafter])
      have f152 : a'.eval (.tmp 152) = .agg #[.int .i64 1, .int .i64 7, .int .i64 1, .int .i64 1, .int .i64 kn, .string ⟨#[]⟩, .int .i64 0, .int .i64 0, .string ⟨#[]⟩, .int .i64 p] := hS.done (52, 152, .agg #[.int .i64 1, .int .i64 7, .int .i64 1, .int .i64 1, .int .i64 kn, .string ⟨#[]⟩, .int .i64 0, .int .i64 0, .string ⟨#[]⟩, .int .i64 p]) (mem_at HT 52 rfl) (by simp [hafter])
      have f153 : a'.eval (.tmp 153) = .agg #[.int .i64 1, .int .i64 7, .int .i64 1, .int .i64 1, .int .i64 kn, .string ⟨#[]⟩, .int .i64 0, .int .i64 0, .string ⟨#[]⟩, .int .i64 p] := hS.done (53, 153, .agg #[.int .i64 1, .int .i64 7, .int .i64 1, .int .i64 1, .int .i64 kn, .string ⟨#[]⟩, .int .i64 0, .int .i64 0, .string ⟨#[]⟩, .int .i64 p]) (mem_at HT 53 rfl) (by simp [hafter])
      refine step_valueG (d := 154) (v := .bool true) (wanted_ok true rfl rfl fg) ho rfl hT (mem_at HT 54 rfl) (by rfl) hS hV hB (Below.refl _ _) hBs ?_
      simp only [execOp, f152, f153]
      go_simp
    · have f151 : a'.eval (.tmp 151) = .bool true := hS.done (51, 151, .bool true) (mem_at HT 51 rfl) (by simp [hafter])
      have f154 : a'.eval (.tmp 154) = .bool true := hS.done (54, 154, .bool true) (mem_at HT 54 rfl) (by simp [hafter])
      refine step_value (d := 155) (v := .bool true) ho rfl rfl hT (mem_at HT 55 rfl) (by rfl) hS hV hB (Below.refl _ _) hBs ?_
      simp only [execOp, f151, f154]
      go_simp
    · have f155 : a'.eval (.tmp 155) = .bool true := hS.done (55, 155, .bool true) (mem_at HT 55 rfl) (by simp [hafter])
      refine step_value (d := 156) (v := .bool true) ho rfl rfl hT (mem_at HT 56 rfl) (by rfl) hS hV hB (Below.refl _ _) hBs ?_
      simp only [execOp, f155]
      go_simp
    · have fg : a'.eval (.tmp 156) = .bool true := hS.done (56, 156, .bool true) (mem_at HT 56 rfl) (by simp [hafter])
      have bb := hn2.keep hB
      have c0 := bb.cells 0 _ rfl
      have c1 := bb.cells 1 _ rfl
      have c2 := bb.cells 2 _ rfl
      have c3 := bb.cells 3 _ rfl
      have c4 := bb.cells 4 _ rfl
      have c5 := bb.cells 5 _ rfl
      have c6 := bb.cells 6 _ rfl
      have c7 := bb.cells 7 _ rfl
      have c8 := bb.cells 8 _ rfl
      have c9 := bb.cells 9 _ rfl
      refine step_valueG (d := 157) (v := .agg #[.int .i64 2, .int .i64 7, .int .i64 1, .int .i64 1, .int .i64 kn, .string ⟨#[]⟩, .int .i64 3, .int .i64 0, .string hs, .int .i64 0]) (wanted_ok true rfl rfl fg) ho rfl hT (mem_at HT 57 rfl) (by rfl) hS hV hB (Below.refl _ _) hBs ?_
      simp only [execOp, e29]
      go_simp
    · have fg : a'.eval (.tmp 156) = .bool true := hS.done (56, 156, .bool true) (mem_at HT 56 rfl) (by simp [hafter])
      have bb := hv.keep hB
      have c0 := bb.cells 0 _ rfl
      have c1 := bb.cells 1 _ rfl
      have c2 := bb.cells 2 _ rfl
      have c3 := bb.cells 3 _ rfl
      have c4 := bb.cells 4 _ rfl
      have c5 := bb.cells 5 _ rfl
      have c6 := bb.cells 6 _ rfl
      have c7 := bb.cells 7 _ rfl
      have c8 := bb.cells 8 _ rfl
      have c9 := bb.cells 9 _ rfl
      refine step_valueG (d := 158) (v := .agg #[.int .i64 2, .int .i64 7, .int .i64 1, .int .i64 1, .int .i64 kn, .string ⟨#[]⟩, .int .i64 3, .int .i64 0, .string hs, .int .i64 0]) (wanted_ok true rfl rfl fg) ho rfl hT (mem_at HT 58 rfl) (by rfl) hS hV hB (Below.refl _ _) hBs ?_
      simp only [execOp, e26]
      go_simp
    · have fg : a'.eval (.tmp 156) = .bool true := hS.done (56, 156, .bool true) (mem_at HT 56 rfl) (by simp [hafter])
      have f157 : a'.eval (.tmp 157) = .agg #[.int .i64 2, .int .i64 7, .int .i64 1, .int .i64 1, .int .i64 kn, .string ⟨#[]⟩, .int .i64 3, .int .i64 0, .string hs, .int .i64 0] := hS.done (57, 157, .agg #[.int .i64 2, .int .i64 7, .int .i64 1, .int .i64 1, .int .i64 kn, .string ⟨#[]⟩, .int .i64 3, .int .i64 0, .string hs, .int .i64 0]) (mem_at HT 57 rfl) (by simp [hafter])
      have f158 : a'.eval (.tmp 158) = .agg #[.int .i64 2, .int .i64 7, .int .i64 1, .int .i64 1, .int .i64 kn, .string ⟨#[]⟩, .int .i64 3, .int .i64 0, .string hs, .int .i64 0] := hS.done (58, 158, .agg #[.int .i64 2, .int .i64 7, .int .i64 1, .int .i64 1, .int .i64 kn, .string ⟨#[]⟩, .int .i64 3, .int .i64 0, .string hs, .int .i64 0]) (mem_at HT 58 rfl) (by simp [hafter])
      refine step_valueG (d := 159) (v := .bool true) (wanted_ok true rfl rfl fg) ho rfl hT (mem_at HT 59 rfl) (by rfl) hS hV hB (Below.refl _ _) hBs ?_
      simp only [execOp, f157, f158]
      go_simp
    · have f156 : a'.eval (.tmp 156) = .bool true := hS.done (56, 156, .bool true) (mem_at HT 56 rfl) (by simp [hafter])
      have f159 : a'.eval (.tmp 159) = .bool true := hS.done (59, 159, .bool true) (mem_at HT 59 rfl) (by simp [hafter])
      refine step_value (d := 160) (v := .bool true) ho rfl rfl hT (mem_at HT 60 rfl) (by rfl) hS hV hB (Below.refl _ _) hBs ?_
      simp only [execOp, f156, f159]
      go_simp
    · have f160 : a'.eval (.tmp 160) = .bool true := hS.done (60, 160, .bool true) (mem_at HT 60 rfl) (by simp [hafter])
      refine step_value (d := 161) (v := .bool true) ho rfl rfl hT (mem_at HT 61 rfl) (by rfl) hS hV hB (Below.refl _ _) hBs ?_
      simp only [execOp, f160]
      go_simp
    · have fg : a'.eval (.tmp 161) = .bool true := hS.done (61, 161, .bool true) (mem_at HT 61 rfl) (by simp [hafter])
      have bb := hc.keep hB
      have c0 := bb.cells 0 _ rfl
      have c1 := bb.cells 1 _ rfl
      have c2 := bb.cells 2 _ rfl
      have c3 := bb.cells 3 _ rfl
      have c4 := bb.cells 4 _ rfl
      have c5 := bb.cells 5 _ rfl
      have c6 := bb.cells 6 _ rfl
      have c7 := bb.cells 7 _ rfl
      have c8 := bb.cells 8 _ rfl
      have c9 := bb.cells 9 _ rfl
      refine step_valueG (d := 162) (v := .agg #[.int .i64 1, .int .i64 7, .int .i64 1, .int .i64 1, .int .i64 kn, .string ⟨#[]⟩, .int .i64 0, .int .i64 0, .string ⟨#[]⟩, .int .i64 p]) (wanted_ok true rfl rfl fg) ho rfl hT (mem_at HT 62 rfl) (by rfl) hS hV hB (Below.refl _ _) hBs ?_
      simp only [execOp, e14]
      go_simp
    · have fg : a'.eval (.tmp 161) = .bool true := hS.done (61, 161, .bool true) (mem_at HT 61 rfl) (by simp [hafter])
      have f162 : a'.eval (.tmp 162) = .agg #[.int .i64 1, .int .i64 7, .int .i64 1, .int .i64 1, .int .i64 kn, .string ⟨#[]⟩, .int .i64 0, .int .i64 0, .string ⟨#[]⟩, .int .i64 p] := hS.done (62, 162, .agg #[.int .i64 1, .int .i64 7, .int .i64 1, .int .i64 1, .int .i64 kn, .string ⟨#[]⟩, .int .i64 0, .int .i64 0, .string ⟨#[]⟩, .int .i64 p]) (mem_at HT 62 rfl) (by simp [hafter])
      refine step_callG (d := 163) (v := .agg #[.int .i64 4, .int .i64 0, .string ⟨#[]⟩]) (f := 32) (args := #[.agg #[.int .i64 1, .int .i64 7, .int .i64 1, .int .i64 1, .int .i64 kn, .string ⟨#[]⟩, .int .i64 0, .int .i64 0, .string ⟨#[]⟩, .int .i64 p]]) (wanted_ok true rfl rfl fg) ho rfl hT (mem_at HT 63 rfl) (by rfl) hS hV hB hBs ?_ (call_value_ask 7 1 1 kn 0 0 p ⟨#[]⟩ ⟨#[]⟩ w')
      simp only [execOp, resolve]
      simp [f162]
      go_simp
    · have fg : a'.eval (.tmp 161) = .bool true := hS.done (61, 161, .bool true) (mem_at HT 61 rfl) (by simp [hafter])
      have f163 : a'.eval (.tmp 163) = .agg #[.int .i64 4, .int .i64 0, .string ⟨#[]⟩] := hS.done (63, 163, .agg #[.int .i64 4, .int .i64 0, .string ⟨#[]⟩]) (mem_at HT 63 rfl) (by simp [hafter])
      refine step_valueG (d := 164) (v := .int .i64 4) (wanted_ok true rfl rfl fg) ho rfl hT (mem_at HT 64 rfl) (by rfl) hS hV hB (Below.refl _ _) hBs ?_
      have hfd : ∀ w : World, (Instr.field 29 (.agg #[.int .i64 4, .int .i64 0, .string ⟨#[]⟩]) 0).run Try.prog w = .ok (.int .i64 4) w := fun _ => by kernel_rfl
      simp only [execOp, f163]
      first | (go_simp; done) | (simp [hfd]; done) | (go_simp; rw [hfd]; rfl)
    · have fg : a'.eval (.tmp 161) = .bool true := hS.done (61, 161, .bool true) (mem_at HT 61 rfl) (by simp [hafter])
      have f164 : a'.eval (.tmp 164) = .int .i64 4 := hS.done (64, 164, .int .i64 4) (mem_at HT 64 rfl) (by simp [hafter])
      refine step_valueG (d := 165) (v := .bool true) (wanted_ok true rfl rfl fg) ho rfl hT (mem_at HT 65 rfl) (by rfl) hS hV hB (Below.refl _ _) hBs ?_
      simp only [execOp, f164]
      go_simp
    · have f161 : a'.eval (.tmp 161) = .bool true := hS.done (61, 161, .bool true) (mem_at HT 61 rfl) (by simp [hafter])
      have f165 : a'.eval (.tmp 165) = .bool true := hS.done (65, 165, .bool true) (mem_at HT 65 rfl) (by simp [hafter])
      refine step_value (d := 166) (v := .bool true) ho rfl rfl hT (mem_at HT 66 rfl) (by rfl) hS hV hB (Below.refl _ _) hBs ?_
      simp only [execOp, f161, f165]
      go_simp
    · have f166 : a'.eval (.tmp 166) = .bool true := hS.done (66, 166, .bool true) (mem_at HT 66 rfl) (by simp [hafter])
      refine step_value (d := 167) (v := .bool true) ho rfl rfl hT (mem_at HT 67 rfl) (by rfl) hS hV hB (Below.refl _ _) hBs ?_
      simp only [execOp, f166]
      go_simp
    · have fg : a'.eval (.tmp 167) = .bool true := hS.done (67, 167, .bool true) (mem_at HT 67 rfl) (by simp [hafter])
      have bb := hv.keep hB
      have c0 := bb.cells 0 _ rfl
      have c1 := bb.cells 1 _ rfl
      have c2 := bb.cells 2 _ rfl
      have c3 := bb.cells 3 _ rfl
      have c4 := bb.cells 4 _ rfl
      have c5 := bb.cells 5 _ rfl
      have c6 := bb.cells 6 _ rfl
      have c7 := bb.cells 7 _ rfl
      have c8 := bb.cells 8 _ rfl
      have c9 := bb.cells 9 _ rfl
      refine step_valueG (d := 168) (v := .agg #[.int .i64 2, .int .i64 7, .int .i64 1, .int .i64 1, .int .i64 kn, .string ⟨#[]⟩, .int .i64 3, .int .i64 0, .string hs, .int .i64 0]) (wanted_ok true rfl rfl fg) ho rfl hT (mem_at HT 68 rfl) (by rfl) hS hV hB (Below.refl _ _) hBs ?_
      simp only [execOp, e26]
      go_simp
    · have fg : a'.eval (.tmp 167) = .bool true := hS.done (67, 167, .bool true) (mem_at HT 67 rfl) (by simp [hafter])
      have f168 : a'.eval (.tmp 168) = .agg #[.int .i64 2, .int .i64 7, .int .i64 1, .int .i64 1, .int .i64 kn, .string ⟨#[]⟩, .int .i64 3, .int .i64 0, .string hs, .int .i64 0] := hS.done (68, 168, .agg #[.int .i64 2, .int .i64 7, .int .i64 1, .int .i64 1, .int .i64 kn, .string ⟨#[]⟩, .int .i64 3, .int .i64 0, .string hs, .int .i64 0]) (mem_at HT 68 rfl) (by simp [hafter])
      refine step_callG (d := 169) (v := .agg #[.int .i64 3, .int .i64 0, .string hs]) (f := 32) (args := #[.agg #[.int .i64 2, .int .i64 7, .int .i64 1, .int .i64 1, .int .i64 kn, .string ⟨#[]⟩, .int .i64 3, .int .i64 0, .string hs, .int .i64 0]]) (wanted_ok true rfl rfl fg) ho rfl hT (mem_at HT 69 rfl) (by rfl) hS hV hB hBs ?_ (call_value_known 7 1 1 kn 3 0 0 ⟨#[]⟩ hs w')
      simp only [execOp, resolve]
      simp [f168]
      go_simp
    · have fg : a'.eval (.tmp 167) = .bool true := hS.done (67, 167, .bool true) (mem_at HT 67 rfl) (by simp [hafter])
      have bb := hh.keep hB
      have c0 := bb.cells 0 _ rfl
      have c1 := bb.cells 1 _ rfl
      have c2 := bb.cells 2 _ rfl
      refine step_valueG (d := 170) (v := .agg #[.int .i64 3, .int .i64 0, .string hs]) (wanted_ok true rfl rfl fg) ho rfl hT (mem_at HT 70 rfl) (by rfl) hS hV hB (Below.refl _ _) hBs ?_
      simp only [execOp, e13]
      go_simp
    · have fg : a'.eval (.tmp 167) = .bool true := hS.done (67, 167, .bool true) (mem_at HT 67 rfl) (by simp [hafter])
      have f169 : a'.eval (.tmp 169) = .agg #[.int .i64 3, .int .i64 0, .string hs] := hS.done (69, 169, .agg #[.int .i64 3, .int .i64 0, .string hs]) (mem_at HT 69 rfl) (by simp [hafter])
      have f170 : a'.eval (.tmp 170) = .agg #[.int .i64 3, .int .i64 0, .string hs] := hS.done (70, 170, .agg #[.int .i64 3, .int .i64 0, .string hs]) (mem_at HT 70 rfl) (by simp [hafter])
      refine step_valueG (d := 171) (v := .bool true) (wanted_ok true rfl rfl fg) ho rfl hT (mem_at HT 71 rfl) (by rfl) hS hV hB (Below.refl _ _) hBs ?_
      simp only [execOp, f169, f170]
      go_simp
    · have f167 : a'.eval (.tmp 167) = .bool true := hS.done (67, 167, .bool true) (mem_at HT 67 rfl) (by simp [hafter])
      have f171 : a'.eval (.tmp 171) = .bool true := hS.done (71, 171, .bool true) (mem_at HT 71 rfl) (by simp [hafter])
      refine step_value (d := 172) (v := .bool true) ho rfl rfl hT (mem_at HT 72 rfl) (by rfl) hS hV hB (Below.refl _ _) hBs ?_
      simp only [execOp, f167, f171]
      go_simp
    · have f172 : a'.eval (.tmp 172) = .bool true := hS.done (72, 172, .bool true) (mem_at HT 72 rfl) (by simp [hafter])
      refine step_value (d := 10) (v := .bool true) ho rfl rfl hT (mem_at HT 73 rfl) (by rfl) hS hV hB (Below.refl _ _) hBs ?_
      simp only [execOp, f172]
      go_simp
  intro a' w10 hS hV hB
  have HT' := HT.out
  subst HT'
  have e := hS.all (by rfl) (by decide) (fun x hx => of_decide_eq_true (List.all_eq_true.1 (show List.all _ (fun x : Nat × Nat × Value => decide (x.1 < 74)) = true from by rfl) x hx)) [] rfl (by
    intro x hx
    exact absurd hx (by simp))
  subst e
  clear hS hV HT
  simp only [puts, List.map_cons, List.map_nil, List.cons_append, List.nil_append, List.foldl_cons, List.foldl_nil]
  replace hw := hw.trans (hB.mono (by have := hw.size; omega))
  replace hh := hh.keep hB
  clear hB hc hd he hu hv hn2
  go_wp2_with fail
  go_ret
  go_simp
  all_goals first | exact hw | (rw [hB0]; exact hw)

namespace callStaleLaw
open Go.ChangeShapes Go.WideShapes Go.ChangeAt Go.RowKit
open Go.ChangeMaps (open_string shut_string)
set_option linter.unusedVariables false

set_option maxRecDepth 100000 in
theorem lifted (os : Os) (started : os.Started) (H : Type) (enc : TypeId × Value → H) :
    ReturnsInHanded {} Try.checked os 10 .any (Rows.callStaleSpec.pre6 enc Try.prog Try.f10 Rows.callStaleRow.domain false) (Rows.callStaleSpec.post enc Try.prog Try.f10 false true false false) := by
  refine returnsInHanded_of_change_sized (C := Try.checked) ownNone started (by kernel_rfl) Try.func10
    (ChangeSpec.witness6 (enc := enc) (C := Try.checked) false ⟨#[], #[.int .i64 0, .int .i64 0, .agg #[.int .i64 0, .int .i64 0, .int .i64 0, .string ByteArray.empty], .agg #[.int .i64 0, .int .i64 0, .int .i64 0, .string ByteArray.empty], .int .i64 0], []⟩ 8 (by kernel_rfl) (by kernel_rfl) (by kernel_rfl) (by kernel_rfl)) ?_
  intro W base args ds gs before hval0 hW hcnd hsz0 _
  have hval : ∀ (j : Nat) t v, Try.f10.params[j]? = some t → args[j]? = some v → Value.okWide Try.prog W .any base t v := hval0
  have hsz : (DataW.weightsEach Try.prog (Try.f10.params.toList ++ Rows.callStaleSpec.plain.varTypes Try.prog) (ds ++ gs)).all (· ≤ reachBytes) = true := hsz0
  have hW' := hW
  obtain ⟨p, q, hA0, hV, rfl, hfz, hnd⟩ := hW
  have hA : DataW.TrodAll enc Try.prog W 0 (fun _ => true) true Try.f10.params.toList args.toList ds p := hA0
  rw [Try.params10] at hA hval hsz
  obtain ⟨v0, vs0, d0, ds0, p0, q0, hargs, rfl, rfl, h0, r0⟩ := trodAll_cons hA
  obtain ⟨v1, vs1, d1, ds1, p1, q1, rfl, rfl, rfl, h1, r1⟩ := trodAll_cons r0
  obtain ⟨v2, vs2, d2, ds2, p2, q2, rfl, rfl, rfl, h2, r2⟩ := trodAll_cons r1
  obtain ⟨v3, vs3, d3, ds3, p3, q3, rfl, rfl, rfl, h3, r3⟩ := trodAll_cons r2
  obtain ⟨v4, vs4, d4, ds4, p4, q4, rfl, rfl, rfl, h4, r4⟩ := trodAll_cons r3
  obtain ⟨rfl, rfl, rfl⟩ := trodAll_nil r4
  obtain rfl : args = #[v0, v1, v2, v3, v4] := by cases args; simp_all
  obtain ⟨rfl, rfl⟩ := trodVars_none hV
  have k0 := h0
  have lt0 : ∀ x ∈ p0, x.block < W.heap.size := by obtain ⟨m, hm⟩ := k0; exact DataW.trod_lt m _ _ _ hm
  obtain ⟨a0, rfl, -, -, w0⟩ := open_int Try.underlying3 (hval 0 3 v0 rfl rfl) h0
  have k1 := h1
  have lt1 : ∀ x ∈ p1, x.block < W.heap.size := by obtain ⟨m, hm⟩ := k1; exact DataW.trod_lt m _ _ _ hm
  obtain ⟨a1, rfl, -, -, w1⟩ := open_int Try.underlying3 (hval 1 3 v1 rfl rfl) h1
  have k2 := h2
  have lt2 : ∀ x ∈ p2, x.block < W.heap.size := by obtain ⟨m, hm⟩ := k2; exact DataW.trod_lt m _ _ _ hm
  obtain ⟨a2, rfl, w2⟩ := open_raw (hval 2 50 v2 rfl rfl) h2
  have k3 := h3
  have lt3 : ∀ x ∈ p3, x.block < W.heap.size := by obtain ⟨m, hm⟩ := k3; exact DataW.trod_lt m _ _ _ hm
  obtain ⟨a3, rfl, w3⟩ := open_raw (hval 3 50 v3 rfl rfl) h3
  have k4 := h4
  have lt4 : ∀ x ∈ p4, x.block < W.heap.size := by obtain ⟨m, hm⟩ := k4; exact DataW.trod_lt m _ _ _ hm
  obtain ⟨a4, rfl, -, -, w4⟩ := open_int Try.underlying3 (hval 4 3 v4 rfl rfl) h4
  clear hA0 hval0 hsz0
  refine (callStale_walk a0 a1 a2 a3 a4 W (int_lo w0) (int_hi w0) (int_lo w1) (int_hi w1) w2 w3 (int_lo w4) (int_hi w4)).mono fun e W' ⟨he, bel⟩ => ?_
  subst he
  exact ⟨_, rfl, _, _, _, [], _, [], hW', trodAll_mk1 (shut_bool Try.underlying4 _), (trodAll_cons_mk (Below.trod laidOutTrue (by kernel_rfl) (of_decide_eq_true (by kernel_rfl)) k0 bel lt0) (trodAll_cons_mk (Below.trod laidOutTrue (by kernel_rfl) (of_decide_eq_true (by kernel_rfl)) k1 bel lt1) (trodAll_cons_mk (Below.trod laidOutTrue (by kernel_rfl) (of_decide_eq_true (by kernel_rfl)) k2 bel lt2) (trodAll_cons_mk (Below.trod laidOutTrue (by kernel_rfl) (of_decide_eq_true (by kernel_rfl)) k3 bel lt3) (trodAll_cons_mk (Below.trod laidOutTrue (by kernel_rfl) (of_decide_eq_true (by kernel_rfl)) k4 bel lt4) trodAll_mk0))))), rfl, bel.frame _, fun h => by cases h⟩

theorem over : Rows.callStaleRow.holds Try.pinned (OpenSpec.ofChange Rows.callStaleSpec) :=
  OpenClaim.holds_of_wide 10 Try.f10 rfl rfl rfl rfl rfl rfl rfl ⟨rfl, rfl, rfl, rfl, rfl⟩ rfl rfl rfl rfl rfl (by kernel_rfl) Try.func10 (by kernel_rfl)
    (of_decide_eq_true (by kernel_rfl)) (by unfold Func.isWrapper; first | (rw [if_pos (by decide +kernel)]; kernel_rfl) | (rw [if_neg (by decide +kernel)]; exact ⟨rfl, rfl⟩))
    (fun os started H enc _ => lifted os started H enc)

end callStaleLaw
theorem callStale_holds : Rows.CallStaleSaid := callStaleLaw.over
#print axioms callStale_holds
end Go.Proofs.Ytpckomnpeainlaa
