/-
  For every list of raw things of bulk at most 1048576 and every number ClientFirst returns true: Next is the time of one who asks, and nobody asks sooner.
-/
import Derived.Test.YtpckomnpeainlaaBox10
import Derived.Test.YtpckomnpeainlaaVal
import Derived.Test.YtpckomnpeainlaaGuard
import Derived.Test.YtpckomnpeainlaaCalls
import Derived.Test.YtpckomnpeainlaaUpto
import Derived.IntWalk
import Derived.Deep.Cut
namespace Go.Proofs.Ytpckomnpeainlaa
open Go.RowKit

theorem infoCall : (Try.prog.info? 56).map (fun i => (i.zero, i.size, i.bytes)) = some (some (.agg #[.int .i64 0, .int .i64 0, .int .i64 0, .int .i64 0, .int .i64 0, .string ⟨#[]⟩, .int .i64 0, .int .i64 0, .string ⟨#[]⟩, .int .i64 0]), 10, 96) := by kernel_rfl

theorem picked_gives (n many : Int) (w : World) (h0 : -9223372036854775808 ≤ n) (h1 : n ≤ 9223372036854775807) (hm : 1 ≤ many) (hm' : many ≤ 9223372036854775807) :
    Calls Try.prog 27 #[.int .i64 n, .int .i64 many] w (Gives (.int .i64 (pickL n many)) w) :=
  (picked_any n many w h0 h1 hm hm').mono fun _ _ ⟨he, hw⟩ => ⟨he, by subst hw; exact Below.refl _ _⟩

theorem cells_len (cs : List CallR) : ∀ r ∈ cs.map CallR.cells, r.length = 10 := by
  intro r hr
  obtain ⟨d, -, rfl⟩ := List.mem_map.1 hr
  rfl

set_option maxRecDepth 100000 in
set_option maxHeartbeats 16000000 in
theorem clientFirst_walk (v : Value) (l : List RawD) (a : Int) (w : World) (hl : IsRaws w v l) (hu : l.length ≤ 1048576) (h0 : -9223372036854775808 ≤ a) (h1 : a ≤ 9223372036854775807) :
    Calls Try.prog 13 #[v, .int .i64 a] w fun e w' => e = .returned (.bool true) ∧ Below w.heap.size w w' := by
  have hrows := raws_rows hl
  obtain ⟨A, cap, rfl, hcap, -, hok, -⟩ := hl
  obtain ⟨A', cap', he, -, hr⟩ := hrows
  simp at he
  obtain ⟨rfl, rfl⟩ := he
  have HR := Lib.hid hr
  have HOK := Lib.hid hok
  clear hr hok
  go_enter Try.func13, Try.ntmps13
  go_wp2_with fail
  with_reducible refine (policy_any a 9 30 _ h0 h1 (by omega) (by omega) (by omega) (by omega)).mono ?_
  rintro e u1 ⟨t, p, q, g0, g1, g2, g3, g4, g5, rfl, hb⟩
  clear h0 h1
  have hw := hb
  clear hb
  go_wp2_with fail
  have hp := Box.new u1 #[.int .i64 t, .int .i64 p, .int .i64 q] 45
  have d_B1 := hw.size
  replace hw := hw.alloc (by have := hw.size; omega) (.cells #[.int .i64 t, .int .i64 p, .int .i64 q] 45)
  have Z_V1 := Lib.hid (show (u1.alloc (.cells #[.int .i64 t, .int .i64 p, .int .i64 q] 45)).heap.size = u1.heap.size + 1 from by simp)
  generalize u1.alloc (.cells #[.int .i64 t, .int .i64 p, .int .i64 q] 45) = V1 at *
  generalize u1.heap.size = B1 at *
  have OP : Hid (OkPol t p q) := ⟨g0, g1, g2, g3, by omega⟩
  go_loopw [6, 22] (fun c n wr => ∃ (k : Nat) (cs : List CallR), k ≤ l.length ∧ n = .int .i64 k ∧ cs.length = k ∧ Own wr (B1 + 1) 56 10 c k (cs.map CallR.cells).flatten ∧ Box wr B1 [.int .i64 t, .int .i64 p, .int .i64 q] ∧ Below w.heap.size w wr ∧ B1 + 1 ≤ wr.heap.size) (fun _ n _ => l.length - (intOf n).toNat)
  case atStart => exact ⟨0, [], by omega, rfl, rfl, ⟨World.ownsRow_nil _ _ _ _⟩, hp, hw, by rw [Z_V1.out]; omega⟩
  case round =>
    clear hp hw
    obtain ⟨k, cs, hk, rfl, hcl, hown, hp, hw, hB⟩ := hrel
    obtain ⟨i0, hi, hz0, hz1, hz2⟩ := info_parts infoCall
    by_cases hlt : k < l.length
    · obtain ⟨r, hd⟩ : ∃ r, l[k]? = some r := ⟨_, List.getElem?_eq_getElem hlt⟩
      have hro := HOK.out r (List.mem_of_getElem? hd)
      have HRO := Lib.hid hro
      obtain ⟨b, off, rfl, hbl, hc⟩ : ∃ b off, A = some ⟨b, off, none⟩ ∧ b < w.heap.size ∧ ∀ j u, [Value.int .i64 r.k, .int .i64 r.a, .int .i64 r.b, .string r.t][j]? = some u → w.cell? ⟨b, off + k * 4 + j, none⟩ = some u := by
        rcases HR.out with h0 | ⟨b, off, e, hbl, hc⟩
        · simp at h0; subst h0; simp at hlt
        · exact ⟨b, off, e, hbl, hc k _ (by rw [List.getElem?_map, hd]; rfl)⟩
      have c0 : _ = some _ := (hw.cell (p := ⟨b, off + k * 4, none⟩) hbl).trans (hc 0 _ rfl)
      have c1 : _ = some _ := (hw.cell (p := ⟨b, off + k * 4 + 1, none⟩) hbl).trans (hc 1 _ rfl)
      have c2 : _ = some _ := (hw.cell (p := ⟨b, off + k * 4 + 2, none⟩) hbl).trans (hc 2 _ rfl)
      have c3 : _ = some _ := (hw.cell (p := ⟨b, off + k * 4 + 3, none⟩) hbl).trans (hc 3 _ rfl)
      clear hd hc hro
      go_wp2_with fail
      have hx := Box.new wr #[.int .i64 r.k, .int .i64 r.a, .int .i64 r.b, .string r.t] 50
      have d_g8_hp := hp.lt
      replace hp := hp.alloc (.cells #[.int .i64 r.k, .int .i64 r.a, .int .i64 r.b, .string r.t] 50)
      replace hown := hown.alloc (.cells #[.int .i64 r.k, .int .i64 r.a, .int .i64 r.b, .string r.t] 50)
      have d_g8 := hw.size
      replace hw := hw.alloc (by have := hw.size; omega) (.cells #[.int .i64 r.k, .int .i64 r.a, .int .i64 r.b, .string r.t] 50)
      have Z_V8 := Lib.hid (show (wr.alloc (.cells #[.int .i64 r.k, .int .i64 r.a, .int .i64 r.b, .string r.t] 50)).heap.size = wr.heap.size + 1 from by simp)
      generalize wr.alloc (.cells #[.int .i64 r.k, .int .i64 r.a, .int .i64 r.b, .string r.t] 50) = V8 at *
      generalize wr.heap.size = g8 at *
      have kk := val_known 1 r.k r.a r.t (by omega) (by omega)
      have HV := fun w => Lib.hid (val_int r w HRO.out)
      have HV' := Lib.hid HV
      clear HV
      generalize valN 1 r.k r.a = kn at *
      have kk' : KnownV 1 kn ⟨#[]⟩ := kk
      have HKN := Lib.hid kk'
      clear kk kk'
      have rb := HRO.out.2.2.1
      have s0 := pickL_lo r.b 100 (by omega)
      have s1 := pickL_hi r.b 100 (by omega)
      have HP := fun w => Lib.hid (picked_gives r.b 100 w rb.1 rb.2 (by omega) (by omega))
      have HP' := Lib.hid HP
      clear HP rb
      generalize pickL r.b 100 = nw at *
      have hq := hown.own.lt
      obtain ⟨TT, HT⟩ : ∃ T : List (Nat × Nat × Value), RowKit.Hid (T = [(0, 28, .agg #[.int .i64 t, .int .i64 p, .int .i64 q]), (1, 29, .int .i64 k), (2, 30, .int .i64 (k + 1)), (3, 31, r.val), (4, 32, .agg #[.int .i64 1, .int .i64 kn, .string ⟨#[]⟩]), (5, 33, .pointer (some ⟨g8, 2, none⟩)), (6, 34, .int .i64 r.b), (7, 35, .int .i64 nw), (8, 36, .tuple #[.agg #[.int .i64 1, .int .i64 (k + 1), .int .i64 1, .int .i64 1, .int .i64 kn, .string ⟨#[]⟩, .int .i64 0, .int .i64 0, .string ⟨#[]⟩, .int .i64 (nw + p)], .int .i64 0]), (9, 27, .tuple #[.agg #[.int .i64 1, .int .i64 (k + 1), .int .i64 1, .int .i64 1, .int .i64 kn, .string ⟨#[]⟩, .int .i64 0, .int .i64 0, .string ⟨#[]⟩, .int .i64 (nw + p)], .int .i64 0]), (10, 37, .agg #[.int .i64 1, .int .i64 (k + 1), .int .i64 1, .int .i64 1, .int .i64 kn, .string ⟨#[]⟩, .int .i64 0, .int .i64 0, .string ⟨#[]⟩, .int .i64 (nw + p)]), (11, 38, .int .i64 0), (14, 10, .int .i64 0)]) := ⟨_, Lib.hid rfl⟩
      refine region_go2 (by kernel_rfl) (by kernel_rfl) TT
        [9]
        [⟨12, 9, 13, [.int .i64 0, .int .i64 0, .int .i64 0, .int .i64 0, .int .i64 0, .string ⟨#[]⟩, .int .i64 0, .int .i64 0, .string ⟨#[]⟩, .int .i64 0], [.int .i64 1, .int .i64 (k + 1), .int .i64 1, .int .i64 1, .int .i64 kn, .string ⟨#[]⟩, .int .i64 0, .int .i64 0, .string ⟨#[]⟩, .int .i64 (nw + p)]⟩]
        [(5, .pointer (some ⟨B1, 0, none⟩)), (7, .int .i64 k), (8, .pointer (some ⟨g8, 0, none⟩))]
        15 (by rfl) (by rw [HT.out]; rfl) ?basew6 (by rw [HT.out]; rfl) ?stepw6 ?finw6
      case basew6 =>
        intro x hx
        simp only [List.mem_cons, List.not_mem_nil, or_false] at hx
        rcases hx with rfl | rfl | rfl <;> rfl
      case stepw6 =>
        intro a0 D a' w' hT hE hS hV hB
        have e5 : a'.eval (.tmp 5) = .pointer (some ⟨B1, 0, none⟩) := hE (5, _) (by simp)
        have e7 : a'.eval (.tmp 7) = .int .i64 k := hE (7, _) (by simp)
        have e8 : a'.eval (.tmp 8) = .pointer (some ⟨g8, 0, none⟩) := hE (8, _) (by simp)
        have hBs := hB.size
        refine all_succ (all_succ (all_succ (all_succ (all_succ (all_succ (all_succ (all_succ (all_succ (all_succ (all_succ (all_succ (all_succ (all_succ (all_succ (all_zero _) ?_) ?_) ?_) ?_) ?_) ?_) ?_) ?_) ?_) ?_) ?_) ?_) ?_) ?_) ?_
        all_goals
          intro o ho hn hafter
          have ho' := ho
          simp only [List.getElem?_toArray, List.getElem?_cons_zero, List.getElem?_cons_succ, Option.some.injEq] at ho'
          subst ho'
          simp [Region.binds] at hafter
        · have bb := hp.keep hB
          have c0 := bb.cells 0 _ rfl
          have c1 := bb.cells 1 _ rfl
          have c2 := bb.cells 2 _ rfl
          refine step_value (d := 28) (v := .agg #[.int .i64 t, .int .i64 p, .int .i64 q]) ho rfl rfl hT (mem_at HT 0 rfl) (by rfl) hS hV hB (Below.refl _ _) hBs ?_
          simp only [execOp, e5]
          go_simp
        · refine step_value (d := 29) (v := .int .i64 k) ho rfl rfl hT (mem_at HT 1 rfl) (by rfl) hS hV hB (Below.refl _ _) hBs ?_
          simp only [execOp, e7]
          go_simp
        · have f29 : a'.eval (.tmp 29) = .int .i64 k := hS.done (1, 29, .int .i64 k) (mem_at HT 1 rfl) (by simp [hafter])
          refine step_value (d := 30) (v := .int .i64 (k + 1)) ho rfl rfl hT (mem_at HT 2 rfl) (by rfl) hS hV hB (Below.refl _ _) hBs ?_
          simp only [execOp, f29]
          first | (go_simp; done) | (go_simp; rw [IntWalk.i64_in _ (by omega)]; done) | (go_simp; rw [IntWalk.i64_in _ (by omega)]; rfl) | go_simp
        · have bb := hx.keep hB
          have c0 := bb.cells 0 _ rfl
          have c1 := bb.cells 1 _ rfl
          have c2 := bb.cells 2 _ rfl
          have c3 := bb.cells 3 _ rfl
          refine step_value (d := 31) (v := r.val) ho rfl rfl hT (mem_at HT 3 rfl) (by rfl) hS hV hB (Below.refl _ _) hBs ?_
          simp only [execOp, e8]
          go_simp
        · have f31 : a'.eval (.tmp 31) = r.val := hS.done (3, 31, r.val) (mem_at HT 3 rfl) (by simp [hafter])
          refine step_call (d := 32) (v := .agg #[.int .i64 1, .int .i64 kn, .string ⟨#[]⟩]) (f := 28) (args := #[.int .i64 1, r.val]) ho rfl rfl hT (mem_at HT 4 rfl) (by rfl) hS hV hB hBs ?_ ((HV'.out w').out)
          simp only [execOp, resolve]
          simp [f31]
          go_simp
        · refine step_value (d := 33) (v := .pointer (some ⟨g8, 2, none⟩)) ho rfl rfl hT (mem_at HT 5 rfl) (by rfl) hS hV hB (Below.refl _ _) hBs ?_
          simp only [execOp, e8]
          go_simp
        · have bb := hx.keep hB
          have c0 := bb.cells 0 _ rfl
          have c1 := bb.cells 1 _ rfl
          have c2 := bb.cells 2 _ rfl
          have c3 := bb.cells 3 _ rfl
          have f33 : a'.eval (.tmp 33) = .pointer (some ⟨g8, 2, none⟩) := hS.done (5, 33, .pointer (some ⟨g8, 2, none⟩)) (mem_at HT 5 rfl) (by simp [hafter])
          refine step_value (d := 34) (v := .int .i64 r.b) ho rfl rfl hT (mem_at HT 6 rfl) (by rfl) hS hV hB (Below.refl _ _) hBs ?_
          simp only [execOp, f33]
          go_simp
        · have f34 : a'.eval (.tmp 34) = .int .i64 r.b := hS.done (6, 34, .int .i64 r.b) (mem_at HT 6 rfl) (by simp [hafter])
          refine step_call (d := 35) (v := .int .i64 nw) (f := 27) (args := #[.int .i64 r.b, .int .i64 100]) ho rfl rfl hT (mem_at HT 7 rfl) (by rfl) hS hV hB hBs ?_ ((HP'.out w').out)
          simp only [execOp, resolve]
          simp [f34]
          go_simp
        · have f28 : a'.eval (.tmp 28) = .agg #[.int .i64 t, .int .i64 p, .int .i64 q] := hS.done (0, 28, .agg #[.int .i64 t, .int .i64 p, .int .i64 q]) (mem_at HT 0 rfl) (by simp [hafter])
          have f30 : a'.eval (.tmp 30) = .int .i64 (k + 1) := hS.done (2, 30, .int .i64 (k + 1)) (mem_at HT 2 rfl) (by simp [hafter])
          have f32 : a'.eval (.tmp 32) = .agg #[.int .i64 1, .int .i64 kn, .string ⟨#[]⟩] := hS.done (4, 32, .agg #[.int .i64 1, .int .i64 kn, .string ⟨#[]⟩]) (mem_at HT 4 rfl) (by simp [hafter])
          have f35 : a'.eval (.tmp 35) = .int .i64 nw := hS.done (7, 35, .int .i64 nw) (mem_at HT 7 rfl) (by simp [hafter])
          refine step_call (d := 36) (v := .tuple #[.agg #[.int .i64 1, .int .i64 (k + 1), .int .i64 1, .int .i64 1, .int .i64 kn, .string ⟨#[]⟩, .int .i64 0, .int .i64 0, .string ⟨#[]⟩, .int .i64 (nw + p)], .int .i64 0]) (f := 30) (args := #[.agg #[.int .i64 t, .int .i64 p, .int .i64 q], .int .i64 (k + 1), .agg #[.int .i64 1, .int .i64 kn, .string ⟨#[]⟩], .int .i64 nw]) ho rfl rfl hT (mem_at HT 8 rfl) (by rfl) hS hV hB hBs ?_ (call_start t p q (k + 1) 1 kn nw ⟨#[]⟩ w' OP.out (by omega) (by omega) s0 (by omega) HKN.out)
          simp only [execOp, resolve]
          simp [f28, f30, f32, f35]
          go_simp
        · have f36 : a'.eval (.tmp 36) = .tuple #[.agg #[.int .i64 1, .int .i64 (k + 1), .int .i64 1, .int .i64 1, .int .i64 kn, .string ⟨#[]⟩, .int .i64 0, .int .i64 0, .string ⟨#[]⟩, .int .i64 (nw + p)], .int .i64 0] := hS.done (8, 36, .tuple #[.agg #[.int .i64 1, .int .i64 (k + 1), .int .i64 1, .int .i64 1, .int .i64 kn, .string ⟨#[]⟩, .int .i64 0, .int .i64 0, .string ⟨#[]⟩, .int .i64 (nw + p)], .int .i64 0]) (mem_at HT 8 rfl) (by simp [hafter])
          refine step_value (d := 27) (v := .tuple #[.agg #[.int .i64 1, .int .i64 (k + 1), .int .i64 1, .int .i64 1, .int .i64 kn, .string ⟨#[]⟩, .int .i64 0, .int .i64 0, .string ⟨#[]⟩, .int .i64 (nw + p)], .int .i64 0]) ho rfl rfl hT (mem_at HT 9 rfl) (by rfl) hS hV hB (Below.refl _ _) hBs ?_
          simp only [execOp, f36]
          go_simp
        · have f27 : a'.eval (.tmp 27) = .tuple #[.agg #[.int .i64 1, .int .i64 (k + 1), .int .i64 1, .int .i64 1, .int .i64 kn, .string ⟨#[]⟩, .int .i64 0, .int .i64 0, .string ⟨#[]⟩, .int .i64 (nw + p)], .int .i64 0] := hS.done (9, 27, .tuple #[.agg #[.int .i64 1, .int .i64 (k + 1), .int .i64 1, .int .i64 1, .int .i64 kn, .string ⟨#[]⟩, .int .i64 0, .int .i64 0, .string ⟨#[]⟩, .int .i64 (nw + p)], .int .i64 0]) (mem_at HT 9 rfl) (by simp [hafter])
          refine step_value (d := 37) (v := .agg #[.int .i64 1, .int .i64 (k + 1), .int .i64 1, .int .i64 1, .int .i64 kn, .string ⟨#[]⟩, .int .i64 0, .int .i64 0, .string ⟨#[]⟩, .int .i64 (nw + p)]) ho rfl rfl hT (mem_at HT 10 rfl) (by rfl) hS hV hB (Below.refl _ _) hBs ?_
          simp only [execOp, f27]
          go_simp
        · have f27 : a'.eval (.tmp 27) = .tuple #[.agg #[.int .i64 1, .int .i64 (k + 1), .int .i64 1, .int .i64 1, .int .i64 kn, .string ⟨#[]⟩, .int .i64 0, .int .i64 0, .string ⟨#[]⟩, .int .i64 (nw + p)], .int .i64 0] := hS.done (9, 27, .tuple #[.agg #[.int .i64 1, .int .i64 (k + 1), .int .i64 1, .int .i64 1, .int .i64 kn, .string ⟨#[]⟩, .int .i64 0, .int .i64 0, .string ⟨#[]⟩, .int .i64 (nw + p)], .int .i64 0]) (mem_at HT 9 rfl) (by simp [hafter])
          refine step_value (d := 38) (v := .int .i64 0) ho rfl rfl hT (mem_at HT 11 rfl) (by rfl) hS hV hB (Below.refl _ _) hBs ?_
          simp only [execOp, f27]
          go_simp
        · refine step_alloc (x := ⟨12, 9, 13, [.int .i64 0, .int .i64 0, .int .i64 0, .int .i64 0, .int .i64 0, .string ⟨#[]⟩, .int .i64 0, .int .i64 0, .string ⟨#[]⟩, .int .i64 0], [.int .i64 1, .int .i64 (k + 1), .int .i64 1, .int .i64 1, .int .i64 kn, .string ⟨#[]⟩, .int .i64 0, .int .i64 0, .string ⟨#[]⟩, .int .i64 (nw + p)]⟩) (cs := #[.int .i64 0, .int .i64 0, .int .i64 0, .int .i64 0, .int .i64 0, .string ⟨#[]⟩, .int .i64 0, .int .i64 0, .string ⟨#[]⟩, .int .i64 0]) (t := 56) ho rfl rfl hT (by rfl) (by simp) (by simp) (by rw [HT.out]; rfl) hn hS hV hB hBs rfl ?_
          simp only [execOp]
          go_simp
        · have f37 : a'.eval (.tmp 37) = .agg #[.int .i64 1, .int .i64 (k + 1), .int .i64 1, .int .i64 1, .int .i64 kn, .string ⟨#[]⟩, .int .i64 0, .int .i64 0, .string ⟨#[]⟩, .int .i64 (nw + p)] := hS.done (10, 37, .agg #[.int .i64 1, .int .i64 (k + 1), .int .i64 1, .int .i64 1, .int .i64 kn, .string ⟨#[]⟩, .int .i64 0, .int .i64 0, .string ⟨#[]⟩, .int .i64 (nw + p)]) (mem_at HT 10 rfl) (by simp [hafter])
          refine step_store (x := ⟨12, 9, 13, [.int .i64 0, .int .i64 0, .int .i64 0, .int .i64 0, .int .i64 0, .string ⟨#[]⟩, .int .i64 0, .int .i64 0, .string ⟨#[]⟩, .int .i64 0], [.int .i64 1, .int .i64 (k + 1), .int .i64 1, .int .i64 1, .int .i64 kn, .string ⟨#[]⟩, .int .i64 0, .int .i64 0, .string ⟨#[]⟩, .int .i64 (nw + p)]⟩) ho rfl rfl (by rfl) (by simp) (by rw [HT.out]; rfl) hn (by simp [hafter]) hS hV hB (fun g hg hbox => ?_)
          have c0 := hbox.cells 0 _ rfl
          have c1 := hbox.cells 1 _ rfl
          have c2 := hbox.cells 2 _ rfl
          have c3 := hbox.cells 3 _ rfl
          have c4 := hbox.cells 4 _ rfl
          have c5 := hbox.cells 5 _ rfl
          have c6 := hbox.cells 6 _ rfl
          have c7 := hbox.cells 7 _ rfl
          have c8 := hbox.cells 8 _ rfl
          have c9 := hbox.cells 9 _ rfl
          have k0 := hbox.free 0
          have k1 := hbox.free 1
          have k2 := hbox.free 2
          have k3 := hbox.free 3
          have k4 := hbox.free 4
          have k5 := hbox.free 5
          have k6 := hbox.free 6
          have k7 := hbox.free 7
          have k8 := hbox.free 8
          have k9 := hbox.free 9
          refine ⟨_, ?_, only10 _ _ _ _ _ _ _ _ _ _, set10_box _ _ _ _ _ _ _ _ _ _ hbox⟩
          simp only [execOp, f37, hg]
          go_simp
        · have f38 : a'.eval (.tmp 38) = .int .i64 0 := hS.done (11, 38, .int .i64 0) (mem_at HT 11 rfl) (by simp [hafter])
          refine step_value (d := 10) (v := .int .i64 0) ho rfl rfl hT (mem_at HT 12 rfl) (by rfl) hS hV hB (Below.refl _ _) hBs ?_
          simp only [execOp, f38]
          go_simp
      intro a' w6 hS hV hB
      obtain ⟨gx, f9, l9, hc⟩ := hV.fin (x := ⟨12, 9, 13, [.int .i64 0, .int .i64 0, .int .i64 0, .int .i64 0, .int .i64 0, .string ⟨#[]⟩, .int .i64 0, .int .i64 0, .string ⟨#[]⟩, .int .i64 0], [.int .i64 1, .int .i64 (k + 1), .int .i64 1, .int .i64 1, .int .i64 kn, .string ⟨#[]⟩, .int .i64 0, .int .i64 0, .string ⟨#[]⟩, .int .i64 (nw + p)]⟩) (by simp) (by show (12 : Nat) < 15; omega) (by show (13 : Nat) < 15; omega)
      have hc : Box w6 gx [.int .i64 1, .int .i64 (k + 1), .int .i64 1, .int .i64 1, .int .i64 kn, .string ⟨#[]⟩, .int .i64 0, .int .i64 0, .string ⟨#[]⟩, .int .i64 (nw + p)] := hc
      have HT' := HT.out
      subst HT'
      have e := hS.all (by rfl) (by decide) (fun x hx => of_decide_eq_true (List.all_eq_true.1 (show List.all _ (fun x : Nat × Nat × Value => decide (x.1 < 15)) = true from by rfl) x hx)) [(9, .pointer (some ⟨gx, 0, none⟩))] rfl (by
        intro x hx
        simp only [List.mem_cons, List.not_mem_nil, or_false] at hx
        subst hx
        exact f9)
      subst e
      clear hS hV HT f9
      simp only [puts, List.map_cons, List.map_nil, List.cons_append, List.nil_append, List.foldl_cons, List.foldl_nil]
      replace hw := hw.trans (hB.mono (by have := hw.size; omega))
      have d_gx_hp : B1 < gx := by have := hp.lt; omega
      have d_gx_hx : g8 < gx := by have := hx.lt; omega
      replace hx := hx.keep hB
      replace hp := hp.keep hB
      replace hown := hown.keep hB
      clear hB 
      have ra := HRO.out.2.1
      obtain ⟨ra0, ra1⟩ := ra
      have x0 := hx.cells 0 _ rfl
      have x1 := hx.cells 1 _ rfl
      have x2 := hx.cells 2 _ rfl
      have x3 := hx.cells 3 _ rfl
      go_wp2_with fail
      with_reducible refine (picked_any r.a 3 _ ra0 ra1 (by omega) (by omega)).mono ?_
      rintro e w' ⟨rfl, rfl⟩
      clear x0 x1 x2 x3
      clear ra0 ra1
      have hne : ∀ k, u6.ownBlock = some k → k ≠ gx := fun k hk => by have := (hq k hk).2; omega
      have HNE := Lib.hid hne
      clear hq hne
      have gB : w.heap.size ≤ gx := by have := hw.size; omega
      by_cases hpk : pickL r.a 3 = 0
      · have hpk' : (pickL r.a 3 == 0) = true := beq_iff_eq.2 hpk
        clear hpk
        have x0 := hc.cells 0 _ rfl
        have x1 := hc.cells 1 _ rfl
        have x2 := hc.cells 2 _ rfl
        have x3 := hc.cells 3 _ rfl
        have x4 := hc.cells 4 _ rfl
        have x5 := hc.cells 5 _ rfl
        have x6 := hc.cells 6 _ rfl
        have x7 := hc.cells 7 _ rfl
        have x8 := hc.cells 8 _ rfl
        have x9 := hc.cells 9 _ rfl
        have c0 := hp.cells 0 _ rfl
        have c1 := hp.cells 1 _ rfl
        have c2 := hp.cells 2 _ rfl
        go_wp2_with fail
        with_reducible refine (call_hear_takes t p q (k + 1) 1 1 kn (nw + p) 1 kn ⟨#[]⟩ ⟨#[]⟩ _ OP.out (by omega) (by omega) (by omega) (by omega) (by omega) (by omega) HKN.out HKN.out).mono ?_
        rintro e u7 ⟨rfl, hb⟩
        clear x0 x1 x2 x3 x4 x5 x6 x7 x8 x9 c0 c1 c2
        replace hw := hw.trans (hb.mono (by have := hw.size; omega))
        replace hp := hp.keep hb
        replace hc := hc.keep hb
        replace hown := hown.keep hb
        clear hb
        have x0 := hc.cells 0 _ rfl
        have x1 := hc.cells 1 _ rfl
        have x2 := hc.cells 2 _ rfl
        have x3 := hc.cells 3 _ rfl
        have x4 := hc.cells 4 _ rfl
        have x5 := hc.cells 5 _ rfl
        have x6 := hc.cells 6 _ rfl
        have x7 := hc.cells 7 _ rfl
        have x8 := hc.cells 8 _ rfl
        have x9 := hc.cells 9 _ rfl
        have f0 := hc.free 0
        have f1 := hc.free 1
        have f2 := hc.free 2
        have f3 := hc.free 3
        have f4 := hc.free 4
        have f5 := hc.free 5
        have f6 := hc.free 6
        have f7 := hc.free 7
        have f8 := hc.free 8
        have f9 := hc.free 9
        go_upto_region 11 with (fail)
        clear x0 x1 x2 x3 x4 x5 x6 x7 x8 x9 f0 f1 f2 f3 f4 f5 f6 f7 f8 f9
        have oo := only10 (w := u7) (g := gx) (.int .i64 2) (.int .i64 (k + 1)) (.int .i64 1) (.int .i64 1) (.int .i64 kn) (.string ⟨#[]⟩) (.int .i64 1) (.int .i64 kn) (.string ⟨#[]⟩) (.int .i64 0)
        replace hc := set10_box (.int .i64 2) (.int .i64 (k + 1)) (.int .i64 1) (.int .i64 1) (.int .i64 kn) (.string ⟨#[]⟩) (.int .i64 1) (.int .i64 kn) (.string ⟨#[]⟩) (.int .i64 0) hc
        replace hp := oo.box (by omega) hp
        replace hown := hown.only oo HNE.out
        replace hw := hw.trans (oo.below (by omega))
        clear oo
        generalize ((((((((((u7.setCell ⟨gx, 0, none⟩ (.int .i64 2)).setCell ⟨gx, 1, none⟩ (.int .i64 (k + 1))).setCell ⟨gx, 2, none⟩ (.int .i64 1)).setCell ⟨gx, 3, none⟩ (.int .i64 1)).setCell ⟨gx, 4, none⟩ (.int .i64 kn)).setCell ⟨gx, 5, none⟩ (.string ⟨#[]⟩)).setCell ⟨gx, 6, none⟩ (.int .i64 1)).setCell ⟨gx, 7, none⟩ (.int .i64 kn)).setCell ⟨gx, 8, none⟩ (.string ⟨#[]⟩)).setCell ⟨gx, 9, none⟩ (.int .i64 0)) = V9 at *
        have x0 := hc.cells 0 _ rfl
        have x1 := hc.cells 1 _ rfl
        have x2 := hc.cells 2 _ rfl
        have x3 := hc.cells 3 _ rfl
        have x4 := hc.cells 4 _ rfl
        have x5 := hc.cells 5 _ rfl
        have x6 := hc.cells 6 _ rfl
        have x7 := hc.cells 7 _ rfl
        have x8 := hc.cells 8 _ rfl
        have x9 := hc.cells 9 _ rfl
        have hal := hown.alloc (.cells #[.int .i64 2, .int .i64 (k + 1), .int .i64 1, .int .i64 1, .int .i64 kn, .string ⟨#[]⟩, .int .i64 1, .int .i64 kn, .string ⟨#[]⟩, .int .i64 0] 56)
        have hbx := Box.new V9 #[.int .i64 2, .int .i64 (k + 1), .int .i64 1, .int .i64 1, .int .i64 kn, .string ⟨#[]⟩, .int .i64 1, .int .i64 kn, .string ⟨#[]⟩, .int .i64 0] 56
        have hpa := hp.alloc (.cells #[.int .i64 2, .int .i64 (k + 1), .int .i64 1, .int .i64 1, .int .i64 kn, .string ⟨#[]⟩, .int .i64 1, .int .i64 kn, .string ⟨#[]⟩, .int .i64 0] 56)
        have hwa := hw.alloc (by have := hw.size; omega) (.cells #[.int .i64 2, .int .i64 (k + 1), .int .i64 1, .int .i64 1, .int .i64 kn, .string ⟨#[]⟩, .int .i64 1, .int .i64 kn, .string ⟨#[]⟩, .int .i64 0] 56)
        have hxs : B1 + 1 ≤ (V9.alloc (.cells #[.int .i64 2, .int .i64 (k + 1), .int .i64 1, .int .i64 1, .int .i64 kn, .string ⟨#[]⟩, .int .i64 1, .int .i64 kn, .string ⟨#[]⟩, .int .i64 0] 56)).heap.size := by simp; have := hc.lt; omega
        have HAL := Lib.hid (And.intro hal (And.intro hbx (And.intro hpa (And.intro hwa hxs))))
        clear hal hbx hpa hwa hxs hown hp hw
        go_wp2_with (at_builtin; refine wpList_append_own _ rfl (.tmp 58) (.tmp 60) 67 rfl (B1 + 1) 56 i0 (.agg #[.int .i64 0, .int .i64 0, .int .i64 0, .int .i64 0, .int .i64 0, .string ⟨#[]⟩, .int .i64 0, .int .i64 0, .string ⟨#[]⟩, .int .i64 0]) 10 96 Try.underlying67 hi hz0 hz1 hz2 rfl (by decide) _ _ _ rfl HAL.out.1.own ⟨V9.heap.size, 0, none⟩ 1 1 [.int .i64 2, .int .i64 (k + 1), .int .i64 1, .int .i64 1, .int .i64 kn, .string ⟨#[]⟩, .int .i64 1, .int .i64 kn, .string ⟨#[]⟩, .int .i64 0] rfl rfl (box_add HAL.out.2.1) ?c2 ?c3 ?c4 HAL.out.2.2.2.2 ?_)
        case c2 => simp [Value.oneCell']
        case c3 => unfold maxLen; omega
        case c4 => omega
        intro v' w1 hown' hgrow _
        have hgb := grown_below HAL.out.1 hgrow HAL.out.2.2.2.2
        have hp' := HAL.out.2.2.1.low hgb (by omega)
        have hw' := HAL.out.2.2.2.1.trans (hgb.mono (by omega))
        have hB' : B1 + 1 ≤ w1.heap.size := by have h1 := HAL.out.2.2.2.2; have h2 := hgb.size; omega
        have ALL := Lib.hid (And.intro hown' (And.intro hp' (And.intro hw' hB')))
        clear hown' hgrow hgb hp' hw' hB' HAL
        clear x0 x1 x2 x3 x4 x5 x6 x7 x8 x9
        go_wp2_with fail
        go_roundw
        case rel =>
          obtain ⟨hown', hp', hw', hB'⟩ := ALL.out
          exact ⟨k + 1, cs ++ [⟨2, (k + 1), 1, 1, kn, ⟨#[]⟩, 1, kn, ⟨#[]⟩, 0⟩], by omega, by go_num, by simp [hcl], ⟨by rw [List.map_append, List.flatten_append]; simpa using hown'⟩, hp', hw', hB'⟩
        case measure => simp [intOf]; omega
      · have hpk' : (pickL r.a 3 == 0) = false := beq_eq_false_iff_ne.2 hpk
        clear hpk
        go_upto_region 11 with (fail)
        have x0 := hc.cells 0 _ rfl
        have x1 := hc.cells 1 _ rfl
        have x2 := hc.cells 2 _ rfl
        have x3 := hc.cells 3 _ rfl
        have x4 := hc.cells 4 _ rfl
        have x5 := hc.cells 5 _ rfl
        have x6 := hc.cells 6 _ rfl
        have x7 := hc.cells 7 _ rfl
        have x8 := hc.cells 8 _ rfl
        have x9 := hc.cells 9 _ rfl
        have hal := hown.alloc (.cells #[.int .i64 1, .int .i64 (k + 1), .int .i64 1, .int .i64 1, .int .i64 kn, .string ⟨#[]⟩, .int .i64 0, .int .i64 0, .string ⟨#[]⟩, .int .i64 (nw + p)] 56)
        have hbx := Box.new w6 #[.int .i64 1, .int .i64 (k + 1), .int .i64 1, .int .i64 1, .int .i64 kn, .string ⟨#[]⟩, .int .i64 0, .int .i64 0, .string ⟨#[]⟩, .int .i64 (nw + p)] 56
        have hpa := hp.alloc (.cells #[.int .i64 1, .int .i64 (k + 1), .int .i64 1, .int .i64 1, .int .i64 kn, .string ⟨#[]⟩, .int .i64 0, .int .i64 0, .string ⟨#[]⟩, .int .i64 (nw + p)] 56)
        have hwa := hw.alloc (by have := hw.size; omega) (.cells #[.int .i64 1, .int .i64 (k + 1), .int .i64 1, .int .i64 1, .int .i64 kn, .string ⟨#[]⟩, .int .i64 0, .int .i64 0, .string ⟨#[]⟩, .int .i64 (nw + p)] 56)
        have hxs : B1 + 1 ≤ (w6.alloc (.cells #[.int .i64 1, .int .i64 (k + 1), .int .i64 1, .int .i64 1, .int .i64 kn, .string ⟨#[]⟩, .int .i64 0, .int .i64 0, .string ⟨#[]⟩, .int .i64 (nw + p)] 56)).heap.size := by simp; have := hc.lt; omega
        have HAL := Lib.hid (And.intro hal (And.intro hbx (And.intro hpa (And.intro hwa hxs))))
        clear hal hbx hpa hwa hxs hown hp hw
        go_wp2_with (at_builtin; refine wpList_append_own _ rfl (.tmp 58) (.tmp 60) 67 rfl (B1 + 1) 56 i0 (.agg #[.int .i64 0, .int .i64 0, .int .i64 0, .int .i64 0, .int .i64 0, .string ⟨#[]⟩, .int .i64 0, .int .i64 0, .string ⟨#[]⟩, .int .i64 0]) 10 96 Try.underlying67 hi hz0 hz1 hz2 rfl (by decide) _ _ _ rfl HAL.out.1.own ⟨w6.heap.size, 0, none⟩ 1 1 [.int .i64 1, .int .i64 (k + 1), .int .i64 1, .int .i64 1, .int .i64 kn, .string ⟨#[]⟩, .int .i64 0, .int .i64 0, .string ⟨#[]⟩, .int .i64 (nw + p)] rfl rfl (box_add HAL.out.2.1) ?c2 ?c3 ?c4 HAL.out.2.2.2.2 ?_)
        case c2 => simp [Value.oneCell']
        case c3 => unfold maxLen; omega
        case c4 => omega
        intro v' w1 hown' hgrow _
        have hgb := grown_below HAL.out.1 hgrow HAL.out.2.2.2.2
        have hp' := HAL.out.2.2.1.low hgb (by omega)
        have hw' := HAL.out.2.2.2.1.trans (hgb.mono (by omega))
        have hB' : B1 + 1 ≤ w1.heap.size := by have h1 := HAL.out.2.2.2.2; have h2 := hgb.size; omega
        have ALL := Lib.hid (And.intro hown' (And.intro hp' (And.intro hw' hB')))
        clear hown' hgrow hgb hp' hw' hB' HAL
        clear x0 x1 x2 x3 x4 x5 x6 x7 x8 x9
        go_wp2_with fail
        go_roundw
        case rel =>
          obtain ⟨hown', hp', hw', hB'⟩ := ALL.out
          exact ⟨k + 1, cs ++ [⟨1, (k + 1), 1, 1, kn, ⟨#[]⟩, 0, 0, ⟨#[]⟩, (nw + p)⟩], by omega, by go_num, by simp [hcl], ⟨by rw [List.map_append, List.flatten_append]; simpa using hown'⟩, hp', hw', hB'⟩
        case measure => simp [intOf]; omega
    · have hkn : k = l.length := by omega
      subst hkn
      clear hlt hk HR HOK
      obtain ⟨A2, cap2, e2, hcap2, hr2⟩ := IsRows.of_own (cells_len cs) (by rw [List.length_map, hcl]; exact hown)
      rw [List.length_map, hcl] at e2 hcap2
      subst e2
      have hr3 : IsRows wr 10 (.slice A2 l.length cap2) (cs.map CallR.cells) := ⟨A2, cap2, by rw [List.length_map, hcl], by rw [List.length_map, hcl]; exact hcap2, hr2⟩
      have hN := fun W (h : IsRows W 10 (.slice A2 l.length cap2) (cs.map CallR.cells)) => next_any (.slice A2 l.length cap2) cs W h (by omega)
      have h1 := fun W => next_any _ [⟨1, 0, 0, 0, 0, ⟨#[]⟩, 0, 0, ⟨#[]⟩, 4⟩] _ (one_row W #[.int .i64 1, .int .i64 0, .int .i64 0, .int .i64 0, .int .i64 0, .string ⟨#[]⟩, .int .i64 0, .int .i64 0, .string ⟨#[]⟩, .int .i64 4] 56 10) (by simp)
      have e1 : nextF [⟨1, 0, 0, 0, 0, ⟨#[]⟩, 0, 0, ⟨#[]⟩, 4⟩] = some 4 := rfl
      simp only [e1, nextV] at h1
      have H1 := Lib.hid h1
      have hcl' := Lib.hid hcl
      clear h1 e1 hown hp hr2 hcl
      rcases nextIs cs with ⟨e3, hno⟩ | ⟨m, e3, hany, hle⟩
      · simp only [e3, nextV] at hN
        have HN := Lib.hid hN
        have HNO := Lib.hid hno
        clear hN hno e3
        go_wp2_with fail
        with_reducible refine (HN.out _ hr3).mono ?_
        rintro e x1 ⟨rfl, hb⟩
        replace hw := hw.trans (hb.mono (by have := hw.size; omega))
        replace hr3 := hr3.keep hb
        clear hb
        go_wp2_with fail
        with_reducible refine (H1.out _).mono ?_
        rintro e x2 ⟨rfl, hb⟩
        replace hr3 := hr3.alloc (.cells #[.int .i64 1, .int .i64 0, .int .i64 0, .int .i64 0, .int .i64 0, .string ⟨#[]⟩, .int .i64 0, .int .i64 0, .string ⟨#[]⟩, .int .i64 4] 56)
        replace hw := hw.alloc (by have := hw.size; omega) (.cells #[.int .i64 1, .int .i64 0, .int .i64 0, .int .i64 0, .int .i64 0, .string ⟨#[]⟩, .int .i64 0, .int .i64 0, .string ⟨#[]⟩, .int .i64 4] 56)
        replace hw := hw.trans (hb.mono (by have := hw.size; omega))
        replace hr3 := hr3.keep hb
        clear hb
        go_wp2_with fail
        obtain ⟨A3, cap3, e4, hcap3, hr4⟩ := hr3
        simp at e4
        obtain ⟨rfl, -, rfl⟩ := e4
        have HR4 := Lib.hid hr4
        clear hr4 hcap3
        go_loopw [15, 82] (fun s n wr => ∃ k : Nat, k ≤ l.length ∧ n = .int .i64 k ∧ s = .bool false ∧ Below x2.heap.size x2 wr) (fun _ n _ => l.length - (intOf n).toNat)
        case atStart => exact ⟨0, Nat.zero_le _, rfl, rfl, Below.refl _ _⟩
        case round =>
          obtain ⟨k, hk, rfl, rfl, hb⟩ := hrel
          have hb2 := Lib.hid hb
          by_cases hlt : k < l.length
          · obtain ⟨d, hd⟩ : ∃ d, cs[k]? = some d := ⟨_, List.getElem?_eq_getElem (by rw [hcl'.out]; exact hlt)⟩
            obtain ⟨b, off, rfl, hbl, hc⟩ : ∃ b off, A2 = some ⟨b, off, none⟩ ∧ b < x2.heap.size ∧ ∀ j u, d.cells[j]? = some u → x2.cell? ⟨b, off + k * 10 + j, none⟩ = some u := by
              rcases HR4.out with h0 | ⟨b, off, e, hbl, hc⟩
              · have h2 := hcl'.out; simp at h0; subst h0; simp at h2; omega
              · exact ⟨b, off, e, hbl, hc k _ (by rw [List.getElem?_map, hd]; rfl)⟩
            have c0 : _ = some _ := (hb.cell (p := ⟨b, off + k * 10, none⟩) hbl).trans (hc 0 _ rfl)
            have c1 : _ = some _ := (hb.cell (p := ⟨b, off + k * 10 + 1, none⟩) hbl).trans (hc 1 _ rfl)
            have c2 : _ = some _ := (hb.cell (p := ⟨b, off + k * 10 + 2, none⟩) hbl).trans (hc 2 _ rfl)
            have c3 : _ = some _ := (hb.cell (p := ⟨b, off + k * 10 + 3, none⟩) hbl).trans (hc 3 _ rfl)
            have c4 : _ = some _ := (hb.cell (p := ⟨b, off + k * 10 + 4, none⟩) hbl).trans (hc 4 _ rfl)
            have c5 : _ = some _ := (hb.cell (p := ⟨b, off + k * 10 + 5, none⟩) hbl).trans (hc 5 _ rfl)
            have c6 : _ = some _ := (hb.cell (p := ⟨b, off + k * 10 + 6, none⟩) hbl).trans (hc 6 _ rfl)
            have c7 : _ = some _ := (hb.cell (p := ⟨b, off + k * 10 + 7, none⟩) hbl).trans (hc 7 _ rfl)
            have c8 : _ = some _ := (hb.cell (p := ⟨b, off + k * 10 + 8, none⟩) hbl).trans (hc 8 _ rfl)
            have c9 : _ = some _ := (hb.cell (p := ⟨b, off + k * 10 + 9, none⟩) hbl).trans (hc 9 _ rfl)
            have hdm := List.mem_of_getElem? hd
            have hsn := take_snoc' cs k d hd
            obtain ⟨st, id, tr, kk, kn, ks, hk', hn', hs', nx⟩ := d
            simp only at c0 c1 c2 c3 c4 c5 c6 c7 c8 c9
            have h1' : (st == 1) = false := beq_eq_false_iff_ne.2 (HNO.out _ hdm)
            clear hdm hd hc hb hsn
            go_wp2_with fail
            go_roundw
            case rel => exact ⟨k + 1, by omega, by go_num, rfl, hb2.out.alloc hb2.out.size _⟩
            case measure => simp [intOf]; omega
          · have hkn : k = l.length := by omega
            subst hkn
            have hwe := hw.trans (hb.mono (by have := hw.size; omega))
            clear hb
            go_wp2_with fail
            go_ret
            exact ⟨rfl, hwe⟩
      · simp only [e3, nextV] at hN
        have HN := Lib.hid hN
        have HANY := Lib.hid hany
        have HLE := Lib.hid hle
        clear hN hany hle e3
        go_wp2_with fail
        with_reducible refine (HN.out _ hr3).mono ?_
        rintro e x1 ⟨rfl, hb⟩
        replace hw := hw.trans (hb.mono (by have := hw.size; omega))
        replace hr3 := hr3.keep hb
        clear hb
        go_wp2_with fail
        with_reducible refine (H1.out _).mono ?_
        rintro e x2 ⟨rfl, hb⟩
        replace hr3 := hr3.alloc (.cells #[.int .i64 1, .int .i64 0, .int .i64 0, .int .i64 0, .int .i64 0, .string ⟨#[]⟩, .int .i64 0, .int .i64 0, .string ⟨#[]⟩, .int .i64 4] 56)
        replace hw := hw.alloc (by have := hw.size; omega) (.cells #[.int .i64 1, .int .i64 0, .int .i64 0, .int .i64 0, .int .i64 0, .string ⟨#[]⟩, .int .i64 0, .int .i64 0, .string ⟨#[]⟩, .int .i64 4] 56)
        replace hw := hw.trans (hb.mono (by have := hw.size; omega))
        replace hr3 := hr3.keep hb
        clear hb
        go_wp2_with fail
        obtain ⟨A3, cap3, e4, hcap3, hr4⟩ := hr3
        simp at e4
        obtain ⟨rfl, -, rfl⟩ := e4
        have HR4 := Lib.hid hr4
        clear hr4 hcap3
        go_loopw [15, 82] (fun s n wr => ∃ k : Nat, k ≤ l.length ∧ n = .int .i64 k ∧ s = .bool (anyAt (cs.take k) m) ∧ Below x2.heap.size x2 wr) (fun _ n _ => l.length - (intOf n).toNat)
        case atStart => exact ⟨0, Nat.zero_le _, rfl, rfl, Below.refl _ _⟩
        case round =>
          obtain ⟨k, hk, rfl, rfl, hb⟩ := hrel
          have hb2 := Lib.hid hb
          by_cases hlt : k < l.length
          · obtain ⟨d, hd⟩ : ∃ d, cs[k]? = some d := ⟨_, List.getElem?_eq_getElem (by rw [hcl'.out]; exact hlt)⟩
            obtain ⟨b, off, rfl, hbl, hc⟩ : ∃ b off, A2 = some ⟨b, off, none⟩ ∧ b < x2.heap.size ∧ ∀ j u, d.cells[j]? = some u → x2.cell? ⟨b, off + k * 10 + j, none⟩ = some u := by
              rcases HR4.out with h0 | ⟨b, off, e, hbl, hc⟩
              · have h2 := hcl'.out; simp at h0; subst h0; simp at h2; omega
              · exact ⟨b, off, e, hbl, hc k _ (by rw [List.getElem?_map, hd]; rfl)⟩
            have c0 : _ = some _ := (hb.cell (p := ⟨b, off + k * 10, none⟩) hbl).trans (hc 0 _ rfl)
            have c1 : _ = some _ := (hb.cell (p := ⟨b, off + k * 10 + 1, none⟩) hbl).trans (hc 1 _ rfl)
            have c2 : _ = some _ := (hb.cell (p := ⟨b, off + k * 10 + 2, none⟩) hbl).trans (hc 2 _ rfl)
            have c3 : _ = some _ := (hb.cell (p := ⟨b, off + k * 10 + 3, none⟩) hbl).trans (hc 3 _ rfl)
            have c4 : _ = some _ := (hb.cell (p := ⟨b, off + k * 10 + 4, none⟩) hbl).trans (hc 4 _ rfl)
            have c5 : _ = some _ := (hb.cell (p := ⟨b, off + k * 10 + 5, none⟩) hbl).trans (hc 5 _ rfl)
            have c6 : _ = some _ := (hb.cell (p := ⟨b, off + k * 10 + 6, none⟩) hbl).trans (hc 6 _ rfl)
            have c7 : _ = some _ := (hb.cell (p := ⟨b, off + k * 10 + 7, none⟩) hbl).trans (hc 7 _ rfl)
            have c8 : _ = some _ := (hb.cell (p := ⟨b, off + k * 10 + 8, none⟩) hbl).trans (hc 8 _ rfl)
            have c9 : _ = some _ := (hb.cell (p := ⟨b, off + k * 10 + 9, none⟩) hbl).trans (hc 9 _ rfl)
            have hdm := List.mem_of_getElem? hd
            have hsn := take_snoc' cs k d hd
            obtain ⟨st, id, tr, kk, kn, ks, hk', hn', hs', nx⟩ := d
            simp only at c0 c1 c2 c3 c4 c5 c6 c7 c8 c9
            have hsn' := anyAt_snoc (cs.take k) ⟨st, id, tr, kk, kn, ks, hk', hn', hs', nx⟩ m
            rw [← hsn] at hsn'
            by_cases h1 : st = 1
            · have hm := HLE.out _ hdm h1
              simp only at hm
              subst h1
              have hnl : ¬ nx < m := by omega
              by_cases h2 : nx = m
              · subst h2
                have hs2 : anyAt (cs.take (k + 1)) nx = true := by rw [hsn']; simp
                have HS := Lib.hid hs2
                clear hdm hd hc hb hsn hsn' hs2
                cases hq : anyAt (cs.take k) nx with
                | true =>
                  go_wp2_with fail
                  go_roundw
                  case rel => exact ⟨k + 1, by omega, by go_num, by rw [HS.out], hb2.out.alloc hb2.out.size _⟩
                  case measure => simp [intOf]; omega
                | false =>
                  go_wp2_with fail
                  go_roundw
                  case rel => exact ⟨k + 1, by omega, by go_num, by rw [HS.out], hb2.out.alloc hb2.out.size _⟩
                  case measure => simp [intOf]; omega
              · have hs2 : anyAt (cs.take (k + 1)) m = anyAt (cs.take k) m := by rw [hsn']; simp [h2]
                have HS := Lib.hid hs2
                have h2' : (nx == m) = false := beq_eq_false_iff_ne.2 h2
                clear hdm hd hc hb hsn hsn' hs2 h2
                cases hq : anyAt (cs.take k) m with
                | true =>
                  go_wp2_with fail
                  go_roundw
                  case rel => exact ⟨k + 1, by omega, by go_num, by rw [HS.out, hq], hb2.out.alloc hb2.out.size _⟩
                  case measure => simp [intOf]; omega
                | false =>
                  go_wp2_with fail
                  go_roundw
                  case rel => exact ⟨k + 1, by omega, by go_num, by rw [HS.out, hq], hb2.out.alloc hb2.out.size _⟩
                  case measure => simp [intOf]; omega
            · have hs2 : anyAt (cs.take (k + 1)) m = anyAt (cs.take k) m := by rw [hsn']; simp [h1]
              have HS := Lib.hid hs2
              have h1' : (st == 1) = false := beq_eq_false_iff_ne.2 h1
              clear hdm hd hc hb hsn hsn' hs2 h1
              go_wp2_with fail
              go_roundw
              case rel => exact ⟨k + 1, by omega, by go_num, by rw [HS.out], hb2.out.alloc hb2.out.size _⟩
              case measure => simp [intOf]; omega
          · have hkn : k = l.length := by omega
            subst hkn
            have hwe := hw.trans (hb.mono (by have := hw.size; omega))
            have hta : cs.take l.length = cs := by rw [← hcl'.out]; exact List.take_length
            rw [hta, HANY.out]
            clear hb hta
            go_wp2_with fail
            go_ret
            exact ⟨rfl, hwe⟩

namespace clientFirstLaw
open Go.ChangeShapes Go.WideShapes Go.ChangeAt Go.RowKit
open Go.ChangeMaps (open_string shut_string)
set_option linter.unusedVariables false

set_option maxRecDepth 100000 in
theorem lifted (os : Os) (started : os.Started) (H : Type) (enc : TypeId × Value → H) (FF : Stop.Interp) :
    ReturnsInHanded {} Try.checked os 13 .any ((Rows.OpenSpec.upto Rows.clientFirstSpec).pre6 enc Try.prog Try.f13 Rows.clientFirstUptoRow.domain false) (((Rows.OpenSpec.upto Rows.clientFirstSpec).at FF).post enc Try.prog Try.f13 false true false false) := by
  refine returnsInHanded_of_cond_sized (C := Try.checked) (s := Rows.OpenSpec.upto Rows.clientFirstSpec) (k := Rows.uptoSmall) rfl ownNone started (by kernel_rfl) Try.func13
    (OpenSpec.witness (enc := enc) (C := Try.checked) (s := Rows.OpenSpec.upto Rows.clientFirstSpec) (k := Rows.uptoSmall) rfl false ⟨#[], #[.slice none 0 0, .int .i64 0], []⟩ 8 (by kernel_rfl) (by kernel_rfl) (by kernel_rfl)
      (x := ([.nil, .lit (.int .i64 0)], [], [])) (by kernel_rfl) rfl (by kernel_rfl)) ?_
  intro W base args ds gs before hval0 hW hcnd hk0 hsz0 _
  have hval : ∀ (j : Nat) t v, Try.f13.params[j]? = some t → args[j]? = some v → Value.okWide Try.prog W .any base t v := hval0
  have hsz : (DataW.weightsEach Try.prog (Try.f13.params.toList ++ Rows.clientFirstSpec.plain.varTypes Try.prog) (ds ++ gs)).all (· ≤ reachBytes) = true := hsz0
  have hW' := hW
  obtain ⟨p, q, hA0, hV, rfl, hfz, hnd⟩ := hW
  have hA : DataW.TrodAll enc Try.prog W 0 (fun _ => true) true Try.f13.params.toList args.toList ds p := hA0
  rw [Try.params13] at hA hval hsz
  obtain ⟨v0, vs0, d0, ds0, p0, q0, hargs, rfl, rfl, h0, r0⟩ := trodAll_cons hA
  obtain ⟨v1, vs1, d1, ds1, p1, q1, rfl, rfl, rfl, h1, r1⟩ := trodAll_cons r0
  obtain ⟨rfl, rfl, rfl⟩ := trodAll_nil r1
  obtain rfl : args = #[v0, v1] := by cases args; simp_all
  obtain ⟨rfl, rfl⟩ := trodVars_none hV
  have hbk := bulks.bound hk0
  simp only [List.append_nil, Rows.uptoBulkAll] at hbk
  have k0 := h0
  have lt0 : ∀ x ∈ p0, x.block < W.heap.size := by obtain ⟨m, hm⟩ := k0; exact DataW.trod_lt m _ _ _ hm
  obtain ⟨a0, w0⟩ := open_raws (hval 0 22 v0 rfl rfl) h0 (fun es ss hd => sized_slice hsz (j := 0) (t := 22) (elems := es) (spare := ss) rfl (by rw [hd]; rfl) Try.underlying22)
  have u0 : a0.length ≤ 1048576 := by have hu := raws_bulk w0 h0; omega
  have k1 := h1
  have lt1 : ∀ x ∈ p1, x.block < W.heap.size := by obtain ⟨m, hm⟩ := k1; exact DataW.trod_lt m _ _ _ hm
  obtain ⟨a1, rfl, -, -, w1⟩ := open_int Try.underlying3 (hval 1 3 v1 rfl rfl) h1
  clear hA0 hval0 hsz0
  refine (clientFirst_walk v0 a0 a1 W w0 u0 (int_lo w1) (int_hi w1)).mono fun e W' ⟨he, bel⟩ => ?_
  subst he
  exact ⟨_, rfl, _, _, _, [], _, [], hW', trodAll_mk1 (shut_bool Try.underlying4 _), (trodAll_cons_mk (Below.trod laidOutTrue (by kernel_rfl) (of_decide_eq_true (by kernel_rfl)) k0 bel lt0) (trodAll_cons_mk (Below.trod laidOutTrue (by kernel_rfl) (of_decide_eq_true (by kernel_rfl)) k1 bel lt1) trodAll_mk0)), rfl, bel.frame _, fun h => by cases h⟩

theorem over : Rows.clientFirstUptoRow.holds Try.pinned (Rows.OpenSpec.upto Rows.clientFirstSpec) :=
  OpenClaim.holds_of_cond 13 Try.f13 rfl rfl rfl rfl rfl rfl rfl ⟨rfl, rfl, rfl, rfl, rfl⟩ rfl rfl rfl rfl rfl (by kernel_rfl) Try.func13 (by kernel_rfl)
    (of_decide_eq_true (by kernel_rfl)) (by unfold Func.isWrapper; first | (rw [if_pos (by decide +kernel)]; kernel_rfl) | (rw [if_neg (by decide +kernel)]; exact ⟨rfl, rfl⟩))
    (fun os started H enc _ FF => lifted os started H enc FF)

end clientFirstLaw
theorem clientFirst_holds : Rows.ClientFirstUptoSaid := clientFirstLaw.over
#print axioms clientFirst_holds
end Go.Proofs.Ytpckomnpeainlaa
