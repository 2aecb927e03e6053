/-
  For all raw things NetFull returns true: the number of letters is limited as documented. No condition.
-/
import Derived.Test.YtpckomnpeainlabNetF
import Derived.Test.YtpckomnpeainlabNetD
namespace Go.Proofs.Ytpckomnpeainlab
open Go.RowKit

attribute [local go_sem] Evo.refl Evo.alloc Evo.drew Evo.drewN

theorem raw1 (w : World) : RawsOf (w.alloc (.cells #[.int .i64 0, .int .i64 0, .int .i64 0, .string ⟨#[]⟩] 47)) (.slice (some ⟨w.heap.size, 0, none⟩) 1 1) [⟨0, 0, 0, ⟨#[]⟩⟩] :=
  ⟨Sl.one w #[.int .i64 0, .int .i64 0, .int .i64 0, .string ⟨#[]⟩] 47 4, by simp [reachBytes], fun r hr => by
    obtain rfl := List.mem_singleton.1 hr
    exact ⟨⟨by simp, by simp⟩, ⟨by simp, by simp⟩, ⟨by simp, by simp⟩, by exact Nat.zero_le _⟩⟩

set_option maxRecDepth 100000 in
set_option maxHeartbeats 8000000 in
theorem netFull_walk (v : Value) (l : List RawD) (v' : Value) (m : List RawD) (w : World) (h : RawsOf w v l) (h' : RawsOf w v' m) :
    Calls Try.prog 8 #[v, v'] w fun e w' => e = .returned (.bool true) ∧ Below w.heap.size w w' := by
  obtain ⟨ll, lo⟩ := ltrT_ok l l.length (Nat.le_refl _)
  obtain ⟨ml, mo⟩ := ltrT_ok m m.length (Nat.le_refl _)
  have H1 := Lib.hid (letters_any v l w h)
  have H2 := Lib.hid (fun W (hW : Evo w W) => letters_any v' m W (⟨h'.1.at hW, h'.2⟩ : RawsOf W v' m))
  have ex : lcs (ltrOf l) = lcs (ltrT l l.length) := rfl
  have ey : lcs (ltrOf m) = lcs (ltrT m m.length) := rfl
  rw [ex] at H1
  rw [ey] at H2
  clear h h' ex ey
  generalize ltrT l l.length = x at *
  generalize ltrT m m.length = y at *
  have lx : x.length ≤ 12 := by omega
  have ly : y.length ≤ 12 := by omega
  have HS := Lib.hid (fun W va vb (ha : Sl W 8 va (lcs x)) (hb : Sl W 8 vb (lcs y)) => net_send va vb x y W ha hb (by omega) (fun z hz => (lo z hz).1) (fun z hz => (mo z hz).1))
  have okz : ∀ z ∈ x ++ y, OkL z := fun z hz => (List.mem_append.1 hz).elim (fun k => (lo z k).1) (fun k => (mo z k).1)
  have hzl : (x ++ y).length ≤ 24 := by simp; omega
  have o1 : ltrT [⟨0, 0, 0, ⟨#[]⟩⟩] 1 = [ltr 0 ⟨0, 0, 0, ⟨#[]⟩⟩] := by simp [ltrT]
  have okr : ∀ z ∈ [ltr 0 ⟨0, 0, 0, ⟨#[]⟩⟩], OkL z := fun z hz => by obtain rfl := List.mem_singleton.1 hz; exact ltr_ok _ _ (by omega)
  have H3 := Lib.hid (fun W => letters_any _ _ _ (raw1 W))
  have HC := Lib.hid (fun W v va vb (h : Sl W 1 v [[va], [vb]]) (ha : Sl W 8 va (lcs x)) (hb : Sl W 8 vb (lcs y)) => concat_ltr v va vb (lcs x) (lcs y) W h ha hb (lcs_len _) (lcs_len _) (lcs_one _) (lcs_one _) (by simp; omega))
  have HM := Lib.hid (show lcs x ++ lcs y = lcs (x ++ y) by simp [lcs])
  have HE := Lib.hid (fun v v' W (hW : Sl W 8 v (lcs (x ++ y))) (hW' : Sl W 8 v' (lcs (x ++ y))) => equal_ltr v v' (x ++ y) W hW hW' (by omega))
  have HB := Lib.hid (fun (hn : (x ++ y).length = 24) W va vb (ha : Sl W 8 va (lcs (x ++ y))) (hb : Sl W 8 vb (lcs [ltr 0 ⟨0, 0, 0, ⟨#[]⟩⟩])) => net_send_busy va vb (x ++ y) [ltr 0 ⟨0, 0, 0, ⟨#[]⟩⟩] W ha hb hzl (by simp) (by simp at hn ⊢; omega) okz okr)
  have HT := Lib.hid (fun (hn : (x ++ y).length < 24) W va vb (ha : Sl W 8 va (lcs (x ++ y))) (hb : Sl W 8 vb (lcs [ltr 0 ⟨0, 0, 0, ⟨#[]⟩⟩])) => net_send va vb (x ++ y) [ltr 0 ⟨0, 0, 0, ⟨#[]⟩⟩] W ha hb (by simp at hn ⊢; omega) okz okr)
  have HO := Lib.hid (show lcs (ltrOf [⟨0, 0, 0, ⟨#[]⟩⟩]) = lcs [ltr 0 ⟨0, 0, 0, ⟨#[]⟩⟩] from congrArg lcs o1)
  have HL := Lib.hid (show (lcs (x ++ y ++ [ltr 0 ⟨0, 0, 0, ⟨#[]⟩⟩])).length = (x ++ y).length + 1 by simp [lcs]; omega)
  have HZ := Lib.hid (show (lcs (x ++ y)).length = (x ++ y).length by simp [lcs])
  clear lo mo okz okr o1
  generalize hz : x ++ y = z at *
  clear hz
  have hmk : ∀ w, (Instr.makeSlice 22 (.int .i64 1) (.int .i64 1)).run Try.prog w = .ok (.slice (some ⟨w.heap.size, 0, none⟩) 1 1) (w.alloc (.cells #[.int .i64 0, .int .i64 0, .int .i64 0, .string ⟨#[]⟩] 47)) := fun _ => by kernel_rfl
  go_enter Try.func8, Try.ntmps8
  go_wp2_with fail
  with_reducible refine (H1.out).mono ?_
  rintro e u1 ⟨v1, rfl, h1, e1⟩
  go_wp2_with fail
  with_reducible refine (H2.out _ e1).mono ?_
  rintro e u2 ⟨v2, rfl, h2, e2⟩
  have s1 := Sl.of_own (lcs_len _) h1
  have s2 := Sl.of_own (lcs_len _) h2
  obtain ⟨A1, n1, c1, rfl⟩ := s1.form3
  obtain ⟨A2, n2, c2, rfl⟩ := s2.form3
  have S1 := Lib.hid s1
  have S2 := Lib.hid s2
  clear h1 h2 s1 s2
  go_wp2_with fail
  with_reducible refine (HS.out _ _ _ (S1.out.at e2) S2.out).mono ?_
  rintro e u3 ⟨v3, rfl, h3, e3⟩
  have s3 := Sl.of_own (lcs_len _) h3
  obtain ⟨A3, c3, rfl, q1, q2, -⟩ := s3.form
  rw [HZ.out] at s3 q1 ⊢
  have S3 := Lib.hid s3
  clear h3 s3
  go_wp2_with fail
  have er := (Evo.refl u3).alloc (.cells #[.int .i64 0, .int .i64 0, .int .i64 0, .string ⟨#[]⟩] 47)
  with_reducible refine (H3.out _).mono ?_
  rintro e u4 ⟨v4, rfl, h4, e4⟩
  rw [HO.out] at h4
  have S4 := Lib.hid (Sl.of_own (lcs_len _) h4)
  have e5 := er.trans e4
  clear h4 e4 er hmk
  rcases (by omega : z.length = 24 ∨ z.length < 24) with g | g
  · have g' : ((z.length : Int) == 24) = true := beq_iff_eq.2 (by omega)
    have G' := Lib.hid g'
    have G := Lib.hid g
    clear g g'
    go_wp2_with fail
    with_reducible refine (HB.out G.out _ _ _ (S3.out.at e5) S4.out).mono ?_
    rintro e u5 ⟨rfl, e6⟩
    have ea := (Evo.refl u5).alloc (.cells #[.slice A1 n1 c1, .slice A2 n2 c2] 43)
    have S1' := Lib.hid (((((S1.out.at e2).at e3).at e5).at e6).at ea)
    have S2' := Lib.hid ((((S2.out.at e3).at e5).at e6).at ea)
    go_wp2_with fail
    with_reducible refine (HC.out _ _ _ _ (Sl.two _ _ _ _) S1'.out S2'.out).mono ?_
    rintro e u6 ⟨v6, rfl, h6, e7⟩
    rw [HM.out] at h6
    have S6 := Lib.hid (Sl.of_own (lcs_len _) h6)
    have S3' := Lib.hid ((((S3.out.at e5).at e6).at ea).at e7)
    clear h6
    go_wp2_with fail
    with_reducible refine (HE.out _ _ _ S3'.out S6.out).mono ?_
    rintro e u7 ⟨rfl, e8⟩
    have g' := G'.out
    go_wp2_with fail
    go_ret
    exact ⟨rfl, ((((((((e1.trans e2).trans e3).trans e5).trans e6).trans ea).trans e7).trans e8)).below⟩
  · go_wp2_with fail
    with_reducible refine (HT.out g _ _ _ (S3.out.at e5) S4.out).mono ?_
    rintro e u5 ⟨v5, rfl, h5, e6⟩
    have g' : ((z.length : Int) == 24) = false := beq_eq_false_iff_ne.2 (by omega)
    have G' := Lib.hid g'
    obtain ⟨A5, c5, rfl, -, -, -⟩ := (Sl.of_own (lcs_len _) h5).form
    rw [HL.out]
    have ea := (Evo.refl u5).alloc (.cells #[.slice A1 n1 c1, .slice A2 n2 c2] 43)
    have S1' := Lib.hid (((((S1.out.at e2).at e3).at e5).at e6).at ea)
    have S2' := Lib.hid ((((S2.out.at e3).at e5).at e6).at ea)
    clear g' h5
    go_wp2_with fail
    with_reducible refine (HC.out _ _ _ _ (Sl.two _ _ _ _) S1'.out S2'.out).mono ?_
    rintro e u6 ⟨v6, rfl, h6, e7⟩
    rw [HM.out] at h6
    have S6 := Lib.hid (Sl.of_own (lcs_len _) h6)
    have S3' := Lib.hid ((((S3.out.at e5).at e6).at ea).at e7)
    clear h6
    go_wp2_with fail
    with_reducible refine (HE.out _ _ _ S3'.out S6.out).mono ?_
    rintro e u7 ⟨rfl, e8⟩
    have g' := G'.out
    go_wp2_with fail
    go_ret
    exact ⟨ret_b (by simp), ((((((((e1.trans e2).trans e3).trans e5).trans e6).trans ea).trans e7).trans e8)).below⟩

namespace netFullLaw
open Go.ChangeShapes Go.WideShapes Go.ChangeAt Go.RowKit
open Go.ChangeMaps (open_string shut_string)
set_option linter.unusedVariables false

set_option maxRecDepth 100000 in
theorem lifted (os : Os) (started : os.Started) (H : Type) (enc : TypeId × Value → H) :
    ReturnsInHanded {} Try.checked os 8 .any (Rows.netFullSpec.pre6 enc Try.prog Try.f8 Rows.netFullRow.domain false) (Rows.netFullSpec.post enc Try.prog Try.f8 false true false false) := by
  refine returnsInHanded_of_change_sized (C := Try.checked) ownNone started (by kernel_rfl) Try.func8
    (ChangeSpec.witness6 (enc := enc) (C := Try.checked) false ⟨#[], #[.slice none 0 0, .slice none 0 0], []⟩ 8 (by kernel_rfl) (by kernel_rfl) (by kernel_rfl) (by kernel_rfl)) ?_
  intro W base args ds gs before hval0 hW hcnd hsz0 _
  have hval : ∀ (j : Nat) t v, Try.f8.params[j]? = some t → args[j]? = some v → Value.okWide Try.prog W .any base t v := hval0
  have hsz : (DataW.weightsEach Try.prog (Try.f8.params.toList ++ Rows.netFullSpec.plain.varTypes Try.prog) (ds ++ gs)).all (· ≤ reachBytes) = true := hsz0
  have hW' := hW
  obtain ⟨p, q, hA0, hV, rfl, hfz, hnd⟩ := hW
  have hA : DataW.TrodAll enc Try.prog W 0 (fun _ => true) true Try.f8.params.toList args.toList ds p := hA0
  rw [Try.params8] at hA hval hsz
  obtain ⟨v0, vs0, d0, ds0, p0, q0, hargs, rfl, rfl, h0, r0⟩ := trodAll_cons hA
  obtain ⟨v1, vs1, d1, ds1, p1, q1, rfl, rfl, rfl, h1, r1⟩ := trodAll_cons r0
  obtain ⟨rfl, rfl, rfl⟩ := trodAll_nil r1
  obtain rfl : args = #[v0, v1] := by cases args; simp_all
  obtain ⟨rfl, rfl⟩ := trodVars_none hV
  have k0 := h0
  have lt0 : ∀ x ∈ p0, x.block < W.heap.size := by obtain ⟨m, hm⟩ := k0; exact DataW.trod_lt m _ _ _ hm
  obtain ⟨a0, w0⟩ := open_rows (hval 0 22 v0 rfl rfl) h0 (fun es ss hd => sized_slice hsz (j := 0) (t := 22) (elems := es) (spare := ss) rfl (by rw [hd]; rfl) Try.underlying22)
  have k1 := h1
  have lt1 : ∀ x ∈ p1, x.block < W.heap.size := by obtain ⟨m, hm⟩ := k1; exact DataW.trod_lt m _ _ _ hm
  obtain ⟨a1, w1⟩ := open_rows (hval 1 22 v1 rfl rfl) h1 (fun es ss hd => sized_slice hsz (j := 1) (t := 22) (elems := es) (spare := ss) rfl (by rw [hd]; rfl) Try.underlying22)
  clear hA0 hval0 hsz0
  refine (netFull_walk v0 a0 v1 a1 W w0 w1).mono fun e W' ⟨he, bel⟩ => ?_
  subst he
  exact ⟨_, rfl, _, _, _, [], _, [], hW', trodAll_mk1 (shut_bool Try.underlying4 _), (trodAll_cons_mk (Below.trod laidOutTrue (by kernel_rfl) (of_decide_eq_true (by kernel_rfl)) k0 bel lt0) (trodAll_cons_mk (Below.trod laidOutTrue (by kernel_rfl) (of_decide_eq_true (by kernel_rfl)) k1 bel lt1) trodAll_mk0)), rfl, bel.frame _, fun h => by cases h⟩

theorem over : Rows.netFullRow.holds Try.pinned (OpenSpec.ofChange Rows.netFullSpec) :=
  OpenClaim.holds_of_wide 8 Try.f8 rfl rfl rfl rfl rfl rfl rfl ⟨rfl, rfl, rfl, rfl, rfl⟩ rfl rfl rfl rfl rfl (by kernel_rfl) Try.func8 (by kernel_rfl)
    (of_decide_eq_true (by kernel_rfl)) (by unfold Func.isWrapper; first | (rw [if_pos (by decide +kernel)]; kernel_rfl) | (rw [if_neg (by decide +kernel)]; exact ⟨rfl, rfl⟩))
    (fun os started H enc _ => lifted os started H enc)

end netFullLaw
theorem netFull_holds : Rows.NetFullSaid := netFullLaw.over
#print axioms netFull_holds
end Go.Proofs.Ytpckomnpeainlab
