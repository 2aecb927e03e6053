/-
  For all raw things and numbers FormOnce returns true: an input cannot be set twice in the same list of facts. No condition.
-/
import Derived.Test.YtpckomnpeainlabFacts
import Derived.Test.YtpckomnpeainlabSmall
import Derived.Test.YtpckomnpeainlabLawX
namespace Go.Proofs.Ytpckomnpeainlab
open Go.RowKit
set_option linter.unusedVariables false

theorem any_name {pre : Env} {p : ByteArray × Vl} : pre.any (fun q => q.1.toList == p.1.toList) = true ↔ p.1 ∈ pre.map (·.1) := by
  rw [List.any_eq_true, List.mem_map]
  constructor
  · rintro ⟨q, hq, e⟩
    rw [tl_dec] at e
    exact ⟨q, hq, of_decide_eq_true e⟩
  · rintro ⟨q, hq, e⟩
    exact ⟨q, hq, by rw [tl_dec]; exact decide_eq_true e⟩
theorem factsV_ok (fs : List Fd) : ∀ (rest pre : Env), (∀ p ∈ rest, toldE fs p.1 p.2.k = 0) → ((pre ++ rest).map (·.1)).Nodup → factsV fs pre rest = 0
  | [], _, _, _ => rfl
  | p :: rest, pre, h, hd => by
    have h0 := h p (by simp)
    have hd' : (((pre ++ [p]) ++ rest).map (·.1)).Nodup := by simpa using hd
    have hn : ¬ pre.any (fun q => q.1.toList == p.1.toList) = true := fun q => by
      rw [any_name] at q
      rw [List.map_append, List.nodup_append] at hd
      exact hd.2.2 _ q p.1 (by simp) rfl
    unfold factsV
    rw [if_pos h0, if_neg hn]
    exact factsV_ok fs rest (pre ++ [p]) (fun q hq => h q (by simp [hq])) hd'
theorem factsV_twice (fs : List Fd) (q : ByteArray × Vl) (hq : toldE fs q.1 q.2.k = 0) : ∀ (rest pre : Env), (∀ p ∈ rest, toldE fs p.1 p.2.k = 0) → ((pre ++ rest).map (·.1)).Nodup → q.1 ∈ (pre ++ rest).map (·.1) → factsV fs pre (rest ++ [q]) = 6
  | [], pre, _, _, hm => by
    show factsV fs pre [q] = 6
    unfold factsV
    rw [if_pos hq, if_pos (any_name.2 (by simpa using hm))]
  | p :: rest, pre, h, hd, hm => by
    have h0 := h p (by simp)
    have hd' : (((pre ++ [p]) ++ rest).map (·.1)).Nodup := by simpa using hd
    have hn : ¬ pre.any (fun q => q.1.toList == p.1.toList) = true := fun q => by
      rw [any_name] at q
      rw [List.map_append, List.nodup_append] at hd
      exact hd.2.2 _ q p.1 (by simp) rfl
    show factsV fs pre (p :: (rest ++ [q])) = 6
    unfold factsV
    rw [if_pos h0, if_neg hn]
    exact factsV_twice fs q hq rest (pre ++ [p]) (fun q hq => h q (by simp [hq])) hd' (by simpa using hm)
theorem inp_told {fs : List Fd} {l : List RawD} (hd : (fs.map (fun f : Fd => f.name)).Nodup) : ∀ p ∈ inpE fs l, toldE fs p.1 p.2.k = 0 := fun p hp => by
  obtain ⟨i, f, r, -, h2, h3, rfl⟩ := inpF_each fs.length (Nat.le_refl _) p hp
  unfold toldE
  rw [findF_at hd h2, if_neg (by omega), Int.toNat_natCast, h2]
  simp only
  rw [if_pos h3, if_pos (show (valR f.ty r).k = f.ty from rfl)]
theorem inp_known {fs : List Fd} {l : List RawD} (ht : ∀ f ∈ fs, 1 ≤ f.ty ∧ f.ty ≤ 3) : ∀ p ∈ inpE fs l, p.2.known := fun p hp => by
  obtain ⟨i, f, r, -, h2, h3, rfl⟩ := inpF_each fs.length (Nat.le_refl _) p hp
  obtain ⟨a, b⟩ := ht f (List.mem_of_getElem? h2)
  exact valR_known _ _ a b

set_option maxHeartbeats 4000000 in
set_option maxRecDepth 100000 in
theorem formOnce_c (l m : List RawD) (sl sm : Value) (i : Int) (h : Vw) (hl : RS h 4 sl (l.map RawD.cs)) (hm : RS h 4 sm (m.map RawD.cs)) (ll : l.length * 40 ≤ reachBytes) (lm : m.length * 40 ≤ reachBytes) (ol : ∀ r ∈ l, r.ok) (om : ∀ r ∈ m, r.ok)
    (i0 : -9223372036854775808 ≤ i) (i1 : i ≤ 9223372036854775807) : C0 Try.prog 12 #[sl, sm, .int .i64 i] h (fun v _ => v = .bool true) := by
  have hF := form_c l sl
  have hlen := form_len l
  have hnl := nFields_le l
  have hnd := form_nodup l
  have hty : ∀ f ∈ (formE l).fields, 1 ≤ f.ty ∧ f.ty ≤ 3 := fun f hf => by obtain ⟨_, _, _, _, q, _⟩ := form_each hf; exact q
  generalize formE l = fm at *
  have hin := fun H fv pv q1 q2 q3 => inputs_any fm.fields pv fv m sm H q1 q2 (by omega) hty q3 lm om
  have k0 := inp_told (l := m) hnd
  have k1 := inp_known (l := m) hty
  have k2 := inpF_nodup (l := m) hnd fm.fields.length (Nat.le_refl _)
  have k3 := (inpF_le fm.fields m fm.fields.length).2
  have k2 : ((inpE fm.fields m).map (·.1)).Nodup := k2
  have k3 : (inpE fm.fields m).length ≤ fm.fields.length := k3
  generalize inpE fm.fields m = env at *
  have hS1 := fun H fv pv sl q1 q2 q3 => facts_v fm.fields fv pv env sl H q1 q2 (by omega) q3 (by omega) k1
  rw [factsV_ok fm.fields env [] k0 k2] at hS1
  have hsb : factsV smallF.fields [] [(⟨#[98]⟩, ⟨1, 0, ⟨#[]⟩⟩)] = 2 := by
    unfold factsV
    have e : toldE smallF.fields ⟨#[98]⟩ 1 = 2 := by
      unfold toldE
      rw [findF_at (fs := smallF.fields) (by decide) (i := 0) (f := ⟨⟨#[98]⟩, 2, 1, smallX⟩) rfl, if_neg (by omega)]; rfl
    rw [if_neg (by rw [e]; decide), e]
  have hS2 := fun H fv pv sl q1 q2 q3 => facts_v smallF.fields fv pv [(⟨#[98]⟩, ⟨1, 0, ⟨#[]⟩⟩)] sl H q1 q2 (by decide) q3 (by decide) (fun p hp => by rw [List.mem_singleton.1 hp]; exact .inl ⟨rfl, ⟨by decide, by decide⟩, rfl⟩)
  rw [hsb] at hS2
  obtain ⟨A0, c0, rfl, -, -, -⟩ := hl.form
  obtain ⟨A1, c1, rfl, -, -, -⟩ := hm.form
  rw [List.length_map] at *
  rw [List.length_map] at *
  have erl : (fcRows env).length = env.length := List.length_map _
  refine x_con Try.func12 (c := Try.f12.body.getD .skip) (by kernel_rfl) (N := 42) rfl (by kernel_rfl) ?_
  intro hbx hbad Q hQ a w hJ
  replace hJ : K ⟨42, h.w, h.bad, []⟩ [(0, .slice A0 l.length c0), (1, .slice A1 m.length c1), (2, .int .i64 i)] [] [] h a w := hJ.to (by kernel_rfl) (by kernel_rfl) rfl
  refine rx hJ false 8 [] [] (.ok (.ops [0, 1] 1) [.seq [1, 1]] [(1, .slice A1 m.length c1), (2, .int .i64 i), (6, .bool false), (9, .slice A0 l.length c0)] [] []) trivial trivial (fun _ => by kernel_rfl) ?_
  clear hJ a w; intro a w hJ
  refine x_call hJ 10 (hF _ (hl.sees hJ.j.sees) ll ol) (fun _ => by kernel_rfl) ?_; clear hJ a w; rintro _ h1 a w s2 ⟨A, c, B, d, rfl, hfm⟩ hJ
  refine rx hJ false 8 [.own, .b 0 0, .b 0 0] [] (.new fun b3 => .ok (.ops [0, 1, 1] 2) [.seq [1, 1, 1]] [(2, .int .i64 i), (6, .bool false), (7, .pointer (some ⟨b3, 0, none⟩)), (11, .agg #[.slice A fm.fields.length c, .slice B fm.pages.length d]), (12, .slice A1 m.length c1)] [.box b3 [.slice A fm.fields.length c, .slice B fm.pages.length d]] []) trivial trivial (fun b3 _ => by kernel_rfl) ?_
  clear hJ a w; intro b3 a w hJ
  refine x_callrow hJ 13 (hin _ _ (.slice B fm.pages.length d) ((hfm.sees hJ.j.sees)).fields rfl (hm.sees (s2.trans hJ.j.sees))) (fun _ => by kernel_rfl) ?_; clear hJ a w; rintro v _ a w rfl hJ
  refine rx hJ false 8 [.b 1 0] [] (.ok (.ops [0, 0, 1, 1, 1] 2) [.seq [1, 0, 1, 1, 1], .seq [1, 1, 1, 1]] [(2, .int .i64 i), (6, .bool false), (7, .pointer (some ⟨b3, 0, none⟩)), (8, v), (14, .agg #[.slice A fm.fields.length c, .slice B fm.pages.length d]), (15, v)] [.row v 80 7 (fcRows env), .box b3 [.slice A fm.fields.length c, .slice B fm.pages.length d]] []) trivial trivial (fun _ => by kernel_rfl) ?_
  clear hJ a w; intro a w hJ
  obtain ⟨Av, cv, hE_v, hc_v, hm_v⟩ := hJ.form (v := v) (e := 80) (k := 7) (l := fcRows env) 0 (by kernel_rfl)
  rw [show (fcRows env).length = env.length from by first | omega | (simp; done) | (simp; omega)] at hE_v hc_v
  rw [hE_v] at hJ
  refine x_callq hJ 16 (hS1 _ _ (.slice B fm.pages.length d) _ ((hfm.sees hJ.j.seesQ)).fields rfl (hJ.j.rowQ (v := .slice Av env.length cv) (e := 80) (k := 7) (l := fcRows env) 0 rfl)) (fun _ => by kernel_rfl) ?_; clear hJ a w; intro h4 a w s5 hJ
  refine rx hJ false 2 [] [] (.ok (.ops [0, 0, 1, 1, 1] 5) [.seq [1, 0, 1, 1, 1], .seq [1, 1, 1, 1]] [(2, .int .i64 i), (6, .bool false), (7, .pointer (some ⟨b3, 0, none⟩)), (8, .slice Av env.length cv), (18, .bool false)] [.row (.slice Av env.length cv) 80 7 (fcRows env), .box b3 [.slice A fm.fields.length c, .slice B fm.pages.length d]] []) trivial trivial (fun _ => by kernel_rfl) ?_
  clear hJ a w; intro a w hJ
  refine x_call hJ 19 (small_any _) (fun _ => by kernel_rfl) ?_; clear hJ a w; rintro _ h6 a w s7 ⟨As, cs, Bs, ds, rfl, hsm⟩ hJ
  refine rx hJ true 3 [.fix] [] (.new fun bone => .ok (.ops [0, 0, 1, 1, 1] 9) [.seq [1, 0, 1, 1, 1], .seq [1, 1, 1, 1]] [(2, .int .i64 i), (6, .bool false), (7, .pointer (some ⟨b3, 0, none⟩)), (8, .slice Av env.length cv), (18, .bool false), (19, .agg #[.slice As 3 cs, .slice Bs 2 ds]), (22, .slice (some ⟨bone, 0, none⟩) 1 1)] [.row (.slice Av env.length cv) 80 7 (fcRows env), .box b3 [.slice A fm.fields.length c, .slice B fm.pages.length d]] [(bone, 0, [.string ⟨#[98]⟩, .int .i64 0, .int .i64 0, .string ⟨#[]⟩, .int .i64 1, .int .i64 0, .string ⟨#[]⟩])]) trivial trivial (fun bone _ => by kernel_rfl) ?_
  clear hJ a w; intro bone h8 a w s9 hJ
  have one : Cells h8 bone 0 [.string ⟨#[98]⟩, .int .i64 0, .int .i64 0, .string ⟨#[]⟩, .int .i64 1, .int .i64 0, .string ⟨#[]⟩] := hJ.f _ (List.mem_of_getElem? (i := 0) rfl)
  have hone : ∀ (H : Vw) (b : Nat), Cells H b 0 [.string ⟨#[98]⟩, .int .i64 0, .int .i64 0, .string ⟨#[]⟩, .int .i64 1, .int .i64 0, .string ⟨#[]⟩] → RS H 7 (.slice (some ⟨b, 0, none⟩) 1 1) (fcRows [(⟨#[98]⟩, ⟨1, 0, ⟨#[]⟩⟩)]) := fun H b hc =>
    rs_cells (k := 7) (fcRows [(⟨#[98]⟩, ⟨1, 0, ⟨#[]⟩⟩)]) (fun r hr => by rw [List.mem_singleton.1 hr]; rfl) (by decide) hc
  refine rx hJ false 16 [.cl 39 #[.agg #[.slice As 3 cs, .slice Bs 2 ds], .slice (some ⟨bone, 0, none⟩) 1 1] (.int .i64 2)] [] (.ok (.code [1, 0, 1, 1, 1, 1]) [.seq [1, 1, 1, 1, 1]] [(2, .int .i64 i), (6, .bool false), (7, .pointer (some ⟨b3, 0, none⟩)), (8, .slice Av env.length cv), (28, .bool ((env.length : Int) == 0))] [.row (.slice Av env.length cv) 80 7 (fcRows env), .box b3 [.slice A fm.fields.length c, .slice B fm.pages.length d]] [(bone, 0, [.string ⟨#[98]⟩, .int .i64 0, .int .i64 0, .string ⟨#[]⟩, .int .i64 1, .int .i64 0, .string ⟨#[]⟩])]) (And.intro (fun H sH => hS2 _ _ (.slice Bs 2 ds) _ ((hsm.sees (s9.trans sH))).fields rfl (hone _ _ (one.sees sH))) (trivial)) trivial (fun _ => by kernel_rfl) ?_
  clear hJ a w; intro a w hJ
  rcases (by omega : env.length = 0 ∨ 0 < env.length) with h0 | h0
  · refine x_true hJ (t := (env.length : Int) == 0) (by kernel_rfl) (beq_iff_eq.2 (by omega)) ?_
    refine rx hJ false 7 [] [] (.ok (.out .ret) [] [(6, .bool true)] [.row (.slice Av env.length cv) 80 7 (fcRows env), .box b3 [.slice A fm.fields.length c, .slice B fm.pages.length d]] [(bone, 0, [.string ⟨#[98]⟩, .int .i64 0, .int .i64 0, .string ⟨#[]⟩, .int .i64 1, .int .i64 0, .string ⟨#[]⟩])]) trivial trivial (fun _ => by kernel_rfl) ?_
    clear hJ a w; intro a w hJ
    refine x_end (hQ [.bool true] _ [] hJ (.rtmp hJ.j (by kernel_rfl) .nil) (no_own _) rfl ?_).1
    exact rfl
  · skip
    have p0 := pickL_lo i env.length (by omega)
    have p1 := pickL_hi i env.length (by omega)
    have hpk := c_picked i env.length
    obtain ⟨j, hj⟩ : ∃ j : Nat, pickL i env.length = (j : Int) := ⟨_, (Int.toNat_of_nonneg p0).symm⟩
    rw [hj] at p1 hpk
    obtain ⟨q, hq⟩ : ∃ q, env[j]? = some q := ⟨_, List.getElem?_eq_getElem (by omega)⟩
    have hqm := List.mem_of_getElem? hq
    have hrow : (fcRows env)[j]? = some (fcRow q) := by rw [List.getElem?_map, hq]; rfl
    have hS3 := fun H fv pv sl q1 q2 q3 => facts_v fm.fields fv pv (env ++ [q]) sl H q1 q2 (by omega) q3 (by rw [List.length_append]; simp; omega) (fun p hp => (List.mem_append.1 hp).elim (k1 p) (fun e => by rw [List.mem_singleton.1 e]; exact k1 q hqm))
    rw [factsV_twice fm.fields q (k0 q hqm) env [] k0 k2 (List.mem_map.2 ⟨q, hqm, rfl⟩)] at hS3
    obtain ⟨bI, rfl⟩ := own_some (hJ.rowOwn (v := .slice Av env.length cv) (e := 80) (kk := 7) (l := fcRows env) 0 rfl) ((by omega))
    refine x_false hJ (t := (env.length : Int) == 0) (by kernel_rfl) (beq_eq_false_iff_ne.2 (by omega)) ?_
    refine rx hJ false 3 [] [] (.ok (.code [0, 1, 1, 1, 1, 1]) [.seq [1, 1, 1, 1, 1, 1]] [(2, .int .i64 i), (6, .bool false), (7, .pointer (some ⟨b3, 0, none⟩)), (8, .slice (some ⟨bI, 0, none⟩) env.length cv)] [.row (.slice (some ⟨bI, 0, none⟩) env.length cv) 80 7 (fcRows env), .box b3 [.slice A fm.fields.length c, .slice B fm.pages.length d]] [(bone, 0, [.string ⟨#[98]⟩, .int .i64 0, .int .i64 0, .string ⟨#[]⟩, .int .i64 1, .int .i64 0, .string ⟨#[]⟩])]) trivial trivial (fun _ => by kernel_rfl) ?_
    clear hJ a w; intro a w hJ
    let R : Reg := ⟨⟨42, h.w, h.bad, []⟩, [(0, 29, fun gh => .agg #[.slice A fm.fields.length c, .slice B fm.pages.length d]), (1, 30, fun gh => .slice (some ⟨bI, 0, none⟩) env.length cv), (2, 31, fun gh => .slice (some ⟨bI, 0, none⟩) env.length cv), (3, 32, fun gh => .int .i64 i), (4, 33, fun gh => .slice (some ⟨bI, 0, none⟩) env.length cv), (5, 34, fun gh => .int .i64 (env.length : Int)), (6, 35, fun gh => .int .i64 (j : Int)), (7, 36, fun gh => .pointer (some ⟨bI, 0 + j * 7, none⟩)), (8, 37, fun gh => .agg #[.string q.1, .int .i64 0, .int .i64 0, .string ⟨#[]⟩, .int .i64 q.2.k, .int .i64 q.2.n, .string q.2.s]), (9, 38, fun gh => .slice (some ⟨(blkOf (gh 9)), 0, none⟩) 1 1), (10, 39, fun gh => .slice (sA (gh 10)) (sN (gh 10)) (sC (gh 10))), (11, 40, fun gh => .int .i64 6), (12, 41, fun gh => .bool true), (13, 6, fun gh => .bool true)], [(2, .int .i64 i), (6, .bool false), (7, .pointer (some ⟨b3, 0, none⟩)), (8, .slice (some ⟨bI, 0, none⟩) env.length cv)], [⟨some (.row (.slice (some ⟨bI, 0, none⟩) env.length cv) 80 7 (fcRows env)), [(10, fun gh => .row (.slice (sA (gh 10)) (sN (gh 10)) (sC (gh 10))) 80 7 ((fcRows env) ++ [[.string q.1, .int .i64 0, .int .i64 0, .string ⟨#[]⟩, .int .i64 q.2.k, .int .i64 q.2.n, .string q.2.s]]))]⟩, ⟨some (.box b3 [.slice A fm.fields.length c, .slice B fm.pages.length d]), []⟩], [(9, fun gh hh => Cells hh (blkOf (gh 9)) 0 [.string q.1, .int .i64 0, .int .i64 0, .string ⟨#[]⟩, .int .i64 q.2.k, .int .i64 q.2.n, .string q.2.s])], [[], [], [], [], [], [4], [3, 4, 5], [2, 3, 4, 5, 6], [2, 3, 4, 5, 6, 7], [2, 3, 4, 5, 6, 7, 8], [1, 2, 3, 4, 5, 6, 7, 8, 9], [0, 1, 2, 3, 4, 5, 6, 7, 8, 9, 10], [0, 1, 2, 3, 4, 5, 6, 7, 8, 9, 10, 11], [0, 1, 2, 3, 4, 5, 6, 7, 8, 9, 10, 11, 12]], h8⟩
    have hmono : ∀ zq ∈ R.F, ∀ zx zh zi, Sees zh zi → zq.2 zx zh → zq.2 zx zi := mono_cons (fun _ _ _ s c => c.sees s) (mono_nil)
    refine x_region (by kernel_rfl) R hJ 14 [.ld 1 0, .pu, .pu, .pu, .pu, .pu, .cl, .cl, .cl, .cl, .cl, .cl, .pu, .pu] (by kernel_rfl) hmono (fun _ _ _ => by kernel_rfl) (fun hT hA => ?_) ?_
    · clear hJ
      refine And.intro (r_callv hT hA hmono 35 (fun gh => .int .i64 (j : Int)) [3, 5] 6 (by kernel_rfl) (by kernel_rfl) (by kernel_rfl) (fun _ => by kernel_rfl) 18 (fun gh => #[.int .i64 i, .int .i64 (env.length : Int)]) (fun _ _ => by kernel_rfl) (fun gh H sH fH lent => hpk _ i0 i1 (by omega) (by omega))) ?_
      refine And.intro (r_pure hT hA 36 (fun gh => .pointer (some ⟨bI, 0 + j * 7, none⟩)) [2, 6] 7 (by kernel_rfl) (by kernel_rfl) (by kernel_rfl) (fun _ => by kernel_rfl) (fun gh w => run_indexAddr (t := 75) (x := (.tmp 31)) (y := (.tmp 35)) (b := bI) (off := 0) (n := env.length) (cap := cv) (k := j) (e := 80) (kk := 7) (by kernel_rfl) (by kernel_rfl) (by kernel_rfl) (by first | omega | (simp; omega)) Try.underlying75 (by kernel_rfl))) ?_
      refine And.intro (r_rowget hT hA 37 (fun gh => .agg #[.string q.1, .int .i64 0, .int .i64 0, .string ⟨#[]⟩, .int .i64 q.2.k, .int .i64 q.2.n, .string q.2.s]) [7] 8 (by kernel_rfl) (by kernel_rfl) (by kernel_rfl) (fun _ => by kernel_rfl) 0 ⟨some (.row (.slice (some ⟨bI, 0, none⟩) env.length cv) 80 7 (fcRows env)), [(10, fun gh => .row (.slice (sA (gh 10)) (sN (gh 10)) (sC (gh 10))) 80 7 ((fcRows env) ++ [[.string q.1, .int .i64 0, .int .i64 0, .string ⟨#[]⟩, .int .i64 q.2.k, .int .i64 q.2.n, .string q.2.s]]))]⟩ (by kernel_rfl) (by kernel_rfl) bI env.length cv 7 80 (fcRows env) (fun _ => by kernel_rfl) j 0 (r := [.string q.1, .int .i64 0, .int .i64 0, .string ⟨#[]⟩, .int .i64 q.2.k, .int .i64 q.2.n, .string q.2.s]) (hrow) 80 (.tmp 36) (by kernel_rfl) (fun _ => by kernel_rfl) (fun _ => by kernel_rfl)) ?_
      refine And.intro (r_fact hT hA hmono ⟨fun _ _ => by kernel_rfl, fun _ _ => by kernel_rfl, fun _ _ => by kernel_rfl⟩ 38 (fun g => .slice (some ⟨g, 0, none⟩) 1 1) [8] 9 (by kernel_rfl) (by kernel_rfl) (fun _ => by kernel_rfl) (fun gh => [.string q.1, .int .i64 0, .int .i64 0, .string ⟨#[]⟩, .int .i64 q.2.k, .int .i64 q.2.n, .string q.2.s]) 80 (fun _ _ => by kernel_rfl) (fun gh zb zH zc zj zq zhq zhe => own_fact (i := 9) (k := 0) (f := fun gh hh => Cells hh (blkOf (gh 9)) 0 [.string q.1, .int .i64 0, .int .i64 0, .string ⟨#[]⟩, .int .i64 q.2.k, .int .i64 q.2.n, .string q.2.s]) (by kernel_rfl) (by kernel_rfl) zc zj zq zhq zhe)) ?_
      refine And.intro (r_append hT hA hmono ⟨fun _ _ => by kernel_rfl, fun _ _ => by kernel_rfl, fun _ _ => by kernel_rfl⟩ (by kernel_rfl) 39 [1, 6, 9] 10 (by kernel_rfl) (fun _ => by kernel_rfl) 0 ⟨some (.row (.slice (some ⟨bI, 0, none⟩) env.length cv) 80 7 (fcRows env)), [(10, fun gh => .row (.slice (sA (gh 10)) (sN (gh 10)) (sC (gh 10))) 80 7 ((fcRows env) ++ [[.string q.1, .int .i64 0, .int .i64 0, .string ⟨#[]⟩, .int .i64 q.2.k, .int .i64 q.2.n, .string q.2.s]]))]⟩ (by kernel_rfl) (by kernel_rfl) (by kernel_rfl) (fun gh => .slice (some ⟨bI, 0, none⟩) env.length cv) 75 80 7 (fun gh => fcRows env) (fun gh => [[.string q.1, .int .i64 0, .int .i64 0, .string ⟨#[]⟩, .int .i64 q.2.k, .int .i64 q.2.n, .string q.2.s]]) (fun _ => by kernel_rfl) (fun _ => by kernel_rfl) (fun _ _ => by kernel_rfl) (.tmp 30) (.tmp 38) (by kernel_rfl) (by kernel_rfl) (fun gh => (blkOf (gh 9))) 1 1 (fun _ => by kernel_rfl) (fun _ => by kernel_rfl) 0 9 (fun gh hh => Cells hh (blkOf (gh 9)) 0 [.string q.1, .int .i64 0, .int .i64 0, .string ⟨#[]⟩, .int .i64 q.2.k, .int .i64 q.2.n, .string q.2.s]) (by kernel_rfl) (by kernel_rfl) (fun _ _ c => c) Try.underlying75 (zv := .agg #[.string ⟨#[]⟩, .int .i64 0, .int .i64 0, .string ⟨#[]⟩, .int .i64 0, .int .i64 0, .string ⟨#[]⟩]) (bytes := 80) (by kernel_rfl) (by kernel_rfl) (fun _ => by kernel_rfl) (fun _ => by constructor <;> (simp; omega))) ?_
      refine And.intro (r_callq hT hA hmono 40 (fun gh => .int .i64 6) [0, 10] 11 (by kernel_rfl) (by kernel_rfl) (by kernel_rfl) (fun _ => by kernel_rfl) 0 ⟨some (.row (.slice (some ⟨bI, 0, none⟩) env.length cv) 80 7 (fcRows env)), [(10, fun gh => .row (.slice (sA (gh 10)) (sN (gh 10)) (sC (gh 10))) 80 7 ((fcRows env) ++ [[.string q.1, .int .i64 0, .int .i64 0, .string ⟨#[]⟩, .int .i64 q.2.k, .int .i64 q.2.n, .string q.2.s]]))]⟩ (by kernel_rfl) (by kernel_rfl) (fun gh => .slice (sA (gh 10)) (sN (gh 10)) (sC (gh 10))) 80 7 ((fcRows env) ++ [[.string q.1, .int .i64 0, .int .i64 0, .string ⟨#[]⟩, .int .i64 q.2.k, .int .i64 q.2.n, .string q.2.s]]) (fun _ => by kernel_rfl) 39 (fun gh => #[.agg #[.slice A fm.fields.length c, .slice B fm.pages.length d], .slice (sA (gh 10)) (sN (gh 10)) (sC (gh 10))]) (fun _ _ => by kernel_rfl) (fun gh H bH sH fH rQ => hS3 _ _ (.slice B fm.pages.length d) _ ((hfm.sees (s5.trans (s7.trans (s9.trans sH))))).fields rfl (by rw [fcRows_snoc]; exact rQ))) ?_
      trivial
    clear hJ a w; intro gh h12 a w sR hJ1 hF; have s13 : Sees h8 h12 := sR; clear sR
    have hJ : K ⟨42, h.w, h.bad, []⟩ [(6, .bool true)] [.row (.slice (sA (gh 10)) (sN (gh 10)) (sC (gh 10))) 80 7 ((fcRows env) ++ [[.string q.1, .int .i64 0, .int .i64 0, .string ⟨#[]⟩, .int .i64 q.2.k, .int .i64 q.2.n, .string q.2.s]]), .box b3 [.slice A fm.fields.length c, .slice B fm.pages.length d]] [(bone, 0, [.string ⟨#[98]⟩, .int .i64 0, .int .i64 0, .string ⟨#[]⟩, .int .i64 1, .int .i64 0, .string ⟨#[]⟩])] h12 a w := hJ1.to (by kernel_rfl) (by kernel_rfl) rfl
    have f10 : Cells h12 (blkOf (gh 9)) 0 [.string q.1, .int .i64 0, .int .i64 0, .string ⟨#[]⟩, .int .i64 q.2.k, .int .i64 q.2.n, .string q.2.s] := Reg.fact (i := 9) (f := fun gh hh => Cells hh (blkOf (gh 9)) 0 [.string q.1, .int .i64 0, .int .i64 0, .string ⟨#[]⟩, .int .i64 q.2.k, .int .i64 q.2.n, .string q.2.s]) hF 0 (by kernel_rfl)
    replace hJ := hJ.fact f10
    clear hJ1 hF hmono R
    generalize blkOf (gh 9) = b11 at *
    generalize gh 10 = v39 at *
    clear gh
    refine rx hJ false 2 [] [] (.ok (.out .ret) [] [(6, .bool true)] [.row (.slice (sA v39) (sN v39) (sC v39)) 80 7 ((fcRows env) ++ [[.string q.1, .int .i64 0, .int .i64 0, .string ⟨#[]⟩, .int .i64 q.2.k, .int .i64 q.2.n, .string q.2.s]]), .box b3 [.slice A fm.fields.length c, .slice B fm.pages.length d]] [(b11, 0, [.string q.1, .int .i64 0, .int .i64 0, .string ⟨#[]⟩, .int .i64 q.2.k, .int .i64 q.2.n, .string q.2.s]), (bone, 0, [.string ⟨#[98]⟩, .int .i64 0, .int .i64 0, .string ⟨#[]⟩, .int .i64 1, .int .i64 0, .string ⟨#[]⟩])]) trivial trivial (fun _ => by kernel_rfl) ?_
    clear hJ a w; intro a w hJ
    refine x_end (hQ [.bool true] _ [] hJ (.rtmp hJ.j (by kernel_rfl) .nil) (no_own _) rfl ?_).1
    exact rfl

theorem formOnce_walk (v : Value) (l : List RawD) (v' : Value) (m : List RawD) (i : Int) (w : World) (h : RawsOf w v l) (h' : RawsOf w v' m) (i0 : -9223372036854775808 ≤ i) (i1 : i ≤ 9223372036854775807) :
    Calls Try.prog 12 #[v, v', .int .i64 i] w fun e w' => e = .returned (.bool true) ∧ Below w.heap.size w w' :=
  C0.law (formOnce_c l m v v' i ⟨w, []⟩ h.rs h'.rs h.2.1 h'.2.1 h.2.2 h'.2.2 i0 i1)

namespace formOnceLaw
open Go.ChangeShapes Go.WideShapes Go.ChangeAt Go.RowKit
open Go.ChangeMaps (open_string shut_string)
set_option linter.unusedVariables false

set_option maxRecDepth 100000 in
theorem lifted (os : Os) (started : os.Started) (H : Type) (enc : TypeId × Value → H) :
    ReturnsInHanded {} Try.checked os 12 .any (Rows.formOnceSpec.pre6 enc Try.prog Try.f12 Rows.formOnceRow.domain false) (Rows.formOnceSpec.post enc Try.prog Try.f12 false true false false) := by
  refine returnsInHanded_of_change_sized (C := Try.checked) ownNone started (by kernel_rfl) Try.func12
    (ChangeSpec.witness6 (enc := enc) (C := Try.checked) false ⟨#[], #[.slice none 0 0, .slice none 0 0, .int .i64 0], []⟩ 8 (by kernel_rfl) (by kernel_rfl) (by kernel_rfl) (by kernel_rfl)) ?_
  intro W base args ds gs before hval0 hW hcnd hsz0 _
  have hval : ∀ (j : Nat) t v, Try.f12.params[j]? = some t → args[j]? = some v → Value.okWide Try.prog W .any base t v := hval0
  have hsz : (DataW.weightsEach Try.prog (Try.f12.params.toList ++ Rows.formOnceSpec.plain.varTypes Try.prog) (ds ++ gs)).all (· ≤ reachBytes) = true := hsz0
  have hW' := hW
  obtain ⟨p, q, hA0, hV, rfl, hfz, hnd⟩ := hW
  have hA : DataW.TrodAll enc Try.prog W 0 (fun _ => true) true Try.f12.params.toList args.toList ds p := hA0
  rw [Try.params12] at hA hval hsz
  obtain ⟨v0, vs0, d0, ds0, p0, q0, hargs, rfl, rfl, h0, r0⟩ := trodAll_cons hA
  obtain ⟨v1, vs1, d1, ds1, p1, q1, rfl, rfl, rfl, h1, r1⟩ := trodAll_cons r0
  obtain ⟨v2, vs2, d2, ds2, p2, q2, rfl, rfl, rfl, h2, r2⟩ := trodAll_cons r1
  obtain ⟨rfl, rfl, rfl⟩ := trodAll_nil r2
  obtain rfl : args = #[v0, v1, v2] := by cases args; simp_all
  obtain ⟨rfl, rfl⟩ := trodVars_none hV
  have k0 := h0
  have lt0 : ∀ x ∈ p0, x.block < W.heap.size := by obtain ⟨m, hm⟩ := k0; exact DataW.trod_lt m _ _ _ hm
  obtain ⟨a0, w0⟩ := open_rows (hval 0 22 v0 rfl rfl) h0 (fun es ss hd => sized_slice hsz (j := 0) (t := 22) (elems := es) (spare := ss) rfl (by rw [hd]; rfl) Try.underlying22)
  have k1 := h1
  have lt1 : ∀ x ∈ p1, x.block < W.heap.size := by obtain ⟨m, hm⟩ := k1; exact DataW.trod_lt m _ _ _ hm
  obtain ⟨a1, w1⟩ := open_rows (hval 1 22 v1 rfl rfl) h1 (fun es ss hd => sized_slice hsz (j := 1) (t := 22) (elems := es) (spare := ss) rfl (by rw [hd]; rfl) Try.underlying22)
  have k2 := h2
  have lt2 : ∀ x ∈ p2, x.block < W.heap.size := by obtain ⟨m, hm⟩ := k2; exact DataW.trod_lt m _ _ _ hm
  obtain ⟨a2, rfl, -, -, w2⟩ := open_int Try.underlying3 (hval 2 3 v2 rfl rfl) h2
  clear hA0 hval0 hsz0
  refine (formOnce_walk v0 a0 v1 a1 a2 W w0 w1 (int_lo w2) (int_hi w2)).mono fun e W' ⟨he, bel⟩ => ?_
  subst he
  exact ⟨_, rfl, _, _, _, [], _, [], hW', trodAll_mk1 (shut_bool Try.underlying4 _), (trodAll_cons_mk (Below.trod laidOutTrue (by kernel_rfl) (of_decide_eq_true (by kernel_rfl)) k0 bel lt0) (trodAll_cons_mk (Below.trod laidOutTrue (by kernel_rfl) (of_decide_eq_true (by kernel_rfl)) k1 bel lt1) (trodAll_cons_mk (Below.trod laidOutTrue (by kernel_rfl) (of_decide_eq_true (by kernel_rfl)) k2 bel lt2) trodAll_mk0))), rfl, bel.frame _, fun h => by cases h⟩

theorem over : Rows.formOnceRow.holds Try.pinned (OpenSpec.ofChange Rows.formOnceSpec) :=
  OpenClaim.holds_of_wide 12 Try.f12 rfl rfl rfl rfl rfl rfl rfl ⟨rfl, rfl, rfl, rfl, rfl⟩ rfl rfl rfl rfl rfl (by kernel_rfl) Try.func12 (by kernel_rfl)
    (of_decide_eq_true (by kernel_rfl)) (by unfold Func.isWrapper; first | (rw [if_pos (by decide +kernel)]; kernel_rfl) | (rw [if_neg (by decide +kernel)]; exact ⟨rfl, rfl⟩))
    (fun os started H enc _ => lifted os started H enc)

end formOnceLaw
theorem formOnce_holds : Rows.FormOnceSaid := formOnceLaw.over
#print axioms formOnce_holds
end Go.Proofs.Ytpckomnpeainlab
