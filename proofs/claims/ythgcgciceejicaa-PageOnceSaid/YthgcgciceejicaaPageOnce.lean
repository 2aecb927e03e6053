/-
  For all raw things and all numbers PageOnce returns true.
-/
import Derived.Test.YthgcgciceejicaaGo
import Derived.Test.YthgcgciceejicaaFormG
import Derived.Test.YthgcgciceejicaaSmallG
import Derived.Test.YthgcgciceejicaaPgDup
import Derived.Test.YthgcgciceejicaaPgCp
import Derived.Test.YthgcgciceejicaaLawX
namespace Go.Proofs.Ythgcgciceejicaa
open Go.RowKit
set_option linter.unusedVariables false

theorem ofG_at {gs : List Pg} (h : (gs.flatMap (fun p : Pg => p.fields)).Nodup) {k : Nat} {p : Pg} (hp : gs[k]? = some p) {s : ByteArray} (hs : s ∈ p.fields) : ofG gs s = k := by
  refine fidx_found _ gs k p (fun y hy => ?_) hp (memS_iff.2 hs)
  rw [Bool.eq_false_iff]
  intro q
  have e : gs.flatMap (fun p : Pg => p.fields) = (gs.take k).flatMap (fun p : Pg => p.fields) ++ (gs.drop k).flatMap (fun p : Pg => p.fields) := by rw [← List.flatMap_append, List.take_append_drop]
  rw [e] at h
  refine (List.nodup_append.1 h).2.2 s (List.mem_flatMap.2 ⟨y, hy, memS_iff.1 q⟩) s (List.mem_flatMap.2 ⟨p, ?_, hs⟩) rfl
  exact List.mem_of_getElem? (i := 0) (by rw [List.getElem?_drop, Nat.add_zero]; exact hp)
theorem findG_at {gs : List Pg} (hd : (gs.map (fun p : Pg => p.name)).Nodup) {i : Nat} {f : Pg} (hi : gs[i]? = some f) : findG gs f.name = i := by
  have hil := (List.getElem?_eq_some_iff.1 hi).1
  refine fidx_found _ gs i f (fun y hy => ?_) hi (tl_yes rfl)
  rw [tl_dec, decide_eq_false_iff_not]
  intro e
  obtain ⟨j, hj⟩ := List.mem_iff_getElem?.1 hy
  rw [List.getElem?_take] at hj
  split at hj
  · rename_i hji
    have h1 : (gs.map (fun p : Pg => p.name))[j]? = some f.name := by rw [List.getElem?_map, hj, ← e]; rfl
    have h2 : (gs.map (fun p : Pg => p.name))[i]? = some f.name := by rw [List.getElem?_map, hi]; rfl
    have := ((List.getElem?_inj (by rw [List.length_map]; omega) hd).1 (h1.trans h2.symm))
    omega
  · cases hj
/-- The pages where the first one has a field more. -/
def moreG (p0 : Pg) (s : ByteArray) (pt : List Pg) : List Pg := ⟨p0.name, p0.fields ++ [s], p0.skip⟩ :: pt
theorem more_dup {p0 : Pg} {pt : List Pg} (ho : ((p0 :: pt).flatMap (fun p : Pg => p.fields)).Nodup) {k : Nat} {pk : Pg} (hk : (p0 :: pt)[k]? = some pk) {s : ByteArray} (hs : pk.fields[0]? = some s) :
    ∃ t q J, (moreG p0 s pt)[t]? = some q ∧ q.fields[J]? = some s ∧ (((moreG p0 s pt).take t).flatMap (fun p : Pg => p.fields) ++ q.fields.take J).Nodup ∧ s ∈ ((moreG p0 s pt).take t).flatMap (fun p : Pg => p.fields) ++ q.fields.take J := by
  have hsm := List.mem_of_getElem? hs
  have h0 : p0.fields.Nodup := by
    rw [List.flatMap_cons] at ho
    exact (List.nodup_append.1 ho).1
  cases k with
  | zero =>
    obtain rfl : p0 = pk := by simpa using hk
    refine ⟨0, _, p0.fields.length, rfl, ?_, ?_, ?_⟩
    · show (p0.fields ++ [s])[p0.fields.length]? = some s
      rw [List.getElem?_append_right (Nat.le_refl _), Nat.sub_self]; rfl
    · show ([] ++ (p0.fields ++ [s]).take p0.fields.length).Nodup
      rw [List.take_left' rfl]; exact h0
    · show s ∈ [] ++ (p0.fields ++ [s]).take p0.fields.length
      rw [List.take_left' rfl]; exact hsm
  | succ k =>
    have hk : pt[k]? = some pk := by simpa using hk
    refine ⟨k + 1, pk, 0, hk, hs, ?_, ?_⟩
    · show ((p0.fields ++ [s]) ++ (pt.take k).flatMap (fun p : Pg => p.fields) ++ []).Nodup
      have e : pt.flatMap (fun p : Pg => p.fields) = (pt.take k).flatMap (fun p : Pg => p.fields) ++ (pt.drop k).flatMap (fun p : Pg => p.fields) := by rw [← List.flatMap_append, List.take_append_drop]
      have hsd : s ∈ (pt.drop k).flatMap (fun p : Pg => p.fields) := List.mem_flatMap.2 ⟨pk, List.mem_of_getElem? (i := 0) (by rw [List.getElem?_drop, Nat.add_zero]; exact hk), hsm⟩
      rw [List.flatMap_cons, e] at ho
      obtain ⟨-, h1, h2⟩ := List.nodup_append.1 ho
      obtain ⟨h3, -, h5⟩ := List.nodup_append.1 h1
      rw [List.append_nil, List.append_assoc]
      refine List.nodup_append.2 ⟨h0, List.nodup_append.2 ⟨by simp, h3, fun a ha b hb e => ?_⟩, fun a ha b hb e => ?_⟩
      · rw [List.mem_singleton.1 ha] at e
        exact h5 b hb s hsd e.symm
      · rcases List.mem_append.1 hb with hb | hb
        · rw [List.mem_singleton.1 hb] at e
          exact h2 a ha s (List.mem_append_right _ hsd) e
        · exact h2 a ha b (List.mem_append_left _ hb) e
    · show s ∈ (p0.fields ++ [s]) ++ (pt.take k).flatMap (fun p : Pg => p.fields) ++ []
      simp

theorem pgCheck_nil (h : Vw) : C0 Try.prog 5 #[.slice none 0 0, .slice none 0 0] h (fun r _ => r = .int .i64 1) := by
  refine g_con Try.func5 fun hbx hbad Q hQ => ?_
  refine go0 26 [] [] ?_
  refine hQ.to [Vi 1] (fun H sH => ?_)
  exact rfl
set_option maxHeartbeats 4000000 in
set_option maxRecDepth 100000 in
theorem pageOnce_c (l : List RawD) (sl : Value) (i : Int) (h : Vw) (hl : RS h 4 sl (l.map RawD.cs)) (ll : l.length * 40 ≤ reachBytes) (ol : ∀ r ∈ l, r.ok) (i0 : -9223372036854775808 ≤ i) (i1 : i ≤ 9223372036854775807) :
    C0 Try.prog 3 #[sl, .int .i64 i] h (fun v _ => v = .bool true) := by
  have hF := fun H q => form_c l sl H q ll ol
  have hn := nFields_le l
  have hfl := form_len l
  have hG := form_okGs l
  have one := hG.one
  have few := hG.few
  have hC := fun H fv v q1 q2 => pgCheck_any (formE l).fields fv (formE l).pages v H hG q1 q2 (by omega)
  have hSm := fun H fv v q1 q2 => pgCheck_any smallF.fields fv smallF.pages v H small_okG q1 q2 (by decide)
  have hN := fun H => pgCheck_nil H
  have hO := fun H B m d s q => gOf_any (formE l).pages (.slice B m d) s H q (by omega) (fun p hp => by have := hG.fl p hp; omega)
  have hFi := fun H B m d s q => gFind_any (formE l).pages (.slice B m d) s H q (by omega) (fun p hp => by have := hG.fl p hp; omega)
  have hof := fun k p s (q1 : (formE l).pages[k]? = some p) (q2 : s ∈ p.fields) => ofG_at hG.once q1 q2
  have hfg := fun k p (q1 : (formE l).pages[k]? = some p) => findG_at hG.nodup q1
  have hD := fun H fv v (p0 : Pg) pt s q t pt' (e : (formE l).pages = p0 :: pt) jj q1 q2 q3 q4 q5 q6 => pgCheck_dup (formE l).fields fv (moreG p0 s pt) v H t pt' q1 jj s q2 q3 q4 (by have := hG.nodup; rw [e] at this; exact this)
    (fun p hp => by
      rcases List.mem_cons.1 hp with rfl | hp
      · exact hG.skip p0 (by rw [e]; simp)
      · exact hG.skip p (by rw [e]; exact List.mem_cons_of_mem _ hp))
    (fun p hp => by
      rcases List.mem_cons.1 hp with rfl | hp
      · intro z hz
        rcases List.mem_append.1 hz with hz | hz
        · exact hG.here p0 (by rw [e]; simp) z hz
        · rw [List.mem_singleton.1 hz]; exact q
      · exact hG.here p (by rw [e]; exact List.mem_cons_of_mem _ hp))
    (fun p hp => by
      rcases List.mem_cons.1 hp with rfl | hp
      · exact ⟨hG.name p0 (by rw [e]; simp), by have := hG.fl p0 (by rw [e]; simp); show (p0.fields ++ [s]).length ≤ 101; rw [List.length_append, List.length_singleton]; omega⟩
      · exact ⟨hG.name p (by rw [e]; exact List.mem_cons_of_mem _ hp), by have := hG.fl p (by rw [e]; exact List.mem_cons_of_mem _ hp); omega⟩)
    (by have := hG.few; rw [e] at this; exact this) q5 q6 (by omega)
  have hsz : ∀ p ∈ (formE l).pages, (szE p.skip).1 < 1000000 := fun p hp => (hG.skip p hp).elim (fun e => by rw [e]; decide) fun e => e.2.2.1
  have hfs : ∀ p ∈ (formE l).pages, p.fields.length ≤ 100 := fun p hp => hG.fl p hp
  have hhe := hG.here
  have hdu := fun (p0 : Pg) pt (e : (formE l).pages = p0 :: pt) k pk s (q1 : (formE l).pages[k]? = some pk) q2 => more_dup (p0 := p0) (pt := pt) (by rw [← e]; exact hG.once) (k := k) (by rw [← e]; exact q1) (s := s) q2
  have hCp := fun (p0 : Pg) pt (e : (formE l).pages = p0 :: pt) H v q => pgCopy_con p0 pt (formE l).pages e v H q hsz (fun p hp => by have := hfs p hp; omega) (by omega)
  clear hG
  obtain ⟨p0, pt, hps⟩ : ∃ p0 pt, (formE l).pages = p0 :: pt := by
    cases hp : (formE l).pages with
    | nil => rw [hp] at one; simp at one
    | cons p0 pt => exact ⟨p0, pt, rfl⟩
  have hCp := hCp p0 pt hps
  have hdu := hdu p0 pt hps
  have hD := fun H fv v s q t pt' => hD H fv v p0 pt s q t pt' hps
  rw [hfl] at hF
  generalize formE l = fm at *
  generalize hM : fm.pages.length = M at *
  generalize nFields l = N at *
  have hpl : (p0 :: pt).length = M := by rw [← hps]; exact hM
  have hp0l := hfs p0 (by rw [hps]; simp)
  unfold PgR at hCp
  rw [hpl] at hCp
  obtain ⟨n0, hn0⟩ : ∃ n, p0.fields.length = n := ⟨_, rfl⟩
  rw [hn0] at hCp hp0l
  have hpk := fun H => c_picked i (M : Int) H i0 i1 (by omega) (by omega)
  have p0' := pickL_lo i (M : Int) (by omega)
  have p1' := pickL_hi i (M : Int) (by omega)
  obtain ⟨aN, haN⟩ : ∃ k : Nat, pickL i (M : Int) = (k : Int) := ⟨_, (Int.toNat_of_nonneg p0').symm⟩
  rw [haN] at p1' hpk
  clear haN p0'
  obtain ⟨A1, cap1, rfl, -, -, -⟩ := hl.form
  rw [List.length_map] at *
  generalize l.length = n1 at *
  refine g_con Try.func3 fun hbx hbad Q hQ => ?_
  refine go0 8 [] [] ?_
  refine g_call (fun H sH => hF _ (hl.sees sH)) ?_; rintro _ W1 S2 ⟨A, c, B, d, rfl, hf⟩
  refine go1 7 [.own, .b 0 0] [] ?_
  intro b3
  refine g_call (fun H sH => small_any _) ?_; rintro _ W4 S5 ⟨As, cs, Bs, ds, rfl, hfs1⟩
  refine go0 1 [] [] ?_
  refine g_call (fun H sH => small_any _) ?_; rintro _ W6 S7 ⟨At, ct, Bt, dt, rfl, hfs2⟩
  refine go0 1 [] [] ?_
  refine go0 18 [.cl 5 #[.slice Bs 2 ds, .slice At 3 ct] (Vi 0), .cl 5 #[Vz, Vz] (Vi 1), .b 0 1, .b 0 0] [] ?_ (ho := (And.intro (fun H sH => hSm _ _ _ ((hfs1.sees (S7.trans sH))).pages ((hfs2.sees sH)).fields) (And.intro (fun H sH => hN _) (trivial))))
  refine go0 17 [.cl 5 #[.slice B M d, .slice A N c] (Vi 0), .b 0 1] [] ?_ (ho := (And.intro (fun H sH => hC _ _ _ ((hf.sees (S5.trans (S7.trans sH)))).pages ((hf.sees (S5.trans (S7.trans sH)))).fields) (trivial)))
  obtain ⟨us, ws, B2, d2, e2, -, hpr, hps', hpa, hul, hwl⟩ := pgs_open hf.pages
  simp only [Value.slice.injEq] at e2
  obtain ⟨rfl, -, rfl⟩ := e2
  rw [hM] at hpr
  refine g_loop [0, 1, 0, 1, 1, 1, 1] [.block 0, .seq [1, 1, 1, 1, 1]] (fun (k : Nat) X => ∃ (W8 : Vw) , X W8 [(1, Vi i), (5, Vp b3), (35, .slice B M d), (36, Vi (M : Int)), (37, Vi (k : Int))] [.box b3 [.slice A N c, .slice B M d]] [] ∧ Sees W6 W8 ∧ (k ≤ M)) (fun k => M - k) (0) (fun X q => ⟨W6, q _ _ _ _ ⟨rfl, by kernel_rfl⟩, Sees.refl _, Nat.zero_le _⟩) ?_
  rintro k a w ⟨W8, hJ, S9, hk⟩; refine g_of hJ ?_; clear hJ a w
  refine go0 6 [] [] ?_
  rcases (by omega : k < M ∨ k = M) with hlt | hke
  · obtain ⟨p, hpk'⟩ : ∃ p, fm.pages[k]? = some p := ⟨_, List.getElem?_eq_getElem (by omega)⟩
    obtain ⟨Au, cu, Bu, mu, du, hrow, hrs, hxa⟩ := pg_at hps' hpa hpk'
    have hfk := hfg k p hpk'
    have hFk := fun H B m d q => hFi H B m d p.name q
    rw [hfk, if_neg (by omega), if_neg (by omega)] at hFk
    have hpl := hfs p (List.mem_of_getElem? hpk')
    refine g_true (t := decide ((k : Int) < (M : Int))) (decide_eq_true (by omega)) ?_
    refine go0 7 [] [] ?_
    obtain ⟨b10, o11, rfl, -, c12⟩ := RS.row hpr (hrow)
    refine g_fact (c12.sees (S5.trans (S7.trans S9))) ?_
    refine go1 17 [.ix b10 o11 M d k, .f 0 0, .own, .b 0 0, .b 0 1] [] ?_ (ho := (And.intro (by first | omega | (simp; omega)) (trivial)))
    intro b13
    refine g_loop [0, 1, 0, 1, 0, 0, 1, 1, 0, 0, 1, 0, 1, 1, 1, 1] [.block 2, .seq [1, 1, 0, 0, 1, 1, 0, 0, 1, 0, 1, 1, 1, 1], .block 1, .seq [1, 1, 1, 0, 0, 1, 0, 1, 1, 1, 1]] (fun (j : Nat) X => ∃ (W14 : Vw) , X W14 [(1, Vi i), (5, Vp b3), (35, .slice (some ⟨b10, o11, none⟩) M d), (36, Vi (M : Int)), (37, Vi (k : Int)), (7, Vp b13), (6, Vi (k : Int)), (43, .slice Au p.fields.length cu), (44, Vi (p.fields.length : Int)), (45, Vi (j : Int))] [.box b13 [.string p.name, .slice Au p.fields.length cu, Vi p.skip.op, Vi p.skip.k, Vi p.skip.n, .string p.skip.s, .string p.skip.nm, .slice Bu mu du], .box b3 [.slice A N c, .slice (some ⟨b10, o11, none⟩) M d]] [(b10, o11 + k * 8, [.string p.name, .slice Au p.fields.length cu, Vi p.skip.op, Vi p.skip.k, Vi p.skip.n, .string p.skip.s, .string p.skip.nm, .slice Bu mu du])] ∧ Sees W8 W14 ∧ (j ≤ p.fields.length)) (fun j => p.fields.length - j) (0) (fun X q => ⟨W8, q _ _ _ _ ⟨rfl, by kernel_rfl⟩, Sees.refl _, Nat.zero_le _⟩) ?_
    rintro j a w ⟨W14, hJ, S15, hj⟩; refine g_of hJ ?_; clear hJ a w
    refine go0 6 [] [] ?_
    rcases (by omega : j < p.fields.length ∨ j = p.fields.length) with hjl | hje
    · obtain ⟨s, hsj⟩ : ∃ s, p.fields[j]? = some s := ⟨_, List.getElem?_eq_getElem hjl⟩
      have hsr := str_row hsj
      have hok := hof k p s hpk' (List.mem_of_getElem? hsj)
      have hOk := fun H B m d q => hO H B m d s q
      rw [hok, if_neg (by omega), if_neg (by omega)] at hOk
      refine g_true (t := decide ((j : Int) < (p.fields.length : Int))) (decide_eq_true (by omega)) ?_
      refine go0 6 [] [] ?_
      obtain ⟨b16, o17, rfl, -, c18⟩ := RS.row hrs (hsr)
      refine g_fact (c18.sees (S5.trans (S7.trans (S9.trans S15)))) ?_
      refine go0 37 [.ix b16 o17 p.fields.length cu j, .f 0 0, .b 1 1, .cl 7 #[.slice (some ⟨b10, o11, none⟩) M d, .string s] (.tuple #[Vi (k : Int), Vi 0])] [(61, .bool ((k : Int) != (k : Int)), .bool false), (63, Vi (IntKind.i64.wrap ((j : Int) + 1)), Vi ((j : Int) + 1))] ?_ (ho := (And.intro (by first | omega | (simp; omega)) (And.intro (fun H sH => hOk _ _ _ _ ((hf.sees (S5.trans (S7.trans (S9.trans (S15.trans sH)))))).pages) (trivial)))) (hc := (And.intro (congrArg Value.bool (bne_eq_false_iff_eq.2 rfl)) (And.intro (i64_wrap (by omega) (by omega)) (trivial))))
      exact g_round (j + 1) (fun X q => ⟨W14, q _ _ _ _ ⟨rfl, by kernel_rfl⟩, S15, by omega⟩) (by omega)
    · skip
      refine g_false (t := decide ((j : Int) < (p.fields.length : Int))) (decide_eq_false (by omega)) ?_
      refine go0 2 [] [] ?_
      refine g_leave ?_
      refine go0 35 [.b 1 1, .b 0 0, .cl 8 #[.slice (some ⟨b10, o11, none⟩) M d, .string p.name] (.tuple #[Vi (k : Int), Vi 0])] [(77, .bool ((k : Int) != (k : Int)), .bool false), (79, Vi (IntKind.i64.wrap ((k : Int) + 1)), Vi ((k : Int) + 1))] ?_ (ho := (And.intro (fun H sH => hFk _ _ _ _ ((hf.sees (S5.trans (S7.trans (S9.trans (S15.trans sH)))))).pages) (trivial))) (hc := (And.intro (congrArg Value.bool (bne_eq_false_iff_eq.2 rfl)) (And.intro (i64_wrap (by omega) (by omega)) (trivial))))
      exact g_round (k + 1) (fun X q => ⟨W14, q _ _ _ _ ⟨rfl, by kernel_rfl⟩, (S9.trans S15), by omega⟩) (by omega)
  · skip
    obtain ⟨p, hpk'⟩ : ∃ p, fm.pages[aN]? = some p := ⟨_, List.getElem?_eq_getElem (by omega)⟩
    obtain ⟨Au, cu, Bu, mu, du, hrow, hrs, hxa⟩ := pg_at hps' hpa hpk'
    refine g_false (t := decide ((k : Int) < (M : Int))) (decide_eq_false (by omega)) ?_
    refine go0 2 [] [] ?_
    refine g_leave ?_
    refine go0 18 [.b 0 1, .cl 9 #[Vi i, Vi (M : Int)] (Vi (aN : Int)), .b 0 1] [] ?_ (ho := (And.intro (fun H sH => hpk _) (trivial)))
    by_cases hz : p.fields.length = 0
    · skip
      obtain ⟨b19, o20, rfl, -, c21⟩ := RS.row hpr (hrow)
      refine g_fact (c21.sees (S5.trans (S7.trans S9))) ?_
      refine go0 15 [.ix b19 o20 M d aN, .f 0 1] [(92, .bool ((p.fields.length : Int) == 0), .bool true)] ?_ (ho := (And.intro (by first | omega | (simp; omega)) (trivial))) (hc := (And.intro (congrArg Value.bool (beq_iff_eq.2 (by omega))) (trivial)))
      refine hQ.to [.bool true] (fun H sH => ?_)
      exact rfl
    · skip
      obtain ⟨b22, o23, rfl, -, c24⟩ := RS.row hpr (hrow)
      refine g_fact (c24.sees (S5.trans (S7.trans S9))) ?_
      refine go0 14 [.ix b22 o23 M d aN, .f 0 1, .b 0 1] [(92, .bool ((p.fields.length : Int) == 0), .bool false)] ?_ (ho := (And.intro (by first | omega | (simp; omega)) (trivial))) (hc := (And.intro (congrArg Value.bool (beq_eq_false_iff_ne.2 (by omega))) (trivial)))
      refine g_callE (Bi := []) [] (fun H sH => hCp _ _ ((hf.sees (S5.trans (S7.trans (S9.trans sH))))).pages) ?_; rintro _ _ W25 S26 ⟨A5, c5, A6, c6, xs, vs, rfl, rfl, hxs, hvs⟩
      refine go0 4 [] [] ?_
      obtain ⟨v0, vs', rfl⟩ : ∃ v0 vs', vs = v0 :: vs' := by
        have := hvs.len
        cases vs with
        | nil => simp at this
        | cons v0 vs' => exact ⟨v0, vs', rfl⟩
      obtain ⟨B0, m0, d0, rfl⟩ := (AllArgs.get hvs (i := 0) (x := p0.skip) rfl rfl).slice
      have hrow0 : (pgRows (p0 :: pt) (Value.slice A6 n0 c6 :: xs) (Value.slice B0 m0 d0 :: vs'))[0]? = some (pgRow p0 (Value.slice A6 n0 c6) (.slice B0 m0 d0)) := rfl
      have hsl0 : (strRows p0.fields).length = n0 := (List.length_map _).trans hn0
      by_cases k0 : aN = 0
      · have hpp : p0 = p := by rw [hps, k0] at hpk'; simpa using hpk'
        have hrowA : (pgRows (p0 :: pt) (Value.slice A6 n0 c6 :: xs) (Value.slice B0 m0 d0 :: vs'))[aN]? = some (pgRow p0 (Value.slice A6 n0 c6) (.slice B0 m0 d0)) := by rw [k0]; exact hrow0
        obtain ⟨s, hs⟩ : ∃ s, p0.fields[0]? = some s := ⟨_, List.getElem?_eq_getElem (by rw [hpp]; omega)⟩
        have hs0 := str_row hs
        have hn0p : 0 < n0 := by rw [← hn0, hpp]; omega
        refine g_get (fun a w hJ => own_some (hJ.rowOwn (v := .slice A5 M c5) (e := 38) (kk := 8) (l := pgRows (p0 :: pt) (Value.slice A6 n0 c6 :: xs) (Value.slice B0 m0 d0 :: vs')) 0 (by kernel_rfl)) ((Nat.succ_pos _))) ?_; rintro ⟨bA, rfl⟩
        refine g_get (fun a w hJ => own_some (hJ.rowOwn (v := .slice A6 n0 c6) (e := 9) (kk := 1) (l := strRows p0.fields) 1 (by kernel_rfl)) ((by rw [List.length_map]; have := (List.getElem?_eq_some_iff.1 hs).1; omega))) ?_; rintro ⟨bC, rfl⟩
        refine g_reg 17 0 [.pu, .pu, .v (fun gh => .pointer (some ⟨bA, 0 + 0 * 8, none⟩)), .pu, .v (fun gh => Vs bC n0 c6), .pu, .pu, .v (fun gh => .pointer (some ⟨bA, 0 + aN * 8, none⟩)), .pu, .v (fun gh => Vs bC n0 c6), .v (fun gh => .pointer (some ⟨bC, 0 + 0 * 1, none⟩)), .v (fun gh => .string s), .f (fun gh => .slice (some ⟨(blkOf (gh 12)), 0, none⟩) 1 1) (fun gh hh => Cells hh (blkOf (gh 12)) 0 [.string s]), .e (fun gh => .slice (sA (gh 13)) (sN (gh 13)) (sC (gh 13))) 1 (fun gh => .row (.slice (sA (gh 13)) (sN (gh 13)) (sC (gh 13))) 9 1 ((strRows p0.fields) ++ [[.string s]])), .v (fun gh => .pointer (some ⟨bA, 0 + 0 * 8, none⟩)), .pu, .s 0 (fun gh => .row (Vs bA M c5) 38 8 ((pgRows (p0 :: pt) (Value.slice (some ⟨bC, 0, none⟩) n0 c6 :: xs) (Value.slice B0 m0 d0 :: vs')).set 0 [.string p0.name, .slice (sA (gh 13)) (sN (gh 13)) (sC (gh 13)), Vi p0.skip.op, Vi p0.skip.k, Vi p0.skip.n, .string p0.skip.s, .string p0.skip.nm, .slice B0 m0 d0]))] [(12, true), (13, false)] (And.intro (fun _ _ _ s c => c.sees s) (trivial)) ?_ ?_
        · intro R hT hA hmono
          refine And.intro (t_ix hT hA bA 0 M c5 0 (fun gh => .pointer (some ⟨bA, 0 + 0 * 8, none⟩)) (by first | omega | (simp; omega))) ?_
          refine And.intro (r_rowget hT hA 100 (fun gh => Vs bC n0 c6) [3] 4 (by kernel_rfl) (by kernel_rfl) (by kernel_rfl) (fun _ => by kernel_rfl) 0 (GN R 0) (by kernel_rfl) (by kernel_rfl) bA M c5 8 38 (pgRows (p0 :: pt) (Value.slice (some ⟨bC, 0, none⟩) n0 c6 :: xs) (Value.slice B0 m0 d0 :: vs')) (fun _ => by kernel_rfl) 0 1 (r := [.string p0.name, Vs bC n0 c6, Vi p0.skip.op, Vi p0.skip.k, Vi p0.skip.n, .string p0.skip.s, .string p0.skip.nm, .slice B0 m0 d0]) (hrow0) 31 (.tmp 99) (by kernel_rfl) (fun _ => by kernel_rfl) (fun _ => by kernel_rfl)) ?_
          refine And.intro (t_ix hT hA bA 0 M c5 aN (fun gh => .pointer (some ⟨bA, 0 + aN * 8, none⟩)) (by first | omega | (simp; omega))) ?_
          refine And.intro (r_rowget hT hA 105 (fun gh => Vs bC n0 c6) [8] 9 (by kernel_rfl) (by kernel_rfl) (by kernel_rfl) (fun _ => by kernel_rfl) 0 (GN R 0) (by kernel_rfl) (by kernel_rfl) bA M c5 8 38 (pgRows (p0 :: pt) (Value.slice (some ⟨bC, 0, none⟩) n0 c6 :: xs) (Value.slice B0 m0 d0 :: vs')) (fun _ => by kernel_rfl) aN 1 (r := [.string p0.name, Vs bC n0 c6, Vi p0.skip.op, Vi p0.skip.k, Vi p0.skip.n, .string p0.skip.s, .string p0.skip.nm, .slice B0 m0 d0]) (hrowA) 31 (.tmp 104) (by kernel_rfl) (fun _ => by kernel_rfl) (fun _ => by kernel_rfl)) ?_
          refine And.intro (t_ix hT hA bC 0 n0 c6 0 (fun gh => .pointer (some ⟨bC, 0 + 0 * 1, none⟩)) (by first | omega | (simp; omega))) ?_
          refine And.intro (r_rowget hT hA 107 (fun gh => .string s) [10] 11 (by kernel_rfl) (by kernel_rfl) (by kernel_rfl) (fun _ => by kernel_rfl) 1 (GN R 1) (by kernel_rfl) (by kernel_rfl) bC n0 c6 1 9 (strRows p0.fields) (fun _ => by kernel_rfl) 0 0 (r := [.string s]) (hs0) 9 (.tmp 106) (by kernel_rfl) (fun _ => by kernel_rfl) (fun _ => by kernel_rfl)) ?_
          refine And.intro (r_fact hT hA hmono ⟨fun _ _ => by kernel_rfl, fun _ _ => by kernel_rfl, fun _ _ => by kernel_rfl⟩ 108 (fun g => Vs g 1 1) [11] 12 (by kernel_rfl) (by kernel_rfl) (fun _ => by kernel_rfl) (fun gh => [.string s]) 9 (fun _ _ => by kernel_rfl) (fun gh zb zH zc zj zq zhq zhe => own_fact (i := 12) (k := 0) (f := fun gh hh => Cells hh (blkOf (gh 12)) 0 [.string s]) (by kernel_rfl) (by kernel_rfl) zc zj zq zhq zhe)) ?_
          refine And.intro (r_append hT hA hmono ⟨fun _ _ => by kernel_rfl, fun _ _ => by kernel_rfl, fun _ _ => by kernel_rfl⟩ (by kernel_rfl) 109 [4, 12] 13 (by kernel_rfl) (fun _ => by kernel_rfl) 1 (GN R 1) (by kernel_rfl) (by kernel_rfl) (by kernel_rfl) (fun gh => Vs bC n0 c6) 31 9 1 (fun gh => strRows p0.fields) (fun gh => [[.string s]]) (fun _ => by kernel_rfl) (fun _ => by kernel_rfl) (fun _ _ => by kernel_rfl) (.tmp 100) (.tmp 108) (by kernel_rfl) (by kernel_rfl) (fun gh => (blkOf (gh 12))) 1 1 (fun _ => by kernel_rfl) (fun _ => by kernel_rfl) 0 12 (fun gh hh => Cells hh (blkOf (gh 12)) 0 [.string s]) (by kernel_rfl) (by kernel_rfl) (fun _ _ c => c) Try.underlying31 (zv := Ve) (bytes := 16) (by kernel_rfl) (by kernel_rfl) (fun _ => by kernel_rfl) (fun _ => by rw [hsl0]; constructor <;> omega)) ?_
          refine And.intro (t_ix hT hA bA 0 M c5 0 (fun gh => .pointer (some ⟨bA, 0 + 0 * 8, none⟩)) (by first | omega | (simp; omega))) ?_
          refine And.intro (r_rowset hT hA [0, 1, 2, 3, 4, 5, 6, 7, 8, 9, 10, 11, 12, 13, 15] (by kernel_rfl) (by kernel_rfl) (fun _ => by kernel_rfl) 0 (GN R 0) (by kernel_rfl) (by kernel_rfl) (by kernel_rfl) 0 1 (g := bA) (m := M) (cap := c5) (kk := 8) (te := 38) (l := pgRows (p0 :: pt) (Value.slice (some ⟨bC, 0, none⟩) n0 c6 :: xs) (Value.slice B0 m0 d0 :: vs')) (r := [.string p0.name, Vs bC n0 c6, Vi p0.skip.op, Vi p0.skip.k, Vi p0.skip.n, .string p0.skip.s, .string p0.skip.nm, .slice B0 m0 d0]) (fun gh => .slice (sA (gh 13)) (sN (gh 13)) (sC (gh 13))) (fun _ => by kernel_rfl) (fun _ => by kernel_rfl) 31 (.tmp 111) (.tmp 109) (by kernel_rfl) (fun _ => by kernel_rfl) (fun _ => by kernel_rfl) (hrow0) (fun _ => by kernel_rfl)) ?_
          trivial
        rintro b28 v109 W29 S30 ⟨f27, -⟩
        replace f27 : Cells W29 b28 0 [.string s] := f27
        refine g_fact f27 ?_
        refine go0 6 [.b 2 0] [] ?_
        refine g_freeze 0 (v := Vs bA M c5) (e := 38) (kk := 8) (l := (pgRows (p0 :: pt) (Value.slice (some ⟨bC, 0, none⟩) n0 c6 :: xs) (Value.slice B0 m0 d0 :: vs')).set 0 [.string p0.name, .slice (sA v109) (sN v109) (sC v109), Vi p0.skip.op, Vi p0.skip.k, Vi p0.skip.n, .string p0.skip.s, .string p0.skip.nm, .slice B0 m0 d0]) ?_; intro W31 S32 fP
        refine g_freeze 0 (v := .slice (sA v109) (sN v109) (sC v109)) (e := 9) (kk := 1) (l := (strRows p0.fields) ++ [[.string s]]) ?_; intro W33 S34 fS
        obtain ⟨t, pt', jj, g1, g2, g3, g4⟩ := hdu aN p s hpk' (by rw [← hpp]; exact hs)
        have hsf := hhe p (List.mem_of_getElem? hpk') s (by rw [← hpp]; exact List.mem_of_getElem? hs)
        refine go0 6 [.cl 5 #[Vs bA M c5, .slice A N c] (Vi 6)] [] ?_ (ho := (And.intro (fun H sH => hD _ _ _ s hsf t pt' jj g1 g2 g3 g4 ⟨.slice (sA v109) (sN v109) (sC v109) :: xs, Value.slice B0 m0 d0 :: vs', (fP.sees (S34.trans sH)), ⟨.slice (sA v109) (sN v109) (sC v109), xs, rfl, (by have := (fS.sees sH); unfold strRows; rw [List.map_append]; exact this), (hxs.sees (S30.trans (S32.trans (S34.trans sH))))⟩, (hvs.sees (S30.trans (S32.trans (S34.trans sH))))⟩ ((hf.sees (S5.trans (S7.trans (S9.trans (S26.trans (S30.trans (S32.trans (S34.trans sH))))))))).fields) (trivial)))
        refine hQ.to [.bool true] (fun H sH => ?_)
        exact rfl
      · skip
        obtain ⟨a, rfl⟩ : ∃ a, aN = a + 1 := ⟨aN - 1, by omega⟩
        have hpa' : pt[a]? = some p := by rw [hps] at hpk'; simpa using hpk'
        obtain ⟨s, hs⟩ : ∃ s, p.fields[0]? = some s := ⟨_, List.getElem?_eq_getElem (by omega)⟩
        have hs0 := str_row hs
        have hal := (List.getElem?_eq_some_iff.1 hpa').1
        obtain ⟨x1, hx1⟩ : ∃ u, xs[a]? = some u := ⟨_, List.getElem?_eq_getElem (by have := hxs.len; rw [this, List.length_map]; omega)⟩
        have hxr := AllStr.get hxs (x := p.fields) (by rw [List.getElem?_map, hpa']; rfl) hx1
        obtain ⟨Ax, cx, ex, -⟩ := hxr.form
        rw [List.length_map] at ex
        rw [ex] at hxr hx1
        obtain ⟨bx, ox, rfl, -, -⟩ := RS.row hxr hs0
        obtain ⟨v1, hv1⟩ : ∃ u, vs'[a]? = some u := ⟨_, List.getElem?_eq_getElem (by have := hvs.len; simp at this; omega)⟩
        obtain ⟨B1, m1, d1, e1⟩ := (AllArgs.get hvs (i := a + 1) (x := p.skip) (by rw [List.map_cons, List.getElem?_cons_succ, List.getElem?_map, hpa']; rfl) hv1).slice
        rw [e1] at hv1
        have hrowA : (pgRows (p0 :: pt) (Value.slice A6 n0 c6 :: xs) (Value.slice B0 m0 d0 :: vs'))[a + 1]? = some (pgRow p (Value.slice (some ⟨bx, ox, none⟩) p.fields.length cx) (.slice B1 m1 d1)) := pgRows_get (i := a + 1) hpa' hx1 hv1
        refine g_get (fun a w hJ => own_some (hJ.rowOwn (v := .slice A5 M c5) (e := 38) (kk := 8) (l := pgRows (p0 :: pt) (Value.slice A6 n0 c6 :: xs) (Value.slice B0 m0 d0 :: vs')) 0 (by kernel_rfl)) ((Nat.succ_pos _))) ?_; rintro ⟨bA, rfl⟩
        have c35 := RS.cell hxr (hs0)
        refine g_fact (c35.sees (Sees.refl _)) ?_
        refine g_reg 17 0 [.pu, .pu, .v (fun gh => .pointer (some ⟨bA, 0 + 0 * 8, none⟩)), .pu, .v (fun gh => .slice A6 n0 c6), .pu, .pu, .v (fun gh => .pointer (some ⟨bA, 0 + (a + 1) * 8, none⟩)), .pu, .v (fun gh => .slice (some ⟨bx, ox, none⟩) p.fields.length cx), .v (fun gh => .pointer (some ⟨bx, ox + 0 * 1, none⟩)), .lf 0 0, .f (fun gh => .slice (some ⟨(blkOf (gh 12)), 0, none⟩) 1 1) (fun gh hh => Cells hh (blkOf (gh 12)) 0 [.string s]), .e (fun gh => .slice (sA (gh 13)) (sN (gh 13)) (sC (gh 13))) 1 (fun gh => .row (.slice (sA (gh 13)) (sN (gh 13)) (sC (gh 13))) 9 1 ((strRows p0.fields) ++ [[.string s]])), .v (fun gh => .pointer (some ⟨bA, 0 + 0 * 8, none⟩)), .pu, .s 0 (fun gh => .row (Vs bA M c5) 38 8 ((pgRows (p0 :: pt) (Value.slice A6 n0 c6 :: xs) (Value.slice B0 m0 d0 :: vs')).set 0 [.string p0.name, .slice (sA (gh 13)) (sN (gh 13)) (sC (gh 13)), Vi p0.skip.op, Vi p0.skip.k, Vi p0.skip.n, .string p0.skip.s, .string p0.skip.nm, .slice B0 m0 d0]))] [(12, true), (13, false)] (And.intro (fun _ _ _ s c => c.sees s) (trivial)) ?_ ?_
        · intro R hT hA hmono
          refine And.intro (t_ix hT hA bA 0 M c5 0 (fun gh => .pointer (some ⟨bA, 0 + 0 * 8, none⟩)) (by first | omega | (simp; omega))) ?_
          refine And.intro (r_rowget hT hA 100 (fun gh => .slice A6 n0 c6) [3] 4 (by kernel_rfl) (by kernel_rfl) (by kernel_rfl) (fun _ => by kernel_rfl) 0 (GN R 0) (by kernel_rfl) (by kernel_rfl) bA M c5 8 38 (pgRows (p0 :: pt) (Value.slice A6 n0 c6 :: xs) (Value.slice B0 m0 d0 :: vs')) (fun _ => by kernel_rfl) 0 1 (r := [.string p0.name, .slice A6 n0 c6, Vi p0.skip.op, Vi p0.skip.k, Vi p0.skip.n, .string p0.skip.s, .string p0.skip.nm, .slice B0 m0 d0]) (hrow0) 31 (.tmp 99) (by kernel_rfl) (fun _ => by kernel_rfl) (fun _ => by kernel_rfl)) ?_
          refine And.intro (t_ix hT hA bA 0 M c5 (a + 1) (fun gh => .pointer (some ⟨bA, 0 + (a + 1) * 8, none⟩)) (by first | omega | (simp; omega))) ?_
          refine And.intro (r_rowget hT hA 105 (fun gh => .slice (some ⟨bx, ox, none⟩) p.fields.length cx) [8] 9 (by kernel_rfl) (by kernel_rfl) (by kernel_rfl) (fun _ => by kernel_rfl) 0 (GN R 0) (by kernel_rfl) (by kernel_rfl) bA M c5 8 38 (pgRows (p0 :: pt) (Value.slice A6 n0 c6 :: xs) (Value.slice B0 m0 d0 :: vs')) (fun _ => by kernel_rfl) (a + 1) 1 (r := [.string p.name, .slice (some ⟨bx, ox, none⟩) p.fields.length cx, Vi p.skip.op, Vi p.skip.k, Vi p.skip.n, .string p.skip.s, .string p.skip.nm, .slice B1 m1 d1]) (hrowA) 31 (.tmp 104) (by kernel_rfl) (fun _ => by kernel_rfl) (fun _ => by kernel_rfl)) ?_
          refine And.intro (t_ix hT hA bx ox p.fields.length cx 0 (fun gh => .pointer (some ⟨bx, ox + 0 * 1, none⟩)) (by first | omega | (simp; omega))) ?_
          refine And.intro (r_fact hT hA hmono ⟨fun _ _ => by kernel_rfl, fun _ _ => by kernel_rfl, fun _ _ => by kernel_rfl⟩ 108 (fun g => Vs g 1 1) [11] 12 (by kernel_rfl) (by kernel_rfl) (fun _ => by kernel_rfl) (fun gh => [.string s]) 9 (fun _ _ => by kernel_rfl) (fun gh zb zH zc zj zq zhq zhe => own_fact (i := 12) (k := 0) (f := fun gh hh => Cells hh (blkOf (gh 12)) 0 [.string s]) (by kernel_rfl) (by kernel_rfl) zc zj zq zhq zhe)) ?_
          refine And.intro (r_append hT hA hmono ⟨fun _ _ => by kernel_rfl, fun _ _ => by kernel_rfl, fun _ _ => by kernel_rfl⟩ (by kernel_rfl) 109 [4, 12] 13 (by kernel_rfl) (fun _ => by kernel_rfl) 1 (GN R 1) (by kernel_rfl) (by kernel_rfl) (by kernel_rfl) (fun gh => .slice A6 n0 c6) 31 9 1 (fun gh => strRows p0.fields) (fun gh => [[.string s]]) (fun _ => by kernel_rfl) (fun _ => by kernel_rfl) (fun _ _ => by kernel_rfl) (.tmp 100) (.tmp 108) (by kernel_rfl) (by kernel_rfl) (fun gh => (blkOf (gh 12))) 1 1 (fun _ => by kernel_rfl) (fun _ => by kernel_rfl) 0 12 (fun gh hh => Cells hh (blkOf (gh 12)) 0 [.string s]) (by kernel_rfl) (by kernel_rfl) (fun _ _ c => c) Try.underlying31 (zv := Ve) (bytes := 16) (by kernel_rfl) (by kernel_rfl) (fun _ => by kernel_rfl) (fun _ => by rw [hsl0]; constructor <;> omega)) ?_
          refine And.intro (t_ix hT hA bA 0 M c5 0 (fun gh => .pointer (some ⟨bA, 0 + 0 * 8, none⟩)) (by first | omega | (simp; omega))) ?_
          refine And.intro (r_rowset hT hA [0, 1, 2, 3, 4, 5, 6, 7, 8, 9, 10, 11, 12, 13, 15] (by kernel_rfl) (by kernel_rfl) (fun _ => by kernel_rfl) 0 (GN R 0) (by kernel_rfl) (by kernel_rfl) (by kernel_rfl) 0 1 (g := bA) (m := M) (cap := c5) (kk := 8) (te := 38) (l := pgRows (p0 :: pt) (Value.slice A6 n0 c6 :: xs) (Value.slice B0 m0 d0 :: vs')) (r := [.string p0.name, .slice A6 n0 c6, Vi p0.skip.op, Vi p0.skip.k, Vi p0.skip.n, .string p0.skip.s, .string p0.skip.nm, .slice B0 m0 d0]) (fun gh => .slice (sA (gh 13)) (sN (gh 13)) (sC (gh 13))) (fun _ => by kernel_rfl) (fun _ => by kernel_rfl) 31 (.tmp 111) (.tmp 109) (by kernel_rfl) (fun _ => by kernel_rfl) (fun _ => by kernel_rfl) (hrow0) (fun _ => by kernel_rfl)) ?_
          trivial
        rintro b37 v109 W38 S39 ⟨f36, -⟩
        replace f36 : Cells W38 b37 0 [.string s] := f36
        refine g_fact f36 ?_
        refine go0 6 [.b 2 0] [] ?_
        refine g_freeze 0 (v := Vs bA M c5) (e := 38) (kk := 8) (l := (pgRows (p0 :: pt) (Value.slice A6 n0 c6 :: xs) (Value.slice B0 m0 d0 :: vs')).set 0 [.string p0.name, .slice (sA v109) (sN v109) (sC v109), Vi p0.skip.op, Vi p0.skip.k, Vi p0.skip.n, .string p0.skip.s, .string p0.skip.nm, .slice B0 m0 d0]) ?_; intro W40 S41 fP
        refine g_freeze 0 (v := .slice (sA v109) (sN v109) (sC v109)) (e := 9) (kk := 1) (l := (strRows p0.fields) ++ [[.string s]]) ?_; intro W42 S43 fS
        obtain ⟨t, pt', jj, g1, g2, g3, g4⟩ := hdu (a + 1) p s hpk' hs
        have hsf := hhe p (List.mem_of_getElem? hpk') s (List.mem_of_getElem? hs)
        refine go0 6 [.cl 5 #[Vs bA M c5, .slice A N c] (Vi 6)] [] ?_ (ho := (And.intro (fun H sH => hD _ _ _ s hsf t pt' jj g1 g2 g3 g4 ⟨.slice (sA v109) (sN v109) (sC v109) :: xs, Value.slice B0 m0 d0 :: vs', (fP.sees (S43.trans sH)), ⟨.slice (sA v109) (sN v109) (sC v109), xs, rfl, (by have := (fS.sees sH); unfold strRows; rw [List.map_append]; exact this), (hxs.sees (S39.trans (S41.trans (S43.trans sH))))⟩, (hvs.sees (S39.trans (S41.trans (S43.trans sH))))⟩ ((hf.sees (S5.trans (S7.trans (S9.trans (S26.trans (S39.trans (S41.trans (S43.trans sH))))))))).fields) (trivial)))
        refine hQ.to [.bool true] (fun H sH => ?_)
        exact rfl

theorem pageOnce_walk (v : Value) (l : List RawD) (i : Int) (w : World) (h : RawsOf w v l) (i0 : -9223372036854775808 ≤ i) (i1 : i ≤ 9223372036854775807) :
    Calls Try.prog 3 #[v, .int .i64 i] w fun e w' => e = .returned (.bool true) ∧ Below w.heap.size w w' :=
  C0.law (pageOnce_c l v i ⟨w, []⟩ h.rs h.2.1 h.2.2 i0 i1)

namespace pageOnceLaw
open Go.ChangeShapes Go.WideShapes Go.ChangeAt Go.RowKit
open Go.ChangeMaps (open_string shut_string)
set_option linter.unusedVariables false

set_option maxRecDepth 100000 in
theorem lifted (os : Os) (started : os.Started) (H : Type) (enc : TypeId × Value → H) :
    ReturnsInHanded {} Try.checked os 3 .any (Rows.pageOnceSpec.pre6 enc Try.prog Try.f3 Rows.pageOnceRow.domain false) (Rows.pageOnceSpec.post enc Try.prog Try.f3 false true false false) := by
  refine returnsInHanded_of_change_sized (C := Try.checked) ownNone started (by kernel_rfl) Try.func3
    (ChangeSpec.witness6 (enc := enc) (C := Try.checked) false ⟨#[], #[.slice none 0 0, .int .i64 0], []⟩ 8 (by kernel_rfl) (by kernel_rfl) (by kernel_rfl) (by kernel_rfl)) ?_
  intro W base args ds gs before hval0 hW hcnd hsz0 _
  have hval : ∀ (j : Nat) t v, Try.f3.params[j]? = some t → args[j]? = some v → Value.okWide Try.prog W .any base t v := hval0
  have hsz : (DataW.weightsEach Try.prog (Try.f3.params.toList ++ Rows.pageOnceSpec.plain.varTypes Try.prog) (ds ++ gs)).all (· ≤ reachBytes) = true := hsz0
  have hW' := hW
  obtain ⟨p, q, hA0, hV, rfl, hfz, hnd⟩ := hW
  have hA : DataW.TrodAll enc Try.prog W 0 (fun _ => true) true Try.f3.params.toList args.toList ds p := hA0
  rw [Try.params3] at hA hval hsz
  obtain ⟨v0, vs0, d0, ds0, p0, q0, hargs, rfl, rfl, h0, r0⟩ := trodAll_cons hA
  obtain ⟨v1, vs1, d1, ds1, p1, q1, rfl, rfl, rfl, h1, r1⟩ := trodAll_cons r0
  obtain ⟨rfl, rfl, rfl⟩ := trodAll_nil r1
  obtain rfl : args = #[v0, v1] := by cases args; simp_all
  obtain ⟨rfl, rfl⟩ := trodVars_none hV
  have k0 := h0
  have lt0 : ∀ x ∈ p0, x.block < W.heap.size := by obtain ⟨m, hm⟩ := k0; exact DataW.trod_lt m _ _ _ hm
  obtain ⟨a0, w0⟩ := open_rows (hval 0 22 v0 rfl rfl) h0 (fun es ss hd => sized_slice hsz (j := 0) (t := 22) (elems := es) (spare := ss) rfl (by rw [hd]; rfl) Try.underlying22)
  have k1 := h1
  have lt1 : ∀ x ∈ p1, x.block < W.heap.size := by obtain ⟨m, hm⟩ := k1; exact DataW.trod_lt m _ _ _ hm
  obtain ⟨a1, rfl, -, -, w1⟩ := open_int Try.underlying3 (hval 1 3 v1 rfl rfl) h1
  clear hA0 hval0 hsz0
  refine (pageOnce_walk v0 a0 a1 W w0 (int_lo w1) (int_hi w1)).mono fun e W' ⟨he, bel⟩ => ?_
  subst he
  exact ⟨_, rfl, _, _, _, [], _, [], hW', trodAll_mk1 (shut_bool Try.underlying4 _), (trodAll_cons_mk (Below.trod laidOutTrue (by kernel_rfl) (of_decide_eq_true (by kernel_rfl)) k0 bel lt0) (trodAll_cons_mk (Below.trod laidOutTrue (by kernel_rfl) (of_decide_eq_true (by kernel_rfl)) k1 bel lt1) trodAll_mk0)), rfl, bel.frame _, fun h => by cases h⟩

theorem over : Rows.pageOnceRow.holds Try.pinned (OpenSpec.ofChange Rows.pageOnceSpec) :=
  OpenClaim.holds_of_wide 3 Try.f3 rfl rfl rfl rfl rfl rfl rfl ⟨rfl, rfl, rfl, rfl, rfl⟩ rfl rfl rfl rfl rfl (by kernel_rfl) Try.func3 (by kernel_rfl)
    (of_decide_eq_true (by kernel_rfl)) (by unfold Func.isWrapper; first | (rw [if_pos (by decide +kernel)]; kernel_rfl) | (rw [if_neg (by decide +kernel)]; exact ⟨rfl, rfl⟩))
    (fun os started H enc _ => lifted os started H enc)

end pageOnceLaw
theorem pageOnce_holds : Rows.PageOnceSaid := pageOnceLaw.over
#print axioms pageOnce_holds
end Go.Proofs.Ythgcgciceejicaa
