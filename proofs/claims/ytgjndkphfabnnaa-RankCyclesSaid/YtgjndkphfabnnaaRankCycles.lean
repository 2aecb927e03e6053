/-
  For all raw things and numbers RankCycles returns true.
-/
import Derived.Test.YtgjndkphfabnnaaCyc
import Derived.Test.YtgjndkphfabnnaaNmH
import Derived.Test.YtgjndkphfabnnaaLawX
namespace Go.Proofs.Ytgjndkphfabnnaa
open Go.RowKit
set_option linter.unusedVariables false

theorem ring_src {h : Vw} {L : List Fd} {vs : List Value} (m : Nat) (k0 : AllSrc h L vs) : ∀ k, AllSrc h (L ++ ringL m k) (vs ++ List.replicate k Vz)
  | 0 => by simpa [ringL] using k0
  | k + 1 => by
    rw [ringL_snoc, List.replicate_succ', ← List.append_assoc, ← List.append_assoc]
    exact AllSrc.snoc (ring_src m k0 k) (args_nil _ _ rfl)
theorem ring_rows {L : List Fd} {vs : List Value} (m k : Nat) (hl : vs.length = L.length) : fdRows (L ++ ringL m (k + 1)) (vs ++ List.replicate (k + 1) Vz) = fdRows (L ++ ringL m k) (vs ++ List.replicate k Vz) ++ [fdRow (ringF m k) (.slice none 0 0)] := by
  rw [ringL_snoc, List.replicate_succ', ← List.append_assoc, ← List.append_assoc]
  exact fdRows_snoc (by simp [ringL, hl])

set_option maxHeartbeats 4000000 in
set_option maxRecDepth 100000 in
theorem rankCycles_c (l : List RawD) (sl : Value) (wh : Int) (h : Vw) (hl : RS h 4 sl (l.map RawD.cs)) (ll : l.length * 40 ≤ reachBytes) (ol : ∀ r ∈ l, r.ok) (w0 : -9223372036854775808 ≤ wh) (w1 : wh ≤ 9223372036854775807) :
    C0 Try.prog 11 #[sl, .int .i64 wh] h (fun v _ => v = .bool true) := by
  have hF := fun H q => form_o l sl H q ll ol
  have hn := nFields_le l
  have q0 := pickL_lo wh 4 (by omega)
  have q1 := pickL_hi wh 4 (by omega)
  have hpk := fun H => c_picked wh 4 H w0 w1 (by omega) (by omega)
  obtain ⟨m, hm⟩ : ∃ m : Nat, 1 + pickL wh 4 = m := ⟨(1 + pickL wh 4).toNat, by omega⟩
  have m1 : 1 ≤ m := by omega
  have m4 : m ≤ 4 := by omega
  generalize pickL wh 4 = pw at *
  have hRC := fun H v q => rankOf_cyc l m m1 m4 v H q
  have hfl := form_len l
  have hcl := fsC_len (l := l) (m := m)
  have hok := fsC_ok (l := l) m1 m4
  have hget := fun j (hj : j < m) => fsC_new (l := l) hj
  have hFi := fun j (hj : j < m) H v q => find_yes (fsC l m) v (rname j) (nFields l + j) H q (by omega) (findF_at (f := ringF m j) hok.nodup (hget j hj))
  have hrg : ∀ H b, Cells H b 0 [.string ⟨#[114, 49]⟩, .string ⟨#[114, 50]⟩, .string ⟨#[114, 51]⟩, .string ⟨#[114, 52]⟩] → RS H 1 (.slice (some ⟨b, 0, none⟩) m 4) (strRows ((List.range m).map rname)) := fun H b c => by
    have k := rs_cells (k := 1) (strRows [⟨#[114, 49]⟩, ⟨#[114, 50]⟩, ⟨#[114, 51]⟩, ⟨#[114, 52]⟩]) (fun r hr => by obtain ⟨x, -, rfl⟩ := List.mem_map.1 hr; rfl) (show (4 : Nat) ≤ maxLen by decide) c
    have k := k.take m m4
    have e : (strRows [⟨#[114, 49]⟩, ⟨#[114, 50]⟩, ⟨#[114, 51]⟩, ⟨#[114, 52]⟩]).take m = strRows ((List.range m).map rname) := by
      have : m = 1 ∨ m = 2 ∨ m = 3 ∨ m = 4 := by omega
      rcases this with rfl | rfl | rfl | rfl <;> rfl
    rw [e] at k; exact k
  have hra : ∀ j, j < m → (strRows ((List.range m).map rname))[j]? = some [.string (rname j)] := fun j hj => by
    show (List.map _ _)[j]? = _
    rw [List.getElem?_map, List.getElem?_map, List.getElem?_range hj]; rfl
  obtain ⟨A1, cap1, rfl, -, -, -⟩ := hl.form
  rw [List.length_map] at *
  generalize l.length = n1 at *
  refine x_con Try.func11 (c := Try.f11.body.getD .skip) (by kernel_rfl) (N := 103) rfl (by kernel_rfl) ?_
  intro hbx hbad Q hQ a w hJ
  replace hJ : K ⟨103, h.w, h.bad, []⟩ [(0, .slice A1 n1 cap1), (1, Vi wh)] [] [] h a w := hJ.to (by kernel_rfl) (by kernel_rfl) rfl
  refine rx hJ false 8 [] [] (.ok (.ops [0, 1] 1) [.seq [1, 1]] [(1, Vi wh), (4, .bool false), (16, .slice A1 n1 cap1)] [] []) trivial trivial (fun _ => by kernel_rfl) ?_
  clear hJ a w; intro a w hJ
  refine x_callown (e := 40) (kk := 9) hJ 17 (hF _ (hl.sees hJ.j.sees)) (fun _ => by kernel_rfl) ?_; clear hJ a w; rintro _ ur _ h1 a w s2 ⟨u2, vs, rfl, rfl, hsrc, hpg⟩ hJ
  refine rx hJ true 10 [.fix, .cl 16 #[Vi wh, Vi 4] (Vi pw)] [(22, Vi (IntKind.i64.wrap (1 + pw)), Vi (m : Int))] (.new fun bfg => .ok (.ops [0, 1, 1] 4) [.seq [1, 1, 1]] [(4, .bool false), (5, ur), (19, Vs bfg 4 4), (22, Vi (m : Int))] [.row ur 40 9 (fdRows (formE l).fields vs)] [(bfg, 0, [.string ⟨#[114, 49]⟩, .string ⟨#[114, 50]⟩, .string ⟨#[114, 51]⟩, .string ⟨#[114, 52]⟩])]) (And.intro (fun H sH => hpk _) (trivial)) (And.intro (by rw [← hm]; exact i64_wrap (by omega) (by omega)) (trivial)) (fun bfg _ => by kernel_rfl) ?_
  clear hJ a w; intro bfg h3 a w s4 hJ
  have fg : Cells h3 bfg 0 [.string ⟨#[114, 49]⟩, .string ⟨#[114, 50]⟩, .string ⟨#[114, 51]⟩, .string ⟨#[114, 52]⟩] := hJ.f _ (List.mem_of_getElem? (i := 0) rfl)
  refine x_pure hJ 23 (Vs bfg m 4) (by kernel_rfl) (fun w => run_hi (t := 32) (e := 9) (x := (.tmp 19)) (y := (.tmp 22)) (A := (some ⟨bfg, 0, none⟩)) (n := 4) (cap := 4) (k := m) (kk := 1) (by kernel_rfl) (by kernel_rfl) (by kernel_rfl) (by omega) Try.underlying32 (by kernel_rfl)) ?_; clear hJ a w; intro a w hJ
  refine rx hJ false 12 [] [] (.ok (.code [0, 1, 0, 1, 1, 1]) [.block 0, .seq [1, 1, 1, 1]] [(4, .bool false), (5, ur), (6, Vs bfg m 4), (24, Vs bfg m 4), (25, Vi (m : Int)), (26, Vi 0)] [.row ur 40 9 (fdRows (formE l).fields vs)] [(bfg, 0, [.string ⟨#[114, 49]⟩, .string ⟨#[114, 50]⟩, .string ⟨#[114, 51]⟩, .string ⟨#[114, 52]⟩])]) trivial trivial (fun _ => by kernel_rfl) ?_
  clear hJ a w; intro a w hJ
  have hR := hrg _ _ fg
  have hvl := hsrc.len
  have hok' : (formE l).fields.length = nFields l := hfl
  have e0 : fdRows (formE l).fields vs = fdRows ((formE l).fields ++ ringL m 0) (vs ++ List.replicate 0 Vz) := by simp [ringL]
  rw [e0] at hJ
  refine x_loop (fun (k : Nat) a w => ∃ (h5 : Vw) (v : Value), K ⟨103, h.w, h.bad, []⟩ [(4, .bool false), (6, Vs bfg m 4), (24, Vs bfg m 4), (25, Vi (m : Int)), (26, Vi (k : Int)), (5, v)] [.row v 40 9 (fdRows ((formE l).fields ++ ringL m k) (vs ++ List.replicate k (Vz)))] [(bfg, 0, [.string ⟨#[114, 49]⟩, .string ⟨#[114, 50]⟩, .string ⟨#[114, 51]⟩, .string ⟨#[114, 52]⟩])] h5 a w ∧ Sees h3 h5 ∧ (k ≤ m)) (fun k => m - k) (0) (by kernel_rfl) ⟨h3, ur, hJ.to (by kernel_rfl) (by kernel_rfl) rfl, Sees.refl _, Nat.zero_le _⟩ ?_
  clear hJ a w; rintro k a w ⟨h5, v, hJ, s6, hk⟩
  refine rx hJ false 6 [] [] (.ok (.code [0, 1, 0, 0, 1, 0, 1, 1, 1]) [.seq [1, 1, 0, 0, 1, 0, 1, 1, 1]] [(4, .bool false), (6, Vs bfg m 4), (24, Vs bfg m 4), (25, Vi (m : Int)), (26, Vi (k : Int)), (5, v), (27, .bool (decide ((k : Int) < (m : Int))))] [.row v 40 9 (fdRows ((formE l).fields ++ ringL m k) (vs ++ List.replicate k (Vz)))] [(bfg, 0, [.string ⟨#[114, 49]⟩, .string ⟨#[114, 50]⟩, .string ⟨#[114, 51]⟩, .string ⟨#[114, 52]⟩])]) trivial trivial (fun _ => by kernel_rfl) ?_
  clear hJ a w; intro a w hJ
  rcases (by omega : k < m ∨ k = m) with hlt | hke
  · have hk1 := Nat.mod_lt (k + 1) (show 0 < m by omega)
    have ha := hra k hlt
    have hb := hra _ hk1
    have hst := ring_rows (L := (formE l).fields) (vs := vs) m k hvl
    have hrl : (fdRows ((formE l).fields ++ ringL m k) (vs ++ List.replicate k Vz)).length ≤ 100 := by
      rw [fdRows_len (by rw [List.length_append, List.length_append, List.length_replicate, hvl]; simp [ringL]), List.length_append, hfl]
      simp only [ringL, List.length_map, List.length_range]; omega
    have hx1 : (ringL m k).length = k := by simp [ringL]
    refine x_true hJ (t := decide ((k : Int) < (m : Int))) (by kernel_rfl) (decide_eq_true (by omega)) ?_
    refine rx hJ false 7 [] [] (.ok (.ops [0, 0, 0, 1, 1, 0, 0, 1, 0, 1, 1, 1] 1) [.seq [1, 0, 0, 1, 1, 0, 0, 1, 0, 1, 1, 1], .block 1, .seq [1, 1, 1, 0, 0, 1, 0, 1, 1, 1]] [(4, .bool false), (6, Vs bfg m 4), (24, Vs bfg m 4), (25, Vi (m : Int)), (26, Vi (k : Int)), (5, v), (27, .bool (decide ((k : Int) < (m : Int)))), (28, Vi (k : Int))] [.row v 40 9 (fdRows ((formE l).fields ++ ringL m k) (vs ++ List.replicate k (Vz)))] [(bfg, 0, [.string ⟨#[114, 49]⟩, .string ⟨#[114, 50]⟩, .string ⟨#[114, 51]⟩, .string ⟨#[114, 52]⟩])]) trivial trivial (fun _ => by kernel_rfl) ?_
    clear hJ a w; intro a w hJ
    have c7 := RS.cell hR (ha)
    replace hJ := hJ.fact (c7.sees s6)
    refine rx hJ false 14 [.ix bfg 0 m 4 k, .f 0 0] [(35, Vi (IntKind.i64.wrap ((k : Int) + 1)), Vi ((k : Int) + 1))] (.ok (.ops [1, 0, 0, 1, 1, 0, 0, 1, 0, 1, 1, 1] 7) [.block 1, .seq [1, 1, 1, 0, 0, 1, 0, 1, 1, 1]] [(4, .bool false), (6, Vs bfg m 4), (24, Vs bfg m 4), (25, Vi (m : Int)), (26, Vi (k : Int)), (5, v), (27, .bool (decide ((k : Int) < (m : Int)))), (28, Vi (k : Int)), (29, .pointer (some ⟨bfg, 0 + k * 1, none⟩)), (30, .string (rname k)), (7, Vi (k : Int)), (8, .string (rname k)), (31, v), (32, .string (rname k)), (33, Vs bfg m 4), (34, Vi (k : Int)), (35, Vi ((k : Int) + 1)), (36, Vs bfg m 4), (37, Vi (m : Int))] [.row v 40 9 (fdRows ((formE l).fields ++ ringL m k) (vs ++ List.replicate k (Vz)))] [(bfg, 0 + k * 1, [.string (rname k)]), (bfg, 0, [.string ⟨#[114, 49]⟩, .string ⟨#[114, 50]⟩, .string ⟨#[114, 51]⟩, .string ⟨#[114, 52]⟩])]) (And.intro (by first | omega | (simp; omega)) (trivial)) (And.intro (i64_wrap (by omega) (by omega)) (trivial)) (fun _ => by kernel_rfl) ?_
    clear hJ a w; intro a w hJ
    refine x_pure hJ 38 (Vi (((k : Int) + 1) % (m : Int))) (by kernel_rfl) (fun w => run_bin (op := .rem) (t := 3) (x := (.tmp 35)) (y := (.tmp 37)) (yt := 3) (by kernel_rfl) (by kernel_rfl) (by kernel_rfl) (by kernel_rfl) (run_rem ((k : Int) + 1) (m : Int) w (by omega) (by omega))) ?_; clear hJ a w; intro a w hJ
    have c8 := RS.cell hR (hb)
    replace hJ := hJ.fact (c8.sees s6)
    refine rx hJ true 5 [.ix bfg 0 m 4 ((k + 1) % m), .f 0 0, .fix] [] (.new fun b9 => .ok (.ops [1, 0, 0, 1, 1, 0, 0, 1, 0, 1, 1, 1] 13) [.block 1, .seq [1, 1, 1, 0, 0, 1, 0, 1, 1, 1]] [(4, .bool false), (6, Vs bfg m 4), (24, Vs bfg m 4), (25, Vi (m : Int)), (26, Vi (k : Int)), (5, v), (27, .bool (decide ((k : Int) < (m : Int)))), (28, Vi (k : Int)), (29, .pointer (some ⟨bfg, 0 + k * 1, none⟩)), (30, .string (rname k)), (7, Vi (k : Int)), (8, .string (rname k)), (31, v), (32, .string (rname k)), (33, Vs bfg m 4), (34, Vi (k : Int)), (35, Vi ((k : Int) + 1)), (36, Vs bfg m 4), (37, Vi (m : Int)), (38, Vi (((k : Int) + 1) % (m : Int))), (39, .pointer (some ⟨bfg, 0 + ((k + 1) % m) * 1, none⟩)), (40, .string (rname ((k + 1) % m))), (41, .agg #[Vi 2, Vi 0, Vi 0, Ve, .string (rname ((k + 1) % m)), Vz]), (42, .agg #[.string (rname k), Vi 2, Vi 1, Vi 2, Vi 0, Vi 0, Ve, .string (rname ((k + 1) % m)), Vz]), (43, Vs b9 1 1)] [.row v 40 9 (fdRows ((formE l).fields ++ ringL m k) (vs ++ List.replicate k (Vz)))] [(b9, 0, [.string (rname k), Vi 2, Vi 1, Vi 2, Vi 0, Vi 0, Ve, .string (rname ((k + 1) % m)), Vz]), (bfg, 0 + ((k + 1) % m) * 1, [.string (rname ((k + 1) % m))]), (bfg, 0 + k * 1, [.string (rname k)]), (bfg, 0, [.string ⟨#[114, 49]⟩, .string ⟨#[114, 50]⟩, .string ⟨#[114, 51]⟩, .string ⟨#[114, 52]⟩])]) (And.intro (by first | omega | (simp; omega)) (trivial)) trivial (fun b9 _ => by kernel_rfl) ?_
    clear hJ a w; intro b9 h10 a w s11 hJ
    refine rx hJ true 9 [.ap 0 0 (fdRows ((formE l).fields ++ ringL m k) (vs ++ List.replicate k (Vz))) [[.string (rname k), Vi 2, Vi 1, Vi 2, Vi 0, Vi 0, Ve, .string (rname ((k + 1) % m)), Vz]]] [(45, Vi (IntKind.i64.wrap ((k : Int) + 1)), Vi ((k : Int) + 1))] (.nv fun v44 => .ok (.out .normal) [] [(4, .bool false), (6, Vs bfg m 4), (24, Vs bfg m 4), (25, Vi (m : Int)), (27, .bool (decide ((k : Int) < (m : Int)))), (28, Vi (k : Int)), (29, .pointer (some ⟨bfg, 0 + k * 1, none⟩)), (30, .string (rname k)), (7, Vi (k : Int)), (8, .string (rname k)), (31, v), (32, .string (rname k)), (33, Vs bfg m 4), (34, Vi (k : Int)), (35, Vi ((k : Int) + 1)), (36, Vs bfg m 4), (37, Vi (m : Int)), (38, Vi (((k : Int) + 1) % (m : Int))), (39, .pointer (some ⟨bfg, 0 + ((k + 1) % m) * 1, none⟩)), (40, .string (rname ((k + 1) % m))), (41, .agg #[Vi 2, Vi 0, Vi 0, Ve, .string (rname ((k + 1) % m)), Vz]), (42, .agg #[.string (rname k), Vi 2, Vi 1, Vi 2, Vi 0, Vi 0, Ve, .string (rname ((k + 1) % m)), Vz]), (43, Vs b9 1 1), (44, .slice (sA v44) (sN v44) (sC v44)), (5, .slice (sA v44) (sN v44) (sC v44)), (45, Vi ((k : Int) + 1)), (26, Vi ((k : Int) + 1))] [.row (.slice (sA v44) (sN v44) (sC v44)) 40 9 ((fdRows ((formE l).fields ++ ringL m k) (vs ++ List.replicate k (Vz))) ++ [[.string (rname k), Vi 2, Vi 1, Vi 2, Vi 0, Vi 0, Ve, .string (rname ((k + 1) % m)), Vz]])] [(b9, 0, [.string (rname k), Vi 2, Vi 1, Vi 2, Vi 0, Vi 0, Ve, .string (rname ((k + 1) % m)), Vz]), (bfg, 0 + ((k + 1) % m) * 1, [.string (rname ((k + 1) % m))]), (bfg, 0 + k * 1, [.string (rname k)]), (bfg, 0, [.string ⟨#[114, 49]⟩, .string ⟨#[114, 50]⟩, .string ⟨#[114, 51]⟩, .string ⟨#[114, 52]⟩])]) (And.intro (by constructor <;> (simp; omega)) (trivial)) (And.intro (i64_wrap (by omega) (by omega)) (trivial)) (fun v44 _ => by kernel_rfl) ?_
    clear hJ a w; intro v44 h12 a w s13 hJ
    exact x_round ⟨k + 1, ⟨h12, .slice (sA v44) (sN v44) (sC v44), (hJ.tof [3] (F' := [(bfg, 0, [.string ⟨#[114, 49]⟩, .string ⟨#[114, 50]⟩, .string ⟨#[114, 51]⟩, .string ⟨#[114, 52]⟩])]) (by kernel_rfl)).to (by kernel_rfl) (by rw [hst]; rfl) rfl, (s6.trans (s11.trans s13)), by omega⟩, by omega⟩
  · skip
    rw [hke] at hJ
    have hsr := ring_src m hsrc m
    refine x_false hJ (t := decide ((m : Int) < (m : Int))) (by kernel_rfl) (decide_eq_false (by omega)) ?_
    refine rx hJ false 2 [] [] (.ok (.out (.exit 0)) [] [(4, .bool false), (6, Vs bfg m 4), (24, Vs bfg m 4), (25, Vi (m : Int)), (26, Vi (m : Int)), (5, v), (27, .bool (decide ((m : Int) < (m : Int))))] [.row v 40 9 (fdRows (fsC l m) (vs ++ List.replicate m (Vz)))] [(bfg, 0, [.string ⟨#[114, 49]⟩, .string ⟨#[114, 50]⟩, .string ⟨#[114, 51]⟩, .string ⟨#[114, 52]⟩])]) trivial trivial (fun _ => by kernel_rfl) ?_
    clear hJ a w; intro a w hJ
    refine x_leave rfl ?_
    refine rx hJ false 5 [] [] (.ok (.ops [0, 1, 1, 1, 1] 1) [.seq [1, 1, 1, 1, 1]] [(4, .bool false), (6, Vs bfg m 4), (5, v), (47, v)] [.row v 40 9 (fdRows (fsC l m) (vs ++ List.replicate m (Vz)))] [(bfg, 0, [.string ⟨#[114, 49]⟩, .string ⟨#[114, 50]⟩, .string ⟨#[114, 51]⟩, .string ⟨#[114, 52]⟩])]) trivial trivial (fun _ => by kernel_rfl) ?_
    clear hJ a w; intro a w hJ
    have hrl : (fdRows (fsC l m) (vs ++ List.replicate m Vz)).length = nFields l + m := by
      rw [fdRows_len (by rw [hcl, List.length_append, List.length_replicate, hvl, hfl]), hcl]
    obtain ⟨Av, cv, hE_v, hc_v, hm_v⟩ := hJ.form (v := v) (e := 40) (k := 9) (l := fdRows (fsC l m) (vs ++ List.replicate m (Vz))) 0 (by kernel_rfl)
    rw [show (fdRows (fsC l m) (vs ++ List.replicate m (Vz))).length = (nFields l + m) from by first | omega | (simp; done) | (simp; omega)] at hE_v hc_v
    rw [hE_v] at hJ
    obtain ⟨h14, s15, fr, hJn⟩ := hJ.frozen (v := .slice Av (nFields l + m) cv) (e := 40) (k := 9) (l := fdRows (fsC l m) (vs ++ List.replicate m (Vz))) 0 (by kernel_rfl) (hJ.j.rowOut0 (v := .slice Av (nFields l + m) cv) (e := 40) (k := 9) (l := fdRows (fsC l m) (vs ++ List.replicate m (Vz))) 0 (by kernel_rfl) rfl); clear hJ; have hJ := hJn; clear hJn
    refine x_call hJ 48 (hRC _ _ ⟨_, (fr.sees hJ.j.sees), (hsr.sees (s4.trans (s6.trans (s15.trans hJ.j.sees))))⟩) (fun _ => by kernel_rfl) ?_; clear hJ a w; rintro _ h16 a w s17 ⟨Ac, cc, rfl, hrc⟩ hJ
    refine rx hJ false 12 [] [] (.ok (.ops [0, 0, 1, 1, 1, 1, 1] 0) [.seq [1, 0, 1, 1, 1, 1, 1], .seq [1, 1, 1, 1, 1, 1]] [(4, .bool false), (6, Vs bfg m 4), (5, .slice Av (nFields l + m) cv), (9, Vz), (10, .slice Ac m cc), (11, Vi 10)] [] [(bfg, 0, [.string ⟨#[114, 49]⟩, .string ⟨#[114, 50]⟩, .string ⟨#[114, 51]⟩, .string ⟨#[114, 52]⟩])]) trivial trivial (fun _ => by kernel_rfl) ?_
    clear hJ a w; intro a w hJ
    refine rx hJ false 32 [.cl 43 #[] (.bool true)] [(68, .bool ((m : Int) != (m : Int)), .bool false)] (.ok (.code [0, 1, 0, 1, 1, 1, 1, 1, 1]) [.block 2, .seq [1, 1, 1, 1, 1, 1, 1]] [(4, .bool false), (5, .slice Av (nFields l + m) cv), (10, .slice Ac m cc), (70, .slice Ac m cc), (71, Vi (m : Int)), (72, Vi 0)] [] [(bfg, 0, [.string ⟨#[114, 49]⟩, .string ⟨#[114, 50]⟩, .string ⟨#[114, 51]⟩, .string ⟨#[114, 52]⟩])]) (And.intro (fun H sH => ranked_any _) (trivial)) (And.intro (congrArg Value.bool (by simp)) (trivial)) (fun _ => by kernel_rfl) ?_
    clear hJ a w; intro a w hJ
    refine x_loop (fun (i : Nat) a w => ∃ (h18 : Vw) , K ⟨103, h.w, h.bad, []⟩ [(5, .slice Av (nFields l + m) cv), (10, .slice Ac m cc), (70, .slice Ac m cc), (71, Vi (m : Int)), (72, Vi (i : Int))] [] [(bfg, 0, [.string ⟨#[114, 49]⟩, .string ⟨#[114, 50]⟩, .string ⟨#[114, 51]⟩, .string ⟨#[114, 52]⟩])] h18 a w ∧ Sees h16 h18 ∧ (i ≤ m)) (fun i => m - i) (0) (by kernel_rfl) ⟨h16, hJ.to (by kernel_rfl) (by kernel_rfl) rfl, Sees.refl _, Nat.zero_le _⟩ ?_
    clear hJ a w; rintro i a w ⟨h18, hJ, s19, hi⟩
    refine rx hJ false 6 [] [] (.ok (.code [0, 1, 0, 0, 1, 0, 1, 1, 1, 1, 1, 1]) [.seq [1, 1, 0, 0, 1, 0, 1, 1, 1, 1, 1, 1]] [(5, .slice Av (nFields l + m) cv), (10, .slice Ac m cc), (70, .slice Ac m cc), (71, Vi (m : Int)), (72, Vi (i : Int)), (73, .bool (decide ((i : Int) < (m : Int))))] [] [(bfg, 0, [.string ⟨#[114, 49]⟩, .string ⟨#[114, 50]⟩, .string ⟨#[114, 51]⟩, .string ⟨#[114, 52]⟩])]) trivial trivial (fun _ => by kernel_rfl) ?_
    clear hJ a w; intro a w hJ
    rcases (by omega : i < m ∨ i = m) with hil | hie
    · have hk1 := Nat.mod_lt (i + 1) (show 0 < m by omega)
      have ha := hra i hil
      have hb := hra _ hk1
      have hx := hget i hil
      have hu : (vs ++ List.replicate m Vz)[nFields l + i]? = some (.slice none 0 0) := by
        rw [List.getElem?_append_right (by omega), List.getElem?_replicate, if_pos (by omega)]
      have hrow := fdRows_get hx hu
      have hFx := hFi i hil
      have hHas := fun H => has_any (refE (rname ((i + 1) % m))) (.slice none 0 0) H (args_nil _ _ rfl) (wf_leaf (refE_ok (rname_ok (by omega))) rfl).1 (rname ((i + 1) % m))
      rw [hasE_yes (by rw [ring_ref]; exact List.mem_singleton.2 rfl)] at hHas
      refine x_true hJ (t := decide ((i : Int) < (m : Int))) (by kernel_rfl) (decide_eq_true (by omega)) ?_
      refine rx hJ false 7 [] [] (.ok (.ops [0, 0, 0, 1, 1, 0, 0, 1, 0, 1, 1, 1, 1, 1, 1] 1) [.seq [1, 0, 0, 1, 1, 0, 0, 1, 0, 1, 1, 1, 1, 1, 1], .block 3, .seq [1, 1, 1, 0, 0, 1, 0, 1, 1, 1, 1, 1, 1]] [(5, .slice Av (nFields l + m) cv), (10, .slice Ac m cc), (70, .slice Ac m cc), (71, Vi (m : Int)), (72, Vi (i : Int)), (73, .bool (decide ((i : Int) < (m : Int)))), (74, Vi (i : Int))] [] [(bfg, 0, [.string ⟨#[114, 49]⟩, .string ⟨#[114, 50]⟩, .string ⟨#[114, 51]⟩, .string ⟨#[114, 52]⟩])]) trivial trivial (fun _ => by kernel_rfl) ?_
      clear hJ a w; intro a w hJ
      obtain ⟨b20, o21, rfl, -, c22⟩ := RS.row hrc (ha)
      replace hJ := hJ.fact (c22.sees s19)
      refine rx hJ false 19 [.ix b20 o21 m cc i, .f 0 0, .cl 44 #[.slice Av (nFields l + m) cv, .string (rname i)] (.tuple #[Vi ((nFields l + i : Nat) : Int), Vi 0])] [] (.ok (.code [0, 1, 1, 0, 0, 1, 1, 0, 0, 1, 0, 1, 1, 1, 1, 1, 1]) [.seq [1, 1, 1, 0, 0, 1, 1, 0, 0, 1, 0, 1, 1, 1, 1, 1, 1], .block 3, .seq [1, 1, 1, 0, 0, 1, 0, 1, 1, 1, 1, 1, 1]] [(5, .slice Av (nFields l + m) cv), (10, .slice (some ⟨b20, o21, none⟩) m cc), (70, .slice (some ⟨b20, o21, none⟩) m cc), (71, Vi (m : Int)), (72, Vi (i : Int)), (73, .bool (decide ((i : Int) < (m : Int)))), (74, Vi (i : Int)), (75, .pointer (some ⟨b20, o21 + i * 1, none⟩)), (76, .string (rname i)), (12, Vi (i : Int)), (13, .string (rname i)), (78, .slice Av (nFields l + m) cv), (79, .string (rname i)), (80, .tuple #[Vi ((nFields l + i : Nat) : Int), Vi 0]), (77, .tuple #[Vi ((nFields l + i : Nat) : Int), Vi 0]), (81, Vi ((nFields l + i : Nat) : Int)), (82, Vi 0), (14, Vi ((nFields l + i : Nat) : Int)), (15, Vi 0)] [] [(b20, o21 + i * 1, [.string (rname i)]), (bfg, 0, [.string ⟨#[114, 49]⟩, .string ⟨#[114, 50]⟩, .string ⟨#[114, 51]⟩, .string ⟨#[114, 52]⟩])]) (And.intro (by first | omega | (simp; omega)) (And.intro (fun H sH => hFx _ _ ⟨_, (fr.sees (s17.trans (s19.trans sH))), (hsr.sees (s4.trans (s6.trans (s15.trans (s17.trans (s19.trans sH))))))⟩) (trivial))) trivial (fun _ => by kernel_rfl) ?_
      clear hJ a w; intro a w hJ
      obtain ⟨b23, o24, rfl, -, c25⟩ := RS.row fr (hrow)
      replace hJ := hJ.fact (c25.sees (s17.trans s19))
      have c26 := RS.cell hrc (hb)
      replace hJ := hJ.fact (c26.sees s19)
      let R : Reg := ⟨⟨103, h.w, h.bad, []⟩, [(0, 83, fun gh => Vi 0), (1, 84, fun gh => .bool false), (2, 85, fun gh => .bool false), (3, 86, fun gh => .slice (some ⟨b23, o24, none⟩) (nFields l + m) cv), (4, 87, fun gh => Vi ((nFields l + i : Nat) : Int)), (5, 88, fun gh => .pointer (some ⟨b23, o24 + (nFields l + i) * 9, none⟩)), (6, 89, fun gh => .pointer (some ⟨b23, o24 + (nFields l + i) * 9 + 3, none⟩)), (7, 90, fun gh => .agg #[Vi 2, Vi 0, Vi 0, Ve, .string (rname ((i + 1) % m)), Vz]), (8, 91, fun gh => .slice (some ⟨b20, o21, none⟩) m cc), (9, 92, fun gh => Vi (i : Int)), (10, 93, fun gh => Vi ((i : Int) + 1)), (11, 94, fun gh => .slice (some ⟨b20, o21, none⟩) m cc), (12, 95, fun gh => Vi (m : Int)), (13, 96, fun gh => Vi (((i : Int) + 1) % (m : Int))), (14, 97, fun gh => .pointer (some ⟨b20, o21 + ((i + 1) % m) * 1, none⟩)), (15, 98, fun gh => .string (rname ((i + 1) % m))), (16, 99, fun gh => .bool true), (17, 100, fun gh => .bool false), (18, 101, fun gh => .bool false)], [(5, .slice (some ⟨b23, o24, none⟩) (nFields l + m) cv), (10, .slice (some ⟨b20, o21, none⟩) m cc), (70, .slice (some ⟨b20, o21, none⟩) m cc), (71, Vi (m : Int)), (72, Vi (i : Int)), (73, .bool (decide ((i : Int) < (m : Int)))), (74, Vi (i : Int)), (75, .pointer (some ⟨b20, o21 + i * 1, none⟩)), (76, .string (rname i)), (12, Vi (i : Int)), (13, .string (rname i)), (78, .slice (some ⟨b23, o24, none⟩) (nFields l + m) cv), (79, .string (rname i)), (80, .tuple #[Vi ((nFields l + i : Nat) : Int), Vi 0]), (77, .tuple #[Vi ((nFields l + i : Nat) : Int), Vi 0]), (81, Vi ((nFields l + i : Nat) : Int)), (82, Vi 0), (14, Vi ((nFields l + i : Nat) : Int)), (15, Vi 0)], [], [], [[], [0], [0, 1], [0, 1, 2], [0, 1, 2], [0, 1, 2, 3, 4], [0, 1, 2, 3, 4, 5], [0, 1, 2, 3, 4, 5, 6], [0, 1, 2], [0, 1, 2], [0, 1, 2, 9], [0, 1, 2], [0, 1, 2, 11], [0, 1, 2, 9, 10, 11, 12], [0, 1, 2, 8, 9, 10, 11, 12, 13], [0, 1, 2, 8, 9, 10, 11, 12, 13, 14], [0, 1, 2, 3, 4, 5, 6, 7, 8, 9, 10, 11, 12, 13, 14, 15], [0, 1, 2, 3, 4, 5, 6, 7, 8, 9, 10, 11, 12, 13, 14, 15, 16], [0, 1, 2, 3, 4, 5, 6, 7, 8, 9, 10, 11, 12, 13, 14, 15, 16, 17]], h18⟩
      have hmono : ∀ zq ∈ R.F, ∀ zx zh zi, Sees zh zi → zq.2 zx zh → zq.2 zx zi := mono_nil
      refine x_region (by kernel_rfl) R hJ 19 [.pu, .pu, .pu, .pu, .pu, .cl, .pu, .lf 1 3, .pu, .pu, .cl, .pu, .pu, .cl, .cl, .lf 0 0, .cl, .pu, .pu] (by kernel_rfl) hmono (fun _ _ _ => by kernel_rfl) (fun hT hA => ?_) ?_
      · clear hJ
        refine And.intro (r_pure hT hA 88 (fun gh => .pointer (some ⟨b23, o24 + (nFields l + i) * 9, none⟩)) [2, 3, 4] 5 (by kernel_rfl) (by kernel_rfl) (by kernel_rfl) (fun _ => by kernel_rfl) (fun gh w => run_indexAddr (t := 30) (x := (.tmp 86)) (y := (.tmp 87)) (b := b23) (off := o24) (n := (nFields l + m)) (cap := cv) (k := (nFields l + i)) (e := 40) (kk := 9) (by kernel_rfl) (by kernel_rfl) (by kernel_rfl) (by first | omega | (simp; omega)) Try.underlying30 (by kernel_rfl))) ?_
        refine And.intro (r_pure hT hA 93 (fun gh => Vi ((i : Int) + 1)) [2, 9] 10 (by kernel_rfl) (by kernel_rfl) (by kernel_rfl) (fun _ => by kernel_rfl) (fun gh w => run_eq (by kernel_rfl) (i64_wrap (by omega) (by omega)))) ?_
        refine And.intro (r_pure hT hA 96 (fun gh => Vi (((i : Int) + 1) % (m : Int))) [2, 10, 12] 13 (by kernel_rfl) (by kernel_rfl) (by kernel_rfl) (fun _ => by kernel_rfl) (fun gh w => run_bin (op := .rem) (t := 3) (x := (.tmp 93)) (y := (.tmp 95)) (yt := 3) (by kernel_rfl) (by kernel_rfl) (by kernel_rfl) (by kernel_rfl) (run_rem ((i : Int) + 1) (m : Int) w (by omega) (by omega)))) ?_
        refine And.intro (r_pure hT hA 97 (fun gh => .pointer (some ⟨b20, o21 + ((i + 1) % m) * 1, none⟩)) [2, 8, 13] 14 (by kernel_rfl) (by kernel_rfl) (by kernel_rfl) (fun _ => by kernel_rfl) (fun gh w => run_indexAddr (t := 32) (x := (.tmp 91)) (y := (.tmp 96)) (b := b20) (off := o21) (n := m) (cap := cc) (k := ((i + 1) % m)) (e := 9) (kk := 1) (by kernel_rfl) (by kernel_rfl) (by kernel_rfl) (by first | omega | (simp; omega)) Try.underlying32 (by kernel_rfl))) ?_
        refine And.intro (r_callv hT hA hmono 99 (fun gh => .bool true) [2, 7, 15] 16 (by kernel_rfl) (by kernel_rfl) (by kernel_rfl) (fun _ => by kernel_rfl) 23 (fun gh => #[.agg #[Vi 2, Vi 0, Vi 0, Ve, .string (rname ((i + 1) % m)), Vz], .string (rname ((i + 1) % m))]) (fun _ _ => by kernel_rfl) (fun gh H sH fH lent => hHas _)) ?_
        trivial
      clear hJ a w; intro gh h27 a w sR hJ1 hF; have s28 : Sees h18 h27 := sR; clear sR
      have hJ : K ⟨103, h.w, h.bad, []⟩ [(5, .slice (some ⟨b23, o24, none⟩) (nFields l + m) cv), (10, .slice (some ⟨b20, o21, none⟩) m cc), (70, .slice (some ⟨b20, o21, none⟩) m cc), (71, Vi (m : Int)), (72, Vi (i : Int)), (73, .bool (decide ((i : Int) < (m : Int)))), (74, Vi (i : Int)), (75, .pointer (some ⟨b20, o21 + i * 1, none⟩)), (76, .string (rname i)), (12, Vi (i : Int)), (13, .string (rname i)), (78, .slice (some ⟨b23, o24, none⟩) (nFields l + m) cv), (79, .string (rname i)), (80, .tuple #[Vi ((nFields l + i : Nat) : Int), Vi 0]), (77, .tuple #[Vi ((nFields l + i : Nat) : Int), Vi 0]), (81, Vi ((nFields l + i : Nat) : Int)), (82, Vi 0), (14, Vi ((nFields l + i : Nat) : Int)), (15, Vi 0), (83, Vi 0), (84, .bool false), (85, .bool false), (86, .slice (some ⟨b23, o24, none⟩) (nFields l + m) cv), (87, Vi ((nFields l + i : Nat) : Int)), (88, .pointer (some ⟨b23, o24 + (nFields l + i) * 9, none⟩)), (89, .pointer (some ⟨b23, o24 + (nFields l + i) * 9 + 3, none⟩)), (90, .agg #[Vi 2, Vi 0, Vi 0, Ve, .string (rname ((i + 1) % m)), Vz]), (91, .slice (some ⟨b20, o21, none⟩) m cc), (92, Vi (i : Int)), (93, Vi ((i : Int) + 1)), (94, .slice (some ⟨b20, o21, none⟩) m cc), (95, Vi (m : Int)), (96, Vi (((i : Int) + 1) % (m : Int))), (97, .pointer (some ⟨b20, o21 + ((i + 1) % m) * 1, none⟩)), (98, .string (rname ((i + 1) % m))), (99, .bool true), (100, .bool false), (101, .bool false)] [] [(b20, o21 + ((i + 1) % m) * 1, [.string (rname ((i + 1) % m))]), (b23, o24 + (nFields l + i) * 9, [.string (rname i), Vi 2, Vi 1, Vi 2, Vi 0, Vi 0, Ve, .string (rname ((i + 1) % m)), Vz]), (b20, o21 + i * 1, [.string (rname i)]), (bfg, 0, [.string ⟨#[114, 49]⟩, .string ⟨#[114, 50]⟩, .string ⟨#[114, 51]⟩, .string ⟨#[114, 52]⟩])] h27 a w := hJ1.to (by kernel_rfl) (by kernel_rfl) rfl
      clear hJ1 hF hmono R
      clear gh
      refine rx hJ false 9 [] [(102, Vi (IntKind.i64.wrap ((i : Int) + 1)), Vi ((i : Int) + 1))] (.ok (.out .normal) [] [(5, .slice (some ⟨b23, o24, none⟩) (nFields l + m) cv), (10, .slice (some ⟨b20, o21, none⟩) m cc), (70, .slice (some ⟨b20, o21, none⟩) m cc), (71, Vi (m : Int)), (73, .bool (decide ((i : Int) < (m : Int)))), (74, Vi (i : Int)), (75, .pointer (some ⟨b20, o21 + i * 1, none⟩)), (76, .string (rname i)), (12, Vi (i : Int)), (13, .string (rname i)), (78, .slice (some ⟨b23, o24, none⟩) (nFields l + m) cv), (79, .string (rname i)), (80, .tuple #[Vi ((nFields l + i : Nat) : Int), Vi 0]), (77, .tuple #[Vi ((nFields l + i : Nat) : Int), Vi 0]), (81, Vi ((nFields l + i : Nat) : Int)), (82, Vi 0), (14, Vi ((nFields l + i : Nat) : Int)), (15, Vi 0), (83, Vi 0), (84, .bool false), (85, .bool false), (86, .slice (some ⟨b23, o24, none⟩) (nFields l + m) cv), (87, Vi ((nFields l + i : Nat) : Int)), (88, .pointer (some ⟨b23, o24 + (nFields l + i) * 9, none⟩)), (89, .pointer (some ⟨b23, o24 + (nFields l + i) * 9 + 3, none⟩)), (90, .agg #[Vi 2, Vi 0, Vi 0, Ve, .string (rname ((i + 1) % m)), Vz]), (91, .slice (some ⟨b20, o21, none⟩) m cc), (92, Vi (i : Int)), (93, Vi ((i : Int) + 1)), (94, .slice (some ⟨b20, o21, none⟩) m cc), (95, Vi (m : Int)), (96, Vi (((i : Int) + 1) % (m : Int))), (97, .pointer (some ⟨b20, o21 + ((i + 1) % m) * 1, none⟩)), (98, .string (rname ((i + 1) % m))), (99, .bool true), (100, .bool false), (101, .bool false), (102, Vi ((i : Int) + 1)), (72, Vi ((i : Int) + 1))] [] [(b20, o21 + ((i + 1) % m) * 1, [.string (rname ((i + 1) % m))]), (b23, o24 + (nFields l + i) * 9, [.string (rname i), Vi 2, Vi 1, Vi 2, Vi 0, Vi 0, Ve, .string (rname ((i + 1) % m)), Vz]), (b20, o21 + i * 1, [.string (rname i)]), (bfg, 0, [.string ⟨#[114, 49]⟩, .string ⟨#[114, 50]⟩, .string ⟨#[114, 51]⟩, .string ⟨#[114, 52]⟩])]) trivial (And.intro (i64_wrap (by omega) (by omega)) (trivial)) (fun _ => by kernel_rfl) ?_
      clear hJ a w; intro a w hJ
      exact x_round ⟨i + 1, ⟨h27, (hJ.tof [3] (F' := [(bfg, 0, [.string ⟨#[114, 49]⟩, .string ⟨#[114, 50]⟩, .string ⟨#[114, 51]⟩, .string ⟨#[114, 52]⟩])]) (by kernel_rfl)).to (by kernel_rfl) (by kernel_rfl) rfl, (s19.trans s28), by omega⟩, by omega⟩
    · skip
      refine x_false hJ (t := decide ((i : Int) < (m : Int))) (by kernel_rfl) (decide_eq_false (by omega)) ?_
      refine rx hJ false 2 [] [] (.ok (.out (.exit 2)) [] [(5, .slice Av (nFields l + m) cv), (10, .slice Ac m cc), (70, .slice Ac m cc), (71, Vi (m : Int)), (72, Vi (i : Int)), (73, .bool (decide ((i : Int) < (m : Int))))] [] [(bfg, 0, [.string ⟨#[114, 49]⟩, .string ⟨#[114, 50]⟩, .string ⟨#[114, 51]⟩, .string ⟨#[114, 52]⟩])]) trivial trivial (fun _ => by kernel_rfl) ?_
      clear hJ a w; intro a w hJ
      refine x_leave rfl ?_
      refine rx hJ false 8 [] [] (.ok (.out .ret) [] [(4, .bool true)] [] [(bfg, 0, [.string ⟨#[114, 49]⟩, .string ⟨#[114, 50]⟩, .string ⟨#[114, 51]⟩, .string ⟨#[114, 52]⟩])]) trivial trivial (fun _ => by kernel_rfl) ?_
      clear hJ a w; intro a w hJ
      refine x_end (hQ [.bool true] _ [] hJ (.rtmp hJ.j (by kernel_rfl) .nil) (no_own _) rfl ?_).1
      exact rfl

theorem rankCycles_walk (v : Value) (l : List RawD) (a : Int) (w : World) (h : RawsOf w v l) (a0 : -9223372036854775808 ≤ a) (a1 : a ≤ 9223372036854775807) :
    Calls Try.prog 11 #[v, .int .i64 a] w fun e w' => e = .returned (.bool true) ∧ Below w.heap.size w w' :=
  C0.law (rankCycles_c l v a ⟨w, []⟩ h.rs h.2.1 h.2.2 a0 a1)

namespace rankCyclesLaw
open Go.ChangeShapes Go.WideShapes Go.ChangeAt Go.RowKit
open Go.ChangeMaps (open_string shut_string)
set_option linter.unusedVariables false

set_option maxRecDepth 100000 in
theorem lifted (os : Os) (started : os.Started) (H : Type) (enc : TypeId × Value → H) :
    ReturnsInHanded {} Try.checked os 11 .any (Rows.rankCyclesSpec.pre6 enc Try.prog Try.f11 Rows.rankCyclesRow.domain false) (Rows.rankCyclesSpec.post enc Try.prog Try.f11 false true false false) := by
  refine returnsInHanded_of_change_sized (C := Try.checked) ownNone started (by kernel_rfl) Try.func11
    (ChangeSpec.witness6 (enc := enc) (C := Try.checked) false ⟨#[], #[.slice none 0 0, .int .i64 0], []⟩ 8 (by kernel_rfl) (by kernel_rfl) (by kernel_rfl) (by kernel_rfl)) ?_
  intro W base args ds gs before hval0 hW hcnd hsz0 _
  have hval : ∀ (j : Nat) t v, Try.f11.params[j]? = some t → args[j]? = some v → Value.okWide Try.prog W .any base t v := hval0
  have hsz : (DataW.weightsEach Try.prog (Try.f11.params.toList ++ Rows.rankCyclesSpec.plain.varTypes Try.prog) (ds ++ gs)).all (· ≤ reachBytes) = true := hsz0
  have hW' := hW
  obtain ⟨p, q, hA0, hV, rfl, hfz, hnd⟩ := hW
  have hA : DataW.TrodAll enc Try.prog W 0 (fun _ => true) true Try.f11.params.toList args.toList ds p := hA0
  rw [Try.params11] at hA hval hsz
  obtain ⟨v0, vs0, d0, ds0, p0, q0, hargs, rfl, rfl, h0, r0⟩ := trodAll_cons hA
  obtain ⟨v1, vs1, d1, ds1, p1, q1, rfl, rfl, rfl, h1, r1⟩ := trodAll_cons r0
  obtain ⟨rfl, rfl, rfl⟩ := trodAll_nil r1
  obtain rfl : args = #[v0, v1] := by cases args; simp_all
  obtain ⟨rfl, rfl⟩ := trodVars_none hV
  have k0 := h0
  have lt0 : ∀ x ∈ p0, x.block < W.heap.size := by obtain ⟨m, hm⟩ := k0; exact DataW.trod_lt m _ _ _ hm
  obtain ⟨a0, w0⟩ := open_rows (hval 0 22 v0 rfl rfl) h0 (fun es ss hd => sized_slice hsz (j := 0) (t := 22) (elems := es) (spare := ss) rfl (by rw [hd]; rfl) Try.underlying22)
  have k1 := h1
  have lt1 : ∀ x ∈ p1, x.block < W.heap.size := by obtain ⟨m, hm⟩ := k1; exact DataW.trod_lt m _ _ _ hm
  obtain ⟨a1, rfl, -, -, w1⟩ := open_int Try.underlying3 (hval 1 3 v1 rfl rfl) h1
  clear hA0 hval0 hsz0
  refine (rankCycles_walk v0 a0 a1 W w0 (int_lo w1) (int_hi w1)).mono fun e W' ⟨he, bel⟩ => ?_
  subst he
  exact ⟨_, rfl, _, _, _, [], _, [], hW', trodAll_mk1 (shut_bool Try.underlying4 _), (trodAll_cons_mk (Below.trod laidOutTrue (by kernel_rfl) (of_decide_eq_true (by kernel_rfl)) k0 bel lt0) (trodAll_cons_mk (Below.trod laidOutTrue (by kernel_rfl) (of_decide_eq_true (by kernel_rfl)) k1 bel lt1) trodAll_mk0)), rfl, bel.frame _, fun h => by cases h⟩

theorem over : Rows.rankCyclesRow.holds Try.pinned (OpenSpec.ofChange Rows.rankCyclesSpec) :=
  OpenClaim.holds_of_wide 11 Try.f11 rfl rfl rfl rfl rfl rfl rfl ⟨rfl, rfl, rfl, rfl, rfl⟩ rfl rfl rfl rfl rfl (by kernel_rfl) Try.func11 (by kernel_rfl)
    (of_decide_eq_true (by kernel_rfl)) (by unfold Func.isWrapper; first | (rw [if_pos (by decide +kernel)]; kernel_rfl) | (rw [if_neg (by decide +kernel)]; exact ⟨rfl, rfl⟩))
    (fun os started H enc _ => lifted os started H enc)

end rankCyclesLaw
theorem rankCycles_holds : Rows.RankCyclesSaid := rankCyclesLaw.over
#print axioms rankCycles_holds
end Go.Proofs.Ytgjndkphfabnnaa
