/-
  For all raw things RankRises returns true.
-/
import Derived.Test.YtgjndkphfabnnaaRanked
import Derived.Test.YtgjndkphfabnnaaNmH
import Derived.Test.YtgjndkphfabnnaaLawX
namespace Go.Proofs.Ytgjndkphfabnnaa
open Go.RowKit
set_option linter.unusedVariables false

theorem need_iff {l : List RawD} {i k : Nat} {x g : Fd} (hx : (formE l).fields[i]? = some x) (hk : (formE l).fields[k]? = some g) : k ∈ needE (formE l).fields x ↔ x.kind ≠ 1 ∧ hasE x.src g.name = true := by
  have hi : i < nFields l := by rw [← form_len]; exact (List.getElem?_eq_some_iff.1 hx).1
  obtain ⟨x', hx', -, hrefs⟩ := form_get l hi
  rw [hx] at hx'
  obtain rfl := Option.some.inj hx'
  have hpl : ∀ k g, (formE l).fields[k]? = some g → plc (formE l).fields g.name = k := fun k g hk => by
    unfold plc
    rw [findF_at (form_nodup l) hk]; rfl
  unfold needE
  split
  · rename_i h1
    constructor
    · intro q; cases q
    · intro q; exact absurd h1 q.1
  · rename_i h1
    constructor
    · intro q
      refine ⟨h1, ?_⟩
      obtain ⟨s, hs, e⟩ := List.mem_map.1 q
      have hs := mem_namesE.1 hs
      obtain ⟨j, hj, rfl⟩ := hrefs s hs
      obtain ⟨i', hi', e'⟩ := lvF_sur l (j := j) (by have := lvF_lt l hi; omega)
      obtain ⟨g', hg', hgn, -⟩ := form_get l hi'
      rw [e'] at hgn
      have := hpl i' g' hg'
      rw [hgn, e] at this
      subst this
      rw [hk] at hg'
      obtain rfl := Option.some.inj hg'
      rw [hgn]
      exact hasE_yes hs
    · intro q
      exact List.mem_map.2 ⟨g.name, mem_namesE.2 (hasE_iff.1 q.2), hpl k g hk⟩

set_option maxHeartbeats 2000000 in
set_option maxRecDepth 100000 in
theorem rankRises_c (l : List RawD) (sl : Value) (h : Vw) (hl : RS h 4 sl (l.map RawD.cs)) (ll : l.length * 40 ≤ reachBytes) (ol : ∀ r ∈ l, r.ok) :
    C0 Try.prog 10 #[sl] h (fun v _ => v = .bool true) := by
  have hF := fun H q => form_c l sl H q ll ol
  have hn := nFields_le l
  have hok := form_okFs l _ (form_nodup l) (fun f => Iff.rfl) (by rw [form_len]; omega)
  have hrk := form_ranked l
  have hnl : (needsE (formE l).fields).length = nFields l := by unfold needsE; rw [List.length_map, form_len]
  have hO := fun H A c q => rankOf_any (formE l).fields (.slice A (nFields l) c) H hok q _ _ hrk
  have hfl := form_len l
  rw [hfl] at hF hO
  have hρl := hrk.len.trans hnl
  have hbd : ∀ k, k < nFields l → 0 ≤ (rhoL (needsE (formE l).fields)).getD k 0 ∧ (rhoL (needsE (formE l).fields)).getD k 0 ≤ 10 := fun k hk => by
    have h1 := rank_le hrk _ k (by omega) (Nat.le_refl _)
    have h2 := hrk.few k (by omega)
    have h3 := rank_nn hrk (i := k) (by omega)
    omega
  have hat : ∀ i x, (formE l).fields[i]? = some x → (rhoL (needsE (formE l).fields)).getD i 0 = topR (rhoL (needsE (formE l).fields)) (needE (formE l).fields x) ∧ ∀ k ∈ needE (formE l).fields x, k < nFields l := fun i x hx => by
    have hi : i < nFields l := by rw [← hfl]; exact (List.getElem?_eq_some_iff.1 hx).1
    have hg : (needsE (formE l).fields).getD i [] = needE (formE l).fields x := by
      unfold needsE
      rw [List.getD_eq_getElem?_getD, List.getElem?_map, hx]; rfl
    have h1 := hrk.at_ i (by omega)
    have h2 := fun k hk => (hrk.low i (by omega) k hk).1
    rw [hg] at h1 h2
    rw [hnl] at h2
    exact ⟨h1, h2⟩
  have hHas := fun x (hx : x ∈ (formE l).fields) (hk : x.kind ≠ 1) H v q s => has_any x.src v H q ((hok.each x hx).wf hk).1 s
  have hiff := @need_iff l
  generalize rhoL (needsE (formE l).fields) = ρ at *
  generalize hN : nFields l = N at *
  obtain ⟨A1, cap1, rfl, -, -, -⟩ := hl.form
  rw [List.length_map] at *
  generalize l.length = n1 at *
  refine x_con Try.func10 (c := Try.f10.body.getD .skip) (by kernel_rfl) (N := 78) rfl (by kernel_rfl) ?_
  intro hbx hbad Q hQ a w hJ
  replace hJ : K ⟨78, h.w, h.bad, []⟩ [(0, .slice A1 n1 cap1)] [] [] h a w := hJ.to (by kernel_rfl) (by kernel_rfl) rfl
  refine rx hJ false 8 [] [] (.ok (.ops [0, 1] 1) [.seq [1, 1]] [(2, .bool false), (12, .slice A1 n1 cap1)] [] []) trivial trivial (fun _ => by kernel_rfl) ?_
  clear hJ a w; intro a w hJ
  refine x_call hJ 13 (hF _ (hl.sees hJ.j.sees)) (fun _ => by kernel_rfl) ?_; clear hJ a w; rintro _ h1 a w s2 ⟨A, c, B, d, rfl, hf⟩ hJ
  refine rx hJ false 7 [] [] (.ok (.ops [0, 1, 1] 1) [.seq [1, 1, 1]] [(2, .bool false), (3, .slice A N c), (16, .slice A N c)] [] []) trivial trivial (fun _ => by kernel_rfl) ?_
  clear hJ a w; intro a w hJ
  refine x_call hJ 17 (hO _ _ _ ((hf.sees hJ.j.sees)).fields) (fun _ => by kernel_rfl) ?_; clear hJ a w; rintro _ h3 a w s4 ⟨b, rfl, hro⟩ hJ
  refine rx hJ false 12 [] [] (.ok (.ops [0, 0, 1, 1, 1] 0) [.seq [1, 0, 1, 1, 1], .seq [1, 1, 1, 1]] [(2, .bool false), (3, .slice A N c), (4, .slice (some ⟨b, 0, none⟩) N N), (5, .slice none 0 0), (6, .int .i64 0)] [] []) trivial trivial (fun _ => by kernel_rfl) ?_
  clear hJ a w; intro a w hJ
  refine rx hJ false 32 [.cl 43 #[] (.bool true)] [(32, .bool ((N : Int) != (N : Int)), .bool false)] (.ok (.code [0, 1, 0, 1, 1, 1, 1]) [.block 0, .seq [1, 1, 1, 1, 1]] [(2, .bool false), (3, .slice A N c), (4, .slice (some ⟨b, 0, none⟩) N N), (39, .slice A N c), (40, .int .i64 (N : Int)), (41, .int .i64 0)] [] []) (And.intro (fun H sH => ranked_any _) (trivial)) (And.intro (congrArg Value.bool (by simp)) (trivial)) (fun _ => by kernel_rfl) ?_
  clear hJ a w; intro a w hJ
  obtain ⟨vs, A3, c3, e3, -, -, hr3, hs3, hl3, hsl⟩ := fds_open hf.fields
  simp only [Value.slice.injEq] at e3
  obtain ⟨rfl, -, rfl⟩ := e3
  rw [hfl] at hr3 hl3
  generalize (formE l).fields = fs at *
  refine x_loop (fun (i : Nat) a w => ∃ (h5 : Vw) , K ⟨78, h.w, h.bad, []⟩ [(3, .slice A N c), (4, .slice (some ⟨b, 0, none⟩) N N), (39, .slice A N c), (40, .int .i64 (N : Int)), (41, .int .i64 (i : Int))] [] [] h5 a w ∧ Sees h3 h5 ∧ (i ≤ N)) (fun i => N - i) (0) (by kernel_rfl) ⟨h3, hJ.to (by kernel_rfl) (by kernel_rfl) rfl, Sees.refl _, Nat.zero_le _⟩ ?_
  clear hJ a w; rintro i a w ⟨h5, hJ, s6, hi⟩
  refine rx hJ false 6 [] [] (.ok (.code [0, 1, 0, 0, 1, 0, 1, 1, 1, 1]) [.seq [1, 1, 0, 0, 1, 0, 1, 1, 1, 1]] [(3, .slice A N c), (4, .slice (some ⟨b, 0, none⟩) N N), (39, .slice A N c), (40, .int .i64 (N : Int)), (41, .int .i64 (i : Int)), (42, .bool (decide ((i : Int) < (N : Int))))] [] []) trivial trivial (fun _ => by kernel_rfl) ?_
  clear hJ a w; intro a w hJ
  rcases (by omega : i < N ∨ i = N) with hlt | hke
  · obtain ⟨x, hx⟩ : ∃ x, fs[i]? = some x := ⟨_, List.getElem?_eq_getElem (by omega)⟩
    obtain ⟨u, hu⟩ : ∃ u, vs[i]? = some u := ⟨_, List.getElem?_eq_getElem (by omega)⟩
    have hrow := fdRows_get hx hu
    obtain ⟨hat1, hat2⟩ := hat i x hx
    have hxa := AllArgs.get hs3 (x := x.src) (by rw [List.getElem?_map, hx]; rfl) hu
    obtain ⟨Au, nu, cu, rfl⟩ := hxa.slice
    have hHx := hHas x (List.mem_of_getElem? hx)
    have hri := rk_get (l := ρ) (i := i) (by omega)
    refine x_true hJ (t := decide ((i : Int) < (N : Int))) (by kernel_rfl) (decide_eq_true (by omega)) ?_
    refine rx hJ false 7 [] [] (.ok (.ops [0, 0, 0, 1, 1, 0, 0, 1, 0, 1, 1, 1, 1] 1) [.seq [1, 0, 0, 1, 1, 0, 0, 1, 0, 1, 1, 1, 1], .block 1, .seq [1, 1, 1, 0, 0, 1, 0, 1, 1, 1, 1]] [(3, .slice A N c), (4, .slice (some ⟨b, 0, none⟩) N N), (39, .slice A N c), (40, .int .i64 (N : Int)), (41, .int .i64 (i : Int)), (42, .bool (decide ((i : Int) < (N : Int)))), (43, .int .i64 (i : Int))] [] []) trivial trivial (fun _ => by kernel_rfl) ?_
    clear hJ a w; intro a w hJ
    obtain ⟨b7, o8, rfl, -, c9⟩ := RS.row hr3 (hrow)
    replace hJ := hJ.fact (c9.sees (s4.trans s6))
    refine rx hJ false 21 [.ix b7 o8 N c i, .f 0 0, .own, .b 0 0] [] (.new fun b10 => .ok (.code [0, 1, 0, 1, 1, 0, 0, 1, 1, 0, 0, 1, 0, 1, 1, 1, 1]) [.block 2, .seq [1, 1, 1, 0, 0, 1, 1, 0, 0, 1, 0, 1, 1, 1, 1], .block 1, .seq [1, 1, 1, 0, 0, 1, 0, 1, 1, 1, 1]] [(3, .slice (some ⟨b7, o8, none⟩) N c), (4, .slice (some ⟨b, 0, none⟩) N N), (39, .slice (some ⟨b7, o8, none⟩) N c), (40, .int .i64 (N : Int)), (41, .int .i64 (i : Int)), (42, .bool (decide ((i : Int) < (N : Int)))), (43, .int .i64 (i : Int)), (44, .pointer (some ⟨b7, o8 + i * 9, none⟩)), (45, .agg #[.string x.name, .int .i64 x.kind, .int .i64 x.ty, .int .i64 x.src.op, .int .i64 x.src.k, .int .i64 x.src.n, .string x.src.s, .string x.src.nm, .slice Au nu cu]), (8, .pointer (some ⟨b10, 0, none⟩)), (7, .int .i64 (i : Int)), (9, .int .i64 0), (46, .slice (some ⟨b7, o8, none⟩) N c), (47, .int .i64 (N : Int)), (48, .int .i64 0)] [.box b10 [.string x.name, .int .i64 x.kind, .int .i64 x.ty, .int .i64 x.src.op, .int .i64 x.src.k, .int .i64 x.src.n, .string x.src.s, .string x.src.nm, .slice Au nu cu]] [(b7, o8 + i * 9, [.string x.name, .int .i64 x.kind, .int .i64 x.ty, .int .i64 x.src.op, .int .i64 x.src.k, .int .i64 x.src.n, .string x.src.s, .string x.src.nm, .slice Au nu cu])]) (And.intro (by first | omega | (simp; omega)) (trivial)) trivial (fun b10 _ => by kernel_rfl) ?_
    clear hJ a w; intro b10 a w hJ
    refine x_loop (fun (k : Nat) a w => ∃ (h11 : Vw) (m0 : Int), K ⟨78, h.w, h.bad, []⟩ [(3, .slice (some ⟨b7, o8, none⟩) N c), (4, .slice (some ⟨b, 0, none⟩) N N), (39, .slice (some ⟨b7, o8, none⟩) N c), (40, .int .i64 (N : Int)), (41, .int .i64 (i : Int)), (42, .bool (decide ((i : Int) < (N : Int)))), (43, .int .i64 (i : Int)), (44, .pointer (some ⟨b7, o8 + i * 9, none⟩)), (45, .agg #[.string x.name, .int .i64 x.kind, .int .i64 x.ty, .int .i64 x.src.op, .int .i64 x.src.k, .int .i64 x.src.n, .string x.src.s, .string x.src.nm, .slice Au nu cu]), (8, .pointer (some ⟨b10, 0, none⟩)), (7, .int .i64 (i : Int)), (46, .slice (some ⟨b7, o8, none⟩) N c), (47, .int .i64 (N : Int)), (48, .int .i64 (k : Int)), (9, .int .i64 m0)] [.box b10 [.string x.name, .int .i64 x.kind, .int .i64 x.ty, .int .i64 x.src.op, .int .i64 x.src.k, .int .i64 x.src.n, .string x.src.s, .string x.src.nm, .slice Au nu cu]] [(b7, o8 + i * 9, [.string x.name, .int .i64 x.kind, .int .i64 x.ty, .int .i64 x.src.op, .int .i64 x.src.k, .int .i64 x.src.n, .string x.src.s, .string x.src.nm, .slice Au nu cu])] h11 a w ∧ Sees h5 h11 ∧ (k ≤ N) ∧ (0 ≤ m0) ∧ (m0 = 0 ∨ ∃ j ∈ needE fs x, m0 = ρ.getD j 0 + 1) ∧ (∀ j ∈ needE fs x, j < k → ρ.getD j 0 + 1 ≤ m0)) (fun k => N - k) (0) (by kernel_rfl) ⟨h5, 0, hJ.to (by kernel_rfl) (by kernel_rfl) rfl, Sees.refl _, Nat.zero_le _, Int.le_refl _, .inl rfl, fun j _ hj => absurd hj (Nat.not_lt_zero _)⟩ ?_
    clear hJ a w; rintro k a w ⟨h11, m0, hJ, s12, hk, hm0, hm1, hm2⟩
    refine rx hJ false 6 [] [] (.ok (.code [0, 1, 0, 0, 1, 0, 1, 1, 0, 0, 1, 1, 0, 0, 1, 0, 1, 1, 1, 1]) [.seq [1, 1, 0, 0, 1, 0, 1, 1, 0, 0, 1, 1, 0, 0, 1, 0, 1, 1, 1, 1]] [(3, .slice (some ⟨b7, o8, none⟩) N c), (4, .slice (some ⟨b, 0, none⟩) N N), (39, .slice (some ⟨b7, o8, none⟩) N c), (40, .int .i64 (N : Int)), (41, .int .i64 (i : Int)), (42, .bool (decide ((i : Int) < (N : Int)))), (43, .int .i64 (i : Int)), (44, .pointer (some ⟨b7, o8 + i * 9, none⟩)), (45, .agg #[.string x.name, .int .i64 x.kind, .int .i64 x.ty, .int .i64 x.src.op, .int .i64 x.src.k, .int .i64 x.src.n, .string x.src.s, .string x.src.nm, .slice Au nu cu]), (8, .pointer (some ⟨b10, 0, none⟩)), (7, .int .i64 (i : Int)), (46, .slice (some ⟨b7, o8, none⟩) N c), (47, .int .i64 (N : Int)), (48, .int .i64 (k : Int)), (9, .int .i64 m0), (49, .bool (decide ((k : Int) < (N : Int))))] [.box b10 [.string x.name, .int .i64 x.kind, .int .i64 x.ty, .int .i64 x.src.op, .int .i64 x.src.k, .int .i64 x.src.n, .string x.src.s, .string x.src.nm, .slice Au nu cu]] [(b7, o8 + i * 9, [.string x.name, .int .i64 x.kind, .int .i64 x.ty, .int .i64 x.src.op, .int .i64 x.src.k, .int .i64 x.src.n, .string x.src.s, .string x.src.nm, .slice Au nu cu])]) trivial trivial (fun _ => by kernel_rfl) ?_
    clear hJ a w; intro a w hJ
    rcases (by omega : k < N ∨ k = N) with hkl | hke
    · obtain ⟨g, hg⟩ : ∃ g, fs[k]? = some g := ⟨_, List.getElem?_eq_getElem (by omega)⟩
      obtain ⟨ug, hug⟩ : ∃ u, vs[k]? = some u := ⟨_, List.getElem?_eq_getElem (by omega)⟩
      have hrog := fdRows_get hg hug
      obtain ⟨Ag, ng, cg, rfl⟩ := (AllArgs.get hs3 (x := g.src) (by rw [List.getElem?_map, hg]; rfl) hug).slice
      have hik := hiff hx hg
      have hrk2 := rk_get (l := ρ) (i := k) (by omega)
      have hbk := hbd k hkl
      by_cases g1 : x.kind = 1
      · have hno : k ∉ needE fs x := fun q => (hik.1 q).1 g1
        have hm3 : ∀ j ∈ needE fs x, j < k + 1 → ρ.getD j 0 + 1 ≤ m0 := fun j hj hlt => hm2 j hj (by have : j ≠ k := (fun e => hno (e ▸ hj)); omega)
        refine x_true hJ (t := decide ((k : Int) < (N : Int))) (by kernel_rfl) (decide_eq_true (by omega)) ?_
        refine rx hJ false 7 [] [] (.ok (.ops [0, 0, 0, 1, 1, 0, 0, 1, 0, 1, 1, 0, 0, 1, 1, 0, 0, 1, 0, 1, 1, 1, 1] 1) [.seq [1, 0, 0, 1, 1, 0, 0, 1, 0, 1, 1, 0, 0, 1, 1, 0, 0, 1, 0, 1, 1, 1, 1], .block 3, .seq [1, 1, 1, 0, 0, 1, 0, 1, 1, 0, 0, 1, 1, 0, 0, 1, 0, 1, 1, 1, 1]] [(3, .slice (some ⟨b7, o8, none⟩) N c), (4, .slice (some ⟨b, 0, none⟩) N N), (39, .slice (some ⟨b7, o8, none⟩) N c), (40, .int .i64 (N : Int)), (41, .int .i64 (i : Int)), (42, .bool (decide ((i : Int) < (N : Int)))), (43, .int .i64 (i : Int)), (44, .pointer (some ⟨b7, o8 + i * 9, none⟩)), (45, .agg #[.string x.name, .int .i64 x.kind, .int .i64 x.ty, .int .i64 x.src.op, .int .i64 x.src.k, .int .i64 x.src.n, .string x.src.s, .string x.src.nm, .slice Au nu cu]), (8, .pointer (some ⟨b10, 0, none⟩)), (7, .int .i64 (i : Int)), (46, .slice (some ⟨b7, o8, none⟩) N c), (47, .int .i64 (N : Int)), (48, .int .i64 (k : Int)), (9, .int .i64 m0), (49, .bool (decide ((k : Int) < (N : Int)))), (50, .int .i64 (k : Int))] [.box b10 [.string x.name, .int .i64 x.kind, .int .i64 x.ty, .int .i64 x.src.op, .int .i64 x.src.k, .int .i64 x.src.n, .string x.src.s, .string x.src.nm, .slice Au nu cu]] [(b7, o8 + i * 9, [.string x.name, .int .i64 x.kind, .int .i64 x.ty, .int .i64 x.src.op, .int .i64 x.src.k, .int .i64 x.src.n, .string x.src.s, .string x.src.nm, .slice Au nu cu])]) trivial trivial (fun _ => by kernel_rfl) ?_
        clear hJ a w; intro a w hJ
        have c13 := RS.cell hr3 (hrog)
        replace hJ := hJ.fact (c13.sees (s4.trans (s6.trans s12)))
        refine rx hJ false 29 [.ix b7 o8 N c k, .f 0 0, .own, .b 0 0, .b 1 1] [(55, .bool (x.kind != 1), .bool false), (70, .int .i64 (IntKind.i64.wrap ((k : Int) + 1)), .int .i64 ((k : Int) + 1))] (.new fun b14 => .ok (.out .normal) [] [(3, .slice (some ⟨b7, o8, none⟩) N c), (4, .slice (some ⟨b, 0, none⟩) N N), (39, .slice (some ⟨b7, o8, none⟩) N c), (40, .int .i64 (N : Int)), (41, .int .i64 (i : Int)), (42, .bool (decide ((i : Int) < (N : Int)))), (43, .int .i64 (i : Int)), (44, .pointer (some ⟨b7, o8 + i * 9, none⟩)), (45, .agg #[.string x.name, .int .i64 x.kind, .int .i64 x.ty, .int .i64 x.src.op, .int .i64 x.src.k, .int .i64 x.src.n, .string x.src.s, .string x.src.nm, .slice Au nu cu]), (8, .pointer (some ⟨b10, 0, none⟩)), (7, .int .i64 (i : Int)), (46, .slice (some ⟨b7, o8, none⟩) N c), (47, .int .i64 (N : Int)), (9, .int .i64 m0), (49, .bool (decide ((k : Int) < (N : Int)))), (50, .int .i64 (k : Int)), (51, .pointer (some ⟨b7, o8 + k * 9, none⟩)), (52, .agg #[.string g.name, .int .i64 g.kind, .int .i64 g.ty, .int .i64 g.src.op, .int .i64 g.src.k, .int .i64 g.src.n, .string g.src.s, .string g.src.nm, .slice Ag ng cg]), (11, .pointer (some ⟨b14, 0, none⟩)), (10, .int .i64 (k : Int)), (53, .pointer (some ⟨b10, 1, none⟩)), (54, .int .i64 x.kind), (55, .bool false), (56, .bool false), (62, .bool false), (70, .int .i64 ((k : Int) + 1)), (48, .int .i64 ((k : Int) + 1))] [.box b14 [.string g.name, .int .i64 g.kind, .int .i64 g.ty, .int .i64 g.src.op, .int .i64 g.src.k, .int .i64 g.src.n, .string g.src.s, .string g.src.nm, .slice Ag ng cg], .box b10 [.string x.name, .int .i64 x.kind, .int .i64 x.ty, .int .i64 x.src.op, .int .i64 x.src.k, .int .i64 x.src.n, .string x.src.s, .string x.src.nm, .slice Au nu cu]] [(b7, o8 + k * 9, [.string g.name, .int .i64 g.kind, .int .i64 g.ty, .int .i64 g.src.op, .int .i64 g.src.k, .int .i64 g.src.n, .string g.src.s, .string g.src.nm, .slice Ag ng cg]), (b7, o8 + i * 9, [.string x.name, .int .i64 x.kind, .int .i64 x.ty, .int .i64 x.src.op, .int .i64 x.src.k, .int .i64 x.src.n, .string x.src.s, .string x.src.nm, .slice Au nu cu])]) (And.intro (by first | omega | (simp; omega)) (trivial)) (And.intro (congrArg Value.bool (by simpa using g1)) (And.intro (i64_wrap (by omega) (by omega)) (trivial))) (fun b14 _ => by kernel_rfl) ?_
        clear hJ a w; intro b14 a w hJ
        replace hJ := hJ.drop 0
        exact x_round ⟨k + 1, ⟨h11, m0, (hJ.tof [1] (F' := [(b7, o8 + i * 9, [.string x.name, .int .i64 x.kind, .int .i64 x.ty, .int .i64 x.src.op, .int .i64 x.src.k, .int .i64 x.src.n, .string x.src.s, .string x.src.nm, .slice Au nu cu])]) (by kernel_rfl)).to (by kernel_rfl) (by kernel_rfl) rfl, s12, by omega, hm0, hm1, hm3⟩, by omega⟩
      · skip
        have hHg := fun H v q => hHx g1 H v q g.name
        by_cases g2 : hasE x.src g.name = true
        · rw [g2] at hHg
          have hyes : k ∈ needE fs x := hik.2 ⟨g1, g2⟩
          have hm3 : ∀ j ∈ needE fs x, j < k + 1 → ρ.getD j 0 + 1 ≤ max m0 (ρ.getD k 0 + 1) := fun j hj hlt => by
            by_cases e : j = k
            · subst e; omega
            · have := hm2 j hj (by omega); omega
          have hm4 : max m0 (ρ.getD k 0 + 1) = 0 ∨ ∃ j ∈ needE fs x, max m0 (ρ.getD k 0 + 1) = ρ.getD j 0 + 1 := by
            by_cases e : m0 ≤ ρ.getD k 0 + 1
            · exact .inr ⟨k, hyes, by omega⟩
            · rcases hm1 with q | ⟨j, hj, q⟩
              · omega
              · exact .inr ⟨j, hj, by omega⟩
          refine x_true hJ (t := decide ((k : Int) < (N : Int))) (by kernel_rfl) (decide_eq_true (by omega)) ?_
          refine rx hJ false 7 [] [] (.ok (.ops [0, 0, 0, 1, 1, 0, 0, 1, 0, 1, 1, 0, 0, 1, 1, 0, 0, 1, 0, 1, 1, 1, 1] 1) [.seq [1, 0, 0, 1, 1, 0, 0, 1, 0, 1, 1, 0, 0, 1, 1, 0, 0, 1, 0, 1, 1, 1, 1], .block 3, .seq [1, 1, 1, 0, 0, 1, 0, 1, 1, 0, 0, 1, 1, 0, 0, 1, 0, 1, 1, 1, 1]] [(3, .slice (some ⟨b7, o8, none⟩) N c), (4, .slice (some ⟨b, 0, none⟩) N N), (39, .slice (some ⟨b7, o8, none⟩) N c), (40, .int .i64 (N : Int)), (41, .int .i64 (i : Int)), (42, .bool (decide ((i : Int) < (N : Int)))), (43, .int .i64 (i : Int)), (44, .pointer (some ⟨b7, o8 + i * 9, none⟩)), (45, .agg #[.string x.name, .int .i64 x.kind, .int .i64 x.ty, .int .i64 x.src.op, .int .i64 x.src.k, .int .i64 x.src.n, .string x.src.s, .string x.src.nm, .slice Au nu cu]), (8, .pointer (some ⟨b10, 0, none⟩)), (7, .int .i64 (i : Int)), (46, .slice (some ⟨b7, o8, none⟩) N c), (47, .int .i64 (N : Int)), (48, .int .i64 (k : Int)), (9, .int .i64 m0), (49, .bool (decide ((k : Int) < (N : Int)))), (50, .int .i64 (k : Int))] [.box b10 [.string x.name, .int .i64 x.kind, .int .i64 x.ty, .int .i64 x.src.op, .int .i64 x.src.k, .int .i64 x.src.n, .string x.src.s, .string x.src.nm, .slice Au nu cu]] [(b7, o8 + i * 9, [.string x.name, .int .i64 x.kind, .int .i64 x.ty, .int .i64 x.src.op, .int .i64 x.src.k, .int .i64 x.src.n, .string x.src.s, .string x.src.nm, .slice Au nu cu])]) trivial trivial (fun _ => by kernel_rfl) ?_
          clear hJ a w; intro a w hJ
          have c15 := RS.cell hr3 (hrog)
          replace hJ := hJ.fact (c15.sees (s4.trans (s6.trans s12)))
          refine rx hJ false 26 [.ix b7 o8 N c k, .f 0 0, .own, .b 0 0, .b 1 1, .b 1 3, .b 0 0, .cl 23 #[.agg #[.int .i64 x.src.op, .int .i64 x.src.k, .int .i64 x.src.n, .string x.src.s, .string x.src.nm, .slice Au nu cu], .string g.name] (.bool true)] [(55, .bool (x.kind != 1), .bool true)] (.new fun b16 => .ok (.ops [0, 1, 1, 0, 0, 1, 1, 0, 0, 1, 0, 1, 1, 0, 0, 1, 1, 0, 0, 1, 0, 1, 1, 1, 1] 3) [.block 3, .seq [1, 1, 1, 0, 0, 1, 0, 1, 1, 0, 0, 1, 1, 0, 0, 1, 0, 1, 1, 1, 1]] [(3, .slice (some ⟨b7, o8, none⟩) N c), (4, .slice (some ⟨b, 0, none⟩) N N), (39, .slice (some ⟨b7, o8, none⟩) N c), (40, .int .i64 (N : Int)), (41, .int .i64 (i : Int)), (42, .bool (decide ((i : Int) < (N : Int)))), (43, .int .i64 (i : Int)), (44, .pointer (some ⟨b7, o8 + i * 9, none⟩)), (45, .agg #[.string x.name, .int .i64 x.kind, .int .i64 x.ty, .int .i64 x.src.op, .int .i64 x.src.k, .int .i64 x.src.n, .string x.src.s, .string x.src.nm, .slice Au nu cu]), (8, .pointer (some ⟨b10, 0, none⟩)), (7, .int .i64 (i : Int)), (46, .slice (some ⟨b7, o8, none⟩) N c), (47, .int .i64 (N : Int)), (48, .int .i64 (k : Int)), (9, .int .i64 m0), (49, .bool (decide ((k : Int) < (N : Int)))), (50, .int .i64 (k : Int)), (51, .pointer (some ⟨b7, o8 + k * 9, none⟩)), (52, .agg #[.string g.name, .int .i64 g.kind, .int .i64 g.ty, .int .i64 g.src.op, .int .i64 g.src.k, .int .i64 g.src.n, .string g.src.s, .string g.src.nm, .slice Ag ng cg]), (11, .pointer (some ⟨b16, 0, none⟩)), (10, .int .i64 (k : Int)), (53, .pointer (some ⟨b10, 1, none⟩)), (54, .int .i64 x.kind), (55, .bool true), (56, .bool true), (57, .pointer (some ⟨b10, 3, none⟩)), (58, .agg #[.int .i64 x.src.op, .int .i64 x.src.k, .int .i64 x.src.n, .string x.src.s, .string x.src.nm, .slice Au nu cu]), (59, .pointer (some ⟨b16, 0, none⟩)), (60, .string g.name), (61, .bool true), (62, .bool true), (63, .int .i64 m0), (64, .slice (some ⟨b, 0, none⟩) N N), (65, .int .i64 (k : Int))] [.box b16 [.string g.name, .int .i64 g.kind, .int .i64 g.ty, .int .i64 g.src.op, .int .i64 g.src.k, .int .i64 g.src.n, .string g.src.s, .string g.src.nm, .slice Ag ng cg], .box b10 [.string x.name, .int .i64 x.kind, .int .i64 x.ty, .int .i64 x.src.op, .int .i64 x.src.k, .int .i64 x.src.n, .string x.src.s, .string x.src.nm, .slice Au nu cu]] [(b7, o8 + k * 9, [.string g.name, .int .i64 g.kind, .int .i64 g.ty, .int .i64 g.src.op, .int .i64 g.src.k, .int .i64 g.src.n, .string g.src.s, .string g.src.nm, .slice Ag ng cg]), (b7, o8 + i * 9, [.string x.name, .int .i64 x.kind, .int .i64 x.ty, .int .i64 x.src.op, .int .i64 x.src.k, .int .i64 x.src.n, .string x.src.s, .string x.src.nm, .slice Au nu cu])]) (And.intro (by first | omega | (simp; omega)) (And.intro (fun H sH => hHg _ _ (hxa.sees (s4.trans (s6.trans (s12.trans sH))))) (trivial))) (And.intro (congrArg Value.bool (by simpa using g1)) (trivial)) (fun b16 _ => by kernel_rfl) ?_
          clear hJ a w; intro b16 a w hJ
          have c17 := RS.cell hro (hrk2)
          replace hJ := hJ.fact (c17.sees (s6.trans s12))
          refine rx hJ false 12 [.ix b 0 N N k, .f 0 0] [(68, .int .i64 (IntKind.i64.wrap (ρ.getD k 0 + 1)), .int .i64 (ρ.getD k 0 + 1)), (69, .int .i64 (if (ρ.getD k 0 + 1) > m0 then (ρ.getD k 0 + 1) else m0), .int .i64 (max m0 (ρ.getD k 0 + 1))), (70, .int .i64 (IntKind.i64.wrap ((k : Int) + 1)), .int .i64 ((k : Int) + 1))] (.ok (.out .normal) [] [(3, .slice (some ⟨b7, o8, none⟩) N c), (4, .slice (some ⟨b, 0, none⟩) N N), (39, .slice (some ⟨b7, o8, none⟩) N c), (40, .int .i64 (N : Int)), (41, .int .i64 (i : Int)), (42, .bool (decide ((i : Int) < (N : Int)))), (43, .int .i64 (i : Int)), (44, .pointer (some ⟨b7, o8 + i * 9, none⟩)), (45, .agg #[.string x.name, .int .i64 x.kind, .int .i64 x.ty, .int .i64 x.src.op, .int .i64 x.src.k, .int .i64 x.src.n, .string x.src.s, .string x.src.nm, .slice Au nu cu]), (8, .pointer (some ⟨b10, 0, none⟩)), (7, .int .i64 (i : Int)), (46, .slice (some ⟨b7, o8, none⟩) N c), (47, .int .i64 (N : Int)), (49, .bool (decide ((k : Int) < (N : Int)))), (50, .int .i64 (k : Int)), (51, .pointer (some ⟨b7, o8 + k * 9, none⟩)), (52, .agg #[.string g.name, .int .i64 g.kind, .int .i64 g.ty, .int .i64 g.src.op, .int .i64 g.src.k, .int .i64 g.src.n, .string g.src.s, .string g.src.nm, .slice Ag ng cg]), (11, .pointer (some ⟨b16, 0, none⟩)), (10, .int .i64 (k : Int)), (53, .pointer (some ⟨b10, 1, none⟩)), (54, .int .i64 x.kind), (55, .bool true), (56, .bool true), (57, .pointer (some ⟨b10, 3, none⟩)), (58, .agg #[.int .i64 x.src.op, .int .i64 x.src.k, .int .i64 x.src.n, .string x.src.s, .string x.src.nm, .slice Au nu cu]), (59, .pointer (some ⟨b16, 0, none⟩)), (60, .string g.name), (61, .bool true), (62, .bool true), (63, .int .i64 m0), (64, .slice (some ⟨b, 0, none⟩) N N), (65, .int .i64 (k : Int)), (66, .pointer (some ⟨b, 0 + k * 1, none⟩)), (67, .int .i64 (ρ.getD k 0)), (68, .int .i64 (ρ.getD k 0 + 1)), (69, .int .i64 (max m0 (ρ.getD k 0 + 1))), (9, .int .i64 (max m0 (ρ.getD k 0 + 1))), (70, .int .i64 ((k : Int) + 1)), (48, .int .i64 ((k : Int) + 1))] [.box b16 [.string g.name, .int .i64 g.kind, .int .i64 g.ty, .int .i64 g.src.op, .int .i64 g.src.k, .int .i64 g.src.n, .string g.src.s, .string g.src.nm, .slice Ag ng cg], .box b10 [.string x.name, .int .i64 x.kind, .int .i64 x.ty, .int .i64 x.src.op, .int .i64 x.src.k, .int .i64 x.src.n, .string x.src.s, .string x.src.nm, .slice Au nu cu]] [(b, 0 + k * 1, [.int .i64 (ρ.getD k 0)]), (b7, o8 + k * 9, [.string g.name, .int .i64 g.kind, .int .i64 g.ty, .int .i64 g.src.op, .int .i64 g.src.k, .int .i64 g.src.n, .string g.src.s, .string g.src.nm, .slice Ag ng cg]), (b7, o8 + i * 9, [.string x.name, .int .i64 x.kind, .int .i64 x.ty, .int .i64 x.src.op, .int .i64 x.src.k, .int .i64 x.src.n, .string x.src.s, .string x.src.nm, .slice Au nu cu])]) (And.intro (by first | omega | (simp; omega)) (trivial)) (And.intro (i64_wrap (by omega) (by omega)) (And.intro (congrArg (Value.int .i64) (by split <;> omega)) (And.intro (i64_wrap (by omega) (by omega)) (trivial)))) (fun _ => by kernel_rfl) ?_
          clear hJ a w; intro a w hJ
          replace hJ := hJ.drop 0
          exact x_round ⟨k + 1, ⟨h11, max m0 (ρ.getD k 0 + 1), (hJ.tof [2] (F' := [(b7, o8 + i * 9, [.string x.name, .int .i64 x.kind, .int .i64 x.ty, .int .i64 x.src.op, .int .i64 x.src.k, .int .i64 x.src.n, .string x.src.s, .string x.src.nm, .slice Au nu cu])]) (by kernel_rfl)).to (by kernel_rfl) (by kernel_rfl) rfl, s12, by omega, by omega, hm4, hm3⟩, by omega⟩
        · skip
          rw [show hasE x.src g.name = false by simpa using g2] at hHg
          have hno : k ∉ needE fs x := fun q => g2 (hik.1 q).2
          have hm3 : ∀ j ∈ needE fs x, j < k + 1 → ρ.getD j 0 + 1 ≤ m0 := fun j hj hlt => hm2 j hj (by have : j ≠ k := (fun e => hno (e ▸ hj)); omega)
          refine x_true hJ (t := decide ((k : Int) < (N : Int))) (by kernel_rfl) (decide_eq_true (by omega)) ?_
          refine rx hJ false 7 [] [] (.ok (.ops [0, 0, 0, 1, 1, 0, 0, 1, 0, 1, 1, 0, 0, 1, 1, 0, 0, 1, 0, 1, 1, 1, 1] 1) [.seq [1, 0, 0, 1, 1, 0, 0, 1, 0, 1, 1, 0, 0, 1, 1, 0, 0, 1, 0, 1, 1, 1, 1], .block 3, .seq [1, 1, 1, 0, 0, 1, 0, 1, 1, 0, 0, 1, 1, 0, 0, 1, 0, 1, 1, 1, 1]] [(3, .slice (some ⟨b7, o8, none⟩) N c), (4, .slice (some ⟨b, 0, none⟩) N N), (39, .slice (some ⟨b7, o8, none⟩) N c), (40, .int .i64 (N : Int)), (41, .int .i64 (i : Int)), (42, .bool (decide ((i : Int) < (N : Int)))), (43, .int .i64 (i : Int)), (44, .pointer (some ⟨b7, o8 + i * 9, none⟩)), (45, .agg #[.string x.name, .int .i64 x.kind, .int .i64 x.ty, .int .i64 x.src.op, .int .i64 x.src.k, .int .i64 x.src.n, .string x.src.s, .string x.src.nm, .slice Au nu cu]), (8, .pointer (some ⟨b10, 0, none⟩)), (7, .int .i64 (i : Int)), (46, .slice (some ⟨b7, o8, none⟩) N c), (47, .int .i64 (N : Int)), (48, .int .i64 (k : Int)), (9, .int .i64 m0), (49, .bool (decide ((k : Int) < (N : Int)))), (50, .int .i64 (k : Int))] [.box b10 [.string x.name, .int .i64 x.kind, .int .i64 x.ty, .int .i64 x.src.op, .int .i64 x.src.k, .int .i64 x.src.n, .string x.src.s, .string x.src.nm, .slice Au nu cu]] [(b7, o8 + i * 9, [.string x.name, .int .i64 x.kind, .int .i64 x.ty, .int .i64 x.src.op, .int .i64 x.src.k, .int .i64 x.src.n, .string x.src.s, .string x.src.nm, .slice Au nu cu])]) trivial trivial (fun _ => by kernel_rfl) ?_
          clear hJ a w; intro a w hJ
          have c18 := RS.cell hr3 (hrog)
          replace hJ := hJ.fact (c18.sees (s4.trans (s6.trans s12)))
          refine rx hJ false 29 [.ix b7 o8 N c k, .f 0 0, .own, .b 0 0, .b 1 1, .b 1 3, .b 0 0, .cl 23 #[.agg #[.int .i64 x.src.op, .int .i64 x.src.k, .int .i64 x.src.n, .string x.src.s, .string x.src.nm, .slice Au nu cu], .string g.name] (.bool false)] [(55, .bool (x.kind != 1), .bool true), (70, .int .i64 (IntKind.i64.wrap ((k : Int) + 1)), .int .i64 ((k : Int) + 1))] (.new fun b19 => .ok (.out .normal) [] [(3, .slice (some ⟨b7, o8, none⟩) N c), (4, .slice (some ⟨b, 0, none⟩) N N), (39, .slice (some ⟨b7, o8, none⟩) N c), (40, .int .i64 (N : Int)), (41, .int .i64 (i : Int)), (42, .bool (decide ((i : Int) < (N : Int)))), (43, .int .i64 (i : Int)), (44, .pointer (some ⟨b7, o8 + i * 9, none⟩)), (45, .agg #[.string x.name, .int .i64 x.kind, .int .i64 x.ty, .int .i64 x.src.op, .int .i64 x.src.k, .int .i64 x.src.n, .string x.src.s, .string x.src.nm, .slice Au nu cu]), (8, .pointer (some ⟨b10, 0, none⟩)), (7, .int .i64 (i : Int)), (46, .slice (some ⟨b7, o8, none⟩) N c), (47, .int .i64 (N : Int)), (9, .int .i64 m0), (49, .bool (decide ((k : Int) < (N : Int)))), (50, .int .i64 (k : Int)), (51, .pointer (some ⟨b7, o8 + k * 9, none⟩)), (52, .agg #[.string g.name, .int .i64 g.kind, .int .i64 g.ty, .int .i64 g.src.op, .int .i64 g.src.k, .int .i64 g.src.n, .string g.src.s, .string g.src.nm, .slice Ag ng cg]), (11, .pointer (some ⟨b19, 0, none⟩)), (10, .int .i64 (k : Int)), (53, .pointer (some ⟨b10, 1, none⟩)), (54, .int .i64 x.kind), (55, .bool true), (56, .bool true), (57, .pointer (some ⟨b10, 3, none⟩)), (58, .agg #[.int .i64 x.src.op, .int .i64 x.src.k, .int .i64 x.src.n, .string x.src.s, .string x.src.nm, .slice Au nu cu]), (59, .pointer (some ⟨b19, 0, none⟩)), (60, .string g.name), (61, .bool false), (62, .bool false), (70, .int .i64 ((k : Int) + 1)), (48, .int .i64 ((k : Int) + 1))] [.box b19 [.string g.name, .int .i64 g.kind, .int .i64 g.ty, .int .i64 g.src.op, .int .i64 g.src.k, .int .i64 g.src.n, .string g.src.s, .string g.src.nm, .slice Ag ng cg], .box b10 [.string x.name, .int .i64 x.kind, .int .i64 x.ty, .int .i64 x.src.op, .int .i64 x.src.k, .int .i64 x.src.n, .string x.src.s, .string x.src.nm, .slice Au nu cu]] [(b7, o8 + k * 9, [.string g.name, .int .i64 g.kind, .int .i64 g.ty, .int .i64 g.src.op, .int .i64 g.src.k, .int .i64 g.src.n, .string g.src.s, .string g.src.nm, .slice Ag ng cg]), (b7, o8 + i * 9, [.string x.name, .int .i64 x.kind, .int .i64 x.ty, .int .i64 x.src.op, .int .i64 x.src.k, .int .i64 x.src.n, .string x.src.s, .string x.src.nm, .slice Au nu cu])]) (And.intro (by first | omega | (simp; omega)) (And.intro (fun H sH => hHg _ _ (hxa.sees (s4.trans (s6.trans (s12.trans sH))))) (trivial))) (And.intro (congrArg Value.bool (by simpa using g1)) (And.intro (i64_wrap (by omega) (by omega)) (trivial))) (fun b19 _ => by kernel_rfl) ?_
          clear hJ a w; intro b19 a w hJ
          replace hJ := hJ.drop 0
          exact x_round ⟨k + 1, ⟨h11, m0, (hJ.tof [1] (F' := [(b7, o8 + i * 9, [.string x.name, .int .i64 x.kind, .int .i64 x.ty, .int .i64 x.src.op, .int .i64 x.src.k, .int .i64 x.src.n, .string x.src.s, .string x.src.nm, .slice Au nu cu])]) (by kernel_rfl)).to (by kernel_rfl) (by kernel_rfl) rfl, s12, by omega, hm0, hm1, hm3⟩, by omega⟩
    · skip
      have hme : ρ.getD i 0 = m0 := by
        rw [hat1]
        have t1 := top_nn ρ (needE fs x)
        have h1 : m0 ≤ topR ρ (needE fs x) := by
          rcases hm1 with q | ⟨j, hj, q⟩
          · omega
          · have := top_le (r := ρ) hj; omega
        have h2 : topR ρ (needE fs x) ≤ m0 := by
          rcases top_ex (r := ρ) (l := needE fs x) with q | ⟨j, hj, q⟩
          · omega
          · have := hm2 j hj (by have := hat2 j hj; omega); omega
        omega
      refine x_false hJ (t := decide ((k : Int) < (N : Int))) (by kernel_rfl) (decide_eq_false (by omega)) ?_
      refine rx hJ false 2 [] [] (.ok (.out (.exit 2)) [] [(3, .slice (some ⟨b7, o8, none⟩) N c), (4, .slice (some ⟨b, 0, none⟩) N N), (39, .slice (some ⟨b7, o8, none⟩) N c), (40, .int .i64 (N : Int)), (41, .int .i64 (i : Int)), (42, .bool (decide ((i : Int) < (N : Int)))), (43, .int .i64 (i : Int)), (44, .pointer (some ⟨b7, o8 + i * 9, none⟩)), (45, .agg #[.string x.name, .int .i64 x.kind, .int .i64 x.ty, .int .i64 x.src.op, .int .i64 x.src.k, .int .i64 x.src.n, .string x.src.s, .string x.src.nm, .slice Au nu cu]), (8, .pointer (some ⟨b10, 0, none⟩)), (7, .int .i64 (i : Int)), (46, .slice (some ⟨b7, o8, none⟩) N c), (47, .int .i64 (N : Int)), (48, .int .i64 (k : Int)), (9, .int .i64 m0), (49, .bool (decide ((k : Int) < (N : Int))))] [.box b10 [.string x.name, .int .i64 x.kind, .int .i64 x.ty, .int .i64 x.src.op, .int .i64 x.src.k, .int .i64 x.src.n, .string x.src.s, .string x.src.nm, .slice Au nu cu]] [(b7, o8 + i * 9, [.string x.name, .int .i64 x.kind, .int .i64 x.ty, .int .i64 x.src.op, .int .i64 x.src.k, .int .i64 x.src.n, .string x.src.s, .string x.src.nm, .slice Au nu cu])]) trivial trivial (fun _ => by kernel_rfl) ?_
      clear hJ a w; intro a w hJ
      refine x_leave rfl ?_
      refine rx hJ false 6 [] [] (.ok (.ops [0, 1, 1, 1, 0, 0, 1, 1, 0, 0, 1, 0, 1, 1, 1, 1] 2) [.seq [1, 1, 1, 1, 0, 0, 1, 1, 0, 0, 1, 0, 1, 1, 1, 1], .block 1, .seq [1, 1, 1, 0, 0, 1, 0, 1, 1, 1, 1]] [(3, .slice (some ⟨b7, o8, none⟩) N c), (4, .slice (some ⟨b, 0, none⟩) N N), (39, .slice (some ⟨b7, o8, none⟩) N c), (40, .int .i64 (N : Int)), (41, .int .i64 (i : Int)), (42, .bool (decide ((i : Int) < (N : Int)))), (43, .int .i64 (i : Int)), (44, .pointer (some ⟨b7, o8 + i * 9, none⟩)), (45, .agg #[.string x.name, .int .i64 x.kind, .int .i64 x.ty, .int .i64 x.src.op, .int .i64 x.src.k, .int .i64 x.src.n, .string x.src.s, .string x.src.nm, .slice Au nu cu]), (8, .pointer (some ⟨b10, 0, none⟩)), (7, .int .i64 (i : Int)), (46, .slice (some ⟨b7, o8, none⟩) N c), (47, .int .i64 (N : Int)), (48, .int .i64 (k : Int)), (9, .int .i64 m0), (49, .bool (decide ((k : Int) < (N : Int)))), (71, .slice (some ⟨b, 0, none⟩) N N), (72, .int .i64 (i : Int))] [.box b10 [.string x.name, .int .i64 x.kind, .int .i64 x.ty, .int .i64 x.src.op, .int .i64 x.src.k, .int .i64 x.src.n, .string x.src.s, .string x.src.nm, .slice Au nu cu]] [(b7, o8 + i * 9, [.string x.name, .int .i64 x.kind, .int .i64 x.ty, .int .i64 x.src.op, .int .i64 x.src.k, .int .i64 x.src.n, .string x.src.s, .string x.src.nm, .slice Au nu cu])]) trivial trivial (fun _ => by kernel_rfl) ?_
      clear hJ a w; intro a w hJ
      have c20 := RS.cell hro (hri)
      replace hJ := hJ.fact (c20.sees (s6.trans s12))
      refine rx hJ false 14 [.ix b 0 N N i, .f 0 0] [(76, .bool ((ρ.getD i 0) != m0), .bool false), (77, .int .i64 (IntKind.i64.wrap ((i : Int) + 1)), .int .i64 ((i : Int) + 1))] (.ok (.out .normal) [] [(3, .slice (some ⟨b7, o8, none⟩) N c), (4, .slice (some ⟨b, 0, none⟩) N N), (39, .slice (some ⟨b7, o8, none⟩) N c), (40, .int .i64 (N : Int)), (42, .bool (decide ((i : Int) < (N : Int)))), (43, .int .i64 (i : Int)), (44, .pointer (some ⟨b7, o8 + i * 9, none⟩)), (45, .agg #[.string x.name, .int .i64 x.kind, .int .i64 x.ty, .int .i64 x.src.op, .int .i64 x.src.k, .int .i64 x.src.n, .string x.src.s, .string x.src.nm, .slice Au nu cu]), (8, .pointer (some ⟨b10, 0, none⟩)), (7, .int .i64 (i : Int)), (46, .slice (some ⟨b7, o8, none⟩) N c), (47, .int .i64 (N : Int)), (48, .int .i64 (k : Int)), (9, .int .i64 m0), (49, .bool (decide ((k : Int) < (N : Int)))), (71, .slice (some ⟨b, 0, none⟩) N N), (72, .int .i64 (i : Int)), (73, .pointer (some ⟨b, 0 + i * 1, none⟩)), (74, .int .i64 (ρ.getD i 0)), (75, .int .i64 m0), (76, .bool false), (77, .int .i64 ((i : Int) + 1)), (41, .int .i64 ((i : Int) + 1))] [.box b10 [.string x.name, .int .i64 x.kind, .int .i64 x.ty, .int .i64 x.src.op, .int .i64 x.src.k, .int .i64 x.src.n, .string x.src.s, .string x.src.nm, .slice Au nu cu]] [(b, 0 + i * 1, [.int .i64 (ρ.getD i 0)]), (b7, o8 + i * 9, [.string x.name, .int .i64 x.kind, .int .i64 x.ty, .int .i64 x.src.op, .int .i64 x.src.k, .int .i64 x.src.n, .string x.src.s, .string x.src.nm, .slice Au nu cu])]) (And.intro (by first | omega | (simp; omega)) (trivial)) (And.intro (congrArg Value.bool (by rw [hme]; simp)) (And.intro (i64_wrap (by omega) (by omega)) (trivial))) (fun _ => by kernel_rfl) ?_
      clear hJ a w; intro a w hJ
      replace hJ := hJ.drop 0
      exact x_round ⟨i + 1, ⟨h11, (hJ.tof [] (F' := []) (by kernel_rfl)).to (by kernel_rfl) (by kernel_rfl) rfl, (s6.trans s12), by omega⟩, by omega⟩
  · skip
    refine x_false hJ (t := decide ((i : Int) < (N : Int))) (by kernel_rfl) (decide_eq_false (by omega)) ?_
    refine rx hJ false 2 [] [] (.ok (.out (.exit 0)) [] [(3, .slice A N c), (4, .slice (some ⟨b, 0, none⟩) N N), (39, .slice A N c), (40, .int .i64 (N : Int)), (41, .int .i64 (i : Int)), (42, .bool (decide ((i : Int) < (N : Int))))] [] []) trivial trivial (fun _ => by kernel_rfl) ?_
    clear hJ a w; intro a w hJ
    refine x_leave rfl ?_
    refine rx hJ false 8 [] [] (.ok (.out .ret) [] [(2, .bool true)] [] []) trivial trivial (fun _ => by kernel_rfl) ?_
    clear hJ a w; intro a w hJ
    refine x_end (hQ [.bool true] _ [] hJ (.rtmp hJ.j (by kernel_rfl) .nil) (no_own _) rfl ?_).1
    exact rfl

theorem rankRises_walk (v : Value) (l : List RawD) (w : World) (h : RawsOf w v l) :
    Calls Try.prog 10 #[v] w fun e w' => e = .returned (.bool true) ∧ Below w.heap.size w w' :=
  C0.law (rankRises_c l v ⟨w, []⟩ h.rs h.2.1 h.2.2)

namespace rankRisesLaw
open Go.ChangeShapes Go.WideShapes Go.ChangeAt Go.RowKit
open Go.ChangeMaps (open_string shut_string)
set_option linter.unusedVariables false

set_option maxRecDepth 100000 in
theorem lifted (os : Os) (started : os.Started) (H : Type) (enc : TypeId × Value → H) :
    ReturnsInHanded {} Try.checked os 10 .any (Rows.rankRisesSpec.pre6 enc Try.prog Try.f10 Rows.rankRisesRow.domain false) (Rows.rankRisesSpec.post enc Try.prog Try.f10 false true false false) := by
  refine returnsInHanded_of_change_sized (C := Try.checked) ownNone started (by kernel_rfl) Try.func10
    (ChangeSpec.witness6 (enc := enc) (C := Try.checked) false ⟨#[], #[.slice none 0 0], []⟩ 8 (by kernel_rfl) (by kernel_rfl) (by kernel_rfl) (by kernel_rfl)) ?_
  intro W base args ds gs before hval0 hW hcnd hsz0 _
  have hval : ∀ (j : Nat) t v, Try.f10.params[j]? = some t → args[j]? = some v → Value.okWide Try.prog W .any base t v := hval0
  have hsz : (DataW.weightsEach Try.prog (Try.f10.params.toList ++ Rows.rankRisesSpec.plain.varTypes Try.prog) (ds ++ gs)).all (· ≤ reachBytes) = true := hsz0
  have hW' := hW
  obtain ⟨p, q, hA0, hV, rfl, hfz, hnd⟩ := hW
  have hA : DataW.TrodAll enc Try.prog W 0 (fun _ => true) true Try.f10.params.toList args.toList ds p := hA0
  rw [Try.params10] at hA hval hsz
  obtain ⟨v0, vs0, d0, ds0, p0, q0, hargs, rfl, rfl, h0, r0⟩ := trodAll_cons hA
  obtain ⟨rfl, rfl, rfl⟩ := trodAll_nil r0
  obtain rfl : args = #[v0] := by cases args; simp_all
  obtain ⟨rfl, rfl⟩ := trodVars_none hV
  have k0 := h0
  have lt0 : ∀ x ∈ p0, x.block < W.heap.size := by obtain ⟨m, hm⟩ := k0; exact DataW.trod_lt m _ _ _ hm
  obtain ⟨a0, w0⟩ := open_rows (hval 0 22 v0 rfl rfl) h0 (fun es ss hd => sized_slice hsz (j := 0) (t := 22) (elems := es) (spare := ss) rfl (by rw [hd]; rfl) Try.underlying22)
  clear hA0 hval0 hsz0
  refine (rankRises_walk v0 a0 W w0).mono fun e W' ⟨he, bel⟩ => ?_
  subst he
  exact ⟨_, rfl, _, _, _, [], _, [], hW', trodAll_mk1 (shut_bool Try.underlying4 _), (trodAll_cons_mk (Below.trod laidOutTrue (by kernel_rfl) (of_decide_eq_true (by kernel_rfl)) k0 bel lt0) trodAll_mk0), rfl, bel.frame _, fun h => by cases h⟩

theorem over : Rows.rankRisesRow.holds Try.pinned (OpenSpec.ofChange Rows.rankRisesSpec) :=
  OpenClaim.holds_of_wide 10 Try.f10 rfl rfl rfl rfl rfl rfl rfl ⟨rfl, rfl, rfl, rfl, rfl⟩ rfl rfl rfl rfl rfl (by kernel_rfl) Try.func10 (by kernel_rfl)
    (of_decide_eq_true (by kernel_rfl)) (by unfold Func.isWrapper; first | (rw [if_pos (by decide +kernel)]; kernel_rfl) | (rw [if_neg (by decide +kernel)]; exact ⟨rfl, rfl⟩))
    (fun os started H enc _ => lifted os started H enc)

end rankRisesLaw
theorem rankRises_holds : Rows.RankRisesSaid := rankRisesLaw.over
#print axioms rankRises_holds
end Go.Proofs.Ytgjndkphfabnnaa
