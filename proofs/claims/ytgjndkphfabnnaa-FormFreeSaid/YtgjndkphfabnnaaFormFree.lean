/-
  For all raw things FormFree returns true.
-/
import Derived.Test.YtgjndkphfabnnaaFormG
import Derived.Test.YtgjndkphfabnnaaRanked
import Derived.Test.YtgjndkphfabnnaaLawX
namespace Go.Proofs.Ytgjndkphfabnnaa
open Go.RowKit
set_option linter.unusedVariables false

theorem mem_free {gs : List Pg} {fs : List Fd} {x : Fd} (hx : x ∈ fs) : memS (freeE gs fs) x.name = decide (ofG gs x.name < 0) := by
  rw [Bool.eq_iff_iff, memS_iff, decide_eq_true_iff]
  unfold freeE
  rw [List.mem_map]
  constructor
  · rintro ⟨y, hy, e⟩
    have := of_decide_eq_true (List.mem_filter.1 hy).2
    rw [e] at this
    exact this
  · intro q
    exact ⟨x, List.mem_filter.2 ⟨hx, decide_eq_true q⟩, rfl⟩
theorem mem_inpI {fs : List Fd} {y : Int} : ∀ {k : Nat}, y ∈ inpI fs k ↔ ∃ (i : Nat) (f : Fd), i < k ∧ fs[i]? = some f ∧ f.kind = 1 ∧ y = (i : Int)
  | 0 => ⟨fun h => (by cases h), fun ⟨i, _, h, _⟩ => absurd h (Nat.not_lt_zero _)⟩
  | k + 1 => by
    rw [inpI, List.mem_append, mem_inpI (k := k)]
    constructor
    · rintro (⟨i, f, h1, h2, h3, h4⟩ | h)
      · exact ⟨i, f, by omega, h2, h3, h4⟩
      · split at h
        · rename_i f hf
          split at h
          · rename_i hk
            exact ⟨k, f, by omega, hf, hk, List.mem_singleton.1 h⟩
          · cases h
        · cases h
    · rintro ⟨i, f, h1, h2, h3, h4⟩
      by_cases e : i = k
      · subst e
        right
        rw [h2]
        simp only
        rw [if_pos h3, h4]; simp
      · exact .inl ⟨i, f, by omega, h2, h3, h4⟩
theorem inp_val {fs : List Fd} {i : Nat} {x : Fd} (hx : fs[i]? = some x) {n : Nat} (hi : i < n) : decide (0 ≤ fidx (fun y : Int => (i : Int) == y) (inpI fs n)) = (x.kind == 1) := by
  have e : decide (0 ≤ fidx (fun y : Int => (i : Int) == y) (inpI fs n)) = (inpI fs n).any (fun y : Int => (i : Int) == y) := fidx_dec _ _
  rw [e, Bool.eq_iff_iff, List.any_eq_true, beq_iff_eq]
  constructor
  · rintro ⟨y, hy, q⟩
    obtain ⟨j, f, h1, h2, h3, h4⟩ := mem_inpI.1 hy
    have q := beq_iff_eq.1 q
    have : j = i := by omega
    subst this
    rw [hx] at h2
    rw [Option.some.inj h2]; exact h3
  · intro q
    exact ⟨(i : Int), mem_inpI.2 ⟨i, x, hi, hx, q, rfl⟩, by simp⟩
theorem small_okG : OkGs smallF.fields smallF.pages := by
  have hm : ∀ p ∈ smallF.pages, p = ⟨⟨#[112, 49]⟩, [⟨#[97]⟩], zE⟩ ∨ p = ⟨⟨#[112, 50]⟩, [⟨#[99]⟩], zE⟩ := fun p hp => by
    have hp : p ∈ [(⟨⟨#[112, 49]⟩, [⟨#[97]⟩], zE⟩ : Pg), ⟨⟨#[112, 50]⟩, [⟨#[99]⟩], zE⟩] := hp
    rcases List.mem_cons.1 hp with h | h
    · exact .inl h
    · exact .inr (List.mem_singleton.1 h)
  have p1 : findF smallF.fields ⟨#[97]⟩ = (1 : Nat) := findF_at small_ok.nodup (i := 1) (f := ⟨⟨#[97]⟩, 1, 1, zE⟩) rfl
  have p2 : findF smallF.fields ⟨#[99]⟩ = (2 : Nat) := findF_at small_ok.nodup (i := 2) (f := ⟨⟨#[99]⟩, 3, 3, smallB⟩) rfl
  refine ⟨by decide, by decide, fun p h => ?_, by decide, fun p h => ?_, fun p h s hs => ?_, by decide, fun p h => ?_⟩
  · rcases hm p h with rfl | rfl
    · exact ⟨by decide, by decide, ⟨_, rfl, by decide⟩, by decide, by decide⟩
    · exact ⟨by decide, by decide, ⟨_, rfl, by decide⟩, by decide, by decide⟩
  · rcases hm p h with rfl | rfl <;> decide
  · rcases hm p h with rfl | rfl
    · rw [List.mem_singleton.1 hs, p1]; omega
    · rw [List.mem_singleton.1 hs, p2]; omega
  · rcases hm p h with rfl | rfl <;> exact .inl rfl
theorem small_free : freeE smallF.pages smallF.fields = [⟨#[98]⟩] := by
  have no : ∀ s t : ByteArray, s.data ≠ t.data → memS [s] t = false := fun s t h => by
    rw [Bool.eq_false_iff]
    intro q
    exact h (congrArg ByteArray.data (List.mem_singleton.1 (memS_iff.1 q))).symm
  have a : ofG smallF.pages ⟨#[97]⟩ = 0 := fidx_found _ smallF.pages 0 ⟨⟨#[112, 49]⟩, [⟨#[97]⟩], zE⟩ (fun y hy => by simp at hy) rfl (memS_iff.2 (by simp))
  have c : ofG smallF.pages ⟨#[99]⟩ = 1 := fidx_found _ smallF.pages 1 ⟨⟨#[112, 50]⟩, [⟨#[99]⟩], zE⟩ (fun y hy => by
    have hy : y ∈ [(⟨⟨#[112, 49]⟩, [⟨#[97]⟩], zE⟩ : Pg)] := hy
    rw [List.mem_singleton.1 hy]; exact no _ _ (by decide)) rfl (memS_iff.2 (by simp))
  have b : ofG smallF.pages ⟨#[98]⟩ = -1 := fidx_none _ smallF.pages fun y hy => by
    have hy : y ∈ [(⟨⟨#[112, 49]⟩, [⟨#[97]⟩], zE⟩ : Pg), ⟨⟨#[112, 50]⟩, [⟨#[99]⟩], zE⟩] := hy
    rcases List.mem_cons.1 hy with rfl | hy
    · exact no _ _ (by decide)
    · rw [List.mem_singleton.1 hy]; exact no _ _ (by decide)
  show (([(⟨⟨#[98]⟩, 2, 1, smallX⟩ : Fd), ⟨⟨#[97]⟩, 1, 1, zE⟩, ⟨⟨#[99]⟩, 3, 3, smallB⟩].filter fun x => decide (ofG smallF.pages x.name < 0)).map fun x => x.name) = _
  simp [a, b, c]

set_option maxHeartbeats 4000000 in
set_option maxRecDepth 100000 in
theorem formFree_c (l : List RawD) (sl : Value) (h : Vw) (hl : RS h 4 sl (l.map RawD.cs)) (ll : l.length * 40 ≤ reachBytes) (ol : ∀ r ∈ l, r.ok) :
    C0 Try.prog 6 #[sl] h (fun v _ => v = .bool true) := by
  have hF := fun H q => form_c l sl H q ll ol
  have hn := nFields_le l
  have hfl := form_len l
  have hok : OkFm (formE l) _ _ := ⟨form_okFs l _ (form_nodup l) (fun f => Iff.rfl) (by omega), form_okGs l, form_ranked l⟩
  have hSm : OkFm smallF _ _ := ⟨small_ok, small_okG, small_ranked⟩
  rw [hfl] at hF
  have hFr := fun H A c B m d q => free_any (formE l) _ _ A (nFields l) c B m d H hok q hfl.symm
  have hSf := fun H A c B m d q => free_any smallF _ _ A 3 c B m d H hSm q rfl
  rw [small_free] at hSf
  have hIn := fun H A c B m d q => shInputs_any (formE l) _ _ A (nFields l) c B m d H hok q hfl.symm
  have gfew := hok.pages.few
  have hO := fun H B m d s q => gOf_any (formE l).pages (.slice B m d) s H q (by omega) (fun p hp => by have := hok.pages.fl p hp; omega)
  have hE := fun H b q1 q2 A c q3 => eqS_any [⟨#[98]⟩] [⟨#[98]⟩] (.slice A 1 c) (.slice (some ⟨b, 0, none⟩) q1 q2) H q3
  have hrw : ∀ H b, Cells H b 0 [.string ⟨#[98]⟩] → RS H 1 (.slice (some ⟨b, 0, none⟩) 1 1) (strRows [⟨#[98]⟩]) := fun H b c => rs_cells (k := 1) (strRows [⟨#[98]⟩]) (fun r hr => by simp at hr; subst hr; rfl) (show (1 : Nat) ≤ maxLen by decide) c
  have hfrl : (freeE (formE l).pages (formE l).fields).length ≤ 1000000 := by have := freeE_len (formE l).pages (formE l).fields; omega
  have hil : (inpI (formE l).fields (nFields l)).length ≤ 1000000 := by have := inpI_len (formE l).fields (nFields l); omega
  have hmf := fun x hx => mem_free (gs := (formE l).pages) (fs := (formE l).fields) (x := x) hx
  have hiv := fun i x (hx : (formE l).fields[i]? = some x) (hi : i < nFields l) => inp_val hx hi
  generalize hN : nFields l = N at *
  obtain ⟨A1, cap1, rfl, -, -, -⟩ := hl.form
  rw [List.length_map] at *
  generalize l.length = n1 at *
  refine x_con Try.func6 (c := Try.f6.body.getD .skip) (by kernel_rfl) (N := 86) rfl (by kernel_rfl) ?_
  intro hbx hbad Q hQ a w hJ
  replace hJ : K ⟨86, h.w, h.bad, []⟩ [(0, .slice A1 n1 cap1)] [] [] h a w := hJ.to (by kernel_rfl) (by kernel_rfl) rfl
  refine rx hJ false 8 [] [] (.ok (.ops [0, 1] 1) [.seq [1, 1]] [(2, .bool false), (16, .slice A1 n1 cap1)] [] []) trivial trivial (fun _ => by kernel_rfl) ?_
  clear hJ a w; intro a w hJ
  refine x_call hJ 17 (hF _ (hl.sees hJ.j.sees)) (fun _ => by kernel_rfl) ?_; clear hJ a w; rintro _ h1 a w s2 ⟨A, c, B, d, rfl, hf⟩ hJ
  refine rx hJ false 7 [.own, .b 0 0, .b 0 0] [] (.new fun b3 => .ok (.ops [0, 1, 1] 1) [.seq [1, 1, 1]] [(2, .bool false), (3, .pointer (some ⟨b3, 0, none⟩)), (19, .agg #[.slice A N c, .slice B ((formE l).pages.length) d])] [.box b3 [.slice A N c, .slice B ((formE l).pages.length) d]] []) trivial trivial (fun b3 _ => by kernel_rfl) ?_
  clear hJ a w; intro b3 a w hJ
  refine x_call hJ 20 (hFr _ _ _ _ _ _ (hf.sees hJ.j.sees)) (fun _ => by kernel_rfl) ?_; clear hJ a w; rintro _ h4 a w s5 ⟨Ar, cr, rfl, hfr⟩ hJ
  refine rx hJ false 9 [] [] (.ok (.ops [0, 1, 1, 1] 0) [.seq [1, 1, 1, 1]] [(2, .bool false), (3, .pointer (some ⟨b3, 0, none⟩)), (4, .slice Ar ((freeE (formE l).pages (formE l).fields).length) cr), (5, .int .i64 0)] [.box b3 [.slice A N c, .slice B ((formE l).pages.length) d]] []) trivial trivial (fun _ => by kernel_rfl) ?_
  clear hJ a w; intro a w hJ
  refine x_call hJ 24 (small_any _) (fun _ => by kernel_rfl) ?_; clear hJ a w; rintro _ h6 a w s7 ⟨As, cs, Bs, ds, rfl, hfs⟩ hJ
  refine x_call hJ 25 (hSf _ _ _ _ _ _ (hfs.sees hJ.j.sees)) (fun _ => by kernel_rfl) ?_; clear hJ a w; rintro _ h8 a w s9 ⟨Ao, co, rfl, hfo⟩ hJ
  refine rx hJ true 19 [.fix] [] (.new fun bv36 => .ok (.ops [0, 0, 1, 1, 1, 1] 9) [.seq [1, 0, 1, 1, 1, 1], .seq [1, 1, 1, 1, 1]] [(2, .bool false), (3, .pointer (some ⟨b3, 0, none⟩)), (4, .slice Ar ((freeE (formE l).pages (formE l).fields).length) cr), (34, .bool false), (35, .slice Ao 1 co), (36, .slice (some ⟨bv36, 0, none⟩) 1 1)] [.box b3 [.slice A N c, .slice B ((formE l).pages.length) d]] [(bv36, 0, [.string ⟨#[98]⟩])]) trivial trivial (fun bv36 _ => by kernel_rfl) ?_
  clear hJ a w; intro bv36 h10 a w s11 hJ
  have v36 : Cells h10 bv36 0 [.string ⟨#[98]⟩] := hJ.f _ (List.mem_of_getElem? (i := 0) rfl)
  refine rx hJ false 18 [.cl 19 #[.slice Ao 1 co, .slice (some ⟨bv36, 0, none⟩) 1 1] (.bool true), .b 0 0] [] (.ok (.code [0, 1, 0, 1, 1, 1, 1, 1]) [.block 0, .seq [1, 1, 1, 1, 1, 1]] [(2, .bool false), (3, .pointer (some ⟨b3, 0, none⟩)), (4, .slice Ar ((freeE (formE l).pages (formE l).fields).length) cr), (41, .slice A N c), (42, .int .i64 (N : Int)), (43, .int .i64 0)] [.box b3 [.slice A N c, .slice B ((formE l).pages.length) d]] [(bv36, 0, [.string ⟨#[98]⟩])]) (And.intro (fun H sH => hE _ _ _ _ _ _ (hfo.sees (s11.trans sH)) (hrw _ _ (v36.sees sH)) (by decide) (by decide)) (trivial)) trivial (fun _ => by kernel_rfl) ?_
  clear hJ a w; intro a w hJ
  obtain ⟨vs, A3, c3, e3, -, -, hr3, hs3, hl3, hsl⟩ := fds_open hf.fields
  simp only [Value.slice.injEq] at e3
  obtain ⟨rfl, -, rfl⟩ := e3
  rw [hfl] at hr3 hl3
  refine x_loop (fun (i : Nat) a w => ∃ (h12 : Vw) , K ⟨86, h.w, h.bad, []⟩ [(3, .pointer (some ⟨b3, 0, none⟩)), (4, .slice Ar ((freeE (formE l).pages (formE l).fields).length) cr), (41, .slice A N c), (42, .int .i64 (N : Int)), (43, .int .i64 (i : Int))] [.box b3 [.slice A N c, .slice B ((formE l).pages.length) d]] [(bv36, 0, [.string ⟨#[98]⟩])] h12 a w ∧ Sees h10 h12 ∧ (i ≤ N)) (fun i => N - i) (0) (by kernel_rfl) ⟨h10, hJ.to (by kernel_rfl) (by kernel_rfl) rfl, Sees.refl _, Nat.zero_le _⟩ ?_
  clear hJ a w; rintro i a w ⟨h12, hJ, s13, hi⟩
  refine rx hJ false 6 [] [] (.ok (.code [0, 1, 0, 0, 1, 0, 1, 1, 1, 1, 1]) [.seq [1, 1, 0, 0, 1, 0, 1, 1, 1, 1, 1]] [(3, .pointer (some ⟨b3, 0, none⟩)), (4, .slice Ar ((freeE (formE l).pages (formE l).fields).length) cr), (41, .slice A N c), (42, .int .i64 (N : Int)), (43, .int .i64 (i : Int)), (44, .bool (decide ((i : Int) < (N : Int))))] [.box b3 [.slice A N c, .slice B ((formE l).pages.length) d]] [(bv36, 0, [.string ⟨#[98]⟩])]) trivial trivial (fun _ => by kernel_rfl) ?_
  clear hJ a w; intro a w hJ
  rcases (by omega : i < N ∨ i = N) with hlt | hke
  · obtain ⟨x, hx⟩ : ∃ x, (formE l).fields[i]? = some x := ⟨_, List.getElem?_eq_getElem (by omega)⟩
    obtain ⟨u, hu⟩ : ∃ u, vs[i]? = some u := ⟨_, List.getElem?_eq_getElem (by omega)⟩
    have hrow := fdRows_get hx hu
    obtain ⟨Au, nu, cu, rfl⟩ := (AllArgs.get hs3 (x := x.src) (by rw [List.getElem?_map, hx]; rfl) hu).slice
    have hco := fun H u q => contS_any (freeE (formE l).pages (formE l).fields) u x.name H q hfrl
    rw [hmf x (List.mem_of_getElem? hx)] at hco
    have hOx := fun H B m d q => hO H B m d x.name q
    by_cases g : ofG (formE l).pages x.name < 0
    · rw [if_pos g, if_pos g] at hOx
      rw [decide_eq_true g] at hco
      refine x_true hJ (t := decide ((i : Int) < (N : Int))) (by kernel_rfl) (decide_eq_true (by omega)) ?_
      refine rx hJ false 6 [] [] (.ok (.ops [0, 0, 0, 1, 1, 0, 0, 1, 0, 1, 1, 1, 1, 1] 0) [.seq [1, 0, 0, 1, 1, 0, 0, 1, 0, 1, 1, 1, 1, 1], .block 1, .seq [1, 1, 1, 0, 0, 1, 0, 1, 1, 1, 1, 1]] [(3, .pointer (some ⟨b3, 0, none⟩)), (4, .slice Ar ((freeE (formE l).pages (formE l).fields).length) cr), (41, .slice A N c), (42, .int .i64 (N : Int)), (43, .int .i64 (i : Int)), (44, .bool (decide ((i : Int) < (N : Int))))] [.box b3 [.slice A N c, .slice B ((formE l).pages.length) d]] [(bv36, 0, [.string ⟨#[98]⟩])]) trivial trivial (fun _ => by kernel_rfl) ?_
      clear hJ a w; intro a w hJ
      obtain ⟨b14, o15, rfl, -, c16⟩ := RS.row hr3 (hrow)
      replace hJ := hJ.fact (c16.sees (s5.trans (s7.trans (s9.trans (s11.trans s13)))))
      refine rx hJ false 39 [.ix b14 o15 N c i, .f 0 0, .own, .b 0 0, .b 1 1, .b 0 0, .cl 30 #[.slice B ((formE l).pages.length) d, .string x.name] (.tuple #[.int .i64 0, .int .i64 5]), .b 0 0, .cl 24 #[.slice Ar ((freeE (formE l).pages (formE l).fields).length) cr, .string x.name] (.bool true)] [(61, .bool false, .bool false), (62, .int .i64 (IntKind.i64.wrap ((i : Int) + 1)), .int .i64 ((i : Int) + 1))] (.new fun b17 => .ok (.out .normal) [] [(3, .pointer (some ⟨b3, 0, none⟩)), (4, .slice Ar ((freeE (formE l).pages (formE l).fields).length) cr), (41, .slice (some ⟨b14, o15, none⟩) N c), (42, .int .i64 (N : Int)), (44, .bool (decide ((i : Int) < (N : Int)))), (45, .pointer (some ⟨b14, o15 + i * 9, none⟩)), (46, .agg #[.string x.name, .int .i64 x.kind, .int .i64 x.ty, .int .i64 x.src.op, .int .i64 x.src.k, .int .i64 x.src.n, .string x.src.s, .string x.src.nm, .slice Au nu cu]), (9, .pointer (some ⟨b17, 0, none⟩)), (48, .pointer (some ⟨b3, 1, none⟩)), (49, .slice B ((formE l).pages.length) d), (50, .pointer (some ⟨b17, 0, none⟩)), (51, .string x.name), (52, .tuple #[.int .i64 0, .int .i64 5]), (47, .tuple #[.int .i64 0, .int .i64 5]), (53, .int .i64 0), (54, .int .i64 5), (11, .int .i64 5), (55, .int .i64 5), (56, .bool false), (57, .slice Ar ((freeE (formE l).pages (formE l).fields).length) cr), (58, .pointer (some ⟨b17, 0, none⟩)), (59, .string x.name), (60, .bool true), (61, .bool false), (62, .int .i64 ((i : Int) + 1)), (43, .int .i64 ((i : Int) + 1))] [.box b17 [.string x.name, .int .i64 x.kind, .int .i64 x.ty, .int .i64 x.src.op, .int .i64 x.src.k, .int .i64 x.src.n, .string x.src.s, .string x.src.nm, .slice Au nu cu], .box b3 [.slice (some ⟨b14, o15, none⟩) N c, .slice B ((formE l).pages.length) d]] [(b14, o15 + i * 9, [.string x.name, .int .i64 x.kind, .int .i64 x.ty, .int .i64 x.src.op, .int .i64 x.src.k, .int .i64 x.src.n, .string x.src.s, .string x.src.nm, .slice Au nu cu]), (bv36, 0, [.string ⟨#[98]⟩])]) (And.intro (by first | omega | (simp; omega)) (And.intro (fun H sH => hOx _ _ _ _ ((hf.sees (s5.trans (s7.trans (s9.trans (s11.trans (s13.trans sH))))))).pages) (And.intro (fun H sH => hco _ _ (hfr.sees (s7.trans (s9.trans (s11.trans (s13.trans sH)))))) (trivial)))) (And.intro (rfl) (And.intro (i64_wrap (by omega) (by omega)) (trivial))) (fun b17 _ => by kernel_rfl) ?_
      clear hJ a w; intro b17 a w hJ
      replace hJ := hJ.drop 0
      exact x_round ⟨i + 1, ⟨h12, (hJ.tof [1] (F' := [(bv36, 0, [.string ⟨#[98]⟩])]) (by kernel_rfl)).to (by kernel_rfl) (by kernel_rfl) rfl, s13, by omega⟩, by omega⟩
    · skip
      rw [if_neg g, if_neg g] at hOx
      rw [decide_eq_false g] at hco
      refine x_true hJ (t := decide ((i : Int) < (N : Int))) (by kernel_rfl) (decide_eq_true (by omega)) ?_
      refine rx hJ false 6 [] [] (.ok (.ops [0, 0, 0, 1, 1, 0, 0, 1, 0, 1, 1, 1, 1, 1] 0) [.seq [1, 0, 0, 1, 1, 0, 0, 1, 0, 1, 1, 1, 1, 1], .block 1, .seq [1, 1, 1, 0, 0, 1, 0, 1, 1, 1, 1, 1]] [(3, .pointer (some ⟨b3, 0, none⟩)), (4, .slice Ar ((freeE (formE l).pages (formE l).fields).length) cr), (41, .slice A N c), (42, .int .i64 (N : Int)), (43, .int .i64 (i : Int)), (44, .bool (decide ((i : Int) < (N : Int))))] [.box b3 [.slice A N c, .slice B ((formE l).pages.length) d]] [(bv36, 0, [.string ⟨#[98]⟩])]) trivial trivial (fun _ => by kernel_rfl) ?_
      clear hJ a w; intro a w hJ
      obtain ⟨b18, o19, rfl, -, c20⟩ := RS.row hr3 (hrow)
      replace hJ := hJ.fact (c20.sees (s5.trans (s7.trans (s9.trans (s11.trans s13)))))
      refine rx hJ false 39 [.ix b18 o19 N c i, .f 0 0, .own, .b 0 0, .b 1 1, .b 0 0, .cl 30 #[.slice B ((formE l).pages.length) d, .string x.name] (.tuple #[.int .i64 (ofG (formE l).pages x.name), .int .i64 0]), .b 0 0, .cl 24 #[.slice Ar ((freeE (formE l).pages (formE l).fields).length) cr, .string x.name] (.bool false)] [(61, .bool false, .bool false), (62, .int .i64 (IntKind.i64.wrap ((i : Int) + 1)), .int .i64 ((i : Int) + 1))] (.new fun b21 => .ok (.out .normal) [] [(3, .pointer (some ⟨b3, 0, none⟩)), (4, .slice Ar ((freeE (formE l).pages (formE l).fields).length) cr), (41, .slice (some ⟨b18, o19, none⟩) N c), (42, .int .i64 (N : Int)), (44, .bool (decide ((i : Int) < (N : Int)))), (45, .pointer (some ⟨b18, o19 + i * 9, none⟩)), (46, .agg #[.string x.name, .int .i64 x.kind, .int .i64 x.ty, .int .i64 x.src.op, .int .i64 x.src.k, .int .i64 x.src.n, .string x.src.s, .string x.src.nm, .slice Au nu cu]), (9, .pointer (some ⟨b21, 0, none⟩)), (48, .pointer (some ⟨b3, 1, none⟩)), (49, .slice B ((formE l).pages.length) d), (50, .pointer (some ⟨b21, 0, none⟩)), (51, .string x.name), (52, .tuple #[.int .i64 (ofG (formE l).pages x.name), .int .i64 0]), (47, .tuple #[.int .i64 (ofG (formE l).pages x.name), .int .i64 0]), (53, .int .i64 (ofG (formE l).pages x.name)), (54, .int .i64 0), (11, .int .i64 0), (55, .int .i64 0), (56, .bool true), (57, .slice Ar ((freeE (formE l).pages (formE l).fields).length) cr), (58, .pointer (some ⟨b21, 0, none⟩)), (59, .string x.name), (60, .bool false), (61, .bool false), (62, .int .i64 ((i : Int) + 1)), (43, .int .i64 ((i : Int) + 1))] [.box b21 [.string x.name, .int .i64 x.kind, .int .i64 x.ty, .int .i64 x.src.op, .int .i64 x.src.k, .int .i64 x.src.n, .string x.src.s, .string x.src.nm, .slice Au nu cu], .box b3 [.slice (some ⟨b18, o19, none⟩) N c, .slice B ((formE l).pages.length) d]] [(b18, o19 + i * 9, [.string x.name, .int .i64 x.kind, .int .i64 x.ty, .int .i64 x.src.op, .int .i64 x.src.k, .int .i64 x.src.n, .string x.src.s, .string x.src.nm, .slice Au nu cu]), (bv36, 0, [.string ⟨#[98]⟩])]) (And.intro (by first | omega | (simp; omega)) (And.intro (fun H sH => hOx _ _ _ _ ((hf.sees (s5.trans (s7.trans (s9.trans (s11.trans (s13.trans sH))))))).pages) (And.intro (fun H sH => hco _ _ (hfr.sees (s7.trans (s9.trans (s11.trans (s13.trans sH)))))) (trivial)))) (And.intro (rfl) (And.intro (i64_wrap (by omega) (by omega)) (trivial))) (fun b21 _ => by kernel_rfl) ?_
      clear hJ a w; intro b21 a w hJ
      replace hJ := hJ.drop 0
      exact x_round ⟨i + 1, ⟨h12, (hJ.tof [1] (F' := [(bv36, 0, [.string ⟨#[98]⟩])]) (by kernel_rfl)).to (by kernel_rfl) (by kernel_rfl) rfl, s13, by omega⟩, by omega⟩
  · skip
    refine x_false hJ (t := decide ((i : Int) < (N : Int))) (by kernel_rfl) (decide_eq_false (by omega)) ?_
    refine rx hJ false 2 [] [] (.ok (.out (.exit 0)) [] [(3, .pointer (some ⟨b3, 0, none⟩)), (4, .slice Ar ((freeE (formE l).pages (formE l).fields).length) cr), (41, .slice A N c), (42, .int .i64 (N : Int)), (43, .int .i64 (i : Int)), (44, .bool (decide ((i : Int) < (N : Int))))] [.box b3 [.slice A N c, .slice B ((formE l).pages.length) d]] [(bv36, 0, [.string ⟨#[98]⟩])]) trivial trivial (fun _ => by kernel_rfl) ?_
    clear hJ a w; intro a w hJ
    refine x_leave rfl ?_
    refine rx hJ false 5 [.b 0 0] [] (.ok (.ops [0, 1, 1, 1, 1, 1, 1] 1) [.seq [1, 1, 1, 1, 1, 1, 1]] [(3, .pointer (some ⟨b3, 0, none⟩)), (64, .agg #[.slice A N c, .slice B ((formE l).pages.length) d])] [.box b3 [.slice A N c, .slice B ((formE l).pages.length) d]] [(bv36, 0, [.string ⟨#[98]⟩])]) trivial trivial (fun _ => by kernel_rfl) ?_
    clear hJ a w; intro a w hJ
    refine x_call hJ 65 (hIn _ _ _ _ _ _ (hf.sees (s5.trans (s7.trans (s9.trans (s11.trans (s13.trans hJ.j.sees))))))) (fun _ => by kernel_rfl) ?_; clear hJ a w; rintro _ h22 a w s23 ⟨Ai, ci, rfl, hfi⟩ hJ
    refine rx hJ false 17 [.b 0 0] [] (.ok (.code [0, 1, 0, 1, 1, 1, 1, 1, 1, 1]) [.block 2, .seq [1, 1, 1, 1, 1, 1, 1, 1]] [(12, .slice Ai ((inpI (formE l).fields N).length) ci), (13, .int .i64 0), (69, .slice A N c), (70, .int .i64 (N : Int)), (71, .int .i64 0)] [.box b3 [.slice A N c, .slice B ((formE l).pages.length) d]] [(bv36, 0, [.string ⟨#[98]⟩])]) trivial trivial (fun _ => by kernel_rfl) ?_
    clear hJ a w; intro a w hJ
    refine x_loop (fun (k : Nat) a w => ∃ (h24 : Vw) , K ⟨86, h.w, h.bad, []⟩ [(12, .slice Ai ((inpI (formE l).fields N).length) ci), (13, .int .i64 0), (69, .slice A N c), (70, .int .i64 (N : Int)), (71, .int .i64 (k : Int))] [.box b3 [.slice A N c, .slice B ((formE l).pages.length) d]] [(bv36, 0, [.string ⟨#[98]⟩])] h24 a w ∧ Sees h22 h24 ∧ (k ≤ N)) (fun k => N - k) (0) (by kernel_rfl) ⟨h22, hJ.to (by kernel_rfl) (by kernel_rfl) rfl, Sees.refl _, Nat.zero_le _⟩ ?_
    clear hJ a w; rintro k a w ⟨h24, hJ, s25, hk⟩
    refine rx hJ false 6 [] [] (.ok (.code [0, 1, 0, 0, 1, 0, 1, 1, 1, 1, 1, 1, 1]) [.seq [1, 1, 0, 0, 1, 0, 1, 1, 1, 1, 1, 1, 1]] [(12, .slice Ai ((inpI (formE l).fields N).length) ci), (13, .int .i64 0), (69, .slice A N c), (70, .int .i64 (N : Int)), (71, .int .i64 (k : Int)), (72, .bool (decide ((k : Int) < (N : Int))))] [.box b3 [.slice A N c, .slice B ((formE l).pages.length) d]] [(bv36, 0, [.string ⟨#[98]⟩])]) trivial trivial (fun _ => by kernel_rfl) ?_
    clear hJ a w; intro a w hJ
    rcases (by omega : k < N ∨ k = N) with hlt2 | hke2
    · obtain ⟨x, hx⟩ : ∃ x, (formE l).fields[k]? = some x := ⟨_, List.getElem?_eq_getElem (by omega)⟩
      obtain ⟨u, hu⟩ : ∃ u, vs[k]? = some u := ⟨_, List.getElem?_eq_getElem (by omega)⟩
      have hrow := fdRows_get hx hu
      obtain ⟨Au, nu, cu, rfl⟩ := (AllArgs.get hs3 (x := x.src) (by rw [List.getElem?_map, hx]; rfl) hu).slice
      have hci := fun H u q => contN_any (inpI (formE l).fields N) u (k : Int) H q hil
      rw [hiv k x hx hlt2] at hci
      generalize hb : (x.kind == 1) = bk at *
      refine x_true hJ (t := decide ((k : Int) < (N : Int))) (by kernel_rfl) (decide_eq_true (by omega)) ?_
      refine rx hJ false 7 [] [] (.ok (.ops [0, 0, 0, 1, 1, 0, 0, 1, 0, 1, 1, 1, 1, 1, 1, 1] 1) [.seq [1, 0, 0, 1, 1, 0, 0, 1, 0, 1, 1, 1, 1, 1, 1, 1], .block 3, .seq [1, 1, 1, 0, 0, 1, 0, 1, 1, 1, 1, 1, 1, 1]] [(12, .slice Ai ((inpI (formE l).fields N).length) ci), (13, .int .i64 0), (69, .slice A N c), (70, .int .i64 (N : Int)), (71, .int .i64 (k : Int)), (72, .bool (decide ((k : Int) < (N : Int)))), (73, .int .i64 (k : Int))] [.box b3 [.slice A N c, .slice B ((formE l).pages.length) d]] [(bv36, 0, [.string ⟨#[98]⟩])]) trivial trivial (fun _ => by kernel_rfl) ?_
      clear hJ a w; intro a w hJ
      obtain ⟨b26, o27, rfl, -, c28⟩ := RS.row hr3 (hrow)
      replace hJ := hJ.fact (c28.sees (s5.trans (s7.trans (s9.trans (s11.trans (s13.trans (s23.trans s25)))))))
      refine rx hJ false 8 [.ix b26 o27 N c k, .f 0 0, .own, .b 0 0] [] (.new fun b29 => .ok (.code [0, 1, 0, 0, 1, 1, 0, 0, 1, 0, 1, 1, 1, 1, 1, 1, 1]) [.seq [1, 1, 0, 0, 1, 1, 0, 0, 1, 0, 1, 1, 1, 1, 1, 1, 1], .block 3, .seq [1, 1, 1, 0, 0, 1, 0, 1, 1, 1, 1, 1, 1, 1]] [(12, .slice Ai ((inpI (formE l).fields N).length) ci), (13, .int .i64 0), (69, .slice (some ⟨b26, o27, none⟩) N c), (70, .int .i64 (N : Int)), (71, .int .i64 (k : Int)), (72, .bool (decide ((k : Int) < (N : Int)))), (73, .int .i64 (k : Int)), (74, .pointer (some ⟨b26, o27 + k * 9, none⟩)), (75, .agg #[.string x.name, .int .i64 x.kind, .int .i64 x.ty, .int .i64 x.src.op, .int .i64 x.src.k, .int .i64 x.src.n, .string x.src.s, .string x.src.nm, .slice Au nu cu]), (15, .pointer (some ⟨b29, 0, none⟩)), (14, .int .i64 (k : Int))] [.box b29 [.string x.name, .int .i64 x.kind, .int .i64 x.ty, .int .i64 x.src.op, .int .i64 x.src.k, .int .i64 x.src.n, .string x.src.s, .string x.src.nm, .slice Au nu cu], .box b3 [.slice (some ⟨b26, o27, none⟩) N c, .slice B ((formE l).pages.length) d]] [(b26, o27 + k * 9, [.string x.name, .int .i64 x.kind, .int .i64 x.ty, .int .i64 x.src.op, .int .i64 x.src.k, .int .i64 x.src.n, .string x.src.s, .string x.src.nm, .slice Au nu cu]), (bv36, 0, [.string ⟨#[98]⟩])]) (And.intro (by first | omega | (simp; omega)) (trivial)) trivial (fun b29 _ => by kernel_rfl) ?_
      clear hJ a w; intro b29 a w hJ
      let R : Reg := ⟨⟨86, h.w, h.bad, []⟩, [(0, 76, fun gh => .slice Ai ((inpI (formE l).fields N).length) ci), (1, 77, fun gh => .int .i64 (k : Int)), (2, 78, fun gh => .bool bk), (3, 79, fun gh => .pointer (some ⟨b29, 1, none⟩)), (4, 80, fun gh => .int .i64 x.kind), (5, 81, fun gh => .bool bk), (6, 82, fun gh => .bool false)], [(12, .slice Ai ((inpI (formE l).fields N).length) ci), (13, .int .i64 0), (69, .slice (some ⟨b26, o27, none⟩) N c), (70, .int .i64 (N : Int)), (71, .int .i64 (k : Int)), (72, .bool (decide ((k : Int) < (N : Int)))), (73, .int .i64 (k : Int)), (74, .pointer (some ⟨b26, o27 + k * 9, none⟩)), (75, .agg #[.string x.name, .int .i64 x.kind, .int .i64 x.ty, .int .i64 x.src.op, .int .i64 x.src.k, .int .i64 x.src.n, .string x.src.s, .string x.src.nm, .slice Au nu cu]), (15, .pointer (some ⟨b29, 0, none⟩)), (14, .int .i64 (k : Int))], [⟨some (.box b29 [.string x.name, .int .i64 x.kind, .int .i64 x.ty, .int .i64 x.src.op, .int .i64 x.src.k, .int .i64 x.src.n, .string x.src.s, .string x.src.nm, .slice Au nu cu]), []⟩, ⟨some (.box b3 [.slice (some ⟨b26, o27, none⟩) N c, .slice B ((formE l).pages.length) d]), []⟩], [], [[], [], [0, 1], [], [3], [3, 4], [0, 1, 2, 3, 4, 5]], h24⟩
      have hmono : ∀ zq ∈ R.F, ∀ zx zh zi, Sees zh zi → zq.2 zx zh → zq.2 zx zi := mono_nil
      refine x_region (by kernel_rfl) R hJ 7 [.pu, .pu, .cl, .pu, .ld 0 1, .cl, .cl] (by kernel_rfl) hmono (fun _ _ _ => by kernel_rfl) (fun hT hA => ?_) ?_
      · clear hJ
        refine And.intro (r_callv hT hA hmono 78 (fun gh => .bool bk) [0, 1] 2 (by kernel_rfl) (by kernel_rfl) (by kernel_rfl) (fun _ => by kernel_rfl) 35 (fun gh => #[.slice Ai ((inpI (formE l).fields N).length) ci, .int .i64 (k : Int)]) (fun _ _ => by kernel_rfl) (fun gh H sH fH lent => hci _ _ (hfi.sees (s25.trans sH)))) ?_
        refine And.intro (r_pure hT hA 81 (fun gh => .bool bk) [4] 5 (by kernel_rfl) (by kernel_rfl) (by kernel_rfl) (fun _ => by kernel_rfl) (fun gh w => run_eq (v0 := .bool (x.kind == 1)) (by kernel_rfl) (congrArg Value.bool hb))) ?_
        refine And.intro (r_pure hT hA 82 (fun gh => .bool false) [2, 5] 6 (by kernel_rfl) (by kernel_rfl) (by kernel_rfl) (fun _ => by kernel_rfl) (fun gh w => run_eq (v0 := .bool (bk != bk)) (by kernel_rfl) (congrArg Value.bool (by simp)))) ?_
        trivial
      clear hJ a w; intro gh h30 a w sR hJ1 hF; have s31 : Sees h24 h30 := sR; clear sR
      have hJ : K ⟨86, h.w, h.bad, []⟩ [(12, .slice Ai ((inpI (formE l).fields N).length) ci), (13, .int .i64 0), (69, .slice (some ⟨b26, o27, none⟩) N c), (70, .int .i64 (N : Int)), (71, .int .i64 (k : Int)), (72, .bool (decide ((k : Int) < (N : Int)))), (73, .int .i64 (k : Int)), (74, .pointer (some ⟨b26, o27 + k * 9, none⟩)), (75, .agg #[.string x.name, .int .i64 x.kind, .int .i64 x.ty, .int .i64 x.src.op, .int .i64 x.src.k, .int .i64 x.src.n, .string x.src.s, .string x.src.nm, .slice Au nu cu]), (15, .pointer (some ⟨b29, 0, none⟩)), (14, .int .i64 (k : Int)), (76, .slice Ai ((inpI (formE l).fields N).length) ci), (77, .int .i64 (k : Int)), (78, .bool bk), (79, .pointer (some ⟨b29, 1, none⟩)), (80, .int .i64 x.kind), (81, .bool bk), (82, .bool false)] [.box b29 [.string x.name, .int .i64 x.kind, .int .i64 x.ty, .int .i64 x.src.op, .int .i64 x.src.k, .int .i64 x.src.n, .string x.src.s, .string x.src.nm, .slice Au nu cu], .box b3 [.slice (some ⟨b26, o27, none⟩) N c, .slice B ((formE l).pages.length) d]] [(b26, o27 + k * 9, [.string x.name, .int .i64 x.kind, .int .i64 x.ty, .int .i64 x.src.op, .int .i64 x.src.k, .int .i64 x.src.n, .string x.src.s, .string x.src.nm, .slice Au nu cu]), (bv36, 0, [.string ⟨#[98]⟩])] h30 a w := hJ1.to (by kernel_rfl) (by kernel_rfl) rfl
      clear hJ1 hF hmono R
      clear gh
      refine rx hJ false 9 [] [(83, .int .i64 (IntKind.i64.wrap ((k : Int) + 1)), .int .i64 ((k : Int) + 1))] (.ok (.out .normal) [] [(12, .slice Ai ((inpI (formE l).fields N).length) ci), (13, .int .i64 0), (69, .slice (some ⟨b26, o27, none⟩) N c), (70, .int .i64 (N : Int)), (72, .bool (decide ((k : Int) < (N : Int)))), (73, .int .i64 (k : Int)), (74, .pointer (some ⟨b26, o27 + k * 9, none⟩)), (75, .agg #[.string x.name, .int .i64 x.kind, .int .i64 x.ty, .int .i64 x.src.op, .int .i64 x.src.k, .int .i64 x.src.n, .string x.src.s, .string x.src.nm, .slice Au nu cu]), (15, .pointer (some ⟨b29, 0, none⟩)), (14, .int .i64 (k : Int)), (76, .slice Ai ((inpI (formE l).fields N).length) ci), (77, .int .i64 (k : Int)), (78, .bool bk), (79, .pointer (some ⟨b29, 1, none⟩)), (80, .int .i64 x.kind), (81, .bool bk), (82, .bool false), (83, .int .i64 ((k : Int) + 1)), (71, .int .i64 ((k : Int) + 1))] [.box b29 [.string x.name, .int .i64 x.kind, .int .i64 x.ty, .int .i64 x.src.op, .int .i64 x.src.k, .int .i64 x.src.n, .string x.src.s, .string x.src.nm, .slice Au nu cu], .box b3 [.slice (some ⟨b26, o27, none⟩) N c, .slice B ((formE l).pages.length) d]] [(b26, o27 + k * 9, [.string x.name, .int .i64 x.kind, .int .i64 x.ty, .int .i64 x.src.op, .int .i64 x.src.k, .int .i64 x.src.n, .string x.src.s, .string x.src.nm, .slice Au nu cu]), (bv36, 0, [.string ⟨#[98]⟩])]) trivial (And.intro (i64_wrap (by omega) (by omega)) (trivial)) (fun _ => by kernel_rfl) ?_
      clear hJ a w; intro a w hJ
      replace hJ := hJ.drop 0
      exact x_round ⟨k + 1, ⟨h30, (hJ.tof [1] (F' := [(bv36, 0, [.string ⟨#[98]⟩])]) (by kernel_rfl)).to (by kernel_rfl) (by kernel_rfl) rfl, (s25.trans s31), by omega⟩, by omega⟩
    · skip
      refine x_false hJ (t := decide ((k : Int) < (N : Int))) (by kernel_rfl) (decide_eq_false (by omega)) ?_
      refine rx hJ false 2 [] [] (.ok (.out (.exit 2)) [] [(12, .slice Ai ((inpI (formE l).fields N).length) ci), (13, .int .i64 0), (69, .slice A N c), (70, .int .i64 (N : Int)), (71, .int .i64 (k : Int)), (72, .bool (decide ((k : Int) < (N : Int))))] [.box b3 [.slice A N c, .slice B ((formE l).pages.length) d]] [(bv36, 0, [.string ⟨#[98]⟩])]) trivial trivial (fun _ => by kernel_rfl) ?_
      clear hJ a w; intro a w hJ
      refine x_leave rfl ?_
      refine rx hJ false 10 [] [] (.ok (.out .ret) [] [(2, .bool true)] [.box b3 [.slice A N c, .slice B ((formE l).pages.length) d]] [(bv36, 0, [.string ⟨#[98]⟩])]) trivial trivial (fun _ => by kernel_rfl) ?_
      clear hJ a w; intro a w hJ
      refine x_end (hQ [.bool true] _ [] hJ (.rtmp hJ.j (by kernel_rfl) .nil) (no_own _) rfl ?_).1
      exact rfl

theorem formFree_walk (v : Value) (l : List RawD) (w : World) (h : RawsOf w v l) :
    Calls Try.prog 6 #[v] w fun e w' => e = .returned (.bool true) ∧ Below w.heap.size w w' :=
  C0.law (formFree_c l v ⟨w, []⟩ h.rs h.2.1 h.2.2)

namespace formFreeLaw
open Go.ChangeShapes Go.WideShapes Go.ChangeAt Go.RowKit
open Go.ChangeMaps (open_string shut_string)
set_option linter.unusedVariables false

set_option maxRecDepth 100000 in
theorem lifted (os : Os) (started : os.Started) (H : Type) (enc : TypeId × Value → H) :
    ReturnsInHanded {} Try.checked os 6 .any (Rows.formFreeSpec.pre6 enc Try.prog Try.f6 Rows.formFreeRow.domain false) (Rows.formFreeSpec.post enc Try.prog Try.f6 false true false false) := by
  refine returnsInHanded_of_change_sized (C := Try.checked) ownNone started (by kernel_rfl) Try.func6
    (ChangeSpec.witness6 (enc := enc) (C := Try.checked) false ⟨#[], #[.slice none 0 0], []⟩ 8 (by kernel_rfl) (by kernel_rfl) (by kernel_rfl) (by kernel_rfl)) ?_
  intro W base args ds gs before hval0 hW hcnd hsz0 _
  have hval : ∀ (j : Nat) t v, Try.f6.params[j]? = some t → args[j]? = some v → Value.okWide Try.prog W .any base t v := hval0
  have hsz : (DataW.weightsEach Try.prog (Try.f6.params.toList ++ Rows.formFreeSpec.plain.varTypes Try.prog) (ds ++ gs)).all (· ≤ reachBytes) = true := hsz0
  have hW' := hW
  obtain ⟨p, q, hA0, hV, rfl, hfz, hnd⟩ := hW
  have hA : DataW.TrodAll enc Try.prog W 0 (fun _ => true) true Try.f6.params.toList args.toList ds p := hA0
  rw [Try.params6] at hA hval hsz
  obtain ⟨v0, vs0, d0, ds0, p0, q0, hargs, rfl, rfl, h0, r0⟩ := trodAll_cons hA
  obtain ⟨rfl, rfl, rfl⟩ := trodAll_nil r0
  obtain rfl : args = #[v0] := by cases args; simp_all
  obtain ⟨rfl, rfl⟩ := trodVars_none hV
  have k0 := h0
  have lt0 : ∀ x ∈ p0, x.block < W.heap.size := by obtain ⟨m, hm⟩ := k0; exact DataW.trod_lt m _ _ _ hm
  obtain ⟨a0, w0⟩ := open_rows (hval 0 22 v0 rfl rfl) h0 (fun es ss hd => sized_slice hsz (j := 0) (t := 22) (elems := es) (spare := ss) rfl (by rw [hd]; rfl) Try.underlying22)
  clear hA0 hval0 hsz0
  refine (formFree_walk v0 a0 W w0).mono fun e W' ⟨he, bel⟩ => ?_
  subst he
  exact ⟨_, rfl, _, _, _, [], _, [], hW', trodAll_mk1 (shut_bool Try.underlying4 _), (trodAll_cons_mk (Below.trod laidOutTrue (by kernel_rfl) (of_decide_eq_true (by kernel_rfl)) k0 bel lt0) trodAll_mk0), rfl, bel.frame _, fun h => by cases h⟩

theorem over : Rows.formFreeRow.holds Try.pinned (OpenSpec.ofChange Rows.formFreeSpec) :=
  OpenClaim.holds_of_wide 6 Try.f6 rfl rfl rfl rfl rfl rfl rfl ⟨rfl, rfl, rfl, rfl, rfl⟩ rfl rfl rfl rfl rfl (by kernel_rfl) Try.func6 (by kernel_rfl)
    (of_decide_eq_true (by kernel_rfl)) (by unfold Func.isWrapper; first | (rw [if_pos (by decide +kernel)]; kernel_rfl) | (rw [if_neg (by decide +kernel)]; exact ⟨rfl, rfl⟩))
    (fun os started H enc _ => lifted os started H enc)

end formFreeLaw
theorem formFree_holds : Rows.FormFreeSaid := formFreeLaw.over
#print axioms formFree_holds
end Go.Proofs.Ytgjndkphfabnnaa
