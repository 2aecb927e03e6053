/-
  For all raw things RankOrdered returns true.
-/
import Derived.Test.YtgjndkphfabnnaaOrdO
import Derived.Test.YtgjndkphfabnnaaRanked
import Derived.Test.YtgjndkphfabnnaaLawX
import Derived.Test.YtgjndkphfabnnaaStr
namespace Go.Proofs.Ytgjndkphfabnnaa
open Go.RowKit
set_option linter.unusedVariables false

/-! ### What a field asks for, as names.Of tells it -/
def askE (x : Fd) : List ByteArray := if x.kind = 1 then [] else namesE x.src
theorem part0 (A : Option Addr) (c : Nat) (h : Vw) : C0 Try.prog 112 #[.agg #[.int .i64 0, .int .i64 0, .int .i64 0, .string ⟨#[]⟩, .string ⟨#[]⟩, .slice A 0 c]] h (fun v _ => v = .int .i64 2) := by
  refine x_con Try.func112 (c := Try.f112.body.getD .skip) (by kernel_rfl) (N := 66) rfl (by kernel_rfl) ?_
  intro hbx hbad Q hQ a w hJ
  replace hJ : K ⟨66, h.w, h.bad, []⟩ [(0, .agg #[Vi 0, Vi 0, Vi 0, Ve, Ve, .slice A 0 c])] [] [] h a w := hJ.to (by kernel_rfl) (by kernel_rfl) rfl
  refine rx hJ true 27 [.fix, .f 0 0] [] (.new fun b1 => .ok (.out .ret) [] [(2, Vi 2)] [] [(b1, 0, [Vi 0, Vi 0, Vi 0, Ve, Ve, .slice A 0 c])]) trivial trivial (fun b1 _ => by kernel_rfl) ?_
  clear hJ a w; intro b1 h2 a w s3 hJ
  refine x_end (hQ [Vi 2] _ [] hJ (.rtmp hJ.j (by kernel_rfl) .nil) (no_own _) rfl ?_).1
  exact rfl
theorem parts0 (A : Option Addr) (c : Nat) (h : Vw) : C0 Try.prog 75 #[.agg #[.int .i64 0, .int .i64 0, .int .i64 0, .string ⟨#[]⟩, .string ⟨#[]⟩, .slice A 0 c]] h (fun r _ => r = .int .i64 2) := by
  refine x_con Try.func75 (c := Try.f75.body.getD .skip) (by kernel_rfl) (N := 25) rfl (by kernel_rfl) ?_
  intro hbx hbad Q hQ a w hJ
  replace hJ : K ⟨25, h.w, h.bad, []⟩ [(0, .agg #[Vi 0, Vi 0, Vi 0, Ve, Ve, .slice A 0 c])] [] [] h a w := hJ.to (by kernel_rfl) (by kernel_rfl) rfl
  refine rx hJ true 29 [.fix, .f 0 0, .cl 112 #[.agg #[Vi 0, Vi 0, Vi 0, Ve, Ve, .slice A 0 c]] (Vi 2)] [] (.new fun b1 => .ok (.out .ret) [] [(2, Vi 2)] [] [(b1, 0, [Vi 0, Vi 0, Vi 0, Ve, Ve, .slice A 0 c])]) (And.intro (fun H sH => part0 _ _ _) (trivial)) trivial (fun b1 _ => by kernel_rfl) ?_
  clear hJ a w; intro b1 h2 a w s3 hJ
  refine x_end (hQ [Vi 2] _ [] hJ (.rtmp hJ.j (by kernel_rfl) .nil) (no_own _) rfl ?_).1
  exact rfl
set_option maxRecDepth 100000 in
theorem check0 (A : Option Addr) (c : Nat) (h : Vw) (hx : IsArgs h zE (.slice A 0 c)) : C0 Try.prog 41 #[.agg #[.int .i64 0, .int .i64 0, .int .i64 0, .string ⟨#[]⟩, .string ⟨#[]⟩, .slice A 0 c]] h (fun r _ => r = .int .i64 2) := by
  have hse := fun H q => size_any 1 (.mk 0 0 0 ⟨#[]⟩ ⟨#[]⟩ []) (.slice A 0 c) H (Nat.le_refl _) q (by decide)
  refine x_con Try.func41 (c := Try.f41.body.getD .skip) (by kernel_rfl) (N := 16) rfl (by kernel_rfl) ?_
  intro hbx hbad Q hQ a w hJ
  replace hJ : K ⟨16, h.w, h.bad, []⟩ [(0, .agg #[Vi 0, Vi 0, Vi 0, Ve, Ve, .slice A 0 c])] [] [] h a w := hJ.to (by kernel_rfl) (by kernel_rfl) rfl
  refine rx hJ true 45 [.fix, .f 0 0, .cl 40 #[.agg #[Vi 0, Vi 0, Vi 0, Ve, Ve, .slice A 0 c]] (.tuple #[Vi 1, Vi 1]), .f 0 0, .cl 75 #[.agg #[Vi 0, Vi 0, Vi 0, Ve, Ve, .slice A 0 c]] (Vi 2)] [] (.new fun b1 => .ok (.out .ret) [] [(2, Vi 2)] [] [(b1, 0, [Vi 0, Vi 0, Vi 0, Ve, Ve, .slice A 0 c])]) (And.intro (fun H sH => hse _ (hx.sees sH)) (And.intro (fun H sH => parts0 _ _ _) (trivial))) trivial (fun b1 _ => by kernel_rfl) ?_
  clear hJ a w; intro b1 h2 a w s3 hJ
  refine x_end (hQ [Vi 2] _ [] hJ (.rtmp hJ.j (by kernel_rfl) .nil) (no_own _) rfl ?_).1
  exact rfl
theorem nm0 (A : Option Addr) (c : Nat) (h : Vw) (hx : IsArgs h zE (.slice A 0 c)) : C0 Try.prog 18 #[.agg #[.int .i64 0, .int .i64 0, .int .i64 0, .string ⟨#[]⟩, .string ⟨#[]⟩, .slice A 0 c]] h (fun r _ => r = .tuple #[.slice none 0 0, .int .i64 2]) := by
  refine x_con Try.func18 (c := Try.f18.body.getD .skip) (by kernel_rfl) (N := 21) rfl (by kernel_rfl) ?_
  intro hbx hbad Q hQ a w hJ
  replace hJ : K ⟨21, h.w, h.bad, []⟩ [(0, .agg #[Vi 0, Vi 0, Vi 0, Ve, Ve, .slice A 0 c])] [] [] h a w := hJ.to (by kernel_rfl) (by kernel_rfl) rfl
  refine rx hJ false 31 [.own, .b 0 0, .cl 41 #[.agg #[Vi 0, Vi 0, Vi 0, Ve, Ve, .slice A 0 c]] (Vi 2)] [] (.new fun b1 => .ok (.out .ret) [] [(2, Vz), (3, Vi 2)] [.box b1 [Vi 0, Vi 0, Vi 0, Ve, Ve, .slice A 0 c]] []) (And.intro (fun H sH => check0 _ _ _ (hx.sees sH)) (trivial)) trivial (fun b1 _ => by kernel_rfl) ?_
  clear hJ a w; intro b1 a w hJ
  refine x_end (hQ [Vz, Vi 2] _ [] hJ (.rtmp hJ.j (by kernel_rfl) (.rtmp hJ.j (by kernel_rfl) .nil)) (no_own _) rfl ?_).1
  exact rfl
theorem ask_any {fs : List Fd} (x : Fd) (v : Value) (h : Vw) (hok : OkF fs x) (hx : IsArgs h x.src v) : C0 Try.prog 18 #[.agg #[.int .i64 x.src.op, .int .i64 x.src.k, .int .i64 x.src.n, .string x.src.s, .string x.src.nm, v]] h (fun r h' => ∃ A c e, r = .tuple #[.slice A (askE x).length c, .int .i64 e] ∧ RS h' 1 (.slice A (askE x).length c) (strRows (askE x))) := by
  unfold askE
  by_cases g : x.kind = 1
  · have hz := hok.inp g
    rw [if_pos g]
    rw [hz] at hx ⊢
    obtain ⟨A, c, rfl⟩ := args_zero rfl hx
    refine (nm0 A c h hx).mono ?_
    rintro r h' - rfl
    exact ⟨none, 0, 2, rfl, RS.nil _ _⟩
  · rw [if_neg g]
    obtain ⟨w1, w2, w3⟩ := hok.wf g
    refine (nmOf_any x.src v h hx w1 (by omega) w3).mono ?_
    rintro r h' - ⟨A, c, rfl, hr⟩
    exact ⟨A, c, 0, rfl, hr⟩

theorem ask_len {fs : List Fd} {x : Fd} (hok : OkF fs x) : (askE x).length ≤ 60 := by
  unfold askE
  split
  · simp
  · rename_i g
    obtain ⟨-, w2, -⟩ := hok.wf g
    have := Nat.le_trans (namesE_len x.src) (refs_le x.src)
    omega

/-! ### The order, in plain words -/
def nmA (fs : List Fd) (i : Nat) : ByteArray := match fs[i]? with
  | some x => x.name
  | none => ⟨#[]⟩
theorem nmA_get {fs : List Fd} {i : Nat} {x : Fd} (h : fs[i]? = some x) : nmA fs i = x.name := by unfold nmA; rw [h]
theorem ordered_step {fs : List Fd} {ρ : List Int} {lv : Nat → Nat} (hρ : Ranked (needsE fs) ρ lv) (hnd : (fs.map (·.name)).Nodup)
    (hask : ∀ (i : Nat) (x : Fd), fs[i]? = some x → ∀ s ∈ askE x, ∃ (k : Nat) (g : Fd), fs[k]? = some g ∧ g.name = s ∧ k ∈ needE fs x) {o : List Nat} (hp : o.Perm (List.range fs.length)) (hs : ∀ (i j x y : Nat), i < j → o[i]? = some x → o[j]? = some y → ρ.getD x 0 ≤ ρ.getD y 0)
    {k i : Nat} {x : Fd} (hk : o[k]? = some i) (hx : fs[i]? = some x) : memS ((o.take k).map (nmA fs)) x.name = false ∧ ∀ s ∈ askE x, memS ((o.take k).map (nmA fs)) s = true := by
  have hon : o.Nodup := hp.nodup_iff.2 List.nodup_range
  have hnl : (needsE fs).length = fs.length := by unfold needsE; rw [List.length_map]
  have hil : i < fs.length := (List.getElem?_eq_some_iff.1 hx).1
  constructor
  · refine memS_no fun hm => ?_
    obtain ⟨j, hj, e⟩ := List.mem_map.1 hm
    obtain ⟨m, hm⟩ := List.mem_iff_getElem?.1 hj
    rw [List.getElem?_take] at hm
    split at hm
    · rename_i hmk
      have hjr : j < fs.length := List.mem_range.1 (hp.mem_iff.1 (List.mem_of_getElem? hm))
      obtain ⟨g, hg⟩ : ∃ g, fs[j]? = some g := ⟨_, List.getElem?_eq_getElem hjr⟩
      rw [nmA_get hg] at e
      have h1 : (fs.map (·.name))[j]? = some x.name := by rw [List.getElem?_map, hg]; exact congrArg some e
      have h2 : (fs.map (·.name))[i]? = some x.name := by rw [List.getElem?_map, hx]; rfl
      have e2 : j = i := (List.getElem?_inj (by rw [List.length_map]; exact hjr) hnd).1 (h1.trans h2.symm)
      subst e2
      have := (List.getElem?_inj (List.getElem?_eq_some_iff.1 hm).1 hon).1 (hm.trans hk.symm)
      omega
    · cases hm
  · intro s hsm
    obtain ⟨q, g, hg, rfl, hq⟩ := hask i x hx s hsm
    have hgi : (needsE fs).getD i [] = needE fs x := by unfold needsE; rw [List.getD_eq_getElem?_getD, List.getElem?_map, hx]; rfl
    have hql : q < fs.length := (List.getElem?_eq_some_iff.1 hg).1
    have hr1 := hρ.at_ i (by omega)
    rw [hgi] at hr1
    have hr2 := top_le (r := ρ) hq
    obtain ⟨m, hm⟩ := List.mem_iff_getElem?.1 (hp.mem_iff.2 (List.mem_range.2 hql))
    have hmk : m < k := by
      rcases Nat.lt_trichotomy m k with h | h | h
      · exact h
      · subst h
        rw [hm] at hk
        obtain rfl := Option.some.inj hk
        omega
      · have := hs k m i q h hk hm
        omega
    exact memS_iff.2 (List.mem_map.2 ⟨q, List.mem_of_getElem? (i := m) (by rw [List.getElem?_take, if_pos hmk]; exact hm), nmA_get hg⟩)
theorem form_ask (l : List RawD) : ∀ (i : Nat) (x : Fd), (formE l).fields[i]? = some x → ∀ s ∈ askE x, ∃ (k : Nat) (g : Fd), (formE l).fields[k]? = some g ∧ g.name = s ∧ k ∈ needE (formE l).fields x := by
  intro i x hx s hs
  unfold askE at hs
  split at hs
  · cases hs
  · rename_i g1
    have hi : i < nFields l := by rw [← form_len]; exact (List.getElem?_eq_some_iff.1 hx).1
    obtain ⟨x', hx', -, hrefs⟩ := form_get l hi
    rw [hx] at hx'
    obtain rfl := Option.some.inj hx'
    obtain ⟨j, hj, rfl⟩ := hrefs s (mem_namesE.1 hs)
    obtain ⟨i', hi', e'⟩ := lvF_sur l (j := j) (by have := lvF_lt l hi; omega)
    obtain ⟨g, hg, hgn, -⟩ := form_get l hi'
    rw [e'] at hgn
    refine ⟨i', g, hg, hgn, ?_⟩
    unfold needE
    rw [if_neg g1]
    refine List.mem_map.2 ⟨_, hs, ?_⟩
    unfold plc
    rw [← hgn, findF_at (form_nodup l) hg]; rfl

set_option maxHeartbeats 2000000 in
set_option maxRecDepth 100000 in
theorem rankOrdered_c (l : List RawD) (sl : Value) (h : Vw) (hl : RS h 4 sl (l.map RawD.cs)) (ll : l.length * 40 ≤ reachBytes) (ol : ∀ r ∈ l, r.ok) :
    C0 Try.prog 13 #[sl] h (fun v _ => v = .bool true) := by
  have hF := fun H q => form_c l sl H q ll ol
  have hn := nFields_le l
  have hfl := form_len l
  have hok := form_okFs l _ (form_nodup l) (fun f => Iff.rfl) (by omega)
  have hO := fun H A c q => order_any (formE l).fields (.slice A (nFields l) c) H hok q _ _ (form_ranked l) (by omega) (by omega)
  obtain ⟨hp, hs⟩ := ordL_spec (rhoL (needsE (formE l).fields)) (formE l).fields.length (by omega)
  have hst := fun k i x => ordered_step (k := k) (i := i) (x := x) (form_ranked l) (form_nodup l) (form_ask l) hp hs
  have hol : (ordL (rhoL (needsE (formE l).fields)) (formE l).fields.length).length = nFields l := by rw [hp.length_eq, List.length_range, hfl]
  have hor : ∀ k ∈ ordL (rhoL (needsE (formE l).fields)) (formE l).fields.length, k < nFields l := fun k hk => by rw [← hfl]; exact List.mem_range.1 (hp.mem_iff.1 hk)
  have hAs := fun x (hx : x ∈ (formE l).fields) v H q => ask_any x v H (hok.each x hx) q
  have hAl := fun x (hx : x ∈ (formE l).fields) => ask_len (hok.each x hx)
  clear hp hs
  rw [hfl] at hF hO hst hol hor
  generalize ordL (rhoL (needsE (formE l).fields)) (nFields l) = o at *
  generalize hN : nFields l = N at *
  obtain ⟨A1, cap1, rfl, -, -, -⟩ := hl.form
  rw [List.length_map] at *
  generalize l.length = n1 at *
  refine x_con Try.func13 (c := Try.f13.body.getD .skip) (by kernel_rfl) (N := 94) rfl (by kernel_rfl) ?_
  intro hbx hbad Q hQ a w hJ
  replace hJ : K ⟨94, h.w, h.bad, []⟩ [(0, .slice A1 n1 cap1)] [] [] h a w := hJ.to (by kernel_rfl) (by kernel_rfl) rfl
  refine rx hJ false 8 [] [] (.ok (.ops [0, 1] 1) [.seq [1, 1]] [(2, .bool false), (13, .slice A1 n1 cap1)] [] []) trivial trivial (fun _ => by kernel_rfl) ?_
  clear hJ a w; intro a w hJ
  refine x_call hJ 14 (hF _ (hl.sees hJ.j.sees)) (fun _ => by kernel_rfl) ?_; clear hJ a w; rintro _ h1 a w s2 ⟨A, c, B, d, rfl, hf⟩ hJ
  refine rx hJ false 7 [] [] (.ok (.ops [0, 1, 1] 1) [.seq [1, 1, 1]] [(2, .bool false), (3, .slice A N c), (17, .slice A N c)] [] []) trivial trivial (fun _ => by kernel_rfl) ?_
  clear hJ a w; intro a w hJ
  refine x_call hJ 18 (hO _ _ _ ((hf.sees hJ.j.sees)).fields) (fun _ => by kernel_rfl) ?_; clear hJ a w; rintro _ h3 a w s4 ⟨Ao, co, rfl, hro⟩ hJ
  refine rx hJ false 10 [] [] (.ok (.ops [0, 0, 1, 1, 1] 0) [.seq [1, 0, 1, 1, 1], .seq [1, 1, 1, 1]] [(2, .bool false), (3, .slice A N c), (4, .slice Ao N co), (5, Vi 0)] [] []) trivial trivial (fun _ => by kernel_rfl) ?_
  clear hJ a w; intro a w hJ
  refine rx hJ false 32 [.cl 43 #[] (.bool true)] [(32, .bool ((N : Int) != (N : Int)), .bool false)] (.ok (.code [0, 1, 0, 1, 1, 1, 1, 1]) [.block 0, .seq [1, 1, 1, 1, 1, 1]] [(2, .bool false), (3, .slice A N c), (6, Vz), (34, .slice Ao N co), (35, Vi (N : Int)), (36, Vi 0)] [] []) (And.intro (fun H sH => ranked_any _) (trivial)) (And.intro (congrArg Value.bool (by simp)) (trivial)) (fun _ => by kernel_rfl) ?_
  clear hJ a w; intro a w hJ
  obtain ⟨vs, A3, c3, e3, -, -, hr3, hs3, hl3, hsl⟩ := fds_open hf.fields
  simp only [Value.slice.injEq] at e3
  obtain ⟨rfl, -, rfl⟩ := e3
  rw [hfl] at hr3 hl3
  generalize (formE l).fields = fs at *
  have hmet : ∀ k, k ≤ N → ((o.take k).map (nmA fs)).length ≤ 1000 := fun k hk => by rw [List.length_map, List.length_take]; omega
  have hkind : ∀ (x : Fd), ∀ s ∈ askE x, x.kind ≠ 1 := fun x s hs e => by unfold askE at hs; rw [if_pos e] at hs; cases hs
  replace hJ := hJ.nilrow 9 1
  refine x_loop (fun (k : Nat) a w => ∃ (h5 : Vw) (mv : Value), K ⟨94, h.w, h.bad, []⟩ [(3, .slice A N c), (34, .slice Ao N co), (35, Vi (N : Int)), (36, Vi (k : Int)), (6, mv)] [.row mv 9 1 (strRows ((o.take k).map (nmA fs)))] [] h5 a w ∧ Sees h3 h5 ∧ (k ≤ N)) (fun k => N - k) (0) (by kernel_rfl) ⟨h3, (Vz), hJ.to (by kernel_rfl) (by kernel_rfl) rfl, Sees.refl _, Nat.zero_le _⟩ ?_
  clear hJ a w; rintro k a w ⟨h5, mv, hJ, s6, hk⟩
  refine rx hJ false 6 [] [] (.ok (.code [0, 1, 0, 0, 1, 0, 1, 1, 1, 1, 1]) [.seq [1, 1, 0, 0, 1, 0, 1, 1, 1, 1, 1]] [(3, .slice A N c), (34, .slice Ao N co), (35, Vi (N : Int)), (36, Vi (k : Int)), (6, mv), (37, .bool (decide ((k : Int) < (N : Int))))] [.row mv 9 1 (strRows ((o.take k).map (nmA fs)))] []) trivial trivial (fun _ => by kernel_rfl) ?_
  clear hJ a w; intro a w hJ
  rcases (by omega : k < N ∨ k = N) with hlt | hke
  · obtain ⟨i, hi⟩ : ∃ i, o[k]? = some i := ⟨_, List.getElem?_eq_getElem (by omega)⟩
    have hiN := hor i (List.mem_of_getElem? hi)
    obtain ⟨x, hx⟩ : ∃ x, fs[i]? = some x := ⟨_, List.getElem?_eq_getElem (by omega)⟩
    obtain ⟨u, hu⟩ : ∃ u, vs[i]? = some u := ⟨_, List.getElem?_eq_getElem (by omega)⟩
    have hrow := fdRows_get hx hu
    have hxa := AllArgs.get hs3 (x := x.src) (by rw [List.getElem?_map, hx]; rfl) hu
    obtain ⟨Au, nu, cu, rfl⟩ := hxa.slice
    obtain ⟨hno, hyes⟩ := hst k i x hi hx
    have hAx := hAs x (List.mem_of_getElem? hx)
    have hkx := hkind x
    have hal := hAl x (List.mem_of_getElem? hx)
    have hml := hmet k hk
    have hoi : (natRows o)[k]? = some [.int .i64 (i : Int)] := by rw [List.getElem?_map, hi]; rfl
    have hsn : (o.take (k + 1)).map (nmA fs) = (o.take k).map (nmA fs) ++ [x.name] := by rw [take_snoc' o k i hi, List.map_append, List.map_singleton, nmA_get hx]
    generalize (o.take k).map (nmA fs) = met at *
    have hco := fun H u s q => contS_any met u s H q (by omega)
    have hc1 := fun H u q => hco H u x.name q
    rw [hno] at hc1
    generalize askE x = nm at *
    refine x_true hJ (t := decide ((k : Int) < (N : Int))) (by kernel_rfl) (decide_eq_true (by omega)) ?_
    refine rx hJ false 6 [] [] (.ok (.ops [0, 0, 0, 1, 1, 0, 0, 1, 0, 1, 1, 1, 1, 1] 0) [.seq [1, 0, 0, 1, 1, 0, 0, 1, 0, 1, 1, 1, 1, 1], .block 1, .seq [1, 1, 1, 0, 0, 1, 0, 1, 1, 1, 1, 1]] [(3, .slice A N c), (34, .slice Ao N co), (35, Vi (N : Int)), (36, Vi (k : Int)), (6, mv), (37, .bool (decide ((k : Int) < (N : Int))))] [.row mv 9 1 (strRows met)] []) trivial trivial (fun _ => by kernel_rfl) ?_
    clear hJ a w; intro a w hJ
    obtain ⟨b7, o8, rfl, -, c9⟩ := RS.row hro (hoi)
    replace hJ := hJ.fact (c9.sees s6)
    refine rx hJ false 20 [.ix b7 o8 N co k, .f 0 0] [(41, .bool (decide ((i : Int) < 0)), .bool false), (46, .bool (decide ((i : Int) ≥ (N : Int))), .bool false)] (.ok (.ops [0, 0, 1, 0, 0, 1, 1, 0, 0, 1, 0, 1, 1, 1, 1, 1] 12) [.seq [1, 0, 1, 0, 0, 1, 1, 0, 0, 1, 0, 1, 1, 1, 1, 1], .seq [1, 1, 0, 0, 1, 1, 0, 0, 1, 0, 1, 1, 1, 1, 1], .block 1, .seq [1, 1, 1, 0, 0, 1, 0, 1, 1, 1, 1, 1]] [(3, .slice A N c), (34, .slice (some ⟨b7, o8, none⟩) N co), (35, Vi (N : Int)), (36, Vi (k : Int)), (6, mv), (37, .bool (decide ((k : Int) < (N : Int)))), (38, .pointer (some ⟨b7, o8 + k * 1, none⟩)), (39, Vi (i : Int)), (8, Vi (i : Int)), (40, Vi (i : Int)), (41, .bool false), (42, .bool false), (43, Vi (i : Int)), (44, .slice A N c), (45, Vi (N : Int)), (46, .bool false), (47, .bool false), (48, .bool false), (49, mv), (50, .slice A N c), (51, Vi (i : Int))] [.row mv 9 1 (strRows met)] [(b7, o8 + k * 1, [Vi (i : Int)])]) (And.intro (by first | omega | (simp; omega)) (trivial)) (And.intro (congrArg Value.bool (decide_eq_false (by omega))) (And.intro (congrArg Value.bool (decide_eq_false (by omega))) (trivial))) (fun _ => by kernel_rfl) ?_
    clear hJ a w; intro a w hJ
    obtain ⟨b10, o11, rfl, -, c12⟩ := RS.row hr3 (hrow)
    replace hJ := hJ.fact (c12.sees (s4.trans s6))
    refine rx hJ false 3 [.ix b10 o11 N c i, .f 0 0] [] (.ok (.ops [0, 0, 1, 0, 0, 1, 1, 0, 0, 1, 0, 1, 1, 1, 1, 1] 15) [.seq [1, 0, 1, 0, 0, 1, 1, 0, 0, 1, 0, 1, 1, 1, 1, 1], .seq [1, 1, 0, 0, 1, 1, 0, 0, 1, 0, 1, 1, 1, 1, 1], .block 1, .seq [1, 1, 1, 0, 0, 1, 0, 1, 1, 1, 1, 1]] [(3, .slice (some ⟨b10, o11, none⟩) N c), (34, .slice (some ⟨b7, o8, none⟩) N co), (35, Vi (N : Int)), (36, Vi (k : Int)), (6, mv), (37, .bool (decide ((k : Int) < (N : Int)))), (38, .pointer (some ⟨b7, o8 + k * 1, none⟩)), (39, Vi (i : Int)), (8, Vi (i : Int)), (40, Vi (i : Int)), (41, .bool false), (42, .bool false), (43, Vi (i : Int)), (44, .slice (some ⟨b10, o11, none⟩) N c), (45, Vi (N : Int)), (46, .bool false), (47, .bool false), (48, .bool false), (49, mv), (50, .slice (some ⟨b10, o11, none⟩) N c), (51, Vi (i : Int)), (52, .pointer (some ⟨b10, o11 + i * 9, none⟩)), (53, .pointer (some ⟨b10, o11 + i * 9, none⟩)), (54, .string x.name)] [.row mv 9 1 (strRows met)] [(b10, o11 + i * 9, [.string x.name, Vi x.kind, Vi x.ty, Vi x.src.op, Vi x.src.k, Vi x.src.n, .string x.src.s, .string x.src.nm, .slice Au nu cu]), (b7, o8 + k * 1, [Vi (i : Int)])]) (And.intro (by first | omega | (simp; omega)) (trivial)) trivial (fun _ => by kernel_rfl) ?_
    clear hJ a w; intro a w hJ
    refine x_callq hJ 55 (hc1 _ _ (hJ.j.rowQ (v := mv) (e := 9) (k := 1) (l := strRows met) 0 rfl)) (fun _ => by kernel_rfl) ?_; clear hJ a w; intro h13 a w s14 hJ
    refine rx hJ false 10 [] [] (.ok (.ops [0, 1, 1, 0, 0, 1, 1, 0, 0, 1, 0, 1, 1, 1, 1, 1] 2) [.seq [1, 1, 1, 0, 0, 1, 1, 0, 0, 1, 0, 1, 1, 1, 1, 1], .block 1, .seq [1, 1, 1, 0, 0, 1, 0, 1, 1, 1, 1, 1]] [(3, .slice (some ⟨b10, o11, none⟩) N c), (34, .slice (some ⟨b7, o8, none⟩) N co), (35, Vi (N : Int)), (36, Vi (k : Int)), (6, mv), (37, .bool (decide ((k : Int) < (N : Int)))), (38, .pointer (some ⟨b7, o8 + k * 1, none⟩)), (39, Vi (i : Int)), (8, Vi (i : Int)), (40, Vi (i : Int)), (41, .bool false), (42, .bool false), (43, Vi (i : Int)), (44, .slice (some ⟨b10, o11, none⟩) N c), (45, Vi (N : Int)), (46, .bool false), (47, .bool false), (48, .bool false), (49, mv), (50, .slice (some ⟨b10, o11, none⟩) N c), (51, Vi (i : Int)), (52, .pointer (some ⟨b10, o11 + i * 9, none⟩)), (53, .pointer (some ⟨b10, o11 + i * 9, none⟩)), (54, .string x.name), (55, .bool false), (56, .bool false), (58, .slice (some ⟨b10, o11, none⟩) N c), (59, Vi (i : Int))] [.row mv 9 1 (strRows met)] [(b10, o11 + i * 9, [.string x.name, Vi x.kind, Vi x.ty, Vi x.src.op, Vi x.src.k, Vi x.src.n, .string x.src.s, .string x.src.nm, .slice Au nu cu]), (b7, o8 + k * 1, [Vi (i : Int)])]) trivial trivial (fun _ => by kernel_rfl) ?_
    clear hJ a w; intro a w hJ
    have c15 := RS.cell hr3 (hrow)
    replace hJ := hJ.fact (c15.sees (s4.trans (s6.trans s14)))
    refine rx hJ false 3 [.ix b10 o11 N c i, .f 0 3] [] (.ok (.ops [0, 1, 1, 0, 0, 1, 1, 0, 0, 1, 0, 1, 1, 1, 1, 1] 5) [.seq [1, 1, 1, 0, 0, 1, 1, 0, 0, 1, 0, 1, 1, 1, 1, 1], .block 1, .seq [1, 1, 1, 0, 0, 1, 0, 1, 1, 1, 1, 1]] [(3, .slice (some ⟨b10, o11, none⟩) N c), (34, .slice (some ⟨b7, o8, none⟩) N co), (35, Vi (N : Int)), (36, Vi (k : Int)), (6, mv), (37, .bool (decide ((k : Int) < (N : Int)))), (38, .pointer (some ⟨b7, o8 + k * 1, none⟩)), (39, Vi (i : Int)), (8, Vi (i : Int)), (40, Vi (i : Int)), (41, .bool false), (42, .bool false), (43, Vi (i : Int)), (44, .slice (some ⟨b10, o11, none⟩) N c), (45, Vi (N : Int)), (46, .bool false), (47, .bool false), (48, .bool false), (49, mv), (50, .slice (some ⟨b10, o11, none⟩) N c), (51, Vi (i : Int)), (52, .pointer (some ⟨b10, o11 + i * 9, none⟩)), (53, .pointer (some ⟨b10, o11 + i * 9, none⟩)), (54, .string x.name), (55, .bool false), (56, .bool false), (58, .slice (some ⟨b10, o11, none⟩) N c), (59, Vi (i : Int)), (60, .pointer (some ⟨b10, o11 + i * 9, none⟩)), (61, .pointer (some ⟨b10, o11 + i * 9 + 3, none⟩)), (62, .agg #[Vi x.src.op, Vi x.src.k, Vi x.src.n, .string x.src.s, .string x.src.nm, .slice Au nu cu])] [.row mv 9 1 (strRows met)] [(b10, o11 + i * 9, [.string x.name, Vi x.kind, Vi x.ty, Vi x.src.op, Vi x.src.k, Vi x.src.n, .string x.src.s, .string x.src.nm, .slice Au nu cu]), (b10, o11 + i * 9, [.string x.name, Vi x.kind, Vi x.ty, Vi x.src.op, Vi x.src.k, Vi x.src.n, .string x.src.s, .string x.src.nm, .slice Au nu cu]), (b7, o8 + k * 1, [Vi (i : Int)])]) (And.intro (by first | omega | (simp; omega)) (trivial)) trivial (fun _ => by kernel_rfl) ?_
    clear hJ a w; intro a w hJ
    refine x_call hJ 63 (hAx _ _ (hxa.sees (s4.trans (s6.trans (s14.trans hJ.j.sees))))) (fun _ => by kernel_rfl) ?_; clear hJ a w; rintro _ h16 a w s17 ⟨An, cn, en, rfl, hnr⟩ hJ
    refine rx hJ false 16 [] [] (.ok (.code [0, 1, 0, 1, 1, 1, 0, 0, 1, 1, 0, 0, 1, 0, 1, 1, 1, 1, 1]) [.block 2, .seq [1, 1, 1, 1, 0, 0, 1, 1, 0, 0, 1, 0, 1, 1, 1, 1, 1], .block 1, .seq [1, 1, 1, 0, 0, 1, 0, 1, 1, 1, 1, 1]] [(3, .slice (some ⟨b10, o11, none⟩) N c), (34, .slice (some ⟨b7, o8, none⟩) N co), (35, Vi (N : Int)), (36, Vi (k : Int)), (6, mv), (37, .bool (decide ((k : Int) < (N : Int)))), (38, .pointer (some ⟨b7, o8 + k * 1, none⟩)), (39, Vi (i : Int)), (8, Vi (i : Int)), (40, Vi (i : Int)), (41, .bool false), (42, .bool false), (43, Vi (i : Int)), (44, .slice (some ⟨b10, o11, none⟩) N c), (45, Vi (N : Int)), (46, .bool false), (47, .bool false), (48, .bool false), (49, mv), (50, .slice (some ⟨b10, o11, none⟩) N c), (51, Vi (i : Int)), (52, .pointer (some ⟨b10, o11 + i * 9, none⟩)), (53, .pointer (some ⟨b10, o11 + i * 9, none⟩)), (54, .string x.name), (55, .bool false), (56, .bool false), (58, .slice (some ⟨b10, o11, none⟩) N c), (59, Vi (i : Int)), (60, .pointer (some ⟨b10, o11 + i * 9, none⟩)), (61, .pointer (some ⟨b10, o11 + i * 9 + 3, none⟩)), (62, .agg #[Vi x.src.op, Vi x.src.k, Vi x.src.n, .string x.src.s, .string x.src.nm, .slice Au nu cu]), (63, .tuple #[.slice An nm.length cn, Vi en]), (57, .tuple #[.slice An nm.length cn, Vi en]), (64, .slice An nm.length cn), (65, Vi en), (9, .slice An nm.length cn), (66, .slice An nm.length cn), (67, Vi (nm.length : Int)), (68, Vi 0)] [.row mv 9 1 (strRows met)] [(b10, o11 + i * 9, [.string x.name, Vi x.kind, Vi x.ty, Vi x.src.op, Vi x.src.k, Vi x.src.n, .string x.src.s, .string x.src.nm, .slice Au nu cu]), (b10, o11 + i * 9, [.string x.name, Vi x.kind, Vi x.ty, Vi x.src.op, Vi x.src.k, Vi x.src.n, .string x.src.s, .string x.src.nm, .slice Au nu cu]), (b7, o8 + k * 1, [Vi (i : Int)])]) trivial trivial (fun _ => by kernel_rfl) ?_
    clear hJ a w; intro a w hJ
    refine x_loop (fun (j : Nat) a w => ∃ (h18 : Vw) , K ⟨94, h.w, h.bad, []⟩ [(3, .slice (some ⟨b10, o11, none⟩) N c), (34, .slice (some ⟨b7, o8, none⟩) N co), (35, Vi (N : Int)), (36, Vi (k : Int)), (6, mv), (37, .bool (decide ((k : Int) < (N : Int)))), (38, .pointer (some ⟨b7, o8 + k * 1, none⟩)), (39, Vi (i : Int)), (8, Vi (i : Int)), (40, Vi (i : Int)), (41, .bool false), (42, .bool false), (43, Vi (i : Int)), (44, .slice (some ⟨b10, o11, none⟩) N c), (45, Vi (N : Int)), (46, .bool false), (47, .bool false), (48, .bool false), (49, mv), (50, .slice (some ⟨b10, o11, none⟩) N c), (51, Vi (i : Int)), (52, .pointer (some ⟨b10, o11 + i * 9, none⟩)), (53, .pointer (some ⟨b10, o11 + i * 9, none⟩)), (54, .string x.name), (55, .bool false), (56, .bool false), (58, .slice (some ⟨b10, o11, none⟩) N c), (59, Vi (i : Int)), (60, .pointer (some ⟨b10, o11 + i * 9, none⟩)), (61, .pointer (some ⟨b10, o11 + i * 9 + 3, none⟩)), (62, .agg #[Vi x.src.op, Vi x.src.k, Vi x.src.n, .string x.src.s, .string x.src.nm, .slice Au nu cu]), (63, .tuple #[.slice An nm.length cn, Vi en]), (57, .tuple #[.slice An nm.length cn, Vi en]), (64, .slice An nm.length cn), (65, Vi en), (9, .slice An nm.length cn), (66, .slice An nm.length cn), (67, Vi (nm.length : Int)), (68, Vi (j : Int))] [.row mv 9 1 (strRows met)] [(b10, o11 + i * 9, [.string x.name, Vi x.kind, Vi x.ty, Vi x.src.op, Vi x.src.k, Vi x.src.n, .string x.src.s, .string x.src.nm, .slice Au nu cu]), (b10, o11 + i * 9, [.string x.name, Vi x.kind, Vi x.ty, Vi x.src.op, Vi x.src.k, Vi x.src.n, .string x.src.s, .string x.src.nm, .slice Au nu cu]), (b7, o8 + k * 1, [Vi (i : Int)])] h18 a w ∧ Sees h16 h18 ∧ (j ≤ nm.length)) (fun j => nm.length - j) (0) (by kernel_rfl) ⟨h16, hJ.to (by kernel_rfl) (by kernel_rfl) rfl, Sees.refl _, Nat.zero_le _⟩ ?_
    clear hJ a w; rintro j a w ⟨h18, hJ, s19, hj⟩
    refine rx hJ false 6 [] [] (.ok (.code [0, 1, 0, 0, 1, 0, 1, 1, 1, 0, 0, 1, 1, 0, 0, 1, 0, 1, 1, 1, 1, 1]) [.seq [1, 1, 0, 0, 1, 0, 1, 1, 1, 0, 0, 1, 1, 0, 0, 1, 0, 1, 1, 1, 1, 1]] [(3, .slice (some ⟨b10, o11, none⟩) N c), (34, .slice (some ⟨b7, o8, none⟩) N co), (35, Vi (N : Int)), (36, Vi (k : Int)), (6, mv), (37, .bool (decide ((k : Int) < (N : Int)))), (38, .pointer (some ⟨b7, o8 + k * 1, none⟩)), (39, Vi (i : Int)), (8, Vi (i : Int)), (40, Vi (i : Int)), (41, .bool false), (42, .bool false), (43, Vi (i : Int)), (44, .slice (some ⟨b10, o11, none⟩) N c), (45, Vi (N : Int)), (46, .bool false), (47, .bool false), (48, .bool false), (49, mv), (50, .slice (some ⟨b10, o11, none⟩) N c), (51, Vi (i : Int)), (52, .pointer (some ⟨b10, o11 + i * 9, none⟩)), (53, .pointer (some ⟨b10, o11 + i * 9, none⟩)), (54, .string x.name), (55, .bool false), (56, .bool false), (58, .slice (some ⟨b10, o11, none⟩) N c), (59, Vi (i : Int)), (60, .pointer (some ⟨b10, o11 + i * 9, none⟩)), (61, .pointer (some ⟨b10, o11 + i * 9 + 3, none⟩)), (62, .agg #[Vi x.src.op, Vi x.src.k, Vi x.src.n, .string x.src.s, .string x.src.nm, .slice Au nu cu]), (63, .tuple #[.slice An nm.length cn, Vi en]), (57, .tuple #[.slice An nm.length cn, Vi en]), (64, .slice An nm.length cn), (65, Vi en), (9, .slice An nm.length cn), (66, .slice An nm.length cn), (67, Vi (nm.length : Int)), (68, Vi (j : Int)), (69, .bool (decide ((j : Int) < (nm.length : Int))))] [.row mv 9 1 (strRows met)] [(b10, o11 + i * 9, [.string x.name, Vi x.kind, Vi x.ty, Vi x.src.op, Vi x.src.k, Vi x.src.n, .string x.src.s, .string x.src.nm, .slice Au nu cu]), (b10, o11 + i * 9, [.string x.name, Vi x.kind, Vi x.ty, Vi x.src.op, Vi x.src.k, Vi x.src.n, .string x.src.s, .string x.src.nm, .slice Au nu cu]), (b7, o8 + k * 1, [Vi (i : Int)])]) trivial trivial (fun _ => by kernel_rfl) ?_
    clear hJ a w; intro a w hJ
    rcases (by omega : j < nm.length ∨ j = nm.length) with hjl | hje
    · obtain ⟨s, hsj⟩ : ∃ s, nm[j]? = some s := ⟨_, List.getElem?_eq_getElem hjl⟩
      have hsr := str_row hsj
      have hys := hyes s (List.mem_of_getElem? hsj)
      have hkd := hkx s (List.mem_of_getElem? hsj)
      have hc2 := fun H u q => hco H u s q
      rw [hys] at hc2
      refine x_true hJ (t := decide ((j : Int) < (nm.length : Int))) (by kernel_rfl) (decide_eq_true (by omega)) ?_
      refine rx hJ false 6 [] [] (.ok (.ops [0, 0, 0, 1, 1, 0, 0, 1, 0, 1, 1, 1, 0, 0, 1, 1, 0, 0, 1, 0, 1, 1, 1, 1, 1] 0) [.seq [1, 0, 0, 1, 1, 0, 0, 1, 0, 1, 1, 1, 0, 0, 1, 1, 0, 0, 1, 0, 1, 1, 1, 1, 1], .block 3, .seq [1, 1, 1, 0, 0, 1, 0, 1, 1, 1, 0, 0, 1, 1, 0, 0, 1, 0, 1, 1, 1, 1, 1]] [(3, .slice (some ⟨b10, o11, none⟩) N c), (34, .slice (some ⟨b7, o8, none⟩) N co), (35, Vi (N : Int)), (36, Vi (k : Int)), (6, mv), (37, .bool (decide ((k : Int) < (N : Int)))), (38, .pointer (some ⟨b7, o8 + k * 1, none⟩)), (39, Vi (i : Int)), (8, Vi (i : Int)), (40, Vi (i : Int)), (41, .bool false), (42, .bool false), (43, Vi (i : Int)), (44, .slice (some ⟨b10, o11, none⟩) N c), (45, Vi (N : Int)), (46, .bool false), (47, .bool false), (48, .bool false), (49, mv), (50, .slice (some ⟨b10, o11, none⟩) N c), (51, Vi (i : Int)), (52, .pointer (some ⟨b10, o11 + i * 9, none⟩)), (53, .pointer (some ⟨b10, o11 + i * 9, none⟩)), (54, .string x.name), (55, .bool false), (56, .bool false), (58, .slice (some ⟨b10, o11, none⟩) N c), (59, Vi (i : Int)), (60, .pointer (some ⟨b10, o11 + i * 9, none⟩)), (61, .pointer (some ⟨b10, o11 + i * 9 + 3, none⟩)), (62, .agg #[Vi x.src.op, Vi x.src.k, Vi x.src.n, .string x.src.s, .string x.src.nm, .slice Au nu cu]), (63, .tuple #[.slice An nm.length cn, Vi en]), (57, .tuple #[.slice An nm.length cn, Vi en]), (64, .slice An nm.length cn), (65, Vi en), (9, .slice An nm.length cn), (66, .slice An nm.length cn), (67, Vi (nm.length : Int)), (68, Vi (j : Int)), (69, .bool (decide ((j : Int) < (nm.length : Int))))] [.row mv 9 1 (strRows met)] [(b10, o11 + i * 9, [.string x.name, Vi x.kind, Vi x.ty, Vi x.src.op, Vi x.src.k, Vi x.src.n, .string x.src.s, .string x.src.nm, .slice Au nu cu]), (b10, o11 + i * 9, [.string x.name, Vi x.kind, Vi x.ty, Vi x.src.op, Vi x.src.k, Vi x.src.n, .string x.src.s, .string x.src.nm, .slice Au nu cu]), (b7, o8 + k * 1, [Vi (i : Int)])]) trivial trivial (fun _ => by kernel_rfl) ?_
      clear hJ a w; intro a w hJ
      obtain ⟨b20, o21, rfl, -, c22⟩ := RS.row hnr (hsr)
      replace hJ := hJ.fact (c22.sees s19)
      refine rx hJ false 9 [.ix b20 o21 nm.length cn j, .f 0 0] [] (.ok (.ops [0, 1, 0, 0, 1, 1, 0, 0, 1, 0, 1, 1, 1, 0, 0, 1, 1, 0, 0, 1, 0, 1, 1, 1, 1, 1] 2) [.seq [1, 1, 0, 0, 1, 1, 0, 0, 1, 0, 1, 1, 1, 0, 0, 1, 1, 0, 0, 1, 0, 1, 1, 1, 1, 1], .block 3, .seq [1, 1, 1, 0, 0, 1, 0, 1, 1, 1, 0, 0, 1, 1, 0, 0, 1, 0, 1, 1, 1, 1, 1]] [(3, .slice (some ⟨b10, o11, none⟩) N c), (34, .slice (some ⟨b7, o8, none⟩) N co), (35, Vi (N : Int)), (36, Vi (k : Int)), (6, mv), (37, .bool (decide ((k : Int) < (N : Int)))), (38, .pointer (some ⟨b7, o8 + k * 1, none⟩)), (39, Vi (i : Int)), (8, Vi (i : Int)), (40, Vi (i : Int)), (41, .bool false), (42, .bool false), (43, Vi (i : Int)), (44, .slice (some ⟨b10, o11, none⟩) N c), (45, Vi (N : Int)), (46, .bool false), (47, .bool false), (48, .bool false), (49, mv), (50, .slice (some ⟨b10, o11, none⟩) N c), (51, Vi (i : Int)), (52, .pointer (some ⟨b10, o11 + i * 9, none⟩)), (53, .pointer (some ⟨b10, o11 + i * 9, none⟩)), (54, .string x.name), (55, .bool false), (56, .bool false), (58, .slice (some ⟨b10, o11, none⟩) N c), (59, Vi (i : Int)), (60, .pointer (some ⟨b10, o11 + i * 9, none⟩)), (61, .pointer (some ⟨b10, o11 + i * 9 + 3, none⟩)), (62, .agg #[Vi x.src.op, Vi x.src.k, Vi x.src.n, .string x.src.s, .string x.src.nm, .slice Au nu cu]), (63, .tuple #[.slice (some ⟨b20, o21, none⟩) nm.length cn, Vi en]), (57, .tuple #[.slice (some ⟨b20, o21, none⟩) nm.length cn, Vi en]), (64, .slice (some ⟨b20, o21, none⟩) nm.length cn), (65, Vi en), (9, .slice (some ⟨b20, o21, none⟩) nm.length cn), (66, .slice (some ⟨b20, o21, none⟩) nm.length cn), (67, Vi (nm.length : Int)), (68, Vi (j : Int)), (69, .bool (decide ((j : Int) < (nm.length : Int)))), (70, .pointer (some ⟨b20, o21 + j * 1, none⟩)), (71, .string s), (12, .string s), (72, .slice (some ⟨b10, o11, none⟩) N c), (73, Vi (i : Int))] [.row mv 9 1 (strRows met)] [(b20, o21 + j * 1, [.string s]), (b10, o11 + i * 9, [.string x.name, Vi x.kind, Vi x.ty, Vi x.src.op, Vi x.src.k, Vi x.src.n, .string x.src.s, .string x.src.nm, .slice Au nu cu]), (b10, o11 + i * 9, [.string x.name, Vi x.kind, Vi x.ty, Vi x.src.op, Vi x.src.k, Vi x.src.n, .string x.src.s, .string x.src.nm, .slice Au nu cu]), (b7, o8 + k * 1, [Vi (i : Int)])]) (And.intro (by first | omega | (simp; omega)) (trivial)) trivial (fun _ => by kernel_rfl) ?_
      clear hJ a w; intro a w hJ
      have c23 := RS.cell hr3 (hrow)
      replace hJ := hJ.fact (c23.sees (s4.trans (s6.trans (s14.trans (s17.trans s19)))))
      refine rx hJ false 7 [.ix b10 o11 N c i, .f 0 1] [(77, .bool (x.kind != 1), .bool true)] (.ok (.ops [0, 1, 0, 0, 1, 1, 0, 0, 1, 0, 1, 1, 1, 0, 0, 1, 1, 0, 0, 1, 0, 1, 1, 1, 1, 1] 9) [.seq [1, 1, 0, 0, 1, 1, 0, 0, 1, 0, 1, 1, 1, 0, 0, 1, 1, 0, 0, 1, 0, 1, 1, 1, 1, 1], .block 3, .seq [1, 1, 1, 0, 0, 1, 0, 1, 1, 1, 0, 0, 1, 1, 0, 0, 1, 0, 1, 1, 1, 1, 1]] [(3, .slice (some ⟨b10, o11, none⟩) N c), (34, .slice (some ⟨b7, o8, none⟩) N co), (35, Vi (N : Int)), (36, Vi (k : Int)), (6, mv), (37, .bool (decide ((k : Int) < (N : Int)))), (38, .pointer (some ⟨b7, o8 + k * 1, none⟩)), (39, Vi (i : Int)), (8, Vi (i : Int)), (40, Vi (i : Int)), (41, .bool false), (42, .bool false), (43, Vi (i : Int)), (44, .slice (some ⟨b10, o11, none⟩) N c), (45, Vi (N : Int)), (46, .bool false), (47, .bool false), (48, .bool false), (49, mv), (50, .slice (some ⟨b10, o11, none⟩) N c), (51, Vi (i : Int)), (52, .pointer (some ⟨b10, o11 + i * 9, none⟩)), (53, .pointer (some ⟨b10, o11 + i * 9, none⟩)), (54, .string x.name), (55, .bool false), (56, .bool false), (58, .slice (some ⟨b10, o11, none⟩) N c), (59, Vi (i : Int)), (60, .pointer (some ⟨b10, o11 + i * 9, none⟩)), (61, .pointer (some ⟨b10, o11 + i * 9 + 3, none⟩)), (62, .agg #[Vi x.src.op, Vi x.src.k, Vi x.src.n, .string x.src.s, .string x.src.nm, .slice Au nu cu]), (63, .tuple #[.slice (some ⟨b20, o21, none⟩) nm.length cn, Vi en]), (57, .tuple #[.slice (some ⟨b20, o21, none⟩) nm.length cn, Vi en]), (64, .slice (some ⟨b20, o21, none⟩) nm.length cn), (65, Vi en), (9, .slice (some ⟨b20, o21, none⟩) nm.length cn), (66, .slice (some ⟨b20, o21, none⟩) nm.length cn), (67, Vi (nm.length : Int)), (68, Vi (j : Int)), (69, .bool (decide ((j : Int) < (nm.length : Int)))), (70, .pointer (some ⟨b20, o21 + j * 1, none⟩)), (71, .string s), (12, .string s), (72, .slice (some ⟨b10, o11, none⟩) N c), (73, Vi (i : Int)), (74, .pointer (some ⟨b10, o11 + i * 9, none⟩)), (75, .pointer (some ⟨b10, o11 + i * 9 + 1, none⟩)), (76, Vi x.kind), (77, .bool true), (78, .bool true), (79, mv), (80, .string s)] [.row mv 9 1 (strRows met)] [(b10, o11 + i * 9, [.string x.name, Vi x.kind, Vi x.ty, Vi x.src.op, Vi x.src.k, Vi x.src.n, .string x.src.s, .string x.src.nm, .slice Au nu cu]), (b20, o21 + j * 1, [.string s]), (b10, o11 + i * 9, [.string x.name, Vi x.kind, Vi x.ty, Vi x.src.op, Vi x.src.k, Vi x.src.n, .string x.src.s, .string x.src.nm, .slice Au nu cu]), (b10, o11 + i * 9, [.string x.name, Vi x.kind, Vi x.ty, Vi x.src.op, Vi x.src.k, Vi x.src.n, .string x.src.s, .string x.src.nm, .slice Au nu cu]), (b7, o8 + k * 1, [Vi (i : Int)])]) (And.intro (by first | omega | (simp; omega)) (trivial)) (And.intro (congrArg Value.bool (by simpa using hkd)) (trivial)) (fun _ => by kernel_rfl) ?_
      clear hJ a w; intro a w hJ
      refine x_callq hJ 81 (hc2 _ _ (hJ.j.rowQ (v := mv) (e := 9) (k := 1) (l := strRows met) 0 rfl)) (fun _ => by kernel_rfl) ?_; clear hJ a w; intro h24 a w s25 hJ
      refine rx hJ false 12 [] [(84, Vi (IntKind.i64.wrap ((j : Int) + 1)), Vi ((j : Int) + 1))] (.ok (.out .normal) [] [(3, .slice (some ⟨b10, o11, none⟩) N c), (34, .slice (some ⟨b7, o8, none⟩) N co), (35, Vi (N : Int)), (36, Vi (k : Int)), (6, mv), (37, .bool (decide ((k : Int) < (N : Int)))), (38, .pointer (some ⟨b7, o8 + k * 1, none⟩)), (39, Vi (i : Int)), (8, Vi (i : Int)), (40, Vi (i : Int)), (41, .bool false), (42, .bool false), (43, Vi (i : Int)), (44, .slice (some ⟨b10, o11, none⟩) N c), (45, Vi (N : Int)), (46, .bool false), (47, .bool false), (48, .bool false), (49, mv), (50, .slice (some ⟨b10, o11, none⟩) N c), (51, Vi (i : Int)), (52, .pointer (some ⟨b10, o11 + i * 9, none⟩)), (53, .pointer (some ⟨b10, o11 + i * 9, none⟩)), (54, .string x.name), (55, .bool false), (56, .bool false), (58, .slice (some ⟨b10, o11, none⟩) N c), (59, Vi (i : Int)), (60, .pointer (some ⟨b10, o11 + i * 9, none⟩)), (61, .pointer (some ⟨b10, o11 + i * 9 + 3, none⟩)), (62, .agg #[Vi x.src.op, Vi x.src.k, Vi x.src.n, .string x.src.s, .string x.src.nm, .slice Au nu cu]), (63, .tuple #[.slice (some ⟨b20, o21, none⟩) nm.length cn, Vi en]), (57, .tuple #[.slice (some ⟨b20, o21, none⟩) nm.length cn, Vi en]), (64, .slice (some ⟨b20, o21, none⟩) nm.length cn), (65, Vi en), (9, .slice (some ⟨b20, o21, none⟩) nm.length cn), (66, .slice (some ⟨b20, o21, none⟩) nm.length cn), (67, Vi (nm.length : Int)), (69, .bool (decide ((j : Int) < (nm.length : Int)))), (70, .pointer (some ⟨b20, o21 + j * 1, none⟩)), (71, .string s), (12, .string s), (72, .slice (some ⟨b10, o11, none⟩) N c), (73, Vi (i : Int)), (74, .pointer (some ⟨b10, o11 + i * 9, none⟩)), (75, .pointer (some ⟨b10, o11 + i * 9 + 1, none⟩)), (76, Vi x.kind), (77, .bool true), (78, .bool true), (79, mv), (80, .string s), (81, .bool true), (82, .bool false), (83, .bool false), (84, Vi ((j : Int) + 1)), (68, Vi ((j : Int) + 1))] [.row mv 9 1 (strRows met)] [(b10, o11 + i * 9, [.string x.name, Vi x.kind, Vi x.ty, Vi x.src.op, Vi x.src.k, Vi x.src.n, .string x.src.s, .string x.src.nm, .slice Au nu cu]), (b20, o21 + j * 1, [.string s]), (b10, o11 + i * 9, [.string x.name, Vi x.kind, Vi x.ty, Vi x.src.op, Vi x.src.k, Vi x.src.n, .string x.src.s, .string x.src.nm, .slice Au nu cu]), (b10, o11 + i * 9, [.string x.name, Vi x.kind, Vi x.ty, Vi x.src.op, Vi x.src.k, Vi x.src.n, .string x.src.s, .string x.src.nm, .slice Au nu cu]), (b7, o8 + k * 1, [Vi (i : Int)])]) trivial (And.intro (i64_wrap (by omega) (by omega)) (trivial)) (fun _ => by kernel_rfl) ?_
      clear hJ a w; intro a w hJ
      exact x_round ⟨j + 1, ⟨h24, (hJ.tof [2, 3, 4] (F' := [(b10, o11 + i * 9, [.string x.name, Vi x.kind, Vi x.ty, Vi x.src.op, Vi x.src.k, Vi x.src.n, .string x.src.s, .string x.src.nm, .slice Au nu cu]), (b10, o11 + i * 9, [.string x.name, Vi x.kind, Vi x.ty, Vi x.src.op, Vi x.src.k, Vi x.src.n, .string x.src.s, .string x.src.nm, .slice Au nu cu]), (b7, o8 + k * 1, [Vi (i : Int)])]) (by kernel_rfl)).to (by kernel_rfl) (by kernel_rfl) rfl, (s19.trans s25), by omega⟩, by omega⟩
    · skip
      refine x_false hJ (t := decide ((j : Int) < (nm.length : Int))) (by kernel_rfl) (decide_eq_false (by omega)) ?_
      refine rx hJ false 2 [] [] (.ok (.out (.exit 2)) [] [(3, .slice (some ⟨b10, o11, none⟩) N c), (34, .slice (some ⟨b7, o8, none⟩) N co), (35, Vi (N : Int)), (36, Vi (k : Int)), (6, mv), (37, .bool (decide ((k : Int) < (N : Int)))), (38, .pointer (some ⟨b7, o8 + k * 1, none⟩)), (39, Vi (i : Int)), (8, Vi (i : Int)), (40, Vi (i : Int)), (41, .bool false), (42, .bool false), (43, Vi (i : Int)), (44, .slice (some ⟨b10, o11, none⟩) N c), (45, Vi (N : Int)), (46, .bool false), (47, .bool false), (48, .bool false), (49, mv), (50, .slice (some ⟨b10, o11, none⟩) N c), (51, Vi (i : Int)), (52, .pointer (some ⟨b10, o11 + i * 9, none⟩)), (53, .pointer (some ⟨b10, o11 + i * 9, none⟩)), (54, .string x.name), (55, .bool false), (56, .bool false), (58, .slice (some ⟨b10, o11, none⟩) N c), (59, Vi (i : Int)), (60, .pointer (some ⟨b10, o11 + i * 9, none⟩)), (61, .pointer (some ⟨b10, o11 + i * 9 + 3, none⟩)), (62, .agg #[Vi x.src.op, Vi x.src.k, Vi x.src.n, .string x.src.s, .string x.src.nm, .slice Au nu cu]), (63, .tuple #[.slice An nm.length cn, Vi en]), (57, .tuple #[.slice An nm.length cn, Vi en]), (64, .slice An nm.length cn), (65, Vi en), (9, .slice An nm.length cn), (66, .slice An nm.length cn), (67, Vi (nm.length : Int)), (68, Vi (j : Int)), (69, .bool (decide ((j : Int) < (nm.length : Int))))] [.row mv 9 1 (strRows met)] [(b10, o11 + i * 9, [.string x.name, Vi x.kind, Vi x.ty, Vi x.src.op, Vi x.src.k, Vi x.src.n, .string x.src.s, .string x.src.nm, .slice Au nu cu]), (b10, o11 + i * 9, [.string x.name, Vi x.kind, Vi x.ty, Vi x.src.op, Vi x.src.k, Vi x.src.n, .string x.src.s, .string x.src.nm, .slice Au nu cu]), (b7, o8 + k * 1, [Vi (i : Int)])]) trivial trivial (fun _ => by kernel_rfl) ?_
      clear hJ a w; intro a w hJ
      refine x_leave rfl ?_
      refine rx hJ false 6 [] [] (.ok (.ops [1, 1, 1, 1, 0, 0, 1, 1, 0, 0, 1, 0, 1, 1, 1, 1, 1] 3) [.block 1, .seq [1, 1, 1, 0, 0, 1, 0, 1, 1, 1, 1, 1]] [(3, .slice (some ⟨b10, o11, none⟩) N c), (34, .slice (some ⟨b7, o8, none⟩) N co), (35, Vi (N : Int)), (36, Vi (k : Int)), (6, mv), (37, .bool (decide ((k : Int) < (N : Int)))), (38, .pointer (some ⟨b7, o8 + k * 1, none⟩)), (39, Vi (i : Int)), (8, Vi (i : Int)), (40, Vi (i : Int)), (41, .bool false), (42, .bool false), (43, Vi (i : Int)), (44, .slice (some ⟨b10, o11, none⟩) N c), (45, Vi (N : Int)), (46, .bool false), (47, .bool false), (48, .bool false), (49, mv), (50, .slice (some ⟨b10, o11, none⟩) N c), (51, Vi (i : Int)), (52, .pointer (some ⟨b10, o11 + i * 9, none⟩)), (53, .pointer (some ⟨b10, o11 + i * 9, none⟩)), (54, .string x.name), (55, .bool false), (56, .bool false), (58, .slice (some ⟨b10, o11, none⟩) N c), (59, Vi (i : Int)), (60, .pointer (some ⟨b10, o11 + i * 9, none⟩)), (61, .pointer (some ⟨b10, o11 + i * 9 + 3, none⟩)), (62, .agg #[Vi x.src.op, Vi x.src.k, Vi x.src.n, .string x.src.s, .string x.src.nm, .slice Au nu cu]), (63, .tuple #[.slice An nm.length cn, Vi en]), (57, .tuple #[.slice An nm.length cn, Vi en]), (64, .slice An nm.length cn), (65, Vi en), (9, .slice An nm.length cn), (66, .slice An nm.length cn), (67, Vi (nm.length : Int)), (68, Vi (j : Int)), (69, .bool (decide ((j : Int) < (nm.length : Int)))), (85, mv), (86, .slice (some ⟨b10, o11, none⟩) N c), (87, Vi (i : Int))] [.row mv 9 1 (strRows met)] [(b10, o11 + i * 9, [.string x.name, Vi x.kind, Vi x.ty, Vi x.src.op, Vi x.src.k, Vi x.src.n, .string x.src.s, .string x.src.nm, .slice Au nu cu]), (b10, o11 + i * 9, [.string x.name, Vi x.kind, Vi x.ty, Vi x.src.op, Vi x.src.k, Vi x.src.n, .string x.src.s, .string x.src.nm, .slice Au nu cu]), (b7, o8 + k * 1, [Vi (i : Int)])]) trivial trivial (fun _ => by kernel_rfl) ?_
      clear hJ a w; intro a w hJ
      have c26 := RS.cell hr3 (hrow)
      replace hJ := hJ.fact (c26.sees (s4.trans (s6.trans (s14.trans (s17.trans s19)))))
      refine rx hJ true 4 [.ix b10 o11 N c i, .f 0 0, .fix] [] (.new fun b27 => .ok (.ops [1, 1, 1, 1, 0, 0, 1, 1, 0, 0, 1, 0, 1, 1, 1, 1, 1] 7) [.block 1, .seq [1, 1, 1, 0, 0, 1, 0, 1, 1, 1, 1, 1]] [(3, .slice (some ⟨b10, o11, none⟩) N c), (34, .slice (some ⟨b7, o8, none⟩) N co), (35, Vi (N : Int)), (36, Vi (k : Int)), (6, mv), (37, .bool (decide ((k : Int) < (N : Int)))), (38, .pointer (some ⟨b7, o8 + k * 1, none⟩)), (39, Vi (i : Int)), (8, Vi (i : Int)), (40, Vi (i : Int)), (41, .bool false), (42, .bool false), (43, Vi (i : Int)), (44, .slice (some ⟨b10, o11, none⟩) N c), (45, Vi (N : Int)), (46, .bool false), (47, .bool false), (48, .bool false), (49, mv), (50, .slice (some ⟨b10, o11, none⟩) N c), (51, Vi (i : Int)), (52, .pointer (some ⟨b10, o11 + i * 9, none⟩)), (53, .pointer (some ⟨b10, o11 + i * 9, none⟩)), (54, .string x.name), (55, .bool false), (56, .bool false), (58, .slice (some ⟨b10, o11, none⟩) N c), (59, Vi (i : Int)), (60, .pointer (some ⟨b10, o11 + i * 9, none⟩)), (61, .pointer (some ⟨b10, o11 + i * 9 + 3, none⟩)), (62, .agg #[Vi x.src.op, Vi x.src.k, Vi x.src.n, .string x.src.s, .string x.src.nm, .slice Au nu cu]), (63, .tuple #[.slice An nm.length cn, Vi en]), (57, .tuple #[.slice An nm.length cn, Vi en]), (64, .slice An nm.length cn), (65, Vi en), (9, .slice An nm.length cn), (66, .slice An nm.length cn), (67, Vi (nm.length : Int)), (68, Vi (j : Int)), (69, .bool (decide ((j : Int) < (nm.length : Int)))), (85, mv), (86, .slice (some ⟨b10, o11, none⟩) N c), (87, Vi (i : Int)), (88, .pointer (some ⟨b10, o11 + i * 9, none⟩)), (89, .pointer (some ⟨b10, o11 + i * 9, none⟩)), (90, .string x.name), (91, Vs b27 1 1)] [.row mv 9 1 (strRows met)] [(b27, 0, [.string x.name]), (b10, o11 + i * 9, [.string x.name, Vi x.kind, Vi x.ty, Vi x.src.op, Vi x.src.k, Vi x.src.n, .string x.src.s, .string x.src.nm, .slice Au nu cu]), (b10, o11 + i * 9, [.string x.name, Vi x.kind, Vi x.ty, Vi x.src.op, Vi x.src.k, Vi x.src.n, .string x.src.s, .string x.src.nm, .slice Au nu cu]), (b10, o11 + i * 9, [.string x.name, Vi x.kind, Vi x.ty, Vi x.src.op, Vi x.src.k, Vi x.src.n, .string x.src.s, .string x.src.nm, .slice Au nu cu]), (b7, o8 + k * 1, [Vi (i : Int)])]) (And.intro (by first | omega | (simp; omega)) (trivial)) trivial (fun b27 _ => by kernel_rfl) ?_
      clear hJ a w; intro b27 h28 a w s29 hJ
      refine rx hJ true 9 [.ap 0 0 (strRows met) [[.string x.name]]] [(93, Vi (IntKind.i64.wrap ((k : Int) + 1)), Vi ((k : Int) + 1))] (.nv fun v92 => .ok (.out .normal) [] [(3, .slice (some ⟨b10, o11, none⟩) N c), (34, .slice (some ⟨b7, o8, none⟩) N co), (35, Vi (N : Int)), (37, .bool (decide ((k : Int) < (N : Int)))), (38, .pointer (some ⟨b7, o8 + k * 1, none⟩)), (39, Vi (i : Int)), (8, Vi (i : Int)), (40, Vi (i : Int)), (41, .bool false), (42, .bool false), (43, Vi (i : Int)), (44, .slice (some ⟨b10, o11, none⟩) N c), (45, Vi (N : Int)), (46, .bool false), (47, .bool false), (48, .bool false), (49, mv), (50, .slice (some ⟨b10, o11, none⟩) N c), (51, Vi (i : Int)), (52, .pointer (some ⟨b10, o11 + i * 9, none⟩)), (53, .pointer (some ⟨b10, o11 + i * 9, none⟩)), (54, .string x.name), (55, .bool false), (56, .bool false), (58, .slice (some ⟨b10, o11, none⟩) N c), (59, Vi (i : Int)), (60, .pointer (some ⟨b10, o11 + i * 9, none⟩)), (61, .pointer (some ⟨b10, o11 + i * 9 + 3, none⟩)), (62, .agg #[Vi x.src.op, Vi x.src.k, Vi x.src.n, .string x.src.s, .string x.src.nm, .slice Au nu cu]), (63, .tuple #[.slice An nm.length cn, Vi en]), (57, .tuple #[.slice An nm.length cn, Vi en]), (64, .slice An nm.length cn), (65, Vi en), (9, .slice An nm.length cn), (66, .slice An nm.length cn), (67, Vi (nm.length : Int)), (68, Vi (j : Int)), (69, .bool (decide ((j : Int) < (nm.length : Int)))), (85, mv), (86, .slice (some ⟨b10, o11, none⟩) N c), (87, Vi (i : Int)), (88, .pointer (some ⟨b10, o11 + i * 9, none⟩)), (89, .pointer (some ⟨b10, o11 + i * 9, none⟩)), (90, .string x.name), (91, Vs b27 1 1), (92, .slice (sA v92) (sN v92) (sC v92)), (6, .slice (sA v92) (sN v92) (sC v92)), (93, Vi ((k : Int) + 1)), (36, Vi ((k : Int) + 1))] [.row (.slice (sA v92) (sN v92) (sC v92)) 9 1 ((strRows met) ++ [[.string x.name]])] [(b27, 0, [.string x.name]), (b10, o11 + i * 9, [.string x.name, Vi x.kind, Vi x.ty, Vi x.src.op, Vi x.src.k, Vi x.src.n, .string x.src.s, .string x.src.nm, .slice Au nu cu]), (b10, o11 + i * 9, [.string x.name, Vi x.kind, Vi x.ty, Vi x.src.op, Vi x.src.k, Vi x.src.n, .string x.src.s, .string x.src.nm, .slice Au nu cu]), (b10, o11 + i * 9, [.string x.name, Vi x.kind, Vi x.ty, Vi x.src.op, Vi x.src.k, Vi x.src.n, .string x.src.s, .string x.src.nm, .slice Au nu cu]), (b7, o8 + k * 1, [Vi (i : Int)])]) (And.intro (by constructor <;> (simp; omega)) (trivial)) (And.intro (i64_wrap (by omega) (by omega)) (trivial)) (fun v92 _ => by kernel_rfl) ?_
      clear hJ a w; intro v92 h30 a w s31 hJ
      exact x_round ⟨k + 1, ⟨h30, .slice (sA v92) (sN v92) (sC v92), (hJ.tof [] (F' := []) (by kernel_rfl)).to (by kernel_rfl) (by rw [hsn]; simp [strRows]) rfl, (s6.trans (s14.trans (s17.trans (s19.trans (s29.trans s31))))), by omega⟩, by omega⟩
  · skip
    refine x_false hJ (t := decide ((k : Int) < (N : Int))) (by kernel_rfl) (decide_eq_false (by omega)) ?_
    refine rx hJ false 2 [] [] (.ok (.out (.exit 0)) [] [(3, .slice A N c), (34, .slice Ao N co), (35, Vi (N : Int)), (36, Vi (k : Int)), (6, mv), (37, .bool (decide ((k : Int) < (N : Int))))] [.row mv 9 1 (strRows ((o.take k).map (nmA fs)))] []) trivial trivial (fun _ => by kernel_rfl) ?_
    clear hJ a w; intro a w hJ
    refine x_leave rfl ?_
    refine rx hJ false 8 [] [] (.ok (.out .ret) [] [(2, .bool true)] [.row mv 9 1 (strRows ((o.take k).map (nmA fs)))] []) trivial trivial (fun _ => by kernel_rfl) ?_
    clear hJ a w; intro a w hJ
    refine x_end (hQ [.bool true] _ [] hJ (.rtmp hJ.j (by kernel_rfl) .nil) (no_own _) rfl ?_).1
    exact rfl

theorem rankOrdered_walk (v : Value) (l : List RawD) (w : World) (h : RawsOf w v l) :
    Calls Try.prog 13 #[v] w fun e w' => e = .returned (.bool true) ∧ Below w.heap.size w w' :=
  C0.law (rankOrdered_c l v ⟨w, []⟩ h.rs h.2.1 h.2.2)

namespace rankOrderedLaw
open Go.ChangeShapes Go.WideShapes Go.ChangeAt Go.RowKit
open Go.ChangeMaps (open_string shut_string)
set_option linter.unusedVariables false

set_option maxRecDepth 100000 in
theorem lifted (os : Os) (started : os.Started) (H : Type) (enc : TypeId × Value → H) :
    ReturnsInHanded {} Try.checked os 13 .any (Rows.rankOrderedSpec.pre6 enc Try.prog Try.f13 Rows.rankOrderedRow.domain false) (Rows.rankOrderedSpec.post enc Try.prog Try.f13 false true false false) := by
  refine returnsInHanded_of_change_sized (C := Try.checked) ownNone started (by kernel_rfl) Try.func13
    (ChangeSpec.witness6 (enc := enc) (C := Try.checked) false ⟨#[], #[.slice none 0 0], []⟩ 8 (by kernel_rfl) (by kernel_rfl) (by kernel_rfl) (by kernel_rfl)) ?_
  intro W base args ds gs before hval0 hW hcnd hsz0 _
  have hval : ∀ (j : Nat) t v, Try.f13.params[j]? = some t → args[j]? = some v → Value.okWide Try.prog W .any base t v := hval0
  have hsz : (DataW.weightsEach Try.prog (Try.f13.params.toList ++ Rows.rankOrderedSpec.plain.varTypes Try.prog) (ds ++ gs)).all (· ≤ reachBytes) = true := hsz0
  have hW' := hW
  obtain ⟨p, q, hA0, hV, rfl, hfz, hnd⟩ := hW
  have hA : DataW.TrodAll enc Try.prog W 0 (fun _ => true) true Try.f13.params.toList args.toList ds p := hA0
  rw [Try.params13] at hA hval hsz
  obtain ⟨v0, vs0, d0, ds0, p0, q0, hargs, rfl, rfl, h0, r0⟩ := trodAll_cons hA
  obtain ⟨rfl, rfl, rfl⟩ := trodAll_nil r0
  obtain rfl : args = #[v0] := by cases args; simp_all
  obtain ⟨rfl, rfl⟩ := trodVars_none hV
  have k0 := h0
  have lt0 : ∀ x ∈ p0, x.block < W.heap.size := by obtain ⟨m, hm⟩ := k0; exact DataW.trod_lt m _ _ _ hm
  obtain ⟨a0, w0⟩ := open_rows (hval 0 22 v0 rfl rfl) h0 (fun es ss hd => sized_slice hsz (j := 0) (t := 22) (elems := es) (spare := ss) rfl (by rw [hd]; rfl) Try.underlying22)
  clear hA0 hval0 hsz0
  refine (rankOrdered_walk v0 a0 W w0).mono fun e W' ⟨he, bel⟩ => ?_
  subst he
  exact ⟨_, rfl, _, _, _, [], _, [], hW', trodAll_mk1 (shut_bool Try.underlying4 _), (trodAll_cons_mk (Below.trod laidOutTrue (by kernel_rfl) (of_decide_eq_true (by kernel_rfl)) k0 bel lt0) trodAll_mk0), rfl, bel.frame _, fun h => by cases h⟩

theorem over : Rows.rankOrderedRow.holds Try.pinned (OpenSpec.ofChange Rows.rankOrderedSpec) :=
  OpenClaim.holds_of_wide 13 Try.f13 rfl rfl rfl rfl rfl rfl rfl ⟨rfl, rfl, rfl, rfl, rfl⟩ rfl rfl rfl rfl rfl (by kernel_rfl) Try.func13 (by kernel_rfl)
    (of_decide_eq_true (by kernel_rfl)) (by unfold Func.isWrapper; first | (rw [if_pos (by decide +kernel)]; kernel_rfl) | (rw [if_neg (by decide +kernel)]; exact ⟨rfl, rfl⟩))
    (fun os started H enc _ => lifted os started H enc)

end rankOrderedLaw
theorem rankOrdered_holds : Rows.RankOrderedSaid := rankOrderedLaw.over
#print axioms rankOrdered_holds
end Go.Proofs.Ytgjndkphfabnnaa
