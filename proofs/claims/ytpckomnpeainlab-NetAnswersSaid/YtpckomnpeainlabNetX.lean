/-
  Contracts of package net, as walks by certificates want them.
-/
import Derived.Test.YtpckomnpeainlabNetL
import Derived.Test.YtpckomnpeainlabLent
import Derived.Test.YtpckomnpeainlabVl
import Derived.Test.YtpckomnpeainlabTold
namespace Go.Proofs.Ytpckomnpeainlab
open Go.RowKit
set_option linter.unusedVariables false

theorem Sl.of_rs {h : Vw} {k : Nat} {v : Value} {l : List (List Value)} (r : RS h k v l) : Sl h.w k v l := by
  rcases r with r | ⟨b, off, cap, e, h1, h2, hb, hn, hc⟩
  · exact .inl r
  · exact .inr ⟨b, off, cap, e, h1, h2, hb, fun i r hi j u hj => hc i r hi j u hj⟩
theorem C0.of_e {P : Program} {f : FuncId} {args : Array Value} {v : Value} {h : Vw} (hc : Calls P f args h.w (GivesE v h.w)) : C0 P f args h (fun r _ => r = v) := by
  intro _ _ _ _
  refine hc.mono ?_
  rintro e w' ⟨rfl, hb⟩
  exact ⟨_, [], rfl, Low.of_below hb.below, (fun x hx => by cases hx), rfl, rfl⟩
theorem own_ent {w : World} {base : Nat} {e : TypeId} {k : Nat} {v : Value} {l : List (List Value)} (h : Own w base e k v l.length l.flatten) (hk : Len k l) : Ent.ok base w (.row v e k l) := ⟨h.own, hk⟩
theorem CRow.of_own {P : Program} {f : FuncId} {args : Array Value} {e : TypeId} {k : Nat} {l : List (List Value)} {h : Vw} (hk : Len k l) (hc : Calls P f args h.w (GivesOwn e k l h.w)) : CRow P f args h e k (fun _ rows => rows = l) := by
  intro _ _ _ _
  refine hc.mono ?_
  rintro en w' ⟨v, rfl, ho, hb⟩
  exact ⟨_, [], rfl, Low.of_below hb.below, (fun x hx => by cases hx), rfl, l, own_ent ho hk, rfl⟩
theorem rs_of_own {w : World} {base : Nat} {e : TypeId} {k : Nat} {v : Value} {l : List (List Value)} {bad : List Nat} (h : Own w base e k v l.length l.flatten) (hk : Len k l) (hb : ∀ b ∈ bad, b < base) : RS ⟨w, bad⟩ k v l :=
  row_rs (own_ent h hk) fun b hb' hm => by have := (h.own.lt b hb').1; have := hb b hm; omega
theorem C0.of_own {P : Program} {f : FuncId} {args : Array Value} {e : TypeId} {k : Nat} {l : List (List Value)} {h : Vw} (hk : Len k l) (hc : Calls P f args h.w (GivesOwn e k l h.w)) : C0 P f args h (fun v h' => ∃ u, v = .slice (sA u) (sN u) (sC u) ∧ RS h' k (.slice (sA u) (sN u) (sC u)) l) := by
  intro _ _ _ hbad
  refine hc.mono ?_
  rintro en w' ⟨v, rfl, ho, hb⟩
  have hr := rs_of_own (bad := h.bad) ho hk hbad
  obtain ⟨A, c, rfl, -⟩ := hr.form
  exact ⟨_, [], rfl, Low.of_below hb.below, (fun x hx => by cases hx), rfl, .slice A l.length c, rfl, hr⟩
theorem C0.of_lown {P : Program} {f : FuncId} {args : Array Value} {l : List Ltr} {h : Vw} (hc : Calls P f args h.w (LOwn l h.w)) : C0 P f args h (fun v h' => ∃ u, v = .tuple #[.slice (sA u) (sN u) (sC u), .int .i64 0] ∧ RS h' 8 (.slice (sA u) (sN u) (sC u)) (lcs l)) := by
  intro _ _ _ hbad
  refine hc.mono ?_
  rintro en w' ⟨v, rfl, ho, hb⟩
  have hr := rs_of_own (bad := h.bad) ho (lcs_len l) hbad
  obtain ⟨A, c, rfl, -⟩ := hr.form
  exact ⟨_, [], rfl, Low.of_below hb.below, (fun x hx => by cases hx), rfl, .slice A (lcs l).length c, rfl, hr⟩

section
variable {h : Vw} {v v' : Value} {l : List Ltr}
theorem c_at (hr : RS h 8 v (lcs l)) (hl : l.length ≤ 24) (hok : ∀ x ∈ l, OkL x) (i : Nat) (x : Ltr) (hi : l[i]? = some x) : C0 Try.prog 51 #[v, .int .i64 (i : Int)] h (fun r _ => r = .tuple #[.agg #[.string x.f, .int .i64 x.id, .int .i64 x.kk, .int .i64 x.kn, .string x.ks, .int .i64 x.ak, .int .i64 x.an, .string x.as'], .int .i64 0]) :=
  C0.of_e (net_at v l i x h.w (Sl.of_rs hr) hl hok hi)
theorem c_lose (hr : RS h 8 v (lcs l)) (hl : l.length ≤ 24) (hok : ∀ x ∈ l, OkL x) (i : Nat) (hi : i < l.length) : C0 Try.prog 28 #[v, .int .i64 (i : Int)] h (fun r h' => ∃ u, r = .tuple #[.slice (sA u) (sN u) (sC u), .int .i64 0] ∧ RS h' 8 (.slice (sA u) (sN u) (sC u)) (lcs (l.eraseIdx i))) :=
  C0.of_lown (net_lose v l i h.w (Sl.of_rs hr) hl hok hi)
theorem c_cloneL (hr : RS h 8 v (lcs l)) (hl : l.length ≤ 1000000) : CRow Try.prog 52 #[v] h 54 8 (fun _ rows => rows = lcs l) :=
  CRow.of_own (lcs_len l) (clone_ltr v (lcs l) h.w (Sl.of_rs hr) (lcs_len _) (lcs_one _) (by simp; omega))
theorem c_cloneR {rs : List RawD} (hr : RS h 4 v (rs.map RawD.cs)) (hl : rs.length * 40 ≤ 140737488355328) : CRow Try.prog 27 #[v] h 47 4 (fun _ rows => rows = rs.map RawD.cs) :=
  CRow.of_own (raws_len rs) (clone_raw v (rs.map RawD.cells) h.w (Sl.of_rs hr) (raws_len _) (raws_one _) (by simpa using hl))
theorem c_letters {rs : List RawD} (hr : RS h 4 v (rs.map RawD.cs)) (hl : rs.length * 40 ≤ 140737488355328) (hok : ∀ r ∈ rs, r.ok) : C0 Try.prog 26 #[v] h (fun r h' => ∃ A c, r = .slice A (ltrOf rs).length c ∧ RS h' 8 (.slice A (ltrOf rs).length c) (lcs (ltrOf rs))) := by
  refine (C0.of_own (lcs_len _) (letters_gen v rs h.w (Sl.of_rs hr) hl hok)).mono fun r h' _ => ?_
  rintro ⟨u, rfl, k⟩
  obtain ⟨A, c, e, -⟩ := k.form
  rw [List.length_map] at e
  rw [e] at k ⊢
  exact ⟨A, c, rfl, k⟩
theorem c_concat {va vb : Value} {la lb : List Ltr} (hr : RS h 1 v [[va], [vb]]) (ha : RS h 8 va (lcs la)) (hb : RS h 8 vb (lcs lb)) (hl : la.length + lb.length ≤ 1000000) : C0 Try.prog 31 #[v] h (fun r h' => ∃ u, r = .slice (sA u) (sN u) (sC u) ∧ RS h' 8 (.slice (sA u) (sN u) (sC u)) (lcs (la ++ lb))) := by
  have := concat_ltr v va vb (lcs la) (lcs lb) h.w (Sl.of_rs hr) (Sl.of_rs ha) (Sl.of_rs hb) (lcs_len _) (lcs_len _) (lcs_one _) (lcs_one _) (by simp; omega)
  rw [show lcs la ++ lcs lb = lcs (la ++ lb) by simp [lcs]] at this
  exact C0.of_own (lcs_len _) this
theorem c_equal (hr : RS h 8 v (lcs l)) (hr' : RS h 8 v' (lcs l)) (hl : l.length ≤ 1000000) : C0 Try.prog 29 #[v, v'] h (fun r _ => r = .bool true) :=
  C0.of_e (equal_ltr v v' l h.w (Sl.of_rs hr) (Sl.of_rs hr') (by omega))
end

set_option maxRecDepth 100000 in
theorem answer_twice (l : List Ltr) (v : Value) (i : Nat) (x : Ltr) (k n : Int) (s : ByteArray) (h : Vw) (hr : RS h 8 v (lcs l)) (hl : l.length ≤ 24) (hok : ∀ x ∈ l, OkL x) (hi : l[i]? = some x) (hx : x.ak ≠ 0) :
    C0 Try.prog 34 #[v, .int .i64 (i : Int), .agg #[.int .i64 k, .int .i64 n, .string s]] h (fun r _ => r = .tuple #[.slice none 0 0, .int .i64 2]) := by
  have hA := fun H q => c_at (h := H) (v := v) q hl hok i x hi
  obtain ⟨A, c, rfl, -⟩ := hr.form
  refine x_con Try.func34 (c := Try.f34.body.getD .skip) (by kernel_rfl) (N := 38) rfl (by kernel_rfl) ?_
  intro hbx hbad Q hQ a w hJ
  replace hJ : K ⟨38, h.w, h.bad, []⟩ [(0, .slice A ((lcs l).length) c), (1, .int .i64 (i : Int)), (2, .agg #[.int .i64 k, .int .i64 n, .string s])] [] [] h a w := hJ.to (by kernel_rfl) (by kernel_rfl) rfl
  refine rx hJ false 39 [.own, .cl 51 #[.slice A ((lcs l).length) c, .int .i64 (i : Int)] (.tuple #[.agg #[.string x.f, .int .i64 x.id, .int .i64 x.kk, .int .i64 x.kn, .string x.ks, .int .i64 x.ak, .int .i64 x.an, .string x.as'], .int .i64 0]), .own, .b 0 0, .b 0 5] [] (.new fun b1 => .new fun b2 => .ok (.code [1, 1, 1, 0, 0, 1, 1]) [.block 0, .seq [1, 1, 1]] [(0, .slice A ((lcs l).length) c), (1, .int .i64 (i : Int)), (5, .pointer (some ⟨b1, 0, none⟩)), (6, .slice none 0 0), (7, .int .i64 0), (21, .bool (x.ak != 0))] [.box b2 [.string x.f, .int .i64 x.id, .int .i64 x.kk, .int .i64 x.kn, .string x.ks, .int .i64 x.ak, .int .i64 x.an, .string x.as'], .box b1 [.int .i64 k, .int .i64 n, .string s]] []) (And.intro (fun H sH => hA _ (hr.sees sH)) (trivial)) trivial (fun b1 b2 _ => by kernel_rfl) ?_
  clear hJ a w; intro b1 b2 a w hJ
  refine x_true hJ (t := x.ak != 0) (by kernel_rfl) (bne_iff_ne.2 hx) ?_
  refine rx hJ false 9 [] [] (.ok (.out .ret) [] [(6, .slice none 0 0), (7, .int .i64 2)] [.box b2 [.string x.f, .int .i64 x.id, .int .i64 x.kk, .int .i64 x.kn, .string x.ks, .int .i64 x.ak, .int .i64 x.an, .string x.as'], .box b1 [.int .i64 k, .int .i64 n, .string s]] []) trivial trivial (fun _ => by kernel_rfl) ?_
  clear hJ a w; intro a w hJ
  refine x_end (hQ [.slice none 0 0, .int .i64 2] _ [] hJ (.rtmp hJ.j (by kernel_rfl) (.rtmp hJ.j (by kernel_rfl) .nil)) (no_own _) rfl ?_).1
  exact rfl

set_option maxRecDepth 100000 in
theorem answer_yes (l : List Ltr) (v : Value) (i : Nat) (x : Ltr) (k n : Int) (s : ByteArray) (h : Vw) (hr : RS h 8 v (lcs l)) (hl : l.length ≤ 24) (hok : ∀ x ∈ l, OkL x) (hi : l[i]? = some x) (hx : x.ak = 0) (hk : KnownV k n s) :
    C0 Try.prog 34 #[v, .int .i64 (i : Int), .agg #[.int .i64 k, .int .i64 n, .string s]] h (fun r h' => ∃ u, r = .tuple #[.slice (sA u) (sN u) (sC u), .int .i64 0] ∧ RS h' 8 (.slice (sA u) (sN u) (sC u)) (lcs (l.set i (x.ans k n s)))) := by
  have hA := fun H q => c_at (h := H) (v := v) q hl hok i x hi
  have hil := (List.getElem?_eq_some_iff.1 hi).1
  have hrow : (lcs l)[i]? = some x.cells := by rw [List.getElem?_map, hi]; rfl
  have hll : (lcs l).length = l.length := List.length_map _
  obtain ⟨A, c, rfl, -⟩ := hr.form
  refine x_con Try.func34 (c := Try.f34.body.getD .skip) (by kernel_rfl) (N := 38) rfl (by kernel_rfl) ?_
  intro hbx hbad Q hQ a w hJ
  replace hJ : K ⟨38, h.w, h.bad, []⟩ [(0, .slice A ((lcs l).length) c), (1, .int .i64 (i : Int)), (2, .agg #[.int .i64 k, .int .i64 n, .string s])] [] [] h a w := hJ.to (by kernel_rfl) (by kernel_rfl) rfl
  refine rx hJ false 39 [.own, .cl 51 #[.slice A ((lcs l).length) c, .int .i64 (i : Int)] (.tuple #[.agg #[.string x.f, .int .i64 x.id, .int .i64 x.kk, .int .i64 x.kn, .string x.ks, .int .i64 x.ak, .int .i64 x.an, .string x.as'], .int .i64 0]), .own, .b 0 0, .b 0 5] [] (.new fun b1 => .new fun b2 => .ok (.code [1, 1, 1, 0, 0, 1, 1]) [.block 0, .seq [1, 1, 1]] [(0, .slice A ((lcs l).length) c), (1, .int .i64 (i : Int)), (5, .pointer (some ⟨b1, 0, none⟩)), (6, .slice none 0 0), (7, .int .i64 0), (21, .bool (x.ak != 0))] [.box b2 [.string x.f, .int .i64 x.id, .int .i64 x.kk, .int .i64 x.kn, .string x.ks, .int .i64 x.ak, .int .i64 x.an, .string x.as'], .box b1 [.int .i64 k, .int .i64 n, .string s]] []) (And.intro (fun H sH => hA _ (hr.sees sH)) (trivial)) trivial (fun b1 b2 _ => by kernel_rfl) ?_
  clear hJ a w; intro b1 b2 a w hJ
  refine x_false hJ (t := x.ak != 0) (by kernel_rfl) ((by rw [bne_eq_false_iff_eq]; exact hx)) ?_
  refine rx hJ false 15 [.b 1 0, .cl 57 #[.agg #[.int .i64 k, .int .i64 n, .string s]] (.bool true)] [] (.ok (.ops [0, 1, 1, 1] 1) [.seq [1, 1, 1, 1]] [(1, .int .i64 (i : Int)), (5, .pointer (some ⟨b1, 0, none⟩)), (6, .slice none 0 0), (7, .int .i64 0), (30, .slice A ((lcs l).length) c)] [.box b2 [.string x.f, .int .i64 x.id, .int .i64 x.kk, .int .i64 x.kn, .string x.ks, .int .i64 x.ak, .int .i64 x.an, .string x.as'], .box b1 [.int .i64 k, .int .i64 n, .string s]] []) (And.intro (fun H sH => c_kn k n s _ hk) (trivial)) trivial (fun _ => by kernel_rfl) ?_
  clear hJ a w; intro a w hJ
  refine x_callrow hJ 31 (c_cloneL (hr.sees hJ.j.sees) (by omega)) (fun _ => by kernel_rfl) ?_; clear hJ a w; rintro v10 _ a w rfl hJ
  refine rx hJ false 8 [.b 2 0] [] (.ok (.ops [0, 1, 1, 1, 1] 3) [.seq [1, 1, 1, 1, 1]] [(6, .slice none 0 0), (7, .int .i64 0), (10, v10), (32, v10), (33, .int .i64 (i : Int)), (34, .agg #[.int .i64 k, .int .i64 n, .string s])] [.row v10 54 8 (lcs l), .box b2 [.string x.f, .int .i64 x.id, .int .i64 x.kk, .int .i64 x.kn, .string x.ks, .int .i64 x.ak, .int .i64 x.an, .string x.as'], .box b1 [.int .i64 k, .int .i64 n, .string s]] []) trivial trivial (fun _ => by kernel_rfl) ?_
  clear hJ a w; intro a w hJ
  obtain ⟨Av, cv, hE_v10, hc_v10, hm_v10⟩ := hJ.form (v := v10) (e := 54) (k := 8) (l := lcs l) 0 (by kernel_rfl)
  rw [show (lcs l).length = l.length from by first | omega | (simp; done) | (simp; omega)] at hE_v10 hc_v10
  rw [hE_v10] at hJ
  obtain ⟨bV, rfl⟩ := own_some (hJ.rowOwn (v := .slice Av l.length cv) (e := 54) (kk := 8) (l := lcs l) 0 rfl) ((by omega))
  refine rx hJ false 2 [.ix bV 0 l.length cv i] [] (.ok (.ops [0, 1, 1, 1, 1] 5) [.seq [1, 1, 1, 1, 1]] [(6, .slice none 0 0), (7, .int .i64 0), (10, .slice (some ⟨bV, 0, none⟩) l.length cv), (34, .agg #[.int .i64 k, .int .i64 n, .string s]), (36, .pointer (some ⟨bV, 0 + i * 8 + 5, none⟩))] [.row (.slice (some ⟨bV, 0, none⟩) l.length cv) 54 8 (lcs l), .box b2 [.string x.f, .int .i64 x.id, .int .i64 x.kk, .int .i64 x.kn, .string x.ks, .int .i64 x.ak, .int .i64 x.an, .string x.as'], .box b1 [.int .i64 k, .int .i64 n, .string s]] []) (And.intro (by first | omega | (simp; omega)) (trivial)) trivial (fun _ => by kernel_rfl) ?_
  clear hJ a w; intro a w hJ
  refine x_rowset hJ 0 i 5 (g := bV) (m := l.length) (cap := cv) (kk := 8) (e := 54) (l := lcs l) (r := [.string x.f, .int .i64 x.id, .int .i64 x.kk, .int .i64 x.kn, .string x.ks, .int .i64 x.ak, .int .i64 x.an, .string x.as']) (t := 52) (x := (.tmp 36)) (y := (.tmp 34)) (u := .agg #[.int .i64 k, .int .i64 n, .string s]) (by kernel_rfl) (by kernel_rfl) (by kernel_rfl) (by kernel_rfl) (by kernel_rfl) (hrow) (by kernel_rfl) ?_; clear hJ a w; intro a w hJ
  replace hJ : K ⟨38, h.w, h.bad, []⟩ [(6, .slice none 0 0), (7, .int .i64 0), (10, .slice (some ⟨bV, 0, none⟩) l.length cv), (34, .agg #[.int .i64 k, .int .i64 n, .string s]), (36, .pointer (some ⟨bV, 0 + i * 8 + 5, none⟩))] [.row (.slice (some ⟨bV, 0, none⟩) l.length cv) 54 8 ((lcs l).set i [.string x.f, .int .i64 x.id, .int .i64 x.kk, .int .i64 x.kn, .string x.ks, .int .i64 k, .int .i64 n, .string s]), .box b2 [.string x.f, .int .i64 x.id, .int .i64 x.kk, .int .i64 x.kn, .string x.ks, .int .i64 x.ak, .int .i64 x.an, .string x.as'], .box b1 [.int .i64 k, .int .i64 n, .string s]] [] h a w := hJ.to (by kernel_rfl) (by kernel_rfl) rfl
  refine rx hJ false 10 [] [] (.ok (.out .ret) [] [(6, .slice (some ⟨bV, 0, none⟩) l.length cv), (7, .int .i64 0)] [.row (.slice (some ⟨bV, 0, none⟩) l.length cv) 54 8 ((lcs l).set i [.string x.f, .int .i64 x.id, .int .i64 x.kk, .int .i64 x.kn, .string x.ks, .int .i64 k, .int .i64 n, .string s]), .box b2 [.string x.f, .int .i64 x.id, .int .i64 x.kk, .int .i64 x.kn, .string x.ks, .int .i64 x.ak, .int .i64 x.an, .string x.as'], .box b1 [.int .i64 k, .int .i64 n, .string s]] []) trivial trivial (fun _ => by kernel_rfl) ?_
  clear hJ a w; intro a w hJ
  obtain ⟨h3, s4, fr, hJn⟩ := hJ.frozen (v := .slice (some ⟨bV, 0, none⟩) l.length cv) (e := 54) (k := 8) (l := (lcs l).set i [.string x.f, .int .i64 x.id, .int .i64 x.kk, .int .i64 x.kn, .string x.ks, .int .i64 k, .int .i64 n, .string s]) 0 (by kernel_rfl) (hJ.j.rowOut0 (v := .slice (some ⟨bV, 0, none⟩) l.length cv) (e := 54) (k := 8) (l := (lcs l).set i [.string x.f, .int .i64 x.id, .int .i64 x.kk, .int .i64 x.kn, .string x.ks, .int .i64 k, .int .i64 n, .string s]) 0 (by kernel_rfl) rfl); clear hJ; have hJ := hJn; clear hJn
  have e : (lcs l).set i [.string x.f, .int .i64 x.id, .int .i64 x.kk, .int .i64 x.kn, .string x.ks, .int .i64 k, .int .i64 n, .string s] = lcs (l.set i (x.ans k n s)) := by
    show (l.map Ltr.cells).set i (x.ans k n s).cells = (l.set i (x.ans k n s)).map Ltr.cells
    rw [List.map_set]
  rw [e] at fr
  refine x_end (hQ [.slice (some ⟨bV, 0, none⟩) l.length cv, .int .i64 0] _ [] hJ (.rtmp hJ.j (by kernel_rfl) (.rtmp hJ.j (by kernel_rfl) .nil)) (no_own _) rfl ?_).1
  exact ⟨.slice (some ⟨bV, 0, none⟩) l.length cv, rfl, (fr.sees hJ.j.out)⟩

abbrev zLtr : Value := .agg #[.string ⟨#[]⟩, .int .i64 0, .int .i64 0, .int .i64 0, .string ⟨#[]⟩, .int .i64 0, .int .i64 0, .string ⟨#[]⟩]
set_option maxRecDepth 100000 in
theorem come_kind (l : List Ltr) (v : Value) (i : Nat) (x : Ltr) (h : Vw) (hr : RS h 8 v (lcs l)) (hl : l.length ≤ 24) (hok : ∀ x ∈ l, OkL x) (hi : l[i]? = some x) (hx : x.ak = 0) :
    C0 Try.prog 33 #[v, .int .i64 (i : Int)] h (fun r _ => r = .tuple #[zLtr, .slice none 0 0, .int .i64 2]) := by
  have hA := fun H q => c_at (h := H) (v := v) q hl hok i x hi
  obtain ⟨A, c, rfl, -⟩ := hr.form
  refine x_con Try.func33 (c := Try.f33.body.getD .skip) (by kernel_rfl) (N := 34) rfl (by kernel_rfl) ?_
  intro hbx hbad Q hQ a w hJ
  replace hJ : K ⟨34, h.w, h.bad, []⟩ [(0, .slice A ((lcs l).length) c), (1, .int .i64 (i : Int))] [] [] h a w := hJ.to (by kernel_rfl) (by kernel_rfl) rfl
  refine rx hJ false 39 [.own, .cl 51 #[.slice A ((lcs l).length) c, .int .i64 (i : Int)] (.tuple #[.agg #[.string x.f, .int .i64 x.id, .int .i64 x.kk, .int .i64 x.kn, .string x.ks, .int .i64 x.ak, .int .i64 x.an, .string x.as'], .int .i64 0]), .own, .b 0 0, .b 0 5] [] (.new fun b1 => .new fun b2 => .ok (.code [1, 0, 1, 1, 1]) [.seq [1, 1, 1, 1]] [(0, .slice A ((lcs l).length) c), (1, .int .i64 (i : Int)), (4, .pointer (some ⟨b1, 0, none⟩)), (5, .slice none 0 0), (6, .int .i64 0), (7, .pointer (some ⟨b2, 0, none⟩)), (24, .bool (x.ak == 0))] [.box b2 [.string x.f, .int .i64 x.id, .int .i64 x.kk, .int .i64 x.kn, .string x.ks, .int .i64 x.ak, .int .i64 x.an, .string x.as'], .box b1 [.string ⟨#[]⟩, .int .i64 0, .int .i64 0, .int .i64 0, .string ⟨#[]⟩, .int .i64 0, .int .i64 0, .string ⟨#[]⟩]] []) (And.intro (fun H sH => hA _ (hr.sees sH)) (trivial)) trivial (fun b1 b2 _ => by kernel_rfl) ?_
  clear hJ a w; intro b1 b2 a w hJ
  refine x_true hJ (t := x.ak == 0) (by kernel_rfl) (beq_iff_eq.2 hx) ?_
  refine rx hJ false 10 [.b 1 0] [] (.ok (.out .ret) [] [(4, .pointer (some ⟨b1, 0, none⟩)), (5, .slice none 0 0), (6, .int .i64 2)] [.box b2 [.string x.f, .int .i64 x.id, .int .i64 x.kk, .int .i64 x.kn, .string x.ks, .int .i64 x.ak, .int .i64 x.an, .string x.as'], .box b1 [.string ⟨#[]⟩, .int .i64 0, .int .i64 0, .int .i64 0, .string ⟨#[]⟩, .int .i64 0, .int .i64 0, .string ⟨#[]⟩]] []) trivial trivial (fun _ => by kernel_rfl) ?_
  clear hJ a w; intro a w hJ
  refine x_end (hQ [.agg #[.string ⟨#[]⟩, .int .i64 0, .int .i64 0, .int .i64 0, .string ⟨#[]⟩, .int .i64 0, .int .i64 0, .string ⟨#[]⟩], .slice none 0 0, .int .i64 2] _ [] hJ (.rcell hJ.j 1 rfl (by kernel_rfl) (by kernel_rfl) (.rtmp hJ.j (by kernel_rfl) (.rtmp hJ.j (by kernel_rfl) .nil))) (no_own _) rfl ?_).1
  exact rfl

set_option maxRecDepth 100000 in
theorem come_yes (l : List Ltr) (v : Value) (i : Nat) (x : Ltr) (h : Vw) (hr : RS h 8 v (lcs l)) (hl : l.length ≤ 24) (hok : ∀ x ∈ l, OkL x) (hi : l[i]? = some x) (hx : x.ak ≠ 0) :
    C0 Try.prog 33 #[v, .int .i64 (i : Int)] h (fun r h' => ∃ u, r = .tuple #[.agg #[.string x.f, .int .i64 x.id, .int .i64 x.kk, .int .i64 x.kn, .string x.ks, .int .i64 x.ak, .int .i64 x.an, .string x.as'], .slice (sA u) (sN u) (sC u), .int .i64 0] ∧ RS h' 8 (.slice (sA u) (sN u) (sC u)) (lcs (l.eraseIdx i))) := by
  have hA := fun H q => c_at (h := H) (v := v) q hl hok i x hi
  have hil := (List.getElem?_eq_some_iff.1 hi).1
  obtain ⟨A, c, rfl, -⟩ := hr.form
  refine x_con Try.func33 (c := Try.f33.body.getD .skip) (by kernel_rfl) (N := 34) rfl (by kernel_rfl) ?_
  intro hbx hbad Q hQ a w hJ
  replace hJ : K ⟨34, h.w, h.bad, []⟩ [(0, .slice A ((lcs l).length) c), (1, .int .i64 (i : Int))] [] [] h a w := hJ.to (by kernel_rfl) (by kernel_rfl) rfl
  refine rx hJ false 39 [.own, .cl 51 #[.slice A ((lcs l).length) c, .int .i64 (i : Int)] (.tuple #[.agg #[.string x.f, .int .i64 x.id, .int .i64 x.kk, .int .i64 x.kn, .string x.ks, .int .i64 x.ak, .int .i64 x.an, .string x.as'], .int .i64 0]), .own, .b 0 0, .b 0 5] [] (.new fun b1 => .new fun b2 => .ok (.code [1, 0, 1, 1, 1]) [.seq [1, 1, 1, 1]] [(0, .slice A ((lcs l).length) c), (1, .int .i64 (i : Int)), (4, .pointer (some ⟨b1, 0, none⟩)), (5, .slice none 0 0), (6, .int .i64 0), (7, .pointer (some ⟨b2, 0, none⟩)), (24, .bool (x.ak == 0))] [.box b2 [.string x.f, .int .i64 x.id, .int .i64 x.kk, .int .i64 x.kn, .string x.ks, .int .i64 x.ak, .int .i64 x.an, .string x.as'], .box b1 [.string ⟨#[]⟩, .int .i64 0, .int .i64 0, .int .i64 0, .string ⟨#[]⟩, .int .i64 0, .int .i64 0, .string ⟨#[]⟩]] []) (And.intro (fun H sH => hA _ (hr.sees sH)) (trivial)) trivial (fun b1 b2 _ => by kernel_rfl) ?_
  clear hJ a w; intro b1 b2 a w hJ
  refine x_false hJ (t := x.ak == 0) (by kernel_rfl) (beq_eq_false_iff_ne.2 hx) ?_
  refine rx hJ false 6 [] [] (.ok (.ops [0, 1, 1, 1, 1] 2) [.seq [1, 1, 1, 1, 1]] [(4, .pointer (some ⟨b1, 0, none⟩)), (5, .slice none 0 0), (6, .int .i64 0), (7, .pointer (some ⟨b2, 0, none⟩)), (27, .slice A ((lcs l).length) c), (28, .int .i64 (i : Int))] [.box b2 [.string x.f, .int .i64 x.id, .int .i64 x.kk, .int .i64 x.kn, .string x.ks, .int .i64 x.ak, .int .i64 x.an, .string x.as'], .box b1 [.string ⟨#[]⟩, .int .i64 0, .int .i64 0, .int .i64 0, .string ⟨#[]⟩, .int .i64 0, .int .i64 0, .string ⟨#[]⟩]] []) trivial trivial (fun _ => by kernel_rfl) ?_
  clear hJ a w; intro a w hJ
  refine x_call hJ 29 (c_lose (hr.sees hJ.j.sees) hl hok i hil) (fun _ => by kernel_rfl) ?_; clear hJ a w; rintro _ h3 a w s4 ⟨u, rfl, hz⟩ hJ
  refine rx hJ false 17 [.b 0 0, .b 1 0] [] (.ok (.out .ret) [] [(4, .pointer (some ⟨b1, 0, none⟩)), (5, .slice (sA u) (sN u) (sC u)), (6, .int .i64 0)] [.box b2 [.string x.f, .int .i64 x.id, .int .i64 x.kk, .int .i64 x.kn, .string x.ks, .int .i64 x.ak, .int .i64 x.an, .string x.as'], .box b1 [.string x.f, .int .i64 x.id, .int .i64 x.kk, .int .i64 x.kn, .string x.ks, .int .i64 x.ak, .int .i64 x.an, .string x.as']] []) trivial trivial (fun _ => by kernel_rfl) ?_
  clear hJ a w; intro a w hJ
  refine x_end (hQ [.agg #[.string x.f, .int .i64 x.id, .int .i64 x.kk, .int .i64 x.kn, .string x.ks, .int .i64 x.ak, .int .i64 x.an, .string x.as'], .slice (sA u) (sN u) (sC u), .int .i64 0] _ [] hJ (.rcell hJ.j 1 rfl (by kernel_rfl) (by kernel_rfl) (.rtmp hJ.j (by kernel_rfl) (.rtmp hJ.j (by kernel_rfl) .nil))) (no_own _) rfl ?_).1
  exact ⟨u, rfl, (hz.sees hJ.j.out)⟩

end Go.Proofs.Ytpckomnpeainlab
