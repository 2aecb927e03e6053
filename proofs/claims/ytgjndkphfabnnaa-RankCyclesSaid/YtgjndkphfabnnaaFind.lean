/-
  Contract of field.Find.
-/
import Derived.Test.YtgjndkphfabnnaaGenB
import Derived.Test.YtgjndkphfabnnaaSx
import Derived.Test.YtgjndkphfabnnaaEvo
import Derived.Test.YtgjndkphfabnnaaLaw
namespace Go.Proofs.Ytgjndkphfabnnaa
open Go.RowKit
set_option linter.unusedVariables false

/-- A slice of fields, opened. -/
theorem fds_open {h : Vw} {v : Value} {fs : List Fd} (hf : IsFds h v fs) : ∃ vs A cap, v = .slice A fs.length cap ∧ fs.length ≤ cap ∧ cap ≤ maxLen ∧ RS h 9 (.slice A fs.length cap) (fdRows fs vs) ∧ AllSrc h fs vs ∧ vs.length = fs.length ∧ ∀ u ∈ vs, .slice (sA u) (sN u) (sC u) = u := by
  obtain ⟨vs, hr, hs⟩ := hf
  have hl := hs.len
  have hfl := fdRows_len hl
  obtain ⟨A, cap, rfl, h1, h2, -⟩ := hr.form
  rw [hfl] at h1 hr ⊢
  refine ⟨vs, A, cap, rfl, h1, h2, hr, hs, hl, fun u hu => ?_⟩
  obtain ⟨i, hi⟩ := List.mem_iff_getElem?.1 hu
  have hil := (List.getElem?_eq_some_iff.1 hi).1
  obtain ⟨f, hf⟩ : ∃ f, fs[i]? = some f := ⟨_, List.getElem?_eq_getElem (by omega)⟩
  obtain ⟨Au, nu, cu, rfl⟩ := (AllArgs.get hs (x := f.src) (by rw [List.getElem?_map, hf]; rfl) hi).slice
  rfl
/-- The place of a field; none: -1. -/
def findF (fs : List Fd) (s : ByteArray) : Int := fidx (fun f : Fd => f.name.toList == s.toList) fs

theorem find1_any (f : Fd) (A : Option Addr) (n c : Nat) (s : ByteArray) (b : Nat) (h : Vw) (hc : Cells h b 0 [.string s]) :
    C0 Try.prog 83 #[.agg #[.string f.name, .int .i64 f.kind, .int .i64 f.ty, .int .i64 f.src.op, .int .i64 f.src.k, .int .i64 f.src.n, .string f.src.s, .string f.src.nm, .slice A n c], .pointer (some ⟨b, 0, none⟩)] h (fun r _ => r = .bool (f.name.toList == s.toList)) := by
  refine x_con Try.func83 (c := Try.f83.body.getD .skip) (by kernel_rfl) (N := 8) rfl (by kernel_rfl) ?_
  intro hbx hbad Q hQ a w hJ
  replace hJ : K ⟨8, h.w, h.bad, []⟩ [(0, .agg #[.string f.name, Vi f.kind, Vi f.ty, Vi f.src.op, Vi f.src.k, Vi f.src.n, .string f.src.s, .string f.src.nm, .slice A n c]), (1, Vp b)] [] [] h a w := hJ.to (by kernel_rfl) (by kernel_rfl) rfl
  replace hJ := hJ.fact (hc.sees (Sees.refl _))
  refine rx hJ false 16 [.own, .b 0 0, .f 0 0] [] (.new fun b1 => .ok (.out .ret) [] [(3, .bool (f.name.toList == s.toList))] [.box b1 [.string f.name, Vi f.kind, Vi f.ty, Vi f.src.op, Vi f.src.k, Vi f.src.n, .string f.src.s, .string f.src.nm, .slice A n c]] [(b, 0, [.string s])]) trivial trivial (fun b1 _ => by kernel_rfl) ?_
  clear hJ a w; intro b1 a w hJ
  refine x_end (hQ [.bool (f.name.toList == s.toList)] _ [] hJ (.rtmp hJ.j (by kernel_rfl) .nil) (no_own _) rfl ?_).1
  exact rfl

set_option maxRecDepth 100000 in
theorem idxF_any (fs : List Fd) (vs : List Value) (A : Option Addr) (cap : Nat) (s : ByteArray) (b : Nat) (h : Vw) (hr : RS h 9 (.slice A fs.length cap) (fdRows fs vs)) (hl : fs.length ≤ 1000000) (hvl : vs.length = fs.length) (hsl : ∀ u ∈ vs, .slice (sA u) (sN u) (sC u) = u) (hc : Cells h b 0 [.string s]) :
    C0 Try.prog 82 #[.slice A fs.length cap, .func (.func 83) #[] #[.pointer (some ⟨b, 0, none⟩)]] h (fun r _ => r = .int .i64 (findF fs s)) := by
  generalize hL : fs.length = len at *
  refine x_con Try.func82 (c := Try.f82.body.getD .skip) (by kernel_rfl) (N := 19) rfl (by kernel_rfl) ?_
  intro hbx hbad Q hQ a w hJ
  replace hJ : K ⟨19, h.w, h.bad, []⟩ [(0, .slice A len cap), (1, .func (.func 83) #[] #[Vp b])] [] [] h a w := hJ.to (by kernel_rfl) (by kernel_rfl) rfl
  refine rx hJ false 14 [] [] (.ok (.code [0, 1, 0, 1]) [.block 0, .seq [1, 1]] [(0, .slice A len cap), (1, .func (.func 83) #[] #[Vp b]), (4, Vi 0), (7, Vi (len : Int)), (8, Vi 0)] [] []) trivial trivial (fun _ => by kernel_rfl) ?_
  clear hJ a w; intro a w hJ
  refine x_loop (fun (k : Nat) a w => ∃ (h1 : Vw) , K ⟨19, h.w, h.bad, []⟩ [(0, .slice A len cap), (1, .func (.func 83) #[] #[Vp b]), (7, Vi (len : Int)), (8, Vi (k : Int))] [] [] h1 a w ∧ Sees h h1 ∧ (k ≤ len) ∧ (∀ y ∈ fs.take k, (y.name.toList == s.toList) = false)) (fun k => len - k) (0) (by kernel_rfl) ⟨h, hJ.to (by kernel_rfl) (by kernel_rfl) rfl, Sees.refl _, Nat.zero_le _, fun y hy => by simp at hy⟩ ?_
  clear hJ a w; rintro k a w ⟨h1, hJ, s2, hk, hn⟩
  refine rx hJ false 6 [] [] (.ok (.code [0, 1, 0, 0, 1, 0, 1]) [.seq [1, 1, 0, 0, 1, 0, 1]] [(0, .slice A len cap), (1, .func (.func 83) #[] #[Vp b]), (7, Vi (len : Int)), (8, Vi (k : Int)), (9, .bool (decide ((k : Int) < (len : Int))))] [] []) trivial trivial (fun _ => by kernel_rfl) ?_
  clear hJ a w; intro a w hJ
  rcases (by omega : k < len ∨ k = len) with hlt | hke
  · obtain ⟨f, hfk⟩ : ∃ f, fs[k]? = some f := ⟨_, List.getElem?_eq_getElem (by omega)⟩
    obtain ⟨u, huk⟩ : ∃ u, vs[k]? = some u := ⟨_, List.getElem?_eq_getElem (by omega)⟩
    have hrow : (fdRows fs vs)[k]? = some (fdRow f (.slice (sA u) (sN u) (sC u))) := by rw [hsl u (List.mem_of_getElem? huk)]; exact fdRows_get hfk huk
    refine x_true hJ (t := decide ((k : Int) < (len : Int))) (by kernel_rfl) (decide_eq_true (by omega)) ?_
    refine rx hJ false 15 [] [] (.ok (.ops [0, 1, 0, 0, 1, 1, 0, 0, 1, 0, 1] 3) [.seq [1, 1, 0, 0, 1, 1, 0, 0, 1, 0, 1], .block 1, .seq [1, 1, 1, 0, 0, 1, 0, 1]] [(0, .slice A len cap), (1, .func (.func 83) #[] #[Vp b]), (7, Vi (len : Int)), (8, Vi (k : Int)), (9, .bool (decide ((k : Int) < (len : Int)))), (10, Vi (k : Int)), (5, Vi (k : Int)), (11, .func (.func 83) #[] #[Vp b]), (12, .slice A len cap), (13, Vi (k : Int))] [] []) trivial trivial (fun _ => by kernel_rfl) ?_
    clear hJ a w; intro a w hJ
    obtain ⟨b3, o4, rfl, -, c5⟩ := RS.row hr (hrow)
    replace hJ := hJ.fact (c5.sees s2)
    refine rx hJ false 5 [.ix b3 o4 len cap k, .f 0 0, .cl 83 #[.agg #[.string f.name, Vi f.kind, Vi f.ty, Vi f.src.op, Vi f.src.k, Vi f.src.n, .string f.src.s, .string f.src.nm, .slice (sA u) (sN u) (sC u)], Vp b] (.bool (f.name.toList == s.toList))] [] (.ok (.code [1, 1, 0, 0, 1, 1, 0, 0, 1, 0, 1]) [.block 1, .seq [1, 1, 1, 0, 0, 1, 0, 1]] [(0, .slice (some ⟨b3, o4, none⟩) len cap), (1, .func (.func 83) #[] #[Vp b]), (7, Vi (len : Int)), (8, Vi (k : Int)), (9, .bool (decide ((k : Int) < (len : Int)))), (10, Vi (k : Int)), (5, Vi (k : Int)), (11, .func (.func 83) #[] #[Vp b]), (12, .slice (some ⟨b3, o4, none⟩) len cap), (13, Vi (k : Int)), (14, .pointer (some ⟨b3, o4 + k * 9, none⟩)), (15, .agg #[.string f.name, Vi f.kind, Vi f.ty, Vi f.src.op, Vi f.src.k, Vi f.src.n, .string f.src.s, .string f.src.nm, .slice (sA u) (sN u) (sC u)]), (16, .bool (f.name.toList == s.toList))] [] [(b3, o4 + k * 9, [.string f.name, Vi f.kind, Vi f.ty, Vi f.src.op, Vi f.src.k, Vi f.src.n, .string f.src.s, .string f.src.nm, .slice (sA u) (sN u) (sC u)])]) (And.intro (by first | omega | (simp; omega)) (And.intro (fun H sH => find1_any f _ _ _ s b _ (hc.sees (s2.trans sH))) (trivial))) trivial (fun _ => by kernel_rfl) ?_
    clear hJ a w; intro a w hJ
    cases hq : f.name.toList == s.toList with
    | true =>
      refine x_true hJ (t := f.name.toList == s.toList) (by kernel_rfl) (hq) ?_
      refine rx hJ false 9 [] [] (.ok (.out .ret) [] [(0, .slice (some ⟨b3, o4, none⟩) len cap), (1, .func (.func 83) #[] #[Vp b]), (7, Vi (len : Int)), (8, Vi (k : Int)), (9, .bool (decide ((k : Int) < (len : Int)))), (10, Vi (k : Int)), (5, Vi (k : Int)), (11, .func (.func 83) #[] #[Vp b]), (12, .slice (some ⟨b3, o4, none⟩) len cap), (13, Vi (k : Int)), (14, .pointer (some ⟨b3, o4 + k * 9, none⟩)), (15, .agg #[.string f.name, Vi f.kind, Vi f.ty, Vi f.src.op, Vi f.src.k, Vi f.src.n, .string f.src.s, .string f.src.nm, .slice (sA u) (sN u) (sC u)]), (16, .bool (f.name.toList == s.toList)), (17, Vi (k : Int)), (4, Vi (k : Int))] [] [(b3, o4 + k * 9, [.string f.name, Vi f.kind, Vi f.ty, Vi f.src.op, Vi f.src.k, Vi f.src.n, .string f.src.s, .string f.src.nm, .slice (sA u) (sN u) (sC u)])]) trivial trivial (fun _ => by kernel_rfl) ?_
      clear hJ a w; intro a w hJ
      refine x_leave rfl ?_
      refine rx hJ false 2 [] [] (.ok (.out .ret) [] [(4, Vi (k : Int))] [] [(b3, o4 + k * 9, [.string f.name, Vi f.kind, Vi f.ty, Vi f.src.op, Vi f.src.k, Vi f.src.n, .string f.src.s, .string f.src.nm, .slice (sA u) (sN u) (sC u)])]) trivial trivial (fun _ => by kernel_rfl) ?_
      clear hJ a w; intro a w hJ
      refine x_end (hQ [Vi (k : Int)] _ [] hJ (.rtmp hJ.j (by kernel_rfl) .nil) (no_own _) rfl ?_).1
      exact congrArg (Value.int .i64) (fidx_found _ fs k f hn hfk hq).symm
    | false =>
      refine x_false hJ (t := f.name.toList == s.toList) (by kernel_rfl) (hq) ?_
      refine rx hJ false 7 [] [(18, Vi (IntKind.i64.wrap ((k : Int) + 1)), Vi ((k : Int) + 1))] (.ok (.out .normal) [] [(0, .slice (some ⟨b3, o4, none⟩) len cap), (1, .func (.func 83) #[] #[Vp b]), (7, Vi (len : Int)), (9, .bool (decide ((k : Int) < (len : Int)))), (10, Vi (k : Int)), (5, Vi (k : Int)), (11, .func (.func 83) #[] #[Vp b]), (12, .slice (some ⟨b3, o4, none⟩) len cap), (13, Vi (k : Int)), (14, .pointer (some ⟨b3, o4 + k * 9, none⟩)), (15, .agg #[.string f.name, Vi f.kind, Vi f.ty, Vi f.src.op, Vi f.src.k, Vi f.src.n, .string f.src.s, .string f.src.nm, .slice (sA u) (sN u) (sC u)]), (16, .bool (f.name.toList == s.toList)), (18, Vi ((k : Int) + 1)), (8, Vi ((k : Int) + 1))] [] [(b3, o4 + k * 9, [.string f.name, Vi f.kind, Vi f.ty, Vi f.src.op, Vi f.src.k, Vi f.src.n, .string f.src.s, .string f.src.nm, .slice (sA u) (sN u) (sC u)])]) trivial (And.intro (i64_wrap (by omega) (by omega)) (trivial)) (fun _ => by kernel_rfl) ?_
      clear hJ a w; intro a w hJ
      exact x_round ⟨k + 1, ⟨h1, (hJ.tof [] (F' := []) (by kernel_rfl)).to (by kernel_rfl) (by kernel_rfl) rfl, s2, by omega, (by rw [take_snoc' fs k f hfk]; exact fun y hy => (List.mem_append.1 hy).elim (hn y) (fun e => by rw [List.mem_singleton.1 e]; exact hq))⟩, by omega⟩
  · skip
    have htk : fs.take k = fs := by rw [hke, ← hL, List.take_length]
    rw [htk] at hn
    refine x_false hJ (t := decide ((k : Int) < (len : Int))) (by kernel_rfl) (decide_eq_false (by omega)) ?_
    refine rx hJ false 2 [] [] (.ok (.out (.exit 0)) [] [(0, .slice A len cap), (1, .func (.func 83) #[] #[Vp b]), (7, Vi (len : Int)), (8, Vi (k : Int)), (9, .bool (decide ((k : Int) < (len : Int))))] [] []) trivial trivial (fun _ => by kernel_rfl) ?_
    clear hJ a w; intro a w hJ
    refine x_leave rfl ?_
    refine rx hJ false 8 [] [] (.ok (.out .ret) [] [(4, Vi (-1))] [] []) trivial trivial (fun _ => by kernel_rfl) ?_
    clear hJ a w; intro a w hJ
    refine x_end (hQ [Vi (-1)] _ [] hJ (.rtmp hJ.j (by kernel_rfl) .nil) (no_own _) rfl ?_).1
    exact congrArg (Value.int .i64) (fidx_none _ fs hn).symm

/-- field.Find. -/
def findV (fs : List Fd) (s : ByteArray) : Value := .tuple #[.int .i64 (if findF fs s < 0 then 0 else findF fs s), .int .i64 (if findF fs s < 0 then 5 else 0)]
theorem find_any (fs : List Fd) (v : Value) (s : ByteArray) (h : Vw) (hf : IsFds h v fs) (hl : fs.length ≤ 1000000) : C0 Try.prog 44 #[v, .string s] h (fun r _ => r = findV fs s) := by
  obtain ⟨vs, A, cap, rfl, -, -, hr, -, hvl, hsl⟩ := fds_open hf
  have hi := fun H hr' b hc => idxF_any fs vs A cap s b H hr' hl hvl hsl hc
  have e : findV fs s = .tuple #[.int .i64 (if findF fs s < 0 then 0 else findF fs s), .int .i64 (if findF fs s < 0 then 5 else 0)] := rfl
  rw [e]
  clear e
  generalize findF fs s = p at *
  refine x_con Try.func44 (c := Try.f44.body.getD .skip) (by kernel_rfl) (N := 13) rfl (by kernel_rfl) ?_
  intro hbx hbad Q hQ a w hJ
  replace hJ : K ⟨13, h.w, h.bad, []⟩ [(0, .slice A fs.length cap), (1, .string s)] [] [] h a w := hJ.to (by kernel_rfl) (by kernel_rfl) rfl
  refine rx hJ true 11 [.fix] [] (.new fun bsn => .ok (.ops [0, 1] 2) [.seq [1, 1]] [(4, Vi 0), (5, Vi 0), (7, .slice A fs.length cap), (8, .func (.func 83) #[] #[Vp bsn])] [] [(bsn, 0, [.string s])]) trivial trivial (fun bsn _ => by kernel_rfl) ?_
  clear hJ a w; intro bsn h1 a w s2 hJ
  have sn : Cells h1 bsn 0 [.string s] := hJ.f _ (List.mem_of_getElem? (i := 0) rfl)
  refine rx hJ false 11 [.cl 82 #[.slice A fs.length cap, .func (.func 83) #[] #[Vp bsn]] (Vi p)] [] (.ok (.code [1, 0, 1, 1]) [.seq [1, 1, 1]] [(4, Vi 0), (5, Vi 0), (6, Vi p), (11, .bool (decide (p < 0)))] [] [(bsn, 0, [.string s])]) (And.intro (fun H sH => hi _ (hr.sees (s2.trans sH)) _ (sn.sees sH)) (trivial)) trivial (fun _ => by kernel_rfl) ?_
  clear hJ a w; intro a w hJ
  by_cases hp : p < 0
  · refine x_true hJ (t := decide (p < 0)) (by kernel_rfl) (decide_eq_true hp) ?_
    refine rx hJ false 8 [] [] (.ok (.out .ret) [] [(4, Vi 0), (5, Vi 5)] [] [(bsn, 0, [.string s])]) trivial trivial (fun _ => by kernel_rfl) ?_
    clear hJ a w; intro a w hJ
    refine x_end (hQ [Vi 0, Vi 5] _ [] hJ (.rtmp hJ.j (by kernel_rfl) (.rtmp hJ.j (by kernel_rfl) .nil)) (no_own _) rfl ?_).1
    rw [if_pos hp, if_pos hp]; rfl
  · skip
    refine x_false hJ (t := decide (p < 0)) (by kernel_rfl) (decide_eq_false hp) ?_
    refine rx hJ false 10 [] [] (.ok (.out .ret) [] [(4, Vi p), (5, Vi 0)] [] [(bsn, 0, [.string s])]) trivial trivial (fun _ => by kernel_rfl) ?_
    clear hJ a w; intro a w hJ
    refine x_end (hQ [Vi p, Vi 0] _ [] hJ (.rtmp hJ.j (by kernel_rfl) (.rtmp hJ.j (by kernel_rfl) .nil)) (no_own _) rfl ?_).1
    rw [if_neg hp, if_neg hp]; rfl

theorem find_no (fs : List Fd) (v : Value) (s : ByteArray) (h : Vw) (hf : IsFds h v fs) (hl : fs.length ≤ 1000000) (hp : findF fs s < 0) : C0 Try.prog 44 #[v, .string s] h (fun r _ => r = .tuple #[.int .i64 0, .int .i64 5]) := by
  have := find_any fs v s h hf hl
  unfold findV at this
  rwa [if_pos hp, if_pos hp] at this
theorem find_yes (fs : List Fd) (v : Value) (s : ByteArray) (i : Nat) (h : Vw) (hf : IsFds h v fs) (hl : fs.length ≤ 1000000) (hp : findF fs s = i) : C0 Try.prog 44 #[v, .string s] h (fun r _ => r = .tuple #[.int .i64 (i : Int), .int .i64 0]) := by
  have := find_any fs v s h hf hl
  unfold findV at this
  rwa [hp, if_neg (by omega), if_neg (by omega)] at this
theorem findF_lt (fs : List Fd) (s : ByteArray) : findF fs s = -1 ∨ ∃ i : Nat, ∃ f, findF fs s = i ∧ fs[i]? = some f ∧ f.name = s := by
  unfold findF fidx
  cases e : fs.findIdx? (fun f : Fd => f.name.toList == s.toList) with
  | none => exact .inl rfl
  | some k =>
    obtain ⟨h1, h2, -⟩ := List.findIdx?_eq_some_iff_getElem.1 e
    refine .inr ⟨k, _, rfl, List.getElem?_eq_getElem h1, ?_⟩
    rw [tl_dec] at h2
    exact of_decide_eq_true h2
/-- Where no two fields bear one name each is found at its place. -/
theorem findF_at {fs : List Fd} (hd : (fs.map (·.name)).Nodup) {i : Nat} {f : Fd} (hi : fs[i]? = some f) : findF fs f.name = i := by
  have hil := (List.getElem?_eq_some_iff.1 hi).1
  refine fidx_found _ fs i f (fun y hy => ?_) hi (tl_yes rfl)
  rw [tl_dec, decide_eq_false_iff_not]
  intro e
  obtain ⟨j, hj⟩ := List.mem_iff_getElem?.1 hy
  rw [List.getElem?_take] at hj
  split at hj
  · rename_i hji
    have h1 : (fs.map (·.name))[j]? = some f.name := by rw [List.getElem?_map, hj, ← e]; rfl
    have h2 : (fs.map (·.name))[i]? = some f.name := by rw [List.getElem?_map, hi]; rfl
    have := ((List.getElem?_inj (by rw [List.length_map]; omega) hd).1 (h1.trans h2.symm))
    omega
  · cases hj
theorem findF_none {fs : List Fd} {s : ByteArray} (h : ∀ f ∈ fs, f.name ≠ s) : findF fs s = -1 := fidx_none _ fs fun y hy => tl_no (h y hy)

end Go.Proofs.Ytgjndkphfabnnaa
