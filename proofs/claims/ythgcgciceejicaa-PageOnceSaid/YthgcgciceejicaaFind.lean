/-
  Contract of field.Find.
-/
import Derived.Test.YthgcgciceejicaaGo
import Derived.Test.YthgcgciceejicaaGenB
import Derived.Test.YthgcgciceejicaaSx
import Derived.Test.YthgcgciceejicaaEvo
import Derived.Test.YthgcgciceejicaaLaw
namespace Go.Proofs.Ythgcgciceejicaa
open Go.RowKit
set_option linter.unusedVariables false

/-- A slice of fields, opened. -/
theorem fds_open {h : Vw} {v : Value} {fs : List Fd} (hf : IsFds h v fs) : ∃ vs A cap, v = .slice A fs.length cap ∧ fs.length ≤ cap ∧ cap ≤ maxLen ∧ RS h 9 (.slice A fs.length cap) (fdRows fs vs) ∧ AllSrc h fs vs ∧ vs.length = fs.length ∧ ∀ u ∈ vs, .slice (sA u) (sN u) (sC u) = u := by
  obtain ⟨vs, hr, hs⟩ := hf
  have hl := hs.len
  have hfl := fdRows_len hl
  obtain ⟨A, cap, rfl, h1, h2, -⟩ := hr.form
  rw [hfl] at h1 hr ⊢
  refine ⟨vs, A, cap, rfl, h1, h2, hr, hs, hl, fun u hu => ?_⟩
  obtain ⟨i, hi⟩ := List.mem_iff_getElem?.1 hu
  have hil := (List.getElem?_eq_some_iff.1 hi).1
  obtain ⟨f, hf⟩ : ∃ f, fs[i]? = some f := ⟨_, List.getElem?_eq_getElem (by omega)⟩
  obtain ⟨Au, nu, cu, rfl⟩ := (AllArgs.get hs (x := f.src) (by rw [List.getElem?_map, hf]; rfl) hi).slice
  rfl
/-- The place of a field; none: -1. -/
def findF (fs : List Fd) (s : ByteArray) : Int := fidx (fun f : Fd => f.name.toList == s.toList) fs

theorem find1_any (f : Fd) (A : Option Addr) (n c : Nat) (s : ByteArray) (b : Nat) (h : Vw) (hc : Cells h b 0 [.string s]) :
    C0 Try.prog 33 #[.agg #[.string f.name, .int .i64 f.kind, .int .i64 f.ty, .int .i64 f.src.op, .int .i64 f.src.k, .int .i64 f.src.n, .string f.src.s, .string f.src.nm, .slice A n c], .pointer (some ⟨b, 0, none⟩)] h (fun r _ => r = .bool (f.name.toList == s.toList)) := by
  refine g_con Try.func33 fun hbx hbad Q hQ => ?_
  refine g_fact (hc.sees (Sees.refl _)) ?_
  refine go1 16 [.own, .b 0 0, .f 0 0] [] ?_
  intro b1
  refine hQ.to [.bool (f.name.toList == s.toList)] (fun H sH => ?_)
  exact rfl

set_option maxRecDepth 100000 in
theorem idxF_any (fs : List Fd) (vs : List Value) (A : Option Addr) (cap : Nat) (s : ByteArray) (b : Nat) (h : Vw) (hr : RS h 9 (.slice A fs.length cap) (fdRows fs vs)) (hl : fs.length ≤ 1000000) (hvl : vs.length = fs.length) (hsl : ∀ u ∈ vs, .slice (sA u) (sN u) (sC u) = u) (hc : Cells h b 0 [.string s]) :
    C0 Try.prog 32 #[.slice A fs.length cap, .func (.func 33) #[] #[.pointer (some ⟨b, 0, none⟩)]] h (fun r _ => r = .int .i64 (findF fs s)) := by
  generalize hL : fs.length = len at *
  refine g_con Try.func32 fun hbx hbad Q hQ => ?_
  refine go0 14 [] [] ?_
  refine g_loop [0, 1, 0, 1] [.block 0, .seq [1, 1]] (fun (k : Nat) X => ∃ (W1 : Vw) , X W1 [(0, .slice A len cap), (1, .func (.func 33) #[] #[Vp b]), (7, Vi (len : Int)), (8, Vi (k : Int))] [] [] ∧ Sees h W1 ∧ (k ≤ len) ∧ (∀ y ∈ fs.take k, (y.name.toList == s.toList) = false)) (fun k => len - k) (0) (fun X q => ⟨h, q _ _ _ _ ⟨rfl, by kernel_rfl⟩, Sees.refl _, Nat.zero_le _, fun y hy => by simp at hy⟩) ?_
  rintro k a w ⟨W1, hJ, S2, hk, hn⟩; refine g_of hJ ?_; clear hJ a w
  refine go0 6 [] [] ?_
  rcases (by omega : k < len ∨ k = len) with hlt | hke
  · obtain ⟨f, hfk⟩ : ∃ f, fs[k]? = some f := ⟨_, List.getElem?_eq_getElem (by omega)⟩
    obtain ⟨u, huk⟩ : ∃ u, vs[k]? = some u := ⟨_, List.getElem?_eq_getElem (by omega)⟩
    have hrow : (fdRows fs vs)[k]? = some (fdRow f (.slice (sA u) (sN u) (sC u))) := by rw [hsl u (List.mem_of_getElem? huk)]; exact fdRows_get hfk huk
    refine g_true (t := decide ((k : Int) < (len : Int))) (decide_eq_true (by omega)) ?_
    refine go0 15 [] [] ?_
    obtain ⟨b3, o4, rfl, -, c5⟩ := RS.row hr (hrow)
    refine g_fact (c5.sees S2) ?_
    refine go0 5 [.ix b3 o4 len cap k, .f 0 0, .cl 33 #[.agg #[.string f.name, Vi f.kind, Vi f.ty, Vi f.src.op, Vi f.src.k, Vi f.src.n, .string f.src.s, .string f.src.nm, .slice (sA u) (sN u) (sC u)], Vp b] (.bool (f.name.toList == s.toList))] [] ?_ (ho := (And.intro (by first | omega | (simp; omega)) (And.intro (fun H sH => find1_any f _ _ _ s b _ (hc.sees (S2.trans sH))) (trivial))))
    cases boolIs (f.name.toList == s.toList) with
    | true hq =>
      refine g_true (t := f.name.toList == s.toList) (hq) ?_
      refine go0 9 [] [] ?_
      refine g_leave ?_
      refine go0 2 [] [] ?_
      refine hQ.to [Vi (k : Int)] (fun H sH => ?_)
      exact congrArg (Value.int .i64) (fidx_found _ fs k f hn hfk hq).symm
    | false hq =>
      refine g_false (t := f.name.toList == s.toList) (hq) ?_
      refine go0 7 [] [(18, Vi (IntKind.i64.wrap ((k : Int) + 1)), Vi ((k : Int) + 1))] ?_ (hc := (And.intro (i64_wrap (by omega) (by omega)) (trivial)))
      exact g_round (k + 1) (fun X q => ⟨W1, q _ _ _ _ ⟨rfl, by kernel_rfl⟩, S2, by omega, (by rw [take_snoc' fs k f hfk]; exact fun y hy => (List.mem_append.1 hy).elim (hn y) (fun e => by rw [List.mem_singleton.1 e]; exact hq))⟩) (by omega)
  · skip
    have htk : fs.take k = fs := by rw [hke, ← hL, List.take_length]
    rw [htk] at hn
    refine g_false (t := decide ((k : Int) < (len : Int))) (decide_eq_false (by omega)) ?_
    refine go0 2 [] [] ?_
    refine g_leave ?_
    refine go0 8 [] [] ?_
    refine hQ.to [Vi (-1)] (fun H sH => ?_)
    exact congrArg (Value.int .i64) (fidx_none _ fs hn).symm

/-- field.Find. -/
def findV (fs : List Fd) (s : ByteArray) : Value := .tuple #[.int .i64 (if findF fs s < 0 then 0 else findF fs s), .int .i64 (if findF fs s < 0 then 5 else 0)]
theorem find_any (fs : List Fd) (v : Value) (s : ByteArray) (h : Vw) (hf : IsFds h v fs) (hl : fs.length ≤ 1000000) : C0 Try.prog 16 #[v, .string s] h (fun r _ => r = findV fs s) := by
  obtain ⟨vs, A, cap, rfl, -, -, hr, -, hvl, hsl⟩ := fds_open hf
  have hi := fun H hr' b hc => idxF_any fs vs A cap s b H hr' hl hvl hsl hc
  have e : findV fs s = .tuple #[.int .i64 (if findF fs s < 0 then 0 else findF fs s), .int .i64 (if findF fs s < 0 then 5 else 0)] := rfl
  rw [e]
  clear e
  generalize findF fs s = p at *
  refine g_con Try.func16 fun hbx hbad Q hQ => ?_
  refine gov1 11 [.fix] [] ?_
  intro bsn W1 S2
  refine g_cells 0 bsn 0 [.string s] fun sn => ?_
  refine go0 11 [.cl 32 #[.slice A fs.length cap, .func (.func 33) #[] #[Vp bsn]] (Vi p)] [] ?_ (ho := (And.intro (fun H sH => hi _ (hr.sees (S2.trans sH)) _ (sn.sees sH)) (trivial)))
  by_cases hp : p < 0
  · refine g_true (t := decide (p < 0)) (decide_eq_true hp) ?_
    refine go0 8 [] [] ?_
    refine hQ.to [Vi 0, Vi 5] (fun H sH => ?_)
    rw [if_pos hp, if_pos hp]; rfl
  · skip
    refine g_false (t := decide (p < 0)) (decide_eq_false hp) ?_
    refine go0 10 [] [] ?_
    refine hQ.to [Vi p, Vi 0] (fun H sH => ?_)
    rw [if_neg hp, if_neg hp]; rfl

theorem find_no (fs : List Fd) (v : Value) (s : ByteArray) (h : Vw) (hf : IsFds h v fs) (hl : fs.length ≤ 1000000) (hp : findF fs s < 0) : C0 Try.prog 16 #[v, .string s] h (fun r _ => r = .tuple #[.int .i64 0, .int .i64 5]) := by
  have := find_any fs v s h hf hl
  unfold findV at this
  rwa [if_pos hp, if_pos hp] at this
theorem find_yes (fs : List Fd) (v : Value) (s : ByteArray) (i : Nat) (h : Vw) (hf : IsFds h v fs) (hl : fs.length ≤ 1000000) (hp : findF fs s = i) : C0 Try.prog 16 #[v, .string s] h (fun r _ => r = .tuple #[.int .i64 (i : Int), .int .i64 0]) := by
  have := find_any fs v s h hf hl
  unfold findV at this
  rwa [hp, if_neg (by omega), if_neg (by omega)] at this
theorem findF_lt (fs : List Fd) (s : ByteArray) : findF fs s = -1 ∨ ∃ i : Nat, ∃ f, findF fs s = i ∧ fs[i]? = some f ∧ f.name = s := by
  unfold findF fidx
  cases e : fs.findIdx? (fun f : Fd => f.name.toList == s.toList) with
  | none => exact .inl rfl
  | some k =>
    obtain ⟨h1, h2, -⟩ := List.findIdx?_eq_some_iff_getElem.1 e
    refine .inr ⟨k, _, rfl, List.getElem?_eq_getElem h1, ?_⟩
    rw [tl_dec] at h2
    exact of_decide_eq_true h2
/-- Where no two fields bear one name each is found at its place. -/
theorem findF_at {fs : List Fd} (hd : (fs.map (·.name)).Nodup) {i : Nat} {f : Fd} (hi : fs[i]? = some f) : findF fs f.name = i := by
  have hil := (List.getElem?_eq_some_iff.1 hi).1
  refine fidx_found _ fs i f (fun y hy => ?_) hi (tl_yes rfl)
  rw [tl_dec, decide_eq_false_iff_not]
  intro e
  obtain ⟨j, hj⟩ := List.mem_iff_getElem?.1 hy
  rw [List.getElem?_take] at hj
  split at hj
  · rename_i hji
    have h1 : (fs.map (·.name))[j]? = some f.name := by rw [List.getElem?_map, hj, ← e]; rfl
    have h2 : (fs.map (·.name))[i]? = some f.name := by rw [List.getElem?_map, hi]; rfl
    have := ((List.getElem?_inj (by rw [List.length_map]; omega) hd).1 (h1.trans h2.symm))
    omega
  · cases hj
theorem findF_none {fs : List Fd} {s : ByteArray} (h : ∀ f ∈ fs, f.name ≠ s) : findF fs s = -1 := fidx_none _ fs fun y hy => tl_no (h y hy)
def plc (fs : List Fd) (s : ByteArray) : Nat := (findF fs s).toNat
theorem findP_any (fs : List Fd) (v : Value) (s : ByteArray) (h : Vw) (hf : IsFds h v fs) (hl : fs.length ≤ 1000000) : C0 Try.prog 16 #[v, .string s] h (fun r _ => r = .tuple #[.int .i64 ((plc fs s : Nat) : Int), .int .i64 (if findF fs s < 0 then 5 else 0)]) := by
  unfold plc
  rcases findF_lt fs s with e | ⟨i, f, e, -, -⟩
  · rw [e]; exact find_no fs v s h hf hl (by omega)
  · rw [e, if_neg (by omega)]; exact find_yes fs v s i h hf hl e

end Go.Proofs.Ythgcgciceejicaa
