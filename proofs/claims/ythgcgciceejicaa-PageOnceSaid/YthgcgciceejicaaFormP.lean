/-
  Forms as plain data, and how they lie in memory; what the generator of forms gives, in plain words.
-/
import Derived.Test.YthgcgciceejicaaGenB
namespace Go.Proofs.Ythgcgciceejicaa
open Go.RowKit
set_option linter.unusedVariables false
set_option linter.unusedSimpArgs false

def fnames : List ByteArray := [⟨#[97]⟩, ⟨#[98]⟩, ⟨#[99]⟩, ⟨#[100, 97, 121]⟩, ⟨#[101, 49]⟩, ⟨#[102, 101, 101]⟩, ⟨#[103, 111, 110, 101]⟩, ⟨#[104, 111, 109, 101]⟩, ⟨#[105, 116, 101, 109]⟩, ⟨#[106, 111, 98]⟩]
def fname (i : Nat) : ByteArray := fnames.getD i ⟨#[]⟩


structure Pg where
  name : ByteArray
  fields : List ByteArray
  skip : Ex
structure Fm where
  fields : List Fd
  pages : List Pg

/-- The eight cells of a page whose fields lie in the slice u, and its formula's arguments in v. -/
@[reducible] def pgRow (p : Pg) (u v : Value) : List Value := [.string p.name, u, .int .i64 p.skip.op, .int .i64 p.skip.k, .int .i64 p.skip.n, .string p.skip.s, .string p.skip.nm, v]
def pgRows : List Pg → List Value → List Value → List (List Value)
  | p :: l, u :: us, v :: vs => pgRow p u v :: pgRows l us vs
  | _, _, _ => []
def AllStr (h : Vw) : List (List ByteArray) → List Value → Prop
  | [], us => us = []
  | x :: l, us => ∃ u r, us = u :: r ∧ RS h 1 u (strRows x) ∧ AllStr h l r
theorem AllStr.sees {h h' : Vw} (s : Sees h h') : ∀ {l : List (List ByteArray)} {us : List Value}, AllStr h l us → AllStr h' l us
  | [], _, k => k
  | x :: l, _, ⟨u, r, e, k1, k2⟩ => ⟨u, r, e, k1.sees s, AllStr.sees s k2⟩
theorem AllStr.len {h : Vw} : ∀ {l : List (List ByteArray)} {us : List Value}, AllStr h l us → us.length = l.length
  | [], _, k => by cases k; rfl
  | x :: l, _, ⟨u, r, e, k1, k2⟩ => by subst e; simp [AllStr.len k2]
theorem AllStr.snoc {h : Vw} {x : List ByteArray} {u : Value} (k : RS h 1 u (strRows x)) : ∀ {l : List (List ByteArray)} {us : List Value}, AllStr h l us → AllStr h (l ++ [x]) (us ++ [u])
  | [], _, e => by cases e; exact ⟨u, [], rfl, k, rfl⟩
  | y :: l, _, ⟨u', r, e, k1, k2⟩ => by subst e; exact ⟨u', r ++ [u], rfl, k1, AllStr.snoc k k2⟩
theorem pgRows_snoc {p : Pg} {u v : Value} : ∀ {l : List Pg} {us vs : List Value}, us.length = l.length → vs.length = l.length → pgRows (l ++ [p]) (us ++ [u]) (vs ++ [v]) = pgRows l us vs ++ [pgRow p u v]
  | [], [], [], _, _ => rfl
  | q :: l, u' :: us, v' :: vs, h1, h2 => by
    show pgRow q u' v' :: pgRows (l ++ [p]) (us ++ [u]) (vs ++ [v]) = _
    rw [pgRows_snoc (by simpa using h1) (by simpa using h2)]; rfl
theorem pgRows_len : ∀ {l : List Pg} {us vs : List Value}, us.length = l.length → vs.length = l.length → (pgRows l us vs).length = l.length
  | [], [], [], _, _ => rfl
  | q :: l, u' :: us, v' :: vs, h1, h2 => by
    show (pgRow q u' v' :: pgRows l us vs).length = _
    rw [List.length_cons, pgRows_len (by simpa using h1) (by simpa using h2)]; rfl
/-- The slice v holds the pages l. -/
def IsPgs (h : Vw) (v : Value) (l : List Pg) : Prop := ∃ us vs, RS h 8 v (pgRows l us vs) ∧ AllStr h (l.map (·.fields)) us ∧ AllArgs h (l.map (·.skip)) vs
theorem IsPgs.sees {h h' : Vw} {v : Value} {l : List Pg} (k : IsPgs h v l) (s : Sees h h') : IsPgs h' v l := by
  obtain ⟨us, vs, h1, h2, h3⟩ := k
  exact ⟨us, vs, h1.sees s, h2.sees s, h3.sees s⟩
/-- The fields lie in u, the pages in v. -/
structure IsForm (h : Vw) (u v : Value) (f : Fm) : Prop where
  fields : IsFds h u f.fields
  pages : IsPgs h v f.pages
theorem IsForm.sees {h h' : Vw} {u v : Value} {f : Fm} (k : IsForm h u v f) (s : Sees h h') : IsForm h' u v f := ⟨k.fields.sees s, k.pages.sees s⟩

theorem fdRows_snoc {f : Fd} {v : Value} {l : List Fd} {vs : List Value} (hl : vs.length = l.length) : fdRows (l ++ [f]) (vs ++ [v]) = fdRows l vs ++ [fdRow f v] := by
  show List.zipWith _ _ _ = _
  rw [List.zipWith_append hl.symm]; rfl
theorem AllSrc.snoc {h : Vw} {f : Fd} {v : Value} {l : List Fd} {vs : List Value} (k : AllSrc h l vs) (hv : IsArgs h f.src v) : AllSrc h (l ++ [f]) (vs ++ [v]) := by
  unfold AllSrc at k ⊢
  rw [List.map_append, List.map_singleton]
  exact AllArgs.snoc hv k
theorem AllSrc.sees {h h' : Vw} {l : List Fd} {vs : List Value} (k : AllSrc h l vs) (s : Sees h h') : AllSrc h' l vs := AllArgs.sees k s
theorem AllSrc.get {h : Vw} {l : List Fd} {vs : List Value} (k : AllSrc h l vs) {i : Nat} {f : Fd} {v : Value} (hf : l[i]? = some f) (hv : vs[i]? = some v) : IsArgs h f.src v :=
  AllArgs.get k (x := f.src) (by rw [List.getElem?_map, hf]; rfl) hv

/-! ### The generator of forms -/
def srcE (l : List RawD) (fs : List Fd) (r : RawD) (n : Nat) : Ex × Nat :=
  if pickL r.k 3 = 1 then genE l fs 2 (1 + pickL r.b 3) n else if pickL r.k 3 = 2 then genE l fs 1 (1 + pickL r.a 3) n else (zE, n)
def fldT (l : List RawD) : Nat → List Fd × Nat
  | 0 => ([], atNext l 0)
  | k + 1 => ((fldT l k).1 ++ [⟨fname k, 1 + pickL (rawAt l (fldT l k).2).k 3, 1 + pickL (rawAt l (fldT l k).2).b 3, (srcE l (fldT l k).1 (rawAt l (fldT l k).2) (atNext l (fldT l k).2)).1⟩],
      (srcE l (fldT l k).1 (rawAt l (fldT l k).2) (atNext l (fldT l k).2)).2)
def nFields (l : List RawD) : Nat := (1 + pickL (rawAt l 0).a 10).toNat
def nPages (l : List RawD) : Nat := (1 + pickL (rawAt l 0).b 4).toNat
def pgNames (fs : List Fd) (n i : Nat) : List ByteArray := (fs.zipIdx.filter (fun p => p.2 % (n + 1) == i)).map (·.1.name)
def pgName (i : Nat) : ByteArray := ⟨#[112, UInt8.ofNat (49 + i)]⟩
def skipE (l : List RawD) (fs : List Fd) (r : RawD) (n : Nat) : Ex × Nat := if pickL r.k 2 = 0 then genE l fs 1 2 n else (zE, n)
def pgT (l : List RawD) (fs : List Fd) (n n0 : Nat) : Nat → List Pg × Nat
  | 0 => ([], n0)
  | k + 1 => ((pgT l fs n n0 k).1 ++ [⟨pgName k, pgNames fs n k, (skipE l fs (rawAt l (pgT l fs n n0 k).2) (atNext l (pgT l fs n n0 k).2)).1⟩], (skipE l fs (rawAt l (pgT l fs n n0 k).2) (atNext l (pgT l fs n n0 k).2)).2)
def formF (l : List RawD) : List Fd := if pickL (rawAt l 0).k 2 = 0 then (fldT l (nFields l)).1.reverse else (fldT l (nFields l)).1
def formE (l : List RawD) : Fm := ⟨formF l, (pgT l (fldT l (nFields l)).1 (nPages l) (fldT l (nFields l)).2 (nPages l)).1⟩

theorem srcE_le (l : List RawD) (fs : List Fd) (r : RawD) (n : Nat) : n ≤ (srcE l fs r n).2 ∧ (srcE l fs r n).2 ≤ n + 22 := by
  unfold srcE
  split
  · have := genE_le l fs 2 (1 + pickL r.b 3) n; simp only [bnd] at this; omega
  · split
    · have := genE_le l fs 1 (1 + pickL r.a 3) n; simp only [bnd] at this; omega
    · simp only; omega
theorem fldT_len (l : List RawD) : ∀ k, (fldT l k).1.length = k
  | 0 => rfl
  | k + 1 => by show ((fldT l k).1 ++ [_]).length = _; rw [List.length_append, fldT_len l k]; rfl
theorem fldT_le (l : List RawD) : ∀ k, (fldT l k).2 ≤ 1 + 23 * k
  | 0 => by have := atNext_le l 0; show atNext l 0 ≤ _; omega
  | k + 1 => by
    have h1 := fldT_le l k
    have h2 := atNext_le l (fldT l k).2
    have h3 := srcE_le l (fldT l k).1 (rawAt l (fldT l k).2) (atNext l (fldT l k).2)
    show (srcE l (fldT l k).1 (rawAt l (fldT l k).2) (atNext l (fldT l k).2)).2 ≤ _
    omega
theorem skipE_le (l : List RawD) (fs : List Fd) (r : RawD) (n : Nat) : n ≤ (skipE l fs r n).2 ∧ (skipE l fs r n).2 ≤ n + 7 := by
  unfold skipE
  split
  · have := genE_le l fs 1 2 n; simp only [bnd] at this; omega
  · simp only; omega
theorem pgT_len (l : List RawD) (fs : List Fd) (n n0 : Nat) : ∀ k, (pgT l fs n n0 k).1.length = k
  | 0 => rfl
  | k + 1 => by show ((pgT l fs n n0 k).1 ++ [_]).length = _; rw [List.length_append, pgT_len l fs n n0 k]; rfl
theorem pgT_le (l : List RawD) (fs : List Fd) (n n0 : Nat) : ∀ k, (pgT l fs n n0 k).2 ≤ n0 + 8 * k
  | 0 => by show n0 ≤ _; omega
  | k + 1 => by
    have h1 := pgT_le l fs n n0 k
    have h2 := atNext_le l (pgT l fs n n0 k).2
    have h3 := skipE_le l fs (rawAt l (pgT l fs n n0 k).2) (atNext l (pgT l fs n n0 k).2)
    show (skipE l fs (rawAt l (pgT l fs n n0 k).2) (atNext l (pgT l fs n n0 k).2)).2 ≤ _
    omega
theorem fname_at {k : Nat} (h : k < 10) : (strRows fnames)[k]? = some [.string (fname k)] := by
  match k, h with
  | 0, _ => rfl
  | 1, _ => rfl
  | 2, _ => rfl
  | 3, _ => rfl
  | 4, _ => rfl
  | 5, _ => rfl
  | 6, _ => rfl
  | 7, _ => rfl
  | 8, _ => rfl
  | 9, _ => rfl
theorem nFields_le (l : List RawD) : 1 ≤ nFields l ∧ nFields l ≤ 10 ∧ (nFields l : Int) = 1 + pickL (rawAt l 0).a 10 := by
  have h0 := pickL_lo (rawAt l 0).a 10 (by omega)
  have h1 := pickL_hi (rawAt l 0).a 10 (by omega)
  unfold nFields; omega
theorem nPages_le (l : List RawD) : 1 ≤ nPages l ∧ nPages l ≤ 4 ∧ (nPages l : Int) = 1 + pickL (rawAt l 0).b 4 := by
  have h0 := pickL_lo (rawAt l 0).b 4 (by omega)
  have h1 := pickL_hi (rawAt l 0).b 4 (by omega)
  unfold nPages; omega
/-- The names of the first k fields that stand on page i. -/
theorem pgNames_snoc (fs : List Fd) (n i : Nat) (f : Fd) (k : Nat) (hk : fs.length = k) : pgNames (fs ++ [f]) n i = if k % (n + 1) = i then pgNames fs n i ++ [f.name] else pgNames fs n i := by
  unfold pgNames
  rw [List.zipIdx_append, List.filter_append, List.map_append]
  simp only [hk, Nat.zero_add, List.zipIdx_cons, List.zipIdx_nil]
  by_cases h : k % (n + 1) = i
  · rw [if_pos h]; simp [List.filter_cons, h]
  · rw [if_neg h]; simp [List.filter_cons, h]
theorem pgNames_len (fs : List Fd) (n i : Nat) : (pgNames fs n i).length ≤ fs.length := by
  unfold pgNames
  rw [List.length_map]
  exact Nat.le_trans (List.length_filter_le _ _) (by simp)

end Go.Proofs.Ythgcgciceejicaa
