/-
  Formulas as trees, and how they lie in memory; what the generator of formulas gives, in plain words.
-/
import Derived.Test.YthgcgciceejicaaGenA
import Derived.Test.YthgcgciceejicaaClean
namespace Go.Proofs.Ythgcgciceejicaa
open Go.RowKit

inductive Ex where
  | mk (op k n : Int) (s nm : ByteArray) (args : List Ex)

namespace Ex
def op : Ex → Int | .mk a _ _ _ _ _ => a
def k : Ex → Int | .mk _ a _ _ _ _ => a
def n : Ex → Int | .mk _ _ a _ _ _ => a
def s : Ex → ByteArray | .mk _ _ _ a _ _ => a
def nm : Ex → ByteArray | .mk _ _ _ _ a _ => a
def args : Ex → List Ex | .mk _ _ _ _ _ a => a
end Ex

/-- The six cells of a formula whose arguments lie in the slice v. -/
@[reducible] def exRow (x : Ex) (v : Value) : List Value := [.int .i64 x.op, .int .i64 x.k, .int .i64 x.n, .string x.s, .string x.nm, v]
abbrev exRows (l : List Ex) (vs : List Value) : List (List Value) := List.zipWith exRow l vs

mutual
/-- The slice v holds the arguments of x. -/
def IsArgs (h : Vw) : Ex → Value → Prop
  | .mk _ _ _ _ _ args, v => ∃ vs, RS h 6 v (exRows args vs) ∧ AllArgs h args vs
def AllArgs (h : Vw) : List Ex → List Value → Prop
  | [], vs => vs = []
  | x :: l, vs => ∃ u us, vs = u :: us ∧ IsArgs h x u ∧ AllArgs h l us
end

mutual
theorem args_sees {h h' : Vw} (s : Sees h h') : ∀ (x : Ex) (v : Value), IsArgs h x v → IsArgs h' x v
  | .mk _ _ _ _ _ args, v, k => by
    unfold IsArgs at k ⊢
    obtain ⟨vs, h1, h2⟩ := k
    exact ⟨vs, h1.sees s, all_sees s args vs h2⟩
theorem all_sees {h h' : Vw} (s : Sees h h') : ∀ (l : List Ex) (vs : List Value), AllArgs h l vs → AllArgs h' l vs
  | [], vs, k => by unfold AllArgs at k ⊢; exact k
  | x :: l, vs, k => by
    unfold AllArgs at k ⊢
    obtain ⟨u, us, h1, h2, h3⟩ := k
    exact ⟨u, us, h1, args_sees s x u h2, all_sees s l us h3⟩
end
theorem IsArgs.sees {h h' : Vw} {x : Ex} {v : Value} (k : IsArgs h x v) (s : Sees h h') : IsArgs h' x v := args_sees s x v k
theorem AllArgs.sees {h h' : Vw} {l : List Ex} {vs : List Value} (k : AllArgs h l vs) (s : Sees h h') : AllArgs h' l vs := all_sees s l vs k

theorem AllArgs.len {h : Vw} : ∀ {l : List Ex} {vs : List Value}, AllArgs h l vs → vs.length = l.length
  | [], vs, k => by unfold AllArgs at k; subst k; rfl
  | x :: l, vs, k => by
    unfold AllArgs at k
    obtain ⟨u, us, rfl, -, h3⟩ := k
    simp [AllArgs.len h3]
theorem AllArgs.snoc {h : Vw} {x : Ex} {v : Value} (hx : IsArgs h x v) : ∀ {l : List Ex} {vs : List Value}, AllArgs h l vs → AllArgs h (l ++ [x]) (vs ++ [v])
  | [], vs, k => by unfold AllArgs at k; subst k; unfold AllArgs; exact ⟨v, [], rfl, hx, by unfold AllArgs; rfl⟩
  | y :: l, vs, k => by
    unfold AllArgs at k
    obtain ⟨u, us, rfl, h2, h3⟩ := k
    show AllArgs h (y :: (l ++ [x])) _
    unfold AllArgs
    exact ⟨u, us ++ [v], rfl, h2, AllArgs.snoc hx h3⟩
theorem exRows_snoc {l : List Ex} {vs : List Value} (hl : vs.length = l.length) (x : Ex) (v : Value) : exRows (l ++ [x]) (vs ++ [v]) = exRows l vs ++ [exRow x v] := by
  show List.zipWith _ _ _ = _
  rw [List.zipWith_append hl.symm]; rfl
theorem exRows_len {l : List Ex} {vs : List Value} (hl : vs.length = l.length) : (exRows l vs).length = l.length := by simp [exRows, hl]
theorem args_nil (h : Vw) (x : Ex) (hx : x.args = []) : IsArgs h x (.slice none 0 0) := by
  obtain ⟨a, b, c, d, e, l⟩ := x
  simp only [Ex.args] at hx
  subst hx
  unfold IsArgs
  exact ⟨[], RS.nil _ _, by unfold AllArgs; rfl⟩
theorem IsArgs.form {h : Vw} {x : Ex} {v : Value} (k : IsArgs h x v) : ∃ vs, RS h 6 v (exRows x.args vs) ∧ AllArgs h x.args vs := by
  obtain ⟨a, b, c, d, e, l⟩ := x
  unfold IsArgs at k
  exact k
theorem IsArgs.mk {h : Vw} {x : Ex} {v : Value} {vs : List Value} (h1 : RS h 6 v (exRows x.args vs)) (h2 : AllArgs h x.args vs) : IsArgs h x v := by
  obtain ⟨a, b, c, d, e, l⟩ := x
  unfold IsArgs
  exact ⟨vs, h1, h2⟩

theorem IsArgs.slice {h : Vw} {x : Ex} {v : Value} (k : IsArgs h x v) : ∃ A n c, v = .slice A n c := by
  obtain ⟨vs, h1, -⟩ := k.form
  obtain ⟨A, c, e, -⟩ := h1.form
  exact ⟨A, _, c, e⟩
theorem AllArgs.get {h : Vw} : ∀ {l : List Ex} {vs : List Value}, AllArgs h l vs → ∀ {i : Nat} {x : Ex} {u : Value}, l[i]? = some x → vs[i]? = some u → IsArgs h x u
  | [], vs, _, i, x, u, hx, _ => by simp at hx
  | y :: l, vs, k, i, x, u, hx, hu => by
    unfold AllArgs at k
    obtain ⟨u', us, rfl, h2, h3⟩ := k
    cases i with
    | zero => simp at hx hu; subst hx hu; exact h2
    | succ i => exact AllArgs.get h3 (by simpa using hx) (by simpa using hu)

/-! ### The generator of formulas, in plain words -/
/-- A field, as formulas see it: its name, its type. -/
structure Fd where
  name : ByteArray
  kind : Int
  ty : Int
  src : Ex

/-- The nine cells of a field whose source's arguments lie in the slice v. -/
@[reducible] def fdRow (f : Fd) (v : Value) : List Value := [.string f.name, .int .i64 f.kind, .int .i64 f.ty, .int .i64 f.src.op, .int .i64 f.src.k, .int .i64 f.src.n, .string f.src.s, .string f.src.nm, v]
abbrev fdRows (l : List Fd) (vs : List Value) : List (List Value) := List.zipWith fdRow l vs
def AllSrc (h : Vw) (l : List Fd) (vs : List Value) : Prop := AllArgs h (l.map (·.src)) vs
/-- The slice v holds the fields l. -/
def IsFds (h : Vw) (v : Value) (l : List Fd) : Prop := ∃ vs, RS h 9 v (fdRows l vs) ∧ AllSrc h l vs
theorem IsFds.sees {h h' : Vw} {v : Value} {l : List Fd} (k : IsFds h v l) (s : Sees h h') : IsFds h' v l := by
  obtain ⟨vs, h1, h2⟩ := k
  exact ⟨vs, h1.sees s, AllArgs.sees h2 s⟩
theorem AllSrc.len {h : Vw} {l : List Fd} {vs : List Value} (k : AllSrc h l vs) : vs.length = l.length := by
  have := AllArgs.len k; simpa using this
theorem fdRows_len {l : List Fd} {vs : List Value} (hl : vs.length = l.length) : (fdRows l vs).length = l.length := by simp [fdRows, hl]
theorem fdRows_get {l : List Fd} {vs : List Value} {i : Nat} {f : Fd} {v : Value} (hf : l[i]? = some f) (hv : vs[i]? = some v) : (fdRows l vs)[i]? = some (fdRow f v) := by
  show (List.zipWith fdRow l vs)[i]? = _
  rw [List.getElem?_zipWith, hf, hv]

def absI (n : Int) : Int := if n < 0 then -n else n
def constE (kind : Int) (r : RawD) : Ex := .mk 1 kind (if kind = 1 then absI (valN kind r.k r.a) else valN kind r.k r.a) (valS kind r.t) ⟨#[]⟩ []
def refE (s : ByteArray) : Ex := .mk 2 0 0 ⟨#[]⟩ s []
def namesOf (fs : List Fd) (kind : Int) : List ByteArray := (fs.filter (fun f => f.ty == kind)).map (·.name)
def leafE (r : RawD) (fs : List Fd) (kind : Int) : Ex :=
  match (namesOf fs kind)[(pickL r.b (namesOf fs kind).length).toNat]? with
  | some s => if pickL r.k 4 = 0 then constE kind r else refE s
  | none => constE kind r

/-- Formulas of the kinds, one after the other: from place n on; the next place. -/
def manyE (one : Int → Nat → Ex × Nat) : List Int → Nat → List Ex × Nat
  | [], n => ([], n)
  | k :: ks, n => let p := one k n; let q := manyE one ks p.2; (p.1 :: q.1, q.2)
def opE (op : Int) (args : List Ex) : Ex := .mk op 0 0 ⟨#[]⟩ ⟨#[]⟩ args
def intOps (n : Int) : Int := if n = 2 then 5 else if n = 3 then 6 else if n = 4 then 7 else if n = 5 then 8 else 9
/-- Which operation, of which kinds. -/
def pickE (r : RawD) (kind : Int) : Int × List Int :=
  if pickL r.a 6 = 0 then (17, [2, kind, kind])
  else if kind = 1 then (if pickL r.b 7 = 0 then (3, [1]) else if pickL r.b 7 = 1 then (18, [3]) else (intOps (pickL r.b 7), [1, 1]))
  else if kind = 2 then (if pickL r.b 7 = 0 then (4, [2]) else if pickL r.b 7 < 3 then (15 + pickL r.b 7 - 1, [2, 2]) else (11 + pickL r.b 7 - 3, [1 + pickL r.a 3, 1 + pickL r.a 3]))
  else (10, [3, 3])
def genE (l : List RawD) (fs : List Fd) : Nat → Int → Nat → Ex × Nat
  | 0, kind, n => (leafE (rawAt l (atNext l n)) fs kind, atNext l (atNext l n))
  | d + 1, kind, n =>
    if pickL (rawAt l n).k 3 = 0 then (leafE (rawAt l (atNext l n)) fs kind, atNext l (atNext l n))
    else let p := pickE (rawAt l n) kind; let q := manyE (genE l fs d) p.2 (atNext l n); (opE p.1 q.1, q.2)

theorem manyE_snoc (one : Int → Nat → Ex × Nat) (k : Int) : ∀ (l : List Int) (n : Nat), manyE one (l ++ [k]) n = ((manyE one l n).1 ++ [(one k (manyE one l n).2).1], (one k (manyE one l n).2).2)
  | [], n => rfl
  | x :: l, n => by
    show ((one x n).1 :: (manyE one (l ++ [k]) (one x n).2).1, (manyE one (l ++ [k]) (one x n).2).2) = _
    rw [manyE_snoc one k l]; rfl
/-- How far a formula takes the generator at most. -/
def bnd : Nat → Nat
  | 0 => 2
  | d + 1 => 1 + 3 * bnd d
theorem atNext_le (l : List RawD) (n : Nat) : n ≤ atNext l n ∧ atNext l n ≤ n + 1 := by unfold atNext; split <;> omega
theorem manyE_le {one : Int → Nat → Ex × Nat} {b : Nat} (h : ∀ k n, n ≤ (one k n).2 ∧ (one k n).2 ≤ n + b) : ∀ (l : List Int) (n : Nat), n ≤ (manyE one l n).2 ∧ (manyE one l n).2 ≤ n + l.length * b
  | [], n => by simp [manyE]
  | x :: l, n => by
    have h1 := h x n
    have h2 := manyE_le h l (one x n).2
    show n ≤ (manyE one l (one x n).2).2 ∧ (manyE one l (one x n).2).2 ≤ n + (l.length + 1) * b
    rw [Nat.succ_mul]; omega
theorem pickE_len (r : RawD) (kind : Int) : (pickE r kind).2.length ≤ 3 := by
  unfold pickE
  repeat' split
  all_goals simp
theorem genE_le (l : List RawD) (fs : List Fd) : ∀ (d : Nat) (kind : Int) (n : Nat), n ≤ (genE l fs d kind n).2 ∧ (genE l fs d kind n).2 ≤ n + bnd d
  | 0, kind, n => by
    have h1 := atNext_le l n
    have h2 := atNext_le l (atNext l n)
    show n ≤ atNext l (atNext l n) ∧ atNext l (atNext l n) ≤ n + 2
    omega
  | d + 1, kind, n => by
    have h1 := atNext_le l n
    have h2 := atNext_le l (atNext l n)
    have hb : 2 ≤ bnd (d + 1) := by
      have : ∀ d, 2 ≤ bnd d := fun d => by induction d with | zero => exact Nat.le_refl _ | succ d ih => unfold bnd; omega
      exact this _
    unfold genE
    split
    · dsimp only; omega
    · have h3 := manyE_le (genE_le l fs d) (pickE (rawAt l n) kind).2 (atNext l n)
      have h4 := Nat.mul_le_mul_right (bnd d) (pickE_len (rawAt l n) kind)
      dsimp only
      unfold bnd
      omega

end Go.Proofs.Ythgcgciceejicaa
