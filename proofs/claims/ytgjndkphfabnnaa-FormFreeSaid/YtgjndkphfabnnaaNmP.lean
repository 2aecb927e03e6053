/-
  Names of formulas, a formula in the place of a field, in plain words.
-/
import Derived.Test.YtgjndkphfabnnaaEvP
import Derived.Test.YtgjndkphfabnnaaSome
import Derived.Test.YtgjndkphfabnnaaLaw
namespace Go.Proofs.Ytgjndkphfabnnaa
open Go.RowKit

/-- What holds of a formula if it holds of its arguments holds of all. -/
theorem ex_ind {p : Ex → Prop} (h : ∀ x : Ex, (∀ y ∈ x.args, p y) → p x) (x : Ex) : p x := by
  have key : ∀ (m : Nat) (x : Ex), (szE x).1 ≤ m → p x := by
    intro m
    induction m with
    | zero => intro x hx; have := szE_pos x; omega
    | succ m ih =>
      intro x hx
      refine h x fun y hy => ih y ?_
      have h1 := szE_eq x
      have h2 := (szL_mem hy).1
      rw [h1] at hx
      simp only at hx
      omega
  exact key _ x (Nat.le_refl _)
mutual
/-- The fields that a formula asks for, from the left. -/
def refsE : Ex → List ByteArray
  | .mk op _ _ _ nm args => (if op = 2 then [nm] else []) ++ refsL args
def refsL : List Ex → List ByteArray
  | [] => []
  | x :: l => refsE x ++ refsL l
end
theorem refsE_eq (x : Ex) : refsE x = (if x.op = 2 then [x.nm] else []) ++ refsL x.args := by
  obtain ⟨a, b, c, d, e, l⟩ := x
  rw [refsE]; rfl
theorem refsL_app (l m : List Ex) : refsL (l ++ m) = refsL l ++ refsL m := by
  induction l with
  | nil => simp [refsL]
  | cons x l ih => rw [List.cons_append, refsL, refsL, ih, List.append_assoc]
theorem mem_refsL {s : ByteArray} : ∀ {l : List Ex}, s ∈ refsL l ↔ ∃ x ∈ l, s ∈ refsE x
  | [] => by simp [refsL]
  | x :: l => by rw [refsL, List.mem_append, mem_refsL (l := l)]; simp
theorem refs_op (op : Int) (l : List Ex) (h : op ≠ 2) : refsE (opE op l) = refsL l := by
  rw [refsE_eq, if_neg (show ¬ (opE op l).op = 2 from h)]; rfl
theorem refs_ref (s : ByteArray) : refsE (refE s) = [s] := by
  rw [refsE_eq, if_pos (show (refE s).op = 2 from rfl)]; rfl

mutual
/-- y in the place of the field n. -/
def putE (n : ByteArray) (y : Ex) : Ex → Ex
  | .mk op k m s nm args => if op = 2 ∧ nm = n then y else .mk op k m s nm (putL n y args)
def putL (n : ByteArray) (y : Ex) : List Ex → List Ex
  | [] => []
  | x :: l => putE n y x :: putL n y l
end
/-- A field that may be has no arguments, and nothing else. -/
theorem ref_shape {x : Ex} (h : WfE x) (h2 : x.op = 2) : x = refE x.nm ∧ NameOk x.nm.data.toList := by
  rcases h.top with ⟨h1, -⟩ | ⟨h1, hn, hk, hm, hs, ha⟩ | ⟨h1, -⟩
  · omega
  · obtain ⟨a, b, c, d, e, l⟩ := x
    simp only [Ex.op, Ex.k, Ex.n, Ex.s, Ex.args] at h1 hk hm hs ha
    have ha : l = [] := List.length_eq_zero_iff.1 ha
    subst h1 hk hm hs ha
    exact ⟨rfl, hn⟩
  · omega
theorem ref_args {x : Ex} (h : WfE x) (h2 : x.op = 2) : x.args = [] := by rw [(ref_shape h h2).1]; rfl

end Go.Proofs.Ytgjndkphfabnnaa
