/-
  Contract of field.Check, where fields may be.
-/
import Derived.Test.YthgcgciceejicaaFind
import Derived.Test.YthgcgciceejicaaTyO
import Derived.Test.YthgcgciceejicaaRow
namespace Go.Proofs.Ythgcgciceejicaa
open Go.RowKit
set_option linter.unusedVariables false

/-- A field may be, among the fields fs. -/
structure OkF (fs : List Fd) (f : Fd) : Prop where
  name : NameOk f.name.data.toList
  k1 : 1 ≤ f.kind
  k3 : f.kind ≤ 3
  t1 : 1 ≤ f.ty
  t3 : f.ty ≤ 3
  inp : f.kind = 1 → f.src = zE
  wf : f.kind ≠ 1 → WfE f.src ∧ (szE f.src).1 ≤ 60 ∧ chkE f.src = 0
  form : f.kind = 2 → tyE (tyF fs) f.src = (f.ty, 0)
  look : f.kind = 3 → ∃ t, 1 ≤ t ∧ t ≤ 3 ∧ tyE (tyF fs) f.src = (t, 0)
/-- Fields may be. -/
structure OkFs (fs : List Fd) : Prop where
  each : ∀ f ∈ fs, OkF fs f
  nodup : (fs.map (·.name)).Nodup
  few : fs.length ≤ 14

theorem args_zero {h : Vw} {x : Ex} {v : Value} (hx : x.args = []) (ha : IsArgs h x v) : ∃ A c, v = .slice A 0 c := by
  obtain ⟨vs, hr, -⟩ := ha.form
  obtain ⟨A, c, e, -⟩ := hr.form
  rw [hx] at e
  exact ⟨A, c, e⟩
theorem AllArgs.take' {h : Vw} : ∀ (i : Nat) {l : List Ex} {vs : List Value}, AllArgs h l vs → AllArgs h (l.take i) (vs.take i)
  | 0, l, vs, _ => by rw [List.take_zero, List.take_zero]; unfold AllArgs; rfl
  | i + 1, [], vs, k => by unfold AllArgs at k; subst k; rw [List.take_nil, List.take_nil]; unfold AllArgs; rfl
  | i + 1, x :: l, vs, k => by
    unfold AllArgs at k
    obtain ⟨u, us', rfl, q1, q2⟩ := k
    rw [List.take_succ_cons, List.take_succ_cons]
    unfold AllArgs
    exact ⟨_, _, rfl, q1, AllArgs.take' i q2⟩
theorem fds_take {h : Vw} {A : Option Addr} {cap : Nat} {fs : List Fd} (hf : IsFds h (.slice A fs.length cap) fs) (k : Nat) (hk : k ≤ fs.length) : IsFds h (.slice A k cap) (fs.take k) := by
  obtain ⟨vs, hr, hs⟩ := hf
  have hl := hs.len
  refine ⟨vs.take k, ?_, ?_⟩
  · have := hr.take k (by rw [fdRows_len hl]; omega)
    rwa [show (fdRows fs vs).take k = fdRows (fs.take k) (vs.take k) from List.take_zipWith] at this
  · unfold AllSrc
    rw [List.map_take]
    exact AllArgs.take' k hs

end Go.Proofs.Ythgcgciceejicaa
