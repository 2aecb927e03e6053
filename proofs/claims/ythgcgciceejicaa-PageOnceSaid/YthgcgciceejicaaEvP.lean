/-
  What formulas are, in plain words.
-/
import Derived.Test.YthgcgciceejicaaExB
import Derived.Test.YthgcgciceejicaaOrder
import Derived.Test.YthgcgciceejicaaMul
import Derived.Test.YthgcgciceejicaaSx
import Derived.Test.YthgcgciceejicaaVl
namespace Go.Proofs.Ythgcgciceejicaa
open Go.RowKit

/-- A value that may be. -/
def OkV (v : Vl) : Prop := v.known ∨ v = ⟨4, 0, ⟨#[]⟩⟩ ∨ (v.k = 5 ∧ 1 ≤ v.n ∧ v.n ≤ 15 ∧ v.s = ⟨#[]⟩)
def faultV (e : Int) : Vl := ⟨5, e, ⟨#[]⟩⟩
def truthV (b : Bool) : Vl := ⟨2, if b then 1 else 0, ⟨#[]⟩⟩

/-- The number and the error that an operation of numbers gives. -/
def numOp (op a b : Int) : Int × Int :=
  if op = 5 then (if -1099511627776 ≤ a * b ∧ a * b ≤ 1099511627776 then (a * b, 0) else (0, 7))
  else if op = 6 then (if b = 0 then (0, 8) else (fq a b, 0))
  else if op = 7 then (if b = 0 then (0, 8) else (fr a b, 0))
  else if op = 8 then (if -1099511627776 ≤ a + b ∧ a + b ≤ 1099511627776 then (a + b, 0) else (0, 7))
  else (if -1099511627776 ≤ a - b ∧ a - b ≤ 1099511627776 then (a - b, 0) else (0, 7))
def nrV (op a b : Int) : Vl := if (numOp op a b).2 = 0 then ⟨1, (numOp op a b).1, ⟨#[]⟩⟩ else faultV (numOp op a b).2
def kindsV (l : List Vl) (k : Int) : Bool := l.all (fun v => v.k == k)
def hdV (l : List Vl) (i : Nat) : Vl := l.getD i ⟨0, 0, ⟨#[]⟩⟩
def cmpB (op c : Int) : Bool := if op = 11 then decide (c < 0) else if op = 12 then decide (c ≤ 0) else if op = 13 then c == 0 else c != 0
def joinV (x y : Vl) : Vl := if 40 < x.s.size + y.s.size then faultV 1 else ⟨3, 0, x.s ++ y.s⟩
/-- An operation of values that are known. -/
def applyV (op : Int) (l : List Vl) : Vl :=
  if 11 ≤ op ∧ op ≤ 14 then (if (hdV l 0).k = (hdV l 1).k then truthV (cmpB op (cmpV (hdV l 0).n (hdV l 1).n (hdV l 0).s.toList (hdV l 1).s.toList)) else faultV 9)
  else if op = 4 then (if kindsV l 2 then truthV ((hdV l 0).n == 0) else faultV 9)
  else if op = 18 then (if kindsV l 3 then ⟨1, ((hdV l 0).s.size : Int), ⟨#[]⟩⟩ else faultV 9)
  else if op = 10 then (if kindsV l 3 then joinV (hdV l 0) (hdV l 1) else faultV 9)
  else if op = 3 then (if kindsV l 1 then nrV 9 0 (hdV l 0).n else faultV 9)
  else (if kindsV l 1 then nrV op (hdV l 0).n (hdV l 1).n else faultV 9)
/-- What is no value among them: the first fault, or else the last that is not known yet; nothing. -/
def lackV : Option Vl → List Vl → Option Vl
  | p, [] => p
  | p, v :: l => if v.k = 5 then some v else lackV (if v.k = 4 then some v else p) l
def boolV (v : Vl) : Vl := if v.k = 1 ∨ v.k = 3 then faultV 9 else v
/-- The first of two that need not both be known: what it is, and whether it is a truth. -/
def firstV (v : Vl) : Vl × Bool := if v.k = 1 ∨ v.k = 3 then (faultV 9, false) else (v, v.k == 2)
mutual
def evalE (env : Env) : Ex → Vl
  | .mk op k n s nm args =>
    if op = 1 then ⟨k, n, s⟩
    else if op = 2 then (match env.get nm with | some v => v | none => faultV 5)
    else if op = 15 ∨ op = 16 then
      (if (firstV (hdV (evalL env args) 0)).2 = false ∨ ((firstV (hdV (evalL env args) 0)).1.n == 1) = (op == 16) then (firstV (hdV (evalL env args) 0)).1 else boolV (hdV (evalL env args) 1))
    else if op = 17 then
      (if (firstV (hdV (evalL env args) 0)).2 = false then (firstV (hdV (evalL env args) 0)).1 else if (firstV (hdV (evalL env args) 0)).1.n = 1 then hdV (evalL env args) 1 else hdV (evalL env args) 2)
    else (match lackV none (evalL env args) with | some v => v | none => applyV op (evalL env args))
def evalL (env : Env) : List Ex → List Vl
  | [] => []
  | x :: l => evalE env x :: evalL env l
end
theorem evalL_map (env : Env) : ∀ l, evalL env l = l.map (evalE env)
  | [] => by rw [evalL]; rfl
  | x :: l => by rw [evalL, evalL_map env l]; rfl
theorem evalE_eq (env : Env) (x : Ex) : evalE env x =
    if x.op = 1 then ⟨x.k, x.n, x.s⟩
    else if x.op = 2 then (match env.get x.nm with | some v => v | none => faultV 5)
    else if x.op = 15 ∨ x.op = 16 then
      (if (firstV (hdV (evalL env x.args) 0)).2 = false ∨ ((firstV (hdV (evalL env x.args) 0)).1.n == 1) = (x.op == 16) then (firstV (hdV (evalL env x.args) 0)).1 else boolV (hdV (evalL env x.args) 1))
    else if x.op = 17 then
      (if (firstV (hdV (evalL env x.args) 0)).2 = false then (firstV (hdV (evalL env x.args) 0)).1 else if (firstV (hdV (evalL env x.args) 0)).1.n = 1 then hdV (evalL env x.args) 1 else hdV (evalL env x.args) 2)
    else (match lackV none (evalL env x.args) with | some v => v | none => applyV x.op (evalL env x.args)) := by
  obtain ⟨a, b, c, d, e, l⟩ := x
  rw [evalE]; rfl

theorem ok_fault {e : Int} (h0 : 1 ≤ e) (h1 : e ≤ 15) : OkV (faultV e) := .inr (.inr ⟨rfl, h0, h1, rfl⟩)
theorem ok_truth (b : Bool) : OkV (truthV b) := .inl (.inr (.inl ⟨rfl, by cases b <;> simp [truthV], rfl⟩))
theorem ok_kinds {v : Vl} (h : OkV v) : 1 ≤ v.k ∧ v.k ≤ 5 := by
  rcases h with h | rfl | ⟨h, -⟩
  · have := known_kind h; omega
  · exact ⟨by decide, by decide⟩
  · omega
theorem ok_known {v : Vl} (h : OkV v) (h4 : v.k ≠ 4) (h5 : v.k ≠ 5) : v.known := by
  rcases h with h | rfl | ⟨h, -⟩
  · exact h
  · exact absurd rfl h4
  · exact absurd h h5
theorem numOp_ok {op a b : Int} (ha : Lim a) (hb : Lim b) : ((numOp op a b).2 = 0 ∧ Lim (numOp op a b).1) ∨ (numOp op a b).2 = 7 ∨ (numOp op a b).2 = 8 := by
  unfold numOp
  repeat' split
  all_goals first | (left; exact ⟨rfl, by unfold Lim; assumption⟩) | (right; left; rfl) | (right; right; rfl) | (left; exact ⟨rfl, fq_lim ha hb (by assumption)⟩) | (left; exact ⟨rfl, fr_lim ha hb (by assumption)⟩)
theorem nrV_ok {op a b : Int} (ha : Lim a) (hb : Lim b) : OkV (nrV op a b) := by
  unfold nrV
  rcases numOp_ok (op := op) ha hb with ⟨h, hl⟩ | h | h
  · rw [if_pos h]; exact .inl (.inl ⟨rfl, hl, rfl⟩)
  · rw [if_neg (by omega), h]; exact ok_fault (by omega) (by omega)
  · rw [if_neg (by omega), h]; exact ok_fault (by omega) (by omega)

end Go.Proofs.Ythgcgciceejicaa
