/-
  Values, facts, in plain words.
-/
import Derived.Test.YtgjndkphfabnnaaGenB
namespace Go.Proofs.Ytgjndkphfabnnaa
open Go.RowKit

structure Vl where
  k : Int
  n : Int
  s : ByteArray
@[reducible] def Vl.cells (v : Vl) : List Value := [.int .i64 v.k, .int .i64 v.n, .string v.s]
@[reducible] def Vl.val (v : Vl) : Value := .agg #[.int .i64 v.k, .int .i64 v.n, .string v.s]
def Vl.known (v : Vl) : Prop := KnownV v.k v.n v.s
theorem Vl.ext' {v w : Vl} (h1 : v.k = w.k) (h2 : v.n = w.n) (h3 : v.s = w.s) : v = w := by cases v; cases w; simp_all
abbrev Env := List (ByteArray × Vl)
def Env.get (env : Env) (s : ByteArray) : Option Vl := match env with
  | [] => none
  | (k, v) :: l => if s == k then some v else Env.get l s
@[reducible] def fcRow (p : ByteArray × Vl) : List Value := [.string p.1, .int .i64 0, .int .i64 0, .string ⟨#[]⟩, .int .i64 p.2.k, .int .i64 p.2.n, .string p.2.s]
abbrev fcRows (l : Env) : List (List Value) := l.map fcRow
theorem fcRows_snoc (l : Env) (p : ByteArray × Vl) : fcRows (l ++ [p]) = fcRows l ++ [fcRow p] := by simp [fcRows]
def valR (kind : Int) (r : RawD) : Vl := ⟨kind, valN kind r.k r.a, valS kind r.t⟩
theorem valR_known (kind : Int) (r : RawD) (h1 : 1 ≤ kind) (h3 : kind ≤ 3) : (valR kind r).known := val_known kind r.k r.a r.t h1 h3

end Go.Proofs.Ytgjndkphfabnnaa
