/-
  How a walk by certificates ends a law.
-/
import Derived.Test.YthgcgciceejicaaSx
import Derived.Test.YthgcgciceejicaaRawSl
import Derived.Test.YthgcgciceejicaaGenA
namespace Go.Proofs.Ythgcgciceejicaa
open Go.RowKit

theorem RS.of_sl {w : World} {k : Nat} {v : Value} {l : List (List Value)} (h : Sl w k v l) : RS ⟨w, []⟩ k v l := by
  rcases h with h | ⟨b, off, cap, e, h1, h2, hb, hc⟩
  · exact .inl h
  · exact .inr ⟨b, off, cap, e, h1, h2, hb, by simp, fun i r hi j u hj => hc i r hi j u hj⟩
theorem C0.law {P : Program} {f : FuncId} {args : Array Value} {w : World} (hc : C0 P f args ⟨w, []⟩ (fun v _ => v = .bool true)) : Calls P f args w fun e w' => e = .returned (.bool true) ∧ Below w.heap.size w w' := by
  refine (hc (by intro x hx; cases hx) (by simp) (by simp) (by simp)).mono ?_
  rintro e w' ⟨v, Bo, rfl, hl, -, -, rfl⟩
  exact ⟨rfl, Low.below hl⟩
theorem RawsOf.rs {w : World} {v : Value} {l : List RawD} (h : RawsOf w v l) : RS ⟨w, []⟩ 4 v (l.map RawD.cs) := RS.of_sl h.1

end Go.Proofs.Ythgcgciceejicaa
