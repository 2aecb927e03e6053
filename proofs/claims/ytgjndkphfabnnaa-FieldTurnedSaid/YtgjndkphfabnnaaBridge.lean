/-
  Contracts of the older kind, as walks by certificates want them.
-/
import Derived.Test.YtgjndkphfabnnaaEvo
import Derived.Test.YtgjndkphfabnnaaLent
namespace Go.Proofs.Ytgjndkphfabnnaa
open Go.RowKit
set_option linter.unusedVariables false

theorem Sl.of_rs {h : Vw} {k : Nat} {v : Value} {l : List (List Value)} (r : RS h k v l) : Sl h.w k v l := by
  rcases r with r | ⟨b, off, cap, e, h1, h2, hb, hn, hc⟩
  · exact .inl r
  · exact .inr ⟨b, off, cap, e, h1, h2, hb, fun i r hi j u hj => hc i r hi j u hj⟩
theorem C0.of_e {P : Program} {f : FuncId} {args : Array Value} {v : Value} {h : Vw} (hc : Calls P f args h.w (GivesE v h.w)) : C0 P f args h (fun r _ => r = v) := by
  intro _ _ _ _
  refine hc.mono ?_
  rintro e w' ⟨rfl, hb⟩
  exact ⟨_, [], rfl, Low.of_below hb.below, (fun x hx => by cases hx), rfl, rfl⟩
theorem own_ent {w : World} {base : Nat} {e : TypeId} {k : Nat} {v : Value} {l : List (List Value)} (h : Own w base e k v l.length l.flatten) (hk : Len k l) : Ent.ok base w (.row v e k l) := ⟨h.own, hk⟩
theorem CRow.of_own {P : Program} {f : FuncId} {args : Array Value} {e : TypeId} {k : Nat} {l : List (List Value)} {h : Vw} (hk : Len k l) (hc : Calls P f args h.w (GivesOwn e k l h.w)) : CRow P f args h e k (fun _ rows => rows = l) := by
  intro _ _ _ _
  refine hc.mono ?_
  rintro en w' ⟨v, rfl, ho, hb⟩
  exact ⟨_, [], rfl, Low.of_below hb.below, (fun x hx => by cases hx), rfl, l, own_ent ho hk, rfl⟩
theorem rs_of_own {w : World} {base : Nat} {e : TypeId} {k : Nat} {v : Value} {l : List (List Value)} {bad : List Nat} (h : Own w base e k v l.length l.flatten) (hk : Len k l) (hb : ∀ b ∈ bad, b < base) : RS ⟨w, bad⟩ k v l :=
  row_rs (own_ent h hk) fun b hb' hm => by have := (h.own.lt b hb').1; have := hb b hm; omega
theorem C0.of_own {P : Program} {f : FuncId} {args : Array Value} {e : TypeId} {k : Nat} {l : List (List Value)} {h : Vw} (hk : Len k l) (hc : Calls P f args h.w (GivesOwn e k l h.w)) : C0 P f args h (fun v h' => ∃ u, v = .slice (sA u) (sN u) (sC u) ∧ RS h' k (.slice (sA u) (sN u) (sC u)) l) := by
  intro _ _ _ hbad
  refine hc.mono ?_
  rintro en w' ⟨v, rfl, ho, hb⟩
  have hr := rs_of_own (bad := h.bad) ho hk hbad
  obtain ⟨A, c, rfl, -⟩ := hr.form
  exact ⟨_, [], rfl, Low.of_below hb.below, (fun x hx => by cases hx), rfl, .slice A l.length c, rfl, hr⟩
end Go.Proofs.Ytgjndkphfabnnaa
