/-
  A map of the call's own, in the kit's words.
-/
import Derived.Test.YtgjndkphfabnnaaNmW
import Derived.Maps.Own
import Derived.Maps.Range
import Derived.Sort.KeysCollected
namespace Go.Proofs.Ytgjndkphfabnnaa
open Go.RowKit Go.Maps Go.WideElems Go.WideShapes

theorem map_owned {P : Program} {w : World} {b : Nat} {k e : TypeId} {l : List (ByteArray × Value)} (hb : w.heap[b]? = some (mapObj (strEs l))) (hn : (l.map (·.1)).Nodup) (hs : ∀ p ∈ l, p.1.size ≤ maxLen) (hv : ∀ p ∈ l, p.2 = .bool true) (hl : l.length ≤ maxLen)
    (hk : P.underlying k = some .string) (he : P.underlying e = some .bool) : ∃ D0 : DataW Unit, w.ownsMap P k (plainElem P e) b l.length D0 ∧ (strKeys D0).Perm (l.map fun p => p.1.data.toList) ∧ Maps.size D0 = l.length := by
  have hes : (ments (strEs l)).toArray.toList = ments (strEs l) := rfl
  have hrd : ∀ x ∈ ments (strEs l), ∃ p ∈ l, rd P k (plainElem (H := Unit) P e) x = some (.string p.1.data.toList, .lit (.bool true)) := fun x hx => by
    obtain ⟨i, hi⟩ := List.getElem?_of_mem hx
    rw [ments_get, strEs, List.getElem?_map] at hi
    cases hp : l[i]? with
    | none => rw [hp] at hi; cases hi
    | some p =>
      rw [hp] at hi
      simp only [Option.map_some, Option.some.injEq] at hi
      subst hi
      have hm := List.mem_of_getElem? hp
      refine ⟨p, hm, ?_⟩
      have h1 := hs p hm
      have h2 := hv p hm
      simp [rd, keyOf, mapKey, hk, h1, plainElem, he, h2]
  have hmap : (ments (strEs l)).map (rg P k (plainElem (H := Unit) P e)) = l.map fun p => (Lit.string p.1.data.toList, DataW.lit (.bool true)) := by
    refine List.ext_getElem? fun i => ?_
    rw [List.getElem?_map, ments_get, strEs, List.getElem?_map, List.getElem?_map]
    cases hp : l[i]? with
    | none => rfl
    | some p =>
      have hm := List.mem_of_getElem? hp
      have h1 := hs p hm
      have h2 := hv p hm
      simp [rg, rd, keyOf, mapKey, hk, h1, plainElem, he, h2]
  have hlen : (ments (strEs l)).length = l.length := by simp [ments, strEs]
  refine ⟨_, ⟨(ments (strEs l)).toArray, l.length, ?_, ⟨by simpa [hlen] using hl, ?_, fun x hx => ?_⟩, by simp [hlen], rfl⟩, ?_, ?_⟩
  · rw [hb, mapObj]; simp [strEs]
  · rw [Go.MapKept.stamped_iff, hes]
    have hborn : (ments (strEs l)).map (·.born) = List.range l.length := by
      refine List.ext_getElem? fun i => ?_
      rw [List.getElem?_map, ments_get, strEs, List.getElem?_map]
      rcases Nat.lt_or_ge i l.length with g | g
      · rw [List.getElem?_eq_getElem g, List.getElem?_range g]; rfl
      · rw [List.getElem?_eq_none g, List.getElem?_eq_none (by simpa using g)]; rfl
    have hkeys : (ments (strEs l)).map (·.key) = l.map fun p => Value.string p.1 := by
      refine List.ext_getElem? fun i => ?_
      rw [List.getElem?_map, ments_get, strEs, List.getElem?_map, List.getElem?_map]
      cases l[i]? <;> rfl
    refine ⟨fun x hx => ?_, by rw [hborn]; exact List.nodup_range, ?_⟩
    · have : x.born ∈ (ments (strEs l)).map (·.born) := List.mem_map.2 ⟨x, hx, rfl⟩
      rw [hborn] at this
      exact List.mem_range.1 this
    · have : ((ments (strEs l)).map (·.key)).Nodup := by
        rw [hkeys]
        have h2 : (l.map fun p => Value.string p.1) = (l.map (·.1)).map Value.string := by rw [List.map_map]; rfl
        rw [h2]
        exact List.pairwise_map.2 (hn.imp fun hne e => hne (by injection e))
      exact List.pairwise_map.1 this
  · obtain ⟨p, -, h⟩ := hrd x hx; exact ⟨_, h⟩
  · rw [hes, hmap]
    show (List.map (fun (p : Lit × DataW Unit) => strOf p.1) _).Perm _
    refine ((sorted_perm _).map _).trans ?_
    rw [List.map_map]
    exact List.Perm.refl _
  · rw [hes, hmap]
    show (List.foldr DataW.insert [] _).length = _
    rw [(sorted_perm _).length_eq, List.length_map]

end Go.Proofs.Ytgjndkphfabnnaa
