/-
  A store into a map whose keys are strings.
-/
import Derived.Test.YtgjndkphfabnnaaRx
namespace Go.Proofs.Ytgjndkphfabnnaa
open Go.RowKit

/-! ### A store into a map whose keys are strings -/
def sidx (s : ByteArray) : List (ByteArray × Value) → Option Nat
  | [] => none
  | (k, _) :: l => if s == k then some 0 else (sidx s l).map (· + 1)
theorem sidx_none {s : ByteArray} : ∀ {l : List (ByteArray × Value)}, sidx s l = none → sget s l = none
  | [], _ => rfl
  | (k, v) :: l, h => by
    unfold sidx at h
    unfold sget
    split at h
    · cases h
    · rename_i g
      rw [if_neg g]
      exact sidx_none (by simpa using h)
theorem sidx_some {s : ByteArray} : ∀ {l : List (ByteArray × Value)} {j : Nat}, sidx s l = some j → ∃ u, l[j]? = some (s, u) ∧ (∀ i z, Instr.findNow .string (.string s) (((strEs l).zipIdx z).map fun p => ⟨p.1.1, p.1.2, p.2⟩) i = some (some (i + j, u))) ∧
    ∀ v t, sget t (l.set j (s, v)) = if t = s then some v else sget t l
  | [], j, h => by cases h
  | (k, u) :: l, j, h => by
    unfold sidx at h
    split at h
    · rename_i g
      simp only [Option.some.injEq] at h
      subst h
      obtain rfl := (Go.MapKept.bytes_beq s k).1 g
      refine ⟨u, rfl, fun i z => ?_, fun v t => ?_⟩
      · simp only [strEs, List.map_cons, List.zipIdx_cons]
        unfold Instr.findNow
        have hsn : Instr.sameNow .string (.string s) (.string s) = some (s == s) := rfl
        simp only [hsn, g, Nat.add_zero]
      · rw [List.set_cons_zero]
        unfold sget
        by_cases e : t = s
        · rw [if_pos e, if_pos (by rw [e]; exact g)]
        · rw [if_neg e, if_neg (fun q => e ((Go.MapKept.bytes_beq t s).1 q)), if_neg (fun q => e ((Go.MapKept.bytes_beq t s).1 q))]
    · rename_i g
      obtain ⟨j', hj, rfl⟩ := Option.map_eq_some_iff.1 h
      obtain ⟨u', h1, h2, h3⟩ := sidx_some hj
      refine ⟨u', by simpa using h1, fun i z => ?_, fun v t => ?_⟩
      · simp only [strEs, List.map_cons, List.zipIdx_cons]
        unfold Instr.findNow
        have hsn : Instr.sameNow .string (.string s) (.string k) = some (s == k) := rfl
        simp only [hsn, g]
        rw [show i + (j' + 1) = i + 1 + j' by omega]
        exact h2 (i + 1) (z + 1)
      · rw [List.set_cons_succ]
        unfold sget
        rw [h3 v t]
        by_cases e : t = s
        · subst e; rw [if_neg g, if_pos rfl, if_pos rfl]
        · rw [if_neg e, if_neg e]
theorem sget_snoc {s t : ByteArray} {v : Value} : ∀ {l : List (ByteArray × Value)}, sget s l = none → sget t (l ++ [(s, v)]) = if t = s then some v else sget t l
  | [], _ => by
    show (if t == s then some v else none) = _
    by_cases e : t = s
    · rw [if_pos e, if_pos ((Go.MapKept.bytes_beq t s).2 e)]
    · rw [if_neg e, if_neg (fun q => e ((Go.MapKept.bytes_beq t s).1 q))]; rfl
  | (k, u) :: l, h => by
    unfold sget at h
    split at h
    · cases h
    · rename_i g
      rw [List.cons_append]
      unfold sget
      rw [sget_snoc h]
      by_cases e : t = s
      · subst e; rw [if_neg g, if_pos rfl, if_pos rfl]
      · rw [if_neg e, if_neg e]
theorem sget_out {s : ByteArray} : ∀ {l : List (ByteArray × Value)}, sget s l = none → ∀ q ∈ l, q.1 ≠ s
  | (k, v) :: l, h, q, hq, e => by
    unfold sget at h
    split at h
    · cases h
    · rename_i g
      rcases List.mem_cons.1 hq with rfl | hq
      · exact g ((Go.MapKept.bytes_beq s k).2 e.symm)
      · exact sget_out h q hq e
theorem ments_get (es : List (Value × Value)) (i : Nat) : (ments es)[i]? = (es[i]?).map fun p => ⟨p.1, p.2, i⟩ := by
  unfold ments
  rw [List.getElem?_map, List.getElem?_zipIdx]
  cases es[i]? <;> simp
theorem run_update_str {P : Program} {w : World} {b : Nat} {l : List (ByteArray × Value)} {t kt et : TypeId} {s : ByteArray} {v : Value} (hb : w.heap[b]? = some (mapObj (strEs l))) (ht : P.underlying t = some (.map kt et)) (htd : P.underlying kt = some .string) :
    ∃ l', (Instr.mapUpdate t (.map (some b)) (.string s) v).run P w = .ok () { w with heap := w.heap.setIfInBounds b (mapObj (strEs l')) } ∧ (∀ t, sget t l' = if t = s then some v else sget t l) ∧ ((l.map (·.1)).Nodup → (l'.map (·.1)).Nodup) ∧ ∀ p ∈ l', p ∈ l ∨ p = (s, v) := by
  cases hs : sidx s l with
  | none =>
    have hn := sidx_none hs
    refine ⟨l ++ [(s, v)], ?_, fun t => sget_snoc hn, fun hd => ?_, fun p hp => (List.mem_append.1 hp).imp id List.mem_singleton.1⟩
    rotate_left
    · rw [List.map_append, List.nodup_append]
      refine ⟨hd, by simp, fun x hx y hy e => ?_⟩
      simp only [List.map_cons, List.map_nil, List.mem_singleton] at hy
      subst hy e
      obtain ⟨q, hq, e2⟩ := List.mem_map.1 hx
      exact sget_out hn q hq e2
    have := run_update_at (P := P) (v := v) hb ht htd (k := .string s) rfl (mfind_none hn)
    rw [this, show strEs (l ++ [(s, v)]) = strEs l ++ [(.string s, v)] by simp [strEs]]
  | some j =>
    obtain ⟨u, h1, h2, h3⟩ := sidx_some hs
    refine ⟨l.set j (s, v), ?_, h3 v, fun hd => ?_, fun p hp => List.mem_or_eq_of_mem_set hp⟩
    rotate_left
    · have : (l.set j (s, v)).map (·.1) = l.map (·.1) := by
        refine List.ext_getElem? fun i => ?_
        rw [List.getElem?_map, List.getElem?_map, List.getElem?_set]
        have hlt := (List.getElem?_eq_some_iff.1 h1).1
        by_cases e : j = i
        · subst e; rw [if_pos rfl, if_pos hlt, h1]; rfl
        · rw [if_neg e]
      rw [this]; exact hd
    have hf : Instr.findNow .string (.string s) (ments (strEs l)).toArray.toList 0 = some (some (j, u)) := by
      have := h2 0 0
      rw [Nat.zero_add] at this
      exact this
    have hj : (ments (strEs l)).toArray[j]? = some ⟨.string s, u, j⟩ := by
      rw [List.getElem?_toArray, ments_get, strEs, List.getElem?_map, h1]; rfl
    have hk : Go.MapKept.IsKey .string (.string s) := isKey_of rfl
    have hm : (ments (strEs l)).toArray.modify j (fun e => { e with key := .string s, val := v }) = (ments (strEs (l.set j (s, v)))).toArray := by
      apply Array.ext'
      rw [Array.toList_modify]
      refine List.ext_getElem? fun i => ?_
      show _ = (ments (strEs (l.set j (s, v))))[i]?
      rw [List.getElem?_modify, ments_get, ments_get, List.getElem?_map, List.getElem?_map, List.getElem?_set]
      have hlt := (List.getElem?_eq_some_iff.1 h1).1
      by_cases e : j = i
      · subst e; simp [hlt]
      · simp [e]
    unfold mapObj at hb ⊢
    unfold Instr.mapUpdate
    simp only [Sem.run_bind, run_underlying ht, Result.andThen, Go.MapKept.run_getObj_map hb, Go.MapKept.run_checkKey htd hk, Go.MapKept.run_findKey htd hf]
    simp only [hj, Option.map_some, Option.getD_some, Go.MapKept.run_keyThatStays hk, Go.MapKept.run_setObj_map _ hb]
    rw [hm]
    simp [strEs]

end Go.Proofs.Ytgjndkphfabnnaa
