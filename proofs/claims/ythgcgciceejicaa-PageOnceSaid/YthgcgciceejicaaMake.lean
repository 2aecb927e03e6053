/-
  make([]T, n) in a walk, T of one cell.
-/
import Derived.Test.YthgcgciceejicaaRow
namespace Go.Proofs.Ythgcgciceejicaa
open Go.RowKit
set_option linter.unusedVariables false

section
variable {P : Program} {C : Fx} {E : List (Nat × Value)} {B : List Ent} {F : List Fac} {h : Vw} {a : Act} {w : World} {c0 : Code} {Q : Exit → Act → World → Prop} {p : List Nat} {n : Nat} {ks : List Kt}
theorem flat_one (z : Value) (n : Nat) : (List.replicate n [z]).flatten = List.replicate n z := by
  induction n with
  | zero => rfl
  | succ n ih => rw [List.replicate_succ, List.flatten_cons, ih, List.replicate_succ]; rfl
theorem x_make1 (hK : K C E B F h a w) (d : Nat) {t e : TypeId} {z : Value} {x : Operand} {by_ m : Nat} (hk : goodOp C E (opsAt c0 p) n d = true) (hm : (opAt (opsAt c0 p) n).op = .makeSlice t x x) (hx : evE E x = some (.int .i64 (m : Int)))
    (ht : P.underlying t = some (.slice e)) (hi : (P.info? e).map (fun i => (i.zero, i.size, i.bytes)) = some (some z, 1, by_)) (hz : z.cells = #[z]) (hc : m ≤ 1000000) (hb : by_ * m ≤ 281474976710656) (h63 : m ≤ maxLen)
    (k : ∀ b a w, K C ((d, .slice (some ⟨b, 0, none⟩) m m) :: E) (.row (.slice (some ⟨b, 0, none⟩) m m) e 1 (List.replicate m [z]) :: B) F h a w → Goal P c0 Q (.ops p (n + 1)) ks a w) : Goal P c0 Q (.ops p n) ks a w := by
  obtain ⟨o, r, hl, ho, hg, hd, hlt, hkn⟩ := goodOp_parts hk
  rw [ho] at hm
  have hr := drop_cons hl
  cases hI : P.info? e with
  | none => rw [hI] at hi; cases hi
  | some i =>
    rw [hI] at hi
    simp only [Option.map_some, Option.some.injEq, Prod.mk.injEq] at hi
    obtain ⟨i1, i2, i3⟩ := hi
    refine goal_unguard hl (gKnown_wanted hK.j.fits hg) (wpList_plain rfl fun KK hKK => ?_)
    unfold Oper.wp
    rw [run_ev (o := { o with guard := none }) hK.j.fits hkn]
    have hD : evD E x = .int .i64 (m : Int) := by
      have := ev_of (E := E) (x := x) (by rw [hx]; rfl)
      rw [hx] at this
      exact (Option.some.inj this).symm
    obtain ⟨w', h1, h2, h3⟩ := run_makeSlice_full (P := P) (w := w) w.heap.size t e i z 1 ht hI i1 i2 .i64 .i64 m (by omega) (by rw [i3]; exact hb) h63 (Nat.le_refl _)
    have hrun : (execOp (evD E) { o with guard := none }).run P w = .ok (.value (.slice (some ⟨w.heap.size, 0, none⟩) m m)) w' := by
      unfold execOp
      simp only [hm, hD]
      simp [h1, Result.andThen]
    rw [hrun]
    refine hKK _ _ ?_
    rw [hr]
    rw [hz, Nat.mul_one, toList_madeCells_one] at h2
    refine k w.heap.size _ _ ⟨(hK.j.addRow ⟨h3.os, h3.tape, h3.output, h3.size, fun q hq _ => h3.block q hq (by simp)⟩ ⟨?_, fun q hq => ?_⟩).putd _ hd hlt, hK.f⟩
    · rw [List.length_replicate, flat_one]; exact h2
    · rw [(List.mem_replicate.1 hq).2]; rfl
theorem made_flat (cs : List Value) (h0 : 0 < cs.length) (n : Nat) : (madeCells cs.toArray (n * cs.length)).toList = (List.replicate n cs).flatten := by
  induction n with
  | zero => simp [madeCells]
  | succ n ih =>
    rw [List.replicate_succ', List.flatten_append, ← ih]
    unfold madeCells
    rw [Nat.succ_mul]
    simp only [Array.toList_map, Array.toList_range, List.range_add, List.map_append, List.map_map, List.flatten_cons, List.flatten_nil, List.append_nil, List.size_toArray]
    congr 1
    refine List.ext_getElem? fun i => ?_
    rw [List.getElem?_map]
    rcases Nat.lt_or_ge i cs.length with h | h
    · rw [List.getElem?_range h]
      simp [Nat.mod_eq_of_lt h, h]
    · rw [List.getElem?_eq_none (by simpa using h), List.getElem?_eq_none h]; rfl
theorem x_makek (hK : K C E B F h a w) (d : Nat) {t e : TypeId} {z : Value} {cs : List Value} {x : Operand} {by_ m kk : Nat} (hk : goodOp C E (opsAt c0 p) n d = true) (hm : (opAt (opsAt c0 p) n).op = .makeSlice t x x) (hx : evE E x = some (.int .i64 (m : Int)))
    (ht : P.underlying t = some (.slice e)) (hi : (P.info? e).map (fun i => (i.zero, i.size, i.bytes)) = some (some z, kk, by_)) (hz : z.cells = cs.toArray) (hkk : cs.length = kk) (h0 : 0 < kk) (hc : m * kk ≤ 16777216) (hb : by_ * m ≤ 281474976710656) (h63 : m ≤ maxLen)
    (k : ∀ b a w, K C ((d, .slice (some ⟨b, 0, none⟩) m m) :: E) (.row (.slice (some ⟨b, 0, none⟩) m m) e kk (List.replicate m cs) :: B) F h a w → Goal P c0 Q (.ops p (n + 1)) ks a w) : Goal P c0 Q (.ops p n) ks a w := by
  obtain ⟨o, r, hl, ho, hg, hd, hlt, hkn⟩ := goodOp_parts hk
  rw [ho] at hm
  have hr := drop_cons hl
  cases hI : P.info? e with
  | none => rw [hI] at hi; cases hi
  | some i =>
    rw [hI] at hi
    simp only [Option.map_some, Option.some.injEq, Prod.mk.injEq] at hi
    obtain ⟨i1, i2, i3⟩ := hi
    refine goal_unguard hl (gKnown_wanted hK.j.fits hg) (wpList_plain rfl fun KK hKK => ?_)
    unfold Oper.wp
    rw [run_ev (o := { o with guard := none }) hK.j.fits hkn]
    have hD : evD E x = .int .i64 (m : Int) := by
      have := ev_of (E := E) (x := x) (by rw [hx]; rfl)
      rw [hx] at this
      exact (Option.some.inj this).symm
    obtain ⟨w', h1, h2, h3⟩ := run_makeSlice_full (P := P) (w := w) w.heap.size t e i z kk ht hI i1 i2 .i64 .i64 m hc (by rw [i3]; exact hb) h63 (Nat.le_refl _)
    have hrun : (execOp (evD E) { o with guard := none }).run P w = .ok (.value (.slice (some ⟨w.heap.size, 0, none⟩) m m)) w' := by
      unfold execOp
      simp only [hm, hD]
      simp [h1, Result.andThen]
    rw [hrun]
    refine hKK _ _ ?_
    rw [hr]
    subst hkk
    rw [hz, made_flat cs h0] at h2
    refine k w.heap.size _ _ ⟨(hK.j.addRow ⟨h3.os, h3.tape, h3.output, h3.size, fun q hq _ => h3.block q hq (by simp)⟩ ⟨?_, fun q hq => ?_⟩).putd _ hd hlt, hK.f⟩
    · rw [List.length_replicate]; exact h2
    · rw [(List.mem_replicate.1 hq).2]
end

end Go.Proofs.Ythgcgciceejicaa
