/-
  The iterator of a formula's fields: names.refs, and its closures. A store into a map whose keys are strings. A store into a map inside a range over a function.
-/
import Derived.Test.YthgcgciceejicaaNmP
import Derived.RangeFuncNested
import Derived.RangeFuncBound
import Derived.RangeFuncCalls
import Derived.RangeFuncLeaves
import Derived.RangeFuncBox
import Derived.Shelf.Abstract
import Derived.WalkKit
import Derived.OwnWalkIn
import Derived.TacticsInMore
import Derived.LoopNIn
import Derived.LoopIn
import Derived.Laws.EntriesVeiled
import Derived.Test.YthgcgciceejicaaSx
import Derived.Maps.OwnIn
namespace Go.Proofs.Ythgcgciceejicaa
open Go.RowKit Go.Shelf

attribute [local go_sem] Oper.semAt_some

/-- Whatever is cells lies as it lay. -/
structure KeepsCells (W W' : World) : Prop where
  size : W.heap.size ≤ W'.heap.size
  same : ∀ (k : Nat) (o : Obj), W.heap[k]? = some o → o.isCells = true → W'.heap[k]? = some o
theorem KeepsCells.refl (W : World) : KeepsCells W W := ⟨Nat.le_refl _, fun _ _ h _ => h⟩
theorem KeepsCells.trans {A B C : World} (h : KeepsCells A B) (k : KeepsCells B C) : KeepsCells A C := ⟨Nat.le_trans h.size k.size, fun i o hi ho => k.same i o (h.same i o hi ho) ho⟩
theorem KeepsCells.grown {W W' : World} {row : Option Nat} (hg : W.grownBy W' row) (hr : ∀ r, row = some r → ∃ o : Obj, W.heap[r]? = some o ∧ o.isCells = false) : KeepsCells W W' :=
  ⟨hg.size, fun k o hk ho => (hg.block k (Array.getElem?_eq_some_iff.1 hk).1 (fun e => by
    obtain ⟨o', h1, h2⟩ := hr k e.symm
    rw [hk] at h1
    simp only [Option.some.injEq] at h1
    subst h1
    rw [ho] at h2; cases h2)).trans hk⟩
theorem KeepsCells.alloc (W : World) (o : Obj) : KeepsCells W (W.alloc o) := .grown (World.grownBy_alloc W o none) (fun r e => by cases e)
theorem KeepsCells.boxed {W W' : World} (h : KeepsCells W W') {b : Nat} {t : TypeId} {v : Value} (hb : Boxed W b t v) : Boxed W' b t v := h.same b _ hb rfl
theorem KeepsCells.cell {W W' : World} (h : KeepsCells W W') {a : Addr} {v : Value} (hc : W.cell? a = some v) : W'.cell? a = some v := by
  unfold World.cell? at hc ⊢
  cases ho : W.heap[a.block]? with
  | none => rw [ho] at hc; cases hc
  | some o =>
    rw [ho] at hc
    cases o with
    | cells cs t f => rw [h.same _ _ ho rfl]; exact hc
    | _ => cases hc
/-- What lay below n, and all cells, lie as they lay. -/
structure Kp (n : Nat) (W W' : World) : Prop where
  below : Below n W W'
  cells : KeepsCells W W'
theorem Kp.refl (n : Nat) (W : World) : Kp n W W := ⟨Below.refl _ _, KeepsCells.refl _⟩
theorem Kp.trans {n : Nat} {A B C : World} (h : Kp n A B) (k : Kp n B C) : Kp n A C := ⟨h.below.trans k.below, h.cells.trans k.cells⟩
theorem Kp.alloc {n : Nat} {W : World} (hn : n ≤ W.heap.size) (o : Obj) : Kp n W (W.alloc o) := ⟨(Below.refl _ _).alloc hn _, KeepsCells.alloc _ _⟩
theorem kp_t {n : Nat} {A B C : World} (h : Kp n A B) (k : Kp n B C) : Kp n A C := h.trans k
theorem kp_b {n : Nat} {w : World} (hn : n ≤ w.heap.size) (W : World) (l : Nat) (o o' : Obj) (hl : w.heap.size ≤ l) (h : W.heap[l]? = some o) (hc : o.isCells = false) (hw : o.isWalk = false) : Kp n W (W.putObj l o') :=
  ⟨belowK_b hn W l o o' hl h hc hw, .grown (grownBy_putObj' W l o') (fun r e => by cases e; exact ⟨o, h, hc⟩)⟩
theorem sees_below {h : Vw} {W : World} (hb : Below h.w.heap.size h.w W) : Sees h ⟨W, h.bad⟩ := ⟨hb.size, fun b hlt _ => hb.block b hlt, fun _ hb _ => hb⟩
theorem grown_none {W W' : World} (hb : Below W.heap.size W W') : W.grownBy W' none := ⟨hb.os, hb.tape, hb.output, hb.size, fun k hk _ => hb.block k hk⟩

theorem room_of_none {F : Fence} (hd : F.depth = none) (k : Nat) : F.room k := fun d h => by rw [hd] at h; cases h
theorem RoundIn.anyDepth {F : Fence} (hd : F.depth = none) {m m' : Nat} {P : Program} {l : Nat} {f : FuncId} {tmps : Array Value} {assign body : Code} {w : World} {R : Ending → World → Prop}
    (h : RoundIn F m P l f tmps assign body w R) : RoundIn F m' P l f tmps assign body w R := ⟨h.1, fun c cs _ => h.2 c cs (room_of_none hd _)⟩
theorem YieldAt.anyDepth {F : Fence} (hd : F.depth = none) {m : Nat} (m' : Nat) {P : Program} {l : Nat} {args : Array Value} {W : World} {R : Ending → World → Prop} (h : YieldAt F m P l args W R) : YieldAt F m' P l args W R := by
  obtain ⟨fn, tmps, assign, body, hy, hR⟩ := h
  exact ⟨fn, tmps, assign, body, hy, RoundIn.anyDepth hd hR⟩

theorem wide_depth (k : Nat) : Fence.wide.depth.isSome = true → 1 ≤ k := fun h => by
  have e : Fence.wide.depth = none := rfl
  rw [e] at h; cases h
/-- What a walk of a formula's fields ends in. -/
def WalkPost (n₀ : Nat) (J Jx : List ByteArray → World → Prop) (pre r : List ByteArray) (W : World) (e : Ending) (W' : World) : Prop :=
  (e = .returned (.bool true) ∧ J (pre ++ r) W' ∧ Kp n₀ W W') ∨ (e = .returned (.bool false) ∧ ∃ q, q <+: r ∧ Jx (pre ++ q) W')
def YieldPost (n₀ : Nat) (J Jx : List ByteArray → World → Prop) (pre : List ByteArray) (s : ByteArray) (W : World) (e : Ending) (W' : World) : Prop :=
  (e = .returned (.bool true) ∧ J (pre ++ [s]) W' ∧ Kp n₀ W W') ∨ (e = .returned (.bool false) ∧ Jx (pre ++ [s]) W')
end Go.Proofs.Ythgcgciceejicaa

namespace Go.Proofs.Ythgcgciceejicaa
open Go.RowKit

/-! ### A store into a map whose keys are strings -/
def sidx (s : ByteArray) : List (ByteArray × Value) → Option Nat
  | [] => none
  | (k, _) :: l => if s == k then some 0 else (sidx s l).map (· + 1)
theorem sidx_none {s : ByteArray} : ∀ {l : List (ByteArray × Value)}, sidx s l = none → sget s l = none
  | [], _ => rfl
  | (k, v) :: l, h => by
    unfold sidx at h
    unfold sget
    split at h
    · cases h
    · rename_i g
      rw [if_neg g]
      exact sidx_none (by simpa using h)
theorem sidx_some {s : ByteArray} : ∀ {l : List (ByteArray × Value)} {j : Nat}, sidx s l = some j → ∃ u, l[j]? = some (s, u) ∧ (∀ i z, Instr.findNow .string (.string s) (((strEs l).zipIdx z).map fun p => ⟨p.1.1, p.1.2, p.2⟩) i = some (some (i + j, u))) ∧
    ∀ v t, sget t (l.set j (s, v)) = if t = s then some v else sget t l
  | [], j, h => by cases h
  | (k, u) :: l, j, h => by
    unfold sidx at h
    split at h
    · rename_i g
      simp only [Option.some.injEq] at h
      subst h
      obtain rfl := (Go.MapKept.bytes_beq s k).1 g
      refine ⟨u, rfl, fun i z => ?_, fun v t => ?_⟩
      · simp only [strEs, List.map_cons, List.zipIdx_cons]
        unfold Instr.findNow
        have hsn : Instr.sameNow .string (.string s) (.string s) = some (s == s) := rfl
        simp only [hsn, g, Nat.add_zero]
      · rw [List.set_cons_zero]
        unfold sget
        by_cases e : t = s
        · rw [if_pos e, if_pos (by rw [e]; exact g)]
        · rw [if_neg e, if_neg (fun q => e ((Go.MapKept.bytes_beq t s).1 q)), if_neg (fun q => e ((Go.MapKept.bytes_beq t s).1 q))]
    · rename_i g
      obtain ⟨j', hj, rfl⟩ := Option.map_eq_some_iff.1 h
      obtain ⟨u', h1, h2, h3⟩ := sidx_some hj
      refine ⟨u', by simpa using h1, fun i z => ?_, fun v t => ?_⟩
      · simp only [strEs, List.map_cons, List.zipIdx_cons]
        unfold Instr.findNow
        have hsn : Instr.sameNow .string (.string s) (.string k) = some (s == k) := rfl
        simp only [hsn, g]
        rw [show i + (j' + 1) = i + 1 + j' by omega]
        exact h2 (i + 1) (z + 1)
      · rw [List.set_cons_succ]
        unfold sget
        rw [h3 v t]
        by_cases e : t = s
        · subst e; rw [if_neg g, if_pos rfl, if_pos rfl]
        · rw [if_neg e, if_neg e]
theorem sget_snoc {s t : ByteArray} {v : Value} : ∀ {l : List (ByteArray × Value)}, sget s l = none → sget t (l ++ [(s, v)]) = if t = s then some v else sget t l
  | [], _ => by
    show (if t == s then some v else none) = _
    by_cases e : t = s
    · rw [if_pos e, if_pos ((Go.MapKept.bytes_beq t s).2 e)]
    · rw [if_neg e, if_neg (fun q => e ((Go.MapKept.bytes_beq t s).1 q))]; rfl
  | (k, u) :: l, h => by
    unfold sget at h
    split at h
    · cases h
    · rename_i g
      rw [List.cons_append]
      unfold sget
      rw [sget_snoc h]
      by_cases e : t = s
      · subst e; rw [if_neg g, if_pos rfl, if_pos rfl]
      · rw [if_neg e, if_neg e]
theorem sget_out {s : ByteArray} : ∀ {l : List (ByteArray × Value)}, sget s l = none → ∀ q ∈ l, q.1 ≠ s
  | (k, v) :: l, h, q, hq, e => by
    unfold sget at h
    split at h
    · cases h
    · rename_i g
      rcases List.mem_cons.1 hq with rfl | hq
      · exact g ((Go.MapKept.bytes_beq s k).2 e.symm)
      · exact sget_out h q hq e
theorem ments_get (es : List (Value × Value)) (i : Nat) : (ments es)[i]? = (es[i]?).map fun p => ⟨p.1, p.2, i⟩ := by
  unfold ments
  rw [List.getElem?_map, List.getElem?_zipIdx]
  cases es[i]? <;> simp
theorem run_update_str {P : Program} {w : World} {b : Nat} {l : List (ByteArray × Value)} {t kt et : TypeId} {s : ByteArray} {v : Value} (hb : w.heap[b]? = some (mapObj (strEs l))) (ht : P.underlying t = some (.map kt et)) (htd : P.underlying kt = some .string) :
    ∃ l', (Instr.mapUpdate t (.map (some b)) (.string s) v).run P w = .ok () { w with heap := w.heap.setIfInBounds b (mapObj (strEs l')) } ∧ (∀ t, sget t l' = if t = s then some v else sget t l) ∧ ((l.map (·.1)).Nodup → (l'.map (·.1)).Nodup) ∧ ∀ p ∈ l', p ∈ l ∨ p = (s, v) := by
  cases hs : sidx s l with
  | none =>
    have hn := sidx_none hs
    refine ⟨l ++ [(s, v)], ?_, fun t => sget_snoc hn, fun hd => ?_, fun p hp => (List.mem_append.1 hp).imp id List.mem_singleton.1⟩
    rotate_left
    · rw [List.map_append, List.nodup_append]
      refine ⟨hd, by simp, fun x hx y hy e => ?_⟩
      simp only [List.map_cons, List.map_nil, List.mem_singleton] at hy
      subst hy e
      obtain ⟨q, hq, e2⟩ := List.mem_map.1 hx
      exact sget_out hn q hq e2
    have := run_update_at (P := P) (v := v) hb ht htd (k := .string s) rfl (mfind_none hn)
    rw [this, show strEs (l ++ [(s, v)]) = strEs l ++ [(.string s, v)] by simp [strEs]]
  | some j =>
    obtain ⟨u, h1, h2, h3⟩ := sidx_some hs
    refine ⟨l.set j (s, v), ?_, h3 v, fun hd => ?_, fun p hp => List.mem_or_eq_of_mem_set hp⟩
    rotate_left
    · have : (l.set j (s, v)).map (·.1) = l.map (·.1) := by
        refine List.ext_getElem? fun i => ?_
        rw [List.getElem?_map, List.getElem?_map, List.getElem?_set]
        have hlt := (List.getElem?_eq_some_iff.1 h1).1
        by_cases e : j = i
        · subst e; rw [if_pos rfl, if_pos hlt, h1]; rfl
        · rw [if_neg e]
      rw [this]; exact hd
    have hf : Instr.findNow .string (.string s) (ments (strEs l)).toArray.toList 0 = some (some (j, u)) := by
      have := h2 0 0
      rw [Nat.zero_add] at this
      exact this
    have hj : (ments (strEs l)).toArray[j]? = some ⟨.string s, u, j⟩ := by
      rw [List.getElem?_toArray, ments_get, strEs, List.getElem?_map, h1]; rfl
    have hk : Go.MapKept.IsKey .string (.string s) := isKey_of rfl
    have hm : (ments (strEs l)).toArray.modify j (fun e => { e with key := .string s, val := v }) = (ments (strEs (l.set j (s, v)))).toArray := by
      apply Array.ext'
      rw [Array.toList_modify]
      refine List.ext_getElem? fun i => ?_
      show _ = (ments (strEs (l.set j (s, v))))[i]?
      rw [List.getElem?_modify, ments_get, ments_get, List.getElem?_map, List.getElem?_map, List.getElem?_set]
      have hlt := (List.getElem?_eq_some_iff.1 h1).1
      by_cases e : j = i
      · subst e; simp [hlt]
      · simp [e]
    unfold mapObj at hb ⊢
    unfold Instr.mapUpdate
    simp only [Sem.run_bind, run_underlying ht, Result.andThen, Go.MapKept.run_getObj_map hb, Go.MapKept.run_checkKey htd hk, Go.MapKept.run_findKey htd hf]
    simp only [hj, Option.map_some, Option.getD_some, Go.MapKept.run_keyThatStays hk, Go.MapKept.run_setObj_map _ hb]
    rw [hm]
    simp [strEs]

end Go.Proofs.Ythgcgciceejicaa

namespace Go.Proofs.Ythgcgciceejicaa
open Go.RowKit Go.Shelf

attribute [local go_sem] Oper.semAt_some

section
variable {F : Fence} {n : Nat} {P : Program} {w w' : World} {ops : Array Oper} {rest : List Oper} {o : Oper} {a : Act} {Q : Exit → Act → World → Prop}
/-- m[k] = v, at whatever is known of it. -/
theorem wpListIn_mapUpdate_at (hg : o.guard = none) (m x v : Operand) (t : TypeId) (hop : o.op = Op.mapUpdate t m x v) {b key val : Value} (hm : a.eval m = b) (hx : a.eval x = key) (hv : a.eval v = val) (hr : (Instr.mapUpdate t b key val).run P w = .ok () w')
    (hK : wpListIn F n P ops Q rest (a.put o.dst undef) w') : wpListIn F n P ops Q (o :: rest) a w := by
  refine wpListIn_plain hg fun K' hK' => ?_
  unfold Oper.wpIn
  refine ⟨by simp [Oper.about, hop], ?_⟩
  rw [Oper.semAt_plain F _ _ (by rw [hop]; intro c hc'; cases hc')]
  simp [execOp, hop, hm, hx, hv, hr, Result.andThen]
  exact hK' _ _ hK
end
theorem cells_own {A : World} {b : Nat} {o : Obj} (hb : A.heap[b]? = some o) (hc : o.isCells = true) {row : Option Nat} (hr : ∀ r, row = some r → ∃ o : Obj, A.heap[r]? = some o ∧ o.isCells = false) : some b ≠ row := fun e => by
  obtain ⟨o', h1, h2⟩ := hr _ e.symm
  rw [hb] at h1
  cases h1; rw [hc] at h2; cases h2
theorem grown_set {W : World} {M : Nat} {o : Obj} (o' : Obj) (hm : W.heap[M]? = some o) : W.grownBy { W with heap := W.heap.setIfInBounds M o' } (some M) :=
  ⟨rfl, rfl, rfl, by simp, fun k _ ne => (Go.MapKept.heap_set hm).2 k (fun e => ne (by rw [e]))⟩

end Go.Proofs.Ythgcgciceejicaa
