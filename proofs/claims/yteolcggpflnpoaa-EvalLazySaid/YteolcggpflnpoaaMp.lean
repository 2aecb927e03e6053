/-
  A walk by certificates: maps that the call makes, and maps that are known.
-/
import Derived.Test.YteolcggpflnpoaaRr
import Derived.MapKept
import Derived.Carry
namespace Go.Proofs.Yteolcggpflnpoaa
open Go.RowKit
open Go.ChangeMaps Go.MapKept

section
variable {P : Program} {C : Fx} {c0 : Code} {Q : Exit → Act → World → Prop} {h h0 : Vw} {a : Act} {w w' : World} {p : List Nat} {n : Nat} {ks : List Kt} {E : List (Nat × Value)} {B : List Ent} {F : List Fac} {d : Nat}

/-- Block b holds the map of the pairs es. -/
structure MapAt (h : Vw) (b : Nat) (es : List (Value × Value)) : Prop where
  ok : b ∉ h.bad
  lies : h.w.heap[b]? = some (mapObj es)
theorem MapAt.lt {b : Nat} {es : List (Value × Value)} (k : MapAt h b es) : b < h.w.heap.size := (Array.getElem?_eq_some_iff.1 k.lies).1
theorem MapAt.sees {h' : Vw} {b : Nat} {es : List (Value × Value)} (k : MapAt h b es) (s : Sees h h') : MapAt h' b es :=
  ⟨fun g => k.ok (s.bad b g k.lt), (s.block b k.lt k.ok).trans k.lies⟩

/-- What is found of the key k. -/
def mfind (td : TypeDesc) (k : Value) (es : List (Value × Value)) : Option (Option (Nat × Value)) := Instr.findNow td k (ments es) 0
def keyOk (td : TypeDesc) (k : Value) : Bool := match td, k with
  | .int a, .int b _ => decide (a = b)
  | .string, .string _ => true
  | _, _ => false
def lookV (c : Bool) (r : Option (Nat × Value)) (z : Value) : Value := match c, r with
  | true, some x => .tuple #[x.2, .bool true]
  | true, none => .tuple #[z, .bool false]
  | false, some x => x.2
  | false, none => z

theorem isKey_of {td : TypeDesc} {k : Value} (h : keyOk td k = true) : IsKey td k := by
  cases td <;> cases k <;> simp_all [keyOk, IsKey]

theorem run_lookup_at {b : Nat} {es : List (Value × Value)} {t kt et : TypeId} {td : TypeDesc} {k z : Value} {c : Bool} {r : Option (Nat × Value)} (hb : w.heap[b]? = some (mapObj es)) (ht : P.underlying t = some (.map kt et)) (htd : P.underlying kt = some td) (hs : keyOk td k = true)
    (hf : mfind td k es = some r) (hz : ∀ w, (zeroValue et).run P w = .ok z w) : (Instr.lookup t (.map (some b)) k c).run P w = .ok (lookV c r z) w := by
  unfold mapObj at hb
  unfold Instr.lookup
  simp only [Sem.run_bind, run_underlying ht, Result.andThen, Go.MapKept.run_getObj_map hb, Sem.run_pure, Go.MapKept.run_checkKey htd (isKey_of hs), Go.MapKept.run_findKey htd (show Instr.findNow td k (ments es).toArray.toList 0 = some r from hf)]
  cases r with
  | none => cases c <;> simp [hz, Result.andThen, lookV]
  | some x => cases c <;> simp [lookV]

theorem ments_push (es : List (Value × Value)) (k v : Value) : ((ments es).toArray.push { key := k, val := v, born := es.length }) = (ments (es ++ [(k, v)])).toArray := by
  unfold ments
  rw [List.zipIdx_append, List.map_append]
  simp
theorem run_update_at {b : Nat} {es : List (Value × Value)} {t kt et : TypeId} {td : TypeDesc} {k v : Value} (hb : w.heap[b]? = some (mapObj es)) (ht : P.underlying t = some (.map kt et)) (htd : P.underlying kt = some td) (hs : keyOk td k = true)
    (hf : mfind td k es = some none) : (Instr.mapUpdate t (.map (some b)) k v).run P w = .ok () { w with heap := w.heap.setIfInBounds b (mapObj (es ++ [(k, v)])) } := by
  unfold mapObj at hb ⊢
  unfold Instr.mapUpdate
  simp only [Sem.run_bind, run_underlying ht, Result.andThen, Go.MapKept.run_getObj_map hb, Go.MapKept.run_checkKey htd (isKey_of hs), Go.MapKept.run_findKey htd (show Instr.findNow td k (ments es).toArray.toList 0 = some none from hf), Go.MapKept.run_setObj_map _ hb, ments_push]
  simp

/-- A new map of the call's own. -/
theorem J.newMap (hJ : J C E B h a w) : J C E (.map w.heap.size [] :: B) h a (w.alloc (.map #[] 0)) := by
  have hl : Low [] w (w.alloc (.map #[] 0)) := Low.of_below ((Below.refl _ _).alloc (Nat.le_refl _) _)
  have hg := hJ.grow hl
  refine ⟨hJ.fits, hJ.size, hJ.defers, hg.low, ⟨hg.sees.size, hg.sees.block, fun b hb hlt => ?_⟩, fun e he => ?_, ?_, fun b hb => ?_, hJ.badlt⟩
  · have hs := hJ.sees.size
    rcases List.mem_cons.1 hb with rfl | hb
    · exact absurd hlt (by simp only at hs; omega)
    · exact hg.sees.bad b hb hlt
  · rcases List.mem_cons.1 he with rfl | he
    · exact (Go.MapKept.heap_alloc w _).1
    · exact hg.ents e he
  · show (w.heap.size :: blk B).Nodup
    refine List.nodup_cons.2 ⟨fun hm => ?_, hJ.nodup⟩
    have := blk_lt hJ _ hm; omega
  · rcases List.mem_cons.1 hb with rfl | hb
    · exact .inl hJ.low.size
    · exact hJ.own b hb

def makeMapOp : Op → Bool
  | .makeMap _ none => true
  | _ => false
theorem goodOp_parts (hk : goodOp C E (opsAt c0 p) n d = true) : ∃ o r, (opsAt c0 p).toList.drop n = o :: r ∧ opAt (opsAt c0 p) n = o ∧ gKnown E (opsAt c0 p) o = some true ∧ o.dst = some d ∧ d < C.N ∧ opsKnown E o = true := by
  unfold goodOp at hk
  split at hk
  · rename_i o r hl
    simp only [Bool.and_eq_true] at hk
    obtain ⟨⟨⟨k1, k2⟩, k3⟩, k4⟩ := hk
    refine ⟨o, r, hl, drop_opAt hl, ?_, ?_, by simpa [Nat.blt_eq] using k3, k4⟩
    · split at k1
      · assumption
      · cases k1
    · split at k2
      · rename_i x e; rw [e, Nat.eq_of_beq_eq_true k2]
      · cases k2
  · cases hk
theorem x_mapmake (hK : K C E B F h a w) (d : Nat) (hk : goodOp C E (opsAt c0 p) n d = true) (hm : makeMapOp (opAt (opsAt c0 p) n).op = true) (k : ∀ b a w, K C ((d, .map (some b)) :: E) (.map b [] :: B) F h a w → Goal P c0 Q (.ops p (n + 1)) ks a w) : Goal P c0 Q (.ops p n) ks a w := by
  obtain ⟨o, r, hl, ho, hg, hd, hlt, hkn⟩ := goodOp_parts hk
  rw [ho] at hm
  have hr := drop_cons hl
  obtain ⟨t, e⟩ : ∃ t, o.op = .makeMap t none := by
    unfold makeMapOp at hm
    split at hm
    · rename_i t e; exact ⟨t, e⟩
    · cases hm
  refine goal_unguard hl (gKnown_wanted hK.j.fits hg) (wpList_plain rfl fun KK hKK => ?_)
  unfold Oper.wp
  rw [run_ev (o := { o with guard := none }) hK.j.fits hkn]
  have hrun : (execOp (evD E) { o with guard := none }).run P w = .ok (.value (.map (some w.heap.size))) (w.alloc (.map #[] 0)) := by
    unfold execOp
    simp only [e]
    simp [run_makeMap, Result.andThen]
  rw [hrun]
  refine hKK _ _ ?_
  rw [hr]
  exact k w.heap.size _ _ ⟨hK.j.newMap.putd _ hd hlt, hK.f⟩

/-- A store of a pair with a new key. -/
def setOp : Op → Option (TypeId × Operand × Operand × Operand)
  | .mapUpdate t m k v => some (t, m, k, v)
  | .insert t m k v => some (t, m, k, v)
  | _ => none
def goodOp0 (E : List (Nat × Value)) (ops : Array Oper) (n : Nat) : Bool :=
  match ops.toList.drop n with
  | o :: _ => (match gKnown E ops o with | some true => true | _ => false) && o.dst.isNone && opsKnown E o
  | [] => false
theorem J.setMap (hJ : J C E B h a w) {i b : Nat} {es es' : List (Value × Value)} (hB : B[i]? = some (.map b es)) : J C E (B.set i (.map b es')) h a { w with heap := w.heap.setIfInBounds b (mapObj es') } := by
  have hi := (List.getElem?_eq_some_iff.1 hB).1
  have hb : w.heap[b]? = some (mapObj es) := hJ.ents _ (List.mem_of_getElem? hB)
  have e1 : B = B.take i ++ .map b es :: B.drop (i + 1) := by
    have := List.set_eq_take_append_cons_drop (l := B) (i := i) (a := .map b es)
    rw [if_pos hi] at this
    rw [← this]
    refine (List.ext_getElem? fun j => ?_)
    rw [List.getElem?_set]
    split
    · subst_vars; rw [hB]
    · rfl
  have := List.set_eq_take_append_cons_drop (l := B) (i := i) (a := .map b es')
  rw [if_pos hi] at this
  rw [this]
  exact hJ.setE (x := .map b es) (x' := .map b es') (b := b) rfl rfl e1 ⟨rfl, rfl, rfl, by simp⟩ (Go.MapKept.heap_set hb).2 (Go.MapKept.heap_set hb).1
theorem x_mapset (hK : K C E B F h a w) (i : Nat) {b : Nat} {es : List (Value × Value)} {t kt et : TypeId} {td : TypeDesc} {mo ko vo : Operand} {key v : Value} (hk : goodOp0 E (opsAt c0 p) n = true) (hop : setOp (opAt (opsAt c0 p) n).op = some (t, mo, ko, vo)) (hB : B[i]? = some (.map b es))
    (hm : evE E mo = some (.map (some b))) (hkey : evE E ko = some key) (hv : evE E vo = some v) (ht : P.underlying t = some (.map kt et)) (htd : P.underlying kt = some td) (hs : keyOk td key = true) (hf : mfind td key es = some none)
    (k : ∀ a w, K C E (B.set i (.map b (es ++ [(key, v)]))) F h a w → Goal P c0 Q (.ops p (n + 1)) ks a w) : Goal P c0 Q (.ops p n) ks a w := by
  unfold goodOp0 at hk
  split at hk
  · rename_i o r hl
    simp only [Bool.and_eq_true] at hk
    obtain ⟨⟨k1, k2⟩, k3⟩ := hk
    have hg : gKnown E (opsAt c0 p) o = some true := by
      split at k1
      · assumption
      · cases k1
    have hr := drop_cons hl
    rw [drop_opAt hl] at hop
    refine goal_unguard hl (gKnown_wanted hK.j.fits hg) (wpList_plain rfl fun KK hKK => ?_)
    unfold Oper.wp
    rw [run_ev (o := { o with guard := none }) hK.j.fits k3]
    have hb : w.heap[b]? = some (mapObj es) := hK.j.ents _ (List.mem_of_getElem? hB)
    have e1 : evD E mo = .map (some b) := by simp [evD, hm]
    have e2 : evD E ko = key := by simp [evD, hkey]
    have e3 : evD E vo = v := by simp [evD, hv]
    have hu := run_update_at (P := P) (v := v) hb ht htd hs hf
    have hrun : (execOp (evD E) { o with guard := none }).run P w = .ok .skip { w with heap := w.heap.setIfInBounds b (mapObj (es ++ [(key, v)])) } := by
      unfold execOp
      unfold setOp at hop
      split at hop
      · rename_i e
        simp only [Option.some.injEq, Prod.mk.injEq] at hop
        obtain ⟨rfl, rfl, rfl, rfl⟩ := hop
        simp only [e, e1, e2, e3]
        simp [hu, Result.andThen]
      · rename_i e
        simp only [Option.some.injEq, Prod.mk.injEq] at hop
        obtain ⟨rfl, rfl, rfl, rfl⟩ := hop
        simp only [e, e1, e2, e3]
        simp [hu, Result.andThen]
      · cases hop
    rw [hrun]
    refine hKK _ _ ?_
    rw [hr]
    have hd : a.put ({ o with guard := none } : Oper).dst undef = a := by
      show a.put o.dst undef = a
      rw [show o.dst = none by simpa using k2]; rfl
    rw [hd]
    exact k _ _ ⟨hK.j.setMap (es' := es ++ [(key, v)]) hB, hK.f⟩
  · cases hk

/-- A look into a map. -/
def lookOp : Op → Option (TypeId × Operand × Operand × Bool)
  | .lookup t m k c => some (t, m, k, c)
  | _ => none
theorem x_mapget (hK : K C E B F h a w) (d : Nat) {b : Nat} {es : List (Value × Value)} {t kt et : TypeId} {td : TypeDesc} {mo ko : Operand} {key z v : Value} {c : Bool} {r : Option (Nat × Value)} (hk : goodOp C E (opsAt c0 p) n d = true) (hop : lookOp (opAt (opsAt c0 p) n).op = some (t, mo, ko, c))
    (hb : w.heap[b]? = some (mapObj es)) (hm : evE E mo = some (.map (some b))) (hkey : evE E ko = some key) (ht : P.underlying t = some (.map kt et)) (htd : P.underlying kt = some td) (hs : keyOk td key = true) (hf : mfind td key es = some r)
    (hz : ∀ w, (zeroValue et).run P w = .ok z w) (hv : lookV c r z = v) (k : ∀ a w, K C ((d, v) :: E) B F h a w → Goal P c0 Q (.ops p (n + 1)) ks a w) : Goal P c0 Q (.ops p n) ks a w := by
  obtain ⟨o, rr, hl, ho, hg, hd, hlt, hkn⟩ := goodOp_parts hk
  rw [ho] at hop
  have hr := drop_cons hl
  have e1 : evD E mo = .map (some b) := by simp [evD, hm]
  have e2 : evD E ko = key := by simp [evD, hkey]
  refine goal_unguard hl (gKnown_wanted hK.j.fits hg) (wpList_plain rfl fun KK hKK => ?_)
  unfold Oper.wp
  rw [run_ev (o := { o with guard := none }) hK.j.fits hkn]
  have hrun : (execOp (evD E) { o with guard := none }).run P w = .ok (.value v) w := by
    unfold execOp
    unfold lookOp at hop
    split at hop
    · rename_i e
      simp only [Option.some.injEq, Prod.mk.injEq] at hop
      obtain ⟨rfl, rfl, rfl, rfl⟩ := hop
      simp only [e, e1, e2]
      simp [run_lookup_at (c := _) hb ht htd hs hf hz, Result.andThen, hv]
    · cases hop
  rw [hrun]
  refine hKK _ _ ?_
  rw [hr]
  exact k _ _ ⟨hK.j.putd _ hd hlt, hK.f⟩
theorem K.map (hK : K C E B F h a w) (i : Nat) {b : Nat} {es : List (Value × Value)} (hB : B[i]? = some (.map b es)) : w.heap[b]? = some (mapObj es) := hK.j.ents _ (List.mem_of_getElem? hB)
theorem MapAt.now {b : Nat} {es : List (Value × Value)} (m : MapAt h b es) (hK : K C E B F h a w) : w.heap[b]? = some (mapObj es) := (m.sees hK.j.sees).lies
/-- A map of the call's own that is not written any more. -/
theorem K.mapOut (hK : K C E B F h a w) (i : Nat) {b : Nat} {es : List (Value × Value)} (hB : B[i]? = some (.map b es)) (hC : C.wr = []) : MapAt ⟨w, C.bad0⟩ b es := by
  have hm := List.mem_of_getElem? hB
  refine ⟨fun hb => ?_, hK.j.ents _ hm⟩
  rcases hK.j.own b (List.mem_flatMap.2 ⟨_, hm, by simp [Ent.blocks]⟩) with g | g
  · have := hK.j.badlt b hb; omega
  · rw [hC] at g; cases g

/-! ### Finding -/
theorem mfind_nil (td : TypeDesc) (k : Value) : mfind td k [] = some none := rfl
theorem findNow_shift {td : TypeDesc} {k : Value} : ∀ (l : List MapEntry) (i : Nat), (Instr.findNow td k l i).map (Option.map (·.2)) = (Instr.findNow td k l 0).map (Option.map (·.2))
  | [], i => rfl
  | e :: l, i => by
    unfold Instr.findNow
    split
    · rfl
    · rw [findNow_shift l (i + 1), findNow_shift l (0 + 1)]
    · rfl
/-- The value of a string key. -/
def sget (s : ByteArray) : List (ByteArray × Value) → Option Value
  | [] => none
  | (k, v) :: l => if s == k then some v else sget s l
abbrev strEs (l : List (ByteArray × Value)) : List (Value × Value) := l.map fun p => (.string p.1, p.2)
theorem find_str (s : ByteArray) : ∀ (l : List (ByteArray × Value)) (i j : Nat), (Instr.findNow .string (.string s) (((strEs l).zipIdx j).map fun p => ⟨p.1.1, p.1.2, p.2⟩) i).map (Option.map (·.2)) = some (sget s l)
  | [], i, j => rfl
  | (k, v) :: l, i, j => by
    simp only [strEs, List.map_cons, List.zipIdx_cons]
    unfold Instr.findNow
    have hsn : Instr.sameNow .string (.string s) (.string k) = some (s == k) := rfl
    simp only [hsn]
    unfold sget
    cases hsk : s == k with
    | true => rfl
    | false => simp only [Bool.false_eq_true, if_false]; exact find_str s l (i + 1) (j + 1)
theorem mfind_str (s : ByteArray) (l : List (ByteArray × Value)) : ∃ r, mfind .string (.string s) (strEs l) = some r ∧ r.map (·.2) = sget s l := by
  have := find_str s l 0 0
  unfold mfind ments
  cases h : Instr.findNow .string (.string s) (((strEs l).zipIdx).map fun p => ⟨p.1.1, p.1.2, p.2⟩) 0 with
  | none => rw [h] at this; cases this
  | some r => rw [h] at this; exact ⟨r, rfl, by simpa using this⟩
theorem mfind_some {s : ByteArray} {l : List (ByteArray × Value)} {v : Value} (h : sget s l = some v) : ∃ i, mfind .string (.string s) (strEs l) = some (some (i, v)) := by
  obtain ⟨r, h1, h2⟩ := mfind_str s l
  rw [h] at h2
  obtain ⟨⟨i, u⟩, e, e2⟩ := Option.map_eq_some_iff.1 h2
  subst e2
  exact ⟨i, by rw [h1, e]⟩
theorem mfind_none {s : ByteArray} {l : List (ByteArray × Value)} (h : sget s l = none) : mfind .string (.string s) (strEs l) = some none := by
  obtain ⟨r, h1, h2⟩ := mfind_str s l
  rw [h] at h2
  rw [h1, Option.map_eq_none_iff.1 h2]
end

end Go.Proofs.Yteolcggpflnpoaa
