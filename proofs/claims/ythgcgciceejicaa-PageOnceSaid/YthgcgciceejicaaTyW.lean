/-
  typing.types: the types of fields, in a map; slices.Backward at fields.
-/
import Derived.Test.YthgcgciceejicaaNmW
import Derived.Test.YthgcgciceejicaaTyP
namespace Go.Proofs.Ythgcgciceejicaa
open Go.RowKit Go.Shelf

attribute [local go_sem] Oper.semAt_some

def zF : Fd := ⟨⟨#[]⟩, 0, 0, zE⟩
@[reducible] def fdVal (f : Fd) (v : Value) : Value := .agg #[.string f.name, .int .i64 f.kind, .int .i64 f.ty, .int .i64 f.src.op, .int .i64 f.src.k, .int .i64 f.src.n, .string f.src.s, .string f.src.nm, v]
/-- The last c of len places, from behind. -/
def dn (len c : Nat) : List Nat := (List.range c).map fun j => len - 1 - j
theorem dn_succ (len c : Nat) : dn len (c + 1) = dn len c ++ [len - 1 - c] := by simp [dn, List.range_succ]
theorem dn_len (len c : Nat) : (dn len c).length = c := by simp [dn]
def entF (fs : List Fd) (i : Nat) : ByteArray × Value := ((fs.getD i zF).name, .int .i64 (fs.getD i zF).ty)
theorem rows_sees {h : Vw} {W : World} {k : Nat} {v : Value} {l : List (List Value)} (hr : RS h k v l) (hb : Below h.w.heap.size h.w W) : RS ⟨W, h.bad⟩ k v l := hr.sees (sees_below hb)

set_option maxRecDepth 100000 in
set_option maxHeartbeats 2000000 in
theorem back_in (A : Option Addr) (len cap : Nat) (n : Nat) (W : World) :
    CallsIn Fence.wide n Try.prog 45 #[.slice A len cap] W fun e W' => e = .returned (.func (.func 48) #[] #[.pointer (some ⟨W.heap.size, 0, none⟩)]) ∧ W' = W.alloc (.cells #[.slice A len cap] 23) := by
  refine callsIn_of_wp Try.func45 rfl trivial ?_ rfl
  simp only [Try.ntmps45, List.size_toArray, List.length_cons, List.length_nil, Nat.reduceAdd, Nat.reduceSub, Array.replicate_succ, Array.replicate_zero, List.push_toArray, List.append_toArray, List.nil_append, List.cons_append]
  gi_wp2
  go_ret
  exact ⟨rfl, rfl⟩

set_option maxRecDepth 100000 in
set_option maxHeartbeats 4000000 in
theorem back_stops (fs : List Fd) (vs : List Value) (A : Option Addr) (cap : Nat) (h : Vw) (hr : RS h 9 (.slice A fs.length cap) (fdRows fs vs)) (hvl : vs.length = fs.length) (hsl : ∀ v ∈ vs, .slice (sA v) (sN v) (sC v) = v) (n bX : Nat) (w : World) (hb : Below h.w.heap.size h.w w) (hX : w.heap[bX]? = some (.cells #[.slice A fs.length cap] 23 (0, 0))) :
    SeqStopsK Fence.wide n Try.prog 48 #[.pointer (some ⟨bX, 0, none⟩)] (fun i : Nat => #[.int .i64 (i : Int), fdVal (fs.getD i zF) (.slice (sA (vs.getD i undef)) (sN (vs.getD i undef)) (sC (vs.getD i undef)))]) (Kp h.w.heap.size) (fun ys => ys = dn fs.length fs.length) (fun _ => True) fs.length w := fun l J Jx W hW hJ hJx hY h0 => by
  have hbW : Below h.w.heap.size h.w W := hb.trans (hW.mono hb.size)
  have hX' : W.heap[bX]? = some (.cells #[.slice A fs.length cap] 23 (0, 0)) := (hW.block bX (Array.getElem?_eq_some_iff.1 hX).1).trans hX
  have bX' : Boxed W bX 23 (.slice A fs.length cap) := hX'
  have cX := bX'.cell
  obtain ⟨A', cap', e, hc1, hc2, -⟩ := hr.form
  rw [fdRows_len hvl] at e hc1
  simp only [Value.slice.injEq] at e
  obtain ⟨rfl, -, rfl⟩ := e
  have HR := Lib.hid hr
  have HV := Lib.hid hvl
  have HS := Lib.hid hsl
  have HB := Lib.hid hbW
  have HY := Lib.hid hY
  have HX := Lib.hid bX'
  clear hr hvl hsl hbW hb hX hX' hW hY bX'
  unfold maxLen at hc2
  generalize hL : fs.length = len at *
  refine callsIn_of_wp Try.func48 rfl trivial ?_ rfl
  simp only [Try.ntmps48, List.size_toArray, List.length_cons, List.length_nil, Nat.reduceAdd, Nat.reduceSub, Array.replicate_succ, Array.replicate_zero, List.push_toArray, List.append_toArray, List.nil_append, List.cons_append]
  gi_wp2
  gi_loopw [3] (fun i wr => ∃ k : Nat, k ≤ len ∧ i = .int .i64 ((len : Int) - 1 - k) ∧ J (dn len k) wr ∧ Kp h.w.heap.size W wr) (fun i _ => (intOf i + 1).toNat)
  case atStart => exact ⟨0, Nat.zero_le _, by go_num, by simpa [dn] using h0, Kp.refl _ _⟩
  case round =>
    obtain ⟨k, hk, rfl, hjk, hkk⟩ := hrel
    by_cases hlt : k < len
    · obtain ⟨m, hm⟩ : ∃ m : Nat, len = m + 1 + k := ⟨len - 1 - k, by omega⟩
      have hi : (len : Int) - 1 - k = (m : Int) := by omega
      rw [hi]
      have hml : m < len := by omega
      obtain ⟨f, hf⟩ : ∃ f, fs[m]? = some f := ⟨_, List.getElem?_eq_getElem (by omega)⟩
      obtain ⟨u, hu⟩ : ∃ u, vs[m]? = some u := ⟨_, List.getElem?_eq_getElem (by have := HV.out; omega)⟩
      have hrow := fdRows_get hf hu
      have hrw := HR.out
      obtain ⟨b, off, e, -, hc⟩ := hrw.row hrow
      subst e
      have hbr := HB.out.trans hkk.below
      have hc := hc.sees (sees_below hbr)
      have c0 : wr.cell? ⟨b, off + m * 9, none⟩ = _ := hc.lies 0 _ rfl
      have c1 : wr.cell? ⟨b, off + m * 9 + 1, none⟩ = _ := hc.lies 1 _ rfl
      have c2 : wr.cell? ⟨b, off + m * 9 + 2, none⟩ = _ := hc.lies 2 _ rfl
      have c3 : wr.cell? ⟨b, off + m * 9 + 3, none⟩ = _ := hc.lies 3 _ rfl
      have c4 : wr.cell? ⟨b, off + m * 9 + 4, none⟩ = _ := hc.lies 4 _ rfl
      have c5 : wr.cell? ⟨b, off + m * 9 + 5, none⟩ = _ := hc.lies 5 _ rfl
      have c6 : wr.cell? ⟨b, off + m * 9 + 6, none⟩ = _ := hc.lies 6 _ rfl
      have c7 : wr.cell? ⟨b, off + m * 9 + 7, none⟩ = _ := hc.lies 7 _ rfl
      have c8 : wr.cell? ⟨b, off + m * 9 + 8, none⟩ = _ := hc.lies 8 _ rfl
      have cX := (hkk.cells.boxed HX.out).cell
      obtain ⟨fn, tmps, assign, body, hy, hRd⟩ := HY.out (dn len k) m wr hjk (by rw [dn_len]; omega)
      have hR2 := hRd.mono (R' := fun e W2 => (e = .returned (.bool true) ∧ J (dn len (k + 1)) W2 ∧ Kp h.w.heap.size W W2) ∨ (e = .returned (.bool false) ∧ Jx (dn len (k + 1)) W2))
        (fun e W2 q => by
          rw [dn_succ, show len - 1 - k = m by omega]
          exact q.elim (fun ⟨a, b, c⟩ => .inl ⟨a, b, hkk.trans c⟩) .inr)
      have e1 : fs.getD m zF = f := by rw [List.getD_eq_getElem?_getD, hf]; rfl
      have e2 : vs.getD m undef = u := by rw [List.getD_eq_getElem?_getD, hu]; rfl
      have e3 := HS.out u (List.mem_of_getElem? hu)
      rw [e1, e2, e3] at hy
      have HJ := Lib.hid hjk
      have HK := Lib.hid hkk
      have HM := Lib.hid hm
      clear hc hrow hrw hRd hjk hkk hf hu e1 e2 e3 hbr hi hm
      gi_wp2_with ((try refine ⟨wide_depth _, ?_⟩); refine hR2.mono ?_; clear hR2; rintro e W2 (⟨rfl, hJ2, hk2⟩ | ⟨rfl, hx2⟩))
      · go_roundw
        case rel => exact ⟨k + 1, by omega, by have := HM.out; go_num, hJ2, hk2⟩
        case measure => simp [intOf] <;> omega
      · (try simp only [Exit.inBlock, Exit.then]); refine bodyPost_ret (results_none rfl _ _ _) rfl ?_
        exact ⟨⟨_, rfl⟩, .inr ⟨_, trivial, hx2⟩⟩
    · obtain rfl : k = len := by omega
      have hi : (k : Int) - 1 - k = -1 := by omega
      rw [hi]
      clear hi
      gi_wp2
      go_end0
      exact ⟨⟨_, rfl⟩, .inl ⟨_, rfl, hjk⟩⟩

/-! ### typing.types -/
/-- What the last of the places pre that bear the name s says. -/
def lastT (fs : List Fd) (s : ByteArray) (pre : List Nat) : Option Value := pre.foldl (fun o i => if s = (fs.getD i zF).name then some (.int .i64 (fs.getD i zF).ty) else o) none
theorem lastT_snoc (fs : List Fd) (s : ByteArray) (pre : List Nat) (i : Nat) : lastT fs s (pre ++ [i]) = if s = (fs.getD i zF).name then some (.int .i64 (fs.getD i zF).ty) else lastT fs s pre := by
  unfold lastT
  rw [List.foldl_append]; rfl
theorem lastT_dn (fs : List Fd) (s : ByteArray) : ∀ c, c ≤ fs.length → lastT fs s (dn fs.length c) = (tyF (fs.drop (fs.length - c)) s).map (.int .i64)
  | 0, _ => by rw [Nat.sub_zero, List.drop_length]; rfl
  | c + 1, hc => by
    rw [dn_succ, lastT_snoc, lastT_dn fs s c (by omega)]
    obtain ⟨f, hf⟩ : ∃ f, fs[fs.length - 1 - c]? = some f := ⟨_, List.getElem?_eq_getElem (by omega)⟩
    have e1 : fs.getD (fs.length - 1 - c) zF = f := by rw [List.getD_eq_getElem?_getD, hf]; rfl
    have e2 : fs.drop (fs.length - (c + 1)) = f :: fs.drop (fs.length - c) := by
      obtain ⟨hlt, he⟩ := List.getElem?_eq_some_iff.1 hf
      rw [show fs.length - (c + 1) = fs.length - 1 - c by omega, List.drop_eq_getElem_cons hlt, he, show fs.length - 1 - c + 1 = fs.length - c by omega]
    rw [e1, e2]
    conv => rhs; unfold tyF
    by_cases e : s = f.name
    · rw [if_pos e, if_pos ((Go.MapKept.bytes_beq s f.name).2 e)]; rfl
    · rw [if_neg e, if_neg (fun q => e ((Go.MapKept.bytes_beq s f.name).1 q))]

set_option maxRecDepth 100000 in
set_option maxHeartbeats 4000000 in
theorem types_in (fs : List Fd) (vs : List Value) (A : Option Addr) (cap : Nat) (h : Vw) (hr : RS h 9 (.slice A fs.length cap) (fdRows fs vs)) (hvl : vs.length = fs.length) (hsl : ∀ v ∈ vs, .slice (sA v) (sN v) (sC v) = v) (n : Nat) (hn : 3 ≤ n) :
    CallsIn Fence.wide n Try.prog 39 #[.slice A fs.length cap] h.w (fun e W' => e = .returned (.map (some h.w.heap.size)) ∧ (∃ l, W'.heap[h.w.heap.size]? = some (mapObj (strEs l)) ∧ ∀ s, sget s l = (tyF fs s).map (.int .i64)) ∧ Below h.w.heap.size h.w W') := by
  have h1 : 1 ≤ n := by omega
  obtain ⟨M, hM⟩ : ∃ M, M = h.w.heap.size := ⟨_, rfl⟩
  obtain ⟨W1, hW1⟩ : ∃ W1, W1 = h.w.alloc (.map #[] 0) := ⟨_, rfl⟩
  obtain ⟨W2, hW2⟩ : ∃ W2, W2 = W1.alloc (.cells #[.map (some M)] 77) := ⟨_, rfl⟩
  obtain ⟨W3, hW3⟩ : ∃ W3, W3 = W2.alloc (.cells #[.slice A fs.length cap] 23) := ⟨_, rfl⟩
  have z1 : W1.heap.size = M + 1 := by rw [hW1, hM]; simp
  have z2 : W2.heap.size = M + 1 + 1 := by rw [hW2, World.size_alloc, z1]
  have z3 : W3.heap.size = M + 1 + 1 + 1 := by rw [hW3, World.size_alloc, z2]
  have m1 : W1.heap[M]? = some (mapObj (strEs [])) := by rw [hW1, hM]; exact (Go.MapKept.heap_alloc _ _).1
  have m2 : W2.heap[M]? = some (mapObj (strEs [])) := by rw [hW2]; exact ((Go.MapKept.heap_alloc _ _).2 _ (by omega)).trans m1
  have m3 : W3.heap[M]? = some (mapObj (strEs [])) := by rw [hW3]; exact ((Go.MapKept.heap_alloc _ _).2 _ (by omega)).trans m2
  have b2 : Boxed W2 (M + 1) 77 (.map (some M)) := by rw [hW2, ← z1]; exact Boxed.new _ _ _
  have b3 : Boxed W3 (M + 1) 77 (.map (some M)) := by rw [hW3]; exact b2.alloc _
  have x3 : W3.heap[M + 1 + 1]? = some (.cells #[.slice A fs.length cap] 23 (0, 0)) := by rw [hW3, ← z2]; exact World.alloc_heap_new _ _
  have hB3 : Below M h.w W3 := by
    rw [hW3, hW2, hW1, hM]
    exact (((Below.refl _ h.w).alloc (Nat.le_refl _) _).alloc (by simp) _).alloc (by simp; omega) _
  refine callsIn_of_wp_marks Try.func39 rfl trivial ?_ rfl
  simp only [Try.ntmps39, List.size_toArray, List.length_cons, List.length_nil, Nat.reduceAdd, Nat.reduceSub, Array.replicate_succ, Array.replicate_zero, List.push_toArray, List.append_toArray, List.nil_append, List.cons_append]
  have HR := Lib.hid hr
  have HV := Lib.hid hvl
  have HS := Lib.hid hsl
  have HX := Lib.hid x3
  have HM3 := Lib.hid m3
  have HB := Lib.hid hB3
  have HB3 := Lib.hid b3
  have HZ := Lib.hid z3
  clear hr hvl hsl x3 m1 m2 m3 b2 b3 hB3 z1 z2 z3
  rw [← hM]
  gi_wp2
  simp only [run_makeMap, Result.andThen, ← hM, ← hW1]
  gi_wp2_with ((try refine ⟨trivial, ?_⟩); (try refine ⟨wide_depth _, ?_⟩); gi_at_call 45; refine (back_in A fs.length cap (n - 1) _).mono ?_; rintro e w' ⟨rfl, rfl⟩)
  rw [← hM, ← hW1, ← hW2, ← hW3]
  clear hW1 hW2 hW3 W1 W2
  subst hM
  have hsz := HZ.out
  clear HZ
  refine wpIn_rangeFunc_ownH (α := Nat) rfl h1 (gf := 48) (lb := #[.pointer (some ⟨h.w.heap.size + 1 + 1, 0, none⟩)]) rfl trivial (enters_of Try.func48 (by kernel_rfl) rfl)
    (back_stops fs vs A cap h HR.out HV.out HS.out (n - 1) (h.w.heap.size + 1 + 1) W3 HB.out HX.out) kp_t (kp_b HB.out.size) (Below.refl _ _) (fun _ => rfl)
    (fun pre W => ((∃ l, W.heap[h.w.heap.size]? = some (mapObj (strEs l)) ∧ ∀ s, sget s l = lastT fs s pre) ∧ Boxed W (h.w.heap.size + 1) 77 (.map (some h.w.heap.size))) ∧ Below h.w.heap.size h.w W)
    (fun _ _ W => False ∧ Below h.w.heap.size h.w W)
    (OwnFrom.and (fun s A B row hs hg hr => ⟨by
        obtain ⟨l, h2, h3⟩ := hs.1
        exact ⟨l, (hg.block _ (Array.getElem?_eq_some_iff.1 h2).1 (fun e => by have := (hr _ e.symm).1; omega)).trans h2, h3⟩, hs.2.kept hg (cells_own hs.2 rfl (fun r e => (hr r e).2))⟩) (ownFrom_below (Nat.le_refl _) (by omega)))
    (fun c => OwnFrom.and (fun s A B row hs hg hr => hs) (ownFrom_below (Nat.le_refl _) (by omega)))
    ⟨⟨⟨[], HM3.out, fun _ => rfl⟩, HB3.out⟩, HB.out⟩
    (fun i a' W => ∃ b, W.heap[b]? = some (.cells (fdRow (fs.getD i zF) (.slice (sA (vs.getD i undef)) (sN (vs.getD i undef)) (sC (vs.getD i undef)))).toArray 52 (0, 0)) ∧ a' = { tmps := #[Value.slice A fs.length cap, undef, Value.map none, .pointer (some ⟨h.w.heap.size + 1, 0, none⟩), undef, .pointer (some ⟨b, 0, none⟩), .map (some h.w.heap.size), .slice A fs.length cap, .func (.func 48) #[] #[.pointer (some ⟨h.w.heap.size + 1 + 1, 0, none⟩)], .int .i64 (i : Int), fdVal (fs.getD i zF) (.slice (sA (vs.getD i undef)) (sN (vs.getD i undef)) (sC (vs.getD i undef))), undef, undef, undef, undef, undef, undef], defers := [] })
    (fun i a' s A B row hs hg hr => by
      obtain ⟨b, h2, h3⟩ := hs
      refine ⟨b, (hg.block _ (Array.getElem?_eq_some_iff.1 h2).1 (fun e => ?_)).trans h2, h3⟩
      obtain ⟨-, o, ho, hc⟩ := hr _ e.symm
      rw [h2] at ho; cases ho; cases hc) ?assign ?body ?done ?stop
  case assign =>
    intro l pre i W K hI hK
    have hk0 := Kp.alloc hI.2.size (.cells (fdRow (fs.getD i zF) (.slice (sA (vs.getD i undef)) (sN (vs.getD i undef)) (sC (vs.getD i undef)))).toArray 52)
    have hb0 := hI.2.trans hk0.below
    have hI2 := (hI.1.2.alloc (.cells (fdRow (fs.getD i zF) (.slice (sA (vs.getD i undef)) (sN (vs.getD i undef)) (sC (vs.getD i undef)))).toArray 52))
    have hm2 : (W.alloc (.cells (fdRow (fs.getD i zF) (.slice (sA (vs.getD i undef)) (sN (vs.getD i undef)) (sC (vs.getD i undef)))).toArray 52)).heap[h.w.heap.size]? = W.heap[h.w.heap.size]? := (Go.MapKept.heap_alloc W _).2 _ (by
      obtain ⟨l, h2, -⟩ := hI.1.1
      exact (Array.getElem?_eq_some_iff.1 h2).1)
    have hx2 := World.alloc_heap_new W (.cells (fdRow (fs.getD i zF) (.slice (sA (vs.getD i undef)) (sN (vs.getD i undef)) (sC (vs.getD i undef)))).toArray 52)
    have HK := hK _ _ ((KeepsOthers.alloc W (.cells (fdRow (fs.getD i zF) (.slice (sA (vs.getD i undef)) (sN (vs.getD i undef)) (sC (vs.getD i undef)))).toArray 52)).from _) hk0 ⟨⟨by rw [hm2]; exact hI.1.1, hI2⟩, hb0⟩ ⟨_, hx2, rfl⟩
    clear hK hI hk0 hb0 hI2 hm2 hx2
    generalize fs.getD i zF = f at *
    generalize vs.getD i undef = u at *
    gi_wp2
    exact HK
  case body =>
    rintro l pre i a' W hl - ⟨⟨⟨lm, hm, hg⟩, hbx⟩, hB⟩ ⟨b, hb, rfl⟩ hpl
    obtain ⟨l2, hu, hg2, -, -⟩ := run_update_str (P := Try.prog) (t := 77) (s := (fs.getD i zF).name) (v := .int .i64 (fs.getD i zF).ty) hm Try.underlying77 Try.underlying9
    have cM := hbx.cell
    have c0 : W.cell? ⟨b, 0, none⟩ = some (.string (fs.getD i zF).name) := by simp [World.cell?, hb]
    have c2 : W.cell? ⟨b, 2, none⟩ = some (.int .i64 (fs.getD i zF).ty) := by simp [World.cell?, hb]
    have hgr := grown_set (mapObj (strEs l2)) hm
    have hset := (Go.MapKept.heap_set (o' := mapObj (strEs l2)) hm).1
    have hml := (Array.getElem?_eq_some_iff.1 hm).1
    have hbl : Below h.w.heap.size W _ := (Below.refl h.w.heap.size W).grown hgr hB.size (fun k e => by cases e; exact Nat.le_refl _)
    have hkc := KeepsCells.grown hgr (fun r e => by cases e; exact ⟨_, hm, rfl⟩)
    have hfin : ∀ s, sget s l2 = lastT fs s (pre ++ [i]) := fun s => by rw [hg2 s, lastT_snoc, hg s]
    have hex : ∃ l, ({ W with heap := W.heap.setIfInBounds h.w.heap.size (mapObj (strEs l2)) } : World).heap[h.w.heap.size]? = some (mapObj (strEs l)) ∧ ∀ s, sget s l = lastT fs s (pre ++ [i]) := ⟨l2, hset, hfin⟩
    have HF := Lib.hid (And.intro (KeepsFrom.of_grownBy (B := W3.heap.size) hgr (fun j e => by cases e; omega)) (And.intro (Kp.mk hbl hkc) (And.intro (And.intro hex (hkc.boxed hbx)) (hB.trans hbl))))
    clear hex hgr hset hml hbl hkc hfin hg hg2 hB hm hb hbx
    generalize fs.getD i zF = f at *
    generalize vs.getD i undef = u at *
    gi_wp2_with (first | (gi_at_mapUpdate; refine wpListIn_mapUpdate_at rfl _ _ _ 77 rfl rfl rfl rfl hu ?_) | gi_in)
    have hfo := HF.out
    rw [hsz] at hfo
    exact ⟨hfo.1, hfo.2.1, hfo.2.2⟩
  case done =>
    rintro D ys W hD rfl ⟨⟨⟨l, hm, hg⟩, hbx⟩, hB⟩ hK
    have cM := hbx.cell
    have hfin : ∀ s, sget s l = (tyF fs s).map (.int .i64) := fun s => by rw [hg s, lastT_dn fs s _ (Nat.le_refl _), Nat.sub_self, List.drop_zero]
    have HF := Lib.hid (And.intro hm (And.intro hfin hB))
    clear hg hfin hB hbx hm
    gi_wp2
    refine ⟨by simp, .inl ⟨_, _, rfl, run_takeDeferred hK, ?_⟩⟩
    obtain ⟨f1, f2, f3⟩ := HF.out
    have hml := (Array.getElem?_eq_some_iff.1 f1).1
    have hp : (W.putObj D (.deferred none)).heap[h.w.heap.size]? = some (mapObj (strEs l)) := (World.putObj_heap_other (by omega)).trans f1
    refine ⟨.map (some h.w.heap.size), ?_, rfl, ⟨l, hp, f2⟩, f3.trans (belowK_b (w := h.w) (Nat.le_refl _) _ D _ _ (by omega) hK rfl rfl)⟩
    simp [results, Try.f39, go_sem]
  case stop =>
    rintro D c pre W hD - ⟨hf, -⟩
    exact hf.elim

end Go.Proofs.Ythgcgciceejicaa
