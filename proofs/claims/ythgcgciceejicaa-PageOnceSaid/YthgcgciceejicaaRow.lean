/-
  Rows of the call's own: a callee returns one; a load and a store at an index. Rows of the call's own that are lent to a call; a call that writes into one; the text of a slice of bytes; loads out of what a call in a drawn region gave. Contracts of the older kind, as walks by certificates want them.
-/
import Derived.Test.YthgcgciceejicaaSx
import Derived.Laws.OwnMore
import Derived.Deep.Onto
import Derived.ArgAppend
import Derived.Test.YthgcgciceejicaaEvo
namespace Go.Proofs.Ythgcgciceejicaa
open Go.RowKit

section
variable {P : Program} {C : Fx} {c0 : Code} {Q : Exit → Act → World → Prop} {h h' : Vw} {a : Act} {w w' : World} {p : List Nat} {n : Nat} {ks : List Kt} {E : List (Nat × Value)} {B : List Ent} {F : List Fac}

theorem put_nil (xs : List Value) (o : Nat) : putMany xs o [] = xs := by simp [putMany]
theorem put_succ (x : Value) (xs : List Value) (o : Nat) (vs : List Value) : putMany (x :: xs) (o + 1) vs = x :: putMany xs o vs := by
  unfold putMany
  rw [show o + 1 + vs.length = (o + vs.length) + 1 by omega]; simp
theorem put_cons : ∀ (xs : List Value) (o : Nat) (u : Value) (vs : List Value), o < xs.length → putMany (xs.set o u) (o + 1) vs = putMany xs o (u :: vs)
  | [], _, _, _, h => by simp at h
  | x :: xs, 0, u, vs, _ => by
    rw [List.set_cons_zero, put_succ]
    simp [putMany]
  | x :: xs, o + 1, u, vs, h => by
    rw [List.set_cons_succ, put_succ, put_succ, put_cons xs o u vs (by simpa using h)]
theorem row_setCells {base g m cap size : Nat} {e : TypeId} : ∀ (vs : List Value) (o : Nat) (xs : List Value) (w : World), w.ownsRow base e size (.slice (some ⟨g, 0, none⟩) m cap) m xs → o + vs.length ≤ xs.length →
    (w.setCells g o vs).ownsRow base e size (.slice (some ⟨g, 0, none⟩) m cap) m (putMany xs o vs) ∧ w.grownBy (w.setCells g o vs) (some g)
  | [], o, xs, w, h, _ => by
    rw [put_nil]
    exact ⟨h, rfl, rfl, rfl, Nat.le_refl _, fun _ _ _ => rfl⟩
  | u :: vs, o, xs, w, h, hl => by
    obtain ⟨h1, h2⟩ := h.stored o u
    obtain ⟨h3, h4⟩ := row_setCells vs (o + 1) (xs.set o u) _ h1 (by simp at hl ⊢; omega)
    rw [put_cons xs o u vs (by simp at hl; omega)] at h3
    exact ⟨h3, h4.os.trans h2.os, h4.tape.trans h2.tape, h4.output.trans h2.output, Nat.le_trans h2.size h4.size, fun k hk hne => (h4.block k (Nat.lt_of_lt_of_le hk h2.size) hne).trans (h2.block k hk hne)⟩
theorem row_box {base g m cap size : Nat} {e : TypeId} {xs : List Value} (h : w.ownsRow base e size (.slice (some ⟨g, 0, none⟩) m cap) m xs) : Box w g xs :=
  ⟨(h.lt g rfl).2, fun i v hv => by rw [h.cellAt i (by have := (List.getElem?_eq_some_iff.1 hv).1; rw [h.1] at this; exact this)]; exact hv, fun i => h.frozenAt i⟩
theorem run_store_at {t : TypeId} {v : Value} {b off : Nat} {cs : List Value} (hb : Box w b cs) (hv : storesOk P t cs off v = true) : (Instr.storeAt t (.pointer (some ⟨b, off, none⟩)) v).run P w = .ok () (w.setCells b off v.cells.toList) := by
  unfold storesOk at hv
  simp only [Bool.and_eq_true] at hv
  obtain ⟨⟨h1, h2⟩, h3⟩ := hv
  have h2 := Nat.le_of_ble_eq_true h2
  have hl : off + v.cells.toList.length ≤ cs.length := by simpa using h2
  have hsz : (sizeOf t).run P w = .ok v.cells.size w := by
    cases hq : P.info? t with
    | none => simp [hq] at h1
    | some inf =>
      simp only [hq] at h1
      simp [sizeOf, typeInfo, hq, Nat.eq_of_beq_eq_true h1]
  have := run_storeCells_cells (P := P) b off v.cells.toList 0 w (fun j hj => by rw [Nat.add_zero, hb.cells (off + j) _ (List.getElem?_eq_getElem (by omega))]; rfl) (fun j hj => hb.free _) (fun u hu => List.all_eq_true.1 h3 u hu)
  rw [Nat.add_zero] at this
  simp [Instr.storeAt, Instr.sureAddr, storeVar, hsz, this]

/-! ### One row among rows -/
theorem flat_len2 {k : Nat} : ∀ (l : List (List Value)), (∀ r ∈ l, r.length = k) → l.flatten.length = l.length * k
  | [], _ => by simp
  | r :: l, h => by
    rw [List.flatten_cons, List.length_append, flat_len2 l (fun x hx => h x (by simp [hx])), h r (by simp), List.length_cons, Nat.add_mul]; omega
theorem flat_put2 {k : Nat} (vs : List Value) (o : Nat) : ∀ (l : List (List Value)) (i : Nat) (r : List Value), (∀ r ∈ l, r.length = k) → l[i]? = some r → o + vs.length ≤ k → putMany l.flatten (i * k + o) vs = (l.set i (putMany r o vs)).flatten
  | [], i, r, _, h, _ => by simp at h
  | x :: l, 0, r, hk, h, ho => by
    simp only [List.getElem?_cons_zero, Option.some.injEq] at h
    subst h
    have hx := hk x (by simp)
    unfold putMany
    rw [Nat.zero_mul, Nat.zero_add, List.set_cons_zero, List.flatten_cons, List.flatten_cons, List.take_append_of_le_length (by omega), List.drop_append_of_le_length (by omega)]
    simp [List.append_assoc]
  | x :: l, i + 1, r, hk, h, ho => by
    simp only [List.getElem?_cons_succ] at h
    have hx := hk x (by simp)
    have ih := flat_put2 vs o l i r (fun y hy => hk y (by simp [hy])) h ho
    rw [List.set_cons_succ, List.flatten_cons, List.flatten_cons, ← ih]
    unfold putMany
    have e : (i + 1) * k + o = x.length + (i * k + o) := by rw [Nat.add_mul, hx]; omega
    rw [e, List.take_length_add_append, Nat.add_assoc, List.drop_length_add_append]
    simp [List.append_assoc]
theorem put_len2 (xs vs : List Value) (o : Nat) (h : o + vs.length ≤ xs.length) : (putMany xs o vs).length = xs.length := by
  unfold putMany
  simp only [List.length_append, List.length_take, List.length_drop]
  omega
/-- The cells of one row. -/
theorem row_range {base g m cap kk : Nat} {e : TypeId} {l : List (List Value)} {i : Nat} {r : List Value} (h : w.ownsRow base e kk (.slice (some ⟨g, 0, none⟩) m cap) m l.flatten) (hk : ∀ r ∈ l, r.length = kk) (hi : l[i]? = some r) : w.rangeAt g (0 + i * kk) r := fun j v hv => by
  rw [Nat.zero_add]
  have hj := (List.getElem?_eq_some_iff.1 hv).1
  have hf := flat_get l hk i r j v hi hv
  exact (row_box h).cells _ _ hf
theorem storesOk_row {t : TypeId} {l : List (List Value)} {kk i fo : Nat} {r : List Value} {u : Value} (hk : ∀ r ∈ l, r.length = kk) (hi : l[i]? = some r) (hv : storesOk P t r fo u = true) : storesOk P t l.flatten (i * kk + fo) u = true ∧ fo + u.cells.toList.length ≤ kk := by
  unfold storesOk at hv ⊢
  simp only [Bool.and_eq_true] at hv ⊢
  obtain ⟨⟨h1, h2⟩, h3⟩ := hv
  have h2 := Nat.le_of_ble_eq_true h2
  have hr := hk r (List.mem_of_getElem? hi)
  have hlt := (List.getElem?_eq_some_iff.1 hi).1
  refine ⟨⟨⟨h1, Nat.ble_eq_true_of_le ?_⟩, h3⟩, by rw [← hr]; simpa using h2⟩
  rw [flat_len2 l hk]
  have : (i + 1) * kk ≤ l.length * kk := Nat.mul_le_mul_right _ hlt
  rw [Nat.add_mul] at this
  omega

/-! ### Steps -/
theorem x_rowget (hK : K C E B F h a w) (d : Nat) (i kx fo : Nat) {g m cap kk : Nat} {e : TypeId} {l : List (List Value)} {r : List Value} {t : TypeId} {x : Operand} {u : Value} (hk : goodOp C E (opsAt c0 p) n d = true) (hop : (opAt (opsAt c0 p) n).op = .load t x) (hB : B[i]? = some (.row (.slice (some ⟨g, 0, none⟩) m cap) e kk l))
    (hx : evE E x = some (.pointer (some ⟨g, 0 + kx * kk + fo, none⟩))) (hr : l[kx]? = some r) (hv : loadsAs P t r fo = some u) (k : ∀ a w, K C ((d, u) :: E) B F h a w → Goal P c0 Q (.ops p (n + 1)) ks a w) : Goal P c0 Q (.ops p n) ks a w := by
  obtain ⟨o, rest, hl, ho, hg, hd, hlt, hkn⟩ := goodOp_parts hk
  rw [ho] at hop
  have hrr := drop_cons hl
  obtain ⟨h1, h2⟩ : Ent.ok _ w (.row (.slice (some ⟨g, 0, none⟩) m cap) e kk l) := hK.j.ents _ (List.mem_of_getElem? hB)
  have hm : m = l.length := by
    obtain ⟨A, c, e', -⟩ := row_form (hK.j.ents _ (List.mem_of_getElem? hB))
    simp only [Value.slice.injEq] at e'
    exact e'.2.1
  subst hm
  have hld := run_loads (P := P) (off := fo) (row_range h1 h2 hr) hv
  refine goal_unguard hl (gKnown_wanted hK.j.fits hg) (wpList_plain rfl fun KK hKK => ?_)
  unfold Oper.wp execOp
  simp only [hop, hK.j.fits.ev hx, Sem.run_bind, Sem.run_pure, Result.andThen_ok, hld]
  refine hKK _ _ ?_
  rw [hrr]
  exact k _ _ ⟨hK.j.putd _ hd hlt, hK.f⟩

theorem J.setRow (hJ : J C E B h a w) {i g m cap kk : Nat} {e : TypeId} {l l' : List (List Value)} (hB : B[i]? = some (.row (.slice (some ⟨g, 0, none⟩) m cap) e kk l)) (hg : w.grownBy w' (some g)) (hs : w'.heap.size = w.heap.size) (hok : Ent.ok C.base w' (.row (.slice (some ⟨g, 0, none⟩) m cap) e kk l')) :
    J C E (B.set i (.row (.slice (some ⟨g, 0, none⟩) m cap) e kk l')) h a w' := by
  have hi := (List.getElem?_eq_some_iff.1 hB).1
  have e1 : B = B.take i ++ .row (.slice (some ⟨g, 0, none⟩) m cap) e kk l :: B.drop (i + 1) := by
    have := List.set_eq_take_append_cons_drop (l := B) (i := i) (a := .row (.slice (some ⟨g, 0, none⟩) m cap) e kk l)
    rw [if_pos hi] at this
    rw [← this]
    refine (List.ext_getElem? fun j => ?_)
    rw [List.getElem?_set]
    split
    · subst_vars; rw [hB]
    · rfl
  have := List.set_eq_take_append_cons_drop (l := B) (i := i) (a := .row (.slice (some ⟨g, 0, none⟩) m cap) e kk l')
  rw [if_pos hi] at this
  rw [this]
  refine hJ.setE (x := .row (.slice (some ⟨g, 0, none⟩) m cap) e kk l) (x' := .row (.slice (some ⟨g, 0, none⟩) m cap) e kk l') (b := g) rfl rfl e1 ⟨hg.os, hg.tape, hg.output, hs⟩ (fun k hk => ?_) hok
  rcases Nat.lt_or_ge k w.heap.size with q | q
  · exact hg.block k q (fun e => hk (by simpa using e))
  · rw [Array.getElem?_eq_none (by omega), Array.getElem?_eq_none (by omega)]

theorem size_setCells (g : Nat) : ∀ (vs : List Value) (o : Nat) (w : World), (w.setCells g o vs).heap.size = w.heap.size
  | [], _, _ => rfl
  | v :: r, o, w => by
    show ((w.setCell ⟨g, o, none⟩ v).setCells g (o + 1) r).heap.size = _
    rw [size_setCells g r]; simp [World.setCell]

theorem x_rowset (hK : K C E B F h a w) (i kx fo : Nat) {g m cap kk : Nat} {e : TypeId} {l : List (List Value)} {r : List Value} {t : TypeId} {x y : Operand} {u : Value} (hk : goodOp0 E (opsAt c0 p) n = true) (hop : (opAt (opsAt c0 p) n).op = .store t x y) (hB : B[i]? = some (.row (.slice (some ⟨g, 0, none⟩) m cap) e kk l))
    (hx : evE E x = some (.pointer (some ⟨g, 0 + kx * kk + fo, none⟩))) (hy : evE E y = some u) (hr : l[kx]? = some r) (hv : storesOk P t r fo u = true) (k : ∀ a w, K C E (B.set i (.row (.slice (some ⟨g, 0, none⟩) m cap) e kk (l.set kx (putMany r fo u.cells.toList)))) F h a w → Goal P c0 Q (.ops p (n + 1)) ks a w) : Goal P c0 Q (.ops p n) ks a w := by
  unfold goodOp0 at hk
  split at hk
  · rename_i o rest hl
    simp only [Bool.and_eq_true] at hk
    obtain ⟨⟨k1, k2⟩, k3⟩ := hk
    have hg : gKnown E (opsAt c0 p) o = some true := by
      split at k1
      · assumption
      · cases k1
    have hrr := drop_cons hl
    rw [drop_opAt hl] at hop
    obtain ⟨h1, h2⟩ : Ent.ok _ w (.row (.slice (some ⟨g, 0, none⟩) m cap) e kk l) := hK.j.ents _ (List.mem_of_getElem? hB)
    have hm : m = l.length := by
      obtain ⟨A, c, e', -⟩ := row_form (hK.j.ents _ (List.mem_of_getElem? hB))
      simp only [Value.slice.injEq] at e'
      exact e'.2.1
    subst hm
    obtain ⟨v1, v2⟩ := storesOk_row h2 hr hv
    have hst := run_store_at (row_box h1) v1
    rw [show kx * kk + fo = 0 + kx * kk + fo by omega] at hst
    have hrl := h2 r (List.mem_of_getElem? hr)
    have hfl := flat_len2 l h2
    have hlt := (List.getElem?_eq_some_iff.1 hr).1
    have hle : (kx + 1) * kk ≤ l.length * kk := Nat.mul_le_mul_right _ hlt
    rw [Nat.add_mul] at hle
    obtain ⟨h3, h4⟩ := row_setCells u.cells.toList (0 + kx * kk + fo) l.flatten w h1 (by omega)
    rw [show 0 + kx * kk + fo = kx * kk + fo by omega, flat_put2 u.cells.toList fo l kx r h2 hr v2] at h3
    refine goal_unguard hl (gKnown_wanted hK.j.fits hg) (wpList_plain rfl fun KK hKK => ?_)
    unfold Oper.wp execOp
    simp only [hop, hK.j.fits.ev hx, hK.j.fits.ev hy, Sem.run_bind, Sem.run_pure, Result.andThen_ok, hst]
    have hput : a.put ({ o with guard := none } : Oper).dst undef = a := by
      show a.put o.dst undef = a
      rw [show o.dst = none by simpa using k2]; rfl
    simp only [Oper.upon, hput]
    refine hKK _ _ ?_
    rw [hrr]
    refine k _ _ ⟨hK.j.setRow hB h4 (size_setCells _ _ _ _) ⟨?_, fun q hq => ?_⟩, hK.f⟩
    · rw [List.length_set]
      rw [show kx * kk + fo = 0 + kx * kk + fo by omega] at h3
      exact h3
    · rcases List.mem_or_eq_of_mem_set hq with hq | rfl
      · exact h2 q hq
      · rw [put_len2 r _ fo (by omega)]; exact hrl
  · cases hk

/-- What a callee gives: a row of its own. -/
abbrev CRow (P : Program) (f : FuncId) (args : Array Value) (h : Vw) (e : TypeId) (kk : Nat) (R : Value → List (List Value) → Prop) : Prop :=
  C0 P f args h (fun v h' => ∃ l, Ent.ok h.w.heap.size h'.w (.row v e kk l) ∧ R v l)
theorem K.rowOwn (hK : K C E B F h a w) (i : Nat) {v : Value} {e : TypeId} {kk : Nat} {l : List (List Value)} (hB : B[i]? = some (.row v e kk l)) : Ent.ok C.base w (.row v e kk l) := hK.j.ents _ (List.mem_of_getElem? hB)
theorem own_some {base n c kk : Nat} {e : TypeId} {A : Option Addr} {l : List (List Value)} (ho : Ent.ok base w (.row (.slice A n c) e kk l)) (hl : 0 < l.length) : ∃ b, A = some ⟨b, 0, none⟩ := by
  rcases ho.1.2 with ⟨-, h0⟩ | ⟨g, cap, cur, e', -⟩
  · omega
  · simp only [Value.slice.injEq] at e'
    exact ⟨g, e'.1⟩
theorem J.addRow (hJ : J C E B h a w) (hl : Low [] w w') {v : Value} {e : TypeId} {kk : Nat} {l : List (List Value)} (ho : Ent.ok w.heap.size w' (.row v e kk l)) : J C E (.row v e kk l :: B) h a w' := by
  have hg := hJ.grow hl
  have hs := hJ.sees.size
  refine ⟨hJ.fits, hJ.size, hJ.defers, hg.low, ⟨hg.sees.size, hg.sees.block, fun b hb hlt => ?_⟩, fun x hx => ?_, ?_, fun b hb => ?_, hJ.badlt⟩
  · have hb : b ∈ v.ownBlock.toList ++ blk B ++ C.bad0 := hb
    rw [List.append_assoc] at hb
    rcases List.mem_append.1 hb with q | q
    · have := (ho.1.lt b (by simpa using q)).1
      simp only at hs; omega
    · exact hg.sees.bad b q hlt
  · rcases List.mem_cons.1 hx with rfl | hx
    · exact ⟨ho.1.mono hJ.base_le, ho.2⟩
    · exact hg.ents x hx
  · show (v.ownBlock.toList ++ blk B).Nodup
    rw [List.nodup_append]
    refine ⟨by cases v.ownBlock <;> simp, hJ.nodup, fun x hx y hy e' => ?_⟩
    have := (ho.1.lt x (by simpa using hx)).1
    have := blk_lt hJ y hy
    omega
  · have hb : b ∈ v.ownBlock.toList ++ blk B := hb
    rcases List.mem_append.1 hb with q | q
    · have := (ho.1.lt b (by simpa using q)).1
      exact .inl (Nat.le_trans hJ.low.size this)
    · exact hJ.own b q
theorem x_callrow {f : FuncId} {args : Array Value} {e : TypeId} {kk : Nat} {R : Value → List (List Value) → Prop} (hK : K C E B F h a w) (d : Nat) (hc : CRow P f args ⟨w, blk B ++ C.bad0⟩ e kk R) (hk : ∀ w, callAt P C E (opsAt c0 p) ((opsAt c0 p).toList.drop n) d w = [.b true, .r (.ok (.enter f args) w)])
    (k : ∀ v l a w, R v l → K C ((d, v) :: E) (.row v e kk l :: B) F h a w → Goal P c0 Q (.ops p (n + 1)) ks a w) : Goal P c0 Q (.ops p n) ks a w := by
  obtain ⟨o, r, hl, hg, hd, hlt, hkn, hrun⟩ := callAt_parts hk
  have hr := drop_cons hl
  refine goal_unguard hl (gKnown_wanted hK.j.fits hg) (wpList_plain rfl fun KK hKK => ?_)
  unfold Oper.wp
  have hrun' : ∀ w, (execOp (evD E) { o with guard := none }).run P w = .ok (.enter f args) w := fun w => by
    have := hrun w
    unfold execOp at this ⊢
    exact this
  rw [run_ev (o := { o with guard := none }) hK.j.fits hkn, hrun']
  refine (hc (by intro x hx; cases hx) (by simp) (by simp) (bad_lt hK.j)).mono ?_
  rintro e' w' ⟨v, Bo, rfl, hlo, -, -, l, hok, hR⟩
  refine hKK _ _ ?_
  rw [hr]
  exact k _ _ _ _ hR ⟨(hK.j.addRow hlo hok).putd v hd hlt, hK.f⟩
end

section
variable {P : Program} {Q : Exit → Act → World → Prop} {R : Reg} {ops : Array Oper} {i : Nat}
/-- In a drawn region: a load out of a row of the call's own. -/
theorem r_rowget (hT : chkT R = true) (hA : chkA R ops = true) (d : Nat) (f : Gh → Value) (dp : List Nat) (p : Nat) (hp : R.T[p]? = some (i, d, f)) (ho : only R i none = true) (hF : (R.F.all fun t => t.1 != i) = true) (hk : ∀ x, okR R ops i d dp x = true)
    (e : Nat) (g : Gent) (hg : R.G[e]? = some g) (hs : sync R i g = true) (b : Nat) (m cap kk : Nat) (te : TypeId) (l : List (List Value)) (hc : ∀ x, curA (R.an i) x g = some (.row (.slice (some ⟨b, 0, none⟩) m cap) te kk l)) (kx fo : Nat) {r : List Value} (hr : l[kx]? = some r)
    (t : TypeId) (y : Operand) (hop : (opAt ops i).op = .load t y) (hy : ∀ x, evE (rdE R i dp x) y = some (.pointer (some ⟨b, 0 + kx * kk + fo, none⟩))) (hv : ∀ x, loadsAs P t r fo = some (f x)) : StepAt' P ops Q R i := by
  refine .mk fun o D x h a w hio hn hd I => ?_
  obtain ⟨h1, h2, h3, h4⟩ := okR_parts hio (hk x)
  have hcur := (cur_sync (x' := x) I hn (an_done hA hio I hd) hs).trans (hc x)
  have hm : Ent.row (.slice (some ⟨b, 0, none⟩) m cap) te kk l ∈ BD R.G D x := by
    rw [BD_split hg, hcur]; simp
  obtain ⟨r1, r2⟩ : Ent.ok _ w (.row (.slice (some ⟨b, 0, none⟩) m cap) te kk l) := I.mem.ents _ hm
  have hml : m = l.length := by
    obtain ⟨A, c, e', -⟩ := row_form (I.mem.ents _ hm)
    simp only [Value.slice.injEq] at e'
    exact e'.2.1
  subst hml
  have hld := run_loads (P := P) (off := fo) (row_range r1 r2 hr) (hv x)
  refine wpOp_value hio (gOk_wanted hio (rd_fits hio h1 I hd hn) h2) (v := f x) (w' := w) ?_ ⟨x, h, ?_⟩
  · rw [op_at hio] at hop
    unfold execOp
    simp only [hop, (rd_fits hio h1 I hd hn).ev (hy x), Sem.run_bind, Sem.run_pure, Result.andThen_ok, hld]
  · rw [h3]
    refine I.next hio hT hA hn hd ?_ (Sees.refl _) (fun _ _ _ => rfl) (.inl ⟨d, f, List.mem_of_getElem? hp, rfl⟩) (fun q hq hD => I.facts q hq (hD.resolve_left fun e => ?_))
    · rw [only_none ho]; exact I.mem.putN _ _
    · have := List.all_eq_true.1 hF q hq
      simp [e] at this
/-- In a drawn region: append to a slice that is known and full; the result is known. -/
theorem rs_own {base kk : Nat} {e : TypeId} {v : Value} {l : List (List Value)} {w : World} {bad : List Nat} (hown : w.ownsRow base e kk v l.length l.flatten) (hk : ∀ r ∈ l, r.length = kk) (hl : 0 < l.length) (hb : ∀ b ∈ bad, b < base) : RS ⟨w, bad⟩ kk v l := by
  have hlt := hown.lt
  rcases hown.2 with ⟨-, h0⟩ | ⟨g, cap, cur, rfl, hbg, hg, hnc, hcm, hcs, htake⟩
  · omega
  · refine .inr ⟨g, 0, cap, rfl, hnc, hcm, (hlt g rfl).2, fun hm => ?_, fun i r hi => row_range hown hk hi⟩
    have := hb g hm; omega
theorem r_appgrow (hT : chkT R = true) (hA : chkA R ops = true) (hmono : ∀ q ∈ R.F, ∀ x h h', Sees h h' → q.2 x h → q.2 x h') (hi : Ind R i) (d : Nat) (dp : List Nat) (p : Nat) (hp : R.T[p]? = some (i, d, fun x => .slice (sA (x i)) (sN (x i)) (sC (x i)))) (ho : only R i none = true) (hk : ∀ x, okR R ops i d dp x = true)
    (t te : TypeId) (kk : Nat) (y z : Operand) (hop : (opAt ops i).op = .call { callee := .builtin .append, args := #[y, z], argTypes := #[t, t] }) (hty : (opAt ops i).type = t) (v zz : Gh → Value) (hy : ∀ x, evE (rdE R i dp x) y = some (v x)) (hz : ∀ x, evE (rdE R i dp x) z = some (zz x))
    (ht : P.underlying t = some (.slice te)) {zv : Value} {bytes : Nat} (hinfo : (P.info? te).map (fun i => (i.zero, i.size, i.bytes)) = some (some zv, kk, bytes)) (hzs : zv.cells.size = kk) (hk0 : 0 < kk)
    (l m : List (List Value)) (cap : Nat) (hlk : ∀ r ∈ l, r.length = kk) (hmk : ∀ r ∈ m, r.length = kk) (hm0 : 0 < m.length) (hfull : cap < l.length + m.length) (hlen : (l.length + m.length) * bytes ≤ 140737488355328) (hmax : l.length + m.length ≤ 1000000)
    (hc : ∀ x H, (∀ (j : Nat) (q : Nat × (Gh → Vw → Prop)), R.F[j]? = some q → (R.an i).contains q.1 = true → q.2 x H) → Sees R.h H → (∃ b, v x = .slice (some ⟨b, 0, none⟩) l.length cap ∧ Cells H b 0 l.flatten) ∧ RS H kk (zz x) m)
    (hR : ∀ x u H, RS H kk (.slice (sA u) (sN u) (sC u)) (l ++ m) → ∀ (j : Nat) (q : Nat × (Gh → Vw → Prop)), R.F[j]? = some q → q.1 = i → q.2 (upd x i u) H) : StepAt' P ops Q R i := by
  refine .mk fun o D x h a w hio hn hd I => ?_
  obtain ⟨h1, h2, h3, h4⟩ := okR_parts hio (hk x)
  have han := an_done hA hio I hd
  have hf := rd_fits hio h1 I hd hn
  obtain ⟨⟨b, hv, hcb⟩, hrm⟩ := hc x ⟨w, blk (BD R.G D x) ++ R.C.bad0⟩ (fun j q hq hc => hmono q (List.mem_of_getElem? hq) x _ _ I.mem.sees (I.facts q (List.mem_of_getElem? hq) (han _ (by simpa using hc)))) (I.sees.trans I.mem.sees)
  obtain ⟨A2, c2, e2, -, -, -⟩ := hrm.form
  obtain ⟨r0, hr0⟩ : ∃ r, m[0]? = some r := ⟨_, List.getElem?_eq_getElem hm0⟩
  rw [e2] at hrm
  obtain ⟨b2, o2, e3, -, -⟩ := hrm.row hr0
  subst e3
  have hrg : w.rangeAt b2 o2 m.flatten := fun j u hj => by
    have hfl := flat_len2 m hmk
    have hjl := (List.getElem?_eq_some_iff.1 hj).1
    have hdiv : j / kk < m.length := Nat.div_lt_of_lt_mul (by rw [Nat.mul_comm]; omega)
    obtain ⟨r, hr⟩ : ∃ r, m[j / kk]? = some r := ⟨_, List.getElem?_eq_getElem hdiv⟩
    have hrl := hmk r (List.mem_of_getElem? hr)
    obtain ⟨u', hu'⟩ : ∃ u', r[j % kk]? = some u' := ⟨_, List.getElem?_eq_getElem (by rw [hrl]; exact Nat.mod_lt _ hk0)⟩
    have hg := flat_get m hmk _ r _ u' hr hu'
    have hjj : j / kk * kk + j % kk = j := by rw [Nat.mul_comm]; exact Nat.div_add_mod j kk
    rw [hjj] at hg
    rw [hg] at hj
    simp only [Option.some.injEq] at hj
    subst hj
    have := (hrm.cell hr).lies (j % kk) u' hu'
    rw [Nat.add_assoc, hjj] at this
    exact this
  cases hq : P.info? te with
  | none => simp [hq] at hinfo
  | some inf =>
    simp only [hq, Option.map_some, Option.some.injEq, Prod.mk.injEq] at hinfo
    obtain ⟨hi1, hi2, hi3⟩ := hinfo
    obtain ⟨v', w', hrun, hown, hgr⟩ := run_append_arg_grows (P := P) w t t te inf zv kk bytes ht hq hi1 hi2 hi3 hzs hk0 ⟨b, 0, none⟩ l.length cap l.flatten (flat_len2 l hlk) (fun j u hj => by rw [Addr.add_mid]; exact hcb.lies j u hj) ⟨b2, o2, none⟩ m.length c2 m.flatten (flat_len2 m hmk) (fun j u hj => by rw [Addr.add_mid]; exact hrg j u hj) hfull (by unfold maxLen; omega) hlen
    rw [← List.length_append, ← List.flatten_append] at hown
    have hlow : Low [] w w' := Low.of_below ⟨hgr.os, hgr.tape, hgr.output, hgr.size, fun k hk => hgr.block k hk (by simp)⟩
    obtain ⟨j, s⟩ := I.mem.called hlow
    have hrs : RS ⟨w', blk (BD R.G D x) ++ R.C.bad0⟩ kk v' (l ++ m) := rs_own hown (fun r hr => (List.mem_append.1 hr).elim (hlk r) (hmk r)) (by rw [List.length_append]; omega) (fun b hb => bad_lt I.mem b hb)
    obtain ⟨A', c', rfl, -, -, -⟩ := hrs.form
    refine wpOp_value hio (gOk_wanted hio hf h2) (v := .slice A' (l ++ m).length c') (w' := w') ?_ ⟨upd x i (.slice A' (l ++ m).length c'), ⟨w', blk (BD R.G D x) ++ R.C.bad0⟩, ?_⟩
    · rw [op_at hio] at hop hty
      unfold execOp
      simp only [hop, resolve, invoke, builtin, Sem.run_bind, Sem.run_pure, Result.andThen_ok, List.map_toArray, List.map_cons, List.map_nil, hf.ev (hy x), hf.ev (hz x), hty, hv, e2, hrun]
    · rw [h3]
      have hself : upd x i (.slice A' (l ++ m).length c') i = .slice A' (l ++ m).length c' := by simp [upd]
      refine I.next hio hT hA hn hd ?_ s (hi.at_t I hn _) (.inl ⟨d, _, List.mem_of_getElem? hp, by simp only [hself, sA, sN, sC]⟩) (facts_next hi hmono I hn _ s (hR x _ _ hrs))
      rw [only_none ho, hi.at_g I hn _ _ (fun _ h => h)]
      exact j.putN _ _
end

end Go.Proofs.Ythgcgciceejicaa

namespace Go.Proofs.Ythgcgciceejicaa
open Go.RowKit
set_option linter.unusedVariables false
set_option linter.unusedSimpArgs false

section
variable {P : Program} {C : Fx} {c0 : Code} {Q : Exit → Act → World → Prop} {h : Vw} {a : Act} {w : World} {E : List (Nat × Value)} {B : List Ent} {F : List Fac} {p : List Nat} {n : Nat} {ks : List Kt}

theorem row_apart (hnd : (blk B).Nodup) {v : Value} {e : TypeId} {k b : Nat} {l : List (List Value)} {cs : List Value} (hr : Ent.row v e k l ∈ B) (hb : Ent.box b cs ∈ B) : ∀ x, v.ownBlock = some x → x ≠ b := by
  obtain ⟨i, hi⟩ := List.mem_iff_getElem?.1 hr
  obtain ⟨j, hj⟩ := List.mem_iff_getElem?.1 hb
  have hne : i ≠ j := by rintro rfl; rw [hi] at hj; simp at hj
  intro x hx e
  exact ent_apart hnd hi hj hne x (by simp [Ent.blocks, hx]) (by simp [Ent.blocks, e])
/-- A row of the call's own, as a call sees it that may write block b. -/
theorem J.rowLent (hJ : J C E B h a w) (i j : Nat) {v : Value} {e : TypeId} {k b : Nat} {l : List (List Value)} {cs : List Value} (hr : B[i]? = some (.row v e k l)) (hb : B[j]? = some (.box b cs)) : RS ⟨w, [b]⟩ k v l :=
  row_rs (hJ.ents _ (List.mem_of_getElem? hr)) fun x hx hm => row_apart hJ.nodup (List.mem_of_getElem? hr) (List.mem_of_getElem? hb) x hx (List.mem_singleton.1 hm)
theorem J.boxBad (hJ : J C E B h a w) (j : Nat) {b : Nat} {cs : List Value} (hb : B[j]? = some (.box b cs)) : ∀ x ∈ [b], x ∈ blk B ++ C.bad0 := fun x hx => by
  rw [List.mem_singleton.1 hx]
  exact List.mem_append_left _ (List.mem_flatMap.2 ⟨_, List.mem_of_getElem? hb, by simp [Ent.blocks]⟩)

/-- A call that writes a row of the caller's own. -/
abbrev CSet (P : Program) (f : FuncId) (args : Array Value) (base g m cap : Nat) (e : TypeId) (kk : Nat) (l l' : List (List Value)) : Prop :=
  ∀ w, Ent.ok base w (.row (.slice (some ⟨g, 0, none⟩) m cap) e kk l) → Calls P f args w fun en w' => en = .returned (.tuple #[]) ∧ w.grownBy w' (some g) ∧ w'.heap.size = w.heap.size ∧ Ent.ok base w' (.row (.slice (some ⟨g, 0, none⟩) m cap) e kk l')
theorem x_callset {f : FuncId} {args : Array Value} {e : TypeId} {g m cap kk : Nat} {l l' : List (List Value)} (hK : K C E B F h a w) (d i : Nat) (hB : B[i]? = some (.row (.slice (some ⟨g, 0, none⟩) m cap) e kk l)) (hc : CSet P f args C.base g m cap e kk l l')
    (hk : ∀ w, callAt P C E (opsAt c0 p) ((opsAt c0 p).toList.drop n) d w = [.b true, .r (.ok (.enter f args) w)])
    (k : ∀ a w, K C ((d, .tuple #[]) :: E) (B.set i (.row (.slice (some ⟨g, 0, none⟩) m cap) e kk l')) F h a w → Goal P c0 Q (.ops p (n + 1)) ks a w) : Goal P c0 Q (.ops p n) ks a w := by
  obtain ⟨o, r, hl, hg, hd, hlt, hkn, hrun⟩ := callAt_parts hk
  have hr := drop_cons hl
  refine goal_unguard hl (gKnown_wanted hK.j.fits hg) (wpList_plain rfl fun KK hKK => ?_)
  unfold Oper.wp
  have hrun' : ∀ w, (execOp (evD E) { o with guard := none }).run P w = .ok (.enter f args) w := fun w => by
    have := hrun w
    unfold execOp at this ⊢
    exact this
  rw [run_ev (o := { o with guard := none }) hK.j.fits hkn, hrun']
  refine (hc w (hK.j.ents _ (List.mem_of_getElem? hB))).mono ?_
  rintro e' w' ⟨rfl, h1, h2, h3⟩
  refine hKK _ _ ?_
  rw [hr]
  exact k _ _ ⟨(hK.j.setRow hB h1 h2 h3).putd _ hd hlt, hK.f⟩

/-- A row of the call's own, as a call sees it that writes nothing. -/
theorem J.rowQ (hJ : J C E B h a w) (i : Nat) {v : Value} {e : TypeId} {k : Nat} {l : List (List Value)} (hr : B[i]? = some (.row v e k l)) : RS ⟨w, []⟩ k v l := row_rs (hJ.ents _ (List.mem_of_getElem? hr)) fun x hx hm => by cases hm
theorem J.seesQ (hJ : J C E B h a w) : Sees h ⟨w, []⟩ := hJ.sees.less fun x hx => by cases hx
theorem x_callq {f : FuncId} {args : Array Value} {v : Value} (hK : K C E B F h a w) (d : Nat) (hc : C0 P f args ⟨w, []⟩ (fun r _ => r = v)) (hk : ∀ w, callAt P C E (opsAt c0 p) ((opsAt c0 p).toList.drop n) d w = [.b true, .r (.ok (.enter f args) w)])
    (k : ∀ h' a w, Sees h h' → K C ((d, v) :: E) B F h' a w → Goal P c0 Q (.ops p (n + 1)) ks a w) : Goal P c0 Q (.ops p n) ks a w := by
  obtain ⟨o, r, hl, hg, hd, hlt, hkn, hrun⟩ := callAt_parts hk
  have hr := drop_cons hl
  refine goal_unguard hl (gKnown_wanted hK.j.fits hg) (wpList_plain rfl fun KK hKK => ?_)
  unfold Oper.wp
  have hrun' : ∀ w, (execOp (evD E) { o with guard := none }).run P w = .ok (.enter f args) w := fun w => by
    have := hrun w
    unfold execOp at this ⊢
    exact this
  rw [run_ev (o := { o with guard := none }) hK.j.fits hkn, hrun']
  refine (hc (by intro x hx; cases hx) (by simp) (by simp) (by intro b hb; cases hb)).mono ?_
  rintro e' w' ⟨r', Bo, rfl, hlo, -, -, rfl⟩
  obtain ⟨j, s⟩ := hK.j.called hlo
  refine hKK _ _ ?_
  rw [hr]
  exact k _ _ _ s ⟨j.putd _ hd hlt, fun x hx => (hK.f x hx).sees s⟩

/-- A block of the call's own, as a call sees it that writes nothing. -/
theorem J.boxQ (hJ : J C E B h a w) (i : Nat) {b : Nat} {cs : List Value} (hb : B[i]? = some (.box b cs)) : Cells ⟨w, []⟩ b 0 cs := by
  have hx : Box w b cs := hJ.ents _ (List.mem_of_getElem? hb)
  exact ⟨hx.lt, by simp, box_range hx⟩
theorem elem_size {e : TypeId} {kk : Nat} (he : (P.info? e).map (·.size) = some kk) : (sizeOf e).run P w = .ok kk w := by
  cases hq : P.info? e with
  | none => simp [hq] at he
  | some inf =>
    simp [hq] at he
    simp [sizeOf, typeInfo, hq, he]
/-- s[:k] -/
theorem run_hi {o : Oper} {ρ : Operand → Value} {t e : TypeId} {x y : Operand} {A : Option Addr} {n cap k kk : Nat} (ho : o.op = .slice t x none (some y) none) (hx : ρ x = .slice A n cap) (hy : ρ y = .int .i64 ((k : Nat) : Int)) (hk : k ≤ cap) (ht : P.underlying t = some (.slice e)) (he : (P.info? e).map (·.size) = some kk) :
    (execOp ρ o).run P w = .ok (.value (.slice A k cap)) w := by
  have hsz := elem_size (w := w) he
  have ha : ∀ m, (if cap = 0 then A else A.map (·.add (0 * m))) = A := fun m => by cases A <;> simp [Addr.add]
  have hel : P.elem t = e := by simp [Program.elem, ht]
  have ht' : P.underlying t = some (.slice (P.elem t)) := by rw [hel]; exact ht
  have h1 : ((k : Nat) : Int) ≤ (cap : Int) := by omega
  unfold execOp
  simp only [ho, hx, hy, Option.map_some, Option.map_none]
  rw [show (Instr.sliceAt t (.slice A n cap) none (some (.int .i64 ((k : Nat) : Int))) none) = Instr.sliceAt t (.slice A n cap) none (some (.int .i64 ((k : Nat) : Int))) none from rfl]
  simp [Sem.run_bind, run_sliceAt_slice w t _ _ _ _ ht', run_slice_h w t A n cap ht' .i64 ((k : Nat) : Int) (by omega) h1, hel, hsz, sliced]
  cases A <;> simp [Addr.add]
/-- s[k:] -/
theorem run_lo {o : Oper} {ρ : Operand → Value} {t e : TypeId} {x y : Operand} {A A' : Option Addr} {n cap k kk : Nat} (ho : o.op = .slice t x (some y) none none) (hx : ρ x = .slice A n cap) (hy : ρ y = .int .i64 ((k : Nat) : Int)) (hk : k ≤ n) (ht : P.underlying t = some (.slice e)) (he : (P.info? e).map (·.size) = some kk)
    (hA : A' = if cap = k then A else A.map (·.add (k * kk))) : (execOp ρ o).run P w = .ok (.value (.slice A' (n - k) (cap - k))) w := by
  have hsz := elem_size (w := w) he
  have hel : P.elem t = e := by simp [Program.elem, ht]
  have ht' : P.underlying t = some (.slice (P.elem t)) := by rw [hel]; exact ht
  have h1 : ((k : Nat) : Int) ≤ (n : Int) := by omega
  unfold execOp
  simp only [ho, hx, hy, Option.map_some, Option.map_none]
  simp [Sem.run_bind, run_sliceAt_slice w t _ _ _ _ ht', run_slice_l w t A n cap ht' .i64 ((k : Nat) : Int) (by omega) h1, hel, hsz, sliced, hA]

/-- An append to a row of the call's own, by its bytes. -/
theorem x_append {g0 : Vw} (hK : K C E B F h a w) (d i : Nat) {v : Value} {t te : TypeId} {kk : Nat} {l ns : List (List Value)} {b m c : Nat} {y z : Operand} (hk : goodOp C E (opsAt c0 p) n d = true) (hop : (opAt (opsAt c0 p) n).op = .call { callee := .builtin .append, args := #[y, z], argTypes := #[t, t] }) (hty : (opAt (opsAt c0 p) n).type = t)
    (hB : B[i]? = some (.row v te kk l)) (hy : evE E y = some v) (hz : evE E z = some (.slice (some ⟨b, 0, none⟩) m c)) (hc : Cells g0 b 0 ns.flatten) (hs : Sees g0 h)
    (ht : P.underlying t = some (.slice te)) {zv : Value} {bytes : Nat} (hinfo : (P.info? te).map (fun i => (i.zero, i.size, i.bytes)) = some (some zv, kk, bytes)) (hzs : zv.cells.size = kk) (hck : chkRows kk ns m = true)
    (hlen : (l.length + m) * bytes ≤ 140737488355328 ∧ l.length + m ≤ 9223372036854775807) (k : ∀ u h' a w, Sees h h' → K C ((d, .slice (sA u) (sN u) (sC u)) :: E) (B.set i (.row (.slice (sA u) (sN u) (sC u)) te kk (l ++ ns))) F h' a w → Goal P c0 Q (.ops p (n + 1)) ks a w) : Goal P c0 Q (.ops p n) ks a w := by
  obtain ⟨o, rest, hl, ho, hg, hd, hlt, hkn⟩ := goodOp_parts hk
  have hrr := drop_cons hl
  rw [ho] at hop hty
  refine goal_unguard hl (gKnown_wanted hK.j.fits hg) ?_
  refine s_append (o := { o with guard := none }) hK.j d i (okk (s := ⟨.out .ret, [], E, B, F, [], []⟩) hd hlt hkn) hop hty hB hy hz hc hs ht hinfo hzs hck hlen ?_
  intro u h' a' w' s j
  rw [hrr]
  exact k u h' a' w' s ⟨j, fun x hx => (hK.f x hx).sees s⟩
/-- What is reckoned out of memory that is known. -/
theorem x_purew (hK : K C E B F h a w) (d : Nat) (v : Value) (hk : goodOp C E (opsAt c0 p) n d = true) (hr : (execOp (evD E) (opAt (opsAt c0 p) n)).run P w = .ok (.value v) w) (k : ∀ a w, K C ((d, v) :: E) B F h a w → Goal P c0 Q (.ops p (n + 1)) ks a w) : Goal P c0 Q (.ops p n) ks a w := by
  obtain ⟨o, rest, hl, ho, hg, hd, hlt, hkn⟩ := goodOp_parts hk
  have hrr := drop_cons hl
  refine goal_unguard hl (gKnown_wanted hK.j.fits hg) (wpList_plain rfl fun KK hKK => ?_)
  unfold Oper.wp
  rw [ho] at hr
  have hr' : (execOp (evD E) { o with guard := none }).run P w = .ok (.value v) w := by
    unfold execOp at hr ⊢
    exact hr
  rw [run_ev (o := { o with guard := none }) hK.j.fits hkn, hr']
  refine hKK _ _ ?_
  rw [hrr]
  exact k _ _ ⟨hK.j.putd _ hd hlt, hK.f⟩
theorem run_text {o : Oper} {ρ : Operand → Value} {src dst e : TypeId} {x : Operand} {b m cap : Nat} {l : List UInt8} (ho : o.op = .convert src dst x) (hx : ρ x = .slice (some ⟨b, 0, none⟩) m cap) (hm : m = l.length) (hs : P.underlying src = some (.slice e)) (he : P.underlying e = some (.int .u8)) (hd : P.underlying dst = some .string)
    (hc : Cells h b 0 (l.map fun c => .int .u8 (c.toNat : Int))) (s : Sees h ⟨w, blk B ++ C.bad0⟩) : (execOp ρ o).run P w = .ok (.value (.string ⟨l.toArray⟩)) w := by
  have hc' := (hc.sees s).lies
  subst hm
  unfold execOp
  simp only [ho, hx, Sem.run_bind]
  rw [run_convert_bytes_back w src dst e ⟨b, 0, none⟩ cap l hs he hd (fun j hj => by
    have := hc' j (.int .u8 (l[j].toNat : Int)) (by rw [List.getElem?_map, List.getElem?_eq_getElem hj]; rfl)
    rw [show ((⟨b, 0, none⟩ : Addr).add j) = ⟨b, 0 + j, none⟩ from by unfold Addr.add; split <;> simp_all]; exact this)]
  simp [Sem.run_pure]
end

section
variable {P : Program} {Q : Exit → Act → World → Prop} {R : Reg} {ops : Array Oper} {i : Nat}
/-- In a drawn region: a load out of what an operation ahead told of. -/
theorem r_loadfx (hT : chkT R = true) (hA : chkA R ops = true) (d : Nat) (f : Gh → Value) (dp : List Nat) (p : Nat) (hp : R.T[p]? = some (i, d, f)) (ho : only R i none = true) (hF : (R.F.all fun t => t.1 != i) = true) (hk : ∀ x, okR R ops i d dp x = true)
    (j : Nat) (q : Nat × (Gh → Vw → Prop)) (hq : R.F[j]? = some q) (hqa : (R.an i).contains q.1 = true) (b o0 : Gh → Nat) (cs : Gh → List Value) (fo : Nat) (hc : ∀ x H, q.2 x H → Cells H (b x) (o0 x) (cs x))
    (t : TypeId) (y : Operand) (hop : (opAt ops i).op = .load t y) (hy : ∀ x, evE (rdE R i dp x) y = some (.pointer (some ⟨b x, o0 x + fo, none⟩))) (hv : ∀ x, loadsAs P t (cs x) fo = some (f x)) : StepAt' P ops Q R i := by
  refine .mk fun o D x h a w hio hn hd I => ?_
  obtain ⟨h1, h2, h3, h4⟩ := okR_parts hio (hk x)
  have hcell := (hc x h (I.facts q (List.mem_of_getElem? hq) (an_done hA hio I hd _ (by simpa using hqa)))).sees I.mem.sees
  have hld := run_loads (P := P) (off := fo) hcell.lies (hv x)
  refine wpOp_value hio (gOk_wanted hio (rd_fits hio h1 I hd hn) h2) (v := f x) (w' := w) ?_ ⟨x, h, ?_⟩
  · rw [op_at hio] at hop
    unfold execOp
    simp only [hop, (rd_fits hio h1 I hd hn).ev (hy x), Sem.run_bind, Sem.run_pure, Result.andThen_ok, hld]
  · rw [h3]
    refine I.next hio hT hA hn hd ?_ (Sees.refl _) (fun _ _ _ => rfl) (.inl ⟨d, f, List.mem_of_getElem? hp, rfl⟩) (fun q hq hD => I.facts q hq (hD.resolve_left fun e => ?_))
    · rw [only_none ho]; exact I.mem.putN _ _
    · have := List.all_eq_true.1 hF q hq
      simp [e] at this

/-- A call that writes nothing and gives what is known; it reads a row of the caller's own. -/
theorem r_callq (hT : chkT R = true) (hA : chkA R ops = true) (hmono : ∀ q ∈ R.F, ∀ x h h', Sees h h' → q.2 x h → q.2 x h') (d : Nat) (f : Gh → Value) (dp : List Nat) (p : Nat) (hp : R.T[p]? = some (i, d, f)) (ho : only R i none = true) (hF : (R.F.all fun t => t.1 != i) = true) (hk : ∀ x, okR R ops i d dp x = true)
    (e2 : Nat) (g2 : Gent) (hg2 : R.G[e2]? = some g2) (hs2 : sync R i g2 = true) (v2 : Gh → Value) (t2 : TypeId) (kk : Nat) (l2 : List (List Value)) (hc2 : ∀ x, curA (R.an i) x g2 = some (.row (v2 x) t2 kk l2))
    (k : FuncId) (args : Gh → Array Value) (hr : ∀ x w, (execOp (evD (rdE R i dp x)) (opAt ops i)).run P w = .ok (.enter k (args x)) w)
    (hc : ∀ x H, H.bad = [] → Sees R.h H → (∀ (j : Nat) (q : Nat × (Gh → Vw → Prop)), R.F[j]? = some q → (R.an i).contains q.1 = true → q.2 x H) → RS H kk (v2 x) l2 → C0 P k (args x) H (fun v _ => v = f x)) : StepAt' P ops Q R i := by
  refine .mk fun o D x h a w hio hn hd I => ?_
  obtain ⟨h1, h2, h3, h4⟩ := okR_parts hio (hk x)
  have han := an_done hA hio I hd
  have hcur2 := (cur_sync (x' := x) I hn han hs2).trans (hc2 x)
  have hm2 : Ent.row (v2 x) t2 kk l2 ∈ BD R.G D x := by rw [BD_split hg2, hcur2]; simp
  obtain ⟨j2, hj2⟩ := List.mem_iff_getElem?.1 hm2
  have sQ : Sees h ⟨w, []⟩ := I.mem.seesQ
  have hcc := hc x ⟨w, []⟩ rfl (I.sees.trans sQ) (fun j q hq hc => hmono q (List.mem_of_getElem? hq) x _ _ sQ (I.facts q (List.mem_of_getElem? hq) (han _ (by simpa using hc)))) (I.mem.rowQ j2 hj2)
  refine wpOp_call hio (gOk_wanted hio (rd_fits hio h1 I hd hn) h2) (by rw [run_ev (rd_fits hio h1 I hd hn) h4, ← op_at hio]; exact hr x w) ((hcc (by intro y hy; cases hy) (by simp) (by simp) (by intro b hb; cases hb)).mono ?_)
  rintro e' w' ⟨v, Bo, rfl, hl, -, -, rfl⟩
  obtain ⟨j, s⟩ := I.mem.called hl
  refine ⟨f x, rfl, x, ⟨w', blk (BD R.G D x) ++ R.C.bad0⟩, ?_⟩
  rw [h3]
  refine I.next hio hT hA hn hd ?_ s (fun _ _ _ => rfl) (.inl ⟨d, f, List.mem_of_getElem? hp, rfl⟩) (fun q hq hD => hmono q hq x _ _ s (I.facts q hq (hD.resolve_left fun e => ?_)))
  · rw [only_none ho]; exact j.putN _ _
  · have := List.all_eq_true.1 hF q hq
    simp [e] at this

/-- A call that writes one block of the caller's, and reads a row of the caller's own. -/
theorem r_call1r (hT : chkT R = true) (hA : chkA R ops = true) (hmono : ∀ q ∈ R.F, ∀ x h h', Sees h h' → q.2 x h → q.2 x h') (hi : Ind R i) (d : Nat) (F : Value → Value) (dp : List Nat) (p : Nat) (hp : R.T[p]? = some (i, d, fun x => F (x i))) (hk : ∀ x, okR R ops i d dp x = true)
    (e : Nat) (g : Gent) (hg : R.G[e]? = some g) (ho : only R i (some e) = true) (hs : sync R i g = true) (b : Nat) (cs cs' : Gh → List Value) (hc0 : ∀ x, curA (R.an i) x g = some (.box b (cs x))) (hc1 : ∀ x, curA (i :: R.an i) x g = some (.box b (cs' x)))
    (e2 : Nat) (g2 : Gent) (hg2 : R.G[e2]? = some g2) (hs2 : sync R i g2 = true) (v2 : Value) (t2 : TypeId) (kk : Nat) (l2 : List (List Value)) (hc2 : ∀ x, curA (R.an i) x g2 = some (.row v2 t2 kk l2))
    (k : FuncId) (args : Gh → Array Value) (hr : ∀ x w, (execOp (evD (rdE R i dp x)) (opAt ops i)).run P w = .ok (.enter k (args x)) w)
    (hc : ∀ x H, Sees R.h H → (∀ (j : Nat) (q : Nat × (Gh → Vw → Prop)), R.F[j]? = some q → (R.an i).contains q.1 = true → q.2 x H) → RS ⟨H.w, [b]⟩ kk v2 l2 → (∀ x ∈ [b], x ∈ H.bad) →
      C1 P k (args x) H b (cs x) (fun v c H' => ∃ u, v = F u ∧ c = cs' (upd x i u) ∧ ∀ (j : Nat) (q : Nat × (Gh → Vw → Prop)), R.F[j]? = some q → q.1 = i → q.2 (upd x i u) H')) : StepAt' P ops Q R i := by
  refine .mk fun o D x h a w hio hn hd I => ?_
  have han := an_done hA hio I hd
  have hcur := (cur_sync (x' := x) I hn han hs).trans (hc0 x)
  have hcur2 := (cur_sync (x' := x) I hn han hs2).trans (hc2 x)
  have hm1 : Ent.box b (cs x) ∈ BD R.G D x := by rw [BD_split hg, hcur]; simp
  have hm2 : Ent.row v2 t2 kk l2 ∈ BD R.G D x := by rw [BD_split hg2, hcur2]; simp
  obtain ⟨j1, hj1⟩ := List.mem_iff_getElem?.1 hm1
  obtain ⟨j2, hj2⟩ := List.mem_iff_getElem?.1 hm2
  have hrow := I.mem.rowLent j2 j1 hj2 hj1
  have hbad := I.mem.boxBad j1 hj1
  obtain ⟨h1, h2, h3, h4⟩ := okR_parts hio (hk x)
  have hB0 := BD_split (D := D) (x := x) hg
  rw [hcur] at hB0
  have hB1 : BD R.G D x = BD (R.G.take e) D x ++ .box b (cs x) :: BD (R.G.drop (e + 1)) D x := by rw [hB0]; simp
  have hbm : b ∈ blk (BD R.G D x) := by rw [hB1]; exact List.mem_flatMap.2 ⟨.box b (cs x), by simp, by simp [Ent.blocks]⟩
  have hbi : (BD R.G D x)[(BD (R.G.take e) D x).length]? = some (.box b (cs x)) := by rw [hB1]; simp
  have hbx : Box w b (cs x) := I.mem.ents (.box b (cs x)) (List.mem_of_getElem? hbi)
  have hcc := hc x ⟨w, blk (BD R.G D x) ++ R.C.bad0⟩ (I.sees.trans I.mem.sees) (fun j q hq hc => hmono q (List.mem_of_getElem? hq) x _ _ I.mem.sees (I.facts q (List.mem_of_getElem? hq) (han _ (by simpa using hc)))) hrow hbad
  refine wpOp_call hio (gOk_wanted hio (rd_fits hio h1 I hd hn) h2) (by rw [run_ev (rd_fits hio h1 I hd hn) h4, ← op_at hio]; exact hr x w) ((hcc (by intro y hy; simp at hy; subst hy; exact hbx) (by simp) (by simp [hbm]) (bad_lt I.mem)).mono ?_)
  rintro e' w' ⟨v, Bo, rfl, hl, hbo, hbn, c, hcs, u, rfl, rfl, hv⟩
  have hBo : Bo = [(b, cs' (upd x i u))] := by
    match Bo, hbn, hcs with
    | [y], hbn, hcs => simp at hbn hcs; obtain ⟨y1, y2⟩ := y; simp at hbn hcs; rw [hbn, hcs]
    | [], hbn, _ => simp at hbn
    | _ :: _ :: _, hbn, _ => simp at hbn
  subst hBo
  obtain ⟨j, s⟩ := I.mem.called1 (cs' := cs' (upd x i u)) hbi (by simpa using hl) (hbo _ (List.mem_singleton.2 rfl))
  refine ⟨F u, rfl, upd x i u, ⟨w', blk (BD R.G D x) ++ R.C.bad0⟩, ?_⟩
  rw [h3]
  have hself : upd x i u i = u := by simp [upd]
  refine I.next hio hT hA hn hd ?_ s (hi.at_t I hn u) (.inl ⟨d, _, List.mem_of_getElem? hp, by simp only [hself]⟩) (facts_next hi hmono I hn u s hv)
  rw [only_some ho hg, at_next I hn han hs, hc1, hi.at_g I hn u _ mem_take, hi.at_g I hn u _ mem_drop]
  have hset : (BD R.G D x).set (BD (R.G.take e) D x).length (.box b (cs' (upd x i u))) = BD (R.G.take e) D x ++ .box b (cs' (upd x i u)) :: BD (R.G.drop (e + 1)) D x := by
    rw [hB1]; simp
  rw [hset] at j
  have := j.putN d (F u)
  simpa using this
end

end Go.Proofs.Ythgcgciceejicaa

namespace Go.Proofs.Ythgcgciceejicaa
open Go.RowKit
set_option linter.unusedVariables false

theorem Sl.of_rs {h : Vw} {k : Nat} {v : Value} {l : List (List Value)} (r : RS h k v l) : Sl h.w k v l := by
  rcases r with r | ⟨b, off, cap, e, h1, h2, hb, hn, hc⟩
  · exact .inl r
  · exact .inr ⟨b, off, cap, e, h1, h2, hb, fun i r hi j u hj => hc i r hi j u hj⟩
theorem C0.of_e {P : Program} {f : FuncId} {args : Array Value} {v : Value} {h : Vw} (hc : Calls P f args h.w (GivesE v h.w)) : C0 P f args h (fun r _ => r = v) := by
  intro _ _ _ _
  refine hc.mono ?_
  rintro e w' ⟨rfl, hb⟩
  exact ⟨_, [], rfl, Low.of_below hb.below, (fun x hx => by cases hx), rfl, rfl⟩
theorem own_ent {w : World} {base : Nat} {e : TypeId} {k : Nat} {v : Value} {l : List (List Value)} (h : Own w base e k v l.length l.flatten) (hk : Len k l) : Ent.ok base w (.row v e k l) := ⟨h.own, hk⟩
theorem CRow.of_own {P : Program} {f : FuncId} {args : Array Value} {e : TypeId} {k : Nat} {l : List (List Value)} {h : Vw} (hk : Len k l) (hc : Calls P f args h.w (GivesOwn e k l h.w)) : CRow P f args h e k (fun _ rows => rows = l) := by
  intro _ _ _ _
  refine hc.mono ?_
  rintro en w' ⟨v, rfl, ho, hb⟩
  exact ⟨_, [], rfl, Low.of_below hb.below, (fun x hx => by cases hx), rfl, l, own_ent ho hk, rfl⟩
theorem rs_of_own {w : World} {base : Nat} {e : TypeId} {k : Nat} {v : Value} {l : List (List Value)} {bad : List Nat} (h : Own w base e k v l.length l.flatten) (hk : Len k l) (hb : ∀ b ∈ bad, b < base) : RS ⟨w, bad⟩ k v l :=
  row_rs (own_ent h hk) fun b hb' hm => by have := (h.own.lt b hb').1; have := hb b hm; omega
theorem C0.of_own {P : Program} {f : FuncId} {args : Array Value} {e : TypeId} {k : Nat} {l : List (List Value)} {h : Vw} (hk : Len k l) (hc : Calls P f args h.w (GivesOwn e k l h.w)) : C0 P f args h (fun v h' => ∃ u, v = .slice (sA u) (sN u) (sC u) ∧ RS h' k (.slice (sA u) (sN u) (sC u)) l) := by
  intro _ _ _ hbad
  refine hc.mono ?_
  rintro en w' ⟨v, rfl, ho, hb⟩
  have hr := rs_of_own (bad := h.bad) ho hk hbad
  obtain ⟨A, c, rfl, -⟩ := hr.form
  exact ⟨_, [], rfl, Low.of_below hb.below, (fun x hx => by cases hx), rfl, .slice A l.length c, rfl, hr⟩
end Go.Proofs.Ythgcgciceejicaa
