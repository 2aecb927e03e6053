/-
  A walk by certificates: the steps of plain regions, control, the ends.
-/
import Derived.Test.YtgjndkphfabnnaaSx
import Derived.Deep.Upon
import Derived.Maps.AppendAt
namespace Go.Proofs.Ytgjndkphfabnnaa
open Go.RowKit

def notSel : Op → Bool
  | .select _ _ => false
  | _ => true
def opsKnown (E : List (Nat × Value)) (o : Oper) : Bool := notSel o.op && o.op.operands.toList.all (fun x => (evE E x).isSome)
/-- An operation that is always done, writes slot d, and whose operands are known. -/
def okOp (C : Fx) (E : List (Nat × Value)) (o : Oper) (d : Nat) : Bool :=
  o.guard.isNone && (match o.dst with | some x => Nat.beq x d | none => false) && Nat.blt d C.N && opsKnown E o

section
variable {P : Program} {C : Fx} {E E' : List (Nat × Value)} {B B' : List Ent} {h h' : Vw} {a a' : Act} {w w' : World} {ops : Array Oper} {rest : List Oper} {o : Oper} {Q : Exit → Act → World → Prop} {K : Act → World → Prop}

theorem okOp_parts {d : Nat} (hk : okOp C E o d = true) : o.guard = none ∧ o.dst = some d ∧ d < C.N ∧ opsKnown E o = true := by
  unfold okOp at hk
  simp only [Bool.and_eq_true] at hk
  obtain ⟨⟨⟨h1, h2⟩, h3⟩, h4⟩ := hk
  refine ⟨by simpa using h1, ?_, by have := Nat.le_of_ble_eq_true h3; omega, h4⟩
  split at h2
  · rename_i x e
    rw [e, Nat.eq_of_beq_eq_true h2]
  · cases h2

theorem J.putd (hJ : J C E B h a w) {d : Nat} (v : Value) (h2 : o.dst = some d) (hd : d < C.N) : J C ((d, v) :: E) B h (a.put o.dst v) w := by
  rw [h2]; exact hJ.put v hd

theorem run_ev (hJ : Fits E a) (hk : opsKnown E o = true) : execOp a.eval o = execOp (evD E) o := by
  unfold opsKnown at hk
  rw [Bool.and_eq_true] at hk
  refine execOp_congr o (fun cs b e => by rw [e] at hk; simp [notSel] at hk) (fun x hx => ?_)
  have := List.all_eq_true.1 hk.2 x (by simpa using hx)
  obtain ⟨v, hv⟩ := Option.isSome_iff_exists.1 this
  rw [hJ.ev hv]
  simp [evD, hv]

/-! ### One operation -/
theorem w_pure (hJ : J C E B h a w) {d : Nat} (v : Value) (hk : okOp C E o d = true) (hr : ∀ w, (execOp (evD E) o).run P w = .ok (.value v) w) (k : ∀ a, J C ((d, v) :: E) B h a w → K a w) : o.wp P a w K Q := by
  obtain ⟨-, h2, h3, h4⟩ := okOp_parts hk
  unfold Oper.wp
  rw [run_ev hJ.fits h4, hr]
  exact k _ (hJ.putd v h2 h3)
theorem s_pure (hJ : J C E B h a w) (d : Nat) (v : Value) (hk : okOp C E o d = true) (hr : ∀ w, (execOp (evD E) o).run P w = .ok (.value v) w) (k : ∀ a, J C ((d, v) :: E) B h a w → wpList P ops Q rest a w) : wpList P ops Q (o :: rest) a w :=
  wpList_plain (okOp_parts hk).1 fun _ hK => w_pure hJ v hk hr fun _ hj => hK _ _ (k _ hj)
/-- The same, the value written otherwise. -/
theorem s_pure' (hJ : J C E B h a w) (d : Nat) (v v' : Value) (hv : v = v') (hk : okOp C E o d = true) (hr : ∀ w, (execOp (evD E) o).run P w = .ok (.value v) w) (k : ∀ a, J C ((d, v') :: E) B h a w → wpList P ops Q rest a w) : wpList P ops Q (o :: rest) a w :=
  s_pure hJ d v' hk (fun w => by rw [← hv]; exact hr w) k

theorem i64_wrap {n : Int} (h0 : -9223372036854775808 ≤ n) (h1 : n ≤ 9223372036854775807) : Value.int .i64 (IntKind.i64.wrap n) = .int .i64 n := by
  rw [IntWalk.i64_in n (by omega)]

theorem run_eq {r : Result Next} {v0 v : Value} (h : r = .ok (.value v0) w) (e : v0 = v) : r = .ok (.value v) w := by rw [h, e]
def notEq : BinOp → Bool
  | .eql | .neq => false
  | _ => true
theorem run_guard {op : BinOp} (hne : notEq op = true) (t : TypeId) (x y : Operand) (va vb : Value) (w : World) : (eqGuard op t x y va vb).run P w = .ok () w := by
  unfold eqGuard
  cases op <;> first | rfl | cases hne
theorem pick_or {c b : Bool} : (if c = true then Value.bool true else Value.bool b) = .bool (c || b) := by cases c <;> rfl
theorem pick_and {c a : Bool} : (if c = true then Value.bool a else Value.bool false) = .bool (c && a) := by cases c <;> rfl
/-- A binary operation, by its operands' values. -/
theorem run_bin {ρ : Operand → Value} {op : BinOp} {t yt : TypeId} {x y : Operand} {va vb v : Value} (ho : o.op = .binOp op t x y yt) (hx : ρ x = va) (hy : ρ y = vb) (hne : notEq op = true) (hr : (binOp op t va vb).run P w = .ok v w) : (execOp ρ o).run P w = .ok (.value v) w := by
  unfold execOp
  simp only [ho, hx, hy, Sem.run_bind, run_guard hne, Sem.run_pure, Result.andThen_ok, hr]
theorem run_rem {t : TypeId} (a b : Int) (w : World) (ha : 0 ≤ a) (hb : 0 < b) : (binOp .rem t (.int .i64 a) (.int .i64 b)).run P w = .ok (.int .i64 (a % b)) w := by
  have h0 : ¬ b = 0 := by omega
  simp [binOp, Op.intDiv, h0, Int.tmod_eq_emod_of_nonneg ha]
theorem run_quo {t : TypeId} (a b : Int) (w : World) (ha : 0 ≤ a ∧ a ≤ 9223372036854775807) (hb : 0 < b) : (binOp .quo t (.int .i64 a) (.int .i64 b)).run P w = .ok (.int .i64 (a / b)) w := by
  have h0 : ¬ b = 0 := by omega
  have := IntWalk.i64_quo a b ⟨ha.1, ha.2, by omega⟩
  simp [binOp, Op.intDiv, h0, this]
theorem run_indexAddr {ρ : Operand → Value} {t e : TypeId} {x y : Operand} {b off n cap k kk : Nat} (ho : o.op = .indexAddr t x y) (hx : ρ x = .slice (some ⟨b, off, none⟩) n cap) (hy : ρ y = .int .i64 (k : Int)) (hk : k < n) (ht : P.underlying t = some (.slice e)) (he : (P.info? e).map (·.size) = some kk) :
    (execOp ρ o).run P w = .ok (.value (.pointer (some ⟨b, off + k * kk, none⟩))) w := by
  have hsz : (sizeOf e).run P w = .ok kk w := by
    cases hq : P.info? e with
    | none => simp [hq] at he
    | some inf =>
      simp [hq] at he
      simp [sizeOf, typeInfo, hq, he]
  have hlt2 : ¬ n ≤ k := by omega
  unfold execOp
  simp [ho, hx, hy, Instr.indexAt, asIntOf, run_underlying ht, hsz, Addr.add_mid, hlt2]

/-- A new block: of the call's own. -/
theorem s_new (hJ : J C E B h a w) (d : Nat) (v : Nat → Value) (cs : List Value) (t : TypeId) (hk : okOp C E o d = true) (hr : ∀ w, (execOp (evD E) o).run P w = .ok (.value (v w.heap.size)) (w.alloc (.cells cs.toArray t)))
    (k : ∀ b a w, J C ((d, v b) :: E) (.box b cs :: B) h a w → wpList P ops Q rest a w) : wpList P ops Q (o :: rest) a w := by
  obtain ⟨h1, h2, h3, h4⟩ := okOp_parts hk
  refine wpList_plain h1 fun _ hK => ?_
  unfold Oper.wp
  rw [run_ev hJ.fits h4, hr]
  exact hK _ _ (k _ _ _ ((hJ.new cs t).putd _ h2 h3))
/-- A new block: known, never written. -/
theorem s_fact (hJ : J C E B h a w) (d : Nat) (v : Nat → Value) (cs : List Value) (t : TypeId) (hk : okOp C E o d = true) (hr : ∀ w, (execOp (evD E) o).run P w = .ok (.value (v w.heap.size)) (w.alloc (.cells cs.toArray t)))
    (k : ∀ b h' a w, Sees h h' → Cells h' b 0 cs → J C ((d, v b) :: E) B h' a w → wpList P ops Q rest a w) : wpList P ops Q (o :: rest) a w := by
  obtain ⟨h1, h2, h3, h4⟩ := okOp_parts hk
  refine wpList_plain h1 fun _ hK => ?_
  unfold Oper.wp
  rw [run_ev hJ.fits h4, hr]
  obtain ⟨h', s, c, j⟩ := hJ.fact cs t
  exact hK _ _ (k _ _ _ _ s c (j.putd _ h2 h3))

/-! ### Loads and stores -/
def loadsAs (P : Program) (t : TypeId) (cs : List Value) (off : Nat) : Option Value :=
  match P.underlying t, P.info? t with
  | some d, some i => match d.isRow with
    | true => match Nat.ble (off + i.size) cs.length with
      | true => some (.agg ((cs.drop off).take i.size).toArray)
      | false => none
    | false => cs[off]?
  | _, _ => none

theorem run_loads {b o0 off : Nat} {t : TypeId} {cs : List Value} {v : Value} (hc : w.rangeAt b o0 cs) (hv : loadsAs P t cs off = some v) :
    (Instr.loadAt t (.pointer (some ⟨b, o0 + off, none⟩))).run P w = .ok v w := by
  unfold loadsAs at hv
  split at hv
  · rename_i d i hu hi
    split at hv
    · rename_i hrow
      split at hv
      · rename_i hle
        simp only [Option.some.injEq] at hv
        subst hv
        have hle := Nat.le_of_ble_eq_true hle
        refine run_loadAt_mid w b (o0 + off) t _ d (fun j u hu => ?_) hu hrow (by rw [hi]; simp; omega)
        rw [List.getElem?_take] at hu
        split at hu
        · rw [List.getElem?_drop] at hu
          rw [Nat.add_assoc]
          exact hc _ _ hu
        · cases hu
      · cases hv
    · rename_i hrow
      have hcell := hc off v hv
      have hagg : (isAgg t).run P w = .ok false w := by
        unfold isAgg
        rw [Sem.run_bind, run_underlying hu w]
        cases d <;> simp_all
      simp [Instr.loadAt, Instr.sureAddr, loadVar, Sem.run_bind, hagg, load, Sem.run, hcell]
  · cases hv

theorem box_range {b : Nat} {cs : List Value} (hb : Box w b cs) : w.rangeAt b 0 cs := fun j v hv => by rw [Nat.zero_add]; exact hb.cells j v hv

theorem w_load {t : TypeId} {x : Operand} (hJ : J C E B h a w) {d : Nat} (v : Value) (hk : okOp C E o d = true) (ho : o.op = .load t x) {b off o0 : Nat} (hx : evE E x = some (.pointer (some ⟨b, o0 + off, none⟩)))
    {cs : List Value} (hc : w.rangeAt b o0 cs) (hv : loadsAs P t cs off = some v) (k : ∀ a, J C ((d, v) :: E) B h a w → K a w) : o.wp P a w K Q := by
  obtain ⟨-, h2, h3, h4⟩ := okOp_parts hk
  unfold Oper.wp execOp
  simp only [ho, hJ.fits.ev hx, Sem.run_bind, Sem.run_pure, Result.andThen_ok, run_loads hc hv]
  exact k _ (hJ.putd v h2 h3)
/-- A load out of a block of the call's own. -/
theorem s_load {t : TypeId} {x : Operand} (hJ : J C E B h a w) (d : Nat) (v : Value) (i : Nat) {b off : Nat} {cs : List Value} (hk : okOp C E o d = true) (ho : o.op = .load t x) (hB : B[i]? = some (.box b cs)) (hx : evE E x = some (.pointer (some ⟨b, off, none⟩)))
    (hv : loadsAs P t cs off = some v) (k : ∀ a, J C ((d, v) :: E) B h a w → wpList P ops Q rest a w) : wpList P ops Q (o :: rest) a w :=
  wpList_plain (okOp_parts hk).1 fun _ hK => w_load hJ v hk ho (o0 := 0) (off := off) (by rw [Nat.zero_add]; exact hx) (box_range (hJ.ents _ (List.mem_of_getElem? hB))) hv fun _ hj => hK _ _ (k _ hj)
/-- A load of cells that are known. -/
theorem s_loadf {t : TypeId} {x : Operand} (hJ : J C E B h a w) (d : Nat) (v : Value) {g : Vw} {b off o0 : Nat} {cs : List Value} (hc : Cells g b o0 cs) (hs : Sees g h) (hk : okOp C E o d = true) (ho : o.op = .load t x) (hx : evE E x = some (.pointer (some ⟨b, o0 + off, none⟩)))
    (hv : loadsAs P t cs off = some v) (k : ∀ a, J C ((d, v) :: E) B h a w → wpList P ops Q rest a w) : wpList P ops Q (o :: rest) a w :=
  wpList_plain (okOp_parts hk).1 fun _ hK => w_load hJ v hk ho (o0 := o0) (off := off) hx (hc.sees (hs.trans hJ.sees)).lies hv fun _ hj => hK _ _ (k _ hj)

/-- A load of cells that were there when the call began. -/
theorem s_loadl {t : TypeId} {x : Operand} (hJ : J C E B h a w) (d : Nat) (v : Value) {m : List Nat} {b off o0 : Nat} {cs : List Value} (hc : Cells ⟨C.w0, m⟩ b o0 cs) (hm : ∀ b ∈ C.wr, b ∈ m) (hk : okOp C E o d = true) (ho : o.op = .load t x) (hx : evE E x = some (.pointer (some ⟨b, o0 + off, none⟩)))
    (hv : loadsAs P t cs off = some v) (k : ∀ a, J C ((d, v) :: E) B h a w → wpList P ops Q rest a w) : wpList P ops Q (o :: rest) a w :=
  wpList_plain (okOp_parts hk).1 fun _ hK => w_load hJ v hk ho (o0 := o0) (off := off) hx (hc.sees (hJ.lent hm)).lies hv fun _ hj => hK _ _ (k _ hj)

/-- A pointer to element i of a slice of rows. -/
theorem s_index {t e : TypeId} {x y : Operand} (hJ : J C E B h a w) (d : Nat) {A : Option Addr} {n cap i kk : Nat} {g : Vw} {l : List (List Value)} {r : List Value} (hr : RS g kk (.slice A n cap) l) (hi : l[i]? = some r) (hk : okOp C E o d = true) (ho : o.op = .indexAddr t x y)
    (hx : evE E x = some (.slice A n cap)) (hy : evE E y = some (.int .i64 (i : Int))) (ht : P.underlying t = some (.slice e)) (he : (P.info? e).map (·.size) = some kk)
    (k : ∀ b off a, Cells g b off r → J C ((d, .pointer (some ⟨b, off, none⟩)) :: E) B h a w → wpList P ops Q rest a w) : wpList P ops Q (o :: rest) a w := by
  obtain ⟨h1, h2, h3, h4⟩ := okOp_parts hk
  obtain ⟨b, off, rfl, rfl, hc⟩ := hr.row hi
  have hlt := (List.getElem?_eq_some_iff.1 hi).1
  refine wpList_plain h1 fun _ hK => ?_
  have hsz : (sizeOf e).run P w = .ok kk w := by
    cases hq : P.info? e with
    | none => simp [hq] at he
    | some inf =>
      simp [hq] at he
      simp [sizeOf, typeInfo, hq, he]
  have hrun : (Instr.indexAt t (.slice (some ⟨b, off, none⟩) l.length cap) (.int .i64 (i : Int))).run P w = .ok (.pointer (some ⟨b, off + i * kk, none⟩)) w := by
    have hlt' : (0 : Int) ≤ (i : Int) ∧ (i : Int) < (l.length : Int) := ⟨by omega, by omega⟩
    have hlt2 : ¬ l.length ≤ i := by omega
    simp [Instr.indexAt, asIntOf, run_underlying ht, hsz, Addr.add_mid, hlt2]
  unfold Oper.wp execOp
  simp only [ho, hJ.fits.ev hx, hJ.fits.ev hy, Sem.run_bind, Sem.run_pure, Result.andThen_ok, hrun]
  exact hK _ _ (k _ _ _ hc (hJ.putd _ h2 h3))

def putMany (cs : List Value) (off : Nat) (vs : List Value) : List Value := cs.take off ++ vs ++ cs.drop (off + vs.length)
def storesOk (P : Program) (t : TypeId) (cs : List Value) (off : Nat) (v : Value) : Bool :=
  (match P.info? t with | some i => Nat.beq v.cells.size i.size | none => false) && Nat.ble (off + v.cells.size) cs.length && v.cells.toList.all (·.oneCell')

theorem box_setCells {b : Nat} {cs vs : List Value} {off : Nat} (hb : Box w b cs) (hl : off + vs.length ≤ cs.length) : Box (w.setCells b off vs) b (putMany cs off vs) := by
  have hs : ∀ (vs : List Value) (o : Nat) (w : World), (w.setCells b o vs).heap.size = w.heap.size := by
    intro vs
    induction vs with
    | nil => intro o w; rfl
    | cons v r ih => intro o w; show ((w.setCell ⟨b, o, none⟩ v).setCells b (o + 1) r).heap.size = _; rw [ih]; simp [World.setCell]
  refine ⟨by rw [hs]; exact hb.lt, fun i v hv => ?_, fun i => by rw [World.frozen?_setCells]; exact hb.free i⟩
  have htl : (cs.take off).length = off := by rw [List.length_take]; omega
  unfold putMany at hv
  rw [List.append_assoc] at hv
  rcases Nat.lt_or_ge i off with g | g
  · rw [List.getElem?_append_left (by omega), List.getElem?_take, if_pos g] at hv
    rw [World.cell?_setCells_out b vs off w ⟨b, i, none⟩ (fun _ _ => .inl g)]
    exact hb.cells i v hv
  · rw [List.getElem?_append_right (by omega), htl] at hv
    rcases Nat.lt_or_ge i (off + vs.length) with g' | g'
    · rw [List.getElem?_append_left (by omega)] at hv
      have h0 : ∀ j, j < vs.length → (w.cell? ⟨b, off + j, none⟩).isSome = true := fun j hj => by
        rw [hb.cells (off + j) _ (List.getElem?_eq_getElem (by omega))]; rfl
      have := World.cell?_setCells_in b vs off w h0 (i - off) (by omega)
      rw [show off + (i - off) = i by omega] at this
      rw [this, ← hv, List.getElem?_eq_getElem]
    · rw [List.getElem?_append_right (by omega), List.getElem?_drop] at hv
      rw [World.cell?_setCells_out b vs off w ⟨b, i, none⟩ (fun _ _ => .inr g')]
      exact hb.cells i v (by rw [← hv]; congr 1; omega)

theorem J.seti (hJ : J C E B h a w) {i b : Nat} {cs cs' : List Value} (hB : B[i]? = some (.box b cs)) (hw : w'.os = w.os ∧ w'.tape = w.tape ∧ w'.output = w.output ∧ w'.heap.size = w.heap.size)
    (ho : ∀ k, k ≠ b → w'.heap[k]? = w.heap[k]?) (hb : Box w' b cs') : J C E (B.set i (.box b cs')) h a w' := by
  have hi := (List.getElem?_eq_some_iff.1 hB).1
  have e1 : B = B.take i ++ .box b cs :: B.drop (i + 1) := by
    have := List.set_eq_take_append_cons_drop (l := B) (i := i) (a := .box b cs)
    rw [if_pos hi] at this
    rw [← this]
    refine (List.ext_getElem? fun j => ?_)
    rw [List.getElem?_set]
    split
    · subst_vars; rw [hB]
    · rfl
  have := List.set_eq_take_append_cons_drop (l := B) (i := i) (a := .box b cs')
  rw [if_pos hi] at this
  rw [this]
  exact hJ.set e1 hw ho hb

theorem run_store_box {t : TypeId} {v : Value} {b off : Nat} {cs : List Value} (hb : Box w b cs) (hv : storesOk P t cs off v = true) :
    ∃ w', (Instr.storeAt t (.pointer (some ⟨b, off, none⟩)) v).run P w = .ok () w' ∧ (w'.os = w.os ∧ w'.tape = w.tape ∧ w'.output = w.output ∧ w'.heap.size = w.heap.size) ∧ (∀ k, k ≠ b → w'.heap[k]? = w.heap[k]?) ∧ Box w' b (putMany cs off v.cells.toList) := by
  unfold storesOk at hv
  simp only [Bool.and_eq_true] at hv
  obtain ⟨⟨h1, h2⟩, h3⟩ := hv
  have h2 := Nat.le_of_ble_eq_true h2
  have hl : off + v.cells.toList.length ≤ cs.length := by simpa using h2
  have hsz : (sizeOf t).run P w = .ok v.cells.size w := by
    cases hq : P.info? t with
    | none => simp [hq] at h1
    | some inf =>
      simp only [hq] at h1
      simp [sizeOf, typeInfo, hq, Nat.eq_of_beq_eq_true h1]
  refine ⟨w.setCells b off v.cells.toList, ?_, ⟨World.os_setCells _ _ _ _, ?_, World.output_setCells _ _ _ _, ?_⟩, fun j hj => ?_, box_setCells hb hl⟩
  · have := run_storeCells_cells (P := P) b off v.cells.toList 0 w (fun j hj => by rw [Nat.add_zero, hb.cells (off + j) _ (List.getElem?_eq_getElem (by omega))]; rfl) (fun j hj => hb.free _) (fun u hu => List.all_eq_true.1 h3 u hu)
    rw [Nat.add_zero] at this
    simp [Instr.storeAt, Instr.sureAddr, storeVar, hsz, this]
  · have ht : ∀ (vs : List Value) (o : Nat) (w : World), (w.setCells b o vs).tape = w.tape := by
      intro vs
      induction vs with
      | nil => intro o w; rfl
      | cons v r ih => intro o w; show ((w.setCell ⟨b, o, none⟩ v).setCells b (o + 1) r).tape = _; rw [ih]; rfl
    exact ht _ _ _
  · have hs : ∀ (vs : List Value) (o : Nat) (w : World), (w.setCells b o vs).heap.size = w.heap.size := by
      intro vs
      induction vs with
      | nil => intro o w; rfl
      | cons v r ih => intro o w; show ((w.setCell ⟨b, o, none⟩ v).setCells b (o + 1) r).heap.size = _; rw [ih]; simp [World.setCell]
    exact hs _ _ _
  · have hq : ∀ (vs : List Value) (o : Nat) (w : World), (w.setCells b o vs).heap[j]? = w.heap[j]? := by
      intro vs
      induction vs with
      | nil => intro o w; rfl
      | cons v r ih => intro o w; show ((w.setCell ⟨b, o, none⟩ v).setCells b (o + 1) r).heap[j]? = _; rw [ih]; exact Below.heap_setCell _ _ _ _ hj
    exact hq _ _ _

/-- A store into a block of the call's own. -/
theorem s_store {t : TypeId} {x y : Operand} (hJ : J C E B h a w) (i : Nat) (v : Value) {b off : Nat} {cs : List Value} (cs' : List Value) (hg : (o.guard.isNone && o.dst.isNone) = true) (ho : o.op = .store t x y) (hB : B[i]? = some (.box b cs)) (hx : evE E x = some (.pointer (some ⟨b, off, none⟩))) (hy : evE E y = some v)
    (hv : storesOk P t cs off v = true) (hc : putMany cs off v.cells.toList = cs') (k : ∀ w, J C E (B.set i (.box b cs')) h a w → wpList P ops Q rest a w) : wpList P ops Q (o :: rest) a w := by
  subst hc
  rw [Bool.and_eq_true] at hg
  have hg1 : o.guard = none := by simpa using hg.1
  have hg2 : o.dst = none := by simpa using hg.2
  refine wpList_plain hg1 fun _ hK => ?_
  have hb : Box w b cs := hJ.ents _ (List.mem_of_getElem? hB)
  obtain ⟨w', hrun, k1, k2, k3⟩ := run_store_box (P := P) hb hv
  unfold Oper.wp execOp
  simp only [ho, hJ.fits.ev hx, hJ.fits.ev hy, Sem.run_bind, Sem.run_pure, Result.andThen_ok, hrun]
  have hput : a.put o.dst undef = a := by rw [hg2]; rfl
  simp only [Oper.upon, hput]
  exact hK _ _ (k _ (hJ.seti hB k1 k2 k3))
end

/-! ### Calls -/
def BoxesOk (w : World) (l : List (Nat × List Value)) : Prop := ∀ x ∈ l, Box w x.1 x.2
/-- What a call gives, told by views: it writes the blocks of Bi alone, and R holds of its value, of what those blocks hold then, and of the view behind it. -/
def Con (P : Program) (f : FuncId) (args : Array Value) (h : Vw) (Bi : List (Nat × List Value)) (R : Value → List (List Value) → Vw → Prop) : Prop :=
  BoxesOk h.w Bi → (Bi.map (·.1)).Nodup → (∀ x ∈ Bi, x.1 ∈ h.bad) → (∀ b ∈ h.bad, b < h.w.heap.size) →
  Calls P f args h.w fun e w' => ∃ v Bo, e = .returned v ∧ Low (Bi.map (·.1)) h.w w' ∧ BoxesOk w' Bo ∧ Bo.map (·.1) = Bi.map (·.1) ∧ R v (Bo.map (·.2)) ⟨w', h.bad⟩
/-- .. one that writes nothing. -/
abbrev C0 (P : Program) (f : FuncId) (args : Array Value) (h : Vw) (R : Value → Vw → Prop) : Prop := Con P f args h [] (fun v _ h' => R v h')
/-- .. one that writes one block. -/
abbrev C1 (P : Program) (f : FuncId) (args : Array Value) (h : Vw) (b : Nat) (cs : List Value) (R : Value → List Value → Vw → Prop) : Prop := Con P f args h [(b, cs)] (fun v l h' => ∃ cs', l = [cs'] ∧ R v cs' h')

section
variable {P : Program} {C : Fx} {E E' : List (Nat × Value)} {B B' : List Ent} {h h' : Vw} {a a' : Act} {w w' : World} {ops : Array Oper} {rest : List Oper} {o : Oper} {Q : Exit → Act → World → Prop} {K : Act → World → Prop}

theorem J.called (hJ : J C E B h a w) (hl : Low [] w w') : J C E B ⟨w', blk B ++ C.bad0⟩ a w' ∧ Sees h ⟨w', blk B ++ C.bad0⟩ := ⟨(hJ.grow hl).now, (hJ.grow hl).sees⟩

theorem w_call {f : FuncId} {args : Array Value} {R : Value → Vw → Prop} (hJ : J C E B h a w) {d : Nat} (hc : C0 P f args ⟨w, blk B ++ C.bad0⟩ R) (hk : okOp C E o d = true) (hr : ∀ w, (execOp (evD E) o).run P w = .ok (.enter f args) w)
    (k : ∀ v h' a w, Sees h h' → R v h' → J C ((d, v) :: E) B h' a w → K a w) : o.wp P a w K Q := by
  obtain ⟨h1, h2, h3, h4⟩ := okOp_parts hk
  unfold Oper.wp
  rw [run_ev hJ.fits h4, hr]
  refine (hc (by intro x hx; cases hx) (by simp) (by simp) (bad_lt hJ)).mono ?_
  rintro e w' ⟨v, Bo, rfl, hl, -, -, hR⟩
  obtain ⟨j, s⟩ := hJ.called hl
  exact k v _ _ _ s hR (j.putd v h2 h3)
theorem s_call {f : FuncId} {args : Array Value} {R : Value → Vw → Prop} (hJ : J C E B h a w) (d : Nat) (hc : C0 P f args ⟨w, blk B ++ C.bad0⟩ R) (hk : okOp C E o d = true) (hr : ∀ w, (execOp (evD E) o).run P w = .ok (.enter f args) w)
    (k : ∀ v h' a w, Sees h h' → R v h' → J C ((d, v) :: E) B h' a w → wpList P ops Q rest a w) : wpList P ops Q (o :: rest) a w :=
  wpList_plain (okOp_parts hk).1 fun _ hK => w_call hJ hc hk hr fun _ _ _ _ s r j => hK _ _ (k _ _ _ _ s r j)

/-- A call that writes one block of the caller's. -/
theorem J.called1 (hJ : J C E B h a w) {i b : Nat} {cs cs' : List Value} (hB : B[i]? = some (.box b cs)) (hl : Low [b] w w') (hb : Box w' b cs') :
    J C E (B.set i (.box b cs')) ⟨w', blk B ++ C.bad0⟩ a w' ∧ Sees h ⟨w', blk B ++ C.bad0⟩ := by
  have hbm : b ∈ blk B := List.mem_flatMap.2 ⟨_, List.mem_of_getElem? hB, by simp [Ent.blocks]⟩
  have hset : blk (B.set i (.box b cs')) = blk B := by
    clear hJ hl hb hbm
    induction B generalizing i with
    | nil => simp
    | cons x B ih =>
      cases i with
      | zero => simp at hB; subst hB; simp [blk, Ent.blocks]
      | succ i =>
        have := ih (i := i) (by simpa using hB)
        simp only [blk, List.set_cons_succ, List.flatMap_cons] at this ⊢
        rw [this]
  have hne : ∀ (j : Nat) (e : Ent), B[j]? = some e → j ≠ i → b ∉ e.blocks := by
    have hnd := hJ.nodup
    clear hJ hl hb hbm hset
    intro j e hj hji hm
    induction B generalizing i j with
    | nil => simp at hj
    | cons x B ih =>
      simp only [blk, List.flatMap_cons, List.nodup_append] at hnd
      obtain ⟨n1, n2, n3⟩ := hnd
      cases i with
      | zero =>
        cases j with
        | zero => exact hji rfl
        | succ j =>
          simp at hB hj
          subst hB
          exact n3 b (by simp [Ent.blocks]) b (List.mem_flatMap.2 ⟨e, List.mem_of_getElem? hj, hm⟩) rfl
      | succ i =>
        cases j with
        | zero =>
          simp at hB hj
          subst hj
          exact n3 b hm b (List.mem_flatMap.2 ⟨_, List.mem_of_getElem? hB, by simp [Ent.blocks]⟩) rfl
        | succ j => exact ih (i := i) (j := j) (by simpa using hB) n2 (by simpa using hj) (by omega)
  have hbb : b < h.w.heap.size → b ∈ h.bad := fun hlt => hJ.sees.bad b (List.mem_append_left _ hbm) hlt
  have hsee : Sees h ⟨w', blk B ++ C.bad0⟩ := ⟨Nat.le_trans hJ.sees.size hl.size, fun k hk hn => (hl.block k (Nat.lt_of_lt_of_le hk hJ.sees.size) (by
    simp only [List.mem_singleton]
    rintro rfl
    exact hn (hbb hk))).trans (hJ.sees.block k hk hn), hJ.sees.bad⟩
  refine ⟨⟨hJ.fits, hJ.size, hJ.defers, ⟨hl.os.trans hJ.low.os, hl.tape.trans hJ.low.tape, hl.output.trans hJ.low.output, Nat.le_trans hJ.low.size hl.size, fun k hk hm => ?_⟩, by rw [hset]; exact Sees.refl _, fun e he => ?_, by rw [hset]; exact hJ.nodup, by rw [hset]; exact hJ.own, hJ.badlt⟩, hsee⟩
  · refine (hl.block k (Nat.lt_of_lt_of_le hk hJ.low.size) (by
      simp only [List.mem_singleton]
      rintro rfl
      rcases hJ.own _ hbm with g | g
      · omega
      · exact hm g)).trans (hJ.low.block k hk hm)
  · obtain ⟨j, hj⟩ := List.getElem?_of_mem he
    rw [List.getElem?_set] at hj
    split at hj
    · split at hj
      · simp only [Option.some.injEq] at hj; subst hj; exact hb
      · cases hj
    · rename_i hji
      have hB' : e ∈ B := List.mem_of_getElem? hj
      exact ok_block (hJ.ents e hB') hl.size (fun k hk => hl.block k (blk_lt hJ k (List.mem_flatMap.2 ⟨e, hB', hk⟩)) (by
        simp only [List.mem_singleton]
        rintro rfl
        exact hne j e hj (fun e => hji e.symm) hk))

theorem w_call1 {f : FuncId} {args : Array Value} {R : Value → List Value → Vw → Prop} (hJ : J C E B h a w) {d : Nat} (i : Nat) {b : Nat} {cs : List Value} (hc : C1 P f args ⟨w, blk B ++ C.bad0⟩ b cs R) (hB : B[i]? = some (.box b cs)) (hk : okOp C E o d = true) (hr : ∀ w, (execOp (evD E) o).run P w = .ok (.enter f args) w)
    (k : ∀ v cs' h' a w, Sees h h' → R v cs' h' → J C ((d, v) :: E) (B.set i (.box b cs')) h' a w → K a w) : o.wp P a w K Q := by
  obtain ⟨h1, h2, h3, h4⟩ := okOp_parts hk
  have hbm : b ∈ blk B := List.mem_flatMap.2 ⟨_, List.mem_of_getElem? hB, by simp [Ent.blocks]⟩
  unfold Oper.wp
  rw [run_ev hJ.fits h4, hr]
  refine (hc (by intro x hx; simp at hx; subst hx; exact hJ.ents _ (List.mem_of_getElem? hB)) (by simp) (by simp [hbm]) (bad_lt hJ)).mono ?_
  rintro e w' ⟨v, Bo, rfl, hl, hbo, hbm, cs', hcs, hR⟩
  have hBo : Bo = [(b, cs')] := by
    match Bo, hbm, hcs with
    | [x], hbm, hcs => simp at hbm hcs; obtain ⟨x1, x2⟩ := x; simp at hbm hcs; rw [hbm, hcs]
    | [], hbm, _ => simp at hbm
    | _ :: _ :: _, hbm, _ => simp at hbm
  subst hBo
  obtain ⟨j, s⟩ := hJ.called1 (cs' := cs') hB (by simpa using hl) (hbo _ (List.mem_singleton.2 rfl))
  exact k v cs' _ _ _ s hR (j.putd v h2 h3)
theorem s_call1 {f : FuncId} {args : Array Value} {R : Value → List Value → Vw → Prop} (hJ : J C E B h a w) (d : Nat) (i : Nat) {b : Nat} {cs : List Value} (hc : C1 P f args ⟨w, blk B ++ C.bad0⟩ b cs R) (hB : B[i]? = some (.box b cs)) (hk : okOp C E o d = true) (hr : ∀ w, (execOp (evD E) o).run P w = .ok (.enter f args) w)
    (k : ∀ v cs' h' a w, Sees h h' → R v cs' h' → J C ((d, v) :: E) (B.set i (.box b cs')) h' a w → wpList P ops Q rest a w) : wpList P ops Q (o :: rest) a w :=
  wpList_plain (okOp_parts hk).1 fun _ hK => w_call1 hJ i hc hB hk hr fun _ _ _ _ _ s r j => hK _ _ (k _ _ _ _ _ s r j)

/-! ### Control -/
theorem then_normal {K : Act → World → Prop} (k : K a w) : Exit.then K Q .normal a w := k
theorem then_exit {K : Act → World → Prop} {id : Nat} (k : Q (.exit id) a w) : Exit.then K Q (.exit id) a w := k
theorem then_ret {K : Act → World → Prop} (k : Q .ret a w) : Exit.then K Q .ret a w := k
theorem block_normal {id : Nat} (k : Q .normal a w) : Exit.inBlock id Q .normal a w := k
theorem block_ret {id : Nat} (k : Q .ret a w) : Exit.inBlock id Q .ret a w := k
theorem block_same {id : Nat} (k : Q .normal a w) : Exit.inBlock id Q (.exit id) a w := by simpa [Exit.inBlock] using k
theorem block_other {id id' : Nat} (hne : Nat.beq id' id = false) (k : Q (.exit id') a w) : Exit.inBlock id Q (.exit id') a w := by
  have := Nat.ne_of_beq_eq_false hne
  simpa [Exit.inBlock, this] using k
theorem c_true {c : Operand} {x y : Code} {t : Bool} (hJ : J C E B h a w) (hc : evE E c = some (.bool t)) (ht : t = true) (k : x.wp P Q a w) : (Code.cond c x y).wp P Q a w := by
  subst ht; exact wp_cond_true (hJ.fits.ev hc) k
theorem c_false {c : Operand} {x y : Code} {t : Bool} (hJ : J C E B h a w) (hc : evE E c = some (.bool t)) (ht : t = false) (k : y.wp P Q a w) : (Code.cond c x y).wp P Q a w := by
  subst ht; exact wp_cond_false (hJ.fits.ev hc) k
theorem c_split {c : Operand} {x y : Code} {t : Bool} (hJ : J C E B h a w) (hc : evE E c = some (.bool t)) (k1 : t = true → x.wp P Q a w) (k2 : t = false → y.wp P Q a w) : (Code.cond c x y).wp P Q a w :=
  wp_cond_split (hJ.fits.ev hc) k1 k2

theorem least {p : Nat → Prop} (hx : ∃ n, p n) : ∃ n, p n ∧ ∀ m, p m → n ≤ m := by
  obtain ⟨n, hn⟩ := hx
  induction n using Nat.strongRecOn with
  | _ n ih =>
    by_cases hs : ∃ m, m < n ∧ p m
    · obtain ⟨m, hm, hp⟩ := hs
      exact ih m hm hp
    · exact ⟨n, hn, fun m hp => Nat.le_of_not_lt fun hlt => hs ⟨m, hlt, hp⟩⟩

open Classical in
/-- A loop: I holds at every round's head, told by i; a round lowers m. -/
theorem c_loop {ι : Type} {c : Code} (I : ι → Act → World → Prop) (m : ι → Nat) (i0 : ι) (h0 : I i0 a w)
    (round : ∀ i a w, I i a w → c.wp P (Exit.then (fun a' w' => ∃ i', I i' a' w' ∧ m i' < m i) Q) a w) : (Code.loop c).wp P Q a w := by
  refine wp_loop (fun a w => ∃ i, I i a w) (fun a w => if hx : ∃ n, ∃ i, I i a w ∧ m i = n then Classical.choose (least hx) else 0) ⟨i0, h0⟩ (fun a w hI => ?_)
  have hx : ∃ n, ∃ i, I i a w ∧ m i = n := by obtain ⟨i, hi⟩ := hI; exact ⟨_, i, hi, rfl⟩
  obtain ⟨i, hi, hm⟩ := (Classical.choose_spec (least hx)).1
  refine Code.wp_mono (fun e a' w' q => ?_) (round i a w hi)
  cases e with
  | normal =>
    obtain ⟨i', hi', hlt⟩ := q
    have hx' : ∃ n, ∃ i, I i a' w' ∧ m i = n := ⟨_, i', hi', rfl⟩
    refine ⟨⟨i', hi'⟩, ?_⟩
    rw [dif_pos hx, dif_pos hx', ← hm]
    exact Nat.lt_of_le_of_lt ((Classical.choose_spec (least hx')).2 _ ⟨i', hi', rfl⟩) hlt
  | exit id => exact q
  | goto l => exact q
  | ret => exact q
  | panic ch => exact q
  | outgrown => exact q

/-! ### The ends -/
def argE : Nat → List Value → List (Nat × Value)
  | _, [] => []
  | n, v :: l => (n, v) :: argE (n + 1) l

theorem argE_lookup : ∀ (l : List Value) (n d : Nat) (v : Value), lookup (argE n l) d = some v → n ≤ d ∧ l[d - n]? = some v
  | [], _, _, _, h => by simp [argE, lookup] at h
  | x :: l, n, d, v, h => by
    simp only [argE, lookup] at h
    split at h
    · rename_i e
      have e := Nat.eq_of_beq_eq_true e
      simp only [Option.some.injEq] at h
      subst h e
      simp
    · rename_i e
      have e := Nat.ne_of_beq_eq_false e
      obtain ⟨h1, h2⟩ := argE_lookup l (n + 1) d v h
      refine ⟨by omega, ?_⟩
      rw [show d - n = (d - (n + 1)) + 1 by omega]
      simpa using h2

/-- What the call's results are. -/
inductive Res (P : Program) (a : Act) (w : World) : List ResultVar → List Value → Prop
  | nil : Res P a w [] []
  | tmp {t : Tmp} {v : Value} {rs : List ResultVar} {vs : List Value} (h : a.tmps.getD t undef = v) (k : Res P a w rs vs) : Res P a w (.tmp t :: rs) (v :: vs)
  | cell {p : Tmp} {t : TypeId} {v : Value} {rs : List ResultVar} {vs : List Value} {ad : Addr} (hp : a.tmps.getD p undef = .pointer (some ad)) (h : (Instr.loadAt t (.pointer (some ad))).run P w = .ok v w) (k : Res P a w rs vs) : Res P a w (.cell p t :: rs) (v :: vs)

theorem Res.rtmp (hJ : J C E B h a w) {t : Tmp} {v : Value} {rs : List ResultVar} {vs : List Value} (hv : lookup E t = some v) (k : Res P a w rs vs) : Res P a w (.tmp t :: rs) (v :: vs) :=
  .tmp (hJ.fits t v hv) k
theorem Res.rcell (hJ : J C E B h a w) {p : Tmp} {t : TypeId} {v : Value} {rs : List ResultVar} {vs : List Value} (i : Nat) {b : Nat} {cs : List Value} (hB : B[i]? = some (.box b cs)) (hx : lookup E p = some (.pointer (some ⟨b, 0, none⟩))) (hv : loadsAs P t cs 0 = some v) (k : Res P a w rs vs) :
    Res P a w (.cell p t :: rs) (v :: vs) :=
  .cell (ad := ⟨b, 0, none⟩) (hJ.fits p _ hx) (run_loads (o0 := 0) (off := 0) (box_range (hJ.ents _ (List.mem_of_getElem? hB))) hv) k

def pack : List Value → Value
  | [v] => v
  | vs => .tuple vs.toArray

def resOf (a : Act) : ResultVar → Sem Value
  | .tmp t => pure (a.tmps.getD t undef)
  | .cell p t => do loadVar t (← asAddr (a.tmps.getD p undef))
theorem results_eq (fn : Func) (a : Act) : results fn a.tmps = (do let vs ← fn.results.mapM (resOf a); pure (if h : vs.size = 1 then vs[0] else .tuple vs)) := by
  unfold results
  congr 1

theorem mapM_res {rs : List ResultVar} {vs : List Value} (hr : Res P a w rs vs) : (rs.mapM (resOf a)).run P w = .ok vs w := by
  induction hr with
  | nil => rfl
  | tmp h k ih => simp only [List.mapM_cons, resOf, Sem.run_bind, Sem.run_pure, Result.andThen_ok, ih, h]
  | cell hp h k ih =>
    simp only [Instr.loadAt, Instr.sureAddr, Sem.run_bind, Sem.run_pure, Result.andThen_ok] at h
    simp only [List.mapM_cons, resOf, Sem.run_bind, Sem.run_pure, Result.andThen_ok, ih, hp, asAddr, h]

theorem run_results {fn : Func} {vs : List Value} (hr : Res P a w fn.results.toList vs) : (results fn a.tmps).run P w = .ok (pack vs) w := by
  have hm := mapM_res hr
  have hA : (fn.results.mapM (resOf a)).run P w = .ok vs.toArray w := by
    rw [← Array.toArray_toList (xs := fn.results)]
    simp only [List.mapM_toArray, map_eq_pure_bind, Sem.run_bind]
    rw [hm]; rfl
  rw [results_eq, Sem.run_bind, hA]
  simp only [Result.andThen_ok, Sem.run_pure]
  match vs with
  | [] => rfl
  | [v] => rfl
  | _ :: _ :: _ => simp [pack]

/-- A function is walked so. -/
theorem con_start {f : FuncId} {fn : Func} {c : Code} {args : Array Value} {N : Nat} {Bi : List (Nat × List Value)} {R : Value → List (List Value) → Vw → Prop} (hf : P.funcs[f]? = some fn) (hb : fn.body = some c) (hN : fn.ntmps = N) (hle : Nat.ble args.size N = true)
    (body : BoxesOk h.w Bi → (∀ x ∈ Bi, x.1 ∈ h.bad) → ∀ (Q : Exit → Act → World → Prop),
      (∀ {E : List (Nat × Value)} {B : List Ent} {h' : Vw} {a : Act} {w : World} (vs : List Value) (Bp : List Ent) (Bo : List (Nat × List Value)), J ⟨N, h.w, h.bad, Bi.map (·.1)⟩ E B h' a w → Res P a w fn.results.toList vs → B = Bp ++ Bo.map (fun x => .box x.1 x.2) → Bo.map (·.1) = Bi.map (·.1) → R (pack vs) (Bo.map (·.2)) ⟨w, h.bad⟩ → Q .ret a w ∧ Q .normal a w) →
      ∀ a w, J ⟨N, h.w, h.bad, Bi.map (·.1)⟩ (argE 0 args.toList) (Bi.map (fun x => .box x.1 x.2)) h a w → c.wp P Q a w) : Con P f args h Bi R := by
  intro hbox hnd hbad hlt
  have hblk : blk (Bi.map (fun x => Ent.box x.1 x.2)) = Bi.map (·.1) := by
    clear hbox hnd hbad body
    induction Bi with
    | nil => rfl
    | cons x l ih => simp only [blk, List.map_cons, List.flatMap_cons, Ent.blocks] at ih ⊢; rw [ih]; rfl
  have hle := Nat.le_of_ble_eq_true hle
  refine calls_of_wp hf hb ?_
  rw [hN]
  refine body hbox hbad _ (fun {E B h' a w} vs Bp Bo hJ hR hB hm r => ?_) _ _ ⟨fun d v hv => ?_, by simp; omega, rfl, Low.refl _ _, ?_, fun e he => ?_, by rw [hblk]; exact hnd, fun b hb => .inr (by rw [hblk] at hb; exact hb), hlt⟩
  · have hp : bodyPost P fn (fun e w' => ∃ v Bo, e = .returned v ∧ Low (Bi.map (·.1)) h.w w' ∧ BoxesOk w' Bo ∧ Bo.map (·.1) = Bi.map (·.1) ∧ R v (Bo.map (·.2)) ⟨w', h.bad⟩) .ret a w := by
      refine ⟨hJ.defers, pack vs, run_results hR, _, Bo, rfl, hJ.low, fun x hx => ?_, hm, r⟩
      have : Ent.box x.1 x.2 ∈ B := by rw [hB]; exact List.mem_append_right _ (List.mem_map.2 ⟨x, hx, rfl⟩)
      exact hJ.ents _ this
    exact ⟨hp, hp⟩
  · obtain ⟨h1, h2⟩ := argE_lookup _ _ _ _ hv
    simp only [Nat.sub_zero, Array.getElem?_toList] at h2
    have hd := (Array.getElem?_eq_some_iff.1 h2).1
    simp only [Act.eval, Array.getD_eq_getD_getElem?]
    rw [Array.getElem?_append_left hd, h2]
    rfl
  · rw [hblk]
    refine ⟨Nat.le_refl _, fun _ _ _ => rfl, fun b hb _ => ?_⟩
    rcases List.mem_append.1 hb with g | g
    · obtain ⟨x, hx, rfl⟩ := List.mem_map.1 g; exact hbad x hx
    · exact g
  · obtain ⟨x, hx, rfl⟩ := List.mem_map.1 he
    exact hbox x hx
end

end Go.Proofs.Ytgjndkphfabnnaa
