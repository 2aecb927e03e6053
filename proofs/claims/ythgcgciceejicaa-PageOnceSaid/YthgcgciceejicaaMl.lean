/-
  A region that draws its order and makes one map, with pairs whose keys are numbers.
-/
import Derived.Test.YthgcgciceejicaaSx
namespace Go.Proofs.Ythgcgciceejicaa
open Go.RowKit

section
variable {P : Program} {C : Fx} {c0 : Code} {Q : Exit → Act → World → Prop} {h : Vw} {a : Act} {w : World} {p : List Nat} {ks : List Kt} {E : List (Nat × Value)} {B : List Ent} {F : List Fac}

/-! ### Finding -/
def iget (n : Int) : List (Int × Value) → Option Value
  | [] => none
  | (k, v) :: l => if n = k then some v else iget n l
abbrev intEs (l : List (Int × Value)) : List (Value × Value) := l.map fun p => (.int .i64 p.1, p.2)
theorem find_int (n : Int) : ∀ (l : List (Int × Value)) (i j : Nat), (Instr.findNow (.int .i64) (.int .i64 n) (((intEs l).zipIdx j).map fun p => ⟨p.1.1, p.1.2, p.2⟩) i).map (Option.map (·.2)) = some (iget n l)
  | [], i, j => rfl
  | (k, v) :: l, i, j => by
    simp only [intEs, List.map_cons, List.zipIdx_cons]
    unfold Instr.findNow
    have hsn : Instr.sameNow (.int .i64) (.int .i64 n) (.int .i64 k) = some (n == k) := rfl
    simp only [hsn]
    unfold iget
    cases hsk : n == k with
    | true => rw [if_pos (by simpa using hsk)]; rfl
    | false => rw [if_neg (by simpa using hsk)]; exact find_int n l (i + 1) (j + 1)
theorem mfind_int (n : Int) (l : List (Int × Value)) : ∃ r, mfind (.int .i64) (.int .i64 n) (intEs l) = some r ∧ r.map (·.2) = iget n l := by
  have := find_int n l 0 0
  unfold mfind ments
  cases h : Instr.findNow (.int .i64) (.int .i64 n) (((intEs l).zipIdx).map fun p => ⟨p.1.1, p.1.2, p.2⟩) 0 with
  | none => rw [h] at this; cases this
  | some r => rw [h] at this; exact ⟨r, rfl, by simpa using this⟩
theorem ifind_some {n : Int} {l : List (Int × Value)} {v : Value} (h : iget n l = some v) : ∃ i, mfind (.int .i64) (.int .i64 n) (intEs l) = some (some (i, v)) := by
  obtain ⟨r, h1, h2⟩ := mfind_int n l
  rw [h] at h2
  obtain ⟨⟨i, u⟩, e, e2⟩ := Option.map_eq_some_iff.1 h2
  subst e2
  exact ⟨i, by rw [h1, e]⟩
theorem ifind_none {n : Int} {l : List (Int × Value)} (h : iget n l = none) : mfind (.int .i64) (.int .i64 n) (intEs l) = some none := by
  obtain ⟨r, h1, h2⟩ := mfind_int n l
  rw [h] at h2
  rw [h1, Option.map_eq_none_iff.1 h2]
theorem iget_none {n : Int} : ∀ {l : List (Int × Value)}, n ∉ l.map (·.1) → iget n l = none
  | [], _ => rfl
  | (k, v) :: l, h => by
    unfold iget
    simp only [List.map_cons, List.mem_cons, not_or] at h
    rw [if_neg h.1]
    exact iget_none h.2
theorem iget_mem {n : Int} {v : Value} : ∀ {l : List (Int × Value)}, (l.map (·.1)).Nodup → (n, v) ∈ l → iget n l = some v
  | (k, u) :: l, hn, h => by
    unfold iget
    simp only [List.map_cons, List.nodup_cons] at hn
    rcases List.mem_cons.1 h with e | h
    · simp only [Prod.mk.injEq] at e
      rw [if_pos e.1, e.2]
    · rw [if_neg fun e => hn.1 (by rw [← e]; exact List.mem_map.2 ⟨(n, v), h, rfl⟩)]
      exact iget_mem hn.2 h

/-! ### The operations -/
inductive MO where
  | mk (d : Nat) | pu (d : Nat) (v : Value) | mv (d : Nat) | ins (k : Int) (v : Value)
def MO.out (b : Nat) : MO → Option (Nat × Value)
  | .mk d => some (d, .map (some b))
  | .mv d => some (d, .map (some b))
  | .pu d v => some (d, v)
  | .ins _ _ => none
def MO.slot : MO → Option Nat
  | .mk d => some d
  | .mv d => some d
  | .pu d _ => some d
  | .ins _ _ => none
def MO.late : MO → Bool
  | .mv _ => true
  | .ins _ _ => true
  | _ => false
def MO.first : MO → Bool
  | .mk _ => true
  | _ => false
theorem MO.out_slot {b : Nat} {m : MO} {d : Nat} {v : Value} (h : m.out b = some (d, v)) : m.slot = some d := by
  cases m <;> simp [MO.out, MO.slot] at h ⊢ <;> exact h.1
def mlE (L : List MO) (E : List (Nat × Value)) (b : Nat) (o : Oper) : List (Nat × Value) := (dirs o).filterMap (fun j => (L[j]?).bind (MO.out b)) ++ E
def opM : Op → Operand
  | .insert _ m _ _ => m
  | _ => .const undef
def opK : Op → Operand
  | .insert _ _ k _ => k
  | _ => .const undef
def opV : Op → Operand
  | .insert _ _ _ v => v
  | _ => .const undef
def insOf (t : TypeId) : Op → Bool
  | .insert t' _ _ _ => Nat.beq t' t
  | _ => false
def dstIs (o : Oper) (d : Option Nat) : Bool := match o.dst, d with
  | some x, some y => Nat.beq x y
  | none, none => true
  | _, _ => false
/-- What holds of operation i by itself. -/
def mlB (t : TypeId) (L : List MO) (E : List (Nat × Value)) (N : Nat) (b : Nat) (o : Oper) (i : Nat) (m : MO) : Bool :=
  o.guard.isNone && opsKnown (mlE L E b o) o && dstIs o m.slot && ((dirs o).all fun j => Nat.blt j i) && (match m.slot with | some d => Nat.blt d N && E.all (fun q => !(Nat.beq q.1 d)) | none => true) &&
    (match m with | .mk _ => makeMapOp o.op && Nat.beq i 0 | .ins _ _ => insOf t o.op && (dirs o).contains 0 | .mv _ => (dirs o).contains 0 | .pu _ _ => true)
def mlP (P : Program) (t : TypeId) (L : List MO) (E : List (Nat × Value)) (N : Nat) (ops : Array Oper) (b : Nat) (w : World) (i : Nat) (m : MO) : List (An × An) :=
  (.b (mlB t L E N b (opAt ops i) i m), .b true) ::
  match m with
  | .mk _ => []
  | .pu _ v => [(.r ((execOp (evD (mlE L E b (opAt ops i))) (opAt ops i)).run P w), .r (.ok (.value v) w))]
  | .mv _ => [(.r ((execOp (evD (mlE L E b (opAt ops i))) (opAt ops i)).run P w), .r (.ok (.value (.map (some b))) w))]
  | .ins k v => [(.ov (evE (mlE L E b (opAt ops i)) (opM (opAt ops i).op)), .ov (some (.map (some b)))), (.ov (evE (mlE L E b (opAt ops i)) (opK (opAt ops i).op)), .ov (some (.int .i64 k))), (.ov (evE (mlE L E b (opAt ops i)) (opV (opAt ops i).op)), .ov (some v))]
def mlAll (P : Program) (t : TypeId) (L : List MO) (E : List (Nat × Value)) (N : Nat) (ops : Array Oper) (b : Nat) (w : World) : Nat → List MO → List (An × An)
  | _, [] => []
  | i, m :: l => mlP P t L E N ops b w i m ++ mlAll P t L E N ops b w (i + 1) l
/-- Slots once each, keys once each, the map is made first. -/
def mlOk (L : List MO) : Bool :=
  ((List.range L.length).all fun i => (List.range L.length).all fun j => Nat.beq i j ||
    (match L[i]?, L[j]? with
    | some (.ins k _), some (.ins k' _) => decide (k ≠ k')
    | some m, some m' => (match m.slot, m'.slot with | some d, some d' => !(Nat.beq d d') | _, _ => true)
    | _, _ => true)) && (match L[0]? with | some m => m.first | none => false)
theorem mlAll_mem {t : TypeId} {L : List MO} {N : Nat} {ops : Array Oper} {b : Nat} : ∀ {l : List MO} {k i : Nat} {m : MO}, l[i]? = some m → ∀ e ∈ mlP P t L E N ops b w (k + i) m, e ∈ mlAll P t L E N ops b w k l
  | [], _, _, _, h, _, _ => by simp at h
  | x :: l, k, 0, m, h, e, he => by
    simp only [List.getElem?_cons_zero, Option.some.injEq] at h
    subst h
    exact List.mem_append_left _ he
  | x :: l, k, i + 1, m, h, e, he => by
    simp only [List.getElem?_cons_succ] at h
    refine List.mem_append_right _ (mlAll_mem (l := l) (k := k + 1) h e ?_)
    rw [show k + 1 + i = k + (i + 1) by omega]; exact he
theorem mlOk_slot {L : List MO} (h : mlOk L = true) {i j : Nat} {m m' : MO} {d : Nat} (hi : L[i]? = some m) (hj : L[j]? = some m') (e1 : m.slot = some d) (e2 : m'.slot = some d) : i = j := by
  unfold mlOk at h
  rw [Bool.and_eq_true] at h
  have := List.all_eq_true.1 (List.all_eq_true.1 h.1 i (List.mem_range.2 (List.getElem?_eq_some_iff.1 hi).1)) j (List.mem_range.2 (List.getElem?_eq_some_iff.1 hj).1)
  rw [Bool.or_eq_true] at this
  rcases this with g | g
  · exact Nat.eq_of_beq_eq_true g
  · rw [hi, hj] at g
    cases m <;> cases m' <;> simp [MO.slot] at e1 e2 g <;> (subst e1 e2; simp at g)
theorem mlOk_key {L : List MO} (h : mlOk L = true) {i j : Nat} {k : Int} {v v' : Value} (hi : L[i]? = some (.ins k v)) (hj : L[j]? = some (.ins k v')) : i = j := by
  unfold mlOk at h
  rw [Bool.and_eq_true] at h
  have := List.all_eq_true.1 (List.all_eq_true.1 h.1 i (List.mem_range.2 (List.getElem?_eq_some_iff.1 hi).1)) j (List.mem_range.2 (List.getElem?_eq_some_iff.1 hj).1)
  rw [Bool.or_eq_true] at this
  rcases this with g | g
  · exact Nat.eq_of_beq_eq_true g
  · rw [hi, hj] at g
    simp at g

theorem J.putOut (hJ : J C E B h a w) {d : Nat} (v : Value) (_ : d < C.N) (hE : ∀ q ∈ E, q.1 ≠ d) : J C E B h (a.put (some d) v) w :=
  ⟨fun x u hx => by
    have hm : ∀ {E : List (Nat × Value)}, lookup E x = some u → ∃ q ∈ E, q.1 = x := by
      intro E
      induction E with
      | nil => intro h; cases h
      | cons q E ih =>
        intro h
        unfold lookup at h
        split at h
        · rename_i e; exact ⟨q, by simp, Nat.eq_of_beq_eq_true e⟩
        · obtain ⟨q', h1, h2⟩ := ih h; exact ⟨q', List.mem_cons_of_mem _ h1, h2⟩
    obtain ⟨q, hq, rfl⟩ := hm hx
    rw [eval_put_other (fun e => hE q hq e.symm)]
    exact hJ.fits _ _ hx, by simpa [Act.put] using hJ.size, hJ.defers, hJ.low, hJ.sees, hJ.ents, hJ.nodup, hJ.own, hJ.badlt⟩

/-- Where such a region stands. -/
structure MI (C : Fx) (E : List (Nat × Value)) (B : List Ent) (L : List MO) (h : Vw) (D : Nat → Prop) (b : Nat) (es : List (Int × Value)) (a : Act) (w : World) : Prop where
  j1 : D 0 → J C E (.map b (intEs es) :: B) h a w
  j0 : ¬ D 0 → J C E B h a w
  v : ∀ i m d u, L[i]? = some m → D i → m.out b = some (d, u) → a.eval (.tmp d) = u
  s : ∀ i k u, L[i]? = some (.ins k u) → D i → (k, u) ∈ es
  t : ∀ e ∈ es, ∃ i, D i ∧ L[i]? = some (.ins e.1 e.2)
  n : (es.map (·.1)).Nodup
  z : ∀ i m, L[i]? = some m → m.late = true → D i → D 0

theorem MI.base {D : Nat → Prop} {L : List MO} {b : Nat} {es : List (Int × Value)} (I : MI C E B L h D b es a w) : Fits E a ∧ a.tmps.size = C.N := by
  by_cases g : D 0
  · exact ⟨(I.j1 g).fits, (I.j1 g).size⟩
  · exact ⟨(I.j0 g).fits, (I.j0 g).size⟩
theorem MI.fits {D : Nat → Prop} {L : List MO} {b : Nat} {es : List (Int × Value)} {o : Oper} (I : MI C E B L h D b es a w) (hd : ∀ j ∈ dirs o, D j) : Fits (mlE L E b o) a := by
  refine fits_pre' (fun p hp => ?_) (fun d v hv _ => I.base.1 d v hv)
  obtain ⟨j, hj, e⟩ := List.mem_filterMap.1 hp
  cases hm : L[j]? with
  | none => rw [hm] at e; cases e
  | some m => rw [hm] at e; exact I.v j m p.1 p.2 hm (hd j hj) e

theorem x_maplit (hm : P.follows .mixedOrders = true) (hK : K C E B F h a w) (t : TypeId) {kt et : TypeId} (ht : P.underlying t = some (.map kt et)) (htd : P.underlying kt = some (.int .i64)) (L : List MO)
    (hst : (match drawnOf (sub c0 p) with | some ops => Nat.beq ops.size L.length && mlOk L | none => false) = true)
    (hc : ∀ b w, (mlAll P t L E C.N (opsAt c0 p) b w 0 L).map (·.1) = (mlAll P t L E C.N (opsAt c0 p) b w 0 L).map (·.2))
    (fin : ∀ b es a w, K C (L.filterMap (MO.out b) ++ E) (.map b (intEs es) :: B) F h a w → (∀ k v, (k, v) ∈ es ↔ MO.ins k v ∈ L) → (es.map (·.1)).Nodup → Goal P c0 Q (.out .normal) ks a w) : Goal P c0 Q (.code p) ks a w := by
  split at hst
  case h_2 => cases hst
  rename_i ops hops
  obtain ⟨id, hid⟩ := drawnOf_some hops
  rw [Bool.and_eq_true] at hst
  obtain ⟨c1, c2⟩ := hst
  have c1 := Nat.eq_of_beq_eq_true c1
  have hoa : opsAt c0 p = ops := by unfold opsAt; rw [hid]; rfl
  rw [hoa] at hc
  have chk : ∀ (b : Nat) (w : World) (i : Nat) (m : MO), L[i]? = some m → ∀ e ∈ mlP P t L E C.N ops b w i m, e.1 = e.2 := fun b w i m hi e he =>
    pair_eq (hc b w) e (mlAll_mem (k := 0) hi e (by rw [Nat.zero_add]; exact he))
  have chkB : ∀ (b : Nat) (i : Nat) (m : MO), L[i]? = some m → mlB t L E C.N b (opAt ops i) i m = true := fun b i m hi => by
    have := chk b w i m hi _ (by unfold mlP; exact List.mem_cons_self)
    simpa using this
  have first : ∃ d, L[0]? = some (.mk d) := by
    have := c2
    unfold mlOk at this
    rw [Bool.and_eq_true] at this
    have := this.2
    cases h0 : L[0]? with
    | none => rw [h0] at this; cases this
    | some m => rw [h0] at this; cases m <;> simp [MO.first] at this; exact ⟨_, rfl⟩
  unfold Goal
  simp only
  rw [hid]
  refine region_inv hm (fun D a w => ∃ b es, MI C E B L h D b es a w) (fun i o ho e he hb => ?_) ?_ (fun i o D a w ho hn' hd ⟨b, es, I⟩ => ?_) (fun a w ⟨b, es, I⟩ => ?_)
  · have hlt := (Array.getElem?_eq_some_iff.1 ho).1
    have hB := chkB 0 i _ (List.getElem?_eq_getElem (by omega))
    unfold mlB at hB
    rw [op_at ho] at hB
    simp only [Bool.and_eq_true] at hB
    have := List.all_eq_true.1 hB.1.1.2 e.on (List.mem_map.2 ⟨e, List.mem_filter.2 ⟨by simpa using he, hb⟩, rfl⟩)
    have := Nat.le_of_ble_eq_true this
    omega
  · have hl : Low [] w w.drew := Low.of_below (Below.refl _ _).drew
    exact ⟨0, [], fun h => h.elim, fun _ => hK.j.grow hl, fun _ _ _ _ _ h => h.elim, fun _ _ _ _ h => h.elim, fun e he => (by cases he), List.nodup_nil, fun _ _ _ _ h => h.elim⟩
  · have hlt : i < L.length := by rw [← c1]; exact (Array.getElem?_eq_some_iff.1 ho).1
    obtain ⟨m, hmi⟩ : ∃ m, L[i]? = some m := ⟨_, List.getElem?_eq_getElem hlt⟩
    have hdd : ∀ j ∈ dirs o, D j := fun k hk => by
      obtain ⟨e, he, rfl⟩ := List.mem_map.1 hk
      obtain ⟨h1, h2⟩ := List.mem_filter.1 he
      exact hd e (by simpa using h1) h2
    have hB := chkB b i m hmi
    have hP := chk b w i m hmi
    unfold mlB at hB
    unfold mlP at hP
    rw [op_at ho] at hB hP
    simp only [Bool.and_eq_true] at hB
    obtain ⟨⟨⟨⟨⟨b1, b2⟩, b3⟩, -⟩, b5⟩, b6⟩ := hB
    have hg : o.guard = none := by simpa using b1
    have hw : Region.wanted o (yielded ops a.tmps) = true := by unfold Region.wanted; rw [hg]
    have hev := run_ev (I.fits hdd) b2
    have ne : ∀ j, D j → j ≠ i := fun j hj e => hn' (e ▸ hj)
    have slots : ∀ {d}, m.slot = some d → o.dst = some d ∧ d < C.N ∧ (∀ q ∈ E, q.1 ≠ d) := fun {d} e => by
      rw [e] at b3 b5
      simp only [Bool.and_eq_true] at b5
      refine ⟨?_, by have := Nat.le_of_ble_eq_true b5.1; omega, fun q hq e => ?_⟩
      · unfold dstIs at b3
        cases hx : o.dst with
        | none => rw [hx] at b3; cases b3
        | some x => rw [hx] at b3; rw [Nat.eq_of_beq_eq_true b3]
      · have := List.all_eq_true.1 b5.2 q hq
        rw [e] at this; simp at this
    have others : ∀ {d} (u : Value), m.slot = some d → ∀ j m' d' u', L[j]? = some m' → D j → m'.out b = some (d', u') → (a.put (some d) u).eval (.tmp d') = u' := fun {d} u hs j m' d' u' hj hDj ho' => by
      rw [eval_put_other fun e => ne j hDj (mlOk_slot c2 hj hmi (MO.out_slot ho') (by rw [← e]; exact hs))]
      exact I.v j m' d' u' hj hDj ho'
    cases m with
    | pu d u =>
      obtain ⟨s1, s2, s3⟩ := slots rfl
      have hr := hP _ (List.mem_cons_of_mem _ (List.mem_singleton_self _))
      simp only [An.r.injEq] at hr
      refine wpOp_value ho hw (by rw [hev]; exact hr) ⟨b, es, ?_⟩
      rw [s1]
      have h00 : D 0 ↔ (0 = i ∨ D 0) := ⟨.inr, fun q => q.elim (fun e => by
        obtain ⟨x, hx⟩ := first
        subst e
        rw [hx] at hmi; cases hmi) fun q => q⟩
      refine ⟨fun g => (I.j1 (h00.2 g)).putOut _ s2 s3, fun g => (I.j0 fun q => g (.inr q)).putOut _ s2 s3, fun j m' d' u' hj hDj ho' => ?_, fun j k' u' hj hDj => ?_, fun e he => ?_, I.n, fun j m' hj hl hDj => ?_⟩
      · rcases hDj with rfl | hDj
        · rw [hmi] at hj
          cases hj
          simp only [MO.out, Option.some.injEq, Prod.mk.injEq] at ho'
          obtain ⟨rfl, rfl⟩ := ho'
          exact eval_put_same (by rw [I.base.2]; exact s2)
        · exact others u rfl j m' d' u' hj hDj ho'
      · rcases hDj with rfl | hDj
        · rw [hmi] at hj; cases hj
        · exact I.s j k' u' hj hDj
      · obtain ⟨q, q1, q2⟩ := I.t e he; exact ⟨q, .inr q1, q2⟩
      · rcases hDj with rfl | hDj
        · rw [hmi] at hj; cases hj; cases hl
        · exact .inr (I.z j m' hj hl hDj)
    | mv d =>
      obtain ⟨s1, s2, s3⟩ := slots rfl
      have hr := hP _ (List.mem_cons_of_mem _ (List.mem_singleton_self _))
      simp only [An.r.injEq] at hr
      have d0 : D 0 := hdd 0 (by simpa using b6)
      refine wpOp_value ho hw (by rw [hev]; exact hr) ⟨b, es, ?_⟩
      rw [s1]
      refine ⟨fun g => (I.j1 d0).putOut _ s2 s3, fun g => absurd (.inr d0) g, fun j m' d' u' hj hDj ho' => ?_, fun j k' u' hj hDj => ?_, fun e he => ?_, I.n, fun j m' hj hl hDj => .inr d0⟩
      · rcases hDj with rfl | hDj
        · rw [hmi] at hj
          cases hj
          simp only [MO.out, Option.some.injEq, Prod.mk.injEq] at ho'
          obtain ⟨rfl, rfl⟩ := ho'
          exact eval_put_same (by rw [I.base.2]; exact s2)
        · exact others _ rfl j m' d' u' hj hDj ho'
      · rcases hDj with rfl | hDj
        · rw [hmi] at hj; cases hj
        · exact I.s j k' u' hj hDj
      · obtain ⟨q, q1, q2⟩ := I.t e he; exact ⟨q, .inr q1, q2⟩
    | mk d =>
      obtain ⟨s1, s2, s3⟩ := slots rfl
      simp only [Bool.and_eq_true] at b6
      have hi0 : i = 0 := Nat.eq_of_beq_eq_true b6.2
      subst hi0
      have hJ := I.j0 hn'
      obtain ⟨t', e⟩ : ∃ t', o.op = .makeMap t' none := by
        have := b6.1
        unfold makeMapOp at this
        split at this
        · rename_i t' e; exact ⟨t', e⟩
        · cases this
      have hrun : (execOp (evD (mlE L E b o)) o).run P w = .ok (.value (.map (some w.heap.size))) (w.alloc (.map #[] 0)) := by
        unfold execOp
        simp only [e]
        simp [run_makeMap, Result.andThen]
      refine wpOp_value ho hw (by rw [hev]; exact hrun) ⟨w.heap.size, [], ?_⟩
      rw [s1]
      refine ⟨fun _ => hJ.newMap.putOut _ s2 s3, fun g => absurd (.inl rfl) g, fun j m' d' u' hj hDj ho' => ?_, fun j k' u' hj hDj => ?_, fun e he => (by cases he), List.nodup_nil, fun j m' hj hl hDj => .inl rfl⟩
      · rcases hDj with rfl | hDj
        · rw [hmi] at hj
          cases hj
          simp only [MO.out, Option.some.injEq, Prod.mk.injEq] at ho'
          obtain ⟨rfl, rfl⟩ := ho'
          exact eval_put_same (by rw [I.base.2]; exact s2)
        · have hnl : m'.late = false := by
            cases hl : m'.late with
            | false => rfl
            | true => exact absurd (I.z j m' hj hl hDj) hn'
          cases m' with
          | pu d2 u2 =>
            exact others _ rfl j _ d' u' hj hDj ho'
          | mk d2 =>
            have hB2 := chkB b j _ hj
            unfold mlB at hB2
            simp only [Bool.and_eq_true] at hB2
            exact absurd (Nat.eq_of_beq_eq_true hB2.2.2) (ne j hDj)
          | mv d2 => cases hnl
          | ins k2 u2 => cases hnl
      · rcases hDj with rfl | hDj
        · rw [hmi] at hj; cases hj
        · exact absurd (I.z j _ hj rfl hDj) hn'
    | ins k u =>
      simp only [Bool.and_eq_true] at b6
      have d0 : D 0 := hdd 0 (by simpa using b6.2)
      have hJ := I.j1 d0
      have e1 := hP _ (List.mem_cons_of_mem _ List.mem_cons_self)
      have e2 := hP _ (List.mem_cons_of_mem _ (List.mem_cons_of_mem _ List.mem_cons_self))
      have e3 := hP _ (List.mem_cons_of_mem _ (List.mem_cons_of_mem _ (List.mem_cons_of_mem _ List.mem_cons_self)))
      simp only [An.ov.injEq] at e1 e2 e3
      obtain ⟨mo, ko, vo, e⟩ : ∃ mo ko vo, o.op = .insert t mo ko vo := by
        have := b6.1
        unfold insOf at this
        split at this
        · rename_i t' mo ko vo e; exact ⟨mo, ko, vo, by rw [e, Nat.eq_of_beq_eq_true this]⟩
        · cases this
      rw [e] at e1 e2 e3
      have hkey : k ∉ es.map (·.1) := fun hk => by
        obtain ⟨x, hx, e'⟩ := List.mem_map.1 hk
        obtain ⟨j, j1, j2⟩ := I.t x hx
        rw [e'] at j2
        exact ne j j1 (mlOk_key c2 j2 hmi)
      have hu := run_update_at (P := P) (v := u) (hJ.ents _ List.mem_cons_self : w.heap[b]? = some (mapObj (intEs es))) ht htd (k := .int .i64 k) rfl (ifind_none (iget_none hkey))
      have g1 : evD (mlE L E b o) mo = .map (some b) := by unfold evD; rw [show evE (mlE L E b o) mo = _ from e1]; rfl
      have g2 : evD (mlE L E b o) ko = .int .i64 k := by unfold evD; rw [show evE (mlE L E b o) ko = _ from e2]; rfl
      have g3 : evD (mlE L E b o) vo = u := by unfold evD; rw [show evE (mlE L E b o) vo = _ from e3]; rfl
      have hrun : (execOp (evD (mlE L E b o)) o).run P w = .ok .skip { w with heap := w.heap.setIfInBounds b (mapObj (intEs es ++ [(.int .i64 k, u)])) } := by
        unfold execOp
        simp only [e, g1, g2, g3]
        simp [hu, Result.andThen]
      have hdst : o.dst = none := by
        have : dstIs o none = true := b3
        unfold dstIs at this
        cases hx : o.dst with
        | none => rfl
        | some x => rw [hx] at this; cases this
      refine wpOp_skip ho hw (by rw [hev]; exact hrun) ⟨b, es ++ [(k, u)], ?_⟩
      rw [hdst]
      show MI C E B L h _ b _ a _
      refine ⟨fun _ => ?_, fun g => absurd (.inr d0) g, fun j m' d' u' hj hDj ho' => ?_, fun j k' u' hj hDj => ?_, fun x hx => ?_, ?_, fun j m' hj hl hDj => .inr d0⟩
      · have := hJ.setMap (i := 0) (es' := intEs es ++ [(.int .i64 k, u)]) rfl
        rw [show intEs (es ++ [(k, u)]) = intEs es ++ [(.int .i64 k, u)] by simp [intEs]]
        exact this
      · rcases hDj with rfl | hDj
        · rw [hmi] at hj; cases hj; cases ho'
        · exact I.v j m' d' u' hj hDj ho'
      · rcases hDj with rfl | hDj
        · rw [hmi] at hj; cases hj; simp
        · exact List.mem_append_left _ (I.s j k' u' hj hDj)
      · rcases List.mem_append.1 hx with hx | hx
        · obtain ⟨q, q1, q2⟩ := I.t x hx; exact ⟨q, .inr q1, q2⟩
        · rw [List.mem_singleton.1 hx]; exact ⟨i, .inl rfl, hmi⟩
      · rw [List.map_append, List.nodup_append]
        refine ⟨I.n, by simp, fun x hx y hy e' => ?_⟩
        simp only [List.map_cons, List.map_nil, List.mem_singleton] at hy
        subst hy e'
        exact hkey hx
  · obtain ⟨x0, hx0⟩ := first
    have hl0 := (List.getElem?_eq_some_iff.1 hx0).1
    have hJ := I.j1 (by omega)
    have hall : ∀ {j m}, L[j]? = some m → j < ops.size := fun hj => by rw [c1]; exact (List.getElem?_eq_some_iff.1 hj).1
    refine fin b es a w ⟨⟨fits_pre' (fun q hq => ?_) (fun d v hv _ => hJ.fits d v hv), hJ.size, hJ.defers, hJ.low, hJ.sees, hJ.ents, hJ.nodup, hJ.own, hJ.badlt⟩, hK.f⟩ (fun k v => ⟨fun hm => ?_, fun hm => ?_⟩) I.n
    · obtain ⟨m, hm, e⟩ := List.mem_filterMap.1 hq
      obtain ⟨j, hj⟩ := List.getElem?_of_mem hm
      exact I.v j m q.1 q.2 hj (hall hj) e
    · obtain ⟨j, -, hj⟩ := I.t _ hm
      exact List.mem_of_getElem? hj
    · obtain ⟨j, hj⟩ := List.getElem?_of_mem hm
      exact I.s j k v hj (hall hj)
end

end Go.Proofs.Ythgcgciceejicaa
