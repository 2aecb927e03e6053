/-
  A walk by certificates: regions that draw their order; all operations but calls are reckoned at once.
-/
import Derived.Test.YteolcggpflnpoaaRx
namespace Go.Proofs.Yteolcggpflnpoaa
open Go.RowKit

inductive An where
  | v (x : Value) | vs (x : List Value) | es (x : List (List Ent)) | ps (x : List (Vw → Prop)) | r (x : Result Next) | b (x : Bool) | oe (x : Option Ent) | ov (x : Option Value) | bad

/-- How an operation of a region is looked at. -/
inductive RH where
  | pu                    -- it is reckoned
  | ld (e off : Nat)      -- a load from block e of the region's, at off
  | lf (j off : Nat)      -- .. from known cells j
  | st (e off : Nat)      -- a store
  | al (e : Nat)          -- a new block, e of the region's
  | ps                    -- passed over
  | cl                    -- told for itself

def plT (R : Reg) (i : Nat) : Nat := R.T.findIdx fun t => Nat.beq t.1 i
def dpOf (R : Reg) (ops : Array Oper) (i : Nat) : List Nat := (List.range R.T.length).filter fun p => match R.T[p]? with
  | some t => (dirs (opAt ops i)).contains t.1
  | none => false
def noF (R : Reg) (i : Nat) : Bool := R.F.all fun t => t.1 != i
def rdx (R : Reg) (ops : Array Oper) (i : Nat) (x : Gh) : List (Nat × Value) := rdE R i (dpOf R ops i) x
def runR (P : Program) (R : Reg) (ops : Array Oper) (i : Nat) (x : Gh) (w : World) : Result Next := (execOp (evD (rdx R ops i x)) (opAt ops i)).run P w
def freeT (R : Reg) (i : Nat) (x : Gh) : List Value := (R.T.filter (fun t => !((R.an t.1).contains i || t.1 == i))).map (fun t => t.2.2 x)
def freeG (R : Reg) (i : Nat) (x : Gh) : List (List Ent) := R.G.map (fun g => (g.vers.filter (fun t => !((R.an t.1).contains i || t.1 == i))).map (fun t => t.2 x))
def freeF (R : Reg) (i : Nat) (x : Gh) : List (Vw → Prop) := (R.F.filter (fun t => !((R.an t.1).contains i || t.1 == i))).map (fun t => t.2 x)
def ptrOf (b off : Nat) : Value := .pointer (some ⟨b, off, none⟩)
def boxB : Option Ent → Nat
  | some (.box b _) => b
  | _ => 0
def boxC : Option Ent → List Value
  | some (.box _ cs) => cs
  | _ => []
def opT : Op → TypeId
  | .load t _ => t
  | .store t _ _ => t
  | .alloc t => t
  | .box t _ => t
  | _ => 0
def opX : Op → Operand
  | .load _ x => x
  | .store _ x _ => x
  | _ => .const undef
def opY : Op → Operand
  | .store _ _ y => y
  | _ => .const undef
def isLoad : Op → Bool
  | .load _ _ => true
  | _ => false
def isStore : Op → Bool
  | .store _ _ _ => true
  | _ => false

def chkO (P : Program) (R : Reg) (ops : Array Oper) (KF : List Fac) (x : Gh) (v : Value) (w : World) (i : Nat) (hint : RH) : List (An × An) :=
  match hint with
  | .cl => []
  | .pu => match R.T[plT R i]? with
    | some (i', d, f) => [(.b (Nat.beq i' i && only R i none && noF R i && okR R ops i d (dpOf R ops i) x), .b true), (.r (runR P R ops i x w), .r (.ok (.value (f x)) w))]
    | none => [(.bad, .b true)]
  | .ps => match R.T[plT R i]? with
    | some (i', d, f) => [(.b (Nat.beq i' i && only R i none && noF R i), .b true), (.b (chkD R ops i (dpOf R ops i) && gOk R ops i (dpOf R ops i) x false && (match (opAt ops i).dst with | some y => Nat.beq y d | none => false)), .b true), (.v (f x), .v undef)]
    | none => [(.bad, .b true)]
  | .ld e off => match R.T[plT R i]?, R.G[e]? with
    | some (i', d, f), some g => [(.b (Nat.beq i' i && only R i none && noF R i && isLoad (opAt ops i).op && okR R ops i d (dpOf R ops i) x && sync R i g), .b true),
        (.oe (curA (R.an i) x g), .oe (some (.box (boxB (curA (R.an i) x g)) (boxC (curA (R.an i) x g))))), (.ov (evE (rdx R ops i x) (opX (opAt ops i).op)), .ov (some (ptrOf (boxB (curA (R.an i) x g)) off))), (.ov (loadsAs P (opT (opAt ops i).op) (boxC (curA (R.an i) x g)) off), .ov (some (f x)))]
    | _, _ => [(.bad, .b true)]
  | .lf j off => match R.T[plT R i]?, KF[j]? with
    | some (i', d, f), some (b, o0, cs) => [(.b (Nat.beq i' i && only R i none && noF R i && isLoad (opAt ops i).op && okR R ops i d (dpOf R ops i) x), .b true),
        (.ov (evE (rdx R ops i x) (opX (opAt ops i).op)), .ov (some (ptrOf b (o0 + off)))), (.ov (loadsAs P (opT (opAt ops i).op) cs off), .ov (some (f x)))]
    | _, _ => [(.bad, .b true)]
  | .st e off => match R.G[e]? with
    | some g => [(.b (isStore (opAt ops i).op && (R.T.all fun t => t.1 != i) && noF R i && only R i (some e) && sync R i g), .b true), (.b (chkD R ops i (dpOf R ops i) && gOk R ops i (dpOf R ops i) x true && (opAt ops i).dst.isNone), .b true),
        (.oe (curA (R.an i) x g), .oe (some (.box (boxB (curA (R.an i) x g)) (boxC (curA (R.an i) x g))))), (.ov (evE (rdx R ops i x) (opX (opAt ops i).op)), .ov (some (ptrOf (boxB (curA (R.an i) x g)) off))),
        (.ov (evE (rdx R ops i x) (opY (opAt ops i).op)), .ov (some (evD (rdx R ops i x) (opY (opAt ops i).op)))), (.b (storesOk P (opT (opAt ops i).op) (boxC (curA (R.an i) x g)) off (evD (rdx R ops i x) (opY (opAt ops i).op))), .b true),
        (.oe (curA (i :: R.an i) x g), .oe (some (.box (boxB (curA (R.an i) x g)) (putMany (boxC (curA (R.an i) x g)) off (evD (rdx R ops i x) (opY (opAt ops i).op)).cells.toList))))]
    | none => [(.bad, .b true)]
  | .al e => match R.T[plT R i]?, R.G[e]? with
    | some (i', d, f), some g => [(.b (Nat.beq i' i && noF R i && only R i (some e) && sync R i g && okR R ops i d (dpOf R ops i) x), .b true), (.v (f x), .v (ptrOf (blkOf (x i)) 0)),
        (.vs (freeT R i (upd x i v)), .vs (freeT R i x)), (.es (freeG R i (upd x i v)), .es (freeG R i x)), (.ps (freeF R i (upd x i v)), .ps (freeF R i x)),
        (.oe (curA (R.an i) x g), .oe none), (.oe (curA (i :: R.an i) x g), .oe (some (.box (blkOf (x i)) (boxC (curA (i :: R.an i) x g))))),
        (.r (runR P R ops i x w), .r (.ok (.value (ptrOf w.heap.size 0)) (w.alloc (.cells (boxC (curA (i :: R.an i) x g)).toArray (opT (opAt ops i).op))))), (.vs (boxC (curA (i :: R.an i) (upd x i v) g)), .vs (boxC (curA (i :: R.an i) x g)))]
    | _, _ => [(.bad, .b true)]

def chkAll (P : Program) (R : Reg) (ops : Array Oper) (KF : List Fac) (x : Gh) (v : Value) (w : World) : Nat → List RH → List (An × An)
  | _, [] => []
  | i, r :: l => chkO P R ops KF x v w i r ++ chkAll P R ops KF x v w (i + 1) l
/-- What is told for itself. -/
def Told (P : Program) (ops : Array Oper) (Q : Exit → Act → World → Prop) (R : Reg) : Nat → List RH → Prop
  | _, [] => True
  | i, .cl :: l => StepAt' P ops Q R i ∧ Told P ops Q R (i + 1) l
  | i, _ :: l => Told P ops Q R (i + 1) l

section
variable {P : Program} {ops : Array Oper} {Q : Exit → Act → World → Prop} {R : Reg} {KF : List Fac} {i : Nat}

theorem pair_eq {l : List (An × An)} (h : l.map (·.1) = l.map (·.2)) : ∀ e ∈ l, e.1 = e.2 := by
  induction l with
  | nil => intro e he; cases he
  | cons y l ih =>
    simp only [List.map_cons, List.cons.injEq] at h
    intro e he
    rcases List.mem_cons.1 he with rfl | he
    · exact h.1
    · exact ih h.2 e he

theorem op_load {o : Op} (h : isLoad o = true) : o = .load (opT o) (opX o) := by
  cases o <;> first | rfl | cases h
theorem op_store {o : Op} (h : isStore o = true) : o = .store (opT o) (opX o) (opY o) := by
  cases o <;> first | rfl | cases h

theorem stepR (hT : chkT R = true) (hA : chkA R ops = true) (hmono : ∀ q ∈ R.F, ∀ x h h', Sees h h' → q.2 x h → q.2 x h') (hKF : ∀ f ∈ KF, Cells R.h f.1 f.2.1 f.2.2) (r : RH) (hne : r ≠ .cl)
    (hc : ∀ x v w, ∀ e ∈ chkO P R ops KF x v w i r, e.1 = e.2) : StepAt' P ops Q R i := by
  cases r with
  | cl => exact absurd rfl hne
  | pu =>
    simp only [chkO] at hc
    split at hc
    · rename_i i' d f hp
      simp only [List.mem_cons, List.not_mem_nil, or_false, forall_eq_or_imp, forall_eq, An.b.injEq, An.r.injEq, Bool.and_eq_true] at hc
      obtain ⟨⟨⟨⟨c1, c2⟩, c3⟩, -⟩, -⟩ := hc (fun _ => undef) undef world0
      have c1 := Nat.eq_of_beq_eq_true c1
      subst c1
      exact r_pure hT hA d f (dpOf R ops i') _ hp c2 c3 (fun x => (hc x undef world0).1.2) (fun x w => (hc x undef w).2)
    · have := hc (fun _ => undef) undef world0 _ (List.mem_singleton.2 rfl); cases this
  | ps =>
    simp only [chkO] at hc
    split at hc
    · rename_i i' d f hp
      simp only [List.mem_cons, List.not_mem_nil, or_false, forall_eq_or_imp, forall_eq, An.b.injEq, An.v.injEq, Bool.and_eq_true] at hc
      obtain ⟨⟨⟨c1, c2⟩, c3⟩, -⟩ := hc (fun _ => undef) undef world0
      have c1 := Nat.eq_of_beq_eq_true c1
      subst c1
      have hf : f = fun _ => undef := funext fun x => (hc x undef world0).2.2
      subst hf
      exact r_pass hT hA d (dpOf R ops i') _ hp c2 c3 (fun x => by simp only [Bool.and_eq_true]; exact (hc x undef world0).2.1)
    · have := hc (fun _ => undef) undef world0 _ (List.mem_singleton.2 rfl); cases this
  | ld e off =>
    simp only [chkO] at hc
    split at hc
    · rename_i i' d f g hp hg
      simp only [List.mem_cons, List.not_mem_nil, or_false, forall_eq_or_imp, forall_eq, An.b.injEq, An.oe.injEq, An.ov.injEq, Bool.and_eq_true] at hc
      obtain ⟨⟨⟨⟨⟨⟨c1, c2⟩, c3⟩, c4⟩, -⟩, c6⟩, -⟩ := hc (fun _ => undef) undef world0
      have c1 := Nat.eq_of_beq_eq_true c1
      subst c1
      exact r_load hT hA d f (dpOf R ops i') _ hp c2 c3 (fun x => (hc x undef world0).1.1.2) e g hg c6 _ _ (fun x => (hc x undef world0).2.1) _ _ off (op_load c4) (fun x => (hc x undef world0).2.2.1) (fun x => (hc x undef world0).2.2.2)
    · have := hc (fun _ => undef) undef world0 _ (List.mem_singleton.2 rfl); cases this
  | lf j off =>
    simp only [chkO] at hc
    split at hc
    · rename_i i' d f b o0 cs hp hg
      simp only [List.mem_cons, List.not_mem_nil, or_false, forall_eq_or_imp, forall_eq, An.b.injEq, An.ov.injEq, Bool.and_eq_true] at hc
      obtain ⟨⟨⟨⟨⟨c1, c2⟩, c3⟩, c4⟩, -⟩, -⟩ := hc (fun _ => undef) undef world0
      have c1 := Nat.eq_of_beq_eq_true c1
      subst c1
      exact r_loadf hT hA d f (dpOf R ops i') _ hp c2 c3 (fun x => (hc x undef world0).1.2) (hKF _ (List.mem_of_getElem? hg)) (Sees.refl _) _ _ off (op_load c4) (fun x => (hc x undef world0).2.1) (fun x => (hc x undef world0).2.2)
    · have := hc (fun _ => undef) undef world0 _ (List.mem_singleton.2 rfl); cases this
  | st e off =>
    simp only [chkO] at hc
    split at hc
    · rename_i g hg
      simp only [List.mem_cons, List.not_mem_nil, or_false, forall_eq_or_imp, forall_eq, An.b.injEq, An.oe.injEq, An.ov.injEq, Bool.and_eq_true] at hc
      obtain ⟨⟨⟨⟨⟨c1, c2⟩, c3⟩, c4⟩, c5⟩, -⟩ := hc (fun _ => undef) undef world0
      refine r_store hT hA (dpOf R ops i) c2 c3 (fun x => by simp only [Bool.and_eq_true]; exact (hc x undef world0).2.1) e g hg c4 c5 (fun x => boxB (curA (R.an i) x g)) (fun x => boxC (curA (R.an i) x g)) _ (fun x => (hc x undef world0).2.2.1) (fun x => (hc x undef world0).2.2.2.2.2.2) _ _ _ off _ (op_store c1) (fun x => (hc x undef world0).2.2.2.1) (fun x => (hc x undef world0).2.2.2.2.1) (fun x => (hc x undef world0).2.2.2.2.2.1) (fun x => rfl)
    · have := hc (fun _ => undef) undef world0 _ (List.mem_singleton.2 rfl); cases this
  | al e =>
    simp only [chkO] at hc
    split at hc
    · rename_i i' d f g hp hg
      simp only [List.mem_cons, List.not_mem_nil, or_false, forall_eq_or_imp, forall_eq, An.b.injEq, An.oe.injEq, An.v.injEq, An.vs.injEq, An.es.injEq, An.ps.injEq, An.r.injEq, Bool.and_eq_true] at hc
      obtain ⟨⟨⟨⟨⟨c1, c3⟩, c4⟩, c5⟩, -⟩, -⟩ := hc (fun _ => undef) undef world0
      have c1 := Nat.eq_of_beq_eq_true c1
      subst c1
      have hf : f = fun x => .pointer (some ⟨blkOf (x i'), 0, none⟩) := funext fun x => (hc x undef world0).2.1
      subst hf
      exact r_alloc hT hA hmono ⟨fun x v => (hc x v world0).2.2.1, fun x v => (hc x v world0).2.2.2.1, fun x v => (hc x v world0).2.2.2.2.1⟩ c3 d (dpOf R ops i') _ hp (fun x => (hc x undef world0).1.2) e g hg c4 c5 (fun x => boxC (curA (i' :: R.an i') x g))
        (fun x => (hc x undef world0).2.2.2.2.2.1) (fun x => (hc x undef world0).2.2.2.2.2.2.1) _ (fun x w => (hc x undef w).2.2.2.2.2.2.2.1) (fun x v => (hc x v world0).2.2.2.2.2.2.2.2)
    · have := hc (fun _ => undef) undef world0 _ (List.mem_singleton.2 rfl); cases this

theorem stepsR (hT : chkT R = true) (hA : chkA R ops = true) (hmono : ∀ q ∈ R.F, ∀ x h h', Sees h h' → q.2 x h → q.2 x h') (hKF : ∀ f ∈ KF, Cells R.h f.1 f.2.1 f.2.2) :
    ∀ (l : List RH) (k : Nat), (∀ x v w, (chkAll P R ops KF x v w k l).map (·.1) = (chkAll P R ops KF x v w k l).map (·.2)) → Told P ops Q R k l → ∀ i, k ≤ i → i < k + l.length → StepAt' P ops Q R i
  | [], k, _, _, i, h1, h2 => by simp at h2; omega
  | r :: l, k, hc, ht, i, h1, h2 => by
    have hc1 : ∀ x v w, ∀ e ∈ chkO P R ops KF x v w k r, e.1 = e.2 := fun x v w e he => pair_eq (hc x v w) e (by unfold chkAll; exact List.mem_append_left _ he)
    have hc2 : ∀ x v w, (chkAll P R ops KF x v w (k + 1) l).map (·.1) = (chkAll P R ops KF x v w (k + 1) l).map (·.2) := fun x v w => by
      have := hc x v w
      unfold chkAll at this
      rw [List.map_append, List.map_append] at this
      exact (List.append_inj this (by simp)).2
    have ht2 : Told P ops Q R (k + 1) l := by
      unfold Told at ht
      cases r <;> first | exact ht | exact ht.2
    rcases Nat.eq_or_lt_of_le h1 with e | hlt
    · subst e
      cases r with
      | cl => unfold Told at ht; exact ht.1
      | pu => exact stepR hT hA hmono hKF .pu (by simp) hc1
      | ps => exact stepR hT hA hmono hKF .ps (by simp) hc1
      | ld e off => exact stepR hT hA hmono hKF (.ld e off) (by simp) hc1
      | lf e off => exact stepR hT hA hmono hKF (.lf e off) (by simp) hc1
      | st e off => exact stepR hT hA hmono hKF (.st e off) (by simp) hc1
      | al e => exact stepR hT hA hmono hKF (.al e) (by simp) hc1
    · exact stepsR hT hA hmono hKF l (k + 1) hc2 ht2 i hlt (by simp only [List.length_cons] at h2; omega)

def drawnOf : Code → Option (Array Oper)
  | .region _ ops true => some ops
  | _ => none
theorem drawnOf_some {c : Code} {ops : Array Oper} (h : drawnOf c = some ops) : ∃ id, c = .region id ops true := by
  unfold drawnOf at h
  split at h
  · simp only [Option.some.injEq] at h; subst h; exact ⟨_, rfl⟩
  · cases h

/-- The region's result, in the order in which the blocks are wanted. -/
theorem x_region {c0 : Code} {p : List Nat} {ks : List Kt} {B : List Ent} {a : Act} {w : World} {Q' : Exit → Act → World → Prop} (hm : P.follows .mixedOrders = true) (R : Reg) (hK : K R.C R.E B KF R.h a w) (n : Nat) (hints : List RH)
    (hst : ([.b (match drawnOf (sub c0 p) with | some ops => Nat.beq ops.size n && Nat.beq hints.length n && chkT R && chkA R ops && (R.G.all fun g => g.vers.all fun p => Nat.blt p.1 n) && (R.T.all fun t => Nat.blt t.1 n) && (R.F.all fun t => Nat.blt t.1 n) | none => false), .bs (R.G.filterMap (·.start))] : List Any) = [.b true, .bs B])
    (hmono : ∀ q ∈ R.F, ∀ x h h', Sees h h' → q.2 x h → q.2 x h')
    (hc : ∀ x v w, (chkAll P R (opsAt c0 p) KF x v w 0 hints).map (·.1) = (chkAll P R (opsAt c0 p) KF x v w 0 hints).map (·.2))
    (ht : chkT R = true → chkA R (opsAt c0 p) = true → Told P (opsAt c0 p) (post P c0 Q' ks) R 0 hints)
    (fin : ∀ x h' a w, Sees R.h h' → K R.C (R.T.map (fun t => (t.2.1, t.2.2 x)) ++ R.E) (R.G.filterMap (curA (List.range n) x)) KF h' a w → (∀ p ∈ R.F, p.2 x h') → Goal P c0 Q' (.out .normal) ks a w) : Goal P c0 Q' (.code p) ks a w := by
  simp only [List.cons.injEq, Any.b.injEq, Any.bs.injEq, and_true] at hst
  obtain ⟨h1, h2⟩ := hst
  split at h1
  · rename_i ops hops
    obtain ⟨id, hid⟩ := drawnOf_some hops
    simp only [Bool.and_eq_true] at h1
    obtain ⟨⟨⟨⟨⟨⟨c1, c2⟩, c3⟩, c4⟩, c5⟩, c6⟩, c7⟩ := h1
    have c1 := Nat.eq_of_beq_eq_true c1
    have c2 := Nat.eq_of_beq_eq_true c2
    have hoa : opsAt c0 p = ops := by unfold opsAt; rw [hid]; rfl
    rw [hoa] at hc ht
    unfold Goal
    simp only
    rw [hid]
    refine region_sx hm R n hK.j c1 c3 c4 h2 c5 c6 c7 (fun hT hA i hi => ?_) (fun x h' a w s j f => ?_)
    · exact stepsR hT hA hmono hK.f hints 0 hc (ht hT hA) i (Nat.zero_le _) (by omega)
    · exact fin x h' a w s ⟨j, hK.facs s⟩ f
  · cases h1
end

end Go.Proofs.Yteolcggpflnpoaa
