/-
  Calls that change blocks, rows and maps of the caller's own, and may give new ones.
-/
import Derived.Test.YthgcgciceejicaaGo
namespace Go.Proofs.Ythgcgciceejicaa
open Go.RowKit
set_option linter.unusedVariables false

/-- The entities at the places ix; the other ones. -/
def pickI {α : Type} (ix : List Nat) (B : List α) : List α := (B.zipIdx.filter fun p => ix.contains p.2).map (·.1)
def restI {α : Type} (ix : List Nat) (B : List α) : List α := (B.zipIdx.filter fun p => !(ix.contains p.2)).map (·.1)
theorem zip_fst {α : Type} (B : List α) : B.zipIdx.map (·.1) = B := by simp
theorem pickI_sub {α : Type} (ix : List Nat) (B : List α) : (pickI ix B).Sublist B := by
  have h := (List.filter_sublist (p := fun p : α × Nat => ix.contains p.2) (l := B.zipIdx)).map (·.1)
  rwa [zip_fst] at h
theorem restI_sub {α : Type} (ix : List Nat) (B : List α) : (restI ix B).Sublist B := by
  have h := (List.filter_sublist (p := fun p : α × Nat => !(ix.contains p.2)) (l := B.zipIdx)).map (·.1)
  rwa [zip_fst] at h
theorem pick_rest {α : Type} (ix : List Nat) (B : List α) : B.Perm (pickI ix B ++ restI ix B) := by
  have h := (List.filter_append_perm (fun p : α × Nat => ix.contains p.2) B.zipIdx).map (·.1)
  rw [List.map_append, zip_fst] at h
  exact h.symm
theorem blk_sub {l m : List Ent} (h : l.Sublist m) : (blk l).Sublist (blk m) := sub_flat h
theorem Ent.ok_base {base base' : Nat} {w : World} {e : Ent} (h : e.ok base w) (hb : ∀ b ∈ e.blocks, base' ≤ b) : e.ok base' w := by
  cases e with
  | box b cs => exact h
  | map b es => exact h
  | row v t k l =>
    obtain ⟨⟨h0, h1⟩, h2⟩ := h
    refine ⟨⟨h0, ?_⟩, h2⟩
    rcases h1 with h1 | ⟨g, cap, cur, rfl, hb', r⟩
    · exact .inl h1
    · exact .inr ⟨g, cap, cur, rfl, hb g (by simp [Ent.blocks, Value.ownBlock]), r⟩
theorem Fx.base_wr {C : Fx} {b : Nat} (h : C.w0.heap.size ≤ b ∨ b ∈ C.wr) : C.base ≤ b := by
  rcases h with h | h
  · exact Nat.le_trans C.base_le h
  · unfold Fx.base
    split
    · rename_i e; rw [e] at h; cases h
    · exact Nat.zero_le _

/-- What a call gives that changes the entities Bi: Bo stand in their place (rows of their own that are new may be among them). -/
def ConE (P : Program) (f : FuncId) (args : Array Value) (h : Vw) (Bi : List Ent) (R : Value → List Ent → Vw → Prop) : Prop :=
  (∀ e ∈ Bi, e.ok 0 h.w) → (blk Bi).Nodup → (∀ b ∈ blk Bi, b ∈ h.bad) → (∀ b ∈ h.bad, b < h.w.heap.size) →
  Calls P f args h.w fun en w' => ∃ v Bo, en = .returned v ∧ Low (blk Bi) h.w w' ∧ (∀ e ∈ Bo, e.ok 0 w') ∧ (blk Bo).Nodup ∧ (∀ b ∈ blk Bo, b ∈ blk Bi ∨ h.w.heap.size ≤ b) ∧ R v Bo ⟨w', blk Bo ++ h.bad⟩
theorem ConE.mono {P : Program} {f : FuncId} {args : Array Value} {h : Vw} {Bi : List Ent} {R R' : Value → List Ent → Vw → Prop} (hc : ConE P f args h Bi R) (k : ∀ v Bo H, R v Bo H → R' v Bo H) : ConE P f args h Bi R' := fun h1 h2 h3 h4 =>
  (hc h1 h2 h3 h4).mono fun en w' ⟨v, Bo, e1, e2, e3, e4, e5, e6⟩ => ⟨v, Bo, e1, e2, e3, e4, e5, k _ _ _ e6⟩

section
variable {P : Program} {C : Fx} {E : List (Nat × Value)} {B : List Ent} {F : List Fac} {c0 : Code} {Q : Exit → Act → World → Prop} {h : Vw} {s : Z} {a : Act} {w w' : World} {p : List Nat} {n : Nat} {ks : List Kt}
theorem J.calledX (hJ : J C E B h a w) {Bi Br Bo : List Ent} (hB : B.Perm (Bi ++ Br)) (hl : Low (blk Bi) w w') (hok : ∀ e ∈ Bo, e.ok 0 w') (hnd : (blk Bo).Nodup) (hbo : ∀ b ∈ blk Bo, b ∈ blk Bi ∨ w.heap.size ≤ b) :
    Sees h ⟨w', blk Bo ++ (blk B ++ C.bad0)⟩ ∧ J C E (Bo ++ Br) ⟨w', blk Bo ++ (blk B ++ C.bad0)⟩ a w' := by
  have hp : (blk B).Perm (blk Bi ++ blk Br) := by rw [← blk_append]; exact hB.flatMap_right _
  have hbl := blk_lt hJ
  have hi : ∀ b ∈ blk Bi, b ∈ blk B := fun b hb => hp.mem_iff.2 (List.mem_append_left _ hb)
  have hr : ∀ b ∈ blk Br, b ∈ blk B := fun b hb => hp.mem_iff.2 (List.mem_append_right _ hb)
  have hdis := (List.nodup_append.1 (hp.nodup_iff.1 hJ.nodup)).2.2
  have hsz := hJ.sees.size
  have hbad : ∀ b ∈ blk Bo ++ (blk B ++ C.bad0), b < h.w.heap.size → b ∈ h.bad := fun b hb hlt => by
    rcases List.mem_append.1 hb with q | q
    · rcases hbo b q with q | q
      · exact hJ.sees.bad b (List.mem_append_left _ (hi b q)) hlt
      · simp only at hsz; omega
    · exact hJ.sees.bad b q hlt
  have hs : Sees h ⟨w', blk Bo ++ (blk B ++ C.bad0)⟩ := ⟨Nat.le_trans hsz hl.size, fun b hb hn => (hl.block b (Nat.lt_of_lt_of_le hb hsz) (fun q => hn (hJ.sees.bad b (List.mem_append_left _ (hi b q)) hb))).trans (hJ.sees.block b hb hn), hbad⟩
  have hown : ∀ b ∈ blk Bo, C.w0.heap.size ≤ b ∨ b ∈ C.wr := fun b hb => by
    rcases hbo b hb with q | q
    · exact hJ.own b (hi b q)
    · exact .inl (Nat.le_trans hJ.low.size q)
  refine ⟨hs, hJ.fits, hJ.size, hJ.defers, ⟨hl.os.trans hJ.low.os, hl.tape.trans hJ.low.tape, hl.output.trans hJ.low.output, Nat.le_trans hJ.low.size hl.size, fun k hk hm => ?_⟩, ⟨Nat.le_refl _, fun _ _ _ => rfl, fun b hb _ => ?_⟩, fun e he => ?_, ?_, fun b hb => ?_, hJ.badlt⟩
  · refine (hl.block k (Nat.lt_of_lt_of_le hk hJ.low.size) (fun q => ?_)).trans (hJ.low.block k hk hm)
    rcases hJ.own k (hi k q) with g | g
    · omega
    · exact hm g
  · rw [blk_append, List.append_assoc] at hb
    rcases List.mem_append.1 hb with q | q
    · exact List.mem_append_left _ q
    · refine List.mem_append_right _ ?_
      rcases List.mem_append.1 q with q | q
      · exact List.mem_append_left _ (hr b q)
      · exact List.mem_append_right _ q
  · rcases List.mem_append.1 he with q | q
    · exact Ent.ok_base (hok e q) fun b hb => Fx.base_wr (hown b (List.mem_flatMap.2 ⟨e, q, hb⟩))
    · have he : e ∈ B := hB.mem_iff.2 (List.mem_append_right _ q)
      refine ok_block (hJ.ents e he) hl.size fun b hb => ?_
      have hbr : b ∈ blk Br := List.mem_flatMap.2 ⟨e, q, hb⟩
      exact hl.block b (hbl b (hr b hbr)) fun q' => hdis b q' b hbr rfl
  · rw [blk_append, List.nodup_append]
    refine ⟨hnd, (List.nodup_append.1 (hp.nodup_iff.1 hJ.nodup)).2.1, fun x hx y hy e => ?_⟩
    subst e
    rcases hbo x hx with q | q
    · exact hdis x q x hy rfl
    · have := hbl x (hr x hy); omega
  · rw [blk_append] at hb
    rcases List.mem_append.1 hb with q | q
    · exact hown b q
    · exact hJ.own b (hr b q)
theorem J.pre (hJ : J C E B h a w) (ix : List Nat) : (∀ e ∈ pickI ix B, e.ok 0 w) ∧ (blk (pickI ix B)).Nodup ∧ (∀ b ∈ blk (pickI ix B), b ∈ blk B ++ C.bad0) :=
  ⟨fun e he => Ent.ok_base (hJ.ents e ((pickI_sub ix B).mem he)) fun _ _ => Nat.zero_le _, hJ.nodup.sublist (blk_sub (pickI_sub ix B)), fun b hb => List.mem_append_left _ ((blk_sub (pickI_sub ix B)).mem hb)⟩
/-- A call that changes the entities at ix. -/
theorem x_callE {f : FuncId} {args : Array Value} {R : Value → List Ent → Vw → Prop} (hK : K C E B F h a w) (d : Nat) (ix : List Nat) (hc : ConE P f args ⟨w, blk B ++ C.bad0⟩ (pickI ix B) R) (hk : ∀ w, callAt P C E (opsAt c0 p) ((opsAt c0 p).toList.drop n) d w = [.b true, .r (.ok (.enter f args) w)])
    (k : ∀ v Bo h' a w, Sees h h' → R v Bo h' → K C ((d, v) :: E) (Bo ++ restI ix B) F h' a w → Goal P c0 Q (.ops p (n + 1)) ks a w) : Goal P c0 Q (.ops p n) ks a w := by
  obtain ⟨o, r, hl, hg, hd, hlt, hkn, hrun⟩ := callAt_parts hk
  have hr := drop_cons hl
  refine goal_unguard hl (gKnown_wanted hK.j.fits hg) (wpList_plain rfl fun KK hKK => ?_)
  unfold Oper.wp
  have hrun' : ∀ w, (execOp (evD E) { o with guard := none }).run P w = .ok (.enter f args) w := fun w => by
    have := hrun w
    unfold execOp at this ⊢
    exact this
  rw [run_ev (o := { o with guard := none }) hK.j.fits hkn, hrun']
  obtain ⟨p1, p2, p3⟩ := hK.j.pre ix
  refine (hc p1 p2 p3 (bad_lt hK.j)).mono ?_
  rintro e' w' ⟨v, Bo, rfl, hlo, hok, hnd, hbo, hR⟩
  refine hKK _ _ ?_
  rw [hr]
  obtain ⟨s1, j1⟩ := hK.j.calledX (pick_rest ix B) hlo hok hnd hbo
  exact k v Bo _ _ _ s1 hR ⟨j1.putd v hd hlt, hK.facs s1⟩
def Z.eB (s : Z) (ix : List Nat) (Bo : List Ent) : Z := ⟨s.p, s.ks, s.E, Bo ++ restI ix s.B, s.F⟩
theorem g_callEJ {f : FuncId} {args : Array Value} {Bi : List Ent} {R : Value → List Ent → Vw → Prop} (ix : List Nat) (hc : ∀ a w, K C s.E s.B s.F h a w → ConE P f args ⟨w, blk s.B ++ C.bad0⟩ Bi R) (k : ∀ v Bo h', Sees h h' → R v Bo h' → Go P C c0 Q h' ((s.nx c0 v).eB ix Bo)) (hB : pickI ix s.B = Bi := by kernel_rfl) (hk : s.callOk P C c0 f args := by intro _; kernel_rfl) : Go P C c0 Q h s := by
  subst hB
  exact g_ops (callOk_parts hk).1 fun a w hK => x_callE hK (s.d c0) ix (hc a w hK) (callOk_parts hk).2 fun v Bo h' a w s' r hK' => (k v Bo h' s' r).go a w hK'
theorem g_callE {f : FuncId} {args : Array Value} {Bi : List Ent} {R : Value → List Ent → Vw → Prop} (ix : List Nat) (hc : ∀ H, Sees h H → ConE P f args H Bi R) (k : ∀ v Bo h', Sees h h' → R v Bo h' → Go P C c0 Q h' ((s.nx c0 v).eB ix Bo)) (hB : pickI ix s.B = Bi := by kernel_rfl) (hk : s.callOk P C c0 f args := by intro _; kernel_rfl) : Go P C c0 Q h s :=
  g_callEJ ix (fun _ _ hK => hc _ hK.j.sees) k hB hk

/-- A function is walked so. -/
def EndE (P : Program) (C : Fx) (c0 : Code) (Q : Exit → Act → World → Prop) (fn : Func) (R : Value → List Ent → Vw → Prop) : Prop :=
  ∀ {s : Z} {h : Vw} (vs : List Value) (ix : List Nat) (jx : List Nat) (Bo : List Ent), (endZ P s fn.results.toList ix vs [] []).map (·.1) = (endZ P s fn.results.toList ix vs [] []).map (·.2) → pickI jx s.B = Bo → (∀ a w, K C s.E s.B s.F h a w → R (pack vs) Bo ⟨w, blk Bo ++ C.bad0⟩) → Go P C c0 Q h s
theorem EndE.to {fn : Func} {R : Value → List Ent → Vw → Prop} (hQ : EndE P C c0 Q fn R) (vs : List Value) (jx : List Nat) (Bo : List Ent) (k : ∀ H, Sees h H → R (pack vs) Bo H) (ix : List Nat := []) (hc : (endZ P s fn.results.toList ix vs [] []).map (·.1) = (endZ P s fn.results.toList ix vs [] []).map (·.2) := by kernel_rfl) (hB : pickI jx s.B = Bo := by kernel_rfl) : Go P C c0 Q h s :=
  hQ vs ix jx Bo hc hB fun a w hK => k _ (hK.j.sees.less fun b hb => by
    subst hB
    rcases List.mem_append.1 hb with q | q
    · exact List.mem_append_left _ ((blk_sub (pickI_sub jx s.B)).mem q)
    · exact List.mem_append_right _ q)
theorem g_conE {f : FuncId} {fn : Func} {args : Array Value} {Bi : List Ent} {R : Value → List Ent → Vw → Prop} (hf : P.funcs[f]? = some fn)
    (body : (∀ b ∈ blk Bi, b ∈ h.bad) → ∀ (Q : Exit → Act → World → Prop), EndE P ⟨fn.ntmps, h.w, h.bad, blk Bi, []⟩ (fn.body.getD .skip) Q fn R → Go P ⟨fn.ntmps, h.w, h.bad, blk Bi, []⟩ (fn.body.getD .skip) Q h ⟨.code [], [], argE 0 args.toList, Bi, []⟩)
    (hb : fn.body = some (fn.body.getD .skip) := by kernel_rfl) (hle : Nat.ble args.size fn.ntmps = true := by kernel_rfl) : ConE P f args h Bi R := by
  intro hok hnd hbad hlt
  have hle := Nat.le_of_ble_eq_true hle
  refine calls_of_wp hf hb ?_
  refine x_start ((body hbad _ (fun {s h'} vs ix jx Bo hc hB hR => .mk fun a w hK' => ?_)).go _ _ ⟨⟨fun d v hv => ?_, by simp; omega, rfl, Low.refl _ _, ⟨Nat.le_refl _, fun _ _ _ => rfl, fun b hb _ => ?_⟩, fun e he => ?_, hnd, fun b hb => .inr hb, hlt⟩, fun x hx => by cases hx⟩)
  · have hc := map_pair hc
    have c1 := hc _ (List.mem_cons_self ..)
    have c3 : ∀ e ∈ resZ P s fn.results.toList ix vs, e.1 = e.2 := fun e he => hc e (List.mem_cons_of_mem _ (List.mem_cons_of_mem _ he))
    simp only [Any.b.injEq, Bool.and_eq_true] at c1
    obtain ⟨⟨e1, e2⟩, -⟩ := c1
    have hks : s.ks = [] := by simpa using e2
    subst hB
    have hsub := blk_sub (pickI_sub jx s.B)
    have hp : bodyPost P fn (fun en w' => ∃ v Bo, en = .returned v ∧ Low (blk Bi) h.w w' ∧ (∀ e ∈ Bo, e.ok 0 w') ∧ (blk Bo).Nodup ∧ (∀ b ∈ blk Bo, b ∈ blk Bi ∨ h.w.heap.size ≤ b) ∧ R v Bo ⟨w', blk Bo ++ h.bad⟩) .ret a w :=
      ⟨hK'.j.defers, pack vs, run_results (resZ_res hK' c3), _, pickI jx s.B, rfl, hK'.j.low, fun e he => Ent.ok_base (hK'.j.ents e ((pickI_sub jx s.B).mem he)) fun _ _ => Nat.zero_le _, hK'.j.nodup.sublist hsub, fun b hb => (hK'.j.own b (hsub.mem hb)).symm, hR a w hK'⟩
    rw [hks]
    generalize s.p = pt at *
    unfold isEnd at e1
    split at e1
    · exact hp
    · exact hp
    · cases e1
  · obtain ⟨h1, h2⟩ := argE_lookup _ _ _ _ hv
    simp only [Nat.sub_zero, Array.getElem?_toList] at h2
    have hd := (Array.getElem?_eq_some_iff.1 h2).1
    simp only [Act.eval, Array.getD_eq_getD_getElem?]
    rw [Array.getElem?_append_left hd, h2]
    rfl
  · rcases List.mem_append.1 hb with g | g
    · exact hbad b g
    · exact g
  · exact Ent.ok_base (hok e he) fun b hb => Fx.base_wr (C := ⟨fn.ntmps, h.w, h.bad, blk Bi, []⟩) (.inr (List.mem_flatMap.2 ⟨e, he, hb⟩))
end

end Go.Proofs.Ythgcgciceejicaa
