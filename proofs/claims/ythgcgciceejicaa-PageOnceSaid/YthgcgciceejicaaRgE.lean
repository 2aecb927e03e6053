/-
  In a drawn region: calls that change entities of the caller's own, slices made, loads that stand beside writes.
-/
import Derived.Test.YthgcgciceejicaaConE
namespace Go.Proofs.Ythgcgciceejicaa
open Go.RowKit
set_option linter.unusedVariables false

section
variable {P : Program} {Q : Exit → Act → World → Prop} {R : Reg} {ops : Array Oper} {i : Nat} {D : Nat → Prop} {x x' : Gh} {h h' : Vw} {a : Act} {w : World}
theorem BD_pick (ix : List Nat) (G : List Gent) : (BD G D x).Perm (BD (pickI ix G) D x ++ BD (restI ix G) D x) := by
  have := (pick_rest ix G).filterMap (cur D x)
  rwa [List.filterMap_append] at this
/-- Only the entities at ix are written by i. -/
def onlyL (R : Reg) (i : Nat) (ix : List Nat) : Bool := (restI ix R.G).all fun g => g.vers.all fun p => p.1 != i
/-- A call that changes entities of the caller's own. -/
theorem r_callE (hT : chkT R = true) (hA : chkA R ops = true) (hmono : ∀ q ∈ R.F, ∀ x h h', Sees h h' → q.2 x h → q.2 x h') (hi : Ind R i) (d : Nat) (F : Value → Value) (dp : List Nat) (p : Nat) (hp : R.T[p]? = some (i, d, fun x => F (x i))) (hk : ∀ x, okR R ops i d dp x = true)
    (ix : List Nat) (ho : onlyL R i ix = true) (hs : ((pickI ix R.G).all fun g => sync R i g) = true) (Bi Bo : Gh → List Ent) (hc0 : ∀ x, (pickI ix R.G).filterMap (curA (R.an i) x) = Bi x) (hc1 : ∀ x, (pickI ix R.G).filterMap (curA (i :: R.an i) x) = Bo x) (hl : ∀ x v, Bi (upd x i v) = Bi x)
    (k : FuncId) (args : Gh → Array Value) (hr : ∀ x w, (execOp (evD (rdE R i dp x)) (opAt ops i)).run P w = .ok (.enter k (args x)) w)
    (hc : ∀ x H, Sees R.h H → (∀ (j : Nat) (q : Nat × (Gh → Vw → Prop)), R.F[j]? = some q → (R.an i).contains q.1 = true → q.2 x H) →
      ConE P k (args x) H (Bi x) (fun v B' H' => ∃ u, v = F u ∧ B' = Bo (upd x i u) ∧ ∀ (j : Nat) (q : Nat × (Gh → Vw → Prop)), R.F[j]? = some q → q.1 = i → q.2 (upd x i u) H')) : StepAt' P ops Q R i := by
  refine .mk fun o D x h a w hio hn hd I => ?_
  obtain ⟨h1, h2, h3, h4⟩ := okR_parts hio (hk x)
  have han := an_done hA hio I hd
  have hsg : ∀ g ∈ pickI ix R.G, sync R i g = true := fun g hg => List.all_eq_true.1 hs g hg
  have hbi : BD (pickI ix R.G) D x = Bi x := (fm_congr fun g hg => cur_sync (x' := x) I hn han (hsg g hg)).trans (hc0 x)
  have hperm := BD_pick (D := D) (x := x) ix R.G
  rw [hbi] at hperm
  have hmem := hperm.symm.subset
  have hcc := hc x ⟨w, blk (BD R.G D x) ++ R.C.bad0⟩ (I.sees.trans I.mem.sees) (fun j q hq hc => hmono q (List.mem_of_getElem? hq) x _ _ I.mem.sees (I.facts q (List.mem_of_getElem? hq) (han _ (by simpa using hc))))
  have hb : (blk (BD R.G D x)).Perm (blk (Bi x) ++ blk (BD (restI ix R.G) D x)) := by rw [← blk_append]; exact hperm.flatMap_right _
  have p1 : ∀ e ∈ Bi x, e.ok 0 w := fun e he => Ent.ok_base (I.mem.ents e (hmem (List.mem_append_left _ he))) fun _ _ => Nat.zero_le _
  have p2 : (blk (Bi x)).Nodup := (List.nodup_append.1 (hb.nodup_iff.1 I.mem.nodup)).1
  have p3 : ∀ b ∈ blk (Bi x), b ∈ blk (BD R.G D x) ++ R.C.bad0 := fun b hb' => List.mem_append_left _ (hb.mem_iff.2 (List.mem_append_left _ hb'))
  refine wpOp_call hio (gOk_wanted hio (rd_fits hio h1 I hd hn) h2) (by rw [run_ev (rd_fits hio h1 I hd hn) h4, ← op_at hio]; exact hr x w) ((hcc p1 p2 p3 (bad_lt I.mem)).mono ?_)
  rintro en w' ⟨v, Bo', rfl, hlo, hok, hnd, hbo, u, rfl, rfl, hv⟩
  obtain ⟨s1, j1⟩ := I.mem.calledX hperm hlo hok hnd hbo
  have hself : upd x i u i = u := by simp [upd]
  refine ⟨F u, rfl, upd x i u, ⟨w', blk (Bo (upd x i u)) ++ (blk (BD R.G D x) ++ R.C.bad0)⟩, ?_⟩
  rw [h3]
  have hb1 : BD (pickI ix R.G) (fun j => j = i ∨ D j) (upd x i u) = Bo (upd x i u) := (fm_congr fun g hg => at_next I hn han (hsg g hg) (upd x i u)).trans (hc1 (upd x i u))
  have hb2 : BD (restI ix R.G) (fun j => j = i ∨ D j) (upd x i u) = BD (restI ix R.G) D x := by
    rw [BD_same fun g hg p hp => by simpa using List.all_eq_true.1 (List.all_eq_true.1 ho g hg) p hp]
    exact hi.at_g I hn u _ fun g hg => (restI_sub ix R.G).mem hg
  have hp2 := BD_pick (D := fun j => j = i ∨ D j) (x := upd x i u) ix R.G
  rw [hb1, hb2] at hp2
  exact I.next hio hT hA hn hd ((j1.perm hp2.symm).putN _ _) s1 (hi.at_t I hn u) (.inl ⟨d, _, List.mem_of_getElem? hp, by simp only [hself]⟩) (facts_next hi hmono I hn u s1 hv)

/-- .. where it gives no facts. -/
theorem r_callE' (hT : chkT R = true) (hA : chkA R ops = true) (hmono : ∀ q ∈ R.F, ∀ x h h', Sees h h' → q.2 x h → q.2 x h') (hi : Ind R i) (hF : (R.F.all fun t => t.1 != i) = true) (d : Nat) (F : Value → Value) (dp : List Nat) (p : Nat) (hp : R.T[p]? = some (i, d, fun x => F (x i))) (hk : ∀ x, okR R ops i d dp x = true)
    (ix : List Nat) (ho : onlyL R i ix = true) (hs : ((pickI ix R.G).all fun g => sync R i g) = true) (Bi : Gh → List Ent) (Bo : Gh → Value → List Ent) (hc0 : ∀ x, (pickI ix R.G).filterMap (curA (R.an i) x) = Bi x) (hc1 : ∀ x, (pickI ix R.G).filterMap (curA (i :: R.an i) x) = Bo x (x i)) (hl : ∀ x v, (Bi (upd x i v), Bo (upd x i v) v) = (Bi x, Bo x v))
    (k : FuncId) (args : Gh → Array Value) (hr : ∀ x w, (execOp (evD (rdE R i dp x)) (opAt ops i)).run P w = .ok (.enter k (args x)) w)
    (hc : ∀ x H, Sees R.h H → (∀ (j : Nat) (q : Nat × (Gh → Vw → Prop)), R.F[j]? = some q → (R.an i).contains q.1 = true → q.2 x H) →
      ConE P k (args x) H (Bi x) (fun v B' _ => ∃ u, v = F u ∧ B' = Bo x u)) : StepAt' P ops Q R i := by
  refine r_callE hT hA hmono hi d F dp p hp hk ix ho hs Bi (fun x => Bo x (x i)) hc0 hc1 (fun x v => (Prod.mk.inj (hl x v)).1) k args hr fun x H s f => (hc x H s f).mono ?_
  rintro v B' H' ⟨u, rfl, rfl⟩
  refine ⟨u, rfl, ?_, fun j q hq he => ?_⟩
  · have : upd x i u i = u := by simp [upd]
    rw [this]
    exact (Prod.mk.inj (hl x u)).2.symm
  · have := List.all_eq_true.1 hF q (List.mem_of_getElem? hq)
    simp [he] at this
/-- What holds of a block at first and behind each write. -/
theorem cur_any {q : Option Ent → Prop} {g : Gent} (h0 : q g.start) (hv : ∀ p ∈ g.vers, q (some (p.2 x))) : q (cur D x g) := by
  unfold cur
  obtain ⟨s, vs⟩ := g
  simp only at h0 hv ⊢
  induction vs generalizing s with
  | nil => exact h0
  | cons p vs ih =>
    refine ih _ ?_ (fun q hq => hv q (by simp [hq]))
    by_cases hp : D p.1
    · show q (sel _ _ _)
      rw [sel_pos hp]; exact hv p (by simp)
    · show q (sel _ _ _)
      rw [sel_neg hp]; exact h0
/-- A load out of a block of the call's own that is the same at each time. -/
def anyLd (P : Program) (b off : Nat) (t : TypeId) (v : Value) : Option Ent → Prop
  | some (.box b' cs) => b' = b ∧ loadsAs P t cs off = some v
  | _ => False
theorem r_loadY (hT : chkT R = true) (hA : chkA R ops = true) (d : Nat) (f : Gh → Value) (dp : List Nat) (p : Nat) (hp : R.T[p]? = some (i, d, f)) (ho : only R i none = true) (hF : (R.F.all fun t => t.1 != i) = true) (hk : ∀ x, okR R ops i d dp x = true)
    (e : Nat) (g : Gent) (hg : R.G[e]? = some g) (b : Nat) (t : TypeId) (y : Operand) (off : Nat) (cs : List Value) (L : List (Gh → List Value)) (h0 : g.start = some (.box b cs)) (hl : ∀ x, g.vers.map (fun p => p.2 x) = L.map fun c => .box b (c x)) (hop : (opAt ops i).op = .load t y) (hy : ∀ x, evE (rdE R i dp x) y = some (.pointer (some ⟨b, off, none⟩)))
    (hv0 : ∀ x, loadsAs P t cs off = some (f x)) (hv : ∀ x, L.map (fun c => loadsAs P t (c x) off) = L.map fun _ => some (f x)) : StepAt' P ops Q R i := by
  refine .mk fun o D x h a w hio hn hd I => ?_
  obtain ⟨h1, h2, h3, h4⟩ := okR_parts hio (hk x)
  have hq : ∃ cs, cur D x g = some (.box b cs) ∧ loadsAs P t cs off = some (f x) := by
    refine cur_any (q := fun c => ∃ cs, c = some (.box b cs) ∧ loadsAs P t cs off = some (f x)) ⟨cs, h0, hv0 x⟩ fun p hp' => ?_
    have hm : p.2 x ∈ g.vers.map (fun p => p.2 x) := List.mem_map.2 ⟨p, hp', rfl⟩
    rw [hl x] at hm
    obtain ⟨c, hc, e⟩ := List.mem_map.1 hm
    refine ⟨c x, by rw [e], map_at (hv x) c hc⟩
  obtain ⟨cs, hcur, hvv⟩ := hq
  have hm : Ent.box b cs ∈ BD R.G D x := by
    rw [BD_split hg, hcur]; simp
  have hld := run_loads (P := P) (o0 := 0) (off := off) (box_range (I.mem.ents _ hm)) hvv
  rw [Nat.zero_add] at hld
  refine wpOp_value hio (gOk_wanted hio (rd_fits hio h1 I hd hn) h2) (v := f x) (w' := w) ?_ ⟨x, h, ?_⟩
  · rw [op_at hio] at hop
    unfold execOp
    simp only [hop, (rd_fits hio h1 I hd hn).ev (hy x), Sem.run_bind, Sem.run_pure, Result.andThen_ok, hld]
  · rw [h3]
    refine I.next hio hT hA hn hd ?_ (Sees.refl _) (fun _ _ _ => rfl) (.inl ⟨d, f, List.mem_of_getElem? hp, rfl⟩) (fun q hq hD => I.facts q hq (hD.resolve_left fun e => ?_))
    · rw [only_none ho]; exact I.mem.putN _ _
    · have := List.all_eq_true.1 hF q hq
      simp [e] at this

/-- A new block of the call's own, by its place f. -/
theorem r_allocF (hT : chkT R = true) (hA : chkA R ops = true) (hmono : ∀ q ∈ R.F, ∀ x h h', Sees h h' → q.2 x h → q.2 x h') (hi : Ind R i) (hF : (R.F.all fun t => t.1 != i) = true) (d : Nat) (f : Nat → Value) (dp : List Nat) (p : Nat) (hp : R.T[p]? = some (i, d, fun x => f (blkOf (x i)))) (hk : ∀ x, okR R ops i d dp x = true)
    (e : Nat) (g : Gent) (hg : R.G[e]? = some g) (ho : only R i (some e) = true) (hs : sync R i g = true) (cs : Gh → List Value) (hc0 : ∀ x, curA (R.an i) x g = none) (hc1 : ∀ x, curA (i :: R.an i) x g = some (.box (blkOf (x i)) (cs x)))
    (t : TypeId) (hr : ∀ x w, (execOp (evD (rdE R i dp x)) (opAt ops i)).run P w = .ok (.value (f w.heap.size)) (w.alloc (.cells (cs x).toArray t))) (hcs : ∀ x v, cs (upd x i v) = cs x) : StepAt' P ops Q R i := by
  refine .mk fun o D x h a w hio hn hd I => ?_
  obtain ⟨h1, h2, h3, h4⟩ := okR_parts hio (hk x)
  have han := an_done hA hio I hd
  refine wpOp_value hio (gOk_wanted hio (rd_fits hio h1 I hd hn) h2) (by rw [run_ev (rd_fits hio h1 I hd hn) h4, ← op_at hio]; exact hr x w) ?_
  have hl : Low [] w (w.alloc (.cells (cs x).toArray t)) := Low.of_below ((Below.refl _ _).alloc (Nat.le_refl _) _)
  have s := (I.mem.grow hl).sees
  have hcur := (cur_sync (x' := x) I hn han hs).trans (hc0 x)
  refine ⟨upd x i (.pointer (some ⟨w.heap.size, 0, none⟩)), ⟨w.alloc (.cells (cs x).toArray t), w.heap.size :: (blk (BD R.G D x) ++ R.C.bad0)⟩, ?_⟩
  rw [h3]
  have hself : upd x i (.pointer (some ⟨w.heap.size, 0, none⟩)) i = .pointer (some ⟨w.heap.size, 0, none⟩) := by simp [upd]
  have hcur1 : cur (fun j => j = i ∨ D j) (upd x i (.pointer (some ⟨w.heap.size, 0, none⟩))) g = some (.box w.heap.size (cs x)) := by
    rw [cur_at (A := i :: R.an i) (fun p hp => ?_), hc1, hself, hcs]; rfl
    have := List.all_eq_true.1 hs p hp
    simp only [Bool.or_eq_true] at this
    by_cases hpi : p.1 = i
    · exact .inl ⟨by simp [hpi], .inl hpi⟩
    · cases hc : (R.an i).contains p.1 with
      | true => exact .inl ⟨by simp only [List.contains_cons, hc, Bool.or_true], .inr (han _ (by simpa using hc))⟩
      | false =>
        refine .inr ⟨by simp only [List.contains_cons, hc, Bool.or_false]; simpa using hpi, fun hD => ?_⟩
        rcases hD with hD | hD
        · exact hpi hD
        · rw [hc] at this
          rcases this with (k | k) | k
          · cases k
          · exact hpi (by simpa using k)
          · exact hn (I.closed _ hD _ (by simpa using k))
  have hnew := (I.mem.new (cs x) t)
  have hBD : BD R.G D x = BD (R.G.take e) D x ++ BD (R.G.drop (e + 1)) D x := by rw [BD_split hg, hcur]; simp
  have hmem : J R.C [] (BD R.G (fun j => j = i ∨ D j) (upd x i (.pointer (some ⟨w.heap.size, 0, none⟩)))) ⟨w.alloc (.cells (cs x).toArray t), w.heap.size :: (blk (BD R.G D x) ++ R.C.bad0)⟩ a (w.alloc (.cells (cs x).toArray t)) := by
    have hn' := hnew.now
    have hsee : Sees (⟨w.alloc (.cells (cs x).toArray t), w.heap.size :: (blk (BD R.G D x) ++ R.C.bad0)⟩ : Vw) ⟨w.alloc (.cells (cs x).toArray t), blk (.box w.heap.size (cs x) :: BD R.G D x) ++ R.C.bad0⟩ := ⟨Nat.le_refl _, fun _ _ _ => rfl, fun b hb _ => by simpa [blk, Ent.blocks] using hb⟩
    have hj : J R.C [] (.box w.heap.size (cs x) :: BD R.G D x) ⟨w.alloc (.cells (cs x).toArray t), w.heap.size :: (blk (BD R.G D x) ++ R.C.bad0)⟩ a (w.alloc (.cells (cs x).toArray t)) :=
      ⟨hn'.fits, hn'.size, hn'.defers, hn'.low, hsee, hn'.ents, hn'.nodup, hn'.own, hn'.badlt⟩
    refine hj.perm ?_
    rw [only_some ho hg, hcur1, hi.at_g I hn _ _ mem_take, hi.at_g I hn _ _ mem_drop, hBD]
    simp only [Option.toList_some, List.append_assoc, List.singleton_append]
    exact List.perm_middle.symm
  have hs2 : Sees h ⟨w.alloc (.cells (cs x).toArray t), w.heap.size :: (blk (BD R.G D x) ++ R.C.bad0)⟩ := by
    refine ⟨s.size, s.block, fun b hb hlt => ?_⟩
    rcases List.mem_cons.1 hb with rfl | hb
    · have := I.mem.sees.size
      simp only at this
      omega
    · exact s.bad b hb hlt
  refine I.next hio hT hA hn hd (hmem.putN _ _) hs2 (hi.at_t I hn _) (.inl ⟨d, _, List.mem_of_getElem? hp, by simp only [hself, blkOf]⟩) (facts_next hi hmono I hn _ hs2 (fun j q hq he => ?_))
  have := List.all_eq_true.1 hF q (List.mem_of_getElem? hq)
  simp [he] at this

/-- make([]T, m). -/
theorem r_make (hT : chkT R = true) (hA : chkA R ops = true) (hmono : ∀ q ∈ R.F, ∀ x h h', Sees h h' → q.2 x h → q.2 x h') (hi : Ind R i) (hF : (R.F.all fun t => t.1 != i) = true) (d : Nat) (dp : List Nat) (p m : Nat) (hp : R.T[p]? = some (i, d, fun x => .slice (some ⟨blkOf (x i), 0, none⟩) m m)) (hk : ∀ x, okR R ops i d dp x = true)
    (e : Nat) (g : Gent) (hg : R.G[e]? = some g) (ho : only R i (some e) = true) (hs : sync R i g = true) {t te : TypeId} {z : Value} {cs : List Value} {y : Operand} {by_ kk : Nat} (hc0 : ∀ x, curA (R.an i) x g = none) (hc1 : ∀ x, curA (i :: R.an i) x g = some (.row (.slice (some ⟨blkOf (x i), 0, none⟩) m m) te kk (List.replicate m cs)))
    (hop : (opAt ops i).op = .makeSlice t y y) (hy : ∀ x, evE (rdE R i dp x) y = some (.int .i64 (m : Int)))
    (ht : P.underlying t = some (.slice te)) (hI : (P.info? te).map (fun i => (i.zero, i.size, i.bytes)) = some (some z, kk, by_)) (hz : z.cells = cs.toArray) (hkk : cs.length = kk) (k0 : 0 < kk) (hcm : m * kk ≤ 16777216) (hb : by_ * m ≤ 281474976710656) (h63 : m ≤ maxLen) : StepAt' P ops Q R i := by
  refine .mk fun o D x h a w hio hn hd I => ?_
  obtain ⟨h1, h2, h3, h4⟩ := okR_parts hio (hk x)
  have han := an_done hA hio I hd
  cases hI2 : P.info? te with
  | none => rw [hI2] at hI; cases hI
  | some inf =>
    rw [hI2] at hI
    simp only [Option.map_some, Option.some.injEq, Prod.mk.injEq] at hI
    obtain ⟨i1, i2, i3⟩ := hI
    have hf := rd_fits hio h1 I hd hn
    obtain ⟨w', g1, g2, g3⟩ := run_makeSlice_full (P := P) (w := w) w.heap.size t te inf z kk ht hI2 i1 i2 .i64 .i64 m hcm (by rw [i3]; exact hb) h63 (Nat.le_refl _)
    refine wpOp_value hio (gOk_wanted hio hf h2) (v := .slice (some ⟨w.heap.size, 0, none⟩) m m) (w' := w') ?_ ?_
    · rw [op_at hio] at hop
      unfold execOp
      simp only [hop, hf.ev (hy x)]
      simp [g1, Result.andThen]
    subst hkk
    rw [hz, made_flat cs k0] at g2
    have hlow : Low [] w w' := ⟨g3.os, g3.tape, g3.output, g3.size, fun q hq _ => g3.block q hq (by simp)⟩
    have hrow : Ent.ok w.heap.size w' (.row (.slice (some ⟨w.heap.size, 0, none⟩) m m) te cs.length (List.replicate m cs)) := ⟨by rw [List.length_replicate]; exact g2, fun q hq => by rw [(List.mem_replicate.1 hq).2]⟩
    have j1 := I.mem.addRow hlow hrow
    have s1 := j1.sees
    refine ⟨upd x i (.pointer (some ⟨w.heap.size, 0, none⟩)), ⟨w', blk (.row (.slice (some ⟨w.heap.size, 0, none⟩) m m) te cs.length (List.replicate m cs) :: BD R.G D x) ++ R.C.bad0⟩, ?_⟩
    rw [h3]
    have hself : upd x i (.pointer (some ⟨w.heap.size, 0, none⟩)) i = .pointer (some ⟨w.heap.size, 0, none⟩) := by simp [upd]
    have hcur := (cur_sync (x' := x) I hn han hs).trans (hc0 x)
    have hcur1 : cur (fun j => j = i ∨ D j) (upd x i (.pointer (some ⟨w.heap.size, 0, none⟩))) g = some (.row (.slice (some ⟨w.heap.size, 0, none⟩) m m) te cs.length (List.replicate m cs)) := by
      rw [at_next I hn han hs, hc1, hself]; rfl
    have hBD : BD R.G D x = BD (R.G.take e) D x ++ BD (R.G.drop (e + 1)) D x := by rw [BD_split hg, hcur]; simp
    have hmem : J R.C [] (BD R.G (fun j => j = i ∨ D j) (upd x i (.pointer (some ⟨w.heap.size, 0, none⟩)))) ⟨w', blk (.row (.slice (some ⟨w.heap.size, 0, none⟩) m m) te cs.length (List.replicate m cs) :: BD R.G D x) ++ R.C.bad0⟩ a w' := by
      refine j1.now.perm ?_
      rw [only_some ho hg, hcur1, hi.at_g I hn _ _ mem_take, hi.at_g I hn _ _ mem_drop, hBD]
      simp only [Option.toList_some, List.append_assoc, List.singleton_append]
      exact List.perm_middle.symm
    refine I.next hio hT hA hn hd (hmem.putN _ _) s1 (hi.at_t I hn _) (.inl ⟨d, _, List.mem_of_getElem? hp, by simp only [hself, blkOf]⟩) (facts_next hi hmono I hn _ s1 (fun j q hq he => ?_))
    have := List.all_eq_true.1 hF q (List.mem_of_getElem? hq)
    simp [he] at this
end

/-- The entity at i ahead of the others. -/
def Z.front (s : Z) (i : Nat) : Z := ⟨s.p, s.ks, s.E, (s.B[i]?).toList ++ s.B.eraseIdx i, s.F⟩
theorem perm_front {α : Type} : ∀ (l : List α) (i : Nat), l.Perm ((l[i]?).toList ++ l.eraseIdx i)
  | [], i => by simp
  | x :: l, 0 => by simp
  | x :: l, i + 1 => by
    rw [List.getElem?_cons_succ, List.eraseIdx_cons_succ]
    exact ((perm_front l i).cons x).trans List.perm_middle.symm
theorem g_front {P : Program} {C : Fx} {c0 : Code} {Q : Exit → Act → World → Prop} {h : Vw} {s : Z} (i : Nat) (k : Go P C c0 Q h (s.front i)) : Go P C c0 Q h s :=
  .mk fun a w hK => k.go a w ⟨hK.j.perm (perm_front s.B i), hK.f⟩

end Go.Proofs.Ythgcgciceejicaa
