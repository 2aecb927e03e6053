/-
  In a drawn region: a store into a map of the call's own; a call that reads a row of the caller's own and gives a new one.
-/
import Derived.Test.YthgcgciceejicaaRown
namespace Go.Proofs.Ythgcgciceejicaa
open Go.RowKit
set_option linter.unusedVariables false

section
variable {P : Program} {Q : Exit → Act → World → Prop} {R : Reg} {ops : Array Oper} {i : Nat}
/-- A store of a pair with a new key into a map of the call's own. -/
theorem r_mapset (hT : chkT R = true) (hA : chkA R ops = true) (dp : List Nat) (hp : (R.T.all fun t => t.1 != i) = true) (hF : (R.F.all fun t => t.1 != i) = true) (hk : ∀ x, (chkD R ops i dp && gOk R ops i dp x true && (opAt ops i).dst.isNone) = true)
    (e : Nat) (ge : Gent) (hg : R.G[e]? = some ge) (ho : only R i (some e) = true) (hs : sync R i ge = true) {b : Nat} {es : List (Value × Value)} {t kt et : TypeId} {td : TypeDesc} {mo ko vo : Operand} (key v : Gh → Value) (hc0 : ∀ x, curA (R.an i) x ge = some (.map b es)) (hc1 : ∀ x, curA (i :: R.an i) x ge = some (.map b (es ++ [(key x, v x)])))
    (hop : setOp (opAt ops i).op = some (t, mo, ko, vo)) (hm : ∀ x, evE (rdE R i dp x) mo = some (.map (some b))) (hkey : ∀ x, evE (rdE R i dp x) ko = some (key x)) (hv : ∀ x, evE (rdE R i dp x) vo = some (v x))
    (ht : P.underlying t = some (.map kt et)) (htd : P.underlying kt = some td) (hks : ∀ x, keyOk td (key x) = true) (hf : ∀ x, mfind td (key x) es = some none) : StepAt' P ops Q R i := by
  refine .mk fun o D x h a w hio hn hd I => ?_
  have hk := hk x
  simp only [Bool.and_eq_true] at hk
  obtain ⟨⟨k1, k2⟩, k3⟩ := hk
  rw [op_at hio] at k3 hop
  have k3 : o.dst = none := by simpa using k3
  have han := an_done hA hio I hd
  have hcur := (cur_sync (x' := x) I hn han hs).trans (hc0 x)
  have hf1 := rd_fits hio k1 I hd hn
  have hB0 := BD_split (D := D) (x := x) hg
  rw [hcur] at hB0
  have hB1 : BD R.G D x = BD (R.G.take e) D x ++ .map b es :: BD (R.G.drop (e + 1)) D x := by rw [hB0]; simp
  have hB : (BD R.G D x)[(BD (R.G.take e) D x).length]? = some (.map b es) := by rw [hB1]; simp
  have hb : w.heap[b]? = some (mapObj es) := I.mem.ents _ (List.mem_of_getElem? hB)
  have hu := run_update_at (P := P) (v := v x) hb ht htd (hks x) (hf x)
  have e1 := hf1.ev (hm x)
  have e2 := hf1.ev (hkey x)
  have e3 := hf1.ev (hv x)
  refine wpOp_skip hio (gOk_wanted hio hf1 k2) (w' := { w with heap := w.heap.setIfInBounds b (mapObj (es ++ [(key x, v x)])) }) ?_ ⟨x, h, ?_⟩
  · unfold execOp
    unfold setOp at hop
    split at hop
    · rename_i eo
      simp only [Option.some.injEq, Prod.mk.injEq] at hop
      obtain ⟨rfl, rfl, rfl, rfl⟩ := hop
      simp only [eo, e1, e2, e3]
      simp [hu, Result.andThen]
    · rename_i eo
      simp only [Option.some.injEq, Prod.mk.injEq] at hop
      obtain ⟨rfl, rfl, rfl, rfl⟩ := hop
      simp only [eo, e1, e2, e3]
      simp [hu, Result.andThen]
    · cases hop
  · have hput : a.put o.dst undef = a := by rw [k3]; rfl
    rw [hput]
    have hcur1 := (at_next I hn han hs x).trans (hc1 x)
    refine I.next hio hT hA hn hd ?_ (Sees.refl _) (fun _ _ _ => rfl) (.inr ⟨fun hm => ?_, rfl⟩) (fun q hq hD => I.facts q hq (hD.resolve_left fun e => ?_))
    · rw [only_some ho hg, hcur1]
      have j := I.mem.setMap (es' := es ++ [(key x, v x)]) hB
      rw [hB1] at j
      simpa using j
    · obtain ⟨q, hq, e⟩ := List.mem_map.1 hm
      have := List.all_eq_true.1 hp q hq
      simp [e] at this
    · have := List.all_eq_true.1 hF q hq
      simp [e] at this

/-- A call that writes nothing, reads a row of the caller's own, and gives a new row. -/
theorem r_callqf (hT : chkT R = true) (hA : chkA R ops = true) (hmono : ∀ q ∈ R.F, ∀ x h h', Sees h h' → q.2 x h → q.2 x h') (hi : Ind R i) (d : Nat) (F : Value → Value) (dp : List Nat) (p : Nat) (hp : R.T[p]? = some (i, d, fun x => F (x i))) (ho : only R i none = true) (hk : ∀ x, okR R ops i d dp x = true)
    (e2 : Nat) (g2 : Gent) (hg2 : R.G[e2]? = some g2) (hs2 : sync R i g2 = true) (v2 : Gh → Value) (t2 : TypeId) (kk : Nat) (l2 : List (List Value)) (hc2 : ∀ x, curA (R.an i) x g2 = some (.row (v2 x) t2 kk l2)) {te : TypeId} {k1 : Nat} (l : List (List Value))
    (n : Nat) (hn : R.F[n]? = some (i, fun x h => RS h k1 (F (x i)) l)) (hon : (R.F.zipIdx.all fun (p, j) => p.1 != i || j == n) = true)
    (k : FuncId) (args : Gh → Array Value) (hr : ∀ x w, (execOp (evD (rdE R i dp x)) (opAt ops i)).run P w = .ok (.enter k (args x)) w)
    (hc : ∀ x H, H.bad = [] → Sees R.h H → (∀ (j : Nat) (q : Nat × (Gh → Vw → Prop)), R.F[j]? = some q → (R.an i).contains q.1 = true → q.2 x H) → RS H kk (v2 x) l2 →
      C0 P k (args x) H (fun v H' => ∃ u lu, Ent.ok H.w.heap.size H'.w (.row u te k1 lu) ∧ (∃ z, u = F z) ∧ v = u ∧ lu = l)) : StepAt' P ops Q R i := by
  refine .mk fun o D x h a w hio hnD hd I => ?_
  obtain ⟨h1, h2, h3, h4⟩ := okR_parts hio (hk x)
  have han := an_done hA hio I hd
  have hcur2 := (cur_sync (x' := x) I hnD han hs2).trans (hc2 x)
  have hm2 : Ent.row (v2 x) t2 kk l2 ∈ BD R.G D x := by rw [BD_split hg2, hcur2]; simp
  obtain ⟨j2, hj2⟩ := List.mem_iff_getElem?.1 hm2
  have sQ : Sees h ⟨w, []⟩ := I.mem.seesQ
  have hcc := hc x ⟨w, []⟩ rfl (I.sees.trans sQ) (fun j q hq hc => hmono q (List.mem_of_getElem? hq) x _ _ sQ (I.facts q (List.mem_of_getElem? hq) (han _ (by simpa using hc)))) (I.mem.rowQ j2 hj2)
  refine wpOp_call hio (gOk_wanted hio (rd_fits hio h1 I hd hnD) h2) (by rw [run_ev (rd_fits hio h1 I hd hnD) h4, ← op_at hio]; exact hr x w) ((hcc (by intro y hy; cases hy) (by simp) (by simp) (by intro b hb; cases hb)).mono ?_)
  rintro e' w' ⟨v, Bo, rfl, hl, -, -, u, lu, hok, ⟨z, rfl⟩, rfl, rfl⟩
  obtain ⟨j, s⟩ := I.mem.called hl
  refine ⟨F z, rfl, upd x i z, ⟨w', blk (BD R.G D x) ++ R.C.bad0⟩, ?_⟩
  rw [h3]
  have hself : upd x i z i = z := by simp [upd]
  refine I.next hio hT hA hnD hd ?_ s (hi.at_t I hnD z) (.inl ⟨d, _, List.mem_of_getElem? hp, by simp only [hself]⟩) (facts_next hi hmono I hnD z s (fun j q hq he => ?_))
  · rw [only_none ho, hi.at_g I hnD z _ (fun _ h => h)]
    exact j.putN _ _
  · have := List.all_eq_true.1 hon (q, j) (List.mem_zipIdx_iff_getElem?.2 hq)
    simp only [he, bne_self_eq_false, Bool.false_or, beq_iff_eq] at this
    subst this
    rw [hn] at hq
    simp only [Option.some.injEq] at hq
    subst hq
    show RS _ k1 (F (upd x i z i)) _
    rw [hself]
    refine row_rs hok fun b hb hm => ?_
    have hlt := bad_lt I.mem b hm
    have := (hok.1.lt b hb).1
    simp only at this
    omega
end

section
variable {P : Program} {c0 : Code} {Q : Exit → Act → World → Prop} {a : Act} {w : World} {p : List Nat} {ks : List Kt}
/-- A part of the code is walked by itself: what holds behind it is told once. -/
theorem x_cut (I : Act → World → Prop) (h : Goal P c0 (Exit.then I (post P c0 Q ks)) (.code p) [] a w) (k : ∀ a w, I a w → Goal P c0 Q (.out .normal) ks a w) : Goal P c0 Q (.code p) ks a w := by
  show (sub c0 p).wp P (post P c0 Q ks) a w
  refine Code.wp_mono (fun e a' w' q => ?_) (show (sub c0 p).wp P (Exit.then I (post P c0 Q ks)) a w from h)
  cases e <;> first | exact k _ _ q | exact q
end

end Go.Proofs.Ythgcgciceejicaa
