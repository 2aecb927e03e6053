/-
  A call in a drawn region that gives a row of the caller's own.
-/
import Derived.Test.YthgcgciceejicaaRow
namespace Go.Proofs.Ythgcgciceejicaa
open Go.RowKit
set_option linter.unusedVariables false

section
variable {P : Program} {Q : Exit → Act → World → Prop} {R : Reg} {ops : Array Oper} {i : Nat}
theorem r_callown (hT : chkT R = true) (hA : chkA R ops = true) (hmono : ∀ q ∈ R.F, ∀ x h h', Sees h h' → q.2 x h → q.2 x h') (hi : Ind R i) (hF : (R.F.all fun t => t.1 != i) = true) (d : Nat) (F : Value → Value) (dp : List Nat) (p : Nat) (hp : R.T[p]? = some (i, d, fun x => F (x i))) (hk : ∀ x, okR R ops i d dp x = true)
    (e : Nat) (g : Gent) (hg : R.G[e]? = some g) (ho : only R i (some e) = true) (hs : sync R i g = true) (te : TypeId) (kk : Nat) (l : Gh → List (List Value)) (hc0 : ∀ x, curA (R.an i) x g = none) (hc1 : ∀ x, curA (i :: R.an i) x g = some (.row (F (x i)) te kk (l x))) (hl : ∀ x v, l (upd x i v) = l x)
    (k : FuncId) (args : Gh → Array Value) (hr : ∀ x w, (execOp (evD (rdE R i dp x)) (opAt ops i)).run P w = .ok (.enter k (args x)) w)
    (hc : ∀ x H, Sees R.h H → (∀ (j : Nat) (q : Nat × (Gh → Vw → Prop)), R.F[j]? = some q → (R.an i).contains q.1 = true → q.2 x H) → CRow P k (args x) H te kk (fun v rows => (∃ u, v = F u) ∧ rows = l x)) : StepAt' P ops Q R i := by
  refine .mk fun o D x h a w hio hn hd I => ?_
  obtain ⟨h1, h2, h3, h4⟩ := okR_parts hio (hk x)
  have han := an_done hA hio I hd
  have hcc := hc x ⟨w, blk (BD R.G D x) ++ R.C.bad0⟩ (I.sees.trans I.mem.sees) (fun j q hq hc => hmono q (List.mem_of_getElem? hq) x _ _ I.mem.sees (I.facts q (List.mem_of_getElem? hq) (han _ (by simpa using hc))))
  refine wpOp_call hio (gOk_wanted hio (rd_fits hio h1 I hd hn) h2) (by rw [run_ev (rd_fits hio h1 I hd hn) h4, ← op_at hio]; exact hr x w) ((hcc (by intro x hx; cases hx) (by simp) (by simp) (bad_lt I.mem)).mono ?_)
  rintro en w' ⟨v, Bo, rfl, hlo, -, -, lr, hok, ⟨u, rfl⟩, rfl⟩
  have j1 := I.mem.addRow hlo hok
  have s1 := j1.sees
  refine ⟨F u, rfl, upd x i u, ⟨w', blk (.row (F u) te kk (l x) :: BD R.G D x) ++ R.C.bad0⟩, ?_⟩
  rw [h3]
  have hself : upd x i u i = u := by simp [upd]
  have hcur := (cur_sync (x' := x) I hn han hs).trans (hc0 x)
  have hcur1 : cur (fun j => j = i ∨ D j) (upd x i u) g = some (.row (F u) te kk (l x)) := by
    rw [at_next I hn han hs, hc1, hself, hl]
  have hBD : BD R.G D x = BD (R.G.take e) D x ++ BD (R.G.drop (e + 1)) D x := by rw [BD_split hg, hcur]; simp
  have hmem : J R.C [] (BD R.G (fun j => j = i ∨ D j) (upd x i u)) ⟨w', blk (.row (F u) te kk (l x) :: BD R.G D x) ++ R.C.bad0⟩ a w' := by
    refine j1.now.perm ?_
    rw [only_some ho hg, hcur1, hi.at_g I hn _ _ mem_take, hi.at_g I hn _ _ mem_drop, hBD]
    simp only [Option.toList_some, List.append_assoc, List.singleton_append]
    exact List.perm_middle.symm
  refine I.next hio hT hA hn hd (hmem.putN _ _) s1 (hi.at_t I hn _) (.inl ⟨d, _, List.mem_of_getElem? hp, by simp only [hself]⟩) (facts_next hi hmono I hn _ s1 (fun j q hq he => ?_))
  have := List.all_eq_true.1 hF q (List.mem_of_getElem? hq)
  simp [he] at this
/-- A store into an element of a row of the call's own. -/
theorem r_rowset (hT : chkT R = true) (hA : chkA R ops = true) (dp : List Nat) (hp : (R.T.all fun t => t.1 != i) = true) (hF : (R.F.all fun t => t.1 != i) = true) (hk : ∀ x, (chkD R ops i dp && gOk R ops i dp x true && (opAt ops i).dst.isNone) = true)
    (e : Nat) (ge : Gent) (hg : R.G[e]? = some ge) (ho : only R i (some e) = true) (hs : sync R i ge = true) (kx fo : Nat) {g m cap kk : Nat} {te : TypeId} {l : List (List Value)} {r : List Value} (v : Gh → Value) (hc0 : ∀ x, curA (R.an i) x ge = some (.row (.slice (some ⟨g, 0, none⟩) m cap) te kk l)) (hc1 : ∀ x, curA (i :: R.an i) x ge = some (.row (.slice (some ⟨g, 0, none⟩) m cap) te kk (l.set kx (putMany r fo (v x).cells.toList))))
    (t : TypeId) (y z : Operand) (hop : (opAt ops i).op = .store t y z) (hy : ∀ x, evE (rdE R i dp x) y = some (.pointer (some ⟨g, 0 + kx * kk + fo, none⟩))) (hz : ∀ x, evE (rdE R i dp x) z = some (v x))
    (hr : l[kx]? = some r) (hv : ∀ x, storesOk P t r fo (v x) = true) : StepAt' P ops Q R i := by
  refine .mk fun o D x h a w hio hn hd I => ?_
  have hk := hk x
  simp only [Bool.and_eq_true] at hk
  obtain ⟨⟨k1, k2⟩, k3⟩ := hk
  rw [op_at hio] at k3 hop
  have k3 : o.dst = none := by simpa using k3
  have han := an_done hA hio I hd
  have hcur := (cur_sync (x' := x) I hn han hs).trans (hc0 x)
  have hf := rd_fits hio k1 I hd hn
  have hB0 := BD_split (D := D) (x := x) hg
  rw [hcur] at hB0
  have hB1 : BD R.G D x = BD (R.G.take e) D x ++ .row (.slice (some ⟨g, 0, none⟩) m cap) te kk l :: BD (R.G.drop (e + 1)) D x := by rw [hB0]; simp
  have hB : (BD R.G D x)[(BD (R.G.take e) D x).length]? = some (.row (.slice (some ⟨g, 0, none⟩) m cap) te kk l) := by rw [hB1]; simp
  have hok := I.mem.ents _ (List.mem_of_getElem? hB)
  obtain ⟨h1, h2⟩ : Ent.ok _ w (.row (.slice (some ⟨g, 0, none⟩) m cap) te kk l) := hok
  have hm : m = l.length := by
    obtain ⟨A, c, e', -⟩ := row_form (I.mem.ents _ (List.mem_of_getElem? hB))
    simp only [Value.slice.injEq] at e'
    exact e'.2.1
  subst hm
  obtain ⟨v1, v2⟩ := storesOk_row h2 hr (hv x)
  have hst := run_store_at (P := P) (row_box h1) v1
  rw [show kx * kk + fo = 0 + kx * kk + fo by omega] at hst
  have hrl := h2 r (List.mem_of_getElem? hr)
  have hfl := flat_len2 l h2
  have hlt := (List.getElem?_eq_some_iff.1 hr).1
  have hle : (kx + 1) * kk ≤ l.length * kk := Nat.mul_le_mul_right _ hlt
  rw [Nat.add_mul] at hle
  obtain ⟨h3, h4⟩ := row_setCells (v x).cells.toList (0 + kx * kk + fo) l.flatten w h1 (by omega)
  rw [show 0 + kx * kk + fo = kx * kk + fo by omega, flat_put2 (v x).cells.toList fo l kx r h2 hr v2] at h3
  refine wpOp_skip hio (gOk_wanted hio hf k2) (w' := w.setCells g (0 + kx * kk + fo) (v x).cells.toList) ?_ ⟨x, h, ?_⟩
  · unfold execOp
    simp only [hop, hf.ev (hy x), hf.ev (hz x), Sem.run_bind, Sem.run_pure, Result.andThen_ok, hst]
  · have hput : a.put o.dst undef = a := by rw [k3]; rfl
    rw [hput]
    have hcur1 := (at_next I hn han hs x).trans (hc1 x)
    refine I.next hio hT hA hn hd ?_ (Sees.refl _) (fun _ _ _ => rfl) (.inr ⟨fun hm => ?_, rfl⟩) (fun q hq hD => I.facts q hq (hD.resolve_left fun e => ?_))
    · rw [only_some ho hg, hcur1]
      have j := I.mem.setRow (l' := l.set kx (putMany r fo (v x).cells.toList)) hB h4 (size_setCells _ _ _ _) ⟨by
        rw [List.length_set]
        rw [show kx * kk + fo = 0 + kx * kk + fo by omega] at h3
        exact h3, fun q hq => by
        rcases List.mem_or_eq_of_mem_set hq with hq | rfl
        · exact h2 q hq
        · rw [put_len2 r _ fo (by omega)]; exact hrl⟩
      rw [hB1] at j
      simpa using j
    · obtain ⟨q, hq, e⟩ := List.mem_map.1 hm
      have := List.all_eq_true.1 hp q hq
      simp [e] at this
    · have := List.all_eq_true.1 hF q hq
      simp [e] at this
end

end Go.Proofs.Ythgcgciceejicaa
