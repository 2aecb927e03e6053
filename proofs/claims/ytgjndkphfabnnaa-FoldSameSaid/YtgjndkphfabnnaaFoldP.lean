/-
  Formulas that are less, in plain words; the laws of it.
-/
import Derived.Test.YtgjndkphfabnnaaEvG
import Derived.Test.YtgjndkphfabnnaaEvL
namespace Go.Proofs.Ytgjndkphfabnnaa
open Go.RowKit

/-- The formula of a value. -/
def cstE (v : Vl) : Ex := if v.k = 1 ∧ v.n < 0 then .mk 3 0 0 ⟨#[]⟩ ⟨#[]⟩ [.mk 1 1 (-v.n) v.s ⟨#[]⟩ []] else .mk 1 v.k v.n v.s ⟨#[]⟩ []
def hdX (l : List Ex) (i : Nat) : Ex := l.getD i (.mk 0 0 0 ⟨#[]⟩ ⟨#[]⟩ [])
def ifB (x : Ex) : Bool := decide (x.op = 17 ∧ (hdX x.args 0).op = 1 ∧ (hdX x.args 0).k = 2)
def ifE (x : Ex) : Ex := if ifB x then hdX x.args (2 - (hdX x.args 0).n).toNat else x
def doneE (x : Ex) : Bool := (refsE x).isEmpty && decide ((evalE [] x).k ≤ 3)
mutual
def foldE : Ex → Ex
  | .mk op k n s nm l => if doneE (.mk op k n s nm l) then cstE (evalE [] (.mk op k n s nm l)) else ifE (.mk op k n s nm (foldL l))
def foldL : List Ex → List Ex
  | [] => []
  | x :: l => foldE x :: foldL l
end
theorem foldL_map : ∀ l, foldL l = l.map foldE
  | [] => by rw [foldL]; rfl
  | x :: l => by rw [foldL, foldL_map l]; rfl
theorem foldE_eq (x : Ex) : foldE x = if doneE x then cstE (evalE [] x) else ifE (.mk x.op x.k x.n x.s x.nm (x.args.map foldE)) := by
  obtain ⟨a, b, c, d, e, l⟩ := x
  rw [foldE, foldL_map]; rfl

theorem nil_ok : EnvOk [] := fun s v h => by cases h
theorem done_refs {x : Ex} (h : doneE x = true) : refsE x = [] := by
  unfold doneE at h
  rw [Bool.and_eq_true] at h
  exact List.isEmpty_iff.1 h.1
theorem done_known {x : Ex} (hw : WfE x) (h : doneE x = true) : (evalE [] x).known := by
  unfold doneE at h
  rw [Bool.and_eq_true] at h
  have hk := of_decide_eq_true h.2
  exact ok_known (evalE_ok nil_ok _ x (Nat.le_refl _) hw) (by omega) (by omega)
theorem lim_neg {n : Int} (h : Lim n) : Lim (-n) := by unfold Lim at *; omega
theorem wf_cst {v : Vl} (h : v.known) : WfE (cstE v) := by
  unfold cstE
  split
  · rename_i q
    have hl : Lim v.n ∧ v.s = ⟨#[]⟩ := by
      unfold Vl.known KnownV at h
      rcases h with ⟨-, h1, h2⟩ | ⟨h1, -⟩ | ⟨h1, -⟩
      · exact ⟨h1, h2⟩
      · omega
      · omega
    refine WfE.mk' (.inr (.inr ⟨(by decide : (3 : Int) ≤ 3), (by decide : (3 : Int) ≤ 18), rfl, rfl, rfl, rfl, rfl⟩)) (WfL.all fun y hy => ?_)
    rw [show Ex.args (.mk 3 0 0 ⟨#[]⟩ ⟨#[]⟩ [.mk 1 1 (-v.n) v.s ⟨#[]⟩ []]) = [.mk 1 1 (-v.n) v.s ⟨#[]⟩ []] from rfl, List.mem_singleton] at hy
    subst hy
    exact (wf_leaf (x := .mk 1 1 (-v.n) v.s ⟨#[]⟩ []) (.inl ⟨rfl, .inl ⟨rfl, lim_neg hl.1, hl.2⟩, fun _ => by show 0 ≤ -v.n; omega, rfl, rfl⟩) rfl).1
  · rename_i q
    exact (wf_leaf (x := .mk 1 v.k v.n v.s ⟨#[]⟩ []) (.inl ⟨rfl, h, fun hk => by have hk : v.k = 1 := hk; show 0 ≤ v.n; omega, rfl, rfl⟩) rfl).1
theorem hdX_mem {l : List Ex} {i : Nat} (h : i < l.length) : hdX l i ∈ l := by
  unfold hdX
  rw [List.getD_eq_getElem?_getD, List.getElem?_eq_getElem h]
  exact List.getElem_mem h
theorem hdX_get {l : List Ex} {i : Nat} {y : Ex} (h : l[i]? = some y) : hdX l i = y := by
  unfold hdX
  rw [List.getD_eq_getElem?_getD, h]; rfl
theorem if_parts {x : Ex} (hw : WfE x) (h : ifB x = true) : x.op = 17 ∧ x.args.length = 3 ∧ (hdX x.args 0).op = 1 ∧ (hdX x.args 0).k = 2 ∧ ((hdX x.args 0).n = 0 ∨ (hdX x.args 0).n = 1) ∧ (2 - (hdX x.args 0).n).toNat < x.args.length := by
  obtain ⟨h1, h2, h3⟩ := of_decide_eq_true h
  have hl : x.args.length = 3 := by
    rcases hw.top with q | q | q
    · omega
    · omega
    · rw [q.2.2.2.2.2.2, h1]; rfl
  have hn : (hdX x.args 0).n = 0 ∨ (hdX x.args 0).n = 1 := by
    have hy := (hw.list.get (hdX_mem (l := x.args) (i := 0) (by omega))).top
    rcases hy with q | q | q
    · have := q.2.1
      unfold KnownV at this
      rcases this with q | q | q
      · omega
      · exact q.2.1
      · omega
    · omega
    · omega
  exact ⟨h1, hl, h2, h3, hn, by omega⟩
theorem wf_map {x : Ex} (hw : WfE x) (h : ∀ y ∈ x.args, WfE (foldE y)) : WfE (.mk x.op x.k x.n x.s x.nm (x.args.map foldE)) := by
  refine WfE.mk' ?_ (WfL.all fun z hz => ?_)
  · have ht := hw.top
    unfold TopOk at ht ⊢
    simp only [Ex.op, Ex.k, Ex.n, Ex.s, Ex.nm, Ex.args, List.length_map] at ht ⊢
    obtain ⟨a, b, c, d, e, l⟩ := x
    exact ht
  · obtain ⟨a, ha, rfl⟩ := List.mem_map.1 hz
    exact h a ha
theorem wf_if {x : Ex} (hw : WfE x) : WfE (ifE x) := by
  unfold ifE
  split
  · rename_i h
    obtain ⟨-, -, -, -, -, h6⟩ := if_parts hw h
    exact hw.list.get (hdX_mem h6)
  · exact hw
theorem wf_fold {x : Ex} (hw : WfE x) : WfE (foldE x) := by
  revert hw
  refine ex_ind (p := fun x => WfE x → WfE (foldE x)) (fun x ih hw => ?_) x
  rw [foldE_eq]
  split
  · rename_i h; exact wf_cst (done_known hw h)
  · exact wf_if (wf_map hw fun y hy => ih y hy (hw.list.get hy))

theorem ev_cst {env : Env} {v : Vl} (h : v.known) : evalE env (cstE v) = v := by
  unfold cstE
  split
  · rename_i q
    have hl : Lim v.n ∧ v.s = ⟨#[]⟩ := by
      unfold Vl.known KnownV at h
      rcases h with ⟨-, h1, h2⟩ | ⟨h1, -⟩ | ⟨h1, -⟩
      · exact ⟨h1, h2⟩
      · omega
      · omega
    obtain ⟨k, n, s⟩ := v
    obtain ⟨h1, h2⟩ := hl
    simp only at h1 h2 q
    obtain ⟨rfl, q2⟩ := q
    subst h2
    have e : evalE env (.mk 1 1 (-n) ⟨#[]⟩ ⟨#[]⟩ []) = ⟨1, -n, ⟨#[]⟩⟩ := by rw [evalE]; rfl
    rw [evalE, evalL, evalL, e, if_neg (by decide), if_neg (by decide), if_neg (by decide), if_neg (by decide)]
    show (match lackV none [⟨1, -n, ⟨#[]⟩⟩] with | some v => v | none => applyV 3 [⟨1, -n, ⟨#[]⟩⟩]) = _
    have hn : numOp 9 0 (-n) = (n, 0) := by
      unfold numOp
      rw [if_neg (by decide), if_neg (by decide), if_neg (by decide), if_neg (by decide)]
      unfold Lim at h1
      rw [if_pos (by omega)]
      congr 1
      omega
    show nrV 9 0 (-n) = _
    unfold nrV
    rw [hn, if_pos rfl]
  · rw [evalE, if_pos rfl]
theorem ev_if {env : Env} {x : Ex} (hw : WfE x) : evalE env (ifE x) = evalE env x := by
  unfold ifE
  split
  · rename_i h
    obtain ⟨h1, h2, h3, h4, h5, -⟩ := if_parts hw h
    have hget : ∀ i, i < 3 → hdV (evalL env x.args) i = evalE env (hdX x.args i) := fun i hi => by
      have hx : x.args[i]? = some (x.args[i]'(by omega)) := List.getElem?_eq_getElem (by omega)
      rw [hdX_get hx]
      exact hd_eval hx
    rw [evalE_eq _ x, if_neg (by omega), if_neg (by omega), if_neg (by omega), if_pos h1]
    have h0 : hdV (evalL env x.args) 0 = ⟨2, (hdX x.args 0).n, (hdX x.args 0).s⟩ := by rw [hget 0 (by omega), evalE_eq, if_pos h3, h4]
    have hf : firstV (hdV (evalL env x.args) 0) = (⟨2, (hdX x.args 0).n, (hdX x.args 0).s⟩, true) := by rw [h0]; rfl
    rw [hf, if_neg (by simp)]
    show _ = if (hdX x.args 0).n = 1 then _ else _
    rcases h5 with h5 | h5
    · rw [if_neg (by omega), h5, hget 2 (by omega)]; rfl
    · rw [if_pos h5, h5, hget 1 (by omega)]; rfl
  · rfl
theorem ev_fold {env : Env} {x : Ex} (hw : WfE x) : evalE env (foldE x) = evalE env x := by
  revert hw
  refine ex_ind (p := fun x => WfE x → evalE env (foldE x) = evalE env x) (fun x ih hw => ?_) x
  rw [foldE_eq]
  split
  · rename_i h
    rw [ev_cst (done_known hw h)]
    exact eval_local fun s hs => by rw [done_refs h] at hs; cases hs
  · rw [ev_if (wf_map hw fun y hy => wf_fold (hw.list.get hy)), evalE_op _ (.mk _ _ _ _ _ _), evalE_op _ x]
    have hl : evalL env (x.args.map foldE) = evalL env x.args := by
      rw [evalL_map, evalL_map, List.map_map]
      exact List.map_congr_left fun z hz => ih z hz (hw.list.get hz)
    show evalOp (env.get x.nm) x.op x.k x.n x.s (evalL env (x.args.map foldE)) = _
    rw [hl]

theorem cst_refs (v : Vl) : refsE (cstE v) = [] := by
  unfold cstE
  split
  · rw [refsE_eq, if_neg (show ¬ Ex.op _ = 2 by show ¬ (3 : Int) = 2; decide)]; simp [Ex.args, refsL, refsE]
  · rw [refsE_eq, if_neg (show ¬ Ex.op _ = 2 by show ¬ (1 : Int) = 2; decide)]; simp [Ex.args, refsL]
theorem refs_fold {s : ByteArray} {x : Ex} (hw : WfE x) : s ∈ refsE (foldE x) → s ∈ refsE x := by
  revert hw
  refine ex_ind (p := fun x => WfE x → s ∈ refsE (foldE x) → s ∈ refsE x) (fun x ih hw hs => ?_) x
  rw [foldE_eq] at hs
  split at hs
  · rw [cst_refs] at hs; cases hs
  · have hm := wf_map hw fun y hy => wf_fold (hw.list.get hy)
    have hs' : s ∈ refsE (.mk x.op x.k x.n x.s x.nm (x.args.map foldE)) := by
      unfold ifE at hs
      split at hs
      · rename_i h
        obtain ⟨-, -, -, -, -, h6⟩ := if_parts hm h
        rw [refsE_eq]
        exact List.mem_append_right _ (mem_refsL.2 ⟨_, hdX_mem h6, hs⟩)
      · exact hs
    rw [refsE_eq] at hs' ⊢
    rcases List.mem_append.1 hs' with q | q
    · exact List.mem_append_left _ q
    · obtain ⟨y, hy, q⟩ := mem_refsL.1 q
      obtain ⟨z, hz, rfl⟩ := List.mem_map.1 hy
      exact List.mem_append_right _ (mem_refsL.2 ⟨z, hz, ih z hz (hw.list.get hz) q⟩)
theorem szL_map_le {f : Ex → Ex} : ∀ {l : List Ex}, (∀ y ∈ l, (szE (f y)).1 ≤ (szE y).1 ∧ (szE (f y)).2 ≤ (szE y).2) → (szL (l.map f)).1 ≤ (szL l).1 ∧ (szL (l.map f)).2 ≤ (szL l).2
  | [], _ => by simp [szL]
  | y :: l, h => by
    have h1 := h y (by simp)
    have h2 := szL_map_le (l := l) fun z hz => h z (by simp [hz])
    rw [List.map_cons, szL, szL]
    simp only
    omega
theorem cst_sz (v : Vl) : szE (cstE v) = if v.k = 1 ∧ v.n < 0 then (2, 2) else (1, 1) := by
  unfold cstE
  split
  · rfl
  · rfl
theorem sz_fold {x : Ex} (hw : WfE x) : (szE (foldE x)).1 ≤ (szE x).1 ∧ (szE (foldE x)).2 ≤ (szE x).2 := by
  revert hw
  refine ex_ind (p := fun x => WfE x → (szE (foldE x)).1 ≤ (szE x).1 ∧ (szE (foldE x)).2 ≤ (szE x).2) (fun x ih hw => ?_) x
  rw [foldE_eq]
  split
  · rename_i h
    rw [cst_sz]
    split
    · rename_i q
      have : 3 ≤ x.op ∧ x.op ≤ 18 ∧ x.args.length = arity x.op := by
        rcases hw.top with t | t | t
        · rw [evalE_eq, if_pos t.1] at q
          have := t.2.2.1 q.1
          have q2 : x.n < 0 := q.2
          omega
        · have := done_refs h
          rw [refsE_eq, if_pos t.1] at this
          simp at this
        · exact ⟨t.1, t.2.1, t.2.2.2.2.2.2⟩
      have ha := (arity_pos this.1 this.2.1).1
      obtain ⟨y, l, e⟩ : ∃ y l, x.args = y :: l := by
        cases hx : x.args with
        | nil => rw [hx] at this; simp at this; omega
        | cons y l => exact ⟨y, l, rfl⟩
      rw [szE_eq x, e]
      have := szL_mem (l := y :: l) (y := y) (by simp)
      have := szE_pos y
      have h2 : 1 ≤ (szE y).2 := by rw [szE_eq y]; simp only; omega
      simp only
      omega
    · rw [szE_eq x]; simp only; omega
  · have hm := wf_map hw fun y hy => wf_fold (hw.list.get hy)
    have hl := szL_map_le (f := foldE) (l := x.args) fun y hy => ih y hy (hw.list.get hy)
    have hs : (szE (.mk x.op x.k x.n x.s x.nm (x.args.map foldE))).1 ≤ (szE x).1 ∧ (szE (.mk x.op x.k x.n x.s x.nm (x.args.map foldE))).2 ≤ (szE x).2 := by
      rw [szE_eq x, szE_eq (.mk _ _ _ _ _ _)]
      show 1 + (szL (x.args.map foldE)).1 ≤ 1 + (szL x.args).1 ∧ 1 + (szL (x.args.map foldE)).2 ≤ 1 + (szL x.args).2
      omega
    unfold ifE
    split
    · rename_i h
      obtain ⟨-, -, -, -, -, h6⟩ := if_parts hm h
      have := szL_mem (hdX_mem h6)
      rw [szE_eq (.mk _ _ _ _ _ _)] at hs
      simp only at hs this
      omega
    · exact hs

end Go.Proofs.Ytgjndkphfabnnaa
