/-
  What a formula is by what its fields are, in plain words; what grows.
-/
import Derived.Test.YtgjndkphfabnnaaEvC
import Derived.Test.YtgjndkphfabnnaaNmP
namespace Go.Proofs.Ytgjndkphfabnnaa
open Go.RowKit

/-! ### Values -/
theorem env_hit (env : Env) (n : ByteArray) (v : Vl) : Env.get ((n, v) :: env) n = some v := by
  unfold Env.get
  rw [if_pos ((Go.MapKept.bytes_beq n n).2 rfl)]
theorem env_miss (env : Env) {n s : ByteArray} (v : Vl) (h : s ≠ n) : Env.get ((n, v) :: env) s = env.get s := by
  conv => lhs; unfold Env.get
  rw [if_neg]
  intro hb
  exact h ((Go.MapKept.bytes_beq s n).1 hb)
/-- What a formula is by what its field is, and its arguments are. -/
def evalOp (g : Option Vl) (op k n : Int) (s : ByteArray) (vs : List Vl) : Vl :=
  if op = 1 then ⟨k, n, s⟩
  else if op = 2 then (match g with | some v => v | none => faultV 5)
  else if op = 15 ∨ op = 16 then
    (if (firstV (hdV vs 0)).2 = false ∨ ((firstV (hdV vs 0)).1.n == 1) = (op == 16) then (firstV (hdV vs 0)).1 else boolV (hdV vs 1))
  else if op = 17 then
    (if (firstV (hdV vs 0)).2 = false then (firstV (hdV vs 0)).1 else if (firstV (hdV vs 0)).1.n = 1 then hdV vs 1 else hdV vs 2)
  else (match lackV none vs with | some v => v | none => applyV op vs)
theorem evalE_op (env : Env) (x : Ex) : evalE env x = evalOp (env.get x.nm) x.op x.k x.n x.s (evalL env x.args) := by
  obtain ⟨a, b, c, d, e, l⟩ := x
  rw [evalE]; rfl
theorem evalOp_get {g g' : Option Vl} {op k n : Int} {s : ByteArray} {vs : List Vl} (h : op ≠ 2) : evalOp g op k n s vs = evalOp g' op k n s vs := by
  unfold evalOp
  rw [if_neg h, if_neg h]
/-- A formula that only asks for what is the same in two lists of facts is the same by both. -/
theorem eval_local {e1 e2 : Env} {x : Ex} (h : ∀ s ∈ refsE x, e1.get s = e2.get s) : evalE e1 x = evalE e2 x := by
  revert h
  refine ex_ind (p := fun x => (∀ s ∈ refsE x, e1.get s = e2.get s) → evalE e1 x = evalE e2 x) (fun x ih h => ?_) x
  rw [refsE_eq] at h
  have hl : evalL e1 x.args = evalL e2 x.args := by
    rw [evalL_map, evalL_map]
    exact List.map_congr_left fun y hy => ih y hy fun s hs => h s (List.mem_append_right _ (mem_refsL.2 ⟨y, hy, hs⟩))
  rw [evalE_op, evalE_op, hl]
  by_cases h2 : x.op = 2
  · rw [h x.nm (by rw [if_pos h2]; simp)]
  · exact evalOp_get h2
theorem eval_put {env : Env} {n : ByteArray} {y x : Ex} : evalE env (putE n y x) = evalE ((n, evalE env y) :: env) x := by
  refine ex_ind (p := fun x => evalE env (putE n y x) = evalE ((n, evalE env y) :: env) x) (fun x ih => ?_) x
  rw [putE_eq]
  by_cases g : x.op = 2 ∧ x.nm = n
  · rw [if_pos g, evalE_eq _ x, if_neg (by omega), if_pos g.1, g.2, env_hit]
  · rw [if_neg g, evalE_op _ (.mk _ _ _ _ _ _), evalE_op _ x]
    have hl : evalL env (x.args.map (putE n y)) = evalL ((n, evalE env y) :: env) x.args := by
      rw [evalL_map, evalL_map, List.map_map]
      exact List.map_congr_left fun z hz => ih z hz
    show evalOp (env.get x.nm) x.op x.k x.n x.s (evalL env (x.args.map (putE n y))) = _
    rw [hl]
    by_cases h2 : x.op = 2
    · rw [env_miss env _ (fun q => g ⟨h2, q⟩)]
    · exact evalOp_get h2

/-! ### What grows -/
/-- w: what a value is while less is known; v: what it is then. -/
def Grows (w v : Vl) : Prop := w.k = 4 ∨ v = w ∨ (v.k = 5 ∧ w.k = 5)
theorem Grows.rfl' (v : Vl) : Grows v v := .inr (.inl rfl)
theorem grows_bool {w v : Vl} (h : Grows w v) : Grows (boolV w) (boolV v) := by
  rcases h with h | rfl | ⟨h1, h2⟩
  · exact .inl (by unfold boolV; rw [if_neg (by omega)]; exact h)
  · exact .rfl' _
  · exact .inr (.inr ⟨by unfold boolV; rw [if_neg (by omega)]; exact h1, by unfold boolV; rw [if_neg (by omega)]; exact h2⟩)
/-- Two lists of values, the one while less is known. -/
inductive GrowsL : List Vl → List Vl → Prop
  | nil : GrowsL [] []
  | cons {w v : Vl} {l m : List Vl} (h : Grows w v) (k : GrowsL l m) : GrowsL (w :: l) (v :: m)
theorem GrowsL.hd {l m : List Vl} (h : GrowsL l m) (i : Nat) : Grows (hdV l i) (hdV m i) := by
  induction h generalizing i with
  | nil => exact .rfl' _
  | cons h k ih =>
    cases i with
    | zero => exact h
    | succ i => exact ih i
theorem GrowsL.map {f g : Ex → Vl} : ∀ {l : List Ex}, (∀ y ∈ l, Grows (f y) (g y)) → GrowsL (l.map f) (l.map g)
  | [], _ => .nil
  | x :: l, h => .cons (h x (by simp)) (GrowsL.map fun y hy => h y (by simp [hy]))
/-- A fault among the one is a fault among the other; where all of the one is known the other is the same. -/
theorem grows_lack {l m : List Vl} (h : GrowsL l m) : ∀ (p q : Option Vl), (∀ w, p = some w → w.k = 4) → (∀ v, q = some v → v.k = 4) → (q ≠ none → p ≠ none) →
    match lackV p l with
    | some w => w.k = 4 ∨ (w.k = 5 ∧ ∃ v, lackV q m = some v ∧ v.k = 5)
    | none => lackV q m = none ∧ m = l := by
  induction h with
  | nil =>
    intro p q hp hq hpq
    unfold lackV
    cases p with
    | some w => exact .inl (hp w rfl)
    | none =>
      cases q with
      | some v => exact absurd rfl (hpq (by simp))
      | none => exact ⟨rfl, rfl⟩
  | @cons w v l m hg k ih =>
    intro p q hp hq hpq
    by_cases h5 : w.k = 5
    · rw [show lackV p (w :: l) = some w by unfold lackV; rw [if_pos h5]]
      have hv : v.k = 5 := by
        rcases hg with g | rfl | g
        · omega
        · exact h5
        · exact g.1
      exact .inr ⟨h5, v, by unfold lackV; rw [if_pos hv], hv⟩
    · have e1 : lackV p (w :: l) = lackV (if w.k = 4 then some w else p) l := by
        conv => lhs; unfold lackV
        rw [if_neg h5]
      by_cases h4 : w.k = 4
      · rw [e1, if_pos h4]
        by_cases hv : v.k = 5
        · have := ih (some w) none (fun _ e => by simp only [Option.some.injEq] at e; subst e; exact h4) (fun _ e => by cases e) (fun e => absurd rfl e)
          cases hk : lackV (some w) l with
          | some u =>
            rw [hk] at this
            rcases this with g | ⟨g, -⟩
            · exact .inl g
            · exact .inr ⟨g, v, by unfold lackV; rw [if_pos hv], hv⟩
          | none => exact absurd (lack_none hk).1 (by simp)
        · have e2 : lackV q (v :: m) = lackV (if v.k = 4 then some v else q) m := by
            conv => lhs; unfold lackV
            rw [if_neg hv]
          rw [e2]
          have := ih (some w) (if v.k = 4 then some v else q) (fun _ e => by simp only [Option.some.injEq] at e; subst e; exact h4) (fun u e => by
            split at e
            · simp only [Option.some.injEq] at e; subst e; assumption
            · exact hq u e) (fun _ => by simp)
          cases hk : lackV (some w) l with
          | some u => rw [hk] at this; exact this
          | none => exact absurd (lack_none hk).1 (by simp)
      · have hvw : v = w := by
          rcases hg with g | g | g
          · exact absurd g h4
          · exact g
          · exact absurd g.2 h5
        subst hvw
        have e2 : lackV q (v :: m) = lackV q m := by
          conv => lhs; unfold lackV
          rw [if_neg h5, if_neg h4]
        rw [e1, if_neg h4, e2]
        have := ih p q hp hq hpq
        cases hk : lackV p l with
        | some u => rw [hk] at this; exact this
        | none => rw [hk] at this; exact ⟨this.1, by rw [this.2]⟩
theorem eval_grows {e1 e2 : Env} {x : Ex} (h : ∀ s, (e1.get s = none ∧ e2.get s = none) ∨ ∃ w v, e1.get s = some w ∧ e2.get s = some v ∧ Grows w v) (hx : WfE x) : Grows (evalE e1 x) (evalE e2 x) := by
  revert hx
  refine ex_ind (p := fun x => WfE x → Grows (evalE e1 x) (evalE e2 x)) (fun x ih hx => ?_) x
  have hL : GrowsL (evalL e1 x.args) (evalL e2 x.args) := by
    rw [evalL_map, evalL_map]
    exact GrowsL.map fun y hy => ih y hy (hx.list.get hy)
  rw [evalE_eq, evalE_eq]
  by_cases h1 : x.op = 1
  · rw [if_pos h1, if_pos h1]; exact .rfl' _
  rw [if_neg h1, if_neg h1]
  by_cases h2 : x.op = 2
  · rw [if_pos h2, if_pos h2]
    rcases h x.nm with ⟨q1, q2⟩ | ⟨w, v, q1, q2, g⟩
    · rw [q1, q2]; exact .rfl' _
    · rw [q1, q2]; exact g
  rw [if_neg h2, if_neg h2]
  have hP : ∀ v : Vl, v.k = 4 ∨ v.k = 5 → firstV v = (v, false) := fun v hv => by
    unfold firstV
    rw [if_neg (by omega)]
    rcases hv with g | g <;> (rw [g]; rfl)
  by_cases h3 : x.op = 15 ∨ x.op = 16
  · rw [if_pos h3, if_pos h3]
    rcases hL.hd 0 with g | g | ⟨g1, g2⟩
    · rw [hP _ (.inl g), if_pos (.inl rfl)]; exact .inl g
    · rw [g]
      split
      · exact .rfl' _
      · exact grows_bool (hL.hd 1)
    · rw [hP _ (.inr g1), hP _ (.inr g2), if_pos (.inl rfl), if_pos (.inl rfl)]; exact .inr (.inr ⟨g1, g2⟩)
  rw [if_neg h3, if_neg h3]
  by_cases h4 : x.op = 17
  · rw [if_pos h4, if_pos h4]
    rcases hL.hd 0 with g | g | ⟨g1, g2⟩
    · rw [hP _ (.inl g), if_pos rfl]; exact .inl g
    · rw [g]
      split
      · exact .rfl' _
      · split
        · exact hL.hd 1
        · exact hL.hd 2
    · rw [hP _ (.inr g1), hP _ (.inr g2), if_pos rfl, if_pos rfl]; exact .inr (.inr ⟨g1, g2⟩)
  rw [if_neg h4, if_neg h4]
  have := grows_lack hL none none (fun _ e => by cases e) (fun _ e => by cases e) (fun e => absurd rfl e)
  cases hk : lackV none (evalL e1 x.args) with
  | some w =>
    rw [hk] at this
    rcases this with g | ⟨g, v, hv, g2⟩
    · exact .inl g
    · rw [hv]; exact .inr (.inr ⟨g2, g⟩)
  | none =>
    rw [hk] at this
    rw [this.1, this.2]; exact .rfl' _

end Go.Proofs.Ytgjndkphfabnnaa
