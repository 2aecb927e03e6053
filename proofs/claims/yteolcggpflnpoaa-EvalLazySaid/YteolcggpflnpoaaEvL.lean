/-
  Formulas that the laws build of others.
-/
import Derived.Test.YteolcggpflnpoaaEvG
namespace Go.Proofs.Yteolcggpflnpoaa
open Go.RowKit

/-- The arguments l lie in the slice at b. -/
theorem args_made {H : Vw} {b : Nat} {l : List Ex} {vs : List Value} (op : Int) (c : Cells H b 0 (exRows l vs).flatten) (hv : AllArgs H l vs) (hl : l.length ≤ 3) : IsArgs H (opE op l) (.slice (some ⟨b, 0, none⟩) l.length l.length) := by
  have hr := rs_cells (k := 6) (exRows l vs) (fun r hr => by
    obtain ⟨i, hi⟩ := List.getElem?_of_mem hr
    rw [show (exRows l vs)[i]? = (List.zipWith exRow l vs)[i]? from rfl, List.getElem?_zipWith] at hi
    cases h1 : l[i]? <;> cases h2 : vs[i]? <;> simp [h1, h2] at hi
    subst hi; rfl) (by rw [exRows_len hv.len]; unfold maxLen; omega) c
  rw [exRows_len hv.len] at hr
  exact IsArgs.mk (x := opE op l) hr hv
theorem all1 {H : Vw} {x : Ex} {v : Value} (h : IsArgs H x v) : AllArgs H [x] [v] := by
  unfold AllArgs; exact ⟨_, _, rfl, h, by unfold AllArgs; rfl⟩
theorem all2 {H : Vw} {x y : Ex} {v u : Value} (h : IsArgs H x v) (k : IsArgs H y u) : AllArgs H [x, y] [v, u] := by
  unfold AllArgs; exact ⟨_, _, rfl, h, all1 k⟩
theorem all3 {H : Vw} {x y z : Ex} {v u w : Value} (h : IsArgs H x v) (k : IsArgs H y u) (j : IsArgs H z w) : AllArgs H [x, y, z] [v, u, w] := by
  unfold AllArgs; exact ⟨_, _, rfl, h, all2 k j⟩
theorem wf_op {op : Int} {l : List Ex} (h1 : 3 ≤ op) (h2 : op ≤ 18) (hl : l.length = arity op) (hw : ∀ x ∈ l, WfE x) : WfE (opE op l) := WfE.mk' (.inr (.inr ⟨h1, h2, rfl, rfl, rfl, rfl, hl⟩)) (WfL.all hw)
theorem sz_op (op : Int) (l : List Ex) : szE (opE op l) = (1 + (szL l).1, 1 + (szL l).2) := szE_eq _
def truthE (b : Bool) : Ex := .mk 1 2 (if b = true then 1 else 0) ⟨#[]⟩ ⟨#[]⟩ []
theorem wf_truth (b : Bool) : WfE (truthE b) ∧ szE (truthE b) = (1, 1) := wf_leaf (.inl ⟨rfl, .inr (.inl ⟨rfl, by cases b <;> simp [truthE, Ex.n], rfl⟩), fun h => (by have h : (2 : Int) = 1 := h; omega), rfl, rfl⟩) rfl
theorem ev_truth (env : Env) (b : Bool) : evalE env (truthE b) = truthV b := by
  rw [evalE_eq, if_pos (show (truthE b).op = 1 from rfl)]; cases b <;> rfl
theorem ev_op (env : Env) (op : Int) (l : List Ex) (h1 : op ≠ 1) (h2 : op ≠ 2) : evalE env (opE op l) =
    if op = 15 ∨ op = 16 then
      (if (firstV (hdV (evalL env l) 0)).2 = false ∨ ((firstV (hdV (evalL env l) 0)).1.n == 1) = (op == 16) then (firstV (hdV (evalL env l) 0)).1 else boolV (hdV (evalL env l) 1))
    else if op = 17 then
      (if (firstV (hdV (evalL env l) 0)).2 = false then (firstV (hdV (evalL env l) 0)).1 else if (firstV (hdV (evalL env l) 0)).1.n = 1 then hdV (evalL env l) 1 else hdV (evalL env l) 2)
    else (match lackV none (evalL env l) with | some v => v | none => applyV op (evalL env l)) := by
  rw [evalE_eq, if_neg (show (opE op l).op ≠ 1 from h1), if_neg (show (opE op l).op ≠ 2 from h2)]; rfl
theorem law_names : NameOk (⟨#[110, 111, 110, 101]⟩ : ByteArray).data.toList := ⟨by decide, by decide, ⟨_, rfl, by decide⟩, by decide, by decide⟩
theorem wf_ref {s : ByteArray} (h : NameOk s.data.toList) : WfE (refE s) ∧ szE (refE s) = (1, 1) := wf_leaf (refE_ok h) rfl
theorem gen2_ok (l : List RawD) (kind : Int) (h1 : 1 ≤ kind) (h3 : kind ≤ 3) : WfE (genE l some5 2 kind 0).1 ∧ (szE (genE l some5 2 kind 0).1).1 ≤ 13 ∧ (szE (genE l some5 2 kind 0).1).2 ≤ 3 := genE_ok l some5 some5_ok 2 kind 0 h1 h3
theorem lawEnv_ok (l : List RawD) : ∀ p ∈ lawEnv l, OkV p.2 := fun p hp => .inl (lawEnv_known l p hp)
theorem lawEnv_len (l : List RawD) : (lawEnv l).length = 5 := lawF_len l 5
theorem env_ok {l : Env} (h : ∀ p ∈ l, OkV p.2) : EnvOk l := fun _ _ hs => h _ (get_mem hs)
theorem ev_ok {l : Env} (h : ∀ p ∈ l, OkV p.2) {x : Ex} (hw : WfE x) : OkV (evalE l x) := evalE_ok (env_ok h) _ x (Nat.le_refl _) hw

end Go.Proofs.Yteolcggpflnpoaa
