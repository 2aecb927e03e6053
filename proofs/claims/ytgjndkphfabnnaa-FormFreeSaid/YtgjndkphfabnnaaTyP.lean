/-
  Types of formulas, in plain words.
-/
import Derived.Test.YtgjndkphfabnnaaNmP
namespace Go.Proofs.Ytgjndkphfabnnaa
open Go.RowKit

/-- The types of an op's arguments, and its own one, where these are known. -/
def ruleT (op : Int) : Option (List Int × Int) :=
  if op = 3 then some ([1], 1) else if op = 4 then some ([2], 2) else if op = 18 then some ([3], 1)
  else if 5 ≤ op ∧ op ≤ 9 then some ([1, 1], 1) else if op = 10 then some ([3, 3], 3) else if op = 15 ∨ op = 16 then some ([2, 2], 2) else none
/-- The type of an op by those of its arguments. -/
def opTy (op : Int) (l : List Int) : Int × Int :=
  match ruleT op with
  | some (a, t) => if l = a then (t, 0) else (0, 9)
  | none => if op = 17 then (if l.getD 0 0 = 2 ∧ l.getD 1 0 = l.getD 2 0 then (l.getD 1 0, 0) else (0, 9)) else if l.getD 0 0 = l.getD 1 0 then (2, 0) else (0, 9)
mutual
/-- The type of a formula, or an error. -/
def tyE (f : ByteArray → Option Int) : Ex → Int × Int
  | .mk op k _ _ nm args =>
    if op = 1 then (k, 0)
    else if op = 2 then (match f nm with | some t => (t, 0) | none => (0, 5))
    else if (tyL f args).2 = 0 then opTy op (tyL f args).1 else (0, (tyL f args).2)
def tyL (f : ByteArray → Option Int) : List Ex → List Int × Int
  | [] => ([], 0)
  | x :: l => if (tyE f x).2 = 0 then (if (tyL f l).2 = 0 then ((tyE f x).1 :: (tyL f l).1, 0) else ([], (tyL f l).2)) else ([], (tyE f x).2)
end
theorem tyE_eq (f : ByteArray → Option Int) (x : Ex) : tyE f x =
    if x.op = 1 then ((x.k : Int), (0 : Int))
    else if x.op = 2 then (match f x.nm with | some t => ((t : Int), (0 : Int)) | none => (0, 5))
    else if (tyL f x.args).2 = 0 then opTy x.op (tyL f x.args).1 else (0, (tyL f x.args).2) := by
  obtain ⟨a, b, c, d, e, l⟩ := x
  rw [tyE]; rfl
/-- The types of fields; those that come first count. -/
def tyF (fs : List Fd) (s : ByteArray) : Option Int := match fs with
  | [] => none
  | f :: l => if s == f.name then some f.ty else tyF l s

/-! ### What is made of a type is of it -/
theorem ty_leaf {fs : List Fd} {g : ByteArray → Option Int} (hf : ∀ f ∈ fs, g f.name = some f.ty) (r : RawD) (kind : Int) : tyE g (leafE r fs kind) = (kind, 0) := by
  have hc : tyE g (constE kind r) = (kind, 0) := by rw [tyE_eq, if_pos (show (constE kind r).op = 1 from rfl)]; rfl
  unfold leafE
  split
  · rename_i s hs
    split
    · exact hc
    · have hm := List.mem_of_getElem? hs
      obtain ⟨f, hfm, rfl⟩ := List.mem_map.1 hm
      obtain ⟨h1, h2⟩ := List.mem_filter.1 hfm
      rw [tyE_eq, if_neg (show ¬ (refE f.name).op = 1 by show ¬ (2 : Int) = 1; decide), if_pos (show (refE f.name).op = 2 from rfl)]
      have e : (refE f.name).nm = f.name := rfl
      rw [e, hf f h1]
      simp at h2
      simp [h2]
  · exact hc
theorem many_types {f : ByteArray → Option Int} {one : Int → Nat → Ex × Nat} : ∀ (ks : List Int) (n : Nat), (∀ k ∈ ks, ∀ n, tyE f (one k n).1 = (k, 0)) → tyL f (manyE one ks n).1 = (ks, 0)
  | [], n, _ => by rw [show (manyE one [] n).1 = [] from rfl, tyL]
  | k :: ks, n, h => by
    have h1 := h k (by simp) n
    have h2 := many_types (f := f) ks (one k n).2 (fun k' hk => h k' (by simp [hk]))
    rw [show (manyE one (k :: ks) n).1 = (one k n).1 :: (manyE one ks (one k n).2).1 from rfl, tyL, h1, h2]
    simp
theorem pick_type (r : RawD) (kind : Int) (h1 : 1 ≤ kind) (h3 : kind ≤ 3) : opTy (pickE r kind).1 (pickE r kind).2 = (kind, 0) := by
  have a0 := pickL_lo r.a 6 (by omega)
  have b0 := pickL_lo r.b 7 (by omega)
  have b1 := pickL_hi r.b 7 (by omega)
  have c0 := pickL_lo r.a 3 (by omega)
  have c1 := pickL_hi r.a 3 (by omega)
  unfold pickE
  split
  · simp [opTy, ruleT]
  · split
    · rename_i hk
      split
      · simp [opTy, ruleT, hk]
      · split
        · simp [opTy, ruleT, hk]
        · have hb : intOps (pickL r.b 7) = 5 ∨ intOps (pickL r.b 7) = 6 ∨ intOps (pickL r.b 7) = 7 ∨ intOps (pickL r.b 7) = 8 ∨ intOps (pickL r.b 7) = 9 := by
            unfold intOps
            repeat' split
            all_goals omega
          simp only
          rcases hb with h | h | h | h | h <;> (rw [h]; simp [opTy, ruleT, hk])
    · split
      · rename_i hk
        split
        · simp [opTy, ruleT, hk]
        · split
          · have hb : pickL r.b 7 = 1 ∨ pickL r.b 7 = 2 := by omega
            simp only
            rcases hb with h | h <;> (rw [h]; simp [opTy, ruleT, hk])
          · have hb : pickL r.b 7 = 3 ∨ pickL r.b 7 = 4 ∨ pickL r.b 7 = 5 ∨ pickL r.b 7 = 6 := by omega
            simp only
            rcases hb with h | h | h | h <;> (rw [h]; simp [opTy, ruleT, hk])
      · have hk : kind = 3 := by omega
        simp [opTy, ruleT, hk]
theorem ty_op {f : ByteArray → Option Int} {op : Int} {l : List Ex} {ts : List Int} (h1 : op ≠ 1) (h2 : op ≠ 2) (h : tyL f l = (ts, 0)) : tyE f (opE op l) = opTy op ts := by
  rw [tyE_eq, if_neg (show ¬ (opE op l).op = 1 from h1), if_neg (show ¬ (opE op l).op = 2 from h2)]
  show (if (tyL f l).2 = 0 then opTy op (tyL f l).1 else (0, (tyL f l).2)) = _
  rw [h]; simp
theorem ty_gen {fs : List Fd} {g : ByteArray → Option Int} (hf : ∀ f ∈ fs, g f.name = some f.ty) (l : List RawD) : ∀ (d : Nat) (kind : Int) (n : Nat), 1 ≤ kind → kind ≤ 3 → tyE g (genE l fs d kind n).1 = (kind, 0)
  | 0, kind, n, h1, h3 => ty_leaf hf _ _
  | d + 1, kind, n, h1, h3 => by
    by_cases q : pickL (rawAt l n).k 3 = 0
    · rw [genE_leaf q]; exact ty_leaf hf _ _
    · obtain ⟨p1, p2, p3, p4⟩ := pickE_ok (rawAt l n) kind h1 h3
      have hpt := pick_type (rawAt l n) kind h1 h3
      obtain ⟨op, ks, hp⟩ : ∃ op ks, pickE (rawAt l n) kind = (op, ks) := ⟨(pickE (rawAt l n) kind).1, (pickE (rawAt l n) kind).2, by cases pickE (rawAt l n) kind; rfl⟩
      rw [genE_with q hp]
      rw [hp] at p1 p2 p4 hpt
      simp only at p1 p2 p4 hpt
      exact (ty_op (by omega) (by omega) (many_types ks _ (fun k hk n => ty_gen hf l d k n (p4 k hk).1 (p4 k hk).2))).trans hpt

end Go.Proofs.Ytgjndkphfabnnaa
