/-
  Types of formulas, in plain words.
-/
import Derived.Test.YthgcgciceejicaaNmP
namespace Go.Proofs.Ythgcgciceejicaa
open Go.RowKit

/-- The types of an op's arguments, and its own one, where these are known. -/
def ruleT (op : Int) : Option (List Int × Int) :=
  if op = 3 then some ([1], 1) else if op = 4 then some ([2], 2) else if op = 18 then some ([3], 1)
  else if 5 ≤ op ∧ op ≤ 9 then some ([1, 1], 1) else if op = 10 then some ([3, 3], 3) else if op = 15 ∨ op = 16 then some ([2, 2], 2) else none
/-- The type of an op by those of its arguments. -/
def opTy (op : Int) (l : List Int) : Int × Int :=
  match ruleT op with
  | some (a, t) => if l = a then (t, 0) else (0, 9)
  | none => if op = 17 then (if l.getD 0 0 = 2 ∧ l.getD 1 0 = l.getD 2 0 then (l.getD 1 0, 0) else (0, 9)) else if l.getD 0 0 = l.getD 1 0 then (2, 0) else (0, 9)
mutual
/-- The type of a formula, or an error. -/
def tyE (f : ByteArray → Option Int) : Ex → Int × Int
  | .mk op k _ _ nm args =>
    if op = 1 then (k, 0)
    else if op = 2 then (match f nm with | some t => (t, 0) | none => (0, 5))
    else if (tyL f args).2 = 0 then opTy op (tyL f args).1 else (0, (tyL f args).2)
def tyL (f : ByteArray → Option Int) : List Ex → List Int × Int
  | [] => ([], 0)
  | x :: l => if (tyE f x).2 = 0 then (if (tyL f l).2 = 0 then ((tyE f x).1 :: (tyL f l).1, 0) else ([], (tyL f l).2)) else ([], (tyE f x).2)
end
theorem tyE_eq (f : ByteArray → Option Int) (x : Ex) : tyE f x =
    if x.op = 1 then ((x.k : Int), (0 : Int))
    else if x.op = 2 then (match f x.nm with | some t => ((t : Int), (0 : Int)) | none => (0, 5))
    else if (tyL f x.args).2 = 0 then opTy x.op (tyL f x.args).1 else (0, (tyL f x.args).2) := by
  obtain ⟨a, b, c, d, e, l⟩ := x
  rw [tyE]; rfl
/-- The types of fields; those that come first count. -/
def tyF (fs : List Fd) (s : ByteArray) : Option Int := match fs with
  | [] => none
  | f :: l => if s == f.name then some f.ty else tyF l s

/-- The type of a formula by that of its field, and those of its arguments. -/
def tyOp (g : Option Int) (op k : Int) (ts : List Int × Int) : Int × Int :=
  if op = 1 then (k, 0)
  else if op = 2 then (match g with | some t => (t, 0) | none => (0, 5))
  else if ts.2 = 0 then opTy op ts.1 else (0, ts.2)
theorem tyE_op (f : ByteArray → Option Int) (x : Ex) : tyE f x = tyOp (f x.nm) x.op x.k (tyL f x.args) := by
  obtain ⟨a, b, c, d, e, l⟩ := x
  rw [tyE]; rfl
theorem tyL_ok {f : ByteArray → Option Int} : ∀ {l : List Ex} {ts : List Int}, l.length = ts.length → (∀ (i : Nat) (x : Ex) (t : Int), l[i]? = some x → ts[i]? = some t → tyE f x = (t, 0)) → tyL f l = (ts, 0)
  | [], [], _, _ => by rw [tyL]
  | [], _ :: _, h, _ => by simp at h
  | _ :: _, [], h, _ => by simp at h
  | x :: l, t :: ts, h, k => by
    have h1 := k 0 x t rfl rfl
    have h2 := tyL_ok (f := f) (l := l) (ts := ts) (by simpa using h) (fun i x t hx ht => k (i + 1) x t (by simpa using hx) (by simpa using ht))
    rw [tyL, h1, h2]; simp
theorem tyL_get {f : ByteArray → Option Int} : ∀ {l : List Ex} {ts : List Int}, tyL f l = (ts, 0) → l.length = ts.length ∧ ∀ (i : Nat) (x : Ex), l[i]? = some x → ∃ t, ts[i]? = some t ∧ tyE f x = (t, 0)
  | [], ts, h => by
    rw [tyL] at h
    simp only [Prod.mk.injEq, and_true] at h
    subst h
    exact ⟨rfl, fun i x hx => by simp at hx⟩
  | x :: l, ts, h => by
    rw [tyL] at h
    by_cases h1 : (tyE f x).2 = 0
    · rw [if_pos h1] at h
      by_cases h2 : (tyL f l).2 = 0
      · rw [if_pos h2] at h
        simp only [Prod.mk.injEq, and_true] at h
        subst h
        obtain ⟨a, b⟩ := tyL_get (f := f) (l := l) (ts := (tyL f l).1) (Prod.ext rfl h2)
        refine ⟨by simp [a], fun i y hy => ?_⟩
        cases i with
        | zero =>
          simp only [List.getElem?_cons_zero, Option.some.injEq] at hy
          subst hy
          exact ⟨_, rfl, Prod.ext rfl h1⟩
        | succ i => exact b i y (by simpa using hy)
      · rw [if_neg h2] at h
        simp only [Prod.mk.injEq] at h
        exact absurd h.2 h2
    · rw [if_neg h1] at h
      simp only [Prod.mk.injEq] at h
      exact absurd h.2 h1

/-! ### What is made of a type is of it -/
theorem ty_leaf {fs : List Fd} {g : ByteArray → Option Int} (hf : ∀ f ∈ fs, g f.name = some f.ty) (r : RawD) (kind : Int) : tyE g (leafE r fs kind) = (kind, 0) := by
  have hc : tyE g (constE kind r) = (kind, 0) := by rw [tyE_eq, if_pos (show (constE kind r).op = 1 from rfl)]; rfl
  unfold leafE
  split
  · rename_i s hs
    split
    · exact hc
    · have hm := List.mem_of_getElem? hs
      obtain ⟨f, hfm, rfl⟩ := List.mem_map.1 hm
      obtain ⟨h1, h2⟩ := List.mem_filter.1 hfm
      rw [tyE_eq, if_neg (show ¬ (refE f.name).op = 1 by show ¬ (2 : Int) = 1; decide), if_pos (show (refE f.name).op = 2 from rfl)]
      have e : (refE f.name).nm = f.name := rfl
      rw [e, hf f h1]
      simp at h2
      simp [h2]
  · exact hc
theorem many_types {f : ByteArray → Option Int} {one : Int → Nat → Ex × Nat} : ∀ (ks : List Int) (n : Nat), (∀ k ∈ ks, ∀ n, tyE f (one k n).1 = (k, 0)) → tyL f (manyE one ks n).1 = (ks, 0)
  | [], n, _ => by rw [show (manyE one [] n).1 = [] from rfl, tyL]
  | k :: ks, n, h => by
    have h1 := h k (by simp) n
    have h2 := many_types (f := f) ks (one k n).2 (fun k' hk => h k' (by simp [hk]))
    rw [show (manyE one (k :: ks) n).1 = (one k n).1 :: (manyE one ks (one k n).2).1 from rfl, tyL, h1, h2]
    simp
theorem pick_type (r : RawD) (kind : Int) (h1 : 1 ≤ kind) (h3 : kind ≤ 3) : opTy (pickE r kind).1 (pickE r kind).2 = (kind, 0) := by
  have a0 := pickL_lo r.a 6 (by omega)
  have b0 := pickL_lo r.b 7 (by omega)
  have b1 := pickL_hi r.b 7 (by omega)
  have c0 := pickL_lo r.a 3 (by omega)
  have c1 := pickL_hi r.a 3 (by omega)
  unfold pickE
  split
  · simp [opTy, ruleT]
  · split
    · rename_i hk
      split
      · simp [opTy, ruleT, hk]
      · split
        · simp [opTy, ruleT, hk]
        · have hb : intOps (pickL r.b 7) = 5 ∨ intOps (pickL r.b 7) = 6 ∨ intOps (pickL r.b 7) = 7 ∨ intOps (pickL r.b 7) = 8 ∨ intOps (pickL r.b 7) = 9 := by
            unfold intOps
            repeat' split
            all_goals omega
          simp only
          rcases hb with h | h | h | h | h <;> (rw [h]; simp [opTy, ruleT, hk])
    · split
      · rename_i hk
        split
        · simp [opTy, ruleT, hk]
        · split
          · have hb : pickL r.b 7 = 1 ∨ pickL r.b 7 = 2 := by omega
            simp only
            rcases hb with h | h <;> (rw [h]; simp [opTy, ruleT, hk])
          · have hb : pickL r.b 7 = 3 ∨ pickL r.b 7 = 4 ∨ pickL r.b 7 = 5 ∨ pickL r.b 7 = 6 := by omega
            simp only
            rcases hb with h | h | h | h <;> (rw [h]; simp [opTy, ruleT, hk])
      · have hk : kind = 3 := by omega
        simp [opTy, ruleT, hk]
theorem ty_op {f : ByteArray → Option Int} {op : Int} {l : List Ex} {ts : List Int} (h1 : op ≠ 1) (h2 : op ≠ 2) (h : tyL f l = (ts, 0)) : tyE f (opE op l) = opTy op ts := by
  rw [tyE_eq, if_neg (show ¬ (opE op l).op = 1 from h1), if_neg (show ¬ (opE op l).op = 2 from h2)]
  show (if (tyL f l).2 = 0 then opTy op (tyL f l).1 else (0, (tyL f l).2)) = _
  rw [h]; simp
theorem ty_gen {fs : List Fd} {g : ByteArray → Option Int} (hf : ∀ f ∈ fs, g f.name = some f.ty) (l : List RawD) : ∀ (d : Nat) (kind : Int) (n : Nat), 1 ≤ kind → kind ≤ 3 → tyE g (genE l fs d kind n).1 = (kind, 0)
  | 0, kind, n, h1, h3 => ty_leaf hf _ _
  | d + 1, kind, n, h1, h3 => by
    by_cases q : pickL (rawAt l n).k 3 = 0
    · rw [genE_leaf q]; exact ty_leaf hf _ _
    · obtain ⟨p1, p2, p3, p4⟩ := pickE_ok (rawAt l n) kind h1 h3
      have hpt := pick_type (rawAt l n) kind h1 h3
      obtain ⟨op, ks, hp⟩ : ∃ op ks, pickE (rawAt l n) kind = (op, ks) := ⟨(pickE (rawAt l n) kind).1, (pickE (rawAt l n) kind).2, by cases pickE (rawAt l n) kind; rfl⟩
      rw [genE_with q hp]
      rw [hp] at p1 p2 p4 hpt
      simp only at p1 p2 p4 hpt
      exact (ty_op (by omega) (by omega) (many_types ks _ (fun k hk n => ty_gen hf l d k n (p4 k hk).1 (p4 k hk).2))).trans hpt

/-- With a formula of a field's type in its place all is of the type that it was of. -/
theorem ty_put {f : ByteArray → Option Int} {n : ByteArray} {t : Int} {y x : Ex} (hn : f n = some t) (hy : tyE f y = (t, 0)) : tyE f (putE n y x) = tyE f x := by
  refine ex_ind (p := fun x => tyE f (putE n y x) = tyE f x) (fun x ih => ?_) x
  rw [putE_eq]
  by_cases g : x.op = 2 ∧ x.nm = n
  · rw [if_pos g, tyE_eq f x, if_neg (by omega), if_pos g.1, g.2, hn, hy]
  · rw [if_neg g, tyE_op f (.mk _ _ _ _ _ _), tyE_op f x]
    have hl : ∀ l : List Ex, (∀ z ∈ l, tyE f (putE n y z) = tyE f z) → tyL f (l.map (putE n y)) = tyL f l := by
      intro l
      induction l with
      | nil => intro _; rfl
      | cons z l ihl =>
        intro hz
        rw [List.map_cons, tyL, tyL, hz z (by simp), ihl fun q hq => hz q (by simp [hq])]
    show tyOp (f x.nm) x.op x.k (tyL f (x.args.map (putE n y))) = _
    rw [hl x.args ih]

end Go.Proofs.Ythgcgciceejicaa
