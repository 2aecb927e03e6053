/-
  Names of formulas, a formula in the place of a field, in plain words.
-/
import Derived.Test.YthgcgciceejicaaEvP
import Derived.Test.YthgcgciceejicaaSome
import Derived.Test.YthgcgciceejicaaLaw
namespace Go.Proofs.Ythgcgciceejicaa
open Go.RowKit

/-- What holds of a formula if it holds of its arguments holds of all. -/
theorem ex_ind {p : Ex → Prop} (h : ∀ x : Ex, (∀ y ∈ x.args, p y) → p x) (x : Ex) : p x := by
  have key : ∀ (m : Nat) (x : Ex), (szE x).1 ≤ m → p x := by
    intro m
    induction m with
    | zero => intro x hx; have := szE_pos x; omega
    | succ m ih =>
      intro x hx
      refine h x fun y hy => ih y ?_
      have h1 := szE_eq x
      have h2 := (szL_mem hy).1
      rw [h1] at hx
      simp only at hx
      omega
  exact key _ x (Nat.le_refl _)
theorem ex_eta (x : Ex) : Ex.mk x.op x.k x.n x.s x.nm x.args = x := by cases x; rfl

mutual
/-- The fields that a formula asks for, from the left. -/
def refsE : Ex → List ByteArray
  | .mk op _ _ _ nm args => (if op = 2 then [nm] else []) ++ refsL args
def refsL : List Ex → List ByteArray
  | [] => []
  | x :: l => refsE x ++ refsL l
end
theorem refsE_eq (x : Ex) : refsE x = (if x.op = 2 then [x.nm] else []) ++ refsL x.args := by
  obtain ⟨a, b, c, d, e, l⟩ := x
  rw [refsE]; rfl
theorem refsL_app (l m : List Ex) : refsL (l ++ m) = refsL l ++ refsL m := by
  induction l with
  | nil => simp [refsL]
  | cons x l ih => rw [List.cons_append, refsL, refsL, ih, List.append_assoc]
theorem mem_refsL {s : ByteArray} : ∀ {l : List Ex}, s ∈ refsL l ↔ ∃ x ∈ l, s ∈ refsE x
  | [] => by simp [refsL]
  | x :: l => by rw [refsL, List.mem_append, mem_refsL (l := l)]; simp
theorem refs_op (op : Int) (l : List Ex) (h : op ≠ 2) : refsE (opE op l) = refsL l := by
  rw [refsE_eq, if_neg (show ¬ (opE op l).op = 2 from h)]; rfl
theorem refs_ref (s : ByteArray) : refsE (refE s) = [s] := by
  rw [refsE_eq, if_pos (show (refE s).op = 2 from rfl)]; rfl

/-- Does a formula ask for a field? -/
def hasE (x : Ex) (s : ByteArray) : Bool := (refsE x).any fun t => t == s
theorem hasE_iff {x : Ex} {s : ByteArray} : hasE x s = true ↔ s ∈ refsE x := by
  unfold hasE
  rw [List.any_eq_true]
  constructor
  · rintro ⟨t, ht, he⟩
    rw [← (Go.MapKept.bytes_beq t s).1 he]; exact ht
  · intro hs
    exact ⟨s, hs, (Go.MapKept.bytes_beq s s).2 rfl⟩
theorem hasE_yes {x : Ex} {s : ByteArray} (h : s ∈ refsE x) : hasE x s = true := hasE_iff.2 h
theorem hasE_no {x : Ex} {s : ByteArray} (h : s ∉ refsE x) : hasE x s = false := by
  cases hb : hasE x s with
  | false => rfl
  | true => exact absurd (hasE_iff.1 hb) h

mutual
/-- y in the place of the field n. -/
def putE (n : ByteArray) (y : Ex) : Ex → Ex
  | .mk op k m s nm args => if op = 2 ∧ nm = n then y else .mk op k m s nm (putL n y args)
def putL (n : ByteArray) (y : Ex) : List Ex → List Ex
  | [] => []
  | x :: l => putE n y x :: putL n y l
end
theorem putL_map (n : ByteArray) (y : Ex) : ∀ l, putL n y l = l.map (putE n y)
  | [] => by rw [putL]; rfl
  | x :: l => by rw [putL, putL_map n y l]; rfl
theorem putE_eq (n : ByteArray) (y x : Ex) : putE n y x = if x.op = 2 ∧ x.nm = n then y else .mk x.op x.k x.n x.s x.nm (x.args.map (putE n y)) := by
  obtain ⟨a, b, c, d, e, l⟩ := x
  rw [putE, putL_map]; rfl

/-- A field that may be has no arguments, and nothing else. -/
theorem ref_shape {x : Ex} (h : WfE x) (h2 : x.op = 2) : x = refE x.nm ∧ NameOk x.nm.data.toList := by
  rcases h.top with ⟨h1, -⟩ | ⟨h1, hn, hk, hm, hs, ha⟩ | ⟨h1, -⟩
  · omega
  · obtain ⟨a, b, c, d, e, l⟩ := x
    simp only [Ex.op, Ex.k, Ex.n, Ex.s, Ex.args] at h1 hk hm hs ha
    have ha : l = [] := List.length_eq_zero_iff.1 ha
    subst h1 hk hm hs ha
    exact ⟨rfl, hn⟩
  · omega
theorem ref_args {x : Ex} (h : WfE x) (h2 : x.op = 2) : x.args = [] := by rw [(ref_shape h h2).1]; rfl

theorem put_self {n : ByteArray} {x : Ex} (h : WfE x) : putE n (refE n) x = x := by
  revert h
  refine ex_ind (p := fun x => WfE x → putE n (refE n) x = x) (fun x ih h => ?_) x
  rw [putE_eq]
  by_cases g : x.op = 2 ∧ x.nm = n
  · rw [if_pos g, (ref_shape h g.1).1, g.2]
  · rw [if_neg g]
    conv => rhs; rw [← ex_eta x]
    have : x.args.map (putE n (refE n)) = x.args := by
      conv => rhs; rw [← List.map_id x.args]
      exact List.map_congr_left fun y hy => ih y hy (h.list.get hy)
    rw [this]
theorem put_none {n : ByteArray} {y x : Ex} (h : n ∉ refsE x) : putE n y x = x := by
  revert h
  refine ex_ind (p := fun x => n ∉ refsE x → putE n y x = x) (fun x ih h => ?_) x
  rw [refsE_eq] at h
  rw [putE_eq, if_neg ?_]
  · conv => rhs; rw [← ex_eta x]
    have : x.args.map (putE n y) = x.args := by
      conv => rhs; rw [← List.map_id x.args]
      refine List.map_congr_left fun z hz => ih z hz fun hn => h (List.mem_append_right _ (mem_refsL.2 ⟨z, hz, hn⟩))
    rw [this]
  · rintro ⟨h2, rfl⟩
    exact h (by rw [if_pos h2]; simp)
theorem refs_put {n s : ByteArray} {y x : Ex} (h : WfE x) : s ∈ refsE (putE n y x) ↔ (s ≠ n ∧ s ∈ refsE x) ∨ (n ∈ refsE x ∧ s ∈ refsE y) := by
  revert h
  refine ex_ind (p := fun x => WfE x → (s ∈ refsE (putE n y x) ↔ (s ≠ n ∧ s ∈ refsE x) ∨ (n ∈ refsE x ∧ s ∈ refsE y))) (fun x ih h => ?_) x
  rw [putE_eq]
  by_cases g : x.op = 2 ∧ x.nm = n
  · rw [if_pos g, refsE_eq x, if_pos g.1, ref_args h g.1, refsL, List.append_nil, g.2]
    simp
  · rw [if_neg g, refsE_eq (.mk _ _ _ _ _ _), refsE_eq x]
    show s ∈ (if x.op = 2 then [x.nm] else []) ++ refsL (x.args.map (putE n y)) ↔ _
    simp only [List.mem_append, mem_refsL]
    by_cases h2 : x.op = 2
    · rw [if_pos h2, ref_args h h2]
      have hn : x.nm ≠ n := fun e => g ⟨h2, e⟩
      simp only [List.map_nil, List.not_mem_nil, false_and, exists_false, or_false, List.mem_singleton]
      constructor
      · rintro rfl; exact .inl ⟨hn, rfl⟩
      · rintro (⟨-, rfl⟩ | ⟨e, -⟩)
        · rfl
        · exact absurd e.symm hn
    · rw [if_neg h2]
      simp only [List.not_mem_nil, false_or, List.mem_map]
      constructor
      · rintro ⟨z, ⟨a, ha, rfl⟩, hz⟩
        rcases (ih a ha (h.list.get ha)).1 hz with ⟨q1, q2⟩ | ⟨q1, q2⟩
        · exact .inl ⟨q1, a, ha, q2⟩
        · exact .inr ⟨⟨a, ha, q1⟩, q2⟩
      · rintro (⟨q1, a, ha, q2⟩ | ⟨⟨a, ha, q1⟩, q2⟩)
        · exact ⟨_, ⟨a, ha, rfl⟩, (ih a ha (h.list.get ha)).2 (.inl ⟨q1, q2⟩)⟩
        · exact ⟨_, ⟨a, ha, rfl⟩, (ih a ha (h.list.get ha)).2 (.inr ⟨q1, q2⟩)⟩
theorem wf_put {n : ByteArray} {y x : Ex} (h : WfE x) (hy : WfE y) : WfE (putE n y x) := by
  revert h
  refine ex_ind (p := fun x => WfE x → WfE (putE n y x)) (fun x ih h => ?_) x
  rw [putE_eq]
  by_cases g : x.op = 2 ∧ x.nm = n
  · rw [if_pos g]; exact hy
  · rw [if_neg g]
    refine WfE.mk' ?_ (WfL.all fun z hz => ?_)
    · have ht := h.top
      unfold TopOk at ht ⊢
      simp only [Ex.op, Ex.k, Ex.n, Ex.s, Ex.nm, Ex.args, List.length_map] at ht ⊢
      obtain ⟨a, b, c, d, e, l⟩ := x
      exact ht
    · obtain ⟨a, ha, rfl⟩ := List.mem_map.1 hz
      exact ih a ha (h.list.get ha)
theorem sz_put {n : ByteArray} {y x : Ex} : (szE (putE n y x)).1 ≤ (szE x).1 * (szE y).1 ∧ (szE (putE n y x)).2 ≤ (szE x).2 + (szE y).2 := by
  refine ex_ind (p := fun x => (szE (putE n y x)).1 ≤ (szE x).1 * (szE y).1 ∧ (szE (putE n y x)).2 ≤ (szE x).2 + (szE y).2) (fun x ih => ?_) x
  have hp := szE_pos y
  rw [putE_eq]
  by_cases g : x.op = 2 ∧ x.nm = n
  · rw [if_pos g]
    have hx := szE_pos x
    exact ⟨Nat.le_mul_of_pos_left _ hx, by omega⟩
  · rw [if_neg g, szE_eq (.mk _ _ _ _ _ _), szE_eq x]
    show 1 + (szL (x.args.map (putE n y))).1 ≤ (1 + (szL x.args).1) * (szE y).1 ∧ 1 + (szL (x.args.map (putE n y))).2 ≤ 1 + (szL x.args).2 + (szE y).2
    have key : ∀ l : List Ex, (∀ z ∈ l, (szE (putE n y z)).1 ≤ (szE z).1 * (szE y).1 ∧ (szE (putE n y z)).2 ≤ (szE z).2 + (szE y).2) → (szL (l.map (putE n y))).1 ≤ (szL l).1 * (szE y).1 ∧ (szL (l.map (putE n y))).2 ≤ (szL l).2 + (szE y).2 := by
      intro l
      induction l with
      | nil => intro _; simp [szL]
      | cons z l ihl =>
        intro hl
        have h1 := hl z (by simp)
        have h2 := ihl (fun q hq => hl q (by simp [hq]))
        rw [List.map_cons, szL, szL]
        simp only [Nat.add_mul]
        exact ⟨by omega, Nat.max_le.2 ⟨Nat.le_trans h1.2 (Nat.add_le_add_right (Nat.le_max_left _ _) _), Nat.le_trans h2.2 (Nat.add_le_add_right (Nat.le_max_right _ _) _)⟩⟩
    have := key x.args ih
    rw [Nat.add_mul, Nat.one_mul]
    exact ⟨by omega, by omega⟩

end Go.Proofs.Ythgcgciceejicaa
