/-
  Formulas of the generator may be; contracts of the laws' fields and formulas.
-/
import Derived.Test.YthgcgciceejicaaGenD
import Derived.Test.YthgcgciceejicaaExB
namespace Go.Proofs.Ythgcgciceejicaa
open Go.RowKit


def cntE : Nat → Nat
  | 0 => 1
  | d + 1 => 1 + 3 * cntE d
theorem cntE_pos (d : Nat) : 1 ≤ cntE d := by cases d <;> simp [cntE]
theorem wf_leaf {x : Ex} (h : TopOk x) (ha : x.args = []) : WfE x ∧ szE x = (1, 1) := by
  refine ⟨WfE.mk' h (by rw [ha]; exact WfL.all (fun x hx => by cases hx)), ?_⟩
  rw [szE_eq, ha]; rfl
theorem constE_ok (kind : Int) (r : RawD) (h1 : 1 ≤ kind) (h3 : kind ≤ 3) : TopOk (constE kind r) := by
  left
  have hk := val_known kind r.k r.a r.t h1 h3
  refine ⟨rfl, ?_, fun hk1 => ?_, rfl, rfl⟩
  · show KnownV kind (if kind = 1 then absI (valN kind r.k r.a) else valN kind r.k r.a) (valS kind r.t)
    by_cases g : kind = 1
    · rw [if_pos g]
      subst g
      unfold KnownV at hk ⊢
      have hl := val_lim 1 r (by omega) (by omega)
      simp only [absI]
      rcases hk with hk | hk | hk
      · have hs := hk.2.2
        refine .inl ⟨by first | rfl | trivial, ?_, hs⟩
        unfold Lim
        split <;> omega
      · omega
      · omega
    · rw [if_neg g]; exact hk
  · have g : kind = 1 := hk1
    show 0 ≤ (if kind = 1 then absI (valN kind r.k r.a) else valN kind r.k r.a)
    rw [if_pos g]; unfold absI; split <;> omega
theorem refE_ok {s : ByteArray} (h : NameOk s.data.toList) : TopOk (refE s) := .inr (.inl ⟨rfl, h, rfl, rfl, rfl, rfl⟩)
theorem leafE_ok (r : RawD) (fs : List Fd) (kind : Int) (h1 : 1 ≤ kind) (h3 : kind ≤ 3) (hn : ∀ f ∈ fs, NameOk f.name.data.toList) : TopOk (leafE r fs kind) := by
  unfold leafE
  split
  · rename_i s hs
    split
    · exact constE_ok kind r h1 h3
    · have := List.mem_of_getElem? hs
      obtain ⟨f, hf, rfl⟩ := List.mem_map.1 this
      exact refE_ok (hn f (List.mem_filter.1 hf).1)
  · exact constE_ok kind r h1 h3
theorem pickE_ok (r : RawD) (kind : Int) (h1 : 1 ≤ kind) (h3 : kind ≤ 3) : 3 ≤ (pickE r kind).1 ∧ (pickE r kind).1 ≤ 18 ∧ (pickE r kind).2.length = arity (pickE r kind).1 ∧ ∀ k ∈ (pickE r kind).2, 1 ≤ k ∧ k ≤ 3 := by
  have a0 := pickL_lo r.a 6 (by omega)
  have b0 := pickL_lo r.b 7 (by omega)
  have b1 := pickL_hi r.b 7 (by omega)
  have c0 := pickL_lo r.a 3 (by omega)
  have c1 := pickL_hi r.a 3 (by omega)
  have hm : ∀ n : Int, 0 ≤ n → n < 7 → n ≠ 0 → n ≠ 1 → 5 ≤ intOps n ∧ intOps n ≤ 9 := fun n _ _ _ _ => by
    unfold intOps; repeat' split
    all_goals omega
  have har : ∀ op : Int, 5 ≤ op → op ≤ 16 → arity op = 2 := fun op _ _ => by
    unfold arity
    rw [if_neg (by omega), if_neg (by omega), if_neg (by omega)]
  unfold pickE
  split
  · refine ⟨by omega, by omega, rfl, fun k hk => ?_⟩
    simp at hk; omega
  · split
    · split
      · exact ⟨by simp, by simp, rfl, fun k hk => by simp at hk; omega⟩
      · split
        · exact ⟨by simp, by simp, rfl, fun k hk => by simp at hk; omega⟩
        · have := hm (pickL r.b 7) b0 b1 (by assumption) (by assumption)
          refine ⟨by simp only; omega, by simp only; omega, ?_, fun k hk => by simp at hk; omega⟩
          rw [har _ (by simp only; omega) (by simp only; omega)]; rfl
    · split
      · split
        · exact ⟨by simp, by simp, rfl, fun k hk => by simp at hk; omega⟩
        · split
          · refine ⟨by simp only; omega, by simp only; omega, ?_, fun k hk => by simp at hk; omega⟩
            rw [har _ (by simp only; omega) (by simp only; omega)]; rfl
          · refine ⟨by simp only; omega, by simp only; omega, ?_, fun k hk => by simp at hk; omega⟩
            rw [har _ (by simp only; omega) (by simp only; omega)]; rfl
      · exact ⟨by simp, by simp, rfl, fun k hk => by simp at hk; omega⟩
theorem szL_le {m d : Nat} : ∀ {l : List Ex}, (∀ x ∈ l, (szE x).1 ≤ m ∧ (szE x).2 ≤ d) → (szL l).1 ≤ l.length * m ∧ (szL l).2 ≤ d
  | [], _ => by simp [szL]
  | x :: l, h => by
    have h1 := h x (by simp)
    have h2 := szL_le (l := l) (fun y hy => h y (by simp [hy]))
    rw [szL, List.length_cons, Nat.succ_mul]
    exact ⟨by simp only; omega, by simp only; exact Nat.max_le.2 ⟨h1.2, h2.2⟩⟩
theorem manyE_all {one : Int → Nat → Ex × Nat} {p : Ex → Prop} : ∀ (ks : List Int) (n : Nat), (∀ k ∈ ks, ∀ n, p (one k n).1) → (manyE one ks n).1.length = ks.length ∧ ∀ x ∈ (manyE one ks n).1, p x
  | [], n, _ => ⟨rfl, fun x hx => by cases hx⟩
  | k :: ks, n, h => by
    have := manyE_all ks (one k n).2 (fun k' hk => h k' (by simp [hk]))
    refine ⟨by show ((manyE one ks (one k n).2).1.length + 1) = _; rw [this.1]; rfl, fun x hx => ?_⟩
    rcases List.mem_cons.1 hx with rfl | hx
    · exact h k (by simp) n
    · exact this.2 x hx
theorem genE_ok (l : List RawD) (fs : List Fd) (hn : ∀ f ∈ fs, NameOk f.name.data.toList) : ∀ (d : Nat) (kind : Int) (n : Nat), 1 ≤ kind → kind ≤ 3 → WfE (genE l fs d kind n).1 ∧ (szE (genE l fs d kind n).1).1 ≤ cntE d ∧ (szE (genE l fs d kind n).1).2 ≤ d + 1
  | 0, kind, n, h1, h3 => by
    have := wf_leaf (leafE_ok (rawAt l (atNext l n)) fs kind h1 h3 hn) (leaf_args _ _ _)
    show WfE (leafE _ _ _) ∧ (szE (leafE _ _ _)).1 ≤ 1 ∧ (szE (leafE _ _ _)).2 ≤ 1
    rw [this.2]; exact ⟨this.1, Nat.le_refl _, Nat.le_refl _⟩
  | d + 1, kind, n, h1, h3 => by
    have hc := cntE_pos d
    by_cases g : pickL (rawAt l n).k 3 = 0
    · rw [genE_leaf g]
      have := wf_leaf (leafE_ok (rawAt l (atNext l n)) fs kind h1 h3 hn) (leaf_args _ _ _)
      simp only [cntE]
      rw [this.2]; exact ⟨this.1, by simp only; omega, by simp only; omega⟩
    · obtain ⟨p1, p2, p3, p4⟩ := pickE_ok (rawAt l n) kind h1 h3
      have hl := pickE_len (rawAt l n) kind
      obtain ⟨op, ks, hp⟩ : ∃ op ks, pickE (rawAt l n) kind = (op, ks) := ⟨(pickE (rawAt l n) kind).1, (pickE (rawAt l n) kind).2, by cases pickE (rawAt l n) kind; rfl⟩
      rw [genE_with g hp]
      rw [hp] at p1 p2 p3 p4 hl
      simp only at p1 p2 p3 p4 hl
      obtain ⟨m1, m2⟩ := manyE_all (one := genE l fs d) (p := fun x => WfE x ∧ (szE x).1 ≤ cntE d ∧ (szE x).2 ≤ d + 1) ks (atNext l n) (fun k hk n => genE_ok l fs hn d k n (p4 k hk).1 (p4 k hk).2)
      have hs := szL_le (m := cntE d) (d := d + 1) (fun x hx => (m2 x hx).2)
      rw [m1] at hs
      have hmul := Nat.mul_le_mul_right (cntE d) hl
      generalize manyE (genE l fs d) ks (atNext l n) = q at *
      have e : szE (opE op q.1) = (1 + (szL q.1).1, 1 + (szL q.1).2) := szE_eq _
      show WfE (opE op q.1) ∧ (szE (opE op q.1)).1 ≤ cntE (d + 1) ∧ (szE (opE op q.1)).2 ≤ d + 1 + 1
      rw [e]
      refine ⟨WfE.mk' (.inr (.inr ⟨p1, p2, rfl, rfl, rfl, rfl, m1.trans p3⟩)) (WfL.all (fun x hx => (m2 x hx).1)), ?_, ?_⟩
      · simp only [cntE]; omega
      · simp only; omega


def some5 : List Fd := [⟨⟨#[110]⟩, 1, 1, zE⟩, ⟨⟨#[109]⟩, 1, 1, zE⟩, ⟨⟨#[116]⟩, 1, 2, zE⟩, ⟨⟨#[117]⟩, 1, 2, zE⟩, ⟨⟨#[115]⟩, 1, 3, zE⟩]

theorem all_nil (h : Vw) : ∀ (l : List Ex), (∀ x ∈ l, x.args = []) → AllArgs h l (l.map (fun _ => .slice none 0 0))
  | [], _ => by unfold AllArgs; rfl
  | x :: l, k => by
    unfold AllArgs
    exact ⟨_, _, rfl, args_nil h x (k x (by simp)), all_nil h l (fun y hy => k y (by simp [hy]))⟩
theorem src_nil {h : Vw} (l : List Fd) (k : ∀ x ∈ l, x.src.args = []) : AllSrc h l (l.map (fun _ => .slice none 0 0)) := by
  have := all_nil h (l.map (·.src)) (fun x hx => by obtain ⟨f, hf, rfl⟩ := List.mem_map.1 hx; exact k f hf)
  rw [List.map_map] at this
  exact this



end Go.Proofs.Ythgcgciceejicaa
