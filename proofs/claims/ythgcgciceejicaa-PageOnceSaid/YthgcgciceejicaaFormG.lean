/-
  The pages of the laws' Form may be, in plain words.
-/
import Derived.Test.YthgcgciceejicaaPgChk
namespace Go.Proofs.Ythgcgciceejicaa
open Go.RowKit
set_option linter.unusedVariables false

theorem mem_pgNames {fs : List Fd} {n k : Nat} {s : ByteArray} : s ∈ pgNames fs n k ↔ ∃ (i : Nat) (f : Fd), fs[i]? = some f ∧ i % (n + 1) = k ∧ f.name = s := by
  unfold pgNames
  rw [List.mem_map]
  constructor
  · rintro ⟨⟨f, i⟩, h, rfl⟩
    obtain ⟨h1, h2⟩ := List.mem_filter.1 h
    exact ⟨i, f, List.mem_zipIdx_iff_getElem?.1 h1, beq_iff_eq.1 h2, rfl⟩
  · rintro ⟨i, f, h1, h2, rfl⟩
    exact ⟨(f, i), List.mem_filter.2 ⟨List.mem_zipIdx_iff_getElem?.2 h1, beq_iff_eq.2 h2⟩, rfl⟩
theorem pgNames_nodup {fs : List Fd} {n k : Nat} (h : (fs.map (fun f : Fd => f.name)).Nodup) : (pgNames fs n k).Nodup := by
  unfold pgNames
  have e : fs.zipIdx.map (fun p => p.1.name) = fs.map (fun f : Fd => f.name) := by
    have : fs.zipIdx.map (fun p => p.1) = fs := List.zipIdx_map_fst 0 fs
    calc fs.zipIdx.map (fun p => p.1.name) = (fs.zipIdx.map (fun p => p.1)).map (fun f : Fd => f.name) := by rw [List.map_map]; rfl
      _ = _ := by rw [this]
  refine List.Sublist.nodup ?_ (e ▸ h)
  exact List.Sublist.map _ List.filter_sublist
theorem pgT_once {l : List RawD} {fs : List Fd} {n n0 : Nat} (hd : (fs.map (fun f : Fd => f.name)).Nodup) : ∀ k, ((pgT l fs n n0 k).1.flatMap (fun p : Pg => p.fields)).Nodup ∧ ∀ s ∈ (pgT l fs n n0 k).1.flatMap (fun p : Pg => p.fields), ∃ (i : Nat) (f : Fd), fs[i]? = some f ∧ i % (n + 1) < k ∧ f.name = s
  | 0 => ⟨List.nodup_nil, fun s hs => by cases hs⟩
  | k + 1 => by
    obtain ⟨h1, h2⟩ := pgT_once (l := l) (n := n) (n0 := n0) hd k
    have e : (pgT l fs n n0 (k + 1)).1.flatMap (fun p : Pg => p.fields) = (pgT l fs n n0 k).1.flatMap (fun p : Pg => p.fields) ++ pgNames fs n k := by
      show ((pgT l fs n n0 k).1 ++ [_]).flatMap _ = _
      rw [List.flatMap_append]; simp
    rw [e]
    refine ⟨List.nodup_append.2 ⟨h1, pgNames_nodup hd, fun a ha b hb q => ?_⟩, fun s hs => ?_⟩
    · obtain ⟨i, f, f1, f2, f3⟩ := h2 a ha
      obtain ⟨j, g, g1, g2, g3⟩ := mem_pgNames.1 hb
      have q1 : (fs.map (fun f : Fd => f.name))[i]? = some a := by rw [List.getElem?_map, f1]; simp [f3]
      have q2 : (fs.map (fun f : Fd => f.name))[j]? = some a := by rw [List.getElem?_map, g1]; simp [g3, q]
      have := (List.getElem?_inj (List.getElem?_eq_some_iff.1 q1).1 hd).1 (q1.trans q2.symm)
      subst this
      omega
    · rcases List.mem_append.1 hs with hs | hs
      · obtain ⟨i, f, f1, f2, f3⟩ := h2 s hs
        exact ⟨i, f, f1, by omega, f3⟩
      · obtain ⟨j, g, g1, g2, g3⟩ := mem_pgNames.1 hs
        exact ⟨j, g, g1, by omega, g3⟩
theorem pgT_names (l : List RawD) (fs : List Fd) (n n0 : Nat) : ∀ k, (pgT l fs n n0 k).1.map (fun p : Pg => p.name) = (List.range k).map pgName
  | 0 => rfl
  | k + 1 => by
    show ((pgT l fs n n0 k).1 ++ [_]).map (fun p : Pg => p.name) = _
    rw [List.map_append, pgT_names l fs n n0 k, List.range_succ, List.map_append]; rfl
theorem pgT_each (l : List RawD) (fs : List Fd) (n n0 : Nat) : ∀ k, ∀ p ∈ (pgT l fs n n0 k).1, ∃ i m r, i < k ∧ p = ⟨pgName i, pgNames fs n i, (skipE l fs r m).1⟩
  | 0, p, h => by cases h
  | k + 1, p, h => by
    have h : p ∈ (pgT l fs n n0 k).1 ++ [_] := h
    rcases List.mem_append.1 h with h | h
    · obtain ⟨i, m, r, h1, h2⟩ := pgT_each l fs n n0 k p h
      exact ⟨i, m, r, by omega, h2⟩
    · exact ⟨k, _, _, by omega, List.mem_singleton.1 h⟩
theorem pgName_ok {k : Nat} (h : k < 5) : NameOk (pgName k).data.toList := by
  match k, h with
  | 0, _ => exact ⟨by decide, by decide, ⟨_, rfl, by decide⟩, by decide, by decide⟩
  | 1, _ => exact ⟨by decide, by decide, ⟨_, rfl, by decide⟩, by decide, by decide⟩
  | 2, _ => exact ⟨by decide, by decide, ⟨_, rfl, by decide⟩, by decide, by decide⟩
  | 3, _ => exact ⟨by decide, by decide, ⟨_, rfl, by decide⟩, by decide, by decide⟩
  | 4, _ => exact ⟨by decide, by decide, ⟨_, rfl, by decide⟩, by decide, by decide⟩
theorem pgName_inj {i j : Nat} (hi : i < 5) (hj : j < 5) (h : pgName i = pgName j) : i = j := by
  have key : ∀ i, i < 5 → ∀ j, j < 5 → (pgName i).data = (pgName j).data → i = j := by decide
  exact key i hi j hj (congrArg ByteArray.data h)
theorem form_okGs (l : List RawD) : OkGs (formE l).fields (formE l).pages := by
  have hn := nFields_le l
  have hp := nPages_le l
  have hpl := form_pages l
  have hT : ((fldT l (nFields l)).1.map (fun f : Fd => f.name)).Nodup := by
    rw [fldT_names]
    refine List.pairwise_map.2 (List.nodup_range.imp_of_mem ?_)
    intro a b ha hb hab e
    exact hab (fname_inj (by have := List.mem_range.1 ha; omega) (by have := List.mem_range.1 hb; omega) e)
  have he : ∀ p ∈ (formE l).pages, ∃ i m r, i < nPages l ∧ p = ⟨pgName i, pgNames (fldT l (nFields l)).1 (nPages l) i, (skipE l (fldT l (nFields l)).1 r m).1⟩ := pgT_each _ _ _ _ _
  have hok := form_okFs l _ (form_nodup l) (fun f => Iff.rfl) (by rw [form_len]; omega)
  refine ⟨by omega, by omega, fun p h => ?_, ?_, fun p h => ?_, fun p h s hs => ?_, (pgT_once hT _).1, fun p h => ?_⟩
  · obtain ⟨i, m, r, hi, rfl⟩ := he p h
    exact pgName_ok (by omega)
  · show ((pgT l _ _ _ _).1.map (fun p : Pg => p.name)).Nodup
    rw [pgT_names]
    refine List.pairwise_map.2 (List.nodup_range.imp_of_mem ?_)
    intro a b ha hb hab e
    exact hab (pgName_inj (by have := List.mem_range.1 ha; omega) (by have := List.mem_range.1 hb; omega) e)
  · obtain ⟨i, m, r, hi, rfl⟩ := he p h
    have := pgNames_len (fldT l (nFields l)).1 (nPages l) i
    rw [fldT_len] at this
    show (pgNames _ _ _).length ≤ 100
    omega
  · obtain ⟨i, m, r, hi, rfl⟩ := he p h
    obtain ⟨j, f, f1, -, rfl⟩ := mem_pgNames.1 hs
    obtain ⟨k, hk⟩ := List.mem_iff_getElem?.1 (form_mem.2 (List.mem_of_getElem? f1))
    rw [findF_at (form_nodup l) hk]
    omega
  · obtain ⟨i, m, r, hi, rfl⟩ := he p h
    show (skipE l _ r m).1 = zE ∨ _
    unfold skipE
    split
    · right
      have hnm : ∀ f ∈ (fldT l (nFields l)).1, NameOk f.name.data.toList := fun f hf => (hok.each f (form_mem.2 hf)).name
      obtain ⟨w1, w2, w3⟩ := genE_ok l _ hnm 1 2 m (by omega) (by omega)
      have ht := ty_gen (fs := (fldT l (nFields l)).1) (g := tyF (formE l).fields) (fun f hf => tyF_mem (form_nodup l) f (form_mem.2 hf)) l 1 2 m (by omega) (by omega)
      show (genE l _ 1 2 m).1.op ≠ 0 ∧ _
      generalize (genE l (fldT l (nFields l)).1 1 2 m).1 = x at *
      have w2 : (szE x).1 ≤ 4 := w2
      refine ⟨?_, w1, by show (szE x).1 < 1000000; omega, ?_⟩
      · rcases w1.top with t | t | t <;> omega
      · have cx : chkE x = 0 := by unfold chkE; rw [if_neg (by omega), if_neg (by omega)]
        have ho : ofE (formE l).fields x = (2, 0) := by unfold ofE; rw [if_pos cx, ht]
        show fitsE (formE l).fields x 2 = 0
        unfold fitsE
        rw [ho]; rfl
    · left; rfl

end Go.Proofs.Ythgcgciceejicaa
