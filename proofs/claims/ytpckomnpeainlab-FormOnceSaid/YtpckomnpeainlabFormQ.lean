/-
  What holds of the laws' forms.
-/
import Derived.Test.YtpckomnpeainlabForm
namespace Go.Proofs.Ytpckomnpeainlab
open Go.RowKit
set_option linter.unusedVariables false

theorem fname_inj {i j : Nat} (hi : i < 10) (hj : j < 10) (h : fname i = fname j) : i = j := by
  have key : ∀ i, i < 10 → ∀ j, j < 10 → (fname i).data = (fname j).data → i = j := by decide
  exact key i hi j hj (congrArg ByteArray.data h)
theorem fldT_names (l : List RawD) : ∀ k, (fldT l k).1.map (fun f : Fd => f.name) = (List.range k).map fname
  | 0 => rfl
  | k + 1 => by
    show ((fldT l k).1 ++ [_]).map (fun f : Fd => f.name) = _
    rw [List.map_append, fldT_names l k, List.range_succ, List.map_append]; rfl
theorem form_mem {l : List RawD} {f : Fd} : f ∈ (formE l).fields ↔ f ∈ (fldT l (nFields l)).1 := by
  show f ∈ formF l ↔ _
  unfold formF
  split
  · rw [List.mem_reverse]
  · exact Iff.rfl
theorem form_nodup (l : List RawD) : ((formE l).fields.map (·.name)).Nodup := by
  have hn := (nFields_le l).2.1
  have h : ((fldT l (nFields l)).1.map (·.name)).Nodup := by
    rw [fldT_names]
    refine List.pairwise_map.2 (List.nodup_range.imp_of_mem ?_)
    intro a b ha hb hab e
    exact hab (fname_inj (by have := List.mem_range.1 ha; omega) (by have := List.mem_range.1 hb; omega) e)
  show ((formF l).map (·.name)).Nodup
  unfold formF
  split
  · rw [List.map_reverse]; exact (List.reverse_perm _).nodup_iff.2 h
  · exact h
theorem form_len (l : List RawD) : (formE l).fields.length = nFields l := by
  show (formF l).length = _
  unfold formF
  split
  · rw [List.length_reverse, fldT_len]
  · exact fldT_len l _
theorem form_pages (l : List RawD) : (formE l).pages.length = nPages l := pgT_len _ _ _ _ _
theorem fldT_each (l : List RawD) : ∀ k, ∀ f ∈ (fldT l k).1, ∃ i, i < k ∧ f.name = fname i ∧ (1 ≤ f.kind ∧ f.kind ≤ 3) ∧ (1 ≤ f.ty ∧ f.ty ≤ 3) ∧ (f.kind = 1 → f.src = zE)
  | 0, f, hf => by cases hf
  | k + 1, f, hf => by
    have hf : f ∈ (fldT l k).1 ++ [_] := hf
    rcases List.mem_append.1 hf with hf | hf
    · obtain ⟨i, h1, h2⟩ := fldT_each l k f hf
      exact ⟨i, by omega, h2⟩
    · obtain rfl := List.mem_singleton.1 hf
      have p1 := pick_range (rawAt l (fldT l k).2).k 3 (by omega)
      have p2 := pick_range (rawAt l (fldT l k).2).b 3 (by omega)
      refine ⟨k, by omega, rfl, ⟨by simp only; omega, by simp only; omega⟩, ⟨by simp only; omega, by simp only; omega⟩, fun h => ?_⟩
      have h : 1 + pickL (rawAt l (fldT l k).2).k 3 = 1 := h
      show (srcE l (fldT l k).1 (rawAt l (fldT l k).2) (atNext l (fldT l k).2)).1 = zE
      unfold srcE
      rw [if_neg (by omega), if_neg (by omega)]
theorem form_each {l : List RawD} {f : Fd} (hf : f ∈ (formE l).fields) : ∃ i, i < 10 ∧ f.name = fname i ∧ (1 ≤ f.kind ∧ f.kind ≤ 3) ∧ (1 ≤ f.ty ∧ f.ty ≤ 3) ∧ (f.kind = 1 → f.src = zE) := by
  obtain ⟨i, h1, h2⟩ := fldT_each l _ f (form_mem.1 hf)
  exact ⟨i, by have := (nFields_le l).2.1; omega, h2⟩

/-- The form, its slices written out. -/
theorem form_c (l : List RawD) (sl : Value) (h : Vw) (hr : RS h 4 sl (l.map RawD.cs)) (hlen : l.length * 40 ≤ reachBytes) (hok : ∀ r ∈ l, r.ok) :
    C0 Try.prog 36 #[sl] h (fun v h' => ∃ A c B d, v = .agg #[.slice A (formE l).fields.length c, .slice B (formE l).pages.length d] ∧ IsForm h' (.slice A (formE l).fields.length c) (.slice B (formE l).pages.length d) (formE l)) := by
  refine (form_any l sl h hr hlen hok).mono fun v h' _ => ?_
  rintro ⟨u1, u2, rfl, hf⟩
  obtain ⟨vs, hrs, hsrc⟩ := hf.fields
  obtain ⟨us, ws, hps, hst, hag⟩ := hf.pages
  obtain ⟨A, c, e1, -⟩ := hrs.form
  obtain ⟨B, d, e2, -⟩ := hps.form
  rw [fdRows_len hsrc.len] at e1
  rw [pgRows_len (by rw [hst.len, List.length_map]) (by rw [hag.len, List.length_map])] at e2
  rw [e1, e2] at hf ⊢
  exact ⟨A, c, B, d, rfl, hf⟩
/-- Two values in one. -/
def fstV : Value → Value
  | .tuple a => a.getD 0 undef
  | _ => undef
def sndV : Value → Value
  | .tuple a => a.getD 1 undef
  | _ => undef
/-- The form, as a call in a drawn region tells it. -/
theorem form_u (l : List RawD) (sl : Value) (h : Vw) (hr : RS h 4 sl (l.map RawD.cs)) (hlen : l.length * 40 ≤ reachBytes) (hok : ∀ r ∈ l, r.ok) :
    C0 Try.prog 36 #[sl] h (fun v h' => ∃ u, v = .agg #[.slice (sA (fstV u)) (sN (fstV u)) (sC (fstV u)), .slice (sA (sndV u)) (sN (sndV u)) (sC (sndV u))] ∧ IsForm h' (.slice (sA (fstV u)) (sN (fstV u)) (sC (fstV u))) (.slice (sA (sndV u)) (sN (sndV u)) (sC (sndV u))) (formE l)) := by
  refine (form_any l sl h hr hlen hok).mono fun v h' _ => ?_
  rintro ⟨u1, u2, rfl, hf⟩
  exact ⟨.tuple #[u1, u2], rfl, hf⟩

end Go.Proofs.Ytpckomnpeainlab
