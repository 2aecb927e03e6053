/-
  The fields of the laws' forms may be.
-/
import Derived.Test.YtgjndkphfabnnaaForm
import Derived.Test.YtgjndkphfabnnaaChk
namespace Go.Proofs.Ytgjndkphfabnnaa
open Go.RowKit
set_option linter.unusedVariables false

theorem fname_ok {k : Nat} (h : k < 10) : NameOk (fname k).data.toList := by
  match k, h with
  | 0, _ => exact ⟨by decide, by decide, ⟨_, rfl, by decide⟩, by decide, by decide⟩
  | 1, _ => exact ⟨by decide, by decide, ⟨_, rfl, by decide⟩, by decide, by decide⟩
  | 2, _ => exact ⟨by decide, by decide, ⟨_, rfl, by decide⟩, by decide, by decide⟩
  | 3, _ => exact ⟨by decide, by decide, ⟨_, rfl, by decide⟩, by decide, by decide⟩
  | 4, _ => exact ⟨by decide, by decide, ⟨_, rfl, by decide⟩, by decide, by decide⟩
  | 5, _ => exact ⟨by decide, by decide, ⟨_, rfl, by decide⟩, by decide, by decide⟩
  | 6, _ => exact ⟨by decide, by decide, ⟨_, rfl, by decide⟩, by decide, by decide⟩
  | 7, _ => exact ⟨by decide, by decide, ⟨_, rfl, by decide⟩, by decide, by decide⟩
  | 8, _ => exact ⟨by decide, by decide, ⟨_, rfl, by decide⟩, by decide, by decide⟩
  | 9, _ => exact ⟨by decide, by decide, ⟨_, rfl, by decide⟩, by decide, by decide⟩
theorem tyF_mem : ∀ {fs : List Fd}, (fs.map (fun f : Fd => f.name)).Nodup → ∀ f ∈ fs, tyF fs f.name = some f.ty
  | [], _, f, hf => by cases hf
  | g :: fs, hd, f, hf => by
    have hd' := List.nodup_cons.1 hd
    unfold tyF
    rcases List.mem_cons.1 hf with rfl | hf
    · rw [if_pos ((Go.MapKept.bytes_beq _ _).2 rfl)]
    · rw [if_neg (fun q => ?_)]
      · exact tyF_mem hd'.2 f hf
      · have e := (Go.MapKept.bytes_beq _ _).1 q
        exact hd'.1 (List.mem_map.2 ⟨f, hf, e⟩)
/-- A field of the form, as it was made. -/
theorem fldT_made (l : List RawD) : ∀ k, ∀ f ∈ (fldT l k).1, ∃ i, i < k ∧ f = ⟨fname i, 1 + pickL (rawAt l (fldT l i).2).k 3, 1 + pickL (rawAt l (fldT l i).2).b 3, (srcE l (fldT l i).1 (rawAt l (fldT l i).2) (atNext l (fldT l i).2)).1⟩
  | 0, f, hf => by cases hf
  | k + 1, f, hf => by
    have hf : f ∈ (fldT l k).1 ++ [_] := hf
    rcases List.mem_append.1 hf with hf | hf
    · obtain ⟨i, h1, h2⟩ := fldT_made l k f hf
      exact ⟨i, by omega, h2⟩
    · exact ⟨k, by omega, List.mem_singleton.1 hf⟩
theorem fldT_sub (l : List RawD) {i k : Nat} (h : i ≤ k) : ∀ f ∈ (fldT l i).1, f ∈ (fldT l k).1 := by
  induction k with
  | zero => intro f hf; rw [show i = 0 by omega] at hf; cases hf
  | succ k ih =>
    intro f hf
    by_cases e : i = k + 1
    · rw [e] at hf; exact hf
    · show f ∈ (fldT l k).1 ++ [_]
      exact List.mem_append_left _ (ih (by omega) f hf)
theorem fldT_names_ok (l : List RawD) {k : Nat} (hk : k ≤ 10) : ∀ f ∈ (fldT l k).1, NameOk f.name.data.toList := fun f hf => by
  obtain ⟨i, h1, rfl⟩ := fldT_made l k f hf
  exact fname_ok (by omega)
/-- The formula of a field: it may be, is small, is of its type, and asks for fields ahead of it alone. -/
theorem src_ok (l : List RawD) (i : Nat) (hi : i < 10) {g : ByteArray → Option Int} (hg : ∀ f ∈ (fldT l i).1, g f.name = some f.ty) (h : pickL (rawAt l (fldT l i).2).k 3 ≠ 0) :
    ∃ t, 1 ≤ t ∧ t ≤ 3 ∧ (pickL (rawAt l (fldT l i).2).k 3 = 1 → t = 1 + pickL (rawAt l (fldT l i).2).b 3) ∧ tyE g (srcE l (fldT l i).1 (rawAt l (fldT l i).2) (atNext l (fldT l i).2)).1 = (t, 0) ∧
      WfE (srcE l (fldT l i).1 (rawAt l (fldT l i).2) (atNext l (fldT l i).2)).1 ∧ (szE (srcE l (fldT l i).1 (rawAt l (fldT l i).2) (atNext l (fldT l i).2)).1).1 ≤ 13 ∧ (szE (srcE l (fldT l i).1 (rawAt l (fldT l i).2) (atNext l (fldT l i).2)).1).2 ≤ 3 := by
  have hn := fldT_names_ok l (k := i) (by omega)
  have pk := pick_range (rawAt l (fldT l i).2).k 3 (by omega)
  have pb := pick_range (rawAt l (fldT l i).2).b 3 (by omega)
  have pa := pick_range (rawAt l (fldT l i).2).a 3 (by omega)
  unfold srcE
  by_cases h1 : pickL (rawAt l (fldT l i).2).k 3 = 1
  · rw [if_pos h1]
    obtain ⟨a, b, c⟩ := genE_ok l (fldT l i).1 hn 2 (1 + pickL (rawAt l (fldT l i).2).b 3) (atNext l (fldT l i).2) (by omega) (by omega)
    exact ⟨1 + pickL (rawAt l (fldT l i).2).b 3, by omega, by omega, fun _ => rfl, ty_gen hg l 2 _ _ (by omega) (by omega), a, b, c⟩
  · rw [if_neg h1, if_pos (by omega)]
    obtain ⟨a, b, c⟩ := genE_ok l (fldT l i).1 hn 1 (1 + pickL (rawAt l (fldT l i).2).a 3) (atNext l (fldT l i).2) (by omega) (by omega)
    have e1 : cntE 1 = 4 := rfl
    exact ⟨1 + pickL (rawAt l (fldT l i).2).a 3, by omega, by omega, fun q => absurd q h1, ty_gen hg l 1 _ _ (by omega) (by omega), a, by omega, by omega⟩
theorem form_okF (l : List RawD) (fs : List Fd) (hd : (fs.map (fun f : Fd => f.name)).Nodup) (hs : ∀ f ∈ (fldT l (nFields l)).1, f ∈ fs) : ∀ f ∈ (fldT l (nFields l)).1, OkF fs f := fun f hf => by
  have hn := (nFields_le l).2.1
  obtain ⟨i, hi, rfl⟩ := fldT_made l _ f hf
  have pk := pick_range (rawAt l (fldT l i).2).k 3 (by omega)
  have pb := pick_range (rawAt l (fldT l i).2).b 3 (by omega)
  have hg : ∀ f ∈ (fldT l i).1, tyF fs f.name = some f.ty := fun f hf => tyF_mem hd f (hs f (fldT_sub l (by omega) f hf))
  have hso := fun h => src_ok l i (by omega) hg h
  refine ⟨fname_ok (by omega), by simp only; omega, by simp only; omega, by simp only; omega, by simp only; omega, fun h => ?_, fun h => ?_, fun h => ?_, fun h => ?_⟩
  · simp only at h ⊢
    unfold srcE
    rw [if_neg (by omega), if_neg (by omega)]
  · simp only at h ⊢
    obtain ⟨t, -, -, -, -, a, b, c⟩ := hso (by omega)
    exact ⟨a, by omega, by unfold chkE; rw [if_neg (by omega), if_neg (by omega)]⟩
  · simp only at h ⊢
    obtain ⟨t, -, -, e, q, -⟩ := hso (by omega)
    rw [q, e (by omega)]
  · simp only at h ⊢
    obtain ⟨t, a, b, -, q, -⟩ := hso (by omega)
    exact ⟨t, a, b, q⟩
theorem form_okFs (l : List RawD) (fs : List Fd) (hd : (fs.map (fun f : Fd => f.name)).Nodup) (hm : ∀ f, f ∈ fs ↔ f ∈ (formE l).fields) (hl : fs.length ≤ 14) : OkFs fs :=
  ⟨fun f hf => form_okF l fs hd (fun g hg => (hm g).2 (form_mem.2 hg)) f (form_mem.1 ((hm f).1 hf)), hd, hl⟩

end Go.Proofs.Ytgjndkphfabnnaa
