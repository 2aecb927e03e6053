/-
  The laws' small may be, in plain words.
-/
import Derived.Test.YthgcgciceejicaaPgChk
import Derived.Test.YthgcgciceejicaaSmall
namespace Go.Proofs.Ythgcgciceejicaa
open Go.RowKit
set_option linter.unusedVariables false

theorem smallX_wf : WfE smallX := by
  refine WfE.mk' (.inr (.inr ⟨(by decide : (3 : Int) ≤ 8), (by decide : (8 : Int) ≤ 18), rfl, rfl, rfl, rfl, rfl⟩)) (WfL.all fun y hy => ?_)
  have hy : y ∈ [refE ⟨#[97]⟩, Ex.mk 1 1 1 ⟨#[]⟩ ⟨#[]⟩ []] := hy
  rcases List.mem_cons.1 hy with rfl | hy
  · exact (wf_leaf (refE_ok ⟨by decide, by decide, ⟨_, rfl, by decide⟩, by decide, by decide⟩) rfl).1
  · rw [List.mem_singleton.1 hy]
    exact (wf_leaf (x := .mk 1 1 1 ⟨#[]⟩ ⟨#[]⟩ []) (.inl ⟨rfl, .inl ⟨rfl, (by unfold Lim; decide : Lim 1), rfl⟩, fun _ => (by decide : (0 : Int) ≤ 1), rfl, rfl⟩) rfl).1
theorem smallB_wf : WfE smallB := (wf_leaf (refE_ok (s := ⟨#[98]⟩) ⟨by decide, by decide, ⟨_, rfl, by decide⟩, by decide, by decide⟩) rfl).1
theorem small_ok : OkFs smallF.fields := by
  refine ⟨fun f hf => ?_, by decide, by decide⟩
  have hf : f ∈ [(⟨⟨#[98]⟩, 2, 1, smallX⟩ : Fd), ⟨⟨#[97]⟩, 1, 1, zE⟩, ⟨⟨#[99]⟩, 3, 3, smallB⟩] := hf
  rcases List.mem_cons.1 hf with rfl | hf
  · exact ⟨⟨by decide, by decide, ⟨_, rfl, by decide⟩, by decide, by decide⟩, by decide, by decide, by decide, by decide, fun h => absurd h (show ¬ (2 : Int) = 1 by decide), fun _ => ⟨smallX_wf, by decide, by decide⟩, fun _ => by decide, fun h => absurd h (show ¬ (2 : Int) = 3 by decide)⟩
  · rcases List.mem_cons.1 hf with rfl | hf
    · exact ⟨⟨by decide, by decide, ⟨_, rfl, by decide⟩, by decide, by decide⟩, by decide, by decide, by decide, by decide, fun _ => rfl, fun h => absurd rfl h, fun h => absurd h (show ¬ (1 : Int) = 2 by decide), fun h => absurd h (show ¬ (1 : Int) = 3 by decide)⟩
    · rw [List.mem_singleton.1 hf]
      exact ⟨⟨by decide, by decide, ⟨_, rfl, by decide⟩, by decide, by decide⟩, by decide, by decide, by decide, by decide, fun h => absurd h (show ¬ (3 : Int) = 1 by decide), fun _ => ⟨smallB_wf, by decide, by decide⟩, fun h => absurd h (show ¬ (3 : Int) = 2 by decide), fun _ => ⟨1, by decide, by decide, by decide⟩⟩
theorem small_okG : OkGs smallF.fields smallF.pages := by
  have hm : ∀ p ∈ smallF.pages, p = ⟨⟨#[112, 49]⟩, [⟨#[97]⟩], zE⟩ ∨ p = ⟨⟨#[112, 50]⟩, [⟨#[99]⟩], zE⟩ := fun p hp => by
    have hp : p ∈ [(⟨⟨#[112, 49]⟩, [⟨#[97]⟩], zE⟩ : Pg), ⟨⟨#[112, 50]⟩, [⟨#[99]⟩], zE⟩] := hp
    rcases List.mem_cons.1 hp with h | h
    · exact .inl h
    · exact .inr (List.mem_singleton.1 h)
  have p1 : findF smallF.fields ⟨#[97]⟩ = (1 : Nat) := findF_at small_ok.nodup (i := 1) (f := ⟨⟨#[97]⟩, 1, 1, zE⟩) rfl
  have p2 : findF smallF.fields ⟨#[99]⟩ = (2 : Nat) := findF_at small_ok.nodup (i := 2) (f := ⟨⟨#[99]⟩, 3, 3, smallB⟩) rfl
  refine ⟨by decide, by decide, fun p h => ?_, by decide, fun p h => ?_, fun p h s hs => ?_, by decide, fun p h => ?_⟩
  · rcases hm p h with rfl | rfl
    · exact ⟨by decide, by decide, ⟨_, rfl, by decide⟩, by decide, by decide⟩
    · exact ⟨by decide, by decide, ⟨_, rfl, by decide⟩, by decide, by decide⟩
  · rcases hm p h with rfl | rfl <;> decide
  · rcases hm p h with rfl | rfl
    · rw [List.mem_singleton.1 hs, p1]; omega
    · rw [List.mem_singleton.1 hs, p2]; omega
  · rcases hm p h with rfl | rfl <;> exact .inl rfl

end Go.Proofs.Ythgcgciceejicaa
