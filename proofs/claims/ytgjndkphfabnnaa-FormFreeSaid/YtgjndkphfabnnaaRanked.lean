/-
  Contract of the laws' ranked; of slices.Min and Max at ranks.
-/
import Derived.Test.YtgjndkphfabnnaaRnkF
namespace Go.Proofs.Ytgjndkphfabnnaa
open Go.RowKit
set_option linter.unusedVariables false

theorem smallX_wf : WfE smallX := by
  refine WfE.mk' (.inr (.inr ⟨(by decide : (3 : Int) ≤ 8), (by decide : (8 : Int) ≤ 18), rfl, rfl, rfl, rfl, rfl⟩)) (WfL.all fun y hy => ?_)
  have hy : y ∈ [refE ⟨#[97]⟩, Ex.mk 1 1 1 ⟨#[]⟩ ⟨#[]⟩ []] := hy
  rcases List.mem_cons.1 hy with rfl | hy
  · exact (wf_leaf (refE_ok ⟨by decide, by decide, ⟨_, rfl, by decide⟩, by decide, by decide⟩) rfl).1
  · rw [List.mem_singleton.1 hy]
    exact (wf_leaf (x := .mk 1 1 1 ⟨#[]⟩ ⟨#[]⟩ []) (.inl ⟨rfl, .inl ⟨rfl, (by unfold Lim; decide : Lim 1), rfl⟩, fun _ => (by decide : (0 : Int) ≤ 1), rfl, rfl⟩) rfl).1
theorem smallB_wf : WfE smallB := (wf_leaf (refE_ok (s := ⟨#[98]⟩) ⟨by decide, by decide, ⟨_, rfl, by decide⟩, by decide, by decide⟩) rfl).1
theorem small_ok : OkFs smallF.fields := by
  refine ⟨fun f hf => ?_, by decide, by decide⟩
  have hf : f ∈ [(⟨⟨#[98]⟩, 2, 1, smallX⟩ : Fd), ⟨⟨#[97]⟩, 1, 1, zE⟩, ⟨⟨#[99]⟩, 3, 3, smallB⟩] := hf
  rcases List.mem_cons.1 hf with rfl | hf
  · exact ⟨⟨by decide, by decide, ⟨_, rfl, by decide⟩, by decide, by decide⟩, by decide, by decide, by decide, by decide, fun h => absurd h (show ¬ (2 : Int) = 1 by decide), fun _ => ⟨smallX_wf, by decide, by decide⟩, fun _ => by decide, fun h => absurd h (show ¬ (2 : Int) = 3 by decide)⟩
  · rcases List.mem_cons.1 hf with rfl | hf
    · exact ⟨⟨by decide, by decide, ⟨_, rfl, by decide⟩, by decide, by decide⟩, by decide, by decide, by decide, by decide, fun _ => rfl, fun h => absurd rfl h, fun h => absurd h (show ¬ (1 : Int) = 2 by decide), fun h => absurd h (show ¬ (1 : Int) = 3 by decide)⟩
    · rw [List.mem_singleton.1 hf]
      exact ⟨⟨by decide, by decide, ⟨_, rfl, by decide⟩, by decide, by decide⟩, by decide, by decide, by decide, by decide, fun h => absurd h (show ¬ (3 : Int) = 1 by decide), fun _ => ⟨smallB_wf, by decide, by decide⟩, fun h => absurd h (show ¬ (3 : Int) = 2 by decide), fun _ => ⟨1, by decide, by decide, by decide⟩⟩
theorem names_one {x : Ex} {s : ByteArray} (h : refsE x = [s]) : namesE x = [s] := by
  unfold namesE namesB
  rw [h]
  have e : dd ([s].map fun s : ByteArray => s.data.toList) = [s.data.toList] := by simp [dd]
  rw [e, List.mergeSort_singleton]
  simp
theorem small_needs : needsE smallF.fields = [[1], [], [0]] := by
  have e1 : namesE smallX = [⟨#[97]⟩] := names_one (by decide)
  have e2 : namesE smallB = [⟨#[98]⟩] := names_one (by decide)
  show [needE smallF.fields ⟨⟨#[98]⟩, 2, 1, smallX⟩, needE smallF.fields ⟨⟨#[97]⟩, 1, 1, zE⟩, needE smallF.fields ⟨⟨#[99]⟩, 3, 3, smallB⟩] = _
  unfold needE
  rw [if_neg (by decide), if_pos rfl, if_neg (by decide)]
  have p1 : plc smallF.fields ⟨#[97]⟩ = 1 := by
    unfold plc
    rw [show (⟨#[97]⟩ : ByteArray) = (⟨⟨#[97]⟩, 1, 1, zE⟩ : Fd).name from rfl, findF_at small_ok.nodup (i := 1) rfl]; rfl
  have p2 : plc smallF.fields ⟨#[98]⟩ = 0 := by
    unfold plc
    rw [show (⟨#[98]⟩ : ByteArray) = (⟨⟨#[98]⟩, 2, 1, smallX⟩ : Fd).name from rfl, findF_at small_ok.nodup (i := 0) rfl]; rfl
  simp only [e1, e2, List.map_cons, List.map_nil, p1, p2]
theorem small_ranked : Ranked (needsE smallF.fields) [1, 0, 2] (fun i => [1, 0, 2].getD i 0) := by
  rw [small_needs]
  exact ranked_ex (need := [[1], [], [0]]) (lv := fun i => [1, 0, 2].getD i 0) (by decide) (by decide)

end Go.Proofs.Ytgjndkphfabnnaa
