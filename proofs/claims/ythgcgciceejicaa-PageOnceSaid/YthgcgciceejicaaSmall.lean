/-
  Contract of the laws' small.
-/
import Derived.Test.YthgcgciceejicaaGo
import Derived.Test.YthgcgciceejicaaForm
namespace Go.Proofs.Ythgcgciceejicaa
open Go.RowKit

def stA : ByteArray := ⟨#[97]⟩
def smallX : Ex := .mk 8 0 0 ⟨#[]⟩ ⟨#[]⟩ [.mk 2 0 0 ⟨#[]⟩ ⟨#[97]⟩ [], .mk 1 1 1 ⟨#[]⟩ ⟨#[]⟩ []]
def smallB : Ex := .mk 2 0 0 ⟨#[]⟩ ⟨#[98]⟩ []
def smallF : Fm := ⟨[⟨⟨#[98]⟩, 2, 1, smallX⟩, ⟨⟨#[97]⟩, 1, 1, zE⟩, ⟨⟨#[99]⟩, 3, 3, smallB⟩], [⟨⟨#[112, 49]⟩, [⟨#[97]⟩], zE⟩, ⟨⟨#[112, 50]⟩, [⟨#[99]⟩], zE⟩]⟩

set_option maxRecDepth 100000 in
theorem small_any (h : Vw) : C0 Try.prog 6 #[] h (fun v h' => ∃ A c B d, v = .agg #[.slice A 3 c, .slice B 2 d] ∧ IsForm h' (.slice A 3 c) (.slice B 2 d) smallF) := by
  refine g_con Try.func6 fun hbx hbad Q hQ => ?_
  refine gov3 23 [.own, .fix, .own, .b 0 0, .b 0 0] [] ?_
  intro b1 bx b2 W3 S4
  refine g_cells 0 bx 0 [Vi 2, Vi 0, Vi 0, Ve, .string ⟨#[97]⟩, Vz, Vi 1, Vi 1, Vi 1, Ve, Ve, Vz] fun x => ?_
  refine gov3 5 [.fix, .fix, .fix] [] ?_
  intro bf bs bt W5 S6
  refine g_cells 2 bf 0 [.string ⟨#[98]⟩, Vi 2, Vi 1, Vi 8, Vi 0, Vi 0, Ve, Ve, Vs bx 2 2, .string ⟨#[97]⟩, Vi 1, Vi 1, Vi 0, Vi 0, Vi 0, Ve, Ve, Vz, .string ⟨#[99]⟩, Vi 3, Vi 3, Vi 2, Vi 0, Vi 0, Ve, .string ⟨#[98]⟩, Vz] fun f => ?_
  refine g_cells 1 bs 0 [.string ⟨#[97]⟩] fun s => ?_
  refine g_cells 0 bt 0 [.string ⟨#[99]⟩] fun t => ?_
  refine gov1 6 [.fix, .b 1 0] [] ?_
  intro bp W7 S8
  refine g_cells 0 bp 0 [.string ⟨#[112, 49]⟩, Vs bs 1 1, Vi 0, Vi 0, Vi 0, Ve, Ve, Vz, .string ⟨#[112, 50]⟩, Vs bt 1 1, Vi 0, Vi 0, Vi 0, Ve, Ve, Vz] fun p => ?_
  refine hQ.toJ [.agg #[Vs bf 3 3, Vs bp 2 2]] [] (fun a w hJ => ?_) (ix := [1])
  have N : ∀ x : Ex, x.args = [] → IsArgs ⟨w, h.bad⟩ x (.slice none 0 0) := args_nil _
  have cx : Cells ⟨w, h.bad⟩ bx 0 (exRows smallX.args [.slice none 0 0, .slice none 0 0]).flatten := (hJ.f (_, _, _) (List.mem_of_getElem? (i := 4) (by kernel_rfl))).sees hJ.j.out
  have cf : Cells ⟨w, h.bad⟩ bf 0 (fdRows smallF.fields [.slice (some ⟨bx, 0, none⟩) 2 2, .slice none 0 0, .slice none 0 0]).flatten := (hJ.f (_, _, _) (List.mem_of_getElem? (i := 3) (by kernel_rfl))).sees hJ.j.out
  have cs : Cells ⟨w, h.bad⟩ bs 0 (strRows [⟨#[97]⟩]).flatten := (hJ.f (_, _, _) (List.mem_of_getElem? (i := 2) (by kernel_rfl))).sees hJ.j.out
  have ct : Cells ⟨w, h.bad⟩ bt 0 (strRows [⟨#[99]⟩]).flatten := (hJ.f (_, _, _) (List.mem_of_getElem? (i := 1) (by kernel_rfl))).sees hJ.j.out
  have cp : Cells ⟨w, h.bad⟩ bp 0 (pgRows smallF.pages [.slice (some ⟨bs, 0, none⟩) 1 1, .slice (some ⟨bt, 0, none⟩) 1 1] [.slice none 0 0, .slice none 0 0]).flatten := (hJ.f (_, _, _) (List.mem_of_getElem? (i := 0) (by kernel_rfl))).sees hJ.j.out
  have rx := rs_cells (k := 6) (exRows smallX.args [.slice none 0 0, .slice none 0 0]) (fun r hr => by simp [smallX, Ex.args] at hr; rcases hr with rfl | rfl <;> rfl) (show (2 : Nat) ≤ maxLen by decide) cx
  have rf := rs_cells (k := 9) (fdRows smallF.fields [.slice (some ⟨bx, 0, none⟩) 2 2, .slice none 0 0, .slice none 0 0]) (fun r hr => by simp [smallF, fdRows] at hr; rcases hr with rfl | rfl | rfl <;> rfl) (show (3 : Nat) ≤ maxLen by decide) cf
  have rs := rs_cells (k := 1) (strRows [⟨#[97]⟩]) (fun r hr => by simp at hr; rw [hr]; rfl) (by decide) cs
  have rt := rs_cells (k := 1) (strRows [⟨#[99]⟩]) (fun r hr => by simp at hr; rw [hr]; rfl) (by decide) ct
  have rp := rs_cells (k := 8) (pgRows smallF.pages [.slice (some ⟨bs, 0, none⟩) 1 1, .slice (some ⟨bt, 0, none⟩) 1 1] [.slice none 0 0, .slice none 0 0]) (fun r hr => by simp [smallF, pgRows] at hr; rcases hr with rfl | rfl <;> rfl) (show (2 : Nat) ≤ maxLen by decide) cp
  have nil0 : AllArgs ⟨w, h.bad⟩ [] [] := by unfold AllArgs; rfl
  have one : ∀ {x : Ex} {l : List Ex} {u : Value} {us : List Value}, IsArgs ⟨w, h.bad⟩ x u → AllArgs ⟨w, h.bad⟩ l us → AllArgs ⟨w, h.bad⟩ (x :: l) (u :: us) := fun a b => by unfold AllArgs; exact ⟨_, _, rfl, a, b⟩
  have ax : IsArgs ⟨w, h.bad⟩ smallX (.slice (some ⟨bx, 0, none⟩) 2 2) := IsArgs.mk rx (one (N _ rfl) (one (N _ rfl) nil0))
  exact ⟨some ⟨bf, 0, none⟩, 3, some ⟨bp, 0, none⟩, 2, rfl, ⟨_, rf, one ax (one (N _ rfl) (one (N smallB rfl) nil0))⟩, ⟨_, _, rp, ⟨_, _, rfl, rs, _, _, rfl, rt, rfl⟩, one (N _ rfl) (one (N _ rfl) nil0)⟩⟩

end Go.Proofs.Ythgcgciceejicaa
