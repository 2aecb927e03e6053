/-
  Contract of the laws' small.
-/
import Derived.Test.YtgjndkphfabnnaaForm
namespace Go.Proofs.Ytgjndkphfabnnaa
open Go.RowKit

def stA : ByteArray := ⟨#[97]⟩
def smallX : Ex := .mk 8 0 0 ⟨#[]⟩ ⟨#[]⟩ [.mk 2 0 0 ⟨#[]⟩ ⟨#[97]⟩ [], .mk 1 1 1 ⟨#[]⟩ ⟨#[]⟩ []]
def smallB : Ex := .mk 2 0 0 ⟨#[]⟩ ⟨#[98]⟩ []
def smallF : Fm := ⟨[⟨⟨#[98]⟩, 2, 1, smallX⟩, ⟨⟨#[97]⟩, 1, 1, zE⟩, ⟨⟨#[99]⟩, 3, 3, smallB⟩], [⟨⟨#[112, 49]⟩, [⟨#[97]⟩], zE⟩, ⟨⟨#[112, 50]⟩, [⟨#[99]⟩], zE⟩]⟩

set_option maxRecDepth 100000 in
theorem small_any (h : Vw) : C0 Try.prog 29 #[] h (fun v h' => ∃ A c B d, v = .agg #[.slice A 3 c, .slice B 2 d] ∧ IsForm h' (.slice A 3 c) (.slice B 2 d) smallF) := by
  refine x_con Try.func29 (c := Try.f29.body.getD .skip) (by kernel_rfl) (N := 19) rfl (by kernel_rfl) ?_
  intro hbx hbad Q hQ a w hJ
  replace hJ : K ⟨19, h.w, h.bad, []⟩ [] [] [] h a w := hJ.to (by kernel_rfl) (by kernel_rfl) rfl
  refine rx hJ true 34 [.own, .fix, .own, .b 0 0, .b 0 0, .fix, .fix, .fix, .fix, .b 1 0] [] (.new fun b1 => .new fun bx => .new fun b2 => .new fun bf => .new fun bs => .new fun bt => .new fun bp => .ok (.out .ret) [] [(0, Vp b1)] [.box b2 [Vi 8, Vi 0, Vi 0, Ve, Ve, Vs bx 2 2], .box b1 [Vs bf 3 3, Vs bp 2 2]] [(bp, 0, [.string ⟨#[112, 49]⟩, Vs bs 1 1, Vi 0, Vi 0, Vi 0, Ve, Ve, Vz, .string ⟨#[112, 50]⟩, Vs bt 1 1, Vi 0, Vi 0, Vi 0, Ve, Ve, Vz]), (bt, 0, [.string ⟨#[99]⟩]), (bs, 0, [.string ⟨#[97]⟩]), (bf, 0, [.string ⟨#[98]⟩, Vi 2, Vi 1, Vi 8, Vi 0, Vi 0, Ve, Ve, Vs bx 2 2, .string ⟨#[97]⟩, Vi 1, Vi 1, Vi 0, Vi 0, Vi 0, Ve, Ve, Vz, .string ⟨#[99]⟩, Vi 3, Vi 3, Vi 2, Vi 0, Vi 0, Ve, .string ⟨#[98]⟩, Vz]), (bx, 0, [Vi 2, Vi 0, Vi 0, Ve, .string ⟨#[97]⟩, Vz, Vi 1, Vi 1, Vi 1, Ve, Ve, Vz])]) trivial trivial (fun b1 bx b2 bf bs bt bp _ => by kernel_rfl) ?_
  clear hJ a w; intro b1 bx b2 bf bs bt bp h3 a w s4 hJ
  have x : Cells h3 bx 0 [Vi 2, Vi 0, Vi 0, Ve, .string ⟨#[97]⟩, Vz, Vi 1, Vi 1, Vi 1, Ve, Ve, Vz] := hJ.f _ (List.mem_of_getElem? (i := 4) rfl)
  have f : Cells h3 bf 0 [.string ⟨#[98]⟩, Vi 2, Vi 1, Vi 8, Vi 0, Vi 0, Ve, Ve, Vs bx 2 2, .string ⟨#[97]⟩, Vi 1, Vi 1, Vi 0, Vi 0, Vi 0, Ve, Ve, Vz, .string ⟨#[99]⟩, Vi 3, Vi 3, Vi 2, Vi 0, Vi 0, Ve, .string ⟨#[98]⟩, Vz] := hJ.f _ (List.mem_of_getElem? (i := 3) rfl)
  have s : Cells h3 bs 0 [.string ⟨#[97]⟩] := hJ.f _ (List.mem_of_getElem? (i := 2) rfl)
  have t : Cells h3 bt 0 [.string ⟨#[99]⟩] := hJ.f _ (List.mem_of_getElem? (i := 1) rfl)
  have p : Cells h3 bp 0 [.string ⟨#[112, 49]⟩, Vs bs 1 1, Vi 0, Vi 0, Vi 0, Ve, Ve, Vz, .string ⟨#[112, 50]⟩, Vs bt 1 1, Vi 0, Vi 0, Vi 0, Ve, Ve, Vz] := hJ.f _ (List.mem_of_getElem? (i := 0) rfl)
  refine x_end (hQ [.agg #[Vs bf 3 3, Vs bp 2 2]] _ [] hJ (.rcell hJ.j 1 rfl (by kernel_rfl) (by kernel_rfl) .nil) (no_own _) rfl ?_).1
  have N : ∀ x : Ex, x.args = [] → IsArgs ⟨w, h.bad⟩ x (.slice none 0 0) := args_nil _
  have cx : Cells ⟨w, h.bad⟩ bx 0 (exRows smallX.args [.slice none 0 0, .slice none 0 0]).flatten := (hJ.f _ (List.mem_of_getElem? (i := 4) rfl)).sees hJ.j.out
  have cf : Cells ⟨w, h.bad⟩ bf 0 (fdRows smallF.fields [.slice (some ⟨bx, 0, none⟩) 2 2, .slice none 0 0, .slice none 0 0]).flatten := (hJ.f _ (List.mem_of_getElem? (i := 3) rfl)).sees hJ.j.out
  have cs : Cells ⟨w, h.bad⟩ bs 0 (strRows [⟨#[97]⟩]).flatten := (hJ.f _ (List.mem_of_getElem? (i := 2) rfl)).sees hJ.j.out
  have ct : Cells ⟨w, h.bad⟩ bt 0 (strRows [⟨#[99]⟩]).flatten := (hJ.f _ (List.mem_of_getElem? (i := 1) rfl)).sees hJ.j.out
  have cp : Cells ⟨w, h.bad⟩ bp 0 (pgRows smallF.pages [.slice (some ⟨bs, 0, none⟩) 1 1, .slice (some ⟨bt, 0, none⟩) 1 1] [.slice none 0 0, .slice none 0 0]).flatten := (hJ.f _ (List.mem_of_getElem? (i := 0) rfl)).sees hJ.j.out
  have rx := rs_cells (k := 6) (exRows smallX.args [.slice none 0 0, .slice none 0 0]) (fun r hr => by simp [smallX, Ex.args] at hr; rcases hr with rfl | rfl <;> rfl) (show (2 : Nat) ≤ maxLen by decide) cx
  have rf := rs_cells (k := 9) (fdRows smallF.fields [.slice (some ⟨bx, 0, none⟩) 2 2, .slice none 0 0, .slice none 0 0]) (fun r hr => by simp [smallF, fdRows] at hr; rcases hr with rfl | rfl | rfl <;> rfl) (show (3 : Nat) ≤ maxLen by decide) cf
  have rs := rs_cells (k := 1) (strRows [⟨#[97]⟩]) (fun r hr => by simp at hr; rw [hr]; rfl) (by decide) cs
  have rt := rs_cells (k := 1) (strRows [⟨#[99]⟩]) (fun r hr => by simp at hr; rw [hr]; rfl) (by decide) ct
  have rp := rs_cells (k := 8) (pgRows smallF.pages [.slice (some ⟨bs, 0, none⟩) 1 1, .slice (some ⟨bt, 0, none⟩) 1 1] [.slice none 0 0, .slice none 0 0]) (fun r hr => by simp [smallF, pgRows] at hr; rcases hr with rfl | rfl <;> rfl) (show (2 : Nat) ≤ maxLen by decide) cp
  have nil0 : AllArgs ⟨w, h.bad⟩ [] [] := by unfold AllArgs; rfl
  have one : ∀ {x : Ex} {l : List Ex} {u : Value} {us : List Value}, IsArgs ⟨w, h.bad⟩ x u → AllArgs ⟨w, h.bad⟩ l us → AllArgs ⟨w, h.bad⟩ (x :: l) (u :: us) := fun a b => by unfold AllArgs; exact ⟨_, _, rfl, a, b⟩
  have ax : IsArgs ⟨w, h.bad⟩ smallX (.slice (some ⟨bx, 0, none⟩) 2 2) := IsArgs.mk rx (one (N _ rfl) (one (N _ rfl) nil0))
  exact ⟨some ⟨bf, 0, none⟩, 3, some ⟨bp, 0, none⟩, 2, rfl, ⟨_, rf, one ax (one (N _ rfl) (one (N smallB rfl) nil0))⟩, ⟨_, _, rp, ⟨_, _, rfl, rs, _, _, rfl, rt, rfl⟩, one (N _ rfl) (one (N _ rfl) nil0)⟩⟩

end Go.Proofs.Ytgjndkphfabnnaa
