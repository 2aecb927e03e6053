/-
  Contracts of Go's package slices at []api.Timer.
-/
import Derived.Test.YtpckomnpeainlabEvo
namespace Go.Proofs.Ytpckomnpeainlab
open Go.RowKit

theorem info_tmr : (Try.prog.info? 27).map (fun i => (i.zero, i.size, i.bytes)) = some (some (.agg #[.int .i64 0, .int .i64 0]), 2, 16) := by kernel_rfl

set_option maxRecDepth 100000 in
set_option maxHeartbeats 2000000 in
theorem clone_tmr (v : Value) (l : List (List Value)) (w : World) (h : Sl w 2 v l) (hk : Len 2 l) (h1 : One l) (hl : l.length * 16 ≤ 140737488355328) :
    Calls Try.prog 47 #[v] w (GivesOwn 27 2 l w) := by
  have q22 : ∀ (w : World) (a : Option Addr) (n c n' c' : Nat), (binOp .eql 23 (.slice a n c) (.slice none n' c')).run Try.prog w = .ok (.bool a.isNone) w := fun w a n c n' c' => Lib.run_eql_slice_nil w _ _ a n c n' c' Try.underlying23
  obtain ⟨A, cap, rfl, c1, c2, hA⟩ := h.form
  cases A with
  | none =>
    obtain rfl := hA rfl
    have h0 : l.length = 0 := by omega
    obtain rfl := List.length_eq_zero_iff.1 h0
    go_enter Try.func47, Try.ntmps47
    go_wp2_with fail
    go_ret
    exact ⟨_, rfl, ⟨by simp, .inl ⟨rfl, rfl⟩⟩, Evo.refl _⟩
  | some a =>
    have HR := Lib.hid h
    have HK := Lib.hid hk
    have H1 := Lib.hid h1
    clear h hk h1
    go_enter Try.func47, Try.ntmps47
    go_wp2_with (at_builtin; refine wpList_append_rows rfl (.tmp 5) (.tmp 6) 23 rfl 27 _ 2 16 Try.underlying23 info_tmr rfl (by decide) w ((Evo.refl _).alloc _) [] l _ _ rfl rfl ⟨World.ownsRow_made w #[] 0 (Nat.le_refl _) (Nat.zero_le _) (by simp)⟩ (HR.out.at ((Evo.refl _).alloc _)) HK.out H1.out ?c1 ?c2 ?_)
    case c1 => simp; omega
    case c2 => simpa using hl
    intro v' w1 hown hbl hg
    have HW := Lib.hid (⟨hown, hbl⟩ : Own w1 w.heap.size 27 2 v' ([] ++ l).length ([] ++ l).flatten ∧ Evo w w1)
    clear hown hg hbl
    go_wp2_with fail
    go_ret
    exact ⟨_, rfl, HW.out.1, HW.out.2⟩

end Go.Proofs.Ytpckomnpeainlab
