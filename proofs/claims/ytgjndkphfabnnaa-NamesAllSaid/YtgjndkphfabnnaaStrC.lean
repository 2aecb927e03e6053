/-
  slices.Clone at []string.
-/
import Derived.Test.YtgjndkphfabnnaaStr
import Derived.Test.YtgjndkphfabnnaaRowOps
import Derived.Lib.AppendZerosOnto
namespace Go.Proofs.Ytgjndkphfabnnaa
open Go.RowKit
set_option linter.unusedVariables false

theorem info_str : (Try.prog.info? 9).map (fun i => (i.zero, i.size, i.bytes)) = some (some (.string ⟨#[]⟩), 1, 16) := by kernel_rfl

set_option maxRecDepth 100000 in
set_option maxHeartbeats 2000000 in
theorem clone_str (v : Value) (l : List (List Value)) (w : World) (h : Sl w 1 v l) (hk : Len 1 l) (h1 : One l) (hl : l.length * 16 ≤ 140737488355328) :
    Calls Try.prog 22 #[v] w (GivesOwn 9 1 l w) := by
  have q22 : ∀ (w : World) (a : Option Addr) (n c n' c' : Nat), (binOp .eql 32 (.slice a n c) (.slice none n' c')).run Try.prog w = .ok (.bool a.isNone) w := fun w a n c n' c' => Lib.run_eql_slice_nil w _ _ a n c n' c' Try.underlying32
  obtain ⟨A, cap, rfl, c1, c2, hA⟩ := h.form
  cases A with
  | none =>
    obtain rfl := hA rfl
    have h0 : l.length = 0 := by omega
    obtain rfl := List.length_eq_zero_iff.1 h0
    go_enter Try.func22, Try.ntmps22
    go_wp2_with fail
    go_ret
    exact ⟨_, rfl, ⟨by simp, .inl ⟨rfl, rfl⟩⟩, Evo.refl _⟩
  | some a =>
    have HR := Lib.hid h
    have HK := Lib.hid hk
    have H1 := Lib.hid h1
    clear h hk h1
    go_enter Try.func22, Try.ntmps22
    go_wp2_with (at_builtin; refine wpList_append_rows rfl (.tmp 5) (.tmp 6) 32 rfl 9 _ 1 16 Try.underlying32 info_str rfl (by decide) w ((Evo.refl _).alloc _) [] l _ _ rfl rfl ⟨World.ownsRow_made w #[] 0 (Nat.le_refl _) (Nat.zero_le _) (by simp)⟩ (HR.out.at ((Evo.refl _).alloc _)) HK.out H1.out ?c1 ?c2 ?_)
    case c1 => simp; omega
    case c2 => simpa using hl
    intro v' w1 hown hbl hg
    have HW := Lib.hid (⟨hown, hbl⟩ : Own w1 w.heap.size 9 1 v' ([] ++ l).length ([] ++ l).flatten ∧ Evo w w1)
    clear hown hg hbl
    go_wp2_with fail
    go_ret
    exact ⟨_, rfl, HW.out.1, HW.out.2⟩

theorem c_cloneS {h : Vw} {v : Value} {l : List ByteArray} (hr : RS h 1 v (strRows l)) (hl : l.length ≤ 1000000) : CRow Try.prog 22 #[v] h 9 1 (fun _ rows => rows = strRows l) :=
  CRow.of_own (str_len l) (clone_str v (strRows l) h.w (Sl.of_rs hr) (str_len _) (str_one _) (by rw [List.length_map]; omega))

end Go.Proofs.Ytgjndkphfabnnaa
