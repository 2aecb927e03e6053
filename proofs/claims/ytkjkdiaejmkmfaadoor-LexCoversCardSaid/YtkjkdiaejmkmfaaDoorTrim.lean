/-
  strings.Trim of blanks alone, by a blank.
-/
import Derived.Test.YtkjkdiaejmkmfaaDoorBase
import Derived.Test.YtkjkdiaejmkmfaaDoorLexS
import Derived.Lib.Strings
import Derived.Lib.Slices
namespace Go.Proofs.YtkjkdiaejmkmfaaDoor
open Go.RowKit

def strSize : Value → Nat
  | .string s => s.size
  | _ => 0

set_option maxHeartbeats 1000000 in
theorem trimR_blank (n : Nat) (w : World) (hn : n ≤ 1000) : Calls Tryd.prog 8 #[.string (blanks n), .int .u8 32] w fun e w' => e = .returned (.string ⟨#[]⟩) ∧ w' = w := by
  go_enter Tryd.func8, Tryd.ntmps8
  go_wp2_with fail
  go_loop [0] (fun v => ∃ k : Nat, k ≤ n ∧ v = .string (blanks k)) (fun v => strSize v)
  case atStart => exact ⟨n, Nat.le_refl _, rfl⟩
  case round =>
    obtain ⟨k, hk, rfl⟩ := hrel
    have sz := blanks_size k
    by_cases h : k = 0
    · subst h
      go_wp2_with fail
      go_ret
      exact ⟨rfl, rfl⟩
    · have hpos : 0 < k := by omega
      have hpos' : (0 : Int) < (k : Int) := by omega
      have hlt : k - 1 < (blanks k).size := by omega
      have hb := blanks_at k (k - 1) hlt
      have hc := blanks_cut k (k - 1) (by omega)
      go_wp2_with fail
      exact ⟨⟨k - 1, by omega, rfl⟩, by show (blanks (k - 1)).size < (blanks k).size; rw [blanks_size, blanks_size]; omega⟩

theorem trimL_empty (w : World) : Calls Tryd.prog 7 #[.string ⟨#[]⟩, .int .u8 32] w fun e w' => e = .returned (.string ⟨#[]⟩) ∧ w' = w := by
  go_enter Tryd.func7, Tryd.ntmps7
  go_wp2_with fail
  go_loop [0] (fun v => v = .string ⟨#[]⟩) (fun _ => 0)
  case atStart => rfl
  case round =>
    subst hrel
    go_wp2_with fail
    go_ret
    exact ⟨rfl, rfl⟩

/-- The string is not empty: in the walk's two spellings. -/
theorem not_empty {s : ByteArray} (h : 0 < s.size) : (s.toList == []) = false ∧ s.toList.isEmpty = false := by
  have e : s.toList ≠ [] := by
    rw [Lib.toList_data]
    intro e
    have hl : s.data.toList.length = s.size := by simp
    rw [e] at hl
    simp only [List.length_nil] at hl
    omega
  exact ⟨beq_eq_false_iff_ne.2 e, by simpa using e⟩

set_option maxRecDepth 100000 in
set_option maxHeartbeats 1000000 in
theorem trim_blank (n : Nat) (w : World) (hn : n ≤ 1000) : Calls Tryd.prog 5 #[.string (blanks n), .string ⟨#[32]⟩] w fun e w' => e = .returned (.string ⟨#[]⟩) ∧ ∃ k, w' = w.drewN k := by
  by_cases h : n = 0
  · subst h
    rw [show blanks 0 = ⟨#[]⟩ from rfl]
    go_enter Tryd.func5, Tryd.ntmps5
    go_wp2_with fail
    go_ret
    exact ⟨rfl, 0, rfl⟩
  · obtain ⟨n1, n2⟩ := not_empty (s := blanks n) (by rw [blanks_size]; omega)
    go_enter Tryd.func5, Tryd.ntmps5
    go_wp2_with fail
    go_quiet ((first | (go_at_call 8; exact Calls.quiet_of_same (trimR_blank n _ hn)) | (go_at_call 7; exact Calls.quiet_of_same (trimL_empty _))))
    go_wp2_with fail
    go_ret
    exact ⟨rfl, _, rfl⟩

end Go.Proofs.YtkjkdiaejmkmfaaDoor
