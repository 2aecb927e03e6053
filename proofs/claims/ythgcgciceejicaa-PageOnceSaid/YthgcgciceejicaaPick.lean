/-
  Contracts of the law's own picked, of num.Check; the limits of a number.
-/
import Derived.Test.YthgcgciceejicaaRows
import Derived.WalkKit
import Derived.WalkSpells
import Derived.WalkLawsBesides
import Derived.Lib.Hide
namespace Go.Proofs.Ythgcgciceejicaa
open Go.RowKit

theorem ret_int {k : IntKind} {a b : Int} (h : a = b) : Ending.returned (.int k a) = .returned (.int k b) := by rw [h]
theorem ret_tup2 {a b c d : Int} {k l : IntKind} (h : a = c) (g : b = d) : Ending.returned (.tuple #[.int k a, .int l b]) = .returned (.tuple #[.int k c, .int l d]) := by rw [h, g]

/-- What picked gives. -/
def pickL (n many : Int) : Int := if n < 0 then (-(n + 1)) % many else n % many

theorem pickL_lo (n many : Int) (h : 1 ≤ many) : 0 ≤ pickL n many := by
  unfold pickL; split <;> exact Int.emod_nonneg _ (by omega)
theorem pickL_hi (n many : Int) (h : 1 ≤ many) : pickL n many < many := by
  unfold pickL; split <;> exact Int.emod_lt_of_pos _ (by omega)

set_option maxHeartbeats 400000 in
theorem picked_any (n many : Int) (w : World) (h0 : -9223372036854775808 ≤ n) (h1 : n ≤ 9223372036854775807) (hm : 1 ≤ many) (hm' : many ≤ 9223372036854775807) :
    Calls Try.prog 9 #[.int .i64 n, .int .i64 many] w fun e w' => e = .returned (.int .i64 (pickL n many)) ∧ w = w' := by
  by_cases hn : n < 0
  · have hr : Hid (pickL n many = (-(n + 1)) % many) := by unfold pickL; rw [if_pos hn]; rfl
    go_enter Try.func9, Try.ntmps9
    go_wp2
    go_ret
    exact ⟨ret_int (by rw [hr.out, ← Int.neg_tmod, Int.tmod_eq_emod_of_nonneg (by omega)]), rfl⟩
  · have hr : Hid (pickL n many = n % many) := by unfold pickL; rw [if_neg hn]; rfl
    go_enter Try.func9, Try.ntmps9
    go_wp2
    go_ret
    exact ⟨ret_int (by rw [hr.out]), rfl⟩


/-- A number between the two limits. -/
def Lim (n : Int) : Prop := -1099511627776 ≤ n ∧ n ≤ 1099511627776

theorem lim_mk {n : Int} (h : -1099511627776 ≤ n) (k : n ≤ 1099511627776) : Lim n := ⟨h, k⟩

set_option maxHeartbeats 400000 in
theorem check_ok (n : Int) (w : World) (h0 : -1099511627776 ≤ n) (h1 : n ≤ 1099511627776) :
    Calls Try.prog 52 #[.int .i64 n] w fun e w' => e = .returned (.int .i64 0) ∧ w = w' := by
  go_enter Try.func52, Try.ntmps52
  go_wp2
  go_ret
  exact ⟨rfl, rfl⟩

set_option maxHeartbeats 400000 in
theorem check_over (n : Int) (w : World) (h : n < -1099511627776 ∨ 1099511627776 < n) :
    Calls Try.prog 52 #[.int .i64 n] w fun e w' => e = .returned (.int .i64 7) ∧ w = w' := by
  by_cases h0 : n < -1099511627776
  · clear h
    go_enter Try.func52, Try.ntmps52
    go_wp2
    go_ret
    exact ⟨rfl, rfl⟩
  · have h1 : 1099511627776 < n := by omega
    clear h
    go_enter Try.func52, Try.ntmps52
    go_wp2
    go_ret
    exact ⟨rfl, rfl⟩

end Go.Proofs.Ythgcgciceejicaa
