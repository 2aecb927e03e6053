/-
  Contracts of package num and of the law's own picked and within, over the given translation; no condition but that the numbers are int64's.
-/
import Derived.Test.YtpckomnpeainlaaRows
import Derived.WalkKit
import Derived.WalkSpells
import Derived.WalkLawsBesides
import Derived.Lib.Hide
namespace Go.Proofs.Ytpckomnpeainlaa
open Go.RowKit

theorem ret_int {k : IntKind} {a b : Int} (h : a = b) : Ending.returned (.int k a) = .returned (.int k b) := by rw [h]
theorem ret_tup2 {a b c d : Int} {k l : IntKind} (h : a = c) (g : b = d) : Ending.returned (.tuple #[.int k a, .int l b]) = .returned (.tuple #[.int k c, .int l d]) := by rw [h, g]

/-- What picked gives. -/
def pickL (n many : Int) : Int := if n < 0 then (-(n + 1)) % many else n % many

theorem pickL_lo (n many : Int) (h : 1 ≤ many) : 0 ≤ pickL n many := by
  unfold pickL; split <;> exact Int.emod_nonneg _ (by omega)
theorem pickL_hi (n many : Int) (h : 1 ≤ many) : pickL n many < many := by
  unfold pickL; split <;> exact Int.emod_lt_of_pos _ (by omega)

set_option maxHeartbeats 400000 in
theorem picked_any (n many : Int) (w : World) (h0 : -9223372036854775808 ≤ n) (h1 : n ≤ 9223372036854775807) (hm : 1 ≤ many) (hm' : many ≤ 9223372036854775807) :
    Calls Try.prog 27 #[.int .i64 n, .int .i64 many] w fun e w' => e = .returned (.int .i64 (pickL n many)) ∧ w = w' := by
  by_cases hn : n < 0
  · have hr : Hid (pickL n many = (-(n + 1)) % many) := by unfold pickL; rw [if_pos hn]; rfl
    go_enter Try.func27, Try.ntmps27
    go_wp2
    go_ret
    exact ⟨ret_int (by rw [hr.out, ← Int.neg_tmod, Int.tmod_eq_emod_of_nonneg (by omega)]), rfl⟩
  · have hr : Hid (pickL n many = n % many) := by unfold pickL; rw [if_neg hn]; rfl
    go_enter Try.func27, Try.ntmps27
    go_wp2
    go_ret
    exact ⟨ret_int (by rw [hr.out]), rfl⟩


/-- A number between the two limits. -/
def Lim (n : Int) : Prop := -1099511627776 ≤ n ∧ n ≤ 1099511627776

theorem lim_mk {n : Int} (h : -1099511627776 ≤ n) (k : n ≤ 1099511627776) : Lim n := ⟨h, k⟩

/-- The post of the law's own within: a number between the limits; the world as it was. -/
def SomeLim (w : World) (e : Ending) (w' : World) : Prop := ∃ n : Int, Lim n ∧ e = .returned (.int .i64 n) ∧ w = w'

set_option maxHeartbeats 400000 in
theorem lim_any (n : Int) (w : World) (h0 : -9223372036854775808 ≤ n) (h1 : n ≤ 9223372036854775807) :
    Calls Try.prog 18 #[.int .i64 n] w (SomeLim w) := by
  have p0 := pickL_lo n 2199023255553 (by omega)
  have p1 := pickL_hi n 2199023255553 (by omega)
  go_enter Try.func18, Try.ntmps18
  go_wp2_with (go_at_call 27; refine (picked_any n _ _ h0 h1 (by omega) (by omega)).mono ?_; rintro e w' ⟨rfl, rfl⟩)
  go_ret
  exact ⟨_, ⟨by omega, by omega⟩, rfl, rfl⟩

set_option maxHeartbeats 400000 in
theorem check_ok (n : Int) (w : World) (h0 : -1099511627776 ≤ n) (h1 : n ≤ 1099511627776) :
    Calls Try.prog 48 #[.int .i64 n] w fun e w' => e = .returned (.int .i64 0) ∧ w = w' := by
  go_enter Try.func48, Try.ntmps48
  go_wp2
  go_ret
  exact ⟨rfl, rfl⟩

set_option maxHeartbeats 400000 in
theorem check_over (n : Int) (w : World) (h : n < -1099511627776 ∨ 1099511627776 < n) :
    Calls Try.prog 48 #[.int .i64 n] w fun e w' => e = .returned (.int .i64 7) ∧ w = w' := by
  by_cases h0 : n < -1099511627776
  · clear h
    go_enter Try.func48, Try.ntmps48
    go_wp2
    go_ret
    exact ⟨rfl, rfl⟩
  · have h1 : 1099511627776 < n := by omega
    clear h
    go_enter Try.func48, Try.ntmps48
    go_wp2
    go_ret
    exact ⟨rfl, rfl⟩

/-- num.within at a function that gives n, all in range: n. -/
theorem within_ok (f : Nat) (a b n : Int) (w : World) (ha : Lim a) (hb : Lim b) (hn : Lim n)
    (hcf : (callFunc f #[.int .i64 a, .int .i64 b]).run Try.prog w = .ok (.enter f #[.int .i64 a, .int .i64 b]) w)
    (hf : Calls Try.prog f #[.int .i64 a, .int .i64 b] w fun e w' => e = .returned (.int .i64 n) ∧ w = w') :
    Calls Try.prog 44 #[.int .i64 a, .int .i64 b, .func (.func f) #[] #[]] w fun e w' => e = .returned (.tuple #[.int .i64 n, .int .i64 0]) ∧ w = w' := by
  have HF := Lib.hid hf
  clear hf
  obtain ⟨a0, a1⟩ := ha
  obtain ⟨b0, b1⟩ := hb
  obtain ⟨n0, n1⟩ := hn
  go_enter Try.func44, Try.ntmps44
  go_wp2_with fail
  refine (check_ok a w a0 a1).mono ?_
  rintro e w' ⟨rfl, rfl⟩
  go_wp2_with fail
  refine (check_ok b w b0 b1).mono ?_
  rintro e w' ⟨rfl, rfl⟩
  go_wp2_with fail
  refine (HF.out).mono ?_
  rintro e w' ⟨rfl, rfl⟩
  go_wp2_with fail
  refine (check_ok n w n0 n1).mono ?_
  rintro e w' ⟨rfl, rfl⟩
  go_wp2_with fail
  go_ret2
  exact ⟨rfl, rfl⟩

/-- num.within at a function that gives n, which is out of range: ErrOver. -/
theorem within_over (f : Nat) (a b n : Int) (w : World) (ha : Lim a) (hb : Lim b) (hn : n < -1099511627776 ∨ 1099511627776 < n)
    (hcf : (callFunc f #[.int .i64 a, .int .i64 b]).run Try.prog w = .ok (.enter f #[.int .i64 a, .int .i64 b]) w)
    (hf : Calls Try.prog f #[.int .i64 a, .int .i64 b] w fun e w' => e = .returned (.int .i64 n) ∧ w = w') :
    Calls Try.prog 44 #[.int .i64 a, .int .i64 b, .func (.func f) #[] #[]] w fun e w' => e = .returned (.tuple #[.int .i64 0, .int .i64 7]) ∧ w = w' := by
  have HF := Lib.hid hf
  have HN := Lib.hid hn
  clear hf hn
  obtain ⟨a0, a1⟩ := ha
  obtain ⟨b0, b1⟩ := hb
  go_enter Try.func44, Try.ntmps44
  go_wp2_with fail
  refine (check_ok a w a0 a1).mono ?_
  rintro e w' ⟨rfl, rfl⟩
  go_wp2_with fail
  refine (check_ok b w b0 b1).mono ?_
  rintro e w' ⟨rfl, rfl⟩
  go_wp2_with fail
  refine (HF.out).mono ?_
  rintro e w' ⟨rfl, rfl⟩
  go_wp2_with fail
  refine (check_over n w HN.out).mono ?_
  rintro e w' ⟨rfl, rfl⟩
  go_wp2_with fail
  go_ret2
  exact ⟨rfl, rfl⟩

theorem add1 (a b : Int) (w : World) (ha : Lim a) (hb : Lim b) :
    Calls Try.prog 45 #[.int .i64 a, .int .i64 b] w fun e w' => e = .returned (.int .i64 (a + b)) ∧ w = w' := by
  obtain ⟨a0, a1⟩ := ha
  obtain ⟨b0, b1⟩ := hb
  go_enter Try.func45, Try.ntmps45
  go_wp2
  go_ret
  exact ⟨rfl, rfl⟩

theorem sub1 (a b : Int) (w : World) (ha : Lim a) (hb : Lim b) :
    Calls Try.prog 46 #[.int .i64 a, .int .i64 b] w fun e w' => e = .returned (.int .i64 (a - b)) ∧ w = w' := by
  obtain ⟨a0, a1⟩ := ha
  obtain ⟨b0, b1⟩ := hb
  go_enter Try.func46, Try.ntmps46
  go_wp2
  go_ret
  exact ⟨rfl, rfl⟩

theorem add_ok (a b : Int) (w : World) (ha : Lim a) (hb : Lim b) (hn : Lim (a + b)) :
    Calls Try.prog 19 #[.int .i64 a, .int .i64 b] w fun e w' => e = .returned (.tuple #[.int .i64 (a + b), .int .i64 0]) ∧ w = w' := by
  have H := Lib.hid (within_ok 45 a b (a + b) w ha hb hn (by rfl) (add1 a b w ha hb))
  clear ha hb hn
  go_enter Try.func19, Try.ntmps19
  go_wp2_with fail
  refine H.out.mono ?_
  rintro e w' ⟨rfl, rfl⟩
  go_wp2_with fail
  go_ret2
  exact ⟨rfl, rfl⟩

theorem add_over (a b : Int) (w : World) (ha : Lim a) (hb : Lim b) (hn : a + b < -1099511627776 ∨ 1099511627776 < a + b) :
    Calls Try.prog 19 #[.int .i64 a, .int .i64 b] w fun e w' => e = .returned (.tuple #[.int .i64 0, .int .i64 7]) ∧ w = w' := by
  have H := Lib.hid (within_over 45 a b (a + b) w ha hb hn (by rfl) (add1 a b w ha hb))
  clear ha hb hn
  go_enter Try.func19, Try.ntmps19
  go_wp2_with fail
  refine H.out.mono ?_
  rintro e w' ⟨rfl, rfl⟩
  go_wp2_with fail
  go_ret2
  exact ⟨rfl, rfl⟩

theorem sub_ok (a b : Int) (w : World) (ha : Lim a) (hb : Lim b) (hn : Lim (a - b)) :
    Calls Try.prog 20 #[.int .i64 a, .int .i64 b] w fun e w' => e = .returned (.tuple #[.int .i64 (a - b), .int .i64 0]) ∧ w = w' := by
  have H := Lib.hid (within_ok 46 a b (a - b) w ha hb hn (by rfl) (sub1 a b w ha hb))
  clear ha hb hn
  go_enter Try.func20, Try.ntmps20
  go_wp2_with fail
  refine H.out.mono ?_
  rintro e w' ⟨rfl, rfl⟩
  go_wp2_with fail
  go_ret2
  exact ⟨rfl, rfl⟩

theorem sub_over (a b : Int) (w : World) (ha : Lim a) (hb : Lim b) (hn : a - b < -1099511627776 ∨ 1099511627776 < a - b) :
    Calls Try.prog 20 #[.int .i64 a, .int .i64 b] w fun e w' => e = .returned (.tuple #[.int .i64 0, .int .i64 7]) ∧ w = w' := by
  have H := Lib.hid (within_over 46 a b (a - b) w ha hb hn (by rfl) (sub1 a b w ha hb))
  clear ha hb hn
  go_enter Try.func20, Try.ntmps20
  go_wp2_with fail
  refine H.out.mono ?_
  rintro e w' ⟨rfl, rfl⟩
  go_wp2_with fail
  go_ret2
  exact ⟨rfl, rfl⟩

end Go.Proofs.Ytpckomnpeainlaa
