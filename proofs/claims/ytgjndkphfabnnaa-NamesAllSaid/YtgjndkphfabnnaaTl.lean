/-
  Whether two strings are the same, as the program asks it.
-/
import Derived.Test.YtgjndkphfabnnaaLaw
namespace Go.Proofs.Ytgjndkphfabnnaa

/-- Two strings: are they the same? -/
theorem tl_no {a b : ByteArray} (h : a ≠ b) : (a.toList == b.toList) = false := by
  cases hb : a.toList == b.toList with
  | false => rfl
  | true =>
    have := beq_iff_eq.1 hb
    rw [ByteArray.toList_eq, ByteArray.toList_eq] at this
    exact absurd (by cases a; cases b; simp_all) h
theorem tl_yes {a b : ByteArray} (h : a = b) : (a.toList == b.toList) = true := by rw [h]; exact beq_self_eq_true _

theorem tl_dec (a b : ByteArray) : (a.toList == b.toList) = decide (a = b) := by
  by_cases e : a = b
  · rw [tl_yes e, decide_eq_true e]
  · rw [tl_no e, decide_eq_false e]

end Go.Proofs.Ytgjndkphfabnnaa
