/-
  Plain laws of the order of numbers and of strings of bytes; no program in sight. Contracts of package value, as far as the values of a type go, and of the law's own clean and Value.
-/
import GoSem.Op.String
import Derived.Test.YthgcgciceejicaaPick
import Derived.Test.YthgcgciceejicaaBase
namespace Go.Proofs.Ythgcgciceejicaa

theorem bl_irrefl : ∀ (x : List UInt8), Op.bytesLess x x = false
  | [] => rfl
  | a :: x => by
    have := bl_irrefl x
    simp [Op.bytesLess, this, UInt8.lt_irrefl]

theorem bl_cons (a b : UInt8) (x y : List UInt8) : Op.bytesLess (a :: x) (b :: y) = true ↔ a < b ∨ (a = b ∧ Op.bytesLess x y = true) := by
  simp [Op.bytesLess]

theorem bl_trans : ∀ (x y z : List UInt8), Op.bytesLess x y = true → Op.bytesLess y z = true → Op.bytesLess x z = true
  | _, [], _, h, _ => by cases ‹List UInt8› <;> simp [Op.bytesLess] at h
  | _, _ :: _, [], _, h => by simp [Op.bytesLess] at h
  | [], _ :: _, _ :: _, _, _ => rfl
  | a :: x, b :: y, c :: z, h, k => by
    rw [bl_cons] at *
    rcases h with h | ⟨rfl, h⟩ <;> rcases k with k | ⟨rfl, k⟩
    · exact .inl (UInt8.lt_trans h k)
    · exact .inl h
    · exact .inl k
    · exact .inr ⟨rfl, bl_trans x y z h k⟩

theorem bl_total : ∀ (x y : List UInt8), Op.bytesLess x y = true ∨ x = y ∨ Op.bytesLess y x = true
  | [], [] => .inr (.inl rfl)
  | [], _ :: _ => .inl rfl
  | _ :: _, [] => .inr (.inr rfl)
  | a :: x, b :: y => by
    rw [bl_cons, bl_cons]
    rcases UInt8.lt_or_lt_of_ne (a := a) (b := b) |> fun h => (Classical.em (a = b)).symm.imp_left h with h | h
    · rcases h with h | h
      · exact .inl (.inl h)
      · exact .inr (.inr (.inl h))
    · subst h
      rcases bl_total x y with h | h | h
      · exact .inl (.inr ⟨rfl, h⟩)
      · exact .inr (.inl (by rw [h]))
      · exact .inr (.inr (.inr ⟨rfl, h⟩))

def cmpI (a b : Int) : Int := if a < b then -1 else if b < a then 1 else 0
def cmpL (x y : List UInt8) : Int := if Op.bytesLess x y = true then -1 else if x = y then 0 else 1

theorem cmpI_neg (a b : Int) : cmpI b a = -cmpI a b := by unfold cmpI; repeat' split <;> omega
theorem cmpI_zero (a b : Int) : cmpI a b = 0 ↔ a = b := by unfold cmpI; repeat' split <;> omega

theorem cmpL_neg (x y : List UInt8) : cmpL y x = -cmpL x y := by
  unfold cmpL
  by_cases h : x = y
  · subst h; simp [bl_irrefl]
  · have h' : ¬ y = x := fun e => h e.symm
    rw [if_neg h, if_neg h']
    rcases bl_total x y with k | k | k
    · have : Op.bytesLess y x = false := by
        cases e : Op.bytesLess y x with
        | false => rfl
        | true => have := bl_trans x y x k e; rw [bl_irrefl] at this; cases this
      simp [k, this]
    · exact (h k).elim
    · have : Op.bytesLess x y = false := by
        cases e : Op.bytesLess x y with
        | false => rfl
        | true => have := bl_trans y x y k e; rw [bl_irrefl] at this; cases this
      simp [k, this]
theorem cmpL_zero (x y : List UInt8) : cmpL x y = 0 ↔ x = y := by
  unfold cmpL
  by_cases h : x = y
  · subst h; simp [bl_irrefl]
  · rw [if_neg h]; split <;> simp [h]

/-- Values of one type are in the order of their numbers, then of their texts. -/
def orI (a b : Int) : Int := if a = 0 then b else a
def cmpV (n m : Int) (x y : List UInt8) : Int := orI (cmpI n m) (cmpL x y)

theorem cmpV_neg (n m : Int) (x y : List UInt8) : cmpV m n y x = -cmpV n m x y := by
  unfold cmpV orI
  rw [cmpI_neg n m, cmpL_neg x y]
  split <;> split <;> omega
theorem cmpV_zero (n m : Int) (x y : List UInt8) : cmpV n m x y = 0 ↔ n = m ∧ x = y := by
  unfold cmpV orI
  split
  · rename_i h; rw [cmpL_zero]; rw [cmpI_zero] at h; simp [h]
  · rename_i h; rw [cmpI_zero] at h; rw [cmpI_zero]; simp [h]

theorem cmpV_bd (n m : Int) (x y : List UInt8) : -1 ≤ cmpV n m x y ∧ cmpV n m x y ≤ 1 := by
  unfold cmpV orI cmpI cmpL
  repeat' split
  all_goals omega

/-- No value is before or with a second one, and that before or with a third, while it is behind the third. -/
theorem cmpV_trans (a b c : Int) (x y z : List UInt8) (h : cmpV a b x y ≤ 0) (k : cmpV b c y z ≤ 0) : cmpV a c x z ≤ 0 := by
  have key : ∀ (n m : Int) (p q : List UInt8), cmpV n m p q ≤ 0 ↔ n < m ∨ (n = m ∧ (Op.bytesLess p q = true ∨ p = q)) := by
    intro n m p q
    unfold cmpV orI cmpI cmpL
    by_cases e1 : n < m
    · simp [e1]
    · by_cases e2 : m < n
      · simp [e1, e2]; omega
      · have : n = m := by omega
        subst this
        by_cases e3 : Op.bytesLess p q = true
        · simp [e3]
        · by_cases e4 : p = q
          · simp [e4, bl_irrefl]
          · simp [e3, e4]
  rw [key] at *
  rcases h with h | ⟨rfl, h⟩ <;> rcases k with k | ⟨rfl, k⟩
  · left; omega
  · left; omega
  · left; omega
  · right
    refine ⟨rfl, ?_⟩
    rcases h with h | rfl
    · rcases k with k | rfl
      · exact .inl (bl_trans _ _ _ h k)
      · exact .inl h
    · exact k

end Go.Proofs.Ythgcgciceejicaa

namespace Go.Proofs.Ythgcgciceejicaa
open Go.RowKit

/-- A value of a type: an Int within the limits, a Bool, or a Text of at most forty signs that may stand there. -/
def KnownV (k n : Int) (s : ByteArray) : Prop :=
  (k = 1 ∧ Lim n ∧ s = ⟨#[]⟩) ∨ (k = 2 ∧ (n = 0 ∨ n = 1) ∧ s = ⟨#[]⟩) ∨ (k = 3 ∧ n = 0 ∧ s.size ≤ 40 ∧ ∀ i (h : i < s.size), 32 ≤ s[i].toNat ∧ s[i].toNat ≤ 126)

set_option maxHeartbeats 400000 in
theorem check_text (s : ByteArray) (w : World) (hs : s.size ≤ 40) (hc : ∀ i (h : i < s.size), 32 ≤ s[i].toNat ∧ s[i].toNat ≤ 126) :
    Calls Try.prog 53 #[.string s] w fun e w' => e = .returned (.int .i64 0) ∧ w = w' := by
  have HC := Lib.hid hc
  clear hc
  go_enter Try.func53, Try.ntmps53
  go_wp2
  go_loop [9] (fun i => ∃ k : Nat, k ≤ s.size ∧ i = .int .i64 k) (fun i => s.size - (intOf i).toNat)
  case atStart => exact ⟨0, Nat.zero_le _, rfl⟩
  case round =>
    obtain ⟨k, hk, rfl⟩ := hrel
    by_cases hlt : k < s.size
    · obtain ⟨b0, b1⟩ := HC.out k hlt
      have c0 : (32 : Int) ≤ (s[k].toNat : Int) := by omega
      have c1 : (s[k].toNat : Int) ≤ 126 := by omega
      clear b0 b1
      go_wp2
      go_round
      case rel => exact ⟨k + 1, by omega, by go_num⟩
      case measure => simp [intOf]; omega
    · go_wp2
      go_ret
      exact ⟨rfl, rfl⟩

set_option maxHeartbeats 400000 in
theorem value_check_int (n : Int) (w : World) (h : Lim n) :
    Calls Try.prog 51 #[.agg #[.int .i64 1, .int .i64 n, .string ⟨#[]⟩]] w (Gives (.int .i64 0) w) := by
  obtain ⟨h0, h1⟩ := h
  go_enter Try.func51, Try.ntmps51
  go_wp2_with fail
  with_reducible refine (check_ok n _ h0 h1).mono ?_
  rintro e w' ⟨rfl, rfl⟩
  go_wp2_with fail
  go_ret
  exact ⟨rfl, (Below.refl _ _).alloc (Nat.le_refl _) _⟩

set_option maxHeartbeats 400000 in
theorem value_check_bool (n : Int) (w : World) (h : n = 0 ∨ n = 1) :
    Calls Try.prog 51 #[.agg #[.int .i64 2, .int .i64 n, .string ⟨#[]⟩]] w (Gives (.int .i64 0) w) := by
  rcases h with rfl | rfl
  all_goals
    go_enter Try.func51, Try.ntmps51
    go_wp2_with fail
    go_ret
    exact ⟨rfl, (Below.refl _ _).alloc (Nat.le_refl _) _⟩

set_option maxHeartbeats 400000 in
theorem value_check_text (s : ByteArray) (w : World) (hs : s.size ≤ 40) (hc : ∀ i (h : i < s.size), 32 ≤ s[i].toNat ∧ s[i].toNat ≤ 126) :
    Calls Try.prog 51 #[.agg #[.int .i64 3, .int .i64 0, .string s]] w (Gives (.int .i64 0) w) := by
  have HC := Lib.hid hc
  clear hc
  go_enter Try.func51, Try.ntmps51
  go_wp2_with fail
  with_reducible refine (check_text s _ hs HC.out).mono ?_
  rintro e w' ⟨rfl, rfl⟩
  go_wp2_with fail
  go_ret
  exact ⟨rfl, (Below.refl _ _).alloc (Nat.le_refl _) _⟩

theorem value_check (k n : Int) (s : ByteArray) (w : World) (h : KnownV k n s) :
    Calls Try.prog 51 #[.agg #[.int .i64 k, .int .i64 n, .string s]] w (Gives (.int .i64 0) w) := by
  rcases h with ⟨rfl, h, rfl⟩ | ⟨rfl, h, rfl⟩ | ⟨rfl, rfl, h, g⟩
  · exact value_check_int n w h
  · exact value_check_bool n w h
  · exact value_check_text s w h g

theorem known_kind {k n : Int} {s : ByteArray} (h : KnownV k n s) : 1 ≤ k ∧ k ≤ 3 := by
  rcases h with ⟨rfl, _⟩ | ⟨rfl, _⟩ | ⟨rfl, _⟩ <;> omega

set_option maxHeartbeats 400000 in
theorem known_true (k n : Int) (s : ByteArray) (w : World) (h : KnownV k n s) :
    Calls Try.prog 50 #[.agg #[.int .i64 k, .int .i64 n, .string s]] w (Gives (.bool true) w) := by
  have H := Lib.hid h
  obtain ⟨k0, k1⟩ := known_kind h
  clear h
  go_enter Try.func50, Try.ntmps50
  go_wp2_with fail
  with_reducible refine (value_check k n s _ H.out).mono ?_
  rintro e w' ⟨rfl, hb⟩
  go_wp2_with fail
  go_ret
  exact ⟨rfl, below_box hb⟩

end Go.Proofs.Ythgcgciceejicaa
