/-
  Contracts of package lex, first part: letter, digit, span, number.
-/
import Derived.Test.YtgjndkphfabnnaaBase
import Derived.Test.YtgjndkphfabnnaaLexP
import Derived.IntWalk
namespace Go.Proofs.Ytgjndkphfabnnaa
open Go.RowKit

theorem ret_bool {a b : Bool} (h : a = b) : Ending.returned (.bool a) = .returned (.bool b) := by rw [h]

theorem ret_int8 {k : IntKind} {a b : Int} (h : a = b) : Ending.returned (.int k a) = .returned (.int k b) := by rw [h]

theorem letter_any (c : UInt8) (w : World) : Calls Try.prog 98 #[.int .u8 c.toNat] w fun e w' => e = .returned (.bool (isLet c)) ∧ w = w' := by
  by_cases g : 97 ≤ c.toNat
  · have g' : (97 : Int) ≤ (c.toNat : Int) := by omega
    have e : Hid (decide ((c.toNat : Int) ≤ 122) = isLet c) := by show _ = _; unfold isLet; rw [decide_eq_decide]; omega
    clear g
    go_enter Try.func98, Try.ntmps98
    go_wp2
    go_ret
    exact ⟨ret_bool e.out, rfl⟩
  · have g' : (c.toNat : Int) < 97 := by omega
    have e : Hid (isLet c = false) := by show _ = _; unfold isLet; rw [decide_eq_false_iff_not]; omega
    clear g
    go_enter Try.func98, Try.ntmps98
    go_wp2
    go_ret
    exact ⟨ret_bool e.out.symm, rfl⟩

theorem digit_any (c : UInt8) (w : World) : Calls Try.prog 101 #[.int .u8 c.toNat] w fun e w' => e = .returned (.bool (isDig c)) ∧ w = w' := by
  by_cases g : 48 ≤ c.toNat
  · have g' : (48 : Int) ≤ (c.toNat : Int) := by omega
    have e : Hid (decide ((c.toNat : Int) ≤ 57) = isDig c) := by show _ = _; unfold isDig; rw [decide_eq_decide]; omega
    clear g
    go_enter Try.func101, Try.ntmps101
    go_wp2
    go_ret
    exact ⟨ret_bool e.out, rfl⟩
  · have g' : (c.toNat : Int) < 48 := by omega
    have e : Hid (isDig c = false) := by show _ = _; unfold isDig; rw [decide_eq_false_iff_not]; omega
    clear g
    go_enter Try.func101, Try.ntmps101
    go_wp2
    go_ret
    exact ⟨ret_bool e.out.symm, rfl⟩

/-- What the span is, at its end and on the way. -/
theorem spanN_at (p : UInt8 → Bool) (l : List UInt8) (k : Nat) (c : UInt8) (h : l[k]? = some c) : spanN p (l.drop k) = if p c then spanN p (l.drop (k + 1)) + 1 else 0 := by
  have hk : k < l.length := (List.getElem?_eq_some_iff.1 h).1
  have e : l[k] = c := (List.getElem?_eq_some_iff.1 h).2
  rw [List.drop_eq_getElem_cons hk, e, spanN_cons]
theorem spanN_end (p : UInt8 → Bool) (l : List UInt8) (k : Nat) (h : l.length ≤ k) : spanN p (l.drop k) = 0 := by
  rw [List.drop_eq_nil_of_le h]; rfl

theorem byte_list (s : ByteArray) (k : Nat) (h : k < s.size) : s.data.toList[k]? = some s[k] := by
  rw [List.getElem?_eq_getElem (by simpa using h)]; rfl

set_option maxHeartbeats 1000000 in
theorem span_any (f : Nat) (p : UInt8 → Bool) (s : ByteArray) (w : World) (hs : s.size ≤ 9223372036854775806)
    (hcf : ∀ (c : UInt8) w, (callFunc f #[.int .u8 c.toNat]).run Try.prog w = .ok (.enter f #[.int .u8 c.toNat]) w)
    (hf : ∀ (c : UInt8) w, Calls Try.prog f #[.int .u8 c.toNat] w fun e w' => e = .returned (.bool (p c)) ∧ w = w') :
    Calls Try.prog 99 #[.string s, .func (.func f) #[] #[]] w fun e w' => e = .returned (.int .i64 (spanN p s.data.toList)) ∧ w = w' := by
  have HF := Lib.hid hf
  clear hf
  have HL := Lib.hid (show s.data.toList.length = s.size from by simp)
  go_enter Try.func99, Try.ntmps99
  go_wp2_with fail
  go_loop [5] (fun i => ∃ k : Nat, k ≤ s.size ∧ i = .int .i64 k ∧ spanN p s.data.toList = k + spanN p (s.data.toList.drop k)) (fun i => s.size - (intOf i).toNat)
  case atStart => exact ⟨0, Nat.zero_le _, rfl, by simp⟩
  case round =>
    obtain ⟨k, hk, rfl, hsp⟩ := hrel
    by_cases hlt : k < s.size
    · have hst := spanN_at p s.data.toList k s[k] (byte_list s k hlt)
      have hf := HF.out s[k]
      have hcf' := hcf s[k]
      cases hp : p s[k] with
      | true =>
        rw [hp] at hst hf
        have HS := Lib.hid (show spanN p s.data.toList = (k + 1 : Nat) + spanN p (s.data.toList.drop (k + 1)) from by rw [hsp, hst]; simp; omega)
        have HC := Lib.hid hf
        clear hst hf hsp hp
        go_wp2_with fail
        with_reducible refine (HC.out _).mono ?_
        rintro e w' ⟨rfl, rfl⟩
        go_wp2_with fail
        go_round
        case rel => exact ⟨k + 1, by omega, by go_num, HS.out⟩
        case measure => simp [intOf]; omega
      | false =>
        rw [hp] at hst hf
        have HS := Lib.hid (show spanN p s.data.toList = k from by rw [hsp, hst]; simp)
        have HC := Lib.hid hf
        clear hst hf hsp hp
        go_wp2_with fail
        with_reducible refine (HC.out _).mono ?_
        rintro e w' ⟨rfl, rfl⟩
        go_wp2_with fail
        go_ret
        exact ⟨ret_int8 (by rw [HS.out]), rfl⟩
    · have HS := Lib.hid (show spanN p s.data.toList = k from by rw [hsp, spanN_end _ _ _ (by rw [HL.out]; omega)]; rfl)
      clear hsp
      go_wp2_with fail
      go_ret
      exact ⟨ret_int8 (by rw [HS.out]), rfl⟩

theorem span_all (p : UInt8 → Bool) : ∀ (l : List UInt8) (k : Nat) (c : UInt8), k < spanN p l → l[k]? = some c → p c = true
  | [], k, c, h, _ => by simp [spanN] at h
  | x :: l, 0, c, h, hc => by
    rw [spanN_cons] at h
    simp at hc; subst hc
    cases hp : p x with
    | true => rfl
    | false => rw [hp] at h; simp at h
  | x :: l, k + 1, c, h, hc => by
    rw [spanN_cons] at h
    cases hp : p x with
    | true => rw [hp] at h; simp at h; exact span_all p l k c (by omega) (by simpa using hc)
    | false => rw [hp] at h; simp at h

end Go.Proofs.Ytgjndkphfabnnaa
