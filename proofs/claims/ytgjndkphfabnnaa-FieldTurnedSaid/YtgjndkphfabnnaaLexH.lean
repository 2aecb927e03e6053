/-
  Contracts of lex.Key and lex.Name.
-/
import Derived.Test.YtgjndkphfabnnaaLexA
import Derived.Lib.Strings
import Derived.Lib.Walk
import Derived.Deep.Cut
namespace Go.Proofs.Ytgjndkphfabnnaa
open Go.RowKit

theorem word_any2 (c : UInt8) (w : World) : Calls Try.prog 100 #[.int .u8 c.toNat] w fun e w' => e = .returned (.bool (isWord c)) ∧ w = w' := by
  cases h : isLet c with
  | true =>
    have e : Hid (true = isWord c) := by show _ = _; simp [isWord, h]
    have hc := letter_any c
    rw [h] at hc
    have HC := Lib.hid hc
    clear hc h
    go_enter Try.func100, Try.ntmps100
    go_wp2_with fail
    with_reducible refine (HC.out _).mono ?_
    rintro e w' ⟨rfl, rfl⟩
    go_wp2_with fail
    go_ret
    exact ⟨ret_bool e.out, rfl⟩
  | false =>
    have e : Hid (isDig c = isWord c) := by show _ = _; simp [isWord, h]
    have hc := letter_any c
    rw [h] at hc
    have HC := Lib.hid hc
    clear hc h
    go_enter Try.func100, Try.ntmps100
    go_wp2_with fail
    with_reducible refine (HC.out _).mono ?_
    rintro e w' ⟨rfl, rfl⟩
    go_wp2_with fail
    with_reducible refine (digit_any c _).mono ?_
    rintro e w' ⟨rfl, rfl⟩
    go_wp2_with fail
    go_ret
    exact ⟨ret_bool e.out, rfl⟩

def keys : List (List UInt8) := [[97, 110, 100], [111, 114], [110, 111, 116], [116, 114, 117, 101], [102, 97, 108, 115, 101], [105, 102], [108, 101, 110]]
def isKey (l : List UInt8) : Bool := keys.contains l

set_option maxHeartbeats 2000000 in
theorem key_no (s : ByteArray) (w : World) (h : isKey s.data.toList = false) : Calls Try.prog 102 #[.string s] w fun e w' => e = .returned (.bool false) ∧ w = w' := by
  have hn : ∀ k ∈ keys, s.data.toList ≠ k := fun k hk e => by
    have : isKey s.data.toList = true := by unfold isKey; rw [e]; exact List.contains_iff_mem.2 hk
    rw [h] at this; cases this
  have k0 : (s.toList == [97, 110, 100]) = false := by rw [Lib.toList_data]; exact beq_eq_false_iff_ne.2 (hn _ (by decide))
  have k1 : (s.toList == [111, 114]) = false := by rw [Lib.toList_data]; exact beq_eq_false_iff_ne.2 (hn _ (by decide))
  have k2 : (s.toList == [110, 111, 116]) = false := by rw [Lib.toList_data]; exact beq_eq_false_iff_ne.2 (hn _ (by decide))
  have k3 : (s.toList == [116, 114, 117, 101]) = false := by rw [Lib.toList_data]; exact beq_eq_false_iff_ne.2 (hn _ (by decide))
  have k4 : (s.toList == [102, 97, 108, 115, 101]) = false := by rw [Lib.toList_data]; exact beq_eq_false_iff_ne.2 (hn _ (by decide))
  have k5 : (s.toList == [105, 102]) = false := by rw [Lib.toList_data]; exact beq_eq_false_iff_ne.2 (hn _ (by decide))
  have k6 : (s.toList == [108, 101, 110]) = false := by rw [Lib.toList_data]; exact beq_eq_false_iff_ne.2 (hn _ (by decide))
  clear hn h
  go_enter Try.func102, Try.ntmps102
  go_wp2_with fail
  go_ret
  exact ⟨rfl, rfl⟩

set_option maxHeartbeats 2000000 in
theorem key_yes (s : ByteArray) (w : World) (h : isKey s.data.toList = true) : Calls Try.prog 102 #[.string s] w fun e w' => e = .returned (.bool true) ∧ w = w' := by
  have hm : s.data.toList ∈ keys := List.contains_iff_mem.1 h
  clear h
  simp only [keys, List.mem_cons, List.not_mem_nil, or_false] at hm
  rcases hm with h | h | h | h | h | h | h
  · have e : s.toList = [97, 110, 100] := by rw [Lib.toList_data, h]
    have k0 : (s.toList == [97, 110, 100]) = true := by rw [e]; rfl
    clear e h
    go_enter Try.func102, Try.ntmps102
    go_wp2_with fail
    go_ret
    exact ⟨rfl, rfl⟩
  · have e : s.toList = [111, 114] := by rw [Lib.toList_data, h]
    have k0 : (s.toList == [97, 110, 100]) = false := by rw [e]; rfl
    have k1 : (s.toList == [111, 114]) = true := by rw [e]; rfl
    clear e h
    go_enter Try.func102, Try.ntmps102
    go_wp2_with fail
    go_ret
    exact ⟨rfl, rfl⟩
  · have e : s.toList = [110, 111, 116] := by rw [Lib.toList_data, h]
    have k0 : (s.toList == [97, 110, 100]) = false := by rw [e]; rfl
    have k1 : (s.toList == [111, 114]) = false := by rw [e]; rfl
    have k2 : (s.toList == [110, 111, 116]) = true := by rw [e]; rfl
    clear e h
    go_enter Try.func102, Try.ntmps102
    go_wp2_with fail
    go_ret
    exact ⟨rfl, rfl⟩
  · have e : s.toList = [116, 114, 117, 101] := by rw [Lib.toList_data, h]
    have k0 : (s.toList == [97, 110, 100]) = false := by rw [e]; rfl
    have k1 : (s.toList == [111, 114]) = false := by rw [e]; rfl
    have k2 : (s.toList == [110, 111, 116]) = false := by rw [e]; rfl
    have k3 : (s.toList == [116, 114, 117, 101]) = true := by rw [e]; rfl
    clear e h
    go_enter Try.func102, Try.ntmps102
    go_wp2_with fail
    go_ret
    exact ⟨rfl, rfl⟩
  · have e : s.toList = [102, 97, 108, 115, 101] := by rw [Lib.toList_data, h]
    have k0 : (s.toList == [97, 110, 100]) = false := by rw [e]; rfl
    have k1 : (s.toList == [111, 114]) = false := by rw [e]; rfl
    have k2 : (s.toList == [110, 111, 116]) = false := by rw [e]; rfl
    have k3 : (s.toList == [116, 114, 117, 101]) = false := by rw [e]; rfl
    have k4 : (s.toList == [102, 97, 108, 115, 101]) = true := by rw [e]; rfl
    clear e h
    go_enter Try.func102, Try.ntmps102
    go_wp2_with fail
    go_ret
    exact ⟨rfl, rfl⟩
  · have e : s.toList = [105, 102] := by rw [Lib.toList_data, h]
    have k0 : (s.toList == [97, 110, 100]) = false := by rw [e]; rfl
    have k1 : (s.toList == [111, 114]) = false := by rw [e]; rfl
    have k2 : (s.toList == [110, 111, 116]) = false := by rw [e]; rfl
    have k3 : (s.toList == [116, 114, 117, 101]) = false := by rw [e]; rfl
    have k4 : (s.toList == [102, 97, 108, 115, 101]) = false := by rw [e]; rfl
    have k5 : (s.toList == [105, 102]) = true := by rw [e]; rfl
    clear e h
    go_enter Try.func102, Try.ntmps102
    go_wp2_with fail
    go_ret
    exact ⟨rfl, rfl⟩
  · have e : s.toList = [108, 101, 110] := by rw [Lib.toList_data, h]
    have k0 : (s.toList == [97, 110, 100]) = false := by rw [e]; rfl
    have k1 : (s.toList == [111, 114]) = false := by rw [e]; rfl
    have k2 : (s.toList == [110, 111, 116]) = false := by rw [e]; rfl
    have k3 : (s.toList == [116, 114, 117, 101]) = false := by rw [e]; rfl
    have k4 : (s.toList == [102, 97, 108, 115, 101]) = false := by rw [e]; rfl
    have k5 : (s.toList == [105, 102]) = false := by rw [e]; rfl
    have k6 : (s.toList == [108, 101, 110]) = true := by rw [e]; rfl
    clear e h
    go_enter Try.func102, Try.ntmps102
    go_wp2_with fail
    go_ret
    exact ⟨rfl, rfl⟩

/-- A text that may be a name. -/
def NameOk (l : List UInt8) : Prop := 1 ≤ l.length ∧ l.length ≤ 10 ∧ (∃ c, l.head? = some c ∧ isLet c = true) ∧ spanN isWord l = l.length ∧ isKey l = false

def NameBad (w : World) (e : Ending) (w' : World) : Prop := ∃ n : Int, (n = 1 ∨ n = 3) ∧ e = .returned (.int .i64 n) ∧ w = w'
theorem nameBad1 {w : World} {v : Value} (h : v = .int .i64 1) : NameBad w (.returned v) w := ⟨1, .inl rfl, by rw [h], rfl⟩
theorem nameBad3 {w : World} {v : Value} (h : v = .int .i64 3) : NameBad w (.returned v) w := ⟨3, .inr rfl, by rw [h], rfl⟩

set_option maxRecDepth 100000 in
set_option maxHeartbeats 2000000 in
theorem name_yes (s : ByteArray) (w : World) (h : NameOk s.data.toList) : Calls Try.prog 61 #[.string s] w fun e w' => e = .returned (.int .i64 0) ∧ w = w' := by
  obtain ⟨h1, h2, ⟨c, hc, hl⟩, h3, h4⟩ := h
  have hlen : s.data.toList.length = s.size := by simp
  rw [hlen] at h1 h2 h3
  have h0 : 0 < s.size := by omega
  have hd : s.data.toList.head? = some s[0] := by rw [List.head?_eq_getElem?]; exact byte_list s 0 h0
  rw [hd] at hc
  injection hc with hc
  rw [← hc] at hl
  have hlt := letter_any s[0]
  rw [hl] at hlt
  have hsp := fun w => span_any 100 isWord s w (by omega) (fun _ _ => by rfl) (fun c w => word_any2 c w)
  rw [h3] at hsp
  have hk := fun w => key_no s w h4
  have HLT := Lib.hid hlt
  have HSP := Lib.hid hsp
  have HK := Lib.hid hk
  have g1 : (1 : Int) ≤ (s.size : Int) := by omega
  have g2 : (s.size : Int) ≤ 10 := by omega
  clear hlt hsp hk hd hc hl h3 h4 hlen
  go_enter Try.func61, Try.ntmps61
  go_wp2_with fail
  with_reducible refine (HLT.out _).mono ?_
  rintro e w' ⟨rfl, rfl⟩
  go_wp2_with fail
  with_reducible refine (HSP.out _).mono ?_
  rintro e w' ⟨rfl, rfl⟩
  go_wp2_with fail
  with_reducible refine (HK.out _).mono ?_
  rintro e w' ⟨rfl, rfl⟩
  go_wp2_with fail
  go_ret
  exact ⟨rfl, rfl⟩

set_option maxRecDepth 100000 in
set_option maxHeartbeats 4000000 in
theorem name_no (s : ByteArray) (w : World) (hs : s.size ≤ 9223372036854775806) (h : ¬ NameOk s.data.toList) : Calls Try.prog 61 #[.string s] w (NameBad w) := by
  have hlen : s.data.toList.length = s.size := by simp
  by_cases h0 : 0 < s.size
  · by_cases h2 : 10 < s.size
    · have g1 : (1 : Int) ≤ (s.size : Int) := by omega
      have g2 : (10 : Int) < (s.size : Int) := by omega
      clear h hlen h2
      go_enter Try.func61, Try.ntmps61
      go_wp2_with fail
      go_ret
      exact nameBad1 rfl
    · have hd : s.data.toList.head? = some s[0] := by rw [List.head?_eq_getElem?]; exact byte_list s 0 h0
      have g1 : (1 : Int) ≤ (s.size : Int) := by omega
      have g2 : (s.size : Int) ≤ 10 := by omega
      have hlt := letter_any s[0]
      cases hl : isLet s[0] with
      | false =>
        rw [hl] at hlt
        have HLT := Lib.hid hlt
        clear h hlen h2 hd hlt hl
        go_enter Try.func61, Try.ntmps61
        go_wp2_with fail
        with_reducible refine (HLT.out _).mono ?_
        rintro e w' ⟨rfl, rfl⟩
        go_wp2_with fail
        go_ret
        exact nameBad3 rfl
      | true =>
        rw [hl] at hlt
        have HLT := Lib.hid hlt
        clear hlt
        have hsp := fun w => span_any 100 isWord s w (by omega) (fun _ _ => by rfl) (fun c w => word_any2 c w)
        by_cases h3 : spanN isWord s.data.toList < s.size
        · have HSP := Lib.hid hsp
          have g3 : ((spanN isWord s.data.toList : Nat) : Int) < (s.size : Int) := by omega
          clear h hlen h2 hd hl hsp h3
          go_enter Try.func61, Try.ntmps61
          go_wp2_with fail
          with_reducible refine (HLT.out _).mono ?_
          rintro e w' ⟨rfl, rfl⟩
          go_wp2_with fail
          with_reducible refine (HSP.out _).mono ?_
          rintro e w' ⟨rfl, rfl⟩
          go_wp2_with fail
          go_ret
          exact nameBad3 rfl
        · have h3' : spanN isWord s.data.toList = s.size := by have := spanN_le isWord s.data.toList; rw [hlen] at this; omega
          rw [h3'] at hsp
          have HSP := Lib.hid hsp
          have hk : isKey s.data.toList = true := by
            cases hk : isKey s.data.toList with
            | true => rfl
            | false => exact (h ⟨by rw [hlen]; omega, by rw [hlen]; omega, ⟨_, hd, hl⟩, by rw [h3', hlen], hk⟩).elim
          have HK := Lib.hid (fun w => key_yes s w hk)
          clear h hlen h2 hd hl hsp h3 h3' hk
          go_enter Try.func61, Try.ntmps61
          go_wp2_with fail
          with_reducible refine (HLT.out _).mono ?_
          rintro e w' ⟨rfl, rfl⟩
          go_wp2_with fail
          with_reducible refine (HSP.out _).mono ?_
          rintro e w' ⟨rfl, rfl⟩
          go_wp2_with fail
          with_reducible refine (HK.out _).mono ?_
          rintro e w' ⟨rfl, rfl⟩
          go_wp2_with fail
          go_ret
          exact nameBad3 rfl
  · have g1 : (s.size : Int) < 1 := by omega
    clear h hlen h0
    go_enter Try.func61, Try.ntmps61
    go_wp2_with fail
    go_ret
    exact nameBad1 rfl

end Go.Proofs.Ytgjndkphfabnnaa
