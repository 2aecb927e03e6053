/-
  The tokens of a text, in plain Lean: no program in sight. Contracts of package lex, first part: letter, digit, span, number. Contracts of lex.Key and lex.Name.
-/
import Derived.Test.YthgcgciceejicaaBase
import Derived.IntWalk
import Derived.Lib.Strings
import Derived.Lib.Walk
import Derived.Deep.Cut
namespace Go.Proofs.Ythgcgciceejicaa

def isLet (c : UInt8) : Bool := decide (97 ≤ c.toNat ∧ c.toNat ≤ 122)
def isDig (c : UInt8) : Bool := decide (48 ≤ c.toNat ∧ c.toNat ≤ 57)
def isWord (c : UInt8) : Bool := isLet c || isDig c
def spanN (p : UInt8 → Bool) (l : List UInt8) : Nat := (l.takeWhile p).length

theorem spanN_le (p : UInt8 → Bool) (l : List UInt8) : spanN p l ≤ l.length := by
  unfold spanN; exact (List.takeWhile_sublist p).length_le
theorem spanN_cons (p : UInt8 → Bool) (c : UInt8) (l : List UInt8) : spanN p (c :: l) = if p c then spanN p l + 1 else 0 := by
  unfold spanN
  rw [List.takeWhile_cons]
  split <;> simp

structure Tok where
  kd : Int
  s : List UInt8
  vk : Int
  vn : Int
  vs : List UInt8

inductive OneR where
  | tok (t : Tok)
  | err (e : Int)

/-- A number's value; none: over. -/
def numV : List UInt8 → Int → Option Int
  | [], v => some v
  | c :: r, v => if 1099511627776 < 10 * v + ((c.toNat : Int) - 48) then none else numV r (10 * v + ((c.toNat : Int) - 48))

def numberF (l : List UInt8) : OneR :=
  if 1 < spanN isDig l ∧ l.head? = some 48 then .err 3
  else match numV (l.take (spanN isDig l)) 0 with
    | none => .err 7
    | some v => .tok ⟨1, l.take (spanN isDig l), 1, v, []⟩

/-- Behind the quote: how many bytes, and the text. Error 3: of no such form. -/
def quoteGo : List UInt8 → Nat → List UInt8 → Except Int (Nat × List UInt8)
  | [], _, _ => .error 3
  | [c], i, text => if c = 34 then (if 40 < text.length then .error 1 else .ok (i + 1, text)) else .error 3
  | c :: d :: r, i, text =>
    if c = 34 then (if 40 < text.length then .error 1 else .ok (i + 1, text))
    else if c = 92 then (if d = 34 ∨ d = 92 then quoteGo r (i + 2) (text ++ [d]) else .error 3)
    else if c.toNat < 32 ∨ 126 < c.toNat then .error 3 else quoteGo (d :: r) (i + 1) (text ++ [c])

def quoteF (l : List UInt8) : OneR :=
  match quoteGo l.tail 1 [] with
  | .error e => .err e
  | .ok (n, text) => .tok ⟨3, l.take n, 3, 0, text⟩

def signs : List (List UInt8) := [[60, 61], [33, 61], [60], [61], [43], [45], [42], [47], [37], [38], [40], [41], [44]]
def signF (l : List UInt8) : OneR :=
  match signs.find? (fun g => g.isPrefixOf l) with
  | some g => .tok ⟨4, g, 0, 0, []⟩
  | none => .err 3

def oneF : List UInt8 → OneR
  | [] => .err 3
  | c :: r =>
    if isDig c then numberF (c :: r)
    else if isLet c then (if 10 < spanN isWord (c :: r) then .err 1 else .tok ⟨2, (c :: r).take (spanN isWord (c :: r)), 0, 0, []⟩)
    else if c = 34 then quoteF (c :: r)
    else signF (c :: r)

/-- A token and where it stands. -/
structure TokA where
  t : Tok
  at' : Nat

def lexGo : Nat → List UInt8 → Nat → List TokA → Except (Nat × Int) (List TokA)
  | 0, _, _, acc => .ok acc
  | _ + 1, [], _, acc => .ok acc
  | f + 1, c :: r, a, acc =>
    if c = 32 then lexGo f r (a + 1) acc
    else match oneF (c :: r) with
      | .err e => .error (a, e)
      | .tok t => lexGo f ((c :: r).drop t.s.length) (a + t.s.length) (acc ++ [⟨t, a⟩])

def lexF (l : List UInt8) : Except (Nat × Int) (List TokA) := lexGo (l.length + 1) l 0 []

end Go.Proofs.Ythgcgciceejicaa

namespace Go.Proofs.Ythgcgciceejicaa
open Go.RowKit

theorem ret_bool {a b : Bool} (h : a = b) : Ending.returned (.bool a) = .returned (.bool b) := by rw [h]

theorem ret_int8 {k : IntKind} {a b : Int} (h : a = b) : Ending.returned (.int k a) = .returned (.int k b) := by rw [h]

theorem letter_any (c : UInt8) (w : World) : Calls Try.prog 27 #[.int .u8 c.toNat] w fun e w' => e = .returned (.bool (isLet c)) ∧ w = w' := by
  by_cases g : 97 ≤ c.toNat
  · have g' : (97 : Int) ≤ (c.toNat : Int) := by omega
    have e : Hid (decide ((c.toNat : Int) ≤ 122) = isLet c) := by show _ = _; unfold isLet; rw [decide_eq_decide]; omega
    clear g
    go_enter Try.func27, Try.ntmps27
    go_wp2
    go_ret
    exact ⟨ret_bool e.out, rfl⟩
  · have g' : (c.toNat : Int) < 97 := by omega
    have e : Hid (isLet c = false) := by show _ = _; unfold isLet; rw [decide_eq_false_iff_not]; omega
    clear g
    go_enter Try.func27, Try.ntmps27
    go_wp2
    go_ret
    exact ⟨ret_bool e.out.symm, rfl⟩

theorem digit_any (c : UInt8) (w : World) : Calls Try.prog 30 #[.int .u8 c.toNat] w fun e w' => e = .returned (.bool (isDig c)) ∧ w = w' := by
  by_cases g : 48 ≤ c.toNat
  · have g' : (48 : Int) ≤ (c.toNat : Int) := by omega
    have e : Hid (decide ((c.toNat : Int) ≤ 57) = isDig c) := by show _ = _; unfold isDig; rw [decide_eq_decide]; omega
    clear g
    go_enter Try.func30, Try.ntmps30
    go_wp2
    go_ret
    exact ⟨ret_bool e.out, rfl⟩
  · have g' : (c.toNat : Int) < 48 := by omega
    have e : Hid (isDig c = false) := by show _ = _; unfold isDig; rw [decide_eq_false_iff_not]; omega
    clear g
    go_enter Try.func30, Try.ntmps30
    go_wp2
    go_ret
    exact ⟨ret_bool e.out.symm, rfl⟩

/-- What the span is, at its end and on the way. -/
theorem spanN_at (p : UInt8 → Bool) (l : List UInt8) (k : Nat) (c : UInt8) (h : l[k]? = some c) : spanN p (l.drop k) = if p c then spanN p (l.drop (k + 1)) + 1 else 0 := by
  have hk : k < l.length := (List.getElem?_eq_some_iff.1 h).1
  have e : l[k] = c := (List.getElem?_eq_some_iff.1 h).2
  rw [List.drop_eq_getElem_cons hk, e, spanN_cons]
theorem spanN_end (p : UInt8 → Bool) (l : List UInt8) (k : Nat) (h : l.length ≤ k) : spanN p (l.drop k) = 0 := by
  rw [List.drop_eq_nil_of_le h]; rfl

theorem byte_list (s : ByteArray) (k : Nat) (h : k < s.size) : s.data.toList[k]? = some s[k] := by
  rw [List.getElem?_eq_getElem (by simpa using h)]; rfl

set_option maxHeartbeats 1000000 in
theorem span_any (f : Nat) (p : UInt8 → Bool) (s : ByteArray) (w : World) (hs : s.size ≤ 9223372036854775806)
    (hcf : ∀ (c : UInt8) w, (callFunc f #[.int .u8 c.toNat]).run Try.prog w = .ok (.enter f #[.int .u8 c.toNat]) w)
    (hf : ∀ (c : UInt8) w, Calls Try.prog f #[.int .u8 c.toNat] w fun e w' => e = .returned (.bool (p c)) ∧ w = w') :
    Calls Try.prog 28 #[.string s, .func (.func f) #[] #[]] w fun e w' => e = .returned (.int .i64 (spanN p s.data.toList)) ∧ w = w' := by
  have HF := Lib.hid hf
  clear hf
  have HL := Lib.hid (show s.data.toList.length = s.size from by simp)
  go_enter Try.func28, Try.ntmps28
  go_wp2_with fail
  go_loop [5] (fun i => ∃ k : Nat, k ≤ s.size ∧ i = .int .i64 k ∧ spanN p s.data.toList = k + spanN p (s.data.toList.drop k)) (fun i => s.size - (intOf i).toNat)
  case atStart => exact ⟨0, Nat.zero_le _, rfl, by simp⟩
  case round =>
    obtain ⟨k, hk, rfl, hsp⟩ := hrel
    by_cases hlt : k < s.size
    · have hst := spanN_at p s.data.toList k s[k] (byte_list s k hlt)
      have hf := HF.out s[k]
      have hcf' := hcf s[k]
      cases hp : p s[k] with
      | true =>
        rw [hp] at hst hf
        have HS := Lib.hid (show spanN p s.data.toList = (k + 1 : Nat) + spanN p (s.data.toList.drop (k + 1)) from by rw [hsp, hst]; simp; omega)
        have HC := Lib.hid hf
        clear hst hf hsp hp
        go_wp2_with fail
        with_reducible refine (HC.out _).mono ?_
        rintro e w' ⟨rfl, rfl⟩
        go_wp2_with fail
        go_round
        case rel => exact ⟨k + 1, by omega, by go_num, HS.out⟩
        case measure => simp [intOf]; omega
      | false =>
        rw [hp] at hst hf
        have HS := Lib.hid (show spanN p s.data.toList = k from by rw [hsp, hst]; simp)
        have HC := Lib.hid hf
        clear hst hf hsp hp
        go_wp2_with fail
        with_reducible refine (HC.out _).mono ?_
        rintro e w' ⟨rfl, rfl⟩
        go_wp2_with fail
        go_ret
        exact ⟨ret_int8 (by rw [HS.out]), rfl⟩
    · have HS := Lib.hid (show spanN p s.data.toList = k from by rw [hsp, spanN_end _ _ _ (by rw [HL.out]; omega)]; rfl)
      clear hsp
      go_wp2_with fail
      go_ret
      exact ⟨ret_int8 (by rw [HS.out]), rfl⟩

theorem span_all (p : UInt8 → Bool) : ∀ (l : List UInt8) (k : Nat) (c : UInt8), k < spanN p l → l[k]? = some c → p c = true
  | [], k, c, h, _ => by simp [spanN] at h
  | x :: l, 0, c, h, hc => by
    rw [spanN_cons] at h
    simp at hc; subst hc
    cases hp : p x with
    | true => rfl
    | false => rw [hp] at h; simp at h
  | x :: l, k + 1, c, h, hc => by
    rw [spanN_cons] at h
    cases hp : p x with
    | true => rw [hp] at h; simp at h; exact span_all p l k c (by omega) (by simpa using hc)
    | false => rw [hp] at h; simp at h

end Go.Proofs.Ythgcgciceejicaa

namespace Go.Proofs.Ythgcgciceejicaa
open Go.RowKit

theorem word_any2 (c : UInt8) (w : World) : Calls Try.prog 29 #[.int .u8 c.toNat] w fun e w' => e = .returned (.bool (isWord c)) ∧ w = w' := by
  cases h : isLet c with
  | true =>
    have e : Hid (true = isWord c) := by show _ = _; simp [isWord, h]
    have hc := letter_any c
    rw [h] at hc
    have HC := Lib.hid hc
    clear hc h
    go_enter Try.func29, Try.ntmps29
    go_wp2_with fail
    with_reducible refine (HC.out _).mono ?_
    rintro e w' ⟨rfl, rfl⟩
    go_wp2_with fail
    go_ret
    exact ⟨ret_bool e.out, rfl⟩
  | false =>
    have e : Hid (isDig c = isWord c) := by show _ = _; simp [isWord, h]
    have hc := letter_any c
    rw [h] at hc
    have HC := Lib.hid hc
    clear hc h
    go_enter Try.func29, Try.ntmps29
    go_wp2_with fail
    with_reducible refine (HC.out _).mono ?_
    rintro e w' ⟨rfl, rfl⟩
    go_wp2_with fail
    with_reducible refine (digit_any c _).mono ?_
    rintro e w' ⟨rfl, rfl⟩
    go_wp2_with fail
    go_ret
    exact ⟨ret_bool e.out, rfl⟩

def keys : List (List UInt8) := [[97, 110, 100], [111, 114], [110, 111, 116], [116, 114, 117, 101], [102, 97, 108, 115, 101], [105, 102], [108, 101, 110]]
def isKey (l : List UInt8) : Bool := keys.contains l

set_option maxHeartbeats 2000000 in
theorem key_no (s : ByteArray) (w : World) (h : isKey s.data.toList = false) : Calls Try.prog 31 #[.string s] w fun e w' => e = .returned (.bool false) ∧ w = w' := by
  have hn : ∀ k ∈ keys, s.data.toList ≠ k := fun k hk e => by
    have : isKey s.data.toList = true := by unfold isKey; rw [e]; exact List.contains_iff_mem.2 hk
    rw [h] at this; cases this
  have k0 : (s.toList == [97, 110, 100]) = false := by rw [Lib.toList_data]; exact beq_eq_false_iff_ne.2 (hn _ (by decide))
  have k1 : (s.toList == [111, 114]) = false := by rw [Lib.toList_data]; exact beq_eq_false_iff_ne.2 (hn _ (by decide))
  have k2 : (s.toList == [110, 111, 116]) = false := by rw [Lib.toList_data]; exact beq_eq_false_iff_ne.2 (hn _ (by decide))
  have k3 : (s.toList == [116, 114, 117, 101]) = false := by rw [Lib.toList_data]; exact beq_eq_false_iff_ne.2 (hn _ (by decide))
  have k4 : (s.toList == [102, 97, 108, 115, 101]) = false := by rw [Lib.toList_data]; exact beq_eq_false_iff_ne.2 (hn _ (by decide))
  have k5 : (s.toList == [105, 102]) = false := by rw [Lib.toList_data]; exact beq_eq_false_iff_ne.2 (hn _ (by decide))
  have k6 : (s.toList == [108, 101, 110]) = false := by rw [Lib.toList_data]; exact beq_eq_false_iff_ne.2 (hn _ (by decide))
  clear hn h
  go_enter Try.func31, Try.ntmps31
  go_wp2_with fail
  go_ret
  exact ⟨rfl, rfl⟩

set_option maxHeartbeats 2000000 in
theorem key_yes (s : ByteArray) (w : World) (h : isKey s.data.toList = true) : Calls Try.prog 31 #[.string s] w fun e w' => e = .returned (.bool true) ∧ w = w' := by
  have hm : s.data.toList ∈ keys := List.contains_iff_mem.1 h
  clear h
  simp only [keys, List.mem_cons, List.not_mem_nil, or_false] at hm
  rcases hm with h | h | h | h | h | h | h
  · have e : s.toList = [97, 110, 100] := by rw [Lib.toList_data, h]
    have k0 : (s.toList == [97, 110, 100]) = true := by rw [e]; rfl
    clear e h
    go_enter Try.func31, Try.ntmps31
    go_wp2_with fail
    go_ret
    exact ⟨rfl, rfl⟩
  · have e : s.toList = [111, 114] := by rw [Lib.toList_data, h]
    have k0 : (s.toList == [97, 110, 100]) = false := by rw [e]; rfl
    have k1 : (s.toList == [111, 114]) = true := by rw [e]; rfl
    clear e h
    go_enter Try.func31, Try.ntmps31
    go_wp2_with fail
    go_ret
    exact ⟨rfl, rfl⟩
  · have e : s.toList = [110, 111, 116] := by rw [Lib.toList_data, h]
    have k0 : (s.toList == [97, 110, 100]) = false := by rw [e]; rfl
    have k1 : (s.toList == [111, 114]) = false := by rw [e]; rfl
    have k2 : (s.toList == [110, 111, 116]) = true := by rw [e]; rfl
    clear e h
    go_enter Try.func31, Try.ntmps31
    go_wp2_with fail
    go_ret
    exact ⟨rfl, rfl⟩
  · have e : s.toList = [116, 114, 117, 101] := by rw [Lib.toList_data, h]
    have k0 : (s.toList == [97, 110, 100]) = false := by rw [e]; rfl
    have k1 : (s.toList == [111, 114]) = false := by rw [e]; rfl
    have k2 : (s.toList == [110, 111, 116]) = false := by rw [e]; rfl
    have k3 : (s.toList == [116, 114, 117, 101]) = true := by rw [e]; rfl
    clear e h
    go_enter Try.func31, Try.ntmps31
    go_wp2_with fail
    go_ret
    exact ⟨rfl, rfl⟩
  · have e : s.toList = [102, 97, 108, 115, 101] := by rw [Lib.toList_data, h]
    have k0 : (s.toList == [97, 110, 100]) = false := by rw [e]; rfl
    have k1 : (s.toList == [111, 114]) = false := by rw [e]; rfl
    have k2 : (s.toList == [110, 111, 116]) = false := by rw [e]; rfl
    have k3 : (s.toList == [116, 114, 117, 101]) = false := by rw [e]; rfl
    have k4 : (s.toList == [102, 97, 108, 115, 101]) = true := by rw [e]; rfl
    clear e h
    go_enter Try.func31, Try.ntmps31
    go_wp2_with fail
    go_ret
    exact ⟨rfl, rfl⟩
  · have e : s.toList = [105, 102] := by rw [Lib.toList_data, h]
    have k0 : (s.toList == [97, 110, 100]) = false := by rw [e]; rfl
    have k1 : (s.toList == [111, 114]) = false := by rw [e]; rfl
    have k2 : (s.toList == [110, 111, 116]) = false := by rw [e]; rfl
    have k3 : (s.toList == [116, 114, 117, 101]) = false := by rw [e]; rfl
    have k4 : (s.toList == [102, 97, 108, 115, 101]) = false := by rw [e]; rfl
    have k5 : (s.toList == [105, 102]) = true := by rw [e]; rfl
    clear e h
    go_enter Try.func31, Try.ntmps31
    go_wp2_with fail
    go_ret
    exact ⟨rfl, rfl⟩
  · have e : s.toList = [108, 101, 110] := by rw [Lib.toList_data, h]
    have k0 : (s.toList == [97, 110, 100]) = false := by rw [e]; rfl
    have k1 : (s.toList == [111, 114]) = false := by rw [e]; rfl
    have k2 : (s.toList == [110, 111, 116]) = false := by rw [e]; rfl
    have k3 : (s.toList == [116, 114, 117, 101]) = false := by rw [e]; rfl
    have k4 : (s.toList == [102, 97, 108, 115, 101]) = false := by rw [e]; rfl
    have k5 : (s.toList == [105, 102]) = false := by rw [e]; rfl
    have k6 : (s.toList == [108, 101, 110]) = true := by rw [e]; rfl
    clear e h
    go_enter Try.func31, Try.ntmps31
    go_wp2_with fail
    go_ret
    exact ⟨rfl, rfl⟩

/-- A text that may be a name. -/
def NameOk (l : List UInt8) : Prop := 1 ≤ l.length ∧ l.length ≤ 10 ∧ (∃ c, l.head? = some c ∧ isLet c = true) ∧ spanN isWord l = l.length ∧ isKey l = false

def NameBad (w : World) (e : Ending) (w' : World) : Prop := ∃ n : Int, (n = 1 ∨ n = 3) ∧ e = .returned (.int .i64 n) ∧ w = w'
theorem nameBad1 {w : World} {v : Value} (h : v = .int .i64 1) : NameBad w (.returned v) w := ⟨1, .inl rfl, by rw [h], rfl⟩
theorem nameBad3 {w : World} {v : Value} (h : v = .int .i64 3) : NameBad w (.returned v) w := ⟨3, .inr rfl, by rw [h], rfl⟩

set_option maxRecDepth 100000 in
set_option maxHeartbeats 2000000 in
theorem name_yes (s : ByteArray) (w : World) (h : NameOk s.data.toList) : Calls Try.prog 15 #[.string s] w fun e w' => e = .returned (.int .i64 0) ∧ w = w' := by
  obtain ⟨h1, h2, ⟨c, hc, hl⟩, h3, h4⟩ := h
  have hlen : s.data.toList.length = s.size := by simp
  rw [hlen] at h1 h2 h3
  have h0 : 0 < s.size := by omega
  have hd : s.data.toList.head? = some s[0] := by rw [List.head?_eq_getElem?]; exact byte_list s 0 h0
  rw [hd] at hc
  injection hc with hc
  rw [← hc] at hl
  have hlt := letter_any s[0]
  rw [hl] at hlt
  have hsp := fun w => span_any 29 isWord s w (by omega) (fun _ _ => by rfl) (fun c w => word_any2 c w)
  rw [h3] at hsp
  have hk := fun w => key_no s w h4
  have HLT := Lib.hid hlt
  have HSP := Lib.hid hsp
  have HK := Lib.hid hk
  have g1 : (1 : Int) ≤ (s.size : Int) := by omega
  have g2 : (s.size : Int) ≤ 10 := by omega
  clear hlt hsp hk hd hc hl h3 h4 hlen
  go_enter Try.func15, Try.ntmps15
  go_wp2_with fail
  with_reducible refine (HLT.out _).mono ?_
  rintro e w' ⟨rfl, rfl⟩
  go_wp2_with fail
  with_reducible refine (HSP.out _).mono ?_
  rintro e w' ⟨rfl, rfl⟩
  go_wp2_with fail
  with_reducible refine (HK.out _).mono ?_
  rintro e w' ⟨rfl, rfl⟩
  go_wp2_with fail
  go_ret
  exact ⟨rfl, rfl⟩

set_option maxRecDepth 100000 in
set_option maxHeartbeats 4000000 in
theorem name_no (s : ByteArray) (w : World) (hs : s.size ≤ 9223372036854775806) (h : ¬ NameOk s.data.toList) : Calls Try.prog 15 #[.string s] w (NameBad w) := by
  have hlen : s.data.toList.length = s.size := by simp
  by_cases h0 : 0 < s.size
  · by_cases h2 : 10 < s.size
    · have g1 : (1 : Int) ≤ (s.size : Int) := by omega
      have g2 : (10 : Int) < (s.size : Int) := by omega
      clear h hlen h2
      go_enter Try.func15, Try.ntmps15
      go_wp2_with fail
      go_ret
      exact nameBad1 rfl
    · have hd : s.data.toList.head? = some s[0] := by rw [List.head?_eq_getElem?]; exact byte_list s 0 h0
      have g1 : (1 : Int) ≤ (s.size : Int) := by omega
      have g2 : (s.size : Int) ≤ 10 := by omega
      have hlt := letter_any s[0]
      cases hl : isLet s[0] with
      | false =>
        rw [hl] at hlt
        have HLT := Lib.hid hlt
        clear h hlen h2 hd hlt hl
        go_enter Try.func15, Try.ntmps15
        go_wp2_with fail
        with_reducible refine (HLT.out _).mono ?_
        rintro e w' ⟨rfl, rfl⟩
        go_wp2_with fail
        go_ret
        exact nameBad3 rfl
      | true =>
        rw [hl] at hlt
        have HLT := Lib.hid hlt
        clear hlt
        have hsp := fun w => span_any 29 isWord s w (by omega) (fun _ _ => by rfl) (fun c w => word_any2 c w)
        by_cases h3 : spanN isWord s.data.toList < s.size
        · have HSP := Lib.hid hsp
          have g3 : ((spanN isWord s.data.toList : Nat) : Int) < (s.size : Int) := by omega
          clear h hlen h2 hd hl hsp h3
          go_enter Try.func15, Try.ntmps15
          go_wp2_with fail
          with_reducible refine (HLT.out _).mono ?_
          rintro e w' ⟨rfl, rfl⟩
          go_wp2_with fail
          with_reducible refine (HSP.out _).mono ?_
          rintro e w' ⟨rfl, rfl⟩
          go_wp2_with fail
          go_ret
          exact nameBad3 rfl
        · have h3' : spanN isWord s.data.toList = s.size := by have := spanN_le isWord s.data.toList; rw [hlen] at this; omega
          rw [h3'] at hsp
          have HSP := Lib.hid hsp
          have hk : isKey s.data.toList = true := by
            cases hk : isKey s.data.toList with
            | true => rfl
            | false => exact (h ⟨by rw [hlen]; omega, by rw [hlen]; omega, ⟨_, hd, hl⟩, by rw [h3', hlen], hk⟩).elim
          have HK := Lib.hid (fun w => key_yes s w hk)
          clear h hlen h2 hd hl hsp h3 h3' hk
          go_enter Try.func15, Try.ntmps15
          go_wp2_with fail
          with_reducible refine (HLT.out _).mono ?_
          rintro e w' ⟨rfl, rfl⟩
          go_wp2_with fail
          with_reducible refine (HSP.out _).mono ?_
          rintro e w' ⟨rfl, rfl⟩
          go_wp2_with fail
          with_reducible refine (HK.out _).mono ?_
          rintro e w' ⟨rfl, rfl⟩
          go_wp2_with fail
          go_ret
          exact nameBad3 rfl
  · have g1 : (s.size : Int) < 1 := by omega
    clear h hlen h0
    go_enter Try.func15, Try.ntmps15
    go_wp2_with fail
    go_ret
    exact nameBad1 rfl

end Go.Proofs.Ythgcgciceejicaa
