/-
  A formula as it is printed, in plain Lean: its tokens, and that they are read as the formula.
-/
import Derived.Test.YthplkompdehjlaaGreatDoorPrsP
import Derived.Test.YthplkompdehjlaaGreatDoorShowP
import Derived.Test.YthplkompdehjlaaGreatDoorLexR
namespace Go.Proofs.YthplkompdehjlaaGreatDoor
open Go.RowKit
set_option linter.unusedVariables false

/-! ### Printing -/
def commaB : List (List UInt8) → List UInt8
  | [] => []
  | [p] => p
  | p :: q :: r => p ++ 44 :: 32 :: commaB (q :: r)
def shwL (k n : Int) (s : ByteArray) : List UInt8 := (showV ⟨k, n, s⟩).data.toList
def bdB (op k n : Int) (s nm : ByteArray) (ps : List (List UInt8)) : List UInt8 :=
  if op = 1 then shwL k n s else if op = 2 then nm.data.toList else if lvO op = 7 then sgL op ++ 40 :: (commaB ps ++ [41])
  else if op = 3 then 45 :: ps.headD [] else if op = 4 then 110 :: 111 :: 116 :: 32 :: ps.headD [] else ps.headD [] ++ 32 :: (sgL op ++ 32 :: ps.tail.headD [])
def brB (b : Prop) [Decidable b] (l : List UInt8) : List UInt8 := if b then 40 :: (l ++ [41]) else l
mutual
def prt : Ex → Nat → List UInt8
  | .mk op k n s nm args, l => brB (lvO op < l) (bdB op k n s nm (prtL args (lvsO op)))
def prtL : List Ex → List Nat → List (List UInt8)
  | [], _ => []
  | x :: r, ls => prt x (ls.headD 1) :: prtL r ls.tail
end
theorem prtL_nil : ∀ l : List Ex, prtL l [] = l.map (prt · 1)
  | [] => by rw [prtL]; rfl
  | x :: l => by rw [prtL]; show prt x 1 :: prtL l [] = _; rw [prtL_nil l]; rfl
theorem tkL_nil (sh : Int → Int → ByteArray → List UInt8) : ∀ l : List Ex, tkL sh l [] = l.map (tkE sh · 1)
  | [] => by rw [tkL]; rfl
  | x :: l => by rw [tkL]; show tkE sh x 1 :: tkL sh l [] = _; rw [tkL_nil sh l]; rfl

/-! ### A text that gives these tokens, if what follows is such -/
def LexTo (C : List UInt8 → Prop) (l : List UInt8) (ts : List Tok) : Prop := ∀ r, C r → ∀ f a acc, (l ++ r).length < f → ∃ us f', us.map (·.t) = ts ∧ r.length < f' ∧ lexGo f (l ++ r) a acc = lexGo f' r (a + l.length) (acc ++ us)
def Any1 (_ : List UInt8) : Prop := True
/-- No letter or digit follows. -/
def NoW (r : List UInt8) : Prop := ∀ c, r.head? = some c → isWord c = false
theorem NoW.sep {c : UInt8} (h : c = 32 ∨ c = 40 ∨ c = 41 ∨ c = 44) (r : List UInt8) : NoW (c :: r) := by
  intro d hd
  simp only [List.head?_cons, Option.some.injEq] at hd
  subst hd
  rcases h with rfl | rfl | rfl | rfl <;> decide
theorem LexTo.app {C C' : List UInt8 → Prop} {l l' : List UInt8} {ts ts' : List Tok} (h : LexTo C l ts) (h' : LexTo C' l' ts') (hc : ∀ r, C' r → C (l' ++ r)) : LexTo C' (l ++ l') (ts ++ ts') := by
  intro r hr f a acc hf
  rw [List.append_assoc] at hf ⊢
  obtain ⟨us, f1, e1, hf1, h1⟩ := h _ (hc r hr) f a acc hf
  obtain ⟨vs, f2, e2, hf2, h2⟩ := h' r hr f1 (a + l.length) (acc ++ us) hf1
  exact ⟨us ++ vs, f2, by rw [List.map_append, e1, e2], hf2, by rw [h1, h2, List.length_append, List.append_assoc, Nat.add_assoc]⟩
theorem LexTo.mono {C C' : List UInt8 → Prop} {l : List UInt8} {ts : List Tok} (h : LexTo C l ts) (hc : ∀ r, C' r → C r) : LexTo C' l ts := fun r hr => h r (hc r hr)
theorem LexTo.nil : LexTo Any1 [] [] := fun r _ f a acc hf => ⟨[], f, rfl, hf, by simp⟩
theorem LexTo.blank : LexTo Any1 [32] [] := by
  intro r _ f a acc hf
  obtain ⟨g, rfl⟩ : ∃ g, f = g + 1 := ⟨f - 1, by simp at hf; omega⟩
  refine ⟨[], g, rfl, by simp at hf; omega, ?_⟩
  show lexGo (g + 1) (32 :: r) a acc = _
  rw [lexGo, if_pos rfl, List.append_nil]; rfl
theorem LexTo.one {C : List UInt8 → Prop} {t : Tok} {c : UInt8} {q : List UInt8} (hs : t.s = c :: q) (h0 : c ≠ 32) (h : ∀ r, C r → oneF ((c :: q) ++ r) = .tok t) : LexTo C (c :: q) [t] := by
  intro r hr f a acc hf
  obtain ⟨g, rfl⟩ : ∃ g, f = g + 1 := ⟨f - 1, by omega⟩
  have ho := h r hr
  refine ⟨[⟨t, a⟩], g, rfl, by simp at hf; omega, ?_⟩
  rw [List.cons_append] at ho ⊢
  rw [lexGo, if_neg h0, ho]
  show lexGo g (List.drop t.s.length _) (a + t.s.length) _ = _
  rw [hs, ← List.cons_append, List.drop_left]

theorem span_app (p : UInt8 → Bool) : ∀ (w r : List UInt8), spanN p w = w.length → (∀ c, r.head? = some c → p c = false) → spanN p (w ++ r) = w.length
  | [], r, _, hr => by
    cases r with
    | nil => rfl
    | cons c r => rw [List.nil_append, spanN_cons, hr c rfl]; rfl
  | x :: w, r, hw, hr => by
    rw [spanN_cons] at hw
    rw [List.cons_append, spanN_cons]
    cases hp : p x with
    | true => rw [hp] at hw; simp only [if_true, List.length_cons] at hw ⊢; rw [span_app p w r (by omega) hr]
    | false => rw [hp] at hw; simp at hw
theorem let_dig {c : UInt8} (h : isLet c = true) : isDig c = false := by
  unfold isLet at h; unfold isDig
  simp at h ⊢
  intro _; omega
theorem word_tok {c : UInt8} {q : List UInt8} (hl : isLet c = true) (hs : spanN isWord (c :: q) = (c :: q).length) (hn : (c :: q).length ≤ 10) (r : List UInt8) (hr : NoW r) : oneF ((c :: q) ++ r) = .tok (tW (c :: q)) := by
  have hsp := span_app isWord (c :: q) r hs hr
  rw [List.cons_append] at hsp ⊢
  rcases oneF_split c (q ++ r) with ⟨d, -⟩ | ⟨-, -, k⟩ | ⟨d, -⟩ | ⟨-, d, -, -⟩
  · rw [let_dig hl] at d; cases d
  · rw [k, hsp, if_neg (by omega), ← List.cons_append, List.take_left]; rfl
  · subst d; exact absurd hl (by decide)
  · rw [hl] at d; cases d
theorem let_ne {c : UInt8} (h : isLet c = true) : c ≠ 32 := by rintro rfl; revert h; decide
theorem LexTo.word {c : UInt8} {q : List UInt8} (hl : isLet c = true) (hs : spanN isWord (c :: q) = (c :: q).length) (hn : (c :: q).length ≤ 10) : LexTo NoW (c :: q) [tW (c :: q)] :=
  LexTo.one rfl (let_ne hl) (word_tok hl hs hn)

/-! ### Numbers -/
theorem numV_snoc (d : Nat) (hd : d < 10) : ∀ (l : List UInt8) (acc v : Int), numV l acc = some v → 10 * v + d ≤ 1099511627776 → numV (l ++ [UInt8.ofNat (48 + d)]) acc = some (10 * v + d)
  | [], acc, v, h, hb => by
    simp only [numV, Option.some.injEq] at h
    subst h
    have e := dig_toNat d hd
    simp only [List.nil_append, numV]
    rw [e, if_neg (by omega)]
    congr 1; omega
  | c :: r, acc, v, h, hb => by
    rw [List.cons_append]
    simp only [numV] at h ⊢
    split at h
    · cases h
    · rename_i h1
      rw [if_neg h1]
      exact numV_snoc d hd r _ v h hb
theorem dig_isDig (d : Nat) (hd : d < 10) : isDig (UInt8.ofNat (48 + d)) = true := by
  unfold isDig; rw [dig_toNat d hd]; simp; omega
theorem span_all_app (p : UInt8 → Bool) (l m : List UInt8) (h1 : spanN p l = l.length) (h2 : spanN p m = m.length) : spanN p (l ++ m) = (l ++ m).length := by
  induction l with
  | nil => simpa using h2
  | cons x l ih =>
    rw [spanN_cons] at h1
    rw [List.cons_append, spanN_cons]
    cases hp : p x with
    | true => rw [hp] at h1; simp only [if_true, List.length_cons] at h1 ⊢; rw [ih (by omega)]
    | false => rw [hp] at h1; simp at h1
theorem dec_num (u : Nat) : u ≤ 1099511627776 → numV (Lib.decDigits u) 0 = some (u : Int) ∧ spanN isDig (Lib.decDigits u) = (Lib.decDigits u).length ∧ (1 < (Lib.decDigits u).length → (Lib.decDigits u).head? ≠ some 48) ∧ (u ≠ 0 → (Lib.decDigits u).head? ≠ some 48) := by
  induction u using Nat.strongRecOn with
  | _ u ih =>
    intro hu
    by_cases h : u < 10
    · rw [Lib.decDigits, dif_pos h]
      have e := dig_toNat u h
      refine ⟨?_, ?_, by simp, fun h0 hh => ?_⟩
      · simp only [numV]; rw [e, if_neg (by omega)]; congr 1; omega
      · rw [spanN_cons, dig_isDig u h]; rfl
      · simp only [List.head?_cons, Option.some.injEq] at hh
        rw [hh] at e
        have : (48 : UInt8).toNat = 48 := rfl
        omega
    · obtain ⟨a, b, -, d⟩ := ih (u / 10) (by omega) (by omega)
      have hd := d (by omega)
      rw [Lib.decDigits, dif_neg h]
      obtain ⟨c, r, e, -, -⟩ := dec_head (u / 10)
      have hh : (Lib.decDigits (u / 10) ++ [UInt8.ofNat (48 + u % 10)]).head? ≠ some 48 := by
        rw [e] at hd ⊢; exact hd
      refine ⟨?_, span_all_app _ _ _ b (by rw [spanN_cons, dig_isDig _ (Nat.mod_lt _ (by omega))]; rfl), fun _ => hh, fun _ => hh⟩
      rw [numV_snoc (u % 10) (Nat.mod_lt _ (by omega)) _ _ _ a (by omega)]
      congr 1; omega
theorem LexTo.num (u : Nat) (hu : u ≤ 1099511627776) : LexTo NoW (Lib.decDigits u) [⟨1, Lib.decDigits u, 1, u, []⟩] := by
  obtain ⟨a, b, d, -⟩ := dec_num u hu
  obtain ⟨c, r, e, h1, h2⟩ := dec_head u
  have hdg : isDig c = true := by unfold isDig; simp; omega
  rw [e] at a b d ⊢
  refine LexTo.one rfl (by rintro rfl; revert h1; decide) fun q hq => ?_
  have hsp := span_app isDig (c :: r) q b (fun x hx => by
    have := hq x hx
    unfold isWord at this
    simp at this; exact this.2)
  have ho : oneF ((c :: r) ++ q) = numberF ((c :: r) ++ q) := by rw [List.cons_append]; simp [oneF, hdg]
  rw [ho]
  have ht : ((c :: r) ++ q).take (spanN isDig ((c :: r) ++ q)) = c :: r := by rw [hsp, List.take_left]
  unfold numberF
  rw [if_neg (by rw [hsp]; intro ⟨x, y⟩; exact d x (by simpa using y)), ht, a]

/-! ### Texts -/
theorem quote_esc : ∀ (s : List UInt8) (i : Nat) (acc r : List UInt8), (∀ c ∈ s, 32 ≤ c.toNat ∧ c.toNat ≤ 126) → (acc ++ s).length ≤ 40 → quoteGo (escL s ++ 34 :: r) i acc = .ok (i + (escL s).length + 1, acc ++ s)
  | [], i, acc, r, _, hl => by
    simp only [List.append_nil] at hl
    show quoteGo (34 :: r) i acc = _
    cases r with
    | nil => rw [quoteGo, if_pos rfl, if_neg (by omega)]; simp [escL]
    | cons d r => rw [quoteGo, if_pos rfl, if_neg (by omega)]; simp [escL]
  | c :: s, i, acc, r, hc, hl => by
    have ih := fun i => quote_esc s i (acc ++ [c]) r (fun x hx => hc x (List.mem_cons_of_mem _ hx)) (by simpa using hl)
    have e : escL (c :: s) = escB c ++ escL s := rfl
    obtain ⟨c1, c2⟩ := hc c (List.mem_cons_self ..)
    rw [e]
    unfold escB
    split
    · rename_i h
      show quoteGo (92 :: c :: (escL s ++ 34 :: r)) i acc = _
      rw [quoteGo, if_neg (by decide), if_pos rfl, if_pos h, ih]
      simp only [List.append_assoc, List.cons_append, List.nil_append, List.length_cons]
      congr 2; omega
    · rename_i h
      obtain ⟨d, q, hd⟩ : ∃ d q, escL s ++ 34 :: r = d :: q := by
        cases hx : escL s with
        | nil => exact ⟨34, r, rfl⟩
        | cons a b => exact ⟨a, b ++ 34 :: r, rfl⟩
      show quoteGo (c :: (escL s ++ 34 :: r)) i acc = _
      rw [hd, quoteGo, if_neg (fun q => h (.inl q)), if_neg (fun q => h (.inr q)), if_neg (by omega), ← hd, ih]
      simp only [List.append_assoc, List.cons_append, List.nil_append, List.length_cons]
      congr 2; omega
theorem LexTo.text (s : List UInt8) (hs : ∀ c ∈ s, 32 ≤ c.toNat ∧ c.toNat ≤ 126) (hl : s.length ≤ 40) : LexTo Any1 (34 :: (escL s ++ [34])) [⟨3, 34 :: (escL s ++ [34]), 3, 0, s⟩] := by
  refine LexTo.one rfl (by decide) fun r _ => ?_
  have e : (34 :: (escL s ++ [34])) ++ r = 34 :: (escL s ++ 34 :: r) := by simp
  have hq := quote_esc s 1 [] r hs (by simpa using hl)
  rw [e]
  have ho : oneF (34 :: (escL s ++ 34 :: r)) = quoteF (34 :: (escL s ++ 34 :: r)) := by simp [oneF, isDig, isLet]
  rw [ho]
  unfold quoteF
  rw [List.tail_cons, hq]
  show OneR.tok ⟨3, List.take _ _, 3, 0, [] ++ s⟩ = _
  rw [show 1 + (escL s).length + 1 = (34 :: (escL s ++ [34])).length by simp; omega, ← e, List.take_left]
  rfl

/-! ### Signs -/
theorem LexTo.sg {c : UInt8} (h : c = 40 ∨ c = 41 ∨ c = 44 ∨ c = 45) : LexTo Any1 [c] [tS [c]] := by
  rcases h with rfl | rfl | rfl | rfl
  all_goals exact LexTo.one rfl (by decide) fun r _ => by simp [oneF, isDig, isLet, signF, signs, List.find?, List.isPrefixOf, tS]
def Sp (r : List UInt8) : Prop := r.head? = some 32
theorem LexTo.op {op : Int} (h1 : 5 ≤ op) (h2 : op ≤ 16) : LexTo Sp (sgL op) [tkOp op] := by
  have hsp : ∀ r, Sp r → ∃ q, r = 32 :: q := fun r h => by
    cases r with
    | nil => cases h
    | cons c q => unfold Sp at h; simp at h; exact ⟨q, by rw [h]⟩
  obtain rfl | rfl | rfl | rfl | rfl | rfl | rfl | rfl | rfl | rfl | rfl | rfl : op = 5 ∨ op = 6 ∨ op = 7 ∨ op = 8 ∨ op = 9 ∨ op = 10 ∨ op = 11 ∨ op = 12 ∨ op = 13 ∨ op = 14 ∨ op = 15 ∨ op = 16 := by omega
  all_goals first
    | exact (LexTo.word (c := 97) (q := [110, 100]) (by decide) (by decide) (by decide)).mono fun r hr => by obtain ⟨q, rfl⟩ := hsp r hr; exact NoW.sep (.inl rfl) _
    | exact (LexTo.word (c := 111) (q := [114]) (by decide) (by decide) (by decide)).mono fun r hr => by obtain ⟨q, rfl⟩ := hsp r hr; exact NoW.sep (.inl rfl) _
    | exact LexTo.one (c := _) (q := _) rfl (by decide) fun r hr => by obtain ⟨q, rfl⟩ := hsp r hr; simp [sgL, oneF, isDig, isLet, signF, signs, List.find?, List.isPrefixOf, tkOp, tS]

/-! ### A printed formula -/
theorem lex_comma {ps : List (List UInt8)} {ts : List (List Tok)} (hl : ps.length = ts.length) (h : ∀ (j : Nat) p t, ps[j]? = some p → ts[j]? = some t → LexTo NoW p t) : LexTo NoW (commaB ps) (commaT ts) := by
  induction ps generalizing ts with
  | nil =>
    obtain rfl : ts = [] := by cases ts with | nil => rfl | cons a b => simp at hl
    exact LexTo.nil.mono fun _ _ => trivial
  | cons p ps ih =>
    obtain ⟨t, ts, rfl⟩ : ∃ t r, ts = t :: r := by cases ts with | nil => simp at hl | cons a b => exact ⟨a, b, rfl⟩
    have h0 := h 0 p t rfl rfl
    have ih := ih (ts := ts) (by simpa using hl) (fun j p t a b => h (j + 1) p t (by simpa using a) (by simpa using b))
    cases ps with
    | nil =>
      obtain rfl : ts = [] := by cases ts with | nil => rfl | cons a b => simp at hl
      exact h0
    | cons q r =>
      obtain ⟨t2, ts, rfl⟩ : ∃ t r, ts = t :: r := by cases ts with | nil => simp at hl | cons a b => exact ⟨a, b, rfl⟩
      have h2 : LexTo NoW ([44] ++ ([32] ++ commaB (q :: r))) ([tS [44]] ++ ([] ++ commaT (t2 :: ts))) := (LexTo.sg (.inr (.inr (.inl rfl)))).app (LexTo.blank.app ih fun _ _ => trivial) fun _ _ => trivial
      exact h0.app h2 fun r _ => NoW.sep (.inr (.inr (.inr rfl))) _
theorem LexTo.eq {C : List UInt8 → Prop} {l l' : List UInt8} {ts ts' : List Tok} (h : LexTo C l ts) (h1 : l = l') (h2 : ts = ts') : LexTo C l' ts' := by subst h1 h2; exact h
theorem lex_br {b : Prop} [Decidable b] {l : List UInt8} {ts : List Tok} (h : LexTo NoW l ts) : LexTo NoW (brB b l) (brT b ts) := by
  unfold brB brT
  split
  · have h2 : LexTo Any1 ([40] ++ (l ++ [41])) ([tS [40]] ++ (ts ++ [tS [41]])) := (LexTo.sg (.inl rfl)).app (h.app (LexTo.sg (.inr (.inl rfl))) fun r _ => NoW.sep (.inr (.inr (.inl rfl))) _) fun _ _ => trivial
    exact h2.mono fun _ _ => trivial
  · exact h
theorem con_lex {k n : Int} {s : ByteArray} (hk : KnownV k n s) (hn : k = 1 → 0 ≤ n) : LexTo NoW (shwL k n s) [conT k n (shwL k n s) s.data.toList] := by
  rcases hk with ⟨rfl, h, rfl⟩ | ⟨rfl, h, rfl⟩ | ⟨rfl, rfl, h1, h2⟩
  · obtain ⟨u, rfl⟩ : ∃ u : Nat, n = (u : Int) := ⟨n.toNat, by have := hn rfl; omega⟩
    have e : shwL 1 (u : Int) ⟨#[]⟩ = Lib.decDigits u := by show (Lib.itoa (u : Int)).toArray.toList = _; rw [Lib.itoa_nonneg]
    rw [e]
    exact LexTo.num u (by have := h.2; omega)
  · rcases h with rfl | rfl
    · exact LexTo.word (c := 102) (q := [97, 108, 115, 101]) (by decide) (by decide) (by decide)
    · exact LexTo.word (c := 116) (q := [114, 117, 101]) (by decide) (by decide) (by decide)
  · exact (LexTo.text s.data.toList (fun c hc => by
      obtain ⟨i, hi, rfl⟩ := List.mem_iff_getElem.1 hc
      have hi' : i < s.size := by rw [← toList_size]; exact hi
      exact h2 i hi') (by rw [toList_size]; exact h1)).mono fun _ _ => trivial
theorem name_lex {s : List UInt8} (h : NameOk s) : LexTo NoW s [tW s] := by
  obtain ⟨h1, h2, ⟨c, hc, hl⟩, h3, -⟩ := h
  cases s with
  | nil => simp at h1
  | cons d q =>
    simp at hc; subst hc
    exact LexTo.word hl h3 h2
theorem get_zip {α β γ : Type} {f : α → β} {g : α → γ} {l : List α} {j : Nat} {p : β} {t : γ} (h1 : (l.map f)[j]? = some p) (h2 : (l.map g)[j]? = some t) : ∃ x, l[j]? = some x ∧ p = f x ∧ t = g x := by
  rw [List.getElem?_map] at h1 h2
  cases h : l[j]? with
  | none => rw [h] at h1; cases h1
  | some x => rw [h] at h1 h2; cases h1; cases h2; exact ⟨x, rfl, rfl, rfl⟩
theorem lv7 {op : Int} (h1 : 3 ≤ op) (h2 : op ≤ 18) : (lvO op = 7 ∧ (op = 17 ∨ op = 18)) ∨ (lvO op = 6 ∧ (op = 3 ∨ op = 4)) ∨ (1 ≤ lvO op ∧ lvO op ≤ 5 ∧ 5 ≤ op ∧ op ≤ 16) := by
  obtain rfl | rfl | rfl | rfl | rfl | rfl | rfl | rfl | rfl | rfl | rfl | rfl | rfl | rfl | rfl | rfl : op = 3 ∨ op = 4 ∨ op = 5 ∨ op = 6 ∨ op = 7 ∨ op = 8 ∨ op = 9 ∨ op = 10 ∨ op = 11 ∨ op = 12 ∨ op = 13 ∨ op = 14 ∨ op = 15 ∨ op = 16 ∨ op = 17 ∨ op = 18 := by omega
  all_goals decide
theorem lex_any : ∀ (m : Nat) (x : Ex) (l : Nat), (szE x).1 ≤ m → WfE x → LexTo NoW (prt x l) (tkE shwL x l)
  | 0, x, l, hm, _ => by have := szE_pos x; omega
  | m + 1, x, l, hm, hw => by
    have IH := lex_any m
    have hse := szE_eq x
    have hwt := hw.top
    have hwl := hw.list
    rw [hse] at hm
    obtain ⟨op, k, n, s, nm, args⟩ := x
    rw [prt, tkE]
    refine lex_br ?_
    simp only [Ex.args, TopOk, Ex.op, Ex.k, Ex.n, Ex.s, Ex.nm] at hm hwt hwl
    have hIH : ∀ y ∈ args, ∀ l, LexTo NoW (prt y l) (tkE shwL y l) := fun y hy l => IH y l (by have := (szL_mem hy).1; omega) (hwl.get hy)
    clear IH hw
    unfold bdB bdT
    rcases hwt with ⟨h1, h2, h3, -⟩ | ⟨h1, h2, -⟩ | ⟨h1, h2, -, -, -, -, h3⟩
    · rw [if_pos h1, if_pos h1]; exact con_lex h2 h3
    · rw [if_neg (by omega), if_pos h1, if_neg (by omega), if_pos h1]; exact name_lex h2
    · rw [if_neg (show ¬ op = 1 by omega), if_neg (show ¬ op = 2 by omega), if_neg (show ¬ op = 1 by omega), if_neg (show ¬ op = 2 by omega)]
      by_cases h7 : lvO op = 7
      · have h17 : op = 17 ∨ op = 18 := by rcases lv7 h1 h2 with ⟨-, q⟩ | ⟨q, -⟩ | ⟨-, q, -⟩ <;> omega
        have hls : lvsO op = [] := by rcases h17 with rfl | rfl <;> decide
        rw [if_pos h7, if_pos h7]
        rw [hls, prtL_nil, tkL_nil]
        have hc := lex_comma (ps := args.map (prt · 1)) (ts := args.map (tkE shwL · 1)) (by simp) (fun j p t a b => by
          obtain ⟨x, hx, rfl, rfl⟩ := get_zip a b
          exact hIH x (List.mem_of_getElem? hx) 1)
        have hb : LexTo Any1 ([40] ++ (commaB (args.map (prt · 1)) ++ [41])) ([tS [40]] ++ (commaT (args.map (tkE shwL · 1)) ++ [tS [41]])) := (LexTo.sg (.inl rfl)).app (hc.app (LexTo.sg (.inr (.inl rfl))) fun r _ => NoW.sep (.inr (.inr (.inl rfl))) _) fun _ _ => trivial
        have hw2 : LexTo NoW (sgL op) [tkOp op] := by
          rcases h17 with rfl | rfl
          · exact LexTo.word (c := 105) (q := [102]) (by decide) (by decide) (by decide)
          · exact LexTo.word (c := 108) (q := [101, 110]) (by decide) (by decide) (by decide)
        exact (hw2.app hb fun r _ => NoW.sep (.inr (.inl rfl)) _).mono fun _ _ => trivial
      · rw [if_neg h7, if_neg h7]
        by_cases h34 : op = 3 ∨ op = 4
        · have har : args.length = 1 := by rw [h3]; unfold arity; rw [if_neg (by omega), if_pos (by omega)]
          obtain ⟨y, rfl⟩ : ∃ y, args = [y] := by
            cases args with
            | nil => simp at har
            | cons a b => cases b with | nil => exact ⟨a, rfl⟩ | cons c d => simp at har
          have hy := hIH y (by simp)
          rw [if_pos h34]
          unfold lvsO
          rw [if_pos h34]
          rcases h34 with rfl | rfl
          · exact ((LexTo.sg (c := 45) (.inr (.inr (.inr rfl)))).app (hy 6) fun _ _ => trivial).eq (by simp [prtL]) (by simp [tkL, tkOp, sgL])
          · have hnot : LexTo NoW [110, 111, 116] [tW [110, 111, 116]] := LexTo.word (by decide) (by decide) (by decide)
            exact (hnot.app (LexTo.blank.app (hy 6) fun _ _ => trivial) fun r _ => NoW.sep (.inl rfl) _).eq (by simp [prtL]) (by simp [tkL, tkOp, sgL])
        · have hle : 5 ≤ op ∧ op ≤ 16 := by
            refine ⟨by omega, ?_⟩
            rcases (by omega : op ≤ 16 ∨ op = 17 ∨ op = 18) with q | rfl | rfl
            · exact q
            · exact absurd rfl h7
            · exact absurd rfl h7
          have har : args.length = 2 := by rw [h3]; unfold arity; rw [if_neg (by omega), if_neg (by omega), if_neg (by omega)]
          obtain ⟨y, z, rfl⟩ : ∃ y z, args = [y, z] := by
            cases args with
            | nil => simp at har
            | cons a b => cases b with | nil => simp at har | cons c d => cases d with | nil => exact ⟨a, c, rfl⟩ | cons e f => simp at har
          rw [if_neg h34, if_neg (by omega), if_neg (by omega)]
          unfold lvsO
          rw [if_neg h34, if_pos hle]
          have hy := hIH y (by simp) (if lvO op = 3 then 4 else lvO op)
          have hz := hIH z (by simp) (lvO op + 1)
          have h5 : LexTo NoW ([32] ++ (sgL op ++ ([32] ++ prt z (lvO op + 1)))) ([] ++ ([tkOp op] ++ ([] ++ tkE shwL z (lvO op + 1)))) := LexTo.blank.app ((LexTo.op hle.1 hle.2).app (LexTo.blank.app hz fun _ _ => trivial) fun r _ => rfl) fun _ _ => trivial
          exact (hy.app h5 fun r _ => NoW.sep (.inl rfl) _).eq (by simp [prtL]) (by simp [tkL])
/-- The tokens of a text. -/
theorem LexTo.all {C : List UInt8 → Prop} {l : List UInt8} {ts : List Tok} (h : LexTo C l ts) (h0 : C []) : ∃ us, lexF l = .ok us ∧ us.map (·.t) = ts := by
  obtain ⟨us, f, e, hf, h⟩ := h [] h0 (l.length + 1) 0 [] (by simp)
  rw [List.append_nil] at h
  exact ⟨us, by unfold lexF; rw [h, lexGo_nil]; rfl, e⟩
theorem noW_nil : NoW [] := fun c h => by cases h

end Go.Proofs.YthplkompdehjlaaGreatDoor
