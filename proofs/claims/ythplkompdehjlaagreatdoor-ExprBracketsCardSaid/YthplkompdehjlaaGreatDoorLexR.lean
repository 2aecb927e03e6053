/-
  The tokens of a text, in plain Lean: a token is the same in every text that begins with it and goes on with a blank, ends there, or goes on as it did.
-/
import Derived.Test.YthplkompdehjlaaGreatDoorLexQ
namespace Go.Proofs.YthplkompdehjlaaGreatDoor

theorem span_ext (p : UInt8 → Bool) : ∀ (l r : List UInt8), (∀ c, r.head? = some c → p c = false) → spanN p (l.take (spanN p l) ++ r) = spanN p l
  | [], r, h => by
    cases r with
    | nil => rfl
    | cons c r => simp [spanN, List.takeWhile, h c rfl]
  | x :: l, r, h => by
    rw [spanN_cons]
    cases hp : p x with
    | true =>
      simp only [if_true, List.take_succ_cons, List.cons_append]
      rw [spanN_cons, hp, if_pos rfl, span_ext p l r h]
    | false =>
      simp only [Bool.false_eq_true, if_false, List.take_zero, List.nil_append]
      cases r with
      | nil => rfl
      | cons c r => rw [spanN_cons, h c rfl]; rfl

theorem span_stop (p : UInt8 → Bool) : ∀ (l : List UInt8) (c : UInt8), (l.drop (spanN p l)).head? = some c → p c = false
  | [], c, h => by simp at h
  | x :: l, c, h => by
    rw [spanN_cons] at h
    cases hp : p x with
    | true => rw [hp] at h; simp at h; exact span_stop p l c (by simpa using h)
    | false => rw [hp] at h; simp at h; subst h; exact hp

/-- What may stand behind a token. -/
def Behind (l : List UInt8) (n : Nat) (r : List UInt8) : Prop := r = [] ∨ r.head? = some 32 ∨ r.head? = (l.drop n).head?

theorem span_behind (p : UInt8 → Bool) (l r : List UInt8) (h32 : p 32 = false) (h : Behind l (spanN p l) r) : ∀ c, r.head? = some c → p c = false := by
  intro c hc
  rcases h with rfl | h | h
  · simp at hc
  · rw [hc] at h; injection h with h; subst h; exact h32
  · exact span_stop p l c (by rw [← h]; exact hc)

theorem take_take_app (l r : List UInt8) (n : Nat) (h : n ≤ l.length) : (l.take n ++ r).take n = l.take n := by
  rw [List.take_append_of_le_length (by rw [List.length_take]; omega), List.take_take]
  simp

theorem quoteGo_ext : ∀ (q : List UInt8) (i : Nat) (text : List UInt8) (n : Nat) (x r : List UInt8), quoteGo q i text = .ok (n, x) → quoteGo (q.take (n - i) ++ r) i text = .ok (n, x)
  | [], i, text, n, x, r, h => by simp [quoteGo] at h
  | [c], i, text, n, x, r, h => by
    have hl := quoteGo_len _ _ _ _ _ h
    simp only [quoteGo] at h
    split at h
    · rename_i hc
      split at h
      · cases h
      · rename_i ht
        injection h with h; injection h with h1 h2; subst h1 h2
        simp only [Nat.add_sub_cancel_left, List.take_succ_cons, List.take_zero, List.cons_append, List.nil_append]
        cases r with
        | nil => simp [quoteGo, hc, ht]
        | cons d r => simp [quoteGo, hc, ht]
    · cases h
  | c :: d :: q, i, text, n, x, r, h => by
    have hl := quoteGo_len _ _ _ _ _ h
    rw [quoteGo] at h
    split at h
    · rename_i hc
      split at h
      · cases h
      · rename_i ht
        injection h with h; injection h with h1 h2; subst h1 h2
        simp only [Nat.add_sub_cancel_left, List.take_succ_cons, List.take_zero, List.cons_append, List.nil_append]
        cases r with
        | nil => simp [quoteGo, hc, ht]
        | cons d r => simp [quoteGo, hc, ht]
    · rename_i hc
      split at h
      · rename_i h92
        split at h
        · rename_i hd
          have hl2 := quoteGo_len _ _ _ _ _ h
          have ih := quoteGo_ext q (i + 2) _ n x r h
          rw [show n - i = (n - (i + 2)) + 2 by omega]
          simp only [List.take_succ_cons, List.cons_append]
          rw [quoteGo, if_neg hc, if_pos h92, if_pos hd]
          exact ih
        · cases h
      · rename_i h92
        split at h
        · cases h
        · rename_i hr
          have hl2 := quoteGo_len _ _ _ _ _ h
          have ih := quoteGo_ext (d :: q) (i + 1) _ n x r h
          rw [show n - (i + 1) = (n - (i + 2)) + 1 by omega] at ih
          rw [show n - i = (n - (i + 2)) + 2 by omega]
          simp only [List.take_succ_cons, List.cons_append] at ih ⊢
          rw [quoteGo, if_neg hc, if_neg h92, if_neg hr]
          exact ih

theorem sign_ext (l r g : List UInt8) (h : signs.find? (fun g => g.isPrefixOf l) = some g) (hb : Behind l g.length r) : signs.find? (fun x => x.isPrefixOf (g ++ r)) = some g := by
  have hm := List.mem_of_find?_eq_some h
  have hp0 := List.find?_some h
  have hp := List.isPrefixOf_iff_prefix.1 hp0
  obtain ⟨u, rfl⟩ := hp
  simp only [signs, List.mem_cons, List.not_mem_nil, or_false] at hm
  have hne : g = [60] → ∀ c, r.head? = some c → c ≠ 61 := by
    rintro rfl c hc rfl
    rcases hb with rfl | hb | hb
    · simp at hc
    · rw [hc] at hb; injection hb with hb; exact absurd hb (by decide)
    · rw [hc] at hb
      cases u with
      | nil => simp at hb
      | cons d u =>
        simp at hb
        subst hb
        simp [signs, List.isPrefixOf] at h
  rcases hm with rfl | rfl | rfl | rfl | rfl | rfl | rfl | rfl | rfl | rfl | rfl | rfl | rfl
  all_goals first
    | (simp [signs, List.find?, List.isPrefixOf]; done)
    | (cases r with
       | nil => simp [signs, List.find?, List.isPrefixOf]
       | cons d r =>
         have hd := hne rfl d rfl
         have hd' : (61 == d) = false := beq_eq_false_iff_ne.2 (fun e => hd e.symm)
         simp [signs, List.find?, List.isPrefixOf, hd'])

/-- A token again. -/
theorem oneF_ext {l : List UInt8} {t : Tok} (h : oneF l = .tok t) (r : List UInt8) (hb : Behind l t.s.length r) : oneF (t.s ++ r) = .tok t := by
  obtain ⟨n1, n2, ht⟩ := oneF_len h
  cases l with
  | nil => simp [oneF] at h
  | cons c q =>
    have hc : ∃ q', t.s ++ r = c :: q' := by
      rw [ht]
      obtain ⟨m, hm⟩ : ∃ m, t.s.length = m + 1 := ⟨t.s.length - 1, by omega⟩
      rw [hm, List.take_succ_cons]
      exact ⟨_, rfl⟩
    obtain ⟨q', hq'⟩ := hc
    rcases oneF_split c q with ⟨d, k⟩ | ⟨d0, d, k⟩ | ⟨d, k⟩ | ⟨d0, d, d2, k⟩
    · rw [k] at h
      rcases number_cases (c :: q) with n | n | ⟨v, hv, n⟩
      · rw [n] at h; cases h
      · rw [n] at h; cases h
      · have n0 := n
        rw [n] at h; injection h with h; subst h
        have hle := spanN_le isDig (c :: q)
        have hlen : ((c :: q).take (spanN isDig (c :: q))).length = spanN isDig (c :: q) := by rw [List.length_take]; omega
        simp only at hb hq' ⊢
        rw [hlen] at hb
        have hs := span_ext isDig (c :: q) r (span_behind isDig _ r (by decide) hb)
        have e1 : oneF (List.take (spanN isDig (c :: q)) (c :: q) ++ r) = numberF (List.take (spanN isDig (c :: q)) (c :: q) ++ r) := by rw [hq']; simp [oneF, d]
        rw [e1]
        have hh : (List.take (spanN isDig (c :: q)) (c :: q) ++ r).head? = (c :: q).head? := by rw [hq']; rfl
        unfold numberF at n0 ⊢
        rw [hs, hh, take_take_app _ _ _ hle]
        exact n0
    · rw [k] at h
      split at h
      · cases h
      · rename_i hlong
        injection h with h; subst h
        have hle := spanN_le isWord (c :: q)
        have hlen : ((c :: q).take (spanN isWord (c :: q))).length = spanN isWord (c :: q) := by rw [List.length_take]; omega
        simp only at hb hq' ⊢
        rw [hlen] at hb
        have hs := span_ext isWord (c :: q) r (span_behind isWord _ r (by decide) hb)
        have e1 : oneF (List.take (spanN isWord (c :: q)) (c :: q) ++ r) = if 10 < spanN isWord (List.take (spanN isWord (c :: q)) (c :: q) ++ r) then .err 1 else .tok ⟨2, (List.take (spanN isWord (c :: q)) (c :: q) ++ r).take (spanN isWord (List.take (spanN isWord (c :: q)) (c :: q) ++ r)), 0, 0, []⟩ := by
          rw [hq']; simp only [oneF, d0, d]; rfl
        rw [e1, hs, if_neg hlong, take_take_app _ _ _ hle]
    · rw [k] at h
      rcases quote_cases (c :: q) with ⟨e', qq, n⟩ | ⟨n', x, qq, n⟩
      · rw [n] at h; cases h
      · rw [n] at h; injection h with h; subst h
        have hl := quoteGo_len _ _ _ _ _ qq
        simp only [List.tail_cons] at hl qq
        have e : ((c :: q).take n').length = n' := by rw [List.length_take]; simp; omega
        simp only at hb hq' ⊢
        have hx := quoteGo_ext q 1 [] n' x r qq
        obtain ⟨m, rfl⟩ : ∃ m, n' = m + 1 := ⟨n' - 1, by omega⟩
        simp only [Nat.add_sub_cancel] at hx
        have e1 : oneF (List.take (m + 1) (c :: q) ++ r) = quoteF (List.take (m + 1) (c :: q) ++ r) := by
          rw [List.take_succ_cons, List.cons_append]
          subst d
          rfl
        rw [e1]
        unfold quoteF
        rw [List.take_succ_cons, List.cons_append, List.tail_cons, hx]
        show OneR.tok ⟨3, (c :: (List.take m q ++ r)).take (m + 1), 3, 0, x⟩ = _
        rw [← List.cons_append, ← List.take_succ_cons, take_take_app (c :: q) r (m + 1) (by simp; omega)]
    · rw [k] at h
      rcases sign_cases (c :: q) with n | ⟨g, hg, n⟩
      · rw [n] at h; cases h
      · rw [n] at h; injection h with h; subst h
        simp only at hb hq' ⊢
        have hx := sign_ext (c :: q) r g hg hb
        have e1 : oneF (g ++ r) = signF (g ++ r) := by
          rw [hq']
          show (if isDig c = true then _ else if isLet c = true then _ else if c = 34 then _ else _) = _
          rw [if_neg (by rw [d0]; simp), if_neg (by rw [d]; simp), if_neg d2]
        rw [e1]
        unfold signF
        rw [hx]

/-- .. in what is cut off behind it. -/
theorem oneF_cut {l : List UInt8} {t : Tok} (h : oneF l = .tok t) (m : Nat) (hm : t.s.length ≤ m) : oneF (l.take m) = .tok t := by
  obtain ⟨n1, n2, ht⟩ := oneF_len h
  have e : l.take m = t.s ++ (l.drop t.s.length).take (m - t.s.length) := by
    rw [← List.take_append_drop t.s.length (l.take m), List.take_take, List.drop_take]
    rw [show min t.s.length m = t.s.length by omega, ← ht]
  rw [e]
  refine oneF_ext h _ ?_
  cases hd : l.drop t.s.length with
  | nil => exact .inl (by simp)
  | cons c q =>
    cases hk : m - t.s.length with
    | zero => exact .inl (by simp)
    | succ k => exact .inr (.inr (by simp [hd]))

/-- Where a text is wrong all ahead of that is right. -/
theorem lexGo_cut : ∀ (f f' : Nat) (l : List UInt8) (a b : Nat) (acc : List TokA) (e : Int), l.length < f → l.length < f' → lexGo f l a acc = .error (b, e) →
    a ≤ b ∧ b < a + l.length ∧ ∃ ts, lexGo f' (l.take (b - a)) a acc = .ok ts
  | 0, f', l, a, b, acc, e, hf, _, h => by omega
  | f + 1, 0, l, a, b, acc, e, _, hf', h => by omega
  | f + 1, f' + 1, [], a, b, acc, e, _, _, h => by simp [lexGo] at h
  | f + 1, f' + 1, c :: q, a, b, acc, e, hf, hf', h => by
    simp at hf hf'
    rw [lexGo] at h
    split at h
    · rename_i hc
      obtain ⟨h1, h2, ts, h3⟩ := lexGo_cut f f' q (a + 1) b acc e (by omega) (by omega) h
      refine ⟨by omega, by simp; omega, ts, ?_⟩
      obtain ⟨m, hm⟩ : ∃ m, b - a = m + 1 := ⟨b - a - 1, by omega⟩
      rw [hm, List.take_succ_cons, lexGo, if_pos hc, show m = b - (a + 1) by omega]
      exact h3
    · rename_i hc
      split at h
      · rename_i er ho
        injection h with h; injection h with h1 h2; subst h1
        exact ⟨by omega, by simp, acc, by rw [Nat.sub_self]; rfl⟩
      · rename_i t ho
        obtain ⟨n1, n2, ht⟩ := oneF_len ho
        have hdl : ((c :: q).drop t.s.length).length = q.length + 1 - t.s.length := by rw [List.length_drop]; simp
        obtain ⟨h1, h2, ts, h3⟩ := lexGo_cut f f' ((c :: q).drop t.s.length) (a + t.s.length) b (acc ++ [⟨t, a⟩]) e (by rw [hdl]; omega) (by rw [hdl]; omega) h
        rw [hdl] at h2
        simp at n2
        refine ⟨by omega, by simp; omega, ts, ?_⟩
        have hcut := oneF_cut ho (b - a) (by omega)
        obtain ⟨m, hm⟩ : ∃ m, b - a = m + 1 := ⟨b - a - 1, by omega⟩
        have hcc : (c :: q).take (b - a) = c :: q.take m := by rw [hm, List.take_succ_cons]
        rw [hcc] at hcut ⊢
        rw [lexGo, if_neg hc, hcut]
        show lexGo f' ((c :: q.take m).drop t.s.length) (a + t.s.length) (acc ++ [⟨t, a⟩]) = _
        rw [← hcc, List.drop_take, show b - a - t.s.length = b - (a + t.s.length) by omega]
        exact h3

theorem lexGo_fuel : ∀ (f f' : Nat) (l : List UInt8) (a : Nat) (acc : List TokA), l.length < f → l.length < f' → lexGo f l a acc = lexGo f' l a acc
  | 0, f', l, a, acc, hf, _ => by omega
  | f + 1, 0, l, a, acc, _, hf' => by omega
  | f + 1, f' + 1, [], a, acc, _, _ => rfl
  | f + 1, f' + 1, c :: q, a, acc, hf, hf' => by
    simp at hf hf'
    rw [lexGo, lexGo]
    split
    · exact lexGo_fuel f f' q (a + 1) acc (by omega) (by omega)
    · split
      · rfl
      · rename_i t ho
        obtain ⟨n1, n2, ht⟩ := oneF_len ho
        exact lexGo_fuel f f' _ _ _ (by rw [List.length_drop]; simp; omega) (by rw [List.length_drop]; simp; omega)

theorem lexF_cut {l : List UInt8} {b : Nat} {e : Int} (h : lexF l = .error (b, e)) : b < l.length ∧ ∃ ts, lexF (l.take b) = .ok ts := by
  obtain ⟨h1, h2, ts, h3⟩ := lexGo_cut (l.length + 1) (l.length + 1) l 0 b [] e (by omega) (by omega) h
  refine ⟨by omega, ts, ?_⟩
  unfold lexF
  rw [lexGo_fuel _ (l.length + 1) _ _ _ (by omega) (by rw [List.length_take]; omega)]
  simpa using h3

theorem lexGo_err : ∀ (f : Nat) (l : List UInt8) (a b : Nat) (acc : List TokA) (e : Int), lexGo f l a acc = .error (b, e) → e = 1 ∨ e = 3 ∨ e = 7
  | 0, l, a, b, acc, e, h => by simp [lexGo] at h
  | f + 1, [], a, b, acc, e, h => by simp [lexGo] at h
  | f + 1, c :: q, a, b, acc, e, h => by
    rw [lexGo] at h
    split at h
    · exact lexGo_err f q _ _ _ _ h
    · split at h
      · rename_i er ho
        injection h with h; injection h with h1 h2; subst h2
        exact oneF_err ho
      · exact lexGo_err f _ _ _ _ _ h

end Go.Proofs.YthplkompdehjlaaGreatDoor
