/-
  The tokens of a text, in plain Lean: with a blank between them they are the same tokens.
-/
import Derived.Test.YtkjkdiaejmkmfaaLexR
import Derived.Lib.Join
namespace Go.Proofs.Ytkjkdiaejmkmfaa

theorem oneF_blank (r : List UInt8) : oneF (32 :: r) = .err 3 := by
  rcases oneF_split 32 r with ⟨k, -⟩ | ⟨-, k, -⟩ | ⟨k, -⟩ | ⟨-, -, -, k⟩
  · exact absurd k (by decide)
  · exact absurd k (by decide)
  · exact absurd k (by decide)
  · rw [k]
    unfold signF
    have e : signs.find? (fun g => g.isPrefixOf (32 :: r)) = none := by
      rw [List.find?_eq_none]
      intro g hg
      simp only [signs, List.mem_cons, List.not_mem_nil, or_false] at hg
      rcases hg with rfl | rfl | rfl | rfl | rfl | rfl | rfl | rfl | rfl | rfl | rfl | rfl | rfl <;> simp [List.isPrefixOf]
    rw [e]

/-- What is a token. -/
def Good (t : Tok) : Prop := ∃ l, oneF l = .tok t

theorem good_step {t : Tok} (h : Good t) (r : List UInt8) (hr : r = [] ∨ r.head? = some 32) (f a : Nat) (acc : List TokA) : lexGo (f + 1) (t.s ++ r) a acc = lexGo f r (a + t.s.length) (acc ++ [⟨t, a⟩]) := by
  obtain ⟨l, hl⟩ := h
  obtain ⟨n1, n2, ht⟩ := oneF_len hl
  have ho := oneF_ext hl r (by rcases hr with h | h; exact .inl h; exact .inr (.inl h))
  obtain ⟨c, q, hq⟩ : ∃ c q, t.s ++ r = c :: q := by
    cases e : t.s ++ r with
    | nil => simp at e; rw [e.1] at n1; simp at n1
    | cons c q => exact ⟨c, q, rfl⟩
  have hc : c ≠ 32 := by
    rintro rfl
    rw [hq, oneF_blank] at ho
    cases ho
  rw [hq] at ho ⊢
  rw [lexGo, if_neg hc, ho]
  show lexGo f ((c :: q).drop t.s.length) _ _ = _
  rw [← hq]
  simp

theorem tail_head (ts : List Tok) : (ts.map fun t => [32] ++ t.s).flatten = [] ∨ (ts.map fun t => [32] ++ t.s).flatten.head? = some 32 := by
  cases ts with
  | nil => exact .inl rfl
  | cons t ts => exact .inr rfl

theorem lexGo_tail : ∀ (ts : List Tok) (f a : Nat) (acc : List TokA), (∀ t ∈ ts, Good t) → (ts.map fun t => [32] ++ t.s).flatten.length < f →
    ∃ us, lexGo f (ts.map fun t => [32] ++ t.s).flatten a acc = .ok (acc ++ us) ∧ us.map (·.t) = ts
  | [], f, a, acc, _, _ => ⟨[], by simp [lexGo_nil], rfl⟩
  | t :: ts, f, a, acc, hg, hf => by
    have h1 := tail_head ts
    rw [List.map_cons, List.flatten_cons] at hf ⊢
    obtain ⟨l, hl⟩ := hg t (by simp)
    obtain ⟨n1, -, -⟩ := oneF_len hl
    simp only [List.length_append, List.length_cons, List.length_nil] at hf
    obtain ⟨g, rfl⟩ : ∃ g, f = g + 2 := ⟨f - 2, by omega⟩
    have e : [32] ++ t.s ++ (ts.map fun t => [32] ++ t.s).flatten = 32 :: (t.s ++ (ts.map fun t => [32] ++ t.s).flatten) := by simp
    rw [e, lexGo, if_pos rfl, good_step (hg t (by simp)) _ h1]
    obtain ⟨us, k1, k2⟩ := lexGo_tail ts g (a + 1 + t.s.length) (acc ++ [⟨t, a + 1⟩]) (fun x hx => hg x (by simp [hx])) (by omega)
    exact ⟨⟨t, a + 1⟩ :: us, by rw [k1]; simp, by simp [k2]⟩

theorem lexGo_good : ∀ (f : Nat) (l : List UInt8) (a : Nat) (acc ts : List TokA), lexGo f l a acc = .ok ts → (∀ x ∈ acc, Good x.t) → ∀ x ∈ ts, Good x.t
  | 0, l, a, acc, ts, h, hg => by simp [lexGo] at h; subst h; exact hg
  | f + 1, [], a, acc, ts, h, hg => by simp [lexGo] at h; subst h; exact hg
  | f + 1, c :: q, a, acc, ts, h, hg => by
    rw [lexGo] at h
    split at h
    · exact lexGo_good f _ _ _ _ h hg
    · split at h
      · cases h
      · rename_i t ho
        refine lexGo_good f _ _ _ _ h (fun x hx => ?_)
        rcases List.mem_append.1 hx with hx | hx
        · exact hg x hx
        · simp at hx; subst hx; exact ⟨_, ho⟩

theorem lexF_join {l : List UInt8} {ts : List TokA} (h : lexF l = .ok ts) : ∃ us, lexF (Lib.join (ts.map (·.t.s)) [32]) = .ok us ∧ us.map (·.t) = ts.map (·.t) := by
  have hg := lexGo_good _ _ _ _ _ h (by simp)
  cases ts with
  | nil => exact ⟨[], rfl, rfl⟩
  | cons x r =>
    have e : Lib.join ((x :: r).map (·.t.s)) [32] = x.t.s ++ ((r.map (·.t)).map fun t => [32] ++ t.s).flatten := by
      rw [List.map_cons, Lib.join_cons]
      unfold Lib.joinTail
      rw [List.map_map, List.map_map]
      rfl
    rw [e]
    obtain ⟨l', hl'⟩ := hg x (by simp)
    obtain ⟨n1, -, -⟩ := oneF_len hl'
    unfold lexF
    rw [good_step (hg x (by simp)) _ (tail_head _)]
    obtain ⟨us, k1, k2⟩ := lexGo_tail (r.map (·.t)) (x.t.s ++ ((r.map (·.t)).map fun t => [32] ++ t.s).flatten).length (0 + x.t.s.length) ([] ++ [⟨x.t, 0⟩]) (fun t ht => by
      obtain ⟨y, hy, rfl⟩ := List.mem_map.1 ht
      exact hg y (by simp [hy])) (by rw [List.length_append]; omega)
    exact ⟨⟨x.t, 0⟩ :: us, by rw [k1]; simp, by simp [k2]⟩

end Go.Proofs.Ytkjkdiaejmkmfaa
