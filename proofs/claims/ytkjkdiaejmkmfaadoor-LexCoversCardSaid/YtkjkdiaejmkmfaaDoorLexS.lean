/-
  The tokens of a text, in plain Lean: at their places they are all of it but blanks.
-/
import Derived.Test.YtkjkdiaejmkmfaaDoorLexR
namespace Go.Proofs.YtkjkdiaejmkmfaaDoor

def Covers (l : List UInt8) : Nat → List TokA → Prop
  | p, [] => ∀ c ∈ l.drop p, c = 32
  | p, x :: ts => p ≤ x.at' ∧ (∀ c ∈ (l.drop p).take (x.at' - p), c = 32) ∧ 1 ≤ x.t.s.length ∧ x.at' + x.t.s.length ≤ l.length ∧ x.t.s = (l.drop x.at').take x.t.s.length ∧ Covers l (x.at' + x.t.s.length) ts

theorem lexGo_covers (l : List UInt8) : ∀ (f a p : Nat) (acc ts : List TokA), l.length < a + f → a ≤ l.length → p ≤ a → (∀ c ∈ (l.drop p).take (a - p), c = 32) → lexGo f (l.drop a) a acc = .ok ts → ∃ us, ts = acc ++ us ∧ Covers l p us
  | 0, a, p, acc, ts, hf, ha, _, _, _ => by omega
  | f + 1, a, p, acc, ts, hf, ha, hp, hb, h => by
    rcases Nat.lt_or_ge a l.length with hlt | hge
    · rw [List.drop_eq_getElem_cons hlt, lexGo] at h
      split at h
      · rename_i hc
        refine lexGo_covers l f (a + 1) p acc ts (by omega) (by omega) (by omega) (fun c hcm => ?_) h
        rw [show a + 1 - p = (a - p) + 1 by omega, List.take_add_one] at hcm
        rcases List.mem_append.1 hcm with hm | hm
        · exact hb c hm
        · rw [List.getElem?_drop, show p + (a - p) = a by omega, List.getElem?_eq_getElem hlt] at hm
          simp at hm
          rw [hm]; exact hc
      · split at h
        · cases h
        · rename_i t ho
          rw [← List.drop_eq_getElem_cons hlt] at ho h
          obtain ⟨n1, n2, ht⟩ := oneF_len ho
          rw [List.length_drop] at n2
          rw [List.drop_drop] at h
          obtain ⟨us, e, hcov⟩ := lexGo_covers l f (a + t.s.length) (a + t.s.length) _ ts (by omega) (by omega) (by omega) (by simp) h
          exact ⟨⟨t, a⟩ :: us, by rw [e]; simp, hp, hb, n1, by show a + t.s.length ≤ _; omega, ht, hcov⟩
    · rw [List.drop_eq_nil_of_le hge] at h
      rw [lexGo_nil] at h
      injection h with h
      refine ⟨[], by simp [h], fun c hc => hb c ?_⟩
      rw [List.take_of_length_le (by rw [List.length_drop]; omega)]
      exact hc

theorem lexF_covers {l : List UInt8} {ts : List TokA} (h : lexF l = .ok ts) : Covers l 0 ts := by
  obtain ⟨us, e, hc⟩ := lexGo_covers l (l.length + 1) 0 0 [] ts (by omega) (by omega) (by omega) (by simp) (by simpa [lexF] using h)
  simp at e
  rw [e]; exact hc

/-- n blanks. -/
def blanks (n : Nat) : ByteArray := ⟨(List.replicate n 32).toArray⟩
theorem blanks_size (n : Nat) : (blanks n).size = n := by show (List.replicate n (32 : UInt8)).toArray.size = n; simp
theorem blanks_of {s : ByteArray} (h : ∀ c ∈ s.data.toList, c = 32) : s = blanks s.size := by
  apply ByteArray.ext
  apply Array.toList_inj.1
  show s.data.toList = (List.replicate s.size (32 : UInt8)).toArray.toList
  rw [List.eq_replicate_iff.2 ⟨rfl, h⟩]
  simp
theorem blanks_at (n i : Nat) (h : i < (blanks n).size) : (blanks n)[i] = 32 := by
  show (List.replicate n (32 : UInt8)).toArray[i]'_ = 32
  simp
theorem blanks_cut (n m : Nat) (h : m ≤ n) : (blanks n).extract 0 m = blanks m := by
  have e := blanks_of (s := (blanks n).extract 0 m) (fun c hc => by
    rw [ByteArray.data_extract] at hc
    simp [blanks] at hc
    exact hc.2)
  rw [e]
  congr 1
  rw [ByteArray.size_extract, blanks_size]; omega

theorem ext_blank {s : ByteArray} {a b : Nat} (h : ∀ c ∈ (s.data.toList.drop a).take (b - a), c = 32) : s.extract a b = blanks (s.extract a b).size := by
  refine blanks_of fun c hc => h c ?_
  rw [ByteArray.data_extract] at hc
  have e : (s.data.extract a b).toList = (s.data.toList.drop a).take (b - a) := by simp
  rw [e] at hc
  exact hc

end Go.Proofs.YtkjkdiaejmkmfaaDoor
