/-
  Contracts of lex.Tokens, parted by what comes of the text.
-/
import Derived.Test.YthplkompdehjlaaGreatDoorLexF
import Derived.Test.YthplkompdehjlaaGreatDoorLexR
namespace Go.Proofs.YthplkompdehjlaaGreatDoor
open Go.RowKit

theorem tokens_err {L : List UInt8} {a : Nat} {er : Int} (s : ByteArray) (w : World) (hL : s.data.toList = L) (hs : L.length ≤ 160) (h : lexF L = .error (a, er)) :
    Calls Tryz.prog 27 #[.string s] w (Gives (.tuple #[.slice none 0 0, .int .i64 a, .int .i64 er]) w) := by
  subst hL
  refine (tokens_any s w (by simpa using hs)).mono ?_
  rintro e w' ⟨hb, ⟨a', er', h1, rfl⟩ | ⟨ts, v, h1, -⟩⟩
  · rw [h] at h1
    injection h1 with h1
    injection h1 with h1 h2
    subst h1 h2
    exact ⟨rfl, hb⟩
  · rw [h] at h1; cases h1

def TokOk (ts : List TokA) (n : Nat) (w : World) (e : Ending) (w' : World) : Prop :=
  ∃ v, e = .returned (.tuple #[v, .int .i64 0, .int .i64 0]) ∧ Below w.heap.size w w' ∧ IsRows w' 6 v (ts.map tcells) ∧ ts.length ≤ n

theorem tokens_ok {L : List UInt8} {ts : List TokA} (s : ByteArray) (w : World) (hL : s.data.toList = L) (hs : L.length ≤ 160) (h : lexF L = .ok ts) :
    Calls Tryz.prog 27 #[.string s] w (TokOk ts L.length w) := by
  subst hL
  refine (tokens_any s w (by simpa using hs)).mono ?_
  rintro e w' ⟨hb, ⟨a', er', h1, rfl⟩ | ⟨us, v, h1, rfl, ho, hl⟩⟩
  · rw [h] at h1; cases h1
  · rw [h] at h1
    injection h1 with h1
    subst h1
    exact ⟨v, rfl, hb, IsRows.of_own (tcells_len ts) (by rw [List.length_map]; exact ho), hl⟩

end Go.Proofs.YthplkompdehjlaaGreatDoor
