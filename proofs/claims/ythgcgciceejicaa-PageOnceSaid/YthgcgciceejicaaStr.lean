/-
  Contracts of package slices at []string. slices.Clone at []string.
-/
import Derived.Test.YthgcgciceejicaaGo
import Derived.Test.YthgcgciceejicaaRow
import Derived.Test.YthgcgciceejicaaEvo
import Derived.Test.YthgcgciceejicaaLaw
import Derived.Test.YthgcgciceejicaaGenB
import Derived.Test.YthgcgciceejicaaRowOps
import Derived.Lib.AppendZerosOnto
namespace Go.Proofs.Ythgcgciceejicaa
open Go.RowKit
set_option linter.unusedVariables false

theorem str_row {l : List ByteArray} {i : Nat} {s : ByteArray} (h : l[i]? = some s) : (strRows l)[i]? = some [.string s] := by rw [List.getElem?_map, h]; rfl
theorem str_len (l : List ByteArray) : Len 1 (strRows l) := fun r hr => by obtain ⟨x, -, rfl⟩ := List.mem_map.1 hr; rfl
theorem str_one (l : List ByteArray) : One (strRows l) := fun r hr u hu => by
  obtain ⟨x, -, rfl⟩ := List.mem_map.1 hr
  rw [List.mem_singleton.1 hu]; rfl

set_option maxRecDepth 100000 in
theorem idxS_any (l : List ByteArray) (v : Value) (s : ByteArray) (h : Vw) (hr : RS h 1 v (strRows l)) (hl : l.length ≤ 1000000) : C0 Try.prog 34 #[v, .string s] h (fun r _ => r = .int .i64 (fidx (fun y : ByteArray => s.toList == y.toList) l)) := by
  obtain ⟨A, cap, rfl, -, -, -⟩ := hr.form
  rw [List.length_map] at *
  generalize hL : l.length = len at *
  refine g_con Try.func34 fun hbx hbad Q hQ => ?_
  refine go0 14 [] [] ?_
  refine g_loop [0, 1, 0, 1] [.block 0, .seq [1, 1]] (fun (k : Nat) X => ∃ (W1 : Vw) , X W1 [(0, .slice A len cap), (1, .string s), (7, Vi (len : Int)), (8, Vi (k : Int))] [] [] ∧ Sees h W1 ∧ (k ≤ len) ∧ (∀ y ∈ l.take k, (s.toList == y.toList) = false)) (fun k => len - k) (0) (fun X q => ⟨h, q _ _ _ _ ⟨rfl, by kernel_rfl⟩, Sees.refl _, Nat.zero_le _, fun y hy => by simp at hy⟩) ?_
  rintro k a w ⟨W1, hJ, S2, hk, hn⟩; refine g_of hJ ?_; clear hJ a w
  refine go0 6 [] [] ?_
  rcases (by omega : k < len ∨ k = len) with hlt | hke
  · obtain ⟨f, hfk⟩ : ∃ f, l[k]? = some f := ⟨_, List.getElem?_eq_getElem (by omega)⟩
    have hrow := str_row hfk
    refine g_true (t := decide ((k : Int) < (len : Int))) (decide_eq_true (by omega)) ?_
    refine go0 15 [] [] ?_
    obtain ⟨b3, o4, rfl, -, c5⟩ := RS.row hr (hrow)
    refine g_fact (c5.sees S2) ?_
    refine go0 5 [.ix b3 o4 len cap k, .f 0 0] [] ?_ (ho := (And.intro (by first | omega | (simp; omega)) (trivial)))
    rcases Bool.eq_false_or_eq_true (s.toList == f.toList) with hq | hq
    · refine g_true (t := s.toList == f.toList) (hq) ?_
      refine go0 9 [] [] ?_
      refine g_leave ?_
      refine go0 2 [] [] ?_
      refine hQ.to [Vi (k : Int)] (fun H sH => ?_)
      exact congrArg (Value.int .i64) (fidx_found _ l k f hn hfk hq).symm
    · skip
      refine g_false (t := s.toList == f.toList) (hq) ?_
      refine go0 7 [] [(18, Vi (IntKind.i64.wrap ((k : Int) + 1)), Vi ((k : Int) + 1))] ?_ (hc := (And.intro (i64_wrap (by omega) (by omega)) (trivial)))
      exact g_round (k + 1) (fun X q => ⟨W1, q _ _ _ _ ⟨rfl, by kernel_rfl⟩, S2, by omega, (by rw [take_snoc' l k f hfk]; exact fun y hy => (List.mem_append.1 hy).elim (hn y) (fun e => by rw [List.mem_singleton.1 e]; exact hq))⟩) (by omega)
  · skip
    have htk : l.take k = l := by rw [hke, ← hL, List.take_length]
    rw [htk] at hn
    refine g_false (t := decide ((k : Int) < (len : Int))) (decide_eq_false (by omega)) ?_
    refine go0 2 [] [] ?_
    refine g_leave ?_
    refine go0 8 [] [] ?_
    refine hQ.to [Vi (-1)] (fun H sH => ?_)
    exact congrArg (Value.int .i64) (fidx_none _ l hn).symm
def memS (l : List ByteArray) (s : ByteArray) : Bool := l.any fun y => s.toList == y.toList
theorem memS_iff {l : List ByteArray} {s : ByteArray} : memS l s = true ↔ s ∈ l := by
  unfold memS
  rw [List.any_eq_true]
  constructor
  · rintro ⟨y, hy, q⟩
    rw [tl_dec] at q
    rw [of_decide_eq_true q]; exact hy
  · intro hm
    exact ⟨s, hm, tl_yes rfl⟩
theorem memS_no {l : List ByteArray} {s : ByteArray} (h : s ∉ l) : memS l s = false := by
  rw [Bool.eq_false_iff]; exact fun q => h (memS_iff.1 q)
theorem contS_any (l : List ByteArray) (v : Value) (s : ByteArray) (h : Vw) (hr : RS h 1 v (strRows l)) (hl : l.length ≤ 1000000) : C0 Try.prog 17 #[v, .string s] h (fun r _ => r = .bool (memS l s)) := by
  have hi := fun H q => idxS_any l v s H q hl
  have e : decide (0 ≤ fidx (fun y : ByteArray => s.toList == y.toList) l) = memS l s := fidx_dec _ _
  generalize fidx (fun y : ByteArray => s.toList == y.toList) l = p at *
  obtain ⟨A, cap, rfl, -, -, -⟩ := hr.form
  refine g_con Try.func17 fun hbx hbad Q hQ => ?_
  refine go0 15 [.cl 34 #[.slice A ((strRows l).length) cap, .string s] (Vi p)] [] ?_ (ho := (And.intro (fun H sH => hi _ (hr.sees sH)) (trivial)))
  refine hQ.to [.bool (decide (p ≥ 0))] (fun H sH => ?_)
  exact congrArg Value.bool e

end Go.Proofs.Ythgcgciceejicaa

namespace Go.Proofs.Ythgcgciceejicaa
open Go.RowKit
set_option linter.unusedVariables false

theorem info_str : (Try.prog.info? 9).map (fun i => (i.zero, i.size, i.bytes)) = some (some (.string ⟨#[]⟩), 1, 16) := by kernel_rfl

set_option maxRecDepth 100000 in
set_option maxHeartbeats 2000000 in
theorem clone_str (v : Value) (l : List (List Value)) (w : World) (h : Sl w 1 v l) (hk : Len 1 l) (h1 : One l) (hl : l.length * 16 ≤ 140737488355328) :
    Calls Try.prog 23 #[v] w (GivesOwn 9 1 l w) := by
  have q22 : ∀ (w : World) (a : Option Addr) (n c n' c' : Nat), (binOp .eql 31 (.slice a n c) (.slice none n' c')).run Try.prog w = .ok (.bool a.isNone) w := fun w a n c n' c' => Lib.run_eql_slice_nil w _ _ a n c n' c' Try.underlying31
  obtain ⟨A, cap, rfl, c1, c2, hA⟩ := h.form
  cases A with
  | none =>
    obtain rfl := hA rfl
    have h0 : l.length = 0 := by omega
    obtain rfl := List.length_eq_zero_iff.1 h0
    go_enter Try.func23, Try.ntmps23
    go_wp2_with fail
    go_ret
    exact ⟨_, rfl, ⟨by simp, .inl ⟨rfl, rfl⟩⟩, Evo.refl _⟩
  | some a =>
    have HR := Lib.hid h
    have HK := Lib.hid hk
    have H1 := Lib.hid h1
    clear h hk h1
    go_enter Try.func23, Try.ntmps23
    go_wp2_with (at_builtin; refine wpList_append_rows rfl (.tmp 5) (.tmp 6) 31 rfl 9 _ 1 16 Try.underlying31 info_str rfl (by decide) w ((Evo.refl _).alloc _) [] l _ _ rfl rfl ⟨World.ownsRow_made w #[] 0 (Nat.le_refl _) (Nat.zero_le _) (by simp)⟩ (HR.out.at ((Evo.refl _).alloc _)) HK.out H1.out ?c1 ?c2 ?_)
    case c1 => simp; omega
    case c2 => simpa using hl
    intro v' w1 hown hbl hg
    have HW := Lib.hid (⟨hown, hbl⟩ : Own w1 w.heap.size 9 1 v' ([] ++ l).length ([] ++ l).flatten ∧ Evo w w1)
    clear hown hg hbl
    go_wp2_with fail
    go_ret
    exact ⟨_, rfl, HW.out.1, HW.out.2⟩

theorem c_cloneS {h : Vw} {v : Value} {l : List ByteArray} (hr : RS h 1 v (strRows l)) (hl : l.length ≤ 1000000) : CRow Try.prog 23 #[v] h 9 1 (fun _ rows => rows = strRows l) :=
  CRow.of_own (str_len l) (clone_str v (strRows l) h.w (Sl.of_rs hr) (str_len _) (str_one _) (by rw [List.length_map]; omega))

end Go.Proofs.Ythgcgciceejicaa
