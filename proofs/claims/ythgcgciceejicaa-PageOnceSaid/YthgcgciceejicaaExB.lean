/-
  Formulas that may be; the contracts of expr.part, parts, Check.
-/
import Derived.Test.YthgcgciceejicaaGo
import Derived.Test.YthgcgciceejicaaExA
import Derived.Test.YthgcgciceejicaaLexP
import Derived.Test.YthgcgciceejicaaSx
namespace Go.Proofs.Ythgcgciceejicaa
open Go.RowKit
abbrev shapesA : Array Value := #[.string ⟨#[]⟩, .int .i64 0, .int .i64 0, .string ⟨#[]⟩, .int .i64 7, .int .i64 0, .string ⟨#[]⟩, .int .i64 7, .int .i64 0, .string ⟨#[45]⟩, .int .i64 6, .int .i64 1, .string ⟨#[110, 111, 116]⟩, .int .i64 6, .int .i64 1, .string ⟨#[42]⟩, .int .i64 5, .int .i64 2, .string ⟨#[47]⟩, .int .i64 5, .int .i64 2, .string ⟨#[37]⟩, .int .i64 5, .int .i64 2, .string ⟨#[43]⟩, .int .i64 4, .int .i64 2, .string ⟨#[45]⟩, .int .i64 4, .int .i64 2, .string ⟨#[38]⟩, .int .i64 4, .int .i64 2, .string ⟨#[60]⟩, .int .i64 3, .int .i64 2, .string ⟨#[60, 61]⟩, .int .i64 3, .int .i64 2, .string ⟨#[61]⟩, .int .i64 3, .int .i64 2, .string ⟨#[33, 61]⟩, .int .i64 3, .int .i64 2, .string ⟨#[97, 110, 100]⟩, .int .i64 2, .int .i64 2, .string ⟨#[111, 114]⟩, .int .i64 1, .int .i64 2, .string ⟨#[105, 102]⟩, .int .i64 7, .int .i64 3, .string ⟨#[108, 101, 110]⟩, .int .i64 7, .int .i64 1]
abbrev shapesL : List Value := [.string ⟨#[]⟩, .int .i64 0, .int .i64 0, .string ⟨#[]⟩, .int .i64 7, .int .i64 0, .string ⟨#[]⟩, .int .i64 7, .int .i64 0, .string ⟨#[45]⟩, .int .i64 6, .int .i64 1, .string ⟨#[110, 111, 116]⟩, .int .i64 6, .int .i64 1, .string ⟨#[42]⟩, .int .i64 5, .int .i64 2, .string ⟨#[47]⟩, .int .i64 5, .int .i64 2, .string ⟨#[37]⟩, .int .i64 5, .int .i64 2, .string ⟨#[43]⟩, .int .i64 4, .int .i64 2, .string ⟨#[45]⟩, .int .i64 4, .int .i64 2, .string ⟨#[38]⟩, .int .i64 4, .int .i64 2, .string ⟨#[60]⟩, .int .i64 3, .int .i64 2, .string ⟨#[60, 61]⟩, .int .i64 3, .int .i64 2, .string ⟨#[61]⟩, .int .i64 3, .int .i64 2, .string ⟨#[33, 61]⟩, .int .i64 3, .int .i64 2, .string ⟨#[97, 110, 100]⟩, .int .i64 2, .int .i64 2, .string ⟨#[111, 114]⟩, .int .i64 1, .int .i64 2, .string ⟨#[105, 102]⟩, .int .i64 7, .int .i64 3, .string ⟨#[108, 101, 110]⟩, .int .i64 7, .int .i64 1]

/-- How many arguments an operation has. -/
def arity (op : Int) : Nat := if op ≤ 2 then 0 else if op = 3 ∨ op = 4 ∨ op = 18 then 1 else if op = 17 then 3 else 2
/-- A formula may be, by itself. -/
def TopOk (x : Ex) : Prop :=
  (x.op = 1 ∧ KnownV x.k x.n x.s ∧ (x.k = 1 → 0 ≤ x.n) ∧ x.nm = ⟨#[]⟩ ∧ x.args.length = 0) ∨
  (x.op = 2 ∧ NameOk x.nm.data.toList ∧ x.k = 0 ∧ x.n = 0 ∧ x.s = ⟨#[]⟩ ∧ x.args.length = 0) ∨
  (3 ≤ x.op ∧ x.op ≤ 18 ∧ x.k = 0 ∧ x.n = 0 ∧ x.s = ⟨#[]⟩ ∧ x.nm = ⟨#[]⟩ ∧ x.args.length = arity x.op)

theorem c_name (s : ByteArray) (h : Vw) (hs : NameOk s.data.toList) : C0 Try.prog 15 #[.string s] h (fun v _ => v = .int .i64 0) := C0.of_same (fun w => name_yes s w hs) h
theorem c_known (k n : Int) (s : ByteArray) (h : Vw) (hk : KnownV k n s) : C0 Try.prog 50 #[.agg #[.int .i64 k, .int .i64 n, .string s]] h (fun v _ => v = .bool true) := C0.of_gives (fun w => known_true k n s w hk) h

set_option maxRecDepth 100000 in
theorem shapes_any (h : Vw) : C0 Try.prog 49 #[] h (fun v _ => v = .agg shapesA) := by
  refine g_con Try.func49 fun hbx hbad Q hQ => ?_
  refine go1 30 [.own, .b 0 0] [] ?_
  intro b1
  refine hQ.to [.agg shapesA] (fun H sH => ?_) (ix := [0])
  show pack _ = Value.agg shapesA; kernel_rfl

set_option maxRecDepth 100000 in
theorem part_const (k n : Int) (s : ByteArray) (A : Option Addr) (c : Nat) (h : Vw) (hk : KnownV k n s) (hn : k = 1 → 0 ≤ n) :
    C0 Try.prog 47 #[.agg #[.int .i64 1, .int .i64 k, .int .i64 n, .string s, .string ⟨#[]⟩, .slice A 0 c]] h (fun v _ => v = .int .i64 0) := by
  have hkn := c_known k n s
  have hkk := known_kind hk
  obtain rfl | rfl | rfl : k = 1 ∨ k = 2 ∨ k = 3 := by omega
  · refine g_con Try.func47 fun hbx hbad Q hQ => ?_
    refine gov1 24 [.fix, .f 0 0, .f 0 0] [] ?_
    intro b1 W2 S3
    refine g_reg 9 0 [.pu, .lf 0 5, .pu, .v (fun gh => .agg shapesA), .pu, .lf 0 0, .pu, .pu, .pu] [] (trivial) ?_ ?_
    · intro R hT hA hmono
      refine And.intro (t_v hT hA hmono (k := 49) (args := (fun gh => #[])) (f := fun gh => .agg shapesA) (fun gh H sH fH lent => shapes_any _)) ?_
      trivial
    rintro W4 S5 -
    refine go0 44 [.f 0 0, .f 0 4, .f 0 1, .cl 50 #[.agg #[Vi 1, Vi n, .string s]] (.bool true), .f 0 1, .f 0 2] [] ?_ (ho := (And.intro (fun H sH => hkn _ hk) (trivial)))
    refine g_false (t := decide (n < 0)) (decide_eq_false (by have := hn rfl; omega)) ?_
    refine go0 9 [] [] ?_
    refine hQ.to [Vi 0] (fun H sH => ?_)
    exact rfl
  · refine g_con Try.func47 fun hbx hbad Q hQ => ?_
    refine gov1 24 [.fix, .f 0 0, .f 0 0] [] ?_
    intro b1 W2 S3
    refine g_reg 9 0 [.pu, .lf 0 5, .pu, .v (fun gh => .agg shapesA), .pu, .lf 0 0, .pu, .pu, .pu] [] (trivial) ?_ ?_
    · intro R hT hA hmono
      refine And.intro (t_v hT hA hmono (k := 49) (args := (fun gh => #[])) (f := fun gh => .agg shapesA) (fun gh H sH fH lent => shapes_any _)) ?_
      trivial
    rintro W4 S5 -
    refine go0 54 [.f 0 0, .f 0 4, .f 0 1, .cl 50 #[.agg #[Vi 2, Vi n, .string s]] (.bool true), .f 0 1] [] ?_ (ho := (And.intro (fun H sH => hkn _ hk) (trivial)))
    refine hQ.to [Vi 0] (fun H sH => ?_)
    exact rfl
  · refine g_con Try.func47 fun hbx hbad Q hQ => ?_
    refine gov1 24 [.fix, .f 0 0, .f 0 0] [] ?_
    intro b1 W2 S3
    refine g_reg 9 0 [.pu, .lf 0 5, .pu, .v (fun gh => .agg shapesA), .pu, .lf 0 0, .pu, .pu, .pu] [] (trivial) ?_ ?_
    · intro R hT hA hmono
      refine And.intro (t_v hT hA hmono (k := 49) (args := (fun gh => #[])) (f := fun gh => .agg shapesA) (fun gh H sH fH lent => shapes_any _)) ?_
      trivial
    rintro W4 S5 -
    refine go0 54 [.f 0 0, .f 0 4, .f 0 1, .cl 50 #[.agg #[Vi 3, Vi n, .string s]] (.bool true), .f 0 1] [] ?_ (ho := (And.intro (fun H sH => hkn _ hk) (trivial)))
    refine hQ.to [Vi 0] (fun H sH => ?_)
    exact rfl

set_option maxRecDepth 100000 in
theorem part_ref (s : ByteArray) (A : Option Addr) (c : Nat) (h : Vw) (hs : NameOk s.data.toList) :
    C0 Try.prog 47 #[.agg #[.int .i64 2, .int .i64 0, .int .i64 0, .string ⟨#[]⟩, .string s, .slice A 0 c]] h (fun v _ => v = .int .i64 0) := by
  have hc := c_name s
  refine g_con Try.func47 fun hbx hbad Q hQ => ?_
  refine gov1 24 [.fix, .f 0 0, .f 0 0] [] ?_
  intro b1 W2 S3
  refine g_reg 9 0 [.pu, .lf 0 5, .pu, .v (fun gh => .agg shapesA), .pu, .lf 0 0, .pu, .pu, .pu] [] (trivial) ?_ ?_
  · intro R hT hA hmono
    refine And.intro (t_v hT hA hmono (k := 49) (args := (fun gh => #[])) (f := fun gh => .agg shapesA) (fun gh H sH fH lent => shapes_any _)) ?_
    trivial
  rintro W4 S5 -
  refine go0 50 [.f 0 0, .f 0 4, .cl 15 #[.string s] (Vi 0), .f 0 1] [] ?_ (ho := (And.intro (fun H sH => hc _ hs) (trivial)))
  refine hQ.to [Vi 0] (fun H sH => ?_)
  exact rfl

set_option maxRecDepth 100000 in
theorem part_op (op : Int) (A : Option Addr) (c : Nat) (h : Vw) (h1 : 3 ≤ op) (h2 : op ≤ 18) :
    C0 Try.prog 47 #[.agg #[.int .i64 op, .int .i64 0, .int .i64 0, .string ⟨#[]⟩, .string ⟨#[]⟩, .slice A (arity op) c]] h (fun v _ => v = .int .i64 0) := by
  obtain rfl | rfl | rfl | rfl | rfl | rfl | rfl | rfl | rfl | rfl | rfl | rfl | rfl | rfl | rfl | rfl : op = 3 ∨ op = 4 ∨ op = 5 ∨ op = 6 ∨ op = 7 ∨ op = 8 ∨ op = 9 ∨ op = 10 ∨ op = 11 ∨ op = 12 ∨ op = 13 ∨ op = 14 ∨ op = 15 ∨ op = 16 ∨ op = 17 ∨ op = 18 := by omega
  · rw [show arity 3 = 1 from rfl]
    refine g_con Try.func47 fun hbx hbad Q hQ => ?_
    refine gov1 24 [.fix, .f 0 0, .f 0 0] [] ?_
    intro b1 W2 S3
    refine g_reg 9 0 [.pu, .lf 0 5, .pu, .v (fun gh => .agg shapesA), .pu, .lf 0 0, .pu, .pu, .pu] [] (trivial) ?_ ?_
    · intro R hT hA hmono
      refine And.intro (t_v hT hA hmono (k := 49) (args := (fun gh => #[])) (f := fun gh => .agg shapesA) (fun gh H sH fH lent => shapes_any _)) ?_
      trivial
    rintro W4 S5 -
    refine go0 49 [.f 0 0, .f 0 4, .f 0 1] [] ?_
    refine hQ.to [Vi 0] (fun H sH => ?_)
    exact rfl
  · rw [show arity 4 = 1 from rfl]
    refine g_con Try.func47 fun hbx hbad Q hQ => ?_
    refine gov1 24 [.fix, .f 0 0, .f 0 0] [] ?_
    intro b1 W2 S3
    refine g_reg 9 0 [.pu, .lf 0 5, .pu, .v (fun gh => .agg shapesA), .pu, .lf 0 0, .pu, .pu, .pu] [] (trivial) ?_ ?_
    · intro R hT hA hmono
      refine And.intro (t_v hT hA hmono (k := 49) (args := (fun gh => #[])) (f := fun gh => .agg shapesA) (fun gh H sH fH lent => shapes_any _)) ?_
      trivial
    rintro W4 S5 -
    refine go0 49 [.f 0 0, .f 0 4, .f 0 1] [] ?_
    refine hQ.to [Vi 0] (fun H sH => ?_)
    exact rfl
  · rw [show arity 5 = 2 from rfl]
    refine g_con Try.func47 fun hbx hbad Q hQ => ?_
    refine gov1 24 [.fix, .f 0 0, .f 0 0] [] ?_
    intro b1 W2 S3
    refine g_reg 9 0 [.pu, .lf 0 5, .pu, .v (fun gh => .agg shapesA), .pu, .lf 0 0, .pu, .pu, .pu] [] (trivial) ?_ ?_
    · intro R hT hA hmono
      refine And.intro (t_v hT hA hmono (k := 49) (args := (fun gh => #[])) (f := fun gh => .agg shapesA) (fun gh H sH fH lent => shapes_any _)) ?_
      trivial
    rintro W4 S5 -
    refine go0 49 [.f 0 0, .f 0 4, .f 0 1] [] ?_
    refine hQ.to [Vi 0] (fun H sH => ?_)
    exact rfl
  · rw [show arity 6 = 2 from rfl]
    refine g_con Try.func47 fun hbx hbad Q hQ => ?_
    refine gov1 24 [.fix, .f 0 0, .f 0 0] [] ?_
    intro b1 W2 S3
    refine g_reg 9 0 [.pu, .lf 0 5, .pu, .v (fun gh => .agg shapesA), .pu, .lf 0 0, .pu, .pu, .pu] [] (trivial) ?_ ?_
    · intro R hT hA hmono
      refine And.intro (t_v hT hA hmono (k := 49) (args := (fun gh => #[])) (f := fun gh => .agg shapesA) (fun gh H sH fH lent => shapes_any _)) ?_
      trivial
    rintro W4 S5 -
    refine go0 49 [.f 0 0, .f 0 4, .f 0 1] [] ?_
    refine hQ.to [Vi 0] (fun H sH => ?_)
    exact rfl
  · rw [show arity 7 = 2 from rfl]
    refine g_con Try.func47 fun hbx hbad Q hQ => ?_
    refine gov1 24 [.fix, .f 0 0, .f 0 0] [] ?_
    intro b1 W2 S3
    refine g_reg 9 0 [.pu, .lf 0 5, .pu, .v (fun gh => .agg shapesA), .pu, .lf 0 0, .pu, .pu, .pu] [] (trivial) ?_ ?_
    · intro R hT hA hmono
      refine And.intro (t_v hT hA hmono (k := 49) (args := (fun gh => #[])) (f := fun gh => .agg shapesA) (fun gh H sH fH lent => shapes_any _)) ?_
      trivial
    rintro W4 S5 -
    refine go0 49 [.f 0 0, .f 0 4, .f 0 1] [] ?_
    refine hQ.to [Vi 0] (fun H sH => ?_)
    exact rfl
  · rw [show arity 8 = 2 from rfl]
    refine g_con Try.func47 fun hbx hbad Q hQ => ?_
    refine gov1 24 [.fix, .f 0 0, .f 0 0] [] ?_
    intro b1 W2 S3
    refine g_reg 9 0 [.pu, .lf 0 5, .pu, .v (fun gh => .agg shapesA), .pu, .lf 0 0, .pu, .pu, .pu] [] (trivial) ?_ ?_
    · intro R hT hA hmono
      refine And.intro (t_v hT hA hmono (k := 49) (args := (fun gh => #[])) (f := fun gh => .agg shapesA) (fun gh H sH fH lent => shapes_any _)) ?_
      trivial
    rintro W4 S5 -
    refine go0 49 [.f 0 0, .f 0 4, .f 0 1] [] ?_
    refine hQ.to [Vi 0] (fun H sH => ?_)
    exact rfl
  · rw [show arity 9 = 2 from rfl]
    refine g_con Try.func47 fun hbx hbad Q hQ => ?_
    refine gov1 24 [.fix, .f 0 0, .f 0 0] [] ?_
    intro b1 W2 S3
    refine g_reg 9 0 [.pu, .lf 0 5, .pu, .v (fun gh => .agg shapesA), .pu, .lf 0 0, .pu, .pu, .pu] [] (trivial) ?_ ?_
    · intro R hT hA hmono
      refine And.intro (t_v hT hA hmono (k := 49) (args := (fun gh => #[])) (f := fun gh => .agg shapesA) (fun gh H sH fH lent => shapes_any _)) ?_
      trivial
    rintro W4 S5 -
    refine go0 49 [.f 0 0, .f 0 4, .f 0 1] [] ?_
    refine hQ.to [Vi 0] (fun H sH => ?_)
    exact rfl
  · rw [show arity 10 = 2 from rfl]
    refine g_con Try.func47 fun hbx hbad Q hQ => ?_
    refine gov1 24 [.fix, .f 0 0, .f 0 0] [] ?_
    intro b1 W2 S3
    refine g_reg 9 0 [.pu, .lf 0 5, .pu, .v (fun gh => .agg shapesA), .pu, .lf 0 0, .pu, .pu, .pu] [] (trivial) ?_ ?_
    · intro R hT hA hmono
      refine And.intro (t_v hT hA hmono (k := 49) (args := (fun gh => #[])) (f := fun gh => .agg shapesA) (fun gh H sH fH lent => shapes_any _)) ?_
      trivial
    rintro W4 S5 -
    refine go0 49 [.f 0 0, .f 0 4, .f 0 1] [] ?_
    refine hQ.to [Vi 0] (fun H sH => ?_)
    exact rfl
  · rw [show arity 11 = 2 from rfl]
    refine g_con Try.func47 fun hbx hbad Q hQ => ?_
    refine gov1 24 [.fix, .f 0 0, .f 0 0] [] ?_
    intro b1 W2 S3
    refine g_reg 9 0 [.pu, .lf 0 5, .pu, .v (fun gh => .agg shapesA), .pu, .lf 0 0, .pu, .pu, .pu] [] (trivial) ?_ ?_
    · intro R hT hA hmono
      refine And.intro (t_v hT hA hmono (k := 49) (args := (fun gh => #[])) (f := fun gh => .agg shapesA) (fun gh H sH fH lent => shapes_any _)) ?_
      trivial
    rintro W4 S5 -
    refine go0 49 [.f 0 0, .f 0 4, .f 0 1] [] ?_
    refine hQ.to [Vi 0] (fun H sH => ?_)
    exact rfl
  · rw [show arity 12 = 2 from rfl]
    refine g_con Try.func47 fun hbx hbad Q hQ => ?_
    refine gov1 24 [.fix, .f 0 0, .f 0 0] [] ?_
    intro b1 W2 S3
    refine g_reg 9 0 [.pu, .lf 0 5, .pu, .v (fun gh => .agg shapesA), .pu, .lf 0 0, .pu, .pu, .pu] [] (trivial) ?_ ?_
    · intro R hT hA hmono
      refine And.intro (t_v hT hA hmono (k := 49) (args := (fun gh => #[])) (f := fun gh => .agg shapesA) (fun gh H sH fH lent => shapes_any _)) ?_
      trivial
    rintro W4 S5 -
    refine go0 49 [.f 0 0, .f 0 4, .f 0 1] [] ?_
    refine hQ.to [Vi 0] (fun H sH => ?_)
    exact rfl
  · rw [show arity 13 = 2 from rfl]
    refine g_con Try.func47 fun hbx hbad Q hQ => ?_
    refine gov1 24 [.fix, .f 0 0, .f 0 0] [] ?_
    intro b1 W2 S3
    refine g_reg 9 0 [.pu, .lf 0 5, .pu, .v (fun gh => .agg shapesA), .pu, .lf 0 0, .pu, .pu, .pu] [] (trivial) ?_ ?_
    · intro R hT hA hmono
      refine And.intro (t_v hT hA hmono (k := 49) (args := (fun gh => #[])) (f := fun gh => .agg shapesA) (fun gh H sH fH lent => shapes_any _)) ?_
      trivial
    rintro W4 S5 -
    refine go0 49 [.f 0 0, .f 0 4, .f 0 1] [] ?_
    refine hQ.to [Vi 0] (fun H sH => ?_)
    exact rfl
  · rw [show arity 14 = 2 from rfl]
    refine g_con Try.func47 fun hbx hbad Q hQ => ?_
    refine gov1 24 [.fix, .f 0 0, .f 0 0] [] ?_
    intro b1 W2 S3
    refine g_reg 9 0 [.pu, .lf 0 5, .pu, .v (fun gh => .agg shapesA), .pu, .lf 0 0, .pu, .pu, .pu] [] (trivial) ?_ ?_
    · intro R hT hA hmono
      refine And.intro (t_v hT hA hmono (k := 49) (args := (fun gh => #[])) (f := fun gh => .agg shapesA) (fun gh H sH fH lent => shapes_any _)) ?_
      trivial
    rintro W4 S5 -
    refine go0 49 [.f 0 0, .f 0 4, .f 0 1] [] ?_
    refine hQ.to [Vi 0] (fun H sH => ?_)
    exact rfl
  · rw [show arity 15 = 2 from rfl]
    refine g_con Try.func47 fun hbx hbad Q hQ => ?_
    refine gov1 24 [.fix, .f 0 0, .f 0 0] [] ?_
    intro b1 W2 S3
    refine g_reg 9 0 [.pu, .lf 0 5, .pu, .v (fun gh => .agg shapesA), .pu, .lf 0 0, .pu, .pu, .pu] [] (trivial) ?_ ?_
    · intro R hT hA hmono
      refine And.intro (t_v hT hA hmono (k := 49) (args := (fun gh => #[])) (f := fun gh => .agg shapesA) (fun gh H sH fH lent => shapes_any _)) ?_
      trivial
    rintro W4 S5 -
    refine go0 49 [.f 0 0, .f 0 4, .f 0 1] [] ?_
    refine hQ.to [Vi 0] (fun H sH => ?_)
    exact rfl
  · rw [show arity 16 = 2 from rfl]
    refine g_con Try.func47 fun hbx hbad Q hQ => ?_
    refine gov1 24 [.fix, .f 0 0, .f 0 0] [] ?_
    intro b1 W2 S3
    refine g_reg 9 0 [.pu, .lf 0 5, .pu, .v (fun gh => .agg shapesA), .pu, .lf 0 0, .pu, .pu, .pu] [] (trivial) ?_ ?_
    · intro R hT hA hmono
      refine And.intro (t_v hT hA hmono (k := 49) (args := (fun gh => #[])) (f := fun gh => .agg shapesA) (fun gh H sH fH lent => shapes_any _)) ?_
      trivial
    rintro W4 S5 -
    refine go0 49 [.f 0 0, .f 0 4, .f 0 1] [] ?_
    refine hQ.to [Vi 0] (fun H sH => ?_)
    exact rfl
  · rw [show arity 17 = 3 from rfl]
    refine g_con Try.func47 fun hbx hbad Q hQ => ?_
    refine gov1 24 [.fix, .f 0 0, .f 0 0] [] ?_
    intro b1 W2 S3
    refine g_reg 9 0 [.pu, .lf 0 5, .pu, .v (fun gh => .agg shapesA), .pu, .lf 0 0, .pu, .pu, .pu] [] (trivial) ?_ ?_
    · intro R hT hA hmono
      refine And.intro (t_v hT hA hmono (k := 49) (args := (fun gh => #[])) (f := fun gh => .agg shapesA) (fun gh H sH fH lent => shapes_any _)) ?_
      trivial
    rintro W4 S5 -
    refine go0 49 [.f 0 0, .f 0 4, .f 0 1] [] ?_
    refine hQ.to [Vi 0] (fun H sH => ?_)
    exact rfl
  · rw [show arity 18 = 1 from rfl]
    refine g_con Try.func47 fun hbx hbad Q hQ => ?_
    refine gov1 24 [.fix, .f 0 0, .f 0 0] [] ?_
    intro b1 W2 S3
    refine g_reg 9 0 [.pu, .lf 0 5, .pu, .v (fun gh => .agg shapesA), .pu, .lf 0 0, .pu, .pu, .pu] [] (trivial) ?_ ?_
    · intro R hT hA hmono
      refine And.intro (t_v hT hA hmono (k := 49) (args := (fun gh => #[])) (f := fun gh => .agg shapesA) (fun gh H sH fH lent => shapes_any _)) ?_
      trivial
    rintro W4 S5 -
    refine go0 49 [.f 0 0, .f 0 4, .f 0 1] [] ?_
    refine hQ.to [Vi 0] (fun H sH => ?_)
    exact rfl

theorem part_any (x : Ex) (A : Option Addr) (c : Nat) (h : Vw) (hx : TopOk x) : C0 Try.prog 47 #[.agg #[.int .i64 x.op, .int .i64 x.k, .int .i64 x.n, .string x.s, .string x.nm, .slice A x.args.length c]] h (fun v _ => v = .int .i64 0) := by
  rcases hx with ⟨h1, h2, h3, h4, h5⟩ | ⟨h1, h2, h3, h4, h5, h6⟩ | ⟨h1, h2, h3, h4, h5, h6, h7⟩
  · rw [h1, h4, h5]; exact part_const _ _ _ _ _ _ h2 h3
  · rw [h1, h3, h4, h5, h6]; exact part_ref _ _ _ _ h2
  · rw [h3, h4, h5, h6, h7]; exact part_op _ _ _ _ h1 h2
/-- What is no operation. -/
theorem part_none (h : Vw) : C0 Try.prog 47 #[.agg #[.int .i64 0, .int .i64 0, .int .i64 0, .string ⟨#[]⟩, .string ⟨#[]⟩, .slice none 0 0]] h (fun v _ => v = .int .i64 2) := by
  refine g_con Try.func47 fun hbx hbad Q hQ => ?_
  refine gov1 27 [.fix, .f 0 0] [] ?_
  intro b1 W2 S3
  refine hQ.to [Vi 2] (fun H sH => ?_)
  exact rfl

/-! ### All of a formula -/
mutual
def WfE : Ex → Prop
  | .mk a b c d e args => TopOk (.mk a b c d e args) ∧ WfL args
def WfL : List Ex → Prop
  | [] => True
  | x :: l => WfE x ∧ WfL l
end
theorem WfE.top {x : Ex} (h : WfE x) : TopOk x := by
  obtain ⟨a, b, c, d, e, l⟩ := x
  rw [WfE] at h; exact h.1
theorem WfE.list {x : Ex} (h : WfE x) : WfL x.args := by
  obtain ⟨a, b, c, d, e, l⟩ := x
  rw [WfE] at h; exact h.2
theorem WfE.mk' {x : Ex} (h1 : TopOk x) (h2 : WfL x.args) : WfE x := by
  obtain ⟨a, b, c, d, e, l⟩ := x
  rw [WfE]; exact ⟨h1, h2⟩
theorem WfL.get {y : Ex} : ∀ {l : List Ex}, WfL l → y ∈ l → WfE y
  | x :: l, h, hy => by
    rw [WfL] at h
    rcases List.mem_cons.1 hy with rfl | hy
    · exact h.1
    · exact WfL.get h.2 hy
theorem WfL.all : ∀ {l : List Ex}, (∀ x ∈ l, WfE x) → WfL l
  | [], _ => by rw [WfL]; trivial
  | x :: l, h => by rw [WfL]; exact ⟨h x (by simp), WfL.all (fun y hy => h y (by simp [hy]))⟩

set_option maxRecDepth 100000 in
theorem parts_any : ∀ (m : Nat) (x : Ex) (v : Value) (h : Vw), (szE x).1 ≤ m → IsArgs h x v → WfE x → (szE x).1 < 1000000 →
    C0 Try.prog 43 #[.agg #[.int .i64 x.op, .int .i64 x.k, .int .i64 x.n, .string x.s, .string x.nm, v]] h (fun r _ => r = .int .i64 0)
  | 0, x, v, h, hm, _, _, _ => by have := szE_pos x; omega
  | m + 1, x, v, h, hm, hx, hw, hb => by
    have IH := parts_any m
    have hse := szE_eq x
    obtain ⟨vs, hr, hvs⟩ := hx.form
    obtain ⟨A, ca, rfl, hc1, hc2, -⟩ := hr.form
    have hvl := hvs.len
    have hrl := exRows_len hvl
    have hlen := szL_len x.args
    have hpa := part_any x A ca
    have hwt := hw.top
    have hwl := hw.list
    rw [hrl] at hc1 hr ⊢
    rw [hse] at hm hb
    simp only at hm hb
    generalize hL : x.args.length = len at *
    refine g_con Try.func43 fun hbx hbad Q hQ => ?_
    refine gov1 33 [.fix, .f 0 0, .cl 47 #[.agg #[Vi x.op, Vi x.k, Vi x.n, .string x.s, .string x.nm, .slice A len ca]] (Vi 0), .f 0 5] [] ?_ (ho := (And.intro (fun H sH => hpa _ hwt) (trivial)))
    intro b1 W2 S3
    refine g_loop [0, 1, 0, 1, 1] [.block 0, .seq [1, 1, 1]] (fun (k : Nat) X => ∃ (W4 : Vw) , X W4 [(13, .slice A len ca), (14, Vi (len : Int)), (15, Vi (k : Int))] [] [(b1, 0, [Vi x.op, Vi x.k, Vi x.n, .string x.s, .string x.nm, .slice A len ca])] ∧ Sees W2 W4 ∧ (k ≤ len)) (fun k => len - k) (0) (fun X q => ⟨W2, q _ _ _ _ ⟨rfl, by kernel_rfl⟩, Sees.refl _, Nat.zero_le _⟩) ?_
    rintro k a w ⟨W4, hJ, S5, hk⟩; refine g_of hJ ?_; clear hJ a w
    refine go0 6 [] [] ?_
    rcases (by omega : k < len ∨ len = k) with hlt | hke
    · obtain ⟨y, hy⟩ : ∃ y, x.args[k]? = some y := ⟨_, List.getElem?_eq_getElem (by omega)⟩
      obtain ⟨u, hu⟩ : ∃ u, vs[k]? = some u := ⟨_, List.getElem?_eq_getElem (by omega)⟩
      have hyu := AllArgs.get hvs hy hu
      obtain ⟨Au, nu, cu, rfl⟩ := hyu.slice
      have hym := szL_mem (List.mem_of_getElem? hy)
      have hyw := hwl.get (List.mem_of_getElem? hy)
      have hrow : (exRows x.args vs)[k]? = some (exRow y (.slice Au nu cu)) := by show (List.zipWith exRow _ _)[k]? = _; rw [List.getElem?_zipWith, hy, hu]
      refine g_true (t := decide ((k : Int) < (len : Int))) (decide_eq_true (by omega)) ?_
      refine go0 6 [] [] ?_
      obtain ⟨b6, o7, rfl, -, c8⟩ := RS.row hr (hrow)
      refine g_fact (c8.sees (S3.trans S5)) ?_
      refine go1 27 [.ix b6 o7 len ca k, .f 0 0, .own, .b 0 0, .b 0 0, .cl 43 #[.agg #[Vi y.op, Vi y.k, Vi y.n, .string y.s, .string y.nm, .slice Au nu cu]] (Vi 0)] [(24, Vi (IntKind.i64.wrap ((k : Int) + 1)), Vi ((k : Int) + 1))] ?_ (ho := (And.intro (by first | omega | (simp; omega)) (And.intro (fun H sH => IH y _ _ (by omega) (hyu.sees (S3.trans (S5.trans sH))) hyw (by omega)) (trivial)))) (hc := (And.intro (i64_wrap (by omega) (by omega)) (trivial)))
      intro b9
      exact g_round (k + 1) (fun X q => ⟨W4, q _ _ _ _ ⟨rfl, by kernel_rfl⟩, S5, by omega⟩) (by omega)
    · skip
      refine g_false (t := decide ((k : Int) < (len : Int))) (decide_eq_false (by omega)) ?_
      refine go0 2 [] [] ?_
      refine g_leave ?_
      refine go0 8 [] [] ?_
      refine hQ.to [Vi 0] (fun H sH => ?_)
      exact rfl

/-- What Check says of a formula that may be but for its size. -/
def chkE (x : Ex) : Int := if 60 < (szE x).1 then 1 else if 12 < (szE x).2 then 4 else 0

set_option maxRecDepth 100000 in
theorem check_any (x : Ex) (v : Value) (h : Vw) (hx : IsArgs h x v) (hw : WfE x) (hb : (szE x).1 < 1000000) : C0 Try.prog 37 #[.agg #[.int .i64 x.op, .int .i64 x.k, .int .i64 x.n, .string x.s, .string x.nm, v]] h (fun r _ => r = .int .i64 (chkE x)) := by
  obtain ⟨A, na, ca, rfl⟩ := hx.slice
  have hse := fun H hq => size_any _ x (.slice A na ca) H (Nat.le_refl _) hq hb
  have hpa := fun H hq => parts_any _ x (.slice A na ca) H (Nat.le_refl _) hq hw hb
  by_cases g1 : 60 < (szE x).1
  · refine g_con Try.func37 fun hbx hbad Q hQ => ?_
    refine gov1 24 [.fix, .f 0 0, .cl 42 #[.agg #[Vi x.op, Vi x.k, Vi x.n, .string x.s, .string x.nm, .slice A na ca]] (.tuple #[Vi ((szE x).1 : Int), Vi ((szE x).2 : Int)])] [] ?_ (ho := (And.intro (fun H sH => hse _ (hx.sees sH)) (trivial)))
    intro b1 W2 S3
    refine g_true (t := decide (((szE x).1 : Int) > 60)) (decide_eq_true (by omega)) ?_
    refine go0 7 [] [] ?_
    refine hQ.to [Vi 1] (fun H sH => ?_)
    exact congrArg (Value.int .i64) (by unfold chkE; rw [if_pos g1])
  · by_cases g2 : 12 < (szE x).2
    · refine g_con Try.func37 fun hbx hbad Q hQ => ?_
      refine gov1 24 [.fix, .f 0 0, .cl 42 #[.agg #[Vi x.op, Vi x.k, Vi x.n, .string x.s, .string x.nm, .slice A na ca]] (.tuple #[Vi ((szE x).1 : Int), Vi ((szE x).2 : Int)])] [] ?_ (ho := (And.intro (fun H sH => hse _ (hx.sees sH)) (trivial)))
      intro b1 W2 S3
      refine g_false (t := decide (((szE x).1 : Int) > 60)) (decide_eq_false (by omega)) ?_
      refine go0 9 [] [] ?_
      refine g_true (t := decide (((szE x).2 : Int) > 12)) (decide_eq_true (by omega)) ?_
      refine go0 7 [] [] ?_
      refine hQ.to [Vi 4] (fun H sH => ?_)
      exact congrArg (Value.int .i64) (by unfold chkE; rw [if_neg g1, if_pos g2])
    · refine g_con Try.func37 fun hbx hbad Q hQ => ?_
      refine gov1 24 [.fix, .f 0 0, .cl 42 #[.agg #[Vi x.op, Vi x.k, Vi x.n, .string x.s, .string x.nm, .slice A na ca]] (.tuple #[Vi ((szE x).1 : Int), Vi ((szE x).2 : Int)])] [] ?_ (ho := (And.intro (fun H sH => hse _ (hx.sees sH)) (trivial)))
      intro b1 W2 S3
      refine g_false (t := decide (((szE x).1 : Int) > 60)) (decide_eq_false (by omega)) ?_
      refine go0 9 [] [] ?_
      refine g_false (t := decide (((szE x).2 : Int) > 12)) (decide_eq_false (by omega)) ?_
      refine go0 10 [.f 0 0, .cl 43 #[.agg #[Vi x.op, Vi x.k, Vi x.n, .string x.s, .string x.nm, .slice A na ca]] (Vi 0)] [] ?_ (ho := (And.intro (fun H sH => hpa _ (hx.sees (S3.trans sH))) (trivial)))
      refine hQ.to [Vi 0] (fun H sH => ?_)
      exact congrArg (Value.int .i64) (by unfold chkE; rw [if_neg g1, if_neg g2])

theorem parts_none (h : Vw) : C0 Try.prog 43 #[.agg #[.int .i64 0, .int .i64 0, .int .i64 0, .string ⟨#[]⟩, .string ⟨#[]⟩, .slice none 0 0]] h (fun r _ => r = .int .i64 2) := by
  refine g_con Try.func43 fun hbx hbad Q hQ => ?_
  refine gov1 29 [.fix, .f 0 0, .cl 47 #[.agg #[Vi 0, Vi 0, Vi 0, Ve, Ve, Vz]] (Vi 2)] [] ?_ (ho := (And.intro (fun H sH => part_none _) (trivial)))
  intro b1 W2 S3
  refine hQ.to [Vi 2] (fun H sH => ?_)
  exact rfl
set_option maxRecDepth 100000 in
theorem check_none (h : Vw) : C0 Try.prog 37 #[.agg #[.int .i64 0, .int .i64 0, .int .i64 0, .string ⟨#[]⟩, .string ⟨#[]⟩, .slice none 0 0]] h (fun r _ => r = .int .i64 2) := by
  have hse := fun H => size_any 1 (.mk 0 0 0 ⟨#[]⟩ ⟨#[]⟩ []) (.slice none 0 0) H (Nat.le_refl _) (args_nil _ _ rfl) (by decide)
  refine g_con Try.func37 fun hbx hbad Q hQ => ?_
  refine gov1 45 [.fix, .f 0 0, .cl 42 #[.agg #[Vi 0, Vi 0, Vi 0, Ve, Ve, Vz]] (.tuple #[Vi 1, Vi 1]), .f 0 0, .cl 43 #[.agg #[Vi 0, Vi 0, Vi 0, Ve, Ve, Vz]] (Vi 2)] [] ?_ (ho := (And.intro (fun H sH => hse _) (And.intro (fun H sH => parts_none _) (trivial))))
  intro b1 W2 S3
  refine hQ.to [Vi 2] (fun H sH => ?_)
  exact rfl

end Go.Proofs.Ythgcgciceejicaa
