/-
  Contracts of typing.Of, typing.Fits.
-/
import Derived.Test.YthgcgciceejicaaGo
import Derived.Test.YthgcgciceejicaaTyR
import Derived.Test.YthgcgciceejicaaExB
import Derived.Test.YthgcgciceejicaaSome
namespace Go.Proofs.Ythgcgciceejicaa
open Go.RowKit

def mpB : Value → Nat | .map (some b) => b | _ => 0
theorem types_u (fs : List Fd) (v : Value) (h : Vw) (hf : IsFds h v fs) : C0 Try.prog 39 #[v] h (fun r h' => ∃ u, r = .map (some (mpB u)) ∧ TypesAt h' (mpB u) (tyF fs)) := by
  intro a b c d
  refine (types_any fs v h hf a b c d).mono ?_
  rintro e w' ⟨v, Bo, rfl, h1, h2, h3, b, rfl, h4⟩
  exact ⟨_, Bo, rfl, h1, h2, h3, .map (some b), rfl, h4⟩
theorem rules_u (h : Vw) : C0 Try.prog 40 #[] h (fun r h' => ∃ u, r = .map (some (mpB u)) ∧ RulesAt h' (mpB u)) := by
  intro a b c d
  refine (rules_any h a b c d).mono ?_
  rintro e w' ⟨v, Bo, rfl, h1, h2, h3, b, rfl, h4⟩
  exact ⟨_, Bo, rfl, h1, h2, h3, .map (some b), rfl, h4⟩

/-- The type of a formula whose size is looked at first. -/
def ofE (fs : List Fd) (x : Ex) : Int × Int := if chkE x = 0 then tyE (tyF fs) x else (0, chkE x)

set_option maxRecDepth 100000 in
theorem tyOf_any (fs : List Fd) (x : Ex) (v fv : Value) (h : Vw) (hx : IsArgs h x v) (hw : WfE x) (hb : (szE x).1 < 1000000) (hf : IsFds h fv fs) :
    C0 Try.prog 35 #[.agg #[.int .i64 x.op, .int .i64 x.k, .int .i64 x.n, .string x.s, .string x.nm, v], fv] h (fun r _ => r = .tuple #[.int .i64 (ofE fs x).1, .int .i64 (ofE fs x).2]) := by
  obtain ⟨A, n, c, rfl⟩ := hx.slice
  obtain ⟨Af, nf, cf, rfl⟩ : ∃ A n c, fv = .slice A n c := by
    obtain ⟨vs, hr, -⟩ := hf
    obtain ⟨A, c, e, -⟩ := hr.form
    exact ⟨_, _, _, e⟩
  have hck := fun H q => check_any x (.slice A n c) H q hw hb
  have hO := fun fb rb H q1 q2 q3 => tyof_any (tyF fs) fb rb _ x (.slice A n c) H (Nat.le_refl _) q1 hw q2 q3
  have hTy := fun H q => types_u fs (.slice Af nf cf) H q
  unfold ofE
  generalize chkE x = e at *
  generalize tyE (tyF fs) x = ty at *
  refine g_con Try.func35 fun hbx hbad Q hQ => ?_
  refine go1 21 [.own, .b 0 0, .cl 37 #[.agg #[Vi x.op, Vi x.k, Vi x.n, .string x.s, .string x.nm, .slice A n c]] (Vi e)] [] ?_ (ho := (And.intro (fun H sH => hck _ (hx.sees sH)) (trivial)))
  intro b1
  by_cases he : e = 0
  · skip
    refine g_false (t := e != 0) (bne_eq_false_iff_eq.2 he) ?_
    refine go0 3 [] [] ?_
    refine g_reg 9 0 [.ld 0 0, .pu, .f (fun gh => .map (some (mpB (gh 2)))) (fun gh hh => TypesAt hh (mpB (gh 2)) (tyF fs)), .f (fun gh => .map (some (mpB (gh 3)))) (fun gh hh => RulesAt hh (mpB (gh 3))), .v (fun gh => .tuple #[Vi ty.1, Vi ty.2]), .pu, .pu, .pu, .pu] [(2, false), (3, false)] (And.intro (fun _ _ _ s c => c.sees s) (And.intro (fun _ _ _ s c => c.sees s) (trivial))) ?_ ?_
    · intro R hT hA hmono
      refine And.intro (r_call hT hA hmono ⟨fun _ _ => by kernel_rfl, fun _ _ => by kernel_rfl, fun _ _ => by kernel_rfl⟩ 14 (fun u => .map (some (mpB u))) [1] 2 (by kernel_rfl) (by kernel_rfl) (fun _ => by kernel_rfl) 39 (fun gh => #[.slice Af nf cf]) (fun _ _ => by kernel_rfl) (fun gh H sH fH lent => C0.facts (R := R) (x := gh) (i := 2) (n := 0) (F := (fun u => .map (some (mpB u)))) (G := fun u hh => TypesAt hh (mpB u) (tyF fs)) (f := fun gh hh => TypesAt hh (mpB (gh 2)) (tyF fs)) (hTy _ (hf.sees sH)) (by kernel_rfl) (by kernel_rfl) (fun _ _ r => r))) ?_
      refine And.intro (r_call hT hA hmono ⟨fun _ _ => by kernel_rfl, fun _ _ => by kernel_rfl, fun _ _ => by kernel_rfl⟩ 15 (fun u => .map (some (mpB u))) [2] 3 (by kernel_rfl) (by kernel_rfl) (fun _ => by kernel_rfl) 40 (fun gh => #[]) (fun _ _ => by kernel_rfl) (fun gh H sH fH lent => C0.facts (R := R) (x := gh) (i := 3) (n := 1) (F := (fun u => .map (some (mpB u)))) (G := fun u hh => RulesAt hh (mpB u)) (f := fun gh hh => RulesAt hh (mpB (gh 3))) (rules_u _) (by kernel_rfl) (by kernel_rfl) (fun _ _ r => r))) ?_
      refine And.intro (t_v hT hA hmono (k := 38) (args := (fun gh => #[.agg #[Vi x.op, Vi x.k, Vi x.n, .string x.s, .string x.nm, .slice A n c], .map (some (mpB (gh 2))), .map (some (mpB (gh 3)))])) (f := fun gh => .tuple #[Vi ty.1, Vi ty.2]) (fun gh H sH fH lent => hO _ _ _ (hx.sees sH) (fH 0 _ rfl (by kernel_rfl)) (fH 1 _ rfl (by kernel_rfl)))) ?_
      trivial
    rintro u14 u15 W2 S3 ⟨f14, f15, -⟩
    replace f14 : TypesAt W2 (mpB u14) (tyF fs) := f14
    replace f15 : RulesAt W2 (mpB u15) := f15
    refine go0 2 [] [] ?_
    refine hQ.to [Vi ty.1, Vi ty.2] (fun H sH => ?_)
    rw [if_pos he]; rfl
  · skip
    refine g_true (t := e != 0) (bne_iff_ne.2 he) ?_
    refine go0 9 [] [] ?_
    refine hQ.to [Vi 0, Vi e] (fun H sH => ?_)
    rw [if_neg he]; rfl

/-- Does a formula fit? -/
def fitsE (fs : List Fd) (x : Ex) (want : Int) : Int := if (ofE fs x).2 = 0 then (if (ofE fs x).1 = want then 0 else 9) else (ofE fs x).2

set_option maxRecDepth 100000 in
theorem fits_any (fs : List Fd) (x : Ex) (v fv : Value) (want : Int) (h : Vw) (hx : IsArgs h x v) (hw : WfE x) (hb : (szE x).1 < 1000000) (hf : IsFds h fv fs) :
    C0 Try.prog 19 #[.agg #[.int .i64 x.op, .int .i64 x.k, .int .i64 x.n, .string x.s, .string x.nm, v], fv, .int .i64 want] h (fun r _ => r = .int .i64 (fitsE fs x want)) := by
  obtain ⟨A, n, c, rfl⟩ := hx.slice
  obtain ⟨Af, nf, cf, rfl⟩ : ∃ A n c, fv = .slice A n c := by
    obtain ⟨vs, hr, -⟩ := hf
    obtain ⟨A, c, e, -⟩ := hr.form
    exact ⟨_, _, _, e⟩
  have hO := fun H q1 q2 => tyOf_any fs x (.slice A n c) (.slice Af nf cf) H q1 hw hb q2
  unfold fitsE
  generalize ofE fs x = ty at *
  refine g_con Try.func19 fun hbx hbad Q hQ => ?_
  refine go1 25 [.own, .b 0 0, .cl 35 #[.agg #[Vi x.op, Vi x.k, Vi x.n, .string x.s, .string x.nm, .slice A n c], .slice Af nf cf] (.tuple #[Vi ty.1, Vi ty.2])] [] ?_ (ho := (And.intro (fun H sH => hO _ (hx.sees sH) (hf.sees sH)) (trivial)))
  intro b1
  by_cases he : ty.2 = 0
  · refine g_false (t := ty.2 != 0) (bne_eq_false_iff_eq.2 he) ?_
    refine go0 10 [] [] ?_
    by_cases hw : ty.1 = want
    · refine g_false (t := ty.1 != want) (bne_eq_false_iff_eq.2 hw) ?_
      refine go0 8 [] [] ?_
      refine hQ.to [Vi 0] (fun H sH => ?_)
      rw [if_pos he, if_pos hw]; rfl
    · skip
      refine g_true (t := ty.1 != want) (bne_iff_ne.2 hw) ?_
      refine go0 7 [] [] ?_
      refine hQ.to [Vi 9] (fun H sH => ?_)
      rw [if_pos he, if_neg hw]; rfl
  · skip
    refine g_true (t := ty.2 != 0) (bne_iff_ne.2 he) ?_
    refine go0 8 [] [] ?_
    refine hQ.to [Vi ty.2] (fun H sH => ?_)
    rw [if_neg he]; rfl

end Go.Proofs.Ythgcgciceejicaa
