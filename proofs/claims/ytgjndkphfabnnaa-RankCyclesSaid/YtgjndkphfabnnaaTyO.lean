/-
  Contracts of typing.Of, typing.Fits.
-/
import Derived.Test.YtgjndkphfabnnaaTyR
import Derived.Test.YtgjndkphfabnnaaExB
import Derived.Test.YtgjndkphfabnnaaSome
namespace Go.Proofs.Ytgjndkphfabnnaa
open Go.RowKit

def mpB : Value → Nat | .map (some b) => b | _ => 0
theorem types_u (fs : List Fd) (v : Value) (h : Vw) (hf : IsFds h v fs) : C0 Try.prog 122 #[v] h (fun r h' => ∃ u, r = .map (some (mpB u)) ∧ TypesAt h' (mpB u) (tyF fs)) := by
  intro a b c d
  refine (types_any fs v h hf a b c d).mono ?_
  rintro e w' ⟨v, Bo, rfl, h1, h2, h3, b, rfl, h4⟩
  exact ⟨_, Bo, rfl, h1, h2, h3, .map (some b), rfl, h4⟩
theorem rules_u (h : Vw) : C0 Try.prog 123 #[] h (fun r h' => ∃ u, r = .map (some (mpB u)) ∧ RulesAt h' (mpB u)) := by
  intro a b c d
  refine (rules_any h a b c d).mono ?_
  rintro e w' ⟨v, Bo, rfl, h1, h2, h3, b, rfl, h4⟩
  exact ⟨_, Bo, rfl, h1, h2, h3, .map (some b), rfl, h4⟩

/-- The type of a formula whose size is looked at first. -/
def ofE (fs : List Fd) (x : Ex) : Int × Int := if chkE x = 0 then tyE (tyF fs) x else (0, chkE x)

set_option maxRecDepth 100000 in
theorem tyOf_any (fs : List Fd) (x : Ex) (v fv : Value) (h : Vw) (hx : IsArgs h x v) (hw : WfE x) (hb : (szE x).1 < 1000000) (hf : IsFds h fv fs) :
    C0 Try.prog 97 #[.agg #[.int .i64 x.op, .int .i64 x.k, .int .i64 x.n, .string x.s, .string x.nm, v], fv] h (fun r _ => r = .tuple #[.int .i64 (ofE fs x).1, .int .i64 (ofE fs x).2]) := by
  obtain ⟨A, n, c, rfl⟩ := hx.slice
  obtain ⟨Af, nf, cf, rfl⟩ : ∃ A n c, fv = .slice A n c := by
    obtain ⟨vs, hr, -⟩ := hf
    obtain ⟨A, c, e, -⟩ := hr.form
    exact ⟨_, _, _, e⟩
  have hck := fun H q => check_any x (.slice A n c) H q hw hb
  have hO := fun fb rb H q1 q2 q3 => tyof_any (tyF fs) fb rb _ x (.slice A n c) H (Nat.le_refl _) q1 hw q2 q3
  have hTy := fun H q => types_u fs (.slice Af nf cf) H q
  unfold ofE
  generalize chkE x = e at *
  generalize tyE (tyF fs) x = ty at *
  refine x_con Try.func97 (c := Try.f97.body.getD .skip) (by kernel_rfl) (N := 19) rfl (by kernel_rfl) ?_
  intro hbx hbad Q hQ a w hJ
  replace hJ : K ⟨19, h.w, h.bad, []⟩ [(0, .agg #[Vi x.op, Vi x.k, Vi x.n, .string x.s, .string x.nm, .slice A n c]), (1, .slice Af nf cf)] [] [] h a w := hJ.to (by kernel_rfl) (by kernel_rfl) rfl
  refine rx hJ false 21 [.own, .b 0 0, .cl 41 #[.agg #[Vi x.op, Vi x.k, Vi x.n, .string x.s, .string x.nm, .slice A n c]] (Vi e)] [] (.new fun b1 => .ok (.code [1, 1, 0, 1]) [.seq [1, 1]] [(1, .slice Af nf cf), (2, Vp b1), (4, Vi 0), (5, Vi 0), (6, Vi e), (10, .bool (e != 0))] [.box b1 [Vi x.op, Vi x.k, Vi x.n, .string x.s, .string x.nm, .slice A n c]] []) (And.intro (fun H sH => hck _ (hx.sees sH)) (trivial)) trivial (fun b1 _ => by kernel_rfl) ?_
  clear hJ a w; intro b1 a w hJ
  by_cases he : e = 0
  · skip
    refine x_false hJ (t := e != 0) (by kernel_rfl) (bne_eq_false_iff_eq.2 he) ?_
    refine rx hJ false 3 [] [] (.ok (.code [0, 1, 1]) [.seq [1, 1, 1]] [(1, .slice Af nf cf), (2, Vp b1), (4, Vi 0), (5, Vi 0)] [.box b1 [Vi x.op, Vi x.k, Vi x.n, .string x.s, .string x.nm, .slice A n c]] []) trivial trivial (fun _ => by kernel_rfl) ?_
    clear hJ a w; intro a w hJ
    let R : Reg := ⟨⟨19, h.w, h.bad, []⟩, [(0, 12, fun gh => .agg #[Vi x.op, Vi x.k, Vi x.n, .string x.s, .string x.nm, .slice A n c]), (1, 13, fun gh => .slice Af nf cf), (2, 14, fun gh => .map (some (mpB (gh 2)))), (3, 15, fun gh => .map (some (mpB (gh 3)))), (4, 16, fun gh => .tuple #[Vi ty.1, Vi ty.2]), (5, 17, fun gh => Vi ty.1), (6, 18, fun gh => Vi ty.2), (7, 4, fun gh => Vi ty.1), (8, 5, fun gh => Vi ty.2)], [(1, .slice Af nf cf), (2, Vp b1), (4, Vi 0), (5, Vi 0)], [⟨some (.box b1 [Vi x.op, Vi x.k, Vi x.n, .string x.s, .string x.nm, .slice A n c]), []⟩], [(2, fun gh hh => TypesAt hh (mpB (gh 2)) (tyF fs)), (3, fun gh hh => RulesAt hh (mpB (gh 3)))], [[], [], [1], [1, 2], [0, 1, 2, 3], [0, 1, 2, 3, 4], [0, 1, 2, 3, 4], [0, 1, 2, 3, 4, 5, 6], [0, 1, 2, 3, 4, 5, 6, 7]], h⟩
    have hmono : ∀ zq ∈ R.F, ∀ zx zh zi, Sees zh zi → zq.2 zx zh → zq.2 zx zi := mono_cons (fun _ _ _ s c => c.sees s) (mono_cons (fun _ _ _ s c => c.sees s) (mono_nil))
    refine x_region (by kernel_rfl) R hJ 9 [.ld 0 0, .pu, .cl, .cl, .cl, .pu, .pu, .pu, .pu] (by kernel_rfl) hmono (fun _ _ _ => by kernel_rfl) (fun hT hA => ?_) ?_
    · clear hJ
      refine And.intro (r_call hT hA hmono ⟨fun _ _ => by kernel_rfl, fun _ _ => by kernel_rfl, fun _ _ => by kernel_rfl⟩ 14 (fun u => .map (some (mpB u))) [1] 2 (by kernel_rfl) (by kernel_rfl) (fun _ => by kernel_rfl) 122 (fun gh => #[.slice Af nf cf]) (fun _ _ => by kernel_rfl) (fun gh H sH fH lent => C0.facts (R := R) (x := gh) (i := 2) (n := 0) (F := (fun u => .map (some (mpB u)))) (G := fun u hh => TypesAt hh (mpB u) (tyF fs)) (f := fun gh hh => TypesAt hh (mpB (gh 2)) (tyF fs)) (hTy _ (hf.sees sH)) (by kernel_rfl) (by kernel_rfl) (fun _ _ r => r))) ?_
      refine And.intro (r_call hT hA hmono ⟨fun _ _ => by kernel_rfl, fun _ _ => by kernel_rfl, fun _ _ => by kernel_rfl⟩ 15 (fun u => .map (some (mpB u))) [2] 3 (by kernel_rfl) (by kernel_rfl) (fun _ => by kernel_rfl) 123 (fun gh => #[]) (fun _ _ => by kernel_rfl) (fun gh H sH fH lent => C0.facts (R := R) (x := gh) (i := 3) (n := 1) (F := (fun u => .map (some (mpB u)))) (G := fun u hh => RulesAt hh (mpB u)) (f := fun gh hh => RulesAt hh (mpB (gh 3))) (rules_u _) (by kernel_rfl) (by kernel_rfl) (fun _ _ r => r))) ?_
      refine And.intro (r_callv hT hA hmono 16 (fun gh => .tuple #[Vi ty.1, Vi ty.2]) [0, 2, 3] 4 (by kernel_rfl) (by kernel_rfl) (by kernel_rfl) (fun _ => by kernel_rfl) 121 (fun gh => #[.agg #[Vi x.op, Vi x.k, Vi x.n, .string x.s, .string x.nm, .slice A n c], .map (some (mpB (gh 2))), .map (some (mpB (gh 3)))]) (fun _ _ => by kernel_rfl) (fun gh H sH fH lent => hO _ _ _ (hx.sees sH) (fH 0 _ rfl (by kernel_rfl)) (fH 1 _ rfl (by kernel_rfl)))) ?_
      trivial
    clear hJ a w; intro gh h2 a w sR hJ1 hF; have s3 : Sees h h2 := sR; clear sR
    have hJ : K ⟨19, h.w, h.bad, []⟩ [(4, Vi ty.1), (5, Vi ty.2)] [.box b1 [Vi x.op, Vi x.k, Vi x.n, .string x.s, .string x.nm, .slice A n c]] [] h2 a w := hJ1.to (by kernel_rfl) (by kernel_rfl) rfl
    have f14 : TypesAt h2 (mpB (gh 2)) (tyF fs) := Reg.fact (i := 2) (f := fun gh hh => TypesAt hh (mpB (gh 2)) (tyF fs)) hF 0 (by kernel_rfl)
    have f15 : RulesAt h2 (mpB (gh 3)) := Reg.fact (i := 3) (f := fun gh hh => RulesAt hh (mpB (gh 3))) hF 1 (by kernel_rfl)
    clear hJ1 hF hmono R
    generalize gh 2 = u14 at *
    generalize gh 3 = u15 at *
    clear gh
    refine rx hJ false 2 [] [] (.ok (.out .ret) [] [(4, Vi ty.1), (5, Vi ty.2)] [.box b1 [Vi x.op, Vi x.k, Vi x.n, .string x.s, .string x.nm, .slice A n c]] []) trivial trivial (fun _ => by kernel_rfl) ?_
    clear hJ a w; intro a w hJ
    refine x_end (hQ [Vi ty.1, Vi ty.2] _ [] hJ (.rtmp hJ.j (by kernel_rfl) (.rtmp hJ.j (by kernel_rfl) .nil)) (no_own _) rfl ?_).1
    rw [if_pos he]; rfl
  · skip
    refine x_true hJ (t := e != 0) (by kernel_rfl) (bne_iff_ne.2 he) ?_
    refine rx hJ false 9 [] [] (.ok (.out .ret) [] [(4, Vi 0), (5, Vi e)] [.box b1 [Vi x.op, Vi x.k, Vi x.n, .string x.s, .string x.nm, .slice A n c]] []) trivial trivial (fun _ => by kernel_rfl) ?_
    clear hJ a w; intro a w hJ
    refine x_end (hQ [Vi 0, Vi e] _ [] hJ (.rtmp hJ.j (by kernel_rfl) (.rtmp hJ.j (by kernel_rfl) .nil)) (no_own _) rfl ?_).1
    rw [if_neg he]; rfl

/-- Does a formula fit? -/
def fitsE (fs : List Fd) (x : Ex) (want : Int) : Int := if (ofE fs x).2 = 0 then (if (ofE fs x).1 = want then 0 else 9) else (ofE fs x).2

set_option maxRecDepth 100000 in
theorem fits_any (fs : List Fd) (x : Ex) (v fv : Value) (want : Int) (h : Vw) (hx : IsArgs h x v) (hw : WfE x) (hb : (szE x).1 < 1000000) (hf : IsFds h fv fs) :
    C0 Try.prog 63 #[.agg #[.int .i64 x.op, .int .i64 x.k, .int .i64 x.n, .string x.s, .string x.nm, v], fv, .int .i64 want] h (fun r _ => r = .int .i64 (fitsE fs x want)) := by
  obtain ⟨A, n, c, rfl⟩ := hx.slice
  obtain ⟨Af, nf, cf, rfl⟩ : ∃ A n c, fv = .slice A n c := by
    obtain ⟨vs, hr, -⟩ := hf
    obtain ⟨A, c, e, -⟩ := hr.form
    exact ⟨_, _, _, e⟩
  have hO := fun H q1 q2 => tyOf_any fs x (.slice A n c) (.slice Af nf cf) H q1 hw hb q2
  unfold fitsE
  generalize ofE fs x = ty at *
  refine x_con Try.func63 (c := Try.f63.body.getD .skip) (by kernel_rfl) (N := 21) rfl (by kernel_rfl) ?_
  intro hbx hbad Q hQ a w hJ
  replace hJ : K ⟨21, h.w, h.bad, []⟩ [(0, .agg #[Vi x.op, Vi x.k, Vi x.n, .string x.s, .string x.nm, .slice A n c]), (1, .slice Af nf cf), (2, Vi want)] [] [] h a w := hJ.to (by kernel_rfl) (by kernel_rfl) rfl
  refine rx hJ false 25 [.own, .b 0 0, .cl 97 #[.agg #[Vi x.op, Vi x.k, Vi x.n, .string x.s, .string x.nm, .slice A n c], .slice Af nf cf] (.tuple #[Vi ty.1, Vi ty.2])] [] (.new fun b1 => .ok (.code [1, 0, 1, 1]) [.seq [1, 1, 1]] [(2, Vi want), (6, Vi 0), (7, Vi ty.1), (8, Vi ty.2), (16, .bool (ty.2 != 0))] [.box b1 [Vi x.op, Vi x.k, Vi x.n, .string x.s, .string x.nm, .slice A n c]] []) (And.intro (fun H sH => hO _ (hx.sees sH) (hf.sees sH)) (trivial)) trivial (fun b1 _ => by kernel_rfl) ?_
  clear hJ a w; intro b1 a w hJ
  by_cases he : ty.2 = 0
  · refine x_false hJ (t := ty.2 != 0) (by kernel_rfl) (bne_eq_false_iff_eq.2 he) ?_
    refine rx hJ false 10 [] [] (.ok (.code [1, 0, 1, 1, 1]) [.seq [1, 1, 1, 1]] [(6, Vi 0), (20, .bool (ty.1 != want))] [.box b1 [Vi x.op, Vi x.k, Vi x.n, .string x.s, .string x.nm, .slice A n c]] []) trivial trivial (fun _ => by kernel_rfl) ?_
    clear hJ a w; intro a w hJ
    by_cases hw : ty.1 = want
    · refine x_false hJ (t := ty.1 != want) (by kernel_rfl) (bne_eq_false_iff_eq.2 hw) ?_
      refine rx hJ false 8 [] [] (.ok (.out .ret) [] [(6, Vi 0)] [.box b1 [Vi x.op, Vi x.k, Vi x.n, .string x.s, .string x.nm, .slice A n c]] []) trivial trivial (fun _ => by kernel_rfl) ?_
      clear hJ a w; intro a w hJ
      refine x_end (hQ [Vi 0] _ [] hJ (.rtmp hJ.j (by kernel_rfl) .nil) (no_own _) rfl ?_).1
      rw [if_pos he, if_pos hw]; rfl
    · skip
      refine x_true hJ (t := ty.1 != want) (by kernel_rfl) (bne_iff_ne.2 hw) ?_
      refine rx hJ false 7 [] [] (.ok (.out .ret) [] [(6, Vi 9)] [.box b1 [Vi x.op, Vi x.k, Vi x.n, .string x.s, .string x.nm, .slice A n c]] []) trivial trivial (fun _ => by kernel_rfl) ?_
      clear hJ a w; intro a w hJ
      refine x_end (hQ [Vi 9] _ [] hJ (.rtmp hJ.j (by kernel_rfl) .nil) (no_own _) rfl ?_).1
      rw [if_pos he, if_neg hw]; rfl
  · skip
    refine x_true hJ (t := ty.2 != 0) (by kernel_rfl) (bne_iff_ne.2 he) ?_
    refine rx hJ false 8 [] [] (.ok (.out .ret) [] [(6, Vi ty.2)] [.box b1 [Vi x.op, Vi x.k, Vi x.n, .string x.s, .string x.nm, .slice A n c]] []) trivial trivial (fun _ => by kernel_rfl) ?_
    clear hJ a w; intro a w hJ
    refine x_end (hQ [Vi ty.2] _ [] hJ (.rtmp hJ.j (by kernel_rfl) .nil) (no_own _) rfl ?_).1
    rw [if_neg he]; rfl

end Go.Proofs.Ytgjndkphfabnnaa
