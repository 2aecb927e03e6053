/-
  The laws' own fields and their types.
-/
import Derived.Test.YteolcggpflnpoabTyO
import Derived.Test.YteolcggpflnpoabEqB
namespace Go.Proofs.Yteolcggpflnpoab
open Go.RowKit

theorem some_u (h : Vw) : C0 Try.prog 15 #[] h (fun v h' => ∃ u, v = .slice (sA u) (sN u) (sC u) ∧ IsFds h' (.slice (sA u) (sN u) (sC u)) some5) := by
  intro a b c d
  refine (some_any h a b c d).mono ?_
  rintro e w' ⟨v, Bo, rfl, h1, h2, h3, h4, b, rfl⟩
  exact ⟨_, Bo, rfl, h1, h2, h3, .slice (some ⟨b, 0, none⟩) 5 5, rfl, h4⟩
theorem some5_tyF : ∀ f ∈ some5, tyF some5 f.name = some f.ty := fun f hf => by
  simp [some5] at hf
  rcases hf with rfl | rfl | rfl | rfl | rfl <;> decide

theorem parts_no (h : Vw) : C0 Try.prog 72 #[.agg #[.int .i64 0, .int .i64 0, .int .i64 0, .string ⟨#[]⟩, .string ⟨#[]⟩, .slice none 0 0]] h (fun r _ => r = .int .i64 2) := by
  refine x_con Try.func72 (c := Try.f72.body.getD .skip) (by kernel_rfl) (N := 25) rfl (by kernel_rfl) ?_
  intro hbx hbad Q hQ a w hJ
  replace hJ : K ⟨25, h.w, h.bad, []⟩ [(0, .agg #[.int .i64 0, .int .i64 0, .int .i64 0, .string ⟨#[]⟩, .string ⟨#[]⟩, .slice none 0 0])] [] [] h a w := hJ.to (by kernel_rfl) (by kernel_rfl) rfl
  refine rx hJ true 29 [.fix, .f 0 0, .cl 107 #[.agg #[.int .i64 0, .int .i64 0, .int .i64 0, .string ⟨#[]⟩, .string ⟨#[]⟩, .slice none 0 0]] (.int .i64 2)] [] (.new fun b1 => .ok (.out .ret) [] [(2, .int .i64 2)] [] [(b1, 0, [.int .i64 0, .int .i64 0, .int .i64 0, .string ⟨#[]⟩, .string ⟨#[]⟩, .slice none 0 0])]) (And.intro (fun H sH => part_none _) (trivial)) trivial (fun b1 _ => by kernel_rfl) ?_
  clear hJ a w; intro b1 h2 a w s3 hJ
  refine x_end (hQ [.int .i64 2] [] [] hJ (.rtmp hJ.j (by kernel_rfl) .nil) (by kernel_rfl) (by kernel_rfl) ?_).1
  exact rfl
theorem zE_args (h : Vw) : IsArgs h zE (.slice none 0 0) := args_nil _ _ rfl
theorem check_no (h : Vw) : C0 Try.prog 41 #[.agg #[.int .i64 0, .int .i64 0, .int .i64 0, .string ⟨#[]⟩, .string ⟨#[]⟩, .slice none 0 0]] h (fun r _ => r = .int .i64 2) := by
  have hse := fun H => size_any 1 zE (.slice none 0 0) H (by decide) (zE_args H) (by decide)
  refine x_con Try.func41 (c := Try.f41.body.getD .skip) (by kernel_rfl) (N := 16) rfl (by kernel_rfl) ?_
  intro hbx hbad Q hQ a w hJ
  replace hJ : K ⟨16, h.w, h.bad, []⟩ [(0, .agg #[.int .i64 0, .int .i64 0, .int .i64 0, .string ⟨#[]⟩, .string ⟨#[]⟩, .slice none 0 0])] [] [] h a w := hJ.to (by kernel_rfl) (by kernel_rfl) rfl
  refine rx hJ true 45 [.fix, .f 0 0, .cl 40 #[.agg #[.int .i64 0, .int .i64 0, .int .i64 0, .string ⟨#[]⟩, .string ⟨#[]⟩, .slice none 0 0]] (.tuple #[.int .i64 1, .int .i64 1]), .f 0 0, .cl 72 #[.agg #[.int .i64 0, .int .i64 0, .int .i64 0, .string ⟨#[]⟩, .string ⟨#[]⟩, .slice none 0 0]] (.int .i64 2)] [] (.new fun b1 => .ok (.out .ret) [] [(2, .int .i64 2)] [] [(b1, 0, [.int .i64 0, .int .i64 0, .int .i64 0, .string ⟨#[]⟩, .string ⟨#[]⟩, .slice none 0 0])]) (And.intro (fun H sH => hse _) (And.intro (fun H sH => parts_no _) (trivial))) trivial (fun b1 _ => by kernel_rfl) ?_
  clear hJ a w; intro b1 h2 a w s3 hJ
  refine x_end (hQ [.int .i64 2] [] [] hJ (.rtmp hJ.j (by kernel_rfl) .nil) (by kernel_rfl) (by kernel_rfl) ?_).1
  exact rfl
theorem tyOf_no (A : Option Addr) (n c : Nat) (h : Vw) : C0 Try.prog 50 #[.agg #[.int .i64 0, .int .i64 0, .int .i64 0, .string ⟨#[]⟩, .string ⟨#[]⟩, .slice none 0 0], .slice A n c] h (fun r _ => r = .tuple #[.int .i64 0, .int .i64 2]) := by
  refine x_con Try.func50 (c := Try.f50.body.getD .skip) (by kernel_rfl) (N := 19) rfl (by kernel_rfl) ?_
  intro hbx hbad Q hQ a w hJ
  replace hJ : K ⟨19, h.w, h.bad, []⟩ [(0, .agg #[.int .i64 0, .int .i64 0, .int .i64 0, .string ⟨#[]⟩, .string ⟨#[]⟩, .slice none 0 0]), (1, .slice A n c)] [] [] h a w := hJ.to (by kernel_rfl) (by kernel_rfl) rfl
  refine rx hJ false 31 [.own, .b 0 0, .cl 41 #[.agg #[.int .i64 0, .int .i64 0, .int .i64 0, .string ⟨#[]⟩, .string ⟨#[]⟩, .slice none 0 0]] (.int .i64 2)] [] (.new fun b1 => .ok (.out .ret) [] [(4, .int .i64 0), (5, .int .i64 2)] [.box b1 [.int .i64 0, .int .i64 0, .int .i64 0, .string ⟨#[]⟩, .string ⟨#[]⟩, .slice none 0 0]] []) (And.intro (fun H sH => check_no _) (trivial)) trivial (fun b1 _ => by kernel_rfl) ?_
  clear hJ a w; intro b1 a w hJ
  refine x_end (hQ [.int .i64 0, .int .i64 2] [.box b1 [.int .i64 0, .int .i64 0, .int .i64 0, .string ⟨#[]⟩, .string ⟨#[]⟩, .slice none 0 0]] [] hJ (.rtmp hJ.j (by kernel_rfl) (.rtmp hJ.j (by kernel_rfl) .nil)) (by kernel_rfl) (by kernel_rfl) ?_).1
  exact rfl

end Go.Proofs.Yteolcggpflnpoab
