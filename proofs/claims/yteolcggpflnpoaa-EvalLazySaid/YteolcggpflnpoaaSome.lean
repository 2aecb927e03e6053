/-
  Contracts of the law's fields and formulas.
-/
import Derived.Test.YteolcggpflnpoaaGenW
namespace Go.Proofs.Yteolcggpflnpoaa
open Go.RowKit

def some5 : List Fd := [⟨⟨#[110]⟩, 1, 1, zE⟩, ⟨⟨#[109]⟩, 1, 1, zE⟩, ⟨⟨#[116]⟩, 1, 2, zE⟩, ⟨⟨#[117]⟩, 1, 2, zE⟩, ⟨⟨#[115]⟩, 1, 3, zE⟩]

theorem all_nil (h : Vw) : ∀ (l : List Ex), (∀ x ∈ l, x.args = []) → AllArgs h l (l.map (fun _ => .slice none 0 0))
  | [], _ => by unfold AllArgs; rfl
  | x :: l, k => by
    unfold AllArgs
    exact ⟨_, _, rfl, args_nil h x (k x (by simp)), all_nil h l (fun y hy => k y (by simp [hy]))⟩
theorem src_nil {h : Vw} (l : List Fd) (k : ∀ x ∈ l, x.src.args = []) : AllSrc h l (l.map (fun _ => .slice none 0 0)) := by
  have := all_nil h (l.map (·.src)) (fun x hx => by obtain ⟨f, hf, rfl⟩ := List.mem_map.1 hx; exact k f hf)
  rw [List.map_map] at this
  exact this
theorem exprC_all (l : List RawD) (fs : List Fd) (hlen : l.length * 40 ≤ reachBytes) (hok : ∀ r ∈ l, r.ok) (hfs : fs.length ≤ 100) : ∀ d, d < 1000 → ExprC l fs d
  | 0, _ => expr_zero l fs hlen hok hfs
  | d + 1, hd => expr_succ l fs hlen hok hfs d (by omega) (exprC_all l fs hlen hok hfs d (by omega))

set_option maxRecDepth 100000 in
theorem some_any (h : Vw) : C0 Try.prog 20 #[] h (fun v h' => IsFds h' v some5 ∧ ∃ b, v = .slice (some ⟨b, 0, none⟩) 5 5) := by
  refine x_con Try.func20 (c := Try.f20.body.getD .skip) (by kernel_rfl) (N := 7) rfl (by kernel_rfl) ?_
  intro hbx hbad Q hQ a w hJ
  replace hJ : K ⟨7, h.w, h.bad, []⟩ [] [] [] h a w := hJ.to (by kernel_rfl) (by kernel_rfl) rfl
  refine rx hJ true 17 [.fix] [] (.new fun b1 => .ok (.out .ret) [] [(0, .slice (some ⟨b1, 0, none⟩) 5 5)] [] [(b1, 0, [.string ⟨#[110]⟩, .int .i64 1, .int .i64 1, .int .i64 0, .int .i64 0, .int .i64 0, .string ⟨#[]⟩, .string ⟨#[]⟩, .slice none 0 0, .string ⟨#[109]⟩, .int .i64 1, .int .i64 1, .int .i64 0, .int .i64 0, .int .i64 0, .string ⟨#[]⟩, .string ⟨#[]⟩, .slice none 0 0, .string ⟨#[116]⟩, .int .i64 1, .int .i64 2, .int .i64 0, .int .i64 0, .int .i64 0, .string ⟨#[]⟩, .string ⟨#[]⟩, .slice none 0 0, .string ⟨#[117]⟩, .int .i64 1, .int .i64 2, .int .i64 0, .int .i64 0, .int .i64 0, .string ⟨#[]⟩, .string ⟨#[]⟩, .slice none 0 0, .string ⟨#[115]⟩, .int .i64 1, .int .i64 3, .int .i64 0, .int .i64 0, .int .i64 0, .string ⟨#[]⟩, .string ⟨#[]⟩, .slice none 0 0])]) trivial trivial (fun b1 _ => by kernel_rfl) ?_
  clear hJ a w; intro b1 h2 a w s3 hJ
  refine x_end (hQ [.slice (some ⟨b1, 0, none⟩) 5 5] [] [] hJ (.rtmp hJ.j (by kernel_rfl) .nil) (by kernel_rfl) (by kernel_rfl) ?_).1
  have c : Cells ⟨w, h.bad⟩ b1 0 (fdRows some5 (some5.map (fun _ => .slice none 0 0))).flatten := (hJ.f _ List.mem_cons_self).sees hJ.j.out
  exact ⟨⟨_, rs_cells (k := 9) (fdRows some5 (some5.map (fun _ => .slice none 0 0))) (fun r hr => by simp [some5, fdRows] at hr; rcases hr with rfl | rfl | rfl | rfl | rfl <;> rfl) (by decide) c, src_nil some5 (fun x hx => by simp [some5] at hx; rcases hx with rfl | rfl | rfl | rfl | rfl <;> rfl)⟩, b1, rfl⟩

set_option maxRecDepth 100000 in
theorem expr_any (l : List RawD) (fs : List Fd) (hlen : l.length * 40 ≤ reachBytes) (hok : ∀ r ∈ l, r.ok) (hfs : fs.length ≤ 100) (sl fv : Value) (kind : Int) (h : Vw) (hr : RS h 4 sl (l.map RawD.cs)) (hf : IsFds h fv fs) (h1 : 1 ≤ kind) (h3 : kind ≤ 3) :
    C0 Try.prog 18 #[sl, .int .i64 kind, fv] h (fun v h' => ∃ u, v = .agg #[.int .i64 ((genE l fs 3 kind 0).1).op, .int .i64 ((genE l fs 3 kind 0).1).k, .int .i64 ((genE l fs 3 kind 0).1).n, .string ((genE l fs 3 kind 0).1).s, .string ((genE l fs 3 kind 0).1).nm, .slice (sA u) (sN u) (sC u)] ∧ IsArgs h' (genE l fs 3 kind 0).1 (.slice (sA u) (sN u) (sC u))) := by
  obtain ⟨A, cap, rfl, -, -, -⟩ := hr.form
  rw [List.length_map] at *
  have hE := exprC_all l fs hlen hok hfs 3 (by omega)
  generalize l.length = len at *
  refine x_con Try.func18 (c := Try.f18.body.getD .skip) (by kernel_rfl) (N := 15) rfl (by kernel_rfl) ?_
  intro hbx hbad Q hQ a w hJ
  replace hJ : K ⟨15, h.w, h.bad, []⟩ [(0, .slice A len cap), (1, .int .i64 kind), (2, fv)] [] [] h a w := hJ.to (by kernel_rfl) (by kernel_rfl) rfl
  refine rx hJ false 18 [.own, .own] [] (.new fun b1 => .new fun b2 => .ok (.ops [0, 1, 1] 3) [.seq [1, 1, 1]] [(6, .pointer (some ⟨b1, 0, none⟩)), (11, .pointer (some ⟨b2, 0, none⟩)), (12, .int .i64 kind), (13, fv)] [.box b2 [.slice A len cap, .int .i64 0], .box b1 [.int .i64 0, .int .i64 0, .int .i64 0, .string ⟨#[]⟩, .string ⟨#[]⟩, .slice none 0 0]] []) trivial trivial (fun b1 b2 _ => by kernel_rfl) ?_
  clear hJ a w; intro b1 b2 a w hJ
  refine x_call1 hJ 14 0 (f := 39) (args := #[.pointer (some ⟨b2, 0, none⟩), .int .i64 kind, fv, .int .i64 3]) (b := b2) (cs := [.slice A len cap, .int .i64 0]) (hE b2 (.slice A len cap) 0 kind fv _ _ (hr.sees hJ.j.sees) (by decide) h1 h3 (hf.sees hJ.j.sees) (List.mem_append_left _ (by simp [blk, Ent.blocks]))) (by kernel_rfl) (fun _ => by kernel_rfl) ?_; clear hJ a w; rintro _ _ h3 a w s4 ⟨u, rfl, rfl, ha⟩ hJ
  refine rx hJ false 4 [.b 1 0] [] (.ok (.out .ret) [] [(6, .pointer (some ⟨b1, 0, none⟩))] [.box b2 [.slice A len cap, .int .i64 (((genE l fs 3 kind 0).2 : Nat) : Int)], .box b1 [.int .i64 (((genE l fs 3 kind 0).1).op), .int .i64 (((genE l fs 3 kind 0).1).k), .int .i64 (((genE l fs 3 kind 0).1).n), .string (((genE l fs 3 kind 0).1).s), .string (((genE l fs 3 kind 0).1).nm), .slice (sA u) (sN u) (sC u)]] []) trivial trivial (fun _ => by kernel_rfl) ?_
  clear hJ a w; intro a w hJ
  refine x_end (hQ [.agg #[.int .i64 (((genE l fs 3 kind 0).1).op), .int .i64 (((genE l fs 3 kind 0).1).k), .int .i64 (((genE l fs 3 kind 0).1).n), .string (((genE l fs 3 kind 0).1).s), .string (((genE l fs 3 kind 0).1).nm), .slice (sA u) (sN u) (sC u)]] [.box b2 [.slice A len cap, .int .i64 (((genE l fs 3 kind 0).2 : Nat) : Int)], .box b1 [.int .i64 (((genE l fs 3 kind 0).1).op), .int .i64 (((genE l fs 3 kind 0).1).k), .int .i64 (((genE l fs 3 kind 0).1).n), .string (((genE l fs 3 kind 0).1).s), .string (((genE l fs 3 kind 0).1).nm), .slice (sA u) (sN u) (sC u)]] [] hJ (.rcell hJ.j 1 (b := b1) (cs := [.int .i64 (((genE l fs 3 kind 0).1).op), .int .i64 (((genE l fs 3 kind 0).1).k), .int .i64 (((genE l fs 3 kind 0).1).n), .string (((genE l fs 3 kind 0).1).s), .string (((genE l fs 3 kind 0).1).nm), .slice (sA u) (sN u) (sC u)]) (by kernel_rfl) (by kernel_rfl) (by kernel_rfl) .nil) (by kernel_rfl) (by kernel_rfl) ?_).1
  exact ⟨u, rfl, (ha.sees hJ.j.out)⟩

end Go.Proofs.Yteolcggpflnpoaa
