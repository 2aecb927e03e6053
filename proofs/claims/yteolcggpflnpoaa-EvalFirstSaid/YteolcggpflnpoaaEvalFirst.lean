/-
  For all numbers EvalFirst returns true: of two faulty operands the first fault is the result, and a fault takes precedence over a pending value. No condition.
-/
import Derived.Test.YteolcggpflnpoaaEvG
namespace Go.Proofs.Yteolcggpflnpoaa
open Go.RowKit

theorem ev_gen (env : Env) (op : Int) (x y : Ex) (h : op ≠ 1 ∧ op ≠ 2 ∧ op ≠ 15 ∧ op ≠ 16 ∧ op ≠ 17) : evalE env (opE op [x, y]) = match lackV none [evalE env x, evalE env y] with | some v => v | none => applyV op [evalE env x, evalE env y] := by
  rw [ev_op env op _ h.1 h.2.1, if_neg (by omega), if_neg (by omega)]; rfl
theorem ev_ref (env : Env) (s : ByteArray) (v : Vl) (h : env.get s = some v) : evalE env (refE s) = v := by
  rw [evalE_eq, if_neg (show ¬ (refE s).op = 1 by show ¬ (2 : Int) = 1; decide), if_pos (show (refE s).op = 2 from rfl)]
  show (match env.get s with | some v => v | none => faultV 5) = v
  rw [h]
abbrev sN1 : ByteArray := ⟨#[110]⟩
abbrev sM1 : ByteArray := ⟨#[109]⟩
abbrev sP1 : ByteArray := ⟨#[112]⟩
theorem names3 : NameOk sN1.data.toList ∧ NameOk sM1.data.toList ∧ NameOk sP1.data.toList :=
  ⟨⟨by decide, by decide, ⟨_, rfl, by decide⟩, by decide, by decide⟩, ⟨by decide, by decide, ⟨_, rfl, by decide⟩, by decide, by decide⟩, ⟨by decide, by decide, ⟨_, rfl, by decide⟩, by decide, by decide⟩⟩
def oneE : Ex := .mk 1 1 1 ⟨#[]⟩ ⟨#[]⟩ []
theorem wf_one : WfE oneE ∧ szE oneE = (1, 1) := wf_leaf (.inl ⟨rfl, .inl ⟨rfl, by unfold Lim; decide, rfl⟩, fun _ => by decide, rfl, rfl⟩) rfl
def env3 (a b : Int) : Env := [(sN1, ⟨5, a, ⟨#[]⟩⟩), (sM1, ⟨5, b, ⟨#[]⟩⟩), (sP1, ⟨4, 0, ⟨#[]⟩⟩)]
theorem env3_get (a b : Int) : (env3 a b).get sN1 = some ⟨5, a, ⟨#[]⟩⟩ ∧ (env3 a b).get sM1 = some ⟨5, b, ⟨#[]⟩⟩ ∧ (env3 a b).get sP1 = some ⟨4, 0, ⟨#[]⟩⟩ := ⟨rfl, rfl, rfl⟩

set_option maxRecDepth 100000 in
theorem first_ref (s : ByteArray) (h : Vw) : C0 Try.prog 32 #[.string s] h (fun v _ => v = .agg #[.int .i64 (refE s).op, .int .i64 (refE s).k, .int .i64 (refE s).n, .string (refE s).s, .string (refE s).nm, .slice none 0 0]) := by
  refine x_con Try.func32 (c := Try.f32.body.getD .skip) (by kernel_rfl) (N := 5) rfl (by kernel_rfl) ?_
  intro hbx hbad Q hQ a w hJ
  replace hJ : K ⟨5, h.w, h.bad, []⟩ [(0, .string s)] [] [] h a w := hJ.to (by kernel_rfl) (by kernel_rfl) rfl
  refine rx hJ false 13 [.own, .b 0 0] [] (.new fun b1 => .ok (.out .ret) [] [(2, .pointer (some ⟨b1, 0, none⟩))] [.box b1 [.int .i64 2, .int .i64 0, .int .i64 0, .string ⟨#[]⟩, .string s, .slice none 0 0]] []) trivial trivial (fun b1 _ => by kernel_rfl) ?_
  clear hJ a w; intro b1 a w hJ
  refine x_end (hQ [.agg #[.int .i64 2, .int .i64 0, .int .i64 0, .string ⟨#[]⟩, .string s, .slice none 0 0]] [.box b1 [.int .i64 2, .int .i64 0, .int .i64 0, .string ⟨#[]⟩, .string s, .slice none 0 0]] [] hJ (.rcell hJ.j 0 (b := b1) (cs := [.int .i64 2, .int .i64 0, .int .i64 0, .string ⟨#[]⟩, .string s, .slice none 0 0]) (by kernel_rfl) (by kernel_rfl) (by kernel_rfl) .nil) (by kernel_rfl) (by kernel_rfl) ?_).1
  exact rfl

set_option maxHeartbeats 4000000 in
set_option maxRecDepth 100000 in
theorem evalFirst_c (n m o : Int) (h : Vw) (n0 : -9223372036854775808 ≤ n) (n1 : n ≤ 9223372036854775807) (m0 : -9223372036854775808 ≤ m) (m1 : m ≤ 9223372036854775807) (o0 : -9223372036854775808 ≤ o) (o1 : o ≤ 9223372036854775807) :
    C0 Try.prog 10 #[.int .i64 n, .int .i64 m, .int .i64 o] h (fun v _ => v = .bool true) := by
  have pa0 := pickL_lo n 15 (by omega)
  have pa1 := pickL_hi n 15 (by omega)
  have pb0 := pickL_lo m 15 (by omega)
  have pb1 := pickL_hi m 15 (by omega)
  have po0 := pickL_lo o 6 (by omega)
  have po1 := pickL_hi o 6 (by omega)
  have hpn := c_picked n 15
  have hpm := c_picked m 15
  have hpo := c_picked o 6
  obtain ⟨j, hj⟩ : ∃ j : Nat, pickL o 6 = (j : Int) := ⟨_, (Int.toNat_of_nonneg po0).symm⟩
  rw [hj] at po1 hpo
  obtain ⟨q, hq⟩ : ∃ q, (([8, 5, 6, 11, 13, 10] : List Int))[j]? = some q := ⟨_, List.getElem?_eq_getElem (by simp; omega)⟩
  have hqv : q = 8 ∨ q = 5 ∨ q = 6 ∨ q = 11 ∨ q = 13 ∨ q = 10 := by have := List.mem_of_getElem? hq; simpa using this
  have har : arity q = 2 := by rcases hqv with rfl | rfl | rfl | rfl | rfl | rfl <;> rfl
  have hqi : (intRows [8, 5, 6, 11, 13, 10])[j]? = some [.int .i64 q] := by rw [List.getElem?_map, hq]; rfl
  obtain ⟨en, em, ep⟩ := env3_get (1 + pickL n 15) (1 + pickL m 15)
  have eok : ∀ p ∈ env3 (1 + pickL n 15) (1 + pickL m 15), OkV p.2 := fun p hp => by
    simp [env3] at hp
    rcases hp with rfl | rfl | rfl
    · exact .inr (.inr ⟨rfl, by simp only; omega, by simp only; omega, rfl⟩)
    · exact .inr (.inr ⟨rfl, by simp only; omega, by simp only; omega, rfl⟩)
    · exact .inr (.inl rfl)
  obtain ⟨wn, sn⟩ := wf_ref names3.1
  obtain ⟨wm, sm⟩ := wf_ref names3.2.1
  obtain ⟨wp, sp⟩ := wf_ref names3.2.2
  obtain ⟨w1, s1⟩ := wf_one
  have w2 : ∀ x y, WfE x → WfE y → WfE (opE q [x, y]) := fun x y hx hy => wf_op (by omega) (by omega) har.symm (fun z hz => by
    simp at hz; rcases hz with rfl | rfl
    · exact hx
    · exact hy)
  have s2 : ∀ x y, szE x = (1, 1) → szE y = (1, 1) → (szE (opE q [x, y])).1 ≤ 60 ∧ (szE (opE q [x, y])).2 ≤ 12 := fun x y hx hy => by rw [sz_op]; simp [szL, hx, hy]
  have hE := fun z v bl H q1 q2 q3 q4 q5 => eval_any z v (env3 (1 + pickL n 15) (1 + pickL m 15)) (.slice (some ⟨bl, 0, none⟩) 3 3) H q1 q2 q3 q4 q5 eok (show 3 ≤ 1000 by decide)
  have eX := fun bl H v (g : IsArgs H (opE q [refE sN1, refE sM1]) v) => hE _ v bl H g (w2 _ _ wn wm) (s2 _ _ sn sm).1 (s2 _ _ sn sm).2
  have eY := fun bl H v (g : IsArgs H (opE q [refE sP1, refE sM1]) v) => hE _ v bl H g (w2 _ _ wp wm) (s2 _ _ sp sm).1 (s2 _ _ sp sm).2
  have eZ := fun bl H v (g : IsArgs H (opE q [refE sP1, oneE]) v) => hE _ v bl H g (w2 _ _ wp w1) (s2 _ _ sp s1).1 (s2 _ _ sp s1).2
  rw [ev_gen _ q _ _ (by omega), ev_ref _ _ _ en, ev_ref _ _ _ em, show lackV none [(⟨5, 1 + pickL n 15, ⟨#[]⟩⟩ : Vl), ⟨5, 1 + pickL m 15, ⟨#[]⟩⟩] = some ⟨5, 1 + pickL n 15, ⟨#[]⟩⟩ from rfl] at eX
  rw [ev_gen _ q _ _ (by omega), ev_ref _ _ _ ep, ev_ref _ _ _ em, show lackV none [(⟨4, 0, ⟨#[]⟩⟩ : Vl), ⟨5, 1 + pickL m 15, ⟨#[]⟩⟩] = some ⟨5, 1 + pickL m 15, ⟨#[]⟩⟩ from rfl] at eY
  rw [ev_gen _ q _ _ (by omega), ev_ref _ _ _ ep, show evalE (env3 (1 + pickL n 15) (1 + pickL m 15)) oneE = ⟨1, 1, ⟨#[]⟩⟩ from by rw [evalE_eq, if_pos (show oneE.op = 1 from rfl)]; rfl, show lackV none [(⟨4, 0, ⟨#[]⟩⟩ : Vl), ⟨1, 1, ⟨#[]⟩⟩] = some ⟨4, 0, ⟨#[]⟩⟩ from rfl] at eZ
  simp only at eX eY eZ
  refine x_con Try.func10 (c := Try.f10.body.getD .skip) (by kernel_rfl) (N := 98) rfl (by kernel_rfl) ?_
  intro hbx hbad Q hQ a w hJ
  replace hJ : K ⟨98, h.w, h.bad, []⟩ [(0, .int .i64 n), (1, .int .i64 m), (2, .int .i64 o)] [] [] h a w := hJ.to (by kernel_rfl) (by kernel_rfl) rfl
  refine rx hJ true 43 [.cl 19 #[.int .i64 n, .int .i64 15] (.int .i64 (pickL n 15)), .cl 19 #[.int .i64 m, .int .i64 15] (.int .i64 (pickL m 15)), .own, .own, .b 1 0, .b 0 0, .b 1 0, .b 0 0, .fix, .fix, .cl 19 #[.int .i64 o, .int .i64 6] (.int .i64 (j : Int))] [(19, .int .i64 (IntKind.i64.wrap (1 + (pickL n 15))), .int .i64 (1 + (pickL n 15))), (23, .int .i64 (IntKind.i64.wrap (1 + (pickL m 15))), .int .i64 (1 + (pickL m 15)))] (.new fun b1 => .new fun b2 => .new fun bf31 => .new fun bf32 => .ok (.ops [0, 1, 1, 1, 1] 3) [.seq [1, 1, 1, 1, 1]] [(2, .int .i64 o), (6, .bool false), (7, .pointer (some ⟨b1, 0, none⟩)), (8, .pointer (some ⟨b2, 0, none⟩)), (9, .slice (some ⟨bf31, 0, none⟩) 3 3), (10, .func (.func 32) #[] #[]), (32, .slice (some ⟨bf32, 0, none⟩) 6 6), (34, .int .i64 (j : Int))] [.box b2 [.int .i64 5, .int .i64 (1 + (pickL m 15)), .string ⟨#[]⟩], .box b1 [.int .i64 5, .int .i64 (1 + (pickL n 15)), .string ⟨#[]⟩]] [(bf32, 0, [.int .i64 8, .int .i64 5, .int .i64 6, .int .i64 11, .int .i64 13, .int .i64 10]), (bf31, 0, [.string ⟨#[110]⟩, .int .i64 0, .int .i64 0, .string ⟨#[]⟩, .int .i64 5, .int .i64 (1 + (pickL n 15)), .string ⟨#[]⟩, .string ⟨#[109]⟩, .int .i64 0, .int .i64 0, .string ⟨#[]⟩, .int .i64 5, .int .i64 (1 + (pickL m 15)), .string ⟨#[]⟩, .string ⟨#[112]⟩, .int .i64 0, .int .i64 0, .string ⟨#[]⟩, .int .i64 4, .int .i64 0, .string ⟨#[]⟩])]) (And.intro (fun H sH => hpn _ n0 n1 (by omega) (by omega)) (And.intro (fun H sH => hpm _ m0 m1 (by omega) (by omega)) (And.intro (fun H sH => hpo _ o0 o1 (by omega) (by omega)) (trivial)))) (And.intro (i64_wrap (by omega) (by omega)) (And.intro (i64_wrap (by omega) (by omega)) (trivial))) (fun b1 b2 bf31 bf32 _ => by kernel_rfl) ?_
  clear hJ a w; intro b1 b2 bf31 bf32 h3 a w s4 hJ
  have f31 : Cells h3 bf31 0 [.string ⟨#[110]⟩, .int .i64 0, .int .i64 0, .string ⟨#[]⟩, .int .i64 5, .int .i64 (1 + (pickL n 15)), .string ⟨#[]⟩, .string ⟨#[109]⟩, .int .i64 0, .int .i64 0, .string ⟨#[]⟩, .int .i64 5, .int .i64 (1 + (pickL m 15)), .string ⟨#[]⟩, .string ⟨#[112]⟩, .int .i64 0, .int .i64 0, .string ⟨#[]⟩, .int .i64 4, .int .i64 0, .string ⟨#[]⟩] := hJ.f _ (List.mem_of_getElem? (i := 1) rfl)
  have f32 : Cells h3 bf32 0 [.int .i64 8, .int .i64 5, .int .i64 6, .int .i64 11, .int .i64 13, .int .i64 10] := hJ.f _ (List.mem_of_getElem? (i := 0) rfl)
  have hri := rs_ints [8, 5, 6, 11, 13, 10] (by unfold maxLen; decide) f32
  have c5 := RS.cell hri (hqi)
  replace hJ := hJ.fact (c5.sees (Sees.refl _))
  refine rx hJ true 13 [.ix bf32 0 6 6 j, .f 0 0, .cl 32 #[.string ⟨#[110]⟩] (.agg #[.int .i64 ((refE sN1).op), .int .i64 ((refE sN1).k), .int .i64 ((refE sN1).n), .string ((refE sN1).s), .string ((refE sN1).nm), .slice none 0 0]), .cl 32 #[.string ⟨#[109]⟩] (.agg #[.int .i64 ((refE sM1).op), .int .i64 ((refE sM1).k), .int .i64 ((refE sM1).n), .string ((refE sM1).s), .string ((refE sM1).nm), .slice none 0 0]), .fix] [] (.new fun bf43 => .ok (.ops [0, 1, 1, 1, 1, 1] 6) [.seq [1, 1, 1, 1, 1, 1]] [(6, .bool false), (7, .pointer (some ⟨b1, 0, none⟩)), (8, .pointer (some ⟨b2, 0, none⟩)), (9, .slice (some ⟨bf31, 0, none⟩) 3 3), (10, .func (.func 32) #[] #[]), (2, .int .i64 q), (38, .int .i64 q), (43, .slice (some ⟨bf43, 0, none⟩) 2 2)] [.box b2 [.int .i64 5, .int .i64 (1 + (pickL m 15)), .string ⟨#[]⟩], .box b1 [.int .i64 5, .int .i64 (1 + (pickL n 15)), .string ⟨#[]⟩]] [(bf43, 0, [.int .i64 ((refE sN1).op), .int .i64 ((refE sN1).k), .int .i64 ((refE sN1).n), .string ((refE sN1).s), .string ((refE sN1).nm), .slice none 0 0, .int .i64 ((refE sM1).op), .int .i64 ((refE sM1).k), .int .i64 ((refE sM1).n), .string ((refE sM1).s), .string ((refE sM1).nm), .slice none 0 0]), (bf32, 0 + j * 1, [.int .i64 q]), (bf32, 0, [.int .i64 8, .int .i64 5, .int .i64 6, .int .i64 11, .int .i64 13, .int .i64 10]), (bf31, 0, [.string ⟨#[110]⟩, .int .i64 0, .int .i64 0, .string ⟨#[]⟩, .int .i64 5, .int .i64 (1 + (pickL n 15)), .string ⟨#[]⟩, .string ⟨#[109]⟩, .int .i64 0, .int .i64 0, .string ⟨#[]⟩, .int .i64 5, .int .i64 (1 + (pickL m 15)), .string ⟨#[]⟩, .string ⟨#[112]⟩, .int .i64 0, .int .i64 0, .string ⟨#[]⟩, .int .i64 4, .int .i64 0, .string ⟨#[]⟩])]) (And.intro (by first | omega | (simp; omega)) (And.intro (fun H sH => first_ref sN1 _) (And.intro (fun H sH => first_ref sM1 _) (trivial)))) trivial (fun bf43 _ => by kernel_rfl) ?_
  clear hJ a w; intro bf43 h6 a w s7 hJ
  have f43 : Cells h6 bf43 0 [.int .i64 ((refE sN1).op), .int .i64 ((refE sN1).k), .int .i64 ((refE sN1).n), .string ((refE sN1).s), .string ((refE sN1).nm), .slice none 0 0, .int .i64 ((refE sM1).op), .int .i64 ((refE sM1).k), .int .i64 ((refE sM1).n), .string ((refE sM1).s), .string ((refE sM1).nm), .slice none 0 0] := hJ.f _ (List.mem_of_getElem? (i := 0) rfl)
  refine rx hJ false 2 [.cl 30 #[.int .i64 q, .slice (some ⟨bf43, 0, none⟩) 2 2] (.agg #[.int .i64 q, .int .i64 0, .int .i64 0, .string ⟨#[]⟩, .string ⟨#[]⟩, .slice (some ⟨bf43, 0, none⟩) 2 2])] [] (.ok (.ops [0, 1, 1, 1, 1, 1] 8) [.seq [1, 1, 1, 1, 1, 1]] [(6, .bool false), (7, .pointer (some ⟨b1, 0, none⟩)), (8, .pointer (some ⟨b2, 0, none⟩)), (9, .slice (some ⟨bf31, 0, none⟩) 3 3), (10, .func (.func 32) #[] #[]), (2, .int .i64 q), (44, .agg #[.int .i64 q, .int .i64 0, .int .i64 0, .string ⟨#[]⟩, .string ⟨#[]⟩, .slice (some ⟨bf43, 0, none⟩) 2 2]), (45, .slice (some ⟨bf31, 0, none⟩) 3 3)] [.box b2 [.int .i64 5, .int .i64 (1 + (pickL m 15)), .string ⟨#[]⟩], .box b1 [.int .i64 5, .int .i64 (1 + (pickL n 15)), .string ⟨#[]⟩]] [(bf43, 0, [.int .i64 ((refE sN1).op), .int .i64 ((refE sN1).k), .int .i64 ((refE sN1).n), .string ((refE sN1).s), .string ((refE sN1).nm), .slice none 0 0, .int .i64 ((refE sM1).op), .int .i64 ((refE sM1).k), .int .i64 ((refE sM1).n), .string ((refE sM1).s), .string ((refE sM1).nm), .slice none 0 0]), (bf32, 0 + j * 1, [.int .i64 q]), (bf32, 0, [.int .i64 8, .int .i64 5, .int .i64 6, .int .i64 11, .int .i64 13, .int .i64 10]), (bf31, 0, [.string ⟨#[110]⟩, .int .i64 0, .int .i64 0, .string ⟨#[]⟩, .int .i64 5, .int .i64 (1 + (pickL n 15)), .string ⟨#[]⟩, .string ⟨#[109]⟩, .int .i64 0, .int .i64 0, .string ⟨#[]⟩, .int .i64 5, .int .i64 (1 + (pickL m 15)), .string ⟨#[]⟩, .string ⟨#[112]⟩, .int .i64 0, .int .i64 0, .string ⟨#[]⟩, .int .i64 4, .int .i64 0, .string ⟨#[]⟩])]) (And.intro (fun H sH => lawWith_any q _ 2 2 _) (trivial)) trivial (fun _ => by kernel_rfl) ?_
  clear hJ a w; intro a w hJ
  have hfc := rs_cells (k := 7) (fcRows (env3 (1 + pickL n 15) (1 + pickL m 15))) (fun r hr => by obtain ⟨x, -, rfl⟩ := List.mem_map.1 hr; rfl) (show 3 ≤ maxLen by unfold maxLen; decide) f31
  refine rx hJ true 17 [.cl 29 #[.agg #[.int .i64 q, .int .i64 0, .int .i64 0, .string ⟨#[]⟩, .string ⟨#[]⟩, .slice (some ⟨bf43, 0, none⟩) 2 2], .slice (some ⟨bf31, 0, none⟩) 3 3] (.tuple #[.agg #[.int .i64 5, .int .i64 (1 + pickL n 15), .string ⟨#[]⟩], .int .i64 0]), .own, .b 0 0, .cl 32 #[.string ⟨#[112]⟩] (.agg #[.int .i64 ((refE sP1).op), .int .i64 ((refE sP1).k), .int .i64 ((refE sP1).n), .string ((refE sP1).s), .string ((refE sP1).nm), .slice none 0 0]), .cl 32 #[.string ⟨#[109]⟩] (.agg #[.int .i64 ((refE sM1).op), .int .i64 ((refE sM1).k), .int .i64 ((refE sM1).n), .string ((refE sM1).s), .string ((refE sM1).nm), .slice none 0 0]), .fix] [] (.new fun b8 => .new fun bf55 => .ok (.ops [0, 1, 1, 1, 1, 1, 1] 6) [.seq [1, 1, 1, 1, 1, 1, 1]] [(6, .bool false), (7, .pointer (some ⟨b1, 0, none⟩)), (8, .pointer (some ⟨b2, 0, none⟩)), (9, .slice (some ⟨bf31, 0, none⟩) 3 3), (10, .func (.func 32) #[] #[]), (2, .int .i64 q), (11, .pointer (some ⟨b8, 0, none⟩)), (12, .int .i64 0), (50, .int .i64 q), (55, .slice (some ⟨bf55, 0, none⟩) 2 2)] [.box b8 [.int .i64 5, .int .i64 (1 + pickL n 15), .string ⟨#[]⟩], .box b2 [.int .i64 5, .int .i64 (1 + (pickL m 15)), .string ⟨#[]⟩], .box b1 [.int .i64 5, .int .i64 (1 + (pickL n 15)), .string ⟨#[]⟩]] [(bf55, 0, [.int .i64 ((refE sP1).op), .int .i64 ((refE sP1).k), .int .i64 ((refE sP1).n), .string ((refE sP1).s), .string ((refE sP1).nm), .slice none 0 0, .int .i64 ((refE sM1).op), .int .i64 ((refE sM1).k), .int .i64 ((refE sM1).n), .string ((refE sM1).s), .string ((refE sM1).nm), .slice none 0 0]), (bf43, 0, [.int .i64 ((refE sN1).op), .int .i64 ((refE sN1).k), .int .i64 ((refE sN1).n), .string ((refE sN1).s), .string ((refE sN1).nm), .slice none 0 0, .int .i64 ((refE sM1).op), .int .i64 ((refE sM1).k), .int .i64 ((refE sM1).n), .string ((refE sM1).s), .string ((refE sM1).nm), .slice none 0 0]), (bf32, 0 + j * 1, [.int .i64 q]), (bf32, 0, [.int .i64 8, .int .i64 5, .int .i64 6, .int .i64 11, .int .i64 13, .int .i64 10]), (bf31, 0, [.string ⟨#[110]⟩, .int .i64 0, .int .i64 0, .string ⟨#[]⟩, .int .i64 5, .int .i64 (1 + (pickL n 15)), .string ⟨#[]⟩, .string ⟨#[109]⟩, .int .i64 0, .int .i64 0, .string ⟨#[]⟩, .int .i64 5, .int .i64 (1 + (pickL m 15)), .string ⟨#[]⟩, .string ⟨#[112]⟩, .int .i64 0, .int .i64 0, .string ⟨#[]⟩, .int .i64 4, .int .i64 0, .string ⟨#[]⟩])]) (And.intro (fun H sH => eX _ _ _ (args_made (l := [refE sN1, refE sM1]) (vs := [.slice none 0 0, .slice none 0 0]) q (f43.sees sH) (all2 (args_nil _ _ rfl) (args_nil _ _ rfl)) (by simp)) (hfc.sees (s7.trans sH))) (And.intro (fun H sH => first_ref sP1 _) (And.intro (fun H sH => first_ref sM1 _) (trivial)))) trivial (fun b8 bf55 _ => by kernel_rfl) ?_
  clear hJ a w; intro b8 bf55 h9 a w s10 hJ
  have f55 : Cells h9 bf55 0 [.int .i64 ((refE sP1).op), .int .i64 ((refE sP1).k), .int .i64 ((refE sP1).n), .string ((refE sP1).s), .string ((refE sP1).nm), .slice none 0 0, .int .i64 ((refE sM1).op), .int .i64 ((refE sM1).k), .int .i64 ((refE sM1).n), .string ((refE sM1).s), .string ((refE sM1).nm), .slice none 0 0] := hJ.f _ (List.mem_of_getElem? (i := 0) rfl)
  refine rx hJ true 19 [.cl 30 #[.int .i64 q, .slice (some ⟨bf55, 0, none⟩) 2 2] (.agg #[.int .i64 q, .int .i64 0, .int .i64 0, .string ⟨#[]⟩, .string ⟨#[]⟩, .slice (some ⟨bf55, 0, none⟩) 2 2]), .cl 29 #[.agg #[.int .i64 q, .int .i64 0, .int .i64 0, .string ⟨#[]⟩, .string ⟨#[]⟩, .slice (some ⟨bf55, 0, none⟩) 2 2], .slice (some ⟨bf31, 0, none⟩) 3 3] (.tuple #[.agg #[.int .i64 5, .int .i64 (1 + pickL m 15), .string ⟨#[]⟩], .int .i64 0]), .own, .b 0 0, .cl 32 #[.string ⟨#[112]⟩] (.agg #[.int .i64 ((refE sP1).op), .int .i64 ((refE sP1).k), .int .i64 ((refE sP1).n), .string ((refE sP1).s), .string ((refE sP1).nm), .slice none 0 0]), .fix] [] (.new fun b11 => .new fun bf67 => .ok (.ops [0, 1, 1, 1, 1, 1, 1, 1] 6) [.seq [1, 1, 1, 1, 1, 1, 1, 1]] [(6, .bool false), (7, .pointer (some ⟨b1, 0, none⟩)), (8, .pointer (some ⟨b2, 0, none⟩)), (9, .slice (some ⟨bf31, 0, none⟩) 3 3), (11, .pointer (some ⟨b8, 0, none⟩)), (12, .int .i64 0), (13, .pointer (some ⟨b11, 0, none⟩)), (14, .int .i64 0), (62, .int .i64 q), (67, .slice (some ⟨bf67, 0, none⟩) 2 2)] [.box b11 [.int .i64 5, .int .i64 (1 + pickL m 15), .string ⟨#[]⟩], .box b8 [.int .i64 5, .int .i64 (1 + pickL n 15), .string ⟨#[]⟩], .box b2 [.int .i64 5, .int .i64 (1 + (pickL m 15)), .string ⟨#[]⟩], .box b1 [.int .i64 5, .int .i64 (1 + (pickL n 15)), .string ⟨#[]⟩]] [(bf67, 0, [.int .i64 ((refE sP1).op), .int .i64 ((refE sP1).k), .int .i64 ((refE sP1).n), .string ((refE sP1).s), .string ((refE sP1).nm), .slice none 0 0, .int .i64 1, .int .i64 1, .int .i64 1, .string ⟨#[]⟩, .string ⟨#[]⟩, .slice none 0 0]), (bf55, 0, [.int .i64 ((refE sP1).op), .int .i64 ((refE sP1).k), .int .i64 ((refE sP1).n), .string ((refE sP1).s), .string ((refE sP1).nm), .slice none 0 0, .int .i64 ((refE sM1).op), .int .i64 ((refE sM1).k), .int .i64 ((refE sM1).n), .string ((refE sM1).s), .string ((refE sM1).nm), .slice none 0 0]), (bf43, 0, [.int .i64 ((refE sN1).op), .int .i64 ((refE sN1).k), .int .i64 ((refE sN1).n), .string ((refE sN1).s), .string ((refE sN1).nm), .slice none 0 0, .int .i64 ((refE sM1).op), .int .i64 ((refE sM1).k), .int .i64 ((refE sM1).n), .string ((refE sM1).s), .string ((refE sM1).nm), .slice none 0 0]), (bf32, 0 + j * 1, [.int .i64 q]), (bf32, 0, [.int .i64 8, .int .i64 5, .int .i64 6, .int .i64 11, .int .i64 13, .int .i64 10]), (bf31, 0, [.string ⟨#[110]⟩, .int .i64 0, .int .i64 0, .string ⟨#[]⟩, .int .i64 5, .int .i64 (1 + (pickL n 15)), .string ⟨#[]⟩, .string ⟨#[109]⟩, .int .i64 0, .int .i64 0, .string ⟨#[]⟩, .int .i64 5, .int .i64 (1 + (pickL m 15)), .string ⟨#[]⟩, .string ⟨#[112]⟩, .int .i64 0, .int .i64 0, .string ⟨#[]⟩, .int .i64 4, .int .i64 0, .string ⟨#[]⟩])]) (And.intro (fun H sH => lawWith_any q _ 2 2 _) (And.intro (fun H sH => eY _ _ _ (args_made (l := [refE sP1, refE sM1]) (vs := [.slice none 0 0, .slice none 0 0]) q (f55.sees sH) (all2 (args_nil _ _ rfl) (args_nil _ _ rfl)) (by simp)) (hfc.sees (s7.trans (s10.trans sH)))) (And.intro (fun H sH => first_ref sP1 _) (trivial)))) trivial (fun b11 bf67 _ => by kernel_rfl) ?_
  clear hJ a w; intro b11 bf67 h12 a w s13 hJ
  have f67 : Cells h12 bf67 0 [.int .i64 ((refE sP1).op), .int .i64 ((refE sP1).k), .int .i64 ((refE sP1).n), .string ((refE sP1).s), .string ((refE sP1).nm), .slice none 0 0, .int .i64 1, .int .i64 1, .int .i64 1, .string ⟨#[]⟩, .string ⟨#[]⟩, .slice none 0 0] := hJ.f _ (List.mem_of_getElem? (i := 0) rfl)
  refine rx hJ false 26 [.cl 30 #[.int .i64 q, .slice (some ⟨bf67, 0, none⟩) 2 2] (.agg #[.int .i64 q, .int .i64 0, .int .i64 0, .string ⟨#[]⟩, .string ⟨#[]⟩, .slice (some ⟨bf67, 0, none⟩) 2 2]), .cl 29 #[.agg #[.int .i64 q, .int .i64 0, .int .i64 0, .string ⟨#[]⟩, .string ⟨#[]⟩, .slice (some ⟨bf67, 0, none⟩) 2 2], .slice (some ⟨bf31, 0, none⟩) 3 3] (.tuple #[.agg #[.int .i64 4, .int .i64 0, .string ⟨#[]⟩], .int .i64 0]), .own, .b 0 0, .b 2 0, .b 4 0] [] (.new fun b14 => .ok (.ops [0, 1, 1, 1, 1, 1, 1, 1, 1] 13) [.seq [1, 1, 1, 1, 1, 1, 1, 1, 1]] [(6, .bool false), (8, .pointer (some ⟨b2, 0, none⟩)), (13, .pointer (some ⟨b11, 0, none⟩)), (15, .pointer (some ⟨b14, 0, none⟩)), (83, .bool true), (84, .agg #[.int .i64 5, .int .i64 (1 + pickL n 15), .string ⟨#[]⟩]), (85, .agg #[.int .i64 5, .int .i64 (1 + (pickL n 15)), .string ⟨#[]⟩])] [.box b14 [.int .i64 4, .int .i64 0, .string ⟨#[]⟩], .box b11 [.int .i64 5, .int .i64 (1 + pickL m 15), .string ⟨#[]⟩], .box b8 [.int .i64 5, .int .i64 (1 + pickL n 15), .string ⟨#[]⟩], .box b2 [.int .i64 5, .int .i64 (1 + (pickL m 15)), .string ⟨#[]⟩], .box b1 [.int .i64 5, .int .i64 (1 + (pickL n 15)), .string ⟨#[]⟩]] [(bf67, 0, [.int .i64 ((refE sP1).op), .int .i64 ((refE sP1).k), .int .i64 ((refE sP1).n), .string ((refE sP1).s), .string ((refE sP1).nm), .slice none 0 0, .int .i64 1, .int .i64 1, .int .i64 1, .string ⟨#[]⟩, .string ⟨#[]⟩, .slice none 0 0]), (bf55, 0, [.int .i64 ((refE sP1).op), .int .i64 ((refE sP1).k), .int .i64 ((refE sP1).n), .string ((refE sP1).s), .string ((refE sP1).nm), .slice none 0 0, .int .i64 ((refE sM1).op), .int .i64 ((refE sM1).k), .int .i64 ((refE sM1).n), .string ((refE sM1).s), .string ((refE sM1).nm), .slice none 0 0]), (bf43, 0, [.int .i64 ((refE sN1).op), .int .i64 ((refE sN1).k), .int .i64 ((refE sN1).n), .string ((refE sN1).s), .string ((refE sN1).nm), .slice none 0 0, .int .i64 ((refE sM1).op), .int .i64 ((refE sM1).k), .int .i64 ((refE sM1).n), .string ((refE sM1).s), .string ((refE sM1).nm), .slice none 0 0]), (bf32, 0 + j * 1, [.int .i64 q]), (bf32, 0, [.int .i64 8, .int .i64 5, .int .i64 6, .int .i64 11, .int .i64 13, .int .i64 10]), (bf31, 0, [.string ⟨#[110]⟩, .int .i64 0, .int .i64 0, .string ⟨#[]⟩, .int .i64 5, .int .i64 (1 + (pickL n 15)), .string ⟨#[]⟩, .string ⟨#[109]⟩, .int .i64 0, .int .i64 0, .string ⟨#[]⟩, .int .i64 5, .int .i64 (1 + (pickL m 15)), .string ⟨#[]⟩, .string ⟨#[112]⟩, .int .i64 0, .int .i64 0, .string ⟨#[]⟩, .int .i64 4, .int .i64 0, .string ⟨#[]⟩])]) (And.intro (fun H sH => lawWith_any q _ 2 2 _) (And.intro (fun H sH => eZ _ _ _ (args_made (l := [refE sP1, oneE]) (vs := [.slice none 0 0, .slice none 0 0]) q (f67.sees sH) (all2 (args_nil _ _ rfl) (args_nil _ _ rfl)) (by simp)) (hfc.sees (s7.trans (s10.trans (s13.trans sH))))) (trivial))) trivial (fun b14 _ => by kernel_rfl) ?_
  clear hJ a w; intro b14 a w hJ
  refine x_pure hJ 86 (.bool true) (by kernel_rfl) (fun w => run_eqop (x := (.tmp 84)) (y := (.tmp 85)) (v := ⟨5, 1 + pickL n 15, ⟨#[]⟩⟩) (w := ⟨5, 1 + pickL n 15, ⟨#[]⟩⟩) (by kernel_rfl) (by kernel_rfl) (by kernel_rfl) (eqB_iff.2 rfl)) ?_; clear hJ a w; intro a w hJ
  refine rx hJ false 4 [.b 1 0, .b 3 0] [] (.ok (.ops [0, 1, 1, 1, 1, 1, 1, 1, 1] 18) [.seq [1, 1, 1, 1, 1, 1, 1, 1, 1]] [(6, .bool false), (15, .pointer (some ⟨b14, 0, none⟩)), (88, .bool true), (89, .agg #[.int .i64 5, .int .i64 (1 + pickL m 15), .string ⟨#[]⟩]), (90, .agg #[.int .i64 5, .int .i64 (1 + (pickL m 15)), .string ⟨#[]⟩])] [.box b14 [.int .i64 4, .int .i64 0, .string ⟨#[]⟩], .box b11 [.int .i64 5, .int .i64 (1 + pickL m 15), .string ⟨#[]⟩], .box b8 [.int .i64 5, .int .i64 (1 + pickL n 15), .string ⟨#[]⟩], .box b2 [.int .i64 5, .int .i64 (1 + (pickL m 15)), .string ⟨#[]⟩], .box b1 [.int .i64 5, .int .i64 (1 + (pickL n 15)), .string ⟨#[]⟩]] [(bf67, 0, [.int .i64 ((refE sP1).op), .int .i64 ((refE sP1).k), .int .i64 ((refE sP1).n), .string ((refE sP1).s), .string ((refE sP1).nm), .slice none 0 0, .int .i64 1, .int .i64 1, .int .i64 1, .string ⟨#[]⟩, .string ⟨#[]⟩, .slice none 0 0]), (bf55, 0, [.int .i64 ((refE sP1).op), .int .i64 ((refE sP1).k), .int .i64 ((refE sP1).n), .string ((refE sP1).s), .string ((refE sP1).nm), .slice none 0 0, .int .i64 ((refE sM1).op), .int .i64 ((refE sM1).k), .int .i64 ((refE sM1).n), .string ((refE sM1).s), .string ((refE sM1).nm), .slice none 0 0]), (bf43, 0, [.int .i64 ((refE sN1).op), .int .i64 ((refE sN1).k), .int .i64 ((refE sN1).n), .string ((refE sN1).s), .string ((refE sN1).nm), .slice none 0 0, .int .i64 ((refE sM1).op), .int .i64 ((refE sM1).k), .int .i64 ((refE sM1).n), .string ((refE sM1).s), .string ((refE sM1).nm), .slice none 0 0]), (bf32, 0 + j * 1, [.int .i64 q]), (bf32, 0, [.int .i64 8, .int .i64 5, .int .i64 6, .int .i64 11, .int .i64 13, .int .i64 10]), (bf31, 0, [.string ⟨#[110]⟩, .int .i64 0, .int .i64 0, .string ⟨#[]⟩, .int .i64 5, .int .i64 (1 + (pickL n 15)), .string ⟨#[]⟩, .string ⟨#[109]⟩, .int .i64 0, .int .i64 0, .string ⟨#[]⟩, .int .i64 5, .int .i64 (1 + (pickL m 15)), .string ⟨#[]⟩, .string ⟨#[112]⟩, .int .i64 0, .int .i64 0, .string ⟨#[]⟩, .int .i64 4, .int .i64 0, .string ⟨#[]⟩])]) trivial trivial (fun _ => by kernel_rfl) ?_
  clear hJ a w; intro a w hJ
  refine x_pure hJ 91 (.bool true) (by kernel_rfl) (fun w => run_eqop (x := (.tmp 89)) (y := (.tmp 90)) (v := ⟨5, 1 + pickL m 15, ⟨#[]⟩⟩) (w := ⟨5, 1 + pickL m 15, ⟨#[]⟩⟩) (by kernel_rfl) (by kernel_rfl) (by kernel_rfl) (eqB_iff.2 rfl)) ?_; clear hJ a w; intro a w hJ
  refine rx hJ false 10 [.b 0 0] [] (.ok (.out .ret) [] [(6, .bool true)] [.box b14 [.int .i64 4, .int .i64 0, .string ⟨#[]⟩], .box b11 [.int .i64 5, .int .i64 (1 + pickL m 15), .string ⟨#[]⟩], .box b8 [.int .i64 5, .int .i64 (1 + pickL n 15), .string ⟨#[]⟩], .box b2 [.int .i64 5, .int .i64 (1 + (pickL m 15)), .string ⟨#[]⟩], .box b1 [.int .i64 5, .int .i64 (1 + (pickL n 15)), .string ⟨#[]⟩]] [(bf67, 0, [.int .i64 ((refE sP1).op), .int .i64 ((refE sP1).k), .int .i64 ((refE sP1).n), .string ((refE sP1).s), .string ((refE sP1).nm), .slice none 0 0, .int .i64 1, .int .i64 1, .int .i64 1, .string ⟨#[]⟩, .string ⟨#[]⟩, .slice none 0 0]), (bf55, 0, [.int .i64 ((refE sP1).op), .int .i64 ((refE sP1).k), .int .i64 ((refE sP1).n), .string ((refE sP1).s), .string ((refE sP1).nm), .slice none 0 0, .int .i64 ((refE sM1).op), .int .i64 ((refE sM1).k), .int .i64 ((refE sM1).n), .string ((refE sM1).s), .string ((refE sM1).nm), .slice none 0 0]), (bf43, 0, [.int .i64 ((refE sN1).op), .int .i64 ((refE sN1).k), .int .i64 ((refE sN1).n), .string ((refE sN1).s), .string ((refE sN1).nm), .slice none 0 0, .int .i64 ((refE sM1).op), .int .i64 ((refE sM1).k), .int .i64 ((refE sM1).n), .string ((refE sM1).s), .string ((refE sM1).nm), .slice none 0 0]), (bf32, 0 + j * 1, [.int .i64 q]), (bf32, 0, [.int .i64 8, .int .i64 5, .int .i64 6, .int .i64 11, .int .i64 13, .int .i64 10]), (bf31, 0, [.string ⟨#[110]⟩, .int .i64 0, .int .i64 0, .string ⟨#[]⟩, .int .i64 5, .int .i64 (1 + (pickL n 15)), .string ⟨#[]⟩, .string ⟨#[109]⟩, .int .i64 0, .int .i64 0, .string ⟨#[]⟩, .int .i64 5, .int .i64 (1 + (pickL m 15)), .string ⟨#[]⟩, .string ⟨#[112]⟩, .int .i64 0, .int .i64 0, .string ⟨#[]⟩, .int .i64 4, .int .i64 0, .string ⟨#[]⟩])]) trivial trivial (fun _ => by kernel_rfl) ?_
  clear hJ a w; intro a w hJ
  refine x_end (hQ [.bool true] [.box b14 [.int .i64 4, .int .i64 0, .string ⟨#[]⟩], .box b11 [.int .i64 5, .int .i64 (1 + pickL m 15), .string ⟨#[]⟩], .box b8 [.int .i64 5, .int .i64 (1 + pickL n 15), .string ⟨#[]⟩], .box b2 [.int .i64 5, .int .i64 (1 + (pickL m 15)), .string ⟨#[]⟩], .box b1 [.int .i64 5, .int .i64 (1 + (pickL n 15)), .string ⟨#[]⟩]] [] hJ (.rtmp hJ.j (by kernel_rfl) .nil) (by kernel_rfl) (by kernel_rfl) ?_).1
  exact rfl

theorem evalFirst_walk (n m o : Int) (w : World) (n0 : -9223372036854775808 ≤ n) (n1 : n ≤ 9223372036854775807) (m0 : -9223372036854775808 ≤ m) (m1 : m ≤ 9223372036854775807) (o0 : -9223372036854775808 ≤ o) (o1 : o ≤ 9223372036854775807) :
    Calls Try.prog 10 #[.int .i64 n, .int .i64 m, .int .i64 o] w fun e w' => e = .returned (.bool true) ∧ Below w.heap.size w w' :=
  C0.law (evalFirst_c n m o ⟨w, []⟩ n0 n1 m0 m1 o0 o1)

namespace evalFirstLaw
open Go.ChangeShapes Go.WideShapes Go.ChangeAt Go.RowKit
open Go.ChangeMaps (open_string shut_string)
set_option linter.unusedVariables false

set_option maxRecDepth 100000 in
theorem lifted (os : Os) (started : os.Started) (H : Type) (enc : TypeId × Value → H) :
    ReturnsInHanded {} Try.checked os 10 .any (Rows.evalFirstSpec.pre6 enc Try.prog Try.f10 Rows.evalFirstRow.domain false) (Rows.evalFirstSpec.post enc Try.prog Try.f10 false true false false) := by
  refine returnsInHanded_of_change_sized (C := Try.checked) ownNone started (by kernel_rfl) Try.func10
    (ChangeSpec.witness6 (enc := enc) (C := Try.checked) false ⟨#[], #[.int .i64 0, .int .i64 0, .int .i64 0], []⟩ 8 (by kernel_rfl) (by kernel_rfl) (by kernel_rfl) (by kernel_rfl)) ?_
  intro W base args ds gs before hval0 hW hcnd hsz0 _
  have hval : ∀ (j : Nat) t v, Try.f10.params[j]? = some t → args[j]? = some v → Value.okWide Try.prog W .any base t v := hval0
  have hsz : (DataW.weightsEach Try.prog (Try.f10.params.toList ++ Rows.evalFirstSpec.plain.varTypes Try.prog) (ds ++ gs)).all (· ≤ reachBytes) = true := hsz0
  have hW' := hW
  obtain ⟨p, q, hA0, hV, rfl, hfz, hnd⟩ := hW
  have hA : DataW.TrodAll enc Try.prog W 0 (fun _ => true) true Try.f10.params.toList args.toList ds p := hA0
  rw [Try.params10] at hA hval hsz
  obtain ⟨v0, vs0, d0, ds0, p0, q0, hargs, rfl, rfl, h0, r0⟩ := trodAll_cons hA
  obtain ⟨v1, vs1, d1, ds1, p1, q1, rfl, rfl, rfl, h1, r1⟩ := trodAll_cons r0
  obtain ⟨v2, vs2, d2, ds2, p2, q2, rfl, rfl, rfl, h2, r2⟩ := trodAll_cons r1
  obtain ⟨rfl, rfl, rfl⟩ := trodAll_nil r2
  obtain rfl : args = #[v0, v1, v2] := by cases args; simp_all
  obtain ⟨rfl, rfl⟩ := trodVars_none hV
  have k0 := h0
  have lt0 : ∀ x ∈ p0, x.block < W.heap.size := by obtain ⟨m, hm⟩ := k0; exact DataW.trod_lt m _ _ _ hm
  obtain ⟨a0, rfl, -, -, w0⟩ := open_int Try.underlying3 (hval 0 3 v0 rfl rfl) h0
  have k1 := h1
  have lt1 : ∀ x ∈ p1, x.block < W.heap.size := by obtain ⟨m, hm⟩ := k1; exact DataW.trod_lt m _ _ _ hm
  obtain ⟨a1, rfl, -, -, w1⟩ := open_int Try.underlying3 (hval 1 3 v1 rfl rfl) h1
  have k2 := h2
  have lt2 : ∀ x ∈ p2, x.block < W.heap.size := by obtain ⟨m, hm⟩ := k2; exact DataW.trod_lt m _ _ _ hm
  obtain ⟨a2, rfl, -, -, w2⟩ := open_int Try.underlying3 (hval 2 3 v2 rfl rfl) h2
  clear hA0 hval0 hsz0
  refine (evalFirst_walk a0 a1 a2 W (int_lo w0) (int_hi w0) (int_lo w1) (int_hi w1) (int_lo w2) (int_hi w2)).mono fun e W' ⟨he, bel⟩ => ?_
  subst he
  exact ⟨_, rfl, _, _, _, [], _, [], hW', trodAll_mk1 (shut_bool Try.underlying4 _), (trodAll_cons_mk (Below.trod laidOutTrue (by kernel_rfl) (of_decide_eq_true (by kernel_rfl)) k0 bel lt0) (trodAll_cons_mk (Below.trod laidOutTrue (by kernel_rfl) (of_decide_eq_true (by kernel_rfl)) k1 bel lt1) (trodAll_cons_mk (Below.trod laidOutTrue (by kernel_rfl) (of_decide_eq_true (by kernel_rfl)) k2 bel lt2) trodAll_mk0))), rfl, bel.frame _, fun h => by cases h⟩

theorem over : Rows.evalFirstRow.holds Try.pinned (OpenSpec.ofChange Rows.evalFirstSpec) :=
  OpenClaim.holds_of_wide 10 Try.f10 rfl rfl rfl rfl rfl rfl rfl ⟨rfl, rfl, rfl, rfl, rfl⟩ rfl rfl rfl rfl rfl (by kernel_rfl) Try.func10 (by kernel_rfl)
    (of_decide_eq_true (by kernel_rfl)) (by unfold Func.isWrapper; first | (rw [if_pos (by decide +kernel)]; kernel_rfl) | (rw [if_neg (by decide +kernel)]; exact ⟨rfl, rfl⟩))
    (fun os started H enc _ => lifted os started H enc)

end evalFirstLaw
theorem evalFirst_holds : Rows.EvalFirstSaid := evalFirstLaw.over
#print axioms evalFirst_holds
end Go.Proofs.Yteolcggpflnpoaa
