/-
  For all raw things and kinds FoldClosed returns true.
-/
import Derived.Test.YtgjndkphfabnnaaFold
import Derived.Test.YtgjndkphfabnnaaNmG
import Derived.Test.YtgjndkphfabnnaaLawX
import Derived.Test.YtgjndkphfabnnaaEqB
namespace Go.Proofs.Ytgjndkphfabnnaa
open Go.RowKit

theorem hd_ne4 {l : List Ex} (h : ∀ y ∈ l, (evalE [] y).k ≠ 4) (i : Nat) : (hdV (evalL [] l) i).k ≠ 4 := by
  unfold hdV
  rw [List.getD_eq_getElem?_getD, evalL_map, List.getElem?_map]
  cases e : l[i]? with
  | none => show (0 : Int) ≠ 4; decide
  | some y => exact h y (List.mem_of_getElem? e)
theorem first_ne4 {v : Vl} (h : v.k ≠ 4) : (firstV v).1.k ≠ 4 := by
  unfold firstV
  split
  · show (5 : Int) ≠ 4; decide
  · exact h
theorem bool_ne4 {v : Vl} (h : v.k ≠ 4) : (boolV v).k ≠ 4 := by
  unfold boolV
  split
  · show (5 : Int) ≠ 4; decide
  · exact h
theorem apply_ne4 (op : Int) (l : List Vl) : (applyV op l).k ≠ 4 := by
  unfold applyV joinV nrV truthV faultV
  repeat' split
  all_goals (first | (show (5 : Int) ≠ 4; decide) | (show (2 : Int) ≠ 4; decide) | (show (1 : Int) ≠ 4; decide) | (show (3 : Int) ≠ 4; decide))
theorem ev_ne4 {x : Ex} (hw : WfE x) : (evalE [] x).k ≠ 4 := by
  revert hw
  refine ex_ind (p := fun x => WfE x → (evalE [] x).k ≠ 4) (fun x ih hw => ?_) x
  have ha : ∀ y ∈ x.args, (evalE [] y).k ≠ 4 := fun y hy => ih y hy (hw.list.get hy)
  rw [evalE_eq]
  split
  · rename_i h1
    have hk : KnownV x.k x.n x.s := by
      rcases hw.top with t | t | t
      · exact t.2.1
      · omega
      · omega
    show x.k ≠ 4
    unfold KnownV at hk
    omega
  · split
    · show (5 : Int) ≠ 4; decide
    · split
      · split
        · exact first_ne4 (hd_ne4 ha 0)
        · exact bool_ne4 (hd_ne4 ha 1)
      · split
        · split
          · exact first_ne4 (hd_ne4 ha 0)
          · split
            · exact hd_ne4 ha 1
            · exact hd_ne4 ha 2
        · split
          · rename_i u hu
            rcases (lack_some hu (fun w e => by cases e)).2 with q | q
            · cases q
            · rw [evalL_map] at q
              obtain ⟨y, hy, rfl⟩ := List.mem_map.1 q
              exact ha y hy
          · exact apply_ne4 _ _

theorem closedX_any (x : Ex) (v : Value) (h : Vw) (hx : IsArgs h x v) (hw : WfE x) (hb : (szE x).1 ≤ 60) (hb2 : (szE x).2 ≤ 12) :
    C0 Try.prog 39 #[.agg #[.int .i64 x.op, .int .i64 x.k, .int .i64 x.n, .string x.s, .string x.nm, v]] h (fun r _ => r = .tuple #[.bool (refsE x).isEmpty, .int .i64 0]) := by
  obtain ⟨A, na, ca, rfl⟩ := hx.slice
  have hck := fun H hq => check_any x (.slice A na ca) H hq hw (by omega)
  rw [show chkE x = 0 from by unfold chkE; rw [if_neg (by omega), if_neg (by omega)]] at hck
  have hcl := fun H q => closed_any x (.slice A na ca) H q hw hb hb2
  generalize (refsE x).isEmpty = b at *
  refine x_con Try.func39 (c := Try.f39.body.getD .skip) (by kernel_rfl) (N := 12) rfl (by kernel_rfl) ?_
  intro hbx hbad Q hQ a w hJ
  replace hJ : K ⟨12, h.w, h.bad, []⟩ [(0, .agg #[.int .i64 x.op, .int .i64 x.k, .int .i64 x.n, .string x.s, .string x.nm, .slice A na ca])] [] [] h a w := hJ.to (by kernel_rfl) (by kernel_rfl) rfl
  refine rx hJ false 33 [.own, .b 0 0, .cl 41 #[.agg #[.int .i64 x.op, .int .i64 x.k, .int .i64 x.n, .string x.s, .string x.nm, .slice A na ca]] (.int .i64 0), .b 0 0, .cl 74 #[.agg #[.int .i64 x.op, .int .i64 x.k, .int .i64 x.n, .string x.s, .string x.nm, .slice A na ca]] (.bool b)] [] (.new fun b1 => .ok (.out .ret) [] [(2, .bool b), (3, .int .i64 0)] [.box b1 [.int .i64 x.op, .int .i64 x.k, .int .i64 x.n, .string x.s, .string x.nm, .slice A na ca]] []) (And.intro (fun H sH => hck _ (hx.sees sH)) (And.intro (fun H sH => hcl _ (hx.sees sH)) (trivial))) trivial (fun b1 _ => by kernel_rfl) ?_
  clear hJ a w; intro b1 a w hJ
  refine x_end (hQ [.bool b, .int .i64 0] _ [] hJ (.rtmp hJ.j (by kernel_rfl) (.rtmp hJ.j (by kernel_rfl) .nil)) (no_own _) rfl ?_).1
  exact rfl

theorem no_fds (h : Vw) : IsFds h (.slice none 0 0) [] := ⟨[], RS.nil _ _, by show AllArgs h [] []; unfold AllArgs; rfl⟩

set_option maxHeartbeats 2000000 in
set_option maxRecDepth 100000 in
theorem foldClosed_c (l : List RawD) (sl : Value) (kd : Int) (h : Vw) (hl : RS h 4 sl (l.map RawD.cs)) (ll : l.length * 40 ≤ reachBytes)
    (ol : ∀ r ∈ l, r.ok) (k0 : -9223372036854775808 ≤ kd) (k1 : kd ≤ 9223372036854775807) :
    C0 Try.prog 8 #[sl, .int .i64 kd] h (fun v _ => v = .bool true) := by
  have p0 := pickL_lo kd 3 (by omega)
  have p1 := pickL_hi kd 3 (by omega)
  have hpk := c_picked kd 3
  have hE := fun H v q g => expr_any l [] ll ol (by decide) v g (1 + pickL kd 3) H q
  obtain ⟨xw, x1, x2⟩ := genE_ok l [] (fun f hf => by cases hf) 3 (1 + pickL kd 3) 0 (by omega) (by omega)
  have x3 : refsE (genE l [] 3 (1 + pickL kd 3) 0).1 = [] := List.eq_nil_iff_forall_not_mem.2 fun s hs => by
    obtain ⟨f, hf, -⟩ := refs_gen (fs := []) l 3 (1 + pickL kd 3) 0 s hs
    cases hf
  generalize (genE l [] 3 (1 + pickL kd 3) 0).1 = x at *
  have x1 : (szE x).1 ≤ 40 := x1
  have x2 : (szE x).2 ≤ 4 := x2
  have yw := wf_fold xw
  obtain ⟨y1, y2⟩ := sz_fold xw
  have hF := fun H v q => foldX_any x v H q xw (by omega) (by omega)
  have hC := fun H v q => closedX_any x v H q xw (by omega) (by omega)
  rw [x3] at hC
  have hV := fun H v q => eval_any x v [] (.slice none 0 0) H q xw (by omega) (by omega) (RS.nil _ _) (fun p hp => by cases hp) (by decide)
  have hS := fun H v q => size_any _ (foldE x) v H (Nat.le_refl _) q (by omega)
  have hev := ev_fold (env := []) xw
  have hok := evalE_ok nil_ok _ x (Nat.le_refl _) xw
  have h4 := ev_ne4 xw
  have hkk := ok_kinds hok
  have hdn : (evalE [] x).k ≤ 3 → foldE x = cstE (evalE [] x) := fun hk => by rw [foldE_eq, if_pos (by unfold doneE; rw [x3]; simpa using hk)]
  obtain ⟨A1, cap1, rfl, -, -, -⟩ := hl.form
  rw [List.length_map] at *
  generalize l.length = n1 at *
  generalize evalE [] x = V at *
  generalize foldE x = y at *
  refine x_con Try.func8 (c := Try.f8.body.getD .skip) (by kernel_rfl) (N := 87) rfl (by kernel_rfl) ?_
  intro hbx hbad Q hQ a w hJ
  replace hJ : K ⟨87, h.w, h.bad, []⟩ [(0, .slice A1 n1 cap1), (1, .int .i64 kd)] [] [] h a w := hJ.to (by kernel_rfl) (by kernel_rfl) rfl
  refine rx hJ false 11 [.cl 16 #[.int .i64 kd, .int .i64 3] (.int .i64 (pickL kd 3))] [(17, .int .i64 (IntKind.i64.wrap (1 + (pickL kd 3))), .int .i64 (1 + (pickL kd 3)))] (.ok (.ops [0, 1] 4) [.seq [1, 1]] [(4, .bool false), (14, .slice A1 n1 cap1), (17, .int .i64 (1 + (pickL kd 3)))] [] []) (And.intro (fun H sH => hpk _ k0 k1 (by omega) (by omega)) (trivial)) (And.intro (i64_wrap (by omega) (by omega)) (trivial)) (fun _ => by kernel_rfl) ?_
  clear hJ a w; intro a w hJ
  refine x_call hJ 18 (hE _ _ (hl.sees hJ.j.sees) _ (no_fds _) (by omega) (by omega)) (fun _ => by kernel_rfl) ?_; clear hJ a w; rintro _ h1 a w s2 ⟨u, rfl, hx⟩ hJ
  refine rx hJ false 7 [.own, .b 0 0, .b 0 0] [] (.new fun b3 => .ok (.ops [0, 1, 1] 1) [.seq [1, 1, 1]] [(4, .bool false), (5, .pointer (some ⟨b3, 0, none⟩)), (20, .agg #[.int .i64 x.op, .int .i64 x.k, .int .i64 x.n, .string x.s, .string x.nm, .slice (sA u) (sN u) (sC u)])] [.box b3 [.int .i64 x.op, .int .i64 x.k, .int .i64 x.n, .string x.s, .string x.nm, .slice (sA u) (sN u) (sC u)]] []) trivial trivial (fun b3 _ => by kernel_rfl) ?_
  clear hJ a w; intro b3 a w hJ
  refine x_call hJ 21 (hF _ _ (hx.sees hJ.j.sees)) (fun _ => by kernel_rfl) ?_; clear hJ a w; rintro _ h4 a w s5 ⟨u2, rfl, hy⟩ hJ
  refine rx hJ false 11 [.own, .b 0 0, .b 1 0] [] (.new fun b6 => .ok (.ops [0, 1, 1, 1] 1) [.seq [1, 1, 1, 1]] [(4, .bool false), (5, .pointer (some ⟨b3, 0, none⟩)), (6, .pointer (some ⟨b6, 0, none⟩)), (7, .int .i64 0), (25, .agg #[.int .i64 x.op, .int .i64 x.k, .int .i64 x.n, .string x.s, .string x.nm, .slice (sA u) (sN u) (sC u)])] [.box b6 [.int .i64 y.op, .int .i64 y.k, .int .i64 y.n, .string y.s, .string y.nm, .slice (sA u2) (sN u2) (sC u2)], .box b3 [.int .i64 x.op, .int .i64 x.k, .int .i64 x.n, .string x.s, .string x.nm, .slice (sA u) (sN u) (sC u)]] []) trivial trivial (fun b6 _ => by kernel_rfl) ?_
  clear hJ a w; intro b6 a w hJ
  by_cases g5 : V.k = 5
  · have hy1 : y.op ≠ 1 := fun e => by
      rw [evalE_eq, if_pos e] at hev
      have hk : KnownV y.k y.n y.s := by
        rcases yw.top with t | t | t
        · exact t.2.1
        · omega
        · omega
      have e5 : y.k = 5 := by rw [← hev] at g5; exact g5
      unfold KnownV at hk
      omega
    refine rx hJ false 72 [.cl 39 #[.agg #[.int .i64 x.op, .int .i64 x.k, .int .i64 x.n, .string x.s, .string x.nm, .slice (sA u) (sN u) (sC u)]] (.tuple #[.bool true, .int .i64 0]), .b 1 0, .cl 38 #[.agg #[.int .i64 x.op, .int .i64 x.k, .int .i64 x.n, .string x.s, .string x.nm, .slice (sA u) (sN u) (sC u)], .slice none 0 0] (.tuple #[.agg #[.int .i64 V.k, .int .i64 V.n, .string V.s], .int .i64 0]), .own, .b 0 0, .b 1 0, .cl 40 #[.agg #[.int .i64 y.op, .int .i64 y.k, .int .i64 y.n, .string y.s, .string y.nm, .slice (sA u2) (sN u2) (sC u2)]] (.tuple #[.int .i64 ((szE y).1 : Int), .int .i64 ((szE y).2 : Int)]), .b 0 0, .b 1 0] [(55, .bool (V.k == 5), .bool true), (58, .bool (y.op != 1), .bool true)] (.new fun b7 => .ok (.out .ret) [] [(4, .bool true)] [.box b7 [.int .i64 V.k, .int .i64 V.n, .string V.s], .box b6 [.int .i64 y.op, .int .i64 y.k, .int .i64 y.n, .string y.s, .string y.nm, .slice (sA u2) (sN u2) (sC u2)], .box b3 [.int .i64 x.op, .int .i64 x.k, .int .i64 x.n, .string x.s, .string x.nm, .slice (sA u) (sN u) (sC u)]] []) (And.intro (fun H sH => hC _ _ (hx.sees (s5.trans sH))) (And.intro (fun H sH => hV _ _ (hx.sees (s5.trans sH))) (And.intro (fun H sH => hS _ _ (hy.sees sH)) (trivial)))) (And.intro (congrArg Value.bool (beq_iff_eq.2 g5)) (And.intro (congrArg Value.bool (bne_iff_ne.2 hy1)) (trivial))) (fun b7 _ => by kernel_rfl) ?_
    clear hJ a w; intro b7 a w hJ
    refine x_end (hQ [.bool true] _ [] hJ (.rtmp hJ.j (by kernel_rfl) .nil) (no_own _) rfl ?_).1
    exact rfl
  · skip
    have hye := hdn (by omega)
    have hsz := cst_sz V
    rw [← hye] at hsz
    by_cases g1 : V.k = 1 ∧ V.n < 0
    · rw [if_pos g1] at hsz
      have hop : y.op = 3 := by rw [hye]; unfold cstE; rw [if_pos g1]; rfl
      refine rx hJ false 92 [.cl 39 #[.agg #[.int .i64 x.op, .int .i64 x.k, .int .i64 x.n, .string x.s, .string x.nm, .slice (sA u) (sN u) (sC u)]] (.tuple #[.bool true, .int .i64 0]), .b 1 0, .cl 38 #[.agg #[.int .i64 x.op, .int .i64 x.k, .int .i64 x.n, .string x.s, .string x.nm, .slice (sA u) (sN u) (sC u)], .slice none 0 0] (.tuple #[.agg #[.int .i64 V.k, .int .i64 V.n, .string V.s], .int .i64 0]), .own, .b 0 0, .b 1 0, .cl 40 #[.agg #[.int .i64 y.op, .int .i64 y.k, .int .i64 y.n, .string y.s, .string y.nm, .slice (sA u2) (sN u2) (sC u2)]] (.tuple #[.int .i64 ((szE y).1 : Int), .int .i64 ((szE y).2 : Int)]), .b 0 0, .b 0 0, .b 0 1, .b 1 0] [(55, .bool (V.k == 5), .bool false), (61, .bool (V.k == 1), .bool true), (65, .bool (decide (V.n < 0)), .bool true), (68, .bool (((szE y).1 : Int) == 2), .bool true), (72, .bool (y.op == 3), .bool true)] (.new fun b8 => .ok (.out .ret) [] [(4, .bool true)] [.box b8 [.int .i64 V.k, .int .i64 V.n, .string V.s], .box b6 [.int .i64 y.op, .int .i64 y.k, .int .i64 y.n, .string y.s, .string y.nm, .slice (sA u2) (sN u2) (sC u2)], .box b3 [.int .i64 x.op, .int .i64 x.k, .int .i64 x.n, .string x.s, .string x.nm, .slice (sA u) (sN u) (sC u)]] []) (And.intro (fun H sH => hC _ _ (hx.sees (s5.trans sH))) (And.intro (fun H sH => hV _ _ (hx.sees (s5.trans sH))) (And.intro (fun H sH => hS _ _ (hy.sees sH)) (trivial)))) (And.intro (congrArg Value.bool (beq_eq_false_iff_ne.2 g5)) (And.intro (congrArg Value.bool (beq_iff_eq.2 g1.1)) (And.intro (congrArg Value.bool (decide_eq_true g1.2)) (And.intro (congrArg Value.bool (beq_iff_eq.2 (by rw [hsz]; rfl))) (And.intro (congrArg Value.bool (beq_iff_eq.2 hop)) (trivial)))))) (fun b8 _ => by kernel_rfl) ?_
      clear hJ a w; intro b8 a w hJ
      refine x_end (hQ [.bool true] _ [] hJ (.rtmp hJ.j (by kernel_rfl) .nil) (no_own _) rfl ?_).1
      exact rfl
    · skip
      rw [if_neg g1] at hsz
      have hop : y.op = 1 := by rw [hye]; unfold cstE; rw [if_neg g1]; rfl
      have hvv : (⟨y.k, y.n, y.s⟩ : Vl) = V := by rw [hye]; unfold cstE; rw [if_neg g1]; rfl
      by_cases g2 : V.k = 1
      · skip
        refine rx hJ false 93 [.cl 39 #[.agg #[.int .i64 x.op, .int .i64 x.k, .int .i64 x.n, .string x.s, .string x.nm, .slice (sA u) (sN u) (sC u)]] (.tuple #[.bool true, .int .i64 0]), .b 1 0, .cl 38 #[.agg #[.int .i64 x.op, .int .i64 x.k, .int .i64 x.n, .string x.s, .string x.nm, .slice (sA u) (sN u) (sC u)], .slice none 0 0] (.tuple #[.agg #[.int .i64 V.k, .int .i64 V.n, .string V.s], .int .i64 0]), .own, .b 0 0, .b 1 0, .cl 40 #[.agg #[.int .i64 y.op, .int .i64 y.k, .int .i64 y.n, .string y.s, .string y.nm, .slice (sA u2) (sN u2) (sC u2)]] (.tuple #[.int .i64 ((szE y).1 : Int), .int .i64 ((szE y).2 : Int)]), .b 0 0, .b 0 0, .b 0 1, .b 1 0, .b 1 1, .b 0 0] [(55, .bool (V.k == 5), .bool false), (61, .bool (V.k == 1), .bool true), (65, .bool (decide (V.n < 0)), .bool false), (75, .bool (((szE y).1 : Int) == 1), .bool true), (79, .bool (y.op == 1), .bool true)] (.new fun b9 => .ok (.ops [0, 1, 1, 1, 1, 1, 1, 1, 1, 1] 11) [.seq [1, 1, 1, 1, 1, 1, 1, 1, 1, 1]] [(4, .bool false), (81, .bool true), (83, .agg #[.int .i64 y.k, .int .i64 y.n, .string y.s]), (84, .agg #[.int .i64 V.k, .int .i64 V.n, .string V.s])] [.box b9 [.int .i64 V.k, .int .i64 V.n, .string V.s], .box b6 [.int .i64 y.op, .int .i64 y.k, .int .i64 y.n, .string y.s, .string y.nm, .slice (sA u2) (sN u2) (sC u2)], .box b3 [.int .i64 x.op, .int .i64 x.k, .int .i64 x.n, .string x.s, .string x.nm, .slice (sA u) (sN u) (sC u)]] []) (And.intro (fun H sH => hC _ _ (hx.sees (s5.trans sH))) (And.intro (fun H sH => hV _ _ (hx.sees (s5.trans sH))) (And.intro (fun H sH => hS _ _ (hy.sees sH)) (trivial)))) (And.intro (congrArg Value.bool (beq_eq_false_iff_ne.2 g5)) (And.intro (congrArg Value.bool (beq_iff_eq.2 g2)) (And.intro (congrArg Value.bool (decide_eq_false fun q => g1 ⟨g2, q⟩)) (And.intro (congrArg Value.bool (beq_iff_eq.2 (by rw [hsz]; rfl))) (And.intro (congrArg Value.bool (beq_iff_eq.2 hop)) (trivial)))))) (fun b9 _ => by kernel_rfl) ?_
        clear hJ a w; intro b9 a w hJ
        refine x_pure hJ 85 (.bool true) (by kernel_rfl) (fun w => run_eqop (x := (.tmp 83)) (y := (.tmp 84)) (v := (⟨y.k, y.n, y.s⟩ : Vl)) (w := V) (by kernel_rfl) (by kernel_rfl) (by kernel_rfl) (eqB_iff.2 hvv)) ?_; clear hJ a w; intro a w hJ
        refine rx hJ false 5 [] [] (.ok (.out .ret) [] [(4, .bool true)] [.box b9 [.int .i64 V.k, .int .i64 V.n, .string V.s], .box b6 [.int .i64 y.op, .int .i64 y.k, .int .i64 y.n, .string y.s, .string y.nm, .slice (sA u2) (sN u2) (sC u2)], .box b3 [.int .i64 x.op, .int .i64 x.k, .int .i64 x.n, .string x.s, .string x.nm, .slice (sA u) (sN u) (sC u)]] []) trivial trivial (fun _ => by kernel_rfl) ?_
        clear hJ a w; intro a w hJ
        refine x_end (hQ [.bool true] _ [] hJ (.rtmp hJ.j (by kernel_rfl) .nil) (no_own _) rfl ?_).1
        exact rfl
      · skip
        refine rx hJ false 93 [.cl 39 #[.agg #[.int .i64 x.op, .int .i64 x.k, .int .i64 x.n, .string x.s, .string x.nm, .slice (sA u) (sN u) (sC u)]] (.tuple #[.bool true, .int .i64 0]), .b 1 0, .cl 38 #[.agg #[.int .i64 x.op, .int .i64 x.k, .int .i64 x.n, .string x.s, .string x.nm, .slice (sA u) (sN u) (sC u)], .slice none 0 0] (.tuple #[.agg #[.int .i64 V.k, .int .i64 V.n, .string V.s], .int .i64 0]), .own, .b 0 0, .b 1 0, .cl 40 #[.agg #[.int .i64 y.op, .int .i64 y.k, .int .i64 y.n, .string y.s, .string y.nm, .slice (sA u2) (sN u2) (sC u2)]] (.tuple #[.int .i64 ((szE y).1 : Int), .int .i64 ((szE y).2 : Int)]), .b 0 0, .b 0 0, .b 1 0, .b 1 1, .b 0 0] [(55, .bool (V.k == 5), .bool false), (61, .bool (V.k == 1), .bool false), (75, .bool (((szE y).1 : Int) == 1), .bool true), (79, .bool (y.op == 1), .bool true)] (.new fun b10 => .ok (.ops [0, 1, 1, 1, 1, 1, 1, 1, 1, 1] 11) [.seq [1, 1, 1, 1, 1, 1, 1, 1, 1, 1]] [(4, .bool false), (81, .bool true), (83, .agg #[.int .i64 y.k, .int .i64 y.n, .string y.s]), (84, .agg #[.int .i64 V.k, .int .i64 V.n, .string V.s])] [.box b10 [.int .i64 V.k, .int .i64 V.n, .string V.s], .box b6 [.int .i64 y.op, .int .i64 y.k, .int .i64 y.n, .string y.s, .string y.nm, .slice (sA u2) (sN u2) (sC u2)], .box b3 [.int .i64 x.op, .int .i64 x.k, .int .i64 x.n, .string x.s, .string x.nm, .slice (sA u) (sN u) (sC u)]] []) (And.intro (fun H sH => hC _ _ (hx.sees (s5.trans sH))) (And.intro (fun H sH => hV _ _ (hx.sees (s5.trans sH))) (And.intro (fun H sH => hS _ _ (hy.sees sH)) (trivial)))) (And.intro (congrArg Value.bool (beq_eq_false_iff_ne.2 g5)) (And.intro (congrArg Value.bool (beq_eq_false_iff_ne.2 g2)) (And.intro (congrArg Value.bool (beq_iff_eq.2 (by rw [hsz]; rfl))) (And.intro (congrArg Value.bool (beq_iff_eq.2 hop)) (trivial))))) (fun b10 _ => by kernel_rfl) ?_
        clear hJ a w; intro b10 a w hJ
        refine x_pure hJ 85 (.bool true) (by kernel_rfl) (fun w => run_eqop (x := (.tmp 83)) (y := (.tmp 84)) (v := (⟨y.k, y.n, y.s⟩ : Vl)) (w := V) (by kernel_rfl) (by kernel_rfl) (by kernel_rfl) (eqB_iff.2 hvv)) ?_; clear hJ a w; intro a w hJ
        refine rx hJ false 5 [] [] (.ok (.out .ret) [] [(4, .bool true)] [.box b10 [.int .i64 V.k, .int .i64 V.n, .string V.s], .box b6 [.int .i64 y.op, .int .i64 y.k, .int .i64 y.n, .string y.s, .string y.nm, .slice (sA u2) (sN u2) (sC u2)], .box b3 [.int .i64 x.op, .int .i64 x.k, .int .i64 x.n, .string x.s, .string x.nm, .slice (sA u) (sN u) (sC u)]] []) trivial trivial (fun _ => by kernel_rfl) ?_
        clear hJ a w; intro a w hJ
        refine x_end (hQ [.bool true] _ [] hJ (.rtmp hJ.j (by kernel_rfl) .nil) (no_own _) rfl ?_).1
        exact rfl

theorem foldClosed_walk (v : Value) (l : List RawD) (kd : Int) (w : World) (h : RawsOf w v l) (k0 : -9223372036854775808 ≤ kd) (k1 : kd ≤ 9223372036854775807) :
    Calls Try.prog 8 #[v, .int .i64 kd] w fun e w' => e = .returned (.bool true) ∧ Below w.heap.size w w' :=
  C0.law (foldClosed_c l v kd ⟨w, []⟩ h.rs h.2.1 h.2.2 k0 k1)

namespace foldClosedLaw
open Go.ChangeShapes Go.WideShapes Go.ChangeAt Go.RowKit
open Go.ChangeMaps (open_string shut_string)
set_option linter.unusedVariables false

set_option maxRecDepth 100000 in
theorem lifted (os : Os) (started : os.Started) (H : Type) (enc : TypeId × Value → H) :
    ReturnsInHanded {} Try.checked os 8 .any (Rows.foldClosedSpec.pre6 enc Try.prog Try.f8 Rows.foldClosedRow.domain false) (Rows.foldClosedSpec.post enc Try.prog Try.f8 false true false false) := by
  refine returnsInHanded_of_change_sized (C := Try.checked) ownNone started (by kernel_rfl) Try.func8
    (ChangeSpec.witness6 (enc := enc) (C := Try.checked) false ⟨#[], #[.slice none 0 0, .int .i64 0], []⟩ 8 (by kernel_rfl) (by kernel_rfl) (by kernel_rfl) (by kernel_rfl)) ?_
  intro W base args ds gs before hval0 hW hcnd hsz0 _
  have hval : ∀ (j : Nat) t v, Try.f8.params[j]? = some t → args[j]? = some v → Value.okWide Try.prog W .any base t v := hval0
  have hsz : (DataW.weightsEach Try.prog (Try.f8.params.toList ++ Rows.foldClosedSpec.plain.varTypes Try.prog) (ds ++ gs)).all (· ≤ reachBytes) = true := hsz0
  have hW' := hW
  obtain ⟨p, q, hA0, hV, rfl, hfz, hnd⟩ := hW
  have hA : DataW.TrodAll enc Try.prog W 0 (fun _ => true) true Try.f8.params.toList args.toList ds p := hA0
  rw [Try.params8] at hA hval hsz
  obtain ⟨v0, vs0, d0, ds0, p0, q0, hargs, rfl, rfl, h0, r0⟩ := trodAll_cons hA
  obtain ⟨v1, vs1, d1, ds1, p1, q1, rfl, rfl, rfl, h1, r1⟩ := trodAll_cons r0
  obtain ⟨rfl, rfl, rfl⟩ := trodAll_nil r1
  obtain rfl : args = #[v0, v1] := by cases args; simp_all
  obtain ⟨rfl, rfl⟩ := trodVars_none hV
  have k0 := h0
  have lt0 : ∀ x ∈ p0, x.block < W.heap.size := by obtain ⟨m, hm⟩ := k0; exact DataW.trod_lt m _ _ _ hm
  obtain ⟨a0, w0⟩ := open_rows (hval 0 22 v0 rfl rfl) h0 (fun es ss hd => sized_slice hsz (j := 0) (t := 22) (elems := es) (spare := ss) rfl (by rw [hd]; rfl) Try.underlying22)
  have k1 := h1
  have lt1 : ∀ x ∈ p1, x.block < W.heap.size := by obtain ⟨m, hm⟩ := k1; exact DataW.trod_lt m _ _ _ hm
  obtain ⟨a1, rfl, -, -, w1⟩ := open_int Try.underlying3 (hval 1 3 v1 rfl rfl) h1
  clear hA0 hval0 hsz0
  refine (foldClosed_walk v0 a0 a1 W w0 (int_lo w1) (int_hi w1)).mono fun e W' ⟨he, bel⟩ => ?_
  subst he
  exact ⟨_, rfl, _, _, _, [], _, [], hW', trodAll_mk1 (shut_bool Try.underlying4 _), (trodAll_cons_mk (Below.trod laidOutTrue (by kernel_rfl) (of_decide_eq_true (by kernel_rfl)) k0 bel lt0) (trodAll_cons_mk (Below.trod laidOutTrue (by kernel_rfl) (of_decide_eq_true (by kernel_rfl)) k1 bel lt1) trodAll_mk0)), rfl, bel.frame _, fun h => by cases h⟩

theorem over : Rows.foldClosedRow.holds Try.pinned (OpenSpec.ofChange Rows.foldClosedSpec) :=
  OpenClaim.holds_of_wide 8 Try.f8 rfl rfl rfl rfl rfl rfl rfl ⟨rfl, rfl, rfl, rfl, rfl⟩ rfl rfl rfl rfl rfl (by kernel_rfl) Try.func8 (by kernel_rfl)
    (of_decide_eq_true (by kernel_rfl)) (by unfold Func.isWrapper; first | (rw [if_pos (by decide +kernel)]; kernel_rfl) | (rw [if_neg (by decide +kernel)]; exact ⟨rfl, rfl⟩))
    (fun os started H enc _ => lifted os started H enc)

end foldClosedLaw
theorem foldClosed_holds : Rows.FoldClosedSaid := foldClosedLaw.over
#print axioms foldClosed_holds
end Go.Proofs.Ytgjndkphfabnnaa
