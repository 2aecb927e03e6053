/-
  Contracts of package expr: printed, Print at formulas that may be.
-/
import Derived.Test.YthplkompdehjlaaGreatDoorGo
import Derived.Test.YthplkompdehjlaaGreatDoorPrnP
import Derived.Test.YthplkompdehjlaaGreatDoorRdr
import Derived.Test.YthplkompdehjlaaGreatDoorShow
namespace Go.Proofs.YthplkompdehjlaaGreatDoor
open Go.RowKit
set_option linter.unusedVariables false

theorem run_cat2 {t : TypeId} {a b c : List UInt8} {P : Program} {w : World} (h : a.length + b.length ≤ 100000) (e : a ++ b = c) : (binOp .add t (.string ⟨a.toArray⟩) (.string ⟨b.toArray⟩)).run P w = .ok (.string ⟨c.toArray⟩) w :=
  run_catb (by show Array.size _ + Array.size _ ≤ _; simpa using h) (by simpa using e)
theorem commaB_snoc (p : List UInt8) : ∀ l : List (List UInt8), commaB (l ++ [p]) = if l = [] then p else commaB l ++ (44 :: 32 :: p)
  | [] => rfl
  | [a] => rfl
  | a :: b :: r => by
    have ih := commaB_snoc p (b :: r)
    rw [if_neg (by simp)] at ih ⊢
    show a ++ 44 :: 32 :: commaB ((b :: r) ++ [p]) = (a ++ 44 :: 32 :: commaB (b :: r)) ++ _
    rw [ih]; simp
theorem commaB_len (N : Nat) : ∀ l : List (List UInt8), (∀ p ∈ l, p.length ≤ N) → (commaB l).length ≤ l.length * (N + 2)
  | [], _ => Nat.zero_le _
  | [p], h => by have := h p (by simp); show p.length ≤ 1 * (N + 2); omega
  | p :: q :: r, h => by
    have ih := commaB_len N (q :: r) (fun x hx => h x (List.mem_cons_of_mem _ hx))
    have h0 := h p (by simp)
    show (p ++ 44 :: 32 :: commaB (q :: r)).length ≤ ((q :: r).length + 1) * (N + 2)
    rw [List.length_append, List.length_cons, List.length_cons, Nat.add_mul]; omega
theorem shw_len {k n : Int} {s : ByteArray} (hk : KnownV k n s) : (shwL k n s).length ≤ 90 := by
  rcases hk with ⟨rfl, h, rfl⟩ | ⟨rfl, h, rfl⟩ | ⟨rfl, rfl, h1, h2⟩
  · show (Lib.itoa n).toArray.toList.length ≤ 90
    have := Lib.itoa_length_le n (by have := h.1; omega) (by have := h.2; omega)
    simp; omega
  · rcases h with rfl | rfl <;> decide
  · show (34 :: (escL s.data.toList ++ [34])).toArray.toList.length ≤ 90
    have := esc_len s.data.toList
    rw [toList_size] at this
    simp; omega
theorem prt_len : ∀ (m : Nat) (x : Ex) (l : Nat), (szE x).1 ≤ m → WfE x → (prt x l).length ≤ 100 * (szE x).1
  | 0, x, l, hm, _ => by have := szE_pos x; omega
  | m + 1, x, l, hm, hw => by
    have IH := prt_len m
    have hse := szE_eq x
    have hwt := hw.top
    have hwl := hw.list
    rw [hse] at hm ⊢
    obtain ⟨op, k, n, s, nm, args⟩ := x
    simp only [Ex.args, TopOk, Ex.op, Ex.k, Ex.n, Ex.s, Ex.nm] at hm hwt hwl ⊢
    have hIH : ∀ y ∈ args, ∀ l, (prt y l).length ≤ 100 * (szE y).1 := fun y hy l => IH y l (by have := (szL_mem hy).1; omega) (hwl.get hy)
    have hbr : ∀ (b : Prop) [Decidable b] (q : List UInt8), (brB b q).length ≤ q.length + 2 := fun b _ q => by unfold brB; split <;> simp
    rw [prt]
    refine Nat.le_trans (hbr _ _) ?_
    unfold bdB
    rcases hwt with ⟨h1, h2, h3, -⟩ | ⟨h1, h2, -⟩ | ⟨h1, h2, -, -, -, -, h3⟩
    · rw [if_pos h1]; have := shw_len h2; omega
    · rw [if_neg (by omega), if_pos h1]; have := h2.2.1; omega
    · rw [if_neg (show ¬ op = 1 by omega), if_neg (show ¬ op = 2 by omega)]
      rcases lv7 h1 h2 with ⟨q7, q⟩ | ⟨q6, q⟩ | ⟨q1, q5, o5, o16⟩
      · have hls : lvsO op = [] := by rcases q with rfl | rfl <;> decide
        rw [if_pos q7, hls, prtL_nil]
        have hsg : (sgL op).length ≤ 3 := by rcases q with rfl | rfl <;> decide
        have hc : ∀ l : List Ex, (∀ y ∈ l, ∀ l, (prt y l).length ≤ 100 * (szE y).1) → (commaB (l.map (prt · 1))).length ≤ 100 * (szL l).1 + 2 * l.length := fun l => by
          induction l with
          | nil => intro _; simp [commaB]
          | cons y l ih =>
            intro hh
            have i1 := ih (fun y hy => hh y (List.mem_cons_of_mem _ hy))
            have i0 := hh y (by simp) 1
            rw [szL]
            cases l with
            | nil => show (prt y 1).length ≤ _; simp only; omega
            | cons z l =>
              show (prt y 1 ++ 44 :: 32 :: commaB ((z :: l).map (prt · 1))).length ≤ _
              rw [List.length_append, List.length_cons, List.length_cons, List.length_cons]
              simp only at i1 ⊢
              simp only [List.length_cons] at i1 ⊢
              omega
        have := hc args hIH
        have ha : args.length ≤ 3 := by rw [h3]; rcases q with rfl | rfl <;> decide
        simp only [List.length_append, List.length_cons, List.length_nil]
        omega
      · have hls : lvsO op = [6] := by rcases q with rfl | rfl <;> decide
        have har : args.length = 1 := by rw [h3]; rcases q with rfl | rfl <;> decide
        obtain ⟨y, rfl⟩ : ∃ y, args = [y] := by
          cases args with
          | nil => simp at har
          | cons a b => cases b with | nil => exact ⟨a, rfl⟩ | cons c d => simp at har
        have := hIH y (by simp) 6
        rw [if_neg (by omega), hls]
        simp only [szL, prtL, List.headD_cons]
        split
        · simp only [List.length_cons]; omega
        · split
          · simp only [List.length_cons]; omega
          · omega
      · have hls : lvsO op = [if lvO op = 3 then 4 else lvO op, lvO op + 1] := by unfold lvsO; rw [if_neg (by omega), if_pos ⟨o5, o16⟩]
        have har : args.length = 2 := by rw [h3]; unfold arity; rw [if_neg (by omega), if_neg (by omega), if_neg (by omega)]
        obtain ⟨y, z, rfl⟩ : ∃ y z, args = [y, z] := by
          cases args with
          | nil => simp at har
          | cons a b => cases b with | nil => simp at har | cons c d => cases d with | nil => exact ⟨a, c, rfl⟩ | cons e f => simp at har
        have i1 := hIH y (by simp) (if lvO op = 3 then 4 else lvO op)
        have i2 := hIH z (by simp) (lvO op + 1)
        have hsg : (sgL op).length ≤ 3 := by
          obtain rfl | rfl | rfl | rfl | rfl | rfl | rfl | rfl | rfl | rfl | rfl | rfl : op = 5 ∨ op = 6 ∨ op = 7 ∨ op = 8 ∨ op = 9 ∨ op = 10 ∨ op = 11 ∨ op = 12 ∨ op = 13 ∨ op = 14 ∨ op = 15 ∨ op = 16 := by omega
          all_goals decide
        rw [if_neg (by omega), if_neg (by omega), if_neg (by omega), hls]
        simp only [szL, prtL, List.headD_cons, List.tail_cons, List.length_append, List.length_cons]
        omega
/-- Operations by their numbers. -/
theorem op_nat {op : Int} (h1 : 1 ≤ op) (h2 : op ≤ 18) : ∃ j : Nat, op = (j : Int) ∧ (j = 1 ∨ j = 2 ∨ j = 3 ∨ j = 4 ∨ j = 5 ∨ j = 6 ∨ j = 7 ∨ j = 8 ∨ j = 9 ∨ j = 10 ∨ j = 11 ∨ j = 12 ∨ j = 13 ∨ j = 14 ∨ j = 15 ∨ j = 16 ∨ j = 17 ∨ j = 18) := ⟨op.toNat, by omega, by omega⟩
theorem sh_lv {j : Nat} (h : j = 1 ∨ j = 2 ∨ j = 3 ∨ j = 4 ∨ j = 5 ∨ j = 6 ∨ j = 7 ∨ j = 8 ∨ j = 9 ∨ j = 10 ∨ j = 11 ∨ j = 12 ∨ j = 13 ∨ j = 14 ∨ j = 15 ∨ j = 16 ∨ j = 17 ∨ j = 18) : shL j = lvO (j : Int) ∧ shS j = sgL (j : Int) := by
  rcases h with rfl | rfl | rfl | rfl | rfl | rfl | rfl | rfl | rfl | rfl | rfl | rfl | rfl | rfl | rfl | rfl | rfl | rfl
  all_goals decide

set_option maxHeartbeats 1000000 in
set_option maxRecDepth 100000 in
theorem printed_any : ∀ (m : Nat) (x : Ex) (v : Value) (l : Nat) (h : Vw), (szE x).1 ≤ m → IsArgs h x v → WfE x → Lk h → (szE x).1 ≤ 60 → l ≤ 6 →
    C0 Tryz.prog 26 #[.agg #[.int .i64 x.op, .int .i64 x.k, .int .i64 x.n, .string x.s, .string x.nm, v], .int .i64 (l : Int)] h (fun r _ => r = .string ⟨(prt x l).toArray⟩)
  | 0, x, v, l, h, hm, _, _, _, _, _ => by have := szE_pos x; omega
  | m + 1, x, v, l, h, hm, hx, hw, lk, hb, hl6 => by
    have IH := printed_any m
    have hse := szE_eq x
    obtain ⟨vs, hr, hvs⟩ := hx.form
    obtain ⟨A, ca, rfl, hc1, hc2, -⟩ := hr.form
    have hvl := hvs.len
    have hwt := hw.top
    have hwl := hw.list
    have hpl := prt_len _ x l (Nat.le_refl _) hw
    rw [exRows_len hvl] at hc1 hr ⊢
    rw [hse] at hm hb
    obtain ⟨op, kx, nx, s, nm, args⟩ := x
    simp only [Ex.args, TopOk, Ex.op, Ex.k, Ex.n, Ex.s, Ex.nm] at hm hb hwt hwl hr hvs hvl hc1 ⊢
    have hsl := fun y (hy : y ∈ args) => (szL_mem hy).1
    have hIH : ∀ y ∈ args, ∀ (u : Value) (l : Nat) H, IsArgs H y u → Lk H → l ≤ 6 → C0 Tryz.prog 26 #[.agg #[.int .i64 y.op, .int .i64 y.k, .int .i64 y.n, .string y.s, .string y.nm, u], .int .i64 (l : Int)] H (fun r _ => r = .string ⟨(prt y l).toArray⟩) := fun y hy u l H q1 q2 q3 => IH y u l H (by have := hsl y hy; omega) q1 (hwl.get hy) q2 (by have := hsl y hy; omega) q3
    have hLen : ∀ y ∈ args, ∀ l, (prt y l).length ≤ 6000 := fun y hy l => by have := prt_len _ y l (Nat.le_refl _) (hwl.get hy); have := hsl y hy; omega
    clear IH hw
    obtain ⟨j, rfl, hj⟩ : ∃ j : Nat, op = (j : Int) ∧ _ := op_nat (by omega) (by omega)
    obtain ⟨hL, hS⟩ := sh_lv hj
    rw [prt] at hpl ⊢
    generalize hbd : bdB (j : Int) kx nx s nm (prtL args (lvsO (j : Int))) = bd at *
    refine g_con Tryz.func26 (c := Tryz.f26.body.getD .skip) (N := 115) ?_
    intro hbx hbad Q hQ
    refine go1 7 [.own] [] ?_
    intro b1
    refine g_reg 6 1 [.v (fun gh => .agg shapesA), .pu, .ld 1 0, .v (fun gh => .agg #[.string (shB j), Vi ((shL j : Nat) : Int), Vi ((shN j : Nat) : Int)]), .al 0, .st 0 0] [(4, true)] (trivial) ?_ ?_
    · intro R hT hA hmono
      refine And.intro (t_v hT hA hmono (k := 29) (args := (fun gh => #[])) (f := fun gh => .agg shapesA) (fun gh H sH fH lent => shapes_any _)) ?_
      refine And.intro (t_p hT hA (fun gh => .agg #[.string (shB j), Vi ((shL j : Nat) : Int), Vi ((shN j : Nat) : Int)]) (fun gh w => by rcases hj with rfl | rfl | rfl | rfl | rfl | rfl | rfl | rfl | rfl | rfl | rfl | rfl | rfl | rfl | rfl | rfl | rfl | rfl <;> kernel_rfl)) ?_
      trivial
    rintro b2 W3 S4 -
    refine go0 16 [.b 1 0] [] ?_
    have hbl : bd.length ≤ 6200 := by
      have h0 : bd.length ≤ (brB (lvO (j : Int) < l) bd).length := by
        unfold brB
        split
        · simp only [List.length_cons, List.length_append]; omega
        · exact Nat.le_refl _
      have h1 := congrArg Prod.fst hse
      simp only [Ex.args] at h1
      omega
    unfold bdB at hbd
    rw [← hL, ← hS] at hbd
    have hsg : (shS j).length ≤ 3 := by rcases hj with rfl | rfl | rfl | rfl | rfl | rfl | rfl | rfl | rfl | rfl | rfl | rfl | rfl | rfl | rfl | rfl | rfl | rfl <;> decide
    refine g_cut [1, 0, 0, 1, 1, 1] [.block 0, .seq [1, 1, 1, 1]] (fun X => ∃ (W5 : Vw) , X W5 [(1, Vi (l : Int)), (5, Vp b2), (6, .string ⟨bd.toArray⟩)] [.box b2 [.string (shB j), Vi ((shL j : Nat) : Int), Vi ((shN j : Nat) : Int)], .box b1 [Vi (j : Int), Vi kx, Vi nx, .string s, .string nm, .slice A args.length ca]] [] ∧ Sees W3 W5) [(1, Vi (l : Int)), (2, Vp b1), (5, Vp b2), (40, .bool ((j : Int) == 1))] [.box b2 [.string (shB j), Vi ((shL j : Nat) : Int), Vi ((shN j : Nat) : Int)], .box b1 [Vi (j : Int), Vi kx, Vi nx, .string s, .string nm, .slice A args.length ca]] [] ?_ ?_
    · skip
      rcases hwt with ⟨h1, h2, h3, -⟩ | ⟨h1, h2, -⟩ | ⟨h1, h2, h3, h4, h5, h6, h7⟩
      · rw [if_pos h1] at hbd
        have hSh := fun H q => sh_ok ⟨kx, nx, s⟩ H q (.inl h2)
        have he : showV ⟨kx, nx, s⟩ = ⟨bd.toArray⟩ := by rw [← hbd]; rfl
        rw [he] at hSh
        refine g_true (t := (j : Int) == 1) (beq_iff_eq.2 h1) ?_
        refine go0 9 [.b 1 1, .cl 58 #[.agg #[Vi kx, Vi nx, .string s]] (.tuple #[.string ⟨bd.toArray⟩, Vi 0])] [] ?_ (ho := (And.intro (fun H sH => hSh _ (lk.sees (S4.trans sH))) (trivial)))
        exact g_meet (fun X q => ⟨W3, q _ _ _ _ ⟨rfl, by kernel_rfl⟩, (Sees.refl _)⟩)
      · skip
        rw [if_neg (by omega), if_pos h1] at hbd
        have he : nm = ⟨bd.toArray⟩ := by rw [← hbd]
        refine g_false (t := (j : Int) == 1) (beq_eq_false_iff_ne.2 (by omega)) ?_
        refine go0 8 [.b 1 0] [] ?_
        refine g_true (t := (j : Int) == 2) (beq_iff_eq.2 h1) ?_
        refine go0 5 [.b 1 4] [] ?_
        refine g_rew 6 (v := .string nm) (v' := .string ⟨bd.toArray⟩) (congrArg Value.string he) ?_
        exact g_meet (fun X q => ⟨W3, q _ _ _ _ ⟨rfl, by kernel_rfl⟩, (Sees.refl _)⟩)
      · skip
        rw [if_neg (by omega), if_neg (by omega)] at hbd
        refine g_false (t := (j : Int) == 1) (beq_eq_false_iff_ne.2 (by omega)) ?_
        refine go0 8 [.b 1 0] [] ?_
        refine g_false (t := (j : Int) == 2) (beq_eq_false_iff_ne.2 (by omega)) ?_
        refine go0 8 [.b 0 1] [] ?_
        rcases lv7 h1 h2 with ⟨q7, q⟩ | ⟨q6, q⟩ | ⟨q1, q5, o5, o16⟩
        · have hls : lvsO (j : Int) = [] := by rcases q with q | q <;> rw [q] <;> decide
          have ha3 : args.length ≤ 3 := by rw [h7]; rcases q with q | q <;> rw [q] <;> decide
          rw [if_pos (by omega), hls, prtL_nil] at hbd
          have hPl := fun i => commaB_len 6000 ((args.map (prt · 1)).take i) (fun p hp => by obtain ⟨y, hy, rfl⟩ := List.mem_map.1 (List.mem_of_mem_take hp); exact hLen y hy 1)
          simp only [List.length_take, List.length_map] at hPl
          refine g_true (t := ((shL j : Nat) : Int) == 7) (beq_iff_eq.2 (by omega)) ?_
          refine go0 4 [.b 0 0] [] ?_
          refine g_pure (.string ⟨(shS j ++ [40]).toArray⟩) (fun w => run_bin (op := .add) (t := 9) (x := (.tmp 61)) (y := (.const (.string ⟨#[40]⟩))) (yt := 9) (va := .string ⟨(shS j).toArray⟩) (vb := .string ⟨([40]).toArray⟩) (by kernel_rfl) (by kernel_rfl) (by kernel_rfl) (by kernel_rfl) (run_cat2 (a := shS j) (b := [40]) (c := shS j ++ [40]) (by first | omega | (simp only [List.length_cons, List.length_nil]; omega) | (simp only [List.length_append, List.length_cons, List.length_nil]; omega)) (rfl))) ?_
          refine go0 13 [.b 1 5] [] ?_
          refine g_loop [0, 1, 0, 1, 0, 1, 1, 1, 1, 1, 0, 0, 1, 1, 1] [.block 1, .seq [1, 1, 0, 1, 1, 1, 1, 1, 0, 0, 1, 1, 1]] (fun (i : Nat) X => ∃ (W7 : Vw) , X W7 [(1, Vi (l : Int)), (5, Vp b2), (64, .slice A args.length ca), (65, Vi (args.length : Int)), (66, Vi (i : Int)), (6, .string ⟨(shS j ++ 40 :: commaB ((args.map (prt · 1)).take i)).toArray⟩)] [.box b2 [.string (shB j), Vi ((shL j : Nat) : Int), Vi ((shN j : Nat) : Int)], .box b1 [Vi (j : Int), Vi kx, Vi nx, .string s, .string nm, .slice A args.length ca]] [] ∧ Sees W3 W7 ∧ (i ≤ args.length)) (fun i => args.length - i) (0) (fun X q => ⟨W3, q _ _ _ _ ⟨rfl, by kernel_rfl⟩, Sees.refl _, Nat.zero_le _⟩) ?_
          rintro i a w ⟨W7, hJ, S8, hi⟩; refine g_of hJ ?_; clear hJ a w
          refine go0 6 [] [] ?_
          have hPi := hPl i
          rw [Nat.min_eq_left hi] at hPi
          have hPm : i * 6002 ≤ 3 * 6002 := Nat.mul_le_mul_right _ (by omega)
          rcases (by omega : i < args.length ∨ i = args.length) with hlt | hke
          · obtain ⟨y, hy⟩ : ∃ y, args[i]? = some y := ⟨_, List.getElem?_eq_getElem (by omega)⟩
            obtain ⟨uu, hu⟩ : ∃ y, vs[i]? = some y := ⟨_, List.getElem?_eq_getElem (by omega)⟩
            have hyu := AllArgs.get hvs hy hu
            obtain ⟨Au, nu, cu, rfl⟩ := hyu.slice
            have hrow : (exRows args vs)[i]? = some (exRow y (.slice Au nu cu)) := by show (List.zipWith exRow _ _)[i]? = _; rw [List.getElem?_zipWith, hy, hu]
            have hpy := hLen y (List.mem_of_getElem? hy) 1
            have hPs : (args.map (prt · 1)).take (i + 1) = (args.map (prt · 1)).take i ++ [prt y 1] := take_snoc' _ i _ (by rw [List.getElem?_map, hy]; rfl)
            have hcs := commaB_snoc (prt y 1) ((args.map (prt · 1)).take i)
            rw [← hPs] at hcs
            refine g_true (t := decide ((i : Int) < (args.length : Int))) (decide_eq_true (by omega)) ?_
            refine go0 7 [] [] ?_
            obtain ⟨b9, o10, rfl, -, c11⟩ := RS.row hr (hrow)
            refine g_fact (c11.sees (S4.trans S8)) ?_
            refine go1 14 [.ix b9 o10 args.length ca i, .f 0 0, .own, .b 0 0] [] ?_ (ho := (And.intro (by first | omega | (simp; omega)) (trivial)))
            intro b12
            by_cases i0 : i = 0
            · rw [if_pos (by rw [i0]; rfl)] at hcs
              refine g_false (t := decide ((i : Int) > 0)) (decide_eq_false (by omega)) ?_
              refine go0 6 [.b 0 0, .cl 26 #[.agg #[Vi y.op, Vi y.k, Vi y.n, .string y.s, .string y.nm, .slice Au nu cu], Vi 1] (.string ⟨(prt y 1).toArray⟩)] [] ?_ (ho := (And.intro (fun H sH => hIH y (List.mem_of_getElem? hy) _ 1 _ (hyu.sees (S4.trans (S8.trans sH))) (lk.sees (S4.trans (S8.trans sH))) (by omega)) (trivial)))
              refine g_pure (.string ⟨(shS j ++ 40 :: commaB ((args.map (prt · 1)).take (i + 1))).toArray⟩) (fun w => run_bin (op := .add) (t := 9) (x := (.tmp 75)) (y := (.tmp 77)) (yt := 9) (va := .string ⟨(shS j ++ 40 :: commaB ((args.map (prt · 1)).take i)).toArray⟩) (vb := .string ⟨(prt y 1).toArray⟩) (by kernel_rfl) (by kernel_rfl) (by kernel_rfl) (by kernel_rfl) (run_cat2 (a := shS j ++ 40 :: commaB ((args.map (prt · 1)).take i)) (b := prt y 1) (c := shS j ++ 40 :: commaB ((args.map (prt · 1)).take (i + 1))) (by rw [i0]; simp [commaB]; omega) (by rw [hcs, i0]; simp [commaB]))) ?_
              refine go0 8 [] [(79, Vi (IntKind.i64.wrap ((i : Int) + 1)), Vi ((i : Int) + 1))] ?_ (hc := (And.intro (i64_wrap (by omega) (by omega)) (trivial)))
              exact g_round (i + 1) (fun X q => ⟨W7, q _ _ _ _ ⟨rfl, by kernel_rfl⟩, S8, by omega⟩) (by omega)
            · skip
              rw [if_neg (by intro q; have := congrArg List.length q; rw [List.length_take, List.length_map] at this; simp only [List.length_nil] at this; omega)] at hcs
              refine g_true (t := decide ((i : Int) > 0)) (decide_eq_true (by omega)) ?_
              refine go0 2 [] [] ?_
              refine g_pure (.string ⟨((shS j ++ 40 :: commaB ((args.map (prt · 1)).take i)) ++ [44, 32]).toArray⟩) (fun w => run_bin (op := .add) (t := 9) (x := (.tmp 73)) (y := (.const (.string ⟨#[44, 32]⟩))) (yt := 9) (va := .string ⟨(shS j ++ 40 :: commaB ((args.map (prt · 1)).take i)).toArray⟩) (vb := .string ⟨([44, 32]).toArray⟩) (by kernel_rfl) (by kernel_rfl) (by kernel_rfl) (by kernel_rfl) (run_cat2 (a := shS j ++ 40 :: commaB ((args.map (prt · 1)).take i)) (b := [44, 32]) (c := (shS j ++ 40 :: commaB ((args.map (prt · 1)).take i)) ++ [44, 32]) (by first | omega | (simp only [List.length_cons, List.length_nil]; omega) | (simp only [List.length_append, List.length_cons, List.length_nil]; omega)) (rfl))) ?_
              refine go0 7 [.b 0 0, .cl 26 #[.agg #[Vi y.op, Vi y.k, Vi y.n, .string y.s, .string y.nm, .slice Au nu cu], Vi 1] (.string ⟨(prt y 1).toArray⟩)] [] ?_ (ho := (And.intro (fun H sH => hIH y (List.mem_of_getElem? hy) _ 1 _ (hyu.sees (S4.trans (S8.trans sH))) (lk.sees (S4.trans (S8.trans sH))) (by omega)) (trivial)))
              refine g_pure (.string ⟨(shS j ++ 40 :: commaB ((args.map (prt · 1)).take (i + 1))).toArray⟩) (fun w => run_bin (op := .add) (t := 9) (x := (.tmp 75)) (y := (.tmp 77)) (yt := 9) (va := .string ⟨((shS j ++ 40 :: commaB ((args.map (prt · 1)).take i)) ++ [44, 32]).toArray⟩) (vb := .string ⟨(prt y 1).toArray⟩) (by kernel_rfl) (by kernel_rfl) (by kernel_rfl) (by kernel_rfl) (run_cat2 (a := (shS j ++ 40 :: commaB ((args.map (prt · 1)).take i)) ++ [44, 32]) (b := prt y 1) (c := shS j ++ 40 :: commaB ((args.map (prt · 1)).take (i + 1))) (by first | omega | (simp only [List.length_cons, List.length_nil]; omega) | (simp only [List.length_append, List.length_cons, List.length_nil]; omega)) (by rw [hcs]; simp))) ?_
              refine go0 8 [] [(79, Vi (IntKind.i64.wrap ((i : Int) + 1)), Vi ((i : Int) + 1))] ?_ (hc := (And.intro (i64_wrap (by omega) (by omega)) (trivial)))
              exact g_round (i + 1) (fun X q => ⟨W7, q _ _ _ _ ⟨rfl, by kernel_rfl⟩, S8, by omega⟩) (by omega)
          · skip
            have hta : (args.map (prt · 1)).take i = args.map (prt · 1) := by rw [hke, List.take_of_length_le (by simp)]
            refine g_false (t := decide ((i : Int) < (args.length : Int))) (decide_eq_false (by omega)) ?_
            refine go0 2 [] [] ?_
            refine g_leave ?_
            refine go0 4 [] [] ?_
            refine g_pure (.string ⟨(bd).toArray⟩) (fun w => run_bin (op := .add) (t := 9) (x := (.tmp 80)) (y := (.const (.string ⟨#[41]⟩))) (yt := 9) (va := .string ⟨(shS j ++ 40 :: commaB ((args.map (prt · 1)).take i)).toArray⟩) (vb := .string ⟨([41]).toArray⟩) (by kernel_rfl) (by kernel_rfl) (by kernel_rfl) (by kernel_rfl) (run_cat2 (a := shS j ++ 40 :: commaB ((args.map (prt · 1)).take i)) (b := [41]) (c := bd) (by first | omega | (simp only [List.length_cons, List.length_nil]; omega) | (simp only [List.length_append, List.length_cons, List.length_nil]; omega)) (by rw [← hbd, hta]; simp))) ?_
            refine go0 2 [] [] ?_
            exact g_meet (fun X q => ⟨W7, q _ _ _ _ ⟨rfl, by kernel_rfl⟩, S8⟩)
        · skip
          have hls : lvsO (j : Int) = [6] := by rcases q with q | q <;> rw [q] <;> decide
          have har : args.length = 1 := by rw [h7]; rcases q with q | q <;> rw [q] <;> decide
          rw [if_neg (by omega), hls] at hbd
          obtain ⟨y, hy⟩ : ∃ y, args[0]? = some y := ⟨_, List.getElem?_eq_getElem (by omega)⟩
          have hpr : (prtL args [6]).headD [] = prt y 6 := by
            cases args with
            | nil => simp at har
            | cons a b => simp at hy; subst hy; rfl
          obtain ⟨uu, hu⟩ : ∃ y, vs[0]? = some y := ⟨_, List.getElem?_eq_getElem (by omega)⟩
          have hyu := AllArgs.get hvs hy hu
          obtain ⟨Au, nu, cu, rfl⟩ := hyu.slice
          have hrow : (exRows args vs)[0]? = some (exRow y (.slice Au nu cu)) := by show (List.zipWith exRow _ _)[0]? = _; rw [List.getElem?_zipWith, hy, hu]
          rw [hpr] at hbd
          have hpy := hLen y (List.mem_of_getElem? hy) 6
          rcases q with q | q
          · rw [if_pos q] at hbd
            have hs3 : shS j = [45] := by obtain rfl : j = 3 := by omega
                                          rfl
            refine g_false (t := ((shL j : Nat) : Int) == 7) (beq_eq_false_iff_ne.2 (by omega)) ?_
            refine go0 8 [.b 1 0] [] ?_
            refine g_true (t := (j : Int) == 3) (beq_iff_eq.2 q) ?_
            obtain ⟨b13, o14, rfl, -, c15⟩ := RS.row hr (hrow)
            refine g_fact (c15.sees S4) ?_
            refine g_reg 9 0 [.pu, .ld 0 0, .pu, .ld 1 5, .v (fun gh => .pointer (some ⟨b13, o14 + 0 * 6, none⟩)), .lf 0 0, .v (fun gh => .string ⟨(prt y 6).toArray⟩), .v (fun gh => .string ⟨(bd).toArray⟩), .pu] [] (trivial) ?_ ?_
            · intro R hT hA hmono
              refine And.intro (t_ix hT hA b13 o14 args.length ca 0 (fun gh => .pointer (some ⟨b13, o14 + 0 * 6, none⟩)) (by first | omega | (simp; omega))) ?_
              refine And.intro (t_v hT hA hmono (k := 26) (args := (fun gh => #[.agg #[Vi y.op, Vi y.k, Vi y.n, .string y.s, .string y.nm, .slice Au nu cu], Vi 6])) (f := fun gh => .string ⟨(prt y 6).toArray⟩) (fun gh H sH fH lent => hIH y (List.mem_of_getElem? hy) _ 6 _ (hyu.sees (S4.trans sH)) (lk.sees (S4.trans sH)) (by omega))) ?_
              refine And.intro (t_p hT hA (fun gh => .string ⟨(bd).toArray⟩) (fun gh w => run_bin (op := .add) (t := 9) (x := (.tmp 87)) (y := (.tmp 92)) (yt := 9) (va := .string ⟨(shS j).toArray⟩) (vb := .string ⟨(prt y 6).toArray⟩) (by kernel_rfl) (by kernel_rfl) (by kernel_rfl) (by kernel_rfl) (run_cat2 (a := shS j) (b := prt y 6) (c := bd) (by omega) (by rw [← hbd, hs3]; rfl)))) ?_
              trivial
            rintro W16 S17 -
            exact g_meet (fun X q => ⟨W16, q _ _ _ _ ⟨rfl, by kernel_rfl⟩, S17⟩)
          · skip
            rw [if_neg (by omega), if_pos q] at hbd
            have hs3 : shS j = [110, 111, 116] := by obtain rfl : j = 4 := by omega
                                                     rfl
            refine g_false (t := ((shL j : Nat) : Int) == 7) (beq_eq_false_iff_ne.2 (by omega)) ?_
            refine go0 8 [.b 1 0] [] ?_
            refine g_false (t := (j : Int) == 3) (beq_eq_false_iff_ne.2 (by omega)) ?_
            refine go0 8 [.b 1 0] [] ?_
            refine g_true (t := (j : Int) == 4) (beq_iff_eq.2 q) ?_
            obtain ⟨b18, o19, rfl, -, c20⟩ := RS.row hr (hrow)
            refine g_fact (c20.sees S4) ?_
            refine g_reg 10 0 [.pu, .ld 0 0, .v (fun gh => .string ⟨(shS j ++ [32]).toArray⟩), .pu, .ld 1 5, .v (fun gh => .pointer (some ⟨b18, o19 + 0 * 6, none⟩)), .lf 0 0, .v (fun gh => .string ⟨(prt y 6).toArray⟩), .v (fun gh => .string ⟨(bd).toArray⟩), .pu] [] (trivial) ?_ ?_
            · intro R hT hA hmono
              refine And.intro (t_p hT hA (fun gh => .string ⟨(shS j ++ [32]).toArray⟩) (fun gh w => run_bin (op := .add) (t := 9) (x := (.tmp 99)) (y := (.const (.string ⟨#[32]⟩))) (yt := 9) (va := .string ⟨(shS j).toArray⟩) (vb := .string ⟨([32]).toArray⟩) (by kernel_rfl) (by kernel_rfl) (by kernel_rfl) (by kernel_rfl) (run_cat2 (a := shS j) (b := [32]) (c := shS j ++ [32]) (by first | omega | (simp only [List.length_cons, List.length_nil]; omega) | (simp only [List.length_append, List.length_cons, List.length_nil]; omega)) (rfl)))) ?_
              refine And.intro (t_ix hT hA b18 o19 args.length ca 0 (fun gh => .pointer (some ⟨b18, o19 + 0 * 6, none⟩)) (by first | omega | (simp; omega))) ?_
              refine And.intro (t_v hT hA hmono (k := 26) (args := (fun gh => #[.agg #[Vi y.op, Vi y.k, Vi y.n, .string y.s, .string y.nm, .slice Au nu cu], Vi 6])) (f := fun gh => .string ⟨(prt y 6).toArray⟩) (fun gh H sH fH lent => hIH y (List.mem_of_getElem? hy) _ 6 _ (hyu.sees (S4.trans sH)) (lk.sees (S4.trans sH)) (by omega))) ?_
              refine And.intro (t_p hT hA (fun gh => .string ⟨(bd).toArray⟩) (fun gh w => run_bin (op := .add) (t := 9) (x := (.tmp 100)) (y := (.tmp 105)) (yt := 9) (va := .string ⟨(shS j ++ [32]).toArray⟩) (vb := .string ⟨(prt y 6).toArray⟩) (by kernel_rfl) (by kernel_rfl) (by kernel_rfl) (by kernel_rfl) (run_cat2 (a := shS j ++ [32]) (b := prt y 6) (c := bd) (by first | omega | (simp only [List.length_cons, List.length_nil]; omega) | (simp only [List.length_append, List.length_cons, List.length_nil]; omega)) (by rw [← hbd, hs3]; rfl)))) ?_
              trivial
            rintro W21 S22 -
            exact g_meet (fun X q => ⟨W21, q _ _ _ _ ⟨rfl, by kernel_rfl⟩, S22⟩)
        · skip
          have hls : lvsO (j : Int) = [if shL j = 3 then 4 else shL j, shL j + 1] := by rw [hL]; unfold lvsO; rw [if_neg (by omega), if_pos ⟨o5, o16⟩]
          have har : args.length = 2 := by rw [h7]; unfold arity; rw [if_neg (by omega), if_neg (by omega), if_neg (by omega)]
          rw [if_neg (by omega), if_neg (by omega), if_neg (by omega), hls] at hbd
          obtain ⟨y, hy⟩ : ∃ y, args[0]? = some y := ⟨_, List.getElem?_eq_getElem (by omega)⟩
          obtain ⟨y2, hy2⟩ : ∃ y, args[1]? = some y := ⟨_, List.getElem?_eq_getElem (by omega)⟩
          have hpr : (prtL args [if shL j = 3 then 4 else shL j, shL j + 1]).headD [] = prt y (if shL j = 3 then 4 else shL j) ∧ (prtL args [if shL j = 3 then 4 else shL j, shL j + 1]).tail.headD [] = prt y2 (shL j + 1) := by
            cases args with
            | nil => simp at har
            | cons a b =>
              simp at hy; subst hy
              cases b with
              | nil => simp at har
              | cons c d => simp at hy2; subst hy2; exact ⟨rfl, rfl⟩
          obtain ⟨uu, hu⟩ : ∃ y, vs[0]? = some y := ⟨_, List.getElem?_eq_getElem (by omega)⟩
          have hyu := AllArgs.get hvs hy hu
          obtain ⟨Au, nu, cu, rfl⟩ := hyu.slice
          have hrow : (exRows args vs)[0]? = some (exRow y (.slice Au nu cu)) := by show (List.zipWith exRow _ _)[0]? = _; rw [List.getElem?_zipWith, hy, hu]
          obtain ⟨uu2, hu2⟩ : ∃ y, vs[1]? = some y := ⟨_, List.getElem?_eq_getElem (by omega)⟩
          have hyu2 := AllArgs.get hvs hy2 hu2
          obtain ⟨Au2, nu2, cu2, rfl⟩ := hyu2.slice
          have hrow2 : (exRows args vs)[1]? = some (exRow y2 (.slice Au2 nu2 cu2)) := by show (List.zipWith exRow _ _)[1]? = _; rw [List.getElem?_zipWith, hy2, hu2]
          rw [hpr.1, hpr.2] at hbd
          have hpy := hLen y (List.mem_of_getElem? hy) (if shL j = 3 then 4 else shL j)
          have hpy2 := hLen y2 (List.mem_of_getElem? hy2) (shL j + 1)
          have hI1 : ∀ (l2 : Nat) H, IsArgs H y (.slice Au nu cu) → Lk H → l2 ≤ 6 → l2 = (if shL j = 3 then 4 else shL j) → C0 Tryz.prog 26 #[.agg #[.int .i64 y.op, .int .i64 y.k, .int .i64 y.n, .string y.s, .string y.nm, .slice Au nu cu], .int .i64 (l2 : Int)] H (fun r _ => r = .string ⟨(prt y (if shL j = 3 then 4 else shL j)).toArray⟩) := fun l2 H q1 q2 q3 e => by rw [← e]; exact hIH y (List.mem_of_getElem? hy) (.slice Au nu cu) l2 H q1 q2 q3
          have hI2 := fun H q1 q2 q3 => hIH y2 (List.mem_of_getElem? hy2) (.slice Au2 nu2 cu2) (shL j + 1) H q1 q2 q3
          generalize prt y (if shL j = 3 then 4 else shL j) = pa at *
          generalize prt y2 (shL j + 1) = pb at *
          refine g_false (t := ((shL j : Nat) : Int) == 7) (beq_eq_false_iff_ne.2 (by omega)) ?_
          refine go0 8 [.b 1 0] [] ?_
          refine g_false (t := (j : Int) == 3) (beq_eq_false_iff_ne.2 (by omega)) ?_
          refine go0 8 [.b 1 0] [] ?_
          refine g_false (t := (j : Int) == 4) (beq_eq_false_iff_ne.2 (by omega)) ?_
          refine go0 14 [.b 0 1] [] ?_
          by_cases l3 : shL j = 3
          · skip
            refine g_true (t := ((shL j : Nat) : Int) == 3) (beq_iff_eq.2 (by omega)) ?_
            refine go0 6 [] [(19, Vi (IntKind.i64.wrap (((shL j : Nat) : Int) + 1)), Vi ((4 : Nat) : Int))] ?_ (hc := (And.intro ((i64_wrap (by omega) (by omega)).trans (congrArg (Value.int .i64) (by omega))) (trivial)))
            obtain ⟨b23, o24, rfl, -, c25⟩ := RS.row hr (hrow)
            refine g_fact (c25.sees S4) ?_
            have c26 := RS.cell hr (hrow2)
            refine g_fact (c26.sees S4) ?_
            refine g_reg 21 0 [.pu, .ld 1 5, .v (fun gh => .pointer (some ⟨b23, o24 + 0 * 6, none⟩)), .lf 1 0, .pu, .v (fun gh => .string ⟨pa.toArray⟩), .v (fun gh => .string ⟨(pa ++ [32]).toArray⟩), .pu, .ld 0 0, .v (fun gh => .string ⟨(pa ++ [32] ++ shS j).toArray⟩), .v (fun gh => .string ⟨(pa ++ [32] ++ shS j ++ [32]).toArray⟩), .pu, .ld 1 5, .v (fun gh => .pointer (some ⟨b23, o24 + 1 * 6, none⟩)), .lf 0 0, .pu, .ld 0 1, .v (fun gh => Vi ((shL j + 1 : Nat) : Int)), .v (fun gh => .string ⟨pb.toArray⟩), .v (fun gh => .string ⟨(bd).toArray⟩), .pu] [] (trivial) ?_ ?_
            · intro R hT hA hmono
              refine And.intro (t_ix hT hA b23 o24 args.length ca 0 (fun gh => .pointer (some ⟨b23, o24 + 0 * 6, none⟩)) (by first | omega | (simp; omega))) ?_
              refine And.intro (t_v hT hA hmono (k := 26) (args := (fun gh => #[.agg #[Vi y.op, Vi y.k, Vi y.n, .string y.s, .string y.nm, .slice Au nu cu], Vi ((4 : Nat) : Int)])) (f := fun gh => .string ⟨pa.toArray⟩) (fun gh H sH fH lent => hI1 4 _ (hyu.sees (S4.trans sH)) (lk.sees (S4.trans sH)) (by omega) (by rw [if_pos l3]))) ?_
              refine And.intro (t_p hT hA (fun gh => .string ⟨(pa ++ [32]).toArray⟩) (fun gh w => run_bin (op := .add) (t := 9) (x := (.tmp 25)) (y := (.const (.string ⟨#[32]⟩))) (yt := 9) (va := .string ⟨(pa).toArray⟩) (vb := .string ⟨([32]).toArray⟩) (by kernel_rfl) (by kernel_rfl) (by kernel_rfl) (by kernel_rfl) (run_cat2 (a := pa) (b := [32]) (c := pa ++ [32]) (by first | omega | (simp only [List.length_cons, List.length_nil]; omega) | (simp only [List.length_append, List.length_cons, List.length_nil]; omega)) (rfl)))) ?_
              refine And.intro (t_p hT hA (fun gh => .string ⟨(pa ++ [32] ++ shS j).toArray⟩) (fun gh w => run_bin (op := .add) (t := 9) (x := (.tmp 26)) (y := (.tmp 28)) (yt := 9) (va := .string ⟨(pa ++ [32]).toArray⟩) (vb := .string ⟨(shS j).toArray⟩) (by kernel_rfl) (by kernel_rfl) (by kernel_rfl) (by kernel_rfl) (run_cat2 (a := pa ++ [32]) (b := shS j) (c := pa ++ [32] ++ shS j) (by first | omega | (simp only [List.length_cons, List.length_nil]; omega) | (simp only [List.length_append, List.length_cons, List.length_nil]; omega)) (rfl)))) ?_
              refine And.intro (t_p hT hA (fun gh => .string ⟨(pa ++ [32] ++ shS j ++ [32]).toArray⟩) (fun gh w => run_bin (op := .add) (t := 9) (x := (.tmp 29)) (y := (.const (.string ⟨#[32]⟩))) (yt := 9) (va := .string ⟨(pa ++ [32] ++ shS j).toArray⟩) (vb := .string ⟨([32]).toArray⟩) (by kernel_rfl) (by kernel_rfl) (by kernel_rfl) (by kernel_rfl) (run_cat2 (a := pa ++ [32] ++ shS j) (b := [32]) (c := pa ++ [32] ++ shS j ++ [32]) (by first | omega | (simp only [List.length_cons, List.length_nil]; omega) | (simp only [List.length_append, List.length_cons, List.length_nil]; omega)) (rfl)))) ?_
              refine And.intro (t_ix hT hA b23 o24 args.length ca 1 (fun gh => .pointer (some ⟨b23, o24 + 1 * 6, none⟩)) (by first | omega | (simp; omega))) ?_
              refine And.intro (t_eq hT hA (fun gh => Vi ((shL j + 1 : Nat) : Int)) (fun gh => Vi (IntKind.i64.wrap (((shL j : Nat) : Int) + 1))) (fun gh => i64_wrap (by omega) (by omega))) ?_
              refine And.intro (t_v hT hA hmono (k := 26) (args := (fun gh => #[.agg #[Vi y2.op, Vi y2.k, Vi y2.n, .string y2.s, .string y2.nm, .slice Au2 nu2 cu2], Vi ((shL j + 1 : Nat) : Int)])) (f := fun gh => .string ⟨pb.toArray⟩) (fun gh H sH fH lent => hI2 _ (hyu2.sees (S4.trans sH)) (lk.sees (S4.trans sH)) (by omega))) ?_
              refine And.intro (t_p hT hA (fun gh => .string ⟨(bd).toArray⟩) (fun gh w => run_bin (op := .add) (t := 9) (x := (.tmp 30)) (y := (.tmp 38)) (yt := 9) (va := .string ⟨(pa ++ [32] ++ shS j ++ [32]).toArray⟩) (vb := .string ⟨(pb).toArray⟩) (by kernel_rfl) (by kernel_rfl) (by kernel_rfl) (by kernel_rfl) (run_cat2 (a := pa ++ [32] ++ shS j ++ [32]) (b := pb) (c := bd) (by first | omega | (simp only [List.length_cons, List.length_nil]; omega) | (simp only [List.length_append, List.length_cons, List.length_nil]; omega)) (by rw [← hbd]; simp)))) ?_
              trivial
            rintro W27 S28 -
            exact g_meet (fun X q => ⟨W27, q _ _ _ _ ⟨rfl, by kernel_rfl⟩, S28⟩)
          · skip
            refine g_false (t := ((shL j : Nat) : Int) == 3) (beq_eq_false_iff_ne.2 (by omega)) ?_
            refine go0 2 [] [] ?_
            obtain ⟨b29, o30, rfl, -, c31⟩ := RS.row hr (hrow)
            refine g_fact (c31.sees S4) ?_
            have c32 := RS.cell hr (hrow2)
            refine g_fact (c32.sees S4) ?_
            refine g_reg 21 0 [.pu, .ld 1 5, .v (fun gh => .pointer (some ⟨b29, o30 + 0 * 6, none⟩)), .lf 1 0, .pu, .v (fun gh => .string ⟨pa.toArray⟩), .v (fun gh => .string ⟨(pa ++ [32]).toArray⟩), .pu, .ld 0 0, .v (fun gh => .string ⟨(pa ++ [32] ++ shS j).toArray⟩), .v (fun gh => .string ⟨(pa ++ [32] ++ shS j ++ [32]).toArray⟩), .pu, .ld 1 5, .v (fun gh => .pointer (some ⟨b29, o30 + 1 * 6, none⟩)), .lf 0 0, .pu, .ld 0 1, .v (fun gh => Vi ((shL j + 1 : Nat) : Int)), .v (fun gh => .string ⟨pb.toArray⟩), .v (fun gh => .string ⟨(bd).toArray⟩), .pu] [] (trivial) ?_ ?_
            · intro R hT hA hmono
              refine And.intro (t_ix hT hA b29 o30 args.length ca 0 (fun gh => .pointer (some ⟨b29, o30 + 0 * 6, none⟩)) (by first | omega | (simp; omega))) ?_
              refine And.intro (t_v hT hA hmono (k := 26) (args := (fun gh => #[.agg #[Vi y.op, Vi y.k, Vi y.n, .string y.s, .string y.nm, .slice Au nu cu], Vi ((shL j : Nat) : Int)])) (f := fun gh => .string ⟨pa.toArray⟩) (fun gh H sH fH lent => hI1 (shL j) _ (hyu.sees (S4.trans sH)) (lk.sees (S4.trans sH)) (by omega) (by rw [if_neg l3]))) ?_
              refine And.intro (t_p hT hA (fun gh => .string ⟨(pa ++ [32]).toArray⟩) (fun gh w => run_bin (op := .add) (t := 9) (x := (.tmp 25)) (y := (.const (.string ⟨#[32]⟩))) (yt := 9) (va := .string ⟨(pa).toArray⟩) (vb := .string ⟨([32]).toArray⟩) (by kernel_rfl) (by kernel_rfl) (by kernel_rfl) (by kernel_rfl) (run_cat2 (a := pa) (b := [32]) (c := pa ++ [32]) (by first | omega | (simp only [List.length_cons, List.length_nil]; omega) | (simp only [List.length_append, List.length_cons, List.length_nil]; omega)) (rfl)))) ?_
              refine And.intro (t_p hT hA (fun gh => .string ⟨(pa ++ [32] ++ shS j).toArray⟩) (fun gh w => run_bin (op := .add) (t := 9) (x := (.tmp 26)) (y := (.tmp 28)) (yt := 9) (va := .string ⟨(pa ++ [32]).toArray⟩) (vb := .string ⟨(shS j).toArray⟩) (by kernel_rfl) (by kernel_rfl) (by kernel_rfl) (by kernel_rfl) (run_cat2 (a := pa ++ [32]) (b := shS j) (c := pa ++ [32] ++ shS j) (by first | omega | (simp only [List.length_cons, List.length_nil]; omega) | (simp only [List.length_append, List.length_cons, List.length_nil]; omega)) (rfl)))) ?_
              refine And.intro (t_p hT hA (fun gh => .string ⟨(pa ++ [32] ++ shS j ++ [32]).toArray⟩) (fun gh w => run_bin (op := .add) (t := 9) (x := (.tmp 29)) (y := (.const (.string ⟨#[32]⟩))) (yt := 9) (va := .string ⟨(pa ++ [32] ++ shS j).toArray⟩) (vb := .string ⟨([32]).toArray⟩) (by kernel_rfl) (by kernel_rfl) (by kernel_rfl) (by kernel_rfl) (run_cat2 (a := pa ++ [32] ++ shS j) (b := [32]) (c := pa ++ [32] ++ shS j ++ [32]) (by first | omega | (simp only [List.length_cons, List.length_nil]; omega) | (simp only [List.length_append, List.length_cons, List.length_nil]; omega)) (rfl)))) ?_
              refine And.intro (t_ix hT hA b29 o30 args.length ca 1 (fun gh => .pointer (some ⟨b29, o30 + 1 * 6, none⟩)) (by first | omega | (simp; omega))) ?_
              refine And.intro (t_eq hT hA (fun gh => Vi ((shL j + 1 : Nat) : Int)) (fun gh => Vi (IntKind.i64.wrap (((shL j : Nat) : Int) + 1))) (fun gh => i64_wrap (by omega) (by omega))) ?_
              refine And.intro (t_v hT hA hmono (k := 26) (args := (fun gh => #[.agg #[Vi y2.op, Vi y2.k, Vi y2.n, .string y2.s, .string y2.nm, .slice Au2 nu2 cu2], Vi ((shL j + 1 : Nat) : Int)])) (f := fun gh => .string ⟨pb.toArray⟩) (fun gh H sH fH lent => hI2 _ (hyu2.sees (S4.trans sH)) (lk.sees (S4.trans sH)) (by omega))) ?_
              refine And.intro (t_p hT hA (fun gh => .string ⟨(bd).toArray⟩) (fun gh w => run_bin (op := .add) (t := 9) (x := (.tmp 30)) (y := (.tmp 38)) (yt := 9) (va := .string ⟨(pa ++ [32] ++ shS j ++ [32]).toArray⟩) (vb := .string ⟨(pb).toArray⟩) (by kernel_rfl) (by kernel_rfl) (by kernel_rfl) (by kernel_rfl) (run_cat2 (a := pa ++ [32] ++ shS j ++ [32]) (b := pb) (c := bd) (by first | omega | (simp only [List.length_cons, List.length_nil]; omega) | (simp only [List.length_append, List.length_cons, List.length_nil]; omega)) (by rw [← hbd]; simp)))) ?_
              trivial
            rintro W33 S34 -
            exact g_meet (fun X q => ⟨W33, q _ _ _ _ ⟨rfl, by kernel_rfl⟩, S34⟩)
    rintro a w ⟨W5, hJ, S6⟩; refine g_of hJ ?_; clear hJ a w
    refine go0 11 [.b 0 1] [] ?_
    by_cases hlt : shL j < l
    · skip
      refine g_true (t := decide (((shL j : Nat) : Int) < (l : Int))) (decide_eq_true (by omega)) ?_
      refine go0 3 [] [] ?_
      refine g_pure (.string ⟨([40] ++ bd).toArray⟩) (fun w => run_bin (op := .add) (t := 9) (x := (.const (.string ⟨#[40]⟩))) (y := (.tmp 111)) (yt := 9) (va := .string ⟨([40]).toArray⟩) (vb := .string ⟨(bd).toArray⟩) (by kernel_rfl) (by kernel_rfl) (by kernel_rfl) (by kernel_rfl) (run_cat2 (a := [40]) (b := bd) (c := [40] ++ bd) (by first | omega | (simp only [List.length_cons, List.length_nil]; omega) | (simp only [List.length_append, List.length_cons, List.length_nil]; omega)) (rfl))) ?_
      refine g_pure (.string ⟨([40] ++ bd ++ [41]).toArray⟩) (fun w => run_bin (op := .add) (t := 9) (x := (.tmp 112)) (y := (.const (.string ⟨#[41]⟩))) (yt := 9) (va := .string ⟨([40] ++ bd).toArray⟩) (vb := .string ⟨([41]).toArray⟩) (by kernel_rfl) (by kernel_rfl) (by kernel_rfl) (by kernel_rfl) (run_cat2 (a := [40] ++ bd) (b := [41]) (c := [40] ++ bd ++ [41]) (by first | omega | (simp only [List.length_cons, List.length_nil]; omega) | (simp only [List.length_append, List.length_cons, List.length_nil]; omega)) (rfl))) ?_
      refine go0 5 [] [] ?_
      refine hQ.to [.string ⟨([40] ++ bd ++ [41]).toArray⟩] (fun H sH => ?_)
      exact congrArg (fun q : List UInt8 => Value.string ⟨q.toArray⟩) (by unfold brB; rw [if_pos (by omega)]; simp)
    · skip
      refine g_false (t := decide (((shL j : Nat) : Int) < (l : Int))) (decide_eq_false (by omega)) ?_
      refine go0 9 [] [] ?_
      refine hQ.to [.string ⟨bd.toArray⟩] (fun H sH => ?_)
      exact congrArg (fun q : List UInt8 => Value.string ⟨q.toArray⟩) (by unfold brB; rw [if_neg (by omega)])

set_option maxRecDepth 100000 in
theorem print_any (x : Ex) (v : Value) (h : Vw) (hx : IsArgs h x v) (hw : WfE x) (lk : Lk h) (hb : (szE x).1 ≤ 60) (hd : (szE x).2 ≤ 12) :
    C0 Tryz.prog 11 #[.agg #[.int .i64 x.op, .int .i64 x.k, .int .i64 x.n, .string x.s, .string x.nm, v]] h (fun r _ => r = .tuple #[.string ⟨(prt x 1).toArray⟩, .int .i64 0]) := by
  obtain ⟨A, na, ca, rfl⟩ := hx.slice
  have hC := fun H q => check_any x (.slice A na ca) H q hw (by omega)
  have hc : chkE x = 0 := by unfold chkE; rw [if_neg (by omega), if_neg (by omega)]
  rw [hc] at hC
  have hP := fun H q1 q2 => printed_any _ x (.slice A na ca) 1 H (Nat.le_refl _) q1 hw q2 hb (by omega)
  refine g_con Tryz.func11 (c := Tryz.f11.body.getD .skip) (N := 12) ?_
  intro hbx hbad Q hQ
  refine go1 33 [.own, .b 0 0, .cl 25 #[.agg #[Vi x.op, Vi x.k, Vi x.n, .string x.s, .string x.nm, .slice A na ca]] (Vi 0), .b 0 0, .cl 26 #[.agg #[Vi x.op, Vi x.k, Vi x.n, .string x.s, .string x.nm, .slice A na ca], Vi 1] (.string ⟨(prt x 1).toArray⟩)] [] ?_ (ho := (And.intro (fun H sH => hC _ (hx.sees sH)) (And.intro (fun H sH => hP _ (hx.sees sH) (lk.sees sH)) (trivial))))
  intro b1
  refine hQ.to [.string ⟨(prt x 1).toArray⟩, Vi 0] (fun H sH => ?_)
  exact rfl

end Go.Proofs.YthplkompdehjlaaGreatDoor
