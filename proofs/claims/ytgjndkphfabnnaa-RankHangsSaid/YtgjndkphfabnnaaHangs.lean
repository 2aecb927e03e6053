/-
  Contract of rank.Hangs where all fields can be ranked.
-/
import Derived.Test.YtgjndkphfabnnaaOrdO
import Derived.Test.YtgjndkphfabnnaaMl
namespace Go.Proofs.Ytgjndkphfabnnaa
open Go.RowKit
set_option linter.unusedVariables false

/-! ### A map of places that were met -/
def metL (l : List Nat) : List (Int × Value) := l.map fun (k : Nat) => ((k : Int), .bool true)
abbrev metEs (l : List Nat) : List (Value × Value) := intEs (metL l)
theorem metEs_snoc (l : List Nat) (k : Nat) : metEs (l ++ [k]) = metEs l ++ [(.int .i64 (k : Int), .bool true)] := by simp [metEs, intEs, metL]
theorem iget_met (k : Nat) : ∀ l : List Nat, iget (k : Int) (metL l) = if k ∈ l then some (.bool true) else none
  | [] => rfl
  | x :: l => by
    have ih := iget_met k l
    unfold metL at ih ⊢
    rw [List.map_cons, iget, ih]
    by_cases e : k = x
    · subst e; simp
    · rw [if_neg (by omega)]
      simp [e]
theorem met_yes {k : Nat} {l : List Nat} (h : k ∈ l) : ∃ i, mfind (.int .i64) (.int .i64 (k : Int)) (metEs l) = some (some (i, .bool true)) := ifind_some (by rw [iget_met, if_pos h])
theorem met_no {k : Nat} {l : List Nat} (h : k ∉ l) : mfind (.int .i64) (.int .i64 (k : Int)) (metEs l) = some none := ifind_none (by rw [iget_met, if_neg h])
section
variable {P : Program} {C : Fx} {E : List (Nat × Value)} {B : List Ent} {h : Vw} {a : Act} {w : World}
theorem J.mapQ (hJ : J C E B h a w) (i : Nat) {b : Nat} {es : List (Value × Value)} (hb : B[i]? = some (.map b es)) : MapAt ⟨w, []⟩ b es := ⟨by simp, hJ.ents _ (List.mem_of_getElem? hb)⟩
end

theorem hangc_any (met : List Nat) (k b bm : Nat) (h : Vw) (hb : Cells h b 0 [.map (some bm)]) (hm : MapAt h bm (metEs met)) : C0 Try.prog 87 #[.int .i64 (k : Int), .pointer (some ⟨b, 0, none⟩)] h (fun r _ => r = .bool (decide (k ∈ met))) := by
  by_cases hk : k ∈ met
  · obtain ⟨i, hi⟩ := met_yes hk
    refine x_con Try.func87 (c := Try.f87.body.getD .skip) (by kernel_rfl) (N := 7) rfl (by kernel_rfl) ?_
    intro hbx hbad Q hQ a w hJ
    replace hJ : K ⟨7, h.w, h.bad, []⟩ [(0, Vi (k : Int)), (1, Vp b)] [] [] h a w := hJ.to (by kernel_rfl) (by kernel_rfl) rfl
    replace hJ := hJ.fact (hb.sees (Sees.refl _))
    refine rx hJ false 9 [.f 0 0] [] (.ok (.ops [0, 1] 2) [.seq [1, 1]] [(3, .bool false), (4, .map (some bm)), (5, Vi (k : Int))] [] [(b, 0, [.map (some bm)])]) trivial trivial (fun _ => by kernel_rfl) ?_
    clear hJ a w; intro a w hJ
    refine x_mapget hJ 6 (b := bm) (t := 131) (mo := (.tmp 4)) (ko := (.tmp 5)) (c := false) (es := metEs met) (kt := 3) (et := 4) (td := .int .i64) (key := Vi (k : Int)) (z := .bool false) (v := .bool true) (r := some (i, .bool true)) (by kernel_rfl) (by kernel_rfl) (MapAt.now (hm.sees (Sees.refl _)) hJ) (by kernel_rfl) (by kernel_rfl) Try.underlying131 Try.underlying3 (by kernel_rfl) (hi) (fun _ => by kernel_rfl) (by kernel_rfl) ?_; clear hJ a w; intro a w hJ
    refine rx hJ false 4 [] [] (.ok (.out .ret) [] [(3, .bool true)] [] [(b, 0, [.map (some bm)])]) trivial trivial (fun _ => by kernel_rfl) ?_
    clear hJ a w; intro a w hJ
    refine x_end (hQ [.bool true] _ [] hJ (.rtmp hJ.j (by kernel_rfl) .nil) (no_own _) rfl ?_).1
    exact congrArg Value.bool (decide_eq_true hk).symm
  · refine x_con Try.func87 (c := Try.f87.body.getD .skip) (by kernel_rfl) (N := 7) rfl (by kernel_rfl) ?_
    intro hbx hbad Q hQ a w hJ
    replace hJ : K ⟨7, h.w, h.bad, []⟩ [(0, Vi (k : Int)), (1, Vp b)] [] [] h a w := hJ.to (by kernel_rfl) (by kernel_rfl) rfl
    replace hJ := hJ.fact (hb.sees (Sees.refl _))
    refine rx hJ false 9 [.f 0 0] [] (.ok (.ops [0, 1] 2) [.seq [1, 1]] [(3, .bool false), (4, .map (some bm)), (5, Vi (k : Int))] [] [(b, 0, [.map (some bm)])]) trivial trivial (fun _ => by kernel_rfl) ?_
    clear hJ a w; intro a w hJ
    refine x_mapget hJ 6 (b := bm) (t := 131) (mo := (.tmp 4)) (ko := (.tmp 5)) (c := false) (es := metEs met) (kt := 3) (et := 4) (td := .int .i64) (key := Vi (k : Int)) (z := .bool false) (v := .bool false) (r := none) (by kernel_rfl) (by kernel_rfl) (MapAt.now (hm.sees (Sees.refl _)) hJ) (by kernel_rfl) (by kernel_rfl) Try.underlying131 Try.underlying3 (by kernel_rfl) (met_no hk) (fun _ => by kernel_rfl) (by kernel_rfl) ?_; clear hJ a w; intro a w hJ
    refine rx hJ false 4 [] [] (.ok (.out .ret) [] [(3, .bool false)] [] [(b, 0, [.map (some bm)])]) trivial trivial (fun _ => by kernel_rfl) ?_
    clear hJ a w; intro a w hJ
    refine x_end (hQ [.bool false] _ [] hJ (.rtmp hJ.j (by kernel_rfl) .nil) (no_own _) rfl ?_).1
    exact congrArg Value.bool (decide_eq_false hk).symm

set_option maxRecDepth 100000 in
theorem hidx_any (l met : List Nat) (v : Value) (b bm : Nat) (h : Vw) (hr : RS h 1 v (natRows l)) (hl : l.length ≤ 1000000) (hb : Cells h b 0 [.map (some bm)]) (hm : MapAt h bm (metEs met)) :
    C0 Try.prog 113 #[v, .func (.func 87) #[] #[.pointer (some ⟨b, 0, none⟩)]] h (fun r _ => r = .int .i64 (fidx (fun y => decide (y ∈ met)) l)) := by
  have hc := fun k H q1 q2 => hangc_any met k b bm H q1 q2
  obtain ⟨A, cap, rfl, -, -, -⟩ := hr.form
  rw [List.length_map] at *
  generalize hL : l.length = len at *
  refine x_con Try.func113 (c := Try.f113.body.getD .skip) (by kernel_rfl) (N := 19) rfl (by kernel_rfl) ?_
  intro hbx hbad Q hQ a w hJ
  replace hJ : K ⟨19, h.w, h.bad, []⟩ [(0, .slice A len cap), (1, .func (.func 87) #[] #[Vp b])] [] [] h a w := hJ.to (by kernel_rfl) (by kernel_rfl) rfl
  refine rx hJ false 14 [] [] (.ok (.code [0, 1, 0, 1]) [.block 0, .seq [1, 1]] [(0, .slice A len cap), (1, .func (.func 87) #[] #[Vp b]), (4, Vi 0), (7, Vi (len : Int)), (8, Vi 0)] [] []) trivial trivial (fun _ => by kernel_rfl) ?_
  clear hJ a w; intro a w hJ
  refine x_loop (fun (k : Nat) a w => ∃ (h1 : Vw) , K ⟨19, h.w, h.bad, []⟩ [(0, .slice A len cap), (1, .func (.func 87) #[] #[Vp b]), (7, Vi (len : Int)), (8, Vi (k : Int))] [] [] h1 a w ∧ Sees h h1 ∧ (k ≤ len) ∧ (∀ y ∈ l.take k, decide (y ∈ met) = false)) (fun k => len - k) (0) (by kernel_rfl) ⟨h, hJ.to (by kernel_rfl) (by kernel_rfl) rfl, Sees.refl _, Nat.zero_le _, fun y hy => by simp at hy⟩ ?_
  clear hJ a w; rintro k a w ⟨h1, hJ, s2, hk, hn⟩
  refine rx hJ false 6 [] [] (.ok (.code [0, 1, 0, 0, 1, 0, 1]) [.seq [1, 1, 0, 0, 1, 0, 1]] [(0, .slice A len cap), (1, .func (.func 87) #[] #[Vp b]), (7, Vi (len : Int)), (8, Vi (k : Int)), (9, .bool (decide ((k : Int) < (len : Int))))] [] []) trivial trivial (fun _ => by kernel_rfl) ?_
  clear hJ a w; intro a w hJ
  rcases (by omega : k < len ∨ k = len) with hlt | hke
  · obtain ⟨f, hfk⟩ : ∃ f, l[k]? = some f := ⟨_, List.getElem?_eq_getElem (by omega)⟩
    have hrow : (natRows l)[k]? = some [.int .i64 (f : Int)] := by rw [List.getElem?_map, hfk]; rfl
    refine x_true hJ (t := decide ((k : Int) < (len : Int))) (by kernel_rfl) (decide_eq_true (by omega)) ?_
    refine rx hJ false 15 [] [] (.ok (.ops [0, 1, 0, 0, 1, 1, 0, 0, 1, 0, 1] 3) [.seq [1, 1, 0, 0, 1, 1, 0, 0, 1, 0, 1], .block 1, .seq [1, 1, 1, 0, 0, 1, 0, 1]] [(0, .slice A len cap), (1, .func (.func 87) #[] #[Vp b]), (7, Vi (len : Int)), (8, Vi (k : Int)), (9, .bool (decide ((k : Int) < (len : Int)))), (10, Vi (k : Int)), (5, Vi (k : Int)), (11, .func (.func 87) #[] #[Vp b]), (12, .slice A len cap), (13, Vi (k : Int))] [] []) trivial trivial (fun _ => by kernel_rfl) ?_
    clear hJ a w; intro a w hJ
    obtain ⟨b3, o4, rfl, -, c5⟩ := RS.row hr (hrow)
    replace hJ := hJ.fact (c5.sees s2)
    refine rx hJ false 5 [.ix b3 o4 len cap k, .f 0 0, .cl 87 #[Vi (f : Int), Vp b] (.bool (decide (f ∈ met)))] [] (.ok (.code [1, 1, 0, 0, 1, 1, 0, 0, 1, 0, 1]) [.block 1, .seq [1, 1, 1, 0, 0, 1, 0, 1]] [(0, .slice (some ⟨b3, o4, none⟩) len cap), (1, .func (.func 87) #[] #[Vp b]), (7, Vi (len : Int)), (8, Vi (k : Int)), (9, .bool (decide ((k : Int) < (len : Int)))), (10, Vi (k : Int)), (5, Vi (k : Int)), (11, .func (.func 87) #[] #[Vp b]), (12, .slice (some ⟨b3, o4, none⟩) len cap), (13, Vi (k : Int)), (14, .pointer (some ⟨b3, o4 + k * 1, none⟩)), (15, Vi (f : Int)), (16, .bool (decide (f ∈ met)))] [] [(b3, o4 + k * 1, [Vi (f : Int)])]) (And.intro (by first | omega | (simp; omega)) (And.intro (fun H sH => hc f _ (hb.sees (s2.trans sH)) (hm.sees (s2.trans sH))) (trivial))) trivial (fun _ => by kernel_rfl) ?_
    clear hJ a w; intro a w hJ
    rcases Bool.eq_false_or_eq_true (decide (f ∈ met)) with hq | hq
    · refine x_true hJ (t := decide (f ∈ met)) (by kernel_rfl) (hq) ?_
      refine rx hJ false 9 [] [] (.ok (.out .ret) [] [(0, .slice (some ⟨b3, o4, none⟩) len cap), (1, .func (.func 87) #[] #[Vp b]), (7, Vi (len : Int)), (8, Vi (k : Int)), (9, .bool (decide ((k : Int) < (len : Int)))), (10, Vi (k : Int)), (5, Vi (k : Int)), (11, .func (.func 87) #[] #[Vp b]), (12, .slice (some ⟨b3, o4, none⟩) len cap), (13, Vi (k : Int)), (14, .pointer (some ⟨b3, o4 + k * 1, none⟩)), (15, Vi (f : Int)), (16, .bool (decide (f ∈ met))), (17, Vi (k : Int)), (4, Vi (k : Int))] [] [(b3, o4 + k * 1, [Vi (f : Int)])]) trivial trivial (fun _ => by kernel_rfl) ?_
      clear hJ a w; intro a w hJ
      refine x_leave rfl ?_
      refine rx hJ false 2 [] [] (.ok (.out .ret) [] [(4, Vi (k : Int))] [] [(b3, o4 + k * 1, [Vi (f : Int)])]) trivial trivial (fun _ => by kernel_rfl) ?_
      clear hJ a w; intro a w hJ
      refine x_end (hQ [Vi (k : Int)] _ [] hJ (.rtmp hJ.j (by kernel_rfl) .nil) (no_own _) rfl ?_).1
      exact congrArg (Value.int .i64) (fidx_found _ l k f hn hfk hq).symm
    · skip
      refine x_false hJ (t := decide (f ∈ met)) (by kernel_rfl) (hq) ?_
      refine rx hJ false 7 [] [(18, Vi (IntKind.i64.wrap ((k : Int) + 1)), Vi ((k : Int) + 1))] (.ok (.out .normal) [] [(0, .slice (some ⟨b3, o4, none⟩) len cap), (1, .func (.func 87) #[] #[Vp b]), (7, Vi (len : Int)), (9, .bool (decide ((k : Int) < (len : Int)))), (10, Vi (k : Int)), (5, Vi (k : Int)), (11, .func (.func 87) #[] #[Vp b]), (12, .slice (some ⟨b3, o4, none⟩) len cap), (13, Vi (k : Int)), (14, .pointer (some ⟨b3, o4 + k * 1, none⟩)), (15, Vi (f : Int)), (16, .bool (decide (f ∈ met))), (18, Vi ((k : Int) + 1)), (8, Vi ((k : Int) + 1))] [] [(b3, o4 + k * 1, [Vi (f : Int)])]) trivial (And.intro (i64_wrap (by omega) (by omega)) (trivial)) (fun _ => by kernel_rfl) ?_
      clear hJ a w; intro a w hJ
      exact x_round ⟨k + 1, ⟨h1, (hJ.tof [] (F' := []) (by kernel_rfl)).to (by kernel_rfl) (by kernel_rfl) rfl, s2, by omega, (by rw [take_snoc' l k f hfk]; exact fun y hy => (List.mem_append.1 hy).elim (hn y) (fun e => by rw [List.mem_singleton.1 e]; exact hq))⟩, by omega⟩
  · skip
    have htk : l.take k = l := by rw [hke, ← hL, List.take_length]
    rw [htk] at hn
    refine x_false hJ (t := decide ((k : Int) < (len : Int))) (by kernel_rfl) (decide_eq_false (by omega)) ?_
    refine rx hJ false 2 [] [] (.ok (.out (.exit 0)) [] [(0, .slice A len cap), (1, .func (.func 87) #[] #[Vp b]), (7, Vi (len : Int)), (8, Vi (k : Int)), (9, .bool (decide ((k : Int) < (len : Int))))] [] []) trivial trivial (fun _ => by kernel_rfl) ?_
    clear hJ a w; intro a w hJ
    refine x_leave rfl ?_
    refine rx hJ false 8 [] [] (.ok (.out .ret) [] [(4, Vi (-1))] [] []) trivial trivial (fun _ => by kernel_rfl) ?_
    clear hJ a w; intro a w hJ
    refine x_end (hQ [Vi (-1)] _ [] hJ (.rtmp hJ.j (by kernel_rfl) .nil) (no_own _) rfl ?_).1
    exact congrArg (Value.int .i64) (fidx_none _ l hn).symm
/-- Whether one of them was met. -/
def hitB (l met : List Nat) : Bool := l.any fun y => decide (y ∈ met)
theorem hcf_any (l met : List Nat) (v : Value) (b bm : Nat) (h : Vw) (hr : RS h 1 v (natRows l)) (hl : l.length ≤ 1000000) (hb : Cells h b 0 [.map (some bm)]) (hm : MapAt h bm (metEs met)) :
    C0 Try.prog 78 #[v, .func (.func 87) #[] #[.pointer (some ⟨b, 0, none⟩)]] h (fun r _ => r = .bool (hitB l met)) := by
  have hi := fun H q1 q2 q3 => hidx_any l met v b bm H q1 hl q2 q3
  have e : decide (0 ≤ fidx (fun y => decide (y ∈ met)) l) = hitB l met := fidx_dec _ _
  generalize fidx (fun y => decide (y ∈ met)) l = p at *
  obtain ⟨A, cap, rfl, -, -, -⟩ := hr.form
  refine x_con Try.func78 (c := Try.f78.body.getD .skip) (by kernel_rfl) (N := 9) rfl (by kernel_rfl) ?_
  intro hbx hbad Q hQ a w hJ
  replace hJ : K ⟨9, h.w, h.bad, []⟩ [(0, .slice A ((natRows l).length) cap), (1, .func (.func 87) #[] #[Vp b])] [] [] h a w := hJ.to (by kernel_rfl) (by kernel_rfl) rfl
  refine rx hJ false 15 [.cl 113 #[.slice A ((natRows l).length) cap, .func (.func 87) #[] #[Vp b]] (Vi p)] [] (.ok (.out .ret) [] [(4, .bool (decide (p ≥ 0)))] [] []) (And.intro (fun H sH => hi _ (hr.sees sH) (hb.sees sH) (hm.sees sH)) (trivial)) trivial (fun _ => by kernel_rfl) ?_
  clear hJ a w; intro a w hJ
  refine x_end (hQ [.bool (decide (p ≥ 0))] _ [] hJ (.rtmp hJ.j (by kernel_rfl) .nil) (no_own _) rfl ?_).1
  exact congrArg Value.bool e

/-! ### What hangs on a place, in plain words -/
def hgStep (need : List (List Nat)) (met : List Nat) (i : Nat) : List Nat := if hitB (need.getD i []) met = true then met ++ [i] else met
def hgK (need : List (List Nat)) (a : Nat) (o : List Nat) (k : Nat) : List Nat := (o.take k).foldl (hgStep need) [a]
def hgL (need : List (List Nat)) (a : Nat) (o : List Nat) (n : Nat) : List Nat := (List.range n).filter fun i => decide (i ∈ hgK need a o n)
theorem hitB_iff {l met : List Nat} : hitB l met = true ↔ ∃ y ∈ l, y ∈ met := by unfold hitB; rw [List.any_eq_true]; simp
theorem hgK_succ {need : List (List Nat)} {a : Nat} {o : List Nat} {k i : Nat} (h : o[k]? = some i) : hgK need a o (k + 1) = hgStep need (hgK need a o k) i := by
  unfold hgK
  rw [take_snoc' o k i h, List.foldl_append]; rfl
theorem hgStep_sub {need : List (List Nat)} {met : List Nat} {i m : Nat} (h : m ∈ met) : m ∈ hgStep need met i := by
  unfold hgStep
  split
  · exact List.mem_append_left _ h
  · exact h
theorem hgStep_mem {need : List (List Nat)} {met : List Nat} {i m : Nat} (h : m ∈ hgStep need met i) : m ∈ met ∨ (m = i ∧ ∃ y ∈ need.getD i [], y ∈ met) := by
  unfold hgStep at h
  split at h
  · rename_i q
    rcases List.mem_append.1 h with h | h
    · exact .inl h
    · exact .inr ⟨List.mem_singleton.1 h, hitB_iff.1 q⟩
  · exact .inl h
/-- An order by the ranks. -/
structure IsOrd (need : List (List Nat)) (ρ : List Int) (lv : Nat → Nat) (o : List Nat) (n : Nat) : Prop where
  rk : Ranked need ρ lv
  nl : need.length = n
  perm : o.Perm (List.range n)
  up : ∀ (i j x y : Nat), i < j → o[i]? = some x → o[j]? = some y → ρ.getD x 0 ≤ ρ.getD y 0
section
variable {need : List (List Nat)} {ρ : List Int} {lv : Nat → Nat} {o : List Nat} {n a : Nat}
theorem IsOrd.len (h : IsOrd need ρ lv o n) : o.length = n := by rw [h.perm.length_eq, List.length_range]
theorem IsOrd.lt (h : IsOrd need ρ lv o n) {i : Nat} (hi : i ∈ o) : i < n := List.mem_range.1 (h.perm.mem_iff.1 hi)
theorem IsOrd.less (h : IsOrd need ρ lv o n) {i y : Nat} (hi : i < n) (hy : y ∈ need.getD i []) : ρ.getD y 0 < ρ.getD i 0 := by
  have h1 := h.rk.at_ i (by rw [h.nl]; exact hi)
  have h2 := top_le (r := ρ) hy
  omega
theorem IsOrd.mono (h : IsOrd need ρ lv o n) {m : Nat} : ∀ {j k : Nat}, j ≤ k → k ≤ n → m ∈ hgK need a o j → m ∈ hgK need a o k
  | j, 0, h1, _, hm => by obtain rfl : j = 0 := by omega
                          exact hm
  | j, k + 1, h1, h2, hm => by
    by_cases e : j = k + 1
    · subst e; exact hm
    · have hl := h.len
      rw [hgK_succ (i := o[k]'(by omega)) (List.getElem?_eq_getElem (by omega))]
      exact hgStep_sub (IsOrd.mono h (by omega) (by omega) hm)
theorem IsOrd.came (h : IsOrd need ρ lv o n) {m : Nat} : ∀ {k : Nat}, k ≤ n → m ∈ hgK need a o k → m = a ∨ ∃ j, j < k ∧ o[j]? = some m ∧ (∃ y ∈ need.getD m [], y ∈ hgK need a o j) ∧ m ∈ hgK need a o (j + 1)
  | 0, _, hm => .inl (List.mem_singleton.1 hm)
  | k + 1, hk, hm => by
    have hl := h.len
    have hok : o[k]? = some (o[k]'(by omega)) := List.getElem?_eq_getElem (by omega)
    have hm' := hm
    rw [hgK_succ hok] at hm
    rcases hgStep_mem hm with q | ⟨q1, q2⟩
    · rcases IsOrd.came h (by omega) q with e | ⟨j, h1, h2⟩
      · exact .inl e
      · exact .inr ⟨j, by omega, h2⟩
    · rw [← q1] at hok q2
      exact .inr ⟨k, by omega, hok, q2, hm'⟩
theorem IsOrd.high (h : IsOrd need ρ lv o n) : ∀ {k : Nat}, k ≤ n → ∀ m ∈ hgK need a o k, ρ.getD a 0 ≤ ρ.getD m 0
  | 0, _, m, hm => by rw [List.mem_singleton.1 hm]; exact Int.le_refl _
  | k + 1, hk, m, hm => by
    have hl := h.len
    have hok : o[k]? = some (o[k]'(by omega)) := List.getElem?_eq_getElem (by omega)
    rw [hgK_succ hok] at hm
    rcases hgStep_mem hm with q | ⟨q1, y, q2, q3⟩
    · exact IsOrd.high h (by omega) m q
    · have h1 := IsOrd.high h (by omega) y q3
      have h2 := h.less (h.lt (List.mem_of_getElem? hok)) q2
      rw [q1]; omega
theorem IsOrd.new (h : IsOrd need ρ lv o n) {k i : Nat} (hk : k < n) (hi : o[k]? = some i) (hh : hitB (need.getD i []) (hgK need a o k) = true) : i ∉ hgK need a o k := by
  intro hm
  obtain ⟨y, hy, hym⟩ := hitB_iff.1 hh
  have hil := h.lt (List.mem_of_getElem? hi)
  rcases h.came (by omega) hm with e | ⟨j, h1, h2, -⟩
  · subst e
    have := h.high (by omega) y hym
    have := h.less hil hy
    omega
  · have := (List.getElem?_inj (by rw [h.len]; omega) (h.perm.nodup_iff.2 List.nodup_range)).1 (h2.trans hi.symm)
    omega
theorem IsOrd.shut (h : IsOrd need ρ lv o n) {i y : Nat} (hi : i < n) (hy : y ∈ need.getD i []) (hym : y ∈ hgK need a o n) : i ∈ hgK need a o n := by
  obtain ⟨k, hk⟩ := List.mem_iff_getElem?.1 (h.perm.mem_iff.2 (List.mem_range.2 hi))
  have hkn : k < n := by have := (List.getElem?_eq_some_iff.1 hk).1; rw [h.len] at this; exact this
  have hless := h.less hi hy
  have hyk : y ∈ hgK need a o k := by
    rcases h.came (Nat.le_refl _) hym with e | ⟨j, h1, h2, -, h3⟩
    · subst e; exact h.mono (Nat.zero_le _) (by omega) (List.mem_singleton.2 rfl)
    · have hjk : j < k := by
        rcases Nat.lt_trichotomy j k with q | q | q
        · exact q
        · subst q
          rw [h2] at hk
          obtain rfl := Option.some.inj hk
          omega
        · have := h.up k j i y q hk h2
          omega
      exact h.mono (by omega) (by omega) h3
  have : i ∈ hgK need a o (k + 1) := by
    rw [hgK_succ hk]
    unfold hgStep
    rw [if_pos (hitB_iff.2 ⟨y, hy, hyk⟩)]
    exact List.mem_append_right _ (List.mem_singleton.2 rfl)
  exact h.mono (by omega) (by omega) this
theorem IsOrd.sub (h : IsOrd need ρ lv o n) {b : Nat} (hb : b ∈ hgK need a o n) : ∀ {k : Nat}, k ≤ n → ∀ m ∈ hgK need b o k, m ∈ hgK need a o n
  | 0, _, m, hm => by rw [List.mem_singleton.1 hm]; exact hb
  | k + 1, hk, m, hm => by
    have hl := h.len
    have hok : o[k]? = some (o[k]'(by omega)) := List.getElem?_eq_getElem (by omega)
    rw [hgK_succ hok] at hm
    rcases hgStep_mem hm with q | ⟨q1, y, q2, q3⟩
    · exact IsOrd.sub h hb (by omega) m q
    · rw [q1]
      exact h.shut (h.lt (List.mem_of_getElem? hok)) q2 (IsOrd.sub h hb (by omega) y q3)
theorem hgL_mem {m : Nat} : m ∈ hgL need a o n ↔ m < n ∧ m ∈ hgK need a o n := by unfold hgL; rw [List.mem_filter]; simp
theorem hgL_len : (hgL need a o n).length ≤ n := by unfold hgL; have := List.length_filter_le (fun i => decide (i ∈ hgK need a o n)) (List.range n); rw [List.length_range] at this; exact this
end

set_option maxRecDepth 100000 in
theorem hangs_any (fs : List Fd) (fv : Value) (h : Vw) (hok : OkFs fs) (hfs : IsFds h fv fs) (ρ : List Int) (lv : Nat → Nat) (hρ : Ranked (needsE fs) ρ lv) (h1 : 1 ≤ fs.length) (h2 : fs.length < 20) (p0 : Nat) (x : Fd) (hx : fs[p0]? = some x) :
    C0 Try.prog 48 #[fv, .string x.name] h (fun r h' => ∃ A c, r = .tuple #[.slice A (hgL (needsE fs) p0 (ordL ρ fs.length) fs.length).length c, .int .i64 0] ∧ RS h' 1 (.slice A (hgL (needsE fs) p0 (ordL ρ fs.length) fs.length).length c) (natRows (hgL (needsE fs) p0 (ordL ρ fs.length) fs.length))) := by
  have hnl : (needsE fs).length = fs.length := by unfold needsE; rw [List.length_map]
  obtain ⟨hp, hs⟩ := ordL_spec ρ fs.length (by omega)
  have hI : IsOrd (needsE fs) ρ lv (ordL ρ fs.length) fs.length := ⟨hρ, hnl, hp, hs⟩
  have hO := fun H q => order_any fs fv H hok q ρ lv hρ h1 h2
  have hFd := fun H q => find_yes fs fv x.name p0 H q (by omega) (findF_at hok.nodup hx)
  have hne := fun H q => needs_any fs fv H hok q
  have hnb : ∀ l ∈ needsE fs, l.length ≤ 1000 := fun l hl => by
    obtain ⟨f, hf, rfl⟩ := List.mem_map.1 hl
    unfold needE
    split
    · simp
    · rename_i g
      obtain ⟨-, w2, -⟩ := (hok.each f hf).wf g
      have := Nat.le_trans (namesE_len f.src) (refs_le f.src)
      rw [List.length_map]; omega
  clear hp hs
  unfold hgL
  obtain ⟨-, A, c, rfl, -, -, -, -, -, -⟩ := fds_open hfs
  generalize needsE fs = need at *
  generalize hL : fs.length = n at *
  generalize ordL ρ n = o at *
  have hol := hI.len
  refine x_con Try.func48 (c := Try.f48.body.getD .skip) (by kernel_rfl) (N := 66) rfl (by kernel_rfl) ?_
  intro hbx hbad Q hQ a w hJ
  replace hJ : K ⟨66, h.w, h.bad, []⟩ [(0, .slice A n c), (1, .string x.name)] [] [] h a w := hJ.to (by kernel_rfl) (by kernel_rfl) rfl
  refine rx hJ false 9 [] [] (.ok (.ops [0, 1] 1) [.seq [1, 1]] [(0, .slice A n c), (1, .string x.name), (4, Vz), (5, Vi 0), (16, .slice A n c)] [] []) trivial trivial (fun _ => by kernel_rfl) ?_
  clear hJ a w; intro a w hJ
  refine x_call hJ 17 (hO _ (hfs.sees hJ.j.sees)) (fun _ => by kernel_rfl) ?_; clear hJ a w; rintro _ h1 a w s2 ⟨Ao, co, rfl, hro⟩ hJ
  refine rx hJ false 42 [.cl 44 #[.slice A n c, .string x.name] (.tuple #[Vi (p0 : Int), Vi 0])] [] (.ok (.ops [0, 1, 1, 1, 1, 1] 1) [.seq [1, 1, 1, 1, 1, 1]] [(0, .slice A n c), (4, Vz), (5, Vi 0), (6, .slice Ao n co), (8, Vi (p0 : Int)), (32, .slice A n c)] [] []) (And.intro (fun H sH => hFd _ (hfs.sees (s2.trans sH))) (trivial)) trivial (fun _ => by kernel_rfl) ?_
  clear hJ a w; intro a w hJ
  refine x_call hJ 33 (hne _ (hfs.sees (s2.trans hJ.j.sees))) (fun _ => by kernel_rfl) ?_; clear hJ a w; rintro _ h3 a w s4 ⟨An, cn, us, rfl, hrn, hna⟩ hJ
  refine rx hJ false 5 [] [] (.ok (.ops [0, 1, 1, 1, 1, 1, 1] 0) [.seq [1, 1, 1, 1, 1, 1, 1]] [(0, .slice A n c), (4, Vz), (5, Vi 0), (6, .slice Ao n co), (8, Vi (p0 : Int)), (9, .slice An n cn)] [] []) trivial trivial (fun _ => by kernel_rfl) ?_
  clear hJ a w; intro a w hJ
  refine x_mapmake hJ 34 (by kernel_rfl) (by kernel_rfl) ?_; clear hJ a w; intro b5 a w hJ
  refine rx hJ false 1 [] [] (.ok (.ops [0, 1, 1, 1, 1, 1, 1] 2) [.seq [1, 1, 1, 1, 1, 1, 1]] [(0, .slice A n c), (4, Vz), (5, Vi 0), (6, .slice Ao n co), (9, .slice An n cn), (34, .map (some b5)), (35, Vi (p0 : Int))] [.map b5 ([])] []) trivial trivial (fun _ => by kernel_rfl) ?_
  clear hJ a w; intro a w hJ
  refine x_mapset hJ 0 (b := b5) (t := 131) (mo := (.tmp 34)) (ko := (.tmp 35)) (vo := (.const (.bool true))) (es := []) (kt := 3) (et := 4) (td := .int .i64) (key := Vi (p0 : Int)) (v := .bool true) (by kernel_rfl) (by kernel_rfl) (by kernel_rfl) (by kernel_rfl) (by kernel_rfl) (by kernel_rfl) Try.underlying131 Try.underlying3 (by kernel_rfl) (by kernel_rfl) ?_; clear hJ a w; intro a w hJ
  replace hJ : K ⟨66, h.w, h.bad, []⟩ [(0, .slice A n c), (4, Vz), (5, Vi 0), (6, .slice Ao n co), (9, .slice An n cn), (34, .map (some b5)), (35, Vi (p0 : Int))] [.map b5 ([(Vi (p0 : Int), .bool true)])] [] h3 a w := hJ.to (by kernel_rfl) (by kernel_rfl) rfl
  refine rx hJ false 14 [.own, .b 0 0] [] (.new fun b6 => .ok (.code [0, 1, 0, 1, 1, 1, 1, 1, 1, 1]) [.block 0, .seq [1, 1, 1, 1, 1, 1, 1, 1]] [(0, .slice A n c), (4, Vz), (5, Vi 0), (9, .slice An n cn), (10, Vp b6), (37, .slice Ao n co), (38, Vi (n : Int)), (39, Vi 0)] [.box b6 [.map (some b5)], .map b5 ([(Vi (p0 : Int), .bool true)])] []) trivial trivial (fun b6 _ => by kernel_rfl) ?_
  clear hJ a w; intro b6 a w hJ
  have hul := hna.len
  refine x_loop (fun (k : Nat) a w => ∃ (h7 : Vw) , K ⟨66, h.w, h.bad, []⟩ [(0, .slice A n c), (4, Vz), (5, Vi 0), (9, .slice An n cn), (10, Vp b6), (37, .slice Ao n co), (38, Vi (n : Int)), (39, Vi (k : Int))] [.box b6 [.map (some b5)], .map b5 (metEs (hgK need p0 o k))] [] h7 a w ∧ Sees h3 h7 ∧ (k ≤ n)) (fun k => n - k) (0) (by kernel_rfl) ⟨h3, hJ.to (by kernel_rfl) (by kernel_rfl) rfl, Sees.refl _, Nat.zero_le _⟩ ?_
  clear hJ a w; rintro k a w ⟨h7, hJ, s8, hk⟩
  refine rx hJ false 6 [] [] (.ok (.code [0, 1, 0, 0, 1, 0, 1, 1, 1, 1, 1, 1, 1]) [.seq [1, 1, 0, 0, 1, 0, 1, 1, 1, 1, 1, 1, 1]] [(0, .slice A n c), (4, Vz), (5, Vi 0), (9, .slice An n cn), (10, Vp b6), (37, .slice Ao n co), (38, Vi (n : Int)), (39, Vi (k : Int)), (40, .bool (decide ((k : Int) < (n : Int))))] [.box b6 [.map (some b5)], .map b5 (metEs (hgK need p0 o k))] []) trivial trivial (fun _ => by kernel_rfl) ?_
  clear hJ a w; intro a w hJ
  rcases (by omega : k < n ∨ k = n) with hlt | hke
  · obtain ⟨i, hi⟩ : ∃ i, o[k]? = some i := ⟨_, List.getElem?_eq_getElem (by omega)⟩
    have hin := hI.lt (List.mem_of_getElem? hi)
    have hoi : (natRows o)[k]? = some [.int .i64 (i : Int)] := by rw [List.getElem?_map, hi]; rfl
    obtain ⟨u, hu⟩ : ∃ u, us[i]? = some u := ⟨_, List.getElem?_eq_getElem (by omega)⟩
    obtain ⟨l, hl⟩ : ∃ l, need[i]? = some l := ⟨_, List.getElem?_eq_getElem (by omega)⟩
    have hrow : (us.map fun u => [u])[i]? = some [u] := by rw [List.getElem?_map, hu]; rfl
    have hg : need.getD i [] = l := by rw [List.getD_eq_getElem?_getD, hl]; rfl
    have hnr := NeedAll.get hna hl hu
    have hlb := hnb l (List.mem_of_getElem? hl)
    have hsucc := hgK_succ (need := need) (a := p0) hi
    have hnew := hI.new (a := p0) hlt hi
    rw [hg] at hnew
    unfold hgStep at hsucc
    rw [hg] at hsucc
    obtain ⟨Au, cu, rfl, -⟩ := hnr.form
    rw [List.length_map] at *
    generalize hgK need p0 o k = met at *
    have hcf := fun H v q1 q2 q3 => hcf_any l met v b6 b5 H q1 (by omega) q2 q3
    refine x_true hJ (t := decide ((k : Int) < (n : Int))) (by kernel_rfl) (decide_eq_true (by omega)) ?_
    refine rx hJ false 6 [] [] (.ok (.ops [0, 0, 0, 1, 1, 0, 0, 1, 0, 1, 1, 1, 1, 1, 1, 1] 0) [.seq [1, 0, 0, 1, 1, 0, 0, 1, 0, 1, 1, 1, 1, 1, 1, 1], .block 1, .seq [1, 1, 1, 0, 0, 1, 0, 1, 1, 1, 1, 1, 1, 1]] [(0, .slice A n c), (4, Vz), (5, Vi 0), (9, .slice An n cn), (10, Vp b6), (37, .slice Ao n co), (38, Vi (n : Int)), (39, Vi (k : Int)), (40, .bool (decide ((k : Int) < (n : Int))))] [.box b6 [.map (some b5)], .map b5 (metEs met)] []) trivial trivial (fun _ => by kernel_rfl) ?_
    clear hJ a w; intro a w hJ
    obtain ⟨b9, o10, rfl, -, c11⟩ := RS.row hro (hoi)
    replace hJ := hJ.fact (c11.sees (s4.trans s8))
    refine rx hJ false 9 [.ix b9 o10 n co k, .f 0 0] [] (.ok (.ops [0, 1, 0, 0, 1, 1, 0, 0, 1, 0, 1, 1, 1, 1, 1, 1, 1] 2) [.seq [1, 1, 0, 0, 1, 1, 0, 0, 1, 0, 1, 1, 1, 1, 1, 1, 1], .block 1, .seq [1, 1, 1, 0, 0, 1, 0, 1, 1, 1, 1, 1, 1, 1]] [(0, .slice A n c), (4, Vz), (5, Vi 0), (9, .slice An n cn), (10, Vp b6), (37, .slice (some ⟨b9, o10, none⟩) n co), (38, Vi (n : Int)), (39, Vi (k : Int)), (40, .bool (decide ((k : Int) < (n : Int)))), (41, .pointer (some ⟨b9, o10 + k * 1, none⟩)), (42, Vi (i : Int)), (12, Vi (i : Int)), (43, .slice An n cn), (44, Vi (i : Int))] [.box b6 [.map (some b5)], .map b5 (metEs met)] [(b9, o10 + k * 1, [Vi (i : Int)])]) (And.intro (by first | omega | (simp; omega)) (trivial)) trivial (fun _ => by kernel_rfl) ?_
    clear hJ a w; intro a w hJ
    obtain ⟨b12, o13, rfl, -, c14⟩ := RS.row hrn (hrow)
    replace hJ := hJ.fact (c14.sees s8)
    refine rx hJ false 3 [.ix b12 o13 n cn i, .f 0 0] [] (.ok (.ops [0, 1, 0, 0, 1, 1, 0, 0, 1, 0, 1, 1, 1, 1, 1, 1, 1] 5) [.seq [1, 1, 0, 0, 1, 1, 0, 0, 1, 0, 1, 1, 1, 1, 1, 1, 1], .block 1, .seq [1, 1, 1, 0, 0, 1, 0, 1, 1, 1, 1, 1, 1, 1]] [(0, .slice A n c), (4, Vz), (5, Vi 0), (9, .slice (some ⟨b12, o13, none⟩) n cn), (10, Vp b6), (37, .slice (some ⟨b9, o10, none⟩) n co), (38, Vi (n : Int)), (39, Vi (k : Int)), (40, .bool (decide ((k : Int) < (n : Int)))), (41, .pointer (some ⟨b9, o10 + k * 1, none⟩)), (42, Vi (i : Int)), (12, Vi (i : Int)), (43, .slice (some ⟨b12, o13, none⟩) n cn), (44, Vi (i : Int)), (45, .pointer (some ⟨b12, o13 + i * 1, none⟩)), (46, .slice Au l.length cu), (47, .func (.func 87) #[] #[Vp b6])] [.box b6 [.map (some b5)], .map b5 (metEs met)] [(b12, o13 + i * 1, [.slice Au l.length cu]), (b9, o10 + k * 1, [Vi (i : Int)])]) (And.intro (by first | omega | (simp; omega)) (trivial)) trivial (fun _ => by kernel_rfl) ?_
    clear hJ a w; intro a w hJ
    refine x_callq hJ 48 (hcf _ _ (hnr.sees (s8.trans hJ.j.seesQ)) (hJ.j.boxQ (b := b6) (cs := [.map (some b5)]) 0 rfl) (hJ.j.mapQ (b := b5) (es := metEs met) 1 rfl)) (fun _ => by kernel_rfl) ?_; clear hJ a w; intro h15 a w s16 hJ
    refine rx hJ false 2 [] [] (.ok (.code [1, 1, 0, 0, 1, 1, 0, 0, 1, 0, 1, 1, 1, 1, 1, 1, 1]) [.block 1, .seq [1, 1, 1, 0, 0, 1, 0, 1, 1, 1, 1, 1, 1, 1]] [(0, .slice A n c), (4, Vz), (5, Vi 0), (9, .slice (some ⟨b12, o13, none⟩) n cn), (10, Vp b6), (37, .slice (some ⟨b9, o10, none⟩) n co), (38, Vi (n : Int)), (39, Vi (k : Int)), (40, .bool (decide ((k : Int) < (n : Int)))), (41, .pointer (some ⟨b9, o10 + k * 1, none⟩)), (42, Vi (i : Int)), (12, Vi (i : Int)), (43, .slice (some ⟨b12, o13, none⟩) n cn), (44, Vi (i : Int)), (45, .pointer (some ⟨b12, o13 + i * 1, none⟩)), (46, .slice Au l.length cu), (47, .func (.func 87) #[] #[Vp b6]), (48, .bool (hitB l met))] [.box b6 [.map (some b5)], .map b5 (metEs met)] [(b12, o13 + i * 1, [.slice Au l.length cu]), (b9, o10 + k * 1, [Vi (i : Int)])]) trivial trivial (fun _ => by kernel_rfl) ?_
    clear hJ a w; intro a w hJ
    by_cases hh : hitB l met = true
    · skip
      refine x_true hJ (t := hitB l met) (by kernel_rfl) (hh) ?_
      refine rx hJ false 3 [.b 0 0] [] (.ok (.ops [0, 1, 1, 0, 0, 1, 1, 0, 0, 1, 0, 1, 1, 1, 1, 1, 1, 1] 2) [.block 1, .seq [1, 1, 1, 0, 0, 1, 0, 1, 1, 1, 1, 1, 1, 1]] [(0, .slice A n c), (4, Vz), (5, Vi 0), (9, .slice (some ⟨b12, o13, none⟩) n cn), (10, Vp b6), (37, .slice (some ⟨b9, o10, none⟩) n co), (38, Vi (n : Int)), (39, Vi (k : Int)), (40, .bool (decide ((k : Int) < (n : Int)))), (41, .pointer (some ⟨b9, o10 + k * 1, none⟩)), (42, Vi (i : Int)), (12, Vi (i : Int)), (43, .slice (some ⟨b12, o13, none⟩) n cn), (44, Vi (i : Int)), (45, .pointer (some ⟨b12, o13 + i * 1, none⟩)), (46, .slice Au l.length cu), (47, .func (.func 87) #[] #[Vp b6]), (48, .bool (hitB l met)), (49, .map (some b5)), (50, Vi (i : Int))] [.box b6 [.map (some b5)], .map b5 (metEs met)] [(b12, o13 + i * 1, [.slice Au l.length cu]), (b9, o10 + k * 1, [Vi (i : Int)])]) trivial trivial (fun _ => by kernel_rfl) ?_
      clear hJ a w; intro a w hJ
      refine x_mapset hJ 1 (b := b5) (t := 131) (mo := (.tmp 49)) (ko := (.tmp 50)) (vo := (.const (.bool true))) (es := metEs met) (kt := 3) (et := 4) (td := .int .i64) (key := Vi (i : Int)) (v := .bool true) (by kernel_rfl) (by kernel_rfl) (by kernel_rfl) (by kernel_rfl) (by kernel_rfl) (by kernel_rfl) Try.underlying131 Try.underlying3 (by kernel_rfl) (met_no (hnew hh)) ?_; clear hJ a w; intro a w hJ
      refine rx hJ false 7 [] [(51, Vi (IntKind.i64.wrap ((k : Int) + 1)), Vi ((k : Int) + 1))] (.ok (.out .normal) [] [(0, .slice A n c), (4, Vz), (5, Vi 0), (9, .slice (some ⟨b12, o13, none⟩) n cn), (10, Vp b6), (37, .slice (some ⟨b9, o10, none⟩) n co), (38, Vi (n : Int)), (40, .bool (decide ((k : Int) < (n : Int)))), (41, .pointer (some ⟨b9, o10 + k * 1, none⟩)), (42, Vi (i : Int)), (12, Vi (i : Int)), (43, .slice (some ⟨b12, o13, none⟩) n cn), (44, Vi (i : Int)), (45, .pointer (some ⟨b12, o13 + i * 1, none⟩)), (46, .slice Au l.length cu), (47, .func (.func 87) #[] #[Vp b6]), (48, .bool (hitB l met)), (49, .map (some b5)), (50, Vi (i : Int)), (51, Vi ((k : Int) + 1)), (39, Vi ((k : Int) + 1))] [.box b6 [.map (some b5)], .map b5 ((metEs met) ++ [(Vi (i : Int), .bool true)])] [(b12, o13 + i * 1, [.slice Au l.length cu]), (b9, o10 + k * 1, [Vi (i : Int)])]) trivial (And.intro (i64_wrap (by omega) (by omega)) (trivial)) (fun _ => by kernel_rfl) ?_
      clear hJ a w; intro a w hJ
      exact x_round ⟨k + 1, ⟨h15, (hJ.tof [] (F' := []) (by kernel_rfl)).to (by kernel_rfl) (by rw [hsucc, if_pos hh, metEs_snoc]) rfl, (s8.trans s16), by omega⟩, by omega⟩
    · skip
      refine x_false hJ (t := hitB l met) (by kernel_rfl) ((by simpa using hh)) ?_
      refine rx hJ false 7 [] [(51, Vi (IntKind.i64.wrap ((k : Int) + 1)), Vi ((k : Int) + 1))] (.ok (.out .normal) [] [(0, .slice A n c), (4, Vz), (5, Vi 0), (9, .slice (some ⟨b12, o13, none⟩) n cn), (10, Vp b6), (37, .slice (some ⟨b9, o10, none⟩) n co), (38, Vi (n : Int)), (40, .bool (decide ((k : Int) < (n : Int)))), (41, .pointer (some ⟨b9, o10 + k * 1, none⟩)), (42, Vi (i : Int)), (12, Vi (i : Int)), (43, .slice (some ⟨b12, o13, none⟩) n cn), (44, Vi (i : Int)), (45, .pointer (some ⟨b12, o13 + i * 1, none⟩)), (46, .slice Au l.length cu), (47, .func (.func 87) #[] #[Vp b6]), (48, .bool (hitB l met)), (51, Vi ((k : Int) + 1)), (39, Vi ((k : Int) + 1))] [.box b6 [.map (some b5)], .map b5 (metEs met)] [(b12, o13 + i * 1, [.slice Au l.length cu]), (b9, o10 + k * 1, [Vi (i : Int)])]) trivial (And.intro (i64_wrap (by omega) (by omega)) (trivial)) (fun _ => by kernel_rfl) ?_
      clear hJ a w; intro a w hJ
      exact x_round ⟨k + 1, ⟨h15, (hJ.tof [] (F' := []) (by kernel_rfl)).to (by kernel_rfl) (by rw [hsucc, if_neg hh]) rfl, (s8.trans s16), by omega⟩, by omega⟩
  · skip
    rw [hke] at hJ
    refine x_false hJ (t := decide ((n : Int) < (n : Int))) (by kernel_rfl) (decide_eq_false (by omega)) ?_
    refine rx hJ false 2 [] [] (.ok (.out (.exit 0)) [] [(0, .slice A n c), (4, Vz), (5, Vi 0), (9, .slice An n cn), (10, Vp b6), (37, .slice Ao n co), (38, Vi (n : Int)), (39, Vi (n : Int)), (40, .bool (decide ((n : Int) < (n : Int))))] [.box b6 [.map (some b5)], .map b5 (metEs (hgK need p0 o n))] []) trivial trivial (fun _ => by kernel_rfl) ?_
    clear hJ a w; intro a w hJ
    refine x_leave rfl ?_
    refine rx hJ false 16 [] [] (.ok (.code [0, 1, 0, 1, 1, 1, 1, 1, 1, 1, 1, 1]) [.block 2, .seq [1, 1, 1, 1, 1, 1, 1, 1, 1, 1]] [(4, Vz), (5, Vi 0), (10, Vp b6), (13, Vz), (53, Vi (n : Int)), (54, Vi 0)] [.box b6 [.map (some b5)], .map b5 (metEs (hgK need p0 o n))] []) trivial trivial (fun _ => by kernel_rfl) ?_
    clear hJ a w; intro a w hJ
    generalize hgK need p0 o n = met at *
    replace hJ := hJ.nilrow 3 1
    refine x_loop (fun (i : Nat) a w => ∃ (h17 : Vw) (v : Value), K ⟨66, h.w, h.bad, []⟩ [(4, Vz), (5, Vi 0), (10, Vp b6), (53, Vi (n : Int)), (54, Vi (i : Int)), (13, v)] [.row v 3 1 (natRows ((List.range i).filter fun j => decide (j ∈ met))), .box b6 [.map (some b5)], .map b5 (metEs met)] [] h17 a w ∧ Sees h7 h17 ∧ (i ≤ n)) (fun i => n - i) (0) (by kernel_rfl) ⟨h7, (Vz), hJ.to (by kernel_rfl) (by kernel_rfl) rfl, Sees.refl _, Nat.zero_le _⟩ ?_
    clear hJ a w; rintro i a w ⟨h17, v, hJ, s18, hi⟩
    refine rx hJ false 6 [] [] (.ok (.code [0, 1, 0, 0, 1, 0, 1, 1, 1, 1, 1, 1, 1, 1, 1]) [.seq [1, 1, 0, 0, 1, 0, 1, 1, 1, 1, 1, 1, 1, 1, 1]] [(4, Vz), (5, Vi 0), (10, Vp b6), (53, Vi (n : Int)), (54, Vi (i : Int)), (13, v), (55, .bool (decide ((i : Int) < (n : Int))))] [.row v 3 1 (natRows ((List.range i).filter fun j => decide (j ∈ met))), .box b6 [.map (some b5)], .map b5 (metEs met)] []) trivial trivial (fun _ => by kernel_rfl) ?_
    clear hJ a w; intro a w hJ
    rcases (by omega : i < n ∨ i = n) with hil | hie
    · have hfl : ((List.range i).filter fun j => decide (j ∈ met)).length ≤ i := by have := List.length_filter_le (fun j => decide (j ∈ met)) (List.range i); rw [List.length_range] at this; exact this
      by_cases hm : i ∈ met
      · obtain ⟨j, hj⟩ := met_yes hm
        refine x_true hJ (t := decide ((i : Int) < (n : Int))) (by kernel_rfl) (decide_eq_true (by omega)) ?_
        refine rx hJ false 14 [.b 1 0] [] (.ok (.ops [0, 1, 0, 0, 1, 1, 0, 0, 1, 0, 1, 1, 1, 1, 1, 1, 1, 1, 1] 2) [.seq [1, 1, 0, 0, 1, 1, 0, 0, 1, 0, 1, 1, 1, 1, 1, 1, 1, 1, 1], .block 3, .seq [1, 1, 1, 0, 0, 1, 0, 1, 1, 1, 1, 1, 1, 1, 1, 1]] [(4, Vz), (5, Vi 0), (10, Vp b6), (53, Vi (n : Int)), (54, Vi (i : Int)), (13, v), (55, .bool (decide ((i : Int) < (n : Int)))), (56, Vi (i : Int)), (14, Vi (i : Int)), (57, .map (some b5)), (58, Vi (i : Int))] [.row v 3 1 (natRows ((List.range i).filter fun j => decide (j ∈ met))), .box b6 [.map (some b5)], .map b5 (metEs met)] []) trivial trivial (fun _ => by kernel_rfl) ?_
        clear hJ a w; intro a w hJ
        refine x_mapget hJ 59 (b := b5) (t := 131) (mo := (.tmp 57)) (ko := (.tmp 58)) (c := false) (es := metEs met) (kt := 3) (et := 4) (td := .int .i64) (key := Vi (i : Int)) (z := .bool false) (v := .bool true) (r := some (j, .bool true)) (by kernel_rfl) (by kernel_rfl) (hJ.map 2 (by kernel_rfl)) (by kernel_rfl) (by kernel_rfl) Try.underlying131 Try.underlying3 (by kernel_rfl) (hj) (fun _ => by kernel_rfl) (by kernel_rfl) ?_; clear hJ a w; intro a w hJ
        refine rx hJ true 7 [.fix] [] (.new fun b19 => .ok (.ops [0, 1, 1, 0, 0, 1, 1, 0, 0, 1, 0, 1, 1, 1, 1, 1, 1, 1, 1, 1] 3) [.block 3, .seq [1, 1, 1, 0, 0, 1, 0, 1, 1, 1, 1, 1, 1, 1, 1, 1]] [(4, Vz), (5, Vi 0), (10, Vp b6), (53, Vi (n : Int)), (54, Vi (i : Int)), (13, v), (55, .bool (decide ((i : Int) < (n : Int)))), (56, Vi (i : Int)), (14, Vi (i : Int)), (57, .map (some b5)), (58, Vi (i : Int)), (59, .bool true), (60, v), (61, Vi (i : Int)), (62, Vs b19 1 1)] [.row v 3 1 (natRows ((List.range i).filter fun j => decide (j ∈ met))), .box b6 [.map (some b5)], .map b5 (metEs met)] [(b19, 0, [Vi (i : Int)])]) trivial trivial (fun b19 _ => by kernel_rfl) ?_
        clear hJ a w; intro b19 h20 a w s21 hJ
        refine rx hJ true 9 [.ap 0 0 (natRows ((List.range i).filter fun j => decide (j ∈ met))) [[Vi (i : Int)]]] [(64, Vi (IntKind.i64.wrap ((i : Int) + 1)), Vi ((i : Int) + 1))] (.nv fun v63 => .ok (.out .normal) [] [(4, Vz), (5, Vi 0), (10, Vp b6), (53, Vi (n : Int)), (55, .bool (decide ((i : Int) < (n : Int)))), (56, Vi (i : Int)), (14, Vi (i : Int)), (57, .map (some b5)), (58, Vi (i : Int)), (59, .bool true), (60, v), (61, Vi (i : Int)), (62, Vs b19 1 1), (63, .slice (sA v63) (sN v63) (sC v63)), (13, .slice (sA v63) (sN v63) (sC v63)), (64, Vi ((i : Int) + 1)), (54, Vi ((i : Int) + 1))] [.row (.slice (sA v63) (sN v63) (sC v63)) 3 1 ((natRows ((List.range i).filter fun j => decide (j ∈ met))) ++ [[Vi (i : Int)]]), .box b6 [.map (some b5)], .map b5 (metEs met)] [(b19, 0, [Vi (i : Int)])]) (And.intro (by constructor <;> (simp; omega)) (trivial)) (And.intro (i64_wrap (by omega) (by omega)) (trivial)) (fun v63 _ => by kernel_rfl) ?_
        clear hJ a w; intro v63 h22 a w s23 hJ
        exact x_round ⟨i + 1, ⟨h22, .slice (sA v63) (sN v63) (sC v63), (hJ.tof [] (F' := []) (by kernel_rfl)).to (by kernel_rfl) (by rw [List.range_succ, List.filter_append, natRows, List.map_append]; simp [hm]) rfl, (s18.trans (s21.trans s23)), by omega⟩, by omega⟩
      · skip
        refine x_true hJ (t := decide ((i : Int) < (n : Int))) (by kernel_rfl) (decide_eq_true (by omega)) ?_
        refine rx hJ false 14 [.b 1 0] [] (.ok (.ops [0, 1, 0, 0, 1, 1, 0, 0, 1, 0, 1, 1, 1, 1, 1, 1, 1, 1, 1] 2) [.seq [1, 1, 0, 0, 1, 1, 0, 0, 1, 0, 1, 1, 1, 1, 1, 1, 1, 1, 1], .block 3, .seq [1, 1, 1, 0, 0, 1, 0, 1, 1, 1, 1, 1, 1, 1, 1, 1]] [(4, Vz), (5, Vi 0), (10, Vp b6), (53, Vi (n : Int)), (54, Vi (i : Int)), (13, v), (55, .bool (decide ((i : Int) < (n : Int)))), (56, Vi (i : Int)), (14, Vi (i : Int)), (57, .map (some b5)), (58, Vi (i : Int))] [.row v 3 1 (natRows ((List.range i).filter fun j => decide (j ∈ met))), .box b6 [.map (some b5)], .map b5 (metEs met)] []) trivial trivial (fun _ => by kernel_rfl) ?_
        clear hJ a w; intro a w hJ
        refine x_mapget hJ 59 (b := b5) (t := 131) (mo := (.tmp 57)) (ko := (.tmp 58)) (c := false) (es := metEs met) (kt := 3) (et := 4) (td := .int .i64) (key := Vi (i : Int)) (z := .bool false) (v := .bool false) (r := none) (by kernel_rfl) (by kernel_rfl) (hJ.map 2 (by kernel_rfl)) (by kernel_rfl) (by kernel_rfl) Try.underlying131 Try.underlying3 (by kernel_rfl) (met_no hm) (fun _ => by kernel_rfl) (by kernel_rfl) ?_; clear hJ a w; intro a w hJ
        refine rx hJ false 10 [] [(64, Vi (IntKind.i64.wrap ((i : Int) + 1)), Vi ((i : Int) + 1))] (.ok (.out .normal) [] [(4, Vz), (5, Vi 0), (10, Vp b6), (53, Vi (n : Int)), (13, v), (55, .bool (decide ((i : Int) < (n : Int)))), (56, Vi (i : Int)), (14, Vi (i : Int)), (57, .map (some b5)), (58, Vi (i : Int)), (59, .bool false), (64, Vi ((i : Int) + 1)), (54, Vi ((i : Int) + 1))] [.row v 3 1 (natRows ((List.range i).filter fun j => decide (j ∈ met))), .box b6 [.map (some b5)], .map b5 (metEs met)] []) trivial (And.intro (i64_wrap (by omega) (by omega)) (trivial)) (fun _ => by kernel_rfl) ?_
        clear hJ a w; intro a w hJ
        exact x_round ⟨i + 1, ⟨h17, v, hJ.to (by kernel_rfl) (by rw [List.range_succ, List.filter_append]; simp [hm]) rfl, s18, by omega⟩, by omega⟩
    · skip
      rw [hie] at hJ
      obtain ⟨Av, cv, hE_v, hc_v, hm_v⟩ := hJ.form (v := v) (e := 3) (k := 1) (l := natRows ((List.range n).filter fun j => decide (j ∈ met))) 0 (by kernel_rfl)
      rw [show (natRows ((List.range n).filter fun j => decide (j ∈ met))).length = ((List.range n).filter fun j => decide (j ∈ met)).length from by first | omega | (simp; done) | (simp; omega)] at hE_v hc_v
      rw [hE_v] at hJ
      obtain ⟨h24, s25, fo, hJn⟩ := hJ.frozen (v := .slice Av (((List.range n).filter fun j => decide (j ∈ met)).length) cv) (e := 3) (k := 1) (l := natRows ((List.range n).filter fun j => decide (j ∈ met))) 0 (by kernel_rfl) (hJ.j.rowOut0 (v := .slice Av (((List.range n).filter fun j => decide (j ∈ met)).length) cv) (e := 3) (k := 1) (l := natRows ((List.range n).filter fun j => decide (j ∈ met))) 0 (by kernel_rfl) rfl); clear hJ; have hJ := hJn; clear hJn
      refine x_false hJ (t := decide ((n : Int) < (n : Int))) (by kernel_rfl) (decide_eq_false (by omega)) ?_
      refine rx hJ false 2 [] [] (.ok (.out (.exit 2)) [] [(4, Vz), (5, Vi 0), (10, Vp b6), (53, Vi (n : Int)), (54, Vi (n : Int)), (13, .slice Av (((List.range n).filter fun j => decide (j ∈ met)).length) cv), (55, .bool (decide ((n : Int) < (n : Int))))] [.box b6 [.map (some b5)], .map b5 (metEs met)] []) trivial trivial (fun _ => by kernel_rfl) ?_
      clear hJ a w; intro a w hJ
      refine x_leave rfl ?_
      refine rx hJ false 10 [] [] (.ok (.out .ret) [] [(4, .slice Av (((List.range n).filter fun j => decide (j ∈ met)).length) cv), (5, Vi 0)] [.box b6 [.map (some b5)], .map b5 (metEs met)] []) trivial trivial (fun _ => by kernel_rfl) ?_
      clear hJ a w; intro a w hJ
      refine x_end (hQ [.slice Av (((List.range n).filter fun j => decide (j ∈ met)).length) cv, Vi 0] _ [] hJ (.rtmp hJ.j (by kernel_rfl) (.rtmp hJ.j (by kernel_rfl) .nil)) (no_own _) rfl ?_).1
      exact ⟨_, _, rfl, (fo.sees hJ.j.out)⟩

end Go.Proofs.Ytgjndkphfabnnaa
