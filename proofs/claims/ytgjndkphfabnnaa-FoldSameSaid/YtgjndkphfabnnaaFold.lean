/-
  Contracts of package fold.
-/
import Derived.Test.YtgjndkphfabnnaaFoldP
import Derived.Test.YtgjndkphfabnnaaNmO
namespace Go.Proofs.Ytgjndkphfabnnaa
open Go.RowKit

theorem closed_any (x : Ex) (v : Value) (h : Vw) (hx : IsArgs h x v) (hw : WfE x) (hb : (szE x).1 ≤ 60) (hb2 : (szE x).2 ≤ 12) :
    C0 Try.prog 74 #[.agg #[.int .i64 x.op, .int .i64 x.k, .int .i64 x.n, .string x.s, .string x.nm, v]] h (fun r _ => r = .bool (refsE x).isEmpty) := by
  obtain ⟨A, na, ca, rfl⟩ := hx.slice
  have hnm := fun H q => nmOf_any x (.slice A na ca) H q hw (by omega) (by unfold chkE; rw [if_neg (by omega), if_neg (by omega)])
  have he : ((namesE x).length = 0) ↔ (refsE x).isEmpty = true := by
    rw [List.isEmpty_iff, List.length_eq_zero_iff]
    constructor
    · intro e; refine List.eq_nil_iff_forall_not_mem.2 fun s hs => ?_
      have := mem_namesE.2 hs
      rw [e] at this
      cases this
    · intro e; refine List.eq_nil_iff_forall_not_mem.2 fun s hs => ?_
      have := mem_namesE.1 hs
      rw [e] at this
      cases this
  generalize (namesE x) = l at *
  have hd : (((l.length : Nat) : Int) == 0) = (refsE x).isEmpty := by
    rw [Bool.eq_iff_iff, ← he, beq_iff_eq]; omega
  generalize (refsE x).isEmpty = b at *
  refine x_con Try.func74 (c := Try.f74.body.getD .skip) (by kernel_rfl) (N := 13) rfl (by kernel_rfl) ?_
  intro hbx hbad Q hQ a w hJ
  replace hJ : K ⟨13, h.w, h.bad, []⟩ [(0, .agg #[.int .i64 x.op, .int .i64 x.k, .int .i64 x.n, .string x.s, .string x.nm, .slice A na ca])] [] [] h a w := hJ.to (by kernel_rfl) (by kernel_rfl) rfl
  refine rx hJ false 9 [.own, .b 0 0] [] (.new fun b1 => .ok (.ops [0, 1] 1) [.seq [1, 1]] [(2, .bool false), (6, .agg #[.int .i64 x.op, .int .i64 x.k, .int .i64 x.n, .string x.s, .string x.nm, .slice A na ca])] [.box b1 [.int .i64 x.op, .int .i64 x.k, .int .i64 x.n, .string x.s, .string x.nm, .slice A na ca]] []) trivial trivial (fun b1 _ => by kernel_rfl) ?_
  clear hJ a w; intro b1 a w hJ
  refine x_call hJ 7 (hnm _ (hx.sees hJ.j.sees)) (fun _ => by kernel_rfl) ?_; clear hJ a w; rintro _ h2 a w s3 ⟨Ar, cr, rfl, hr⟩ hJ
  refine rx hJ false 16 [] [] (.ok (.out .ret) [] [(2, .bool ((l.length : Int) == 0))] [.box b1 [.int .i64 x.op, .int .i64 x.k, .int .i64 x.n, .string x.s, .string x.nm, .slice A na ca]] []) trivial trivial (fun _ => by kernel_rfl) ?_
  clear hJ a w; intro a w hJ
  refine x_end (hQ [.bool ((l.length : Int) == 0)] _ [] hJ (.rtmp hJ.j (by kernel_rfl) .nil) (no_own _) rfl ?_).1
  exact congrArg Value.bool hd

theorem args_one1 {H : Vw} {b : Nat} {op k n : Int} {s nm : ByteArray} (e : Ex) (he : e.args = []) (c : Cells H b 0 (exRow e (.slice none 0 0))) : IsArgs H (.mk op k n s nm [e]) (.slice (some ⟨b, 0, none⟩) 1 1) := by
  have hr := rs_cells (k := 6) (exRows [e] [.slice none 0 0]) (fun r hr => by simp at hr; subst hr; rfl) (show (1 : Nat) ≤ maxLen by decide) (by simpa using c)
  refine IsArgs.mk (x := .mk op k n s nm [e]) (vs := [.slice none 0 0]) hr ?_
  show AllArgs H [e] _
  unfold AllArgs
  exact ⟨_, _, rfl, args_nil _ _ he, by unfold AllArgs; rfl⟩

set_option maxRecDepth 100000 in
theorem cst_any (v : Vl) (h : Vw) (hv : v.known) :
    C0 Try.prog 104 #[v.val] h (fun r h' => ∃ u, r = .agg #[.int .i64 (cstE v).op, .int .i64 (cstE v).k, .int .i64 (cstE v).n, .string (cstE v).s, .string (cstE v).nm, .slice (sA u) (sN u) (sC u)] ∧ IsArgs h' (cstE v) (.slice (sA u) (sN u) (sC u))) := by
  have hcst : cstE v = if v.k = 1 ∧ v.n < 0 then .mk 3 0 0 ⟨#[]⟩ ⟨#[]⟩ [.mk 1 1 (-v.n) v.s ⟨#[]⟩ []] else .mk 1 v.k v.n v.s ⟨#[]⟩ [] := rfl
  obtain ⟨k, n, s⟩ := v
  simp only at hcst
  by_cases g : k = 1 ∧ n < 0
  · rw [if_pos g] at hcst
    rw [hcst]
    obtain ⟨rfl, g2⟩ := g
    have hl : Lim n := by
      rcases hv with ⟨-, h1, -⟩ | ⟨h1, -⟩ | ⟨h1, -⟩
      · exact h1
      · cases h1
      · cases h1
    unfold Lim at hl
    refine x_con Try.func104 (c := Try.f104.body.getD .skip) (by kernel_rfl) (N := 21) rfl (by kernel_rfl) ?_
    intro hbx hbad Q hQ a w hJ
    replace hJ : K ⟨21, h.w, h.bad, []⟩ [(0, .agg #[.int .i64 1, .int .i64 n, .string s])] [] [] h a w := hJ.to (by kernel_rfl) (by kernel_rfl) rfl
    refine rx hJ false 19 [.own, .own, .b 1 0, .b 1 1] [(6, .bool true, .bool true)] (.new fun b1 => .new fun b2 => .ok (.code [1, 0, 1]) [.seq [1, 1]] [(1, .pointer (some ⟨b1, 0, none⟩)), (2, .pointer (some ⟨b2, 0, none⟩)), (10, .bool (decide (n < 0)))] [.box b2 [.int .i64 0, .int .i64 0, .int .i64 0, .string ⟨#[]⟩, .string ⟨#[]⟩, .slice none 0 0], .box b1 [.int .i64 1, .int .i64 n, .string s]] []) trivial (And.intro (rfl) (trivial)) (fun b1 b2 _ => by kernel_rfl) ?_
    clear hJ a w; intro b1 b2 a w hJ
    refine x_true hJ (t := decide (n < 0)) (by kernel_rfl) (decide_eq_true g2) ?_
    refine rx hJ true 20 [.b 1 1, .b 1 1, .b 1 0, .fix, .b 0 0] [(13, .int .i64 (IntKind.i64.wrap (0 - n)), .int .i64 (-n))] (.new fun bv17 => .ok (.out .ret) [] [(2, .pointer (some ⟨b2, 0, none⟩))] [.box b2 [.int .i64 3, .int .i64 0, .int .i64 0, .string ⟨#[]⟩, .string ⟨#[]⟩, .slice (some ⟨bv17, 0, none⟩) 1 1], .box b1 [.int .i64 1, .int .i64 (-n), .string s]] [(bv17, 0, [.int .i64 1, .int .i64 1, .int .i64 (-n), .string s, .string ⟨#[]⟩, .slice none 0 0])]) trivial (And.intro ((i64_wrap (by omega) (by omega)).trans (congrArg (Value.int .i64) (by omega))) (trivial)) (fun bv17 _ => by kernel_rfl) ?_
    clear hJ a w; intro bv17 h3 a w s4 hJ
    have v17 : Cells h3 bv17 0 [.int .i64 1, .int .i64 1, .int .i64 (-n), .string s, .string ⟨#[]⟩, .slice none 0 0] := hJ.f _ (List.mem_of_getElem? (i := 0) rfl)
    refine x_end (hQ [.agg #[.int .i64 3, .int .i64 0, .int .i64 0, .string ⟨#[]⟩, .string ⟨#[]⟩, .slice (some ⟨bv17, 0, none⟩) 1 1]] _ [] hJ (.rcell hJ.j 0 rfl (by kernel_rfl) (by kernel_rfl) .nil) (no_own _) rfl ?_).1
    exact ⟨.slice (some ⟨bv17, 0, none⟩) 1 1, rfl, args_one1 (.mk 1 1 (-n) s ⟨#[]⟩ []) rfl (v17.sees hJ.j.out)⟩
  · rw [if_neg g] at hcst
    rw [hcst]
    by_cases hk : k = 1
    · subst hk
      refine x_con Try.func104 (c := Try.f104.body.getD .skip) (by kernel_rfl) (N := 21) rfl (by kernel_rfl) ?_
      intro hbx hbad Q hQ a w hJ
      replace hJ : K ⟨21, h.w, h.bad, []⟩ [(0, .agg #[.int .i64 1, .int .i64 n, .string s])] [] [] h a w := hJ.to (by kernel_rfl) (by kernel_rfl) rfl
      refine rx hJ false 19 [.own, .own, .b 1 0, .b 1 1] [(6, .bool true, .bool true)] (.new fun b1 => .new fun b2 => .ok (.code [1, 0, 1]) [.seq [1, 1]] [(1, .pointer (some ⟨b1, 0, none⟩)), (2, .pointer (some ⟨b2, 0, none⟩)), (10, .bool (decide (n < 0)))] [.box b2 [.int .i64 0, .int .i64 0, .int .i64 0, .string ⟨#[]⟩, .string ⟨#[]⟩, .slice none 0 0], .box b1 [.int .i64 1, .int .i64 n, .string s]] []) trivial (And.intro (rfl) (trivial)) (fun b1 b2 _ => by kernel_rfl) ?_
      clear hJ a w; intro b1 b2 a w hJ
      refine x_false hJ (t := decide (n < 0)) (by kernel_rfl) (decide_eq_false fun q => g ⟨rfl, q⟩) ?_
      refine rx hJ false 10 [.b 1 0, .b 0 0] [] (.ok (.out .ret) [] [(2, .pointer (some ⟨b2, 0, none⟩))] [.box b2 [.int .i64 1, .int .i64 1, .int .i64 n, .string s, .string ⟨#[]⟩, .slice none 0 0], .box b1 [.int .i64 1, .int .i64 n, .string s]] []) trivial trivial (fun _ => by kernel_rfl) ?_
      clear hJ a w; intro a w hJ
      refine x_end (hQ [.agg #[.int .i64 1, .int .i64 1, .int .i64 n, .string s, .string ⟨#[]⟩, .slice none 0 0]] _ [] hJ (.rcell hJ.j 0 rfl (by kernel_rfl) (by kernel_rfl) .nil) (no_own _) rfl ?_).1
      exact ⟨.slice none 0 0, rfl, args_nil _ _ rfl⟩
    · refine x_con Try.func104 (c := Try.f104.body.getD .skip) (by kernel_rfl) (N := 21) rfl (by kernel_rfl) ?_
      intro hbx hbad Q hQ a w hJ
      replace hJ : K ⟨21, h.w, h.bad, []⟩ [(0, .agg #[.int .i64 k, .int .i64 n, .string s])] [] [] h a w := hJ.to (by kernel_rfl) (by kernel_rfl) rfl
      refine rx hJ false 30 [.own, .own, .b 1 0, .b 1 0, .b 0 0] [(6, .bool (k == 1), .bool false)] (.new fun b1 => .new fun b2 => .ok (.out .ret) [] [(2, .pointer (some ⟨b2, 0, none⟩))] [.box b2 [.int .i64 1, .int .i64 k, .int .i64 n, .string s, .string ⟨#[]⟩, .slice none 0 0], .box b1 [.int .i64 k, .int .i64 n, .string s]] []) trivial (And.intro (congrArg Value.bool (beq_eq_false_iff_ne.2 hk)) (trivial)) (fun b1 b2 _ => by kernel_rfl) ?_
      clear hJ a w; intro b1 b2 a w hJ
      refine x_end (hQ [.agg #[.int .i64 1, .int .i64 k, .int .i64 n, .string s, .string ⟨#[]⟩, .slice none 0 0]] _ [] hJ (.rcell hJ.j 0 rfl (by kernel_rfl) (by kernel_rfl) .nil) (no_own _) rfl ?_).1
      exact ⟨.slice none 0 0, rfl, args_nil _ _ rfl⟩

theorem known_fault (v : Vl) (h : Vw) (hk : ¬ v.k ≤ 3) (h1 : 1 ≤ v.k) : C0 Try.prog 103 #[v.val] h (fun r _ => r = .bool false) := by
  refine x_con Try.func103 (c := Try.f103.body.getD .skip) (by kernel_rfl) (N := 16) rfl (by kernel_rfl) ?_
  intro hbx hbad Q hQ a w hJ
  replace hJ : K ⟨16, h.w, h.bad, []⟩ [(0, .agg #[.int .i64 v.k, .int .i64 v.n, .string v.s])] [] [] h a w := hJ.to (by kernel_rfl) (by kernel_rfl) rfl
  refine rx hJ false 25 [.own, .b 0 0, .b 0 0] [(5, .bool (decide (v.k ≥ 1)), .bool true), (9, .bool (decide (v.k ≤ 3)), .bool false)] (.new fun b1 => .ok (.out .ret) [] [(2, .bool false)] [.box b1 [.int .i64 v.k, .int .i64 v.n, .string v.s]] []) trivial (And.intro (congrArg Value.bool (decide_eq_true h1)) (And.intro (congrArg Value.bool (decide_eq_false hk)) (trivial))) (fun b1 _ => by kernel_rfl) ?_
  clear hJ a w; intro b1 a w hJ
  refine x_end (hQ [.bool false] _ [] hJ (.rtmp hJ.j (by kernel_rfl) .nil) (no_own _) rfl ?_).1
  exact rfl

def FoldTo (m : Nat) : Prop := ∀ (x : Ex) (v : Value) (h : Vw), (szE x).1 ≤ m → IsArgs h x v → WfE x → (szE x).1 ≤ 60 → (szE x).2 ≤ 12 →
    C0 Try.prog 70 #[.agg #[.int .i64 x.op, .int .i64 x.k, .int .i64 x.n, .string x.s, .string x.nm, v]] h (fun r h' => ∃ u, r = .agg #[.int .i64 (foldE x).op, .int .i64 (foldE x).k, .int .i64 (foldE x).n, .string (foldE x).s, .string (foldE x).nm, .slice (sA u) (sN u) (sC u)] ∧ IsArgs h' (foldE x) (.slice (sA u) (sN u) (sC u)))
set_option maxHeartbeats 2000000 in
set_option maxRecDepth 100000 in
theorem fold_step (m : Nat) (IH : FoldTo m) : FoldTo (m + 1) := fun x v h hm hx hw hb hb2 => by
    unfold FoldTo at IH
    have hse := szE_eq x
    obtain ⟨ws, hr, hws⟩ := hx.form
    obtain ⟨A, ca, rfl, hc1, hc2, -⟩ := hr.form
    have hwl := hws.len
    have hrl := exRows_len hwl
    have hlen := szL_len x.args
    rw [hrl] at hc1 hr ⊢
    have hxi : ∀ H, RS H 6 (.slice A x.args.length ca) (exRows x.args ws) → AllArgs H x.args ws → IsArgs H x (.slice A x.args.length ca) := fun H q1 q2 => IsArgs.mk q1 q2
    have hev := fun H q => eval_any x (.slice A x.args.length ca) [] (.slice none 0 0) H q hw hb hb2 (RS.nil _ _) (fun p hp => by cases hp) (by decide)
    have hcl := fun H q => closed_any x (.slice A x.args.length ca) H q hw hb hb2
    have hok := evalE_ok nil_ok _ x (Nat.le_refl _) hw
    rw [foldE_eq]
    by_cases g : doneE x = true
    · have hkv := done_known hw g
      have hre := done_refs g
      rw [hre] at hcl
      rw [if_pos g]
      generalize evalE [] x = vv at *
      have hkn := fun H => c_known vv.k vv.n vv.s H hkv
      have hca := fun H => cst_any vv H hkv
      generalize hL : x.args.length = len at *
      refine x_con Try.func70 (c := Try.f70.body.getD .skip) (by kernel_rfl) (N := 70) rfl (by kernel_rfl) ?_
      intro hbx hbad Q hQ a w hJ
      replace hJ : K ⟨70, h.w, h.bad, []⟩ [(0, .agg #[.int .i64 x.op, .int .i64 x.k, .int .i64 x.n, .string x.s, .string x.nm, .slice A len ca])] [] [] h a w := hJ.to (by kernel_rfl) (by kernel_rfl) rfl
      refine rx hJ false 33 [.own, .own, .b 1 0, .cl 38 #[.agg #[.int .i64 x.op, .int .i64 x.k, .int .i64 x.n, .string x.s, .string x.nm, .slice A len ca], .slice none 0 0] (.tuple #[.agg #[.int .i64 vv.k, .int .i64 vv.n, .string vv.s], .int .i64 0]), .own, .b 0 0, .b 2 0, .cl 74 #[.agg #[.int .i64 x.op, .int .i64 x.k, .int .i64 x.n, .string x.s, .string x.nm, .slice A len ca]] (.bool true), .b 0 0, .cl 103 #[.agg #[.int .i64 vv.k, .int .i64 vv.n, .string vv.s]] (.bool true), .b 0 0] [] (.new fun b1 => .new fun b2 => .new fun b3 => .ok (.ops [0, 0, 1, 1, 0, 1] 1) [.seq [1, 0, 1, 1, 0, 1], .seq [1, 1]] [(1, .pointer (some ⟨b1, 0, none⟩)), (2, .pointer (some ⟨b2, 0, none⟩)), (19, .agg #[.int .i64 vv.k, .int .i64 vv.n, .string vv.s])] [.box b3 [.int .i64 vv.k, .int .i64 vv.n, .string vv.s], .box b2 [.int .i64 0, .int .i64 0, .int .i64 0, .string ⟨#[]⟩, .string ⟨#[]⟩, .slice none 0 0], .box b1 [.int .i64 x.op, .int .i64 x.k, .int .i64 x.n, .string x.s, .string x.nm, .slice A len ca]] []) (And.intro (fun H sH => hev _ (hxi _ (hr.sees sH) (hws.sees sH))) (And.intro (fun H sH => hcl _ (hxi _ (hr.sees sH) (hws.sees sH))) (And.intro (fun H sH => hkn _) (trivial)))) trivial (fun b1 b2 b3 _ => by kernel_rfl) ?_
      clear hJ a w; intro b1 b2 b3 a w hJ
      refine x_call hJ 20 (hca _) (fun _ => by kernel_rfl) ?_; clear hJ a w; rintro _ h4 a w s5 ⟨u, rfl, hcu⟩ hJ
      refine rx hJ false 5 [.b 1 0] [] (.ok (.out .ret) [] [(2, .pointer (some ⟨b2, 0, none⟩))] [.box b3 [.int .i64 vv.k, .int .i64 vv.n, .string vv.s], .box b2 [.int .i64 ((cstE vv).op), .int .i64 ((cstE vv).k), .int .i64 ((cstE vv).n), .string ((cstE vv).s), .string ((cstE vv).nm), .slice (sA u) (sN u) (sC u)], .box b1 [.int .i64 x.op, .int .i64 x.k, .int .i64 x.n, .string x.s, .string x.nm, .slice A len ca]] []) trivial trivial (fun _ => by kernel_rfl) ?_
      clear hJ a w; intro a w hJ
      refine x_end (hQ [.agg #[.int .i64 ((cstE vv).op), .int .i64 ((cstE vv).k), .int .i64 ((cstE vv).n), .string ((cstE vv).s), .string ((cstE vv).nm), .slice (sA u) (sN u) (sC u)]] _ [] hJ (.rcell hJ.j 1 rfl (by kernel_rfl) (by kernel_rfl) .nil) (no_own _) rfl ?_).1
      exact ⟨u, rfl, (hcu.sees hJ.j.out)⟩
    · rw [if_neg g]
      rw [hse] at hm hb hb2
      simp only at hm hb hb2
      have hwf := wf_map hw fun y hy => wf_fold (hw.list.get hy)
      have hgg : (refsE x).isEmpty = false ∨ ((refsE x).isEmpty = true ∧ ¬ (evalE [] x).k ≤ 3) := by
        unfold doneE at g
        cases q : (refsE x).isEmpty
        · exact .inl rfl
        · rw [q, Bool.true_and, decide_eq_true_eq] at g
          exact .inr ⟨rfl, g⟩
      generalize evalE [] x = vv at *
      rcases hgg with hgg | ⟨hgg, hg3⟩
      · rw [hgg] at hcl
        generalize hL : x.args.length = len at *
        refine x_con Try.func70 (c := Try.f70.body.getD .skip) (by kernel_rfl) (N := 70) rfl (by kernel_rfl) ?_
        intro hbx hbad Q hQ a w hJ
        replace hJ : K ⟨70, h.w, h.bad, []⟩ [(0, .agg #[.int .i64 x.op, .int .i64 x.k, .int .i64 x.n, .string x.s, .string x.nm, .slice A len ca])] [] [] h a w := hJ.to (by kernel_rfl) (by kernel_rfl) rfl
        replace hJ := hJ.nilrow 27 6
        refine rx hJ true 55 [.fix, .own, .f 0 0, .cl 38 #[.agg #[.int .i64 x.op, .int .i64 x.k, .int .i64 x.n, .string x.s, .string x.nm, .slice A len ca], .slice none 0 0] (.tuple #[.agg #[.int .i64 vv.k, .int .i64 vv.n, .string vv.s], .int .i64 0]), .own, .b 0 0, .f 0 0, .cl 74 #[.agg #[.int .i64 x.op, .int .i64 x.k, .int .i64 x.n, .string x.s, .string x.nm, .slice A len ca]] (.bool false), .f 0 0, .own, .b 0 0, .b 0 5, .f 0 5] [] (.new fun b1 => .new fun b2 => .new fun b3 => .new fun bo5 => .ok (.code [0, 1, 0, 1, 1, 1, 1]) [.block 0, .seq [1, 1, 1, 1, 1]] [(2, .pointer (some ⟨b2, 0, none⟩)), (5, .pointer (some ⟨bo5, 0, none⟩)), (24, .slice A len ca), (25, .int .i64 (len : Int)), (26, .int .i64 0)] [.box bo5 [.int .i64 x.op, .int .i64 x.k, .int .i64 x.n, .string x.s, .string x.nm, .slice none 0 0], .box b3 [.int .i64 vv.k, .int .i64 vv.n, .string vv.s], .box b2 [.int .i64 0, .int .i64 0, .int .i64 0, .string ⟨#[]⟩, .string ⟨#[]⟩, .slice none 0 0], .row (.slice none 0 0) 27 6 ([])] [(b1, 0, [.int .i64 x.op, .int .i64 x.k, .int .i64 x.n, .string x.s, .string x.nm, .slice A len ca])]) (And.intro (fun H sH => hev _ (hxi _ (hr.sees sH) (hws.sees sH))) (And.intro (fun H sH => hcl _ (hxi _ (hr.sees sH) (hws.sees sH))) (trivial))) trivial (fun b1 b2 b3 bo5 _ => by kernel_rfl) ?_
        clear hJ a w; intro b1 b2 b3 bo5 h4 a w s5 hJ
        refine x_loop (fun (k : Nat) a w => ∃ (h6 : Vw) (v : Value) (vs : List Value), K ⟨70, h.w, h.bad, []⟩ [(2, .pointer (some ⟨b2, 0, none⟩)), (5, .pointer (some ⟨bo5, 0, none⟩)), (24, .slice A len ca), (25, .int .i64 (len : Int)), (26, .int .i64 (k : Int))] [.box bo5 [.int .i64 x.op, .int .i64 x.k, .int .i64 x.n, .string x.s, .string x.nm, v], .box b3 [.int .i64 vv.k, .int .i64 vv.n, .string vv.s], .box b2 [.int .i64 0, .int .i64 0, .int .i64 0, .string ⟨#[]⟩, .string ⟨#[]⟩, .slice none 0 0], .row v 27 6 (exRows ((x.args.map foldE).take k) vs)] [(b1, 0, [.int .i64 x.op, .int .i64 x.k, .int .i64 x.n, .string x.s, .string x.nm, .slice A len ca])] h6 a w ∧ Sees h4 h6 ∧ (k ≤ len) ∧ (AllArgs h6 ((x.args.map foldE).take k) vs)) (fun k => len - k) (0) (by kernel_rfl) ⟨h4, (.slice none 0 0), [], hJ.to (by kernel_rfl) (by kernel_rfl) rfl, Sees.refl _, Nat.zero_le _, by unfold AllArgs; rfl⟩ ?_
        clear hJ a w; rintro k a w ⟨h6, v, vs, hJ, s7, hk, hvs⟩
        refine rx hJ false 6 [] [] (.ok (.code [0, 1, 0, 0, 1, 0, 1, 1, 1, 1]) [.seq [1, 1, 0, 0, 1, 0, 1, 1, 1, 1]] [(2, .pointer (some ⟨b2, 0, none⟩)), (5, .pointer (some ⟨bo5, 0, none⟩)), (24, .slice A len ca), (25, .int .i64 (len : Int)), (26, .int .i64 (k : Int)), (27, .bool (decide ((k : Int) < (len : Int))))] [.box bo5 [.int .i64 x.op, .int .i64 x.k, .int .i64 x.n, .string x.s, .string x.nm, v], .box b3 [.int .i64 vv.k, .int .i64 vv.n, .string vv.s], .box b2 [.int .i64 0, .int .i64 0, .int .i64 0, .string ⟨#[]⟩, .string ⟨#[]⟩, .slice none 0 0], .row v 27 6 (exRows ((x.args.map foldE).take k) vs)] [(b1, 0, [.int .i64 x.op, .int .i64 x.k, .int .i64 x.n, .string x.s, .string x.nm, .slice A len ca])]) trivial trivial (fun _ => by kernel_rfl) ?_
        clear hJ a w; intro a w hJ
        rcases (by omega : k < len ∨ len = k) with hlt | hke
        · obtain ⟨z, hz⟩ : ∃ z, x.args[k]? = some z := ⟨_, List.getElem?_eq_getElem (by omega)⟩
          obtain ⟨u, hu⟩ : ∃ u, ws[k]? = some u := ⟨_, List.getElem?_eq_getElem (by omega)⟩
          have hzu := AllArgs.get hws hz hu
          obtain ⟨Au, nu, cu, rfl⟩ := hzu.slice
          have hzm := szL_mem (List.mem_of_getElem? hz)
          have hzw := hw.list.get (List.mem_of_getElem? hz)
          have hrow : (exRows x.args ws)[k]? = some (exRow z (.slice Au nu cu)) := by show (List.zipWith exRow _ _)[k]? = _; rw [List.getElem?_zipWith, hz, hu]
          have hzp : (x.args.map foldE)[k]? = some (foldE z) := by rw [List.getElem?_map, hz]; rfl
          have hsn := take_snoc' _ k _ hzp
          have hvl := hvs.len
          have hrl2 := exRows_len hvl
          have htl : ((x.args.map foldE).take k).length = k := by rw [List.length_take, List.length_map]; omega
          have hIH := fun H q1 => IH z (.slice Au nu cu) H (by omega) q1 hzw (by omega) (by omega)
          generalize foldE z = zz at *
          refine x_true hJ (t := decide ((k : Int) < (len : Int))) (by kernel_rfl) (decide_eq_true (by omega)) ?_
          refine rx hJ false 6 [] [] (.ok (.ops [0, 0, 0, 1, 1, 0, 0, 1, 0, 1, 1, 1, 1] 0) [.seq [1, 0, 0, 1, 1, 0, 0, 1, 0, 1, 1, 1, 1], .block 1, .seq [1, 1, 1, 0, 0, 1, 0, 1, 1, 1, 1]] [(2, .pointer (some ⟨b2, 0, none⟩)), (5, .pointer (some ⟨bo5, 0, none⟩)), (24, .slice A len ca), (25, .int .i64 (len : Int)), (26, .int .i64 (k : Int)), (27, .bool (decide ((k : Int) < (len : Int))))] [.box bo5 [.int .i64 x.op, .int .i64 x.k, .int .i64 x.n, .string x.s, .string x.nm, v], .box b3 [.int .i64 vv.k, .int .i64 vv.n, .string vv.s], .box b2 [.int .i64 0, .int .i64 0, .int .i64 0, .string ⟨#[]⟩, .string ⟨#[]⟩, .slice none 0 0], .row v 27 6 (exRows ((x.args.map foldE).take k) vs)] [(b1, 0, [.int .i64 x.op, .int .i64 x.k, .int .i64 x.n, .string x.s, .string x.nm, .slice A len ca])]) trivial trivial (fun _ => by kernel_rfl) ?_
          clear hJ a w; intro a w hJ
          obtain ⟨b8, o9, rfl, -, c10⟩ := RS.row hr (hrow)
          replace hJ := hJ.fact (c10.sees (s5.trans s7))
          refine rx hJ false 6 [.ix b8 o9 len ca k, .f 0 0, .own, .b 0 0] [] (.new fun b11 => .ok (.code [1, 0, 0, 1, 1, 0, 0, 1, 0, 1, 1, 1, 1]) [.block 1, .seq [1, 1, 1, 0, 0, 1, 0, 1, 1, 1, 1]] [(2, .pointer (some ⟨b2, 0, none⟩)), (5, .pointer (some ⟨bo5, 0, none⟩)), (24, .slice (some ⟨b8, o9, none⟩) len ca), (25, .int .i64 (len : Int)), (26, .int .i64 (k : Int)), (27, .bool (decide ((k : Int) < (len : Int)))), (28, .pointer (some ⟨b8, o9 + k * 6, none⟩)), (29, .agg #[.int .i64 z.op, .int .i64 z.k, .int .i64 z.n, .string z.s, .string z.nm, .slice Au nu cu]), (7, .pointer (some ⟨b11, 0, none⟩))] [.box b11 [.int .i64 z.op, .int .i64 z.k, .int .i64 z.n, .string z.s, .string z.nm, .slice Au nu cu], .box bo5 [.int .i64 x.op, .int .i64 x.k, .int .i64 x.n, .string x.s, .string x.nm, v], .box b3 [.int .i64 vv.k, .int .i64 vv.n, .string vv.s], .box b2 [.int .i64 0, .int .i64 0, .int .i64 0, .string ⟨#[]⟩, .string ⟨#[]⟩, .slice none 0 0], .row v 27 6 (exRows ((x.args.map foldE).take k) vs)] [(b8, o9 + k * 6, [.int .i64 z.op, .int .i64 z.k, .int .i64 z.n, .string z.s, .string z.nm, .slice Au nu cu]), (b1, 0, [.int .i64 x.op, .int .i64 x.k, .int .i64 x.n, .string x.s, .string x.nm, .slice (some ⟨b8, o9, none⟩) len ca])]) (And.intro (by first | omega | (simp; omega)) (trivial)) trivial (fun b11 _ => by kernel_rfl) ?_
          clear hJ a w; intro b11 a w hJ
          let R : Reg := ⟨⟨70, h.w, h.bad, []⟩, [(0, 30, fun gh => .pointer (some ⟨bo5, 5, none⟩)), (1, 31, fun gh => v), (2, 32, fun gh => .agg #[.int .i64 z.op, .int .i64 z.k, .int .i64 z.n, .string z.s, .string z.nm, .slice Au nu cu]), (3, 33, fun gh => .agg #[.int .i64 zz.op, .int .i64 zz.k, .int .i64 zz.n, .string zz.s, .string zz.nm, .slice (sA (gh 3)) (sN (gh 3)) (sC (gh 3))]), (4, 34, fun gh => .slice (some ⟨(blkOf (gh 4)), 0, none⟩) 1 1), (5, 35, fun gh => .slice (sA (gh 5)) (sN (gh 5)) (sC (gh 5))), (6, 36, fun gh => .pointer (some ⟨bo5, 5, none⟩))], [(2, .pointer (some ⟨b2, 0, none⟩)), (5, .pointer (some ⟨bo5, 0, none⟩)), (24, .slice (some ⟨b8, o9, none⟩) len ca), (25, .int .i64 (len : Int)), (26, .int .i64 (k : Int)), (27, .bool (decide ((k : Int) < (len : Int)))), (28, .pointer (some ⟨b8, o9 + k * 6, none⟩)), (29, .agg #[.int .i64 z.op, .int .i64 z.k, .int .i64 z.n, .string z.s, .string z.nm, .slice Au nu cu]), (7, .pointer (some ⟨b11, 0, none⟩))], [⟨some (.box b11 [.int .i64 z.op, .int .i64 z.k, .int .i64 z.n, .string z.s, .string z.nm, .slice Au nu cu]), []⟩, ⟨some (.box bo5 [.int .i64 x.op, .int .i64 x.k, .int .i64 x.n, .string x.s, .string x.nm, v]), [(7, fun gh => .box bo5 [.int .i64 x.op, .int .i64 x.k, .int .i64 x.n, .string x.s, .string x.nm, .slice (sA (gh 5)) (sN (gh 5)) (sC (gh 5))])]⟩, ⟨some (.box b3 [.int .i64 vv.k, .int .i64 vv.n, .string vv.s]), []⟩, ⟨some (.box b2 [.int .i64 0, .int .i64 0, .int .i64 0, .string ⟨#[]⟩, .string ⟨#[]⟩, .slice none 0 0]), []⟩, ⟨some (.row v 27 6 (exRows ((x.args.map foldE).take k) vs)), [(5, fun gh => .row (.slice (sA (gh 5)) (sN (gh 5)) (sC (gh 5))) 27 6 ((exRows ((x.args.map foldE).take k) vs) ++ [[.int .i64 zz.op, .int .i64 zz.k, .int .i64 zz.n, .string zz.s, .string zz.nm, .slice (sA (gh 3)) (sN (gh 3)) (sC (gh 3))]]))]⟩], [(3, fun gh hh => IsArgs hh zz (.slice (sA (gh 3)) (sN (gh 3)) (sC (gh 3)))), (4, fun gh hh => Cells hh (blkOf (gh 4)) 0 [.int .i64 zz.op, .int .i64 zz.k, .int .i64 zz.n, .string zz.s, .string zz.nm, .slice (sA (gh 3)) (sN (gh 3)) (sC (gh 3))])], [[], [0], [], [2], [2, 3], [0, 1, 2, 3, 4], [0, 1, 2, 3, 4, 5], [0, 1, 2, 3, 4, 5, 6]], h6⟩
          have hmono : ∀ zq ∈ R.F, ∀ zx zh zi, Sees zh zi → zq.2 zx zh → zq.2 zx zi := mono_cons (fun _ _ _ s c => c.sees s) (mono_cons (fun _ _ _ s c => c.sees s) (mono_nil))
          refine x_region (by kernel_rfl) R hJ 8 [.pu, .ld 1 5, .ld 0 0, .cl, .cl, .cl, .pu, .st 1 5] (by kernel_rfl) hmono (fun _ _ _ => by kernel_rfl) (fun hT hA => ?_) ?_
          · clear hJ
            refine And.intro (r_call hT hA hmono ⟨fun _ _ => by kernel_rfl, fun _ _ => by kernel_rfl, fun _ _ => by kernel_rfl⟩ 33 (fun u => .agg #[.int .i64 zz.op, .int .i64 zz.k, .int .i64 zz.n, .string zz.s, .string zz.nm, .slice (sA u) (sN u) (sC u)]) [2] 3 (by kernel_rfl) (by kernel_rfl) (fun _ => by kernel_rfl) 70 (fun gh => #[.agg #[.int .i64 z.op, .int .i64 z.k, .int .i64 z.n, .string z.s, .string z.nm, .slice Au nu cu]]) (fun _ _ => by kernel_rfl) (fun gh H sH fH lent => C0.facts (R := R) (x := gh) (i := 3) (n := 0) (F := (fun u => .agg #[.int .i64 zz.op, .int .i64 zz.k, .int .i64 zz.n, .string zz.s, .string zz.nm, .slice (sA u) (sN u) (sC u)])) (G := fun u hh => IsArgs hh zz (.slice (sA u) (sN u) (sC u))) (f := fun gh hh => IsArgs hh zz (.slice (sA (gh 3)) (sN (gh 3)) (sC (gh 3)))) (hIH _ (hzu.sees (s5.trans (s7.trans sH)))) (by kernel_rfl) (by kernel_rfl) (fun _ _ r => r))) ?_
            refine And.intro (r_fact hT hA hmono ⟨fun _ _ => by kernel_rfl, fun _ _ => by kernel_rfl, fun _ _ => by kernel_rfl⟩ 34 (fun g => .slice (some ⟨g, 0, none⟩) 1 1) [3] 4 (by kernel_rfl) (by kernel_rfl) (fun _ => by kernel_rfl) (fun gh => [.int .i64 zz.op, .int .i64 zz.k, .int .i64 zz.n, .string zz.s, .string zz.nm, .slice (sA (gh 3)) (sN (gh 3)) (sC (gh 3))]) 27 (fun _ _ => by kernel_rfl) (fun gh zb zH zc zj zq zhq zhe => own_fact (i := 4) (k := 1) (f := fun gh hh => Cells hh (blkOf (gh 4)) 0 [.int .i64 zz.op, .int .i64 zz.k, .int .i64 zz.n, .string zz.s, .string zz.nm, .slice (sA (gh 3)) (sN (gh 3)) (sC (gh 3))]) (by kernel_rfl) (by kernel_rfl) zc zj zq zhq zhe)) ?_
            refine And.intro (r_append hT hA hmono ⟨fun _ _ => by kernel_rfl, fun _ _ => by kernel_rfl, fun _ _ => by kernel_rfl⟩ (by kernel_rfl) 35 [1, 3, 4] 5 (by kernel_rfl) (fun _ => by kernel_rfl) 4 ⟨some (.row v 27 6 (exRows ((x.args.map foldE).take k) vs)), [(5, fun gh => .row (.slice (sA (gh 5)) (sN (gh 5)) (sC (gh 5))) 27 6 ((exRows ((x.args.map foldE).take k) vs) ++ [[.int .i64 zz.op, .int .i64 zz.k, .int .i64 zz.n, .string zz.s, .string zz.nm, .slice (sA (gh 3)) (sN (gh 3)) (sC (gh 3))]]))]⟩ (by kernel_rfl) (by kernel_rfl) (by kernel_rfl) (fun gh => v) 25 27 6 (fun gh => exRows ((x.args.map foldE).take k) vs) (fun gh => [[.int .i64 zz.op, .int .i64 zz.k, .int .i64 zz.n, .string zz.s, .string zz.nm, .slice (sA (gh 3)) (sN (gh 3)) (sC (gh 3))]]) (fun _ => by kernel_rfl) (fun _ => by kernel_rfl) (fun _ _ => by kernel_rfl) (.tmp 31) (.tmp 34) (by kernel_rfl) (by kernel_rfl) (fun gh => (blkOf (gh 4))) 1 1 (fun _ => by kernel_rfl) (fun _ => by kernel_rfl) 1 4 (fun gh hh => Cells hh (blkOf (gh 4)) 0 [.int .i64 zz.op, .int .i64 zz.k, .int .i64 zz.n, .string zz.s, .string zz.nm, .slice (sA (gh 3)) (sN (gh 3)) (sC (gh 3))]) (by kernel_rfl) (by kernel_rfl) (fun _ _ c => c) Try.underlying25 (zv := .agg #[.int .i64 0, .int .i64 0, .int .i64 0, .string ⟨#[]⟩, .string ⟨#[]⟩, .slice none 0 0]) (bytes := 80) (by kernel_rfl) (by kernel_rfl) (fun _ => by kernel_rfl) (fun _ => by constructor <;> (rw [hrl2, htl]; omega))) ?_
            trivial
          clear hJ a w; intro gh h14 a w sR hJ1 hF; have s15 : Sees h6 h14 := sR; clear sR
          have hJ : K ⟨70, h.w, h.bad, []⟩ [(2, .pointer (some ⟨b2, 0, none⟩)), (5, .pointer (some ⟨bo5, 0, none⟩)), (24, .slice (some ⟨b8, o9, none⟩) len ca), (25, .int .i64 (len : Int)), (26, .int .i64 (k : Int)), (27, .bool (decide ((k : Int) < (len : Int)))), (28, .pointer (some ⟨b8, o9 + k * 6, none⟩)), (29, .agg #[.int .i64 z.op, .int .i64 z.k, .int .i64 z.n, .string z.s, .string z.nm, .slice Au nu cu]), (7, .pointer (some ⟨b11, 0, none⟩)), (30, .pointer (some ⟨bo5, 5, none⟩)), (31, v), (32, .agg #[.int .i64 z.op, .int .i64 z.k, .int .i64 z.n, .string z.s, .string z.nm, .slice Au nu cu]), (33, .agg #[.int .i64 zz.op, .int .i64 zz.k, .int .i64 zz.n, .string zz.s, .string zz.nm, .slice (sA (gh 3)) (sN (gh 3)) (sC (gh 3))]), (34, .slice (some ⟨(blkOf (gh 4)), 0, none⟩) 1 1), (35, .slice (sA (gh 5)) (sN (gh 5)) (sC (gh 5))), (36, .pointer (some ⟨bo5, 5, none⟩))] [.box b11 [.int .i64 z.op, .int .i64 z.k, .int .i64 z.n, .string z.s, .string z.nm, .slice Au nu cu], .box bo5 [.int .i64 x.op, .int .i64 x.k, .int .i64 x.n, .string x.s, .string x.nm, .slice (sA (gh 5)) (sN (gh 5)) (sC (gh 5))], .box b3 [.int .i64 vv.k, .int .i64 vv.n, .string vv.s], .box b2 [.int .i64 0, .int .i64 0, .int .i64 0, .string ⟨#[]⟩, .string ⟨#[]⟩, .slice none 0 0], .row (.slice (sA (gh 5)) (sN (gh 5)) (sC (gh 5))) 27 6 ((exRows ((x.args.map foldE).take k) vs) ++ [[.int .i64 zz.op, .int .i64 zz.k, .int .i64 zz.n, .string zz.s, .string zz.nm, .slice (sA (gh 3)) (sN (gh 3)) (sC (gh 3))]])] [(b8, o9 + k * 6, [.int .i64 z.op, .int .i64 z.k, .int .i64 z.n, .string z.s, .string z.nm, .slice Au nu cu]), (b1, 0, [.int .i64 x.op, .int .i64 x.k, .int .i64 x.n, .string x.s, .string x.nm, .slice (some ⟨b8, o9, none⟩) len ca])] h14 a w := hJ1.to (by kernel_rfl) (by kernel_rfl) rfl
          have f33 : IsArgs h14 zz (.slice (sA (gh 3)) (sN (gh 3)) (sC (gh 3))) := Reg.fact (i := 3) (f := fun gh hh => IsArgs hh zz (.slice (sA (gh 3)) (sN (gh 3)) (sC (gh 3)))) hF 0 (by kernel_rfl)
          have f12 : Cells h14 (blkOf (gh 4)) 0 [.int .i64 zz.op, .int .i64 zz.k, .int .i64 zz.n, .string zz.s, .string zz.nm, .slice (sA (gh 3)) (sN (gh 3)) (sC (gh 3))] := Reg.fact (i := 4) (f := fun gh hh => Cells hh (blkOf (gh 4)) 0 [.int .i64 zz.op, .int .i64 zz.k, .int .i64 zz.n, .string zz.s, .string zz.nm, .slice (sA (gh 3)) (sN (gh 3)) (sC (gh 3))]) hF 1 (by kernel_rfl)
          replace hJ := hJ.fact f12
          clear hJ1 hF hmono R
          generalize gh 3 = u33 at *
          generalize blkOf (gh 4) = b13 at *
          generalize gh 5 = v35 at *
          clear gh
          refine rx hJ false 6 [] [(37, .int .i64 (IntKind.i64.wrap ((k : Int) + 1)), .int .i64 ((k : Int) + 1))] (.ok (.out .normal) [] [(2, .pointer (some ⟨b2, 0, none⟩)), (5, .pointer (some ⟨bo5, 0, none⟩)), (24, .slice (some ⟨b8, o9, none⟩) len ca), (25, .int .i64 (len : Int)), (27, .bool (decide ((k : Int) < (len : Int)))), (28, .pointer (some ⟨b8, o9 + k * 6, none⟩)), (29, .agg #[.int .i64 z.op, .int .i64 z.k, .int .i64 z.n, .string z.s, .string z.nm, .slice Au nu cu]), (7, .pointer (some ⟨b11, 0, none⟩)), (30, .pointer (some ⟨bo5, 5, none⟩)), (31, v), (32, .agg #[.int .i64 z.op, .int .i64 z.k, .int .i64 z.n, .string z.s, .string z.nm, .slice Au nu cu]), (33, .agg #[.int .i64 zz.op, .int .i64 zz.k, .int .i64 zz.n, .string zz.s, .string zz.nm, .slice (sA u33) (sN u33) (sC u33)]), (34, .slice (some ⟨b13, 0, none⟩) 1 1), (35, .slice (sA v35) (sN v35) (sC v35)), (36, .pointer (some ⟨bo5, 5, none⟩)), (37, .int .i64 ((k : Int) + 1)), (26, .int .i64 ((k : Int) + 1))] [.box b11 [.int .i64 z.op, .int .i64 z.k, .int .i64 z.n, .string z.s, .string z.nm, .slice Au nu cu], .box bo5 [.int .i64 x.op, .int .i64 x.k, .int .i64 x.n, .string x.s, .string x.nm, .slice (sA v35) (sN v35) (sC v35)], .box b3 [.int .i64 vv.k, .int .i64 vv.n, .string vv.s], .box b2 [.int .i64 0, .int .i64 0, .int .i64 0, .string ⟨#[]⟩, .string ⟨#[]⟩, .slice none 0 0], .row (.slice (sA v35) (sN v35) (sC v35)) 27 6 ((exRows ((x.args.map foldE).take k) vs) ++ [[.int .i64 zz.op, .int .i64 zz.k, .int .i64 zz.n, .string zz.s, .string zz.nm, .slice (sA u33) (sN u33) (sC u33)]])] [(b13, 0, [.int .i64 zz.op, .int .i64 zz.k, .int .i64 zz.n, .string zz.s, .string zz.nm, .slice (sA u33) (sN u33) (sC u33)]), (b8, o9 + k * 6, [.int .i64 z.op, .int .i64 z.k, .int .i64 z.n, .string z.s, .string z.nm, .slice Au nu cu]), (b1, 0, [.int .i64 x.op, .int .i64 x.k, .int .i64 x.n, .string x.s, .string x.nm, .slice (some ⟨b8, o9, none⟩) len ca])]) trivial (And.intro (i64_wrap (by omega) (by omega)) (trivial)) (fun _ => by kernel_rfl) ?_
          clear hJ a w; intro a w hJ
          replace hJ := hJ.drop 0
          exact x_round ⟨k + 1, ⟨h14, .slice (sA v35) (sN v35) (sC v35), vs ++ [.slice (sA u33) (sN u33) (sC u33)], (hJ.tof [2] (F' := [(b1, 0, [.int .i64 x.op, .int .i64 x.k, .int .i64 x.n, .string x.s, .string x.nm, .slice (some ⟨b8, o9, none⟩) len ca])]) (by kernel_rfl)).to (by kernel_rfl) (by rw [hsn, exRows_snoc hvl]; rfl) rfl, (s7.trans s15), by omega, by rw [hsn]; exact AllArgs.snoc f33 (hvs.sees s15)⟩, by omega⟩
        · skip
          have hta : (x.args.map foldE).take k = x.args.map foldE := by rw [List.take_of_length_le (by rw [List.length_map]; omega)]
          rw [hta] at hJ hvs
          obtain ⟨A2, c2, hE_v, hc_v, hm_v⟩ := hJ.form (v := v) (e := 27) (k := 6) (l := exRows (x.args.map foldE) vs) 3 (by kernel_rfl)
          rw [hE_v] at hJ
          obtain ⟨h16, s17, fr, hJn⟩ := hJ.frozen (v := .slice A2 ((exRows (x.args.map foldE) vs).length) c2) (e := 27) (k := 6) (l := exRows (x.args.map foldE) vs) 3 (by kernel_rfl) (hJ.j.rowOut0 (v := .slice A2 ((exRows (x.args.map foldE) vs).length) c2) (e := 27) (k := 6) (l := exRows (x.args.map foldE) vs) 3 (by kernel_rfl) rfl); clear hJ; have hJ := hJn; clear hJn
          have hvl := hvs.len
          have hml : (x.args.map foldE).length = len := by rw [List.length_map]; exact hL
          generalize x.args.map foldE = la at *
          have fin : ∀ H, RS H 6 (.slice A2 (exRows la vs).length c2) (exRows la vs) → AllArgs H la vs → IsArgs H (.mk x.op x.k x.n x.s x.nm la) (.slice A2 (exRows la vs).length c2) := fun H q1 q2 => IsArgs.mk (x := .mk x.op x.k x.n x.s x.nm la) q1 q2
          by_cases g17 : x.op = 17
          · have hl3 : len = 3 := by have := hw.top; unfold TopOk at this; rw [hL, g17] at this; rcases this with q | q | q <;> first | omega | exact q.2.2.2.2.2.2
            obtain ⟨y, hy⟩ : ∃ y, la[0]? = some y := ⟨_, List.getElem?_eq_getElem (by omega)⟩
            obtain ⟨uy, huy⟩ : ∃ u, vs[0]? = some u := ⟨_, List.getElem?_eq_getElem (by omega)⟩
            have hyr : (exRows la vs)[0]? = some (exRow y uy) := by show (List.zipWith exRow _ _)[0]? = _; rw [List.getElem?_zipWith, hy, huy]
            have hh0 : hdX la 0 = y := hdX_get hy
            by_cases g1 : y.op = 1
            · skip
              by_cases g2 : y.k = 2
              · have hib : ifB (.mk x.op x.k x.n x.s x.nm la) = true := decide_eq_true ⟨g17, by rw [show Ex.args _ = la from rfl, hh0]; exact g1, by rw [show Ex.args _ = la from rfl, hh0]; exact g2⟩
                obtain ⟨-, -, -, -, i5, i6⟩ := if_parts hwf hib
                rw [show Ex.args (.mk x.op x.k x.n x.s x.nm la) = la from rfl, hh0] at i5 i6
                have e2 : ifE (.mk x.op x.k x.n x.s x.nm la) = hdX la (2 - y.n).toNat := by unfold ifE; rw [if_pos hib, show Ex.args (.mk x.op x.k x.n x.s x.nm la) = la from rfl, hh0]
                rw [e2] at hQ
                generalize hi : (2 - y.n).toNat = i at *
                have hin : 2 - y.n = (i : Int) := by omega
                obtain ⟨z, hz⟩ : ∃ z, la[i]? = some z := ⟨_, List.getElem?_eq_getElem (by omega)⟩
                obtain ⟨u, hu⟩ : ∃ u, vs[i]? = some u := ⟨_, List.getElem?_eq_getElem (by omega)⟩
                rw [hdX_get hz] at hQ
                obtain ⟨Az, nz, cz, rfl⟩ := (AllArgs.get hvs hz hu).slice
                have hzr : (exRows la vs)[i]? = some (exRow z (.slice Az nz cz)) := by show (List.zipWith exRow _ _)[i]? = _; rw [List.getElem?_zipWith, hz, hu]
                have hzu : ∀ H, AllArgs H la vs → IsArgs H z (.slice Az nz cz) := fun H q => AllArgs.get q hz hu
                refine x_false hJ (t := decide ((k : Int) < (len : Int))) (by kernel_rfl) (decide_eq_false (by omega)) ?_
                refine rx hJ false 2 [] [] (.ok (.out (.exit 0)) [] [(2, .pointer (some ⟨b2, 0, none⟩)), (5, .pointer (some ⟨bo5, 0, none⟩)), (24, .slice A len ca), (25, .int .i64 (len : Int)), (26, .int .i64 (k : Int)), (27, .bool (decide ((k : Int) < (len : Int))))] [.box bo5 [.int .i64 x.op, .int .i64 x.k, .int .i64 x.n, .string x.s, .string x.nm, .slice A2 ((exRows la vs).length) c2], .box b3 [.int .i64 vv.k, .int .i64 vv.n, .string vv.s], .box b2 [.int .i64 0, .int .i64 0, .int .i64 0, .string ⟨#[]⟩, .string ⟨#[]⟩, .slice none 0 0]] [(b1, 0, [.int .i64 x.op, .int .i64 x.k, .int .i64 x.n, .string x.s, .string x.nm, .slice A len ca])]) trivial trivial (fun _ => by kernel_rfl) ?_
                clear hJ a w; intro a w hJ
                refine x_leave rfl ?_
                refine rx hJ false 11 [.b 0 0, .b 0 5] [(40, .bool (x.op == 17), .bool true)] (.ok (.ops [0, 0, 1, 1, 1, 1, 1] 6) [.seq [1, 0, 1, 1, 1, 1, 1], .seq [1, 1, 1, 1, 1, 1]] [(2, .pointer (some ⟨b2, 0, none⟩)), (5, .pointer (some ⟨bo5, 0, none⟩)), (41, .bool true), (43, .slice A2 ((exRows la vs).length) c2)] [.box bo5 [.int .i64 x.op, .int .i64 x.k, .int .i64 x.n, .string x.s, .string x.nm, .slice A2 ((exRows la vs).length) c2], .box b3 [.int .i64 vv.k, .int .i64 vv.n, .string vv.s], .box b2 [.int .i64 0, .int .i64 0, .int .i64 0, .string ⟨#[]⟩, .string ⟨#[]⟩, .slice none 0 0]] [(b1, 0, [.int .i64 x.op, .int .i64 x.k, .int .i64 x.n, .string x.s, .string x.nm, .slice A len ca])]) trivial (And.intro (congrArg Value.bool (beq_iff_eq.2 g17)) (trivial)) (fun _ => by kernel_rfl) ?_
                clear hJ a w; intro a w hJ
                obtain ⟨b18, o19, rfl, -, c20⟩ := RS.row fr (hyr)
                replace hJ := hJ.fact (c20.sees (Sees.refl _))
                refine rx hJ false 8 [.ix b18 o19 ((exRows la vs).length) c2 0, .f 0 0, .b 0 5] [(47, .bool (y.op == 1), .bool true)] (.ok (.ops [0, 0, 1, 1, 1, 1, 1] 14) [.seq [1, 0, 1, 1, 1, 1, 1], .seq [1, 1, 1, 1, 1, 1]] [(2, .pointer (some ⟨b2, 0, none⟩)), (5, .pointer (some ⟨bo5, 0, none⟩)), (49, .bool true), (51, .slice (some ⟨b18, o19, none⟩) ((exRows la vs).length) c2)] [.box bo5 [.int .i64 x.op, .int .i64 x.k, .int .i64 x.n, .string x.s, .string x.nm, .slice (some ⟨b18, o19, none⟩) ((exRows la vs).length) c2], .box b3 [.int .i64 vv.k, .int .i64 vv.n, .string vv.s], .box b2 [.int .i64 0, .int .i64 0, .int .i64 0, .string ⟨#[]⟩, .string ⟨#[]⟩, .slice none 0 0]] [(b18, o19 + 0 * 6, [.int .i64 y.op, .int .i64 y.k, .int .i64 y.n, .string y.s, .string y.nm, uy]), (b1, 0, [.int .i64 x.op, .int .i64 x.k, .int .i64 x.n, .string x.s, .string x.nm, .slice A len ca])]) (And.intro (by first | omega | (simp; omega)) (trivial)) (And.intro (congrArg Value.bool (beq_iff_eq.2 g1)) (trivial)) (fun _ => by kernel_rfl) ?_
                clear hJ a w; intro a w hJ
                have c21 := RS.cell fr (hyr)
                replace hJ := hJ.fact (c21.sees (Sees.refl _))
                refine rx hJ false 10 [.ix b18 o19 ((exRows la vs).length) c2 0, .f 0 1] [(56, .bool (y.k == 2), .bool true)] (.ok (.code [0, 0, 1, 0, 1, 1, 1, 1, 1]) [.seq [1, 0, 1, 0, 1, 1, 1, 1, 1], .seq [1, 1, 1, 1, 1, 1]] [(2, .pointer (some ⟨b2, 0, none⟩)), (5, .pointer (some ⟨bo5, 0, none⟩))] [.box bo5 [.int .i64 x.op, .int .i64 x.k, .int .i64 x.n, .string x.s, .string x.nm, .slice (some ⟨b18, o19, none⟩) ((exRows la vs).length) c2], .box b3 [.int .i64 vv.k, .int .i64 vv.n, .string vv.s], .box b2 [.int .i64 0, .int .i64 0, .int .i64 0, .string ⟨#[]⟩, .string ⟨#[]⟩, .slice none 0 0]] [(b18, o19 + 0 * 6, [.int .i64 y.op, .int .i64 y.k, .int .i64 y.n, .string y.s, .string y.nm, uy]), (b18, o19 + 0 * 6, [.int .i64 y.op, .int .i64 y.k, .int .i64 y.n, .string y.s, .string y.nm, uy]), (b1, 0, [.int .i64 x.op, .int .i64 x.k, .int .i64 x.n, .string x.s, .string x.nm, .slice A len ca])]) (And.intro (by first | omega | (simp; omega)) (trivial)) (And.intro (congrArg Value.bool (beq_iff_eq.2 g2)) (trivial)) (fun _ => by kernel_rfl) ?_
                clear hJ a w; intro a w hJ
                have c22 := RS.cell fr (hyr)
                replace hJ := hJ.fact (c22.sees (Sees.refl _))
                have c23 := RS.cell fr (hzr)
                replace hJ := hJ.fact (c23.sees (Sees.refl _))
                let R : Reg := ⟨⟨70, h.w, h.bad, []⟩, [(0, 58, fun gh => .pointer (some ⟨bo5, 5, none⟩)), (1, 59, fun gh => .slice (some ⟨b18, o19, none⟩) ((exRows la vs).length) c2), (2, 60, fun gh => .pointer (some ⟨bo5, 5, none⟩)), (3, 61, fun gh => .slice (some ⟨b18, o19, none⟩) ((exRows la vs).length) c2), (4, 62, fun gh => .pointer (some ⟨b18, o19 + 0 * 6, none⟩)), (5, 63, fun gh => .pointer (some ⟨b18, o19 + 0 * 6 + 1, none⟩)), (6, 64, fun gh => .pointer (some ⟨b18, o19 + 0 * 6 + 2, none⟩)), (7, 65, fun gh => .int .i64 y.n), (8, 66, fun gh => .int .i64 (i : Int)), (9, 67, fun gh => .pointer (some ⟨b18, o19 + i * 6, none⟩)), (10, 68, fun gh => .agg #[.int .i64 z.op, .int .i64 z.k, .int .i64 z.n, .string z.s, .string z.nm, .slice Az nz cz])], [(2, .pointer (some ⟨b2, 0, none⟩)), (5, .pointer (some ⟨bo5, 0, none⟩))], [⟨some (.box bo5 [.int .i64 x.op, .int .i64 x.k, .int .i64 x.n, .string x.s, .string x.nm, .slice (some ⟨b18, o19, none⟩) ((exRows la vs).length) c2]), []⟩, ⟨some (.box b3 [.int .i64 vv.k, .int .i64 vv.n, .string vv.s]), []⟩, ⟨some (.box b2 [.int .i64 0, .int .i64 0, .int .i64 0, .string ⟨#[]⟩, .string ⟨#[]⟩, .slice none 0 0]), [(11, fun gh => .box b2 [.int .i64 z.op, .int .i64 z.k, .int .i64 z.n, .string z.s, .string z.nm, .slice Az nz cz])]⟩], [], [[], [0], [], [2], [2, 3], [2, 3, 4], [2, 3, 4, 5], [2, 3, 4, 5, 6], [2, 3, 4, 5, 6, 7], [0, 1, 2, 3, 4, 5, 6, 7, 8], [0, 1, 2, 3, 4, 5, 6, 7, 8, 9], [0, 1, 2, 3, 4, 5, 6, 7, 8, 9, 10]], h16⟩
                have hmono : ∀ zq ∈ R.F, ∀ zx zh zi, Sees zh zi → zq.2 zx zh → zq.2 zx zi := mono_nil
                refine x_region (by kernel_rfl) R hJ 12 [.pu, .ld 0 5, .pu, .ld 0 5, .cl, .pu, .pu, .lf 1 2, .cl, .cl, .lf 0 0, .st 2 0] (by kernel_rfl) hmono (fun _ _ _ => by kernel_rfl) (fun hT hA => ?_) ?_
                · clear hJ
                  refine And.intro (r_pure hT hA 62 (fun gh => .pointer (some ⟨b18, o19 + 0 * 6, none⟩)) [3] 4 (by kernel_rfl) (by kernel_rfl) (by kernel_rfl) (fun _ => by kernel_rfl) (fun gh w => run_indexAddr (t := 25) (x := (.tmp 61)) (y := (.const (.int .i64 0))) (b := b18) (off := o19) (n := ((exRows la vs).length)) (cap := c2) (k := 0) (e := 27) (kk := 6) (by kernel_rfl) (by kernel_rfl) (by kernel_rfl) (by first | omega | (simp; omega)) Try.underlying25 (by kernel_rfl))) ?_
                  refine And.intro (r_pure hT hA 66 (fun gh => .int .i64 (i : Int)) [7] 8 (by kernel_rfl) (by kernel_rfl) (by kernel_rfl) (fun _ => by kernel_rfl) (fun gh w => run_eq (v0 := .int .i64 (IntKind.i64.wrap (2 - y.n))) (by kernel_rfl) ((i64_wrap (by omega) (by omega)).trans (congrArg (Value.int .i64) hin)))) ?_
                  refine And.intro (r_pure hT hA 67 (fun gh => .pointer (some ⟨b18, o19 + i * 6, none⟩)) [1, 8] 9 (by kernel_rfl) (by kernel_rfl) (by kernel_rfl) (fun _ => by kernel_rfl) (fun gh w => run_indexAddr (t := 25) (x := (.tmp 59)) (y := (.tmp 66)) (b := b18) (off := o19) (n := ((exRows la vs).length)) (cap := c2) (k := i) (e := 27) (kk := 6) (by kernel_rfl) (by kernel_rfl) (by kernel_rfl) (by first | omega | (simp; omega)) Try.underlying25 (by kernel_rfl))) ?_
                  trivial
                clear hJ a w; intro gh h24 a w sR hJ1 hF; have s25 : Sees h16 h24 := sR; clear sR
                have hJ : K ⟨70, h.w, h.bad, []⟩ [(2, .pointer (some ⟨b2, 0, none⟩)), (5, .pointer (some ⟨bo5, 0, none⟩))] [.box bo5 [.int .i64 x.op, .int .i64 x.k, .int .i64 x.n, .string x.s, .string x.nm, .slice (some ⟨b18, o19, none⟩) ((exRows la vs).length) c2], .box b3 [.int .i64 vv.k, .int .i64 vv.n, .string vv.s], .box b2 [.int .i64 z.op, .int .i64 z.k, .int .i64 z.n, .string z.s, .string z.nm, .slice Az nz cz]] [(b18, o19 + i * 6, [.int .i64 z.op, .int .i64 z.k, .int .i64 z.n, .string z.s, .string z.nm, .slice Az nz cz]), (b18, o19 + 0 * 6, [.int .i64 y.op, .int .i64 y.k, .int .i64 y.n, .string y.s, .string y.nm, uy]), (b18, o19 + 0 * 6, [.int .i64 y.op, .int .i64 y.k, .int .i64 y.n, .string y.s, .string y.nm, uy]), (b18, o19 + 0 * 6, [.int .i64 y.op, .int .i64 y.k, .int .i64 y.n, .string y.s, .string y.nm, uy]), (b1, 0, [.int .i64 x.op, .int .i64 x.k, .int .i64 x.n, .string x.s, .string x.nm, .slice A len ca])] h24 a w := hJ1.to (by kernel_rfl) (by kernel_rfl) rfl
                clear hJ1 hF hmono R
                clear gh
                refine rx hJ false 3 [] [] (.ok (.out .ret) [] [(2, .pointer (some ⟨b2, 0, none⟩))] [.box bo5 [.int .i64 x.op, .int .i64 x.k, .int .i64 x.n, .string x.s, .string x.nm, .slice (some ⟨b18, o19, none⟩) ((exRows la vs).length) c2], .box b3 [.int .i64 vv.k, .int .i64 vv.n, .string vv.s], .box b2 [.int .i64 z.op, .int .i64 z.k, .int .i64 z.n, .string z.s, .string z.nm, .slice Az nz cz]] [(b18, o19 + i * 6, [.int .i64 z.op, .int .i64 z.k, .int .i64 z.n, .string z.s, .string z.nm, .slice Az nz cz]), (b18, o19 + 0 * 6, [.int .i64 y.op, .int .i64 y.k, .int .i64 y.n, .string y.s, .string y.nm, uy]), (b18, o19 + 0 * 6, [.int .i64 y.op, .int .i64 y.k, .int .i64 y.n, .string y.s, .string y.nm, uy]), (b18, o19 + 0 * 6, [.int .i64 y.op, .int .i64 y.k, .int .i64 y.n, .string y.s, .string y.nm, uy]), (b1, 0, [.int .i64 x.op, .int .i64 x.k, .int .i64 x.n, .string x.s, .string x.nm, .slice A len ca])]) trivial trivial (fun _ => by kernel_rfl) ?_
                clear hJ a w; intro a w hJ
                refine x_end (hQ [.agg #[.int .i64 z.op, .int .i64 z.k, .int .i64 z.n, .string z.s, .string z.nm, .slice Az nz cz]] _ [] hJ (.rcell hJ.j 2 rfl (by kernel_rfl) (by kernel_rfl) .nil) (no_own _) rfl ?_).1
                exact ⟨.slice Az nz cz, rfl, hzu _ (hvs.sees (s17.trans (s25.trans hJ.j.out)))⟩
              · skip
                have e2 : ifE (.mk x.op x.k x.n x.s x.nm la) = .mk x.op x.k x.n x.s x.nm la := by unfold ifE ifB; rw [if_neg]; rw [decide_eq_true_eq]; rintro ⟨-, -, q⟩; exact g2 (by rw [← hh0]; exact q)
                rw [e2] at hQ
                refine x_false hJ (t := decide ((k : Int) < (len : Int))) (by kernel_rfl) (decide_eq_false (by omega)) ?_
                refine rx hJ false 2 [] [] (.ok (.out (.exit 0)) [] [(2, .pointer (some ⟨b2, 0, none⟩)), (5, .pointer (some ⟨bo5, 0, none⟩)), (24, .slice A len ca), (25, .int .i64 (len : Int)), (26, .int .i64 (k : Int)), (27, .bool (decide ((k : Int) < (len : Int))))] [.box bo5 [.int .i64 x.op, .int .i64 x.k, .int .i64 x.n, .string x.s, .string x.nm, .slice A2 ((exRows la vs).length) c2], .box b3 [.int .i64 vv.k, .int .i64 vv.n, .string vv.s], .box b2 [.int .i64 0, .int .i64 0, .int .i64 0, .string ⟨#[]⟩, .string ⟨#[]⟩, .slice none 0 0]] [(b1, 0, [.int .i64 x.op, .int .i64 x.k, .int .i64 x.n, .string x.s, .string x.nm, .slice A len ca])]) trivial trivial (fun _ => by kernel_rfl) ?_
                clear hJ a w; intro a w hJ
                refine x_leave rfl ?_
                refine rx hJ false 11 [.b 0 0, .b 0 5] [(40, .bool (x.op == 17), .bool true)] (.ok (.ops [0, 0, 1, 1, 1, 1, 1] 6) [.seq [1, 0, 1, 1, 1, 1, 1], .seq [1, 1, 1, 1, 1, 1]] [(2, .pointer (some ⟨b2, 0, none⟩)), (5, .pointer (some ⟨bo5, 0, none⟩)), (41, .bool true), (43, .slice A2 ((exRows la vs).length) c2)] [.box bo5 [.int .i64 x.op, .int .i64 x.k, .int .i64 x.n, .string x.s, .string x.nm, .slice A2 ((exRows la vs).length) c2], .box b3 [.int .i64 vv.k, .int .i64 vv.n, .string vv.s], .box b2 [.int .i64 0, .int .i64 0, .int .i64 0, .string ⟨#[]⟩, .string ⟨#[]⟩, .slice none 0 0]] [(b1, 0, [.int .i64 x.op, .int .i64 x.k, .int .i64 x.n, .string x.s, .string x.nm, .slice A len ca])]) trivial (And.intro (congrArg Value.bool (beq_iff_eq.2 g17)) (trivial)) (fun _ => by kernel_rfl) ?_
                clear hJ a w; intro a w hJ
                obtain ⟨b26, o27, rfl, -, c28⟩ := RS.row fr (hyr)
                replace hJ := hJ.fact (c28.sees (Sees.refl _))
                refine rx hJ false 8 [.ix b26 o27 ((exRows la vs).length) c2 0, .f 0 0, .b 0 5] [(47, .bool (y.op == 1), .bool true)] (.ok (.ops [0, 0, 1, 1, 1, 1, 1] 14) [.seq [1, 0, 1, 1, 1, 1, 1], .seq [1, 1, 1, 1, 1, 1]] [(2, .pointer (some ⟨b2, 0, none⟩)), (5, .pointer (some ⟨bo5, 0, none⟩)), (49, .bool true), (51, .slice (some ⟨b26, o27, none⟩) ((exRows la vs).length) c2)] [.box bo5 [.int .i64 x.op, .int .i64 x.k, .int .i64 x.n, .string x.s, .string x.nm, .slice (some ⟨b26, o27, none⟩) ((exRows la vs).length) c2], .box b3 [.int .i64 vv.k, .int .i64 vv.n, .string vv.s], .box b2 [.int .i64 0, .int .i64 0, .int .i64 0, .string ⟨#[]⟩, .string ⟨#[]⟩, .slice none 0 0]] [(b26, o27 + 0 * 6, [.int .i64 y.op, .int .i64 y.k, .int .i64 y.n, .string y.s, .string y.nm, uy]), (b1, 0, [.int .i64 x.op, .int .i64 x.k, .int .i64 x.n, .string x.s, .string x.nm, .slice A len ca])]) (And.intro (by first | omega | (simp; omega)) (trivial)) (And.intro (congrArg Value.bool (beq_iff_eq.2 g1)) (trivial)) (fun _ => by kernel_rfl) ?_
                clear hJ a w; intro a w hJ
                have c29 := RS.cell fr (hyr)
                replace hJ := hJ.fact (c29.sees (Sees.refl _))
                refine rx hJ false 18 [.ix b26 o27 ((exRows la vs).length) c2 0, .f 0 1, .b 0 0, .b 2 0] [(56, .bool (y.k == 2), .bool false)] (.ok (.out .ret) [] [(2, .pointer (some ⟨b2, 0, none⟩))] [.box bo5 [.int .i64 x.op, .int .i64 x.k, .int .i64 x.n, .string x.s, .string x.nm, .slice (some ⟨b26, o27, none⟩) ((exRows la vs).length) c2], .box b3 [.int .i64 vv.k, .int .i64 vv.n, .string vv.s], .box b2 [.int .i64 x.op, .int .i64 x.k, .int .i64 x.n, .string x.s, .string x.nm, .slice (some ⟨b26, o27, none⟩) ((exRows la vs).length) c2]] [(b26, o27 + 0 * 6, [.int .i64 y.op, .int .i64 y.k, .int .i64 y.n, .string y.s, .string y.nm, uy]), (b26, o27 + 0 * 6, [.int .i64 y.op, .int .i64 y.k, .int .i64 y.n, .string y.s, .string y.nm, uy]), (b1, 0, [.int .i64 x.op, .int .i64 x.k, .int .i64 x.n, .string x.s, .string x.nm, .slice A len ca])]) (And.intro (by first | omega | (simp; omega)) (trivial)) (And.intro (congrArg Value.bool (beq_eq_false_iff_ne.2 g2)) (trivial)) (fun _ => by kernel_rfl) ?_
                clear hJ a w; intro a w hJ
                refine x_end (hQ [.agg #[.int .i64 x.op, .int .i64 x.k, .int .i64 x.n, .string x.s, .string x.nm, .slice (some ⟨b26, o27, none⟩) ((exRows la vs).length) c2]] _ [] hJ (.rcell hJ.j 2 rfl (by kernel_rfl) (by kernel_rfl) .nil) (no_own _) rfl ?_).1
                exact ⟨.slice _ _ _, rfl, fin _ (fr.sees hJ.j.out) (hvs.sees (s17.trans hJ.j.out))⟩
            · skip
              have e2 : ifE (.mk x.op x.k x.n x.s x.nm la) = .mk x.op x.k x.n x.s x.nm la := by unfold ifE ifB; rw [if_neg]; rw [decide_eq_true_eq]; rintro ⟨-, q, -⟩; exact g1 (by rw [← hh0]; exact q)
              rw [e2] at hQ
              refine x_false hJ (t := decide ((k : Int) < (len : Int))) (by kernel_rfl) (decide_eq_false (by omega)) ?_
              refine rx hJ false 2 [] [] (.ok (.out (.exit 0)) [] [(2, .pointer (some ⟨b2, 0, none⟩)), (5, .pointer (some ⟨bo5, 0, none⟩)), (24, .slice A len ca), (25, .int .i64 (len : Int)), (26, .int .i64 (k : Int)), (27, .bool (decide ((k : Int) < (len : Int))))] [.box bo5 [.int .i64 x.op, .int .i64 x.k, .int .i64 x.n, .string x.s, .string x.nm, .slice A2 ((exRows la vs).length) c2], .box b3 [.int .i64 vv.k, .int .i64 vv.n, .string vv.s], .box b2 [.int .i64 0, .int .i64 0, .int .i64 0, .string ⟨#[]⟩, .string ⟨#[]⟩, .slice none 0 0]] [(b1, 0, [.int .i64 x.op, .int .i64 x.k, .int .i64 x.n, .string x.s, .string x.nm, .slice A len ca])]) trivial trivial (fun _ => by kernel_rfl) ?_
              clear hJ a w; intro a w hJ
              refine x_leave rfl ?_
              refine rx hJ false 11 [.b 0 0, .b 0 5] [(40, .bool (x.op == 17), .bool true)] (.ok (.ops [0, 0, 1, 1, 1, 1, 1] 6) [.seq [1, 0, 1, 1, 1, 1, 1], .seq [1, 1, 1, 1, 1, 1]] [(2, .pointer (some ⟨b2, 0, none⟩)), (5, .pointer (some ⟨bo5, 0, none⟩)), (41, .bool true), (43, .slice A2 ((exRows la vs).length) c2)] [.box bo5 [.int .i64 x.op, .int .i64 x.k, .int .i64 x.n, .string x.s, .string x.nm, .slice A2 ((exRows la vs).length) c2], .box b3 [.int .i64 vv.k, .int .i64 vv.n, .string vv.s], .box b2 [.int .i64 0, .int .i64 0, .int .i64 0, .string ⟨#[]⟩, .string ⟨#[]⟩, .slice none 0 0]] [(b1, 0, [.int .i64 x.op, .int .i64 x.k, .int .i64 x.n, .string x.s, .string x.nm, .slice A len ca])]) trivial (And.intro (congrArg Value.bool (beq_iff_eq.2 g17)) (trivial)) (fun _ => by kernel_rfl) ?_
              clear hJ a w; intro a w hJ
              obtain ⟨b30, o31, rfl, -, c32⟩ := RS.row fr (hyr)
              replace hJ := hJ.fact (c32.sees (Sees.refl _))
              refine rx hJ false 26 [.ix b30 o31 ((exRows la vs).length) c2 0, .f 0 0, .b 0 0, .b 2 0] [(47, .bool (y.op == 1), .bool false)] (.ok (.out .ret) [] [(2, .pointer (some ⟨b2, 0, none⟩))] [.box bo5 [.int .i64 x.op, .int .i64 x.k, .int .i64 x.n, .string x.s, .string x.nm, .slice (some ⟨b30, o31, none⟩) ((exRows la vs).length) c2], .box b3 [.int .i64 vv.k, .int .i64 vv.n, .string vv.s], .box b2 [.int .i64 x.op, .int .i64 x.k, .int .i64 x.n, .string x.s, .string x.nm, .slice (some ⟨b30, o31, none⟩) ((exRows la vs).length) c2]] [(b30, o31 + 0 * 6, [.int .i64 y.op, .int .i64 y.k, .int .i64 y.n, .string y.s, .string y.nm, uy]), (b1, 0, [.int .i64 x.op, .int .i64 x.k, .int .i64 x.n, .string x.s, .string x.nm, .slice A len ca])]) (And.intro (by first | omega | (simp; omega)) (trivial)) (And.intro (congrArg Value.bool (beq_eq_false_iff_ne.2 g1)) (trivial)) (fun _ => by kernel_rfl) ?_
              clear hJ a w; intro a w hJ
              refine x_end (hQ [.agg #[.int .i64 x.op, .int .i64 x.k, .int .i64 x.n, .string x.s, .string x.nm, .slice (some ⟨b30, o31, none⟩) ((exRows la vs).length) c2]] _ [] hJ (.rcell hJ.j 2 rfl (by kernel_rfl) (by kernel_rfl) .nil) (no_own _) rfl ?_).1
              exact ⟨.slice _ _ _, rfl, fin _ (fr.sees hJ.j.out) (hvs.sees (s17.trans hJ.j.out))⟩
          · skip
            have e2 : ifE (.mk x.op x.k x.n x.s x.nm la) = .mk x.op x.k x.n x.s x.nm la := by unfold ifE ifB; rw [if_neg]; rw [decide_eq_true_eq]; rintro ⟨q, -⟩; exact g17 q
            rw [e2] at hQ
            refine x_false hJ (t := decide ((k : Int) < (len : Int))) (by kernel_rfl) (decide_eq_false (by omega)) ?_
            refine rx hJ false 2 [] [] (.ok (.out (.exit 0)) [] [(2, .pointer (some ⟨b2, 0, none⟩)), (5, .pointer (some ⟨bo5, 0, none⟩)), (24, .slice A len ca), (25, .int .i64 (len : Int)), (26, .int .i64 (k : Int)), (27, .bool (decide ((k : Int) < (len : Int))))] [.box bo5 [.int .i64 x.op, .int .i64 x.k, .int .i64 x.n, .string x.s, .string x.nm, .slice A2 ((exRows la vs).length) c2], .box b3 [.int .i64 vv.k, .int .i64 vv.n, .string vv.s], .box b2 [.int .i64 0, .int .i64 0, .int .i64 0, .string ⟨#[]⟩, .string ⟨#[]⟩, .slice none 0 0]] [(b1, 0, [.int .i64 x.op, .int .i64 x.k, .int .i64 x.n, .string x.s, .string x.nm, .slice A len ca])]) trivial trivial (fun _ => by kernel_rfl) ?_
            clear hJ a w; intro a w hJ
            refine x_leave rfl ?_
            refine rx hJ false 37 [.b 0 0, .b 0 0, .b 2 0] [(40, .bool (x.op == 17), .bool false)] (.ok (.out .ret) [] [(2, .pointer (some ⟨b2, 0, none⟩))] [.box bo5 [.int .i64 x.op, .int .i64 x.k, .int .i64 x.n, .string x.s, .string x.nm, .slice A2 ((exRows la vs).length) c2], .box b3 [.int .i64 vv.k, .int .i64 vv.n, .string vv.s], .box b2 [.int .i64 x.op, .int .i64 x.k, .int .i64 x.n, .string x.s, .string x.nm, .slice A2 ((exRows la vs).length) c2]] [(b1, 0, [.int .i64 x.op, .int .i64 x.k, .int .i64 x.n, .string x.s, .string x.nm, .slice A len ca])]) trivial (And.intro (congrArg Value.bool (beq_eq_false_iff_ne.2 g17)) (trivial)) (fun _ => by kernel_rfl) ?_
            clear hJ a w; intro a w hJ
            refine x_end (hQ [.agg #[.int .i64 x.op, .int .i64 x.k, .int .i64 x.n, .string x.s, .string x.nm, .slice A2 ((exRows la vs).length) c2]] _ [] hJ (.rcell hJ.j 2 rfl (by kernel_rfl) (by kernel_rfl) .nil) (no_own _) rfl ?_).1
            exact ⟨.slice _ _ _, rfl, fin _ (fr.sees hJ.j.out) (hvs.sees (s17.trans hJ.j.out))⟩
      · rw [hgg] at hcl
        have hkn := fun H => known_fault vv H hg3 (ok_kinds hok).1
        generalize hL : x.args.length = len at *
        refine x_con Try.func70 (c := Try.f70.body.getD .skip) (by kernel_rfl) (N := 70) rfl (by kernel_rfl) ?_
        intro hbx hbad Q hQ a w hJ
        replace hJ : K ⟨70, h.w, h.bad, []⟩ [(0, .agg #[.int .i64 x.op, .int .i64 x.k, .int .i64 x.n, .string x.s, .string x.nm, .slice A len ca])] [] [] h a w := hJ.to (by kernel_rfl) (by kernel_rfl) rfl
        replace hJ := hJ.nilrow 27 6
        refine rx hJ true 55 [.fix, .own, .f 0 0, .cl 38 #[.agg #[.int .i64 x.op, .int .i64 x.k, .int .i64 x.n, .string x.s, .string x.nm, .slice A len ca], .slice none 0 0] (.tuple #[.agg #[.int .i64 vv.k, .int .i64 vv.n, .string vv.s], .int .i64 0]), .own, .b 0 0, .f 0 0, .cl 74 #[.agg #[.int .i64 x.op, .int .i64 x.k, .int .i64 x.n, .string x.s, .string x.nm, .slice A len ca]] (.bool true), .b 0 0, .cl 103 #[.agg #[.int .i64 vv.k, .int .i64 vv.n, .string vv.s]] (.bool false), .f 0 0, .own, .b 0 0, .b 0 5, .f 0 5] [] (.new fun b1 => .new fun b2 => .new fun b3 => .new fun bo5 => .ok (.code [0, 1, 0, 1, 1, 1, 1]) [.block 0, .seq [1, 1, 1, 1, 1]] [(2, .pointer (some ⟨b2, 0, none⟩)), (5, .pointer (some ⟨bo5, 0, none⟩)), (24, .slice A len ca), (25, .int .i64 (len : Int)), (26, .int .i64 0)] [.box bo5 [.int .i64 x.op, .int .i64 x.k, .int .i64 x.n, .string x.s, .string x.nm, .slice none 0 0], .box b3 [.int .i64 vv.k, .int .i64 vv.n, .string vv.s], .box b2 [.int .i64 0, .int .i64 0, .int .i64 0, .string ⟨#[]⟩, .string ⟨#[]⟩, .slice none 0 0], .row (.slice none 0 0) 27 6 ([])] [(b1, 0, [.int .i64 x.op, .int .i64 x.k, .int .i64 x.n, .string x.s, .string x.nm, .slice A len ca])]) (And.intro (fun H sH => hev _ (hxi _ (hr.sees sH) (hws.sees sH))) (And.intro (fun H sH => hcl _ (hxi _ (hr.sees sH) (hws.sees sH))) (And.intro (fun H sH => hkn _) (trivial)))) trivial (fun b1 b2 b3 bo5 _ => by kernel_rfl) ?_
        clear hJ a w; intro b1 b2 b3 bo5 h4 a w s5 hJ
        refine x_loop (fun (k : Nat) a w => ∃ (h6 : Vw) (v : Value) (vs : List Value), K ⟨70, h.w, h.bad, []⟩ [(2, .pointer (some ⟨b2, 0, none⟩)), (5, .pointer (some ⟨bo5, 0, none⟩)), (24, .slice A len ca), (25, .int .i64 (len : Int)), (26, .int .i64 (k : Int))] [.box bo5 [.int .i64 x.op, .int .i64 x.k, .int .i64 x.n, .string x.s, .string x.nm, v], .box b3 [.int .i64 vv.k, .int .i64 vv.n, .string vv.s], .box b2 [.int .i64 0, .int .i64 0, .int .i64 0, .string ⟨#[]⟩, .string ⟨#[]⟩, .slice none 0 0], .row v 27 6 (exRows ((x.args.map foldE).take k) vs)] [(b1, 0, [.int .i64 x.op, .int .i64 x.k, .int .i64 x.n, .string x.s, .string x.nm, .slice A len ca])] h6 a w ∧ Sees h4 h6 ∧ (k ≤ len) ∧ (AllArgs h6 ((x.args.map foldE).take k) vs)) (fun k => len - k) (0) (by kernel_rfl) ⟨h4, (.slice none 0 0), [], hJ.to (by kernel_rfl) (by kernel_rfl) rfl, Sees.refl _, Nat.zero_le _, by unfold AllArgs; rfl⟩ ?_
        clear hJ a w; rintro k a w ⟨h6, v, vs, hJ, s7, hk, hvs⟩
        refine rx hJ false 6 [] [] (.ok (.code [0, 1, 0, 0, 1, 0, 1, 1, 1, 1]) [.seq [1, 1, 0, 0, 1, 0, 1, 1, 1, 1]] [(2, .pointer (some ⟨b2, 0, none⟩)), (5, .pointer (some ⟨bo5, 0, none⟩)), (24, .slice A len ca), (25, .int .i64 (len : Int)), (26, .int .i64 (k : Int)), (27, .bool (decide ((k : Int) < (len : Int))))] [.box bo5 [.int .i64 x.op, .int .i64 x.k, .int .i64 x.n, .string x.s, .string x.nm, v], .box b3 [.int .i64 vv.k, .int .i64 vv.n, .string vv.s], .box b2 [.int .i64 0, .int .i64 0, .int .i64 0, .string ⟨#[]⟩, .string ⟨#[]⟩, .slice none 0 0], .row v 27 6 (exRows ((x.args.map foldE).take k) vs)] [(b1, 0, [.int .i64 x.op, .int .i64 x.k, .int .i64 x.n, .string x.s, .string x.nm, .slice A len ca])]) trivial trivial (fun _ => by kernel_rfl) ?_
        clear hJ a w; intro a w hJ
        rcases (by omega : k < len ∨ len = k) with hlt | hke
        · obtain ⟨z, hz⟩ : ∃ z, x.args[k]? = some z := ⟨_, List.getElem?_eq_getElem (by omega)⟩
          obtain ⟨u, hu⟩ : ∃ u, ws[k]? = some u := ⟨_, List.getElem?_eq_getElem (by omega)⟩
          have hzu := AllArgs.get hws hz hu
          obtain ⟨Au, nu, cu, rfl⟩ := hzu.slice
          have hzm := szL_mem (List.mem_of_getElem? hz)
          have hzw := hw.list.get (List.mem_of_getElem? hz)
          have hrow : (exRows x.args ws)[k]? = some (exRow z (.slice Au nu cu)) := by show (List.zipWith exRow _ _)[k]? = _; rw [List.getElem?_zipWith, hz, hu]
          have hzp : (x.args.map foldE)[k]? = some (foldE z) := by rw [List.getElem?_map, hz]; rfl
          have hsn := take_snoc' _ k _ hzp
          have hvl := hvs.len
          have hrl2 := exRows_len hvl
          have htl : ((x.args.map foldE).take k).length = k := by rw [List.length_take, List.length_map]; omega
          have hIH := fun H q1 => IH z (.slice Au nu cu) H (by omega) q1 hzw (by omega) (by omega)
          generalize foldE z = zz at *
          refine x_true hJ (t := decide ((k : Int) < (len : Int))) (by kernel_rfl) (decide_eq_true (by omega)) ?_
          refine rx hJ false 6 [] [] (.ok (.ops [0, 0, 0, 1, 1, 0, 0, 1, 0, 1, 1, 1, 1] 0) [.seq [1, 0, 0, 1, 1, 0, 0, 1, 0, 1, 1, 1, 1], .block 1, .seq [1, 1, 1, 0, 0, 1, 0, 1, 1, 1, 1]] [(2, .pointer (some ⟨b2, 0, none⟩)), (5, .pointer (some ⟨bo5, 0, none⟩)), (24, .slice A len ca), (25, .int .i64 (len : Int)), (26, .int .i64 (k : Int)), (27, .bool (decide ((k : Int) < (len : Int))))] [.box bo5 [.int .i64 x.op, .int .i64 x.k, .int .i64 x.n, .string x.s, .string x.nm, v], .box b3 [.int .i64 vv.k, .int .i64 vv.n, .string vv.s], .box b2 [.int .i64 0, .int .i64 0, .int .i64 0, .string ⟨#[]⟩, .string ⟨#[]⟩, .slice none 0 0], .row v 27 6 (exRows ((x.args.map foldE).take k) vs)] [(b1, 0, [.int .i64 x.op, .int .i64 x.k, .int .i64 x.n, .string x.s, .string x.nm, .slice A len ca])]) trivial trivial (fun _ => by kernel_rfl) ?_
          clear hJ a w; intro a w hJ
          obtain ⟨b8, o9, rfl, -, c10⟩ := RS.row hr (hrow)
          replace hJ := hJ.fact (c10.sees (s5.trans s7))
          refine rx hJ false 6 [.ix b8 o9 len ca k, .f 0 0, .own, .b 0 0] [] (.new fun b11 => .ok (.code [1, 0, 0, 1, 1, 0, 0, 1, 0, 1, 1, 1, 1]) [.block 1, .seq [1, 1, 1, 0, 0, 1, 0, 1, 1, 1, 1]] [(2, .pointer (some ⟨b2, 0, none⟩)), (5, .pointer (some ⟨bo5, 0, none⟩)), (24, .slice (some ⟨b8, o9, none⟩) len ca), (25, .int .i64 (len : Int)), (26, .int .i64 (k : Int)), (27, .bool (decide ((k : Int) < (len : Int)))), (28, .pointer (some ⟨b8, o9 + k * 6, none⟩)), (29, .agg #[.int .i64 z.op, .int .i64 z.k, .int .i64 z.n, .string z.s, .string z.nm, .slice Au nu cu]), (7, .pointer (some ⟨b11, 0, none⟩))] [.box b11 [.int .i64 z.op, .int .i64 z.k, .int .i64 z.n, .string z.s, .string z.nm, .slice Au nu cu], .box bo5 [.int .i64 x.op, .int .i64 x.k, .int .i64 x.n, .string x.s, .string x.nm, v], .box b3 [.int .i64 vv.k, .int .i64 vv.n, .string vv.s], .box b2 [.int .i64 0, .int .i64 0, .int .i64 0, .string ⟨#[]⟩, .string ⟨#[]⟩, .slice none 0 0], .row v 27 6 (exRows ((x.args.map foldE).take k) vs)] [(b8, o9 + k * 6, [.int .i64 z.op, .int .i64 z.k, .int .i64 z.n, .string z.s, .string z.nm, .slice Au nu cu]), (b1, 0, [.int .i64 x.op, .int .i64 x.k, .int .i64 x.n, .string x.s, .string x.nm, .slice (some ⟨b8, o9, none⟩) len ca])]) (And.intro (by first | omega | (simp; omega)) (trivial)) trivial (fun b11 _ => by kernel_rfl) ?_
          clear hJ a w; intro b11 a w hJ
          let R : Reg := ⟨⟨70, h.w, h.bad, []⟩, [(0, 30, fun gh => .pointer (some ⟨bo5, 5, none⟩)), (1, 31, fun gh => v), (2, 32, fun gh => .agg #[.int .i64 z.op, .int .i64 z.k, .int .i64 z.n, .string z.s, .string z.nm, .slice Au nu cu]), (3, 33, fun gh => .agg #[.int .i64 zz.op, .int .i64 zz.k, .int .i64 zz.n, .string zz.s, .string zz.nm, .slice (sA (gh 3)) (sN (gh 3)) (sC (gh 3))]), (4, 34, fun gh => .slice (some ⟨(blkOf (gh 4)), 0, none⟩) 1 1), (5, 35, fun gh => .slice (sA (gh 5)) (sN (gh 5)) (sC (gh 5))), (6, 36, fun gh => .pointer (some ⟨bo5, 5, none⟩))], [(2, .pointer (some ⟨b2, 0, none⟩)), (5, .pointer (some ⟨bo5, 0, none⟩)), (24, .slice (some ⟨b8, o9, none⟩) len ca), (25, .int .i64 (len : Int)), (26, .int .i64 (k : Int)), (27, .bool (decide ((k : Int) < (len : Int)))), (28, .pointer (some ⟨b8, o9 + k * 6, none⟩)), (29, .agg #[.int .i64 z.op, .int .i64 z.k, .int .i64 z.n, .string z.s, .string z.nm, .slice Au nu cu]), (7, .pointer (some ⟨b11, 0, none⟩))], [⟨some (.box b11 [.int .i64 z.op, .int .i64 z.k, .int .i64 z.n, .string z.s, .string z.nm, .slice Au nu cu]), []⟩, ⟨some (.box bo5 [.int .i64 x.op, .int .i64 x.k, .int .i64 x.n, .string x.s, .string x.nm, v]), [(7, fun gh => .box bo5 [.int .i64 x.op, .int .i64 x.k, .int .i64 x.n, .string x.s, .string x.nm, .slice (sA (gh 5)) (sN (gh 5)) (sC (gh 5))])]⟩, ⟨some (.box b3 [.int .i64 vv.k, .int .i64 vv.n, .string vv.s]), []⟩, ⟨some (.box b2 [.int .i64 0, .int .i64 0, .int .i64 0, .string ⟨#[]⟩, .string ⟨#[]⟩, .slice none 0 0]), []⟩, ⟨some (.row v 27 6 (exRows ((x.args.map foldE).take k) vs)), [(5, fun gh => .row (.slice (sA (gh 5)) (sN (gh 5)) (sC (gh 5))) 27 6 ((exRows ((x.args.map foldE).take k) vs) ++ [[.int .i64 zz.op, .int .i64 zz.k, .int .i64 zz.n, .string zz.s, .string zz.nm, .slice (sA (gh 3)) (sN (gh 3)) (sC (gh 3))]]))]⟩], [(3, fun gh hh => IsArgs hh zz (.slice (sA (gh 3)) (sN (gh 3)) (sC (gh 3)))), (4, fun gh hh => Cells hh (blkOf (gh 4)) 0 [.int .i64 zz.op, .int .i64 zz.k, .int .i64 zz.n, .string zz.s, .string zz.nm, .slice (sA (gh 3)) (sN (gh 3)) (sC (gh 3))])], [[], [0], [], [2], [2, 3], [0, 1, 2, 3, 4], [0, 1, 2, 3, 4, 5], [0, 1, 2, 3, 4, 5, 6]], h6⟩
          have hmono : ∀ zq ∈ R.F, ∀ zx zh zi, Sees zh zi → zq.2 zx zh → zq.2 zx zi := mono_cons (fun _ _ _ s c => c.sees s) (mono_cons (fun _ _ _ s c => c.sees s) (mono_nil))
          refine x_region (by kernel_rfl) R hJ 8 [.pu, .ld 1 5, .ld 0 0, .cl, .cl, .cl, .pu, .st 1 5] (by kernel_rfl) hmono (fun _ _ _ => by kernel_rfl) (fun hT hA => ?_) ?_
          · clear hJ
            refine And.intro (r_call hT hA hmono ⟨fun _ _ => by kernel_rfl, fun _ _ => by kernel_rfl, fun _ _ => by kernel_rfl⟩ 33 (fun u => .agg #[.int .i64 zz.op, .int .i64 zz.k, .int .i64 zz.n, .string zz.s, .string zz.nm, .slice (sA u) (sN u) (sC u)]) [2] 3 (by kernel_rfl) (by kernel_rfl) (fun _ => by kernel_rfl) 70 (fun gh => #[.agg #[.int .i64 z.op, .int .i64 z.k, .int .i64 z.n, .string z.s, .string z.nm, .slice Au nu cu]]) (fun _ _ => by kernel_rfl) (fun gh H sH fH lent => C0.facts (R := R) (x := gh) (i := 3) (n := 0) (F := (fun u => .agg #[.int .i64 zz.op, .int .i64 zz.k, .int .i64 zz.n, .string zz.s, .string zz.nm, .slice (sA u) (sN u) (sC u)])) (G := fun u hh => IsArgs hh zz (.slice (sA u) (sN u) (sC u))) (f := fun gh hh => IsArgs hh zz (.slice (sA (gh 3)) (sN (gh 3)) (sC (gh 3)))) (hIH _ (hzu.sees (s5.trans (s7.trans sH)))) (by kernel_rfl) (by kernel_rfl) (fun _ _ r => r))) ?_
            refine And.intro (r_fact hT hA hmono ⟨fun _ _ => by kernel_rfl, fun _ _ => by kernel_rfl, fun _ _ => by kernel_rfl⟩ 34 (fun g => .slice (some ⟨g, 0, none⟩) 1 1) [3] 4 (by kernel_rfl) (by kernel_rfl) (fun _ => by kernel_rfl) (fun gh => [.int .i64 zz.op, .int .i64 zz.k, .int .i64 zz.n, .string zz.s, .string zz.nm, .slice (sA (gh 3)) (sN (gh 3)) (sC (gh 3))]) 27 (fun _ _ => by kernel_rfl) (fun gh zb zH zc zj zq zhq zhe => own_fact (i := 4) (k := 1) (f := fun gh hh => Cells hh (blkOf (gh 4)) 0 [.int .i64 zz.op, .int .i64 zz.k, .int .i64 zz.n, .string zz.s, .string zz.nm, .slice (sA (gh 3)) (sN (gh 3)) (sC (gh 3))]) (by kernel_rfl) (by kernel_rfl) zc zj zq zhq zhe)) ?_
            refine And.intro (r_append hT hA hmono ⟨fun _ _ => by kernel_rfl, fun _ _ => by kernel_rfl, fun _ _ => by kernel_rfl⟩ (by kernel_rfl) 35 [1, 3, 4] 5 (by kernel_rfl) (fun _ => by kernel_rfl) 4 ⟨some (.row v 27 6 (exRows ((x.args.map foldE).take k) vs)), [(5, fun gh => .row (.slice (sA (gh 5)) (sN (gh 5)) (sC (gh 5))) 27 6 ((exRows ((x.args.map foldE).take k) vs) ++ [[.int .i64 zz.op, .int .i64 zz.k, .int .i64 zz.n, .string zz.s, .string zz.nm, .slice (sA (gh 3)) (sN (gh 3)) (sC (gh 3))]]))]⟩ (by kernel_rfl) (by kernel_rfl) (by kernel_rfl) (fun gh => v) 25 27 6 (fun gh => exRows ((x.args.map foldE).take k) vs) (fun gh => [[.int .i64 zz.op, .int .i64 zz.k, .int .i64 zz.n, .string zz.s, .string zz.nm, .slice (sA (gh 3)) (sN (gh 3)) (sC (gh 3))]]) (fun _ => by kernel_rfl) (fun _ => by kernel_rfl) (fun _ _ => by kernel_rfl) (.tmp 31) (.tmp 34) (by kernel_rfl) (by kernel_rfl) (fun gh => (blkOf (gh 4))) 1 1 (fun _ => by kernel_rfl) (fun _ => by kernel_rfl) 1 4 (fun gh hh => Cells hh (blkOf (gh 4)) 0 [.int .i64 zz.op, .int .i64 zz.k, .int .i64 zz.n, .string zz.s, .string zz.nm, .slice (sA (gh 3)) (sN (gh 3)) (sC (gh 3))]) (by kernel_rfl) (by kernel_rfl) (fun _ _ c => c) Try.underlying25 (zv := .agg #[.int .i64 0, .int .i64 0, .int .i64 0, .string ⟨#[]⟩, .string ⟨#[]⟩, .slice none 0 0]) (bytes := 80) (by kernel_rfl) (by kernel_rfl) (fun _ => by kernel_rfl) (fun _ => by constructor <;> (rw [hrl2, htl]; omega))) ?_
            trivial
          clear hJ a w; intro gh h14 a w sR hJ1 hF; have s15 : Sees h6 h14 := sR; clear sR
          have hJ : K ⟨70, h.w, h.bad, []⟩ [(2, .pointer (some ⟨b2, 0, none⟩)), (5, .pointer (some ⟨bo5, 0, none⟩)), (24, .slice (some ⟨b8, o9, none⟩) len ca), (25, .int .i64 (len : Int)), (26, .int .i64 (k : Int)), (27, .bool (decide ((k : Int) < (len : Int)))), (28, .pointer (some ⟨b8, o9 + k * 6, none⟩)), (29, .agg #[.int .i64 z.op, .int .i64 z.k, .int .i64 z.n, .string z.s, .string z.nm, .slice Au nu cu]), (7, .pointer (some ⟨b11, 0, none⟩)), (30, .pointer (some ⟨bo5, 5, none⟩)), (31, v), (32, .agg #[.int .i64 z.op, .int .i64 z.k, .int .i64 z.n, .string z.s, .string z.nm, .slice Au nu cu]), (33, .agg #[.int .i64 zz.op, .int .i64 zz.k, .int .i64 zz.n, .string zz.s, .string zz.nm, .slice (sA (gh 3)) (sN (gh 3)) (sC (gh 3))]), (34, .slice (some ⟨(blkOf (gh 4)), 0, none⟩) 1 1), (35, .slice (sA (gh 5)) (sN (gh 5)) (sC (gh 5))), (36, .pointer (some ⟨bo5, 5, none⟩))] [.box b11 [.int .i64 z.op, .int .i64 z.k, .int .i64 z.n, .string z.s, .string z.nm, .slice Au nu cu], .box bo5 [.int .i64 x.op, .int .i64 x.k, .int .i64 x.n, .string x.s, .string x.nm, .slice (sA (gh 5)) (sN (gh 5)) (sC (gh 5))], .box b3 [.int .i64 vv.k, .int .i64 vv.n, .string vv.s], .box b2 [.int .i64 0, .int .i64 0, .int .i64 0, .string ⟨#[]⟩, .string ⟨#[]⟩, .slice none 0 0], .row (.slice (sA (gh 5)) (sN (gh 5)) (sC (gh 5))) 27 6 ((exRows ((x.args.map foldE).take k) vs) ++ [[.int .i64 zz.op, .int .i64 zz.k, .int .i64 zz.n, .string zz.s, .string zz.nm, .slice (sA (gh 3)) (sN (gh 3)) (sC (gh 3))]])] [(b8, o9 + k * 6, [.int .i64 z.op, .int .i64 z.k, .int .i64 z.n, .string z.s, .string z.nm, .slice Au nu cu]), (b1, 0, [.int .i64 x.op, .int .i64 x.k, .int .i64 x.n, .string x.s, .string x.nm, .slice (some ⟨b8, o9, none⟩) len ca])] h14 a w := hJ1.to (by kernel_rfl) (by kernel_rfl) rfl
          have f33 : IsArgs h14 zz (.slice (sA (gh 3)) (sN (gh 3)) (sC (gh 3))) := Reg.fact (i := 3) (f := fun gh hh => IsArgs hh zz (.slice (sA (gh 3)) (sN (gh 3)) (sC (gh 3)))) hF 0 (by kernel_rfl)
          have f12 : Cells h14 (blkOf (gh 4)) 0 [.int .i64 zz.op, .int .i64 zz.k, .int .i64 zz.n, .string zz.s, .string zz.nm, .slice (sA (gh 3)) (sN (gh 3)) (sC (gh 3))] := Reg.fact (i := 4) (f := fun gh hh => Cells hh (blkOf (gh 4)) 0 [.int .i64 zz.op, .int .i64 zz.k, .int .i64 zz.n, .string zz.s, .string zz.nm, .slice (sA (gh 3)) (sN (gh 3)) (sC (gh 3))]) hF 1 (by kernel_rfl)
          replace hJ := hJ.fact f12
          clear hJ1 hF hmono R
          generalize gh 3 = u33 at *
          generalize blkOf (gh 4) = b13 at *
          generalize gh 5 = v35 at *
          clear gh
          refine rx hJ false 6 [] [(37, .int .i64 (IntKind.i64.wrap ((k : Int) + 1)), .int .i64 ((k : Int) + 1))] (.ok (.out .normal) [] [(2, .pointer (some ⟨b2, 0, none⟩)), (5, .pointer (some ⟨bo5, 0, none⟩)), (24, .slice (some ⟨b8, o9, none⟩) len ca), (25, .int .i64 (len : Int)), (27, .bool (decide ((k : Int) < (len : Int)))), (28, .pointer (some ⟨b8, o9 + k * 6, none⟩)), (29, .agg #[.int .i64 z.op, .int .i64 z.k, .int .i64 z.n, .string z.s, .string z.nm, .slice Au nu cu]), (7, .pointer (some ⟨b11, 0, none⟩)), (30, .pointer (some ⟨bo5, 5, none⟩)), (31, v), (32, .agg #[.int .i64 z.op, .int .i64 z.k, .int .i64 z.n, .string z.s, .string z.nm, .slice Au nu cu]), (33, .agg #[.int .i64 zz.op, .int .i64 zz.k, .int .i64 zz.n, .string zz.s, .string zz.nm, .slice (sA u33) (sN u33) (sC u33)]), (34, .slice (some ⟨b13, 0, none⟩) 1 1), (35, .slice (sA v35) (sN v35) (sC v35)), (36, .pointer (some ⟨bo5, 5, none⟩)), (37, .int .i64 ((k : Int) + 1)), (26, .int .i64 ((k : Int) + 1))] [.box b11 [.int .i64 z.op, .int .i64 z.k, .int .i64 z.n, .string z.s, .string z.nm, .slice Au nu cu], .box bo5 [.int .i64 x.op, .int .i64 x.k, .int .i64 x.n, .string x.s, .string x.nm, .slice (sA v35) (sN v35) (sC v35)], .box b3 [.int .i64 vv.k, .int .i64 vv.n, .string vv.s], .box b2 [.int .i64 0, .int .i64 0, .int .i64 0, .string ⟨#[]⟩, .string ⟨#[]⟩, .slice none 0 0], .row (.slice (sA v35) (sN v35) (sC v35)) 27 6 ((exRows ((x.args.map foldE).take k) vs) ++ [[.int .i64 zz.op, .int .i64 zz.k, .int .i64 zz.n, .string zz.s, .string zz.nm, .slice (sA u33) (sN u33) (sC u33)]])] [(b13, 0, [.int .i64 zz.op, .int .i64 zz.k, .int .i64 zz.n, .string zz.s, .string zz.nm, .slice (sA u33) (sN u33) (sC u33)]), (b8, o9 + k * 6, [.int .i64 z.op, .int .i64 z.k, .int .i64 z.n, .string z.s, .string z.nm, .slice Au nu cu]), (b1, 0, [.int .i64 x.op, .int .i64 x.k, .int .i64 x.n, .string x.s, .string x.nm, .slice (some ⟨b8, o9, none⟩) len ca])]) trivial (And.intro (i64_wrap (by omega) (by omega)) (trivial)) (fun _ => by kernel_rfl) ?_
          clear hJ a w; intro a w hJ
          replace hJ := hJ.drop 0
          exact x_round ⟨k + 1, ⟨h14, .slice (sA v35) (sN v35) (sC v35), vs ++ [.slice (sA u33) (sN u33) (sC u33)], (hJ.tof [2] (F' := [(b1, 0, [.int .i64 x.op, .int .i64 x.k, .int .i64 x.n, .string x.s, .string x.nm, .slice (some ⟨b8, o9, none⟩) len ca])]) (by kernel_rfl)).to (by kernel_rfl) (by rw [hsn, exRows_snoc hvl]; rfl) rfl, (s7.trans s15), by omega, by rw [hsn]; exact AllArgs.snoc f33 (hvs.sees s15)⟩, by omega⟩
        · skip
          have hta : (x.args.map foldE).take k = x.args.map foldE := by rw [List.take_of_length_le (by rw [List.length_map]; omega)]
          rw [hta] at hJ hvs
          obtain ⟨A2, c2, hE_v, hc_v, hm_v⟩ := hJ.form (v := v) (e := 27) (k := 6) (l := exRows (x.args.map foldE) vs) 3 (by kernel_rfl)
          rw [hE_v] at hJ
          obtain ⟨h16, s17, fr, hJn⟩ := hJ.frozen (v := .slice A2 ((exRows (x.args.map foldE) vs).length) c2) (e := 27) (k := 6) (l := exRows (x.args.map foldE) vs) 3 (by kernel_rfl) (hJ.j.rowOut0 (v := .slice A2 ((exRows (x.args.map foldE) vs).length) c2) (e := 27) (k := 6) (l := exRows (x.args.map foldE) vs) 3 (by kernel_rfl) rfl); clear hJ; have hJ := hJn; clear hJn
          have hvl := hvs.len
          have hml : (x.args.map foldE).length = len := by rw [List.length_map]; exact hL
          generalize x.args.map foldE = la at *
          have fin : ∀ H, RS H 6 (.slice A2 (exRows la vs).length c2) (exRows la vs) → AllArgs H la vs → IsArgs H (.mk x.op x.k x.n x.s x.nm la) (.slice A2 (exRows la vs).length c2) := fun H q1 q2 => IsArgs.mk (x := .mk x.op x.k x.n x.s x.nm la) q1 q2
          by_cases g17 : x.op = 17
          · have hl3 : len = 3 := by have := hw.top; unfold TopOk at this; rw [hL, g17] at this; rcases this with q | q | q <;> first | omega | exact q.2.2.2.2.2.2
            obtain ⟨y, hy⟩ : ∃ y, la[0]? = some y := ⟨_, List.getElem?_eq_getElem (by omega)⟩
            obtain ⟨uy, huy⟩ : ∃ u, vs[0]? = some u := ⟨_, List.getElem?_eq_getElem (by omega)⟩
            have hyr : (exRows la vs)[0]? = some (exRow y uy) := by show (List.zipWith exRow _ _)[0]? = _; rw [List.getElem?_zipWith, hy, huy]
            have hh0 : hdX la 0 = y := hdX_get hy
            by_cases g1 : y.op = 1
            · skip
              by_cases g2 : y.k = 2
              · have hib : ifB (.mk x.op x.k x.n x.s x.nm la) = true := decide_eq_true ⟨g17, by rw [show Ex.args _ = la from rfl, hh0]; exact g1, by rw [show Ex.args _ = la from rfl, hh0]; exact g2⟩
                obtain ⟨-, -, -, -, i5, i6⟩ := if_parts hwf hib
                rw [show Ex.args (.mk x.op x.k x.n x.s x.nm la) = la from rfl, hh0] at i5 i6
                have e2 : ifE (.mk x.op x.k x.n x.s x.nm la) = hdX la (2 - y.n).toNat := by unfold ifE; rw [if_pos hib, show Ex.args (.mk x.op x.k x.n x.s x.nm la) = la from rfl, hh0]
                rw [e2] at hQ
                generalize hi : (2 - y.n).toNat = i at *
                have hin : 2 - y.n = (i : Int) := by omega
                obtain ⟨z, hz⟩ : ∃ z, la[i]? = some z := ⟨_, List.getElem?_eq_getElem (by omega)⟩
                obtain ⟨u, hu⟩ : ∃ u, vs[i]? = some u := ⟨_, List.getElem?_eq_getElem (by omega)⟩
                rw [hdX_get hz] at hQ
                obtain ⟨Az, nz, cz, rfl⟩ := (AllArgs.get hvs hz hu).slice
                have hzr : (exRows la vs)[i]? = some (exRow z (.slice Az nz cz)) := by show (List.zipWith exRow _ _)[i]? = _; rw [List.getElem?_zipWith, hz, hu]
                have hzu : ∀ H, AllArgs H la vs → IsArgs H z (.slice Az nz cz) := fun H q => AllArgs.get q hz hu
                refine x_false hJ (t := decide ((k : Int) < (len : Int))) (by kernel_rfl) (decide_eq_false (by omega)) ?_
                refine rx hJ false 2 [] [] (.ok (.out (.exit 0)) [] [(2, .pointer (some ⟨b2, 0, none⟩)), (5, .pointer (some ⟨bo5, 0, none⟩)), (24, .slice A len ca), (25, .int .i64 (len : Int)), (26, .int .i64 (k : Int)), (27, .bool (decide ((k : Int) < (len : Int))))] [.box bo5 [.int .i64 x.op, .int .i64 x.k, .int .i64 x.n, .string x.s, .string x.nm, .slice A2 ((exRows la vs).length) c2], .box b3 [.int .i64 vv.k, .int .i64 vv.n, .string vv.s], .box b2 [.int .i64 0, .int .i64 0, .int .i64 0, .string ⟨#[]⟩, .string ⟨#[]⟩, .slice none 0 0]] [(b1, 0, [.int .i64 x.op, .int .i64 x.k, .int .i64 x.n, .string x.s, .string x.nm, .slice A len ca])]) trivial trivial (fun _ => by kernel_rfl) ?_
                clear hJ a w; intro a w hJ
                refine x_leave rfl ?_
                refine rx hJ false 11 [.b 0 0, .b 0 5] [(40, .bool (x.op == 17), .bool true)] (.ok (.ops [0, 0, 1, 1, 1, 1, 1] 6) [.seq [1, 0, 1, 1, 1, 1, 1], .seq [1, 1, 1, 1, 1, 1]] [(2, .pointer (some ⟨b2, 0, none⟩)), (5, .pointer (some ⟨bo5, 0, none⟩)), (41, .bool true), (43, .slice A2 ((exRows la vs).length) c2)] [.box bo5 [.int .i64 x.op, .int .i64 x.k, .int .i64 x.n, .string x.s, .string x.nm, .slice A2 ((exRows la vs).length) c2], .box b3 [.int .i64 vv.k, .int .i64 vv.n, .string vv.s], .box b2 [.int .i64 0, .int .i64 0, .int .i64 0, .string ⟨#[]⟩, .string ⟨#[]⟩, .slice none 0 0]] [(b1, 0, [.int .i64 x.op, .int .i64 x.k, .int .i64 x.n, .string x.s, .string x.nm, .slice A len ca])]) trivial (And.intro (congrArg Value.bool (beq_iff_eq.2 g17)) (trivial)) (fun _ => by kernel_rfl) ?_
                clear hJ a w; intro a w hJ
                obtain ⟨b18, o19, rfl, -, c20⟩ := RS.row fr (hyr)
                replace hJ := hJ.fact (c20.sees (Sees.refl _))
                refine rx hJ false 8 [.ix b18 o19 ((exRows la vs).length) c2 0, .f 0 0, .b 0 5] [(47, .bool (y.op == 1), .bool true)] (.ok (.ops [0, 0, 1, 1, 1, 1, 1] 14) [.seq [1, 0, 1, 1, 1, 1, 1], .seq [1, 1, 1, 1, 1, 1]] [(2, .pointer (some ⟨b2, 0, none⟩)), (5, .pointer (some ⟨bo5, 0, none⟩)), (49, .bool true), (51, .slice (some ⟨b18, o19, none⟩) ((exRows la vs).length) c2)] [.box bo5 [.int .i64 x.op, .int .i64 x.k, .int .i64 x.n, .string x.s, .string x.nm, .slice (some ⟨b18, o19, none⟩) ((exRows la vs).length) c2], .box b3 [.int .i64 vv.k, .int .i64 vv.n, .string vv.s], .box b2 [.int .i64 0, .int .i64 0, .int .i64 0, .string ⟨#[]⟩, .string ⟨#[]⟩, .slice none 0 0]] [(b18, o19 + 0 * 6, [.int .i64 y.op, .int .i64 y.k, .int .i64 y.n, .string y.s, .string y.nm, uy]), (b1, 0, [.int .i64 x.op, .int .i64 x.k, .int .i64 x.n, .string x.s, .string x.nm, .slice A len ca])]) (And.intro (by first | omega | (simp; omega)) (trivial)) (And.intro (congrArg Value.bool (beq_iff_eq.2 g1)) (trivial)) (fun _ => by kernel_rfl) ?_
                clear hJ a w; intro a w hJ
                have c21 := RS.cell fr (hyr)
                replace hJ := hJ.fact (c21.sees (Sees.refl _))
                refine rx hJ false 10 [.ix b18 o19 ((exRows la vs).length) c2 0, .f 0 1] [(56, .bool (y.k == 2), .bool true)] (.ok (.code [0, 0, 1, 0, 1, 1, 1, 1, 1]) [.seq [1, 0, 1, 0, 1, 1, 1, 1, 1], .seq [1, 1, 1, 1, 1, 1]] [(2, .pointer (some ⟨b2, 0, none⟩)), (5, .pointer (some ⟨bo5, 0, none⟩))] [.box bo5 [.int .i64 x.op, .int .i64 x.k, .int .i64 x.n, .string x.s, .string x.nm, .slice (some ⟨b18, o19, none⟩) ((exRows la vs).length) c2], .box b3 [.int .i64 vv.k, .int .i64 vv.n, .string vv.s], .box b2 [.int .i64 0, .int .i64 0, .int .i64 0, .string ⟨#[]⟩, .string ⟨#[]⟩, .slice none 0 0]] [(b18, o19 + 0 * 6, [.int .i64 y.op, .int .i64 y.k, .int .i64 y.n, .string y.s, .string y.nm, uy]), (b18, o19 + 0 * 6, [.int .i64 y.op, .int .i64 y.k, .int .i64 y.n, .string y.s, .string y.nm, uy]), (b1, 0, [.int .i64 x.op, .int .i64 x.k, .int .i64 x.n, .string x.s, .string x.nm, .slice A len ca])]) (And.intro (by first | omega | (simp; omega)) (trivial)) (And.intro (congrArg Value.bool (beq_iff_eq.2 g2)) (trivial)) (fun _ => by kernel_rfl) ?_
                clear hJ a w; intro a w hJ
                have c22 := RS.cell fr (hyr)
                replace hJ := hJ.fact (c22.sees (Sees.refl _))
                have c23 := RS.cell fr (hzr)
                replace hJ := hJ.fact (c23.sees (Sees.refl _))
                let R : Reg := ⟨⟨70, h.w, h.bad, []⟩, [(0, 58, fun gh => .pointer (some ⟨bo5, 5, none⟩)), (1, 59, fun gh => .slice (some ⟨b18, o19, none⟩) ((exRows la vs).length) c2), (2, 60, fun gh => .pointer (some ⟨bo5, 5, none⟩)), (3, 61, fun gh => .slice (some ⟨b18, o19, none⟩) ((exRows la vs).length) c2), (4, 62, fun gh => .pointer (some ⟨b18, o19 + 0 * 6, none⟩)), (5, 63, fun gh => .pointer (some ⟨b18, o19 + 0 * 6 + 1, none⟩)), (6, 64, fun gh => .pointer (some ⟨b18, o19 + 0 * 6 + 2, none⟩)), (7, 65, fun gh => .int .i64 y.n), (8, 66, fun gh => .int .i64 (i : Int)), (9, 67, fun gh => .pointer (some ⟨b18, o19 + i * 6, none⟩)), (10, 68, fun gh => .agg #[.int .i64 z.op, .int .i64 z.k, .int .i64 z.n, .string z.s, .string z.nm, .slice Az nz cz])], [(2, .pointer (some ⟨b2, 0, none⟩)), (5, .pointer (some ⟨bo5, 0, none⟩))], [⟨some (.box bo5 [.int .i64 x.op, .int .i64 x.k, .int .i64 x.n, .string x.s, .string x.nm, .slice (some ⟨b18, o19, none⟩) ((exRows la vs).length) c2]), []⟩, ⟨some (.box b3 [.int .i64 vv.k, .int .i64 vv.n, .string vv.s]), []⟩, ⟨some (.box b2 [.int .i64 0, .int .i64 0, .int .i64 0, .string ⟨#[]⟩, .string ⟨#[]⟩, .slice none 0 0]), [(11, fun gh => .box b2 [.int .i64 z.op, .int .i64 z.k, .int .i64 z.n, .string z.s, .string z.nm, .slice Az nz cz])]⟩], [], [[], [0], [], [2], [2, 3], [2, 3, 4], [2, 3, 4, 5], [2, 3, 4, 5, 6], [2, 3, 4, 5, 6, 7], [0, 1, 2, 3, 4, 5, 6, 7, 8], [0, 1, 2, 3, 4, 5, 6, 7, 8, 9], [0, 1, 2, 3, 4, 5, 6, 7, 8, 9, 10]], h16⟩
                have hmono : ∀ zq ∈ R.F, ∀ zx zh zi, Sees zh zi → zq.2 zx zh → zq.2 zx zi := mono_nil
                refine x_region (by kernel_rfl) R hJ 12 [.pu, .ld 0 5, .pu, .ld 0 5, .cl, .pu, .pu, .lf 1 2, .cl, .cl, .lf 0 0, .st 2 0] (by kernel_rfl) hmono (fun _ _ _ => by kernel_rfl) (fun hT hA => ?_) ?_
                · clear hJ
                  refine And.intro (r_pure hT hA 62 (fun gh => .pointer (some ⟨b18, o19 + 0 * 6, none⟩)) [3] 4 (by kernel_rfl) (by kernel_rfl) (by kernel_rfl) (fun _ => by kernel_rfl) (fun gh w => run_indexAddr (t := 25) (x := (.tmp 61)) (y := (.const (.int .i64 0))) (b := b18) (off := o19) (n := ((exRows la vs).length)) (cap := c2) (k := 0) (e := 27) (kk := 6) (by kernel_rfl) (by kernel_rfl) (by kernel_rfl) (by first | omega | (simp; omega)) Try.underlying25 (by kernel_rfl))) ?_
                  refine And.intro (r_pure hT hA 66 (fun gh => .int .i64 (i : Int)) [7] 8 (by kernel_rfl) (by kernel_rfl) (by kernel_rfl) (fun _ => by kernel_rfl) (fun gh w => run_eq (v0 := .int .i64 (IntKind.i64.wrap (2 - y.n))) (by kernel_rfl) ((i64_wrap (by omega) (by omega)).trans (congrArg (Value.int .i64) hin)))) ?_
                  refine And.intro (r_pure hT hA 67 (fun gh => .pointer (some ⟨b18, o19 + i * 6, none⟩)) [1, 8] 9 (by kernel_rfl) (by kernel_rfl) (by kernel_rfl) (fun _ => by kernel_rfl) (fun gh w => run_indexAddr (t := 25) (x := (.tmp 59)) (y := (.tmp 66)) (b := b18) (off := o19) (n := ((exRows la vs).length)) (cap := c2) (k := i) (e := 27) (kk := 6) (by kernel_rfl) (by kernel_rfl) (by kernel_rfl) (by first | omega | (simp; omega)) Try.underlying25 (by kernel_rfl))) ?_
                  trivial
                clear hJ a w; intro gh h24 a w sR hJ1 hF; have s25 : Sees h16 h24 := sR; clear sR
                have hJ : K ⟨70, h.w, h.bad, []⟩ [(2, .pointer (some ⟨b2, 0, none⟩)), (5, .pointer (some ⟨bo5, 0, none⟩))] [.box bo5 [.int .i64 x.op, .int .i64 x.k, .int .i64 x.n, .string x.s, .string x.nm, .slice (some ⟨b18, o19, none⟩) ((exRows la vs).length) c2], .box b3 [.int .i64 vv.k, .int .i64 vv.n, .string vv.s], .box b2 [.int .i64 z.op, .int .i64 z.k, .int .i64 z.n, .string z.s, .string z.nm, .slice Az nz cz]] [(b18, o19 + i * 6, [.int .i64 z.op, .int .i64 z.k, .int .i64 z.n, .string z.s, .string z.nm, .slice Az nz cz]), (b18, o19 + 0 * 6, [.int .i64 y.op, .int .i64 y.k, .int .i64 y.n, .string y.s, .string y.nm, uy]), (b18, o19 + 0 * 6, [.int .i64 y.op, .int .i64 y.k, .int .i64 y.n, .string y.s, .string y.nm, uy]), (b18, o19 + 0 * 6, [.int .i64 y.op, .int .i64 y.k, .int .i64 y.n, .string y.s, .string y.nm, uy]), (b1, 0, [.int .i64 x.op, .int .i64 x.k, .int .i64 x.n, .string x.s, .string x.nm, .slice A len ca])] h24 a w := hJ1.to (by kernel_rfl) (by kernel_rfl) rfl
                clear hJ1 hF hmono R
                clear gh
                refine rx hJ false 3 [] [] (.ok (.out .ret) [] [(2, .pointer (some ⟨b2, 0, none⟩))] [.box bo5 [.int .i64 x.op, .int .i64 x.k, .int .i64 x.n, .string x.s, .string x.nm, .slice (some ⟨b18, o19, none⟩) ((exRows la vs).length) c2], .box b3 [.int .i64 vv.k, .int .i64 vv.n, .string vv.s], .box b2 [.int .i64 z.op, .int .i64 z.k, .int .i64 z.n, .string z.s, .string z.nm, .slice Az nz cz]] [(b18, o19 + i * 6, [.int .i64 z.op, .int .i64 z.k, .int .i64 z.n, .string z.s, .string z.nm, .slice Az nz cz]), (b18, o19 + 0 * 6, [.int .i64 y.op, .int .i64 y.k, .int .i64 y.n, .string y.s, .string y.nm, uy]), (b18, o19 + 0 * 6, [.int .i64 y.op, .int .i64 y.k, .int .i64 y.n, .string y.s, .string y.nm, uy]), (b18, o19 + 0 * 6, [.int .i64 y.op, .int .i64 y.k, .int .i64 y.n, .string y.s, .string y.nm, uy]), (b1, 0, [.int .i64 x.op, .int .i64 x.k, .int .i64 x.n, .string x.s, .string x.nm, .slice A len ca])]) trivial trivial (fun _ => by kernel_rfl) ?_
                clear hJ a w; intro a w hJ
                refine x_end (hQ [.agg #[.int .i64 z.op, .int .i64 z.k, .int .i64 z.n, .string z.s, .string z.nm, .slice Az nz cz]] _ [] hJ (.rcell hJ.j 2 rfl (by kernel_rfl) (by kernel_rfl) .nil) (no_own _) rfl ?_).1
                exact ⟨.slice Az nz cz, rfl, hzu _ (hvs.sees (s17.trans (s25.trans hJ.j.out)))⟩
              · skip
                have e2 : ifE (.mk x.op x.k x.n x.s x.nm la) = .mk x.op x.k x.n x.s x.nm la := by unfold ifE ifB; rw [if_neg]; rw [decide_eq_true_eq]; rintro ⟨-, -, q⟩; exact g2 (by rw [← hh0]; exact q)
                rw [e2] at hQ
                refine x_false hJ (t := decide ((k : Int) < (len : Int))) (by kernel_rfl) (decide_eq_false (by omega)) ?_
                refine rx hJ false 2 [] [] (.ok (.out (.exit 0)) [] [(2, .pointer (some ⟨b2, 0, none⟩)), (5, .pointer (some ⟨bo5, 0, none⟩)), (24, .slice A len ca), (25, .int .i64 (len : Int)), (26, .int .i64 (k : Int)), (27, .bool (decide ((k : Int) < (len : Int))))] [.box bo5 [.int .i64 x.op, .int .i64 x.k, .int .i64 x.n, .string x.s, .string x.nm, .slice A2 ((exRows la vs).length) c2], .box b3 [.int .i64 vv.k, .int .i64 vv.n, .string vv.s], .box b2 [.int .i64 0, .int .i64 0, .int .i64 0, .string ⟨#[]⟩, .string ⟨#[]⟩, .slice none 0 0]] [(b1, 0, [.int .i64 x.op, .int .i64 x.k, .int .i64 x.n, .string x.s, .string x.nm, .slice A len ca])]) trivial trivial (fun _ => by kernel_rfl) ?_
                clear hJ a w; intro a w hJ
                refine x_leave rfl ?_
                refine rx hJ false 11 [.b 0 0, .b 0 5] [(40, .bool (x.op == 17), .bool true)] (.ok (.ops [0, 0, 1, 1, 1, 1, 1] 6) [.seq [1, 0, 1, 1, 1, 1, 1], .seq [1, 1, 1, 1, 1, 1]] [(2, .pointer (some ⟨b2, 0, none⟩)), (5, .pointer (some ⟨bo5, 0, none⟩)), (41, .bool true), (43, .slice A2 ((exRows la vs).length) c2)] [.box bo5 [.int .i64 x.op, .int .i64 x.k, .int .i64 x.n, .string x.s, .string x.nm, .slice A2 ((exRows la vs).length) c2], .box b3 [.int .i64 vv.k, .int .i64 vv.n, .string vv.s], .box b2 [.int .i64 0, .int .i64 0, .int .i64 0, .string ⟨#[]⟩, .string ⟨#[]⟩, .slice none 0 0]] [(b1, 0, [.int .i64 x.op, .int .i64 x.k, .int .i64 x.n, .string x.s, .string x.nm, .slice A len ca])]) trivial (And.intro (congrArg Value.bool (beq_iff_eq.2 g17)) (trivial)) (fun _ => by kernel_rfl) ?_
                clear hJ a w; intro a w hJ
                obtain ⟨b26, o27, rfl, -, c28⟩ := RS.row fr (hyr)
                replace hJ := hJ.fact (c28.sees (Sees.refl _))
                refine rx hJ false 8 [.ix b26 o27 ((exRows la vs).length) c2 0, .f 0 0, .b 0 5] [(47, .bool (y.op == 1), .bool true)] (.ok (.ops [0, 0, 1, 1, 1, 1, 1] 14) [.seq [1, 0, 1, 1, 1, 1, 1], .seq [1, 1, 1, 1, 1, 1]] [(2, .pointer (some ⟨b2, 0, none⟩)), (5, .pointer (some ⟨bo5, 0, none⟩)), (49, .bool true), (51, .slice (some ⟨b26, o27, none⟩) ((exRows la vs).length) c2)] [.box bo5 [.int .i64 x.op, .int .i64 x.k, .int .i64 x.n, .string x.s, .string x.nm, .slice (some ⟨b26, o27, none⟩) ((exRows la vs).length) c2], .box b3 [.int .i64 vv.k, .int .i64 vv.n, .string vv.s], .box b2 [.int .i64 0, .int .i64 0, .int .i64 0, .string ⟨#[]⟩, .string ⟨#[]⟩, .slice none 0 0]] [(b26, o27 + 0 * 6, [.int .i64 y.op, .int .i64 y.k, .int .i64 y.n, .string y.s, .string y.nm, uy]), (b1, 0, [.int .i64 x.op, .int .i64 x.k, .int .i64 x.n, .string x.s, .string x.nm, .slice A len ca])]) (And.intro (by first | omega | (simp; omega)) (trivial)) (And.intro (congrArg Value.bool (beq_iff_eq.2 g1)) (trivial)) (fun _ => by kernel_rfl) ?_
                clear hJ a w; intro a w hJ
                have c29 := RS.cell fr (hyr)
                replace hJ := hJ.fact (c29.sees (Sees.refl _))
                refine rx hJ false 18 [.ix b26 o27 ((exRows la vs).length) c2 0, .f 0 1, .b 0 0, .b 2 0] [(56, .bool (y.k == 2), .bool false)] (.ok (.out .ret) [] [(2, .pointer (some ⟨b2, 0, none⟩))] [.box bo5 [.int .i64 x.op, .int .i64 x.k, .int .i64 x.n, .string x.s, .string x.nm, .slice (some ⟨b26, o27, none⟩) ((exRows la vs).length) c2], .box b3 [.int .i64 vv.k, .int .i64 vv.n, .string vv.s], .box b2 [.int .i64 x.op, .int .i64 x.k, .int .i64 x.n, .string x.s, .string x.nm, .slice (some ⟨b26, o27, none⟩) ((exRows la vs).length) c2]] [(b26, o27 + 0 * 6, [.int .i64 y.op, .int .i64 y.k, .int .i64 y.n, .string y.s, .string y.nm, uy]), (b26, o27 + 0 * 6, [.int .i64 y.op, .int .i64 y.k, .int .i64 y.n, .string y.s, .string y.nm, uy]), (b1, 0, [.int .i64 x.op, .int .i64 x.k, .int .i64 x.n, .string x.s, .string x.nm, .slice A len ca])]) (And.intro (by first | omega | (simp; omega)) (trivial)) (And.intro (congrArg Value.bool (beq_eq_false_iff_ne.2 g2)) (trivial)) (fun _ => by kernel_rfl) ?_
                clear hJ a w; intro a w hJ
                refine x_end (hQ [.agg #[.int .i64 x.op, .int .i64 x.k, .int .i64 x.n, .string x.s, .string x.nm, .slice (some ⟨b26, o27, none⟩) ((exRows la vs).length) c2]] _ [] hJ (.rcell hJ.j 2 rfl (by kernel_rfl) (by kernel_rfl) .nil) (no_own _) rfl ?_).1
                exact ⟨.slice _ _ _, rfl, fin _ (fr.sees hJ.j.out) (hvs.sees (s17.trans hJ.j.out))⟩
            · skip
              have e2 : ifE (.mk x.op x.k x.n x.s x.nm la) = .mk x.op x.k x.n x.s x.nm la := by unfold ifE ifB; rw [if_neg]; rw [decide_eq_true_eq]; rintro ⟨-, q, -⟩; exact g1 (by rw [← hh0]; exact q)
              rw [e2] at hQ
              refine x_false hJ (t := decide ((k : Int) < (len : Int))) (by kernel_rfl) (decide_eq_false (by omega)) ?_
              refine rx hJ false 2 [] [] (.ok (.out (.exit 0)) [] [(2, .pointer (some ⟨b2, 0, none⟩)), (5, .pointer (some ⟨bo5, 0, none⟩)), (24, .slice A len ca), (25, .int .i64 (len : Int)), (26, .int .i64 (k : Int)), (27, .bool (decide ((k : Int) < (len : Int))))] [.box bo5 [.int .i64 x.op, .int .i64 x.k, .int .i64 x.n, .string x.s, .string x.nm, .slice A2 ((exRows la vs).length) c2], .box b3 [.int .i64 vv.k, .int .i64 vv.n, .string vv.s], .box b2 [.int .i64 0, .int .i64 0, .int .i64 0, .string ⟨#[]⟩, .string ⟨#[]⟩, .slice none 0 0]] [(b1, 0, [.int .i64 x.op, .int .i64 x.k, .int .i64 x.n, .string x.s, .string x.nm, .slice A len ca])]) trivial trivial (fun _ => by kernel_rfl) ?_
              clear hJ a w; intro a w hJ
              refine x_leave rfl ?_
              refine rx hJ false 11 [.b 0 0, .b 0 5] [(40, .bool (x.op == 17), .bool true)] (.ok (.ops [0, 0, 1, 1, 1, 1, 1] 6) [.seq [1, 0, 1, 1, 1, 1, 1], .seq [1, 1, 1, 1, 1, 1]] [(2, .pointer (some ⟨b2, 0, none⟩)), (5, .pointer (some ⟨bo5, 0, none⟩)), (41, .bool true), (43, .slice A2 ((exRows la vs).length) c2)] [.box bo5 [.int .i64 x.op, .int .i64 x.k, .int .i64 x.n, .string x.s, .string x.nm, .slice A2 ((exRows la vs).length) c2], .box b3 [.int .i64 vv.k, .int .i64 vv.n, .string vv.s], .box b2 [.int .i64 0, .int .i64 0, .int .i64 0, .string ⟨#[]⟩, .string ⟨#[]⟩, .slice none 0 0]] [(b1, 0, [.int .i64 x.op, .int .i64 x.k, .int .i64 x.n, .string x.s, .string x.nm, .slice A len ca])]) trivial (And.intro (congrArg Value.bool (beq_iff_eq.2 g17)) (trivial)) (fun _ => by kernel_rfl) ?_
              clear hJ a w; intro a w hJ
              obtain ⟨b30, o31, rfl, -, c32⟩ := RS.row fr (hyr)
              replace hJ := hJ.fact (c32.sees (Sees.refl _))
              refine rx hJ false 26 [.ix b30 o31 ((exRows la vs).length) c2 0, .f 0 0, .b 0 0, .b 2 0] [(47, .bool (y.op == 1), .bool false)] (.ok (.out .ret) [] [(2, .pointer (some ⟨b2, 0, none⟩))] [.box bo5 [.int .i64 x.op, .int .i64 x.k, .int .i64 x.n, .string x.s, .string x.nm, .slice (some ⟨b30, o31, none⟩) ((exRows la vs).length) c2], .box b3 [.int .i64 vv.k, .int .i64 vv.n, .string vv.s], .box b2 [.int .i64 x.op, .int .i64 x.k, .int .i64 x.n, .string x.s, .string x.nm, .slice (some ⟨b30, o31, none⟩) ((exRows la vs).length) c2]] [(b30, o31 + 0 * 6, [.int .i64 y.op, .int .i64 y.k, .int .i64 y.n, .string y.s, .string y.nm, uy]), (b1, 0, [.int .i64 x.op, .int .i64 x.k, .int .i64 x.n, .string x.s, .string x.nm, .slice A len ca])]) (And.intro (by first | omega | (simp; omega)) (trivial)) (And.intro (congrArg Value.bool (beq_eq_false_iff_ne.2 g1)) (trivial)) (fun _ => by kernel_rfl) ?_
              clear hJ a w; intro a w hJ
              refine x_end (hQ [.agg #[.int .i64 x.op, .int .i64 x.k, .int .i64 x.n, .string x.s, .string x.nm, .slice (some ⟨b30, o31, none⟩) ((exRows la vs).length) c2]] _ [] hJ (.rcell hJ.j 2 rfl (by kernel_rfl) (by kernel_rfl) .nil) (no_own _) rfl ?_).1
              exact ⟨.slice _ _ _, rfl, fin _ (fr.sees hJ.j.out) (hvs.sees (s17.trans hJ.j.out))⟩
          · skip
            have e2 : ifE (.mk x.op x.k x.n x.s x.nm la) = .mk x.op x.k x.n x.s x.nm la := by unfold ifE ifB; rw [if_neg]; rw [decide_eq_true_eq]; rintro ⟨q, -⟩; exact g17 q
            rw [e2] at hQ
            refine x_false hJ (t := decide ((k : Int) < (len : Int))) (by kernel_rfl) (decide_eq_false (by omega)) ?_
            refine rx hJ false 2 [] [] (.ok (.out (.exit 0)) [] [(2, .pointer (some ⟨b2, 0, none⟩)), (5, .pointer (some ⟨bo5, 0, none⟩)), (24, .slice A len ca), (25, .int .i64 (len : Int)), (26, .int .i64 (k : Int)), (27, .bool (decide ((k : Int) < (len : Int))))] [.box bo5 [.int .i64 x.op, .int .i64 x.k, .int .i64 x.n, .string x.s, .string x.nm, .slice A2 ((exRows la vs).length) c2], .box b3 [.int .i64 vv.k, .int .i64 vv.n, .string vv.s], .box b2 [.int .i64 0, .int .i64 0, .int .i64 0, .string ⟨#[]⟩, .string ⟨#[]⟩, .slice none 0 0]] [(b1, 0, [.int .i64 x.op, .int .i64 x.k, .int .i64 x.n, .string x.s, .string x.nm, .slice A len ca])]) trivial trivial (fun _ => by kernel_rfl) ?_
            clear hJ a w; intro a w hJ
            refine x_leave rfl ?_
            refine rx hJ false 37 [.b 0 0, .b 0 0, .b 2 0] [(40, .bool (x.op == 17), .bool false)] (.ok (.out .ret) [] [(2, .pointer (some ⟨b2, 0, none⟩))] [.box bo5 [.int .i64 x.op, .int .i64 x.k, .int .i64 x.n, .string x.s, .string x.nm, .slice A2 ((exRows la vs).length) c2], .box b3 [.int .i64 vv.k, .int .i64 vv.n, .string vv.s], .box b2 [.int .i64 x.op, .int .i64 x.k, .int .i64 x.n, .string x.s, .string x.nm, .slice A2 ((exRows la vs).length) c2]] [(b1, 0, [.int .i64 x.op, .int .i64 x.k, .int .i64 x.n, .string x.s, .string x.nm, .slice A len ca])]) trivial (And.intro (congrArg Value.bool (beq_eq_false_iff_ne.2 g17)) (trivial)) (fun _ => by kernel_rfl) ?_
            clear hJ a w; intro a w hJ
            refine x_end (hQ [.agg #[.int .i64 x.op, .int .i64 x.k, .int .i64 x.n, .string x.s, .string x.nm, .slice A2 ((exRows la vs).length) c2]] _ [] hJ (.rcell hJ.j 2 rfl (by kernel_rfl) (by kernel_rfl) .nil) (no_own _) rfl ?_).1
            exact ⟨.slice _ _ _, rfl, fin _ (fr.sees hJ.j.out) (hvs.sees (s17.trans hJ.j.out))⟩

theorem fold_rec : ∀ m, FoldTo m
  | 0 => fun x v h hm _ _ _ _ => by have := szE_pos x; omega
  | m + 1 => fold_step m (fold_rec m)
theorem fold_any (x : Ex) (v : Value) (h : Vw) (hx : IsArgs h x v) (hw : WfE x) (hb : (szE x).1 ≤ 60) (hb2 : (szE x).2 ≤ 12) :
    C0 Try.prog 70 #[.agg #[.int .i64 x.op, .int .i64 x.k, .int .i64 x.n, .string x.s, .string x.nm, v]] h (fun r h' => ∃ u, r = .agg #[.int .i64 (foldE x).op, .int .i64 (foldE x).k, .int .i64 (foldE x).n, .string (foldE x).s, .string (foldE x).nm, .slice (sA u) (sN u) (sC u)] ∧ IsArgs h' (foldE x) (.slice (sA u) (sN u) (sC u))) := fold_rec _ x v h (Nat.le_refl _) hx hw hb hb2

theorem foldX_any (x : Ex) (v : Value) (h : Vw) (hx : IsArgs h x v) (hw : WfE x) (hb : (szE x).1 ≤ 60) (hb2 : (szE x).2 ≤ 12) :
    C0 Try.prog 36 #[.agg #[.int .i64 x.op, .int .i64 x.k, .int .i64 x.n, .string x.s, .string x.nm, v]] h (fun r h' => ∃ u, r = .tuple #[.agg #[.int .i64 (foldE x).op, .int .i64 (foldE x).k, .int .i64 (foldE x).n, .string (foldE x).s, .string (foldE x).nm, .slice (sA u) (sN u) (sC u)], .int .i64 0] ∧ IsArgs h' (foldE x) (.slice (sA u) (sN u) (sC u))) := by
  obtain ⟨A, na, ca, rfl⟩ := hx.slice
  have hck := fun H hq => check_any x (.slice A na ca) H hq hw (by omega)
  rw [show chkE x = 0 from by unfold chkE; rw [if_neg (by omega), if_neg (by omega)]] at hck
  have hfo := fun H q => fold_any x (.slice A na ca) H q hw hb hb2
  generalize foldE x = y at *
  refine x_con Try.func36 (c := Try.f36.body.getD .skip) (by kernel_rfl) (N := 13) rfl (by kernel_rfl) ?_
  intro hbx hbad Q hQ a w hJ
  replace hJ : K ⟨13, h.w, h.bad, []⟩ [(0, .agg #[.int .i64 x.op, .int .i64 x.k, .int .i64 x.n, .string x.s, .string x.nm, .slice A na ca])] [] [] h a w := hJ.to (by kernel_rfl) (by kernel_rfl) rfl
  refine rx hJ false 27 [.own, .own, .b 1 0, .cl 41 #[.agg #[.int .i64 x.op, .int .i64 x.k, .int .i64 x.n, .string x.s, .string x.nm, .slice A na ca]] (.int .i64 0), .b 1 0] [] (.new fun b1 => .new fun b2 => .ok (.ops [0, 1, 1] 1) [.seq [1, 1, 1]] [(2, .pointer (some ⟨b2, 0, none⟩)), (3, .int .i64 0), (11, .agg #[.int .i64 x.op, .int .i64 x.k, .int .i64 x.n, .string x.s, .string x.nm, .slice A na ca])] [.box b2 [.int .i64 0, .int .i64 0, .int .i64 0, .string ⟨#[]⟩, .string ⟨#[]⟩, .slice none 0 0], .box b1 [.int .i64 x.op, .int .i64 x.k, .int .i64 x.n, .string x.s, .string x.nm, .slice A na ca]] []) (And.intro (fun H sH => hck _ (hx.sees sH)) (trivial)) trivial (fun b1 b2 _ => by kernel_rfl) ?_
  clear hJ a w; intro b1 b2 a w hJ
  refine x_call hJ 12 (hfo _ (hx.sees hJ.j.sees)) (fun _ => by kernel_rfl) ?_; clear hJ a w; rintro _ h3 a w s4 ⟨u, rfl, hy⟩ hJ
  refine rx hJ false 5 [.b 0 0] [] (.ok (.out .ret) [] [(2, .pointer (some ⟨b2, 0, none⟩)), (3, .int .i64 0)] [.box b2 [.int .i64 y.op, .int .i64 y.k, .int .i64 y.n, .string y.s, .string y.nm, .slice (sA u) (sN u) (sC u)], .box b1 [.int .i64 x.op, .int .i64 x.k, .int .i64 x.n, .string x.s, .string x.nm, .slice A na ca]] []) trivial trivial (fun _ => by kernel_rfl) ?_
  clear hJ a w; intro a w hJ
  refine x_end (hQ [.agg #[.int .i64 y.op, .int .i64 y.k, .int .i64 y.n, .string y.s, .string y.nm, .slice (sA u) (sN u) (sC u)], .int .i64 0] _ [] hJ (.rcell hJ.j 0 rfl (by kernel_rfl) (by kernel_rfl) (.rtmp hJ.j (by kernel_rfl) .nil)) (no_own _) rfl ?_).1
  exact ⟨u, rfl, (hy.sees hJ.j.out)⟩

end Go.Proofs.Ytgjndkphfabnnaa
