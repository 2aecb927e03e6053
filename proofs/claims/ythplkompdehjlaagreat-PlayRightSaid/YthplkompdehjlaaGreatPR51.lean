/-
  Contracts of net.Lose, and of slices.Clone at letters, as walks by certificates want them.
-/
import Derived.Test.YthplkompdehjlaaGreatPR50
namespace Go.Proofs.YthplkompdehjlaaGreat
open Go.RowKit
set_option linter.unusedVariables false
theorem C0.of_lownL {P:Program} {f:FuncId} {args:Array Value} {l:List Ltr} {h:Vw} (hc:Calls P f args h.w (LOwn l h.w)):C0 P f args h (λv h'=>∃ u,v=.tuple #[sL u,Vi 0] /\ RS h' 8 (sL u) (lcs l)):=by
 intro _ _ _ hbad;refine hc.mono ?_;rintro en w' ⟨v,rfl,ho,hb⟩;have hr:=rs_of_own (bad:=h.bad) ho (lcs_len l) hbad;obtain ⟨A,c,rfl,-⟩:=hr.form;exact ⟨_,[],rfl,Low.of_below hb.below,(λx hx=>by cases hx),rfl,.slice A (lcs l).length c,rfl,hr⟩
section
variable {h:Vw} {v v':Value} {l:List Ltr}
theorem c_loseL (hr:RS h 8 v (lcs l)) (hl:l.length <= 24) (hok:∀ x∈l,OkL x) (i:Nat) (hi:i < l.length):C0 Tryz.prog 81 #[v,Vi (i:Int)] h (λr h'=>∃ u,r=.tuple #[sL u,Vi 0] /\ RS h' 8 (sL u) (lcs (l.eraseIdx i))) :=
 C0.of_lownL (net_lose v l i h.w (Sl.of_rs hr) hl hok hi)
theorem c_cloneL0 (hr:RS h 8 v (lcs l)) (hl:l.length <= 1000000):CRow Tryz.prog 105 #[v] h 66 8 (λ_ rows=>rows=lcs l) :=
 CRow.of_own (lcs_len l) (clone_ltr v (lcs l) h.w (Sl.of_rs hr) (lcs_len _) (lcs_one _) (by simp; omega))
end
end Go.Proofs.YthplkompdehjlaaGreat
