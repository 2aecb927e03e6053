/-
  The call that expr.Parse defers, where nothing was thrown up.
-/
import Derived.Test.YthgcgciceejicaaGreatDoorZC26
namespace Go.Proofs.YthgcgciceejicaaGreatDoor
open Go.RowKit
set_option linter.unusedVariables false
theorem prs_idle (args:Array Value) (hs:args.size=3) (w:World):CallsD Tryz.prog 214 args .returning w λe u' w'=>e=.returned (.tuple #[])/\u'=.returning/\w'=w:=by
 obtain ⟨x,y,z,rfl⟩:∃ x y z,args=#[x,y,z]:=by
  obtain ⟨l⟩:=args
  match l,hs with
  | [x,y,z],_=>exact ⟨x,y,z,rfl⟩
 refine callsD_of_wpS Tryz.func214 rfl λc₀ cs hu=>?_
 apply wpS_seq
 apply wpS_region
 simp [wpOpsS,go_sem,recoverD,hu,Tryz.ntmps214,Exit.thenS];refine wpS_of_wp ?_
 go_wp2_with fail
 refine ⟨rfl,.returning,?_,.tuple #[],?_,rfl,rfl,rfl⟩
 ·obtain ⟨⟩:=c₀;simp only at hu;subst hu
  rfl
 ·simp [results,Tryz.results214,go_sem]
theorem prs_idleD (x y z:Value):Idle Tryz.prog ⟨.fn (.func 214) #[x,y,z],#[]⟩:=⟨_,_,214,#[x,y,z],rfl,λw=>by kernel_rfl,λw=>prs_idle #[x,y,z] rfl w⟩
end Go.Proofs.YthgcgciceejicaaGreatDoor
