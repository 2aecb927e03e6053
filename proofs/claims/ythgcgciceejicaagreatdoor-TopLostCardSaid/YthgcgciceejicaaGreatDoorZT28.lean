/-
  The call that expr.Parse defers, where nothing was thrown up.
-/
import Derived.Test.YthgcgciceejicaaGreatDoorZT27
namespace Go.Proofs.YthgcgciceejicaaGreatDoor
open Go.RowKit
set_option linter.unusedVariables false
theorem prs_idle (args:Array Value) (hs:args.size=3) (w:World):CallsD Tryz.prog 214 args .returning w λe u' w'=>e=.returned (.tuple #[]) /\ u'=.returning /\ w'=w:=by
 obtain ⟨x,y,z,rfl⟩:∃ x y z,args=#[x,y,z]:=by
  obtain ⟨l⟩:=args
  match l,hs with
  | [x,y,z],_=>exact ⟨x,y,z,rfl⟩
 refine callsD_of_wpS Tryz.func214 rfl λc₀ cs hu=>?_
 apply wpS_seq
 apply wpS_region
 simp [wpOpsS,go_sem,recoverD,hu,Tryz.ntmps214,Exit.thenS];refine wpS_of_wp ?_
 go_wp2_with fail
 refine ⟨rfl,.returning,?_,.tuple #[],?_,rfl,rfl,rfl⟩
 ·obtain ⟨⟩:=c₀;simp only at hu;subst hu
  rfl
 ·simp [results,Tryz.results214,go_sem]
theorem prs_idleD (x y z:Value):Idle Tryz.prog ⟨.fn (.func 214) #[x,y,z],#[]⟩:=⟨_,_,214,#[x,y,z],rfl,λw=>by kernel_rfl,λw=>prs_idle #[x,y,z] rfl w⟩
set_option maxHeartbeats 1000000 in
set_option maxRecDepth 100000 in
theorem parse_s (s:ByteArray) (ts:List TokA) (x:Ex) (F:Nat) (h:Vw) (hT:∀ H,C0 Tryz.prog 213 #[Vt s] H (λr h'=>∃ A C,r=.tuple #[.slice A ts.length C,Vi 0,Vi 0] /\ RS h' 6 (.slice A ts.length C) (eZ ts))) (hS:SimT (ts.map (·.t))) (hs:s.size <= 160) (hp:(prsF (ts.map (·.t)) F).lv 1 0=.ok x ts.length) (hw:WfE x) (hz:(szE x).1 < 1000000) (hc:chkE x=0) :
  C0 Tryz.prog 119 #[Vt s] h (λr h'=>∃ u,r=.tuple #[.agg #[Vi x.op,Vi x.k,Vi x.n,.string x.s,.string x.nm,sL u],Vi 0] /\ IsArgs h' x (sL u)):=by
 have hL:∀ (A:Option Addr) (C:Nat) (en:Int) (b:Nat) (H:Vw),RS H 6 (.slice A ts.length C) (eZ ts) -> C1 Tryz.prog 216 #[.pointer (some ⟨b,0,none⟩),Vi 1] H b (rdL (.slice A ts.length C) en) (λv cs H=>∃ u,v=.agg #[Vi x.op,Vi x.k,Vi x.n,.string x.s,.string x.nm,sL u] /\ cs=rdL (.slice (tkA A C ts.length) 0 (C - ts.length)) en /\ IsArgs H x (sL u)):=λA C en b H q=>by
  have:=(prs_s (A:=A) (C:=C) (T:=ts) hS ts.length rfl en F F (Hj _)).lv 1 0 b H x ts.length q (by omega) (by omega) hp
  unfold PrsR at this;rw [Cw] at this;exact this
 have hC:=λv H q=>check_any x v H q hw hz;rw [hc] at hC;clear hS hp hw hz;generalize ts.length=n at *;have hP:∀ H,C0 Tryz.prog 176 #[Vt s] H (λr h'=>∃ u,r=.tuple #[.agg #[Vi x.op,Vi x.k,Vi x.n,.string x.s,.string x.nm,sL u],Vi 0,Vi 0] /\ IsArgs h' x (sL u)):=λH=>by
  refine g_conD Tryz.func176 λQ hQ hD=>?_;refine go3 10 [.own,.own,.own] [] ?_;intro b1 b2 b3;refine kQ (λH sH=>hT _) ?_; rintro _ W4 S5 ⟨A,C,rfl,hr⟩;refine go0 22 [.b 1 0,.b 0 0,.b 0 0] [] ?_;refine g_defer ⟨.fn (.func 214) #[Vp b1,Vp b2,Vp b3],#[]⟩ ?_;replace hQ:=hD ⟨.fn (.func 214) #[Vp b1,Vp b2,Vp b3],#[]⟩ (prs_idleD _ _ _);refine go1 16 [.cl 215 #[] (.agg qY),.own] [] ?_ (ho:=(Aj (λH sH=>sY _) (trivial)));intro brd;refine lQ 0 (λH sH=>hL A C (s.size:Int) brd _ (hr.sees sH)) ?_; rintro _ _ W6 S7 ⟨u,rfl,rfl,hu⟩;refine go0 21 [.b 3 0,.b 0 0,.b 3 0] [] ?_;refine go0 22 [.cl 107 #[.agg #[Vi x.op,Vi x.k,Vi x.n,.string x.s,.string x.nm,sL u]] (Vi 0),.b 3 0,.b 3 0,.b 2 0,.b 1 0] [] ?_ (ho:=(Aj (λH sH=>hC _ _ (hu.sees sH)) (trivial)));refine hQ.to [.agg #[Vi x.op,Vi x.k,Vi x.n,.string x.s,.string x.nm,sL u],Vi 0,Vi 0] (λH sH=>?_) (ix:=[3,2,1]);exact ⟨u,rfl,(hu.sees sH)⟩
 refine pQ Tryz.func119 λhbx hbad Q hQ=>?_;refine go1 9 [.own] [] ?_;intro b1;refine kQ (λH sH=>hP _) ?_; rintro _ W2 S3 ⟨u,rfl,hu⟩;refine go1 19 [.own,.b 0 0,.b 0 0,.b 1 0] [] ?_;intro b4;refine hQ.to [.agg #[Vi x.op,Vi x.k,Vi x.n,.string x.s,.string x.nm,sL u],Vi 0] (λH sH=>?_) (ix:=[1]);exact ⟨u,rfl,(hu.sees sH)⟩
end Go.Proofs.YthgcgciceejicaaGreatDoor
