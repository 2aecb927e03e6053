/-
  expr.Parse at a text of names, numbers and signs of two arguments.
-/
import Derived.Test.YthgcgciceejicaaGreatDoorZC27
import Derived.Test.YthgcgciceejicaaGreatDoorZC28
namespace Go.Proofs.YthgcgciceejicaaGreatDoor
open Go.RowKit
set_option linter.unusedVariables false
set_option maxHeartbeats 1000000 in
set_option maxRecDepth 100000 in
theorem parse_s (s:ByteArray) (ts:List TokA) (x:Ex) (F:Nat) (h:Vw) (hT:∀ H,C0 Tryz.prog 213 #[Vt s] H (λr h'=>∃ A C,r=.tuple #[.slice A ts.length C,Vi 0,Vi 0] /\ RS h' 6 (.slice A ts.length C) (bZ ts))) (hS:SimT (ts.map (·.t))) (hs:s.size <= 160) (hp:(prsF (ts.map (·.t)) F).lv 1 0=.ok x ts.length) (hw:WfE x) (hz:(szE x).1 < 1000000) (hc:chkE x=0) :
  C0 Tryz.prog 119 #[Vt s] h (λr h'=>∃ u,r=.tuple #[.agg #[Vi x.op,Vi x.k,Vi x.n,.string x.s,.string x.nm,sL u],Vi 0] /\ IsArgs h' x (sL u)):=by
 have hL:∀ (A:Option Addr) (C:Nat) (en:Int) (b:Nat) (H:Vw),RS H 6 (.slice A ts.length C) (bZ ts) -> C1 Tryz.prog 216 #[.pointer (some ⟨b,0,none⟩),Vi 1] H b (rdL (.slice A ts.length C) en) (λv cs H=>∃ u,v=.agg #[Vi x.op,Vi x.k,Vi x.n,.string x.s,.string x.nm,sL u] /\ cs=rdL (.slice (tkA A C ts.length) 0 (C - ts.length)) en /\ IsArgs H x (sL u)):=λA C en b H q=>by
  have:=(prs_s (A:=A) (C:=C) (T:=ts) hS ts.length rfl en F F (Hj _)).lv 1 0 b H x ts.length q (by omega) (by omega) hp
  unfold PrsR at this;rw [Uv] at this;exact this
 have hC:=λv H q=>check_any x v H q hw hz;rw [hc] at hC;clear hS hp hw hz;generalize ts.length=n at *;have hP:∀ H,C0 Tryz.prog 176 #[Vt s] H (λr h'=>∃ u,r=.tuple #[.agg #[Vi x.op,Vi x.k,Vi x.n,.string x.s,.string x.nm,sL u],Vi 0,Vi 0] /\ IsArgs h' x (sL u)):=λH=>by
  refine g_conD Tryz.func176 λQ hQ hD=>?_;refine go3 10 [.own,.own,.own] [] ?_;intro b1 b2 b3;refine lQ (λH sH=>hT _) ?_; rintro _ W4 S5 ⟨A,C,rfl,hr⟩;refine go0 22 [.b 1 0,.b 0 0,.b 0 0] [] ?_;refine g_defer ⟨.fn (.func 214) #[Vp b1,Vp b2,Vp b3],#[]⟩ ?_;replace hQ:=hD ⟨.fn (.func 214) #[Vp b1,Vp b2,Vp b3],#[]⟩ (prs_idleD _ _ _);refine go1 16 [.cl 215 #[] (.agg mY),.own] [] ?_ (ho:=(Aj (λH sH=>oY _) (trivial)));intro brd;refine mQ 0 (λH sH=>hL A C (s.size:Int) brd _ (hr.sees sH)) ?_; rintro _ _ W6 S7 ⟨u,rfl,rfl,hu⟩;refine go0 21 [.b 3 0,.b 0 0,.b 3 0] [] ?_;refine go0 22 [.cl 107 #[.agg #[Vi x.op,Vi x.k,Vi x.n,.string x.s,.string x.nm,sL u]] (Vi 0),.b 3 0,.b 3 0,.b 2 0,.b 1 0] [] ?_ (ho:=(Aj (λH sH=>hC _ _ (hu.sees sH)) (trivial)));refine hQ.to [.agg #[Vi x.op,Vi x.k,Vi x.n,.string x.s,.string x.nm,sL u],Vi 0,Vi 0] (λH sH=>?_) (ix:=[3,2,1]);exact ⟨u,rfl,(hu.sees sH)⟩
 refine qQ Tryz.func119 λhbx hbad Q hQ=>?_;refine go1 9 [.own] [] ?_;intro b1;refine lQ (λH sH=>hP _) ?_; rintro _ W2 S3 ⟨u,rfl,hu⟩;refine go1 19 [.own,.b 0 0,.b 0 0,.b 1 0] [] ?_;intro b4;refine hQ.to [.agg #[Vi x.op,Vi x.k,Vi x.n,.string x.s,.string x.nm,sL u],Vi 0] (λH sH=>?_) (ix:=[1]);exact ⟨u,rfl,(hu.sees sH)⟩
end Go.Proofs.YthgcgciceejicaaGreatDoor
