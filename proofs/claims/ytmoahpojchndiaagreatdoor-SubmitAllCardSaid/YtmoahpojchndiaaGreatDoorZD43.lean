/-
  The laws' Form, Inputs and Oracle, and what whole.All gives of them.
-/
import Derived.Test.YtmoahpojchndiaaGreatDoorZD42
namespace Go.Proofs.YtmoahpojchndiaaGreatDoor
open Go.RowKit
set_option linter.unusedVariables false
abbrev osF (l:List RawD):List Nat:=xW (rhoL (lW (kQ l).fields)) (kQ l).fields.length
def orcF (l m:List RawD):List Aw:=orcL (kQ l).fields (inpE (kQ l).fields m) (osF l) (kQ l).fields.length
theorem inp_ty (l m:List RawD):InpTy (kQ l).fields (inpE (kQ l).fields m):=fun i f hf hk p hp e=>by
 obtain ⟨j,g,r,-,h2,h3,rfl⟩:=inpF_each (kQ l).fields.length (Nat.le_refl _) p hp
 have e1:=gQ (mQ l) hf
 have e2:=gQ (mQ l) h2
 have e:g.name=f.name:=e
 rw [e,e1] at e2
 have e2:i=j:=by omega
 subst e2
 rw [hf] at h2
 obtain rfl:=Option.some.inj h2
 rfl
theorem form_wh (l m:List RawD):Wh (kQ l).fields (inpE (kQ l).fields m) (rhoL (lW (kQ l).fields)) (lvF l) (osF l) :=
 ⟨(form_okFm l).fields,(inp_ok l m).known,inp_ty l m,ordL_ordd (form_ranked l) (by have:=lQ l; have:=gW l; omega)⟩
theorem orcF_ok (l m:List RawD):OkOrc (kQ l).fields (orcF l m):=(form_wh l m).orc _
theorem orcF_len (l m:List RawD):(orcF l m).length≤100:=by
 have h1:=orcL_len (kQ l).fields (inpE (kQ l).fields m) (osF l) (kQ l).fields.length
 have h2:=lQ l
 have h3:=gW l
 have h4:(kQ l).fields.length * (kQ l).fields.length≤10 * 10:=Nat.mul_le_mul (by omega) (by omega)
 exact Nat.le_trans h1 h4
theorem oracle_form (l m:List RawD) (A:Option Addr) (c:Nat) (B:Option Addr) (d:Nat) (si:Value) (h:Vw) (hf:IsForm h (.slice A (kQ l).fields.length c) (.slice B (kQ l).pages.length d) (kQ l)) (hi:RS h 7 si (yK (inpE (kQ l).fields m))) :
  C0 Tryz.prog 16 #[.agg #[.slice A (kQ l).fields.length c,.slice B (kQ l).pages.length d],si] h (fun r h'=>∃ A' c',r=.tuple #[.slice A' (orcF l m).length c',.bool true]∧RS h' 7 (.slice A' (orcF l m).length c') (tJ (orcF l m))):=by
 have hn:=gW l
 have hl:=lQ l
 have hI:=inp_ok l m
 have:=hI.few
 exact oracle_l (kQ l) _ _ A _ c B _ d _ si h (form_okFm l) hf rfl (by omega) hi (by omega) hI.known hI.told (form_wh l m)
theorem all_orc (l m:List RawD) (orc:List Aw) (ok:OkOrc (kQ l).fields orc) (lo:orc.length≤1000) (A:Option Addr) (c:Nat) (B:Option Addr) (d:Nat) (si so:Value) (h:Vw) (hf:IsForm h (.slice A (kQ l).fields.length c) (.slice B (kQ l).pages.length d) (kQ l)) (hi:RS h 7 si (yK (inpE (kQ l).fields m))) (ho:RS h 7 so (tJ orc)) :
  C0 Tryz.prog 17 #[.agg #[.slice A (kQ l).fields.length c,.slice B (kQ l).pages.length d],si,so] h (fun r h'=>∃ A' c',r=.tuple #[.slice A' (kQ l).fields.length c',.int .i64 0]∧RS h' 3 (.slice A' (kQ l).fields.length c') (qY (allF l m orc))) :=
 all_form l m orc A c B d si so h hf hi ho lo ok.has (fun H q1 q2=>whOracle_any _ (form_okFm l).fields orc ok A _ c B _ d so H q1.fields rfl q2 lo)
end Go.Proofs.YtmoahpojchndiaaGreatDoor
