/-
  Contract of the laws' Meet.
-/
import Derived.Test.YthgcgciceejicaaGreatDoorZT50
import Derived.Test.YthgcgciceejicaaGreatDoorZT48
set_option maxRecDepth 100000
namespace Go.Proofs.YthgcgciceejicaaGreatDoor
open Go.RowKit
set_option linter.unusedVariables false
def toL (x:Lt):Ltr:=⟨x.nm,x.id,x.key.k,x.key.n,x.key.s,x.ans.k,x.ans.n,x.ans.s⟩
theorem toL_rows (l:List Lt):lcs (l.map toL)=gW l:=Jv
structure LtS (h:Vw) (v:Value) (l:List Lt):Prop where
 rows:RS h 8 v (gW l)
 few:l.length <= 24
 ok:∀ x∈l,OkL (toL x)
theorem LtS.sees {h h':Vw} {v:Value} {l:List Lt} (k:LtS h v l) (s:Sees h h'):LtS h' v l:=⟨k.rows.sees s,k.few,k.ok⟩
theorem LtS.old {h:Vw} {v:Value} {l:List Lt} (k:LtS h v l):RS h 8 v (lcs (l.map toL)) /\ (l.map toL).length <= 24 /\ ∀ x∈l.map toL,OkL x:=⟨by rw [toL_rows]; exact k.rows,by rw [Ij]; exact k.few,λx hx=>by obtain ⟨y,hy,rfl⟩:=Rj.1 hx; exact k.ok y hy⟩
theorem p_chk {h:Vw} {v:Value} {l:List Lt} (k:LtS h v l):C0 Tryz.prog 221 #[v] h (λr _=>r=Vi 0):=by
 obtain ⟨a,b,c⟩:=k.old;exact C0.of_e (net_check v (l.map toL) h.w (Sl.of_rs a) b c)
abbrev zLt:Value:=.agg #[Vt ⟨#[]⟩,Vi 0,Vi 0,Vi 0,.string ⟨#[]⟩,Vi 0,Vi 0,.string ⟨#[]⟩]
theorem p_at_no {h:Vw} {v:Value} {l:List Lt} (k:LtS h v l) (i:Nat) (hi:l.length <= i) (hb:i <= 1000):C0 Tryz.prog 182 #[v,Vi (i:Int)] h (λr _=>r=.tuple #[zLt,Vi 5]):=by
 have hC:=λv H (q:LtS H v l)=>p_chk q;obtain ⟨A,c,rfl,-⟩:=k.rows.form;rw [Ij] at *;generalize l.length=n at *;refine pQ Tryz.func182 λhbx hbad Q hQ=>?_;refine go1 29 [.own,.cl 221 #[.slice A n c] (Vi 0)] [] ?_ (ho:=(Aj (λH sH=>hC _ _ (k.sees sH)) (trivial)));intro b1;refine gV 15 (v:=.bool (decide ((i:Int) < 0))) (v':=.bool false) (Dj Value.bool (Kj (by omega))) ?_;refine go0 7 [] [] ?_;refine jV (t:=decide ((i:Int) ≥ (n:Int))) (Jj (by omega)) ?_;refine go0 9 [.b 0 0] [] ?_;refine hQ.to [.agg #[Ve,Vi 0,Vi 0,Vi 0,Ve,Vi 0,Vi 0,Ve],Vi 5] (λH sH=>?_) (ix:=[0]);exact rfl
def losF (l:List Lt) (i:Nat):Int × List Lt:=if i < l.length then (0,l.eraseIdx i) else (5,[])
def OutL (p:Int × List Lt) (r:Value) (h:Vw):Prop:=∃ u,r=.tuple #[sL u,Vi p.1] /\ RS h 8 (sL u) (gW p.2)
theorem outL_none (e:Int) (h:Vw):OutL (e,[]) (.tuple #[.slice none 0 0,Vi e]) h:=⟨.slice none 0 0,rfl,RS.nil _ _⟩
theorem outL_eq {p q:Int × List Lt} {r:Value} {h:Vw} (e:p=q) (k:OutL q r h):OutL p r h:=by rw [e]; exact k
theorem p_lose {h:Vw} {v:Value} {l:List Lt} (k:LtS h v l) (i:Nat) (hb:i <= 1000):C0 Tryz.prog 134 #[v,Vi (i:Int)] h (λr h'=>OutL (losF l i) r h'):=by
 by_cases hi:i < l.length
 ·obtain ⟨a,b,c⟩:=k.old;refine (c_loseL a b c i (by rw [Ij]; exact hi)).mono λr h' _=>?_;rintro ⟨u,rfl,q⟩;rw [eraseIdx_map,toL_rows] at q;unfold losF;rw [Cj hi];exact ⟨u,rfl,q⟩
 ·have hA:=λv H (q:LtS H v l)=>p_at_no q i (by omega) hb;have e:losF l i=(5,[]):=Bj hi;rw [e];obtain ⟨A,c,rfl,-⟩:=k.rows.form;rw [Ij] at *;generalize l.length=n at *;refine pQ Tryz.func134 λhbx hbad Q hQ=>?_;refine go1 36 [.cl 182 #[.slice A n c,Vi (i:Int)] (.tuple #[.agg #[Ve,Vi 0,Vi 0,Vi 0,Ve,Vi 0,Vi 0,Ve],Vi 5]),.own,.b 0 0] [] ?_ (ho:=(Aj (λH sH=>hA _ _ (k.sees sH)) (trivial)));intro b1;refine hQ.to [Vz,Vi 5] (λH sH=>?_);exact outL_none 5 _
section
variable {h:Vw} {v v':Value} {l:List Lt}
end
theorem CRow.new {P:Program} {f:FuncId} {args:Array Value} {h:Vw} {e:TypeId} {k:Nat} {l:List (List Value)} (hc:CRow P f args h e k (λ_ rows=>rows=l)) :
  C0 P f args h (λv h'=>∃ u lu,Ent.ok h.w.heap.size h'.w (.row u e k lu) /\ (∃ z,u=sL z) /\ v=u /\ lu=l):=by
 intro a1 a2 a3 a4;refine (hc a1 a2 a3 a4).mono ?_;rintro en w' ⟨v,Bo,h1,h2,h3,h4,r,h5,rfl⟩;refine ⟨v,Bo,h1,h2,h3,h4,v,_,h5,?_,rfl,rfl⟩;rcases h5.1.2 with ⟨rfl,-⟩ | ⟨g,cap,cur,rfl,-⟩
 ·exact ⟨.slice none 0 0,rfl⟩
 ·exact ⟨.slice (some ⟨g,0,none⟩) _ cap,rfl⟩
def SndL (la lb:List Lt):Int × List Lt:=if la.length + lb.length <= 24 then (0,la++lb) else (12,[])
theorem p_cat {la lb:List Lt} (hl:la.length + lb.length <= 1000) {va vb:Value} {b:Nat} {h:Vw} (ha:RS h 8 va (gW la)) (hb:RS h 8 vb (gW lb)) (hc:Cells h b 0 [va,vb]):C0 Tryz.prog 17 #[.slice (some ⟨b,0,none⟩) 2 2] h (λr h'=>∃ u,r=sL u /\ RS h' 8 (sL u) (gW (la++lb))) :=
 c_concatT (rs_cells (k:=1) [[va],[vb]] (λr hr=>by simp at hr; rcases hr with rfl | rfl <;> rfl) (show (2:Nat) <= maxLen by decide) hc) ha hb (by omega)
theorem p_send {h:Vw} {va vb:Value} {la lb:List Lt} (ka:LtS h va la) (kb:LtS h vb lb):C0 Tryz.prog 181 #[va,vb] h (λr h'=>OutL (SndL la lb) r h'):=by
 have fa:=ka.few;have fb:=kb.few;have hA:=λv H (q:LtS H v la)=>p_chk q;have hB:=λv H (q:LtS H v lb)=>p_chk q;have hC:=λva vb b H q1 q2 q3=>p_cat (la:=la) (lb:=lb) (by omega) (va:=va) (vb:=vb) (b:=b) (h:=H) q1 q2 q3;obtain ⟨A,c,rfl,-⟩:=ka.rows.form;obtain ⟨B,d,rfl,-⟩:=kb.rows.form;rw [Ij] at *;rw [Ij] at *;have e1:la.length + lb.length <= 24 -> SndL la lb=(0,la++lb):=λq=>Cj q;have e2:¬ la.length + lb.length <= 24 -> SndL la lb=(12,[]):=λq=>Bj q;generalize SndL la lb=out at *;generalize la.length=n at *;generalize lb.length=m at *;refine pQ Tryz.func181 λhbx hbad Q hQ=>?_;refine go0 16 [] [] ?_;refine yQ [0,1,0,1] [.block 0,.seq [1,1]] (λ(k:Nat) X=>∃ (W1:Vw) ,X W1 [(0,.slice A n c),(1,.slice B m d),(11,.agg #[.slice A n c,.slice B m d]),(12,Vi (k:Int))] [] [] /\ Sees h W1 /\ (k <= 2)) (λk=>2 - k) (0) (λX q=>⟨h,q _ _ _ _ ⟨rfl,by kernel_rfl⟩,Sees.refl _,Mj _⟩) ?_;rintro k a w ⟨W1,hJ,S2,hk⟩; refine dV hJ ?_; clear hJ a w;refine go0 6 [] [] ?_;rcases (by omega:k=0\/k=1\/k=2) with hk0 | hk0 | hk0
 ·skip;refine jV (t:=decide ((k:Int) < 2)) (Jj (by omega)) ?_
  refine go0 6 [] [] ?_;refine eV (.slice A n c) (λw=>by subst hk0; kernel_rfl) ?_;refine go0 6 [] [] ?_;refine kQ (λH sH=>hA _ _ (ka.sees (S2.trans sH))) ?_; rintro _ W3 S4 rfl;refine go0 17 [] [(20,Vi (IntKind.i64.wrap ((k:Int) + 1)),Vi ((k:Int) + 1))] ?_ (hc:=(Aj (jJ (by omega) (by omega)) (trivial)));exact iV (k + 1) (λX q=>⟨W3,q _ _ _ _ ⟨rfl,by kernel_rfl⟩,(S2.trans S4),by omega⟩)
 ·skip;refine jV (t:=decide ((k:Int) < 2)) (Jj (by omega)) ?_
  refine go0 6 [] [] ?_;refine eV (.slice B m d) (λw=>by subst hk0; kernel_rfl) ?_;refine go0 6 [] [] ?_;refine kQ (λH sH=>hB _ _ (kb.sees (S2.trans sH))) ?_; rintro _ W5 S6 rfl;refine go0 17 [] [(20,Vi (IntKind.i64.wrap ((k:Int) + 1)),Vi ((k:Int) + 1))] ?_ (hc:=(Aj (jJ (by omega) (by omega)) (trivial)));exact iV (k + 1) (λX q=>⟨W5,q _ _ _ _ ⟨rfl,by kernel_rfl⟩,(S2.trans S6),by omega⟩)
 ·skip;refine tQ (t:=decide ((k:Int) < 2)) (Kj (by omega)) ?_
  refine go0 2 [] [] ?_;refine xQ ?_;refine go0 13 [] [(25,Vi (IntKind.i64.wrap ((n:Int) + (m:Int))),Vi ((n:Int) + (m:Int)))] ?_ (hc:=(Aj (jJ (by omega) (by omega)) (trivial)))
  by_cases hr:n + m <= 24
  ·refine tQ (t:=decide (((n:Int) + (m:Int)) > 24)) (Kj (by omega)) ?_;refine oV 7 [.fix] [] ?_;intro bt29 W7 S8;refine oQ 0 bt29 0 [.slice A n c,.slice B m d] λt29=>?_;refine kQ (λH sH=>hC _ _ _ _ ((ka.sees (S2.trans (S8.trans sH)))).rows ((kb.sees (S2.trans (S8.trans sH)))).rows (t29.sees sH)) ?_; rintro _ W9 S10 ⟨u,rfl,hu⟩;refine go0 5 [] [] ?_;refine hQ.to [sL u,Vi 0] (λH sH=>?_);exact outL_eq (e1 hr) ⟨u,rfl,(hu.sees sH)⟩
  ·skip;refine jV (t:=decide (((n:Int) + (m:Int)) > 24)) (Jj (by omega)) ?_
   refine go0 8 [] [] ?_;refine hQ.to [Vz,Vi 12] (λH sH=>?_);exact outL_eq (e2 hr) (outL_none 12 _)
theorem ps_mk (w un up:Value):∃ u,agJ 0 u=agJ 0 w /\ agJ 1 u=agJ 1 w /\ agJ 2 u=agJ 2 w /\ agJ 3 u=agJ 3 w /\ agJ 4 u=agJ 4 w /\ agJ 5 u=un /\ agJ 6 u=up:=by
 refine ⟨.agg #[agJ 0 w,agJ 1 w,agJ 2 w,agJ 3 w,agJ 4 w,un,up],?_,?_,?_,?_,?_,?_,?_⟩ <;> kernel_rfl
structure PsI (h:Vw) (u:Value) (s:Ps):Prop where
 eng:IsEng h u s.E
 net:LtS h (sL (agJ 5 u)) s.net
 path:RS h 1 (sL (agJ 6 u)) (eY s.path)
theorem PsI.sees {h h':Vw} {u:Value} {s:Ps} (k:PsI h u s) (q:Sees h h'):PsI h' u s:=⟨k.eng.sees q,k.net.sees q,k.path.sees q⟩
def PsR (r:Int × Ps) (v:Value) (cs:List Value) (H:Vw):Prop:=∃ u,v=Vi r.1 /\ cs=(pL u r.2) /\ PsI H u r.2
theorem psR_eq {r r':Int × Ps} {v:Value} {cs:List Value} {H:Vw} (e:r=r') (k:PsR r' v cs H):PsR r v cs H:=by rw [e]; exact k
theorem psR_mk {s:Ps} {e:Int} {cs:List Value} {H:Vw} {bd:Bool} (w un up:Value) (hb:cs=[sL (agJ 0 w),sL (agJ 1 w),Vi s.E.pol.t,Vi s.E.pol.b,Vi s.E.pol.c,sL (agJ 2 w),sL (agJ 3 w),sL (agJ 4 w),Vi s.E.now,Vi s.E.last,sL un,Vi (s.t:Int),sL up,.bool bd]) (hd:bd=((s.t:Int) == (s.E.fm.pages.length:Int))) (ke:IsEng H w s.E) (kn:LtS H (sL un) s.net) (kp:RS H 1 (sL up) (eY s.path)):PsR (e,s) (Vi e) cs H:=by
 obtain ⟨u,e0,e1,e2,e3,e4,e5,e6⟩:=ps_mk w un up;refine ⟨u,rfl,?_,⟨⟨?_,?_,?_,?_⟩,?_,?_⟩⟩
 ·show cs=[sL (agJ 0 u),sL (agJ 1 u),Vi s.E.pol.t,Vi s.E.pol.b,Vi s.E.pol.c,sL (agJ 2 u),sL (agJ 3 u),sL (agJ 4 u),Vi s.E.now,Vi s.E.last,sL (agJ 5 u),Vi (s.t:Int),sL (agJ 6 u),.bool ((s.t:Int) == (s.E.fm.pages.length:Int))];rw [e0,e1,e2,e3,e4,e5,e6, <- hd]; exact hb
 ·rw [e0,e1]; exact ke.form
 ·rw [e2]; exact ke.inp
 ·rw [e3]; exact ke.calls
 ·rw [e4]; exact ke.vals
 ·rw [e5]; exact kn
 ·rw [e6]; exact kp
theorem keep_yes (s:Ps) (l:List Lt) (b:Nat) (u ul:Value) (h:Vw) (k:PsI h u s) (kl:LtS h (sL ul) l) :
  C1 Tryz.prog 132 #[.pointer (some ⟨b,0,none⟩),sL ul,Vi 0] h b (pL u s) (λv cs H=>PsR (0,{ s with net:=l }) v cs H):=by
 refine pQ Tryz.func132 λhbx hbad Q hQ=>?_;refine go0 28 [.b 0 10] [] ?_;refine hQ.toB [Vi 0] [[sL (agJ 0 u),sL (agJ 1 u),Vi s.E.pol.t,Vi s.E.pol.b,Vi s.E.pol.c,sL (agJ 2 u),sL (agJ 3 u),sL (agJ 4 u),Vi s.E.now,Vi s.E.last,sL ul,Vi (s.t:Int),sL (agJ 6 u),.bool ((s.t:Int) == (s.E.fm.pages.length:Int))]] (λH sH=>?_);exact ⟨_,rfl,psR_mk u ul (agJ 6 u) rfl rfl ((k.sees sH)).eng (kl.sees sH) ((k.sees sH)).path⟩
theorem keep_no (s:Ps) (e:Int) (he:e≠0) (b:Nat) (u ul:Value) (h:Vw) (k:PsI h u s) :
  C1 Tryz.prog 132 #[.pointer (some ⟨b,0,none⟩),sL ul,Vi e] h b (pL u s) (λv cs H=>PsR (e,s) v cs H):=by
 refine pQ Tryz.func132 λhbx hbad Q hQ=>?_;refine go0 12 [] [] ?_;refine tQ (t:=e == 0) (Lj.2 he) ?_;refine go0 9 [] [] ?_;refine hQ.toB [Vi e] [(pL u s)] (λH sH=>?_);exact ⟨_,rfl,⟨u,rfl,rfl,(k.sees sH)⟩⟩
theorem snd_l {la lb:List Lt} (hr:la.length + lb.length <= 24):SndL la lb=(0,la++lb):=Cj hr
theorem snd_l_no {la lb:List Lt} (hr:¬ la.length + lb.length <= 24):SndL la lb=(12,[]):=Bj hr
theorem become_con (s:Ps) (E':Eg) (la lb:List Lt) (hfm:E'.fm=s.E.fm) (b:Nat) (u w' ua ub:Value) (h:Vw) (k:PsI h u s) (ke:IsEng h w' E') (ka:LtS h (sL ua) la) (kb:LtS h (sL ub) lb) :
  C1 Tryz.prog 131 #[.pointer (some ⟨b,0,none⟩),.agg (eA w' E'),sL ua,sL ub,Vi 0] h b (pL u s) (λv cs H=>PsR (sndF s E' la lb) v cs H):=by
 have hS:=λH (q1:LtS H (sL ua) la) (q2:LtS H (sL ub) lb)=>p_send q1 q2
 by_cases hr:la.length + lb.length <= 24
 ·have e:=snd_yes (s:=s) (E':=E') hr;rw [snd_l hr] at hS;have hok:∀ x∈la++lb,OkL (toL x):=λx hx=>(Qj.1 hx).elim (ka.ok x) (kb.ok x);have hfw:(la++lb).length <= 24:=by rw [Bk]; exact hr
  refine pQ Tryz.func131 λhbx hbad Q hQ=>?_;refine go1 20 [.own] [] ?_;intro b1;refine kQ (λH sH=>hS _ (ka.sees sH) (kb.sees sH)) ?_; rintro _ W2 S3 ⟨ul,rfl,hu⟩;refine go0 35 [.b 0 0,.b 1 0,.b 1 10] [] ?_;refine hQ.toB [Vi 0] [[sL (agJ 0 w'),sL (agJ 1 w'),Vi E'.pol.t,Vi E'.pol.b,Vi E'.pol.c,sL (agJ 2 w'),sL (agJ 3 w'),sL (agJ 4 w'),Vi E'.now,Vi E'.last,sL ul,Vi (s.t:Int),sL (agJ 6 u),.bool ((s.t:Int) == (s.E.fm.pages.length:Int))]] (λH sH=>?_);exact ⟨_,rfl,psR_eq e (psR_mk w' ul (agJ 6 u) rfl (by show _=((s.t:Int) == (E'.fm.pages.length:Int)); rw [hfm]) (ke.sees (S3.trans sH)) ⟨(hu.sees sH),hfw,hok⟩ ((k.sees (S3.trans sH))).path)⟩
 ·have e:=snd_no (s:=s) (E':=E') hr;rw [snd_l_no hr] at hS;refine pQ Tryz.func131 λhbx hbad Q hQ=>?_;refine go1 20 [.own] [] ?_;intro b1;refine kQ (λH sH=>hS _ (ka.sees sH) (kb.sees sH)) ?_; rintro _ W2 S3 ⟨ul,rfl,hu⟩;refine go0 24 [] [] ?_;refine hQ.toB [Vi 12] [(pL u s)] (λH sH=>?_);exact ⟨_,rfl,psR_eq e ⟨u,rfl,rfl,(k.sees (S3.trans sH))⟩⟩
theorem setE_fit {E:Eg} {ρ:List Int} {lv:Nat -> Nat} (hok:EgOk E ρ lv):(nY E ρ).out.length <= E.fm.fields.length:=by
 have R:=setE_run hok;have few:=hok.fm.fields.few;have one:=hok.one;have hod:Ordd E.fm.fields ρ lv (iX ρ E.fm.fields.length):=jX hok.fm.rank (by omega);have h1:=R.olen;rw [hod.len] at h1;simp only [Fq] at h1;omega
theorem okL_of {fs:List Fd} {x:Lt} {last:Int} (h:LtOk fs x) (i1:1 <= x.id) (i2:x.id <= last) (hl:last <= 1073741824):OkL (toL x):=⟨i1,by show x.id <= _; omega,h.key,.inl (by show x.ans.k=0 /\ x.ans.n=0 /\ x.ans.s=⟨#[]⟩; rw [h.ans]; exact ⟨rfl,rfl,rfl⟩)⟩
theorem LnOk.okL {fs:List Fd} {x:Lt} {last:Int} (h:LnOk fs last x) (hl:last <= 1073741824):OkL (toL x):=⟨h.i1,by have:=h.i2; show x.id <= _; omega,h.key,h.ans.elim (λe=>.inl (by show x.ans.k=0 /\ x.ans.n=0 /\ x.ans.s=⟨#[]⟩; rw [e]; exact ⟨rfl,rfl,rfl⟩)) λe=>.inr e⟩
def keepF (s:Ps) (p:Int × List Lt):Int × Ps:=if p.1=0 then (0,{ s with net:=p.2 }) else (p.1,s)
theorem keep_any (s:Ps) (p:Int × List Lt) (b:Nat) (u ul:Value) (h:Vw) (k:PsI h u s) (kl:RS h 8 (sL ul) (gW p.2)) (hp:p.1=0 -> p.2.length <= 24 /\ ∀ x∈p.2,OkL (toL x)) :
  C1 Tryz.prog 132 #[.pointer (some ⟨b,0,none⟩),sL ul,Vi p.1] h b (pL u s) (λv cs H=>PsR (keepF s p) v cs H):=by
 obtain ⟨e,l⟩:=p
 by_cases q:e=0
 ·subst q;obtain ⟨h1,h2⟩:=hp rfl;exact keep_yes s l b u ul h k ⟨kl,h1,h2⟩
 ·have:=keep_no s e q b u ul h k
  rw [show keepF s (e,l)=(e,s) from Bj q];exact this
theorem ev_keep (kd:Int) (s:Ps) (p:Int × List Lt) (n:Nat) (nm:ByteArray) (v:Vl) (b:Nat) (u:Value) (h:Vw) (k:PsI h u s) (hp:p.1=0 -> p.2.length <= 24 /\ ∀ x∈p.2,OkL (toL x))
  (hk:(kd=3 /\ ∀ v1 H,LtS H v1 s.net -> C0 Tryz.prog 133 #[v1,Vi (n:Int),.agg #[Vi v.k,Vi v.n,.string v.s]] H (λr h'=>OutL p r h'))\/(kd=4 /\ ∀ v1 H,LtS H v1 s.net -> C0 Tryz.prog 134 #[v1,Vi (n:Int)] H (λr h'=>OutL p r h'))\/(kd=5 /\ ∀ v1 H,LtS H v1 s.net -> C0 Tryz.prog 135 #[v1,Vi (n:Int)] H (λr h'=>OutL p r h'))) :
  C1 Tryz.prog 86 #[.pointer (some ⟨b,0,none⟩),.agg #[Vi kd,Vi (n:Int),.string nm,Vi v.k,Vi v.n,.string v.s]] h b (pL u s) (λv cs H=>PsR (keepF s p) v cs H):=by
 have hK:=λul H q1 q2=>keep_any s p b u ul H q1 q2 hp;generalize keepF s p=rr at hK ⊢;rcases hk with ⟨rfl,hOp⟩ | ⟨rfl,hOp⟩ | ⟨rfl,hOp⟩
 ·refine pQ Tryz.func86 λhbx hbad Q hQ=>?_;refine go1 36 [.own,.b 0 0] [] ?_;intro b1;refine fV 14 0 [.pu,.pu,.pu,.pu,.ld 1 10,.pu,.ld 0 1,.pu,.ld 0 3,.f (λgh=>.tuple #[sL (gh 9),Vi p.1]) (λgh hh=>RS hh 8 (sL (gh 9)) (gW p.2)),.pu,.pu,.ef (λgh=>Vi rr.1) 1 (λgh=>.box b (pL (gh 12) rr.2)) (λgh hh=>PsI hh (gh 12) rr.2),.pu] [(9,false),(12,false)] (Aj (λ_ _ _ s c=>c.sees s) (Aj (λ_ _ _ s c=>c.sees s) (trivial))) ?_ ?_
  ·intro R hT hA hmono;refine Aj (vX hT hA hmono 70 (λu=>.tuple #[sL u,Vi p.1]) [4,6,8] 9 133 (λgh=>#[sL (agJ 5 u),Vi (n:Int),.agg #[Vi v.k,Vi v.n,.string v.s]]) (λgh H sH fH lent=>C0.facts (R:=R) (x:=gh) (i:=9) (n:=0) (F:=(λu=>.tuple #[sL u,Vi p.1])) (G:=λu hh=>RS hh 8 (sL u) (gW p.2)) (f:=λgh hh=>RS hh 8 (sL (gh 9)) (gW p.2)) (hOp _ _ ((k.sees sH)).net) (by kernel_rfl) (by kernel_rfl) (λ_ _ r=>r))) ?_;refine Aj (r_call1 hT hA hmono ⟨λ_ _=>by kernel_rfl,λ_ _=>by kernel_rfl,λ_ _=>by kernel_rfl⟩ 73 (λu=>Vi rr.1) [0,9,10,11] 12 (by kernel_rfl) (λ_=>by kernel_rfl) 1 (GN R 1) (by kernel_rfl) (by kernel_rfl) (by kernel_rfl) b (λgh=>(pL u s)) (λgh=>(pL (gh 12) rr.2)) (λ_=>by kernel_rfl) (λ_=>by kernel_rfl) 132 (λgh=>#[Vp b,sL (gh 9),Vi p.1]) (λ_ _=>by kernel_rfl) (λgh H sH fH lent=>C1.facts (R:=R) (x:=gh) (N':=λgh=>(pL (gh 12) rr.2)) (i:=12) (n:=1) (F:=(λu=>Vi rr.1)) (N:=λu=>(pL u rr.2)) (G:=λu hh=>PsI hh u rr.2) (f:=λgh hh=>PsI hh (gh 12) rr.2) (hK _ _ (k.sees sH) (fH 0 _ rfl (by kernel_rfl))) (by kernel_rfl) (by kernel_rfl) (λ_=>by kernel_rfl) (λ_ _ r=>r))) ?_
   trivial
  rintro u70 u73 W2 S3 ⟨f70,f73,-⟩;replace f70:RS W2 8 (sL u70) (gW p.2):=f70;replace f73:PsI W2 u73 rr.2:=f73;refine go0 4 [] [] ?_;refine hQ.toB [Vi rr.1] [(pL u73 rr.2)] (λH sH=>?_);exact ⟨_,rfl,u73,rfl,rfl,(f73.sees sH)⟩
 ·refine pQ Tryz.func86 λhbx hbad Q hQ=>?_;refine go1 43 [.own,.b 0 0] [] ?_;intro b1;refine fV 12 0 [.pu,.pu,.pu,.pu,.ld 1 10,.pu,.ld 0 1,.f (λgh=>.tuple #[sL (gh 7),Vi p.1]) (λgh hh=>RS hh 8 (sL (gh 7)) (gW p.2)),.pu,.pu,.ef (λgh=>Vi rr.1) 1 (λgh=>.box b (pL (gh 10) rr.2)) (λgh hh=>PsI hh (gh 10) rr.2),.pu] [(7,false),(10,false)] (Aj (λ_ _ _ s c=>c.sees s) (Aj (λ_ _ _ s c=>c.sees s) (trivial))) ?_ ?_
  ·intro R hT hA hmono;refine Aj (vX hT hA hmono 83 (λu=>.tuple #[sL u,Vi p.1]) [4,6] 7 134 (λgh=>#[sL (agJ 5 u),Vi (n:Int)]) (λgh H sH fH lent=>C0.facts (R:=R) (x:=gh) (i:=7) (n:=0) (F:=(λu=>.tuple #[sL u,Vi p.1])) (G:=λu hh=>RS hh 8 (sL u) (gW p.2)) (f:=λgh hh=>RS hh 8 (sL (gh 7)) (gW p.2)) (hOp _ _ ((k.sees sH)).net) (by kernel_rfl) (by kernel_rfl) (λ_ _ r=>r))) ?_;refine Aj (r_call1 hT hA hmono ⟨λ_ _=>by kernel_rfl,λ_ _=>by kernel_rfl,λ_ _=>by kernel_rfl⟩ 86 (λu=>Vi rr.1) [0,7,8,9] 10 (by kernel_rfl) (λ_=>by kernel_rfl) 1 (GN R 1) (by kernel_rfl) (by kernel_rfl) (by kernel_rfl) b (λgh=>(pL u s)) (λgh=>(pL (gh 10) rr.2)) (λ_=>by kernel_rfl) (λ_=>by kernel_rfl) 132 (λgh=>#[Vp b,sL (gh 7),Vi p.1]) (λ_ _=>by kernel_rfl) (λgh H sH fH lent=>C1.facts (R:=R) (x:=gh) (N':=λgh=>(pL (gh 10) rr.2)) (i:=10) (n:=1) (F:=(λu=>Vi rr.1)) (N:=λu=>(pL u rr.2)) (G:=λu hh=>PsI hh u rr.2) (f:=λgh hh=>PsI hh (gh 10) rr.2) (hK _ _ (k.sees sH) (fH 0 _ rfl (by kernel_rfl))) (by kernel_rfl) (by kernel_rfl) (λ_=>by kernel_rfl) (λ_ _ r=>r))) ?_
   trivial
  rintro u70 u73 W2 S3 ⟨f70,f73,-⟩;replace f70:RS W2 8 (sL u70) (gW p.2):=f70;replace f73:PsI W2 u73 rr.2:=f73;refine go0 4 [] [] ?_;refine hQ.toB [Vi rr.1] [(pL u73 rr.2)] (λH sH=>?_);exact ⟨_,rfl,u73,rfl,rfl,(f73.sees sH)⟩
 ·refine pQ Tryz.func86 λhbx hbad Q hQ=>?_;refine go1 50 [.own,.b 0 0] [] ?_;intro b1;refine fV 12 0 [.pu,.pu,.pu,.pu,.ld 1 10,.pu,.ld 0 1,.f (λgh=>.tuple #[sL (gh 7),Vi p.1]) (λgh hh=>RS hh 8 (sL (gh 7)) (gW p.2)),.pu,.pu,.ef (λgh=>Vi rr.1) 1 (λgh=>.box b (pL (gh 10) rr.2)) (λgh hh=>PsI hh (gh 10) rr.2),.pu] [(7,false),(10,false)] (Aj (λ_ _ _ s c=>c.sees s) (Aj (λ_ _ _ s c=>c.sees s) (trivial))) ?_ ?_
  ·intro R hT hA hmono;refine Aj (vX hT hA hmono 96 (λu=>.tuple #[sL u,Vi p.1]) [4,6] 7 135 (λgh=>#[sL (agJ 5 u),Vi (n:Int)]) (λgh H sH fH lent=>C0.facts (R:=R) (x:=gh) (i:=7) (n:=0) (F:=(λu=>.tuple #[sL u,Vi p.1])) (G:=λu hh=>RS hh 8 (sL u) (gW p.2)) (f:=λgh hh=>RS hh 8 (sL (gh 7)) (gW p.2)) (hOp _ _ ((k.sees sH)).net) (by kernel_rfl) (by kernel_rfl) (λ_ _ r=>r))) ?_;refine Aj (r_call1 hT hA hmono ⟨λ_ _=>by kernel_rfl,λ_ _=>by kernel_rfl,λ_ _=>by kernel_rfl⟩ 99 (λu=>Vi rr.1) [0,7,8,9] 10 (by kernel_rfl) (λ_=>by kernel_rfl) 1 (GN R 1) (by kernel_rfl) (by kernel_rfl) (by kernel_rfl) b (λgh=>(pL u s)) (λgh=>(pL (gh 10) rr.2)) (λ_=>by kernel_rfl) (λ_=>by kernel_rfl) 132 (λgh=>#[Vp b,sL (gh 7),Vi p.1]) (λ_ _=>by kernel_rfl) (λgh H sH fH lent=>C1.facts (R:=R) (x:=gh) (N':=λgh=>(pL (gh 10) rr.2)) (i:=10) (n:=1) (F:=(λu=>Vi rr.1)) (N:=λu=>(pL u rr.2)) (G:=λu hh=>PsI hh u rr.2) (f:=λgh hh=>PsI hh (gh 10) rr.2) (hK _ _ (k.sees sH) (fH 0 _ rfl (by kernel_rfl))) (by kernel_rfl) (by kernel_rfl) (λ_=>by kernel_rfl) (λ_ _ r=>r))) ?_
   trivial
  rintro u70 u73 W2 S3 ⟨f70,f73,-⟩;replace f70:RS W2 8 (sL u70) (gW p.2):=f70;replace f73:PsI W2 u73 rr.2:=f73;refine go0 4 [] [] ?_;refine hQ.toB [Vi rr.1] [(pL u73 rr.2)] (λH sH=>?_);exact ⟨_,rfl,u73,rfl,rfl,(f73.sees sH)⟩
theorem ev_tick (s:Ps) (E':Eg) (lt:List Lt) (n:Nat) (nm:ByteArray) (v:Vl) (b:Nat) (u:Value) (h:Vw) (k:PsI h u s) (hfm:E'.fm=s.E.fm) (hlt:lt.length <= 24 /\ ∀ x∈lt,OkL (toL x))
  (hOp:∀ H,IsEng H u s.E -> C0 Tryz.prog 20 #[.agg (eA u s.E),Vi (n:Int)] H (λr h'=>TelR E' lt r h')) :
  C1 Tryz.prog 86 #[.pointer (some ⟨b,0,none⟩),.agg #[Vi 2,Vi (n:Int),.string nm,Vi v.k,Vi v.n,.string v.s]] h b (pL u s) (λv cs H=>PsR (sndF s E' s.net lt) v cs H):=by
 have hB:=λw' H q1 (q2:TelF H w' E' lt)=>become_con s E' s.net lt hfm b u w' (agJ 5 u) (agJ 5 w') H q1 q2.eng q1.net ⟨q2.out,hlt.1,hlt.2⟩;generalize sndF s E' s.net lt=rr at hB ⊢;refine pQ Tryz.func86 λhbx hbad Q hQ=>?_;refine go1 29 [.own,.b 0 0] [] ?_;intro b1;refine fV 15 1 [.pu,.pu,.pu,.ld 2 0,.pu,.ld 1 1,.f (λgh=>.tuple #[.agg (eA (gh 6) E'),sL (agJ 5 (gh 6)),Vi 0]) (λgh hh=>TelF hh (gh 6) E' lt),.pu,.pu,.pu,.pu,.al 0,.st 0 0,.pu,.pu] [(6,false),(11,true)] (Aj (λ_ _ _ s c=>c.sees s) (trivial)) ?_ ?_
 ·intro R hT hA hmono;refine Aj (vX hT hA hmono 46 (λu=>.tuple #[.agg (eA u E'),sL (agJ 5 u),Vi 0]) [3,5] 6 20 (λgh=>#[.agg (eA u s.E),Vi (n:Int)]) (λgh H sH fH lent=>C0.facts (R:=R) (x:=gh) (i:=6) (n:=0) (F:=(λu=>.tuple #[.agg (eA u E'),sL (agJ 5 u),Vi 0])) (G:=λu hh=>TelF hh u E' lt) (f:=λgh hh=>TelF hh (gh 6) E' lt) (hOp _ ((k.sees sH)).eng) (by kernel_rfl) (by kernel_rfl) (λ_ _ r=>r))) ?_
  trivial
 rintro u24 b2 W3 S4 ⟨f24,-⟩;replace f24:TelF W3 u24 E' lt:=f24;refine go0 2 [] [] ?_;refine fV 10 0 [.pu,.ld 0 0,.pu,.pu,.pu,.ld 2 10,.pu,.pu,.ef (λgh=>Vi rr.1) 2 (λgh=>.box b (pL (gh 8) rr.2)) (λgh hh=>PsI hh (gh 8) rr.2),.pu] [(8,false)] (Aj (λ_ _ _ s c=>c.sees s) (trivial)) ?_ ?_
 ·intro R hT hA hmono;refine Aj (r_call1 hT hA hmono ⟨λ_ _=>by kernel_rfl,λ_ _=>by kernel_rfl,λ_ _=>by kernel_rfl⟩ 58 (λu=>Vi rr.1) [0,1,5,6,7] 8 (by kernel_rfl) (λ_=>by kernel_rfl) 2 (GN R 2) (by kernel_rfl) (by kernel_rfl) (by kernel_rfl) b (λgh=>(pL u s)) (λgh=>(pL (gh 8) rr.2)) (λ_=>by kernel_rfl) (λ_=>by kernel_rfl) 131 (λgh=>#[Vp b,.agg (eA u24 E'),sL (agJ 5 u),sL (agJ 5 u24),Vi 0]) (λ_ _=>by kernel_rfl) (λgh H sH fH lent=>C1.facts (R:=R) (x:=gh) (N':=λgh=>(pL (gh 8) rr.2)) (i:=8) (n:=0) (F:=(λu=>Vi rr.1)) (N:=λu=>(pL u rr.2)) (G:=λu hh=>PsI hh u rr.2) (f:=λgh hh=>PsI hh (gh 8) rr.2) (hB _ _ (k.sees (S4.trans sH)) (f24.sees sH)) (by kernel_rfl) (by kernel_rfl) (λ_=>by kernel_rfl) (λ_ _ r=>r))) ?_
  trivial
 rintro u36 W5 S6 ⟨f36,-⟩;replace f36:PsI W5 u36 rr.2:=f36;refine go0 4 [] [] ?_;refine hQ.toB [Vi rr.1] [(pL u36 rr.2)] (λH sH=>?_);exact ⟨_,rfl,u36,rfl,rfl,(f36.sees sH)⟩
section
variable {fm:Fm} {p:Pol} {ρ:List Int} {lv:Nat -> Nat} {k:Nat} {s:Ps}
theorem out_ok {E:Eg} (h1:EgOk E ρ lv) (hl:E.last <= 1073741000):(nY E ρ).out.length <= E.fm.fields.length /\ ∀ x∈(nY E ρ).out,OkL (toL x):=⟨setE_fit h1,λx hx=>by
 obtain ⟨a,b,c⟩:=setE_out h1 x hx
 have:=h1.l0
 have:=(setE_few h1).2.1
 exact okL_of a (by omega) c (by omega)⟩
theorem PsOk.last (hs:PsOk fm p ρ lv k s) (hk:k <= 85):s.E.last <= 1073741000:=by have:=hs.m.last; omega
theorem PsOk.okL (hs:PsOk fm p ρ lv k s) (hk:k <= 85):∀ x∈s.net,OkL (toL x):=λx hx=>(hs.ltr x hx).okL (by have:=hs.last hk; omega)
end
@[reducible] def rpRow (r:Int × Nat):List Value:=[Vi r.1,Vi (r.2:Int)]
abbrev rpRows (l:List (Int × Nat)):List (List Value):=l.map rpRow
def ps0 (f:Fm) (p:Pol) (ρ:List Int):Ps:=⟨oY (rW f p) ρ,(nY (rW f p) ρ).out,0,[]⟩
section
variable {f:Fm} {ρ:List Int} {lv:Nat -> Nat} {p:Pol}
theorem ps0_ok (hok:OkFm f ρ lv) (h1:1 <= f.fields.length) (hp:p.ok):PsOk f p ρ lv 0 (ps0 f p ρ):=by
 have h0:=newE_ok hok h1 hp;have hn:=(newE_last hok h1 hp).2;obtain ⟨f1,f2,f3⟩:=setE_few h0;have e:(rW f p).last=0:=rfl;have m1:=hok.pages.one;refine ⟨⟨settE_ok h0 (by omega),pY h0,rfl,rfl,by show (0:Int) <= _; omega,by show (nY (rW f p) _).last <= _; omega,Hj 0,Mj _,λx hx=>by cases hx⟩,by show (nY (rW f p) _).out.length <= _; omega,λx hx=>?_,Mj _,⟨List.pairwise_singleton _ _,λx hx=>?_,λx hx=>?_⟩,Hj 0⟩
 ·obtain ⟨a,b,c⟩:=setE_out h0 x hx;exact .of a (by omega) c
 ·rw [Pj.1 hx]; exact Tq _
 ·rw [Pj.1 hx]; show ((0:Nat):Int) <= _; omega
structure RunF (h:Vw) (u:Value) (s:Ps) (rp:List (Int × Nat)):Prop where
 ps:PsI h u s
 rp:RS h 2 (sL (agJ 7 u)) (rpRows rp)
theorem RunF.sees {h h':Vw} {u:Value} {s:Ps} {rp:List (Int × Nat)} (k:RunF h u s rp) (q:Sees h h'):RunF h' u s rp:=⟨k.ps.sees q,k.rp.sees q⟩
def RunR (m:Nat) (s:Ps) (rp:List (Int × Nat)) (r:Value) (h:Vw):Prop:=∃ u,r=.tuple #[sL (agJ 7 u),.agg #[sL (agJ 0 u),sL (agJ 1 u),Vi s.E.pol.t,Vi s.E.pol.b,Vi s.E.pol.c,sL (agJ 2 u),sL (agJ 3 u),sL (agJ 4 u),Vi s.E.now,Vi s.E.last],sL (agJ 5 u),.agg #[Vi (s.t:Int),sL (agJ 6 u),.bool ((s.t:Int) == (m:Int))],Vi 0] /\ RunF h u s rp
theorem runR_mk {m:Nat} {h:Vw} {w x:Value} {s:Ps} {rp:List (Int × Nat)} {bd:Bool} (k:PsI h w s) (q:RS h 2 (sL x) (rpRows rp)) (hb:bd=((s.t:Int) == (m:Int))):RunR m s rp (.tuple #[sL x,.agg (eA w s.E),sL (agJ 5 w),.agg #[Vi (s.t:Int),sL (agJ 6 w),.bool bd],Vi 0]) h:=by
 subst hb;exact ⟨.agg #[agJ 0 w,agJ 1 w,agJ 2 w,agJ 3 w,agJ 4 w,agJ 5 w,agJ 6 w,x],by kernel_rfl,⟨⟨⟨k.eng.form,k.eng.inp,k.eng.calls,k.eng.vals⟩,k.net,k.path⟩,q⟩⟩
theorem stP_take {s:Ps} {es:List Ev} {k:Nat} {e:Ev} (h:es[k]?=some e):stP ρ s (es.take (k + 1))=(evF ρ (stP ρ s (es.take k)) e).2 /\ rpRows (rpP ρ s (es.take (k + 1)))=rpRows (rpP ρ s (es.take k))++[[Vi (evF ρ (stP ρ s (es.take k)) e).1,Vi ((evF ρ (stP ρ s (es.take k)) e).2.t:Int)]]:=by
 rw [Ov,h];refine ⟨stP_snoc _ _ _ _,?_⟩;show rpRows (rpP ρ s (es.take k++[e]))=_;rw [rpP_snoc]; exact Mk
end
section
variable {fm:Fm} {p:Pol} {ρ:List Int} {lv:Nat -> Nat} {k:Nat} {s:Ps}
theorem event_t (fk:fm.fields.length <= 12) (hs:PsOk fm p ρ lv k s) (hk:k <= 85) (kd:Int) (n:Nat) (nm:ByteArray) (v:Vl) (he:EvOk fm.fields ⟨kd,(n:Int),nm,v⟩) (h24:kd=2\/kd=4) (b:Nat) (u:Value) (h:Vw) (kI:PsI h u s) :
  C1 Tryz.prog 86 #[.pointer (some ⟨b,0,none⟩),.agg #[Vi kd,Vi (n:Int),.string nm,Vi v.k,Vi v.n,.string v.s]] h b (pL u s) (λv1 cs H=>PsR (evF ρ s ⟨kd,(n:Int),nm,v⟩) v1 cs H):=by
 have hm:=hs.m;have hlast:=hs.last hk;have hokl:=hs.okL hk;have hnet:=hs.net;have h1:1 <= kd:=he.k1;have h8:kd <= 8:=he.k8;have hn0:(n:Int) <= 100:=he.n1;have hfl:s.E.fm.fields.length <= 12:=by rw [hm.efm]; exact fk
 have hknw:kd=1\/kd=3 -> v.known:=he.val;have hn24:n <= 1000:=by omega
 rcases h24 with q | q <;> subst q
 ·unfold evF
  dsimp only
  rw [Bj (by decide),Cj rfl];have ht:1 <= (n:Int):=he.tick rfl;have hnow:=hm.now;have hok:=tickE_ok hm.ok (n:=(n:Int)) (by omega) (by omega);obtain ⟨o1,o2⟩:=out_ok hok hlast;have o3:s.E.fm.fields.length=(dZ s.E (n:Int)).fm.fields.length:=rfl;have o4:(tickT s.E (n:Int)).length <= s.E.fm.fields.length:=askT_len
  have:=(setE_few hok).2.1
  have:(dZ s.E (n:Int)).last=s.E.last:=rfl
  refine ev_tick s _ _ n nm v b u h kI rfl ⟨by rw [Bk]; omega,λx hx=>?_⟩ λH q=>tick_any s.E ρ lv hm.ok hm.se (n:Int) (by omega) (by omega) (by omega) (by omega) u H q;rcases Qj.1 hx with q | q
  ·obtain ⟨a1,a2⟩:=tickT_ok hm.ok x q;exact okL_of a1 (tick_ids hm.ok x q) a2 (by omega)
  ·exact o2 x q
 ·have e:keepF s (losF s.net n)=evF ρ s ⟨4,(n:Int),nm,v⟩:=by
   unfold evF
   dsimp only
   rw [Bj (by decide),Bj (by decide),Bj (by decide),Cj rfl];simp only [Int.toNat_natCast];unfold losF
   by_cases g:n < s.net.length
   ·rw [Cj g,Cj g]; rfl
   ·rw [Bj g,Bj g]; rfl
  rw [<- e];refine ev_keep 4 s _ n nm v b u h kI (λh0=>?_) (.inr (.inl ⟨rfl,λv1 H q=>p_lose q n hn24⟩));unfold losF at h0 ⊢
  by_cases g:n < s.net.length
  ·rw [Cj g];exact ⟨Yk (List.length_eraseIdx_le _ _) hnet,λy hy=>hokl y (Hw hy)⟩
  ·rw [Bj g] at h0; cases h0
end
section
variable {f:Fm} {ρ:List Int} {lv:Nat -> Nat} {p:Pol}
set_option maxHeartbeats 2000000 in
theorem run_t (hok:OkFm f ρ lv) (h1:1 <= f.fields.length) (fk:f.fields.length <= 12) (hp:p.ok) (es:List Ev) (hes:∀ e∈es,EvOk f.fields e) (h24:∀ e∈es,e.kind=2\/e.kind=4) (hl:es.length <= 80) (fv pv sl:Value) (h:Vw) (hf:IsForm h fv pv f) (hr:RS h 6 sl (es.map Ev.cells)) :
  C0 Tryz.prog 32 #[.agg #[fv,pv],.agg #[Vi p.t,Vi p.b,Vi p.c],sl] h (λr h'=>RunR f.pages.length (stP ρ (ps0 f p ρ) es) (rpP ρ (ps0 f p ρ) es) r h'):=by
 have hN:=λH q=>new_any f ρ lv hok h1 p hp fv pv H q;have hO:=λk (hk:k <= es.length)=>by
  have:=(ps0_ok hok h1 hp).run (es.take k) (λe he=>hes e (List.mem_of_mem_take he)) (by rw [Ck]; omega)
  rw [Ck,Nat.min_eq_left hk] at this;exact this
 obtain ⟨ws,B,d,e2,-⟩:=oX hf.pages;obtain ⟨A,c,rfl,-⟩:=hr.form;rw [Ij] at *;have m1:=hok.pages.one;have hb0:false=(((ps0 f p ρ).t:Int) == ((ps0 f p ρ).E.fm.pages.length:Int)):=(Lj.2 (by show ((0:Nat):Int)≠(f.pages.length:Int); omega)).symm;have hst:=λk e (q:es[k]?=some e)=>stP_take (ρ:=ρ) (s:=ps0 f p ρ) q;have hend:stP ρ (ps0 f p ρ) es=stP ρ (ps0 f p ρ) (es.take es.length) /\ rpP ρ (ps0 f p ρ) es=rpP ρ (ps0 f p ρ) (es.take es.length):=by rw [Pk]; exact ⟨rfl,rfl⟩
 rw [hend.1,hend.2];clear hend;generalize hn:es.length=n at *;refine pQ Tryz.func32 λhbx hbad Q hQ=>?_;refine go3 7 [.own,.own,.own] [] ?_;intro b1 b2 b3;refine go1 19 [.own,.b 3 0,.b 2 0] [(21,.bool (decide ((n:Int) > 80)),.bool false)] ?_ (hc:=(Aj (Dj Value.bool (Kj (by omega))) (trivial)));intro b4;refine kQ (λH sH=>hN _ (hf.sees sH)) ?_; rintro _ W5 S6 ⟨u0,rfl,hu0⟩;refine go2 43 [.own,.b 0 0,.b 0 0,.own] [] ?_;intro b7 bs;refine cV 172 2 ?_;have hP0:∀ H,TelF H u0 (oY (rW f p) ρ) (nY (rW f p) ρ).out -> PsI H (.agg #[agJ 0 u0,agJ 1 u0,agJ 2 u0,agJ 3 u0,agJ 4 u0,agJ 5 u0,.slice none 0 0]) (ps0 f p ρ):=λH q=>⟨⟨q.eng.form,q.eng.inp,q.eng.calls,q.eng.vals⟩,⟨q.out,(hO 0 (Mj _)).net,λx hx=>(hO 0 (Mj _)).okL (by decide) x hx⟩,RS.nil H 1⟩;refine yQ [0,1,0,1,1,1,1,1,1] [.block 0,.seq [1,1,1,1,1,1,1]] (λ(k:Nat) X=>∃ (W8:Vw) (s:Ps) (us:Value) (bd:Bool) (ur:Value) (L:List (List Value)),X W8 [(7,Vp b3),(9,Vp b4),(14,Vp bs),(40,.slice A n c),(41,Vi (n:Int)),(42,Vi (k:Int)),(15,sL ur)] [.row (sL ur) 172 2 L,.box bs [sL (agJ 0 us),sL (agJ 1 us),Vi s.E.pol.t,Vi s.E.pol.b,Vi s.E.pol.c,sL (agJ 2 us),sL (agJ 3 us),sL (agJ 4 us),Vi s.E.now,Vi s.E.last,sL (agJ 5 us),Vi (s.t:Int),sL (agJ 6 us),.bool bd],.box b7 [sL (agJ 0 u0),sL (agJ 1 u0),Vi (((oY (rW f p) ρ).pol).t),Vi (((oY (rW f p) ρ).pol).b),Vi (((oY (rW f p) ρ).pol).c),sL (agJ 2 u0),sL (agJ 3 u0),sL (agJ 4 u0),Vi ((oY (rW f p) ρ).now),Vi ((oY (rW f p) ρ).last)],.box b4 [Vi 0,Vz,.bool false],.box b3 [Vz,Vz,Vi 0,Vi 0,Vi 0,Vz,Vz,Vz,Vi 0,Vi 0],.box b2 [Vi p.t,Vi p.b,Vi p.c],.box b1 [fv,pv]] [] /\ Sees W5 W8 /\ (k <= n) /\ (stP ρ (ps0 f p ρ) (es.take k)=s) /\ (rpRows (rpP ρ (ps0 f p ρ) (es.take k))=L) /\ (bd=((s.t:Int) == (s.E.fm.pages.length:Int))) /\ (PsI W8 us s)) (λk=>n - k) (0) (λX q=>⟨W5,ps0 f p ρ,.agg #[agJ 0 u0,agJ 1 u0,agJ 2 u0,agJ 3 u0,agJ 4 u0,agJ 5 u0,Vz],false,(Vz),[],q _ _ _ _ ⟨rfl,by kernel_rfl⟩,Sees.refl _,Mj _,rfl,rfl,hb0,hP0 _ hu0⟩) ?_;rintro k a w ⟨W8,s,us,bd,ur,L,hJ,S9,hk,hs,hL,hbd,hP⟩; refine dV hJ ?_; clear hJ a w;refine go0 6 [] [] ?_;have hOk:=hO k hk;rw [hs] at hOk;rcases (by omega:k < n\/k=n) with hlt | hke
 ·obtain ⟨e,hek⟩:∃ e,es[k]?=some e:=⟨_,Gj (by omega)⟩;have hev:=hes e (Ej hek);have hek2:=h24 e (Ej hek);obtain ⟨kd,ni,nm,v⟩:=e;obtain ⟨nn,rfl⟩:∃ nn:Nat,ni=(nn:Int):=⟨ni.toNat,(Int.toNat_of_nonneg hev.n0).symm⟩;have hrow:(es.map Ev.cells)[k]?=some [Vi kd,Vi (nn:Int),.string nm,Vi v.k,Vi v.n,.string v.s]:=by rw [Oj,hek]; rfl
  obtain ⟨t1,t2⟩:=hst k _ hek;rw [hs] at t1 t2;rw [hL] at t2;have hE:=λH q=>event_t fk hOk (by omega) kd nn nm v hev hek2 bs us H q;obtain ⟨rr,hrr⟩:∃ rr,evF ρ s ⟨kd,(nn:Int),nm,v⟩=rr:=⟨_,rfl⟩;rw [hrr] at hE t1 t2;have hll:L.length=k:=by rw [<- hL,Ij,rpP_len,Ck]; omega
  subst hbd;refine jV (t:=decide ((k:Int) < (n:Int))) (Jj (by omega)) ?_;refine go0 6 [] [] ?_;obtain ⟨b10,o11,rfl,-,c12⟩:=RS.row hr (hrow);refine qQ (c12.sees (S6.trans S9)) ?_;refine go1 10 [.ix b10 o11 n c k,.f 0 0,.own,.b 0 0,.b 0 0] [] ?_ (ho:=(Aj (by first | omega | (simp; omega)) (trivial)));intro b13;refine lQ 2 (λH sH=>hE _ (hP.sees sH)) ?_; rintro _ _ W14 S15 ⟨u2,rfl,rfl,f2⟩;refine oV 13 [.b 2 11,.fix] [] ?_;intro b16 W17 S18;refine goa0 9 [.ap 1 0 L [[Vi rr.1,Vi (rr.2.t:Int)]]] [(59,Vi (IntKind.i64.wrap ((k:Int) + 1)),Vi ((k:Int) + 1))] ?_ (ho:=(Aj (by constructor <;> (simp; omega)) (trivial))) (hc:=(Aj (jJ (by omega) (by omega)) (trivial)));intro v58 W19 S20;exact iV (k + 1) (λX q=>⟨W19,rr.2,u2,((rr.2.t:Int) == (rr.2.E.fm.pages.length:Int)),v58,(L++[[Vi rr.1,Vi (rr.2.t:Int)]]),q _ _ _ _ ⟨rfl,by kernel_rfl⟩,(S9.trans (S15.trans (S18.trans S20))),by omega,t1,t2,rfl,(f2.sees (S18.trans S20))⟩)
 ·skip;have hpl:(s.E.fm.pages.length:Int)=(f.pages.length:Int):=by rw [hOk.m.efm]
  rw [hpl] at hbd;refine tQ (t:=decide ((k:Int) < (n:Int))) (Kj (by omega)) ?_;refine go0 2 [] [] ?_;refine xQ ?_;refine go0 3 [] [] ?_;refine fV 18 0 [.pu,.pu,.pu,.pu,.ld 1 0,.pu,.pu,.pu,.ld 1 10,.pu,.pu,.pu,.ld 1 11,.pu,.st 4 0,.pu,.st 3 0,.pu] [] (trivial) ?_ ?_
  ·intros; trivial
  rintro W21 S22 -;refine go0 2 [] [] ?_;refine vQ 0 (v:=sL ur) (e:=172) (kk:=2) (l:=L) ?_; intro W23 S24 fr;rw [<- hL] at fr;refine hQ.to [sL ur,.agg (eA us s.E),sL (agJ 5 us),.agg #[Vi (s.t:Int),sL (agJ 6 us),.bool bd],Vi 0] (λH sH=>?_) (ix:=[3,2]);exact by rw [<- hke,hs]; exact runR_mk (hP.sees (S22.trans (S24.trans sH))) (fr.sees sH) hbd
end
end Go.Proofs.YthgcgciceejicaaGreatDoor
