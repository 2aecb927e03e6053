/-
  For all raw things and numbers TopLost returns true: if nobody ever answers, in the end nobody waits.
-/
import Derived.Test.YthgcgciceejicaaGreatDoorZT51
import Derived.Test.YthgcgciceejicaaGreatDoorZT54
set_option maxRecDepth 100000
namespace Go.Proofs.YthgcgciceejicaaGreatDoor
open Go.RowKit
set_option linter.unusedVariables false
theorem pend3_any (v:Vl) (h:Vw):C0 Tryz.prog 33 #[.agg #[Vi v.k,Vi v.n,.string v.s]] h (λr _=>r=.bool (v.k == 4)):=by
 refine pQ Tryz.func33 λhbx hbad Q hQ=>?_;refine go1 15 [.own,.b 0 0] [] ?_;intro b1;refine hQ.to [.bool (v.k == 4)] (λH sH=>?_);exact rfl
theorem idxLo_any (l:List Vl) (A:Option Addr) (cap:Nat) (h:Vw) (hr:RS h 3 (.slice A l.length cap) (lZ l)) (hl:l.length <= 1000000) (hno:∀ x∈l,x.k≠4) :
  C0 Tryz.prog 66 #[.slice A l.length cap,.func (.func 33) #[] #[]] h (λr _=>r=Vi (-1)):=by
 generalize hL:l.length=len at *;refine pQ Tryz.func66 λhbx hbad Q hQ=>?_;refine go0 14 [] [] ?_;refine yQ [0,1,0,1] [.block 0,.seq [1,1]] (λ(k:Nat) X=>∃ (W1:Vw) ,X W1 [(0,.slice A len cap),(1,.func (.func 33) #[] #[]),(7,Vi (len:Int)),(8,Vi (k:Int))] [] [] /\ Sees h W1 /\ (k <= len)) (λk=>len - k) (0) (λX q=>⟨h,q _ _ _ _ ⟨rfl,by kernel_rfl⟩,Sees.refl _,Mj _⟩) ?_;rintro k a w ⟨W1,hJ,S2,hk⟩; refine dV hJ ?_; clear hJ a w;refine go0 6 [] [] ?_;rcases (by omega:k < len\/k=len) with hlt | hke
 ·obtain ⟨q,hqk⟩:∃ q,l[k]?=some q:=⟨_,Gj (by omega)⟩;have hrow:(lZ l)[k]?=some [Vi q.k,Vi q.n,.string q.s]:=by rw [Oj,hqk]; rfl
  have hq1:=λH=>pend3_any q H;rw [Lj.2 (hno q (Ej hqk))] at hq1;refine jV (t:=decide ((k:Int) < (len:Int))) (Jj (by omega)) ?_;refine go0 15 [] [] ?_;obtain ⟨b3,o4,rfl,-,c5⟩:=RS.row hr (hrow);refine qQ (c5.sees S2) ?_;refine go0 13 [.ix b3 o4 len cap k,.f 0 0,.cl 33 #[.agg #[Vi q.k,Vi q.n,.string q.s]] (.bool false)] [(18,Vi (IntKind.i64.wrap ((k:Int) + 1)),Vi ((k:Int) + 1))] ?_ (ho:=(Aj (by first | omega | (simp; omega)) (Aj (λH sH=>hq1 _) (trivial)))) (hc:=(Aj (jJ (by omega) (by omega)) (trivial)));exact iV (k + 1) (λX q=>⟨W1,q _ _ _ _ ⟨rfl,by kernel_rfl⟩,S2,by omega⟩)
 ·skip;refine tQ (t:=decide ((k:Int) < (len:Int))) (Kj (by omega)) ?_
  refine go0 2 [] [] ?_;refine xQ ?_;refine go0 8 [] [] ?_;refine hQ.to [Vi (-1)] (λH sH=>?_);exact rfl
theorem contLo_any (l:List Vl) (v:Value) (h:Vw) (hr:RS h 3 v (lZ l)) (hl:l.length <= 1000000) (hno:∀ x∈l,x.k≠4) :
  C0 Tryz.prog 23 #[v,.func (.func 33) #[] #[]] h (λr _=>r=.bool false):=by
 obtain ⟨A,cap,rfl,-⟩:=hr.form;rw [Ij] at *;have hi:=λH q1=>idxLo_any l A cap H q1 hl hno;refine pQ Tryz.func23 λhbx hbad Q hQ=>?_;refine go0 15 [.cl 66 #[.slice A l.length cap,.func (.func 33) #[] #[]] (Vi (-1))] [] ?_ (ho:=(Aj (λH sH=>hi _ (hr.sees sH)) (trivial)));refine hQ.to [.bool false] (λH sH=>?_);exact rfl
theorem look_take (fs:List Fd) (k:Nat) (f:Fd) (h:fs[k]?=some f):eW (fs.take (k + 1))=eW (fs.take k) + if f.kind=3 then 1 else 0:=by
 unfold eW;rw [cZ _ k f h,List.countP_append,List.countP_cons,List.countP_nil,Gq]
 by_cases h1:f.kind=3
 ·rw [Cj (Jj h1),Cj h1]
 ·rw [Bj (by rw [decide_eq_true_iff]; exact h1),Bj h1]
theorem look_few (fs:List Fd) (k:Nat):eW (fs.take k) <= fs.length:=Yk List.countP_le_length (by rw [Ck]; omega)
theorem begE_lostQ (l:List RawD) {p:Pol} (hp:p.ok):Lst (gQ l) p (rhoL (pW (gQ l).fields)) (lvF l) 0 (begE l p):=by
 have h0:=newE_ok (form_okFm l) (form_one l) hp;have e:∀ c∈(rW (gQ l) p).calls,c=clZ:=λc hc=>(List.mem_replicate.1 hc).2;have hla:=newE_last (form_okFm l) (form_one l) hp;have hok:=begE_ok l hp;refine ⟨hok,begE_settled l hp,rfl,rfl,rfl,by show (0:Int) <= _; simp,by show (nY (rW (gQ l) p) _).last <= _; omega,λc hc hs=>?_,λi f c hf h3 hc=>?_⟩
 ·obtain ⟨i,hi⟩:=Bq hc;have hil:i < (gQ l).fields.length:=by
   have:=(Nj.1 hi).1
   rw [hok.calls.len] at this; exact this
  obtain ⟨f,hf⟩:∃ f,(gQ l).fields[i]?=some f:=⟨_,Gj hil⟩
  by_cases h3:f.kind=3
  ·obtain ⟨d,hd⟩:∃ d,(rW (gQ l) p).calls[i]?=some d:=⟨_,Gj (by rw [h0.calls.len]; exact hil)⟩;obtain ⟨id,-,q⟩:=set_call h0 (by omega) hf h3 hd;have q:(begE l p).calls[i]?=_:=q;rw [hi] at q;rw [Dk q] at hs ⊢;rw [e d (Ej hd)] at hs ⊢;exact turn_soon hp (λz=>absurd (show (0:Int)=1 from z) (by decide)) hs
  ·obtain ⟨d1,d2,-⟩:=hok.calls.at_ i f c hf hi;exact absurd (d2 (by omega)).1 h3
 ·obtain ⟨d1,d2,-⟩:=hok.calls.at_ i f c hf hc;refine d1.idle ?_
  by_cases q:c.st=0
  ·exact q
  ·exact absurd (d2 q).1 h3
theorem lost_run (l:List RawD) {P:Pol} (hp:P.ok) (hc:P.c <= 100) (hfew:P.t.toNat * eW (gQ l).fields * (1 + 2 * eW (gQ l).fields) <= 80) (fv pv sl:Value) (h:Vw) (hf:IsForm h fv pv (gQ l)) (hr:RS h 6 sl ((evsL (2 * eW (gQ l).fields) P.c (P.t.toNat * eW (gQ l).fields)).map Ev.cells)) :
  C0 Tryz.prog 32 #[.agg #[fv,pv],.agg #[Vi P.t,Vi P.b,Vi P.c],sl] h (λr h'=>∃ (u:Value) (E:Eg) (t:Int) (b:Bool),r=.tuple #[sL (agJ 7 u),.agg (eA u E),sL (agJ 5 u),.agg #[Vi t,sL (agJ 6 u),.bool b],Vi 0] /\ IsEng h' u E /\ E.vals.length <= 1000000 /\ ∀ x∈E.vals,x.k≠4):=by
 have hb1:=hp.b1;have hbc:=hp.bc;have ht1:=hp.t1;have hfl:(gQ l).fields.length <= 12:=by have:=form_len l; have:=lW l; omega
 have h0:Lst (gQ l) P (rhoL (pW (gQ l).fields)) (lvF l) 0 (oY (rW (gQ l) P) (rhoL (pW (gQ l).fields))):=begE_lostQ l hp;obtain ⟨hL,hD⟩:=lost_doneQ h0 hp;have ho:(nY (rW (gQ l) P) (rhoL (pW (gQ l).fields))).out.length <= eW (gQ l).fields:=out_look (lv:=lvF l) (newE_ok (form_okFm l) (form_one l) hp);have hes:∀ e∈evsL (2 * eW (gQ l).fields) P.c (P.t.toNat * eW (gQ l).fields),EvOk (gQ l).fields e:=λe he=>by
  rcases evsL_mem he with rfl | rfl
  ·exact ⟨by decide,by decide,by decide,by decide,λq=>absurd q (by decide),λq=>q.elim (λq=>absurd q (by decide)) (λq=>absurd q (by decide)),.inr (.inr (by decide))⟩
  ·exact ⟨by show (1:Int) <= 2; decide,by show (2:Int) <= 8; decide,by show 0 <= P.c; omega,hc,λ_=>by show 1 <= P.c; omega,λq=>q.elim (λq=>absurd (show (2:Int)=1 from q) (by decide)) (λq=>absurd (show (2:Int)=3 from q) (by decide)),.inr (.inr (show (2:Int)≠1 by decide))⟩
 have h24:∀ e∈evsL (2 * eW (gQ l).fields) P.c (P.t.toNat * eW (gQ l).fields),e.kind=2\/e.kind=4:=λe he=>by
  rcases evsL_mem he with rfl | rfl
  ·exact .inr rfl
  ·exact .inl rfl
 have hlen:=evsL_len (2 * eW (gQ l).fields) P.c (P.t.toNat * eW (gQ l).fields);obtain ⟨M,hM⟩:∃ M,P.t.toNat * eW (gQ l).fields=M:=⟨_,rfl⟩;have hm6:eW (gQ l).fields <= 12 /\ M <= 80:=by
  have a1:1 * eW (gQ l).fields <= P.t.toNat * eW (gQ l).fields:=Rv _ (by omega);have a2:M * 1 <= M * (1 + 2 * eW (gQ l).fields):=Nat.mul_le_mul_left _ (by omega);have a3:=look_few (gQ l).fields (gQ l).fields.length;rw [Pk] at a3;rw [hM] at hfew;omega
 rw [hM] at hfew hes h24 hlen hr;obtain ⟨net,hend,-⟩:=play_lost hL hp (Hj _) (by omega) (n0:=(nY (rW (gQ l) P) (rhoL (pW (gQ l).fields))).out) (by omega) 0 [] M (by omega);have hno:=hD M hM (by omega);have hLM:=hL M (by omega);have hpd:=none_pending hLM.ok hLM.se hno;have hvl:=hLM.ok.vlen;rw [hLM.efm] at hvl;refine (run_t (form_okFm l) (form_one l) hfl hp _ hes h24 (by omega) fv pv sl h hf hr).mono λr h' _ z=>?_;obtain ⟨u,rfl,q⟩:=z;have q1:=q.ps.eng;have e:(stP (rhoL (pW (gQ l).fields)) (ps0 (gQ l) P (rhoL (pW (gQ l).fields))) (evsL (2 * eW (gQ l).fields) P.c M)).E=fW (rhoL (pW (gQ l).fields)) P.c (oY (rW (gQ l) P) (rhoL (pW (gQ l).fields))) M:=Dj Ps.E hend;refine ⟨u,_,_,_,rfl,q1,?_,?_⟩
 ·rw [e]; omega
 ·rw [e]; exact hpd
set_option maxHeartbeats 2000000 in
theorem topLost_c (l:List RawD) (sl:Value) (a b:Int) (h:Vw) (lk:Lk h) (hl:RS h 4 sl (l.map RawD.cs)) (ll:l.length * 40 <= reachBytes) (ol:∀ r∈l,r.ok) (a0 : -9223372036854775808 <= a) (a1:a <= 9223372036854775807) (b0 : -9223372036854775808 <= b) (b1:b <= 9223372036854775807) :
  C0 Tryz.prog 8 #[sl,Vi a,Vi b] h (λv _=>v=.bool true):=by
 have hPol:=λH=>c_policy a b 20 H a0 a1 b0 b1 (by decide) (by decide);have hp:=polE_ok a b 20;have hpc:(polE a b 20).c <= 100:=by
  have h2:=tX b 50 (by decide);have h3:cJ 20 200=20:=by decide
  show 1 + cJ b 50 + cJ 20 200 <= 100;omega
 generalize polE a b 20=P at *;have hCt:=λH q=>counts_c H q;have hF:=form_c l sl;have hfl:(gQ l).fields.length <= 12:=by have:=form_len l; have:=lW l; omega
 have hR:=λfv pv sl H q q1 q2=>lost_run l hp hpc q fv pv sl H q1 q2;generalize gQ l=fm at *;have hf0:=look_few fm.fields;have t1:=hp.t1;have t6:=hp.t6;obtain ⟨T,hT⟩:∃ T:Nat,P.t=(T:Int):=⟨P.t.toNat,by omega⟩;have hT2:P.t.toNat=T:=by omega
 rw [hT2] at hR;have hfull:eW (fm.fields.take fm.fields.length)=eW fm.fields:=by rw [Pk]
 obtain ⟨A0,c0,rfl,-,-,-⟩:=hl.form;rw [Ij] at *;generalize hN:fm.fields.length=n at *;generalize hNp:fm.pages.length=np at *;obtain ⟨mx,hmx⟩:∃ k,eW fm.fields=k:=⟨_,rfl⟩;rw [hmx] at hR hfull;refine pQ Tryz.func8 λhbx hbad Q hQ=>?_;refine go0 8 [] [] ?_;refine kQ (λH sH=>hF _ (hl.sees sH) ll ol) ?_; rintro _ W1 S2 ⟨A,c,B,d,rfl,hfm⟩;refine go2 24 [.cl 12 #[Vi a,Vi b,Vi 20] (.agg #[Vi P.t,Vi P.b,Vi P.c]),.own,.own,.b 1 0,.b 0 0,.b 1 0] [] ?_ (ho:=(Aj (λH sH=>hPol _) (trivial)));intro b3 b4;obtain ⟨vs,Ax,cx,ex,-,-,hr4,hs4,hl4,hu4⟩:=bQ hfm.fields;rw [hN] at hr4 ex hl4;simp only [Tk] at ex;obtain ⟨rfl,-,rfl⟩:=ex;refine yQ [0,1,0,1,1,1] [.block 0,.seq [1,1,1,1]] (λ(k:Nat) X=>∃ (W5:Vw) (mm:Nat),X W5 [(7,Vp b3),(8,Vp b4),(24,.slice A n c),(25,Vi (n:Int)),(26,Vi (k:Int)),(9,Vi (mm:Int))] [.box b4 [Vi P.t,Vi P.b,Vi P.c],.box b3 [.slice A n c,.slice B np d]] [] /\ Sees W1 W5 /\ (k <= n) /\ (eW (fm.fields.take k)=mm)) (λk=>n - k) (0) (λX q=>⟨W1,0,q _ _ _ _ ⟨rfl,by kernel_rfl⟩,Sees.refl _,Mj _,rfl⟩) ?_;rintro k a w ⟨W5,mm,hJ,S6,hk,hmm⟩; refine dV hJ ?_; clear hJ a w;refine go0 6 [] [] ?_;rcases (by omega:k < n\/k=n) with hlt | hke
 ·obtain ⟨g,hg⟩:∃ g,fm.fields[k]?=some g:=⟨_,Gj (by omega)⟩;obtain ⟨v,hv⟩:∃ v,vs[k]?=some v:=⟨_,Gj (by omega)⟩;have hrow:=yK hg hv;obtain ⟨Au,nu,cu,rfl⟩:=(AllSrc.get hs4 hg hv).slice;have hls:=look_take fm.fields k g hg;have hf1:=hf0 (k + 1);rw [hmm] at hls;refine jV (t:=decide ((k:Int) < (n:Int))) (Jj (by omega)) ?_;refine go0 6 [] [] ?_;obtain ⟨b7,o8,rfl,-,c9⟩:=RS.row hr4 (hrow);refine qQ (c9.sees S6) ?_;refine go1 13 [.ix b7 o8 n c k,.f 0 0,.own,.b 0 0,.b 0 1] [] ?_ (ho:=(Aj (by first | omega | (simp; omega)) (trivial)));intro b10
  by_cases h3:g.kind=3
  ·rw [Cj h3] at hls;refine jV (t:=g.kind == 3) (Xj.2 h3) ?_;refine go0 11 [] [(34,Vi (IntKind.i64.wrap ((mm:Int) + 1)),Vi ((mm:Int) + 1)),(35,Vi (IntKind.i64.wrap ((k:Int) + 1)),Vi ((k:Int) + 1))] ?_ (hc:=(Aj (jJ (by omega) (by omega)) (Aj (jJ (by omega) (by omega)) (trivial))));exact iV (k + 1) (λX q=>⟨W5,mm + 1,q _ _ _ _ ⟨rfl,by kernel_rfl⟩,S6,by omega,hls⟩)
  ·skip;rw [Bj h3] at hls
   refine tQ (t:=g.kind == 3) (Lj.2 h3) ?_;refine go0 7 [] [(35,Vi (IntKind.i64.wrap ((k:Int) + 1)),Vi ((k:Int) + 1))] ?_ (hc:=(Aj (jJ (by omega) (by omega)) (trivial)));exact iV (k + 1) (λX q=>⟨W5,mm,q _ _ _ _ ⟨rfl,by kernel_rfl⟩,S6,by omega,hls⟩)
 ·skip;have hcm:mm=mx:=by rw [<- hmm,hke]; exact hfull
  subst hcm;have hcn:=hf0 k;rw [hmm] at hcn;obtain ⟨M,hM⟩:∃ M,T * mm=M:=⟨_,rfl⟩;obtain ⟨k2,hk2⟩:∃ k2,2 * mm=k2:=⟨_,rfl⟩;obtain ⟨Q,hQ9⟩:∃ Q,M * (1 + k2)=Q:=⟨_,rfl⟩;rw [hM,hk2,hQ9] at hR;have hM72:M <= 6 * 12:=by rw [<- hM]; exact Nat.mul_le_mul (by omega) (by omega)
  have hQb:Q <= 72 * 25:=by rw [<- hQ9]; exact Nat.mul_le_mul (by omega) (by omega)
  have hMi:P.t * (mm:Int)=(M:Int):=by rw [<- hM,hT,Int.natCast_mul]
  have hQi:(M:Int) * (1 + (k2:Int))=(Q:Int):=by rw [<- hQ9,Int.natCast_mul,Int.natCast_add]; rfl
  have hk2i:2 * (mm:Int)=(k2:Int):=by omega
  have hQ2:P.t * (mm:Int) * (1 + 2 * (mm:Int))=(Q:Int):=by rw [hMi,hk2i]; exact hQi
  refine tQ (t:=decide ((k:Int) < (n:Int))) (Kj (by omega)) ?_;refine go0 2 [] [] ?_;refine xQ ?_;refine go0 16 [.b 0 0] [(39,Vi (IntKind.i64.wrap (P.t * (mm:Int))),Vi (P.t * (mm:Int))),(41,Vi (IntKind.i64.wrap (2 * (mm:Int))),Vi (2 * (mm:Int))),(42,Vi (IntKind.i64.wrap (1 + (2 * (mm:Int)))),Vi (1 + (2 * (mm:Int)))),(43,Vi (IntKind.i64.wrap ((P.t * (mm:Int)) * (1 + (2 * (mm:Int))))),Vi ((P.t * (mm:Int)) * (1 + (2 * (mm:Int)))))] ?_ (hc:=(Aj (jJ (by omega) (by omega)) (Aj (jJ (by omega) (by omega)) (Aj (jJ (by omega) (by omega)) (Aj (jJ (by omega) (by omega)) (trivial))))))
  by_cases h80:80 < Q
  ·refine jV (t:=decide (((P.t * (mm:Int)) * (1 + (2 * (mm:Int)))) > 80)) (Jj (by omega)) ?_;refine go0 2 [] [] ?_;refine go0 6 [.cl 13 #[] (.bool true)] [] ?_ (ho:=(Aj (λH sH=>hCt _ (lk.sees (S2.trans (S6.trans sH)))) (trivial)));refine hQ.to [.bool true] (λH sH=>?_);exact rfl
  ·skip;refine tQ (t:=decide (((P.t * (mm:Int)) * (1 + (2 * (mm:Int)))) > 80)) (Kj (by omega)) ?_
   refine go0 18 [.b 0 0] [(49,Vi (IntKind.i64.wrap (P.t * (mm:Int))),Vi (P.t * (mm:Int)))] ?_ (hc:=(Aj (jJ (by omega) (by omega)) (trivial)));refine cV 88 6 ?_;refine yQ [0,1,0,1,1,1,1,1,1] [.block 2,.seq [1,1,1,1,1,1,1]] (λ(r:Nat) X=>∃ (W11:Vw) (ur:Value) (L1:List (List Value)),X W11 [(7,Vp b3),(8,Vp b4),(9,Vi (mm:Int)),(49,Vi (P.t * (mm:Int))),(50,Vi (r:Int)),(12,sL ur)] [.row (sL ur) 88 6 L1,.box b4 [Vi P.t,Vi P.b,Vi P.c],.box b3 [.slice A n c,.slice B np d]] [] /\ Sees W5 W11 /\ (r <= M) /\ (L1=(evsL k2 P.c r).map Ev.cells)) (λr=>M - r) (0) (λX q=>⟨W5,(Vz),[],q _ _ _ _ ⟨rfl,by kernel_rfl⟩,Sees.refl _,Mj _,rfl⟩) ?_;rintro r a w ⟨W11,ur,L1,hJ,S12,hr1,hL1⟩; refine dV hJ ?_; clear hJ a w;refine go0 6 [] [] ?_;have hl1:L1.length=r * (1 + k2):=by rw [hL1,Ij,evsL_len]
   rcases (by omega:r < M\/r=M) with hrlt | hrM
   ·have hl3:(r + 1) * (1 + k2) <= Q:=by rw [<- hQ9]; exact Rv _ (by omega)
    rw [Uq] at hl3;refine jV (t:=decide ((r:Int) < (P.t * (mm:Int)))) (Jj (by omega)) ?_;refine go0 13 [] [(53,Vi (IntKind.i64.wrap (2 * (mm:Int))),Vi (2 * (mm:Int)))] ?_ (hc:=(Aj (jJ (by omega) (by omega)) (trivial)));refine yQ [0,1,0,0,0,1,1,0,0,1,0,1,1,1,1,1,1] [.block 4,.seq [1,0,0,1,1,0,0,1,0,1,1,1,1,1,1],.block 3,.seq [1,1,1,0,0,1,0,1,1,1,1,1,1]] (λ(j:Nat) X=>∃ (W13:Vw) (us:Value) (L2:List (List Value)),X W13 [(7,Vp b3),(8,Vp b4),(9,Vi (mm:Int)),(49,Vi (P.t * (mm:Int))),(50,Vi (r:Int)),(53,Vi (2 * (mm:Int))),(54,Vi (j:Int)),(12,sL us)] [.row (sL us) 88 6 L2,.box b4 [Vi P.t,Vi P.b,Vi P.c],.box b3 [.slice A n c,.slice B np d]] [] /\ Sees W11 W13 /\ (j <= k2) /\ (L2=(evsL k2 P.c r++List.replicate j loseE).map Ev.cells)) (λj=>k2 - j) (0) (λX q=>⟨W11,ur,L1,q _ _ _ _ ⟨rfl,by kernel_rfl⟩,Sees.refl _,Mj _,by rw [List.replicate_zero,Lw]; exact hL1⟩) ?_;rintro j a w ⟨W13,us,L2,hJ,S14,hj1,hL2⟩; refine dV hJ ?_; clear hJ a w;refine go0 6 [] [] ?_;have hl2:L2.length=r * (1 + k2) + j:=by rw [hL2,Ij,Bk,evsL_len,Sv]
    rcases (by omega:j < k2\/j=k2) with hjlt | hjk
    ·skip;refine jV (t:=decide ((j:Int) < (2 * (mm:Int)))) (Jj (by omega)) ?_
     refine oV 8 [.fix] [] ?_;intro b15 W16 S17;refine goa0 9 [.ap 0 0 L2 [[Vi 4,Vi 0,Ve,Vi 0,Vi 0,Ve]]] [(60,Vi (IntKind.i64.wrap ((j:Int) + 1)),Vi ((j:Int) + 1))] ?_ (ho:=(Aj (by constructor <;> (simp; omega)) (trivial))) (hc:=(Aj (jJ (by omega) (by omega)) (trivial)));intro v59 W18 S19;exact iV (j + 1) (λX q=>⟨W18,v59,(L2++[[Vi 4,Vi 0,Ve,Vi 0,Vi 0,Ve]]),q _ _ _ _ ⟨rfl,by kernel_rfl⟩,(S14.trans (S17.trans S19)),by omega,by rw [hL2,List.replicate_succ', <- Lq,Mk (l₂:=[loseE])]; rfl⟩)
    ·skip;refine tQ (t:=decide ((j:Int) < (2 * (mm:Int)))) (Kj (by omega)) ?_
     refine go0 2 [] [] ?_;refine xQ ?_;refine oV 8 [.b 1 2,.fix] [] ?_;intro b20 W21 S22;refine goa0 9 [.ap 0 0 L2 [[Vi 2,Vi P.c,Ve,Vi 0,Vi 0,Ve]]] [(67,Vi (IntKind.i64.wrap ((r:Int) + 1)),Vi ((r:Int) + 1))] ?_ (ho:=(Aj (by constructor <;> (simp; omega)) (trivial))) (hc:=(Aj (jJ (by omega) (by omega)) (trivial)));intro v66 W23 S24;exact iV (r + 1) (λX q=>⟨W23,v66,(L2++[[Vi 2,Vi P.c,Ve,Vi 0,Vi 0,Ve]]),q _ _ _ _ ⟨rfl,by kernel_rfl⟩,(S12.trans (S14.trans (S22.trans S24))),by omega,by rw [hL2,hjk,evsL,Mk (l₂:=[tickEv P.c])]; rfl⟩)
   ·skip;refine tQ (t:=decide ((r:Int) < (P.t * (mm:Int)))) (Kj (by omega)) ?_
    refine go0 2 [] [] ?_;refine xQ ?_;refine go0 7 [.b 2 0,.b 1 0] [] ?_;refine vQ 0 (v:=sL ur) (e:=88) (kk:=6) (l:=L1) ?_; intro W25 S26 fr;rw [hL1,hrM] at fr;refine kQ (λH sH=>hR _ _ _ _ (by omega) (hfm.sees (S6.trans (S12.trans (S26.trans sH)))) (fr.sees sH)) ?_; rintro _ W27 S28 ⟨u72,E,t72,bb,rfl,hE,hvl,hpd⟩;refine go2 17 [.own,.own,.b 1 0,.b 0 0] [] ?_;intro b29 b30;have hPd:=λv H q=>contLo_any E.vals v H q hvl hpd;refine go0 15 [.cl 13 #[] (.bool true),.b 1 7,.cl 23 #[sL (agJ 4 u72),.func (.func 33) #[] #[]] (.bool false)] [] ?_ (ho:=(Aj (λH sH=>hCt _ (lk.sees (S2.trans (S6.trans (S12.trans (S26.trans (S28.trans sH))))))) (Aj (λH sH=>hPd _ _ ((hE.sees sH)).vals) (trivial))));refine hQ.to [.bool true] (λH sH=>?_);exact rfl
theorem topLost_walk (v:Value) (l:List RawD) (a b:Int) (w:World) (h:RawsOf w v l) (a0 : -9223372036854775808 <= a) (a1:a <= 9223372036854775807) (b0 : -9223372036854775808 <= b) (b1:b <= 9223372036854775807) (hL:laidMet Tryz.prog Rows.topLostRow.laid w) (hsh:w.ShapedOpen Tryz.prog) :
  Calls Tryz.prog 8 #[v,Vi a,Vi b] w λe w'=>e=.returned (.bool true) /\ Below w.heap.size w w' :=
 lawC (topLost_c l v a b ⟨w,[]⟩ (Lk.of_laid hL hsh) h.rs h.2.1 h.2.2 a0 a1 b0 b1)
namespace topLostLaw
open Go.ChangeShapes Go.WideShapes Go.ChangeAt Go.RowKit
open Go.ChangeMaps (open_string shut_string)
set_option linter.unusedVariables false
theorem contract (H:Type) (enc:TypeId × Value -> H) (W:World) (base:Nat) (args:Array Value) (ds gs:List (DataW H)) (before:List MemPlace)
  (hval0:∀ (j:Nat) t v,Tryz.f8.params[j]?=some t -> args[j]?=some v -> Value.okWide Tryz.prog W .any base t v)
  (hW:DataW.Whole enc Tryz.prog Tryz.f8.params.toList Rows.topLostSpec.vars false W args.toList ds gs before)
  (hsz0:(DataW.weightsEach Tryz.prog (Tryz.f8.params.toList++Rows.topLostSpec.plain.varTypes Tryz.prog) (ds++gs)).all (· <= reachBytes)=true) (hL:laidMet Tryz.prog Rows.topLostRow.laid W) (hsh:W.ShapedOpen Tryz.prog) :
  Calls Tryz.prog 8 args W λe W'=>∃ v,e=.returned v /\ Rows.topLostSpec.post enc Tryz.prog Tryz.f8 false true false false W args v W':=by
 have hval:∀ (j:Nat) t v,Tryz.f8.params[j]?=some t -> args[j]?=some v -> Value.okWide Tryz.prog W .any base t v:=hval0;have hsz:(DataW.weightsEach Tryz.prog (Tryz.f8.params.toList++Rows.topLostSpec.plain.varTypes Tryz.prog) (ds++gs)).all (· <= reachBytes)=true:=hsz0;have hW':=hW;obtain ⟨p,q,hA0,hV,rfl,hfz,hnd⟩:=hW;have hA:DataW.TrodAll enc Tryz.prog W 0 (λ_=>true) true Tryz.f8.params.toList args.toList ds p:=hA0;rw [Tryz.params8] at hA hval hsz;obtain ⟨v0,vs0,d0,ds0,p0,q0,hargs,rfl,rfl,h0,r0⟩:=trodAll_cons hA;obtain ⟨v1,vs1,d1,ds1,p1,q1,rfl,rfl,rfl,h1,r1⟩:=trodAll_cons r0;obtain ⟨v2,vs2,d2,ds2,p2,q2,rfl,rfl,rfl,h2,r2⟩:=trodAll_cons r1;obtain ⟨rfl,rfl,rfl⟩:=trodAll_nil r2;obtain rfl:args=#[v0,v1,v2]:=by cases args; simp_all
 obtain ⟨rfl,rfl⟩:=trodVars_none hV;have k0:=h0;have lt0:∀ x∈p0,x.block < W.heap.size:=by obtain ⟨m,hm⟩:=k0; exact DataW.trod_lt m _ _ _ hm
 obtain ⟨a0,w0⟩:=open_rows (hval 0 22 v0 rfl rfl) h0 (λes ss hd=>sized_slice hsz (j:=0) (t:=22) (elems:=es) (spare:=ss) rfl (by rw [hd]; rfl) Tryz.underlying22);have k1:=h1;have lt1:∀ x∈p1,x.block < W.heap.size:=by obtain ⟨m,hm⟩:=k1; exact DataW.trod_lt m _ _ _ hm
 obtain ⟨a1,rfl,-,-,w1⟩:=open_int Tryz.underlying3 (hval 1 3 v1 rfl rfl) h1;have k2:=h2;have lt2:∀ x∈p2,x.block < W.heap.size:=by obtain ⟨m,hm⟩:=k2; exact DataW.trod_lt m _ _ _ hm
 obtain ⟨a2,rfl,-,-,w2⟩:=open_int Tryz.underlying3 (hval 2 3 v2 rfl rfl) h2;clear hA0 hval0 hsz0;refine (topLost_walk v0 a0 a1 a2 W w0 (int_lo w1) (int_hi w1) (int_lo w2) (int_hi w2) hL hsh).mono λe W' ⟨he,bel⟩=>?_;subst he;exact ⟨_,rfl,_,_,_,[],_,[],hW',trodAll_mk1 (shut_bool Tryz.underlying4 _),(trodAll_cons_mk (Below.trod laidOutTrue (by kernel_rfl) (Yq (by kernel_rfl)) k0 bel lt0) (trodAll_cons_mk (Below.trod laidOutTrue (by kernel_rfl) (Yq (by kernel_rfl)) k1 bel lt1) (trodAll_cons_mk (Below.trod laidOutTrue (by kernel_rfl) (Yq (by kernel_rfl)) k2 bel lt2) trodAll_mk0))),rfl,bel.frame _,λh=>by cases h⟩
theorem reads (os:Os) {H:Type} (enc:TypeId × Value -> H):∃ places,DataW.whole enc Tryz.prog ((World.laidAll Tryz.prog os Rows.topLostRow.laid).forCall (λ_ _=>0) ⟨#[],#[.slice none 0 0,Vi 0,Vi 0],[]⟩).memory Tryz.f8.params.toList Rows.topLostSpec.vars false (#[.slice none 0 0,Vi 0,Vi 0]:Array Value).toList 8=some ([.nil,.lit (.int .i64 0),.lit (.int .i64 0)],[],places) :=
 ⟨[],by kernel_rfl⟩
theorem lifted (os:Os) (started:os.Started) (H:Type) (enc:TypeId × Value -> H) (FF:Stop.Interp) :
  ReturnsInHanded {} Tryz.checked os 8 .any ((OpenSpec.ofChange Rows.topLostSpec).preRow enc Tryz.prog Tryz.f8 Rows.topLostRow.domain false Rows.topLostRow.laid) (((OpenSpec.ofChange Rows.topLostSpec).at FF).post enc Tryz.prog Tryz.f8 false true false false):=by
 obtain ⟨places,hx⟩:=reads os enc;refine returnsInHanded_of_row (C:=Tryz.checked) (s:=OpenSpec.ofChange Rows.topLostSpec) ownNone started (by kernel_rfl) Tryz.func8
  (witness_row_at (enc:=enc) (C:=Tryz.checked) false (World.laidAll Tryz.prog os Rows.topLostRow.laid) #[.slice none 0 0,Vi 0,Vi 0] (World.laidAll_os _ _ _) (by kernel_rfl) (by kernel_rfl) (by kernel_rfl)
   (OpenSpec.preRow_of_cond 8 hx (by kernel_rfl) (λk hk=>by cases hk) (by kernel_rfl) (laidMet_laidAll _ (by kernel_rfl) (by kernel_rfl)))) ?_
 intro W base args ds gs before hval hW _ _ hsz hL hsh _;rw [MakeChecks.laidMetH_plain _ _ _ (by kernel_rfl)] at hL;exact contract H enc W base args ds gs before hval hW hsz hL hsh
theorem cand {a b:Bool} (h:a=true) (k:b=true):(a && b)=true:=by rw [h,k]; rfl
theorem cf1:laidOutB Tryz.prog=true:=by kernel_rfl
theorem cf2:mapsRowed Tryz.prog=true:=by kernel_rfl
theorem cf9:(Rows.topLostRow.inPlace == Tryz.prog.inPlace 8)=true:=by kernel_rfl
theorem cf10:(Rows.topLostRow.unfollowed == Tryz.prog.unfollowed 8)=true:=by kernel_rfl
theorem cf11:(Rows.topLostRow.recurses == Tryz.prog.recurses 8)=true:=by kernel_rfl
theorem cf12:(Rows.topLostRow.named == Tryz.prog.varsNamed 8)=true:=by kernel_rfl
theorem cf22:(Rows.topLostRow.plainKeys == Tryz.prog.plainKeys)=true:=by kernel_rfl
theorem cf24:Tryz.prog.stopsHeard=true:=by kernel_rfl
theorem cf25:Tryz.prog.mayEnter=true:=by kernel_rfl
theorem cf26:(Rows.topLostRow.lifted == Tryz.prog.liftsFinal)=true:=by kernel_rfl
theorem cf27:(Tryz.prog.make == some Rows.topLostRow.make)=true:=by kernel_rfl
set_option maxRecDepth 1000000 in
theorem closed:joinedFacts Tryz.pinned.checked.prog 8 Tryz.f8 (OpenSpec.ofChange Rows.topLostSpec).bare Rows.topLostRow=true :=
 (cand (cand (cand (cand (cand (cand (cand (cand (cand (cand (cand (cand (cand (cand (cand (cand (cand (cand (cand (cand (cand (cand (cand (cand (cand (cand (cand (cand (cand (cand (cand (by kernel_rfl) cf1) cf2) (by kernel_rfl)) (by kernel_rfl)) (by kernel_rfl)) (by kernel_rfl)) (by kernel_rfl)) (by kernel_rfl)) cf9) cf10) cf11) cf12) (by kernel_rfl)) (by kernel_rfl)) (by kernel_rfl)) (by kernel_rfl)) (by kernel_rfl)) (by kernel_rfl)) (by kernel_rfl)) (by kernel_rfl)) (by kernel_rfl)) cf22) (by kernel_rfl)) cf24) cf25) cf26) cf27) (by kernel_rfl)) (by kernel_rfl)) (by kernel_rfl)) (by kernel_rfl))
theorem said:Rows.TopLostSaid :=
 OpenClaim.holds_of_cond 8 Tryz.f8 rfl rfl rfl rfl rfl rfl rfl ⟨rfl,rfl,rfl,rfl,rfl⟩ rfl rfl rfl rfl rfl (by kernel_rfl) Tryz.func8 closed
  (Yq (by kernel_rfl)) (by unfold Func.isWrapper; first | (rw [Cj (by decide +kernel)]; kernel_rfl) | (rw [Bj (by decide +kernel)]; exact ⟨rfl,rfl⟩))
  (λos started H enc _ FF=>by rw [OpenClaim.pre_eq_preRow]; exact lifted os started H enc FF)
theorem plain (f : FuncId) (fn : Func) (hf : Tryz.pinned.checked.prog.funcNamed "lychway/lychwaytop.TopLost" = some f) (hfn : Tryz.pinned.checked.prog.funcs[f]? = some fn) :
  Rows.topLostCard.stood.looks=Tryz.pinned.checked.prog.looks [] /\ ∀ (j:Nat) t,fn.params[j]?=some t -> Tryz.pinned.checked.prog.wantsStandIn t=false:=by
 obtain rfl : f = 8 := Dk ((show Tryz.prog.funcNamed "lychway/lychwaytop.TopLost" = some 8 by kernel_rfl).symm.trans hf) |>.symm;obtain rfl:fn=Tryz.f8:=(Dk (Tryz.func8.symm.trans hfn)).symm;refine ⟨by kernel_rfl,λj t ht=>?_⟩;rw [Tryz.params8] at ht;have hm:=Array.mem_of_getElem? ht;simp at hm
 first
  | (obtain rfl:=hm; exact (show Tryz.prog.wantsStandIn _=false by kernel_rfl))
  | (rcases hm with rfl | rfl <;> exact (show Tryz.prog.wantsStandIn _=false by kernel_rfl))
  | (rcases hm with rfl | rfl | rfl <;> exact (show Tryz.prog.wantsStandIn _=false by kernel_rfl))
  | (rcases hm with rfl | rfl | rfl | rfl <;> exact (show Tryz.prog.wantsStandIn _=false by kernel_rfl))
end topLostLaw
theorem topLost_holds:Rows.TopLostCardSaid :=
 Claim7.holds_tied_plain_at .later [] _ _ _ _ topLostLaw.said (λ_ h=>by cases h) (by kernel_rfl) (λ_ h=>by cases h) topLost_row_tie rfl ⟨rfl,rfl⟩ (by kernel_rfl) rfl topLostLaw.plain (by kernel_rfl)
#print axioms topLost_holds
end Go.Proofs.YthgcgciceejicaaGreatDoor
