/-
  For all raw things and numbers EngineSame returns true: setting an input to its current value changes nothing and sends nothing. No condition.
-/
import Derived.Test.YtjpgjnldeafpkaaGreatZB9
import Derived.Test.YtjpgjnldeafpkaaGreatZB50
import Derived.Test.YtjpgjnldeafpkaaGreatZB52
set_option maxRecDepth 100000
namespace Go.Proofs.YtjpgjnldeafpkaaGreat
open Go.RowKit
set_option linter.unusedVariables false
theorem settled_set {E:Eg} {ρ:List Int} (h:Settled E ρ):eY E ρ=E∧(dY E ρ).out=[]∧(dY E ρ).last=E.last:=by
 obtain ⟨kn,e⟩:=h
 have e:dY E ρ=⟨E.calls,E.vals,kn,E.last,[]⟩:=e
 unfold eY
 rw [e]
 exact ⟨rfl,rfl,rfl⟩
theorem set_last {E:Eg} {ρ:List Int} {lv:Nat→Nat} (hok:EgOk E ρ lv):(dY E ρ).last≤E.last + 14:=by
 have R:=(setE_run hok).hi
 have few:=hok.fm.fields.few
 have one:=hok.one
 have hod:Ordd E.fm.fields ρ lv (rW ρ E.fm.fields.length):=ordL_ordd hok.fm.rank (by omega)
 rw [hod.len] at R
 simp only at R
 omega
set_option maxHeartbeats 8000000 in
theorem engineSame_c (l:List RawD) (sl:Value) (r:RawD) (i:Int) (h:Vw) (hl:RS h 4 sl (l.map RawD.cs)) (ll:l.length * 40≤reachBytes) (ol:∀ r∈l,r.ok) (ro:r.ok) (i0 : -9223372036854775808≤i) (i1:i≤9223372036854775807) :
  C0 Tryz.prog 4 #[sl,.agg #[.int .i64 r.k,.int .i64 r.a,.int .i64 r.b,.string r.t],.int .i64 i] h (fun v _=>v=.bool true):=by
 have hPol:=fun H=>c_policy 3 10 30 H (by decide) (by decide) (by decide) (by decide) (by decide) (by decide)
 have hp:=polE_ok 3 10 30
 generalize polE 3 10 30=P at *
 have hB:=fun H q=>begun_any l sl P hp H q ll ol
 have hok:=begE_ok l hp
 have hse:=begE_settled l hp
 have hla:=begE_last l hp
 have hty:=form_ty l
 have hin:(begE l P).inp=[]:=rfl
 have hfm:(begE l P).fm=fQ l:=rfl
 have one:=form_one l
 generalize begE l P=E at *
 generalize begL l P=lt at *
 rw [← hfm] at hty one
 have few:=hok.fm.fields.few
 generalize rhoL (eW (fQ l).fields)=ρ at *
 generalize lvF l=lv at *
 have hk0:=aX i E.fm.fields.length (by omega)
 have hk1:=zW i E.fm.fields.length (by omega)
 have hpi:=yJ i E.fm.fields.length
 obtain ⟨k,hk⟩:∃ k:Nat,cJ i E.fm.fields.length=(k:Int):=⟨_,(Int.toNat_of_nonneg hk0).symm⟩
 rw [hk] at hk1 hpi
 obtain ⟨g,hg⟩:∃ g,E.fm.fields[k]?=some g:=⟨_,List.getElem?_eq_getElem (by omega)⟩
 have hgm:=List.mem_of_getElem? hg
 obtain ⟨t1,t3⟩:=hty g hgm
 have hV:=fun H=>c_value g.ty r H t1 t3 ro
 have hkn:=val_known g.ty r.k r.a r.t t1 t3
 have hfd:=findF_at hok.fm.fields.nodup hg
 have htd:tY E.fm.fields g.name g.ty=if g.kind=1 then 0 else 2:=by
  unfold tY
  rw [hfd,if_neg (by omega)]
  simp only [Int.toNat_natCast,hg]
  split <;> simp
 obtain ⟨v,hv⟩:∃ v:Vl,v=⟨g.ty,valN g.ty r.k r.a,valS g.ty r.t⟩:=⟨_,rfl⟩
 have hV:∀ H,C0 Tryz.prog 26 #[.int .i64 g.ty,.agg #[.int .i64 r.k,.int .i64 r.a,.int .i64 r.b,.string r.t]] H (fun q _=>q=.agg #[.int .i64 v.k,.int .i64 v.n,.string v.s]):=by rw [hv]; exact hV
 have hkn:v.known:=by rw [hv]; exact hkn
 have htd:tY E.fm.fields g.name v.k=if g.kind=1 then 0 else 2:=by rw [hv]; exact htd
 clear hv
 obtain ⟨A0,c0,rfl,-,-,-⟩:=hl.form
 rw [List.length_map] at *
 generalize l.length=len at *
 refine mQ Tryz.func4 (c:=Tryz.f4.body.getD .skip) (N:=82) ?_
 intro hbx hbad Q hQ
 refine go1 10 [.own,.cl 23 #[Vi 3,Vi 10,Vi 30] (.agg #[Vi P.t,Vi P.b,Vi P.c])] [] ?_ (ho:=(And.intro (fun H sH=>hPol _) (trivial)))
 intro b1
 refine jQ (fun H sH=>hB _ (hl.sees sH)) ?_; rintro _ W2 S3 ⟨ue,rfl,hte⟩
 refine go1 21 [.own,.b 0 0] [] ?_
 intro b4
 have hE:=hte.eng
 obtain ⟨vs,A,c,e0,-,-,hr4,hs4,hl4,-⟩:=bQ hE.form.fields
 obtain ⟨u,hu⟩:∃ u,vs[k]?=some u:=⟨_,List.getElem?_eq_getElem (by omega)⟩
 have hrow:=zK hg hu
 obtain ⟨Au,nu,cu,rfl⟩:=(AllSrc.get hs4 hg hu).slice
 have hT0:=fun (h1:g.kind≠1) H q=>tell_no E ρ lv hok hse g.name v hkn 2 (by rw [htd,if_neg h1]) (by decide) ue H q
 have hT1:∀ (h1:g.kind=1) H,IsEng H ue E→C0 Tryz.prog 25 #[.agg #[.slice (sA (agJ 0 ue)) (sN (agJ 0 ue)) (sC (agJ 0 ue)),.slice (sA (agJ 1 ue)) (sN (agJ 1 ue)) (sC (agJ 1 ue)),.int .i64 E.pol.t,.int .i64 E.pol.b,.int .i64 E.pol.c,.slice (sA (agJ 2 ue)) (sN (agJ 2 ue)) (sC (agJ 2 ue)),.slice (sA (agJ 3 ue)) (sN (agJ 3 ue)) (sC (agJ 3 ue)),.slice (sA (agJ 4 ue)) (sN (agJ 4 ue)) (sC (agJ 4 ue)),.int .i64 E.now,.int .i64 E.last],.string g.name,.agg #[.int .i64 v.k,.int .i64 v.n,.string v.s]] H (fun r h'=>TelR (eY (sY E g.name v) ρ) (dY (sY E g.name v) ρ).out r h'):=fun h1 H q=>by
  have hok1:=tellE_ok hok hkn (by rw [htd,if_pos h1]) (by rw [hin]; decide)
  have:=set_last hok1
  have hl':(sY E g.name v).last=E.last:=rfl
  exact tell_any E ρ lv hok hse g.name v hkn (by rw [htd,if_pos h1]) (by rw [hin]; decide) (by omega) ue H q
 have hok2:g.kind=1→EgOk (eY (sY E g.name v) ρ) ρ lv:=fun h1=>by
  have hok1:=tellE_ok hok hkn (by rw [htd,if_pos h1]) (by rw [hin]; decide)
  have:=set_last hok1
  have hl':(sY E g.name v).last=E.last:=rfl
  exact settE_ok hok1 (by omega)
 have hT2:∀ (h1:g.kind=1) w H,IsEng H w (eY (sY E g.name v) ρ)→C0 Tryz.prog 25 #[.agg #[.slice (sA (agJ 0 w)) (sN (agJ 0 w)) (sC (agJ 0 w)),.slice (sA (agJ 1 w)) (sN (agJ 1 w)) (sC (agJ 1 w)),.int .i64 ((eY (sY E g.name v) ρ).pol).t,.int .i64 ((eY (sY E g.name v) ρ).pol).b,.int .i64 ((eY (sY E g.name v) ρ).pol).c,.slice (sA (agJ 2 w)) (sN (agJ 2 w)) (sC (agJ 2 w)),.slice (sA (agJ 3 w)) (sN (agJ 3 w)) (sC (agJ 3 w)),.slice (sA (agJ 4 w)) (sN (agJ 4 w)) (sC (agJ 4 w)),.int .i64 (eY (sY E g.name v) ρ).now,.int .i64 (eY (sY E g.name v) ρ).last],.string g.name,.agg #[.int .i64 v.k,.int .i64 v.n,.string v.s]] H (fun r h'=>TelR (eY (sY E g.name v) ρ) [] r h'):=fun h1 w H q=>by
  have hok1:=tellE_ok hok hkn (by rw [htd,if_pos h1]) (by rw [hin]; decide)
  have hse1:=settE_settled hok1
  have hl1:=set_last hok1
  have hl':(sY E g.name v).last=E.last:=rfl
  have hq:sY (eY (sY E g.name v) ρ) g.name v=eY (sY E g.name v) ρ:=by
   show { eY (sY E g.name v) ρ with inp:=fX g.name v (fX g.name v E.inp) }=_
   rw [putV_twice]; rfl
  obtain ⟨e1,e2,e3⟩:=settled_set hse1
  have hlen:(eY (sY E g.name v) ρ).inp.length≤99:=by
   show (fX g.name v E.inp).length≤99
   have:=putV_len (s:=g.name) (v:=v) (l:=E.inp)
   rw [hin] at this ⊢
   simp at this; omega
  have hl2:(eY (sY E g.name v) ρ).last=(dY (sY E g.name v) ρ).last:=rfl
  have h:=tell_any (eY (sY E g.name v) ρ) ρ lv (hok2 h1) hse1 g.name v hkn (by show tY E.fm.fields g.name v.k=0; rw [htd,if_pos h1]) hlen (by rw [hq,e3]; omega) w H q
  rw [hq,e1,e2] at h
  exact h
 have hSm:=fun (h1:g.kind=1) w w' H q1 q2=>sameEng_any (eY (sY E g.name v) ρ) ρ lv (hok2 h1) w w' H q1 q2
 obtain ⟨E1,hE1⟩:∃ E1,eY (sY E g.name v) ρ=E1:=⟨_,rfl⟩
 rw [hE1] at hT1 hT2 hSm
 generalize (dY (sY E g.name v) ρ).out=lt1 at *
 clear hE1 hok2
 rw [e0] at hT0 hT1
 generalize hn:E.fm.fields.length=n at *
 rw [e0]
 obtain ⟨b5,o6,rfl,-,c7⟩:=RS.row hr4 (hrow)
 refine nQ (c7.sees (Sees.refl _)) ?_
 refine aV 13 1 [.pu,.pu,.ld 1 0,.pu,.pu,.pu,.ld 1 0,.pu,.v (fun gh=>Vi (k:Int)),.v (fun gh=>.pointer (some ⟨b5,o6 + k * 9,none⟩)),.lf 0 0,.al 0,.st 0 0] [(11,true)] (trivial) ?_ ?_
 ·intro R hT hA hmono
  refine And.intro (t_v hT hA hmono (k:=24) (args:=(fun gh=>#[Vi i,Vi (n:Int)])) (f:=fun gh=>Vi (k:Int)) (fun gh H sH fH lent=>hpi _ i0 i1 (by omega) (by omega))) ?_
  refine And.intro (qY hT hA b5 o6 n c k (fun gh=>.pointer (some ⟨b5,o6 + k * 9,none⟩)) (by first | omega | (simp; omega))) ?_
  trivial
 rintro b8 W9 S10 -
 refine go0 2 [] [] ?_
 by_cases h1:g.kind=1
 ·skip
  refine aV 16 1 [.ld 2 0,.pu,.ld 1 0,.pu,.ld 1 2,.ld 3 0,.v (fun gh=>.agg #[Vi v.k,Vi v.n,.string v.s]),.f (fun gh=>.tuple #[.agg #[.slice (sA (agJ 0 (gh 7))) (sN (agJ 0 (gh 7))) (sC (agJ 0 (gh 7))),.slice (sA (agJ 1 (gh 7))) (sN (agJ 1 (gh 7))) (sC (agJ 1 (gh 7))),Vi E1.pol.t,Vi E1.pol.b,Vi E1.pol.c,.slice (sA (agJ 2 (gh 7))) (sN (agJ 2 (gh 7))) (sC (agJ 2 (gh 7))),.slice (sA (agJ 3 (gh 7))) (sN (agJ 3 (gh 7))) (sC (agJ 3 (gh 7))),.slice (sA (agJ 4 (gh 7))) (sN (agJ 4 (gh 7))) (sC (agJ 4 (gh 7))),Vi E1.now,Vi E1.last],.slice (sA (agJ 5 (gh 7))) (sN (agJ 5 (gh 7))) (sC (agJ 5 (gh 7))),Vi 0]) (fun gh hh=>TelF hh (gh 7) E1 lt1),.pu,.pu,.pu,.pu,.al 0,.st 0 0,.pu,.pu] [(7,false),(12,true)] (And.intro (fun _ _ _ s c=>c.sees s) (trivial)) ?_ ?_
  ·intro R hT hA hmono
   refine And.intro (t_v hT hA hmono (k:=26) (args:=(fun gh=>#[Vi g.ty,.agg #[Vi r.k,Vi r.a,Vi r.b,.string r.t]])) (f:=fun gh=>.agg #[Vi v.k,Vi v.n,.string v.s]) (fun gh H sH fH lent=>hV _)) ?_
   refine And.intro (gX hT hA hmono ⟨fun _ _=>by kernel_rfl,fun _ _=>by kernel_rfl,fun _ _=>by kernel_rfl⟩ 45 (fun u=>.tuple #[.agg #[.slice (sA (agJ 0 u)) (sN (agJ 0 u)) (sC (agJ 0 u)),.slice (sA (agJ 1 u)) (sN (agJ 1 u)) (sC (agJ 1 u)),Vi E1.pol.t,Vi E1.pol.b,Vi E1.pol.c,.slice (sA (agJ 2 u)) (sN (agJ 2 u)) (sC (agJ 2 u)),.slice (sA (agJ 3 u)) (sN (agJ 3 u)) (sC (agJ 3 u)),.slice (sA (agJ 4 u)) (sN (agJ 4 u)) (sC (agJ 4 u)),Vi E1.now,Vi E1.last],.slice (sA (agJ 5 u)) (sN (agJ 5 u)) (sC (agJ 5 u)),Vi 0]) [0,2,6] 7 25 (fun gh=>#[.agg #[.slice (some ⟨b5,o6,none⟩) n c,.slice (sA (agJ 1 ue)) (sN (agJ 1 ue)) (sC (agJ 1 ue)),Vi E.pol.t,Vi E.pol.b,Vi E.pol.c,.slice (sA (agJ 2 ue)) (sN (agJ 2 ue)) (sC (agJ 2 ue)),.slice (sA (agJ 3 ue)) (sN (agJ 3 ue)) (sC (agJ 3 ue)),.slice (sA (agJ 4 ue)) (sN (agJ 4 ue)) (sC (agJ 4 ue)),Vi E.now,Vi E.last],.string g.name,.agg #[Vi v.k,Vi v.n,.string v.s]]) (fun gh H sH fH lent=>C0.facts (R:=R) (x:=gh) (i:=7) (n:=0) (F:=(fun u=>.tuple #[.agg #[.slice (sA (agJ 0 u)) (sN (agJ 0 u)) (sC (agJ 0 u)),.slice (sA (agJ 1 u)) (sN (agJ 1 u)) (sC (agJ 1 u)),Vi E1.pol.t,Vi E1.pol.b,Vi E1.pol.c,.slice (sA (agJ 2 u)) (sN (agJ 2 u)) (sC (agJ 2 u)),.slice (sA (agJ 3 u)) (sN (agJ 3 u)) (sC (agJ 3 u)),.slice (sA (agJ 4 u)) (sN (agJ 4 u)) (sC (agJ 4 u)),Vi E1.now,Vi E1.last],.slice (sA (agJ 5 u)) (sN (agJ 5 u)) (sC (agJ 5 u)),Vi 0])) (G:=fun u hh=>TelF hh u E1 lt1) (f:=fun gh hh=>TelF hh (gh 7) E1 lt1) (hT1 h1 _ (hE.sees (S10.trans sH))) (by kernel_rfl) (by kernel_rfl) (fun _ _ r=>r))) ?_
   trivial
  rintro u45 b11 W12 S13 ⟨f45,-⟩
  replace f45:TelF W12 u45 E1 lt1:=f45
  refine go0 12 [] [] ?_
  refine aV 16 1 [.ld 1 0,.pu,.ld 2 0,.pu,.ld 2 2,.ld 4 0,.v (fun gh=>.agg #[Vi v.k,Vi v.n,.string v.s]),.f (fun gh=>.tuple #[.agg #[.slice (sA (agJ 0 (gh 7))) (sN (agJ 0 (gh 7))) (sC (agJ 0 (gh 7))),.slice (sA (agJ 1 (gh 7))) (sN (agJ 1 (gh 7))) (sC (agJ 1 (gh 7))),Vi E1.pol.t,Vi E1.pol.b,Vi E1.pol.c,.slice (sA (agJ 2 (gh 7))) (sN (agJ 2 (gh 7))) (sC (agJ 2 (gh 7))),.slice (sA (agJ 3 (gh 7))) (sN (agJ 3 (gh 7))) (sC (agJ 3 (gh 7))),.slice (sA (agJ 4 (gh 7))) (sN (agJ 4 (gh 7))) (sC (agJ 4 (gh 7))),Vi E1.now,Vi E1.last],.slice (sA (agJ 5 (gh 7))) (sN (agJ 5 (gh 7))) (sC (agJ 5 (gh 7))),Vi 0]) (fun gh hh=>TelF hh (gh 7) E1 []),.pu,.pu,.pu,.pu,.al 0,.st 0 0,.pu,.pu] [(7,false),(12,true)] (And.intro (fun _ _ _ s c=>c.sees s) (trivial)) ?_ ?_
  ·intro R hT hA hmono
   refine And.intro (t_v hT hA hmono (k:=26) (args:=(fun gh=>#[Vi g.ty,.agg #[Vi r.k,Vi r.a,Vi r.b,.string r.t]])) (f:=fun gh=>.agg #[Vi v.k,Vi v.n,.string v.s]) (fun gh H sH fH lent=>hV _)) ?_
   refine And.intro (gX hT hA hmono ⟨fun _ _=>by kernel_rfl,fun _ _=>by kernel_rfl,fun _ _=>by kernel_rfl⟩ 66 (fun u=>.tuple #[.agg #[.slice (sA (agJ 0 u)) (sN (agJ 0 u)) (sC (agJ 0 u)),.slice (sA (agJ 1 u)) (sN (agJ 1 u)) (sC (agJ 1 u)),Vi E1.pol.t,Vi E1.pol.b,Vi E1.pol.c,.slice (sA (agJ 2 u)) (sN (agJ 2 u)) (sC (agJ 2 u)),.slice (sA (agJ 3 u)) (sN (agJ 3 u)) (sC (agJ 3 u)),.slice (sA (agJ 4 u)) (sN (agJ 4 u)) (sC (agJ 4 u)),Vi E1.now,Vi E1.last],.slice (sA (agJ 5 u)) (sN (agJ 5 u)) (sC (agJ 5 u)),Vi 0]) [0,2,6] 7 25 (fun gh=>#[.agg #[.slice (sA (agJ 0 u45)) (sN (agJ 0 u45)) (sC (agJ 0 u45)),.slice (sA (agJ 1 u45)) (sN (agJ 1 u45)) (sC (agJ 1 u45)),Vi E1.pol.t,Vi E1.pol.b,Vi E1.pol.c,.slice (sA (agJ 2 u45)) (sN (agJ 2 u45)) (sC (agJ 2 u45)),.slice (sA (agJ 3 u45)) (sN (agJ 3 u45)) (sC (agJ 3 u45)),.slice (sA (agJ 4 u45)) (sN (agJ 4 u45)) (sC (agJ 4 u45)),Vi E1.now,Vi E1.last],.string g.name,.agg #[Vi v.k,Vi v.n,.string v.s]]) (fun gh H sH fH lent=>C0.facts (R:=R) (x:=gh) (i:=7) (n:=0) (F:=(fun u=>.tuple #[.agg #[.slice (sA (agJ 0 u)) (sN (agJ 0 u)) (sC (agJ 0 u)),.slice (sA (agJ 1 u)) (sN (agJ 1 u)) (sC (agJ 1 u)),Vi E1.pol.t,Vi E1.pol.b,Vi E1.pol.c,.slice (sA (agJ 2 u)) (sN (agJ 2 u)) (sC (agJ 2 u)),.slice (sA (agJ 3 u)) (sN (agJ 3 u)) (sC (agJ 3 u)),.slice (sA (agJ 4 u)) (sN (agJ 4 u)) (sC (agJ 4 u)),Vi E1.now,Vi E1.last],.slice (sA (agJ 5 u)) (sN (agJ 5 u)) (sC (agJ 5 u)),Vi 0])) (G:=fun u hh=>TelF hh u E1 []) (f:=fun gh hh=>TelF hh (gh 7) E1 []) (hT2 h1 _ _ ((f45.sees sH)).eng) (by kernel_rfl) (by kernel_rfl) (fun _ _ r=>r))) ?_
   trivial
  rintro u66 b14 W15 S16 ⟨f66,-⟩
  replace f66:TelF W15 u66 E1 []:=f66
  refine go0 11 [] [] ?_
  obtain ⟨A6,c6,e6,-⟩:=f66.out.form
  have hs6:sN (agJ 5 u66)=0:=by simp only [Value.slice.injEq] at e6; exact e6.2.1
  refine g_rew 77 (v:=.bool ((sN (agJ 5 u66):Int) == 0)) (v':=.bool true) (congrArg Value.bool (beq_iff_eq.2 (by rw [hs6]; rfl))) ?_
  refine go0 8 [.b 1 0,.b 0 0,.cl 27 #[.agg #[.slice (sA (agJ 0 u45)) (sN (agJ 0 u45)) (sC (agJ 0 u45)),.slice (sA (agJ 1 u45)) (sN (agJ 1 u45)) (sC (agJ 1 u45)),Vi E1.pol.t,Vi E1.pol.b,Vi E1.pol.c,.slice (sA (agJ 2 u45)) (sN (agJ 2 u45)) (sC (agJ 2 u45)),.slice (sA (agJ 3 u45)) (sN (agJ 3 u45)) (sC (agJ 3 u45)),.slice (sA (agJ 4 u45)) (sN (agJ 4 u45)) (sC (agJ 4 u45)),Vi E1.now,Vi E1.last],.agg #[.slice (sA (agJ 0 u66)) (sN (agJ 0 u66)) (sC (agJ 0 u66)),.slice (sA (agJ 1 u66)) (sN (agJ 1 u66)) (sC (agJ 1 u66)),Vi E1.pol.t,Vi E1.pol.b,Vi E1.pol.c,.slice (sA (agJ 2 u66)) (sN (agJ 2 u66)) (sC (agJ 2 u66)),.slice (sA (agJ 3 u66)) (sN (agJ 3 u66)) (sC (agJ 3 u66)),.slice (sA (agJ 4 u66)) (sN (agJ 4 u66)) (sC (agJ 4 u66)),Vi E1.now,Vi E1.last]] (.bool true)] [] ?_ (ho:=(And.intro (fun H sH=>hSm h1 _ _ _ ((f45.sees (S16.trans sH))).eng ((f66.sees sH)).eng) (trivial)))
  refine hQ.to [.bool true] (fun H sH=>?_)
  exact rfl
 ·skip
  refine aV 16 1 [.ld 2 0,.pu,.ld 1 0,.pu,.ld 1 2,.ld 3 0,.v (fun gh=>.agg #[Vi v.k,Vi v.n,.string v.s]),.v (fun gh=>.tuple #[.agg #[Vz,Vz,Vi 0,Vi 0,Vi 0,Vz,Vz,Vz,Vi 0,Vi 0],Vz,Vi 2]),.pu,.pu,.pu,.pu,.al 0,.st 0 0,.pu,.pu] [(12,true)] (trivial) ?_ ?_
  ·intro R hT hA hmono
   refine And.intro (t_v hT hA hmono (k:=26) (args:=(fun gh=>#[Vi g.ty,.agg #[Vi r.k,Vi r.a,Vi r.b,.string r.t]])) (f:=fun gh=>.agg #[Vi v.k,Vi v.n,.string v.s]) (fun gh H sH fH lent=>hV _)) ?_
   refine And.intro (t_v hT hA hmono (k:=25) (args:=(fun gh=>#[.agg #[.slice (some ⟨b5,o6,none⟩) n c,.slice (sA (agJ 1 ue)) (sN (agJ 1 ue)) (sC (agJ 1 ue)),Vi E.pol.t,Vi E.pol.b,Vi E.pol.c,.slice (sA (agJ 2 ue)) (sN (agJ 2 ue)) (sC (agJ 2 ue)),.slice (sA (agJ 3 ue)) (sN (agJ 3 ue)) (sC (agJ 3 ue)),.slice (sA (agJ 4 ue)) (sN (agJ 4 ue)) (sC (agJ 4 ue)),Vi E.now,Vi E.last],.string g.name,.agg #[Vi v.k,Vi v.n,.string v.s]])) (f:=fun gh=>.tuple #[.agg #[Vz,Vz,Vi 0,Vi 0,Vi 0,Vz,Vz,Vz,Vi 0,Vi 0],Vz,Vi 2]) (fun gh H sH fH lent=>hT0 h1 _ (hE.sees (S10.trans sH)))) ?_
   trivial
  rintro b17 W18 S19 -
  refine go0 23 [.b 1 1] [(53,.bool (g.kind != 1),.bool true)] ?_ (hc:=(And.intro (congrArg Value.bool (bne_iff_ne.2 h1)) (trivial)))
  refine hQ.to [.bool true] (fun H sH=>?_)
  exact rfl
theorem engineSame_walk (v:Value) (l:List RawD) (r:RawD) (i:Int) (w:World) (h:RawsOf w v l) (hr:r.ok) (i0 : -9223372036854775808≤i) (i1:i≤9223372036854775807) :
  Calls Tryz.prog 4 #[v,r.val,.int .i64 i] w fun e w'=>e=.returned (.bool true)∧Below w.heap.size w w' :=
 C0.law (engineSame_c l v r i ⟨w,[]⟩ h.rs h.2.1 h.2.2 hr i0 i1)
namespace engineSameLaw
open Go.ChangeShapes Go.WideShapes Go.ChangeAt Go.RowKit
open Go.ChangeMaps (open_string shut_string)
set_option linter.unusedVariables false
theorem lifted (os:Os) (started:os.Started) (H:Type) (enc:TypeId × Value→H) :
  ReturnsInHanded {} Tryz.checked os 4 .any (Rows.engineSameSpec.pre6 enc Tryz.prog Tryz.f4 Rows.engineSameRow.domain false) (Rows.engineSameSpec.post enc Tryz.prog Tryz.f4 false true false false):=by
 refine returnsInHanded_of_change_sized (C:=Tryz.checked) ownNone started (by kernel_rfl) Tryz.func4
  (ChangeSpec.witness6 (enc:=enc) (C:=Tryz.checked) false ⟨#[],#[.slice none 0 0,.agg #[.int .i64 0,.int .i64 0,.int .i64 0,.string ByteArray.empty],.int .i64 0],[]⟩ 8 (by kernel_rfl) (by kernel_rfl) (by kernel_rfl) (by kernel_rfl)) ?_
 intro W base args ds gs before hval0 hW hcnd hsz0 _
 have hval:∀ (j:Nat) t v,Tryz.f4.params[j]?=some t→args[j]?=some v→Value.okWide Tryz.prog W .any base t v:=hval0
 have hsz:(DataW.weightsEach Tryz.prog (Tryz.f4.params.toList++Rows.engineSameSpec.plain.varTypes Tryz.prog) (ds++gs)).all (· ≤ reachBytes)=true:=hsz0
 have hW':=hW
 obtain ⟨p,q,hA0,hV,rfl,hfz,hnd⟩:=hW
 have hA:DataW.TrodAll enc Tryz.prog W 0 (fun _=>true) true Tryz.f4.params.toList args.toList ds p:=hA0
 rw [Tryz.params4] at hA hval hsz
 obtain ⟨v0,vs0,d0,ds0,p0,q0,hargs,rfl,rfl,h0,r0⟩:=trodAll_cons hA
 obtain ⟨v1,vs1,d1,ds1,p1,q1,rfl,rfl,rfl,h1,r1⟩:=trodAll_cons r0
 obtain ⟨v2,vs2,d2,ds2,p2,q2,rfl,rfl,rfl,h2,r2⟩:=trodAll_cons r1
 obtain ⟨rfl,rfl,rfl⟩:=trodAll_nil r2
 obtain rfl:args=#[v0,v1,v2]:=by cases args; simp_all
 obtain ⟨rfl,rfl⟩:=trodVars_none hV
 have k0:=h0
 have lt0:∀ x∈p0,x.block < W.heap.size:=by obtain ⟨m,hm⟩:=k0; exact DataW.trod_lt m _ _ _ hm
 obtain ⟨a0,w0⟩:=open_rows (hval 0 22 v0 rfl rfl) h0 (fun es ss hd=>sized_slice hsz (j:=0) (t:=22) (elems:=es) (spare:=ss) rfl (by rw [hd]; rfl) Tryz.underlying22)
 have k1:=h1
 have lt1:∀ x∈p1,x.block < W.heap.size:=by obtain ⟨m,hm⟩:=k1; exact DataW.trod_lt m _ _ _ hm
 obtain ⟨a1,rfl,w1⟩:=open_raw (hval 1 56 v1 rfl rfl) h1
 have k2:=h2
 have lt2:∀ x∈p2,x.block < W.heap.size:=by obtain ⟨m,hm⟩:=k2; exact DataW.trod_lt m _ _ _ hm
 obtain ⟨a2,rfl,-,-,w2⟩:=open_int Tryz.underlying3 (hval 2 3 v2 rfl rfl) h2
 clear hA0 hval0 hsz0
 refine (engineSame_walk v0 a0 a1 a2 W w0 w1 (int_lo w2) (int_hi w2)).mono fun e W' ⟨he,bel⟩=>?_
 subst he
 exact ⟨_,rfl,_,_,_,[],_,[],hW',trodAll_mk1 (shut_bool Tryz.underlying4 _),(trodAll_cons_mk (Below.trod laidOutTrue (by kernel_rfl) (of_decide_eq_true (by kernel_rfl)) k0 bel lt0) (trodAll_cons_mk (Below.trod laidOutTrue (by kernel_rfl) (of_decide_eq_true (by kernel_rfl)) k1 bel lt1) (trodAll_cons_mk (Below.trod laidOutTrue (by kernel_rfl) (of_decide_eq_true (by kernel_rfl)) k2 bel lt2) trodAll_mk0))),rfl,bel.frame _,fun h=>by cases h⟩
theorem over:Rows.engineSameRow.holds Tryz.pinned (OpenSpec.ofChange Rows.engineSameSpec) :=
 OpenClaim.holds_of_wide 4 Tryz.f4 rfl rfl rfl rfl rfl rfl rfl ⟨rfl,rfl,rfl,rfl,rfl⟩ rfl rfl rfl rfl rfl (by kernel_rfl) Tryz.func4 (by kernel_rfl)
  (of_decide_eq_true (by kernel_rfl)) (by unfold Func.isWrapper; first | (rw [if_pos (by decide +kernel)]; kernel_rfl) | (rw [if_neg (by decide +kernel)]; exact ⟨rfl,rfl⟩))
  (fun os started H enc _=>lifted os started H enc)
end engineSameLaw
theorem engineSame_holds:Rows.EngineSameSaid:=engineSameLaw.over
#print axioms engineSame_holds
end Go.Proofs.YtjpgjnldeafpkaaGreat
