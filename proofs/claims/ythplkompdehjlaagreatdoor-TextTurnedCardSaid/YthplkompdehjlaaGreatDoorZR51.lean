/-
  For all raw things TextBack returns true: reading the text of a form returns the form, or answers that a formula is too long. No condition beyond the card's own.
-/
import Derived.Test.YthplkompdehjlaaGreatDoorZR9
import Derived.Test.YthplkompdehjlaaGreatDoorZR44
import Derived.Test.YthplkompdehjlaaGreatDoorZR45
import Derived.Test.YthplkompdehjlaaGreatDoorZR47
import Derived.Test.YthplkompdehjlaaGreatDoorZR50
set_option maxRecDepth 100000
namespace Go.Proofs.YthplkompdehjlaaGreatDoor
open Go.RowKit
set_option linter.unusedVariables false
theorem form_okM (l:List RawD):OkFm (yK l) (rhoL (vV (yK l).fields)) (lvF l):=⟨form_okFs l _ (form_nodup l) (fun f=>Iff.rfl) (by have:=form_len l; have:=rV l; omega),form_okGs l,form_ranked l⟩
theorem form_fmW (l:List RawD):FmW (yK l):=by
 have hn:=rV l
 have hok:=form_okM l
 refine ⟨fun f hf g=>?_,fun p hp=>⟨hok.pages.name p hp,fun s hs=>?_,hok.pages.fl p hp,?_⟩⟩
 ·obtain ⟨i,hi,rfl⟩:=fldT_made l _ f (form_mem.1 hf)
  have pk:=wW (aJ l (fJ l i).2).k 3 (by omega)
  have hg:∀ f∈(fJ l i).1,tyF (yK l).fields f.name=some f.ty:=fun f hf=>tyF_mem (form_nodup l) f (form_mem.2 (fldT_sub l (by omega) f hf))
  obtain ⟨t,-,-,-,-,-,-,c⟩:=src_ok l i (by omega) hg (by simp only at g; omega)
  show (szE (srcE l _ _ _).1).2≤12
  omega
 ·have h0:=hok.pages.here p hp s hs
  rcases findF_lt (yK l).fields s with g | ⟨i,f,g1,g2,g3⟩
  ·omega
  ·have hnm:f.name=s:=g3
   rw [← hnm]
   exact (hok.fields.each f (List.mem_of_getElem? g2)).name
 ·obtain ⟨i,m,r,hi,rfl⟩:=pgT_each l _ _ _ _ p hp
  show (wX l _ r m).1=zE∨_
  rcases hok.pages.skip _ hp with e | ⟨e1,e2,-,-⟩
  ·exact .inl e
  ·refine .inr ⟨e1,e2,?_⟩
   show (szE (wX l _ r m).1).1≤60∧(szE (wX l _ r m).1).2≤12
   have e1:(wX l (fJ l (iJ l)).1 r m).1.op≠0:=e1
   unfold wX at e1 ⊢
   split
   ·have hnm:∀ f∈(fJ l (iJ l)).1,oJ f.name.data.toList:=fun f hf=>(hok.fields.each f (form_mem.2 hf)).name
    obtain ⟨w1,w2,w3⟩:=genE_ok l _ hnm 1 2 m (by omega) (by omega)
    have e4:cntE 1=4:=rfl
    exact ⟨by omega,by omega⟩
   ·rename_i hq
    rw [if_neg hq] at e1
    exact absurd rfl e1
theorem small_okM:OkFm smallF [1,0,2] (fun i=>[1,0,2].getD i 0):=⟨small_ok,small_okG,small_ranked⟩
theorem small_fmW:FmW smallF:=by
 refine ⟨fun f hf _=>?_,fun p hp=>?_⟩
 ·have hf:f∈[(⟨⟨#[98]⟩,2,1,smallX⟩:Fd),⟨⟨#[97]⟩,1,1,zE⟩,⟨⟨#[99]⟩,3,3,smallB⟩]:=hf
  rcases List.mem_cons.1 hf with rfl | hf
  ·decide
  ·rcases List.mem_cons.1 hf with rfl | hf
   ·decide
   ·rw [List.mem_singleton.1 hf]; decide
 ·have hN:∀ s:ByteArray,s=⟨#[97]⟩∨s=⟨#[99]⟩→oJ s.data.toList:=fun s hs=>by
   rcases hs with rfl | rfl
   ·exact ⟨by decide,by decide,⟨_,rfl,by decide⟩,by decide,by decide⟩
   ·exact ⟨by decide,by decide,⟨_,rfl,by decide⟩,by decide,by decide⟩
  have hp0:=hp
  have hp:p∈[(⟨⟨#[112,49]⟩,[⟨#[97]⟩],zE⟩:Pg),⟨⟨#[112,50]⟩,[⟨#[99]⟩],zE⟩]:=hp
  rcases List.mem_cons.1 hp with rfl | hp
  ·exact ⟨small_okG.name _ hp0,fun s hs=>hN s (.inl (List.mem_singleton.1 hs)),small_okG.fl _ hp0,.inl rfl⟩
  ·obtain rfl:=List.mem_singleton.1 hp
   exact ⟨small_okG.name _ hp0,fun s hs=>hN s (.inr (List.mem_singleton.1 hs)),small_okG.fl _ hp0,.inl rfl⟩
theorem small_text:Lib.hasPrefix (Lib.join (lnF smallF) [10]) [102,111,114,109,117,108,97,32,98,32,105,110,116,32,61,32,97,32,43,32,49,10,105,110,112,117,116,32,97,32,105,110,116,10]=true:=by
 have e:lnF smallF=[fdL ⟨⟨#[98]⟩,2,1,smallX⟩,fdL ⟨⟨#[97]⟩,1,1,zE⟩,fdL ⟨⟨#[99]⟩,3,3,smallB⟩,pgW++pgL ⟨⟨#[112,49]⟩,[⟨#[97]⟩],zE⟩,pgW++pgL ⟨⟨#[112,50]⟩,[⟨#[99]⟩],zE⟩]:=rfl
 have e1:prt smallX 1=[97,32,43,32,49]:=by
  have d:Lib.decDigits 1=[49]:=by rw [Lib.decDigits,dif_pos (by decide)]; rfl
  have s:uX 1 1 ⟨#[]⟩=[49]:=by show (Lib.itoa ((1:Nat):Int)).toArray.toList=_; rw [Lib.itoa_nonneg]; exact d
  unfold smallX
  rw [prt,prtL,prtL,prtL,prt,prt]
  simp [bdB,brB,mV,lvO,sgL,s]
 have e2:fdL ⟨⟨#[98]⟩,2,1,smallX⟩=[102,111,114,109,117,108,97,32,98,32,105,110,116,32,61,32,97,32,43,32,49]:=by
  show [102,111,114,109,117,108,97,32,98,32,105,110,116]++([32,61,32]++prt smallX 1)=_
  rw [e1]; rfl
 have e3:fdL ⟨⟨#[97]⟩,1,1,zE⟩=[105,110,112,117,116,32,97,32,105,110,116]:=by decide
 rw [e,jV,jV,e2,e3]
 exact List.isPrefixOf_iff_prefix.2 ⟨Lib.join [fdL ⟨⟨#[99]⟩,3,3,smallB⟩,pgW++pgL ⟨⟨#[112,49]⟩,[⟨#[97]⟩],zE⟩,pgW++pgL ⟨⟨#[112,50]⟩,[⟨#[99]⟩],zE⟩] [10],rfl⟩
theorem long_line {fm:Fm} (h:(∃ f∈fm.fields,pK f)∨∃ p∈fm.pages,lW p):∃ (i:Nat) (x:List UInt8),(lnF fm)[i]?=some x∧160 < x.length:=by
 suffices ∃ x∈lnF fm,160 < x.length by
  obtain ⟨x,hx,hl⟩:=this
  obtain ⟨i,hi⟩:=List.mem_iff_getElem?.1 hx
  exact ⟨i,x,hi,hl⟩
 rcases h with ⟨f,hf,k,hl⟩ | ⟨p,hp,k,hl⟩
 ·refine ⟨fdL f,List.mem_append_left _ (List.mem_map_of_mem hf),?_⟩
  unfold fdL
  rw [if_neg k]
  simp only [List.length_append]
  omega
 ·refine ⟨pgW++pgL p,List.mem_append_right _ (List.mem_map.2 ⟨p,hp,rfl⟩),?_⟩
  unfold pgL pgB
  rw [if_neg k]
  simp only [List.length_append]
  omega
set_option maxHeartbeats 4000000 in
theorem textBack_c (l:List RawD) (sl:Value) (h:Vw) (lk:Lk h) (hr:RS h 4 sl (l.map RawD.cs)) (hlen:l.length * 40≤reachBytes) (hok:∀ r∈l,r.ok) :
  C0 Tryz.prog 6 #[sl] h (fun v _=>v=.bool true):=by
 have hF:=fun H q=>form_c l sl H q hlen hok
 have hM:=form_okM l
 have hW:=form_fmW l
 have n1:1≤(yK l).fields.length:=by have:=form_len l; have:=rV l; omega
 have few:=hM.fields.few
 have fewp:=hM.pages.few
 have hP:=fun A n c B m d H q1 q2=>printForm_any (yK l) _ _ A n c B m d H q1 hM hW q2
 have hR:=fun H q=>read_any (yK l) _ _ H q hM hW n1
 have hPs:=fun A n c B m d H q1 q2=>printForm_any smallF _ _ A n c B m d H q1 small_okM small_fmW q2
 have hSp:=fun H q=>c_lines (yK l) _ _ hM hW n1 H q
 have hSm:=fun fv pv fv' pv' H q1 q2=>sameForm_any (yK l) _ _ hM fv pv fv' pv' H q1 q2
 have hLL:=long_line (fm:=yK l)
 have hR1:((∃ f∈(yK l).fields,pK f)∨∃ p∈(yK l).pages,lW p)→∀ H,Lk H→C0 Tryz.prog 14 #[.string (mkB (Lib.join (lnF (yK l)) [10]))] H (fun r _=>∃ n,r=.tuple #[.agg #[.slice none 0 0,.slice none 0 0],.int .i64 n,.int .i64 1]):=fun g H q=>(hR H q).mono fun v h' _ k=>by
  rcases k with ⟨-,k⟩ | ⟨k1,k2,-⟩
  ·exact k
  ·rcases g with ⟨f,f1,f2⟩ | ⟨p,f1,f2⟩
   ·exact absurd f2 (k1 f f1)
   ·exact absurd f2 (k2 p f1)
 have hR2:¬ ((∃ f∈(yK l).fields,pK f)∨∃ p∈(yK l).pages,lW p)→∀ H,Lk H→C0 Tryz.prog 14 #[.string (mkB (Lib.join (lnF (yK l)) [10]))] H (fun r h'=>∃ u v,r=.tuple #[.agg #[.slice (sA u) (sN u) (sC u),.slice (sA v) (sN v) (sC v)],.int .i64 0,.int .i64 0]∧IsForm h' (.slice (sA u) (sN u) (sC u)) (.slice (sA v) (sN v) (sC v)) (yK l)):=fun g H q=>(hR H q).mono fun v h' _ k=>by
  rcases k with ⟨k,-⟩ | ⟨-,-,k⟩
  ·exact absurd k g
  ·exact k
 have hll:=lnF_len (yK l)
 obtain ⟨X,hX⟩:∃ X,mkB (Lib.join (lnF smallF) [10])=X:=⟨_,rfl⟩
 have hHp:∀ H,C0 Tryz.prog 18 #[.string X,.string ⟨#[102,111,114,109,117,108,97,32,98,32,105,110,116,32,61,32,97,32,43,32,49,10,105,110,112,117,116,32,97,32,105,110,116,10]⟩] H (fun r _=>r=.bool true):=fun H=>C0.at_ ((Tryz.strings_HasPrefix X _ H.w).mono fun e w' ⟨he,hw⟩=>⟨by rw [he,← hX,oV]; exact congrArg (fun b=>Ending.returned (.bool b)) small_text,by rw [hw]; exact Below.refl _ _⟩)
 rw [hX] at hPs
 clear hR hM hW hX
 generalize yK l=fm at *
 generalize mkB (Lib.join (lnF fm) [10])=T at *
 obtain ⟨L,hL⟩:∃ L,lnF fm=L:=⟨_,rfl⟩
 rw [hL] at hll hLL
 rw [hL] at hSp
 generalize fm.fields.length=nf at *
 generalize fm.pages.length=np at *
 obtain ⟨nN,hNN⟩:∃ n,nf + np=n:=⟨_,rfl⟩
 rw [hNN] at hSp hll
 obtain ⟨A0,cap,rfl,-,-,-⟩:=hr.form
 generalize (l.map RawD.cs).length=len0 at *
 refine fQ Tryz.func6 (c:=Tryz.f6.body.getD .skip) (N:=71) ?_
 intro hbx hbad Q hQ
 refine go0 8 [] [] ?_
 refine bQ (fun H sH=>hF _ (hr.sees sH)) ?_; rintro _ W1 S2 ⟨A,c,B,d,rfl,hFm⟩
 refine go1 7 [.own,.b 0 0,.b 0 0] [] ?_
 intro b3
 refine go0 11 [.cl 16 #[.agg #[.slice A nf c,.slice B np d]] (.tuple #[.string T,Vi 0])] [] ?_ (ho:=(And.intro (fun H sH=>hP _ _ _ _ _ _ _ (lk.sees (S2.trans sH)) (hFm.sees sH)) (trivial)))
 by_cases hlong:(∃ f∈fm.fields,pK f)∨∃ p∈fm.pages,lW p
 ·refine bQ (fun H sH=>hR1 hlong _ (lk.sees (S2.trans sH))) ?_; rintro _ W4 S5 ⟨n,rfl⟩
  refine go1 13 [.own,.b 0 0] [] ?_
  intro b6
  refine bQ (fun H sH=>small_any _) ?_; rintro _ W7 S8 ⟨A2,c2,B2,d2,rfl,hs⟩
  refine go0 30 [.cl 16 #[.agg #[.slice A2 3 c2,.slice B2 2 d2]] (.tuple #[.string X,Vi 0]),.cl 18 #[.string X,.string ⟨#[102,111,114,109,117,108,97,32,98,32,105,110,116,32,61,32,97,32,43,32,49,10,105,110,112,117,116,32,97,32,105,110,116,10]⟩] (.bool true)] [] ?_ (ho:=(And.intro (fun H sH=>hPs _ _ _ _ _ _ _ (lk.sees (S2.trans (S5.trans (S8.trans sH)))) (hs.sees sH)) (And.intro (fun H sH=>hHp _) (trivial))))
  refine bQ (fun H sH=>hSp _ (lk.sees (S2.trans (S5.trans (S8.trans sH))))) ?_; rintro _ W9 S10 ⟨b,rfl,hrl⟩
  refine go0 5 [] [] ?_
  refine mQ [0,1,0,1,1,1,1,1] [.block 0,.seq [1,1,1,1,1,1]] (fun (k:Nat) X=>∃ (W11:Vw) ,X W11 [(3,Vp b3),(6,Vp b6),(8,Vi 1),(43,Vs b nN nN),(44,Vi (nN:Int)),(45,Vi (k:Int))] [.box b6 [Vz,Vz],.box b3 [.slice A nf c,.slice B np d]] []∧Sees W9 W11∧(k≤nN)∧(∀ (i:Nat) (x:List UInt8),i < k→L[i]?=some x→x.length≤160)) (fun k=>nN - k) (0) (fun X q=>⟨W9,q _ _ _ _ ⟨rfl,by kernel_rfl⟩,Sees.refl _,Nat.zero_le _,fun i x q=>absurd q (Nat.not_lt_zero i)⟩) ?_
  rintro k a w ⟨W11,hJ,S12,hk,hsh⟩; refine pQ hJ ?_; clear hJ a w
  refine go0 6 [] [] ?_
  rcases (by omega:k < nN∨k=nN) with hlt | hke
  ·obtain ⟨x,hx⟩:∃ x,L[k]?=some x:=⟨_,List.getElem?_eq_getElem (by omega)⟩
   have hrow:(L.map fun x=>[Value.string (mkB x)])[k]?=some [.string (mkB x)]:=by rw [List.getElem?_map,hx]; rfl
   have hxs:=pV x
   generalize mkB x=sx at *

   refine wQ (t:=decide ((k:Int) < (nN:Int))) (decide_eq_true (by omega)) ?_
   refine go0 6 [] [] ?_
   have c13:=RS.cell hrl (hrow)
   refine gQ (c13.sees S12) ?_
   refine go0 12 [.ix b 0 nN nN k,.f 0 0] [] ?_ (ho:=(And.intro (by first | omega | (simp; omega)) (trivial)))
   by_cases hl:160 < sx.size
   ·refine wQ (t:=decide ((sx.size:Int) > 160)) (decide_eq_true (by omega)) ?_
    refine go0 19 [] [] ?_
    refine lQ ?_
    refine go0 2 [] [] ?_
    refine hQ.to [.bool true] (fun H sH=>?_)
    exact rfl
   ·skip
    refine iQ (t:=decide ((sx.size:Int) > 160)) (decide_eq_false (by omega)) ?_
    refine go0 7 [] [(63,Vi (IntKind.i64.wrap ((k:Int) + 1)),Vi ((k:Int) + 1))] ?_ (hc:=(And.intro (jJ (by omega) (by omega)) (trivial)))
    exact vQ (k + 1) (fun X q=>⟨W11,q _ _ _ _ ⟨rfl,by kernel_rfl⟩,S12,by omega,fun i y q1 q2=>(Nat.lt_succ_iff_lt_or_eq.1 q1).elim (fun q=>hsh i y q q2) (fun q=>by subst q; rw [hx] at q2; obtain rfl:=Option.some.inj q2; omega)⟩) (by omega)
  ·skip
   obtain ⟨i,y,q1,q2⟩:=hLL hlong
   have hi:=(List.getElem?_eq_some_iff.1 q1).1
   have:=hsh i y (by omega) q1
   omega
 ·skip
  refine bQ (fun H sH=>hR2 hlong _ (lk.sees (S2.trans sH))) ?_; rintro _ W14 S15 ⟨u,v,rfl,hB⟩
  refine go1 13 [.own,.b 0 0] [] ?_
  intro b16
  refine bQ (fun H sH=>small_any _) ?_; rintro _ W17 S18 ⟨A2,c2,B2,d2,rfl,hs⟩
  refine go0 30 [.cl 16 #[.agg #[.slice A2 3 c2,.slice B2 2 d2]] (.tuple #[.string X,Vi 0]),.cl 18 #[.string X,.string ⟨#[102,111,114,109,117,108,97,32,98,32,105,110,116,32,61,32,97,32,43,32,49,10,105,110,112,117,116,32,97,32,105,110,116,10]⟩] (.bool true)] [] ?_ (ho:=(And.intro (fun H sH=>hPs _ _ _ _ _ _ _ (lk.sees (S2.trans (S15.trans (S18.trans sH)))) (hs.sees sH)) (And.intro (fun H sH=>hHp _) (trivial))))
  refine bQ (fun H sH=>hSp _ (lk.sees (S2.trans (S15.trans (S18.trans sH))))) ?_; rintro _ W19 S20 ⟨b,rfl,hrl⟩
  refine go0 5 [] [] ?_
  refine mQ [0,1,0,1,1,1,1,1] [.block 0,.seq [1,1,1,1,1,1]] (fun (k:Nat) X=>∃ (W21:Vw) ,X W21 [(3,Vp b3),(6,Vp b16),(8,Vi 0),(43,Vs b nN nN),(44,Vi (nN:Int)),(45,Vi (k:Int))] [.box b16 [.slice (sA u) (sN u) (sC u),.slice (sA v) (sN v) (sC v)],.box b3 [.slice A nf c,.slice B np d]] []∧Sees W19 W21∧(k≤nN)∧(∀ (i:Nat) (x:List UInt8),i < k→L[i]?=some x→x.length≤160)) (fun k=>nN - k) (0) (fun X q=>⟨W19,q _ _ _ _ ⟨rfl,by kernel_rfl⟩,Sees.refl _,Nat.zero_le _,fun i x q=>absurd q (Nat.not_lt_zero i)⟩) ?_
  rintro k a w ⟨W21,hJ,S22,hk,hsh⟩; refine pQ hJ ?_; clear hJ a w
  refine go0 6 [] [] ?_
  rcases (by omega:k < nN∨k=nN) with hlt | hke
  ·obtain ⟨x,hx⟩:∃ x,L[k]?=some x:=⟨_,List.getElem?_eq_getElem (by omega)⟩
   have hrow:(L.map fun x=>[Value.string (mkB x)])[k]?=some [.string (mkB x)]:=by rw [List.getElem?_map,hx]; rfl
   have hxs:=pV x
   generalize mkB x=sx at *
   refine wQ (t:=decide ((k:Int) < (nN:Int))) (decide_eq_true (by omega)) ?_
   refine go0 6 [] [] ?_
   have c23:=RS.cell hrl (hrow)
   refine gQ (c23.sees S22) ?_
   refine go0 12 [.ix b 0 nN nN k,.f 0 0] [] ?_ (ho:=(And.intro (by first | omega | (simp; omega)) (trivial)))
   by_cases hl:160 < sx.size
   ·refine wQ (t:=decide ((sx.size:Int) > 160)) (decide_eq_true (by omega)) ?_
    refine go0 19 [.b 1 0,.b 0 0,.cl 20 #[.agg #[.slice A nf c,.slice B np d],.agg #[.slice (sA u) (sN u) (sC u),.slice (sA v) (sN v) (sC v)]] (.bool true)] [] ?_ (ho:=(And.intro (fun H sH=>hSm _ _ _ _ _ (hFm.sees (S15.trans (S18.trans (S20.trans (S22.trans sH))))) (hB.sees (S18.trans (S20.trans (S22.trans sH))))) (trivial)))
    refine lQ ?_
    refine go0 2 [] [] ?_
    refine hQ.to [.bool true] (fun H sH=>?_)
    exact rfl
   ·skip
    refine iQ (t:=decide ((sx.size:Int) > 160)) (decide_eq_false (by omega)) ?_
    refine go0 7 [] [(63,Vi (IntKind.i64.wrap ((k:Int) + 1)),Vi ((k:Int) + 1))] ?_ (hc:=(And.intro (jJ (by omega) (by omega)) (trivial)))
    exact vQ (k + 1) (fun X q=>⟨W21,q _ _ _ _ ⟨rfl,by kernel_rfl⟩,S22,by omega,fun i y q1 q2=>(Nat.lt_succ_iff_lt_or_eq.1 q1).elim (fun q=>hsh i y q q2) (fun q=>by subst q; rw [hx] at q2; obtain rfl:=Option.some.inj q2; omega)⟩) (by omega)
  ·skip
   refine iQ (t:=decide ((k:Int) < (nN:Int))) (decide_eq_false (by omega)) ?_
   refine go0 2 [] [] ?_
   refine lQ ?_
   refine go0 9 [.b 1 0,.b 0 0] [] ?_
   refine go0 6 [.cl 20 #[.agg #[.slice A nf c,.slice B np d],.agg #[.slice (sA u) (sN u) (sC u),.slice (sA v) (sN v) (sC v)]] (.bool true)] [] ?_ (ho:=(And.intro (fun H sH=>hSm _ _ _ _ _ (hFm.sees (S15.trans (S18.trans (S20.trans (S22.trans sH))))) (hB.sees (S18.trans (S20.trans (S22.trans sH))))) (trivial)))
   refine hQ.to [.bool true] (fun H sH=>?_)
   exact rfl
theorem textBack_walk (v:Value) (l:List RawD) (w:World) (h:RawsOf w v l) (hL:laidMet Tryz.prog Rows.textBackRow.laid w) (hsh:w.ShapedOpen Tryz.prog) :
  Calls Tryz.prog 6 #[v] w fun e w'=>e=.returned (.bool true)∧Below w.heap.size w w' :=
 lawC (textBack_c l v ⟨w,[]⟩ (Lk.of_laid hL hsh) h.rs h.2.1 h.2.2)
namespace textBackLaw
open Go.ChangeShapes Go.WideShapes Go.ChangeAt Go.RowKit
open Go.ChangeMaps (open_string shut_string)
set_option linter.unusedVariables false
theorem contract (H:Type) (enc:TypeId × Value→H) (W:World) (base:Nat) (args:Array Value) (ds gs:List (DataW H)) (before:List MemPlace)
  (hval0:∀ (j:Nat) t v,Tryz.f6.params[j]?=some t→args[j]?=some v→Value.okWide Tryz.prog W .any base t v)
  (hW:DataW.Whole enc Tryz.prog Tryz.f6.params.toList Rows.textBackSpec.vars false W args.toList ds gs before)
  (hsz0:(DataW.weightsEach Tryz.prog (Tryz.f6.params.toList++Rows.textBackSpec.plain.varTypes Tryz.prog) (ds++gs)).all (· ≤ reachBytes)=true) (hL:laidMet Tryz.prog Rows.textBackRow.laid W) (hsh:W.ShapedOpen Tryz.prog) :
  Calls Tryz.prog 6 args W fun e W'=>∃ v,e=.returned v∧Rows.textBackSpec.post enc Tryz.prog Tryz.f6 false true false false W args v W':=by
 have hval:∀ (j:Nat) t v,Tryz.f6.params[j]?=some t→args[j]?=some v→Value.okWide Tryz.prog W .any base t v:=hval0
 have hsz:(DataW.weightsEach Tryz.prog (Tryz.f6.params.toList++Rows.textBackSpec.plain.varTypes Tryz.prog) (ds++gs)).all (· ≤ reachBytes)=true:=hsz0
 have hW':=hW
 obtain ⟨p,q,hA0,hV,rfl,hfz,hnd⟩:=hW
 have hA:DataW.TrodAll enc Tryz.prog W 0 (fun _=>true) true Tryz.f6.params.toList args.toList ds p:=hA0
 rw [Tryz.params6] at hA hval hsz
 obtain ⟨v0,vs0,d0,ds0,p0,q0,hargs,rfl,rfl,h0,r0⟩:=trodAll_cons hA
 obtain ⟨rfl,rfl,rfl⟩:=trodAll_nil r0
 obtain rfl:args=#[v0]:=by cases args; simp_all
 obtain ⟨rfl,rfl⟩:=trodVars_none hV
 have k0:=h0
 have lt0:∀ x∈p0,x.block < W.heap.size:=by obtain ⟨m,hm⟩:=k0; exact DataW.trod_lt m _ _ _ hm
 obtain ⟨a0,w0⟩:=open_rows (hval 0 22 v0 rfl rfl) h0 (fun es ss hd=>sized_slice hsz (j:=0) (t:=22) (elems:=es) (spare:=ss) rfl (by rw [hd]; rfl) Tryz.underlying22)
 clear hA0 hval0 hsz0
 refine (textBack_walk v0 a0 W w0 hL hsh).mono fun e W' ⟨he,bel⟩=>?_
 subst he
 exact ⟨_,rfl,_,_,_,[],_,[],hW',trodAll_mk1 (shut_bool Tryz.underlying4 _),(trodAll_cons_mk (Below.trod laidOutTrue (by kernel_rfl) (of_decide_eq_true (by kernel_rfl)) k0 bel lt0) trodAll_mk0),rfl,bel.frame _,fun h=>by cases h⟩
theorem reads (os:Os) {H:Type} (enc:TypeId × Value→H):∃ places,DataW.whole enc Tryz.prog ((World.laidAll Tryz.prog os Rows.textBackRow.laid).forCall (fun _ _=>0) ⟨#[],#[.slice none 0 0],[]⟩).memory Tryz.f6.params.toList Rows.textBackSpec.vars false (#[.slice none 0 0]:Array Value).toList 8=some ([.nil],[],places) :=
 ⟨[],by kernel_rfl⟩
theorem lifted (os:Os) (started:os.Started) (H:Type) (enc:TypeId × Value→H) (FF:Stop.Interp) :
  ReturnsInHanded {} Tryz.checked os 6 .any ((OpenSpec.ofChange Rows.textBackSpec).preRow enc Tryz.prog Tryz.f6 Rows.textBackRow.domain false Rows.textBackRow.laid) (((OpenSpec.ofChange Rows.textBackSpec).at FF).post enc Tryz.prog Tryz.f6 false true false false):=by
 obtain ⟨places,hx⟩:=reads os enc
 refine returnsInHanded_of_row (C:=Tryz.checked) (s:=OpenSpec.ofChange Rows.textBackSpec) ownNone started (by kernel_rfl) Tryz.func6
  (witness_row_at (enc:=enc) (C:=Tryz.checked) false (World.laidAll Tryz.prog os Rows.textBackRow.laid) #[.slice none 0 0] (World.laidAll_os _ _ _) (by kernel_rfl) (by kernel_rfl) (by kernel_rfl)
   (OpenSpec.preRow_of_cond 8 hx (by kernel_rfl) (fun k hk=>by cases hk) (by kernel_rfl) (laidMet_laidAll _ (by kernel_rfl) (by kernel_rfl)))) ?_
 intro W base args ds gs before hval hW _ _ hsz hL hsh _
 rw [MakeChecks.laidMetH_plain _ _ _ (by kernel_rfl)] at hL
 exact contract H enc W base args ds gs before hval hW hsz hL hsh
theorem said:Rows.TextBackSaid :=
 OpenClaim.holds_of_cond 6 Tryz.f6 rfl rfl rfl rfl rfl rfl rfl ⟨rfl,rfl,rfl,rfl,rfl⟩ rfl rfl rfl rfl rfl (by kernel_rfl) Tryz.func6 (by kernel_rfl)
  (of_decide_eq_true (by kernel_rfl)) (by unfold Func.isWrapper; first | (rw [if_pos (by decide +kernel)]; kernel_rfl) | (rw [if_neg (by decide +kernel)]; exact ⟨rfl,rfl⟩))
  (fun os started H enc _ FF=>by rw [OpenClaim.pre_eq_preRow]; exact lifted os started H enc FF)
theorem plain (f : FuncId) (fn : Func) (hf : Tryz.pinned.checked.prog.funcNamed "lychway/lychwaykeep.TextBack" = some f) (hfn : Tryz.pinned.checked.prog.funcs[f]? = some fn) :
  Rows.textBackCard.stood.looks=Tryz.pinned.checked.prog.looks []∧∀ (j:Nat) t,fn.params[j]?=some t→Tryz.pinned.checked.prog.wantsStandIn t=false:=by
 obtain rfl : f = 6 := Option.some.inj ((show Tryz.prog.funcNamed "lychway/lychwaykeep.TextBack" = some 6 by kernel_rfl).symm.trans hf) |>.symm
 obtain rfl:fn=Tryz.f6:=(Option.some.inj (Tryz.func6.symm.trans hfn)).symm
 refine ⟨by kernel_rfl,fun j t ht=>?_⟩
 rw [Tryz.params6] at ht
 have hm:=Array.mem_of_getElem? ht
 simp at hm
 first
  | (obtain rfl:=hm; exact (show Tryz.prog.wantsStandIn _=false by kernel_rfl))
  | (rcases hm with rfl | rfl <;> exact (show Tryz.prog.wantsStandIn _=false by kernel_rfl))
end textBackLaw
theorem textBack_holds:Rows.TextBackCardSaid :=
 Claim7.holds_tied_plain_at .later [] _ _ _ _ textBackLaw.said (fun _ h=>by cases h) (by kernel_rfl) (fun _ h=>by cases h) textBack_row_tie rfl ⟨rfl,rfl⟩ (by kernel_rfl) rfl textBackLaw.plain (by kernel_rfl)
#print axioms textBack_holds
end Go.Proofs.YthplkompdehjlaaGreatDoor
