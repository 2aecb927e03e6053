/-
  For all raw things SubmitOnce returns true: every field occurs at most once in the record. The card: no condition beyond what the card itself says.
-/
import Derived.Test.YtmoahpojchndiaaGreatDoorZB9
import Derived.Test.YtmoahpojchndiaaGreatDoorZB47
import Derived.Test.YtmoahpojchndiaaGreatDoorZB50
import Derived.Test.YtmoahpojchndiaaGreatDoorZB52
set_option maxRecDepth 100000
namespace Go.Proofs.YtmoahpojchndiaaGreatDoor
open Go.RowKit
set_option linter.unusedVariables false
theorem text_three:([(⟨#[97]⟩,⟨1,3,⟨#[]⟩⟩)]:Env).map txtE=[⟨#[97,58,32,51]⟩]:=by
 have e:showV ⟨1,3,⟨#[]⟩⟩=⟨#[51]⟩:=by
  show (⟨(Lib.itoa 3).toArray⟩:ByteArray)=_
  rw [show Lib.itoa 3=Lib.decDigits 3 from Lib.itoa_nonneg 3,Lib.decDigits_one (by omega)]
  rfl
 show [_++colB++showV ⟨1,3,⟨#[]⟩⟩]=_
 rw [e]; rfl
theorem text_lit (b:Nat) (h:Vw) (hl:Lk h) (hc:Cells h b 0 [.string ⟨#[97]⟩,.int .i64 0,.int .i64 0,.string ⟨#[]⟩,.int .i64 1,.int .i64 3,.string ⟨#[]⟩]):C0 Tryz.prog 8 #[.slice (some ⟨b,0,none⟩) 1 1] h (fun r h'=>∃ u,r=.tuple #[.slice (sA u) (sN u) (sC u),.int .i64 0]∧RS h' 1 (.slice (sA u) (sN u) (sC u)) (lY [⟨#[97,58,32,51]⟩])):=by
 have hr:RS h 7 (.slice (some ⟨b,0,none⟩) 1 1) (yK [(⟨#[97]⟩,⟨1,3,⟨#[]⟩⟩)]):=uX (k:=7) [[.string ⟨#[97]⟩,.int .i64 0,.int .i64 0,.string ⟨#[]⟩,.int .i64 1,.int .i64 3,.string ⟨#[]⟩]] (fun r hr=>by simp at hr; rw [hr]; rfl) (show (1:Nat)≤maxLen by decide) hc
 have:=text_any [(⟨#[97]⟩,⟨1,3,⟨#[]⟩⟩)] _ h hl hr (by decide) (fun p hp=>by
  rw [List.mem_singleton.1 hp]
  exact ⟨.inl ⟨rfl,⟨by decide,by decide⟩,rfl⟩,by decide⟩)
 rw [text_three] at this
 exact this
theorem eq_lit (u:Value) (b:Nat) (h:Vw) (h1:RS h 1 (.slice (sA u) (sN u) (sC u)) (lY [⟨#[97,58,32,51]⟩])) (hc:Cells h b 0 [.string ⟨#[97,58,32,51]⟩]):C0 Tryz.prog 13 #[.slice (sA u) (sN u) (sC u),.slice (some ⟨b,0,none⟩) 1 1] h (fun r _=>r=.bool true):=by
 have h2:RS h 1 (.slice (some ⟨b,0,none⟩) 1 1) (lY [⟨#[97,58,32,51]⟩]):=uX (k:=1) [[.string ⟨#[97,58,32,51]⟩]] (fun r hr=>by simp at hr; rw [hr]; rfl) (show (1:Nat)≤maxLen by decide) hc
 have:=eqS_any _ _ _ _ h h1 h2 (by decide) (by decide)
 rw [decide_eq_true rfl] at this
 exact this
theorem once_mem {rows:Env} (h:(rows.map (·.1)).Nodup) {k:Nat} {s:ByteArray} {x:Vl} (hx:rows[k]?=some (s,x)) {met:List ByteArray} (hm:met=(rows.take k).map (·.1)):memS met s=false:=by
 have hs:(rows.map (·.1))[k]?=some s:=by rw [List.getElem?_map,hx]; rfl
 have hn:s ∉ met:=fun q=>by
  rw [hm,List.map_take] at q
  obtain ⟨j,hj⟩:=List.getElem?_of_mem q
  have hjk:j < k:=by
   rcases Nat.lt_or_ge j k with g | g
   ·exact g
   ·rw [List.getElem?_eq_none (by rw [List.length_take]; omega)] at hj; cases hj
  rw [List.getElem?_take_of_lt hjk] at hj
  have:=(List.getElem?_inj (List.getElem?_eq_some_iff.1 hj).1 h).1 (hj.trans hs.symm)
  omega
 exact memS_no hn
set_option maxHeartbeats 1000000 in
theorem submitOnce_c (l m:List RawD) (sl sm:Value) (h:Vw) (hL:Lk h) (hl:RS h 4 sl (l.map RawD.cs)) (hm:RS h 4 sm (m.map RawD.cs)) (ll:l.length * 40≤reachBytes) (lm:m.length * 40≤reachBytes) (ol:∀ r∈l,r.ok) (om:∀ r∈m,r.ok) :
  C0 Tryz.prog 4 #[sl,sm] h (fun v _=>v=.bool true):=by
 have hFi:=fun H q1 q2=>filled_any l m sl sm H q1 q2 ll lm ol om
 have hok:=form_okFm l
 obtain ⟨hS,ov⟩:=allF_sol l m (orcF_ok l m).has
 have la:=hS.len
 clear hS
 generalize allF l m (orcF l m)=va at *
 have mf:=hok.pages.few
 have m1:=hok.pages.one
 have honc:=hok.pages.once
 have hfl:=hok.pages.fl
 have hNx:=fun A c B d A1 c1 path w t H q1 q2 q3 q4=>next_u (jQ l) _ _ A _ c B _ d va A1 c1 path w t H hok rfl rfl la ov q1 q2 q3 q4
 have hRe:=fun A c B d A1 c1 path w t H q1 q2 q3 q4=>record_u (jQ l) _ _ A _ c B _ d va A1 c1 path w t H hok rfl rfl la ov q1 q2 q3 q4
 clear hok
 generalize jQ l=fm at *
 generalize hN:fm.fields.length=N at *
 generalize hM:fm.pages.length=M at *
 obtain ⟨A0,c0,rfl,-,-,-⟩:=hl.form
 obtain ⟨A1,c1,rfl,-,-,-⟩:=hm.form
 rw [List.length_map] at *
 rw [List.length_map] at *
 refine rQ Tryz.func4 (c:=Tryz.f4.body.getD .skip) (N:=92) ?_
 intro hbx hbad Q hQ
 refine go0 9 [] [] ?_
 refine oQ (fun H sH=>hFi _ (hl.sees sH) (hm.sees sH)) ?_; rintro _ W1 S2 ⟨A,c,B,d,A2,c2,rfl,hfm,hva⟩
 refine go2 27 [.own,.b 0 0,.own,.b 0 0,.b 1 1] [] ?_
 intro b3 bwk
 have hSu:SubC fm va A N c B M d A2 c2 _:=⟨hfm,hva⟩
 have hz:false=(((0:Nat):Int) == (M:Int)):=(beq_eq_false_iff_ne.2 (by omega)).symm
 refine yQ [0,1,0,1,1,1] [.block 0,.seq [1,1,1,1]] (fun (k:Nat) X=>∃ (W4:Vw) (t:Nat) (uw:Value) (bw:Bool) (path:List Int),X W4 [(5,Vp b3),(6,.slice A2 N c2),(7,.bool true),(8,Vp bwk),(28,Vi (M:Int)),(29,Vi (k:Int))] [.box bwk [Vi (t:Int),.slice (sA uw) (sN uw) (sC uw),.bool bw],.box b3 [.slice A N c,.slice B M d]] []∧Sees W1 W4∧(k≤M)∧(bw=((t:Int) == (M:Int)))∧(path.length≤k)∧(RS W4 1 (.slice (sA uw) (sN uw) (sC uw)) (rX path))∧(PathOk (path++[(t:Int)]) M)) (fun k=>M - k) (0) (fun X q=>⟨W1,0,(Vz),false,[],q _ _ _ _ ⟨rfl,by kernel_rfl⟩,Sees.refl _,Nat.zero_le _,hz,Nat.le_refl 0,RS.nil _ 1,⟨List.pairwise_singleton _ _,fun x hx=>by have:=List.mem_singleton.1 hx; omega,fun x hx=>by have:=List.mem_singleton.1 hx; omega⟩⟩) ?_
 rintro k a w ⟨W4,t,uw,bw,path,hJ,S5,hk,hbw,hlp,hp,pk⟩; refine dV hJ ?_; clear hJ a w
 refine go0 6 [] [] ?_
 rcases (by omega:k < M∨k=M) with hlt | hke
 ·have hNy:=fun H q1 q2=>hNx A c B d A2 c2 path uw t H q1 q2 (by omega) pk
  rw [← hbw] at hNy
  refine jV (t:=decide ((k:Int) < (M:Int))) (decide_eq_true (by omega)) ?_
  refine go0 9 [.b 1 0,.b 0 0] [] ?_
  refine oQ (fun H sH=>hNy _ (hSu.sees (S5.trans sH)) (hp.sees sH)) ?_; rintro _ W6 S7 ⟨e,a,u,b,rfl,hnx⟩
  refine go1 14 [.own,.b 0 0] [] ?_
  intro b8
  rcases hnx with ⟨he,hb,h1,h2,h3,h4,-⟩ | he
  ·refine jV (t:=e == 0) (beq_iff_eq.2 he) ?_
   refine go0 10 [.b 0 0,.b 1 0] [(41,Vi (IntKind.i64.wrap ((k:Int) + 1)),Vi ((k:Int) + 1))] ?_ (hc:=(And.intro (jJ (by omega) (by omega)) (trivial)))
   exact iV (k + 1) (fun X q=>⟨W6,a,u,b,(path++[(t:Int)]),q _ _ _ _ ⟨rfl,by kernel_rfl⟩,(S5.trans S7),by omega,hb,(by rw [List.length_append,List.length_cons,List.length_nil]; omega),h3,h4⟩) (by omega)
  ·skip
   have he:e≠0:=by omega
   refine tQ (t:=e == 0) (beq_eq_false_iff_ne.2 he) ?_
   refine go0 7 [] [(41,Vi (IntKind.i64.wrap ((k:Int) + 1)),Vi ((k:Int) + 1))] ?_ (hc:=(And.intro (jJ (by omega) (by omega)) (trivial)))
   exact iV (k + 1) (fun X q=>⟨W6,t,uw,bw,path,q _ _ _ _ ⟨rfl,by kernel_rfl⟩,(S5.trans S7),by omega,hbw,(by omega),(hp.sees S7),pk⟩) (by omega)
 ·skip
  have hRy:=fun H q1 q2=>hRe A c B d A2 c2 path uw t H q1 q2 (by omega) pk
  rw [← hbw] at hRy
  have hnd:=pgN_nodup honc (path:=path) (List.pairwise_append.1 pk.rise).1 (fun q hq=>pk.lo q (List.mem_append_left _ hq))
  refine tQ (t:=decide ((k:Int) < (M:Int))) (decide_eq_false (by omega)) ?_
  refine go0 2 [] [] ?_
  refine xQ ?_
  refine go0 7 [.b 1 0,.b 0 0] [] ?_
  refine oQ (fun H sH=>hRy _ (hSu.sees (S5.trans sH)) (hp.sees sH)) ?_; rintro _ W9 S10 ⟨e,Ar,cr,rows,rfl,hro,hre⟩
  refine go0 19 [.b 0 2] [] ?_
  have hrn:(rows.map (·.1)).Nodup∧rows.length≤1000:=by
   rcases hre with ⟨-,g,-⟩ | ⟨-,-,-,g⟩
   ·rw [g]; exact ⟨List.nodup_nil,by decide⟩
   ·rw [g,recE_fst]
    have:=pgN_len hfl path
    exact ⟨hnd,by unfold recE; rw [List.length_map]; omega⟩
  obtain ⟨hrn,hrl⟩:=hrn
  have hzz:([]:List ByteArray)=(rows.take 0).map (·.1):=rfl
  have hcs:=fun H v (met:List ByteArray) s q1 q2=>contS_any met v s H q1 q2
  have hT3:=fun b H q1 q2=>text_lit b H q1 q2
  have hE3:=fun u b H q1 q2=>eq_lit u b H q1 q2
  rcases Bool.eq_false_or_eq_true ((e == 0) != bw) with hq | hq
  ·have he:e=11:=by
    rcases hre with ⟨g,-⟩ | ⟨g1,g2,-⟩
    ·exact g
    ·rw [g1,hbw,g2] at hq
     simp at hq
   refine gV 57 (v:=.bool ((e == 0) != bw)) (v':=.bool true) (congrArg Value.bool hq) ?_
   refine go0 6 [] [] ?_
   refine tQ (t:=e != 11) (bne_eq_false_iff_eq.2 he) ?_
   refine go0 16 [] [] ?_
   refine cV 9 1 ?_
   refine yQ [0,1,0,1,1,1,1,1,1,1] [.block 2,.seq [1,1,1,1,1,1,1,1]] (fun (k:Nat) X=>∃ (W11:Vw) (v:Value) (met:List ByteArray),X W11 [(62,.slice Ar rows.length cr),(63,Vi (rows.length:Int)),(64,Vi (k:Int)),(13,v)] [.row v 9 1 (lY met),.box bwk [Vi (t:Int),.slice (sA uw) (sN uw) (sC uw),.bool bw],.box b3 [.slice A N c,.slice B M d]] []∧Sees W9 W11∧(k≤rows.length)∧(met=(rows.take k).map (·.1))) (fun k=>rows.length - k) (0) (fun X q=>⟨W9,(Vz),[],q _ _ _ _ ⟨rfl,by kernel_rfl⟩,Sees.refl _,Nat.zero_le _,hzz⟩) ?_
   rintro k a w ⟨W11,v,met,hJ,S12,hk,hmt⟩; refine dV hJ ?_; clear hJ a w
   refine go0 6 [] [] ?_
   rcases (by omega:k < rows.length∨k=rows.length) with hlt | hke
   ·obtain ⟨⟨s,x⟩,hx⟩:∃ x,rows[k]?=some x:=⟨_,List.getElem?_eq_getElem (by omega)⟩
    have hrow:(yK rows)[k]?=some [.string s,.int .i64 0,.int .i64 0,.string ⟨#[]⟩,.int .i64 x.k,.int .i64 x.n,.string x.s]:=by rw [List.getElem?_map,hx]; rfl
    have hmn:memS met s=false:=once_mem hrn hx hmt
    have hcm:=fun H v q=>contS_any met v s H q (by rw [hmt,List.length_map,List.length_take]; omega)
    rw [hmn] at hcm
    have hsn:met++[s]=(rows.take (k + 1)).map (·.1):=by rw [nY rows k _ hx,List.map_append,hmt]; rfl
    have hml:met.length≤k:=by rw [hmt,List.length_map,List.length_take]; omega
    have hstl:(lY met).length=met.length:=List.length_map _
    refine jV (t:=decide ((k:Int) < (rows.length:Int))) (decide_eq_true (by omega)) ?_
    refine go0 6 [] [] ?_
    obtain ⟨b13,o14,rfl,-,c15⟩:=RS.row hro (hrow)
    refine sQ (c15.sees S12) ?_
    refine go1 12 [.ix b13 o14 rows.length cr k,.f 0 0,.own,.b 0 0,.b 0 0] [] ?_ (ho:=(And.intro (by first | omega | (simp; omega)) (trivial)))
    intro bxx
    refine g_callq (fun a w hJ=>hcm _ _ (hJ.j.rowQ (v:=v) (e:=9) (k:=1) (l:=lY met) 1 (by kernel_rfl))) ?_; intro W16 S17
    refine oV 10 [.b 0 0,.fix] [] ?_
    intro b18 W19 S20
    refine goa0 9 [.ap 1 0 (lY met) [[.string s]]] [(77,Vi (IntKind.i64.wrap ((k:Int) + 1)),Vi ((k:Int) + 1))] ?_ (ho:=(And.intro (by constructor <;> (simp; omega)) (trivial))) (hc:=(And.intro (jJ (by omega) (by omega)) (trivial)))
    intro v76 W21 S22
    refine wQ [(62,.slice (some ⟨b13,o14,none⟩) rows.length cr),(63,Vi (rows.length:Int)),(13,.slice (sA v76) (sN v76) (sC v76)),(64,Vi ((k:Int) + 1))] [.row (.slice (sA v76) (sN v76) (sC v76)) 9 1 ((lY met)++[[.string s]]),.box bwk [Vi (t:Int),.slice (sA uw) (sN uw) (sC uw),.bool bw],.box b3 [.slice A N c,.slice B M d]] [] ?_
    exact iV (k + 1) (fun X q=>⟨W21,.slice (sA v76) (sN v76) (sC v76),met++[s],q _ _ _ _ (fY (by simp [lY])),(S12.trans (S17.trans (S20.trans S22))),by omega,hsn⟩) (by omega)
   ·skip
    refine tQ (t:=decide ((k:Int) < (rows.length:Int))) (decide_eq_false (by omega)) ?_
    refine go0 2 [] [] ?_
    refine xQ ?_
    refine oV 7 [.fix] [] ?_
    intro bt81 W23 S24
    refine qQ 0 bt81 0 [.string ⟨#[97]⟩,Vi 0,Vi 0,Ve,Vi 1,Vi 3,Ve] fun t81=>?_
    refine g_drop 0 ?_
    refine oQ (fun H sH=>hT3 _ _ (hL.sees (S2.trans (S5.trans (S10.trans (S12.trans (S24.trans sH)))))) (t81.sees sH)) ?_; rintro _ W25 S26 ⟨u9,rfl,f9⟩
    refine oV 14 [.fix] [] ?_
    intro bt89 W27 S28
    refine qQ 0 bt89 0 [.string ⟨#[97,58,32,51]⟩] fun t89=>?_
    refine go0 6 [.cl 13 #[.slice (sA u9) (sN u9) (sC u9),Vs bt89 1 1] (.bool true)] [] ?_ (ho:=(And.intro (fun H sH=>hE3 _ _ _ (f9.sees (S28.trans sH)) (t89.sees sH)) (trivial)))
    refine hQ.to [.bool true] (fun H sH=>?_)
    exact rfl
  ·skip
   refine gV 57 (v:=.bool ((e == 0) != bw)) (v':=.bool false) (congrArg Value.bool hq) ?_
   refine go0 23 [] [] ?_
   refine cV 9 1 ?_
   refine yQ [0,1,0,1,1,1,1,1,1,1] [.block 2,.seq [1,1,1,1,1,1,1,1]] (fun (k:Nat) X=>∃ (W29:Vw) (v:Value) (met:List ByteArray),X W29 [(62,.slice Ar rows.length cr),(63,Vi (rows.length:Int)),(64,Vi (k:Int)),(13,v)] [.row v 9 1 (lY met),.box bwk [Vi (t:Int),.slice (sA uw) (sN uw) (sC uw),.bool bw],.box b3 [.slice A N c,.slice B M d]] []∧Sees W9 W29∧(k≤rows.length)∧(met=(rows.take k).map (·.1))) (fun k=>rows.length - k) (0) (fun X q=>⟨W9,(Vz),[],q _ _ _ _ ⟨rfl,by kernel_rfl⟩,Sees.refl _,Nat.zero_le _,hzz⟩) ?_
   rintro k a w ⟨W29,v,met,hJ,S30,hk,hmt⟩; refine dV hJ ?_; clear hJ a w
   refine go0 6 [] [] ?_
   rcases (by omega:k < rows.length∨k=rows.length) with hlt | hke
   ·obtain ⟨⟨s,x⟩,hx⟩:∃ x,rows[k]?=some x:=⟨_,List.getElem?_eq_getElem (by omega)⟩
    have hrow:(yK rows)[k]?=some [.string s,.int .i64 0,.int .i64 0,.string ⟨#[]⟩,.int .i64 x.k,.int .i64 x.n,.string x.s]:=by rw [List.getElem?_map,hx]; rfl
    have hmn:memS met s=false:=once_mem hrn hx hmt
    have hcm:=fun H v q=>contS_any met v s H q (by rw [hmt,List.length_map,List.length_take]; omega)
    rw [hmn] at hcm
    have hsn:met++[s]=(rows.take (k + 1)).map (·.1):=by rw [nY rows k _ hx,List.map_append,hmt]; rfl
    have hml:met.length≤k:=by rw [hmt,List.length_map,List.length_take]; omega
    have hstl:(lY met).length=met.length:=List.length_map _
    refine jV (t:=decide ((k:Int) < (rows.length:Int))) (decide_eq_true (by omega)) ?_
    refine go0 6 [] [] ?_
    obtain ⟨b31,o32,rfl,-,c33⟩:=RS.row hro (hrow)
    refine sQ (c33.sees S30) ?_
    refine go1 12 [.ix b31 o32 rows.length cr k,.f 0 0,.own,.b 0 0,.b 0 0] [] ?_ (ho:=(And.intro (by first | omega | (simp; omega)) (trivial)))
    intro bxx
    refine g_callq (fun a w hJ=>hcm _ _ (hJ.j.rowQ (v:=v) (e:=9) (k:=1) (l:=lY met) 1 (by kernel_rfl))) ?_; intro W34 S35
    refine oV 10 [.b 0 0,.fix] [] ?_
    intro b36 W37 S38
    refine goa0 9 [.ap 1 0 (lY met) [[.string s]]] [(77,Vi (IntKind.i64.wrap ((k:Int) + 1)),Vi ((k:Int) + 1))] ?_ (ho:=(And.intro (by constructor <;> (simp; omega)) (trivial))) (hc:=(And.intro (jJ (by omega) (by omega)) (trivial)))
    intro v76 W39 S40
    refine wQ [(62,.slice (some ⟨b31,o32,none⟩) rows.length cr),(63,Vi (rows.length:Int)),(13,.slice (sA v76) (sN v76) (sC v76)),(64,Vi ((k:Int) + 1))] [.row (.slice (sA v76) (sN v76) (sC v76)) 9 1 ((lY met)++[[.string s]]),.box bwk [Vi (t:Int),.slice (sA uw) (sN uw) (sC uw),.bool bw],.box b3 [.slice A N c,.slice B M d]] [] ?_
    exact iV (k + 1) (fun X q=>⟨W39,.slice (sA v76) (sN v76) (sC v76),met++[s],q _ _ _ _ (fY (by simp [lY])),(S30.trans (S35.trans (S38.trans S40))),by omega,hsn⟩) (by omega)
   ·skip
    refine tQ (t:=decide ((k:Int) < (rows.length:Int))) (decide_eq_false (by omega)) ?_
    refine go0 2 [] [] ?_
    refine xQ ?_
    refine oV 7 [.fix] [] ?_
    intro bt81 W41 S42
    refine qQ 0 bt81 0 [.string ⟨#[97]⟩,Vi 0,Vi 0,Ve,Vi 1,Vi 3,Ve] fun t81=>?_
    refine g_drop 0 ?_
    refine oQ (fun H sH=>hT3 _ _ (hL.sees (S2.trans (S5.trans (S10.trans (S30.trans (S42.trans sH)))))) (t81.sees sH)) ?_; rintro _ W43 S44 ⟨u9,rfl,f9⟩
    refine oV 14 [.fix] [] ?_
    intro bt89 W45 S46
    refine qQ 0 bt89 0 [.string ⟨#[97,58,32,51]⟩] fun t89=>?_
    refine go0 6 [.cl 13 #[.slice (sA u9) (sN u9) (sC u9),Vs bt89 1 1] (.bool true)] [] ?_ (ho:=(And.intro (fun H sH=>hE3 _ _ _ (f9.sees (S46.trans sH)) (t89.sees sH)) (trivial)))
    refine hQ.to [.bool true] (fun H sH=>?_)
    exact rfl
theorem submitOnce_walk (v:Value) (l:List RawD) (v':Value) (m:List RawD) (w:World) (h:RawsOf w v l) (h':RawsOf w v' m) (hL:laidMet Tryz.prog Rows.submitOnceRow.laid w) (hsh:w.ShapedOpen Tryz.prog) :
  Calls Tryz.prog 4 #[v,v'] w fun e w'=>e=.returned (.bool true)∧Below w.heap.size w w' :=
 lawC (submitOnce_c l m v v' ⟨w,[]⟩ (Lk.of_laid hL hsh) h.rs h'.rs h.2.1 h'.2.1 h.2.2 h'.2.2)
namespace submitOnceLaw
open Go.ChangeShapes Go.WideShapes Go.ChangeAt Go.RowKit
open Go.ChangeMaps (open_string shut_string)
set_option linter.unusedVariables false
theorem contract (H:Type) (enc:TypeId × Value→H) (W:World) (base:Nat) (args:Array Value) (ds gs:List (DataW H)) (before:List MemPlace)
  (hval0:∀ (j:Nat) t v,Tryz.f4.params[j]?=some t→args[j]?=some v→Value.okWide Tryz.prog W .any base t v)
  (hW:DataW.Whole enc Tryz.prog Tryz.f4.params.toList Rows.submitOnceSpec.vars false W args.toList ds gs before)
  (hsz0:(DataW.weightsEach Tryz.prog (Tryz.f4.params.toList++Rows.submitOnceSpec.plain.varTypes Tryz.prog) (ds++gs)).all (· ≤ reachBytes)=true) (hL:laidMet Tryz.prog Rows.submitOnceRow.laid W) (hsh:W.ShapedOpen Tryz.prog) :
  Calls Tryz.prog 4 args W fun e W'=>∃ v,e=.returned v∧Rows.submitOnceSpec.post enc Tryz.prog Tryz.f4 false true false false W args v W':=by
 have hval:∀ (j:Nat) t v,Tryz.f4.params[j]?=some t→args[j]?=some v→Value.okWide Tryz.prog W .any base t v:=hval0
 have hsz:(DataW.weightsEach Tryz.prog (Tryz.f4.params.toList++Rows.submitOnceSpec.plain.varTypes Tryz.prog) (ds++gs)).all (· ≤ reachBytes)=true:=hsz0
 have hW':=hW
 obtain ⟨p,q,hA0,hV,rfl,hfz,hnd⟩:=hW
 have hA:DataW.TrodAll enc Tryz.prog W 0 (fun _=>true) true Tryz.f4.params.toList args.toList ds p:=hA0
 rw [Tryz.params4] at hA hval hsz
 obtain ⟨v0,vs0,d0,ds0,p0,q0,hargs,rfl,rfl,h0,r0⟩:=trodAll_cons hA
 obtain ⟨v1,vs1,d1,ds1,p1,q1,rfl,rfl,rfl,h1,r1⟩:=trodAll_cons r0
 obtain ⟨rfl,rfl,rfl⟩:=trodAll_nil r1
 obtain rfl:args=#[v0,v1]:=by cases args; simp_all
 obtain ⟨rfl,rfl⟩:=trodVars_none hV
 have k0:=h0
 have lt0:∀ x∈p0,x.block < W.heap.size:=by obtain ⟨m,hm⟩:=k0; exact DataW.trod_lt m _ _ _ hm
 obtain ⟨a0,w0⟩:=open_rows (hval 0 22 v0 rfl rfl) h0 (fun es ss hd=>sized_slice hsz (j:=0) (t:=22) (elems:=es) (spare:=ss) rfl (by rw [hd]; rfl) Tryz.underlying22)
 have k1:=h1
 have lt1:∀ x∈p1,x.block < W.heap.size:=by obtain ⟨m,hm⟩:=k1; exact DataW.trod_lt m _ _ _ hm
 obtain ⟨a1,w1⟩:=open_rows (hval 1 22 v1 rfl rfl) h1 (fun es ss hd=>sized_slice hsz (j:=1) (t:=22) (elems:=es) (spare:=ss) rfl (by rw [hd]; rfl) Tryz.underlying22)
 clear hA0 hval0 hsz0
 refine (submitOnce_walk v0 a0 v1 a1 W w0 w1 hL hsh).mono fun e W' ⟨he,bel⟩=>?_
 subst he
 exact ⟨_,rfl,_,_,_,[],_,[],hW',trodAll_mk1 (shut_bool Tryz.underlying4 _),(trodAll_cons_mk (Below.trod laidOutTrue (by kernel_rfl) (of_decide_eq_true (by kernel_rfl)) k0 bel lt0) (trodAll_cons_mk (Below.trod laidOutTrue (by kernel_rfl) (of_decide_eq_true (by kernel_rfl)) k1 bel lt1) trodAll_mk0)),rfl,bel.frame _,fun h=>by cases h⟩
theorem reads (os:Os) {H:Type} (enc:TypeId × Value→H):∃ places,DataW.whole enc Tryz.prog ((World.laidAll Tryz.prog os Rows.submitOnceRow.laid).forCall (fun _ _=>0) ⟨#[],#[.slice none 0 0,.slice none 0 0],[]⟩).memory Tryz.f4.params.toList Rows.submitOnceSpec.vars false (#[.slice none 0 0,.slice none 0 0]:Array Value).toList 8=some ([.nil,.nil],[],places) :=
 ⟨[],by kernel_rfl⟩
theorem lifted (os:Os) (started:os.Started) (H:Type) (enc:TypeId × Value→H) (FF:Stop.Interp) :
  ReturnsInHanded {} Tryz.checked os 4 .any ((OpenSpec.ofChange Rows.submitOnceSpec).preRow enc Tryz.prog Tryz.f4 Rows.submitOnceRow.domain false Rows.submitOnceRow.laid) (((OpenSpec.ofChange Rows.submitOnceSpec).at FF).post enc Tryz.prog Tryz.f4 false true false false):=by
 obtain ⟨places,hx⟩:=reads os enc
 refine returnsInHanded_of_row (C:=Tryz.checked) (s:=OpenSpec.ofChange Rows.submitOnceSpec) ownNone started (by kernel_rfl) Tryz.func4
  (witness_row_at (enc:=enc) (C:=Tryz.checked) false (World.laidAll Tryz.prog os Rows.submitOnceRow.laid) #[.slice none 0 0,.slice none 0 0] (World.laidAll_os _ _ _) (by kernel_rfl) (by kernel_rfl) (by kernel_rfl)
   (OpenSpec.preRow_of_cond 8 hx (by kernel_rfl) (fun k hk=>by cases hk) (by kernel_rfl) (laidMet_laidAll _ (by kernel_rfl) (by kernel_rfl)))) ?_
 intro W base args ds gs before hval hW _ _ hsz hL hsh _
 rw [MakeChecks.laidMetH_plain _ _ _ (by kernel_rfl)] at hL
 exact contract H enc W base args ds gs before hval hW hsz hL hsh
theorem said:Rows.SubmitOnceSaid :=
 OpenClaim.holds_of_cond 4 Tryz.f4 rfl rfl rfl rfl rfl rfl rfl ⟨rfl,rfl,rfl,rfl,rfl⟩ rfl rfl rfl rfl rfl (by kernel_rfl) Tryz.func4 (by kernel_rfl)
  (of_decide_eq_true (by kernel_rfl)) (by unfold Func.isWrapper; first | (rw [if_pos (by decide +kernel)]; kernel_rfl) | (rw [if_neg (by decide +kernel)]; exact ⟨rfl,rfl⟩))
  (fun os started H enc _ FF=>by rw [OpenClaim.pre_eq_preRow]; exact lifted os started H enc FF)
theorem plain (f : FuncId) (fn : Func) (hf : Tryz.pinned.checked.prog.funcNamed "lychway/lychwaykeep.SubmitOnce" = some f) (hfn : Tryz.pinned.checked.prog.funcs[f]? = some fn) :
  Rows.submitOnceCard.stood.looks=Tryz.pinned.checked.prog.looks []∧∀ (j:Nat) t,fn.params[j]?=some t→Tryz.pinned.checked.prog.wantsStandIn t=false:=by
 obtain rfl : f = 4 := Option.some.inj ((show Tryz.prog.funcNamed "lychway/lychwaykeep.SubmitOnce" = some 4 by kernel_rfl).symm.trans hf) |>.symm
 obtain rfl:fn=Tryz.f4:=(Option.some.inj (Tryz.func4.symm.trans hfn)).symm
 refine ⟨by kernel_rfl,fun j t ht=>?_⟩
 rw [Tryz.params4] at ht
 have hm:=Array.mem_of_getElem? ht
 simp at hm
 first
  | (obtain rfl:=hm; exact (show Tryz.prog.wantsStandIn _=false by kernel_rfl))
  | (rcases hm with rfl | rfl <;> exact (show Tryz.prog.wantsStandIn _=false by kernel_rfl))
end submitOnceLaw
theorem submitOnce_holds:Rows.SubmitOnceCardSaid :=
 Claim7.holds_tied_plain_at .later [] _ _ _ _ submitOnceLaw.said (fun _ h=>by cases h) (by kernel_rfl) (fun _ h=>by cases h) submitOnce_row_tie rfl ⟨rfl,rfl⟩ (by kernel_rfl) rfl submitOnceLaw.plain (by kernel_rfl)
#print axioms submitOnce_holds
end Go.Proofs.YtmoahpojchndiaaGreatDoor
