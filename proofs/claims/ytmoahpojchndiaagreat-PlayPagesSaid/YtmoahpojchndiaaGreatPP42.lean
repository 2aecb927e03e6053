/-
  Contracts of field.Copy, page.Copy, sheet.Copy.
-/
import Derived.Test.YtmoahpojchndiaaGreatPP9
import Derived.Test.YtmoahpojchndiaaGreatPP24
import Derived.Test.YtmoahpojchndiaaGreatPP39
import Derived.Test.YtmoahpojchndiaaGreatPP41
set_option maxRecDepth 100000
namespace Go.Proofs.YtmoahpojchndiaaGreat
open Go.RowKit
set_option linter.unusedVariables false
theorem CRow.seen {P:Program} {f:FuncId} {args:Array Value} {h:Vw} {e:TypeId} {k:Nat} {l:List (List Value)} (hc:CRow P f args h e k (fun _ rows=>rows=l)):C0 P f args h (fun v h'=>∃ u,v=sL u /\ RS h' k (sL u) l):=by
 intro a1 a2 a3 a4
 refine (hc a1 a2 a3 a4).mono ?_
 rintro en w' ⟨v,Bo,h1,h2,h3,h4,r,h5,rfl⟩
 have hr:RS ⟨w',h.bad⟩ k v r:=row_rs h5 (fun b hb hm=>by have:=a4 b hm; have:=(h5.1.lt b hb).1; omega)
 obtain ⟨A,c,rfl,-,-⟩:=gY h5
 exact ⟨_,Bo,h1,h2,h3,h4,.slice A r.length c,rfl,hr⟩
theorem fdCopy_any (fs:List Fd) (v:Value) (h:Vw) (hf:IsFds h v fs) (hsz:∀ f∈fs,(szE f.src).1 < 1000000) (few:fs.length <= 1000) :
  C0 Tryz.prog 94 #[v] h (fun r h'=>∃ u,r=sL u /\ IsFds h' (sL u) fs):=by
 obtain ⟨ws,A,c,rfl,-,-,hr,hws,hwl,hsl⟩:=aQ hf
 have hcp:=fun (g:Fd) (hg:g∈fs) u H q=>copy_any g.src u H q (hsz g hg)
 generalize hn:fs.length=n at *
 refine oQ Tryz.func94 (c:=Tryz.f94.body.getD .skip) (N:=22) ?_
 intro hbx hbad Q hQ
 refine aV 56 9 ?_
 refine go0 19 [] [] ?_
 refine xQ [0,1,0,1,1] [.block 0,.seq [1,1,1]] (fun (k:Nat) X=>∃ (W1:Vw) (v:Value) (vs:List Value),X W1 [(6,.slice A n c),(7,Vi (n:Int)),(8,Vi (k:Int)),(3,v)] [.row v 56 9 (xK (fs.take k) vs)] [] /\ Sees h W1 /\ (k <= n) /\ (AllSrc W1 (fs.take k) vs)) (fun k=>n - k) (0) (fun X q=>⟨h,(Vz),[],q _ _ _ _ ⟨rfl,by kernel_rfl⟩,Sees.refl _,Nat.zero_le _,by unfold AllSrc AllArgs; rfl⟩) ?_
 rintro k a w ⟨W1,v,vs,hJ,S2,hk,hvs⟩; refine cV hJ ?_; clear hJ a w
 refine go0 6 [] [] ?_
 rcases (by omega:k < n\/n=k) with hlt | hke
 ·obtain ⟨g,hg⟩:∃ g,fs[k]?=some g:=⟨_,List.getElem?_eq_getElem (by omega)⟩
  obtain ⟨u,hu⟩:∃ u,ws[k]?=some u:=⟨_,List.getElem?_eq_getElem (by omega)⟩
  have hgu:=AllSrc.get hws hg hu
  have hgm:=List.mem_of_getElem? hg
  obtain ⟨Au,nu,cu,rfl⟩:=hgu.slice
  have hrow:=yK hg hu
  have hsn:=cZ _ k g hg
  have hvl:=hvs.len
  have hrl:=zK hvl
  have htl:(fs.take k).length=k:=by rw [List.length_take]; omega
  rw [htl] at hrl
  refine iV (t:=decide ((k:Int) < (n:Int))) (decide_eq_true (by omega)) ?_
  refine go0 6 [] [] ?_
  obtain ⟨b3,o4,rfl,-,c5⟩:=RS.row hr (hrow)
  refine pQ (c5.sees S2) ?_
  refine go1 10 [.ix b3 o4 n c k,.f 0 0,.own,.b 0 0,.b 0 3] [] ?_ (ho:=(And.intro (by first | omega | (simp; omega)) (trivial)))
  intro b6
  refine kQ (fun H sH=>hcp g hgm _ _ (hgu.sees (S2.trans sH))) ?_; rintro _ W7 S8 ⟨uc,rfl,huc⟩
  refine nV 8 [.b 0 3,.b 0 0,.fix] [] ?_
  intro b9 W10 S11
  refine goa0 9 [.ap 1 0 (xK (fs.take k) vs) [[Vt g.name,Vi g.kind,Vi g.ty,Vi g.src.op,Vi g.src.k,Vi g.src.n,.string g.src.s,.string g.src.nm,sL uc]]] [(20,Vi (IntKind.i64.wrap ((k:Int) + 1)),Vi ((k:Int) + 1))] ?_ (ho:=(And.intro (by rw [hrl]; simp; omega) (trivial))) (hc:=(And.intro (jJ (by omega) (by omega)) (trivial)))
  intro v19 W12 S13
  refine vQ [(6,.slice (some ⟨b3,o4,none⟩) n c),(7,Vi (n:Int)),(3,sL v19),(8,Vi ((k:Int) + 1))] [.row (sL v19) 56 9 ((xK (fs.take k) vs)++[[Vt g.name,Vi g.kind,Vi g.ty,Vi g.src.op,Vi g.src.k,Vi g.src.n,.string g.src.s,.string g.src.nm,sL uc]])] [] ?_
  exact gV (k + 1) (fun X q=>⟨W12,sL v19,vs++[sL uc],q _ _ _ _ (nY (by rw [hsn,fdRows_snoc hvl]; try rfl)),(S2.trans (S8.trans (S11.trans S13))),by omega,by rw [hsn]; exact AllSrc.snoc (hvs.sees (S8.trans (S11.trans S13))) (huc.sees (S11.trans S13))⟩) (by omega)
 ·skip
  have hta:fs.take k=fs:=by rw [<- hke, <- hn,List.take_length]
  rw [hta] at hvs ⊢
  refine tQ 0 (v:=v) (e:=56) (kk:=9) (l:=xK fs vs) ?_; intro A2 c2 hE_v hc_v hm_v
  rw [hE_v]
  refine qQ (t:=decide ((k:Int) < (n:Int))) (decide_eq_false (by omega)) ?_
  refine go0 2 [] [] ?_
  refine wQ ?_
  refine go0 9 [] [] ?_
  refine uQ 0 (v:=.slice A2 ((xK fs vs).length) c2) (e:=56) (kk:=9) (l:=xK fs vs) ?_; intro W14 S15 fr
  refine hQ.to [.slice A2 ((xK fs vs).length) c2] (fun H sH=>?_)
  exact ⟨.slice A2 (xK fs vs).length c2,rfl,vs,(fr.sees sH),(hvs.sees (S15.trans sH))⟩
theorem pgCopy_any (ps:List Pg) (v:Value) (h:Vw) (hp:IsPgs h v ps) (hsz:∀ p∈ps,(szE p.skip).1 < 1000000) (hfl:∀ p∈ps,p.fields.length <= 1000) (few:ps.length <= 1000) :
  C0 Tryz.prog 95 #[v] h (fun r h'=>∃ u,r=sL u /\ IsPgs h' (sL u) ps):=by
 obtain ⟨us,ws,A,c,rfl,-,hr,hus,hws,hul,hwl⟩:=mX hp
 have hcp:=fun (g:Pg) (hg:g∈ps) u H q=>copy_any g.skip u H q (hsz g hg)
 have hcl:=fun (g:Pg) (hg:g∈ps) u H (q:RS H 1 u (yY g.fields))=>CRow.seen (c_cloneS (h:=H) (v:=u) (l:=g.fields) q (by have:=hfl g hg; omega))
 generalize hn:ps.length=n at *
 refine oQ Tryz.func95 (c:=Tryz.f95.body.getD .skip) (N:=26) ?_
 intro hbx hbad Q hQ
 refine aV 59 8 ?_
 refine go0 19 [] [] ?_
 refine xQ [0,1,0,1,1] [.block 0,.seq [1,1,1]] (fun (k:Nat) X=>∃ (W1:Vw) (v:Value) (xs:List Value) (vs:List Value),X W1 [(6,.slice A n c),(7,Vi (n:Int)),(8,Vi (k:Int)),(3,v)] [.row v 59 8 (kX (ps.take k) xs vs)] [] /\ Sees h W1 /\ (k <= n) /\ (AllStr W1 ((ps.take k).map (·.fields)) xs) /\ (AllArgs W1 ((ps.take k).map (·.skip)) vs)) (fun k=>n - k) (0) (fun X q=>⟨h,(Vz),[],[],q _ _ _ _ ⟨rfl,by kernel_rfl⟩,Sees.refl _,Nat.zero_le _,rfl,by unfold AllArgs; rfl⟩) ?_
 rintro k a w ⟨W1,v,xs,vs,hJ,S2,hk,hxs,hvs⟩; refine cV hJ ?_; clear hJ a w
 refine go0 6 [] [] ?_
 rcases (by omega:k < n\/n=k) with hlt | hke
 ·obtain ⟨g,hg⟩:∃ g,ps[k]?=some g:=⟨_,List.getElem?_eq_getElem (by omega)⟩
  obtain ⟨u,hu⟩:∃ u,us[k]?=some u:=⟨_,List.getElem?_eq_getElem (by omega)⟩
  obtain ⟨w0,hw0⟩:∃ u,ws[k]?=some u:=⟨_,List.getElem?_eq_getElem (by omega)⟩
  have hgf:=AllStr.get hus (x:=g.fields) (by rw [List.getElem?_map,hg]; rfl) hu
  have hgs:=AllArgs.get hws (x:=g.skip) (by rw [List.getElem?_map,hg]; rfl) hw0
  have hgm:=List.mem_of_getElem? hg
  have hgl:=hfl g hgm
  obtain ⟨Aw,nw,cw,rfl⟩:=hgs.slice
  obtain ⟨Au,cu,rfl,-⟩:=hgf.form
  have hrow:=pgRows_get hg hu hw0
  have hsn:=cZ _ k g hg
  have hxl:=hxs.len
  have hvl:=hvs.len
  rw [List.length_map] at hxl hvl
  have hrl:=lX hxl hvl
  have htl:(ps.take k).length=k:=by rw [List.length_take]; omega
  rw [htl] at hrl
  refine iV (t:=decide ((k:Int) < (n:Int))) (decide_eq_true (by omega)) ?_
  refine go0 6 [] [] ?_
  obtain ⟨b3,o4,rfl,-,c5⟩:=RS.row hr (hrow)
  refine pQ (c5.sees S2) ?_
  refine go1 7 [.ix b3 o4 n c k,.f 0 0,.own,.b 0 0] [] ?_ (ho:=(And.intro (by first | omega | (simp; omega)) (trivial)))
  intro b6
  refine eV 10 0 [.pu,.ld 0 1,.f (fun gh=>sL (gh 2)) (fun gh hh=>RS hh 1 (sL (gh 2)) (yY g.fields)),.pu,.ld 0 2,.f (fun gh=>.agg #[Vi g.skip.op,Vi g.skip.k,Vi g.skip.n,.string g.skip.s,.string g.skip.nm,sL (gh 5)]) (fun gh hh=>IsArgs hh g.skip (sL (gh 5))),.pu,.st 0 1,.pu,.st 0 2] [(2,false),(5,false)] (And.intro (fun _ _ _ s c=>c.sees s) (And.intro (fun _ _ _ s c=>c.sees s) (trivial))) ?_ ?_
  ·intro R hT hA hmono
   refine And.intro (uX hT hA hmono ⟨fun _ _=>by kernel_rfl,fun _ _=>by kernel_rfl,fun _ _=>by kernel_rfl⟩ 14 (fun u=>sL u) [1] 2 131 (fun gh=>#[.slice Au ((yY g.fields).length) cu]) (fun gh H sH fH lent=>C0.facts (R:=R) (x:=gh) (i:=2) (n:=0) (F:=(fun u=>sL u)) (G:=fun u hh=>RS hh 1 (sL u) (yY g.fields)) (f:=fun gh hh=>RS hh 1 (sL (gh 2)) (yY g.fields)) (hcl g hgm _ _ (hgf.sees (S2.trans sH))) (by kernel_rfl) (by kernel_rfl) (fun _ _ r=>r))) ?_
   refine And.intro (uX hT hA hmono ⟨fun _ _=>by kernel_rfl,fun _ _=>by kernel_rfl,fun _ _=>by kernel_rfl⟩ 17 (fun u=>.agg #[Vi g.skip.op,Vi g.skip.k,Vi g.skip.n,.string g.skip.s,.string g.skip.nm,sL u]) [2,4] 5 130 (fun gh=>#[.agg #[Vi g.skip.op,Vi g.skip.k,Vi g.skip.n,.string g.skip.s,.string g.skip.nm,.slice Aw nw cw]]) (fun gh H sH fH lent=>C0.facts (R:=R) (x:=gh) (i:=5) (n:=1) (F:=(fun u=>.agg #[Vi g.skip.op,Vi g.skip.k,Vi g.skip.n,.string g.skip.s,.string g.skip.nm,sL u])) (G:=fun u hh=>IsArgs hh g.skip (sL u)) (f:=fun gh hh=>IsArgs hh g.skip (sL (gh 5))) (hcp g hgm _ _ (hgs.sees (S2.trans sH))) (by kernel_rfl) (by kernel_rfl) (fun _ _ r=>r))) ?_
   trivial
  rintro u14 u17 W7 S8 ⟨f14,f17,-⟩
  replace f14:RS W7 1 (sL u14) (yY g.fields):=f14
  replace f17:IsArgs W7 g.skip (sL u17):=f17
  refine nV 5 [.b 0 0,.fix] [] ?_
  intro b9 W10 S11
  refine goa0 9 [.ap 1 0 (kX (ps.take k) xs vs) [[Vt g.name,sL u14,Vi g.skip.op,Vi g.skip.k,Vi g.skip.n,.string g.skip.s,.string g.skip.nm,sL u17]]] [(24,Vi (IntKind.i64.wrap ((k:Int) + 1)),Vi ((k:Int) + 1))] ?_ (ho:=(And.intro (by rw [hrl]; simp; omega) (trivial))) (hc:=(And.intro (jJ (by omega) (by omega)) (trivial)))
  intro v23 W12 S13
  refine vQ [(6,.slice (some ⟨b3,o4,none⟩) n c),(7,Vi (n:Int)),(3,sL v23),(8,Vi ((k:Int) + 1))] [.row (sL v23) 59 8 ((kX (ps.take k) xs vs)++[[Vt g.name,sL u14,Vi g.skip.op,Vi g.skip.k,Vi g.skip.n,.string g.skip.s,.string g.skip.nm,sL u17]])] [] ?_
  exact gV (k + 1) (fun X q=>⟨W12,sL v23,xs++[sL u14],vs++[sL u17],q _ _ _ _ (nY (by rw [hsn,pgRows_snoc hxl hvl]; try rfl)),(S2.trans (S8.trans (S11.trans S13))),by omega,by rw [hsn,List.map_append]; exact AllStr.snoc (f14.sees (S11.trans S13)) (hxs.sees (S8.trans (S11.trans S13))),by rw [hsn,List.map_append]; exact AllArgs.snoc (f17.sees (S11.trans S13)) (hvs.sees (S8.trans (S11.trans S13)))⟩) (by omega)
 ·skip
  have hta:ps.take k=ps:=by rw [<- hke, <- hn,List.take_length]
  rw [hta] at hvs hxs ⊢
  refine tQ 0 (v:=v) (e:=59) (kk:=8) (l:=kX ps xs vs) ?_; intro A2 c2 hE_v hc_v hm_v
  rw [hE_v]
  refine qQ (t:=decide ((k:Int) < (n:Int))) (decide_eq_false (by omega)) ?_
  refine go0 2 [] [] ?_
  refine wQ ?_
  refine go0 9 [] [] ?_
  refine uQ 0 (v:=.slice A2 ((kX ps xs vs).length) c2) (e:=59) (kk:=8) (l:=kX ps xs vs) ?_; intro W14 S15 fr
  refine hQ.to [.slice A2 ((kX ps xs vs).length) c2] (fun H sH=>?_)
  exact ⟨.slice A2 (kX ps xs vs).length c2,rfl,xs,vs,(fr.sees sH),(hxs.sees (S15.trans sH)),(hvs.sees (S15.trans sH))⟩
end Go.Proofs.YtmoahpojchndiaaGreat
