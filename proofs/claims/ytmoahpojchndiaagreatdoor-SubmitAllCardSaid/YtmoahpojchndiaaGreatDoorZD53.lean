/-
  For all raw things SubmitAll returns true: the record contains exactly the fields on the visited pages. The card: no condition beyond what the card itself says.
-/
import Derived.Test.YtmoahpojchndiaaGreatDoorZD9
import Derived.Test.YtmoahpojchndiaaGreatDoorZD47
import Derived.Test.YtmoahpojchndiaaGreatDoorZD50
import Derived.Test.YtmoahpojchndiaaGreatDoorZD52
set_option maxRecDepth 100000
namespace Go.Proofs.YtmoahpojchndiaaGreatDoor
open Go.RowKit
set_option linter.unusedVariables false
theorem find1_suba (f:Fd) (A:Option Addr) (n c:Nat) (s:ByteArray) (b:Nat) (h:Vw) (hc:Cells h b 0 [.string s]) :
  C0 Tryz.prog 10 #[.agg #[.string f.name,.int .i64 f.kind,.int .i64 f.ty,.int .i64 f.src.op,.int .i64 f.src.k,.int .i64 f.src.n,.string f.src.s,.string f.src.nm,.slice A n c],.pointer (some ⟨b,0,none⟩)] h (fun r _=>r=.bool (f.name.toList == s.toList)):=by
 refine sQ Tryz.func10 (c:=Tryz.f10.body.getD .skip) (N:=8) ?_
 intro hbx hbad Q hQ
 refine tQ (hc.sees (Sees.refl _)) ?_
 refine go1 16 [.own,.b 0 0,.f 0 0] [] ?_
 intro b1
 refine hQ.to [.bool (f.name.toList == s.toList)] (fun H sH=>?_)
 exact rfl
theorem idxF_suba (fs:List Fd) (vs:List Value) (A:Option Addr) (cap:Nat) (s:ByteArray) (b:Nat) (h:Vw) (hr:RS h 9 (.slice A fs.length cap) (zK fs vs)) (hl:fs.length≤1000000) (hvl:vs.length=fs.length) (hsl:∀ u∈vs,.slice (sA u) (sN u) (sC u)=u) (hc:Cells h b 0 [.string s]) :
  C0 Tryz.prog 9 #[.slice A fs.length cap,.func (.func 10) #[] #[.pointer (some ⟨b,0,none⟩)]] h (fun r _=>r=.int .i64 (fQ fs s)):=by
 generalize hL:fs.length=len at *
 refine sQ Tryz.func9 (c:=Tryz.f9.body.getD .skip) (N:=19) ?_
 intro hbx hbad Q hQ
 refine go0 14 [] [] ?_
 refine zQ [0,1,0,1] [.block 0,.seq [1,1]] (fun (k:Nat) X=>∃ (W1:Vw) ,X W1 [(0,.slice A len cap),(1,.func (.func 10) #[] #[Vp b]),(7,Vi (len:Int)),(8,Vi (k:Int))] [] []∧Sees h W1∧(k≤len)∧(∀ y∈fs.take k,(y.name.toList == s.toList)=false)) (fun k=>len - k) (0) (fun X q=>⟨h,q _ _ _ _ ⟨rfl,by kernel_rfl⟩,Sees.refl _,Nat.zero_le _,fun y hy=>by simp at hy⟩) ?_
 rintro k a w ⟨W1,hJ,S2,hk,hn⟩; refine eV hJ ?_; clear hJ a w
 refine go0 6 [] [] ?_
 rcases (by omega:k < len∨k=len) with hlt | hke
 ·obtain ⟨f,hfk⟩:∃ f,fs[k]?=some f:=⟨_,List.getElem?_eq_getElem (by omega)⟩
  obtain ⟨u,huk⟩:∃ u,vs[k]?=some u:=⟨_,List.getElem?_eq_getElem (by omega)⟩
  have hrow:(zK fs vs)[k]?=some (fdRow f (.slice (sA u) (sN u) (sC u))):=by rw [hsl u (List.mem_of_getElem? huk)]; exact aQ hfk huk
  refine kV (t:=decide ((k:Int) < (len:Int))) (decide_eq_true (by omega)) ?_
  refine go0 15 [] [] ?_
  obtain ⟨b3,o4,rfl,-,c5⟩:=RS.row hr (hrow)
  refine tQ (c5.sees S2) ?_
  refine go0 5 [.ix b3 o4 len cap k,.f 0 0,.cl 10 #[.agg #[.string f.name,Vi f.kind,Vi f.ty,Vi f.src.op,Vi f.src.k,Vi f.src.n,.string f.src.s,.string f.src.nm,.slice (sA u) (sN u) (sC u)],Vp b] (.bool (f.name.toList == s.toList))] [] ?_ (ho:=(And.intro (by first | omega | (simp; omega)) (And.intro (fun H sH=>find1_suba f _ _ _ s b _ (hc.sees (S2.trans sH))) (trivial))))
  cases boolIs (f.name.toList == s.toList) with
  | true hq =>
   refine kV (t:=f.name.toList == s.toList) (hq) ?_
   refine go0 9 [] [] ?_
   refine yQ ?_
   refine go0 2 [] [] ?_
   refine hQ.to [Vi (k:Int)] (fun H sH=>?_)
   exact congrArg (Value.int .i64) (dQ _ fs k f hn hfk hq).symm
  | false hq =>
   refine uQ (t:=f.name.toList == s.toList) (hq) ?_
   refine go0 7 [] [(18,Vi (IntKind.i64.wrap ((k:Int) + 1)),Vi ((k:Int) + 1))] ?_ (hc:=(And.intro (jJ (by omega) (by omega)) (trivial)))
   exact jV (k + 1) (fun X q=>⟨W1,q _ _ _ _ ⟨rfl,by kernel_rfl⟩,S2,by omega,(by rw [nY fs k f hfk]; exact fun y hy=>(List.mem_append.1 hy).elim (hn y) (fun e=>by rw [List.mem_singleton.1 e]; exact hq))⟩) (by omega)
 ·skip
  have htk:fs.take k=fs:=by rw [hke,← hL,List.take_length]
  rw [htk] at hn
  refine uQ (t:=decide ((k:Int) < (len:Int))) (decide_eq_false (by omega)) ?_
  refine go0 2 [] [] ?_
  refine yQ ?_
  refine go0 8 [] [] ?_
  refine hQ.to [Vi (-1)] (fun H sH=>?_)
  exact congrArg (Value.int .i64) (eQ _ fs hn).symm
theorem pgN_at {ps:List Pg} {path:List Int} {k q j:Nat} {p:Pg} {s:ByteArray} (hx:path[k]?=some (q:Int)) (hp:ps[q]?=some p) (hs:p.fields[j]?=some s):(pgN ps path)[(pgN ps (path.take k)).length + j]?=some s:=by
 have e:path=(path.take k++[(q:Int)])++path.drop (k + 1):=by
  rw [← nY path k _ hx,List.take_append_drop]
 have e2:pgN ps path=pgN ps (path.take k)++p.fields++pgN ps (path.drop (k + 1)):=by
  conv=>lhs; rw [e]
  rw [← pgN_snoc hp]
  unfold pgN
  rw [List.flatMap_append]
 have hj:=(List.getElem?_eq_some_iff.1 hs).1
 rw [e2,List.getElem?_append_left (by rw [List.length_append]; omega),List.getElem?_append_right (by omega),Nat.add_sub_cancel_left]
 exact hs
theorem run_neqF (s:ByteArray) (v:Vl) (W:World):((binOp .neq 56 (.agg #[.string s,.int .i64 0,.int .i64 0,.string ⟨#[]⟩,.int .i64 v.k,.int .i64 v.n,.string v.s]) (.agg #[.string s,.int .i64 0,.int .i64 0,.string ⟨#[]⟩,.int .i64 v.k,.int .i64 v.n,.string v.s])).run Tryz.prog W)=.ok (.bool false) W:=by
 simp [go_sem,Tryz.underlying56,Tryz.underlying43,Tryz.underlying3,Tryz.underlying9]
theorem run_neqFt {ρ:Operand→Value} {o:Oper} {x y:Operand} {s:ByteArray} {v:Vl} {W:World} (ho:o.op=.binOp .neq 56 x y 56) (hx:ρ x=.agg #[.string s,.int .i64 0,.int .i64 0,.string ⟨#[]⟩,.int .i64 v.k,.int .i64 v.n,.string v.s]) (hy:ρ y=.agg #[.string s,.int .i64 0,.int .i64 0,.string ⟨#[]⟩,.int .i64 v.k,.int .i64 v.n,.string v.s]):(execOp ρ o).run Tryz.prog W=.ok (.value (.bool false)) W:=by
 unfold execOp
 simp only [ho,hx,hy,Sem.run_bind,run_eqGuard_agg W .neq 56 x y _ _ (show Tryz.prog.eqGuardType Tryz.prog.depth 56=false by kernel_rfl),run_neqF,Sem.run_pure,Result.andThen_ok]
theorem next_s {m t:Nat} {path:List Int} {ps:List Pg} {fs:List Fd} {va:List Vl} {r:Value} {h:Vw} (k:NxR m t path ps fs va r h):∃ (e:Int) (a:Nat) (A8:Option Addr) (n8 c8:Nat) (b:Bool),r=.tuple #[.agg #[.int .i64 (a:Int),.slice A8 n8 c8,.bool b],.int .i64 e] ∧
 ((e=0∧n8=path.length + 1∧b=((a:Int) == (m:Int))∧t < a∧a≤m∧RS h 1 (.slice A8 n8 c8) (sX (path++[(t:Int)]))∧PathOk ((path++[(t:Int)])++[(a:Int)]) m∧∃ p,ps[t]?=some p∧wV fs va p.fields=[])∨(e=11∧t < m)∨(e=13∧t=m)):=by
 obtain ⟨e,a,u,b,rfl,q⟩:=k
 rcases q with ⟨h1,h2,h3,h4,h5,h6,h7⟩ | q
 ·obtain ⟨A8,c8,e8,-⟩:=h5.form
  rw [List.length_map,List.length_append,List.length_cons,List.length_nil] at e8
  rw [e8] at h5 ⊢
  exact ⟨e,a,A8,_,c8,b,rfl,.inl ⟨h1,rfl,h2,h3,h4,h5,h6,h7⟩⟩
 ·exact ⟨e,a,sA u,sN u,sC u,b,rfl,.inr q⟩
theorem lack_known {fs:List Fd} {va:List Vl} {l:List ByteArray} (h:wV fs va l=[]):KnN fs va l:=fun s hs=>by
 unfold wV at h
 rw [List.filter_eq_nil_iff] at h
 have:=h s hs
 simpa using this
set_option maxHeartbeats 1000000 in
theorem submitAll_c (l m:List RawD) (sl sm:Value) (h:Vw) (hL:Lk h) (hl:RS h 4 sl (l.map RawD.cs)) (hm:RS h 4 sm (m.map RawD.cs)) (ll:l.length * 40≤reachBytes) (lm:m.length * 40≤reachBytes) (ol:∀ r∈l,r.ok) (om:∀ r∈m,r.ok) :
  C0 Tryz.prog 3 #[sl,sm] h (fun v _=>v=.bool true):=by
 have hFi:=fun H q1 q2=>filled_any l m sl sm H q1 q2 ll lm ol om
 have hok:=form_okFm l
 obtain ⟨hS,ov⟩:=allF_sol l m (orcF_ok l m).has
 have la:=hS.len
 clear hS
 generalize allF l m (orcF l m)=va at *
 have mf:=hok.pages.few
 have m1:=hok.pages.one
 have few:=hok.fields.few
 have hnd:=hok.fields.nodup
 have heach:=hok.fields.each
 have hfl:=hok.pages.fl
 have hhere:=hok.pages.here
 have hNx:=fun A c B d A1 c1 path w t H q1 q2 q3 q4=>next_u (kQ l) _ _ A _ c B _ d va A1 c1 path w t H hok rfl rfl la ov q1 q2 q3 q4
 have hRe:=fun A c B d A1 c1 path w t H q1 q2 q3 q4=>record_u (kQ l) _ _ A _ c B _ d va A1 c1 path w t H hok rfl rfl la ov q1 q2 q3 q4
 clear hok
 generalize kQ l=fm at *
 generalize hN:fm.fields.length=N at *
 generalize hM:fm.pages.length=M at *
 have hz:(((0:Nat):Int) == (M:Int))=false:=beq_eq_false_iff_ne.2 (by omega)
 have pk0:PathOk ([]++[((0:Nat):Int)]) M:=⟨List.pairwise_singleton _ _,fun x hx=>by have:=List.mem_singleton.1 hx; omega,fun x hx=>by have:=List.mem_singleton.1 hx; omega⟩
 have hR0:∀ A c B d A1 c1 H,SubC fm va A N c B M d A1 c1 H→C0 Tryz.prog 6 #[.agg #[.slice A N c,.slice B M d],.slice A1 N c1,.agg #[.int .i64 0,.slice none 0 0,.bool false]] H (fun r _=>∃ Ar cr,r=.tuple #[.slice Ar 0 cr,.int .i64 11]):=fun A c B d A1 c1 H q=>by
  have k:=hRe A c B d A1 c1 [] (.slice none 0 0) 0 H q (RS.nil _ 1) (by decide) pk0
  rw [hz] at k
  refine k.mono fun r h' _=>?_
  rintro ⟨e,Ar,cr,rows,rfl,-,⟨rfl,rfl,-⟩ | ⟨-,g,-⟩⟩
  ·exact ⟨Ar,cr,rfl⟩
  ·omega
 obtain ⟨A0,c0,rfl,-,-,-⟩:=hl.form
 obtain ⟨A1,c1,rfl,-,-,-⟩:=hm.form
 rw [List.length_map] at *
 rw [List.length_map] at *
 refine sQ Tryz.func3 (c:=Tryz.f3.body.getD .skip) (N:=156) ?_
 intro hbx hbad Q hQ
 refine go0 9 [] [] ?_
 refine pQ (fun H sH=>hFi _ (hl.sees sH) (hm.sees sH)) ?_; rintro _ W1 S2 ⟨A,c,B,d,A2,c2,rfl,hfm,hva⟩
 refine go2 23 [.own,.b 0 0,.own,.b 0 0,.b 1 0,.b 0 0] [] ?_
 intro b3 bwk
 have hSu:SubC fm va A N c B M d A2 c2 _:=⟨hfm,hva⟩
 obtain ⟨us,ws,B3,d3,e3,-,hpr,hps,hpg,-,-⟩:=pgs_open hfm.pages
 simp only [Value.slice.injEq] at e3
 obtain ⟨rfl,-,rfl⟩:=e3
 rw [hM] at hpr
 obtain ⟨vs,A3,c3,e4,-,-,hr3,hs3,hl3,hsl⟩:=cQ hfm.fields
 simp only [Value.slice.injEq] at e4
 obtain ⟨rfl,-,rfl⟩:=e4
 have hIx:=fun s b H q1 q2=>idxF_suba fm.fields vs A c s b H q1 (by omega) hl3 hsl q2
 rw [hN] at hr3 hIx
 refine pQ (fun H sH=>hR0 _ _ _ _ _ _ _ (hSu.sees sH)) ?_; rintro _ W4 S5 ⟨Ar0,cr0,rfl⟩
 refine go0 22 [] [] ?_
 refine zQ [0,0,1,1,1,1] [.block 0,.seq [1,1,1,1,1]] (fun (t:Nat) X=>∃ (W6:Vw) (A7:Option Addr) (np:Nat) (c7:Nat) (bw:Bool) (path:List Int),X W6 [(5,Vp b3),(6,.slice A2 N c2),(8,Vp bwk)] [.box bwk [Vi (t:Int),.slice A7 np c7,.bool bw],.box b3 [.slice A N c,.slice B M d]] []∧Sees W4 W6∧(t≤M)∧(bw=((t:Int) == (M:Int)))∧(path.length=np)∧(np≤t)∧(RS W6 1 (.slice A7 np c7) (sX path))∧(PathOk (path++[(t:Int)]) M)∧(KnN fm.fields va (pgN fm.pages path))) (fun t=>M - t) (0) (fun X q=>⟨W4,none,0,0,false,[],q _ _ _ _ ⟨rfl,by kernel_rfl⟩,Sees.refl _,by omega,hz.symm,rfl,Nat.le_refl 0,RS.nil _ 1,pk0,fun _ h=>by cases h⟩) ?_
 rintro t a w ⟨W6,A7,np,c7,bw,path,hJ,S7,htM,hbw,hnp,hlp,hp,pk,hkn⟩; refine eV hJ ?_; clear hJ a w
 refine go0 8 [.b 0 2] [] ?_
 by_cases ht:t=M
 ·have hbt:bw=true:=by rw [hbw,ht,beq_self_eq_true]
  have hok2:∀ p∈recE fm.fields va (pgN fm.pages path),p.2.known∧p.1.size≤1000:=fun p hp=>by
   unfold recE at hp
   obtain ⟨s,hs,rfl⟩:=List.mem_map.1 hp
   have hk3:=hkn s hs
   have hs0:0≤fQ fm.fields s:=by
    unfold pgN at hs
    obtain ⟨q,hq,hs⟩:=List.mem_flatMap.1 hs
    cases g:fm.pages[q.toNat]? with
    | none=>rw [g] at hs; cases hs
    | some p=>rw [g] at hs; exact hhere p (List.mem_of_getElem? g) s hs
   rcases findF_lt fm.fields s with g | ⟨i,f,g1,g2,g3⟩
   ·omega
   ·refine ⟨?_,?_⟩
    ·have hil:=(List.getElem?_eq_some_iff.1 g2).1
     obtain ⟨x,hx⟩:∃ x,va[i]?=some x:=⟨_,List.getElem?_eq_getElem (by omega)⟩
     have e:va.getD (fQ fm.fields s).toNat zV=x:=by rw [g1,Int.toNat_natCast,List.getD_eq_getElem?_getD,hx]; rfl
     rw [e] at hk3
     show (va.getD (fQ fm.fields s).toNat zV).known
     rw [e]
     rcases ov x (List.mem_of_getElem? hx) with q | rfl | ⟨q,-⟩
     ·exact q
     ·exact absurd hk3 (by decide)
     ·omega
    ·have:=(name_print (heach f (List.mem_of_getElem? g2)).name).1
     rw [g3] at this
     show s.size≤1000
     omega
  have pkM:=pk
  rw [ht] at pkM
  have hnl:=pgN_len hfl path
  have hrl:(recE fm.fields va (pgN fm.pages path)).length=(pgN fm.pages path).length:=by unfold recE; rw [List.length_map]
  have hRz:∀ H,SubC fm va A N c B M d A2 c2 H→RS H 1 (.slice A7 np c7) (sX path)→C0 Tryz.prog 6 #[.agg #[.slice A N c,.slice B M d],.slice A2 N c2,.agg #[.int .i64 (t:Int),.slice A7 np c7,.bool bw]] H (fun r h'=>∃ Ar cr,r=.tuple #[.slice Ar (pgN fm.pages path).length cr,.int .i64 0]∧RS h' 7 (.slice Ar (pgN fm.pages path).length cr) (yK (recE fm.fields va (pgN fm.pages path)))):=fun H q1 q2=>by
   have k:=hRe A c B d A2 c2 path (.slice A7 np c7) t H q1 q2 (by omega) pk
   rw [← hbw] at k
   refine k.mono fun r h' _=>?_
   rintro ⟨e,Ar,cr,rows,rfl,hr,⟨-,-,g⟩ | ⟨rfl,-,-,rfl⟩⟩
   ·exact absurd hkn (g ht)
   ·rw [hrl] at hr ⊢
    exact ⟨Ar,cr,rfl,hr⟩
  have hTx:∀ v H,Lk H→RS H 7 v (yK (recE fm.fields va (pgN fm.pages path)))→C0 Tryz.prog 8 #[v] H (fun r h'=>∃ As cs,r=.tuple #[.slice As (pgN fm.pages path).length cs,.int .i64 0]∧RS h' 1 (.slice As (pgN fm.pages path).length cs) (lY ((recE fm.fields va (pgN fm.pages path)).map txtE))):=fun v H q1 q2=>by
   refine (text_any _ v H q1 q2 (by omega) hok2).mono fun r h' _=>?_
   rintro ⟨u,rfl,hr⟩
   obtain ⟨As,cs,e,-⟩:=hr.form
   rw [List.length_map,List.length_map,hrl] at e
   rw [e] at hr ⊢
   exact ⟨As,cs,rfl,hr⟩
  have hat:=fun k q p j s q1 q2 q3=>pgN_at (ps:=fm.pages) (path:=path) (k:=k) (q:=q) (p:=p) (j:=j) (s:=s) q1 q2 q3
  have hpz:(pgN fm.pages (path.take 0)).length=0:=rfl
  have hpe:(pgN fm.pages (path.take np)).length=(pgN fm.pages path).length:=by rw [← hnp,List.take_length]
  have hps2:=fun k=>pgN_len hfl (path.take k)
  generalize hnm:pgN fm.pages path=nms at *
  generalize hrc:recE fm.fields va nms=rws at *
  generalize hLL:nms.length=L at *
  refine uQ (t := !bw) ((by rw [hbt]; rfl)) ?_
  refine go0 2 [] [] ?_
  refine yQ ?_
  refine go0 7 [.b 1 0,.b 0 0] [] ?_
  refine pQ (fun H sH=>hRz _ (hSu.sees (S5.trans (S7.trans sH))) (hp.sees sH)) ?_; rintro _ W8 S9 ⟨Ar,cr,rfl,hro⟩
  refine go0 10 [] [] ?_
  refine pQ (fun H sH=>hTx _ _ (hL.sees (S2.trans (S5.trans (S7.trans (S9.trans sH))))) (hro.sees sH)) ?_; rintro _ W10 S11 ⟨As,cs,rfl,hso⟩
  refine go0 25 [] [] ?_
  refine uQ (t:=(L:Int) != (L:Int)) ((by simp)) ?_
  refine go0 17 [.b 0 1] [] ?_
  refine zQ [0,1,0,1,1,1,1,1,1,1,1,1] [.block 2,.seq [1,1,1,1,1,1,1,1,1,1]] (fun (k:Nat) X=>∃ (W12:Vw) (cn:Nat),X W12 [(5,Vp b3),(6,.slice A2 N c2),(13,.slice Ar L cr),(15,.slice As L cs),(87,.slice A7 np c7),(88,Vi (np:Int)),(89,Vi (k:Int)),(17,Vi (cn:Int))] [.box bwk [Vi (t:Int),.slice A7 np c7,.bool bw],.box b3 [.slice A N c,.slice B M d]] []∧Sees W10 W12∧(k≤np)∧((pgN fm.pages (path.take k)).length=cn)) (fun k=>np - k) (0) (fun X q=>⟨W10,0,q _ _ _ _ ⟨rfl,by kernel_rfl⟩,Sees.refl _,Nat.zero_le _,hpz⟩) ?_
  rintro k a w ⟨W12,cn,hJ,S13,hk,hcn⟩; refine eV hJ ?_; clear hJ a w
  refine go0 6 [] [] ?_
  rcases (by omega:k < np∨k=np) with hlt | hke
  ·obtain ⟨x,hx⟩:∃ x,path[k]?=some x:=⟨_,List.getElem?_eq_getElem (by omega)⟩
   obtain ⟨q,rfl,hqm⟩:=path_at pkM hx
   have hxr:=rk_row hx
   obtain ⟨p,hpq⟩:∃ p,fm.pages[q]?=some p:=⟨_,List.getElem?_eq_getElem (by omega)⟩
   obtain ⟨Au,cu,Bu,mu,du,hprow,hrs,-⟩:=pg_at hps hpg hpq
   have hph:=hhere p (List.mem_of_getElem? hpq)
   have hpf:=hfl p (List.mem_of_getElem? hpq)
   have hnx:(pgN fm.pages (path.take (k + 1))).length=cn + p.fields.length:=by rw [nY path k _ hx,pgN_snoc hpq,List.length_append,hcn]
   have hat2:=fun j s q3=>hat k q p j s hx hpq q3
   have hcb:=hps2 k
   rw [hcn] at hat2 hcb
   rw [List.length_take] at hcb
   have hst:(lY p.fields).length=p.fields.length:=List.length_map _
   generalize hpn:p.fields.length=nf at *
   refine kV (t:=decide ((k:Int) < (np:Int))) (decide_eq_true (by omega)) ?_
   refine go0 6 [] [] ?_
   obtain ⟨b14,o15,rfl,-,c16⟩:=RS.row hp (hxr)
   refine tQ (c16.sees (S9.trans (S11.trans S13))) ?_
   refine go0 10 [.ix b14 o15 np c7 k,.f 0 0,.b 1 1] [] ?_ (ho:=(And.intro (by first | omega | (simp; omega)) (trivial)))
   obtain ⟨b17,o18,rfl,-,c19⟩:=RS.row hpr (hprow)
   refine tQ (c19.sees (S5.trans (S7.trans (S9.trans (S11.trans S13))))) ?_
   refine go0 8 [.ix b17 o18 M d q,.f 0 1] [] ?_ (ho:=(And.intro (by first | omega | (simp; omega)) (trivial)))
   refine zQ [0,1,1,0,0,1,1,0,0,1,0,1,1,1,1,1,1,1,1,1] [.block 4,.block 3,.seq [1,1,1,0,0,1,0,1,1,1,1,1,1,1,1,1]] (fun (j:Nat) X=>∃ (W20:Vw) (cj:Nat),X W20 [(5,Vp b3),(6,.slice A2 N c2),(13,.slice Ar L cr),(15,.slice As L cs),(87,.slice (some ⟨b14,o15,none⟩) np c7),(88,Vi (np:Int)),(89,Vi (k:Int)),(98,.slice Au nf cu),(99,Vi (nf:Int)),(100,Vi (j:Int)),(17,Vi (cj:Int))] [.box bwk [Vi (t:Int),.slice (some ⟨b14,o15,none⟩) np c7,.bool bw],.box b3 [.slice A N c,.slice (some ⟨b17,o18,none⟩) M d]] [(b17,o18 + q * 8,[.string p.name,.slice Au nf cu,Vi p.skip.op,Vi p.skip.k,Vi p.skip.n,.string p.skip.s,.string p.skip.nm,.slice Bu mu du]),(b14,o15 + k * 1,[Vi (q:Int)])]∧Sees W12 W20∧(j≤nf)∧(cj=cn + j)) (fun j=>nf - j) (0) (fun X q=>⟨W12,cn,q _ _ _ _ ⟨rfl,by kernel_rfl⟩,Sees.refl _,Nat.zero_le _,rfl⟩) ?_
   rintro j a w ⟨W20,cj,hJ,S21,hj,hcj⟩; refine eV hJ ?_; clear hJ a w
   refine go0 6 [] [] ?_
   rcases (by omega:j < nf∨j=nf) with hjl | hje
   ·obtain ⟨s,hs⟩:∃ s,p.fields[j]?=some s:=⟨_,List.getElem?_eq_getElem (by omega)⟩
    have hsr:=str_row hs
    have hs0:=hph s (List.mem_of_getElem? hs)
    obtain ⟨i,hi⟩:∃ i:Nat,fQ fm.fields s=(i:Int):=⟨_,(Int.toNat_of_nonneg hs0).symm⟩
    have hil:i < fm.fields.length:=by
     rcases findF_lt fm.fields s with g | ⟨i',f',g1,g2,-⟩
     ·omega
     ·have:=(List.getElem?_eq_some_iff.1 g2).1
      omega
    obtain ⟨x,hxv⟩:∃ x,va[i]?=some x:=⟨_,List.getElem?_eq_getElem (by omega)⟩
    have hvr:(qY va)[i]?=some [.int .i64 x.k,.int .i64 x.n,.string x.s]:=by rw [List.getElem?_map,hxv]; rfl
    have hgd:va.getD (fQ fm.fields s).toNat zV=x:=by rw [hi,Int.toNat_natCast,List.getD_eq_getElem?_getD,hxv]; rfl
    have hnr:=hat2 j s hs
    rw [← hcj] at hnr
    have hrr:rws[cj]?=some (s,x):=by rw [← hrc]; unfold recE; rw [List.getElem?_map,hnr,Option.map_some,hgd]
    have hrow:(yK rws)[cj]?=some [.string s,.int .i64 0,.int .i64 0,.string ⟨#[]⟩,.int .i64 x.k,.int .i64 x.n,.string x.s]:=by rw [List.getElem?_map,hrr]; rfl
    have hsw:(lY (rws.map txtE))[cj]?=some [.string (txtE (s,x))]:=by rw [List.getElem?_map,List.getElem?_map,hrr]; rfl
    obtain ⟨hx1,hx2⟩:=hok2 _ (List.mem_of_getElem? hrr)
    have hsx:=fun H q=>sh_known x H q hx1
    have hss:=showV_size x hx1
    have htx:s++colB++showV x=txtE (s,x):=rfl
    have hc2:colB.size=2:=rfl
    have hx2:s.size≤1000:=hx2
    have hc3:(⟨#[58,32]⟩:ByteArray)=colB:=rfl
    have hc4:(s++colB).size=s.size + 2:=by rw [ByteArray.size_append]; rfl
    have hIs:=fun b H q1 q2=>hIx s b H q1 q2
    rw [hi] at hIs
    have hcl:cj < L:=by rw [← hLL]; exact (List.getElem?_eq_some_iff.1 hnr).1
    generalize showV x=sx at *
    refine kV (t:=decide ((j:Int) < (nf:Int))) (decide_eq_true (by omega)) ?_
    refine go0 6 [] [] ?_
    obtain ⟨b22,o23,rfl,-,c24⟩:=RS.row hrs (hsr)
    refine tQ (c24.sees (S5.trans (S7.trans (S9.trans (S11.trans (S13.trans S21)))))) ?_
    refine go1 11 [.ix b22 o23 nf cu j,.f 0 0,.own,.b 0 0,.b 2 0] [] ?_ (ho:=(And.intro (by first | omega | (simp; omega)) (trivial)))
    intro bnm
    refine g_callq (fun a w hJ=>hIs bnm _ (hr3.sees (S5.trans (S7.trans (S9.trans (S11.trans (S13.trans (S21.trans hJ.j.seesQ))))))) (hJ.j.boxQ (b:=bnm) (cs:=[.string s]) 0 (by kernel_rfl))) ?_; intro W25 S26
    refine go0 7 [] [] ?_
    obtain ⟨b27,o28,rfl,-,c29⟩:=RS.row hva (hvr)
    refine tQ (c29.sees (S5.trans (S7.trans (S9.trans (S11.trans (S13.trans (S21.trans S26))))))) ?_
    refine go0 12 [.ix b27 o28 N c2 i,.f 0 0,.cl 11 #[.agg #[Vi x.k,Vi x.n,.string x.s]] (.tuple #[.string sx,Vi 0])] [] ?_ (ho:=(And.intro (by first | omega | (simp; omega)) (And.intro (fun H sH=>hsx _ (hL.sees (S2.trans (S5.trans (S7.trans (S9.trans (S11.trans (S13.trans (S21.trans (S26.trans sH)))))))))) (trivial))))
    obtain ⟨b30,o31,rfl,-,c32⟩:=RS.row hro (hrow)
    refine tQ (c32.sees (S11.trans (S13.trans (S21.trans S26)))) ?_
    have c33:=RS.cell hva (hvr)
    refine tQ (c33.sees (S5.trans (S7.trans (S9.trans (S11.trans (S13.trans (S21.trans S26))))))) ?_
    obtain ⟨b34,o35,rfl,-,c36⟩:=RS.row hso (hsw)
    refine tQ (c36.sees (S13.trans (S21.trans S26))) ?_
    refine gV 32 0 [.pu,.pu,.pu,.v (fun gh=>.bool false),.pu,.pu,.pu,.v (fun gh=>.pointer (some ⟨b30,o31 + cj * 7,none⟩)),.lf 2 0,.ld 0 0,.pu,.pu,.v (fun gh=>.pointer (some ⟨b27,o28 + i * 3,none⟩)),.lf 1 0,.pu,.v (fun gh=>.bool false),.pu,.pu,.pu,.pu,.pu,.pu,.pu,.pu,.v (fun gh=>.pointer (some ⟨b34,o35 + cj * 1,none⟩)),.lf 0 0,.ld 0 0,.v (fun gh=>.string (s++colB)),.pu,.v (fun gh=>.string (txtE (s,x))),.v (fun gh=>.bool false),.pu] [] (trivial) ?_ ?_
    ·intro R hT hA hmono
     refine And.intro (t_eq hT hA (fun gh=>.bool false) (fun gh=>.bool (decide ((cj:Int) ≥ (L:Int)))) (fun gh=>congrArg Value.bool (decide_eq_false (by omega)))) ?_
     refine And.intro (mY hT hA b30 o31 L cr cj (fun gh=>.pointer (some ⟨b30,o31 + cj * 7,none⟩)) (by first | omega | (simp; omega))) ?_
     refine And.intro (mY hT hA b27 o28 N c2 i (fun gh=>.pointer (some ⟨b27,o28 + i * 3,none⟩)) (by first | omega | (simp; omega))) ?_
     refine And.intro (t_p hT hA (fun gh=>.bool false) (fun gh w=>run_neqFt (x:=(.tmp 124)) (y:=(.tmp 130)) (s:=s) (v:=x) (by kernel_rfl) (by kernel_rfl) (by kernel_rfl))) ?_
     refine And.intro (mY hT hA b34 o35 L cs cj (fun gh=>.pointer (some ⟨b34,o35 + cj * 1,none⟩)) (by first | omega | (simp; omega))) ?_
     refine And.intro (t_p hT hA (fun gh=>.string (s++colB)) (fun gh w=>xX (op:=.add) (t:=9) (x:=(.tmp 142)) (y:=(.const (.string ⟨#[58,32]⟩))) (yt:=9) (va:=.string s) (vb:=.string ⟨#[58,32]⟩) (by kernel_rfl) (by kernel_rfl) (by kernel_rfl) (by kernel_rfl) (by rw [binOp_string_add,run_string_add_sum _ _ _ (by rw [hc3,hc2]; omega)]; rfl))) ?_
     refine And.intro (t_p hT hA (fun gh=>.string (txtE (s,x))) (fun gh w=>xX (op:=.add) (t:=9) (x:=(.tmp 143)) (y:=(.tmp 144)) (yt:=9) (va:=.string (s++colB)) (vb:=.string sx) (by kernel_rfl) (by kernel_rfl) (by kernel_rfl) (by kernel_rfl) (by rw [binOp_string_add,run_string_add_sum _ _ _ (by rw [hc4]; omega),htx]))) ?_
     refine And.intro (t_eq hT hA (fun gh=>.bool false) (fun gh=>.bool ((txtE (s,x)).toList != (txtE (s,x)).toList)) (fun gh=>congrArg Value.bool (by simp))) ?_
     trivial
    rintro W37 S38 -
    refine go0 15 [] [(149,Vi (IntKind.i64.wrap ((cj:Int) + 1)),Vi ((cj:Int) + 1)),(150,Vi (IntKind.i64.wrap ((j:Int) + 1)),Vi ((j:Int) + 1))] ?_ (hc:=(And.intro (jJ (by omega) (by omega)) (And.intro (jJ (by omega) (by omega)) (trivial))))
    exact jV (j + 1) (fun X q=>⟨W37,cj + 1,q _ _ _ _ ⟨rfl,by kernel_rfl⟩,(S21.trans (S26.trans S38)),by omega,by omega⟩) (by omega)
   ·skip
    refine uQ (t:=decide ((j:Int) < (nf:Int))) (decide_eq_false (by omega)) ?_
    refine go0 2 [] [] ?_
    refine yQ ?_
    refine go0 7 [] [(151,Vi (IntKind.i64.wrap ((k:Int) + 1)),Vi ((k:Int) + 1))] ?_ (hc:=(And.intro (jJ (by omega) (by omega)) (trivial)))
    exact jV (k + 1) (fun X q=>⟨W20,cj,q _ _ _ _ ⟨rfl,by kernel_rfl⟩,(S13.trans S21),by omega,(by rw [hnx]; omega)⟩) (by omega)
  ·skip
   rw [hke,hpe] at hcn
   refine uQ (t:=decide ((k:Int) < (np:Int))) (decide_eq_false (by omega)) ?_
   refine go0 2 [] [] ?_
   refine yQ ?_
   refine go0 12 [] [] ?_
   refine hQ.to [.bool ((cn:Int) == (L:Int))] (fun H sH=>?_)
   exact congrArg Value.bool (beq_iff_eq.2 (by omega))
 ·skip
  have hbf:bw=false:=by rw [hbw]; exact beq_eq_false_iff_ne.2 (by omega)
  have hNy:=fun H q1 q2=>(hNx A c B d A2 c2 path (.slice A7 np c7) t H q1 q2 (by omega) pk).mono fun r h' _ q=>next_s q
  rw [← hbw] at hNy
  refine kV (t := !bw) ((by rw [hbf]; rfl)) ?_
  refine go0 8 [.b 1 0,.b 0 0] [] ?_
  refine pQ (fun H sH=>hNy _ (hSu.sees (S5.trans (S7.trans sH))) (hp.sees sH)) ?_; rintro _ W39 S40 ⟨e,a,A8,n8,c8,b,rfl,hnx⟩
  refine go1 15 [.own,.b 0 0] [] ?_
  intro b41
  rcases hnx with ⟨he,hn8,hb,h1,h2,h3,h4,p,hpt,hlk⟩ | he
  ·refine uQ (t:=e != 0) (bne_eq_false_iff_eq.2 he) ?_
   refine go0 7 [.b 0 0,.b 1 0] [] ?_
   exact jV (a) (fun X q=>⟨W39,A8,n8,c8,b,(path++[(t:Int)]),q _ _ _ _ ⟨rfl,by kernel_rfl⟩,(S7.trans S40),h2,hb,(by rw [List.length_append,hn8]; rfl),(by omega),h3,h4,(by rw [pgN_snoc hpt]; exact fun s hs=>(List.mem_append.1 hs).elim (hkn s) (lack_known hlk s))⟩) (by omega)
  ·skip
   have he:e=11:=by omega
   refine kV (t:=e != 0) (bne_iff_ne.2 (by omega)) ?_
   refine go0 10 [] [] ?_
   refine yQ ?_
   refine go0 2 [] [] ?_
   refine hQ.to [.bool (e == 11)] (fun H sH=>?_)
   exact congrArg Value.bool (beq_iff_eq.2 he)
theorem submitAll_walk (v:Value) (l:List RawD) (v':Value) (m:List RawD) (w:World) (h:RawsOf w v l) (h':RawsOf w v' m) (hL:laidMet Tryz.prog Rows.submitAllRow.laid w) (hsh:w.ShapedOpen Tryz.prog) :
  Calls Tryz.prog 3 #[v,v'] w fun e w'=>e=.returned (.bool true)∧Below w.heap.size w w' :=
 lawC (submitAll_c l m v v' ⟨w,[]⟩ (Lk.of_laid hL hsh) h.rs h'.rs h.2.1 h'.2.1 h.2.2 h'.2.2)
namespace submitAllLaw
open Go.ChangeShapes Go.WideShapes Go.ChangeAt Go.RowKit
open Go.ChangeMaps (open_string shut_string)
set_option linter.unusedVariables false
theorem contract (H:Type) (enc:TypeId × Value→H) (W:World) (base:Nat) (args:Array Value) (ds gs:List (DataW H)) (before:List MemPlace)
  (hval0:∀ (j:Nat) t v,Tryz.f3.params[j]?=some t→args[j]?=some v→Value.okWide Tryz.prog W .any base t v)
  (hW:DataW.Whole enc Tryz.prog Tryz.f3.params.toList Rows.submitAllSpec.vars false W args.toList ds gs before)
  (hsz0:(DataW.weightsEach Tryz.prog (Tryz.f3.params.toList++Rows.submitAllSpec.plain.varTypes Tryz.prog) (ds++gs)).all (· ≤ reachBytes)=true) (hL:laidMet Tryz.prog Rows.submitAllRow.laid W) (hsh:W.ShapedOpen Tryz.prog) :
  Calls Tryz.prog 3 args W fun e W'=>∃ v,e=.returned v∧Rows.submitAllSpec.post enc Tryz.prog Tryz.f3 false true false false W args v W':=by
 have hval:∀ (j:Nat) t v,Tryz.f3.params[j]?=some t→args[j]?=some v→Value.okWide Tryz.prog W .any base t v:=hval0
 have hsz:(DataW.weightsEach Tryz.prog (Tryz.f3.params.toList++Rows.submitAllSpec.plain.varTypes Tryz.prog) (ds++gs)).all (· ≤ reachBytes)=true:=hsz0
 have hW':=hW
 obtain ⟨p,q,hA0,hV,rfl,hfz,hnd⟩:=hW
 have hA:DataW.TrodAll enc Tryz.prog W 0 (fun _=>true) true Tryz.f3.params.toList args.toList ds p:=hA0
 rw [Tryz.params3] at hA hval hsz
 obtain ⟨v0,vs0,d0,ds0,p0,q0,hargs,rfl,rfl,h0,r0⟩:=trodAll_cons hA
 obtain ⟨v1,vs1,d1,ds1,p1,q1,rfl,rfl,rfl,h1,r1⟩:=trodAll_cons r0
 obtain ⟨rfl,rfl,rfl⟩:=trodAll_nil r1
 obtain rfl:args=#[v0,v1]:=by cases args; simp_all
 obtain ⟨rfl,rfl⟩:=trodVars_none hV
 have k0:=h0
 have lt0:∀ x∈p0,x.block < W.heap.size:=by obtain ⟨m,hm⟩:=k0; exact DataW.trod_lt m _ _ _ hm
 obtain ⟨a0,w0⟩:=open_rows (hval 0 22 v0 rfl rfl) h0 (fun es ss hd=>sized_slice hsz (j:=0) (t:=22) (elems:=es) (spare:=ss) rfl (by rw [hd]; rfl) Tryz.underlying22)
 have k1:=h1
 have lt1:∀ x∈p1,x.block < W.heap.size:=by obtain ⟨m,hm⟩:=k1; exact DataW.trod_lt m _ _ _ hm
 obtain ⟨a1,w1⟩:=open_rows (hval 1 22 v1 rfl rfl) h1 (fun es ss hd=>sized_slice hsz (j:=1) (t:=22) (elems:=es) (spare:=ss) rfl (by rw [hd]; rfl) Tryz.underlying22)
 clear hA0 hval0 hsz0
 refine (submitAll_walk v0 a0 v1 a1 W w0 w1 hL hsh).mono fun e W' ⟨he,bel⟩=>?_
 subst he
 exact ⟨_,rfl,_,_,_,[],_,[],hW',trodAll_mk1 (shut_bool Tryz.underlying4 _),(trodAll_cons_mk (Below.trod laidOutTrue (by kernel_rfl) (of_decide_eq_true (by kernel_rfl)) k0 bel lt0) (trodAll_cons_mk (Below.trod laidOutTrue (by kernel_rfl) (of_decide_eq_true (by kernel_rfl)) k1 bel lt1) trodAll_mk0)),rfl,bel.frame _,fun h=>by cases h⟩
theorem reads (os:Os) {H:Type} (enc:TypeId × Value→H):∃ places,DataW.whole enc Tryz.prog ((World.laidAll Tryz.prog os Rows.submitAllRow.laid).forCall (fun _ _=>0) ⟨#[],#[.slice none 0 0,.slice none 0 0],[]⟩).memory Tryz.f3.params.toList Rows.submitAllSpec.vars false (#[.slice none 0 0,.slice none 0 0]:Array Value).toList 8=some ([.nil,.nil],[],places) :=
 ⟨[],by kernel_rfl⟩
theorem lifted (os:Os) (started:os.Started) (H:Type) (enc:TypeId × Value→H) (FF:Stop.Interp) :
  ReturnsInHanded {} Tryz.checked os 3 .any ((OpenSpec.ofChange Rows.submitAllSpec).preRow enc Tryz.prog Tryz.f3 Rows.submitAllRow.domain false Rows.submitAllRow.laid) (((OpenSpec.ofChange Rows.submitAllSpec).at FF).post enc Tryz.prog Tryz.f3 false true false false):=by
 obtain ⟨places,hx⟩:=reads os enc
 refine returnsInHanded_of_row (C:=Tryz.checked) (s:=OpenSpec.ofChange Rows.submitAllSpec) ownNone started (by kernel_rfl) Tryz.func3
  (witness_row_at (enc:=enc) (C:=Tryz.checked) false (World.laidAll Tryz.prog os Rows.submitAllRow.laid) #[.slice none 0 0,.slice none 0 0] (World.laidAll_os _ _ _) (by kernel_rfl) (by kernel_rfl) (by kernel_rfl)
   (OpenSpec.preRow_of_cond 8 hx (by kernel_rfl) (fun k hk=>by cases hk) (by kernel_rfl) (laidMet_laidAll _ (by kernel_rfl) (by kernel_rfl)))) ?_
 intro W base args ds gs before hval hW _ _ hsz hL hsh _
 rw [MakeChecks.laidMetH_plain _ _ _ (by kernel_rfl)] at hL
 exact contract H enc W base args ds gs before hval hW hsz hL hsh
theorem said:Rows.SubmitAllSaid :=
 OpenClaim.holds_of_cond 3 Tryz.f3 rfl rfl rfl rfl rfl rfl rfl ⟨rfl,rfl,rfl,rfl,rfl⟩ rfl rfl rfl rfl rfl (by kernel_rfl) Tryz.func3 (by kernel_rfl)
  (of_decide_eq_true (by kernel_rfl)) (by unfold Func.isWrapper; first | (rw [if_pos (by decide +kernel)]; kernel_rfl) | (rw [if_neg (by decide +kernel)]; exact ⟨rfl,rfl⟩))
  (fun os started H enc _ FF=>by rw [OpenClaim.pre_eq_preRow]; exact lifted os started H enc FF)
theorem plain (f : FuncId) (fn : Func) (hf : Tryz.pinned.checked.prog.funcNamed "lychway/lychwaykeep.SubmitAll" = some f) (hfn : Tryz.pinned.checked.prog.funcs[f]? = some fn) :
  Rows.submitAllCard.stood.looks=Tryz.pinned.checked.prog.looks []∧∀ (j:Nat) t,fn.params[j]?=some t→Tryz.pinned.checked.prog.wantsStandIn t=false:=by
 obtain rfl : f = 3 := Option.some.inj ((show Tryz.prog.funcNamed "lychway/lychwaykeep.SubmitAll" = some 3 by kernel_rfl).symm.trans hf) |>.symm
 obtain rfl:fn=Tryz.f3:=(Option.some.inj (Tryz.func3.symm.trans hfn)).symm
 refine ⟨by kernel_rfl,fun j t ht=>?_⟩
 rw [Tryz.params3] at ht
 have hm:=Array.mem_of_getElem? ht
 simp at hm
 first
  | (obtain rfl:=hm; exact (show Tryz.prog.wantsStandIn _=false by kernel_rfl))
  | (rcases hm with rfl | rfl <;> exact (show Tryz.prog.wantsStandIn _=false by kernel_rfl))
end submitAllLaw
theorem submitAll_holds:Rows.SubmitAllCardSaid :=
 Claim7.holds_tied_plain_at .later [] _ _ _ _ submitAllLaw.said (fun _ h=>by cases h) (by kernel_rfl) (fun _ h=>by cases h) submitAll_row_tie rfl ⟨rfl,rfl⟩ (by kernel_rfl) rfl submitAllLaw.plain (by kernel_rfl)
#print axioms submitAll_holds
end Go.Proofs.YtmoahpojchndiaaGreatDoor
