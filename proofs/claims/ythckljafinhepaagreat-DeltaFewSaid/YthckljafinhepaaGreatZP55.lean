/-
  For all raw things DeltaFew returns true: only fields that depend on the changed field are recomputed, all others keep their values, and if a value does not change, nothing that depends only on it is recomputed. No condition.
-/
import Derived.Test.YthckljafinhepaaGreatZP9
import Derived.Test.YthckljafinhepaaGreatZP54
import Derived.Test.YthckljafinhepaaGreatZP41
import Derived.Test.YthckljafinhepaaGreatZP37
import Derived.Test.YthckljafinhepaaGreatZP46
import Derived.Test.YthckljafinhepaaGreatZP52
set_option maxRecDepth 100000
namespace Go.Proofs.YthckljafinhepaaGreat
open Go.RowKit
set_option linter.unusedVariables false
theorem delE_any (f:Fd) (Au:Option Addr) (nu cu:Nat) (p:ByteArray × Vl) (b:Nat) (H:Vw) (hc:Cells H b 0 [.string f.name,.int .i64 f.kind,.int .i64 f.ty,.int .i64 f.src.op,.int .i64 f.src.k,.int .i64 f.src.n,.string f.src.s,.string f.src.nm,.slice Au nu cu]):C0 Tryz.prog 38 #[.agg #[.string p.1,.int .i64 0,.int .i64 0,.string ⟨#[]⟩,.int .i64 p.2.k,.int .i64 p.2.n,.string p.2.s],.pointer (some ⟨b,0,none⟩)] H (fun r _=>r=.bool (p.1.toList == f.name.toList)):=by
 refine aV Tryz.func38 (c:=Tryz.f38.body.getD .skip) (N:=9) ?_
 intro hbx hbad Q hQ
 refine cV (hc.sees (Sees.refl _)) ?_
 refine go1 17 [.own,.b 0 0,.f 0 0] [] ?_
 intro b1
 refine hQ.to [.bool (p.1.toList == f.name.toList)] (fun H sH=>?_)
 exact rfl
theorem didx_any (nm:ByteArray) (l:Env) (v:Value) (b:Nat) (cs:List Value) (h:Vw) (hr:RS h 7 v (yK l)) (hl:l.length≤1000000) (hb:Cells h b 0 cs)
  (hc:∀ (p:ByteArray × Vl) H,Cells H b 0 cs→C0 Tryz.prog 38 #[.agg #[.string p.1,.int .i64 0,.int .i64 0,.string ⟨#[]⟩,.int .i64 p.2.k,.int .i64 p.2.n,.string p.2.s],.pointer (some ⟨b,0,none⟩)] H (fun r _=>r=.bool (p.1.toList == nm.toList))) :
  C0 Tryz.prog 68 #[v,.func (.func 38) #[] #[.pointer (some ⟨b,0,none⟩)]] h (fun r _=>r=.int .i64 (fidx (fun y:ByteArray × Vl=>y.1.toList == nm.toList) l)):=by
 obtain ⟨A,cap,rfl,-,-,-⟩:=hr.form
 rw [List.length_map] at *
 generalize hL:l.length=len at *
 refine aV Tryz.func68 (c:=Tryz.f68.body.getD .skip) (N:=19) ?_
 intro hbx hbad Q hQ
 refine go0 14 [] [] ?_
 refine jV [0,1,0,1] [.block 0,.seq [1,1]] (fun (k:Nat) X=>∃ (W1:Vw) ,X W1 [(0,.slice A len cap),(1,.func (.func 38) #[] #[Vp b]),(7,Vi (len:Int)),(8,Vi (k:Int))] [] []∧Sees h W1∧(k≤len)∧(∀ y∈l.take k,(y.1.toList == nm.toList)=false)) (fun k=>len - k) (0) (fun X q=>⟨h,q _ _ _ _ ⟨rfl,by kernel_rfl⟩,Sees.refl _,Nat.zero_le _,fun y hy=>by simp at hy⟩) ?_
 rintro k a w ⟨W1,hJ,S2,hk,hn⟩; refine pV hJ ?_; clear hJ a w
 refine go0 6 [] [] ?_
 rcases (by omega:k < len∨k=len) with hlt | hke
 ·obtain ⟨f,hfk⟩:∃ f,l[k]?=some f:=⟨_,List.getElem?_eq_getElem (by omega)⟩
  have hrow:(yK l)[k]?=some (fcRow f):=by rw [List.getElem?_map,hfk]; rfl
  refine uV (t:=decide ((k:Int) < (len:Int))) (decide_eq_true (by omega)) ?_
  refine go0 15 [] [] ?_
  obtain ⟨b3,o4,rfl,-,c5⟩:=RS.row hr (hrow)
  refine cV (c5.sees S2) ?_
  refine go0 5 [.ix b3 o4 len cap k,.f 0 0,.cl 38 #[.agg #[.string f.1,Vi 0,Vi 0,Ve,Vi f.2.k,Vi f.2.n,.string f.2.s],Vp b] (.bool (f.1.toList == nm.toList))] [] ?_ (ho:=(And.intro (by first | omega | (simp; omega)) (And.intro (fun H sH=>hc f _ (hb.sees (S2.trans sH))) (trivial))))
  rcases Bool.eq_false_or_eq_true (f.1.toList == nm.toList) with hq | hq
  ·refine uV (t:=f.1.toList == nm.toList) (hq) ?_
   refine go0 9 [] [] ?_
   refine iV ?_
   refine go0 2 [] [] ?_
   refine hQ.to [Vi (k:Int)] (fun H sH=>?_)
   exact congrArg (Value.int .i64) (eQ _ l k f hn hfk hq).symm
  ·skip
   refine dV (t:=f.1.toList == nm.toList) (hq) ?_
   refine go0 7 [] [(18,Vi (IntKind.i64.wrap ((k:Int) + 1)),Vi ((k:Int) + 1))] ?_ (hc:=(And.intro (jJ (by omega) (by omega)) (trivial)))
   exact tV (k + 1) (fun X q=>⟨W1,q _ _ _ _ ⟨rfl,by kernel_rfl⟩,S2,by omega,(by rw [fZ l k f hfk]; exact fun y hy=>(List.mem_append.1 hy).elim (hn y) (fun e=>by rw [List.mem_singleton.1 e]; exact hq))⟩) (by omega)
 ·skip
  have htk:l.take k=l:=by rw [hke,← hL,List.take_length]
  rw [htk] at hn
  refine dV (t:=decide ((k:Int) < (len:Int))) (decide_eq_false (by omega)) ?_
  refine go0 2 [] [] ?_
  refine iV ?_
  refine go0 8 [] [] ?_
  refine hQ.to [Vi (-1)] (fun H sH=>?_)
  exact congrArg (Value.int .i64) (fQ _ l hn).symm
set_option maxHeartbeats 4000000 in
theorem delFunc_any (nm:ByteArray) (l:Env) (w0:World) (g n cap b:Nat) (cs:List Value) (hn:n=l.length) (hl:n≤1000000) (hcap:n≤cap) (hd:(l.map (·.1)).Nodup) (hb:Cells ⟨w0,[g]⟩ b 0 cs)
  (hc:∀ (p:ByteArray × Vl) H,Cells H b 0 cs→C0 Tryz.prog 38 #[.agg #[.string p.1,.int .i64 0,.int .i64 0,.string ⟨#[]⟩,.int .i64 p.2.k,.int .i64 p.2.n,.string p.2.s],.pointer (some ⟨b,0,none⟩)] H (fun r _=>r=.bool (p.1.toList == nm.toList))) :
  CDel Tryz.prog 31 #[.slice (some ⟨g,0,none⟩) n cap,.func (.func 38) #[] #[.pointer (some ⟨b,0,none⟩)]] w0 g n cap 54 7 (yK l) (delN nm l).length (yK (delN nm l)):=by
 have hI:=fun H q1 q2=>didx_any nm l (.slice (some ⟨g,0,none⟩) n cap) b cs H q1 (by omega) q2 hc
 rcases Classical.em (∀ p∈l,(p.1.toList == nm.toList)=false) with hno | hsome
 ·rw [del_none hno,← hn]
  rw [fQ _ l hno] at hI
  refine g_conL Tryz.func31 (c:=Tryz.f31.body.getD .skip) (N:=42) ?_
  intro Q hQ
  refine go0 9 [] [] ?_
  refine yQ (fun a w hJ=>hI _ (hJ.j.rowQ (v:=Vs g n cap) (e:=54) (k:=7) (l:=yK l) 0 (by kernel_rfl)) (hb.sees hJ.j.seesQ)) ?_; intro W1 S2
  refine go0 19 [] [] ?_
  refine hQ (k:=n) (r:=yK l) 0 [Vs g n cap] S2 (by kernel_rfl) (by kernel_rfl) (rfl) (Nat.le_refl _) (List.take_of_length_le (by rw [List.length_map]; omega))
 ·obtain ⟨i,x,hx,hxn,huniq⟩:∃ (i:Nat) (x:ByteArray × Vl),l[i]?=some x∧(x.1.toList == nm.toList)=true∧∀ (j:Nat) (y:ByteArray × Vl),j≠i→l[j]?=some y→(y.1.toList == nm.toList)=false:=del_at hd hsome
  have hil:=(List.getElem?_eq_some_iff.1 hx).1
  have hfi:fidx (fun y:ByteArray × Vl=>y.1.toList == nm.toList) l=(i:Int):=eQ _ l i x (fun y hy=>by
   obtain ⟨u,hu1,hu2⟩:=List.mem_take_iff_getElem.1 hy
   exact huniq u y (by omega) (List.getElem?_eq_some_iff.2 ⟨_,hu2⟩)) hx hxn
  rw [hfi] at hI
  have hel:(l.eraseIdx i).length=n - 1:=by rw [List.length_eraseIdx,if_pos hil,hn]
  rw [del_some hx hxn huniq,hel]
  refine g_conL Tryz.func31 (c:=Tryz.f31.body.getD .skip) (N:=42) ?_
  intro Q hQ
  refine go0 9 [] [] ?_
  refine yQ (fun a w hJ=>hI _ (hJ.j.rowQ (v:=Vs g n cap) (e:=54) (k:=7) (l:=yK l) 0 (by kernel_rfl)) (hb.sees hJ.j.seesQ)) ?_; intro W1 S2
  refine go0 10 [] [] ?_
  refine dV (t:=(i:Int) == -1) ((beq_eq_false_iff_ne.2 (by omega))) ?_
  refine go0 11 [] [(15,Vi (IntKind.i64.wrap ((i:Int) + 1)),Vi ((i:Int) + 1))] ?_ (hc:=(And.intro (jJ (by omega) (by omega)) (trivial)))
  rw [show yK l=yK (shL l i i) by rw [shL_zero]]
  refine jV [0,1,0,1,1,1] [.block 0,.seq [1,1,1,1]] (fun (k:Nat) X=>∃ (W3:Vw) ,X W3 [(0,Vs g n cap),(1,.func (.func 38) #[] #[Vp b]),(5,Vi (k:Int)),(6,Vi ((k:Int) + 1))] [.row (Vs g n cap) 54 7 (yK (shL l i k))] []∧Sees W1 W3∧(i≤k)∧(k < n)) (fun k=>n - k) (i) (fun X q=>⟨W1,q _ _ _ _ ⟨rfl,by kernel_rfl⟩,Sees.refl _,Nat.le_refl _,by omega⟩) ?_
  rintro k a w ⟨W3,hJ,S4,hik,hkn⟩; refine pV hJ ?_; clear hJ a w
  refine go0 9 [] [] ?_
  rcases (by omega:k + 1 < n∨k + 1=n) with hlt | hke
  ·obtain ⟨y,hy⟩:∃ y,l[k + 1]?=some y:=⟨_,List.getElem?_eq_getElem (by omega)⟩
   obtain ⟨z,hz⟩:∃ y,l[k]?=some y:=⟨_,List.getElem?_eq_getElem (by omega)⟩
   have hr1:(yK (shL l i k))[k + 1]?=some (fcRow y):=by rw [List.getElem?_map,shL_get hil (by omega) (by omega),hy]; rfl
   have hr2:(yK (shL l i k))[k]?=some (fcRow z):=by rw [List.getElem?_map,shL_get hil (by omega) (by omega),hz]; rfl
   have hyn:=huniq (k + 1) y (by omega) hy
   have hss:=shL_succ hik hy
   refine uV (t:=decide (((k:Int) + 1) < (n:Int))) (decide_eq_true (by omega)) ?_
   refine go0 9 [.ix g 0 n cap (k + 1)] [] ?_ (ho:=(And.intro (by first | omega | (simp; omega)) (trivial)))
   refine g_rowget 0 (k + 1) 0 (g:=g) (m:=n) (cap:=cap) (kk:=7) (e:=54) (l:=yK (shL l i k)) (r:=[.string y.1,Vi 0,Vi 0,Ve,Vi y.2.k,Vi y.2.n,.string y.2.s]) (t:=54) (x:=(.tmp 24)) (v:=.agg #[.string y.1,Vi 0,Vi 0,Ve,Vi y.2.k,Vi y.2.n,.string y.2.s]) (hr1) ?_
   refine go1 12 [.own,.b 0 0,.b 0 0,.cl 38 #[.agg #[.string y.1,Vi 0,Vi 0,Ve,Vi y.2.k,Vi y.2.n,.string y.2.s],Vp b] (.bool (y.1.toList == nm.toList))] [] ?_ (ho:=(And.intro (fun H sH=>hc y _ (hb.sees (S2.trans (S4.trans sH)))) (trivial)))
   intro b5
   refine uV (t := !(y.1.toList == nm.toList)) ((by rw [hyn]; rfl)) ?_
   refine go0 6 [.b 0 0,.ix g 0 n cap k] [] ?_ (ho:=(And.intro (by first | omega | (simp; omega)) (trivial)))
   refine g_rowset 1 k 0 (g:=g) (m:=n) (cap:=cap) (kk:=7) (e:=54) (l:=yK (shL l i k)) (r:=[.string z.1,Vi 0,Vi 0,Ve,Vi z.2.k,Vi z.2.n,.string z.2.s]) (r':=[.string y.1,Vi 0,Vi 0,Ve,Vi y.2.k,Vi y.2.n,.string y.2.s]) (t:=54) (x:=(.tmp 33)) (y:=(.tmp 32)) (v:=.agg #[.string y.1,Vi 0,Vi 0,Ve,Vi y.2.k,Vi y.2.n,.string y.2.s]) (hr2) ?_
   refine go0 14 [] [(35,Vi (IntKind.i64.wrap ((k:Int) + 1)),Vi ((k:Int) + 1)),(21,Vi (IntKind.i64.wrap (((k:Int) + 1) + 1)),Vi (((k:Int) + 1) + 1))] ?_ (hc:=(And.intro (jJ (by omega) (by omega)) (And.intro (jJ (by omega) (by omega)) (trivial))))
   refine gV [(0,Vs g n cap),(1,.func (.func 38) #[] #[Vp b]),(5,Vi ((k:Int) + 1)),(6,Vi (((k:Int) + 1) + 1))] [.row (Vs g n cap) 54 7 ((yK (shL l i k)).set k [.string y.1,Vi 0,Vi 0,Ve,Vi y.2.k,Vi y.2.n,.string y.2.s])] [] ?_
   exact tV (k + 1) (fun X q=>⟨W3,q _ _ _ _ (xY (by rw [← hss]; simp [yK])),S4,by omega,by omega⟩) (by omega)
  ·skip
   obtain ⟨z,hz⟩:∃ y,l[k]?=some y:=⟨_,List.getElem?_eq_getElem (by omega)⟩
   have hr2:(yK (shL l i k))[k]?=some (fcRow z):=by rw [List.getElem?_map,shL_get hil (by omega) (by omega),hz]; rfl
   refine dV (t:=decide (((k:Int) + 1) < (n:Int))) (decide_eq_false (by omega)) ?_
   refine go0 2 [] [] ?_
   refine iV ?_
   refine go0 6 [] [] ?_
   refine qV (.slice (some ⟨g,0 + k * 7,none⟩) 1 (cap - k)) (fun w=>run_lo1 (t:=28) (e:=54) (x:=.tmp 36) (y:=.tmp 37) (g:=g) (n:=n) (cap:=cap) (k:=k) (kk:=7) (by kernel_rfl) (by kernel_rfl) (by kernel_rfl) hke.symm hcap Tryz.underlying28 (by kernel_rfl)) ?_
   refine g_clear1 0 (k) (c:=(cap - k)) (g:=g) (m:=n) (cap:=cap) (kk:=7) (e:=54) (l:=yK (shL l i k)) (te:=54) (t:=28) (r:=[.string z.1,Vi 0,Vi 0,Ve,Vi z.2.k,Vi z.2.n,.string z.2.s]) (zs:=[Ve,Vi 0,Vi 0,Ve,Vi 0,Vi 0,Ve]) (y:=(.tmp 38)) (z:=.agg #[Ve,Vi 0,Vi 0,Ve,Vi 0,Vi 0,Ve]) (hr2) Tryz.underlying28 (by simp [Value.oneCell']) ?_
   refine go0 6 [] [] ?_
   refine qV (Vs g k cap) (fun w=>run_hi (t:=28) (e:=54) (x:=(.tmp 39)) (y:=(.tmp 40)) (A:=(some ⟨g,0,none⟩)) (n:=n) (cap:=cap) (k:=k) (kk:=7) (by kernel_rfl) (by kernel_rfl) (by kernel_rfl) ((by omega)) Tryz.underlying28 (by kernel_rfl)) ?_
   refine go0 4 [] [] ?_
   refine hQ (k:=n) (r:=(yK (shL l i k)).set (k) [Ve,Vi 0,Vi 0,Ve,Vi 0,Vi 0,Ve]) 0 [Vs g k cap] (S2.trans S4) (by kernel_rfl) (by kernel_rfl) ((by rw [show n - 1=k by omega]; rfl)) ((by omega)) ((by rw [show n - 1=k by omega,List.take_set_of_le (Nat.le_refl _),← List.map_take,shL_take hik (by omega)]))
theorem delFunc_nil (b:Nat) (h:Vw):C0 Tryz.prog 31 #[.slice none 0 0,.func (.func 38) #[] #[.pointer (some ⟨b,0,none⟩)]] h (fun r _=>r=.slice none 0 0):=by
 have hI:∀ H:Vw,C0 Tryz.prog 68 #[.slice none 0 0,.func (.func 38) #[] #[.pointer (some ⟨b,0,none⟩)]] H (fun r _=>r=.int .i64 (-1)):=by
  intro h
  refine aV Tryz.func68 (c:=Tryz.f68.body.getD .skip) (N:=19) ?_
  intro hbx hbad Q hQ
  refine go0 14 [] [] ?_
  refine jV [0,1,0,1] [.block 0,.seq [1,1]] (fun (k:Nat) X=>∃ (W1:Vw) ,X W1 [(0,Vz),(1,.func (.func 38) #[] #[Vp b]),(7,Vi 0),(8,Vi ((0:Nat):Int))] [] []∧Sees h W1∧(k=0)) (fun k=>k) (0) (fun X q=>⟨h,q _ _ _ _ ⟨rfl,by kernel_rfl⟩,Sees.refl _,rfl⟩) ?_
  rintro k a w ⟨W1,hJ,S2,hk⟩; refine pV hJ ?_; clear hJ a w
  refine go0 6 [] [] ?_
  refine dV (t:=decide (((0:Nat):Int) < 0)) (rfl) ?_
  refine go0 2 [] [] ?_
  refine iV ?_
  refine go0 8 [] [] ?_
  refine hQ.to [Vi (-1)] (fun H sH=>?_)
  exact rfl
 refine aV Tryz.func31 (c:=Tryz.f31.body.getD .skip) (N:=42) ?_
 intro hbx hbad Q hQ
 refine go0 29 [.cl 68 #[Vz,.func (.func 38) #[] #[Vp b]] (Vi (-1))] [] ?_ (ho:=(And.intro (fun H sH=>hI _) (trivial)))
 refine hQ.to [Vz] (fun H sH=>?_)
 exact rfl
theorem delFunc_v (nm:ByteArray) (l:Env) (H:Vw) (A:Option Addr) (n cap b:Nat) (cs:List Value) (hl:l.length≤1000000) (hd:(l.map (·.1)).Nodup) (hb:Cells H b 0 cs) (hbd:∀ b,(Value.slice A n cap).ownBlock=some b→b∈H.bad)
  (hc:∀ (p:ByteArray × Vl) H,Cells H b 0 cs→C0 Tryz.prog 38 #[.agg #[.string p.1,.int .i64 0,.int .i64 0,.string ⟨#[]⟩,.int .i64 p.2.k,.int .i64 p.2.n,.string p.2.s],.pointer (some ⟨b,0,none⟩)] H (fun r _=>r=.bool (p.1.toList == nm.toList))) :
  CDelV Tryz.prog 31 #[.slice A n cap,.func (.func 38) #[] #[.pointer (some ⟨b,0,none⟩)]] H.w (.slice A n cap) 54 7 (yK l) (.slice A (delN nm l).length cap) (yK (delN nm l)):=by
 intro base hok
 have hn:n=l.length:=by
  obtain ⟨A',c',e',-⟩:=mY hok
  simp only [Value.slice.injEq] at e'
  rw [e'.2.1,List.length_map]
 rcases row_cases hok with ⟨e,e2⟩ | ⟨g,c',e,hcap⟩
 ·simp only [Value.slice.injEq] at e
  obtain ⟨rfl,rfl,rfl⟩:=e
  have hl0:l=[]:=List.length_eq_zero_iff.1 hn.symm
  subst hl0
  refine Calls.mono (delFunc_nil b ⟨H.w,[]⟩ (by intro x hx; cases hx) (by simp) (by simp) (by intro b hb; cases hb)) ?_
  rintro en w' ⟨v,Bo,rfl,hlo,-,-,rfl⟩
  exact ⟨rfl,hlo,⟨⟨rfl,.inl ⟨rfl,rfl⟩⟩,fun r hr=>by cases hr⟩⟩
 ·simp only [Value.slice.injEq] at e
  obtain ⟨rfl,-,rfl⟩:=e
  exact delFunc_any nm l H.w g n cap b cs hn (by omega) (by rw [hn]; rw [List.length_map] at hcap; exact hcap) hd (hb.sees ((Sees.refl H).less fun x hx=>by rw [List.mem_singleton.1 hx]; exact hbd g rfl)) hc base hok
structure FewOk (fs:List Fd) (old out:List Vl) (seen:List ByteArray) (hg:List Nat):Prop where
 look:∀ (k:Nat) (f:Fd),fs[k]?=some f→memS seen f.name=true→k∈hg
 stay:∀ (k:Nat) (f:Fd),fs[k]?=some f→memS seen f.name=false→out[k]?=old[k]?
theorem few_ok (l:List RawD) {inp:Env} {old:List Vl} {p:Nat} {x:Fd} (hx:(mQ l).fields[p]?=some x):FewOk (mQ l).fields old (delF l inp [] old x.name) (rY (mQ l).fields inp [] old x.name (pX (rhoL (xW (mQ l).fields)) (mQ l).fields.length)).seen (hgL (xW (mQ l).fields) p (pX (rhoL (xW (mQ l).fields)) (mQ l).fields.length) (mQ l).fields.length):=by
 have hod:=form_ordd l
 obtain ⟨-,F⟩:=runD_few (pQ l).fields (inp:=inp) (orc:=[]) (old:=old) hx (fun i q=>hod.lt q) _ (Nat.le_refl _)
 rw [List.take_length,hod.len] at F
 refine ⟨fun k f hf hm=>hgL_mem.2 ⟨(List.getElem?_eq_some_iff.1 hf).1,F.hang k f hf (memS_iff.1 hm)⟩,fun k f hf hm=>F.stay k f hf fun q=>?_⟩
 rw [memS_iff.2 q] at hm; cases hm
theorem same_ok (l:List RawD) {inp:Env} {old:List Vl} (hS:Sol (mQ l).fields inp [] old) {p:Nat} {x:Fd} (hx:(mQ l).fields[p]?=some x):delF l inp [] old x.name=old∧(rY (mQ l).fields inp [] old x.name (pX (rhoL (xW (mQ l).fields)) (mQ l).fields.length)).seen=[x.name]:=by
 have hod:=form_ordd l
 obtain ⟨h1,h2,-⟩:=runD_same (pQ l).fields hS hx hod _ (Nat.le_refl _)
 rw [List.take_length] at h1 h2
 refine ⟨h1,?_⟩
 rw [h2,if_pos (hod.perm.mem_iff.2 (List.mem_range.2 (List.getElem?_eq_some_iff.1 hx).1))]
theorem seen_len (l:List RawD) {inp:Env} {orc:List Aw} {old:List Vl} (ki:∀ p∈inp,p.2.known) (ko:∀ p∈orc,OkV p.has) (hl:old.length=(mQ l).fields.length) (ov:∀ x∈old,OkV x) (nm:ByteArray):(rY (mQ l).fields inp orc old nm (pX (rhoL (xW (mQ l).fields)) (mQ l).fields.length)).seen.length≤100:=by
 have hod:=form_ordd l
 have:=(runD_ok (pQ l).fields (inp:=inp) (orc:=orc) ki ko hl ov nm (fun i q=>hod.lt q) _ (Nat.le_refl _)).slen
 rw [List.take_length,hod.len] at this
 have:=nQ l
 have:=tW l
 omega
set_option maxHeartbeats 8000000 in
theorem deltaFew_c (l m:List RawD) (r:RawD) (i:Int) (sl sm:Value) (h:Vw) (hl:RS h 4 sl (l.map RawD.cs)) (hm:RS h 4 sm (m.map RawD.cs)) (ll:l.length * 40≤reachBytes) (lm:m.length * 40≤reachBytes) (ol:∀ r∈l,r.ok) (om:∀ r∈m,r.ok) (hr:r.ok)
  (i0 : -9223372036854775808≤i) (i1:i≤9223372036854775807):C0 Tryz.prog 11 #[sl,sm,.agg #[.int .i64 r.k,.int .i64 r.a,.int .i64 r.b,.string r.t],.int .i64 i] h (fun v _=>v=.bool true):=by
 have hF:=form_c l sl
 have hlen:=nQ l
 have hnl:=tW l
 have hty:=form_ty l
 have hnd:=oQ l
 have noE:∀ p∈([]:List Aw),OkV p.has:=fun p hp=>by cases hp
 have hA:=fun A c B d si H q1 q2=>all_form l m [] A c B d si (.slice none 0 0) H q1 q2 (RS.nil H 7) (Nat.zero_le _) noE (fun H' _ q=>oracle_nil _ _ _ _ _ _ _ H' q)
 obtain ⟨hS,oko⟩:=allF_sol l m noE
 have hI:=inp_ok l m
 have k0:=inp_told (l:=m) (oQ l)
 have a0:=wX i ((mQ l).fields.length:Int) (by omega)
 have a1:=vX i ((mQ l).fields.length:Int) (by omega)
 have hpk:=fun H=>zJ i ((mQ l).fields.length:Int) H i0 i1 (by omega) (by omega)
 obtain ⟨p,ep⟩:∃ k:Nat,cJ i ((mQ l).fields.length:Int)=k:=⟨(cJ i ((mQ l).fields.length:Int)).toNat,by omega⟩
 rw [ep] at hpk a0 a1
 obtain ⟨x,hx⟩:∃ x,(mQ l).fields[p]?=some x:=⟨_,List.getElem?_eq_getElem (by omega)⟩
 obtain ⟨t1,t3⟩:=hty x (List.mem_of_getElem? hx)
 have hfx:=iQ hnd hx
 have hV:∀ H,C0 Tryz.prog 34 #[.int .i64 x.ty,.agg #[.int .i64 r.k,.int .i64 r.a,.int .i64 r.b,.string r.t]] H (fun v _=>v=(kZ x.ty r).val):=fun H=>c_value x.ty r H t1 t3 hr
 have hfew:=hI.few
 have hva:=hS.len
 have hin:=fun H fv pv q1 q2 q3=>inputs_any (mQ l).fields pv fv m sm H q1 q2 (by omega) hty q3 lm om
 have hR:=fun inp li ki ti A c B d si sv H q1 q2 q4=>delF_any l inp [] (allF l m []) x.name A c B d si (.slice none 0 0) sv H q1 q2 li ki ti (RS.nil H 7) (by simp) noE q4 hva oko p hfx (fun H' _ q=>oracle_nil _ _ _ _ _ _ _ H' q)
 obtain ⟨se,ss⟩:=same_ok l hS hx
 have hR0:=fun A c B d si sv H q1 q2 q4=>hR (dW (mQ l).fields m) (by omega) hI.known hI.told A c B d si sv H q1 q2 q4
 rw [se,ss] at hR0
 have hcl:=fun H v q=>c_cloneFc (h:=H) (v:=v) (l:=dW (mQ l).fields m) q (by omega)
 have hdf:=fun H A n cap b Au nu cu q2 q3=>delFunc_v x.name (dW (mQ l).fields m) H A n cap b [.string x.name,.int .i64 x.kind,.int .i64 x.ty,.int .i64 x.src.op,.int .i64 x.src.k,.int .i64 x.src.n,.string x.src.s,.string x.src.nm,.slice Au nu cu] (by omega) hI.once q2 q3 (fun p' H' q=>delE_any x Au nu cu p' b H' q)
 have hvk:(kZ x.ty r).known:=valR_known x.ty r t1 t3
 have hnow:x.kind=1→(∀ q∈nowE x.name (kZ x.ty r) (dW (mQ l).fields m),q.2.known)∧uK (mQ l).fields [] (nowE x.name (kZ x.ty r) (dW (mQ l).fields m))=0∧(nowE x.name (kZ x.ty r) (dW (mQ l).fields m)).length≤1000 ∧
   (delF l (nowE x.name (kZ x.ty r) (dW (mQ l).fields m)) [] (allF l m []) x.name).length=(mQ l).fields.length∧(rY (mQ l).fields (nowE x.name (kZ x.ty r) (dW (mQ l).fields m)) [] (allF l m []) x.name (pX (rhoL (xW (mQ l).fields)) (mQ l).fields.length)).seen.length≤100:=fun h1=>by
  obtain ⟨n1,n2⟩:=now_ok hnd k0 hI.known hI.once hx h1 hvk rfl
  have n3:=now_len x.name (kZ x.ty r) (dW (mQ l).fields m)
  obtain ⟨s1,o1⟩:=delF_sol l (nm:=x.name) n1 noE hS oko (fun f _ hne=>now_tell hne _)
  exact ⟨n1,n2,by omega,s1.len,seen_len l n1 noE hva oko _⟩
 have hod:=form_okFs l _ (oQ l) (fun f=>Iff.rfl) (by omega)
 have hH:=fun H A c q=>hangs_any (mQ l).fields (.slice A (mQ l).fields.length c) H hod q _ _ (qQ l) (by omega) (by omega) p x hx
 have hfo:=few_ok l (inp:=nowE x.name (kZ x.ty r) (dW (mQ l).fields m)) (old:=allF l m []) hx
 have hgl:(hgL (xW (mQ l).fields) p (pX (rhoL (xW (mQ l).fields)) (mQ l).fields.length) (mQ l).fields.length).length≤(mQ l).fields.length:=hgL_len
 clear hS hod
 generalize hgL (xW (mQ l).fields) p (pX (rhoL (xW (mQ l).fields)) (mQ l).fields.length) (mQ l).fields.length=hg at *
 have hR1:=fun n1 n2 n3 A c B d si sv H q1 q2 q4=>hR (nowE x.name (kZ x.ty r) (dW (mQ l).fields m)) n3 n1 n2 A c B d si sv H q1 q2 q4
 clear hR se ss
 generalize delF l (nowE x.name (kZ x.ty r) (dW (mQ l).fields m)) [] (allF l m []) x.name=vd at *
 generalize (rY (mQ l).fields (nowE x.name (kZ x.ty r) (dW (mQ l).fields m)) [] (allF l m []) x.name (pX (rhoL (xW (mQ l).fields)) (mQ l).fields.length)).seen=seen at *
 generalize allF l m []=va at *
 generalize mQ l=fm at *
 generalize dW fm.fields m=env at *
 obtain ⟨A0,c0,rfl,-,-,-⟩:=hl.form
 obtain ⟨A1,c1,rfl,-,-,-⟩:=hm.form
 rw [List.length_map] at *
 rw [List.length_map] at *
 have erl:(yK env).length=env.length:=List.length_map _
 have hE1:=fun H b q1 q2 u q3=>eqS_any [x.name] [x.name] u (.slice (some ⟨b,0,none⟩) q1 q2) H q3
 have hE1d:∀ H b q1 q2 u,RS H 1 u (dZ [x.name])→RS H 1 (.slice (some ⟨b,0,none⟩) q1 q2) (dZ [x.name])→C0 Tryz.prog 37 #[u,.slice (some ⟨b,0,none⟩) q1 q2] H (fun r _=>r=.bool true):=fun H b q1 q2 u q3 q4=>by
  have:=hE1 H b q1 q2 u q3 q4 (by simp) (by simp)
  rwa [decide_eq_true rfl] at this
 have hrw:∀ H b,Cells H b 0 [.string x.name]→RS H 1 (.slice (some ⟨b,0,none⟩) 1 1) (dZ [x.name]):=fun H b c=>oY (k:=1) (dZ [x.name]) (fun r hr=>by simp at hr; subst hr; rfl) (show (1:Nat)≤maxLen by decide) c
 generalize hN:fm.fields.length=N at *
 refine aV Tryz.func11 (c:=Tryz.f11.body.getD .skip) (N:=167) ?_
 intro hbx hbad Q hQ
 refine go1 9 [.own] [] ?_
 intro b1
 refine wQ (fun H sH=>hF _ (hl.sees sH) ll ol) ?_; rintro _ W2 S3 ⟨A,c,B,d,rfl,hfm⟩
 refine go1 8 [.own,.b 0 0,.b 0 0] [] ?_
 intro b4
 refine g_callrow (fun H sH=>hin _ _ (.slice B fm.pages.length d) ((hfm.sees sH)).fields rfl (hm.sees (S3.trans sH))) ?_; rintro v _ rfl
 refine go0 7 [.b 1 0] [] ?_
 refine eV 0 (v:=v) (e:=54) (kk:=7) (l:=yK env) ?_; intro Av cv hE_v hc_v hm_v
 rw [show (yK env).length=env.length from by first | omega | (simp; done) | (simp; omega)] at hE_v hc_v
 rw [hE_v]
 refine fV 0 (v:=.slice Av env.length cv) (e:=54) (kk:=7) (l:=yK env) ?_; intro W5 S6 fin
 refine wQ (fun H sH=>hA _ _ _ _ _ _ (hfm.sees (S6.trans sH)) (fin.sees sH)) ?_; rintro _ W7 S8 ⟨A2,c2,rfl,hva2⟩
 refine go0 10 [] [] ?_
 obtain ⟨vs,A3,c3,e3,-,-,hr3,hs3,hl3,hsl⟩:=dQ hfm.fields
 simp only [Value.slice.injEq] at e3
 obtain ⟨rfl,-,rfl⟩:=e3
 rw [hN] at hr3 hl3
 obtain ⟨u,hu⟩:∃ u,vs[p]?=some u:=⟨_,List.getElem?_eq_getElem (by omega)⟩
 have hrow:=bQ hx hu
 obtain ⟨Au,nu,cu,rfl⟩:=(AllArgs.get hs3 (x:=x.src) (by rw [List.getElem?_map,hx]; rfl) hu).slice
 refine go0 20 [.cl 19 #[] (.bool true),.b 0 0] [(48,.bool ((N:Int) != (N:Int)),.bool false)] ?_ (ho:=(And.intro (fun H sH=>known_any _) (trivial))) (hc:=(And.intro (by simp) (trivial)))
 obtain ⟨b9,o10,rfl,-,c11⟩:=RS.row hr3 (hrow)
 refine cV (c11.sees (S6.trans S8)) ?_
 refine rV 11 1 [.pu,.ld 1 0,.pu,.pu,.ld 1 0,.pu,.v (fun gh=>Vi (p:Int)),.v (fun gh=>.pointer (some ⟨b9,o10 + p * 9,none⟩)),.lf 0 0,.al 0,.st 0 0] [(9,true)] (trivial) ?_ ?_
 ·intro R hT hA hmono
  refine And.intro (t_v hT hA hmono (k:=24) (args:=(fun gh=>#[Vi i,Vi (N:Int)])) (f:=fun gh=>Vi (p:Int)) (fun gh H sH fH lent=>hpk _)) ?_
  refine And.intro (eZ hT hA b9 o10 N c p (fun gh=>.pointer (some ⟨b9,o10 + p * 9,none⟩)) (by first | omega | (simp; omega))) ?_
  trivial
 rintro b12 W13 S14 -
 refine go0 8 [.b 1 0,.b 0 0] [] ?_
 refine wQ (fun H sH=>hR0 _ _ _ _ _ _ _ (hfm.sees (S6.trans (S8.trans (S14.trans sH)))) (fin.sees (S8.trans (S14.trans sH))) (hva2.sees (S14.trans sH))) ?_; rintro _ W15 S16 ⟨u1,z1,rfl,hv1,hs1⟩
 refine go0 17 [] [] ?_
 refine aW 8 [.cl 27 #[.slice (sA u1) (sN u1) (sC u1),.slice A2 N c2] (.bool true),.b 0 0,.fix] [] ?_ (ho:=(And.intro (fun H sH=>eqV2_any va _ _ _ (hv1.sees sH) (hva2.sees (S14.trans (S16.trans sH))) (by omega)) (trivial)))
 intro bv81 W17 S18
 refine zQ 0 bv81 0 [.string x.name] fun v81=>?_
 refine go0 16 [.cl 37 #[.slice (sA z1) (sN z1) (sC z1),Vs bv81 1 1] (.bool true),.b 0 1] [] ?_ (ho:=(And.intro (fun H sH=>hE1d _ _ _ _ _ (hs1.sees (S18.trans sH)) (hrw _ _ (v81.sees sH))) (trivial)))
 by_cases g:x.kind=1
 ·obtain ⟨n1,n2,n3,hvn,hsl⟩:=hnow g
  have hR2:=fun A c B d si sv H q1 q2 q4=>hR1 n1 n2 n3 A c B d si sv H q1 q2 q4
  clear hR1
  have hdl:(delN x.name env).length≤env.length:=List.length_filter_le _ _
  have hsn:=zK (delN x.name env) (x.name,kZ x.ty r)
  have hnw:delN x.name env++[(x.name,kZ x.ty r)]=nowE x.name (kZ x.ty r) env:=rfl
  rw [hnw] at hsn
  generalize nowE x.name (kZ x.ty r) env=now at *
  generalize kZ x.ty r=nv at *
  generalize delN x.name env=dn at *
  have hdr:(yK dn).length=dn.length:=List.length_map _
  refine g_frozenb 0 (b:=b12) (cs:=[.string x.name,Vi x.kind,Vi x.ty,Vi x.src.op,Vi x.src.k,Vi x.src.n,.string x.src.s,.string x.src.nm,.slice Au nu cu]) ?_; intro W19 S20 hbo
  refine dV (t:=x.kind != 1) ((by rw [bne_eq_false_iff_eq]; exact g)) ?_
  refine go0 3 [] [] ?_
  refine rV 14 1 [.pu,.e (fun gh=>.slice (sA (gh 1)) (sN (gh 1)) (sC (gh 1))) 0 (fun gh=>.row (.slice (sA (gh 1)) (sN (gh 1)) (sC (gh 1))) 54 7 (yK env)),.pu,.e (fun gh=>.slice (sA (gh 1)) dn.length (sC (gh 1))) 0 (fun gh=>.row (.slice (sA (gh 1)) dn.length (sC (gh 1))) 54 7 (yK dn)),.pu,.lf 0 0,.pu,.lf 0 2,.ld 2 0,.v (fun gh=>.agg #[Vi nv.k,Vi nv.n,.string nv.s]),.pu,.f (fun gh=>.slice (some ⟨(wJ (gh 11)),0,none⟩) 1 1) (fun gh hh=>Cells hh (wJ (gh 11)) 0 [.string x.name,Vi 0,Vi 0,Ve,Vi nv.k,Vi nv.n,.string nv.s]),.e (fun gh=>.slice (sA (gh 12)) (sN (gh 12)) (sC (gh 12))) 0 (fun gh=>.row (.slice (sA (gh 12)) (sN (gh 12)) (sC (gh 12))) 54 7 ((yK dn)++[[.string x.name,Vi 0,Vi 0,Ve,Vi nv.k,Vi nv.n,.string nv.s]])),.pu] [(1,false),(11,true),(12,false)] (And.intro (fun _ _ _ s c=>c.sees s) (trivial)) ?_ ?_
  ·intro R hT hA hmono
   refine And.intro (r_callown hT hA hmono ⟨fun _ _=>by kernel_rfl,fun _ _=>by kernel_rfl,fun _ _=>by kernel_rfl⟩ (by kernel_rfl) 89 (fun u=>.slice (sA u) (sN u) (sC u)) [0] 1 (by kernel_rfl) (fun _=>by kernel_rfl) 0 (GN R 0) (by kernel_rfl) (by kernel_rfl) (by kernel_rfl) 54 7 (fun gh=>yK env) (fun _=>by kernel_rfl) (fun _=>by kernel_rfl) (fun _ _=>rfl) 32 (fun gh=>#[.slice Av env.length cv]) (fun _ _=>by kernel_rfl) (fun gh H sH fH=>hcl _ _ (fin.sees (S8.trans (S14.trans (S16.trans (S18.trans (S20.trans sH)))))))) ?_
   refine And.intro (r_callset hT hA hmono 91 (fun gh=>.slice (sA (gh 1)) (sN (gh 1)) (sC (gh 1))) (fun gh=>.slice (sA (gh 1)) dn.length (sC (gh 1))) [1,2] 3 (by kernel_rfl) (by kernel_rfl) (fun _=>by kernel_rfl) 0 (GN R 0) (by kernel_rfl) (by kernel_rfl) (by kernel_rfl) (kk:=7) (te:=54) (l:=yK env) (l':=yK dn) (fun _=>own_sl _ _ _ _ _) (fun _=>by kernel_rfl) (fun _=>by kernel_rfl) 31 (fun gh=>#[.slice (sA (gh 1)) (sN (gh 1)) (sC (gh 1)),.func (.func 38) #[] #[Vp b12]]) (fun _ _=>by kernel_rfl) (fun gh H sH fH bH=>hdf _ _ _ _ _ _ _ _ (hbo.sees sH) bH)) ?_
   refine And.intro (t_v hT hA hmono (k:=34) (args:=(fun gh=>#[Vi x.ty,.agg #[Vi r.k,Vi r.a,Vi r.b,.string r.t]])) (f:=fun gh=>.agg #[Vi nv.k,Vi nv.n,.string nv.s]) (fun gh H sH fH lent=>hV _)) ?_
   refine And.intro (r_fact hT hA hmono ⟨fun _ _=>by kernel_rfl,fun _ _=>by kernel_rfl,fun _ _=>by kernel_rfl⟩ 99 (fun g=>Vs g 1 1) [10] 11 (by kernel_rfl) (by kernel_rfl) (fun _=>by kernel_rfl) (fun gh=>[.string x.name,Vi 0,Vi 0,Ve,Vi nv.k,Vi nv.n,.string nv.s]) 54 (fun _ _=>by kernel_rfl) (fun gh zb zH zc zj zq zhq zhe=>own_fact (i:=11) (k:=0) (f:=fun gh hh=>Cells hh (wJ (gh 11)) 0 [.string x.name,Vi 0,Vi 0,Ve,Vi nv.k,Vi nv.n,.string nv.s]) (by kernel_rfl) (by kernel_rfl) zc zj zq zhq zhe)) ?_
   refine And.intro (zX hT hA hmono ⟨fun _ _=>by kernel_rfl,fun _ _=>by kernel_rfl,fun _ _=>by kernel_rfl⟩ 100 [3,9,11] 12 0 (GN R 0) (fun gh=>.slice (sA (gh 1)) dn.length (sC (gh 1))) 28 54 7 (fun gh=>yK dn) (fun gh=>[[.string x.name,Vi 0,Vi 0,Ve,Vi nv.k,Vi nv.n,.string nv.s]]) (.tmp 91) (.tmp 99) (fun gh=>(wJ (gh 11))) 1 1 0 11 (fun gh hh=>Cells hh (wJ (gh 11)) 0 [.string x.name,Vi 0,Vi 0,Ve,Vi nv.k,Vi nv.n,.string nv.s]) (fun _ _ c=>c) Tryz.underlying28 (zv:=.agg #[Ve,Vi 0,Vi 0,Ve,Vi 0,Vi 0,Ve]) (bytes:=80) (fun _=>by constructor <;> (simp; omega))) ?_
   trivial
  rintro u51 b22 v23 W24 S25 ⟨f21,-⟩
  replace f21:Cells W24 b22 0 [.string x.name,Vi 0,Vi 0,Ve,Vi nv.k,Vi nv.n,.string nv.s]:=f21
  refine cV f21 ?_
  refine go0 8 [.b 1 0,.f 1 0] [] ?_
  refine gV [(9,Vp b4),(11,.slice A2 N c2),(13,Vp b12),(102,.agg #[.slice (some ⟨b9,o10,none⟩) N c,.slice B fm.pages.length d]),(103,.slice (sA v23) (sN v23) (sC v23)),(104,.slice A2 N c2),(106,.string x.name)] [.row (.slice (sA v23) (sN v23) (sC v23)) 54 7 ((yK dn)++[[.string x.name,Vi 0,Vi 0,Ve,Vi nv.k,Vi nv.n,.string nv.s]]),.box b4 [.slice (some ⟨b9,o10,none⟩) N c,.slice B fm.pages.length d],.box b1 [Vi r.k,Vi r.a,Vi r.b,.string r.t]] [(b22,0,[.string x.name,Vi 0,Vi 0,Ve,Vi nv.k,Vi nv.n,.string nv.s]),(b12,0,[.string x.name,Vi x.kind,Vi x.ty,Vi x.src.op,Vi x.src.k,Vi x.src.n,.string x.src.s,.string x.src.nm,.slice Au nu cu]),(bv81,0,[.string x.name]),(b9,o10 + p * 9,[.string x.name,Vi x.kind,Vi x.ty,Vi x.src.op,Vi x.src.k,Vi x.src.n,.string x.src.s,.string x.src.nm,.slice Au nu cu])] ?_
  rw [show yK dn++[[.string x.name,.int .i64 0,.int .i64 0,.string ⟨#[]⟩,.int .i64 nv.k,.int .i64 nv.n,.string nv.s]]=yK now from hsn.symm]
  refine fV 0 (v:=.slice (sA v23) (sN v23) (sC v23)) (e:=54) (kk:=7) (l:=yK now) ?_; intro W26 S27 fnow
  refine wQ (fun H sH=>hR2 _ _ _ _ _ _ _ (hfm.sees (S6.trans (S8.trans (S14.trans (S16.trans (S18.trans (S20.trans (S25.trans (S27.trans sH))))))))) (fnow.sees sH) (hva2.sees (S14.trans (S16.trans (S18.trans (S20.trans (S25.trans (S27.trans sH)))))))) ?_; rintro _ W28 S29 ⟨u2,z2,rfl,hv2,hs2⟩
  refine go0 15 [.b 0 0,.f 1 0] [] ?_
  obtain ⟨A7,c7,e7,-⟩:=hv2.form
  rw [List.length_map,hvn] at e7
  rw [e7] at hv2 ⊢
  refine wQ (fun H sH=>hH _ _ _ ((hfm.sees (S6.trans (S8.trans (S14.trans (S16.trans (S18.trans (S20.trans (S25.trans (S27.trans (S29.trans sH))))))))))).fields) ?_; rintro _ W30 S31 ⟨Ah,ch,rfl,hgr⟩
  refine go0 38 [.b 0 0] [(130,.bool ((N:Int) != (N:Int)),.bool false)] ?_ (hc:=(And.intro (by simp) (trivial)))
  refine jV [0,1,0,1,1,1,1,1,1,1,1,1,1,1,1,1] [.block 0,.seq [1,1,1,1,1,1,1,1,1,1,1,1,1,1]] (fun (k:Nat) X=>∃ (W32:Vw) ,X W32 [(11,.slice A2 N c2),(18,.slice A7 N c7),(15,.slice (sA z2) (sN z2) (sC z2)),(20,.slice Ah hg.length ch),(133,.slice (some ⟨b9,o10,none⟩) N c),(134,Vi (N:Int)),(135,Vi (k:Int))] [.box b4 [.slice (some ⟨b9,o10,none⟩) N c,.slice B fm.pages.length d],.box b1 [Vi r.k,Vi r.a,Vi r.b,.string r.t]] [(b22,0,[.string x.name,Vi 0,Vi 0,Ve,Vi nv.k,Vi nv.n,.string nv.s]),(b12,0,[.string x.name,Vi x.kind,Vi x.ty,Vi x.src.op,Vi x.src.k,Vi x.src.n,.string x.src.s,.string x.src.nm,.slice Au nu cu]),(bv81,0,[.string x.name]),(b9,o10 + p * 9,[.string x.name,Vi x.kind,Vi x.ty,Vi x.src.op,Vi x.src.k,Vi x.src.n,.string x.src.s,.string x.src.nm,.slice Au nu cu])]∧Sees W30 W32∧(k≤N)) (fun k=>N - k) (0) (fun X q=>⟨W30,q _ _ _ _ ⟨rfl,by kernel_rfl⟩,Sees.refl _,Nat.zero_le _⟩) ?_
  rintro k a w ⟨W32,hJ,S33,hk⟩; refine pV hJ ?_; clear hJ a w
  refine go0 6 [] [] ?_
  rcases (by omega:k < N∨k=N) with hlt | hke
  ·obtain ⟨y,hy⟩:∃ y,fm.fields[k]?=some y:=⟨_,List.getElem?_eq_getElem (by omega)⟩
   obtain ⟨uy,huy⟩:∃ u,vs[k]?=some u:=⟨_,List.getElem?_eq_getElem (by omega)⟩
   have hroy:=bQ hy huy
   obtain ⟨Ay,ny,cy,rfl⟩:=(AllArgs.get hs3 (x:=y.src) (by rw [List.getElem?_map,hy]; rfl) huy).slice
   have hco:=fun H q=>contS_any seen (.slice (sA z2) (sN z2) (sC z2)) y.name H q (by omega)
   have hch:=fun H q=>contH_any hg (.slice Ah hg.length ch) k H q (by omega)
   obtain ⟨xa,hxa⟩:∃ y,vd[k]?=some y:=⟨_,List.getElem?_eq_getElem (by omega)⟩
   obtain ⟨xb,hxb⟩:∃ y,va[k]?=some y:=⟨_,List.getElem?_eq_getElem (by omega)⟩
   have hra:=mZ hxa
   have hrb:=mZ hxb
   rcases Bool.eq_false_or_eq_true (memS seen y.name) with q | q
   ·rw [q] at hco
    rw [decide_eq_true (hfo.look k y hy q)] at hch
    refine uV (t:=decide ((k:Int) < (N:Int))) (decide_eq_true (by omega)) ?_
    refine go0 7 [] [] ?_
    have c34:=RS.cell hr3 (hroy)
    refine cV (c34.sees (S6.trans (S8.trans (S14.trans (S16.trans (S18.trans (S20.trans (S25.trans (S27.trans (S29.trans (S31.trans S33))))))))))) ?_
    refine go1 17 [.ix b9 o10 N c k,.f 0 0,.own,.b 0 0,.b 0 0,.cl 30 #[.slice (sA z2) (sN z2) (sC z2),.string y.name] (.bool true)] [] ?_ (ho:=(And.intro (by first | omega | (simp; omega)) (And.intro (fun H sH=>hco _ (hs2.sees (S31.trans (S33.trans sH)))) (trivial))))
    intro b35
    refine rV 22 0 [.pu,.pu,.pu,.pu,.v (fun gh=>.bool true),.pu,.pu,.pu,.pu,.pu,.pu,.ps,.ps,.ps,.ps,.ps,.ps,.ps,.ps,.ps,.pu,.pu] [] (trivial) ?_ ?_
    ·intro R hT hA hmono
     refine And.intro (t_v hT hA hmono (k:=40) (args:=(fun gh=>#[.slice Ah hg.length ch,Vi (k:Int)])) (f:=fun gh=>.bool true) (fun gh H sH fH lent=>hch _ (hgr.sees (S33.trans sH)))) ?_
     trivial
    rintro W36 S37 -
    refine go0 9 [] [(166,Vi (IntKind.i64.wrap ((k:Int) + 1)),Vi ((k:Int) + 1))] ?_ (hc:=(And.intro (jJ (by omega) (by omega)) (trivial)))
    exact tV (k + 1) (fun X q=>⟨W36,q _ _ _ _ ⟨rfl,by kernel_rfl⟩,(S33.trans S37),by omega⟩) (by omega)
   ·skip
    rw [q] at hco
    obtain rfl:xa=xb:=Option.some.inj (hxa.symm.trans ((hfo.stay k y hy q).trans hxb))
    refine uV (t:=decide ((k:Int) < (N:Int))) (decide_eq_true (by omega)) ?_
    refine go0 7 [] [] ?_
    have c38:=RS.cell hr3 (hroy)
    refine cV (c38.sees (S6.trans (S8.trans (S14.trans (S16.trans (S18.trans (S20.trans (S25.trans (S27.trans (S29.trans (S31.trans S33))))))))))) ?_
    refine go1 17 [.ix b9 o10 N c k,.f 0 0,.own,.b 0 0,.b 0 0,.cl 30 #[.slice (sA z2) (sN z2) (sC z2),.string y.name] (.bool false)] [] ?_ (ho:=(And.intro (by first | omega | (simp; omega)) (And.intro (fun H sH=>hco _ (hs2.sees (S31.trans (S33.trans sH)))) (trivial))))
    intro b39
    obtain ⟨b40,o41,rfl,-,c42⟩:=RS.row hv2 (hra)
    refine cV (c42.sees (S31.trans S33)) ?_
    obtain ⟨b43,o44,rfl,-,c45⟩:=RS.row hva2 (hrb)
    refine cV (c45.sees (S14.trans (S16.trans (S18.trans (S20.trans (S25.trans (S27.trans (S29.trans (S31.trans S33))))))))) ?_
    refine rV 22 0 [.pu,.pu,.ps,.ps,.ps,.ps,.pu,.pu,.pu,.pu,.pu,.pu,.pu,.v (fun gh=>.pointer (some ⟨b40,o41 + k * 3,none⟩)),.lf 1 0,.pu,.pu,.v (fun gh=>.pointer (some ⟨b43,o44 + k * 3,none⟩)),.lf 0 0,.v (fun gh=>.bool false),.pu,.pu] [] (trivial) ?_ ?_
    ·intro R hT hA hmono
     refine And.intro (eZ hT hA b40 o41 N c7 k (fun gh=>.pointer (some ⟨b40,o41 + k * 3,none⟩)) (by first | omega | (simp; omega))) ?_
     refine And.intro (eZ hT hA b43 o44 N c2 k (fun gh=>.pointer (some ⟨b43,o44 + k * 3,none⟩)) (by first | omega | (simp; omega))) ?_
     refine And.intro (t_p hT hA (fun gh=>.bool false) (fun gh w=>run_neqop (x:=(.tmp 158)) (y:=(.tmp 162)) (v:=xa) (w:=xa) (by kernel_rfl) (by kernel_rfl) (by kernel_rfl) (eqB_iff.2 rfl))) ?_
     trivial
    rintro W46 S47 -
    refine go0 9 [] [(166,Vi (IntKind.i64.wrap ((k:Int) + 1)),Vi ((k:Int) + 1))] ?_ (hc:=(And.intro (jJ (by omega) (by omega)) (trivial)))
    exact tV (k + 1) (fun X q=>⟨W46,q _ _ _ _ ⟨rfl,by kernel_rfl⟩,(S33.trans S47),by omega⟩) (by omega)
  ·skip
   refine dV (t:=decide ((k:Int) < (N:Int))) (decide_eq_false (by omega)) ?_
   refine go0 2 [] [] ?_
   refine iV ?_
   refine go0 8 [] [] ?_
   refine hQ.to [.bool true] (fun H sH=>?_)
   exact rfl
 ·skip
  refine uV (t:=x.kind != 1) (bne_iff_ne.2 g) ?_
  refine go0 7 [] [] ?_
  refine hQ.to [.bool true] (fun H sH=>?_)
  exact rfl
theorem deltaFew_walk (v:Value) (l:List RawD) (v':Value) (m:List RawD) (r:RawD) (i:Int) (w:World) (h:RawsOf w v l) (h':RawsOf w v' m) (hr:r.ok) (i0 : -9223372036854775808≤i) (i1:i≤9223372036854775807) :
  Calls Tryz.prog 11 #[v,v',r.val,.int .i64 i] w fun e w'=>e=.returned (.bool true)∧Below w.heap.size w w' :=
 C0.law (deltaFew_c l m r i v v' ⟨w,[]⟩ h.rs h'.rs h.2.1 h'.2.1 h.2.2 h'.2.2 hr i0 i1)
namespace deltaFewLaw
open Go.ChangeShapes Go.WideShapes Go.ChangeAt Go.RowKit
open Go.ChangeMaps (open_string shut_string)
set_option linter.unusedVariables false
theorem lifted (os:Os) (started:os.Started) (H:Type) (enc:TypeId × Value→H) :
  ReturnsInHanded {} Tryz.checked os 11 .any (Rows.deltaFewSpec.pre6 enc Tryz.prog Tryz.f11 Rows.deltaFewRow.domain false) (Rows.deltaFewSpec.post enc Tryz.prog Tryz.f11 false true false false):=by
 refine returnsInHanded_of_change_sized (C:=Tryz.checked) ownNone started (by kernel_rfl) Tryz.func11
  (ChangeSpec.witness6 (enc:=enc) (C:=Tryz.checked) false ⟨#[],#[.slice none 0 0,.slice none 0 0,.agg #[.int .i64 0,.int .i64 0,.int .i64 0,.string ByteArray.empty],.int .i64 0],[]⟩ 8 (by kernel_rfl) (by kernel_rfl) (by kernel_rfl) (by kernel_rfl)) ?_
 intro W base args ds gs before hval0 hW hcnd hsz0 _
 have hval:∀ (j:Nat) t v,Tryz.f11.params[j]?=some t→args[j]?=some v→Value.okWide Tryz.prog W .any base t v:=hval0
 have hsz:(DataW.weightsEach Tryz.prog (Tryz.f11.params.toList++Rows.deltaFewSpec.plain.varTypes Tryz.prog) (ds++gs)).all (· ≤ reachBytes)=true:=hsz0
 have hW':=hW
 obtain ⟨p,q,hA0,hV,rfl,hfz,hnd⟩:=hW
 have hA:DataW.TrodAll enc Tryz.prog W 0 (fun _=>true) true Tryz.f11.params.toList args.toList ds p:=hA0
 rw [Tryz.params11] at hA hval hsz
 obtain ⟨v0,vs0,d0,ds0,p0,q0,hargs,rfl,rfl,h0,r0⟩:=trodAll_cons hA
 obtain ⟨v1,vs1,d1,ds1,p1,q1,rfl,rfl,rfl,h1,r1⟩:=trodAll_cons r0
 obtain ⟨v2,vs2,d2,ds2,p2,q2,rfl,rfl,rfl,h2,r2⟩:=trodAll_cons r1
 obtain ⟨v3,vs3,d3,ds3,p3,q3,rfl,rfl,rfl,h3,r3⟩:=trodAll_cons r2
 obtain ⟨rfl,rfl,rfl⟩:=trodAll_nil r3
 obtain rfl:args=#[v0,v1,v2,v3]:=by cases args; simp_all
 obtain ⟨rfl,rfl⟩:=trodVars_none hV
 have k0:=h0
 have lt0:∀ x∈p0,x.block < W.heap.size:=by obtain ⟨m,hm⟩:=k0; exact DataW.trod_lt m _ _ _ hm
 obtain ⟨a0,w0⟩:=open_rows (hval 0 22 v0 rfl rfl) h0 (fun es ss hd=>sized_slice hsz (j:=0) (t:=22) (elems:=es) (spare:=ss) rfl (by rw [hd]; rfl) Tryz.underlying22)
 have k1:=h1
 have lt1:∀ x∈p1,x.block < W.heap.size:=by obtain ⟨m,hm⟩:=k1; exact DataW.trod_lt m _ _ _ hm
 obtain ⟨a1,w1⟩:=open_rows (hval 1 22 v1 rfl rfl) h1 (fun es ss hd=>sized_slice hsz (j:=1) (t:=22) (elems:=es) (spare:=ss) rfl (by rw [hd]; rfl) Tryz.underlying22)
 have k2:=h2
 have lt2:∀ x∈p2,x.block < W.heap.size:=by obtain ⟨m,hm⟩:=k2; exact DataW.trod_lt m _ _ _ hm
 obtain ⟨a2,rfl,w2⟩:=open_raw (hval 2 64 v2 rfl rfl) h2
 have k3:=h3
 have lt3:∀ x∈p3,x.block < W.heap.size:=by obtain ⟨m,hm⟩:=k3; exact DataW.trod_lt m _ _ _ hm
 obtain ⟨a3,rfl,-,-,w3⟩:=open_int Tryz.underlying3 (hval 3 3 v3 rfl rfl) h3
 clear hA0 hval0 hsz0
 refine (deltaFew_walk v0 a0 v1 a1 a2 a3 W w0 w1 w2 (int_lo w3) (int_hi w3)).mono fun e W' ⟨he,bel⟩=>?_
 subst he
 exact ⟨_,rfl,_,_,_,[],_,[],hW',trodAll_mk1 (shut_bool Tryz.underlying4 _),(trodAll_cons_mk (Below.trod mW (by kernel_rfl) (of_decide_eq_true (by kernel_rfl)) k0 bel lt0) (trodAll_cons_mk (Below.trod mW (by kernel_rfl) (of_decide_eq_true (by kernel_rfl)) k1 bel lt1) (trodAll_cons_mk (Below.trod mW (by kernel_rfl) (of_decide_eq_true (by kernel_rfl)) k2 bel lt2) (trodAll_cons_mk (Below.trod mW (by kernel_rfl) (of_decide_eq_true (by kernel_rfl)) k3 bel lt3) trodAll_mk0)))),rfl,bel.frame _,fun h=>by cases h⟩
theorem over:Rows.deltaFewRow.holds Tryz.pinned (OpenSpec.ofChange Rows.deltaFewSpec) :=
 OpenClaim.holds_of_wide 11 Tryz.f11 rfl rfl rfl rfl rfl rfl rfl ⟨rfl,rfl,rfl,rfl,rfl⟩ rfl rfl rfl rfl rfl (by kernel_rfl) Tryz.func11 (by kernel_rfl)
  (of_decide_eq_true (by kernel_rfl)) (by unfold Func.isWrapper; first | (rw [if_pos (by decide +kernel)]; kernel_rfl) | (rw [if_neg (by decide +kernel)]; exact ⟨rfl,rfl⟩))
  (fun os started H enc _=>lifted os started H enc)
end deltaFewLaw
theorem deltaFew_holds:Rows.DeltaFewSaid:=deltaFewLaw.over
#print axioms deltaFew_holds
end Go.Proofs.YthckljafinhepaaGreat
