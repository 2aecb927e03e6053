/-
  For all raw things and both orders EngineCalm returns true: if all is answered nothing is pending in the end, and all is as somebody who knows all would have it. No condition.
-/
import Derived.Test.YtmoahpojchndiaaGreatZC9
import Derived.Test.YtmoahpojchndiaaGreatZC51
import Derived.Test.YtmoahpojchndiaaGreatZC52
set_option maxRecDepth 100000
namespace Go.Proofs.YtmoahpojchndiaaGreat
open Go.RowKit
set_option linter.unusedVariables false
theorem pend1_any (v:Vl) (h:Vw):C0 Tryz.prog 28 #[.agg #[.int .i64 v.k,.int .i64 v.n,.string v.s]] h (fun r _=>r=.bool (v.k == 4)):=by
 refine yQ Tryz.func28 (c:=Tryz.f28.body.getD .skip) (N:=6) ?_
 intro hbx hbad Q hQ
 refine go1 15 [.own,.b 0 0] [] ?_
 intro b1
 refine hQ.to [.bool (v.k == 4)] (fun H sH=>?_)
 exact rfl
theorem idxPd_any (l:List Vl) (A:Option Addr) (cap:Nat) (h:Vw) (hr:RS h 3 (.slice A l.length cap) (wZ l)) (hl:l.length≤1000000) (hno:∀ x∈l,x.k≠4) :
  C0 Tryz.prog 74 #[.slice A l.length cap,.func (.func 28) #[] #[]] h (fun r _=>r=.int .i64 (-1)):=by
 generalize hL:l.length=len at *
 refine yQ Tryz.func74 (c:=Tryz.f74.body.getD .skip) (N:=19) ?_
 intro hbx hbad Q hQ
 refine go0 14 [] [] ?_
 refine gV [0,1,0,1] [.block 0,.seq [1,1]] (fun (k:Nat) X=>∃ (W1:Vw) ,X W1 [(0,.slice A len cap),(1,.func (.func 28) #[] #[]),(7,Vi (len:Int)),(8,Vi (k:Int))] [] []∧Sees h W1∧(k≤len)) (fun k=>len - k) (0) (fun X q=>⟨h,q _ _ _ _ ⟨rfl,by kernel_rfl⟩,Sees.refl _,Nat.zero_le _⟩) ?_
 rintro k a w ⟨W1,hJ,S2,hk⟩; refine lV hJ ?_; clear hJ a w
 refine go0 6 [] [] ?_
 rcases (by omega:k < len∨k=len) with hlt | hke
 ·obtain ⟨q,hqk⟩:∃ q,l[k]?=some q:=⟨_,List.getElem?_eq_getElem (by omega)⟩
  have hrow:(wZ l)[k]?=some [.int .i64 q.k,.int .i64 q.n,.string q.s]:=by rw [List.getElem?_map,hqk]; rfl
  have hq1:=fun H=>pend1_any q H
  rw [beq_eq_false_iff_ne.2 (hno q (List.mem_of_getElem? hqk))] at hq1
  refine qV (t:=decide ((k:Int) < (len:Int))) (decide_eq_true (by omega)) ?_
  refine go0 15 [] [] ?_
  obtain ⟨b3,o4,rfl,-,c5⟩:=RS.row hr (hrow)
  refine zQ (c5.sees S2) ?_
  refine go0 13 [.ix b3 o4 len cap k,.f 0 0,.cl 28 #[.agg #[Vi q.k,Vi q.n,.string q.s]] (.bool false)] [(18,Vi (IntKind.i64.wrap ((k:Int) + 1)),Vi ((k:Int) + 1))] ?_ (ho:=(And.intro (by first | omega | (simp; omega)) (And.intro (fun H sH=>hq1 _) (trivial)))) (hc:=(And.intro (jJ (by omega) (by omega)) (trivial)))
  exact pV (k + 1) (fun X q=>⟨W1,q _ _ _ _ ⟨rfl,by kernel_rfl⟩,S2,by omega⟩) (by omega)
 ·skip
  refine aV (t:=decide ((k:Int) < (len:Int))) (decide_eq_false (by omega)) ?_
  refine go0 2 [] [] ?_
  refine fV ?_
  refine go0 8 [] [] ?_
  refine hQ.to [Vi (-1)] (fun H sH=>?_)
  exact rfl
theorem contPd_any (l:List Vl) (A:Option Addr) (cap:Nat) (h:Vw) (hr:RS h 3 (.slice A l.length cap) (wZ l)) (hl:l.length≤1000000) (hno:∀ x∈l,x.k≠4) :
  C0 Tryz.prog 27 #[.slice A l.length cap,.func (.func 28) #[] #[]] h (fun r _=>r=.bool false):=by
 have hi:=fun H q1=>idxPd_any l A cap H q1 hl hno
 refine yQ Tryz.func27 (c:=Tryz.f27.body.getD .skip) (N:=9) ?_
 intro hbx hbad Q hQ
 refine go0 15 [.cl 74 #[.slice A l.length cap,.func (.func 28) #[] #[]] (Vi (-1))] [] ?_ (ho:=(And.intro (fun H sH=>hi _ (hr.sees sH)) (trivial)))
 refine hQ.to [.bool false] (fun H sH=>?_)
 exact rfl
theorem oracle_e {E:Eg} {ρ:List Int} {lv:Nat→Nat} (hok:EgOk E ρ lv) (hi:E.inp=[]) {A:Option Addr} {n c:Nat} {u:Value} {h:Vw} (k:EngF h A n c u E) (hn:E.fm.fields.length=n) :
  C0 Tryz.prog 24 #[.agg #[.slice A n c,.slice (sA (agJ 1 u)) (sN (agJ 1 u)) (sC (agJ 1 u))],.slice (sA (agJ 2 u)) (sN (agJ 2 u)) (sC (agJ 2 u))] h (fun r h'=>∃ A' c',r=.tuple #[.slice A' (lX E.fm.fields E.inp (mX ρ n) n).length c',.bool true]∧RS h' 7 (.slice A' (lX E.fm.fields E.inp (mX ρ n) n).length c') (tJ (lX E.fm.fields E.inp (mX ρ n) n))):=by
 obtain ⟨us,ws,B,d,e1,-,-,-,-,-,-⟩:=tX k.form.pages
 have hf:=k.form
 rw [e1] at hf ⊢
 have one:=hok.one
 have hW:=calm_wh hok hi
 rw [hn] at hW
 exact oracle_l E.fm ρ lv A n c B _ d E.inp _ h hok.fm hf hn.symm (by omega) k.inp (by have:=hok.li; omega) hok.ki hok.ti hW
theorem all_e {E:Eg} {ρ:List Int} {lv:Nat→Nat} (hok:EgOk E ρ lv) (hi:E.inp=[]) {A:Option Addr} {n c:Nat} {u so:Value} {orc:List Aw} (ho:OkOrc E.fm.fields orc) (hl:orc.length≤1000) {h:Vw} (k:EngF h A n c u E) (hn:E.fm.fields.length=n) (hr:RS h 7 so (tJ orc)) :
  C0 Tryz.prog 25 #[.agg #[.slice A n c,.slice (sA (agJ 1 u)) (sN (agJ 1 u)) (sC (agJ 1 u))],.slice (sA (agJ 2 u)) (sN (agJ 2 u)) (sC (agJ 2 u)),so] h (fun r h'=>∃ A' c',r=.tuple #[.slice A' n c',.int .i64 0]∧RS h' 3 (.slice A' n c') (wZ (allW E.fm.fields E.inp orc (mX ρ n)))):=by
 obtain ⟨us,ws,B,d,e1,-,-,-,-,-,-⟩:=tX k.form.pages
 have hf:=k.form
 rw [e1] at hf ⊢
 have one:=hok.one
 exact whAll_any E.fm ρ lv A n c B _ d E.inp _ so orc h hok.fm hf hn.symm (by omega) k.inp (by have:=hok.li; omega) hok.ki hok.ti hr hl ho.has (fun H g1 g2=>whOracle_any E.fm.fields hok.fm.fields orc ho A n c B _ d so H g1.fields hn.symm g2 hl)
set_option maxHeartbeats 1000000 in
theorem engineCalm_c (l:List RawD) (sl:Value) (last:Bool) (h:Vw) (hl:RS h 4 sl (l.map RawD.cs)) (ll:l.length * 40≤reachBytes) (ol:∀ r∈l,r.ok) :
  C0 Tryz.prog 5 #[sl,.bool last] h (fun v _=>v=.bool true):=by
 have hPol:=fun H=>c_policy 3 10 30 H (by decide) (by decide) (by decide) (by decide) (by decide) (by decide)
 have hp:=polE_ok 3 10 30
 generalize polE 3 10 30=P at *
 have hB:=fun H q=>begun_any l sl P hp H q ll ol
 have hM0:=begE_m l hp
 have hK0:CalK (qQ l) P (rhoL (sW (qQ l).fields)) (lvF l) 0 (begE l P) (begL l P):=⟨hM0,calI_beg (form_okFm l) (form_one l) hp,Nat.zero_le _⟩
 have hCa:=fun w su H q1 q2=>calm_any (qQ l) P _ _ (begE l P) (begL l P) hK0 last w su H q1 q2
 generalize rhoL (sW (qQ l).fields)=ρ at *
 generalize lvF l=lv at *
 generalize qQ l=fm at *
 clear hK0 hM0
 generalize begE l P=E0 at *
 generalize begL l P=lt0 at *
 obtain ⟨A0,c0,rfl,-,-,-⟩:=hl.form
 rw [List.length_map] at *
 generalize l.length=len at *
 generalize hn:fm.fields.length=n at *
 refine yQ Tryz.func5 (c:=Tryz.f5.body.getD .skip) (N:=67) ?_
 intro hbx hbad Q hQ
 refine go0 9 [.cl 13 #[Vi 3,Vi 10,Vi 30] (.agg #[Vi P.t,Vi P.b,Vi P.c])] [] ?_ (ho:=(And.intro (fun H sH=>hPol _) (trivial)))
 refine vQ (fun H sH=>hB _ (hl.sees sH)) ?_; rintro _ W1 S2 ⟨ue,rfl,hte⟩
 refine go1 15 [.own,.b 0 0,.b 0 0] [] ?_
 intro b3
 refine vQ (fun H sH=>hCa _ _ _ ((hte.sees sH)).eng ((hte.sees sH)).out) ?_; rintro _ W4 S5 ⟨E,k,A,c,u,rfl,hK,hE⟩
 refine go1 28 [.own,.b 0 0,.b 0 0,.b 0 5] [] ?_
 intro bx
 have hM:=hK.m
 have hnn:E.fm.fields.length=n:=by rw [hM.efm]; exact hn
 have few:=hM.ok.fm.fields.few
 have hinp:=hK.i.inp
 have hva:=calm_vals hM.ok hM.se hK.i
 have hW:=calm_wh hM.ok hinp
 rw [hnn] at hva hW few
 have hoo:=hW.orc n
 have hol:(lX E.fm.fields E.inp (mX ρ n) n).length≤1000:=by
  have h1:=orcL_len E.fm.fields E.inp (mX ρ n) n
  rw [hnn] at h1
  have h4:n * n≤14 * 14:=Nat.mul_le_mul few few
  omega
 have hOr:=fun H q=>oracle_e (h:=H) (A:=A) (c:=c) (u:=u) hM.ok hinp q hnn
 have hAl:=fun so H q1 q2=>all_e (h:=H) (A:=A) (c:=c) (u:=u) (so:=so) hM.ok hinp hoo hol q1 hnn q2
 rw [hva] at hAl
 have hvl:=hM.ok.vlen
 rw [hnn] at hvl
 have hEq:=fun v u H q1 q2=>c_equalVl (h:=H) (v:=v) (v':=u) (l:=E.vals) q1 q2 (by omega)
 have hCt:=fun A c H q=>contPd_any E.vals A c H q (by omega) (none_pending hM.ok hM.se (calI_none hM.ok hK.i))
 rw [hvl] at hCt
 clear hva hoo hol
 generalize lX E.fm.fields E.inp (mX ρ n) n=orc at *
 refine vQ (fun H sH=>hOr _ (hE.sees sH)) ?_; rintro _ W6 S7 ⟨A6,c6,rfl,hor⟩
 refine go0 14 [.b 0 0,.b 0 5] [] ?_
 refine vQ (fun H sH=>hAl _ _ (hE.sees (S7.trans sH)) (hor.sees sH)) ?_; rintro _ W8 S9 ⟨A7,c7,rfl,hva⟩
 refine go0 18 [.b 0 7] [] ?_
 refine go0 11 [.cl 26 #[.slice A7 n c7,.slice (sA (agJ 4 u)) (sN (agJ 4 u)) (sC (agJ 4 u))] (.bool true),.cl 27 #[.slice A7 n c7,.func (.func 28) #[] #[]] (.bool false)] [] ?_ (ho:=(And.intro (fun H sH=>hEq _ _ _ (hva.sees sH) ((hE.sees (S7.trans (S9.trans sH)))).vals) (And.intro (fun H sH=>hCt _ _ _ (hva.sees sH)) (trivial))))
 refine hQ.to [.bool true] (fun H sH=>?_)
 exact rfl
theorem engineCalm_walk (v:Value) (l:List RawD) (b:Bool) (w:World) (h:RawsOf w v l) :
  Calls Tryz.prog 5 #[v,.bool b] w fun e w'=>e=.returned (.bool true)∧Below w.heap.size w w' :=
 C0.law (engineCalm_c l v b ⟨w,[]⟩ h.rs h.2.1 h.2.2)
namespace engineCalmLaw
open Go.ChangeShapes Go.WideShapes Go.ChangeAt Go.RowKit
open Go.ChangeMaps (open_string shut_string)
set_option linter.unusedVariables false
theorem lifted (os:Os) (started:os.Started) (H:Type) (enc:TypeId × Value→H) :
  ReturnsInHanded {} Tryz.checked os 5 .any (Rows.engineCalmSpec.pre6 enc Tryz.prog Tryz.f5 Rows.engineCalmRow.domain false) (Rows.engineCalmSpec.post enc Tryz.prog Tryz.f5 false true false false):=by
 refine returnsInHanded_of_change_sized (C:=Tryz.checked) ownNone started (by kernel_rfl) Tryz.func5
  (ChangeSpec.witness6 (enc:=enc) (C:=Tryz.checked) false ⟨#[],#[.slice none 0 0,.bool false],[]⟩ 8 (by kernel_rfl) (by kernel_rfl) (by kernel_rfl) (by kernel_rfl)) ?_
 intro W base args ds gs before hval0 hW hcnd hsz0 _
 have hval:∀ (j:Nat) t v,Tryz.f5.params[j]?=some t→args[j]?=some v→Value.okWide Tryz.prog W .any base t v:=hval0
 have hsz:(DataW.weightsEach Tryz.prog (Tryz.f5.params.toList++Rows.engineCalmSpec.plain.varTypes Tryz.prog) (ds++gs)).all (· ≤ reachBytes)=true:=hsz0
 have hW':=hW
 obtain ⟨p,q,hA0,hV,rfl,hfz,hnd⟩:=hW
 have hA:DataW.TrodAll enc Tryz.prog W 0 (fun _=>true) true Tryz.f5.params.toList args.toList ds p:=hA0
 rw [Tryz.params5] at hA hval hsz
 obtain ⟨v0,vs0,d0,ds0,p0,q0,hargs,rfl,rfl,h0,r0⟩:=trodAll_cons hA
 obtain ⟨v1,vs1,d1,ds1,p1,q1,rfl,rfl,rfl,h1,r1⟩:=trodAll_cons r0
 obtain ⟨rfl,rfl,rfl⟩:=trodAll_nil r1
 obtain rfl:args=#[v0,v1]:=by cases args; simp_all
 obtain ⟨rfl,rfl⟩:=trodVars_none hV
 have k0:=h0
 have lt0:∀ x∈p0,x.block < W.heap.size:=by obtain ⟨m,hm⟩:=k0; exact DataW.trod_lt m _ _ _ hm
 obtain ⟨a0,w0⟩:=open_rows (hval 0 22 v0 rfl rfl) h0 (fun es ss hd=>sized_slice hsz (j:=0) (t:=22) (elems:=es) (spare:=ss) rfl (by rw [hd]; rfl) Tryz.underlying22)
 have k1:=h1
 have lt1:∀ x∈p1,x.block < W.heap.size:=by obtain ⟨m,hm⟩:=k1; exact DataW.trod_lt m _ _ _ hm
 obtain ⟨a1,rfl,-,-⟩:=open_bool Tryz.underlying4 (hval 1 4 v1 rfl rfl) h1
 clear hA0 hval0 hsz0
 refine (engineCalm_walk v0 a0 a1 W w0).mono fun e W' ⟨he,bel⟩=>?_
 subst he
 exact ⟨_,rfl,_,_,_,[],_,[],hW',trodAll_mk1 (shut_bool Tryz.underlying4 _),(trodAll_cons_mk (Below.trod laidOutTrue (by kernel_rfl) (of_decide_eq_true (by kernel_rfl)) k0 bel lt0) (trodAll_cons_mk (Below.trod laidOutTrue (by kernel_rfl) (of_decide_eq_true (by kernel_rfl)) k1 bel lt1) trodAll_mk0)),rfl,bel.frame _,fun h=>by cases h⟩
theorem over:Rows.engineCalmRow.holds Tryz.pinned (OpenSpec.ofChange Rows.engineCalmSpec) :=
 OpenClaim.holds_of_wide 5 Tryz.f5 rfl rfl rfl rfl rfl rfl rfl ⟨rfl,rfl,rfl,rfl,rfl⟩ rfl rfl rfl rfl rfl (by kernel_rfl) Tryz.func5 (by kernel_rfl)
  (of_decide_eq_true (by kernel_rfl)) (by unfold Func.isWrapper; first | (rw [if_pos (by decide +kernel)]; kernel_rfl) | (rw [if_neg (by decide +kernel)]; exact ⟨rfl,rfl⟩))
  (fun os started H enc _=>lifted os started H enc)
end engineCalmLaw
theorem engineCalm_holds:Rows.EngineCalmSaid:=engineCalmLaw.over
#print axioms engineCalm_holds
end Go.Proofs.YtmoahpojchndiaaGreat
