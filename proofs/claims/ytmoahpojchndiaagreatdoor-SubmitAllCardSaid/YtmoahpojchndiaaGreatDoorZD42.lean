/-
  The laws' Oracle, in plain words: all keys that come up, answered. Such answers may be.
-/
import Derived.Test.YtmoahpojchndiaaGreatDoorZD38
import Derived.Test.YtmoahpojchndiaaGreatDoorZD41
import Derived.Test.YtmoahpojchndiaaGreatDoorZD9
import Derived.Test.YtmoahpojchndiaaGreatDoorZD40
set_option maxRecDepth 100000
namespace Go.Proofs.YtmoahpojchndiaaGreatDoor
open Go.RowKit
set_option linter.unusedVariables false
def abcB:ByteArray:=⟨#[97,98,99,100,101,102,103,104,105]⟩
def ansN (f:Fd) (key:Vl):Int:=Int.tmod key.n 9 + 3 * (key.s.size:Int) + (f.name.size:Int)
def ansV (f:Fd) (key:Vl):Vl:=if f.ty=1 then ⟨1,ansN f key,⟨#[]⟩⟩ else if f.ty=2 then ⟨2,cJ (ansN f key) 2,⟨#[]⟩⟩ else ⟨3,0,f.name++abcB.extract 0 (cJ (ansN f key) 9).toNat⟩
theorem word_print {c:UInt8} (h:isWord c=true):32≤c.toNat∧c.toNat≤126:=by
 unfold isWord isLet isDig at h
 simp only [Bool.or_eq_true,decide_eq_true_eq] at h
 omega
theorem name_print {s:ByteArray} (h:rJ s.data.toList):s.size≤10∧∀ i (hi:i < s.size),32≤s[i].toNat∧s[i].toNat≤126:=by
 obtain ⟨-,h2,-,h4,-⟩:=h
 have hsz:s.data.toList.length=s.size:=by simp
 refine ⟨by omega,fun i hi=>?_⟩
 have hg:s.data.toList[i]?=some s[i]:=by
  rw [List.getElem?_eq_getElem (by omega)]
  congr 1
 exact word_print (span_all isWord s.data.toList i s[i] (by omega) hg)
theorem abc_all:∀ i (hi:i < 9),32≤(abcB[i]'hi).toNat∧(abcB[i]'hi).toNat≤126:=by decide
theorem abc_print (k:Nat):(abcB.extract 0 k).size≤9∧∀ i (hi:i < (abcB.extract 0 k).size),32≤(abcB.extract 0 k)[i].toNat∧(abcB.extract 0 k)[i].toNat≤126:=by
 have hs:(abcB.extract 0 k).size=min k abcB.size - 0:=ByteArray.size_extract ..
 have h9:abcB.size=9:=rfl
 refine ⟨by omega,fun i hi=>?_⟩
 rw [ByteArray.getElem_extract]
 have:=abc_all (0 + i) (by omega)
 exact this
theorem known_size {v:Vl} (h:v.known):v.s.size≤40:=by
 rcases h with ⟨-,-,e⟩ | ⟨-,-,e⟩ | ⟨-,-,e,-⟩
 ·rw [e]; decide
 ·rw [e]; decide
 ·exact e
theorem ansN_lo (f:Fd) (key:Vl) (hn:f.name.size≤10) (hk:key.s.size≤40) : -8≤ansN f key∧ansN f key≤138:=by
 have h1:=Int.tmod_lt_of_pos key.n (show (0:Int) < 9 by decide)
 have h2:=Int.lt_tmod_of_pos key.n (show (0:Int) < 9 by decide)
 unfold ansN
 omega
theorem ans_known {fs:List Fd} {f:Fd} (hf:OkF fs f) {key:Vl} (hk:key.known):(ansV f key).known∧(ansV f key).k=f.ty:=by
 obtain ⟨hn,hp⟩:=name_print hf.name
 have hr:=ansN_lo f key hn (known_size hk)
 have t1:=hf.t1
 have t3:=hf.t3
 unfold ansV
 by_cases g1:f.ty=1
 ·rw [if_pos g1]
  exact ⟨.inl ⟨rfl,by show Lim (ansN f key); unfold Lim; omega,rfl⟩,g1.symm⟩
 by_cases g2:f.ty=2
 ·rw [if_neg g1,if_pos g2]
  have p0:=gX (ansN f key) 2 (by omega)
  have p1:=fX (ansN f key) 2 (by omega)
  exact ⟨.inr (.inl ⟨rfl,by show cJ _ _=0∨cJ _ _=1; omega,rfl⟩),g2.symm⟩
 rw [if_neg g1,if_neg g2]
 obtain ⟨ha,hb⟩:=abc_print (cJ (ansN f key) 9).toNat
 generalize abcB.extract 0 (cJ (ansN f key) 9).toNat=t at *
 have hs:(f.name++t).size=f.name.size + t.size:=ByteArray.size_append ..
 refine ⟨.inr (.inr ⟨rfl,rfl,by show (f.name++t).size≤40; omega,fun i hi=>?_⟩),by show (3:Int)=_; omega⟩
 have hi':i < f.name.size + t.size:=by rw [← hs]; exact hi
 show 32≤(f.name++t)[i].toNat∧_
 by_cases hlt:i < f.name.size
 ·rw [ByteArray.getElem_append_left hlt]; exact hp i hlt
 ·rw [ByteArray.getElem_append_right (by omega)]; exact hb _ (by omega)
theorem tyL_congr {f g:ByteArray→Option Int}:∀ {l:List Ex},(∀ y∈l,tyE f y=tyE g y)→tyL f l=tyL g l
 | [],_=>by rw [tyL,tyL]
 | x :: l,h=>by rw [tyL,tyL,h x (by simp),tyL_congr fun y hy=>h y (by simp [hy])]
theorem ty_congr {f g:ByteArray→Option Int} {x:Ex} (h:∀ s∈oX x,f s=g s):tyE f x=tyE g x:=by
 revert h
 refine ex_ind (p:=fun x=>(∀ s∈oX x,f s=g s)→tyE f x=tyE g x) (fun x ih h=>?_) x
 rw [pX] at h
 have hl:tyL f x.args=tyL g x.args:=tyL_congr fun y hy=>ih y hy fun s hs=>h s (List.mem_append_right _ (mem_refsL.2 ⟨y,hy,hs⟩))
 rw [tyE_op,tyE_op,hl]
 by_cases h2:x.op=2
 ·rw [h x.nm (by rw [if_pos h2]; simp)]
 ·unfold tyOp
  simp only [if_neg h2]
abbrev NyV (v:Vl):Prop:=v.k=4∨v.k=5
theorem ny_not:NotYet NyV:=⟨fun _ h=>h,.inr rfl,.inr rfl,.inr rfl⟩
def TyOk (fs:List Fd) (v:List Vl):Prop:=∀ (i:Nat) (f:Fd) (x:Vl),fs[i]?=some f→v[i]?=some x→OfT NyV f.ty x
theorem fcs_env {fs:List Fd} (hok:OkFs fs) {v:List Vl} (hl:v.length=fs.length) (ht:TyOk fs v):∀ s t,tyF fs s=some t→∃ x,(fcs fs v).get s=some x∧OfT NyV t x:=fun s t h=>by
 obtain ⟨i,f,h1,h2,h3⟩:∃ (i:Nat) (f:Fd),fs[i]?=some f∧f.name=s∧f.ty=t:=by
  clear ht hl hok
  induction fs with
  | nil=>cases h
  | cons g l ih =>
   rw [tyF] at h
   by_cases e:(s == g.name)=true
   ·rw [if_pos e] at h
    exact ⟨0,g,rfl,((Go.MapKept.bytes_beq _ _).1 e).symm,Option.some.inj h⟩
   ·rw [if_neg e] at h
    obtain ⟨i,f,h1,h2⟩:=ih h
    exact ⟨i + 1,f,by simpa using h1,h2⟩
 obtain ⟨x,hx⟩:∃ x,v[i]?=some x:=⟨_,List.getElem?_eq_getElem (by rw [hl]; exact (List.getElem?_eq_some_iff.1 h1).1)⟩
 exact ⟨x,h2 ▸ fcs_get hok.nodup h1 hx,h3 ▸ ht i f x h1 hx⟩
theorem tell_ty {fs:List Fd} {inp:Env} (hi:∀ p∈inp,p.2.known) {s:ByteArray} {t:Int} (h1:1≤t) (h3:t≤3) (hk:∀ p∈inp,p.1=s→p.2.k=t):(tellV s t inp).k=t:=by
 induction inp with
 | nil=>rfl
 | cons p l ih =>
  rw [tellV]
  by_cases e:(p.1.toList == s.toList)=true
  ·rw [if_pos e]
   rw [tl_dec,decide_eq_true_iff] at e
   exact hk p (by simp) e
  ·rw [if_neg e]
   exact ih (fun q hq=>hi q (by simp [hq])) fun q hq=>hk q (by simp [hq])
theorem ask_ty {fs:List Fd} (hok:OkFs fs) {orc:List Aw} (ho:OkOrc fs orc) {i:Nat} {f:Fd} (hf:fs[i]?=some f) (key:Vl):OfT NyV f.ty (askL f.name key orc):=by
 have:∀ l:List Aw,(∀ p∈l,p∈orc)→OfT NyV f.ty (askL f.name key l):=fun l=>by
  induction l with
  | nil=>exact fun _=>.inr (.inl rfl)
  | cons p l ih =>
   intro hl
   rw [askL]
   split
   ·rename_i g
    have hp:=ho.each p (hl p (by simp))
    obtain ⟨j,g2,t,h1,h2,-,-,-,h6⟩:=hp.place
    have hn:p.nm=f.name:=by
     unfold Aw.hit at g
     rw [Bool.and_eq_true,tl_dec,decide_eq_true_iff] at g
     exact g.1
    have e1:=gQ hok.nodup h1
    have e2:=gQ hok.nodup hf
    rw [h2,hn,e2] at e1
    have e1:i=j:=by omega
    subst e1
    rw [hf] at h1
    obtain rfl:=Option.some.inj h1
    exact .inl ⟨hp.has,h6⟩
   ·exact ih fun q hq=>hl q (by simp [hq])
 exact this orc fun _ h=>h
def InpTy (fs:List Fd) (inp:Env):Prop:=∀ (i:Nat) (f:Fd),fs[i]?=some f→f.kind=1→∀ p∈inp,p.1=f.name→p.2.k=f.ty
theorem sol_tyG {fs:List Fd} (hok:OkFs fs) {inp:Env} (hi:∀ p∈inp,p.2.known) (hit:InpTy fs inp) {orc:List Aw} (ho:∀ (i:Nat) (f:Fd),fs[i]?=some f→∀ key,OfT NyV f.ty (askL f.name key orc)) {ρ:List Int} {lv:Nat→Nat} (hr:Ranked (lW fs) ρ lv) {v:List Vl} (hv:Sol fs inp orc v) (hvo:∀ x∈v,OkV x):TyOk fs v:=by
 have key:∀ t i,lv i < t→∀ f x,fs[i]?=some f→v[i]?=some x→OfT NyV f.ty x:=fun t=>by
  induction t with
  | zero=>intro i h; omega
  | succ t ih =>
   intro i ht f x hf hx
   have hF:=hok.each f (List.mem_of_getElem? hf)
   have hil:=(List.getElem?_eq_some_iff.1 hf).1
   have hxo:=hvo x (List.mem_of_getElem? hx)
   have e:=hv.at_ i f x hf hx
   unfold oneV at e
   by_cases h1:f.kind=1
   ·rw [if_pos h1] at e
    exact .inl ⟨e ▸ tell_ok hi _ hF.t1 hF.t3,e ▸ tell_ty (fs:=fs) hi hF.t1 hF.t3 (hit i f hf h1)⟩
   ·rw [if_neg h1] at e
    by_cases h3:f.kind=3
    ·rw [if_pos h3] at e
     unfold askV at e
     split at e
     ·rw [e]; exact ho i f hf _
     ·rename_i q
      rw [e] at hxo ⊢
      have:=ok_kinds hxo
      exact .inr (by show _=4∨_=5; omega)
    ·rw [if_neg h3] at e
     have ht2:=hF.form (by have:=hF.k1; have:=hF.k3; omega)
     have hdec:∀ s,Decidable (s∈oX f.src):=fun s=>Classical.propDecidable _
     obtain ⟨t2,env,hsub,hE⟩:∃ (f2:ByteArray→Option Int) (env:Env),tyE f2 f.src=(f.ty,0)∧mK env f.src=mK (fcs fs v) f.src∧∀ s t,f2 s=some t→∃ x,env.get s=some x∧OfT NyV t x:=by
      refine ⟨fun s=>if s∈oX f.src then tyF fs s else none,fcs fs v,?_,rfl,fun s t q=>?_⟩
      ·exact (ty_congr (f:=fun s=>if s∈oX f.src then tyF fs s else none) (g:=tyF fs) (fun s hs=>if_pos hs)).trans ht2
      ·simp only at q
       split at q
       ·rename_i hs
        obtain ⟨j,g,g1,g2,g3⟩:=refs_need hok hf h1 hs
        obtain ⟨l1,l2⟩:=hr.low i (by rw [needsE_len]; exact hil) j g3
        rw [needsE_len] at l1
        obtain ⟨y,hy⟩:∃ y,v[j]?=some y:=⟨_,List.getElem?_eq_getElem (by rw [hv.len]; exact l1)⟩
        have:=ih j (by omega) g y g1 hy
        have hty:tyF fs s=some g.ty:=by rw [← g2]; exact tyF_mem hok.nodup g (List.mem_of_getElem? g1)
        rw [hty] at q
        rw [← Option.some.inj q]
        exact ⟨y,g2 ▸ fcs_get hok.nodup g1 hy,this⟩
       ·cases q
     have:=ty_sound ny_not hE.2 (hF.wf h1).1 hsub
     rw [hE.1] at this
     rw [e]; exact this
 exact fun i f x hf hx=>key (lv i + 1) i (by omega) f x hf hx
theorem sol_ty {fs:List Fd} (hok:OkFs fs) {inp:Env} (hi:∀ p∈inp,p.2.known) (hit:InpTy fs inp) {orc:List Aw} (ho:OkOrc fs orc) {ρ:List Int} {lv:Nat→Nat} (hr:Ranked (lW fs) ρ lv) {v:List Vl} (hv:Sol fs inp orc v) (hvo:∀ x∈v,OkV x):TyOk fs v :=
 sol_tyG hok hi hit (fun i f hf key=>ask_ty hok ho hf key) hr hv hvo
end Go.Proofs.YtmoahpojchndiaaGreatDoor
namespace Go.Proofs.YtmoahpojchndiaaGreatDoor
open Go.RowKit
set_option linter.unusedVariables false
def addO (env:Env) (out:List Aw) (f:Fd):List Aw :=
 if f.kind=3∧(mK env f.src).k≤3∧out.any (fun p=>p.hit f.name (mK env f.src))=false then out++[⟨f.name,mK env f.src,ansV f (mK env f.src)⟩] else out
def roundO (env:Env) (fs:List Fd) (out:List Aw):List Aw:=fs.foldl (addO env) out
def orcL (fs:List Fd) (inp:Env) (os:List Nat):Nat→List Aw
 | 0=>[]
 | r + 1=>roundO (fcs fs (allW fs inp (orcL fs inp os r) os)) fs (orcL fs inp os r)
theorem roundO_snoc (env:Env) (l:List Fd) (f:Fd) (out:List Aw):roundO env (l++[f]) out=addO env (roundO env l out) f:=by unfold roundO; rw [List.foldl_append]; rfl
theorem addO_len (env:Env) (out:List Aw) (f:Fd):(addO env out f).length≤out.length + 1:=by unfold addO; split <;> simp
theorem roundO_len (env:Env):∀ (l:List Fd) (out:List Aw),(roundO env l out).length≤out.length + l.length
 | [],out=>Nat.le_refl _
 | f :: l,out=>by
  have h1:=roundO_len env l (addO env out f)
  have h2:=addO_len env out f
  show (roundO env l (addO env out f)).length≤_
  rw [List.length_cons]; omega
theorem orcL_len (fs:List Fd) (inp:Env) (os:List Nat):∀ r,(orcL fs inp os r).length≤r * fs.length
 | 0=>Nat.zero_le _
 | r + 1=>by
  have h1:=orcL_len fs inp os r
  have h2:=roundO_len (fcs fs (allW fs inp (orcL fs inp os r) os)) fs (orcL fs inp os r)
  show (roundO _ _ _).length≤_
  rw [Nat.succ_mul]; omega
theorem addO_ok {fs:List Fd} (hok:OkFs fs) {env:Env} (he:∀ s t,tyF fs s=some t→∃ x,env.get s=some x∧OfT NyV t x) {out:List Aw} (ho:OkOrc fs out) {i:Nat} {f:Fd} (hf:fs[i]?=some f):OkOrc fs (addO env out f):=by
 unfold addO
 split
 ·rename_i h
  obtain ⟨h3,hk,hn⟩:=h
  have hF:=hok.each f (List.mem_of_getElem? hf)
  obtain ⟨t,-,-,ht⟩:=hF.look h3
  have hkt:=ty_sound ny_not he (hF.wf (by omega)).1 ht
  generalize mK env f.src=key at *
  obtain ⟨k1,k2⟩:key.known∧key.k=t:=by
   rcases hkt with q | q
   ·exact q
   ·have q:key.k=4∨key.k=5:=q
    omega
  obtain ⟨a1,a2⟩:=ans_known hF k1
  refine ⟨fun p hp=>?_,List.pairwise_append.2 ⟨ho.once,List.pairwise_singleton _ _,fun p hp q hq=>?_⟩⟩
  ·rcases List.mem_append.1 hp with q | q
   ·exact ho.each p q
   ·rw [List.mem_singleton.1 q]
    exact ⟨⟨i,f,t,hf,rfl,h3,ht,k2,a2⟩,k1,a1⟩
  ·rw [List.mem_singleton.1 hq]
   rw [List.any_eq_false] at hn
   exact Bool.eq_false_iff.2 (hn p hp)
 ·exact ho
theorem roundO_ok {fs:List Fd} (hok:OkFs fs) {env:Env} (he:∀ s t,tyF fs s=some t→∃ x,env.get s=some x∧OfT NyV t x):∀ (l:List Fd),(∀ f∈l,f∈fs)→∀ (out:List Aw),OkOrc fs out→OkOrc fs (roundO env l out)
 | [],_,_,ho=>ho
 | f :: l,hl,out,ho=>by
  obtain ⟨i,hi⟩:=List.getElem?_of_mem (hl f (by simp))
  exact roundO_ok hok he l (fun g hg=>hl g (by simp [hg])) _ (addO_ok hok he ho hi)
structure Wh (fs:List Fd) (inp:Env) (ρ:List Int) (lv:Nat→Nat) (os:List Nat):Prop where
 ok:OkFs fs
 known:∀ p∈inp,p.2.known
 ty:InpTy fs inp
 ord:Ordd fs ρ lv os
theorem Wh.sol {fs:List Fd} {inp:Env} {ρ:List Int} {lv:Nat→Nat} {os:List Nat} (h:Wh fs inp ρ lv os) {orc:List Aw} (ho:OkOrc fs orc):Sol fs inp orc (allW fs inp orc os)∧∀ x∈allW fs inp orc os,OkV x:=all_sol h.ok h.known ho.has h.ord
theorem Wh.env {fs:List Fd} {inp:Env} {ρ:List Int} {lv:Nat→Nat} {os:List Nat} (h:Wh fs inp ρ lv os) {orc:List Aw} (ho:OkOrc fs orc):∀ s t,tyF fs s=some t→∃ x,(fcs fs (allW fs inp orc os)).get s=some x∧OfT NyV t x:=by
 obtain ⟨h1,h2⟩:=h.sol ho
 exact fcs_env h.ok h1.len (sol_ty h.ok h.known h.ty ho h.ord.rank h1 h2)
theorem Wh.orc {fs:List Fd} {inp:Env} {ρ:List Int} {lv:Nat→Nat} {os:List Nat} (h:Wh fs inp ρ lv os):∀ r,OkOrc fs (orcL fs inp os r)
 | 0=>OkOrc.nil fs
 | r + 1=>roundO_ok h.ok (h.env (h.orc r)) fs (fun _ q=>q) _ (h.orc r)
section
variable {fs:List Fd} {inp:Env} {ρ:List Int} {lv:Nat→Nat} {os:List Nat}
open Classical in
end
end Go.Proofs.YtmoahpojchndiaaGreatDoor
namespace Go.Proofs.YtmoahpojchndiaaGreatDoor
open Go.RowKit
set_option linter.unusedVariables false
theorem orc1_any (p:Aw) (b:Nat) (x:Aw) (h:Vw) (hc:Cells h b 0 (anRow x)):C0 Tryz.prog 87 #[.agg #[.string p.nm,.int .i64 p.key.k,.int .i64 p.key.n,.string p.key.s,.int .i64 p.has.k,.int .i64 p.has.n,.string p.has.s],.pointer (some ⟨b,0,none⟩)] h (fun r _=>r=.bool (p.hit x.nm x.key)):=by
 unfold Aw.hit
 refine sQ Tryz.func87 (c:=Tryz.f87.body.getD .skip) (N:=16) ?_
 intro hbx hbad Q hQ
 refine tQ (hc.sees (Sees.refl _)) ?_
 refine go1 14 [.own,.b 0 0,.f 0 0] [] ?_
 intro b1
 cases boolIs (p.nm.toList == x.nm.toList) with
 | true hq =>
  generalize hg:eqB p.key x.key=g at *
  refine iV 9 (v:=.bool (p.nm.toList == x.nm.toList)) (v':=.bool true) (congrArg Value.bool hq) ?_
  refine go0 4 [.b 0 1,.f 0 1] [] ?_
  refine fV (.bool g) (fun w=>run_eqop (x:=(.tmp 11)) (y:=(.tmp 13)) (v:=p.key) (w:=x.key) (by kernel_rfl) (by kernel_rfl) (by kernel_rfl) (hg)) ?_
  refine go0 5 [] [] ?_
  refine hQ.to [.bool g] (fun H sH=>?_)
  exact congrArg Value.bool (by rw [hq]; rfl)
 | false hq =>
  refine iV 9 (v:=.bool (p.nm.toList == x.nm.toList)) (v':=.bool false) (congrArg Value.bool hq) ?_
  refine go0 10 [] [] ?_
  refine hQ.to [.bool false] (fun H sH=>?_)
  exact congrArg Value.bool (by rw [hq]; rfl)
theorem idxOrc_any (l:List Aw) (A:Option Addr) (cap:Nat) (b:Nat) (x:Aw) (h:Vw) (hr:RS h 7 (.slice A l.length cap) (tJ l)) (hl:l.length≤1000000) (hc:Cells h b 0 (anRow x)) (hno:∀ q∈l,q.hit x.nm x.key=false) :
  C0 Tryz.prog 60 #[.slice A l.length cap,.func (.func 87) #[] #[.pointer (some ⟨b,0,none⟩)]] h (fun r _=>r=.int .i64 (-1)):=by
 generalize hL:l.length=len at *
 refine sQ Tryz.func60 (c:=Tryz.f60.body.getD .skip) (N:=19) ?_
 intro hbx hbad Q hQ
 refine go0 14 [] [] ?_
 refine zQ [0,1,0,1] [.block 0,.seq [1,1]] (fun (k:Nat) X=>∃ (W1:Vw) ,X W1 [(0,.slice A len cap),(1,.func (.func 87) #[] #[Vp b]),(7,Vi (len:Int)),(8,Vi (k:Int))] [] []∧Sees h W1∧(k≤len)) (fun k=>len - k) (0) (fun X q=>⟨h,q _ _ _ _ ⟨rfl,by kernel_rfl⟩,Sees.refl _,Nat.zero_le _⟩) ?_
 rintro k a w ⟨W1,hJ,S2,hk⟩; refine eV hJ ?_; clear hJ a w
 refine go0 6 [] [] ?_
 rcases (by omega:k < len∨k=len) with hlt | hke
 ·obtain ⟨q,hqk⟩:∃ q,l[k]?=some q:=⟨_,List.getElem?_eq_getElem (by omega)⟩
  have hrow:(tJ l)[k]?=some (anRow q):=by rw [List.getElem?_map,hqk]; rfl
  have hq1:=fun H q1=>orc1_any q b x H q1
  rw [hno q (List.mem_of_getElem? hqk)] at hq1
  refine kV (t:=decide ((k:Int) < (len:Int))) (decide_eq_true (by omega)) ?_
  refine go0 15 [] [] ?_
  obtain ⟨b3,o4,rfl,-,c5⟩:=RS.row hr (hrow)
  refine tQ (c5.sees S2) ?_
  refine go0 13 [.ix b3 o4 len cap k,.f 0 0,.cl 87 #[.agg #[.string q.nm,Vi q.key.k,Vi q.key.n,.string q.key.s,Vi q.has.k,Vi q.has.n,.string q.has.s],Vp b] (.bool false)] [(18,Vi (IntKind.i64.wrap ((k:Int) + 1)),Vi ((k:Int) + 1))] ?_ (ho:=(And.intro (by first | omega | (simp; omega)) (And.intro (fun H sH=>hq1 _ (hc.sees (S2.trans sH))) (trivial)))) (hc:=(And.intro (jJ (by omega) (by omega)) (trivial)))
  exact jV (k + 1) (fun X q=>⟨W1,q _ _ _ _ ⟨rfl,by kernel_rfl⟩,S2,by omega⟩) (by omega)
 ·skip
  refine uQ (t:=decide ((k:Int) < (len:Int))) (decide_eq_false (by omega)) ?_
  refine go0 2 [] [] ?_
  refine yQ ?_
  refine go0 8 [] [] ?_
  refine hQ.to [Vi (-1)] (fun H sH=>?_)
  exact rfl
theorem contOrc_any (l:List Aw) (A:Option Addr) (cap:Nat) (b:Nat) (x:Aw) (h:Vw) (hr:RS h 7 (.slice A l.length cap) (tJ l)) (hl:l.length≤1000000) (hc:Cells h b 0 (anRow x)) (hno:∀ q∈l,q.hit x.nm x.key=false) :
  C0 Tryz.prog 39 #[.slice A l.length cap,.func (.func 87) #[] #[.pointer (some ⟨b,0,none⟩)]] h (fun r _=>r=.bool false):=by
 have hi:=fun H q1 q2=>idxOrc_any l A cap b x H q1 hl q2 hno
 refine sQ Tryz.func39 (c:=Tryz.f39.body.getD .skip) (N:=9) ?_
 intro hbx hbad Q hQ
 refine go0 15 [.cl 60 #[.slice A l.length cap,.func (.func 87) #[] #[Vp b]] (Vi (-1))] [] ?_ (ho:=(And.intro (fun H sH=>hi _ (hr.sees sH) (hc.sees sH)) (trivial)))
 refine hQ.to [.bool false] (fun H sH=>?_)
 exact rfl
theorem once_take {l:List Aw} (h:l.Pairwise (fun p q=>p.hit q.nm q.key=false)) {k:Nat} {x:Aw} (hx:l[k]?=some x):∀ q∈l.take k,q.hit x.nm x.key=false:=fun q hq=>by
 obtain ⟨i,hi⟩:=List.getElem?_of_mem hq
 have hik:i < k:=by
  rcases Nat.lt_or_ge i k with g | g
  ·exact g
  ·rw [List.getElem?_eq_none (by rw [List.length_take]; omega)] at hi; cases hi
 rw [List.getElem?_take_of_lt hik] at hi
 obtain ⟨a,ea⟩:=List.getElem?_eq_some_iff.1 hi
 obtain ⟨b,eb⟩:=List.getElem?_eq_some_iff.1 hx
 have:=List.pairwise_iff_getElem.1 h i k a b hik
 rw [ea,eb] at this
 exact this
set_option maxHeartbeats 4000000 in
theorem whOracle_any (fs:List Fd) (hok:OkFs fs) (l:List Aw) (ho:OkOrc fs l) (A:Option Addr) (n c:Nat) (B:Option Addr) (m d:Nat) (so:Value) (h:Vw) (hf:IsFds h (.slice A n c) fs) (hn:n=fs.length) (hr:RS h 7 so (tJ l)) (hl:l.length≤1000) :
  C0 Tryz.prog 62 #[.agg #[.slice A n c,.slice B m d],so] h (fun r _=>r=.int .i64 0):=by
 obtain ⟨vs,A3,c3,e3,-,-,hr3,hs3,hl3,hsl⟩:=cQ hf
 have few:=hok.few
 have hF:=fun H s i q hp=>find_yes fs (.slice A n c) s i H q (by omega) hp
 have hT:=fun H x v q1 q2 q3 q4=>tyOf_any fs x v (.slice A n c) H q1 q2 q3 q4
 simp only [Value.slice.injEq] at e3
 obtain ⟨rfl,-,rfl⟩:=e3
 rw [← hn] at hr3 hl3
 obtain ⟨A0,c0,rfl,hc1,-,-⟩:=hr.form
 rw [List.length_map] at *
 have hC:=fun k H b x q1 q2 q3=>contOrc_any (l.take k) A0 c0 b x H q1 (by rw [List.length_take]; omega) q2 q3
 generalize hL:l.length=len at *
 refine sQ Tryz.func62 (c:=Tryz.f62.body.getD .skip) (N:=83) ?_
 intro hbx hbad Q hQ
 refine go1 15 [.own] [] ?_
 intro b1
 refine zQ [0,1,0,1] [.block 0,.seq [1,1]] (fun (k:Nat) X=>∃ (W2:Vw) ,X W2 [(1,.slice A0 len c0),(2,Vp b1),(13,.slice A0 len c0),(14,Vi (len:Int)),(15,Vi (k:Int))] [.box b1 [.slice A n c,.slice B m d]] []∧Sees h W2∧(k≤len)) (fun k=>len - k) (0) (fun X q=>⟨h,q _ _ _ _ ⟨rfl,by kernel_rfl⟩,Sees.refl _,Nat.zero_le _⟩) ?_
 rintro k a w ⟨W2,hJ,S3,hkl⟩; refine eV hJ ?_; clear hJ a w
 refine go0 6 [] [] ?_
 rcases (by omega:k < len∨k=len) with hlt | hke
 ·obtain ⟨x,hxk⟩:∃ x,l[k]?=some x:=⟨_,List.getElem?_eq_getElem (by omega)⟩
  have hrow:(tJ l)[k]?=some (anRow x):=by rw [List.getElem?_map,hxk]; rfl
  have hno:=once_take ho.once hxk
  have hx:=ho.each x (List.mem_of_getElem? hxk)
  obtain ⟨i,f,t,p1,p2,p3,p4,p5,p6⟩:=hx.place
  have hil:=(List.getElem?_eq_some_iff.1 p1).1
  have hF1:=hok.each f (List.mem_of_getElem? p1)
  obtain ⟨w1,w2,w3⟩:=hF1.wf (by omega)
  obtain ⟨u,hu⟩:∃ u,vs[i]?=some u:=⟨_,List.getElem?_eq_getElem (by omega)⟩
  have hfr:=aQ p1 hu
  have hga:∀ H,AllSrc H fs vs→IsArgs H f.src u:=fun H q=>AllArgs.get q (x:=f.src) (by rw [List.getElem?_map,p1]; rfl) hu
  obtain ⟨Au,nu,cu,rfl⟩:=(hga _ hs3).slice
  have hfd:=gQ hok.nodup p1
  have hF2:=fun H q=>hF H x.nm i q (by rw [← p2]; exact hfd)
  have hT2:=fun H q1 q2=>hT H f.src (.slice Au nu cu) q1 w1 (by omega) q2
  rw [show ofE fs f.src=(t,0) from by unfold ofE; rw [if_pos w3,p4]] at hT2
  have hk1:=fun H=>c_kn x.key.k x.key.n x.key.s H hx.key
  have hk2:=fun H=>check_okv x.has H (.inl hx.has)
  have htl:(l.take k).length=k:=by rw [List.length_take]; omega
  have htr:RS h 7 (.slice A0 k c0) (tJ (l.take k)):=by have:=hr.take k (by rw [List.length_map]; omega); rwa [← List.map_take] at this
  have hC2:=fun H b q1 q2=>hC k H b x q1 q2 hno
  rw [htl] at hC2
  refine kV (t:=decide ((k:Int) < (len:Int))) (decide_eq_true (by omega)) ?_
  refine go0 7 [] [] ?_
  obtain ⟨b4,o5,rfl,-,c6⟩:=RS.row hr (hrow)
  refine tQ (c6.sees S3) ?_
  refine go1 36 [.ix b4 o5 len c0 k,.f 0 0,.own,.b 0 0,.b 1 0,.b 0 0,.cl 20 #[.slice A n c,.string x.nm] (.tuple #[Vi (i:Int),Vi 0]),.b 1 0] [] ?_ (ho:=(And.intro (by first | omega | (simp; omega)) (And.intro (fun H sH=>hF2 _ (hf.sees (S3.trans sH))) (trivial))))
  intro bx
  obtain ⟨b7,o8,rfl,-,c9⟩:=RS.row hr3 (hfr)
  refine tQ (c9.sees S3) ?_
  refine go1 86 [.ix b7 o8 n c i,.f 0 0,.own,.b 0 0,.b 0 1,.b 0 3,.b 2 0,.cl 86 #[.agg #[Vi f.src.op,Vi f.src.k,Vi f.src.n,.string f.src.s,.string f.src.nm,.slice Au nu cu],.slice (some ⟨b7,o8,none⟩) n c] (.tuple #[Vi t,Vi 0]),.b 1 1,.cl 21 #[.agg #[Vi x.key.k,Vi x.key.n,.string x.key.s]] (.bool true),.b 1 1,.b 1 4,.cl 26 #[.agg #[Vi x.has.k,Vi x.has.n,.string x.has.s]] (Vi 0),.b 1 4,.b 0 2] [(38,.bool (f.kind != 3),.bool false),(56,.bool (x.key.k != t),.bool false),(69,.bool (x.has.k != f.ty),.bool false)] ?_ (ho:=(And.intro (by first | omega | (simp; omega)) (And.intro (fun H sH=>hT2 _ (hga _ (hs3.sees (S3.trans sH))) (hf.sees (S3.trans sH))) (And.intro (fun H sH=>hk1 _) (And.intro (fun H sH=>hk2 _) (trivial)))))) (hc:=(And.intro (congrArg Value.bool (by rw [bne_eq_false_iff_eq]; exact p3)) (And.intro (congrArg Value.bool (by rw [bne_eq_false_iff_eq]; exact p5)) (And.intro (congrArg Value.bool (by rw [bne_eq_false_iff_eq]; exact p6)) (trivial)))))
  intro b10
  refine fV (.slice (some ⟨b4,o5,none⟩) k c0) (fun w=>run_hi (t:=33) (e:=56) (x:=(.tmp 77)) (y:=(.tmp 78)) (A:=(some ⟨b4,o5,none⟩)) (n:=len) (cap:=c0) (k:=k) (kk:=7) (by kernel_rfl) (by kernel_rfl) (by kernel_rfl) (by omega) Tryz.underlying33 (by kernel_rfl)) ?_
  refine go0 1 [] [] ?_
  refine g_callq (fun a w hJ=>hC2 _ bx (htr.sees (S3.trans hJ.j.seesQ)) (hJ.j.boxQ (b:=bx) (cs:=[.string x.nm,Vi x.key.k,Vi x.key.n,.string x.key.s,Vi x.has.k,Vi x.has.n,.string x.has.s]) 1 (by kernel_rfl))) ?_; intro W11 S12
  refine go0 10 [] [(82,Vi (IntKind.i64.wrap ((k:Int) + 1)),Vi ((k:Int) + 1))] ?_ (hc:=(And.intro (jJ (by omega) (by omega)) (trivial)))
  exact jV (k + 1) (fun X q=>⟨W11,q _ _ _ _ ⟨rfl,by kernel_rfl⟩,(S3.trans S12),by omega⟩) (by omega)
 ·skip
  refine uQ (t:=decide ((k:Int) < (len:Int))) (decide_eq_false (by omega)) ?_
  refine go0 2 [] [] ?_
  refine yQ ?_
  refine go0 8 [] [] ?_
  refine hQ.to [Vi 0] (fun H sH=>?_)
  exact rfl
end Go.Proofs.YtmoahpojchndiaaGreatDoor
namespace Go.Proofs.YtmoahpojchndiaaGreatDoor
open Go.RowKit
set_option linter.unusedVariables false
theorem fcs_snoc:∀ {fs:List Fd} {vs:List Vl} (f:Fd) (v:Vl),vs.length=fs.length→fcs (fs++[f]) (vs++[v])=fcs fs vs++[(f.name,v)]
 | [],[],f,v,_=>rfl
 | g :: fs,x :: vs,f,v,h=>by
  show _ :: fcs (fs++[f]) (vs++[v])=_
  rw [fcs_snoc f v (by simpa using h)]; rfl
 | [],_ :: _,_,_,h=>by simp at h
 | _ :: _,[],_,_,h=>by simp at h
theorem fcs_ok {fs:List Fd} {vs:List Vl} (h:∀ x∈vs,OkV x):∀ p∈fcs fs vs,OkV p.2:=by
 induction fs generalizing vs with
 | nil=>intro p hp; cases hp
 | cons f fs ih =>
  cases vs with
  | nil=>intro p hp; cases hp
  | cons v vs =>
   intro p hp
   rcases List.mem_cons.1 hp with rfl | hp
   ·exact h v (by simp)
   ·exact ih (fun x hx=>h x (by simp [hx])) p hp
set_option maxHeartbeats 4000000 in
theorem facts_l (fs:List Fd) (va:List Vl) (A:Option Addr) (n c:Nat) (A1:Option Addr) (c1:Nat) (h:Vw) (hf:IsFds h (.slice A n c) fs) (hn:n=fs.length) (few:n≤1000) (ha:RS h 3 (.slice A1 n c1) (qY va)) (la:va.length=n) :
  C0 Tryz.prog 38 #[.slice A n c,.slice A1 n c1] h (fun r h'=>∃ u,r=.slice (sA u) (sN u) (sC u)∧RS h' 7 (.slice (sA u) (sN u) (sC u)) (yK (fcs fs va))):=by
 obtain ⟨vs,A',c',e,-,-,hr,hs,hvl,hsl⟩:=cQ hf
 simp only [Value.slice.injEq] at e
 obtain ⟨rfl,-,rfl⟩:=e
 rw [← hn] at hr hvl
 have hfl:=fun k (q:k≤n)=>fcs_len (fs:=fs.take k) (v:=va.take k) (by simp; omega)
 refine sQ Tryz.func38 (c:=Tryz.f38.body.getD .skip) (N:=31) ?_
 intro hbx hbad Q hQ
 refine go0 19 [] [] ?_
 refine dV 56 7 ?_
 refine zQ [0,1,0,1,1] [.block 0,.seq [1,1,1]] (fun (k:Nat) X=>∃ (W1:Vw) (v:Value),X W1 [(1,.slice A1 n c1),(8,.slice A n c),(9,Vi (n:Int)),(10,Vi (k:Int)),(5,v)] [.row v 56 7 (yK (fcs (fs.take k) (va.take k)))] []∧Sees h W1∧(k≤n)) (fun k=>n - k) (0) (fun X q=>⟨h,(Vz),q _ _ _ _ ⟨rfl,by kernel_rfl⟩,Sees.refl _,Nat.zero_le _⟩) ?_
 rintro k a w ⟨W1,v,hJ,S2,hk⟩; refine eV hJ ?_; clear hJ a w
 refine go0 6 [] [] ?_
 rcases (by omega:k < n∨k=n) with hlt | hke
 ·obtain ⟨x,hx⟩:∃ x,fs[k]?=some x:=⟨_,List.getElem?_eq_getElem (by omega)⟩
  obtain ⟨u,hu⟩:∃ u,vs[k]?=some u:=⟨_,List.getElem?_eq_getElem (by omega)⟩
  obtain ⟨xa,hxa⟩:∃ y,va[k]?=some y:=⟨_,List.getElem?_eq_getElem (by omega)⟩
  have hrow:=aQ hx hu
  have hra:=vlRows_get hxa
  obtain ⟨Au,nu,cu,rfl⟩:=(AllArgs.get hs (x:=x.src) (by rw [List.getElem?_map,hx]; rfl) hu).slice
  have hsn:=fcs_snoc (fs:=fs.take k) (vs:=va.take k) x xa (by simp; omega)
  rw [← nY _ k x hx,← nY _ k xa hxa] at hsn
  have hl2:=hfl k hk
  rw [List.length_take] at hl2
  have hl3:(yK (fcs (fs.take k) (va.take k))).length=(fcs (fs.take k) (va.take k)).length:=List.length_map _
  refine kV (t:=decide ((k:Int) < (n:Int))) (decide_eq_true (by omega)) ?_
  refine go0 7 [] [] ?_
  obtain ⟨b3,o4,rfl,-,c5⟩:=RS.row hr (hrow)
  refine tQ (c5.sees S2) ?_
  refine go1 16 [.ix b3 o4 n c k,.f 0 0,.own,.b 0 0] [(18,.bool (decide ((k:Int) < (n:Int))),.bool true)] ?_ (ho:=(And.intro (by first | omega | (simp; omega)) (trivial))) (hc:=(And.intro (congrArg Value.bool (decide_eq_true (by omega))) (trivial)))
  intro b6
  obtain ⟨b7,o8,rfl,-,c9⟩:=RS.row ha (hra)
  refine tQ (c9.sees S2) ?_
  refine gV 11 0 [.pu,.pu,.ld 0 0,.pu,.pu,.v (fun gh=>.pointer (some ⟨b7,o8 + k * 3,none⟩)),.lf 0 0,.pu,.f (fun gh=>.slice (some ⟨(wJ (gh 8)),0,none⟩) 1 1) (fun gh hh=>Cells hh (wJ (gh 8)) 0 [.string x.name,Vi 0,Vi 0,Ve,Vi xa.k,Vi xa.n,.string xa.s]),.e (fun gh=>.slice (sA (gh 9)) (sN (gh 9)) (sC (gh 9))) 1 (fun gh=>.row (.slice (sA (gh 9)) (sN (gh 9)) (sC (gh 9))) 56 7 ((yK (fcs (fs.take k) (va.take k)))++[[.string x.name,Vi 0,Vi 0,Ve,Vi xa.k,Vi xa.n,.string xa.s]])),.pu] [(8,true),(9,false)] (And.intro (fun _ _ _ s c=>c.sees s) (trivial)) ?_ ?_
  ·intro R hT hA hmono
   refine And.intro (mY hT hA b7 o8 n c1 k (fun gh=>.pointer (some ⟨b7,o8 + k * 3,none⟩)) (by first | omega | (simp; omega))) ?_
   refine And.intro (r_fact hT hA hmono ⟨fun _ _=>by kernel_rfl,fun _ _=>by kernel_rfl,fun _ _=>by kernel_rfl⟩ 27 (fun g=>Vs g 1 1) [7] 8 (by kernel_rfl) (by kernel_rfl) (fun _=>by kernel_rfl) (fun gh=>[.string x.name,Vi 0,Vi 0,Ve,Vi xa.k,Vi xa.n,.string xa.s]) 56 (fun _ _=>by kernel_rfl) (fun gh zb zH zc zj zq zhq zhe=>own_fact (i:=8) (k:=0) (f:=fun gh hh=>Cells hh (wJ (gh 8)) 0 [.string x.name,Vi 0,Vi 0,Ve,Vi xa.k,Vi xa.n,.string xa.s]) (by kernel_rfl) (by kernel_rfl) zc zj zq zhq zhe)) ?_
   refine And.intro (kX hT hA hmono ⟨fun _ _=>by kernel_rfl,fun _ _=>by kernel_rfl,fun _ _=>by kernel_rfl⟩ 28 [0,8] 9 1 (GN R 1) (fun gh=>v) 33 56 7 (fun gh=>yK (fcs (fs.take k) (va.take k))) (fun gh=>[[.string x.name,Vi 0,Vi 0,Ve,Vi xa.k,Vi xa.n,.string xa.s]]) (.tmp 19) (.tmp 27) (fun gh=>(wJ (gh 8))) 1 1 0 8 (fun gh hh=>Cells hh (wJ (gh 8)) 0 [.string x.name,Vi 0,Vi 0,Ve,Vi xa.k,Vi xa.n,.string xa.s]) (fun _ _ c=>c) Tryz.underlying33 (zv:=.agg #[Ve,Vi 0,Vi 0,Ve,Vi 0,Vi 0,Ve]) (bytes:=80) (fun _=>by constructor <;> (simp; omega))) ?_
   trivial
  rintro b11 v28 W12 S13 ⟨f10,-⟩
  replace f10:Cells W12 b11 0 [.string x.name,Vi 0,Vi 0,Ve,Vi xa.k,Vi xa.n,.string xa.s]:=f10
  refine tQ f10 ?_
  refine go0 6 [] [(29,Vi (IntKind.i64.wrap ((k:Int) + 1)),Vi ((k:Int) + 1))] ?_ (hc:=(And.intro (jJ (by omega) (by omega)) (trivial)))
  refine xQ [(1,.slice (some ⟨b7,o8,none⟩) n c1),(8,.slice (some ⟨b3,o4,none⟩) n c),(9,Vi (n:Int)),(5,.slice (sA v28) (sN v28) (sC v28)),(10,Vi ((k:Int) + 1))] [.row (.slice (sA v28) (sN v28) (sC v28)) 56 7 ((yK (fcs (fs.take k) (va.take k)))++[[.string x.name,Vi 0,Vi 0,Ve,Vi xa.k,Vi xa.n,.string xa.s]])] [] ?_
  exact jV (k + 1) (fun X q=>⟨W12,.slice (sA v28) (sN v28) (sC v28),q _ _ _ _ (fY (by rw [hsn,fcRows_snoc]; try rfl)),(S2.trans S13),by omega⟩) (by omega)
 ·skip
  have t1:fs.take k=fs:=by rw [hke,hn,List.take_length]
  have t2:va.take k=va:=by rw [hke,← la,List.take_length]
  rw [t1,t2]
  have hrl:(yK (fcs fs va)).length=(fcs fs va).length:=List.length_map _
  refine vQ 0 (v:=v) (e:=56) (kk:=7) (l:=yK (fcs fs va)) ?_; intro Ar cr hE_v hc_v hm_v
  rw [show (yK (fcs fs va)).length=(fcs fs va).length from by first | omega | (simp; done) | (simp; omega)] at hE_v hc_v
  rw [hE_v]
  refine uQ (t:=decide ((k:Int) < (n:Int))) (decide_eq_false (by omega)) ?_
  refine go0 2 [] [] ?_
  refine yQ ?_
  refine go0 9 [] [] ?_
  refine xQ [(4,.slice Ar ((fcs fs va).length) cr)] [.row (.slice Ar ((fcs fs va).length) cr) 56 7 (yK (fcs fs va))] [] ?_
  refine hQ.toJ [.slice Ar ((fcs fs va).length) cr] [] (fun a w hJ=>?_)
  have fr:=hJ.j.rowOut0 (v:=.slice Ar ((fcs fs va).length) cr) (e:=56) (k:=7) (l:=yK (fcs fs va)) 0 (by kernel_rfl) rfl
  exact ⟨.slice Ar (fcs fs va).length cr,rfl,fr⟩
theorem run_rem9 {P:Program} {t:TypeId} (a:Int) (w:World):(binOp .rem t (.int .i64 a) (.int .i64 9)).run P w=.ok (.int .i64 (Int.tmod a 9)) w:=by
 simp [binOp,Op.intDiv]
theorem run_hiS {P:Program} {o:Oper} {ρ:Operand→Value} {t:TypeId} {x y:Operand} {s:ByteArray} {k:Int} (w:World) (ho:o.op=.slice t x none (some y) none) (hx:ρ x=.string s) (hy:ρ y=.int .i64 k) (h0:0≤k) (hk:k≤s.size) (ht:P.underlying t=some .string) :
  (execOp ρ o).run P w=.ok (.value (.string (s.extract 0 k.toNat))) w:=by
 unfold execOp
 simp only [ho,hx,hy,Option.map_some,Option.map_none]
 simp [run_sliceAt_string (w:=w) t _ _ _ _ ht,run_slice_string_h (w:=w) t s ht .i64 k h0 hk]
set_option maxHeartbeats 4000000 in
theorem answered_any (f:Fd) (A:Option Addr) (n c:Nat) (key:Vl) (h:Vw) (hn:f.name.size≤10) (hk:key.s.size≤40) (t1:1≤f.ty) (t3:f.ty≤3):C0 Tryz.prog 41 #[.agg #[.string f.name,.int .i64 f.kind,.int .i64 f.ty,.int .i64 f.src.op,.int .i64 f.src.k,.int .i64 f.src.n,.string f.src.s,.string f.src.nm,.slice A n c],.agg #[.int .i64 key.k,.int .i64 key.n,.string key.s]] h (fun r _=>r=(ansV f key).val):=by
 have hr:=ansN_lo f key hn hk
 have hp2:=fun H=>zJ (ansN f key) 2 H (by omega) (by omega) (by omega) (by omega)
 have hp9:=fun H=>zJ (ansN f key) 9 H (by omega) (by omega) (by omega) (by omega)
 have p0:=gX (ansN f key) 9 (by omega)
 have p1:=fX (ansN f key) 9 (by omega)
 have habc:abcB.size=9:=rfl
 have e:ansN f key=Int.tmod key.n 9 + 3 * (key.s.size:Int) + (f.name.size:Int):=rfl
 have hs0:(0:Int)≤(key.s.size:Int):=Int.natCast_nonneg _
 have hrem:key.n % 9=key.n % 9:=rfl
 obtain g | g | g:f.ty=1∨f.ty=2∨f.ty=3:=by omega
 ·have ea:ansV f key=⟨1,ansN f key,⟨#[]⟩⟩:=by unfold ansV; rw [if_pos g]
  rw [ea]
  generalize ansN f key=N at *
  refine sQ Tryz.func41 (c:=Tryz.f41.body.getD .skip) (N:=36) ?_
  intro hbx hbad Q hQ
  refine go3 11 [.own,.own,.own,.b 1 1] [] ?_
  intro b1 b2 b3
  refine fV (Vi (Int.tmod key.n 9)) (fun w=>xX (op:=.rem) (t:=3) (x:=(.tmp 7)) (y:=(.const (Vi 9))) (yt:=3) (by kernel_rfl) (by kernel_rfl) (by kernel_rfl) (by kernel_rfl) (run_rem9 key.n w)) ?_
  refine go0 37 [.b 1 2,.b 2 0,.b 2 2,.b 0 0] [(12,Vi (IntKind.i64.wrap (3 * (key.s.size:Int))),Vi (3 * (key.s.size:Int))),(13,Vi (IntKind.i64.wrap (Int.tmod key.n 9 + (3 * (key.s.size:Int)))),Vi (Int.tmod key.n 9 + (3 * (key.s.size:Int)))),(17,Vi (IntKind.i64.wrap ((Int.tmod key.n 9 + (3 * (key.s.size:Int))) + (f.name.size:Int))),Vi N),(21,.bool (f.ty == 1),.bool true)] ?_ (hc:=(And.intro (jJ (by omega) (by omega)) (And.intro (jJ (by omega) (by omega)) (And.intro ((jJ (by omega) (by omega)).trans (congrArg (Value.int .i64) e.symm)) (And.intro (congrArg Value.bool (beq_iff_eq.2 g)) (trivial))))))
  refine hQ.to [.agg #[Vi 1,Vi N,Ve]] (fun H sH=>?_) (ix:=[0])
  exact rfl
 ·have ea:ansV f key=⟨2,cJ (ansN f key) 2,⟨#[]⟩⟩:=by unfold ansV; rw [if_neg (by omega),if_pos g]
  rw [ea]
  generalize ansN f key=N at *
  refine sQ Tryz.func41 (c:=Tryz.f41.body.getD .skip) (N:=36) ?_
  intro hbx hbad Q hQ
  refine go3 11 [.own,.own,.own,.b 1 1] [] ?_
  intro b1 b2 b3
  refine fV (Vi (Int.tmod key.n 9)) (fun w=>xX (op:=.rem) (t:=3) (x:=(.tmp 7)) (y:=(.const (Vi 9))) (yt:=3) (by kernel_rfl) (by kernel_rfl) (by kernel_rfl) (by kernel_rfl) (run_rem9 key.n w)) ?_
  refine go0 45 [.b 1 2,.b 2 0,.b 2 2,.cl 32 #[Vi N,Vi 2] (Vi (cJ N 2)),.b 0 0] [(12,Vi (IntKind.i64.wrap (3 * (key.s.size:Int))),Vi (3 * (key.s.size:Int))),(13,Vi (IntKind.i64.wrap (Int.tmod key.n 9 + (3 * (key.s.size:Int)))),Vi (Int.tmod key.n 9 + (3 * (key.s.size:Int)))),(17,Vi (IntKind.i64.wrap ((Int.tmod key.n 9 + (3 * (key.s.size:Int))) + (f.name.size:Int))),Vi N),(21,.bool (f.ty == 1),.bool false),(25,.bool (f.ty == 2),.bool true)] ?_ (ho:=(And.intro (fun H sH=>hp2 _) (trivial))) (hc:=(And.intro (jJ (by omega) (by omega)) (And.intro (jJ (by omega) (by omega)) (And.intro ((jJ (by omega) (by omega)).trans (congrArg (Value.int .i64) e.symm)) (And.intro (congrArg Value.bool (beq_eq_false_iff_ne.2 (by omega))) (And.intro (congrArg Value.bool (beq_iff_eq.2 g)) (trivial)))))))
  refine hQ.to [.agg #[Vi 2,Vi (cJ N 2),Ve]] (fun H sH=>?_) (ix:=[0])
  exact rfl
 ·have ea:ansV f key=⟨3,0,f.name++abcB.extract 0 (cJ (ansN f key) 9).toNat⟩:=by unfold ansV; rw [if_neg (by omega),if_neg (by omega)]
  rw [ea]
  have hcut:=fun (ρ:Operand→Value) (o:Oper) (x y:Operand) (w:World) q1 q2 q3=>run_hiS (P:=Tryz.prog) (o:=o) (ρ:=ρ) (t:=9) (x:=x) (y:=y) (s:=abcB) (k:=cJ (ansN f key) 9) w q1 q2 q3 p0 (by rw [habc]; omega) Tryz.underlying9
  generalize ansN f key=N at *
  generalize cJ N 9=q at *
  have hcs:=(abc_print q.toNat).1
  refine sQ Tryz.func41 (c:=Tryz.f41.body.getD .skip) (N:=36) ?_
  intro hbx hbad Q hQ
  refine go3 11 [.own,.own,.own,.b 1 1] [] ?_
  intro b1 b2 b3
  refine fV (Vi (Int.tmod key.n 9)) (fun w=>xX (op:=.rem) (t:=3) (x:=(.tmp 7)) (y:=(.const (Vi 9))) (yt:=3) (by kernel_rfl) (by kernel_rfl) (by kernel_rfl) (by kernel_rfl) (run_rem9 key.n w)) ?_
  refine go0 38 [.b 1 2,.b 2 0,.b 2 2] [(12,Vi (IntKind.i64.wrap (3 * (key.s.size:Int))),Vi (3 * (key.s.size:Int))),(13,Vi (IntKind.i64.wrap (Int.tmod key.n 9 + (3 * (key.s.size:Int)))),Vi (Int.tmod key.n 9 + (3 * (key.s.size:Int)))),(17,Vi (IntKind.i64.wrap ((Int.tmod key.n 9 + (3 * (key.s.size:Int))) + (f.name.size:Int))),Vi N),(21,.bool (f.ty == 1),.bool false),(25,.bool (f.ty == 2),.bool false)] ?_ (hc:=(And.intro (jJ (by omega) (by omega)) (And.intro (jJ (by omega) (by omega)) (And.intro ((jJ (by omega) (by omega)).trans (congrArg (Value.int .i64) e.symm)) (And.intro (congrArg Value.bool (beq_eq_false_iff_ne.2 (by omega))) (And.intro (congrArg Value.bool (beq_eq_false_iff_ne.2 (by omega))) (trivial)))))))
  refine gV 8 0 [.pu,.ld 2 0,.pu,.v (fun gh=>Vi q),.v (fun gh=>.string (abcB.extract 0 q.toNat)),.v (fun gh=>.string (f.name++abcB.extract 0 q.toNat)),.pu,.st 0 0] [] (trivial) ?_ ?_
  ·intro R hT hA hmono
   refine And.intro (t_v hT hA hmono (k:=32) (args:=(fun gh=>#[Vi N,Vi 9])) (f:=fun gh=>Vi q) (fun gh H sH fH lent=>hp9 _)) ?_
   refine And.intro (t_p hT hA (fun gh=>.string (abcB.extract 0 q.toNat)) (fun gh w=>hcut _ _ (.const (.string abcB)) (.tmp 32) w (by kernel_rfl) (by kernel_rfl) (by kernel_rfl))) ?_
   refine And.intro (t_p hT hA (fun gh=>.string (f.name++abcB.extract 0 q.toNat)) (fun gh w=>xX (op:=.add) (t:=9) (x:=(.tmp 30)) (y:=(.tmp 33)) (yt:=9) (by kernel_rfl) (by kernel_rfl) (by kernel_rfl) (by kernel_rfl) (run_cat (by omega)))) ?_
   trivial
  rintro W4 S5 -
  refine go0 2 [] [] ?_
  refine hQ.to [.agg #[Vi 3,Vi 0,.string (f.name++abcB.extract 0 q.toNat)]] (fun H sH=>?_) (ix:=[0])
  exact rfl
end Go.Proofs.YtmoahpojchndiaaGreatDoor
namespace Go.Proofs.YtmoahpojchndiaaGreatDoor
open Go.RowKit
set_option linter.unusedVariables false
section
variable {P:Program} {C:Fx} {E:List (Nat × Value)} {B:List Ent} {F:List Fac} {h:Vw} {a:Act} {w w':World} {Q:Exit→Act→World→Prop} {c0:Code} {p:List Nat} {n:Nat} {ks:List Kt}
theorem x_callownq {f:FuncId} {args:Array Value} {e:TypeId} {kk:Nat} {R:Value→Value→List (List Value)→Prop} (hK:K C E B F h a w) (d:Nat) (hc:C0 P f args ⟨w,[]⟩ (fun v h'=>∃ u l,Ent.ok w.heap.size h'.w (.row u e kk l)∧R v u l)) (hk:∀ w,callAt P C E (vW c0 p) ((vW c0 p).toList.drop n) d w=[.b true,.r (.ok (.enter f args) w)])
  (k:∀ v u l h' a w,Sees h h'→R v u l→K C ((d,v) :: E) (.row u e kk l :: B) F h' a w→Goal P c0 Q (.ops p (n + 1)) ks a w):Goal P c0 Q (.ops p n) ks a w:=by
 obtain ⟨o,r,hl,hg,hd,hlt,hkn,hrun⟩:=aK hk
 have hr:=kK hl
 refine mJ hl (nQ hK.j.fits hg) (wpList_plain rfl fun KK hKK=>?_)
 unfold Oper.wp
 have hrun':∀ w,(execOp (evD E) { o with guard:=none }).run P w=.ok (.enter f args) w:=fun w=>by
  have:=hrun w
  unfold execOp at this ⊢
  exact this
 rw [zX (o:={ o with guard:=none }) hK.j.fits hkn,hrun']
 refine (hc (by intro x hx; cases hx) (by simp) (by simp) (by intro b hb; cases hb)).mono ?_
 rintro e' w' ⟨v,Bo,rfl,hlo,-,-,u,l,hok,hR⟩
 refine hKK _ _ ?_
 rw [hr]
 have j1:=(hK.j.addRow hlo hok).putd v hd hlt
 exact k v u l _ _ _ j1.sees hR ⟨j1.now,hK.facs j1.sees⟩
theorem g_callownq {s:Z} {f:FuncId} {args:Array Value} {e:TypeId} {kk:Nat} {R:Value→Value→List (List Value)→Prop} (hc:∀ a w,K C s.E s.B s.F h a w→C0 P f args ⟨w,[]⟩ (fun v h'=>∃ u l,Ent.ok w.heap.size h'.w (.row u e kk l)∧R v u l))
  (k:∀ v u l h',Sees h h'→R v u l→Go P C c0 Q h' ((s.nx c0 v).aB (.row u e kk l))) (hk:s.callOk P C c0 f args:=by intro _; kernel_rfl):Go P C c0 Q h s :=
 g_ops (bK hk).1 fun a w hK=>x_callownq hK (s.d c0) (hc a w hK) (bK hk).2 fun v u l h' a w s' r hK'=>(k v u l h' s' r).go a w hK'
end
theorem keep1_any (p:Aw) (x:Fd) (A:Option Addr) (n c:Nat) (key:Vl) (b d:Nat) (h:Vw) (hc:Cells h b 0 [.string x.name,.int .i64 x.kind,.int .i64 x.ty,.int .i64 x.src.op,.int .i64 x.src.k,.int .i64 x.src.n,.string x.src.s,.string x.src.nm,.slice A n c]) (hd:Cells h d 0 [.int .i64 key.k,.int .i64 key.n,.string key.s]):C0 Tryz.prog 40 #[.agg #[.string p.nm,.int .i64 p.key.k,.int .i64 p.key.n,.string p.key.s,.int .i64 p.has.k,.int .i64 p.has.n,.string p.has.s],.pointer (some ⟨b,0,none⟩),.pointer (some ⟨d,0,none⟩)] h (fun r _=>r=.bool (p.hit x.name key)):=by
 unfold Aw.hit
 refine sQ Tryz.func40 (c:=Tryz.f40.body.getD .skip) (N:=16) ?_
 intro hbx hbad Q hQ
 refine tQ (hc.sees (Sees.refl _)) ?_
 refine tQ (hd.sees (Sees.refl _)) ?_
 refine go1 14 [.own,.b 0 0,.f 1 0] [] ?_
 intro b1
 cases boolIs (p.nm.toList == x.name.toList) with
 | true hq =>
  generalize hg:eqB p.key key=g at *
  refine iV 10 (v:=.bool (p.nm.toList == x.name.toList)) (v':=.bool true) (congrArg Value.bool hq) ?_
  refine go0 3 [.b 0 1,.f 0 0] [] ?_
  refine fV (.bool g) (fun w=>run_eqop (x:=(.tmp 12)) (y:=(.tmp 13)) (v:=p.key) (w:=key) (by kernel_rfl) (by kernel_rfl) (by kernel_rfl) (hg)) ?_
  refine go0 5 [] [] ?_
  refine hQ.to [.bool g] (fun H sH=>?_)
  exact congrArg Value.bool (by rw [hq]; rfl)
 | false hq =>
  refine iV 10 (v:=.bool (p.nm.toList == x.name.toList)) (v':=.bool false) (congrArg Value.bool hq) ?_
  refine go0 9 [] [] ?_
  refine hQ.to [.bool false] (fun H sH=>?_)
  exact congrArg Value.bool (by rw [hq]; rfl)
theorem idxKeep_any (l:List Aw) (v:Value) (x:Fd) (A:Option Addr) (n c:Nat) (key:Vl) (b d:Nat) (h:Vw) (hr:RS h 7 v (tJ l)) (hl:l.length≤1000000) (hc:Cells h b 0 [.string x.name,.int .i64 x.kind,.int .i64 x.ty,.int .i64 x.src.op,.int .i64 x.src.k,.int .i64 x.src.n,.string x.src.s,.string x.src.nm,.slice A n c]) (hd:Cells h d 0 [.int .i64 key.k,.int .i64 key.n,.string key.s]) :
  C0 Tryz.prog 60 #[v,.func (.func 40) #[] #[.pointer (some ⟨b,0,none⟩),.pointer (some ⟨d,0,none⟩)]] h (fun r _=>r=.int .i64 (fidx (fun q:Aw=>q.hit x.name key) l)):=by
 obtain ⟨Al,cap,rfl,-,-,-⟩:=hr.form
 rw [List.length_map] at *
 generalize hL:l.length=len at *
 refine sQ Tryz.func60 (c:=Tryz.f60.body.getD .skip) (N:=19) ?_
 intro hbx hbad Q hQ
 refine go0 14 [] [] ?_
 refine zQ [0,1,0,1] [.block 0,.seq [1,1]] (fun (k:Nat) X=>∃ (W1:Vw) ,X W1 [(0,.slice Al len cap),(1,.func (.func 40) #[] #[Vp b,Vp d]),(7,Vi (len:Int)),(8,Vi (k:Int))] [] []∧Sees h W1∧(k≤len)∧(∀ y∈l.take k,y.hit x.name key=false)) (fun k=>len - k) (0) (fun X q=>⟨h,q _ _ _ _ ⟨rfl,by kernel_rfl⟩,Sees.refl _,Nat.zero_le _,fun y hy=>by simp at hy⟩) ?_
 rintro k a w ⟨W1,hJ,S2,hk,hn⟩; refine eV hJ ?_; clear hJ a w
 refine go0 6 [] [] ?_
 rcases (by omega:k < len∨k=len) with hlt | hke
 ·obtain ⟨f,hfk⟩:∃ f,l[k]?=some f:=⟨_,List.getElem?_eq_getElem (by omega)⟩
  have hrow:(tJ l)[k]?=some (anRow f):=by rw [List.getElem?_map,hfk]; rfl
  generalize hq:f.hit x.name key=q at *
  have hq1:=fun H q1 q2=>keep1_any f x A n c key b d H q1 q2
  rw [hq] at hq1
  refine kV (t:=decide ((k:Int) < (len:Int))) (decide_eq_true (by omega)) ?_
  refine go0 15 [] [] ?_
  obtain ⟨b3,o4,rfl,-,c5⟩:=RS.row hr (hrow)
  refine tQ (c5.sees S2) ?_
  refine go0 5 [.ix b3 o4 len cap k,.f 0 0,.cl 40 #[.agg #[.string f.nm,Vi f.key.k,Vi f.key.n,.string f.key.s,Vi f.has.k,Vi f.has.n,.string f.has.s],Vp b,Vp d] (.bool q)] [] ?_ (ho:=(And.intro (by first | omega | (simp; omega)) (And.intro (fun H sH=>hq1 _ (hc.sees (S2.trans sH)) (hd.sees (S2.trans sH))) (trivial))))
  rcases Bool.eq_false_or_eq_true q with hh | hh
  ·refine kV (t:=q) (hh) ?_
   refine go0 9 [] [] ?_
   refine yQ ?_
   refine go0 2 [] [] ?_
   refine hQ.to [Vi (k:Int)] (fun H sH=>?_)
   exact congrArg (Value.int .i64) (dQ _ l k f hn hfk (hq.trans hh)).symm
  ·skip
   refine uQ (t:=q) (hh) ?_
   refine go0 7 [] [(18,Vi (IntKind.i64.wrap ((k:Int) + 1)),Vi ((k:Int) + 1))] ?_ (hc:=(And.intro (jJ (by omega) (by omega)) (trivial)))
   exact jV (k + 1) (fun X q=>⟨W1,q _ _ _ _ ⟨rfl,by kernel_rfl⟩,S2,by omega,(by rw [nY l k f hfk]; exact fun y hy=>(List.mem_append.1 hy).elim (hn y) (fun e=>by rw [List.mem_singleton.1 e]; exact hq.trans hh))⟩) (by omega)
 ·skip
  have htk:l.take k=l:=by rw [hke,← hL,List.take_length]
  rw [htk] at hn
  refine uQ (t:=decide ((k:Int) < (len:Int))) (decide_eq_false (by omega)) ?_
  refine go0 2 [] [] ?_
  refine yQ ?_
  refine go0 8 [] [] ?_
  refine hQ.to [Vi (-1)] (fun H sH=>?_)
  exact congrArg (Value.int .i64) (eQ _ l hn).symm
theorem contKeep_any (l:List Aw) (v:Value) (x:Fd) (A:Option Addr) (n c:Nat) (key:Vl) (b d:Nat) (h:Vw) (hr:RS h 7 v (tJ l)) (hl:l.length≤1000000) (hc:Cells h b 0 [.string x.name,.int .i64 x.kind,.int .i64 x.ty,.int .i64 x.src.op,.int .i64 x.src.k,.int .i64 x.src.n,.string x.src.s,.string x.src.nm,.slice A n c]) (hd:Cells h d 0 [.int .i64 key.k,.int .i64 key.n,.string key.s]) :
  C0 Tryz.prog 39 #[v,.func (.func 40) #[] #[.pointer (some ⟨b,0,none⟩),.pointer (some ⟨d,0,none⟩)]] h (fun r _=>r=.bool (l.any (fun q=>q.hit x.name key))):=by
 have hi:=fun H q1 q2 q3=>idxKeep_any l v x A n c key b d H q1 hl q2 q3
 have e:=fidx_dec (fun q:Aw=>q.hit x.name key) l
 obtain ⟨Al,cap,rfl,-,-,-⟩:=hr.form
 generalize fidx (fun q:Aw=>q.hit x.name key) l=p at *
 refine sQ Tryz.func39 (c:=Tryz.f39.body.getD .skip) (N:=9) ?_
 intro hbx hbad Q hQ
 refine go0 15 [.cl 60 #[.slice Al ((tJ l).length) cap,.func (.func 40) #[] #[Vp b,Vp d]] (Vi p)] [] ?_ (ho:=(And.intro (fun H sH=>hi _ (hr.sees sH) (hc.sees sH) (hd.sees sH)) (trivial)))
 refine hQ.to [.bool (decide (p ≥ 0))] (fun H sH=>?_)
 exact congrArg Value.bool e
theorem addO_eq (env:Env) (out:List Aw) (f:Fd):addO env out f=if f.kind=3 then (if (mK env f.src).k≤3∧out.any (fun p=>p.hit f.name (mK env f.src))=false then out++[⟨f.name,mK env f.src,ansV f (mK env f.src)⟩] else out) else out:=by
 unfold addO
 by_cases h3:f.kind=3
 ·rw [if_pos h3]
  by_cases g:(mK env f.src).k≤3∧out.any (fun p=>p.hit f.name (mK env f.src))=false
  ·rw [if_pos ⟨h3,g⟩,if_pos g]
  ·rw [if_neg (fun q=>g q.2),if_neg g]
 ·rw [if_neg (fun q=>h3 q.1),if_neg h3]
theorem anRows_snoc (l:List Aw) (p:Aw):tJ (l++[p])=tJ l++[anRow p]:=by simp [tJ]
set_option maxHeartbeats 8000000 in
theorem oracle_l (f:Fm) (ρ:List Int) (lv:Nat→Nat) (A:Option Addr) (n c:Nat) (B:Option Addr) (m d:Nat) (inp:Env) (si:Value) (h:Vw) (hok:OkFm f ρ lv) (hf:IsForm h (.slice A n c) (.slice B m d) f) (hn:n=f.fields.length) (h1:1≤n)
  (hi:RS h 7 si (yK inp)) (li:inp.length≤1000) (ki:∀ p∈inp,p.2.known) (ti:uK f.fields [] inp=0) (hW:Wh f.fields inp ρ lv (xW ρ n)) :
  C0 Tryz.prog 16 #[.agg #[.slice A n c,.slice B m d],si] h (fun r h'=>∃ A' c',r=.tuple #[.slice A' (orcL f.fields inp (xW ρ n) n).length c',.bool true]∧RS h' 7 (.slice A' (orcL f.fields inp (xW ρ n) n).length c') (tJ (orcL f.fields inp (xW ρ n) n))):=by
 have few:=hok.fields.few
 have hAll:=fun so orc H q1 q2 q3 q4 q5=>whAll_own f ρ lv A n c B m d inp si so orc H hok q1 hn h1 q2 li ki ti q3 q4 (OkOrc.has q5) (fun H' g1 g2=>whOracle_any f.fields hok.fields orc q5 A n c B m d so H' g1.fields hn g2 q4)
 have hlen:=orcL_len f.fields inp (xW ρ n)
 have horc:=hW.orc
 have hsol:=fun r=>hW.sol (horc r)
 have hstep:∀ r,orcL f.fields inp (xW ρ n) (r + 1)=roundO (fcs f.fields (allW f.fields inp (orcL f.fields inp (xW ρ n) r) (xW ρ n))) f.fields (orcL f.fields inp (xW ρ n) r):=fun r=>rfl
 have hz:orcL f.fields inp (xW ρ n) 0=[]:=rfl
 have hFa:=fun va A1 c1 H q1 q2 q3=>facts_l f.fields va A n c A1 c1 H q1 hn (by omega) q2 q3
 obtain ⟨A1,c1,rfl,-,-,-⟩:=hi.form
 rw [List.length_map] at *
 obtain ⟨vs,A3,c3,e3,-,-,hr3,hs3,hl3,hsl⟩:=cQ hf.fields
 simp only [Value.slice.injEq] at e3
 obtain ⟨rfl,-,rfl⟩:=e3
 rw [← hn] at hr3 hl3 hlen
 generalize hni:inp.length=ni at *
 clear hW
 generalize hO:orcL f.fields inp (xW ρ n)=orc at *
 generalize hV:(fun r=>allW f.fields inp (orc r) (xW ρ n))=va at *
 have hV':∀ r,allW f.fields inp (orc r) (xW ρ n)=va r:=fun r=>congrFun hV r
 simp only [hV'] at hsol hstep
 have hAll':=fun so r H q1 q2 q3 q4=>hAll so (orc r) H q1 q2 q3 q4 (horc r)
 simp only [hV'] at hAll'
 clear hAll hV hV' hO
 refine sQ Tryz.func16 (c:=Tryz.f16.body.getD .skip) (N:=76) ?_
 intro hbx hbad Q hQ
 refine go1 22 [.own,.b 0 0] [] ?_
 intro b1
 refine dV 56 7 ?_
 refine zQ [0,1,0,1,1] [.block 0,.seq [1,1,1]] (fun (r:Nat) X=>∃ (W2:Vw) (v:Value) (ol:List Aw),X W2 [(1,.slice A1 ni c1),(2,Vp b1),(15,Vi (n:Int)),(16,Vi (r:Int)),(6,v)] [.row v 56 7 (tJ ol),.box b1 [.slice A n c,.slice B m d]] []∧Sees h W2∧(r≤n)∧(orc r=ol)) (fun r=>n - r) (0) (fun X q=>⟨h,(Vz),[],q _ _ _ _ ⟨rfl,by kernel_rfl⟩,Sees.refl _,Nat.zero_le _,hz⟩) ?_
 rintro r a w ⟨W2,v,ol,hJ,S3,hr,hol⟩; refine eV hJ ?_; clear hJ a w
 refine go0 6 [] [] ?_
 rcases (by omega:r < n∨r=n) with hlt | hke
 ·have hAr:=fun so H q1 q2 q3=>hAll' so r H q1 q2 q3
  rw [hol] at hAr
  have hst:=hstep r
  obtain ⟨hs1,hs2⟩:=hsol r
  have hs1:=hs1.len
  rw [← hn] at hs1
  have hln:=hlen r
  have hrn:r * n≤14 * 14:=Nat.mul_le_mul (by omega) (by omega)
  rw [hol] at hst hln
  generalize va r=vr at *
  refine kV (t:=decide ((r:Int) < (n:Int))) (decide_eq_true (by omega)) ?_
  refine go0 9 [.b 1 0] [] ?_
  refine g_callownq (e:=43) (kk:=3) (fun a w hJ=>hAr _ _ (hf.sees (S3.trans hJ.j.seesQ)) (hi.sees (S3.trans hJ.j.seesQ)) (hJ.j.rowQ (v:=v) (e:=56) (k:=7) (l:=tJ ol) 0 (by kernel_rfl)) (by omega)) ?_; rintro _ _ _ W4 S5 ⟨rfl,⟨A5,c5,rfl⟩,rfl⟩
  refine go0 22 [.b 2 0] [] ?_
  refine wQ 0 (v:=.slice A5 n c5) (e:=43) (kk:=3) (l:=qY vr) ?_; intro W6 S7 fa
  refine uQ (t:=(n:Int) != (n:Int)) ((by simp)) ?_
  refine go0 11 [.b 1 0] [] ?_
  have hok3:∀ p∈fcs f.fields vr,OkV p.2:=fcs_ok hs2
  have hln3:(fcs f.fields vr).length≤1000:=by rw [fcs_len (by omega)]; omega
  have hFa2:=fun H q1 q2=>hFa vr A5 c5 H q1 q2 hs1
  have hev:=fun x (hx:x∈f.fields) (h3:x.kind=3) v u H q1 q2=>eval_any x.src v (fcs f.fields vr) u H q1 ((hok.fields.each x hx).wf (by omega)).1 ((hok.fields.each x hx).wf (by omega)).2.1 (chk_deep ((hok.fields.each x hx).wf (by omega)).2.2) q2 hok3 hln3
  have hkv:=fun x (hx:x∈f.fields) (h3:x.kind=3)=>evalE_ok (get_ok hok3) _ x.src (Nat.le_refl _) ((hok.fields.each x hx).wf (by omega)).1
  have hsn:=fun j x (hx:f.fields[j]?=some x)=>(congrArg (fun l=>roundO (fcs f.fields vr) l ol) (nY f.fields j x hx)).trans (roundO_snoc (fcs f.fields vr) (f.fields.take j) x ol)
  have hrl:=fun j=>roundO_len (fcs f.fields vr) (f.fields.take j) ol
  have hadd:=fun out x=>addO_eq (fcs f.fields vr) out x
  generalize hen:fcs f.fields vr=env at *
  refine zQ [0,1,1,1,0,0,1,1,0,0,1,0,1,1] [.block 2,.block 1,.seq [1,1,1,0,0,1,0,1,1]] (fun (j:Nat) X=>∃ (W8:Vw) (v:Value) (ml:List Aw),X W8 [(1,.slice A1 ni c1),(2,Vp b1),(15,Vi (n:Int)),(16,Vi (r:Int)),(7,.slice A5 n c5),(36,.slice A n c),(37,Vi (n:Int)),(38,Vi (j:Int)),(6,v)] [.row v 56 7 (tJ ml),.box b1 [.slice A n c,.slice B m d]] []∧Sees W6 W8∧(j≤n)∧(roundO env (f.fields.take j) ol=ml)) (fun j=>n - j) (0) (fun X q=>⟨W6,v,ol,q _ _ _ _ ⟨rfl,by kernel_rfl⟩,Sees.refl _,Nat.zero_le _,rfl⟩) ?_
  rintro j a w ⟨W8,v,ml,hJ,S9,hj,hml⟩; refine eV hJ ?_; clear hJ a w
  refine go0 6 [] [] ?_
  rcases (by omega:j < n∨j=n) with hjl | hje
  ·obtain ⟨x,hx⟩:∃ x,f.fields[j]?=some x:=⟨_,List.getElem?_eq_getElem (by omega)⟩
   obtain ⟨u,hu⟩:∃ u,vs[j]?=some u:=⟨_,List.getElem?_eq_getElem (by omega)⟩
   have hxm:=List.mem_of_getElem? hx
   have hrow:=aQ hx hu
   have hga:∀ H,AllSrc H f.fields vs→IsArgs H x.src u:=fun H q=>AllArgs.get q (x:=x.src) (by rw [List.getElem?_map,hx]; rfl) hu
   obtain ⟨Au,nu,cu,rfl⟩:=(hga _ hs3).slice
   have hml2:=hsn j x hx
   have hmll:=hrl j
   rw [hml] at hml2 hmll
   rw [List.length_take] at hmll
   have hmr:(tJ ml).length=ml.length:=List.length_map _
   have hxo:=hok.fields.each x hxm
   obtain ⟨hx10,-⟩:=name_print hxo.name
   have t1:=hxo.t1
   have t3:=hxo.t3
   have hadd2:=hadd ml x
   refine kV (t:=decide ((j:Int) < (n:Int))) (decide_eq_true (by omega)) ?_
   refine go0 6 [] [] ?_
   obtain ⟨b10,o11,rfl,-,c12⟩:=RS.row hr3 (hrow)
   refine tQ (c12.sees (S3.trans (S5.trans (S7.trans S9)))) ?_
   refine go1 14 [.ix b10 o11 n c j,.f 0 0,.own,.b 0 0,.b 0 1] [] ?_ (ho:=(And.intro (by first | omega | (simp; omega)) (trivial)))
   intro bx
   by_cases g3:x.kind=3
   ·have hev2:=fun u H q1 q2=>hev x hxm g3 (.slice Au nu cu) u H q1 q2
    have hkv2:=hkv x hxm g3
    rw [if_pos g3] at hadd2
    generalize mK env x.src=key at *
    have hck:=fun b d v H q1 q2 q3=>contKeep_any ml v x Au nu cu key b d H q1 (by omega) q2 q3
    have han:=fun (hk:key.known) H=>answered_any x Au nu cu key H hx10 (known_size hk) t1 t3
    generalize hhit:ml.any (fun q=>q.hit x.name key)=hit at *
    generalize ansV x key=av at *
    refine uQ (t:=x.kind != 3) ((by rw [bne_eq_false_iff_eq]; exact g3)) ?_
    refine go0 3 [] [] ?_
    refine gV 13 1 [.pu,.ld 1 3,.pu,.ld 3 0,.pu,.f (fun gh=>.slice (sA (gh 5)) (sN (gh 5)) (sC (gh 5))) (fun gh hh=>RS hh 7 (.slice (sA (gh 5)) (sN (gh 5)) (sC (gh 5))) (yK env)),.v (fun gh=>.tuple #[.agg #[Vi key.k,Vi key.n,.string key.s],Vi 0]),.pu,.pu,.pu,.al 0,.st 0 0,.pu] [(5,false),(10,true)] (And.intro (fun _ _ _ s c=>c.sees s) (trivial)) ?_ ?_
    ·intro R hT hA hmono
     refine And.intro (r_call hT hA hmono ⟨fun _ _=>by kernel_rfl,fun _ _=>by kernel_rfl,fun _ _=>by kernel_rfl⟩ 51 (fun u=>.slice (sA u) (sN u) (sC u)) [3,4] 5 (by kernel_rfl) (by kernel_rfl) (fun _=>by kernel_rfl) 38 (fun gh=>#[.slice (some ⟨b10,o11,none⟩) n c,.slice A5 n c5]) (fun _ _=>by kernel_rfl) (fun gh H sH fH lent=>C0.facts (R:=R) (x:=gh) (i:=5) (n:=0) (F:=(fun u=>.slice (sA u) (sN u) (sC u))) (G:=fun u hh=>RS hh 7 (.slice (sA u) (sN u) (sC u)) (yK env)) (f:=fun gh hh=>RS hh 7 (.slice (sA (gh 5)) (sN (gh 5)) (sC (gh 5))) (yK env)) (hFa2 _ ((hf.sees (S3.trans (S5.trans (S7.trans (S9.trans sH)))))).fields (fa.sees (S9.trans sH))) (by kernel_rfl) (by kernel_rfl) (fun _ _ r=>r))) ?_
     refine And.intro (t_v hT hA hmono (k:=37) (args:=(fun gh=>#[.agg #[Vi x.src.op,Vi x.src.k,Vi x.src.n,.string x.src.s,.string x.src.nm,.slice Au nu cu],.slice (sA (gh 5)) (sN (gh 5)) (sC (gh 5))])) (f:=fun gh=>.tuple #[.agg #[Vi key.k,Vi key.n,.string key.s],Vi 0]) (fun gh H sH fH lent=>hev2 _ _ (hga _ (hs3.sees (S3.trans (S5.trans (S7.trans (S9.trans sH)))))) (fH 0 _ rfl (by kernel_rfl)))) ?_
     trivial
    rintro u51 bk W13 S14 ⟨f51,-⟩
    replace f51:RS W13 7 (.slice (sA u51) (sN u51) (sC u51)) (yK env):=f51
    refine go0 4 [.b 0 0] [] ?_
    by_cases gk:key.k≤3
    ·have hkn:key.known:=by
      rcases hkv2 with q | q | ⟨q,-⟩
      ·exact q
      ·rw [q] at gk; exact absurd gk (by decide)
      ·omega
     have hk1:=fun H=>c_kn key.k key.n key.s H hkn
     have han2:=han hkn
     refine go0 4 [.cl 21 #[.agg #[Vi key.k,Vi key.n,.string key.s]] (.bool true)] [] ?_ (ho:=(And.intro (fun H sH=>hk1 _) (trivial)))
     refine g_callq (fun a w hJ=>hck _ _ _ _ (hJ.j.rowQ (v:=v) (e:=56) (k:=7) (l:=tJ ml) 2 (by kernel_rfl)) (hJ.j.boxQ (b:=bx) (cs:=[.string x.name,Vi x.kind,Vi x.ty,Vi x.src.op,Vi x.src.k,Vi x.src.n,.string x.src.s,.string x.src.nm,.slice Au nu cu]) 1 (by kernel_rfl)) (hJ.j.boxQ (b:=bk) (cs:=[Vi key.k,Vi key.n,.string key.s]) 0 (by kernel_rfl))) ?_; intro W15 S16
     refine go0 4 [] [] ?_
     rcases Bool.eq_false_or_eq_true hit with hh | hh
     ·rw [if_neg (fun q=>by rw [hh] at q; cases q.2)] at hadd2
      refine uQ (t := !hit) ((by rw [hh]; rfl)) ?_
      refine go0 7 [] [(73,Vi (IntKind.i64.wrap ((j:Int) + 1)),Vi ((j:Int) + 1))] ?_ (hc:=(And.intro (jJ (by omega) (by omega)) (trivial)))
      exact jV (j + 1) (fun X q=>⟨W15,v,ml,q _ _ _ _ ⟨rfl,by kernel_rfl⟩,(S9.trans (S14.trans S16)),by omega,hml2.trans hadd2⟩) (by omega)
     ·skip
      rw [if_pos ⟨gk,hh⟩] at hadd2
      refine kV (t := !hit) ((by rw [hh]; rfl)) ?_
      refine gV 11 0 [.pu,.pu,.ld 1 0,.ld 0 0,.ld 1 0,.ld 0 0,.v (fun gh=>.agg #[Vi av.k,Vi av.n,.string av.s]),.pu,.f (fun gh=>.slice (some ⟨(wJ (gh 8)),0,none⟩) 1 1) (fun gh hh=>Cells hh (wJ (gh 8)) 0 [.string x.name,Vi key.k,Vi key.n,.string key.s,Vi av.k,Vi av.n,.string av.s]),.e (fun gh=>.slice (sA (gh 9)) (sN (gh 9)) (sC (gh 9))) 2 (fun gh=>.row (.slice (sA (gh 9)) (sN (gh 9)) (sC (gh 9))) 56 7 ((tJ ml)++[[.string x.name,Vi key.k,Vi key.n,.string key.s,Vi av.k,Vi av.n,.string av.s]])),.pu] [(8,true),(9,false)] (And.intro (fun _ _ _ s c=>c.sees s) (trivial)) ?_ ?_
      ·intro R hT hA hmono
       refine And.intro (t_v hT hA hmono (k:=41) (args:=(fun gh=>#[.agg #[.string x.name,Vi x.kind,Vi x.ty,Vi x.src.op,Vi x.src.k,Vi x.src.n,.string x.src.s,.string x.src.nm,.slice Au nu cu],.agg #[Vi key.k,Vi key.n,.string key.s]])) (f:=fun gh=>.agg #[Vi av.k,Vi av.n,.string av.s]) (fun gh H sH fH lent=>han2 _)) ?_
       refine And.intro (r_fact hT hA hmono ⟨fun _ _=>by kernel_rfl,fun _ _=>by kernel_rfl,fun _ _=>by kernel_rfl⟩ 71 (fun g=>Vs g 1 1) [7] 8 (by kernel_rfl) (by kernel_rfl) (fun _=>by kernel_rfl) (fun gh=>[.string x.name,Vi key.k,Vi key.n,.string key.s,Vi av.k,Vi av.n,.string av.s]) 56 (fun _ _=>by kernel_rfl) (fun gh zb zH zc zj zq zhq zhe=>own_fact (i:=8) (k:=0) (f:=fun gh hh=>Cells hh (wJ (gh 8)) 0 [.string x.name,Vi key.k,Vi key.n,.string key.s,Vi av.k,Vi av.n,.string av.s]) (by kernel_rfl) (by kernel_rfl) zc zj zq zhq zhe)) ?_
       refine And.intro (kX hT hA hmono ⟨fun _ _=>by kernel_rfl,fun _ _=>by kernel_rfl,fun _ _=>by kernel_rfl⟩ 72 [0,6,8] 9 2 (GN R 2) (fun gh=>v) 33 56 7 (fun gh=>tJ ml) (fun gh=>[[.string x.name,Vi key.k,Vi key.n,.string key.s,Vi av.k,Vi av.n,.string av.s]]) (.tmp 63) (.tmp 71) (fun gh=>(wJ (gh 8))) 1 1 0 8 (fun gh hh=>Cells hh (wJ (gh 8)) 0 [.string x.name,Vi key.k,Vi key.n,.string key.s,Vi av.k,Vi av.n,.string av.s]) (fun _ _ c=>c) Tryz.underlying33 (zv:=.agg #[Ve,Vi 0,Vi 0,Ve,Vi 0,Vi 0,Ve]) (bytes:=80) (fun _=>by constructor <;> (simp; omega))) ?_
       trivial
      rintro b18 v72 W19 S20 ⟨f17,-⟩
      replace f17:Cells W19 b18 0 [.string x.name,Vi key.k,Vi key.n,.string key.s,Vi av.k,Vi av.n,.string av.s]:=f17
      refine tQ f17 ?_
      refine go0 6 [] [(73,Vi (IntKind.i64.wrap ((j:Int) + 1)),Vi ((j:Int) + 1))] ?_ (hc:=(And.intro (jJ (by omega) (by omega)) (trivial)))
      refine xQ [(1,.slice A1 ni c1),(2,Vp b1),(15,Vi (n:Int)),(16,Vi (r:Int)),(7,.slice A5 n c5),(36,.slice (some ⟨b10,o11,none⟩) n c),(37,Vi (n:Int)),(6,.slice (sA v72) (sN v72) (sC v72)),(38,Vi ((j:Int) + 1))] [.row (.slice (sA v72) (sN v72) (sC v72)) 56 7 ((tJ ml)++[[.string x.name,Vi key.k,Vi key.n,.string key.s,Vi av.k,Vi av.n,.string av.s]]),.box b1 [.slice (some ⟨b10,o11,none⟩) n c,.slice B m d]] [] ?_
      exact jV (j + 1) (fun X q=>⟨W19,.slice (sA v72) (sN v72) (sC v72),ml++[⟨x.name,key,av⟩],q _ _ _ _ (fY (by rw [anRows_snoc]; try rfl)),(S9.trans (S14.trans (S16.trans S20))),by omega,hml2.trans hadd2⟩) (by omega)
    ·skip
     have hk0:=fun H=>known_no key H gk (ok_kinds hkv2).1
     rw [if_neg (fun q=>gk q.1)] at hadd2
     refine go0 17 [.cl 21 #[.agg #[Vi key.k,Vi key.n,.string key.s]] (.bool false)] [(73,Vi (IntKind.i64.wrap ((j:Int) + 1)),Vi ((j:Int) + 1))] ?_ (ho:=(And.intro (fun H sH=>hk0 _) (trivial))) (hc:=(And.intro (jJ (by omega) (by omega)) (trivial)))
     exact jV (j + 1) (fun X q=>⟨W13,v,ml,q _ _ _ _ ⟨rfl,by kernel_rfl⟩,(S9.trans S14),by omega,hml2.trans hadd2⟩) (by omega)
   ·skip
    rw [if_neg g3] at hadd2
    refine kV (t:=x.kind != 3) (bne_iff_ne.2 g3) ?_
    refine go0 8 [] [(73,Vi (IntKind.i64.wrap ((j:Int) + 1)),Vi ((j:Int) + 1))] ?_ (hc:=(And.intro (jJ (by omega) (by omega)) (trivial)))
    exact jV (j + 1) (fun X q=>⟨W8,v,ml,q _ _ _ _ ⟨rfl,by kernel_rfl⟩,S9,by omega,hml2.trans hadd2⟩) (by omega)
  ·skip
   have hta:f.fields.take j=f.fields:=by rw [hje,hn,List.take_length]
   rw [hta] at hml
   refine uQ (t:=decide ((j:Int) < (n:Int))) (decide_eq_false (by omega)) ?_
   refine go0 2 [] [] ?_
   refine yQ ?_
   refine go0 7 [] [(74,Vi (IntKind.i64.wrap ((r:Int) + 1)),Vi ((r:Int) + 1))] ?_ (hc:=(And.intro (jJ (by omega) (by omega)) (trivial)))
   exact jV (r + 1) (fun X q=>⟨W8,v,ml,q _ _ _ _ ⟨rfl,by kernel_rfl⟩,(S3.trans (S5.trans (S7.trans S9))),by omega,hst.trans hml⟩) (by omega)
 ·skip
  rw [hke] at hol
  have hrl:(tJ ol).length=ol.length:=List.length_map _
  refine vQ 0 (v:=v) (e:=56) (kk:=7) (l:=tJ ol) ?_; intro Ar cr hE_v hc_v hm_v
  rw [show (tJ ol).length=ol.length from by first | omega | (simp; done) | (simp; omega)] at hE_v hc_v
  rw [hE_v]
  refine uQ (t:=decide ((r:Int) < (n:Int))) (decide_eq_false (by omega)) ?_
  refine go0 2 [] [] ?_
  refine yQ ?_
  refine go0 10 [] [] ?_
  refine xQ [(4,.slice Ar ol.length cr),(5,.bool true)] [.row (.slice Ar ol.length cr) 56 7 (tJ ol),.box b1 [.slice A n c,.slice B m d]] [] ?_
  refine hQ.toJ [.slice Ar ol.length cr,.bool true] [] (fun a w hJ=>?_)
  have fr:=hJ.j.rowOut0 (v:=.slice Ar ol.length cr) (e:=56) (k:=7) (l:=tJ ol) 0 (by kernel_rfl) rfl
  exact ⟨Ar,cr,congrArg (fun l:List Aw=>Value.tuple #[.slice Ar l.length cr,.bool true]) hol.symm,by rw [hol]; exact fr⟩
end Go.Proofs.YtmoahpojchndiaaGreatDoor
