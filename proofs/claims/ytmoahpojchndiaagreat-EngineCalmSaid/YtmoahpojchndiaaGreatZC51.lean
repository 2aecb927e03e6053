/-
  The laws' Oracle, in plain words: all keys that come up, answered. Such answers may be.
-/
import Derived.Test.YtmoahpojchndiaaGreatZC38
import Derived.Test.YtmoahpojchndiaaGreatZC50
import Derived.Test.YtmoahpojchndiaaGreatZC9
import Derived.Test.YtmoahpojchndiaaGreatZC41
import Derived.Test.YtmoahpojchndiaaGreatZC47
import Derived.Test.YtmoahpojchndiaaGreatZC49
import Derived.Test.YtmoahpojchndiaaGreatZC11
set_option maxRecDepth 100000
namespace Go.Proofs.YtmoahpojchndiaaGreat
open Go.RowKit
set_option linter.unusedVariables false
def abcB:ByteArray:=⟨#[97,98,99,100,101,102,103,104,105]⟩
def ansN (f:Fd) (key:Vl):Int:=Int.tmod key.n 9 + 3 * (key.s.size:Int) + (f.name.size:Int)
def vJ (f:Fd) (key:Vl):Vl:=if f.ty=1 then ⟨1,ansN f key,⟨#[]⟩⟩ else if f.ty=2 then ⟨2,cJ (ansN f key) 2,⟨#[]⟩⟩ else ⟨3,0,f.name++abcB.extract 0 (cJ (ansN f key) 9).toNat⟩
theorem word_print {c:UInt8} (h:isWord c=true):32≤c.toNat∧c.toNat≤126:=by
 unfold isWord isLet isDig at h
 simp only [Bool.or_eq_true,decide_eq_true_eq] at h
 omega
theorem name_print {s:ByteArray} (h:rJ s.data.toList):s.size≤10∧∀ i (hi:i < s.size),32≤s[i].toNat∧s[i].toNat≤126:=by
 obtain ⟨-,h2,-,h4,-⟩:=h
 have hsz:s.data.toList.length=s.size:=by simp
 refine ⟨by omega,fun i hi=>?_⟩
 have hg:s.data.toList[i]?=some s[i]:=by
  rw [List.getElem?_eq_getElem (by omega)]
  congr 1
 exact word_print (span_all isWord s.data.toList i s[i] (by omega) hg)
theorem abc_all:∀ i (hi:i < 9),32≤(abcB[i]'hi).toNat∧(abcB[i]'hi).toNat≤126:=by decide
theorem abc_print (k:Nat):(abcB.extract 0 k).size≤9∧∀ i (hi:i < (abcB.extract 0 k).size),32≤(abcB.extract 0 k)[i].toNat∧(abcB.extract 0 k)[i].toNat≤126:=by
 have hs:(abcB.extract 0 k).size=min k abcB.size - 0:=ByteArray.size_extract ..
 have h9:abcB.size=9:=rfl
 refine ⟨by omega,fun i hi=>?_⟩
 rw [ByteArray.getElem_extract]
 have:=abc_all (0 + i) (by omega)
 exact this
theorem known_size {v:Vl} (h:v.known):v.s.size≤40:=by
 rcases h with ⟨-,-,e⟩ | ⟨-,-,e⟩ | ⟨-,-,e,-⟩
 ·rw [e]; decide
 ·rw [e]; decide
 ·exact e
theorem ansN_lo (f:Fd) (key:Vl) (hn:f.name.size≤10) (hk:key.s.size≤40) : -8≤ansN f key∧ansN f key≤138:=by
 have h1:=Int.tmod_lt_of_pos key.n (show (0:Int) < 9 by decide)
 have h2:=Int.lt_tmod_of_pos key.n (show (0:Int) < 9 by decide)
 unfold ansN
 omega
theorem ans_known {fs:List Fd} {f:Fd} (hf:OkF fs f) {key:Vl} (hk:key.known):(vJ f key).known∧(vJ f key).k=f.ty:=by
 obtain ⟨hn,hp⟩:=name_print hf.name
 have hr:=ansN_lo f key hn (known_size hk)
 have t1:=hf.t1
 have t3:=hf.t3
 unfold vJ
 by_cases g1:f.ty=1
 ·rw [if_pos g1]
  exact ⟨.inl ⟨rfl,by show Lim (ansN f key); unfold Lim; omega,rfl⟩,g1.symm⟩
 by_cases g2:f.ty=2
 ·rw [if_neg g1,if_pos g2]
  have p0:=xX (ansN f key) 2 (by omega)
  have p1:=wX (ansN f key) 2 (by omega)
  exact ⟨.inr (.inl ⟨rfl,by show cJ _ _=0∨cJ _ _=1; omega,rfl⟩),g2.symm⟩
 rw [if_neg g1,if_neg g2]
 obtain ⟨ha,hb⟩:=abc_print (cJ (ansN f key) 9).toNat
 generalize abcB.extract 0 (cJ (ansN f key) 9).toNat=t at *
 have hs:(f.name++t).size=f.name.size + t.size:=ByteArray.size_append ..
 refine ⟨.inr (.inr ⟨rfl,rfl,by show (f.name++t).size≤40; omega,fun i hi=>?_⟩),by show (3:Int)=_; omega⟩
 have hi':i < f.name.size + t.size:=by rw [← hs]; exact hi
 show 32≤(f.name++t)[i].toNat∧_
 by_cases hlt:i < f.name.size
 ·rw [ByteArray.getElem_append_left hlt]; exact hp i hlt
 ·rw [ByteArray.getElem_append_right (by omega)]; exact hb _ (by omega)
theorem tyL_congr {f g:ByteArray→Option Int}:∀ {l:List Ex},(∀ y∈l,tyE f y=tyE g y)→tyL f l=tyL g l
 | [],_=>by rw [tyL,tyL]
 | x :: l,h=>by rw [tyL,tyL,h x (by simp),tyL_congr fun y hy=>h y (by simp [hy])]
theorem ty_congr {f g:ByteArray→Option Int} {x:Ex} (h:∀ s∈iY x,f s=g s):tyE f x=tyE g x:=by
 revert h
 refine ex_ind (p:=fun x=>(∀ s∈iY x,f s=g s)→tyE f x=tyE g x) (fun x ih h=>?_) x
 rw [jY] at h
 have hl:tyL f x.args=tyL g x.args:=tyL_congr fun y hy=>ih y hy fun s hs=>h s (List.mem_append_right _ (mem_refsL.2 ⟨y,hy,hs⟩))
 rw [tyE_op,tyE_op,hl]
 by_cases h2:x.op=2
 ·rw [h x.nm (by rw [if_pos h2]; simp)]
 ·unfold tyOp
  simp only [if_neg h2]
abbrev NyV (v:Vl):Prop:=v.k=4∨v.k=5
theorem ny_not:NotYet NyV:=⟨fun _ h=>h,.inr rfl,.inr rfl,.inr rfl⟩
def TyOk (fs:List Fd) (v:List Vl):Prop:=∀ (i:Nat) (f:Fd) (x:Vl),fs[i]?=some f→v[i]?=some x→OfT NyV f.ty x
theorem fcs_env {fs:List Fd} (hok:OkFs fs) {v:List Vl} (hl:v.length=fs.length) (ht:TyOk fs v):∀ s t,tyF fs s=some t→∃ x,(fcs fs v).get s=some x∧OfT NyV t x:=fun s t h=>by
 obtain ⟨i,f,h1,h2,h3⟩:∃ (i:Nat) (f:Fd),fs[i]?=some f∧f.name=s∧f.ty=t:=by
  clear ht hl hok
  induction fs with
  | nil=>cases h
  | cons g l ih =>
   rw [tyF] at h
   by_cases e:(s == g.name)=true
   ·rw [if_pos e] at h
    exact ⟨0,g,rfl,((Go.MapKept.bytes_beq _ _).1 e).symm,Option.some.inj h⟩
   ·rw [if_neg e] at h
    obtain ⟨i,f,h1,h2⟩:=ih h
    exact ⟨i + 1,f,by simpa using h1,h2⟩
 obtain ⟨x,hx⟩:∃ x,v[i]?=some x:=⟨_,List.getElem?_eq_getElem (by rw [hl]; exact (List.getElem?_eq_some_iff.1 h1).1)⟩
 exact ⟨x,h2 ▸ eQ hok.nodup h1 hx,h3 ▸ ht i f x h1 hx⟩
theorem tell_ty {fs:List Fd} {inp:Env} (hi:∀ p∈inp,p.2.known) {s:ByteArray} {t:Int} (h1:1≤t) (h3:t≤3) (hk:∀ p∈inp,p.1=s→p.2.k=t):(tellV s t inp).k=t:=by
 induction inp with
 | nil=>rfl
 | cons p l ih =>
  rw [tellV]
  by_cases e:(p.1.toList == s.toList)=true
  ·rw [if_pos e]
   rw [tl_dec,decide_eq_true_iff] at e
   exact hk p (by simp) e
  ·rw [if_neg e]
   exact ih (fun q hq=>hi q (by simp [hq])) fun q hq=>hk q (by simp [hq])
theorem ask_ty {fs:List Fd} (hok:OkFs fs) {orc:List Aw} (ho:OkOrc fs orc) {i:Nat} {f:Fd} (hf:fs[i]?=some f) (key:Vl):OfT NyV f.ty (wJ f.name key orc):=by
 have:∀ l:List Aw,(∀ p∈l,p∈orc)→OfT NyV f.ty (wJ f.name key l):=fun l=>by
  induction l with
  | nil=>exact fun _=>.inr (.inl rfl)
  | cons p l ih =>
   intro hl
   rw [wJ]
   split
   ·rename_i g
    have hp:=ho.each p (hl p (by simp))
    obtain ⟨j,g2,t,h1,h2,-,-,-,h6⟩:=hp.place
    have hn:p.nm=f.name:=by
     unfold Aw.hit at g
     rw [Bool.and_eq_true,tl_dec,decide_eq_true_iff] at g
     exact g.1
    have e1:=nQ hok.nodup h1
    have e2:=nQ hok.nodup hf
    rw [h2,hn,e2] at e1
    have e1:i=j:=by omega
    subst e1
    rw [hf] at h1
    obtain rfl:=Option.some.inj h1
    exact .inl ⟨hp.has,h6⟩
   ·exact ih fun q hq=>hl q (by simp [hq])
 exact this orc fun _ h=>h
def InpTy (fs:List Fd) (inp:Env):Prop:=∀ (i:Nat) (f:Fd),fs[i]?=some f→f.kind=1→∀ p∈inp,p.1=f.name→p.2.k=f.ty
theorem sol_tyG {fs:List Fd} (hok:OkFs fs) {inp:Env} (hi:∀ p∈inp,p.2.known) (hit:InpTy fs inp) {orc:List Aw} (ho:∀ (i:Nat) (f:Fd),fs[i]?=some f→∀ key,OfT NyV f.ty (wJ f.name key orc)) {ρ:List Int} {lv:Nat→Nat} (hr:Ranked (sW fs) ρ lv) {v:List Vl} (hv:Sol fs inp orc v) (hvo:∀ x∈v,OkV x):TyOk fs v:=by
 have key:∀ t i,lv i < t→∀ f x,fs[i]?=some f→v[i]?=some x→OfT NyV f.ty x:=fun t=>by
  induction t with
  | zero=>intro i h; omega
  | succ t ih =>
   intro i ht f x hf hx
   have hF:=hok.each f (List.mem_of_getElem? hf)
   have hil:=(List.getElem?_eq_some_iff.1 hf).1
   have hxo:=hvo x (List.mem_of_getElem? hx)
   have e:=hv.at_ i f x hf hx
   unfold aX at e
   by_cases h1:f.kind=1
   ·rw [if_pos h1] at e
    exact .inl ⟨e ▸ tell_ok hi _ hF.t1 hF.t3,e ▸ tell_ty (fs:=fs) hi hF.t1 hF.t3 (hit i f hf h1)⟩
   ·rw [if_neg h1] at e
    by_cases h3:f.kind=3
    ·rw [if_pos h3] at e
     unfold askV at e
     split at e
     ·rw [e]; exact ho i f hf _
     ·rename_i q
      rw [e] at hxo ⊢
      have:=ok_kinds hxo
      exact .inr (by show _=4∨_=5; omega)
    ·rw [if_neg h3] at e
     have ht2:=hF.form (by have:=hF.k1; have:=hF.k3; omega)
     have hdec:∀ s,Decidable (s∈iY f.src):=fun s=>Classical.propDecidable _
     obtain ⟨t2,env,hsub,hE⟩:∃ (f2:ByteArray→Option Int) (env:Env),tyE f2 f.src=(f.ty,0)∧qK env f.src=qK (fcs fs v) f.src∧∀ s t,f2 s=some t→∃ x,env.get s=some x∧OfT NyV t x:=by
      refine ⟨fun s=>if s∈iY f.src then tyF fs s else none,fcs fs v,?_,rfl,fun s t q=>?_⟩
      ·exact (ty_congr (f:=fun s=>if s∈iY f.src then tyF fs s else none) (g:=tyF fs) (fun s hs=>if_pos hs)).trans ht2
      ·simp only at q
       split at q
       ·rename_i hs
        obtain ⟨j,g,g1,g2,g3⟩:=lY hok hf h1 hs
        obtain ⟨l1,l2⟩:=hr.low i (by rw [tW]; exact hil) j g3
        rw [tW] at l1
        obtain ⟨y,hy⟩:∃ y,v[j]?=some y:=⟨_,List.getElem?_eq_getElem (by rw [hv.len]; exact l1)⟩
        have:=ih j (by omega) g y g1 hy
        have hty:tyF fs s=some g.ty:=by rw [← g2]; exact tyF_mem hok.nodup g (List.mem_of_getElem? g1)
        rw [hty] at q
        rw [← Option.some.inj q]
        exact ⟨y,g2 ▸ eQ hok.nodup g1 hy,this⟩
       ·cases q
     have:=ty_sound ny_not hE.2 (hF.wf h1).1 hsub
     rw [hE.1] at this
     rw [e]; exact this
 exact fun i f x hf hx=>key (lv i + 1) i (by omega) f x hf hx
theorem sol_ty {fs:List Fd} (hok:OkFs fs) {inp:Env} (hi:∀ p∈inp,p.2.known) (hit:InpTy fs inp) {orc:List Aw} (ho:OkOrc fs orc) {ρ:List Int} {lv:Nat→Nat} (hr:Ranked (sW fs) ρ lv) {v:List Vl} (hv:Sol fs inp orc v) (hvo:∀ x∈v,OkV x):TyOk fs v :=
 sol_tyG hok hi hit (fun i f hf key=>ask_ty hok ho hf key) hr hv hvo
end Go.Proofs.YtmoahpojchndiaaGreat
namespace Go.Proofs.YtmoahpojchndiaaGreat
open Go.RowKit
set_option linter.unusedVariables false
def addO (env:Env) (out:List Aw) (f:Fd):List Aw :=
 if f.kind=3∧(qK env f.src).k≤3∧out.any (fun p=>p.hit f.name (qK env f.src))=false then out++[⟨f.name,qK env f.src,vJ f (qK env f.src)⟩] else out
def oY (env:Env) (fs:List Fd) (out:List Aw):List Aw:=fs.foldl (addO env) out
def lX (fs:List Fd) (inp:Env) (os:List Nat):Nat→List Aw
 | 0=>[]
 | r + 1=>oY (fcs fs (allW fs inp (lX fs inp os r) os)) fs (lX fs inp os r)
theorem roundO_snoc (env:Env) (l:List Fd) (f:Fd) (out:List Aw):oY env (l++[f]) out=addO env (oY env l out) f:=by unfold oY; rw [List.foldl_append]; rfl
theorem addO_len (env:Env) (out:List Aw) (f:Fd):(addO env out f).length≤out.length + 1:=by unfold addO; split <;> simp
theorem roundO_len (env:Env):∀ (l:List Fd) (out:List Aw),(oY env l out).length≤out.length + l.length
 | [],out=>Nat.le_refl _
 | f :: l,out=>by
  have h1:=roundO_len env l (addO env out f)
  have h2:=addO_len env out f
  show (oY env l (addO env out f)).length≤_
  rw [List.length_cons]; omega
theorem orcL_len (fs:List Fd) (inp:Env) (os:List Nat):∀ r,(lX fs inp os r).length≤r * fs.length
 | 0=>Nat.zero_le _
 | r + 1=>by
  have h1:=orcL_len fs inp os r
  have h2:=roundO_len (fcs fs (allW fs inp (lX fs inp os r) os)) fs (lX fs inp os r)
  show (oY _ _ _).length≤_
  rw [Nat.succ_mul]; omega
theorem addO_ext (env:Env) (out:List Aw) (f:Fd):∃ m,addO env out f=out++m:=by
 unfold addO
 split
 ·exact ⟨_,rfl⟩
 ·exact ⟨[],by simp⟩
theorem roundO_ext (env:Env):∀ (l:List Fd) (out:List Aw),∃ m,oY env l out=out++m
 | [],out=>⟨[],by simp [oY]⟩
 | f :: l,out=>by
  obtain ⟨m1,h1⟩:=addO_ext env out f
  obtain ⟨m2,h2⟩:=roundO_ext env l (addO env out f)
  exact ⟨m1++m2,by show oY env l (addO env out f)=_; rw [h2,h1,List.append_assoc]⟩
theorem addO_ok {fs:List Fd} (hok:OkFs fs) {env:Env} (he:∀ s t,tyF fs s=some t→∃ x,env.get s=some x∧OfT NyV t x) {out:List Aw} (ho:OkOrc fs out) {i:Nat} {f:Fd} (hf:fs[i]?=some f):OkOrc fs (addO env out f):=by
 unfold addO
 split
 ·rename_i h
  obtain ⟨h3,hk,hn⟩:=h
  have hF:=hok.each f (List.mem_of_getElem? hf)
  obtain ⟨t,-,-,ht⟩:=hF.look h3
  have hkt:=ty_sound ny_not he (hF.wf (by omega)).1 ht
  generalize qK env f.src=key at *
  obtain ⟨k1,k2⟩:key.known∧key.k=t:=by
   rcases hkt with q | q
   ·exact q
   ·have q:key.k=4∨key.k=5:=q
    omega
  obtain ⟨a1,a2⟩:=ans_known hF k1
  refine ⟨fun p hp=>?_,List.pairwise_append.2 ⟨ho.once,List.pairwise_singleton _ _,fun p hp q hq=>?_⟩⟩
  ·rcases List.mem_append.1 hp with q | q
   ·exact ho.each p q
   ·rw [List.mem_singleton.1 q]
    exact ⟨⟨i,f,t,hf,rfl,h3,ht,k2,a2⟩,k1,a1⟩
  ·rw [List.mem_singleton.1 hq]
   rw [List.any_eq_false] at hn
   exact Bool.eq_false_iff.2 (hn p hp)
 ·exact ho
theorem roundO_ok {fs:List Fd} (hok:OkFs fs) {env:Env} (he:∀ s t,tyF fs s=some t→∃ x,env.get s=some x∧OfT NyV t x):∀ (l:List Fd),(∀ f∈l,f∈fs)→∀ (out:List Aw),OkOrc fs out→OkOrc fs (oY env l out)
 | [],_,_,ho=>ho
 | f :: l,hl,out,ho=>by
  obtain ⟨i,hi⟩:=List.getElem?_of_mem (hl f (by simp))
  exact roundO_ok hok he l (fun g hg=>hl g (by simp [hg])) _ (addO_ok hok he ho hi)
structure Wh (fs:List Fd) (inp:Env) (ρ:List Int) (lv:Nat→Nat) (os:List Nat):Prop where
 ok:OkFs fs
 known:∀ p∈inp,p.2.known
 ty:InpTy fs inp
 ord:Ordd fs ρ lv os
theorem Wh.sol {fs:List Fd} {inp:Env} {ρ:List Int} {lv:Nat→Nat} {os:List Nat} (h:Wh fs inp ρ lv os) {orc:List Aw} (ho:OkOrc fs orc):Sol fs inp orc (allW fs inp orc os)∧∀ x∈allW fs inp orc os,OkV x:=all_sol h.ok h.known ho.has h.ord
theorem Wh.env {fs:List Fd} {inp:Env} {ρ:List Int} {lv:Nat→Nat} {os:List Nat} (h:Wh fs inp ρ lv os) {orc:List Aw} (ho:OkOrc fs orc):∀ s t,tyF fs s=some t→∃ x,(fcs fs (allW fs inp orc os)).get s=some x∧OfT NyV t x:=by
 obtain ⟨h1,h2⟩:=h.sol ho
 exact fcs_env h.ok h1.len (sol_ty h.ok h.known h.ty ho h.ord.rank h1 h2)
theorem Wh.orc {fs:List Fd} {inp:Env} {ρ:List Int} {lv:Nat→Nat} {os:List Nat} (h:Wh fs inp ρ lv os):∀ r,OkOrc fs (lX fs inp os r)
 | 0=>OkOrc.nil fs
 | r + 1=>roundO_ok h.ok (h.env (h.orc r)) fs (fun _ q=>q) _ (h.orc r)
theorem askL_app {s:ByteArray} {key:Vl} {m:List Aw}:∀ {l:List Aw},l.any (fun p=>p.hit s key)=true→wJ s key (l++m)=wJ s key l
 | [],h=>by cases h
 | p :: l,h=>by
  show wJ s key (p :: (l++m))=_
  rw [wJ,wJ]
  split
  ·rfl
  ·rename_i q
   rw [List.any_cons,Bool.eq_false_iff.2 q,Bool.false_or] at h
   exact askL_app h
theorem askL_none {s:ByteArray} {key:Vl}:∀ {l:List Aw},l.any (fun p=>p.hit s key)=false→wJ s key l=pdV
 | [],_=>rfl
 | p :: l,h=>by
  rw [List.any_cons,Bool.or_eq_false_iff] at h
  rw [wJ,if_neg (by rw [h.1]; exact Bool.false_ne_true)]
  exact askL_none h.2
theorem askL_has {s:ByteArray} {key:Vl}:∀ {l:List Aw},l.any (fun p=>p.hit s key)=true→∃ p∈l,wJ s key l=p.has
 | [],h=>by cases h
 | p :: l,h=>by
  rw [wJ]
  split
  ·exact ⟨p,by simp,rfl⟩
  ·rename_i q
   rw [List.any_cons,Bool.eq_false_iff.2 q,Bool.false_or] at h
   obtain ⟨x,hx,e⟩:=askL_has h
   exact ⟨x,by simp [hx],e⟩
theorem hit_self (s:ByteArray) (key has:Vl):Aw.hit ⟨s,key,has⟩ s key=true:=by
 unfold Aw.hit
 rw [tl_dec,decide_eq_true rfl,eqB_iff.2 rfl]; rfl
theorem addO_hit {env:Env} {out:List Aw} {f:Fd} (h3:f.kind=3) (hk:(qK env f.src).k≤3):(addO env out f).any (fun p=>p.hit f.name (qK env f.src))=true:=by
 unfold addO
 split
 ·rw [List.any_append]
  simp only [List.any_cons,List.any_nil,Bool.or_false]
  rw [hit_self,Bool.or_true]
 ·rename_i q
  cases g:out.any (fun p=>p.hit f.name (qK env f.src)) with
  | true=>rfl
  | false=>exact absurd ⟨h3,hk,g⟩ q
theorem any_ext {out m:List Aw} {p:Aw→Bool} (h:out.any p=true):(out++m).any p=true:=by rw [List.any_append,h,Bool.true_or]
theorem roundO_hit {env:Env} {f:Fd} (h3:f.kind=3) (hk:(qK env f.src).k≤3):∀ (l:List Fd) (out:List Aw),f∈l→(oY env l out).any (fun p=>p.hit f.name (qK env f.src))=true
 | [],_,h=>by cases h
 | g :: l,out,h=>by
  show (oY env l (addO env out g)).any _=true
  rcases List.mem_cons.1 h with rfl | h
  ·obtain ⟨m,e⟩:=roundO_ext env l (addO env out f)
   rw [e]
   exact any_ext (addO_hit h3 hk)
  ·exact roundO_hit h3 hk l _ h
theorem hd_n4 {env:Env} {l:List Ex} (h:∀ y∈l,(qK env y).k≠4) (i:Nat):(hdV (sK env l) i).k≠4:=by
 unfold hdV
 rw [List.getD_eq_getElem?_getD,tK,List.getElem?_map]
 cases e:l[i]? with
 | none=>show (0:Int)≠4; decide
 | some y=>exact h y (List.mem_of_getElem? e)
theorem first_n4 {v:Vl} (h:v.k≠4):(oQ v).1.k≠4:=by
 unfold oQ
 split
 ·show (5:Int)≠4; decide
 ·exact h
theorem bool_n4 {v:Vl} (h:v.k≠4):(aK v).k≠4:=by
 unfold aK
 split
 ·show (5:Int)≠4; decide
 ·exact h
theorem apply_n4 (op:Int) (l:List Vl):(nJ op l).k≠4:=by
 unfold nJ joinV nrV truthV bQ
 repeat' split
 all_goals (first | (show (5:Int)≠4; decide) | (show (2:Int)≠4; decide) | (show (1:Int)≠4; decide) | (show (3:Int)≠4; decide))
theorem ev_n4 {env:Env} {x:Ex} (hw:WfE x) (hr:∀ s∈iY x,∀ v,env.get s=some v→v.k≠4):(qK env x).k≠4:=by
 revert hw hr
 refine ex_ind (p:=fun x=>WfE x→(∀ s∈iY x,∀ v,env.get s=some v→v.k≠4)→(qK env x).k≠4) (fun x ih hw hr=>?_) x
 rw [jY] at hr
 have ha:∀ y∈x.args,(qK env y).k≠4:=fun y hy=>ih y hy (hw.list.get hy) fun s hs=>hr s (List.mem_append_right _ (mem_refsL.2 ⟨y,hy,hs⟩))
 rw [evalE_eq]
 split
 ·rename_i h1
  have hk:qJ x.k x.n x.s:=by
   rcases hw.top with t | t | t
   ·exact t.2.1
   ·omega
   ·omega
  show x.k≠4
  unfold qJ at hk
  omega
 ·split
  ·rename_i h2
   cases g:env.get x.nm with
   | none=>show (5:Int)≠4; decide
   | some v=>exact hr x.nm (by rw [if_pos h2]; simp) v g
  ·split
   ·split
    ·exact first_n4 (hd_n4 ha 0)
    ·exact bool_n4 (hd_n4 ha 1)
   ·split
    ·split
     ·exact first_n4 (hd_n4 ha 0)
     ·split
      ·exact hd_n4 ha 1
      ·exact hd_n4 ha 2
    ·split
     ·rename_i u hu
      rcases (lack_some hu (fun w e=>by cases e)).2 with q | q
      ·cases q
      ·rw [tK] at q
       obtain ⟨y,hy,rfl⟩:=List.mem_map.1 q
       exact ha y hy
     ·exact apply_n4 _ _
section
variable {fs:List Fd} {inp:Env} {ρ:List Int} {lv:Nat→Nat} {os:List Nat}
def vR (fs:List Fd) (inp:Env) (os:List Nat) (r:Nat):List Vl:=allW fs inp (lX fs inp os r) os
theorem Wh.low (h:Wh fs inp ρ lv os) {i:Nat} {f:Fd} (hf:fs[i]?=some f) (hk:f.kind≠1) {s:ByteArray} (hs:s∈iY f.src):∃ (j:Nat) (g:Fd),fs[j]?=some g∧g.name=s∧lv j < lv i:=by
 obtain ⟨j,g,g1,g2,g3⟩:=lY h.ok hf hk hs
 obtain ⟨-,l2⟩:=h.ord.rank.low i (by rw [tW]; exact (List.getElem?_eq_some_iff.1 hf).1) j g3
 exact ⟨j,g,g1,g2,l2⟩
theorem Wh.keys (h:Wh fs inp ρ lv os) {v w:List Vl} (hv:v.length=fs.length) (hw:w.length=fs.length) {i:Nat} {f:Fd} (hf:fs[i]?=some f) (hk:f.kind≠1) (he:∀ j,lv j < lv i→v[j]?=w[j]?):qK (fcs fs v) f.src=qK (fcs fs w) f.src :=
 eval_local fun s hs=>by
  obtain ⟨j,g,g1,g2,g3⟩:=h.low hf hk hs
  have hj:=(List.getElem?_eq_some_iff.1 g1).1
  have e:=he j g3
  obtain ⟨a,ha⟩:∃ a,v[j]?=some a:=⟨_,List.getElem?_eq_getElem (by rw [hv]; exact hj)⟩
  rw [← g2,eQ h.ok.nodup g1 ha,eQ h.ok.nodup g1 (e ▸ ha)]
theorem Wh.settled (h:Wh fs inp ρ lv os):∀ r,(∀ i x,i < fs.length→lv i < r→(vR fs inp os r)[i]?=some x→x.k≠4)∧∀ i,lv i < r→(vR fs inp os (r + 1))[i]?=(vR fs inp os r)[i]?
 | 0=>⟨fun _ _ _ q=>by omega,fun _ q=>by omega⟩
 | r + 1=>by
  obtain ⟨i1,i2⟩:=h.settled r
  have s0:Sol fs inp (lX fs inp os r) (vR fs inp os r):=(h.sol (h.orc r)).1
  have s1:Sol fs inp (lX fs inp os (r + 1)) (vR fs inp os (r + 1)):=(h.sol (h.orc (r + 1))).1
  have s2:Sol fs inp (lX fs inp os (r + 2)) (vR fs inp os (r + 2)):=(h.sol (h.orc (r + 2))).1
  have hit:∀ i f,fs[i]?=some f→f.kind=3→lv i < r + 1→(qK (fcs fs (vR fs inp os (r + 1))) f.src).k≤3→(lX fs inp os (r + 1)).any (fun p=>p.hit f.name (qK (fcs fs (vR fs inp os (r + 1))) f.src))=true:=fun i f hf h3 hl hk=>by
   have e:=h.keys s1.len s0.len hf (by omega) (fun j hj=>i2 j (by omega))
   rw [e] at hk ⊢
   exact roundO_hit h3 hk fs _ (List.mem_of_getElem? hf)
  have n4:∀ i f,fs[i]?=some f→f.kind≠1→lv i < r + 1→(qK (fcs fs (vR fs inp os (r + 1))) f.src).k≠4:=fun i f hf hk hl=>by
   refine ev_n4 ((h.ok.each f (List.mem_of_getElem? hf)).wf hk).1 fun s hs v hg=>?_
   obtain ⟨j,g,g1,g2,g3⟩:=h.low hf hk hs
   have hj:=(List.getElem?_eq_some_iff.1 g1).1
   obtain ⟨a,ha⟩:∃ a,(vR fs inp os (r + 1))[j]?=some a:=⟨_,List.getElem?_eq_getElem (by rw [s1.len]; exact hj)⟩
   rw [← g2,eQ h.ok.nodup g1 ha] at hg
   rw [← Option.some.inj hg]
   exact i1 j a hj (by omega) (by rw [← i2 j (by omega)]; exact ha)
  constructor
  ·intro i x hi hl hx
   obtain ⟨f,hf⟩:∃ f,fs[i]?=some f:=⟨_,List.getElem?_eq_getElem hi⟩
   have e:=s1.at_ i f x hf hx
   have hF:=h.ok.each f (List.mem_of_getElem? hf)
   unfold aX at e
   by_cases g1:f.kind=1
   ·rw [if_pos g1] at e
    have hk:x.known:=e ▸ tell_ok h.known f.name hF.t1 hF.t3
    unfold Vl.known qJ at hk
    omega
   ·rw [if_neg g1] at e
    have hn:=n4 i f hf g1 hl
    by_cases g3:f.kind=3
    ·rw [if_pos g3] at e
     unfold askV at e
     split at e
     ·rename_i q
      obtain ⟨p,hp,ea⟩:=askL_has (hit i f hf g3 hl q)
      have hk:x.known:=by rw [e,ea]; exact ((h.orc (r + 1)).each p hp).has
      unfold Vl.known qJ at hk
      omega
     ·rw [e]; exact hn
    ·rw [if_neg g3] at e
     rw [e]; exact hn
  ·have key:∀ m i,lv i < m→lv i < r + 1→(vR fs inp os (r + 2))[i]?=(vR fs inp os (r + 1))[i]?:=fun m=>by
    induction m with
    | zero=>intro i q; omega
    | succ m ih =>
     intro i hm hl
     rcases Nat.lt_or_ge i fs.length with hi | hi
     ·obtain ⟨f,hf⟩:∃ f,fs[i]?=some f:=⟨_,List.getElem?_eq_getElem hi⟩
      obtain ⟨x,hx⟩:∃ x,(vR fs inp os (r + 2))[i]?=some x:=⟨_,List.getElem?_eq_getElem (by rw [s2.len]; exact hi)⟩
      obtain ⟨y,hy⟩:∃ y,(vR fs inp os (r + 1))[i]?=some y:=⟨_,List.getElem?_eq_getElem (by rw [s1.len]; exact hi)⟩
      rw [hx,hy,s2.at_ i f x hf hx,s1.at_ i f y hf hy]
      refine congrArg some ?_
      unfold aX
      by_cases g1:f.kind=1
      ·rw [if_pos g1,if_pos g1]
      ·have e:=h.keys s2.len s1.len hf g1 (fun j hj=>ih j (by omega) (by omega))
       rw [if_neg g1,if_neg g1,e]
       by_cases g3:f.kind=3
       ·rw [if_pos g3,if_pos g3]
        unfold askV
        split
        ·rename_i q
         obtain ⟨m2,em⟩:=roundO_ext (fcs fs (allW fs inp (lX fs inp os (r + 1)) os)) fs (lX fs inp os (r + 1))
         rw [show lX fs inp os (r + 2)=lX fs inp os (r + 1)++m2 from em]
         exact askL_app (hit i f hf g3 hl q)
        ·rfl
       ·rw [if_neg g3,if_neg g3]
     ·rw [List.getElem?_eq_none (by rw [s2.len]; exact hi),List.getElem?_eq_none (by rw [s1.len]; exact hi)]
   exact fun i hl=>key (lv i + 1) i (by omega) hl
theorem Wh.answered (h:Wh fs inp ρ lv os) (hl:∀ i,i < fs.length→lv i < fs.length):∀ x∈vR fs inp os fs.length,x.k≠4:=fun x hx=>by
 obtain ⟨i,hi⟩:=List.getElem?_of_mem hx
 have hlen:(vR fs inp os fs.length).length=fs.length:=(h.sol (h.orc fs.length)).1.len
 have hil:i < fs.length:=by rw [← hlen]; exact (List.getElem?_eq_some_iff.1 hi).1
 exact (h.settled fs.length).1 i x hil (hl i hil) hi
open Classical in
theorem get_keep (R:List ByteArray) (s:ByteArray):∀ l:Env,Env.get (l.filter fun p=>decide (p.1∈R)) s=if s∈R then l.get s else none
 | []=>by simp [Env.get]
 | (k,v) :: l=>by
  have ih:=get_keep R s l
  by_cases hk:k∈R
  ·rw [List.filter_cons_of_pos (by simpa using hk)]
   by_cases e:s=k
   ·subst e
    rw [env_hit,env_hit,if_pos hk]
   ·rw [env_miss _ _ e,env_miss _ _ e,ih]
  ·rw [List.filter_cons_of_neg (by simpa using hk),ih]
   by_cases hs:s∈R
   ·rw [if_pos hs,if_pos hs,env_miss _ _ (fun e:s=k=>hk (e ▸ hs))]
   ·rw [if_neg hs,if_neg hs]
open Classical in
theorem eval_growsR {e1 e2:Env} {x:Ex} (h:∀ s∈iY x,∃ w v,e1.get s=some w∧e2.get s=some v∧Grows w v) (hx:WfE x):Grows (qK e1 x) (qK e2 x):=by
 have g1:qK e1 x=qK (e1.filter fun p=>decide (p.1∈iY x)) x:=eval_local fun s hs=>by rw [get_keep,if_pos hs]
 have g2:qK e2 x=qK (e2.filter fun p=>decide (p.1∈iY x)) x:=eval_local fun s hs=>by rw [get_keep,if_pos hs]
 rw [g1,g2]
 refine eval_grows (fun s=>?_) hx
 rw [get_keep,get_keep]
 by_cases hs:s∈iY x
 ·rw [if_pos hs,if_pos hs]; exact .inr (h s hs)
 ·rw [if_neg hs,if_neg hs]; exact .inl ⟨rfl,rfl⟩
end
end Go.Proofs.YtmoahpojchndiaaGreat
namespace Go.Proofs.YtmoahpojchndiaaGreat
open Go.RowKit
set_option linter.unusedVariables false
theorem fcs_snoc:∀ {fs:List Fd} {vs:List Vl} (f:Fd) (v:Vl),vs.length=fs.length→fcs (fs++[f]) (vs++[v])=fcs fs vs++[(f.name,v)]
 | [],[],f,v,_=>rfl
 | g :: fs,x :: vs,f,v,h=>by
  show _ :: fcs (fs++[f]) (vs++[v])=_
  rw [fcs_snoc f v (by simpa using h)]; rfl
 | [],_ :: _,_,_,h=>by simp at h
 | _ :: _,[],_,_,h=>by simp at h
theorem fcs_ok {fs:List Fd} {vs:List Vl} (h:∀ x∈vs,OkV x):∀ p∈fcs fs vs,OkV p.2:=by
 induction fs generalizing vs with
 | nil=>intro p hp; cases hp
 | cons f fs ih =>
  cases vs with
  | nil=>intro p hp; cases hp
  | cons v vs =>
   intro p hp
   rcases List.mem_cons.1 hp with rfl | hp
   ·exact h v (by simp)
   ·exact ih (fun x hx=>h x (by simp [hx])) p hp
set_option maxHeartbeats 4000000 in
theorem facts_l (fs:List Fd) (va:List Vl) (A:Option Addr) (n c:Nat) (A1:Option Addr) (c1:Nat) (h:Vw) (hf:IsFds h (.slice A n c) fs) (hn:n=fs.length) (few:n≤1000) (ha:RS h 3 (.slice A1 n c1) (wZ va)) (la:va.length=n) :
  C0 Tryz.prog 67 #[.slice A n c,.slice A1 n c1] h (fun r h'=>∃ u,r=.slice (sA u) (sN u) (sC u)∧RS h' 7 (.slice (sA u) (sN u) (sC u)) (dQ (fcs fs va))):=by
 obtain ⟨vs,A',c',e,-,-,hr,hs,hvl,hsl⟩:=jQ hf
 simp only [Value.slice.injEq] at e
 obtain ⟨rfl,-,rfl⟩:=e
 rw [← hn] at hr hvl
 have hfl:=fun k (q:k≤n)=>fcs_len (fs:=fs.take k) (v:=va.take k) (by simp; omega)
 refine yQ Tryz.func67 (c:=Tryz.f67.body.getD .skip) (N:=31) ?_
 intro hbx hbad Q hQ
 refine go0 19 [] [] ?_
 refine kV 51 7 ?_
 refine gV [0,1,0,1,1] [.block 0,.seq [1,1,1]] (fun (k:Nat) X=>∃ (W1:Vw) (v:Value),X W1 [(1,.slice A1 n c1),(8,.slice A n c),(9,Vi (n:Int)),(10,Vi (k:Int)),(5,v)] [.row v 51 7 (dQ (fcs (fs.take k) (va.take k)))] []∧Sees h W1∧(k≤n)) (fun k=>n - k) (0) (fun X q=>⟨h,(Vz),q _ _ _ _ ⟨rfl,by kernel_rfl⟩,Sees.refl _,Nat.zero_le _⟩) ?_
 rintro k a w ⟨W1,v,hJ,S2,hk⟩; refine lV hJ ?_; clear hJ a w
 refine go0 6 [] [] ?_
 rcases (by omega:k < n∨k=n) with hlt | hke
 ·obtain ⟨x,hx⟩:∃ x,fs[k]?=some x:=⟨_,List.getElem?_eq_getElem (by omega)⟩
  obtain ⟨u,hu⟩:∃ u,vs[k]?=some u:=⟨_,List.getElem?_eq_getElem (by omega)⟩
  obtain ⟨xa,hxa⟩:∃ y,va[k]?=some y:=⟨_,List.getElem?_eq_getElem (by omega)⟩
  have hrow:=gQ hx hu
  have hra:=vlRows_get hxa
  obtain ⟨Au,nu,cu,rfl⟩:=(AllArgs.get hs (x:=x.src) (by rw [List.getElem?_map,hx]; rfl) hu).slice
  have hsn:=fcs_snoc (fs:=fs.take k) (vs:=va.take k) x xa (by simp; omega)
  rw [← pZ _ k x hx,← pZ _ k xa hxa] at hsn
  have hl2:=hfl k hk
  rw [List.length_take] at hl2
  have hl3:(dQ (fcs (fs.take k) (va.take k))).length=(fcs (fs.take k) (va.take k)).length:=List.length_map _
  refine qV (t:=decide ((k:Int) < (n:Int))) (decide_eq_true (by omega)) ?_
  refine go0 7 [] [] ?_
  obtain ⟨b3,o4,rfl,-,c5⟩:=RS.row hr (hrow)
  refine zQ (c5.sees S2) ?_
  refine go1 16 [.ix b3 o4 n c k,.f 0 0,.own,.b 0 0] [(18,.bool (decide ((k:Int) < (n:Int))),.bool true)] ?_ (ho:=(And.intro (by first | omega | (simp; omega)) (trivial))) (hc:=(And.intro (congrArg Value.bool (decide_eq_true (by omega))) (trivial)))
  intro b6
  obtain ⟨b7,o8,rfl,-,c9⟩:=RS.row ha (hra)
  refine zQ (c9.sees S2) ?_
  refine nV 11 0 [.pu,.pu,.ld 0 0,.pu,.pu,.v (fun gh=>.pointer (some ⟨b7,o8 + k * 3,none⟩)),.lf 0 0,.pu,.f (fun gh=>.slice (some ⟨(yJ (gh 8)),0,none⟩) 1 1) (fun gh hh=>Cells hh (yJ (gh 8)) 0 [.string x.name,Vi 0,Vi 0,Ve,Vi xa.k,Vi xa.n,.string xa.s]),.e (fun gh=>.slice (sA (gh 9)) (sN (gh 9)) (sC (gh 9))) 1 (fun gh=>.row (.slice (sA (gh 9)) (sN (gh 9)) (sC (gh 9))) 51 7 ((dQ (fcs (fs.take k) (va.take k)))++[[.string x.name,Vi 0,Vi 0,Ve,Vi xa.k,Vi xa.n,.string xa.s]])),.pu] [(8,true),(9,false)] (And.intro (fun _ _ _ s c=>c.sees s) (trivial)) ?_ ?_
  ·intro R hT hA hmono
   refine And.intro (oZ hT hA b7 o8 n c1 k (fun gh=>.pointer (some ⟨b7,o8 + k * 3,none⟩)) (by first | omega | (simp; omega))) ?_
   refine And.intro (r_fact hT hA hmono ⟨fun _ _=>by kernel_rfl,fun _ _=>by kernel_rfl,fun _ _=>by kernel_rfl⟩ 27 (fun g=>Vs g 1 1) [7] 8 (by kernel_rfl) (by kernel_rfl) (fun _=>by kernel_rfl) (fun gh=>[.string x.name,Vi 0,Vi 0,Ve,Vi xa.k,Vi xa.n,.string xa.s]) 51 (fun _ _=>by kernel_rfl) (fun gh zb zH zc zj zq zhq zhe=>oX (i:=8) (k:=0) (f:=fun gh hh=>Cells hh (yJ (gh 8)) 0 [.string x.name,Vi 0,Vi 0,Ve,Vi xa.k,Vi xa.n,.string xa.s]) (by kernel_rfl) (by kernel_rfl) zc zj zq zhq zhe)) ?_
   refine And.intro (aY hT hA hmono ⟨fun _ _=>by kernel_rfl,fun _ _=>by kernel_rfl,fun _ _=>by kernel_rfl⟩ 28 [0,8] 9 1 (GN R 1) (fun gh=>v) 30 51 7 (fun gh=>dQ (fcs (fs.take k) (va.take k))) (fun gh=>[[.string x.name,Vi 0,Vi 0,Ve,Vi xa.k,Vi xa.n,.string xa.s]]) (.tmp 19) (.tmp 27) (fun gh=>(yJ (gh 8))) 1 1 0 8 (fun gh hh=>Cells hh (yJ (gh 8)) 0 [.string x.name,Vi 0,Vi 0,Ve,Vi xa.k,Vi xa.n,.string xa.s]) (fun _ _ c=>c) Tryz.underlying30 (zv:=.agg #[Ve,Vi 0,Vi 0,Ve,Vi 0,Vi 0,Ve]) (bytes:=80) (fun _=>by constructor <;> (simp; omega))) ?_
   trivial
  rintro b11 v28 W12 S13 ⟨f10,-⟩
  replace f10:Cells W12 b11 0 [.string x.name,Vi 0,Vi 0,Ve,Vi xa.k,Vi xa.n,.string xa.s]:=f10
  refine zQ f10 ?_
  refine go0 6 [] [(29,Vi (IntKind.i64.wrap ((k:Int) + 1)),Vi ((k:Int) + 1))] ?_ (hc:=(And.intro (jJ (by omega) (by omega)) (trivial)))
  refine eV [(1,.slice (some ⟨b7,o8,none⟩) n c1),(8,.slice (some ⟨b3,o4,none⟩) n c),(9,Vi (n:Int)),(5,.slice (sA v28) (sN v28) (sC v28)),(10,Vi ((k:Int) + 1))] [.row (.slice (sA v28) (sN v28) (sC v28)) 51 7 ((dQ (fcs (fs.take k) (va.take k)))++[[.string x.name,Vi 0,Vi 0,Ve,Vi xa.k,Vi xa.n,.string xa.s]])] [] ?_
  exact pV (k + 1) (fun X q=>⟨W12,.slice (sA v28) (sN v28) (sC v28),q _ _ _ _ (cZ (by rw [hsn,fcRows_snoc]; try rfl)),(S2.trans S13),by omega⟩) (by omega)
 ·skip
  have t1:fs.take k=fs:=by rw [hke,hn,List.take_length]
  have t2:va.take k=va:=by rw [hke,← la,List.take_length]
  rw [t1,t2]
  have hrl:(dQ (fcs fs va)).length=(fcs fs va).length:=List.length_map _
  refine cV 0 (v:=v) (e:=51) (kk:=7) (l:=dQ (fcs fs va)) ?_; intro Ar cr hE_v hc_v hm_v
  rw [show (dQ (fcs fs va)).length=(fcs fs va).length from by first | omega | (simp; done) | (simp; omega)] at hE_v hc_v
  rw [hE_v]
  refine aV (t:=decide ((k:Int) < (n:Int))) (decide_eq_false (by omega)) ?_
  refine go0 2 [] [] ?_
  refine fV ?_
  refine go0 9 [] [] ?_
  refine eV [(4,.slice Ar ((fcs fs va).length) cr)] [.row (.slice Ar ((fcs fs va).length) cr) 51 7 (dQ (fcs fs va))] [] ?_
  refine hQ.toJ [.slice Ar ((fcs fs va).length) cr] [] (fun a w hJ=>?_)
  have fr:=hJ.j.rowOut0 (v:=.slice Ar ((fcs fs va).length) cr) (e:=51) (k:=7) (l:=dQ (fcs fs va)) 0 (by kernel_rfl) rfl
  exact ⟨.slice Ar (fcs fs va).length cr,rfl,fr⟩
theorem run_rem9 {P:Program} {t:TypeId} (a:Int) (w:World):(binOp .rem t (.int .i64 a) (.int .i64 9)).run P w=.ok (.int .i64 (Int.tmod a 9)) w:=by
 simp [binOp,Op.intDiv]
theorem run_hiS {P:Program} {o:Oper} {ρ:Operand→Value} {t:TypeId} {x y:Operand} {s:ByteArray} {k:Int} (w:World) (ho:o.op=.slice t x none (some y) none) (hx:ρ x=.string s) (hy:ρ y=.int .i64 k) (h0:0≤k) (hk:k≤s.size) (ht:P.underlying t=some .string) :
  (execOp ρ o).run P w=.ok (.value (.string (s.extract 0 k.toNat))) w:=by
 unfold execOp
 simp only [ho,hx,hy,Option.map_some,Option.map_none]
 simp [run_sliceAt_string (w:=w) t _ _ _ _ ht,run_slice_string_h (w:=w) t s ht .i64 k h0 hk]
set_option maxHeartbeats 4000000 in
theorem answered_any (f:Fd) (A:Option Addr) (n c:Nat) (key:Vl) (h:Vw) (hn:f.name.size≤10) (hk:key.s.size≤40) (t1:1≤f.ty) (t3:f.ty≤3):C0 Tryz.prog 64 #[.agg #[.string f.name,.int .i64 f.kind,.int .i64 f.ty,.int .i64 f.src.op,.int .i64 f.src.k,.int .i64 f.src.n,.string f.src.s,.string f.src.nm,.slice A n c],.agg #[.int .i64 key.k,.int .i64 key.n,.string key.s]] h (fun r _=>r=(vJ f key).val):=by
 have hr:=ansN_lo f key hn hk
 have hp2:=fun H=>cK (ansN f key) 2 H (by omega) (by omega) (by omega) (by omega)
 have hp9:=fun H=>cK (ansN f key) 9 H (by omega) (by omega) (by omega) (by omega)
 have p0:=xX (ansN f key) 9 (by omega)
 have p1:=wX (ansN f key) 9 (by omega)
 have habc:abcB.size=9:=rfl
 have e:ansN f key=Int.tmod key.n 9 + 3 * (key.s.size:Int) + (f.name.size:Int):=rfl
 have hs0:(0:Int)≤(key.s.size:Int):=Int.natCast_nonneg _
 have hrem:key.n % 9=key.n % 9:=rfl
 obtain g | g | g:f.ty=1∨f.ty=2∨f.ty=3:=by omega
 ·have ea:vJ f key=⟨1,ansN f key,⟨#[]⟩⟩:=by unfold vJ; rw [if_pos g]
  rw [ea]
  generalize ansN f key=N at *
  refine yQ Tryz.func64 (c:=Tryz.f64.body.getD .skip) (N:=36) ?_
  intro hbx hbad Q hQ
  refine go3 11 [.own,.own,.own,.b 1 1] [] ?_
  intro b1 b2 b3
  refine mV (Vi (Int.tmod key.n 9)) (fun w=>run_bin (op:=.rem) (t:=3) (x:=(.tmp 7)) (y:=(.const (Vi 9))) (yt:=3) (by kernel_rfl) (by kernel_rfl) (by kernel_rfl) (by kernel_rfl) (run_rem9 key.n w)) ?_
  refine go0 37 [.b 1 2,.b 2 0,.b 2 2,.b 0 0] [(12,Vi (IntKind.i64.wrap (3 * (key.s.size:Int))),Vi (3 * (key.s.size:Int))),(13,Vi (IntKind.i64.wrap (Int.tmod key.n 9 + (3 * (key.s.size:Int)))),Vi (Int.tmod key.n 9 + (3 * (key.s.size:Int)))),(17,Vi (IntKind.i64.wrap ((Int.tmod key.n 9 + (3 * (key.s.size:Int))) + (f.name.size:Int))),Vi N),(21,.bool (f.ty == 1),.bool true)] ?_ (hc:=(And.intro (jJ (by omega) (by omega)) (And.intro (jJ (by omega) (by omega)) (And.intro ((jJ (by omega) (by omega)).trans (congrArg (Value.int .i64) e.symm)) (And.intro (congrArg Value.bool (beq_iff_eq.2 g)) (trivial))))))
  refine hQ.to [.agg #[Vi 1,Vi N,Ve]] (fun H sH=>?_) (ix:=[0])
  exact rfl
 ·have ea:vJ f key=⟨2,cJ (ansN f key) 2,⟨#[]⟩⟩:=by unfold vJ; rw [if_neg (by omega),if_pos g]
  rw [ea]
  generalize ansN f key=N at *
  refine yQ Tryz.func64 (c:=Tryz.f64.body.getD .skip) (N:=36) ?_
  intro hbx hbad Q hQ
  refine go3 11 [.own,.own,.own,.b 1 1] [] ?_
  intro b1 b2 b3
  refine mV (Vi (Int.tmod key.n 9)) (fun w=>run_bin (op:=.rem) (t:=3) (x:=(.tmp 7)) (y:=(.const (Vi 9))) (yt:=3) (by kernel_rfl) (by kernel_rfl) (by kernel_rfl) (by kernel_rfl) (run_rem9 key.n w)) ?_
  refine go0 45 [.b 1 2,.b 2 0,.b 2 2,.cl 19 #[Vi N,Vi 2] (Vi (cJ N 2)),.b 0 0] [(12,Vi (IntKind.i64.wrap (3 * (key.s.size:Int))),Vi (3 * (key.s.size:Int))),(13,Vi (IntKind.i64.wrap (Int.tmod key.n 9 + (3 * (key.s.size:Int)))),Vi (Int.tmod key.n 9 + (3 * (key.s.size:Int)))),(17,Vi (IntKind.i64.wrap ((Int.tmod key.n 9 + (3 * (key.s.size:Int))) + (f.name.size:Int))),Vi N),(21,.bool (f.ty == 1),.bool false),(25,.bool (f.ty == 2),.bool true)] ?_ (ho:=(And.intro (fun H sH=>hp2 _) (trivial))) (hc:=(And.intro (jJ (by omega) (by omega)) (And.intro (jJ (by omega) (by omega)) (And.intro ((jJ (by omega) (by omega)).trans (congrArg (Value.int .i64) e.symm)) (And.intro (congrArg Value.bool (beq_eq_false_iff_ne.2 (by omega))) (And.intro (congrArg Value.bool (beq_iff_eq.2 g)) (trivial)))))))
  refine hQ.to [.agg #[Vi 2,Vi (cJ N 2),Ve]] (fun H sH=>?_) (ix:=[0])
  exact rfl
 ·have ea:vJ f key=⟨3,0,f.name++abcB.extract 0 (cJ (ansN f key) 9).toNat⟩:=by unfold vJ; rw [if_neg (by omega),if_neg (by omega)]
  rw [ea]
  have hcut:=fun (ρ:Operand→Value) (o:Oper) (x y:Operand) (w:World) q1 q2 q3=>run_hiS (P:=Tryz.prog) (o:=o) (ρ:=ρ) (t:=9) (x:=x) (y:=y) (s:=abcB) (k:=cJ (ansN f key) 9) w q1 q2 q3 p0 (by rw [habc]; omega) Tryz.underlying9
  generalize ansN f key=N at *
  generalize cJ N 9=q at *
  have hcs:=(abc_print q.toNat).1
  refine yQ Tryz.func64 (c:=Tryz.f64.body.getD .skip) (N:=36) ?_
  intro hbx hbad Q hQ
  refine go3 11 [.own,.own,.own,.b 1 1] [] ?_
  intro b1 b2 b3
  refine mV (Vi (Int.tmod key.n 9)) (fun w=>run_bin (op:=.rem) (t:=3) (x:=(.tmp 7)) (y:=(.const (Vi 9))) (yt:=3) (by kernel_rfl) (by kernel_rfl) (by kernel_rfl) (by kernel_rfl) (run_rem9 key.n w)) ?_
  refine go0 38 [.b 1 2,.b 2 0,.b 2 2] [(12,Vi (IntKind.i64.wrap (3 * (key.s.size:Int))),Vi (3 * (key.s.size:Int))),(13,Vi (IntKind.i64.wrap (Int.tmod key.n 9 + (3 * (key.s.size:Int)))),Vi (Int.tmod key.n 9 + (3 * (key.s.size:Int)))),(17,Vi (IntKind.i64.wrap ((Int.tmod key.n 9 + (3 * (key.s.size:Int))) + (f.name.size:Int))),Vi N),(21,.bool (f.ty == 1),.bool false),(25,.bool (f.ty == 2),.bool false)] ?_ (hc:=(And.intro (jJ (by omega) (by omega)) (And.intro (jJ (by omega) (by omega)) (And.intro ((jJ (by omega) (by omega)).trans (congrArg (Value.int .i64) e.symm)) (And.intro (congrArg Value.bool (beq_eq_false_iff_ne.2 (by omega))) (And.intro (congrArg Value.bool (beq_eq_false_iff_ne.2 (by omega))) (trivial)))))))
  refine nV 8 0 [.pu,.ld 2 0,.pu,.v (fun gh=>Vi q),.v (fun gh=>.string (abcB.extract 0 q.toNat)),.v (fun gh=>.string (f.name++abcB.extract 0 q.toNat)),.pu,.st 0 0] [] (trivial) ?_ ?_
  ·intro R hT hA hmono
   refine And.intro (t_v hT hA hmono (k:=19) (args:=(fun gh=>#[Vi N,Vi 9])) (f:=fun gh=>Vi q) (fun gh H sH fH lent=>hp9 _)) ?_
   refine And.intro (t_p hT hA (fun gh=>.string (abcB.extract 0 q.toNat)) (fun gh w=>hcut _ _ (.const (.string abcB)) (.tmp 32) w (by kernel_rfl) (by kernel_rfl) (by kernel_rfl))) ?_
   refine And.intro (t_p hT hA (fun gh=>.string (f.name++abcB.extract 0 q.toNat)) (fun gh w=>run_bin (op:=.add) (t:=9) (x:=(.tmp 30)) (y:=(.tmp 33)) (yt:=9) (by kernel_rfl) (by kernel_rfl) (by kernel_rfl) (by kernel_rfl) (run_cat (by omega)))) ?_
   trivial
  rintro W4 S5 -
  refine go0 2 [] [] ?_
  refine hQ.to [.agg #[Vi 3,Vi 0,.string (f.name++abcB.extract 0 q.toNat)]] (fun H sH=>?_) (ix:=[0])
  exact rfl
end Go.Proofs.YtmoahpojchndiaaGreat
namespace Go.Proofs.YtmoahpojchndiaaGreat
open Go.RowKit
set_option linter.unusedVariables false
theorem begE_m (l:List RawD) {p:Pol} (hp:p.ok):MOk (qQ l) p (rhoL (sW (qQ l).fields)) (lvF l) 0 (begE l p) (begL l p):=by
 have h0:=newE_ok (form_okFm l) (form_one l) hp
 obtain ⟨f1,f2,f3⟩:=setE_few h0
 have e:(uW (qQ l) p).last=0:=rfl
 refine ⟨begE_ok l hp,begE_settled l hp,rfl,rfl,by show (0:Int)≤_; omega,by show (dZ (uW (qQ l) p) _).last≤_; omega,Nat.le_refl 0,by show (dZ (uW (qQ l) p) _).out.length≤_; omega,fun x hx=>?_⟩
 obtain ⟨a,-,c⟩:=setE_out h0 x hx
 exact ⟨a,c⟩
end Go.Proofs.YtmoahpojchndiaaGreat
namespace Go.Proofs.YtmoahpojchndiaaGreat
open Go.RowKit
set_option linter.unusedVariables false
theorem take_notin {os:List Nat} (hn:os.Nodup) {t i:Nat} (ht:os[t]?=some i):i ∉ os.take t:=fun q=>by
 obtain ⟨htl,-⟩:=List.getElem?_eq_some_iff.1 ht
 obtain ⟨u,hu⟩:=List.getElem?_of_mem q
 have hut:u < t:=by
  rcases Nat.lt_or_ge u t with q | q
  ·exact q
  ·rw [List.getElem?_eq_none (by rw [List.length_take]; omega)] at hu; cases hu
 rw [List.getElem?_take_of_lt hut] at hu
 have:=(List.getElem?_inj (by omega) hn).1 (hu.trans ht.symm)
 omega
theorem set_call {E:Eg} {ρ:List Int} {lv:Nat→Nat} (hok:EgOk E ρ lv) (hl:(dZ E ρ).last≤1073741810) {i:Nat} {f:Fd} {c:Cl} (hf:E.fm.fields[i]?=some f) (h3:f.kind=3) (hc:E.calls[i]?=some c) :
  ∃ id,E.last < id∧(eZ E ρ).calls[i]?=some (sZ E.pol id E.now (qK (fcs E.fm.fields (eZ E ρ).vals) f.src) c).1:=by
 have few:=hok.fm.fields.few
 have one:=hok.one
 have l1:=hok.l1
 have hod:Ordd E.fm.fields ρ lv (mX ρ E.fm.fields.length):=nX hok.fm.rank (by omega)
 have hnd:=ordL_nodup hod
 have hil:=(List.getElem?_eq_some_iff.1 hf).1
 obtain ⟨t,ht⟩:=List.getElem?_of_mem (hod.perm.mem_iff.2 (List.mem_range.2 hil))
 have htl:=(List.getElem?_eq_some_iff.1 ht).1
 have hok':=settE_ok hok hl
 have hse':=settE_settled hok
 obtain ⟨hkn,hv⟩:=settled_all hok' hse'
 have ev:=(ev_turn hok'.fm.fields hok'.ki (orcC_has hok'.calls) hod ht hf (by omega)).1
 have hkn:=hkn t (by show t≤(mX ρ E.fm.fields.length).length; omega)
 have ev:qK (vY E.fm.fields E.inp (orcC E.fm.fields (eZ E ρ).calls) ((mX ρ E.fm.fields.length).take t)).2 f.src=qK (fcs E.fm.fields (eZ E ρ).vals) f.src:=by rw [hv]; exact ev
 have hfx:=runS_fix E.fm.fields E.pol E.now E.inp ⟨E.calls,E.vals,[],E.last,[]⟩ hnd hok.calls.len hok.vlen rfl E.now (dZ E ρ).last t (by omega)
 have hkn:(vY E.fm.fields E.inp (orcC E.fm.fields (eZ E ρ).calls) ((mX ρ E.fm.fields.length).take t)).2=(uY E.fm.fields E.pol E.now E.inp ⟨E.calls,E.vals,[],E.last,[]⟩ ((mX ρ E.fm.fields.length).take t)).kn:=by
  have hk2:=congrArg Sst.kn hfx
  exact hkn.trans hk2
 rw [hkn] at ev
 have I:=runS_inv (s0:=⟨E.calls,E.vals,[],E.last,[]⟩) (os:=mX ρ E.fm.fields.length) hok.pol hok.fm.fields hok.ki hok.n0 hok.n1 hok.calls hok.vlen rfl hok.l0 (by rw [hod.len]; show E.last + _≤_; omega) (fun i q=>hod.lt q) t (by omega)
 have hfin:=(run_final E.fm.fields E.pol E.now E.inp ⟨E.calls,E.vals,[],E.last,[]⟩ hnd ht).1
 rw [runS_at _ _ _ _ _ _ t i ht] at hfin
 have hsm:=I.same i (take_notin hnd ht)
 have hlo:=I.lo
 have hlen:=I.calls.len
 simp only at hsm hlo
 generalize uY E.fm.fields E.pol E.now E.inp ⟨E.calls,E.vals,[],E.last,[]⟩ ((mX ρ E.fm.fields.length).take t)=s at *
 rw [hc] at hsm
 rw [iZ hf h3 hsm ev rfl] at hfin
 simp only at hfin
 rw [List.getElem?_set_self (by omega)] at hfin
 exact ⟨s.last + 1,by omega,hfin⟩
structure Lst (fm:Fm) (p:Pol) (ρ:List Int) (lv:Nat→Nat) (m:Nat) (E:Eg):Prop where
 ok:EgOk E ρ lv
 se:Settled E ρ
 efm:E.fm=fm
 epol:E.pol=p
 inp:E.inp=[]
 now:E.now≤p.c * m
 last:E.last≤14 + 14 * m
 soon:∀ c∈E.calls,c.st=1→c.nx≤E.now + p.c
 idle:∀ (i:Nat) (f:Fd) (c:Cl),fm.fields[i]?=some f→f.kind≠3→E.calls[i]?=some c→c=clZ
section
variable {fm:Fm} {p:Pol} {ρ:List Int} {lv:Nat→Nat} {E:Nat→Eg}
end
theorem none_pending {E:Eg} {ρ:List Int} {lv:Nat→Nat} (hok:EgOk E ρ lv) (hse:Settled E ρ) (hn:∀ c∈E.calls,c.st≠1):∀ x∈E.vals,x.k≠4:=by
 have S:=settled_sol hok hse
 have key:∀ d (i:Nat) (x:Vl),lv i < d→E.vals[i]?=some x→x.k≠4:=fun d=>by
  induction d with
  | zero=>intro i x h; omega
  | succ d ih =>
   intro i x hd hx
   have hil:i < E.fm.fields.length:=by rw [← hok.vlen]; exact (List.getElem?_eq_some_iff.1 hx).1
   obtain ⟨f,hf⟩:∃ f,E.fm.fields[i]?=some f:=⟨_,List.getElem?_eq_getElem hil⟩
   have hF:=hok.fm.fields.each f (List.mem_of_getElem? hf)
   by_cases k1:f.kind=1
   ·rw [S.sol.at_ i f x hf hx]
    unfold aX
    rw [if_pos k1]
    have:=tell_ok hok.ki f.name hF.t1 hF.t3
    rcases this with ⟨e,-⟩ | ⟨e,-⟩ | ⟨e,-⟩ <;> omega
   ·have he:(qK (fcs E.fm.fields E.vals) f.src).k≠4:=ev_n4 (hF.wf k1).1 fun s hs v hv=>by
     obtain ⟨j,g,g1,g2,g3⟩:=lY hok.fm.fields hf k1 hs
     have hl:=(hok.fm.rank.low i (by rw [tW]; exact hil) j g3).2
     obtain ⟨a,ha⟩:∃ a,E.vals[j]?=some a:=⟨_,List.getElem?_eq_getElem (by rw [hok.vlen]; exact (List.getElem?_eq_some_iff.1 g1).1)⟩
     rw [← g2,eQ hok.fm.fields.nodup g1 ha] at hv
     rw [← Option.some.inj hv]
     exact ih j a (by omega) ha
    by_cases h3:f.kind=3
    ·obtain ⟨c,hc⟩:∃ c,E.calls[i]?=some c:=⟨_,List.getElem?_eq_getElem (by rw [hok.calls.len]; exact hil)⟩
     have v:=(S.call i f c hf h3 hc).2.2
     rw [hx] at v
     rw [Option.some.inj v]
     have hco:=(hok.calls.at_ i f c hf hc).1
     unfold jW
     by_cases s0:c.st=0
     ·rw [if_pos s0]; exact he
     ·rw [if_neg s0]
      have hb:=hco.live s0
      have s1:=hb.s1
      have s3:=hb.s3
      have:=hn c (List.mem_of_getElem? hc)
      unfold ansC
      by_cases s2:c.st=2
      ·rw [if_pos s2]
       rcases (hb.knw s2).1 with ⟨e,-⟩ | ⟨e,-⟩ | ⟨e,-⟩ <;> omega
      ·rw [if_neg s2,if_pos (by omega)]; show (5:Int)≠4; decide
    ·rw [S.sol.at_ i f x hf hx]
     unfold aX
     rw [if_neg k1,if_neg h3]
     exact he
 intro x hx
 obtain ⟨i,hi⟩:=List.getElem?_of_mem hx
 exact key (lv i + 1) i x (by omega) hi
end Go.Proofs.YtmoahpojchndiaaGreat
namespace Go.Proofs.YtmoahpojchndiaaGreat
open Go.RowKit
set_option linter.unusedVariables false
theorem grows_refl (v:Vl):Grows v v:=.inr (.inl rfl)
theorem hear_keeps {E:Eg} {ρ:List Int} {lv:Nat→Nat} (hok:EgOk E ρ lv) (hse:Settled E ρ) {i0:Nat} {f0:Fd} {x:Lt} {c0:Cl} (hf0:E.fm.fields[i0]?=some f0) (hc0:E.calls[i0]?=some c0) (hx:OkV x.ans) (ht:Takes f0 x c0) (hl:(dZ (wV E i0 x c0) ρ).last≤1073741810) :
  ∀ d (i:Nat) (f:Fd),lv i < d→E.fm.fields[i]?=some f→(∀ a b,E.vals[i]?=some a→(eZ (wV E i0 x c0) ρ).vals[i]?=some b→Grows a b) ∧
   (f.kind=3→∀ c,(wV E i0 x c0).calls[i]?=some c→(c.st≠0→(eZ (wV E i0 x c0) ρ).calls[i]?=some c)∧(c.st=0→(eZ (wV E i0 x c0) ρ).calls[i]?=some clZ∨∃ id key nx,E.last < id∧(eZ (wV E i0 x c0) ρ).calls[i]?=some ⟨1,id,1,key,zV,nx⟩)):=fun d=>by
 have hok1:=hearE_ok hok hf0 hc0 hx ht
 have S:=settled_sol hok hse
 have S2:=settled_sol (settE_ok hok1 hl) (settE_settled hok1)
 have hv2:=(settE_ok hok1 hl).vlen
 induction d with
 | zero=>intro i f h; omega
 | succ d ih =>
  intro i f hd hf
  have hF:=hok.fm.fields.each f (List.mem_of_getElem? hf)
  have hil:=(List.getElem?_eq_some_iff.1 hf).1
  have hg:f.kind≠1→Grows (qK (fcs E.fm.fields E.vals) f.src) (qK (fcs E.fm.fields (eZ (wV E i0 x c0) ρ).vals) f.src):=fun k1=>by
   refine eval_growsR (fun s hs=>?_) (hF.wf k1).1
   obtain ⟨j,g,g1,g2,g3⟩:=lY hok.fm.fields hf k1 hs
   have hlj:=(hok.fm.rank.low i (by rw [tW]; exact hil) j g3).2
   have hjl:=(List.getElem?_eq_some_iff.1 g1).1
   obtain ⟨a,ha⟩:∃ a,E.vals[j]?=some a:=⟨_,List.getElem?_eq_getElem (by rw [hok.vlen]; exact hjl)⟩
   obtain ⟨b,hb⟩:∃ b,(eZ (wV E i0 x c0) ρ).vals[j]?=some b:=⟨_,List.getElem?_eq_getElem (by rw [hv2]; exact hjl)⟩
   exact ⟨a,b,by rw [← g2]; exact eQ hok.fm.fields.nodup g1 ha,by rw [← g2]; exact eQ hok.fm.fields.nodup g1 hb,(ih j g (by omega) g1).1 a b ha hb⟩
  by_cases h3:f.kind=3
  ·have hg:=hg (by omega)
   obtain ⟨c,hc⟩:∃ c,E.calls[i]?=some c:=⟨_,List.getElem?_eq_getElem (by rw [hok.calls.len]; exact hil)⟩
   obtain ⟨c1,hc1⟩:∃ c,(wV E i0 x c0).calls[i]?=some c:=⟨_,List.getElem?_eq_getElem (by rw [hok1.calls.len]; exact hil)⟩
   obtain ⟨id,hid,e2⟩:=set_call hok1 hl hf h3 hc1
   obtain ⟨s1,s2,s3⟩:=S.call i f c hf h3 hc
   have e2:(eZ (wV E i0 x c0) ρ).calls[i]?=some (sZ E.pol id E.now (qK (fcs E.fm.fields (eZ (wV E i0 x c0) ρ).vals) f.src) c1).1:=e2
   obtain ⟨c2,hc2⟩:∃ c2,(eZ (wV E i0 x c0) ρ).calls[i]?=some c2:=⟨_,e2⟩
   have s3':=(S2.call i f c2 hf h3 hc2).2.2
   have s3':(eZ (wV E i0 x c0) ρ).vals[i]?=some (jW (qK (fcs E.fm.fields (eZ (wV E i0 x c0) ρ).vals) f.src) c2):=s3'
   have ko:=ok_kinds (rK (get_ok (fcs_ok (fs:=E.fm.fields) S.ok)) _ f.src (Nat.le_refl _) (hF.wf (by omega)).1)
   generalize qK (fcs E.fm.fields E.vals) f.src=key at *
   generalize qK (fcs E.fm.fields (eZ (wV E i0 x c0) ρ).vals) f.src=key2 at *
   have h01:c1=c∨(i=i0∧c.st=1∧c1=heardC x c):=by
    have hc1:(E.calls.set i0 (heardC x c0))[i]?=some c1:=hc1
    rcases set_at hc1 with ⟨rfl,rfl⟩ | ⟨-,q⟩
    ·rw [hc0] at hc
     obtain rfl:=Option.some.inj hc
     exact .inr ⟨rfl,ht.1,rfl⟩
    ·rw [hc] at q
     exact .inl (Option.some.inj q).symm
   have hst:c1.st≠0↔c.st≠0:=by
    rcases h01 with rfl | ⟨-,q,rfl⟩
    ·exact Iff.rfl
    ·exact ⟨fun _=>by omega,fun _=>by show (2:Int)≠0; decide⟩
   have hky:c1.key=c.key:=by
    rcases h01 with rfl | ⟨-,-,rfl⟩ <;> rfl
   by_cases hk:key.k≤3
   ·obtain ⟨a1,a2⟩:=s1 hk
    have ek:key2=key:=by
     rcases hg with q | q | ⟨-,q⟩
     ·omega
     ·exact q
     ·omega
    rw [ek,vZ hk (hst.2 a1) (eqB_iff.2 (hky.trans a2))] at e2
    have e2:(eZ (wV E i0 x c0) ρ).calls[i]?=some c1:=e2
    rw [hc2] at e2
    obtain rfl:=Option.some.inj e2
    refine ⟨fun a b ha hb=>?_,fun _ c' hc'=>?_⟩
    ·rw [s3] at ha
     rw [s3',ek] at hb
     rw [← Option.some.inj ha,← Option.some.inj hb]
     rcases h01 with rfl | ⟨-,q,-⟩
     ·exact grows_refl _
     ·refine .inl ?_
      unfold jW ansC
      rw [if_neg a1,if_neg (by omega),if_neg (by omega)]
    ·rw [hc1] at hc'
     rw [← Option.some.inj hc']
     exact ⟨fun _=>hc2,fun q=>absurd q (hst.2 a1)⟩
   ·have hz:=s2 hk
    have e0:c1=clZ:=by
     rcases h01 with rfl | ⟨-,q,-⟩
     ·exact hz
     ·rw [hz] at q; exact absurd (show (0:Int)=1 from q) (by decide)
    refine ⟨fun a b ha hb=>?_,fun _ c' hc'=>?_⟩
    ·rw [s3,hz] at ha
     rw [← Option.some.inj ha]
     have ea:jW key clZ=key:=rfl
     rw [ea]
     by_cases k4:key.k=4
     ·exact .inl k4
     ·have k5:key.k=5:=by omega
      have k5':key2.k=5:=by
       rcases hg with q | q | ⟨q,-⟩
       ·omega
       ·rw [q]; exact k5
       ·exact q
      have e3:c2=clZ:=by
       rw [uZ (by omega)] at e2
       rw [hc2] at e2
       exact Option.some.inj e2
      rw [s3',e3] at hb
      rw [← Option.some.inj hb]
      exact .inr (.inr ⟨k5',k5⟩)
    ·rw [hc1] at hc'
     rw [← Option.some.inj hc',e0]
     refine ⟨fun q=>absurd rfl q,fun _=>?_⟩
     rw [e2,e0]
     by_cases hk2:key2.k≤3
     ·rw [tZ hk2 (fun q=>q.1 rfl)]
      exact .inr ⟨_,_,_,hid,rfl⟩
     ·rw [uZ hk2]
      exact .inl rfl
  ·refine ⟨fun a b ha hb=>?_,fun q=>absurd q h3⟩
   rw [S.sol.at_ i f a hf ha,S2.sol.at_ i f b hf hb]
   show Grows (aX f E.inp _ _) (aX f E.inp _ (fcs E.fm.fields (eZ (wV E i0 x c0) ρ).vals))
   unfold aX
   by_cases k1:f.kind=1
   ·rw [if_pos k1,if_pos k1]; exact grows_refl _
   ·rw [if_neg k1,if_neg k1,if_neg h3,if_neg h3]
    exact hg k1
structure OutI (fs:List Fd) (l0:Int) (s:Sst):Prop where
 iff:∀ x,x∈s.out↔∃ (j:Nat) (f:Fd) (c:Cl),fs[j]?=some f∧s.calls[j]?=some c∧c.st=1∧l0 < c.id∧x=ltOf f.name c
 pw:s.out.Pairwise (fun x y=>x.nm≠y.nm)
theorem name_inj {fs:List Fd} (hd:(fs.map (fun f:Fd=>f.name)).Nodup) {i j:Nat} {f g:Fd} (hf:fs[i]?=some f) (hg:fs[j]?=some g) (e:f.name=g.name):i=j:=by
 have e1:=nQ hd hf
 have e2:=nQ hd hg
 rw [e,e2] at e1
 omega
theorem outI_run {fs:List Fd} {p:Pol} {now:Int} {inp:Env} {s0:Sst} {os:List Nat} (hp:p.ok) (hok:OkFs fs) (ki:∀ q∈inp,q.2.known) (n0:0≤now) (n1:now≤1073741824) (h0:CallsOk fs p s0.last s0.calls) (v0:s0.vals.length=fs.length) (k0:s0.kn=[]) (l0:0≤s0.last) (l1:s0.last + os.length≤1073741824) (hlt:∀ i∈os,i < fs.length) (hn:os.Nodup) (ho:s0.out=[]) :
  ∀ t,t≤os.length→OutI fs s0.last (uY fs p now inp s0 (os.take t))
 | 0,_=>by
  show OutI fs s0.last s0
  refine ⟨fun x=>?_,by rw [ho]; exact .nil⟩
  rw [ho]
  refine ⟨fun q=>(by cases q),?_⟩
  rintro ⟨j,f,c,hf,hc,h1,h2,-⟩
  have:=((h0.at_ j f c hf hc).2.1 (by omega)).2
  omega
 | t + 1,ht=>by
  have I:=runS_inv hp hok ki n0 n1 h0 v0 k0 l0 l1 hlt t (by omega)
  have ih:=outI_run hp hok ki n0 n1 h0 v0 k0 l0 l1 hlt hn ho t (by omega)
  obtain ⟨i,hti⟩:∃ i,os[t]?=some i:=⟨_,List.getElem?_eq_getElem (by omega)⟩
  have hil:=hlt i (List.mem_of_getElem? hti)
  obtain ⟨f,hf⟩:∃ f,fs[i]?=some f:=⟨_,List.getElem?_eq_getElem hil⟩
  have hsm:=I.same i (take_notin hn hti)
  rw [runS_at fs p now inp s0 os t i hti]
  have hlo:=I.lo
  have hlen:=I.calls.len
  generalize uY fs p now inp s0 (os.take t)=s at *
  by_cases h3:f.kind=3
  ·obtain ⟨c,hc⟩:∃ c,s.calls[i]?=some c:=⟨_,List.getElem?_eq_getElem (by omega)⟩
   have hc0:=hsm.symm.trans hc
   have hold:c.st≠0→c.id≤s0.last:=fun q=>((h0.at_ i f c hf hc0).2.1 q).2
   rw [iZ hf h3 hc rfl rfl]
   have hno:∀ (d:Cl),(d.st=1→d.id≤s0.last)→OutI fs s0.last ⟨s.calls.set i d,s.vals.set i (jW (qK s.kn f.src) d),s.kn++[(f.name,jW (qK s.kn f.src) d)],s.last,s.out⟩:=fun d hd=>by
    refine ⟨fun x=>(ih.iff x).trans ⟨?_,?_⟩,ih.pw⟩
    ·rintro ⟨j,g,e,hg,he,q1,q2,q3⟩
     refine ⟨j,g,e,hg,?_,q1,q2,q3⟩
     show (s.calls.set i d)[j]?=some e
     have hne:i≠j:=fun q=>by
      rw [← q,hc] at he
      rw [← Option.some.inj he] at q1 q2
      have:=hold (by omega)
      omega
     rw [List.getElem?_set_ne hne]; exact he
    ·rintro ⟨j,g,e,hg,he,q1,q2,q3⟩
     rcases set_at he with ⟨rfl,rfl⟩ | ⟨-,he⟩
     ·have:=hd q1; omega
     ·exact ⟨j,g,e,hg,he,q1,q2,q3⟩
   by_cases hk:(qK s.kn f.src).k≤3
   ·by_cases q:c.st≠0∧eqB c.key (qK s.kn f.src)=true
    ·rw [vZ hk q.1 q.2]
     exact hno c fun a=>hold (by omega)
    ·rw [tZ hk q]
     have hnm:∀ y∈s.out,y.nm≠f.name:=fun y hy e=>by
      obtain ⟨j,g,e',hg,he,q1,q2,rfl⟩:=(ih.iff y).1 hy
      have hij:=name_inj hok.nodup hg hf e
      rw [hij,hc] at he
      rw [← Option.some.inj he] at q1 q2
      have:=hold (by omega)
      omega
     refine ⟨fun x=>?_,?_⟩
     ·show x∈s.out++[_]↔_
      rw [List.mem_append,List.mem_singleton]
      refine ⟨fun h=>?_,?_⟩
      ·rcases h with h | h
       ·obtain ⟨j,g,e,hg,he,q1,q2,q3⟩:=(ih.iff x).1 h
        have hne:i≠j:=fun q=>by
         rw [← q,hc] at he
         rw [← Option.some.inj he] at q1 q2
         have:=hold (by omega)
         omega
        exact ⟨j,g,e,hg,by show (s.calls.set i _)[j]?=_; rw [List.getElem?_set_ne hne]; exact he,q1,q2,q3⟩
       ·exact ⟨i,f,_,hf,List.getElem?_set_self (by omega),rfl,by show s0.last < s.last + 1; omega,h⟩
      ·rintro ⟨j,g,e,hg,he,q1,q2,q3⟩
       rcases set_at he with ⟨rfl,rfl⟩ | ⟨-,he⟩
       ·rw [hf] at hg
        obtain rfl:=Option.some.inj hg
        exact .inr q3
       ·exact .inl ((ih.iff x).2 ⟨j,g,e,hg,he,q1,q2,q3⟩)
     ·refine List.pairwise_append.2 ⟨ih.pw,List.pairwise_singleton _ _,fun y hy z hz=>?_⟩
      rw [List.mem_singleton.1 hz]
      exact hnm y hy
   ·rw [uZ hk]
    exact hno clZ fun a=>absurd (show (0:Int)=1 from a) (by decide)
  ·rw [stepS_one hf h3]
   exact ⟨ih.iff,ih.pw⟩
theorem outI_set {E:Eg} {ρ:List Int} {lv:Nat→Nat} (hok:EgOk E ρ lv):OutI E.fm.fields E.last (dZ E ρ):=by
 have few:=hok.fm.fields.few
 have one:=hok.one
 have l1:=hok.l1
 have hod:Ordd E.fm.fields ρ lv (mX ρ E.fm.fields.length):=nX hok.fm.rank (by omega)
 have h:=outI_run (s0:=⟨E.calls,E.vals,[],E.last,[]⟩) (os:=mX ρ E.fm.fields.length) hok.pol hok.fm.fields hok.ki hok.n0 hok.n1 hok.calls hok.vlen rfl hok.l0 (by rw [hod.len]; show E.last + _≤_; omega) (fun i q=>hod.lt q) (ordL_nodup hod) rfl _ (Nat.le_refl _)
 rw [List.take_length] at h
 exact h
structure CalI (E:Eg) (lt:List Lt):Prop where
 inp:E.inp=[]
 iff:∀ x,x∈lt↔∃ (j:Nat) (f:Fd) (c:Cl),E.fm.fields[j]?=some f∧E.calls[j]?=some c∧c.st=1∧x=ltOf f.name c
 pw:lt.Pairwise (fun x y=>x.nm≠y.nm)
 st:∀ (j:Nat) (f:Fd) (c:Cl),E.fm.fields[j]?=some f→E.calls[j]?=some c→c.st≤2∧(c.st=2→c.has=vJ f c.key)
theorem calI_beg {f:Fm} {ρ:List Int} {lv:Nat→Nat} (hok:OkFm f ρ lv) (h1:1≤f.fields.length) {p:Pol} (hp:p.ok):CalI (eZ (uW f p) ρ) (dZ (uW f p) ρ).out:=by
 have h0:=newE_ok hok h1 hp
 have hl:=(newE_last hok h1 hp).2
 have O:=outI_set h0
 have hok':=settE_ok h0 (by omega)
 refine ⟨rfl,fun x=>(O.iff x).trans ⟨?_,?_⟩,O.pw,fun j g c hg hc=>?_⟩
 ·rintro ⟨j,g,c,a,b,q1,-,q3⟩
  exact ⟨j,g,c,a,b,q1,q3⟩
 ·rintro ⟨j,g,c,a,b,q1,q3⟩
  have:=((hok'.calls.at_ j g c a b).1.live (by omega)).i1
  exact ⟨j,g,c,a,b,q1,by show (0:Int) < c.id; omega,q3⟩
 ·have hjl:=(List.getElem?_eq_some_iff.1 hg).1
  have hjl:j < f.fields.length:=hjl
  have hz:(uW f p).calls[j]?=some clZ:=by
   show (List.replicate f.fields.length clZ)[j]?=_
   rw [List.getElem?_replicate,if_pos hjl]
  by_cases h3:g.kind=3
  ·obtain ⟨id,-,e⟩:=set_call h0 (by omega) hg h3 hz
   rw [hc] at e
   have e:=Option.some.inj e
   by_cases hk:(qK (fcs (uW f p).fm.fields (eZ (uW f p) ρ).vals) g.src).k≤3
   ·rw [tZ hk (fun q=>q.1 rfl)] at e
    rw [e]
    exact ⟨by show (1:Int)≤2; decide,fun q=>absurd (show (1:Int)=2 from q) (by decide)⟩
   ·rw [uZ hk] at e
    rw [e]
    exact ⟨by show (0:Int)≤2; decide,fun q=>absurd (show (0:Int)=2 from q) (by decide)⟩
  ·have hidl:c=clZ:=(hok'.calls.at_ j g c hg hc).1.idle (by
    by_cases q:c.st=0
    ·exact q
    ·exact absurd ((hok'.calls.at_ j g c hg hc).2.1 q).1 h3)
   rw [hidl]
   exact ⟨by show (0:Int)≤2; decide,fun q=>absurd (show (0:Int)=2 from q) (by decide)⟩
theorem CalI.step {E:Eg} {ρ:List Int} {lv:Nat→Nat} (hok:EgOk E ρ lv) (hse:Settled E ρ) {l1 l2:List Lt} {y:Lt} (h:CalI E (l1++y :: l2)) (hl:E.last≤1073741000):∃ (i:Nat) (f:Fd) (c:Cl),E.fm.fields[i]?=some f∧E.calls[i]?=some c∧f.kind=3∧y=ltOf f.name c∧y.key.known∧Takes f ⟨y.nm,y.id,y.key,vJ f y.key⟩ c∧OkV (vJ f y.key) ∧
  CalI (eZ (wV E i ⟨y.nm,y.id,y.key,vJ f y.key⟩ c) ρ) (l1++l2++(dZ (wV E i ⟨y.nm,y.id,y.key,vJ f y.key⟩ c) ρ).out)∧(∀ (j:Nat) (d:Cl),E.calls[j]?=some d→d.st=2→∃ d':Cl,(eZ (wV E i ⟨y.nm,y.id,y.key,vJ f y.key⟩ c) ρ).calls[j]?=some d'∧d'.st=2)∧c.st=1∧∃ d':Cl,(eZ (wV E i ⟨y.nm,y.id,y.key,vJ f y.key⟩ c) ρ).calls[i]?=some d'∧d'.st=2:=by
 obtain ⟨i,f,c,hf,hc,hs,rfl⟩:=(h.iff y).1 (by simp)
 obtain ⟨c1,c2,c3⟩:=hok.calls.at_ i f c hf hc
 obtain ⟨hk3,hid⟩:=c2 (by omega)
 have hkn:=(c1.live (by omega)).key
 have hF:=hok.fm.fields.each f (List.mem_of_getElem? hf)
 obtain ⟨a1,a2⟩:=ans_known hF hkn
 have e1:(ltOf f.name c).nm=f.name:=rfl
 have e2:(ltOf f.name c).id=c.id:=rfl
 have e3:(ltOf f.name c).key=c.key:=rfl
 have ht:Takes f ⟨(ltOf f.name c).nm,(ltOf f.name c).id,(ltOf f.name c).key,vJ f (ltOf f.name c).key⟩ c:=⟨hs,rfl,eqB_iff.2 rfl,by show (vJ f c.key).k≤3; have:=hF.t3; omega,a2⟩
 have hlx:∃ x:Lt,(⟨(ltOf f.name c).nm,(ltOf f.name c).id,(ltOf f.name c).key,vJ f (ltOf f.name c).key⟩:Lt)=x:=⟨_,rfl⟩
 have hxa:OkV (vJ f (ltOf f.name c).key):=.inl a1
 refine ⟨i,f,c,hf,hc,hk3,rfl,hkn,ht,hxa,?_⟩
 have hhc:heardC ⟨(ltOf f.name c).nm,(ltOf f.name c).id,(ltOf f.name c).key,vJ f (ltOf f.name c).key⟩ c=⟨2,c.id,c.tr,c.key,vJ f c.key,0⟩:=rfl
 have hok1:=hearE_ok hok hf hc hxa ht
 have hq:=setE_few hok1
 have hel:(wV E i ⟨(ltOf f.name c).nm,(ltOf f.name c).id,(ltOf f.name c).key,vJ f (ltOf f.name c).key⟩ c).last=E.last:=rfl
 rw [hel] at hq
 have hl2:(dZ (wV E i ⟨(ltOf f.name c).nm,(ltOf f.name c).id,(ltOf f.name c).key,vJ f (ltOf f.name c).key⟩ c) ρ).last≤1073741810:=by omega
 have O:=outI_set hok1
 have hok2:=settE_ok hok1 hl2
 have K:=fun j g q=>hear_keeps hok hse hf hc hxa ht hl2 (lv j + 1) j g (by omega) q
 have hcs:∀ j:Nat,(wV E i ⟨(ltOf f.name c).nm,(ltOf f.name c).id,(ltOf f.name c).key,vJ f (ltOf f.name c).key⟩ c).calls[j]?=(E.calls.set i ⟨2,c.id,c.tr,c.key,vJ f c.key,0⟩)[j]?:=fun j=>rfl
 have hfm:(eZ (wV E i ⟨(ltOf f.name c).nm,(ltOf f.name c).id,(ltOf f.name c).key,vJ f (ltOf f.name c).key⟩ c) ρ).fm=E.fm:=rfl
 have hip:(eZ (wV E i ⟨(ltOf f.name c).nm,(ltOf f.name c).id,(ltOf f.name c).key,vJ f (ltOf f.name c).key⟩ c) ρ).inp=E.inp:=rfl
 have hO:OutI E.fm.fields E.last (dZ (wV E i ⟨(ltOf f.name c).nm,(ltOf f.name c).id,(ltOf f.name c).key,vJ f (ltOf f.name c).key⟩ c) ρ):=O
 have hsc:(dZ (wV E i ⟨(ltOf f.name c).nm,(ltOf f.name c).id,(ltOf f.name c).key,vJ f (ltOf f.name c).key⟩ c) ρ).calls=(eZ (wV E i ⟨(ltOf f.name c).nm,(ltOf f.name c).id,(ltOf f.name c).key,vJ f (ltOf f.name c).key⟩ c) ρ).calls:=rfl
 obtain ⟨oi,op⟩:=hO
 rw [hsc] at oi
 have hcl2:=hok2.calls
 rw [hfm] at hcl2
 clear O hok2 hq hok1 hel hhc
 generalize (dZ (wV E i ⟨(ltOf f.name c).nm,(ltOf f.name c).id,(ltOf f.name c).key,vJ f (ltOf f.name c).key⟩ c) ρ).out=out at *
 generalize eZ (wV E i ⟨(ltOf f.name c).nm,(ltOf f.name c).id,(ltOf f.name c).key,vJ f (ltOf f.name c).key⟩ c) ρ=E2 at *
 have hil:=(List.getElem?_eq_some_iff.1 hc).1
 have hnd:=hok.fm.fields.nodup
 obtain ⟨p1,p2,p3⟩:=List.pairwise_append.1 h.pw
 rw [List.pairwise_cons] at p2
 have hne:∀ z∈l1++l2,z.nm≠f.name:=fun z hz e=>by
  rcases List.mem_append.1 hz with q | q
  ·exact p3 z q _ List.mem_cons_self e
  ·exact p2.1 z q e.symm
 have hself:E2.calls[i]?=some ⟨2,c.id,c.tr,c.key,vJ f c.key,0⟩:=((K i f hf).2 hk3 _ (by rw [hcs,List.getElem?_set_self hil])).1 (by show (2:Int)≠0; decide)
 have hoth:∀ (j:Nat) (g:Fd) (d:Cl),E.fm.fields[j]?=some g→j≠i→E.calls[j]?=some d→d.st≠0→E2.calls[j]?=some d:=fun j g d hg hj hd hs'=>by
  obtain ⟨d1,d2,-⟩:=hok.calls.at_ j g d hg hd
  exact ((K j g hg).2 (d2 hs').1 d (by rw [hcs,List.getElem?_set_ne fun q=>hj q.symm]; exact hd)).1 hs'
 have hidl:∀ (j:Nat) (g:Fd) (d e:Cl),E.fm.fields[j]?=some g→j≠i→E.calls[j]?=some d→d.st=0→E2.calls[j]?=some e→e=clZ∨∃ id key nx,E.last < id∧e=⟨1,id,1,key,zV,nx⟩:=fun j g d e hg hj hd hs' he=>by
  by_cases g3:g.kind=3
  ·rcases ((K j g hg).2 g3 d (by rw [hcs,List.getElem?_set_ne fun q=>hj q.symm]; exact hd)).2 hs' with q | ⟨id,key,nx,r,q⟩
   ·rw [he] at q; exact .inl (Option.some.inj q)
   ·rw [he] at q; exact .inr ⟨id,key,nx,r,Option.some.inj q⟩
  ·refine .inl ((hcl2.at_ j g e hg he).1.idle ?_)
   by_cases q:e.st=0
   ·exact q
   ·exact absurd ((hcl2.at_ j g e hg he).2.1 q).1 g3
 have hget:∀ (j:Nat) (g:Fd),E.fm.fields[j]?=some g→∃ d,E.calls[j]?=some d:=fun j g hg=>⟨_,List.getElem?_eq_getElem (by rw [hok.calls.len]; exact (List.getElem?_eq_some_iff.1 hg).1)⟩
 refine ⟨⟨hip.trans h.inp,fun x=>?_,?_,fun j g e hg he=>?_⟩,fun j d hd hs'=>?_,hs,⟨_,hself,rfl⟩⟩
 ·rw [hfm,List.mem_append]
  refine ⟨fun hx=>?_,?_⟩
  ·rcases hx with hx | hx
   ·have hn:=hne x hx
    obtain ⟨j,g,d,hg,hd,q1,rfl⟩:=(h.iff x).1 (by
     rcases List.mem_append.1 hx with q | q
     ·exact List.mem_append_left _ q
     ·exact List.mem_append_right _ (List.mem_cons_of_mem _ q))
    have hj:j≠i:=fun q=>hn (by
     rw [q,hf] at hg
     rw [← Option.some.inj hg]; rfl)
    exact ⟨j,g,d,hg,hoth j g d hg hj hd (by omega),q1,rfl⟩
   ·obtain ⟨j,g,d,hg,hd,q1,-,q3⟩:=(oi x).1 hx
    exact ⟨j,g,d,hg,hd,q1,q3⟩
  ·rintro ⟨j,g,e,hg,he,q1,q3⟩
   obtain ⟨d,hd⟩:=hget j g hg
   by_cases hj:j=i
   ·rw [hj,hself] at he
    rw [← Option.some.inj he] at q1
    exact absurd (show (2:Int)=1 from q1) (by decide)
   ·by_cases hs':d.st=0
    ·refine .inr ((oi x).2 ⟨j,g,e,hg,he,q1,?_,q3⟩)
     rcases hidl j g d e hg hj hd hs' he with q | ⟨id,key,nx,r,q⟩
     ·rw [q] at q1; exact absurd (show (0:Int)=1 from q1) (by decide)
     ·rw [q]; exact r
    ·have e':=hoth j g d hg hj hd hs'
     rw [he] at e'
     obtain rfl:=Option.some.inj e'
     left
     have:=(h.iff x).2 ⟨j,g,e,hg,hd,q1,q3⟩
     rcases List.mem_append.1 this with q | q
     ·exact List.mem_append_left _ q
     ·rcases List.mem_cons.1 q with q | q
      ·exfalso
       rw [q3] at q
       exact hj (name_inj hnd hg hf (congrArg Lt.nm q))
      ·exact List.mem_append_right _ q
 ·refine List.pairwise_append.2 ⟨?_,op,fun y hy z hz=>?_⟩
  ·exact List.pairwise_append.2 ⟨p1,p2.2,fun a ha b hb=>p3 a ha b (List.mem_cons_of_mem _ hb)⟩
  ·intro e
   obtain ⟨j,g,d,hg,hd,q1,q2,rfl⟩:=(oi z).1 hz
   obtain ⟨k,g',d',hg',hd',r1,rfl⟩:=(h.iff y).1 (by
    rcases List.mem_append.1 hy with q | q
    ·exact List.mem_append_left _ q
    ·exact List.mem_append_right _ (List.mem_cons_of_mem _ q))
   have hn:=hne _ hy
   have hjk:=name_inj hnd hg' hg e
   subst hjk
   have hk:k≠i:=fun q=>hn (by
    rw [q,hf] at hg'
    rw [← Option.some.inj hg']; rfl)
   have:=hoth k g' d' hg' hk hd' (by omega)
   rw [hd] at this
   have e3:=Option.some.inj this
   have:=((hok.calls.at_ k g' d' hg' hd').2.1 (by omega)).2
   rw [e3] at q2
   omega
 ·rw [hfm] at hg
  obtain ⟨d,hd⟩:=hget j g hg
  by_cases hj:j=i
  ·rw [hj] at hg he
   rw [hf] at hg
   rw [hself] at he
   obtain rfl:=Option.some.inj hg
   rw [← Option.some.inj he]
   exact ⟨by show (2:Int)≤2; decide,fun _=>rfl⟩
  ·by_cases hs':d.st=0
   ·rcases hidl j g d e hg hj hd hs' he with q | ⟨id,key,nx,-,q⟩
    ·rw [q]; exact ⟨by show (0:Int)≤2; decide,fun q=>absurd (show (0:Int)=2 from q) (by decide)⟩
    ·rw [q]; exact ⟨by show (1:Int)≤2; decide,fun q=>absurd (show (1:Int)=2 from q) (by decide)⟩
   ·have e':=hoth j g d hg hj hd hs'
    rw [he] at e'
    rw [Option.some.inj e']
    exact h.st j g d hg hd
 ·have hjl:j < E.fm.fields.length:=by rw [← hok.calls.len]; exact (List.getElem?_eq_some_iff.1 hd).1
  by_cases hj:j=i
  ·rw [hj]; exact ⟨_,hself,rfl⟩
  ·exact ⟨d,hoth j _ d (List.getElem?_eq_getElem hjl) hj hd (by omega),hs'⟩
theorem askL_hit {s:ByteArray} {key:Vl}:∀ {l:List Aw},l.any (fun p=>p.hit s key)=true→∃ p∈l,wJ s key l=p.has∧p.hit s key=true
 | [],h=>by cases h
 | p :: l,h=>by
  rw [wJ]
  split
  ·rename_i q
   exact ⟨p,by simp,rfl,q⟩
  ·rename_i q
   rw [List.any_cons,Bool.eq_false_iff.2 q,Bool.false_or] at h
   obtain ⟨x,hx,e⟩:=askL_hit h
   exact ⟨x,by simp [hx],e⟩
theorem askL_pass {s:ByteArray} {key:Vl} {m:List Aw}:∀ {l:List Aw},l.any (fun p=>p.hit s key)=false→wJ s key (l++m)=wJ s key m
 | [],_=>rfl
 | p :: l,h=>by
  rw [List.any_cons,Bool.or_eq_false_iff] at h
  show wJ s key (p :: (l++m))=_
  rw [wJ,if_neg (by rw [h.1]; exact Bool.false_ne_true)]
  exact askL_pass h.2
def AnsOf (fs:List Fd) (p:Aw):Prop:=∃ (i:Nat) (f:Fd),fs[i]?=some f∧p.nm=f.name∧p.has=vJ f p.key
theorem addO_ans {fs:List Fd} {env:Env} {out:List Aw} {i:Nat} {f:Fd} (hf:fs[i]?=some f) (ho:∀ p∈out,AnsOf fs p):∀ p∈addO env out f,AnsOf fs p:=by
 unfold addO
 split
 ·intro p hp
  rcases List.mem_append.1 hp with q | q
  ·exact ho p q
  ·rw [List.mem_singleton.1 q]
   exact ⟨i,f,hf,rfl,rfl⟩
 ·exact ho
theorem roundO_ans {fs:List Fd} {env:Env}:∀ (l:List Fd) (out:List Aw),(∀ f∈l,f∈fs)→(∀ p∈out,AnsOf fs p)→∀ p∈oY env l out,AnsOf fs p
 | [],_,_,ho=>ho
 | f :: l,out,hl,ho=>by
  obtain ⟨i,hi⟩:=List.getElem?_of_mem (hl f (by simp))
  exact roundO_ans l _ (fun g hg=>hl g (by simp [hg])) (addO_ans hi ho)
theorem orcL_ans (fs:List Fd) (inp:Env) (os:List Nat):∀ r,∀ p∈lX fs inp os r,AnsOf fs p
 | 0=>fun p hp=>by cases hp
 | r + 1=>roundO_ans (env:=fcs fs (allW fs inp (lX fs inp os r) os)) fs (lX fs inp os r) (fun _ q=>q) (orcL_ans fs inp os r)
theorem calm_wh {E:Eg} {ρ:List Int} {lv:Nat→Nat} (hok:EgOk E ρ lv) (hi:E.inp=[]):Wh E.fm.fields E.inp ρ lv (mX ρ E.fm.fields.length):=by
 have few:=hok.fm.fields.few
 have one:=hok.one
 exact ⟨hok.fm.fields,hok.ki,fun i f _ _ p hp=>(by rw [hi] at hp; cases hp),nX hok.fm.rank (by omega)⟩
theorem calI_none {E:Eg} {ρ:List Int} {lv:Nat→Nat} (hok:EgOk E ρ lv) (h:CalI E []):∀ c∈E.calls,c.st≠1:=fun c hc hs=>by
 obtain ⟨i,hi⟩:=List.getElem?_of_mem hc
 have hil:i < E.fm.fields.length:=by rw [← hok.calls.len]; exact (List.getElem?_eq_some_iff.1 hi).1
 cases (h.iff _).2 ⟨i,_,c,List.getElem?_eq_getElem hil,hi,hs,rfl⟩
theorem calm_vals {E:Eg} {ρ:List Int} {lv:Nat→Nat} (hok:EgOk E ρ lv) (hse:Settled E ρ) (h:CalI E []):allW E.fm.fields E.inp (lX E.fm.fields E.inp (mX ρ E.fm.fields.length) E.fm.fields.length) (mX ρ E.fm.fields.length)=E.vals:=by
 have S:=settled_sol hok hse
 have hW:=calm_wh hok h.inp
 have Sv:=(hW.sol (hW.orc E.fm.fields.length)).1
 have n4:=hW.answered fun i hi=>by
  have:=hok.fm.rank.few i (by rw [tW]; exact hi)
  rw [tW] at this
  exact this
 have hans:=orcL_ans E.fm.fields E.inp (mX ρ E.fm.fields.length) E.fm.fields.length
 have hno:=calI_none hok h
 unfold vR at n4
 generalize lX E.fm.fields E.inp (mX ρ E.fm.fields.length) E.fm.fields.length=o1 at *
 generalize allW E.fm.fields E.inp o1 (mX ρ E.fm.fields.length)=v at *
 refine sol_one (inp:=E.inp) (orc:=o1++orcC E.fm.fields E.calls) hok.fm.fields hok.fm.rank ⟨Sv.len,fun i f x hf hx=>?_⟩ ⟨S.sol.len,fun i f x hf hx=>?_⟩
 ·have e:=Sv.at_ i f x hf hx
  have hn:=n4 x (List.mem_of_getElem? hx)
  unfold aX at e ⊢
  by_cases k1:f.kind=1
  ·rw [if_pos k1] at e ⊢; exact e
  ·rw [if_neg k1] at e ⊢
   by_cases k3:f.kind=3
   ·rw [if_pos k3] at e ⊢
    unfold askV at e ⊢
    by_cases hk:(qK (fcs E.fm.fields v) f.src).k≤3
    ·rw [if_pos hk] at e ⊢
     cases q:o1.any (fun p=>p.hit f.name (qK (fcs E.fm.fields v) f.src)) with
     | true=>rw [askL_app q]; exact e
     | false =>
      rw [askL_none q] at e
      rw [e] at hn
      exact absurd rfl hn
    ·rw [if_neg hk] at e ⊢; exact e
   ·rw [if_neg k3] at e ⊢; exact e
 ·have e:=S.sol.at_ i f x hf hx
  rw [e]
  unfold aX
  by_cases k1:f.kind=1
  ·rw [if_pos k1,if_pos k1]
  ·rw [if_neg k1,if_neg k1]
   by_cases k3:f.kind=3
   ·rw [if_pos k3,if_pos k3]
    unfold askV
    by_cases hk:(qK (fcs E.fm.fields E.vals) f.src).k≤3
    ·rw [if_pos hk,if_pos hk]
     cases q:o1.any (fun p=>p.hit f.name (qK (fcs E.fm.fields E.vals) f.src)) with
     | true =>
      obtain ⟨p,hp,e1,hh⟩:=askL_hit q
      obtain ⟨j,g,hg,hn,ha⟩:=hans p hp
      unfold Aw.hit at hh
      rw [Bool.and_eq_true,tl_dec,decide_eq_true_iff] at hh
      have hij:=name_inj hok.fm.fields.nodup hg hf (hn.symm.trans hh.1)
      rw [hij,hf] at hg
      obtain rfl:=Option.some.inj hg
      obtain ⟨c,hc⟩:∃ c,E.calls[i]?=some c:=⟨_,List.getElem?_eq_getElem (by rw [hok.calls.len]; exact (List.getElem?_eq_some_iff.1 hf).1)⟩
      obtain ⟨a1,a2⟩:=(S.call i f c hf k3 hc).1 hk
      obtain ⟨b1,b2⟩:=h.st i f c hf hc
      have hb:=((hok.calls.at_ i f c hf hc).1.live a1).s1
      have h1:=hno c (List.mem_of_getElem? hc)
      have s2:c.st=2:=by omega
      rw [askL_app q,e1,ha,orcC_ask hok.fm.fields.nodup hf hc,if_pos ⟨.inl s2,eqB_iff.2 a2⟩]
      unfold ansC
      rw [if_pos s2,b2 s2,a2,eqB_iff.1 hh.2]
     | false=>rw [askL_pass q]
    ·rw [if_neg hk,if_neg hk]
   ·rw [if_neg k3,if_neg k3]
def cntK (cs:List Cl):Nat:=cs.countP fun c=>decide (c.st=2)
theorem cnt_more {p:Cl→Bool}:∀ {l m:List Cl},l.length=m.length→(∀ (i:Nat) (a b:Cl),l[i]?=some a→m[i]?=some b→p a=true→p b=true)→l.countP p≤m.countP p∧((∃ (i:Nat) (a b:Cl),l[i]?=some a∧m[i]?=some b∧p a=false∧p b=true)→l.countP p + 1≤m.countP p)
 | [],[],_,_=>⟨Nat.le_refl _,fun ⟨_,_,_,h,_⟩=>by simp at h⟩
 | [],_ :: _,h,_=>by simp at h
 | _ :: _,[],h,_=>by simp at h
 | a :: l,b :: m,hl,h=>by
  obtain ⟨h1,h2⟩:=cnt_more (p:=p) (l:=l) (m:=m) (by simpa using hl) fun i x y hx hy=>h (i + 1) x y (by simpa using hx) (by simpa using hy)
  have h0:=h 0 a b rfl rfl
  rw [List.countP_cons,List.countP_cons]
  refine ⟨?_,?_⟩
  ·by_cases q:p a=true
   ·rw [if_pos q,if_pos (h0 q)]; omega
   ·rw [if_neg q]; omega
  ·rintro ⟨i,x,y,hx,hy,q1,q2⟩
   cases i with
   | zero =>
    simp only [List.getElem?_cons_zero,Option.some.injEq] at hx hy
    subst hx hy
    rw [q1,q2,if_neg Bool.false_ne_true,if_pos rfl]
    omega
   | succ i =>
    have:=h2 ⟨i,x,y,by simpa using hx,by simpa using hy,q1,q2⟩
    by_cases q:p a=true
    ·rw [if_pos q,if_pos (h0 q)]; omega
    ·rw [if_neg q]; omega
theorem cntK_le (cs:List Cl):cntK cs≤cs.length:=List.countP_le_length
structure CalK (fm:Fm) (p:Pol) (ρ:List Int) (lv:Nat→Nat) (k:Nat) (E:Eg) (lt:List Lt):Prop where
 m:MOk fm p ρ lv k E lt
 i:CalI E lt
 k:k≤cntK E.calls
theorem CalK.few {fm:Fm} {p:Pol} {ρ:List Int} {lv:Nat→Nat} {k:Nat} {E:Eg} {lt:List Lt} (h:CalK fm p ρ lv k E lt):k≤14:=by
 have h1:=cntK_le E.calls
 have h2:=h.m.ok.calls.len
 have h3:=h.m.ok.fm.fields.few
 have h4:=h.k
 omega
theorem CalK.step {fm:Fm} {p:Pol} {ρ:List Int} {lv:Nat→Nat} {k:Nat} {E:Eg} {l1 l2:List Lt} {y:Lt} (h:CalK fm p ρ lv k E (l1++y :: l2)):∃ (i:Nat) (f:Fd) (c:Cl),fm.fields[i]?=some f∧E.calls[i]?=some c∧y.nm=f.name∧y.key.known∧Takes f ⟨y.nm,y.id,y.key,vJ f y.key⟩ c∧OkV (vJ f y.key) ∧
  CalK fm p ρ lv (k + 1) (eZ (wV E i ⟨y.nm,y.id,y.key,vJ f y.key⟩ c) ρ) (l1++l2++(dZ (wV E i ⟨y.nm,y.id,y.key,vJ f y.key⟩ c) ρ).out):=by
 have hk:=h.few
 have hm:=h.m
 have hlast:=hm.last
 obtain ⟨i,f,c,hf,hc,hk3,hy,hkn,ht,hx,hI,hs,hs1,d',hd,hd2⟩:=h.i.step hm.ok hm.se (by omega)
 have hst:=hm.step (by omega) (MStep.hear (ρ:=ρ) (E:=E) (lt:=l1++y :: l2) i f ⟨y.nm,y.id,y.key,vJ f y.key⟩ c hf hc hx ht)
 have hlen:(eZ (wV E i ⟨y.nm,y.id,y.key,vJ f y.key⟩ c) ρ).calls.length=E.calls.length:=by
  have a:=hst.ok.calls.len
  rw [hst.efm] at a
  rw [a,hm.ok.calls.len,hm.efm]
 have hcnt:=(cnt_more (p:=fun c=>decide (c.st=2)) hlen.symm fun j a b ha hb q=>by
  obtain ⟨b',hb',q'⟩:=hs j a ha (of_decide_eq_true q)
  rw [hb] at hb'
  rw [Option.some.inj hb']
  exact decide_eq_true q').2 ⟨i,c,d',hc,hd,decide_eq_false (by omega),decide_eq_true hd2⟩
 rw [hm.efm] at hf
 have hkk:=h.k
 refine ⟨i,f,c,hf,hc,by rw [hy]; rfl,hkn,ht,hx,⟨hst.ok,hst.se,hst.efm,hst.epol,hst.now,hst.last,hst.inp,?_,fun x q=>hst.ltr x ?_⟩,hI,by show k + 1≤cntK _; unfold cntK at hkk ⊢; omega⟩
 ·have:=hst.len
  simp only [List.length_append,List.length_cons] at this ⊢
  omega
 ·rcases List.mem_append.1 q with q | q
  ·refine List.mem_append_left _ ?_
   rcases List.mem_append.1 q with q | q
   ·exact List.mem_append_left _ q
   ·exact List.mem_append_right _ (List.mem_cons_of_mem _ q)
  ·exact List.mem_append_right _ q
end Go.Proofs.YtmoahpojchndiaaGreat
namespace Go.Proofs.YtmoahpojchndiaaGreat
open Go.RowKit
set_option linter.unusedVariables false
theorem find1_calm (f:Fd) (A:Option Addr) (n c:Nat) (x:Lt) (b:Nat) (h:Vw) (hc:Cells h b 0 [.string x.nm,.int .i64 x.id,.int .i64 x.key.k,.int .i64 x.key.n,.string x.key.s,.int .i64 x.ans.k,.int .i64 x.ans.n,.string x.ans.s]) :
  C0 Tryz.prog 63 #[.agg #[.string f.name,.int .i64 f.kind,.int .i64 f.ty,.int .i64 f.src.op,.int .i64 f.src.k,.int .i64 f.src.n,.string f.src.s,.string f.src.nm,.slice A n c],.pointer (some ⟨b,0,none⟩)] h (fun r _=>r=.bool (f.name.toList == x.nm.toList)):=by
 refine yQ Tryz.func63 (c:=Tryz.f63.body.getD .skip) (N:=9) ?_
 intro hbx hbad Q hQ
 refine zQ (hc.sees (Sees.refl _)) ?_
 refine go1 17 [.own,.b 0 0,.f 0 0] [] ?_
 intro b1
 refine hQ.to [.bool (f.name.toList == x.nm.toList)] (fun H sH=>?_)
 exact rfl
theorem idxF_calm (fs:List Fd) (vs:List Value) (A:Option Addr) (cap:Nat) (x:Lt) (b:Nat) (h:Vw) (hr:RS h 9 (.slice A fs.length cap) (fQ fs vs)) (hl:fs.length≤1000000) (hvl:vs.length=fs.length) (hsl:∀ u∈vs,.slice (sA u) (sN u) (sC u)=u) (hc:Cells h b 0 [.string x.nm,.int .i64 x.id,.int .i64 x.key.k,.int .i64 x.key.n,.string x.key.s,.int .i64 x.ans.k,.int .i64 x.ans.n,.string x.ans.s]) :
  C0 Tryz.prog 62 #[.slice A fs.length cap,.func (.func 63) #[] #[.pointer (some ⟨b,0,none⟩)]] h (fun r _=>r=.int .i64 (mQ fs x.nm)):=by
 generalize hL:fs.length=len at *
 refine yQ Tryz.func62 (c:=Tryz.f62.body.getD .skip) (N:=19) ?_
 intro hbx hbad Q hQ
 refine go0 14 [] [] ?_
 refine gV [0,1,0,1] [.block 0,.seq [1,1]] (fun (k:Nat) X=>∃ (W1:Vw) ,X W1 [(0,.slice A len cap),(1,.func (.func 63) #[] #[Vp b]),(7,Vi (len:Int)),(8,Vi (k:Int))] [] []∧Sees h W1∧(k≤len)∧(∀ y∈fs.take k,(y.name.toList == x.nm.toList)=false)) (fun k=>len - k) (0) (fun X q=>⟨h,q _ _ _ _ ⟨rfl,by kernel_rfl⟩,Sees.refl _,Nat.zero_le _,fun y hy=>by simp at hy⟩) ?_
 rintro k a w ⟨W1,hJ,S2,hk,hn⟩; refine lV hJ ?_; clear hJ a w
 refine go0 6 [] [] ?_
 rcases (by omega:k < len∨k=len) with hlt | hke
 ·obtain ⟨f,hfk⟩:∃ f,fs[k]?=some f:=⟨_,List.getElem?_eq_getElem (by omega)⟩
  obtain ⟨u,huk⟩:∃ u,vs[k]?=some u:=⟨_,List.getElem?_eq_getElem (by omega)⟩
  have hrow:(fQ fs vs)[k]?=some (fdRow f (.slice (sA u) (sN u) (sC u))):=by rw [hsl u (List.mem_of_getElem? huk)]; exact gQ hfk huk
  refine qV (t:=decide ((k:Int) < (len:Int))) (decide_eq_true (by omega)) ?_
  refine go0 15 [] [] ?_
  obtain ⟨b3,o4,rfl,-,c5⟩:=RS.row hr (hrow)
  refine zQ (c5.sees S2) ?_
  refine go0 5 [.ix b3 o4 len cap k,.f 0 0,.cl 63 #[.agg #[.string f.name,Vi f.kind,Vi f.ty,Vi f.src.op,Vi f.src.k,Vi f.src.n,.string f.src.s,.string f.src.nm,.slice (sA u) (sN u) (sC u)],Vp b] (.bool (f.name.toList == x.nm.toList))] [] ?_ (ho:=(And.intro (by first | omega | (simp; omega)) (And.intro (fun H sH=>find1_calm f _ _ _ x b _ (hc.sees (S2.trans sH))) (trivial))))
  cases boolIs (f.name.toList == x.nm.toList) with
  | true hq =>
   refine qV (t:=f.name.toList == x.nm.toList) (hq) ?_
   refine go0 9 [] [] ?_
   refine fV ?_
   refine go0 2 [] [] ?_
   refine hQ.to [Vi (k:Int)] (fun H sH=>?_)
   exact congrArg (Value.int .i64) (kQ _ fs k f hn hfk hq).symm
  | false hq =>
   refine aV (t:=f.name.toList == x.nm.toList) (hq) ?_
   refine go0 7 [] [(18,Vi (IntKind.i64.wrap ((k:Int) + 1)),Vi ((k:Int) + 1))] ?_ (hc:=(And.intro (jJ (by omega) (by omega)) (trivial)))
   exact pV (k + 1) (fun X q=>⟨W1,q _ _ _ _ ⟨rfl,by kernel_rfl⟩,S2,by omega,(by rw [pZ fs k f hfk]; exact fun y hy=>(List.mem_append.1 hy).elim (hn y) (fun e=>by rw [List.mem_singleton.1 e]; exact hq))⟩) (by omega)
 ·skip
  have htk:fs.take k=fs:=by rw [hke,← hL,List.take_length]
  rw [htk] at hn
  refine aV (t:=decide ((k:Int) < (len:Int))) (decide_eq_false (by omega)) ?_
  refine go0 2 [] [] ?_
  refine fV ?_
  refine go0 8 [] [] ?_
  refine hQ.to [Vi (-1)] (fun H sH=>?_)
  exact congrArg (Value.int .i64) (lQ _ fs hn).symm
theorem calm_cat {H:Vw} {lt l1 l2 more:List Lt} {p:Nat} (h1:lt.take p=l1) (h2:lt.drop (p + 1)=l2) (h3:p + 1≤lt.length) (hl:l1.length + l2.length + more.length≤1000000) {As:Option Addr} {cs:Nat} {A':Option Addr} {vm:Value} {b:Nat} (hS:RS H 8 (.slice As lt.length cs) (lW lt)) (e:A'=if cs=p + 1 then As else As.map (·.add ((p + 1) * 8))) (hm:RS H 8 vm (lW more)) (hc:Cells H b 0 [.slice As p cs,.slice A' (lt.length - (p + 1)) (cs - (p + 1)),vm]) :
  C0 Tryz.prog 65 #[.slice (some ⟨b,0,none⟩) 3 3] H (fun r h'=>∃ u,r=.slice (sA u) (l1++l2++more).length (sC u)∧RS h' 8 (.slice (sA u) (l1++l2++more).length (sC u)) (lW (l1++l2++more))):=by
 have g1:=hS.take p (by rw [List.length_map]; omega)
 have g2:=hS.drop (p + 1) (by rw [List.length_map]; omega)
 rw [← e] at g2
 rw [← List.map_take,h1] at g1
 rw [← List.map_drop,h2] at g2
 refine (c_concat3T (rs_cells (k:=1) [[.slice As p cs],[.slice A' (lt.length - (p + 1)) (cs - (p + 1))],[vm]] (fun r hr=>by simp at hr; rcases hr with rfl | rfl | rfl <;> rfl) (show (3:Nat)≤maxLen by decide) hc) g1 g2 hm hl).mono fun v h' _=>?_
 rintro ⟨u,rfl,k⟩
 obtain ⟨A,c,e,-⟩:=k.form
 rw [List.length_map] at e
 rw [e] at k ⊢
 exact ⟨.slice A (l1++l2++more).length c,rfl,k⟩
theorem cut_at {lt:List Lt} {p:Nat} (h:p < lt.length):∃ l1 y l2,lt=l1++y :: l2∧lt.take p=l1∧lt.drop (p + 1)=l2∧lt[p]?=some y:=by
 obtain ⟨y,hy⟩:∃ y,lt[p]?=some y:=⟨_,List.getElem?_eq_getElem h⟩
 refine ⟨lt.take p,y,lt.drop (p + 1),?_,rfl,rfl,hy⟩
 obtain ⟨q,e⟩:=List.getElem?_eq_some_iff.1 hy
 rw [← e,← List.drop_eq_getElem_cons,List.take_append_drop]
structure EngF (h:Vw) (A:Option Addr) (n c:Nat) (u:Value) (E:Eg):Prop where
 form:IsForm h (.slice A n c) (.slice (sA (agJ 1 u)) (sN (agJ 1 u)) (sC (agJ 1 u))) E.fm
 inp:RS h 7 (.slice (sA (agJ 2 u)) (sN (agJ 2 u)) (sC (agJ 2 u))) (dQ E.inp)
 calls:RS h 10 (.slice (sA (agJ 3 u)) (sN (agJ 3 u)) (sC (agJ 3 u))) (kK E.calls)
 vals:RS h 3 (.slice (sA (agJ 4 u)) (sN (agJ 4 u)) (sC (agJ 4 u))) (wZ E.vals)
theorem EngF.sees {h h':Vw} {A:Option Addr} {n c:Nat} {u:Value} {E:Eg} (k:EngF h A n c u E) (s:Sees h h'):EngF h' A n c u E:=⟨k.form.sees s,k.inp.sees s,k.calls.sees s,k.vals.sees s⟩
theorem EngF.of {h:Vw} {w:Value} {E:Eg} {n:Nat} (k:IsEng h w E) (hn:E.fm.fields.length=n):∃ A c,(.slice (sA (agJ 0 w)) (sN (agJ 0 w)) (sC (agJ 0 w)):Value)=.slice A n c∧EngF h A n c w E:=by
 obtain ⟨vs,A,c,e0,-⟩:=jQ k.form.fields
 rw [hn] at e0
 have q:=k.form
 rw [e0] at q
 exact ⟨A,c,e0,q,k.inp,k.calls,k.vals⟩
theorem EngF.at_ {h:Vw} {A:Option Addr} {n c:Nat} {u:Value} {E:Eg} (k:EngF h A n c u E):∃ w,IsEng h w E∧(.slice (sA (agJ 0 w)) (sN (agJ 0 w)) (sC (agJ 0 w)):Value)=.slice A n c∧agJ 1 w=agJ 1 u∧agJ 2 w=agJ 2 u∧agJ 3 w=agJ 3 u∧agJ 4 w=agJ 4 u:=by
 obtain ⟨w,hw⟩:∃ w:Value,w=.agg #[.slice A n c,agJ 1 u,agJ 2 u,agJ 3 u,agJ 4 u]:=⟨_,rfl⟩
 have e0:(.slice (sA (agJ 0 w)) (sN (agJ 0 w)) (sC (agJ 0 w)):Value)=.slice A n c:=by rw [hw]; kernel_rfl
 have e1:agJ 1 w=agJ 1 u:=by rw [hw]; kernel_rfl
 have e2:agJ 2 w=agJ 2 u:=by rw [hw]; kernel_rfl
 have e3:agJ 3 w=agJ 3 u:=by rw [hw]; kernel_rfl
 have e4:agJ 4 w=agJ 4 u:=by rw [hw]; kernel_rfl
 obtain ⟨k1,k2,k3,k4⟩:=k
 exact ⟨w,⟨by rw [e0,e1]; exact k1,by rw [e2]; exact k2,by rw [e3]; exact k3,by rw [e4]; exact k4⟩,e0,e1,e2,e3,e4⟩
theorem hear_form {E:Eg} {ρ:List Int} {lv:Nat→Nat} (hok:EgOk E ρ lv) (hse:Settled E ρ) {i:Nat} {f:Fd} {x:Lt} {c:Cl} (hf:E.fm.fields[i]?=some f) (hc:E.calls[i]?=some c) (hn:x.nm=f.name) (hx:OkV x.ans) (ht:Takes f x c) (hl:(dZ (wV E i x c) ρ).last≤1073741810) {A:Option Addr} {n cA:Nat} {u:Value} {h:Vw} (k:EngF h A n cA u E) (hnn:E.fm.fields.length=n) :
  C0 Tryz.prog 22 #[.agg #[.slice A n cA,.slice (sA (agJ 1 u)) (sN (agJ 1 u)) (sC (agJ 1 u)),.int .i64 E.pol.t,.int .i64 E.pol.b,.int .i64 E.pol.c,.slice (sA (agJ 2 u)) (sN (agJ 2 u)) (sC (agJ 2 u)),.slice (sA (agJ 3 u)) (sN (agJ 3 u)) (sC (agJ 3 u)),.slice (sA (agJ 4 u)) (sN (agJ 4 u)) (sC (agJ 4 u)),.int .i64 E.now,.int .i64 E.last],.agg #[.string x.nm,.int .i64 x.id,.int .i64 x.key.k,.int .i64 x.key.n,.string x.key.s,.int .i64 x.ans.k,.int .i64 x.ans.n,.string x.ans.s]] h (fun r h'=>∃ (A':Option Addr) (c':Nat) (u':Value),r=.tuple #[.agg #[.slice A' n c',.slice (sA (agJ 1 u')) (sN (agJ 1 u')) (sC (agJ 1 u')),.int .i64 ((eZ (wV E i x c) ρ).pol).t,.int .i64 ((eZ (wV E i x c) ρ).pol).b,.int .i64 ((eZ (wV E i x c) ρ).pol).c,.slice (sA (agJ 2 u')) (sN (agJ 2 u')) (sC (agJ 2 u')),.slice (sA (agJ 3 u')) (sN (agJ 3 u')) (sC (agJ 3 u')),.slice (sA (agJ 4 u')) (sN (agJ 4 u')) (sC (agJ 4 u')),.int .i64 (eZ (wV E i x c) ρ).now,.int .i64 (eZ (wV E i x c) ρ).last],.slice (sA (agJ 5 u')) (sN (agJ 5 u')) (sC (agJ 5 u')),.bool true,.int .i64 0]∧EngF h' A' n c' u' (eZ (wV E i x c) ρ)∧RS h' 8 (.slice (sA (agJ 5 u')) (sN (agJ 5 u')) (sC (agJ 5 u'))) (lW (dZ (wV E i x c) ρ).out)):=by
 obtain ⟨w,hE,e0,e1,e2,e3,e4⟩:=k.at_
 have hk:=hear_any E ρ lv hok hse i f x c hf hc hn hx ht hl w h hE
 rw [e0,e1,e2,e3,e4] at hk
 refine hk.mono fun r h' _=>?_
 rintro ⟨u',rfl,q⟩
 obtain ⟨A',c',e,q'⟩:=EngF.of q.eng (n:=n) hnn
 rw [e]
 exact ⟨A',c',u',rfl,q',q.out⟩
set_option maxHeartbeats 1000000 in
theorem calm_any (fm:Fm) (P:Pol) (ρ:List Int) (lv:Nat→Nat) (E0:Eg) (lt0:List Lt) (hK0:CalK fm P ρ lv 0 E0 lt0) (last:Bool) (w su:Value) (h:Vw) (hE0:IsEng h w E0) (hS0:RS h 8 (.slice (sA su) (sN su) (sC su)) (lW lt0)) :
  C0 Tryz.prog 23 #[.agg #[.slice (sA (agJ 0 w)) (sN (agJ 0 w)) (sC (agJ 0 w)),.slice (sA (agJ 1 w)) (sN (agJ 1 w)) (sC (agJ 1 w)),.int .i64 E0.pol.t,.int .i64 E0.pol.b,.int .i64 E0.pol.c,.slice (sA (agJ 2 w)) (sN (agJ 2 w)) (sC (agJ 2 w)),.slice (sA (agJ 3 w)) (sN (agJ 3 w)) (sC (agJ 3 w)),.slice (sA (agJ 4 w)) (sN (agJ 4 w)) (sC (agJ 4 w)),.int .i64 E0.now,.int .i64 E0.last],.slice (sA su) (sN su) (sC su),.bool last] h (fun r h'=>∃ (E:Eg) (k:Nat) (A:Option Addr) (c:Nat) (u:Value),r=.tuple #[.agg #[.slice A fm.fields.length c,.slice (sA (agJ 1 u)) (sN (agJ 1 u)) (sC (agJ 1 u)),.int .i64 E.pol.t,.int .i64 E.pol.b,.int .i64 E.pol.c,.slice (sA (agJ 2 u)) (sN (agJ 2 u)) (sC (agJ 2 u)),.slice (sA (agJ 3 u)) (sN (agJ 3 u)) (sC (agJ 3 u)),.slice (sA (agJ 4 u)) (sN (agJ 4 u)) (sC (agJ 4 u)),.int .i64 E.now,.int .i64 E.last],.bool true]∧CalK fm P ρ lv k E []∧EngF h' A fm.fields.length c u E):=by
 obtain ⟨As0,cs0,es,-⟩:=hS0.form
 rw [List.length_map] at es
 rw [es] at hS0 ⊢
 obtain ⟨A0,cA0,e0,hF0⟩:=EngF.of (n:=fm.fields.length) hE0 (by rw [hK0.m.efm])
 rw [e0]
 clear hE0
 generalize hnn:fm.fields.length=n at *
 refine yQ Tryz.func23 (c:=Tryz.f23.body.getD .skip) (N:=71) ?_
 intro hbx hbad Q hQ
 refine go2 14 [.own,.own] [] ?_
 intro be b1
 refine gV [0,1,0,1] [.block 0,.seq [1,1]] (fun (k:Nat) X=>∃ (W2:Vw) (E:Eg) (lt:List Lt) (A:Option Addr) (cA:Nat) (ue:Value) (As:Option Addr) (cs:Nat),X W2 [(2,.bool last),(3,Vp be),(6,Vp b1),(15,Vi (k:Int)),(1,.slice As lt.length cs)] [.box b1 [Vz,Vz,Vi 0,Vi 0,Vi 0,Vz,Vz,Vz,Vi 0,Vi 0],.box be [.slice A n cA,.slice (sA (agJ 1 ue)) (sN (agJ 1 ue)) (sC (agJ 1 ue)),Vi E.pol.t,Vi E.pol.b,Vi E.pol.c,.slice (sA (agJ 2 ue)) (sN (agJ 2 ue)) (sC (agJ 2 ue)),.slice (sA (agJ 3 ue)) (sN (agJ 3 ue)) (sC (agJ 3 ue)),.slice (sA (agJ 4 ue)) (sN (agJ 4 ue)) (sC (agJ 4 ue)),Vi E.now,Vi E.last]] []∧Sees h W2∧(k≤14)∧(CalK fm P ρ lv k E lt)∧(EngF W2 A n cA ue E)∧(RS W2 8 (.slice As lt.length cs) (lW lt))) (fun k=>200 - k) (0) (fun X q=>⟨h,E0,lt0,A0,cA0,w,As0,cs0,q _ _ _ _ ⟨rfl,by kernel_rfl⟩,Sees.refl _,Nat.zero_le _,hK0,hF0,hS0⟩) ?_
 rintro k a w ⟨W2,E,lt,A,cA,ue,As,cs,hJ,S3,hk,hK,hE,hS⟩; refine lV hJ ?_; clear hJ a w
 refine go0 6 [] [] ?_
 have ba:=hK.m.len
 refine qV (t:=decide ((k:Int) < 200)) (decide_eq_true (by omega)) ?_
 refine go0 12 [] [] ?_
 rcases (by omega:lt.length=0∨0 < lt.length) with hz | hz
 ·skip
  have hn:=List.length_eq_zero_iff.1 hz
  refine qV (t:=(lt.length:Int) == 0) (beq_iff_eq.2 (by omega)) ?_
  refine go0 11 [.b 1 0,.b 0 0] [] ?_
  refine fV ?_
  refine go0 2 [] [] ?_
  refine hQ.to [.agg #[.slice A n cA,.slice (sA (agJ 1 ue)) (sN (agJ 1 ue)) (sC (agJ 1 ue)),Vi E.pol.t,Vi E.pol.b,Vi E.pol.c,.slice (sA (agJ 2 ue)) (sN (agJ 2 ue)) (sC (agJ 2 ue)),.slice (sA (agJ 3 ue)) (sN (agJ 3 ue)) (sC (agJ 3 ue)),.slice (sA (agJ 4 ue)) (sN (agJ 4 ue)) (sC (agJ 4 ue)),Vi E.now,Vi E.last],.bool true] (fun H sH=>?_) (ix:=[0])
  exact ⟨E,k,A,cA,ue,rfl,hn ▸ hK,(hE.sees sH)⟩
 ·skip
  refine aV (t:=(lt.length:Int) == 0) (beq_eq_false_iff_ne.2 (by omega)) ?_
  refine go0 13 [] [] ?_
  rcases Bool.eq_false_or_eq_true last with hb | hb
  ·skip
   obtain ⟨p,hp⟩:∃ p,lt.length=p + 1:=⟨lt.length - 1,by omega⟩
   have hp3:p + 1≤lt.length:=by omega
   obtain ⟨l1,y,l2,hsp,hp1,hp2,hy⟩:=cut_at hp3
   have hcap:lt.length≤cs:=by
    obtain ⟨_,_,e,q,-⟩:=hS.form
    simp only [Value.slice.injEq] at e
    omega
   have hry:(lW lt)[p]?=some y.cells:=by rw [List.getElem?_map,hy]; rfl
   refine qV (t:=last) (hb) ?_
   refine go0 11 [] [(24,Vi (IntKind.i64.wrap ((lt.length:Int) - 1)),Vi (p:Int))] ?_ (hc:=(And.intro ((jJ (by omega) (by omega)).trans (congrArg (Value.int .i64) (by omega))) (trivial)))
   obtain ⟨i,f,c,hf,hc,hyn,hyk,ht,hxo,hK'⟩:=(hsp ▸ hK:CalK fm P ρ lv k E (l1++y :: l2)).step
   have hM:=hK.m
   have hM':=hK'.m
   have hff:E.fm.fields[i]?=some f:=by rw [hM.efm]; exact hf
   have hF:=hM.ok.fm.fields.each f (List.mem_of_getElem? hff)
   have few:=hM.ok.fm.fields.few
   have hil:=(List.getElem?_eq_some_iff.1 hff).1
   obtain ⟨vs,Ax,cx,ex,-,-,hr4,hs4,hl4,hu4⟩:=jQ hE.form.fields
   have hfl:E.fm.fields.length=n:=by rw [hM.efm]; exact hnn
   rw [hfl] at hr4 ex
   simp only [Value.slice.injEq] at ex
   obtain ⟨rfl,-,rfl⟩:=ex
   obtain ⟨v2,hv2⟩:∃ v,vs[i]?=some v:=⟨_,List.getElem?_eq_getElem (by omega)⟩
   have hrow:=gQ hff hv2
   obtain ⟨Au,nu,cu,rfl⟩:=(AllSrc.get hs4 hff hv2).slice
   have hfi:mQ E.fm.fields y.nm=(i:Int):=by rw [hyn]; exact nQ hM.ok.fm.fields.nodup hff
   have hix:∀ b H,RS H 9 (.slice A n cA) (fQ E.fm.fields vs)→Cells H b 0 [.string y.nm,.int .i64 y.id,.int .i64 y.key.k,.int .i64 y.key.n,.string y.key.s,.int .i64 y.ans.k,.int .i64 y.ans.n,.string y.ans.s]→C0 Tryz.prog 62 #[.slice A n cA,.func (.func 63) #[] #[.pointer (some ⟨b,0,none⟩)]] H (fun r _=>r=.int .i64 (i:Int)):=fun b H q1 q2=>by
    have q:=idxF_calm E.fm.fields vs A cA y b H (by rw [hfl]; exact q1) (by omega) hl4 hu4 q2
    rw [hfi,hfl] at q
    exact q
   have han:=fun H=>answered_any f Au nu cu y.key H (name_print hF.name).1 (known_size hyk) hF.t1 hF.t3
   have bl:=hM'.last
   have hH:=fun H q=>hear_form (A:=A) (cA:=cA) (u:=ue) (h:=H) hM.ok hM.se hff hc (x:=⟨y.nm,y.id,y.key,vJ f y.key⟩) hyn hxo ht (by
    have e:(eZ (wV E i ⟨y.nm,y.id,y.key,vJ f y.key⟩ c) ρ).last=(dZ (wV E i ⟨y.nm,y.id,y.key,vJ f y.key⟩ c) ρ).last:=rfl
    omega) q hfl
   have hfk:=hK'.few
   have hl2:=hM'.len
   clear ht hM'
   generalize vJ f y.key=bv at *
   generalize eZ (wV E i ⟨y.nm,y.id,y.key,bv⟩ c) ρ=E' at *
   generalize (dZ (wV E i ⟨y.nm,y.id,y.key,bv⟩ c) ρ).out=more at *
   obtain ⟨b4,o5,rfl,-,c6⟩:=RS.row hS (hry)
   refine zQ (c6.sees (Sees.refl _)) ?_
   refine go1 12 [.ix b4 o5 lt.length cs p,.f 0 0,.own,.b 0 0,.b 2 0] [] ?_ (ho:=(And.intro (by first | omega | (simp; omega)) (trivial)))
   intro blx
   refine g_callq (fun a w hJ=>hix blx _ (hr4.sees hJ.j.seesQ) (hJ.j.boxQ (b:=blx) (cs:=[.string y.nm,Vi y.id,Vi y.key.k,Vi y.key.n,.string y.key.s,Vi y.ans.k,Vi y.ans.n,.string y.ans.s]) 0 (by kernel_rfl))) ?_; intro W7 S8
   refine go0 10 [] [] ?_
   refine aV (t:=decide ((i:Int) < 0)) (decide_eq_false (by omega)) ?_
   refine go0 3 [] [] ?_
   obtain ⟨b9,o10,rfl,-,c11⟩:=RS.row hr4 (hrow)
   refine zQ (c11.sees S8) ?_
   refine nV 11 0 [.pu,.pu,.ld 2 0,.pu,.v (fun gh=>.pointer (some ⟨b9,o10 + i * 9,none⟩)),.lf 0 0,.pu,.ld 0 2,.v (fun gh=>.agg #[Vi bv.k,Vi bv.n,.string bv.s]),.pu,.st 0 5] [] (trivial) ?_ ?_
   ·intro R hT hA hmono
    refine And.intro (oZ hT hA b9 o10 n cA i (fun gh=>.pointer (some ⟨b9,o10 + i * 9,none⟩)) (by first | omega | (simp; omega))) ?_
    refine And.intro (t_v hT hA hmono (k:=64) (args:=(fun gh=>#[.agg #[.string f.name,Vi f.kind,Vi f.ty,Vi f.src.op,Vi f.src.k,Vi f.src.n,.string f.src.s,.string f.src.nm,.slice Au nu cu],.agg #[Vi y.key.k,Vi y.key.n,.string y.key.s]])) (f:=fun gh=>.agg #[Vi bv.k,Vi bv.n,.string bv.s]) (fun gh H sH fH lent=>han _)) ?_
    trivial
   rintro W12 S13 -
   refine go0 5 [.b 2 0,.b 0 0] [] ?_
   refine vQ (fun H sH=>hH _ (hE.sees (S8.trans (S13.trans sH)))) ?_; rintro _ W14 S15 ⟨A5,c5,u50,rfl,f50,g50⟩
   refine go1 22 [.own,.b 0 0] [] ?_
   intro bnw
   obtain ⟨Ad,hAd⟩:∃ x,x=(if cs=(p + 1) then (some ⟨b4,o5,none⟩) else (some ⟨b4,o5,none⟩:Option Addr).map (·.add ((p + 1) * 8))):=⟨_,rfl⟩
   refine nV 13 0 [.ld 0 0,.pu,.pu,.v (fun gh=>.slice (some ⟨b4,o5,none⟩) p cs),.pu,.pu,.v (fun gh=>Vi ((p + 1:Nat):Int)),.v (fun gh=>.slice Ad (lt.length - (p + 1)) (cs - (p + 1))),.pu,.f (fun gh=>.slice (some ⟨(yJ (gh 9)),0,none⟩) 3 3) (fun gh hh=>Cells hh (yJ (gh 9)) 0 [.slice (some ⟨b4,o5,none⟩) p cs,.slice Ad (lt.length - (p + 1)) (cs - (p + 1)),.slice (sA (agJ 5 u50)) (sN (agJ 5 u50)) (sC (agJ 5 u50))]),.f (fun gh=>.slice (sA (gh 10)) ((l1++l2++more).length) (sC (gh 10))) (fun gh hh=>RS hh 8 (.slice (sA (gh 10)) (l1++l2++more).length (sC (gh 10))) (lW (l1++l2++more))),.st 3 0,.pu] [(9,true),(10,false)] (And.intro (fun _ _ _ s c=>c.sees s) (And.intro (fun _ _ _ s c=>c.sees s) (trivial))) ?_ ?_
   ·intro R hT hA hmono
    refine And.intro (t_p hT hA (fun gh=>.slice (some ⟨b4,o5,none⟩) p cs) (fun gh w=>run_hi (t:=35) (e:=67) (x:=(.tmp 59)) (y:=(.tmp 60)) (A:=(some ⟨b4,o5,none⟩)) (n:=lt.length) (cap:=cs) (k:=p) (kk:=8) (by kernel_rfl) (by kernel_rfl) (by kernel_rfl) (by omega) Tryz.underlying35 (by kernel_rfl))) ?_
    refine And.intro (nZ hT hA (fun gh=>Vi ((p + 1:Nat):Int)) (fun gh=>Vi (IntKind.i64.wrap ((p:Int) + 1))) (fun gh=>jJ (by omega) (by omega))) ?_
    refine And.intro (t_p hT hA (fun gh=>.slice Ad (lt.length - (p + 1)) (cs - (p + 1))) (fun gh w=>run_lo (t:=35) (e:=67) (x:=(.tmp 62)) (y:=(.tmp 64)) (A:=(some ⟨b4,o5,none⟩)) (A':=Ad) (n:=lt.length) (cap:=cs) (k:=(p + 1)) (kk:=8) (by kernel_rfl) (by kernel_rfl) (by kernel_rfl) (by omega) Tryz.underlying35 (by kernel_rfl) hAd)) ?_
    refine And.intro (r_fact hT hA hmono ⟨fun _ _=>by kernel_rfl,fun _ _=>by kernel_rfl,fun _ _=>by kernel_rfl⟩ 67 (fun g=>Vs g 3 3) [3,7,8] 9 (by kernel_rfl) (by kernel_rfl) (fun _=>by kernel_rfl) (fun gh=>[.slice (some ⟨b4,o5,none⟩) p cs,.slice Ad (lt.length - (p + 1)) (cs - (p + 1)),.slice (sA (agJ 5 u50)) (sN (agJ 5 u50)) (sC (agJ 5 u50))]) 35 (fun _ _=>by kernel_rfl) (fun gh zb zH zc zj zq zhq zhe=>oX (i:=9) (k:=0) (f:=fun gh hh=>Cells hh (yJ (gh 9)) 0 [.slice (some ⟨b4,o5,none⟩) p cs,.slice Ad (lt.length - (p + 1)) (cs - (p + 1)),.slice (sA (agJ 5 u50)) (sN (agJ 5 u50)) (sC (agJ 5 u50))]) (by kernel_rfl) (by kernel_rfl) zc zj zq zhq zhe)) ?_
    refine And.intro (dY hT hA hmono ⟨fun _ _=>by kernel_rfl,fun _ _=>by kernel_rfl,fun _ _=>by kernel_rfl⟩ 68 (fun u=>.slice (sA u) (l1++l2++more).length (sC u)) [9] 10 65 (fun gh=>#[.slice (some ⟨(yJ (gh 9)),0,none⟩) 3 3]) (fun gh H sH fH lent=>C0.facts (R:=R) (x:=gh) (i:=10) (n:=1) (F:=(fun u=>.slice (sA u) (l1++l2++more).length (sC u))) (G:=fun u hh=>RS hh 8 (.slice (sA u) (l1++l2++more).length (sC u)) (lW (l1++l2++more))) (f:=fun gh hh=>RS hh 8 (.slice (sA (gh 10)) (l1++l2++more).length (sC (gh 10))) (lW (l1++l2++more))) (calm_cat hp1 hp2 hp3 (by rw [List.length_append,List.length_append] at hl2; omega) (hS.sees (S8.trans (S13.trans (S15.trans sH)))) hAd (g50.sees sH) (fH 0 _ rfl (by kernel_rfl))) (by kernel_rfl) (by kernel_rfl) (fun _ _ r=>r))) ?_
    trivial
   rintro b17 u68 W18 S19 ⟨f16,f68,-⟩
   replace f16:Cells W18 b17 0 [.slice (some ⟨b4,o5,none⟩) p cs,.slice Ad (lt.length - (p + 1)) (cs - (p + 1)),.slice (sA (agJ 5 u50)) (sN (agJ 5 u50)) (sC (agJ 5 u50))]:=f16
   replace f68:RS W18 8 (.slice (sA u68) (l1++l2++more).length (sC u68)) (lW (l1++l2++more)):=f68
   refine zQ f16 ?_
   refine go0 6 [] [(69,Vi (IntKind.i64.wrap ((k:Int) + 1)),Vi ((k:Int) + 1))] ?_ (hc:=(And.intro (jJ (by omega) (by omega)) (trivial)))
   exact pV (k + 1) (fun X q=>⟨W18,E',(l1++l2++more),A5,c5,u50,(sA u68),(sC u68),q _ _ _ _ ⟨rfl,by kernel_rfl⟩,(S3.trans (S8.trans (S13.trans (S15.trans S19)))),by omega,hK',(f50.sees S19),f68⟩) (by omega)
  ·skip
   obtain ⟨p,hp⟩:∃ p:Nat,p=0:=⟨0,rfl⟩
   have hp3:p + 1≤lt.length:=by omega
   obtain ⟨l1,y,l2,hsp,hp1,hp2,hy⟩:=cut_at hp3
   have hcap:lt.length≤cs:=by
    obtain ⟨_,_,e,q,-⟩:=hS.form
    simp only [Value.slice.injEq] at e
    omega
   have hry:(lW lt)[p]?=some y.cells:=by rw [List.getElem?_map,hy]; rfl
   refine oV 8 (v:=Vi 0) (v':=Vi (p:Int)) (congrArg (Value.int .i64) (by omega)) ?_
   refine aV (t:=last) (hb) ?_
   refine go0 6 [] [] ?_
   obtain ⟨i,f,c,hf,hc,hyn,hyk,ht,hxo,hK'⟩:=(hsp ▸ hK:CalK fm P ρ lv k E (l1++y :: l2)).step
   have hM:=hK.m
   have hM':=hK'.m
   have hff:E.fm.fields[i]?=some f:=by rw [hM.efm]; exact hf
   have hF:=hM.ok.fm.fields.each f (List.mem_of_getElem? hff)
   have few:=hM.ok.fm.fields.few
   have hil:=(List.getElem?_eq_some_iff.1 hff).1
   obtain ⟨vs,Ax,cx,ex,-,-,hr4,hs4,hl4,hu4⟩:=jQ hE.form.fields
   have hfl:E.fm.fields.length=n:=by rw [hM.efm]; exact hnn
   rw [hfl] at hr4 ex
   simp only [Value.slice.injEq] at ex
   obtain ⟨rfl,-,rfl⟩:=ex
   obtain ⟨v2,hv2⟩:∃ v,vs[i]?=some v:=⟨_,List.getElem?_eq_getElem (by omega)⟩
   have hrow:=gQ hff hv2
   obtain ⟨Au,nu,cu,rfl⟩:=(AllSrc.get hs4 hff hv2).slice
   have hfi:mQ E.fm.fields y.nm=(i:Int):=by rw [hyn]; exact nQ hM.ok.fm.fields.nodup hff
   have hix:∀ b H,RS H 9 (.slice A n cA) (fQ E.fm.fields vs)→Cells H b 0 [.string y.nm,.int .i64 y.id,.int .i64 y.key.k,.int .i64 y.key.n,.string y.key.s,.int .i64 y.ans.k,.int .i64 y.ans.n,.string y.ans.s]→C0 Tryz.prog 62 #[.slice A n cA,.func (.func 63) #[] #[.pointer (some ⟨b,0,none⟩)]] H (fun r _=>r=.int .i64 (i:Int)):=fun b H q1 q2=>by
    have q:=idxF_calm E.fm.fields vs A cA y b H (by rw [hfl]; exact q1) (by omega) hl4 hu4 q2
    rw [hfi,hfl] at q
    exact q
   have han:=fun H=>answered_any f Au nu cu y.key H (name_print hF.name).1 (known_size hyk) hF.t1 hF.t3
   have bl:=hM'.last
   have hH:=fun H q=>hear_form (A:=A) (cA:=cA) (u:=ue) (h:=H) hM.ok hM.se hff hc (x:=⟨y.nm,y.id,y.key,vJ f y.key⟩) hyn hxo ht (by
    have e:(eZ (wV E i ⟨y.nm,y.id,y.key,vJ f y.key⟩ c) ρ).last=(dZ (wV E i ⟨y.nm,y.id,y.key,vJ f y.key⟩ c) ρ).last:=rfl
    omega) q hfl
   have hfk:=hK'.few
   have hl2:=hM'.len
   clear ht hM'
   generalize vJ f y.key=bv at *
   generalize eZ (wV E i ⟨y.nm,y.id,y.key,bv⟩ c) ρ=E' at *
   generalize (dZ (wV E i ⟨y.nm,y.id,y.key,bv⟩ c) ρ).out=more at *
   obtain ⟨b20,o21,rfl,-,c22⟩:=RS.row hS (hry)
   refine zQ (c22.sees (Sees.refl _)) ?_
   refine go1 12 [.ix b20 o21 lt.length cs p,.f 0 0,.own,.b 0 0,.b 2 0] [] ?_ (ho:=(And.intro (by first | omega | (simp; omega)) (trivial)))
   intro blx
   refine g_callq (fun a w hJ=>hix blx _ (hr4.sees hJ.j.seesQ) (hJ.j.boxQ (b:=blx) (cs:=[.string y.nm,Vi y.id,Vi y.key.k,Vi y.key.n,.string y.key.s,Vi y.ans.k,Vi y.ans.n,.string y.ans.s]) 0 (by kernel_rfl))) ?_; intro W23 S24
   refine go0 10 [] [] ?_
   refine aV (t:=decide ((i:Int) < 0)) (decide_eq_false (by omega)) ?_
   refine go0 3 [] [] ?_
   obtain ⟨b25,o26,rfl,-,c27⟩:=RS.row hr4 (hrow)
   refine zQ (c27.sees S24) ?_
   refine nV 11 0 [.pu,.pu,.ld 2 0,.pu,.v (fun gh=>.pointer (some ⟨b25,o26 + i * 9,none⟩)),.lf 0 0,.pu,.ld 0 2,.v (fun gh=>.agg #[Vi bv.k,Vi bv.n,.string bv.s]),.pu,.st 0 5] [] (trivial) ?_ ?_
   ·intro R hT hA hmono
    refine And.intro (oZ hT hA b25 o26 n cA i (fun gh=>.pointer (some ⟨b25,o26 + i * 9,none⟩)) (by first | omega | (simp; omega))) ?_
    refine And.intro (t_v hT hA hmono (k:=64) (args:=(fun gh=>#[.agg #[.string f.name,Vi f.kind,Vi f.ty,Vi f.src.op,Vi f.src.k,Vi f.src.n,.string f.src.s,.string f.src.nm,.slice Au nu cu],.agg #[Vi y.key.k,Vi y.key.n,.string y.key.s]])) (f:=fun gh=>.agg #[Vi bv.k,Vi bv.n,.string bv.s]) (fun gh H sH fH lent=>han _)) ?_
    trivial
   rintro W28 S29 -
   refine go0 5 [.b 2 0,.b 0 0] [] ?_
   refine vQ (fun H sH=>hH _ (hE.sees (S24.trans (S29.trans sH)))) ?_; rintro _ W30 S31 ⟨A5,c5,u50,rfl,f50,g50⟩
   refine go1 22 [.own,.b 0 0] [] ?_
   intro bnw
   obtain ⟨Ae,hAe⟩:∃ x,x=(if cs=(p + 1) then (some ⟨b20,o21,none⟩) else (some ⟨b20,o21,none⟩:Option Addr).map (·.add ((p + 1) * 8))):=⟨_,rfl⟩
   refine nV 13 0 [.ld 0 0,.pu,.pu,.v (fun gh=>.slice (some ⟨b20,o21,none⟩) p cs),.pu,.pu,.v (fun gh=>Vi ((p + 1:Nat):Int)),.v (fun gh=>.slice Ae (lt.length - (p + 1)) (cs - (p + 1))),.pu,.f (fun gh=>.slice (some ⟨(yJ (gh 9)),0,none⟩) 3 3) (fun gh hh=>Cells hh (yJ (gh 9)) 0 [.slice (some ⟨b20,o21,none⟩) p cs,.slice Ae (lt.length - (p + 1)) (cs - (p + 1)),.slice (sA (agJ 5 u50)) (sN (agJ 5 u50)) (sC (agJ 5 u50))]),.f (fun gh=>.slice (sA (gh 10)) ((l1++l2++more).length) (sC (gh 10))) (fun gh hh=>RS hh 8 (.slice (sA (gh 10)) (l1++l2++more).length (sC (gh 10))) (lW (l1++l2++more))),.st 3 0,.pu] [(9,true),(10,false)] (And.intro (fun _ _ _ s c=>c.sees s) (And.intro (fun _ _ _ s c=>c.sees s) (trivial))) ?_ ?_
   ·intro R hT hA hmono
    refine And.intro (t_p hT hA (fun gh=>.slice (some ⟨b20,o21,none⟩) p cs) (fun gh w=>run_hi (t:=35) (e:=67) (x:=(.tmp 59)) (y:=(.tmp 60)) (A:=(some ⟨b20,o21,none⟩)) (n:=lt.length) (cap:=cs) (k:=p) (kk:=8) (by kernel_rfl) (by kernel_rfl) (by kernel_rfl) (by omega) Tryz.underlying35 (by kernel_rfl))) ?_
    refine And.intro (nZ hT hA (fun gh=>Vi ((p + 1:Nat):Int)) (fun gh=>Vi (IntKind.i64.wrap ((p:Int) + 1))) (fun gh=>jJ (by omega) (by omega))) ?_
    refine And.intro (t_p hT hA (fun gh=>.slice Ae (lt.length - (p + 1)) (cs - (p + 1))) (fun gh w=>run_lo (t:=35) (e:=67) (x:=(.tmp 62)) (y:=(.tmp 64)) (A:=(some ⟨b20,o21,none⟩)) (A':=Ae) (n:=lt.length) (cap:=cs) (k:=(p + 1)) (kk:=8) (by kernel_rfl) (by kernel_rfl) (by kernel_rfl) (by omega) Tryz.underlying35 (by kernel_rfl) hAe)) ?_
    refine And.intro (r_fact hT hA hmono ⟨fun _ _=>by kernel_rfl,fun _ _=>by kernel_rfl,fun _ _=>by kernel_rfl⟩ 67 (fun g=>Vs g 3 3) [3,7,8] 9 (by kernel_rfl) (by kernel_rfl) (fun _=>by kernel_rfl) (fun gh=>[.slice (some ⟨b20,o21,none⟩) p cs,.slice Ae (lt.length - (p + 1)) (cs - (p + 1)),.slice (sA (agJ 5 u50)) (sN (agJ 5 u50)) (sC (agJ 5 u50))]) 35 (fun _ _=>by kernel_rfl) (fun gh zb zH zc zj zq zhq zhe=>oX (i:=9) (k:=0) (f:=fun gh hh=>Cells hh (yJ (gh 9)) 0 [.slice (some ⟨b20,o21,none⟩) p cs,.slice Ae (lt.length - (p + 1)) (cs - (p + 1)),.slice (sA (agJ 5 u50)) (sN (agJ 5 u50)) (sC (agJ 5 u50))]) (by kernel_rfl) (by kernel_rfl) zc zj zq zhq zhe)) ?_
    refine And.intro (dY hT hA hmono ⟨fun _ _=>by kernel_rfl,fun _ _=>by kernel_rfl,fun _ _=>by kernel_rfl⟩ 68 (fun u=>.slice (sA u) (l1++l2++more).length (sC u)) [9] 10 65 (fun gh=>#[.slice (some ⟨(yJ (gh 9)),0,none⟩) 3 3]) (fun gh H sH fH lent=>C0.facts (R:=R) (x:=gh) (i:=10) (n:=1) (F:=(fun u=>.slice (sA u) (l1++l2++more).length (sC u))) (G:=fun u hh=>RS hh 8 (.slice (sA u) (l1++l2++more).length (sC u)) (lW (l1++l2++more))) (f:=fun gh hh=>RS hh 8 (.slice (sA (gh 10)) (l1++l2++more).length (sC (gh 10))) (lW (l1++l2++more))) (calm_cat hp1 hp2 hp3 (by rw [List.length_append,List.length_append] at hl2; omega) (hS.sees (S24.trans (S29.trans (S31.trans sH)))) hAe (g50.sees sH) (fH 0 _ rfl (by kernel_rfl))) (by kernel_rfl) (by kernel_rfl) (fun _ _ r=>r))) ?_
    trivial
   rintro b33 u68 W34 S35 ⟨f32,f68,-⟩
   replace f32:Cells W34 b33 0 [.slice (some ⟨b20,o21,none⟩) p cs,.slice Ae (lt.length - (p + 1)) (cs - (p + 1)),.slice (sA (agJ 5 u50)) (sN (agJ 5 u50)) (sC (agJ 5 u50))]:=f32
   replace f68:RS W34 8 (.slice (sA u68) (l1++l2++more).length (sC u68)) (lW (l1++l2++more)):=f68
   refine zQ f32 ?_
   refine go0 6 [] [(69,Vi (IntKind.i64.wrap ((k:Int) + 1)),Vi ((k:Int) + 1))] ?_ (hc:=(And.intro (jJ (by omega) (by omega)) (trivial)))
   exact pV (k + 1) (fun X q=>⟨W34,E',(l1++l2++more),A5,c5,u50,(sA u68),(sC u68),q _ _ _ _ ⟨rfl,by kernel_rfl⟩,(S3.trans (S24.trans (S29.trans (S31.trans S35)))),by omega,hK',(f50.sees S35),f68⟩) (by omega)
end Go.Proofs.YtmoahpojchndiaaGreat
namespace Go.Proofs.YtmoahpojchndiaaGreat
open Go.RowKit
set_option linter.unusedVariables false
theorem orc1_any (p:Aw) (b:Nat) (x:Aw) (h:Vw) (hc:Cells h b 0 (anRow x)):C0 Tryz.prog 141 #[.agg #[.string p.nm,.int .i64 p.key.k,.int .i64 p.key.n,.string p.key.s,.int .i64 p.has.k,.int .i64 p.has.n,.string p.has.s],.pointer (some ⟨b,0,none⟩)] h (fun r _=>r=.bool (p.hit x.nm x.key)):=by
 unfold Aw.hit
 refine yQ Tryz.func141 (c:=Tryz.f141.body.getD .skip) (N:=16) ?_
 intro hbx hbad Q hQ
 refine zQ (hc.sees (Sees.refl _)) ?_
 refine go1 14 [.own,.b 0 0,.f 0 0] [] ?_
 intro b1
 cases boolIs (p.nm.toList == x.nm.toList) with
 | true hq =>
  generalize hg:eqB p.key x.key=g at *
  refine oV 9 (v:=.bool (p.nm.toList == x.nm.toList)) (v':=.bool true) (congrArg Value.bool hq) ?_
  refine go0 4 [.b 0 1,.f 0 1] [] ?_
  refine mV (.bool g) (fun w=>run_eqop (x:=(.tmp 11)) (y:=(.tmp 13)) (v:=p.key) (w:=x.key) (by kernel_rfl) (by kernel_rfl) (by kernel_rfl) (hg)) ?_
  refine go0 5 [] [] ?_
  refine hQ.to [.bool g] (fun H sH=>?_)
  exact congrArg Value.bool (by rw [hq]; rfl)
 | false hq =>
  refine oV 9 (v:=.bool (p.nm.toList == x.nm.toList)) (v':=.bool false) (congrArg Value.bool hq) ?_
  refine go0 10 [] [] ?_
  refine hQ.to [.bool false] (fun H sH=>?_)
  exact congrArg Value.bool (by rw [hq]; rfl)
theorem idxOrc_any (l:List Aw) (A:Option Addr) (cap:Nat) (b:Nat) (x:Aw) (h:Vw) (hr:RS h 7 (.slice A l.length cap) (tJ l)) (hl:l.length≤1000000) (hc:Cells h b 0 (anRow x)) (hno:∀ q∈l,q.hit x.nm x.key=false) :
  C0 Tryz.prog 57 #[.slice A l.length cap,.func (.func 141) #[] #[.pointer (some ⟨b,0,none⟩)]] h (fun r _=>r=.int .i64 (-1)):=by
 generalize hL:l.length=len at *
 refine yQ Tryz.func57 (c:=Tryz.f57.body.getD .skip) (N:=19) ?_
 intro hbx hbad Q hQ
 refine go0 14 [] [] ?_
 refine gV [0,1,0,1] [.block 0,.seq [1,1]] (fun (k:Nat) X=>∃ (W1:Vw) ,X W1 [(0,.slice A len cap),(1,.func (.func 141) #[] #[Vp b]),(7,Vi (len:Int)),(8,Vi (k:Int))] [] []∧Sees h W1∧(k≤len)) (fun k=>len - k) (0) (fun X q=>⟨h,q _ _ _ _ ⟨rfl,by kernel_rfl⟩,Sees.refl _,Nat.zero_le _⟩) ?_
 rintro k a w ⟨W1,hJ,S2,hk⟩; refine lV hJ ?_; clear hJ a w
 refine go0 6 [] [] ?_
 rcases (by omega:k < len∨k=len) with hlt | hke
 ·obtain ⟨q,hqk⟩:∃ q,l[k]?=some q:=⟨_,List.getElem?_eq_getElem (by omega)⟩
  have hrow:(tJ l)[k]?=some (anRow q):=by rw [List.getElem?_map,hqk]; rfl
  have hq1:=fun H q1=>orc1_any q b x H q1
  rw [hno q (List.mem_of_getElem? hqk)] at hq1
  refine qV (t:=decide ((k:Int) < (len:Int))) (decide_eq_true (by omega)) ?_
  refine go0 15 [] [] ?_
  obtain ⟨b3,o4,rfl,-,c5⟩:=RS.row hr (hrow)
  refine zQ (c5.sees S2) ?_
  refine go0 13 [.ix b3 o4 len cap k,.f 0 0,.cl 141 #[.agg #[.string q.nm,Vi q.key.k,Vi q.key.n,.string q.key.s,Vi q.has.k,Vi q.has.n,.string q.has.s],Vp b] (.bool false)] [(18,Vi (IntKind.i64.wrap ((k:Int) + 1)),Vi ((k:Int) + 1))] ?_ (ho:=(And.intro (by first | omega | (simp; omega)) (And.intro (fun H sH=>hq1 _ (hc.sees (S2.trans sH))) (trivial)))) (hc:=(And.intro (jJ (by omega) (by omega)) (trivial)))
  exact pV (k + 1) (fun X q=>⟨W1,q _ _ _ _ ⟨rfl,by kernel_rfl⟩,S2,by omega⟩) (by omega)
 ·skip
  refine aV (t:=decide ((k:Int) < (len:Int))) (decide_eq_false (by omega)) ?_
  refine go0 2 [] [] ?_
  refine fV ?_
  refine go0 8 [] [] ?_
  refine hQ.to [Vi (-1)] (fun H sH=>?_)
  exact rfl
theorem contOrc_any (l:List Aw) (A:Option Addr) (cap:Nat) (b:Nat) (x:Aw) (h:Vw) (hr:RS h 7 (.slice A l.length cap) (tJ l)) (hl:l.length≤1000000) (hc:Cells h b 0 (anRow x)) (hno:∀ q∈l,q.hit x.nm x.key=false) :
  C0 Tryz.prog 69 #[.slice A l.length cap,.func (.func 141) #[] #[.pointer (some ⟨b,0,none⟩)]] h (fun r _=>r=.bool false):=by
 have hi:=fun H q1 q2=>idxOrc_any l A cap b x H q1 hl q2 hno
 refine yQ Tryz.func69 (c:=Tryz.f69.body.getD .skip) (N:=9) ?_
 intro hbx hbad Q hQ
 refine go0 15 [.cl 57 #[.slice A l.length cap,.func (.func 141) #[] #[Vp b]] (Vi (-1))] [] ?_ (ho:=(And.intro (fun H sH=>hi _ (hr.sees sH) (hc.sees sH)) (trivial)))
 refine hQ.to [.bool false] (fun H sH=>?_)
 exact rfl
theorem once_take {l:List Aw} (h:l.Pairwise (fun p q=>p.hit q.nm q.key=false)) {k:Nat} {x:Aw} (hx:l[k]?=some x):∀ q∈l.take k,q.hit x.nm x.key=false:=fun q hq=>by
 obtain ⟨i,hi⟩:=List.getElem?_of_mem hq
 have hik:i < k:=by
  rcases Nat.lt_or_ge i k with g | g
  ·exact g
  ·rw [List.getElem?_eq_none (by rw [List.length_take]; omega)] at hi; cases hi
 rw [List.getElem?_take_of_lt hik] at hi
 obtain ⟨a,ea⟩:=List.getElem?_eq_some_iff.1 hi
 obtain ⟨b,eb⟩:=List.getElem?_eq_some_iff.1 hx
 have:=List.pairwise_iff_getElem.1 h i k a b hik
 rw [ea,eb] at this
 exact this
set_option maxHeartbeats 4000000 in
theorem whOracle_any (fs:List Fd) (hok:OkFs fs) (l:List Aw) (ho:OkOrc fs l) (A:Option Addr) (n c:Nat) (B:Option Addr) (m d:Nat) (so:Value) (h:Vw) (hf:IsFds h (.slice A n c) fs) (hn:n=fs.length) (hr:RS h 7 so (tJ l)) (hl:l.length≤1000) :
  C0 Tryz.prog 107 #[.agg #[.slice A n c,.slice B m d],so] h (fun r _=>r=.int .i64 0):=by
 obtain ⟨vs,A3,c3,e3,-,-,hr3,hs3,hl3,hsl⟩:=jQ hf
 have few:=hok.few
 have hF:=fun H s i q hp=>find_yes fs (.slice A n c) s i H q (by omega) hp
 have hT:=fun H x v q1 q2 q3 q4=>tyOf_any fs x v (.slice A n c) H q1 q2 q3 q4
 simp only [Value.slice.injEq] at e3
 obtain ⟨rfl,-,rfl⟩:=e3
 rw [← hn] at hr3 hl3
 obtain ⟨A0,c0,rfl,hc1,-,-⟩:=hr.form
 rw [List.length_map] at *
 have hC:=fun k H b x q1 q2 q3=>contOrc_any (l.take k) A0 c0 b x H q1 (by rw [List.length_take]; omega) q2 q3
 generalize hL:l.length=len at *
 refine yQ Tryz.func107 (c:=Tryz.f107.body.getD .skip) (N:=83) ?_
 intro hbx hbad Q hQ
 refine go1 15 [.own] [] ?_
 intro b1
 refine gV [0,1,0,1] [.block 0,.seq [1,1]] (fun (k:Nat) X=>∃ (W2:Vw) ,X W2 [(1,.slice A0 len c0),(2,Vp b1),(13,.slice A0 len c0),(14,Vi (len:Int)),(15,Vi (k:Int))] [.box b1 [.slice A n c,.slice B m d]] []∧Sees h W2∧(k≤len)) (fun k=>len - k) (0) (fun X q=>⟨h,q _ _ _ _ ⟨rfl,by kernel_rfl⟩,Sees.refl _,Nat.zero_le _⟩) ?_
 rintro k a w ⟨W2,hJ,S3,hkl⟩; refine lV hJ ?_; clear hJ a w
 refine go0 6 [] [] ?_
 rcases (by omega:k < len∨k=len) with hlt | hke
 ·obtain ⟨x,hxk⟩:∃ x,l[k]?=some x:=⟨_,List.getElem?_eq_getElem (by omega)⟩
  have hrow:(tJ l)[k]?=some (anRow x):=by rw [List.getElem?_map,hxk]; rfl
  have hno:=once_take ho.once hxk
  have hx:=ho.each x (List.mem_of_getElem? hxk)
  obtain ⟨i,f,t,p1,p2,p3,p4,p5,p6⟩:=hx.place
  have hil:=(List.getElem?_eq_some_iff.1 p1).1
  have hF1:=hok.each f (List.mem_of_getElem? p1)
  obtain ⟨w1,w2,w3⟩:=hF1.wf (by omega)
  obtain ⟨u,hu⟩:∃ u,vs[i]?=some u:=⟨_,List.getElem?_eq_getElem (by omega)⟩
  have hfr:=gQ p1 hu
  have hga:∀ H,AllSrc H fs vs→IsArgs H f.src u:=fun H q=>AllArgs.get q (x:=f.src) (by rw [List.getElem?_map,p1]; rfl) hu
  obtain ⟨Au,nu,cu,rfl⟩:=(hga _ hs3).slice
  have hfd:=nQ hok.nodup p1
  have hF2:=fun H q=>hF H x.nm i q (by rw [← p2]; exact hfd)
  have hT2:=fun H q1 q2=>hT H f.src (.slice Au nu cu) q1 w1 (by omega) q2
  rw [show ofE fs f.src=(t,0) from by unfold ofE; rw [if_pos w3,p4]] at hT2
  have hk1:=fun H=>c_kn x.key.k x.key.n x.key.s H hx.key
  have hk2:=fun H=>check_okv x.has H (.inl hx.has)
  have htl:(l.take k).length=k:=by rw [List.length_take]; omega
  have htr:RS h 7 (.slice A0 k c0) (tJ (l.take k)):=by have:=hr.take k (by rw [List.length_map]; omega); rwa [← List.map_take] at this
  have hC2:=fun H b q1 q2=>hC k H b x q1 q2 hno
  rw [htl] at hC2
  refine qV (t:=decide ((k:Int) < (len:Int))) (decide_eq_true (by omega)) ?_
  refine go0 7 [] [] ?_
  obtain ⟨b4,o5,rfl,-,c6⟩:=RS.row hr (hrow)
  refine zQ (c6.sees S3) ?_
  refine go1 36 [.ix b4 o5 len c0 k,.f 0 0,.own,.b 0 0,.b 1 0,.b 0 0,.cl 60 #[.slice A n c,.string x.nm] (.tuple #[Vi (i:Int),Vi 0]),.b 1 0] [] ?_ (ho:=(And.intro (by first | omega | (simp; omega)) (And.intro (fun H sH=>hF2 _ (hf.sees (S3.trans sH))) (trivial))))
  intro bx
  obtain ⟨b7,o8,rfl,-,c9⟩:=RS.row hr3 (hfr)
  refine zQ (c9.sees S3) ?_
  refine go1 86 [.ix b7 o8 n c i,.f 0 0,.own,.b 0 0,.b 0 1,.b 0 3,.b 2 0,.cl 140 #[.agg #[Vi f.src.op,Vi f.src.k,Vi f.src.n,.string f.src.s,.string f.src.nm,.slice Au nu cu],.slice (some ⟨b7,o8,none⟩) n c] (.tuple #[Vi t,Vi 0]),.b 1 1,.cl 68 #[.agg #[Vi x.key.k,Vi x.key.n,.string x.key.s]] (.bool true),.b 1 1,.b 1 4,.cl 89 #[.agg #[Vi x.has.k,Vi x.has.n,.string x.has.s]] (Vi 0),.b 1 4,.b 0 2] [(38,.bool (f.kind != 3),.bool false),(56,.bool (x.key.k != t),.bool false),(69,.bool (x.has.k != f.ty),.bool false)] ?_ (ho:=(And.intro (by first | omega | (simp; omega)) (And.intro (fun H sH=>hT2 _ (hga _ (hs3.sees (S3.trans sH))) (hf.sees (S3.trans sH))) (And.intro (fun H sH=>hk1 _) (And.intro (fun H sH=>hk2 _) (trivial)))))) (hc:=(And.intro (congrArg Value.bool (by rw [bne_eq_false_iff_eq]; exact p3)) (And.intro (congrArg Value.bool (by rw [bne_eq_false_iff_eq]; exact p5)) (And.intro (congrArg Value.bool (by rw [bne_eq_false_iff_eq]; exact p6)) (trivial)))))
  intro b10
  refine mV (.slice (some ⟨b4,o5,none⟩) k c0) (fun w=>run_hi (t:=30) (e:=51) (x:=(.tmp 77)) (y:=(.tmp 78)) (A:=(some ⟨b4,o5,none⟩)) (n:=len) (cap:=c0) (k:=k) (kk:=7) (by kernel_rfl) (by kernel_rfl) (by kernel_rfl) (by omega) Tryz.underlying30 (by kernel_rfl)) ?_
  refine go0 1 [] [] ?_
  refine g_callq (fun a w hJ=>hC2 _ bx (htr.sees (S3.trans hJ.j.seesQ)) (hJ.j.boxQ (b:=bx) (cs:=[.string x.nm,Vi x.key.k,Vi x.key.n,.string x.key.s,Vi x.has.k,Vi x.has.n,.string x.has.s]) 1 (by kernel_rfl))) ?_; intro W11 S12
  refine go0 10 [] [(82,Vi (IntKind.i64.wrap ((k:Int) + 1)),Vi ((k:Int) + 1))] ?_ (hc:=(And.intro (jJ (by omega) (by omega)) (trivial)))
  exact pV (k + 1) (fun X q=>⟨W11,q _ _ _ _ ⟨rfl,by kernel_rfl⟩,(S3.trans S12),by omega⟩) (by omega)
 ·skip
  refine aV (t:=decide ((k:Int) < (len:Int))) (decide_eq_false (by omega)) ?_
  refine go0 2 [] [] ?_
  refine fV ?_
  refine go0 8 [] [] ?_
  refine hQ.to [Vi 0] (fun H sH=>?_)
  exact rfl
end Go.Proofs.YtmoahpojchndiaaGreat
namespace Go.Proofs.YtmoahpojchndiaaGreat
open Go.RowKit
set_option linter.unusedVariables false
section
variable {P:Program} {C:Fx} {E:List (Nat × Value)} {B:List Ent} {F:List Fac} {h:Vw} {a:Act} {w w':World} {Q:Exit→Act→World→Prop} {c0:Code} {p:List Nat} {n:Nat} {ks:List Kt}
theorem x_callownq {f:FuncId} {args:Array Value} {e:TypeId} {kk:Nat} {R:Value→Value→List (List Value)→Prop} (hK:K C E B F h a w) (d:Nat) (hc:C0 P f args ⟨w,[]⟩ (fun v h'=>∃ u l,Ent.ok w.heap.size h'.w (.row u e kk l)∧R v u l)) (hk:∀ w,callAt P C E (jX c0 p) ((jX c0 p).toList.drop n) d w=[.b true,.r (.ok (.enter f args) w)])
  (k:∀ v u l h' a w,Sees h h'→R v u l→K C ((d,v) :: E) (.row u e kk l :: B) F h' a w→Goal P c0 Q (.ops p (n + 1)) ks a w):Goal P c0 Q (.ops p n) ks a w:=by
 obtain ⟨o,r,hl,hg,hd,hlt,hkn,hrun⟩:=dK hk
 have hr:=oK hl
 refine mJ hl (tQ hK.j.fits hg) (wpList_plain rfl fun KK hKK=>?_)
 unfold Oper.wp
 have hrun':∀ w,(execOp (evD E) { o with guard:=none }).run P w=.ok (.enter f args) w:=fun w=>by
  have:=hrun w
  unfold execOp at this ⊢
  exact this
 rw [xY (o:={ o with guard:=none }) hK.j.fits hkn,hrun']
 refine (hc (by intro x hx; cases hx) (by simp) (by simp) (by intro b hb; cases hb)).mono ?_
 rintro e' w' ⟨v,Bo,rfl,hlo,-,-,u,l,hok,hR⟩
 refine hKK _ _ ?_
 rw [hr]
 have j1:=(hK.j.addRow hlo hok).putd v hd hlt
 exact k v u l _ _ _ j1.sees hR ⟨j1.now,hK.facs j1.sees⟩
theorem g_callownq {s:Z} {f:FuncId} {args:Array Value} {e:TypeId} {kk:Nat} {R:Value→Value→List (List Value)→Prop} (hc:∀ a w,K C s.E s.B s.F h a w→C0 P f args ⟨w,[]⟩ (fun v h'=>∃ u l,Ent.ok w.heap.size h'.w (.row u e kk l)∧R v u l))
  (k:∀ v u l h',Sees h h'→R v u l→Go P C c0 Q h' ((s.nx c0 v).aB (.row u e kk l))) (hk:s.callOk P C c0 f args:=by intro _; kernel_rfl):Go P C c0 Q h s :=
 g_ops (eK hk).1 fun a w hK=>x_callownq hK (s.d c0) (hc a w hK) (eK hk).2 fun v u l h' a w s' r hK'=>(k v u l h' s' r).go a w hK'
end
theorem keep1_any (p:Aw) (x:Fd) (A:Option Addr) (n c:Nat) (key:Vl) (b d:Nat) (h:Vw) (hc:Cells h b 0 [.string x.name,.int .i64 x.kind,.int .i64 x.ty,.int .i64 x.src.op,.int .i64 x.src.k,.int .i64 x.src.n,.string x.src.s,.string x.src.nm,.slice A n c]) (hd:Cells h d 0 [.int .i64 key.k,.int .i64 key.n,.string key.s]):C0 Tryz.prog 70 #[.agg #[.string p.nm,.int .i64 p.key.k,.int .i64 p.key.n,.string p.key.s,.int .i64 p.has.k,.int .i64 p.has.n,.string p.has.s],.pointer (some ⟨b,0,none⟩),.pointer (some ⟨d,0,none⟩)] h (fun r _=>r=.bool (p.hit x.name key)):=by
 unfold Aw.hit
 refine yQ Tryz.func70 (c:=Tryz.f70.body.getD .skip) (N:=16) ?_
 intro hbx hbad Q hQ
 refine zQ (hc.sees (Sees.refl _)) ?_
 refine zQ (hd.sees (Sees.refl _)) ?_
 refine go1 14 [.own,.b 0 0,.f 1 0] [] ?_
 intro b1
 cases boolIs (p.nm.toList == x.name.toList) with
 | true hq =>
  generalize hg:eqB p.key key=g at *
  refine oV 10 (v:=.bool (p.nm.toList == x.name.toList)) (v':=.bool true) (congrArg Value.bool hq) ?_
  refine go0 3 [.b 0 1,.f 0 0] [] ?_
  refine mV (.bool g) (fun w=>run_eqop (x:=(.tmp 12)) (y:=(.tmp 13)) (v:=p.key) (w:=key) (by kernel_rfl) (by kernel_rfl) (by kernel_rfl) (hg)) ?_
  refine go0 5 [] [] ?_
  refine hQ.to [.bool g] (fun H sH=>?_)
  exact congrArg Value.bool (by rw [hq]; rfl)
 | false hq =>
  refine oV 10 (v:=.bool (p.nm.toList == x.name.toList)) (v':=.bool false) (congrArg Value.bool hq) ?_
  refine go0 9 [] [] ?_
  refine hQ.to [.bool false] (fun H sH=>?_)
  exact congrArg Value.bool (by rw [hq]; rfl)
theorem idxKeep_any (l:List Aw) (v:Value) (x:Fd) (A:Option Addr) (n c:Nat) (key:Vl) (b d:Nat) (h:Vw) (hr:RS h 7 v (tJ l)) (hl:l.length≤1000000) (hc:Cells h b 0 [.string x.name,.int .i64 x.kind,.int .i64 x.ty,.int .i64 x.src.op,.int .i64 x.src.k,.int .i64 x.src.n,.string x.src.s,.string x.src.nm,.slice A n c]) (hd:Cells h d 0 [.int .i64 key.k,.int .i64 key.n,.string key.s]) :
  C0 Tryz.prog 57 #[v,.func (.func 70) #[] #[.pointer (some ⟨b,0,none⟩),.pointer (some ⟨d,0,none⟩)]] h (fun r _=>r=.int .i64 (fidx (fun q:Aw=>q.hit x.name key) l)):=by
 obtain ⟨Al,cap,rfl,-,-,-⟩:=hr.form
 rw [List.length_map] at *
 generalize hL:l.length=len at *
 refine yQ Tryz.func57 (c:=Tryz.f57.body.getD .skip) (N:=19) ?_
 intro hbx hbad Q hQ
 refine go0 14 [] [] ?_
 refine gV [0,1,0,1] [.block 0,.seq [1,1]] (fun (k:Nat) X=>∃ (W1:Vw) ,X W1 [(0,.slice Al len cap),(1,.func (.func 70) #[] #[Vp b,Vp d]),(7,Vi (len:Int)),(8,Vi (k:Int))] [] []∧Sees h W1∧(k≤len)∧(∀ y∈l.take k,y.hit x.name key=false)) (fun k=>len - k) (0) (fun X q=>⟨h,q _ _ _ _ ⟨rfl,by kernel_rfl⟩,Sees.refl _,Nat.zero_le _,fun y hy=>by simp at hy⟩) ?_
 rintro k a w ⟨W1,hJ,S2,hk,hn⟩; refine lV hJ ?_; clear hJ a w
 refine go0 6 [] [] ?_
 rcases (by omega:k < len∨k=len) with hlt | hke
 ·obtain ⟨f,hfk⟩:∃ f,l[k]?=some f:=⟨_,List.getElem?_eq_getElem (by omega)⟩
  have hrow:(tJ l)[k]?=some (anRow f):=by rw [List.getElem?_map,hfk]; rfl
  generalize hq:f.hit x.name key=q at *
  have hq1:=fun H q1 q2=>keep1_any f x A n c key b d H q1 q2
  rw [hq] at hq1
  refine qV (t:=decide ((k:Int) < (len:Int))) (decide_eq_true (by omega)) ?_
  refine go0 15 [] [] ?_
  obtain ⟨b3,o4,rfl,-,c5⟩:=RS.row hr (hrow)
  refine zQ (c5.sees S2) ?_
  refine go0 5 [.ix b3 o4 len cap k,.f 0 0,.cl 70 #[.agg #[.string f.nm,Vi f.key.k,Vi f.key.n,.string f.key.s,Vi f.has.k,Vi f.has.n,.string f.has.s],Vp b,Vp d] (.bool q)] [] ?_ (ho:=(And.intro (by first | omega | (simp; omega)) (And.intro (fun H sH=>hq1 _ (hc.sees (S2.trans sH)) (hd.sees (S2.trans sH))) (trivial))))
  rcases Bool.eq_false_or_eq_true q with hh | hh
  ·refine qV (t:=q) (hh) ?_
   refine go0 9 [] [] ?_
   refine fV ?_
   refine go0 2 [] [] ?_
   refine hQ.to [Vi (k:Int)] (fun H sH=>?_)
   exact congrArg (Value.int .i64) (kQ _ l k f hn hfk (hq.trans hh)).symm
  ·skip
   refine aV (t:=q) (hh) ?_
   refine go0 7 [] [(18,Vi (IntKind.i64.wrap ((k:Int) + 1)),Vi ((k:Int) + 1))] ?_ (hc:=(And.intro (jJ (by omega) (by omega)) (trivial)))
   exact pV (k + 1) (fun X q=>⟨W1,q _ _ _ _ ⟨rfl,by kernel_rfl⟩,S2,by omega,(by rw [pZ l k f hfk]; exact fun y hy=>(List.mem_append.1 hy).elim (hn y) (fun e=>by rw [List.mem_singleton.1 e]; exact hq.trans hh))⟩) (by omega)
 ·skip
  have htk:l.take k=l:=by rw [hke,← hL,List.take_length]
  rw [htk] at hn
  refine aV (t:=decide ((k:Int) < (len:Int))) (decide_eq_false (by omega)) ?_
  refine go0 2 [] [] ?_
  refine fV ?_
  refine go0 8 [] [] ?_
  refine hQ.to [Vi (-1)] (fun H sH=>?_)
  exact congrArg (Value.int .i64) (lQ _ l hn).symm
theorem contKeep_any (l:List Aw) (v:Value) (x:Fd) (A:Option Addr) (n c:Nat) (key:Vl) (b d:Nat) (h:Vw) (hr:RS h 7 v (tJ l)) (hl:l.length≤1000000) (hc:Cells h b 0 [.string x.name,.int .i64 x.kind,.int .i64 x.ty,.int .i64 x.src.op,.int .i64 x.src.k,.int .i64 x.src.n,.string x.src.s,.string x.src.nm,.slice A n c]) (hd:Cells h d 0 [.int .i64 key.k,.int .i64 key.n,.string key.s]) :
  C0 Tryz.prog 69 #[v,.func (.func 70) #[] #[.pointer (some ⟨b,0,none⟩),.pointer (some ⟨d,0,none⟩)]] h (fun r _=>r=.bool (l.any (fun q=>q.hit x.name key))):=by
 have hi:=fun H q1 q2 q3=>idxKeep_any l v x A n c key b d H q1 hl q2 q3
 have e:=fidx_dec (fun q:Aw=>q.hit x.name key) l
 obtain ⟨Al,cap,rfl,-,-,-⟩:=hr.form
 generalize fidx (fun q:Aw=>q.hit x.name key) l=p at *
 refine yQ Tryz.func69 (c:=Tryz.f69.body.getD .skip) (N:=9) ?_
 intro hbx hbad Q hQ
 refine go0 15 [.cl 57 #[.slice Al ((tJ l).length) cap,.func (.func 70) #[] #[Vp b,Vp d]] (Vi p)] [] ?_ (ho:=(And.intro (fun H sH=>hi _ (hr.sees sH) (hc.sees sH) (hd.sees sH)) (trivial)))
 refine hQ.to [.bool (decide (p ≥ 0))] (fun H sH=>?_)
 exact congrArg Value.bool e
theorem addO_eq (env:Env) (out:List Aw) (f:Fd):addO env out f=if f.kind=3 then (if (qK env f.src).k≤3∧out.any (fun p=>p.hit f.name (qK env f.src))=false then out++[⟨f.name,qK env f.src,vJ f (qK env f.src)⟩] else out) else out:=by
 unfold addO
 by_cases h3:f.kind=3
 ·rw [if_pos h3]
  by_cases g:(qK env f.src).k≤3∧out.any (fun p=>p.hit f.name (qK env f.src))=false
  ·rw [if_pos ⟨h3,g⟩,if_pos g]
  ·rw [if_neg (fun q=>g q.2),if_neg g]
 ·rw [if_neg (fun q=>h3 q.1),if_neg h3]
theorem anRows_snoc (l:List Aw) (p:Aw):tJ (l++[p])=tJ l++[anRow p]:=by simp [tJ]
set_option maxHeartbeats 8000000 in
theorem oracle_l (f:Fm) (ρ:List Int) (lv:Nat→Nat) (A:Option Addr) (n c:Nat) (B:Option Addr) (m d:Nat) (inp:Env) (si:Value) (h:Vw) (hok:OkFm f ρ lv) (hf:IsForm h (.slice A n c) (.slice B m d) f) (hn:n=f.fields.length) (h1:1≤n)
  (hi:RS h 7 si (dQ inp)) (li:inp.length≤1000) (ki:∀ p∈inp,p.2.known) (ti:zK f.fields [] inp=0) (hW:Wh f.fields inp ρ lv (mX ρ n)) :
  C0 Tryz.prog 24 #[.agg #[.slice A n c,.slice B m d],si] h (fun r h'=>∃ A' c',r=.tuple #[.slice A' (lX f.fields inp (mX ρ n) n).length c',.bool true]∧RS h' 7 (.slice A' (lX f.fields inp (mX ρ n) n).length c') (tJ (lX f.fields inp (mX ρ n) n))):=by
 have few:=hok.fields.few
 have hAll:=fun so orc H q1 q2 q3 q4 q5=>whAll_own f ρ lv A n c B m d inp si so orc H hok q1 hn h1 q2 li ki ti q3 q4 (OkOrc.has q5) (fun H' g1 g2=>whOracle_any f.fields hok.fields orc q5 A n c B m d so H' g1.fields hn g2 q4)
 have hlen:=orcL_len f.fields inp (mX ρ n)
 have horc:=hW.orc
 have hsol:=fun r=>hW.sol (horc r)
 have hstep:∀ r,lX f.fields inp (mX ρ n) (r + 1)=oY (fcs f.fields (allW f.fields inp (lX f.fields inp (mX ρ n) r) (mX ρ n))) f.fields (lX f.fields inp (mX ρ n) r):=fun r=>rfl
 have hz:lX f.fields inp (mX ρ n) 0=[]:=rfl
 have hFa:=fun va A1 c1 H q1 q2 q3=>facts_l f.fields va A n c A1 c1 H q1 hn (by omega) q2 q3
 obtain ⟨A1,c1,rfl,-,-,-⟩:=hi.form
 rw [List.length_map] at *
 obtain ⟨vs,A3,c3,e3,-,-,hr3,hs3,hl3,hsl⟩:=jQ hf.fields
 simp only [Value.slice.injEq] at e3
 obtain ⟨rfl,-,rfl⟩:=e3
 rw [← hn] at hr3 hl3 hlen
 generalize hni:inp.length=ni at *
 clear hW
 generalize hO:lX f.fields inp (mX ρ n)=orc at *
 generalize hV:(fun r=>allW f.fields inp (orc r) (mX ρ n))=va at *
 have hV':∀ r,allW f.fields inp (orc r) (mX ρ n)=va r:=fun r=>congrFun hV r
 simp only [hV'] at hsol hstep
 have hAll':=fun so r H q1 q2 q3 q4=>hAll so (orc r) H q1 q2 q3 q4 (horc r)
 simp only [hV'] at hAll'
 clear hAll hV hV' hO
 refine yQ Tryz.func24 (c:=Tryz.f24.body.getD .skip) (N:=76) ?_
 intro hbx hbad Q hQ
 refine go1 22 [.own,.b 0 0] [] ?_
 intro b1
 refine kV 51 7 ?_
 refine gV [0,1,0,1,1] [.block 0,.seq [1,1,1]] (fun (r:Nat) X=>∃ (W2:Vw) (v:Value) (ol:List Aw),X W2 [(1,.slice A1 ni c1),(2,Vp b1),(15,Vi (n:Int)),(16,Vi (r:Int)),(6,v)] [.row v 51 7 (tJ ol),.box b1 [.slice A n c,.slice B m d]] []∧Sees h W2∧(r≤n)∧(orc r=ol)) (fun r=>n - r) (0) (fun X q=>⟨h,(Vz),[],q _ _ _ _ ⟨rfl,by kernel_rfl⟩,Sees.refl _,Nat.zero_le _,hz⟩) ?_
 rintro r a w ⟨W2,v,ol,hJ,S3,hr,hol⟩; refine lV hJ ?_; clear hJ a w
 refine go0 6 [] [] ?_
 rcases (by omega:r < n∨r=n) with hlt | hke
 ·have hAr:=fun so H q1 q2 q3=>hAll' so r H q1 q2 q3
  rw [hol] at hAr
  have hst:=hstep r
  obtain ⟨hs1,hs2⟩:=hsol r
  have hs1:=hs1.len
  rw [← hn] at hs1
  have hln:=hlen r
  have hrn:r * n≤14 * 14:=Nat.mul_le_mul (by omega) (by omega)
  rw [hol] at hst hln
  generalize va r=vr at *
  refine qV (t:=decide ((r:Int) < (n:Int))) (decide_eq_true (by omega)) ?_
  refine go0 9 [.b 1 0] [] ?_
  refine g_callownq (e:=42) (kk:=3) (fun a w hJ=>hAr _ _ (hf.sees (S3.trans hJ.j.seesQ)) (hi.sees (S3.trans hJ.j.seesQ)) (hJ.j.rowQ (v:=v) (e:=51) (k:=7) (l:=tJ ol) 0 (by kernel_rfl)) (by omega)) ?_; rintro _ _ _ W4 S5 ⟨rfl,⟨A5,c5,rfl⟩,rfl⟩
  refine go0 22 [.b 2 0] [] ?_
  refine dV 0 (v:=.slice A5 n c5) (e:=42) (kk:=3) (l:=wZ vr) ?_; intro W6 S7 fa
  refine aV (t:=(n:Int) != (n:Int)) ((by simp)) ?_
  refine go0 11 [.b 1 0] [] ?_
  have hok3:∀ p∈fcs f.fields vr,OkV p.2:=fcs_ok hs2
  have hln3:(fcs f.fields vr).length≤1000:=by rw [fcs_len (by omega)]; omega
  have hFa2:=fun H q1 q2=>hFa vr A5 c5 H q1 q2 hs1
  have hev:=fun x (hx:x∈f.fields) (h3:x.kind=3) v u H q1 q2=>eval_any x.src v (fcs f.fields vr) u H q1 ((hok.fields.each x hx).wf (by omega)).1 ((hok.fields.each x hx).wf (by omega)).2.1 (chk_deep ((hok.fields.each x hx).wf (by omega)).2.2) q2 hok3 hln3
  have hkv:=fun x (hx:x∈f.fields) (h3:x.kind=3)=>rK (get_ok hok3) _ x.src (Nat.le_refl _) ((hok.fields.each x hx).wf (by omega)).1
  have hsn:=fun j x (hx:f.fields[j]?=some x)=>(congrArg (fun l=>oY (fcs f.fields vr) l ol) (pZ f.fields j x hx)).trans (roundO_snoc (fcs f.fields vr) (f.fields.take j) x ol)
  have hrl:=fun j=>roundO_len (fcs f.fields vr) (f.fields.take j) ol
  have hadd:=fun out x=>addO_eq (fcs f.fields vr) out x
  generalize hen:fcs f.fields vr=env at *
  refine gV [0,1,1,1,0,0,1,1,0,0,1,0,1,1] [.block 2,.block 1,.seq [1,1,1,0,0,1,0,1,1]] (fun (j:Nat) X=>∃ (W8:Vw) (v:Value) (ml:List Aw),X W8 [(1,.slice A1 ni c1),(2,Vp b1),(15,Vi (n:Int)),(16,Vi (r:Int)),(7,.slice A5 n c5),(36,.slice A n c),(37,Vi (n:Int)),(38,Vi (j:Int)),(6,v)] [.row v 51 7 (tJ ml),.box b1 [.slice A n c,.slice B m d]] []∧Sees W6 W8∧(j≤n)∧(oY env (f.fields.take j) ol=ml)) (fun j=>n - j) (0) (fun X q=>⟨W6,v,ol,q _ _ _ _ ⟨rfl,by kernel_rfl⟩,Sees.refl _,Nat.zero_le _,rfl⟩) ?_
  rintro j a w ⟨W8,v,ml,hJ,S9,hj,hml⟩; refine lV hJ ?_; clear hJ a w
  refine go0 6 [] [] ?_
  rcases (by omega:j < n∨j=n) with hjl | hje
  ·obtain ⟨x,hx⟩:∃ x,f.fields[j]?=some x:=⟨_,List.getElem?_eq_getElem (by omega)⟩
   obtain ⟨u,hu⟩:∃ u,vs[j]?=some u:=⟨_,List.getElem?_eq_getElem (by omega)⟩
   have hxm:=List.mem_of_getElem? hx
   have hrow:=gQ hx hu
   have hga:∀ H,AllSrc H f.fields vs→IsArgs H x.src u:=fun H q=>AllArgs.get q (x:=x.src) (by rw [List.getElem?_map,hx]; rfl) hu
   obtain ⟨Au,nu,cu,rfl⟩:=(hga _ hs3).slice
   have hml2:=hsn j x hx
   have hmll:=hrl j
   rw [hml] at hml2 hmll
   rw [List.length_take] at hmll
   have hmr:(tJ ml).length=ml.length:=List.length_map _
   have hxo:=hok.fields.each x hxm
   obtain ⟨hx10,-⟩:=name_print hxo.name
   have t1:=hxo.t1
   have t3:=hxo.t3
   have hadd2:=hadd ml x
   refine qV (t:=decide ((j:Int) < (n:Int))) (decide_eq_true (by omega)) ?_
   refine go0 6 [] [] ?_
   obtain ⟨b10,o11,rfl,-,c12⟩:=RS.row hr3 (hrow)
   refine zQ (c12.sees (S3.trans (S5.trans (S7.trans S9)))) ?_
   refine go1 14 [.ix b10 o11 n c j,.f 0 0,.own,.b 0 0,.b 0 1] [] ?_ (ho:=(And.intro (by first | omega | (simp; omega)) (trivial)))
   intro bx
   by_cases g3:x.kind=3
   ·have hev2:=fun u H q1 q2=>hev x hxm g3 (.slice Au nu cu) u H q1 q2
    have hkv2:=hkv x hxm g3
    rw [if_pos g3] at hadd2
    generalize qK env x.src=key at *
    have hck:=fun b d v H q1 q2 q3=>contKeep_any ml v x Au nu cu key b d H q1 (by omega) q2 q3
    have han:=fun (hk:key.known) H=>answered_any x Au nu cu key H hx10 (known_size hk) t1 t3
    generalize hhit:ml.any (fun q=>q.hit x.name key)=hit at *
    generalize vJ x key=av at *
    refine aV (t:=x.kind != 3) ((by rw [bne_eq_false_iff_eq]; exact g3)) ?_
    refine go0 3 [] [] ?_
    refine nV 13 1 [.pu,.ld 1 3,.pu,.ld 3 0,.pu,.f (fun gh=>.slice (sA (gh 5)) (sN (gh 5)) (sC (gh 5))) (fun gh hh=>RS hh 7 (.slice (sA (gh 5)) (sN (gh 5)) (sC (gh 5))) (dQ env)),.v (fun gh=>.tuple #[.agg #[Vi key.k,Vi key.n,.string key.s],Vi 0]),.pu,.pu,.pu,.al 0,.st 0 0,.pu] [(5,false),(10,true)] (And.intro (fun _ _ _ s c=>c.sees s) (trivial)) ?_ ?_
    ·intro R hT hA hmono
     refine And.intro (dY hT hA hmono ⟨fun _ _=>by kernel_rfl,fun _ _=>by kernel_rfl,fun _ _=>by kernel_rfl⟩ 51 (fun u=>.slice (sA u) (sN u) (sC u)) [3,4] 5 67 (fun gh=>#[.slice (some ⟨b10,o11,none⟩) n c,.slice A5 n c5]) (fun gh H sH fH lent=>C0.facts (R:=R) (x:=gh) (i:=5) (n:=0) (F:=(fun u=>.slice (sA u) (sN u) (sC u))) (G:=fun u hh=>RS hh 7 (.slice (sA u) (sN u) (sC u)) (dQ env)) (f:=fun gh hh=>RS hh 7 (.slice (sA (gh 5)) (sN (gh 5)) (sC (gh 5))) (dQ env)) (hFa2 _ ((hf.sees (S3.trans (S5.trans (S7.trans (S9.trans sH)))))).fields (fa.sees (S9.trans sH))) (by kernel_rfl) (by kernel_rfl) (fun _ _ r=>r))) ?_
     refine And.intro (t_v hT hA hmono (k:=66) (args:=(fun gh=>#[.agg #[Vi x.src.op,Vi x.src.k,Vi x.src.n,.string x.src.s,.string x.src.nm,.slice Au nu cu],.slice (sA (gh 5)) (sN (gh 5)) (sC (gh 5))])) (f:=fun gh=>.tuple #[.agg #[Vi key.k,Vi key.n,.string key.s],Vi 0]) (fun gh H sH fH lent=>hev2 _ _ (hga _ (hs3.sees (S3.trans (S5.trans (S7.trans (S9.trans sH)))))) (fH 0 _ rfl (by kernel_rfl)))) ?_
     trivial
    rintro u51 bk W13 S14 ⟨f51,-⟩
    replace f51:RS W13 7 (.slice (sA u51) (sN u51) (sC u51)) (dQ env):=f51
    refine go0 4 [.b 0 0] [] ?_
    by_cases gk:key.k≤3
    ·have hkn:key.known:=by
      rcases hkv2 with q | q | ⟨q,-⟩
      ·exact q
      ·rw [q] at gk; exact absurd gk (by decide)
      ·omega
     have hk1:=fun H=>c_kn key.k key.n key.s H hkn
     have han2:=han hkn
     refine go0 4 [.cl 68 #[.agg #[Vi key.k,Vi key.n,.string key.s]] (.bool true)] [] ?_ (ho:=(And.intro (fun H sH=>hk1 _) (trivial)))
     refine g_callq (fun a w hJ=>hck _ _ _ _ (hJ.j.rowQ (v:=v) (e:=51) (k:=7) (l:=tJ ml) 2 (by kernel_rfl)) (hJ.j.boxQ (b:=bx) (cs:=[.string x.name,Vi x.kind,Vi x.ty,Vi x.src.op,Vi x.src.k,Vi x.src.n,.string x.src.s,.string x.src.nm,.slice Au nu cu]) 1 (by kernel_rfl)) (hJ.j.boxQ (b:=bk) (cs:=[Vi key.k,Vi key.n,.string key.s]) 0 (by kernel_rfl))) ?_; intro W15 S16
     refine go0 4 [] [] ?_
     rcases Bool.eq_false_or_eq_true hit with hh | hh
     ·rw [if_neg (fun q=>by rw [hh] at q; cases q.2)] at hadd2
      refine aV (t := !hit) ((by rw [hh]; rfl)) ?_
      refine go0 7 [] [(73,Vi (IntKind.i64.wrap ((j:Int) + 1)),Vi ((j:Int) + 1))] ?_ (hc:=(And.intro (jJ (by omega) (by omega)) (trivial)))
      exact pV (j + 1) (fun X q=>⟨W15,v,ml,q _ _ _ _ ⟨rfl,by kernel_rfl⟩,(S9.trans (S14.trans S16)),by omega,hml2.trans hadd2⟩) (by omega)
     ·skip
      rw [if_pos ⟨gk,hh⟩] at hadd2
      refine qV (t := !hit) ((by rw [hh]; rfl)) ?_
      refine nV 11 0 [.pu,.pu,.ld 1 0,.ld 0 0,.ld 1 0,.ld 0 0,.v (fun gh=>.agg #[Vi av.k,Vi av.n,.string av.s]),.pu,.f (fun gh=>.slice (some ⟨(yJ (gh 8)),0,none⟩) 1 1) (fun gh hh=>Cells hh (yJ (gh 8)) 0 [.string x.name,Vi key.k,Vi key.n,.string key.s,Vi av.k,Vi av.n,.string av.s]),.e (fun gh=>.slice (sA (gh 9)) (sN (gh 9)) (sC (gh 9))) 2 (fun gh=>.row (.slice (sA (gh 9)) (sN (gh 9)) (sC (gh 9))) 51 7 ((tJ ml)++[[.string x.name,Vi key.k,Vi key.n,.string key.s,Vi av.k,Vi av.n,.string av.s]])),.pu] [(8,true),(9,false)] (And.intro (fun _ _ _ s c=>c.sees s) (trivial)) ?_ ?_
      ·intro R hT hA hmono
       refine And.intro (t_v hT hA hmono (k:=64) (args:=(fun gh=>#[.agg #[.string x.name,Vi x.kind,Vi x.ty,Vi x.src.op,Vi x.src.k,Vi x.src.n,.string x.src.s,.string x.src.nm,.slice Au nu cu],.agg #[Vi key.k,Vi key.n,.string key.s]])) (f:=fun gh=>.agg #[Vi av.k,Vi av.n,.string av.s]) (fun gh H sH fH lent=>han2 _)) ?_
       refine And.intro (r_fact hT hA hmono ⟨fun _ _=>by kernel_rfl,fun _ _=>by kernel_rfl,fun _ _=>by kernel_rfl⟩ 71 (fun g=>Vs g 1 1) [7] 8 (by kernel_rfl) (by kernel_rfl) (fun _=>by kernel_rfl) (fun gh=>[.string x.name,Vi key.k,Vi key.n,.string key.s,Vi av.k,Vi av.n,.string av.s]) 51 (fun _ _=>by kernel_rfl) (fun gh zb zH zc zj zq zhq zhe=>oX (i:=8) (k:=0) (f:=fun gh hh=>Cells hh (yJ (gh 8)) 0 [.string x.name,Vi key.k,Vi key.n,.string key.s,Vi av.k,Vi av.n,.string av.s]) (by kernel_rfl) (by kernel_rfl) zc zj zq zhq zhe)) ?_
       refine And.intro (aY hT hA hmono ⟨fun _ _=>by kernel_rfl,fun _ _=>by kernel_rfl,fun _ _=>by kernel_rfl⟩ 72 [0,6,8] 9 2 (GN R 2) (fun gh=>v) 30 51 7 (fun gh=>tJ ml) (fun gh=>[[.string x.name,Vi key.k,Vi key.n,.string key.s,Vi av.k,Vi av.n,.string av.s]]) (.tmp 63) (.tmp 71) (fun gh=>(yJ (gh 8))) 1 1 0 8 (fun gh hh=>Cells hh (yJ (gh 8)) 0 [.string x.name,Vi key.k,Vi key.n,.string key.s,Vi av.k,Vi av.n,.string av.s]) (fun _ _ c=>c) Tryz.underlying30 (zv:=.agg #[Ve,Vi 0,Vi 0,Ve,Vi 0,Vi 0,Ve]) (bytes:=80) (fun _=>by constructor <;> (simp; omega))) ?_
       trivial
      rintro b18 v72 W19 S20 ⟨f17,-⟩
      replace f17:Cells W19 b18 0 [.string x.name,Vi key.k,Vi key.n,.string key.s,Vi av.k,Vi av.n,.string av.s]:=f17
      refine zQ f17 ?_
      refine go0 6 [] [(73,Vi (IntKind.i64.wrap ((j:Int) + 1)),Vi ((j:Int) + 1))] ?_ (hc:=(And.intro (jJ (by omega) (by omega)) (trivial)))
      refine eV [(1,.slice A1 ni c1),(2,Vp b1),(15,Vi (n:Int)),(16,Vi (r:Int)),(7,.slice A5 n c5),(36,.slice (some ⟨b10,o11,none⟩) n c),(37,Vi (n:Int)),(6,.slice (sA v72) (sN v72) (sC v72)),(38,Vi ((j:Int) + 1))] [.row (.slice (sA v72) (sN v72) (sC v72)) 51 7 ((tJ ml)++[[.string x.name,Vi key.k,Vi key.n,.string key.s,Vi av.k,Vi av.n,.string av.s]]),.box b1 [.slice (some ⟨b10,o11,none⟩) n c,.slice B m d]] [] ?_
      exact pV (j + 1) (fun X q=>⟨W19,.slice (sA v72) (sN v72) (sC v72),ml++[⟨x.name,key,av⟩],q _ _ _ _ (cZ (by rw [anRows_snoc]; try rfl)),(S9.trans (S14.trans (S16.trans S20))),by omega,hml2.trans hadd2⟩) (by omega)
    ·skip
     have hk0:=fun H=>known_no key H gk (ok_kinds hkv2).1
     rw [if_neg (fun q=>gk q.1)] at hadd2
     refine go0 17 [.cl 68 #[.agg #[Vi key.k,Vi key.n,.string key.s]] (.bool false)] [(73,Vi (IntKind.i64.wrap ((j:Int) + 1)),Vi ((j:Int) + 1))] ?_ (ho:=(And.intro (fun H sH=>hk0 _) (trivial))) (hc:=(And.intro (jJ (by omega) (by omega)) (trivial)))
     exact pV (j + 1) (fun X q=>⟨W13,v,ml,q _ _ _ _ ⟨rfl,by kernel_rfl⟩,(S9.trans S14),by omega,hml2.trans hadd2⟩) (by omega)
   ·skip
    rw [if_neg g3] at hadd2
    refine qV (t:=x.kind != 3) (bne_iff_ne.2 g3) ?_
    refine go0 8 [] [(73,Vi (IntKind.i64.wrap ((j:Int) + 1)),Vi ((j:Int) + 1))] ?_ (hc:=(And.intro (jJ (by omega) (by omega)) (trivial)))
    exact pV (j + 1) (fun X q=>⟨W8,v,ml,q _ _ _ _ ⟨rfl,by kernel_rfl⟩,S9,by omega,hml2.trans hadd2⟩) (by omega)
  ·skip
   have hta:f.fields.take j=f.fields:=by rw [hje,hn,List.take_length]
   rw [hta] at hml
   refine aV (t:=decide ((j:Int) < (n:Int))) (decide_eq_false (by omega)) ?_
   refine go0 2 [] [] ?_
   refine fV ?_
   refine go0 7 [] [(74,Vi (IntKind.i64.wrap ((r:Int) + 1)),Vi ((r:Int) + 1))] ?_ (hc:=(And.intro (jJ (by omega) (by omega)) (trivial)))
   exact pV (r + 1) (fun X q=>⟨W8,v,ml,q _ _ _ _ ⟨rfl,by kernel_rfl⟩,(S3.trans (S5.trans (S7.trans S9))),by omega,hst.trans hml⟩) (by omega)
 ·skip
  rw [hke] at hol
  have hrl:(tJ ol).length=ol.length:=List.length_map _
  refine cV 0 (v:=v) (e:=51) (kk:=7) (l:=tJ ol) ?_; intro Ar cr hE_v hc_v hm_v
  rw [show (tJ ol).length=ol.length from by first | omega | (simp; done) | (simp; omega)] at hE_v hc_v
  rw [hE_v]
  refine aV (t:=decide ((r:Int) < (n:Int))) (decide_eq_false (by omega)) ?_
  refine go0 2 [] [] ?_
  refine fV ?_
  refine go0 10 [] [] ?_
  refine eV [(4,.slice Ar ol.length cr),(5,.bool true)] [.row (.slice Ar ol.length cr) 51 7 (tJ ol),.box b1 [.slice A n c,.slice B m d]] [] ?_
  refine hQ.toJ [.slice Ar ol.length cr,.bool true] [] (fun a w hJ=>?_)
  have fr:=hJ.j.rowOut0 (v:=.slice Ar ol.length cr) (e:=51) (k:=7) (l:=tJ ol) 0 (by kernel_rfl) rfl
  exact ⟨Ar,cr,congrArg (fun l:List Aw=>Value.tuple #[.slice Ar l.length cr,.bool true]) hol.symm,by rw [hol]; exact fr⟩
end Go.Proofs.YtmoahpojchndiaaGreat
