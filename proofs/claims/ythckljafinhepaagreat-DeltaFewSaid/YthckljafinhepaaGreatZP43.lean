/-
  The laws' Oracle, in plain words: all keys that come up, answered. Such answers may be.
-/
import Derived.Test.YthckljafinhepaaGreatZP41
import Derived.Test.YthckljafinhepaaGreatZP42
namespace Go.Proofs.YthckljafinhepaaGreat
open Go.RowKit
set_option linter.unusedVariables false
def abcB:ByteArray:=⟨#[97,98,99,100,101,102,103,104,105]⟩
def ansN (f:Fd) (key:Vl):Int:=Int.tmod key.n 9 + 3 * (key.s.size:Int) + (f.name.size:Int)
def ansV (f:Fd) (key:Vl):Vl:=if f.ty=1 then ⟨1,ansN f key,⟨#[]⟩⟩ else if f.ty=2 then ⟨2,cJ (ansN f key) 2,⟨#[]⟩⟩ else ⟨3,0,f.name++abcB.extract 0 (cJ (ansN f key) 9).toNat⟩
theorem word_print {c:UInt8} (h:isWord c=true):32≤c.toNat∧c.toNat≤126:=by
 unfold isWord isLet isDig at h
 simp only [Bool.or_eq_true,decide_eq_true_eq] at h
 omega
theorem name_print {s:ByteArray} (h:rJ s.data.toList):s.size≤10∧∀ i (hi:i < s.size),32≤s[i].toNat∧s[i].toNat≤126:=by
 obtain ⟨-,h2,-,h4,-⟩:=h
 have hsz:s.data.toList.length=s.size:=by simp
 refine ⟨by omega,fun i hi=>?_⟩
 have hg:s.data.toList[i]?=some s[i]:=by
  rw [List.getElem?_eq_getElem (by omega)]
  congr 1
 exact word_print (span_all isWord s.data.toList i s[i] (by omega) hg)
theorem abc_all:∀ i (hi:i < 9),32≤(abcB[i]'hi).toNat∧(abcB[i]'hi).toNat≤126:=by decide
theorem abc_print (k:Nat):(abcB.extract 0 k).size≤9∧∀ i (hi:i < (abcB.extract 0 k).size),32≤(abcB.extract 0 k)[i].toNat∧(abcB.extract 0 k)[i].toNat≤126:=by
 have hs:(abcB.extract 0 k).size=min k abcB.size - 0:=ByteArray.size_extract ..
 have h9:abcB.size=9:=rfl
 refine ⟨by omega,fun i hi=>?_⟩
 rw [ByteArray.getElem_extract]
 have:=abc_all (0 + i) (by omega)
 exact this
theorem known_size {v:Vl} (h:v.known):v.s.size≤40:=by
 rcases h with ⟨-,-,e⟩ | ⟨-,-,e⟩ | ⟨-,-,e,-⟩
 ·rw [e]; decide
 ·rw [e]; decide
 ·exact e
theorem ansN_lo (f:Fd) (key:Vl) (hn:f.name.size≤10) (hk:key.s.size≤40) : -8≤ansN f key∧ansN f key≤138:=by
 have h1:=Int.tmod_lt_of_pos key.n (show (0:Int) < 9 by decide)
 have h2:=Int.lt_tmod_of_pos key.n (show (0:Int) < 9 by decide)
 unfold ansN
 omega
theorem ans_known {fs:List Fd} {f:Fd} (hf:OkF fs f) {key:Vl} (hk:key.known):(ansV f key).known∧(ansV f key).k=f.ty:=by
 obtain ⟨hn,hp⟩:=name_print hf.name
 have hr:=ansN_lo f key hn (known_size hk)
 have t1:=hf.t1
 have t3:=hf.t3
 unfold ansV
 by_cases g1:f.ty=1
 ·rw [if_pos g1]
  exact ⟨.inl ⟨rfl,by show Lim (ansN f key); unfold Lim; omega,rfl⟩,g1.symm⟩
 by_cases g2:f.ty=2
 ·rw [if_neg g1,if_pos g2]
  have p0:=wX (ansN f key) 2 (by omega)
  have p1:=vX (ansN f key) 2 (by omega)
  exact ⟨.inr (.inl ⟨rfl,by show cJ _ _=0∨cJ _ _=1; omega,rfl⟩),g2.symm⟩
 rw [if_neg g1,if_neg g2]
 obtain ⟨ha,hb⟩:=abc_print (cJ (ansN f key) 9).toNat
 generalize abcB.extract 0 (cJ (ansN f key) 9).toNat=t at *
 have hs:(f.name++t).size=f.name.size + t.size:=ByteArray.size_append ..
 refine ⟨.inr (.inr ⟨rfl,rfl,by show (f.name++t).size≤40; omega,fun i hi=>?_⟩),by show (3:Int)=_; omega⟩
 have hi':i < f.name.size + t.size:=by rw [← hs]; exact hi
 show 32≤(f.name++t)[i].toNat∧_
 by_cases hlt:i < f.name.size
 ·rw [ByteArray.getElem_append_left hlt]; exact hp i hlt
 ·rw [ByteArray.getElem_append_right (by omega)]; exact hb _ (by omega)
theorem tyL_congr {f g:ByteArray→Option Int}:∀ {l:List Ex},(∀ y∈l,tyE f y=tyE g y)→tyL f l=tyL g l
 | [],_=>by rw [tyL,tyL]
 | x :: l,h=>by rw [tyL,tyL,h x (by simp),tyL_congr fun y hy=>h y (by simp [hy])]
theorem ty_congr {f g:ByteArray→Option Int} {x:Ex} (h:∀ s∈fY x,f s=g s):tyE f x=tyE g x:=by
 revert h
 refine ex_ind (p:=fun x=>(∀ s∈fY x,f s=g s)→tyE f x=tyE g x) (fun x ih h=>?_) x
 rw [gY] at h
 have hl:tyL f x.args=tyL g x.args:=tyL_congr fun y hy=>ih y hy fun s hs=>h s (List.mem_append_right _ (mem_refsL.2 ⟨y,hy,hs⟩))
 rw [tyE_op,tyE_op,hl]
 by_cases h2:x.op=2
 ·rw [h x.nm (by rw [if_pos h2]; simp)]
 ·unfold tyOp
  simp only [if_neg h2]
abbrev NyV (v:Vl):Prop:=v.k=4∨v.k=5
theorem ny_not:NotYet NyV:=⟨fun _ h=>h,.inr rfl,.inr rfl,.inr rfl⟩
def TyOk (fs:List Fd) (v:List Vl):Prop:=∀ (i:Nat) (f:Fd) (x:Vl),fs[i]?=some f→v[i]?=some x→OfT NyV f.ty x
theorem fcs_env {fs:List Fd} (hok:OkFs fs) {v:List Vl} (hl:v.length=fs.length) (ht:TyOk fs v):∀ s t,tyF fs s=some t→∃ x,(fcs fs v).get s=some x∧OfT NyV t x:=fun s t h=>by
 obtain ⟨i,f,h1,h2,h3⟩:∃ (i:Nat) (f:Fd),fs[i]?=some f∧f.name=s∧f.ty=t:=by
  clear ht hl hok
  induction fs with
  | nil=>cases h
  | cons g l ih =>
   rw [tyF] at h
   by_cases e:(s == g.name)=true
   ·rw [if_pos e] at h
    exact ⟨0,g,rfl,((Go.MapKept.bytes_beq _ _).1 e).symm,Option.some.inj h⟩
   ·rw [if_neg e] at h
    obtain ⟨i,f,h1,h2⟩:=ih h
    exact ⟨i + 1,f,by simpa using h1,h2⟩
 obtain ⟨x,hx⟩:∃ x,v[i]?=some x:=⟨_,List.getElem?_eq_getElem (by rw [hl]; exact (List.getElem?_eq_some_iff.1 h1).1)⟩
 exact ⟨x,h2 ▸ fcs_get hok.nodup h1 hx,h3 ▸ ht i f x h1 hx⟩
theorem tell_ty {fs:List Fd} {inp:Env} (hi:∀ p∈inp,p.2.known) {s:ByteArray} {t:Int} (h1:1≤t) (h3:t≤3) (hk:∀ p∈inp,p.1=s→p.2.k=t):(gZ s t inp).k=t:=by
 induction inp with
 | nil=>rfl
 | cons p l ih =>
  rw [gZ]
  by_cases e:(p.1.toList == s.toList)=true
  ·rw [if_pos e]
   rw [hZ,decide_eq_true_iff] at e
   exact hk p (by simp) e
  ·rw [if_neg e]
   exact ih (fun q hq=>hi q (by simp [hq])) fun q hq=>hk q (by simp [hq])
theorem ask_ty {fs:List Fd} (hok:OkFs fs) {orc:List Aw} (ho:OkOrc fs orc) {i:Nat} {f:Fd} (hf:fs[i]?=some f) (key:Vl):OfT NyV f.ty (askL f.name key orc):=by
 have:∀ l:List Aw,(∀ p∈l,p∈orc)→OfT NyV f.ty (askL f.name key l):=fun l=>by
  induction l with
  | nil=>exact fun _=>.inr (.inl rfl)
  | cons p l ih =>
   intro hl
   rw [askL]
   split
   ·rename_i g
    have hp:=ho.each p (hl p (by simp))
    obtain ⟨j,g2,t,h1,h2,-,-,-,h6⟩:=hp.place
    have hn:p.nm=f.name:=by
     unfold Aw.hit at g
     rw [Bool.and_eq_true,hZ,decide_eq_true_iff] at g
     exact g.1
    have e1:=iQ hok.nodup h1
    have e2:=iQ hok.nodup hf
    rw [h2,hn,e2] at e1
    have e1:i=j:=by omega
    subst e1
    rw [hf] at h1
    obtain rfl:=Option.some.inj h1
    exact .inl ⟨hp.has,h6⟩
   ·exact ih fun q hq=>hl q (by simp [hq])
 exact this orc fun _ h=>h
def InpTy (fs:List Fd) (inp:Env):Prop:=∀ (i:Nat) (f:Fd),fs[i]?=some f→f.kind=1→∀ p∈inp,p.1=f.name→p.2.k=f.ty
theorem sol_ty {fs:List Fd} (hok:OkFs fs) {inp:Env} (hi:∀ p∈inp,p.2.known) (hit:InpTy fs inp) {orc:List Aw} (ho:OkOrc fs orc) {ρ:List Int} {lv:Nat→Nat} (hr:Ranked (xW fs) ρ lv) {v:List Vl} (hv:Sol fs inp orc v) (hvo:∀ x∈v,OkV x):TyOk fs v:=by
 have key:∀ t i,lv i < t→∀ f x,fs[i]?=some f→v[i]?=some x→OfT NyV f.ty x:=fun t=>by
  induction t with
  | zero=>intro i h; omega
  | succ t ih =>
   intro i ht f x hf hx
   have hF:=hok.each f (List.mem_of_getElem? hf)
   have hil:=(List.getElem?_eq_some_iff.1 hf).1
   have hxo:=hvo x (List.mem_of_getElem? hx)
   have e:=hv.at_ i f x hf hx
   unfold gX at e
   by_cases h1:f.kind=1
   ·rw [if_pos h1] at e
    exact .inl ⟨e ▸ tell_ok hi _ hF.t1 hF.t3,e ▸ tell_ty (fs:=fs) hi hF.t1 hF.t3 (hit i f hf h1)⟩
   ·rw [if_neg h1] at e
    by_cases h3:f.kind=3
    ·rw [if_pos h3] at e
     unfold askV at e
     split at e
     ·rw [e]; exact ask_ty hok ho hf _
     ·rename_i q
      rw [e] at hxo ⊢
      have:=ok_kinds hxo
      exact .inr (by show _=4∨_=5; omega)
    ·rw [if_neg h3] at e
     have ht2:=hF.form (by have:=hF.k1; have:=hF.k3; omega)
     have hdec:∀ s,Decidable (s∈fY f.src):=fun s=>Classical.propDecidable _
     obtain ⟨t2,env,hsub,hE⟩:∃ (f2:ByteArray→Option Int) (env:Env),tyE f2 f.src=(f.ty,0)∧mK env f.src=mK (fcs fs v) f.src∧∀ s t,f2 s=some t→∃ x,env.get s=some x∧OfT NyV t x:=by
      refine ⟨fun s=>if s∈fY f.src then tyF fs s else none,fcs fs v,?_,rfl,fun s t q=>?_⟩
      ·exact (ty_congr (f:=fun s=>if s∈fY f.src then tyF fs s else none) (g:=tyF fs) (fun s hs=>if_pos hs)).trans ht2
      ·simp only at q
       split at q
       ·rename_i hs
        obtain ⟨j,g,g1,g2,g3⟩:=refs_need hok hf h1 hs
        obtain ⟨l1,l2⟩:=hr.low i (by rw [yW]; exact hil) j g3
        rw [yW] at l1
        obtain ⟨y,hy⟩:∃ y,v[j]?=some y:=⟨_,List.getElem?_eq_getElem (by rw [hv.len]; exact l1)⟩
        have:=ih j (by omega) g y g1 hy
        have hty:tyF fs s=some g.ty:=by rw [← g2]; exact tyF_mem hok.nodup g (List.mem_of_getElem? g1)
        rw [hty] at q
        rw [← Option.some.inj q]
        exact ⟨y,g2 ▸ fcs_get hok.nodup g1 hy,this⟩
       ·cases q
     have:=ty_sound ny_not hE.2 (hF.wf h1).1 hsub
     rw [hE.1] at this
     rw [e]; exact this
 exact fun i f x hf hx=>key (lv i + 1) i (by omega) f x hf hx
end Go.Proofs.YthckljafinhepaaGreat
namespace Go.Proofs.YthckljafinhepaaGreat
open Go.RowKit
set_option linter.unusedVariables false
def addO (env:Env) (out:List Aw) (f:Fd):List Aw :=
 if f.kind=3∧(mK env f.src).k≤3∧out.any (fun p=>p.hit f.name (mK env f.src))=false then out++[⟨f.name,mK env f.src,ansV f (mK env f.src)⟩] else out
def roundO (env:Env) (fs:List Fd) (out:List Aw):List Aw:=fs.foldl (addO env) out
def orcL (fs:List Fd) (inp:Env) (os:List Nat):Nat→List Aw
 | 0=>[]
 | r + 1=>roundO (fcs fs (allW fs inp (orcL fs inp os r) os)) fs (orcL fs inp os r)
theorem roundO_snoc (env:Env) (l:List Fd) (f:Fd) (out:List Aw):roundO env (l++[f]) out=addO env (roundO env l out) f:=by unfold roundO; rw [List.foldl_append]; rfl
theorem addO_len (env:Env) (out:List Aw) (f:Fd):(addO env out f).length≤out.length + 1:=by unfold addO; split <;> simp
theorem roundO_len (env:Env):∀ (l:List Fd) (out:List Aw),(roundO env l out).length≤out.length + l.length
 | [],out=>Nat.le_refl _
 | f :: l,out=>by
  have h1:=roundO_len env l (addO env out f)
  have h2:=addO_len env out f
  show (roundO env l (addO env out f)).length≤_
  rw [List.length_cons]; omega
theorem orcL_len (fs:List Fd) (inp:Env) (os:List Nat):∀ r,(orcL fs inp os r).length≤r * fs.length
 | 0=>Nat.zero_le _
 | r + 1=>by
  have h1:=orcL_len fs inp os r
  have h2:=roundO_len (fcs fs (allW fs inp (orcL fs inp os r) os)) fs (orcL fs inp os r)
  show (roundO _ _ _).length≤_
  rw [Nat.succ_mul]; omega
theorem addO_ok {fs:List Fd} (hok:OkFs fs) {env:Env} (he:∀ s t,tyF fs s=some t→∃ x,env.get s=some x∧OfT NyV t x) {out:List Aw} (ho:OkOrc fs out) {i:Nat} {f:Fd} (hf:fs[i]?=some f):OkOrc fs (addO env out f):=by
 unfold addO
 split
 ·rename_i h
  obtain ⟨h3,hk,hn⟩:=h
  have hF:=hok.each f (List.mem_of_getElem? hf)
  obtain ⟨t,-,-,ht⟩:=hF.look h3
  have hkt:=ty_sound ny_not he (hF.wf (by omega)).1 ht
  generalize mK env f.src=key at *
  obtain ⟨k1,k2⟩:key.known∧key.k=t:=by
   rcases hkt with q | q
   ·exact q
   ·have q:key.k=4∨key.k=5:=q
    omega
  obtain ⟨a1,a2⟩:=ans_known hF k1
  refine ⟨fun p hp=>?_,List.pairwise_append.2 ⟨ho.once,List.pairwise_singleton _ _,fun p hp q hq=>?_⟩⟩
  ·rcases List.mem_append.1 hp with q | q
   ·exact ho.each p q
   ·rw [List.mem_singleton.1 q]
    exact ⟨⟨i,f,t,hf,rfl,h3,ht,k2,a2⟩,k1,a1⟩
  ·rw [List.mem_singleton.1 hq]
   rw [List.any_eq_false] at hn
   exact Bool.eq_false_iff.2 (hn p hp)
 ·exact ho
theorem roundO_ok {fs:List Fd} (hok:OkFs fs) {env:Env} (he:∀ s t,tyF fs s=some t→∃ x,env.get s=some x∧OfT NyV t x):∀ (l:List Fd),(∀ f∈l,f∈fs)→∀ (out:List Aw),OkOrc fs out→OkOrc fs (roundO env l out)
 | [],_,_,ho=>ho
 | f :: l,hl,out,ho=>by
  obtain ⟨i,hi⟩:=List.getElem?_of_mem (hl f (by simp))
  exact roundO_ok hok he l (fun g hg=>hl g (by simp [hg])) _ (addO_ok hok he ho hi)
structure Wh (fs:List Fd) (inp:Env) (ρ:List Int) (lv:Nat→Nat) (os:List Nat):Prop where
 ok:OkFs fs
 known:∀ p∈inp,p.2.known
 ty:InpTy fs inp
 ord:Ordd fs ρ lv os
theorem Wh.sol {fs:List Fd} {inp:Env} {ρ:List Int} {lv:Nat→Nat} {os:List Nat} (h:Wh fs inp ρ lv os) {orc:List Aw} (ho:OkOrc fs orc):Sol fs inp orc (allW fs inp orc os)∧∀ x∈allW fs inp orc os,OkV x:=all_sol h.ok h.known ho.has h.ord
theorem Wh.env {fs:List Fd} {inp:Env} {ρ:List Int} {lv:Nat→Nat} {os:List Nat} (h:Wh fs inp ρ lv os) {orc:List Aw} (ho:OkOrc fs orc):∀ s t,tyF fs s=some t→∃ x,(fcs fs (allW fs inp orc os)).get s=some x∧OfT NyV t x:=by
 obtain ⟨h1,h2⟩:=h.sol ho
 exact fcs_env h.ok h1.len (sol_ty h.ok h.known h.ty ho h.ord.rank h1 h2)
theorem Wh.orc {fs:List Fd} {inp:Env} {ρ:List Int} {lv:Nat→Nat} {os:List Nat} (h:Wh fs inp ρ lv os):∀ r,OkOrc fs (orcL fs inp os r)
 | 0=>OkOrc.nil fs
 | r + 1=>roundO_ok h.ok (h.env (h.orc r)) fs (fun _ q=>q) _ (h.orc r)
section
variable {fs:List Fd} {inp:Env} {ρ:List Int} {lv:Nat→Nat} {os:List Nat}
open Classical in
open Classical in
end
end Go.Proofs.YthckljafinhepaaGreat
