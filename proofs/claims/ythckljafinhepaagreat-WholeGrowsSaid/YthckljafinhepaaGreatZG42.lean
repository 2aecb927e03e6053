/-
  The laws' Oracle, in plain words: all keys that come up, answered. Such answers may be.
-/
import Derived.Test.YthckljafinhepaaGreatZG40
import Derived.Test.YthckljafinhepaaGreatZG41
namespace Go.Proofs.YthckljafinhepaaGreat
open Go.RowKit
set_option linter.unusedVariables false

def abcB:ByteArray:=⟨#[97,98,99,100,101,102,103,104,105]⟩
def ansN (f:Fd) (key:Vl):Int:=Int.tmod key.n 9 + 3 * (key.s.size:Int) + (f.name.size:Int)
/-- What somebody who knows all answers a key of a field with. -/
def ansV (f:Fd) (key:Vl):Vl:=if f.ty=1 then ⟨1,ansN f key,⟨#[]⟩⟩ else if f.ty=2 then ⟨2,pickL (ansN f key) 2,⟨#[]⟩⟩ else ⟨3,0,f.name++abcB.extract 0 (pickL (ansN f key) 9).toNat⟩
theorem word_print {c:UInt8} (h:isWord c=true):32≤c.toNat∧c.toNat≤126:=by
 unfold isWord isLet isDig at h
 simp only [Bool.or_eq_true,decide_eq_true_eq] at h
 omega
theorem name_print {s:ByteArray} (h:NameOk s.data.toList):s.size≤10∧∀ i (hi:i < s.size),32≤s[i].toNat∧s[i].toNat≤126:=by
 obtain ⟨-,h2,-,h4,-⟩:=h
 have hsz:s.data.toList.length=s.size:=by simp
 refine ⟨by omega,fun i hi=>?_⟩
 have hg:s.data.toList[i]?=some s[i]:=by
  rw [List.getElem?_eq_getElem (by omega)]
  congr 1
 exact word_print (span_all isWord s.data.toList i s[i] (by omega) hg)
theorem abc_all:∀ i (hi:i < 9),32≤(abcB[i]'hi).toNat∧(abcB[i]'hi).toNat≤126:=by decide
theorem abc_print (k:Nat):(abcB.extract 0 k).size≤9∧∀ i (hi:i < (abcB.extract 0 k).size),32≤(abcB.extract 0 k)[i].toNat∧(abcB.extract 0 k)[i].toNat≤126:=by
 have hs:(abcB.extract 0 k).size=min k abcB.size - 0:=ByteArray.size_extract ..
 have h9:abcB.size=9:=rfl
 refine ⟨by omega,fun i hi=>?_⟩
 rw [ByteArray.getElem_extract]
 have:=abc_all (0 + i) (by omega)
 exact this
theorem known_size {v:Vl} (h:v.known):v.s.size≤40:=by
 rcases h with ⟨-,-,e⟩ | ⟨-,-,e⟩ | ⟨-,-,e,-⟩
 ·rw [e]; decide
 ·rw [e]; decide
 ·exact e
theorem ansN_lo (f:Fd) (key:Vl) (hn:f.name.size≤10) (hk:key.s.size≤40) : -8≤ansN f key∧ansN f key≤138:=by
 have h1:=Int.tmod_lt_of_pos key.n (show (0:Int) < 9 by decide)
 have h2:=Int.lt_tmod_of_pos key.n (show (0:Int) < 9 by decide)
 unfold ansN
 omega
theorem ans_known {fs:List Fd} {f:Fd} (hf:OkF fs f) {key:Vl} (hk:key.known):(ansV f key).known∧(ansV f key).k=f.ty:=by
 obtain ⟨hn,hp⟩:=name_print hf.name
 have hr:=ansN_lo f key hn (known_size hk)
 have t1:=hf.t1
 have t3:=hf.t3
 unfold ansV
 by_cases g1:f.ty=1
 ·rw [if_pos g1]
  exact ⟨.inl ⟨rfl,by show Lim (ansN f key); unfold Lim; omega,rfl⟩,g1.symm⟩
 by_cases g2:f.ty=2
 ·rw [if_neg g1,if_pos g2]
  have p0:=pickL_lo (ansN f key) 2 (by omega)
  have p1:=pickL_hi (ansN f key) 2 (by omega)
  exact ⟨.inr (.inl ⟨rfl,by show pickL _ _=0∨pickL _ _=1; omega,rfl⟩),g2.symm⟩
 rw [if_neg g1,if_neg g2]
 obtain ⟨ha,hb⟩:=abc_print (pickL (ansN f key) 9).toNat
 generalize abcB.extract 0 (pickL (ansN f key) 9).toNat=t at *
 have hs:(f.name++t).size=f.name.size + t.size:=ByteArray.size_append ..
 refine ⟨.inr (.inr ⟨rfl,rfl,by show (f.name++t).size≤40; omega,fun i hi=>?_⟩),by show (3:Int)=_; omega⟩
 have hi':i < f.name.size + t.size:=by rw [← hs]; exact hi
 show 32≤(f.name++t)[i].toNat∧_
 by_cases hlt:i < f.name.size
 ·rw [ByteArray.getElem_append_left hlt]; exact hp i hlt
 ·rw [ByteArray.getElem_append_right (by omega)]; exact hb _ (by omega)

theorem tyL_congr {f g:ByteArray→Option Int}:∀ {l:List Ex},(∀ y∈l,tyE f y=tyE g y)→tyL f l=tyL g l
 | [],_=>by rw [tyL,tyL]
 | x :: l,h=>by rw [tyL,tyL,h x (by simp),tyL_congr fun y hy=>h y (by simp [hy])]
theorem ty_congr {f g:ByteArray→Option Int} {x:Ex} (h:∀ s∈refsE x,f s=g s):tyE f x=tyE g x:=by
 revert h
 refine ex_ind (p:=fun x=>(∀ s∈refsE x,f s=g s)→tyE f x=tyE g x) (fun x ih h=>?_) x
 rw [refsE_eq] at h
 have hl:tyL f x.args=tyL g x.args:=tyL_congr fun y hy=>ih y hy fun s hs=>h s (List.mem_append_right _ (mem_refsL.2 ⟨y,hy,hs⟩))
 rw [tyE_op,tyE_op,hl]
 by_cases h2:x.op=2
 ·rw [h x.nm (by rw [if_pos h2]; simp)]
 ·unfold tyOp
  simp only [if_neg h2]

/-! ### Values are of their fields' types, or not known -/
abbrev NyV (v:Vl):Prop:=v.k=4∨v.k=5
theorem ny_not:NotYet NyV:=⟨fun _ h=>h,.inr rfl,.inr rfl,.inr rfl⟩
def TyOk (fs:List Fd) (v:List Vl):Prop:=∀ (i:Nat) (f:Fd) (x:Vl),fs[i]?=some f→v[i]?=some x→OfT NyV f.ty x
theorem fcs_env {fs:List Fd} (hok:OkFs fs) {v:List Vl} (hl:v.length=fs.length) (ht:TyOk fs v):∀ s t,tyF fs s=some t→∃ x,(fcs fs v).get s=some x∧OfT NyV t x:=fun s t h=>by
 obtain ⟨i,f,h1,h2,h3⟩:∃ (i:Nat) (f:Fd),fs[i]?=some f∧f.name=s∧f.ty=t:=by
  clear ht hl hok
  induction fs with
  | nil=>cases h
  | cons g l ih =>
   rw [tyF] at h
   by_cases e:(s == g.name)=true
   ·rw [if_pos e] at h
    exact ⟨0,g,rfl,((Go.MapKept.bytes_beq _ _).1 e).symm,Option.some.inj h⟩
   ·rw [if_neg e] at h
    obtain ⟨i,f,h1,h2⟩:=ih h
    exact ⟨i + 1,f,by simpa using h1,h2⟩
 obtain ⟨x,hx⟩:∃ x,v[i]?=some x:=⟨_,List.getElem?_eq_getElem (by rw [hl]; exact (List.getElem?_eq_some_iff.1 h1).1)⟩
 exact ⟨x,h2 ▸ fcs_get hok.nodup h1 hx,h3 ▸ ht i f x h1 hx⟩
theorem tell_ty {fs:List Fd} {inp:Env} (hi:∀ p∈inp,p.2.known) {s:ByteArray} {t:Int} (h1:1≤t) (h3:t≤3) (hk:∀ p∈inp,p.1=s→p.2.k=t):(tellV s t inp).k=t:=by
 induction inp with
 | nil=>rfl
 | cons p l ih =>
  rw [tellV]
  by_cases e:(p.1.toList == s.toList)=true
  ·rw [if_pos e]
   rw [tl_dec,decide_eq_true_iff] at e
   exact hk p (by simp) e
  ·rw [if_neg e]
   exact ih (fun q hq=>hi q (by simp [hq])) fun q hq=>hk q (by simp [hq])
theorem ask_ty {fs:List Fd} (hok:OkFs fs) {orc:List Aw} (ho:OkOrc fs orc) {i:Nat} {f:Fd} (hf:fs[i]?=some f) (key:Vl):OfT NyV f.ty (askL f.name key orc):=by
 have:∀ l:List Aw,(∀ p∈l,p∈orc)→OfT NyV f.ty (askL f.name key l):=fun l=>by
  induction l with
  | nil=>exact fun _=>.inr (.inl rfl)
  | cons p l ih =>
   intro hl
   rw [askL]
   split
   ·rename_i g
    have hp:=ho.each p (hl p (by simp))
    obtain ⟨j,g2,t,h1,h2,-,-,-,h6⟩:=hp.place
    have hn:p.nm=f.name:=by
     unfold Aw.hit at g
     rw [Bool.and_eq_true,tl_dec,decide_eq_true_iff] at g
     exact g.1
    have e1:=findF_at hok.nodup h1
    have e2:=findF_at hok.nodup hf
    rw [h2,hn,e2] at e1
    have e1:i=j:=by omega
    subst e1
    rw [hf] at h1
    obtain rfl:=Option.some.inj h1
    exact .inl ⟨hp.has,h6⟩
   ·exact ih fun q hq=>hl q (by simp [hq])
 exact this orc fun _ h=>h
/-- What is told is of the fields' types. -/
def InpTy (fs:List Fd) (inp:Env):Prop:=∀ (i:Nat) (f:Fd),fs[i]?=some f→f.kind=1→∀ p∈inp,p.1=f.name→p.2.k=f.ty
theorem sol_ty {fs:List Fd} (hok:OkFs fs) {inp:Env} (hi:∀ p∈inp,p.2.known) (hit:InpTy fs inp) {orc:List Aw} (ho:OkOrc fs orc) {ρ:List Int} {lv:Nat→Nat} (hr:Ranked (needsE fs) ρ lv) {v:List Vl} (hv:Sol fs inp orc v) (hvo:∀ x∈v,OkV x):TyOk fs v:=by
 have key:∀ t i,lv i < t→∀ f x,fs[i]?=some f→v[i]?=some x→OfT NyV f.ty x:=fun t=>by
  induction t with
  | zero=>intro i h; omega
  | succ t ih =>
   intro i ht f x hf hx
   have hF:=hok.each f (List.mem_of_getElem? hf)
   have hil:=(List.getElem?_eq_some_iff.1 hf).1
   have hxo:=hvo x (List.mem_of_getElem? hx)
   have e:=hv.at_ i f x hf hx
   unfold oneV at e
   by_cases h1:f.kind=1
   ·rw [if_pos h1] at e
    exact .inl ⟨e ▸ tell_ok hi _ hF.t1 hF.t3,e ▸ tell_ty (fs:=fs) hi hF.t1 hF.t3 (hit i f hf h1)⟩
   ·rw [if_neg h1] at e
    by_cases h3:f.kind=3
    ·rw [if_pos h3] at e
     unfold askV at e
     split at e
     ·rw [e]; exact ask_ty hok ho hf _
     ·rename_i q
      rw [e] at hxo ⊢
      have:=ok_kinds hxo
      exact .inr (by show _=4∨_=5; omega)
    ·rw [if_neg h3] at e
     have ht2:=hF.form (by have:=hF.k1; have:=hF.k3; omega)
     have hdec:∀ s,Decidable (s∈refsE f.src):=fun s=>Classical.propDecidable _
     obtain ⟨t2,env,hsub,hE⟩:∃ (f2:ByteArray→Option Int) (env:Env),tyE f2 f.src=(f.ty,0)∧evalE env f.src=evalE (fcs fs v) f.src∧∀ s t,f2 s=some t→∃ x,env.get s=some x∧OfT NyV t x:=by
      refine ⟨fun s=>if s∈refsE f.src then tyF fs s else none,fcs fs v,?_,rfl,fun s t q=>?_⟩
      ·exact (ty_congr (f:=fun s=>if s∈refsE f.src then tyF fs s else none) (g:=tyF fs) (fun s hs=>if_pos hs)).trans ht2
      ·simp only at q
       split at q
       ·rename_i hs
        obtain ⟨j,g,g1,g2,g3⟩:=refs_need hok hf h1 hs
        obtain ⟨l1,l2⟩:=hr.low i (by rw [needsE_len]; exact hil) j g3
        rw [needsE_len] at l1
        obtain ⟨y,hy⟩:∃ y,v[j]?=some y:=⟨_,List.getElem?_eq_getElem (by rw [hv.len]; exact l1)⟩
        have:=ih j (by omega) g y g1 hy
        have hty:tyF fs s=some g.ty:=by rw [← g2]; exact tyF_mem hok.nodup g (List.mem_of_getElem? g1)
        rw [hty] at q
        rw [← Option.some.inj q]
        exact ⟨y,g2 ▸ fcs_get hok.nodup g1 hy,this⟩
       ·cases q
     have:=ty_sound ny_not hE.2 (hF.wf h1).1 hsub
     rw [hE.1] at this
     rw [e]; exact this
 exact fun i f x hf hx=>key (lv i + 1) i (by omega) f x hf hx

end Go.Proofs.YthckljafinhepaaGreat

namespace Go.Proofs.YthckljafinhepaaGreat
open Go.RowKit
set_option linter.unusedVariables false

def addO (env:Env) (out:List Aw) (f:Fd):List Aw :=
 if f.kind=3∧(evalE env f.src).k≤3∧out.any (fun p=>p.hit f.name (evalE env f.src))=false then out++[⟨f.name,evalE env f.src,ansV f (evalE env f.src)⟩] else out
def roundO (env:Env) (fs:List Fd) (out:List Aw):List Aw:=fs.foldl (addO env) out
def orcL (fs:List Fd) (inp:Env) (os:List Nat):Nat→List Aw
 | 0=>[]
 | r + 1=>roundO (fcs fs (allW fs inp (orcL fs inp os r) os)) fs (orcL fs inp os r)
theorem roundO_snoc (env:Env) (l:List Fd) (f:Fd) (out:List Aw):roundO env (l++[f]) out=addO env (roundO env l out) f:=by unfold roundO; rw [List.foldl_append]; rfl
theorem addO_len (env:Env) (out:List Aw) (f:Fd):(addO env out f).length≤out.length + 1:=by unfold addO; split <;> simp
theorem roundO_len (env:Env):∀ (l:List Fd) (out:List Aw),(roundO env l out).length≤out.length + l.length
 | [],out=>Nat.le_refl _
 | f :: l,out=>by
  have h1:=roundO_len env l (addO env out f)
  have h2:=addO_len env out f
  show (roundO env l (addO env out f)).length≤_
  rw [List.length_cons]; omega
theorem orcL_len (fs:List Fd) (inp:Env) (os:List Nat):∀ r,(orcL fs inp os r).length≤r * fs.length
 | 0=>Nat.zero_le _
 | r + 1=>by
  have h1:=orcL_len fs inp os r
  have h2:=roundO_len (fcs fs (allW fs inp (orcL fs inp os r) os)) fs (orcL fs inp os r)
  show (roundO _ _ _).length≤_
  rw [Nat.succ_mul]; omega
theorem addO_ext (env:Env) (out:List Aw) (f:Fd):∃ m,addO env out f=out++m:=by
 unfold addO
 split
 ·exact ⟨_,rfl⟩
 ·exact ⟨[],by simp⟩
theorem roundO_ext (env:Env):∀ (l:List Fd) (out:List Aw),∃ m,roundO env l out=out++m
 | [],out=>⟨[],by simp [roundO]⟩
 | f :: l,out=>by
  obtain ⟨m1,h1⟩:=addO_ext env out f
  obtain ⟨m2,h2⟩:=roundO_ext env l (addO env out f)
  exact ⟨m1++m2,by show roundO env l (addO env out f)=_; rw [h2,h1,List.append_assoc]⟩
theorem addO_ok {fs:List Fd} (hok:OkFs fs) {env:Env} (he:∀ s t,tyF fs s=some t→∃ x,env.get s=some x∧OfT NyV t x) {out:List Aw} (ho:OkOrc fs out) {i:Nat} {f:Fd} (hf:fs[i]?=some f):OkOrc fs (addO env out f):=by
 unfold addO
 split
 ·rename_i h
  obtain ⟨h3,hk,hn⟩:=h
  have hF:=hok.each f (List.mem_of_getElem? hf)
  obtain ⟨t,-,-,ht⟩:=hF.look h3
  have hkt:=ty_sound ny_not he (hF.wf (by omega)).1 ht
  generalize evalE env f.src=key at *
  obtain ⟨k1,k2⟩:key.known∧key.k=t:=by
   rcases hkt with q | q
   ·exact q
   ·have q:key.k=4∨key.k=5:=q
    omega
  obtain ⟨a1,a2⟩:=ans_known hF k1
  refine ⟨fun p hp=>?_,List.pairwise_append.2 ⟨ho.once,List.pairwise_singleton _ _,fun p hp q hq=>?_⟩⟩
  ·rcases List.mem_append.1 hp with q | q
   ·exact ho.each p q
   ·rw [List.mem_singleton.1 q]
    exact ⟨⟨i,f,t,hf,rfl,h3,ht,k2,a2⟩,k1,a1⟩
  ·rw [List.mem_singleton.1 hq]
   rw [List.any_eq_false] at hn
   exact Bool.eq_false_iff.2 (hn p hp)
 ·exact ho
theorem roundO_ok {fs:List Fd} (hok:OkFs fs) {env:Env} (he:∀ s t,tyF fs s=some t→∃ x,env.get s=some x∧OfT NyV t x):∀ (l:List Fd),(∀ f∈l,f∈fs)→∀ (out:List Aw),OkOrc fs out→OkOrc fs (roundO env l out)
 | [],_,_,ho=>ho
 | f :: l,hl,out,ho=>by
  obtain ⟨i,hi⟩:=List.getElem?_of_mem (hl f (by simp))
  exact roundO_ok hok he l (fun g hg=>hl g (by simp [hg])) _ (addO_ok hok he ho hi)
/-- What a law's Form and Inputs are, in plain words. -/
structure Wh (fs:List Fd) (inp:Env) (ρ:List Int) (lv:Nat→Nat) (os:List Nat):Prop where
 ok:OkFs fs
 known:∀ p∈inp,p.2.known
 ty:InpTy fs inp
 ord:Ordd fs ρ lv os
theorem Wh.sol {fs:List Fd} {inp:Env} {ρ:List Int} {lv:Nat→Nat} {os:List Nat} (h:Wh fs inp ρ lv os) {orc:List Aw} (ho:OkOrc fs orc):Sol fs inp orc (allW fs inp orc os)∧∀ x∈allW fs inp orc os,OkV x:=all_sol h.ok h.known ho.has h.ord
theorem Wh.env {fs:List Fd} {inp:Env} {ρ:List Int} {lv:Nat→Nat} {os:List Nat} (h:Wh fs inp ρ lv os) {orc:List Aw} (ho:OkOrc fs orc):∀ s t,tyF fs s=some t→∃ x,(fcs fs (allW fs inp orc os)).get s=some x∧OfT NyV t x:=by
 obtain ⟨h1,h2⟩:=h.sol ho
 exact fcs_env h.ok h1.len (sol_ty h.ok h.known h.ty ho h.ord.rank h1 h2)
theorem Wh.orc {fs:List Fd} {inp:Env} {ρ:List Int} {lv:Nat→Nat} {os:List Nat} (h:Wh fs inp ρ lv os):∀ r,OkOrc fs (orcL fs inp os r)
 | 0=>OkOrc.nil fs
 | r + 1=>roundO_ok h.ok (h.env (h.orc r)) fs (fun _ q=>q) _ (h.orc r)

/-! ### Who is answered -/
theorem askL_app {s:ByteArray} {key:Vl} {m:List Aw}:∀ {l:List Aw},l.any (fun p=>p.hit s key)=true→askL s key (l++m)=askL s key l
 | [],h=>by cases h
 | p :: l,h=>by
  show askL s key (p :: (l++m))=_
  rw [askL,askL]
  split
  ·rfl
  ·rename_i q
   rw [List.any_cons,Bool.eq_false_iff.2 q,Bool.false_or] at h
   exact askL_app h
theorem askL_none {s:ByteArray} {key:Vl}:∀ {l:List Aw},l.any (fun p=>p.hit s key)=false→askL s key l=pdV
 | [],_=>rfl
 | p :: l,h=>by
  rw [List.any_cons,Bool.or_eq_false_iff] at h
  rw [askL,if_neg (by rw [h.1]; exact Bool.false_ne_true)]
  exact askL_none h.2
theorem askL_has {s:ByteArray} {key:Vl}:∀ {l:List Aw},l.any (fun p=>p.hit s key)=true→∃ p∈l,askL s key l=p.has
 | [],h=>by cases h
 | p :: l,h=>by
  rw [askL]
  split
  ·exact ⟨p,by simp,rfl⟩
  ·rename_i q
   rw [List.any_cons,Bool.eq_false_iff.2 q,Bool.false_or] at h
   obtain ⟨x,hx,e⟩:=askL_has h
   exact ⟨x,by simp [hx],e⟩
theorem hit_self (s:ByteArray) (key has:Vl):Aw.hit ⟨s,key,has⟩ s key=true:=by
 unfold Aw.hit
 rw [tl_dec,decide_eq_true rfl,eqB_iff.2 rfl]; rfl
theorem addO_hit {env:Env} {out:List Aw} {f:Fd} (h3:f.kind=3) (hk:(evalE env f.src).k≤3):(addO env out f).any (fun p=>p.hit f.name (evalE env f.src))=true:=by
 unfold addO
 split
 ·rw [List.any_append]
  simp only [List.any_cons,List.any_nil,Bool.or_false]
  rw [hit_self,Bool.or_true]
 ·rename_i q
  cases g:out.any (fun p=>p.hit f.name (evalE env f.src)) with
  | true=>rfl
  | false=>exact absurd ⟨h3,hk,g⟩ q
theorem any_ext {out m:List Aw} {p:Aw→Bool} (h:out.any p=true):(out++m).any p=true:=by rw [List.any_append,h,Bool.true_or]
theorem roundO_hit {env:Env} {f:Fd} (h3:f.kind=3) (hk:(evalE env f.src).k≤3):∀ (l:List Fd) (out:List Aw),f∈l→(roundO env l out).any (fun p=>p.hit f.name (evalE env f.src))=true
 | [],_,h=>by cases h
 | g :: l,out,h=>by
  show (roundO env l (addO env out g)).any _=true
  rcases List.mem_cons.1 h with rfl | h
  ·obtain ⟨m,e⟩:=roundO_ext env l (addO env out f)
   rw [e]
   exact any_ext (addO_hit h3 hk)
  ·exact roundO_hit h3 hk l _ h

/-! ### A formula none of whose fields is pending is not pending -/
theorem hd_n4 {env:Env} {l:List Ex} (h:∀ y∈l,(evalE env y).k≠4) (i:Nat):(hdV (evalL env l) i).k≠4:=by
 unfold hdV
 rw [List.getD_eq_getElem?_getD,evalL_map,List.getElem?_map]
 cases e:l[i]? with
 | none=>show (0:Int)≠4; decide
 | some y=>exact h y (List.mem_of_getElem? e)
theorem first_n4 {v:Vl} (h:v.k≠4):(firstV v).1.k≠4:=by
 unfold firstV
 split
 ·show (5:Int)≠4; decide
 ·exact h
theorem bool_n4 {v:Vl} (h:v.k≠4):(boolV v).k≠4:=by
 unfold boolV
 split
 ·show (5:Int)≠4; decide
 ·exact h
theorem apply_n4 (op:Int) (l:List Vl):(applyV op l).k≠4:=by
 unfold applyV joinV nrV truthV faultV
 repeat' split
 all_goals (first | (show (5:Int)≠4; decide) | (show (2:Int)≠4; decide) | (show (1:Int)≠4; decide) | (show (3:Int)≠4; decide))
theorem ev_n4 {env:Env} {x:Ex} (hw:WfE x) (hr:∀ s∈refsE x,∀ v,env.get s=some v→v.k≠4):(evalE env x).k≠4:=by
 revert hw hr
 refine ex_ind (p:=fun x=>WfE x→(∀ s∈refsE x,∀ v,env.get s=some v→v.k≠4)→(evalE env x).k≠4) (fun x ih hw hr=>?_) x
 rw [refsE_eq] at hr
 have ha:∀ y∈x.args,(evalE env y).k≠4:=fun y hy=>ih y hy (hw.list.get hy) fun s hs=>hr s (List.mem_append_right _ (mem_refsL.2 ⟨y,hy,hs⟩))
 rw [evalE_eq]
 split
 ·rename_i h1
  have hk:KnownV x.k x.n x.s:=by
   rcases hw.top with t | t | t
   ·exact t.2.1
   ·omega
   ·omega
  show x.k≠4
  unfold KnownV at hk
  omega
 ·split
  ·rename_i h2
   cases g:env.get x.nm with
   | none=>show (5:Int)≠4; decide
   | some v=>exact hr x.nm (by rw [if_pos h2]; simp) v g
  ·split
   ·split
    ·exact first_n4 (hd_n4 ha 0)
    ·exact bool_n4 (hd_n4 ha 1)
   ·split
    ·split
     ·exact first_n4 (hd_n4 ha 0)
     ·split
      ·exact hd_n4 ha 1
      ·exact hd_n4 ha 2
    ·split
     ·rename_i u hu
      rcases (lack_some hu (fun w e=>by cases e)).2 with q | q
      ·cases q
      ·rw [evalL_map] at q
       obtain ⟨y,hy,rfl⟩:=List.mem_map.1 q
       exact ha y hy
     ·exact apply_n4 _ _

/-! ### Behind round r those of rank below r are settled -/
section
variable {fs:List Fd} {inp:Env} {ρ:List Int} {lv:Nat→Nat} {os:List Nat}
def vR (fs:List Fd) (inp:Env) (os:List Nat) (r:Nat):List Vl:=allW fs inp (orcL fs inp os r) os
theorem Wh.low (h:Wh fs inp ρ lv os) {i:Nat} {f:Fd} (hf:fs[i]?=some f) (hk:f.kind≠1) {s:ByteArray} (hs:s∈refsE f.src):∃ (j:Nat) (g:Fd),fs[j]?=some g∧g.name=s∧lv j < lv i:=by
 obtain ⟨j,g,g1,g2,g3⟩:=refs_need h.ok hf hk hs
 obtain ⟨-,l2⟩:=h.ord.rank.low i (by rw [needsE_len]; exact (List.getElem?_eq_some_iff.1 hf).1) j g3
 exact ⟨j,g,g1,g2,l2⟩
theorem Wh.keys (h:Wh fs inp ρ lv os) {v w:List Vl} (hv:v.length=fs.length) (hw:w.length=fs.length) {i:Nat} {f:Fd} (hf:fs[i]?=some f) (hk:f.kind≠1) (he:∀ j,lv j < lv i→v[j]?=w[j]?):evalE (fcs fs v) f.src=evalE (fcs fs w) f.src :=
 eval_local fun s hs=>by
  obtain ⟨j,g,g1,g2,g3⟩:=h.low hf hk hs
  have hj:=(List.getElem?_eq_some_iff.1 g1).1
  have e:=he j g3
  obtain ⟨a,ha⟩:∃ a,v[j]?=some a:=⟨_,List.getElem?_eq_getElem (by rw [hv]; exact hj)⟩
  rw [← g2,fcs_get h.ok.nodup g1 ha,fcs_get h.ok.nodup g1 (e ▸ ha)]
theorem Wh.settled (h:Wh fs inp ρ lv os):∀ r,(∀ i x,i < fs.length→lv i < r→(vR fs inp os r)[i]?=some x→x.k≠4)∧∀ i,lv i < r→(vR fs inp os (r + 1))[i]?=(vR fs inp os r)[i]?
 | 0=>⟨fun _ _ _ q=>by omega,fun _ q=>by omega⟩
 | r + 1=>by
  obtain ⟨i1,i2⟩:=h.settled r
  have s0:Sol fs inp (orcL fs inp os r) (vR fs inp os r):=(h.sol (h.orc r)).1
  have s1:Sol fs inp (orcL fs inp os (r + 1)) (vR fs inp os (r + 1)):=(h.sol (h.orc (r + 1))).1
  have s2:Sol fs inp (orcL fs inp os (r + 2)) (vR fs inp os (r + 2)):=(h.sol (h.orc (r + 2))).1
  have hit:∀ i f,fs[i]?=some f→f.kind=3→lv i < r + 1→(evalE (fcs fs (vR fs inp os (r + 1))) f.src).k≤3→(orcL fs inp os (r + 1)).any (fun p=>p.hit f.name (evalE (fcs fs (vR fs inp os (r + 1))) f.src))=true:=fun i f hf h3 hl hk=>by
   have e:=h.keys s1.len s0.len hf (by omega) (fun j hj=>i2 j (by omega))
   rw [e] at hk ⊢
   exact roundO_hit h3 hk fs _ (List.mem_of_getElem? hf)
  have n4:∀ i f,fs[i]?=some f→f.kind≠1→lv i < r + 1→(evalE (fcs fs (vR fs inp os (r + 1))) f.src).k≠4:=fun i f hf hk hl=>by
   refine ev_n4 ((h.ok.each f (List.mem_of_getElem? hf)).wf hk).1 fun s hs v hg=>?_
   obtain ⟨j,g,g1,g2,g3⟩:=h.low hf hk hs
   have hj:=(List.getElem?_eq_some_iff.1 g1).1
   obtain ⟨a,ha⟩:∃ a,(vR fs inp os (r + 1))[j]?=some a:=⟨_,List.getElem?_eq_getElem (by rw [s1.len]; exact hj)⟩
   rw [← g2,fcs_get h.ok.nodup g1 ha] at hg
   rw [← Option.some.inj hg]
   exact i1 j a hj (by omega) (by rw [← i2 j (by omega)]; exact ha)
  constructor
  ·intro i x hi hl hx
   obtain ⟨f,hf⟩:∃ f,fs[i]?=some f:=⟨_,List.getElem?_eq_getElem hi⟩
   have e:=s1.at_ i f x hf hx
   have hF:=h.ok.each f (List.mem_of_getElem? hf)
   unfold oneV at e
   by_cases g1:f.kind=1
   ·rw [if_pos g1] at e
    have hk:x.known:=e ▸ tell_ok h.known f.name hF.t1 hF.t3
    unfold Vl.known KnownV at hk
    omega
   ·rw [if_neg g1] at e
    have hn:=n4 i f hf g1 hl
    by_cases g3:f.kind=3
    ·rw [if_pos g3] at e
     unfold askV at e
     split at e
     ·rename_i q
      obtain ⟨p,hp,ea⟩:=askL_has (hit i f hf g3 hl q)
      have hk:x.known:=by rw [e,ea]; exact ((h.orc (r + 1)).each p hp).has
      unfold Vl.known KnownV at hk
      omega
     ·rw [e]; exact hn
    ·rw [if_neg g3] at e
     rw [e]; exact hn
  ·have key:∀ m i,lv i < m→lv i < r + 1→(vR fs inp os (r + 2))[i]?=(vR fs inp os (r + 1))[i]?:=fun m=>by
    induction m with
    | zero=>intro i q; omega
    | succ m ih =>
     intro i hm hl
     rcases Nat.lt_or_ge i fs.length with hi | hi
     ·obtain ⟨f,hf⟩:∃ f,fs[i]?=some f:=⟨_,List.getElem?_eq_getElem hi⟩
      obtain ⟨x,hx⟩:∃ x,(vR fs inp os (r + 2))[i]?=some x:=⟨_,List.getElem?_eq_getElem (by rw [s2.len]; exact hi)⟩
      obtain ⟨y,hy⟩:∃ y,(vR fs inp os (r + 1))[i]?=some y:=⟨_,List.getElem?_eq_getElem (by rw [s1.len]; exact hi)⟩
      rw [hx,hy,s2.at_ i f x hf hx,s1.at_ i f y hf hy]
      refine congrArg some ?_
      unfold oneV
      by_cases g1:f.kind=1
      ·rw [if_pos g1,if_pos g1]
      ·have e:=h.keys s2.len s1.len hf g1 (fun j hj=>ih j (by omega) (by omega))
       rw [if_neg g1,if_neg g1,e]
       by_cases g3:f.kind=3
       ·rw [if_pos g3,if_pos g3]
        unfold askV
        split
        ·rename_i q
         obtain ⟨m2,em⟩:=roundO_ext (fcs fs (allW fs inp (orcL fs inp os (r + 1)) os)) fs (orcL fs inp os (r + 1))
         rw [show orcL fs inp os (r + 2)=orcL fs inp os (r + 1)++m2 from em]
         exact askL_app (hit i f hf g3 hl q)
        ·rfl
       ·rw [if_neg g3,if_neg g3]
     ·rw [List.getElem?_eq_none (by rw [s2.len]; exact hi),List.getElem?_eq_none (by rw [s1.len]; exact hi)]
   exact fun i hl=>key (lv i + 1) i (by omega) hl
/-! ### With more answers what was known stays -/
open Classical in
theorem get_keep (R:List ByteArray) (s:ByteArray):∀ l:Env,Env.get (l.filter fun p=>decide (p.1∈R)) s=if s∈R then l.get s else none
 | []=>by simp [Env.get]
 | (k,v) :: l=>by
  have ih:=get_keep R s l
  by_cases hk:k∈R
  ·rw [List.filter_cons_of_pos (by simpa using hk)]
   by_cases e:s=k
   ·subst e
    rw [env_hit,env_hit,if_pos hk]
   ·rw [env_miss _ _ e,env_miss _ _ e,ih]
  ·rw [List.filter_cons_of_neg (by simpa using hk),ih]
   by_cases hs:s∈R
   ·rw [if_pos hs,if_pos hs,env_miss _ _ (fun e:s=k=>hk (e ▸ hs))]
   ·rw [if_neg hs,if_neg hs]
open Classical in
theorem eval_growsR {e1 e2:Env} {x:Ex} (h:∀ s∈refsE x,∃ w v,e1.get s=some w∧e2.get s=some v∧Grows w v) (hx:WfE x):Grows (evalE e1 x) (evalE e2 x):=by
 have g1:evalE e1 x=evalE (e1.filter fun p=>decide (p.1∈refsE x)) x:=eval_local fun s hs=>by rw [get_keep,if_pos hs]
 have g2:evalE e2 x=evalE (e2.filter fun p=>decide (p.1∈refsE x)) x:=eval_local fun s hs=>by rw [get_keep,if_pos hs]
 rw [g1,g2]
 refine eval_grows (fun s=>?_) hx
 rw [get_keep,get_keep]
 by_cases hs:s∈refsE x
 ·rw [if_pos hs,if_pos hs]; exact .inr (h s hs)
 ·rw [if_neg hs,if_neg hs]; exact .inl ⟨rfl,rfl⟩
theorem Wh.grows (h:Wh fs inp ρ lv os) {o1 o2:List Aw} {v w:List Vl} (hv:Sol fs inp o1 v) (hw:Sol fs inp (o1++o2) w) (hvo:∀ x∈v,OkV x) (hwo:∀ x∈w,OkV x):∀ (i:Nat) (x y:Vl),v[i]?=some x→w[i]?=some y→Grows x y:=by
 have key:∀ m i,lv i < m→∀ x y,v[i]?=some x→w[i]?=some y→Grows x y:=fun m=>by
  induction m with
  | zero=>intro i q; omega
  | succ m ih =>
   intro i hm x y hx hy
   have hi:i < fs.length:=by rw [← hv.len]; exact (List.getElem?_eq_some_iff.1 hx).1
   obtain ⟨f,hf⟩:∃ f,fs[i]?=some f:=⟨_,List.getElem?_eq_getElem hi⟩
   have ex:=hv.at_ i f x hf hx
   have ey:=hw.at_ i f y hf hy
   unfold oneV at ex ey
   by_cases g1:f.kind=1
   ·rw [if_pos g1] at ex ey
    rw [ex,ey]; exact .rfl' _
   ·rw [if_neg g1] at ex ey
    have hW:=((h.ok.each f (List.mem_of_getElem? hf)).wf g1).1
    have hg:Grows (evalE (fcs fs v) f.src) (evalE (fcs fs w) f.src):=by
     refine eval_growsR (fun s hs=>?_) hW
     obtain ⟨j,g,q1,q2,q3⟩:=h.low hf g1 hs
     have hj:=(List.getElem?_eq_some_iff.1 q1).1
     obtain ⟨a,ha⟩:∃ a,v[j]?=some a:=⟨_,List.getElem?_eq_getElem (by rw [hv.len]; exact hj)⟩
     obtain ⟨b,hb⟩:∃ b,w[j]?=some b:=⟨_,List.getElem?_eq_getElem (by rw [hw.len]; exact hj)⟩
     exact ⟨a,b,q2 ▸ fcs_get h.ok.nodup q1 ha,q2 ▸ fcs_get h.ok.nodup q1 hb,ih j (by omega) a b ha hb⟩
    by_cases g3:f.kind=3
    ·rw [if_pos g3] at ex ey
     rw [ex,ey]
     rcases hg with q | q | ⟨q1,q2⟩
     ·exact .inl (by unfold askV; rw [if_neg (by omega)]; exact q)
     ·rw [q]
      unfold askV
      split
      ·cases e:o1.any (fun p=>p.hit f.name (evalE (fcs fs v) f.src)) with
       | true=>rw [askL_app e]; exact .rfl' _
       | false=>rw [askL_none e]; exact .inl rfl
      ·exact .rfl' _
     ·exact .inr (.inr ⟨by unfold askV; rw [if_neg (by omega)]; exact q1,by unfold askV; rw [if_neg (by omega)]; exact q2⟩)
    ·rw [if_neg g3] at ex ey
     rw [ex,ey]; exact hg
 exact fun i x y hx hy=>key (lv i + 1) i (by omega) x y hx hy
end

end Go.Proofs.YthckljafinhepaaGreat
