/-
  The laws' Oracle, in plain words: all keys that come up, answered. Such answers may be.
-/
import Derived.Test.YthgcgciceejicaaGreatDoorZU48
import Derived.Test.YthgcgciceejicaaGreatDoorZU46
import Derived.Test.YthgcgciceejicaaGreatDoorZU47
set_option maxHeartbeats 8000000
set_option maxRecDepth 100000
namespace Go.Proofs.YthgcgciceejicaaGreatDoor
open Go.RowKit
set_option linter.unusedVariables false
def abcB:ByteArray:=⟨#[97,98,99,100,101,102,103,104,105]⟩
def ansN (f:Fd) (key:Vl):Int:=Int.tmod key.n 9 + 3 * (key.s.size:Int) + (f.name.size:Int)
def ansV (f:Fd) (key:Vl):Vl:=if f.ty=1 then ⟨1,ansN f key,⟨#[]⟩⟩ else if f.ty=2 then ⟨2,cJ (ansN f key) 2,⟨#[]⟩⟩ else ⟨3,0,f.name++abcB.extract 0 (cJ (ansN f key) 9).toNat⟩
theorem word_print {c:UInt8} (h:dW c=true):32 <= c.toNat /\ c.toNat <= 126:=by
 unfold dW isLet isDig at h;simp only [Qv,Pw] at h;omega
theorem name_print {s:ByteArray} (h:qJ s.data.toList):s.size <= 10 /\ ∀ i (hi:i < s.size),32 <= s[i].toNat /\ s[i].toNat <= 126:=by
 obtain ⟨-,h2,-,h4,-⟩:=h;have hsz:s.data.toList.length=s.size:=by simp
 refine ⟨by omega,λi hi=>?_⟩;have hg:s.data.toList[i]?=some s[i]:=by
  rw [Fj (by omega)]
  congr 1
 exact word_print (span_all dW s.data.toList i s[i] (by omega) hg)
theorem abc_all:∀ i (hi:i < 9),32 <= (abcB[i]'hi).toNat /\ (abcB[i]'hi).toNat <= 126:=by decide
theorem abc_print (k:Nat):(abcB.extract 0 k).size <= 9 /\ ∀ i (hi:i < (abcB.extract 0 k).size),32 <= (abcB.extract 0 k)[i].toNat /\ (abcB.extract 0 k)[i].toNat <= 126:=by
 have hs:(abcB.extract 0 k).size=min k abcB.size - 0:=ByteArray.size_extract ..;have h9:abcB.size=9:=rfl;refine ⟨by omega,λi hi=>?_⟩;rw [ByteArray.getElem_extract]
 have:=abc_all (0 + i) (by omega)
 exact this
theorem known_size {v:Vl} (h:v.known):v.s.size <= 40:=by
 rcases h with ⟨-,-,e⟩ | ⟨-,-,e⟩ | ⟨-,-,e,-⟩
 ·rw [e]; decide
 ·rw [e]; decide
 ·exact e
theorem ansN_lo (f:Fd) (key:Vl) (hn:f.name.size <= 10) (hk:key.s.size <= 40) : -8 <= ansN f key /\ ansN f key <= 138:=by
 have h1:=Int.tmod_lt_of_pos key.n (show (0:Int) < 9 by decide);have h2:=Int.lt_tmod_of_pos key.n (show (0:Int) < 9 by decide);unfold ansN;omega
theorem ans_known {fs:List Fd} {f:Fd} (hf:OkF fs f) {key:Vl} (hk:key.known):(ansV f key).known /\ (ansV f key).k=f.ty:=by
 obtain ⟨hn,hp⟩:=name_print hf.name;have hr:=ansN_lo f key hn (known_size hk);have t1:=hf.t1;have t3:=hf.t3;unfold ansV
 by_cases g1:f.ty=1
 ·rw [Cj g1];exact ⟨.inl ⟨rfl,by show Lim (ansN f key); unfold Lim; omega,rfl⟩,g1.symm⟩
 by_cases g2:f.ty=2
 ·rw [Bj g1,Cj g2];have p0:=eY (ansN f key) 2 (by omega);have p1:=dY (ansN f key) 2 (by omega);exact ⟨.inr (.inl ⟨rfl,by show cJ _ _=0\/cJ _ _=1; omega,rfl⟩),g2.symm⟩
 rw [Bj g1,Bj g2];obtain ⟨ha,hb⟩:=abc_print (cJ (ansN f key) 9).toNat;generalize abcB.extract 0 (cJ (ansN f key) 9).toNat=t at *;have hs:(f.name++t).size=f.name.size + t.size:=ByteArray.size_append ..;refine ⟨.inr (.inr ⟨rfl,rfl,by show (f.name++t).size <= 40; omega,λi hi=>?_⟩),by show (3:Int)=_; omega⟩;have hi':i < f.name.size + t.size:=by rw [<- hs]; exact hi
 show 32 <= (f.name++t)[i].toNat /\ _
 by_cases hlt:i < f.name.size
 ·rw [ByteArray.getElem_append_left hlt]; exact hp i hlt
 ·rw [ByteArray.getElem_append_right (by omega)]; exact hb _ (by omega)
theorem tyL_congr {f g:ByteArray -> Option Int}:∀ {l:List Ex},(∀ y∈l,tyE f y=tyE g y) -> tyL f l=tyL g l
 | [],_=>by rw [tyL,tyL]
 | x :: l,h=>by rw [tyL,tyL,h x (by simp),tyL_congr λy hy=>h y (by simp [hy])]
theorem ty_congr {f g:ByteArray -> Option Int} {x:Ex} (h:∀ s∈qY x,f s=g s):tyE f x=tyE g x:=by
 revert h
 refine ex_ind (p:=λx=>(∀ s∈qY x,f s=g s) -> tyE f x=tyE g x) (λx ih h=>?_) x;rw [rY] at h;have hl:tyL f x.args=tyL g x.args:=tyL_congr λy hy=>ih y hy λs hs=>h s (Uj _ (mem_refsL.2 ⟨y,hy,hs⟩));rw [tyE_op,tyE_op,hl]
 by_cases h2:x.op=2
 ·rw [h x.nm (by rw [Cj h2]; simp)]
 ·unfold tyOp;simp only [Bj h2]
abbrev NyV (v:Vl):Prop:=v.k=4\/v.k=5
theorem ny_not:NotYet NyV:=⟨λ_ h=>h,.inr rfl,.inr rfl,.inr rfl⟩
def TyOk (fs:List Fd) (v:List Vl):Prop:=∀ (i:Nat) (f:Fd) (x:Vl),fs[i]?=some f -> v[i]?=some x -> OfT NyV f.ty x
theorem fcs_env {fs:List Fd} (hok:OkFs fs) {v:List Vl} (hl:v.length=fs.length) (ht:TyOk fs v):∀ s t,tyF fs s=some t -> ∃ x,(fcs fs v).get s=some x /\ OfT NyV t x:=λs t h=>by
 obtain ⟨i,f,h1,h2,h3⟩:∃ (i:Nat) (f:Fd),fs[i]?=some f /\ f.name=s /\ f.ty=t:=by
  clear ht hl hok
  induction fs with
  | nil=>cases h
  | cons g l ih =>
   rw [tyF] at h
   by_cases e:(s == g.name)=true
   ·rw [Cj e] at h;exact ⟨0,g,rfl,((Zk _ _).1 e).symm,Zj h⟩
   ·rw [Bj e] at h;obtain ⟨i,f,h1,h2⟩:=ih h;exact ⟨i + 1,f,by simpa using h1,h2⟩
 obtain ⟨x,hx⟩:∃ x,v[i]?=some x:=⟨_,Fj (by rw [hl]; exact (Nj.1 h1).1)⟩;exact ⟨x,h2 ▸ cQ hok.nodup h1 hx,h3 ▸ ht i f x h1 hx⟩
theorem tell_ty {fs:List Fd} {inp:Env} (hi:∀ p∈inp,p.2.known) {s:ByteArray} {t:Int} (h1:1 <= t) (h3:t <= 3) (hk:∀ p∈inp,p.1=s -> p.2.k=t):(tellV s t inp).k=t:=by
 induction inp with
 | nil=>rfl
 | cons p l ih =>
  rw [tellV]
  by_cases e:(p.1.toList == s.toList)=true
  ·rw [Cj e];rw [tl_dec,Kv] at e;exact hk p (by simp) e
  ·rw [Bj e];exact ih (λq hq=>hi q (by simp [hq])) λq hq=>hk q (by simp [hq])
theorem ask_ty {fs:List Fd} (hok:OkFs fs) {orc:List Aw} (ho:OkOrc fs orc) {i:Nat} {f:Fd} (hf:fs[i]?=some f) (key:Vl):OfT NyV f.ty (vJ f.name key orc):=by
 have:∀ l:List Aw,(∀ p∈l,p∈orc) -> OfT NyV f.ty (vJ f.name key l):=λl=>by
  induction l with
  | nil=>exact λ_=>.inr (.inl rfl)
  | cons p l ih =>
   intro hl;rw [vJ]
   split
   ·rename_i g;have hp:=ho.each p (hl p (by simp));obtain ⟨j,g2,t,h1,h2,-,-,-,h6⟩:=hp.place;have hn:p.nm=f.name:=by
     unfold Aw.hit at g;rw [Vj,tl_dec,Kv] at g;exact g.1
    have e1:=mQ hok.nodup h1;have e2:=mQ hok.nodup hf;rw [h2,hn,e2] at e1;have e1:i=j:=by omega
    subst e1;rw [hf] at h1;obtain rfl:=Zj h1;exact .inl ⟨hp.has,h6⟩
   ·exact ih λq hq=>hl q (by simp [hq])
 exact this orc λ_ h=>h
def InpTy (fs:List Fd) (inp:Env):Prop:=∀ (i:Nat) (f:Fd),fs[i]?=some f -> f.kind=1 -> ∀ p∈inp,p.1=f.name -> p.2.k=f.ty
theorem sol_tyG {fs:List Fd} (hok:OkFs fs) {inp:Env} (hi:∀ p∈inp,p.2.known) (hit:InpTy fs inp) {orc:List Aw} (ho:∀ (i:Nat) (f:Fd),fs[i]?=some f -> ∀ key,OfT NyV f.ty (vJ f.name key orc)) {ρ:List Int} {lv:Nat -> Nat} (hr:Ranked (xW fs) ρ lv) {v:List Vl} (hv:Sol fs inp orc v) (hvo:∀ x∈v,OkV x):TyOk fs v:=by
 have key:∀ t i,lv i < t -> ∀ f x,fs[i]?=some f -> v[i]?=some x -> OfT NyV f.ty x:=λt=>by
  induction t with
  | zero=>intro i h; omega
  | succ t ih =>
   intro i ht f x hf hx;have hF:=hok.each f (Ej hf);have hil:=(Nj.1 hf).1;have hxo:=hvo x (Ej hx);have e:=hv.at_ i f x hf hx;unfold iX at e
   by_cases h1:f.kind=1
   ·rw [Cj h1] at e;exact .inl ⟨e ▸ tell_ok hi _ hF.t1 hF.t3,e ▸ tell_ty (fs:=fs) hi hF.t1 hF.t3 (hit i f hf h1)⟩
   ·rw [Bj h1] at e
    by_cases h3:f.kind=3
    ·rw [Cj h3] at e;unfold askV at e
     split at e
     ·rw [e]; exact ho i f hf _
     ·rename_i q;rw [e] at hxo ⊢
      have:=ok_kinds hxo
      exact .inr (by show _=4\/_=5; omega)
    ·rw [Bj h3] at e;have ht2:=hF.form (by have:=hF.k1; have:=hF.k3; omega);have hdec:∀ s,Decidable (s∈qY f.src):=λs=>Classical.propDecidable _;obtain ⟨t2,env,hsub,hE⟩:∃ (f2:ByteArray -> Option Int) (env:Env),tyE f2 f.src=(f.ty,0) /\ pK env f.src=pK (fcs fs v) f.src /\ ∀ s t,f2 s=some t -> ∃ x,env.get s=some x /\ OfT NyV t x:=by
      refine ⟨λs=>if s∈qY f.src then tyF fs s else none,fcs fs v,?_,rfl,λs t q=>?_⟩
      ·exact (ty_congr (f:=λs=>if s∈qY f.src then tyF fs s else none) (g:=tyF fs) (λs hs=>Cj hs)).trans ht2
      ·simp only at q
       split at q
       ·rename_i hs;obtain ⟨j,g,g1,g2,g3⟩:=tY hok hf h1 hs;obtain ⟨l1,l2⟩:=hr.low i (by rw [yW]; exact hil) j g3;rw [yW] at l1;obtain ⟨y,hy⟩:∃ y,v[j]?=some y:=⟨_,Fj (by rw [hv.len]; exact l1)⟩
        have:=ih j (by omega) g y g1 hy
        have hty:tyF fs s=some g.ty:=by rw [<- g2]; exact tyF_mem hok.nodup g (Ej g1)
        rw [hty] at q;rw [<- Zj q];exact ⟨y,g2 ▸ cQ hok.nodup g1 hy,this⟩
       ·cases q
     have:=ty_sound ny_not hE.2 (hF.wf h1).1 hsub
     rw [hE.1] at this;rw [e]; exact this
 exact λi f x hf hx=>key (lv i + 1) i (by omega) f x hf hx
theorem sol_ty {fs:List Fd} (hok:OkFs fs) {inp:Env} (hi:∀ p∈inp,p.2.known) (hit:InpTy fs inp) {orc:List Aw} (ho:OkOrc fs orc) {ρ:List Int} {lv:Nat -> Nat} (hr:Ranked (xW fs) ρ lv) {v:List Vl} (hv:Sol fs inp orc v) (hvo:∀ x∈v,OkV x):TyOk fs v :=
 sol_tyG hok hi hit (λi f hf key=>ask_ty hok ho hf key) hr hv hvo
def addO (env:Env) (out:List Aw) (f:Fd):List Aw :=
 if f.kind=3 /\ (pK env f.src).k <= 3 /\ out.any (λp=>p.hit f.name (pK env f.src))=false then out++[⟨f.name,pK env f.src,ansV f (pK env f.src)⟩] else out
def wY (env:Env) (fs:List Fd) (out:List Aw):List Aw:=fs.foldl (addO env) out
def qX (fs:List Fd) (inp:Env) (os:List Nat):Nat -> List Aw
 | 0=>[]
 | r + 1=>wY (fcs fs (allW fs inp (qX fs inp os r) os)) fs (qX fs inp os r)
theorem roundO_snoc (env:Env) (l:List Fd) (f:Fd) (out:List Aw):wY env (l++[f]) out=addO env (wY env l out) f:=by unfold wY; rw [Yw]; rfl
theorem addO_len (env:Env) (out:List Aw) (f:Fd):(addO env out f).length <= out.length + 1:=by unfold addO; split <;> simp
theorem roundO_len (env:Env):∀ (l:List Fd) (out:List Aw),(wY env l out).length <= out.length + l.length
 | [],out=>Ij _
 | f :: l,out=>by
  have h1:=roundO_len env l (addO env out f);have h2:=addO_len env out f;show (wY env l (addO env out f)).length <= _;rw [Vk]; omega
theorem orcL_len (fs:List Fd) (inp:Env) (os:List Nat):∀ r,(qX fs inp os r).length <= r * fs.length
 | 0=>Oj _
 | r + 1=>by
  have h1:=orcL_len fs inp os r;have h2:=roundO_len (fcs fs (allW fs inp (qX fs inp os r) os)) fs (qX fs inp os r);show (wY _ _ _).length <= _;rw [Ov]; omega
theorem addO_ext (env:Env) (out:List Aw) (f:Fd):∃ m,addO env out f=out++m:=by
 unfold addO
 split
 ·exact ⟨_,rfl⟩
 ·exact ⟨[],by simp⟩
theorem roundO_ext (env:Env):∀ (l:List Fd) (out:List Aw),∃ m,wY env l out=out++m
 | [],out=>⟨[],by simp [wY]⟩
 | f :: l,out=>by
  obtain ⟨m1,h1⟩:=addO_ext env out f;obtain ⟨m2,h2⟩:=roundO_ext env l (addO env out f);exact ⟨m1++m2,by show wY env l (addO env out f)=_; rw [h2,h1,Oq]⟩
theorem addO_ok {fs:List Fd} (hok:OkFs fs) {env:Env} (he:∀ s t,tyF fs s=some t -> ∃ x,env.get s=some x /\ OfT NyV t x) {out:List Aw} (ho:OkOrc fs out) {i:Nat} {f:Fd} (hf:fs[i]?=some f):OkOrc fs (addO env out f):=by
 unfold addO
 split
 ·rename_i h;obtain ⟨h3,hk,hn⟩:=h;have hF:=hok.each f (Ej hf);obtain ⟨t,-,-,ht⟩:=hF.look h3;have hkt:=ty_sound ny_not he (hF.wf (by omega)).1 ht;generalize pK env f.src=key at *;obtain ⟨k1,k2⟩:key.known /\ key.k=t:=by
   rcases hkt with q | q
   ·exact q
   ·have q:key.k=4\/key.k=5:=q;omega
  obtain ⟨a1,a2⟩:=ans_known hF k1;refine ⟨λp hp=>?_,List.pairwise_append.2 ⟨ho.once,List.pairwise_singleton _ _,λp hp q hq=>?_⟩⟩
  ·rcases Qj.1 hp with q | q
   ·exact ho.each p q
   ·rw [Pj.1 q];exact ⟨⟨i,f,t,hf,rfl,h3,ht,k2,a2⟩,k1,a1⟩
  ·rw [Pj.1 hq];rw [List.any_eq_false] at hn;exact Kq.2 (hn p hp)
 ·exact ho
theorem roundO_ok {fs:List Fd} (hok:OkFs fs) {env:Env} (he:∀ s t,tyF fs s=some t -> ∃ x,env.get s=some x /\ OfT NyV t x):∀ (l:List Fd),(∀ f∈l,f∈fs) -> ∀ (out:List Aw),OkOrc fs out -> OkOrc fs (wY env l out)
 | [],_,_,ho=>ho
 | f :: l,hl,out,ho=>by
  obtain ⟨i,hi⟩:=Xk (hl f (by simp));exact roundO_ok hok he l (λg hg=>hl g (by simp [hg])) _ (addO_ok hok he ho hi)
structure Wh (fs:List Fd) (inp:Env) (ρ:List Int) (lv:Nat -> Nat) (os:List Nat):Prop where
 ok:OkFs fs
 known:∀ p∈inp,p.2.known
 ty:InpTy fs inp
 ord:Ordd fs ρ lv os
theorem Wh.sol {fs:List Fd} {inp:Env} {ρ:List Int} {lv:Nat -> Nat} {os:List Nat} (h:Wh fs inp ρ lv os) {orc:List Aw} (ho:OkOrc fs orc):Sol fs inp orc (allW fs inp orc os) /\ ∀ x∈allW fs inp orc os,OkV x:=all_sol h.ok h.known ho.has h.ord
theorem Wh.env {fs:List Fd} {inp:Env} {ρ:List Int} {lv:Nat -> Nat} {os:List Nat} (h:Wh fs inp ρ lv os) {orc:List Aw} (ho:OkOrc fs orc):∀ s t,tyF fs s=some t -> ∃ x,(fcs fs (allW fs inp orc os)).get s=some x /\ OfT NyV t x:=by
 obtain ⟨h1,h2⟩:=h.sol ho;exact fcs_env h.ok h1.len (sol_ty h.ok h.known h.ty ho h.ord.rank h1 h2)
theorem Wh.orc {fs:List Fd} {inp:Env} {ρ:List Int} {lv:Nat -> Nat} {os:List Nat} (h:Wh fs inp ρ lv os):∀ r,OkOrc fs (qX fs inp os r)
 | 0=>OkOrc.nil fs
 | r + 1=>roundO_ok h.ok (h.env (h.orc r)) fs (λ_ q=>q) _ (h.orc r)
theorem askL_app {s:ByteArray} {key:Vl} {m:List Aw}:∀ {l:List Aw},l.any (λp=>p.hit s key)=true -> vJ s key (l++m)=vJ s key l
 | [],h=>by cases h
 | p :: l,h=>by
  show vJ s key (p :: (l++m))=_;rw [vJ,vJ]
  split
  ·rfl
  ·rename_i q;rw [List.any_cons,Kq.2 q,Bool.false_or] at h;exact askL_app h
theorem askL_none {s:ByteArray} {key:Vl}:∀ {l:List Aw},l.any (λp=>p.hit s key)=false -> vJ s key l=pdV
 | [],_=>rfl
 | p :: l,h=>by
  rw [List.any_cons,Bool.or_eq_false_iff] at h;rw [vJ,Bj (by rw [h.1]; exact Iv)];exact askL_none h.2
theorem askL_has {s:ByteArray} {key:Vl}:∀ {l:List Aw},l.any (λp=>p.hit s key)=true -> ∃ p∈l,vJ s key l=p.has
 | [],h=>by cases h
 | p :: l,h=>by
  rw [vJ]
  split
  ·exact ⟨p,by simp,rfl⟩
  ·rename_i q;rw [List.any_cons,Kq.2 q,Bool.false_or] at h;obtain ⟨x,hx,e⟩:=askL_has h;exact ⟨x,by simp [hx],e⟩
theorem hit_self (s:ByteArray) (key has:Vl):Aw.hit ⟨s,key,has⟩ s key=true:=by
 unfold Aw.hit;rw [tl_dec,Jj rfl,eqB_iff.2 rfl]; rfl
theorem addO_hit {env:Env} {out:List Aw} {f:Fd} (h3:f.kind=3) (hk:(pK env f.src).k <= 3):(addO env out f).any (λp=>p.hit f.name (pK env f.src))=true:=by
 unfold addO
 split
 ·rw [List.any_append];simp only [List.any_cons,List.any_nil,Bool.or_false];rw [hit_self,Bool.or_true]
 ·rename_i q
  cases g:out.any (λp=>p.hit f.name (pK env f.src)) with
  | true=>rfl
  | false=>exact absurd ⟨h3,hk,g⟩ q
theorem any_ext {out m:List Aw} {p:Aw -> Bool} (h:out.any p=true):(out++m).any p=true:=by rw [List.any_append,h,Bool.true_or]
theorem roundO_hit {env:Env} {f:Fd} (h3:f.kind=3) (hk:(pK env f.src).k <= 3):∀ (l:List Fd) (out:List Aw),f∈l -> (wY env l out).any (λp=>p.hit f.name (pK env f.src))=true
 | [],_,h=>by cases h
 | g :: l,out,h=>by
  show (wY env l (addO env out g)).any _=true;rcases Tj.1 h with rfl | h
  ·obtain ⟨m,e⟩:=roundO_ext env l (addO env out f);rw [e];exact any_ext (addO_hit h3 hk)
  ·exact roundO_hit h3 hk l _ h
theorem hd_n4 {env:Env} {l:List Ex} (h:∀ y∈l,(pK env y).k≠4) (i:Nat):(hdV (rK env l) i).k≠4:=by
 unfold hdV;rw [Yk,sK,Mj]
 cases e:l[i]? with
 | none=>show (0:Int)≠4; decide
 | some y=>exact h y (Ej e)
theorem first_n4 {v:Vl} (h:v.k≠4):(nQ v).1.k≠4:=by
 unfold nQ
 split
 ·show (5:Int)≠4; decide
 ·exact h
theorem bool_n4 {v:Vl} (h:v.k≠4):(zJ v).k≠4:=by
 unfold zJ
 split
 ·show (5:Int)≠4; decide
 ·exact h
theorem apply_n4 (op:Int) (l:List Vl):(lJ op l).k≠4:=by
 unfold lJ joinV nrV truthV zK
 repeat' split
 all_goals (first | (show (5:Int)≠4; decide) | (show (2:Int)≠4; decide) | (show (1:Int)≠4; decide) | (show (3:Int)≠4; decide))
theorem ev_n4 {env:Env} {x:Ex} (hw:WfE x) (hr:∀ s∈qY x,∀ v,env.get s=some v -> v.k≠4):(pK env x).k≠4:=by
 revert hw hr
 refine ex_ind (p:=λx=>WfE x -> (∀ s∈qY x,∀ v,env.get s=some v -> v.k≠4) -> (pK env x).k≠4) (λx ih hw hr=>?_) x;rw [rY] at hr;have ha:∀ y∈x.args,(pK env y).k≠4:=λy hy=>ih y hy (hw.list.get hy) λs hs=>hr s (Uj _ (mem_refsL.2 ⟨y,hy,hs⟩));rw [evalE_eq]
 split
 ·rename_i h1;have hk:pJ x.k x.n x.s:=by
   rcases hw.top with t | t | t
   ·exact t.2.1
   ·omega
   ·omega
  show x.k≠4;unfold pJ at hk;omega
 ·split
  ·rename_i h2
   cases g:env.get x.nm with
   | none=>show (5:Int)≠4; decide
   | some v=>exact hr x.nm (by rw [Cj h2]; simp) v g
  ·split
   ·split
    ·exact first_n4 (hd_n4 ha 0)
    ·exact bool_n4 (hd_n4 ha 1)
   ·split
    ·split
     ·exact first_n4 (hd_n4 ha 0)
     ·split
      ·exact hd_n4 ha 1
      ·exact hd_n4 ha 2
    ·split
     ·rename_i u hu;rcases (lack_some hu (λw e=>by cases e)).2 with q | q
      ·cases q
      ·rw [sK] at q;obtain ⟨y,hy,rfl⟩:=Rj.1 q;exact ha y hy
     ·exact apply_n4 _ _
section
variable {fs:List Fd} {inp:Env} {ρ:List Int} {lv:Nat -> Nat} {os:List Nat}
def vR (fs:List Fd) (inp:Env) (os:List Nat) (r:Nat):List Vl:=allW fs inp (qX fs inp os r) os
theorem Wh.low (h:Wh fs inp ρ lv os) {i:Nat} {f:Fd} (hf:fs[i]?=some f) (hk:f.kind≠1) {s:ByteArray} (hs:s∈qY f.src):∃ (j:Nat) (g:Fd),fs[j]?=some g /\ g.name=s /\ lv j < lv i:=by
 obtain ⟨j,g,g1,g2,g3⟩:=tY h.ok hf hk hs;obtain ⟨-,l2⟩:=h.ord.rank.low i (by rw [yW]; exact (Nj.1 hf).1) j g3;exact ⟨j,g,g1,g2,l2⟩
theorem Wh.keys (h:Wh fs inp ρ lv os) {v w:List Vl} (hv:v.length=fs.length) (hw:w.length=fs.length) {i:Nat} {f:Fd} (hf:fs[i]?=some f) (hk:f.kind≠1) (he:∀ j,lv j < lv i -> v[j]?=w[j]?):pK (fcs fs v) f.src=pK (fcs fs w) f.src :=
 eval_local λs hs=>by
  obtain ⟨j,g,g1,g2,g3⟩:=h.low hf hk hs;have hj:=(Nj.1 g1).1;have e:=he j g3;obtain ⟨a,ha⟩:∃ a,v[j]?=some a:=⟨_,Fj (by rw [hv]; exact hj)⟩;rw [<- g2,cQ h.ok.nodup g1 ha,cQ h.ok.nodup g1 (e ▸ ha)]
theorem Wh.settled (h:Wh fs inp ρ lv os):∀ r,(∀ i x,i < fs.length -> lv i < r -> (vR fs inp os r)[i]?=some x -> x.k≠4) /\ ∀ i,lv i < r -> (vR fs inp os (r + 1))[i]?=(vR fs inp os r)[i]?
 | 0=>⟨λ_ _ _ q=>by omega,λ_ q=>by omega⟩
 | r + 1=>by
  obtain ⟨i1,i2⟩:=h.settled r;have s0:Sol fs inp (qX fs inp os r) (vR fs inp os r):=(h.sol (h.orc r)).1;have s1:Sol fs inp (qX fs inp os (r + 1)) (vR fs inp os (r + 1)):=(h.sol (h.orc (r + 1))).1;have s2:Sol fs inp (qX fs inp os (r + 2)) (vR fs inp os (r + 2)):=(h.sol (h.orc (r + 2))).1;have hit:∀ i f,fs[i]?=some f -> f.kind=3 -> lv i < r + 1 -> (pK (fcs fs (vR fs inp os (r + 1))) f.src).k <= 3 -> (qX fs inp os (r + 1)).any (λp=>p.hit f.name (pK (fcs fs (vR fs inp os (r + 1))) f.src))=true:=λi f hf h3 hl hk=>by
   have e:=h.keys s1.len s0.len hf (by omega) (λj hj=>i2 j (by omega));rw [e] at hk ⊢;exact roundO_hit h3 hk fs _ (Ej hf)
  have n4:∀ i f,fs[i]?=some f -> f.kind≠1 -> lv i < r + 1 -> (pK (fcs fs (vR fs inp os (r + 1))) f.src).k≠4:=λi f hf hk hl=>by
   refine ev_n4 ((h.ok.each f (Ej hf)).wf hk).1 λs hs v hg=>?_;obtain ⟨j,g,g1,g2,g3⟩:=h.low hf hk hs;have hj:=(Nj.1 g1).1;obtain ⟨a,ha⟩:∃ a,(vR fs inp os (r + 1))[j]?=some a:=⟨_,Fj (by rw [s1.len]; exact hj)⟩;rw [<- g2,cQ h.ok.nodup g1 ha] at hg;rw [<- Zj hg];exact i1 j a hj (by omega) (by rw [<- i2 j (by omega)]; exact ha)
  constructor
  ·intro i x hi hl hx;obtain ⟨f,hf⟩:∃ f,fs[i]?=some f:=⟨_,Fj hi⟩;have e:=s1.at_ i f x hf hx;have hF:=h.ok.each f (Ej hf);unfold iX at e
   by_cases g1:f.kind=1
   ·rw [Cj g1] at e;have hk:x.known:=e ▸ tell_ok h.known f.name hF.t1 hF.t3;unfold Vl.known pJ at hk;omega
   ·rw [Bj g1] at e;have hn:=n4 i f hf g1 hl
    by_cases g3:f.kind=3
    ·rw [Cj g3] at e;unfold askV at e
     split at e
     ·rename_i q;obtain ⟨p,hp,ea⟩:=askL_has (hit i f hf g3 hl q);have hk:x.known:=by rw [e,ea]; exact ((h.orc (r + 1)).each p hp).has
      unfold Vl.known pJ at hk;omega
     ·rw [e]; exact hn
    ·rw [Bj g3] at e;rw [e]; exact hn
  ·have key:∀ m i,lv i < m -> lv i < r + 1 -> (vR fs inp os (r + 2))[i]?=(vR fs inp os (r + 1))[i]?:=λm=>by
    induction m with
    | zero=>intro i q; omega
    | succ m ih =>
     intro i hm hl;rcases Xq i fs.length with hi | hi
     ·obtain ⟨f,hf⟩:∃ f,fs[i]?=some f:=⟨_,Fj hi⟩;obtain ⟨x,hx⟩:∃ x,(vR fs inp os (r + 2))[i]?=some x:=⟨_,Fj (by rw [s2.len]; exact hi)⟩;obtain ⟨y,hy⟩:∃ y,(vR fs inp os (r + 1))[i]?=some y:=⟨_,Fj (by rw [s1.len]; exact hi)⟩;rw [hx,hy,s2.at_ i f x hf hx,s1.at_ i f y hf hy];refine Dj some ?_;unfold iX
      by_cases g1:f.kind=1
      ·rw [Cj g1,Cj g1]
      ·have e:=h.keys s2.len s1.len hf g1 (λj hj=>ih j (by omega) (by omega));rw [Bj g1,Bj g1,e]
       by_cases g3:f.kind=3
       ·rw [Cj g3,Cj g3];unfold askV
        split
        ·rename_i q;obtain ⟨m2,em⟩:=roundO_ext (fcs fs (allW fs inp (qX fs inp os (r + 1)) os)) fs (qX fs inp os (r + 1));rw [show qX fs inp os (r + 2)=qX fs inp os (r + 1)++m2 from em];exact askL_app (hit i f hf g3 hl q)
        ·rfl
       ·rw [Bj g3,Bj g3]
     ·rw [Jq (by rw [s2.len]; exact hi),Jq (by rw [s1.len]; exact hi)]
   exact λi hl=>key (lv i + 1) i (by omega) hl
theorem Wh.answered (h:Wh fs inp ρ lv os) (hl:∀ i,i < fs.length -> lv i < fs.length):∀ x∈vR fs inp os fs.length,x.k≠4:=λx hx=>by
 obtain ⟨i,hi⟩:=Xk hx;have hlen:(vR fs inp os fs.length).length=fs.length:=(h.sol (h.orc fs.length)).1.len;have hil:i < fs.length:=by rw [<- hlen]; exact (Nj.1 hi).1
 exact (h.settled fs.length).1 i x hil (hl i hil) hi
open Classical in
theorem get_keep (R:List ByteArray) (s:ByteArray):∀ l:Env,Env.get (l.filter λp=>decide (p.1∈R)) s=if s∈R then l.get s else none
 | []=>by simp [Env.get]
 | (k,v) :: l=>by
  have ih:=get_keep R s l
  by_cases hk:k∈R
  ·rw [List.filter_cons_of_pos (by simpa using hk)]
   by_cases e:s=k
   ·subst e;rw [env_hit,env_hit,Cj hk]
   ·rw [env_miss _ _ e,env_miss _ _ e,ih]
  ·rw [List.filter_cons_of_neg (by simpa using hk),ih]
   by_cases hs:s∈R
   ·rw [Cj hs,Cj hs,env_miss _ _ (λe:s=k=>hk (e ▸ hs))]
   ·rw [Bj hs,Bj hs]
open Classical in
theorem eval_growsR {e1 e2:Env} {x:Ex} (h:∀ s∈qY x,∃ w v,e1.get s=some w /\ e2.get s=some v /\ Grows w v) (hx:WfE x):Grows (pK e1 x) (pK e2 x):=by
 have g1:pK e1 x=pK (e1.filter λp=>decide (p.1∈qY x)) x:=eval_local λs hs=>by rw [get_keep,Cj hs]
 have g2:pK e2 x=pK (e2.filter λp=>decide (p.1∈qY x)) x:=eval_local λs hs=>by rw [get_keep,Cj hs]
 rw [g1,g2];refine eval_grows (λs=>?_) hx;rw [get_keep,get_keep]
 by_cases hs:s∈qY x
 ·rw [Cj hs,Cj hs]; exact .inr (h s hs)
 ·rw [Bj hs,Bj hs]; exact .inl ⟨rfl,rfl⟩
end
theorem fcs_snoc:∀ {fs:List Fd} {vs:List Vl} (f:Fd) (v:Vl),vs.length=fs.length -> fcs (fs++[f]) (vs++[v])=fcs fs vs++[(f.name,v)]
 | [],[],f,v,_=>rfl
 | g :: fs,x :: vs,f,v,h=>by
  show _ :: fcs (fs++[f]) (vs++[v])=_;rw [fcs_snoc f v (by simpa using h)]; rfl
 | [],_ :: _,_,_,h=>by simp at h
 | _ :: _,[],_,_,h=>by simp at h
theorem fcs_ok {fs:List Fd} {vs:List Vl} (h:∀ x∈vs,OkV x):∀ p∈fcs fs vs,OkV p.2:=by
 induction fs generalizing vs with
 | nil=>intro p hp; cases hp
 | cons f fs ih =>
  cases vs with
  | nil=>intro p hp; cases hp
  | cons v vs =>
   intro p hp;rcases Tj.1 hp with rfl | hp
   ·exact h v (by simp)
   ·exact ih (λx hx=>h x (by simp [hx])) p hp
theorem facts_l (fs:List Fd) (va:List Vl) (A:Option Addr) (n c:Nat) (A1:Option Addr) (c1:Nat) (h:Vw) (hf:IsFds h (.slice A n c) fs) (hn:n=fs.length) (few:n <= 1000) (ha:RS h 3 (.slice A1 n c1) (gA va)) (la:va.length=n) :
  C0 Tryz.prog 59 #[.slice A n c,.slice A1 n c1] h (λr h'=>∃ u,r=sL u /\ RS h' 7 (sL u) (bQ (fcs fs va))):=by
 obtain ⟨vs,A',c',e,-,-,hr,hs,hvl,hsl⟩:=iQ hf;simp only [Jk] at e;obtain ⟨rfl,-,rfl⟩:=e;rw [<- hn] at hr hvl;have hfl:=λk (q:k <= n)=>fcs_len (fs:=fs.take k) (v:=va.take k) (by simp; omega);refine zQ Tryz.func59 λhbx hbad Q hQ=>?_;refine go0 19 [] [] ?_;refine lV 122 7 ?_;refine iV [0,1,0,1,1] [.block 0,.seq [1,1,1]] (λ(k:Nat) X=>∃ (W1:Vw) (v:Value),X W1 [(1,.slice A1 n c1),(8,.slice A n c),(9,Vi (n:Int)),(10,Vi (k:Int)),(5,v)] [.row v 122 7 (bQ (fcs (fs.take k) (va.take k)))] [] /\ Sees h W1 /\ (k <= n)) (λk=>n - k) (0) (λX q=>⟨h,(Vz),q _ _ _ _ ⟨rfl,by kernel_rfl⟩,Sees.refl _,Oj _⟩) ?_;rintro k a w ⟨W1,v,hJ,S2,hk⟩; refine mV hJ ?_; clear hJ a w;refine go0 6 [] [] ?_;rcases (by omega:k < n\/k=n) with hlt | hke
 ·obtain ⟨x,hx⟩:∃ x,fs[k]?=some x:=⟨_,Fj (by omega)⟩;obtain ⟨u,hu⟩:∃ u,vs[k]?=some u:=⟨_,Fj (by omega)⟩;obtain ⟨xa,hxa⟩:∃ y,va[k]?=some y:=⟨_,Fj (by omega)⟩;have hrow:=eQ hx hu;have hra:=vlRows_get hxa;obtain ⟨Au,nu,cu,rfl⟩:=(AllArgs.get hs (x:=x.src) (by rw [Mj,hx]; rfl) hu).slice;have hsn:=fcs_snoc (fs:=fs.take k) (vs:=va.take k) x xa (by simp; omega);rw [<- wZ _ k x hx, <- wZ _ k xa hxa] at hsn;have hl2:=hfl k hk;rw [Kk] at hl2;have hl3:(bQ (fcs (fs.take k) (va.take k))).length=(fcs (fs.take k) (va.take k)).length:=Hj _;refine rV (t:=decide ((k:Int) < (n:Int))) (Jj (by omega)) ?_;refine go0 7 [] [] ?_;obtain ⟨b3,o4,rfl,-,c5⟩:=RS.row hr (hrow);refine aV (c5.sees S2) ?_;refine go1 16 [.ix b3 o4 n c k,.f 0 0,.own,.b 0 0] [(18,.bool (decide ((k:Int) < (n:Int))),.bool true)] ?_ (ho:=(Aj (by first | omega | (simp; omega)) (trivial))) (hc:=(Aj (Dj Value.bool (Jj (by omega))) (trivial)));intro b6;obtain ⟨b7,o8,rfl,-,c9⟩:=RS.row ha (hra);refine aV (c9.sees S2) ?_;refine oV 11 0 [.pu,.pu,.ld 0 0,.pu,.pu,.v (λgh=>.pointer (some ⟨b7,o8 + k * 3,none⟩)),.lf 0 0,.pu,.f (λgh=>.slice (some ⟨(xJ (gh 8)),0,none⟩) 1 1) (λgh hh=>Cells hh (xJ (gh 8)) 0 [Vt x.name,Vi 0,Vi 0,Ve,Vi xa.k,Vi xa.n,.string xa.s]),.e (λgh=>sL (gh 9)) 1 (λgh=>.row (sL (gh 9)) 122 7 ((bQ (fcs (fs.take k) (va.take k)))++[[Vt x.name,Vi 0,Vi 0,Ve,Vi xa.k,Vi xa.n,.string xa.s]])),.pu] [(8,true),(9,false)] (Aj (λ_ _ _ s c=>c.sees s) (trivial)) ?_ ?_
  ·intro R hT hA hmono;refine Aj (vZ hT hA b7 o8 n c1 k (λgh=>.pointer (some ⟨b7,o8 + k * 3,none⟩)) (by first | omega | (simp; omega))) ?_;refine Aj (mY hT hA hmono 27 (λg=>Vs g 1 1) [7] 8 (λgh=>[Vt x.name,Vi 0,Vi 0,Ve,Vi xa.k,Vi xa.n,.string xa.s]) 122 (λgh zb zH zc zj zq zhq zhe=>tX (i:=8) (k:=0) (f:=λgh hh=>Cells hh (xJ (gh 8)) 0 [Vt x.name,Vi 0,Vi 0,Ve,Vi xa.k,Vi xa.n,.string xa.s]) zc zj zq zhq zhe)) ?_;refine Aj (kY hT hA hmono 28 [0,8] 9 1 (GN R 1) (λgh=>v) 32 122 7 (λgh=>bQ (fcs (fs.take k) (va.take k))) (λgh=>[[Vt x.name,Vi 0,Vi 0,Ve,Vi xa.k,Vi xa.n,.string xa.s]]) (.tmp 19) (.tmp 27) (λgh=>(xJ (gh 8))) 1 1 0 8 (λgh hh=>Cells hh (xJ (gh 8)) 0 [Vt x.name,Vi 0,Vi 0,Ve,Vi xa.k,Vi xa.n,.string xa.s]) (λ_ _ c=>c) Tryz.underlying32 (zv:=.agg #[Ve,Vi 0,Vi 0,Ve,Vi 0,Vi 0,Ve]) (bytes:=80) (λ_=>by constructor <;> (simp; omega))) ?_
   trivial
  rintro b11 v28 W12 S13 ⟨f10,-⟩;replace f10:Cells W12 b11 0 [Vt x.name,Vi 0,Vi 0,Ve,Vi xa.k,Vi xa.n,.string xa.s]:=f10;refine aV f10 ?_;refine go0 6 [] [(29,Vi (IntKind.i64.wrap ((k:Int) + 1)),Vi ((k:Int) + 1))] ?_ (hc:=(Aj (jJ (by omega) (by omega)) (trivial)));refine fV [(1,.slice (some ⟨b7,o8,none⟩) n c1),(8,.slice (some ⟨b3,o4,none⟩) n c),(9,Vi (n:Int)),(5,sL v28),(10,Vi ((k:Int) + 1))] [.row (sL v28) 122 7 ((bQ (fcs (fs.take k) (va.take k)))++[[Vt x.name,Vi 0,Vi 0,Ve,Vi xa.k,Vi xa.n,.string xa.s]])] [] ?_;exact qV (k + 1) (λX q=>⟨W12,sL v28,q _ _ _ _ (fZ (by rw [hsn,fcRows_snoc]; try rfl)),(S2.trans S13),by omega⟩)
 ·skip;have t1:fs.take k=fs:=by rw [hke,hn,Pk]
  have t2:va.take k=va:=by rw [hke, <- la,Pk]
  rw [t1,t2];have hrl:(bQ (fcs fs va)).length=(fcs fs va).length:=Hj _;refine dV 0 (v:=v) (e:=122) (kk:=7) (l:=bQ (fcs fs va)) ?_; intro Ar cr hE_v hc_v hm_v;rw [show (bQ (fcs fs va)).length=(fcs fs va).length from by first | omega | (simp; done) | (simp; omega)] at hE_v hc_v;rw [hE_v];refine cV (t:=decide ((k:Int) < (n:Int))) (Kj (by omega)) ?_;refine go0 2 [] [] ?_;refine gV ?_;refine go0 9 [] [] ?_;refine fV [(4,.slice Ar ((fcs fs va).length) cr)] [.row (.slice Ar ((fcs fs va).length) cr) 122 7 (bQ (fcs fs va))] [] ?_;refine hQ.toJ [.slice Ar ((fcs fs va).length) cr] [] (λa w hJ=>?_);have fr:=hJ.j.rowOut0 (v:=.slice Ar ((fcs fs va).length) cr) (e:=122) (k:=7) (l:=bQ (fcs fs va)) 0 (by kernel_rfl) rfl;exact ⟨.slice Ar (fcs fs va).length cr,rfl,fr⟩
theorem run_rem9 {P:Program} {t:TypeId} (a:Int) (w:World):(binOp .rem t (Vi a) (Vi 9)).run P w=.ok (Vi (Int.tmod a 9)) w:=by
 simp [binOp,Op.intDiv]
theorem run_hiS {P:Program} {o:Oper} {ρ:Operand -> Value} {t:TypeId} {x y:Operand} {s:ByteArray} {k:Int} (w:World) (ho:o.op=.slice t x none (some y) none) (hx:ρ x=.string s) (hy:ρ y=Vi k) (h0:0 <= k) (hk:k <= s.size) (ht:P.underlying t=some .string) :
  (execOp ρ o).run P w=.ok (.value (Vt (s.extract 0 k.toNat))) w:=by
 unfold execOp;simp only [ho,hx,hy,Sq,Option.map_none];simp [run_sliceAt_string (w:=w) t _ _ _ _ ht,run_slice_string_h (w:=w) t s ht .i64 k h0 hk]
theorem answered_any (f:Fd) (A:Option Addr) (n c:Nat) (key:Vl) (h:Vw) (hn:f.name.size <= 10) (hk:key.s.size <= 40) (t1:1 <= f.ty) (t3:f.ty <= 3):C0 Tryz.prog 55 #[.agg #[Vt f.name,Vi f.kind,Vi f.ty,Vi f.src.op,Vi f.src.k,Vi f.src.n,.string f.src.s,.string f.src.nm,.slice A n c],.agg #[Vi key.k,Vi key.n,.string key.s]] h (λr _=>r=(ansV f key).val):=by
 have hr:=ansN_lo f key hn hk;have hp2:=λH=>bK (ansN f key) 2 H (by omega) (by omega) (by omega) (by omega);have hp9:=λH=>bK (ansN f key) 9 H (by omega) (by omega) (by omega) (by omega);have p0:=eY (ansN f key) 9 (by omega);have p1:=dY (ansN f key) 9 (by omega);have habc:abcB.size=9:=rfl;have e:ansN f key=Int.tmod key.n 9 + 3 * (key.s.size:Int) + (f.name.size:Int):=rfl;have hs0:(0:Int) <= (key.s.size:Int):=Int.natCast_nonneg _;have hrem:key.n % 9=key.n % 9:=rfl;obtain g | g | g:f.ty=1\/f.ty=2\/f.ty=3:=by omega
 ·have ea:ansV f key=⟨1,ansN f key,⟨#[]⟩⟩:=by unfold ansV; rw [Cj g]
  rw [ea];generalize ansN f key=N at *;refine zQ Tryz.func55 λhbx hbad Q hQ=>?_;refine go3 11 [.own,.own,.own,.b 1 1] [] ?_;intro b1 b2 b3;refine nV (Vi (Int.tmod key.n 9)) (λw=>run_bin' (op:=.rem) (t:=3) (x:=(.tmp 7)) (y:=(.const (Vi 9))) (yt:=3) (run_rem9 key.n w)) ?_;refine go0 37 [.b 1 2,.b 2 0,.b 2 2,.b 0 0] [(12,Vi (IntKind.i64.wrap (3 * (key.s.size:Int))),Vi (3 * (key.s.size:Int))),(13,Vi (IntKind.i64.wrap (Int.tmod key.n 9 + (3 * (key.s.size:Int)))),Vi (Int.tmod key.n 9 + (3 * (key.s.size:Int)))),(17,Vi (IntKind.i64.wrap ((Int.tmod key.n 9 + (3 * (key.s.size:Int))) + (f.name.size:Int))),Vi N),(21,.bool (f.ty == 1),.bool true)] ?_ (hc:=(Aj (jJ (by omega) (by omega)) (Aj (jJ (by omega) (by omega)) (Aj ((jJ (by omega) (by omega)).trans (Dj (Value.int .i64) e.symm)) (Aj (Dj Value.bool (Yj.2 g)) (trivial))))));refine hQ.to [.agg #[Vi 1,Vi N,Ve]] (λH sH=>?_) (ix:=[0]);exact rfl
 ·have ea:ansV f key=⟨2,cJ (ansN f key) 2,⟨#[]⟩⟩:=by unfold ansV; rw [Bj (by omega),Cj g]
  rw [ea];generalize ansN f key=N at *;refine zQ Tryz.func55 λhbx hbad Q hQ=>?_;refine go3 11 [.own,.own,.own,.b 1 1] [] ?_;intro b1 b2 b3;refine nV (Vi (Int.tmod key.n 9)) (λw=>run_bin' (op:=.rem) (t:=3) (x:=(.tmp 7)) (y:=(.const (Vi 9))) (yt:=3) (run_rem9 key.n w)) ?_;refine go0 45 [.b 1 2,.b 2 0,.b 2 2,.cl 37 #[Vi N,Vi 2] (Vi (cJ N 2)),.b 0 0] [(12,Vi (IntKind.i64.wrap (3 * (key.s.size:Int))),Vi (3 * (key.s.size:Int))),(13,Vi (IntKind.i64.wrap (Int.tmod key.n 9 + (3 * (key.s.size:Int)))),Vi (Int.tmod key.n 9 + (3 * (key.s.size:Int)))),(17,Vi (IntKind.i64.wrap ((Int.tmod key.n 9 + (3 * (key.s.size:Int))) + (f.name.size:Int))),Vi N),(21,.bool (f.ty == 1),.bool false),(25,.bool (f.ty == 2),.bool true)] ?_ (ho:=(Aj (λH sH=>hp2 _) (trivial))) (hc:=(Aj (jJ (by omega) (by omega)) (Aj (jJ (by omega) (by omega)) (Aj ((jJ (by omega) (by omega)).trans (Dj (Value.int .i64) e.symm)) (Aj (Dj Value.bool (Lj.2 (by omega))) (Aj (Dj Value.bool (Yj.2 g)) (trivial)))))));refine hQ.to [.agg #[Vi 2,Vi (cJ N 2),Ve]] (λH sH=>?_) (ix:=[0]);exact rfl
 ·have ea:ansV f key=⟨3,0,f.name++abcB.extract 0 (cJ (ansN f key) 9).toNat⟩:=by unfold ansV; rw [Bj (by omega),Bj (by omega)]
  rw [ea];have hcut:=λ(ρ:Operand -> Value) (o:Oper) (x y:Operand) (w:World) q1 q2 q3=>run_hiS (P:=Tryz.prog) (o:=o) (ρ:=ρ) (t:=9) (x:=x) (y:=y) (s:=abcB) (k:=cJ (ansN f key) 9) w q1 q2 q3 p0 (by rw [habc]; omega) Tryz.underlying9;generalize ansN f key=N at *;generalize cJ N 9=q at *;have hcs:=(abc_print q.toNat).1;refine zQ Tryz.func55 λhbx hbad Q hQ=>?_;refine go3 11 [.own,.own,.own,.b 1 1] [] ?_;intro b1 b2 b3;refine nV (Vi (Int.tmod key.n 9)) (λw=>run_bin' (op:=.rem) (t:=3) (x:=(.tmp 7)) (y:=(.const (Vi 9))) (yt:=3) (run_rem9 key.n w)) ?_;refine go0 38 [.b 1 2,.b 2 0,.b 2 2] [(12,Vi (IntKind.i64.wrap (3 * (key.s.size:Int))),Vi (3 * (key.s.size:Int))),(13,Vi (IntKind.i64.wrap (Int.tmod key.n 9 + (3 * (key.s.size:Int)))),Vi (Int.tmod key.n 9 + (3 * (key.s.size:Int)))),(17,Vi (IntKind.i64.wrap ((Int.tmod key.n 9 + (3 * (key.s.size:Int))) + (f.name.size:Int))),Vi N),(21,.bool (f.ty == 1),.bool false),(25,.bool (f.ty == 2),.bool false)] ?_ (hc:=(Aj (jJ (by omega) (by omega)) (Aj (jJ (by omega) (by omega)) (Aj ((jJ (by omega) (by omega)).trans (Dj (Value.int .i64) e.symm)) (Aj (Dj Value.bool (Lj.2 (by omega))) (Aj (Dj Value.bool (Lj.2 (by omega))) (trivial)))))));refine oV 8 0 [.pu,.ld 2 0,.pu,.v (λgh=>Vi q),.v (λgh=>.string (abcB.extract 0 q.toNat)),.v (λgh=>.string (f.name++abcB.extract 0 q.toNat)),.pu,.st 0 0] [] (trivial) ?_ ?_
  ·intro R hT hA hmono;refine Aj (t_v hT hA hmono (k:=37) (args:=(λgh=>#[Vi N,Vi 9])) (f:=λgh=>Vi q) (λgh H sH fH lent=>hp9 _)) ?_;refine Aj (t_p hT hA (λgh=>.string (abcB.extract 0 q.toNat)) (λgh w=>hcut _ _ (.const (Vt abcB)) (.tmp 32) w (by kernel_rfl) (by kernel_rfl) (by kernel_rfl))) ?_;refine Aj (t_p hT hA (λgh=>.string (f.name++abcB.extract 0 q.toNat)) (λgh w=>run_bin' (op:=.add) (t:=9) (x:=(.tmp 30)) (y:=(.tmp 33)) (yt:=9) (run_cat (by omega)))) ?_
   trivial
  rintro W4 S5 -;refine go0 2 [] [] ?_;refine hQ.to [.agg #[Vi 3,Vi 0,.string (f.name++abcB.extract 0 q.toNat)]] (λH sH=>?_) (ix:=[0]);exact rfl
theorem told_kind {fs:List Fd} (hok:OkFs fs) {k:Nat} {g:Fd} (hg:fs[k]?=some g):zZ fs g.name g.ty=if g.kind=1 then 0 else 2:=by
 have hfd:=mQ hok.nodup hg;unfold zZ;rw [hfd,Bj (by omega)];simp only [Int.toNat_natCast,hg]
 split <;> simp
theorem c_cat {la lb:List Lt} (hl:la.length + lb.length <= 1000000) (va vb:Value) (b:Nat) (h:Vw) (ha:RS h 8 va (oW la)) (hb:RS h 8 vb (oW lb)) (hc:Cells h b 0 [va,vb]) :
  C0 Tryz.prog 17 #[.slice (some ⟨b,0,none⟩) 2 2] h (λr h'=>∃ u,r=.slice (sA u) (la++lb).length (sC u) /\ RS h' 8 (.slice (sA u) (la++lb).length (sC u)) (oW (la++lb))):=by
 refine (c_concatT (rs_cells (k:=1) [[va],[vb]] (λr hr=>by simp at hr; rcases hr with rfl | rfl <;> rfl) (show (2:Nat) <= maxLen by decide) hc) ha hb hl).mono λv h' _=>?_;rintro ⟨u,rfl,k⟩;obtain ⟨A,c,e,-⟩:=k.form;rw [Hj] at e;rw [e] at k ⊢;exact ⟨.slice A (la++lb).length c,rfl,k⟩
theorem begE_m (l:List RawD) {p:Pol} (hp:p.ok):MOk (pQ l) p (rhoL (xW (pQ l).fields)) (lvF l) 0 (begE l p) (begL l p):=by
 have h0:=newE_ok (form_okFm l) (form_one l) hp;obtain ⟨f1,f2,f3⟩:=setE_few h0;have e:(zW (pQ l) p).last=0:=rfl;refine ⟨begE_ok l hp,begE_settled l hp,rfl,rfl,by show (0:Int) <= _; omega,by show (gZ (zW (pQ l) p) _).last <= _; omega,Ij 0,by show (gZ (zW (pQ l) p) _).out.length <= _; omega,λx hx=>?_⟩;obtain ⟨a,-,c⟩:=setE_out h0 x hx;exact ⟨a,c⟩
theorem take_notin {os:List Nat} (hn:os.Nodup) {t i:Nat} (ht:os[t]?=some i):i ∉ os.take t:=λq=>by
 obtain ⟨htl,-⟩:=Nj.1 ht;obtain ⟨u,hu⟩:=Xk q;have hut:u < t:=by
  rcases Xq u t with q | q
  ·exact q
  ·rw [Jq (by rw [Kk]; omega)] at hu; cases hu
 rw [List.getElem?_take_of_lt hut] at hu
 have:=(Xw (by omega) hn).1 (hu.trans ht.symm)
 omega
theorem set_call {E:Eg} {ρ:List Int} {lv:Nat -> Nat} (hok:EgOk E ρ lv) (hl:(gZ E ρ).last <= 1073741810) {i:Nat} {f:Fd} {c:Cl} (hf:E.fm.fields[i]?=some f) (h3:f.kind=3) (hc:E.calls[i]?=some c) :
  ∃ id,E.last < id /\ (hZ E ρ).calls[i]?=some (bA E.pol id E.now (pK (fcs E.fm.fields (hZ E ρ).vals) f.src) c).1:=by
 have few:=hok.fm.fields.few;have one:=hok.one;have l1:=hok.l1;have hod:Ordd E.fm.fields ρ lv (rX ρ E.fm.fields.length):=sX hok.fm.rank (by omega);have hnd:=ordL_nodup hod;have hil:=(Nj.1 hf).1;obtain ⟨t,ht⟩:=Xk (hod.perm.mem_iff.2 (Qk.2 hil));have htl:=(Nj.1 ht).1;have hok':=settE_ok hok hl;have hse':=iZ hok;obtain ⟨hkn,hv⟩:=settled_all hok' hse';have ev:=(ev_turn hok'.fm.fields hok'.ki (orcC_has hok'.calls) hod ht hf (by omega)).1;have hkn:=hkn t (by show t <= (rX ρ E.fm.fields.length).length; omega);have ev:pK (cZ E.fm.fields E.inp (orcC E.fm.fields (hZ E ρ).calls) ((rX ρ E.fm.fields.length).take t)).2 f.src=pK (fcs E.fm.fields (hZ E ρ).vals) f.src:=by rw [hv]; exact ev
 have hfx:=runS_fix E.fm.fields E.pol E.now E.inp ⟨E.calls,E.vals,[],E.last,[]⟩ hnd hok.calls.len hok.vlen rfl E.now (gZ E ρ).last t (by omega);have hkn:(cZ E.fm.fields E.inp (orcC E.fm.fields (hZ E ρ).calls) ((rX ρ E.fm.fields.length).take t)).2=(bZ E.fm.fields E.pol E.now E.inp ⟨E.calls,E.vals,[],E.last,[]⟩ ((rX ρ E.fm.fields.length).take t)).kn:=by
  have hk2:=Dj Sst.kn hfx;exact hkn.trans hk2
 rw [hkn] at ev;have I:=runS_inv (s0:=⟨E.calls,E.vals,[],E.last,[]⟩) (os:=rX ρ E.fm.fields.length) hok.pol hok.fm.fields hok.ki hok.n0 hok.n1 hok.calls hok.vlen rfl hok.l0 (by rw [hod.len]; show E.last + _ <= _; omega) (λi q=>hod.lt q) t (by omega);have hfin:=(run_final E.fm.fields E.pol E.now E.inp ⟨E.calls,E.vals,[],E.last,[]⟩ hnd ht).1;rw [runS_at _ _ _ _ _ _ t i ht] at hfin;have hsm:=I.same i (take_notin hnd ht);have hlo:=I.lo;have hlen:=I.calls.len;simp only at hsm hlo;generalize bZ E.fm.fields E.pol E.now E.inp ⟨E.calls,E.vals,[],E.last,[]⟩ ((rX ρ E.fm.fields.length).take t)=s at *;rw [hc] at hsm;rw [oZ hf h3 hsm ev rfl] at hfin;simp only at hfin;rw [Wq (by omega)] at hfin;exact ⟨s.last + 1,by omega,hfin⟩
structure Lst (fm:Fm) (p:Pol) (ρ:List Int) (lv:Nat -> Nat) (m:Nat) (E:Eg):Prop where
 ok:EgOk E ρ lv
 se:Settled E ρ
 efm:E.fm=fm
 epol:E.pol=p
 inp:E.inp=[]
 now:E.now <= p.c * m
 last:E.last <= 14 + 14 * m
 soon:∀ c∈E.calls,c.st=1 -> c.nx <= E.now + p.c
 idle:∀ (i:Nat) (f:Fd) (c:Cl),fm.fields[i]?=some f -> f.kind≠3 -> E.calls[i]?=some c -> c=clZ
section
variable {fm:Fm} {p:Pol} {ρ:List Int} {lv:Nat -> Nat} {E:Nat -> Eg}
end
theorem none_pending {E:Eg} {ρ:List Int} {lv:Nat -> Nat} (hok:EgOk E ρ lv) (hse:Settled E ρ) (hn:∀ c∈E.calls,c.st≠1):∀ x∈E.vals,x.k≠4:=by
 have S:=settled_sol hok hse;have key:∀ d (i:Nat) (x:Vl),lv i < d -> E.vals[i]?=some x -> x.k≠4:=λd=>by
  induction d with
  | zero=>intro i x h; omega
  | succ d ih =>
   intro i x hd hx;have hil:i < E.fm.fields.length:=by rw [<- hok.vlen]; exact (Nj.1 hx).1
   obtain ⟨f,hf⟩:∃ f,E.fm.fields[i]?=some f:=⟨_,Fj hil⟩;have hF:=hok.fm.fields.each f (Ej hf)
   by_cases k1:f.kind=1
   ·rw [S.sol.at_ i f x hf hx];unfold iX;rw [Cj k1]
    have:=tell_ok hok.ki f.name hF.t1 hF.t3
    rcases this with ⟨e,-⟩ | ⟨e,-⟩ | ⟨e,-⟩ <;> omega
   ·have he:(pK (fcs E.fm.fields E.vals) f.src).k≠4:=ev_n4 (hF.wf k1).1 λs hs v hv=>by
     obtain ⟨j,g,g1,g2,g3⟩:=tY hok.fm.fields hf k1 hs;have hl:=(hok.fm.rank.low i (by rw [yW]; exact hil) j g3).2;obtain ⟨a,ha⟩:∃ a,E.vals[j]?=some a:=⟨_,Fj (by rw [hok.vlen]; exact (Nj.1 g1).1)⟩;rw [<- g2,cQ hok.fm.fields.nodup g1 ha] at hv;rw [<- Zj hv];exact ih j a (by omega) ha
    by_cases h3:f.kind=3
    ·obtain ⟨c,hc⟩:∃ c,E.calls[i]?=some c:=⟨_,Fj (by rw [hok.calls.len]; exact hil)⟩;have v:=(S.call i f c hf h3 hc).2.2;rw [hx] at v;rw [Zj v];have hco:=(hok.calls.at_ i f c hf hc).1;unfold mW
     by_cases s0:c.st=0
     ·rw [Cj s0]; exact he
     ·rw [Bj s0];have hb:=hco.live s0;have s1:=hb.s1;have s3:=hb.s3
      have:=hn c (Ej hc)
      unfold ansC
      by_cases s2:c.st=2
      ·rw [Cj s2];rcases (hb.knw s2).1 with ⟨e,-⟩ | ⟨e,-⟩ | ⟨e,-⟩ <;> omega
      ·rw [Bj s2,Cj (by omega)]; show (5:Int)≠4; decide
    ·rw [S.sol.at_ i f x hf hx];unfold iX;rw [Bj k1,Bj h3];exact he
 intro x hx;obtain ⟨i,hi⟩:=Xk hx;exact key (lv i + 1) i x (by omega) hi
theorem grows_refl (v:Vl):Grows v v:=.inr (.inl rfl)
theorem hear_keeps {E:Eg} {ρ:List Int} {lv:Nat -> Nat} (hok:EgOk E ρ lv) (hse:Settled E ρ) {i0:Nat} {f0:Fd} {x:Lt} {c0:Cl} (hf0:E.fm.fields[i0]?=some f0) (hc0:E.calls[i0]?=some c0) (hx:OkV x.ans) (ht:Takes f0 x c0) (hl:(gZ (xV E i0 x c0) ρ).last <= 1073741810) :
  ∀ d (i:Nat) (f:Fd),lv i < d -> E.fm.fields[i]?=some f -> (∀ a b,E.vals[i]?=some a -> (hZ (xV E i0 x c0) ρ).vals[i]?=some b -> Grows a b) /\
   (f.kind=3 -> ∀ c,(xV E i0 x c0).calls[i]?=some c -> (c.st≠0 -> (hZ (xV E i0 x c0) ρ).calls[i]?=some c) /\ (c.st=0 -> (hZ (xV E i0 x c0) ρ).calls[i]?=some clZ\/∃ id key nx,E.last < id /\ (hZ (xV E i0 x c0) ρ).calls[i]?=some ⟨1,id,1,key,zV,nx⟩)):=λd=>by
 have hok1:=hearE_ok hok hf0 hc0 hx ht;have S:=settled_sol hok hse;have S2:=settled_sol (settE_ok hok1 hl) (iZ hok1);have hv2:=(settE_ok hok1 hl).vlen
 induction d with
 | zero=>intro i f h; omega
 | succ d ih =>
  intro i f hd hf;have hF:=hok.fm.fields.each f (Ej hf);have hil:=(Nj.1 hf).1;have hg:f.kind≠1 -> Grows (pK (fcs E.fm.fields E.vals) f.src) (pK (fcs E.fm.fields (hZ (xV E i0 x c0) ρ).vals) f.src):=λk1=>by
   refine eval_growsR (λs hs=>?_) (hF.wf k1).1;obtain ⟨j,g,g1,g2,g3⟩:=tY hok.fm.fields hf k1 hs;have hlj:=(hok.fm.rank.low i (by rw [yW]; exact hil) j g3).2;have hjl:=(Nj.1 g1).1;obtain ⟨a,ha⟩:∃ a,E.vals[j]?=some a:=⟨_,Fj (by rw [hok.vlen]; exact hjl)⟩;obtain ⟨b,hb⟩:∃ b,(hZ (xV E i0 x c0) ρ).vals[j]?=some b:=⟨_,Fj (by rw [hv2]; exact hjl)⟩;exact ⟨a,b,by rw [<- g2]; exact cQ hok.fm.fields.nodup g1 ha,by rw [<- g2]; exact cQ hok.fm.fields.nodup g1 hb,(ih j g (by omega) g1).1 a b ha hb⟩
  by_cases h3:f.kind=3
  ·have hg:=hg (by omega);obtain ⟨c,hc⟩:∃ c,E.calls[i]?=some c:=⟨_,Fj (by rw [hok.calls.len]; exact hil)⟩;obtain ⟨c1,hc1⟩:∃ c,(xV E i0 x c0).calls[i]?=some c:=⟨_,Fj (by rw [hok1.calls.len]; exact hil)⟩;obtain ⟨id,hid,e2⟩:=set_call hok1 hl hf h3 hc1;obtain ⟨s1,s2,s3⟩:=S.call i f c hf h3 hc;have e2:(hZ (xV E i0 x c0) ρ).calls[i]?=some (bA E.pol id E.now (pK (fcs E.fm.fields (hZ (xV E i0 x c0) ρ).vals) f.src) c1).1:=e2;obtain ⟨c2,hc2⟩:∃ c2,(hZ (xV E i0 x c0) ρ).calls[i]?=some c2:=⟨_,e2⟩;have s3':=(S2.call i f c2 hf h3 hc2).2.2;have s3':(hZ (xV E i0 x c0) ρ).vals[i]?=some (mW (pK (fcs E.fm.fields (hZ (xV E i0 x c0) ρ).vals) f.src) c2):=s3';have ko:=ok_kinds (qK (get_ok (fcs_ok (fs:=E.fm.fields) S.ok)) _ f.src (Ij _) (hF.wf (by omega)).1);generalize pK (fcs E.fm.fields E.vals) f.src=key at *;generalize pK (fcs E.fm.fields (hZ (xV E i0 x c0) ρ).vals) f.src=key2 at *;have h01:c1=c\/(i=i0 /\ c.st=1 /\ c1=heardC x c):=by
    have hc1:(E.calls.set i0 (heardC x c0))[i]?=some c1:=hc1;rcases set_at hc1 with ⟨rfl,rfl⟩ | ⟨-,q⟩
    ·rw [hc0] at hc;obtain rfl:=Zj hc;exact .inr ⟨rfl,ht.1,rfl⟩
    ·rw [hc] at q;exact .inl (Zj q).symm
   have hst:c1.st≠0↔c.st≠0:=by
    rcases h01 with rfl | ⟨-,q,rfl⟩
    ·exact Iff.rfl
    ·exact ⟨λ_=>by omega,λ_=>by show (2:Int)≠0; decide⟩
   have hky:c1.key=c.key:=by
    rcases h01 with rfl | ⟨-,-,rfl⟩ <;> rfl
   by_cases hk:key.k <= 3
   ·obtain ⟨a1,a2⟩:=s1 hk;have ek:key2=key:=by
     rcases hg with q | q | ⟨-,q⟩
     ·omega
     ·exact q
     ·omega
    rw [ek,fA hk (hst.2 a1) (eqB_iff.2 (hky.trans a2))] at e2;have e2:(hZ (xV E i0 x c0) ρ).calls[i]?=some c1:=e2;rw [hc2] at e2;obtain rfl:=Zj e2;refine ⟨λa b ha hb=>?_,λ_ c' hc'=>?_⟩
    ·rw [s3] at ha;rw [s3',ek] at hb;rw [<- Zj ha, <- Zj hb];rcases h01 with rfl | ⟨-,q,-⟩
     ·exact grows_refl _
     ·refine .inl ?_;unfold mW ansC;rw [Bj a1,Bj (by omega),Bj (by omega)]
    ·rw [hc1] at hc';rw [<- Zj hc'];exact ⟨λ_=>hc2,λq=>absurd q (hst.2 a1)⟩
   ·have hz:=s2 hk;have e0:c1=clZ:=by
     rcases h01 with rfl | ⟨-,q,-⟩
     ·exact hz
     ·rw [hz] at q; exact absurd (show (0:Int)=1 from q) (by decide)
    refine ⟨λa b ha hb=>?_,λ_ c' hc'=>?_⟩
    ·rw [s3,hz] at ha;rw [<- Zj ha];have ea:mW key clZ=key:=rfl;rw [ea]
     by_cases k4:key.k=4
     ·exact .inl k4
     ·have k5:key.k=5:=by omega
      have k5':key2.k=5:=by
       rcases hg with q | q | ⟨q,-⟩
       ·omega
       ·rw [q]; exact k5
       ·exact q
      have e3:c2=clZ:=by
       rw [eAz (by omega)] at e2;rw [hc2] at e2;exact Zj e2
      rw [s3',e3] at hb;rw [<- Zj hb];exact .inr (.inr ⟨k5',k5⟩)
    ·rw [hc1] at hc';rw [<- Zj hc',e0];refine ⟨λq=>absurd rfl q,λ_=>?_⟩;rw [e2,e0]
     by_cases hk2:key2.k <= 3
     ·rw [dA hk2 (λq=>q.1 rfl)];exact .inr ⟨_,_,_,hid,rfl⟩
     ·rw [eAz hk2];exact .inl rfl
  ·refine ⟨λa b ha hb=>?_,λq=>absurd q h3⟩;rw [S.sol.at_ i f a hf ha,S2.sol.at_ i f b hf hb];show Grows (iX f E.inp _ _) (iX f E.inp _ (fcs E.fm.fields (hZ (xV E i0 x c0) ρ).vals));unfold iX
   by_cases k1:f.kind=1
   ·rw [Cj k1,Cj k1]; exact grows_refl _
   ·rw [Bj k1,Bj k1,Bj h3,Bj h3];exact hg k1
structure OutI (fs:List Fd) (l0:Int) (s:Sst):Prop where
 iff:∀ x,x∈s.out↔∃ (j:Nat) (f:Fd) (c:Cl),fs[j]?=some f /\ s.calls[j]?=some c /\ c.st=1 /\ l0 < c.id /\ x=ltOf f.name c
 pw:s.out.Pairwise (λx y=>x.nm≠y.nm)
theorem name_inj {fs:List Fd} (hd:(fs.map (λf:Fd=>f.name)).Nodup) {i j:Nat} {f g:Fd} (hf:fs[i]?=some f) (hg:fs[j]?=some g) (e:f.name=g.name):i=j:=by
 have e1:=mQ hd hf;have e2:=mQ hd hg;rw [e,e2] at e1;omega
theorem outI_run {fs:List Fd} {p:Pol} {now:Int} {inp:Env} {s0:Sst} {os:List Nat} (hp:p.ok) (hok:OkFs fs) (ki:∀ q∈inp,q.2.known) (n0:0 <= now) (n1:now <= 1073741824) (h0:CallsOk fs p s0.last s0.calls) (v0:s0.vals.length=fs.length) (k0:s0.kn=[]) (l0:0 <= s0.last) (l1:s0.last + os.length <= 1073741824) (hlt:∀ i∈os,i < fs.length) (hn:os.Nodup) (ho:s0.out=[]) :
  ∀ t,t <= os.length -> OutI fs s0.last (bZ fs p now inp s0 (os.take t))
 | 0,_=>by
  show OutI fs s0.last s0;refine ⟨λx=>?_,by rw [ho]; exact .nil⟩;rw [ho];refine ⟨λq=>(by cases q),?_⟩;rintro ⟨j,f,c,hf,hc,h1,h2,-⟩
  have:=((h0.at_ j f c hf hc).2.1 (by omega)).2
  omega
 | t + 1,ht=>by
  have I:=runS_inv hp hok ki n0 n1 h0 v0 k0 l0 l1 hlt t (by omega);have ih:=outI_run hp hok ki n0 n1 h0 v0 k0 l0 l1 hlt hn ho t (by omega);obtain ⟨i,hti⟩:∃ i,os[t]?=some i:=⟨_,Fj (by omega)⟩;have hil:=hlt i (Ej hti);obtain ⟨f,hf⟩:∃ f,fs[i]?=some f:=⟨_,Fj hil⟩;have hsm:=I.same i (take_notin hn hti);rw [runS_at fs p now inp s0 os t i hti];have hlo:=I.lo;have hlen:=I.calls.len;generalize bZ fs p now inp s0 (os.take t)=s at *
  by_cases h3:f.kind=3
  ·obtain ⟨c,hc⟩:∃ c,s.calls[i]?=some c:=⟨_,Fj (by omega)⟩;have hc0:=hsm.symm.trans hc;have hold:c.st≠0 -> c.id <= s0.last:=λq=>((h0.at_ i f c hf hc0).2.1 q).2;rw [oZ hf h3 hc rfl rfl];have hno:∀ (d:Cl),(d.st=1 -> d.id <= s0.last) -> OutI fs s0.last ⟨s.calls.set i d,s.vals.set i (mW (pK s.kn f.src) d),s.kn++[(f.name,mW (pK s.kn f.src) d)],s.last,s.out⟩:=λd hd=>by
    refine ⟨λx=>(ih.iff x).trans ⟨?_,?_⟩,ih.pw⟩
    ·rintro ⟨j,g,e,hg,he,q1,q2,q3⟩;refine ⟨j,g,e,hg,?_,q1,q2,q3⟩;show (s.calls.set i d)[j]?=some e;have hne:i≠j:=λq=>by
      rw [<- q,hc] at he;rw [<- Zj he] at q1 q2
      have:=hold (by omega)
      omega
     rw [Vv hne]; exact he
    ·rintro ⟨j,g,e,hg,he,q1,q2,q3⟩;rcases set_at he with ⟨rfl,rfl⟩ | ⟨-,he⟩
     ·have:=hd q1; omega
     ·exact ⟨j,g,e,hg,he,q1,q2,q3⟩
   by_cases hk:(pK s.kn f.src).k <= 3
   ·by_cases q:c.st≠0 /\ eqB c.key (pK s.kn f.src)=true
    ·rw [fA hk q.1 q.2];exact hno c λa=>hold (by omega)
    ·rw [dA hk q];have hnm:∀ y∈s.out,y.nm≠f.name:=λy hy e=>by
      obtain ⟨j,g,e',hg,he,q1,q2,rfl⟩:=(ih.iff y).1 hy;have hij:=name_inj hok.nodup hg hf e;rw [hij,hc] at he;rw [<- Zj he] at q1 q2
      have:=hold (by omega)
      omega
     refine ⟨λx=>?_,?_⟩
     ·show x∈s.out++[_]↔_;rw [Qj,Pj];refine ⟨λh=>?_,?_⟩
      ·rcases h with h | h
       ·obtain ⟨j,g,e,hg,he,q1,q2,q3⟩:=(ih.iff x).1 h;have hne:i≠j:=λq=>by
         rw [<- q,hc] at he;rw [<- Zj he] at q1 q2
         have:=hold (by omega)
         omega
        exact ⟨j,g,e,hg,by show (s.calls.set i _)[j]?=_; rw [Vv hne]; exact he,q1,q2,q3⟩
       ·exact ⟨i,f,_,hf,Wq (by omega),rfl,by show s0.last < s.last + 1; omega,h⟩
      ·rintro ⟨j,g,e,hg,he,q1,q2,q3⟩;rcases set_at he with ⟨rfl,rfl⟩ | ⟨-,he⟩
       ·rw [hf] at hg;obtain rfl:=Zj hg;exact .inr q3
       ·exact .inl ((ih.iff x).2 ⟨j,g,e,hg,he,q1,q2,q3⟩)
     ·refine List.pairwise_append.2 ⟨ih.pw,List.pairwise_singleton _ _,λy hy z hz=>?_⟩;rw [Pj.1 hz];exact hnm y hy
   ·rw [eAz hk];exact hno clZ λa=>absurd (show (0:Int)=1 from a) (by decide)
  ·rw [stepS_one hf h3];exact ⟨ih.iff,ih.pw⟩
theorem outI_set {E:Eg} {ρ:List Int} {lv:Nat -> Nat} (hok:EgOk E ρ lv):OutI E.fm.fields E.last (gZ E ρ):=by
 have few:=hok.fm.fields.few;have one:=hok.one;have l1:=hok.l1;have hod:Ordd E.fm.fields ρ lv (rX ρ E.fm.fields.length):=sX hok.fm.rank (by omega);have h:=outI_run (s0:=⟨E.calls,E.vals,[],E.last,[]⟩) (os:=rX ρ E.fm.fields.length) hok.pol hok.fm.fields hok.ki hok.n0 hok.n1 hok.calls hok.vlen rfl hok.l0 (by rw [hod.len]; show E.last + _ <= _; omega) (λi q=>hod.lt q) (ordL_nodup hod) rfl _ (Ij _);rw [Pk] at h;exact h
structure CalI (E:Eg) (lt:List Lt):Prop where
 inp:E.inp=[]
 iff:∀ x,x∈lt↔∃ (j:Nat) (f:Fd) (c:Cl),E.fm.fields[j]?=some f /\ E.calls[j]?=some c /\ c.st=1 /\ x=ltOf f.name c
 pw:lt.Pairwise (λx y=>x.nm≠y.nm)
 st:∀ (j:Nat) (f:Fd) (c:Cl),E.fm.fields[j]?=some f -> E.calls[j]?=some c -> c.st <= 2 /\ (c.st=2 -> c.has=ansV f c.key)
theorem askL_hit {s:ByteArray} {key:Vl}:∀ {l:List Aw},l.any (λp=>p.hit s key)=true -> ∃ p∈l,vJ s key l=p.has /\ p.hit s key=true
 | [],h=>by cases h
 | p :: l,h=>by
  rw [vJ]
  split
  ·rename_i q;exact ⟨p,by simp,rfl,q⟩
  ·rename_i q;rw [List.any_cons,Kq.2 q,Bool.false_or] at h;obtain ⟨x,hx,e⟩:=askL_hit h;exact ⟨x,by simp [hx],e⟩
theorem askL_pass {s:ByteArray} {key:Vl} {m:List Aw}:∀ {l:List Aw},l.any (λp=>p.hit s key)=false -> vJ s key (l++m)=vJ s key m
 | [],_=>rfl
 | p :: l,h=>by
  rw [List.any_cons,Bool.or_eq_false_iff] at h;show vJ s key (p :: (l++m))=_;rw [vJ,Bj (by rw [h.1]; exact Iv)];exact askL_pass h.2
def AnsOf (fs:List Fd) (p:Aw):Prop:=∃ (i:Nat) (f:Fd),fs[i]?=some f /\ p.nm=f.name /\ p.has=ansV f p.key
theorem addO_ans {fs:List Fd} {env:Env} {out:List Aw} {i:Nat} {f:Fd} (hf:fs[i]?=some f) (ho:∀ p∈out,AnsOf fs p):∀ p∈addO env out f,AnsOf fs p:=by
 unfold addO
 split
 ·intro p hp;rcases Qj.1 hp with q | q
  ·exact ho p q
  ·rw [Pj.1 q];exact ⟨i,f,hf,rfl,rfl⟩
 ·exact ho
theorem roundO_ans {fs:List Fd} {env:Env}:∀ (l:List Fd) (out:List Aw),(∀ f∈l,f∈fs) -> (∀ p∈out,AnsOf fs p) -> ∀ p∈wY env l out,AnsOf fs p
 | [],_,_,ho=>ho
 | f :: l,out,hl,ho=>by
  obtain ⟨i,hi⟩:=Xk (hl f (by simp));exact roundO_ans l _ (λg hg=>hl g (by simp [hg])) (addO_ans hi ho)
theorem orcL_ans (fs:List Fd) (inp:Env) (os:List Nat):∀ r,∀ p∈qX fs inp os r,AnsOf fs p
 | 0=>λp hp=>by cases hp
 | r + 1=>roundO_ans (env:=fcs fs (allW fs inp (qX fs inp os r) os)) fs (qX fs inp os r) (λ_ q=>q) (orcL_ans fs inp os r)
def cntK (cs:List Cl):Nat:=cs.countP λc=>decide (c.st=2)
theorem cnt_more {p:Cl -> Bool}:∀ {l m:List Cl},l.length=m.length -> (∀ (i:Nat) (a b:Cl),l[i]?=some a -> m[i]?=some b -> p a=true -> p b=true) -> l.countP p <= m.countP p /\ ((∃ (i:Nat) (a b:Cl),l[i]?=some a /\ m[i]?=some b /\ p a=false /\ p b=true) -> l.countP p + 1 <= m.countP p)
 | [],[],_,_=>⟨Ij _,λ⟨_,_,_,h,_⟩=>by simp at h⟩
 | [],_ :: _,h,_=>by simp at h
 | _ :: _,[],h,_=>by simp at h
 | a :: l,b :: m,hl,h=>by
  obtain ⟨h1,h2⟩:=cnt_more (p:=p) (l:=l) (m:=m) (by simpa using hl) λi x y hx hy=>h (i + 1) x y (by simpa using hx) (by simpa using hy);have h0:=h 0 a b rfl rfl;rw [List.countP_cons,List.countP_cons];refine ⟨?_,?_⟩
  ·by_cases q:p a=true
   ·rw [Cj q,Cj (h0 q)]; omega
   ·rw [Bj q]; omega
  ·rintro ⟨i,x,y,hx,hy,q1,q2⟩
   cases i with
   | zero =>
    simp only [Iw,Wj] at hx hy;subst hx hy;rw [q1,q2,Bj Iv,Cj rfl];omega
   | succ i =>
    have:=h2 ⟨i,x,y,by simpa using hx,by simpa using hy,q1,q2⟩
    by_cases q:p a=true
    ·rw [Cj q,Cj (h0 q)]; omega
    ·rw [Bj q]; omega
theorem cntK_le (cs:List Cl):cntK cs <= cs.length:=List.countP_le_length
structure CalK (fm:Fm) (p:Pol) (ρ:List Int) (lv:Nat -> Nat) (k:Nat) (E:Eg) (lt:List Lt):Prop where
 m:MOk fm p ρ lv k E lt
 i:CalI E lt
 k:k <= cntK E.calls
theorem find1_calm (f:Fd) (A:Option Addr) (n c:Nat) (x:Lt) (b:Nat) (h:Vw) (hc:Cells h b 0 [Vt x.nm,Vi x.id,Vi x.key.k,Vi x.key.n,.string x.key.s,Vi x.ans.k,Vi x.ans.n,.string x.ans.s]) :
  C0 Tryz.prog 54 #[.agg #[Vt f.name,Vi f.kind,Vi f.ty,Vi f.src.op,Vi f.src.k,Vi f.src.n,.string f.src.s,.string f.src.nm,.slice A n c],.pointer (some ⟨b,0,none⟩)] h (λr _=>r=.bool (f.name.toList == x.nm.toList)):=by
 refine zQ Tryz.func54 λhbx hbad Q hQ=>?_;refine aV (hc.sees (Sees.refl _)) ?_;refine go1 17 [.own,.b 0 0,.f 0 0] [] ?_;intro b1;refine hQ.to [.bool (f.name.toList == x.nm.toList)] (λH sH=>?_);exact rfl
theorem idxF_calm (fs:List Fd) (vs:List Value) (A:Option Addr) (cap:Nat) (x:Lt) (b:Nat) (h:Vw) (hr:RS h 9 (.slice A fs.length cap) (dQ fs vs)) (hl:fs.length <= 1000000) (hvl:vs.length=fs.length) (hsl:∀ u∈vs,sL u=u) (hc:Cells h b 0 [Vt x.nm,Vi x.id,Vi x.key.k,Vi x.key.n,.string x.key.s,Vi x.ans.k,Vi x.ans.n,.string x.ans.s]) :
  C0 Tryz.prog 53 #[.slice A fs.length cap,.func (.func 54) #[] #[.pointer (some ⟨b,0,none⟩)]] h (λr _=>r=Vi (lQ fs x.nm)):=by
 generalize hL:fs.length=len at *;refine zQ Tryz.func53 λhbx hbad Q hQ=>?_;refine go0 14 [] [] ?_;refine iV [0,1,0,1] [.block 0,.seq [1,1]] (λ(k:Nat) X=>∃ (W1:Vw) ,X W1 [(0,.slice A len cap),(1,.func (.func 54) #[] #[Vp b]),(7,Vi (len:Int)),(8,Vi (k:Int))] [] [] /\ Sees h W1 /\ (k <= len) /\ (∀ y∈fs.take k,(y.name.toList == x.nm.toList)=false)) (λk=>len - k) (0) (λX q=>⟨h,q _ _ _ _ ⟨rfl,by kernel_rfl⟩,Sees.refl _,Oj _,λy hy=>by simp at hy⟩) ?_;rintro k a w ⟨W1,hJ,S2,hk,hn⟩; refine mV hJ ?_; clear hJ a w;refine go0 6 [] [] ?_;rcases (by omega:k < len\/k=len) with hlt | hke
 ·obtain ⟨f,hfk⟩:∃ f,fs[k]?=some f:=⟨_,Fj (by omega)⟩;obtain ⟨u,huk⟩:∃ u,vs[k]?=some u:=⟨_,Fj (by omega)⟩;have hrow:(dQ fs vs)[k]?=some (fdRow f (sL u)):=by rw [hsl u (Ej huk)]; exact eQ hfk huk
  refine rV (t:=decide ((k:Int) < (len:Int))) (Jj (by omega)) ?_;refine go0 15 [] [] ?_;obtain ⟨b3,o4,rfl,-,c5⟩:=RS.row hr (hrow);refine aV (c5.sees S2) ?_;refine go0 5 [.ix b3 o4 len cap k,.f 0 0,.cl 54 #[.agg #[Vt f.name,Vi f.kind,Vi f.ty,Vi f.src.op,Vi f.src.k,Vi f.src.n,.string f.src.s,.string f.src.nm,sL u],Vp b] (.bool (f.name.toList == x.nm.toList))] [] ?_ (ho:=(Aj (by first | omega | (simp; omega)) (Aj (λH sH=>find1_calm f _ _ _ x b _ (hc.sees (S2.trans sH))) (trivial))))
  cases boolIs (f.name.toList == x.nm.toList) with
  | true hq =>
   refine rV (t:=f.name.toList == x.nm.toList) (hq) ?_;refine go0 9 [] [] ?_;refine gV ?_;refine go0 2 [] [] ?_;refine hQ.to [Vi (k:Int)] (λH sH=>?_);exact Dj (Value.int .i64) (jQ _ fs k f hn hfk hq).symm
  | false hq =>
   refine cV (t:=f.name.toList == x.nm.toList) (hq) ?_;refine go0 7 [] [(18,Vi (IntKind.i64.wrap ((k:Int) + 1)),Vi ((k:Int) + 1))] ?_ (hc:=(Aj (jJ (by omega) (by omega)) (trivial)));exact qV (k + 1) (λX q=>⟨W1,q _ _ _ _ ⟨rfl,by kernel_rfl⟩,S2,by omega,(by rw [wZ fs k f hfk]; exact λy hy=>(Qj.1 hy).elim (hn y) (λe=>by rw [Pj.1 e]; exact hq))⟩)
 ·skip;have htk:fs.take k=fs:=by rw [hke, <- hL,Pk]
  rw [htk] at hn;refine cV (t:=decide ((k:Int) < (len:Int))) (Kj (by omega)) ?_;refine go0 2 [] [] ?_;refine gV ?_;refine go0 8 [] [] ?_;refine hQ.to [Vi (-1)] (λH sH=>?_);exact Dj (Value.int .i64) (kQ _ fs hn).symm
theorem calm_cat {H:Vw} {lt l1 l2 more:List Lt} {p:Nat} (h1:lt.take p=l1) (h2:lt.drop (p + 1)=l2) (h3:p + 1 <= lt.length) (hl:l1.length + l2.length + more.length <= 1000000) {As:Option Addr} {cs:Nat} {A':Option Addr} {vm:Value} {b:Nat} (hS:RS H 8 (.slice As lt.length cs) (oW lt)) (e:A'=if cs=p + 1 then As else As.map (·.add ((p + 1) * 8))) (hm:RS H 8 vm (oW more)) (hc:Cells H b 0 [.slice As p cs,.slice A' (lt.length - (p + 1)) (cs - (p + 1)),vm]) :
  C0 Tryz.prog 17 #[.slice (some ⟨b,0,none⟩) 3 3] H (λr h'=>∃ u,r=.slice (sA u) (l1++l2++more).length (sC u) /\ RS h' 8 (.slice (sA u) (l1++l2++more).length (sC u)) (oW (l1++l2++more))):=by
 have g1:=hS.take p (by rw [Hj]; omega);have g2:=hS.drop (p + 1) (by rw [Hj]; omega);rw [<- e] at g2;rw [<- List.map_take,h1] at g1;rw [<- List.map_drop,h2] at g2;refine (c_concat3T (rs_cells (k:=1) [[.slice As p cs],[.slice A' (lt.length - (p + 1)) (cs - (p + 1))],[vm]] (λr hr=>by simp at hr; rcases hr with rfl | rfl | rfl <;> rfl) (show (3:Nat) <= maxLen by decide) hc) g1 g2 hm hl).mono λv h' _=>?_;rintro ⟨u,rfl,k⟩;obtain ⟨A,c,e,-⟩:=k.form;rw [Hj] at e;rw [e] at k ⊢;exact ⟨.slice A (l1++l2++more).length c,rfl,k⟩
theorem cut_at {lt:List Lt} {p:Nat} (h:p < lt.length):∃ l1 y l2,lt=l1++y :: l2 /\ lt.take p=l1 /\ lt.drop (p + 1)=l2 /\ lt[p]?=some y:=by
 obtain ⟨y,hy⟩:∃ y,lt[p]?=some y:=⟨_,Fj h⟩;refine ⟨lt.take p,y,lt.drop (p + 1),?_,rfl,rfl,hy⟩;obtain ⟨q,e⟩:=Nj.1 hy;rw [<- e, <- Tv,Jw]
structure EngF (h:Vw) (A:Option Addr) (n c:Nat) (u:Value) (E:Eg):Prop where
 form:IsForm h (.slice A n c) (sL (agJ 1 u)) E.fm
 inp:RS h 7 (sL (agJ 2 u)) (bQ E.inp)
 calls:RS h 10 (sL (agJ 3 u)) (jK E.calls)
 vals:RS h 3 (sL (agJ 4 u)) (gA E.vals)
theorem EngF.sees {h h':Vw} {A:Option Addr} {n c:Nat} {u:Value} {E:Eg} (k:EngF h A n c u E) (s:Sees h h'):EngF h' A n c u E:=⟨k.form.sees s,k.inp.sees s,k.calls.sees s,k.vals.sees s⟩
theorem EngF.of {h:Vw} {w:Value} {E:Eg} {n:Nat} (k:IsEng h w E) (hn:E.fm.fields.length=n):∃ A c,(sL (agJ 0 w):Value)=.slice A n c /\ EngF h A n c w E:=by
 obtain ⟨vs,A,c,e0,-⟩:=iQ k.form.fields;rw [hn] at e0;have q:=k.form;rw [e0] at q;exact ⟨A,c,e0,q,k.inp,k.calls,k.vals⟩
theorem EngF.at_ {h:Vw} {A:Option Addr} {n c:Nat} {u:Value} {E:Eg} (k:EngF h A n c u E):∃ w,IsEng h w E /\ (sL (agJ 0 w):Value)=.slice A n c /\ agJ 1 w=agJ 1 u /\ agJ 2 w=agJ 2 u /\ agJ 3 w=agJ 3 u /\ agJ 4 w=agJ 4 u:=by
 obtain ⟨w,hw⟩:∃ w:Value,w=.agg #[.slice A n c,agJ 1 u,agJ 2 u,agJ 3 u,agJ 4 u]:=⟨_,rfl⟩;have e0:(sL (agJ 0 w):Value)=.slice A n c:=by rw [hw]; kernel_rfl
 have e1:agJ 1 w=agJ 1 u:=by rw [hw]; kernel_rfl
 have e2:agJ 2 w=agJ 2 u:=by rw [hw]; kernel_rfl
 have e3:agJ 3 w=agJ 3 u:=by rw [hw]; kernel_rfl
 have e4:agJ 4 w=agJ 4 u:=by rw [hw]; kernel_rfl
 obtain ⟨k1,k2,k3,k4⟩:=k;exact ⟨w,⟨by rw [e0,e1]; exact k1,by rw [e2]; exact k2,by rw [e3]; exact k3,by rw [e4]; exact k4⟩,e0,e1,e2,e3,e4⟩
theorem eng_args {E:Eg} {A:Option Addr} {n c:Nat} {u w:Value} (e0:(sL (agJ 0 w):Value)=.slice A n c) (e1:agJ 1 w=agJ 1 u) (e2:agJ 2 w=agJ 2 u) (e3:agJ 3 w=agJ 3 u) (e4:agJ 4 w=agJ 4 u):(.agg (eA w E):Value)=.agg #[.slice A n c,sL (agJ 1 u),Vi E.pol.t,Vi E.pol.b,Vi E.pol.c,sL (agJ 2 u),sL (agJ 3 u),sL (agJ 4 u),Vi E.now,Vi E.last]:=by
 have key:∀ z0 j1 j2 j3 j4:Value,z0=.slice A n c -> j1=agJ 1 u -> j2=agJ 2 u -> j3=agJ 3 u -> j4=agJ 4 u -> (Value.agg #[z0,sL j1,Vi E.pol.t,Vi E.pol.b,Vi E.pol.c,sL j2,sL j3,sL j4,Vi E.now,Vi E.last])=.agg #[.slice A n c,sL (agJ 1 u),Vi E.pol.t,Vi E.pol.b,Vi E.pol.c,sL (agJ 2 u),sL (agJ 3 u),sL (agJ 4 u),Vi E.now,Vi E.last]:=by
  rintro _ _ _ _ _ rfl rfl rfl rfl rfl
  rfl
 exact key _ _ _ _ _ e0 e1 e2 e3 e4
theorem egOk_ty {E:Eg} {ρ:List Int} {lv:Nat -> Nat} (hok:EgOk E ρ lv):InpTy E.fm.fields E.inp:=λi f hf hk p hp e=>by
 have h:=hok.k0 p hp;unfold zZ at h;rw [e,mQ hok.fm.fields.nodup hf,Bj (by omega),Int.toNat_natCast,hf] at h;simp only at h;rw [Cj hk] at h
 by_cases q:p.2.k=f.ty
 ·exact q
 ·rw [Bj q] at h; exact absurd h (by decide)
theorem egOk_wh {E:Eg} {ρ:List Int} {lv:Nat -> Nat} (hok:EgOk E ρ lv):Wh E.fm.fields E.inp ρ lv (rX ρ E.fm.fields.length):=by
 have few:=hok.fm.fields.few;have one:=hok.one;exact ⟨hok.fm.fields,hok.ki,egOk_ty hok,sX hok.fm.rank (by omega)⟩
structure CalG (E:Eg) (lt:List Lt):Prop where
 wait:∀ (j:Nat) (f:Fd) (c:Cl),E.fm.fields[j]?=some f -> E.calls[j]?=some c -> c.st=1 -> ltOf f.name c∈lt
 st:∀ (j:Nat) (f:Fd) (c:Cl),E.fm.fields[j]?=some f -> E.calls[j]?=some c -> c.st <= 2 /\ (c.st=2 -> c.has=ansV f c.key)
theorem CalG.set {E:Eg} {ρ:List Int} {lv:Nat -> Nat} (hok:EgOk E ρ lv) (hl:(gZ E ρ).last <= 1073741810) {lt:List Lt} (h:CalG E lt):CalG (hZ E ρ) (lt++(gZ E ρ).out):=by
 have hok':=settE_ok hok hl;have O:=outI_set hok;have key:∀ (j:Nat) (g:Fd) (c':Cl),E.fm.fields[j]?=some g -> (hZ E ρ).calls[j]?=some c' -> c'=clZ\/(∃ c,E.calls[j]?=some c /\ c'=c)\/∃ id key nx,E.last < id /\ c'=⟨1,id,1,key,zV,nx⟩:=λj g c' hg hc'=>by
  by_cases h3:g.kind=3
  ·obtain ⟨c,hc⟩:∃ c,E.calls[j]?=some c:=⟨_,Fj (by rw [hok.calls.len]; exact (Nj.1 hg).1)⟩;obtain ⟨id,hid,e⟩:=set_call hok hl hg h3 hc;rw [hc'] at e;have e:=Zj e
   by_cases hk:(pK (fcs E.fm.fields (hZ E ρ).vals) g.src).k <= 3
   ·by_cases hs:c.st≠0 /\ eqB c.key (pK (fcs E.fm.fields (hZ E ρ).vals) g.src)=true
    ·rw [fA hk hs.1 hs.2] at e;exact .inr (.inl ⟨c,hc,e⟩)
    ·rw [dA hk hs] at e;exact .inr (.inr ⟨_,_,_,hid,e⟩)
   ·rw [eAz hk] at e;exact .inl e
  ·refine .inl ((hok'.calls.at_ j g c' hg hc').1.idle ?_)
   by_cases q:c'.st=0
   ·exact q
   ·exact absurd ((hok'.calls.at_ j g c' hg hc').2.1 q).1 h3
 refine ⟨λj g c' hg hc' hs=>?_,λj g c' hg hc'=>?_⟩
 ·rw [Qj];rcases key j g c' hg hc' with e | ⟨c,hc,e⟩ | ⟨id,ky,nx,hid,e⟩
  ·rw [e] at hs; exact absurd (show (0:Int)=1 from hs) (by decide)
  ·rw [e] at hs ⊢; exact .inl (h.wait j g c hg hc hs)
  ·exact .inr ((O.iff _).2 ⟨j,g,c',hg,hc',hs,by rw [e]; exact hid,rfl⟩)
 ·rcases key j g c' hg hc' with e | ⟨c,hc,e⟩ | ⟨id,ky,nx,hid,e⟩
  ·rw [e]; exact ⟨by show (0:Int) <= 2; decide,λq=>absurd (show (0:Int)=2 from q) (by decide)⟩
  ·rw [e]; exact h.st j g c hg hc
  ·rw [e]; exact ⟨by show (1:Int) <= 2; decide,λq=>absurd (show (1:Int)=2 from q) (by decide)⟩
theorem calG_new {f:Fm} {p:Pol}:CalG (zW f p) []:=by
 have e:∀ (j:Nat) (c:Cl),(zW f p).calls[j]?=some c -> c=clZ:=λj c hc=>(List.mem_replicate.1 (Ej hc)).2;refine ⟨λj g c hg hc hs=>?_,λj g c hg hc=>?_⟩
 ·rw [e j c hc] at hs; exact absurd (show (0:Int)=1 from hs) (by decide)
 ·rw [e j c hc]; exact ⟨by show (0:Int) <= 2; decide,λq=>absurd (show (0:Int)=2 from q) (by decide)⟩
def tJ (f:Fd) (y:Lt):Lt:=⟨y.nm,y.id,y.key,ansV f y.key⟩
theorem CalG.heard {E:Eg} {ρ:List Int} {lv:Nat -> Nat} (hok:EgOk E ρ lv) {l1 l2:List Lt} {y:Lt} (h:CalG E (l1++y :: l2)) {i:Nat} {f:Fd} {c:Cl} (hf:E.fm.fields[i]?=some f) (hc:E.calls[i]?=some c) (hn:y.nm=f.name) (ht:Takes f (tJ f y) c):CalG (xV E i (tJ f y) c) (l1++l2):=by
 have hnd:=hok.fm.fields.nodup;refine ⟨λj g d hg hd hs=>?_,λj g d hg hd=>?_⟩
 ·rcases set_at hd with ⟨-,rfl⟩ | ⟨hj,hd⟩
  ·exact absurd (show (2:Int)=1 from hs) (by decide)
  ·have:=h.wait j g d hg hd hs
   rcases Qj.1 this with q | q
   ·exact Ek _ q
   ·rcases Tj.1 q with q | q
    ·exfalso
     exact hj (name_inj hnd hg hf ((Dj Lt.nm q).trans hn))
    ·exact Uj _ q
 ·rcases set_at hd with ⟨rfl,rfl⟩ | ⟨hj,hd⟩
  ·rw [show (xV E j (tJ f y) c).fm=E.fm from rfl,hf] at hg;obtain rfl:=Zj hg;refine ⟨by show (2:Int) <= 2; decide,λ_=>?_⟩;show ansV f y.key=ansV f c.key;rw [show c.key=y.key from eqB_iff.1 ht.2.2.1]
  ·exact h.st j g d hg hd
theorem CalG.stale {E:Eg} {ρ:List Int} {lv:Nat -> Nat} (hok:EgOk E ρ lv) {l1 l2:List Lt} {y:Lt} (h:CalG E (l1++y :: l2)) {i:Nat} {f:Fd} {c:Cl} (hf:E.fm.fields[i]?=some f) (hc:E.calls[i]?=some c) (hn:y.nm=f.name) (hk:y.key.known) (ht:¬ Takes f (tJ f y) c):CalG E (l1++l2):=by
 have hnd:=hok.fm.fields.nodup;refine ⟨λj g d hg hd hs=>?_,h.st⟩
 have:=h.wait j g d hg hd hs
 rcases Qj.1 this with q | q
 ·exact Ek _ q
 ·rcases Tj.1 q with q | q
  ·exfalso
   have hj:=name_inj hnd hg hf ((Dj Lt.nm q).trans hn);subst hj;rw [hf] at hg;obtain rfl:=Zj hg;rw [hc] at hd;obtain rfl:=Zj hd;have hF:=hok.fm.fields.each f (Ej hf);obtain ⟨a1,a2⟩:=ans_known hF hk;exact ht ⟨hs,(Dj Lt.id q),eqB_iff.2 (Dj Lt.key q),by show (ansV f y.key).k <= 3; have:=hF.t3; omega,a2⟩
  ·exact Uj _ q
theorem hear_cnt {E:Eg} {ρ:List Int} {lv:Nat -> Nat} (hok:EgOk E ρ lv) (hse:Settled E ρ) {i:Nat} {f:Fd} {c:Cl} {x:Lt} (hf:E.fm.fields[i]?=some f) (hc:E.calls[i]?=some c) (hx:OkV x.ans) (ht:Takes f x c) (hl2:(gZ (xV E i x c) ρ).last <= 1073741810):cntK E.calls + 1 <= cntK (hZ (xV E i x c) ρ).calls /\ cntK (hZ (xV E i x c) ρ).calls <= E.fm.fields.length:=by
 have hok1:=hearE_ok hok hf hc hx ht;have hok2:=settE_ok hok1 hl2;have K:=λj g q=>hear_keeps hok hse hf hc hx ht hl2 (lv j + 1) j g (by omega) q;have hil:=(Nj.1 hc).1;have hcs:∀ j:Nat,(xV E i x c).calls[j]?=(E.calls.set i (heardC x c))[j]?:=λj=>rfl;have hk3:=((hok.calls.at_ i f c hf hc).2.1 (by have:=ht.1; omega)).1;have hself:=((K i f hf).2 hk3 _ (by rw [hcs,Wq hil])).1 (by show (2:Int)≠0; decide);have hlen:(hZ (xV E i x c) ρ).calls.length=E.fm.fields.length:=hok2.calls.len;have hle:=cntK_le (hZ (xV E i x c) ρ).calls;refine ⟨?_,by omega⟩;have h1:=ht.1;refine (cnt_more (p:=λc=>decide (c.st=2)) (by rw [hlen]; exact hok.calls.len) λj a b ha hb q=>?_).2 ⟨i,c,_,hc,hself,Kj (by omega),Jj (show (2:Int)=2 from rfl)⟩
 by_cases hj:j=i
 ·rw [hj,hself] at hb;rw [<- Zj hb]; rfl
 ·have hjl:j < E.fm.fields.length:=by rw [<- hok.calls.len]; exact (Nj.1 ha).1
  have hs':a.st=2:=Rq q;have hg:E.fm.fields[j]?=some (E.fm.fields[j]'hjl):=Fj hjl;obtain ⟨d1,d2,-⟩:=hok.calls.at_ j _ a hg ha
  have:=((K j _ hg).2 (d2 (by omega)).1 a (by rw [hcs,Vv λq=>hj q.symm]; exact ha)).1 (by omega)
  rw [hb] at this;rw [Zj this]; exact q
structure CalQ (fm:Fm) (p:Pol) (ρ:List Int) (lv:Nat -> Nat) (ip:Env) (L r:Nat) (E:Eg) (lt:List Lt):Prop where
 i:CalG E lt
 ip:E.inp=ip
 m:∃ k,MOk fm p ρ lv k E lt /\ k <= 40 + cntK E.calls
 pot:lt.length + L * (fm.fields.length - cntK E.calls) + r <= 199
theorem CalQ.step {fm:Fm} {p:Pol} {ρ:List Int} {lv:Nat -> Nat} {ip:Env} {L r:Nat} (hL:∀ E1,EgOk E1 ρ lv -> E1.fm=fm -> (gZ E1 ρ).out.length <= L) {E:Eg} {l1 l2:List Lt} {y:Lt} (h:CalQ fm p ρ lv ip L r E (l1++y :: l2)):∃ (i:Nat) (f:Fd) (c:Cl),E.fm.fields[i]?=some f /\ E.calls[i]?=some c /\ y.nm=f.name /\ y.key.known /\ OkV (ansV f y.key) /\
  CalQ fm p ρ lv ip L (r + 1) (hrdE E ρ i f (tJ f y) c) (l1++l2++hrdT E ρ i f (tJ f y) c):=by
 obtain ⟨k,hm,hk⟩:=h.m;have hpt:=h.pot;have hlast:=hm.last;have hcl:=hm.ok.calls.len;have few:=hm.ok.fm.fields.few;have hck:=cntK_le E.calls;obtain ⟨⟨i,f,hf0,hyn,hk3⟩,hkn,-⟩:=(hm.ltr y (by simp)).1;have hf:E.fm.fields[i]?=some f:=by rw [hm.efm]; exact hf0
 obtain ⟨c,hc⟩:∃ c,E.calls[i]?=some c:=⟨_,Fj (by rw [hcl]; exact (Nj.1 hf).1)⟩;have hF:=hm.ok.fm.fields.each f (Ej hf);have hx:OkV (ansV f y.key):=.inl (ans_known hF hkn).1;refine ⟨i,f,c,hf,hc,hyn,hkn,hx,?_⟩;have hsub:∀ x∈l1++l2,x∈l1++y :: l2:=λx q=>by
  rcases Qj.1 q with q | q
  ·exact Ek _ q
  ·exact Uj _ (Mk _ q)
 have hll:(l1++y :: l2).length=(l1++l2).length + 1:=by simp only [Bk,Vk]; omega
 rw [hll] at hpt
 by_cases ht:Takes f (tJ f y) c
 ·obtain ⟨e1,e2,-⟩:=hrd_yes (E:=E) (ρ:=ρ) (i:=i) ht;rw [e1,e2];have hok1:=hearE_ok hm.ok hf hc (x:=tJ f y) hx ht;have hq:=setE_few hok1;have hel:(xV E i (tJ f y) c).last=E.last:=rfl;rw [hel] at hq;have hl2:(gZ (xV E i (tJ f y) c) ρ).last <= 1073741810:=by omega
  have hst:=hm.step (by omega) (MStep.hear (ρ:=ρ) (E:=E) (lt:=l1++y :: l2) i f (tJ f y) c hf hc hx ht);obtain ⟨n1,n2⟩:=hear_cnt hm.ok hm.se hf hc (x:=tJ f y) hx ht hl2;have ho:=hL _ hok1 (show E.fm=fm from hm.efm);have hG:=(h.i.heard hm.ok hf hc hyn ht).set hok1 hl2;rw [hm.efm] at n2;have hmul:L * (fm.fields.length - cntK (hZ (xV E i (tJ f y) c) ρ).calls) + L <= L * (fm.fields.length - cntK E.calls):=by
   have:L * (fm.fields.length - cntK (hZ (xV E i (tJ f y) c) ρ).calls + 1) <= L * (fm.fields.length - cntK E.calls):=Nat.mul_le_mul_left _ (by omega)
   rwa [Nat.mul_add,Nat.mul_one] at this
  refine ⟨hG,h.ip,⟨k + 1,⟨hst.ok,hst.se,hst.efm,hst.epol,hst.now,hst.last,hst.inp,?_,λx q=>hst.ltr x ?_⟩,by omega⟩,?_⟩
  ·have:=hst.len
   rw [Bk,hll] at this;rw [Bk];omega
  ·rcases Qj.1 q with q | q
   ·exact Ek _ (hsub x q)
   ·exact Uj _ q
  ·rw [Bk];omega
 ·obtain ⟨e1,e2,-⟩:=hrd_no (E:=E) (ρ:=ρ) (i:=i) ht;rw [e1,e2,List.append_nil];refine ⟨h.i.stale hm.ok hf hc hyn hkn ht,h.ip,⟨k,⟨hm.ok,hm.se,hm.efm,hm.epol,hm.now,hm.last,hm.inp,?_,λx q=>hm.ltr x (hsub x q)⟩,hk⟩,by omega⟩
  have:=hm.len
  rw [hll] at this;omega
theorem calG_none {E:Eg} {ρ:List Int} {lv:Nat -> Nat} (hok:EgOk E ρ lv) (h:CalG E []):∀ c∈E.calls,c.st≠1:=λc hc hs=>by
 obtain ⟨i,hi⟩:=Xk hc;have hil:i < E.fm.fields.length:=by rw [<- hok.calls.len]; exact (Nj.1 hi).1
 cases h.wait i _ c (Fj hil) hi hs
theorem calG_vals {E:Eg} {ρ:List Int} {lv:Nat -> Nat} (hok:EgOk E ρ lv) (hse:Settled E ρ) (h:CalG E []):allW E.fm.fields E.inp (qX E.fm.fields E.inp (rX ρ E.fm.fields.length) E.fm.fields.length) (rX ρ E.fm.fields.length)=E.vals:=by
 have S:=settled_sol hok hse;have hW:=egOk_wh hok;have Sv:=(hW.sol (hW.orc E.fm.fields.length)).1;have n4:=hW.answered λi hi=>by
  have:=hok.fm.rank.few i (by rw [yW]; exact hi)
  rw [yW] at this;exact this
 have hans:=orcL_ans E.fm.fields E.inp (rX ρ E.fm.fields.length) E.fm.fields.length;have hno:=calG_none hok h;unfold vR at n4;generalize qX E.fm.fields E.inp (rX ρ E.fm.fields.length) E.fm.fields.length=o1 at *;generalize allW E.fm.fields E.inp o1 (rX ρ E.fm.fields.length)=v at *;refine sol_one (inp:=E.inp) (orc:=o1++orcC E.fm.fields E.calls) hok.fm.fields hok.fm.rank ⟨Sv.len,λi f x hf hx=>?_⟩ ⟨S.sol.len,λi f x hf hx=>?_⟩
 ·have e:=Sv.at_ i f x hf hx;have hn:=n4 x (Ej hx);unfold iX at e ⊢
  by_cases k1:f.kind=1
  ·rw [Cj k1] at e ⊢; exact e
  ·rw [Bj k1] at e ⊢
   by_cases k3:f.kind=3
   ·rw [Cj k3] at e ⊢;unfold askV at e ⊢
    by_cases hk:(pK (fcs E.fm.fields v) f.src).k <= 3
    ·rw [Cj hk] at e ⊢
     cases q:o1.any (λp=>p.hit f.name (pK (fcs E.fm.fields v) f.src)) with
     | true=>rw [askL_app q]; exact e
     | false =>
      rw [askL_none q] at e;rw [e] at hn;exact absurd rfl hn
    ·rw [Bj hk] at e ⊢; exact e
   ·rw [Bj k3] at e ⊢; exact e
 ·have e:=S.sol.at_ i f x hf hx;rw [e];unfold iX
  by_cases k1:f.kind=1
  ·rw [Cj k1,Cj k1]
  ·rw [Bj k1,Bj k1]
   by_cases k3:f.kind=3
   ·rw [Cj k3,Cj k3];unfold askV
    by_cases hk:(pK (fcs E.fm.fields E.vals) f.src).k <= 3
    ·rw [Cj hk,Cj hk]
     cases q:o1.any (λp=>p.hit f.name (pK (fcs E.fm.fields E.vals) f.src)) with
     | true =>
      obtain ⟨p,hp,e1,hh⟩:=askL_hit q;obtain ⟨j,g,hg,hn,ha⟩:=hans p hp;unfold Aw.hit at hh;rw [Vj,tl_dec,Kv] at hh;have hij:=name_inj hok.fm.fields.nodup hg hf (hn.symm.trans hh.1);rw [hij,hf] at hg;obtain rfl:=Zj hg;obtain ⟨c,hc⟩:∃ c,E.calls[i]?=some c:=⟨_,Fj (by rw [hok.calls.len]; exact (Nj.1 hf).1)⟩;obtain ⟨a1,a2⟩:=(S.call i f c hf k3 hc).1 hk;obtain ⟨b1,b2⟩:=h.st i f c hf hc;have hb:=((hok.calls.at_ i f c hf hc).1.live a1).s1;have h1:=hno c (Ej hc);have s2:c.st=2:=by omega
      rw [askL_app q,e1,ha,orcC_ask hok.fm.fields.nodup hf hc,Cj ⟨.inl s2,eqB_iff.2 a2⟩];unfold ansC;rw [Cj s2,b2 s2,a2,eqB_iff.1 hh.2]
     | false=>rw [askL_pass q]
    ·rw [Bj hk,Bj hk]
   ·rw [Bj k3,Bj k3]
theorem hrd_fm {E:Eg} {ρ:List Int} {i:Nat} {f:Fd} {x:Lt} {c:Cl}:(hrdE E ρ i f x c).fm=E.fm:=by
 unfold hrdE
 split <;> rfl
theorem hear_gen {E:Eg} {ρ:List Int} {lv:Nat -> Nat} (hok:EgOk E ρ lv) (hse:Settled E ρ) {i:Nat} {f:Fd} {y:Lt} {c:Cl} (hf:E.fm.fields[i]?=some f) (hc:E.calls[i]?=some c) (hn:y.nm=f.name) (hx:OkV (ansV f y.key)) (hl:E.last <= 1073741000) {A:Option Addr} {n cA:Nat} {u:Value} {h:Vw} (k:EngF h A n cA u E) (hnn:E.fm.fields.length=n) :
  C0 Tryz.prog 45 #[.agg #[.slice A n cA,sL (agJ 1 u),Vi E.pol.t,Vi E.pol.b,Vi E.pol.c,sL (agJ 2 u),sL (agJ 3 u),sL (agJ 4 u),Vi E.now,Vi E.last],.agg #[Vt y.nm,Vi y.id,Vi y.key.k,Vi y.key.n,.string y.key.s,Vi (ansV f y.key).k,Vi (ansV f y.key).n,.string (ansV f y.key).s]] h (λr h'=>∃ (A':Option Addr) (c':Nat) (u':Value),r=.tuple #[.agg #[.slice A' n c',sL (agJ 1 u'),Vi ((hrdE E ρ i f (tJ f y) c).pol).t,Vi ((hrdE E ρ i f (tJ f y) c).pol).b,Vi ((hrdE E ρ i f (tJ f y) c).pol).c,sL (agJ 2 u'),sL (agJ 3 u'),sL (agJ 4 u'),Vi (hrdE E ρ i f (tJ f y) c).now,Vi (hrdE E ρ i f (tJ f y) c).last],sL (agJ 5 u'),.bool (hrdB f (tJ f y) c),Vi 0] /\ EngF h' A' n c' u' (hrdE E ρ i f (tJ f y) c) /\ RS h' 8 (sL (agJ 5 u')) (oW (hrdT E ρ i f (tJ f y) c))):=by
 obtain ⟨w,hE,e0,e1,e2,e3,e4⟩:=k.at_;have hk:=hear_all E ρ lv hok hse i f (tJ f y) c hf hc hn hx hl w h hE;rw [eng_args e0 e1 e2 e3 e4] at hk;refine C0.mono hk λr h' _=>?_;rintro ⟨u',rfl,q⟩;obtain ⟨A',c',e,q'⟩:=EngF.of q.eng (n:=n) (by rw [hrd_fm]; exact hnn);exact ⟨A',c',u',Dj (λz=>Value.tuple #[z,sL (agJ 5 u'),.bool (hrdB f (tJ f y) c),Vi 0]) (eng_args e rfl rfl rfl rfl),q',q.out⟩
theorem calmG_any (fm:Fm) (P:Pol) (ρ:List Int) (lv:Nat -> Nat) (ip:Env) (L:Nat) (hL:∀ E1,EgOk E1 ρ lv -> E1.fm=fm -> (gZ E1 ρ).out.length <= L) (E0:Eg) (lt0:List Lt) (hK0:CalQ fm P ρ lv ip L 0 E0 lt0) (last:Bool) (w su:Value) (h:Vw) (hE0:IsEng h w E0) (hS0:RS h 8 (sL su) (oW lt0)) :
  C0 Tryz.prog 18 #[.agg (eA w E0),sL su,.bool last] h (λr h'=>∃ (E:Eg) (A:Option Addr) (c:Nat) (u:Value),r=.tuple #[.agg #[.slice A fm.fields.length c,sL (agJ 1 u),Vi E.pol.t,Vi E.pol.b,Vi E.pol.c,sL (agJ 2 u),sL (agJ 3 u),sL (agJ 4 u),Vi E.now,Vi E.last],.bool true] /\ (∃ r,CalQ fm P ρ lv ip L r E []) /\ EngF h' A fm.fields.length c u E):=by
 obtain ⟨As0,cs0,es,-⟩:=hS0.form;rw [Hj] at es;rw [es] at hS0 ⊢;obtain ⟨A0,cA0,e0,hF0⟩:=EngF.of (n:=fm.fields.length) hE0 (by obtain ⟨_,q,-⟩:=hK0.m; rw [q.efm]);rw [eng_args e0 rfl rfl rfl rfl];clear hE0;generalize hnn:fm.fields.length=n at *;refine zQ Tryz.func18 λhbx hbad Q hQ=>?_;refine go2 14 [.own,.own] [] ?_;intro be b1;refine iV [0,1,0,1] [.block 0,.seq [1,1]] (λ(k:Nat) X=>∃ (W2:Vw) (E:Eg) (lt:List Lt) (A:Option Addr) (cA:Nat) (ue:Value) (As:Option Addr) (cs:Nat),X W2 [(2,.bool last),(3,Vp be),(6,Vp b1),(15,Vi (k:Int)),(1,.slice As lt.length cs)] [.box b1 [Vz,Vz,Vi 0,Vi 0,Vi 0,Vz,Vz,Vz,Vi 0,Vi 0],.box be [.slice A n cA,sL (agJ 1 ue),Vi E.pol.t,Vi E.pol.b,Vi E.pol.c,sL (agJ 2 ue),sL (agJ 3 ue),sL (agJ 4 ue),Vi E.now,Vi E.last]] [] /\ Sees h W2 /\ (CalQ fm P ρ lv ip L k E lt) /\ (EngF W2 A n cA ue E) /\ (RS W2 8 (.slice As lt.length cs) (oW lt))) (λk=>200 - k) (0) (λX q=>⟨h,E0,lt0,A0,cA0,w,As0,cs0,q _ _ _ _ ⟨rfl,by kernel_rfl⟩,Sees.refl _,hK0,hF0,hS0⟩) ?_;rintro k a w ⟨W2,E,lt,A,cA,ue,As,cs,hJ,S3,hK,hE,hS⟩; refine mV hJ ?_; clear hJ a w;refine go0 6 [] [] ?_;have hpt:=hK.pot;refine rV (t:=decide ((k:Int) < 200)) (Jj (by omega)) ?_;refine go0 12 [] [] ?_;rcases (by omega:lt.length=0\/0 < lt.length) with hz | hz
 ·skip;have hn:=Yq.1 hz
  refine rV (t:=(lt.length:Int) == 0) (Yj.2 (by omega)) ?_;refine go0 11 [.b 1 0,.b 0 0] [] ?_;refine gV ?_;refine go0 2 [] [] ?_;refine hQ.to [.agg #[.slice A n cA,sL (agJ 1 ue),Vi E.pol.t,Vi E.pol.b,Vi E.pol.c,sL (agJ 2 ue),sL (agJ 3 ue),sL (agJ 4 ue),Vi E.now,Vi E.last],.bool true] (λH sH=>?_) (ix:=[0]);exact ⟨E,A,cA,ue,rfl,⟨k,hn ▸ hK⟩,(hE.sees sH)⟩
 ·skip;refine cV (t:=(lt.length:Int) == 0) (Lj.2 (by omega)) ?_
  refine go0 13 [] [] ?_;rcases Bw last with hb | hb
  ·skip;obtain ⟨p,hp⟩:∃ p,lt.length=p + 1:=⟨lt.length - 1,by omega⟩
   have hp3:p + 1 <= lt.length:=by omega
   obtain ⟨l1,y,l2,hsp,hp1,hp2,hy⟩:=cut_at hp3;have hcap:lt.length <= cs:=by
    obtain ⟨_,_,e,q,-⟩:=hS.form;simp only [Jk] at e;omega
   have hry:(oW lt)[p]?=some y.cells:=by rw [Mj,hy]; rfl
   refine rV (t:=last) (hb) ?_;refine go0 11 [] [(24,Vi (IntKind.i64.wrap ((lt.length:Int) - 1)),Vi (p:Int))] ?_ (hc:=(Aj ((jJ (by omega) (by omega)).trans (Dj (Value.int .i64) (by omega))) (trivial)));obtain ⟨i,f,c,hff,hc,hyn,hyk,hxo,hK'⟩:=(hsp ▸ hK:CalQ fm P ρ lv ip L k E (l1++y :: l2)).step hL;obtain ⟨km,hM,hkm⟩:=hK.m;obtain ⟨km',hM',hkm'⟩:=hK'.m;have hF:=hM.ok.fm.fields.each f (Ej hff);have few:=hM.ok.fm.fields.few;have hil:=(Nj.1 hff).1;obtain ⟨vs,Ax,cx,ex,-,-,hr4,hs4,hl4,hu4⟩:=iQ hE.form.fields;have hfl:E.fm.fields.length=n:=by rw [hM.efm]; exact hnn
   rw [hfl] at hr4 ex;simp only [Jk] at ex;obtain ⟨rfl,-,rfl⟩:=ex;obtain ⟨v2,hv2⟩:∃ v,vs[i]?=some v:=⟨_,Fj (by omega)⟩;have hrow:=eQ hff hv2;obtain ⟨Au,nu,cu,rfl⟩:=(AllSrc.get hs4 hff hv2).slice;have hfi:lQ E.fm.fields y.nm=(i:Int):=by rw [hyn]; exact mQ hM.ok.fm.fields.nodup hff
   have hix:∀ b H,RS H 9 (.slice A n cA) (dQ E.fm.fields vs) -> Cells H b 0 [Vt y.nm,Vi y.id,Vi y.key.k,Vi y.key.n,.string y.key.s,Vi y.ans.k,Vi y.ans.n,.string y.ans.s] -> C0 Tryz.prog 53 #[.slice A n cA,.func (.func 54) #[] #[.pointer (some ⟨b,0,none⟩)]] H (λr _=>r=Vi (i:Int)):=λb H q1 q2=>by
    have q:=idxF_calm E.fm.fields vs A cA y b H (by rw [hfl]; exact q1) (by omega) hl4 hu4 q2;rw [hfi,hfl] at q;exact q
   have han:=λH=>answered_any f Au nu cu y.key H (name_print hF.name).1 (known_size hyk) hF.t1 hF.t3;have bl:=hM.last;have hcl:=hM.ok.calls.len;have hcl':=hM'.ok.calls.len;have hck:=cntK_le E.calls;have hck':=cntK_le (hrdE E ρ i f (tJ f y) c).calls;have few':=hM'.ok.fm.fields.few;have hH:=λH q=>hear_gen (A:=A) (cA:=cA) (u:=ue) (h:=H) hM.ok hM.se hff hc hyn hxo (by omega) q hfl;have hl2:=hM'.len;clear hM';generalize ansV f y.key=bv at *;generalize hrdE E ρ i f (tJ f y) c=E' at *;generalize hrdT E ρ i f (tJ f y) c=more at *;generalize hrdB f (tJ f y) c=tk at *;obtain ⟨b4,o5,rfl,-,c6⟩:=RS.row hS (hry);refine aV (c6.sees (Sees.refl _)) ?_;refine go1 12 [.ix b4 o5 lt.length cs p,.f 0 0,.own,.b 0 0,.b 2 0] [] ?_ (ho:=(Aj (by first | omega | (simp; omega)) (trivial)));intro blx;refine g_callq (λa w hJ=>hix blx _ (hr4.sees hJ.j.seesQ) (hJ.j.boxQ (b:=blx) (cs:=[Vt y.nm,Vi y.id,Vi y.key.k,Vi y.key.n,.string y.key.s,Vi y.ans.k,Vi y.ans.n,.string y.ans.s]) 0 (by kernel_rfl))) ?_; intro W7 S8;refine go0 10 [] [] ?_;refine cV (t:=decide ((i:Int) < 0)) (Kj (by omega)) ?_;refine go0 3 [] [] ?_;obtain ⟨b9,o10,rfl,-,c11⟩:=RS.row hr4 (hrow);refine aV (c11.sees S8) ?_;refine oV 11 0 [.pu,.pu,.ld 2 0,.pu,.v (λgh=>.pointer (some ⟨b9,o10 + i * 9,none⟩)),.lf 0 0,.pu,.ld 0 2,.v (λgh=>.agg #[Vi bv.k,Vi bv.n,.string bv.s]),.pu,.st 0 5] [] (trivial) ?_ ?_
   ·intro R hT hA hmono;refine Aj (vZ hT hA b9 o10 n cA i (λgh=>.pointer (some ⟨b9,o10 + i * 9,none⟩)) (by first | omega | (simp; omega))) ?_;refine Aj (t_v hT hA hmono (k:=55) (args:=(λgh=>#[.agg #[Vt f.name,Vi f.kind,Vi f.ty,Vi f.src.op,Vi f.src.k,Vi f.src.n,.string f.src.s,.string f.src.nm,.slice Au nu cu],.agg #[Vi y.key.k,Vi y.key.n,.string y.key.s]])) (f:=λgh=>.agg #[Vi bv.k,Vi bv.n,.string bv.s]) (λgh H sH fH lent=>han _)) ?_
    trivial
   rintro W12 S13 -;refine go0 5 [.b 2 0,.b 0 0] [] ?_;refine uQ (λH sH=>hH _ (hE.sees (S8.trans (S13.trans sH)))) ?_; rintro _ W14 S15 ⟨A5,c5,u50,rfl,f50,g50⟩;refine go1 22 [.own,.b 0 0] [] ?_;intro bnw;obtain ⟨Ad,hAd⟩:∃ x,x=(if cs=(p + 1) then (some ⟨b4,o5,none⟩) else (some ⟨b4,o5,none⟩:Option Addr).map (·.add ((p + 1) * 8))):=⟨_,rfl⟩;refine oV 13 0 [.ld 0 0,.pu,.pu,.v (λgh=>.slice (some ⟨b4,o5,none⟩) p cs),.pu,.pu,.v (λgh=>Vi ((p + 1:Nat):Int)),.v (λgh=>.slice Ad (lt.length - (p + 1)) (cs - (p + 1))),.pu,.f (λgh=>.slice (some ⟨(xJ (gh 9)),0,none⟩) 3 3) (λgh hh=>Cells hh (xJ (gh 9)) 0 [.slice (some ⟨b4,o5,none⟩) p cs,.slice Ad (lt.length - (p + 1)) (cs - (p + 1)),sL (agJ 5 u50)]),.f (λgh=>.slice (sA (gh 10)) ((l1++l2++more).length) (sC (gh 10))) (λgh hh=>RS hh 8 (.slice (sA (gh 10)) (l1++l2++more).length (sC (gh 10))) (oW (l1++l2++more))),.st 3 0,.pu] [(9,true),(10,false)] (Aj (λ_ _ _ s c=>c.sees s) (Aj (λ_ _ _ s c=>c.sees s) (trivial))) ?_ ?_
   ·intro R hT hA hmono;refine Aj (t_p hT hA (λgh=>.slice (some ⟨b4,o5,none⟩) p cs) (λgh w=>run_hi (t:=37) (e:=57) (x:=(.tmp 59)) (y:=(.tmp 60)) (A:=(some ⟨b4,o5,none⟩)) (n:=lt.length) (cap:=cs) (k:=p) (kk:=8) (by kernel_rfl) (by kernel_rfl) (by kernel_rfl) (by omega) Tryz.underlying37 (by kernel_rfl))) ?_;refine Aj (uZ hT hA (λgh=>Vi ((p + 1:Nat):Int)) (λgh=>Vi (IntKind.i64.wrap ((p:Int) + 1))) (λgh=>jJ (by omega) (by omega))) ?_;refine Aj (t_p hT hA (λgh=>.slice Ad (lt.length - (p + 1)) (cs - (p + 1))) (λgh w=>run_lo (t:=37) (e:=57) (x:=(.tmp 62)) (y:=(.tmp 64)) (A:=(some ⟨b4,o5,none⟩)) (A':=Ad) (n:=lt.length) (cap:=cs) (k:=(p + 1)) (kk:=8) (by kernel_rfl) (by kernel_rfl) (by kernel_rfl) (by omega) Tryz.underlying37 (by kernel_rfl) hAd)) ?_;refine Aj (mY hT hA hmono 67 (λg=>Vs g 3 3) [3,7,8] 9 (λgh=>[.slice (some ⟨b4,o5,none⟩) p cs,.slice Ad (lt.length - (p + 1)) (cs - (p + 1)),sL (agJ 5 u50)]) 37 (λgh zb zH zc zj zq zhq zhe=>tX (i:=9) (k:=0) (f:=λgh hh=>Cells hh (xJ (gh 9)) 0 [.slice (some ⟨b4,o5,none⟩) p cs,.slice Ad (lt.length - (p + 1)) (cs - (p + 1)),sL (agJ 5 u50)]) zc zj zq zhq zhe)) ?_;refine Aj (lY hT hA hmono 68 (λu=>.slice (sA u) (l1++l2++more).length (sC u)) [9] 10 17 (λgh=>#[.slice (some ⟨(xJ (gh 9)),0,none⟩) 3 3]) (λgh H sH fH lent=>C0.facts (R:=R) (x:=gh) (i:=10) (n:=1) (F:=(λu=>.slice (sA u) (l1++l2++more).length (sC u))) (G:=λu hh=>RS hh 8 (.slice (sA u) (l1++l2++more).length (sC u)) (oW (l1++l2++more))) (f:=λgh hh=>RS hh 8 (.slice (sA (gh 10)) (l1++l2++more).length (sC (gh 10))) (oW (l1++l2++more))) (calm_cat hp1 hp2 hp3 (by rw [Bk,Bk] at hl2; omega) (hS.sees (S8.trans (S13.trans (S15.trans sH)))) hAd (g50.sees sH) (fH 0 _ rfl (by kernel_rfl))) (by kernel_rfl) (by kernel_rfl) (λ_ _ r=>r))) ?_
    trivial
   rintro b17 u68 W18 S19 ⟨f16,f68,-⟩;replace f16:Cells W18 b17 0 [.slice (some ⟨b4,o5,none⟩) p cs,.slice Ad (lt.length - (p + 1)) (cs - (p + 1)),sL (agJ 5 u50)]:=f16;replace f68:RS W18 8 (.slice (sA u68) (l1++l2++more).length (sC u68)) (oW (l1++l2++more)):=f68;refine aV f16 ?_;refine go0 6 [] [(69,Vi (IntKind.i64.wrap ((k:Int) + 1)),Vi ((k:Int) + 1))] ?_ (hc:=(Aj (jJ (by omega) (by omega)) (trivial)));exact qV (k + 1) (λX q=>⟨W18,E',(l1++l2++more),A5,c5,u50,(sA u68),(sC u68),q _ _ _ _ ⟨rfl,by kernel_rfl⟩,(S3.trans (S8.trans (S13.trans (S15.trans S19)))),hK',(f50.sees S19),f68⟩)
  ·skip;obtain ⟨p,hp⟩:∃ p:Nat,p=0:=⟨0,rfl⟩
   have hp3:p + 1 <= lt.length:=by omega
   obtain ⟨l1,y,l2,hsp,hp1,hp2,hy⟩:=cut_at hp3;have hcap:lt.length <= cs:=by
    obtain ⟨_,_,e,q,-⟩:=hS.form;simp only [Jk] at e;omega
   have hry:(oW lt)[p]?=some y.cells:=by rw [Mj,hy]; rfl
   refine pV 8 (v:=Vi 0) (v':=Vi (p:Int)) (Dj (Value.int .i64) (by omega)) ?_;refine cV (t:=last) (hb) ?_;refine go0 6 [] [] ?_;obtain ⟨i,f,c,hff,hc,hyn,hyk,hxo,hK'⟩:=(hsp ▸ hK:CalQ fm P ρ lv ip L k E (l1++y :: l2)).step hL;obtain ⟨km,hM,hkm⟩:=hK.m;obtain ⟨km',hM',hkm'⟩:=hK'.m;have hF:=hM.ok.fm.fields.each f (Ej hff);have few:=hM.ok.fm.fields.few;have hil:=(Nj.1 hff).1;obtain ⟨vs,Ax,cx,ex,-,-,hr4,hs4,hl4,hu4⟩:=iQ hE.form.fields;have hfl:E.fm.fields.length=n:=by rw [hM.efm]; exact hnn
   rw [hfl] at hr4 ex;simp only [Jk] at ex;obtain ⟨rfl,-,rfl⟩:=ex;obtain ⟨v2,hv2⟩:∃ v,vs[i]?=some v:=⟨_,Fj (by omega)⟩;have hrow:=eQ hff hv2;obtain ⟨Au,nu,cu,rfl⟩:=(AllSrc.get hs4 hff hv2).slice;have hfi:lQ E.fm.fields y.nm=(i:Int):=by rw [hyn]; exact mQ hM.ok.fm.fields.nodup hff
   have hix:∀ b H,RS H 9 (.slice A n cA) (dQ E.fm.fields vs) -> Cells H b 0 [Vt y.nm,Vi y.id,Vi y.key.k,Vi y.key.n,.string y.key.s,Vi y.ans.k,Vi y.ans.n,.string y.ans.s] -> C0 Tryz.prog 53 #[.slice A n cA,.func (.func 54) #[] #[.pointer (some ⟨b,0,none⟩)]] H (λr _=>r=Vi (i:Int)):=λb H q1 q2=>by
    have q:=idxF_calm E.fm.fields vs A cA y b H (by rw [hfl]; exact q1) (by omega) hl4 hu4 q2;rw [hfi,hfl] at q;exact q
   have han:=λH=>answered_any f Au nu cu y.key H (name_print hF.name).1 (known_size hyk) hF.t1 hF.t3;have bl:=hM.last;have hcl:=hM.ok.calls.len;have hcl':=hM'.ok.calls.len;have hck:=cntK_le E.calls;have hck':=cntK_le (hrdE E ρ i f (tJ f y) c).calls;have few':=hM'.ok.fm.fields.few;have hH:=λH q=>hear_gen (A:=A) (cA:=cA) (u:=ue) (h:=H) hM.ok hM.se hff hc hyn hxo (by omega) q hfl;have hl2:=hM'.len;clear hM';generalize ansV f y.key=bv at *;generalize hrdE E ρ i f (tJ f y) c=E' at *;generalize hrdT E ρ i f (tJ f y) c=more at *;generalize hrdB f (tJ f y) c=tk at *;obtain ⟨b20,o21,rfl,-,c22⟩:=RS.row hS (hry);refine aV (c22.sees (Sees.refl _)) ?_;refine go1 12 [.ix b20 o21 lt.length cs p,.f 0 0,.own,.b 0 0,.b 2 0] [] ?_ (ho:=(Aj (by first | omega | (simp; omega)) (trivial)));intro blx;refine g_callq (λa w hJ=>hix blx _ (hr4.sees hJ.j.seesQ) (hJ.j.boxQ (b:=blx) (cs:=[Vt y.nm,Vi y.id,Vi y.key.k,Vi y.key.n,.string y.key.s,Vi y.ans.k,Vi y.ans.n,.string y.ans.s]) 0 (by kernel_rfl))) ?_; intro W23 S24;refine go0 10 [] [] ?_;refine cV (t:=decide ((i:Int) < 0)) (Kj (by omega)) ?_;refine go0 3 [] [] ?_;obtain ⟨b25,o26,rfl,-,c27⟩:=RS.row hr4 (hrow);refine aV (c27.sees S24) ?_;refine oV 11 0 [.pu,.pu,.ld 2 0,.pu,.v (λgh=>.pointer (some ⟨b25,o26 + i * 9,none⟩)),.lf 0 0,.pu,.ld 0 2,.v (λgh=>.agg #[Vi bv.k,Vi bv.n,.string bv.s]),.pu,.st 0 5] [] (trivial) ?_ ?_
   ·intro R hT hA hmono;refine Aj (vZ hT hA b25 o26 n cA i (λgh=>.pointer (some ⟨b25,o26 + i * 9,none⟩)) (by first | omega | (simp; omega))) ?_;refine Aj (t_v hT hA hmono (k:=55) (args:=(λgh=>#[.agg #[Vt f.name,Vi f.kind,Vi f.ty,Vi f.src.op,Vi f.src.k,Vi f.src.n,.string f.src.s,.string f.src.nm,.slice Au nu cu],.agg #[Vi y.key.k,Vi y.key.n,.string y.key.s]])) (f:=λgh=>.agg #[Vi bv.k,Vi bv.n,.string bv.s]) (λgh H sH fH lent=>han _)) ?_
    trivial
   rintro W28 S29 -;refine go0 5 [.b 2 0,.b 0 0] [] ?_;refine uQ (λH sH=>hH _ (hE.sees (S24.trans (S29.trans sH)))) ?_; rintro _ W30 S31 ⟨A5,c5,u50,rfl,f50,g50⟩;refine go1 22 [.own,.b 0 0] [] ?_;intro bnw;obtain ⟨Ae,hAe⟩:∃ x,x=(if cs=(p + 1) then (some ⟨b20,o21,none⟩) else (some ⟨b20,o21,none⟩:Option Addr).map (·.add ((p + 1) * 8))):=⟨_,rfl⟩;refine oV 13 0 [.ld 0 0,.pu,.pu,.v (λgh=>.slice (some ⟨b20,o21,none⟩) p cs),.pu,.pu,.v (λgh=>Vi ((p + 1:Nat):Int)),.v (λgh=>.slice Ae (lt.length - (p + 1)) (cs - (p + 1))),.pu,.f (λgh=>.slice (some ⟨(xJ (gh 9)),0,none⟩) 3 3) (λgh hh=>Cells hh (xJ (gh 9)) 0 [.slice (some ⟨b20,o21,none⟩) p cs,.slice Ae (lt.length - (p + 1)) (cs - (p + 1)),sL (agJ 5 u50)]),.f (λgh=>.slice (sA (gh 10)) ((l1++l2++more).length) (sC (gh 10))) (λgh hh=>RS hh 8 (.slice (sA (gh 10)) (l1++l2++more).length (sC (gh 10))) (oW (l1++l2++more))),.st 3 0,.pu] [(9,true),(10,false)] (Aj (λ_ _ _ s c=>c.sees s) (Aj (λ_ _ _ s c=>c.sees s) (trivial))) ?_ ?_
   ·intro R hT hA hmono;refine Aj (t_p hT hA (λgh=>.slice (some ⟨b20,o21,none⟩) p cs) (λgh w=>run_hi (t:=37) (e:=57) (x:=(.tmp 59)) (y:=(.tmp 60)) (A:=(some ⟨b20,o21,none⟩)) (n:=lt.length) (cap:=cs) (k:=p) (kk:=8) (by kernel_rfl) (by kernel_rfl) (by kernel_rfl) (by omega) Tryz.underlying37 (by kernel_rfl))) ?_;refine Aj (uZ hT hA (λgh=>Vi ((p + 1:Nat):Int)) (λgh=>Vi (IntKind.i64.wrap ((p:Int) + 1))) (λgh=>jJ (by omega) (by omega))) ?_;refine Aj (t_p hT hA (λgh=>.slice Ae (lt.length - (p + 1)) (cs - (p + 1))) (λgh w=>run_lo (t:=37) (e:=57) (x:=(.tmp 62)) (y:=(.tmp 64)) (A:=(some ⟨b20,o21,none⟩)) (A':=Ae) (n:=lt.length) (cap:=cs) (k:=(p + 1)) (kk:=8) (by kernel_rfl) (by kernel_rfl) (by kernel_rfl) (by omega) Tryz.underlying37 (by kernel_rfl) hAe)) ?_;refine Aj (mY hT hA hmono 67 (λg=>Vs g 3 3) [3,7,8] 9 (λgh=>[.slice (some ⟨b20,o21,none⟩) p cs,.slice Ae (lt.length - (p + 1)) (cs - (p + 1)),sL (agJ 5 u50)]) 37 (λgh zb zH zc zj zq zhq zhe=>tX (i:=9) (k:=0) (f:=λgh hh=>Cells hh (xJ (gh 9)) 0 [.slice (some ⟨b20,o21,none⟩) p cs,.slice Ae (lt.length - (p + 1)) (cs - (p + 1)),sL (agJ 5 u50)]) zc zj zq zhq zhe)) ?_;refine Aj (lY hT hA hmono 68 (λu=>.slice (sA u) (l1++l2++more).length (sC u)) [9] 10 17 (λgh=>#[.slice (some ⟨(xJ (gh 9)),0,none⟩) 3 3]) (λgh H sH fH lent=>C0.facts (R:=R) (x:=gh) (i:=10) (n:=1) (F:=(λu=>.slice (sA u) (l1++l2++more).length (sC u))) (G:=λu hh=>RS hh 8 (.slice (sA u) (l1++l2++more).length (sC u)) (oW (l1++l2++more))) (f:=λgh hh=>RS hh 8 (.slice (sA (gh 10)) (l1++l2++more).length (sC (gh 10))) (oW (l1++l2++more))) (calm_cat hp1 hp2 hp3 (by rw [Bk,Bk] at hl2; omega) (hS.sees (S24.trans (S29.trans (S31.trans sH)))) hAe (g50.sees sH) (fH 0 _ rfl (by kernel_rfl))) (by kernel_rfl) (by kernel_rfl) (λ_ _ r=>r))) ?_
    trivial
   rintro b33 u68 W34 S35 ⟨f32,f68,-⟩;replace f32:Cells W34 b33 0 [.slice (some ⟨b20,o21,none⟩) p cs,.slice Ae (lt.length - (p + 1)) (cs - (p + 1)),sL (agJ 5 u50)]:=f32;replace f68:RS W34 8 (.slice (sA u68) (l1++l2++more).length (sC u68)) (oW (l1++l2++more)):=f68;refine aV f32 ?_;refine go0 6 [] [(69,Vi (IntKind.i64.wrap ((k:Int) + 1)),Vi ((k:Int) + 1))] ?_ (hc:=(Aj (jJ (by omega) (by omega)) (trivial)));exact qV (k + 1) (λX q=>⟨W34,E',(l1++l2++more),A5,c5,u50,(sA u68),(sC u68),q _ _ _ _ ⟨rfl,by kernel_rfl⟩,(S3.trans (S24.trans (S29.trans (S31.trans S35)))),hK',(f50.sees S35),f68⟩)
theorem orc1_any (p:Aw) (b:Nat) (x:Aw) (h:Vw) (hc:Cells h b 0 (anRow x)):C0 Tryz.prog 163 #[.agg #[Vt p.nm,Vi p.key.k,Vi p.key.n,.string p.key.s,Vi p.has.k,Vi p.has.n,.string p.has.s],.pointer (some ⟨b,0,none⟩)] h (λr _=>r=.bool (p.hit x.nm x.key)):=by
 unfold Aw.hit;refine zQ Tryz.func163 λhbx hbad Q hQ=>?_;refine aV (hc.sees (Sees.refl _)) ?_;refine go1 14 [.own,.b 0 0,.f 0 0] [] ?_;intro b1
 cases boolIs (p.nm.toList == x.nm.toList) with
 | true hq =>
  generalize hg:eqB p.key x.key=g at *;refine pV 9 (v:=.bool (p.nm.toList == x.nm.toList)) (v':=.bool true) (Dj Value.bool hq) ?_;refine go0 4 [.b 0 1,.f 0 1] [] ?_;refine nV (.bool g) (λw=>run_eqop (x:=(.tmp 11)) (y:=(.tmp 13)) (v:=p.key) (w:=x.key) (by kernel_rfl) (by kernel_rfl) (by kernel_rfl) (hg)) ?_;refine go0 5 [] [] ?_;refine hQ.to [.bool g] (λH sH=>?_);exact Dj Value.bool (by rw [hq]; rfl)
 | false hq =>
  refine pV 9 (v:=.bool (p.nm.toList == x.nm.toList)) (v':=.bool false) (Dj Value.bool hq) ?_;refine go0 10 [] [] ?_;refine hQ.to [.bool false] (λH sH=>?_);exact Dj Value.bool (by rw [hq]; rfl)
theorem idxOrc_any (l:List Aw) (A:Option Addr) (cap:Nat) (b:Nat) (x:Aw) (h:Vw) (hr:RS h 7 (.slice A l.length cap) (rJ l)) (hl:l.length <= 1000000) (hc:Cells h b 0 (anRow x)) (hno:∀ q∈l,q.hit x.nm x.key=false) :
  C0 Tryz.prog 50 #[.slice A l.length cap,.func (.func 163) #[] #[.pointer (some ⟨b,0,none⟩)]] h (λr _=>r=Vi (-1)):=by
 generalize hL:l.length=len at *;refine zQ Tryz.func50 λhbx hbad Q hQ=>?_;refine go0 14 [] [] ?_;refine iV [0,1,0,1] [.block 0,.seq [1,1]] (λ(k:Nat) X=>∃ (W1:Vw) ,X W1 [(0,.slice A len cap),(1,.func (.func 163) #[] #[Vp b]),(7,Vi (len:Int)),(8,Vi (k:Int))] [] [] /\ Sees h W1 /\ (k <= len)) (λk=>len - k) (0) (λX q=>⟨h,q _ _ _ _ ⟨rfl,by kernel_rfl⟩,Sees.refl _,Oj _⟩) ?_;rintro k a w ⟨W1,hJ,S2,hk⟩; refine mV hJ ?_; clear hJ a w;refine go0 6 [] [] ?_;rcases (by omega:k < len\/k=len) with hlt | hke
 ·obtain ⟨q,hqk⟩:∃ q,l[k]?=some q:=⟨_,Fj (by omega)⟩;have hrow:(rJ l)[k]?=some (anRow q):=by rw [Mj,hqk]; rfl
  have hq1:=λH q1=>orc1_any q b x H q1;rw [hno q (Ej hqk)] at hq1;refine rV (t:=decide ((k:Int) < (len:Int))) (Jj (by omega)) ?_;refine go0 15 [] [] ?_;obtain ⟨b3,o4,rfl,-,c5⟩:=RS.row hr (hrow);refine aV (c5.sees S2) ?_;refine go0 13 [.ix b3 o4 len cap k,.f 0 0,.cl 163 #[.agg #[Vt q.nm,Vi q.key.k,Vi q.key.n,.string q.key.s,Vi q.has.k,Vi q.has.n,.string q.has.s],Vp b] (.bool false)] [(18,Vi (IntKind.i64.wrap ((k:Int) + 1)),Vi ((k:Int) + 1))] ?_ (ho:=(Aj (by first | omega | (simp; omega)) (Aj (λH sH=>hq1 _ (hc.sees (S2.trans sH))) (trivial)))) (hc:=(Aj (jJ (by omega) (by omega)) (trivial)));exact qV (k + 1) (λX q=>⟨W1,q _ _ _ _ ⟨rfl,by kernel_rfl⟩,S2,by omega⟩)
 ·skip;refine cV (t:=decide ((k:Int) < (len:Int))) (Kj (by omega)) ?_
  refine go0 2 [] [] ?_;refine gV ?_;refine go0 8 [] [] ?_;refine hQ.to [Vi (-1)] (λH sH=>?_);exact rfl
theorem contOrc_any (l:List Aw) (A:Option Addr) (cap:Nat) (b:Nat) (x:Aw) (h:Vw) (hr:RS h 7 (.slice A l.length cap) (rJ l)) (hl:l.length <= 1000000) (hc:Cells h b 0 (anRow x)) (hno:∀ q∈l,q.hit x.nm x.key=false) :
  C0 Tryz.prog 61 #[.slice A l.length cap,.func (.func 163) #[] #[.pointer (some ⟨b,0,none⟩)]] h (λr _=>r=.bool false):=by
 have hi:=λH q1 q2=>idxOrc_any l A cap b x H q1 hl q2 hno;refine zQ Tryz.func61 λhbx hbad Q hQ=>?_;refine go0 15 [.cl 50 #[.slice A l.length cap,.func (.func 163) #[] #[Vp b]] (Vi (-1))] [] ?_ (ho:=(Aj (λH sH=>hi _ (hr.sees sH) (hc.sees sH)) (trivial)));refine hQ.to [.bool false] (λH sH=>?_);exact rfl
theorem once_take {l:List Aw} (h:l.Pairwise (λp q=>p.hit q.nm q.key=false)) {k:Nat} {x:Aw} (hx:l[k]?=some x):∀ q∈l.take k,q.hit x.nm x.key=false:=λq hq=>by
 obtain ⟨i,hi⟩:=Xk hq;have hik:i < k:=by
  rcases Xq i k with g | g
  ·exact g
  ·rw [Jq (by rw [Kk]; omega)] at hi; cases hi
 rw [List.getElem?_take_of_lt hik] at hi;obtain ⟨a,ea⟩:=Nj.1 hi;obtain ⟨b,eb⟩:=Nj.1 hx
 have:=List.pairwise_iff_getElem.1 h i k a b hik
 rw [ea,eb] at this;exact this
theorem whOracle_any (fs:List Fd) (hok:OkFs fs) (l:List Aw) (ho:OkOrc fs l) (A:Option Addr) (n c:Nat) (B:Option Addr) (m d:Nat) (so:Value) (h:Vw) (hf:IsFds h (.slice A n c) fs) (hn:n=fs.length) (hr:RS h 7 so (rJ l)) (hl:l.length <= 1000) :
  C0 Tryz.prog 110 #[.agg #[.slice A n c,.slice B m d],so] h (λr _=>r=Vi 0):=by
 obtain ⟨vs,A3,c3,e3,-,-,hr3,hs3,hl3,hsl⟩:=iQ hf;have few:=hok.few;have hF:=λH s i q hp=>find_yes fs (.slice A n c) s i H q (by omega) hp;have hT:=λH x v q1 q2 q3 q4=>tyOf_any fs x v (.slice A n c) H q1 q2 q3 q4;simp only [Jk] at e3;obtain ⟨rfl,-,rfl⟩:=e3;rw [<- hn] at hr3 hl3;obtain ⟨A0,c0,rfl,hc1,-,-⟩:=hr.form;rw [Hj] at *;have hC:=λk H b x q1 q2 q3=>contOrc_any (l.take k) A0 c0 b x H q1 (by rw [Kk]; omega) q2 q3;generalize hL:l.length=len at *;refine zQ Tryz.func110 λhbx hbad Q hQ=>?_;refine go1 15 [.own] [] ?_;intro b1;refine iV [0,1,0,1] [.block 0,.seq [1,1]] (λ(k:Nat) X=>∃ (W2:Vw) ,X W2 [(1,.slice A0 len c0),(2,Vp b1),(13,.slice A0 len c0),(14,Vi (len:Int)),(15,Vi (k:Int))] [.box b1 [.slice A n c,.slice B m d]] [] /\ Sees h W2 /\ (k <= len)) (λk=>len - k) (0) (λX q=>⟨h,q _ _ _ _ ⟨rfl,by kernel_rfl⟩,Sees.refl _,Oj _⟩) ?_;rintro k a w ⟨W2,hJ,S3,hkl⟩; refine mV hJ ?_; clear hJ a w;refine go0 6 [] [] ?_;rcases (by omega:k < len\/k=len) with hlt | hke
 ·obtain ⟨x,hxk⟩:∃ x,l[k]?=some x:=⟨_,Fj (by omega)⟩;have hrow:(rJ l)[k]?=some (anRow x):=by rw [Mj,hxk]; rfl
  have hno:=once_take ho.once hxk;have hx:=ho.each x (Ej hxk);obtain ⟨i,f,t,p1,p2,p3,p4,p5,p6⟩:=hx.place;have hil:=(Nj.1 p1).1;have hF1:=hok.each f (Ej p1);obtain ⟨w1,w2,w3⟩:=hF1.wf (by omega);obtain ⟨u,hu⟩:∃ u,vs[i]?=some u:=⟨_,Fj (by omega)⟩;have hfr:=eQ p1 hu;have hga:∀ H,AllSrc H fs vs -> IsArgs H f.src u:=λH q=>AllArgs.get q (x:=f.src) (by rw [Mj,p1]; rfl) hu;obtain ⟨Au,nu,cu,rfl⟩:=(hga _ hs3).slice;have hfd:=mQ hok.nodup p1;have hF2:=λH q=>hF H x.nm i q (by rw [<- p2]; exact hfd);have hT2:=λH q1 q2=>hT H f.src (.slice Au nu cu) q1 w1 (by omega) q2;rw [show ofE fs f.src=(t,0) from by unfold ofE; rw [Cj w3,p4]] at hT2;have hk1:=λH=>c_kn x.key.k x.key.n x.key.s H hx.key;have hk2:=λH=>check_okv x.has H (.inl hx.has);have htl:(l.take k).length=k:=by rw [Kk]; omega
  have htr:RS h 7 (.slice A0 k c0) (rJ (l.take k)):=by have:=hr.take k (by rw [Hj]; omega); rwa [<- List.map_take] at this
  have hC2:=λH b q1 q2=>hC k H b x q1 q2 hno;rw [htl] at hC2;refine rV (t:=decide ((k:Int) < (len:Int))) (Jj (by omega)) ?_;refine go0 7 [] [] ?_;obtain ⟨b4,o5,rfl,-,c6⟩:=RS.row hr (hrow);refine aV (c6.sees S3) ?_;refine go1 36 [.ix b4 o5 len c0 k,.f 0 0,.own,.b 0 0,.b 1 0,.b 0 0,.cl 96 #[.slice A n c,.string x.nm] (.tuple #[Vi (i:Int),Vi 0]),.b 1 0] [] ?_ (ho:=(Aj (by first | omega | (simp; omega)) (Aj (λH sH=>hF2 _ (hf.sees (S3.trans sH))) (trivial))));intro bx;obtain ⟨b7,o8,rfl,-,c9⟩:=RS.row hr3 (hfr);refine aV (c9.sees S3) ?_;refine go1 86 [.ix b7 o8 n c i,.f 0 0,.own,.b 0 0,.b 0 1,.b 0 3,.b 2 0,.cl 162 #[.agg #[Vi f.src.op,Vi f.src.k,Vi f.src.n,.string f.src.s,.string f.src.nm,.slice Au nu cu],.slice (some ⟨b7,o8,none⟩) n c] (.tuple #[Vi t,Vi 0]),.b 1 1,.cl 60 #[.agg #[Vi x.key.k,Vi x.key.n,.string x.key.s]] (.bool true),.b 1 1,.b 1 4,.cl 85 #[.agg #[Vi x.has.k,Vi x.has.n,.string x.has.s]] (Vi 0),.b 1 4,.b 0 2] [(38,.bool (f.kind != 3),.bool false),(56,.bool (x.key.k != t),.bool false),(69,.bool (x.has.k != f.ty),.bool false)] ?_ (ho:=(Aj (by first | omega | (simp; omega)) (Aj (λH sH=>hT2 _ (hga _ (hs3.sees (S3.trans sH))) (hf.sees (S3.trans sH))) (Aj (λH sH=>hk1 _) (Aj (λH sH=>hk2 _) (trivial)))))) (hc:=(Aj (Dj Value.bool (by rw [Nk]; exact p3)) (Aj (Dj Value.bool (by rw [Nk]; exact p5)) (Aj (Dj Value.bool (by rw [Nk]; exact p6)) (trivial)))));intro b10;refine nV (.slice (some ⟨b4,o5,none⟩) k c0) (λw=>run_hi (t:=32) (e:=122) (x:=(.tmp 77)) (y:=(.tmp 78)) (A:=(some ⟨b4,o5,none⟩)) (n:=len) (cap:=c0) (k:=k) (kk:=7) (by kernel_rfl) (by kernel_rfl) (by kernel_rfl) (by omega) Tryz.underlying32 (by kernel_rfl)) ?_;refine go0 1 [] [] ?_;refine g_callq (λa w hJ=>hC2 _ bx (htr.sees (S3.trans hJ.j.seesQ)) (hJ.j.boxQ (b:=bx) (cs:=[Vt x.nm,Vi x.key.k,Vi x.key.n,.string x.key.s,Vi x.has.k,Vi x.has.n,.string x.has.s]) 1 (by kernel_rfl))) ?_; intro W11 S12;refine go0 10 [] [(82,Vi (IntKind.i64.wrap ((k:Int) + 1)),Vi ((k:Int) + 1))] ?_ (hc:=(Aj (jJ (by omega) (by omega)) (trivial)));exact qV (k + 1) (λX q=>⟨W11,q _ _ _ _ ⟨rfl,by kernel_rfl⟩,(S3.trans S12),by omega⟩)
 ·skip;refine cV (t:=decide ((k:Int) < (len:Int))) (Kj (by omega)) ?_
  refine go0 2 [] [] ?_;refine gV ?_;refine go0 8 [] [] ?_;refine hQ.to [Vi 0] (λH sH=>?_);exact rfl
section
variable {P:Program} {C:Fx} {E:List (Nat × Value)} {B:List Ent} {F:List Fac} {h:Vw} {a:Act} {w w':World} {Q:Exit -> Act -> World -> Prop} {c0:Code} {p:List Nat} {n:Nat} {ks:List Kt}
theorem x_callownq {f:FuncId} {args:Array Value} {e:TypeId} {kk:Nat} {R:Value -> Value -> List (List Value) -> Prop} (hK:K C E B F h a w) (d:Nat) (hc:C0 P f args ⟨w,[]⟩ (λv h'=>∃ u l,Ent.ok w.heap.size h'.w (.row u e kk l) /\ R v u l)) (hk:∀ w,callAt P C E (oX c0 p) ((oX c0 p).toList.drop n) d w=[.b true,.r (.ok (.enter f args) w)])
  (k:∀ v u l h' a w,Sees h h' -> R v u l -> K C ((d,v) :: E) (.row u e kk l :: B) F h' a w -> Goal P c0 Q (.ops p (n + 1)) ks a w):Goal P c0 Q (.ops p n) ks a w:=by
 obtain ⟨o,r,hl,hg,hd,hlt,hkn,hrun⟩:=cK hk;have hr:=nK hl;refine kJ hl (qQ hK.j.fits hg) (Uk rfl λKK hKK=>?_);unfold Oper.wp;have hrun':∀ w,(execOp (evD E) { o with guard:=none }).run P w=.ok (.enter f args) w:=λw=>by
  have:=hrun w
  unfold execOp at this ⊢;exact this
 rw [dZ (o:={ o with guard:=none }) hK.j.fits hkn,hrun'];refine (hc (by intro x hx; cases hx) (by simp) (by simp) (by intro b hb; cases hb)).mono ?_;rintro e' w' ⟨v,Bo,rfl,hlo,-,-,u,l,hok,hR⟩;refine hKK _ _ ?_;rw [hr];have j1:=(hK.j.addRow hlo hok).putd v hd hlt;exact k v u l _ _ _ j1.sees hR ⟨j1.now,hK.facs j1.sees⟩
theorem g_callownq {s:Z} {f:FuncId} {args:Array Value} {e:TypeId} {kk:Nat} {R:Value -> Value -> List (List Value) -> Prop} (hc:∀ a w,K C s.E s.B s.F h a w -> C0 P f args ⟨w,[]⟩ (λv h'=>∃ u l,Ent.ok w.heap.size h'.w (.row u e kk l) /\ R v u l))
  (k:∀ v u l h',Sees h h' -> R v u l -> Go P C c0 Q h' ((s.nx c0 v).aB (.row u e kk l))) (hk:s.callOk P C c0 f args:=by intro _; kernel_rfl):Go P C c0 Q h s :=
 g_ops (dK hk).1 λa w hK=>x_callownq hK (s.d c0) (hc a w hK) (dK hk).2 λv u l h' a w s' r hK'=>(k v u l h' s' r).go a w hK'
end
theorem keep1_any (p:Aw) (x:Fd) (A:Option Addr) (n c:Nat) (key:Vl) (b d:Nat) (h:Vw) (hc:Cells h b 0 [Vt x.name,Vi x.kind,Vi x.ty,Vi x.src.op,Vi x.src.k,Vi x.src.n,.string x.src.s,.string x.src.nm,.slice A n c]) (hd:Cells h d 0 [Vi key.k,Vi key.n,.string key.s]):C0 Tryz.prog 62 #[.agg #[Vt p.nm,Vi p.key.k,Vi p.key.n,.string p.key.s,Vi p.has.k,Vi p.has.n,.string p.has.s],.pointer (some ⟨b,0,none⟩),.pointer (some ⟨d,0,none⟩)] h (λr _=>r=.bool (p.hit x.name key)):=by
 unfold Aw.hit;refine zQ Tryz.func62 λhbx hbad Q hQ=>?_;refine aV (hc.sees (Sees.refl _)) ?_;refine aV (hd.sees (Sees.refl _)) ?_;refine go1 14 [.own,.b 0 0,.f 1 0] [] ?_;intro b1
 cases boolIs (p.nm.toList == x.name.toList) with
 | true hq =>
  generalize hg:eqB p.key key=g at *;refine pV 10 (v:=.bool (p.nm.toList == x.name.toList)) (v':=.bool true) (Dj Value.bool hq) ?_;refine go0 3 [.b 0 1,.f 0 0] [] ?_;refine nV (.bool g) (λw=>run_eqop (x:=(.tmp 12)) (y:=(.tmp 13)) (v:=p.key) (w:=key) (by kernel_rfl) (by kernel_rfl) (by kernel_rfl) (hg)) ?_;refine go0 5 [] [] ?_;refine hQ.to [.bool g] (λH sH=>?_);exact Dj Value.bool (by rw [hq]; rfl)
 | false hq =>
  refine pV 10 (v:=.bool (p.nm.toList == x.name.toList)) (v':=.bool false) (Dj Value.bool hq) ?_;refine go0 9 [] [] ?_;refine hQ.to [.bool false] (λH sH=>?_);exact Dj Value.bool (by rw [hq]; rfl)
theorem idxKeep_any (l:List Aw) (v:Value) (x:Fd) (A:Option Addr) (n c:Nat) (key:Vl) (b d:Nat) (h:Vw) (hr:RS h 7 v (rJ l)) (hl:l.length <= 1000000) (hc:Cells h b 0 [Vt x.name,Vi x.kind,Vi x.ty,Vi x.src.op,Vi x.src.k,Vi x.src.n,.string x.src.s,.string x.src.nm,.slice A n c]) (hd:Cells h d 0 [Vi key.k,Vi key.n,.string key.s]) :
  C0 Tryz.prog 50 #[v,.func (.func 62) #[] #[.pointer (some ⟨b,0,none⟩),.pointer (some ⟨d,0,none⟩)]] h (λr _=>r=Vi (fidx (λq:Aw=>q.hit x.name key) l)):=by
 obtain ⟨Al,cap,rfl,-,-,-⟩:=hr.form;rw [Hj] at *;generalize hL:l.length=len at *;refine zQ Tryz.func50 λhbx hbad Q hQ=>?_;refine go0 14 [] [] ?_;refine iV [0,1,0,1] [.block 0,.seq [1,1]] (λ(k:Nat) X=>∃ (W1:Vw) ,X W1 [(0,.slice Al len cap),(1,.func (.func 62) #[] #[Vp b,Vp d]),(7,Vi (len:Int)),(8,Vi (k:Int))] [] [] /\ Sees h W1 /\ (k <= len) /\ (∀ y∈l.take k,y.hit x.name key=false)) (λk=>len - k) (0) (λX q=>⟨h,q _ _ _ _ ⟨rfl,by kernel_rfl⟩,Sees.refl _,Oj _,λy hy=>by simp at hy⟩) ?_;rintro k a w ⟨W1,hJ,S2,hk,hn⟩; refine mV hJ ?_; clear hJ a w;refine go0 6 [] [] ?_;rcases (by omega:k < len\/k=len) with hlt | hke
 ·obtain ⟨f,hfk⟩:∃ f,l[k]?=some f:=⟨_,Fj (by omega)⟩;have hrow:(rJ l)[k]?=some (anRow f):=by rw [Mj,hfk]; rfl
  generalize hq:f.hit x.name key=q at *;have hq1:=λH q1 q2=>keep1_any f x A n c key b d H q1 q2;rw [hq] at hq1;refine rV (t:=decide ((k:Int) < (len:Int))) (Jj (by omega)) ?_;refine go0 15 [] [] ?_;obtain ⟨b3,o4,rfl,-,c5⟩:=RS.row hr (hrow);refine aV (c5.sees S2) ?_;refine go0 5 [.ix b3 o4 len cap k,.f 0 0,.cl 62 #[.agg #[Vt f.nm,Vi f.key.k,Vi f.key.n,.string f.key.s,Vi f.has.k,Vi f.has.n,.string f.has.s],Vp b,Vp d] (.bool q)] [] ?_ (ho:=(Aj (by first | omega | (simp; omega)) (Aj (λH sH=>hq1 _ (hc.sees (S2.trans sH)) (hd.sees (S2.trans sH))) (trivial))));rcases Bw q with hh | hh
  ·refine rV (t:=q) (hh) ?_;refine go0 9 [] [] ?_;refine gV ?_;refine go0 2 [] [] ?_;refine hQ.to [Vi (k:Int)] (λH sH=>?_);exact Dj (Value.int .i64) (jQ _ l k f hn hfk (hq.trans hh)).symm
  ·skip;refine cV (t:=q) (hh) ?_
   refine go0 7 [] [(18,Vi (IntKind.i64.wrap ((k:Int) + 1)),Vi ((k:Int) + 1))] ?_ (hc:=(Aj (jJ (by omega) (by omega)) (trivial)));exact qV (k + 1) (λX q=>⟨W1,q _ _ _ _ ⟨rfl,by kernel_rfl⟩,S2,by omega,(by rw [wZ l k f hfk]; exact λy hy=>(Qj.1 hy).elim (hn y) (λe=>by rw [Pj.1 e]; exact hq.trans hh))⟩)
 ·skip;have htk:l.take k=l:=by rw [hke, <- hL,Pk]
  rw [htk] at hn;refine cV (t:=decide ((k:Int) < (len:Int))) (Kj (by omega)) ?_;refine go0 2 [] [] ?_;refine gV ?_;refine go0 8 [] [] ?_;refine hQ.to [Vi (-1)] (λH sH=>?_);exact Dj (Value.int .i64) (kQ _ l hn).symm
theorem contKeep_any (l:List Aw) (v:Value) (x:Fd) (A:Option Addr) (n c:Nat) (key:Vl) (b d:Nat) (h:Vw) (hr:RS h 7 v (rJ l)) (hl:l.length <= 1000000) (hc:Cells h b 0 [Vt x.name,Vi x.kind,Vi x.ty,Vi x.src.op,Vi x.src.k,Vi x.src.n,.string x.src.s,.string x.src.nm,.slice A n c]) (hd:Cells h d 0 [Vi key.k,Vi key.n,.string key.s]) :
  C0 Tryz.prog 61 #[v,.func (.func 62) #[] #[.pointer (some ⟨b,0,none⟩),.pointer (some ⟨d,0,none⟩)]] h (λr _=>r=.bool (l.any (λq=>q.hit x.name key))):=by
 have hi:=λH q1 q2 q3=>idxKeep_any l v x A n c key b d H q1 hl q2 q3;have e:=fidx_dec (λq:Aw=>q.hit x.name key) l;obtain ⟨Al,cap,rfl,-,-,-⟩:=hr.form;generalize fidx (λq:Aw=>q.hit x.name key) l=p at *;refine zQ Tryz.func61 λhbx hbad Q hQ=>?_;refine go0 15 [.cl 50 #[.slice Al ((rJ l).length) cap,.func (.func 62) #[] #[Vp b,Vp d]] (Vi p)] [] ?_ (ho:=(Aj (λH sH=>hi _ (hr.sees sH) (hc.sees sH) (hd.sees sH)) (trivial)));refine hQ.to [.bool (decide (p ≥ 0))] (λH sH=>?_);exact Dj Value.bool e
theorem addO_eq (env:Env) (out:List Aw) (f:Fd):addO env out f=if f.kind=3 then (if (pK env f.src).k <= 3 /\ out.any (λp=>p.hit f.name (pK env f.src))=false then out++[⟨f.name,pK env f.src,ansV f (pK env f.src)⟩] else out) else out:=by
 unfold addO
 by_cases h3:f.kind=3
 ·rw [Cj h3]
  by_cases g:(pK env f.src).k <= 3 /\ out.any (λp=>p.hit f.name (pK env f.src))=false
  ·rw [Cj ⟨h3,g⟩,Cj g]
  ·rw [Bj (λq=>g q.2),Bj g]
 ·rw [Bj (λq=>h3 q.1),Bj h3]
theorem anRows_snoc (l:List Aw) (p:Aw):rJ (l++[p])=rJ l++[anRow p]:=by simp [rJ]
theorem oracle_l (f:Fm) (ρ:List Int) (lv:Nat -> Nat) (A:Option Addr) (n c:Nat) (B:Option Addr) (m d:Nat) (inp:Env) (si:Value) (h:Vw) (hok:OkFm f ρ lv) (hf:IsForm h (.slice A n c) (.slice B m d) f) (hn:n=f.fields.length) (h1:1 <= n)
  (hi:RS h 7 si (bQ inp)) (li:inp.length <= 1000) (ki:∀ p∈inp,p.2.known) (ti:xK f.fields [] inp=0) (hW:Wh f.fields inp ρ lv (rX ρ n)) :
  C0 Tryz.prog 21 #[.agg #[.slice A n c,.slice B m d],si] h (λr h'=>∃ A' c',r=.tuple #[.slice A' (qX f.fields inp (rX ρ n) n).length c',.bool true] /\ RS h' 7 (.slice A' (qX f.fields inp (rX ρ n) n).length c') (rJ (qX f.fields inp (rX ρ n) n))):=by
 have few:=hok.fields.few;have hAll:=λso orc H q1 q2 q3 q4 q5=>whAll_own f ρ lv A n c B m d inp si so orc H hok q1 hn h1 q2 li ki ti q3 q4 (OkOrc.has q5) (λH' g1 g2=>whOracle_any f.fields hok.fields orc q5 A n c B m d so H' g1.fields hn g2 q4);have hlen:=orcL_len f.fields inp (rX ρ n);have horc:=hW.orc;have hsol:=λr=>hW.sol (horc r);have hstep:∀ r,qX f.fields inp (rX ρ n) (r + 1)=wY (fcs f.fields (allW f.fields inp (qX f.fields inp (rX ρ n) r) (rX ρ n))) f.fields (qX f.fields inp (rX ρ n) r):=λr=>rfl;have hz:qX f.fields inp (rX ρ n) 0=[]:=rfl;have hFa:=λva A1 c1 H q1 q2 q3=>facts_l f.fields va A n c A1 c1 H q1 hn (by omega) q2 q3;obtain ⟨A1,c1,rfl,-,-,-⟩:=hi.form;rw [Hj] at *;obtain ⟨vs,A3,c3,e3,-,-,hr3,hs3,hl3,hsl⟩:=iQ hf.fields;simp only [Jk] at e3;obtain ⟨rfl,-,rfl⟩:=e3;rw [<- hn] at hr3 hl3 hlen;generalize hni:inp.length=ni at *;clear hW;generalize hO:qX f.fields inp (rX ρ n)=orc at *;generalize hV:(λr=>allW f.fields inp (orc r) (rX ρ n))=va at *;have hV':∀ r,allW f.fields inp (orc r) (rX ρ n)=va r:=λr=>congrFun hV r;simp only [hV'] at hsol hstep;have hAll':=λso r H q1 q2 q3 q4=>hAll so (orc r) H q1 q2 q3 q4 (horc r);simp only [hV'] at hAll';clear hAll hV hV' hO;refine zQ Tryz.func21 λhbx hbad Q hQ=>?_;refine go1 22 [.own,.b 0 0] [] ?_;intro b1;refine lV 122 7 ?_;refine iV [0,1,0,1,1] [.block 0,.seq [1,1,1]] (λ(r:Nat) X=>∃ (W2:Vw) (v:Value) (ol:List Aw),X W2 [(1,.slice A1 ni c1),(2,Vp b1),(15,Vi (n:Int)),(16,Vi (r:Int)),(6,v)] [.row v 122 7 (rJ ol),.box b1 [.slice A n c,.slice B m d]] [] /\ Sees h W2 /\ (r <= n) /\ (orc r=ol)) (λr=>n - r) (0) (λX q=>⟨h,(Vz),[],q _ _ _ _ ⟨rfl,by kernel_rfl⟩,Sees.refl _,Oj _,hz⟩) ?_;rintro r a w ⟨W2,v,ol,hJ,S3,hr,hol⟩; refine mV hJ ?_; clear hJ a w;refine go0 6 [] [] ?_;rcases (by omega:r < n\/r=n) with hlt | hke
 ·have hAr:=λso H q1 q2 q3=>hAll' so r H q1 q2 q3;rw [hol] at hAr;have hst:=hstep r;obtain ⟨hs1,hs2⟩:=hsol r;have hs1:=hs1.len;rw [<- hn] at hs1;have hln:=hlen r;have hrn:r * n <= 14 * 14:=Nat.mul_le_mul (by omega) (by omega);rw [hol] at hst hln;generalize va r=vr at *;refine rV (t:=decide ((r:Int) < (n:Int))) (Jj (by omega)) ?_;refine go0 9 [.b 1 0] [] ?_;refine g_callownq (e:=44) (kk:=3) (λa w hJ=>hAr _ _ (hf.sees (S3.trans hJ.j.seesQ)) (hi.sees (S3.trans hJ.j.seesQ)) (hJ.j.rowQ (v:=v) (e:=122) (k:=7) (l:=rJ ol) 0 (by kernel_rfl)) (by omega)) ?_; rintro _ _ _ W4 S5 ⟨rfl,⟨A5,c5,rfl⟩,rfl⟩;refine go0 22 [.b 2 0] [] ?_;refine eV 0 (v:=.slice A5 n c5) (e:=44) (kk:=3) (l:=gA vr) ?_; intro W6 S7 fa;refine cV (t:=(n:Int) != (n:Int)) ((by simp)) ?_;refine go0 11 [.b 1 0] [] ?_;have hok3:∀ p∈fcs f.fields vr,OkV p.2:=fcs_ok hs2;have hln3:(fcs f.fields vr).length <= 1000:=by rw [fcs_len (by omega)]; omega
  have hFa2:=λH q1 q2=>hFa vr A5 c5 H q1 q2 hs1;have hev:=λx (hx:x∈f.fields) (h3:x.kind=3) v u H q1 q2=>eval_any x.src v (fcs f.fields vr) u H q1 ((hok.fields.each x hx).wf (by omega)).1 ((hok.fields.each x hx).wf (by omega)).2.1 (chk_deep ((hok.fields.each x hx).wf (by omega)).2.2) q2 hok3 hln3;have hkv:=λx (hx:x∈f.fields) (h3:x.kind=3)=>qK (get_ok hok3) _ x.src (Ij _) ((hok.fields.each x hx).wf (by omega)).1;have hsn:=λj x (hx:f.fields[j]?=some x)=>(Dj (λl=>wY (fcs f.fields vr) l ol) (wZ f.fields j x hx)).trans (roundO_snoc (fcs f.fields vr) (f.fields.take j) x ol);have hrl:=λj=>roundO_len (fcs f.fields vr) (f.fields.take j) ol;have hadd:=λout x=>addO_eq (fcs f.fields vr) out x;generalize hen:fcs f.fields vr=env at *;refine iV [0,1,1,1,0,0,1,1,0,0,1,0,1,1] [.block 2,.block 1,.seq [1,1,1,0,0,1,0,1,1]] (λ(j:Nat) X=>∃ (W8:Vw) (v:Value) (ml:List Aw),X W8 [(1,.slice A1 ni c1),(2,Vp b1),(15,Vi (n:Int)),(16,Vi (r:Int)),(7,.slice A5 n c5),(36,.slice A n c),(37,Vi (n:Int)),(38,Vi (j:Int)),(6,v)] [.row v 122 7 (rJ ml),.box b1 [.slice A n c,.slice B m d]] [] /\ Sees W6 W8 /\ (j <= n) /\ (wY env (f.fields.take j) ol=ml)) (λj=>n - j) (0) (λX q=>⟨W6,v,ol,q _ _ _ _ ⟨rfl,by kernel_rfl⟩,Sees.refl _,Oj _,rfl⟩) ?_;rintro j a w ⟨W8,v,ml,hJ,S9,hj,hml⟩; refine mV hJ ?_; clear hJ a w;refine go0 6 [] [] ?_;rcases (by omega:j < n\/j=n) with hjl | hje
  ·obtain ⟨x,hx⟩:∃ x,f.fields[j]?=some x:=⟨_,Fj (by omega)⟩;obtain ⟨u,hu⟩:∃ u,vs[j]?=some u:=⟨_,Fj (by omega)⟩;have hxm:=Ej hx;have hrow:=eQ hx hu;have hga:∀ H,AllSrc H f.fields vs -> IsArgs H x.src u:=λH q=>AllArgs.get q (x:=x.src) (by rw [Mj,hx]; rfl) hu;obtain ⟨Au,nu,cu,rfl⟩:=(hga _ hs3).slice;have hml2:=hsn j x hx;have hmll:=hrl j;rw [hml] at hml2 hmll;rw [Kk] at hmll;have hmr:(rJ ml).length=ml.length:=Hj _;have hxo:=hok.fields.each x hxm;obtain ⟨hx10,-⟩:=name_print hxo.name;have t1:=hxo.t1;have t3:=hxo.t3;have hadd2:=hadd ml x;refine rV (t:=decide ((j:Int) < (n:Int))) (Jj (by omega)) ?_;refine go0 6 [] [] ?_;obtain ⟨b10,o11,rfl,-,c12⟩:=RS.row hr3 (hrow);refine aV (c12.sees (S3.trans (S5.trans (S7.trans S9)))) ?_;refine go1 14 [.ix b10 o11 n c j,.f 0 0,.own,.b 0 0,.b 0 1] [] ?_ (ho:=(Aj (by first | omega | (simp; omega)) (trivial)));intro bx
   by_cases g3:x.kind=3
   ·have hev2:=λu H q1 q2=>hev x hxm g3 (.slice Au nu cu) u H q1 q2;have hkv2:=hkv x hxm g3;rw [Cj g3] at hadd2;generalize pK env x.src=key at *;have hck:=λb d v H q1 q2 q3=>contKeep_any ml v x Au nu cu key b d H q1 (by omega) q2 q3;have han:=λ(hk:key.known) H=>answered_any x Au nu cu key H hx10 (known_size hk) t1 t3;generalize hhit:ml.any (λq=>q.hit x.name key)=hit at *;generalize ansV x key=av at *;refine cV (t:=x.kind != 3) ((by rw [Nk]; exact g3)) ?_;refine go0 3 [] [] ?_;refine oV 13 1 [.pu,.ld 1 3,.pu,.ld 3 0,.pu,.f (λgh=>sL (gh 5)) (λgh hh=>RS hh 7 (sL (gh 5)) (bQ env)),.v (λgh=>.tuple #[.agg #[Vi key.k,Vi key.n,.string key.s],Vi 0]),.pu,.pu,.pu,.al 0,.st 0 0,.pu] [(5,false),(10,true)] (Aj (λ_ _ _ s c=>c.sees s) (trivial)) ?_ ?_
    ·intro R hT hA hmono;refine Aj (lY hT hA hmono 51 (λu=>sL u) [3,4] 5 59 (λgh=>#[.slice (some ⟨b10,o11,none⟩) n c,.slice A5 n c5]) (λgh H sH fH lent=>C0.facts (R:=R) (x:=gh) (i:=5) (n:=0) (F:=(λu=>sL u)) (G:=λu hh=>RS hh 7 (sL u) (bQ env)) (f:=λgh hh=>RS hh 7 (sL (gh 5)) (bQ env)) (hFa2 _ ((hf.sees (S3.trans (S5.trans (S7.trans (S9.trans sH)))))).fields (fa.sees (S9.trans sH))) (by kernel_rfl) (by kernel_rfl) (λ_ _ r=>r))) ?_;refine Aj (t_v hT hA hmono (k:=58) (args:=(λgh=>#[.agg #[Vi x.src.op,Vi x.src.k,Vi x.src.n,.string x.src.s,.string x.src.nm,.slice Au nu cu],sL (gh 5)])) (f:=λgh=>.tuple #[.agg #[Vi key.k,Vi key.n,.string key.s],Vi 0]) (λgh H sH fH lent=>hev2 _ _ (hga _ (hs3.sees (S3.trans (S5.trans (S7.trans (S9.trans sH)))))) (fH 0 _ rfl (by kernel_rfl)))) ?_
     trivial
    rintro u51 bk W13 S14 ⟨f51,-⟩;replace f51:RS W13 7 (sL u51) (bQ env):=f51;refine go0 4 [.b 0 0] [] ?_
    by_cases gk:key.k <= 3
    ·have hkn:key.known:=by
      rcases hkv2 with q | q | ⟨q,-⟩
      ·exact q
      ·rw [q] at gk; exact absurd gk (by decide)
      ·omega
     have hk1:=λH=>c_kn key.k key.n key.s H hkn;have han2:=han hkn;refine go0 4 [.cl 60 #[.agg #[Vi key.k,Vi key.n,.string key.s]] (.bool true)] [] ?_ (ho:=(Aj (λH sH=>hk1 _) (trivial)));refine g_callq (λa w hJ=>hck _ _ _ _ (hJ.j.rowQ (v:=v) (e:=122) (k:=7) (l:=rJ ml) 2 (by kernel_rfl)) (hJ.j.boxQ (b:=bx) (cs:=[Vt x.name,Vi x.kind,Vi x.ty,Vi x.src.op,Vi x.src.k,Vi x.src.n,.string x.src.s,.string x.src.nm,.slice Au nu cu]) 1 (by kernel_rfl)) (hJ.j.boxQ (b:=bk) (cs:=[Vi key.k,Vi key.n,.string key.s]) 0 (by kernel_rfl))) ?_; intro W15 S16;refine go0 4 [] [] ?_;rcases Bw hit with hh | hh
     ·rw [Bj (λq=>by rw [hh] at q; cases q.2)] at hadd2;refine cV (t := !hit) ((by rw [hh]; rfl)) ?_;refine go0 7 [] [(73,Vi (IntKind.i64.wrap ((j:Int) + 1)),Vi ((j:Int) + 1))] ?_ (hc:=(Aj (jJ (by omega) (by omega)) (trivial)));exact qV (j + 1) (λX q=>⟨W15,v,ml,q _ _ _ _ ⟨rfl,by kernel_rfl⟩,(S9.trans (S14.trans S16)),by omega,hml2.trans hadd2⟩)
     ·skip;rw [Cj ⟨gk,hh⟩] at hadd2
      refine rV (t := !hit) ((by rw [hh]; rfl)) ?_;refine oV 11 0 [.pu,.pu,.ld 1 0,.ld 0 0,.ld 1 0,.ld 0 0,.v (λgh=>.agg #[Vi av.k,Vi av.n,.string av.s]),.pu,.f (λgh=>.slice (some ⟨(xJ (gh 8)),0,none⟩) 1 1) (λgh hh=>Cells hh (xJ (gh 8)) 0 [Vt x.name,Vi key.k,Vi key.n,.string key.s,Vi av.k,Vi av.n,.string av.s]),.e (λgh=>sL (gh 9)) 2 (λgh=>.row (sL (gh 9)) 122 7 ((rJ ml)++[[Vt x.name,Vi key.k,Vi key.n,.string key.s,Vi av.k,Vi av.n,.string av.s]])),.pu] [(8,true),(9,false)] (Aj (λ_ _ _ s c=>c.sees s) (trivial)) ?_ ?_
      ·intro R hT hA hmono;refine Aj (t_v hT hA hmono (k:=55) (args:=(λgh=>#[.agg #[Vt x.name,Vi x.kind,Vi x.ty,Vi x.src.op,Vi x.src.k,Vi x.src.n,.string x.src.s,.string x.src.nm,.slice Au nu cu],.agg #[Vi key.k,Vi key.n,.string key.s]])) (f:=λgh=>.agg #[Vi av.k,Vi av.n,.string av.s]) (λgh H sH fH lent=>han2 _)) ?_;refine Aj (mY hT hA hmono 71 (λg=>Vs g 1 1) [7] 8 (λgh=>[Vt x.name,Vi key.k,Vi key.n,.string key.s,Vi av.k,Vi av.n,.string av.s]) 122 (λgh zb zH zc zj zq zhq zhe=>tX (i:=8) (k:=0) (f:=λgh hh=>Cells hh (xJ (gh 8)) 0 [Vt x.name,Vi key.k,Vi key.n,.string key.s,Vi av.k,Vi av.n,.string av.s]) zc zj zq zhq zhe)) ?_;refine Aj (kY hT hA hmono 72 [0,6,8] 9 2 (GN R 2) (λgh=>v) 32 122 7 (λgh=>rJ ml) (λgh=>[[Vt x.name,Vi key.k,Vi key.n,.string key.s,Vi av.k,Vi av.n,.string av.s]]) (.tmp 63) (.tmp 71) (λgh=>(xJ (gh 8))) 1 1 0 8 (λgh hh=>Cells hh (xJ (gh 8)) 0 [Vt x.name,Vi key.k,Vi key.n,.string key.s,Vi av.k,Vi av.n,.string av.s]) (λ_ _ c=>c) Tryz.underlying32 (zv:=.agg #[Ve,Vi 0,Vi 0,Ve,Vi 0,Vi 0,Ve]) (bytes:=80) (λ_=>by constructor <;> (simp; omega))) ?_
       trivial
      rintro b18 v72 W19 S20 ⟨f17,-⟩;replace f17:Cells W19 b18 0 [Vt x.name,Vi key.k,Vi key.n,.string key.s,Vi av.k,Vi av.n,.string av.s]:=f17;refine aV f17 ?_;refine go0 6 [] [(73,Vi (IntKind.i64.wrap ((j:Int) + 1)),Vi ((j:Int) + 1))] ?_ (hc:=(Aj (jJ (by omega) (by omega)) (trivial)));refine fV [(1,.slice A1 ni c1),(2,Vp b1),(15,Vi (n:Int)),(16,Vi (r:Int)),(7,.slice A5 n c5),(36,.slice (some ⟨b10,o11,none⟩) n c),(37,Vi (n:Int)),(6,sL v72),(38,Vi ((j:Int) + 1))] [.row (sL v72) 122 7 ((rJ ml)++[[Vt x.name,Vi key.k,Vi key.n,.string key.s,Vi av.k,Vi av.n,.string av.s]]),.box b1 [.slice (some ⟨b10,o11,none⟩) n c,.slice B m d]] [] ?_;exact qV (j + 1) (λX q=>⟨W19,sL v72,ml++[⟨x.name,key,av⟩],q _ _ _ _ (fZ (by rw [anRows_snoc]; try rfl)),(S9.trans (S14.trans (S16.trans S20))),by omega,hml2.trans hadd2⟩)
    ·skip;have hk0:=λH=>known_no key H gk (ok_kinds hkv2).1
     rw [Bj (λq=>gk q.1)] at hadd2;refine go0 17 [.cl 60 #[.agg #[Vi key.k,Vi key.n,.string key.s]] (.bool false)] [(73,Vi (IntKind.i64.wrap ((j:Int) + 1)),Vi ((j:Int) + 1))] ?_ (ho:=(Aj (λH sH=>hk0 _) (trivial))) (hc:=(Aj (jJ (by omega) (by omega)) (trivial)));exact qV (j + 1) (λX q=>⟨W13,v,ml,q _ _ _ _ ⟨rfl,by kernel_rfl⟩,(S9.trans S14),by omega,hml2.trans hadd2⟩)
   ·skip;rw [Bj g3] at hadd2
    refine rV (t:=x.kind != 3) (Fk.2 g3) ?_;refine go0 8 [] [(73,Vi (IntKind.i64.wrap ((j:Int) + 1)),Vi ((j:Int) + 1))] ?_ (hc:=(Aj (jJ (by omega) (by omega)) (trivial)));exact qV (j + 1) (λX q=>⟨W8,v,ml,q _ _ _ _ ⟨rfl,by kernel_rfl⟩,S9,by omega,hml2.trans hadd2⟩)
  ·skip;have hta:f.fields.take j=f.fields:=by rw [hje,hn,Pk]
   rw [hta] at hml;refine cV (t:=decide ((j:Int) < (n:Int))) (Kj (by omega)) ?_;refine go0 2 [] [] ?_;refine gV ?_;refine go0 7 [] [(74,Vi (IntKind.i64.wrap ((r:Int) + 1)),Vi ((r:Int) + 1))] ?_ (hc:=(Aj (jJ (by omega) (by omega)) (trivial)));exact qV (r + 1) (λX q=>⟨W8,v,ml,q _ _ _ _ ⟨rfl,by kernel_rfl⟩,(S3.trans (S5.trans (S7.trans S9))),by omega,hst.trans hml⟩)
 ·skip;rw [hke] at hol
  have hrl:(rJ ol).length=ol.length:=Hj _;refine dV 0 (v:=v) (e:=122) (kk:=7) (l:=rJ ol) ?_; intro Ar cr hE_v hc_v hm_v;rw [show (rJ ol).length=ol.length from by first | omega | (simp; done) | (simp; omega)] at hE_v hc_v;rw [hE_v];refine cV (t:=decide ((r:Int) < (n:Int))) (Kj (by omega)) ?_;refine go0 2 [] [] ?_;refine gV ?_;refine go0 10 [] [] ?_;refine fV [(4,.slice Ar ol.length cr),(5,.bool true)] [.row (.slice Ar ol.length cr) 122 7 (rJ ol),.box b1 [.slice A n c,.slice B m d]] [] ?_;refine hQ.toJ [.slice Ar ol.length cr,.bool true] [] (λa w hJ=>?_);have fr:=hJ.j.rowOut0 (v:=.slice Ar ol.length cr) (e:=122) (k:=7) (l:=rJ ol) 0 (by kernel_rfl) rfl;exact ⟨Ar,cr,Dj (λl:List Aw=>Value.tuple #[.slice Ar l.length cr,.bool true]) hol.symm,by rw [hol]; exact fr⟩
theorem sub_len {α:Type} [DecidableEq α]:∀ {l m:List α},l.Nodup -> (∀ x∈l,x∈m) -> l.length <= m.length
 | [],_,_,_=>Oj _
 | x :: l,m,hn,hs=>by
  have hx:=hs x (by simp);rw [Mq] at hn;have h1:=sub_len (l:=l) (m:=m.erase x) hn.2 λy hy=>(List.mem_erase_of_ne (λe:y=x=>hn.1 (by rw [<- e]; exact hy))).2 (hs y (by simp [hy]));have h2:=List.length_erase_of_mem hx;have h3:=List.length_pos_of_mem hx;simp only [Vk];omega
def lkN (fs:List Fd):Nat:=fs.countP λf=>decide (f.kind=3)
def inN (fs:List Fd):Nat:=fs.countP λf=>decide (f.kind=1)
theorem kinds_le:∀ fs:List Fd,lkN fs + inN fs <= fs.length
 | []=>Ij _
 | f :: fs=>by
  have ih:=kinds_le fs;unfold lkN inN at ih ⊢;rw [List.countP_cons,List.countP_cons,Vk]
  by_cases h3:f.kind=3
  ·rw [Cj (Jj h3),Bj (by rw [Kv]; omega)]; omega
  ·rw [Bj (by rw [Kv]; exact h3)]
   split <;> omega
theorem inN_take (fs:List Fd) (k:Nat) (f:Fd) (h:fs[k]?=some f):inN (fs.take (k + 1))=inN (fs.take k) + if f.kind=1 then 1 else 0:=by
 unfold inN;rw [wZ _ k f h,List.countP_append,List.countP_cons,List.countP_nil,Lq]
 by_cases h1:f.kind=1
 ·rw [Cj (Jj h1),Cj h1]
 ·rw [Bj (by rw [Kv]; exact h1),Bj h1]
theorem out_few {E:Eg} {ρ:List Int} {lv:Nat -> Nat} (hok:EgOk E ρ lv):(gZ E ρ).out.length <= lkN E.fm.fields:=by
 have O:=outI_set hok;have h1:((gZ E ρ).out.map (λx:Lt=>x.nm)).Nodup:=Cw.2 O.pw;have h2:=sub_len (m:=(E.fm.fields.filter λf=>decide (f.kind=3)).map (λf:Fd=>f.name)) h1 λs hs=>by
  obtain ⟨x,hx,rfl⟩:=Rj.1 hs;obtain ⟨i,f,hf,hn,h3⟩:=(setE_out hok x hx).1.at_;rw [hn];exact Rj.2 ⟨f,Hq.2 ⟨Ej hf,Jj h3⟩,rfl⟩
 rw [Hj,Hj, <- List.countP_eq_length_filter] at h2;exact h2
theorem few_mul {L I n:Nat} (h:L + I <= n) (hn:n <= 10):L * (1 + I) + L * n <= 199:=by
 have h1:L * n <= L * 10:=Nat.mul_le_mul_left _ hn;have h2:L * (1 + I) <= L * (11 - L):=Nat.mul_le_mul_left _ (by omega);rcases (by omega:L=0\/L=1\/L=2\/L=3\/L=4\/L=5\/L=6\/L=7\/L=8\/L=9\/L=10) with rfl | rfl | rfl | rfl | rfl | rfl | rfl | rfl | rfl | rfl | rfl <;> omega
structure TelL (h:Vw) (u:Value) (E:Eg) (lt:List Lt):Prop where
 eng:IsEng h u E
 out:RS h 8 (.slice (sA (agJ 5 u)) lt.length (sC (agJ 5 u))) (oW lt)
theorem TelL.sees {h h':Vw} {u:Value} {E:Eg} {lt:List Lt} (k:TelL h u E lt) (s:Sees h h'):TelL h' u E lt:=⟨k.eng.sees s,k.out.sees s⟩
theorem tel_len {E:Eg} {lt:List Lt} {r:Value} {h:Vw} (k:TelR E lt r h):∃ u,r=.tuple #[.agg (eA u E),.slice (sA (agJ 5 u)) lt.length (sC (agJ 5 u)),Vi 0] /\ TelL h u E lt:=by
 obtain ⟨u,rfl,k⟩:=k;have q:=k.out;obtain ⟨A,c,e,-⟩:=q.form;rw [Hj] at e;have e3:sN (agJ 5 u)=lt.length:=Dj sN e;have k1:∀ m:Nat,m=lt.length -> (Value.tuple #[.agg (eA u E),.slice (sA (agJ 5 u)) m (sC (agJ 5 u)),Vi 0]=.tuple #[.agg (eA u E),.slice (sA (agJ 5 u)) lt.length (sC (agJ 5 u)),Vi 0]) /\ (RS h 8 (.slice (sA (agJ 5 u)) m (sC (agJ 5 u))) (oW lt) -> RS h 8 (.slice (sA (agJ 5 u)) lt.length (sC (agJ 5 u))) (oW lt)):=by
  intro m q1;rw [q1];exact ⟨rfl,λz=>z⟩
 exact ⟨u,(k1 _ e3).1,⟨k.eng,(k1 _ e3).2 q⟩⟩
theorem putV_put {s:ByteArray} {u v:Vl}:jY s v (jY s u [])=jY s v []:=by
 show jY s v [(s,u)]=[(s,v)];rw [jY,Cj (by simp)]
theorem stepW_len (fs:List Fd) (inp:Env) (orc:List Aw) (os:List Nat):∀ a:List Vl × Env,(os.foldl (stepW fs inp orc) a).1.length=a.1.length:=by
 induction os with
 | nil=>intro a; rfl
 | cons i os ih =>
  intro a;rw [Fv,ih];unfold stepW
  split <;> simp
theorem allW_len (fs:List Fd) (inp:Env) (orc:List Aw) (os:List Nat):(allW fs inp orc os).length=fs.length:=by
 unfold allW cZ;rw [stepW_len];exact Rv
def uI:Value -> Int
 | .int _ n=>n
 | _=>0
def zU:Value:=.agg #[.slice none 0 0,.slice none 0 0,.slice none 0 0,.slice none 0 0,.slice none 0 0,Vi 0,Vi 0]
theorem calmU (fm:Fm) (P:Pol) (ρ:List Int) (lv:Nat -> Nat) (ip:Env) (L:Nat) (hL:∀ E1,EgOk E1 ρ lv -> E1.fm=fm -> (gZ E1 ρ).out.length <= L) (E0:Eg) (lt0:List Lt) (hK0:CalQ fm P ρ lv ip L 0 E0 lt0) (last:Bool) (w:Value) (As:Option Addr) (ns cs:Nat) (h:Vw) (hE0:IsEng h w E0) (hS0:RS h 8 (.slice As ns cs) (oW lt0)) :
  C0 Tryz.prog 18 #[.agg (eA w E0),.slice As ns cs,.bool last] h (λr h'=>∃ u,r=.tuple #[.agg #[sL (agJ 0 u),sL (agJ 1 u),Vi P.t,Vi P.b,Vi P.c,sL (agJ 2 u),sL (agJ 3 u),sL (agJ 4 u),Vi (uI (agJ 5 u)),Vi (uI (agJ 6 u))],.bool true] /\ RS h' 3 (sL (agJ 4 u)) (gA (allW fm.fields ip (qX fm.fields ip (rX ρ fm.fields.length) fm.fields.length) (rX ρ fm.fields.length)))):=by
 refine (calmG_any fm P ρ lv ip L hL E0 lt0 hK0 last w (.slice As ns cs) h hE0 hS0).mono λr h' _=>?_;rintro ⟨E,A,c,u,rfl,⟨k,hQ⟩,hF⟩;obtain ⟨k2,hM,-⟩:=hQ.m;have hv:=calG_vals hM.ok hM.se hQ.i;rw [hM.efm,hQ.ip] at hv;have hr:=hF.vals;rw [<- hv] at hr;obtain rfl:=hM.epol;exact ⟨.agg #[.slice A fm.fields.length c,agJ 1 u,agJ 2 u,agJ 3 u,agJ 4 u,Vi E.now,Vi E.last],rfl,hr⟩
theorem tell_step {fm:Fm} {P:Pol} {ρ:List Int} {lv:Nat -> Nat} {k L:Nat} {E:Eg} {lt:List Lt} (hM:MOk fm P ρ lv k E lt) (hG:CalG E lt) (hk:k <= 50) (hok:OkFs fm.fields) (hL:∀ E1,EgOk E1 ρ lv -> E1.fm=fm -> (gZ E1 ρ).out.length <= L) {p:Nat} {g:Fd} (hg:fm.fields[p]?=some g) (h1:g.kind=1) (av:Vl) (hkn:av.known) (hvk:av.k=g.ty) :
  ∃ (E':Eg) (more:List Lt),MOk fm P ρ lv (k + 1) E' (lt++more) /\ CalG E' (lt++more) /\ more.length <= L /\ E'.inp=jY g.name av E.inp /\
   (∀ ue H,IsEng H ue E -> C0 Tryz.prog 16 #[.agg (eA ue E),.string g.name,.agg #[Vi av.k,Vi av.n,.string av.s]] H (λr h'=>∃ u,r=.tuple #[.agg (eA u E'),.slice (sA (agJ 5 u)) more.length (sC (agJ 5 u)),Vi 0] /\ TelL h' u E' more)):=by
 have bl:=hM.last;have bi:=hM.inp;have bt:=hM.len;have htd:zZ E.fm.fields g.name av.k=0:=by rw [hM.efm,hvk,told_kind hok hg,Cj h1]
 have hok1:=tellE_ok hM.ok hkn htd (by omega);have hfw:=(setE_few hok1).2.1;have hel:(xZ E g.name av).last=E.last:=rfl;exact ⟨hZ (xZ E g.name av) ρ,(gZ (xZ E g.name av) ρ).out,hM.step (by omega) (MStep.tell (ρ:=ρ) (E:=E) (lt:=lt) g.name av hkn htd),CalG.set (E:=xZ E g.name av) hok1 (by omega) ⟨hG.wait,hG.st⟩,hL _ hok1 (show E.fm=fm from hM.efm),rfl,
  λue H q=>(tell_any E ρ lv hM.ok hM.se g.name av hkn htd (by omega) (by omega) ue H q).mono λr h' _ k=>tel_len k⟩
theorem calq_of {fm:Fm} {P:Pol} {ρ:List Int} {lv:Nat -> Nat} {ip:Env} {L k:Nat} {E:Eg} {lt:List Lt} (hM:MOk fm P ρ lv k E lt) (hG:CalG E lt) (hk:k <= 40) (hip:E.inp=ip) (hl:lt.length <= 30) (hL:L <= 10) (hn:fm.fields.length <= 10):CalQ fm P ρ lv ip L 0 E lt:=by
 have h1:L * (fm.fields.length - cntK E.calls) <= 10 * 10:=Nat.mul_le_mul hL (by omega);exact ⟨hG,hip,⟨k,hM,by omega⟩,by omega⟩
end Go.Proofs.YthgcgciceejicaaGreatDoor
