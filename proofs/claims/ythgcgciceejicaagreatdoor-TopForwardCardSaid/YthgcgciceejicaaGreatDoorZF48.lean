/-
  The laws' Oracle, in plain words: all keys that come up, answered. Such answers may be.
-/
import Derived.Test.YthgcgciceejicaaGreatDoorZF39
import Derived.Test.YthgcgciceejicaaGreatDoorZF47
set_option maxHeartbeats 8000000
set_option maxRecDepth 100000
namespace Go.Proofs.YthgcgciceejicaaGreatDoor
open Go.RowKit
set_option linter.unusedVariables false
def abcB:ByteArray:=⟨#[97,98,99,100,101,102,103,104,105]⟩
def ansN (f:Fd) (key:Vl):Int:=Int.tmod key.n 9 + 3 * (key.s.size:Int) + (f.name.size:Int)
def ansV (f:Fd) (key:Vl):Vl:=if f.ty=1 then ⟨1,ansN f key,⟨#[]⟩⟩ else if f.ty=2 then ⟨2,cJ (ansN f key) 2,⟨#[]⟩⟩ else ⟨3,0,f.name++abcB.extract 0 (cJ (ansN f key) 9).toNat⟩
theorem word_print {c:UInt8} (h:dW c=true):32 <= c.toNat /\ c.toNat <= 126:=by
 unfold dW isLet isDig at h;simp only [Lv,Iw] at h;omega
theorem name_print {s:ByteArray} (h:pJ s.data.toList):s.size <= 10 /\ ∀ i (hi:i < s.size),32 <= s[i].toNat /\ s[i].toNat <= 126:=by
 obtain ⟨-,h2,-,h4,-⟩:=h;have hsz:s.data.toList.length=s.size:=by simp
 refine ⟨by omega,λi hi=>?_⟩;have hg:s.data.toList[i]?=some s[i]:=by
  rw [Fj (by omega)]
  congr 1
 exact word_print (span_all dW s.data.toList i s[i] (by omega) hg)
theorem abc_all:∀ i (hi:i < 9),32 <= (abcB[i]'hi).toNat /\ (abcB[i]'hi).toNat <= 126:=by decide
theorem abc_print (k:Nat):(abcB.extract 0 k).size <= 9 /\ ∀ i (hi:i < (abcB.extract 0 k).size),32 <= (abcB.extract 0 k)[i].toNat /\ (abcB.extract 0 k)[i].toNat <= 126:=by
 have hs:(abcB.extract 0 k).size=min k abcB.size - 0:=ByteArray.size_extract ..;have h9:abcB.size=9:=rfl;refine ⟨by omega,λi hi=>?_⟩;rw [ByteArray.getElem_extract]
 have:=abc_all (0 + i) (by omega)
 exact this
theorem known_size {v:Vl} (h:v.known):v.s.size <= 40:=by
 rcases h with ⟨-,-,e⟩ | ⟨-,-,e⟩ | ⟨-,-,e,-⟩
 ·rw [e]; decide
 ·rw [e]; decide
 ·exact e
theorem ansN_lo (f:Fd) (key:Vl) (hn:f.name.size <= 10) (hk:key.s.size <= 40) : -8 <= ansN f key /\ ansN f key <= 138:=by
 have h1:=Int.tmod_lt_of_pos key.n (show (0:Int) < 9 by decide);have h2:=Int.lt_tmod_of_pos key.n (show (0:Int) < 9 by decide);unfold ansN;omega
theorem ans_known {fs:List Fd} {f:Fd} (hf:OkF fs f) {key:Vl} (hk:key.known):(ansV f key).known /\ (ansV f key).k=f.ty:=by
 obtain ⟨hn,hp⟩:=name_print hf.name;have hr:=ansN_lo f key hn (known_size hk);have t1:=hf.t1;have t3:=hf.t3;unfold ansV
 by_cases g1:f.ty=1
 ·rw [Cj g1];exact ⟨.inl ⟨rfl,by show Lim (ansN f key); unfold Lim; omega,rfl⟩,g1.symm⟩
 by_cases g2:f.ty=2
 ·rw [Bj g1,Cj g2];have p0:=wX (ansN f key) 2 (by omega);have p1:=vX (ansN f key) 2 (by omega);exact ⟨.inr (.inl ⟨rfl,by show cJ _ _=0\/cJ _ _=1; omega,rfl⟩),g2.symm⟩
 rw [Bj g1,Bj g2];obtain ⟨ha,hb⟩:=abc_print (cJ (ansN f key) 9).toNat;generalize abcB.extract 0 (cJ (ansN f key) 9).toNat=t at *;have hs:(f.name++t).size=f.name.size + t.size:=ByteArray.size_append ..;refine ⟨.inr (.inr ⟨rfl,rfl,by show (f.name++t).size <= 40; omega,λi hi=>?_⟩),by show (3:Int)=_; omega⟩;have hi':i < f.name.size + t.size:=by rw [<- hs]; exact hi
 show 32 <= (f.name++t)[i].toNat /\ _
 by_cases hlt:i < f.name.size
 ·rw [ByteArray.getElem_append_left hlt]; exact hp i hlt
 ·rw [ByteArray.getElem_append_right (by omega)]; exact hb _ (by omega)
theorem tyL_congr {f g:ByteArray -> Option Int}:∀ {l:List Ex},(∀ y∈l,tyE f y=tyE g y) -> tyL f l=tyL g l
 | [],_=>by rw [tyL,tyL]
 | x :: l,h=>by rw [tyL,tyL,h x (by simp),tyL_congr λy hy=>h y (by simp [hy])]
theorem ty_congr {f g:ByteArray -> Option Int} {x:Ex} (h:∀ s∈gY x,f s=g s):tyE f x=tyE g x:=by
 revert h
 refine ex_ind (p:=λx=>(∀ s∈gY x,f s=g s) -> tyE f x=tyE g x) (λx ih h=>?_) x;rw [iY] at h;have hl:tyL f x.args=tyL g x.args:=tyL_congr λy hy=>ih y hy λs hs=>h s (Vj _ (mem_refsL.2 ⟨y,hy,hs⟩));rw [tyE_op,tyE_op,hl]
 by_cases h2:x.op=2
 ·rw [h x.nm (by rw [Cj h2]; simp)]
 ·unfold tyOp;simp only [Bj h2]
abbrev NyV (v:Vl):Prop:=v.k=4\/v.k=5
theorem ny_not:NotYet NyV:=⟨λ_ h=>h,.inr rfl,.inr rfl,.inr rfl⟩
def TyOk (fs:List Fd) (v:List Vl):Prop:=∀ (i:Nat) (f:Fd) (x:Vl),fs[i]?=some f -> v[i]?=some x -> OfT NyV f.ty x
theorem fcs_env {fs:List Fd} (hok:OkFs fs) {v:List Vl} (hl:v.length=fs.length) (ht:TyOk fs v):∀ s t,tyF fs s=some t -> ∃ x,(fcs fs v).get s=some x /\ OfT NyV t x:=λs t h=>by
 obtain ⟨i,f,h1,h2,h3⟩:∃ (i:Nat) (f:Fd),fs[i]?=some f /\ f.name=s /\ f.ty=t:=by
  clear ht hl hok
  induction fs with
  | nil=>cases h
  | cons g l ih =>
   rw [tyF] at h
   by_cases e:(s == g.name)=true
   ·rw [Cj e] at h;exact ⟨0,g,rfl,((Wk _ _).1 e).symm,Zk h⟩
   ·rw [Bj e] at h;obtain ⟨i,f,h1,h2⟩:=ih h;exact ⟨i + 1,f,by simpa using h1,h2⟩
 obtain ⟨x,hx⟩:∃ x,v[i]?=some x:=⟨_,Fj (by rw [hl]; exact (Qj.1 h1).1)⟩;exact ⟨x,h2 ▸ fcs_get hok.nodup h1 hx,h3 ▸ ht i f x h1 hx⟩
theorem tell_ty {fs:List Fd} {inp:Env} (hi:∀ p∈inp,p.2.known) {s:ByteArray} {t:Int} (h1:1 <= t) (h3:t <= 3) (hk:∀ p∈inp,p.1=s -> p.2.k=t):(tellV s t inp).k=t:=by
 induction inp with
 | nil=>rfl
 | cons p l ih =>
  rw [tellV]
  by_cases e:(p.1.toList == s.toList)=true
  ·rw [Cj e];rw [tl_dec,decide_eq_true_iff] at e;exact hk p (by simp) e
  ·rw [Bj e];exact ih (λq hq=>hi q (by simp [hq])) λq hq=>hk q (by simp [hq])
theorem ask_ty {fs:List Fd} (hok:OkFs fs) {orc:List Aw} (ho:OkOrc fs orc) {i:Nat} {f:Fd} (hf:fs[i]?=some f) (key:Vl):OfT NyV f.ty (askL f.name key orc):=by
 have:∀ l:List Aw,(∀ p∈l,p∈orc) -> OfT NyV f.ty (askL f.name key l):=λl=>by
  induction l with
  | nil=>exact λ_=>.inr (.inl rfl)
  | cons p l ih =>
   intro hl;rw [askL]
   split
   ·rename_i g;have hp:=ho.each p (hl p (by simp));obtain ⟨j,g2,t,h1,h2,-,-,-,h6⟩:=hp.place;have hn:p.nm=f.name:=by
     unfold Aw.hit at g;rw [Uj,tl_dec,decide_eq_true_iff] at g;exact g.1
    have e1:=kQ hok.nodup h1;have e2:=kQ hok.nodup hf;rw [h2,hn,e2] at e1;have e1:i=j:=by omega
    subst e1;rw [hf] at h1;obtain rfl:=Zk h1;exact .inl ⟨hp.has,h6⟩
   ·exact ih λq hq=>hl q (by simp [hq])
 exact this orc λ_ h=>h
def InpTy (fs:List Fd) (inp:Env):Prop:=∀ (i:Nat) (f:Fd),fs[i]?=some f -> f.kind=1 -> ∀ p∈inp,p.1=f.name -> p.2.k=f.ty
theorem sol_tyG {fs:List Fd} (hok:OkFs fs) {inp:Env} (hi:∀ p∈inp,p.2.known) (hit:InpTy fs inp) {orc:List Aw} (ho:∀ (i:Nat) (f:Fd),fs[i]?=some f -> ∀ key,OfT NyV f.ty (askL f.name key orc)) {ρ:List Int} {lv:Nat -> Nat} (hr:Ranked (wW fs) ρ lv) {v:List Vl} (hv:Sol fs inp orc v) (hvo:∀ x∈v,OkV x):TyOk fs v:=by
 have key:∀ t i,lv i < t -> ∀ f x,fs[i]?=some f -> v[i]?=some x -> OfT NyV f.ty x:=λt=>by
  induction t with
  | zero=>intro i h; omega
  | succ t ih =>
   intro i ht f x hf hx;have hF:=hok.each f (Ej hf);have hil:=(Qj.1 hf).1;have hxo:=hvo x (Ej hx);have e:=hv.at_ i f x hf hx;unfold oneV at e
   by_cases h1:f.kind=1
   ·rw [Cj h1] at e;exact .inl ⟨e ▸ tell_ok hi _ hF.t1 hF.t3,e ▸ tell_ty (fs:=fs) hi hF.t1 hF.t3 (hit i f hf h1)⟩
   ·rw [Bj h1] at e
    by_cases h3:f.kind=3
    ·rw [Cj h3] at e;unfold askV at e
     split at e
     ·rw [e]; exact ho i f hf _
     ·rename_i q;rw [e] at hxo ⊢
      have:=ok_kinds hxo
      exact .inr (by show _=4\/_=5; omega)
    ·rw [Bj h3] at e;have ht2:=hF.form (by have:=hF.k1; have:=hF.k3; omega);have hdec:∀ s,Decidable (s∈gY f.src):=λs=>Classical.propDecidable _;obtain ⟨t2,env,hsub,hE⟩:∃ (f2:ByteArray -> Option Int) (env:Env),tyE f2 f.src=(f.ty,0) /\ oK env f.src=oK (fcs fs v) f.src /\ ∀ s t,f2 s=some t -> ∃ x,env.get s=some x /\ OfT NyV t x:=by
      refine ⟨λs=>if s∈gY f.src then tyF fs s else none,fcs fs v,?_,rfl,λs t q=>?_⟩
      ·exact (ty_congr (f:=λs=>if s∈gY f.src then tyF fs s else none) (g:=tyF fs) (λs hs=>Cj hs)).trans ht2
      ·simp only at q
       split at q
       ·rename_i hs;obtain ⟨j,g,g1,g2,g3⟩:=refs_need hok hf h1 hs;obtain ⟨l1,l2⟩:=hr.low i (by rw [needsE_len]; exact hil) j g3;rw [needsE_len] at l1;obtain ⟨y,hy⟩:∃ y,v[j]?=some y:=⟨_,Fj (by rw [hv.len]; exact l1)⟩
        have:=ih j (by omega) g y g1 hy
        have hty:tyF fs s=some g.ty:=by rw [<- g2]; exact tyF_mem hok.nodup g (Ej g1)
        rw [hty] at q;rw [<- Zk q];exact ⟨y,g2 ▸ fcs_get hok.nodup g1 hy,this⟩
       ·cases q
     have:=ty_sound ny_not hE.2 (hF.wf h1).1 hsub
     rw [hE.1] at this;rw [e]; exact this
 exact λi f x hf hx=>key (lv i + 1) i (by omega) f x hf hx
theorem sol_ty {fs:List Fd} (hok:OkFs fs) {inp:Env} (hi:∀ p∈inp,p.2.known) (hit:InpTy fs inp) {orc:List Aw} (ho:OkOrc fs orc) {ρ:List Int} {lv:Nat -> Nat} (hr:Ranked (wW fs) ρ lv) {v:List Vl} (hv:Sol fs inp orc v) (hvo:∀ x∈v,OkV x):TyOk fs v :=
 sol_tyG hok hi hit (λi f hf key=>ask_ty hok ho hf key) hr hv hvo
def addO (env:Env) (out:List Aw) (f:Fd):List Aw :=
 if f.kind=3 /\ (oK env f.src).k <= 3 /\ out.any (λp=>p.hit f.name (oK env f.src))=false then out++[⟨f.name,oK env f.src,ansV f (oK env f.src)⟩] else out
def roundO (env:Env) (fs:List Fd) (out:List Aw):List Aw:=fs.foldl (addO env) out
def orcL (fs:List Fd) (inp:Env) (os:List Nat):Nat -> List Aw
 | 0=>[]
 | r + 1=>roundO (fcs fs (allW fs inp (orcL fs inp os r) os)) fs (orcL fs inp os r)
theorem roundO_snoc (env:Env) (l:List Fd) (f:Fd) (out:List Aw):roundO env (l++[f]) out=addO env (roundO env l out) f:=by unfold roundO; rw [List.foldl_append]; rfl
theorem addO_len (env:Env) (out:List Aw) (f:Fd):(addO env out f).length <= out.length + 1:=by unfold addO; split <;> simp
theorem roundO_len (env:Env):∀ (l:List Fd) (out:List Aw),(roundO env l out).length <= out.length + l.length
 | [],out=>Ij _
 | f :: l,out=>by
  have h1:=roundO_len env l (addO env out f);have h2:=addO_len env out f;show (roundO env l (addO env out f)).length <= _;rw [Yk]; omega
theorem orcL_len (fs:List Fd) (inp:Env) (os:List Nat):∀ r,(orcL fs inp os r).length <= r * fs.length
 | 0=>Mj _
 | r + 1=>by
  have h1:=orcL_len fs inp os r;have h2:=roundO_len (fcs fs (allW fs inp (orcL fs inp os r) os)) fs (orcL fs inp os r);show (roundO _ _ _).length <= _;rw [Jv]; omega
theorem addO_ok {fs:List Fd} (hok:OkFs fs) {env:Env} (he:∀ s t,tyF fs s=some t -> ∃ x,env.get s=some x /\ OfT NyV t x) {out:List Aw} (ho:OkOrc fs out) {i:Nat} {f:Fd} (hf:fs[i]?=some f):OkOrc fs (addO env out f):=by
 unfold addO
 split
 ·rename_i h;obtain ⟨h3,hk,hn⟩:=h;have hF:=hok.each f (Ej hf);obtain ⟨t,-,-,ht⟩:=hF.look h3;have hkt:=ty_sound ny_not he (hF.wf (by omega)).1 ht;generalize oK env f.src=key at *;obtain ⟨k1,k2⟩:key.known /\ key.k=t:=by
   rcases hkt with q | q
   ·exact q
   ·have q:key.k=4\/key.k=5:=q;omega
  obtain ⟨a1,a2⟩:=ans_known hF k1;refine ⟨λp hp=>?_,List.pairwise_append.2 ⟨ho.once,List.pairwise_singleton _ _,λp hp q hq=>?_⟩⟩
  ·rcases Sj.1 hp with q | q
   ·exact ho.each p q
   ·rw [Oj.1 q];exact ⟨⟨i,f,t,hf,rfl,h3,ht,k2,a2⟩,k1,a1⟩
  ·rw [Oj.1 hq];rw [List.any_eq_false] at hn;exact Mq.2 (hn p hp)
 ·exact ho
theorem roundO_ok {fs:List Fd} (hok:OkFs fs) {env:Env} (he:∀ s t,tyF fs s=some t -> ∃ x,env.get s=some x /\ OfT NyV t x):∀ (l:List Fd),(∀ f∈l,f∈fs) -> ∀ (out:List Aw),OkOrc fs out -> OkOrc fs (roundO env l out)
 | [],_,_,ho=>ho
 | f :: l,hl,out,ho=>by
  obtain ⟨i,hi⟩:=Iq (hl f (by simp));exact roundO_ok hok he l (λg hg=>hl g (by simp [hg])) _ (addO_ok hok he ho hi)
structure Wh (fs:List Fd) (inp:Env) (ρ:List Int) (lv:Nat -> Nat) (os:List Nat):Prop where
 ok:OkFs fs
 known:∀ p∈inp,p.2.known
 ty:InpTy fs inp
 ord:Ordd fs ρ lv os
theorem Wh.sol {fs:List Fd} {inp:Env} {ρ:List Int} {lv:Nat -> Nat} {os:List Nat} (h:Wh fs inp ρ lv os) {orc:List Aw} (ho:OkOrc fs orc):Sol fs inp orc (allW fs inp orc os) /\ ∀ x∈allW fs inp orc os,OkV x:=all_sol h.ok h.known ho.has h.ord
theorem Wh.env {fs:List Fd} {inp:Env} {ρ:List Int} {lv:Nat -> Nat} {os:List Nat} (h:Wh fs inp ρ lv os) {orc:List Aw} (ho:OkOrc fs orc):∀ s t,tyF fs s=some t -> ∃ x,(fcs fs (allW fs inp orc os)).get s=some x /\ OfT NyV t x:=by
 obtain ⟨h1,h2⟩:=h.sol ho;exact fcs_env h.ok h1.len (sol_ty h.ok h.known h.ty ho h.ord.rank h1 h2)
theorem Wh.orc {fs:List Fd} {inp:Env} {ρ:List Int} {lv:Nat -> Nat} {os:List Nat} (h:Wh fs inp ρ lv os):∀ r,OkOrc fs (orcL fs inp os r)
 | 0=>OkOrc.nil fs
 | r + 1=>roundO_ok h.ok (h.env (h.orc r)) fs (λ_ q=>q) _ (h.orc r)
section
variable {fs:List Fd} {inp:Env} {ρ:List Int} {lv:Nat -> Nat} {os:List Nat}
open Classical in
end
theorem orc1_any (p:Aw) (b:Nat) (x:Aw) (h:Vw) (hc:Cells h b 0 (anRow x)):C0 Tryz.prog 163 #[.agg #[Vt p.nm,Vi p.key.k,Vi p.key.n,.string p.key.s,Vi p.has.k,Vi p.has.n,.string p.has.s],.pointer (some ⟨b,0,none⟩)] h (λr _=>r=.bool (p.hit x.nm x.key)):=by
 unfold Aw.hit;refine yQ Tryz.func163 λhbx hbad Q hQ=>?_;refine zQ (hc.sees (Sees.refl _)) ?_;refine go1 14 [.own,.b 0 0,.f 0 0] [] ?_;intro b1
 cases boolIs (p.nm.toList == x.nm.toList) with
 | true hq =>
  generalize hg:eqB p.key x.key=g at *;refine pV 9 (v:=.bool (p.nm.toList == x.nm.toList)) (v':=.bool true) (Dj Value.bool hq) ?_;refine go0 4 [.b 0 1,.f 0 1] [] ?_;refine nV (.bool g) (λw=>run_eqop (x:=(.tmp 11)) (y:=(.tmp 13)) (v:=p.key) (w:=x.key) (by kernel_rfl) (by kernel_rfl) (by kernel_rfl) (hg)) ?_;refine go0 5 [] [] ?_;refine hQ.to [.bool g] (λH sH=>?_);exact Dj Value.bool (by rw [hq]; rfl)
 | false hq =>
  refine pV 9 (v:=.bool (p.nm.toList == x.nm.toList)) (v':=.bool false) (Dj Value.bool hq) ?_;refine go0 10 [] [] ?_;refine hQ.to [.bool false] (λH sH=>?_);exact Dj Value.bool (by rw [hq]; rfl)
theorem idxOrc_any (l:List Aw) (A:Option Addr) (cap:Nat) (b:Nat) (x:Aw) (h:Vw) (hr:RS h 7 (.slice A l.length cap) (qJ l)) (hl:l.length <= 1000000) (hc:Cells h b 0 (anRow x)) (hno:∀ q∈l,q.hit x.nm x.key=false) :
  C0 Tryz.prog 50 #[.slice A l.length cap,.func (.func 163) #[] #[.pointer (some ⟨b,0,none⟩)]] h (λr _=>r=Vi (-1)):=by
 generalize hL:l.length=len at *;refine yQ Tryz.func50 λhbx hbad Q hQ=>?_;refine go0 14 [] [] ?_;refine gV [0,1,0,1] [.block 0,.seq [1,1]] (λ(k:Nat) X=>∃ (W1:Vw) ,X W1 [(0,.slice A len cap),(1,.func (.func 163) #[] #[Vp b]),(7,Vi (len:Int)),(8,Vi (k:Int))] [] [] /\ Sees h W1 /\ (k <= len)) (λk=>len - k) (0) (λX q=>⟨h,q _ _ _ _ ⟨rfl,by kernel_rfl⟩,Sees.refl _,Mj _⟩) ?_;rintro k a w ⟨W1,hJ,S2,hk⟩; refine lV hJ ?_; clear hJ a w;refine go0 6 [] [] ?_;rcases (by omega:k < len\/k=len) with hlt | hke
 ·obtain ⟨q,hqk⟩:∃ q,l[k]?=some q:=⟨_,Fj (by omega)⟩;have hrow:(qJ l)[k]?=some (anRow q):=by rw [Nj,hqk]; rfl
  have hq1:=λH q1=>orc1_any q b x H q1;rw [hno q (Ej hqk)] at hq1;refine rV (t:=decide ((k:Int) < (len:Int))) (Kj (by omega)) ?_;refine go0 15 [] [] ?_;obtain ⟨b3,o4,rfl,-,c5⟩:=RS.row hr (hrow);refine zQ (c5.sees S2) ?_;refine go0 13 [.ix b3 o4 len cap k,.f 0 0,.cl 163 #[.agg #[Vt q.nm,Vi q.key.k,Vi q.key.n,.string q.key.s,Vi q.has.k,Vi q.has.n,.string q.has.s],Vp b] (.bool false)] [(18,Vi (IntKind.i64.wrap ((k:Int) + 1)),Vi ((k:Int) + 1))] ?_ (ho:=(Aj (by first | omega | (simp; omega)) (Aj (λH sH=>hq1 _ (hc.sees (S2.trans sH))) (trivial)))) (hc:=(Aj (jJ (by omega) (by omega)) (trivial)));exact qV (k + 1) (λX q=>⟨W1,q _ _ _ _ ⟨rfl,by kernel_rfl⟩,S2,by omega⟩)
 ·skip;refine aV (t:=decide ((k:Int) < (len:Int))) (Jj (by omega)) ?_
  refine go0 2 [] [] ?_;refine fV ?_;refine go0 8 [] [] ?_;refine hQ.to [Vi (-1)] (λH sH=>?_);exact rfl
theorem contOrc_any (l:List Aw) (A:Option Addr) (cap:Nat) (b:Nat) (x:Aw) (h:Vw) (hr:RS h 7 (.slice A l.length cap) (qJ l)) (hl:l.length <= 1000000) (hc:Cells h b 0 (anRow x)) (hno:∀ q∈l,q.hit x.nm x.key=false) :
  C0 Tryz.prog 61 #[.slice A l.length cap,.func (.func 163) #[] #[.pointer (some ⟨b,0,none⟩)]] h (λr _=>r=.bool false):=by
 have hi:=λH q1 q2=>idxOrc_any l A cap b x H q1 hl q2 hno;refine yQ Tryz.func61 λhbx hbad Q hQ=>?_;refine go0 15 [.cl 50 #[.slice A l.length cap,.func (.func 163) #[] #[Vp b]] (Vi (-1))] [] ?_ (ho:=(Aj (λH sH=>hi _ (hr.sees sH) (hc.sees sH)) (trivial)));refine hQ.to [.bool false] (λH sH=>?_);exact rfl
theorem once_take {l:List Aw} (h:l.Pairwise (λp q=>p.hit q.nm q.key=false)) {k:Nat} {x:Aw} (hx:l[k]?=some x):∀ q∈l.take k,q.hit x.nm x.key=false:=λq hq=>by
 obtain ⟨i,hi⟩:=Iq hq;have hik:i < k:=by
  rcases Ov i k with g | g
  ·exact g
  ·rw [Cv (by rw [Bk]; omega)] at hi; cases hi
 rw [List.getElem?_take_of_lt hik] at hi;obtain ⟨a,ea⟩:=Qj.1 hi;obtain ⟨b,eb⟩:=Qj.1 hx
 have:=List.pairwise_iff_getElem.1 h i k a b hik
 rw [ea,eb] at this;exact this
theorem whOracle_any (fs:List Fd) (hok:OkFs fs) (l:List Aw) (ho:OkOrc fs l) (A:Option Addr) (n c:Nat) (B:Option Addr) (m d:Nat) (so:Value) (h:Vw) (hf:IsFds h (.slice A n c) fs) (hn:n=fs.length) (hr:RS h 7 so (qJ l)) (hl:l.length <= 1000) :
  C0 Tryz.prog 110 #[.agg #[.slice A n c,.slice B m d],so] h (λr _=>r=Vi 0):=by
 obtain ⟨vs,A3,c3,e3,-,-,hr3,hs3,hl3,hsl⟩:=fQ hf;have few:=hok.few;have hF:=λH s i q hp=>find_yes fs (.slice A n c) s i H q (by omega) hp;have hT:=λH x v q1 q2 q3 q4=>tyOf_any fs x v (.slice A n c) H q1 q2 q3 q4;simp only [Kk] at e3;obtain ⟨rfl,-,rfl⟩:=e3;rw [<- hn] at hr3 hl3;obtain ⟨A0,c0,rfl,hc1,-,-⟩:=hr.form;rw [Gj] at *;have hC:=λk H b x q1 q2 q3=>contOrc_any (l.take k) A0 c0 b x H q1 (by rw [Bk]; omega) q2 q3;generalize hL:l.length=len at *;refine yQ Tryz.func110 λhbx hbad Q hQ=>?_;refine go1 15 [.own] [] ?_;intro b1;refine gV [0,1,0,1] [.block 0,.seq [1,1]] (λ(k:Nat) X=>∃ (W2:Vw) ,X W2 [(1,.slice A0 len c0),(2,Vp b1),(13,.slice A0 len c0),(14,Vi (len:Int)),(15,Vi (k:Int))] [.box b1 [.slice A n c,.slice B m d]] [] /\ Sees h W2 /\ (k <= len)) (λk=>len - k) (0) (λX q=>⟨h,q _ _ _ _ ⟨rfl,by kernel_rfl⟩,Sees.refl _,Mj _⟩) ?_;rintro k a w ⟨W2,hJ,S3,hkl⟩; refine lV hJ ?_; clear hJ a w;refine go0 6 [] [] ?_;rcases (by omega:k < len\/k=len) with hlt | hke
 ·obtain ⟨x,hxk⟩:∃ x,l[k]?=some x:=⟨_,Fj (by omega)⟩;have hrow:(qJ l)[k]?=some (anRow x):=by rw [Nj,hxk]; rfl
  have hno:=once_take ho.once hxk;have hx:=ho.each x (Ej hxk);obtain ⟨i,f,t,p1,p2,p3,p4,p5,p6⟩:=hx.place;have hil:=(Qj.1 p1).1;have hF1:=hok.each f (Ej p1);obtain ⟨w1,w2,w3⟩:=hF1.wf (by omega);obtain ⟨u,hu⟩:∃ u,vs[i]?=some u:=⟨_,Fj (by omega)⟩;have hfr:=cQ p1 hu;have hga:∀ H,AllSrc H fs vs -> IsArgs H f.src u:=λH q=>AllArgs.get q (x:=f.src) (by rw [Nj,p1]; rfl) hu;obtain ⟨Au,nu,cu,rfl⟩:=(hga _ hs3).slice;have hfd:=kQ hok.nodup p1;have hF2:=λH q=>hF H x.nm i q (by rw [<- p2]; exact hfd);have hT2:=λH q1 q2=>hT H f.src (.slice Au nu cu) q1 w1 (by omega) q2;rw [show ofE fs f.src=(t,0) from by unfold ofE; rw [Cj w3,p4]] at hT2;have hk1:=λH=>c_kn x.key.k x.key.n x.key.s H hx.key;have hk2:=λH=>check_okv x.has H (.inl hx.has);have htl:(l.take k).length=k:=by rw [Bk]; omega
  have htr:RS h 7 (.slice A0 k c0) (qJ (l.take k)):=by have:=hr.take k (by rw [Gj]; omega); rwa [<- List.map_take] at this
  have hC2:=λH b q1 q2=>hC k H b x q1 q2 hno;rw [htl] at hC2;refine rV (t:=decide ((k:Int) < (len:Int))) (Kj (by omega)) ?_;refine go0 7 [] [] ?_;obtain ⟨b4,o5,rfl,-,c6⟩:=RS.row hr (hrow);refine zQ (c6.sees S3) ?_;refine go1 36 [.ix b4 o5 len c0 k,.f 0 0,.own,.b 0 0,.b 1 0,.b 0 0,.cl 96 #[.slice A n c,.string x.nm] (.tuple #[Vi (i:Int),Vi 0]),.b 1 0] [] ?_ (ho:=(Aj (by first | omega | (simp; omega)) (Aj (λH sH=>hF2 _ (hf.sees (S3.trans sH))) (trivial))));intro bx;obtain ⟨b7,o8,rfl,-,c9⟩:=RS.row hr3 (hfr);refine zQ (c9.sees S3) ?_;refine go1 86 [.ix b7 o8 n c i,.f 0 0,.own,.b 0 0,.b 0 1,.b 0 3,.b 2 0,.cl 162 #[.agg #[Vi f.src.op,Vi f.src.k,Vi f.src.n,.string f.src.s,.string f.src.nm,.slice Au nu cu],.slice (some ⟨b7,o8,none⟩) n c] (.tuple #[Vi t,Vi 0]),.b 1 1,.cl 60 #[.agg #[Vi x.key.k,Vi x.key.n,.string x.key.s]] (.bool true),.b 1 1,.b 1 4,.cl 85 #[.agg #[Vi x.has.k,Vi x.has.n,.string x.has.s]] (Vi 0),.b 1 4,.b 0 2] [(38,.bool (f.kind != 3),.bool false),(56,.bool (x.key.k != t),.bool false),(69,.bool (x.has.k != f.ty),.bool false)] ?_ (ho:=(Aj (by first | omega | (simp; omega)) (Aj (λH sH=>hT2 _ (hga _ (hs3.sees (S3.trans sH))) (hf.sees (S3.trans sH))) (Aj (λH sH=>hk1 _) (Aj (λH sH=>hk2 _) (trivial)))))) (hc:=(Aj (Dj Value.bool (by rw [Ik]; exact p3)) (Aj (Dj Value.bool (by rw [Ik]; exact p5)) (Aj (Dj Value.bool (by rw [Ik]; exact p6)) (trivial)))));intro b10;refine nV (.slice (some ⟨b4,o5,none⟩) k c0) (λw=>run_hi (t:=32) (e:=122) (x:=(.tmp 77)) (y:=(.tmp 78)) (A:=(some ⟨b4,o5,none⟩)) (n:=len) (cap:=c0) (k:=k) (kk:=7) (by kernel_rfl) (by kernel_rfl) (by kernel_rfl) (by omega) Tryz.underlying32 (by kernel_rfl)) ?_;refine go0 1 [] [] ?_;refine g_callq (λa w hJ=>hC2 _ bx (htr.sees (S3.trans hJ.j.seesQ)) (hJ.j.boxQ (b:=bx) (cs:=[Vt x.nm,Vi x.key.k,Vi x.key.n,.string x.key.s,Vi x.has.k,Vi x.has.n,.string x.has.s]) 1 (by kernel_rfl))) ?_; intro W11 S12;refine go0 10 [] [(82,Vi (IntKind.i64.wrap ((k:Int) + 1)),Vi ((k:Int) + 1))] ?_ (hc:=(Aj (jJ (by omega) (by omega)) (trivial)));exact qV (k + 1) (λX q=>⟨W11,q _ _ _ _ ⟨rfl,by kernel_rfl⟩,(S3.trans S12),by omega⟩)
 ·skip;refine aV (t:=decide ((k:Int) < (len:Int))) (Jj (by omega)) ?_
  refine go0 2 [] [] ?_;refine fV ?_;refine go0 8 [] [] ?_;refine hQ.to [Vi 0] (λH sH=>?_);exact rfl
theorem fcs_snoc:∀ {fs:List Fd} {vs:List Vl} (f:Fd) (v:Vl),vs.length=fs.length -> fcs (fs++[f]) (vs++[v])=fcs fs vs++[(f.name,v)]
 | [],[],f,v,_=>rfl
 | g :: fs,x :: vs,f,v,h=>by
  show _ :: fcs (fs++[f]) (vs++[v])=_;rw [fcs_snoc f v (by simpa using h)]; rfl
 | [],_ :: _,_,_,h=>by simp at h
 | _ :: _,[],_,_,h=>by simp at h
theorem fcs_ok {fs:List Fd} {vs:List Vl} (h:∀ x∈vs,OkV x):∀ p∈fcs fs vs,OkV p.2:=by
 induction fs generalizing vs with
 | nil=>intro p hp; cases hp
 | cons f fs ih =>
  cases vs with
  | nil=>intro p hp; cases hp
  | cons v vs =>
   intro p hp;rcases Tj.1 hp with rfl | hp
   ·exact h v (by simp)
   ·exact ih (λx hx=>h x (by simp [hx])) p hp
theorem facts_l (fs:List Fd) (va:List Vl) (A:Option Addr) (n c:Nat) (A1:Option Addr) (c1:Nat) (h:Vw) (hf:IsFds h (.slice A n c) fs) (hn:n=fs.length) (few:n <= 1000) (ha:RS h 3 (.slice A1 n c1) (kZ va)) (la:va.length=n) :
  C0 Tryz.prog 59 #[.slice A n c,.slice A1 n c1] h (λr h'=>∃ u,r=sL u /\ RS h' 7 (sL u) (zK (fcs fs va))):=by
 obtain ⟨vs,A',c',e,-,-,hr,hs,hvl,hsl⟩:=fQ hf;simp only [Kk] at e;obtain ⟨rfl,-,rfl⟩:=e;rw [<- hn] at hr hvl;have hfl:=λk (q:k <= n)=>fcs_len (fs:=fs.take k) (v:=va.take k) (by simp; omega);refine yQ Tryz.func59 λhbx hbad Q hQ=>?_;refine go0 19 [] [] ?_;refine kV 122 7 ?_;refine gV [0,1,0,1,1] [.block 0,.seq [1,1,1]] (λ(k:Nat) X=>∃ (W1:Vw) (v:Value),X W1 [(1,.slice A1 n c1),(8,.slice A n c),(9,Vi (n:Int)),(10,Vi (k:Int)),(5,v)] [.row v 122 7 (zK (fcs (fs.take k) (va.take k)))] [] /\ Sees h W1 /\ (k <= n)) (λk=>n - k) (0) (λX q=>⟨h,(Vz),q _ _ _ _ ⟨rfl,by kernel_rfl⟩,Sees.refl _,Mj _⟩) ?_;rintro k a w ⟨W1,v,hJ,S2,hk⟩; refine lV hJ ?_; clear hJ a w;refine go0 6 [] [] ?_;rcases (by omega:k < n\/k=n) with hlt | hke
 ·obtain ⟨x,hx⟩:∃ x,fs[k]?=some x:=⟨_,Fj (by omega)⟩;obtain ⟨u,hu⟩:∃ u,vs[k]?=some u:=⟨_,Fj (by omega)⟩;obtain ⟨xa,hxa⟩:∃ y,va[k]?=some y:=⟨_,Fj (by omega)⟩;have hrow:=cQ hx hu;have hra:=vlRows_get hxa;obtain ⟨Au,nu,cu,rfl⟩:=(AllArgs.get hs (x:=x.src) (by rw [Nj,hx]; rfl) hu).slice;have hsn:=fcs_snoc (fs:=fs.take k) (vs:=va.take k) x xa (by simp; omega);rw [<- fZ _ k x hx, <- fZ _ k xa hxa] at hsn;have hl2:=hfl k hk;rw [Bk] at hl2;have hl3:(zK (fcs (fs.take k) (va.take k))).length=(fcs (fs.take k) (va.take k)).length:=Gj _;refine rV (t:=decide ((k:Int) < (n:Int))) (Kj (by omega)) ?_;refine go0 7 [] [] ?_;obtain ⟨b3,o4,rfl,-,c5⟩:=RS.row hr (hrow);refine zQ (c5.sees S2) ?_;refine go1 16 [.ix b3 o4 n c k,.f 0 0,.own,.b 0 0] [(18,.bool (decide ((k:Int) < (n:Int))),.bool true)] ?_ (ho:=(Aj (by first | omega | (simp; omega)) (trivial))) (hc:=(Aj (Dj Value.bool (Kj (by omega))) (trivial)));intro b6;obtain ⟨b7,o8,rfl,-,c9⟩:=RS.row ha (hra);refine zQ (c9.sees S2) ?_;refine oV 11 0 [.pu,.pu,.ld 0 0,.pu,.pu,.v (λgh=>.pointer (some ⟨b7,o8 + k * 3,none⟩)),.lf 0 0,.pu,.f (λgh=>.slice (some ⟨(vJ (gh 8)),0,none⟩) 1 1) (λgh hh=>Cells hh (vJ (gh 8)) 0 [Vt x.name,Vi 0,Vi 0,Ve,Vi xa.k,Vi xa.n,.string xa.s]),.e (λgh=>sL (gh 9)) 1 (λgh=>.row (sL (gh 9)) 122 7 ((zK (fcs (fs.take k) (va.take k)))++[[Vt x.name,Vi 0,Vi 0,Ve,Vi xa.k,Vi xa.n,.string xa.s]])),.pu] [(8,true),(9,false)] (Aj (λ_ _ _ s c=>c.sees s) (trivial)) ?_ ?_
  ·intro R hT hA hmono;refine Aj (eZ hT hA b7 o8 n c1 k (λgh=>.pointer (some ⟨b7,o8 + k * 3,none⟩)) (by first | omega | (simp; omega))) ?_;refine Aj (dY hT hA hmono 27 (λg=>Vs g 1 1) [7] 8 (λgh=>[Vt x.name,Vi 0,Vi 0,Ve,Vi xa.k,Vi xa.n,.string xa.s]) 122 (λgh zb zH zc zj zq zhq zhe=>nX (i:=8) (k:=0) (f:=λgh hh=>Cells hh (vJ (gh 8)) 0 [Vt x.name,Vi 0,Vi 0,Ve,Vi xa.k,Vi xa.n,.string xa.s]) (by kernel_rfl) (by kernel_rfl) zc zj zq zhq zhe)) ?_;refine Aj (zX hT hA hmono 28 [0,8] 9 1 (GN R 1) (λgh=>v) 32 122 7 (λgh=>zK (fcs (fs.take k) (va.take k))) (λgh=>[[Vt x.name,Vi 0,Vi 0,Ve,Vi xa.k,Vi xa.n,.string xa.s]]) (.tmp 19) (.tmp 27) (λgh=>(vJ (gh 8))) 1 1 0 8 (λgh hh=>Cells hh (vJ (gh 8)) 0 [Vt x.name,Vi 0,Vi 0,Ve,Vi xa.k,Vi xa.n,.string xa.s]) (λ_ _ c=>c) Tryz.underlying32 (zv:=.agg #[Ve,Vi 0,Vi 0,Ve,Vi 0,Vi 0,Ve]) (bytes:=80) (λ_=>by constructor <;> (simp; omega))) ?_
   trivial
  rintro b11 v28 W12 S13 ⟨f10,-⟩;replace f10:Cells W12 b11 0 [Vt x.name,Vi 0,Vi 0,Ve,Vi xa.k,Vi xa.n,.string xa.s]:=f10;refine zQ f10 ?_;refine go0 6 [] [(29,Vi (IntKind.i64.wrap ((k:Int) + 1)),Vi ((k:Int) + 1))] ?_ (hc:=(Aj (jJ (by omega) (by omega)) (trivial)));refine eV [(1,.slice (some ⟨b7,o8,none⟩) n c1),(8,.slice (some ⟨b3,o4,none⟩) n c),(9,Vi (n:Int)),(5,sL v28),(10,Vi ((k:Int) + 1))] [.row (sL v28) 122 7 ((zK (fcs (fs.take k) (va.take k)))++[[Vt x.name,Vi 0,Vi 0,Ve,Vi xa.k,Vi xa.n,.string xa.s]])] [] ?_;exact qV (k + 1) (λX q=>⟨W12,sL v28,q _ _ _ _ (tY (by rw [hsn,aQ]; try rfl)),(S2.trans S13),by omega⟩)
 ·skip;have t1:fs.take k=fs:=by rw [hke,hn,Qk]
  have t2:va.take k=va:=by rw [hke, <- la,Qk]
  rw [t1,t2];have hrl:(zK (fcs fs va)).length=(fcs fs va).length:=Gj _;refine cV 0 (v:=v) (e:=122) (kk:=7) (l:=zK (fcs fs va)) ?_; intro Ar cr hE_v hc_v hm_v;rw [show (zK (fcs fs va)).length=(fcs fs va).length from by first | omega | (simp; done) | (simp; omega)] at hE_v hc_v;rw [hE_v];refine aV (t:=decide ((k:Int) < (n:Int))) (Jj (by omega)) ?_;refine go0 2 [] [] ?_;refine fV ?_;refine go0 9 [] [] ?_;refine eV [(4,.slice Ar ((fcs fs va).length) cr)] [.row (.slice Ar ((fcs fs va).length) cr) 122 7 (zK (fcs fs va))] [] ?_;refine hQ.toJ [.slice Ar ((fcs fs va).length) cr] [] (λa w hJ=>?_);have fr:=hJ.j.rowOut0 (v:=.slice Ar ((fcs fs va).length) cr) (e:=122) (k:=7) (l:=zK (fcs fs va)) 0 (by kernel_rfl) rfl;exact ⟨.slice Ar (fcs fs va).length cr,rfl,fr⟩
theorem run_rem9 {P:Program} {t:TypeId} (a:Int) (w:World):(binOp .rem t (Vi a) (Vi 9)).run P w=.ok (Vi (Int.tmod a 9)) w:=by
 simp [binOp,Op.intDiv]
theorem run_hiS {P:Program} {o:Oper} {ρ:Operand -> Value} {t:TypeId} {x y:Operand} {s:ByteArray} {k:Int} (w:World) (ho:o.op=.slice t x none (some y) none) (hx:ρ x=.string s) (hy:ρ y=Vi k) (h0:0 <= k) (hk:k <= s.size) (ht:P.underlying t=some .string) :
  (execOp ρ o).run P w=.ok (.value (Vt (s.extract 0 k.toNat))) w:=by
 unfold execOp;simp only [ho,hx,hy,Nq,Option.map_none];simp [run_sliceAt_string (w:=w) t _ _ _ _ ht,run_slice_string_h (w:=w) t s ht .i64 k h0 hk]
theorem answered_any (f:Fd) (A:Option Addr) (n c:Nat) (key:Vl) (h:Vw) (hn:f.name.size <= 10) (hk:key.s.size <= 40) (t1:1 <= f.ty) (t3:f.ty <= 3):C0 Tryz.prog 55 #[.agg #[Vt f.name,Vi f.kind,Vi f.ty,Vi f.src.op,Vi f.src.k,Vi f.src.n,.string f.src.s,.string f.src.nm,.slice A n c],.agg #[Vi key.k,Vi key.n,.string key.s]] h (λr _=>r=(ansV f key).val):=by
 have hr:=ansN_lo f key hn hk;have hp2:=λH=>zJ (ansN f key) 2 H (by omega) (by omega) (by omega) (by omega);have hp9:=λH=>zJ (ansN f key) 9 H (by omega) (by omega) (by omega) (by omega);have p0:=wX (ansN f key) 9 (by omega);have p1:=vX (ansN f key) 9 (by omega);have habc:abcB.size=9:=rfl;have e:ansN f key=Int.tmod key.n 9 + 3 * (key.s.size:Int) + (f.name.size:Int):=rfl;have hs0:(0:Int) <= (key.s.size:Int):=Int.natCast_nonneg _;have hrem:key.n % 9=key.n % 9:=rfl;obtain g | g | g:f.ty=1\/f.ty=2\/f.ty=3:=by omega
 ·have ea:ansV f key=⟨1,ansN f key,⟨#[]⟩⟩:=by unfold ansV; rw [Cj g]
  rw [ea];generalize ansN f key=N at *;refine yQ Tryz.func55 λhbx hbad Q hQ=>?_;refine go3 11 [.own,.own,.own,.b 1 1] [] ?_;intro b1 b2 b3;refine nV (Vi (Int.tmod key.n 9)) (λw=>run_bin' (op:=.rem) (t:=3) (x:=(.tmp 7)) (y:=(.const (Vi 9))) (yt:=3) (run_rem9 key.n w)) ?_;refine go0 37 [.b 1 2,.b 2 0,.b 2 2,.b 0 0] [(12,Vi (IntKind.i64.wrap (3 * (key.s.size:Int))),Vi (3 * (key.s.size:Int))),(13,Vi (IntKind.i64.wrap (Int.tmod key.n 9 + (3 * (key.s.size:Int)))),Vi (Int.tmod key.n 9 + (3 * (key.s.size:Int)))),(17,Vi (IntKind.i64.wrap ((Int.tmod key.n 9 + (3 * (key.s.size:Int))) + (f.name.size:Int))),Vi N),(21,.bool (f.ty == 1),.bool true)] ?_ (hc:=(Aj (jJ (by omega) (by omega)) (Aj (jJ (by omega) (by omega)) (Aj ((jJ (by omega) (by omega)).trans (Dj (Value.int .i64) e.symm)) (Aj (Dj Value.bool (Xj.2 g)) (trivial))))));refine hQ.to [.agg #[Vi 1,Vi N,Ve]] (λH sH=>?_) (ix:=[0]);exact rfl
 ·have ea:ansV f key=⟨2,cJ (ansN f key) 2,⟨#[]⟩⟩:=by unfold ansV; rw [Bj (by omega),Cj g]
  rw [ea];generalize ansN f key=N at *;refine yQ Tryz.func55 λhbx hbad Q hQ=>?_;refine go3 11 [.own,.own,.own,.b 1 1] [] ?_;intro b1 b2 b3;refine nV (Vi (Int.tmod key.n 9)) (λw=>run_bin' (op:=.rem) (t:=3) (x:=(.tmp 7)) (y:=(.const (Vi 9))) (yt:=3) (run_rem9 key.n w)) ?_;refine go0 45 [.b 1 2,.b 2 0,.b 2 2,.cl 37 #[Vi N,Vi 2] (Vi (cJ N 2)),.b 0 0] [(12,Vi (IntKind.i64.wrap (3 * (key.s.size:Int))),Vi (3 * (key.s.size:Int))),(13,Vi (IntKind.i64.wrap (Int.tmod key.n 9 + (3 * (key.s.size:Int)))),Vi (Int.tmod key.n 9 + (3 * (key.s.size:Int)))),(17,Vi (IntKind.i64.wrap ((Int.tmod key.n 9 + (3 * (key.s.size:Int))) + (f.name.size:Int))),Vi N),(21,.bool (f.ty == 1),.bool false),(25,.bool (f.ty == 2),.bool true)] ?_ (ho:=(Aj (λH sH=>hp2 _) (trivial))) (hc:=(Aj (jJ (by omega) (by omega)) (Aj (jJ (by omega) (by omega)) (Aj ((jJ (by omega) (by omega)).trans (Dj (Value.int .i64) e.symm)) (Aj (Dj Value.bool (Lj.2 (by omega))) (Aj (Dj Value.bool (Xj.2 g)) (trivial)))))));refine hQ.to [.agg #[Vi 2,Vi (cJ N 2),Ve]] (λH sH=>?_) (ix:=[0]);exact rfl
 ·have ea:ansV f key=⟨3,0,f.name++abcB.extract 0 (cJ (ansN f key) 9).toNat⟩:=by unfold ansV; rw [Bj (by omega),Bj (by omega)]
  rw [ea];have hcut:=λ(ρ:Operand -> Value) (o:Oper) (x y:Operand) (w:World) q1 q2 q3=>run_hiS (P:=Tryz.prog) (o:=o) (ρ:=ρ) (t:=9) (x:=x) (y:=y) (s:=abcB) (k:=cJ (ansN f key) 9) w q1 q2 q3 p0 (by rw [habc]; omega) Tryz.underlying9;generalize ansN f key=N at *;generalize cJ N 9=q at *;have hcs:=(abc_print q.toNat).1;refine yQ Tryz.func55 λhbx hbad Q hQ=>?_;refine go3 11 [.own,.own,.own,.b 1 1] [] ?_;intro b1 b2 b3;refine nV (Vi (Int.tmod key.n 9)) (λw=>run_bin' (op:=.rem) (t:=3) (x:=(.tmp 7)) (y:=(.const (Vi 9))) (yt:=3) (run_rem9 key.n w)) ?_;refine go0 38 [.b 1 2,.b 2 0,.b 2 2] [(12,Vi (IntKind.i64.wrap (3 * (key.s.size:Int))),Vi (3 * (key.s.size:Int))),(13,Vi (IntKind.i64.wrap (Int.tmod key.n 9 + (3 * (key.s.size:Int)))),Vi (Int.tmod key.n 9 + (3 * (key.s.size:Int)))),(17,Vi (IntKind.i64.wrap ((Int.tmod key.n 9 + (3 * (key.s.size:Int))) + (f.name.size:Int))),Vi N),(21,.bool (f.ty == 1),.bool false),(25,.bool (f.ty == 2),.bool false)] ?_ (hc:=(Aj (jJ (by omega) (by omega)) (Aj (jJ (by omega) (by omega)) (Aj ((jJ (by omega) (by omega)).trans (Dj (Value.int .i64) e.symm)) (Aj (Dj Value.bool (Lj.2 (by omega))) (Aj (Dj Value.bool (Lj.2 (by omega))) (trivial)))))));refine oV 8 0 [.pu,.ld 2 0,.pu,.v (λgh=>Vi q),.v (λgh=>.string (abcB.extract 0 q.toNat)),.v (λgh=>.string (f.name++abcB.extract 0 q.toNat)),.pu,.st 0 0] [] (trivial) ?_ ?_
  ·intro R hT hA hmono;refine Aj (t_v hT hA hmono (k:=37) (args:=(λgh=>#[Vi N,Vi 9])) (f:=λgh=>Vi q) (λgh H sH fH lent=>hp9 _)) ?_;refine Aj (t_p hT hA (λgh=>.string (abcB.extract 0 q.toNat)) (λgh w=>hcut _ _ (.const (Vt abcB)) (.tmp 32) w (by kernel_rfl) (by kernel_rfl) (by kernel_rfl))) ?_;refine Aj (t_p hT hA (λgh=>.string (f.name++abcB.extract 0 q.toNat)) (λgh w=>run_bin' (op:=.add) (t:=9) (x:=(.tmp 30)) (y:=(.tmp 33)) (yt:=9) (run_cat (by omega)))) ?_
   trivial
  rintro W4 S5 -;refine go0 2 [] [] ?_;refine hQ.to [.agg #[Vi 3,Vi 0,.string (f.name++abcB.extract 0 q.toNat)]] (λH sH=>?_) (ix:=[0]);exact rfl
section
variable {P:Program} {C:Fx} {E:List (Nat × Value)} {B:List Ent} {F:List Fac} {h:Vw} {a:Act} {w w':World} {Q:Exit -> Act -> World -> Prop} {c0:Code} {p:List Nat} {n:Nat} {ks:List Kt}
theorem x_callownq {f:FuncId} {args:Array Value} {e:TypeId} {kk:Nat} {R:Value -> Value -> List (List Value) -> Prop} (hK:K C E B F h a w) (d:Nat) (hc:C0 P f args ⟨w,[]⟩ (λv h'=>∃ u l,Ent.ok w.heap.size h'.w (.row u e kk l) /\ R v u l)) (hk:∀ w,aK P C E (kX c0 p) ((kX c0 p).toList.drop n) d w=[.b true,.r (.ok (.enter f args) w)])
  (k:∀ v u l h' a w,Sees h h' -> R v u l -> K C ((d,v) :: E) (.row u e kk l :: B) F h' a w -> Goal P c0 Q (.ops p (n + 1)) ks a w):Goal P c0 Q (.ops p n) ks a w:=by
 obtain ⟨o,r,hl,hg,hd,hlt,hkn,hrun⟩:=bK hk;have hr:=mK hl;refine kJ hl (qQ hK.j.fits hg) (Nk rfl λKK hKK=>?_);unfold Oper.wp;have hrun':∀ w,(execOp (evD E) { o with guard:=none }).run P w=.ok (.enter f args) w:=λw=>by
  have:=hrun w
  unfold execOp at this ⊢;exact this
 rw [rY (o:={ o with guard:=none }) hK.j.fits hkn,hrun'];refine (hc (by intro x hx; cases hx) (by simp) (by simp) (by intro b hb; cases hb)).mono ?_;rintro e' w' ⟨v,Bo,rfl,hlo,-,-,u,l,hok,hR⟩;refine hKK _ _ ?_;rw [hr];have j1:=(hK.j.addRow hlo hok).putd v hd hlt;exact k v u l _ _ _ j1.sees hR ⟨j1.now,hK.facs j1.sees⟩
theorem g_callownq {s:Z} {f:FuncId} {args:Array Value} {e:TypeId} {kk:Nat} {R:Value -> Value -> List (List Value) -> Prop} (hc:∀ a w,K C s.E s.B s.F h a w -> C0 P f args ⟨w,[]⟩ (λv h'=>∃ u l,Ent.ok w.heap.size h'.w (.row u e kk l) /\ R v u l))
  (k:∀ v u l h',Sees h h' -> R v u l -> Go P C c0 Q h' ((s.nx c0 v).aB (.row u e kk l))) (hk:s.callOk P C c0 f args:=by intro _; kernel_rfl):Go P C c0 Q h s :=
 mV (cK hk).1 λa w hK=>x_callownq hK (s.d c0) (hc a w hK) (cK hk).2 λv u l h' a w s' r hK'=>(k v u l h' s' r).go a w hK'
end
theorem keep1_any (p:Aw) (x:Fd) (A:Option Addr) (n c:Nat) (key:Vl) (b d:Nat) (h:Vw) (hc:Cells h b 0 [Vt x.name,Vi x.kind,Vi x.ty,Vi x.src.op,Vi x.src.k,Vi x.src.n,.string x.src.s,.string x.src.nm,.slice A n c]) (hd:Cells h d 0 [Vi key.k,Vi key.n,.string key.s]):C0 Tryz.prog 62 #[.agg #[Vt p.nm,Vi p.key.k,Vi p.key.n,.string p.key.s,Vi p.has.k,Vi p.has.n,.string p.has.s],.pointer (some ⟨b,0,none⟩),.pointer (some ⟨d,0,none⟩)] h (λr _=>r=.bool (p.hit x.name key)):=by
 unfold Aw.hit;refine yQ Tryz.func62 λhbx hbad Q hQ=>?_;refine zQ (hc.sees (Sees.refl _)) ?_;refine zQ (hd.sees (Sees.refl _)) ?_;refine go1 14 [.own,.b 0 0,.f 1 0] [] ?_;intro b1
 cases boolIs (p.nm.toList == x.name.toList) with
 | true hq =>
  generalize hg:eqB p.key key=g at *;refine pV 10 (v:=.bool (p.nm.toList == x.name.toList)) (v':=.bool true) (Dj Value.bool hq) ?_;refine go0 3 [.b 0 1,.f 0 0] [] ?_;refine nV (.bool g) (λw=>run_eqop (x:=(.tmp 12)) (y:=(.tmp 13)) (v:=p.key) (w:=key) (by kernel_rfl) (by kernel_rfl) (by kernel_rfl) (hg)) ?_;refine go0 5 [] [] ?_;refine hQ.to [.bool g] (λH sH=>?_);exact Dj Value.bool (by rw [hq]; rfl)
 | false hq =>
  refine pV 10 (v:=.bool (p.nm.toList == x.name.toList)) (v':=.bool false) (Dj Value.bool hq) ?_;refine go0 9 [] [] ?_;refine hQ.to [.bool false] (λH sH=>?_);exact Dj Value.bool (by rw [hq]; rfl)
theorem idxKeep_any (l:List Aw) (v:Value) (x:Fd) (A:Option Addr) (n c:Nat) (key:Vl) (b d:Nat) (h:Vw) (hr:RS h 7 v (qJ l)) (hl:l.length <= 1000000) (hc:Cells h b 0 [Vt x.name,Vi x.kind,Vi x.ty,Vi x.src.op,Vi x.src.k,Vi x.src.n,.string x.src.s,.string x.src.nm,.slice A n c]) (hd:Cells h d 0 [Vi key.k,Vi key.n,.string key.s]) :
  C0 Tryz.prog 50 #[v,.func (.func 62) #[] #[.pointer (some ⟨b,0,none⟩),.pointer (some ⟨d,0,none⟩)]] h (λr _=>r=Vi (fidx (λq:Aw=>q.hit x.name key) l)):=by
 obtain ⟨Al,cap,rfl,-,-,-⟩:=hr.form;rw [Gj] at *;generalize hL:l.length=len at *;refine yQ Tryz.func50 λhbx hbad Q hQ=>?_;refine go0 14 [] [] ?_;refine gV [0,1,0,1] [.block 0,.seq [1,1]] (λ(k:Nat) X=>∃ (W1:Vw) ,X W1 [(0,.slice Al len cap),(1,.func (.func 62) #[] #[Vp b,Vp d]),(7,Vi (len:Int)),(8,Vi (k:Int))] [] [] /\ Sees h W1 /\ (k <= len) /\ (∀ y∈l.take k,y.hit x.name key=false)) (λk=>len - k) (0) (λX q=>⟨h,q _ _ _ _ ⟨rfl,by kernel_rfl⟩,Sees.refl _,Mj _,λy hy=>by simp at hy⟩) ?_;rintro k a w ⟨W1,hJ,S2,hk,hn⟩; refine lV hJ ?_; clear hJ a w;refine go0 6 [] [] ?_;rcases (by omega:k < len\/k=len) with hlt | hke
 ·obtain ⟨f,hfk⟩:∃ f,l[k]?=some f:=⟨_,Fj (by omega)⟩;have hrow:(qJ l)[k]?=some (anRow f):=by rw [Nj,hfk]; rfl
  generalize hq:f.hit x.name key=q at *;have hq1:=λH q1 q2=>keep1_any f x A n c key b d H q1 q2;rw [hq] at hq1;refine rV (t:=decide ((k:Int) < (len:Int))) (Kj (by omega)) ?_;refine go0 15 [] [] ?_;obtain ⟨b3,o4,rfl,-,c5⟩:=RS.row hr (hrow);refine zQ (c5.sees S2) ?_;refine go0 5 [.ix b3 o4 len cap k,.f 0 0,.cl 62 #[.agg #[Vt f.nm,Vi f.key.k,Vi f.key.n,.string f.key.s,Vi f.has.k,Vi f.has.n,.string f.has.s],Vp b,Vp d] (.bool q)] [] ?_ (ho:=(Aj (by first | omega | (simp; omega)) (Aj (λH sH=>hq1 _ (hc.sees (S2.trans sH)) (hd.sees (S2.trans sH))) (trivial))));rcases Mv q with hh | hh
  ·refine rV (t:=q) (hh) ?_;refine go0 9 [] [] ?_;refine fV ?_;refine go0 2 [] [] ?_;refine hQ.to [Vi (k:Int)] (λH sH=>?_);exact Dj (Value.int .i64) (gQ _ l k f hn hfk (hq.trans hh)).symm
  ·skip;refine aV (t:=q) (hh) ?_
   refine go0 7 [] [(18,Vi (IntKind.i64.wrap ((k:Int) + 1)),Vi ((k:Int) + 1))] ?_ (hc:=(Aj (jJ (by omega) (by omega)) (trivial)));exact qV (k + 1) (λX q=>⟨W1,q _ _ _ _ ⟨rfl,by kernel_rfl⟩,S2,by omega,(by rw [fZ l k f hfk]; exact λy hy=>(Sj.1 hy).elim (hn y) (λe=>by rw [Oj.1 e]; exact hq.trans hh))⟩)
 ·skip;have htk:l.take k=l:=by rw [hke, <- hL,Qk]
  rw [htk] at hn;refine aV (t:=decide ((k:Int) < (len:Int))) (Jj (by omega)) ?_;refine go0 2 [] [] ?_;refine fV ?_;refine go0 8 [] [] ?_;refine hQ.to [Vi (-1)] (λH sH=>?_);exact Dj (Value.int .i64) (iQ _ l hn).symm
theorem contKeep_any (l:List Aw) (v:Value) (x:Fd) (A:Option Addr) (n c:Nat) (key:Vl) (b d:Nat) (h:Vw) (hr:RS h 7 v (qJ l)) (hl:l.length <= 1000000) (hc:Cells h b 0 [Vt x.name,Vi x.kind,Vi x.ty,Vi x.src.op,Vi x.src.k,Vi x.src.n,.string x.src.s,.string x.src.nm,.slice A n c]) (hd:Cells h d 0 [Vi key.k,Vi key.n,.string key.s]) :
  C0 Tryz.prog 61 #[v,.func (.func 62) #[] #[.pointer (some ⟨b,0,none⟩),.pointer (some ⟨d,0,none⟩)]] h (λr _=>r=.bool (l.any (λq=>q.hit x.name key))):=by
 have hi:=λH q1 q2 q3=>idxKeep_any l v x A n c key b d H q1 hl q2 q3;have e:=fidx_dec (λq:Aw=>q.hit x.name key) l;obtain ⟨Al,cap,rfl,-,-,-⟩:=hr.form;generalize fidx (λq:Aw=>q.hit x.name key) l=p at *;refine yQ Tryz.func61 λhbx hbad Q hQ=>?_;refine go0 15 [.cl 50 #[.slice Al ((qJ l).length) cap,.func (.func 62) #[] #[Vp b,Vp d]] (Vi p)] [] ?_ (ho:=(Aj (λH sH=>hi _ (hr.sees sH) (hc.sees sH) (hd.sees sH)) (trivial)));refine hQ.to [.bool (decide (p ≥ 0))] (λH sH=>?_);exact Dj Value.bool e
theorem addO_eq (env:Env) (out:List Aw) (f:Fd):addO env out f=if f.kind=3 then (if (oK env f.src).k <= 3 /\ out.any (λp=>p.hit f.name (oK env f.src))=false then out++[⟨f.name,oK env f.src,ansV f (oK env f.src)⟩] else out) else out:=by
 unfold addO
 by_cases h3:f.kind=3
 ·rw [Cj h3]
  by_cases g:(oK env f.src).k <= 3 /\ out.any (λp=>p.hit f.name (oK env f.src))=false
  ·rw [Cj ⟨h3,g⟩,Cj g]
  ·rw [Bj (λq=>g q.2),Bj g]
 ·rw [Bj (λq=>h3 q.1),Bj h3]
theorem anRows_snoc (l:List Aw) (p:Aw):qJ (l++[p])=qJ l++[anRow p]:=by simp [qJ]
theorem oracle_l (f:Fm) (ρ:List Int) (lv:Nat -> Nat) (A:Option Addr) (n c:Nat) (B:Option Addr) (m d:Nat) (inp:Env) (si:Value) (h:Vw) (hok:OkFm f ρ lv) (hf:IsForm h (.slice A n c) (.slice B m d) f) (hn:n=f.fields.length) (h1:1 <= n)
  (hi:RS h 7 si (zK inp)) (li:inp.length <= 1000) (ki:∀ p∈inp,p.2.known) (ti:vK f.fields [] inp=0) (hW:Wh f.fields inp ρ lv (mX ρ n)) :
  C0 Tryz.prog 21 #[.agg #[.slice A n c,.slice B m d],si] h (λr h'=>∃ A' c',r=.tuple #[.slice A' (orcL f.fields inp (mX ρ n) n).length c',.bool true] /\ RS h' 7 (.slice A' (orcL f.fields inp (mX ρ n) n).length c') (qJ (orcL f.fields inp (mX ρ n) n))):=by
 have few:=hok.fields.few;have hAll:=λso orc H q1 q2 q3 q4 q5=>whAll_own f ρ lv A n c B m d inp si so orc H hok q1 hn h1 q2 li ki ti q3 q4 (OkOrc.has q5) (λH' g1 g2=>whOracle_any f.fields hok.fields orc q5 A n c B m d so H' g1.fields hn g2 q4);have hlen:=orcL_len f.fields inp (mX ρ n);have horc:=hW.orc;have hsol:=λr=>hW.sol (horc r);have hstep:∀ r,orcL f.fields inp (mX ρ n) (r + 1)=roundO (fcs f.fields (allW f.fields inp (orcL f.fields inp (mX ρ n) r) (mX ρ n))) f.fields (orcL f.fields inp (mX ρ n) r):=λr=>rfl;have hz:orcL f.fields inp (mX ρ n) 0=[]:=rfl;have hFa:=λva A1 c1 H q1 q2 q3=>facts_l f.fields va A n c A1 c1 H q1 hn (by omega) q2 q3;obtain ⟨A1,c1,rfl,-,-,-⟩:=hi.form;rw [Gj] at *;obtain ⟨vs,A3,c3,e3,-,-,hr3,hs3,hl3,hsl⟩:=fQ hf.fields;simp only [Kk] at e3;obtain ⟨rfl,-,rfl⟩:=e3;rw [<- hn] at hr3 hl3 hlen;generalize hni:inp.length=ni at *;clear hW;generalize hO:orcL f.fields inp (mX ρ n)=orc at *;generalize hV:(λr=>allW f.fields inp (orc r) (mX ρ n))=va at *;have hV':∀ r,allW f.fields inp (orc r) (mX ρ n)=va r:=λr=>congrFun hV r;simp only [hV'] at hsol hstep;have hAll':=λso r H q1 q2 q3 q4=>hAll so (orc r) H q1 q2 q3 q4 (horc r);simp only [hV'] at hAll';clear hAll hV hV' hO;refine yQ Tryz.func21 λhbx hbad Q hQ=>?_;refine go1 22 [.own,.b 0 0] [] ?_;intro b1;refine kV 122 7 ?_;refine gV [0,1,0,1,1] [.block 0,.seq [1,1,1]] (λ(r:Nat) X=>∃ (W2:Vw) (v:Value) (ol:List Aw),X W2 [(1,.slice A1 ni c1),(2,Vp b1),(15,Vi (n:Int)),(16,Vi (r:Int)),(6,v)] [.row v 122 7 (qJ ol),.box b1 [.slice A n c,.slice B m d]] [] /\ Sees h W2 /\ (r <= n) /\ (orc r=ol)) (λr=>n - r) (0) (λX q=>⟨h,(Vz),[],q _ _ _ _ ⟨rfl,by kernel_rfl⟩,Sees.refl _,Mj _,hz⟩) ?_;rintro r a w ⟨W2,v,ol,hJ,S3,hr,hol⟩; refine lV hJ ?_; clear hJ a w;refine go0 6 [] [] ?_;rcases (by omega:r < n\/r=n) with hlt | hke
 ·have hAr:=λso H q1 q2 q3=>hAll' so r H q1 q2 q3;rw [hol] at hAr;have hst:=hstep r;obtain ⟨hs1,hs2⟩:=hsol r;have hs1:=hs1.len;rw [<- hn] at hs1;have hln:=hlen r;have hrn:r * n <= 14 * 14:=Nat.mul_le_mul (by omega) (by omega);rw [hol] at hst hln;generalize va r=vr at *;refine rV (t:=decide ((r:Int) < (n:Int))) (Kj (by omega)) ?_;refine go0 9 [.b 1 0] [] ?_;refine g_callownq (e:=44) (kk:=3) (λa w hJ=>hAr _ _ (hf.sees (S3.trans hJ.j.seesQ)) (hi.sees (S3.trans hJ.j.seesQ)) (hJ.j.rowQ (v:=v) (e:=122) (k:=7) (l:=qJ ol) 0 (by kernel_rfl)) (by omega)) ?_; rintro _ _ _ W4 S5 ⟨rfl,⟨A5,c5,rfl⟩,rfl⟩;refine go0 22 [.b 2 0] [] ?_;refine dV 0 (v:=.slice A5 n c5) (e:=44) (kk:=3) (l:=kZ vr) ?_; intro W6 S7 fa;refine aV (t:=(n:Int) != (n:Int)) ((by simp)) ?_;refine go0 11 [.b 1 0] [] ?_;have hok3:∀ p∈fcs f.fields vr,OkV p.2:=fcs_ok hs2;have hln3:(fcs f.fields vr).length <= 1000:=by rw [fcs_len (by omega)]; omega
  have hFa2:=λH q1 q2=>hFa vr A5 c5 H q1 q2 hs1;have hev:=λx (hx:x∈f.fields) (h3:x.kind=3) v u H q1 q2=>eval_any x.src v (fcs f.fields vr) u H q1 ((hok.fields.each x hx).wf (by omega)).1 ((hok.fields.each x hx).wf (by omega)).2.1 (chk_deep ((hok.fields.each x hx).wf (by omega)).2.2) q2 hok3 hln3;have hkv:=λx (hx:x∈f.fields) (h3:x.kind=3)=>evalE_ok (get_ok hok3) _ x.src (Ij _) ((hok.fields.each x hx).wf (by omega)).1;have hsn:=λj x (hx:f.fields[j]?=some x)=>(Dj (λl=>roundO (fcs f.fields vr) l ol) (fZ f.fields j x hx)).trans (roundO_snoc (fcs f.fields vr) (f.fields.take j) x ol);have hrl:=λj=>roundO_len (fcs f.fields vr) (f.fields.take j) ol;have hadd:=λout x=>addO_eq (fcs f.fields vr) out x;generalize hen:fcs f.fields vr=env at *;refine gV [0,1,1,1,0,0,1,1,0,0,1,0,1,1] [.block 2,.block 1,.seq [1,1,1,0,0,1,0,1,1]] (λ(j:Nat) X=>∃ (W8:Vw) (v:Value) (ml:List Aw),X W8 [(1,.slice A1 ni c1),(2,Vp b1),(15,Vi (n:Int)),(16,Vi (r:Int)),(7,.slice A5 n c5),(36,.slice A n c),(37,Vi (n:Int)),(38,Vi (j:Int)),(6,v)] [.row v 122 7 (qJ ml),.box b1 [.slice A n c,.slice B m d]] [] /\ Sees W6 W8 /\ (j <= n) /\ (roundO env (f.fields.take j) ol=ml)) (λj=>n - j) (0) (λX q=>⟨W6,v,ol,q _ _ _ _ ⟨rfl,by kernel_rfl⟩,Sees.refl _,Mj _,rfl⟩) ?_;rintro j a w ⟨W8,v,ml,hJ,S9,hj,hml⟩; refine lV hJ ?_; clear hJ a w;refine go0 6 [] [] ?_;rcases (by omega:j < n\/j=n) with hjl | hje
  ·obtain ⟨x,hx⟩:∃ x,f.fields[j]?=some x:=⟨_,Fj (by omega)⟩;obtain ⟨u,hu⟩:∃ u,vs[j]?=some u:=⟨_,Fj (by omega)⟩;have hxm:=Ej hx;have hrow:=cQ hx hu;have hga:∀ H,AllSrc H f.fields vs -> IsArgs H x.src u:=λH q=>AllArgs.get q (x:=x.src) (by rw [Nj,hx]; rfl) hu;obtain ⟨Au,nu,cu,rfl⟩:=(hga _ hs3).slice;have hml2:=hsn j x hx;have hmll:=hrl j;rw [hml] at hml2 hmll;rw [Bk] at hmll;have hmr:(qJ ml).length=ml.length:=Gj _;have hxo:=hok.fields.each x hxm;obtain ⟨hx10,-⟩:=name_print hxo.name;have t1:=hxo.t1;have t3:=hxo.t3;have hadd2:=hadd ml x;refine rV (t:=decide ((j:Int) < (n:Int))) (Kj (by omega)) ?_;refine go0 6 [] [] ?_;obtain ⟨b10,o11,rfl,-,c12⟩:=RS.row hr3 (hrow);refine zQ (c12.sees (S3.trans (S5.trans (S7.trans S9)))) ?_;refine go1 14 [.ix b10 o11 n c j,.f 0 0,.own,.b 0 0,.b 0 1] [] ?_ (ho:=(Aj (by first | omega | (simp; omega)) (trivial)));intro bx
   by_cases g3:x.kind=3
   ·have hev2:=λu H q1 q2=>hev x hxm g3 (.slice Au nu cu) u H q1 q2;have hkv2:=hkv x hxm g3;rw [Cj g3] at hadd2;generalize oK env x.src=key at *;have hck:=λb d v H q1 q2 q3=>contKeep_any ml v x Au nu cu key b d H q1 (by omega) q2 q3;have han:=λ(hk:key.known) H=>answered_any x Au nu cu key H hx10 (known_size hk) t1 t3;generalize hhit:ml.any (λq=>q.hit x.name key)=hit at *;generalize ansV x key=av at *;refine aV (t:=x.kind != 3) ((by rw [Ik]; exact g3)) ?_;refine go0 3 [] [] ?_;refine oV 13 1 [.pu,.ld 1 3,.pu,.ld 3 0,.pu,.f (λgh=>sL (gh 5)) (λgh hh=>RS hh 7 (sL (gh 5)) (zK env)),.v (λgh=>.tuple #[.agg #[Vi key.k,Vi key.n,.string key.s],Vi 0]),.pu,.pu,.pu,.al 0,.st 0 0,.pu] [(5,false),(10,true)] (Aj (λ_ _ _ s c=>c.sees s) (trivial)) ?_ ?_
    ·intro R hT hA hmono;refine Aj (aY hT hA hmono 51 (λu=>sL u) [3,4] 5 59 (λgh=>#[.slice (some ⟨b10,o11,none⟩) n c,.slice A5 n c5]) (λgh H sH fH lent=>C0.facts (R:=R) (x:=gh) (i:=5) (n:=0) (F:=(λu=>sL u)) (G:=λu hh=>RS hh 7 (sL u) (zK env)) (f:=λgh hh=>RS hh 7 (sL (gh 5)) (zK env)) (hFa2 _ ((hf.sees (S3.trans (S5.trans (S7.trans (S9.trans sH)))))).fields (fa.sees (S9.trans sH))) (by kernel_rfl) (by kernel_rfl) (λ_ _ r=>r))) ?_;refine Aj (t_v hT hA hmono (k:=58) (args:=(λgh=>#[.agg #[Vi x.src.op,Vi x.src.k,Vi x.src.n,.string x.src.s,.string x.src.nm,.slice Au nu cu],sL (gh 5)])) (f:=λgh=>.tuple #[.agg #[Vi key.k,Vi key.n,.string key.s],Vi 0]) (λgh H sH fH lent=>hev2 _ _ (hga _ (hs3.sees (S3.trans (S5.trans (S7.trans (S9.trans sH)))))) (fH 0 _ rfl (by kernel_rfl)))) ?_
     trivial
    rintro u51 bk W13 S14 ⟨f51,-⟩;replace f51:RS W13 7 (sL u51) (zK env):=f51;refine go0 4 [.b 0 0] [] ?_
    by_cases gk:key.k <= 3
    ·have hkn:key.known:=by
      rcases hkv2 with q | q | ⟨q,-⟩
      ·exact q
      ·rw [q] at gk; exact absurd gk (by decide)
      ·omega
     have hk1:=λH=>c_kn key.k key.n key.s H hkn;have han2:=han hkn;refine go0 4 [.cl 60 #[.agg #[Vi key.k,Vi key.n,.string key.s]] (.bool true)] [] ?_ (ho:=(Aj (λH sH=>hk1 _) (trivial)));refine g_callq (λa w hJ=>hck _ _ _ _ (hJ.j.rowQ (v:=v) (e:=122) (k:=7) (l:=qJ ml) 2 (by kernel_rfl)) (hJ.j.boxQ (b:=bx) (cs:=[Vt x.name,Vi x.kind,Vi x.ty,Vi x.src.op,Vi x.src.k,Vi x.src.n,.string x.src.s,.string x.src.nm,.slice Au nu cu]) 1 (by kernel_rfl)) (hJ.j.boxQ (b:=bk) (cs:=[Vi key.k,Vi key.n,.string key.s]) 0 (by kernel_rfl))) ?_; intro W15 S16;refine go0 4 [] [] ?_;rcases Mv hit with hh | hh
     ·rw [Bj (λq=>by rw [hh] at q; cases q.2)] at hadd2;refine aV (t := !hit) ((by rw [hh]; rfl)) ?_;refine go0 7 [] [(73,Vi (IntKind.i64.wrap ((j:Int) + 1)),Vi ((j:Int) + 1))] ?_ (hc:=(Aj (jJ (by omega) (by omega)) (trivial)));exact qV (j + 1) (λX q=>⟨W15,v,ml,q _ _ _ _ ⟨rfl,by kernel_rfl⟩,(S9.trans (S14.trans S16)),by omega,hml2.trans hadd2⟩)
     ·skip;rw [Cj ⟨gk,hh⟩] at hadd2
      refine rV (t := !hit) ((by rw [hh]; rfl)) ?_;refine oV 11 0 [.pu,.pu,.ld 1 0,.ld 0 0,.ld 1 0,.ld 0 0,.v (λgh=>.agg #[Vi av.k,Vi av.n,.string av.s]),.pu,.f (λgh=>.slice (some ⟨(vJ (gh 8)),0,none⟩) 1 1) (λgh hh=>Cells hh (vJ (gh 8)) 0 [Vt x.name,Vi key.k,Vi key.n,.string key.s,Vi av.k,Vi av.n,.string av.s]),.e (λgh=>sL (gh 9)) 2 (λgh=>.row (sL (gh 9)) 122 7 ((qJ ml)++[[Vt x.name,Vi key.k,Vi key.n,.string key.s,Vi av.k,Vi av.n,.string av.s]])),.pu] [(8,true),(9,false)] (Aj (λ_ _ _ s c=>c.sees s) (trivial)) ?_ ?_
      ·intro R hT hA hmono;refine Aj (t_v hT hA hmono (k:=55) (args:=(λgh=>#[.agg #[Vt x.name,Vi x.kind,Vi x.ty,Vi x.src.op,Vi x.src.k,Vi x.src.n,.string x.src.s,.string x.src.nm,.slice Au nu cu],.agg #[Vi key.k,Vi key.n,.string key.s]])) (f:=λgh=>.agg #[Vi av.k,Vi av.n,.string av.s]) (λgh H sH fH lent=>han2 _)) ?_;refine Aj (dY hT hA hmono 71 (λg=>Vs g 1 1) [7] 8 (λgh=>[Vt x.name,Vi key.k,Vi key.n,.string key.s,Vi av.k,Vi av.n,.string av.s]) 122 (λgh zb zH zc zj zq zhq zhe=>nX (i:=8) (k:=0) (f:=λgh hh=>Cells hh (vJ (gh 8)) 0 [Vt x.name,Vi key.k,Vi key.n,.string key.s,Vi av.k,Vi av.n,.string av.s]) (by kernel_rfl) (by kernel_rfl) zc zj zq zhq zhe)) ?_;refine Aj (zX hT hA hmono 72 [0,6,8] 9 2 (GN R 2) (λgh=>v) 32 122 7 (λgh=>qJ ml) (λgh=>[[Vt x.name,Vi key.k,Vi key.n,.string key.s,Vi av.k,Vi av.n,.string av.s]]) (.tmp 63) (.tmp 71) (λgh=>(vJ (gh 8))) 1 1 0 8 (λgh hh=>Cells hh (vJ (gh 8)) 0 [Vt x.name,Vi key.k,Vi key.n,.string key.s,Vi av.k,Vi av.n,.string av.s]) (λ_ _ c=>c) Tryz.underlying32 (zv:=.agg #[Ve,Vi 0,Vi 0,Ve,Vi 0,Vi 0,Ve]) (bytes:=80) (λ_=>by constructor <;> (simp; omega))) ?_
       trivial
      rintro b18 v72 W19 S20 ⟨f17,-⟩;replace f17:Cells W19 b18 0 [Vt x.name,Vi key.k,Vi key.n,.string key.s,Vi av.k,Vi av.n,.string av.s]:=f17;refine zQ f17 ?_;refine go0 6 [] [(73,Vi (IntKind.i64.wrap ((j:Int) + 1)),Vi ((j:Int) + 1))] ?_ (hc:=(Aj (jJ (by omega) (by omega)) (trivial)));refine eV [(1,.slice A1 ni c1),(2,Vp b1),(15,Vi (n:Int)),(16,Vi (r:Int)),(7,.slice A5 n c5),(36,.slice (some ⟨b10,o11,none⟩) n c),(37,Vi (n:Int)),(6,sL v72),(38,Vi ((j:Int) + 1))] [.row (sL v72) 122 7 ((qJ ml)++[[Vt x.name,Vi key.k,Vi key.n,.string key.s,Vi av.k,Vi av.n,.string av.s]]),.box b1 [.slice (some ⟨b10,o11,none⟩) n c,.slice B m d]] [] ?_;exact qV (j + 1) (λX q=>⟨W19,sL v72,ml++[⟨x.name,key,av⟩],q _ _ _ _ (tY (by rw [anRows_snoc]; try rfl)),(S9.trans (S14.trans (S16.trans S20))),by omega,hml2.trans hadd2⟩)
    ·skip;have hk0:=λH=>known_no key H gk (ok_kinds hkv2).1
     rw [Bj (λq=>gk q.1)] at hadd2;refine go0 17 [.cl 60 #[.agg #[Vi key.k,Vi key.n,.string key.s]] (.bool false)] [(73,Vi (IntKind.i64.wrap ((j:Int) + 1)),Vi ((j:Int) + 1))] ?_ (ho:=(Aj (λH sH=>hk0 _) (trivial))) (hc:=(Aj (jJ (by omega) (by omega)) (trivial)));exact qV (j + 1) (λX q=>⟨W13,v,ml,q _ _ _ _ ⟨rfl,by kernel_rfl⟩,(S9.trans S14),by omega,hml2.trans hadd2⟩)
   ·skip;rw [Bj g3] at hadd2
    refine rV (t:=x.kind != 3) (Fk.2 g3) ?_;refine go0 8 [] [(73,Vi (IntKind.i64.wrap ((j:Int) + 1)),Vi ((j:Int) + 1))] ?_ (hc:=(Aj (jJ (by omega) (by omega)) (trivial)));exact qV (j + 1) (λX q=>⟨W8,v,ml,q _ _ _ _ ⟨rfl,by kernel_rfl⟩,S9,by omega,hml2.trans hadd2⟩)
  ·skip;have hta:f.fields.take j=f.fields:=by rw [hje,hn,Qk]
   rw [hta] at hml;refine aV (t:=decide ((j:Int) < (n:Int))) (Jj (by omega)) ?_;refine go0 2 [] [] ?_;refine fV ?_;refine go0 7 [] [(74,Vi (IntKind.i64.wrap ((r:Int) + 1)),Vi ((r:Int) + 1))] ?_ (hc:=(Aj (jJ (by omega) (by omega)) (trivial)));exact qV (r + 1) (λX q=>⟨W8,v,ml,q _ _ _ _ ⟨rfl,by kernel_rfl⟩,(S3.trans (S5.trans (S7.trans S9))),by omega,hst.trans hml⟩)
 ·skip;rw [hke] at hol
  have hrl:(qJ ol).length=ol.length:=Gj _;refine cV 0 (v:=v) (e:=122) (kk:=7) (l:=qJ ol) ?_; intro Ar cr hE_v hc_v hm_v;rw [show (qJ ol).length=ol.length from by first | omega | (simp; done) | (simp; omega)] at hE_v hc_v;rw [hE_v];refine aV (t:=decide ((r:Int) < (n:Int))) (Jj (by omega)) ?_;refine go0 2 [] [] ?_;refine fV ?_;refine go0 10 [] [] ?_;refine eV [(4,.slice Ar ol.length cr),(5,.bool true)] [.row (.slice Ar ol.length cr) 122 7 (qJ ol),.box b1 [.slice A n c,.slice B m d]] [] ?_;refine hQ.toJ [.slice Ar ol.length cr,.bool true] [] (λa w hJ=>?_);have fr:=hJ.j.rowOut0 (v:=.slice Ar ol.length cr) (e:=122) (k:=7) (l:=qJ ol) 0 (by kernel_rfl) rfl;exact ⟨Ar,cr,Dj (λl:List Aw=>Value.tuple #[.slice Ar l.length cr,.bool true]) hol.symm,by rw [hol]; exact fr⟩
abbrev osF (l:List RawD):List Nat:=mX (rhoL (wW (nQ l).fields)) (nQ l).fields.length
def orcF (l m:List RawD):List Aw:=orcL (nQ l).fields (inpE (nQ l).fields m) (osF l) (nQ l).fields.length
theorem inp_ty (l m:List RawD):InpTy (nQ l).fields (inpE (nQ l).fields m):=λi f hf hk p hp e=>by
 obtain ⟨j,g,r,-,h2,h3,rfl⟩:=inpF_each (nQ l).fields.length (Ij _) p hp;have e1:=kQ (pQ l) hf;have e2:=kQ (pQ l) h2;have e:g.name=f.name:=e;rw [e,e1] at e2;have e2:i=j:=by omega
 subst e2;rw [hf] at h2;obtain rfl:=Zk h2
 rfl
theorem form_wh (l m:List RawD):Wh (nQ l).fields (inpE (nQ l).fields m) (rhoL (wW (nQ l).fields)) (lvF l) (osF l) :=
 ⟨(form_okFm l).fields,(inp_ok l m).known,inp_ty l m,ordL_ordd (form_ranked l) (by have:=oQ l; have:=rW l; omega)⟩
theorem orcF_ok (l m:List RawD):OkOrc (nQ l).fields (orcF l m):=(form_wh l m).orc _
theorem orcF_len (l m:List RawD):(orcF l m).length <= 100:=by
 have h1:=orcL_len (nQ l).fields (inpE (nQ l).fields m) (osF l) (nQ l).fields.length;have h2:=oQ l;have h3:=rW l;have h4:(nQ l).fields.length * (nQ l).fields.length <= 10 * 10:=Nat.mul_le_mul (by omega) (by omega);exact Fq h1 h4
theorem oracle_form (l m:List RawD) (A:Option Addr) (c:Nat) (B:Option Addr) (d:Nat) (si:Value) (h:Vw) (hf:IsForm h (.slice A (nQ l).fields.length c) (.slice B (nQ l).pages.length d) (nQ l)) (hi:RS h 7 si (zK (inpE (nQ l).fields m))) :
  C0 Tryz.prog 21 #[.agg #[.slice A (nQ l).fields.length c,.slice B (nQ l).pages.length d],si] h (λr h'=>∃ A' c',r=.tuple #[.slice A' (orcF l m).length c',.bool true] /\ RS h' 7 (.slice A' (orcF l m).length c') (qJ (orcF l m))):=by
 have hn:=rW l;have hl:=oQ l;have hI:=inp_ok l m
 have:=hI.few
 exact oracle_l (nQ l) _ _ A _ c B _ d _ si h (form_okFm l) hf rfl (by omega) hi (by omega) hI.known hI.told (form_wh l m)
theorem all_orc (l m:List RawD) (orc:List Aw) (ok:OkOrc (nQ l).fields orc) (lo:orc.length <= 1000) (A:Option Addr) (c:Nat) (B:Option Addr) (d:Nat) (si so:Value) (h:Vw) (hf:IsForm h (.slice A (nQ l).fields.length c) (.slice B (nQ l).pages.length d) (nQ l)) (hi:RS h 7 si (zK (inpE (nQ l).fields m))) (ho:RS h 7 so (qJ orc)) :
  C0 Tryz.prog 22 #[.agg #[.slice A (nQ l).fields.length c,.slice B (nQ l).pages.length d],si,so] h (λr h'=>∃ A' c',r=.tuple #[.slice A' (nQ l).fields.length c',Vi 0] /\ RS h' 3 (.slice A' (nQ l).fields.length c') (kZ (allF l m orc))) :=
 all_form l m orc A c B d si so h hf hi ho lo ok.has (λH q1 q2=>whOracle_any _ (form_okFm l).fields orc ok A _ c B _ d so H q1.fields rfl q2 lo)
theorem navFacts_l (fs:List Fd) (va:List Vl) (A:Option Addr) (n c:Nat) (B:Option Addr) (m d:Nat) (A1:Option Addr) (c1:Nat) (h:Vw) (hf:IsFds h (.slice A n c) fs) (hn:n=fs.length) (few:n <= 1000) (ha:RS h 3 (.slice A1 n c1) (kZ va)) (la:va.length=n) :
  C0 Tryz.prog 83 #[.agg #[.slice A n c,.slice B m d],.slice A1 n c1] h (λr h'=>∃ u,r=sL u /\ RS h' 7 (sL u) (zK (fcs fs va))):=by
 obtain ⟨vs,A',c',e,-,-,hr,hs,hvl,hsl⟩:=fQ hf;simp only [Kk] at e;obtain ⟨rfl,-,rfl⟩:=e;rw [<- hn] at hr hvl;have hfl:=λk (q:k <= n)=>fcs_len (fs:=fs.take k) (v:=va.take k) (by simp; omega);refine yQ Tryz.func83 λhbx hbad Q hQ=>?_;refine go1 21 [.own,.b 0 0] [] ?_;intro b1;refine kV 122 7 ?_;refine gV [0,1,0,1,1] [.block 0,.seq [1,1,1]] (λ(k:Nat) X=>∃ (W2:Vw) (v:Value),X W2 [(1,.slice A1 n c1),(9,.slice A n c),(10,Vi (n:Int)),(11,Vi (k:Int)),(5,v)] [.row v 122 7 (zK (fcs (fs.take k) (va.take k))),.box b1 [.slice A n c,.slice B m d]] [] /\ Sees h W2 /\ (k <= n)) (λk=>n - k) (0) (λX q=>⟨h,(Vz),q _ _ _ _ ⟨rfl,by kernel_rfl⟩,Sees.refl _,Mj _⟩) ?_;rintro k a w ⟨W2,v,hJ,S3,hk⟩; refine lV hJ ?_; clear hJ a w;refine go0 6 [] [] ?_;rcases (by omega:k < n\/k=n) with hlt | hke
 ·obtain ⟨x,hx⟩:∃ x,fs[k]?=some x:=⟨_,Fj (by omega)⟩;obtain ⟨u,hu⟩:∃ u,vs[k]?=some u:=⟨_,Fj (by omega)⟩;obtain ⟨xa,hxa⟩:∃ y,va[k]?=some y:=⟨_,Fj (by omega)⟩;have hrow:=cQ hx hu;have hra:=vlRows_get hxa;obtain ⟨Au,nu,cu,rfl⟩:=(AllArgs.get hs (x:=x.src) (by rw [Nj,hx]; rfl) hu).slice;have hsn:=fcs_snoc (fs:=fs.take k) (vs:=va.take k) x xa (by simp; omega);rw [<- fZ _ k x hx, <- fZ _ k xa hxa] at hsn;have hl2:=hfl k hk;rw [Bk] at hl2;have hl3:(zK (fcs (fs.take k) (va.take k))).length=(fcs (fs.take k) (va.take k)).length:=Gj _;refine rV (t:=decide ((k:Int) < (n:Int))) (Kj (by omega)) ?_;refine go0 7 [] [] ?_;obtain ⟨b4,o5,rfl,-,c6⟩:=RS.row hr (hrow);refine zQ (c6.sees S3) ?_;refine go1 7 [.ix b4 o5 n c k,.f 0 0,.own,.b 0 0] [] ?_ (ho:=(Aj (by first | omega | (simp; omega)) (trivial)));intro b7;obtain ⟨b8,o9,rfl,-,c10⟩:=RS.row ha (hra);refine zQ (c10.sees S3) ?_;refine oV 11 0 [.pu,.pu,.ld 0 0,.pu,.pu,.v (λgh=>.pointer (some ⟨b8,o9 + k * 3,none⟩)),.lf 0 0,.pu,.f (λgh=>.slice (some ⟨(vJ (gh 8)),0,none⟩) 1 1) (λgh hh=>Cells hh (vJ (gh 8)) 0 [Vt x.name,Vi 0,Vi 0,Ve,Vi xa.k,Vi xa.n,.string xa.s]),.e (λgh=>sL (gh 9)) 1 (λgh=>.row (sL (gh 9)) 122 7 ((zK (fcs (fs.take k) (va.take k)))++[[Vt x.name,Vi 0,Vi 0,Ve,Vi xa.k,Vi xa.n,.string xa.s]])),.pu] [(8,true),(9,false)] (Aj (λ_ _ _ s c=>c.sees s) (trivial)) ?_ ?_
  ·intro R hT hA hmono;refine Aj (eZ hT hA b8 o9 n c1 k (λgh=>.pointer (some ⟨b8,o9 + k * 3,none⟩)) (by first | omega | (simp; omega))) ?_;refine Aj (dY hT hA hmono 24 (λg=>Vs g 1 1) [7] 8 (λgh=>[Vt x.name,Vi 0,Vi 0,Ve,Vi xa.k,Vi xa.n,.string xa.s]) 122 (λgh zb zH zc zj zq zhq zhe=>nX (i:=8) (k:=0) (f:=λgh hh=>Cells hh (vJ (gh 8)) 0 [Vt x.name,Vi 0,Vi 0,Ve,Vi xa.k,Vi xa.n,.string xa.s]) (by kernel_rfl) (by kernel_rfl) zc zj zq zhq zhe)) ?_;refine Aj (zX hT hA hmono 25 [0,8] 9 1 (GN R 1) (λgh=>v) 32 122 7 (λgh=>zK (fcs (fs.take k) (va.take k))) (λgh=>[[Vt x.name,Vi 0,Vi 0,Ve,Vi xa.k,Vi xa.n,.string xa.s]]) (.tmp 16) (.tmp 24) (λgh=>(vJ (gh 8))) 1 1 0 8 (λgh hh=>Cells hh (vJ (gh 8)) 0 [Vt x.name,Vi 0,Vi 0,Ve,Vi xa.k,Vi xa.n,.string xa.s]) (λ_ _ c=>c) Tryz.underlying32 (zv:=.agg #[Ve,Vi 0,Vi 0,Ve,Vi 0,Vi 0,Ve]) (bytes:=80) (λ_=>by constructor <;> (simp; omega))) ?_
   trivial
  rintro b12 v25 W13 S14 ⟨f11,-⟩;replace f11:Cells W13 b12 0 [Vt x.name,Vi 0,Vi 0,Ve,Vi xa.k,Vi xa.n,.string xa.s]:=f11;refine zQ f11 ?_;refine go0 6 [] [(26,Vi (IntKind.i64.wrap ((k:Int) + 1)),Vi ((k:Int) + 1))] ?_ (hc:=(Aj (jJ (by omega) (by omega)) (trivial)));refine eV [(1,.slice (some ⟨b8,o9,none⟩) n c1),(9,.slice (some ⟨b4,o5,none⟩) n c),(10,Vi (n:Int)),(5,sL v25),(11,Vi ((k:Int) + 1))] [.row (sL v25) 122 7 ((zK (fcs (fs.take k) (va.take k)))++[[Vt x.name,Vi 0,Vi 0,Ve,Vi xa.k,Vi xa.n,.string xa.s]]),.box b1 [.slice (some ⟨b4,o5,none⟩) n c,.slice B m d]] [] ?_;exact qV (k + 1) (λX q=>⟨W13,sL v25,q _ _ _ _ (tY (by rw [hsn,aQ]; try rfl)),(S3.trans S14),by omega⟩)
 ·skip;have t1:fs.take k=fs:=by rw [hke,hn,Qk]
  have t2:va.take k=va:=by rw [hke, <- la,Qk]
  rw [t1,t2];have hrl:(zK (fcs fs va)).length=(fcs fs va).length:=Gj _;refine cV 0 (v:=v) (e:=122) (kk:=7) (l:=zK (fcs fs va)) ?_; intro Ar cr hE_v hc_v hm_v;rw [show (zK (fcs fs va)).length=(fcs fs va).length from by first | omega | (simp; done) | (simp; omega)] at hE_v hc_v;rw [hE_v];refine aV (t:=decide ((k:Int) < (n:Int))) (Jj (by omega)) ?_;refine go0 2 [] [] ?_;refine fV ?_;refine go0 9 [] [] ?_;refine eV [(4,.slice Ar ((fcs fs va).length) cr)] [.row (.slice Ar ((fcs fs va).length) cr) 122 7 (zK (fcs fs va)),.box b1 [.slice A n c,.slice B m d]] [] ?_;refine hQ.toJ [.slice Ar ((fcs fs va).length) cr] [] (λa w hJ=>?_);have fr:=hJ.j.rowOut0 (v:=.slice Ar ((fcs fs va).length) cr) (e:=122) (k:=7) (l:=zK (fcs fs va)) 0 (by kernel_rfl) rfl;exact ⟨.slice Ar (fcs fs va).length cr,rfl,fr⟩
def passB (p:Pg) (env:Env):Bool × Bool:=if p.skip.op=0 then (false,true) else ((oK env p.skip).n == 1,(oK env p.skip).k == 2)
theorem passed_any (fs:List Fd) (ps:List Pg) (hok:OkGs fs ps) (p:Pg) (hp:p∈ps) (A:Option Addr) (n c:Nat) (v:Value) (env:Env) (sl:Value) (h:Vw) (ha:IsArgs h p.skip v) (hr:RS h 7 sl (zK env)) (hok':∀ q∈env,OkV q.2) (hl:env.length <= 1000) :
  C0 Tryz.prog 82 #[.agg #[Vt p.name,.slice A n c,Vi p.skip.op,Vi p.skip.k,Vi p.skip.n,.string p.skip.s,.string p.skip.nm,v],sl] h (λr _=>r=.tuple #[.bool (passB p env).1,.bool (passB p env).2]):=by
 obtain ⟨As,cs,rfl,-,-,-⟩:=hr.form;rw [Gj] at *;unfold passB;rcases hok.skip p hp with g | ⟨g1,g2,g3,g4⟩
 ·obtain ⟨Av,cv,rfl⟩:=args_zero (by rw [g]; rfl) ha;rw [g];refine yQ Tryz.func82 λhbx hbad Q hQ=>?_;refine go1 23 [.own,.b 0 0,.cl 124 #[.agg #[Vt p.name,.slice A n c,Vi 0,Vi 0,Vi 0,Ve,Ve,.slice Av 0 cv]] (.bool true)] [] ?_ (ho:=(Aj (λH sH=>never_yes _ _ _ _ _ _ _) (trivial)));intro b1;refine hQ.to [.bool false,.bool true] (λH sH=>?_);exact rfl
 ·obtain ⟨Av,nv,cv,rfl⟩:=ha.slice;have hck:chkE p.skip=0:=by
   unfold fitsE ofE at g4
   by_cases e:chkE p.skip=0
   ·exact e
   ·rw [Bj e,Bj e] at g4; exact absurd g4 e
  have hz:(szE p.skip).1 <= 60:=by
   unfold chkE at hck
   split at hck
   ·cases hck
   ·omega
  have hE:=λH q1 q2=>eval_any p.skip (.slice Av nv cv) env (.slice As env.length cs) H q1 g2 hz (chk_deep hck) q2 hok' hl;rw [Bj g1];generalize oK env p.skip=x at *;refine yQ Tryz.func82 λhbx hbad Q hQ=>?_;refine go2 32 [.own,.b 0 0,.cl 124 #[.agg #[Vt p.name,.slice A n c,Vi p.skip.op,Vi p.skip.k,Vi p.skip.n,.string p.skip.s,.string p.skip.nm,.slice Av nv cv]] (.bool false),.b 0 2,.cl 58 #[.agg #[Vi p.skip.op,Vi p.skip.k,Vi p.skip.n,.string p.skip.s,.string p.skip.nm,.slice Av nv cv],.slice As env.length cs] (.tuple #[.agg #[Vi x.k,Vi x.n,.string x.s],Vi 0]),.own,.b 0 0] [] ?_ (ho:=(Aj (λH sH=>never_no _ _ _ _ _ _ _ _ _ g1) (Aj (λH sH=>hE _ (ha.sees sH) (hr.sees sH)) (trivial))));intro b1 b2;refine oV 8 0 [.pu,.ld 0 1,.pu,.pu,.ld 0 0,.pu,.pu,.pu] [] (trivial) ?_ ?_
  ·intros; trivial
  rintro W3 S4 -;refine go0 2 [] [] ?_;refine hQ.to [.bool (x.n == 1),.bool (x.k == 2)] (λH sH=>?_);exact rfl
def ClO (n:Nat) (l:List Int) (v u:Value) (r:List (List Value)) (h:Vw):Prop:=v=u /\ (∃ A c,u=.slice A n c) /\ r=lY l
theorem clone_own {h:Vw} {v:Value} {l:List Int} {n:Nat} (hr:RS h 1 v (lY l)) (hn:l.length=n) (hl:n <= 1000000):C0 Tryz.prog 81 #[v] h (λv h'=>∃ u r,Ent.ok h.w.heap.size h'.w (.row u 3 1 r) /\ ClO n l v u r ⟨h'.w,u.ownBlock.toList++h'.bad⟩):=by
 intro a1 a2 a3 a4;refine (c_cloneI hr (by omega) a1 a2 a3 a4).mono ?_;rintro en w' ⟨v,Bo,h1,h2,h3,h4,r,h5,-,rfl⟩;obtain ⟨A,c,e,-,-⟩:=nY h5;exact ⟨v,Bo,h1,h2,h3,h4,v,_,h5,rfl,⟨A,c,by rw [e,Gj,hn]⟩,rfl⟩
def passAt (ps:List Pg) (env:Env) (j:Nat):Bool × Bool:=match ps[j]? with
 | some p=>passB p env
 | none=>(false,true)
theorem passAt_eq {ps:List Pg} {env:Env} {j:Nat} {p:Pg} (h:ps[j]?=some p):passAt ps env j=passB p env:=by unfold passAt; rw [h]
def NextX (m:Nat) (path:List Int) (t:Nat) (pass:Nat -> Bool × Bool) (ln:List ByteArray) (r:Value) (h:Vw):Prop :=
 (∃ (a:Nat) (u:Value),r=.tuple #[.agg #[Vi (a:Int),sL u,.bool ((a:Int) == (m:Int))],Vi 0] /\ ln=[] /\ t < a /\ a <= m /\ RS h 1 (sL u) (lY (path++[(t:Int)])) /\ (∀ j,t < j -> j < a -> pass j=(true,true)) /\ (a < m -> pass a=(false,true))) \/
 (r=.tuple #[.agg #[Vi 0,.slice none 0 0,.bool false],Vi 11] /\ (ln≠[]\/∃ k,t < k /\ k < m /\ (∀ j,t < j -> j < k -> pass j=(true,true)) /\ (pass k).2=false))
theorem next_x (f:Fm) (ρ:List Int) (lv:Nat -> Nat) (A:Option Addr) (n c:Nat) (B:Option Addr) (m d:Nat) (va:List Vl) (A1:Option Addr) (c1:Nat) (path:List Int) (A2:Option Addr) (c2:Nat) (t:Nat) (h:Vw) (hok:OkFm f ρ lv) (hf:IsForm h (.slice A n c) (.slice B m d) f) (hn:n=f.fields.length) (hm:m=f.pages.length)
  (hv:RS h 3 (.slice A1 n c1) (kZ va)) (la:va.length=n) (ov:∀ x∈va,OkV x) (hp:RS h 1 (.slice A2 path.length c2) (lY path)) (lp:path.length <= 90) (pk:PathOk (path++[(t:Int)]) m) :
  C0 Tryz.prog 29 #[.agg #[.slice A n c,.slice B m d],.slice A1 n c1,.agg #[Vi (t:Int),.slice A2 path.length c2,.bool ((t:Int) == (m:Int))]] h (λr h'=>(t=m /\ r=.tuple #[.agg #[Vi 0,.slice none 0 0,.bool false],Vi 13])\/(∃ p,f.pages[t]?=some p /\ NextX m path t (passAt f.pages (fcs f.fields va)) (jW f.fields va p.fields) r h')):=by
 have hC:=λH q1 q2 q3=>navCheck_any f ρ lv A n c B m d va A1 c1 path A2 c2 (t:Int) H hok q1 hn hm q2 la ov q3 (by omega) pk;have few:=hok.fields.few;have mfew:=hok.pages.few;have a1:=pk.hi (t:Int) (by simp);have hcl:=λH (q:RS H 1 (.slice A2 path.length c2) (lY path))=>c_cloneI q (by omega);have hcl2:=λv H (q:RS H 1 v (lY (path++[(t:Int)])))=>clone_own (n:=path.length + 1) q (by simp) (by omega);have hFa:=λH q1 q2=>navFacts_l f.fields va A n c B m d A1 c1 H q1 hn (by omega) q2 la;have henv:∀ q∈fcs f.fields va,OkV q.2:=fcs_ok ov;have hel:(fcs f.fields va).length <= 1000:=by rw [fcs_len (by omega)]; omega
 have hpa:=λp (q:p∈f.pages) A n c v sl H q1 q2=>passed_any f.fields f.pages hok.pages p q A n c v (fcs f.fields va) sl H q1 q2 henv hel;have hpl:(lY path).length=path.length:=Gj _;have hrw:lY path++[[Vi (t:Int)]]=lY (path++[(t:Int)]):=by simp [lY]
 have hll:(path++[(t:Int)]).length=path.length + 1:=by simp
 obtain ⟨us,ws,B2,d2,e2,-,hpr,hps,hpg,-,-⟩:=sX hf.pages;simp only [Kk] at e2;obtain ⟨rfl,-,rfl⟩:=e2;rw [<- hm] at hpr;generalize fcs f.fields va=env at *;generalize hnp:path.length=np at *;refine yQ Tryz.func29 λhbx hbad Q hQ=>?_;refine go3 34 [.own,.own,.own,.b 2 0,.b 1 0,.cl 31 #[.agg #[.slice A n c,.slice B m d],.slice A1 n c1,.agg #[Vi (t:Int),.slice A2 np c2,.bool ((t:Int) == (m:Int))]] (Vi 0),.b 1 2] [] ?_ (ho:=(Aj (λH sH=>hC _ (hf.sees sH) (hv.sees sH) (hp.sees sH)) (trivial)));intro b1 b2 b3
 by_cases g:(t:Int)=(m:Int)
 ·refine rV (t:=(t:Int) == (m:Int)) (Xj.2 g) ?_;refine go0 9 [.b 0 0] [] ?_;refine hQ.to [.agg #[Vi 0,Vz,.bool false],Vi 13] (λH sH=>?_) (ix:=[0]);exact .inl ⟨by omega,rfl⟩
 ·skip;obtain ⟨p,hpt⟩:∃ p,f.pages[t]?=some p:=⟨_,Fj (by omega)⟩
  have hpa3:=λk p2 (q:f.pages[k]?=some p2)=>passAt_eq (env:=env) q;generalize passAt f.pages env=pass at *;have hL:=λH q1 q2=>navLacks_any f ρ lv A n c B m d va A1 c1 t p H hok q1 hn hm q2 la ov hpt;generalize hln:jW f.fields va p.fields=ln at *;refine aV (t:=(t:Int) == (m:Int)) (Lj.2 g) ?_;refine go0 9 [.b 2 0,.b 1 0] [] ?_;refine uQ (λH sH=>hL _ (hf.sees sH) (hv.sees sH)) ?_; rintro _ W4 S5 ⟨A5,c5,rfl,hr5⟩;refine go0 14 [] [] ?_;rcases Nat.eq_zero_or_pos ln.length with hl0 | hl0
  ·skip;refine aV (t:=decide ((ln.length:Int) > 0)) (Jj (by omega)) ?_
   refine go0 3 [] [] ?_;refine oV 13 2 [.pu,.ld 3 0,.v (λgh=>Vi ((t:Int) + 1)),.pu,.ld 3 1,.e (λgh=>sL (gh 5)) 0 (λgh=>.row (sL (gh 5)) 3 1 (lY path)),.pu,.ld 3 0,.f (λgh=>.slice (some ⟨(vJ (gh 8)),0,none⟩) 1 1) (λgh hh=>Cells hh (vJ (gh 8)) 0 [Vi (t:Int)]),.e (λgh=>sL (gh 9)) 0 (λgh=>.row (sL (gh 9)) 3 1 ((lY path)++[[Vi (t:Int)]])),.pu,.al 1,.st 1 0] [(5,false),(8,true),(9,false),(11,true)] (Aj (λ_ _ _ s c=>c.sees s) (trivial)) ?_ ?_
   ·intro R hT hA hmono;refine Aj (dZ hT hA (λgh=>Vi ((t:Int) + 1)) (λgh=>Vi (IntKind.i64.wrap ((t:Int) + 1))) (λgh=>jJ (by omega) (by omega))) ?_;refine Aj (r_callown hT hA hmono ⟨λ_ _=>by kernel_rfl,λ_ _=>by kernel_rfl,λ_ _=>by kernel_rfl⟩ (by kernel_rfl) 42 (λu=>sL u) [4] 5 (by kernel_rfl) (λ_=>by kernel_rfl) 0 (GN R 0) (by kernel_rfl) (by kernel_rfl) (by kernel_rfl) 3 1 (λgh=>lY path) (λ_=>by kernel_rfl) (λ_=>by kernel_rfl) (λ_ _=>rfl) 81 (λgh=>#[.slice A2 np c2]) (λ_ _=>by kernel_rfl) (λgh H sH fH=>hcl _ (hp.sees (S5.trans sH)))) ?_;refine Aj (dY hT hA hmono 45 (λg=>Vs g 1 1) [7] 8 (λgh=>[Vi (t:Int)]) 3 (λgh zb zH zc zj zq zhq zhe=>nX (i:=8) (k:=0) (f:=λgh hh=>Cells hh (vJ (gh 8)) 0 [Vi (t:Int)]) (by kernel_rfl) (by kernel_rfl) zc zj zq zhq zhe)) ?_;refine Aj (zX hT hA hmono 46 [5,8] 9 0 (GN R 0) (λgh=>sL (gh 5)) 62 3 1 (λgh=>lY path) (λgh=>[[Vi (t:Int)]]) (.tmp 42) (.tmp 45) (λgh=>(vJ (gh 8))) 1 1 0 8 (λgh hh=>Cells hh (vJ (gh 8)) 0 [Vi (t:Int)]) (λ_ _ c=>c) Tryz.underlying62 (zv:=Vi 0) (bytes:=8) (λ_=>by constructor <;> (simp; omega))) ?_
    trivial
   rintro u42 b7 v46 bwk W8 S9 ⟨f6,-⟩;replace f6:Cells W8 b7 0 [Vi (t:Int)]:=f6;refine zQ f6 ?_;refine go0 3 [] [] ?_;refine eV [(1,.slice A1 n c1),(3,Vp b1),(6,Vp b3),(11,Vp bwk)] [.row (sL v46) 3 1 ((lY path)++[[Vi (t:Int)]]),.box bwk [Vi ((t:Int) + 1),sL v46,.bool false],.box b3 [Vi 0,Vz,.bool false],.box b2 [Vi (t:Int),.slice A2 np c2,.bool ((t:Int) == (m:Int))],.box b1 [.slice A n c,.slice B m d]] [(b7,0,[Vi (t:Int)])] ?_;rw [hrw];have hlr:(lY (path++[(t:Int)])).length=(path++[(t:Int)]).length:=Gj _;refine cV 0 (v:=sL v46) (e:=3) (kk:=1) (l:=lY (path++[(t:Int)])) ?_; intro Ap cp hE_v46 hc_v46 hm_v46;rw [show (lY (path++[(t:Int)])).length=(np + 1) from by first | omega | (simp; done) | (simp; omega)] at hE_v46 hc_v46;rw [hE_v46];refine dV 0 (v:=.slice Ap (np + 1) cp) (e:=3) (kk:=1) (l:=lY (path++[(t:Int)])) ?_; intro W10 S11 fr;refine gV [0,0,1,1,1,1,1] [.block 0,.seq [1,1,1,1,1,1]] (λ(ka:Nat) X=>∃ (W12:Vw) ,X W12 [(1,.slice A1 n c1),(3,Vp b1),(6,Vp b3),(11,Vp bwk)] [.box bwk [Vi (ka:Int),.slice Ap (np + 1) cp,.bool false],.box b3 [Vi 0,Vz,.bool false],.box b2 [Vi (t:Int),.slice A2 np c2,.bool ((t:Int) == (m:Int))],.box b1 [.slice A n c,.slice B m d]] [(b7,0,[Vi (t:Int)])] /\ Sees W10 W12 /\ (t < ka) /\ (ka <= m) /\ (∀ j,t < j -> j < ka -> pass j=(true,true))) (λka=>m - ka) (t + 1) (λX q=>⟨W10,q _ _ _ _ ⟨rfl,by kernel_rfl⟩,Sees.refl _,Nat.lt_succ_self t,by omega,λj q1 q2=>by omega⟩) ?_;rintro ka a w ⟨W12,hJ,S13,ha1,ha2,hps1⟩; refine lV hJ ?_; clear hJ a w;refine go0 11 [.b 0 0,.b 3 1] [] ?_;rcases (by omega:ka < m\/ka=m) with hlt | hke
   ·obtain ⟨p2,hp2⟩:∃ p,f.pages[ka]?=some p:=⟨_,Fj (by omega)⟩;obtain ⟨Au,cu,Bu,mu,du,hprow,hrs,harg⟩:=pg_at hps hpg hp2;have hpa2:=λA n c v sl H q1 q2=>hpa p2 (Ej hp2) A n c v sl H q1 q2;have hpk:pass ka=((passB p2 env).1,(passB p2 env).2):=hpa3 ka p2 hp2;generalize (passB p2 env).1=w1 at *;generalize (passB p2 env).2=w2 at *;refine rV (t:=decide ((ka:Int) < (m:Int))) (Kj (by omega)) ?_;refine go0 5 [] [] ?_;obtain ⟨b14,o15,rfl,-,c16⟩:=RS.row hpr (hprow);refine zQ (c16.sees (S5.trans (S9.trans (S11.trans S13)))) ?_;refine oV 15 0 [.pu,.ld 3 1,.pu,.ld 0 0,.v (λgh=>.pointer (some ⟨b14,o15 + ka * 8,none⟩)),.lf 0 0,.ld 3 0,.pu,.f (λgh=>sL (gh 8)) (λgh hh=>RS hh 7 (sL (gh 8)) (zK env)),.v (λgh=>.tuple #[.bool w1,.bool w2]),.pu,.pu,.pu,.pu,.pu] [(8,false)] (Aj (λ_ _ _ s c=>c.sees s) (trivial)) ?_ ?_
    ·intro R hT hA hmono;refine Aj (eZ hT hA b14 o15 m d ka (λgh=>.pointer (some ⟨b14,o15 + ka * 8,none⟩)) (by first | omega | (simp; omega))) ?_;refine Aj (aY hT hA hmono 67 (λu=>sL u) [6,7] 8 83 (λgh=>#[.agg #[.slice A n c,.slice (some ⟨b14,o15,none⟩) m d],.slice A1 n c1]) (λgh H sH fH lent=>C0.facts (R:=R) (x:=gh) (i:=8) (n:=0) (F:=(λu=>sL u)) (G:=λu hh=>RS hh 7 (sL u) (zK env)) (f:=λgh hh=>RS hh 7 (sL (gh 8)) (zK env)) (hFa _ ((hf.sees (S5.trans (S9.trans (S11.trans (S13.trans sH)))))).fields (hv.sees (S5.trans (S9.trans (S11.trans (S13.trans sH)))))) (by kernel_rfl) (by kernel_rfl) (λ_ _ r=>r))) ?_;refine Aj (t_v hT hA hmono (k:=82) (args:=(λgh=>#[.agg #[Vt p2.name,.slice Au p2.fields.length cu,Vi p2.skip.op,Vi p2.skip.k,Vi p2.skip.n,.string p2.skip.s,.string p2.skip.nm,.slice Bu mu du],sL (gh 8)])) (f:=λgh=>.tuple #[.bool w1,.bool w2]) (λgh H sH fH lent=>hpa2 _ _ _ _ _ _ (harg.sees (S5.trans (S9.trans (S11.trans (S13.trans sH))))) (fH 0 _ rfl (by kernel_rfl)))) ?_
     trivial
    rintro u67 W17 S18 ⟨f67,-⟩;replace f67:RS W17 7 (sL u67) (zK env):=f67;refine go0 8 [] [] ?_;rcases Mv w2 with g2 | g2
    ·refine aV (t := !w2) ((by rw [g2]; rfl)) ?_;refine go0 8 [] [] ?_;rcases Mv w1 with g1 | g1
     ·refine aV (t := !w1) ((by rw [g1]; rfl)) ?_;refine go0 10 [.b 0 0,.b 0 0] [(56,Vi (IntKind.i64.wrap ((ka:Int) + 1)),Vi ((ka:Int) + 1))] ?_ (hc:=(Aj (jJ (by omega) (by omega)) (trivial)));exact qV (ka + 1) (λX q=>⟨W17,q _ _ _ _ ⟨rfl,by kernel_rfl⟩,(S13.trans S18),by omega,by omega,λj q1 q2=>(by rcases (by omega:j < ka\/j=ka) with q | q; exact hps1 j q1 q; rw [q,hpk,g1,g2])⟩)
     ·skip;refine rV (t := !w1) ((by rw [g1]; rfl)) ?_
      refine go0 3 [] [] ?_;refine fV ?_;refine go0 18 [.b 0 0,.b 3 1,.b 0 2,.b 0 1] [] ?_;refine g_callown (e:=3) (kk:=1) (λa w hJ=>hcl2 _ _ (fr.sees (S13.trans (S18.trans hJ.j.sees)))) ?_; rintro _ _ _ W19 S20 ⟨rfl,⟨A9,c9,rfl⟩,rfl⟩;refine go0 12 [.b 1 1,.b 1 0,.b 2 0] [] ?_;refine dV 0 (v:=.slice A9 (np + 1) c9) (e:=3) (kk:=1) (l:=lY (path++[(t:Int)])) ?_; intro W21 S22 f9;refine hQ.to [.agg #[Vi (ka:Int),.slice A9 (np + 1) c9,.bool ((ka:Int) == (m:Int))],Vi 0] (λH sH=>?_) (ix:=[1]);exact .inr ⟨p,hpt,.inl ⟨ka,.slice A9 (np + 1) c9,rfl,hln.trans (Qq.1 hl0),by omega,by omega,(f9.sees sH),hps1,λ_=>by rw [hpk,g1,g2]⟩⟩
    ·skip;refine rV (t := !w2) ((by rw [g2]; rfl)) ?_
     refine go0 11 [.b 1 0] [] ?_;refine fV ?_;refine go0 2 [] [] ?_;refine hQ.to [.agg #[Vi 0,Vz,.bool false],Vi 11] (λH sH=>?_) (ix:=[1]);exact .inr ⟨p,hpt,.inr ⟨rfl,.inr ⟨ka,by omega,by omega,hps1,by rw [hpk]; exact g2⟩⟩⟩
   ·skip;refine aV (t:=decide ((ka:Int) < (m:Int))) (Jj (by omega)) ?_
    refine go0 2 [] [] ?_;refine fV ?_;refine go0 18 [.b 0 0,.b 3 1,.b 0 2,.b 0 1] [] ?_;refine g_callown (e:=3) (kk:=1) (λa w hJ=>hcl2 _ _ (fr.sees (S13.trans hJ.j.sees))) ?_; rintro _ _ _ W23 S24 ⟨rfl,⟨A9,c9,rfl⟩,rfl⟩;refine go0 12 [.b 1 1,.b 1 0,.b 2 0] [] ?_;refine dV 0 (v:=.slice A9 (np + 1) c9) (e:=3) (kk:=1) (l:=lY (path++[(t:Int)])) ?_; intro W25 S26 f9;refine hQ.to [.agg #[Vi (ka:Int),.slice A9 (np + 1) c9,.bool ((ka:Int) == (m:Int))],Vi 0] (λH sH=>?_) (ix:=[1]);exact .inr ⟨p,hpt,.inl ⟨ka,.slice A9 (np + 1) c9,rfl,hln.trans (Qq.1 hl0),by omega,by omega,(f9.sees sH),hps1,λq=>by omega⟩⟩
  ·skip;refine rV (t:=decide ((ln.length:Int) > 0)) (Kj (by omega)) ?_
   refine go0 9 [.b 0 0] [] ?_;refine hQ.to [.agg #[Vi 0,Vz,.bool false],Vi 11] (λH sH=>?_) (ix:=[0]);exact .inr ⟨p,hpt,.inr ⟨rfl,.inl λq=>by rw [hln] at q; rw [q] at hl0; exact absurd hl0 (by decide)⟩⟩
end Go.Proofs.YthgcgciceejicaaGreatDoor
