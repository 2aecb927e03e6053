/-
  The laws' Oracle, in plain words: all keys that come up, answered. Such answers may be.
-/
import Derived.Test.YthplkompdehjlaaGreatPR45
import Derived.Test.YthplkompdehjlaaGreatPR44
set_option maxRecDepth 100000
namespace Go.Proofs.YthplkompdehjlaaGreat
open Go.RowKit
set_option linter.unusedVariables false
theorem tyL_congr {f g:ByteArray -> Option Int}:∀ {l:List Ex},(∀ y∈l,tyE f y=tyE g y) -> tyL f l=tyL g l
 | [],_=>by rw [tyL,tyL]
 | x :: l,h=>by rw [tyL,tyL,h x (by simp),tyL_congr λy hy=>h y (by simp [hy])]
theorem ty_congr {f g:ByteArray -> Option Int} {x:Ex} (h:∀ s∈nY x,f s=g s):tyE f x=tyE g x:=by
 revert h
 refine ex_ind (p:=λx=>(∀ s∈nY x,f s=g s) -> tyE f x=tyE g x) (λx ih h=>?_) x;rw [oY] at h;have hl:tyL f x.args=tyL g x.args:=tyL_congr λy hy=>ih y hy λs hs=>h s (Vj _ (mem_refsL.2 ⟨y,hy,hs⟩));rw [tyE_op,tyE_op,hl]
 by_cases h2:x.op=2
 ·rw [h x.nm (by rw [Cj h2]; simp)]
 ·unfold tyOp;simp only [Bj h2]
abbrev NyV (v:Vl):Prop:=v.k=4\/v.k=5
theorem ny_not:NotYet NyV:=⟨λ_ h=>h,.inr rfl,.inr rfl,.inr rfl⟩
def TyOk (fs:List Fd) (v:List Vl):Prop:=∀ (i:Nat) (f:Fd) (x:Vl),fs[i]?=some f -> v[i]?=some x -> OfT NyV f.ty x
theorem fcs_env {fs:List Fd} (hok:OkFs fs) {v:List Vl} (hl:v.length=fs.length) (ht:TyOk fs v):∀ s t,tyF fs s=some t -> ∃ x,(fcs fs v).get s=some x /\ OfT NyV t x:=λs t h=>by
 obtain ⟨i,f,h1,h2,h3⟩:∃ (i:Nat) (f:Fd),fs[i]?=some f /\ f.name=s /\ f.ty=t:=by
  clear ht hl hok
  induction fs with
  | nil=>cases h
  | cons g l ih =>
   rw [tyF] at h
   by_cases e:(s == g.name)=true
   ·rw [Cj e] at h;exact ⟨0,g,rfl,((Vk _ _).1 e).symm,Hq h⟩
   ·rw [Bj e] at h;obtain ⟨i,f,h1,h2⟩:=ih h;exact ⟨i + 1,f,by simpa using h1,h2⟩
 obtain ⟨x,hx⟩:∃ x,v[i]?=some x:=⟨_,Gj (by rw [hl]; exact (Oj.1 h1).1)⟩;exact ⟨x,h2 ▸ fcs_get hok.nodup h1 hx,h3 ▸ ht i f x h1 hx⟩
theorem tell_ty {fs:List Fd} {inp:Env} (hi:∀ p∈inp,p.2.known) {s:ByteArray} {t:Int} (h1:1 <= t) (h3:t <= 3) (hk:∀ p∈inp,p.1=s -> p.2.k=t):(tellV s t inp).k=t:=by
 induction inp with
 | nil=>rfl
 | cons p l ih =>
  rw [tellV]
  by_cases e:(p.1.toList == s.toList)=true
  ·rw [Cj e];rw [tl_dec,decide_eq_true_iff] at e;exact hk p (by simp) e
  ·rw [Bj e];exact ih (λq hq=>hi q (by simp [hq])) λq hq=>hk q (by simp [hq])
def InpTy (fs:List Fd) (inp:Env):Prop:=∀ (i:Nat) (f:Fd),fs[i]?=some f -> f.kind=1 -> ∀ p∈inp,p.1=f.name -> p.2.k=f.ty
theorem sol_tyG {fs:List Fd} (hok:OkFs fs) {inp:Env} (hi:∀ p∈inp,p.2.known) (hit:InpTy fs inp) {orc:List Aw} (ho:∀ (i:Nat) (f:Fd),fs[i]?=some f -> ∀ key,OfT NyV f.ty (askL f.name key orc)) {ρ:List Int} {lv:Nat -> Nat} (hr:Ranked (uW fs) ρ lv) {v:List Vl} (hv:Sol fs inp orc v) (hvo:∀ x∈v,OkV x):TyOk fs v:=by
 have key:∀ t i,lv i < t -> ∀ f x,fs[i]?=some f -> v[i]?=some x -> OfT NyV f.ty x:=λt=>by
  induction t with
  | zero=>intro i h; omega
  | succ t ih =>
   intro i ht f x hf hx;have hF:=hok.each f (Dj hf);have hil:=(Oj.1 hf).1;have hxo:=hvo x (Dj hx);have e:=hv.at_ i f x hf hx;unfold dX at e
   by_cases h1:f.kind=1
   ·rw [Cj h1] at e;exact .inl ⟨e ▸ tell_ok hi _ hF.t1 hF.t3,e ▸ tell_ty (fs:=fs) hi hF.t1 hF.t3 (hit i f hf h1)⟩
   ·rw [Bj h1] at e
    by_cases h3:f.kind=3
    ·rw [Cj h3] at e;unfold askV at e
     split at e
     ·rw [e]; exact ho i f hf _
     ·rename_i q;rw [e] at hxo ⊢
      have:=ok_kinds hxo
      exact .inr (by show _=4\/_=5; omega)
    ·rw [Bj h3] at e;have ht2:=hF.form (by have:=hF.k1; have:=hF.k3; omega);have hdec:∀ s,Decidable (s∈nY f.src):=λs=>Classical.propDecidable _;obtain ⟨t2,env,hsub,hE⟩:∃ (f2:ByteArray -> Option Int) (env:Env),tyE f2 f.src=(f.ty,0) /\ rK env f.src=rK (fcs fs v) f.src /\ ∀ s t,f2 s=some t -> ∃ x,env.get s=some x /\ OfT NyV t x:=by
      refine ⟨λs=>if s∈nY f.src then tyF fs s else none,fcs fs v,?_,rfl,λs t q=>?_⟩
      ·exact (ty_congr (f:=λs=>if s∈nY f.src then tyF fs s else none) (g:=tyF fs) (λs hs=>Cj hs)).trans ht2
      ·simp only at q
       split at q
       ·rename_i hs;obtain ⟨j,g,g1,g2,g3⟩:=refs_need hok hf h1 hs;obtain ⟨l1,l2⟩:=hr.low i (by rw [needsE_len]; exact hil) j g3;rw [needsE_len] at l1;obtain ⟨y,hy⟩:∃ y,v[j]?=some y:=⟨_,Gj (by rw [hv.len]; exact l1)⟩
        have:=ih j (by omega) g y g1 hy
        have hty:tyF fs s=some g.ty:=by rw [<- g2]; exact tyF_mem hok.nodup g (Dj g1)
        rw [hty] at q;rw [<- Hq q];exact ⟨y,g2 ▸ fcs_get hok.nodup g1 hy,this⟩
       ·cases q
     have:=ty_sound ny_not hE.2 (hF.wf h1).1 hsub
     rw [hE.1] at this;rw [e]; exact this
 exact λi f x hf hx=>key (lv i + 1) i (by omega) f x hf hx
structure Wh (fs:List Fd) (inp:Env) (ρ:List Int) (lv:Nat -> Nat) (os:List Nat):Prop where
 ok:OkFs fs
 known:∀ p∈inp,p.2.known
 ty:InpTy fs inp
 ord:Ordd fs ρ lv os
section
variable {fs:List Fd} {inp:Env} {ρ:List Int} {lv:Nat -> Nat} {os:List Nat}
open Classical in
end
theorem orc1_any (p:Aw) (b:Nat) (x:Aw) (h:Vw) (hc:Cells h b 0 (anRow x)):C0 Tryz.prog 162 #[.agg #[Vt p.nm,Vi p.key.k,Vi p.key.n,.string p.key.s,Vi p.has.k,Vi p.has.n,.string p.has.s],.pointer (some ⟨b,0,none⟩)] h (λr _=>r=.bool (p.hit x.nm x.key)):=by
 unfold Aw.hit;refine wQ Tryz.func162 (c:=Tryz.f162.body.getD .skip) (N:=16) ?_;intro hbx hbad Q hQ;refine xQ (hc.sees (Sees.refl _)) ?_;refine go1 14 [.own,.b 0 0,.f 0 0] [] ?_;intro b1
 cases boolIs (p.nm.toList == x.nm.toList) with
 | true hq =>
  generalize hg:eqB p.key x.key=g at *;refine mV 9 (v:=.bool (p.nm.toList == x.nm.toList)) (v':=.bool true) (Ej Value.bool hq) ?_;refine go0 4 [.b 0 1,.f 0 1] [] ?_;refine kV (.bool g) (λw=>run_eqop (x:=(.tmp 11)) (y:=(.tmp 13)) (v:=p.key) (w:=x.key) (by kernel_rfl) (by kernel_rfl) (by kernel_rfl) (hg)) ?_;refine go0 5 [] [] ?_;refine hQ.to [.bool g] (λH sH=>?_);exact Ej Value.bool (by rw [hq]; rfl)
 | false hq =>
  refine mV 9 (v:=.bool (p.nm.toList == x.nm.toList)) (v':=.bool false) (Ej Value.bool hq) ?_;refine go0 10 [] [] ?_;refine hQ.to [.bool false] (λH sH=>?_);exact Ej Value.bool (by rw [hq]; rfl)
theorem idxOrc_any (l:List Aw) (A:Option Addr) (cap:Nat) (b:Nat) (x:Aw) (h:Vw) (hr:RS h 7 (.slice A l.length cap) (rJ l)) (hl:l.length <= 1000000) (hc:Cells h b 0 (anRow x)) (hno:∀ q∈l,q.hit x.nm x.key=false) :
  C0 Tryz.prog 41 #[.slice A l.length cap,.func (.func 162) #[] #[.pointer (some ⟨b,0,none⟩)]] h (λr _=>r=Vi (-1)):=by
 generalize hL:l.length=len at *;refine wQ Tryz.func41 (c:=Tryz.f41.body.getD .skip) (N:=19) ?_;intro hbx hbad Q hQ;refine go0 14 [] [] ?_;refine eV [0,1,0,1] [.block 0,.seq [1,1]] (λ(k:Nat) X=>∃ (W1:Vw) ,X W1 [(0,.slice A len cap),(1,.func (.func 162) #[] #[Vp b]),(7,Vi (len:Int)),(8,Vi (k:Int))] [] [] /\ Sees h W1 /\ (k <= len)) (λk=>len - k) (0) (λX q=>⟨h,q _ _ _ _ ⟨rfl,by kernel_rfl⟩,Sees.refl _,Kj _⟩) ?_;rintro k a w ⟨W1,hJ,S2,hk⟩; refine jV hJ ?_; clear hJ a w;refine go0 6 [] [] ?_;rcases (by omega:k < len\/k=len) with hlt | hke
 ·obtain ⟨q,hqk⟩:∃ q,l[k]?=some q:=⟨_,Gj (by omega)⟩;have hrow:(rJ l)[k]?=some (anRow q):=by rw [Nj,hqk]; rfl
  have hq1:=λH q1=>orc1_any q b x H q1;rw [hno q (Dj hqk)] at hq1;refine oV (t:=decide ((k:Int) < (len:Int))) (Mj (by omega)) ?_;refine go0 15 [] [] ?_;obtain ⟨b3,o4,rfl,-,c5⟩:=RS.row hr (hrow);refine xQ (c5.sees S2) ?_;refine go0 13 [.ix b3 o4 len cap k,.f 0 0,.cl 162 #[.agg #[Vt q.nm,Vi q.key.k,Vi q.key.n,.string q.key.s,Vi q.has.k,Vi q.has.n,.string q.has.s],Vp b] (.bool false)] [(18,Vi (IntKind.i64.wrap ((k:Int) + 1)),Vi ((k:Int) + 1))] ?_ (ho:=(Aj (by first | omega | (simp; omega)) (Aj (λH sH=>hq1 _ (hc.sees (S2.trans sH))) (trivial)))) (hc:=(Aj (jJ (by omega) (by omega)) (trivial)));exact nV (k + 1) (λX q=>⟨W1,q _ _ _ _ ⟨rfl,by kernel_rfl⟩,S2,by omega⟩) (by omega)
 ·skip;refine yQ (t:=decide ((k:Int) < (len:Int))) (Jj (by omega)) ?_
  refine go0 2 [] [] ?_;refine dV ?_;refine go0 8 [] [] ?_;refine hQ.to [Vi (-1)] (λH sH=>?_);exact rfl
theorem contOrc_any (l:List Aw) (A:Option Addr) (cap:Nat) (b:Nat) (x:Aw) (h:Vw) (hr:RS h 7 (.slice A l.length cap) (rJ l)) (hl:l.length <= 1000000) (hc:Cells h b 0 (anRow x)) (hno:∀ q∈l,q.hit x.nm x.key=false) :
  C0 Tryz.prog 89 #[.slice A l.length cap,.func (.func 162) #[] #[.pointer (some ⟨b,0,none⟩)]] h (λr _=>r=.bool false):=by
 have hi:=λH q1 q2=>idxOrc_any l A cap b x H q1 hl q2 hno;refine wQ Tryz.func89 (c:=Tryz.f89.body.getD .skip) (N:=9) ?_;intro hbx hbad Q hQ;refine go0 15 [.cl 41 #[.slice A l.length cap,.func (.func 162) #[] #[Vp b]] (Vi (-1))] [] ?_ (ho:=(Aj (λH sH=>hi _ (hr.sees sH) (hc.sees sH)) (trivial)));refine hQ.to [.bool false] (λH sH=>?_);exact rfl
theorem once_take {l:List Aw} (h:l.Pairwise (λp q=>p.hit q.nm q.key=false)) {k:Nat} {x:Aw} (hx:l[k]?=some x):∀ q∈l.take k,q.hit x.nm x.key=false:=λq hq=>by
 obtain ⟨i,hi⟩:=Fq hq;have hik:i < k:=by
  rcases Uq i k with g | g
  ·exact g
  ·rw [Iq (by rw [Uj]; omega)] at hi; cases hi
 rw [List.getElem?_take_of_lt hik] at hi;obtain ⟨a,ea⟩:=Oj.1 hi;obtain ⟨b,eb⟩:=Oj.1 hx
 have:=List.pairwise_iff_getElem.1 h i k a b hik
 rw [ea,eb] at this;exact this
theorem fcs_snoc:∀ {fs:List Fd} {vs:List Vl} (f:Fd) (v:Vl),vs.length=fs.length -> fcs (fs++[f]) (vs++[v])=fcs fs vs++[(f.name,v)]
 | [],[],f,v,_=>rfl
 | g :: fs,x :: vs,f,v,h=>by
  show _ :: fcs (fs++[f]) (vs++[v])=_;rw [fcs_snoc f v (by simpa using h)]; rfl
 | [],_ :: _,_,_,h=>by simp at h
 | _ :: _,[],_,_,h=>by simp at h
theorem fcs_ok {fs:List Fd} {vs:List Vl} (h:∀ x∈vs,OkV x):∀ p∈fcs fs vs,OkV p.2:=by
 induction fs generalizing vs with
 | nil=>intro p hp; cases hp
 | cons f fs ih =>
  cases vs with
  | nil=>intro p hp; cases hp
  | cons v vs =>
   intro p hp;rcases Tj.1 hp with rfl | hp
   ·exact h v (by simp)
   ·exact ih (λx hx=>h x (by simp [hx])) p hp
section
variable {P:Program} {C:Fx} {E:List (Nat × Value)} {B:List Ent} {F:List Fac} {h:Vw} {a:Act} {w w':World} {Q:Exit -> Act -> World -> Prop} {c0:Code} {p:List Nat} {n:Nat} {ks:List Kt}
end
structure AnMay (fs:List Fd) (p:Aw):Prop where
 place:∃ (i:Nat) (f:Fd) (t:Int),fs[i]?=some f /\ f.name=p.nm /\ f.kind=3 /\ tyE (tyF fs) f.src=(t,0) /\ p.key.k=t /\ (p.has.k=f.ty\/p.has.k=5)
 key:p.key.known
 has:OkV p.has
structure MayOrc (fs:List Fd) (orc:List Aw):Prop where
 each:∀ p∈orc,AnMay fs p
 once:orc.Pairwise (λp q=>p.hit q.nm q.key=false)
theorem orcC_once:∀ {fs:List Fd} {cs:List Cl},(fs.map (λf:Fd=>f.name)).Nodup -> (mX fs cs).Pairwise (λp q=>p.hit q.nm q.key=false)
 | [],_,_=>.nil
 | _ :: _,[],_=>.nil
 | f :: fs,c :: cs,hd=>by
  rw [Ck,Kq] at hd;refine List.pairwise_append.2 ⟨?_,orcC_once hd.2,λp hp q hq=>?_⟩
  ·split
   ·exact List.pairwise_singleton _ _
   ·exact .nil
  ·split at hp
   ·rw [Pj.1 hp];obtain ⟨i,g,d,hg,-,-,rfl⟩:=orcC_mem hq;exact hit_name λe=>hd.1 (Qj.2 ⟨g,Dj hg,e.symm⟩)
   ·cases hp
theorem orcC_snoc:∀ {fs:List Fd} {cs:List Cl} (f:Fd) (c:Cl),cs.length=fs.length -> mX (fs++[f]) (cs++[c])=mX fs cs++(if c.st=2\/c.st=3 then [⟨f.name,c.key,tJ c⟩] else [])
 | [],[],f,c,_=>by show _++[]=[]++_; simp
 | [],_ :: _,_,_,h=>by simp at h
 | _ :: _,[],_,_,h=>by simp at h
 | g :: fs,d :: cs,f,c,h=>by
  show _++mX (fs++[f]) (cs++[c])=(_++mX fs cs)++_;rw [orcC_snoc f c (by simpa using h),Yk]
theorem orcC_len:∀ {fs:List Fd} {cs:List Cl},(mX fs cs).length <= fs.length
 | [],_=>Kj _
 | _ :: _,[]=>Kj _
 | g :: fs,d :: cs=>by
  show (_++mX fs cs).length <= fs.length + 1
  have:=orcC_len (fs:=fs) (cs:=cs)
  rw [Bk]
  split <;> simp <;> omega
theorem orcC_ty {fs:List Fd} {p:Pol} {last:Int} {cs:List Cl} (hok:OkFs fs) (h:CallsOk fs p last cs) {i:Nat} {f:Fd} (hf:fs[i]?=some f) (key:Vl):OfT NyV f.ty (askL f.name key (mX fs cs)):=by
 obtain ⟨c,hc⟩:∃ c,cs[i]?=some c:=⟨_,Gj (by rw [h.len]; exact (Oj.1 hf).1)⟩;obtain ⟨c1,c2,c3⟩:=h.at_ i f c hf hc;rw [orcC_ask hok.nodup hf hc]
 by_cases q:(c.st=2\/c.st=3) /\ eqB c.key key=true
 ·rw [Cj q];have hb:=c1.live (by omega);unfold tJ
  by_cases s2:c.st=2
  ·rw [Cj s2];exact .inl ⟨(hb.knw s2).1,c3 s2⟩
  ·rw [Bj s2,Cj (by omega)];exact .inr (.inr rfl)
 ·rw [Bj q];exact .inr (.inl rfl)
theorem inp_toldT {fs:List Fd} {inp:Env} (hd:(fs.map (λf:Fd=>f.name)).Nodup) (h:∀ q∈inp,uZ fs q.1 q.2.k=0):InpTy fs inp:=λi f hf h1 q hq e=>by
 have ht:=h q hq;have hfd:=jQ hd hf;unfold uZ at ht;rw [e,hfd,Bj (by omega),Uv,hf] at ht;simp only at ht;rw [Cj h1] at ht
 by_cases q2:q.2.k=f.ty
 ·exact q2
 ·rw [Bj q2] at ht; exact absurd ht (by decide)
theorem safe_orc {E:Eg} {ρ:List Int} {lv:Nat -> Nat} (hok:EgOk E ρ lv) (hse:Settled E ρ):MayOrc E.fm.fields (mX E.fm.fields E.calls):=by
 have S:=settled_sol hok hse;have hty:=sol_tyG hok.fm.fields hok.ki (inp_toldT hok.fm.fields.nodup hok.k0) (λi f hf key=>orcC_ty hok.fm.fields hok.calls hf key) hok.fm.rank S.sol S.ok;have he:=fcs_env hok.fm.fields S.sol.len hty;refine ⟨λp hp=>?_,orcC_once hok.fm.fields.nodup⟩;obtain ⟨i,f,c,hf,hc,hs,rfl⟩:=orcC_mem hp;obtain ⟨c1,c2,c3⟩:=hok.calls.at_ i f c hf hc;have h3:=(c2 (by omega)).1;have hb:=c1.live (by omega);have hF:=hok.fm.fields.each f (Dj hf);obtain ⟨t,-,-,ht⟩:=hF.look h3;have hkt:=ty_sound ny_not he (hF.wf (by omega)).1 ht;obtain ⟨s1,s2,-⟩:=S.call i f c hf h3 hc;have hko:=hb.key;have hk:(rK (fcs E.fm.fields E.vals) f.src).k <= 3:=by
  rcases Int.lt_or_le 3 (rK (fcs E.fm.fields E.vals) f.src).k with q | q
  ·rw [s2 (by omega)] at hs;rcases hs with q | q
   ·exact absurd (show (0:Int)=2 from q) (by decide)
   ·exact absurd (show (0:Int)=3 from q) (by decide)
  ·exact q
 have e:=(s1 hk).2;have hkk:c.key.k=t:=by
  rw [e];rcases hkt with q | q
  ·exact q.2
  ·have q:(rK (fcs E.fm.fields E.vals) f.src).k=4\/(rK (fcs E.fm.fields E.vals) f.src).k=5:=q;omega
 refine ⟨⟨i,f,t,hf,rfl,h3,ht,hkk,?_⟩,hko,orcC_has hok.calls _ hp⟩;show (tJ c).k=f.ty\/(tJ c).k=5;unfold tJ
 by_cases q2:c.st=2
 ·rw [Cj q2]; exact .inl (c3 q2)
 ·rw [Bj q2,Cj (by omega)]; exact .inr rfl
set_option maxHeartbeats 4000000 in
theorem whMay_any (fs:List Fd) (hok:OkFs fs) (l:List Aw) (ho:MayOrc fs l) (A:Option Addr) (n c:Nat) (B:Option Addr) (m d:Nat) (so:Value) (h:Vw) (hf:IsFds h (.slice A n c) fs) (hn:n=fs.length) (hr:RS h 7 so (rJ l)) (hl:l.length <= 1000) :
  C0 Tryz.prog 131 #[.agg #[.slice A n c,.slice B m d],so] h (λr _=>r=Vi 0):=by
 obtain ⟨vs,A3,c3,e3,-,-,hr3,hs3,hl3,hsl⟩:=gQ hf;have few:=hok.few;have hF:=λH s i q hp=>find_yes fs (.slice A n c) s i H q (by omega) hp;have hT:=λH x v q1 q2 q3 q4=>tyOf_any fs x v (.slice A n c) H q1 q2 q3 q4;simp only [Jk] at e3;obtain ⟨rfl,-,rfl⟩:=e3;rw [<- hn] at hr3 hl3;obtain ⟨A0,c0,rfl,hc1,-,-⟩:=hr.form;rw [Hj] at *;have hC:=λk H b x q1 q2 q3=>contOrc_any (l.take k) A0 c0 b x H q1 (by rw [Uj]; omega) q2 q3;generalize hL:l.length=len at *;refine wQ Tryz.func131 (c:=Tryz.f131.body.getD .skip) (N:=83) ?_;intro hbx hbad Q hQ;refine go1 15 [.own] [] ?_;intro b1;refine eV [0,1,0,1] [.block 0,.seq [1,1]] (λ(k:Nat) X=>∃ (W2:Vw) ,X W2 [(1,.slice A0 len c0),(2,Vp b1),(13,.slice A0 len c0),(14,Vi (len:Int)),(15,Vi (k:Int))] [.box b1 [.slice A n c,.slice B m d]] [] /\ Sees h W2 /\ (k <= len)) (λk=>len - k) (0) (λX q=>⟨h,q _ _ _ _ ⟨rfl,by kernel_rfl⟩,Sees.refl _,Kj _⟩) ?_;rintro k a w ⟨W2,hJ,S3,hkl⟩; refine jV hJ ?_; clear hJ a w;refine go0 6 [] [] ?_;rcases (by omega:k < len\/k=len) with hlt | hke
 ·obtain ⟨x,hxk⟩:∃ x,l[k]?=some x:=⟨_,Gj (by omega)⟩;have hrow:(rJ l)[k]?=some (anRow x):=by rw [Nj,hxk]; rfl
  have hno:=once_take ho.once hxk;have hx:=ho.each x (Dj hxk);obtain ⟨i,f,t,p1,p2,p3,p4,p5,p6⟩:=hx.place;have hil:=(Oj.1 p1).1;have hF1:=hok.each f (Dj p1);obtain ⟨w1,w2,w3⟩:=hF1.wf (by omega);obtain ⟨u,hu⟩:∃ u,vs[i]?=some u:=⟨_,Gj (by omega)⟩;have hfr:=eQ p1 hu;have hga:∀ H,AllSrc H fs vs -> IsArgs H f.src u:=λH q=>AllArgs.get q (x:=f.src) (by rw [Nj,p1]; rfl) hu;obtain ⟨Au,nu,cu,rfl⟩:=(hga _ hs3).slice;have hfd:=jQ hok.nodup p1;have hF2:=λH q=>hF H x.nm i q (by rw [<- p2]; exact hfd);have hT2:=λH q1 q2=>hT H f.src (.slice Au nu cu) q1 w1 (by omega) q2;rw [show ofE fs f.src=(t,0) from by unfold ofE; rw [Cj w3,p4]] at hT2;have hk1:=λH=>c_kn x.key.k x.key.n x.key.s H hx.key;have hk2:=λH=>check_okv x.has H hx.has;have htl:(l.take k).length=k:=by rw [Uj]; omega
  have htr:RS h 7 (.slice A0 k c0) (rJ (l.take k)):=by have:=hr.take k (by rw [Hj]; omega); rwa [<- List.map_take] at this
  have hC2:=λH b q1 q2=>hC k H b x q1 q2 hno;rw [htl] at hC2;refine oV (t:=decide ((k:Int) < (len:Int))) (Mj (by omega)) ?_;refine go0 7 [] [] ?_;obtain ⟨b4,o5,rfl,-,c6⟩:=RS.row hr (hrow);refine xQ (c6.sees S3) ?_;refine go1 36 [.ix b4 o5 len c0 k,.f 0 0,.own,.b 0 0,.b 1 0,.b 0 0,.cl 44 #[.slice A n c,.string x.nm] (.tuple #[Vi (i:Int),Vi 0]),.b 1 0] [] ?_ (ho:=(Aj (by first | omega | (simp; omega)) (Aj (λH sH=>hF2 _ (hf.sees (S3.trans sH))) (trivial))));intro bx;obtain ⟨b7,o8,rfl,-,c9⟩:=RS.row hr3 (hfr);refine xQ (c9.sees S3) ?_;refine go1 71 [.ix b7 o8 n c i,.f 0 0,.own,.b 0 0,.b 0 1,.b 0 3,.b 2 0,.cl 151 #[.agg #[Vi f.src.op,Vi f.src.k,Vi f.src.n,.string f.src.s,.string f.src.nm,.slice Au nu cu],.slice (some ⟨b7,o8,none⟩) n c] (.tuple #[Vi t,Vi 0]),.b 1 1,.cl 73 #[.agg #[Vi x.key.k,Vi x.key.n,.string x.key.s]] (.bool true),.b 1 1,.b 1 4,.cl 58 #[.agg #[Vi x.has.k,Vi x.has.n,.string x.has.s]] (Vi 0),.b 1 4,.b 0 2] [(38,.bool (f.kind != 3),.bool false),(56,.bool (x.key.k != t),.bool false)] ?_ (ho:=(Aj (by first | omega | (simp; omega)) (Aj (λH sH=>hT2 _ (hga _ (hs3.sees (S3.trans sH))) (hf.sees (S3.trans sH))) (Aj (λH sH=>hk1 _) (Aj (λH sH=>hk2 _) (trivial)))))) (hc:=(Aj (Ej Value.bool (by rw [Kk]; exact p3)) (Aj (Ej Value.bool (by rw [Kk]; exact p5)) (trivial))));intro b10
  by_cases p7:x.has.k=f.ty
  ·refine mV 70 (v:=.bool (x.has.k != f.ty)) (v':=.bool false) (Ej Value.bool (by rw [Kk]; exact p7)) ?_;refine go0 15 [] [] ?_;refine kV (.slice (some ⟨b4,o5,none⟩) k c0) (λw=>run_hi (t:=31) (e:=47) (x:=(.tmp 77)) (y:=(.tmp 78)) (A:=(some ⟨b4,o5,none⟩)) (n:=len) (cap:=c0) (k:=k) (kk:=7) (by kernel_rfl) (by kernel_rfl) (by kernel_rfl) (by omega) Tryz.underlying31 (by kernel_rfl)) ?_;refine go0 1 [] [] ?_;refine g_callq (λa w hJ=>hC2 _ bx (htr.sees (S3.trans hJ.j.seesQ)) (hJ.j.boxQ (b:=bx) (cs:=[Vt x.nm,Vi x.key.k,Vi x.key.n,.string x.key.s,Vi x.has.k,Vi x.has.n,.string x.has.s]) 1 (by kernel_rfl))) ?_; intro W11 S12;refine go0 10 [] [(82,Vi (IntKind.i64.wrap ((k:Int) + 1)),Vi ((k:Int) + 1))] ?_ (hc:=(Aj (jJ (by omega) (by omega)) (trivial)));exact nV (k + 1) (λX q=>⟨W11,q _ _ _ _ ⟨rfl,by kernel_rfl⟩,(S3.trans S12),by omega⟩) (by omega)
  ·skip;have p8:x.has.k=5:=p6.resolve_left p7
   refine mV 70 (v:=.bool (x.has.k != f.ty)) (v':=.bool true) (Ej Value.bool (Ek.2 p7)) ?_;refine go0 8 [.b 1 4] [] ?_;refine yQ (t:=x.has.k != 5) ((by rw [Kk]; exact p8)) ?_;refine go0 6 [] [] ?_;refine kV (.slice (some ⟨b4,o5,none⟩) k c0) (λw=>run_hi (t:=31) (e:=47) (x:=(.tmp 77)) (y:=(.tmp 78)) (A:=(some ⟨b4,o5,none⟩)) (n:=len) (cap:=c0) (k:=k) (kk:=7) (by kernel_rfl) (by kernel_rfl) (by kernel_rfl) (by omega) Tryz.underlying31 (by kernel_rfl)) ?_;refine go0 1 [] [] ?_;refine g_callq (λa w hJ=>hC2 _ bx (htr.sees (S3.trans hJ.j.seesQ)) (hJ.j.boxQ (b:=bx) (cs:=[Vt x.nm,Vi x.key.k,Vi x.key.n,.string x.key.s,Vi x.has.k,Vi x.has.n,.string x.has.s]) 1 (by kernel_rfl))) ?_; intro W13 S14;refine go0 10 [] [(82,Vi (IntKind.i64.wrap ((k:Int) + 1)),Vi ((k:Int) + 1))] ?_ (hc:=(Aj (jJ (by omega) (by omega)) (trivial)));exact nV (k + 1) (λX q=>⟨W13,q _ _ _ _ ⟨rfl,by kernel_rfl⟩,(S3.trans S14),by omega⟩) (by omega)
 ·skip;refine yQ (t:=decide ((k:Int) < (len:Int))) (Jj (by omega)) ?_
  refine go0 2 [] [] ?_;refine dV ?_;refine go0 8 [] [] ?_;refine hQ.to [Vi 0] (λH sH=>?_);exact rfl
theorem anRows_snoc' (l:List Aw) (p:Aw):rJ (l++[p])=rJ l++[anRow p]:=by simp [rJ]
theorem orcT_step {fs:List Fd} {cs:List Cl} {k:Nat} {g:Fd} {x:Cl} (hl:cs.length=fs.length) (hg:fs[k]?=some g) (hx:cs[k]?=some x):mX (fs.take (k + 1)) (cs.take (k + 1))=mX (fs.take k) (cs.take k)++(if x.st=2\/x.st=3 then [⟨g.name,x.key,tJ x⟩] else []):=by
 rw [qZ fs k g hg,qZ cs k x hx];exact orcC_snoc g x (by rw [Uj,Uj,hl])
theorem oracleOf_any (E:Eg) (ρ:List Int) (lv:Nat -> Nat) (hok:EgOk E ρ lv) (w:Value) (h:Vw) (hE:IsEng h w E) :
  C0 Tryz.prog 61 #[.agg #[sL (agJ 0 w),sL (agJ 1 w),Vi E.pol.t,Vi E.pol.b,Vi E.pol.c,sL (agJ 2 w),sL (agJ 3 w),sL (agJ 4 w),Vi E.now,Vi E.last]] h (λr h'=>∃ u,r=sL u /\ RS h' 7 (sL u) (rJ (mX E.fm.fields E.calls))):=by
 have few:=hok.fm.fields.few;have hcl:=hok.calls.len;obtain ⟨vs,A,c,e0,-,-,hr4,hs4,hl4,-⟩:=gQ hE.form.fields;obtain ⟨A2,c2,e2,-,-,-⟩:=hE.calls.form;have hrc:=hE.calls;rw [e2] at hrc;rw [e0,e2];rw [Hj] at *;rw [hcl] at hrc ⊢;have hst:=λk g x q1 q2=>orcT_step (fs:=E.fm.fields) (cs:=E.calls) (k:=k) (g:=g) (x:=x) hcl q1 q2;have hol:=λk=>orcC_len (fs:=E.fm.fields.take k) (cs:=E.calls.take k);have hend:mX (E.fm.fields.take E.fm.fields.length) (E.calls.take E.fm.fields.length)=mX E.fm.fields E.calls:=by rw [Ik, <- hcl,Ik]
 generalize hn:E.fm.fields.length=n at *;refine wQ Tryz.func61 (c:=Tryz.f61.body.getD .skip) (N:=39) ?_;intro hbx hbad Q hQ;refine go1 21 [.own,.b 0 6] [] ?_;intro b1;refine iV 47 7 ?_;refine eV [0,1,0,1,1] [.block 0,.seq [1,1,1]] (λ(k:Nat) X=>∃ (W2:Vw) (v:Value) (ol:List Aw),X W2 [(1,Vp b1),(7,.slice A2 n c2),(8,Vi (n:Int)),(9,Vi (k:Int)),(3,v)] [.row v 47 7 (rJ ol),.box b1 [.slice A n c,sL (agJ 1 w),Vi E.pol.t,Vi E.pol.b,Vi E.pol.c,sL (agJ 2 w),.slice A2 n c2,sL (agJ 4 w),Vi E.now,Vi E.last]] [] /\ Sees h W2 /\ (k <= n) /\ (mX (E.fm.fields.take k) (E.calls.take k)=ol)) (λk=>n - k) (0) (λX q=>⟨h,(Vz),[],q _ _ _ _ ⟨rfl,by kernel_rfl⟩,Sees.refl _,Kj _,rfl⟩) ?_;rintro k a w ⟨W2,v,ol,hJ,S3,hk,ho⟩; refine jV hJ ?_; clear hJ a w;refine go0 6 [] [] ?_;rcases (by omega:k < n\/k=n) with hlt | hke
 ·obtain ⟨g,hg⟩:∃ g,E.fm.fields[k]?=some g:=⟨_,Gj (by omega)⟩;obtain ⟨x,hx⟩:∃ x,E.calls[k]?=some x:=⟨_,Gj (by omega)⟩;obtain ⟨v2,hv2⟩:∃ v,vs[k]?=some v:=⟨_,Gj (by omega)⟩;have hrow:=eQ hg hv2;obtain ⟨Au,nu,cu,rfl⟩:=(AllSrc.get hs4 hg hv2).slice;have hrx:=jK hx;have hsk:=hst k g x hg hx;have hlk:=hol k;rw [ho] at hsk hlk;rw [Uj] at hlk;have hca:∀ H,C0 Tryz.prog 98 #[.agg #[Vi x.st,Vi x.id,Vi x.tr,Vi x.key.k,Vi x.key.n,.string x.key.s,Vi x.has.k,Vi x.has.n,.string x.has.s,Vi x.nx]] H (λr _=>r=(tJ x).val):=λH=>c_ansC x H;have hmr:(rJ ol).length=ol.length:=Hj _;generalize tJ x=av at *;refine oV (t:=decide ((k:Int) < (n:Int))) (Mj (by omega)) ?_;refine go0 7 [] [] ?_;obtain ⟨b4,o5,rfl,-,c6⟩:=RS.row hrc (hrx);refine xQ (c6.sees S3) ?_;refine go1 13 [.ix b4 o5 n c2 k,.f 0 0,.own,.b 0 0,.b 0 0] [] ?_ (ho:=(Aj (by first | omega | (simp; omega)) (trivial)));intro b7
  by_cases s2:x.st=2
  ·rw [Cj (.inl s2)] at hsk;refine mV 17 (v:=.bool (x.st == 2)) (v':=.bool true) (Ej Value.bool (Zj.2 s2)) ?_;refine go0 7 [] [] ?_;obtain ⟨b8,o9,rfl,-,c10⟩:=RS.row hr4 (hrow);refine xQ (c10.sees S3) ?_;refine lV 16 0 [.pu,.pu,.pu,.ld 2 0,.pu,.v (λgh=>.pointer (some ⟨b8,o9 + k * 9,none⟩)),.pu,.lf 0 0,.pu,.ld 0 3,.ld 0 0,.v (λgh=>.agg #[Vi av.k,Vi av.n,.string av.s]),.pu,.f (λgh=>.slice (some ⟨(wJ (gh 13)),0,none⟩) 1 1) (λgh hh=>Cells hh (wJ (gh 13)) 0 [Vt g.name,Vi x.key.k,Vi x.key.n,.string x.key.s,Vi av.k,Vi av.n,.string av.s]),.e (λgh=>sL (gh 14)) 1 (λgh=>.row (sL (gh 14)) 47 7 ((rJ ol)++[[Vt g.name,Vi x.key.k,Vi x.key.n,.string x.key.s,Vi av.k,Vi av.n,.string av.s]])),.pu] [(13,true),(14,false)] (Aj (λ_ _ _ s c=>c.sees s) (trivial)) ?_ ?_
   ·intro R hT hA hmono;refine Aj (pZ hT hA b8 o9 n c k (λgh=>.pointer (some ⟨b8,o9 + k * 9,none⟩)) (by first | omega | (simp; omega))) ?_;refine Aj (t_v hT hA hmono (k:=98) (args:=(λgh=>#[.agg #[Vi x.st,Vi x.id,Vi x.tr,Vi x.key.k,Vi x.key.n,.string x.key.s,Vi x.has.k,Vi x.has.n,.string x.has.s,Vi x.nx]])) (f:=λgh=>.agg #[Vi av.k,Vi av.n,.string av.s]) (λgh H sH fH lent=>hca _)) ?_;refine Aj (jY hT hA hmono ⟨λ_ _=>by kernel_rfl,λ_ _=>by kernel_rfl,λ_ _=>by kernel_rfl⟩ 35 (λg=>Vs g 1 1) [12] 13 (λgh=>[Vt g.name,Vi x.key.k,Vi x.key.n,.string x.key.s,Vi av.k,Vi av.n,.string av.s]) 47 (λgh zb zH zc zj zq zhq zhe=>pX (i:=13) (k:=0) (f:=λgh hh=>Cells hh (wJ (gh 13)) 0 [Vt g.name,Vi x.key.k,Vi x.key.n,.string x.key.s,Vi av.k,Vi av.n,.string av.s]) (by kernel_rfl) (by kernel_rfl) zc zj zq zhq zhe)) ?_;refine Aj (fY hT hA hmono ⟨λ_ _=>by kernel_rfl,λ_ _=>by kernel_rfl,λ_ _=>by kernel_rfl⟩ 36 [0,11,13] 14 1 (GN R 1) (λgh=>v) 31 47 7 (λgh=>rJ ol) (λgh=>[[Vt g.name,Vi x.key.k,Vi x.key.n,.string x.key.s,Vi av.k,Vi av.n,.string av.s]]) (.tmp 22) (.tmp 35) (λgh=>(wJ (gh 13))) 1 1 0 13 (λgh hh=>Cells hh (wJ (gh 13)) 0 [Vt g.name,Vi x.key.k,Vi x.key.n,.string x.key.s,Vi av.k,Vi av.n,.string av.s]) (λ_ _ c=>c) Tryz.underlying31 (zv:=.agg #[Ve,Vi 0,Vi 0,Ve,Vi 0,Vi 0,Ve]) (bytes:=80) (λ_=>by constructor <;> (simp; omega))) ?_
    trivial
   rintro b12 v36 W13 S14 ⟨f11,-⟩;replace f11:Cells W13 b12 0 [Vt g.name,Vi x.key.k,Vi x.key.n,.string x.key.s,Vi av.k,Vi av.n,.string av.s]:=f11;refine xQ f11 ?_;refine go0 6 [] [(37,Vi (IntKind.i64.wrap ((k:Int) + 1)),Vi ((k:Int) + 1))] ?_ (hc:=(Aj (jJ (by omega) (by omega)) (trivial)));refine cV [(1,Vp b1),(7,.slice (some ⟨b4,o5,none⟩) n c2),(8,Vi (n:Int)),(3,sL v36),(9,Vi ((k:Int) + 1))] [.row (sL v36) 47 7 ((rJ ol)++[[Vt g.name,Vi x.key.k,Vi x.key.n,.string x.key.s,Vi av.k,Vi av.n,.string av.s]]),.box b1 [.slice (some ⟨b8,o9,none⟩) n c,sL (agJ 1 w),Vi E.pol.t,Vi E.pol.b,Vi E.pol.c,sL (agJ 2 w),.slice (some ⟨b4,o5,none⟩) n c2,sL (agJ 4 w),Vi E.now,Vi E.last]] [] ?_;exact nV (k + 1) (λX q=>⟨W13,sL v36,ol++[⟨g.name,x.key,av⟩],q _ _ _ _ (aZ (by rw [anRows_snoc']; try rfl)),(S3.trans S14),by omega,hsk⟩) (by omega)
  ·skip;refine mV 17 (v:=.bool (x.st == 2)) (v':=.bool false) (Ej Value.bool (Lj.2 s2)) ?_
   refine go0 6 [.b 0 0] [] ?_
   by_cases s3:x.st=3
   ·rw [Cj (.inr s3)] at hsk;refine oV (t:=x.st == 3) (Zj.2 s3) ?_;obtain ⟨b15,o16,rfl,-,c17⟩:=RS.row hr4 (hrow);refine xQ (c17.sees S3) ?_;refine lV 16 0 [.pu,.pu,.pu,.ld 2 0,.pu,.v (λgh=>.pointer (some ⟨b15,o16 + k * 9,none⟩)),.pu,.lf 0 0,.pu,.ld 0 3,.ld 0 0,.v (λgh=>.agg #[Vi av.k,Vi av.n,.string av.s]),.pu,.f (λgh=>.slice (some ⟨(wJ (gh 13)),0,none⟩) 1 1) (λgh hh=>Cells hh (wJ (gh 13)) 0 [Vt g.name,Vi x.key.k,Vi x.key.n,.string x.key.s,Vi av.k,Vi av.n,.string av.s]),.e (λgh=>sL (gh 14)) 1 (λgh=>.row (sL (gh 14)) 47 7 ((rJ ol)++[[Vt g.name,Vi x.key.k,Vi x.key.n,.string x.key.s,Vi av.k,Vi av.n,.string av.s]])),.pu] [(13,true),(14,false)] (Aj (λ_ _ _ s c=>c.sees s) (trivial)) ?_ ?_
    ·intro R hT hA hmono;refine Aj (pZ hT hA b15 o16 n c k (λgh=>.pointer (some ⟨b15,o16 + k * 9,none⟩)) (by first | omega | (simp; omega))) ?_;refine Aj (t_v hT hA hmono (k:=98) (args:=(λgh=>#[.agg #[Vi x.st,Vi x.id,Vi x.tr,Vi x.key.k,Vi x.key.n,.string x.key.s,Vi x.has.k,Vi x.has.n,.string x.has.s,Vi x.nx]])) (f:=λgh=>.agg #[Vi av.k,Vi av.n,.string av.s]) (λgh H sH fH lent=>hca _)) ?_;refine Aj (jY hT hA hmono ⟨λ_ _=>by kernel_rfl,λ_ _=>by kernel_rfl,λ_ _=>by kernel_rfl⟩ 35 (λg=>Vs g 1 1) [12] 13 (λgh=>[Vt g.name,Vi x.key.k,Vi x.key.n,.string x.key.s,Vi av.k,Vi av.n,.string av.s]) 47 (λgh zb zH zc zj zq zhq zhe=>pX (i:=13) (k:=0) (f:=λgh hh=>Cells hh (wJ (gh 13)) 0 [Vt g.name,Vi x.key.k,Vi x.key.n,.string x.key.s,Vi av.k,Vi av.n,.string av.s]) (by kernel_rfl) (by kernel_rfl) zc zj zq zhq zhe)) ?_;refine Aj (fY hT hA hmono ⟨λ_ _=>by kernel_rfl,λ_ _=>by kernel_rfl,λ_ _=>by kernel_rfl⟩ 36 [0,11,13] 14 1 (GN R 1) (λgh=>v) 31 47 7 (λgh=>rJ ol) (λgh=>[[Vt g.name,Vi x.key.k,Vi x.key.n,.string x.key.s,Vi av.k,Vi av.n,.string av.s]]) (.tmp 22) (.tmp 35) (λgh=>(wJ (gh 13))) 1 1 0 13 (λgh hh=>Cells hh (wJ (gh 13)) 0 [Vt g.name,Vi x.key.k,Vi x.key.n,.string x.key.s,Vi av.k,Vi av.n,.string av.s]) (λ_ _ c=>c) Tryz.underlying31 (zv:=.agg #[Ve,Vi 0,Vi 0,Ve,Vi 0,Vi 0,Ve]) (bytes:=80) (λ_=>by constructor <;> (simp; omega))) ?_
     trivial
    rintro b19 v36 W20 S21 ⟨f18,-⟩;replace f18:Cells W20 b19 0 [Vt g.name,Vi x.key.k,Vi x.key.n,.string x.key.s,Vi av.k,Vi av.n,.string av.s]:=f18;refine xQ f18 ?_;refine go0 6 [] [(37,Vi (IntKind.i64.wrap ((k:Int) + 1)),Vi ((k:Int) + 1))] ?_ (hc:=(Aj (jJ (by omega) (by omega)) (trivial)));refine cV [(1,Vp b1),(7,.slice (some ⟨b4,o5,none⟩) n c2),(8,Vi (n:Int)),(3,sL v36),(9,Vi ((k:Int) + 1))] [.row (sL v36) 47 7 ((rJ ol)++[[Vt g.name,Vi x.key.k,Vi x.key.n,.string x.key.s,Vi av.k,Vi av.n,.string av.s]]),.box b1 [.slice (some ⟨b15,o16,none⟩) n c,sL (agJ 1 w),Vi E.pol.t,Vi E.pol.b,Vi E.pol.c,sL (agJ 2 w),.slice (some ⟨b4,o5,none⟩) n c2,sL (agJ 4 w),Vi E.now,Vi E.last]] [] ?_;exact nV (k + 1) (λX q=>⟨W20,sL v36,ol++[⟨g.name,x.key,av⟩],q _ _ _ _ (aZ (by rw [anRows_snoc']; try rfl)),(S3.trans S21),by omega,hsk⟩) (by omega)
   ·skip;rw [Bj (λq=>q.elim s2 s3),Lv] at hsk
    refine yQ (t:=x.st == 3) (Lj.2 s3) ?_;refine go0 7 [] [(37,Vi (IntKind.i64.wrap ((k:Int) + 1)),Vi ((k:Int) + 1))] ?_ (hc:=(Aj (jJ (by omega) (by omega)) (trivial)));exact nV (k + 1) (λX q=>⟨W2,v,ol,q _ _ _ _ ⟨rfl,by kernel_rfl⟩,S3,by omega,hsk⟩) (by omega)
 ·skip;rw [hke,hend] at ho
  refine zQ 0 (v:=v) (e:=47) (kk:=7) (l:=rJ ol) ?_; intro Ar cr hE_v hc_v hm_v;rw [show (rJ ol).length=ol.length from by first | omega | (simp; done) | (simp; omega)] at hE_v hc_v;rw [hE_v];refine yQ (t:=decide ((k:Int) < (n:Int))) (Jj (by omega)) ?_;refine go0 2 [] [] ?_;refine dV ?_;refine go0 9 [] [] ?_;refine cV [(2,.slice Ar ol.length cr)] [.row (.slice Ar ol.length cr) 47 7 (rJ ol),.box b1 [.slice A n c,sL (agJ 1 w),Vi E.pol.t,Vi E.pol.b,Vi E.pol.c,sL (agJ 2 w),.slice A2 n c2,sL (agJ 4 w),Vi E.now,Vi E.last]] [] ?_;refine hQ.toJ [.slice Ar ol.length cr] [] (λa w hJ=>?_);have fr:=hJ.j.rowOut0 (v:=.slice Ar ol.length cr) (e:=47) (k:=7) (l:=rJ ol) 0 (by kernel_rfl) rfl;exact ⟨.slice Ar ol.length cr,rfl,by rw [ho]; exact fr⟩
theorem safe_any (E:Eg) (ρ:List Int) (lv:Nat -> Nat) (hok:EgOk E ρ lv) (hse:Settled E ρ) (w:Value) (h:Vw) (hE:IsEng h w E):C0 Tryz.prog 26 #[.agg #[sL (agJ 0 w),sL (agJ 1 w),Vi E.pol.t,Vi E.pol.b,Vi E.pol.c,sL (agJ 2 w),sL (agJ 3 w),sL (agJ 4 w),Vi E.now,Vi E.last]] h (λr _=>r=.bool true):=by
 have few:=hok.fm.fields.few;have one:=hok.one;have hO:=λH q=>oracleOf_any E ρ lv hok w H q;have hM:=safe_orc hok hse;have hoh:=orcC_has hok.calls;have hol:=orcC_len (fs:=E.fm.fields) (cs:=E.calls);have hva:=(settled_all hok hse).2;have hvl:=hok.vlen;obtain ⟨vs,A,c,e0,-,-,-,-,-,-⟩:=gQ hE.form.fields;obtain ⟨us,ws,B,d,e1,-,-,-,-,-,-⟩:=wX hE.form.pages;have hfm:=hE.form;rw [e0,e1] at hfm hO ⊢;have hAw:∀ so H,IsForm H (.slice A E.fm.fields.length c) (.slice B E.fm.pages.length d) E.fm -> RS H 7 (sL (agJ 2 w)) (cQ E.inp) -> RS H 7 so (rJ (mX E.fm.fields E.calls)) -> C0 Tryz.prog 60 #[.agg #[.slice A E.fm.fields.length c,.slice B E.fm.pages.length d],sL (agJ 2 w),so] H (λr h'=>∃ u,r=.tuple #[.slice (sA u) E.fm.fields.length (sC u),Vi 0] /\ RS h' 3 (.slice (sA u) E.fm.fields.length (sC u)) (zZ (allW E.fm.fields E.inp (mX E.fm.fields E.calls) (nX ρ E.fm.fields.length)))):=λso H q1 q2 q3=>(whAll_any E.fm ρ lv A E.fm.fields.length c B E.fm.pages.length d E.inp (sL (agJ 2 w)) so (mX E.fm.fields E.calls) H hok.fm q1 rfl one q2 (by have:=hok.li; omega) hok.ki hok.ti q3 (by omega) hoh (λH g1 g2=>whMay_any E.fm.fields hok.fm.fields (mX E.fm.fields E.calls) hM A E.fm.fields.length c B E.fm.pages.length d so H g1.fields rfl g2 (by omega))).mono λr h' _=>by
  rintro ⟨A',c',rfl,q⟩;exact ⟨.slice A' E.fm.fields.length c',rfl,q⟩
 rw [<- hva] at hAw;have hEq:=λv u H q1 q2=>c_equalVl (h:=H) (v:=v) (v':=u) (l:=E.vals) q1 q2 (by omega);generalize mX E.fm.fields E.calls=orc at *;generalize hn:E.fm.fields.length=n at *;generalize hm:E.fm.pages.length=m at *;refine wQ Tryz.func26 (c:=Tryz.f26.body.getD .skip) (N:=23) ?_;intro hbx hbad Q hQ;refine go1 7 [.own] [] ?_;intro b1;refine lV 12 0 [.pu,.ld 0 0,.pu,.ld 0 5,.ld 0 0,.f (λgh=>sL (gh 5)) (λgh hh=>RS hh 7 (sL (gh 5)) (rJ orc)),.f (λgh=>.tuple #[.slice (sA (gh 6)) n (sC (gh 6)),Vi 0]) (λgh hh=>RS hh 3 (.slice (sA (gh 6)) n (sC (gh 6))) (zZ E.vals)),.pu,.pu,.pu,.pu,.pu] [(5,false),(6,false)] (Aj (λ_ _ _ s c=>c.sees s) (Aj (λ_ _ _ s c=>c.sees s) (trivial))) ?_ ?_
 ·intro R hT hA hmono;refine Aj (gY hT hA hmono ⟨λ_ _=>by kernel_rfl,λ_ _=>by kernel_rfl,λ_ _=>by kernel_rfl⟩ 11 (λu=>sL u) [4] 5 61 (λgh=>#[.agg #[.slice A n c,.slice B m d,Vi E.pol.t,Vi E.pol.b,Vi E.pol.c,sL (agJ 2 w),sL (agJ 3 w),sL (agJ 4 w),Vi E.now,Vi E.last]]) (λgh H sH fH lent=>C0.facts (R:=R) (x:=gh) (i:=5) (n:=0) (F:=(λu=>sL u)) (G:=λu hh=>RS hh 7 (sL u) (rJ orc)) (f:=λgh hh=>RS hh 7 (sL (gh 5)) (rJ orc)) (hO _ (hE.sees sH)) (by kernel_rfl) (by kernel_rfl) (λ_ _ r=>r))) ?_;refine Aj (gY hT hA hmono ⟨λ_ _=>by kernel_rfl,λ_ _=>by kernel_rfl,λ_ _=>by kernel_rfl⟩ 12 (λu=>.tuple #[.slice (sA u) n (sC u),Vi 0]) [1,3,5] 6 60 (λgh=>#[.agg #[.slice A n c,.slice B m d],sL (agJ 2 w),sL (gh 5)]) (λgh H sH fH lent=>C0.facts (R:=R) (x:=gh) (i:=6) (n:=1) (F:=(λu=>.tuple #[.slice (sA u) n (sC u),Vi 0])) (G:=λu hh=>RS hh 3 (.slice (sA u) n (sC u)) (zZ E.vals)) (f:=λgh hh=>RS hh 3 (.slice (sA (gh 6)) n (sC (gh 6))) (zZ E.vals)) (hAw _ _ (hfm.sees sH) ((hE.sees sH)).inp (fH 0 _ rfl (by kernel_rfl))) (by kernel_rfl) (by kernel_rfl) (λ_ _ r=>r))) ?_
  trivial
 rintro u11 u12 W2 S3 ⟨f11,f12,-⟩;replace f11:RS W2 7 (sL u11) (rJ orc):=f11;replace f12:RS W2 3 (.slice (sA u12) n (sC u12)) (zZ E.vals):=f12;refine go0 15 [.b 0 7,.cl 36 #[.slice (sA u12) n (sC u12),sL (agJ 4 w)] (.bool true)] [] ?_ (ho:=(Aj (λH sH=>hEq _ _ _ (f12.sees sH) ((hE.sees (S3.trans sH))).vals) (trivial)));refine hQ.to [.bool true] (λH sH=>?_);exact rfl
end Go.Proofs.YthplkompdehjlaaGreat
