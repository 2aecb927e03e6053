/-
  The laws' Oracle, in plain words: all keys that come up, answered. Such answers may be.
-/
import Derived.Test.YtmoahpojchndiaaGreatZL38
import Derived.Test.YtmoahpojchndiaaGreatZL47
import Derived.Test.YtmoahpojchndiaaGreatZL46
namespace Go.Proofs.YtmoahpojchndiaaGreat
open Go.RowKit
set_option linter.unusedVariables false
def InpTy (fs:List Fd) (inp:Env):Prop:=∀ (i:Nat) (f:Fd),fs[i]?=some f→f.kind=1→∀ p∈inp,p.1=f.name→p.2.k=f.ty
end Go.Proofs.YtmoahpojchndiaaGreat
namespace Go.Proofs.YtmoahpojchndiaaGreat
open Go.RowKit
set_option linter.unusedVariables false
structure Wh (fs:List Fd) (inp:Env) (ρ:List Int) (lv:Nat→Nat) (os:List Nat):Prop where
 ok:OkFs fs
 known:∀ p∈inp,p.2.known
 ty:InpTy fs inp
 ord:Ordd fs ρ lv os
theorem hd_n4 {env:Env} {l:List Ex} (h:∀ y∈l,(nK env y).k≠4) (i:Nat):(hdV (oK env l) i).k≠4:=by
 unfold hdV
 rw [List.getD_eq_getElem?_getD,pK,List.getElem?_map]
 cases e:l[i]? with
 | none=>show (0:Int)≠4; decide
 | some y=>exact h y (List.mem_of_getElem? e)
theorem first_n4 {v:Vl} (h:v.k≠4):(fQ v).1.k≠4:=by
 unfold fQ
 split
 ·show (5:Int)≠4; decide
 ·exact h
theorem bool_n4 {v:Vl} (h:v.k≠4):(xJ v).k≠4:=by
 unfold xJ
 split
 ·show (5:Int)≠4; decide
 ·exact h
theorem apply_n4 (op:Int) (l:List Vl):(nJ op l).k≠4:=by
 unfold nJ joinV nrV truthV wK
 repeat' split
 all_goals (first | (show (5:Int)≠4; decide) | (show (2:Int)≠4; decide) | (show (1:Int)≠4; decide) | (show (3:Int)≠4; decide))
theorem ev_n4 {env:Env} {x:Ex} (hw:WfE x) (hr:∀ s∈nX x,∀ v,env.get s=some v→v.k≠4):(nK env x).k≠4:=by
 revert hw hr
 refine ex_ind (p:=fun x=>WfE x→(∀ s∈nX x,∀ v,env.get s=some v→v.k≠4)→(nK env x).k≠4) (fun x ih hw hr=>?_) x
 rw [oX] at hr
 have ha:∀ y∈x.args,(nK env y).k≠4:=fun y hy=>ih y hy (hw.list.get hy) fun s hs=>hr s (List.mem_append_right _ (mem_refsL.2 ⟨y,hy,hs⟩))
 rw [evalE_eq]
 split
 ·rename_i h1
  have hk:qJ x.k x.n x.s:=by
   rcases hw.top with t | t | t
   ·exact t.2.1
   ·omega
   ·omega
  show x.k≠4
  unfold qJ at hk
  omega
 ·split
  ·rename_i h2
   cases g:env.get x.nm with
   | none=>show (5:Int)≠4; decide
   | some v=>exact hr x.nm (by rw [if_pos h2]; simp) v g
  ·split
   ·split
    ·exact first_n4 (hd_n4 ha 0)
    ·exact bool_n4 (hd_n4 ha 1)
   ·split
    ·split
     ·exact first_n4 (hd_n4 ha 0)
     ·split
      ·exact hd_n4 ha 1
      ·exact hd_n4 ha 2
    ·split
     ·rename_i u hu
      rcases (lack_some hu (fun w e=>by cases e)).2 with q | q
      ·cases q
      ·rw [pK] at q
       obtain ⟨y,hy,rfl⟩:=List.mem_map.1 q
       exact ha y hy
     ·exact apply_n4 _ _
section
variable {fs:List Fd} {inp:Env} {ρ:List Int} {lv:Nat→Nat} {os:List Nat}
open Classical in
end
end Go.Proofs.YtmoahpojchndiaaGreat
namespace Go.Proofs.YtmoahpojchndiaaGreat
open Go.RowKit
set_option linter.unusedVariables false
theorem take_notin {os:List Nat} (hn:os.Nodup) {t i:Nat} (ht:os[t]?=some i):i ∉ os.take t:=fun q=>by
 obtain ⟨htl,-⟩:=List.getElem?_eq_some_iff.1 ht
 obtain ⟨u,hu⟩:=List.getElem?_of_mem q
 have hut:u < t:=by
  rcases Nat.lt_or_ge u t with q | q
  ·exact q
  ·rw [List.getElem?_eq_none (by rw [List.length_take]; omega)] at hu; cases hu
 rw [List.getElem?_take_of_lt hut] at hu
 have:=(List.getElem?_inj (by omega) hn).1 (hu.trans ht.symm)
 omega
theorem set_call {E:Eg} {ρ:List Int} {lv:Nat→Nat} (hok:EgOk E ρ lv) (hl:(gY E ρ).last≤1073741810) {i:Nat} {f:Fd} {c:Cl} (hf:E.fm.fields[i]?=some f) (h3:f.kind=3) (hc:E.calls[i]?=some c) :
  ∃ id,E.last < id∧(iY E ρ).calls[i]?=some (vY E.pol id E.now (nK (fcs E.fm.fields (iY E ρ).vals) f.src) c).1:=by
 have few:=hok.fm.fields.few
 have one:=hok.one
 have l1:=hok.l1
 have hod:Ordd E.fm.fields ρ lv (uW ρ E.fm.fields.length):=vW hok.fm.rank (by omega)
 have hnd:=ordL_nodup hod
 have hil:=(List.getElem?_eq_some_iff.1 hf).1
 obtain ⟨t,ht⟩:=List.getElem?_of_mem (hod.perm.mem_iff.2 (List.mem_range.2 hil))
 have htl:=(List.getElem?_eq_some_iff.1 ht).1
 have hok':=settE_ok hok hl
 have hse':=settE_settled hok
 obtain ⟨hkn,hv⟩:=settled_all hok' hse'
 have ev:=(ev_turn hok'.fm.fields hok'.ki (orcC_has hok'.calls) hod ht hf (by omega)).1
 have hkn:=hkn t (by show t≤(uW ρ E.fm.fields.length).length; omega)
 have ev:nK (runW E.fm.fields E.inp (orcC E.fm.fields (iY E ρ).calls) ((uW ρ E.fm.fields.length).take t)).2 f.src=nK (fcs E.fm.fields (iY E ρ).vals) f.src:=by rw [hv]; exact ev
 have hfx:=runS_fix E.fm.fields E.pol E.now E.inp ⟨E.calls,E.vals,[],E.last,[]⟩ hnd hok.calls.len hok.vlen rfl E.now (gY E ρ).last t (by omega)
 have hkn:(runW E.fm.fields E.inp (orcC E.fm.fields (iY E ρ).calls) ((uW ρ E.fm.fields.length).take t)).2=(wX E.fm.fields E.pol E.now E.inp ⟨E.calls,E.vals,[],E.last,[]⟩ ((uW ρ E.fm.fields.length).take t)).kn:=by
  have hk2:=congrArg Sst.kn hfx
  exact hkn.trans hk2
 rw [hkn] at ev
 have I:=runS_inv (s0:=⟨E.calls,E.vals,[],E.last,[]⟩) (os:=uW ρ E.fm.fields.length) hok.pol hok.fm.fields hok.ki hok.n0 hok.n1 hok.calls hok.vlen rfl hok.l0 (by rw [hod.len]; show E.last + _≤_; omega) (fun i q=>hod.lt q) t (by omega)
 have hfin:=(run_final E.fm.fields E.pol E.now E.inp ⟨E.calls,E.vals,[],E.last,[]⟩ hnd ht).1
 rw [runS_at _ _ _ _ _ _ t i ht] at hfin
 have hsm:=I.same i (take_notin hnd ht)
 have hlo:=I.lo
 have hlen:=I.calls.len
 simp only at hsm hlo
 generalize wX E.fm.fields E.pol E.now E.inp ⟨E.calls,E.vals,[],E.last,[]⟩ ((uW ρ E.fm.fields.length).take t)=s at *
 rw [hc] at hsm
 rw [stepS_look hf h3 hsm ev rfl] at hfin
 simp only at hfin
 rw [List.getElem?_set_self (by omega)] at hfin
 exact ⟨s.last + 1,by omega,hfin⟩
def lostE (ρ:List Int) (dt:Int) (E:Eg):Nat→Eg
 | 0=>E
 | m + 1=>iY (tY (lostE ρ dt E m) dt) ρ
structure Lst (fm:Fm) (p:Pol) (ρ:List Int) (lv:Nat→Nat) (m:Nat) (E:Eg):Prop where
 ok:EgOk E ρ lv
 se:Settled E ρ
 efm:E.fm=fm
 epol:E.pol=p
 inp:E.inp=[]
 now:E.now≤p.c * m
 last:E.last≤14 + 14 * m
 soon:∀ c∈E.calls,c.st=1→c.nx≤E.now + p.c
 idle:∀ (i:Nat) (f:Fd) (c:Cl),fm.fields[i]?=some f→f.kind≠3→E.calls[i]?=some c→c=clZ
theorem turn_soon {p:Pol} (hp:p.ok) {id now:Int} {key:Vl} {c:Cl} (h:c.st=1→c.nx≤now + p.c):(vY p id now key c).1.st=1→(vY p id now key c).1.nx≤now + p.c:=by
 by_cases hk:key.k≤3
 ·by_cases e:c.st≠0∧eqB c.key key=true
  ·rw [wY hk e.1 e.2]; exact h
  ·rw [turn_new hk e]
   intro _
   have:=hp.bc
   show now + p.b≤now + p.c
   omega
 ·rw [turn_no hk]
  exact fun q=>absurd (show (0:Int)=1 from q) (by decide)
theorem wake_soon {p:Pol} {now:Int} {c:Cl} (h0:0≤p.c) (h:c.st=1→c.nx≤now):(yY p now c).1.st=1→(yY p now c).1.nx≤now + p.c:=by
 by_cases q:c.st≠1∨now < c.nx
 ·rw [aZ q]
  intro h1
  have:=h h1
  show c.nx≤_
  omega
 ·by_cases q2:c.tr=p.t
  ·rw [wake_gives q q2]
   exact fun q=>absurd (show (3:Int)=1 from q) (by decide)
  ·rw [wake_again q q2]
   intro _
   have:=gapV_hi (b:=p.b) (c:=p.c) (n:=c.tr + 1)
   show now + gapV p.b p.c (c.tr + 1)≤now + p.c
   omega
theorem lost_calls {fm:Fm} {p:Pol} {ρ:List Int} {lv:Nat→Nat} {m:Nat} {E:Eg} (h:Lst fm p ρ lv m E) (hm:m≤100) (hp:p.ok) {i:Nat} {f:Fd} {c:Cl} (hf:fm.fields[i]?=some f) (hc:E.calls[i]?=some c) :
  (f.kind=3→∃ id,E.last < id∧(iY (tY E p.c) ρ).calls[i]?=some (vY p id (E.now + p.c) (nK (fcs fm.fields (iY (tY E p.c) ρ).vals) f.src) (yY p (E.now + p.c) c).1).1)∧(f.kind≠3→(iY (tY E p.c) ρ).calls[i]?=some clZ):=by
 have hcm:=hp.cm
 have hbc:=hp.bc
 have hb1:=hp.b1
 have hn:=h.now
 have hl:=h.last
 have hnm:p.c * (m:Int)≤1000 * 100:=Int.mul_le_mul hcm (by omega) (by omega) (by omega)
 have h1:=tickE_ok h.ok (n:=p.c) (by omega) (by omega)
 have R:=setE_run h1
 have few:=h.ok.fm.fields.few
 have one:=h.ok.one
 have hod:Ordd E.fm.fields ρ lv (uW ρ E.fm.fields.length):=vW h.ok.fm.rank (by omega)
 have hi:=R.hi
 have e1:(uW ρ (tY E p.c).fm.fields.length).length=E.fm.fields.length:=hod.len
 rw [e1] at hi
 have e2:(tY E p.c).last=E.last:=rfl
 simp only [e2] at hi
 have hc':(tY E p.c).calls[i]?=some (yY p (E.now + p.c) c).1:=by
  show (zY E.pol (E.now + p.c) E.calls)[i]?=_
  unfold zY
  rw [List.getElem?_map,hc,h.epol]; rfl
 have hf':(tY E p.c).fm.fields[i]?=some f:=by show E.fm.fields[i]?=some f; rw [h.efm]; exact hf
 refine ⟨fun h3=>?_,fun h3=>?_⟩
 ·obtain ⟨id,a,b⟩:=set_call h1 (by omega) hf' h3 hc'
  have ep:(tY E p.c).pol=p:=h.epol
  have ef:(tY E p.c).fm=fm:=h.efm
  rw [ep,ef] at b
  exact ⟨id,a,b⟩
 ·have R2:=(settE_ok h1 (by omega)).calls.at_ i f
  obtain ⟨d,hd⟩:∃ d,(iY (tY E p.c) ρ).calls[i]?=some d:=⟨_,List.getElem?_eq_getElem (by rw [(settE_ok h1 (by omega)).calls.len]; exact (List.getElem?_eq_some_iff.1 hf').1)⟩
  obtain ⟨d1,d2,-⟩:=R2 d hf' hd
  rw [hd]
  refine congrArg some (d1.idle ?_)
  by_cases q:d.st=0
  ·exact q
  ·exact absurd (d2 q).1 h3
theorem Lst.step {fm:Fm} {p:Pol} {ρ:List Int} {lv:Nat→Nat} {m:Nat} {E:Eg} (h:Lst fm p ρ lv m E) (hm:m≤100) (hp:p.ok):Lst fm p ρ lv (m + 1) (iY (tY E p.c) ρ):=by
 have hcm:=hp.cm
 have hbc:=hp.bc
 have hb1:=hp.b1
 have hn:=h.now
 have hl:=h.last
 have hnm:p.c * (m:Int)≤1000 * 100:=Int.mul_le_mul hcm (by omega) (by omega) (by omega)
 have h1:=tickE_ok h.ok (n:=p.c) (by omega) (by omega)
 have R:=setE_run h1
 have few:=h.ok.fm.fields.few
 have one:=h.ok.one
 have hod:Ordd E.fm.fields ρ lv (uW ρ E.fm.fields.length):=vW h.ok.fm.rank (by omega)
 have hi:=R.hi
 have e1:(uW ρ (tY E p.c).fm.fields.length).length=E.fm.fields.length:=hod.len
 rw [e1] at hi
 have e2:(tY E p.c).last=E.last:=rfl
 simp only [e2] at hi
 have e3:p.c * ((m + 1:Nat):Int)=p.c * (m:Int) + p.c:=by rw [Int.natCast_add,Int.mul_add]; simp
 have hok':=settE_ok h1 (by omega)
 refine ⟨hok',settE_settled h1,h.efm,h.epol,h.inp,by show E.now + p.c≤_; omega,by show (gY (tY E p.c) ρ).last≤_; omega,fun c hc hs=>?_,fun i f c hf h3 hc=>?_⟩
 ·obtain ⟨i,hi⟩:=List.getElem?_of_mem hc
  have hil:=(List.getElem?_eq_some_iff.1 hi).1
  rw [hok'.calls.len] at hil
  have hil:i < E.fm.fields.length:=hil
  obtain ⟨f,hf⟩:∃ f,fm.fields[i]?=some f:=⟨_,List.getElem?_eq_getElem (by rw [← h.efm]; exact hil)⟩
  obtain ⟨d,hd⟩:∃ d,E.calls[i]?=some d:=⟨_,List.getElem?_eq_getElem (by rw [h.ok.calls.len]; exact hil)⟩
  obtain ⟨q1,q2⟩:=lost_calls h hm hp hf hd
  by_cases h3:f.kind=3
  ·obtain ⟨id,-,e⟩:=q1 h3
   rw [hi] at e
   obtain rfl:=Option.some.inj e
   exact turn_soon hp (wake_soon (by omega) (h.soon d (List.mem_of_getElem? hd))) hs
  ·rw [hi] at q2
   rw [Option.some.inj (q2 h3)] at hs
   exact absurd (show (0:Int)=1 from hs) (by decide)
 ·obtain ⟨d,hd⟩:∃ d,E.calls[i]?=some d:=⟨_,List.getElem?_eq_getElem (by rw [h.ok.calls.len,h.efm]; exact (List.getElem?_eq_some_iff.1 hf).1)⟩
  have q:=(lost_calls h hm hp hf hd).2 h3
  rw [hc] at q
  exact Option.some.inj q
theorem wake_keys {p:Pol} {now:Int} {c:Cl} (h:c.st≠0):(yY p now c).1.st≠0∧(yY p now c).1.key=c.key:=by
 by_cases q:c.st≠1∨now < c.nx
 ·rw [aZ q]; exact ⟨h,rfl⟩
 ·by_cases q2:c.tr=p.t
  ·rw [wake_gives q q2]; exact ⟨by show (3:Int)≠0; decide,rfl⟩
  ·rw [wake_again q q2]; exact ⟨h,rfl⟩
section
variable {fm:Fm} {p:Pol} {ρ:List Int} {lv:Nat→Nat} {E:Nat→Eg}
def keyM (fm:Fm) (E:Nat→Eg) (f:Fd) (m:Nat):Vl:=nK (fcs fm.fields (E m).vals) f.src
theorem key_same (hL:∀ m,m≤100→Lst fm p ρ lv m (E m)) {d:Nat} (hA:∀ (i:Nat) (f:Fd),fm.fields[i]?=some f→lv i < d→∀ m,p.t.toNat * d≤m→m + 1≤100→(E (m + 1)).vals[i]?=(E m).vals[i]?) {i:Nat} {f:Fd} (hf:fm.fields[i]?=some f) (hd:lv i≤d) (hk:f.kind≠1) {m:Nat} (h0:p.t.toNat * d≤m) (hm:m + 1≤100):keyM fm E f (m + 1)=keyM fm E f m:=by
 have h1:=hL m (by omega)
 have h2:=hL (m + 1) hm
 have hok:=h1.ok.fm
 rw [h1.efm] at hok
 refine eval_local fun s hs=>?_
 obtain ⟨j,g,g1,g2,g3⟩:=refs_need hok.fields hf hk hs
 have hl:=(hok.rank.low i (by rw [gW]; exact (List.getElem?_eq_some_iff.1 hf).1) j g3).2
 have e:=hA j g g1 (by omega) m h0 hm
 obtain ⟨a,ha⟩:∃ a,(E m).vals[j]?=some a:=⟨_,List.getElem?_eq_getElem (by rw [h1.ok.vlen,h1.efm]; exact (List.getElem?_eq_some_iff.1 g1).1)⟩
 rw [← g2,fcs_get hok.fields.nodup g1 (e.trans ha),fcs_get hok.fields.nodup g1 ha]
theorem lost_tick (hL:∀ m,m≤100→Lst fm p ρ lv m (E m)) (hE:∀ m,E (m + 1)=iY (tY (E m) p.c) ρ) (hp:p.ok) {i:Nat} {f:Fd} {c:Cl} (hf:fm.fields[i]?=some f) (h3:f.kind=3) {m:Nat} (hm:m + 1≤100) (hk:keyM fm E f (m + 1)=keyM fm E f m) (hc:(E m).calls[i]?=some c) :
  ((E (m + 1)).calls[i]?=some clZ∧c=clZ)∨(c.st≠0∧(E (m + 1)).calls[i]?=some (yY p ((E m).now + p.c) c).1):=by
 have h1:=hL m (by omega)
 obtain ⟨id,-,e⟩:=(lost_calls h1 (by omega) hp hf hc).1 h3
 have hS:=(settled_sol h1.ok h1.se).call i f c (by rw [h1.efm]; exact hf) h3 hc
 rw [h1.efm] at hS
 obtain ⟨s1,s2,-⟩:=hS
 rw [← hE m] at e
 have e:(E (m + 1)).calls[i]?=some (vY p id ((E m).now + p.c) (keyM fm E f (m + 1)) (yY p ((E m).now + p.c) c).1).1:=e
 rw [hk] at e
 by_cases q:(keyM fm E f m).k≤3
 ·obtain ⟨a,b⟩:=s1 q
  obtain ⟨w1,w2⟩:=wake_keys (p:=p) (now:=(E m).now + p.c) a
  rw [wY q w1 (eqB_iff.2 (w2.trans b))] at e
  exact .inr ⟨a,e⟩
 ·have z:=s2 q
  rw [turn_no q] at e
  exact .inl ⟨e,z⟩
theorem lost_level (hL:∀ m,m≤100→Lst fm p ρ lv m (E m)) (hE:∀ m,E (m + 1)=iY (tY (E m) p.c) ρ) (hp:p.ok):∀ d:Nat,
  (∀ (i:Nat) (f:Fd),fm.fields[i]?=some f→lv i < d→∀ m,p.t.toNat * d≤m→m + 1≤100→(E (m + 1)).vals[i]?=(E m).vals[i]?) ∧
  (∀ (i:Nat) (f:Fd),fm.fields[i]?=some f→lv i < d→∀ m,p.t.toNat * d≤m→m≤100→∀ c,(E m).calls[i]?=some c→c.st≠1)
 | 0=>⟨fun i f _ h=>absurd h (Nat.not_lt_zero _),fun i f _ h=>absurd h (Nat.not_lt_zero _)⟩
 | d + 1=>by
  obtain ⟨hA,hB⟩:=lost_level hL hE hp d
  have ht1:=hp.t1
  have hmul:p.t.toNat * (d + 1)=p.t.toNat * d + p.t.toNat:=Nat.mul_succ _ _
  have hP:∀ (i:Nat) (f:Fd),fm.fields[i]?=some f→lv i=d→f.kind=3→∀ k,p.t.toNat * d + k≤100→∀ c,(E (p.t.toNat * d + k)).calls[i]?=some c→c.st=1→1 + (k:Int)≤c.tr:=fun i f hf hd h3 k=>by
   induction k with
   | zero =>
    intro hm c hc hs
    have h1:=hL _ hm
    have:=((h1.ok.calls.at_ i f c (by rw [h1.efm]; exact hf) hc).1.live (by omega)).t1
    simpa using this
   | succ k ih =>
    intro hm c' hc' hs
    have h1:=hL (p.t.toNat * d + k) (by omega)
    obtain ⟨c,hc⟩:∃ c,(E (p.t.toNat * d + k)).calls[i]?=some c:=⟨_,List.getElem?_eq_getElem (by rw [h1.ok.calls.len,h1.efm]; exact (List.getElem?_eq_some_iff.1 hf).1)⟩
    have hk:=key_same hL hA hf (by omega) (by omega) (m:=p.t.toNat * d + k) (by omega) (by omega)
    have hc':(E (p.t.toNat * d + k + 1)).calls[i]?=some c':=hc'
    rcases lost_tick hL hE hp hf h3 (by omega) hk hc with ⟨e,-⟩ | ⟨-,e⟩
    ·rw [hc'] at e
     rw [Option.some.inj e] at hs
     exact absurd (show (0:Int)=1 from hs) (by decide)
    ·rw [hc'] at e
     have e:=Option.some.inj e
     by_cases q:c.st≠1∨(E (p.t.toNat * d + k)).now + p.c < c.nx
     ·rw [aZ q] at e
      have e:c'=c:=e
      rw [e] at hs
      have:=h1.soon c (List.mem_of_getElem? hc) hs
      omega
     ·by_cases q2:c.tr=p.t
      ·rw [wake_gives q q2] at e
       rw [e] at hs
       exact absurd (show (3:Int)=1 from hs) (by decide)
      ·rw [wake_again q q2] at e
       have:=ih (by omega) c hc (by omega)
       rw [e]
       show 1 + ((k + 1:Nat):Int)≤c.tr + 1
       omega
  have hB':∀ (i:Nat) (f:Fd),fm.fields[i]?=some f→lv i < d + 1→∀ m,p.t.toNat * (d + 1)≤m→m≤100→∀ c,(E m).calls[i]?=some c→c.st≠1:=fun i f hf hd m h0 hm c hc hs=>by
   by_cases hd':lv i < d
   ·exact hB i f hf hd' m (by omega) hm c hc hs
   ·have h1:=hL m hm
    have h3:f.kind=3:=by
     by_cases q:f.kind=3
     ·exact q
     ·rw [h1.idle i f c hf q hc] at hs
      exact absurd (show (0:Int)=1 from hs) (by decide)
    obtain ⟨k,rfl⟩:∃ k,m=p.t.toNat * d + k:=⟨m - p.t.toNat * d,by omega⟩
    have:=hP i f hf (by omega) h3 k hm c hc hs
    have:=((h1.ok.calls.at_ i f c (by rw [h1.efm]; exact hf) hc).1.live (by omega)).t2
    rw [h1.epol] at this
    omega
  refine ⟨fun i f hf hd m h0 hm=>?_,hB'⟩
  by_cases hd':lv i < d
  ·exact hA i f hf hd' m (by omega) hm
  ·have h1:=hL m (by omega)
   have h2:=hL (m + 1) hm
   have S1:=settled_sol h1.ok h1.se
   have S2:=settled_sol h2.ok h2.se
   have hil:=(List.getElem?_eq_some_iff.1 hf).1
   have hf1:(E m).fm.fields[i]?=some f:=by rw [h1.efm]; exact hf
   have hf2:(E (m + 1)).fm.fields[i]?=some f:=by rw [h2.efm]; exact hf
   by_cases h3:f.kind=3
   ·obtain ⟨c,hc⟩:∃ c,(E m).calls[i]?=some c:=⟨_,List.getElem?_eq_getElem (by rw [h1.ok.calls.len,h1.efm]; exact hil)⟩
    obtain ⟨c',hc'⟩:∃ c,(E (m + 1)).calls[i]?=some c:=⟨_,List.getElem?_eq_getElem (by rw [h2.ok.calls.len,h2.efm]; exact hil)⟩
    have hk:=key_same hL hA hf (by omega) (by omega) (m:=m) (by omega) hm
    have v1:=(S1.call i f c hf1 h3 hc).2.2
    have v2:=(S2.call i f c' hf2 h3 hc').2.2
    rw [h1.efm] at v1
    rw [h2.efm] at v2
    have v1:(E m).vals[i]?=some (tV (keyM fm E f m) c):=v1
    have v2:(E (m + 1)).vals[i]?=some (tV (keyM fm E f (m + 1)) c'):=v2
    have hns:=hB' i f hf hd m h0 (by omega) c hc
    have ecc:c'=c:=by
     rcases lost_tick hL hE hp hf h3 hm hk hc with ⟨e,z⟩ | ⟨-,e⟩
     ·rw [hc'] at e
      rw [z]; exact Option.some.inj e
     ·rw [hc',aZ (.inl hns)] at e
      exact Option.some.inj e
    rw [v1,v2,hk,ecc]
   ·obtain ⟨x,hx⟩:∃ x,(E m).vals[i]?=some x:=⟨_,List.getElem?_eq_getElem (by rw [h1.ok.vlen,h1.efm]; exact hil)⟩
    obtain ⟨y,hy⟩:∃ x,(E (m + 1)).vals[i]?=some x:=⟨_,List.getElem?_eq_getElem (by rw [h2.ok.vlen,h2.efm]; exact hil)⟩
    have x1:=S1.sol.at_ i f x hf1 hx
    have y1:=S2.sol.at_ i f y hf2 hy
    rw [h1.efm,h1.inp] at x1
    rw [h2.efm,h2.inp] at y1
    rw [hx,hy,x1,y1]
    refine congrArg some ?_
    unfold nW
    by_cases k1:f.kind=1
    ·rw [if_pos k1,if_pos k1]
    ·rw [if_neg k1,if_neg k1,if_neg h3,if_neg h3]
     exact key_same hL hA hf (by omega) k1 (by omega) hm
end
theorem none_pending {E:Eg} {ρ:List Int} {lv:Nat→Nat} (hok:EgOk E ρ lv) (hse:Settled E ρ) (hn:∀ c∈E.calls,c.st≠1):∀ x∈E.vals,x.k≠4:=by
 have S:=settled_sol hok hse
 have key:∀ d (i:Nat) (x:Vl),lv i < d→E.vals[i]?=some x→x.k≠4:=fun d=>by
  induction d with
  | zero=>intro i x h; omega
  | succ d ih =>
   intro i x hd hx
   have hil:i < E.fm.fields.length:=by rw [← hok.vlen]; exact (List.getElem?_eq_some_iff.1 hx).1
   obtain ⟨f,hf⟩:∃ f,E.fm.fields[i]?=some f:=⟨_,List.getElem?_eq_getElem hil⟩
   have hF:=hok.fm.fields.each f (List.mem_of_getElem? hf)
   by_cases k1:f.kind=1
   ·rw [S.sol.at_ i f x hf hx]
    unfold nW
    rw [if_pos k1]
    have:=tell_ok hok.ki f.name hF.t1 hF.t3
    rcases this with ⟨e,-⟩ | ⟨e,-⟩ | ⟨e,-⟩ <;> omega
   ·have he:(nK (fcs E.fm.fields E.vals) f.src).k≠4:=ev_n4 (hF.wf k1).1 fun s hs v hv=>by
     obtain ⟨j,g,g1,g2,g3⟩:=refs_need hok.fm.fields hf k1 hs
     have hl:=(hok.fm.rank.low i (by rw [gW]; exact hil) j g3).2
     obtain ⟨a,ha⟩:∃ a,E.vals[j]?=some a:=⟨_,List.getElem?_eq_getElem (by rw [hok.vlen]; exact (List.getElem?_eq_some_iff.1 g1).1)⟩
     rw [← g2,fcs_get hok.fm.fields.nodup g1 ha] at hv
     rw [← Option.some.inj hv]
     exact ih j a (by omega) ha
    by_cases h3:f.kind=3
    ·obtain ⟨c,hc⟩:∃ c,E.calls[i]?=some c:=⟨_,List.getElem?_eq_getElem (by rw [hok.calls.len]; exact hil)⟩
     have v:=(S.call i f c hf h3 hc).2.2
     rw [hx] at v
     rw [Option.some.inj v]
     have hco:=(hok.calls.at_ i f c hf hc).1
     unfold tV
     by_cases s0:c.st=0
     ·rw [if_pos s0]; exact he
     ·rw [if_neg s0]
      have hb:=hco.live s0
      have s1:=hb.s1
      have s3:=hb.s3
      have:=hn c (List.mem_of_getElem? hc)
      unfold ansC
      by_cases s2:c.st=2
      ·rw [if_pos s2]
       rcases (hb.knw s2).1 with ⟨e,-⟩ | ⟨e,-⟩ | ⟨e,-⟩ <;> omega
      ·rw [if_neg s2,if_pos (by omega)]; show (5:Int)≠4; decide
    ·rw [S.sol.at_ i f x hf hx]
     unfold nW
     rw [if_neg k1,if_neg h3]
     exact he
 intro x hx
 obtain ⟨i,hi⟩:=List.getElem?_of_mem hx
 exact key (lv i + 1) i x (by omega) hi
theorem lost_done {fm:Fm} {p:Pol} {ρ:List Int} {lv:Nat→Nat} {E0:Eg} (h0:Lst fm p ρ lv 0 E0) (hp:p.ok):(∀ m,m≤100→Lst fm p ρ lv m (lostE ρ p.c E0 m))∧∀ m,p.t.toNat * fm.fields.length=m→m≤100→∀ c∈(lostE ρ p.c E0 m).calls,c.st≠1:=by
 have hL:∀ m,m≤100→Lst fm p ρ lv m (lostE ρ p.c E0 m):=fun m=>by
  induction m with
  | zero=>intro _; exact h0
  | succ m ih=>intro hm; exact (ih (by omega)).step (by omega) hp
 refine ⟨hL,fun m hm h1 c hc=>?_⟩
 obtain ⟨i,hi⟩:=List.getElem?_of_mem hc
 have hM:=hL m h1
 have hil:i < fm.fields.length:=by rw [← hM.efm,← hM.ok.calls.len]; exact (List.getElem?_eq_some_iff.1 hi).1
 obtain ⟨f,hf⟩:∃ f,fm.fields[i]?=some f:=⟨_,List.getElem?_eq_getElem hil⟩
 have hfew:=hM.ok.fm.rank.few i (by rw [gW,hM.efm]; exact hil)
 rw [gW,hM.efm] at hfew
 exact (lost_level (E:=lostE ρ p.c E0) hL (fun m=>rfl) hp fm.fields.length).2 i f hf hfew m (by omega) h1 c hi
end Go.Proofs.YtmoahpojchndiaaGreat
