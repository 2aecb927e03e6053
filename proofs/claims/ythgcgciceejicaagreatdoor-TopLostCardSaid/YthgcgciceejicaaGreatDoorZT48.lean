/-
  The laws' Oracle, in plain words: all keys that come up, answered. Such answers may be.
-/
import Derived.Test.YthgcgciceejicaaGreatDoorZT47
import Derived.Test.YthgcgciceejicaaGreatDoorZT46
namespace Go.Proofs.YthgcgciceejicaaGreatDoor
open Go.RowKit
set_option linter.unusedVariables false
def abcB:ByteArray:=⟨#[97,98,99,100,101,102,103,104,105]⟩
def ansN (f:Fd) (key:Vl):Int:=Int.tmod key.n 9 + 3 * (key.s.size:Int) + (f.name.size:Int)
def ansV (f:Fd) (key:Vl):Vl:=if f.ty=1 then ⟨1,ansN f key,⟨#[]⟩⟩ else if f.ty=2 then ⟨2,cJ (ansN f key) 2,⟨#[]⟩⟩ else ⟨3,0,f.name++abcB.extract 0 (cJ (ansN f key) 9).toNat⟩
def InpTy (fs:List Fd) (inp:Env):Prop:=∀ (i:Nat) (f:Fd),fs[i]?=some f -> f.kind=1 -> ∀ p∈inp,p.1=f.name -> p.2.k=f.ty
structure Wh (fs:List Fd) (inp:Env) (ρ:List Int) (lv:Nat -> Nat) (os:List Nat):Prop where
 ok:OkFs fs
 known:∀ p∈inp,p.2.known
 ty:InpTy fs inp
 ord:Ordd fs ρ lv os
theorem hd_n4 {env:Env} {l:List Ex} (h:∀ y∈l,(mK env y).k≠4) (i:Nat):(hdV (nK env l) i).k≠4:=by
 unfold hdV;rw [Uk,oK,Oj]
 cases e:l[i]? with
 | none=>show (0:Int)≠4; decide
 | some y=>exact h y (Ej e)
theorem first_n4 {v:Vl} (h:v.k≠4):(eQ v).1.k≠4:=by
 unfold eQ
 split
 ·show (5:Int)≠4; decide
 ·exact h
theorem bool_n4 {v:Vl} (h:v.k≠4):(wJ v).k≠4:=by
 unfold wJ
 split
 ·show (5:Int)≠4; decide
 ·exact h
theorem apply_n4 (op:Int) (l:List Vl):(lJ op l).k≠4:=by
 unfold lJ joinV nrV truthV uK
 repeat' split
 all_goals (first | (show (5:Int)≠4; decide) | (show (2:Int)≠4; decide) | (show (1:Int)≠4; decide) | (show (3:Int)≠4; decide))
theorem ev_n4 {env:Env} {x:Ex} (hw:WfE x) (hr:∀ s∈yX x,∀ v,env.get s=some v -> v.k≠4):(mK env x).k≠4:=by
 revert hw hr
 refine ex_ind (p:=λx=>WfE x -> (∀ s∈yX x,∀ v,env.get s=some v -> v.k≠4) -> (mK env x).k≠4) (λx ih hw hr=>?_) x;rw [zX] at hr;have ha:∀ y∈x.args,(mK env y).k≠4:=λy hy=>ih y hy (hw.list.get hy) λs hs=>hr s (Vj _ (mem_refsL.2 ⟨y,hy,hs⟩));rw [evalE_eq]
 split
 ·rename_i h1;have hk:pJ x.k x.n x.s:=by
   rcases hw.top with t | t | t
   ·exact t.2.1
   ·omega
   ·omega
  show x.k≠4;unfold pJ at hk;omega
 ·split
  ·rename_i h2
   cases g:env.get x.nm with
   | none=>show (5:Int)≠4; decide
   | some v=>exact hr x.nm (by rw [Cj h2]; simp) v g
  ·split
   ·split
    ·exact first_n4 (hd_n4 ha 0)
    ·exact bool_n4 (hd_n4 ha 1)
   ·split
    ·split
     ·exact first_n4 (hd_n4 ha 0)
     ·split
      ·exact hd_n4 ha 1
      ·exact hd_n4 ha 2
    ·split
     ·rename_i u hu;rcases (lack_some hu (λw e=>by cases e)).2 with q | q
      ·cases q
      ·rw [oK] at q;obtain ⟨y,hy,rfl⟩:=Rj.1 q;exact ha y hy
     ·exact apply_n4 _ _
section
variable {fs:List Fd} {inp:Env} {ρ:List Int} {lv:Nat -> Nat} {os:List Nat}
open Classical in
end
section
variable {P:Program} {C:Fx} {E:List (Nat × Value)} {B:List Ent} {F:List Fac} {h:Vw} {a:Act} {w w':World} {Q:Exit -> Act -> World -> Prop} {c0:Code} {p:List Nat} {n:Nat} {ks:List Kt}
end
def passB (p:Pg) (env:Env):Bool × Bool:=if p.skip.op=0 then (false,true) else ((mK env p.skip).n == 1,(mK env p.skip).k == 2)
def passAt (ps:List Pg) (env:Env) (j:Nat):Bool × Bool:=match ps[j]? with
 | some p=>passB p env
 | none=>(false,true)
def scanF (pass:Nat -> Bool × Bool):Nat -> Nat -> Option Nat
 | 0,j=>some j
 | k + 1,j=>if pass j=(true,true) then scanF pass k (j + 1) else if (pass j).2=true then some j else none
def nextE (E:Eg) (t:Nat):Option Nat:=match E.fm.pages[t]? with
 | some p=>if lackN E.fm.fields E.vals p.fields=[] then scanF (passAt E.fm.pages (fcs E.fm.fields E.vals)) (E.fm.pages.length - (t + 1)) (t + 1) else none
 | none=>none
structure Ps where
 E:Eg
 net:List Lt
 t:Nat
 path:List Int
abbrev pL (u:Value) (s:Ps):List Value:=[sL (agJ 0 u),sL (agJ 1 u),Vi s.E.pol.t,Vi s.E.pol.b,Vi s.E.pol.c,sL (agJ 2 u),sL (agJ 3 u),sL (agJ 4 u),Vi s.E.now,Vi s.E.last,sL (agJ 5 u),Vi (s.t:Int),sL (agJ 6 u),.bool ((s.t:Int) == (s.E.fm.pages.length:Int))]
structure Ev where
 kind:Int
 n:Int
 nm:ByteArray
 val:Vl
@[reducible] def Ev.cells (e:Ev):List Value:=[Vi e.kind,Vi e.n,.string e.nm,Vi e.val.k,Vi e.val.n,.string e.val.s]
def sndF (s:Ps) (E':Eg) (on more:List Lt):Int × Ps:=if on.length + more.length <= 24 then (0,{ s with E:=E',net:=on++more }) else (12,s)
theorem snd_yes {s:Ps} {E':Eg} {on more:List Lt} (h:on.length + more.length <= 24):sndF s E' on more=(0,{ s with E:=E',net:=on++more }):=Cj h
theorem snd_no {s:Ps} {E':Eg} {on more:List Lt} (h:¬ on.length + more.length <= 24):sndF s E' on more=(12,s):=Bj h
def fdX (E:Eg) (nm:ByteArray):Fd:=(E.fm.fields[(cQ E.fm.fields nm).toNat]?).getD ⟨⟨#[]⟩,0,0,zE⟩
def clX (E:Eg) (nm:ByteArray):Cl:=(E.calls[(cQ E.fm.fields nm).toNat]?).getD clZ
def hrdEX (E:Eg) (ρ:List Int) (x:Lt):Eg:=hrdE E ρ (cQ E.fm.fields x.nm).toNat (fdX E x.nm) x (clX E x.nm)
def hrdTX (E:Eg) (ρ:List Int) (x:Lt):List Lt:=hrdT E ρ (cQ E.fm.fields x.nm).toNat (fdX E x.nm) x (clX E x.nm)
theorem hrdX_at {E:Eg} {ρ:List Int} {x:Lt} {i:Nat} {f:Fd} {c:Cl} (hd:(E.fm.fields.map (λf:Fd=>f.name)).Nodup) (hf:E.fm.fields[i]?=some f) (hn:x.nm=f.name) (hc:E.calls[i]?=some c):hrdEX E ρ x=hrdE E ρ i f x c /\ hrdTX E ρ x=hrdT E ρ i f x c:=by
 have e:cQ E.fm.fields x.nm=(i:Int):=by rw [hn]; exact dQ hd hf
 unfold hrdEX hrdTX fdX clX;rw [e,Int.toNat_natCast,hf,hc];exact ⟨rfl,rfl⟩
def evF (ρ:List Int) (s:Ps) (e:Ev):Int × Ps :=
 if e.kind=1 then (if fZ s.E.fm.fields e.nm e.val.k=0 then sndF s (oY (tellE s.E e.nm e.val) ρ) s.net (nY (tellE s.E e.nm e.val) ρ).out else (fZ s.E.fm.fields e.nm e.val.k,s))
 else if e.kind=2 then sndF s (oY (dZ s.E e.n) ρ) s.net (tickT s.E e.n++(nY (dZ s.E e.n) ρ).out)
 else if e.kind=3 then (match s.net[e.n.toNat]? with
  | none=>(5,s)
  | some x=>if x.ans.k≠0 then (2,s) else (0,{ s with net:=s.net.set e.n.toNat ⟨x.nm,x.id,x.key,e.val⟩ }))
 else if e.kind=4 then (if e.n.toNat < s.net.length then (0,{ s with net:=s.net.eraseIdx e.n.toNat }) else (5,s))
 else if e.kind=5 then (match s.net[e.n.toNat]? with
  | none=>(5,s)
  | some x=>if s.net.length=24 then (12,s) else (0,{ s with net:=s.net.take e.n.toNat++x :: s.net.drop e.n.toNat }))
 else if e.kind=6 then (match s.net[e.n.toNat]? with
  | none=>(5,s)
  | some x=>if x.ans.k=0 then (2,s) else sndF s (hrdEX s.E ρ x) (s.net.eraseIdx e.n.toNat) (hrdTX s.E ρ x))
 else if e.kind=7 then (match nextE s.E s.t with
  | some a=>(0,{ s with t:=a,path:=s.path++[(s.t:Int)] })
  | none=>(if s.t=s.E.fm.pages.length then 13 else 11,s))
 else (match s.path.getLast? with
  | some p=>(0,{ s with t:=p.toNat,path:=s.path.dropLast })
  | none=>(5,s))
structure LnOk (fs:List Fd) (last:Int) (x:Lt):Prop where
 at_:∃ (i:Nat) (f:Fd),fs[i]?=some f /\ x.nm=f.name /\ f.kind=3
 key:x.key.known
 i1:1 <= x.id
 i2:x.id <= last
 ans:x.ans=zV\/x.ans.known
structure EvOk (fs:List Fd) (e:Ev):Prop where
 k1:1 <= e.kind
 k8:e.kind <= 8
 n0:0 <= e.n
 n1:e.n <= 100
 tick:e.kind=2 -> 1 <= e.n
 val:e.kind=1\/e.kind=3 -> e.val.known
 told:fZ fs e.nm e.val.k=0\/fZ fs e.nm e.val.k=2\/e.kind≠1
structure PsOk (fm:Fm) (p:Pol) (ρ:List Int) (lv:Nat -> Nat) (k:Nat) (s:Ps):Prop where
 m:MOk fm p ρ lv k s.E []
 net:s.net.length <= 24
 ltr:∀ x∈s.net,LnOk fm.fields s.E.last x
 tm:s.t <= fm.pages.length
 pk:PathOk (s.path++[(s.t:Int)]) fm.pages.length
 lp:s.path.length <= k
section
variable {fm:Fm} {p:Pol} {ρ:List Int} {lv:Nat -> Nat}
theorem MOk.no {k:Nat} {E:Eg} {lt:List Lt} (h:MOk fm p ρ lv k E lt):MOk fm p ρ lv k E []:=⟨h.ok,h.se,h.efm,h.epol,h.now,h.last,h.inp,Mj _,λx hx=>by cases hx⟩
theorem MOk.more {k:Nat} {E:Eg} (h:MOk fm p ρ lv k E []):MOk fm p ρ lv (k + 1) E []:=⟨h.ok,h.se,h.efm,h.epol,by have:=h.now; omega,by have:=h.last; omega,by have:=h.inp; omega,Mj _,λx hx=>by cases hx⟩
theorem LnOk.of {fs:List Fd} {last:Int} {x:Lt} (h:LtOk fs x) (i1:1 <= x.id) (i2:x.id <= last):LnOk fs last x:=⟨h.at_,h.key,i1,i2,.inl h.ans⟩
theorem LnOk.up {fs:List Fd} {last last':Int} {x:Lt} (h:LnOk fs last x) (hl:last <= last'):LnOk fs last' x:=⟨h.at_,h.key,h.i1,by have:=h.i2; omega,h.ans⟩
theorem PsOk.more {k:Nat} {s:Ps} (h:PsOk fm p ρ lv k s):PsOk fm p ρ lv (k + 1) s:=⟨h.m.more,h.net,h.ltr,h.tm,h.pk,by have:=h.lp; omega⟩
theorem PsOk.send {k:Nat} {s:Ps} (h:PsOk fm p ρ lv k s) (hk:k <= 85) {E':Eg} {on more:List Lt} (hs:MStep ρ s.E [] E' more) (hon:∀ x∈on,x∈s.net) (hmore:∀ x∈more,1 <= x.id):PsOk fm p ρ lv (k + 1) (sndF s E' on more).2:=by
 have hm:=h.m.step (by omega) hs;have hll:s.E.last <= E'.last:=by
  cases hs with
  | stay=>exact Tq _
  | tick dt d1 d2 =>
   have hn:=h.m.now;exact (setE_few (tickE_ok h.m.ok (n:=dt) (by omega) (by omega))).2.2
  | tell nm v hv ht=>exact (setE_few (tellE_ok h.m.ok hv ht (by have:=h.m.inp; omega))).2.2
  | hear i f x c hf hc hx ht=>exact (setE_few (hearE_ok h.m.ok hf hc hx ht)).2.2
 by_cases q:on.length + more.length <= 24
 ·rw [snd_yes q];refine ⟨hm.no,by show (on++more).length <= 24; rw [Bk]; exact q,λx hx=>?_,h.tm,h.pk,by show s.path.length <= _; have:=h.lp; omega⟩;rcases Qj.1 hx with a | a
  ·exact (h.ltr x (hon x a)).up hll
  ·obtain ⟨b1,b2⟩:=hm.ltr x a;exact .of b1 (hmore x a) b2
 ·rw [snd_no q];exact h.more
theorem set_ids {E:Eg} (hok:EgOk E ρ lv):∀ x∈(nY E ρ).out,1 <= x.id:=λx hx=>by
 have:=(setE_out hok x hx).2.1
 have:=hok.l0
 omega
theorem tick_ids {E:Eg} (hok:EgOk E ρ lv) {n:Int}:∀ x∈tickT E n,1 <= x.id:=λx hx=>by
 obtain ⟨i,f,c,hf,hc,hw,rfl⟩:=askT_mem hx;obtain ⟨w1,w2,w3⟩:=wake_asks hw
 have:=((hok.calls.at_ i f c hf hc).1.live (by omega)).i1
 rw [w3];exact this
theorem path_last {l:List Int} {q:Int} (h:l.getLast?=some q):l=l.dropLast++[q]:=by
 cases l with
 | nil=>cases h
 | cons a l =>
  rw [List.getLast?_eq_some_getLast (List.cons_ne_nil _ _)] at h;rw [<- Dk h,List.dropLast_concat_getLast]
theorem PsOk.step {k:Nat} {s:Ps} {e:Ev} (h:PsOk fm p ρ lv k s) (hk:k <= 85) (he:EvOk fm.fields e):PsOk fm p ρ lv (k + 1) (evF ρ s e).2:=by
 have hm:=h.m;unfold evF
 by_cases k1:e.kind=1
 ·rw [Cj k1]
  by_cases q:fZ s.E.fm.fields e.nm e.val.k=0
  ·rw [Cj q];exact h.send hk (.tell e.nm e.val (he.val (.inl k1)) q) (λx hx=>hx) (set_ids (tellE_ok hm.ok (he.val (.inl k1)) q (by have:=hm.inp; omega)))
  ·rw [Bj q]; exact h.more
 rw [Bj k1]
 by_cases k2:e.kind=2
 ·rw [Cj k2];have n1:=he.tick k2;have n2:=he.n1;have hn:=hm.now;refine h.send hk (.tick e.n n1 n2) (λx hx=>hx) λx hx=>?_;rcases Qj.1 hx with a | a
  ·exact tick_ids hm.ok x a
  ·exact set_ids (tickE_ok hm.ok (n:=e.n) (by omega) (by omega)) x a
 rw [Bj k2]
 by_cases k3:e.kind=3
 ·rw [Cj k3]
  cases q:s.net[e.n.toNat]? with
  | none=>exact h.more
  | some x =>
   simp only
   by_cases g:x.ans.k≠0
   ·rw [Cj g]; exact h.more
   ·rw [Bj g];have hx:=h.ltr x (Ej q);refine ⟨hm.more,by show (s.net.set _ _).length <= 24; rw [Qq]; exact h.net,λy hy=>?_,h.tm,h.pk,by show s.path.length <= _; have:=h.lp; omega⟩;rcases List.mem_or_eq_of_mem_set hy with a | a
    ·exact h.ltr y a
    ·rw [a]; exact ⟨hx.at_,hx.key,hx.i1,hx.i2,.inr (he.val (.inr k3))⟩
 rw [Bj k3]
 by_cases k4:e.kind=4
 ·rw [Cj k4]
  by_cases q:e.n.toNat < s.net.length
  ·rw [Cj q];exact ⟨hm.more,Yk (List.length_eraseIdx_le _ _) h.net,λy hy=>h.ltr y (Hw hy),h.tm,h.pk,by show s.path.length <= _; have:=h.lp; omega⟩
  ·rw [Bj q]; exact h.more
 rw [Bj k4]
 by_cases k5:e.kind=5
 ·rw [Cj k5]
  cases q:s.net[e.n.toNat]? with
  | none=>exact h.more
  | some x =>
   simp only
   by_cases g:s.net.length=24
   ·rw [Cj g]; exact h.more
   ·rw [Bj g];have hnl:=h.net;have hil:=(Nj.1 q).1;refine ⟨hm.more,by show (s.net.take _++x :: s.net.drop _).length <= 24; rw [Bk,Sk,Ck,List.length_drop]; omega,λy hy=>?_,h.tm,h.pk,by show s.path.length <= _; have:=h.lp; omega⟩;rcases Qj.1 hy with a | a
    ·exact h.ltr y (List.mem_of_mem_take a)
    ·rcases Tj.1 a with a | a
     ·rw [a]; exact h.ltr x (Ej q)
     ·exact h.ltr y (Ww a)
 rw [Bj k5]
 by_cases k6:e.kind=6
 ·rw [Cj k6]
  cases q:s.net[e.n.toNat]? with
  | none=>exact h.more
  | some x =>
   simp only
   by_cases g:x.ans.k=0
   ·rw [Cj g]; exact h.more
   ·rw [Bj g];have hx:=h.ltr x (Ej q);obtain ⟨i,f,hf,hn,h3⟩:=hx.at_;have hff:s.E.fm.fields[i]?=some f:=by rw [hm.efm]; exact hf
    obtain ⟨c,hc⟩:∃ c,s.E.calls[i]?=some c:=⟨_,Gj (by rw [hm.ok.calls.len]; exact (Nj.1 hff).1)⟩;have ha:OkV x.ans:=by
     rcases hx.ans with a | a
     ·rw [a] at g; exact absurd rfl g
     ·exact .inl a
    obtain ⟨e1,e2⟩:=hrdX_at (ρ:=ρ) (x:=x) hm.ok.fm.fields.nodup hff hn hc;rw [e1,e2];refine h.send hk (hrd_step (lt:=[]) hff hc ha) (λy hy=>Hw hy) λy hy=>?_
    by_cases ht:Takes f x c
    ·rw [(hrd_yes (E:=s.E) (ρ:=ρ) (i:=i) ht).2.1] at hy;exact set_ids (hearE_ok hm.ok hff hc ha ht) y hy
    ·rw [(hrd_no (E:=s.E) (ρ:=ρ) (i:=i) ht).2.1] at hy
     cases hy
 rw [Bj k6]
 by_cases k7:e.kind=7
 ·rw [Cj k7]
  cases q:nextE s.E s.t with
  | none=>exact h.more
  | some a =>
   simp only;obtain ⟨q1,q2⟩:s.t < a /\ a <= fm.pages.length:=by
    have hsc:∀ (pass:Nat -> Bool × Bool) (k j:Nat),scanF pass k j=some a -> j <= a /\ a <= j + k:=λpass k=>by
     induction k with
     | zero=>intro j hj; rw [scanF] at hj; have:=Dk hj; omega
     | succ k ih =>
      intro j hj;rw [scanF] at hj
      split at hj
      ·have:=ih (j + 1) hj; omega
      ·split at hj
       ·have:=Dk hj; omega
       ·cases hj
    unfold nextE at q
    split at q
    ·rename_i pg hpg;have hlt:=(Nj.1 hpg).1
     split at q
     ·have:=hsc _ _ _ q
      rw [hm.efm] at this hlt;omega
     ·cases q
    ·cases q
   have hp:PathOk ((s.path++[(s.t:Int)])++[(a:Int)]) fm.pages.length:=by
    refine ⟨List.pairwise_append.2 ⟨h.pk.rise,List.pairwise_singleton _ _,λx hx y hy=>?_⟩,λx hx=>?_,λx hx=>?_⟩
    ·rw [Pj.1 hy];rcases Qj.1 hx with g | g
     ·have:=(List.pairwise_append.1 h.pk.rise).2.2 x g (s.t:Int) (by simp)
      omega
     ·rw [Pj.1 g]; omega
    ·rcases Qj.1 hx with g | g
     ·exact h.pk.lo x g
     ·rw [Pj.1 g]; omega
    ·rcases Qj.1 hx with g | g
     ·exact h.pk.hi x g
     ·rw [Pj.1 g]; omega
   refine ⟨hm.more,h.net,h.ltr,q2,hp,?_⟩;show (s.path++[_]).length <= _;rw [Bk]
   have:=h.lp
   simp only [Sk,Fq];omega
 rw [Bj k7]
 cases q:s.path.getLast? with
 | none=>exact h.more
 | some a =>
  simp only;have e1:=path_last q;have ha0:=h.pk.lo a (by rw [e1]; simp);have ha1:=h.pk.hi a (by rw [e1]; simp);have e2:((a.toNat:Nat):Int)=a:=Int.toNat_of_nonneg ha0;refine ⟨hm.more,h.net,h.ltr,by show a.toNat <= _; omega,?_,by show s.path.dropLast.length <= _; rw [List.length_dropLast]; have:=h.lp; omega⟩;show PathOk (s.path.dropLast++[((a.toNat:Nat):Int)]) _;rw [e2, <- e1];exact ⟨(List.pairwise_append.1 h.pk.rise).1,λx hx=>h.pk.lo x (Ek _ hx),λx hx=>h.pk.hi x (Ek _ hx)⟩
end
def stP (ρ:List Int) (s:Ps) (es:List Ev):Ps:=es.foldl (λs e=>(evF ρ s e).2) s
def rpP (ρ:List Int):Ps -> List Ev -> List (Int × Nat)
 | _,[]=>[]
 | s,e :: es=>((evF ρ s e).1,(evF ρ s e).2.t) :: rpP ρ (evF ρ s e).2 es
theorem stP_snoc (ρ:List Int) (s:Ps) (es:List Ev) (e:Ev):stP ρ s (es++[e])=(evF ρ (stP ρ s es) e).2:=by unfold stP; rw [Rw]; rfl
theorem rpP_snoc (ρ:List Int):∀ (es:List Ev) (s:Ps) (e:Ev),rpP ρ s (es++[e])=rpP ρ s es++[((evF ρ (stP ρ s es) e).1,(evF ρ (stP ρ s es) e).2.t)]
 | [],s,e=>rfl
 | x :: es,s,e=>by
  show _ :: rpP ρ (evF ρ s x).2 (es++[e])=_ :: (rpP ρ (evF ρ s x).2 es++_);rw [rpP_snoc ρ es (evF ρ s x).2 e]; rfl
theorem rpP_len (ρ:List Int):∀ (es:List Ev) (s:Ps),(rpP ρ s es).length=es.length
 | [],_=>rfl
 | _ :: es,s=>Dj (· + 1) (rpP_len ρ es _)
theorem PsOk.run {fm:Fm} {p:Pol} {ρ:List Int} {lv:Nat -> Nat} {s:Ps} (h:PsOk fm p ρ lv 0 s):∀ (es:List Ev),(∀ e∈es,EvOk fm.fields e) -> es.length <= 80 -> PsOk fm p ρ lv es.length (stP ρ s es):=λes=>by
 have key:∀ k,k <= es.length -> (∀ e∈es,EvOk fm.fields e) -> es.length <= 80 -> PsOk fm p ρ lv k (stP ρ s (es.take k)):=λk=>by
  induction k with
  | zero=>intro _ _ _; exact h
  | succ k ih =>
   intro hk he hl;obtain ⟨e,hek⟩:∃ e,es[k]?=some e:=⟨_,Gj hk⟩;rw [Ov,hek];show PsOk fm p ρ lv (k + 1) (stP ρ s (es.take k++[e]));rw [stP_snoc];exact (ih (by omega) he hl).step (by omega) (he e (Ej hek))
 intro he hl
 have:=key es.length (Hj _) he hl
 rw [Pk] at this;exact this
theorem take_notin {os:List Nat} (hn:os.Nodup) {t i:Nat} (ht:os[t]?=some i):i ∉ os.take t:=λq=>by
 obtain ⟨htl,-⟩:=Nj.1 ht;obtain ⟨u,hu⟩:=Bq q;have hut:u < t:=by
  rcases Iv u t with q | q
  ·exact q
  ·rw [Gv (by rw [Ck]; omega)] at hu; cases hu
 rw [List.getElem?_take_of_lt hut] at hu
 have:=(Bx (by omega) hn).1 (hu.trans ht.symm)
 omega
theorem set_call {E:Eg} {ρ:List Int} {lv:Nat -> Nat} (hok:EgOk E ρ lv) (hl:(nY E ρ).last <= 1073741810) {i:Nat} {f:Fd} {c:Cl} (hf:E.fm.fields[i]?=some f) (h3:f.kind=3) (hc:E.calls[i]?=some c) :
  ∃ id,E.last < id /\ (oY E ρ).calls[i]?=some (hZ E.pol id E.now (mK (fcs E.fm.fields (oY E ρ).vals) f.src) c).1:=by
 have few:=hok.fm.fields.few;have one:=hok.one;have l1:=hok.l1;have hod:Ordd E.fm.fields ρ lv (iX ρ E.fm.fields.length):=jX hok.fm.rank (by omega);have hnd:=ordL_nodup hod;have hil:=(Nj.1 hf).1;obtain ⟨t,ht⟩:=Bq (hod.perm.mem_iff.2 (Jk.2 hil));have htl:=(Nj.1 ht).1;have hok':=settE_ok hok hl;have hse':=pY hok;obtain ⟨hkn,hv⟩:=settled_all hok' hse';have ev:=(ev_turn hok'.fm.fields hok'.ki (orcC_has hok'.calls) hod ht hf (by omega)).1;have hkn:=hkn t (by show t <= (iX ρ E.fm.fields.length).length; omega);have ev:mK (runW E.fm.fields E.inp (orcC E.fm.fields (oY E ρ).calls) ((iX ρ E.fm.fields.length).take t)).2 f.src=mK (fcs E.fm.fields (oY E ρ).vals) f.src:=by rw [hv]; exact ev
 have hfx:=runS_fix E.fm.fields E.pol E.now E.inp ⟨E.calls,E.vals,[],E.last,[]⟩ hnd hok.calls.len hok.vlen rfl E.now (nY E ρ).last t (by omega);have hkn:(runW E.fm.fields E.inp (orcC E.fm.fields (oY E ρ).calls) ((iX ρ E.fm.fields.length).take t)).2=(jY E.fm.fields E.pol E.now E.inp ⟨E.calls,E.vals,[],E.last,[]⟩ ((iX ρ E.fm.fields.length).take t)).kn:=by
  have hk2:=Dj Sst.kn hfx;exact hkn.trans hk2
 rw [hkn] at ev;have I:=runS_inv (s0:=⟨E.calls,E.vals,[],E.last,[]⟩) (os:=iX ρ E.fm.fields.length) hok.pol hok.fm.fields hok.ki hok.n0 hok.n1 hok.calls hok.vlen rfl hok.l0 (by rw [hod.len]; show E.last + _ <= _; omega) (λi q=>hod.lt q) t (by omega);have hfin:=(run_final E.fm.fields E.pol E.now E.inp ⟨E.calls,E.vals,[],E.last,[]⟩ hnd ht).1;rw [runS_at _ _ _ _ _ _ t i ht] at hfin;have hsm:=I.same i (take_notin hnd ht);have hlo:=I.lo;have hlen:=I.calls.len;simp only at hsm hlo;generalize jY E.fm.fields E.pol E.now E.inp ⟨E.calls,E.vals,[],E.last,[]⟩ ((iX ρ E.fm.fields.length).take t)=s at *;rw [hc] at hsm;rw [vY hf h3 hsm ev rfl] at hfin;simp only at hfin;rw [Zq (by omega)] at hfin;exact ⟨s.last + 1,by omega,hfin⟩
def fW (ρ:List Int) (dt:Int) (E:Eg):Nat -> Eg
 | 0=>E
 | m + 1=>oY (dZ (fW ρ dt E m) dt) ρ
structure Lst (fm:Fm) (p:Pol) (ρ:List Int) (lv:Nat -> Nat) (m:Nat) (E:Eg):Prop where
 ok:EgOk E ρ lv
 se:Settled E ρ
 efm:E.fm=fm
 epol:E.pol=p
 inp:E.inp=[]
 now:E.now <= p.c * m
 last:E.last <= 14 + 14 * m
 soon:∀ c∈E.calls,c.st=1 -> c.nx <= E.now + p.c
 idle:∀ (i:Nat) (f:Fd) (c:Cl),fm.fields[i]?=some f -> f.kind≠3 -> E.calls[i]?=some c -> c=clZ
theorem turn_soon {p:Pol} (hp:p.ok) {id now:Int} {key:Vl} {c:Cl} (h:c.st=1 -> c.nx <= now + p.c):(hZ p id now key c).1.st=1 -> (hZ p id now key c).1.nx <= now + p.c:=by
 by_cases hk:key.k <= 3
 ·by_cases e:c.st≠0 /\ eqB c.key key=true
  ·rw [kZ hk e.1 e.2]; exact h
  ·rw [iZ hk e];intro _
   have:=hp.bc
   show now + p.b <= now + p.c;omega
 ·rw [jZ hk];exact λq=>absurd (show (0:Int)=1 from q) (by decide)
theorem wake_soon {p:Pol} {now:Int} {c:Cl} (h0:0 <= p.c) (h:c.st=1 -> c.nx <= now):(mZ p now c).1.st=1 -> (mZ p now c).1.nx <= now + p.c:=by
 by_cases q:c.st≠1\/now < c.nx
 ·rw [qZ q];intro h1
  have:=h h1
  show c.nx <= _;omega
 ·by_cases q2:c.tr=p.t
  ·rw [pZ q q2];exact λq=>absurd (show (3:Int)=1 from q) (by decide)
  ·rw [oZ q q2];intro _
   have:=gapV_hi (b:=p.b) (c:=p.c) (n:=c.tr + 1)
   show now + gapV p.b p.c (c.tr + 1) <= now + p.c;omega
theorem lost_calls {fm:Fm} {p:Pol} {ρ:List Int} {lv:Nat -> Nat} {m:Nat} {E:Eg} (h:Lst fm p ρ lv m E) (hm:m <= 100) (hp:p.ok) {i:Nat} {f:Fd} {c:Cl} (hf:fm.fields[i]?=some f) (hc:E.calls[i]?=some c) :
  (f.kind=3 -> ∃ id,E.last < id /\ (oY (dZ E p.c) ρ).calls[i]?=some (hZ p id (E.now + p.c) (mK (fcs fm.fields (oY (dZ E p.c) ρ).vals) f.src) (mZ p (E.now + p.c) c).1).1) /\ (f.kind≠3 -> (oY (dZ E p.c) ρ).calls[i]?=some clZ):=by
 have hcm:=hp.cm;have hbc:=hp.bc;have hb1:=hp.b1;have hn:=h.now;have hl:=h.last;have hnm:p.c * (m:Int) <= 1000 * 100:=Int.mul_le_mul hcm (by omega) (by omega) (by omega);have h1:=tickE_ok h.ok (n:=p.c) (by omega) (by omega);have R:=setE_run h1;have few:=h.ok.fm.fields.few;have one:=h.ok.one;have hod:Ordd E.fm.fields ρ lv (iX ρ E.fm.fields.length):=jX h.ok.fm.rank (by omega);have hi:=R.hi;have e1:(iX ρ (dZ E p.c).fm.fields.length).length=E.fm.fields.length:=hod.len;rw [e1] at hi;have e2:(dZ E p.c).last=E.last:=rfl;simp only [e2] at hi;have hc':(dZ E p.c).calls[i]?=some (mZ p (E.now + p.c) c).1:=by
  show (nZ E.pol (E.now + p.c) E.calls)[i]?=_;unfold nZ;rw [Oj,hc,h.epol]; rfl
 have hf':(dZ E p.c).fm.fields[i]?=some f:=by show E.fm.fields[i]?=some f; rw [h.efm]; exact hf
 refine ⟨λh3=>?_,λh3=>?_⟩
 ·obtain ⟨id,a,b⟩:=set_call h1 (by omega) hf' h3 hc';have ep:(dZ E p.c).pol=p:=h.epol;have ef:(dZ E p.c).fm=fm:=h.efm;rw [ep,ef] at b;exact ⟨id,a,b⟩
 ·have R2:=(settE_ok h1 (by omega)).calls.at_ i f;obtain ⟨d,hd⟩:∃ d,(oY (dZ E p.c) ρ).calls[i]?=some d:=⟨_,Gj (by rw [(settE_ok h1 (by omega)).calls.len]; exact (Nj.1 hf').1)⟩;obtain ⟨d1,d2,-⟩:=R2 d hf' hd;rw [hd];refine Dj some (d1.idle ?_)
  by_cases q:d.st=0
  ·exact q
  ·exact absurd (d2 q).1 h3
theorem Lst.step {fm:Fm} {p:Pol} {ρ:List Int} {lv:Nat -> Nat} {m:Nat} {E:Eg} (h:Lst fm p ρ lv m E) (hm:m <= 100) (hp:p.ok):Lst fm p ρ lv (m + 1) (oY (dZ E p.c) ρ):=by
 have hcm:=hp.cm;have hbc:=hp.bc;have hb1:=hp.b1;have hn:=h.now;have hl:=h.last;have hnm:p.c * (m:Int) <= 1000 * 100:=Int.mul_le_mul hcm (by omega) (by omega) (by omega);have h1:=tickE_ok h.ok (n:=p.c) (by omega) (by omega);have R:=setE_run h1;have few:=h.ok.fm.fields.few;have one:=h.ok.one;have hod:Ordd E.fm.fields ρ lv (iX ρ E.fm.fields.length):=jX h.ok.fm.rank (by omega);have hi:=R.hi;have e1:(iX ρ (dZ E p.c).fm.fields.length).length=E.fm.fields.length:=hod.len;rw [e1] at hi;have e2:(dZ E p.c).last=E.last:=rfl;simp only [e2] at hi;have e3:p.c * ((m + 1:Nat):Int)=p.c * (m:Int) + p.c:=by rw [Int.natCast_add,Int.mul_add]; simp
 have hok':=settE_ok h1 (by omega);refine ⟨hok',pY h1,h.efm,h.epol,h.inp,by show E.now + p.c <= _; omega,by show (nY (dZ E p.c) ρ).last <= _; omega,λc hc hs=>?_,λi f c hf h3 hc=>?_⟩
 ·obtain ⟨i,hi⟩:=Bq hc;have hil:=(Nj.1 hi).1;rw [hok'.calls.len] at hil;have hil:i < E.fm.fields.length:=hil;obtain ⟨f,hf⟩:∃ f,fm.fields[i]?=some f:=⟨_,Gj (by rw [<- h.efm]; exact hil)⟩;obtain ⟨d,hd⟩:∃ d,E.calls[i]?=some d:=⟨_,Gj (by rw [h.ok.calls.len]; exact hil)⟩;obtain ⟨q1,q2⟩:=lost_calls h hm hp hf hd
  by_cases h3:f.kind=3
  ·obtain ⟨id,-,e⟩:=q1 h3;rw [hi] at e;obtain rfl:=Dk e;exact turn_soon hp (wake_soon (by omega) (h.soon d (Ej hd))) hs
  ·rw [hi] at q2;rw [Dk (q2 h3)] at hs;exact absurd (show (0:Int)=1 from hs) (by decide)
 ·obtain ⟨d,hd⟩:∃ d,E.calls[i]?=some d:=⟨_,Gj (by rw [h.ok.calls.len,h.efm]; exact (Nj.1 hf).1)⟩;have q:=(lost_calls h hm hp hf hd).2 h3;rw [hc] at q;exact Dk q
theorem wake_keys {p:Pol} {now:Int} {c:Cl} (h:c.st≠0):(mZ p now c).1.st≠0 /\ (mZ p now c).1.key=c.key:=by
 by_cases q:c.st≠1\/now < c.nx
 ·rw [qZ q]; exact ⟨h,rfl⟩
 ·by_cases q2:c.tr=p.t
  ·rw [pZ q q2]; exact ⟨by show (3:Int)≠0; decide,rfl⟩
  ·rw [oZ q q2]; exact ⟨h,rfl⟩
section
variable {fm:Fm} {p:Pol} {ρ:List Int} {lv:Nat -> Nat} {E:Nat -> Eg}
def keyM (fm:Fm) (E:Nat -> Eg) (f:Fd) (m:Nat):Vl:=mK (fcs fm.fields (E m).vals) f.src
theorem lost_tick (hL:∀ m,m <= 100 -> Lst fm p ρ lv m (E m)) (hE:∀ m,E (m + 1)=oY (dZ (E m) p.c) ρ) (hp:p.ok) {i:Nat} {f:Fd} {c:Cl} (hf:fm.fields[i]?=some f) (h3:f.kind=3) {m:Nat} (hm:m + 1 <= 100) (hk:keyM fm E f (m + 1)=keyM fm E f m) (hc:(E m).calls[i]?=some c) :
  ((E (m + 1)).calls[i]?=some clZ /\ c=clZ)\/(c.st≠0 /\ (E (m + 1)).calls[i]?=some (mZ p ((E m).now + p.c) c).1):=by
 have h1:=hL m (by omega);obtain ⟨id,-,e⟩:=(lost_calls h1 (by omega) hp hf hc).1 h3;have hS:=(settled_sol h1.ok h1.se).call i f c (by rw [h1.efm]; exact hf) h3 hc;rw [h1.efm] at hS;obtain ⟨s1,s2,-⟩:=hS;rw [<- hE m] at e;have e:(E (m + 1)).calls[i]?=some (hZ p id ((E m).now + p.c) (keyM fm E f (m + 1)) (mZ p ((E m).now + p.c) c).1).1:=e;rw [hk] at e
 by_cases q:(keyM fm E f m).k <= 3
 ·obtain ⟨a,b⟩:=s1 q;obtain ⟨w1,w2⟩:=wake_keys (p:=p) (now:=(E m).now + p.c) a;rw [kZ q w1 (eqB_iff.2 (w2.trans b))] at e;exact .inr ⟨a,e⟩
 ·have z:=s2 q;rw [jZ q] at e;exact .inl ⟨e,z⟩
end
theorem none_pending {E:Eg} {ρ:List Int} {lv:Nat -> Nat} (hok:EgOk E ρ lv) (hse:Settled E ρ) (hn:∀ c∈E.calls,c.st≠1):∀ x∈E.vals,x.k≠4:=by
 have S:=settled_sol hok hse;have key:∀ d (i:Nat) (x:Vl),lv i < d -> E.vals[i]?=some x -> x.k≠4:=λd=>by
  induction d with
  | zero=>intro i x h; omega
  | succ d ih =>
   intro i x hd hx;have hil:i < E.fm.fields.length:=by rw [<- hok.vlen]; exact (Nj.1 hx).1
   obtain ⟨f,hf⟩:∃ f,E.fm.fields[i]?=some f:=⟨_,Gj hil⟩;have hF:=hok.fm.fields.each f (Ej hf)
   by_cases k1:f.kind=1
   ·rw [S.sol.at_ i f x hf hx];unfold yW;rw [Cj k1]
    have:=tell_ok hok.ki f.name hF.t1 hF.t3
    rcases this with ⟨e,-⟩ | ⟨e,-⟩ | ⟨e,-⟩ <;> omega
   ·have he:(mK (fcs E.fm.fields E.vals) f.src).k≠4:=ev_n4 (hF.wf k1).1 λs hs v hv=>by
     obtain ⟨j,g,g1,g2,g3⟩:=refs_need hok.fm.fields hf k1 hs;have hl:=(hok.fm.rank.low i (by rw [qW]; exact hil) j g3).2;obtain ⟨a,ha⟩:∃ a,E.vals[j]?=some a:=⟨_,Gj (by rw [hok.vlen]; exact (Nj.1 g1).1)⟩;rw [<- g2,fcs_get hok.fm.fields.nodup g1 ha] at hv;rw [<- Dk hv];exact ih j a (by omega) ha
    by_cases h3:f.kind=3
    ·obtain ⟨c,hc⟩:∃ c,E.calls[i]?=some c:=⟨_,Gj (by rw [hok.calls.len]; exact hil)⟩;have v:=(S.call i f c hf h3 hc).2.2;rw [hx] at v;rw [Dk v];have hco:=(hok.calls.at_ i f c hf hc).1;unfold aW
     by_cases s0:c.st=0
     ·rw [Cj s0]; exact he
     ·rw [Bj s0];have hb:=hco.live s0;have s1:=hb.s1;have s3:=hb.s3
      have:=hn c (Ej hc)
      unfold ansC
      by_cases s2:c.st=2
      ·rw [Cj s2];rcases (hb.knw s2).1 with ⟨e,-⟩ | ⟨e,-⟩ | ⟨e,-⟩ <;> omega
      ·rw [Bj s2,Cj (by omega)]; show (5:Int)≠4; decide
    ·rw [S.sol.at_ i f x hf hx];unfold yW;rw [Bj k1,Bj h3];exact he
 intro x hx;obtain ⟨i,hi⟩:=Bq hx;exact key (lv i + 1) i x (by omega) hi
structure OutI (fs:List Fd) (l0:Int) (s:Sst):Prop where
 iff:∀ x,x∈s.out↔∃ (j:Nat) (f:Fd) (c:Cl),fs[j]?=some f /\ s.calls[j]?=some c /\ c.st=1 /\ l0 < c.id /\ x=ltOf f.name c
 pw:s.out.Pairwise (λx y=>x.nm≠y.nm)
theorem name_inj {fs:List Fd} (hd:(fs.map (λf:Fd=>f.name)).Nodup) {i j:Nat} {f g:Fd} (hf:fs[i]?=some f) (hg:fs[j]?=some g) (e:f.name=g.name):i=j:=by
 have e1:=dQ hd hf;have e2:=dQ hd hg;rw [e,e2] at e1;omega
theorem outI_run {fs:List Fd} {p:Pol} {now:Int} {inp:Env} {s0:Sst} {os:List Nat} (hp:p.ok) (hok:OkFs fs) (ki:∀ q∈inp,q.2.known) (n0:0 <= now) (n1:now <= 1073741824) (h0:CallsOk fs p s0.last s0.calls) (v0:s0.vals.length=fs.length) (k0:s0.kn=[]) (l0:0 <= s0.last) (l1:s0.last + os.length <= 1073741824) (hlt:∀ i∈os,i < fs.length) (hn:os.Nodup) (ho:s0.out=[]) :
  ∀ t,t <= os.length -> OutI fs s0.last (jY fs p now inp s0 (os.take t))
 | 0,_=>by
  show OutI fs s0.last s0;refine ⟨λx=>?_,by rw [ho]; exact .nil⟩;rw [ho];refine ⟨λq=>(by cases q),?_⟩;rintro ⟨j,f,c,hf,hc,h1,h2,-⟩
  have:=((h0.at_ j f c hf hc).2.1 (by omega)).2
  omega
 | t + 1,ht=>by
  have I:=runS_inv hp hok ki n0 n1 h0 v0 k0 l0 l1 hlt t (by omega);have ih:=outI_run hp hok ki n0 n1 h0 v0 k0 l0 l1 hlt hn ho t (by omega);obtain ⟨i,hti⟩:∃ i,os[t]?=some i:=⟨_,Gj (by omega)⟩;have hil:=hlt i (Ej hti);obtain ⟨f,hf⟩:∃ f,fs[i]?=some f:=⟨_,Gj hil⟩;have hsm:=I.same i (take_notin hn hti);rw [runS_at fs p now inp s0 os t i hti];have hlo:=I.lo;have hlen:=I.calls.len;generalize jY fs p now inp s0 (os.take t)=s at *
  by_cases h3:f.kind=3
  ·obtain ⟨c,hc⟩:∃ c,s.calls[i]?=some c:=⟨_,Gj (by omega)⟩;have hc0:=hsm.symm.trans hc;have hold:c.st≠0 -> c.id <= s0.last:=λq=>((h0.at_ i f c hf hc0).2.1 q).2;rw [vY hf h3 hc rfl rfl];have hno:∀ (d:Cl),(d.st=1 -> d.id <= s0.last) -> OutI fs s0.last ⟨s.calls.set i d,s.vals.set i (aW (mK s.kn f.src) d),s.kn++[(f.name,aW (mK s.kn f.src) d)],s.last,s.out⟩:=λd hd=>by
    refine ⟨λx=>(ih.iff x).trans ⟨?_,?_⟩,ih.pw⟩
    ·rintro ⟨j,g,e,hg,he,q1,q2,q3⟩;refine ⟨j,g,e,hg,?_,q1,q2,q3⟩;show (s.calls.set i d)[j]?=some e;have hne:i≠j:=λq=>by
      rw [<- q,hc] at he;rw [<- Dk he] at q1 q2
      have:=hold (by omega)
      omega
     rw [Fw hne]; exact he
    ·rintro ⟨j,g,e,hg,he,q1,q2,q3⟩;rcases set_at he with ⟨rfl,rfl⟩ | ⟨-,he⟩
     ·have:=hd q1; omega
     ·exact ⟨j,g,e,hg,he,q1,q2,q3⟩
   by_cases hk:(mK s.kn f.src).k <= 3
   ·by_cases q:c.st≠0 /\ eqB c.key (mK s.kn f.src)=true
    ·rw [kZ hk q.1 q.2];exact hno c λa=>hold (by omega)
    ·rw [iZ hk q];have hnm:∀ y∈s.out,y.nm≠f.name:=λy hy e=>by
      obtain ⟨j,g,e',hg,he,q1,q2,rfl⟩:=(ih.iff y).1 hy;have hij:=name_inj hok.nodup hg hf e;rw [hij,hc] at he;rw [<- Dk he] at q1 q2
      have:=hold (by omega)
      omega
     refine ⟨λx=>?_,?_⟩
     ·show x∈s.out++[_]↔_;rw [Qj,Pj];refine ⟨λh=>?_,?_⟩
      ·rcases h with h | h
       ·obtain ⟨j,g,e,hg,he,q1,q2,q3⟩:=(ih.iff x).1 h;have hne:i≠j:=λq=>by
         rw [<- q,hc] at he;rw [<- Dk he] at q1 q2
         have:=hold (by omega)
         omega
        exact ⟨j,g,e,hg,by show (s.calls.set i _)[j]?=_; rw [Fw hne]; exact he,q1,q2,q3⟩
       ·exact ⟨i,f,_,hf,Zq (by omega),rfl,by show s0.last < s.last + 1; omega,h⟩
      ·rintro ⟨j,g,e,hg,he,q1,q2,q3⟩;rcases set_at he with ⟨rfl,rfl⟩ | ⟨-,he⟩
       ·rw [hf] at hg;obtain rfl:=Dk hg;exact .inr q3
       ·exact .inl ((ih.iff x).2 ⟨j,g,e,hg,he,q1,q2,q3⟩)
     ·refine List.pairwise_append.2 ⟨ih.pw,List.pairwise_singleton _ _,λy hy z hz=>?_⟩;rw [Pj.1 hz];exact hnm y hy
   ·rw [jZ hk];exact hno clZ λa=>absurd (show (0:Int)=1 from a) (by decide)
  ·rw [stepS_one hf h3];exact ⟨ih.iff,ih.pw⟩
theorem outI_set {E:Eg} {ρ:List Int} {lv:Nat -> Nat} (hok:EgOk E ρ lv):OutI E.fm.fields E.last (nY E ρ):=by
 have few:=hok.fm.fields.few;have one:=hok.one;have l1:=hok.l1;have hod:Ordd E.fm.fields ρ lv (iX ρ E.fm.fields.length):=jX hok.fm.rank (by omega);have h:=outI_run (s0:=⟨E.calls,E.vals,[],E.last,[]⟩) (os:=iX ρ E.fm.fields.length) hok.pol hok.fm.fields hok.ki hok.n0 hok.n1 hok.calls hok.vlen rfl hok.l0 (by rw [hod.len]; show E.last + _ <= _; omega) (λi q=>hod.lt q) (ordL_nodup hod) rfl _ (Hj _);rw [Pk] at h;exact h
structure CalI (E:Eg) (lt:List Lt):Prop where
 inp:E.inp=[]
 iff:∀ x,x∈lt↔∃ (j:Nat) (f:Fd) (c:Cl),E.fm.fields[j]?=some f /\ E.calls[j]?=some c /\ c.st=1 /\ x=ltOf f.name c
 pw:lt.Pairwise (λx y=>x.nm≠y.nm)
 st:∀ (j:Nat) (f:Fd) (c:Cl),E.fm.fields[j]?=some f -> E.calls[j]?=some c -> c.st <= 2 /\ (c.st=2 -> c.has=ansV f c.key)
def cntK (cs:List Cl):Nat:=cs.countP λc=>decide (c.st=2)
structure CalK (fm:Fm) (p:Pol) (ρ:List Int) (lv:Nat -> Nat) (k:Nat) (E:Eg) (lt:List Lt):Prop where
 m:MOk fm p ρ lv k E lt
 i:CalI E lt
 k:k <= cntK E.calls
def eW (fs:List Fd):Nat:=fs.countP λf=>decide (f.kind=3)
def lowN (fs:List Fd) (lv:Nat -> Nat) (d:Nat):Nat:=fs.zipIdx.countP λq=>decide (q.1.kind=3 /\ lv q.2 < d)
theorem countP_less {α:Type} {p q:α -> Bool}:∀ {l:List α},(∀ x∈l,p x=true -> q x=true) -> ∀ x∈l,q x=true -> p x=false -> l.countP p + 1 <= l.countP q
 | [],_,x,hx,_,_=>by cases hx
 | y :: l,hpq,x,hx,h1,h2=>by
  rw [List.countP_cons,List.countP_cons];have hm:l.countP p <= l.countP q:=List.countP_mono_left λz hz=>hpq z (Gk _ hz);rcases Tj.1 hx with rfl | hx
  ·rw [Cj h1,Bj (by rw [h2]; decide)]; omega
  ·have:=countP_less (λz hz=>hpq z (Gk _ hz)) x hx h1 h2
   by_cases hp:p y=true
   ·rw [Cj hp,Cj (hpq y (by simp) hp)]; omega
   ·rw [Bj hp]; omega
theorem low_le (fs:List Fd) (lv:Nat -> Nat) (d:Nat):lowN fs lv d <= eW fs:=by
 unfold lowN eW;have e:fs.countP (λf=>decide (f.kind=3))=fs.zipIdx.countP (λq=>decide (q.1.kind=3)):=by
  conv=>lhs; rw [<- List.zipIdx_map_fst 0 fs]
  rw [List.countP_map]; rfl
 rw [e];exact List.countP_mono_left λq _ h=>Jj (Yq h).1
theorem low_mono (fs:List Fd) (lv:Nat -> Nat) (d:Nat):lowN fs lv d <= lowN fs lv (d + 1) :=
 List.countP_mono_left λq _ h=>by
  have:=Yq h
  exact Jj ⟨this.1,by omega⟩
theorem low_step {fs:List Fd} {lv:Nat -> Nat} {i:Nat} {f:Fd} (hf:fs[i]?=some f) (h3:f.kind=3):lowN fs lv (lv i) + 1 <= lowN fs lv (lv i + 1) :=
 countP_less (λq _ h=>by
  have:=Yq h
  exact Jj ⟨this.1,by omega⟩) (f,i) (Jw.2 hf) (Jj ⟨h3,Nat.lt_succ_self _⟩) (Kj (by simp))
section
variable {fm:Fm} {p:Pol} {ρ:List Int} {lv:Nat -> Nat} {E:Nat -> Eg}
theorem key_sameQ (hL:∀ m,m <= 100 -> Lst fm p ρ lv m (E m)) {d N:Nat} (hA:∀ (i:Nat) (f:Fd),fm.fields[i]?=some f -> lv i < d -> ∀ m,N <= m -> m + 1 <= 100 -> (E (m + 1)).vals[i]?=(E m).vals[i]?) {i:Nat} {f:Fd} (hf:fm.fields[i]?=some f) (hd:lv i <= d) (hk:f.kind≠1) {m:Nat} (h0:N <= m) (hm:m + 1 <= 100):keyM fm E f (m + 1)=keyM fm E f m:=by
 have h1:=hL m (by omega);have h2:=hL (m + 1) hm;have hok:=h1.ok.fm;rw [h1.efm] at hok;refine eval_local λs hs=>?_;obtain ⟨j,g,g1,g2,g3⟩:=refs_need hok.fields hf hk hs;have hl:=(hok.rank.low i (by rw [qW]; exact (Nj.1 hf).1) j g3).2;have e:=hA j g g1 (by omega) m h0 hm;obtain ⟨a,ha⟩:∃ a,(E m).vals[j]?=some a:=⟨_,Gj (by rw [h1.ok.vlen,h1.efm]; exact (Nj.1 g1).1)⟩;rw [<- g2,fcs_get hok.fields.nodup g1 (e.trans ha),fcs_get hok.fields.nodup g1 ha]
theorem lost_levelQ (hL:∀ m,m <= 100 -> Lst fm p ρ lv m (E m)) (hE:∀ m,E (m + 1)=oY (dZ (E m) p.c) ρ) (hp:p.ok):∀ d:Nat,
  (∀ (i:Nat) (f:Fd),fm.fields[i]?=some f -> lv i < d -> ∀ m,p.t.toNat * lowN fm.fields lv d <= m -> m + 1 <= 100 -> (E (m + 1)).vals[i]?=(E m).vals[i]?) /\
  (∀ (i:Nat) (f:Fd),fm.fields[i]?=some f -> lv i < d -> ∀ m,p.t.toNat * lowN fm.fields lv d <= m -> m <= 100 -> ∀ c,(E m).calls[i]?=some c -> c.st≠1)
 | 0=>⟨λi f _ h=>absurd h (Mv _),λi f _ h=>absurd h (Mv _)⟩
 | d + 1=>by
  obtain ⟨hA,hB⟩:=lost_levelQ hL hE hp d;have ht1:=hp.t1;have hmo:p.t.toNat * lowN fm.fields lv d <= p.t.toNat * lowN fm.fields lv (d + 1):=Nat.mul_le_mul_left _ (low_mono fm.fields lv d);have hmul:∀ (i:Nat) (f:Fd),fm.fields[i]?=some f -> lv i=d -> f.kind=3 -> p.t.toNat * lowN fm.fields lv d + p.t.toNat <= p.t.toNat * lowN fm.fields lv (d + 1):=λi f hf hd h3=>by
   have:=low_step (lv:=lv) hf h3
   rw [hd] at this;exact Yk (Nat.le_of_eq (Nat.mul_succ _ _).symm) (Nat.mul_le_mul_left _ this)
  generalize lowN fm.fields lv d=c0 at *;generalize lowN fm.fields lv (d + 1)=c1 at *;generalize hM0:p.t.toNat * c0=M0 at *;generalize hM1:p.t.toNat * c1=M1 at *;have hP:∀ (i:Nat) (f:Fd),fm.fields[i]?=some f -> lv i=d -> f.kind=3 -> ∀ k,M0 + k <= 100 -> ∀ c,(E (M0 + k)).calls[i]?=some c -> c.st=1 -> 1 + (k:Int) <= c.tr:=λi f hf hd h3 k=>by
   induction k with
   | zero =>
    intro hm c hc hs;have h1:=hL _ hm
    have:=((h1.ok.calls.at_ i f c (by rw [h1.efm]; exact hf) hc).1.live (by omega)).t1
    simpa using this
   | succ k ih =>
    intro hm c' hc' hs;have h1:=hL (M0 + k) (by omega);obtain ⟨c,hc⟩:∃ c,(E (M0 + k)).calls[i]?=some c:=⟨_,Gj (by rw [h1.ok.calls.len,h1.efm]; exact (Nj.1 hf).1)⟩;have hk:=key_sameQ hL hA hf (by omega) (by omega) (m:=M0 + k) (by omega) (by omega);have hc':(E (M0 + k + 1)).calls[i]?=some c':=hc';rcases lost_tick hL hE hp hf h3 (by omega) hk hc with ⟨e,-⟩ | ⟨-,e⟩
    ·rw [hc'] at e;rw [Dk e] at hs;exact absurd (show (0:Int)=1 from hs) (by decide)
    ·rw [hc'] at e;have e:=Dk e
     by_cases q:c.st≠1\/(E (M0 + k)).now + p.c < c.nx
     ·rw [qZ q] at e;have e:c'=c:=e;rw [e] at hs
      have:=h1.soon c (Ej hc) hs
      omega
     ·by_cases q2:c.tr=p.t
      ·rw [pZ q q2] at e;rw [e] at hs;exact absurd (show (3:Int)=1 from hs) (by decide)
      ·rw [oZ q q2] at e
       have:=ih (by omega) c hc (by omega)
       rw [e];show 1 + ((k + 1:Nat):Int) <= c.tr + 1;omega
  have hB':∀ (i:Nat) (f:Fd),fm.fields[i]?=some f -> lv i < d + 1 -> ∀ m,M1 <= m -> m <= 100 -> ∀ c,(E m).calls[i]?=some c -> c.st≠1:=λi f hf hd m h0 hm c hc hs=>by
   by_cases hd':lv i < d
   ·exact hB i f hf hd' m (by omega) hm c hc hs
   ·have h1:=hL m hm;have h3:f.kind=3:=by
     by_cases q:f.kind=3
     ·exact q
     ·rw [h1.idle i f c hf q hc] at hs;exact absurd (show (0:Int)=1 from hs) (by decide)
    have:=hmul i f hf (by omega) h3
    obtain ⟨k,rfl⟩:∃ k,m=M0 + k:=⟨m - M0,by omega⟩
    have:=hP i f hf (by omega) h3 k hm c hc hs
    have:=((h1.ok.calls.at_ i f c (by rw [h1.efm]; exact hf) hc).1.live (by omega)).t2
    rw [h1.epol] at this;omega
  refine ⟨λi f hf hd m h0 hm=>?_,hB'⟩
  by_cases hd':lv i < d
  ·exact hA i f hf hd' m (by omega) hm
  ·have h1:=hL m (by omega);have h2:=hL (m + 1) hm;have S1:=settled_sol h1.ok h1.se;have S2:=settled_sol h2.ok h2.se;have hil:=(Nj.1 hf).1;have hf1:(E m).fm.fields[i]?=some f:=by rw [h1.efm]; exact hf
   have hf2:(E (m + 1)).fm.fields[i]?=some f:=by rw [h2.efm]; exact hf
   by_cases h3:f.kind=3
   ·obtain ⟨c,hc⟩:∃ c,(E m).calls[i]?=some c:=⟨_,Gj (by rw [h1.ok.calls.len,h1.efm]; exact hil)⟩;obtain ⟨c',hc'⟩:∃ c,(E (m + 1)).calls[i]?=some c:=⟨_,Gj (by rw [h2.ok.calls.len,h2.efm]; exact hil)⟩;have hk:=key_sameQ hL hA hf (by omega) (by omega) (m:=m) (by omega) hm;have v1:=(S1.call i f c hf1 h3 hc).2.2;have v2:=(S2.call i f c' hf2 h3 hc').2.2;rw [h1.efm] at v1;rw [h2.efm] at v2;have v1:(E m).vals[i]?=some (aW (keyM fm E f m) c):=v1;have v2:(E (m + 1)).vals[i]?=some (aW (keyM fm E f (m + 1)) c'):=v2;have hns:=hB' i f hf hd m h0 (by omega) c hc;have ecc:c'=c:=by
     rcases lost_tick hL hE hp hf h3 hm hk hc with ⟨e,z⟩ | ⟨-,e⟩
     ·rw [hc'] at e;rw [z]; exact Dk e
     ·rw [hc',qZ (.inl hns)] at e;exact Dk e
    rw [v1,v2,hk,ecc]
   ·obtain ⟨x,hx⟩:∃ x,(E m).vals[i]?=some x:=⟨_,Gj (by rw [h1.ok.vlen,h1.efm]; exact hil)⟩;obtain ⟨y,hy⟩:∃ x,(E (m + 1)).vals[i]?=some x:=⟨_,Gj (by rw [h2.ok.vlen,h2.efm]; exact hil)⟩;have x1:=S1.sol.at_ i f x hf1 hx;have y1:=S2.sol.at_ i f y hf2 hy;rw [h1.efm,h1.inp] at x1;rw [h2.efm,h2.inp] at y1;rw [hx,hy,x1,y1];refine Dj some ?_;unfold yW
    by_cases k1:f.kind=1
    ·rw [Cj k1,Cj k1]
    ·rw [Bj k1,Bj k1,Bj h3,Bj h3];exact key_sameQ hL hA hf (by omega) k1 (by omega) hm
end
theorem lost_doneQ {fm:Fm} {p:Pol} {ρ:List Int} {lv:Nat -> Nat} {E0:Eg} (h0:Lst fm p ρ lv 0 E0) (hp:p.ok):(∀ m,m <= 100 -> Lst fm p ρ lv m (fW ρ p.c E0 m)) /\ ∀ m,p.t.toNat * eW fm.fields=m -> m <= 100 -> ∀ c∈(fW ρ p.c E0 m).calls,c.st≠1:=by
 have hL:∀ m,m <= 100 -> Lst fm p ρ lv m (fW ρ p.c E0 m):=λm=>by
  induction m with
  | zero=>intro _; exact h0
  | succ m ih=>intro hm; exact (ih (by omega)).step (by omega) hp
 refine ⟨hL,λm hm h1 c hc=>?_⟩;obtain ⟨i,hi⟩:=Bq hc;have hM:=hL m h1;have hil:i < fm.fields.length:=by rw [<- hM.efm, <- hM.ok.calls.len]; exact (Nj.1 hi).1
 obtain ⟨f,hf⟩:∃ f,fm.fields[i]?=some f:=⟨_,Gj hil⟩;have hfew:=hM.ok.fm.rank.few i (by rw [qW,hM.efm]; exact hil);rw [qW,hM.efm] at hfew;exact (lost_levelQ (E:=fW ρ p.c E0) hL (λm=>rfl) hp fm.fields.length).2 i f hf hfew m (by rw [<- hm]; exact Nat.mul_le_mul_left _ (low_le _ _ _)) h1 c hi
theorem sub_lenQ {α:Type} [DecidableEq α]:∀ {l m:List α},l.Nodup -> (∀ x∈l,x∈m) -> l.length <= m.length
 | [],_,_,_=>Mj _
 | x :: l,m,hn,hs=>by
  have hx:=hs x (by simp);rw [Mq] at hn;have h1:=sub_lenQ (l:=l) (m:=m.erase x) hn.2 λy hy=>(List.mem_erase_of_ne (λe:y=x=>hn.1 (by rw [<- e]; exact hy))).2 (hs y (by simp [hy]));have h2:=List.length_erase_of_mem hx;have h3:=List.length_pos_of_mem hx;simp only [Sk];omega
theorem out_look {E:Eg} {ρ:List Int} {lv:Nat -> Nat} (hok:EgOk E ρ lv):(nY E ρ).out.length <= eW E.fm.fields:=by
 have O:=outI_set hok;have h1:((nY E ρ).out.map (λx:Lt=>x.nm)).Nodup:=Ew.2 O.pw;have h2:=sub_lenQ (m:=(E.fm.fields.filter λf=>decide (f.kind=3)).map (λf:Fd=>f.name)) h1 λs hs=>by
  obtain ⟨x,hx,rfl⟩:=Rj.1 hs;obtain ⟨i,f,hf,hn,h3⟩:=(setE_out hok x hx).1.at_;rw [hn];exact Rj.2 ⟨f,Jq.2 ⟨Ej hf,Jj h3⟩,rfl⟩
 rw [Ij,Ij, <- List.countP_eq_length_filter] at h2;exact h2
theorem ask_look {p:Pol} {now:Int}:∀ {fs:List Fd} {cs:List Cl},(∀ (i:Nat) (f:Fd) (c:Cl),fs[i]?=some f -> cs[i]?=some c -> c.st=1 -> f.kind=3) -> (askT p now fs cs).length <= eW fs
 | [],_,_=>Mj _
 | _ :: _,[],_=>Mj _
 | g :: fs,d :: cs,h=>by
  have ih:=ask_look (p:=p) (now:=now) (fs:=fs) (cs:=cs) λi f c q1 q2 q3=>h (i + 1) f c q1 q2 q3;have h0:=h 0 g d rfl rfl;have e:eW (g :: fs)=eW fs + if g.kind=3 then 1 else 0:=by
   unfold eW;rw [List.countP_cons]
   by_cases q:g.kind=3
   ·rw [Cj (Jj q),Cj q]
   ·rw [Bj (by rw [decide_eq_true_iff]; exact q),Bj q]
  show (_++askT p now fs cs).length <= _;rw [Bk,e]
  by_cases hw:(mZ p now d).2=true
  ·have:=h0 (wake_asks hw).1
   rw [Cj hw,Cj this];simp only [Sk,Fq];omega
  ·rw [Bj hw];simp only [Fq];omega
def loseE:Ev:=⟨4,0,⟨#[]⟩,⟨0,0,⟨#[]⟩⟩⟩
def tickEv (c:Int):Ev:=⟨2,c,⟨#[]⟩,⟨0,0,⟨#[]⟩⟩⟩
def evsL (k:Nat) (c:Int):Nat -> List Ev
 | 0=>[]
 | r + 1=>evsL k c r++List.replicate k loseE++[tickEv c]
theorem evsL_len (k:Nat) (c:Int):∀ r,(evsL k c r).length=r * (1 + k)
 | 0=>(Nat.zero_mul _).symm
 | r + 1=>by
  rw [evsL,Bk,Bk,evsL_len k c r,Sv,Uq];simp only [Sk,Fq];omega
theorem evsL_mem {k:Nat} {c:Int} {e:Ev}:∀ {r},e∈evsL k c r -> e=loseE\/e=tickEv c
 | 0,h=>by cases h
 | r + 1,h=>by
  rw [evsL] at h;rcases Qj.1 h with h | h
  ·rcases Qj.1 h with h | h
   ·exact evsL_mem h
   ·exact .inl (List.eq_of_mem_replicate h)
  ·exact .inr (Pj.1 h)
theorem lose_k (ρ:List Int):∀ (j:Nat) (s:Ps),stP ρ s (List.replicate j loseE)={ s with net:=s.net.drop j }
 | 0,s=>rfl
 | j + 1,s=>by
  have e:stP ρ s (List.replicate (j + 1) loseE)=stP ρ (evF ρ s loseE).2 (List.replicate j loseE):=rfl;have e2:evF ρ s loseE=(if (0:Int).toNat < s.net.length then (0,{ s with net:=s.net.eraseIdx (0:Int).toNat }) else (5,s)):=rfl;rw [e,e2];obtain ⟨E,net,t,path⟩:=s
  cases net with
  | nil =>
   show stP ρ ⟨E,[],t,path⟩ (List.replicate j loseE)=⟨E,[],t,path⟩;rw [lose_k ρ j];show (⟨E,List.drop j [],t,path⟩:Ps)=_;rw [List.drop_nil]
  | cons x net=>exact lose_k ρ j _
theorem play_lost {fm:Fm} {p:Pol} {ρ:List Int} {lv:Nat -> Nat} {E0:Eg} (hL:∀ m,m <= 100 -> Lst fm p ρ lv m (fW ρ p.c E0 m)) (hp:p.ok) {k:Nat} (hk:2 * eW fm.fields <= k) (hk2:k <= 24) {n0:List Lt} (hn0:n0.length <= k) (t:Nat) (pa:List Int):∀ r,r <= 100 -> ∃ net,stP ρ ⟨E0,n0,t,pa⟩ (evsL k p.c r)=⟨fW ρ p.c E0 r,net,t,pa⟩ /\ net.length <= k
 | 0,_=>⟨n0,rfl,hn0⟩
 | r + 1,hr=>by
  obtain ⟨net,e,hn⟩:=play_lost hL hp hk hk2 hn0 t pa r (by omega);have I:=hL r (by omega);have hcm:=hp.cm;have hbc:=hp.bc;have hb1:=hp.b1;have hw:=I.now;have hnm:p.c * (r:Int) <= 1000 * 100:=Int.mul_le_mul hcm (by omega) (by omega) (by omega);have h1:=tickE_ok I.ok (n:=p.c) (by omega) (by omega);have o1:=out_look h1;have ef:(dZ (fW ρ p.c E0 r) p.c).fm=fm:=I.efm;rw [ef] at o1;have o2:(tickT (fW ρ p.c E0 r) p.c).length <= eW (fW ρ p.c E0 r).fm.fields:=ask_look λi f c hf hc hs=>((I.ok.calls.at_ i f c hf hc).2.1 (by omega)).1;rw [I.efm] at o2;rw [evsL,stP_snoc];have e2:stP ρ ⟨E0,n0,t,pa⟩ (evsL k p.c r++List.replicate k loseE)=⟨fW ρ p.c E0 r,[],t,pa⟩:=by
   unfold stP;rw [Rw];show stP ρ (stP ρ _ (evsL k p.c r)) _=_;rw [e,lose_k];show (⟨_,net.drop k,_,_⟩:Ps)=_;rw [Vv hn]
  rw [e2];refine ⟨tickT (fW ρ p.c E0 r) p.c++(nY (dZ (fW ρ p.c E0 r) p.c) ρ).out,?_,by rw [Bk]; omega⟩;have e3:(evF ρ ⟨fW ρ p.c E0 r,[],t,pa⟩ (tickEv p.c))=sndF ⟨fW ρ p.c E0 r,[],t,pa⟩ (oY (dZ (fW ρ p.c E0 r) p.c) ρ) [] (tickT (fW ρ p.c E0 r) p.c++(nY (dZ (fW ρ p.c E0 r) p.c) ρ).out):=rfl;rw [e3,snd_yes (by rw [Bk,Fq]; omega)]
  rfl
end Go.Proofs.YthgcgciceejicaaGreatDoor
