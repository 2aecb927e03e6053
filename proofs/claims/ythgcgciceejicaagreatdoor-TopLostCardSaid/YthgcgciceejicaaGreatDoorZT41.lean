/-
  Contracts of packages call and client, at calls that may be.
-/
import Derived.Test.YthgcgciceejicaaGreatDoorZT39
import Derived.Test.YthgcgciceejicaaGreatDoorZT40
set_option maxRecDepth 100000
namespace Go.Proofs.YthgcgciceejicaaGreatDoor
open Go.RowKit
set_option linter.unusedVariables false
theorem Pol.ok.old {p:Pol} (hp:p.ok):OkPol p.t p.b p.c:=⟨hp.t1,hp.t6,hp.b1,hp.bc,hp.cm⟩
theorem c_gapChk (p:Pol) (hp:p.ok) (h:Vw):C0 Tryz.prog 42 #[.agg #[Vi p.t,Vi p.b,Vi p.c]] h (λr _=>r=Vi 0):=C0.of_gives (λw=>gap_check p.t p.b p.c w hp.t1 hp.t6 hp.b1 hp.bc hp.cm) h
theorem chk_idle (p:Pol) (hp:p.ok) (h:Vw):C0 Tryz.prog 104 #[.agg #[Vi clZ.st,Vi clZ.id,Vi clZ.tr,Vi clZ.key.k,Vi clZ.key.n,.string clZ.key.s,Vi clZ.has.k,Vi clZ.has.n,.string clZ.has.s,Vi clZ.nx],.agg #[Vi p.t,Vi p.b,Vi p.c]] h (λr _=>r=Vi 0):=by
 have hg:=c_gapChk p hp;refine pQ Tryz.func104 λhbx hbad Q hQ=>?_;refine go2 67 [.own,.own,.b 0 0,.cl 42 #[.agg #[Vi p.t,Vi p.b,Vi p.c]] (Vi 0),.b 1 0,.b 1 0,.b 1 0,.b 1 0] [] ?_ (ho:=(Aj (λH sH=>hg _) (trivial)));intro b1 b2;refine hQ.to [Vi 0] (λH sH=>?_);exact rfl
theorem c_chk (p:Pol) (hp:p.ok) (c:Cl) (hc:ClOk p c) (h:Vw):C0 Tryz.prog 104 #[.agg #[Vi c.st,Vi c.id,Vi c.tr,Vi c.key.k,Vi c.key.n,.string c.key.s,Vi c.has.k,Vi c.has.n,.string c.has.s,Vi c.nx],.agg #[Vi p.t,Vi p.b,Vi p.c]] h (λr _=>r=Vi 0):=by
 rcases hc with rfl | hb
 ·exact chk_idle p hp h
 ·obtain ⟨st,id,tr,⟨kk,kn,ks⟩,has,nx⟩:=c;obtain ⟨s1,s3,i1,i2,t1,t2,n0,n1,key,ask,knw,giv⟩:=hb;have s1':1 <= st:=s1;have s3':st <= 3:=s3;rcases (by omega:st=1\/st=2\/st=3) with rfl | rfl | rfl
  ·obtain rfl:=ask rfl;exact C0.of_gives (λw=>call_check_ask p.t p.b p.c id tr kk kn nx ks w hp.old i1 i2 t1 t2 n0 n1 key) h
  ·obtain ⟨hk,rfl⟩:=knw rfl;obtain ⟨hk1,hn1,hs1⟩:=has;exact C0.of_gives (λw=>call_check_known p.t p.b p.c id tr kk kn hk1 hn1 ks hs1 w hp.old i1 i2 t1 t2 key hk) h
  ·obtain ⟨rfl,rfl,e⟩:=giv rfl;simp only at e;subst e;exact C0.of_gives (λw=>call_check_given p.t p.b p.c id p.t kk kn ks w hp.old i1 i2 rfl key) h
theorem c_start (p:Pol) (hp:p.ok) (id now:Int) (key:Vl) (hk:key.known) (i1:1 <= id) (i2:id <= 1073741824) (n0:0 <= now) (n1:now <= 1073741824) (h:Vw) :
  C0 Tryz.prog 227 #[.agg #[Vi p.t,Vi p.b,Vi p.c],Vi id,.agg #[Vi key.k,Vi key.n,.string key.s],Vi now] h (λr _=>r=.tuple #[.agg #[Vi 1,Vi id,Vi 1,Vi key.k,Vi key.n,.string key.s,Vi 0,Vi 0,.string ⟨#[]⟩,Vi (now + p.b)],Vi 0]) :=
 C0.of_gives (λw=>call_start p.t p.b p.c id key.k key.n now key.s w hp.old i1 i2 n0 n1 hk) h
theorem c_ansC (c:Cl) (h:Vw):C0 Tryz.prog 139 #[.agg #[Vi c.st,Vi c.id,Vi c.tr,Vi c.key.k,Vi c.key.n,.string c.key.s,Vi c.has.k,Vi c.has.n,.string c.has.s,Vi c.nx]] h (λr _=>r=(ansC c).val):=by
 refine pQ Tryz.func139 λhbx hbad Q hQ=>?_;refine go2 20 [.own,.own,.b 1 0] [] ?_;intro b1 b2
 by_cases h2:c.st=2
 ·have e:ansC c=c.has:=by unfold ansC; rw [Cj h2]
  refine jV (t:=c.st == 2) (Xj.2 h2) ?_;refine go0 10 [.b 1 6,.b 0 0] [] ?_;refine hQ.to [.agg #[Vi c.has.k,Vi c.has.n,.string c.has.s]] (λH sH=>?_) (ix:=[0]);exact Dj Vl.val e.symm
 ·skip;refine tQ (t:=c.st == 2) (Lj.2 h2) ?_
  refine go0 6 [] [] ?_
  by_cases h3:c.st=3
  ·have e:ansC c=⟨5,14,⟨#[]⟩⟩:=by unfold ansC; rw [Bj h2,Cj h3]
   refine jV (t:=c.st == 3) (Xj.2 h3) ?_;refine go0 9 [.b 0 0] [] ?_;refine hQ.to [.agg #[Vi 5,Vi 14,Ve]] (λH sH=>?_) (ix:=[0]);exact Dj Vl.val e.symm
  ·skip;have e:ansC c=pdV:=by unfold ansC; rw [Bj h2,Bj h3]
   refine tQ (t:=c.st == 3) (Lj.2 h3) ?_;refine go0 10 [.b 0 0] [] ?_;refine hQ.to [.agg #[Vi 4,Vi 0,Ve]] (λH sH=>?_) (ix:=[0]);exact Dj Vl.val e.symm
theorem kn_dec (v:Vl) (hv:OkV v) (h:Vw):C0 Tryz.prog 60 #[.agg #[Vi v.k,Vi v.n,.string v.s]] h (λr _=>r=.bool (decide (v.k <= 3))):=by
 by_cases q:v.k <= 3
 ·rw [Jj q];rcases hv with k | rfl | ⟨k,-⟩
  ·exact c_kn v.k v.n v.s h k
  ·exact absurd q (by decide)
  ·omega
 ·rw [Kj q];exact known_no v h q (ok_kinds hv).1
def turnR (r:Cl × Bool):Value:=.tuple #[.agg r.1.cells.toArray,.bool r.2,Vi 0]
theorem c_turn (p:Pol) (hp:p.ok) (c:Cl) (hc:ClOk p c) (id now:Int) (key:Vl) (hk:OkV key) (i1:1 <= id) (i2:id <= 1073741824) (n0:0 <= now) (n1:now <= 1073741824) (h:Vw) :
  C0 Tryz.prog 194 #[.agg #[Vi c.st,Vi c.id,Vi c.tr,Vi c.key.k,Vi c.key.n,.string c.key.s,Vi c.has.k,Vi c.has.n,.string c.has.s,Vi c.nx],.agg #[Vi p.t,Vi p.b,Vi p.c],Vi id,.agg #[Vi key.k,Vi key.n,.string key.s],Vi now] h (λr _=>r=turnR (hZ p id now key c)):=by
 have hg:=c_chk p hp c hc;have hv:=λH=>check_okv key H hk;have hd:=kn_dec key hk
 by_cases q:key.k <= 3
 ·have kn:key.known:=by
   rcases hk with k | rfl | ⟨k,-⟩
   ·exact k
   ·exact absurd q (by decide)
   ·omega
  have hs:=c_start p hp id now key kn i1 i2 n0 n1;rw [Jj q] at hd;refine pQ Tryz.func194 λhbx hbad Q hQ=>?_;refine go3 5 [.own,.own,.own] [] ?_;intro b1 b2 b3;refine go1 58 [.own,.b 3 0,.b 2 0,.cl 104 #[.agg #[Vi c.st,Vi c.id,Vi c.tr,Vi c.key.k,Vi c.key.n,.string c.key.s,Vi c.has.k,Vi c.has.n,.string c.has.s,Vi c.nx],.agg #[Vi p.t,Vi p.b,Vi p.c]] (Vi 0),.b 1 0,.cl 85 #[.agg #[Vi key.k,Vi key.n,.string key.s]] (Vi 0),.b 1 0,.cl 60 #[.agg #[Vi key.k,Vi key.n,.string key.s]] (.bool true),.b 3 0] [] ?_ (ho:=(Aj (λH sH=>hg _) (Aj (λH sH=>hv _) (Aj (λH sH=>hd _) (trivial)))));intro b4
  by_cases s0:c.st=0
  ·have e:=iZ (p:=p) (id:=id) (now:=now) q (λ(k:c.st≠0 /\ eqB c.key key=true)=>k.1 s0);refine gV 37 (v:=.bool (c.st != 0)) (v':=.bool false) (Dj Value.bool (Rk.2 s0)) ?_;refine go0 16 [.b 2 0,.b 1 0] [] ?_;refine kQ (λH sH=>hs _) ?_; rintro _ W5 S6 rfl;refine go1 27 [.own,.b 0 0,.b 0 0,.b 1 0] [] ?_;intro b7;refine hQ.to [.agg #[Vi 1,Vi id,Vi 1,Vi key.k,Vi key.n,.string key.s,Vi 0,Vi 0,Ve,Vi (now + p.b)],.bool true,Vi 0] (λH sH=>?_) (ix:=[1]);exact Dj turnR e.symm
  ·skip;refine gV 37 (v:=.bool (c.st != 0)) (v':=.bool true) (Dj Value.bool (Hk.2 s0)) ?_
   by_cases e:eqB c.key key=true
   ·have e':=kZ (p:=p) (id:=id) (now:=now) q s0 e;refine go0 3 [.b 3 3,.b 1 0] [] ?_;refine eV (.bool true) (λw=>run_eqop (x:=(.tmp 39)) (y:=(.tmp 40)) (v:=c.key) (w:=key) (by kernel_rfl) (by kernel_rfl) (by kernel_rfl) (e)) ?_;refine go0 14 [.b 3 0,.b 0 0] [] ?_;refine hQ.to [.agg #[Vi c.st,Vi c.id,Vi c.tr,Vi c.key.k,Vi c.key.n,.string c.key.s,Vi c.has.k,Vi c.has.n,.string c.has.s,Vi c.nx],.bool false,Vi 0] (λH sH=>?_) (ix:=[0]);exact Dj turnR e'.symm
   ·skip;have e':=iZ (p:=p) (id:=id) (now:=now) q (λ(k:c.st≠0 /\ eqB c.key key=true)=>e k.2)
    refine go0 3 [.b 3 3,.b 1 0] [] ?_;refine eV (.bool false) (λw=>run_eqop (x:=(.tmp 39)) (y:=(.tmp 40)) (v:=c.key) (w:=key) (by kernel_rfl) (by kernel_rfl) (by kernel_rfl) (Sq.2 e)) ?_;refine go0 12 [.b 2 0,.b 1 0] [] ?_;refine kQ (λH sH=>hs _) ?_; rintro _ W8 S9 rfl;refine go1 27 [.own,.b 0 0,.b 0 0,.b 1 0] [] ?_;intro b10;refine hQ.to [.agg #[Vi 1,Vi id,Vi 1,Vi key.k,Vi key.n,.string key.s,Vi 0,Vi 0,Ve,Vi (now + p.b)],.bool true,Vi 0] (λH sH=>?_) (ix:=[1]);exact Dj turnR e'.symm
 ·have e:=jZ (p:=p) (id:=id) (now:=now) (c:=c) q;rw [Kj q] at hd;refine pQ Tryz.func194 λhbx hbad Q hQ=>?_;refine go3 5 [.own,.own,.own] [] ?_;intro b1 b2 b3;refine go1 59 [.own,.b 3 0,.b 2 0,.cl 104 #[.agg #[Vi c.st,Vi c.id,Vi c.tr,Vi c.key.k,Vi c.key.n,.string c.key.s,Vi c.has.k,Vi c.has.n,.string c.has.s,Vi c.nx],.agg #[Vi p.t,Vi p.b,Vi p.c]] (Vi 0),.b 1 0,.cl 85 #[.agg #[Vi key.k,Vi key.n,.string key.s]] (Vi 0),.b 1 0,.cl 60 #[.agg #[Vi key.k,Vi key.n,.string key.s]] (.bool false),.b 0 0] [] ?_ (ho:=(Aj (λH sH=>hg _) (Aj (λH sH=>hv _) (Aj (λH sH=>hd _) (trivial)))));intro b4;refine hQ.to [.agg #[Vi 0,Vi 0,Vi 0,Vi 0,Vi 0,Ve,Vi 0,Vi 0,Ve,Vi 0],.bool false,Vi 0] (λH sH=>?_) (ix:=[0]);exact Dj turnR e.symm
theorem c_letter (nm:ByteArray) (c:Cl) (h1:c.st=1) (h:Vw):C0 Tryz.prog 106 #[Vt nm,.agg #[Vi c.st,Vi c.id,Vi c.tr,Vi c.key.k,Vi c.key.n,.string c.key.s,Vi c.has.k,Vi c.has.n,.string c.has.s,Vi c.nx]] h (λr _=>r=.tuple #[.agg (ltOf nm c).cells.toArray,Vi 0]):=by
 refine pQ Tryz.func106 λhbx hbad Q hQ=>?_;refine go2 31 [.own,.own,.b 1 0,.b 1 1,.b 1 3,.b 0 0] [(8,.bool (c.st != 1),.bool false)] ?_ (hc:=(Aj (Dj Value.bool (Rk.2 h1)) (trivial)));intro b1 b2;refine hQ.to [.agg #[Vt nm,Vi c.id,Vi c.key.k,Vi c.key.n,.string c.key.s,Vi 0,Vi 0,Ve],Vi 0] (λH sH=>?_) (ix:=[0]);exact rfl
def mZ (p:Pol) (now:Int) (c:Cl):Cl × Bool :=
 if c.st≠1\/now < c.nx then (c,false) else if c.tr=p.t then (⟨3,c.id,c.tr,c.key,c.has,0⟩,false) else (⟨c.st,c.id,c.tr + 1,c.key,c.has,now + gapV p.b p.c (c.tr + 1)⟩,true)
theorem qZ {p:Pol} {now:Int} {c:Cl} (h:c.st≠1\/now < c.nx):mZ p now c=(c,false):=by unfold mZ; rw [Cj h]
theorem pZ {p:Pol} {now:Int} {c:Cl} (h:¬ (c.st≠1\/now < c.nx)) (h2:c.tr=p.t):mZ p now c=(⟨3,c.id,c.tr,c.key,c.has,0⟩,false):=by unfold mZ; rw [Bj h,Cj h2]
theorem oZ {p:Pol} {now:Int} {c:Cl} (h:¬ (c.st≠1\/now < c.nx)) (h2:c.tr≠p.t):mZ p now c=(⟨c.st,c.id,c.tr + 1,c.key,c.has,now + gapV p.b p.c (c.tr + 1)⟩,true):=by unfold mZ; rw [Bj h,Bj h2]
theorem wake_ok {p:Pol} (hp:p.ok) {now:Int} {c:Cl} (hc:ClOk p c) (n0:0 <= now) (n1:now <= 1073741824):ClOk p (mZ p now c).1 /\ (mZ p now c).1.id=c.id /\ ((mZ p now c).1.st≠0 -> c.st≠0) /\ ((mZ p now c).1.st=2 -> (mZ p now c).1=c) /\ (mZ p now c).1.key=c.key:=by
 by_cases h:c.st≠1\/now < c.nx
 ·rw [qZ h]; exact ⟨hc,rfl,id,λ_=>rfl,rfl⟩
 ·have h1:c.st=1:=by omega
  have hb:=hc.live (by omega);obtain ⟨s1,s3,i1,i2,t1,t2,m0,m1,key,ask,knw,giv⟩:=hb
  by_cases h2:c.tr=p.t
  ·rw [pZ h h2];exact ⟨.inr ⟨by show (1:Int) <= 3; decide,by show (3:Int) <= 3; decide,i1,i2,t1,t2,Tq 0,by show (0:Int) <= _; decide,key,λq=>absurd (show (3:Int)=1 from q) (by decide),λq=>absurd (show (3:Int)=2 from q) (by decide),λ_=>⟨ask h1,rfl,h2⟩⟩,rfl,λ_=>by omega,λq=>absurd (show (3:Int)=2 from q) (by decide),rfl⟩
  ·rw [oZ h h2];have g0:=gapV_lo (b:=p.b) (c:=p.c) (n:=c.tr + 1) hp.b1 hp.bc hp.cm (by omega) (by have:=hp.t6; omega);have g1:=gapV_hi (b:=p.b) (c:=p.c) (n:=c.tr + 1)
   have:=hp.cm
   exact ⟨.inr ⟨s1,s3,i1,i2,by show 1 <= c.tr + 1; omega,by show c.tr + 1 <= p.t; omega,by show 0 <= now + _; omega,by show now + _ <= 1073742824; omega,key,ask,λq=>absurd (h1.symm.trans q) (by decide),λq=>absurd (h1.symm.trans q) (by decide)⟩,rfl,λ_=>by omega,λq=>absurd (h1.symm.trans (show c.st=2 from q)) (by decide),rfl⟩
def wakeR (r:Cl × Bool):Value:=.tuple #[.agg r.1.cells.toArray,.bool r.2,Vi 0]
theorem c_wake (p:Pol) (hp:p.ok) (c:Cl) (hc:ClOk p c) (now:Int) (n0:0 <= now) (n1:now <= 1073741824) (h:Vw) :
  C0 Tryz.prog 56 #[.agg #[Vi c.st,Vi c.id,Vi c.tr,Vi c.key.k,Vi c.key.n,.string c.key.s,Vi c.has.k,Vi c.has.n,.string c.has.s,Vi c.nx],.agg #[Vi p.t,Vi p.b,Vi p.c],Vi now] h (λr _=>r=wakeR (mZ p now c)):=by
 have hg:=c_chk p hp c hc;have hgo:c.st=1 -> c.tr≠p.t -> ∀ H,C0 Tryz.prog 105 #[.agg #[Vi p.t,Vi p.b,Vi p.c],Vi (c.tr + 1)] H (λr _=>r=.tuple #[Vi (gapV p.b p.c (c.tr + 1)),Vi 0]):=λh1 h2 H=>by
  obtain ⟨s1,s3,i1,i2,t1,t2,m0,m1,key,ask,knw,giv⟩:=hc.live (by omega);exact C0.of_gives (λw=>gap_of p.t p.b p.c (c.tr + 1) w hp.t1 hp.t6 hp.b1 hp.bc hp.cm (by omega) (by omega)) H
 have hgb:c.st=1 -> c.tr≠p.t -> 0 <= now + gapV p.b p.c (c.tr + 1) /\ now + gapV p.b p.c (c.tr + 1) <= 1073742824 /\ 1 <= c.tr /\ c.tr <= 6:=λh1 h2=>by
  obtain ⟨s1,s3,i1,i2,t1,t2,m0,m1,key,ask,knw,giv⟩:=hc.live (by omega);have g0:=gapV_lo (b:=p.b) (c:=p.c) (n:=c.tr + 1) hp.b1 hp.bc hp.cm (by omega) (by have:=hp.t6; omega);have g1:=gapV_hi (b:=p.b) (c:=p.c) (n:=c.tr + 1)
  have:=hp.cm
  have:=hp.t6
  omega
 refine pQ Tryz.func56 λhbx hbad Q hQ=>?_;refine go3 48 [.own,.own,.own,.b 2 0,.b 1 0,.cl 104 #[.agg #[Vi c.st,Vi c.id,Vi c.tr,Vi c.key.k,Vi c.key.n,.string c.key.s,Vi c.has.k,Vi c.has.n,.string c.has.s,Vi c.nx],.agg #[Vi p.t,Vi p.b,Vi p.c]] (Vi 0),.b 2 0] [(20,.bool (decide (now < 0)),.bool false),(23,.bool (decide (now > 1073741824)),.bool false)] ?_ (ho:=(Aj (λH sH=>hg _) (trivial))) (hc:=(Aj (Dj Value.bool (Kj (by omega))) (Aj (Dj Value.bool (Kj (by omega))) (trivial))));intro b1 b2 b3
 by_cases h1:c.st=1
 ·refine gV 29 (v:=.bool (c.st != 1)) (v':=.bool false) (Dj Value.bool (Rk.2 h1)) ?_
  by_cases h2:now < c.nx
  ·have e:=qZ (p:=p) (now:=now) (c:=c) (.inr h2);refine go0 18 [.b 2 9,.b 2 0,.b 0 0] [(33,.bool (decide (c.nx > now)),.bool true)] ?_ (hc:=(Aj (Dj Value.bool (Jj h2)) (trivial)));refine hQ.to [.agg #[Vi c.st,Vi c.id,Vi c.tr,Vi c.key.k,Vi c.key.n,.string c.key.s,Vi c.has.k,Vi c.has.n,.string c.has.s,Vi c.nx],.bool false,Vi 0] (λH sH=>?_) (ix:=[0]);exact Dj wakeR e.symm
  ·skip;have hno:¬ (c.st≠1\/now < c.nx):=by omega
   refine go0 20 [.b 2 9,.b 2 2,.b 1 0] [(33,.bool (decide (c.nx > now)),.bool false)] ?_ (hc:=(Aj (Dj Value.bool (Kj h2)) (trivial)))
   by_cases h3:c.tr=p.t
   ·have e:=pZ hno h3;refine jV (t:=c.tr == p.t) (Xj.2 h3) ?_;refine go0 18 [.b 2 0,.b 2 9,.b 2 0,.b 0 0] [] ?_;refine hQ.to [.agg #[Vi 3,Vi c.id,Vi c.tr,Vi c.key.k,Vi c.key.n,.string c.key.s,Vi c.has.k,Vi c.has.n,.string c.has.s,Vi 0],.bool false,Vi 0] (λH sH=>?_) (ix:=[0]);exact Dj wakeR e.symm
   ·skip;have e:=oZ (now:=now) hno h3
    have hgo':=hgo h1 h3;obtain ⟨b0,b1,b2,b3⟩:=hgb h1 h3;generalize gapV p.b p.c (c.tr + 1)=gp at *;refine tQ (t:=c.tr == p.t) (Lj.2 h3) ?_;refine go0 42 [.b 2 2,.b 2 2,.b 1 0,.b 2 2,.cl 105 #[.agg #[Vi p.t,Vi p.b,Vi p.c],Vi (c.tr + 1)] (.tuple #[Vi gp,Vi 0]),.b 2 9,.b 2 0,.b 0 0] [(46,Vi (IntKind.i64.wrap (c.tr + 1)),Vi (c.tr + 1)),(57,Vi (IntKind.i64.wrap (now + gp)),Vi (now + gp))] ?_ (ho:=(Aj (λH sH=>hgo' _) (trivial))) (hc:=(Aj (jJ (by omega) (by omega)) (Aj (jJ (by omega) (by omega)) (trivial))));refine hQ.to [.agg #[Vi c.st,Vi c.id,Vi (c.tr + 1),Vi c.key.k,Vi c.key.n,.string c.key.s,Vi c.has.k,Vi c.has.n,.string c.has.s,Vi (now + gp)],.bool true,Vi 0] (λH sH=>?_) (ix:=[0]);exact Dj wakeR e.symm
 ·skip;have e:=qZ (p:=p) (now:=now) (c:=c) (.inl h1)
  refine gV 29 (v:=.bool (c.st != 1)) (v':=.bool true) (Dj Value.bool (Hk.2 h1)) ?_;refine go0 18 [.b 2 0,.b 0 0] [] ?_;refine hQ.to [.agg #[Vi c.st,Vi c.id,Vi c.tr,Vi c.key.k,Vi c.key.n,.string c.key.s,Vi c.has.k,Vi c.has.n,.string c.has.s,Vi c.nx],.bool false,Vi 0] (λH sH=>?_) (ix:=[0]);exact Dj wakeR e.symm
def hearC (id:Int) (key has:Vl) (c:Cl):Cl × Bool :=
 if c.st=1 /\ c.id=id /\ eqB c.key key=true /\ has.k <= 3 then (⟨2,c.id,c.tr,c.key,has,0⟩,true) else (c,false)
theorem hear_yes {id:Int} {key has:Vl} {c:Cl} (h1:c.st=1) (h2:c.id=id) (h3:eqB c.key key=true) (h4:has.k <= 3):hearC id key has c=(⟨2,c.id,c.tr,c.key,has,0⟩,true):=by unfold hearC; rw [Cj ⟨h1,h2,h3,h4⟩]
theorem hear_no {id:Int} {key has:Vl} {c:Cl} (h:¬ (c.st=1 /\ c.id=id /\ eqB c.key key=true /\ has.k <= 3)):hearC id key has c=(c,false):=by unfold hearC; rw [Bj h]
theorem hear_ok {p:Pol} {id:Int} {key has:Vl} {c:Cl} (hc:ClOk p c) (hh:OkV has):ClOk p (hearC id key has c).1 /\ (hearC id key has c).1.id=c.id /\ ((hearC id key has c).1.st≠0 -> c.st≠0) /\ (hearC id key has c).1.key=c.key:=by
 by_cases h:c.st=1 /\ c.id=id /\ eqB c.key key=true /\ has.k <= 3
 ·obtain ⟨h1,h2,h3,h4⟩:=h;obtain ⟨s1,s3,i1,i2,t1,t2,m0,m1,hkey,ask,knw,giv⟩:=hc.live (by omega);have kn:has.known:=by
   rcases hh with k | rfl | ⟨k,-⟩
   ·exact k
   ·exact absurd h4 (by decide)
   ·omega
  rw [hear_yes h1 h2 h3 h4];exact ⟨.inr ⟨by show (1:Int) <= 2; decide,by show (2:Int) <= 3; decide,i1,i2,t1,t2,Tq 0,by show (0:Int) <= _; decide,hkey,λq=>absurd (show (2:Int)=1 from q) (by decide),λ_=>⟨kn,rfl⟩,λq=>absurd (show (2:Int)=3 from q) (by decide)⟩,rfl,λ_=>by omega,rfl⟩
 ·rw [hear_no h]; exact ⟨hc,rfl,λq=>q,rfl⟩
theorem c_hear (p:Pol) (hp:p.ok) (c:Cl) (hc:ClOk p c) (id:Int) (key has:Vl) (hh:OkV has) (h:Vw) :
  C0 Tryz.prog 97 #[.agg #[Vi c.st,Vi c.id,Vi c.tr,Vi c.key.k,Vi c.key.n,.string c.key.s,Vi c.has.k,Vi c.has.n,.string c.has.s,Vi c.nx],.agg #[Vi p.t,Vi p.b,Vi p.c],Vi id,.agg #[Vi key.k,Vi key.n,.string key.s],.agg #[Vi has.k,Vi has.n,.string has.s]] h (λr _=>r=wakeR (hearC id key has c)):=by
 have hg:=c_chk p hp c hc;have hd:=kn_dec has hh;refine pQ Tryz.func97 λhbx hbad Q hQ=>?_;refine go3 5 [.own,.own,.own] [] ?_;intro b1 b2 b3;refine go2 31 [.own,.own,.b 4 0,.b 3 0,.cl 104 #[.agg #[Vi c.st,Vi c.id,Vi c.tr,Vi c.key.k,Vi c.key.n,.string c.key.s,Vi c.has.k,Vi c.has.n,.string c.has.s,Vi c.nx],.agg #[Vi p.t,Vi p.b,Vi p.c]] (Vi 0),.b 4 0] [] ?_ (ho:=(Aj (λH sH=>hg _) (trivial)));intro b4 b5
 by_cases h1:c.st=1
 ·refine gV 24 (v:=.bool (c.st != 1)) (v':=.bool false) (Dj Value.bool (Rk.2 h1)) ?_;refine go0 6 [.b 4 1] [] ?_
  by_cases h2:c.id=id
  ·refine gV 30 (v:=.bool (c.id != id)) (v':=.bool false) (Dj Value.bool (Rk.2 h2)) ?_
   by_cases h3:eqB c.key key=true
   ·skip
    by_cases h4:has.k <= 3
    ·have e:=hear_yes h1 h2 h3 h4;rw [Jj h4] at hd;refine go0 3 [.b 4 3,.b 2 0] [] ?_;refine eV (.bool false) (λw=>run_neqop (x:=(.tmp 32)) (y:=(.tmp 33)) (v:=c.key) (w:=key) (by kernel_rfl) (by kernel_rfl) (by kernel_rfl) (h3)) ?_;refine go0 12 [.b 1 0,.cl 60 #[.agg #[Vi has.k,Vi has.n,.string has.s]] (.bool true)] [] ?_ (ho:=(Aj (λH sH=>hd _) (trivial)));refine fV 7 0 [.ld 1 0,.pu,.st 4 0,.pu,.st 4 6,.pu,.st 4 9] [] (trivial) ?_ ?_
     ·intros; trivial
     rintro W6 S7 -;refine go0 10 [.b 4 0,.b 0 0] [] ?_;refine hQ.to [.agg #[Vi 2,Vi c.id,Vi c.tr,Vi c.key.k,Vi c.key.n,.string c.key.s,Vi has.k,Vi has.n,.string has.s,Vi 0],.bool true,Vi 0] (λH sH=>?_) (ix:=[0]);exact Dj wakeR e.symm
    ·skip;have e:=hear_no (id:=id) (key:=key) (has:=has) (c:=c) λq=>h4 q.2.2.2
     rw [Kj h4] at hd;refine go0 3 [.b 4 3,.b 2 0] [] ?_;refine eV (.bool false) (λw=>run_neqop (x:=(.tmp 32)) (y:=(.tmp 33)) (v:=c.key) (w:=key) (by kernel_rfl) (by kernel_rfl) (by kernel_rfl) (h3)) ?_;refine go0 19 [.b 1 0,.cl 60 #[.agg #[Vi has.k,Vi has.n,.string has.s]] (.bool false),.b 4 0,.b 0 0] [] ?_ (ho:=(Aj (λH sH=>hd _) (trivial)));refine hQ.to [.agg #[Vi c.st,Vi c.id,Vi c.tr,Vi c.key.k,Vi c.key.n,.string c.key.s,Vi c.has.k,Vi c.has.n,.string c.has.s,Vi c.nx],.bool false,Vi 0] (λH sH=>?_) (ix:=[0]);exact Dj wakeR e.symm
   ·skip;have e:=hear_no (id:=id) (key:=key) (has:=has) (c:=c) λq=>h3 q.2.2.1
    refine go0 3 [.b 4 3,.b 2 0] [] ?_;refine eV (.bool true) (λw=>run_neqop (x:=(.tmp 32)) (y:=(.tmp 33)) (v:=c.key) (w:=key) (by kernel_rfl) (by kernel_rfl) (by kernel_rfl) (Sq.2 h3)) ?_;refine go0 19 [.b 4 0,.b 0 0] [] ?_;refine hQ.to [.agg #[Vi c.st,Vi c.id,Vi c.tr,Vi c.key.k,Vi c.key.n,.string c.key.s,Vi c.has.k,Vi c.has.n,.string c.has.s,Vi c.nx],.bool false,Vi 0] (λH sH=>?_) (ix:=[0]);exact Dj wakeR e.symm
  ·skip;have e:=hear_no (id:=id) (key:=key) (has:=has) (c:=c) λq=>h2 q.2.1
   refine gV 30 (v:=.bool (c.id != id)) (v':=.bool true) (Dj Value.bool (Hk.2 h2)) ?_;refine go0 23 [.b 4 0,.b 0 0] [] ?_;refine hQ.to [.agg #[Vi c.st,Vi c.id,Vi c.tr,Vi c.key.k,Vi c.key.n,.string c.key.s,Vi c.has.k,Vi c.has.n,.string c.has.s,Vi c.nx],.bool false,Vi 0] (λH sH=>?_) (ix:=[0]);exact Dj wakeR e.symm
 ·skip;have e:=hear_no (id:=id) (key:=key) (has:=has) (c:=c) λq=>h1 q.1
  refine gV 24 (v:=.bool (c.st != 1)) (v':=.bool true) (Dj Value.bool (Hk.2 h1)) ?_;refine go0 29 [.b 4 0,.b 0 0] [] ?_;refine hQ.to [.agg #[Vi c.st,Vi c.id,Vi c.tr,Vi c.key.k,Vi c.key.n,.string c.key.s,Vi c.has.k,Vi c.has.n,.string c.has.s,Vi c.nx],.bool false,Vi 0] (λH sH=>?_) (ix:=[0]);exact Dj wakeR e.symm
end Go.Proofs.YthgcgciceejicaaGreatDoor
