/-
  The laws' Oracle, in plain words: all keys that come up, answered. Such answers may be.
-/
import Derived.Test.YthgcgciceejicaaGreatDoorZC49
import Derived.Test.YthgcgciceejicaaGreatDoorZC47
import Derived.Test.YthgcgciceejicaaGreatDoorZC48
set_option maxHeartbeats 4000000
set_option maxRecDepth 100000
namespace Go.Proofs.YthgcgciceejicaaGreatDoor
open Go.RowKit
set_option linter.unusedVariables false
def abcB:ByteArray:=⟨#[97,98,99,100,101,102,103,104,105]⟩
def ansN (f:Fd) (key:Vl):Int:=Int.tmod key.n 9 + 3 * (key.s.size:Int) + (f.name.size:Int)
def rJ (f:Fd) (key:Vl):Vl:=if f.ty=1 then ⟨1,ansN f key,⟨#[]⟩⟩ else if f.ty=2 then ⟨2,cJ (ansN f key) 2,⟨#[]⟩⟩ else ⟨3,0,f.name++abcB.extract 0 (cJ (ansN f key) 9).toNat⟩
theorem word_print {c:UInt8} (h:tV c=true):32 <= c.toNat /\ c.toNat <= 126:=by
 unfold tV isLet isDig at h;simp only [Pv,Mw] at h;omega
theorem name_print {s:ByteArray} (h:pJ s.data.toList):s.size <= 10 /\ ∀ i (hi:i < s.size),32 <= s[i].toNat /\ s[i].toNat <= 126:=by
 obtain ⟨-,h2,-,h4,-⟩:=h;have hsz:s.data.toList.length=s.size:=by simp
 refine ⟨by omega,λi hi=>?_⟩;have hg:s.data.toList[i]?=some s[i]:=by
  rw [Fj (by omega)]
  congr 1
 exact word_print (span_all tV s.data.toList i s[i] (by omega) hg)
theorem abc_all:∀ i (hi:i < 9),32 <= (abcB[i]'hi).toNat /\ (abcB[i]'hi).toNat <= 126:=by decide
theorem abc_print (k:Nat):(abcB.extract 0 k).size <= 9 /\ ∀ i (hi:i < (abcB.extract 0 k).size),32 <= (abcB.extract 0 k)[i].toNat /\ (abcB.extract 0 k)[i].toNat <= 126:=by
 have hs:(abcB.extract 0 k).size=min k abcB.size - 0:=ByteArray.size_extract ..;have h9:abcB.size=9:=rfl;refine ⟨by omega,λi hi=>?_⟩;rw [ByteArray.getElem_extract]
 have:=abc_all (0 + i) (by omega)
 exact this
theorem known_size {v:Vl} (h:v.known):v.s.size <= 40:=by
 rcases h with ⟨-,-,e⟩ | ⟨-,-,e⟩ | ⟨-,-,e,-⟩
 ·rw [e]; decide
 ·rw [e]; decide
 ·exact e
theorem ansN_lo (f:Fd) (key:Vl) (hn:f.name.size <= 10) (hk:key.s.size <= 40) : -8 <= ansN f key /\ ansN f key <= 138:=by
 have h1:=Int.tmod_lt_of_pos key.n (show (0:Int) < 9 by decide);have h2:=Int.lt_tmod_of_pos key.n (show (0:Int) < 9 by decide);unfold ansN;omega
theorem ans_known {fs:List Fd} {f:Fd} (hf:OkF fs f) {key:Vl} (hk:key.known):(rJ f key).known /\ (rJ f key).k=f.ty:=by
 obtain ⟨hn,hp⟩:=name_print hf.name;have hr:=ansN_lo f key hn (known_size hk);have t1:=hf.t1;have t3:=hf.t3;unfold rJ
 by_cases g1:f.ty=1
 ·rw [Cj g1];exact ⟨.inl ⟨rfl,by show Lim (ansN f key); unfold Lim; omega,rfl⟩,g1.symm⟩
 by_cases g2:f.ty=2
 ·rw [Bj g1,Cj g2];have p0:=oX (ansN f key) 2 (by omega);have p1:=nX (ansN f key) 2 (by omega);exact ⟨.inr (.inl ⟨rfl,by show cJ _ _=0\/cJ _ _=1; omega,rfl⟩),g2.symm⟩
 rw [Bj g1,Bj g2];obtain ⟨ha,hb⟩:=abc_print (cJ (ansN f key) 9).toNat;generalize abcB.extract 0 (cJ (ansN f key) 9).toNat=t at *;have hs:(f.name++t).size=f.name.size + t.size:=ByteArray.size_append ..;refine ⟨.inr (.inr ⟨rfl,rfl,by show (f.name++t).size <= 40; omega,λi hi=>?_⟩),by show (3:Int)=_; omega⟩;have hi':i < f.name.size + t.size:=by rw [<- hs]; exact hi
 show 32 <= (f.name++t)[i].toNat /\ _
 by_cases hlt:i < f.name.size
 ·rw [ByteArray.getElem_append_left hlt]; exact hp i hlt
 ·rw [ByteArray.getElem_append_right (by omega)]; exact hb _ (by omega)
def InpTy (fs:List Fd) (inp:Env):Prop:=∀ (i:Nat) (f:Fd),fs[i]?=some f -> f.kind=1 -> ∀ p∈inp,p.1=f.name -> p.2.k=f.ty
structure Wh (fs:List Fd) (inp:Env) (ρ:List Int) (lv:Nat -> Nat) (os:List Nat):Prop where
 ok:OkFs fs
 known:∀ p∈inp,p.2.known
 ty:InpTy fs inp
 ord:Ordd fs ρ lv os
section
variable {fs:List Fd} {inp:Env} {ρ:List Int} {lv:Nat -> Nat} {os:List Nat}
open Classical in
theorem get_keep (R:List ByteArray) (s:ByteArray):∀ l:Env,Env.get (l.filter λp=>decide (p.1∈R)) s=if s∈R then l.get s else none
 | []=>by simp [Env.get]
 | (k,v) :: l=>by
  have ih:=get_keep R s l
  by_cases hk:k∈R
  ·rw [List.filter_cons_of_pos (by simpa using hk)]
   by_cases e:s=k
   ·subst e;rw [env_hit,env_hit,Cj hk]
   ·rw [env_miss _ _ e,env_miss _ _ e,ih]
  ·rw [List.filter_cons_of_neg (by simpa using hk),ih]
   by_cases hs:s∈R
   ·rw [Cj hs,Cj hs,env_miss _ _ (λe:s=k=>hk (e ▸ hs))]
   ·rw [Bj hs,Bj hs]
open Classical in
theorem eval_growsR {e1 e2:Env} {x:Ex} (h:∀ s∈uX x,∃ w v,e1.get s=some w /\ e2.get s=some v /\ Grows w v) (hx:WfE x):Grows (mK e1 x) (mK e2 x):=by
 have g1:mK e1 x=mK (e1.filter λp=>decide (p.1∈uX x)) x:=eval_local λs hs=>by rw [get_keep,Cj hs]
 have g2:mK e2 x=mK (e2.filter λp=>decide (p.1∈uX x)) x:=eval_local λs hs=>by rw [get_keep,Cj hs]
 rw [g1,g2];refine eval_grows (λs=>?_) hx;rw [get_keep,get_keep]
 by_cases hs:s∈uX x
 ·rw [Cj hs,Cj hs]; exact .inr (h s hs)
 ·rw [Bj hs,Bj hs]; exact .inl ⟨rfl,rfl⟩
end
theorem fcs_ok {fs:List Fd} {vs:List Vl} (h:∀ x∈vs,OkV x):∀ p∈fcs fs vs,OkV p.2:=by
 induction fs generalizing vs with
 | nil=>intro p hp; cases hp
 | cons f fs ih =>
  cases vs with
  | nil=>intro p hp; cases hp
  | cons v vs =>
   intro p hp;rcases Tj.1 hp with rfl | hp
   ·exact h v (by simp)
   ·exact ih (λx hx=>h x (by simp [hx])) p hp
theorem run_rem9 {P:Program} {t:TypeId} (a:Int) (w:World):(binOp .rem t (Vi a) (Vi 9)).run P w=.ok (Vi (Int.tmod a 9)) w:=by
 simp [binOp,Op.intDiv]
theorem run_hiS {P:Program} {o:Oper} {ρ:Operand -> Value} {t:TypeId} {x y:Operand} {s:ByteArray} {k:Int} (w:World) (ho:o.op=.slice t x none (some y) none) (hx:ρ x=.string s) (hy:ρ y=Vi k) (h0:0 <= k) (hk:k <= s.size) (ht:P.underlying t=some .string) :
  (execOp ρ o).run P w=.ok (.value (Vt (s.extract 0 k.toNat))) w:=by
 unfold execOp;simp only [ho,hx,hy,Vq,Option.map_none];simp [run_sliceAt_string (w:=w) t _ _ _ _ ht,run_slice_string_h (w:=w) t s ht .i64 k h0 hk]
theorem answered_any (f:Fd) (A:Option Addr) (n c:Nat) (key:Vl) (h:Vw) (hn:f.name.size <= 10) (hk:key.s.size <= 40) (t1:1 <= f.ty) (t3:f.ty <= 3):C0 Tryz.prog 55 #[.agg #[Vt f.name,Vi f.kind,Vi f.ty,Vi f.src.op,Vi f.src.k,Vi f.src.n,.string f.src.s,.string f.src.nm,.slice A n c],.agg #[Vi key.k,Vi key.n,.string key.s]] h (λr _=>r=(rJ f key).val):=by
 have hr:=ansN_lo f key hn hk;have hp2:=λH=>yJ (ansN f key) 2 H (by omega) (by omega) (by omega) (by omega);have hp9:=λH=>yJ (ansN f key) 9 H (by omega) (by omega) (by omega) (by omega);have p0:=oX (ansN f key) 9 (by omega);have p1:=nX (ansN f key) 9 (by omega);have habc:abcB.size=9:=rfl;have e:ansN f key=Int.tmod key.n 9 + 3 * (key.s.size:Int) + (f.name.size:Int):=rfl;have hs0:(0:Int) <= (key.s.size:Int):=Int.natCast_nonneg _;have hrem:key.n % 9=key.n % 9:=rfl;obtain g | g | g:f.ty=1\/f.ty=2\/f.ty=3:=by omega
 ·have ea:rJ f key=⟨1,ansN f key,⟨#[]⟩⟩:=by unfold rJ; rw [Cj g]
  rw [ea];generalize ansN f key=N at *;refine qQ Tryz.func55 λhbx hbad Q hQ=>?_;refine go3 11 [.own,.own,.own,.b 1 1] [] ?_;intro b1 b2 b3;refine fV (Vi (Int.tmod key.n 9)) (λw=>run_bin' (op:=.rem) (t:=3) (x:=(.tmp 7)) (y:=(.const (Vi 9))) (yt:=3) (run_rem9 key.n w)) ?_;refine go0 37 [.b 1 2,.b 2 0,.b 2 2,.b 0 0] [(12,Vi (IntKind.i64.wrap (3 * (key.s.size:Int))),Vi (3 * (key.s.size:Int))),(13,Vi (IntKind.i64.wrap (Int.tmod key.n 9 + (3 * (key.s.size:Int)))),Vi (Int.tmod key.n 9 + (3 * (key.s.size:Int)))),(17,Vi (IntKind.i64.wrap ((Int.tmod key.n 9 + (3 * (key.s.size:Int))) + (f.name.size:Int))),Vi N),(21,.bool (f.ty == 1),.bool true)] ?_ (hc:=(Aj (jJ (by omega) (by omega)) (Aj (jJ (by omega) (by omega)) (Aj ((jJ (by omega) (by omega)).trans (Dj (Value.int .i64) e.symm)) (Aj (Dj Value.bool (Xj.2 g)) (trivial))))));refine hQ.to [.agg #[Vi 1,Vi N,Ve]] (λH sH=>?_) (ix:=[0]);exact rfl
 ·have ea:rJ f key=⟨2,cJ (ansN f key) 2,⟨#[]⟩⟩:=by unfold rJ; rw [Bj (by omega),Cj g]
  rw [ea];generalize ansN f key=N at *;refine qQ Tryz.func55 λhbx hbad Q hQ=>?_;refine go3 11 [.own,.own,.own,.b 1 1] [] ?_;intro b1 b2 b3;refine fV (Vi (Int.tmod key.n 9)) (λw=>run_bin' (op:=.rem) (t:=3) (x:=(.tmp 7)) (y:=(.const (Vi 9))) (yt:=3) (run_rem9 key.n w)) ?_;refine go0 45 [.b 1 2,.b 2 0,.b 2 2,.cl 37 #[Vi N,Vi 2] (Vi (cJ N 2)),.b 0 0] [(12,Vi (IntKind.i64.wrap (3 * (key.s.size:Int))),Vi (3 * (key.s.size:Int))),(13,Vi (IntKind.i64.wrap (Int.tmod key.n 9 + (3 * (key.s.size:Int)))),Vi (Int.tmod key.n 9 + (3 * (key.s.size:Int)))),(17,Vi (IntKind.i64.wrap ((Int.tmod key.n 9 + (3 * (key.s.size:Int))) + (f.name.size:Int))),Vi N),(21,.bool (f.ty == 1),.bool false),(25,.bool (f.ty == 2),.bool true)] ?_ (ho:=(Aj (λH sH=>hp2 _) (trivial))) (hc:=(Aj (jJ (by omega) (by omega)) (Aj (jJ (by omega) (by omega)) (Aj ((jJ (by omega) (by omega)).trans (Dj (Value.int .i64) e.symm)) (Aj (Dj Value.bool (Jj.2 (by omega))) (Aj (Dj Value.bool (Xj.2 g)) (trivial)))))));refine hQ.to [.agg #[Vi 2,Vi (cJ N 2),Ve]] (λH sH=>?_) (ix:=[0]);exact rfl
 ·have ea:rJ f key=⟨3,0,f.name++abcB.extract 0 (cJ (ansN f key) 9).toNat⟩:=by unfold rJ; rw [Bj (by omega),Bj (by omega)]
  rw [ea];have hcut:=λ(ρ:Operand -> Value) (o:Oper) (x y:Operand) (w:World) q1 q2 q3=>run_hiS (P:=Tryz.prog) (o:=o) (ρ:=ρ) (t:=9) (x:=x) (y:=y) (s:=abcB) (k:=cJ (ansN f key) 9) w q1 q2 q3 p0 (by rw [habc]; omega) Tryz.underlying9;generalize ansN f key=N at *;generalize cJ N 9=q at *;have hcs:=(abc_print q.toNat).1;refine qQ Tryz.func55 λhbx hbad Q hQ=>?_;refine go3 11 [.own,.own,.own,.b 1 1] [] ?_;intro b1 b2 b3;refine fV (Vi (Int.tmod key.n 9)) (λw=>run_bin' (op:=.rem) (t:=3) (x:=(.tmp 7)) (y:=(.const (Vi 9))) (yt:=3) (run_rem9 key.n w)) ?_;refine go0 38 [.b 1 2,.b 2 0,.b 2 2] [(12,Vi (IntKind.i64.wrap (3 * (key.s.size:Int))),Vi (3 * (key.s.size:Int))),(13,Vi (IntKind.i64.wrap (Int.tmod key.n 9 + (3 * (key.s.size:Int)))),Vi (Int.tmod key.n 9 + (3 * (key.s.size:Int)))),(17,Vi (IntKind.i64.wrap ((Int.tmod key.n 9 + (3 * (key.s.size:Int))) + (f.name.size:Int))),Vi N),(21,.bool (f.ty == 1),.bool false),(25,.bool (f.ty == 2),.bool false)] ?_ (hc:=(Aj (jJ (by omega) (by omega)) (Aj (jJ (by omega) (by omega)) (Aj ((jJ (by omega) (by omega)).trans (Dj (Value.int .i64) e.symm)) (Aj (Dj Value.bool (Jj.2 (by omega))) (Aj (Dj Value.bool (Jj.2 (by omega))) (trivial)))))));refine gV 8 0 [.pu,.ld 2 0,.pu,.v (λgh=>Vi q),.v (λgh=>.string (abcB.extract 0 q.toNat)),.v (λgh=>.string (f.name++abcB.extract 0 q.toNat)),.pu,.st 0 0] [] (trivial) ?_ ?_
  ·intro R hT hA hmono;refine Aj (t_v hT hA hmono (k:=37) (args:=(λgh=>#[Vi N,Vi 9])) (f:=λgh=>Vi q) (λgh H sH fH lent=>hp9 _)) ?_;refine Aj (t_p hT hA (λgh=>.string (abcB.extract 0 q.toNat)) (λgh w=>hcut _ _ (.const (Vt abcB)) (.tmp 32) w (by kernel_rfl) (by kernel_rfl) (by kernel_rfl))) ?_;refine Aj (t_p hT hA (λgh=>.string (f.name++abcB.extract 0 q.toNat)) (λgh w=>run_bin' (op:=.add) (t:=9) (x:=(.tmp 30)) (y:=(.tmp 33)) (yt:=9) (run_cat (by omega)))) ?_
   trivial
  rintro W4 S5 -;refine go0 2 [] [] ?_;refine hQ.to [.agg #[Vi 3,Vi 0,.string (f.name++abcB.extract 0 q.toNat)]] (λH sH=>?_) (ix:=[0]);exact rfl
theorem begE_m (l:List RawD) {p:Pol} (hp:p.ok):MOk (iQ l) p (rhoL (nW (iQ l).fields)) (lvF l) 0 (begE l p) (begL l p):=by
 have h0:=newE_ok (form_okFm l) (form_one l) hp;obtain ⟨f1,f2,f3⟩:=setE_few h0;have e:(oW (iQ l) p).last=0:=rfl;refine ⟨begE_ok l hp,begE_settled l hp,rfl,rfl,by show (0:Int) <= _; omega,by show (jY (oW (iQ l) p) _).last <= _; omega,Hj 0,by show (jY (oW (iQ l) p) _).out.length <= _; omega,λx hx=>?_⟩;obtain ⟨a,-,c⟩:=setE_out h0 x hx;exact ⟨a,c⟩
theorem take_notin {os:List Nat} (hn:os.Nodup) {t i:Nat} (ht:os[t]?=some i):i ∉ os.take t:=λq=>by
 obtain ⟨htl,-⟩:=Oj.1 ht;obtain ⟨u,hu⟩:=Gq q;have hut:u < t:=by
  rcases Lv u t with q | q
  ·exact q
  ·rw [Dv (by rw [Fk]; omega)] at hu; cases hu
 rw [List.getElem?_take_of_lt hut] at hu
 have:=(Xw (by omega) hn).1 (hu.trans ht.symm)
 omega
theorem set_call {E:Eg} {ρ:List Int} {lv:Nat -> Nat} (hok:EgOk E ρ lv) (hl:(jY E ρ).last <= 1073741810) {i:Nat} {f:Fd} {c:Cl} (hf:E.fm.fields[i]?=some f) (h3:f.kind=3) (hc:E.calls[i]?=some c) :
  ∃ id,E.last < id /\ (kY E ρ).calls[i]?=some (dZ E.pol id E.now (mK (fcs E.fm.fields (kY E ρ).vals) f.src) c).1:=by
 have few:=hok.fm.fields.few;have one:=hok.one;have l1:=hok.l1;have hod:Ordd E.fm.fields ρ lv (eX ρ E.fm.fields.length):=fX hok.fm.rank (by omega);have hnd:=ordL_nodup hod;have hil:=(Oj.1 hf).1;obtain ⟨t,ht⟩:=Gq (hod.perm.mem_iff.2 (Ik.2 hil));have htl:=(Oj.1 ht).1;have hok':=settE_ok hok hl;have hse':=lY hok;obtain ⟨hkn,hv⟩:=settled_all hok' hse';have ev:=(ev_turn hok'.fm.fields hok'.ki (orcC_has hok'.calls) hod ht hf (by omega)).1;have hkn:=hkn t (by show t <= (eX ρ E.fm.fields.length).length; omega);have ev:mK (runW E.fm.fields E.inp (orcC E.fm.fields (kY E ρ).calls) ((eX ρ E.fm.fields.length).take t)).2 f.src=mK (fcs E.fm.fields (kY E ρ).vals) f.src:=by rw [hv]; exact ev
 have hfx:=runS_fix E.fm.fields E.pol E.now E.inp ⟨E.calls,E.vals,[],E.last,[]⟩ hnd hok.calls.len hok.vlen rfl E.now (jY E ρ).last t (by omega);have hkn:(runW E.fm.fields E.inp (orcC E.fm.fields (kY E ρ).calls) ((eX ρ E.fm.fields.length).take t)).2=(eY E.fm.fields E.pol E.now E.inp ⟨E.calls,E.vals,[],E.last,[]⟩ ((eX ρ E.fm.fields.length).take t)).kn:=by
  have hk2:=Dj Sst.kn hfx;exact hkn.trans hk2
 rw [hkn] at ev;have I:=runS_inv (s0:=⟨E.calls,E.vals,[],E.last,[]⟩) (os:=eX ρ E.fm.fields.length) hok.pol hok.fm.fields hok.ki hok.n0 hok.n1 hok.calls hok.vlen rfl hok.l0 (by rw [hod.len]; show E.last + _ <= _; omega) (λi q=>hod.lt q) t (by omega);have hfin:=(run_final E.fm.fields E.pol E.now E.inp ⟨E.calls,E.vals,[],E.last,[]⟩ hnd ht).1;rw [runS_at _ _ _ _ _ _ t i ht] at hfin;have hsm:=I.same i (take_notin hnd ht);have hlo:=I.lo;have hlen:=I.calls.len;simp only at hsm hlo;generalize eY E.fm.fields E.pol E.now E.inp ⟨E.calls,E.vals,[],E.last,[]⟩ ((eX ρ E.fm.fields.length).take t)=s at *;rw [hc] at hsm;rw [sY hf h3 hsm ev rfl] at hfin;simp only at hfin;rw [Uq (by omega)] at hfin;exact ⟨s.last + 1,by omega,hfin⟩
structure Lst (fm:Fm) (p:Pol) (ρ:List Int) (lv:Nat -> Nat) (m:Nat) (E:Eg):Prop where
 ok:EgOk E ρ lv
 se:Settled E ρ
 efm:E.fm=fm
 epol:E.pol=p
 inp:E.inp=[]
 now:E.now <= p.c * m
 last:E.last <= 14 + 14 * m
 soon:∀ c∈E.calls,c.st=1 -> c.nx <= E.now + p.c
 idle:∀ (i:Nat) (f:Fd) (c:Cl),fm.fields[i]?=some f -> f.kind≠3 -> E.calls[i]?=some c -> c=clZ
section
variable {fm:Fm} {p:Pol} {ρ:List Int} {lv:Nat -> Nat} {E:Nat -> Eg}
end
theorem grows_refl (v:Vl):Grows v v:=.inr (.inl rfl)
theorem hear_keeps {E:Eg} {ρ:List Int} {lv:Nat -> Nat} (hok:EgOk E ρ lv) (hse:Settled E ρ) {i0:Nat} {f0:Fd} {x:Lt} {c0:Cl} (hf0:E.fm.fields[i0]?=some f0) (hc0:E.calls[i0]?=some c0) (hx:OkV x.ans) (ht:Takes f0 x c0) (hl:(jY (qV E i0 x c0) ρ).last <= 1073741810) :
  ∀ d (i:Nat) (f:Fd),lv i < d -> E.fm.fields[i]?=some f -> (∀ a b,E.vals[i]?=some a -> (kY (qV E i0 x c0) ρ).vals[i]?=some b -> Grows a b) /\
   (f.kind=3 -> ∀ c,(qV E i0 x c0).calls[i]?=some c -> (c.st≠0 -> (kY (qV E i0 x c0) ρ).calls[i]?=some c) /\ (c.st=0 -> (kY (qV E i0 x c0) ρ).calls[i]?=some clZ\/∃ id key nx,E.last < id /\ (kY (qV E i0 x c0) ρ).calls[i]?=some ⟨1,id,1,key,zV,nx⟩)):=λd=>by
 have hok1:=hearE_ok hok hf0 hc0 hx ht;have S:=settled_sol hok hse;have S2:=settled_sol (settE_ok hok1 hl) (lY hok1);have hv2:=(settE_ok hok1 hl).vlen
 induction d with
 | zero=>intro i f h; omega
 | succ d ih =>
  intro i f hd hf;have hF:=hok.fm.fields.each f (Ej hf);have hil:=(Oj.1 hf).1;have hg:f.kind≠1 -> Grows (mK (fcs E.fm.fields E.vals) f.src) (mK (fcs E.fm.fields (kY (qV E i0 x c0) ρ).vals) f.src):=λk1=>by
   refine eval_growsR (λs hs=>?_) (hF.wf k1).1;obtain ⟨j,g,g1,g2,g3⟩:=refs_need hok.fm.fields hf k1 hs;have hlj:=(hok.fm.rank.low i (by rw [needsE_len]; exact hil) j g3).2;have hjl:=(Oj.1 g1).1;obtain ⟨a,ha⟩:∃ a,E.vals[j]?=some a:=⟨_,Fj (by rw [hok.vlen]; exact hjl)⟩;obtain ⟨b,hb⟩:∃ b,(kY (qV E i0 x c0) ρ).vals[j]?=some b:=⟨_,Fj (by rw [hv2]; exact hjl)⟩;exact ⟨a,b,by rw [<- g2]; exact fcs_get hok.fm.fields.nodup g1 ha,by rw [<- g2]; exact fcs_get hok.fm.fields.nodup g1 hb,(ih j g (by omega) g1).1 a b ha hb⟩
  by_cases h3:f.kind=3
  ·have hg:=hg (by omega);obtain ⟨c,hc⟩:∃ c,E.calls[i]?=some c:=⟨_,Fj (by rw [hok.calls.len]; exact hil)⟩;obtain ⟨c1,hc1⟩:∃ c,(qV E i0 x c0).calls[i]?=some c:=⟨_,Fj (by rw [hok1.calls.len]; exact hil)⟩;obtain ⟨id,hid,e2⟩:=set_call hok1 hl hf h3 hc1;obtain ⟨s1,s2,s3⟩:=S.call i f c hf h3 hc;have e2:(kY (qV E i0 x c0) ρ).calls[i]?=some (dZ E.pol id E.now (mK (fcs E.fm.fields (kY (qV E i0 x c0) ρ).vals) f.src) c1).1:=e2;obtain ⟨c2,hc2⟩:∃ c2,(kY (qV E i0 x c0) ρ).calls[i]?=some c2:=⟨_,e2⟩;have s3':=(S2.call i f c2 hf h3 hc2).2.2;have s3':(kY (qV E i0 x c0) ρ).vals[i]?=some (dW (mK (fcs E.fm.fields (kY (qV E i0 x c0) ρ).vals) f.src) c2):=s3';have ko:=ok_kinds (evalE_ok (get_ok (fcs_ok (fs:=E.fm.fields) S.ok)) _ f.src (Hj _) (hF.wf (by omega)).1);generalize mK (fcs E.fm.fields E.vals) f.src=key at *;generalize mK (fcs E.fm.fields (kY (qV E i0 x c0) ρ).vals) f.src=key2 at *;have h01:c1=c\/(i=i0 /\ c.st=1 /\ c1=heardC x c):=by
    have hc1:(E.calls.set i0 (heardC x c0))[i]?=some c1:=hc1;rcases set_at hc1 with ⟨rfl,rfl⟩ | ⟨-,q⟩
    ·rw [hc0] at hc;obtain rfl:=Zj hc;exact .inr ⟨rfl,ht.1,rfl⟩
    ·rw [hc] at q;exact .inl (Zj q).symm
   have hst:c1.st≠0↔c.st≠0:=by
    rcases h01 with rfl | ⟨-,q,rfl⟩
    ·exact Iff.rfl
    ·exact ⟨λ_=>by omega,λ_=>by show (2:Int)≠0; decide⟩
   have hky:c1.key=c.key:=by
    rcases h01 with rfl | ⟨-,-,rfl⟩ <;> rfl
   by_cases hk:key.k <= 3
   ·obtain ⟨a1,a2⟩:=s1 hk;have ek:key2=key:=by
     rcases hg with q | q | ⟨-,q⟩
     ·omega
     ·exact q
     ·omega
    rw [ek,gZ hk (hst.2 a1) (eqB_iff.2 (hky.trans a2))] at e2;have e2:(kY (qV E i0 x c0) ρ).calls[i]?=some c1:=e2;rw [hc2] at e2;obtain rfl:=Zj e2;refine ⟨λa b ha hb=>?_,λ_ c' hc'=>?_⟩
    ·rw [s3] at ha;rw [s3',ek] at hb;rw [<- Zj ha, <- Zj hb];rcases h01 with rfl | ⟨-,q,-⟩
     ·exact grows_refl _
     ·refine .inl ?_;unfold dW ansC;rw [Bj a1,Bj (by omega),Bj (by omega)]
    ·rw [hc1] at hc';rw [<- Zj hc'];exact ⟨λ_=>hc2,λq=>absurd q (hst.2 a1)⟩
   ·have hz:=s2 hk;have e0:c1=clZ:=by
     rcases h01 with rfl | ⟨-,q,-⟩
     ·exact hz
     ·rw [hz] at q; exact absurd (show (0:Int)=1 from q) (by decide)
    refine ⟨λa b ha hb=>?_,λ_ c' hc'=>?_⟩
    ·rw [s3,hz] at ha;rw [<- Zj ha];have ea:dW key clZ=key:=rfl;rw [ea]
     by_cases k4:key.k=4
     ·exact .inl k4
     ·have k5:key.k=5:=by omega
      have k5':key2.k=5:=by
       rcases hg with q | q | ⟨q,-⟩
       ·omega
       ·rw [q]; exact k5
       ·exact q
      have e3:c2=clZ:=by
       rw [fZ (by omega)] at e2;rw [hc2] at e2;exact Zj e2
      rw [s3',e3] at hb;rw [<- Zj hb];exact .inr (.inr ⟨k5',k5⟩)
    ·rw [hc1] at hc';rw [<- Zj hc',e0];refine ⟨λq=>absurd rfl q,λ_=>?_⟩;rw [e2,e0]
     by_cases hk2:key2.k <= 3
     ·rw [eZ hk2 (λq=>q.1 rfl)];exact .inr ⟨_,_,_,hid,rfl⟩
     ·rw [fZ hk2];exact .inl rfl
  ·refine ⟨λa b ha hb=>?_,λq=>absurd q h3⟩;rw [S.sol.at_ i f a hf ha,S2.sol.at_ i f b hf hb];show Grows (vW f E.inp _ _) (vW f E.inp _ (fcs E.fm.fields (kY (qV E i0 x c0) ρ).vals));unfold vW
   by_cases k1:f.kind=1
   ·rw [Cj k1,Cj k1]; exact grows_refl _
   ·rw [Bj k1,Bj k1,Bj h3,Bj h3];exact hg k1
structure OutI (fs:List Fd) (l0:Int) (s:Sst):Prop where
 iff:∀ x,x∈s.out↔∃ (j:Nat) (f:Fd) (c:Cl),fs[j]?=some f /\ s.calls[j]?=some c /\ c.st=1 /\ l0 < c.id /\ x=ltOf f.name c
 pw:s.out.Pairwise (λx y=>x.nm≠y.nm)
theorem name_inj {fs:List Fd} (hd:(fs.map (λf:Fd=>f.name)).Nodup) {i j:Nat} {f g:Fd} (hf:fs[i]?=some f) (hg:fs[j]?=some g) (e:f.name=g.name):i=j:=by
 have e1:=eQ hd hf;have e2:=eQ hd hg;rw [e,e2] at e1;omega
theorem outI_run {fs:List Fd} {p:Pol} {now:Int} {inp:Env} {s0:Sst} {os:List Nat} (hp:p.ok) (hok:OkFs fs) (ki:∀ q∈inp,q.2.known) (n0:0 <= now) (n1:now <= 1073741824) (h0:CallsOk fs p s0.last s0.calls) (v0:s0.vals.length=fs.length) (k0:s0.kn=[]) (l0:0 <= s0.last) (l1:s0.last + os.length <= 1073741824) (hlt:∀ i∈os,i < fs.length) (hn:os.Nodup) (ho:s0.out=[]) :
  ∀ t,t <= os.length -> OutI fs s0.last (eY fs p now inp s0 (os.take t))
 | 0,_=>by
  show OutI fs s0.last s0;refine ⟨λx=>?_,by rw [ho]; exact .nil⟩;rw [ho];refine ⟨λq=>(by cases q),?_⟩;rintro ⟨j,f,c,hf,hc,h1,h2,-⟩
  have:=((h0.at_ j f c hf hc).2.1 (by omega)).2
  omega
 | t + 1,ht=>by
  have I:=runS_inv hp hok ki n0 n1 h0 v0 k0 l0 l1 hlt t (by omega);have ih:=outI_run hp hok ki n0 n1 h0 v0 k0 l0 l1 hlt hn ho t (by omega);obtain ⟨i,hti⟩:∃ i,os[t]?=some i:=⟨_,Fj (by omega)⟩;have hil:=hlt i (Ej hti);obtain ⟨f,hf⟩:∃ f,fs[i]?=some f:=⟨_,Fj hil⟩;have hsm:=I.same i (take_notin hn hti);rw [runS_at fs p now inp s0 os t i hti];have hlo:=I.lo;have hlen:=I.calls.len;generalize eY fs p now inp s0 (os.take t)=s at *
  by_cases h3:f.kind=3
  ·obtain ⟨c,hc⟩:∃ c,s.calls[i]?=some c:=⟨_,Fj (by omega)⟩;have hc0:=hsm.symm.trans hc;have hold:c.st≠0 -> c.id <= s0.last:=λq=>((h0.at_ i f c hf hc0).2.1 q).2;rw [sY hf h3 hc rfl rfl];have hno:∀ (d:Cl),(d.st=1 -> d.id <= s0.last) -> OutI fs s0.last ⟨s.calls.set i d,s.vals.set i (dW (mK s.kn f.src) d),s.kn++[(f.name,dW (mK s.kn f.src) d)],s.last,s.out⟩:=λd hd=>by
    refine ⟨λx=>(ih.iff x).trans ⟨?_,?_⟩,ih.pw⟩
    ·rintro ⟨j,g,e,hg,he,q1,q2,q3⟩;refine ⟨j,g,e,hg,?_,q1,q2,q3⟩;show (s.calls.set i d)[j]?=some e;have hne:i≠j:=λq=>by
      rw [<- q,hc] at he;rw [<- Zj he] at q1 q2
      have:=hold (by omega)
      omega
     rw [Jv hne]; exact he
    ·rintro ⟨j,g,e,hg,he,q1,q2,q3⟩;rcases set_at he with ⟨rfl,rfl⟩ | ⟨-,he⟩
     ·have:=hd q1; omega
     ·exact ⟨j,g,e,hg,he,q1,q2,q3⟩
   by_cases hk:(mK s.kn f.src).k <= 3
   ·by_cases q:c.st≠0 /\ eqB c.key (mK s.kn f.src)=true
    ·rw [gZ hk q.1 q.2];exact hno c λa=>hold (by omega)
    ·rw [eZ hk q];have hnm:∀ y∈s.out,y.nm≠f.name:=λy hy e=>by
      obtain ⟨j,g,e',hg,he,q1,q2,rfl⟩:=(ih.iff y).1 hy;have hij:=name_inj hok.nodup hg hf e;rw [hij,hc] at he;rw [<- Zj he] at q1 q2
      have:=hold (by omega)
      omega
     refine ⟨λx=>?_,?_⟩
     ·show x∈s.out++[_]↔_;rw [Qj,Pj];refine ⟨λh=>?_,?_⟩
      ·rcases h with h | h
       ·obtain ⟨j,g,e,hg,he,q1,q2,q3⟩:=(ih.iff x).1 h;have hne:i≠j:=λq=>by
         rw [<- q,hc] at he;rw [<- Zj he] at q1 q2
         have:=hold (by omega)
         omega
        exact ⟨j,g,e,hg,by show (s.calls.set i _)[j]?=_; rw [Jv hne]; exact he,q1,q2,q3⟩
       ·exact ⟨i,f,_,hf,Uq (by omega),rfl,by show s0.last < s.last + 1; omega,h⟩
      ·rintro ⟨j,g,e,hg,he,q1,q2,q3⟩;rcases set_at he with ⟨rfl,rfl⟩ | ⟨-,he⟩
       ·rw [hf] at hg;obtain rfl:=Zj hg;exact .inr q3
       ·exact .inl ((ih.iff x).2 ⟨j,g,e,hg,he,q1,q2,q3⟩)
     ·refine List.pairwise_append.2 ⟨ih.pw,List.pairwise_singleton _ _,λy hy z hz=>?_⟩;rw [Pj.1 hz];exact hnm y hy
   ·rw [fZ hk];exact hno clZ λa=>absurd (show (0:Int)=1 from a) (by decide)
  ·rw [stepS_one hf h3];exact ⟨ih.iff,ih.pw⟩
theorem outI_set {E:Eg} {ρ:List Int} {lv:Nat -> Nat} (hok:EgOk E ρ lv):OutI E.fm.fields E.last (jY E ρ):=by
 have few:=hok.fm.fields.few;have one:=hok.one;have l1:=hok.l1;have hod:Ordd E.fm.fields ρ lv (eX ρ E.fm.fields.length):=fX hok.fm.rank (by omega);have h:=outI_run (s0:=⟨E.calls,E.vals,[],E.last,[]⟩) (os:=eX ρ E.fm.fields.length) hok.pol hok.fm.fields hok.ki hok.n0 hok.n1 hok.calls hok.vlen rfl hok.l0 (by rw [hod.len]; show E.last + _ <= _; omega) (λi q=>hod.lt q) (ordL_nodup hod) rfl _ (Hj _);rw [Qk] at h;exact h
structure CalI (E:Eg) (lt:List Lt):Prop where
 inp:E.inp=[]
 iff:∀ x,x∈lt↔∃ (j:Nat) (f:Fd) (c:Cl),E.fm.fields[j]?=some f /\ E.calls[j]?=some c /\ c.st=1 /\ x=ltOf f.name c
 pw:lt.Pairwise (λx y=>x.nm≠y.nm)
 st:∀ (j:Nat) (f:Fd) (c:Cl),E.fm.fields[j]?=some f -> E.calls[j]?=some c -> c.st <= 2 /\ (c.st=2 -> c.has=rJ f c.key)
theorem calI_beg {f:Fm} {ρ:List Int} {lv:Nat -> Nat} (hok:OkFm f ρ lv) (h1:1 <= f.fields.length) {p:Pol} (hp:p.ok):CalI (kY (oW f p) ρ) (jY (oW f p) ρ).out:=by
 have h0:=newE_ok hok h1 hp;have hl:=(newE_last hok h1 hp).2;have O:=outI_set h0;have hok':=settE_ok h0 (by omega);refine ⟨rfl,λx=>(O.iff x).trans ⟨?_,?_⟩,O.pw,λj g c hg hc=>?_⟩
 ·rintro ⟨j,g,c,a,b,q1,-,q3⟩;exact ⟨j,g,c,a,b,q1,q3⟩
 ·rintro ⟨j,g,c,a,b,q1,q3⟩
  have:=((hok'.calls.at_ j g c a b).1.live (by omega)).i1
  exact ⟨j,g,c,a,b,q1,by show (0:Int) < c.id; omega,q3⟩
 ·have hjl:=(Oj.1 hg).1;have hjl:j < f.fields.length:=hjl;have hz:(oW f p).calls[j]?=some clZ:=by
   show (List.replicate f.fields.length clZ)[j]?=_;rw [List.getElem?_replicate,Cj hjl]
  by_cases h3:g.kind=3
  ·obtain ⟨id,-,e⟩:=set_call h0 (by omega) hg h3 hz;rw [hc] at e;have e:=Zj e
   by_cases hk:(mK (fcs (oW f p).fm.fields (kY (oW f p) ρ).vals) g.src).k <= 3
   ·rw [eZ hk (λq=>q.1 rfl)] at e;rw [e];exact ⟨by show (1:Int) <= 2; decide,λq=>absurd (show (1:Int)=2 from q) (by decide)⟩
   ·rw [fZ hk] at e;rw [e];exact ⟨by show (0:Int) <= 2; decide,λq=>absurd (show (0:Int)=2 from q) (by decide)⟩
  ·have hidl:c=clZ:=(hok'.calls.at_ j g c hg hc).1.idle (by
    by_cases q:c.st=0
    ·exact q
    ·exact absurd ((hok'.calls.at_ j g c hg hc).2.1 q).1 h3)
   rw [hidl];exact ⟨by show (0:Int) <= 2; decide,λq=>absurd (show (0:Int)=2 from q) (by decide)⟩
theorem CalI.step {E:Eg} {ρ:List Int} {lv:Nat -> Nat} (hok:EgOk E ρ lv) (hse:Settled E ρ) {l1 l2:List Lt} {y:Lt} (h:CalI E (l1++y :: l2)) (hl:E.last <= 1073741000):∃ (i:Nat) (f:Fd) (c:Cl),E.fm.fields[i]?=some f /\ E.calls[i]?=some c /\ f.kind=3 /\ y=ltOf f.name c /\ y.key.known /\ Takes f ⟨y.nm,y.id,y.key,rJ f y.key⟩ c /\ OkV (rJ f y.key) /\
  CalI (kY (qV E i ⟨y.nm,y.id,y.key,rJ f y.key⟩ c) ρ) (l1++l2++(jY (qV E i ⟨y.nm,y.id,y.key,rJ f y.key⟩ c) ρ).out) /\ (∀ (j:Nat) (d:Cl),E.calls[j]?=some d -> d.st=2 -> ∃ d':Cl,(kY (qV E i ⟨y.nm,y.id,y.key,rJ f y.key⟩ c) ρ).calls[j]?=some d' /\ d'.st=2) /\ c.st=1 /\ ∃ d':Cl,(kY (qV E i ⟨y.nm,y.id,y.key,rJ f y.key⟩ c) ρ).calls[i]?=some d' /\ d'.st=2:=by
 obtain ⟨i,f,c,hf,hc,hs,rfl⟩:=(h.iff y).1 (by simp);obtain ⟨c1,c2,c3⟩:=hok.calls.at_ i f c hf hc;obtain ⟨hk3,hid⟩:=c2 (by omega);have hkn:=(c1.live (by omega)).key;have hF:=hok.fm.fields.each f (Ej hf);obtain ⟨a1,a2⟩:=ans_known hF hkn;have e1:(ltOf f.name c).nm=f.name:=rfl;have e2:(ltOf f.name c).id=c.id:=rfl;have e3:(ltOf f.name c).key=c.key:=rfl;have ht:Takes f ⟨(ltOf f.name c).nm,(ltOf f.name c).id,(ltOf f.name c).key,rJ f (ltOf f.name c).key⟩ c:=⟨hs,rfl,eqB_iff.2 rfl,by show (rJ f c.key).k <= 3; have:=hF.t3; omega,a2⟩;have hlx:∃ x:Lt,(⟨(ltOf f.name c).nm,(ltOf f.name c).id,(ltOf f.name c).key,rJ f (ltOf f.name c).key⟩:Lt)=x:=⟨_,rfl⟩;have hxa:OkV (rJ f (ltOf f.name c).key):=.inl a1;refine ⟨i,f,c,hf,hc,hk3,rfl,hkn,ht,hxa,?_⟩;have hhc:heardC ⟨(ltOf f.name c).nm,(ltOf f.name c).id,(ltOf f.name c).key,rJ f (ltOf f.name c).key⟩ c=⟨2,c.id,c.tr,c.key,rJ f c.key,0⟩:=rfl;have hok1:=hearE_ok hok hf hc hxa ht;have hq:=setE_few hok1;have hel:(qV E i ⟨(ltOf f.name c).nm,(ltOf f.name c).id,(ltOf f.name c).key,rJ f (ltOf f.name c).key⟩ c).last=E.last:=rfl;rw [hel] at hq;have hl2:(jY (qV E i ⟨(ltOf f.name c).nm,(ltOf f.name c).id,(ltOf f.name c).key,rJ f (ltOf f.name c).key⟩ c) ρ).last <= 1073741810:=by omega
 have O:=outI_set hok1;have hok2:=settE_ok hok1 hl2;have K:=λj g q=>hear_keeps hok hse hf hc hxa ht hl2 (lv j + 1) j g (by omega) q;have hcs:∀ j:Nat,(qV E i ⟨(ltOf f.name c).nm,(ltOf f.name c).id,(ltOf f.name c).key,rJ f (ltOf f.name c).key⟩ c).calls[j]?=(E.calls.set i ⟨2,c.id,c.tr,c.key,rJ f c.key,0⟩)[j]?:=λj=>rfl;have hfm:(kY (qV E i ⟨(ltOf f.name c).nm,(ltOf f.name c).id,(ltOf f.name c).key,rJ f (ltOf f.name c).key⟩ c) ρ).fm=E.fm:=rfl;have hip:(kY (qV E i ⟨(ltOf f.name c).nm,(ltOf f.name c).id,(ltOf f.name c).key,rJ f (ltOf f.name c).key⟩ c) ρ).inp=E.inp:=rfl;have hO:OutI E.fm.fields E.last (jY (qV E i ⟨(ltOf f.name c).nm,(ltOf f.name c).id,(ltOf f.name c).key,rJ f (ltOf f.name c).key⟩ c) ρ):=O;have hsc:(jY (qV E i ⟨(ltOf f.name c).nm,(ltOf f.name c).id,(ltOf f.name c).key,rJ f (ltOf f.name c).key⟩ c) ρ).calls=(kY (qV E i ⟨(ltOf f.name c).nm,(ltOf f.name c).id,(ltOf f.name c).key,rJ f (ltOf f.name c).key⟩ c) ρ).calls:=rfl;obtain ⟨oi,op⟩:=hO;rw [hsc] at oi;have hcl2:=hok2.calls;rw [hfm] at hcl2;clear O hok2 hq hok1 hel hhc;generalize (jY (qV E i ⟨(ltOf f.name c).nm,(ltOf f.name c).id,(ltOf f.name c).key,rJ f (ltOf f.name c).key⟩ c) ρ).out=out at *;generalize kY (qV E i ⟨(ltOf f.name c).nm,(ltOf f.name c).id,(ltOf f.name c).key,rJ f (ltOf f.name c).key⟩ c) ρ=E2 at *;have hil:=(Oj.1 hc).1;have hnd:=hok.fm.fields.nodup;obtain ⟨p1,p2,p3⟩:=List.pairwise_append.1 h.pw;rw [List.pairwise_cons] at p2;have hne:∀ z∈l1++l2,z.nm≠f.name:=λz hz e=>by
  rcases Qj.1 hz with q | q
  ·exact p3 z q _ Yk e
  ·exact p2.1 z q e.symm
 have hself:E2.calls[i]?=some ⟨2,c.id,c.tr,c.key,rJ f c.key,0⟩:=((K i f hf).2 hk3 _ (by rw [hcs,Uq hil])).1 (by show (2:Int)≠0; decide);have hoth:∀ (j:Nat) (g:Fd) (d:Cl),E.fm.fields[j]?=some g -> j≠i -> E.calls[j]?=some d -> d.st≠0 -> E2.calls[j]?=some d:=λj g d hg hj hd hs'=>by
  obtain ⟨d1,d2,-⟩:=hok.calls.at_ j g d hg hd;exact ((K j g hg).2 (d2 hs').1 d (by rw [hcs,Jv λq=>hj q.symm]; exact hd)).1 hs'
 have hidl:∀ (j:Nat) (g:Fd) (d e:Cl),E.fm.fields[j]?=some g -> j≠i -> E.calls[j]?=some d -> d.st=0 -> E2.calls[j]?=some e -> e=clZ\/∃ id key nx,E.last < id /\ e=⟨1,id,1,key,zV,nx⟩:=λj g d e hg hj hd hs' he=>by
  by_cases g3:g.kind=3
  ·rcases ((K j g hg).2 g3 d (by rw [hcs,Jv λq=>hj q.symm]; exact hd)).2 hs' with q | ⟨id,key,nx,r,q⟩
   ·rw [he] at q; exact .inl (Zj q)
   ·rw [he] at q; exact .inr ⟨id,key,nx,r,Zj q⟩
  ·refine .inl ((hcl2.at_ j g e hg he).1.idle ?_)
   by_cases q:e.st=0
   ·exact q
   ·exact absurd ((hcl2.at_ j g e hg he).2.1 q).1 g3
 have hget:∀ (j:Nat) (g:Fd),E.fm.fields[j]?=some g -> ∃ d,E.calls[j]?=some d:=λj g hg=>⟨_,Fj (by rw [hok.calls.len]; exact (Oj.1 hg).1)⟩;refine ⟨⟨hip.trans h.inp,λx=>?_,?_,λj g e hg he=>?_⟩,λj d hd hs'=>?_,hs,⟨_,hself,rfl⟩⟩
 ·rw [hfm,Qj];refine ⟨λhx=>?_,?_⟩
  ·rcases hx with hx | hx
   ·have hn:=hne x hx;obtain ⟨j,g,d,hg,hd,q1,rfl⟩:=(h.iff x).1 (by
     rcases Qj.1 hx with q | q
     ·exact Ck _ q
     ·exact Uj _ (Dk _ q))
    have hj:j≠i:=λq=>hn (by
     rw [q,hf] at hg;rw [<- Zj hg]; rfl)
    exact ⟨j,g,d,hg,hoth j g d hg hj hd (by omega),q1,rfl⟩
   ·obtain ⟨j,g,d,hg,hd,q1,-,q3⟩:=(oi x).1 hx;exact ⟨j,g,d,hg,hd,q1,q3⟩
  ·rintro ⟨j,g,e,hg,he,q1,q3⟩;obtain ⟨d,hd⟩:=hget j g hg
   by_cases hj:j=i
   ·rw [hj,hself] at he;rw [<- Zj he] at q1;exact absurd (show (2:Int)=1 from q1) (by decide)
   ·by_cases hs':d.st=0
    ·refine .inr ((oi x).2 ⟨j,g,e,hg,he,q1,?_,q3⟩);rcases hidl j g d e hg hj hd hs' he with q | ⟨id,key,nx,r,q⟩
     ·rw [q] at q1; exact absurd (show (0:Int)=1 from q1) (by decide)
     ·rw [q]; exact r
    ·have e':=hoth j g d hg hj hd hs';rw [he] at e';obtain rfl:=Zj e'
     left
     have:=(h.iff x).2 ⟨j,g,e,hg,hd,q1,q3⟩
     rcases Qj.1 this with q | q
     ·exact Ck _ q
     ·rcases Tj.1 q with q | q
      ·exfalso
       rw [q3] at q;exact hj (name_inj hnd hg hf (Dj Lt.nm q))
      ·exact Uj _ q
 ·refine List.pairwise_append.2 ⟨?_,op,λy hy z hz=>?_⟩
  ·exact List.pairwise_append.2 ⟨p1,p2.2,λa ha b hb=>p3 a ha b (Dk _ hb)⟩
  ·intro e;obtain ⟨j,g,d,hg,hd,q1,q2,rfl⟩:=(oi z).1 hz;obtain ⟨k,g',d',hg',hd',r1,rfl⟩:=(h.iff y).1 (by
    rcases Qj.1 hy with q | q
    ·exact Ck _ q
    ·exact Uj _ (Dk _ q))
   have hn:=hne _ hy;have hjk:=name_inj hnd hg' hg e;subst hjk;have hk:k≠i:=λq=>hn (by
    rw [q,hf] at hg';rw [<- Zj hg']; rfl)
   have:=hoth k g' d' hg' hk hd' (by omega)
   rw [hd] at this;have e3:=Zj this
   have:=((hok.calls.at_ k g' d' hg' hd').2.1 (by omega)).2
   rw [e3] at q2;omega
 ·rw [hfm] at hg;obtain ⟨d,hd⟩:=hget j g hg
  by_cases hj:j=i
  ·rw [hj] at hg he;rw [hf] at hg;rw [hself] at he;obtain rfl:=Zj hg;rw [<- Zj he];exact ⟨by show (2:Int) <= 2; decide,λ_=>rfl⟩
  ·by_cases hs':d.st=0
   ·rcases hidl j g d e hg hj hd hs' he with q | ⟨id,key,nx,-,q⟩
    ·rw [q]; exact ⟨by show (0:Int) <= 2; decide,λq=>absurd (show (0:Int)=2 from q) (by decide)⟩
    ·rw [q]; exact ⟨by show (1:Int) <= 2; decide,λq=>absurd (show (1:Int)=2 from q) (by decide)⟩
   ·have e':=hoth j g d hg hj hd hs';rw [he] at e';rw [Zj e'];exact h.st j g d hg hd
 ·have hjl:j < E.fm.fields.length:=by rw [<- hok.calls.len]; exact (Oj.1 hd).1
  by_cases hj:j=i
  ·rw [hj]; exact ⟨_,hself,rfl⟩
  ·exact ⟨d,hoth j _ d (Fj hjl) hj hd (by omega),hs'⟩
theorem calI_none {E:Eg} {ρ:List Int} {lv:Nat -> Nat} (hok:EgOk E ρ lv) (h:CalI E []):∀ c∈E.calls,c.st≠1:=λc hc hs=>by
 obtain ⟨i,hi⟩:=Gq hc;have hil:i < E.fm.fields.length:=by rw [<- hok.calls.len]; exact (Oj.1 hi).1
 cases (h.iff _).2 ⟨i,_,c,Fj hil,hi,hs,rfl⟩
def cntK (cs:List Cl):Nat:=cs.countP λc=>decide (c.st=2)
theorem cnt_more {p:Cl -> Bool}:∀ {l m:List Cl},l.length=m.length -> (∀ (i:Nat) (a b:Cl),l[i]?=some a -> m[i]?=some b -> p a=true -> p b=true) -> l.countP p <= m.countP p /\ ((∃ (i:Nat) (a b:Cl),l[i]?=some a /\ m[i]?=some b /\ p a=false /\ p b=true) -> l.countP p + 1 <= m.countP p)
 | [],[],_,_=>⟨Hj _,λ⟨_,_,_,h,_⟩=>by simp at h⟩
 | [],_ :: _,h,_=>by simp at h
 | _ :: _,[],h,_=>by simp at h
 | a :: l,b :: m,hl,h=>by
  obtain ⟨h1,h2⟩:=cnt_more (p:=p) (l:=l) (m:=m) (by simpa using hl) λi x y hx hy=>h (i + 1) x y (by simpa using hx) (by simpa using hy);have h0:=h 0 a b rfl rfl;rw [List.countP_cons,List.countP_cons];refine ⟨?_,?_⟩
  ·by_cases q:p a=true
   ·rw [Cj q,Cj (h0 q)]; omega
   ·rw [Bj q]; omega
  ·rintro ⟨i,x,y,hx,hy,q1,q2⟩
   cases i with
   | zero =>
    simp only [Uw,Yj] at hx hy;subst hx hy;rw [q1,q2,Bj Xv,Cj rfl];omega
   | succ i =>
    have:=h2 ⟨i,x,y,by simpa using hx,by simpa using hy,q1,q2⟩
    by_cases q:p a=true
    ·rw [Cj q,Cj (h0 q)]; omega
    ·rw [Bj q]; omega
theorem cntK_le (cs:List Cl):cntK cs <= cs.length:=List.countP_le_length
structure CalK (fm:Fm) (p:Pol) (ρ:List Int) (lv:Nat -> Nat) (k:Nat) (E:Eg) (lt:List Lt):Prop where
 m:MOk fm p ρ lv k E lt
 i:CalI E lt
 k:k <= cntK E.calls
theorem CalK.few {fm:Fm} {p:Pol} {ρ:List Int} {lv:Nat -> Nat} {k:Nat} {E:Eg} {lt:List Lt} (h:CalK fm p ρ lv k E lt):k <= 14:=by
 have h1:=cntK_le E.calls;have h2:=h.m.ok.calls.len;have h3:=h.m.ok.fm.fields.few;have h4:=h.k;omega
theorem CalK.step {fm:Fm} {p:Pol} {ρ:List Int} {lv:Nat -> Nat} {k:Nat} {E:Eg} {l1 l2:List Lt} {y:Lt} (h:CalK fm p ρ lv k E (l1++y :: l2)):∃ (i:Nat) (f:Fd) (c:Cl),fm.fields[i]?=some f /\ E.calls[i]?=some c /\ y.nm=f.name /\ y.key.known /\ Takes f ⟨y.nm,y.id,y.key,rJ f y.key⟩ c /\ OkV (rJ f y.key) /\
  CalK fm p ρ lv (k + 1) (kY (qV E i ⟨y.nm,y.id,y.key,rJ f y.key⟩ c) ρ) (l1++l2++(jY (qV E i ⟨y.nm,y.id,y.key,rJ f y.key⟩ c) ρ).out):=by
 have hk:=h.few;have hm:=h.m;have hlast:=hm.last;obtain ⟨i,f,c,hf,hc,hk3,hy,hkn,ht,hx,hI,hs,hs1,d',hd,hd2⟩:=h.i.step hm.ok hm.se (by omega);have hst:=hm.step (by omega) (MStep.hear (ρ:=ρ) (E:=E) (lt:=l1++y :: l2) i f ⟨y.nm,y.id,y.key,rJ f y.key⟩ c hf hc hx ht);have hlen:(kY (qV E i ⟨y.nm,y.id,y.key,rJ f y.key⟩ c) ρ).calls.length=E.calls.length:=by
  have a:=hst.ok.calls.len;rw [hst.efm] at a;rw [a,hm.ok.calls.len,hm.efm]
 have hcnt:=(cnt_more (p:=λc=>decide (c.st=2)) hlen.symm λj a b ha hb q=>by
  obtain ⟨b',hb',q'⟩:=hs j a ha (Hv q);rw [hb] at hb';rw [Zj hb'];exact Lj q').2 ⟨i,c,d',hc,hd,Kj (by omega),Lj hd2⟩
 rw [hm.efm] at hf;have hkk:=h.k;refine ⟨i,f,c,hf,hc,by rw [hy]; rfl,hkn,ht,hx,⟨hst.ok,hst.se,hst.efm,hst.epol,hst.now,hst.last,hst.inp,?_,λx q=>hst.ltr x ?_⟩,hI,by show k + 1 <= cntK _; unfold cntK at hkk ⊢; omega⟩
 ·have:=hst.len
  simp only [Ek,Wk] at this ⊢;omega
 ·rcases Qj.1 q with q | q
  ·refine Ck _ ?_;rcases Qj.1 q with q | q
   ·exact Ck _ q
   ·exact Uj _ (Dk _ q)
  ·exact Uj _ q
theorem find1_calm (f:Fd) (A:Option Addr) (n c:Nat) (x:Lt) (b:Nat) (h:Vw) (hc:Cells h b 0 [Vt x.nm,Vi x.id,Vi x.key.k,Vi x.key.n,.string x.key.s,Vi x.ans.k,Vi x.ans.n,.string x.ans.s]) :
  C0 Tryz.prog 54 #[.agg #[Vt f.name,Vi f.kind,Vi f.ty,Vi f.src.op,Vi f.src.k,Vi f.src.n,.string f.src.s,.string f.src.nm,.slice A n c],.pointer (some ⟨b,0,none⟩)] h (λr _=>r=.bool (f.name.toList == x.nm.toList)):=by
 refine qQ Tryz.func54 λhbx hbad Q hQ=>?_;refine tQ (hc.sees (Sees.refl _)) ?_;refine go1 17 [.own,.b 0 0,.f 0 0] [] ?_;intro b1;refine hQ.to [.bool (f.name.toList == x.nm.toList)] (λH sH=>?_);exact rfl
theorem idxF_calm (fs:List Fd) (vs:List Value) (A:Option Addr) (cap:Nat) (x:Lt) (b:Nat) (h:Vw) (hr:RS h 9 (.slice A fs.length cap) (xK fs vs)) (hl:fs.length <= 1000000) (hvl:vs.length=fs.length) (hsl:∀ u∈vs,sL u=u) (hc:Cells h b 0 [Vt x.nm,Vi x.id,Vi x.key.k,Vi x.key.n,.string x.key.s,Vi x.ans.k,Vi x.ans.n,.string x.ans.s]) :
  C0 Tryz.prog 53 #[.slice A fs.length cap,.func (.func 54) #[] #[.pointer (some ⟨b,0,none⟩)]] h (λr _=>r=Vi (dQ fs x.nm)):=by
 generalize hL:fs.length=len at *;refine qQ Tryz.func53 λhbx hbad Q hQ=>?_;refine go0 14 [] [] ?_;refine zQ [0,1,0,1] [.block 0,.seq [1,1]] (λ(k:Nat) X=>∃ (W1:Vw) ,X W1 [(0,.slice A len cap),(1,.func (.func 54) #[] #[Vp b]),(7,Vi (len:Int)),(8,Vi (k:Int))] [] [] /\ Sees h W1 /\ (k <= len) /\ (∀ y∈fs.take k,(y.name.toList == x.nm.toList)=false)) (λk=>len - k) (0) (λX q=>⟨h,q _ _ _ _ ⟨rfl,by kernel_rfl⟩,Sees.refl _,Mj _,λy hy=>by simp at hy⟩) ?_;rintro k a w ⟨W1,hJ,S2,hk,hn⟩; refine eV hJ ?_; clear hJ a w;refine go0 6 [] [] ?_;rcases (by omega:k < len\/k=len) with hlt | hke
 ·obtain ⟨f,hfk⟩:∃ f,fs[k]?=some f:=⟨_,Fj (by omega)⟩;obtain ⟨u,huk⟩:∃ u,vs[k]?=some u:=⟨_,Fj (by omega)⟩;have hrow:(xK fs vs)[k]?=some (fdRow f (sL u)):=by rw [hsl u (Ej huk)]; exact yK hfk huk
  refine kV (t:=decide ((k:Int) < (len:Int))) (Lj (by omega)) ?_;refine go0 15 [] [] ?_;obtain ⟨b3,o4,rfl,-,c5⟩:=RS.row hr (hrow);refine tQ (c5.sees S2) ?_;refine go0 5 [.ix b3 o4 len cap k,.f 0 0,.cl 54 #[.agg #[Vt f.name,Vi f.kind,Vi f.ty,Vi f.src.op,Vi f.src.k,Vi f.src.n,.string f.src.s,.string f.src.nm,sL u],Vp b] (.bool (f.name.toList == x.nm.toList))] [] ?_ (ho:=(Aj (by first | omega | (simp; omega)) (Aj (λH sH=>find1_calm f _ _ _ x b _ (hc.sees (S2.trans sH))) (trivial))))
  cases boolIs (f.name.toList == x.nm.toList) with
  | true hq =>
   refine kV (t:=f.name.toList == x.nm.toList) (hq) ?_;refine go0 9 [] [] ?_;refine yQ ?_;refine go0 2 [] [] ?_;refine hQ.to [Vi (k:Int)] (λH sH=>?_);exact Dj (Value.int .i64) (cQ _ fs k f hn hfk hq).symm
  | false hq =>
   refine uQ (t:=f.name.toList == x.nm.toList) (hq) ?_;refine go0 7 [] [(18,Vi (IntKind.i64.wrap ((k:Int) + 1)),Vi ((k:Int) + 1))] ?_ (hc:=(Aj (jJ (by omega) (by omega)) (trivial)));exact jV (k + 1) (λX q=>⟨W1,q _ _ _ _ ⟨rfl,by kernel_rfl⟩,S2,by omega,(by rw [zY fs k f hfk]; exact λy hy=>(Qj.1 hy).elim (hn y) (λe=>by rw [Pj.1 e]; exact hq))⟩)
 ·skip;have htk:fs.take k=fs:=by rw [hke, <- hL,Qk]
  rw [htk] at hn;refine uQ (t:=decide ((k:Int) < (len:Int))) (Kj (by omega)) ?_;refine go0 2 [] [] ?_;refine yQ ?_;refine go0 8 [] [] ?_;refine hQ.to [Vi (-1)] (λH sH=>?_);exact Dj (Value.int .i64) (fidx_none _ fs hn).symm
theorem calm_cat {H:Vw} {lt l1 l2 more:List Lt} {p:Nat} (h1:lt.take p=l1) (h2:lt.drop (p + 1)=l2) (h3:p + 1 <= lt.length) (hl:l1.length + l2.length + more.length <= 1000000) {As:Option Addr} {cs:Nat} {A':Option Addr} {vm:Value} {b:Nat} (hS:RS H 8 (.slice As lt.length cs) (fW lt)) (e:A'=if cs=p + 1 then As else As.map (·.add ((p + 1) * 8))) (hm:RS H 8 vm (fW more)) (hc:Cells H b 0 [.slice As p cs,.slice A' (lt.length - (p + 1)) (cs - (p + 1)),vm]) :
  C0 Tryz.prog 17 #[.slice (some ⟨b,0,none⟩) 3 3] H (λr h'=>∃ u,r=.slice (sA u) (l1++l2++more).length (sC u) /\ RS h' 8 (.slice (sA u) (l1++l2++more).length (sC u)) (fW (l1++l2++more))):=by
 have g1:=hS.take p (by rw [Ij]; omega);have g2:=hS.drop (p + 1) (by rw [Ij]; omega);rw [<- e] at g2;rw [<- List.map_take,h1] at g1;rw [<- List.map_drop,h2] at g2;refine (c_concat3T (rs_cells (k:=1) [[.slice As p cs],[.slice A' (lt.length - (p + 1)) (cs - (p + 1))],[vm]] (λr hr=>by simp at hr; rcases hr with rfl | rfl | rfl <;> rfl) (show (3:Nat) <= maxLen by decide) hc) g1 g2 hm hl).mono λv h' _=>?_;rintro ⟨u,rfl,k⟩;obtain ⟨A,c,e,-⟩:=k.form;rw [Ij] at e;rw [e] at k ⊢;exact ⟨.slice A (l1++l2++more).length c,rfl,k⟩
theorem cut_at {lt:List Lt} {p:Nat} (h:p < lt.length):∃ l1 y l2,lt=l1++y :: l2 /\ lt.take p=l1 /\ lt.drop (p + 1)=l2 /\ lt[p]?=some y:=by
 obtain ⟨y,hy⟩:∃ y,lt[p]?=some y:=⟨_,Fj h⟩;refine ⟨lt.take p,y,lt.drop (p + 1),?_,rfl,rfl,hy⟩;obtain ⟨q,e⟩:=Oj.1 hy;rw [<- e, <- Gv,Vv]
structure EngF (h:Vw) (A:Option Addr) (n c:Nat) (u:Value) (E:Eg):Prop where
 form:IsForm h (.slice A n c) (sL (agJ 1 u)) E.fm
 inp:RS h 7 (sL (agJ 2 u)) (wK E.inp)
 calls:RS h 10 (sL (agJ 3 u)) (fK E.calls)
 vals:RS h 3 (sL (agJ 4 u)) (hZ E.vals)
theorem EngF.sees {h h':Vw} {A:Option Addr} {n c:Nat} {u:Value} {E:Eg} (k:EngF h A n c u E) (s:Sees h h'):EngF h' A n c u E:=⟨k.form.sees s,k.inp.sees s,k.calls.sees s,k.vals.sees s⟩
theorem EngF.of {h:Vw} {w:Value} {E:Eg} {n:Nat} (k:IsEng h w E) (hn:E.fm.fields.length=n):∃ A c,(sL (agJ 0 w):Value)=.slice A n c /\ EngF h A n c w E:=by
 obtain ⟨vs,A,c,e0,-⟩:=bQ k.form.fields;rw [hn] at e0;have q:=k.form;rw [e0] at q;exact ⟨A,c,e0,q,k.inp,k.calls,k.vals⟩
theorem EngF.at_ {h:Vw} {A:Option Addr} {n c:Nat} {u:Value} {E:Eg} (k:EngF h A n c u E):∃ w,IsEng h w E /\ (sL (agJ 0 w):Value)=.slice A n c /\ agJ 1 w=agJ 1 u /\ agJ 2 w=agJ 2 u /\ agJ 3 w=agJ 3 u /\ agJ 4 w=agJ 4 u:=by
 obtain ⟨w,hw⟩:∃ w:Value,w=.agg #[.slice A n c,agJ 1 u,agJ 2 u,agJ 3 u,agJ 4 u]:=⟨_,rfl⟩;have e0:(sL (agJ 0 w):Value)=.slice A n c:=by rw [hw]; kernel_rfl
 have e1:agJ 1 w=agJ 1 u:=by rw [hw]; kernel_rfl
 have e2:agJ 2 w=agJ 2 u:=by rw [hw]; kernel_rfl
 have e3:agJ 3 w=agJ 3 u:=by rw [hw]; kernel_rfl
 have e4:agJ 4 w=agJ 4 u:=by rw [hw]; kernel_rfl
 obtain ⟨k1,k2,k3,k4⟩:=k;exact ⟨w,⟨by rw [e0,e1]; exact k1,by rw [e2]; exact k2,by rw [e3]; exact k3,by rw [e4]; exact k4⟩,e0,e1,e2,e3,e4⟩
theorem eng_args {E:Eg} {A:Option Addr} {n c:Nat} {u w:Value} (e0:(sL (agJ 0 w):Value)=.slice A n c) (e1:agJ 1 w=agJ 1 u) (e2:agJ 2 w=agJ 2 u) (e3:agJ 3 w=agJ 3 u) (e4:agJ 4 w=agJ 4 u):(.agg (eA w E):Value)=.agg #[.slice A n c,sL (agJ 1 u),Vi E.pol.t,Vi E.pol.b,Vi E.pol.c,sL (agJ 2 u),sL (agJ 3 u),sL (agJ 4 u),Vi E.now,Vi E.last]:=by
 have key:∀ z0 j1 j2 j3 j4:Value,z0=.slice A n c -> j1=agJ 1 u -> j2=agJ 2 u -> j3=agJ 3 u -> j4=agJ 4 u -> (Value.agg #[z0,sL j1,Vi E.pol.t,Vi E.pol.b,Vi E.pol.c,sL j2,sL j3,sL j4,Vi E.now,Vi E.last])=.agg #[.slice A n c,sL (agJ 1 u),Vi E.pol.t,Vi E.pol.b,Vi E.pol.c,sL (agJ 2 u),sL (agJ 3 u),sL (agJ 4 u),Vi E.now,Vi E.last]:=by
  rintro _ _ _ _ _ rfl rfl rfl rfl rfl
  rfl
 exact key _ _ _ _ _ e0 e1 e2 e3 e4
theorem hear_form {E:Eg} {ρ:List Int} {lv:Nat -> Nat} (hok:EgOk E ρ lv) (hse:Settled E ρ) {i:Nat} {f:Fd} {x:Lt} {c:Cl} (hf:E.fm.fields[i]?=some f) (hc:E.calls[i]?=some c) (hn:x.nm=f.name) (hx:OkV x.ans) (ht:Takes f x c) (hl:(jY (qV E i x c) ρ).last <= 1073741810) {A:Option Addr} {n cA:Nat} {u:Value} {h:Vw} (k:EngF h A n cA u E) (hnn:E.fm.fields.length=n) :
  C0 Tryz.prog 45 #[.agg #[.slice A n cA,sL (agJ 1 u),Vi E.pol.t,Vi E.pol.b,Vi E.pol.c,sL (agJ 2 u),sL (agJ 3 u),sL (agJ 4 u),Vi E.now,Vi E.last],.agg #[Vt x.nm,Vi x.id,Vi x.key.k,Vi x.key.n,.string x.key.s,Vi x.ans.k,Vi x.ans.n,.string x.ans.s]] h (λr h'=>∃ (A':Option Addr) (c':Nat) (u':Value),r=.tuple #[.agg #[.slice A' n c',sL (agJ 1 u'),Vi ((kY (qV E i x c) ρ).pol).t,Vi ((kY (qV E i x c) ρ).pol).b,Vi ((kY (qV E i x c) ρ).pol).c,sL (agJ 2 u'),sL (agJ 3 u'),sL (agJ 4 u'),Vi (kY (qV E i x c) ρ).now,Vi (kY (qV E i x c) ρ).last],sL (agJ 5 u'),.bool true,Vi 0] /\ EngF h' A' n c' u' (kY (qV E i x c) ρ) /\ RS h' 8 (sL (agJ 5 u')) (fW (jY (qV E i x c) ρ).out)):=by
 obtain ⟨w,hE,e0,e1,e2,e3,e4⟩:=k.at_;have hk:=hear_any E ρ lv hok hse i f x c hf hc hn hx ht hl w h hE;rw [eng_args e0 e1 e2 e3 e4] at hk;refine hk.mono λr h' _=>?_;rintro ⟨u',rfl,q⟩;obtain ⟨A',c',e,q'⟩:=EngF.of q.eng (n:=n) hnn;exact ⟨A',c',u',Dj (λz=>Value.tuple #[z,sL (agJ 5 u'),.bool true,Vi 0]) (eng_args e rfl rfl rfl rfl),q',q.out⟩
theorem calm_any (fm:Fm) (P:Pol) (ρ:List Int) (lv:Nat -> Nat) (E0:Eg) (lt0:List Lt) (hK0:CalK fm P ρ lv 0 E0 lt0) (last:Bool) (w su:Value) (h:Vw) (hE0:IsEng h w E0) (hS0:RS h 8 (sL su) (fW lt0)) :
  C0 Tryz.prog 18 #[.agg (eA w E0),sL su,.bool last] h (λr h'=>∃ (E:Eg) (k:Nat) (A:Option Addr) (c:Nat) (u:Value),r=.tuple #[.agg #[.slice A fm.fields.length c,sL (agJ 1 u),Vi E.pol.t,Vi E.pol.b,Vi E.pol.c,sL (agJ 2 u),sL (agJ 3 u),sL (agJ 4 u),Vi E.now,Vi E.last],.bool true] /\ CalK fm P ρ lv k E [] /\ EngF h' A fm.fields.length c u E):=by
 obtain ⟨As0,cs0,es,-⟩:=hS0.form;rw [Ij] at es;rw [es] at hS0 ⊢;obtain ⟨A0,cA0,e0,hF0⟩:=EngF.of (n:=fm.fields.length) hE0 (by rw [hK0.m.efm]);rw [eng_args e0 rfl rfl rfl rfl];clear hE0;generalize hnn:fm.fields.length=n at *;refine qQ Tryz.func18 λhbx hbad Q hQ=>?_;refine go2 14 [.own,.own] [] ?_;intro be b1;refine zQ [0,1,0,1] [.block 0,.seq [1,1]] (λ(k:Nat) X=>∃ (W2:Vw) (E:Eg) (lt:List Lt) (A:Option Addr) (cA:Nat) (ue:Value) (As:Option Addr) (cs:Nat),X W2 [(2,.bool last),(3,Vp be),(6,Vp b1),(15,Vi (k:Int)),(1,.slice As lt.length cs)] [.box b1 [Vz,Vz,Vi 0,Vi 0,Vi 0,Vz,Vz,Vz,Vi 0,Vi 0],.box be [.slice A n cA,sL (agJ 1 ue),Vi E.pol.t,Vi E.pol.b,Vi E.pol.c,sL (agJ 2 ue),sL (agJ 3 ue),sL (agJ 4 ue),Vi E.now,Vi E.last]] [] /\ Sees h W2 /\ (k <= 14) /\ (CalK fm P ρ lv k E lt) /\ (EngF W2 A n cA ue E) /\ (RS W2 8 (.slice As lt.length cs) (fW lt))) (λk=>200 - k) (0) (λX q=>⟨h,E0,lt0,A0,cA0,w,As0,cs0,q _ _ _ _ ⟨rfl,by kernel_rfl⟩,Sees.refl _,Mj _,hK0,hF0,hS0⟩) ?_;rintro k a w ⟨W2,E,lt,A,cA,ue,As,cs,hJ,S3,hk,hK,hE,hS⟩; refine eV hJ ?_; clear hJ a w;refine go0 6 [] [] ?_;have ba:=hK.m.len;refine kV (t:=decide ((k:Int) < 200)) (Lj (by omega)) ?_;refine go0 12 [] [] ?_;rcases (by omega:lt.length=0\/0 < lt.length) with hz | hz
 ·skip;have hn:=Zq.1 hz
  refine kV (t:=(lt.length:Int) == 0) (Xj.2 (by omega)) ?_;refine go0 11 [.b 1 0,.b 0 0] [] ?_;refine yQ ?_;refine go0 2 [] [] ?_;refine hQ.to [.agg #[.slice A n cA,sL (agJ 1 ue),Vi E.pol.t,Vi E.pol.b,Vi E.pol.c,sL (agJ 2 ue),sL (agJ 3 ue),sL (agJ 4 ue),Vi E.now,Vi E.last],.bool true] (λH sH=>?_) (ix:=[0]);exact ⟨E,k,A,cA,ue,rfl,hn ▸ hK,(hE.sees sH)⟩
 ·skip;refine uQ (t:=(lt.length:Int) == 0) (Jj.2 (by omega)) ?_
  refine go0 13 [] [] ?_;rcases Ww last with hb | hb
  ·skip;obtain ⟨p,hp⟩:∃ p,lt.length=p + 1:=⟨lt.length - 1,by omega⟩
   have hp3:p + 1 <= lt.length:=by omega
   obtain ⟨l1,y,l2,hsp,hp1,hp2,hy⟩:=cut_at hp3;have hcap:lt.length <= cs:=by
    obtain ⟨_,_,e,q,-⟩:=hS.form;simp only [Sk] at e;omega
   have hry:(fW lt)[p]?=some y.cells:=by rw [Nj,hy]; rfl
   refine kV (t:=last) (hb) ?_;refine go0 11 [] [(24,Vi (IntKind.i64.wrap ((lt.length:Int) - 1)),Vi (p:Int))] ?_ (hc:=(Aj ((jJ (by omega) (by omega)).trans (Dj (Value.int .i64) (by omega))) (trivial)));obtain ⟨i,f,c,hf,hc,hyn,hyk,ht,hxo,hK'⟩:=(hsp ▸ hK:CalK fm P ρ lv k E (l1++y :: l2)).step;have hM:=hK.m;have hM':=hK'.m;have hff:E.fm.fields[i]?=some f:=by rw [hM.efm]; exact hf
   have hF:=hM.ok.fm.fields.each f (Ej hff);have few:=hM.ok.fm.fields.few;have hil:=(Oj.1 hff).1;obtain ⟨vs,Ax,cx,ex,-,-,hr4,hs4,hl4,hu4⟩:=bQ hE.form.fields;have hfl:E.fm.fields.length=n:=by rw [hM.efm]; exact hnn
   rw [hfl] at hr4 ex;simp only [Sk] at ex;obtain ⟨rfl,-,rfl⟩:=ex;obtain ⟨v2,hv2⟩:∃ v,vs[i]?=some v:=⟨_,Fj (by omega)⟩;have hrow:=yK hff hv2;obtain ⟨Au,nu,cu,rfl⟩:=(AllSrc.get hs4 hff hv2).slice;have hfi:dQ E.fm.fields y.nm=(i:Int):=by rw [hyn]; exact eQ hM.ok.fm.fields.nodup hff
   have hix:∀ b H,RS H 9 (.slice A n cA) (xK E.fm.fields vs) -> Cells H b 0 [Vt y.nm,Vi y.id,Vi y.key.k,Vi y.key.n,.string y.key.s,Vi y.ans.k,Vi y.ans.n,.string y.ans.s] -> C0 Tryz.prog 53 #[.slice A n cA,.func (.func 54) #[] #[.pointer (some ⟨b,0,none⟩)]] H (λr _=>r=Vi (i:Int)):=λb H q1 q2=>by
    have q:=idxF_calm E.fm.fields vs A cA y b H (by rw [hfl]; exact q1) (by omega) hl4 hu4 q2;rw [hfi,hfl] at q;exact q
   have han:=λH=>answered_any f Au nu cu y.key H (name_print hF.name).1 (known_size hyk) hF.t1 hF.t3;have bl:=hM'.last;have hH:=λH q=>hear_form (A:=A) (cA:=cA) (u:=ue) (h:=H) hM.ok hM.se hff hc (x:=⟨y.nm,y.id,y.key,rJ f y.key⟩) hyn hxo ht (by
    have e:(kY (qV E i ⟨y.nm,y.id,y.key,rJ f y.key⟩ c) ρ).last=(jY (qV E i ⟨y.nm,y.id,y.key,rJ f y.key⟩ c) ρ).last:=rfl
    omega) q hfl
   have hfk:=hK'.few;have hl2:=hM'.len;clear ht hM';generalize rJ f y.key=bv at *;generalize kY (qV E i ⟨y.nm,y.id,y.key,bv⟩ c) ρ=E' at *;generalize (jY (qV E i ⟨y.nm,y.id,y.key,bv⟩ c) ρ).out=more at *;obtain ⟨b4,o5,rfl,-,c6⟩:=RS.row hS (hry);refine tQ (c6.sees (Sees.refl _)) ?_;refine go1 12 [.ix b4 o5 lt.length cs p,.f 0 0,.own,.b 0 0,.b 2 0] [] ?_ (ho:=(Aj (by first | omega | (simp; omega)) (trivial)));intro blx;refine g_callq (λa w hJ=>hix blx _ (hr4.sees hJ.j.seesQ) (hJ.j.boxQ (b:=blx) (cs:=[Vt y.nm,Vi y.id,Vi y.key.k,Vi y.key.n,.string y.key.s,Vi y.ans.k,Vi y.ans.n,.string y.ans.s]) 0 (by kernel_rfl))) ?_; intro W7 S8;refine go0 10 [] [] ?_;refine uQ (t:=decide ((i:Int) < 0)) (Kj (by omega)) ?_;refine go0 3 [] [] ?_;obtain ⟨b9,o10,rfl,-,c11⟩:=RS.row hr4 (hrow);refine tQ (c11.sees S8) ?_;refine gV 11 0 [.pu,.pu,.ld 2 0,.pu,.v (λgh=>.pointer (some ⟨b9,o10 + i * 9,none⟩)),.lf 0 0,.pu,.ld 0 2,.v (λgh=>.agg #[Vi bv.k,Vi bv.n,.string bv.s]),.pu,.st 0 5] [] (trivial) ?_ ?_
   ·intro R hT hA hmono;refine Aj (yY hT hA b9 o10 n cA i (λgh=>.pointer (some ⟨b9,o10 + i * 9,none⟩)) (by first | omega | (simp; omega))) ?_;refine Aj (t_v hT hA hmono (k:=55) (args:=(λgh=>#[.agg #[Vt f.name,Vi f.kind,Vi f.ty,Vi f.src.op,Vi f.src.k,Vi f.src.n,.string f.src.s,.string f.src.nm,.slice Au nu cu],.agg #[Vi y.key.k,Vi y.key.n,.string y.key.s]])) (f:=λgh=>.agg #[Vi bv.k,Vi bv.n,.string bv.s]) (λgh H sH fH lent=>han _)) ?_
    trivial
   rintro W12 S13 -;refine go0 5 [.b 2 0,.b 0 0] [] ?_;refine lQ (λH sH=>hH _ (hE.sees (S8.trans (S13.trans sH)))) ?_; rintro _ W14 S15 ⟨A5,c5,u50,rfl,f50,g50⟩;refine go1 22 [.own,.b 0 0] [] ?_;intro bnw;obtain ⟨Ad,hAd⟩:∃ x,x=(if cs=(p + 1) then (some ⟨b4,o5,none⟩) else (some ⟨b4,o5,none⟩:Option Addr).map (·.add ((p + 1) * 8))):=⟨_,rfl⟩;refine gV 13 0 [.ld 0 0,.pu,.pu,.v (λgh=>.slice (some ⟨b4,o5,none⟩) p cs),.pu,.pu,.v (λgh=>Vi ((p + 1:Nat):Int)),.v (λgh=>.slice Ad (lt.length - (p + 1)) (cs - (p + 1))),.pu,.f (λgh=>.slice (some ⟨(uJ (gh 9)),0,none⟩) 3 3) (λgh hh=>Cells hh (uJ (gh 9)) 0 [.slice (some ⟨b4,o5,none⟩) p cs,.slice Ad (lt.length - (p + 1)) (cs - (p + 1)),sL (agJ 5 u50)]),.f (λgh=>.slice (sA (gh 10)) ((l1++l2++more).length) (sC (gh 10))) (λgh hh=>RS hh 8 (.slice (sA (gh 10)) (l1++l2++more).length (sC (gh 10))) (fW (l1++l2++more))),.st 3 0,.pu] [(9,true),(10,false)] (Aj (λ_ _ _ s c=>c.sees s) (Aj (λ_ _ _ s c=>c.sees s) (trivial))) ?_ ?_
   ·intro R hT hA hmono;refine Aj (t_p hT hA (λgh=>.slice (some ⟨b4,o5,none⟩) p cs) (λgh w=>run_hi (t:=37) (e:=57) (x:=(.tmp 59)) (y:=(.tmp 60)) (A:=(some ⟨b4,o5,none⟩)) (n:=lt.length) (cap:=cs) (k:=p) (kk:=8) (by kernel_rfl) (by kernel_rfl) (by kernel_rfl) (by omega) Tryz.underlying37 (by kernel_rfl))) ?_;refine Aj (xY hT hA (λgh=>Vi ((p + 1:Nat):Int)) (λgh=>Vi (IntKind.i64.wrap ((p:Int) + 1))) (λgh=>jJ (by omega) (by omega))) ?_;refine Aj (t_p hT hA (λgh=>.slice Ad (lt.length - (p + 1)) (cs - (p + 1))) (λgh w=>run_lo (t:=37) (e:=57) (x:=(.tmp 62)) (y:=(.tmp 64)) (A:=(some ⟨b4,o5,none⟩)) (A':=Ad) (n:=lt.length) (cap:=cs) (k:=(p + 1)) (kk:=8) (by kernel_rfl) (by kernel_rfl) (by kernel_rfl) (by omega) Tryz.underlying37 (by kernel_rfl) hAd)) ?_;refine Aj (r_fact' hT hA hmono 67 (λg=>Vs g 3 3) [3,7,8] 9 (λgh=>[.slice (some ⟨b4,o5,none⟩) p cs,.slice Ad (lt.length - (p + 1)) (cs - (p + 1)),sL (agJ 5 u50)]) 37 (λgh zb zH zc zj zq zhq zhe=>own_fact (i:=9) (k:=0) (f:=λgh hh=>Cells hh (uJ (gh 9)) 0 [.slice (some ⟨b4,o5,none⟩) p cs,.slice Ad (lt.length - (p + 1)) (cs - (p + 1)),sL (agJ 5 u50)]) (by kernel_rfl) (by kernel_rfl) zc zj zq zhq zhe)) ?_;refine Aj (rX hT hA hmono 68 (λu=>.slice (sA u) (l1++l2++more).length (sC u)) [9] 10 17 (λgh=>#[.slice (some ⟨(uJ (gh 9)),0,none⟩) 3 3]) (λgh H sH fH lent=>C0.facts (R:=R) (x:=gh) (i:=10) (n:=1) (F:=(λu=>.slice (sA u) (l1++l2++more).length (sC u))) (G:=λu hh=>RS hh 8 (.slice (sA u) (l1++l2++more).length (sC u)) (fW (l1++l2++more))) (f:=λgh hh=>RS hh 8 (.slice (sA (gh 10)) (l1++l2++more).length (sC (gh 10))) (fW (l1++l2++more))) (calm_cat hp1 hp2 hp3 (by rw [Ek,Ek] at hl2; omega) (hS.sees (S8.trans (S13.trans (S15.trans sH)))) hAd (g50.sees sH) (fH 0 _ rfl (by kernel_rfl))) (by kernel_rfl) (by kernel_rfl) (λ_ _ r=>r))) ?_
    trivial
   rintro b17 u68 W18 S19 ⟨f16,f68,-⟩;replace f16:Cells W18 b17 0 [.slice (some ⟨b4,o5,none⟩) p cs,.slice Ad (lt.length - (p + 1)) (cs - (p + 1)),sL (agJ 5 u50)]:=f16;replace f68:RS W18 8 (.slice (sA u68) (l1++l2++more).length (sC u68)) (fW (l1++l2++more)):=f68;refine tQ f16 ?_;refine go0 6 [] [(69,Vi (IntKind.i64.wrap ((k:Int) + 1)),Vi ((k:Int) + 1))] ?_ (hc:=(Aj (jJ (by omega) (by omega)) (trivial)));exact jV (k + 1) (λX q=>⟨W18,E',(l1++l2++more),A5,c5,u50,(sA u68),(sC u68),q _ _ _ _ ⟨rfl,by kernel_rfl⟩,(S3.trans (S8.trans (S13.trans (S15.trans S19)))),by omega,hK',(f50.sees S19),f68⟩)
  ·skip;obtain ⟨p,hp⟩:∃ p:Nat,p=0:=⟨0,rfl⟩
   have hp3:p + 1 <= lt.length:=by omega
   obtain ⟨l1,y,l2,hsp,hp1,hp2,hy⟩:=cut_at hp3;have hcap:lt.length <= cs:=by
    obtain ⟨_,_,e,q,-⟩:=hS.form;simp only [Sk] at e;omega
   have hry:(fW lt)[p]?=some y.cells:=by rw [Nj,hy]; rfl
   refine iV 8 (v:=Vi 0) (v':=Vi (p:Int)) (Dj (Value.int .i64) (by omega)) ?_;refine uQ (t:=last) (hb) ?_;refine go0 6 [] [] ?_;obtain ⟨i,f,c,hf,hc,hyn,hyk,ht,hxo,hK'⟩:=(hsp ▸ hK:CalK fm P ρ lv k E (l1++y :: l2)).step;have hM:=hK.m;have hM':=hK'.m;have hff:E.fm.fields[i]?=some f:=by rw [hM.efm]; exact hf
   have hF:=hM.ok.fm.fields.each f (Ej hff);have few:=hM.ok.fm.fields.few;have hil:=(Oj.1 hff).1;obtain ⟨vs,Ax,cx,ex,-,-,hr4,hs4,hl4,hu4⟩:=bQ hE.form.fields;have hfl:E.fm.fields.length=n:=by rw [hM.efm]; exact hnn
   rw [hfl] at hr4 ex;simp only [Sk] at ex;obtain ⟨rfl,-,rfl⟩:=ex;obtain ⟨v2,hv2⟩:∃ v,vs[i]?=some v:=⟨_,Fj (by omega)⟩;have hrow:=yK hff hv2;obtain ⟨Au,nu,cu,rfl⟩:=(AllSrc.get hs4 hff hv2).slice;have hfi:dQ E.fm.fields y.nm=(i:Int):=by rw [hyn]; exact eQ hM.ok.fm.fields.nodup hff
   have hix:∀ b H,RS H 9 (.slice A n cA) (xK E.fm.fields vs) -> Cells H b 0 [Vt y.nm,Vi y.id,Vi y.key.k,Vi y.key.n,.string y.key.s,Vi y.ans.k,Vi y.ans.n,.string y.ans.s] -> C0 Tryz.prog 53 #[.slice A n cA,.func (.func 54) #[] #[.pointer (some ⟨b,0,none⟩)]] H (λr _=>r=Vi (i:Int)):=λb H q1 q2=>by
    have q:=idxF_calm E.fm.fields vs A cA y b H (by rw [hfl]; exact q1) (by omega) hl4 hu4 q2;rw [hfi,hfl] at q;exact q
   have han:=λH=>answered_any f Au nu cu y.key H (name_print hF.name).1 (known_size hyk) hF.t1 hF.t3;have bl:=hM'.last;have hH:=λH q=>hear_form (A:=A) (cA:=cA) (u:=ue) (h:=H) hM.ok hM.se hff hc (x:=⟨y.nm,y.id,y.key,rJ f y.key⟩) hyn hxo ht (by
    have e:(kY (qV E i ⟨y.nm,y.id,y.key,rJ f y.key⟩ c) ρ).last=(jY (qV E i ⟨y.nm,y.id,y.key,rJ f y.key⟩ c) ρ).last:=rfl
    omega) q hfl
   have hfk:=hK'.few;have hl2:=hM'.len;clear ht hM';generalize rJ f y.key=bv at *;generalize kY (qV E i ⟨y.nm,y.id,y.key,bv⟩ c) ρ=E' at *;generalize (jY (qV E i ⟨y.nm,y.id,y.key,bv⟩ c) ρ).out=more at *;obtain ⟨b20,o21,rfl,-,c22⟩:=RS.row hS (hry);refine tQ (c22.sees (Sees.refl _)) ?_;refine go1 12 [.ix b20 o21 lt.length cs p,.f 0 0,.own,.b 0 0,.b 2 0] [] ?_ (ho:=(Aj (by first | omega | (simp; omega)) (trivial)));intro blx;refine g_callq (λa w hJ=>hix blx _ (hr4.sees hJ.j.seesQ) (hJ.j.boxQ (b:=blx) (cs:=[Vt y.nm,Vi y.id,Vi y.key.k,Vi y.key.n,.string y.key.s,Vi y.ans.k,Vi y.ans.n,.string y.ans.s]) 0 (by kernel_rfl))) ?_; intro W23 S24;refine go0 10 [] [] ?_;refine uQ (t:=decide ((i:Int) < 0)) (Kj (by omega)) ?_;refine go0 3 [] [] ?_;obtain ⟨b25,o26,rfl,-,c27⟩:=RS.row hr4 (hrow);refine tQ (c27.sees S24) ?_;refine gV 11 0 [.pu,.pu,.ld 2 0,.pu,.v (λgh=>.pointer (some ⟨b25,o26 + i * 9,none⟩)),.lf 0 0,.pu,.ld 0 2,.v (λgh=>.agg #[Vi bv.k,Vi bv.n,.string bv.s]),.pu,.st 0 5] [] (trivial) ?_ ?_
   ·intro R hT hA hmono;refine Aj (yY hT hA b25 o26 n cA i (λgh=>.pointer (some ⟨b25,o26 + i * 9,none⟩)) (by first | omega | (simp; omega))) ?_;refine Aj (t_v hT hA hmono (k:=55) (args:=(λgh=>#[.agg #[Vt f.name,Vi f.kind,Vi f.ty,Vi f.src.op,Vi f.src.k,Vi f.src.n,.string f.src.s,.string f.src.nm,.slice Au nu cu],.agg #[Vi y.key.k,Vi y.key.n,.string y.key.s]])) (f:=λgh=>.agg #[Vi bv.k,Vi bv.n,.string bv.s]) (λgh H sH fH lent=>han _)) ?_
    trivial
   rintro W28 S29 -;refine go0 5 [.b 2 0,.b 0 0] [] ?_;refine lQ (λH sH=>hH _ (hE.sees (S24.trans (S29.trans sH)))) ?_; rintro _ W30 S31 ⟨A5,c5,u50,rfl,f50,g50⟩;refine go1 22 [.own,.b 0 0] [] ?_;intro bnw;obtain ⟨Ae,hAe⟩:∃ x,x=(if cs=(p + 1) then (some ⟨b20,o21,none⟩) else (some ⟨b20,o21,none⟩:Option Addr).map (·.add ((p + 1) * 8))):=⟨_,rfl⟩;refine gV 13 0 [.ld 0 0,.pu,.pu,.v (λgh=>.slice (some ⟨b20,o21,none⟩) p cs),.pu,.pu,.v (λgh=>Vi ((p + 1:Nat):Int)),.v (λgh=>.slice Ae (lt.length - (p + 1)) (cs - (p + 1))),.pu,.f (λgh=>.slice (some ⟨(uJ (gh 9)),0,none⟩) 3 3) (λgh hh=>Cells hh (uJ (gh 9)) 0 [.slice (some ⟨b20,o21,none⟩) p cs,.slice Ae (lt.length - (p + 1)) (cs - (p + 1)),sL (agJ 5 u50)]),.f (λgh=>.slice (sA (gh 10)) ((l1++l2++more).length) (sC (gh 10))) (λgh hh=>RS hh 8 (.slice (sA (gh 10)) (l1++l2++more).length (sC (gh 10))) (fW (l1++l2++more))),.st 3 0,.pu] [(9,true),(10,false)] (Aj (λ_ _ _ s c=>c.sees s) (Aj (λ_ _ _ s c=>c.sees s) (trivial))) ?_ ?_
   ·intro R hT hA hmono;refine Aj (t_p hT hA (λgh=>.slice (some ⟨b20,o21,none⟩) p cs) (λgh w=>run_hi (t:=37) (e:=57) (x:=(.tmp 59)) (y:=(.tmp 60)) (A:=(some ⟨b20,o21,none⟩)) (n:=lt.length) (cap:=cs) (k:=p) (kk:=8) (by kernel_rfl) (by kernel_rfl) (by kernel_rfl) (by omega) Tryz.underlying37 (by kernel_rfl))) ?_;refine Aj (xY hT hA (λgh=>Vi ((p + 1:Nat):Int)) (λgh=>Vi (IntKind.i64.wrap ((p:Int) + 1))) (λgh=>jJ (by omega) (by omega))) ?_;refine Aj (t_p hT hA (λgh=>.slice Ae (lt.length - (p + 1)) (cs - (p + 1))) (λgh w=>run_lo (t:=37) (e:=57) (x:=(.tmp 62)) (y:=(.tmp 64)) (A:=(some ⟨b20,o21,none⟩)) (A':=Ae) (n:=lt.length) (cap:=cs) (k:=(p + 1)) (kk:=8) (by kernel_rfl) (by kernel_rfl) (by kernel_rfl) (by omega) Tryz.underlying37 (by kernel_rfl) hAe)) ?_;refine Aj (r_fact' hT hA hmono 67 (λg=>Vs g 3 3) [3,7,8] 9 (λgh=>[.slice (some ⟨b20,o21,none⟩) p cs,.slice Ae (lt.length - (p + 1)) (cs - (p + 1)),sL (agJ 5 u50)]) 37 (λgh zb zH zc zj zq zhq zhe=>own_fact (i:=9) (k:=0) (f:=λgh hh=>Cells hh (uJ (gh 9)) 0 [.slice (some ⟨b20,o21,none⟩) p cs,.slice Ae (lt.length - (p + 1)) (cs - (p + 1)),sL (agJ 5 u50)]) (by kernel_rfl) (by kernel_rfl) zc zj zq zhq zhe)) ?_;refine Aj (rX hT hA hmono 68 (λu=>.slice (sA u) (l1++l2++more).length (sC u)) [9] 10 17 (λgh=>#[.slice (some ⟨(uJ (gh 9)),0,none⟩) 3 3]) (λgh H sH fH lent=>C0.facts (R:=R) (x:=gh) (i:=10) (n:=1) (F:=(λu=>.slice (sA u) (l1++l2++more).length (sC u))) (G:=λu hh=>RS hh 8 (.slice (sA u) (l1++l2++more).length (sC u)) (fW (l1++l2++more))) (f:=λgh hh=>RS hh 8 (.slice (sA (gh 10)) (l1++l2++more).length (sC (gh 10))) (fW (l1++l2++more))) (calm_cat hp1 hp2 hp3 (by rw [Ek,Ek] at hl2; omega) (hS.sees (S24.trans (S29.trans (S31.trans sH)))) hAe (g50.sees sH) (fH 0 _ rfl (by kernel_rfl))) (by kernel_rfl) (by kernel_rfl) (λ_ _ r=>r))) ?_
    trivial
   rintro b33 u68 W34 S35 ⟨f32,f68,-⟩;replace f32:Cells W34 b33 0 [.slice (some ⟨b20,o21,none⟩) p cs,.slice Ae (lt.length - (p + 1)) (cs - (p + 1)),sL (agJ 5 u50)]:=f32;replace f68:RS W34 8 (.slice (sA u68) (l1++l2++more).length (sC u68)) (fW (l1++l2++more)):=f68;refine tQ f32 ?_;refine go0 6 [] [(69,Vi (IntKind.i64.wrap ((k:Int) + 1)),Vi ((k:Int) + 1))] ?_ (hc:=(Aj (jJ (by omega) (by omega)) (trivial)));exact jV (k + 1) (λX q=>⟨W34,E',(l1++l2++more),A5,c5,u50,(sA u68),(sC u68),q _ _ _ _ ⟨rfl,by kernel_rfl⟩,(S3.trans (S24.trans (S29.trans (S31.trans S35)))),by omega,hK',(f50.sees S35),f68⟩)
end Go.Proofs.YthgcgciceejicaaGreatDoor
