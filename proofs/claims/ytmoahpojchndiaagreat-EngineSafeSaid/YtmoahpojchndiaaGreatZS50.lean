/-
  The laws' Oracle, in plain words: all keys that come up, answered. Such answers may be.
-/
import Derived.Test.YtmoahpojchndiaaGreatZS38
import Derived.Test.YtmoahpojchndiaaGreatZS49
import Derived.Test.YtmoahpojchndiaaGreatZS9
import Derived.Test.YtmoahpojchndiaaGreatZS41
import Derived.Test.YtmoahpojchndiaaGreatZS46
import Derived.Test.YtmoahpojchndiaaGreatZS48
import Derived.Test.YtmoahpojchndiaaGreatZS11
set_option maxRecDepth 100000
namespace Go.Proofs.YtmoahpojchndiaaGreat
open Go.RowKit
set_option linter.unusedVariables false
def abcB:ByteArray:=⟨#[97,98,99,100,101,102,103,104,105]⟩
def ansN (f:Fd) (key:Vl):Int:=Int.tmod key.n 9 + 3 * (key.s.size:Int) + (f.name.size:Int)
def ansV (f:Fd) (key:Vl):Vl:=if f.ty=1 then ⟨1,ansN f key,⟨#[]⟩⟩ else if f.ty=2 then ⟨2,cJ (ansN f key) 2,⟨#[]⟩⟩ else ⟨3,0,f.name++abcB.extract 0 (cJ (ansN f key) 9).toNat⟩
theorem word_print {c:UInt8} (h:isWord c=true):32≤c.toNat∧c.toNat≤126:=by
 unfold isWord isLet isDig at h
 simp only [Bool.or_eq_true,decide_eq_true_eq] at h
 omega
theorem name_print {s:ByteArray} (h:rJ s.data.toList):s.size≤10∧∀ i (hi:i < s.size),32≤s[i].toNat∧s[i].toNat≤126:=by
 obtain ⟨-,h2,-,h4,-⟩:=h
 have hsz:s.data.toList.length=s.size:=by simp
 refine ⟨by omega,fun i hi=>?_⟩
 have hg:s.data.toList[i]?=some s[i]:=by
  rw [List.getElem?_eq_getElem (by omega)]
  congr 1
 exact word_print (span_all isWord s.data.toList i s[i] (by omega) hg)
theorem abc_all:∀ i (hi:i < 9),32≤(abcB[i]'hi).toNat∧(abcB[i]'hi).toNat≤126:=by decide
theorem abc_print (k:Nat):(abcB.extract 0 k).size≤9∧∀ i (hi:i < (abcB.extract 0 k).size),32≤(abcB.extract 0 k)[i].toNat∧(abcB.extract 0 k)[i].toNat≤126:=by
 have hs:(abcB.extract 0 k).size=min k abcB.size - 0:=ByteArray.size_extract ..
 have h9:abcB.size=9:=rfl
 refine ⟨by omega,fun i hi=>?_⟩
 rw [ByteArray.getElem_extract]
 have:=abc_all (0 + i) (by omega)
 exact this
theorem known_size {v:Vl} (h:v.known):v.s.size≤40:=by
 rcases h with ⟨-,-,e⟩ | ⟨-,-,e⟩ | ⟨-,-,e,-⟩
 ·rw [e]; decide
 ·rw [e]; decide
 ·exact e
theorem ansN_lo (f:Fd) (key:Vl) (hn:f.name.size≤10) (hk:key.s.size≤40) : -8≤ansN f key∧ansN f key≤138:=by
 have h1:=Int.tmod_lt_of_pos key.n (show (0:Int) < 9 by decide)
 have h2:=Int.lt_tmod_of_pos key.n (show (0:Int) < 9 by decide)
 unfold ansN
 omega
theorem ans_known {fs:List Fd} {f:Fd} (hf:OkF fs f) {key:Vl} (hk:key.known):(ansV f key).known∧(ansV f key).k=f.ty:=by
 obtain ⟨hn,hp⟩:=name_print hf.name
 have hr:=ansN_lo f key hn (known_size hk)
 have t1:=hf.t1
 have t3:=hf.t3
 unfold ansV
 by_cases g1:f.ty=1
 ·rw [if_pos g1]
  exact ⟨.inl ⟨rfl,by show Lim (ansN f key); unfold Lim; omega,rfl⟩,g1.symm⟩
 by_cases g2:f.ty=2
 ·rw [if_neg g1,if_pos g2]
  have p0:=uX (ansN f key) 2 (by omega)
  have p1:=tX (ansN f key) 2 (by omega)
  exact ⟨.inr (.inl ⟨rfl,by show cJ _ _=0∨cJ _ _=1; omega,rfl⟩),g2.symm⟩
 rw [if_neg g1,if_neg g2]
 obtain ⟨ha,hb⟩:=abc_print (cJ (ansN f key) 9).toNat
 generalize abcB.extract 0 (cJ (ansN f key) 9).toNat=t at *
 have hs:(f.name++t).size=f.name.size + t.size:=ByteArray.size_append ..
 refine ⟨.inr (.inr ⟨rfl,rfl,by show (f.name++t).size≤40; omega,fun i hi=>?_⟩),by show (3:Int)=_; omega⟩
 have hi':i < f.name.size + t.size:=by rw [← hs]; exact hi
 show 32≤(f.name++t)[i].toNat∧_
 by_cases hlt:i < f.name.size
 ·rw [ByteArray.getElem_append_left hlt]; exact hp i hlt
 ·rw [ByteArray.getElem_append_right (by omega)]; exact hb _ (by omega)
theorem tyL_congr {f g:ByteArray→Option Int}:∀ {l:List Ex},(∀ y∈l,tyE f y=tyE g y)→tyL f l=tyL g l
 | [],_=>by rw [tyL,tyL]
 | x :: l,h=>by rw [tyL,tyL,h x (by simp),tyL_congr fun y hy=>h y (by simp [hy])]
theorem ty_congr {f g:ByteArray→Option Int} {x:Ex} (h:∀ s∈gY x,f s=g s):tyE f x=tyE g x:=by
 revert h
 refine ex_ind (p:=fun x=>(∀ s∈gY x,f s=g s)→tyE f x=tyE g x) (fun x ih h=>?_) x
 rw [iY] at h
 have hl:tyL f x.args=tyL g x.args:=tyL_congr fun y hy=>ih y hy fun s hs=>h s (List.mem_append_right _ (mem_refsL.2 ⟨y,hy,hs⟩))
 rw [tyE_op,tyE_op,hl]
 by_cases h2:x.op=2
 ·rw [h x.nm (by rw [if_pos h2]; simp)]
 ·unfold tyOp
  simp only [if_neg h2]
abbrev NyV (v:Vl):Prop:=v.k=4∨v.k=5
theorem ny_not:NotYet NyV:=⟨fun _ h=>h,.inr rfl,.inr rfl,.inr rfl⟩
def TyOk (fs:List Fd) (v:List Vl):Prop:=∀ (i:Nat) (f:Fd) (x:Vl),fs[i]?=some f→v[i]?=some x→OfT NyV f.ty x
theorem fcs_env {fs:List Fd} (hok:OkFs fs) {v:List Vl} (hl:v.length=fs.length) (ht:TyOk fs v):∀ s t,tyF fs s=some t→∃ x,(fcs fs v).get s=some x∧OfT NyV t x:=fun s t h=>by
 obtain ⟨i,f,h1,h2,h3⟩:∃ (i:Nat) (f:Fd),fs[i]?=some f∧f.name=s∧f.ty=t:=by
  clear ht hl hok
  induction fs with
  | nil=>cases h
  | cons g l ih =>
   rw [tyF] at h
   by_cases e:(s == g.name)=true
   ·rw [if_pos e] at h
    exact ⟨0,g,rfl,((Go.MapKept.bytes_beq _ _).1 e).symm,Option.some.inj h⟩
   ·rw [if_neg e] at h
    obtain ⟨i,f,h1,h2⟩:=ih h
    exact ⟨i + 1,f,by simpa using h1,h2⟩
 obtain ⟨x,hx⟩:∃ x,v[i]?=some x:=⟨_,List.getElem?_eq_getElem (by rw [hl]; exact (List.getElem?_eq_some_iff.1 h1).1)⟩
 exact ⟨x,h2 ▸ fcs_get hok.nodup h1 hx,h3 ▸ ht i f x h1 hx⟩
theorem tell_ty {fs:List Fd} {inp:Env} (hi:∀ p∈inp,p.2.known) {s:ByteArray} {t:Int} (h1:1≤t) (h3:t≤3) (hk:∀ p∈inp,p.1=s→p.2.k=t):(tellV s t inp).k=t:=by
 induction inp with
 | nil=>rfl
 | cons p l ih =>
  rw [tellV]
  by_cases e:(p.1.toList == s.toList)=true
  ·rw [if_pos e]
   rw [tl_dec,decide_eq_true_iff] at e
   exact hk p (by simp) e
  ·rw [if_neg e]
   exact ih (fun q hq=>hi q (by simp [hq])) fun q hq=>hk q (by simp [hq])
def InpTy (fs:List Fd) (inp:Env):Prop:=∀ (i:Nat) (f:Fd),fs[i]?=some f→f.kind=1→∀ p∈inp,p.1=f.name→p.2.k=f.ty
theorem sol_tyG {fs:List Fd} (hok:OkFs fs) {inp:Env} (hi:∀ p∈inp,p.2.known) (hit:InpTy fs inp) {orc:List Aw} (ho:∀ (i:Nat) (f:Fd),fs[i]?=some f→∀ key,OfT NyV f.ty (askL f.name key orc)) {ρ:List Int} {lv:Nat→Nat} (hr:Ranked (rW fs) ρ lv) {v:List Vl} (hv:Sol fs inp orc v) (hvo:∀ x∈v,OkV x):TyOk fs v:=by
 have key:∀ t i,lv i < t→∀ f x,fs[i]?=some f→v[i]?=some x→OfT NyV f.ty x:=fun t=>by
  induction t with
  | zero=>intro i h; omega
  | succ t ih =>
   intro i ht f x hf hx
   have hF:=hok.each f (List.mem_of_getElem? hf)
   have hil:=(List.getElem?_eq_some_iff.1 hf).1
   have hxo:=hvo x (List.mem_of_getElem? hx)
   have e:=hv.at_ i f x hf hx
   unfold xW at e
   by_cases h1:f.kind=1
   ·rw [if_pos h1] at e
    exact .inl ⟨e ▸ tell_ok hi _ hF.t1 hF.t3,e ▸ tell_ty (fs:=fs) hi hF.t1 hF.t3 (hit i f hf h1)⟩
   ·rw [if_neg h1] at e
    by_cases h3:f.kind=3
    ·rw [if_pos h3] at e
     unfold askV at e
     split at e
     ·rw [e]; exact ho i f hf _
     ·rename_i q
      rw [e] at hxo ⊢
      have:=ok_kinds hxo
      exact .inr (by show _=4∨_=5; omega)
    ·rw [if_neg h3] at e
     have ht2:=hF.form (by have:=hF.k1; have:=hF.k3; omega)
     have hdec:∀ s,Decidable (s∈gY f.src):=fun s=>Classical.propDecidable _
     obtain ⟨t2,env,hsub,hE⟩:∃ (f2:ByteArray→Option Int) (env:Env),tyE f2 f.src=(f.ty,0)∧rK env f.src=rK (fcs fs v) f.src∧∀ s t,f2 s=some t→∃ x,env.get s=some x∧OfT NyV t x:=by
      refine ⟨fun s=>if s∈gY f.src then tyF fs s else none,fcs fs v,?_,rfl,fun s t q=>?_⟩
      ·exact (ty_congr (f:=fun s=>if s∈gY f.src then tyF fs s else none) (g:=tyF fs) (fun s hs=>if_pos hs)).trans ht2
      ·simp only at q
       split at q
       ·rename_i hs
        obtain ⟨j,g,g1,g2,g3⟩:=refs_need hok hf h1 hs
        obtain ⟨l1,l2⟩:=hr.low i (by rw [needsE_len]; exact hil) j g3
        rw [needsE_len] at l1
        obtain ⟨y,hy⟩:∃ y,v[j]?=some y:=⟨_,List.getElem?_eq_getElem (by rw [hv.len]; exact l1)⟩
        have:=ih j (by omega) g y g1 hy
        have hty:tyF fs s=some g.ty:=by rw [← g2]; exact tyF_mem hok.nodup g (List.mem_of_getElem? g1)
        rw [hty] at q
        rw [← Option.some.inj q]
        exact ⟨y,g2 ▸ fcs_get hok.nodup g1 hy,this⟩
       ·cases q
     have:=ty_sound ny_not hE.2 (hF.wf h1).1 hsub
     rw [hE.1] at this
     rw [e]; exact this
 exact fun i f x hf hx=>key (lv i + 1) i (by omega) f x hf hx
end Go.Proofs.YtmoahpojchndiaaGreat
namespace Go.Proofs.YtmoahpojchndiaaGreat
open Go.RowKit
set_option linter.unusedVariables false
structure Wh (fs:List Fd) (inp:Env) (ρ:List Int) (lv:Nat→Nat) (os:List Nat):Prop where
 ok:OkFs fs
 known:∀ p∈inp,p.2.known
 ty:InpTy fs inp
 ord:Ordd fs ρ lv os
section
variable {fs:List Fd} {inp:Env} {ρ:List Int} {lv:Nat→Nat} {os:List Nat}
open Classical in
open Classical in
end
end Go.Proofs.YtmoahpojchndiaaGreat
namespace Go.Proofs.YtmoahpojchndiaaGreat
open Go.RowKit
set_option linter.unusedVariables false
theorem run_rem9 {P:Program} {t:TypeId} (a:Int) (w:World):(binOp .rem t (.int .i64 a) (.int .i64 9)).run P w=.ok (.int .i64 (Int.tmod a 9)) w:=by
 simp [binOp,Op.intDiv]
theorem run_hiS {P:Program} {o:Oper} {ρ:Operand→Value} {t:TypeId} {x y:Operand} {s:ByteArray} {k:Int} (w:World) (ho:o.op=.slice t x none (some y) none) (hx:ρ x=.string s) (hy:ρ y=.int .i64 k) (h0:0≤k) (hk:k≤s.size) (ht:P.underlying t=some .string) :
  (execOp ρ o).run P w=.ok (.value (.string (s.extract 0 k.toNat))) w:=by
 unfold execOp
 simp only [ho,hx,hy,Option.map_some,Option.map_none]
 simp [run_sliceAt_string (w:=w) t _ _ _ _ ht,run_slice_string_h (w:=w) t s ht .i64 k h0 hk]
set_option maxHeartbeats 4000000 in
theorem answered_any (f:Fd) (A:Option Addr) (n c:Nat) (key:Vl) (h:Vw) (hn:f.name.size≤10) (hk:key.s.size≤40) (t1:1≤f.ty) (t3:f.ty≤3):C0 Tryz.prog 64 #[.agg #[.string f.name,.int .i64 f.kind,.int .i64 f.ty,.int .i64 f.src.op,.int .i64 f.src.k,.int .i64 f.src.n,.string f.src.s,.string f.src.nm,.slice A n c],.agg #[.int .i64 key.k,.int .i64 key.n,.string key.s]] h (fun r _=>r=(ansV f key).val):=by
 have hr:=ansN_lo f key hn hk
 have hp2:=fun H=>bK (ansN f key) 2 H (by omega) (by omega) (by omega) (by omega)
 have hp9:=fun H=>bK (ansN f key) 9 H (by omega) (by omega) (by omega) (by omega)
 have p0:=uX (ansN f key) 9 (by omega)
 have p1:=tX (ansN f key) 9 (by omega)
 have habc:abcB.size=9:=rfl
 have e:ansN f key=Int.tmod key.n 9 + 3 * (key.s.size:Int) + (f.name.size:Int):=rfl
 have hs0:(0:Int)≤(key.s.size:Int):=Int.natCast_nonneg _
 have hrem:key.n % 9=key.n % 9:=rfl
 obtain g | g | g:f.ty=1∨f.ty=2∨f.ty=3:=by omega
 ·have ea:ansV f key=⟨1,ansN f key,⟨#[]⟩⟩:=by unfold ansV; rw [if_pos g]
  rw [ea]
  generalize ansN f key=N at *
  refine xQ Tryz.func64 (c:=Tryz.f64.body.getD .skip) (N:=36) ?_
  intro hbx hbad Q hQ
  refine go3 11 [.own,.own,.own,.b 1 1] [] ?_
  intro b1 b2 b3
  refine lV (Vi (Int.tmod key.n 9)) (fun w=>run_bin (op:=.rem) (t:=3) (x:=(.tmp 7)) (y:=(.const (Vi 9))) (yt:=3) (by kernel_rfl) (by kernel_rfl) (by kernel_rfl) (by kernel_rfl) (run_rem9 key.n w)) ?_
  refine go0 37 [.b 1 2,.b 2 0,.b 2 2,.b 0 0] [(12,Vi (IntKind.i64.wrap (3 * (key.s.size:Int))),Vi (3 * (key.s.size:Int))),(13,Vi (IntKind.i64.wrap (Int.tmod key.n 9 + (3 * (key.s.size:Int)))),Vi (Int.tmod key.n 9 + (3 * (key.s.size:Int)))),(17,Vi (IntKind.i64.wrap ((Int.tmod key.n 9 + (3 * (key.s.size:Int))) + (f.name.size:Int))),Vi N),(21,.bool (f.ty == 1),.bool true)] ?_ (hc:=(And.intro (jJ (by omega) (by omega)) (And.intro (jJ (by omega) (by omega)) (And.intro ((jJ (by omega) (by omega)).trans (congrArg (Value.int .i64) e.symm)) (And.intro (congrArg Value.bool (beq_iff_eq.2 g)) (trivial))))))
  refine hQ.to [.agg #[Vi 1,Vi N,Ve]] (fun H sH=>?_) (ix:=[0])
  exact rfl
 ·have ea:ansV f key=⟨2,cJ (ansN f key) 2,⟨#[]⟩⟩:=by unfold ansV; rw [if_neg (by omega),if_pos g]
  rw [ea]
  generalize ansN f key=N at *
  refine xQ Tryz.func64 (c:=Tryz.f64.body.getD .skip) (N:=36) ?_
  intro hbx hbad Q hQ
  refine go3 11 [.own,.own,.own,.b 1 1] [] ?_
  intro b1 b2 b3
  refine lV (Vi (Int.tmod key.n 9)) (fun w=>run_bin (op:=.rem) (t:=3) (x:=(.tmp 7)) (y:=(.const (Vi 9))) (yt:=3) (by kernel_rfl) (by kernel_rfl) (by kernel_rfl) (by kernel_rfl) (run_rem9 key.n w)) ?_
  refine go0 45 [.b 1 2,.b 2 0,.b 2 2,.cl 19 #[Vi N,Vi 2] (Vi (cJ N 2)),.b 0 0] [(12,Vi (IntKind.i64.wrap (3 * (key.s.size:Int))),Vi (3 * (key.s.size:Int))),(13,Vi (IntKind.i64.wrap (Int.tmod key.n 9 + (3 * (key.s.size:Int)))),Vi (Int.tmod key.n 9 + (3 * (key.s.size:Int)))),(17,Vi (IntKind.i64.wrap ((Int.tmod key.n 9 + (3 * (key.s.size:Int))) + (f.name.size:Int))),Vi N),(21,.bool (f.ty == 1),.bool false),(25,.bool (f.ty == 2),.bool true)] ?_ (ho:=(And.intro (fun H sH=>hp2 _) (trivial))) (hc:=(And.intro (jJ (by omega) (by omega)) (And.intro (jJ (by omega) (by omega)) (And.intro ((jJ (by omega) (by omega)).trans (congrArg (Value.int .i64) e.symm)) (And.intro (congrArg Value.bool (beq_eq_false_iff_ne.2 (by omega))) (And.intro (congrArg Value.bool (beq_iff_eq.2 g)) (trivial)))))))
  refine hQ.to [.agg #[Vi 2,Vi (cJ N 2),Ve]] (fun H sH=>?_) (ix:=[0])
  exact rfl
 ·have ea:ansV f key=⟨3,0,f.name++abcB.extract 0 (cJ (ansN f key) 9).toNat⟩:=by unfold ansV; rw [if_neg (by omega),if_neg (by omega)]
  rw [ea]
  have hcut:=fun (ρ:Operand→Value) (o:Oper) (x y:Operand) (w:World) q1 q2 q3=>run_hiS (P:=Tryz.prog) (o:=o) (ρ:=ρ) (t:=9) (x:=x) (y:=y) (s:=abcB) (k:=cJ (ansN f key) 9) w q1 q2 q3 p0 (by rw [habc]; omega) Tryz.underlying9
  generalize ansN f key=N at *
  generalize cJ N 9=q at *
  have hcs:=(abc_print q.toNat).1
  refine xQ Tryz.func64 (c:=Tryz.f64.body.getD .skip) (N:=36) ?_
  intro hbx hbad Q hQ
  refine go3 11 [.own,.own,.own,.b 1 1] [] ?_
  intro b1 b2 b3
  refine lV (Vi (Int.tmod key.n 9)) (fun w=>run_bin (op:=.rem) (t:=3) (x:=(.tmp 7)) (y:=(.const (Vi 9))) (yt:=3) (by kernel_rfl) (by kernel_rfl) (by kernel_rfl) (by kernel_rfl) (run_rem9 key.n w)) ?_
  refine go0 38 [.b 1 2,.b 2 0,.b 2 2] [(12,Vi (IntKind.i64.wrap (3 * (key.s.size:Int))),Vi (3 * (key.s.size:Int))),(13,Vi (IntKind.i64.wrap (Int.tmod key.n 9 + (3 * (key.s.size:Int)))),Vi (Int.tmod key.n 9 + (3 * (key.s.size:Int)))),(17,Vi (IntKind.i64.wrap ((Int.tmod key.n 9 + (3 * (key.s.size:Int))) + (f.name.size:Int))),Vi N),(21,.bool (f.ty == 1),.bool false),(25,.bool (f.ty == 2),.bool false)] ?_ (hc:=(And.intro (jJ (by omega) (by omega)) (And.intro (jJ (by omega) (by omega)) (And.intro ((jJ (by omega) (by omega)).trans (congrArg (Value.int .i64) e.symm)) (And.intro (congrArg Value.bool (beq_eq_false_iff_ne.2 (by omega))) (And.intro (congrArg Value.bool (beq_eq_false_iff_ne.2 (by omega))) (trivial)))))))
  refine mV 8 0 [.pu,.ld 2 0,.pu,.v (fun gh=>Vi q),.v (fun gh=>.string (abcB.extract 0 q.toNat)),.v (fun gh=>.string (f.name++abcB.extract 0 q.toNat)),.pu,.st 0 0] [] (trivial) ?_ ?_
  ·intro R hT hA hmono
   refine And.intro (t_v hT hA hmono (k:=19) (args:=(fun gh=>#[Vi N,Vi 9])) (f:=fun gh=>Vi q) (fun gh H sH fH lent=>hp9 _)) ?_
   refine And.intro (t_p hT hA (fun gh=>.string (abcB.extract 0 q.toNat)) (fun gh w=>hcut _ _ (.const (.string abcB)) (.tmp 32) w (by kernel_rfl) (by kernel_rfl) (by kernel_rfl))) ?_
   refine And.intro (t_p hT hA (fun gh=>.string (f.name++abcB.extract 0 q.toNat)) (fun gh w=>run_bin (op:=.add) (t:=9) (x:=(.tmp 30)) (y:=(.tmp 33)) (yt:=9) (by kernel_rfl) (by kernel_rfl) (by kernel_rfl) (by kernel_rfl) (run_cat (by omega)))) ?_
   trivial
  rintro W4 S5 -
  refine go0 2 [] [] ?_
  refine hQ.to [.agg #[Vi 3,Vi 0,.string (f.name++abcB.extract 0 q.toNat)]] (fun H sH=>?_) (ix:=[0])
  exact rfl
end Go.Proofs.YtmoahpojchndiaaGreat
namespace Go.Proofs.YtmoahpojchndiaaGreat
open Go.RowKit
set_option linter.unusedVariables false
theorem find1_meet (f:Fd) (A:Option Addr) (n c:Nat) (x:Lt) (b:Nat) (h:Vw) (hc:Cells h b 0 [.string x.nm,.int .i64 x.id,.int .i64 x.key.k,.int .i64 x.key.n,.string x.key.s,.int .i64 x.ans.k,.int .i64 x.ans.n,.string x.ans.s]) :
  C0 Tryz.prog 75 #[.agg #[.string f.name,.int .i64 f.kind,.int .i64 f.ty,.int .i64 f.src.op,.int .i64 f.src.k,.int .i64 f.src.n,.string f.src.s,.string f.src.nm,.slice A n c],.pointer (some ⟨b,0,none⟩)] h (fun r _=>r=.bool (f.name.toList == x.nm.toList)):=by
 refine xQ Tryz.func75 (c:=Tryz.f75.body.getD .skip) (N:=9) ?_
 intro hbx hbad Q hQ
 refine yQ (hc.sees (Sees.refl _)) ?_
 refine go1 17 [.own,.b 0 0,.f 0 0] [] ?_
 intro b1
 refine hQ.to [.bool (f.name.toList == x.nm.toList)] (fun H sH=>?_)
 exact rfl
theorem idxF_meet (fs:List Fd) (vs:List Value) (A:Option Addr) (cap:Nat) (x:Lt) (b:Nat) (h:Vw) (hr:RS h 9 (.slice A fs.length cap) (eQ fs vs)) (hl:fs.length≤1000000) (hvl:vs.length=fs.length) (hsl:∀ u∈vs,.slice (sA u) (sN u) (sC u)=u) (hc:Cells h b 0 [.string x.nm,.int .i64 x.id,.int .i64 x.key.k,.int .i64 x.key.n,.string x.key.s,.int .i64 x.ans.k,.int .i64 x.ans.n,.string x.ans.s]) :
  C0 Tryz.prog 62 #[.slice A fs.length cap,.func (.func 75) #[] #[.pointer (some ⟨b,0,none⟩)]] h (fun r _=>r=.int .i64 (kQ fs x.nm)):=by
 generalize hL:fs.length=len at *
 refine xQ Tryz.func62 (c:=Tryz.f62.body.getD .skip) (N:=19) ?_
 intro hbx hbad Q hQ
 refine go0 14 [] [] ?_
 refine fV [0,1,0,1] [.block 0,.seq [1,1]] (fun (k:Nat) X=>∃ (W1:Vw) ,X W1 [(0,.slice A len cap),(1,.func (.func 75) #[] #[Vp b]),(7,Vi (len:Int)),(8,Vi (k:Int))] [] []∧Sees h W1∧(k≤len)∧(∀ y∈fs.take k,(y.name.toList == x.nm.toList)=false)) (fun k=>len - k) (0) (fun X q=>⟨h,q _ _ _ _ ⟨rfl,by kernel_rfl⟩,Sees.refl _,Nat.zero_le _,fun y hy=>by simp at hy⟩) ?_
 rintro k a w ⟨W1,hJ,S2,hk,hn⟩; refine kV hJ ?_; clear hJ a w
 refine go0 6 [] [] ?_
 rcases (by omega:k < len∨k=len) with hlt | hke
 ·obtain ⟨f,hfk⟩:∃ f,fs[k]?=some f:=⟨_,List.getElem?_eq_getElem (by omega)⟩
  obtain ⟨u,huk⟩:∃ u,vs[k]?=some u:=⟨_,List.getElem?_eq_getElem (by omega)⟩
  have hrow:(eQ fs vs)[k]?=some (fdRow f (.slice (sA u) (sN u) (sC u))):=by rw [hsl u (List.mem_of_getElem? huk)]; exact fQ hfk huk
  refine pV (t:=decide ((k:Int) < (len:Int))) (decide_eq_true (by omega)) ?_
  refine go0 15 [] [] ?_
  obtain ⟨b3,o4,rfl,-,c5⟩:=RS.row hr (hrow)
  refine yQ (c5.sees S2) ?_
  refine go0 5 [.ix b3 o4 len cap k,.f 0 0,.cl 75 #[.agg #[.string f.name,Vi f.kind,Vi f.ty,Vi f.src.op,Vi f.src.k,Vi f.src.n,.string f.src.s,.string f.src.nm,.slice (sA u) (sN u) (sC u)],Vp b] (.bool (f.name.toList == x.nm.toList))] [] ?_ (ho:=(And.intro (by first | omega | (simp; omega)) (And.intro (fun H sH=>find1_meet f _ _ _ x b _ (hc.sees (S2.trans sH))) (trivial))))
  cases boolIs (f.name.toList == x.nm.toList) with
  | true hq =>
   refine pV (t:=f.name.toList == x.nm.toList) (hq) ?_
   refine go0 9 [] [] ?_
   refine eV ?_
   refine go0 2 [] [] ?_
   refine hQ.to [Vi (k:Int)] (fun H sH=>?_)
   exact congrArg (Value.int .i64) (jQ _ fs k f hn hfk hq).symm
  | false hq =>
   refine zQ (t:=f.name.toList == x.nm.toList) (hq) ?_
   refine go0 7 [] [(18,Vi (IntKind.i64.wrap ((k:Int) + 1)),Vi ((k:Int) + 1))] ?_ (hc:=(And.intro (jJ (by omega) (by omega)) (trivial)))
   exact oV (k + 1) (fun X q=>⟨W1,q _ _ _ _ ⟨rfl,by kernel_rfl⟩,S2,by omega,(by rw [lZ fs k f hfk]; exact fun y hy=>(List.mem_append.1 hy).elim (hn y) (fun e=>by rw [List.mem_singleton.1 e]; exact hq))⟩) (by omega)
 ·skip
  have htk:fs.take k=fs:=by rw [hke,← hL,List.take_length]
  rw [htk] at hn
  refine zQ (t:=decide ((k:Int) < (len:Int))) (decide_eq_false (by omega)) ?_
  refine go0 2 [] [] ?_
  refine eV ?_
  refine go0 8 [] [] ?_
  refine hQ.to [Vi (-1)] (fun H sH=>?_)
  exact congrArg (Value.int .i64) (fidx_none _ fs hn).symm
theorem told_kind {fs:List Fd} (hok:OkFs fs) {k:Nat} {g:Fd} (hg:fs[k]?=some g):nZ fs g.name g.ty=if g.kind=1 then 0 else 2:=by
 have hfd:=lQ hok.nodup hg
 unfold nZ
 rw [hfd,if_neg (by omega)]
 simp only [Int.toNat_natCast,hg]
 split <;> simp
theorem c_cat {la lb:List Lt} (hl:la.length + lb.length≤1000000) (va vb:Value) (b:Nat) (h:Vw) (ha:RS h 8 va (kW la)) (hb:RS h 8 vb (kW lb)) (hc:Cells h b 0 [va,vb]) :
  C0 Tryz.prog 65 #[.slice (some ⟨b,0,none⟩) 2 2] h (fun r h'=>∃ u,r=.slice (sA u) (la++lb).length (sC u)∧RS h' 8 (.slice (sA u) (la++lb).length (sC u)) (kW (la++lb))):=by
 refine (c_concatT (rs_cells (k:=1) [[va],[vb]] (fun r hr=>by simp at hr; rcases hr with rfl | rfl <;> rfl) (show (2:Nat)≤maxLen by decide) hc) ha hb hl).mono fun v h' _=>?_
 rintro ⟨u,rfl,k⟩
 obtain ⟨A,c,e,-⟩:=k.form
 rw [List.length_map] at e
 rw [e] at k ⊢
 exact ⟨.slice A (la++lb).length c,rfl,k⟩
theorem begE_m (l:List RawD) {p:Pol} (hp:p.ok):MOk (oQ l) p (rhoL (rW (oQ l).fields)) (lvF l) 0 (begE l p) (begL l p):=by
 have h0:=newE_ok (form_okFm l) (form_one l) hp
 obtain ⟨f1,f2,f3⟩:=setE_few h0
 have e:(newE (oQ l) p).last=0:=rfl
 refine ⟨begE_ok l hp,begE_settled l hp,rfl,rfl,by show (0:Int)≤_; omega,by show (zY (newE (oQ l) p) _).last≤_; omega,Nat.le_refl 0,by show (zY (newE (oQ l) p) _).out.length≤_; omega,fun x hx=>?_⟩
 obtain ⟨a,-,c⟩:=setE_out h0 x hx
 exact ⟨a,c⟩
end Go.Proofs.YtmoahpojchndiaaGreat
namespace Go.Proofs.YtmoahpojchndiaaGreat
open Go.RowKit
set_option linter.unusedVariables false
structure AnMay (fs:List Fd) (p:Aw):Prop where
 place:∃ (i:Nat) (f:Fd) (t:Int),fs[i]?=some f∧f.name=p.nm∧f.kind=3∧tyE (tyF fs) f.src=(t,0)∧p.key.k=t∧(p.has.k=f.ty∨p.has.k=5)
 key:p.key.known
 has:OkV p.has
structure MayOrc (fs:List Fd) (orc:List Aw):Prop where
 each:∀ p∈orc,AnMay fs p
 once:orc.Pairwise (fun p q=>p.hit q.nm q.key=false)
theorem orcC_once:∀ {fs:List Fd} {cs:List Cl},(fs.map (fun f:Fd=>f.name)).Nodup→(iX fs cs).Pairwise (fun p q=>p.hit q.nm q.key=false)
 | [],_,_=>.nil
 | _ :: _,[],_=>.nil
 | f :: fs,c :: cs,hd=>by
  rw [List.map_cons,List.nodup_cons] at hd
  refine List.pairwise_append.2 ⟨?_,orcC_once hd.2,fun p hp q hq=>?_⟩
  ·split
   ·exact List.pairwise_singleton _ _
   ·exact .nil
  ·split at hp
   ·rw [List.mem_singleton.1 hp]
    obtain ⟨i,g,d,hg,-,-,rfl⟩:=orcC_mem hq
    exact hit_name fun e=>hd.1 (List.mem_map.2 ⟨g,List.mem_of_getElem? hg,e.symm⟩)
   ·cases hp
theorem orcC_snoc:∀ {fs:List Fd} {cs:List Cl} (f:Fd) (c:Cl),cs.length=fs.length→iX (fs++[f]) (cs++[c])=iX fs cs++(if c.st=2∨c.st=3 then [⟨f.name,c.key,vJ c⟩] else [])
 | [],[],f,c,_=>by show _++[]=[]++_; simp
 | [],_ :: _,_,_,h=>by simp at h
 | _ :: _,[],_,_,h=>by simp at h
 | g :: fs,d :: cs,f,c,h=>by
  show _++iX (fs++[f]) (cs++[c])=(_++iX fs cs)++_
  rw [orcC_snoc f c (by simpa using h),List.append_assoc]
theorem orcC_len:∀ {fs:List Fd} {cs:List Cl},(iX fs cs).length≤fs.length
 | [],_=>Nat.zero_le _
 | _ :: _,[]=>Nat.zero_le _
 | g :: fs,d :: cs=>by
  show (_++iX fs cs).length≤fs.length + 1
  have:=orcC_len (fs:=fs) (cs:=cs)
  rw [List.length_append]
  split <;> simp <;> omega
theorem orcC_ty {fs:List Fd} {p:Pol} {last:Int} {cs:List Cl} (hok:OkFs fs) (h:CallsOk fs p last cs) {i:Nat} {f:Fd} (hf:fs[i]?=some f) (key:Vl):OfT NyV f.ty (askL f.name key (iX fs cs)):=by
 obtain ⟨c,hc⟩:∃ c,cs[i]?=some c:=⟨_,List.getElem?_eq_getElem (by rw [h.len]; exact (List.getElem?_eq_some_iff.1 hf).1)⟩
 obtain ⟨c1,c2,c3⟩:=h.at_ i f c hf hc
 rw [orcC_ask hok.nodup hf hc]
 by_cases q:(c.st=2∨c.st=3)∧eqB c.key key=true
 ·rw [if_pos q]
  have hb:=c1.live (by omega)
  unfold vJ
  by_cases s2:c.st=2
  ·rw [if_pos s2]
   exact .inl ⟨(hb.knw s2).1,c3 s2⟩
  ·rw [if_neg s2,if_pos (by omega)]
   exact .inr (.inr rfl)
 ·rw [if_neg q]
  exact .inr (.inl rfl)
theorem inp_toldT {fs:List Fd} {inp:Env} (hd:(fs.map (fun f:Fd=>f.name)).Nodup) (h:∀ q∈inp,nZ fs q.1 q.2.k=0):InpTy fs inp:=fun i f hf h1 q hq e=>by
 have ht:=h q hq
 have hfd:=lQ hd hf
 unfold nZ at ht
 rw [e,hfd,if_neg (by omega),Int.toNat_natCast,hf] at ht
 simp only at ht
 rw [if_pos h1] at ht
 by_cases q2:q.2.k=f.ty
 ·exact q2
 ·rw [if_neg q2] at ht; exact absurd ht (by decide)
theorem safe_orc {E:Eg} {ρ:List Int} {lv:Nat→Nat} (hok:EgOk E ρ lv) (hse:Settled E ρ):MayOrc E.fm.fields (iX E.fm.fields E.calls):=by
 have S:=settled_sol hok hse
 have hty:=sol_tyG hok.fm.fields hok.ki (inp_toldT hok.fm.fields.nodup hok.k0) (fun i f hf key=>orcC_ty hok.fm.fields hok.calls hf key) hok.fm.rank S.sol S.ok
 have he:=fcs_env hok.fm.fields S.sol.len hty
 refine ⟨fun p hp=>?_,orcC_once hok.fm.fields.nodup⟩
 obtain ⟨i,f,c,hf,hc,hs,rfl⟩:=orcC_mem hp
 obtain ⟨c1,c2,c3⟩:=hok.calls.at_ i f c hf hc
 have h3:=(c2 (by omega)).1
 have hb:=c1.live (by omega)
 have hF:=hok.fm.fields.each f (List.mem_of_getElem? hf)
 obtain ⟨t,-,-,ht⟩:=hF.look h3
 have hkt:=ty_sound ny_not he (hF.wf (by omega)).1 ht
 obtain ⟨s1,s2,-⟩:=S.call i f c hf h3 hc
 have hko:=hb.key
 have hk:(rK (fcs E.fm.fields E.vals) f.src).k≤3:=by
  rcases Int.lt_or_le 3 (rK (fcs E.fm.fields E.vals) f.src).k with q | q
  ·rw [s2 (by omega)] at hs
   rcases hs with q | q
   ·exact absurd (show (0:Int)=2 from q) (by decide)
   ·exact absurd (show (0:Int)=3 from q) (by decide)
  ·exact q
 have e:=(s1 hk).2
 have hkk:c.key.k=t:=by
  rw [e]
  rcases hkt with q | q
  ·exact q.2
  ·have q:(rK (fcs E.fm.fields E.vals) f.src).k=4∨(rK (fcs E.fm.fields E.vals) f.src).k=5:=q
   omega
 refine ⟨⟨i,f,t,hf,rfl,h3,ht,hkk,?_⟩,hko,orcC_has hok.calls _ hp⟩
 show (vJ c).k=f.ty∨(vJ c).k=5
 unfold vJ
 by_cases q2:c.st=2
 ·rw [if_pos q2]; exact .inl (c3 q2)
 ·rw [if_neg q2,if_pos (by omega)]; exact .inr rfl
end Go.Proofs.YtmoahpojchndiaaGreat
namespace Go.Proofs.YtmoahpojchndiaaGreat
open Go.RowKit
set_option linter.unusedVariables false
theorem orc1_any (p:Aw) (b:Nat) (x:Aw) (h:Vw) (hc:Cells h b 0 (anRow x)):C0 Tryz.prog 141 #[.agg #[.string p.nm,.int .i64 p.key.k,.int .i64 p.key.n,.string p.key.s,.int .i64 p.has.k,.int .i64 p.has.n,.string p.has.s],.pointer (some ⟨b,0,none⟩)] h (fun r _=>r=.bool (p.hit x.nm x.key)):=by
 unfold Aw.hit
 refine xQ Tryz.func141 (c:=Tryz.f141.body.getD .skip) (N:=16) ?_
 intro hbx hbad Q hQ
 refine yQ (hc.sees (Sees.refl _)) ?_
 refine go1 14 [.own,.b 0 0,.f 0 0] [] ?_
 intro b1
 cases boolIs (p.nm.toList == x.nm.toList) with
 | true hq =>
  generalize hg:eqB p.key x.key=g at *
  refine nV 9 (v:=.bool (p.nm.toList == x.nm.toList)) (v':=.bool true) (congrArg Value.bool hq) ?_
  refine go0 4 [.b 0 1,.f 0 1] [] ?_
  refine lV (.bool g) (fun w=>run_eqop (x:=(.tmp 11)) (y:=(.tmp 13)) (v:=p.key) (w:=x.key) (by kernel_rfl) (by kernel_rfl) (by kernel_rfl) (hg)) ?_
  refine go0 5 [] [] ?_
  refine hQ.to [.bool g] (fun H sH=>?_)
  exact congrArg Value.bool (by rw [hq]; rfl)
 | false hq =>
  refine nV 9 (v:=.bool (p.nm.toList == x.nm.toList)) (v':=.bool false) (congrArg Value.bool hq) ?_
  refine go0 10 [] [] ?_
  refine hQ.to [.bool false] (fun H sH=>?_)
  exact congrArg Value.bool (by rw [hq]; rfl)
theorem idxOrc_any (l:List Aw) (A:Option Addr) (cap:Nat) (b:Nat) (x:Aw) (h:Vw) (hr:RS h 7 (.slice A l.length cap) (tJ l)) (hl:l.length≤1000000) (hc:Cells h b 0 (anRow x)) (hno:∀ q∈l,q.hit x.nm x.key=false) :
  C0 Tryz.prog 57 #[.slice A l.length cap,.func (.func 141) #[] #[.pointer (some ⟨b,0,none⟩)]] h (fun r _=>r=.int .i64 (-1)):=by
 generalize hL:l.length=len at *
 refine xQ Tryz.func57 (c:=Tryz.f57.body.getD .skip) (N:=19) ?_
 intro hbx hbad Q hQ
 refine go0 14 [] [] ?_
 refine fV [0,1,0,1] [.block 0,.seq [1,1]] (fun (k:Nat) X=>∃ (W1:Vw) ,X W1 [(0,.slice A len cap),(1,.func (.func 141) #[] #[Vp b]),(7,Vi (len:Int)),(8,Vi (k:Int))] [] []∧Sees h W1∧(k≤len)) (fun k=>len - k) (0) (fun X q=>⟨h,q _ _ _ _ ⟨rfl,by kernel_rfl⟩,Sees.refl _,Nat.zero_le _⟩) ?_
 rintro k a w ⟨W1,hJ,S2,hk⟩; refine kV hJ ?_; clear hJ a w
 refine go0 6 [] [] ?_
 rcases (by omega:k < len∨k=len) with hlt | hke
 ·obtain ⟨q,hqk⟩:∃ q,l[k]?=some q:=⟨_,List.getElem?_eq_getElem (by omega)⟩
  have hrow:(tJ l)[k]?=some (anRow q):=by rw [List.getElem?_map,hqk]; rfl
  have hq1:=fun H q1=>orc1_any q b x H q1
  rw [hno q (List.mem_of_getElem? hqk)] at hq1
  refine pV (t:=decide ((k:Int) < (len:Int))) (decide_eq_true (by omega)) ?_
  refine go0 15 [] [] ?_
  obtain ⟨b3,o4,rfl,-,c5⟩:=RS.row hr (hrow)
  refine yQ (c5.sees S2) ?_
  refine go0 13 [.ix b3 o4 len cap k,.f 0 0,.cl 141 #[.agg #[.string q.nm,Vi q.key.k,Vi q.key.n,.string q.key.s,Vi q.has.k,Vi q.has.n,.string q.has.s],Vp b] (.bool false)] [(18,Vi (IntKind.i64.wrap ((k:Int) + 1)),Vi ((k:Int) + 1))] ?_ (ho:=(And.intro (by first | omega | (simp; omega)) (And.intro (fun H sH=>hq1 _ (hc.sees (S2.trans sH))) (trivial)))) (hc:=(And.intro (jJ (by omega) (by omega)) (trivial)))
  exact oV (k + 1) (fun X q=>⟨W1,q _ _ _ _ ⟨rfl,by kernel_rfl⟩,S2,by omega⟩) (by omega)
 ·skip
  refine zQ (t:=decide ((k:Int) < (len:Int))) (decide_eq_false (by omega)) ?_
  refine go0 2 [] [] ?_
  refine eV ?_
  refine go0 8 [] [] ?_
  refine hQ.to [Vi (-1)] (fun H sH=>?_)
  exact rfl
theorem contOrc_any (l:List Aw) (A:Option Addr) (cap:Nat) (b:Nat) (x:Aw) (h:Vw) (hr:RS h 7 (.slice A l.length cap) (tJ l)) (hl:l.length≤1000000) (hc:Cells h b 0 (anRow x)) (hno:∀ q∈l,q.hit x.nm x.key=false) :
  C0 Tryz.prog 69 #[.slice A l.length cap,.func (.func 141) #[] #[.pointer (some ⟨b,0,none⟩)]] h (fun r _=>r=.bool false):=by
 have hi:=fun H q1 q2=>idxOrc_any l A cap b x H q1 hl q2 hno
 refine xQ Tryz.func69 (c:=Tryz.f69.body.getD .skip) (N:=9) ?_
 intro hbx hbad Q hQ
 refine go0 15 [.cl 57 #[.slice A l.length cap,.func (.func 141) #[] #[Vp b]] (Vi (-1))] [] ?_ (ho:=(And.intro (fun H sH=>hi _ (hr.sees sH) (hc.sees sH)) (trivial)))
 refine hQ.to [.bool false] (fun H sH=>?_)
 exact rfl
theorem once_take {l:List Aw} (h:l.Pairwise (fun p q=>p.hit q.nm q.key=false)) {k:Nat} {x:Aw} (hx:l[k]?=some x):∀ q∈l.take k,q.hit x.nm x.key=false:=fun q hq=>by
 obtain ⟨i,hi⟩:=List.getElem?_of_mem hq
 have hik:i < k:=by
  rcases Nat.lt_or_ge i k with g | g
  ·exact g
  ·rw [List.getElem?_eq_none (by rw [List.length_take]; omega)] at hi; cases hi
 rw [List.getElem?_take_of_lt hik] at hi
 obtain ⟨a,ea⟩:=List.getElem?_eq_some_iff.1 hi
 obtain ⟨b,eb⟩:=List.getElem?_eq_some_iff.1 hx
 have:=List.pairwise_iff_getElem.1 h i k a b hik
 rw [ea,eb] at this
 exact this
end Go.Proofs.YtmoahpojchndiaaGreat
namespace Go.Proofs.YtmoahpojchndiaaGreat
open Go.RowKit
set_option linter.unusedVariables false
set_option maxHeartbeats 4000000 in
theorem whMay_any (fs:List Fd) (hok:OkFs fs) (l:List Aw) (ho:MayOrc fs l) (A:Option Addr) (n c:Nat) (B:Option Addr) (m d:Nat) (so:Value) (h:Vw) (hf:IsFds h (.slice A n c) fs) (hn:n=fs.length) (hr:RS h 7 so (tJ l)) (hl:l.length≤1000) :
  C0 Tryz.prog 107 #[.agg #[.slice A n c,.slice B m d],so] h (fun r _=>r=.int .i64 0):=by
 obtain ⟨vs,A3,c3,e3,-,-,hr3,hs3,hl3,hsl⟩:=iQ hf
 have few:=hok.few
 have hF:=fun H s i q hp=>find_yes fs (.slice A n c) s i H q (by omega) hp
 have hT:=fun H x v q1 q2 q3 q4=>tyOf_any fs x v (.slice A n c) H q1 q2 q3 q4
 simp only [Value.slice.injEq] at e3
 obtain ⟨rfl,-,rfl⟩:=e3
 rw [← hn] at hr3 hl3
 obtain ⟨A0,c0,rfl,hc1,-,-⟩:=hr.form
 rw [List.length_map] at *
 have hC:=fun k H b x q1 q2 q3=>contOrc_any (l.take k) A0 c0 b x H q1 (by rw [List.length_take]; omega) q2 q3
 generalize hL:l.length=len at *
 refine xQ Tryz.func107 (c:=Tryz.f107.body.getD .skip) (N:=83) ?_
 intro hbx hbad Q hQ
 refine go1 15 [.own] [] ?_
 intro b1
 refine fV [0,1,0,1] [.block 0,.seq [1,1]] (fun (k:Nat) X=>∃ (W2:Vw) ,X W2 [(1,.slice A0 len c0),(2,Vp b1),(13,.slice A0 len c0),(14,Vi (len:Int)),(15,Vi (k:Int))] [.box b1 [.slice A n c,.slice B m d]] []∧Sees h W2∧(k≤len)) (fun k=>len - k) (0) (fun X q=>⟨h,q _ _ _ _ ⟨rfl,by kernel_rfl⟩,Sees.refl _,Nat.zero_le _⟩) ?_
 rintro k a w ⟨W2,hJ,S3,hkl⟩; refine kV hJ ?_; clear hJ a w
 refine go0 6 [] [] ?_
 rcases (by omega:k < len∨k=len) with hlt | hke
 ·obtain ⟨x,hxk⟩:∃ x,l[k]?=some x:=⟨_,List.getElem?_eq_getElem (by omega)⟩
  have hrow:(tJ l)[k]?=some (anRow x):=by rw [List.getElem?_map,hxk]; rfl
  have hno:=once_take ho.once hxk
  have hx:=ho.each x (List.mem_of_getElem? hxk)
  obtain ⟨i,f,t,p1,p2,p3,p4,p5,p6⟩:=hx.place
  have hil:=(List.getElem?_eq_some_iff.1 p1).1
  have hF1:=hok.each f (List.mem_of_getElem? p1)
  obtain ⟨w1,w2,w3⟩:=hF1.wf (by omega)
  obtain ⟨u,hu⟩:∃ u,vs[i]?=some u:=⟨_,List.getElem?_eq_getElem (by omega)⟩
  have hfr:=fQ p1 hu
  have hga:∀ H,AllSrc H fs vs→IsArgs H f.src u:=fun H q=>AllArgs.get q (x:=f.src) (by rw [List.getElem?_map,p1]; rfl) hu
  obtain ⟨Au,nu,cu,rfl⟩:=(hga _ hs3).slice
  have hfd:=lQ hok.nodup p1
  have hF2:=fun H q=>hF H x.nm i q (by rw [← p2]; exact hfd)
  have hT2:=fun H q1 q2=>hT H f.src (.slice Au nu cu) q1 w1 (by omega) q2
  rw [show ofE fs f.src=(t,0) from by unfold ofE; rw [if_pos w3,p4]] at hT2
  have hk1:=fun H=>c_kn x.key.k x.key.n x.key.s H hx.key
  have hk2:=fun H=>check_okv x.has H hx.has
  have htl:(l.take k).length=k:=by rw [List.length_take]; omega
  have htr:RS h 7 (.slice A0 k c0) (tJ (l.take k)):=by have:=hr.take k (by rw [List.length_map]; omega); rwa [← List.map_take] at this
  have hC2:=fun H b q1 q2=>hC k H b x q1 q2 hno
  rw [htl] at hC2
  refine pV (t:=decide ((k:Int) < (len:Int))) (decide_eq_true (by omega)) ?_
  refine go0 7 [] [] ?_
  obtain ⟨b4,o5,rfl,-,c6⟩:=RS.row hr (hrow)
  refine yQ (c6.sees S3) ?_
  refine go1 36 [.ix b4 o5 len c0 k,.f 0 0,.own,.b 0 0,.b 1 0,.b 0 0,.cl 60 #[.slice A n c,.string x.nm] (.tuple #[Vi (i:Int),Vi 0]),.b 1 0] [] ?_ (ho:=(And.intro (by first | omega | (simp; omega)) (And.intro (fun H sH=>hF2 _ (hf.sees (S3.trans sH))) (trivial))))
  intro bx
  obtain ⟨b7,o8,rfl,-,c9⟩:=RS.row hr3 (hfr)
  refine yQ (c9.sees S3) ?_
  refine go1 71 [.ix b7 o8 n c i,.f 0 0,.own,.b 0 0,.b 0 1,.b 0 3,.b 2 0,.cl 140 #[.agg #[Vi f.src.op,Vi f.src.k,Vi f.src.n,.string f.src.s,.string f.src.nm,.slice Au nu cu],.slice (some ⟨b7,o8,none⟩) n c] (.tuple #[Vi t,Vi 0]),.b 1 1,.cl 68 #[.agg #[Vi x.key.k,Vi x.key.n,.string x.key.s]] (.bool true),.b 1 1,.b 1 4,.cl 89 #[.agg #[Vi x.has.k,Vi x.has.n,.string x.has.s]] (Vi 0),.b 1 4,.b 0 2] [(38,.bool (f.kind != 3),.bool false),(56,.bool (x.key.k != t),.bool false)] ?_ (ho:=(And.intro (by first | omega | (simp; omega)) (And.intro (fun H sH=>hT2 _ (hga _ (hs3.sees (S3.trans sH))) (hf.sees (S3.trans sH))) (And.intro (fun H sH=>hk1 _) (And.intro (fun H sH=>hk2 _) (trivial)))))) (hc:=(And.intro (congrArg Value.bool (by rw [bne_eq_false_iff_eq]; exact p3)) (And.intro (congrArg Value.bool (by rw [bne_eq_false_iff_eq]; exact p5)) (trivial))))
  intro b10
  by_cases p7:x.has.k=f.ty
  ·refine nV 70 (v:=.bool (x.has.k != f.ty)) (v':=.bool false) (congrArg Value.bool (by rw [bne_eq_false_iff_eq]; exact p7)) ?_
   refine go0 15 [] [] ?_
   refine lV (.slice (some ⟨b4,o5,none⟩) k c0) (fun w=>run_hi (t:=30) (e:=51) (x:=(.tmp 77)) (y:=(.tmp 78)) (A:=(some ⟨b4,o5,none⟩)) (n:=len) (cap:=c0) (k:=k) (kk:=7) (by kernel_rfl) (by kernel_rfl) (by kernel_rfl) (by omega) Tryz.underlying30 (by kernel_rfl)) ?_
   refine go0 1 [] [] ?_
   refine g_callq (fun a w hJ=>hC2 _ bx (htr.sees (S3.trans hJ.j.seesQ)) (hJ.j.boxQ (b:=bx) (cs:=[.string x.nm,Vi x.key.k,Vi x.key.n,.string x.key.s,Vi x.has.k,Vi x.has.n,.string x.has.s]) 1 (by kernel_rfl))) ?_; intro W11 S12
   refine go0 10 [] [(82,Vi (IntKind.i64.wrap ((k:Int) + 1)),Vi ((k:Int) + 1))] ?_ (hc:=(And.intro (jJ (by omega) (by omega)) (trivial)))
   exact oV (k + 1) (fun X q=>⟨W11,q _ _ _ _ ⟨rfl,by kernel_rfl⟩,(S3.trans S12),by omega⟩) (by omega)
  ·skip
   have p8:x.has.k=5:=p6.resolve_left p7
   refine nV 70 (v:=.bool (x.has.k != f.ty)) (v':=.bool true) (congrArg Value.bool (bne_iff_ne.2 p7)) ?_
   refine go0 8 [.b 1 4] [] ?_
   refine zQ (t:=x.has.k != 5) ((by rw [bne_eq_false_iff_eq]; exact p8)) ?_
   refine go0 6 [] [] ?_
   refine lV (.slice (some ⟨b4,o5,none⟩) k c0) (fun w=>run_hi (t:=30) (e:=51) (x:=(.tmp 77)) (y:=(.tmp 78)) (A:=(some ⟨b4,o5,none⟩)) (n:=len) (cap:=c0) (k:=k) (kk:=7) (by kernel_rfl) (by kernel_rfl) (by kernel_rfl) (by omega) Tryz.underlying30 (by kernel_rfl)) ?_
   refine go0 1 [] [] ?_
   refine g_callq (fun a w hJ=>hC2 _ bx (htr.sees (S3.trans hJ.j.seesQ)) (hJ.j.boxQ (b:=bx) (cs:=[.string x.nm,Vi x.key.k,Vi x.key.n,.string x.key.s,Vi x.has.k,Vi x.has.n,.string x.has.s]) 1 (by kernel_rfl))) ?_; intro W13 S14
   refine go0 10 [] [(82,Vi (IntKind.i64.wrap ((k:Int) + 1)),Vi ((k:Int) + 1))] ?_ (hc:=(And.intro (jJ (by omega) (by omega)) (trivial)))
   exact oV (k + 1) (fun X q=>⟨W13,q _ _ _ _ ⟨rfl,by kernel_rfl⟩,(S3.trans S14),by omega⟩) (by omega)
 ·skip
  refine zQ (t:=decide ((k:Int) < (len:Int))) (decide_eq_false (by omega)) ?_
  refine go0 2 [] [] ?_
  refine eV ?_
  refine go0 8 [] [] ?_
  refine hQ.to [Vi 0] (fun H sH=>?_)
  exact rfl
theorem anRows_snoc' (l:List Aw) (p:Aw):tJ (l++[p])=tJ l++[anRow p]:=by simp [tJ]
theorem orcT_step {fs:List Fd} {cs:List Cl} {k:Nat} {g:Fd} {x:Cl} (hl:cs.length=fs.length) (hg:fs[k]?=some g) (hx:cs[k]?=some x):iX (fs.take (k + 1)) (cs.take (k + 1))=iX (fs.take k) (cs.take k)++(if x.st=2∨x.st=3 then [⟨g.name,x.key,vJ x⟩] else []):=by
 rw [lZ fs k g hg,lZ cs k x hx]
 exact orcC_snoc g x (by rw [List.length_take,List.length_take,hl])
theorem oracleOf_any (E:Eg) (ρ:List Int) (lv:Nat→Nat) (hok:EgOk E ρ lv) (w:Value) (h:Vw) (hE:IsEng h w E) :
  C0 Tryz.prog 76 #[.agg #[.slice (sA (agJ 0 w)) (sN (agJ 0 w)) (sC (agJ 0 w)),.slice (sA (agJ 1 w)) (sN (agJ 1 w)) (sC (agJ 1 w)),.int .i64 E.pol.t,.int .i64 E.pol.b,.int .i64 E.pol.c,.slice (sA (agJ 2 w)) (sN (agJ 2 w)) (sC (agJ 2 w)),.slice (sA (agJ 3 w)) (sN (agJ 3 w)) (sC (agJ 3 w)),.slice (sA (agJ 4 w)) (sN (agJ 4 w)) (sC (agJ 4 w)),.int .i64 E.now,.int .i64 E.last]] h (fun r h'=>∃ u,r=.slice (sA u) (sN u) (sC u)∧RS h' 7 (.slice (sA u) (sN u) (sC u)) (tJ (iX E.fm.fields E.calls))):=by
 have few:=hok.fm.fields.few
 have hcl:=hok.calls.len
 obtain ⟨vs,A,c,e0,-,-,hr4,hs4,hl4,-⟩:=iQ hE.form.fields
 obtain ⟨A2,c2,e2,-,-,-⟩:=hE.calls.form
 have hrc:=hE.calls
 rw [e2] at hrc
 rw [e0,e2]
 rw [List.length_map] at *
 rw [hcl] at hrc ⊢
 have hst:=fun k g x q1 q2=>orcT_step (fs:=E.fm.fields) (cs:=E.calls) (k:=k) (g:=g) (x:=x) hcl q1 q2
 have hol:=fun k=>orcC_len (fs:=E.fm.fields.take k) (cs:=E.calls.take k)
 have hend:iX (E.fm.fields.take E.fm.fields.length) (E.calls.take E.fm.fields.length)=iX E.fm.fields E.calls:=by rw [List.take_length,← hcl,List.take_length]
 generalize hn:E.fm.fields.length=n at *
 refine xQ Tryz.func76 (c:=Tryz.f76.body.getD .skip) (N:=39) ?_
 intro hbx hbad Q hQ
 refine go1 21 [.own,.b 0 6] [] ?_
 intro b1
 refine jV 51 7 ?_
 refine fV [0,1,0,1,1] [.block 0,.seq [1,1,1]] (fun (k:Nat) X=>∃ (W2:Vw) (v:Value) (ol:List Aw),X W2 [(1,Vp b1),(7,.slice A2 n c2),(8,Vi (n:Int)),(9,Vi (k:Int)),(3,v)] [.row v 51 7 (tJ ol),.box b1 [.slice A n c,.slice (sA (agJ 1 w)) (sN (agJ 1 w)) (sC (agJ 1 w)),Vi E.pol.t,Vi E.pol.b,Vi E.pol.c,.slice (sA (agJ 2 w)) (sN (agJ 2 w)) (sC (agJ 2 w)),.slice A2 n c2,.slice (sA (agJ 4 w)) (sN (agJ 4 w)) (sC (agJ 4 w)),Vi E.now,Vi E.last]] []∧Sees h W2∧(k≤n)∧(iX (E.fm.fields.take k) (E.calls.take k)=ol)) (fun k=>n - k) (0) (fun X q=>⟨h,(Vz),[],q _ _ _ _ ⟨rfl,by kernel_rfl⟩,Sees.refl _,Nat.zero_le _,rfl⟩) ?_
 rintro k a w ⟨W2,v,ol,hJ,S3,hk,ho⟩; refine kV hJ ?_; clear hJ a w
 refine go0 6 [] [] ?_
 rcases (by omega:k < n∨k=n) with hlt | hke
 ·obtain ⟨g,hg⟩:∃ g,E.fm.fields[k]?=some g:=⟨_,List.getElem?_eq_getElem (by omega)⟩
  obtain ⟨x,hx⟩:∃ x,E.calls[k]?=some x:=⟨_,List.getElem?_eq_getElem (by omega)⟩
  obtain ⟨v2,hv2⟩:∃ v,vs[k]?=some v:=⟨_,List.getElem?_eq_getElem (by omega)⟩
  have hrow:=fQ hg hv2
  obtain ⟨Au,nu,cu,rfl⟩:=(AllSrc.get hs4 hg hv2).slice
  have hrx:=kK hx
  have hsk:=hst k g x hg hx
  have hlk:=hol k
  rw [ho] at hsk hlk
  rw [List.length_take] at hlk
  have hca:∀ H,C0 Tryz.prog 113 #[.agg #[.int .i64 x.st,.int .i64 x.id,.int .i64 x.tr,.int .i64 x.key.k,.int .i64 x.key.n,.string x.key.s,.int .i64 x.has.k,.int .i64 x.has.n,.string x.has.s,.int .i64 x.nx]] H (fun r _=>r=(vJ x).val):=fun H=>c_ansC x H
  have hmr:(tJ ol).length=ol.length:=List.length_map _
  generalize vJ x=av at *
  refine pV (t:=decide ((k:Int) < (n:Int))) (decide_eq_true (by omega)) ?_
  refine go0 7 [] [] ?_
  obtain ⟨b4,o5,rfl,-,c6⟩:=RS.row hrc (hrx)
  refine yQ (c6.sees S3) ?_
  refine go1 13 [.ix b4 o5 n c2 k,.f 0 0,.own,.b 0 0,.b 0 0] [] ?_ (ho:=(And.intro (by first | omega | (simp; omega)) (trivial)))
  intro b7
  by_cases s2:x.st=2
  ·rw [if_pos (.inl s2)] at hsk
   refine nV 17 (v:=.bool (x.st == 2)) (v':=.bool true) (congrArg Value.bool (beq_iff_eq.2 s2)) ?_
   refine go0 7 [] [] ?_
   obtain ⟨b8,o9,rfl,-,c10⟩:=RS.row hr4 (hrow)
   refine yQ (c10.sees S3) ?_
   refine mV 16 0 [.pu,.pu,.pu,.ld 2 0,.pu,.v (fun gh=>.pointer (some ⟨b8,o9 + k * 9,none⟩)),.pu,.lf 0 0,.pu,.ld 0 3,.ld 0 0,.v (fun gh=>.agg #[Vi av.k,Vi av.n,.string av.s]),.pu,.f (fun gh=>.slice (some ⟨(xJ (gh 13)),0,none⟩) 1 1) (fun gh hh=>Cells hh (xJ (gh 13)) 0 [.string g.name,Vi x.key.k,Vi x.key.n,.string x.key.s,Vi av.k,Vi av.n,.string av.s]),.e (fun gh=>.slice (sA (gh 14)) (sN (gh 14)) (sC (gh 14))) 1 (fun gh=>.row (.slice (sA (gh 14)) (sN (gh 14)) (sC (gh 14))) 51 7 ((tJ ol)++[[.string g.name,Vi x.key.k,Vi x.key.n,.string x.key.s,Vi av.k,Vi av.n,.string av.s]])),.pu] [(13,true),(14,false)] (And.intro (fun _ _ _ s c=>c.sees s) (trivial)) ?_ ?_
   ·intro R hT hA hmono
    refine And.intro (kZ hT hA b8 o9 n c k (fun gh=>.pointer (some ⟨b8,o9 + k * 9,none⟩)) (by first | omega | (simp; omega))) ?_
    refine And.intro (t_v hT hA hmono (k:=113) (args:=(fun gh=>#[.agg #[Vi x.st,Vi x.id,Vi x.tr,Vi x.key.k,Vi x.key.n,.string x.key.s,Vi x.has.k,Vi x.has.n,.string x.has.s,Vi x.nx]])) (f:=fun gh=>.agg #[Vi av.k,Vi av.n,.string av.s]) (fun gh H sH fH lent=>hca _)) ?_
    refine And.intro (zX hT hA hmono ⟨fun _ _=>by kernel_rfl,fun _ _=>by kernel_rfl,fun _ _=>by kernel_rfl⟩ 35 (fun g=>Vs g 1 1) [12] 13 (fun gh=>[.string g.name,Vi x.key.k,Vi x.key.n,.string x.key.s,Vi av.k,Vi av.n,.string av.s]) 51 (fun gh zb zH zc zj zq zhq zhe=>lX (i:=13) (k:=0) (f:=fun gh hh=>Cells hh (xJ (gh 13)) 0 [.string g.name,Vi x.key.k,Vi x.key.n,.string x.key.s,Vi av.k,Vi av.n,.string av.s]) (by kernel_rfl) (by kernel_rfl) zc zj zq zhq zhe)) ?_
    refine And.intro (xX hT hA hmono ⟨fun _ _=>by kernel_rfl,fun _ _=>by kernel_rfl,fun _ _=>by kernel_rfl⟩ 36 [0,11,13] 14 1 (GN R 1) (fun gh=>v) 30 51 7 (fun gh=>tJ ol) (fun gh=>[[.string g.name,Vi x.key.k,Vi x.key.n,.string x.key.s,Vi av.k,Vi av.n,.string av.s]]) (.tmp 22) (.tmp 35) (fun gh=>(xJ (gh 13))) 1 1 0 13 (fun gh hh=>Cells hh (xJ (gh 13)) 0 [.string g.name,Vi x.key.k,Vi x.key.n,.string x.key.s,Vi av.k,Vi av.n,.string av.s]) (fun _ _ c=>c) Tryz.underlying30 (zv:=.agg #[Ve,Vi 0,Vi 0,Ve,Vi 0,Vi 0,Ve]) (bytes:=80) (fun _=>by constructor <;> (simp; omega))) ?_
    trivial
   rintro b12 v36 W13 S14 ⟨f11,-⟩
   replace f11:Cells W13 b12 0 [.string g.name,Vi x.key.k,Vi x.key.n,.string x.key.s,Vi av.k,Vi av.n,.string av.s]:=f11
   refine yQ f11 ?_
   refine go0 6 [] [(37,Vi (IntKind.i64.wrap ((k:Int) + 1)),Vi ((k:Int) + 1))] ?_ (hc:=(And.intro (jJ (by omega) (by omega)) (trivial)))
   refine dV [(1,Vp b1),(7,.slice (some ⟨b4,o5,none⟩) n c2),(8,Vi (n:Int)),(3,.slice (sA v36) (sN v36) (sC v36)),(9,Vi ((k:Int) + 1))] [.row (.slice (sA v36) (sN v36) (sC v36)) 51 7 ((tJ ol)++[[.string g.name,Vi x.key.k,Vi x.key.n,.string x.key.s,Vi av.k,Vi av.n,.string av.s]]),.box b1 [.slice (some ⟨b8,o9,none⟩) n c,.slice (sA (agJ 1 w)) (sN (agJ 1 w)) (sC (agJ 1 w)),Vi E.pol.t,Vi E.pol.b,Vi E.pol.c,.slice (sA (agJ 2 w)) (sN (agJ 2 w)) (sC (agJ 2 w)),.slice (some ⟨b4,o5,none⟩) n c2,.slice (sA (agJ 4 w)) (sN (agJ 4 w)) (sC (agJ 4 w)),Vi E.now,Vi E.last]] [] ?_
   exact oV (k + 1) (fun X q=>⟨W13,.slice (sA v36) (sN v36) (sC v36),ol++[⟨g.name,x.key,av⟩],q _ _ _ _ (yY (by rw [anRows_snoc']; try rfl)),(S3.trans S14),by omega,hsk⟩) (by omega)
  ·skip
   refine nV 17 (v:=.bool (x.st == 2)) (v':=.bool false) (congrArg Value.bool (beq_eq_false_iff_ne.2 s2)) ?_
   refine go0 6 [.b 0 0] [] ?_
   by_cases s3:x.st=3
   ·rw [if_pos (.inr s3)] at hsk
    refine pV (t:=x.st == 3) (beq_iff_eq.2 s3) ?_
    obtain ⟨b15,o16,rfl,-,c17⟩:=RS.row hr4 (hrow)
    refine yQ (c17.sees S3) ?_
    refine mV 16 0 [.pu,.pu,.pu,.ld 2 0,.pu,.v (fun gh=>.pointer (some ⟨b15,o16 + k * 9,none⟩)),.pu,.lf 0 0,.pu,.ld 0 3,.ld 0 0,.v (fun gh=>.agg #[Vi av.k,Vi av.n,.string av.s]),.pu,.f (fun gh=>.slice (some ⟨(xJ (gh 13)),0,none⟩) 1 1) (fun gh hh=>Cells hh (xJ (gh 13)) 0 [.string g.name,Vi x.key.k,Vi x.key.n,.string x.key.s,Vi av.k,Vi av.n,.string av.s]),.e (fun gh=>.slice (sA (gh 14)) (sN (gh 14)) (sC (gh 14))) 1 (fun gh=>.row (.slice (sA (gh 14)) (sN (gh 14)) (sC (gh 14))) 51 7 ((tJ ol)++[[.string g.name,Vi x.key.k,Vi x.key.n,.string x.key.s,Vi av.k,Vi av.n,.string av.s]])),.pu] [(13,true),(14,false)] (And.intro (fun _ _ _ s c=>c.sees s) (trivial)) ?_ ?_
    ·intro R hT hA hmono
     refine And.intro (kZ hT hA b15 o16 n c k (fun gh=>.pointer (some ⟨b15,o16 + k * 9,none⟩)) (by first | omega | (simp; omega))) ?_
     refine And.intro (t_v hT hA hmono (k:=113) (args:=(fun gh=>#[.agg #[Vi x.st,Vi x.id,Vi x.tr,Vi x.key.k,Vi x.key.n,.string x.key.s,Vi x.has.k,Vi x.has.n,.string x.has.s,Vi x.nx]])) (f:=fun gh=>.agg #[Vi av.k,Vi av.n,.string av.s]) (fun gh H sH fH lent=>hca _)) ?_
     refine And.intro (zX hT hA hmono ⟨fun _ _=>by kernel_rfl,fun _ _=>by kernel_rfl,fun _ _=>by kernel_rfl⟩ 35 (fun g=>Vs g 1 1) [12] 13 (fun gh=>[.string g.name,Vi x.key.k,Vi x.key.n,.string x.key.s,Vi av.k,Vi av.n,.string av.s]) 51 (fun gh zb zH zc zj zq zhq zhe=>lX (i:=13) (k:=0) (f:=fun gh hh=>Cells hh (xJ (gh 13)) 0 [.string g.name,Vi x.key.k,Vi x.key.n,.string x.key.s,Vi av.k,Vi av.n,.string av.s]) (by kernel_rfl) (by kernel_rfl) zc zj zq zhq zhe)) ?_
     refine And.intro (xX hT hA hmono ⟨fun _ _=>by kernel_rfl,fun _ _=>by kernel_rfl,fun _ _=>by kernel_rfl⟩ 36 [0,11,13] 14 1 (GN R 1) (fun gh=>v) 30 51 7 (fun gh=>tJ ol) (fun gh=>[[.string g.name,Vi x.key.k,Vi x.key.n,.string x.key.s,Vi av.k,Vi av.n,.string av.s]]) (.tmp 22) (.tmp 35) (fun gh=>(xJ (gh 13))) 1 1 0 13 (fun gh hh=>Cells hh (xJ (gh 13)) 0 [.string g.name,Vi x.key.k,Vi x.key.n,.string x.key.s,Vi av.k,Vi av.n,.string av.s]) (fun _ _ c=>c) Tryz.underlying30 (zv:=.agg #[Ve,Vi 0,Vi 0,Ve,Vi 0,Vi 0,Ve]) (bytes:=80) (fun _=>by constructor <;> (simp; omega))) ?_
     trivial
    rintro b19 v36 W20 S21 ⟨f18,-⟩
    replace f18:Cells W20 b19 0 [.string g.name,Vi x.key.k,Vi x.key.n,.string x.key.s,Vi av.k,Vi av.n,.string av.s]:=f18
    refine yQ f18 ?_
    refine go0 6 [] [(37,Vi (IntKind.i64.wrap ((k:Int) + 1)),Vi ((k:Int) + 1))] ?_ (hc:=(And.intro (jJ (by omega) (by omega)) (trivial)))
    refine dV [(1,Vp b1),(7,.slice (some ⟨b4,o5,none⟩) n c2),(8,Vi (n:Int)),(3,.slice (sA v36) (sN v36) (sC v36)),(9,Vi ((k:Int) + 1))] [.row (.slice (sA v36) (sN v36) (sC v36)) 51 7 ((tJ ol)++[[.string g.name,Vi x.key.k,Vi x.key.n,.string x.key.s,Vi av.k,Vi av.n,.string av.s]]),.box b1 [.slice (some ⟨b15,o16,none⟩) n c,.slice (sA (agJ 1 w)) (sN (agJ 1 w)) (sC (agJ 1 w)),Vi E.pol.t,Vi E.pol.b,Vi E.pol.c,.slice (sA (agJ 2 w)) (sN (agJ 2 w)) (sC (agJ 2 w)),.slice (some ⟨b4,o5,none⟩) n c2,.slice (sA (agJ 4 w)) (sN (agJ 4 w)) (sC (agJ 4 w)),Vi E.now,Vi E.last]] [] ?_
    exact oV (k + 1) (fun X q=>⟨W20,.slice (sA v36) (sN v36) (sC v36),ol++[⟨g.name,x.key,av⟩],q _ _ _ _ (yY (by rw [anRows_snoc']; try rfl)),(S3.trans S21),by omega,hsk⟩) (by omega)
   ·skip
    rw [if_neg (fun q=>q.elim s2 s3),List.append_nil] at hsk
    refine zQ (t:=x.st == 3) (beq_eq_false_iff_ne.2 s3) ?_
    refine go0 7 [] [(37,Vi (IntKind.i64.wrap ((k:Int) + 1)),Vi ((k:Int) + 1))] ?_ (hc:=(And.intro (jJ (by omega) (by omega)) (trivial)))
    exact oV (k + 1) (fun X q=>⟨W2,v,ol,q _ _ _ _ ⟨rfl,by kernel_rfl⟩,S3,by omega,hsk⟩) (by omega)
 ·skip
  rw [hke,hend] at ho
  refine aV 0 (v:=v) (e:=51) (kk:=7) (l:=tJ ol) ?_; intro Ar cr hE_v hc_v hm_v
  rw [show (tJ ol).length=ol.length from by first | omega | (simp; done) | (simp; omega)] at hE_v hc_v
  rw [hE_v]
  refine zQ (t:=decide ((k:Int) < (n:Int))) (decide_eq_false (by omega)) ?_
  refine go0 2 [] [] ?_
  refine eV ?_
  refine go0 9 [] [] ?_
  refine dV [(2,.slice Ar ol.length cr)] [.row (.slice Ar ol.length cr) 51 7 (tJ ol),.box b1 [.slice A n c,.slice (sA (agJ 1 w)) (sN (agJ 1 w)) (sC (agJ 1 w)),Vi E.pol.t,Vi E.pol.b,Vi E.pol.c,.slice (sA (agJ 2 w)) (sN (agJ 2 w)) (sC (agJ 2 w)),.slice A2 n c2,.slice (sA (agJ 4 w)) (sN (agJ 4 w)) (sC (agJ 4 w)),Vi E.now,Vi E.last]] [] ?_
  refine hQ.toJ [.slice Ar ol.length cr] [] (fun a w hJ=>?_)
  have fr:=hJ.j.rowOut0 (v:=.slice Ar ol.length cr) (e:=51) (k:=7) (l:=tJ ol) 0 (by kernel_rfl) rfl
  exact ⟨.slice Ar ol.length cr,rfl,by rw [ho]; exact fr⟩
theorem safe_any (E:Eg) (ρ:List Int) (lv:Nat→Nat) (hok:EgOk E ρ lv) (hse:Settled E ρ) (w:Value) (h:Vw) (hE:IsEng h w E):C0 Tryz.prog 31 #[.agg #[.slice (sA (agJ 0 w)) (sN (agJ 0 w)) (sC (agJ 0 w)),.slice (sA (agJ 1 w)) (sN (agJ 1 w)) (sC (agJ 1 w)),.int .i64 E.pol.t,.int .i64 E.pol.b,.int .i64 E.pol.c,.slice (sA (agJ 2 w)) (sN (agJ 2 w)) (sC (agJ 2 w)),.slice (sA (agJ 3 w)) (sN (agJ 3 w)) (sC (agJ 3 w)),.slice (sA (agJ 4 w)) (sN (agJ 4 w)) (sC (agJ 4 w)),.int .i64 E.now,.int .i64 E.last]] h (fun r _=>r=.bool true):=by
 have few:=hok.fm.fields.few
 have one:=hok.one
 have hO:=fun H q=>oracleOf_any E ρ lv hok w H q
 have hM:=safe_orc hok hse
 have hoh:=orcC_has hok.calls
 have hol:=orcC_len (fs:=E.fm.fields) (cs:=E.calls)
 have hva:=(settled_all hok hse).2
 have hvl:=hok.vlen
 obtain ⟨vs,A,c,e0,-,-,-,-,-,-⟩:=iQ hE.form.fields
 obtain ⟨us,ws,B,d,e1,-,-,-,-,-,-⟩:=pgs_open hE.form.pages
 have hfm:=hE.form
 rw [e0,e1] at hfm hO ⊢
 have hAw:∀ so H,IsForm H (.slice A E.fm.fields.length c) (.slice B E.fm.pages.length d) E.fm→RS H 7 (.slice (sA (agJ 2 w)) (sN (agJ 2 w)) (sC (agJ 2 w))) (dQ E.inp)→RS H 7 so (tJ (iX E.fm.fields E.calls))→C0 Tryz.prog 25 #[.agg #[.slice A E.fm.fields.length c,.slice B E.fm.pages.length d],.slice (sA (agJ 2 w)) (sN (agJ 2 w)) (sC (agJ 2 w)),so] H (fun r h'=>∃ u,r=.tuple #[.slice (sA u) E.fm.fields.length (sC u),.int .i64 0]∧RS h' 3 (.slice (sA u) E.fm.fields.length (sC u)) (sZ (allW E.fm.fields E.inp (iX E.fm.fields E.calls) (jX ρ E.fm.fields.length)))):=fun so H q1 q2 q3=>(whAll_any E.fm ρ lv A E.fm.fields.length c B E.fm.pages.length d E.inp (.slice (sA (agJ 2 w)) (sN (agJ 2 w)) (sC (agJ 2 w))) so (iX E.fm.fields E.calls) H hok.fm q1 rfl one q2 (by have:=hok.li; omega) hok.ki hok.ti q3 (by omega) hoh (fun H g1 g2=>whMay_any E.fm.fields hok.fm.fields (iX E.fm.fields E.calls) hM A E.fm.fields.length c B E.fm.pages.length d so H g1.fields rfl g2 (by omega))).mono fun r h' _=>by
  rintro ⟨A',c',rfl,q⟩
  exact ⟨.slice A' E.fm.fields.length c',rfl,q⟩
 rw [← hva] at hAw
 have hEq:=fun v u H q1 q2=>c_equalVl (h:=H) (v:=v) (v':=u) (l:=E.vals) q1 q2 (by omega)
 generalize iX E.fm.fields E.calls=orc at *
 generalize hn:E.fm.fields.length=n at *
 generalize hm:E.fm.pages.length=m at *
 refine xQ Tryz.func31 (c:=Tryz.f31.body.getD .skip) (N:=23) ?_
 intro hbx hbad Q hQ
 refine go1 7 [.own] [] ?_
 intro b1
 refine mV 12 0 [.pu,.ld 0 0,.pu,.ld 0 5,.ld 0 0,.f (fun gh=>.slice (sA (gh 5)) (sN (gh 5)) (sC (gh 5))) (fun gh hh=>RS hh 7 (.slice (sA (gh 5)) (sN (gh 5)) (sC (gh 5))) (tJ orc)),.f (fun gh=>.tuple #[.slice (sA (gh 6)) n (sC (gh 6)),Vi 0]) (fun gh hh=>RS hh 3 (.slice (sA (gh 6)) n (sC (gh 6))) (sZ E.vals)),.pu,.pu,.pu,.pu,.pu] [(5,false),(6,false)] (And.intro (fun _ _ _ s c=>c.sees s) (And.intro (fun _ _ _ s c=>c.sees s) (trivial))) ?_ ?_
 ·intro R hT hA hmono
  refine And.intro (yX hT hA hmono ⟨fun _ _=>by kernel_rfl,fun _ _=>by kernel_rfl,fun _ _=>by kernel_rfl⟩ 11 (fun u=>.slice (sA u) (sN u) (sC u)) [4] 5 76 (fun gh=>#[.agg #[.slice A n c,.slice B m d,Vi E.pol.t,Vi E.pol.b,Vi E.pol.c,.slice (sA (agJ 2 w)) (sN (agJ 2 w)) (sC (agJ 2 w)),.slice (sA (agJ 3 w)) (sN (agJ 3 w)) (sC (agJ 3 w)),.slice (sA (agJ 4 w)) (sN (agJ 4 w)) (sC (agJ 4 w)),Vi E.now,Vi E.last]]) (fun gh H sH fH lent=>C0.facts (R:=R) (x:=gh) (i:=5) (n:=0) (F:=(fun u=>.slice (sA u) (sN u) (sC u))) (G:=fun u hh=>RS hh 7 (.slice (sA u) (sN u) (sC u)) (tJ orc)) (f:=fun gh hh=>RS hh 7 (.slice (sA (gh 5)) (sN (gh 5)) (sC (gh 5))) (tJ orc)) (hO _ (hE.sees sH)) (by kernel_rfl) (by kernel_rfl) (fun _ _ r=>r))) ?_
  refine And.intro (yX hT hA hmono ⟨fun _ _=>by kernel_rfl,fun _ _=>by kernel_rfl,fun _ _=>by kernel_rfl⟩ 12 (fun u=>.tuple #[.slice (sA u) n (sC u),Vi 0]) [1,3,5] 6 25 (fun gh=>#[.agg #[.slice A n c,.slice B m d],.slice (sA (agJ 2 w)) (sN (agJ 2 w)) (sC (agJ 2 w)),.slice (sA (gh 5)) (sN (gh 5)) (sC (gh 5))]) (fun gh H sH fH lent=>C0.facts (R:=R) (x:=gh) (i:=6) (n:=1) (F:=(fun u=>.tuple #[.slice (sA u) n (sC u),Vi 0])) (G:=fun u hh=>RS hh 3 (.slice (sA u) n (sC u)) (sZ E.vals)) (f:=fun gh hh=>RS hh 3 (.slice (sA (gh 6)) n (sC (gh 6))) (sZ E.vals)) (hAw _ _ (hfm.sees sH) ((hE.sees sH)).inp (fH 0 _ rfl (by kernel_rfl))) (by kernel_rfl) (by kernel_rfl) (fun _ _ r=>r))) ?_
  trivial
 rintro u11 u12 W2 S3 ⟨f11,f12,-⟩
 replace f11:RS W2 7 (.slice (sA u11) (sN u11) (sC u11)) (tJ orc):=f11
 replace f12:RS W2 3 (.slice (sA u12) n (sC u12)) (sZ E.vals):=f12
 refine go0 15 [.b 0 7,.cl 26 #[.slice (sA u12) n (sC u12),.slice (sA (agJ 4 w)) (sN (agJ 4 w)) (sC (agJ 4 w))] (.bool true)] [] ?_ (ho:=(And.intro (fun H sH=>hEq _ _ _ (f12.sees sH) ((hE.sees (S3.trans sH))).vals) (trivial)))
 refine hQ.to [.bool true] (fun H sH=>?_)
 exact rfl
end Go.Proofs.YtmoahpojchndiaaGreat
