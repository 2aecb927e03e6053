/-
  The laws' Oracle, in plain words: all keys that come up, answered. Such answers may be.
-/
import Derived.Test.YtmoahpojchndiaaGreatZV38
import Derived.Test.YtmoahpojchndiaaGreatZV49
import Derived.Test.YtmoahpojchndiaaGreatZV9
import Derived.Test.YtmoahpojchndiaaGreatZV41
import Derived.Test.YtmoahpojchndiaaGreatZV46
import Derived.Test.YtmoahpojchndiaaGreatZV48
import Derived.Test.YtmoahpojchndiaaGreatZV11
set_option maxRecDepth 100000
namespace Go.Proofs.YtmoahpojchndiaaGreat
open Go.RowKit
set_option linter.unusedVariables false
def abcB:ByteArray:=⟨#[97,98,99,100,101,102,103,104,105]⟩
def ansN (f:Fd) (key:Vl):Int:=Int.tmod key.n 9 + 3 * (key.s.size:Int) + (f.name.size:Int)
def ansV (f:Fd) (key:Vl):Vl:=if f.ty=1 then ⟨1,ansN f key,⟨#[]⟩⟩ else if f.ty=2 then ⟨2,cJ (ansN f key) 2,⟨#[]⟩⟩ else ⟨3,0,f.name++abcB.extract 0 (cJ (ansN f key) 9).toNat⟩
theorem word_print {c:UInt8} (h:isWord c=true):32 <= c.toNat /\ c.toNat <= 126:=by
 unfold isWord isLet isDig at h
 simp only [Bool.or_eq_true,decide_eq_true_eq] at h
 omega
theorem name_print {s:ByteArray} (h:rJ s.data.toList):s.size <= 10 /\ ∀ i (hi:i < s.size),32 <= s[i].toNat /\ s[i].toNat <= 126:=by
 obtain ⟨-,h2,-,h4,-⟩:=h
 have hsz:s.data.toList.length=s.size:=by simp
 refine ⟨by omega,fun i hi=>?_⟩
 have hg:s.data.toList[i]?=some s[i]:=by
  rw [List.getElem?_eq_getElem (by omega)]
  congr 1
 exact word_print (span_all isWord s.data.toList i s[i] (by omega) hg)
theorem abc_all:∀ i (hi:i < 9),32 <= (abcB[i]'hi).toNat /\ (abcB[i]'hi).toNat <= 126:=by decide
theorem abc_print (k:Nat):(abcB.extract 0 k).size <= 9 /\ ∀ i (hi:i < (abcB.extract 0 k).size),32 <= (abcB.extract 0 k)[i].toNat /\ (abcB.extract 0 k)[i].toNat <= 126:=by
 have hs:(abcB.extract 0 k).size=min k abcB.size - 0:=ByteArray.size_extract ..
 have h9:abcB.size=9:=rfl
 refine ⟨by omega,fun i hi=>?_⟩
 rw [ByteArray.getElem_extract]
 have:=abc_all (0 + i) (by omega)
 exact this
theorem known_size {v:Vl} (h:v.known):v.s.size <= 40:=by
 rcases h with ⟨-,-,e⟩ | ⟨-,-,e⟩ | ⟨-,-,e,-⟩
 ·rw [e]; decide
 ·rw [e]; decide
 ·exact e
theorem ansN_lo (f:Fd) (key:Vl) (hn:f.name.size <= 10) (hk:key.s.size <= 40) : -8 <= ansN f key /\ ansN f key <= 138:=by
 have h1:=Int.tmod_lt_of_pos key.n (show (0:Int) < 9 by decide)
 have h2:=Int.lt_tmod_of_pos key.n (show (0:Int) < 9 by decide)
 unfold ansN
 omega
theorem ans_known {fs:List Fd} {f:Fd} (hf:OkF fs f) {key:Vl} (hk:key.known):(ansV f key).known /\ (ansV f key).k=f.ty:=by
 obtain ⟨hn,hp⟩:=name_print hf.name
 have hr:=ansN_lo f key hn (known_size hk)
 have t1:=hf.t1
 have t3:=hf.t3
 unfold ansV
 by_cases g1:f.ty=1
 ·rw [if_pos g1]
  exact ⟨.inl ⟨rfl,by show Lim (ansN f key); unfold Lim; omega,rfl⟩,g1.symm⟩
 by_cases g2:f.ty=2
 ·rw [if_neg g1,if_pos g2]
  have p0:=oX (ansN f key) 2 (by omega)
  have p1:=nX (ansN f key) 2 (by omega)
  exact ⟨.inr (.inl ⟨rfl,by show cJ _ _=0∨cJ _ _=1; omega,rfl⟩),g2.symm⟩
 rw [if_neg g1,if_neg g2]
 obtain ⟨ha,hb⟩:=abc_print (cJ (ansN f key) 9).toNat
 generalize abcB.extract 0 (cJ (ansN f key) 9).toNat=t at *
 have hs:(f.name++t).size=f.name.size + t.size:=ByteArray.size_append ..
 refine ⟨.inr (.inr ⟨rfl,rfl,by show (f.name++t).size <= 40; omega,fun i hi=>?_⟩),by show (3:Int)=_; omega⟩
 have hi':i < f.name.size + t.size:=by rw [<- hs]; exact hi
 show 32 <= (f.name++t)[i].toNat /\ _
 by_cases hlt:i < f.name.size
 ·rw [ByteArray.getElem_append_left hlt]; exact hp i hlt
 ·rw [ByteArray.getElem_append_right (by omega)]; exact hb _ (by omega)
def InpTy (fs:List Fd) (inp:Env):Prop:=∀ (i:Nat) (f:Fd),fs[i]?=some f -> f.kind=1 -> ∀ p∈inp,p.1=f.name -> p.2.k=f.ty
end Go.Proofs.YtmoahpojchndiaaGreat
namespace Go.Proofs.YtmoahpojchndiaaGreat
open Go.RowKit
set_option linter.unusedVariables false
structure Wh (fs:List Fd) (inp:Env) (ρ:List Int) (lv:Nat -> Nat) (os:List Nat):Prop where
 ok:OkFs fs
 known:∀ p∈inp,p.2.known
 ty:InpTy fs inp
 ord:Ordd fs ρ lv os
section
variable {fs:List Fd} {inp:Env} {ρ:List Int} {lv:Nat -> Nat} {os:List Nat}
open Classical in
end
end Go.Proofs.YtmoahpojchndiaaGreat
namespace Go.Proofs.YtmoahpojchndiaaGreat
open Go.RowKit
set_option linter.unusedVariables false
theorem run_rem9 {P:Program} {t:TypeId} (a:Int) (w:World):(binOp .rem t (Vi a) (Vi 9)).run P w=.ok (Vi (Int.tmod a 9)) w:=by
 simp [binOp,Op.intDiv]
theorem run_hiS {P:Program} {o:Oper} {ρ:Operand -> Value} {t:TypeId} {x y:Operand} {s:ByteArray} {k:Int} (w:World) (ho:o.op=.slice t x none (some y) none) (hx:ρ x=.string s) (hy:ρ y=Vi k) (h0:0 <= k) (hk:k <= s.size) (ht:P.underlying t=some .string) :
  (execOp ρ o).run P w=.ok (.value (Vt (s.extract 0 k.toNat))) w:=by
 unfold execOp
 simp only [ho,hx,hy,Option.map_some,Option.map_none]
 simp [run_sliceAt_string (w:=w) t _ _ _ _ ht,run_slice_string_h (w:=w) t s ht .i64 k h0 hk]
set_option maxHeartbeats 4000000 in
theorem answered_any (f:Fd) (A:Option Addr) (n c:Nat) (key:Vl) (h:Vw) (hn:f.name.size <= 10) (hk:key.s.size <= 40) (t1:1 <= f.ty) (t3:f.ty <= 3):C0 Tryz.prog 64 #[.agg #[Vt f.name,Vi f.kind,Vi f.ty,Vi f.src.op,Vi f.src.k,Vi f.src.n,.string f.src.s,.string f.src.nm,.slice A n c],.agg #[Vi key.k,Vi key.n,.string key.s]] h (fun r _=>r=(ansV f key).val):=by
 have hr:=ansN_lo f key hn hk
 have hp2:=fun H=>yJ (ansN f key) 2 H (by omega) (by omega) (by omega) (by omega)
 have hp9:=fun H=>yJ (ansN f key) 9 H (by omega) (by omega) (by omega) (by omega)
 have p0:=oX (ansN f key) 9 (by omega)
 have p1:=nX (ansN f key) 9 (by omega)
 have habc:abcB.size=9:=rfl
 have e:ansN f key=Int.tmod key.n 9 + 3 * (key.s.size:Int) + (f.name.size:Int):=rfl
 have hs0:(0:Int) <= (key.s.size:Int):=Int.natCast_nonneg _
 have hrem:key.n % 9=key.n % 9:=rfl
 obtain g | g | g:f.ty=1∨f.ty=2∨f.ty=3:=by omega
 ·have ea:ansV f key=⟨1,ansN f key,⟨#[]⟩⟩:=by unfold ansV; rw [if_pos g]
  rw [ea]
  generalize ansN f key=N at *
  refine tQ Tryz.func64 (c:=Tryz.f64.body.getD .skip) (N:=36) ?_
  intro hbx hbad Q hQ
  refine go3 11 [.own,.own,.own,.b 1 1] [] ?_
  intro b1 b2 b3
  refine jV (Vi (Int.tmod key.n 9)) (fun w=>run_bin (op:=.rem) (t:=3) (x:=(.tmp 7)) (y:=(.const (Vi 9))) (yt:=3) (by kernel_rfl) (by kernel_rfl) (by kernel_rfl) (by kernel_rfl) (run_rem9 key.n w)) ?_
  refine go0 37 [.b 1 2,.b 2 0,.b 2 2,.b 0 0] [(12,Vi (IntKind.i64.wrap (3 * (key.s.size:Int))),Vi (3 * (key.s.size:Int))),(13,Vi (IntKind.i64.wrap (Int.tmod key.n 9 + (3 * (key.s.size:Int)))),Vi (Int.tmod key.n 9 + (3 * (key.s.size:Int)))),(17,Vi (IntKind.i64.wrap ((Int.tmod key.n 9 + (3 * (key.s.size:Int))) + (f.name.size:Int))),Vi N),(21,.bool (f.ty == 1),.bool true)] ?_ (hc:=(And.intro (jJ (by omega) (by omega)) (And.intro (jJ (by omega) (by omega)) (And.intro ((jJ (by omega) (by omega)).trans (congrArg (Value.int .i64) e.symm)) (And.intro (congrArg Value.bool (beq_iff_eq.2 g)) (trivial))))))
  refine hQ.to [.agg #[Vi 1,Vi N,Ve]] (fun H sH=>?_) (ix:=[0])
  exact rfl
 ·have ea:ansV f key=⟨2,cJ (ansN f key) 2,⟨#[]⟩⟩:=by unfold ansV; rw [if_neg (by omega),if_pos g]
  rw [ea]
  generalize ansN f key=N at *
  refine tQ Tryz.func64 (c:=Tryz.f64.body.getD .skip) (N:=36) ?_
  intro hbx hbad Q hQ
  refine go3 11 [.own,.own,.own,.b 1 1] [] ?_
  intro b1 b2 b3
  refine jV (Vi (Int.tmod key.n 9)) (fun w=>run_bin (op:=.rem) (t:=3) (x:=(.tmp 7)) (y:=(.const (Vi 9))) (yt:=3) (by kernel_rfl) (by kernel_rfl) (by kernel_rfl) (by kernel_rfl) (run_rem9 key.n w)) ?_
  refine go0 45 [.b 1 2,.b 2 0,.b 2 2,.cl 19 #[Vi N,Vi 2] (Vi (cJ N 2)),.b 0 0] [(12,Vi (IntKind.i64.wrap (3 * (key.s.size:Int))),Vi (3 * (key.s.size:Int))),(13,Vi (IntKind.i64.wrap (Int.tmod key.n 9 + (3 * (key.s.size:Int)))),Vi (Int.tmod key.n 9 + (3 * (key.s.size:Int)))),(17,Vi (IntKind.i64.wrap ((Int.tmod key.n 9 + (3 * (key.s.size:Int))) + (f.name.size:Int))),Vi N),(21,.bool (f.ty == 1),.bool false),(25,.bool (f.ty == 2),.bool true)] ?_ (ho:=(And.intro (fun H sH=>hp2 _) (trivial))) (hc:=(And.intro (jJ (by omega) (by omega)) (And.intro (jJ (by omega) (by omega)) (And.intro ((jJ (by omega) (by omega)).trans (congrArg (Value.int .i64) e.symm)) (And.intro (congrArg Value.bool (beq_eq_false_iff_ne.2 (by omega))) (And.intro (congrArg Value.bool (beq_iff_eq.2 g)) (trivial)))))))
  refine hQ.to [.agg #[Vi 2,Vi (cJ N 2),Ve]] (fun H sH=>?_) (ix:=[0])
  exact rfl
 ·have ea:ansV f key=⟨3,0,f.name++abcB.extract 0 (cJ (ansN f key) 9).toNat⟩:=by unfold ansV; rw [if_neg (by omega),if_neg (by omega)]
  rw [ea]
  have hcut:=fun (ρ:Operand -> Value) (o:Oper) (x y:Operand) (w:World) q1 q2 q3=>run_hiS (P:=Tryz.prog) (o:=o) (ρ:=ρ) (t:=9) (x:=x) (y:=y) (s:=abcB) (k:=cJ (ansN f key) 9) w q1 q2 q3 p0 (by rw [habc]; omega) Tryz.underlying9
  generalize ansN f key=N at *
  generalize cJ N 9=q at *
  have hcs:=(abc_print q.toNat).1
  refine tQ Tryz.func64 (c:=Tryz.f64.body.getD .skip) (N:=36) ?_
  intro hbx hbad Q hQ
  refine go3 11 [.own,.own,.own,.b 1 1] [] ?_
  intro b1 b2 b3
  refine jV (Vi (Int.tmod key.n 9)) (fun w=>run_bin (op:=.rem) (t:=3) (x:=(.tmp 7)) (y:=(.const (Vi 9))) (yt:=3) (by kernel_rfl) (by kernel_rfl) (by kernel_rfl) (by kernel_rfl) (run_rem9 key.n w)) ?_
  refine go0 38 [.b 1 2,.b 2 0,.b 2 2] [(12,Vi (IntKind.i64.wrap (3 * (key.s.size:Int))),Vi (3 * (key.s.size:Int))),(13,Vi (IntKind.i64.wrap (Int.tmod key.n 9 + (3 * (key.s.size:Int)))),Vi (Int.tmod key.n 9 + (3 * (key.s.size:Int)))),(17,Vi (IntKind.i64.wrap ((Int.tmod key.n 9 + (3 * (key.s.size:Int))) + (f.name.size:Int))),Vi N),(21,.bool (f.ty == 1),.bool false),(25,.bool (f.ty == 2),.bool false)] ?_ (hc:=(And.intro (jJ (by omega) (by omega)) (And.intro (jJ (by omega) (by omega)) (And.intro ((jJ (by omega) (by omega)).trans (congrArg (Value.int .i64) e.symm)) (And.intro (congrArg Value.bool (beq_eq_false_iff_ne.2 (by omega))) (And.intro (congrArg Value.bool (beq_eq_false_iff_ne.2 (by omega))) (trivial)))))))
  refine kV 8 0 [.pu,.ld 2 0,.pu,.v (fun gh=>Vi q),.v (fun gh=>.string (abcB.extract 0 q.toNat)),.v (fun gh=>.string (f.name++abcB.extract 0 q.toNat)),.pu,.st 0 0] [] (trivial) ?_ ?_
  ·intro R hT hA hmono
   refine And.intro (t_v hT hA hmono (k:=19) (args:=(fun gh=>#[Vi N,Vi 9])) (f:=fun gh=>Vi q) (fun gh H sH fH lent=>hp9 _)) ?_
   refine And.intro (t_p hT hA (fun gh=>.string (abcB.extract 0 q.toNat)) (fun gh w=>hcut _ _ (.const (Vt abcB)) (.tmp 32) w (by kernel_rfl) (by kernel_rfl) (by kernel_rfl))) ?_
   refine And.intro (t_p hT hA (fun gh=>.string (f.name++abcB.extract 0 q.toNat)) (fun gh w=>run_bin (op:=.add) (t:=9) (x:=(.tmp 30)) (y:=(.tmp 33)) (yt:=9) (by kernel_rfl) (by kernel_rfl) (by kernel_rfl) (by kernel_rfl) (run_cat (by omega)))) ?_
   trivial
  rintro W4 S5 -
  refine go0 2 [] [] ?_
  refine hQ.to [.agg #[Vi 3,Vi 0,.string (f.name++abcB.extract 0 q.toNat)]] (fun H sH=>?_) (ix:=[0])
  exact rfl
end Go.Proofs.YtmoahpojchndiaaGreat
namespace Go.Proofs.YtmoahpojchndiaaGreat
open Go.RowKit
set_option linter.unusedVariables false
theorem find1_meet (f:Fd) (A:Option Addr) (n c:Nat) (x:Lt) (b:Nat) (h:Vw) (hc:Cells h b 0 [Vt x.nm,Vi x.id,Vi x.key.k,Vi x.key.n,.string x.key.s,Vi x.ans.k,Vi x.ans.n,.string x.ans.s]) :
  C0 Tryz.prog 75 #[.agg #[Vt f.name,Vi f.kind,Vi f.ty,Vi f.src.op,Vi f.src.k,Vi f.src.n,.string f.src.s,.string f.src.nm,.slice A n c],.pointer (some ⟨b,0,none⟩)] h (fun r _=>r=.bool (f.name.toList == x.nm.toList)):=by
 refine tQ Tryz.func75 (c:=Tryz.f75.body.getD .skip) (N:=9) ?_
 intro hbx hbad Q hQ
 refine uQ (hc.sees (Sees.refl _)) ?_
 refine go1 17 [.own,.b 0 0,.f 0 0] [] ?_
 intro b1
 refine hQ.to [.bool (f.name.toList == x.nm.toList)] (fun H sH=>?_)
 exact rfl
theorem idxF_meet (fs:List Fd) (vs:List Value) (A:Option Addr) (cap:Nat) (x:Lt) (b:Nat) (h:Vw) (hr:RS h 9 (.slice A fs.length cap) (zK fs vs)) (hl:fs.length <= 1000000) (hvl:vs.length=fs.length) (hsl:∀ u∈vs,sL u=u) (hc:Cells h b 0 [Vt x.nm,Vi x.id,Vi x.key.k,Vi x.key.n,.string x.key.s,Vi x.ans.k,Vi x.ans.n,.string x.ans.s]) :
  C0 Tryz.prog 62 #[.slice A fs.length cap,.func (.func 75) #[] #[.pointer (some ⟨b,0,none⟩)]] h (fun r _=>r=Vi (eQ fs x.nm)):=by
 generalize hL:fs.length=len at *
 refine tQ Tryz.func62 (c:=Tryz.f62.body.getD .skip) (N:=19) ?_
 intro hbx hbad Q hQ
 refine go0 14 [] [] ?_
 refine aV [0,1,0,1] [.block 0,.seq [1,1]] (fun (k:Nat) X=>∃ (W1:Vw) ,X W1 [(0,.slice A len cap),(1,.func (.func 75) #[] #[Vp b]),(7,Vi (len:Int)),(8,Vi (k:Int))] [] [] /\ Sees h W1 /\ (k <= len) /\ (∀ y∈fs.take k,(y.name.toList == x.nm.toList)=false)) (fun k=>len - k) (0) (fun X q=>⟨h,q _ _ _ _ ⟨rfl,by kernel_rfl⟩,Sees.refl _,Nat.zero_le _,fun y hy=>by simp at hy⟩) ?_
 rintro k a w ⟨W1,hJ,S2,hk,hn⟩; refine iV hJ ?_; clear hJ a w
 refine go0 6 [] [] ?_
 rcases (by omega:k < len∨k=len) with hlt | hke
 ·obtain ⟨f,hfk⟩:∃ f,fs[k]?=some f:=⟨_,List.getElem?_eq_getElem (by omega)⟩
  obtain ⟨u,huk⟩:∃ u,vs[k]?=some u:=⟨_,List.getElem?_eq_getElem (by omega)⟩
  have hrow:(zK fs vs)[k]?=some (fdRow f (sL u)):=by rw [hsl u (List.mem_of_getElem? huk)]; exact aQ hfk huk
  refine nV (t:=decide ((k:Int) < (len:Int))) (decide_eq_true (by omega)) ?_
  refine go0 15 [] [] ?_
  obtain ⟨b3,o4,rfl,-,c5⟩:=RS.row hr (hrow)
  refine uQ (c5.sees S2) ?_
  refine go0 5 [.ix b3 o4 len cap k,.f 0 0,.cl 75 #[.agg #[Vt f.name,Vi f.kind,Vi f.ty,Vi f.src.op,Vi f.src.k,Vi f.src.n,.string f.src.s,.string f.src.nm,sL u],Vp b] (.bool (f.name.toList == x.nm.toList))] [] ?_ (ho:=(And.intro (by first | omega | (simp; omega)) (And.intro (fun H sH=>find1_meet f _ _ _ x b _ (hc.sees (S2.trans sH))) (trivial))))
  cases boolIs (f.name.toList == x.nm.toList) with
  | true hq =>
   refine nV (t:=f.name.toList == x.nm.toList) (hq) ?_
   refine go0 9 [] [] ?_
   refine zQ ?_
   refine go0 2 [] [] ?_
   refine hQ.to [Vi (k:Int)] (fun H sH=>?_)
   exact congrArg (Value.int .i64) (dQ _ fs k f hn hfk hq).symm
  | false hq =>
   refine vQ (t:=f.name.toList == x.nm.toList) (hq) ?_
   refine go0 7 [] [(18,Vi (IntKind.i64.wrap ((k:Int) + 1)),Vi ((k:Int) + 1))] ?_ (hc:=(And.intro (jJ (by omega) (by omega)) (trivial)))
   exact mV (k + 1) (fun X q=>⟨W1,q _ _ _ _ ⟨rfl,by kernel_rfl⟩,S2,by omega,(by rw [aZ fs k f hfk]; exact fun y hy=>(List.mem_append.1 hy).elim (hn y) (fun e=>by rw [List.mem_singleton.1 e]; exact hq))⟩) (by omega)
 ·skip
  have htk:fs.take k=fs:=by rw [hke, <- hL,List.take_length]
  rw [htk] at hn
  refine vQ (t:=decide ((k:Int) < (len:Int))) (decide_eq_false (by omega)) ?_
  refine go0 2 [] [] ?_
  refine zQ ?_
  refine go0 8 [] [] ?_
  refine hQ.to [Vi (-1)] (fun H sH=>?_)
  exact congrArg (Value.int .i64) (fidx_none _ fs hn).symm
theorem told_kind {fs:List Fd} (hok:OkFs fs) {k:Nat} {g:Fd} (hg:fs[k]?=some g):cZ fs g.name g.ty=if g.kind=1 then 0 else 2:=by
 have hfd:=fQ hok.nodup hg
 unfold cZ
 rw [hfd,if_neg (by omega)]
 simp only [Int.toNat_natCast,hg]
 split <;> simp
theorem c_cat {la lb:List Lt} (hl:la.length + lb.length <= 1000000) (va vb:Value) (b:Nat) (h:Vw) (ha:RS h 8 va (gW la)) (hb:RS h 8 vb (gW lb)) (hc:Cells h b 0 [va,vb]) :
  C0 Tryz.prog 65 #[.slice (some ⟨b,0,none⟩) 2 2] h (fun r h'=>∃ u,r=.slice (sA u) (la++lb).length (sC u) /\ RS h' 8 (.slice (sA u) (la++lb).length (sC u)) (gW (la++lb))):=by
 refine (c_concatT (rs_cells (k:=1) [[va],[vb]] (fun r hr=>by simp at hr; rcases hr with rfl | rfl <;> rfl) (show (2:Nat) <= maxLen by decide) hc) ha hb hl).mono fun v h' _=>?_
 rintro ⟨u,rfl,k⟩
 obtain ⟨A,c,e,-⟩:=k.form
 rw [List.length_map] at e
 rw [e] at k ⊢
 exact ⟨.slice A (la++lb).length c,rfl,k⟩
theorem begE_m (l:List RawD) {p:Pol} (hp:p.ok):MOk (jQ l) p (rhoL (pW (jQ l).fields)) (lvF l) 0 (begE l p) (begL l p):=by
 have h0:=newE_ok (form_okFm l) (form_one l) hp
 obtain ⟨f1,f2,f3⟩:=setE_few h0
 have e:(newE (jQ l) p).last=0:=rfl
 refine ⟨begE_ok l hp,begE_settled l hp,rfl,rfl,by show (0:Int) <= _; omega,by show (oY (newE (jQ l) p) _).last <= _; omega,Nat.le_refl 0,by show (oY (newE (jQ l) p) _).out.length <= _; omega,fun x hx=>?_⟩
 obtain ⟨a,-,c⟩:=setE_out h0 x hx
 exact ⟨a,c⟩
end Go.Proofs.YtmoahpojchndiaaGreat
