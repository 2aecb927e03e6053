/-
  For all raw things and numbers ExprBack returns true: parsing a printed formula returns the formula. No condition beyond the card's own.
-/
import Derived.Test.YthplkompdehjlaaGreatDoorZO9
import Derived.Test.YthplkompdehjlaaGreatDoorZO20
import Derived.Test.YthplkompdehjlaaGreatDoorZO45
import Derived.Test.YthplkompdehjlaaGreatDoorZO34
import Derived.Test.YthplkompdehjlaaGreatDoorZO36
import Derived.Test.YthplkompdehjlaaGreatDoorZO47
import Derived.Test.YthplkompdehjlaaGreatDoorZO50
set_option maxRecDepth 100000
namespace Go.Proofs.YthplkompdehjlaaGreatDoor
open Go.RowKit
set_option linter.unusedVariables false
theorem some5_ok:∀ f∈some5,jJ f.name.data.toList:=fun f hf=>by
 simp [some5] at hf
 rcases hf with rfl | rfl | rfl | rfl | rfl <;> exact ⟨by decide,by decide,⟨_,rfl,by decide⟩,by decide,by decide⟩
theorem str_of (p:List UInt8):∃ S:ByteArray,S.data.toList=p∧S.size=p.length∧(⟨p.toArray⟩:ByteArray)=S:=⟨⟨p.toArray⟩,rfl,by show p.toArray.size=_; simp,rfl⟩
theorem run_catS {t:TypeId} {a b c:ByteArray} {P:Program} {w:World} (h:a.size + b.size≤100000) (e:a.data.toList++b.data.toList=c.data.toList):(binOp .add t (.string a) (.string b)).run P w=.ok (.string c) w:=by
 have:=run_catb (t:=t) (P:=P) (w:=w) h e
 rw [this]
theorem prt_ne {x:Ex} {l:Nat} (hw:WfE x):prt x l≠[]:=by
 intro q
 have h:=lex_any _ x l (Nat.le_refl _) hw
 obtain ⟨us,h1,h2⟩:=h.all noW_nil
 rw [q] at h1
 injection h1 with h1
 subst h1
 have:tkE dW x l=[]:=h2.symm
 obtain ⟨op,k,n,s,nm,args⟩:=x
 rw [tkE] at this
 unfold brT at this
 split at this
 ·cases this
 ·unfold bdT at this
  split at this
  ·cases this
  ·split at this
   ·cases this
   ·split at this
    ·cases this
    ·split at this
     ·cases this
     ·simp at this
set_option maxHeartbeats 1000000 in
theorem exprBack_c (l:List RawD) (sl:Value) (kd:Int) (h:Vw) (lk:Lk h) (hr:RS h 4 sl (l.map RawD.cs)) (hlen:l.length * 40≤reachBytes) (hok:∀ r∈l,r.ok) (k0 : -9223372036854775808≤kd) (k1:kd≤9223372036854775807) :
  C0 Tryz.prog 3 #[sl,.int .i64 kd] h (fun v _=>v=.bool true):=by
 have p0:=gV kd 3 (by omega)
 have p1:=fV kd 3 (by omega)
 have hpk:=oJ kd 3
 obtain ⟨g1,g2,g3⟩:=genE_ok l some5 some5_ok 3 (1 + cJ kd 3) 0 (by omega) (by omega)
 have hE:=fun H sl fv q1 q2=>expr_any l some5 hlen hok (by decide) sl fv (1 + cJ kd 3) H q1 q2 (by omega) (by omega)
 generalize (eJ l some5 3 (1 + cJ kd 3) 0).1=x at *
 have g4:(szE x).1≤40:=g2
 have g5:(szE x).2≤4:=g3
 have hc0:chkE x=0:=by unfold chkE; rw [if_neg (by omega),if_neg (by omega)]
 have hPr:=fun v H q1 q2=>print_any x v H q1 g1 q2 (by omega) (by omega)
 have hSm:=fun v v' H q1 q2=>same_any x v v' H q1 q2 (by omega)
 have hpl:=kV _ x 1 (Nat.le_refl _) g1
 have hne:=prt_ne (l:=1) g1
 obtain ⟨ts,t1,t2⟩:=(lex_any _ x 1 (Nat.le_refl _) g1).all noW_nil
 obtain ⟨F,hF⟩:=read_all (T:=ts.map (·.t)) g1 t2
 have hF:=hF F (Nat.le_refl _)
 rw [List.length_map] at hF
 obtain ⟨S,s1,s2,s3⟩:=str_of (prt x 1)
 rw [s3] at hPr
 rw [← s1] at t1 hne
 have hPl:=fun H q=>parse_long S H q (by omega)
 have hPa:=fun H q=>parse_any1 S ts x F H q t1 hF g1 (by omega) hc0
 have hS0:(S.toList == (⟨#[]⟩:ByteArray).toList)=false:=beq_eq_false_iff_ne.2 (by rw [Lib.toList_data,Lib.toList_data]; exact hne)
 obtain ⟨A0,cap,rfl,-,-,-⟩:=hr.form
 rw [List.length_map] at *
 generalize l.length=len0 at *
 refine kK Tryz.func3 (c:=Tryz.f3.body.getD .skip) (N:=46) ?_
 intro hbx hbad Q hQ
 refine go0 11 [.cl 9 #[Vi kd,Vi 3] (Vi (cJ kd 3))] [(14,Vi (IntKind.i64.wrap (1 + (cJ kd 3))),Vi (1 + (cJ kd 3)))] ?_ (ho:=(And.intro (fun H sH=>hpk _ k0 k1 (by omega) (by omega)) (trivial))) (hc:=(And.intro (fJ (by omega) (by omega)) (trivial)))
 refine fK (fun H sH=>some_any _) ?_; rintro _ W1 S2 ⟨hfs,b,rfl⟩
 refine fK (fun H sH=>hE _ _ _ (hr.sees (S2.trans sH)) (hfs.sees sH)) ?_; rintro _ W3 S4 ⟨u,rfl,hu⟩
 refine go1 7 [.own,.b 0 0,.b 0 0] [] ?_
 intro b5
 by_cases hlong:160 < S.size
 ·skip
  refine go1 44 [.cl 11 #[.agg #[Vi x.op,Vi x.k,Vi x.n,.string x.s,.string x.nm,.slice (sA u) (sN u) (sC u)]] (.tuple #[.string S,Vi 0]),.cl 12 #[.string S] (.tuple #[.agg #[Vi 0,Vi 0,Vi 0,Ve,Ve,Vz],Vi 0,Vi 1]),.own,.b 0 0] [(32,.bool (S.toList == (⟨#[]⟩:ByteArray).toList),.bool false)] ?_ (ho:=(And.intro (fun H sH=>hPr _ _ (hu.sees sH) (lk.sees (S2.trans (S4.trans sH)))) (And.intro (fun H sH=>hPl _ hlong) (trivial)))) (hc:=(And.intro (congrArg Value.bool hS0) (trivial)))
  intro b6
  refine wK (t:=decide ((S.size:Int) > 160)) (decide_eq_true (by omega)) ?_
  refine go0 9 [] [] ?_
  refine hQ.to [.bool true] (fun H sH=>?_)
  exact rfl
 ·skip
  refine go0 11 [.cl 11 #[.agg #[Vi x.op,Vi x.k,Vi x.n,.string x.s,.string x.nm,.slice (sA u) (sN u) (sC u)]] (.tuple #[.string S,Vi 0])] [] ?_ (ho:=(And.intro (fun H sH=>hPr _ _ (hu.sees sH) (lk.sees (S2.trans (S4.trans sH)))) (trivial)))
  refine fK (fun H sH=>hPa _ (by omega)) ?_; rintro _ W7 S8 ⟨u2,rfl,hu2⟩
  refine go1 32 [.own,.b 0 0] [(32,.bool (S.toList == (⟨#[]⟩:ByteArray).toList),.bool false)] ?_ (hc:=(And.intro (congrArg Value.bool hS0) (trivial)))
  intro b9
  refine mK (t:=decide ((S.size:Int) > 160)) (decide_eq_false (by omega)) ?_
  refine go0 15 [.b 1 0,.b 0 0,.cl 13 #[.agg #[Vi x.op,Vi x.k,Vi x.n,.string x.s,.string x.nm,.slice (sA u) (sN u) (sC u)],.agg #[Vi x.op,Vi x.k,Vi x.n,.string x.s,.string x.nm,.slice (sA u2) (sN u2) (sC u2)]] (.bool true)] [] ?_ (ho:=(And.intro (fun H sH=>hSm _ _ _ (hu.sees (S8.trans sH)) (hu2.sees sH)) (trivial)))
  refine hQ.to [.bool true] (fun H sH=>?_)
  exact rfl
theorem exprBack_walk (v:Value) (l:List RawD) (kd:Int) (w:World) (h:RawsOf w v l) (k0 : -9223372036854775808≤kd) (k1:kd≤9223372036854775807) (hL:laidMet Tryz.prog Rows.exprBackRow.laid w) (hsh:w.ShapedOpen Tryz.prog) :
  Calls Tryz.prog 3 #[v,.int .i64 kd] w fun e w'=>e=.returned (.bool true)∧Below w.heap.size w w' :=
 lawC (exprBack_c l v kd ⟨w,[]⟩ (Lk.of_laid hL hsh) h.rs h.2.1 h.2.2 k0 k1)
namespace exprBackLaw
open Go.ChangeShapes Go.WideShapes Go.ChangeAt Go.RowKit
open Go.ChangeMaps (open_string shut_string)
set_option linter.unusedVariables false
theorem contract (H:Type) (enc:TypeId × Value→H) (W:World) (base:Nat) (args:Array Value) (ds gs:List (DataW H)) (before:List MemPlace)
  (hval0:∀ (j:Nat) t v,Tryz.f3.params[j]?=some t→args[j]?=some v→Value.okWide Tryz.prog W .any base t v)
  (hW:DataW.Whole enc Tryz.prog Tryz.f3.params.toList Rows.exprBackSpec.vars false W args.toList ds gs before)
  (hsz0:(DataW.weightsEach Tryz.prog (Tryz.f3.params.toList++Rows.exprBackSpec.plain.varTypes Tryz.prog) (ds++gs)).all (· ≤ reachBytes)=true) (hL:laidMet Tryz.prog Rows.exprBackRow.laid W) (hsh:W.ShapedOpen Tryz.prog) :
  Calls Tryz.prog 3 args W fun e W'=>∃ v,e=.returned v∧Rows.exprBackSpec.post enc Tryz.prog Tryz.f3 false true false false W args v W':=by
 have hval:∀ (j:Nat) t v,Tryz.f3.params[j]?=some t→args[j]?=some v→Value.okWide Tryz.prog W .any base t v:=hval0
 have hsz:(DataW.weightsEach Tryz.prog (Tryz.f3.params.toList++Rows.exprBackSpec.plain.varTypes Tryz.prog) (ds++gs)).all (· ≤ reachBytes)=true:=hsz0
 have hW':=hW
 obtain ⟨p,q,hA0,hV,rfl,hfz,hnd⟩:=hW
 have hA:DataW.TrodAll enc Tryz.prog W 0 (fun _=>true) true Tryz.f3.params.toList args.toList ds p:=hA0
 rw [Tryz.params3] at hA hval hsz
 obtain ⟨v0,vs0,d0,ds0,p0,q0,hargs,rfl,rfl,h0,r0⟩:=trodAll_cons hA
 obtain ⟨v1,vs1,d1,ds1,p1,q1,rfl,rfl,rfl,h1,r1⟩:=trodAll_cons r0
 obtain ⟨rfl,rfl,rfl⟩:=trodAll_nil r1
 obtain rfl:args=#[v0,v1]:=by cases args; simp_all
 obtain ⟨rfl,rfl⟩:=trodVars_none hV
 have k0:=h0
 have lt0:∀ x∈p0,x.block < W.heap.size:=by obtain ⟨m,hm⟩:=k0; exact DataW.trod_lt m _ _ _ hm
 obtain ⟨a0,w0⟩:=open_rows (hval 0 22 v0 rfl rfl) h0 (fun es ss hd=>sized_slice hsz (j:=0) (t:=22) (elems:=es) (spare:=ss) rfl (by rw [hd]; rfl) Tryz.underlying22)
 have k1:=h1
 have lt1:∀ x∈p1,x.block < W.heap.size:=by obtain ⟨m,hm⟩:=k1; exact DataW.trod_lt m _ _ _ hm
 obtain ⟨a1,rfl,-,-,w1⟩:=open_int Tryz.underlying3 (hval 1 3 v1 rfl rfl) h1
 clear hA0 hval0 hsz0
 refine (exprBack_walk v0 a0 a1 W w0 (int_lo w1) (int_hi w1) hL hsh).mono fun e W' ⟨he,bel⟩=>?_
 subst he
 exact ⟨_,rfl,_,_,_,[],_,[],hW',trodAll_mk1 (shut_bool Tryz.underlying4 _),(trodAll_cons_mk (Below.trod laidOutTrue (by kernel_rfl) (of_decide_eq_true (by kernel_rfl)) k0 bel lt0) (trodAll_cons_mk (Below.trod laidOutTrue (by kernel_rfl) (of_decide_eq_true (by kernel_rfl)) k1 bel lt1) trodAll_mk0)),rfl,bel.frame _,fun h=>by cases h⟩
theorem reads (os:Os) {H:Type} (enc:TypeId × Value→H):∃ places,DataW.whole enc Tryz.prog ((World.laidAll Tryz.prog os Rows.exprBackRow.laid).forCall (fun _ _=>0) ⟨#[],#[.slice none 0 0,.int .i64 0],[]⟩).memory Tryz.f3.params.toList Rows.exprBackSpec.vars false (#[.slice none 0 0,.int .i64 0]:Array Value).toList 8=some ([.nil,.lit (.int .i64 0)],[],places) :=
 ⟨[],by kernel_rfl⟩
theorem lifted (os:Os) (started:os.Started) (H:Type) (enc:TypeId × Value→H) (FF:Stop.Interp) :
  ReturnsInHanded {} Tryz.checked os 3 .any ((OpenSpec.ofChange Rows.exprBackSpec).preRow enc Tryz.prog Tryz.f3 Rows.exprBackRow.domain false Rows.exprBackRow.laid) (((OpenSpec.ofChange Rows.exprBackSpec).at FF).post enc Tryz.prog Tryz.f3 false true false false):=by
 obtain ⟨places,hx⟩:=reads os enc
 refine returnsInHanded_of_row (C:=Tryz.checked) (s:=OpenSpec.ofChange Rows.exprBackSpec) ownNone started (by kernel_rfl) Tryz.func3
  (witness_row_at (enc:=enc) (C:=Tryz.checked) false (World.laidAll Tryz.prog os Rows.exprBackRow.laid) #[.slice none 0 0,.int .i64 0] (World.laidAll_os _ _ _) (by kernel_rfl) (by kernel_rfl) (by kernel_rfl)
   (OpenSpec.preRow_of_cond 8 hx (by kernel_rfl) (fun k hk=>by cases hk) (by kernel_rfl) (laidMet_laidAll _ (by kernel_rfl) (by kernel_rfl)))) ?_
 intro W base args ds gs before hval hW _ _ hsz hL hsh _
 rw [MakeChecks.laidMetH_plain _ _ _ (by kernel_rfl)] at hL
 exact contract H enc W base args ds gs before hval hW hsz hL hsh
theorem said:Rows.ExprBackSaid :=
 OpenClaim.holds_of_cond 3 Tryz.f3 rfl rfl rfl rfl rfl rfl rfl ⟨rfl,rfl,rfl,rfl,rfl⟩ rfl rfl rfl rfl rfl (by kernel_rfl) Tryz.func3 (by kernel_rfl)
  (of_decide_eq_true (by kernel_rfl)) (by unfold Func.isWrapper; first | (rw [if_pos (by decide +kernel)]; kernel_rfl) | (rw [if_neg (by decide +kernel)]; exact ⟨rfl,rfl⟩))
  (fun os started H enc _ FF=>by rw [OpenClaim.pre_eq_preRow]; exact lifted os started H enc FF)
theorem plain (f : FuncId) (fn : Func) (hf : Tryz.pinned.checked.prog.funcNamed "lychway/lychwaykeep.ExprBack" = some f) (hfn : Tryz.pinned.checked.prog.funcs[f]? = some fn) :
  Rows.exprBackCard.stood.looks=Tryz.pinned.checked.prog.looks []∧∀ (j:Nat) t,fn.params[j]?=some t→Tryz.pinned.checked.prog.wantsStandIn t=false:=by
 obtain rfl : f = 3 := Option.some.inj ((show Tryz.prog.funcNamed "lychway/lychwaykeep.ExprBack" = some 3 by kernel_rfl).symm.trans hf) |>.symm
 obtain rfl:fn=Tryz.f3:=(Option.some.inj (Tryz.func3.symm.trans hfn)).symm
 refine ⟨by kernel_rfl,fun j t ht=>?_⟩
 rw [Tryz.params3] at ht
 have hm:=Array.mem_of_getElem? ht
 simp at hm
 first
  | (obtain rfl:=hm; exact (show Tryz.prog.wantsStandIn _=false by kernel_rfl))
  | (rcases hm with rfl | rfl <;> exact (show Tryz.prog.wantsStandIn _=false by kernel_rfl))
end exprBackLaw
theorem exprBack_holds:Rows.ExprBackCardSaid :=
 Claim7.holds_tied_plain_at .later [] _ _ _ _ exprBackLaw.said (fun _ h=>by cases h) (by kernel_rfl) (fun _ h=>by cases h) exprBack_row_tie rfl ⟨rfl,rfl⟩ (by kernel_rfl) rfl exprBackLaw.plain (by kernel_rfl)
#print axioms exprBack_holds
end Go.Proofs.YthplkompdehjlaaGreatDoor
