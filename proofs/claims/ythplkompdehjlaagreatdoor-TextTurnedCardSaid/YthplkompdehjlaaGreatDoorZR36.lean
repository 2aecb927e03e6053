/-
  Contracts of expr.Parse: a text that is a formula; one that is too long.
-/
import Derived.Test.YthplkompdehjlaaGreatDoorZR9
import Derived.Test.YthplkompdehjlaaGreatDoorZR25
import Derived.Test.YthplkompdehjlaaGreatDoorZR34
import Derived.Test.YthplkompdehjlaaGreatDoorZR35
import Derived.Test.YthplkompdehjlaaGreatDoorZR31
set_option maxRecDepth 100000
namespace Go.Proofs.YthplkompdehjlaaGreatDoor
open Go.RowKit
set_option linter.unusedVariables false
theorem prs_idle (args:Array Value) (hs:args.size=3) (w:World):CallsD Tryz.prog 28 args .returning w fun e u' w'=>e=.returned (.tuple #[])∧u'=.returning∧w'=w:=by
 obtain ⟨x,y,z,rfl⟩:∃ x y z,args=#[x,y,z]:=by
  obtain ⟨l⟩:=args
  match l,hs with
  | [x,y,z],_=>exact ⟨x,y,z,rfl⟩
 refine callsD_of_wpS Tryz.func28 rfl fun c₀ cs hu=>?_
 apply wpS_seq
 apply wpS_region
 simp [wpOpsS,go_sem,recoverD,hu,Tryz.ntmps28,Exit.thenS]
 refine wpS_of_wp ?_
 go_wp2_with fail
 refine ⟨rfl,.returning,?_,.tuple #[],?_,rfl,rfl,rfl⟩
 ·obtain ⟨⟩:=c₀
  simp only at hu
  subst hu
  rfl
 ·simp [results,Tryz.results28,go_sem]
theorem prs_idleD (x y z:Value):Idle Tryz.prog ⟨.fn (.func 28) #[x,y,z],#[]⟩:=⟨_,_,28,#[x,y,z],rfl,fun w=>by kernel_rfl,fun w=>prs_idle #[x,y,z] rfl w⟩
theorem tok_long (s:ByteArray) (h:Vw) (hs:160 < s.size) (hs2:s.size≤9223372036854775807):C0 Tryz.prog 27 #[.string s] h (fun r _=>r=.tuple #[.slice none 0 0,.int .i64 0,.int .i64 1]):=C0.of_same (fun w=>tokens_long s w hs hs2) h
theorem tok_ok (s:ByteArray) (ts:List TokA) (h:Vw) (hs:s.size≤160) (he:lexF s.data.toList=.ok ts):C0 Tryz.prog 27 #[.string s] h (fun r h'=>∃ A C,r=.tuple #[.slice A ts.length C,.int .i64 0,.int .i64 0]∧RS h' 6 (.slice A ts.length C) (kY ts)):=by
 intro _ _ _ hbad
 refine (tokens_any s h.w hs).mono ?_
 rintro e w' ⟨hb,⟨a',er',h1,rfl⟩ | ⟨us,v,h1,rfl,ho,hl⟩⟩
 ·rw [he] at h1; cases h1
 ·rw [he] at h1
  injection h1 with h1
  subst h1
  have ho':Own w' h.w.heap.size 117 6 v (kY ts).length (kY ts).flatten:=by rw [List.length_map]; exact ho
  have hr:=rs_of_own (bad:=h.bad) ho' (tcells_len ts) hbad
  obtain ⟨A,c,rfl,-⟩:=hr.form
  rw [List.length_map] at *
  exact ⟨_,[],rfl,Low.of_below hb,(fun x hx=>by cases hx),rfl,A,c,rfl,hr⟩
def zX:Value:=.agg #[.int .i64 0,.int .i64 0,.int .i64 0,.string ⟨#[]⟩,.string ⟨#[]⟩,.slice none 0 0]
theorem parse_long (s:ByteArray) (h:Vw) (hs:160 < s.size) (hs2:s.size≤9223372036854775807):C0 Tryz.prog 12 #[.string s] h (fun r _=>r=.tuple #[zX,.int .i64 0,.int .i64 1]):=by
 have hT:=fun H=>tok_long s H hs hs2
 refine g_conD Tryz.func12 (c:=Tryz.f12.body.getD .skip) (N:=43) ?_
 intro Q hQ hD
 refine go3 29 [.own,.own,.own,.cl 27 #[.string s] (.tuple #[Vz,Vi 0,Vi 1]),.b 1 0,.b 0 0,.b 0 0] [] ?_ (ho:=(And.intro (fun H sH=>hT _) (trivial)))
 intro b1 b2 b3
 refine tQ 6 0 [.pu,.ld 1 0,.ld 0 0,.st 2 0,.st 1 0,.st 0 0] [] (trivial) ?_ ?_
 ·intros; trivial
 rintro W4 S5 -
 refine go0 3 [] [] ?_
 refine hQ.to [.agg #[Vi 0,Vi 0,Vi 0,Ve,Ve,Vz],Vi 0,Vi 1] (fun H sH=>?_) (ix:=[2,1,0])
 exact rfl
set_option maxHeartbeats 1000000 in
theorem parse_any1 (s:ByteArray) (ts:List TokA) (x:Ex) (F:Nat) (h:Vw) (hs:s.size≤160) (he:lexF s.data.toList=.ok ts) (hp:(yW (ts.map (·.t)) F).lv 1 0=.ok x ts.length) (hw:WfE x) (hz:(szE x).1 < 1000000) (hc:chkE x=0) :
  C0 Tryz.prog 12 #[.string s] h (fun r h'=>∃ u,r=.tuple #[.agg #[.int .i64 x.op,.int .i64 x.k,.int .i64 x.n,.string x.s,.string x.nm,.slice (sA u) (sN u) (sC u)],.int .i64 0,.int .i64 0]∧IsArgs h' x (.slice (sA u) (sN u) (sC u))):=by
 have hT:=fun H=>tok_ok s ts H hs he
 have hL:∀ (A:Option Addr) (C:Nat) (en:Int) (b:Nat) (H:Vw),RS H 6 (.slice A ts.length C) (kY ts)→C1 Tryz.prog 30 #[.pointer (some ⟨b,0,none⟩),.int .i64 1] H b (rdL (.slice A ts.length C) en) (fun v cs H=>∃ u,v=.agg #[.int .i64 x.op,.int .i64 x.k,.int .i64 x.n,.string x.s,.string x.nm,.slice (sA u) (sN u) (sC u)]∧cs=rdL (.slice (tkA A C ts.length) 0 (C - ts.length)) en∧IsArgs H x (.slice (sA u) (sN u) (sC u))):=fun A C en b H q=>by
  have:=(prs_all (A:=A) (C:=C) (T:=ts) ts.length rfl en F F (Nat.le_refl _)).lv 1 0 b H x ts.length q (by omega) (by omega) hp
  unfold PrsR at this
  rw [Nat.sub_self] at this
  exact this
 have hC:=fun v H q=>check_any x v H q hw hz
 rw [hc] at hC
 generalize ts.length=n at *
 refine g_conD Tryz.func12 (c:=Tryz.f12.body.getD .skip) (N:=43) ?_
 intro Q hQ hD
 refine go3 10 [.own,.own,.own] [] ?_
 intro b1 b2 b3
 refine bQ (fun H sH=>hT _) ?_; rintro _ W4 S5 ⟨A,C,rfl,hr⟩
 refine go0 22 [.b 1 0,.b 0 0,.b 0 0] [] ?_
 refine g_defer ⟨.fn (.func 28) #[Vp b1,Vp b2,Vp b3],#[]⟩ ?_
 replace hQ:=hD ⟨.fn (.func 28) #[Vp b1,Vp b2,Vp b3],#[]⟩ (prs_idleD _ _ _)
 refine go1 16 [.cl 29 #[] (.agg rX),.own] [] ?_ (ho:=(And.intro (fun H sH=>tX _) (trivial)))
 intro brd
 refine cQ 0 (fun H sH=>hL A C (s.size:Int) brd _ (hr.sees sH)) ?_; rintro _ _ W6 S7 ⟨u,rfl,rfl,hu⟩
 refine go0 21 [.b 3 0,.b 0 0,.b 3 0] [] ?_
 refine go0 22 [.cl 25 #[.agg #[Vi x.op,Vi x.k,Vi x.n,.string x.s,.string x.nm,.slice (sA u) (sN u) (sC u)]] (Vi 0),.b 3 0,.b 3 0,.b 2 0,.b 1 0] [] ?_ (ho:=(And.intro (fun H sH=>hC _ _ (hu.sees sH)) (trivial)))
 refine hQ.to [.agg #[Vi x.op,Vi x.k,Vi x.n,.string x.s,.string x.nm,.slice (sA u) (sN u) (sC u)],Vi 0,Vi 0] (fun H sH=>?_) (ix:=[3,2,1])
 exact ⟨u,rfl,(hu.sees sH)⟩
end Go.Proofs.YthplkompdehjlaaGreatDoor
namespace Go.Proofs.YthplkompdehjlaaGreatDoor
open Go.RowKit
set_option linter.unusedVariables false
def mkB (l:List UInt8):ByteArray:=⟨l.toArray⟩
theorem oV (l:List UInt8):(mkB l).data.toList=l:=rfl
theorem mkB_eq {s:ByteArray} {l:List UInt8} (h:s.data.toList=l):s=mkB l:=by
 apply ByteArray.ext
 apply Array.toList_inj.1
 exact h
theorem pV (l:List UInt8):(mkB l).size=l.length:=by show l.toArray.size=_; simp
theorem mY (h:Vw):C0 Tryz.prog 67 #[] h (fun r _=>r=.tuple #[.agg #[.string ⟨#[]⟩,.string ⟨#[105,110,116]⟩,.string ⟨#[98,111,111,108]⟩,.string ⟨#[116,101,120,116]⟩],.agg #[.string ⟨#[]⟩,.string ⟨#[105,110,112,117,116]⟩,.string ⟨#[102,111,114,109,117,108,97]⟩,.string ⟨#[108,111,111,107,117,112]⟩]]):=by
 refine fQ Tryz.func67 (c:=Tryz.f67.body.getD .skip) (N:=4) ?_
 intro hbx hbad Q hQ
 refine go2 15 [.own,.own,.b 1 0,.b 0 0] [] ?_
 intro b1 b2
 refine hQ.to [.agg #[Ve,.string ⟨#[105,110,116]⟩,.string ⟨#[98,111,111,108]⟩,.string ⟨#[116,101,120,116]⟩],.agg #[Ve,.string ⟨#[105,110,112,117,116]⟩,.string ⟨#[102,111,114,109,117,108,97]⟩,.string ⟨#[108,111,111,107,117,112]⟩]] (fun H sH=>?_) (ix:=[1,0])
 exact rfl
def wix (a b c:List UInt8) (s:List UInt8):Int:=if a == s then 1 else if b == s then 2 else if c == s then 3 else 0
theorem bya_eq (x:List UInt8) (s:ByteArray):((⟨x.toArray⟩:ByteArray).toList == s.toList)=(x == s.data.toList):=by rw [Lib.toList_data,Lib.toList_data]
set_option maxHeartbeats 1000000 in
theorem index_any (a b c:List UInt8) (s:ByteArray) (h:Vw):C0 Tryz.prog 68 #[.agg #[.string ⟨#[]⟩,.string ⟨a.toArray⟩,.string ⟨b.toArray⟩,.string ⟨c.toArray⟩],.string s] h (fun r _=>r=.int .i64 (wix a b c s.data.toList)):=by
 have ea:=bya_eq a s
 have eb:=bya_eq b s
 have ec:=bya_eq c s
 unfold wix
 generalize (a == s.data.toList)=ta at *
 generalize (b == s.data.toList)=tb at *
 generalize (c == s.data.toList)=tc at *
 obtain ⟨xa,ha⟩:∃ x,x=(⟨a.toArray⟩:ByteArray):=⟨_,rfl⟩
 obtain ⟨xb,hb⟩:∃ x,x=(⟨b.toArray⟩:ByteArray):=⟨_,rfl⟩
 obtain ⟨xc,hc⟩:∃ x,x=(⟨c.toArray⟩:ByteArray):=⟨_,rfl⟩
 rw [← ha] at ea ⊢
 rw [← hb] at eb ⊢
 rw [← hc] at ec ⊢
 refine fQ Tryz.func68 (c:=Tryz.f68.body.getD .skip) (N:=21) ?_
 intro hbx hbad Q hQ
 refine go1 14 [.own,.b 0 0] [] ?_
 intro b1
 refine mQ [0,1,0,1] [.block 0,.seq [1,1]] (fun (j:Nat) X=>∃ (W2:Vw) ,X W2 [(1,.string s),(7,.agg #[Ve,.string xa,.string xb,.string xc]),(8,Vi (j:Int))] [.box b1 [Ve,.string xa,.string xb,.string xc]] []∧Sees h W2∧(j=0∨j=1∨(j=2∧ta=false)∨(j=3∧ta=false∧tb=false)∨(j=4∧ta=false∧tb=false∧tc=false))) (fun j=>4 - j) (0) (fun X q=>⟨h,q _ _ _ _ ⟨rfl,by kernel_rfl⟩,Sees.refl _,.inl rfl⟩) ?_
 rintro j a w ⟨W2,hJ,S3,hj⟩; refine pQ hJ ?_; clear hJ a w
 refine go0 6 [] [] ?_
 rcases hj with j0 | j0 | ⟨j0,t1⟩ | ⟨j0,t1,t2⟩ | ⟨j0,t1,t2,t3⟩
 ·skip
  refine wQ (t:=decide ((j:Int) < 4)) (decide_eq_true (by omega)) ?_
  refine go0 7 [] [] ?_
  refine qQ (Ve) (fun w=>by subst j0; kernel_rfl) ?_
  refine go0 9 [] [] ?_
  refine uQ 14 (v:=.bool (decide ((j:Int) > 0))) (v':=.bool false) (congrArg Value.bool (decide_eq_false (by omega))) ?_
  refine go0 14 [] [(20,Vi (IntKind.i64.wrap ((j:Int) + 1)),Vi ((j:Int) + 1))] ?_ (hc:=(And.intro (jJ (by omega) (by omega)) (trivial)))
  exact vQ (j + 1) (fun X q=>⟨W2,q _ _ _ _ ⟨rfl,by kernel_rfl⟩,S3,.inr (.inl (by omega))⟩) (by omega)
 ·skip
  refine wQ (t:=decide ((j:Int) < 4)) (decide_eq_true (by omega)) ?_
  refine go0 7 [] [] ?_
  refine qQ (.string xa) (fun w=>by subst j0; kernel_rfl) ?_
  refine go0 9 [] [] ?_
  refine uQ 14 (v:=.bool (decide ((j:Int) > 0))) (v':=.bool true) (congrArg Value.bool (decide_eq_true (by omega))) ?_
  refine go0 6 [] [] ?_
  by_cases c1:ta=true
  ·refine wQ (t:=xa.toList == s.toList) (ea.trans c1) ?_
   refine go0 9 [] [] ?_
   refine lQ ?_
   refine go0 2 [] [] ?_
   refine hQ.to [Vi (j:Int)] (fun H sH=>?_)
   exact congrArg (Value.int .i64) (by rw [if_pos c1]; omega)
  ·skip
   refine iQ (t:=xa.toList == s.toList) (ea.trans (Bool.eq_false_iff.2 c1)) ?_
   refine go0 7 [] [(20,Vi (IntKind.i64.wrap ((j:Int) + 1)),Vi ((j:Int) + 1))] ?_ (hc:=(And.intro (jJ (by omega) (by omega)) (trivial)))
   exact vQ (j + 1) (fun X q=>⟨W2,q _ _ _ _ ⟨rfl,by kernel_rfl⟩,S3,.inr (.inr (.inl ⟨by omega,Bool.eq_false_iff.2 c1⟩))⟩) (by omega)
 ·skip
  refine wQ (t:=decide ((j:Int) < 4)) (decide_eq_true (by omega)) ?_
  refine go0 7 [] [] ?_
  refine qQ (.string xb) (fun w=>by subst j0; kernel_rfl) ?_
  refine go0 9 [] [] ?_
  refine uQ 14 (v:=.bool (decide ((j:Int) > 0))) (v':=.bool true) (congrArg Value.bool (decide_eq_true (by omega))) ?_
  refine go0 6 [] [] ?_
  by_cases c1:tb=true
  ·refine wQ (t:=xb.toList == s.toList) (eb.trans c1) ?_
   refine go0 9 [] [] ?_
   refine lQ ?_
   refine go0 2 [] [] ?_
   refine hQ.to [Vi (j:Int)] (fun H sH=>?_)
   exact congrArg (Value.int .i64) (by rw [t1,if_neg Bool.false_ne_true,if_pos c1]; omega)
  ·skip
   refine iQ (t:=xb.toList == s.toList) (eb.trans (Bool.eq_false_iff.2 c1)) ?_
   refine go0 7 [] [(20,Vi (IntKind.i64.wrap ((j:Int) + 1)),Vi ((j:Int) + 1))] ?_ (hc:=(And.intro (jJ (by omega) (by omega)) (trivial)))
   exact vQ (j + 1) (fun X q=>⟨W2,q _ _ _ _ ⟨rfl,by kernel_rfl⟩,S3,.inr (.inr (.inr (.inl ⟨by omega,t1,Bool.eq_false_iff.2 c1⟩)))⟩) (by omega)
 ·skip
  refine wQ (t:=decide ((j:Int) < 4)) (decide_eq_true (by omega)) ?_
  refine go0 7 [] [] ?_
  refine qQ (.string xc) (fun w=>by subst j0; kernel_rfl) ?_
  refine go0 9 [] [] ?_
  refine uQ 14 (v:=.bool (decide ((j:Int) > 0))) (v':=.bool true) (congrArg Value.bool (decide_eq_true (by omega))) ?_
  refine go0 6 [] [] ?_
  by_cases c1:tc=true
  ·refine wQ (t:=xc.toList == s.toList) (ec.trans c1) ?_
   refine go0 9 [] [] ?_
   refine lQ ?_
   refine go0 2 [] [] ?_
   refine hQ.to [Vi (j:Int)] (fun H sH=>?_)
   exact congrArg (Value.int .i64) (by rw [t1,t2,if_neg Bool.false_ne_true,if_neg Bool.false_ne_true,if_pos c1]; omega)
  ·skip
   refine iQ (t:=xc.toList == s.toList) (ec.trans (Bool.eq_false_iff.2 c1)) ?_
   refine go0 7 [] [(20,Vi (IntKind.i64.wrap ((j:Int) + 1)),Vi ((j:Int) + 1))] ?_ (hc:=(And.intro (jJ (by omega) (by omega)) (trivial)))
   exact vQ (j + 1) (fun X q=>⟨W2,q _ _ _ _ ⟨rfl,by kernel_rfl⟩,S3,.inr (.inr (.inr (.inr ⟨by omega,t1,t2,Bool.eq_false_iff.2 c1⟩)))⟩) (by omega)
 ·skip
  refine iQ (t:=decide ((j:Int) < 4)) (decide_eq_false (by omega)) ?_
  refine go0 2 [] [] ?_
  refine lQ ?_
  refine go0 8 [] [] ?_
  refine hQ.to [Vi 0] (fun H sH=>?_)
  exact congrArg (Value.int .i64) (by rw [t1,t2,t3]; rfl)
theorem source_long (s:ByteArray) (h:Vw) (hs:160 < s.size) (hs2:s.size≤9223372036854775807):C0 Tryz.prog 66 #[.string s] h (fun r _=>r=.tuple #[zX,.int .i64 1]):=by
 have hP:=fun H=>parse_long s H hs hs2
 refine fQ Tryz.func66 (c:=Tryz.f66.body.getD .skip) (N:=15) ?_
 intro hbx hbad Q hQ
 refine go2 29 [.own,.cl 12 #[.string s] (.tuple #[.agg #[Vi 0,Vi 0,Vi 0,Ve,Ve,Vz],Vi 0,Vi 1]),.own,.b 0 0,.b 0 0,.b 1 0] [] ?_ (ho:=(And.intro (fun H sH=>hP _) (trivial)))
 intro b1 b2
 refine hQ.to [.agg #[Vi 0,Vi 0,Vi 0,Ve,Ve,Vz],Vi 1] (fun H sH=>?_) (ix:=[1])
 exact rfl
theorem source_any (x:Ex) (h:Vw) (hw:WfE x) (hs:(prt x 1).length≤160) (hz:(szE x).1≤60) (hd:(szE x).2≤12):C0 Tryz.prog 66 #[.string (mkB (prt x 1))] h (fun r h'=>∃ u,r=.tuple #[.agg #[.int .i64 x.op,.int .i64 x.k,.int .i64 x.n,.string x.s,.string x.nm,.slice (sA u) (sN u) (sC u)],.int .i64 0]∧IsArgs h' x (.slice (sA u) (sN u) (sC u))):=by
 have hc0:chkE x=0:=by unfold chkE; rw [if_neg (by omega),if_neg (by omega)]
 obtain ⟨ts,t1,t2⟩:=(lex_any _ x 1 (Nat.le_refl _) hw).all noW_nil
 obtain ⟨F,hF⟩:=read_all (T:=ts.map (·.t)) hw t2
 have hF:=hF F (Nat.le_refl _)
 rw [List.length_map] at hF
 have hPa:=fun H=>parse_any1 (mkB (prt x 1)) ts x F H (by rw [pV]; omega) t1 hF hw (by omega) hc0
 generalize mkB (prt x 1)=s at *
 refine fQ Tryz.func66 (c:=Tryz.f66.body.getD .skip) (N:=15) ?_
 intro hbx hbad Q hQ
 refine go1 9 [.own] [] ?_
 intro b1
 refine bQ (fun H sH=>hPa _) ?_; rintro _ W2 S3 ⟨u,rfl,hu⟩
 refine go1 19 [.own,.b 0 0,.b 0 0,.b 1 0] [] ?_
 intro b4
 refine hQ.to [.agg #[Vi x.op,Vi x.k,Vi x.n,.string x.s,.string x.nm,.slice (sA u) (sN u) (sC u)],Vi 0] (fun H sH=>?_) (ix:=[1])
 exact ⟨u,rfl,(hu.sees sH)⟩
set_option maxHeartbeats 1000000 in
theorem fieldLine_11 (p:List UInt8) (x:Ex) (A:Option Addr) (na ca:Nat) (h:Vw) (lk:Lk h) (hnl:p.length≤10) :
  C0 Tryz.prog 40 #[.agg #[.string (mkB p),.int .i64 1,.int .i64 1,.int .i64 x.op,.int .i64 x.k,.int .i64 x.n,.string x.s,.string x.nm,.slice A na ca]] h (fun r _=>r=.string (mkB (kdW 1++[32]++p++[32]++tyW 1))):=by
 have hkl:(kdW 1).length≤7:=by decide
 have htl:(tyW 1).length≤4:=by decide
 refine fQ Tryz.func40 (c:=Tryz.f40.body.getD .skip) (N:=40) ?_
 intro hbx hbad Q hQ
 refine go3 19 [.own,.cl 67 #[] (.tuple #[.agg #[Ve,.string ⟨#[105,110,116]⟩,.string ⟨#[98,111,111,108]⟩,.string ⟨#[116,101,120,116]⟩],.agg #[Ve,.string ⟨#[105,110,112,117,116]⟩,.string ⟨#[102,111,114,109,117,108,97]⟩,.string ⟨#[108,111,111,107,117,112]⟩]]),.own,.own,.b 1 0,.b 0 0] [] ?_ (ho:=(And.intro (fun H sH=>mY _) (trivial)))
 intro b1 b2 b3
 refine tQ 15 0 [.pu,.ld 2 1,.pu,.ld 0 1,.v (fun gh=>.string ⟨(kdW 1++[32]).toArray⟩),.pu,.ld 2 0,.v (fun gh=>.string ⟨(kdW 1++[32]++p).toArray⟩),.v (fun gh=>.string ⟨(kdW 1++[32]++p++[32]).toArray⟩),.pu,.ld 2 2,.pu,.ld 1 1,.v (fun gh=>.string ⟨(kdW 1++[32]++p++[32]++tyW 1).toArray⟩),.pu] [] (trivial) ?_ ?_
 ·intro R hT hA hmono
  refine And.intro (t_p hT hA (fun gh=>.string ⟨(kdW 1++[32]).toArray⟩) (fun gh w=>nX (op:=.add) (t:=9) (x:=(.tmp 15)) (y:=(.const (.string ⟨#[32]⟩))) (yt:=9) (va:=.string ⟨(kdW 1).toArray⟩) (vb:=.string ⟨([32]).toArray⟩) (by kernel_rfl) (by kernel_rfl) (by kernel_rfl) (by kernel_rfl) (oX (a:=kdW 1) (b:=[32]) (c:=kdW 1++[32]) (by first | omega | (simp only [List.length_cons,List.length_nil]; omega) | (simp only [List.length_append,List.length_cons,List.length_nil]; omega)) (rfl)))) ?_
  refine And.intro (t_p hT hA (fun gh=>.string ⟨(kdW 1++[32]++p).toArray⟩) (fun gh w=>nX (op:=.add) (t:=9) (x:=(.tmp 16)) (y:=(.tmp 18)) (yt:=9) (va:=.string ⟨(kdW 1++[32]).toArray⟩) (vb:=.string ⟨(p).toArray⟩) (by kernel_rfl) (by kernel_rfl) (by kernel_rfl) (by kernel_rfl) (oX (a:=kdW 1++[32]) (b:=p) (c:=kdW 1++[32]++p) (by first | omega | (simp only [List.length_cons,List.length_nil]; omega) | (simp only [List.length_append,List.length_cons,List.length_nil]; omega)) (rfl)))) ?_
  refine And.intro (t_p hT hA (fun gh=>.string ⟨(kdW 1++[32]++p++[32]).toArray⟩) (fun gh w=>nX (op:=.add) (t:=9) (x:=(.tmp 19)) (y:=(.const (.string ⟨#[32]⟩))) (yt:=9) (va:=.string ⟨(kdW 1++[32]++p).toArray⟩) (vb:=.string ⟨([32]).toArray⟩) (by kernel_rfl) (by kernel_rfl) (by kernel_rfl) (by kernel_rfl) (oX (a:=kdW 1++[32]++p) (b:=[32]) (c:=kdW 1++[32]++p++[32]) (by first | omega | (simp only [List.length_cons,List.length_nil]; omega) | (simp only [List.length_append,List.length_cons,List.length_nil]; omega)) (rfl)))) ?_
  refine And.intro (t_p hT hA (fun gh=>.string ⟨(kdW 1++[32]++p++[32]++tyW 1).toArray⟩) (fun gh w=>nX (op:=.add) (t:=9) (x:=(.tmp 20)) (y:=(.tmp 24)) (yt:=9) (va:=.string ⟨(kdW 1++[32]++p++[32]).toArray⟩) (vb:=.string ⟨(tyW 1).toArray⟩) (by kernel_rfl) (by kernel_rfl) (by kernel_rfl) (by kernel_rfl) (oX (a:=kdW 1++[32]++p++[32]) (b:=tyW 1) (c:=kdW 1++[32]++p++[32]++tyW 1) (by first | omega | (simp only [List.length_cons,List.length_nil]; omega) | (simp only [List.length_append,List.length_cons,List.length_nil]; omega)) (rfl)))) ?_
  trivial
 rintro W4 S5 -
 refine go0 18 [.b 2 1] [] ?_
 refine hQ.to [.string ⟨(kdW 1++[32]++p++[32]++tyW 1).toArray⟩] (fun H sH=>?_)
 exact rfl
set_option maxHeartbeats 1000000 in
theorem fieldLine_12 (p:List UInt8) (x:Ex) (A:Option Addr) (na ca:Nat) (h:Vw) (lk:Lk h) (hnl:p.length≤10) :
  C0 Tryz.prog 40 #[.agg #[.string (mkB p),.int .i64 1,.int .i64 2,.int .i64 x.op,.int .i64 x.k,.int .i64 x.n,.string x.s,.string x.nm,.slice A na ca]] h (fun r _=>r=.string (mkB (kdW 1++[32]++p++[32]++tyW 2))):=by
 have hkl:(kdW 1).length≤7:=by decide
 have htl:(tyW 2).length≤4:=by decide
 refine fQ Tryz.func40 (c:=Tryz.f40.body.getD .skip) (N:=40) ?_
 intro hbx hbad Q hQ
 refine go3 19 [.own,.cl 67 #[] (.tuple #[.agg #[Ve,.string ⟨#[105,110,116]⟩,.string ⟨#[98,111,111,108]⟩,.string ⟨#[116,101,120,116]⟩],.agg #[Ve,.string ⟨#[105,110,112,117,116]⟩,.string ⟨#[102,111,114,109,117,108,97]⟩,.string ⟨#[108,111,111,107,117,112]⟩]]),.own,.own,.b 1 0,.b 0 0] [] ?_ (ho:=(And.intro (fun H sH=>mY _) (trivial)))
 intro b1 b2 b3
 refine tQ 15 0 [.pu,.ld 2 1,.pu,.ld 0 1,.v (fun gh=>.string ⟨(kdW 1++[32]).toArray⟩),.pu,.ld 2 0,.v (fun gh=>.string ⟨(kdW 1++[32]++p).toArray⟩),.v (fun gh=>.string ⟨(kdW 1++[32]++p++[32]).toArray⟩),.pu,.ld 2 2,.pu,.ld 1 2,.v (fun gh=>.string ⟨(kdW 1++[32]++p++[32]++tyW 2).toArray⟩),.pu] [] (trivial) ?_ ?_
 ·intro R hT hA hmono
  refine And.intro (t_p hT hA (fun gh=>.string ⟨(kdW 1++[32]).toArray⟩) (fun gh w=>nX (op:=.add) (t:=9) (x:=(.tmp 15)) (y:=(.const (.string ⟨#[32]⟩))) (yt:=9) (va:=.string ⟨(kdW 1).toArray⟩) (vb:=.string ⟨([32]).toArray⟩) (by kernel_rfl) (by kernel_rfl) (by kernel_rfl) (by kernel_rfl) (oX (a:=kdW 1) (b:=[32]) (c:=kdW 1++[32]) (by first | omega | (simp only [List.length_cons,List.length_nil]; omega) | (simp only [List.length_append,List.length_cons,List.length_nil]; omega)) (rfl)))) ?_
  refine And.intro (t_p hT hA (fun gh=>.string ⟨(kdW 1++[32]++p).toArray⟩) (fun gh w=>nX (op:=.add) (t:=9) (x:=(.tmp 16)) (y:=(.tmp 18)) (yt:=9) (va:=.string ⟨(kdW 1++[32]).toArray⟩) (vb:=.string ⟨(p).toArray⟩) (by kernel_rfl) (by kernel_rfl) (by kernel_rfl) (by kernel_rfl) (oX (a:=kdW 1++[32]) (b:=p) (c:=kdW 1++[32]++p) (by first | omega | (simp only [List.length_cons,List.length_nil]; omega) | (simp only [List.length_append,List.length_cons,List.length_nil]; omega)) (rfl)))) ?_
  refine And.intro (t_p hT hA (fun gh=>.string ⟨(kdW 1++[32]++p++[32]).toArray⟩) (fun gh w=>nX (op:=.add) (t:=9) (x:=(.tmp 19)) (y:=(.const (.string ⟨#[32]⟩))) (yt:=9) (va:=.string ⟨(kdW 1++[32]++p).toArray⟩) (vb:=.string ⟨([32]).toArray⟩) (by kernel_rfl) (by kernel_rfl) (by kernel_rfl) (by kernel_rfl) (oX (a:=kdW 1++[32]++p) (b:=[32]) (c:=kdW 1++[32]++p++[32]) (by first | omega | (simp only [List.length_cons,List.length_nil]; omega) | (simp only [List.length_append,List.length_cons,List.length_nil]; omega)) (rfl)))) ?_
  refine And.intro (t_p hT hA (fun gh=>.string ⟨(kdW 1++[32]++p++[32]++tyW 2).toArray⟩) (fun gh w=>nX (op:=.add) (t:=9) (x:=(.tmp 20)) (y:=(.tmp 24)) (yt:=9) (va:=.string ⟨(kdW 1++[32]++p++[32]).toArray⟩) (vb:=.string ⟨(tyW 2).toArray⟩) (by kernel_rfl) (by kernel_rfl) (by kernel_rfl) (by kernel_rfl) (oX (a:=kdW 1++[32]++p++[32]) (b:=tyW 2) (c:=kdW 1++[32]++p++[32]++tyW 2) (by first | omega | (simp only [List.length_cons,List.length_nil]; omega) | (simp only [List.length_append,List.length_cons,List.length_nil]; omega)) (rfl)))) ?_
  trivial
 rintro W4 S5 -
 refine go0 18 [.b 2 1] [] ?_
 refine hQ.to [.string ⟨(kdW 1++[32]++p++[32]++tyW 2).toArray⟩] (fun H sH=>?_)
 exact rfl
set_option maxHeartbeats 1000000 in
theorem fieldLine_13 (p:List UInt8) (x:Ex) (A:Option Addr) (na ca:Nat) (h:Vw) (lk:Lk h) (hnl:p.length≤10) :
  C0 Tryz.prog 40 #[.agg #[.string (mkB p),.int .i64 1,.int .i64 3,.int .i64 x.op,.int .i64 x.k,.int .i64 x.n,.string x.s,.string x.nm,.slice A na ca]] h (fun r _=>r=.string (mkB (kdW 1++[32]++p++[32]++tyW 3))):=by
 have hkl:(kdW 1).length≤7:=by decide
 have htl:(tyW 3).length≤4:=by decide
 refine fQ Tryz.func40 (c:=Tryz.f40.body.getD .skip) (N:=40) ?_
 intro hbx hbad Q hQ
 refine go3 19 [.own,.cl 67 #[] (.tuple #[.agg #[Ve,.string ⟨#[105,110,116]⟩,.string ⟨#[98,111,111,108]⟩,.string ⟨#[116,101,120,116]⟩],.agg #[Ve,.string ⟨#[105,110,112,117,116]⟩,.string ⟨#[102,111,114,109,117,108,97]⟩,.string ⟨#[108,111,111,107,117,112]⟩]]),.own,.own,.b 1 0,.b 0 0] [] ?_ (ho:=(And.intro (fun H sH=>mY _) (trivial)))
 intro b1 b2 b3
 refine tQ 15 0 [.pu,.ld 2 1,.pu,.ld 0 1,.v (fun gh=>.string ⟨(kdW 1++[32]).toArray⟩),.pu,.ld 2 0,.v (fun gh=>.string ⟨(kdW 1++[32]++p).toArray⟩),.v (fun gh=>.string ⟨(kdW 1++[32]++p++[32]).toArray⟩),.pu,.ld 2 2,.pu,.ld 1 3,.v (fun gh=>.string ⟨(kdW 1++[32]++p++[32]++tyW 3).toArray⟩),.pu] [] (trivial) ?_ ?_
 ·intro R hT hA hmono
  refine And.intro (t_p hT hA (fun gh=>.string ⟨(kdW 1++[32]).toArray⟩) (fun gh w=>nX (op:=.add) (t:=9) (x:=(.tmp 15)) (y:=(.const (.string ⟨#[32]⟩))) (yt:=9) (va:=.string ⟨(kdW 1).toArray⟩) (vb:=.string ⟨([32]).toArray⟩) (by kernel_rfl) (by kernel_rfl) (by kernel_rfl) (by kernel_rfl) (oX (a:=kdW 1) (b:=[32]) (c:=kdW 1++[32]) (by first | omega | (simp only [List.length_cons,List.length_nil]; omega) | (simp only [List.length_append,List.length_cons,List.length_nil]; omega)) (rfl)))) ?_
  refine And.intro (t_p hT hA (fun gh=>.string ⟨(kdW 1++[32]++p).toArray⟩) (fun gh w=>nX (op:=.add) (t:=9) (x:=(.tmp 16)) (y:=(.tmp 18)) (yt:=9) (va:=.string ⟨(kdW 1++[32]).toArray⟩) (vb:=.string ⟨(p).toArray⟩) (by kernel_rfl) (by kernel_rfl) (by kernel_rfl) (by kernel_rfl) (oX (a:=kdW 1++[32]) (b:=p) (c:=kdW 1++[32]++p) (by first | omega | (simp only [List.length_cons,List.length_nil]; omega) | (simp only [List.length_append,List.length_cons,List.length_nil]; omega)) (rfl)))) ?_
  refine And.intro (t_p hT hA (fun gh=>.string ⟨(kdW 1++[32]++p++[32]).toArray⟩) (fun gh w=>nX (op:=.add) (t:=9) (x:=(.tmp 19)) (y:=(.const (.string ⟨#[32]⟩))) (yt:=9) (va:=.string ⟨(kdW 1++[32]++p).toArray⟩) (vb:=.string ⟨([32]).toArray⟩) (by kernel_rfl) (by kernel_rfl) (by kernel_rfl) (by kernel_rfl) (oX (a:=kdW 1++[32]++p) (b:=[32]) (c:=kdW 1++[32]++p++[32]) (by first | omega | (simp only [List.length_cons,List.length_nil]; omega) | (simp only [List.length_append,List.length_cons,List.length_nil]; omega)) (rfl)))) ?_
  refine And.intro (t_p hT hA (fun gh=>.string ⟨(kdW 1++[32]++p++[32]++tyW 3).toArray⟩) (fun gh w=>nX (op:=.add) (t:=9) (x:=(.tmp 20)) (y:=(.tmp 24)) (yt:=9) (va:=.string ⟨(kdW 1++[32]++p++[32]).toArray⟩) (vb:=.string ⟨(tyW 3).toArray⟩) (by kernel_rfl) (by kernel_rfl) (by kernel_rfl) (by kernel_rfl) (oX (a:=kdW 1++[32]++p++[32]) (b:=tyW 3) (c:=kdW 1++[32]++p++[32]++tyW 3) (by first | omega | (simp only [List.length_cons,List.length_nil]; omega) | (simp only [List.length_append,List.length_cons,List.length_nil]; omega)) (rfl)))) ?_
  trivial
 rintro W4 S5 -
 refine go0 18 [.b 2 1] [] ?_
 refine hQ.to [.string ⟨(kdW 1++[32]++p++[32]++tyW 3).toArray⟩] (fun H sH=>?_)
 exact rfl
set_option maxHeartbeats 1000000 in
theorem fieldLine_21 (p:List UInt8) (x:Ex) (A:Option Addr) (na ca:Nat) (h:Vw) (lk:Lk h) (hnl:p.length≤10) (ha:IsArgs h x (.slice A na ca)) (hw:WfE x) (hz:(szE x).1≤60∧(szE x).2≤12) :
  C0 Tryz.prog 40 #[.agg #[.string (mkB p),.int .i64 2,.int .i64 1,.int .i64 x.op,.int .i64 x.k,.int .i64 x.n,.string x.s,.string x.nm,.slice A na ca]] h (fun r _=>r=.string (mkB (kdW 2++[32]++p++[32]++tyW 1++([32,61,32]++prt x 1)))):=by
 have hkl:(kdW 2).length≤7:=by decide
 have htl:(tyW 1).length≤4:=by decide
 have hP:=fun H q1 q2=>print_any x (.slice A na ca) H q1 hw q2 hz.1 hz.2
 have hpl:=zW _ x 1 (Nat.le_refl _) hw
 generalize prt x 1=q at *
 refine fQ Tryz.func40 (c:=Tryz.f40.body.getD .skip) (N:=40) ?_
 intro hbx hbad Q hQ
 refine go3 19 [.own,.cl 67 #[] (.tuple #[.agg #[Ve,.string ⟨#[105,110,116]⟩,.string ⟨#[98,111,111,108]⟩,.string ⟨#[116,101,120,116]⟩],.agg #[Ve,.string ⟨#[105,110,112,117,116]⟩,.string ⟨#[102,111,114,109,117,108,97]⟩,.string ⟨#[108,111,111,107,117,112]⟩]]),.own,.own,.b 1 0,.b 0 0] [] ?_ (ho:=(And.intro (fun H sH=>mY _) (trivial)))
 intro b1 b2 b3
 refine tQ 15 0 [.pu,.ld 2 1,.pu,.ld 0 2,.v (fun gh=>.string ⟨(kdW 2++[32]).toArray⟩),.pu,.ld 2 0,.v (fun gh=>.string ⟨(kdW 2++[32]++p).toArray⟩),.v (fun gh=>.string ⟨(kdW 2++[32]++p++[32]).toArray⟩),.pu,.ld 2 2,.pu,.ld 1 1,.v (fun gh=>.string ⟨(kdW 2++[32]++p++[32]++tyW 1).toArray⟩),.pu] [] (trivial) ?_ ?_
 ·intro R hT hA hmono
  refine And.intro (t_p hT hA (fun gh=>.string ⟨(kdW 2++[32]).toArray⟩) (fun gh w=>nX (op:=.add) (t:=9) (x:=(.tmp 15)) (y:=(.const (.string ⟨#[32]⟩))) (yt:=9) (va:=.string ⟨(kdW 2).toArray⟩) (vb:=.string ⟨([32]).toArray⟩) (by kernel_rfl) (by kernel_rfl) (by kernel_rfl) (by kernel_rfl) (oX (a:=kdW 2) (b:=[32]) (c:=kdW 2++[32]) (by first | omega | (simp only [List.length_cons,List.length_nil]; omega) | (simp only [List.length_append,List.length_cons,List.length_nil]; omega)) (rfl)))) ?_
  refine And.intro (t_p hT hA (fun gh=>.string ⟨(kdW 2++[32]++p).toArray⟩) (fun gh w=>nX (op:=.add) (t:=9) (x:=(.tmp 16)) (y:=(.tmp 18)) (yt:=9) (va:=.string ⟨(kdW 2++[32]).toArray⟩) (vb:=.string ⟨(p).toArray⟩) (by kernel_rfl) (by kernel_rfl) (by kernel_rfl) (by kernel_rfl) (oX (a:=kdW 2++[32]) (b:=p) (c:=kdW 2++[32]++p) (by first | omega | (simp only [List.length_cons,List.length_nil]; omega) | (simp only [List.length_append,List.length_cons,List.length_nil]; omega)) (rfl)))) ?_
  refine And.intro (t_p hT hA (fun gh=>.string ⟨(kdW 2++[32]++p++[32]).toArray⟩) (fun gh w=>nX (op:=.add) (t:=9) (x:=(.tmp 19)) (y:=(.const (.string ⟨#[32]⟩))) (yt:=9) (va:=.string ⟨(kdW 2++[32]++p).toArray⟩) (vb:=.string ⟨([32]).toArray⟩) (by kernel_rfl) (by kernel_rfl) (by kernel_rfl) (by kernel_rfl) (oX (a:=kdW 2++[32]++p) (b:=[32]) (c:=kdW 2++[32]++p++[32]) (by first | omega | (simp only [List.length_cons,List.length_nil]; omega) | (simp only [List.length_append,List.length_cons,List.length_nil]; omega)) (rfl)))) ?_
  refine And.intro (t_p hT hA (fun gh=>.string ⟨(kdW 2++[32]++p++[32]++tyW 1).toArray⟩) (fun gh w=>nX (op:=.add) (t:=9) (x:=(.tmp 20)) (y:=(.tmp 24)) (yt:=9) (va:=.string ⟨(kdW 2++[32]++p++[32]).toArray⟩) (vb:=.string ⟨(tyW 1).toArray⟩) (by kernel_rfl) (by kernel_rfl) (by kernel_rfl) (by kernel_rfl) (oX (a:=kdW 2++[32]++p++[32]) (b:=tyW 1) (c:=kdW 2++[32]++p++[32]++tyW 1) (by first | omega | (simp only [List.length_cons,List.length_nil]; omega) | (simp only [List.length_append,List.length_cons,List.length_nil]; omega)) (rfl)))) ?_
  trivial
 rintro W4 S5 -
 refine go0 27 [.b 2 1,.b 2 3,.cl 11 #[.agg #[Vi x.op,Vi x.k,Vi x.n,.string x.s,.string x.nm,.slice A na ca]] (.tuple #[.string ⟨q.toArray⟩,Vi 0])] [] ?_ (ho:=(And.intro (fun H sH=>hP _ (ha.sees (S5.trans sH)) (lk.sees (S5.trans sH))) (trivial)))
 refine qQ (.string ⟨(kdW 2++[32]++p++[32]++tyW 1++[32,61,32]).toArray⟩) (fun w=>nX (op:=.add) (t:=9) (x:=(.tmp 36)) (y:=(.const (.string ⟨#[32,61,32]⟩))) (yt:=9) (va:=.string ⟨(kdW 2++[32]++p++[32]++tyW 1).toArray⟩) (vb:=.string ⟨([32,61,32]).toArray⟩) (by kernel_rfl) (by kernel_rfl) (by kernel_rfl) (by kernel_rfl) (oX (a:=kdW 2++[32]++p++[32]++tyW 1) (b:=[32,61,32]) (c:=kdW 2++[32]++p++[32]++tyW 1++[32,61,32]) (by first | omega | (simp only [List.length_cons,List.length_nil]; omega) | (simp only [List.length_append,List.length_cons,List.length_nil]; omega)) (rfl))) ?_
 refine go0 1 [] [] ?_
 refine qQ (.string ⟨(kdW 2++[32]++p++[32]++tyW 1++([32,61,32]++q)).toArray⟩) (fun w=>nX (op:=.add) (t:=9) (x:=(.tmp 37)) (y:=(.tmp 38)) (yt:=9) (va:=.string ⟨(kdW 2++[32]++p++[32]++tyW 1++[32,61,32]).toArray⟩) (vb:=.string ⟨(q).toArray⟩) (by kernel_rfl) (by kernel_rfl) (by kernel_rfl) (by kernel_rfl) (oX (a:=kdW 2++[32]++p++[32]++tyW 1++[32,61,32]) (b:=q) (c:=kdW 2++[32]++p++[32]++tyW 1++([32,61,32]++q)) (by first | omega | (simp only [List.length_cons,List.length_nil]; omega) | (simp only [List.length_append,List.length_cons,List.length_nil]; omega)) (by simp))) ?_
 refine go0 4 [] [] ?_
 refine hQ.to [.string ⟨(kdW 2++[32]++p++[32]++tyW 1++([32,61,32]++q)).toArray⟩] (fun H sH=>?_)
 exact rfl
set_option maxHeartbeats 1000000 in
theorem fieldLine_22 (p:List UInt8) (x:Ex) (A:Option Addr) (na ca:Nat) (h:Vw) (lk:Lk h) (hnl:p.length≤10) (ha:IsArgs h x (.slice A na ca)) (hw:WfE x) (hz:(szE x).1≤60∧(szE x).2≤12) :
  C0 Tryz.prog 40 #[.agg #[.string (mkB p),.int .i64 2,.int .i64 2,.int .i64 x.op,.int .i64 x.k,.int .i64 x.n,.string x.s,.string x.nm,.slice A na ca]] h (fun r _=>r=.string (mkB (kdW 2++[32]++p++[32]++tyW 2++([32,61,32]++prt x 1)))):=by
 have hkl:(kdW 2).length≤7:=by decide
 have htl:(tyW 2).length≤4:=by decide
 have hP:=fun H q1 q2=>print_any x (.slice A na ca) H q1 hw q2 hz.1 hz.2
 have hpl:=zW _ x 1 (Nat.le_refl _) hw
 generalize prt x 1=q at *
 refine fQ Tryz.func40 (c:=Tryz.f40.body.getD .skip) (N:=40) ?_
 intro hbx hbad Q hQ
 refine go3 19 [.own,.cl 67 #[] (.tuple #[.agg #[Ve,.string ⟨#[105,110,116]⟩,.string ⟨#[98,111,111,108]⟩,.string ⟨#[116,101,120,116]⟩],.agg #[Ve,.string ⟨#[105,110,112,117,116]⟩,.string ⟨#[102,111,114,109,117,108,97]⟩,.string ⟨#[108,111,111,107,117,112]⟩]]),.own,.own,.b 1 0,.b 0 0] [] ?_ (ho:=(And.intro (fun H sH=>mY _) (trivial)))
 intro b1 b2 b3
 refine tQ 15 0 [.pu,.ld 2 1,.pu,.ld 0 2,.v (fun gh=>.string ⟨(kdW 2++[32]).toArray⟩),.pu,.ld 2 0,.v (fun gh=>.string ⟨(kdW 2++[32]++p).toArray⟩),.v (fun gh=>.string ⟨(kdW 2++[32]++p++[32]).toArray⟩),.pu,.ld 2 2,.pu,.ld 1 2,.v (fun gh=>.string ⟨(kdW 2++[32]++p++[32]++tyW 2).toArray⟩),.pu] [] (trivial) ?_ ?_
 ·intro R hT hA hmono
  refine And.intro (t_p hT hA (fun gh=>.string ⟨(kdW 2++[32]).toArray⟩) (fun gh w=>nX (op:=.add) (t:=9) (x:=(.tmp 15)) (y:=(.const (.string ⟨#[32]⟩))) (yt:=9) (va:=.string ⟨(kdW 2).toArray⟩) (vb:=.string ⟨([32]).toArray⟩) (by kernel_rfl) (by kernel_rfl) (by kernel_rfl) (by kernel_rfl) (oX (a:=kdW 2) (b:=[32]) (c:=kdW 2++[32]) (by first | omega | (simp only [List.length_cons,List.length_nil]; omega) | (simp only [List.length_append,List.length_cons,List.length_nil]; omega)) (rfl)))) ?_
  refine And.intro (t_p hT hA (fun gh=>.string ⟨(kdW 2++[32]++p).toArray⟩) (fun gh w=>nX (op:=.add) (t:=9) (x:=(.tmp 16)) (y:=(.tmp 18)) (yt:=9) (va:=.string ⟨(kdW 2++[32]).toArray⟩) (vb:=.string ⟨(p).toArray⟩) (by kernel_rfl) (by kernel_rfl) (by kernel_rfl) (by kernel_rfl) (oX (a:=kdW 2++[32]) (b:=p) (c:=kdW 2++[32]++p) (by first | omega | (simp only [List.length_cons,List.length_nil]; omega) | (simp only [List.length_append,List.length_cons,List.length_nil]; omega)) (rfl)))) ?_
  refine And.intro (t_p hT hA (fun gh=>.string ⟨(kdW 2++[32]++p++[32]).toArray⟩) (fun gh w=>nX (op:=.add) (t:=9) (x:=(.tmp 19)) (y:=(.const (.string ⟨#[32]⟩))) (yt:=9) (va:=.string ⟨(kdW 2++[32]++p).toArray⟩) (vb:=.string ⟨([32]).toArray⟩) (by kernel_rfl) (by kernel_rfl) (by kernel_rfl) (by kernel_rfl) (oX (a:=kdW 2++[32]++p) (b:=[32]) (c:=kdW 2++[32]++p++[32]) (by first | omega | (simp only [List.length_cons,List.length_nil]; omega) | (simp only [List.length_append,List.length_cons,List.length_nil]; omega)) (rfl)))) ?_
  refine And.intro (t_p hT hA (fun gh=>.string ⟨(kdW 2++[32]++p++[32]++tyW 2).toArray⟩) (fun gh w=>nX (op:=.add) (t:=9) (x:=(.tmp 20)) (y:=(.tmp 24)) (yt:=9) (va:=.string ⟨(kdW 2++[32]++p++[32]).toArray⟩) (vb:=.string ⟨(tyW 2).toArray⟩) (by kernel_rfl) (by kernel_rfl) (by kernel_rfl) (by kernel_rfl) (oX (a:=kdW 2++[32]++p++[32]) (b:=tyW 2) (c:=kdW 2++[32]++p++[32]++tyW 2) (by first | omega | (simp only [List.length_cons,List.length_nil]; omega) | (simp only [List.length_append,List.length_cons,List.length_nil]; omega)) (rfl)))) ?_
  trivial
 rintro W4 S5 -
 refine go0 27 [.b 2 1,.b 2 3,.cl 11 #[.agg #[Vi x.op,Vi x.k,Vi x.n,.string x.s,.string x.nm,.slice A na ca]] (.tuple #[.string ⟨q.toArray⟩,Vi 0])] [] ?_ (ho:=(And.intro (fun H sH=>hP _ (ha.sees (S5.trans sH)) (lk.sees (S5.trans sH))) (trivial)))
 refine qQ (.string ⟨(kdW 2++[32]++p++[32]++tyW 2++[32,61,32]).toArray⟩) (fun w=>nX (op:=.add) (t:=9) (x:=(.tmp 36)) (y:=(.const (.string ⟨#[32,61,32]⟩))) (yt:=9) (va:=.string ⟨(kdW 2++[32]++p++[32]++tyW 2).toArray⟩) (vb:=.string ⟨([32,61,32]).toArray⟩) (by kernel_rfl) (by kernel_rfl) (by kernel_rfl) (by kernel_rfl) (oX (a:=kdW 2++[32]++p++[32]++tyW 2) (b:=[32,61,32]) (c:=kdW 2++[32]++p++[32]++tyW 2++[32,61,32]) (by first | omega | (simp only [List.length_cons,List.length_nil]; omega) | (simp only [List.length_append,List.length_cons,List.length_nil]; omega)) (rfl))) ?_
 refine go0 1 [] [] ?_
 refine qQ (.string ⟨(kdW 2++[32]++p++[32]++tyW 2++([32,61,32]++q)).toArray⟩) (fun w=>nX (op:=.add) (t:=9) (x:=(.tmp 37)) (y:=(.tmp 38)) (yt:=9) (va:=.string ⟨(kdW 2++[32]++p++[32]++tyW 2++[32,61,32]).toArray⟩) (vb:=.string ⟨(q).toArray⟩) (by kernel_rfl) (by kernel_rfl) (by kernel_rfl) (by kernel_rfl) (oX (a:=kdW 2++[32]++p++[32]++tyW 2++[32,61,32]) (b:=q) (c:=kdW 2++[32]++p++[32]++tyW 2++([32,61,32]++q)) (by first | omega | (simp only [List.length_cons,List.length_nil]; omega) | (simp only [List.length_append,List.length_cons,List.length_nil]; omega)) (by simp))) ?_
 refine go0 4 [] [] ?_
 refine hQ.to [.string ⟨(kdW 2++[32]++p++[32]++tyW 2++([32,61,32]++q)).toArray⟩] (fun H sH=>?_)
 exact rfl
set_option maxHeartbeats 1000000 in
theorem fieldLine_23 (p:List UInt8) (x:Ex) (A:Option Addr) (na ca:Nat) (h:Vw) (lk:Lk h) (hnl:p.length≤10) (ha:IsArgs h x (.slice A na ca)) (hw:WfE x) (hz:(szE x).1≤60∧(szE x).2≤12) :
  C0 Tryz.prog 40 #[.agg #[.string (mkB p),.int .i64 2,.int .i64 3,.int .i64 x.op,.int .i64 x.k,.int .i64 x.n,.string x.s,.string x.nm,.slice A na ca]] h (fun r _=>r=.string (mkB (kdW 2++[32]++p++[32]++tyW 3++([32,61,32]++prt x 1)))):=by
 have hkl:(kdW 2).length≤7:=by decide
 have htl:(tyW 3).length≤4:=by decide
 have hP:=fun H q1 q2=>print_any x (.slice A na ca) H q1 hw q2 hz.1 hz.2
 have hpl:=zW _ x 1 (Nat.le_refl _) hw
 generalize prt x 1=q at *
 refine fQ Tryz.func40 (c:=Tryz.f40.body.getD .skip) (N:=40) ?_
 intro hbx hbad Q hQ
 refine go3 19 [.own,.cl 67 #[] (.tuple #[.agg #[Ve,.string ⟨#[105,110,116]⟩,.string ⟨#[98,111,111,108]⟩,.string ⟨#[116,101,120,116]⟩],.agg #[Ve,.string ⟨#[105,110,112,117,116]⟩,.string ⟨#[102,111,114,109,117,108,97]⟩,.string ⟨#[108,111,111,107,117,112]⟩]]),.own,.own,.b 1 0,.b 0 0] [] ?_ (ho:=(And.intro (fun H sH=>mY _) (trivial)))
 intro b1 b2 b3
 refine tQ 15 0 [.pu,.ld 2 1,.pu,.ld 0 2,.v (fun gh=>.string ⟨(kdW 2++[32]).toArray⟩),.pu,.ld 2 0,.v (fun gh=>.string ⟨(kdW 2++[32]++p).toArray⟩),.v (fun gh=>.string ⟨(kdW 2++[32]++p++[32]).toArray⟩),.pu,.ld 2 2,.pu,.ld 1 3,.v (fun gh=>.string ⟨(kdW 2++[32]++p++[32]++tyW 3).toArray⟩),.pu] [] (trivial) ?_ ?_
 ·intro R hT hA hmono
  refine And.intro (t_p hT hA (fun gh=>.string ⟨(kdW 2++[32]).toArray⟩) (fun gh w=>nX (op:=.add) (t:=9) (x:=(.tmp 15)) (y:=(.const (.string ⟨#[32]⟩))) (yt:=9) (va:=.string ⟨(kdW 2).toArray⟩) (vb:=.string ⟨([32]).toArray⟩) (by kernel_rfl) (by kernel_rfl) (by kernel_rfl) (by kernel_rfl) (oX (a:=kdW 2) (b:=[32]) (c:=kdW 2++[32]) (by first | omega | (simp only [List.length_cons,List.length_nil]; omega) | (simp only [List.length_append,List.length_cons,List.length_nil]; omega)) (rfl)))) ?_
  refine And.intro (t_p hT hA (fun gh=>.string ⟨(kdW 2++[32]++p).toArray⟩) (fun gh w=>nX (op:=.add) (t:=9) (x:=(.tmp 16)) (y:=(.tmp 18)) (yt:=9) (va:=.string ⟨(kdW 2++[32]).toArray⟩) (vb:=.string ⟨(p).toArray⟩) (by kernel_rfl) (by kernel_rfl) (by kernel_rfl) (by kernel_rfl) (oX (a:=kdW 2++[32]) (b:=p) (c:=kdW 2++[32]++p) (by first | omega | (simp only [List.length_cons,List.length_nil]; omega) | (simp only [List.length_append,List.length_cons,List.length_nil]; omega)) (rfl)))) ?_
  refine And.intro (t_p hT hA (fun gh=>.string ⟨(kdW 2++[32]++p++[32]).toArray⟩) (fun gh w=>nX (op:=.add) (t:=9) (x:=(.tmp 19)) (y:=(.const (.string ⟨#[32]⟩))) (yt:=9) (va:=.string ⟨(kdW 2++[32]++p).toArray⟩) (vb:=.string ⟨([32]).toArray⟩) (by kernel_rfl) (by kernel_rfl) (by kernel_rfl) (by kernel_rfl) (oX (a:=kdW 2++[32]++p) (b:=[32]) (c:=kdW 2++[32]++p++[32]) (by first | omega | (simp only [List.length_cons,List.length_nil]; omega) | (simp only [List.length_append,List.length_cons,List.length_nil]; omega)) (rfl)))) ?_
  refine And.intro (t_p hT hA (fun gh=>.string ⟨(kdW 2++[32]++p++[32]++tyW 3).toArray⟩) (fun gh w=>nX (op:=.add) (t:=9) (x:=(.tmp 20)) (y:=(.tmp 24)) (yt:=9) (va:=.string ⟨(kdW 2++[32]++p++[32]).toArray⟩) (vb:=.string ⟨(tyW 3).toArray⟩) (by kernel_rfl) (by kernel_rfl) (by kernel_rfl) (by kernel_rfl) (oX (a:=kdW 2++[32]++p++[32]) (b:=tyW 3) (c:=kdW 2++[32]++p++[32]++tyW 3) (by first | omega | (simp only [List.length_cons,List.length_nil]; omega) | (simp only [List.length_append,List.length_cons,List.length_nil]; omega)) (rfl)))) ?_
  trivial
 rintro W4 S5 -
 refine go0 27 [.b 2 1,.b 2 3,.cl 11 #[.agg #[Vi x.op,Vi x.k,Vi x.n,.string x.s,.string x.nm,.slice A na ca]] (.tuple #[.string ⟨q.toArray⟩,Vi 0])] [] ?_ (ho:=(And.intro (fun H sH=>hP _ (ha.sees (S5.trans sH)) (lk.sees (S5.trans sH))) (trivial)))
 refine qQ (.string ⟨(kdW 2++[32]++p++[32]++tyW 3++[32,61,32]).toArray⟩) (fun w=>nX (op:=.add) (t:=9) (x:=(.tmp 36)) (y:=(.const (.string ⟨#[32,61,32]⟩))) (yt:=9) (va:=.string ⟨(kdW 2++[32]++p++[32]++tyW 3).toArray⟩) (vb:=.string ⟨([32,61,32]).toArray⟩) (by kernel_rfl) (by kernel_rfl) (by kernel_rfl) (by kernel_rfl) (oX (a:=kdW 2++[32]++p++[32]++tyW 3) (b:=[32,61,32]) (c:=kdW 2++[32]++p++[32]++tyW 3++[32,61,32]) (by first | omega | (simp only [List.length_cons,List.length_nil]; omega) | (simp only [List.length_append,List.length_cons,List.length_nil]; omega)) (rfl))) ?_
 refine go0 1 [] [] ?_
 refine qQ (.string ⟨(kdW 2++[32]++p++[32]++tyW 3++([32,61,32]++q)).toArray⟩) (fun w=>nX (op:=.add) (t:=9) (x:=(.tmp 37)) (y:=(.tmp 38)) (yt:=9) (va:=.string ⟨(kdW 2++[32]++p++[32]++tyW 3++[32,61,32]).toArray⟩) (vb:=.string ⟨(q).toArray⟩) (by kernel_rfl) (by kernel_rfl) (by kernel_rfl) (by kernel_rfl) (oX (a:=kdW 2++[32]++p++[32]++tyW 3++[32,61,32]) (b:=q) (c:=kdW 2++[32]++p++[32]++tyW 3++([32,61,32]++q)) (by first | omega | (simp only [List.length_cons,List.length_nil]; omega) | (simp only [List.length_append,List.length_cons,List.length_nil]; omega)) (by simp))) ?_
 refine go0 4 [] [] ?_
 refine hQ.to [.string ⟨(kdW 2++[32]++p++[32]++tyW 3++([32,61,32]++q)).toArray⟩] (fun H sH=>?_)
 exact rfl
set_option maxHeartbeats 1000000 in
theorem fieldLine_31 (p:List UInt8) (x:Ex) (A:Option Addr) (na ca:Nat) (h:Vw) (lk:Lk h) (hnl:p.length≤10) (ha:IsArgs h x (.slice A na ca)) (hw:WfE x) (hz:(szE x).1≤60∧(szE x).2≤12) :
  C0 Tryz.prog 40 #[.agg #[.string (mkB p),.int .i64 3,.int .i64 1,.int .i64 x.op,.int .i64 x.k,.int .i64 x.n,.string x.s,.string x.nm,.slice A na ca]] h (fun r _=>r=.string (mkB (kdW 3++[32]++p++[32]++tyW 1++([32,61,32]++prt x 1)))):=by
 have hkl:(kdW 3).length≤7:=by decide
 have htl:(tyW 1).length≤4:=by decide
 have hP:=fun H q1 q2=>print_any x (.slice A na ca) H q1 hw q2 hz.1 hz.2
 have hpl:=zW _ x 1 (Nat.le_refl _) hw
 generalize prt x 1=q at *
 refine fQ Tryz.func40 (c:=Tryz.f40.body.getD .skip) (N:=40) ?_
 intro hbx hbad Q hQ
 refine go3 19 [.own,.cl 67 #[] (.tuple #[.agg #[Ve,.string ⟨#[105,110,116]⟩,.string ⟨#[98,111,111,108]⟩,.string ⟨#[116,101,120,116]⟩],.agg #[Ve,.string ⟨#[105,110,112,117,116]⟩,.string ⟨#[102,111,114,109,117,108,97]⟩,.string ⟨#[108,111,111,107,117,112]⟩]]),.own,.own,.b 1 0,.b 0 0] [] ?_ (ho:=(And.intro (fun H sH=>mY _) (trivial)))
 intro b1 b2 b3
 refine tQ 15 0 [.pu,.ld 2 1,.pu,.ld 0 3,.v (fun gh=>.string ⟨(kdW 3++[32]).toArray⟩),.pu,.ld 2 0,.v (fun gh=>.string ⟨(kdW 3++[32]++p).toArray⟩),.v (fun gh=>.string ⟨(kdW 3++[32]++p++[32]).toArray⟩),.pu,.ld 2 2,.pu,.ld 1 1,.v (fun gh=>.string ⟨(kdW 3++[32]++p++[32]++tyW 1).toArray⟩),.pu] [] (trivial) ?_ ?_
 ·intro R hT hA hmono
  refine And.intro (t_p hT hA (fun gh=>.string ⟨(kdW 3++[32]).toArray⟩) (fun gh w=>nX (op:=.add) (t:=9) (x:=(.tmp 15)) (y:=(.const (.string ⟨#[32]⟩))) (yt:=9) (va:=.string ⟨(kdW 3).toArray⟩) (vb:=.string ⟨([32]).toArray⟩) (by kernel_rfl) (by kernel_rfl) (by kernel_rfl) (by kernel_rfl) (oX (a:=kdW 3) (b:=[32]) (c:=kdW 3++[32]) (by first | omega | (simp only [List.length_cons,List.length_nil]; omega) | (simp only [List.length_append,List.length_cons,List.length_nil]; omega)) (rfl)))) ?_
  refine And.intro (t_p hT hA (fun gh=>.string ⟨(kdW 3++[32]++p).toArray⟩) (fun gh w=>nX (op:=.add) (t:=9) (x:=(.tmp 16)) (y:=(.tmp 18)) (yt:=9) (va:=.string ⟨(kdW 3++[32]).toArray⟩) (vb:=.string ⟨(p).toArray⟩) (by kernel_rfl) (by kernel_rfl) (by kernel_rfl) (by kernel_rfl) (oX (a:=kdW 3++[32]) (b:=p) (c:=kdW 3++[32]++p) (by first | omega | (simp only [List.length_cons,List.length_nil]; omega) | (simp only [List.length_append,List.length_cons,List.length_nil]; omega)) (rfl)))) ?_
  refine And.intro (t_p hT hA (fun gh=>.string ⟨(kdW 3++[32]++p++[32]).toArray⟩) (fun gh w=>nX (op:=.add) (t:=9) (x:=(.tmp 19)) (y:=(.const (.string ⟨#[32]⟩))) (yt:=9) (va:=.string ⟨(kdW 3++[32]++p).toArray⟩) (vb:=.string ⟨([32]).toArray⟩) (by kernel_rfl) (by kernel_rfl) (by kernel_rfl) (by kernel_rfl) (oX (a:=kdW 3++[32]++p) (b:=[32]) (c:=kdW 3++[32]++p++[32]) (by first | omega | (simp only [List.length_cons,List.length_nil]; omega) | (simp only [List.length_append,List.length_cons,List.length_nil]; omega)) (rfl)))) ?_
  refine And.intro (t_p hT hA (fun gh=>.string ⟨(kdW 3++[32]++p++[32]++tyW 1).toArray⟩) (fun gh w=>nX (op:=.add) (t:=9) (x:=(.tmp 20)) (y:=(.tmp 24)) (yt:=9) (va:=.string ⟨(kdW 3++[32]++p++[32]).toArray⟩) (vb:=.string ⟨(tyW 1).toArray⟩) (by kernel_rfl) (by kernel_rfl) (by kernel_rfl) (by kernel_rfl) (oX (a:=kdW 3++[32]++p++[32]) (b:=tyW 1) (c:=kdW 3++[32]++p++[32]++tyW 1) (by first | omega | (simp only [List.length_cons,List.length_nil]; omega) | (simp only [List.length_append,List.length_cons,List.length_nil]; omega)) (rfl)))) ?_
  trivial
 rintro W4 S5 -
 refine go0 27 [.b 2 1,.b 2 3,.cl 11 #[.agg #[Vi x.op,Vi x.k,Vi x.n,.string x.s,.string x.nm,.slice A na ca]] (.tuple #[.string ⟨q.toArray⟩,Vi 0])] [] ?_ (ho:=(And.intro (fun H sH=>hP _ (ha.sees (S5.trans sH)) (lk.sees (S5.trans sH))) (trivial)))
 refine qQ (.string ⟨(kdW 3++[32]++p++[32]++tyW 1++[32,61,32]).toArray⟩) (fun w=>nX (op:=.add) (t:=9) (x:=(.tmp 36)) (y:=(.const (.string ⟨#[32,61,32]⟩))) (yt:=9) (va:=.string ⟨(kdW 3++[32]++p++[32]++tyW 1).toArray⟩) (vb:=.string ⟨([32,61,32]).toArray⟩) (by kernel_rfl) (by kernel_rfl) (by kernel_rfl) (by kernel_rfl) (oX (a:=kdW 3++[32]++p++[32]++tyW 1) (b:=[32,61,32]) (c:=kdW 3++[32]++p++[32]++tyW 1++[32,61,32]) (by first | omega | (simp only [List.length_cons,List.length_nil]; omega) | (simp only [List.length_append,List.length_cons,List.length_nil]; omega)) (rfl))) ?_
 refine go0 1 [] [] ?_
 refine qQ (.string ⟨(kdW 3++[32]++p++[32]++tyW 1++([32,61,32]++q)).toArray⟩) (fun w=>nX (op:=.add) (t:=9) (x:=(.tmp 37)) (y:=(.tmp 38)) (yt:=9) (va:=.string ⟨(kdW 3++[32]++p++[32]++tyW 1++[32,61,32]).toArray⟩) (vb:=.string ⟨(q).toArray⟩) (by kernel_rfl) (by kernel_rfl) (by kernel_rfl) (by kernel_rfl) (oX (a:=kdW 3++[32]++p++[32]++tyW 1++[32,61,32]) (b:=q) (c:=kdW 3++[32]++p++[32]++tyW 1++([32,61,32]++q)) (by first | omega | (simp only [List.length_cons,List.length_nil]; omega) | (simp only [List.length_append,List.length_cons,List.length_nil]; omega)) (by simp))) ?_
 refine go0 4 [] [] ?_
 refine hQ.to [.string ⟨(kdW 3++[32]++p++[32]++tyW 1++([32,61,32]++q)).toArray⟩] (fun H sH=>?_)
 exact rfl
set_option maxHeartbeats 1000000 in
theorem fieldLine_32 (p:List UInt8) (x:Ex) (A:Option Addr) (na ca:Nat) (h:Vw) (lk:Lk h) (hnl:p.length≤10) (ha:IsArgs h x (.slice A na ca)) (hw:WfE x) (hz:(szE x).1≤60∧(szE x).2≤12) :
  C0 Tryz.prog 40 #[.agg #[.string (mkB p),.int .i64 3,.int .i64 2,.int .i64 x.op,.int .i64 x.k,.int .i64 x.n,.string x.s,.string x.nm,.slice A na ca]] h (fun r _=>r=.string (mkB (kdW 3++[32]++p++[32]++tyW 2++([32,61,32]++prt x 1)))):=by
 have hkl:(kdW 3).length≤7:=by decide
 have htl:(tyW 2).length≤4:=by decide
 have hP:=fun H q1 q2=>print_any x (.slice A na ca) H q1 hw q2 hz.1 hz.2
 have hpl:=zW _ x 1 (Nat.le_refl _) hw
 generalize prt x 1=q at *
 refine fQ Tryz.func40 (c:=Tryz.f40.body.getD .skip) (N:=40) ?_
 intro hbx hbad Q hQ
 refine go3 19 [.own,.cl 67 #[] (.tuple #[.agg #[Ve,.string ⟨#[105,110,116]⟩,.string ⟨#[98,111,111,108]⟩,.string ⟨#[116,101,120,116]⟩],.agg #[Ve,.string ⟨#[105,110,112,117,116]⟩,.string ⟨#[102,111,114,109,117,108,97]⟩,.string ⟨#[108,111,111,107,117,112]⟩]]),.own,.own,.b 1 0,.b 0 0] [] ?_ (ho:=(And.intro (fun H sH=>mY _) (trivial)))
 intro b1 b2 b3
 refine tQ 15 0 [.pu,.ld 2 1,.pu,.ld 0 3,.v (fun gh=>.string ⟨(kdW 3++[32]).toArray⟩),.pu,.ld 2 0,.v (fun gh=>.string ⟨(kdW 3++[32]++p).toArray⟩),.v (fun gh=>.string ⟨(kdW 3++[32]++p++[32]).toArray⟩),.pu,.ld 2 2,.pu,.ld 1 2,.v (fun gh=>.string ⟨(kdW 3++[32]++p++[32]++tyW 2).toArray⟩),.pu] [] (trivial) ?_ ?_
 ·intro R hT hA hmono
  refine And.intro (t_p hT hA (fun gh=>.string ⟨(kdW 3++[32]).toArray⟩) (fun gh w=>nX (op:=.add) (t:=9) (x:=(.tmp 15)) (y:=(.const (.string ⟨#[32]⟩))) (yt:=9) (va:=.string ⟨(kdW 3).toArray⟩) (vb:=.string ⟨([32]).toArray⟩) (by kernel_rfl) (by kernel_rfl) (by kernel_rfl) (by kernel_rfl) (oX (a:=kdW 3) (b:=[32]) (c:=kdW 3++[32]) (by first | omega | (simp only [List.length_cons,List.length_nil]; omega) | (simp only [List.length_append,List.length_cons,List.length_nil]; omega)) (rfl)))) ?_
  refine And.intro (t_p hT hA (fun gh=>.string ⟨(kdW 3++[32]++p).toArray⟩) (fun gh w=>nX (op:=.add) (t:=9) (x:=(.tmp 16)) (y:=(.tmp 18)) (yt:=9) (va:=.string ⟨(kdW 3++[32]).toArray⟩) (vb:=.string ⟨(p).toArray⟩) (by kernel_rfl) (by kernel_rfl) (by kernel_rfl) (by kernel_rfl) (oX (a:=kdW 3++[32]) (b:=p) (c:=kdW 3++[32]++p) (by first | omega | (simp only [List.length_cons,List.length_nil]; omega) | (simp only [List.length_append,List.length_cons,List.length_nil]; omega)) (rfl)))) ?_
  refine And.intro (t_p hT hA (fun gh=>.string ⟨(kdW 3++[32]++p++[32]).toArray⟩) (fun gh w=>nX (op:=.add) (t:=9) (x:=(.tmp 19)) (y:=(.const (.string ⟨#[32]⟩))) (yt:=9) (va:=.string ⟨(kdW 3++[32]++p).toArray⟩) (vb:=.string ⟨([32]).toArray⟩) (by kernel_rfl) (by kernel_rfl) (by kernel_rfl) (by kernel_rfl) (oX (a:=kdW 3++[32]++p) (b:=[32]) (c:=kdW 3++[32]++p++[32]) (by first | omega | (simp only [List.length_cons,List.length_nil]; omega) | (simp only [List.length_append,List.length_cons,List.length_nil]; omega)) (rfl)))) ?_
  refine And.intro (t_p hT hA (fun gh=>.string ⟨(kdW 3++[32]++p++[32]++tyW 2).toArray⟩) (fun gh w=>nX (op:=.add) (t:=9) (x:=(.tmp 20)) (y:=(.tmp 24)) (yt:=9) (va:=.string ⟨(kdW 3++[32]++p++[32]).toArray⟩) (vb:=.string ⟨(tyW 2).toArray⟩) (by kernel_rfl) (by kernel_rfl) (by kernel_rfl) (by kernel_rfl) (oX (a:=kdW 3++[32]++p++[32]) (b:=tyW 2) (c:=kdW 3++[32]++p++[32]++tyW 2) (by first | omega | (simp only [List.length_cons,List.length_nil]; omega) | (simp only [List.length_append,List.length_cons,List.length_nil]; omega)) (rfl)))) ?_
  trivial
 rintro W4 S5 -
 refine go0 27 [.b 2 1,.b 2 3,.cl 11 #[.agg #[Vi x.op,Vi x.k,Vi x.n,.string x.s,.string x.nm,.slice A na ca]] (.tuple #[.string ⟨q.toArray⟩,Vi 0])] [] ?_ (ho:=(And.intro (fun H sH=>hP _ (ha.sees (S5.trans sH)) (lk.sees (S5.trans sH))) (trivial)))
 refine qQ (.string ⟨(kdW 3++[32]++p++[32]++tyW 2++[32,61,32]).toArray⟩) (fun w=>nX (op:=.add) (t:=9) (x:=(.tmp 36)) (y:=(.const (.string ⟨#[32,61,32]⟩))) (yt:=9) (va:=.string ⟨(kdW 3++[32]++p++[32]++tyW 2).toArray⟩) (vb:=.string ⟨([32,61,32]).toArray⟩) (by kernel_rfl) (by kernel_rfl) (by kernel_rfl) (by kernel_rfl) (oX (a:=kdW 3++[32]++p++[32]++tyW 2) (b:=[32,61,32]) (c:=kdW 3++[32]++p++[32]++tyW 2++[32,61,32]) (by first | omega | (simp only [List.length_cons,List.length_nil]; omega) | (simp only [List.length_append,List.length_cons,List.length_nil]; omega)) (rfl))) ?_
 refine go0 1 [] [] ?_
 refine qQ (.string ⟨(kdW 3++[32]++p++[32]++tyW 2++([32,61,32]++q)).toArray⟩) (fun w=>nX (op:=.add) (t:=9) (x:=(.tmp 37)) (y:=(.tmp 38)) (yt:=9) (va:=.string ⟨(kdW 3++[32]++p++[32]++tyW 2++[32,61,32]).toArray⟩) (vb:=.string ⟨(q).toArray⟩) (by kernel_rfl) (by kernel_rfl) (by kernel_rfl) (by kernel_rfl) (oX (a:=kdW 3++[32]++p++[32]++tyW 2++[32,61,32]) (b:=q) (c:=kdW 3++[32]++p++[32]++tyW 2++([32,61,32]++q)) (by first | omega | (simp only [List.length_cons,List.length_nil]; omega) | (simp only [List.length_append,List.length_cons,List.length_nil]; omega)) (by simp))) ?_
 refine go0 4 [] [] ?_
 refine hQ.to [.string ⟨(kdW 3++[32]++p++[32]++tyW 2++([32,61,32]++q)).toArray⟩] (fun H sH=>?_)
 exact rfl
set_option maxHeartbeats 1000000 in
theorem fieldLine_33 (p:List UInt8) (x:Ex) (A:Option Addr) (na ca:Nat) (h:Vw) (lk:Lk h) (hnl:p.length≤10) (ha:IsArgs h x (.slice A na ca)) (hw:WfE x) (hz:(szE x).1≤60∧(szE x).2≤12) :
  C0 Tryz.prog 40 #[.agg #[.string (mkB p),.int .i64 3,.int .i64 3,.int .i64 x.op,.int .i64 x.k,.int .i64 x.n,.string x.s,.string x.nm,.slice A na ca]] h (fun r _=>r=.string (mkB (kdW 3++[32]++p++[32]++tyW 3++([32,61,32]++prt x 1)))):=by
 have hkl:(kdW 3).length≤7:=by decide
 have htl:(tyW 3).length≤4:=by decide
 have hP:=fun H q1 q2=>print_any x (.slice A na ca) H q1 hw q2 hz.1 hz.2
 have hpl:=zW _ x 1 (Nat.le_refl _) hw
 generalize prt x 1=q at *
 refine fQ Tryz.func40 (c:=Tryz.f40.body.getD .skip) (N:=40) ?_
 intro hbx hbad Q hQ
 refine go3 19 [.own,.cl 67 #[] (.tuple #[.agg #[Ve,.string ⟨#[105,110,116]⟩,.string ⟨#[98,111,111,108]⟩,.string ⟨#[116,101,120,116]⟩],.agg #[Ve,.string ⟨#[105,110,112,117,116]⟩,.string ⟨#[102,111,114,109,117,108,97]⟩,.string ⟨#[108,111,111,107,117,112]⟩]]),.own,.own,.b 1 0,.b 0 0] [] ?_ (ho:=(And.intro (fun H sH=>mY _) (trivial)))
 intro b1 b2 b3
 refine tQ 15 0 [.pu,.ld 2 1,.pu,.ld 0 3,.v (fun gh=>.string ⟨(kdW 3++[32]).toArray⟩),.pu,.ld 2 0,.v (fun gh=>.string ⟨(kdW 3++[32]++p).toArray⟩),.v (fun gh=>.string ⟨(kdW 3++[32]++p++[32]).toArray⟩),.pu,.ld 2 2,.pu,.ld 1 3,.v (fun gh=>.string ⟨(kdW 3++[32]++p++[32]++tyW 3).toArray⟩),.pu] [] (trivial) ?_ ?_
 ·intro R hT hA hmono
  refine And.intro (t_p hT hA (fun gh=>.string ⟨(kdW 3++[32]).toArray⟩) (fun gh w=>nX (op:=.add) (t:=9) (x:=(.tmp 15)) (y:=(.const (.string ⟨#[32]⟩))) (yt:=9) (va:=.string ⟨(kdW 3).toArray⟩) (vb:=.string ⟨([32]).toArray⟩) (by kernel_rfl) (by kernel_rfl) (by kernel_rfl) (by kernel_rfl) (oX (a:=kdW 3) (b:=[32]) (c:=kdW 3++[32]) (by first | omega | (simp only [List.length_cons,List.length_nil]; omega) | (simp only [List.length_append,List.length_cons,List.length_nil]; omega)) (rfl)))) ?_
  refine And.intro (t_p hT hA (fun gh=>.string ⟨(kdW 3++[32]++p).toArray⟩) (fun gh w=>nX (op:=.add) (t:=9) (x:=(.tmp 16)) (y:=(.tmp 18)) (yt:=9) (va:=.string ⟨(kdW 3++[32]).toArray⟩) (vb:=.string ⟨(p).toArray⟩) (by kernel_rfl) (by kernel_rfl) (by kernel_rfl) (by kernel_rfl) (oX (a:=kdW 3++[32]) (b:=p) (c:=kdW 3++[32]++p) (by first | omega | (simp only [List.length_cons,List.length_nil]; omega) | (simp only [List.length_append,List.length_cons,List.length_nil]; omega)) (rfl)))) ?_
  refine And.intro (t_p hT hA (fun gh=>.string ⟨(kdW 3++[32]++p++[32]).toArray⟩) (fun gh w=>nX (op:=.add) (t:=9) (x:=(.tmp 19)) (y:=(.const (.string ⟨#[32]⟩))) (yt:=9) (va:=.string ⟨(kdW 3++[32]++p).toArray⟩) (vb:=.string ⟨([32]).toArray⟩) (by kernel_rfl) (by kernel_rfl) (by kernel_rfl) (by kernel_rfl) (oX (a:=kdW 3++[32]++p) (b:=[32]) (c:=kdW 3++[32]++p++[32]) (by first | omega | (simp only [List.length_cons,List.length_nil]; omega) | (simp only [List.length_append,List.length_cons,List.length_nil]; omega)) (rfl)))) ?_
  refine And.intro (t_p hT hA (fun gh=>.string ⟨(kdW 3++[32]++p++[32]++tyW 3).toArray⟩) (fun gh w=>nX (op:=.add) (t:=9) (x:=(.tmp 20)) (y:=(.tmp 24)) (yt:=9) (va:=.string ⟨(kdW 3++[32]++p++[32]).toArray⟩) (vb:=.string ⟨(tyW 3).toArray⟩) (by kernel_rfl) (by kernel_rfl) (by kernel_rfl) (by kernel_rfl) (oX (a:=kdW 3++[32]++p++[32]) (b:=tyW 3) (c:=kdW 3++[32]++p++[32]++tyW 3) (by first | omega | (simp only [List.length_cons,List.length_nil]; omega) | (simp only [List.length_append,List.length_cons,List.length_nil]; omega)) (rfl)))) ?_
  trivial
 rintro W4 S5 -
 refine go0 27 [.b 2 1,.b 2 3,.cl 11 #[.agg #[Vi x.op,Vi x.k,Vi x.n,.string x.s,.string x.nm,.slice A na ca]] (.tuple #[.string ⟨q.toArray⟩,Vi 0])] [] ?_ (ho:=(And.intro (fun H sH=>hP _ (ha.sees (S5.trans sH)) (lk.sees (S5.trans sH))) (trivial)))
 refine qQ (.string ⟨(kdW 3++[32]++p++[32]++tyW 3++[32,61,32]).toArray⟩) (fun w=>nX (op:=.add) (t:=9) (x:=(.tmp 36)) (y:=(.const (.string ⟨#[32,61,32]⟩))) (yt:=9) (va:=.string ⟨(kdW 3++[32]++p++[32]++tyW 3).toArray⟩) (vb:=.string ⟨([32,61,32]).toArray⟩) (by kernel_rfl) (by kernel_rfl) (by kernel_rfl) (by kernel_rfl) (oX (a:=kdW 3++[32]++p++[32]++tyW 3) (b:=[32,61,32]) (c:=kdW 3++[32]++p++[32]++tyW 3++[32,61,32]) (by first | omega | (simp only [List.length_cons,List.length_nil]; omega) | (simp only [List.length_append,List.length_cons,List.length_nil]; omega)) (rfl))) ?_
 refine go0 1 [] [] ?_
 refine qQ (.string ⟨(kdW 3++[32]++p++[32]++tyW 3++([32,61,32]++q)).toArray⟩) (fun w=>nX (op:=.add) (t:=9) (x:=(.tmp 37)) (y:=(.tmp 38)) (yt:=9) (va:=.string ⟨(kdW 3++[32]++p++[32]++tyW 3++[32,61,32]).toArray⟩) (vb:=.string ⟨(q).toArray⟩) (by kernel_rfl) (by kernel_rfl) (by kernel_rfl) (by kernel_rfl) (oX (a:=kdW 3++[32]++p++[32]++tyW 3++[32,61,32]) (b:=q) (c:=kdW 3++[32]++p++[32]++tyW 3++([32,61,32]++q)) (by first | omega | (simp only [List.length_cons,List.length_nil]; omega) | (simp only [List.length_append,List.length_cons,List.length_nil]; omega)) (by simp))) ?_
 refine go0 4 [] [] ?_
 refine hQ.to [.string ⟨(kdW 3++[32]++p++[32]++tyW 3++([32,61,32]++q)).toArray⟩] (fun H sH=>?_)
 exact rfl
theorem fieldLine_any (f:Fd) (v:Value) (h:Vw) (hf:FdW f) (lk:Lk h) (ha:IsArgs h f.src v) (hz:f.kind≠1→(szE f.src).1≤60∧(szE f.src).2≤12) :
  C0 Tryz.prog 40 #[.agg #[.string f.name,.int .i64 f.kind,.int .i64 f.ty,.int .i64 f.src.op,.int .i64 f.src.k,.int .i64 f.src.n,.string f.src.s,.string f.src.nm,v]] h (fun r _=>r=.string (mkB (fdL f))):=by
 obtain ⟨A,na,ca,rfl⟩:=ha.slice
 obtain ⟨nm,kd,ty,x⟩:=f
 have hnl:=hf.nm.2.1
 have hk1:=hf.k1
 have hk3:=hf.k3
 have ht1:=hf.t1
 have ht3:=hf.t3
 have hwf:=hf.wf
 simp only at hnl hk1 hk3 ht1 ht3 hwf hz ha ⊢
 have hnm:nm=mkB nm.data.toList:=mkB_eq rfl
 have hfd:fdF ⟨nm,kd,ty,x⟩=kdW kd++[32]++nm.data.toList++[32]++tyW ty:=by unfold fdF; simp
 unfold fdL
 rw [hfd]
 simp only
 rw [hnm,oV]
 generalize nm.data.toList=p at *
 clear hnm hfd hf
 obtain rfl | rfl | rfl:kd=1∨kd=2∨kd=3:=by omega
 ·rw [if_pos rfl]
  obtain rfl | rfl | rfl:ty=1∨ty=2∨ty=3:=by omega
  ·exact fieldLine_11 p x A na ca h lk hnl
  ·exact fieldLine_12 p x A na ca h lk hnl
  ·exact fieldLine_13 p x A na ca h lk hnl
 ·rw [if_neg (by decide)]
  obtain rfl | rfl | rfl:ty=1∨ty=2∨ty=3:=by omega
  ·exact fieldLine_21 p x A na ca h lk hnl ha (hwf (by decide)) (hz (by decide))
  ·exact fieldLine_22 p x A na ca h lk hnl ha (hwf (by decide)) (hz (by decide))
  ·exact fieldLine_23 p x A na ca h lk hnl ha (hwf (by decide)) (hz (by decide))
 ·rw [if_neg (by decide)]
  obtain rfl | rfl | rfl:ty=1∨ty=2∨ty=3:=by omega
  ·exact fieldLine_31 p x A na ca h lk hnl ha (hwf (by decide)) (hz (by decide))
  ·exact fieldLine_32 p x A na ca h lk hnl ha (hwf (by decide)) (hz (by decide))
  ·exact fieldLine_33 p x A na ca h lk hnl ha (hwf (by decide)) (hz (by decide))
end Go.Proofs.YthplkompdehjlaaGreatDoor
namespace Go.Proofs.YthplkompdehjlaaGreatDoor
open Go.RowKit
set_option linter.unusedVariables false
theorem c_cut (s sep:ByteArray) (a b:List UInt8) (f:Bool) (h:Vw) (lk:Lk h) (hs:s.size < 4294967281) (e:Lib.cut s.data.toList sep.data.toList=(a,b,f)) :
  C0 Tryz.prog 64 #[.string s,.string sep] h (fun r _=>r=.tuple #[.string (mkB a),.string (mkB b),.bool f]):=by
 obtain ⟨m,hm⟩:=lk.mx
 refine C0.at_ ((Tryz.strings_Cut s sep m h.w hs hm.one).mono fun e' w' ⟨he,n,hw⟩=>⟨?_,by rw [hw]; exact below_drewN (Below.refl _ _) _⟩)
 rw [he,e]; rfl
theorem c_cutp (s p:ByteArray) (h:Vw):C0 Tryz.prog 33 #[.string s,.string p] h (fun r _=>r=.tuple #[.string (mkB (Lib.trimPrefix s.data.toList p.data.toList)),.bool (Lib.hasPrefix s.data.toList p.data.toList)]) :=
 C0.at_ ((Tryz.strings_CutPrefix s p h.w).mono fun e w' ⟨he,hw⟩=>⟨he,by rw [hw]; exact Below.refl _ _⟩)
theorem splitB_list (sep s:ByteArray) (l:List (List UInt8)) (e:Lib.split s.data.toList sep.data.toList=l):Lib.splitB sep 0 (Lib.countB s sep) s=l.map mkB:=by
 have h:=Lib.splitB_data sep 0 (Lib.countB s sep) s
 have e2:Lib.splitK sep.data.toList 0 (Lib.countB s sep) s.data.toList=l:=e
 rw [e2] at h
 rw [← h,List.map_map]
 refine (List.map_id'' (fun x=>?_) _).symm
 exact (mkB_eq rfl).symm
theorem c_splitC (s sep:ByteArray) (l:List (List UInt8)) (h:Vw) (lk:Lk h) (hs:s.size < 4294967281) (h1:1≤sep.size) (e:Lib.split s.data.toList sep.data.toList=l) :
  C0 Tryz.prog 19 #[.string s,.string sep] h (fun r h'=>∃ b,r=.slice (some ⟨b,0,none⟩) l.length l.length∧Cells h' b 0 (l.map fun x=>Value.string (mkB x))):=by
 obtain ⟨m,hm⟩:=lk.mx
 intro _ _ _ hbad
 refine (Tryz.strings_Split s sep m h.w hs hm.one h1).mono ?_
 rintro e' w' ⟨rfl,rfl⟩
 have hsp:=splitB_list sep s l e
 have hlen:=Lib.splitB_all sep h1 0 _ s rfl
 rw [hsp,List.length_map] at hlen
 rw [hsp,← hlen]
 refine ⟨_,[],rfl,Low.of_below (Below.alloc (Below.refl _ _) (Nat.le_refl _) _),(fun x hx=>by cases hx),rfl,h.w.heap.size,rfl,?_⟩
 refine ⟨by simp,fun q=>absurd (hbad _ q) (Nat.lt_irrefl _),fun j v hj=>?_⟩
 rw [Nat.zero_add,World.cell?_alloc_new,List.map_map,List.getElem?_toArray]
 exact hj
end Go.Proofs.YthplkompdehjlaaGreatDoor
