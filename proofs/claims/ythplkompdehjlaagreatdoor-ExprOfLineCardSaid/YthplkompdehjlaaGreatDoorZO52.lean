/-
  For all raw things and numbers ExprOfLine returns true: a field's line is read as the field that it was printed of, or answers that its formula is too long. No condition beyond the card's own.
-/
import Derived.Test.YthplkompdehjlaaGreatDoorZO9
import Derived.Test.YthplkompdehjlaaGreatDoorZO44
import Derived.Test.YthplkompdehjlaaGreatDoorZO37
import Derived.Test.YthplkompdehjlaaGreatDoorZO51
set_option maxRecDepth 100000
namespace Go.Proofs.YthplkompdehjlaaGreatDoor
open Go.RowKit
set_option linter.unusedVariables false
def fmO (x:Ex) (t:Int):Fm:=⟨[⟨⟨#[97]⟩,2,t,x⟩],[⟨⟨#[112]⟩,[⟨#[97]⟩],zE⟩]⟩
theorem line_text (x:Ex) (t:Int):Lib.join (lnF (fmO x t)) [10]=[102,111,114,109,117,108,97,32,97,32]++tyW t++[32,61,32]++prt x 1++[10,112,97,103,101,32,112,58,32,97]:=by
 have e:lnF (fmO x t)=[fdL ⟨⟨#[97]⟩,2,t,x⟩,pgW++pgL ⟨⟨#[112]⟩,[⟨#[97]⟩],zE⟩]:=rfl
 have e1:fdL ⟨⟨#[97]⟩,2,t,x⟩=[102,111,114,109,117,108,97]++32 :: ([97]++32 :: tyW t)++([32,61,32]++prt x 1):=rfl
 have e2:pgW++pgL ⟨⟨#[112]⟩,[⟨#[97]⟩],zE⟩=[112,97,103,101,32,112,58,32,97]:=by decide
 rw [e,gQ,Lib.join_one,e1,e2]
 simp
theorem nameA:jJ (⟨#[97]⟩:ByteArray).data.toList:=⟨by decide,by decide,⟨_,rfl,by decide⟩,by decide,by decide⟩
theorem nameP:jJ (⟨#[112]⟩:ByteArray).data.toList:=⟨by decide,by decide,⟨_,rfl,by decide⟩,by decide,by decide⟩
theorem one_ok (x:Ex) (t:Int) (t1:1≤t) (t3:t≤3) (g1:WfE x) (g4:(szE x).1≤40) (g5:(szE x).2≤4) (hty:∀ g,tyE g x=(t,0)) (hnm:∀ s∈qV x,∃ f∈([]:List Fd),s=f.name):OkFm (fmO x t) [0] (fun _=>0)∧FmW (fmO x t):=by
 have hne:pQ x=[]:=List.eq_nil_iff_forall_not_mem.2 fun s hs=>by
  obtain ⟨f,hf,-⟩:=hnm s (mem_namesE.1 hs)
  cases hf
 have hneed:sQ (fmO x t).fields=[[]]:=by
  show [needE _ _]=_
  unfold needE
  rw [if_neg (by show ¬ (2:Int)=1; decide)]
  show [(pQ x).map _]=_
  rw [hne]; rfl
 refine ⟨⟨⟨fun f hf=>?_,by simp [fmO],by simp [fmO]⟩,⟨by simp [fmO],by simp [fmO],fun p hp=>?_,by simp [fmO],fun p hp=>?_,fun p hp s hs=>?_,by simp [fmO],fun p hp=>?_⟩,⟨by rw [hneed]; rfl,fun i hi=>?_,fun i hi=>?_,fun i hi=>?_⟩⟩,⟨fun f hf _=>?_,fun p hp=>?_,fun p hp=>?_⟩⟩
 ·obtain rfl:f=⟨⟨#[97]⟩,2,t,x⟩:=List.mem_singleton.1 hf
  exact ⟨nameA,by show (1:Int)≤2; decide,by show (2:Int)≤3; decide,t1,t3,fun q=>absurd q (by show ¬ (2:Int)=1; decide),fun _=>⟨g1,by show (szE x).1≤60; omega,by show chkE x=0; unfold chkE; rw [if_neg (by omega),if_neg (by omega)]⟩,fun _=>hty _,fun q=>absurd q (by show ¬ (2:Int)=3; decide)⟩
 ·obtain rfl:p=⟨⟨#[112]⟩,[⟨#[97]⟩],zE⟩:=List.mem_singleton.1 hp
  exact nameP
 ·obtain rfl:p=⟨⟨#[112]⟩,[⟨#[97]⟩],zE⟩:=List.mem_singleton.1 hp
  show 1≤100; decide
 ·obtain rfl:p=⟨⟨#[112]⟩,[⟨#[97]⟩],zE⟩:=List.mem_singleton.1 hp
  obtain rfl:s=⟨#[97]⟩:=List.mem_singleton.1 hs
  unfold cK
  rw [fidx_found (fun f:Fd=>f.name.toList == (⟨#[97]⟩:ByteArray).toList) (fmO x t).fields 0 ⟨⟨#[97]⟩,2,t,x⟩ (fun y hy=>by simp at hy) rfl (beq_self_eq_true _)]
  exact Int.le_refl 0
 ·obtain rfl:p=⟨⟨#[112]⟩,[⟨#[97]⟩],zE⟩:=List.mem_singleton.1 hp
  exact .inl rfl
 ·rw [hneed] at hi ⊢
  obtain rfl:i=0:=by simp at hi; omega
  rfl
 ·rw [hneed] at hi ⊢
  obtain rfl:i=0:=by simp at hi; omega
  intro k hk; cases hk
 ·rw [hneed] at hi ⊢
  exact by simp
 ·obtain rfl:f=⟨⟨#[97]⟩,2,t,x⟩:=List.mem_singleton.1 hf
  show (szE x).2≤12; omega
 ·obtain rfl:p=⟨⟨#[112]⟩,[⟨#[97]⟩],zE⟩:=List.mem_singleton.1 hp
  exact ⟨nameP,fun s hs=>by obtain rfl:s=⟨#[97]⟩:=List.mem_singleton.1 hs; exact nameA,by show 1≤100; decide,.inl rfl⟩
 ·obtain rfl:p=⟨⟨#[112]⟩,[⟨#[97]⟩],zE⟩:=List.mem_singleton.1 hp
  exact List.cons_ne_nil _ _
theorem line_long (x:Ex) (t:Int) (t1:1≤t) (t3:t≤3) (g1:WfE x) (g4:(szE x).1≤40) (g5:(szE x).2≤4) (hty:∀ g,tyE g x=(t,0)) (hnm:∀ s∈qV x,∃ f∈([]:List Fd),s=f.name) (H:Vw) (lk:Lk H) (hl:160 < (prt x 1).length) :
  C0 Tryz.prog 14 #[.string (mkB (Lib.join (lnF (fmO x t)) [10]))] H (fun r _=>∃ n,r=.tuple #[.agg #[.slice none 0 0,.slice none 0 0],.int .i64 n,.int .i64 1]):=by
 obtain ⟨o1,o2⟩:=one_ok x t t1 t3 g1 g4 g5 hty hnm
 refine (read_any _ _ _ H lk o1 o2 (by show 1≤1; decide)).mono fun v h' _ k=>?_
 rcases k with ⟨-,k⟩ | ⟨k,-⟩
 ·exact k
 ·exact absurd ⟨by show ¬ (2:Int)=1; decide,hl⟩ (k ⟨⟨#[97]⟩,2,t,x⟩ (List.mem_singleton.2 rfl))
theorem line_short (x:Ex) (t:Int) (t1:1≤t) (t3:t≤3) (g1:WfE x) (g4:(szE x).1≤40) (g5:(szE x).2≤4) (hty:∀ g,tyE g x=(t,0)) (hnm:∀ s∈qV x,∃ f∈([]:List Fd),s=f.name) (H:Vw) (lk:Lk H) (hl:¬ 160 < (prt x 1).length) :
  C0 Tryz.prog 14 #[.string (mkB (Lib.join (lnF (fmO x t)) [10]))] H (fun r h'=>∃ b o c u V,r=.tuple #[.agg #[.slice (some ⟨b,o,none⟩) 1 c,.slice (sA u) (sN u) (sC u)],.int .i64 0,.int .i64 0]∧Cells h' b (o + 0 * 9) [.string ⟨#[97]⟩,.int .i64 2,.int .i64 t,.int .i64 x.op,.int .i64 x.k,.int .i64 x.n,.string x.s,.string x.nm,.slice (sA V) (sN V) (sC V)]∧IsArgs h' x (.slice (sA V) (sN V) (sC V))):=by
 obtain ⟨o1,o2⟩:=one_ok x t t1 t3 g1 g4 g5 hty hnm
 refine (read_any _ _ _ H lk o1 o2 (by show 1≤1; decide)).mono fun v h' _ k=>?_
 rcases k with ⟨k | k,-⟩ | ⟨-,-,u,w,e,q⟩
 ·obtain ⟨f,hf,k⟩:=k
  obtain rfl:f=⟨⟨#[97]⟩,2,t,x⟩:=List.mem_singleton.1 hf
  exact absurd k.2 hl
 ·obtain ⟨p,hp,k⟩:=k
  obtain rfl:p=⟨⟨#[112]⟩,[⟨#[97]⟩],zE⟩:=List.mem_singleton.1 hp
  exact absurd rfl k.1
 ·obtain ⟨vs,A,c,e2,-,-,hr,hs,hl,hsl⟩:=fds_open q.fields
  rw [e2] at e
  obtain ⟨V,rfl⟩:∃ V,vs=[V]:=by
   have hl:vs.length=1:=hl
   cases vs with
   | nil=>cases hl
   | cons a r=>cases r with
    | nil=>exact ⟨a,rfl⟩
    | cons b r=>simp at hl
  have ha:IsArgs h' x V:=AllSrc.get (i:=0) hs rfl rfl
  have hv:.slice (sA V) (sN V) (sC V)=V:=hsl V (by simp)
  obtain ⟨b,o,rfl,-,hc⟩:=hr.row (i:=0) (x:=fdRow ⟨⟨#[97]⟩,2,t,x⟩ V) rfl
  exact ⟨b,o,c,w,V,e,by rw [hv]; exact hc,by rw [hv]; exact ha⟩
theorem isFds_nil (h:Vw):IsFds h (.slice none 0 0) []:=⟨[],RS.nil h 9,by unfold AllSrc AllArgs; rfl⟩
set_option maxHeartbeats 2000000 in
theorem ofLine_1 (l:List RawD) (sl:Value) (kd:Int) (h:Vw) (lk:Lk h) (hr:RS h 4 sl (l.map RawD.cs)) (hlen:l.length * 40≤reachBytes) (hok:∀ r∈l,r.ok) (k0 : -9223372036854775808≤kd) (k1:kd≤9223372036854775807) (hp:cJ kd 3=1 - 1) :
  C0 Tryz.prog 5 #[sl,.int .i64 kd] h (fun v _=>v=.bool true):=by
 have hpk:=fun H=>oJ kd 3 H k0 k1 (by omega) (by omega)
 rw [hp] at hpk
 have hpk:∀ H,C0 Tryz.prog 9 #[.int .i64 kd,.int .i64 3] H (fun v _=>v=.int .i64 (1 - 1)):=hpk
 obtain ⟨g1,g2,g3⟩:=genE_ok l [] (fun f hf=>by cases hf) 3 1 0 (by omega) (by omega)
 have hty:=fun g=>ty_gen (fs:=[]) (g:=g) (fun f hf=>by cases hf) l 3 1 0 (by omega) (by omega)
 have hnm:=refs_gen (fs:=[]) l 3 1 0
 have hE:=fun H sl fv q1 q2=>expr_any l [] hlen hok (by decide) sl fv 1 H q1 q2 (by omega) (by omega)
 generalize (eJ l [] 3 1 0).1=x at *
 have g4:(szE x).1≤40:=g2
 have g5:(szE x).2≤4:=g3
 have hPr:=fun v H q1 q2=>print_any x v H q1 g1 q2 (by omega) (by omega)
 have hSm:=fun v v' H q1 q2=>same_any x v v' H q1 q2 (by omega)
 have hpl:=kV _ x 1 (Nat.le_refl _) g1
 have hne:=prt_ne (l:=1) g1
 have hR1:=fun H q1 q2=>line_long x 1 (by omega) (by omega) g1 g4 g5 hty hnm H q1 q2
 have hR2:=fun H q1 q2=>line_short x 1 (by omega) (by omega) g1 g4 g5 hty hnm H q1 q2
 have hTx:=line_text x 1
 obtain ⟨S,hS⟩:∃ S,mkB (Lib.join (lnF (fmO x 1)) [10])=S:=⟨_,rfl⟩
 rw [hS] at hR1 hR2
 have hSd:S.data.toList=[102,111,114,109,117,108,97,32,97,32]++tyW 1++[32,61,32]++prt x 1++[10,112,97,103,101,32,112,58,32,97]:=by rw [← hS,mQ,hTx]
 obtain ⟨Sp,q1,q2,q3⟩:=str_of (prt x 1)
 rw [q3] at hPr
 rw [← q1] at hne hSd
 rw [← q2] at hR1 hR2 hpl
 have hS0:(Sp.toList == (⟨#[]⟩:ByteArray).toList)=false:=beq_eq_false_iff_ne.2 (by rw [Lib.toList_data,Lib.toList_data]; exact hne)
 obtain ⟨X1,hX1d⟩:∃ X1:ByteArray,X1.data.toList=[102,111,114,109,117,108,97,32,97,32]++tyW 1++[32,61,32]++Sp.data.toList:=⟨mkB _,mQ _⟩
 have hX1:(⟨([102,111,114,109,117,108,97,32,97,32]++tyW 1++[32,61,32]).toArray⟩:ByteArray).data.toList++Sp.data.toList=X1.data.toList:=hX1d.symm
 have htl:(tyW 1).length≤4:=by decide
 have hX0:([102,111,114,109,117,108,97,32,97,32]++tyW 1++[32,61,32]).length≤17:=by decide
 have hXs:X1.size≤17 + Sp.size:=by
  have e1:X1.size=X1.data.toList.length:=by show X1.data.size=_; simp
  have e2:Sp.size=Sp.data.toList.length:=by show Sp.data.size=_; simp
  rw [e1,e2,hX1d,List.length_append]
  omega
 obtain ⟨A0,cap,rfl,-,-,-⟩:=hr.form
 rw [List.length_map] at hr ⊢
 generalize l.length=len0 at *
 refine kK Tryz.func5 (c:=Tryz.f5.body.getD .skip) (N:=64) ?_
 intro hbx hbad Q hQ
 refine go0 17 [.cl 9 #[Vi kd,Vi 3] (Vi (1 - 1))] [(13,Vi (IntKind.i64.wrap (1 + (1 - 1))),Vi 1)] ?_ (ho:=(And.intro (fun H sH=>hpk _) (trivial))) (hc:=(And.intro (rfl) (trivial)))
 refine fK (fun H sH=>hE _ _ _ (hr.sees sH) (isFds_nil _)) ?_; rintro _ W1 S2 ⟨u,rfl,hu⟩
 refine go1 7 [.own,.b 0 0,.b 0 0] [] ?_
 intro b3
 refine zK 14 [.cl 11 #[.agg #[Vi x.op,Vi x.k,Vi x.n,.string x.s,.string x.nm,.slice (sA u) (sN u) (sC u)]] (.tuple #[.string Sp,Vi 0]),.fix,.pu,.f 0 1] [] ?_ (ho:=(And.intro (fun H sH=>hPr _ _ (hu.sees sH) (lk.sees (S2.trans sH))) (trivial)))
 intro b4 W5 S6
 refine sK (.string ⟨([102,111,114,109,117,108,97,32,97,32]++tyW 1).toArray⟩) (fun w=>uV (op:=.add) (t:=9) (x:=(.const (.string ⟨#[102,111,114,109,117,108,97,32,97,32]⟩))) (y:=(.tmp 26)) (yt:=9) (va:=.string ⟨([102,111,114,109,117,108,97,32,97,32]).toArray⟩) (vb:=.string ⟨(tyW 1).toArray⟩) (by kernel_rfl) (by kernel_rfl) (by kernel_rfl) (by kernel_rfl) (vV (a:=[102,111,114,109,117,108,97,32,97,32]) (b:=tyW 1) (c:=[102,111,114,109,117,108,97,32,97,32]++tyW 1) (by first | omega | (simp only [List.length_cons,List.length_nil]; omega) | (simp only [List.length_append,List.length_cons,List.length_nil]; omega)) (rfl))) ?_
 refine sK (.string ⟨([102,111,114,109,117,108,97,32,97,32]++tyW 1++[32,61,32]).toArray⟩) (fun w=>uV (op:=.add) (t:=9) (x:=(.tmp 27)) (y:=(.const (.string ⟨#[32,61,32]⟩))) (yt:=9) (va:=.string ⟨([102,111,114,109,117,108,97,32,97,32]++tyW 1).toArray⟩) (vb:=.string ⟨([32,61,32]).toArray⟩) (by kernel_rfl) (by kernel_rfl) (by kernel_rfl) (by kernel_rfl) (vV (a:=[102,111,114,109,117,108,97,32,97,32]++tyW 1) (b:=[32,61,32]) (c:=[102,111,114,109,117,108,97,32,97,32]++tyW 1++[32,61,32]) (by first | omega | (simp only [List.length_cons,List.length_nil]; omega) | (simp only [List.length_append,List.length_cons,List.length_nil]; omega)) (rfl))) ?_
 refine go0 1 [] [] ?_
 refine sK (.string X1) (fun w=>uV (op:=.add) (t:=9) (x:=(.tmp 28)) (y:=(.tmp 29)) (yt:=9) (va:=.string ⟨([102,111,114,109,117,108,97,32,97,32]++tyW 1++[32,61,32]).toArray⟩) (vb:=.string Sp) (by kernel_rfl) (by kernel_rfl) (by kernel_rfl) (by kernel_rfl) (run_catS (by show ([102,111,114,109,117,108,97,32,97,32]++tyW 1++[32,61,32]).toArray.size + Sp.size≤_; rw [List.size_toArray]; omega) hX1)) ?_
 refine sK (.string S) (fun w=>uV (op:=.add) (t:=9) (x:=(.tmp 30)) (y:=(.const (.string ⟨#[10,112,97,103,101,32,112,58,32,97]⟩))) (yt:=9) (va:=.string X1) (vb:=.string ⟨([10,112,97,103,101,32,112,58,32,97]).toArray⟩) (by kernel_rfl) (by kernel_rfl) (by kernel_rfl) (by kernel_rfl) (run_catS (by show X1.size + 10≤_; omega) (by rw [hX1d,hSd]))) ?_
 by_cases hlong:160 < Sp.size
 ·refine fK (fun H sH=>hR1 _ (lk.sees (S2.trans (S6.trans sH))) hlong) ?_; rintro _ W7 S8 ⟨n,rfl⟩
  refine go1 32 [.own,.b 0 0] [(40,.bool (Sp.toList == (⟨#[]⟩:ByteArray).toList),.bool false)] ?_ (hc:=(And.intro (congrArg Value.bool hS0) (trivial)))
  intro b9
  refine wK (t:=decide ((Sp.size:Int) > 160)) (decide_eq_true (by omega)) ?_
  refine go0 9 [] [] ?_
  refine hQ.to [.bool true] (fun H sH=>?_)
  exact rfl
 ·skip
  refine fK (fun H sH=>hR2 _ (lk.sees (S2.trans (S6.trans sH))) hlong) ?_; rintro _ W10 S11 ⟨b,o,c,u2,V,rfl,hc,hV⟩
  refine go1 32 [.own,.b 0 0] [(40,.bool (Sp.toList == (⟨#[]⟩:ByteArray).toList),.bool false)] ?_ (hc:=(And.intro (congrArg Value.bool hS0) (trivial)))
  intro b12
  refine lK (hc.sees (Sees.refl _)) ?_
  refine mK (t:=decide ((Sp.size:Int) > 160)) (decide_eq_false (by omega)) ?_
  refine go0 3 [] [] ?_
  refine tK 18 0 [.pu,.pu,.pu,.pu,.ld 0 0,.pu,.pu,.pu,.pu,.pu,.ld 0 0,.v (fun gh=>.pointer (some ⟨b,o + 0 * 9,none⟩)),.pu,.lf 0 3,.ld 1 0,.v (fun gh=>.bool true),.pu,.pu] [] (trivial) ?_ ?_
  ·intro R hT hA hmono
   refine And.intro (t_ix hT hA b o 1 c 0 (fun gh=>.pointer (some ⟨b,o + 0 * 9,none⟩)) ((by omega))) ?_
   refine And.intro (t_v hT hA hmono (k:=13) (args:=(fun gh=>#[.agg #[Vi x.op,Vi x.k,Vi x.n,.string x.s,.string x.nm,.slice (sA V) (sN V) (sC V)],.agg #[Vi x.op,Vi x.k,Vi x.n,.string x.s,.string x.nm,.slice (sA u) (sN u) (sC u)]])) (f:=fun gh=>.bool true) (fun gh H sH fH lent=>hSm _ _ _ (hV.sees sH) (hu.sees (S6.trans (S11.trans sH))))) ?_
   trivial
  rintro W13 S14 -
  refine go0 2 [] [] ?_
  refine hQ.to [.bool true] (fun H sH=>?_)
  exact rfl
set_option maxHeartbeats 2000000 in
theorem ofLine_2 (l:List RawD) (sl:Value) (kd:Int) (h:Vw) (lk:Lk h) (hr:RS h 4 sl (l.map RawD.cs)) (hlen:l.length * 40≤reachBytes) (hok:∀ r∈l,r.ok) (k0 : -9223372036854775808≤kd) (k1:kd≤9223372036854775807) (hp:cJ kd 3=2 - 1) :
  C0 Tryz.prog 5 #[sl,.int .i64 kd] h (fun v _=>v=.bool true):=by
 have hpk:=fun H=>oJ kd 3 H k0 k1 (by omega) (by omega)
 rw [hp] at hpk
 have hpk:∀ H,C0 Tryz.prog 9 #[.int .i64 kd,.int .i64 3] H (fun v _=>v=.int .i64 (2 - 1)):=hpk
 obtain ⟨g1,g2,g3⟩:=genE_ok l [] (fun f hf=>by cases hf) 3 2 0 (by omega) (by omega)
 have hty:=fun g=>ty_gen (fs:=[]) (g:=g) (fun f hf=>by cases hf) l 3 2 0 (by omega) (by omega)
 have hnm:=refs_gen (fs:=[]) l 3 2 0
 have hE:=fun H sl fv q1 q2=>expr_any l [] hlen hok (by decide) sl fv 2 H q1 q2 (by omega) (by omega)
 generalize (eJ l [] 3 2 0).1=x at *
 have g4:(szE x).1≤40:=g2
 have g5:(szE x).2≤4:=g3
 have hPr:=fun v H q1 q2=>print_any x v H q1 g1 q2 (by omega) (by omega)
 have hSm:=fun v v' H q1 q2=>same_any x v v' H q1 q2 (by omega)
 have hpl:=kV _ x 1 (Nat.le_refl _) g1
 have hne:=prt_ne (l:=1) g1
 have hR1:=fun H q1 q2=>line_long x 2 (by omega) (by omega) g1 g4 g5 hty hnm H q1 q2
 have hR2:=fun H q1 q2=>line_short x 2 (by omega) (by omega) g1 g4 g5 hty hnm H q1 q2
 have hTx:=line_text x 2
 obtain ⟨S,hS⟩:∃ S,mkB (Lib.join (lnF (fmO x 2)) [10])=S:=⟨_,rfl⟩
 rw [hS] at hR1 hR2
 have hSd:S.data.toList=[102,111,114,109,117,108,97,32,97,32]++tyW 2++[32,61,32]++prt x 1++[10,112,97,103,101,32,112,58,32,97]:=by rw [← hS,mQ,hTx]
 obtain ⟨Sp,q1,q2,q3⟩:=str_of (prt x 1)
 rw [q3] at hPr
 rw [← q1] at hne hSd
 rw [← q2] at hR1 hR2 hpl
 have hS0:(Sp.toList == (⟨#[]⟩:ByteArray).toList)=false:=beq_eq_false_iff_ne.2 (by rw [Lib.toList_data,Lib.toList_data]; exact hne)
 obtain ⟨X1,hX1d⟩:∃ X1:ByteArray,X1.data.toList=[102,111,114,109,117,108,97,32,97,32]++tyW 2++[32,61,32]++Sp.data.toList:=⟨mkB _,mQ _⟩
 have hX1:(⟨([102,111,114,109,117,108,97,32,97,32]++tyW 2++[32,61,32]).toArray⟩:ByteArray).data.toList++Sp.data.toList=X1.data.toList:=hX1d.symm
 have htl:(tyW 2).length≤4:=by decide
 have hX0:([102,111,114,109,117,108,97,32,97,32]++tyW 2++[32,61,32]).length≤17:=by decide
 have hXs:X1.size≤17 + Sp.size:=by
  have e1:X1.size=X1.data.toList.length:=by show X1.data.size=_; simp
  have e2:Sp.size=Sp.data.toList.length:=by show Sp.data.size=_; simp
  rw [e1,e2,hX1d,List.length_append]
  omega
 obtain ⟨A0,cap,rfl,-,-,-⟩:=hr.form
 rw [List.length_map] at hr ⊢
 generalize l.length=len0 at *
 refine kK Tryz.func5 (c:=Tryz.f5.body.getD .skip) (N:=64) ?_
 intro hbx hbad Q hQ
 refine go0 17 [.cl 9 #[Vi kd,Vi 3] (Vi (2 - 1))] [(13,Vi (IntKind.i64.wrap (1 + (2 - 1))),Vi 2)] ?_ (ho:=(And.intro (fun H sH=>hpk _) (trivial))) (hc:=(And.intro (rfl) (trivial)))
 refine fK (fun H sH=>hE _ _ _ (hr.sees sH) (isFds_nil _)) ?_; rintro _ W1 S2 ⟨u,rfl,hu⟩
 refine go1 7 [.own,.b 0 0,.b 0 0] [] ?_
 intro b3
 refine zK 14 [.cl 11 #[.agg #[Vi x.op,Vi x.k,Vi x.n,.string x.s,.string x.nm,.slice (sA u) (sN u) (sC u)]] (.tuple #[.string Sp,Vi 0]),.fix,.pu,.f 0 2] [] ?_ (ho:=(And.intro (fun H sH=>hPr _ _ (hu.sees sH) (lk.sees (S2.trans sH))) (trivial)))
 intro b4 W5 S6
 refine sK (.string ⟨([102,111,114,109,117,108,97,32,97,32]++tyW 2).toArray⟩) (fun w=>uV (op:=.add) (t:=9) (x:=(.const (.string ⟨#[102,111,114,109,117,108,97,32,97,32]⟩))) (y:=(.tmp 26)) (yt:=9) (va:=.string ⟨([102,111,114,109,117,108,97,32,97,32]).toArray⟩) (vb:=.string ⟨(tyW 2).toArray⟩) (by kernel_rfl) (by kernel_rfl) (by kernel_rfl) (by kernel_rfl) (vV (a:=[102,111,114,109,117,108,97,32,97,32]) (b:=tyW 2) (c:=[102,111,114,109,117,108,97,32,97,32]++tyW 2) (by first | omega | (simp only [List.length_cons,List.length_nil]; omega) | (simp only [List.length_append,List.length_cons,List.length_nil]; omega)) (rfl))) ?_
 refine sK (.string ⟨([102,111,114,109,117,108,97,32,97,32]++tyW 2++[32,61,32]).toArray⟩) (fun w=>uV (op:=.add) (t:=9) (x:=(.tmp 27)) (y:=(.const (.string ⟨#[32,61,32]⟩))) (yt:=9) (va:=.string ⟨([102,111,114,109,117,108,97,32,97,32]++tyW 2).toArray⟩) (vb:=.string ⟨([32,61,32]).toArray⟩) (by kernel_rfl) (by kernel_rfl) (by kernel_rfl) (by kernel_rfl) (vV (a:=[102,111,114,109,117,108,97,32,97,32]++tyW 2) (b:=[32,61,32]) (c:=[102,111,114,109,117,108,97,32,97,32]++tyW 2++[32,61,32]) (by first | omega | (simp only [List.length_cons,List.length_nil]; omega) | (simp only [List.length_append,List.length_cons,List.length_nil]; omega)) (rfl))) ?_
 refine go0 1 [] [] ?_
 refine sK (.string X1) (fun w=>uV (op:=.add) (t:=9) (x:=(.tmp 28)) (y:=(.tmp 29)) (yt:=9) (va:=.string ⟨([102,111,114,109,117,108,97,32,97,32]++tyW 2++[32,61,32]).toArray⟩) (vb:=.string Sp) (by kernel_rfl) (by kernel_rfl) (by kernel_rfl) (by kernel_rfl) (run_catS (by show ([102,111,114,109,117,108,97,32,97,32]++tyW 2++[32,61,32]).toArray.size + Sp.size≤_; rw [List.size_toArray]; omega) hX1)) ?_
 refine sK (.string S) (fun w=>uV (op:=.add) (t:=9) (x:=(.tmp 30)) (y:=(.const (.string ⟨#[10,112,97,103,101,32,112,58,32,97]⟩))) (yt:=9) (va:=.string X1) (vb:=.string ⟨([10,112,97,103,101,32,112,58,32,97]).toArray⟩) (by kernel_rfl) (by kernel_rfl) (by kernel_rfl) (by kernel_rfl) (run_catS (by show X1.size + 10≤_; omega) (by rw [hX1d,hSd]))) ?_
 by_cases hlong:160 < Sp.size
 ·refine fK (fun H sH=>hR1 _ (lk.sees (S2.trans (S6.trans sH))) hlong) ?_; rintro _ W7 S8 ⟨n,rfl⟩
  refine go1 32 [.own,.b 0 0] [(40,.bool (Sp.toList == (⟨#[]⟩:ByteArray).toList),.bool false)] ?_ (hc:=(And.intro (congrArg Value.bool hS0) (trivial)))
  intro b9
  refine wK (t:=decide ((Sp.size:Int) > 160)) (decide_eq_true (by omega)) ?_
  refine go0 9 [] [] ?_
  refine hQ.to [.bool true] (fun H sH=>?_)
  exact rfl
 ·skip
  refine fK (fun H sH=>hR2 _ (lk.sees (S2.trans (S6.trans sH))) hlong) ?_; rintro _ W10 S11 ⟨b,o,c,u2,V,rfl,hc,hV⟩
  refine go1 32 [.own,.b 0 0] [(40,.bool (Sp.toList == (⟨#[]⟩:ByteArray).toList),.bool false)] ?_ (hc:=(And.intro (congrArg Value.bool hS0) (trivial)))
  intro b12
  refine lK (hc.sees (Sees.refl _)) ?_
  refine mK (t:=decide ((Sp.size:Int) > 160)) (decide_eq_false (by omega)) ?_
  refine go0 3 [] [] ?_
  refine tK 18 0 [.pu,.pu,.pu,.pu,.ld 0 0,.pu,.pu,.pu,.pu,.pu,.ld 0 0,.v (fun gh=>.pointer (some ⟨b,o + 0 * 9,none⟩)),.pu,.lf 0 3,.ld 1 0,.v (fun gh=>.bool true),.pu,.pu] [] (trivial) ?_ ?_
  ·intro R hT hA hmono
   refine And.intro (t_ix hT hA b o 1 c 0 (fun gh=>.pointer (some ⟨b,o + 0 * 9,none⟩)) ((by omega))) ?_
   refine And.intro (t_v hT hA hmono (k:=13) (args:=(fun gh=>#[.agg #[Vi x.op,Vi x.k,Vi x.n,.string x.s,.string x.nm,.slice (sA V) (sN V) (sC V)],.agg #[Vi x.op,Vi x.k,Vi x.n,.string x.s,.string x.nm,.slice (sA u) (sN u) (sC u)]])) (f:=fun gh=>.bool true) (fun gh H sH fH lent=>hSm _ _ _ (hV.sees sH) (hu.sees (S6.trans (S11.trans sH))))) ?_
   trivial
  rintro W13 S14 -
  refine go0 2 [] [] ?_
  refine hQ.to [.bool true] (fun H sH=>?_)
  exact rfl
set_option maxHeartbeats 2000000 in
theorem ofLine_3 (l:List RawD) (sl:Value) (kd:Int) (h:Vw) (lk:Lk h) (hr:RS h 4 sl (l.map RawD.cs)) (hlen:l.length * 40≤reachBytes) (hok:∀ r∈l,r.ok) (k0 : -9223372036854775808≤kd) (k1:kd≤9223372036854775807) (hp:cJ kd 3=3 - 1) :
  C0 Tryz.prog 5 #[sl,.int .i64 kd] h (fun v _=>v=.bool true):=by
 have hpk:=fun H=>oJ kd 3 H k0 k1 (by omega) (by omega)
 rw [hp] at hpk
 have hpk:∀ H,C0 Tryz.prog 9 #[.int .i64 kd,.int .i64 3] H (fun v _=>v=.int .i64 (3 - 1)):=hpk
 obtain ⟨g1,g2,g3⟩:=genE_ok l [] (fun f hf=>by cases hf) 3 3 0 (by omega) (by omega)
 have hty:=fun g=>ty_gen (fs:=[]) (g:=g) (fun f hf=>by cases hf) l 3 3 0 (by omega) (by omega)
 have hnm:=refs_gen (fs:=[]) l 3 3 0
 have hE:=fun H sl fv q1 q2=>expr_any l [] hlen hok (by decide) sl fv 3 H q1 q2 (by omega) (by omega)
 generalize (eJ l [] 3 3 0).1=x at *
 have g4:(szE x).1≤40:=g2
 have g5:(szE x).2≤4:=g3
 have hPr:=fun v H q1 q2=>print_any x v H q1 g1 q2 (by omega) (by omega)
 have hSm:=fun v v' H q1 q2=>same_any x v v' H q1 q2 (by omega)
 have hpl:=kV _ x 1 (Nat.le_refl _) g1
 have hne:=prt_ne (l:=1) g1
 have hR1:=fun H q1 q2=>line_long x 3 (by omega) (by omega) g1 g4 g5 hty hnm H q1 q2
 have hR2:=fun H q1 q2=>line_short x 3 (by omega) (by omega) g1 g4 g5 hty hnm H q1 q2
 have hTx:=line_text x 3
 obtain ⟨S,hS⟩:∃ S,mkB (Lib.join (lnF (fmO x 3)) [10])=S:=⟨_,rfl⟩
 rw [hS] at hR1 hR2
 have hSd:S.data.toList=[102,111,114,109,117,108,97,32,97,32]++tyW 3++[32,61,32]++prt x 1++[10,112,97,103,101,32,112,58,32,97]:=by rw [← hS,mQ,hTx]
 obtain ⟨Sp,q1,q2,q3⟩:=str_of (prt x 1)
 rw [q3] at hPr
 rw [← q1] at hne hSd
 rw [← q2] at hR1 hR2 hpl
 have hS0:(Sp.toList == (⟨#[]⟩:ByteArray).toList)=false:=beq_eq_false_iff_ne.2 (by rw [Lib.toList_data,Lib.toList_data]; exact hne)
 obtain ⟨X1,hX1d⟩:∃ X1:ByteArray,X1.data.toList=[102,111,114,109,117,108,97,32,97,32]++tyW 3++[32,61,32]++Sp.data.toList:=⟨mkB _,mQ _⟩
 have hX1:(⟨([102,111,114,109,117,108,97,32,97,32]++tyW 3++[32,61,32]).toArray⟩:ByteArray).data.toList++Sp.data.toList=X1.data.toList:=hX1d.symm
 have htl:(tyW 3).length≤4:=by decide
 have hX0:([102,111,114,109,117,108,97,32,97,32]++tyW 3++[32,61,32]).length≤17:=by decide
 have hXs:X1.size≤17 + Sp.size:=by
  have e1:X1.size=X1.data.toList.length:=by show X1.data.size=_; simp
  have e2:Sp.size=Sp.data.toList.length:=by show Sp.data.size=_; simp
  rw [e1,e2,hX1d,List.length_append]
  omega
 obtain ⟨A0,cap,rfl,-,-,-⟩:=hr.form
 rw [List.length_map] at hr ⊢
 generalize l.length=len0 at *
 refine kK Tryz.func5 (c:=Tryz.f5.body.getD .skip) (N:=64) ?_
 intro hbx hbad Q hQ
 refine go0 17 [.cl 9 #[Vi kd,Vi 3] (Vi (3 - 1))] [(13,Vi (IntKind.i64.wrap (1 + (3 - 1))),Vi 3)] ?_ (ho:=(And.intro (fun H sH=>hpk _) (trivial))) (hc:=(And.intro (rfl) (trivial)))
 refine fK (fun H sH=>hE _ _ _ (hr.sees sH) (isFds_nil _)) ?_; rintro _ W1 S2 ⟨u,rfl,hu⟩
 refine go1 7 [.own,.b 0 0,.b 0 0] [] ?_
 intro b3
 refine zK 14 [.cl 11 #[.agg #[Vi x.op,Vi x.k,Vi x.n,.string x.s,.string x.nm,.slice (sA u) (sN u) (sC u)]] (.tuple #[.string Sp,Vi 0]),.fix,.pu,.f 0 3] [] ?_ (ho:=(And.intro (fun H sH=>hPr _ _ (hu.sees sH) (lk.sees (S2.trans sH))) (trivial)))
 intro b4 W5 S6
 refine sK (.string ⟨([102,111,114,109,117,108,97,32,97,32]++tyW 3).toArray⟩) (fun w=>uV (op:=.add) (t:=9) (x:=(.const (.string ⟨#[102,111,114,109,117,108,97,32,97,32]⟩))) (y:=(.tmp 26)) (yt:=9) (va:=.string ⟨([102,111,114,109,117,108,97,32,97,32]).toArray⟩) (vb:=.string ⟨(tyW 3).toArray⟩) (by kernel_rfl) (by kernel_rfl) (by kernel_rfl) (by kernel_rfl) (vV (a:=[102,111,114,109,117,108,97,32,97,32]) (b:=tyW 3) (c:=[102,111,114,109,117,108,97,32,97,32]++tyW 3) (by first | omega | (simp only [List.length_cons,List.length_nil]; omega) | (simp only [List.length_append,List.length_cons,List.length_nil]; omega)) (rfl))) ?_
 refine sK (.string ⟨([102,111,114,109,117,108,97,32,97,32]++tyW 3++[32,61,32]).toArray⟩) (fun w=>uV (op:=.add) (t:=9) (x:=(.tmp 27)) (y:=(.const (.string ⟨#[32,61,32]⟩))) (yt:=9) (va:=.string ⟨([102,111,114,109,117,108,97,32,97,32]++tyW 3).toArray⟩) (vb:=.string ⟨([32,61,32]).toArray⟩) (by kernel_rfl) (by kernel_rfl) (by kernel_rfl) (by kernel_rfl) (vV (a:=[102,111,114,109,117,108,97,32,97,32]++tyW 3) (b:=[32,61,32]) (c:=[102,111,114,109,117,108,97,32,97,32]++tyW 3++[32,61,32]) (by first | omega | (simp only [List.length_cons,List.length_nil]; omega) | (simp only [List.length_append,List.length_cons,List.length_nil]; omega)) (rfl))) ?_
 refine go0 1 [] [] ?_
 refine sK (.string X1) (fun w=>uV (op:=.add) (t:=9) (x:=(.tmp 28)) (y:=(.tmp 29)) (yt:=9) (va:=.string ⟨([102,111,114,109,117,108,97,32,97,32]++tyW 3++[32,61,32]).toArray⟩) (vb:=.string Sp) (by kernel_rfl) (by kernel_rfl) (by kernel_rfl) (by kernel_rfl) (run_catS (by show ([102,111,114,109,117,108,97,32,97,32]++tyW 3++[32,61,32]).toArray.size + Sp.size≤_; rw [List.size_toArray]; omega) hX1)) ?_
 refine sK (.string S) (fun w=>uV (op:=.add) (t:=9) (x:=(.tmp 30)) (y:=(.const (.string ⟨#[10,112,97,103,101,32,112,58,32,97]⟩))) (yt:=9) (va:=.string X1) (vb:=.string ⟨([10,112,97,103,101,32,112,58,32,97]).toArray⟩) (by kernel_rfl) (by kernel_rfl) (by kernel_rfl) (by kernel_rfl) (run_catS (by show X1.size + 10≤_; omega) (by rw [hX1d,hSd]))) ?_
 by_cases hlong:160 < Sp.size
 ·refine fK (fun H sH=>hR1 _ (lk.sees (S2.trans (S6.trans sH))) hlong) ?_; rintro _ W7 S8 ⟨n,rfl⟩
  refine go1 32 [.own,.b 0 0] [(40,.bool (Sp.toList == (⟨#[]⟩:ByteArray).toList),.bool false)] ?_ (hc:=(And.intro (congrArg Value.bool hS0) (trivial)))
  intro b9
  refine wK (t:=decide ((Sp.size:Int) > 160)) (decide_eq_true (by omega)) ?_
  refine go0 9 [] [] ?_
  refine hQ.to [.bool true] (fun H sH=>?_)
  exact rfl
 ·skip
  refine fK (fun H sH=>hR2 _ (lk.sees (S2.trans (S6.trans sH))) hlong) ?_; rintro _ W10 S11 ⟨b,o,c,u2,V,rfl,hc,hV⟩
  refine go1 32 [.own,.b 0 0] [(40,.bool (Sp.toList == (⟨#[]⟩:ByteArray).toList),.bool false)] ?_ (hc:=(And.intro (congrArg Value.bool hS0) (trivial)))
  intro b12
  refine lK (hc.sees (Sees.refl _)) ?_
  refine mK (t:=decide ((Sp.size:Int) > 160)) (decide_eq_false (by omega)) ?_
  refine go0 3 [] [] ?_
  refine tK 18 0 [.pu,.pu,.pu,.pu,.ld 0 0,.pu,.pu,.pu,.pu,.pu,.ld 0 0,.v (fun gh=>.pointer (some ⟨b,o + 0 * 9,none⟩)),.pu,.lf 0 3,.ld 1 0,.v (fun gh=>.bool true),.pu,.pu] [] (trivial) ?_ ?_
  ·intro R hT hA hmono
   refine And.intro (t_ix hT hA b o 1 c 0 (fun gh=>.pointer (some ⟨b,o + 0 * 9,none⟩)) ((by omega))) ?_
   refine And.intro (t_v hT hA hmono (k:=13) (args:=(fun gh=>#[.agg #[Vi x.op,Vi x.k,Vi x.n,.string x.s,.string x.nm,.slice (sA V) (sN V) (sC V)],.agg #[Vi x.op,Vi x.k,Vi x.n,.string x.s,.string x.nm,.slice (sA u) (sN u) (sC u)]])) (f:=fun gh=>.bool true) (fun gh H sH fH lent=>hSm _ _ _ (hV.sees sH) (hu.sees (S6.trans (S11.trans sH))))) ?_
   trivial
  rintro W13 S14 -
  refine go0 2 [] [] ?_
  refine hQ.to [.bool true] (fun H sH=>?_)
  exact rfl
theorem exprOfLine_c (l:List RawD) (sl:Value) (kd:Int) (h:Vw) (lk:Lk h) (hr:RS h 4 sl (l.map RawD.cs)) (hlen:l.length * 40≤reachBytes) (hok:∀ r∈l,r.ok) (k0 : -9223372036854775808≤kd) (k1:kd≤9223372036854775807) :
  C0 Tryz.prog 5 #[sl,.int .i64 kd] h (fun v _=>v=.bool true):=by
 have p0:=gV kd 3 (by omega)
 have p1:=fV kd 3 (by omega)
 rcases (by omega:cJ kd 3=1 - 1∨cJ kd 3=2 - 1∨cJ kd 3=3 - 1) with e | e | e
 ·exact ofLine_1 l sl kd h lk hr hlen hok k0 k1 e
 ·exact ofLine_2 l sl kd h lk hr hlen hok k0 k1 e
 ·exact ofLine_3 l sl kd h lk hr hlen hok k0 k1 e
theorem exprOfLine_walk (v:Value) (l:List RawD) (kd:Int) (w:World) (h:RawsOf w v l) (k0 : -9223372036854775808≤kd) (k1:kd≤9223372036854775807) (hL:laidMet Tryz.prog Rows.exprOfLineRow.laid w) (hsh:w.ShapedOpen Tryz.prog) :
  Calls Tryz.prog 5 #[v,.int .i64 kd] w fun e w'=>e=.returned (.bool true)∧Below w.heap.size w w' :=
 lawC (exprOfLine_c l v kd ⟨w,[]⟩ (Lk.of_laid hL hsh) h.rs h.2.1 h.2.2 k0 k1)
namespace exprOfLineLaw
open Go.ChangeShapes Go.WideShapes Go.ChangeAt Go.RowKit
open Go.ChangeMaps (open_string shut_string)
set_option linter.unusedVariables false
theorem contract (H:Type) (enc:TypeId × Value→H) (W:World) (base:Nat) (args:Array Value) (ds gs:List (DataW H)) (before:List MemPlace)
  (hval0:∀ (j:Nat) t v,Tryz.f5.params[j]?=some t→args[j]?=some v→Value.okWide Tryz.prog W .any base t v)
  (hW:DataW.Whole enc Tryz.prog Tryz.f5.params.toList Rows.exprOfLineSpec.vars false W args.toList ds gs before)
  (hsz0:(DataW.weightsEach Tryz.prog (Tryz.f5.params.toList++Rows.exprOfLineSpec.plain.varTypes Tryz.prog) (ds++gs)).all (· ≤ reachBytes)=true) (hL:laidMet Tryz.prog Rows.exprOfLineRow.laid W) (hsh:W.ShapedOpen Tryz.prog) :
  Calls Tryz.prog 5 args W fun e W'=>∃ v,e=.returned v∧Rows.exprOfLineSpec.post enc Tryz.prog Tryz.f5 false true false false W args v W':=by
 have hval:∀ (j:Nat) t v,Tryz.f5.params[j]?=some t→args[j]?=some v→Value.okWide Tryz.prog W .any base t v:=hval0
 have hsz:(DataW.weightsEach Tryz.prog (Tryz.f5.params.toList++Rows.exprOfLineSpec.plain.varTypes Tryz.prog) (ds++gs)).all (· ≤ reachBytes)=true:=hsz0
 have hW':=hW
 obtain ⟨p,q,hA0,hV,rfl,hfz,hnd⟩:=hW
 have hA:DataW.TrodAll enc Tryz.prog W 0 (fun _=>true) true Tryz.f5.params.toList args.toList ds p:=hA0
 rw [Tryz.params5] at hA hval hsz
 obtain ⟨v0,vs0,d0,ds0,p0,q0,hargs,rfl,rfl,h0,r0⟩:=trodAll_cons hA
 obtain ⟨v1,vs1,d1,ds1,p1,q1,rfl,rfl,rfl,h1,r1⟩:=trodAll_cons r0
 obtain ⟨rfl,rfl,rfl⟩:=trodAll_nil r1
 obtain rfl:args=#[v0,v1]:=by cases args; simp_all
 obtain ⟨rfl,rfl⟩:=trodVars_none hV
 have k0:=h0
 have lt0:∀ x∈p0,x.block < W.heap.size:=by obtain ⟨m,hm⟩:=k0; exact DataW.trod_lt m _ _ _ hm
 obtain ⟨a0,w0⟩:=open_rows (hval 0 22 v0 rfl rfl) h0 (fun es ss hd=>sized_slice hsz (j:=0) (t:=22) (elems:=es) (spare:=ss) rfl (by rw [hd]; rfl) Tryz.underlying22)
 have k1:=h1
 have lt1:∀ x∈p1,x.block < W.heap.size:=by obtain ⟨m,hm⟩:=k1; exact DataW.trod_lt m _ _ _ hm
 obtain ⟨a1,rfl,-,-,w1⟩:=open_int Tryz.underlying3 (hval 1 3 v1 rfl rfl) h1
 clear hA0 hval0 hsz0
 refine (exprOfLine_walk v0 a0 a1 W w0 (int_lo w1) (int_hi w1) hL hsh).mono fun e W' ⟨he,bel⟩=>?_
 subst he
 exact ⟨_,rfl,_,_,_,[],_,[],hW',trodAll_mk1 (shut_bool Tryz.underlying4 _),(trodAll_cons_mk (Below.trod laidOutTrue (by kernel_rfl) (of_decide_eq_true (by kernel_rfl)) k0 bel lt0) (trodAll_cons_mk (Below.trod laidOutTrue (by kernel_rfl) (of_decide_eq_true (by kernel_rfl)) k1 bel lt1) trodAll_mk0)),rfl,bel.frame _,fun h=>by cases h⟩
theorem reads (os:Os) {H:Type} (enc:TypeId × Value→H):∃ places,DataW.whole enc Tryz.prog ((World.laidAll Tryz.prog os Rows.exprOfLineRow.laid).forCall (fun _ _=>0) ⟨#[],#[.slice none 0 0,.int .i64 0],[]⟩).memory Tryz.f5.params.toList Rows.exprOfLineSpec.vars false (#[.slice none 0 0,.int .i64 0]:Array Value).toList 8=some ([.nil,.lit (.int .i64 0)],[],places) :=
 ⟨[],by kernel_rfl⟩
theorem lifted (os:Os) (started:os.Started) (H:Type) (enc:TypeId × Value→H) (FF:Stop.Interp) :
  ReturnsInHanded {} Tryz.checked os 5 .any ((OpenSpec.ofChange Rows.exprOfLineSpec).preRow enc Tryz.prog Tryz.f5 Rows.exprOfLineRow.domain false Rows.exprOfLineRow.laid) (((OpenSpec.ofChange Rows.exprOfLineSpec).at FF).post enc Tryz.prog Tryz.f5 false true false false):=by
 obtain ⟨places,hx⟩:=reads os enc
 refine returnsInHanded_of_row (C:=Tryz.checked) (s:=OpenSpec.ofChange Rows.exprOfLineSpec) ownNone started (by kernel_rfl) Tryz.func5
  (witness_row_at (enc:=enc) (C:=Tryz.checked) false (World.laidAll Tryz.prog os Rows.exprOfLineRow.laid) #[.slice none 0 0,.int .i64 0] (World.laidAll_os _ _ _) (by kernel_rfl) (by kernel_rfl) (by kernel_rfl)
   (OpenSpec.preRow_of_cond 8 hx (by kernel_rfl) (fun k hk=>by cases hk) (by kernel_rfl) (laidMet_laidAll _ (by kernel_rfl) (by kernel_rfl)))) ?_
 intro W base args ds gs before hval hW _ _ hsz hL hsh _
 rw [MakeChecks.laidMetH_plain _ _ _ (by kernel_rfl)] at hL
 exact contract H enc W base args ds gs before hval hW hsz hL hsh
theorem said:Rows.ExprOfLineSaid :=
 OpenClaim.holds_of_cond 5 Tryz.f5 rfl rfl rfl rfl rfl rfl rfl ⟨rfl,rfl,rfl,rfl,rfl⟩ rfl rfl rfl rfl rfl (by kernel_rfl) Tryz.func5 (by kernel_rfl)
  (of_decide_eq_true (by kernel_rfl)) (by unfold Func.isWrapper; first | (rw [if_pos (by decide +kernel)]; kernel_rfl) | (rw [if_neg (by decide +kernel)]; exact ⟨rfl,rfl⟩))
  (fun os started H enc _ FF=>by rw [OpenClaim.pre_eq_preRow]; exact lifted os started H enc FF)
theorem plain (f : FuncId) (fn : Func) (hf : Tryz.pinned.checked.prog.funcNamed "lychway/lychwaykeep.ExprOfLine" = some f) (hfn : Tryz.pinned.checked.prog.funcs[f]? = some fn) :
  Rows.exprOfLineCard.stood.looks=Tryz.pinned.checked.prog.looks []∧∀ (j:Nat) t,fn.params[j]?=some t→Tryz.pinned.checked.prog.wantsStandIn t=false:=by
 obtain rfl : f = 5 := Option.some.inj ((show Tryz.prog.funcNamed "lychway/lychwaykeep.ExprOfLine" = some 5 by kernel_rfl).symm.trans hf) |>.symm
 obtain rfl:fn=Tryz.f5:=(Option.some.inj (Tryz.func5.symm.trans hfn)).symm
 refine ⟨by kernel_rfl,fun j t ht=>?_⟩
 rw [Tryz.params5] at ht
 have hm:=Array.mem_of_getElem? ht
 simp at hm
 first
  | (obtain rfl:=hm; exact (show Tryz.prog.wantsStandIn _=false by kernel_rfl))
  | (rcases hm with rfl | rfl <;> exact (show Tryz.prog.wantsStandIn _=false by kernel_rfl))
end exprOfLineLaw
theorem exprOfLine_holds:Rows.ExprOfLineCardSaid :=
 Claim7.holds_tied_plain_at .later [] _ _ _ _ exprOfLineLaw.said (fun _ h=>by cases h) (by kernel_rfl) (fun _ h=>by cases h) exprOfLine_row_tie rfl ⟨rfl,rfl⟩ (by kernel_rfl) rfl exprOfLineLaw.plain (by kernel_rfl)
#print axioms exprOfLine_holds
end Go.Proofs.YthplkompdehjlaaGreatDoor
