/-
  The laws' SameExpr at the same thing twice.
-/
import Derived.Test.YthplkompdehjlaaGreatDoorZR9
import Derived.Test.YthplkompdehjlaaGreatDoorZR19
import Derived.Test.YthplkompdehjlaaGreatDoorZR21
import Derived.Test.YthplkompdehjlaaGreatDoorZR44
import Derived.Test.YthplkompdehjlaaGreatDoorZR42
set_option maxRecDepth 100000
namespace Go.Proofs.YthplkompdehjlaaGreatDoor
open Go.RowKit
set_option linter.unusedVariables false
theorem eqfE (l:List Ex) (us vs:List Value) (n:Nat) (A B:Option Addr) (c d:Nat) (h:Vw) (hn:l.length=n) (ha:RS h 6 (.slice A n c) (mK l us)) (hb:RS h 6 (.slice B n d) (mK l vs)) (hu:AllArgs h l us) (hv:AllArgs h l vs) (hl:n≤1000000)
  (ih:∀ y∈l,∀ u u' H,IsArgs H y u→IsArgs H y u'→C0 Tryz.prog 13 #[.agg #[.int .i64 y.op,.int .i64 y.k,.int .i64 y.n,.string y.s,.string y.nm,u],.agg #[.int .i64 y.op,.int .i64 y.k,.int .i64 y.n,.string y.s,.string y.nm,u']] H (fun r _=>r=.bool true)) :
  C0 Tryz.prog 32 #[.slice A n c,.slice B n d,.func (.func 13) #[] #[]] h (fun r _=>r=.bool true):=by
 have hul:=hu.len
 have hvl:=hv.len
 refine fQ Tryz.func32 (c:=Tryz.f32.body.getD .skip) (N:=32) ?_
 intro hbx hbad Q hQ
 refine go0 15 [] [] ?_
 refine iQ (t:=(n:Int) != (n:Int)) ((by simp)) ?_
 refine go0 11 [] [] ?_
 refine mQ [0,1,0,1,1] [.block 0,.seq [1,1,1]] (fun (k:Nat) X=>∃ (W1:Vw) ,X W1 [(1,.slice B n d),(2,.func (.func 13) #[] #[]),(15,.slice A n c),(16,Vi (n:Int)),(17,Vi (k:Int))] [] []∧Sees h W1∧(k≤n)) (fun k=>n - k) (0) (fun X q=>⟨h,q _ _ _ _ ⟨rfl,by kernel_rfl⟩,Sees.refl _,Nat.zero_le _⟩) ?_
 rintro k a w ⟨W1,hJ,S2,hk⟩; refine pQ hJ ?_; clear hJ a w
 refine go0 6 [] [] ?_
 rcases (by omega:k < n∨k=n) with hlt | hke
 ·obtain ⟨y,hy⟩:∃ y,l[k]?=some y:=⟨_,List.getElem?_eq_getElem (by omega)⟩
  obtain ⟨u,hu1⟩:∃ y,us[k]?=some y:=⟨_,List.getElem?_eq_getElem (by omega)⟩
  obtain ⟨u',hu2⟩:∃ y,vs[k]?=some y:=⟨_,List.getElem?_eq_getElem (by omega)⟩
  have hga:=AllArgs.get hu hy hu1
  have hgb:=AllArgs.get hv hy hu2
  obtain ⟨Au,nu,cu,rfl⟩:=hga.slice
  obtain ⟨Bu,mu,du,rfl⟩:=hgb.slice
  have hra:(mK l us)[k]?=some (exRow y (.slice Au nu cu)):=by show (List.zipWith exRow _ _)[k]?=_; rw [List.getElem?_zipWith,hy,hu1]
  have hrb:(mK l vs)[k]?=some (exRow y (.slice Bu mu du)):=by show (List.zipWith exRow _ _)[k]?=_; rw [List.getElem?_zipWith,hy,hu2]
  have hi:=ih y (List.mem_of_getElem? hy)
  refine wQ (t:=decide ((k:Int) < (n:Int))) (decide_eq_true (by omega)) ?_
  refine go0 7 [] [] ?_
  obtain ⟨b3,o4,rfl,-,c5⟩:=RS.row ha (hra)
  refine gQ (c5.sees S2) ?_
  refine go1 11 [.ix b3 o4 n c k,.f 0 0,.own,.b 0 0] [] ?_ (ho:=(And.intro (by first | omega | (simp; omega)) (trivial)))
  intro b6
  obtain ⟨b7,o8,rfl,-,c9⟩:=RS.row hb (hrb)
  refine gQ (c9.sees S2) ?_
  refine go1 23 [.ix b7 o8 n d k,.f 0 0,.own,.b 0 0,.b 1 0,.b 0 0,.cl 13 #[.agg #[Vi y.op,Vi y.k,Vi y.n,.string y.s,.string y.nm,.slice Au nu cu],.agg #[Vi y.op,Vi y.k,Vi y.n,.string y.s,.string y.nm,.slice Bu mu du]] (.bool true)] [(31,Vi (IntKind.i64.wrap ((k:Int) + 1)),Vi ((k:Int) + 1))] ?_ (ho:=(And.intro (by first | omega | (simp; omega)) (And.intro (fun H sH=>hi _ _ _ (hga.sees (S2.trans sH)) (hgb.sees (S2.trans sH))) (trivial)))) (hc:=(And.intro (jJ (by omega) (by omega)) (trivial)))
  intro b10
  exact vQ (k + 1) (fun X q=>⟨W1,q _ _ _ _ ⟨rfl,by kernel_rfl⟩,S2,by omega⟩) (by omega)
 ·skip
  refine iQ (t:=decide ((k:Int) < (n:Int))) (decide_eq_false (by omega)) ?_
  refine go0 2 [] [] ?_
  refine lQ ?_
  refine go0 8 [] [] ?_
  refine hQ.to [.bool true] (fun H sH=>?_)
  exact rfl
theorem same_rec:∀ (m:Nat) (x:Ex) (v v':Value) (h:Vw),(szE x).1≤m→IsArgs h x v→IsArgs h x v'→(szE x).1 < 1000000 →
  C0 Tryz.prog 13 #[.agg #[.int .i64 x.op,.int .i64 x.k,.int .i64 x.n,.string x.s,.string x.nm,v],.agg #[.int .i64 x.op,.int .i64 x.k,.int .i64 x.n,.string x.s,.string x.nm,v']] h (fun r _=>r=.bool true)
 | 0,x,v,v',h,hm,_,_,_=>by have:=gY x; omega
 | m + 1,x,v,v',h,hm,hx,hx',hb=>by
  have IH:=same_rec m
  have hse:=fY x
  have hlen:=szL_len x.args
  obtain ⟨ws,hr,hws⟩:=hx.form
  obtain ⟨ws',hr',hws'⟩:=hx'.form
  obtain ⟨A,ca,rfl,hc1,hc2,-⟩:=hr.form
  obtain ⟨B,cb,rfl,-,-,-⟩:=hr'.form
  rw [nK hws.len] at hr ⊢
  rw [nK hws'.len] at hr' ⊢
  rw [hse] at hm hb
  simp only at hm hb
  have hE:=fun H q1 q2 q3 q4=>eqfE x.args ws ws' x.args.length A B ca cb H rfl q1 q2 q3 q4 (by omega) (fun y hy u u' H' q5 q6=>IH y u u' H' (by have:=iY hy; omega) q5 q6 (by have:=iY hy; omega))
  generalize x.args.length=len at *
  refine fQ Tryz.func13 (c:=Tryz.f13.body.getD .skip) (N:=31) ?_
  intro hbx hbad Q hQ
  refine go2 19 [.own,.own,.b 1 0,.b 0 0,.b 1 1,.b 0 1] [(9,.bool (x.op == x.op),.bool true)] ?_ (hc:=(And.intro (congrArg Value.bool (beq_self_eq_true _)) (trivial)))
  intro b1 b2
  refine qQ (.bool true) (fun w=>run_eqop (x:=(.tmp 12)) (y:=(.tmp 14)) (v:=⟨x.k,x.n,x.s⟩) (w:=⟨x.k,x.n,x.s⟩) (by kernel_rfl) (by kernel_rfl) (by kernel_rfl) (eqB_iff.2 rfl)) ?_
  refine go0 19 [.b 1 4,.b 0 4,.b 1 5,.b 0 5,.cl 32 #[.slice A len ca,.slice B len cb,.func (.func 13) #[] #[]] (.bool true)] [(22,.bool (x.nm.toList == x.nm.toList),.bool true)] ?_ (ho:=(And.intro (fun H sH=>hE _ (hr.sees sH) (hr'.sees sH) (hws.sees sH) (hws'.sees sH)) (trivial))) (hc:=(And.intro (congrArg Value.bool (beq_self_eq_true _)) (trivial)))
  refine hQ.to [.bool true] (fun H sH=>?_)
  exact rfl
theorem same_any (x:Ex) (v v':Value) (h:Vw) (hx:IsArgs h x v) (hx':IsArgs h x v') (hb:(szE x).1 < 1000000):C0 Tryz.prog 13 #[.agg #[.int .i64 x.op,.int .i64 x.k,.int .i64 x.n,.string x.s,.string x.nm,v],.agg #[.int .i64 x.op,.int .i64 x.k,.int .i64 x.n,.string x.s,.string x.nm,v']] h (fun r _=>r=.bool true):=same_rec _ x v v' h (Nat.le_refl _) hx hx' hb
end Go.Proofs.YthplkompdehjlaaGreatDoor
namespace Go.Proofs.YthplkompdehjlaaGreatDoor
open Go.RowKit
set_option linter.unusedVariables false
theorem sameF (f:Fd) (A B:Option Addr) (n m c d:Nat) (h:Vw) (ha:IsArgs h f.src (.slice A n c)) (hb:IsArgs h f.src (.slice B m d)) (hsz:(szE f.src).1 < 1000000) :
  C0 Tryz.prog 45 #[.agg #[.string f.name,.int .i64 f.kind,.int .i64 f.ty,.int .i64 f.src.op,.int .i64 f.src.k,.int .i64 f.src.n,.string f.src.s,.string f.src.nm,.slice A n c],.agg #[.string f.name,.int .i64 f.kind,.int .i64 f.ty,.int .i64 f.src.op,.int .i64 f.src.k,.int .i64 f.src.n,.string f.src.s,.string f.src.nm,.slice B m d]] h (fun r _=>r=.bool true):=by
 have hS:=fun H q1 q2=>same_any f.src (.slice A n c) (.slice B m d) H q1 q2 hsz
 refine fQ Tryz.func45 (c:=Tryz.f45.body.getD .skip) (N:=31) ?_
 intro hbx hbad Q hQ
 refine go2 39 [.own,.own,.b 1 0,.b 0 0,.b 1 1,.b 0 1,.b 1 2,.b 0 2,.b 1 3,.b 0 3,.cl 13 #[.agg #[Vi f.src.op,Vi f.src.k,Vi f.src.n,.string f.src.s,.string f.src.nm,.slice A n c],.agg #[Vi f.src.op,Vi f.src.k,Vi f.src.n,.string f.src.s,.string f.src.nm,.slice B m d]] (.bool true)] [(9,.bool (f.name.toList == f.name.toList),.bool true),(15,.bool (f.kind == f.kind),.bool true),(22,.bool (f.ty == f.ty),.bool true)] ?_ (ho:=(And.intro (fun H sH=>hS _ (ha.sees sH) (hb.sees sH)) (trivial))) (hc:=(And.intro (congrArg Value.bool (beq_self_eq_true _)) (And.intro (congrArg Value.bool (beq_self_eq_true _)) (And.intro (congrArg Value.bool (beq_self_eq_true _)) (trivial)))))
 intro b1 b2
 refine hQ.to [.bool true] (fun H sH=>?_)
 exact rfl
theorem eqfF (fs:List Fd) (us vs:List Value) (n:Nat) (A B:Option Addr) (c d:Nat) (h:Vw) (hn:fs.length=n) (ha:RS h 9 (.slice A n c) (qK fs us)) (hb:RS h 9 (.slice B n d) (qK fs vs)) (hu:AllSrc h fs us) (hv:AllSrc h fs vs) (hl:n≤1000000) (hsz:∀ g∈fs,(szE g.src).1 < 1000000) :
  C0 Tryz.prog 44 #[.slice A n c,.slice B n d,.func (.func 45) #[] #[]] h (fun r _=>r=.bool true):=by
 have hul:=hu.len
 have hvl:=hv.len
 refine fQ Tryz.func44 (c:=Tryz.f44.body.getD .skip) (N:=32) ?_
 intro hbx hbad Q hQ
 refine go0 15 [] [] ?_
 refine iQ (t:=(n:Int) != (n:Int)) ((by simp)) ?_
 refine go0 11 [] [] ?_
 refine mQ [0,1,0,1,1] [.block 0,.seq [1,1,1]] (fun (k:Nat) X=>∃ (W1:Vw) ,X W1 [(1,.slice B n d),(2,.func (.func 45) #[] #[]),(15,.slice A n c),(16,Vi (n:Int)),(17,Vi (k:Int))] [] []∧Sees h W1∧(k≤n)) (fun k=>n - k) (0) (fun X q=>⟨h,q _ _ _ _ ⟨rfl,by kernel_rfl⟩,Sees.refl _,Nat.zero_le _⟩) ?_
 rintro k a w ⟨W1,hJ,S2,hk⟩; refine pQ hJ ?_; clear hJ a w
 refine go0 6 [] [] ?_
 rcases (by omega:k < n∨k=n) with hlt | hke
 ·obtain ⟨y,hy⟩:∃ y,fs[k]?=some y:=⟨_,List.getElem?_eq_getElem (by omega)⟩
  obtain ⟨u,hu1⟩:∃ y,us[k]?=some y:=⟨_,List.getElem?_eq_getElem (by omega)⟩
  obtain ⟨u',hu2⟩:∃ y,vs[k]?=some y:=⟨_,List.getElem?_eq_getElem (by omega)⟩
  have hga:=AllSrc.get hu hy hu1
  have hgb:=AllSrc.get hv hy hu2
  obtain ⟨Au,nu,cu,rfl⟩:=hga.slice
  obtain ⟨Bu,mu,du,rfl⟩:=hgb.slice
  have hra:=rK hy hu1
  have hrb:=rK hy hu2
  have hi:=fun H q1 q2=>sameF y Au Bu nu mu cu du H q1 q2 (hsz y (List.mem_of_getElem? hy))
  refine wQ (t:=decide ((k:Int) < (n:Int))) (decide_eq_true (by omega)) ?_
  refine go0 7 [] [] ?_
  obtain ⟨b3,o4,rfl,-,c5⟩:=RS.row ha (hra)
  refine gQ (c5.sees S2) ?_
  refine go1 11 [.ix b3 o4 n c k,.f 0 0,.own,.b 0 0] [] ?_ (ho:=(And.intro (by first | omega | (simp; omega)) (trivial)))
  intro b6
  obtain ⟨b7,o8,rfl,-,c9⟩:=RS.row hb (hrb)
  refine gQ (c9.sees S2) ?_
  refine go1 23 [.ix b7 o8 n d k,.f 0 0,.own,.b 0 0,.b 1 0,.b 0 0,.cl 45 #[.agg #[.string y.name,Vi y.kind,Vi y.ty,Vi y.src.op,Vi y.src.k,Vi y.src.n,.string y.src.s,.string y.src.nm,.slice Au nu cu],.agg #[.string y.name,Vi y.kind,Vi y.ty,Vi y.src.op,Vi y.src.k,Vi y.src.n,.string y.src.s,.string y.src.nm,.slice Bu mu du]] (.bool true)] [(31,Vi (IntKind.i64.wrap ((k:Int) + 1)),Vi ((k:Int) + 1))] ?_ (ho:=(And.intro (by first | omega | (simp; omega)) (And.intro (fun H sH=>hi _ (hga.sees (S2.trans sH)) (hgb.sees (S2.trans sH))) (trivial)))) (hc:=(And.intro (jJ (by omega) (by omega)) (trivial)))
  intro b10
  exact vQ (k + 1) (fun X q=>⟨W1,q _ _ _ _ ⟨rfl,by kernel_rfl⟩,S2,by omega⟩) (by omega)
 ·skip
  refine iQ (t:=decide ((k:Int) < (n:Int))) (decide_eq_false (by omega)) ?_
  refine go0 2 [] [] ?_
  refine lQ ?_
  refine go0 8 [] [] ?_
  refine hQ.to [.bool true] (fun H sH=>?_)
  exact rfl
theorem eqStr (l:List ByteArray) (v u:Value) (h:Vw) (ha:RS h 1 v (eY l)) (hb:RS h 1 u (eY l)) (hl:l.length≤1000000):C0 Tryz.prog 48 #[v,u] h (fun r _=>r=.bool true):=by
 obtain ⟨A1,c1,rfl,-,-,-⟩:=ha.form
 obtain ⟨A2,c2,rfl,-,-,-⟩:=hb.form
 rw [List.length_map] at *
 generalize hL:l.length=n at *
 refine fQ Tryz.func48 (c:=Tryz.f48.body.getD .skip) (N:=26) ?_
 intro hbx hbad Q hQ
 refine go0 15 [] [] ?_
 refine iQ (t:=(n:Int) != (n:Int)) ((by simp)) ?_
 refine go0 11 [] [] ?_
 refine mQ [0,1,0,1,1] [.block 0,.seq [1,1,1]] (fun (k:Nat) X=>∃ (W1:Vw) ,X W1 [(0,.slice A1 n c1),(1,.slice A2 n c2),(12,Vi (n:Int)),(13,Vi (k:Int))] [] []∧Sees h W1∧(k≤n)) (fun k=>n - k) (0) (fun X q=>⟨h,q _ _ _ _ ⟨rfl,by kernel_rfl⟩,Sees.refl _,Nat.zero_le _⟩) ?_
 rintro k a w ⟨W1,hJ,S2,hk⟩; refine pQ hJ ?_; clear hJ a w
 refine go0 6 [] [] ?_
 rcases (by omega:k < n∨k=n) with hlt | hke
 ·obtain ⟨x,hx⟩:∃ x,l[k]?=some x:=⟨_,List.getElem?_eq_getElem (by omega)⟩
  have hrow:(eY l)[k]?=some [.string x]:=by rw [List.getElem?_map,hx]; rfl
  refine wQ (t:=decide ((k:Int) < (n:Int))) (decide_eq_true (by omega)) ?_
  refine go0 11 [] [] ?_
  obtain ⟨b3,o4,rfl,-,c5⟩:=RS.row ha (hrow)
  refine gQ (c5.sees S2) ?_
  obtain ⟨b6,o7,rfl,-,c8⟩:=RS.row hb (hrow)
  refine gQ (c8.sees S2) ?_
  refine tQ 9 0 [.pu,.pu,.v (fun gh=>.pointer (some ⟨b3,o4 + k * 1,none⟩)),.lf 1 0,.pu,.pu,.v (fun gh=>.pointer (some ⟨b6,o7 + k * 1,none⟩)),.lf 0 0,.v (fun gh=>.bool false)] [] (trivial) ?_ ?_
  ·intro R hT hA hmono
   refine And.intro (t_ix hT hA b3 o4 n c1 k (fun gh=>.pointer (some ⟨b3,o4 + k * 1,none⟩)) (by first | omega | (simp; omega))) ?_
   refine And.intro (t_ix hT hA b6 o7 n c2 k (fun gh=>.pointer (some ⟨b6,o7 + k * 1,none⟩)) (by first | omega | (simp; omega))) ?_
   refine And.intro (t_eq hT hA (fun gh=>.bool false) (fun gh=>.bool (x.toList != x.toList)) (fun gh=>congrArg Value.bool (by simp))) ?_
   trivial
  rintro W9 S10 -
  refine go0 9 [] [(25,Vi (IntKind.i64.wrap ((k:Int) + 1)),Vi ((k:Int) + 1))] ?_ (hc:=(And.intro (jJ (by omega) (by omega)) (trivial)))
  exact vQ (k + 1) (fun X q=>⟨W9,q _ _ _ _ ⟨rfl,by kernel_rfl⟩,(S2.trans S10),by omega⟩) (by omega)
 ·skip
  refine iQ (t:=decide ((k:Int) < (n:Int))) (decide_eq_false (by omega)) ?_
  refine go0 2 [] [] ?_
  refine lQ ?_
  refine go0 8 [] [] ?_
  refine hQ.to [.bool true] (fun H sH=>?_)
  exact rfl
theorem sameP (p:Pg) (Af Bf A B:Option Addr) (nf cf df n m c d:Nat) (h:Vw) (hfa:RS h 1 (.slice Af nf cf) (eY p.fields)) (hfb:RS h 1 (.slice Bf nf df) (eY p.fields)) (hfl:p.fields.length≤1000000) (ha:IsArgs h p.skip (.slice A n c)) (hb:IsArgs h p.skip (.slice B m d)) (hsz:(szE p.skip).1 < 1000000) :
  C0 Tryz.prog 47 #[.agg #[.string p.name,.slice Af nf cf,.int .i64 p.skip.op,.int .i64 p.skip.k,.int .i64 p.skip.n,.string p.skip.s,.string p.skip.nm,.slice A n c],.agg #[.string p.name,.slice Bf nf df,.int .i64 p.skip.op,.int .i64 p.skip.k,.int .i64 p.skip.n,.string p.skip.s,.string p.skip.nm,.slice B m d]] h (fun r _=>r=.bool true):=by
 have hS:=fun H q1 q2=>same_any p.skip (.slice A n c) (.slice B m d) H q1 q2 hsz
 have hT':=fun H q1 q2=>eqStr p.fields (.slice Af nf cf) (.slice Bf nf df) H q1 q2 hfl
 refine fQ Tryz.func47 (c:=Tryz.f47.body.getD .skip) (N:=24) ?_
 intro hbx hbad Q hQ
 refine go2 32 [.own,.own,.b 1 0,.b 0 0,.b 1 1,.b 0 1,.cl 48 #[.slice Af nf cf,.slice Bf nf df] (.bool true),.b 1 2,.b 0 2,.cl 13 #[.agg #[Vi p.skip.op,Vi p.skip.k,Vi p.skip.n,.string p.skip.s,.string p.skip.nm,.slice A n c],.agg #[Vi p.skip.op,Vi p.skip.k,Vi p.skip.n,.string p.skip.s,.string p.skip.nm,.slice B m d]] (.bool true)] [(9,.bool (p.name.toList == p.name.toList),.bool true)] ?_ (ho:=(And.intro (fun H sH=>hT' _ (hfa.sees sH) (hfb.sees sH)) (And.intro (fun H sH=>hS _ (ha.sees sH) (hb.sees sH)) (trivial)))) (hc:=(And.intro (congrArg Value.bool (beq_self_eq_true _)) (trivial)))
 intro b1 b2
 refine hQ.to [.bool true] (fun H sH=>?_)
 exact rfl
theorem eqfP (ps:List Pg) (xs us ys vs:List Value) (n:Nat) (A B:Option Addr) (c d:Nat) (h:Vw) (hn:ps.length=n) (ha:RS h 8 (.slice A n c) (oW ps xs us)) (hb:RS h 8 (.slice B n d) (oW ps ys vs)) (hx:AllStr h (ps.map (·.fields)) xs) (hy:AllStr h (ps.map (·.fields)) ys) (hu:AllArgs h (ps.map (·.skip)) us) (hv:AllArgs h (ps.map (·.skip)) vs) (hl:n≤1000000) (hsz:∀ g∈ps,(szE g.skip).1 < 1000000) (hfl:∀ p∈ps,p.fields.length≤1000000) :
  C0 Tryz.prog 46 #[.slice A n c,.slice B n d,.func (.func 47) #[] #[]] h (fun r _=>r=.bool true):=by
 have hxl:=hx.len
 have hyl:=hy.len
 have hul:=hu.len
 have hvl:=hv.len
 rw [List.length_map] at hxl hyl hul hvl
 refine fQ Tryz.func46 (c:=Tryz.f46.body.getD .skip) (N:=32) ?_
 intro hbx hbad Q hQ
 refine go0 15 [] [] ?_
 refine iQ (t:=(n:Int) != (n:Int)) ((by simp)) ?_
 refine go0 11 [] [] ?_
 refine mQ [0,1,0,1,1] [.block 0,.seq [1,1,1]] (fun (k:Nat) X=>∃ (W1:Vw) ,X W1 [(1,.slice B n d),(2,.func (.func 47) #[] #[]),(15,.slice A n c),(16,Vi (n:Int)),(17,Vi (k:Int))] [] []∧Sees h W1∧(k≤n)) (fun k=>n - k) (0) (fun X q=>⟨h,q _ _ _ _ ⟨rfl,by kernel_rfl⟩,Sees.refl _,Nat.zero_le _⟩) ?_
 rintro k a w ⟨W1,hJ,S2,hk⟩; refine pQ hJ ?_; clear hJ a w
 refine go0 6 [] [] ?_
 rcases (by omega:k < n∨k=n) with hlt | hke
 ·obtain ⟨p,hp⟩:∃ y,ps[k]?=some y:=⟨_,List.getElem?_eq_getElem (by omega)⟩
  obtain ⟨u,hu1⟩:∃ y,us[k]?=some y:=⟨_,List.getElem?_eq_getElem (by omega)⟩
  obtain ⟨u',hu2⟩:∃ y,vs[k]?=some y:=⟨_,List.getElem?_eq_getElem (by omega)⟩
  obtain ⟨x,hx1⟩:∃ y,xs[k]?=some y:=⟨_,List.getElem?_eq_getElem (by omega)⟩
  obtain ⟨x',hx2⟩:∃ y,ys[k]?=some y:=⟨_,List.getElem?_eq_getElem (by omega)⟩
  have hga:=AllArgs.get hu (x:=p.skip) (by rw [List.getElem?_map,hp]; rfl) hu1
  have hgb:=AllArgs.get hv (x:=p.skip) (by rw [List.getElem?_map,hp]; rfl) hu2
  have hfa:=AllStr.get hx (x:=p.fields) (by rw [List.getElem?_map,hp]; rfl) hx1
  have hfb:=AllStr.get hy (x:=p.fields) (by rw [List.getElem?_map,hp]; rfl) hx2
  obtain ⟨Au,nu,cu,rfl⟩:=hga.slice
  obtain ⟨Bu,mu,du,rfl⟩:=hgb.slice
  obtain ⟨Ax,cx,rfl,-⟩:=hfa.form
  obtain ⟨Bx,dx,rfl,-⟩:=hfb.form
  have hra:=pgRows_get hp hx1 hu1
  have hrb:=pgRows_get hp hx2 hu2
  have hi:=fun H q1 q2 q3 q4=>sameP p Ax Bx Au Bu (eY p.fields).length cx dx nu mu cu du H q1 q2 (hfl p (List.mem_of_getElem? hp)) q3 q4 (hsz p (List.mem_of_getElem? hp))
  refine wQ (t:=decide ((k:Int) < (n:Int))) (decide_eq_true (by omega)) ?_
  refine go0 7 [] [] ?_
  obtain ⟨b3,o4,rfl,-,c5⟩:=RS.row ha (hra)
  refine gQ (c5.sees S2) ?_
  refine go1 11 [.ix b3 o4 n c k,.f 0 0,.own,.b 0 0] [] ?_ (ho:=(And.intro (by first | omega | (simp; omega)) (trivial)))
  intro b6
  obtain ⟨b7,o8,rfl,-,c9⟩:=RS.row hb (hrb)
  refine gQ (c9.sees S2) ?_
  refine go1 23 [.ix b7 o8 n d k,.f 0 0,.own,.b 0 0,.b 1 0,.b 0 0,.cl 47 #[.agg #[.string p.name,.slice Ax ((eY p.fields).length) cx,Vi p.skip.op,Vi p.skip.k,Vi p.skip.n,.string p.skip.s,.string p.skip.nm,.slice Au nu cu],.agg #[.string p.name,.slice Bx ((eY p.fields).length) dx,Vi p.skip.op,Vi p.skip.k,Vi p.skip.n,.string p.skip.s,.string p.skip.nm,.slice Bu mu du]] (.bool true)] [(31,Vi (IntKind.i64.wrap ((k:Int) + 1)),Vi ((k:Int) + 1))] ?_ (ho:=(And.intro (by first | omega | (simp; omega)) (And.intro (fun H sH=>hi _ (hfa.sees (S2.trans sH)) (hfb.sees (S2.trans sH)) (hga.sees (S2.trans sH)) (hgb.sees (S2.trans sH))) (trivial)))) (hc:=(And.intro (jJ (by omega) (by omega)) (trivial)))
  intro b10
  exact vQ (k + 1) (fun X q=>⟨W1,q _ _ _ _ ⟨rfl,by kernel_rfl⟩,S2,by omega⟩) (by omega)
 ·skip
  refine iQ (t:=decide ((k:Int) < (n:Int))) (decide_eq_false (by omega)) ?_
  refine go0 2 [] [] ?_
  refine lQ ?_
  refine go0 8 [] [] ?_
  refine hQ.to [.bool true] (fun H sH=>?_)
  exact rfl
theorem sameForm_any (f:Fm) (ρ:List Int) (lv:Nat→Nat) (hok:OkFm f ρ lv) (fv pv fv' pv':Value) (h:Vw) (h1:IsForm h fv pv f) (h2:IsForm h fv' pv' f):C0 Tryz.prog 20 #[.agg #[fv,pv],.agg #[fv',pv']] h (fun r _=>r=.bool true):=by
 obtain ⟨s1,s2⟩:=hok.small
 have few:=hok.fields.few
 have hm:=hok.pages.few
 have hfl:∀ p∈f.pages,p.fields.length≤1000000:=fun p hp=>by have:=hok.pages.fl p hp; omega
 obtain ⟨vs,A,c,rfl,-,-,ha,hv,-,-⟩:=uK h1.fields
 obtain ⟨us,ws,B,d,rfl,-,hb,hu,hw,-,-⟩:=pgs_open h1.pages
 obtain ⟨vs',A',c',rfl,-,-,ha',hv',-,-⟩:=uK h2.fields
 obtain ⟨us',ws',B',d',rfl,-,hb',hu',hw',-,-⟩:=pgs_open h2.pages
 have hF:=fun H q1 q2 q3 q4=>eqfF f.fields vs vs' f.fields.length A A' c c' H rfl q1 q2 q3 q4 (by omega) s1
 have hP:=fun H q1 q2 q3 q4 q5 q6=>eqfP f.pages us ws us' ws' f.pages.length B B' d d' H rfl q1 q2 q3 q4 q5 q6 (by omega) s2 hfl
 generalize f.fields.length=n at *
 generalize f.pages.length=m at *
 refine fQ Tryz.func20 (c:=Tryz.f20.body.getD .skip) (N:=17) ?_
 intro hbx hbad Q hQ
 refine go2 25 [.own,.own,.b 1 0,.b 0 0,.cl 44 #[.slice A n c,.slice A' n c',.func (.func 45) #[] #[]] (.bool true),.b 1 1,.b 0 1,.cl 46 #[.slice B m d,.slice B' m d',.func (.func 47) #[] #[]] (.bool true)] [] ?_ (ho:=(And.intro (fun H sH=>hF _ (ha.sees sH) (ha'.sees sH) (hv.sees sH) (hv'.sees sH)) (And.intro (fun H sH=>hP _ (hb.sees sH) (hb'.sees sH) (hu.sees sH) (hu'.sees sH) (hw.sees sH) (hw'.sees sH)) (trivial))))
 intro b1 b2
 refine hQ.to [.bool true] (fun H sH=>?_)
 exact rfl
end Go.Proofs.YthplkompdehjlaaGreatDoor
