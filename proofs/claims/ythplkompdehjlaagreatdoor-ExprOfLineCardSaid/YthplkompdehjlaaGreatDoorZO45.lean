/-
  The laws' SameExpr at the same thing twice.
-/
import Derived.Test.YthplkompdehjlaaGreatDoorZO9
import Derived.Test.YthplkompdehjlaaGreatDoorZO19
import Derived.Test.YthplkompdehjlaaGreatDoorZO21
set_option maxRecDepth 100000
namespace Go.Proofs.YthplkompdehjlaaGreatDoor
open Go.RowKit
set_option linter.unusedVariables false
theorem eqfE (l:List Ex) (us vs:List Value) (n:Nat) (A B:Option Addr) (c d:Nat) (h:Vw) (hn:l.length=n) (ha:RS h 6 (.slice A n c) (zJ l us)) (hb:RS h 6 (.slice B n d) (zJ l vs)) (hu:AllArgs h l us) (hv:AllArgs h l vs) (hl:n≤1000000)
  (ih:∀ y∈l,∀ u u' H,IsArgs H y u→IsArgs H y u'→C0 Tryz.prog 13 #[.agg #[.int .i64 y.op,.int .i64 y.k,.int .i64 y.n,.string y.s,.string y.nm,u],.agg #[.int .i64 y.op,.int .i64 y.k,.int .i64 y.n,.string y.s,.string y.nm,u']] H (fun r _=>r=.bool true)) :
  C0 Tryz.prog 32 #[.slice A n c,.slice B n d,.func (.func 13) #[] #[]] h (fun r _=>r=.bool true):=by
 have hul:=hu.len
 have hvl:=hv.len
 refine kK Tryz.func32 (c:=Tryz.f32.body.getD .skip) (N:=32) ?_
 intro hbx hbad Q hQ
 refine go0 15 [] [] ?_
 refine mK (t:=(n:Int) != (n:Int)) ((by simp)) ?_
 refine go0 11 [] [] ?_
 refine oK [0,1,0,1,1] [.block 0,.seq [1,1,1]] (fun (k:Nat) X=>∃ (W1:Vw) ,X W1 [(1,.slice B n d),(2,.func (.func 13) #[] #[]),(15,.slice A n c),(16,Vi (n:Int)),(17,Vi (k:Int))] [] []∧Sees h W1∧(k≤n)) (fun k=>n - k) (0) (fun X q=>⟨h,q _ _ _ _ ⟨rfl,by kernel_rfl⟩,Sees.refl _,Nat.zero_le _⟩) ?_
 rintro k a w ⟨W1,hJ,S2,hk⟩; refine rK hJ ?_; clear hJ a w
 refine go0 6 [] [] ?_
 rcases (by omega:k < n∨k=n) with hlt | hke
 ·obtain ⟨y,hy⟩:∃ y,l[k]?=some y:=⟨_,List.getElem?_eq_getElem (by omega)⟩
  obtain ⟨u,hu1⟩:∃ y,us[k]?=some y:=⟨_,List.getElem?_eq_getElem (by omega)⟩
  obtain ⟨u',hu2⟩:∃ y,vs[k]?=some y:=⟨_,List.getElem?_eq_getElem (by omega)⟩
  have hga:=AllArgs.get hu hy hu1
  have hgb:=AllArgs.get hv hy hu2
  obtain ⟨Au,nu,cu,rfl⟩:=hga.slice
  obtain ⟨Bu,mu,du,rfl⟩:=hgb.slice
  have hra:(zJ l us)[k]?=some (exRow y (.slice Au nu cu)):=by show (List.zipWith exRow _ _)[k]?=_; rw [List.getElem?_zipWith,hy,hu1]
  have hrb:(zJ l vs)[k]?=some (exRow y (.slice Bu mu du)):=by show (List.zipWith exRow _ _)[k]?=_; rw [List.getElem?_zipWith,hy,hu2]
  have hi:=ih y (List.mem_of_getElem? hy)
  refine wK (t:=decide ((k:Int) < (n:Int))) (decide_eq_true (by omega)) ?_
  refine go0 7 [] [] ?_
  obtain ⟨b3,o4,rfl,-,c5⟩:=RS.row ha (hra)
  refine lK (c5.sees S2) ?_
  refine go1 11 [.ix b3 o4 n c k,.f 0 0,.own,.b 0 0] [] ?_ (ho:=(And.intro (by first | omega | (simp; omega)) (trivial)))
  intro b6
  obtain ⟨b7,o8,rfl,-,c9⟩:=RS.row hb (hrb)
  refine lK (c9.sees S2) ?_
  refine go1 23 [.ix b7 o8 n d k,.f 0 0,.own,.b 0 0,.b 1 0,.b 0 0,.cl 13 #[.agg #[Vi y.op,Vi y.k,Vi y.n,.string y.s,.string y.nm,.slice Au nu cu],.agg #[Vi y.op,Vi y.k,Vi y.n,.string y.s,.string y.nm,.slice Bu mu du]] (.bool true)] [(31,Vi (IntKind.i64.wrap ((k:Int) + 1)),Vi ((k:Int) + 1))] ?_ (ho:=(And.intro (by first | omega | (simp; omega)) (And.intro (fun H sH=>hi _ _ _ (hga.sees (S2.trans sH)) (hgb.sees (S2.trans sH))) (trivial)))) (hc:=(And.intro (fJ (by omega) (by omega)) (trivial)))
  intro b10
  exact vK (k + 1) (fun X q=>⟨W1,q _ _ _ _ ⟨rfl,by kernel_rfl⟩,S2,by omega⟩) (by omega)
 ·skip
  refine mK (t:=decide ((k:Int) < (n:Int))) (decide_eq_false (by omega)) ?_
  refine go0 2 [] [] ?_
  refine nK ?_
  refine go0 8 [] [] ?_
  refine hQ.to [.bool true] (fun H sH=>?_)
  exact rfl
theorem same_rec:∀ (m:Nat) (x:Ex) (v v':Value) (h:Vw),(szE x).1≤m→IsArgs h x v→IsArgs h x v'→(szE x).1 < 1000000 →
  C0 Tryz.prog 13 #[.agg #[.int .i64 x.op,.int .i64 x.k,.int .i64 x.n,.string x.s,.string x.nm,v],.agg #[.int .i64 x.op,.int .i64 x.k,.int .i64 x.n,.string x.s,.string x.nm,v']] h (fun r _=>r=.bool true)
 | 0,x,v,v',h,hm,_,_,_=>by have:=mW x; omega
 | m + 1,x,v,v',h,hm,hx,hx',hb=>by
  have IH:=same_rec m
  have hse:=lW x
  have hlen:=szL_len x.args
  obtain ⟨ws,hr,hws⟩:=hx.form
  obtain ⟨ws',hr',hws'⟩:=hx'.form
  obtain ⟨A,ca,rfl,hc1,hc2,-⟩:=hr.form
  obtain ⟨B,cb,rfl,-,-,-⟩:=hr'.form
  rw [aK hws.len] at hr ⊢
  rw [aK hws'.len] at hr' ⊢
  rw [hse] at hm hb
  simp only at hm hb
  have hE:=fun H q1 q2 q3 q4=>eqfE x.args ws ws' x.args.length A B ca cb H rfl q1 q2 q3 q4 (by omega) (fun y hy u u' H' q5 q6=>IH y u u' H' (by have:=nW hy; omega) q5 q6 (by have:=nW hy; omega))
  generalize x.args.length=len at *
  refine kK Tryz.func13 (c:=Tryz.f13.body.getD .skip) (N:=31) ?_
  intro hbx hbad Q hQ
  refine go2 19 [.own,.own,.b 1 0,.b 0 0,.b 1 1,.b 0 1] [(9,.bool (x.op == x.op),.bool true)] ?_ (hc:=(And.intro (congrArg Value.bool (beq_self_eq_true _)) (trivial)))
  intro b1 b2
  refine sK (.bool true) (fun w=>run_eqop (x:=(.tmp 12)) (y:=(.tmp 14)) (v:=⟨x.k,x.n,x.s⟩) (w:=⟨x.k,x.n,x.s⟩) (by kernel_rfl) (by kernel_rfl) (by kernel_rfl) (eqB_iff.2 rfl)) ?_
  refine go0 19 [.b 1 4,.b 0 4,.b 1 5,.b 0 5,.cl 32 #[.slice A len ca,.slice B len cb,.func (.func 13) #[] #[]] (.bool true)] [(22,.bool (x.nm.toList == x.nm.toList),.bool true)] ?_ (ho:=(And.intro (fun H sH=>hE _ (hr.sees sH) (hr'.sees sH) (hws.sees sH) (hws'.sees sH)) (trivial))) (hc:=(And.intro (congrArg Value.bool (beq_self_eq_true _)) (trivial)))
  refine hQ.to [.bool true] (fun H sH=>?_)
  exact rfl
theorem same_any (x:Ex) (v v':Value) (h:Vw) (hx:IsArgs h x v) (hx':IsArgs h x v') (hb:(szE x).1 < 1000000):C0 Tryz.prog 13 #[.agg #[.int .i64 x.op,.int .i64 x.k,.int .i64 x.n,.string x.s,.string x.nm,v],.agg #[.int .i64 x.op,.int .i64 x.k,.int .i64 x.n,.string x.s,.string x.nm,v']] h (fun r _=>r=.bool true):=same_rec _ x v v' h (Nat.le_refl _) hx hx' hb
end Go.Proofs.YthplkompdehjlaaGreatDoor
