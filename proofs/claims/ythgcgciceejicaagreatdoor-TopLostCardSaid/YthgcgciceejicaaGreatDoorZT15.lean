/-
  Sizes of formulas; the contract of expr.Size.
-/
import Derived.Test.YthgcgciceejicaaGreatDoorZT14
namespace Go.Proofs.YthgcgciceejicaaGreatDoor
open Go.RowKit
mutual
def szE:Ex -> Nat × Nat
 | .mk _ _ _ _ _ args=>(1 + (szL args).1,1 + (szL args).2)
def szL:List Ex -> Nat × Nat
 | []=>(0,0)
 | x :: l=>((szE x).1 + (szL l).1,max (szE x).2 (szL l).2)
end
theorem zY (x:Ex):szE x=(1 + (szL x.args).1,1 + (szL x.args).2):=by
 obtain ⟨a,b,c,d,e,l⟩:=x;rw [szE]; rfl
theorem szL_snoc (y:Ex):∀ (l:List Ex),szL (l++[y])=((szL l).1 + (szE y).1,max (szL l).2 (szE y).2)
 | []=>by simp [szL]
 | x :: l=>by
  show szL (x :: (l++[y]))=_;rw [szL,szL_snoc y l,szL];simp only [Xv];rw [Nat.max_assoc]
theorem szL_mem {y:Ex}:∀ {l:List Ex},y∈l -> (szE y).1 <= (szL l).1 /\ (szE y).2 <= (szL l).2
 | x :: l,h=>by
  rw [szL];rcases Tj.1 h with rfl | h
  ·exact ⟨Nat.le_add_right _ _,Nat.le_max_left _ _⟩
  ·have:=szL_mem h
   exact ⟨by simp only; omega,Yk this.2 (Nat.le_max_right _ _)⟩
theorem szE_pos (x:Ex):1 <= (szE x).1:=by rw [zY]; simp
theorem szL_take (l:List Ex) (k:Nat):(szL (l.take k)).1 <= (szL l).1 /\ (szL (l.take k)).2 <= (szL l).2:=by
 induction l generalizing k with
 | nil=>simp [szL]
 | cons x l ih =>
  cases k with
  | zero=>simp [szL]
  | succ k =>
   have:=ih k
   rw [List.take_succ_cons,szL,szL];exact ⟨by simp only; omega,by simp only; omega⟩
theorem szL_len (l:List Ex):l.length <= (szL l).1:=by
 induction l with
 | nil=>simp
 | cons x l ih=>have:=szE_pos x; rw [szL,Sk]; simp only; omega
theorem szE_deep:∀ (m:Nat) (x:Ex),(szE x).1 <= m -> (szE x).2 <= (szE x).1
 | 0,x,h=>by have:=szE_pos x; omega
 | m + 1,x,h=>by
  rw [zY] at h ⊢
  have:∀ l:List Ex,(szL l).1 <= m -> (szL l).2 <= (szL l).1:=by
   intro l
   induction l with
   | nil=>intro _; simp [szL]
   | cons y l ih =>
    intro hl;rw [szL] at hl ⊢;simp only at hl ⊢;have h1:=szE_deep m y (by omega);have h2:=ih (by omega);omega
  have:=this x.args (by simp only at h; omega)
  simp only; omega
theorem tup2 {a b c d:Int} (h1:a=c) (h2:b=d):pack [Vi a,Vi b]=.tuple #[Vi c,Vi d]:=by rw [h1,h2]; rfl
set_option maxRecDepth 100000 in
theorem size_any:∀ (m:Nat) (x:Ex) (v:Value) (h:Vw),(szE x).1 <= m -> IsArgs h x v -> (szE x).1 < 1000000 ->
  C0 Tryz.prog 155 #[.agg #[Vi x.op,Vi x.k,Vi x.n,.string x.s,.string x.nm,v]] h (λr _=>r=.tuple #[Vi ((szE x).1:Int),Vi ((szE x).2:Int)])
 | 0,x,v,h,hm,_,_=>by have:=szE_pos x; omega
 | m + 1,x,v,h,hm,hx,hb=>by
  have IH:=size_any m;have hse:=zY x;have hde:=szE_deep _ x (Hj _);obtain ⟨vs,hr,hvs⟩:=hx.form;obtain ⟨A,ca,rfl,hc1,hc2,-⟩:=hr.form;have hvl:=hvs.len;have hrl:=sK hvl;have hlen:=szL_len x.args;rw [hrl] at hc1 hr ⊢;rw [hse] at hm hb hde ⊢;simp only at hm hb hde;generalize hL:x.args.length=len at *;refine pQ Tryz.func155 λhbx hbad Q hQ=>?_;refine oV 23 [.fix,.f 0 5] [] ?_;intro b1 W2 S3;refine yQ [0,1,0,1,1] [.block 0,.seq [1,1,1]] (λ(k:Nat) X=>∃ (W4:Vw) ,X W4 [(11,.slice A len ca),(12,Vi (len:Int)),(13,Vi (k:Int)),(4,Vi ((1 + (szL (x.args.take k)).1:Nat):Int)),(5,Vi ((szL (x.args.take k)).2:Int))] [] [(b1,0,[Vi x.op,Vi x.k,Vi x.n,.string x.s,.string x.nm,.slice A len ca])] /\ Sees W2 W4 /\ (k <= len)) (λk=>len - k) (0) (λX q=>⟨W2,q _ _ _ _ ⟨rfl,by kernel_rfl⟩,Sees.refl _,Mj _⟩) ?_;rintro k a w ⟨W4,hJ,S5,hk⟩; refine dV hJ ?_; clear hJ a w;refine go0 6 [] [] ?_;have htk:=szL_take x.args k;rcases (by omega:k < len\/len=k) with hlt | hke
  ·obtain ⟨y,hy⟩:∃ y,x.args[k]?=some y:=⟨_,Gj (by omega)⟩;obtain ⟨u,hu⟩:∃ u,vs[k]?=some u:=⟨_,Gj (by omega)⟩;have hyu:=AllArgs.get hvs hy hu;obtain ⟨Au,nu,cu,rfl⟩:=hyu.slice;have hym:=szL_mem (Ej hy);have hrow:(rK x.args vs)[k]?=some (exRow y (.slice Au nu cu)):=by show (List.zipWith exRow _ _)[k]?=_; rw [Dw,hy,hu]
   have hsn:=szL_snoc y (x.args.take k);rw [<- cZ _ k y hy] at hsn;have hsn1:=Dj Prod.fst hsn;have hsn2:=Dj Prod.snd hsn;have htk2:=szL_take x.args (k + 1);simp only at hsn1 hsn2;refine jV (t:=decide ((k:Int) < (len:Int))) (Jj (by omega)) ?_;refine go0 6 [] [] ?_;obtain ⟨b6,o7,rfl,-,c8⟩:=RS.row hr (hrow);refine qQ (c8.sees (S3.trans S5)) ?_;refine go1 33 [.ix b6 o7 len ca k,.f 0 0,.own,.b 0 0,.b 0 0,.cl 155 #[.agg #[Vi y.op,Vi y.k,Vi y.n,.string y.s,.string y.nm,.slice Au nu cu]] (.tuple #[Vi ((szE y).1:Int),Vi ((szE y).2:Int)])] [(24,Vi (IntKind.i64.wrap (((1 + (szL (x.args.take k)).1:Nat):Int) + ((szE y).1:Int))),Vi (((1 + (szL (x.args.take k)).1:Nat):Int) + ((szE y).1:Int))),(28,Vi (IntKind.i64.wrap ((k:Int) + 1)),Vi ((k:Int) + 1))] ?_ (ho:=(Aj (by first | omega | (simp; omega)) (Aj (λH sH=>IH y _ _ (by omega) (hyu.sees (S3.trans (S5.trans sH))) (by omega)) (trivial)))) (hc:=(Aj (jJ (by omega) (by omega)) (Aj (jJ (by omega) (by omega)) (trivial))));intro b9;refine gV 4 (v:=Vi (((1 + (szL (x.args.take k)).1:Nat):Int) + ((szE y).1:Int))) (v':=Vi ((1 + (szL (x.args.take (k + 1))).1:Nat):Int)) (Dj (Value.int .i64) (by omega)) ?_;refine gV 5 (v:=Vi (if ((szE y).2:Int) > ((szL (x.args.take k)).2:Int) then ((szE y).2:Int) else ((szL (x.args.take k)).2:Int))) (v':=Vi ((szL (x.args.take (k + 1))).2:Int)) (Dj (Value.int .i64) (by split <;> omega)) ?_;exact iV (k + 1) (λX q=>⟨W4,q _ _ _ _ ⟨rfl,by kernel_rfl⟩,S5,by omega⟩)
  ·skip;have hta:x.args.take k=x.args:=by rw [<- hke, <- hL,Pk]
   rw [hta] at htk ⊢;refine tQ (t:=decide ((k:Int) < (len:Int))) (Kj (by omega)) ?_;refine go0 2 [] [] ?_;refine xQ ?_;refine go0 12 [] [(31,Vi (IntKind.i64.wrap (((szL x.args).2:Int) + 1)),Vi (((szL x.args).2:Int) + 1))] ?_ (hc:=(Aj (jJ (by omega) (by omega)) (trivial)));refine hQ.to [Vi ((1 + (szL x.args).1:Nat):Int),Vi (((szL x.args).2:Int) + 1)] (λH sH=>?_);exact tup2 rfl (by simp only; omega)
end Go.Proofs.YthgcgciceejicaaGreatDoor
