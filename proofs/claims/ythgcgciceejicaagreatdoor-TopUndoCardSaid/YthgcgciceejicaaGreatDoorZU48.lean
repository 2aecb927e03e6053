/-
  Well typed formulas are of their types, in plain words.
-/
import Derived.Test.YthgcgciceejicaaGreatDoorZU37
namespace Go.Proofs.YthgcgciceejicaaGreatDoor
open Go.RowKit
theorem apply_typed {op t:Int} {l:List Vl} (hk:∀ v∈l,v.known) (h3:3<=op) (h18:op<=18) (hx:op≠15/\op≠16/\op≠17) (hl:(l.length:Int)=arity op) (ht:mX op (l.map (·.k))=(t,0)) :
  ((lJ op l).known/\(lJ op l).k=t)\/lJ op l=zK 7\/lJ op l=zK 8\/lJ op l=zK 1:=by
 have hap:=arity_pos h3 h18;have hok:OkV (lJ op l):=applyV_ok hk (by omega) (λhq=>by
  have:arity op=2:=by unfold arity; rw [Bj (by omega),Bj (by omega),Bj (by omega)]
  omega) h3 h18 hx
 have fin:(lJ op l).k=t->1<=t->t<=3->((lJ op l).known/\(lJ op l).k=t)\/lJ op l=zK 7\/lJ op l=zK 8\/lJ op l=zK 1:=λe g1 g3 =>
  .inl ⟨ok_known hok (by omega) (by omega),e⟩
 have nr:∀ op' a b,Lim a->Lim b->(nrV op' a b).k=1\/nrV op' a b=zK 7\/nrV op' a b=zK 8:=λop' a b ha hb=>by
  unfold nrV;rcases numOp_ok (op:=op') ha hb with ⟨h,-⟩ | h | h
  ·rw [Cj h]; exact .inl rfl
  ·rw [Bj (by omega),h]; exact .inr (.inl rfl)
  ·rw [Bj (by omega),h]; exact .inr (.inr rfl)
 have kk:∀ (m:List Vl) (k:Int),m.map (·.k)=List.replicate m.length k->eW m k=true:=λm k h=>by
  unfold eW;rw [Sj];intro v hv
  have:v.k∈m.map (·.k):=Rj.2 ⟨v,hv,rfl⟩
  rw [h] at this
  simpa using (List.mem_replicate.1 this).2
 rcases (by omega:op=3\/op=4\/(5<=op/\op<=9)\/op=10\/(11<=op/\op<=14)\/op=18) with g | g | g | g | g | g
 ·subst g;have ha:arity 3=1:=rfl
  match l,hk,hl,ht,hok,fin with
  | [x],hk,hl,ht,hok,fin =>
   have ht:=ht;unfold mX aZ at ht;simp only [Dk,Gv,Int.reduceEq,if_false,if_true] at ht
   split at ht
   rotate_left
   ·simp at ht
   rename_i h1;simp only [Gk,Hk] at h1;simp only [Sk,Hk] at ht;subst ht;have hq:=kk [x] 1 (by simp [h1]);have e:lJ 3 [x]=nrV 9 0 x.n:=by unfold lJ; simp [hq,hdV]
   rw [e] at fin hok ⊢;rcases nr 9 0 x.n (by unfold Lim; omega) (gW hk hq x (by simp)) with q | q | q
   ·exact fin q (by omega) (by omega)
   ·exact .inr (.inl q)
   ·exact .inr (.inr (.inl q))
 ·subst g;have ha:arity 4=1:=rfl
  match l,hk,hl,ht,hok,fin with
  | [x],hk,hl,ht,hok,fin =>
   have ht:=ht;unfold mX aZ at ht;simp only [Dk,Gv,Int.reduceEq,if_false,if_true] at ht
   split at ht
   rotate_left
   ·simp at ht
   rename_i h1;simp only [Gk,Hk] at h1;simp only [Sk,Hk] at ht;subst ht;have hq:=kk [x] 2 (by simp [h1]);have e:lJ 4 [x]=truthV (x.n == 0):=by unfold lJ; simp [hq,hdV]
   rw [e] at fin hok ⊢;exact fin rfl (by omega) (by omega)
 ·have ha:arity op=2:=by unfold arity; rw [Bj (by omega),Bj (by omega),Bj (by omega)]
  match l,hk,hl,ht,hok,fin with
  | [x,y],hk,hl,ht,hok,fin =>
   have hr:aZ op=some ([1,1],1):=by unfold aZ; rw [Bj (by omega),Bj (by omega),Bj (by omega),Cj g]
   have ht:=ht;unfold mX at ht;rw [hr] at ht;simp only [Dk,Gv] at ht
   split at ht
   rotate_left
   ·simp at ht
   rename_i h1;simp only [Gk,Hk] at h1;obtain ⟨h1,h2⟩:=h1;simp only [Sk,Hk] at ht;subst ht;have hq:=kk [x,y] 1 (by simp [h1,h2]);have e:lJ op [x,y]=nrV op x.n y.n:=by
    unfold lJ;rw [Bj (by omega),Bj (by omega),Bj (by omega),Bj (by omega),Bj (by omega),Cj hq]; rfl
   rw [e] at fin hok ⊢;rcases nr op x.n y.n (gW hk hq x (by simp)) (gW hk hq y (by simp)) with q | q | q
   ·exact fin q (by omega) (by omega)
   ·exact .inr (.inl q)
   ·exact .inr (.inr (.inl q))
  | [],_,hl,_,_,_=>rw [ha] at hl; simp at hl
  | [_],_,hl,_,_,_=>rw [ha] at hl; simp at hl
  | _ :: _ :: _ :: _,_,hl,_,_,_=>rw [ha] at hl; simp at hl; omega
 ·subst g;have ha:arity 10=2:=rfl
  match l,hk,hl,ht,hok,fin with
  | [x,y],hk,hl,ht,hok,fin =>
   have ht:=ht;unfold mX aZ at ht;simp only [Dk,Gv,Int.reduceEq,Int.reduceLE,and_false,if_false,if_true] at ht
   split at ht
   rotate_left
   ·simp at ht
   rename_i h1;simp only [Gk,Hk] at h1;obtain ⟨h1,h2⟩:=h1;simp only [Sk,Hk] at ht;subst ht;have hq:=kk [x,y] 3 (by simp [h1,h2]);have e:lJ 10 [x,y]=joinV x y:=by unfold lJ; simp [hq,hdV]
   rw [e] at fin hok ⊢;unfold joinV at *
   by_cases hc:40 < x.s.size + y.s.size
   ·rw [Cj hc]; exact .inr (.inr (.inr rfl))
   ·rw [Bj hc] at fin hok ⊢;exact fin rfl (by omega) (by omega)
 ·have ha:arity op=2:=by unfold arity; rw [Bj (by omega),Bj (by omega),Bj (by omega)]
  match l,hk,hl,ht,hok,fin with
  | [x,y],hk,hl,ht,hok,fin =>
   have hr:aZ op=none:=by
    unfold aZ;rw [Bj (by omega),Bj (by omega),Bj (by omega),Bj (by omega),Bj (by omega),Bj (by omega)]
   have h17:op≠17:=by omega
   have ht:=ht;unfold mX at ht;rw [hr] at ht;simp only [Dk,Gv,Bj h17,List.getD_cons_zero,List.getD_cons_succ] at ht
   split at ht
   ·rename_i h1;simp at ht;subst ht;have e:lJ op [x,y]=truthV (cmpB op (cmpV x.n y.n x.s.toList y.s.toList)):=by
     unfold lJ;rw [Cj g];show (if x.k=y.k then _ else _)=_;rw [Cj h1]; rfl
    rw [e] at fin hok ⊢;exact fin rfl (by omega) (by omega)
   ·simp at ht
  | [],_,hl,_,_,_=>rw [ha] at hl; simp at hl
  | [_],_,hl,_,_,_=>rw [ha] at hl; simp at hl
  | _ :: _ :: _ :: _,_,hl,_,_,_=>rw [ha] at hl; simp at hl; omega
 ·subst g;have ha:arity 18=1:=rfl
  match l,hk,hl,ht,hok,fin with
  | [x],hk,hl,ht,hok,fin =>
   have ht:=ht;unfold mX aZ at ht;simp only [Dk,Gv,Int.reduceEq,if_false,if_true] at ht
   split at ht
   rotate_left
   ·simp at ht
   rename_i h1;simp only [Gk,Hk] at h1;simp only [Sk,Hk] at ht;subst ht;have hq:=kk [x] 3 (by simp [h1]);have e:lJ 18 [x]=⟨1,(x.s.size:Int),⟨#[]⟩⟩:=by unfold lJ; simp [hq,hdV]
   rw [e] at fin hok ⊢;exact fin rfl (by omega) (by omega)
structure NotYet (B:Vl->Prop):Prop where
 kind:∀ v,B v->v.k=4\/v.k=5
 over:B (zK 7)
 zero:B (zK 8)
 size:B (zK 1)
def OfT (B:Vl->Prop) (t:Int) (v:Vl):Prop:=(v.known/\v.k=t)\/B v
theorem lack_all {B:Vl->Prop} (hB:NotYet B):∀ {l:List Vl} {ts:List Int},l.length=ts.length->(∀ (i:Nat) (v:Vl) (t:Int),l[i]?=some v->ts[i]?=some t->OfT B t v)->jW none l=none->(∀ v∈l,v.known)/\l.map (·.k)=ts:=λ{l ts} hlen h hk=>by
 obtain ⟨-,hn⟩:=lack_none hk;have hv:∀ (i:Nat) (v:Vl) (t:Int),l[i]?=some v->ts[i]?=some t->v.known/\v.k=t:=λi v t hi ht=>by
  rcases h i v t hi ht with g | g
  ·exact g
  ·have:=hB.kind v g
   have:=hn v (Ej hi)
   omega
 refine ⟨λv hv'=>?_,Pq λi=>?_⟩
 ·obtain ⟨i,hi⟩:=Xk hv';obtain ⟨t,ht⟩:∃ t,ts[i]?=some t:=⟨_,Fj (by have:=(Nj.1 hi).1; omega)⟩;exact (hv i v t hi ht).1
 ·rw [Mj]
  by_cases hi:i < l.length
  ·obtain ⟨v,e⟩:∃ v,l[i]?=some v:=⟨_,Fj hi⟩;obtain ⟨t,ht⟩:∃ t,ts[i]?=some t:=⟨_,Fj (by omega)⟩;rw [e,ht,Sq,(hv i v t e ht).2]
  ·rw [Jq (by omega),Jq (by omega)]; rfl
theorem lack_mem {l:List Vl} {u:Vl} (h:jW none l=some u):u∈l/\(u.k=5\/u.k=4):=by
 obtain ⟨h1,h2⟩:=lack_some h (λw hw=>by cases hw);exact ⟨h2.resolve_left (by simp),h1⟩
theorem ofT_first {B:Vl->Prop} (hB:NotYet B) {v:Vl} (h:OfT B 2 v):((nQ v)=(v,true)/\v.known/\v.k=2)\/((nQ v)=(v,false)/\B v):=by
 rcases h with ⟨h1,h2⟩ | h
 ·refine .inl ⟨?_,h1,h2⟩;unfold nQ;rw [Bj (by omega),h2]; rfl
 ·refine .inr ⟨?_,h⟩
  have:=hB.kind v h
  unfold nQ;rw [Bj (by omega)];rcases this with g | g <;> (rw [g]; rfl)
theorem ty_sound {B:Vl->Prop} (hB:NotYet B) {f:ByteArray->Option Int} {env:Env} (hE:∀ s t,f s=some t->∃ v,env.get s=some v/\OfT B t v) {x:Ex} (hx:WfE x) {t:Int} (ht:tyE f x=(t,0)):OfT B t (pK env x):=by
 revert hx t
 refine ex_ind (p:=λx=>WfE x->∀ {t:Int},tyE f x=(t,0)->OfT B t (pK env x)) (λx ih hx t ht=>?_) x;rw [tyE_eq] at ht;rw [evalE_eq];rcases hx.top with ⟨h1,hk,-⟩ | ⟨h1,-⟩ | ⟨h1,h2,-,-,-,-,h7⟩
 ·rw [Cj h1] at ht ⊢;simp only [Sk,Hk] at ht;exact .inl ⟨hk,ht⟩
 ·rw [Bj (by omega),Cj h1] at ht ⊢
  cases hf:f x.nm with
  | none=>rw [hf] at ht; simp at ht
  | some t' =>
   rw [hf] at ht;simp only [Sk,Hk] at ht;subst ht;obtain ⟨v,hv,ho⟩:=hE _ _ hf;rw [hv]; exact ho
 ·rw [Bj (by omega),Bj (by omega)] at ht ⊢
  by_cases hl:(tyL f x.args).2=0
  rotate_left
  ·rw [Bj hl] at ht;simp only [Sk] at ht;exact absurd ht.2 hl
  rw [Cj hl] at ht;obtain ⟨ts,hts⟩:∃ ts,tyL f x.args=(ts,0):=⟨_,Prod.ext rfl hl⟩;rw [hts] at ht;simp only at ht;obtain ⟨hlen,hget⟩:=tyL_get hts;have hvs:∀ (i:Nat) (v:Vl) (t:Int),(rK env x.args)[i]?=some v->ts[i]?=some t->OfT B t v:=λi v t hv hti=>by
   rw [sK,Mj] at hv;obtain ⟨y,hy,rfl⟩:=Yv.1 hv;obtain ⟨t',ht',he⟩:=hget i y hy;rw [ht'] at hti;simp only [Wj] at hti;subst hti;exact ih y (Ej hy) (hx.list.get (Ej hy)) he
  have hvl:(rK env x.args).length=ts.length:=by rw [sK,Hj,hlen]
  by_cases h3:x.op=15\/x.op=16
  ·rw [Cj h3];have hr:aZ x.op=some ([2,2],2):=by
    rcases h3 with g | g <;> (rw [g]; rfl)
   rw [mX,hr] at ht;simp only at ht
   split at ht
   ·rename_i e;subst e;simp only [Sk,Hk] at ht;subst ht;obtain ⟨a,b,hab⟩:∃ a b,rK env x.args=[a,b]:=by
     match rK env x.args,hvl with
     | [a,b],_=>exact ⟨a,b,rfl⟩
    rw [hab] at hvs ⊢;have oa:=hvs 0 a 2 rfl rfl;have ob:=hvs 1 b 2 rfl rfl;show OfT B 2 (if (nQ a).2=false\/((nQ a).1.n == 1)=(x.op == 16) then (nQ a).1 else zJ b);rcases ofT_first hB oa with ⟨e,-⟩ | ⟨e,-⟩
    ·rw [e]
     split
     ·exact oa
     ·have:zJ b=b:=by
       unfold zJ;rcases ob with ⟨-,g⟩ | g
       ·rw [Bj (by omega)]
       ·have:=hB.kind b g
        rw [Bj (by omega)]
      rw [this]; exact ob
    ·rw [e,Cj (.inl rfl)]; exact oa
   ·simp at ht
  ·rw [Bj h3]
   by_cases h4:x.op=17
   ·rw [Cj h4];have hr:aZ x.op=none:=by rw [h4]; rfl
    rw [mX,hr] at ht;simp only [h4,if_true] at ht
    split at ht
    ·rename_i e;simp only [Sk,Hk] at ht;subst ht;have h7':x.args.length=3:=by have:=h7; rw [h4] at this; unfold arity at this; simp at this; omega
     obtain ⟨a,b,c,hab⟩:∃ a b c,rK env x.args=[a,b,c]:=by
      match rK env x.args,hvl.trans (hlen.symm.trans h7') with
      | [a,b,c],_=>exact ⟨a,b,c,rfl⟩
     obtain ⟨p,q,r,hpq⟩:∃ p q r,ts=[p,q,r]:=by
      match ts,hlen.symm.trans h7' with
      | [a,b,c],_=>exact ⟨a,b,c,rfl⟩
     subst hpq;simp at e;obtain ⟨rfl,rfl⟩:=e;rw [hab] at hvs ⊢;have oa:=hvs 0 a 2 rfl rfl;have ob:=hvs 1 b q rfl rfl;have oc:=hvs 2 c q rfl rfl;show OfT B q (if (nQ a).2=false then (nQ a).1 else if (nQ a).1.n=1 then b else c);rcases ofT_first hB oa with ⟨e,-⟩ | ⟨e,g⟩
     ·rw [e];simp only [Bool.true_eq_false,if_false]
      split
      ·exact ob
      ·exact oc
     ·rw [e,Cj rfl]; exact .inr g
    ·simp at ht
   ·rw [Bj h4]
    cases hk:jW none (rK env x.args) with
    | some u =>
     obtain ⟨hu,hu5⟩:=lack_mem hk;obtain ⟨i,hi⟩:=Xk hu;obtain ⟨t',ht'⟩:∃ t,ts[i]?=some t:=⟨_,Fj (by have:=(Nj.1 hi).1; omega)⟩;rcases hvs i u t' hi ht' with ⟨g1,g2⟩ | g
     ·have:=known_kind g1; omega
     ·exact .inr g
    | none =>
     obtain ⟨g1,g2⟩:=lack_all hB hvl hvs hk;rw [<- g2] at ht;rcases apply_typed g1 h1 h2 ⟨by omega,by omega,h4⟩ (by rw [hvl,<- hlen]; omega) ht with g | g | g | g
     ·exact .inl g
     ·rw [g]; exact .inr hB.over
     ·rw [g]; exact .inr hB.zero
     ·rw [g]; exact .inr hB.size
end Go.Proofs.YthgcgciceejicaaGreatDoor
