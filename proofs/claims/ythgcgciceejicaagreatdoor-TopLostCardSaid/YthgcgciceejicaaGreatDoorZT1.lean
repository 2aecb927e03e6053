/-
  A law for a region that draws its order: an invariant over the set of operations that are done, kept by each operation when all that it waits for is done. Over any program. Steps of a drawn region for guarded operations: one that is wanted, one that is passed over.
-/
import Derived.Test.YthgcgciceejicaaGreatDoorZT0
namespace Go.Proofs.YthgcgciceejicaaGreatDoor
open Go.RowKit
section
variable {P:Program} {ops:Array Oper} {Q:Exit->Act->World->Prop}
def left (n:Nat) (listed:Array Bool):Nat:=(List.range n).countP (λj => !listed.getD j false)
theorem countP_turn (p q:Nat->Bool) (i:Nat) (hq:∀ j,j≠i->q j=p j) (hp:p i=true) (hqi:q i=false):∀ n,i < n->(List.range n).countP p=(List.range n).countP q + 1
 | 0,h=>absurd h (Mv _)
 | n + 1,h=>by
  rw [List.range_succ,List.countP_append,List.countP_append]
  by_cases e:i=n
  ·subst e
   have:(List.range i).countP p=(List.range i).countP q:=List.countP_congr λj hj=>by
    rw [hq j (by have:=Jk.1 hj; omega)]
   simp [this,hp,hqi]
  ·have:=countP_turn p q i hq hp hqi n (by omega)
   rw [this];simp [hq n (λh=>e h.symm)];omega
theorem ready_mem {listed:Array Bool} {i:Nat} (h:i∈Region.ready .any ops listed) :
  ∃ o,ops[i]?=some o/\i < ops.size/\listed.getD i true=false/\∀ e∈o.after,Region.binds .any e=true->listed.getD e.on false=true:=by
 unfold Region.ready at h;rw [Jq,Jk] at h;obtain ⟨h1,h2⟩:=h;rw [Nv h1] at h2;simp only [Uj,Bool.not_eq_true',Bv,Sw] at h2;refine ⟨ops[i],Nv h1,h1,h2.1,λe he hb=>?_⟩
 have:=Array.all_eq_true'.1 h2.2 e he
 simpa [hb] using this
theorem wpAny_inv (I:(Nat->Prop)->Act->World->Prop) (hok:∀ i o,ops[i]?=some o->∀ e∈o.after,Region.binds .any e=true->e.on < i)
  (step:∀ (i:Nat) (o:Oper) (D:Nat->Prop) (a:Act) (w:World),ops[i]?=some o->¬ D i->(∀ e∈o.after,Region.binds .any e=true->D e.on)->I D a w ->
   wpOp P ops Q i (λa' w'=>I (λj=>j=i\/D j) a' w') a w)
  (fin:∀ a w,I (λj=>j < ops.size) a w->Q .normal a w) :
  ∀ (fuel:Nat) (listed:Array Bool) (a:Act) (w:World),listed.size=ops.size->left ops.size listed=fuel->I (λj=>listed.getD j false=true) a w->wpAny P .any ops Q fuel listed a w:=by
 have ready_some:∀ (listed:Array Bool) (n:Nat),listed.size=ops.size->Region.ready .any ops listed=[]->∀ j,j < n->j < ops.size->listed.getD j false=true:=by
  intro listed n hs hr
  induction n with
  | zero=>intro j hj; omega
  | succ n ih =>
   intro j hj hjs
   by_cases e:j < n
   ·exact ih j e hjs
   ·have e:j=n:=by omega
    subst e
    cases hc:listed.getD j false with
    | true=>rfl
    | false =>
     exfalso
     have:j∈Region.ready .any ops listed:=by
      unfold Region.ready;rw [Jq,Jk];refine ⟨hjs,?_⟩;have hct:listed.getD j true=false:=by
       simp only [Pq,Nv (show j < listed.size by omega),Sw] at hc ⊢;exact hc
      rw [Nv hjs,hct];simp only [Bool.not_false,Bool.true_and,Bv,Sw];rw [Array.all_eq_true'];intro e he
      cases hb:Region.binds .any e with
      | false=>rfl
      | true =>
       have hlt:=hok j ops[j] (Nv hjs) e he hb
       have:=ih e.on hlt (by omega)
       simpa using this
     rw [hr] at this
     cases this
 intro fuel
 induction fuel with
 | zero =>
  intro listed a w hs hl hI;have all:∀ j,j < ops.size->listed.getD j false=true:=by
   intro j hj
   have:=List.countP_eq_zero.1 hl j (Jk.2 hj)
   simpa using this
  refine ⟨?_,fin a w ?_⟩
  ·cases hr:Region.ready .any ops listed with
   | nil=>rfl
   | cons i l =>
    obtain ⟨o,_,hi,hf,_⟩:=ready_mem (show i∈Region.ready .any ops listed by rw [hr]; exact Zk)
    have:=all i hi
    simp only [Pq,Nv (show i < listed.size by omega),Sw] at this hf;rw [this] at hf; cases hf
  ·have e:(λj=>listed.getD j false=true)=(λj=>j < ops.size):=by
    funext j
    apply propext
    refine ⟨λh=>?_,all j⟩;rcases Iv j ops.size with g | g
    ·exact g
    ·simp [Array.getD_eq_getD_getElem?,Array.getElem?_eq_none (show listed.size<=j by omega)] at h
   rw [<- e]; exact hI
 | succ fuel ih =>
  intro listed a w hs hl hI;refine ⟨λhr=>?_,λi hi=>?_⟩
  ·exfalso
   have:left ops.size listed=0:=List.countP_eq_zero.2 λj hj=>by
    have:=ready_some listed ops.size hs hr j (Jk.1 hj) (Jk.1 hj)
    simp [this]
   omega
  ·obtain ⟨o,ho,hlt,hf,hd⟩:=ready_mem hi;have hff:listed.getD i false=false:=by
    simp only [Pq,Nv (show i < listed.size by omega),Sw] at hf ⊢;exact hf
   refine wpOp_mono ?_ (step i o _ a w ho (by rw [hff]; simp) hd hI);intro a' w' hI';have hset:∀ j,(listed.setIfInBounds i true).getD j false=if j=i then true else listed.getD j false:=by
    intro j;simp only [Pq,Array.getElem?_setIfInBounds]
    by_cases e:i=j
    ·subst e; simp [show i < listed.size by omega]
    ·rw [Bj (λh:j=i=>e h.symm)]; simp [e]
   refine ih _ a' w' (by simpa using hs) ?_ ?_
   ·have:=countP_turn (λj => !listed.getD j false) (λj => !(listed.setIfInBounds i true).getD j false) i (λj hj=>by simp only [hset,Bj hj]) (by simp [hff]) (by simp [hset]) ops.size hlt
    unfold left at hl ⊢;omega
   ·have e:(λj=>(listed.setIfInBounds i true).getD j false=true)=(λj=>j=i\/listed.getD j false=true):=by
     funext j
     apply propext
     rw [hset]
     by_cases e:j=i <;> simp [e]
    rw [e]; exact hI'
theorem region_inv {id:Nat} {a:Act} {w:World} (hm:P.follows .mixedOrders=true) (I:(Nat->Prop)->Act->World->Prop)
  (hok:∀ i o,ops[i]?=some o->∀ e∈o.after,Region.binds .any e=true->e.on < i)
  (h0:I (λ_=>False) a w.drew)
  (step:∀ (i:Nat) (o:Oper) (D:Nat->Prop) (a:Act) (w:World),ops[i]?=some o->¬ D i->(∀ e∈o.after,Region.binds .any e=true->D e.on)->I D a w ->
   wpOp P ops Q i (λa' w'=>I (λj=>j=i\/D j) a' w') a w)
  (fin:∀ a w,I (λj=>j < ops.size) a w->Q .normal a w):(Code.region id ops true).wp P Q a w:=by
 refine wp_region_any hm (wpAny_inv I hok step fin ops.size _ a _ (by simp) ?_ ?_)
 ·unfold left;rw [List.countP_eq_length.2]
  ·simp
  ·intro j _;simp [Array.getD_eq_getD_getElem?,Array.getElem?_replicate]
   split <;> simp
 ·have e:(λj=>(Array.replicate ops.size false).getD j false=true)=(λ_=>False):=by
   funext j
   apply propext
   simp [Array.getD_eq_getD_getElem?,Array.getElem?_replicate]
   split <;> simp
  rw [e]; exact h0
theorem vZ {i:Nat} {o:Oper} {a:Act} {w w':World} {K:Act->World->Prop} {v:Value} (h:ops[i]?=some o) (hg:Region.wanted o (yielded ops a.tmps)=true)
  (hr:(execOp a.eval o).run P w=.ok (.value v) w') (hk:K (a.put o.dst v) w'):wpOp P ops Q i K a w:=by
 unfold wpOp;rw [h];simp only [hg,if_true]
 left
 unfold Oper.wp;rw [hr];exact hk
theorem wpOp_skip {i:Nat} {o:Oper} {a:Act} {w w':World} {K:Act->World->Prop} (h:ops[i]?=some o) (hg:Region.wanted o (yielded ops a.tmps)=true)
  (hr:(execOp a.eval o).run P w=.ok .skip w') (hk:K (a.put o.dst undef) w'):wpOp P ops Q i K a w:=by
 unfold wpOp;rw [h];simp only [hg,if_true]
 left
 unfold Oper.wp;rw [hr];exact hk
theorem wpOp_passed {i:Nat} {o:Oper} {a:Act} {w:World} {K:Act->World->Prop} (h:ops[i]?=some o) (hg:Region.wanted o (yielded ops a.tmps)=false)
  (hk:K (a.put o.dst undef) w):wpOp P ops Q i K a w:=by
 unfold wpOp;rw [h];simp only [hg];exact hk
theorem wpOp_call {i:Nat} {o:Oper} {a:Act} {w w':World} {K:Act->World->Prop} {f:FuncId} {args:Array Value} (h:ops[i]?=some o) (hg:Region.wanted o (yielded ops a.tmps)=true)
  (hr:(execOp a.eval o).run P w=.ok (.enter f args) w') (hc:Calls P f args w' λe w''=>∃ v,e=.returned v/\K (a.put o.dst v) w''):wpOp P ops Q i K a w:=by
 unfold wpOp;rw [h];simp only [hg,if_true]
 left
 unfold Oper.wp;rw [hr];refine hc.mono ?_;rintro e w'' ⟨v,rfl,hk⟩;exact hk
theorem qK {a:Act} {d:Nat} {v:Value} (h:d < a.tmps.size):(a.put (some d) v).eval (.tmp d)=v:=by
 simp [Act.put,Act.eval,Array.getD_eq_getD_getElem?,h]
theorem pK {a:Act} {d t:Nat} {v:Value} (h:d≠t):(a.put (some d) v).eval (.tmp t)=a.eval (.tmp t):=by
 simp [Act.put,Act.eval,Array.getD_eq_getD_getElem?,h]
structure Slots (a0:Act) (T:List (Nat × Nat × Value)) (X:List Nat) (D:Nat->Prop) (a:Act):Prop where
 size:a.tmps.size=a0.tmps.size
 defers:a.defers=a0.defers
 out:∀ t,t ∉ T.map (·.2.1)->t ∉ X->a.eval (.tmp t)=a0.eval (.tmp t)
 done:∀ x∈T,D x.1->a.eval (.tmp x.2.1)=x.2.2
def okT (n:Nat) (T:List (Nat × Nat × Value)) (X:List Nat):Bool :=
 decide (T.map (·.1)).Nodup && decide (T.map (·.2.1)).Nodup && T.all (λx=>decide (x.2.1 < n) && !X.contains x.2.1) && X.all (λd=>decide (d < n))
variable {a0 a:Act} {T:List (Nat × Nat × Value)} {X:List Nat} {D:Nat->Prop}
theorem nodup_fst {α β:Type} {f:α->β} {l:List α} (h:(l.map f).Nodup) {x y:α} (hx:x∈l) (hy:y∈l) (e:f x=f y):x=y:=by
 induction l with
 | nil=>cases hx
 | cons z l ih =>
  rw [Ik,Mq] at h;rcases Tj.1 hx with hx' | hx' <;> rcases Tj.1 hy with hy' | hy'
  ·rw [hx',hy']
  ·exact (h.1 (Rj.2 ⟨y,hy',by rw [<- e,hx']⟩)).elim
  ·exact (h.1 (Rj.2 ⟨x,hx',by rw [e,hy']⟩)).elim
  ·exact ih h.2 hx' hy'
theorem Slots.none {i:Nat} (h:Slots a0 T X D a) (hi:i ∉ T.map (·.1)):Slots a0 T X (λj=>j=i\/D j) a :=
 ⟨h.size,h.defers,h.out,λy hy hD=>h.done y hy (hD.resolve_left λe=>hi (Rj.2 ⟨y,hy,e⟩))⟩
def puts (a:Act) (L:List (Nat × Value)):Act:=L.foldl (λa p=>a.put (some p.1) p.2) a
theorem puts_size (L:List (Nat × Value)):∀ (a:Act),(puts a L).tmps.size=a.tmps.size:=by
 induction L with
 | nil=>intro a; rfl
 | cons p L ih=>intro a; show (puts (a.put (some p.1) p.2) L).tmps.size=_; rw [ih]; simp [Act.put]
theorem puts_defers (L:List (Nat × Value)):∀ (a:Act),(puts a L).defers=a.defers:=by
 induction L with
 | nil=>intro a; rfl
 | cons p L ih=>intro a; show (puts (a.put (some p.1) p.2) L).defers=_; rw [ih]; rfl
theorem puts_out (L:List (Nat × Value)):∀ (a:Act) (t:Nat),t ∉ L.map (·.1)->(puts a L).eval (.tmp t)=a.eval (.tmp t):=by
 induction L with
 | nil=>intro a t _; rfl
 | cons p L ih =>
  intro a t ht;show (puts (a.put (some p.1) p.2) L).eval _=_;rw [Ik,Tj] at ht;rw [ih _ t (λh=>ht (.inr h)),pK (λe=>ht (.inl e.symm))]
theorem puts_in (L:List (Nat × Value)) (hn:(L.map (·.1)).Nodup):∀ (a:Act) (p:Nat × Value),p∈L->p.1 < a.tmps.size->(puts a L).eval (.tmp p.1)=p.2:=by
 induction L with
 | nil=>intro a p hp; cases hp
 | cons q L ih =>
  rw [Ik,Mq] at hn;intro a p hp hlt;show (puts (a.put (some q.1) q.2) L).eval _=_;rcases Tj.1 hp with rfl | hp
  ·rw [puts_out L _ _ hn.1,qK hlt]
  ·exact ih hn.2 _ p hp (by simpa [Act.put] using hlt)
theorem act_ext {a b:Act} (hs:a.tmps.size=b.tmps.size) (hd:a.defers=b.defers) (h:∀ t,a.eval (.tmp t)=b.eval (.tmp t)):a=b:=by
 obtain ⟨ta,da⟩:=a;obtain ⟨tb,db⟩:=b;simp only at hs hd;subst hd
 congr 1
 apply Array.ext hs
 intro i h1 h2
 have:=h i
 simp only [Act.eval,Pq,Nv h1,Nv h2,Sw] at this;exact this
theorem Slots.all (h:Slots a0 T X D a) (hT:okT a0.tmps.size T X=true) (hX:X.Nodup) (hD:∀ x∈T,D x.1) (L:List (Nat × Value)) (hL:L.map (·.1)=X) (hLv:∀ p∈L,a.eval (.tmp p.1)=p.2) :
  a=puts a0 (T.map (·.2)++L):=by
 simp only [okT,Uj,decide_eq_true_eq] at hT;obtain ⟨⟨⟨h1,h2⟩,h3⟩,h4⟩:=hT;have hn:((T.map (·.2)++L).map (·.1)).Nodup:=by
  rw [Mk,Jv,hL,Dq];refine ⟨h2,hX,λx hx y hy=>?_⟩;rintro rfl;obtain ⟨z,hz,e⟩:=Rj.1 hx;have hb:=(Sj.1 h3) _ hz;simp only [Uj,decide_eq_true_eq,Bool.not_eq_true',List.contains_eq_mem,decide_eq_false_iff_not] at hb;exact hb.2 (by rw [show z.2.1=x from e]; exact hy)
 have val:∀ p∈T.map (·.2)++L,a.eval (.tmp p.1)=p.2/\p.1 < a0.tmps.size:=by
  intro p hp;rcases Qj.1 hp with hp | hp
  ·obtain ⟨z,hz,rfl⟩:=Rj.1 hp;have hb:=(Sj.1 h3) _ hz;simp only [Uj,decide_eq_true_eq] at hb;exact ⟨h.done z hz (hD z hz),hb.1⟩
  ·refine ⟨hLv p hp,?_⟩
   have:=(Sj.1 h4) p.1 (by rw [<- hL]; exact Rj.2 ⟨p,hp,rfl⟩)
   simpa using this
 refine act_ext (h.size.trans (puts_size _ _).symm) (h.defers.trans (puts_defers _ _).symm) λt=>?_
 by_cases ht:t∈(T.map (·.2)++L).map (·.1)
 ·obtain ⟨p,hp,rfl⟩:=Rj.1 ht;obtain ⟨hv,hb⟩:=val p hp;rw [hv,puts_in _ hn _ p hp hb]
 ·rw [puts_out _ _ _ ht];rw [Mk,Qj,Jv,hL] at ht;exact h.out t (λk=>ht (.inl k)) (λk=>ht (.inr k))
end
structure VarE where
 al:Nat
 sl:Nat
 st:Nat
 z:List Value
 f:List Value
structure OnlyAt (g:Nat) (w w':World):Prop where
 os:w'.os=w.os
 tape:w'.tape=w.tape
 output:w'.output=w.output
 size:w'.heap.size=w.heap.size
 block:∀ k,k≠g->w'.heap[k]?=w.heap[k]?
theorem OnlyAt.refl (g:Nat) (w:World):OnlyAt g w w:=⟨rfl,rfl,rfl,rfl,λ_ _=>rfl⟩
theorem OnlyAt.below {g B:Nat} {w w':World} (h:OnlyAt g w w') (hg:B<=g):Below B w w' :=
 ⟨h.os,h.tape,h.output,Nat.le_of_eq h.size.symm,λk hk=>h.block k (by omega)⟩
def Vars (B:Nat) (A:List VarE) (D:Nat->Prop) (a:Act) (w:World):Prop :=
 ∃ g:Nat->Nat,(∀ x∈A,D x.al->a.eval (.tmp x.sl)=.pointer (some ⟨g x.al,0,none⟩)/\B<=g x.al/\(¬ D x.st->Box w (g x.al) x.z)/\(D x.st->Box w (g x.al) x.f)) /\
  (∀ x∈A,∀ y∈A,D x.al->D y.al->x.al≠y.al->g x.al≠g y.al)/\(∀ x∈A,D x.st->D x.al)
def okA (A:List VarE):Bool :=
 decide (A.map (·.al)).Nodup && decide (A.map (·.sl)).Nodup && decide (A.map (·.st)).Nodup && A.all (λx=>A.all λy=>decide (x.al≠y.st))
section
variable {B:Nat} {A:List VarE} {D:Nat->Prop} {a:Act} {w w':World}
theorem Vars.keep (h:Vars B A D a w) (hb:Below w.heap.size w w'):Vars B A D a w':=by
 obtain ⟨g,h1,h2,h3⟩:=h;exact ⟨g,λx hx hD=>let ⟨e,l,z,f⟩:=h1 x hx hD; ⟨e,l,λk=>(z k).keep hb,λk=>(f k).keep hb⟩,h2,h3⟩
theorem Vars.alloc {x:VarE} {v:Value} {cs:Array Value} {t:TypeId} (h:Vars B A D a w) (hA:okA A=true) (hx:x∈A) (hn:¬ D x.al) (hs:x.sl < a.tmps.size) (hB:B<=w.heap.size) (hz:cs.toList=x.z)
  (hv:v=.pointer (some ⟨w.heap.size,0,none⟩)):Vars B A (λj=>j=x.al\/D j) (a.put (some x.sl) v) (w.alloc (.cells cs t)):=by
 simp only [okA,Uj,decide_eq_true_eq] at hA;obtain ⟨⟨⟨n1,n2⟩,n3⟩,n4⟩:=hA;obtain ⟨g,h1,h2,h3⟩:=h;have dst:∀ y∈A,(y.st=x.al\/D y.st)->D y.st:=λy hy h=>h.resolve_left λe=>by
  have:=Sj.1 (Sj.1 n4 x hx) y hy
  simp only [decide_eq_true_eq] at this;exact this e.symm
 have one:∀ y∈A,y.al=x.al->y=x:=λy hy e=>nodup_fst (f:=λx:VarE=>x.al) n1 hy hx e;refine ⟨λj=>if j=x.al then w.heap.size else g j,λy hy hD=>?_,λy hy y' hy' hD hD' hne=>?_,λy hy h=>.inr (h3 y hy (dst y hy h))⟩
 ·by_cases e:y.al=x.al
  ·have:=one y hy e
   subst this;simp only [if_true];refine ⟨by rw [qK hs,hv],hB,λ_=>by rw [<- hz]; exact Box.new w cs t,λk=>(hn (h3 y hy (dst y hy k))).elim⟩
  ·simp only [Bj e];obtain ⟨ee,l,z,f⟩:=h1 y hy (hD.resolve_left e);refine ⟨?_,l,λk=>(z λk'=>k (.inr k')).alloc _,λk=>(f (dst y hy k)).alloc _⟩;rw [pK (λk=>e (by rw [nodup_fst (f:=λx:VarE=>x.sl) n2 hy hx k.symm]))];exact ee
 ·by_cases e:y.al=x.al <;> by_cases e':y'.al=x.al
  ·exact (hne (e.trans e'.symm)).elim
  ·simp only [Cj e,Bj e'];obtain ⟨_,_,z,f⟩:=h1 y' hy' (hD'.resolve_left e')
   have:g y'.al < w.heap.size:=by
    by_cases k:D y'.st
    ·exact (f k).lt
    ·exact (z k).lt
   omega
  ·simp only [Bj e,Cj e'];obtain ⟨_,_,z,f⟩:=h1 y hy (hD.resolve_left e)
   have:g y.al < w.heap.size:=by
    by_cases k:D y.st
    ·exact (f k).lt
    ·exact (z k).lt
   omega
  ·simp only [Bj e,Bj e'];exact h2 y hy y' hy' (hD.resolve_left e) (hD'.resolve_left e') hne
theorem Vars.block {x:VarE} (h:Vars B A D a w) (hx:x∈A) (hal:D x.al) (hn:¬ D x.st) :
  ∃ g:Nat,a.eval (.tmp x.sl)=.pointer (some ⟨g,0,none⟩)/\B<=g/\Box w g x.z:=by
 obtain ⟨g,h1,h2,h3⟩:=h;obtain ⟨e,l,z,_⟩:=h1 x hx hal;exact ⟨_,e,l,z hn⟩
theorem Vars.fin {x:VarE} (h:Vars B A D a w) (hx:x∈A) (hal:D x.al) (hst:D x.st):∃ g:Nat,a.eval (.tmp x.sl)=.pointer (some ⟨g,0,none⟩)/\B<=g/\Box w g x.f:=by
 obtain ⟨g,h1,h2,h3⟩:=h;obtain ⟨e,l,_,f⟩:=h1 x hx hal;exact ⟨_,e,l,f hst⟩
end
structure Kept (a0:Act) (T:List (Nat × Nat × Value)) (X:List Nat) (A:List VarE) (B:Nat) (W:World) (D:Nat->Prop) (a:Act) (w:World):Prop where
 slots:Slots a0 T X D a
 vars:Vars B A D a w
 below:Below B W w
section
variable {P:Program} {ops:Array Oper} {Q:Exit->Act->World->Prop} {a0 a:Act} {T:List (Nat × Nat × Value)} {X:List Nat} {A:List VarE} {B:Nat} {W w w':World} {D:Nat->Prop} {i:Nat} {o:Oper}
end
section
variable {P:Program} {ops:Array Oper} {Q:Exit->Act->World->Prop} {a0 a:Act} {T:List (Nat × Nat × Value)} {X:List Nat} {A:List VarE} {B:Nat} {W w w':World} {D:Nat->Prop} {i:Nat} {o:Oper}
theorem wanted_of {g dg:Nat} {b want:Bool} (hg:o.guard=some (g,want)) (hd:(ops[g]?).bind (·.dst)=some dg) (h:a.eval (.tmp dg)=.bool b):Region.wanted o (yielded ops a.tmps)=(b == want):=by
 have ht:a.tmps[dg]?=some (.bool b):=by
  simp only [Act.eval,Pq] at h
  cases e:a.tmps[dg]? with
  | none=>rw [e] at h; simp [undef] at h
  | some v=>rw [e] at h; simp at h; rw [h]
 have hy:yielded ops a.tmps g=some b:=by
  unfold yielded;rw [hd];simp [ht]
 unfold Region.wanted;rw [hg];simp only [hy]
 cases b <;> cases want <;> rfl
end
end Go.Proofs.YthgcgciceejicaaGreatDoor
