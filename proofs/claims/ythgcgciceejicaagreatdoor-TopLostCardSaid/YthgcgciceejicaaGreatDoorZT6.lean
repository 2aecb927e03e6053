/-
  A region that draws its order and makes one map, with pairs whose keys are numbers.
-/
import Derived.Test.YthgcgciceejicaaGreatDoorZT3
namespace Go.Proofs.YthgcgciceejicaaGreatDoor
open Go.RowKit
section
variable {P:Program} {C:Fx} {c0:Code} {Q:Exit -> Act -> World -> Prop} {h:Vw} {a:Act} {w:World} {p:List Nat} {ks:List Kt} {E:List (Nat × Value)} {B:List Ent} {F:List Fac}
def iget (n:Int):List (Int × Value) -> Option Value
 | []=>none
 | (k,v) :: l=>if n=k then some v else iget n l
abbrev qV (l:List (Int × Value)):List (Value × Value):=l.map λp=>(Vi p.1,p.2)
theorem find_int (n:Int):∀ (l:List (Int × Value)) (i j:Nat),(Instr.findNow (.int .i64) (Vi n) (((qV l).zipIdx j).map λp=>⟨p.1.1,p.1.2,p.2⟩) i).map (Option.map (·.2))=some (iget n l)
 | [],i,j=>rfl
 | (k,v) :: l,i,j=>by
  simp only [qV,Ik,List.zipIdx_cons];unfold Instr.findNow;have hsn:Instr.sameNow (.int .i64) (Vi n) (Vi k)=some (n == k):=rfl;simp only [hsn];unfold iget
  cases hsk:n == k with
  | true=>rw [Cj (by simpa using hsk)]; rfl
  | false=>rw [Bj (by simpa using hsk)]; exact find_int n l (i + 1) (j + 1)
theorem mfind_int (n:Int) (l:List (Int × Value)):∃ r,mfind (.int .i64) (Vi n) (qV l)=some r /\ r.map (·.2)=iget n l:=by
 have:=find_int n l 0 0
 unfold mfind ments
 cases h:Instr.findNow (.int .i64) (Vi n) (((qV l).zipIdx).map λp=>⟨p.1.1,p.1.2,p.2⟩) 0 with
 | none=>rw [h] at this; cases this
 | some r=>rw [h] at this; exact ⟨r,rfl,by simpa using this⟩
theorem ifind_some {n:Int} {l:List (Int × Value)} {v:Value} (h:iget n l=some v):∃ i,mfind (.int .i64) (Vi n) (qV l)=some (some (i,v)):=by
 obtain ⟨r,h1,h2⟩:=mfind_int n l;rw [h] at h2;obtain ⟨⟨i,u⟩,e,e2⟩:=Zw.1 h2;subst e2;exact ⟨i,by rw [h1,e]⟩
theorem ifind_none {n:Int} {l:List (Int × Value)} (h:iget n l=none):mfind (.int .i64) (Vi n) (qV l)=some none:=by
 obtain ⟨r,h1,h2⟩:=mfind_int n l;rw [h] at h2;rw [h1,Option.map_eq_none_iff.1 h2]
theorem iget_none {n:Int}:∀ {l:List (Int × Value)},n ∉ l.map (·.1) -> iget n l=none
 | [],_=>rfl
 | (k,v) :: l,h=>by
  unfold iget;simp only [Ik,Tj,not_or] at h;rw [Bj h.1];exact iget_none h.2
theorem iget_mem {n:Int} {v:Value}:∀ {l:List (Int × Value)},(l.map (·.1)).Nodup -> (n,v)∈l -> iget n l=some v
 | (k,u) :: l,hn,h=>by
  unfold iget;simp only [Ik,Mq] at hn;rcases Tj.1 h with e | h
  ·simp only [Kq] at e;rw [Cj e.1,e.2]
  ·rw [Bj λe=>hn.1 (by rw [<- e]; exact Rj.2 ⟨(n,v),h,rfl⟩)];exact iget_mem hn.2 h
inductive MO where
 | mk (d:Nat) | pu (d:Nat) (v:Value) | mv (d:Nat) | ins (k:Int) (v:Value)
def MO.out (b:Nat):MO -> Option (Nat × Value)
 | .mk d=>some (d,.map (some b))
 | .mv d=>some (d,.map (some b))
 | .pu d v=>some (d,v)
 | .ins _ _=>none
def MO.slot:MO -> Option Nat
 | .mk d=>some d
 | .mv d=>some d
 | .pu d _=>some d
 | .ins _ _=>none
def MO.late:MO -> Bool
 | .mv _=>true
 | .ins _ _=>true
 | _=>false
def MO.first:MO -> Bool
 | .mk _=>true
 | _=>false
theorem MO.out_slot {b:Nat} {m:MO} {d:Nat} {v:Value} (h:m.out b=some (d,v)):m.slot=some d:=by
 cases m <;> simp [MO.out,MO.slot] at h ⊢ <;> exact h.1
def mlE (L:List MO) (E:List (Nat × Value)) (b:Nat) (o:Oper):List (Nat × Value):=(dirs o).filterMap (λj=>(L[j]?).bind (MO.out b))++E
def opM:Op -> Operand
 | .insert _ m _ _=>m
 | _=>.const undef
def opK:Op -> Operand
 | .insert _ _ k _=>k
 | _=>.const undef
def opV:Op -> Operand
 | .insert _ _ _ v=>v
 | _=>.const undef
def insOf (t:TypeId):Op -> Bool
 | .insert t' _ _ _=>Nat.beq t' t
 | _=>false
def dstIs (o:Oper) (d:Option Nat):Bool:=match o.dst,d with
 | some x,some y=>Nat.beq x y
 | none,none=>true
 | _,_=>false
def mlB (t:TypeId) (L:List MO) (E:List (Nat × Value)) (N:Nat) (b:Nat) (o:Oper) (i:Nat) (m:MO):Bool :=
 o.guard.isNone && gX (mlE L E b o) o && dstIs o m.slot && ((dirs o).all λj=>Nat.blt j i) && (match m.slot with | some d=>Nat.blt d N && E.all (λq => !(Nat.beq q.1 d)) | none=>true) &&
  (match m with | .mk _=>makeMapOp o.op && Nat.beq i 0 | .ins _ _=>insOf t o.op && (dirs o).contains 0 | .mv _=>(dirs o).contains 0 | .pu _ _=>true)
def mlP (P:Program) (t:TypeId) (L:List MO) (E:List (Nat × Value)) (N:Nat) (ops:Array Oper) (b:Nat) (w:World) (i:Nat) (m:MO):List (An × An) :=
 (.b (mlB t L E N b (dX ops i) i m),.b true) ::
 match m with
 | .mk _=>[]
 | .pu _ v=>[(.r ((execOp (evD (mlE L E b (dX ops i))) (dX ops i)).run P w),.r (.ok (.value v) w))]
 | .mv _=>[(.r ((execOp (evD (mlE L E b (dX ops i))) (dX ops i)).run P w),.r (.ok (.value (.map (some b))) w))]
 | .ins k v=>[(.ov (evE (mlE L E b (dX ops i)) (opM (dX ops i).op)),.ov (some (.map (some b)))),(.ov (evE (mlE L E b (dX ops i)) (opK (dX ops i).op)),.ov (some (Vi k))),(.ov (evE (mlE L E b (dX ops i)) (opV (dX ops i).op)),.ov (some v))]
def mlAll (P:Program) (t:TypeId) (L:List MO) (E:List (Nat × Value)) (N:Nat) (ops:Array Oper) (b:Nat) (w:World):Nat -> List MO -> List (An × An)
 | _,[]=>[]
 | i,m :: l=>mlP P t L E N ops b w i m++mlAll P t L E N ops b w (i + 1) l
def mlOk (L:List MO):Bool :=
 ((List.range L.length).all λi=>(List.range L.length).all λj=>Nat.beq i j ||
  (match L[i]?,L[j]? with
  | some (.ins k _),some (.ins k' _)=>decide (k≠k')
  | some m,some m'=>(match m.slot,m'.slot with | some d,some d' => !(Nat.beq d d') | _,_=>true)
  | _,_=>true)) && (match L[0]? with | some m=>m.first | none=>false)
theorem mlAll_mem {t:TypeId} {L:List MO} {N:Nat} {ops:Array Oper} {b:Nat}:∀ {l:List MO} {k i:Nat} {m:MO},l[i]?=some m -> ∀ e∈mlP P t L E N ops b w (k + i) m,e∈mlAll P t L E N ops b w k l
 | [],_,_,_,h,_,_=>by simp at h
 | x :: l,k,0,m,h,e,he=>by
  simp only [Nx,Yj] at h;subst h;exact Ek _ he
 | x :: l,k,i + 1,m,h,e,he=>by
  simp only [List.getElem?_cons_succ] at h;refine Vj _ (mlAll_mem (l:=l) (k:=k + 1) h e ?_);rw [show k + 1 + i=k + (i + 1) by omega]; exact he
theorem mlOk_slot {L:List MO} (h:mlOk L=true) {i j:Nat} {m m':MO} {d:Nat} (hi:L[i]?=some m) (hj:L[j]?=some m') (e1:m.slot=some d) (e2:m'.slot=some d):i=j:=by
 unfold mlOk at h;rw [Uj] at h
 have:=Sj.1 (Sj.1 h.1 i (Jk.2 (Nj.1 hi).1)) j (Jk.2 (Nj.1 hj).1)
 rw [Zv] at this;rcases this with g | g
 ·exact Zj g
 ·rw [hi,hj] at g
  cases m <;> cases m' <;> simp [MO.slot] at e1 e2 g <;> (subst e1 e2; simp at g)
theorem mlOk_key {L:List MO} (h:mlOk L=true) {i j:Nat} {k:Int} {v v':Value} (hi:L[i]?=some (.ins k v)) (hj:L[j]?=some (.ins k v')):i=j:=by
 unfold mlOk at h;rw [Uj] at h
 have:=Sj.1 (Sj.1 h.1 i (Jk.2 (Nj.1 hi).1)) j (Jk.2 (Nj.1 hj).1)
 rw [Zv] at this;rcases this with g | g
 ·exact Zj g
 ·rw [hi,hj] at g;simp at g
theorem J.putOut (hJ:J C E B h a w) {d:Nat} (v:Value) (_:d < C.N) (hE:∀ q∈E,q.1≠d):J C E B h (a.put (some d) v) w :=
 ⟨λx u hx=>by
  have hm:∀ {E:List (Nat × Value)},lookup E x=some u -> ∃ q∈E,q.1=x:=by
   intro E
   induction E with
   | nil=>intro h; cases h
   | cons q E ih =>
    intro h;unfold lookup at h
    split at h
    ·rename_i e; exact ⟨q,by simp,Zj e⟩
    ·obtain ⟨q',h1,h2⟩:=ih h; exact ⟨q',Gk _ h1,h2⟩
  obtain ⟨q,hq,rfl⟩:=hm hx;rw [pK (λe=>hE q hq e.symm)];exact hJ.fits _ _ hx,by simpa [Act.put] using hJ.size,hJ.defers,hJ.low,hJ.sees,hJ.ents,hJ.nodup,hJ.own,hJ.badlt⟩
structure MI (C:Fx) (E:List (Nat × Value)) (B:List Ent) (L:List MO) (h:Vw) (D:Nat -> Prop) (b:Nat) (es:List (Int × Value)) (a:Act) (w:World):Prop where
 j1:D 0 -> J C E (.map b (qV es) :: B) h a w
 j0:¬ D 0 -> J C E B h a w
 v:∀ i m d u,L[i]?=some m -> D i -> m.out b=some (d,u) -> a.eval (.tmp d)=u
 s:∀ i k u,L[i]?=some (.ins k u) -> D i -> (k,u)∈es
 t:∀ e∈es,∃ i,D i /\ L[i]?=some (.ins e.1 e.2)
 n:(es.map (·.1)).Nodup
 z:∀ i m,L[i]?=some m -> m.late=true -> D i -> D 0
theorem MI.base {D:Nat -> Prop} {L:List MO} {b:Nat} {es:List (Int × Value)} (I:MI C E B L h D b es a w):Fits E a /\ a.tmps.size=C.N:=by
 by_cases g:D 0
 ·exact ⟨(I.j1 g).fits,(I.j1 g).size⟩
 ·exact ⟨(I.j0 g).fits,(I.j0 g).size⟩
theorem MI.fits {D:Nat -> Prop} {L:List MO} {b:Nat} {es:List (Int × Value)} {o:Oper} (I:MI C E B L h D b es a w) (hd:∀ j∈dirs o,D j):Fits (mlE L E b o) a:=by
 refine fits_pre' (λp hp=>?_) (λd v hv _=>I.base.1 d v hv);obtain ⟨j,hj,e⟩:=List.mem_filterMap.1 hp
 cases hm:L[j]? with
 | none=>rw [hm] at e; cases e
 | some m=>rw [hm] at e; exact I.v j m p.1 p.2 hm (hd j hj) e
theorem x_maplit (hm:P.follows .mixedOrders=true) (hK:K C E B F h a w) (t:TypeId) {kt et:TypeId} (ht:P.underlying t=some (.map kt et)) (htd:P.underlying kt=some (.int .i64)) (L:List MO)
  (hst:(match drawnOf (sub c0 p) with | some ops=>Nat.beq ops.size L.length && mlOk L | none=>false)=true)
  (hc:∀ b w,(mlAll P t L E C.N (fX c0 p) b w 0 L).map (·.1)=(mlAll P t L E C.N (fX c0 p) b w 0 L).map (·.2))
  (fin:∀ b es a w,K C (L.filterMap (MO.out b)++E) (.map b (qV es) :: B) F h a w -> (∀ k v,(k,v)∈es↔MO.ins k v∈L) -> (es.map (·.1)).Nodup -> Goal P c0 Q (.out .normal) ks a w):Goal P c0 Q (.code p) ks a w:=by
 split at hst
 case h_2=>cases hst
 rename_i ops hops;obtain ⟨id,hid⟩:=drawnOf_some hops;rw [Uj] at hst;obtain ⟨c1,c2⟩:=hst;have c1:=Zj c1;have hoa:fX c0 p=ops:=by unfold fX; rw [hid]; rfl
 rw [hoa] at hc;have chk:∀ (b:Nat) (w:World) (i:Nat) (m:MO),L[i]?=some m -> ∀ e∈mlP P t L E C.N ops b w i m,e.1=e.2:=λb w i m hi e he =>
  pair_eq (hc b w) e (mlAll_mem (k:=0) hi e (by rw [Gq]; exact he))
 have chkB:∀ (b:Nat) (i:Nat) (m:MO),L[i]?=some m -> mlB t L E C.N b (dX ops i) i m=true:=λb i m hi=>by
  have:=chk b w i m hi _ (by unfold mlP; exact Zk)
  simpa using this
 have first:∃ d,L[0]?=some (.mk d):=by
  have:=c2
  unfold mlOk at this;rw [Uj] at this
  have:=this.2
  cases h0:L[0]? with
  | none=>rw [h0] at this; cases this
  | some m=>rw [h0] at this; cases m <;> simp [MO.first] at this; exact ⟨_,rfl⟩
 unfold Goal;simp only;rw [hid];refine region_inv hm (λD a w=>∃ b es,MI C E B L h D b es a w) (λi o ho e he hb=>?_) ?_ (λi o D a w ho hn' hd ⟨b,es,I⟩=>?_) (λa w ⟨b,es,I⟩=>?_)
 ·have hlt:=(Nk.1 ho).1;have hB:=chkB 0 i _ (Gj (by omega));unfold mlB at hB;rw [eX ho] at hB;simp only [Uj] at hB
  have:=Sj.1 hB.1.1.2 e.on (Rj.2 ⟨e,Jq.2 ⟨by simpa using he,hb⟩,rfl⟩)
  have:=Nq this
  omega
 ·have hl:Low [] w w.drew:=Low.of_below (Wj _ _).drew;exact ⟨0,[],λh=>h.elim,λ_=>hK.j.grow hl,λ_ _ _ _ _ h=>h.elim,λ_ _ _ _ h=>h.elim,λe he=>(by cases he),List.nodup_nil,λ_ _ _ _ h=>h.elim⟩
 ·have hlt:i < L.length:=by rw [<- c1]; exact (Nk.1 ho).1
  obtain ⟨m,hmi⟩:∃ m,L[i]?=some m:=⟨_,Gj hlt⟩;have hdd:∀ j∈dirs o,D j:=λk hk=>by
   obtain ⟨e,he,rfl⟩:=Rj.1 hk;obtain ⟨h1,h2⟩:=Jq.1 he;exact hd e (by simpa using h1) h2
  have hB:=chkB b i m hmi;have hP:=chk b w i m hmi;unfold mlB at hB;unfold mlP at hP;rw [eX ho] at hB hP;simp only [Uj] at hB;obtain ⟨⟨⟨⟨⟨b1,b2⟩,b3⟩,-⟩,b5⟩,b6⟩:=hB;have hg:o.guard=none:=by simpa using b1
  have hw:Region.wanted o (yielded ops a.tmps)=true:=by unfold Region.wanted; rw [hg]
  have hev:=kY (I.fits hdd) b2;have ne:∀ j,D j -> j≠i:=λj hj e=>hn' (e ▸ hj);have slots:∀ {d},m.slot=some d -> o.dst=some d /\ d < C.N /\ (∀ q∈E,q.1≠d):=λ{d} e=>by
   rw [e] at b3 b5;simp only [Uj] at b5;refine ⟨?_,by have:=Nq b5.1; omega,λq hq e=>?_⟩
   ·unfold dstIs at b3
    cases hx:o.dst with
    | none=>rw [hx] at b3; cases b3
    | some x=>rw [hx] at b3; rw [Zj b3]
   ·have:=Sj.1 b5.2 q hq
    rw [e] at this; simp at this
  have others:∀ {d} (u:Value),m.slot=some d -> ∀ j m' d' u',L[j]?=some m' -> D j -> m'.out b=some (d',u') -> (a.put (some d) u).eval (.tmp d')=u':=λ{d} u hs j m' d' u' hj hDj ho'=>by
   rw [pK λe=>ne j hDj (mlOk_slot c2 hj hmi (MO.out_slot ho') (by rw [<- e]; exact hs))];exact I.v j m' d' u' hj hDj ho'
  cases m with
  | pu d u =>
   obtain ⟨s1,s2,s3⟩:=slots rfl;have hr:=hP _ (Gk _ (List.mem_singleton_self _));simp only [An.r.injEq] at hr;refine vZ ho hw (by rw [hev]; exact hr) ⟨b,es,?_⟩;rw [s1];have h00:D 0↔(0=i\/D 0):=⟨.inr,λq=>q.elim (λe=>by
    obtain ⟨x,hx⟩:=first
    subst e;rw [hx] at hmi; cases hmi) λq=>q⟩
   refine ⟨λg=>(I.j1 (h00.2 g)).putOut _ s2 s3,λg=>(I.j0 λq=>g (.inr q)).putOut _ s2 s3,λj m' d' u' hj hDj ho'=>?_,λj k' u' hj hDj=>?_,λe he=>?_,I.n,λj m' hj hl hDj=>?_⟩
   ·rcases hDj with rfl | hDj
    ·rw [hmi] at hj
     cases hj
     simp only [MO.out,Yj,Kq] at ho';obtain ⟨rfl,rfl⟩:=ho';exact qK (by rw [I.base.2]; exact s2)
    ·exact others u rfl j m' d' u' hj hDj ho'
   ·rcases hDj with rfl | hDj
    ·rw [hmi] at hj; cases hj
    ·exact I.s j k' u' hj hDj
   ·obtain ⟨q,q1,q2⟩:=I.t e he; exact ⟨q,.inr q1,q2⟩
   ·rcases hDj with rfl | hDj
    ·rw [hmi] at hj; cases hj; cases hl
    ·exact .inr (I.z j m' hj hl hDj)
  | mv d =>
   obtain ⟨s1,s2,s3⟩:=slots rfl;have hr:=hP _ (Gk _ (List.mem_singleton_self _));simp only [An.r.injEq] at hr;have d0:D 0:=hdd 0 (by simpa using b6);refine vZ ho hw (by rw [hev]; exact hr) ⟨b,es,?_⟩;rw [s1];refine ⟨λg=>(I.j1 d0).putOut _ s2 s3,λg=>absurd (.inr d0) g,λj m' d' u' hj hDj ho'=>?_,λj k' u' hj hDj=>?_,λe he=>?_,I.n,λj m' hj hl hDj=>.inr d0⟩
   ·rcases hDj with rfl | hDj
    ·rw [hmi] at hj
     cases hj
     simp only [MO.out,Yj,Kq] at ho';obtain ⟨rfl,rfl⟩:=ho';exact qK (by rw [I.base.2]; exact s2)
    ·exact others _ rfl j m' d' u' hj hDj ho'
   ·rcases hDj with rfl | hDj
    ·rw [hmi] at hj; cases hj
    ·exact I.s j k' u' hj hDj
   ·obtain ⟨q,q1,q2⟩:=I.t e he; exact ⟨q,.inr q1,q2⟩
  | mk d =>
   obtain ⟨s1,s2,s3⟩:=slots rfl;simp only [Uj] at b6;have hi0:i=0:=Zj b6.2;subst hi0;have hJ:=I.j0 hn';obtain ⟨t',e⟩:∃ t',o.op=.makeMap t' none:=by
    have:=b6.1
    unfold makeMapOp at this
    split at this
    ·rename_i t' e; exact ⟨t',e⟩
    ·cases this
   have hrun:(execOp (evD (mlE L E b o)) o).run P w=.ok (.value (.map (some w.heap.size))) (w.alloc (.map #[] 0)):=by
    unfold execOp;simp only [e];simp [run_makeMap,Result.andThen]
   refine vZ ho hw (by rw [hev]; exact hrun) ⟨w.heap.size,[],?_⟩;rw [s1];refine ⟨λ_=>hJ.newMap.putOut _ s2 s3,λg=>absurd (.inl rfl) g,λj m' d' u' hj hDj ho'=>?_,λj k' u' hj hDj=>?_,λe he=>(by cases he),List.nodup_nil,λj m' hj hl hDj=>.inl rfl⟩
   ·rcases hDj with rfl | hDj
    ·rw [hmi] at hj
     cases hj
     simp only [MO.out,Yj,Kq] at ho';obtain ⟨rfl,rfl⟩:=ho';exact qK (by rw [I.base.2]; exact s2)
    ·have hnl:m'.late=false:=by
      cases hl:m'.late with
      | false=>rfl
      | true=>exact absurd (I.z j m' hj hl hDj) hn'
     cases m' with
     | pu d2 u2 =>
      exact others _ rfl j _ d' u' hj hDj ho'
     | mk d2 =>
      have hB2:=chkB b j _ hj;unfold mlB at hB2;simp only [Uj] at hB2;exact absurd (Zj hB2.2.2) (ne j hDj)
     | mv d2=>cases hnl
     | ins k2 u2=>cases hnl
   ·rcases hDj with rfl | hDj
    ·rw [hmi] at hj; cases hj
    ·exact absurd (I.z j _ hj rfl hDj) hn'
  | ins k u =>
   simp only [Uj] at b6;have d0:D 0:=hdd 0 (by simpa using b6.2);have hJ:=I.j1 d0;have e1:=hP _ (Gk _ Zk);have e2:=hP _ (Gk _ (Gk _ Zk));have e3:=hP _ (Gk _ (Gk _ (Gk _ Zk)));simp only [An.ov.injEq] at e1 e2 e3;obtain ⟨mo,ko,vo,e⟩:∃ mo ko vo,o.op=.insert t mo ko vo:=by
    have:=b6.1
    unfold insOf at this
    split at this
    ·rename_i t' mo ko vo e; exact ⟨mo,ko,vo,by rw [e,Zj this]⟩
    ·cases this
   rw [e] at e1 e2 e3;have hkey:k ∉ es.map (·.1):=λhk=>by
    obtain ⟨x,hx,e'⟩:=Rj.1 hk;obtain ⟨j,j1,j2⟩:=I.t x hx;rw [e'] at j2;exact ne j j1 (mlOk_key c2 j2 hmi)
   have hu:=run_update_at (P:=P) (v:=u) (hJ.ents _ Zk:w.heap[b]?=some (iW (qV es))) ht htd (k:=Vi k) rfl (ifind_none (iget_none hkey));have g1:evD (mlE L E b o) mo=.map (some b):=by unfold evD; rw [show evE (mlE L E b o) mo=_ from e1]; rfl
   have g2:evD (mlE L E b o) ko=Vi k:=by unfold evD; rw [show evE (mlE L E b o) ko=_ from e2]; rfl
   have g3:evD (mlE L E b o) vo=u:=by unfold evD; rw [show evE (mlE L E b o) vo=_ from e3]; rfl
   have hrun:(execOp (evD (mlE L E b o)) o).run P w=.ok .skip { w with heap:=w.heap.setIfInBounds b (iW (qV es++[(Vi k,u)])) }:=by
    unfold execOp;simp only [e,g1,g2,g3];simp [hu,Result.andThen]
   have hdst:o.dst=none:=by
    have:dstIs o none=true:=b3
    unfold dstIs at this
    cases hx:o.dst with
    | none=>rfl
    | some x=>rw [hx] at this; cases this
   refine wpOp_skip ho hw (by rw [hev]; exact hrun) ⟨b,es++[(k,u)],?_⟩;rw [hdst];show MI C E B L h _ b _ a _;refine ⟨λ_=>?_,λg=>absurd (.inr d0) g,λj m' d' u' hj hDj ho'=>?_,λj k' u' hj hDj=>?_,λx hx=>?_,?_,λj m' hj hl hDj=>.inr d0⟩
   ·have:=hJ.setMap (i:=0) (es':=qV es++[(Vi k,u)]) rfl
    rw [show qV (es++[(k,u)])=qV es++[(Vi k,u)] by simp [qV]];exact this
   ·rcases hDj with rfl | hDj
    ·rw [hmi] at hj; cases hj; cases ho'
    ·exact I.v j m' d' u' hj hDj ho'
   ·rcases hDj with rfl | hDj
    ·rw [hmi] at hj; cases hj; simp
    ·exact Ek _ (I.s j k' u' hj hDj)
   ·rcases Qj.1 hx with hx | hx
    ·obtain ⟨q,q1,q2⟩:=I.t x hx; exact ⟨q,.inr q1,q2⟩
    ·rw [Pj.1 hx]; exact ⟨i,.inl rfl,hmi⟩
   ·rw [Mk,Dq];refine ⟨I.n,by simp,λx hx y hy e'=>?_⟩;simp only [Ik,List.map_nil,Pj] at hy;subst hy e';exact hkey hx
 ·obtain ⟨x0,hx0⟩:=first
  have hl0:=(Nj.1 hx0).1;have hJ:=I.j1 (by omega);have hall:∀ {j m},L[j]?=some m -> j < ops.size:=λhj=>by rw [c1]; exact (Nj.1 hj).1
  refine fin b es a w ⟨⟨fits_pre' (λq hq=>?_) (λd v hv _=>hJ.fits d v hv),hJ.size,hJ.defers,hJ.low,hJ.sees,hJ.ents,hJ.nodup,hJ.own,hJ.badlt⟩,hK.f⟩ (λk v=>⟨λhm=>?_,λhm=>?_⟩) I.n
  ·obtain ⟨m,hm,e⟩:=List.mem_filterMap.1 hq;obtain ⟨j,hj⟩:=Bq hm;exact I.v j m q.1 q.2 hj (hall hj) e
  ·obtain ⟨j,-,hj⟩:=I.t _ hm;exact Ej hj
  ·obtain ⟨j,hj⟩:=Bq hm;exact I.s j k v hj (hall hj)
end
end Go.Proofs.YthgcgciceejicaaGreatDoor
