/-
  A region that draws its order and makes one map, with pairs whose keys are numbers.
-/
import Derived.Test.YthckljafinhepaaGreatZM3
import Derived.Test.YthckljafinhepaaGreatZM30
import Derived.Test.YthckljafinhepaaGreatZM25
import Derived.Test.YthckljafinhepaaGreatZM17
import Derived.Test.YthckljafinhepaaGreatZM29
import Derived.Test.YthckljafinhepaaGreatZM5
set_option maxRecDepth 100000
namespace Go.Proofs.YthckljafinhepaaGreat
open Go.RowKit
section
variable {P:Program} {C:Fx} {c0:Code} {Q:Exit→Act→World→Prop} {h:Vw} {a:Act} {w:World} {p:List Nat} {ks:List Kt} {E:List (Nat × Value)} {B:List Ent} {F:List Fac}
def iget (n:Int):List (Int × Value)→Option Value
 | []=>none
 | (k,v) :: l=>if n=k then some v else iget n l
abbrev yQ (l:List (Int × Value)):List (Value × Value):=l.map fun p=>(.int .i64 p.1,p.2)
theorem find_int (n:Int):∀ (l:List (Int × Value)) (i j:Nat),(Instr.findNow (.int .i64) (.int .i64 n) (((yQ l).zipIdx j).map fun p=>⟨p.1.1,p.1.2,p.2⟩) i).map (Option.map (·.2))=some (iget n l)
 | [],i,j=>rfl
 | (k,v) :: l,i,j=>by
  simp only [yQ,List.map_cons,List.zipIdx_cons]
  unfold Instr.findNow
  have hsn:Instr.sameNow (.int .i64) (.int .i64 n) (.int .i64 k)=some (n == k):=rfl
  simp only [hsn]
  unfold iget
  cases hsk:n == k with
  | true=>rw [if_pos (by simpa using hsk)]; rfl
  | false=>rw [if_neg (by simpa using hsk)]; exact find_int n l (i + 1) (j + 1)
theorem mfind_int (n:Int) (l:List (Int × Value)):∃ r,mfind (.int .i64) (.int .i64 n) (yQ l)=some r∧r.map (·.2)=iget n l:=by
 have:=find_int n l 0 0
 unfold mfind ments
 cases h:Instr.findNow (.int .i64) (.int .i64 n) (((yQ l).zipIdx).map fun p=>⟨p.1.1,p.1.2,p.2⟩) 0 with
 | none=>rw [h] at this; cases this
 | some r=>rw [h] at this; exact ⟨r,rfl,by simpa using this⟩
theorem ifind_some {n:Int} {l:List (Int × Value)} {v:Value} (h:iget n l=some v):∃ i,mfind (.int .i64) (.int .i64 n) (yQ l)=some (some (i,v)):=by
 obtain ⟨r,h1,h2⟩:=mfind_int n l
 rw [h] at h2
 obtain ⟨⟨i,u⟩,e,e2⟩:=Option.map_eq_some_iff.1 h2
 subst e2
 exact ⟨i,by rw [h1,e]⟩
theorem ifind_none {n:Int} {l:List (Int × Value)} (h:iget n l=none):mfind (.int .i64) (.int .i64 n) (yQ l)=some none:=by
 obtain ⟨r,h1,h2⟩:=mfind_int n l
 rw [h] at h2
 rw [h1,Option.map_eq_none_iff.1 h2]
theorem iget_none {n:Int}:∀ {l:List (Int × Value)},n ∉ l.map (·.1)→iget n l=none
 | [],_=>rfl
 | (k,v) :: l,h=>by
  unfold iget
  simp only [List.map_cons,List.mem_cons,not_or] at h
  rw [if_neg h.1]
  exact iget_none h.2
theorem iget_mem {n:Int} {v:Value}:∀ {l:List (Int × Value)},(l.map (·.1)).Nodup→(n,v)∈l→iget n l=some v
 | (k,u) :: l,hn,h=>by
  unfold iget
  simp only [List.map_cons,List.nodup_cons] at hn
  rcases List.mem_cons.1 h with e | h
  ·simp only [Prod.mk.injEq] at e
   rw [if_pos e.1,e.2]
  ·rw [if_neg fun e=>hn.1 (by rw [← e]; exact List.mem_map.2 ⟨(n,v),h,rfl⟩)]
   exact iget_mem hn.2 h
inductive MO where
 | mk (d:Nat) | pu (d:Nat) (v:Value) | mv (d:Nat) | ins (k:Int) (v:Value)
def MO.out (b:Nat):MO→Option (Nat × Value)
 | .mk d=>some (d,.map (some b))
 | .mv d=>some (d,.map (some b))
 | .pu d v=>some (d,v)
 | .ins _ _=>none
def MO.slot:MO→Option Nat
 | .mk d=>some d
 | .mv d=>some d
 | .pu d _=>some d
 | .ins _ _=>none
def MO.late:MO→Bool
 | .mv _=>true
 | .ins _ _=>true
 | _=>false
def MO.first:MO→Bool
 | .mk _=>true
 | _=>false
theorem MO.out_slot {b:Nat} {m:MO} {d:Nat} {v:Value} (h:m.out b=some (d,v)):m.slot=some d:=by
 cases m <;> simp [MO.out,MO.slot] at h ⊢ <;> exact h.1
def mlE (L:List MO) (E:List (Nat × Value)) (b:Nat) (o:Oper):List (Nat × Value):=(dirs o).filterMap (fun j=>(L[j]?).bind (MO.out b))++E
def opM:Op→Operand
 | .insert _ m _ _=>m
 | _=>.const undef
def opK:Op→Operand
 | .insert _ _ k _=>k
 | _=>.const undef
def opV:Op→Operand
 | .insert _ _ _ v=>v
 | _=>.const undef
def insOf (t:TypeId):Op→Bool
 | .insert t' _ _ _=>Nat.beq t' t
 | _=>false
def dstIs (o:Oper) (d:Option Nat):Bool:=match o.dst,d with
 | some x,some y=>Nat.beq x y
 | none,none=>true
 | _,_=>false
def mlB (t:TypeId) (L:List MO) (E:List (Nat × Value)) (N:Nat) (b:Nat) (o:Oper) (i:Nat) (m:MO):Bool :=
 o.guard.isNone && fW (mlE L E b o) o && dstIs o m.slot && ((dirs o).all fun j=>Nat.blt j i) && (match m.slot with | some d=>Nat.blt d N && E.all (fun q => !(Nat.beq q.1 d)) | none=>true) &&
  (match m with | .mk _=>makeMapOp o.op && Nat.beq i 0 | .ins _ _=>insOf t o.op && (dirs o).contains 0 | .mv _=>(dirs o).contains 0 | .pu _ _=>true)
def mlP (P:Program) (t:TypeId) (L:List MO) (E:List (Nat × Value)) (N:Nat) (ops:Array Oper) (b:Nat) (w:World) (i:Nat) (m:MO):List (An × An) :=
 (.b (mlB t L E N b (aW ops i) i m),.b true) ::
 match m with
 | .mk _=>[]
 | .pu _ v=>[(.r ((execOp (evD (mlE L E b (aW ops i))) (aW ops i)).run P w),.r (.ok (.value v) w))]
 | .mv _=>[(.r ((execOp (evD (mlE L E b (aW ops i))) (aW ops i)).run P w),.r (.ok (.value (.map (some b))) w))]
 | .ins k v=>[(.ov (evE (mlE L E b (aW ops i)) (opM (aW ops i).op)),.ov (some (.map (some b)))),(.ov (evE (mlE L E b (aW ops i)) (opK (aW ops i).op)),.ov (some (.int .i64 k))),(.ov (evE (mlE L E b (aW ops i)) (opV (aW ops i).op)),.ov (some v))]
def mlAll (P:Program) (t:TypeId) (L:List MO) (E:List (Nat × Value)) (N:Nat) (ops:Array Oper) (b:Nat) (w:World):Nat→List MO→List (An × An)
 | _,[]=>[]
 | i,m :: l=>mlP P t L E N ops b w i m++mlAll P t L E N ops b w (i + 1) l
def mlOk (L:List MO):Bool :=
 ((List.range L.length).all fun i=>(List.range L.length).all fun j=>Nat.beq i j ||
  (match L[i]?,L[j]? with
  | some (.ins k _),some (.ins k' _)=>decide (k≠k')
  | some m,some m'=>(match m.slot,m'.slot with | some d,some d' => !(Nat.beq d d') | _,_=>true)
  | _,_=>true)) && (match L[0]? with | some m=>m.first | none=>false)
theorem mlAll_mem {t:TypeId} {L:List MO} {N:Nat} {ops:Array Oper} {b:Nat}:∀ {l:List MO} {k i:Nat} {m:MO},l[i]?=some m→∀ e∈mlP P t L E N ops b w (k + i) m,e∈mlAll P t L E N ops b w k l
 | [],_,_,_,h,_,_=>by simp at h
 | x :: l,k,0,m,h,e,he=>by
  simp only [List.getElem?_cons_zero,Option.some.injEq] at h
  subst h
  exact List.mem_append_left _ he
 | x :: l,k,i + 1,m,h,e,he=>by
  simp only [List.getElem?_cons_succ] at h
  refine List.mem_append_right _ (mlAll_mem (l:=l) (k:=k + 1) h e ?_)
  rw [show k + 1 + i=k + (i + 1) by omega]; exact he
theorem mlOk_slot {L:List MO} (h:mlOk L=true) {i j:Nat} {m m':MO} {d:Nat} (hi:L[i]?=some m) (hj:L[j]?=some m') (e1:m.slot=some d) (e2:m'.slot=some d):i=j:=by
 unfold mlOk at h
 rw [Bool.and_eq_true] at h
 have:=List.all_eq_true.1 (List.all_eq_true.1 h.1 i (List.mem_range.2 (List.getElem?_eq_some_iff.1 hi).1)) j (List.mem_range.2 (List.getElem?_eq_some_iff.1 hj).1)
 rw [Bool.or_eq_true] at this
 rcases this with g | g
 ·exact Nat.eq_of_beq_eq_true g
 ·rw [hi,hj] at g
  cases m <;> cases m' <;> simp [MO.slot] at e1 e2 g <;> (subst e1 e2; simp at g)
theorem mlOk_key {L:List MO} (h:mlOk L=true) {i j:Nat} {k:Int} {v v':Value} (hi:L[i]?=some (.ins k v)) (hj:L[j]?=some (.ins k v')):i=j:=by
 unfold mlOk at h
 rw [Bool.and_eq_true] at h
 have:=List.all_eq_true.1 (List.all_eq_true.1 h.1 i (List.mem_range.2 (List.getElem?_eq_some_iff.1 hi).1)) j (List.mem_range.2 (List.getElem?_eq_some_iff.1 hj).1)
 rw [Bool.or_eq_true] at this
 rcases this with g | g
 ·exact Nat.eq_of_beq_eq_true g
 ·rw [hi,hj] at g
  simp at g
theorem J.putOut (hJ:J C E B h a w) {d:Nat} (v:Value) (_:d < C.N) (hE:∀ q∈E,q.1≠d):J C E B h (a.put (some d) v) w :=
 ⟨fun x u hx=>by
  have hm:∀ {E:List (Nat × Value)},lookup E x=some u→∃ q∈E,q.1=x:=by
   intro E
   induction E with
   | nil=>intro h; cases h
   | cons q E ih =>
    intro h
    unfold lookup at h
    split at h
    ·rename_i e; exact ⟨q,by simp,Nat.eq_of_beq_eq_true e⟩
    ·obtain ⟨q',h1,h2⟩:=ih h; exact ⟨q',List.mem_cons_of_mem _ h1,h2⟩
  obtain ⟨q,hq,rfl⟩:=hm hx
  rw [qK (fun e=>hE q hq e.symm)]
  exact hJ.fits _ _ hx,by simpa [Act.put] using hJ.size,hJ.defers,hJ.low,hJ.sees,hJ.ents,hJ.nodup,hJ.own,hJ.badlt⟩
structure MI (C:Fx) (E:List (Nat × Value)) (B:List Ent) (L:List MO) (h:Vw) (D:Nat→Prop) (b:Nat) (es:List (Int × Value)) (a:Act) (w:World):Prop where
 j1:D 0→J C E (.map b (yQ es) :: B) h a w
 j0:¬ D 0→J C E B h a w
 v:∀ i m d u,L[i]?=some m→D i→m.out b=some (d,u)→a.eval (.tmp d)=u
 s:∀ i k u,L[i]?=some (.ins k u)→D i→(k,u)∈es
 t:∀ e∈es,∃ i,D i∧L[i]?=some (.ins e.1 e.2)
 n:(es.map (·.1)).Nodup
 z:∀ i m,L[i]?=some m→m.late=true→D i→D 0
theorem MI.base {D:Nat→Prop} {L:List MO} {b:Nat} {es:List (Int × Value)} (I:MI C E B L h D b es a w):Fits E a∧a.tmps.size=C.N:=by
 by_cases g:D 0
 ·exact ⟨(I.j1 g).fits,(I.j1 g).size⟩
 ·exact ⟨(I.j0 g).fits,(I.j0 g).size⟩
theorem MI.fits {D:Nat→Prop} {L:List MO} {b:Nat} {es:List (Int × Value)} {o:Oper} (I:MI C E B L h D b es a w) (hd:∀ j∈dirs o,D j):Fits (mlE L E b o) a:=by
 refine fits_pre' (fun p hp=>?_) (fun d v hv _=>I.base.1 d v hv)
 obtain ⟨j,hj,e⟩:=List.mem_filterMap.1 hp
 cases hm:L[j]? with
 | none=>rw [hm] at e; cases e
 | some m=>rw [hm] at e; exact I.v j m p.1 p.2 hm (hd j hj) e
theorem x_maplit (hm:P.follows .mixedOrders=true) (hK:K C E B F h a w) (t:TypeId) {kt et:TypeId} (ht:P.underlying t=some (.map kt et)) (htd:P.underlying kt=some (.int .i64)) (L:List MO)
  (hst:(match drawnOf (sub c0 p) with | some ops=>Nat.beq ops.size L.length && mlOk L | none=>false)=true)
  (hc:∀ b w,(mlAll P t L E C.N (eW c0 p) b w 0 L).map (·.1)=(mlAll P t L E C.N (eW c0 p) b w 0 L).map (·.2))
  (fin:∀ b es a w,K C (L.filterMap (MO.out b)++E) (.map b (yQ es) :: B) F h a w→(∀ k v,(k,v)∈es↔MO.ins k v∈L)→(es.map (·.1)).Nodup→Goal P c0 Q (.out .normal) ks a w):Goal P c0 Q (.code p) ks a w:=by
 split at hst
 case h_2=>cases hst
 rename_i ops hops
 obtain ⟨id,hid⟩:=drawnOf_some hops
 rw [Bool.and_eq_true] at hst
 obtain ⟨c1,c2⟩:=hst
 have c1:=Nat.eq_of_beq_eq_true c1
 have hoa:eW c0 p=ops:=by unfold eW; rw [hid]; rfl
 rw [hoa] at hc
 have chk:∀ (b:Nat) (w:World) (i:Nat) (m:MO),L[i]?=some m→∀ e∈mlP P t L E C.N ops b w i m,e.1=e.2:=fun b w i m hi e he =>
  pair_eq (hc b w) e (mlAll_mem (k:=0) hi e (by rw [Nat.zero_add]; exact he))
 have chkB:∀ (b:Nat) (i:Nat) (m:MO),L[i]?=some m→mlB t L E C.N b (aW ops i) i m=true:=fun b i m hi=>by
  have:=chk b w i m hi _ (by unfold mlP; exact List.mem_cons_self)
  simpa using this
 have first:∃ d,L[0]?=some (.mk d):=by
  have:=c2
  unfold mlOk at this
  rw [Bool.and_eq_true] at this
  have:=this.2
  cases h0:L[0]? with
  | none=>rw [h0] at this; cases this
  | some m=>rw [h0] at this; cases m <;> simp [MO.first] at this; exact ⟨_,rfl⟩
 unfold Goal
 simp only
 rw [hid]
 refine region_inv hm (fun D a w=>∃ b es,MI C E B L h D b es a w) (fun i o ho e he hb=>?_) ?_ (fun i o D a w ho hn' hd ⟨b,es,I⟩=>?_) (fun a w ⟨b,es,I⟩=>?_)
 ·have hlt:=(Array.getElem?_eq_some_iff.1 ho).1
  have hB:=chkB 0 i _ (List.getElem?_eq_getElem (by omega))
  unfold mlB at hB
  rw [dW ho] at hB
  simp only [Bool.and_eq_true] at hB
  have:=List.all_eq_true.1 hB.1.1.2 e.on (List.mem_map.2 ⟨e,List.mem_filter.2 ⟨by simpa using he,hb⟩,rfl⟩)
  have:=Nat.le_of_ble_eq_true this
  omega
 ·have hl:Low [] w w.drew:=Low.of_below (Below.refl _ _).drew
  exact ⟨0,[],fun h=>h.elim,fun _=>hK.j.grow hl,fun _ _ _ _ _ h=>h.elim,fun _ _ _ _ h=>h.elim,fun e he=>(by cases he),List.nodup_nil,fun _ _ _ _ h=>h.elim⟩
 ·have hlt:i < L.length:=by rw [← c1]; exact (Array.getElem?_eq_some_iff.1 ho).1
  obtain ⟨m,hmi⟩:∃ m,L[i]?=some m:=⟨_,List.getElem?_eq_getElem hlt⟩
  have hdd:∀ j∈dirs o,D j:=fun k hk=>by
   obtain ⟨e,he,rfl⟩:=List.mem_map.1 hk
   obtain ⟨h1,h2⟩:=List.mem_filter.1 he
   exact hd e (by simpa using h1) h2
  have hB:=chkB b i m hmi
  have hP:=chk b w i m hmi
  unfold mlB at hB
  unfold mlP at hP
  rw [dW ho] at hB hP
  simp only [Bool.and_eq_true] at hB
  obtain ⟨⟨⟨⟨⟨b1,b2⟩,b3⟩,-⟩,b5⟩,b6⟩:=hB
  have hg:o.guard=none:=by simpa using b1
  have hw:Region.wanted o (yielded ops a.tmps)=true:=by unfold Region.wanted; rw [hg]
  have hev:=iX (I.fits hdd) b2
  have ne:∀ j,D j→j≠i:=fun j hj e=>hn' (e ▸ hj)
  have slots:∀ {d},m.slot=some d→o.dst=some d∧d < C.N∧(∀ q∈E,q.1≠d):=fun {d} e=>by
   rw [e] at b3 b5
   simp only [Bool.and_eq_true] at b5
   refine ⟨?_,by have:=Nat.le_of_ble_eq_true b5.1; omega,fun q hq e=>?_⟩
   ·unfold dstIs at b3
    cases hx:o.dst with
    | none=>rw [hx] at b3; cases b3
    | some x=>rw [hx] at b3; rw [Nat.eq_of_beq_eq_true b3]
   ·have:=List.all_eq_true.1 b5.2 q hq
    rw [e] at this; simp at this
  have others:∀ {d} (u:Value),m.slot=some d→∀ j m' d' u',L[j]?=some m'→D j→m'.out b=some (d',u')→(a.put (some d) u).eval (.tmp d')=u':=fun {d} u hs j m' d' u' hj hDj ho'=>by
   rw [qK fun e=>ne j hDj (mlOk_slot c2 hj hmi (MO.out_slot ho') (by rw [← e]; exact hs))]
   exact I.v j m' d' u' hj hDj ho'
  cases m with
  | pu d u =>
   obtain ⟨s1,s2,s3⟩:=slots rfl
   have hr:=hP _ (List.mem_cons_of_mem _ (List.mem_singleton_self _))
   simp only [An.r.injEq] at hr
   refine aY ho hw (by rw [hev]; exact hr) ⟨b,es,?_⟩
   rw [s1]
   have h00:D 0↔(0=i∨D 0):=⟨.inr,fun q=>q.elim (fun e=>by
    obtain ⟨x,hx⟩:=first
    subst e
    rw [hx] at hmi; cases hmi) fun q=>q⟩
   refine ⟨fun g=>(I.j1 (h00.2 g)).putOut _ s2 s3,fun g=>(I.j0 fun q=>g (.inr q)).putOut _ s2 s3,fun j m' d' u' hj hDj ho'=>?_,fun j k' u' hj hDj=>?_,fun e he=>?_,I.n,fun j m' hj hl hDj=>?_⟩
   ·rcases hDj with rfl | hDj
    ·rw [hmi] at hj
     cases hj
     simp only [MO.out,Option.some.injEq,Prod.mk.injEq] at ho'
     obtain ⟨rfl,rfl⟩:=ho'
     exact rK (by rw [I.base.2]; exact s2)
    ·exact others u rfl j m' d' u' hj hDj ho'
   ·rcases hDj with rfl | hDj
    ·rw [hmi] at hj; cases hj
    ·exact I.s j k' u' hj hDj
   ·obtain ⟨q,q1,q2⟩:=I.t e he; exact ⟨q,.inr q1,q2⟩
   ·rcases hDj with rfl | hDj
    ·rw [hmi] at hj; cases hj; cases hl
    ·exact .inr (I.z j m' hj hl hDj)
  | mv d =>
   obtain ⟨s1,s2,s3⟩:=slots rfl
   have hr:=hP _ (List.mem_cons_of_mem _ (List.mem_singleton_self _))
   simp only [An.r.injEq] at hr
   have d0:D 0:=hdd 0 (by simpa using b6)
   refine aY ho hw (by rw [hev]; exact hr) ⟨b,es,?_⟩
   rw [s1]
   refine ⟨fun g=>(I.j1 d0).putOut _ s2 s3,fun g=>absurd (.inr d0) g,fun j m' d' u' hj hDj ho'=>?_,fun j k' u' hj hDj=>?_,fun e he=>?_,I.n,fun j m' hj hl hDj=>.inr d0⟩
   ·rcases hDj with rfl | hDj
    ·rw [hmi] at hj
     cases hj
     simp only [MO.out,Option.some.injEq,Prod.mk.injEq] at ho'
     obtain ⟨rfl,rfl⟩:=ho'
     exact rK (by rw [I.base.2]; exact s2)
    ·exact others _ rfl j m' d' u' hj hDj ho'
   ·rcases hDj with rfl | hDj
    ·rw [hmi] at hj; cases hj
    ·exact I.s j k' u' hj hDj
   ·obtain ⟨q,q1,q2⟩:=I.t e he; exact ⟨q,.inr q1,q2⟩
  | mk d =>
   obtain ⟨s1,s2,s3⟩:=slots rfl
   simp only [Bool.and_eq_true] at b6
   have hi0:i=0:=Nat.eq_of_beq_eq_true b6.2
   subst hi0
   have hJ:=I.j0 hn'
   obtain ⟨t',e⟩:∃ t',o.op=.makeMap t' none:=by
    have:=b6.1
    unfold makeMapOp at this
    split at this
    ·rename_i t' e; exact ⟨t',e⟩
    ·cases this
   have hrun:(execOp (evD (mlE L E b o)) o).run P w=.ok (.value (.map (some w.heap.size))) (w.alloc (.map #[] 0)):=by
    unfold execOp
    simp only [e]
    simp [run_makeMap,Result.andThen]
   refine aY ho hw (by rw [hev]; exact hrun) ⟨w.heap.size,[],?_⟩
   rw [s1]
   refine ⟨fun _=>hJ.newMap.putOut _ s2 s3,fun g=>absurd (.inl rfl) g,fun j m' d' u' hj hDj ho'=>?_,fun j k' u' hj hDj=>?_,fun e he=>(by cases he),List.nodup_nil,fun j m' hj hl hDj=>.inl rfl⟩
   ·rcases hDj with rfl | hDj
    ·rw [hmi] at hj
     cases hj
     simp only [MO.out,Option.some.injEq,Prod.mk.injEq] at ho'
     obtain ⟨rfl,rfl⟩:=ho'
     exact rK (by rw [I.base.2]; exact s2)
    ·have hnl:m'.late=false:=by
      cases hl:m'.late with
      | false=>rfl
      | true=>exact absurd (I.z j m' hj hl hDj) hn'
     cases m' with
     | pu d2 u2 =>
      exact others _ rfl j _ d' u' hj hDj ho'
     | mk d2 =>
      have hB2:=chkB b j _ hj
      unfold mlB at hB2
      simp only [Bool.and_eq_true] at hB2
      exact absurd (Nat.eq_of_beq_eq_true hB2.2.2) (ne j hDj)
     | mv d2=>cases hnl
     | ins k2 u2=>cases hnl
   ·rcases hDj with rfl | hDj
    ·rw [hmi] at hj; cases hj
    ·exact absurd (I.z j _ hj rfl hDj) hn'
  | ins k u =>
   simp only [Bool.and_eq_true] at b6
   have d0:D 0:=hdd 0 (by simpa using b6.2)
   have hJ:=I.j1 d0
   have e1:=hP _ (List.mem_cons_of_mem _ List.mem_cons_self)
   have e2:=hP _ (List.mem_cons_of_mem _ (List.mem_cons_of_mem _ List.mem_cons_self))
   have e3:=hP _ (List.mem_cons_of_mem _ (List.mem_cons_of_mem _ (List.mem_cons_of_mem _ List.mem_cons_self)))
   simp only [An.ov.injEq] at e1 e2 e3
   obtain ⟨mo,ko,vo,e⟩:∃ mo ko vo,o.op=.insert t mo ko vo:=by
    have:=b6.1
    unfold insOf at this
    split at this
    ·rename_i t' mo ko vo e; exact ⟨mo,ko,vo,by rw [e,Nat.eq_of_beq_eq_true this]⟩
    ·cases this
   rw [e] at e1 e2 e3
   have hkey:k ∉ es.map (·.1):=fun hk=>by
    obtain ⟨x,hx,e'⟩:=List.mem_map.1 hk
    obtain ⟨j,j1,j2⟩:=I.t x hx
    rw [e'] at j2
    exact ne j j1 (mlOk_key c2 j2 hmi)
   have hu:=run_update_at (P:=P) (v:=u) (hJ.ents _ List.mem_cons_self:w.heap[b]?=some (iV (yQ es))) ht htd (k:=.int .i64 k) rfl (ifind_none (iget_none hkey))
   have g1:evD (mlE L E b o) mo=.map (some b):=by unfold evD; rw [show evE (mlE L E b o) mo=_ from e1]; rfl
   have g2:evD (mlE L E b o) ko=.int .i64 k:=by unfold evD; rw [show evE (mlE L E b o) ko=_ from e2]; rfl
   have g3:evD (mlE L E b o) vo=u:=by unfold evD; rw [show evE (mlE L E b o) vo=_ from e3]; rfl
   have hrun:(execOp (evD (mlE L E b o)) o).run P w=.ok .skip { w with heap:=w.heap.setIfInBounds b (iV (yQ es++[(.int .i64 k,u)])) }:=by
    unfold execOp
    simp only [e,g1,g2,g3]
    simp [hu,Result.andThen]
   have hdst:o.dst=none:=by
    have:dstIs o none=true:=b3
    unfold dstIs at this
    cases hx:o.dst with
    | none=>rfl
    | some x=>rw [hx] at this; cases this
   refine wpOp_skip ho hw (by rw [hev]; exact hrun) ⟨b,es++[(k,u)],?_⟩
   rw [hdst]
   show MI C E B L h _ b _ a _
   refine ⟨fun _=>?_,fun g=>absurd (.inr d0) g,fun j m' d' u' hj hDj ho'=>?_,fun j k' u' hj hDj=>?_,fun x hx=>?_,?_,fun j m' hj hl hDj=>.inr d0⟩
   ·have:=hJ.setMap (i:=0) (es':=yQ es++[(.int .i64 k,u)]) rfl
    rw [show yQ (es++[(k,u)])=yQ es++[(.int .i64 k,u)] by simp [yQ]]
    exact this
   ·rcases hDj with rfl | hDj
    ·rw [hmi] at hj; cases hj; cases ho'
    ·exact I.v j m' d' u' hj hDj ho'
   ·rcases hDj with rfl | hDj
    ·rw [hmi] at hj; cases hj; simp
    ·exact List.mem_append_left _ (I.s j k' u' hj hDj)
   ·rcases List.mem_append.1 hx with hx | hx
    ·obtain ⟨q,q1,q2⟩:=I.t x hx; exact ⟨q,.inr q1,q2⟩
    ·rw [List.mem_singleton.1 hx]; exact ⟨i,.inl rfl,hmi⟩
   ·rw [List.map_append,List.nodup_append]
    refine ⟨I.n,by simp,fun x hx y hy e'=>?_⟩
    simp only [List.map_cons,List.map_nil,List.mem_singleton] at hy
    subst hy e'
    exact hkey hx
 ·obtain ⟨x0,hx0⟩:=first
  have hl0:=(List.getElem?_eq_some_iff.1 hx0).1
  have hJ:=I.j1 (by omega)
  have hall:∀ {j m},L[j]?=some m→j < ops.size:=fun hj=>by rw [c1]; exact (List.getElem?_eq_some_iff.1 hj).1
  refine fin b es a w ⟨⟨fits_pre' (fun q hq=>?_) (fun d v hv _=>hJ.fits d v hv),hJ.size,hJ.defers,hJ.low,hJ.sees,hJ.ents,hJ.nodup,hJ.own,hJ.badlt⟩,hK.f⟩ (fun k v=>⟨fun hm=>?_,fun hm=>?_⟩) I.n
  ·obtain ⟨m,hm,e⟩:=List.mem_filterMap.1 hq
   obtain ⟨j,hj⟩:=List.getElem?_of_mem hm
   exact I.v j m q.1 q.2 hj (hall hj) e
  ·obtain ⟨j,-,hj⟩:=I.t _ hm
   exact List.mem_of_getElem? hj
  ·obtain ⟨j,hj⟩:=List.getElem?_of_mem hm
   exact I.s j k v hj (hall hj)
end
end Go.Proofs.YthckljafinhepaaGreat
namespace Go.Proofs.YthckljafinhepaaGreat
open Go.RowKit Go.Shelf
def TypesAt (h:Vw) (b:Nat) (f:ByteArray→Option Int):Prop:=∃ l,MapAt h b (rX l)∧∀ s,sget s l=(f s).map (.int .i64)
theorem TypesAt.sees {h h':Vw} {b:Nat} {f:ByteArray→Option Int} (k:TypesAt h b f) (s:Sees h h'):TypesAt h' b f:=by
 obtain ⟨l,h1,h2⟩:=k
 exact ⟨l,h1.sees s,h2⟩
theorem types_any (fs:List Fd) (v:Value) (h:Vw) (hf:IsFds h v fs):C0 Tryz.prog 142 #[v] h (fun r h'=>∃ b,r=.map (some b)∧TypesAt h' b (tyF fs)):=by
 intro _ _ _ hbad
 obtain ⟨vs,hr,hs⟩:=hf
 have hvl:=hs.len
 obtain ⟨A,cap,rfl,-,-,-⟩:=hr.form
 rw [cQ hvl] at hr ⊢
 have hsl:∀ v∈vs,.slice (sA v) (sN v) (sC v)=v:=fun v hv=>by
  obtain ⟨i,hi⟩:=List.getElem?_of_mem hv
  have hlt:=(List.getElem?_eq_some_iff.1 hi).1
  obtain ⟨x,hx⟩:∃ x,(fs.map (·.src))[i]?=some x:=⟨_,List.getElem?_eq_getElem (by rw [List.length_map]; omega)⟩
  obtain ⟨A,n,c,rfl⟩:=(AllArgs.get hs hx hi).slice
  rfl
 refine (callsIn_wide.1 (types_in fs vs A cap h hr hvl hsl 9 (by omega))).mono ?_
 rintro e w' ⟨rfl,⟨l,h1,h2⟩,hb⟩
 exact ⟨_,[],rfl,Low.of_below hb,(fun x hx=>by cases hx),rfl,_,rfl,l,⟨fun hm=>Nat.lt_irrefl _ (hbad _ hm),h1⟩,h2⟩
def RulesAt (h:Vw) (b:Nat):Prop:=∃ es,MapAt h b (yQ es)∧∀ op,match ruleT op with
 | some (a,t)=>∃ A n c,iget op es=some (.agg #[.slice A n c,.int .i64 t])∧RS h 1 (.slice A n c) (zQ a)
 | none=>iget op es=none
theorem RulesAt.sees {h h':Vw} {b:Nat} (k:RulesAt h b) (s:Sees h h'):RulesAt h' b:=by
 obtain ⟨es,h1,h2⟩:=k
 refine ⟨es,h1.sees s,fun op=>?_⟩
 have:=h2 op
 split at this
 ·obtain ⟨A,n,c,h3,h4⟩:=this
  exact ⟨A,n,c,h3,h4.sees s⟩
 ·exact this
def rulesL (A B C:Value × Value):List (Int × Value) :=
 [(3,.agg #[A.2,.int .i64 1]),(4,.agg #[B.2,.int .i64 2]),(18,.agg #[C.2,.int .i64 1]),(5,.agg #[A.1,.int .i64 1]),(6,.agg #[A.1,.int .i64 1]),(7,.agg #[A.1,.int .i64 1]),(8,.agg #[A.1,.int .i64 1]),(9,.agg #[A.1,.int .i64 1]),
  (10,.agg #[C.1,.int .i64 3]),(15,.agg #[B.1,.int .i64 2]),(16,.agg #[B.1,.int .i64 2])]
theorem rules_get {es:List (Int × Value)} {A B C:Value × Value} (hn:(es.map (·.1)).Nodup) (he:∀ k v,(k,v)∈es↔(k,v)∈rulesL A B C) (op:Int):iget op es=iget op (rulesL A B C):=by
 have hnl:((rulesL A B C).map (·.1)).Nodup:=by simp [rulesL]
 cases h:iget op (rulesL A B C) with
 | some v =>
  have hm:∀ {l:List (Int × Value)},iget op l=some v→(op,v)∈l:=by
   intro l
   induction l with
   | nil=>intro h; cases h
   | cons p l ih =>
    obtain ⟨k,u⟩:=p
    intro h
    unfold iget at h
    split at h
    ·rename_i e; simp only [Option.some.injEq] at h; subst e h; simp
    ·exact List.mem_cons_of_mem _ (ih h)
  exact iget_mem hn ((he op v).2 (hm h))
 | none =>
  refine iget_none fun hm=>?_
  obtain ⟨⟨k,v⟩,hm2,rfl⟩:=List.mem_map.1 hm
  rw [iget_mem hnl ((he k v).1 hm2)] at h
  cases h
theorem rules_any (h:Vw):C0 Tryz.prog 143 #[] h (fun r h'=>∃ b,r=.map (some b)∧RulesAt h' b):=by
 refine fY Tryz.func143 (c:=Tryz.f143.body.getD .skip) (N:=34) ?_
 intro hbx hbad Q hQ a w hJ
 refine rx' hJ true 16 [.fix,.fix,.fix] [] (.new fun b1=>.new fun b2=>.new fun b3=>.ok (.code [0,1,1]) [.seq [1,1,1]] [(1,Vs b1 2 2),(2,Vs b2 2 2),(3,Vs b3 2 2)] [] [(b3,0,[Vi 3,Vi 3]),(b2,0,[Vi 2,Vi 2]),(b1,0,[Vi 1,Vi 1])]) (fun b1 b2 b3 _=>by kernel_rfl) ?_
 clear hJ a w; intro b1 b2 b3 h4 a w s5 hJ
 replace hJ:K ⟨34,h.w,h.bad,[]⟩ [(1,Vs b1 2 2),(2,Vs b2 2 2),(3,Vs b3 2 2)] [] [(b3,0,[Vi 3,Vi 3]),(b2,0,[Vi 2,Vi 2]),(b1,0,[Vi 1,Vi 1])] h4 a w:=hJ.tw
 refine x_maplit (by kernel_rfl) hJ 184 Tryz.underlying184 Tryz.underlying3 [.mk 7,.pu 8 (Vs b1 2 2),.pu 9 (Vs b1 1 2),.pu 10 (.agg #[Vs b1 1 2,Vi 1]),.ins 3 (.agg #[Vs b1 1 2,Vi 1]),.pu 11 (Vs b2 2 2),.pu 12 (Vs b2 1 2),.pu 13 (.agg #[Vs b2 1 2,Vi 2]),.ins 4 (.agg #[Vs b2 1 2,Vi 2]),.pu 14 (Vs b3 2 2),.pu 15 (Vs b3 1 2),.pu 16 (.agg #[Vs b3 1 2,Vi 1]),.ins 18 (.agg #[Vs b3 1 2,Vi 1]),.pu 17 (Vs b1 2 2),.pu 18 (.agg #[Vs b1 2 2,Vi 1]),.ins 5 (.agg #[Vs b1 2 2,Vi 1]),.pu 19 (Vs b1 2 2),.pu 20 (.agg #[Vs b1 2 2,Vi 1]),.ins 6 (.agg #[Vs b1 2 2,Vi 1]),.pu 21 (Vs b1 2 2),.pu 22 (.agg #[Vs b1 2 2,Vi 1]),.ins 7 (.agg #[Vs b1 2 2,Vi 1]),.pu 23 (Vs b1 2 2),.pu 24 (.agg #[Vs b1 2 2,Vi 1]),.ins 8 (.agg #[Vs b1 2 2,Vi 1]),.pu 25 (Vs b1 2 2),.pu 26 (.agg #[Vs b1 2 2,Vi 1]),.ins 9 (.agg #[Vs b1 2 2,Vi 1]),.pu 27 (Vs b3 2 2),.pu 28 (.agg #[Vs b3 2 2,Vi 3]),.ins 10 (.agg #[Vs b3 2 2,Vi 3]),.pu 29 (Vs b2 2 2),.pu 30 (.agg #[Vs b2 2 2,Vi 2]),.ins 15 (.agg #[Vs b2 2 2,Vi 2]),.pu 31 (Vs b2 2 2),.pu 32 (.agg #[Vs b2 2 2,Vi 2]),.ins 16 (.agg #[Vs b2 2 2,Vi 2]),.mv 33,.mv 0] (by kernel_rfl) (fun _ _=>by kernel_rfl) ?_; clear hJ a w; intro b6 es7 a w hJ1 hes8 hnd9
 have hJ:K ⟨34,h.w,h.bad,[]⟩ [(0,.map (some b6))] [.map b6 (yQ es7)] [(b3,0,[Vi 3,Vi 3]),(b2,0,[Vi 2,Vi 2]),(b1,0,[Vi 1,Vi 1])] h4 a w:=hJ1.tw; clear hJ1
 refine rk' hJ false 2 [] [] (.k (.out .ret) [] [0] []) ?_
 clear hJ a w; intro a w hJ
 refine gY (hQ [.map (some b6)] _ [] hJ (.rtm hJ.j .nil) (fJ _) rfl ?_).1
 skip
 have c1:Cells ⟨w,h.bad⟩ b1 0 _:=(hJ.f _ (List.mem_cons_of_mem _ (List.mem_cons_of_mem _ List.mem_cons_self))).sees hJ.j.out
 have c2:Cells ⟨w,h.bad⟩ b2 0 _:=(hJ.f _ (List.mem_cons_of_mem _ List.mem_cons_self)).sees hJ.j.out
 have c3:Cells ⟨w,h.bad⟩ b3 0 _:=(hJ.f _ List.mem_cons_self).sees hJ.j.out
 have n2:=fX [1,1] (by decide) c1
 have t2:=fX [2,2] (by decide) c2
 have s2:=fX [3,3] (by decide) c3
 have n1:=n2.take 1 (by decide)
 have t1:=t2.take 1 (by decide)
 have s1:=s2.take 1 (by decide)
 refine ⟨b6,rfl,es7,hJ.mapOut 0 (by kernel_rfl) rfl,fun op=>?_⟩
 rw [rules_get (A:=(.slice (some ⟨b1,0,none⟩) 2 2,.slice (some ⟨b1,0,none⟩) 1 2)) (B:=(.slice (some ⟨b2,0,none⟩) 2 2,.slice (some ⟨b2,0,none⟩) 1 2)) (C:=(.slice (some ⟨b3,0,none⟩) 2 2,.slice (some ⟨b3,0,none⟩) 1 2)) hnd9 (fun k v=>by
  rw [hes8]
  simp [rulesL])]
 clear hJ hes8 hnd9
 unfold ruleT
 by_cases e3:op=3
 ·subst e3; exact ⟨_,_,_,rfl,n1⟩
 by_cases e4:op=4
 ·subst e4; exact ⟨_,_,_,rfl,t1⟩
 by_cases e18:op=18
 ·subst e18; exact ⟨_,_,_,rfl,s1⟩
 by_cases e5:5≤op∧op≤9
 ·rcases (by omega:op=5∨op=6∨op=7∨op=8∨op=9) with rfl | rfl | rfl | rfl | rfl <;> exact ⟨_,_,_,rfl,n2⟩
 by_cases e10:op=10
 ·subst e10; exact ⟨_,_,_,rfl,s2⟩
 by_cases e15:op=15
 ·subst e15; exact ⟨_,_,_,rfl,t2⟩
 by_cases e16:op=16
 ·subst e16; exact ⟨_,_,_,rfl,t2⟩
 rw [if_neg e3,if_neg e4,if_neg e18,if_neg e5,if_neg e10,if_neg (by omega)]
 simp only
 unfold rulesL iget
 simp only [iget]
 rw [if_neg e3,if_neg e4,if_neg e18,if_neg (by omega),if_neg (by omega),if_neg (by omega),if_neg (by omega),if_neg (by omega),if_neg e10,if_neg e15,if_neg e16]
theorem equal_any (l m:List Int) (sl sl':Value) (h:Vw) (hr:RS h 1 sl (zQ l)) (hr':RS h 1 sl' (zQ m)):C0 Tryz.prog 49 #[sl,sl'] h (fun r _=>r=.bool (decide (l=m))):=by
 obtain ⟨A,ca,rfl,l1,l2,-⟩:=hr.form
 obtain ⟨A',ca',rfl,-,-,-⟩:=hr'.form
 rw [List.length_map] at hr hr' l1 ⊢
 unfold maxLen at l2
 rw [List.length_map]
 by_cases hlm:l.length=m.length
 rotate_left
 ·rw [decide_eq_false (fun e=>hlm (by rw [e]))]
  generalize hL:l.length=len at *
  generalize hL':m.length=len' at *
  refine fY Tryz.func49 (c:=Tryz.f49.body.getD .skip) (N:=26) ?_
  intro hbx hbad Q hQ a w hJ
  refine rk' hJ false 15 [] [] (.k (.code [1,0,1]) [.seq [1,1]] [0,1] [(10,.bool ((len:Int) != (len':Int)))]) ?_
  clear hJ a w; intro a w hJ
  refine qY hJ (t:=(len:Int) != (len':Int)) (bne_iff_ne.2 (by omega)) ?_
  refine rx' hJ false 7 [] [] (.ok (.out .ret) [] [(4,.bool false)] [] []) (fun _=>by kernel_rfl) ?_
  clear hJ a w; intro a w hJ
  refine gY (hQ [.bool false] _ [] hJ (.rtm hJ.j .nil) (fJ _) rfl ?_).1
  exact rfl
 ·rw [← hlm] at hr' ⊢
  have hml:m.length=l.length:=hlm.symm
  clear hlm
  generalize hL:l.length=len at *
  refine fY Tryz.func49 (c:=Tryz.f49.body.getD .skip) (N:=26) ?_
  intro hbx hbad Q hQ a w hJ
  refine rk' hJ false 27 [] [(10,.bool ((len:Int) != (len:Int)),.bool false)] (.k (.code [0,1,0,1,1]) [.block 0,.seq [1,1,1]] [0,1] [(12,Vi (len:Int)),(13,Vi 0)]) (hc:=And.intro (congrArg Value.bool (bne_self_eq_false _)) (trivial)) ?_
  clear hJ a w; intro a w hJ
  refine kY (fun (k:Nat) a w=>∃ (h1:Vw) ,K ⟨26,h.w,h.bad,[]⟩ [(0,.slice A len ca),(1,.slice A' len ca'),(12,Vi (len:Int)),(13,Vi (k:Int))] [] [] h1 a w∧Sees h h1∧(k≤len)∧(l.take k=m.take k)) (fun k=>len - k) (0) ⟨h,hJ.tw,Sees.refl _,Nat.zero_le _,rfl⟩ ?_
  clear hJ a w; rintro k a w ⟨h1,hJ,s2,hk,hpre⟩
  refine rk' hJ false 6 [] [] (.k (.code [0,1,0,0,1,0,1,1]) [.seq [1,1,0,0,1,0,1,1]] [0,1,12,13] [(14,.bool (decide ((k:Int) < (len:Int))))]) ?_
  clear hJ a w; intro a w hJ
  rcases (by omega:k < len∨len=k) with hlt | hke
  ·obtain ⟨x,hx⟩:∃ x,l[k]?=some x:=⟨_,List.getElem?_eq_getElem (by omega)⟩
   obtain ⟨y,hy⟩:∃ y,m[k]?=some y:=⟨_,List.getElem?_eq_getElem (by omega)⟩
   have hrow:(zQ l)[k]?=some [.int .i64 x]:=by rw [List.getElem?_map,hx]; rfl
   have hrow':(zQ m)[k]?=some [.int .i64 y]:=by rw [List.getElem?_map,hy]; rfl
   refine qY hJ (t:=decide ((k:Int) < (len:Int))) (decide_eq_true (by omega)) ?_
   refine rk' hJ false 11 [] [] (.k (.code [0,1,0,0,1,1,0,0,1,0,1,1]) [.seq [1,1,0,0,1,1,0,0,1,0,1,1],.block 1,.seq [1,1,1,0,0,1,0,1,1]] [0,1,12,13] [(5,Vi (k:Int))]) ?_
   clear hJ a w; intro a w hJ
   obtain ⟨b3,o4,rfl,-,c5⟩:=RS.row hr (hrow)
   replace hJ:=hJ.fact (c5.sees s2)
   obtain ⟨b6,o7,rfl,-,c8⟩:=RS.row hr' (hrow')
   replace hJ:=hJ.fact (c8.sees s2)
   let R:Reg:=⟨⟨26,h.w,h.bad,[]⟩,[(0,16,fun gh=>.slice (some ⟨b3,o4,none⟩) len ca),(1,17,fun gh=>Vi (k:Int)),(2,18,fun gh=>.pointer (some ⟨b3,o4 + k * 1,none⟩)),(3,19,fun gh=>Vi x),(4,20,fun gh=>.slice (some ⟨b6,o7,none⟩) len ca'),(5,21,fun gh=>Vi (k:Int)),(6,22,fun gh=>.pointer (some ⟨b6,o7 + k * 1,none⟩)),(7,23,fun gh=>Vi y),(8,24,fun gh=>.bool (x != y))],[(0,.slice (some ⟨b3,o4,none⟩) len ca),(1,.slice (some ⟨b6,o7,none⟩) len ca'),(12,Vi (len:Int)),(13,Vi (k:Int)),(5,Vi (k:Int))],[],[],[[],[],[0,1],[0,1,2],[],[],[4,5],[4,5,6],[0,1,2,3,4,5,6,7]],h1⟩
   have hmono:∀ zq∈R.F,∀ zx zh zi,Sees zh zi→zq.2 zx zh→zq.2 zx zi:=lJ
   refine oY (by kernel_rfl) R hJ 9 [.pu,.pu,.cl,.lf 1 0,.pu,.pu,.cl,.lf 0 0,.pu] (by kernel_rfl) hmono (fun _ _ _=>by kernel_rfl) (fun hT hA=>?_) ?_
   ·clear hJ
    refine And.intro (sW hT hA 18 (fun gh=>.pointer (some ⟨b3,o4 + k * 1,none⟩)) [0,1] 2 (fun gh w=>jX (t:=73) (x:=(.tmp 16)) (y:=(.tmp 17)) (b:=b3) (off:=o4) (n:=len) (cap:=ca) (k:=k) (e:=3) (kk:=1) (by kernel_rfl) (by kernel_rfl) (by kernel_rfl) (by first | omega | (simp; omega)) Tryz.underlying73 (by kernel_rfl))) ?_
    refine And.intro (sW hT hA 22 (fun gh=>.pointer (some ⟨b6,o7 + k * 1,none⟩)) [4,5] 6 (fun gh w=>jX (t:=73) (x:=(.tmp 20)) (y:=(.tmp 21)) (b:=b6) (off:=o7) (n:=len) (cap:=ca') (k:=k) (e:=3) (kk:=1) (by kernel_rfl) (by kernel_rfl) (by kernel_rfl) (by first | omega | (simp; omega)) Tryz.underlying73 (by kernel_rfl))) ?_
    trivial
   clear hJ a w; intro gh h9 a w sR hJ1 hF; have s10:Sees h1 h9:=sR; clear sR
   have hJ:K ⟨26,h.w,h.bad,[]⟩ [(0,.slice (some ⟨b3,o4,none⟩) len ca),(1,.slice (some ⟨b6,o7,none⟩) len ca'),(12,Vi (len:Int)),(13,Vi (k:Int)),(24,.bool (x != y))] [] [(b6,o7 + k * 1,[Vi y]),(b3,o4 + k * 1,[Vi x])] h9 a w:=hJ1.tw
   clear hJ1 hF hmono R
   clear gh
   refine rk' hJ false 1 [] [] (.k (.code [1,1,0,0,1,1,0,0,1,0,1,1]) [.block 1,.seq [1,1,1,0,0,1,0,1,1]] [0,1,12,13,24] []) ?_
   clear hJ a w; intro a w hJ
   by_cases e:x=y
   ·refine iY hJ (t:=x != y) (bne_eq_false_iff_eq.2 e) ?_
    refine rk' hJ false 7 [] [(25,Vi (IntKind.i64.wrap ((k:Int) + 1)),Vi ((k:Int) + 1))] (.k (.out .normal) [] [0,1,12] [(13,Vi ((k:Int) + 1))]) (hc:=And.intro (kJ (by omega) (by omega)) (trivial)) ?_
    clear hJ a w; intro a w hJ
    exact pY ⟨k + 1,⟨h9,(hJ.tof [] (F':=[]) (by kernel_rfl)).to (by kernel_rfl) (by kernel_rfl) rfl,(s2.trans s10),by omega,by rw [tX _ k _ hx,tX _ k _ hy,hpre,e]⟩,by omega⟩
   ·skip
    refine qY hJ (t:=x != y) (bne_iff_ne.2 e) ?_
    refine rk' hJ false 8 [] [] (.k (.out .ret) [] [] [(4,.bool false)]) ?_
    clear hJ a w; intro a w hJ
    refine jY rfl ?_
    refine rk' hJ false 2 [] [] (.k (.out .ret) [] [4] []) ?_
    clear hJ a w; intro a w hJ
    have hne:¬ l=m:=fun q=>e (by rw [q,hy] at hx; exact (Option.some.inj hx).symm)
    refine gY (hQ [.bool false] _ [] hJ (.rtm hJ.j .nil) (fJ _) rfl ?_).1
    exact congrArg Value.bool (decide_eq_false hne).symm
  ·skip
   refine iY hJ (t:=decide ((k:Int) < (len:Int))) (decide_eq_false (by omega)) ?_
   refine rx' hJ false 2 [] [] (.ok (.out (.exit 0)) [] [] [] []) (fun _=>by kernel_rfl) ?_
   clear hJ a w; intro a w hJ
   refine jY rfl ?_
   refine rx' hJ false 8 [] [] (.ok (.out .ret) [] [(4,.bool true)] [] []) (fun _=>by kernel_rfl) ?_
   clear hJ a w; intro a w hJ
   have heq:l=m:=by
    have h1:l.take k=l:=List.take_of_length_le (by omega)
    have h2:m.take k=m:=List.take_of_length_le (by omega)
    rw [← h1,← h2,hpre]
   refine gY (hQ [.bool true] _ [] hJ (.rtm hJ.j .nil) (fJ _) rfl ?_).1
   exact congrArg Value.bool (decide_eq_true heq).symm
def tysE (f:ByteArray→Option Int) (l:List Ex):List Int:=l.map fun y=>(tyE f y).1
theorem tyL_all {f:ByteArray→Option Int}:∀ {l:List Ex},(∀ y∈l,(tyE f y).2=0)→tyL f l=(tysE f l,0)
 | [],_=>by rw [tyL]; rfl
 | x :: l,h=>by
  have h1:=h x (by simp)
  have h2:=tyL_all (f:=f) (l:=l) (fun y hy=>h y (by simp [hy]))
  rw [tyL,h2,if_pos h1]; simp [tysE]
theorem tyL_err {f:ByteArray→Option Int}:∀ {l:List Ex} {k:Nat} {y:Ex},l[k]?=some y→(∀ z∈l.take k,(tyE f z).2=0)→(tyE f y).2≠0→(tyL f l).2=(tyE f y).2
 | [],k,y,h,_,_=>by simp at h
 | x :: l,0,y,h,_,he=>by
  simp only [List.getElem?_cons_zero,Option.some.injEq] at h
  subst h
  rw [tyL,if_neg he]
 | x :: l,k + 1,y,h,hp,he=>by
  simp only [List.getElem?_cons_succ] at h
  have h1:=hp x (by simp)
  have h2:=tyL_err (f:=f) h (fun z hz=>hp z (by simp [hz])) he
  rw [tyL,if_pos h1,if_neg (by rw [h2]; exact he)]
  exact h2
theorem ret2 {p:Int × Int} {a b:Int} (h:p=(a,b)):Value.tuple #[.int .i64 a,.int .i64 b]=.tuple #[.int .i64 p.1,.int .i64 p.2]:=by rw [h]
theorem rule_none {op:Int} (h1:3≤op) (h2:op≤18) (h:ruleT op=none):op=17∨(op≠17∧11≤op∧op≤14):=by
 unfold ruleT at h
 repeat' split at h
 all_goals first | (cases h; done) | omega
theorem arity_le (op:Int):arity op≤3:=by
 unfold arity
 repeat' split
 all_goals omega
theorem tyof_any (f:ByteArray→Option Int) (fb rb:Nat):∀ (m:Nat) (x:Ex) (sl:Value) (h:Vw),(szE x).1≤m→IsArgs h x sl→WfE x→TypesAt h fb f→RulesAt h rb →
  C0 Tryz.prog 141 #[.agg #[.int .i64 x.op,.int .i64 x.k,.int .i64 x.n,.string x.s,.string x.nm,sl],.map (some fb),.map (some rb)] h (fun r _=>r=.tuple #[.int .i64 (tyE f x).1,.int .i64 (tyE f x).2])
 | 0,x,sl,h,hm,_,_,_,_=>by have:=szE_pos x; omega
 | m + 1,x,sl,h,hm,hx,hw,hF,hR=>by
  have IH:=tyof_any f fb rb m
  have hse:=szE_eq x
  rw [hse] at hm
  simp only at hm
  have hwl:=hw.list
  have hev:=tyE_eq f x
  rcases hw.top with ⟨h1,-⟩ | ⟨h1,-⟩ | ⟨h1,ho2,-,-,-,-,h7⟩
  ·obtain ⟨A,len,c,rfl⟩:=hx.slice
   rw [if_pos h1] at hev
   rw [hev,h1]
   refine fY Tryz.func141 (c:=Tryz.f141.body.getD .skip) (N:=112) ?_
   intro hbx hbad Q hQ a w hJ
   refine rx' hJ false 34 [.own,.b 0 0,.b 0 1] [] (.new fun b1=>.ok (.out .ret) [] [(6,Vi x.k),(7,Vi 0)] [.box b1 [Vi 1,Vi x.k,Vi x.n,.string x.s,.string x.nm,.slice A len c]] []) (fun b1 _=>by kernel_rfl) ?_
   clear hJ a w; intro b1 a w hJ
   refine gY (hQ [Vi x.k,Vi 0] _ [] hJ (.rtm hJ.j (.rtm hJ.j .nil)) (fJ _) rfl ?_).1
   exact rfl
  ·obtain ⟨A,len,c,rfl⟩:=hx.slice
   rw [if_neg (by omega),if_pos h1] at hev
   obtain ⟨ls,hmp,hgt⟩:=hF
   have hgt:=hgt x.nm
   rw [h1]
   cases hg:f x.nm with
   | none =>
    rw [hg] at hev hgt
    rw [hev]
    have hl:=mfind_none hgt
    refine fY Tryz.func141 (c:=Tryz.f141.body.getD .skip) (N:=112) ?_
    intro hbx hbad Q hQ a w hJ
    refine rx' hJ false 34 [.own,.b 0 0,.b 0 4] [] (.new fun b1=>.ok (.ops [0,0,1,1,1,0,1,0,1] 3) [.seq [1,0,1,1,1,0,1,0,1],.block 0,.seq [1,1]] [(27,.map (some fb)),(29,.string x.nm)] [.box b1 [Vi 2,Vi x.k,Vi x.n,.string x.s,.string x.nm,.slice A len c]] []) (fun b1 _=>by kernel_rfl) ?_
    clear hJ a w; intro b1 a w hJ
    refine lY hJ 30 (b:=fb) (t:=182) (mo:=(.tmp 27)) (ko:=(.tmp 29)) (c:=true) (es:=rX ls) (kt:=9) (et:=3) (td:=.string) (key:=.string x.nm) (z:=Vi 0) (v:=.tuple #[Vi 0,.bool false]) (r:=none) (MapAt.now (hmp.sees (Sees.refl _)) hJ) Tryz.underlying182 Tryz.underlying9 (hl) ?_; clear hJ a w; intro a w hJ
    refine rk' hJ false 25 [] [] (.k (.out .ret) [] [] [(6,Vi 0),(7,Vi 5)]) ?_
    clear hJ a w; intro a w hJ
    refine gY (hQ [Vi 0,Vi 5] _ [] hJ (.rtm hJ.j (.rtm hJ.j .nil)) (fJ _) rfl ?_).1
    exact rfl
   | some t =>
    rw [hg] at hev hgt
    rw [hev]
    obtain ⟨i,hl⟩:=mfind_some hgt
    refine fY Tryz.func141 (c:=Tryz.f141.body.getD .skip) (N:=112) ?_
    intro hbx hbad Q hQ a w hJ
    refine rx' hJ false 34 [.own,.b 0 0,.b 0 4] [] (.new fun b1=>.ok (.ops [0,0,1,1,1,0,1,0,1] 3) [.seq [1,0,1,1,1,0,1,0,1],.block 0,.seq [1,1]] [(27,.map (some fb)),(29,.string x.nm)] [.box b1 [Vi 2,Vi x.k,Vi x.n,.string x.s,.string x.nm,.slice A len c]] []) (fun b1 _=>by kernel_rfl) ?_
    clear hJ a w; intro b1 a w hJ
    refine lY hJ 30 (b:=fb) (t:=182) (mo:=(.tmp 27)) (ko:=(.tmp 29)) (c:=true) (es:=rX ls) (kt:=9) (et:=3) (td:=.string) (key:=.string x.nm) (z:=Vi 0) (v:=.tuple #[Vi t,.bool true]) (r:=some (i,Vi t)) (MapAt.now (hmp.sees (Sees.refl _)) hJ) Tryz.underlying182 Tryz.underlying9 (hl) ?_; clear hJ a w; intro a w hJ
    refine rk' hJ false 27 [] [] (.k (.out .ret) [] [] [(6,Vi t),(7,Vi 0)]) ?_
    clear hJ a w; intro a w hJ
    refine gY (hQ [Vi t,Vi 0] _ [] hJ (.rtm hJ.j (.rtm hJ.j .nil)) (fJ _) rfl ?_).1
    exact rfl
  ·obtain ⟨vs,hr,hvs⟩:=hx.form
   obtain ⟨A,ca,rfl,-,-,-⟩:=hr.form
   have hvl:=hvs.len
   have hrl:=tK hvl
   rw [hrl] at hr ⊢
   rw [if_neg (by omega),if_neg (by omega)] at hev
   rw [hev]
   have hl3:x.args.length≤3:=by rw [h7]; exact arity_le _
   generalize hL:x.args.length=len at *
   obtain ⟨es,hmp,hgt⟩:=hR
   have hRR:RulesAt h rb:=⟨es,hmp,hgt⟩
   have hgt:=hgt x.op
   have htl:(tysE f x.args).length=len:=by rw [tysE,List.length_map,hL]
   refine fY Tryz.func141 (c:=Tryz.f141.body.getD .skip) (N:=112) ?_
   intro hbx hbad Q hQ a w hJ
   replace hJ:K ⟨112,h.w,h.bad,[]⟩ [(0,.agg #[Vi x.op,Vi x.k,Vi x.n,.string x.s,.string x.nm,.slice A len ca]),(1,.map (some fb)),(2,.map (some rb))] [] [] h a w:=hJ.tw
   replace hJ:=hJ.nilrow 3 1
   refine rk' hJ false 21 [.own,.b 0 0] [] (.new fun b1=>.m (.code [1,0,1,0,1]) [.block 0,.seq [1,1]] [1,2] [(3,Vp b1),(18,Vi x.op),(19,.bool (x.op == 1))] [.box b1 [Vi x.op,Vi x.k,Vi x.n,.string x.s,.string x.nm,.slice A len ca],.row (Vz) 3 1 ([])] []) (hr:=fun b1 _=>by kernel_rfl) ?_
   clear hJ a w; intro b1 a w hJ
   refine iY hJ (t:=x.op == 1) (beq_eq_false_iff_ne.2 (by omega)) ?_
   refine rk' hJ false 6 [] [] (.k (.code [1,1,1,0,1,0,1]) [.block 0,.seq [1,1]] [1,2,3] [(24,.bool (x.op == 2))]) ?_
   clear hJ a w; intro a w hJ
   refine iY hJ (t:=x.op == 2) (beq_eq_false_iff_ne.2 (by omega)) ?_
   refine rk' hJ false 18 [.b 0 5] [] (.k (.code [0,1,0,1,1,1]) [.block 1,.seq [1,1,1,1]] [1,2,3] [(10,Vz),(37,.slice A len ca),(38,Vi (len:Int)),(39,Vi 0)]) ?_
   clear hJ a w; intro a w hJ
   refine kY (fun (k:Nat) a w=>∃ (h2:Vw) (v:Value),K ⟨112,h.w,h.bad,[]⟩ [(1,.map (some fb)),(2,.map (some rb)),(3,Vp b1),(37,.slice A len ca),(38,Vi (len:Int)),(39,Vi (k:Int)),(10,v)] [.box b1 [Vi x.op,Vi x.k,Vi x.n,.string x.s,.string x.nm,.slice A len ca],.row v 3 1 (zQ ((tysE f x.args).take k))] [] h2 a w∧Sees h h2∧(k≤len)∧(∀ y∈x.args.take k,(tyE f y).2=0)) (fun k=>len - k) (0) ⟨h,(Vz),hJ.tw,Sees.refl _,Nat.zero_le _,(fun y hy=>by simp at hy)⟩ ?_
   clear hJ a w; rintro k a w ⟨h2,v,hJ,s3,hk,hpre⟩
   refine rk' hJ false 6 [] [] (.k (.code [0,1,0,0,1,0,1,1,1]) [.seq [1,1,0,0,1,0,1,1,1]] [1,2,3,37,38,39,10] [(40,.bool (decide ((k:Int) < (len:Int))))]) ?_
   clear hJ a w; intro a w hJ
   rcases (by omega:k < len∨len=k) with hlt | hke
   ·obtain ⟨y,hy⟩:∃ y,x.args[k]?=some y:=⟨_,List.getElem?_eq_getElem (by omega)⟩
    obtain ⟨u,hu⟩:∃ u,vs[k]?=some u:=⟨_,List.getElem?_eq_getElem (by omega)⟩
    have hyu:=AllArgs.get hvs hy hu
    obtain ⟨Au,nu,cu,rfl⟩:=hyu.slice
    have hrow:(sK x.args vs)[k]?=some (exRow y (.slice Au nu cu)):=by show (List.zipWith exRow _ _)[k]?=_; rw [List.getElem?_zipWith,hy,hu]
    have hym:=List.mem_of_getElem? hy
    have hcall:=fun H q1 q2 q3=>IH y (.slice Au nu cu) H (by have:=(szL_mem hym).1; omega) q1 (hwl.get hym) q2 q3
    have hek:(tysE f x.args)[k]?=some (tyE f y).1:=by rw [tysE,List.getElem?_map,hy]; rfl
    have htk:=tX _ k _ hek
    have hxk:=tX _ k _ hy
    have htn:((tysE f x.args).take k).length=k:=by rw [List.length_take,htl]; omega
    refine qY hJ (t:=decide ((k:Int) < (len:Int))) (decide_eq_true (by omega)) ?_
    refine rk' hJ false 6 [] [] (.k (.ops [0,0,0,1,1,0,0,1,0,1,1,1] 0) [.seq [1,0,0,1,1,0,0,1,0,1,1,1],.block 2,.seq [1,1,1,0,0,1,0,1,1,1]] [1,2,3,37,38,39,10] []) ?_
    clear hJ a w; intro a w hJ
    obtain ⟨b4,o5,rfl,-,c6⟩:=RS.row hr (hrow)
    replace hJ:=hJ.fact (c6.sees s3)
    refine rk hJ false 26 [.ix b4 o5 len ca k,.f 0 0,.own,.b 0 0,.b 0 0,.cl 141 #[.agg #[Vi y.op,Vi y.k,Vi y.n,.string y.s,.string y.nm,.slice Au nu cu],.map (some fb),.map (some rb)] (.tuple #[Vi ((tyE f y).1),Vi ((tyE f y).2)])] [] (.new fun b7=>.f (.code [1,0,1,1,0,0,1,1,0,0,1,0,1,1,1]) [.seq [1,1,1,0,0,1,1,0,0,1,0,1,1,1],.block 2,.seq [1,1,1,0,0,1,0,1,1,1]] [1,2,3,37,38,39,10] [(13,Vi ((tyE f y).1)),(14,Vi ((tyE f y).2)),(51,.bool (((tyE f y).2) != 0))] [.box b7 [Vi y.op,Vi y.k,Vi y.n,.string y.s,.string y.nm,.slice Au nu cu],.box b1 [Vi x.op,Vi x.k,Vi x.n,.string x.s,.string x.nm,.slice (some ⟨b4,o5,none⟩) len ca],.row v 3 1 (zQ ((tysE f x.args).take k))] [.o 0]) (And.intro (by first | omega | (simp; omega)) (And.intro (fun H sH=>hcall _ (hyu.sees (s3.trans sH)) (hF.sees (s3.trans sH)) (hRR.sees (s3.trans sH))) (trivial))) trivial (fun b7 _=>by kernel_rfl) ?_
    clear hJ a w; intro b7 a w hJ
    by_cases he:(tyE f y).2=0
    ·refine iY hJ (t:=((tyE f y).2) != 0) (bne_eq_false_iff_eq.2 he) ?_
     refine rk' hJ true 6 [.fix] [] (.new fun b8=>.g (.ops [1,1,1,0,0,1,1,0,0,1,0,1,1,1] 3) [.block 2,.seq [1,1,1,0,0,1,0,1,1,1]] [1,2,3,37,38,39] [(53,v),(55,Vs b8 1 1)] [.n (b8,0,[Vi ((tyE f y).1)]),.o 0]) (hr:=fun b8 _=>by kernel_rfl) ?_
     clear hJ a w; intro b8 h9 a w s10 hJ
     refine rx hJ true 9 [.ap 2 0 (zQ ((tysE f x.args).take k)) [[Vi ((tyE f y).1)]]] [(57,Vi (IntKind.i64.wrap ((k:Int) + 1)),Vi ((k:Int) + 1))] (.nv fun v56=>.ok (.out .normal) [] [(1,.map (some fb)),(2,.map (some rb)),(3,Vp b1),(37,.slice (some ⟨b4,o5,none⟩) len ca),(38,Vi (len:Int)),(10,.slice (sA v56) (sN v56) (sC v56)),(39,Vi ((k:Int) + 1))] [.box b7 [Vi y.op,Vi y.k,Vi y.n,.string y.s,.string y.nm,.slice Au nu cu],.box b1 [Vi x.op,Vi x.k,Vi x.n,.string x.s,.string x.nm,.slice (some ⟨b4,o5,none⟩) len ca],.row (.slice (sA v56) (sN v56) (sC v56)) 3 1 ((zQ ((tysE f x.args).take k))++[[Vi ((tyE f y).1)]])] [(b8,0,[Vi ((tyE f y).1)]),(b4,o5 + k * 6,[Vi y.op,Vi y.k,Vi y.n,.string y.s,.string y.nm,.slice Au nu cu])]) (And.intro (by rw [List.length_map,htn]; simp; omega) (trivial)) (And.intro (kJ (by omega) (by omega)) (trivial)) (fun v56 _=>by kernel_rfl) ?_
     clear hJ a w; intro v56 h11 a w s12 hJ
     replace hJ:=hJ.drop 0
     exact pY ⟨k + 1,⟨h11,.slice (sA v56) (sN v56) (sC v56),(hJ.tof [] (F':=[]) (by kernel_rfl)).to (by kernel_rfl) (by rw [htk]; simp) rfl,(s3.trans (s10.trans s12)),by omega,(fun z hz=>by rw [hxk] at hz; rcases List.mem_append.1 hz with q | q; exact hpre z q; rw [List.mem_singleton.1 q]; exact he)⟩,by omega⟩
    ·skip
     refine qY hJ (t:=((tyE f y).2) != 0) (bne_iff_ne.2 he) ?_
     refine rk' hJ false 11 [] [] (.k (.out .ret) [] [] [(6,Vi 0),(7,Vi ((tyE f y).2))]) ?_
     clear hJ a w; intro a w hJ
     refine jY rfl ?_
     refine rk' hJ false 2 [] [] (.k (.out .ret) [] [6,7] []) ?_
     clear hJ a w; intro a w hJ
     have htE:=tyL_err hy hpre he
     refine gY (hQ [Vi 0,Vi ((tyE f y).2)] _ [] hJ (.rtm hJ.j (.rtm hJ.j .nil)) (fJ _) rfl ?_).1
     rw [if_neg (by rw [htE]; exact he),htE]; rfl
   ·skip
    have hta:x.args.take k=x.args:=List.take_of_length_le (by omega)
    have htb:(tysE f x.args).take k=(tysE f x.args):=List.take_of_length_le (by omega)
    rw [hta] at hpre
    have htE:=tyL_all hpre
    rw [htb] at hJ
    rw [htE] at hev
    generalize (tysE f x.args)=tys at *
    obtain ⟨A2,c2,hE_v,hc_v,hm_v⟩:=hJ.form (v:=v) (e:=3) (k:=1) (l:=zQ tys) 1 (by kernel_rfl)
    rw [show (zQ tys).length=k from by first | omega | (simp; done) | (simp; omega)] at hE_v hc_v
    rw [hE_v] at hJ
    obtain ⟨h13,s14,fr,hJn⟩:=hJ.frozen (v:=.slice A2 k c2) (e:=3) (k:=1) (l:=zQ tys) 1 (by kernel_rfl) (hJ.j.rowOut0 (v:=.slice A2 k c2) (e:=3) (k:=1) (l:=zQ tys) 1 (by kernel_rfl) rfl); clear hJ; have hJ:=hJn; clear hJn
    refine iY hJ (t:=decide ((k:Int) < (len:Int))) (decide_eq_false (by omega)) ?_
    refine rk' hJ false 2 [] [] (.k (.out (.exit 1)) [] [2,3,10] []) ?_
    clear hJ a w; intro a w hJ
    refine jY rfl ?_
    refine rk' hJ false 7 [.b 0 0] [] (.k (.ops [0,1,1,1,1] 3) [.seq [1,1,1,1,1]] [3,10] [(59,.map (some rb)),(61,Vi x.op)]) ?_
    clear hJ a w; intro a w hJ
    cases hru:ruleT x.op with
    | some ru =>
     obtain ⟨ta,t⟩:=ru
     rw [hru] at hgt
     obtain ⟨Ar,nr,cr,hge,hrr⟩:=hgt
     obtain ⟨i,hl⟩:=ifind_some hge
     have hq:=fun H q1 q2=>equal_any tys ta (.slice A2 k c2) (.slice Ar nr cr) H q1 q2
     refine lY hJ 62 (b:=rb) (t:=184) (mo:=(.tmp 59)) (ko:=(.tmp 61)) (c:=true) (es:=yQ es) (kt:=3) (et:=207) (td:=.int .i64) (key:=Vi x.op) (z:=.agg #[Vz,Vi 0]) (v:=.tuple #[.agg #[.slice Ar nr cr,Vi t],.bool true]) (r:=some (i,.agg #[.slice Ar nr cr,Vi t])) (MapAt.now (hmp.sees (s3.trans s14)) hJ) Tryz.underlying184 Tryz.underlying3 (hl) ?_; clear hJ a w; intro a w hJ
     refine rk hJ false 22 [.own,.b 0 0,.b 0 0,.cl 49 #[.slice A2 k c2,.slice Ar nr cr] (.bool (decide (tys=ta)))] [] (.new fun b15=>.m (.code [1,0,0,1,1,1,1,1]) [.block 3,.seq [1,1,1,1,1,1]] [3,10] [(15,Vp b15),(16,.bool true),(65,.bool (decide (tys=ta)))] [.box b15 [.slice Ar nr cr,Vi t],.box b1 [Vi x.op,Vi x.k,Vi x.n,.string x.s,.string x.nm,.slice A len ca]] []) (And.intro (fun H sH=>hq _ (fr.sees sH) (hrr.sees (s3.trans (s14.trans sH)))) (trivial)) trivial (fun b15 _=>by kernel_rfl) ?_
     clear hJ a w; intro b15 a w hJ
     by_cases e:tys=ta
     ·skip
      refine qY hJ (t:=decide (tys=ta)) (decide_eq_true e) ?_
      refine rk' hJ false 11 [.b 0 1] [] (.k (.out .ret) [] [] [(6,Vi t),(7,Vi 0)]) ?_
      clear hJ a w; intro a w hJ
      refine gY (hQ [Vi t,Vi 0] _ [] hJ (.rtm hJ.j (.rtm hJ.j .nil)) (fJ _) rfl ?_).1
      exact ret2 (by rw [htE,if_pos rfl]; unfold opTy; rw [hru]; simp [e])
     ·skip
      refine iY hJ (t:=decide (tys=ta)) (decide_eq_false e) ?_
      refine rk' hJ false 16 [] [] (.k (.out .ret) [] [] [(6,Vi 0),(7,Vi 9)]) ?_
      clear hJ a w; intro a w hJ
      refine gY (hQ [Vi 0,Vi 9] _ [] hJ (.rtm hJ.j (.rtm hJ.j .nil)) (fJ _) rfl ?_).1
      exact ret2 (by rw [htE,if_pos rfl]; unfold opTy; rw [hru]; simp [e])
    | none =>
     rw [hru] at hgt
     have hl:=ifind_none hgt
     have htk:tys.length=k:=by omega
     rcases rule_none h1 ho2 hru with h17 | ⟨h17,ho3,ho4⟩
     ·have hk3:k=3:=by rw [← hke,h7,h17]; rfl
      obtain ⟨p,q,r,rfl⟩:∃ p q r,tys=[p,q,r]:=by
       match tys,htk.trans hk3 with
       | [p,q,r],_=>exact ⟨p,q,r,rfl⟩
      have r0:(zQ [p,q,r])[0]?=some [.int .i64 p]:=rfl
      have r1:(zQ [p,q,r])[1]?=some [.int .i64 q]:=rfl
      have r2:(zQ [p,q,r])[2]?=some [.int .i64 r]:=rfl
      by_cases hp:p=2
      ·skip
       by_cases hq:q=r
       ·skip
        refine lY hJ 62 (b:=rb) (t:=184) (mo:=(.tmp 59)) (ko:=(.tmp 61)) (c:=true) (es:=yQ es) (kt:=3) (et:=207) (td:=.int .i64) (key:=Vi x.op) (z:=.agg #[Vz,Vi 0]) (v:=.tuple #[.agg #[Vz,Vi 0],.bool false]) (r:=none) (MapAt.now (hmp.sees (s3.trans s14)) hJ) Tryz.underlying184 Tryz.underlying3 (hl) ?_; clear hJ a w; intro a w hJ
        refine rk' hJ false 31 [.own,.b 0 0] [] (.new fun b16=>.m (.code [0,1,1,1,1,0,0,1,1,1,1,1]) [.seq [1,1,1,1,1,0,0,1,1,1,1,1],.block 3,.seq [1,1,1,1,1,1]] [3,10] [] [.box b16 [Vz,Vi 0],.box b1 [Vi x.op,Vi x.k,Vi x.n,.string x.s,.string x.nm,.slice A len ca]] []) (hr:=fun b16 _=>by kernel_rfl) ?_
        clear hJ a w; intro b16 a w hJ
        obtain ⟨b17,o18,rfl,-,c19⟩:=RS.row fr (r0)
        replace hJ:=hJ.fact (c19.sees (Sees.refl _))
        have c20:=RS.cell fr (r1)
        replace hJ:=hJ.fact (c20.sees (Sees.refl _))
        have c21:=RS.cell fr (r2)
        replace hJ:=hJ.fact (c21.sees (Sees.refl _))
        let R:Reg:=⟨⟨112,h.w,h.bad,[]⟩,[(0,78,fun gh=>Vp b1),(1,79,fun gh=>Vi x.op),(2,80,fun gh=>.bool true),(3,81,fun gh=>.bool true),(4,82,fun gh=>.slice (some ⟨b17,o18,none⟩) k c2),(5,83,fun gh=>.pointer (some ⟨b17,o18 + 0 * 1,none⟩)),(6,84,fun gh=>Vi p),(7,85,fun gh=>.bool true),(8,86,fun gh=>.bool true),(9,87,fun gh=>.bool true),(10,88,fun gh=>.slice (some ⟨b17,o18,none⟩) k c2),(11,89,fun gh=>.pointer (some ⟨b17,o18 + 1 * 1,none⟩)),(12,90,fun gh=>Vi q),(13,91,fun gh=>.slice (some ⟨b17,o18,none⟩) k c2),(14,92,fun gh=>.pointer (some ⟨b17,o18 + 2 * 1,none⟩)),(15,93,fun gh=>Vi r),(16,94,fun gh=>.bool true),(17,95,fun gh=>.bool true),(18,77,fun gh=>.bool true)],[(3,Vp b1),(10,.slice (some ⟨b17,o18,none⟩) k c2)],[⟨some (.box b16 [Vz,Vi 0]),[]⟩,⟨some (.box b1 [Vi x.op,Vi x.k,Vi x.n,.string x.s,.string x.nm,.slice A len ca]),[]⟩],[],[[],[0],[0,1],[0,1,2],[0,1,2,3],[0,1,2,3,4],[0,1,2,3,4,5],[0,1,2,3,4,5,6],[0,1,2,3,4,5,6,7],[0,1,2,3,4,5,6,7,8],[0,1,2,3,4,5,6,7,8,9],[0,1,2,3,4,5,6,7,8,9,10],[0,1,2,3,4,5,6,7,8,9,10,11],[0,1,2,3,4,5,6,7,8,9],[0,1,2,3,4,5,6,7,8,9,13],[0,1,2,3,4,5,6,7,8,9,13,14],[0,1,2,3,4,5,6,7,8,9,10,11,12,13,14,15],[0,1,2,3,4,5,6,7,8,9,10,11,12,13,14,15,16],[0,1,2,3,4,5,6,7,8,9,10,11,12,13,14,15,16,17]],h13⟩
        have hmono:∀ zq∈R.F,∀ zx zh zi,Sees zh zi→zq.2 zx zh→zq.2 zx zi:=lJ
        refine oY (by kernel_rfl) R hJ 19 [.pu,.ld 1 0,.cl,.pu,.pu,.cl,.lf 2 0,.cl,.pu,.pu,.pu,.cl,.lf 1 0,.pu,.cl,.lf 0 0,.cl,.pu,.pu] (by kernel_rfl) hmono (fun _ _ _=>by kernel_rfl) (fun hT hA=>?_) ?_
        ·clear hJ
         refine And.intro (sW hT hA 80 (fun gh=>.bool true) [1] 2 (fun gh w=>gX (v0:=.bool (x.op == 17)) (by kernel_rfl) (congrArg Value.bool (beq_iff_eq.2 h17)))) ?_
         refine And.intro (sW hT hA 83 (fun gh=>.pointer (some ⟨b17,o18 + 0 * 1,none⟩)) [3,4] 5 (fun gh w=>jX (t:=73) (x:=(.tmp 82)) (y:=(.const (Vi 0))) (b:=b17) (off:=o18) (n:=k) (cap:=c2) (k:=0) (e:=3) (kk:=1) (by kernel_rfl) (by kernel_rfl) (by kernel_rfl) (by first | omega | (simp; omega)) Tryz.underlying73 (by kernel_rfl))) ?_
         refine And.intro (sW hT hA 85 (fun gh=>.bool true) [3,6] 7 (fun gh w=>gX (v0:=.bool (p == 2)) (by kernel_rfl) (congrArg Value.bool (beq_iff_eq.2 hp)))) ?_
         refine And.intro (sW hT hA 89 (fun gh=>.pointer (some ⟨b17,o18 + 1 * 1,none⟩)) [9,10] 11 (fun gh w=>jX (t:=73) (x:=(.tmp 88)) (y:=(.const (Vi 1))) (b:=b17) (off:=o18) (n:=k) (cap:=c2) (k:=1) (e:=3) (kk:=1) (by kernel_rfl) (by kernel_rfl) (by kernel_rfl) (by first | omega | (simp; omega)) Tryz.underlying73 (by kernel_rfl))) ?_
         refine And.intro (sW hT hA 92 (fun gh=>.pointer (some ⟨b17,o18 + 2 * 1,none⟩)) [9,13] 14 (fun gh w=>jX (t:=73) (x:=(.tmp 91)) (y:=(.const (Vi 2))) (b:=b17) (off:=o18) (n:=k) (cap:=c2) (k:=2) (e:=3) (kk:=1) (by kernel_rfl) (by kernel_rfl) (by kernel_rfl) (by first | omega | (simp; omega)) Tryz.underlying73 (by kernel_rfl))) ?_
         refine And.intro (sW hT hA 94 (fun gh=>.bool true) [9,12,15] 16 (fun gh w=>gX (v0:=.bool (q == r)) (by kernel_rfl) (congrArg Value.bool (beq_iff_eq.2 hq)))) ?_
         trivial
        clear hJ a w; intro gh h22 a w sR hJ1 hF; have s23:Sees h13 h22:=sR; clear sR
        have hJ:K ⟨112,h.w,h.bad,[]⟩ [(3,Vp b1),(10,.slice (some ⟨b17,o18,none⟩) k c2),(77,.bool true)] [.box b16 [Vz,Vi 0],.box b1 [Vi x.op,Vi x.k,Vi x.n,.string x.s,.string x.nm,.slice A len ca]] [(b17,o18 + 2 * 1,[Vi r]),(b17,o18 + 1 * 1,[Vi q]),(b17,o18 + 0 * 1,[Vi p])] h22 a w:=hJ1.tw
        clear hJ1 hF hmono R
        clear gh
        refine rx' hJ false 5 [] [] (.ok (.ops [0,0,1,1,1,1,1,0,0,1,1,1,1,1] 1) [.seq [1,0,1,1,1,1,1,0,0,1,1,1,1,1],.block 3,.seq [1,1,1,1,1,1]] [(96,.slice (some ⟨b17,o18,none⟩) k c2)] [.box b16 [Vz,Vi 0],.box b1 [Vi x.op,Vi x.k,Vi x.n,.string x.s,.string x.nm,.slice A len ca]] [(b17,o18 + 2 * 1,[Vi r]),(b17,o18 + 1 * 1,[Vi q]),(b17,o18 + 0 * 1,[Vi p])]) (fun _=>by kernel_rfl) ?_
        clear hJ a w; intro a w hJ
        have c24:=RS.cell fr (r1)
        replace hJ:=hJ.fact (c24.sees s23)
        refine rk' hJ false 9 [.ix b17 o18 k c2 1,.f 0 0] [] (.k (.out .ret) [] [] [(6,Vi q),(7,Vi 0)]) (ho:=And.intro (by first | omega | (simp; omega)) (trivial)) ?_
        clear hJ a w; intro a w hJ
        refine gY (hQ [Vi q,Vi 0] _ [] hJ (.rtm hJ.j (.rtm hJ.j .nil)) (fJ _) rfl ?_).1
        exact ret2 (by rw [htE,if_pos rfl]; unfold opTy; rw [hru]; simp [h17,hp,hq])
       ·skip
        refine lY hJ 62 (b:=rb) (t:=184) (mo:=(.tmp 59)) (ko:=(.tmp 61)) (c:=true) (es:=yQ es) (kt:=3) (et:=207) (td:=.int .i64) (key:=Vi x.op) (z:=.agg #[Vz,Vi 0]) (v:=.tuple #[.agg #[Vz,Vi 0],.bool false]) (r:=none) (MapAt.now (hmp.sees (s3.trans s14)) hJ) Tryz.underlying184 Tryz.underlying3 (hl) ?_; clear hJ a w; intro a w hJ
        refine rk' hJ false 31 [.own,.b 0 0] [] (.new fun b25=>.m (.code [0,1,1,1,1,0,0,1,1,1,1,1]) [.seq [1,1,1,1,1,0,0,1,1,1,1,1],.block 3,.seq [1,1,1,1,1,1]] [3,10] [] [.box b25 [Vz,Vi 0],.box b1 [Vi x.op,Vi x.k,Vi x.n,.string x.s,.string x.nm,.slice A len ca]] []) (hr:=fun b25 _=>by kernel_rfl) ?_
        clear hJ a w; intro b25 a w hJ
        obtain ⟨b26,o27,rfl,-,c28⟩:=RS.row fr (r0)
        replace hJ:=hJ.fact (c28.sees (Sees.refl _))
        have c29:=RS.cell fr (r1)
        replace hJ:=hJ.fact (c29.sees (Sees.refl _))
        have c30:=RS.cell fr (r2)
        replace hJ:=hJ.fact (c30.sees (Sees.refl _))
        let R:Reg:=⟨⟨112,h.w,h.bad,[]⟩,[(0,78,fun gh=>Vp b1),(1,79,fun gh=>Vi x.op),(2,80,fun gh=>.bool true),(3,81,fun gh=>.bool true),(4,82,fun gh=>.slice (some ⟨b26,o27,none⟩) k c2),(5,83,fun gh=>.pointer (some ⟨b26,o27 + 0 * 1,none⟩)),(6,84,fun gh=>Vi p),(7,85,fun gh=>.bool true),(8,86,fun gh=>.bool true),(9,87,fun gh=>.bool true),(10,88,fun gh=>.slice (some ⟨b26,o27,none⟩) k c2),(11,89,fun gh=>.pointer (some ⟨b26,o27 + 1 * 1,none⟩)),(12,90,fun gh=>Vi q),(13,91,fun gh=>.slice (some ⟨b26,o27,none⟩) k c2),(14,92,fun gh=>.pointer (some ⟨b26,o27 + 2 * 1,none⟩)),(15,93,fun gh=>Vi r),(16,94,fun gh=>.bool false),(17,95,fun gh=>.bool false),(18,77,fun gh=>.bool false)],[(3,Vp b1),(10,.slice (some ⟨b26,o27,none⟩) k c2)],[⟨some (.box b25 [Vz,Vi 0]),[]⟩,⟨some (.box b1 [Vi x.op,Vi x.k,Vi x.n,.string x.s,.string x.nm,.slice A len ca]),[]⟩],[],[[],[0],[0,1],[0,1,2],[0,1,2,3],[0,1,2,3,4],[0,1,2,3,4,5],[0,1,2,3,4,5,6],[0,1,2,3,4,5,6,7],[0,1,2,3,4,5,6,7,8],[0,1,2,3,4,5,6,7,8,9],[0,1,2,3,4,5,6,7,8,9,10],[0,1,2,3,4,5,6,7,8,9,10,11],[0,1,2,3,4,5,6,7,8,9],[0,1,2,3,4,5,6,7,8,9,13],[0,1,2,3,4,5,6,7,8,9,13,14],[0,1,2,3,4,5,6,7,8,9,10,11,12,13,14,15],[0,1,2,3,4,5,6,7,8,9,10,11,12,13,14,15,16],[0,1,2,3,4,5,6,7,8,9,10,11,12,13,14,15,16,17]],h13⟩
        have hmono:∀ zq∈R.F,∀ zx zh zi,Sees zh zi→zq.2 zx zh→zq.2 zx zi:=lJ
        refine oY (by kernel_rfl) R hJ 19 [.pu,.ld 1 0,.cl,.pu,.pu,.cl,.lf 2 0,.cl,.pu,.pu,.pu,.cl,.lf 1 0,.pu,.cl,.lf 0 0,.cl,.pu,.pu] (by kernel_rfl) hmono (fun _ _ _=>by kernel_rfl) (fun hT hA=>?_) ?_
        ·clear hJ
         refine And.intro (sW hT hA 80 (fun gh=>.bool true) [1] 2 (fun gh w=>gX (v0:=.bool (x.op == 17)) (by kernel_rfl) (congrArg Value.bool (beq_iff_eq.2 h17)))) ?_
         refine And.intro (sW hT hA 83 (fun gh=>.pointer (some ⟨b26,o27 + 0 * 1,none⟩)) [3,4] 5 (fun gh w=>jX (t:=73) (x:=(.tmp 82)) (y:=(.const (Vi 0))) (b:=b26) (off:=o27) (n:=k) (cap:=c2) (k:=0) (e:=3) (kk:=1) (by kernel_rfl) (by kernel_rfl) (by kernel_rfl) (by first | omega | (simp; omega)) Tryz.underlying73 (by kernel_rfl))) ?_
         refine And.intro (sW hT hA 85 (fun gh=>.bool true) [3,6] 7 (fun gh w=>gX (v0:=.bool (p == 2)) (by kernel_rfl) (congrArg Value.bool (beq_iff_eq.2 hp)))) ?_
         refine And.intro (sW hT hA 89 (fun gh=>.pointer (some ⟨b26,o27 + 1 * 1,none⟩)) [9,10] 11 (fun gh w=>jX (t:=73) (x:=(.tmp 88)) (y:=(.const (Vi 1))) (b:=b26) (off:=o27) (n:=k) (cap:=c2) (k:=1) (e:=3) (kk:=1) (by kernel_rfl) (by kernel_rfl) (by kernel_rfl) (by first | omega | (simp; omega)) Tryz.underlying73 (by kernel_rfl))) ?_
         refine And.intro (sW hT hA 92 (fun gh=>.pointer (some ⟨b26,o27 + 2 * 1,none⟩)) [9,13] 14 (fun gh w=>jX (t:=73) (x:=(.tmp 91)) (y:=(.const (Vi 2))) (b:=b26) (off:=o27) (n:=k) (cap:=c2) (k:=2) (e:=3) (kk:=1) (by kernel_rfl) (by kernel_rfl) (by kernel_rfl) (by first | omega | (simp; omega)) Tryz.underlying73 (by kernel_rfl))) ?_
         refine And.intro (sW hT hA 94 (fun gh=>.bool false) [9,12,15] 16 (fun gh w=>gX (v0:=.bool (q == r)) (by kernel_rfl) (congrArg Value.bool (beq_eq_false_iff_ne.2 hq)))) ?_
         trivial
        clear hJ a w; intro gh h31 a w sR hJ1 hF; have s32:Sees h13 h31:=sR; clear sR
        have hJ:K ⟨112,h.w,h.bad,[]⟩ [(3,Vp b1),(10,.slice (some ⟨b26,o27,none⟩) k c2),(77,.bool false)] [.box b25 [Vz,Vi 0],.box b1 [Vi x.op,Vi x.k,Vi x.n,.string x.s,.string x.nm,.slice A len ca]] [(b26,o27 + 2 * 1,[Vi r]),(b26,o27 + 1 * 1,[Vi q]),(b26,o27 + 0 * 1,[Vi p])] h31 a w:=hJ1.tw
        clear hJ1 hF hmono R
        clear gh
        refine rk' hJ false 3 [] [] (.k (.code [0,1,1,1,1,1,1,0,0,1,1,1,1,1]) [.seq [1,1,1,1,1,1,1,0,0,1,1,1,1,1],.block 3,.seq [1,1,1,1,1,1]] [3,10] []) ?_
        clear hJ a w; intro a w hJ
        let R:Reg:=⟨⟨112,h.w,h.bad,[]⟩,[(0,100,fun gh=>Vp b1),(1,101,fun gh=>Vi x.op),(2,102,fun gh=>.bool false),(3,103,fun gh=>.bool false),(4,104,fun gh=>undef),(5,105,fun gh=>undef),(6,106,fun gh=>undef),(7,107,fun gh=>undef),(8,108,fun gh=>undef),(9,109,fun gh=>undef),(10,110,fun gh=>undef),(11,111,fun gh=>.bool false),(12,99,fun gh=>.bool false)],[(3,Vp b1),(10,.slice (some ⟨b26,o27,none⟩) k c2)],[⟨some (.box b25 [Vz,Vi 0]),[]⟩,⟨some (.box b1 [Vi x.op,Vi x.k,Vi x.n,.string x.s,.string x.nm,.slice A len ca]),[]⟩],[],[[],[0],[0,1],[0,1,2],[0,1,2,3],[0,1,2,3,4],[0,1,2,3,4,5],[0,1,2,3],[0,1,2,3,7],[0,1,2,3,7,8],[0,1,2,3,4,5,6,7,8,9],[0,1,2,3,4,5,6,7,8,9,10],[0,1,2,3,4,5,6,7,8,9,10,11]],h31⟩
        have hmono:∀ zq∈R.F,∀ zx zh zi,Sees zh zi→zq.2 zx zh→zq.2 zx zi:=lJ
        refine oY (by kernel_rfl) R hJ 13 [.pu,.ld 1 0,.cl,.pu,.ps,.ps,.ps,.ps,.ps,.ps,.ps,.pu,.pu] (by kernel_rfl) hmono (fun _ _ _=>by kernel_rfl) (fun hT hA=>?_) ?_
        ·clear hJ
         refine And.intro (sW hT hA 102 (fun gh=>.bool false) [1] 2 (fun gh w=>gX (v0:=.bool (x.op != 17)) (by kernel_rfl) (congrArg Value.bool (bne_eq_false_iff_eq.2 h17)))) ?_
         trivial
        clear hJ a w; intro gh h33 a w sR hJ1 hF; have s34:Sees h31 h33:=sR; clear sR
        have hJ:K ⟨112,h.w,h.bad,[]⟩ [(99,.bool false)] [.box b25 [Vz,Vi 0],.box b1 [Vi x.op,Vi x.k,Vi x.n,.string x.s,.string x.nm,.slice A len ca]] [(b26,o27 + 2 * 1,[Vi r]),(b26,o27 + 1 * 1,[Vi q]),(b26,o27 + 0 * 1,[Vi p])] h33 a w:=hJ1.tw
        clear hJ1 hF hmono R
        clear gh
        refine rk' hJ false 12 [] [] (.k (.out .ret) [] [] [(6,Vi 0),(7,Vi 9)]) ?_
        clear hJ a w; intro a w hJ
        refine gY (hQ [Vi 0,Vi 9] _ [] hJ (.rtm hJ.j (.rtm hJ.j .nil)) (fJ _) rfl ?_).1
        exact ret2 (by rw [htE,if_pos rfl]; unfold opTy; rw [hru]; simp [h17,hp,hq])
      ·skip
       refine lY hJ 62 (b:=rb) (t:=184) (mo:=(.tmp 59)) (ko:=(.tmp 61)) (c:=true) (es:=yQ es) (kt:=3) (et:=207) (td:=.int .i64) (key:=Vi x.op) (z:=.agg #[Vz,Vi 0]) (v:=.tuple #[.agg #[Vz,Vi 0],.bool false]) (r:=none) (MapAt.now (hmp.sees (s3.trans s14)) hJ) Tryz.underlying184 Tryz.underlying3 (hl) ?_; clear hJ a w; intro a w hJ
       refine rk' hJ false 31 [.own,.b 0 0] [] (.new fun b35=>.m (.code [0,1,1,1,1,0,0,1,1,1,1,1]) [.seq [1,1,1,1,1,0,0,1,1,1,1,1],.block 3,.seq [1,1,1,1,1,1]] [3,10] [] [.box b35 [Vz,Vi 0],.box b1 [Vi x.op,Vi x.k,Vi x.n,.string x.s,.string x.nm,.slice A len ca]] []) (hr:=fun b35 _=>by kernel_rfl) ?_
       clear hJ a w; intro b35 a w hJ
       obtain ⟨b36,o37,rfl,-,c38⟩:=RS.row fr (r0)
       replace hJ:=hJ.fact (c38.sees (Sees.refl _))
       have c39:=RS.cell fr (r1)
       replace hJ:=hJ.fact (c39.sees (Sees.refl _))
       have c40:=RS.cell fr (r2)
       replace hJ:=hJ.fact (c40.sees (Sees.refl _))
       let R:Reg:=⟨⟨112,h.w,h.bad,[]⟩,[(0,78,fun gh=>Vp b1),(1,79,fun gh=>Vi x.op),(2,80,fun gh=>.bool true),(3,81,fun gh=>.bool true),(4,82,fun gh=>.slice (some ⟨b36,o37,none⟩) k c2),(5,83,fun gh=>.pointer (some ⟨b36,o37 + 0 * 1,none⟩)),(6,84,fun gh=>Vi p),(7,85,fun gh=>.bool false),(8,86,fun gh=>.bool false),(9,87,fun gh=>.bool false),(10,88,fun gh=>undef),(11,89,fun gh=>undef),(12,90,fun gh=>undef),(13,91,fun gh=>undef),(14,92,fun gh=>undef),(15,93,fun gh=>undef),(16,94,fun gh=>undef),(17,95,fun gh=>.bool false),(18,77,fun gh=>.bool false)],[(3,Vp b1),(10,.slice (some ⟨b36,o37,none⟩) k c2)],[⟨some (.box b35 [Vz,Vi 0]),[]⟩,⟨some (.box b1 [Vi x.op,Vi x.k,Vi x.n,.string x.s,.string x.nm,.slice A len ca]),[]⟩],[],[[],[0],[0,1],[0,1,2],[0,1,2,3],[0,1,2,3,4],[0,1,2,3,4,5],[0,1,2,3,4,5,6],[0,1,2,3,4,5,6,7],[0,1,2,3,4,5,6,7,8],[0,1,2,3,4,5,6,7,8,9],[0,1,2,3,4,5,6,7,8,9,10],[0,1,2,3,4,5,6,7,8,9,10,11],[0,1,2,3,4,5,6,7,8,9],[0,1,2,3,4,5,6,7,8,9,13],[0,1,2,3,4,5,6,7,8,9,13,14],[0,1,2,3,4,5,6,7,8,9,10,11,12,13,14,15],[0,1,2,3,4,5,6,7,8,9,10,11,12,13,14,15,16],[0,1,2,3,4,5,6,7,8,9,10,11,12,13,14,15,16,17]],h13⟩
       have hmono:∀ zq∈R.F,∀ zx zh zi,Sees zh zi→zq.2 zx zh→zq.2 zx zi:=lJ
       refine oY (by kernel_rfl) R hJ 19 [.pu,.ld 1 0,.cl,.pu,.pu,.cl,.lf 2 0,.cl,.pu,.pu,.ps,.ps,.ps,.ps,.ps,.ps,.ps,.pu,.pu] (by kernel_rfl) hmono (fun _ _ _=>by kernel_rfl) (fun hT hA=>?_) ?_
       ·clear hJ
        refine And.intro (sW hT hA 80 (fun gh=>.bool true) [1] 2 (fun gh w=>gX (v0:=.bool (x.op == 17)) (by kernel_rfl) (congrArg Value.bool (beq_iff_eq.2 h17)))) ?_
        refine And.intro (sW hT hA 83 (fun gh=>.pointer (some ⟨b36,o37 + 0 * 1,none⟩)) [3,4] 5 (fun gh w=>jX (t:=73) (x:=(.tmp 82)) (y:=(.const (Vi 0))) (b:=b36) (off:=o37) (n:=k) (cap:=c2) (k:=0) (e:=3) (kk:=1) (by kernel_rfl) (by kernel_rfl) (by kernel_rfl) (by first | omega | (simp; omega)) Tryz.underlying73 (by kernel_rfl))) ?_
        refine And.intro (sW hT hA 85 (fun gh=>.bool false) [3,6] 7 (fun gh w=>gX (v0:=.bool (p == 2)) (by kernel_rfl) (congrArg Value.bool (beq_eq_false_iff_ne.2 hp)))) ?_
        trivial
       clear hJ a w; intro gh h41 a w sR hJ1 hF; have s42:Sees h13 h41:=sR; clear sR
       have hJ:K ⟨112,h.w,h.bad,[]⟩ [(3,Vp b1),(10,.slice (some ⟨b36,o37,none⟩) k c2),(77,.bool false)] [.box b35 [Vz,Vi 0],.box b1 [Vi x.op,Vi x.k,Vi x.n,.string x.s,.string x.nm,.slice A len ca]] [(b36,o37 + 2 * 1,[Vi r]),(b36,o37 + 1 * 1,[Vi q]),(b36,o37 + 0 * 1,[Vi p])] h41 a w:=hJ1.tw
       clear hJ1 hF hmono R
       clear gh
       refine rk' hJ false 3 [] [] (.k (.code [0,1,1,1,1,1,1,0,0,1,1,1,1,1]) [.seq [1,1,1,1,1,1,1,0,0,1,1,1,1,1],.block 3,.seq [1,1,1,1,1,1]] [3,10] []) ?_
       clear hJ a w; intro a w hJ
       let R:Reg:=⟨⟨112,h.w,h.bad,[]⟩,[(0,100,fun gh=>Vp b1),(1,101,fun gh=>Vi x.op),(2,102,fun gh=>.bool false),(3,103,fun gh=>.bool false),(4,104,fun gh=>undef),(5,105,fun gh=>undef),(6,106,fun gh=>undef),(7,107,fun gh=>undef),(8,108,fun gh=>undef),(9,109,fun gh=>undef),(10,110,fun gh=>undef),(11,111,fun gh=>.bool false),(12,99,fun gh=>.bool false)],[(3,Vp b1),(10,.slice (some ⟨b36,o37,none⟩) k c2)],[⟨some (.box b35 [Vz,Vi 0]),[]⟩,⟨some (.box b1 [Vi x.op,Vi x.k,Vi x.n,.string x.s,.string x.nm,.slice A len ca]),[]⟩],[],[[],[0],[0,1],[0,1,2],[0,1,2,3],[0,1,2,3,4],[0,1,2,3,4,5],[0,1,2,3],[0,1,2,3,7],[0,1,2,3,7,8],[0,1,2,3,4,5,6,7,8,9],[0,1,2,3,4,5,6,7,8,9,10],[0,1,2,3,4,5,6,7,8,9,10,11]],h41⟩
       have hmono:∀ zq∈R.F,∀ zx zh zi,Sees zh zi→zq.2 zx zh→zq.2 zx zi:=lJ
       refine oY (by kernel_rfl) R hJ 13 [.pu,.ld 1 0,.cl,.pu,.ps,.ps,.ps,.ps,.ps,.ps,.ps,.pu,.pu] (by kernel_rfl) hmono (fun _ _ _=>by kernel_rfl) (fun hT hA=>?_) ?_
       ·clear hJ
        refine And.intro (sW hT hA 102 (fun gh=>.bool false) [1] 2 (fun gh w=>gX (v0:=.bool (x.op != 17)) (by kernel_rfl) (congrArg Value.bool (bne_eq_false_iff_eq.2 h17)))) ?_
        trivial
       clear hJ a w; intro gh h43 a w sR hJ1 hF; have s44:Sees h41 h43:=sR; clear sR
       have hJ:K ⟨112,h.w,h.bad,[]⟩ [(99,.bool false)] [.box b35 [Vz,Vi 0],.box b1 [Vi x.op,Vi x.k,Vi x.n,.string x.s,.string x.nm,.slice A len ca]] [(b36,o37 + 2 * 1,[Vi r]),(b36,o37 + 1 * 1,[Vi q]),(b36,o37 + 0 * 1,[Vi p])] h43 a w:=hJ1.tw
       clear hJ1 hF hmono R
       clear gh
       refine rk' hJ false 12 [] [] (.k (.out .ret) [] [] [(6,Vi 0),(7,Vi 9)]) ?_
       clear hJ a w; intro a w hJ
       refine gY (hQ [Vi 0,Vi 9] _ [] hJ (.rtm hJ.j (.rtm hJ.j .nil)) (fJ _) rfl ?_).1
       exact ret2 (by rw [htE,if_pos rfl]; unfold opTy; rw [hru]; simp [h17,hp])
     ·skip
      have hk2:k=2:=by
       rw [← hke,h7]; unfold arity
       rw [if_neg (by omega),if_neg (by omega),if_neg h17]
      obtain ⟨p,q,rfl⟩:∃ p q,tys=[p,q]:=by
       match tys,htk.trans hk2 with
       | [p,q],_=>exact ⟨p,q,rfl⟩
      have r0:(zQ [p,q])[0]?=some [.int .i64 p]:=rfl
      have r1:(zQ [p,q])[1]?=some [.int .i64 q]:=rfl
      by_cases hp:p=q
      ·skip
       refine lY hJ 62 (b:=rb) (t:=184) (mo:=(.tmp 59)) (ko:=(.tmp 61)) (c:=true) (es:=yQ es) (kt:=3) (et:=207) (td:=.int .i64) (key:=Vi x.op) (z:=.agg #[Vz,Vi 0]) (v:=.tuple #[.agg #[Vz,Vi 0],.bool false]) (r:=none) (MapAt.now (hmp.sees (s3.trans s14)) hJ) Tryz.underlying184 Tryz.underlying3 (hl) ?_; clear hJ a w; intro a w hJ
       refine rk' hJ false 31 [.own,.b 0 0] [] (.new fun b45=>.m (.code [0,1,1,1,1,0,0,1,1,1,1,1]) [.seq [1,1,1,1,1,0,0,1,1,1,1,1],.block 3,.seq [1,1,1,1,1,1]] [3,10] [] [.box b45 [Vz,Vi 0],.box b1 [Vi x.op,Vi x.k,Vi x.n,.string x.s,.string x.nm,.slice A len ca]] []) (hr:=fun b45 _=>by kernel_rfl) ?_
       clear hJ a w; intro b45 a w hJ
       let R:Reg:=⟨⟨112,h.w,h.bad,[]⟩,[(0,78,fun gh=>Vp b1),(1,79,fun gh=>Vi x.op),(2,80,fun gh=>.bool false),(3,81,fun gh=>.bool false),(4,82,fun gh=>undef),(5,83,fun gh=>undef),(6,84,fun gh=>undef),(7,85,fun gh=>undef),(8,86,fun gh=>.bool false),(9,87,fun gh=>.bool false),(10,88,fun gh=>undef),(11,89,fun gh=>undef),(12,90,fun gh=>undef),(13,91,fun gh=>undef),(14,92,fun gh=>undef),(15,93,fun gh=>undef),(16,94,fun gh=>undef),(17,95,fun gh=>.bool false),(18,77,fun gh=>.bool false)],[(3,Vp b1),(10,.slice A2 k c2)],[⟨some (.box b45 [Vz,Vi 0]),[]⟩,⟨some (.box b1 [Vi x.op,Vi x.k,Vi x.n,.string x.s,.string x.nm,.slice A len ca]),[]⟩],[],[[],[0],[0,1],[0,1,2],[0,1,2,3],[0,1,2,3,4],[0,1,2,3,4,5],[0,1,2,3,4,5,6],[0,1,2,3,4,5,6,7],[0,1,2,3,4,5,6,7,8],[0,1,2,3,4,5,6,7,8,9],[0,1,2,3,4,5,6,7,8,9,10],[0,1,2,3,4,5,6,7,8,9,10,11],[0,1,2,3,4,5,6,7,8,9],[0,1,2,3,4,5,6,7,8,9,13],[0,1,2,3,4,5,6,7,8,9,13,14],[0,1,2,3,4,5,6,7,8,9,10,11,12,13,14,15],[0,1,2,3,4,5,6,7,8,9,10,11,12,13,14,15,16],[0,1,2,3,4,5,6,7,8,9,10,11,12,13,14,15,16,17]],h13⟩
       have hmono:∀ zq∈R.F,∀ zx zh zi,Sees zh zi→zq.2 zx zh→zq.2 zx zi:=lJ
       refine oY (by kernel_rfl) R hJ 19 [.pu,.ld 1 0,.cl,.pu,.ps,.ps,.ps,.ps,.pu,.pu,.ps,.ps,.ps,.ps,.ps,.ps,.ps,.pu,.pu] (by kernel_rfl) hmono (fun _ _ _=>by kernel_rfl) (fun hT hA=>?_) ?_
       ·clear hJ
        refine And.intro (sW hT hA 80 (fun gh=>.bool false) [1] 2 (fun gh w=>gX (v0:=.bool (x.op == 17)) (by kernel_rfl) (congrArg Value.bool (beq_eq_false_iff_ne.2 h17)))) ?_
        trivial
       clear hJ a w; intro gh h46 a w sR hJ1 hF; have s47:Sees h13 h46:=sR; clear sR
       have hJ:K ⟨112,h.w,h.bad,[]⟩ [(3,Vp b1),(10,.slice A2 k c2),(77,.bool false)] [.box b45 [Vz,Vi 0],.box b1 [Vi x.op,Vi x.k,Vi x.n,.string x.s,.string x.nm,.slice A len ca]] [] h46 a w:=hJ1.tw
       clear hJ1 hF hmono R
       clear gh
       refine rx' hJ false 3 [] [] (.ok (.code [0,1,1,1,1,1,1,0,0,1,1,1,1,1]) [.seq [1,1,1,1,1,1,1,0,0,1,1,1,1,1],.block 3,.seq [1,1,1,1,1,1]] [(3,Vp b1),(10,.slice A2 k c2)] [.box b45 [Vz,Vi 0],.box b1 [Vi x.op,Vi x.k,Vi x.n,.string x.s,.string x.nm,.slice A len ca]] []) (fun _=>by kernel_rfl) ?_
       clear hJ a w; intro a w hJ
       obtain ⟨b48,o49,rfl,-,c50⟩:=RS.row fr (r0)
       replace hJ:=hJ.fact (c50.sees s47)
       have c51:=RS.cell fr (r1)
       replace hJ:=hJ.fact (c51.sees s47)
       let R:Reg:=⟨⟨112,h.w,h.bad,[]⟩,[(0,100,fun gh=>Vp b1),(1,101,fun gh=>Vi x.op),(2,102,fun gh=>.bool true),(3,103,fun gh=>.bool true),(4,104,fun gh=>.slice (some ⟨b48,o49,none⟩) k c2),(5,105,fun gh=>.pointer (some ⟨b48,o49 + 0 * 1,none⟩)),(6,106,fun gh=>Vi p),(7,107,fun gh=>.slice (some ⟨b48,o49,none⟩) k c2),(8,108,fun gh=>.pointer (some ⟨b48,o49 + 1 * 1,none⟩)),(9,109,fun gh=>Vi q),(10,110,fun gh=>.bool true),(11,111,fun gh=>.bool true),(12,99,fun gh=>.bool true)],[(3,Vp b1),(10,.slice (some ⟨b48,o49,none⟩) k c2)],[⟨some (.box b45 [Vz,Vi 0]),[]⟩,⟨some (.box b1 [Vi x.op,Vi x.k,Vi x.n,.string x.s,.string x.nm,.slice A len ca]),[]⟩],[],[[],[0],[0,1],[0,1,2],[0,1,2,3],[0,1,2,3,4],[0,1,2,3,4,5],[0,1,2,3],[0,1,2,3,7],[0,1,2,3,7,8],[0,1,2,3,4,5,6,7,8,9],[0,1,2,3,4,5,6,7,8,9,10],[0,1,2,3,4,5,6,7,8,9,10,11]],h46⟩
       have hmono:∀ zq∈R.F,∀ zx zh zi,Sees zh zi→zq.2 zx zh→zq.2 zx zi:=lJ
       refine oY (by kernel_rfl) R hJ 13 [.pu,.ld 1 0,.cl,.pu,.pu,.cl,.lf 1 0,.pu,.cl,.lf 0 0,.cl,.pu,.pu] (by kernel_rfl) hmono (fun _ _ _=>by kernel_rfl) (fun hT hA=>?_) ?_
       ·clear hJ
        refine And.intro (sW hT hA 102 (fun gh=>.bool true) [1] 2 (fun gh w=>gX (v0:=.bool (x.op != 17)) (by kernel_rfl) (congrArg Value.bool (bne_iff_ne.2 h17)))) ?_
        refine And.intro (sW hT hA 105 (fun gh=>.pointer (some ⟨b48,o49 + 0 * 1,none⟩)) [3,4] 5 (fun gh w=>jX (t:=73) (x:=(.tmp 104)) (y:=(.const (Vi 0))) (b:=b48) (off:=o49) (n:=k) (cap:=c2) (k:=0) (e:=3) (kk:=1) (by kernel_rfl) (by kernel_rfl) (by kernel_rfl) (by first | omega | (simp; omega)) Tryz.underlying73 (by kernel_rfl))) ?_
        refine And.intro (sW hT hA 108 (fun gh=>.pointer (some ⟨b48,o49 + 1 * 1,none⟩)) [3,7] 8 (fun gh w=>jX (t:=73) (x:=(.tmp 107)) (y:=(.const (Vi 1))) (b:=b48) (off:=o49) (n:=k) (cap:=c2) (k:=1) (e:=3) (kk:=1) (by kernel_rfl) (by kernel_rfl) (by kernel_rfl) (by first | omega | (simp; omega)) Tryz.underlying73 (by kernel_rfl))) ?_
        refine And.intro (sW hT hA 110 (fun gh=>.bool true) [3,6,9] 10 (fun gh w=>gX (v0:=.bool (p == q)) (by kernel_rfl) (congrArg Value.bool (beq_iff_eq.2 hp)))) ?_
        trivial
       clear hJ a w; intro gh h52 a w sR hJ1 hF; have s53:Sees h46 h52:=sR; clear sR
       have hJ:K ⟨112,h.w,h.bad,[]⟩ [(99,.bool true)] [.box b45 [Vz,Vi 0],.box b1 [Vi x.op,Vi x.k,Vi x.n,.string x.s,.string x.nm,.slice A len ca]] [(b48,o49 + 1 * 1,[Vi q]),(b48,o49 + 0 * 1,[Vi p])] h52 a w:=hJ1.tw
       clear hJ1 hF hmono R
       clear gh
       refine rk' hJ false 11 [] [] (.k (.out .ret) [] [] [(6,Vi 2),(7,Vi 0)]) ?_
       clear hJ a w; intro a w hJ
       refine gY (hQ [Vi 2,Vi 0] _ [] hJ (.rtm hJ.j (.rtm hJ.j .nil)) (fJ _) rfl ?_).1
       exact ret2 (by rw [htE,if_pos rfl]; unfold opTy; rw [hru]; simp [h17,hp])
      ·skip
       refine lY hJ 62 (b:=rb) (t:=184) (mo:=(.tmp 59)) (ko:=(.tmp 61)) (c:=true) (es:=yQ es) (kt:=3) (et:=207) (td:=.int .i64) (key:=Vi x.op) (z:=.agg #[Vz,Vi 0]) (v:=.tuple #[.agg #[Vz,Vi 0],.bool false]) (r:=none) (MapAt.now (hmp.sees (s3.trans s14)) hJ) Tryz.underlying184 Tryz.underlying3 (hl) ?_; clear hJ a w; intro a w hJ
       refine rk' hJ false 31 [.own,.b 0 0] [] (.new fun b54=>.m (.code [0,1,1,1,1,0,0,1,1,1,1,1]) [.seq [1,1,1,1,1,0,0,1,1,1,1,1],.block 3,.seq [1,1,1,1,1,1]] [3,10] [] [.box b54 [Vz,Vi 0],.box b1 [Vi x.op,Vi x.k,Vi x.n,.string x.s,.string x.nm,.slice A len ca]] []) (hr:=fun b54 _=>by kernel_rfl) ?_
       clear hJ a w; intro b54 a w hJ
       let R:Reg:=⟨⟨112,h.w,h.bad,[]⟩,[(0,78,fun gh=>Vp b1),(1,79,fun gh=>Vi x.op),(2,80,fun gh=>.bool false),(3,81,fun gh=>.bool false),(4,82,fun gh=>undef),(5,83,fun gh=>undef),(6,84,fun gh=>undef),(7,85,fun gh=>undef),(8,86,fun gh=>.bool false),(9,87,fun gh=>.bool false),(10,88,fun gh=>undef),(11,89,fun gh=>undef),(12,90,fun gh=>undef),(13,91,fun gh=>undef),(14,92,fun gh=>undef),(15,93,fun gh=>undef),(16,94,fun gh=>undef),(17,95,fun gh=>.bool false),(18,77,fun gh=>.bool false)],[(3,Vp b1),(10,.slice A2 k c2)],[⟨some (.box b54 [Vz,Vi 0]),[]⟩,⟨some (.box b1 [Vi x.op,Vi x.k,Vi x.n,.string x.s,.string x.nm,.slice A len ca]),[]⟩],[],[[],[0],[0,1],[0,1,2],[0,1,2,3],[0,1,2,3,4],[0,1,2,3,4,5],[0,1,2,3,4,5,6],[0,1,2,3,4,5,6,7],[0,1,2,3,4,5,6,7,8],[0,1,2,3,4,5,6,7,8,9],[0,1,2,3,4,5,6,7,8,9,10],[0,1,2,3,4,5,6,7,8,9,10,11],[0,1,2,3,4,5,6,7,8,9],[0,1,2,3,4,5,6,7,8,9,13],[0,1,2,3,4,5,6,7,8,9,13,14],[0,1,2,3,4,5,6,7,8,9,10,11,12,13,14,15],[0,1,2,3,4,5,6,7,8,9,10,11,12,13,14,15,16],[0,1,2,3,4,5,6,7,8,9,10,11,12,13,14,15,16,17]],h13⟩
       have hmono:∀ zq∈R.F,∀ zx zh zi,Sees zh zi→zq.2 zx zh→zq.2 zx zi:=lJ
       refine oY (by kernel_rfl) R hJ 19 [.pu,.ld 1 0,.cl,.pu,.ps,.ps,.ps,.ps,.pu,.pu,.ps,.ps,.ps,.ps,.ps,.ps,.ps,.pu,.pu] (by kernel_rfl) hmono (fun _ _ _=>by kernel_rfl) (fun hT hA=>?_) ?_
       ·clear hJ
        refine And.intro (sW hT hA 80 (fun gh=>.bool false) [1] 2 (fun gh w=>gX (v0:=.bool (x.op == 17)) (by kernel_rfl) (congrArg Value.bool (beq_eq_false_iff_ne.2 h17)))) ?_
        trivial
       clear hJ a w; intro gh h55 a w sR hJ1 hF; have s56:Sees h13 h55:=sR; clear sR
       have hJ:K ⟨112,h.w,h.bad,[]⟩ [(3,Vp b1),(10,.slice A2 k c2),(77,.bool false)] [.box b54 [Vz,Vi 0],.box b1 [Vi x.op,Vi x.k,Vi x.n,.string x.s,.string x.nm,.slice A len ca]] [] h55 a w:=hJ1.tw
       clear hJ1 hF hmono R
       clear gh
       refine rk' hJ false 3 [] [] (.k (.code [0,1,1,1,1,1,1,0,0,1,1,1,1,1]) [.seq [1,1,1,1,1,1,1,0,0,1,1,1,1,1],.block 3,.seq [1,1,1,1,1,1]] [3,10] []) ?_
       clear hJ a w; intro a w hJ
       obtain ⟨b57,o58,rfl,-,c59⟩:=RS.row fr (r0)
       replace hJ:=hJ.fact (c59.sees s56)
       have c60:=RS.cell fr (r1)
       replace hJ:=hJ.fact (c60.sees s56)
       let R:Reg:=⟨⟨112,h.w,h.bad,[]⟩,[(0,100,fun gh=>Vp b1),(1,101,fun gh=>Vi x.op),(2,102,fun gh=>.bool true),(3,103,fun gh=>.bool true),(4,104,fun gh=>.slice (some ⟨b57,o58,none⟩) k c2),(5,105,fun gh=>.pointer (some ⟨b57,o58 + 0 * 1,none⟩)),(6,106,fun gh=>Vi p),(7,107,fun gh=>.slice (some ⟨b57,o58,none⟩) k c2),(8,108,fun gh=>.pointer (some ⟨b57,o58 + 1 * 1,none⟩)),(9,109,fun gh=>Vi q),(10,110,fun gh=>.bool false),(11,111,fun gh=>.bool false),(12,99,fun gh=>.bool false)],[(3,Vp b1),(10,.slice (some ⟨b57,o58,none⟩) k c2)],[⟨some (.box b54 [Vz,Vi 0]),[]⟩,⟨some (.box b1 [Vi x.op,Vi x.k,Vi x.n,.string x.s,.string x.nm,.slice A len ca]),[]⟩],[],[[],[0],[0,1],[0,1,2],[0,1,2,3],[0,1,2,3,4],[0,1,2,3,4,5],[0,1,2,3],[0,1,2,3,7],[0,1,2,3,7,8],[0,1,2,3,4,5,6,7,8,9],[0,1,2,3,4,5,6,7,8,9,10],[0,1,2,3,4,5,6,7,8,9,10,11]],h55⟩
       have hmono:∀ zq∈R.F,∀ zx zh zi,Sees zh zi→zq.2 zx zh→zq.2 zx zi:=lJ
       refine oY (by kernel_rfl) R hJ 13 [.pu,.ld 1 0,.cl,.pu,.pu,.cl,.lf 1 0,.pu,.cl,.lf 0 0,.cl,.pu,.pu] (by kernel_rfl) hmono (fun _ _ _=>by kernel_rfl) (fun hT hA=>?_) ?_
       ·clear hJ
        refine And.intro (sW hT hA 102 (fun gh=>.bool true) [1] 2 (fun gh w=>gX (v0:=.bool (x.op != 17)) (by kernel_rfl) (congrArg Value.bool (bne_iff_ne.2 h17)))) ?_
        refine And.intro (sW hT hA 105 (fun gh=>.pointer (some ⟨b57,o58 + 0 * 1,none⟩)) [3,4] 5 (fun gh w=>jX (t:=73) (x:=(.tmp 104)) (y:=(.const (Vi 0))) (b:=b57) (off:=o58) (n:=k) (cap:=c2) (k:=0) (e:=3) (kk:=1) (by kernel_rfl) (by kernel_rfl) (by kernel_rfl) (by first | omega | (simp; omega)) Tryz.underlying73 (by kernel_rfl))) ?_
        refine And.intro (sW hT hA 108 (fun gh=>.pointer (some ⟨b57,o58 + 1 * 1,none⟩)) [3,7] 8 (fun gh w=>jX (t:=73) (x:=(.tmp 107)) (y:=(.const (Vi 1))) (b:=b57) (off:=o58) (n:=k) (cap:=c2) (k:=1) (e:=3) (kk:=1) (by kernel_rfl) (by kernel_rfl) (by kernel_rfl) (by first | omega | (simp; omega)) Tryz.underlying73 (by kernel_rfl))) ?_
        refine And.intro (sW hT hA 110 (fun gh=>.bool false) [3,6,9] 10 (fun gh w=>gX (v0:=.bool (p == q)) (by kernel_rfl) (congrArg Value.bool (beq_eq_false_iff_ne.2 hp)))) ?_
        trivial
       clear hJ a w; intro gh h61 a w sR hJ1 hF; have s62:Sees h55 h61:=sR; clear sR
       have hJ:K ⟨112,h.w,h.bad,[]⟩ [(99,.bool false)] [.box b54 [Vz,Vi 0],.box b1 [Vi x.op,Vi x.k,Vi x.n,.string x.s,.string x.nm,.slice A len ca]] [(b57,o58 + 1 * 1,[Vi q]),(b57,o58 + 0 * 1,[Vi p])] h61 a w:=hJ1.tw
       clear hJ1 hF hmono R
       clear gh
       refine rk' hJ false 12 [] [] (.k (.out .ret) [] [] [(6,Vi 0),(7,Vi 9)]) ?_
       clear hJ a w; intro a w hJ
       refine gY (hQ [Vi 0,Vi 9] _ [] hJ (.rtm hJ.j (.rtm hJ.j .nil)) (fJ _) rfl ?_).1
       exact ret2 (by rw [htE,if_pos rfl]; unfold opTy; rw [hru]; simp [h17,hp])
end Go.Proofs.YthckljafinhepaaGreat
namespace Go.Proofs.YthckljafinhepaaGreat
open Go.RowKit
def mpB:Value→Nat | .map (some b)=>b | _=>0
theorem types_u (fs:List Fd) (v:Value) (h:Vw) (hf:IsFds h v fs):C0 Tryz.prog 142 #[v] h (fun r h'=>∃ u,r=.map (some (mpB u))∧TypesAt h' (mpB u) (tyF fs)):=by
 intro a b c d
 refine (types_any fs v h hf a b c d).mono ?_
 rintro e w' ⟨v,Bo,rfl,h1,h2,h3,b,rfl,h4⟩
 exact ⟨_,Bo,rfl,h1,h2,h3,.map (some b),rfl,h4⟩
theorem rules_u (h:Vw):C0 Tryz.prog 143 #[] h (fun r h'=>∃ u,r=.map (some (mpB u))∧RulesAt h' (mpB u)):=by
 intro a b c d
 refine (rules_any h a b c d).mono ?_
 rintro e w' ⟨v,Bo,rfl,h1,h2,h3,b,rfl,h4⟩
 exact ⟨_,Bo,rfl,h1,h2,h3,.map (some b),rfl,h4⟩
def ofE (fs:List Fd) (x:Ex):Int × Int:=if chkE x=0 then tyE (tyF fs) x else (0,chkE x)
theorem tyOf_any (fs:List Fd) (x:Ex) (v fv:Value) (h:Vw) (hx:IsArgs h x v) (hw:WfE x) (hb:(szE x).1 < 1000000) (hf:IsFds h fv fs) :
  C0 Tryz.prog 116 #[.agg #[.int .i64 x.op,.int .i64 x.k,.int .i64 x.n,.string x.s,.string x.nm,v],fv] h (fun r _=>r=.tuple #[.int .i64 (ofE fs x).1,.int .i64 (ofE fs x).2]):=by
 obtain ⟨A,n,c,rfl⟩:=hx.slice
 obtain ⟨Af,nf,cf,rfl⟩:∃ A n c,fv=.slice A n c:=by
  obtain ⟨vs,hr,-⟩:=hf
  obtain ⟨A,c,e,-⟩:=hr.form
  exact ⟨_,_,_,e⟩
 have hck:=fun H q=>check_any x (.slice A n c) H q hw hb
 have hO:=fun fb rb H q1 q2 q3=>tyof_any (tyF fs) fb rb _ x (.slice A n c) H (Nat.le_refl _) q1 hw q2 q3
 have hTy:=fun H q=>types_u fs (.slice Af nf cf) H q
 unfold ofE
 generalize chkE x=e at *
 generalize tyE (tyF fs) x=ty at *
 refine fY Tryz.func116 (c:=Tryz.f116.body.getD .skip) (N:=19) ?_
 intro hbx hbad Q hQ a w hJ
 refine rk hJ false 21 [.own,.b 0 0,.cl 87 #[.agg #[Vi x.op,Vi x.k,Vi x.n,.string x.s,.string x.nm,.slice A n c]] (Vi e)] [] (.new fun b1=>.m (.code [1,1,0,1]) [.seq [1,1]] [1] [(2,Vp b1),(6,Vi e),(10,.bool (e != 0))] [.box b1 [Vi x.op,Vi x.k,Vi x.n,.string x.s,.string x.nm,.slice A n c]] []) (And.intro (fun H sH=>hck _ (hx.sees sH)) (trivial)) trivial (fun b1 _=>by kernel_rfl) ?_
 clear hJ a w; intro b1 a w hJ
 by_cases he:e=0
 ·skip
  refine iY hJ (t:=e != 0) (bne_eq_false_iff_eq.2 he) ?_
  refine rk' hJ false 3 [] [] (.k (.code [0,1,1]) [.seq [1,1,1]] [1,2] []) ?_
  clear hJ a w; intro a w hJ
  let R:Reg:=⟨⟨19,h.w,h.bad,[]⟩,[(0,12,fun gh=>.agg #[Vi x.op,Vi x.k,Vi x.n,.string x.s,.string x.nm,.slice A n c]),(1,13,fun gh=>.slice Af nf cf),(2,14,fun gh=>.map (some (mpB (gh 2)))),(3,15,fun gh=>.map (some (mpB (gh 3)))),(4,16,fun gh=>.tuple #[Vi ty.1,Vi ty.2]),(5,17,fun gh=>Vi ty.1),(6,18,fun gh=>Vi ty.2),(7,4,fun gh=>Vi ty.1),(8,5,fun gh=>Vi ty.2)],[(1,.slice Af nf cf),(2,Vp b1)],[⟨some (.box b1 [Vi x.op,Vi x.k,Vi x.n,.string x.s,.string x.nm,.slice A n c]),[]⟩],[(2,fun gh hh=>TypesAt hh (mpB (gh 2)) (tyF fs)),(3,fun gh hh=>RulesAt hh (mpB (gh 3)))],[[],[],[1],[1,2],[0,1,2,3],[0,1,2,3,4],[0,1,2,3,4],[0,1,2,3,4,5,6],[0,1,2,3,4,5,6,7]],h⟩
  have hmono:∀ zq∈R.F,∀ zx zh zi,Sees zh zi→zq.2 zx zh→zq.2 zx zi:=jV (fun _ _ _ s c=>c.sees s) (jV (fun _ _ _ s c=>c.sees s) (lJ))
  refine oY (by kernel_rfl) R hJ 9 [.ld 0 0,.pu,.cl,.cl,.cl,.pu,.pu,.pu,.pu] (by kernel_rfl) hmono (fun _ _ _=>by kernel_rfl) (fun hT hA=>?_) ?_
  ·clear hJ
   refine And.intro (r_call hT hA hmono ⟨fun _ _=>by kernel_rfl,fun _ _=>by kernel_rfl,fun _ _=>by kernel_rfl⟩ 14 (fun u=>.map (some (mpB u))) [1] 2 (by kernel_rfl) (by kernel_rfl) (fun _=>by kernel_rfl) 142 (fun gh=>#[.slice Af nf cf]) (fun _ _=>by kernel_rfl) (fun gh H sH fH lent=>C0.facts (R:=R) (x:=gh) (i:=2) (n:=0) (F:=(fun u=>.map (some (mpB u)))) (G:=fun u hh=>TypesAt hh (mpB u) (tyF fs)) (f:=fun gh hh=>TypesAt hh (mpB (gh 2)) (tyF fs)) (hTy _ (hf.sees sH)) (by kernel_rfl) (by kernel_rfl) (fun _ _ r=>r))) ?_
   refine And.intro (r_call hT hA hmono ⟨fun _ _=>by kernel_rfl,fun _ _=>by kernel_rfl,fun _ _=>by kernel_rfl⟩ 15 (fun u=>.map (some (mpB u))) [2] 3 (by kernel_rfl) (by kernel_rfl) (fun _=>by kernel_rfl) 143 (fun gh=>#[]) (fun _ _=>by kernel_rfl) (fun gh H sH fH lent=>C0.facts (R:=R) (x:=gh) (i:=3) (n:=1) (F:=(fun u=>.map (some (mpB u)))) (G:=fun u hh=>RulesAt hh (mpB u)) (f:=fun gh hh=>RulesAt hh (mpB (gh 3))) (rules_u _) (by kernel_rfl) (by kernel_rfl) (fun _ _ r=>r))) ?_
   refine And.intro (rW hT hA hmono 16 (fun gh=>.tuple #[Vi ty.1,Vi ty.2]) [0,2,3] 4 141 (fun gh=>#[.agg #[Vi x.op,Vi x.k,Vi x.n,.string x.s,.string x.nm,.slice A n c],.map (some (mpB (gh 2))),.map (some (mpB (gh 3)))]) (fun gh H sH fH lent=>hO _ _ _ (hx.sees sH) (fH 0 _ rfl (by kernel_rfl)) (fH 1 _ rfl (by kernel_rfl)))) ?_
   trivial
  clear hJ a w; intro gh h2 a w sR hJ1 hF; have s3:Sees h h2:=sR; clear sR
  have hJ:K ⟨19,h.w,h.bad,[]⟩ [(4,Vi ty.1),(5,Vi ty.2)] [.box b1 [Vi x.op,Vi x.k,Vi x.n,.string x.s,.string x.nm,.slice A n c]] [] h2 a w:=hJ1.tw
  have f14:TypesAt h2 (mpB (gh 2)) (tyF fs):=Reg.fact (i:=2) (f:=fun gh hh=>TypesAt hh (mpB (gh 2)) (tyF fs)) hF 0 (by kernel_rfl)
  have f15:RulesAt h2 (mpB (gh 3)):=Reg.fact (i:=3) (f:=fun gh hh=>RulesAt hh (mpB (gh 3))) hF 1 (by kernel_rfl)
  clear hJ1 hF hmono R
  generalize gh 2=u14 at *
  generalize gh 3=u15 at *
  clear gh
  refine rk' hJ false 2 [] [] (.k (.out .ret) [] [4,5] []) ?_
  clear hJ a w; intro a w hJ
  refine gY (hQ [Vi ty.1,Vi ty.2] _ [] hJ (.rtm hJ.j (.rtm hJ.j .nil)) (fJ _) rfl ?_).1
  rw [if_pos he]; rfl
 ·skip
  refine qY hJ (t:=e != 0) (bne_iff_ne.2 he) ?_
  refine rk' hJ false 9 [] [] (.k (.out .ret) [] [] [(4,Vi 0),(5,Vi e)]) ?_
  clear hJ a w; intro a w hJ
  refine gY (hQ [Vi 0,Vi e] _ [] hJ (.rtm hJ.j (.rtm hJ.j .nil)) (fJ _) rfl ?_).1
  rw [if_neg he]; rfl
def fitsE (fs:List Fd) (x:Ex) (want:Int):Int:=if (ofE fs x).2=0 then (if (ofE fs x).1=want then 0 else 9) else (ofE fs x).2
theorem fits_any (fs:List Fd) (x:Ex) (v fv:Value) (want:Int) (h:Vw) (hx:IsArgs h x v) (hw:WfE x) (hb:(szE x).1 < 1000000) (hf:IsFds h fv fs) :
  C0 Tryz.prog 131 #[.agg #[.int .i64 x.op,.int .i64 x.k,.int .i64 x.n,.string x.s,.string x.nm,v],fv,.int .i64 want] h (fun r _=>r=.int .i64 (fitsE fs x want)):=by
 obtain ⟨A,n,c,rfl⟩:=hx.slice
 obtain ⟨Af,nf,cf,rfl⟩:∃ A n c,fv=.slice A n c:=by
  obtain ⟨vs,hr,-⟩:=hf
  obtain ⟨A,c,e,-⟩:=hr.form
  exact ⟨_,_,_,e⟩
 have hO:=fun H q1 q2=>tyOf_any fs x (.slice A n c) (.slice Af nf cf) H q1 hw hb q2
 unfold fitsE
 generalize ofE fs x=ty at *
 refine fY Tryz.func131 (c:=Tryz.f131.body.getD .skip) (N:=21) ?_
 intro hbx hbad Q hQ a w hJ
 refine rk hJ false 25 [.own,.b 0 0,.cl 116 #[.agg #[Vi x.op,Vi x.k,Vi x.n,.string x.s,.string x.nm,.slice A n c],.slice Af nf cf] (.tuple #[Vi ty.1,Vi ty.2])] [] (.new fun b1=>.m (.code [1,0,1,1]) [.seq [1,1,1]] [2] [(7,Vi ty.1),(8,Vi ty.2),(16,.bool (ty.2 != 0))] [.box b1 [Vi x.op,Vi x.k,Vi x.n,.string x.s,.string x.nm,.slice A n c]] []) (And.intro (fun H sH=>hO _ (hx.sees sH) (hf.sees sH)) (trivial)) trivial (fun b1 _=>by kernel_rfl) ?_
 clear hJ a w; intro b1 a w hJ
 by_cases he:ty.2=0
 ·refine iY hJ (t:=ty.2 != 0) (bne_eq_false_iff_eq.2 he) ?_
  refine rk' hJ false 10 [] [] (.k (.code [1,0,1,1,1]) [.seq [1,1,1,1]] [] [(20,.bool (ty.1 != want))]) ?_
  clear hJ a w; intro a w hJ
  by_cases hw:ty.1=want
  ·refine iY hJ (t:=ty.1 != want) (bne_eq_false_iff_eq.2 hw) ?_
   refine rk' hJ false 8 [] [] (.k (.out .ret) [] [] [(6,Vi 0)]) ?_
   clear hJ a w; intro a w hJ
   refine gY (hQ [Vi 0] _ [] hJ (.rtm hJ.j .nil) (fJ _) rfl ?_).1
   rw [if_pos he,if_pos hw]; rfl
  ·skip
   refine qY hJ (t:=ty.1 != want) (bne_iff_ne.2 hw) ?_
   refine rk' hJ false 7 [] [] (.k (.out .ret) [] [] [(6,Vi 9)]) ?_
   clear hJ a w; intro a w hJ
   refine gY (hQ [Vi 9] _ [] hJ (.rtm hJ.j .nil) (fJ _) rfl ?_).1
   rw [if_pos he,if_neg hw]; rfl
 ·skip
  refine qY hJ (t:=ty.2 != 0) (bne_iff_ne.2 he) ?_
  refine rx' hJ false 8 [] [] (.ok (.out .ret) [] [(6,Vi ty.2)] [.box b1 [Vi x.op,Vi x.k,Vi x.n,.string x.s,.string x.nm,.slice A n c]] []) (fun _=>by kernel_rfl) ?_
  clear hJ a w; intro a w hJ
  refine gY (hQ [Vi ty.2] _ [] hJ (.rtm hJ.j .nil) (fJ _) rfl ?_).1
  rw [if_neg he]; rfl
end Go.Proofs.YthckljafinhepaaGreat
namespace Go.Proofs.YthckljafinhepaaGreat
open Go.RowKit
set_option linter.unusedVariables false
structure OkF (fs:List Fd) (f:Fd):Prop where
 name:sJ f.name.data.toList
 k1:1≤f.kind
 k3:f.kind≤3
 t1:1≤f.ty
 t3:f.ty≤3
 inp:f.kind=1→f.src=zE
 wf:f.kind≠1→WfE f.src∧(szE f.src).1≤60∧chkE f.src=0
 form:f.kind=2→tyE (tyF fs) f.src=(f.ty,0)
 look:f.kind=3→∃ t,1≤t∧t≤3∧tyE (tyF fs) f.src=(t,0)
structure OkFs (fs:List Fd):Prop where
 each:∀ f∈fs,OkF fs f
 nodup:(fs.map (·.name)).Nodup
 few:fs.length≤14
theorem args_zero {h:Vw} {x:Ex} {v:Value} (hx:x.args=[]) (ha:IsArgs h x v):∃ A c,v=.slice A 0 c:=by
 obtain ⟨vs,hr,-⟩:=ha.form
 obtain ⟨A,c,e,-⟩:=hr.form
 rw [hx] at e
 exact ⟨A,c,e⟩
theorem none_any (A:Option Addr) (c:Nat) (h:Vw):C0 Tryz.prog 170 #[.agg #[.int .i64 0,.int .i64 0,.int .i64 0,.string ⟨#[]⟩,.string ⟨#[]⟩,.slice A 0 c]] h (fun r _=>r=.bool true):=by
 refine fY Tryz.func170 (c:=Tryz.f170.body.getD .skip) (N:=23) ?_
 intro hbx hbad Q hQ a w hJ
 refine rx' hJ false 32 [.own,.b 0 0,.b 0 4,.b 0 1,.b 0 5] [] (.new fun b1=>.ok (.out .ret) [] [(2,.bool true)] [.box b1 [Vi 0,Vi 0,Vi 0,Ve,Ve,.slice A 0 c]] []) (fun b1 _=>by kernel_rfl) ?_
 clear hJ a w; intro b1 a w hJ
 refine gY (hQ [.bool true] _ [] hJ (.rtm hJ.j .nil) (fJ _) rfl ?_).1
 exact rfl
theorem right_any (fs:List Fd) (f:Fd) (v:Value) (h:Vw) (hf:OkF fs f) (ha:IsArgs h f.src v):C0 Tryz.prog 144 #[.agg #[.string f.name,.int .i64 f.kind,.int .i64 f.ty,.int .i64 f.src.op,.int .i64 f.src.k,.int .i64 f.src.n,.string f.src.s,.string f.src.nm,v]] h (fun r _=>r=.int .i64 0):=by
 have hn:=fun H=>c_name f.name H hf.name
 have k1:=hf.k1
 have k3:=hf.k3
 have t1:=hf.t1
 have t3:=hf.t3
 by_cases g:f.kind=1
 ·obtain ⟨A,c,rfl⟩:=args_zero (by rw [hf.inp g]; rfl) ha
  have e1:f.src.op=0:=by rw [hf.inp g]; rfl
  have e2:f.src.k=0:=by rw [hf.inp g]; rfl
  have e3:f.src.n=0:=by rw [hf.inp g]; rfl
  have e4:f.src.s=⟨#[]⟩:=by rw [hf.inp g]; rfl
  have e5:f.src.nm=⟨#[]⟩:=by rw [hf.inp g]; rfl
  rw [e1,e2,e3,e4,e5,g]
  refine fY Tryz.func144 (c:=Tryz.f144.body.getD .skip) (N:=38) ?_
  intro hbx hbad Q hQ a w hJ
  refine rx hJ false 78 [.own,.b 0 0,.cl 129 #[.string f.name] (Vi 0),.b 0 1,.b 0 1,.b 0 2,.b 0 2,.b 0 1,.b 0 3,.cl 170 #[.agg #[Vi 0,Vi 0,Vi 0,Ve,Ve,.slice A 0 c]] (.bool true)] [(21,.bool (decide (f.ty < 1)),.bool false),(26,.bool (decide (f.ty > 3)),.bool false)] (.new fun b1=>.ok (.out .ret) [] [(2,Vi 0)] [.box b1 [.string f.name,Vi 1,Vi f.ty,Vi 0,Vi 0,Vi 0,Ve,Ve,.slice A 0 c]] []) (And.intro (fun H sH=>hn _) (And.intro (fun H sH=>none_any A c _) (trivial))) (And.intro (congrArg Value.bool (decide_eq_false (by omega))) (And.intro (congrArg Value.bool (decide_eq_false (by omega))) (trivial))) (fun b1 _=>by kernel_rfl) ?_
  clear hJ a w; intro b1 a w hJ
  refine gY (hQ [Vi 0] _ [] hJ (.rtm hJ.j .nil) (fJ _) rfl ?_).1
  exact rfl
 ·obtain ⟨w1,w2,w3⟩:=hf.wf g
  obtain ⟨A,n,c,rfl⟩:=ha.slice
  have hc:=fun H q=>check_any f.src (.slice A n c) H q w1 (by omega)
  rw [w3] at hc
  refine fY Tryz.func144 (c:=Tryz.f144.body.getD .skip) (N:=38) ?_
  intro hbx hbad Q hQ a w hJ
  refine rx hJ false 70 [.own,.b 0 0,.cl 129 #[.string f.name] (Vi 0),.b 0 1,.b 0 1,.b 0 2,.b 0 2,.b 0 1,.b 0 3,.cl 87 #[.agg #[Vi f.src.op,Vi f.src.k,Vi f.src.n,.string f.src.s,.string f.src.nm,.slice A n c]] (Vi 0)] [(12,.bool (decide (f.kind < 1)),.bool false),(16,.bool (decide (f.kind > 3)),.bool false),(21,.bool (decide (f.ty < 1)),.bool false),(26,.bool (decide (f.ty > 3)),.bool false),(30,.bool (f.kind == 1),.bool false)] (.new fun b1=>.ok (.out .ret) [] [(2,Vi 0)] [.box b1 [.string f.name,Vi f.kind,Vi f.ty,Vi f.src.op,Vi f.src.k,Vi f.src.n,.string f.src.s,.string f.src.nm,.slice A n c]] []) (And.intro (fun H sH=>hn _) (And.intro (fun H sH=>hc _ (ha.sees sH)) (trivial))) (And.intro (congrArg Value.bool (decide_eq_false (by omega))) (And.intro (congrArg Value.bool (decide_eq_false (by omega))) (And.intro (congrArg Value.bool (decide_eq_false (by omega))) (And.intro (congrArg Value.bool (decide_eq_false (by omega))) (And.intro (congrArg Value.bool (beq_eq_false_iff_ne.2 g)) (trivial)))))) (fun b1 _=>by kernel_rfl) ?_
  clear hJ a w; intro b1 a w hJ
  refine gY (hQ [Vi 0] _ [] hJ (.rtm hJ.j .nil) (fJ _) rfl ?_).1
  exact rfl
theorem typed_any (fs:List Fd) (f:Fd) (v fv:Value) (h:Vw) (hf:OkF fs f) (ha:IsArgs h f.src v) (hfs:IsFds h fv fs):C0 Tryz.prog 145 #[.agg #[.string f.name,.int .i64 f.kind,.int .i64 f.ty,.int .i64 f.src.op,.int .i64 f.src.k,.int .i64 f.src.n,.string f.src.s,.string f.src.nm,v],fv] h (fun r _=>r=.int .i64 0):=by
 obtain ⟨A,n,c,rfl⟩:=ha.slice
 obtain ⟨vs,Af,cf,rfl,-⟩:=dQ hfs
 obtain g | g | g:f.kind=1∨f.kind=2∨f.kind=3:=by have:=hf.k1; have:=hf.k3; omega
 ·rw [g]
  refine fY Tryz.func145 (c:=Tryz.f145.body.getD .skip) (N:=27) ?_
  intro hbx hbad Q hQ a w hJ
  refine rx' hJ false 37 [.own,.b 0 1] [] (.new fun b1=>.ok (.out .ret) [] [(4,Vi 0)] [.box b1 [.string f.name,Vi 1,Vi f.ty,Vi f.src.op,Vi f.src.k,Vi f.src.n,.string f.src.s,.string f.src.nm,.slice A n c]] []) (fun b1 _=>by kernel_rfl) ?_
  clear hJ a w; intro b1 a w hJ
  refine gY (hQ [Vi 0] _ [] hJ (.rtm hJ.j .nil) (fJ _) rfl ?_).1
  exact rfl
 ·obtain ⟨w1,w2,w3⟩:=hf.wf (by omega)
  have hc:=fun H q1 q2=>fits_any fs f.src (.slice A n c) (.slice Af fs.length cf) f.ty H q1 w1 (by omega) q2
  have e:fitsE fs f.src f.ty=0:=by unfold fitsE ofE; rw [if_pos w3,hf.form g]; simp
  rw [e] at hc
  rw [g]
  refine fY Tryz.func145 (c:=Tryz.f145.body.getD .skip) (N:=27) ?_
  intro hbx hbad Q hQ a w hJ
  refine rx' hJ false 35 [.own,.b 0 1,.b 0 3,.b 0 2,.cl 131 #[.agg #[Vi f.src.op,Vi f.src.k,Vi f.src.n,.string f.src.s,.string f.src.nm,.slice A n c],.slice Af fs.length cf,Vi f.ty] (Vi 0)] [] (.new fun b1=>.ok (.out .ret) [] [(4,Vi 0)] [.box b1 [.string f.name,Vi 2,Vi f.ty,Vi f.src.op,Vi f.src.k,Vi f.src.n,.string f.src.s,.string f.src.nm,.slice A n c]] []) (ho:=And.intro (fun H sH=>hc _ (ha.sees sH) (hfs.sees sH)) (trivial)) (fun b1 _=>by kernel_rfl) ?_
  clear hJ a w; intro b1 a w hJ
  refine gY (hQ [Vi 0] _ [] hJ (.rtm hJ.j .nil) (fJ _) rfl ?_).1
  exact rfl
 ·obtain ⟨w1,w2,w3⟩:=hf.wf (by omega)
  obtain ⟨t,-,-,ht⟩:=hf.look g
  have hc:=fun H q1 q2=>tyOf_any fs f.src (.slice A n c) (.slice Af fs.length cf) H q1 w1 (by omega) q2
  have e:ofE fs f.src=(t,0):=by unfold ofE; rw [if_pos w3,ht]
  rw [e] at hc
  rw [g]
  refine fY Tryz.func145 (c:=Tryz.f145.body.getD .skip) (N:=27) ?_
  intro hbx hbad Q hQ a w hJ
  refine rx' hJ false 50 [.own,.b 0 1,.b 0 3,.cl 116 #[.agg #[Vi f.src.op,Vi f.src.k,Vi f.src.n,.string f.src.s,.string f.src.nm,.slice A n c],.slice Af fs.length cf] (.tuple #[Vi t,Vi 0])] [] (.new fun b1=>.ok (.out .ret) [] [(4,Vi 0)] [.box b1 [.string f.name,Vi 3,Vi f.ty,Vi f.src.op,Vi f.src.k,Vi f.src.n,.string f.src.s,.string f.src.nm,.slice A n c]] []) (ho:=And.intro (fun H sH=>hc _ (ha.sees sH) (hfs.sees sH)) (trivial)) (fun b1 _=>by kernel_rfl) ?_
  clear hJ a w; intro b1 a w hJ
  refine gY (hQ [Vi 0] _ [] hJ (.rtm hJ.j .nil) (fJ _) rfl ?_).1
  exact rfl
theorem AllArgs.take' {h:Vw}:∀ (i:Nat) {l:List Ex} {vs:List Value},AllArgs h l vs→AllArgs h (l.take i) (vs.take i)
 | 0,l,vs,_=>by rw [List.take_zero,List.take_zero]; unfold AllArgs; rfl
 | i + 1,[],vs,k=>by unfold AllArgs at k; subst k; rw [List.take_nil,List.take_nil]; unfold AllArgs; rfl
 | i + 1,x :: l,vs,k=>by
  unfold AllArgs at k
  obtain ⟨u,us',rfl,q1,q2⟩:=k
  rw [List.take_succ_cons,List.take_succ_cons]
  unfold AllArgs
  exact ⟨_,_,rfl,q1,AllArgs.take' i q2⟩
theorem fds_take {h:Vw} {A:Option Addr} {cap:Nat} {fs:List Fd} (hf:IsFds h (.slice A fs.length cap) fs) (k:Nat) (hk:k≤fs.length):IsFds h (.slice A k cap) (fs.take k):=by
 obtain ⟨vs,hr,hs⟩:=hf
 have hl:=hs.len
 refine ⟨vs.take k,?_,?_⟩
 ·have:=hr.take k (by rw [cQ hl]; omega)
  rwa [show (aQ fs vs).take k=aQ (fs.take k) (vs.take k) from List.take_zipWith] at this
 ·unfold AllSrc
  rw [List.map_take]
  exact AllArgs.take' k hs
set_option maxHeartbeats 2000000 in
theorem check_fields (fs:List Fd) (fv:Value) (h:Vw) (hf:OkFs fs) (hfs:IsFds h fv fs):C0 Tryz.prog 118 #[fv] h (fun r _=>r=.int .i64 0):=by
 obtain ⟨vs,A,c,rfl,hc1,hc2,hr,hsrc,hvl,hsl⟩:=dQ hfs
 have few:=hf.few
 refine fY Tryz.func118 (c:=Tryz.f118.body.getD .skip) (N:=51) ?_
 intro hbx hbad Q hQ a w hJ
 refine rk' hJ false 13 [] [] (.k (.code [1,0,1]) [.seq [1,1]] [0] [(13,.bool (decide ((fs.length:Int) > 14)))]) ?_
 clear hJ a w; intro a w hJ
 refine iY hJ (t:=decide ((fs.length:Int) > 14)) (decide_eq_false (by omega)) ?_
 refine rk' hJ false 11 [] [] (.k (.code [0,1,0,1,1]) [.block 0,.seq [1,1,1]] [0] [(14,.slice A fs.length c),(15,Vi (fs.length:Int)),(16,Vi 0)]) ?_
 clear hJ a w; intro a w hJ
 refine kY (fun (k:Nat) a w=>∃ (h1:Vw) ,K ⟨51,h.w,h.bad,[]⟩ [(0,.slice A fs.length c),(14,.slice A fs.length c),(15,Vi (fs.length:Int)),(16,Vi (k:Int))] [] [] h1 a w∧Sees h h1∧(k≤fs.length)) (fun k=>fs.length - k) (0) ⟨h,hJ.tw,Sees.refl _,Nat.zero_le _⟩ ?_
 clear hJ a w; rintro k a w ⟨h1,hJ,s2,hk⟩
 refine rk' hJ false 6 [] [] (.k (.code [0,1,0,0,1,0,1,1]) [.seq [1,1,0,0,1,0,1,1]] [0,14,15,16] [(17,.bool (decide ((k:Int) < (fs.length:Int))))]) ?_
 clear hJ a w; intro a w hJ
 rcases (by omega:k < fs.length∨k=fs.length) with hlt | hke
 ·obtain ⟨f,hfk⟩:∃ f,fs[k]?=some f:=⟨_,List.getElem?_eq_getElem (by omega)⟩
  obtain ⟨u,huk⟩:∃ u,vs[k]?=some u:=⟨_,List.getElem?_eq_getElem (by omega)⟩
  have hslu:=hsl u (List.mem_of_getElem? huk)
  have hrow:(aQ fs vs)[k]?=some (fdRow f (.slice (sA u) (sN u) (sC u))):=by rw [hslu]; exact bQ hfk huk
  have ha:IsArgs h f.src (.slice (sA u) (sN u) (sC u)):=by rw [hslu]; exact AllArgs.get hsrc (x:=f.src) (by rw [List.getElem?_map,hfk]; rfl) huk
  have hok:=hf.each f (List.mem_of_getElem? hfk)
  have hno:gQ (fs.take k) f.name = -1:=findF_none fun y hy e=>by
   obtain ⟨j,hj⟩:=List.mem_iff_getElem?.1 hy
   rw [List.getElem?_take] at hj
   split at hj
   ·rename_i hjk
    have h1:(fs.map (fun f:Fd=>f.name))[j]?=some f.name:=by rw [List.getElem?_map,hj]; simp [e]
    have h2:(fs.map (fun f:Fd=>f.name))[k]?=some f.name:=by rw [List.getElem?_map,hfk]; rfl
    have:=(List.getElem?_inj (by rw [List.length_map]; omega) hf.nodup).1 (h1.trans h2.symm)
    omega
   ·cases hj
  have htk:=fds_take hfs k hk
  refine qY hJ (t:=decide ((k:Int) < (fs.length:Int))) (decide_eq_true (by omega)) ?_
  refine rk' hJ false 7 [] [] (.k (.ops [0,0,0,1,1,0,0,1,0,1,1] 1) [.seq [1,0,0,1,1,0,0,1,0,1,1],.block 1,.seq [1,1,1,0,0,1,0,1,1]] [0,14,15,16] [(18,Vi (k:Int))]) ?_
  clear hJ a w; intro a w hJ
  obtain ⟨b3,o4,rfl,-,c5⟩:=RS.row hr (hrow)
  replace hJ:=hJ.fact (c5.sees s2)
  refine rk hJ false 25 [.ix b3 o4 fs.length c k,.f 0 0,.own,.b 0 0,.b 0 0,.cl 144 #[.agg #[.string f.name,Vi f.kind,Vi f.ty,Vi f.src.op,Vi f.src.k,Vi f.src.n,.string f.src.s,.string f.src.nm,.slice (sA u) (sN u) (sC u)]] (Vi 0)] [] (.new fun b6=>.f (.code [0,1,1,0,0,1,1,0,0,1,0,1,1]) [.seq [1,1,1,0,0,1,1,0,0,1,0,1,1],.block 1,.seq [1,1,1,0,0,1,0,1,1]] [0,14,15,16] [(4,Vp b6),(3,Vi (k:Int))] [.box b6 [.string f.name,Vi f.kind,Vi f.ty,Vi f.src.op,Vi f.src.k,Vi f.src.n,.string f.src.s,.string f.src.nm,.slice (sA u) (sN u) (sC u)]] [.o 0]) (And.intro (by first | omega | (simp; omega)) (And.intro (fun H sH=>right_any fs f _ _ hok (ha.sees (s2.trans sH))) (trivial))) trivial (fun b6 _=>by kernel_rfl) ?_
  clear hJ a w; intro b6 a w hJ
  let R:Reg:=⟨⟨51,h.w,h.bad,[]⟩,[(0,27,fun gh=>.slice (some ⟨b3,o4,none⟩) fs.length c),(1,28,fun gh=>Vi (k:Int)),(2,29,fun gh=>.slice (some ⟨b3,o4,none⟩) k c),(3,30,fun gh=>Vp b6),(4,31,fun gh=>.string f.name),(5,32,fun gh=>.tuple #[Vi 0,Vi 5]),(6,26,fun gh=>.tuple #[Vi 0,Vi 5]),(7,33,fun gh=>Vi 0),(8,34,fun gh=>Vi 5),(9,6,fun gh=>Vi 0),(10,7,fun gh=>Vi 5)],[(0,.slice (some ⟨b3,o4,none⟩) fs.length c),(14,.slice (some ⟨b3,o4,none⟩) fs.length c),(15,Vi (fs.length:Int)),(16,Vi (k:Int)),(4,Vp b6),(3,Vi (k:Int))],[⟨some (.box b6 [.string f.name,Vi f.kind,Vi f.ty,Vi f.src.op,Vi f.src.k,Vi f.src.n,.string f.src.s,.string f.src.nm,.slice (sA u) (sN u) (sC u)]),[]⟩],[],[[],[],[0,1],[],[3],[0,1,2,3,4],[0,1,2,3,4,5],[0,1,2,3,4,5,6],[0,1,2,3,4,5,6],[0,1,2,3,4,5,6,7],[0,1,2,3,4,5,6,7,8,9]],h1⟩
  have hmono:∀ zq∈R.F,∀ zx zh zi,Sees zh zi→zq.2 zx zh→zq.2 zx zi:=lJ
  refine oY (by kernel_rfl) R hJ 11 [.pu,.pu,.cl,.pu,.ld 0 0,.cl,.pu,.pu,.pu,.pu,.pu] (by kernel_rfl) hmono (fun _ _ _=>by kernel_rfl) (fun hT hA=>?_) ?_
  ·clear hJ
   refine And.intro (sW hT hA 29 (fun gh=>.slice (some ⟨b3,o4,none⟩) k c) [0,1] 2 (fun gh w=>run_hi (t:=23) (e:=43) (x:=(.tmp 27)) (y:=(.tmp 28)) (A:=(some ⟨b3,o4,none⟩)) (n:=fs.length) (cap:=c) (k:=k) (kk:=9) (by kernel_rfl) (by kernel_rfl) (by kernel_rfl) (by omega) Tryz.underlying23 (by kernel_rfl))) ?_
   refine And.intro (rW hT hA hmono 32 (fun gh=>.tuple #[Vi 0,Vi 5]) [2,4] 5 70 (fun gh=>#[.slice (some ⟨b3,o4,none⟩) k c,.string f.name]) (fun gh H sH fH lent=>find_no (fs.take k) _ f.name _ (htk.sees (s2.trans sH)) (by rw [List.length_take]; omega) (by omega))) ?_
   trivial
  clear hJ a w; intro gh h7 a w sR hJ1 hF; have s8:Sees h1 h7:=sR; clear sR
  have hJ:K ⟨51,h.w,h.bad,[]⟩ [(0,.slice (some ⟨b3,o4,none⟩) fs.length c),(14,.slice (some ⟨b3,o4,none⟩) fs.length c),(15,Vi (fs.length:Int)),(16,Vi (k:Int)),(7,Vi 5)] [.box b6 [.string f.name,Vi f.kind,Vi f.ty,Vi f.src.op,Vi f.src.k,Vi f.src.n,.string f.src.s,.string f.src.nm,.slice (sA u) (sN u) (sC u)]] [(b3,o4 + k * 9,[.string f.name,Vi f.kind,Vi f.ty,Vi f.src.op,Vi f.src.k,Vi f.src.n,.string f.src.s,.string f.src.nm,.slice (sA u) (sN u) (sC u)])] h7 a w:=hJ1.tw
  clear hJ1 hF hmono R
  clear gh
  refine rk' hJ false 15 [] [(37,Vi (IntKind.i64.wrap ((k:Int) + 1)),Vi ((k:Int) + 1))] (.k (.out .normal) [] [0,14,15] [(16,Vi ((k:Int) + 1))]) (hc:=And.intro (kJ (by omega) (by omega)) (trivial)) ?_
  clear hJ a w; intro a w hJ
  replace hJ:=hJ.drop 0
  exact pY ⟨k + 1,⟨h7,(hJ.tof [] (F':=[]) (by kernel_rfl)).to (by kernel_rfl) (by kernel_rfl) rfl,(s2.trans s8),by omega⟩,by omega⟩
 ·skip
  refine iY hJ (t:=decide ((k:Int) < (fs.length:Int))) (decide_eq_false (by omega)) ?_
  refine rk' hJ false 2 [] [] (.k (.out (.exit 0)) [] [0] []) ?_
  clear hJ a w; intro a w hJ
  refine jY rfl ?_
  refine rk' hJ false 11 [] [] (.k (.code [0,1,0,1,1,1]) [.block 2,.seq [1,1,1,1]] [0] [(38,.slice A fs.length c),(39,Vi (fs.length:Int)),(40,Vi 0)]) ?_
  clear hJ a w; intro a w hJ
  refine kY (fun (k2:Nat) a w=>∃ (h9:Vw) ,K ⟨51,h.w,h.bad,[]⟩ [(0,.slice A fs.length c),(38,.slice A fs.length c),(39,Vi (fs.length:Int)),(40,Vi (k2:Int))] [] [] h9 a w∧Sees h1 h9∧(k2≤fs.length)) (fun k2=>fs.length - k2) (0) ⟨h1,hJ.tw,Sees.refl _,Nat.zero_le _⟩ ?_
  clear hJ a w; rintro k2 a w ⟨h9,hJ,s10,hk2⟩
  refine rx' hJ false 6 [] [] (.ok (.code [0,1,0,0,1,0,1,1,1]) [.seq [1,1,0,0,1,0,1,1,1]] [(0,.slice A fs.length c),(38,.slice A fs.length c),(39,Vi (fs.length:Int)),(40,Vi (k2:Int)),(41,.bool (decide ((k2:Int) < (fs.length:Int))))] [] []) (fun _=>by kernel_rfl) ?_
  clear hJ a w; intro a w hJ
  rcases (by omega:k2 < fs.length∨k2=fs.length) with hlt2 | hke2
  ·obtain ⟨f,hfk⟩:∃ f,fs[k2]?=some f:=⟨_,List.getElem?_eq_getElem (by omega)⟩
   obtain ⟨u,huk⟩:∃ u,vs[k2]?=some u:=⟨_,List.getElem?_eq_getElem (by omega)⟩
   have hslu:=hsl u (List.mem_of_getElem? huk)
   have hrow:(aQ fs vs)[k2]?=some (fdRow f (.slice (sA u) (sN u) (sC u))):=by rw [hslu]; exact bQ hfk huk
   have ha:IsArgs h f.src (.slice (sA u) (sN u) (sC u)):=by rw [hslu]; exact AllArgs.get hsrc (x:=f.src) (by rw [List.getElem?_map,hfk]; rfl) huk
   have hok:=hf.each f (List.mem_of_getElem? hfk)
   refine qY hJ (t:=decide ((k2:Int) < (fs.length:Int))) (decide_eq_true (by omega)) ?_
   refine rk' hJ false 6 [] [] (.k (.ops [0,0,0,1,1,0,0,1,0,1,1,1] 0) [.seq [1,0,0,1,1,0,0,1,0,1,1,1],.block 3,.seq [1,1,1,0,0,1,0,1,1,1]] [0,38,39,40] []) ?_
   clear hJ a w; intro a w hJ
   obtain ⟨b11,o12,rfl,-,c13⟩:=RS.row hr (hrow)
   replace hJ:=hJ.fact (c13.sees (s2.trans s10))
   refine rk hJ false 28 [.ix b11 o12 fs.length c k2,.f 0 0,.own,.b 0 0,.b 0 0,.cl 145 #[.agg #[.string f.name,Vi f.kind,Vi f.ty,Vi f.src.op,Vi f.src.k,Vi f.src.n,.string f.src.s,.string f.src.nm,.slice (sA u) (sN u) (sC u)],.slice (some ⟨b11,o12,none⟩) fs.length c] (Vi 0)] [(50,Vi (IntKind.i64.wrap ((k2:Int) + 1)),Vi ((k2:Int) + 1))] (.new fun b14=>.f (.out .normal) [] [0,38,39] [(40,Vi ((k2:Int) + 1))] [.box b14 [.string f.name,Vi f.kind,Vi f.ty,Vi f.src.op,Vi f.src.k,Vi f.src.n,.string f.src.s,.string f.src.nm,.slice (sA u) (sN u) (sC u)]] [.o 0]) (And.intro (by first | omega | (simp; omega)) (And.intro (fun H sH=>typed_any fs f _ _ _ hok (ha.sees (s2.trans (s10.trans sH))) (hfs.sees (s2.trans (s10.trans sH)))) (trivial))) (And.intro (kJ (by omega) (by omega)) (trivial)) (fun b14 _=>by kernel_rfl) ?_
   clear hJ a w; intro b14 a w hJ
   replace hJ:=hJ.drop 0
   exact pY ⟨k2 + 1,⟨h9,(hJ.tof [] (F':=[]) (by kernel_rfl)).to (by kernel_rfl) (by kernel_rfl) rfl,s10,by omega⟩,by omega⟩
  ·skip
   refine iY hJ (t:=decide ((k2:Int) < (fs.length:Int))) (decide_eq_false (by omega)) ?_
   refine rx' hJ false 2 [] [] (.ok (.out (.exit 2)) [] [] [] []) (fun _=>by kernel_rfl) ?_
   clear hJ a w; intro a w hJ
   refine jY rfl ?_
   refine rx' hJ false 8 [] [] (.ok (.out .ret) [] [(2,Vi 0)] [] []) (fun _=>by kernel_rfl) ?_
   clear hJ a w; intro a w hJ
   refine gY (hQ [Vi 0] _ [] hJ (.rtm hJ.j .nil) (fJ _) rfl ?_).1
   exact rfl
end Go.Proofs.YthckljafinhepaaGreat
