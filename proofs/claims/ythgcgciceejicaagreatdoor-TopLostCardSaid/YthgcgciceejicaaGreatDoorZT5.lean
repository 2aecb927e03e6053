/-
  Rows of the call's own: a callee returns one; a load and a store at an index. Rows of the call's own that are lent to a call; a call that writes into one; the text of a slice of bytes; loads out of what a call in a drawn region gave. Contracts of the older kind, as walks by certificates want them.
-/
import Derived.Test.YthgcgciceejicaaGreatDoorZT3
import Derived.Test.YthgcgciceejicaaGreatDoorZT4
namespace Go.Proofs.YthgcgciceejicaaGreatDoor
open Go.RowKit
section
variable {P:Program} {C:Fx} {c0:Code} {Q:Exit -> Act -> World -> Prop} {h h':Vw} {a:Act} {w w':World} {p:List Nat} {n:Nat} {ks:List Kt} {E:List (Nat × Value)} {B:List Ent} {F:List Fac}
theorem put_nil (xs:List Value) (o:Nat):uX xs o []=xs:=by simp [uX]
theorem put_succ (x:Value) (xs:List Value) (o:Nat) (vs:List Value):uX (x :: xs) (o + 1) vs=x :: uX xs o vs:=by
 unfold uX;rw [show o + 1 + vs.length=(o + vs.length) + 1 by omega]; simp
theorem put_cons:∀ (xs:List Value) (o:Nat) (u:Value) (vs:List Value),o < xs.length -> uX (xs.set o u) (o + 1) vs=uX xs o (u :: vs)
 | [],_,_,_,h=>by simp at h
 | x :: xs,0,u,vs,_=>by
  rw [List.set_cons_zero,put_succ];simp [uX]
 | x :: xs,o + 1,u,vs,h=>by
  rw [List.set_cons_succ,put_succ,put_succ,put_cons xs o u vs (by simpa using h)]
theorem iY {base g m cap size:Nat} {e:TypeId}:∀ (vs:List Value) (o:Nat) (xs:List Value) (w:World),w.ownsRow base e size (.slice (some ⟨g,0,none⟩) m cap) m xs -> o + vs.length <= xs.length ->
  (w.setCells g o vs).ownsRow base e size (.slice (some ⟨g,0,none⟩) m cap) m (uX xs o vs) /\ w.grownBy (w.setCells g o vs) (some g)
 | [],o,xs,w,h,_=>by
  rw [put_nil];exact ⟨h,rfl,rfl,rfl,Hj _,λ_ _ _=>rfl⟩
 | u :: vs,o,xs,w,h,hl=>by
  obtain ⟨h1,h2⟩:=h.stored o u;obtain ⟨h3,h4⟩:=iY vs (o + 1) (xs.set o u) _ h1 (by simp at hl ⊢; omega);rw [put_cons xs o u vs (by simp at hl; omega)] at h3;exact ⟨h3,h4.os.trans h2.os,h4.tape.trans h2.tape,h4.output.trans h2.output,Yk h2.size h4.size,λk hk hne=>(h4.block k (Cq hk h2.size) hne).trans (h2.block k hk hne)⟩
theorem row_box {base g m cap size:Nat} {e:TypeId} {xs:List Value} (h:w.ownsRow base e size (.slice (some ⟨g,0,none⟩) m cap) m xs):Box w g xs :=
 ⟨(h.lt g rfl).2,λi v hv=>by rw [h.cellAt i (by have:=(Nj.1 hv).1; rw [h.1] at this; exact this)]; exact hv,λi=>h.frozenAt i⟩
theorem run_store_at {t:TypeId} {v:Value} {b off:Nat} {cs:List Value} (hb:Box w b cs) (hv:wY P t cs off v=true):(Instr.storeAt t (.pointer (some ⟨b,off,none⟩)) v).run P w=.ok () (w.setCells b off v.cells.toList):=by
 unfold wY at hv;simp only [Uj] at hv;obtain ⟨⟨h1,h2⟩,h3⟩:=hv;have h2:=Nq h2;have hl:off + v.cells.toList.length <= cs.length:=by simpa using h2
 have hsz:(sizeOf t).run P w=.ok v.cells.size w:=by
  cases hq:P.info? t with
  | none=>simp [hq] at h1
  | some inf =>
   simp only [hq] at h1;simp [sizeOf,typeInfo,hq,Nat.eq_of_beq_eq_true h1]
 have:=run_storeCells_cells (P:=P) b off v.cells.toList 0 w (λj hj=>by rw [Pv,hb.cells (off + j) _ (Gj (by omega))]; rfl) (λj hj=>hb.free _) (λu hu=>Sj.1 h3 u hu)
 rw [Pv] at this;simp [Instr.storeAt,Instr.sureAddr,storeVar,hsz,this]
theorem flat_len2 {k:Nat}:∀ (l:List (List Value)),(∀ r∈l,r.length=k) -> l.flatten.length=l.length * k
 | [],_=>by simp
 | r :: l,h=>by
  rw [Cv,Bk,flat_len2 l (λx hx=>h x (by simp [hx])),h r (by simp),Sk,Nat.add_mul]; omega
theorem flat_put2 {k:Nat} (vs:List Value) (o:Nat):∀ (l:List (List Value)) (i:Nat) (r:List Value),(∀ r∈l,r.length=k) -> l[i]?=some r -> o + vs.length <= k -> uX l.flatten (i * k + o) vs=(l.set i (uX r o vs)).flatten
 | [],i,r,_,h,_=>by simp at h
 | x :: l,0,r,hk,h,ho=>by
  simp only [Nx,Yj] at h;subst h;have hx:=hk x (by simp);unfold uX;rw [Nat.zero_mul,Gq,List.set_cons_zero,Cv,Cv,List.take_append_of_le_length (by omega),List.drop_append_of_le_length (by omega)];simp [List.append_assoc]
 | x :: l,i + 1,r,hk,h,ho=>by
  simp only [List.getElem?_cons_succ] at h;have hx:=hk x (by simp);have ih:=flat_put2 vs o l i r (λy hy=>hk y (by simp [hy])) h ho;rw [List.set_cons_succ,Cv,Cv, <- ih];unfold uX;have e:(i + 1) * k + o=x.length + (i * k + o):=by rw [Nat.add_mul,hx]; omega
  rw [e,List.take_length_add_append,Xv,List.drop_length_add_append];simp [List.append_assoc]
theorem put_len2 (xs vs:List Value) (o:Nat) (h:o + vs.length <= xs.length):(uX xs o vs).length=xs.length:=by
 unfold uX;simp only [Bk,Ck,List.length_drop];omega
theorem row_range {base g m cap kk:Nat} {e:TypeId} {l:List (List Value)} {i:Nat} {r:List Value} (h:w.ownsRow base e kk (.slice (some ⟨g,0,none⟩) m cap) m l.flatten) (hk:∀ r∈l,r.length=kk) (hi:l[i]?=some r):w.rangeAt g (0 + i * kk) r:=λj v hv=>by
 rw [Gq];have hj:=(Nj.1 hv).1;have hf:=flat_get l hk i r j v hi hv;exact (row_box h).cells _ _ hf
theorem storesOk_row {t:TypeId} {l:List (List Value)} {kk i fo:Nat} {r:List Value} {u:Value} (hk:∀ r∈l,r.length=kk) (hi:l[i]?=some r) (hv:wY P t r fo u=true):wY P t l.flatten (i * kk + fo) u=true /\ fo + u.cells.toList.length <= kk:=by
 unfold wY at hv ⊢;simp only [Uj] at hv ⊢;obtain ⟨⟨h1,h2⟩,h3⟩:=hv;have h2:=Nq h2;have hr:=hk r (Ej hi);have hlt:=(Nj.1 hi).1;refine ⟨⟨⟨h1,Nat.ble_eq_true_of_le ?_⟩,h3⟩,by rw [<- hr]; simpa using h2⟩;rw [flat_len2 l hk]
 have:(i + 1) * kk <= l.length * kk:=Rv _ hlt
 rw [Nat.add_mul] at this;omega
theorem x_rowget (hK:K C E B F h a w) (d:Nat) (i kx fo:Nat) {g m cap kk:Nat} {e:TypeId} {l:List (List Value)} {r:List Value} {t:TypeId} {x:Operand} {u:Value} (hk:mV C E (fX c0 p) n d=true) (hop:(dX (fX c0 p) n).op=.load t x) (hB:B[i]?=some (.row (.slice (some ⟨g,0,none⟩) m cap) e kk l))
  (hx:evE E x=some (.pointer (some ⟨g,0 + kx * kk + fo,none⟩))) (hr:l[kx]?=some r) (hv:dW P t r fo=some u) (k:∀ a w,K C ((d,u) :: E) B F h a w -> Goal P c0 Q (.ops p (n + 1)) ks a w):Goal P c0 Q (.ops p n) ks a w:=by
 obtain ⟨o,rest,hl,ho,hg,hd,hlt,hkn⟩:=nV hk;rw [ho] at hop;have hrr:=kK hl;obtain ⟨h1,h2⟩:Ent.ok _ w (.row (.slice (some ⟨g,0,none⟩) m cap) e kk l):=hK.j.ents _ (Ej hB);have hm:m=l.length:=by
  obtain ⟨A,c,e',-⟩:=gY (hK.j.ents _ (Ej hB));simp only [Tk] at e';exact e'.2.1
 subst hm;have hld:=lY (P:=P) (off:=fo) (row_range h1 h2 hr) hv;refine kJ hl (iQ hK.j.fits hg) (Vk rfl λKK hKK=>?_);unfold Oper.wp execOp;simp only [hop,hK.j.fits.ev hx,Kk,Wk,Hq,hld];refine hKK _ _ ?_;rw [hrr];exact k _ _ ⟨hK.j.putd _ hd hlt,hK.f⟩
theorem J.setRow (hJ:J C E B h a w) {i g m cap kk:Nat} {e:TypeId} {l l':List (List Value)} (hB:B[i]?=some (.row (.slice (some ⟨g,0,none⟩) m cap) e kk l)) (hg:w.grownBy w' (some g)) (hs:w'.heap.size=w.heap.size) (hok:Ent.ok C.base w' (.row (.slice (some ⟨g,0,none⟩) m cap) e kk l')) :
  J C E (B.set i (.row (.slice (some ⟨g,0,none⟩) m cap) e kk l')) h a w':=by
 have hi:=(Nj.1 hB).1;have e1:B=B.take i++.row (.slice (some ⟨g,0,none⟩) m cap) e kk l :: B.drop (i + 1):=by
  have:=Iw (l:=B) (i:=i) (a:=.row (.slice (some ⟨g,0,none⟩) m cap) e kk l)
  rw [Cj hi] at this;rw [<- this];refine (Vq λj=>?_);rw [Yv]
  split
  ·subst_vars; rw [hB]
  ·rfl
 have:=Iw (l:=B) (i:=i) (a:=.row (.slice (some ⟨g,0,none⟩) m cap) e kk l')
 rw [Cj hi] at this;rw [this];refine hJ.setE (x:=.row (.slice (some ⟨g,0,none⟩) m cap) e kk l) (x':=.row (.slice (some ⟨g,0,none⟩) m cap) e kk l') (b:=g) rfl rfl e1 ⟨hg.os,hg.tape,hg.output,hs⟩ (λk hk=>?_) hok;rcases Iv k w.heap.size with q | q
 ·exact hg.block k q (λe=>hk (by simpa using e))
 ·rw [Gx (by omega),Gx (by omega)]
theorem tY (g:Nat):∀ (vs:List Value) (o:Nat) (w:World),(w.setCells g o vs).heap.size=w.heap.size
 | [],_,_=>rfl
 | v :: r,o,w=>by
  show ((w.setCell ⟨g,o,none⟩ v).setCells g (o + 1) r).heap.size=_;rw [tY g r]; simp [World.setCell]
theorem x_rowset (hK:K C E B F h a w) (i kx fo:Nat) {g m cap kk:Nat} {e:TypeId} {l:List (List Value)} {r:List Value} {t:TypeId} {x y:Operand} {u:Value} (hk:goodOp0 E (fX c0 p) n=true) (hop:(dX (fX c0 p) n).op=.store t x y) (hB:B[i]?=some (.row (.slice (some ⟨g,0,none⟩) m cap) e kk l))
  (hx:evE E x=some (.pointer (some ⟨g,0 + kx * kk + fo,none⟩))) (hy:evE E y=some u) (hr:l[kx]?=some r) (hv:wY P t r fo u=true) (k:∀ a w,K C E (B.set i (.row (.slice (some ⟨g,0,none⟩) m cap) e kk (l.set kx (uX r fo u.cells.toList)))) F h a w -> Goal P c0 Q (.ops p (n + 1)) ks a w):Goal P c0 Q (.ops p n) ks a w:=by
 unfold goodOp0 at hk
 split at hk
 ·rename_i o rest hl;simp only [Uj] at hk;obtain ⟨⟨k1,k2⟩,k3⟩:=hk;have hg:gKnown E (fX c0 p) o=some true:=by
   split at k1
   ·assumption
   ·cases k1
  have hrr:=kK hl;rw [drop_opAt hl] at hop;obtain ⟨h1,h2⟩:Ent.ok _ w (.row (.slice (some ⟨g,0,none⟩) m cap) e kk l):=hK.j.ents _ (Ej hB);have hm:m=l.length:=by
   obtain ⟨A,c,e',-⟩:=gY (hK.j.ents _ (Ej hB));simp only [Tk] at e';exact e'.2.1
  subst hm;obtain ⟨v1,v2⟩:=storesOk_row h2 hr hv;have hst:=run_store_at (row_box h1) v1;rw [show kx * kk + fo=0 + kx * kk + fo by omega] at hst;have hrl:=h2 r (Ej hr);have hfl:=flat_len2 l h2;have hlt:=(Nj.1 hr).1;have hle:(kx + 1) * kk <= l.length * kk:=Rv _ hlt;rw [Nat.add_mul] at hle;obtain ⟨h3,h4⟩:=iY u.cells.toList (0 + kx * kk + fo) l.flatten w h1 (by omega);rw [show 0 + kx * kk + fo=kx * kk + fo by omega,flat_put2 u.cells.toList fo l kx r h2 hr v2] at h3;refine kJ hl (iQ hK.j.fits hg) (Vk rfl λKK hKK=>?_);unfold Oper.wp execOp;simp only [hop,hK.j.fits.ev hx,hK.j.fits.ev hy,Kk,Wk,Hq,hst];have hput:a.put ({ o with guard:=none }:Oper).dst undef=a:=by
   show a.put o.dst undef=a;rw [show o.dst=none by simpa using k2]; rfl
  simp only [Oper.upon,hput];refine hKK _ _ ?_;rw [hrr];refine k _ _ ⟨hK.j.setRow hB h4 (tY _ _ _ _) ⟨?_,λq hq=>?_⟩,hK.f⟩
  ·rw [Qq];rw [show kx * kk + fo=0 + kx * kk + fo by omega] at h3;exact h3
  ·rcases List.mem_or_eq_of_mem_set hq with hq | rfl
   ·exact h2 q hq
   ·rw [put_len2 r _ fo (by omega)]; exact hrl
 ·cases hk
abbrev CRow (P:Program) (f:FuncId) (args:Array Value) (h:Vw) (e:TypeId) (kk:Nat) (R:Value -> List (List Value) -> Prop):Prop :=
 C0 P f args h (λv h'=>∃ l,Ent.ok h.w.heap.size h'.w (.row v e kk l) /\ R v l)
theorem K.rowOwn (hK:K C E B F h a w) (i:Nat) {v:Value} {e:TypeId} {kk:Nat} {l:List (List Value)} (hB:B[i]?=some (.row v e kk l)):Ent.ok C.base w (.row v e kk l):=hK.j.ents _ (Ej hB)
theorem own_some {base n c kk:Nat} {e:TypeId} {A:Option Addr} {l:List (List Value)} (ho:Ent.ok base w (.row (.slice A n c) e kk l)) (hl:0 < l.length):∃ b,A=some ⟨b,0,none⟩:=by
 rcases ho.1.2 with ⟨-,h0⟩ | ⟨g,cap,cur,e',-⟩
 ·omega
 ·simp only [Tk] at e';exact ⟨g,e'.1⟩
theorem J.addRow (hJ:J C E B h a w) (hl:Low [] w w') {v:Value} {e:TypeId} {kk:Nat} {l:List (List Value)} (ho:Ent.ok w.heap.size w' (.row v e kk l)):J C E (.row v e kk l :: B) h a w':=by
 have hg:=hJ.grow hl;have hs:=hJ.sees.size;refine ⟨hJ.fits,hJ.size,hJ.defers,hg.low,⟨hg.sees.size,hg.sees.block,λb hb hlt=>?_⟩,λx hx=>?_,?_,λb hb=>?_,hJ.badlt⟩
 ·have hb:b∈v.ownBlock.toList++blk B++C.bad0:=hb;rw [Lq] at hb;rcases Qj.1 hb with q | q
  ·have:=(ho.1.lt b (by simpa using q)).1
   simp only at hs; omega
  ·exact hg.sees.bad b q hlt
 ·rcases Tj.1 hx with rfl | hx
  ·exact ⟨ho.1.mono hJ.base_le,ho.2⟩
  ·exact hg.ents x hx
 ·show (v.ownBlock.toList++blk B).Nodup;rw [Dq];refine ⟨by cases v.ownBlock <;> simp,hJ.nodup,λx hx y hy e'=>?_⟩
  have:=(ho.1.lt x (by simpa using hx)).1
  have:=blk_lt hJ y hy
  omega
 ·have hb:b∈v.ownBlock.toList++blk B:=hb;rcases Qj.1 hb with q | q
  ·have:=(ho.1.lt b (by simpa using q)).1
   exact .inl (Yk hJ.low.size this)
  ·exact hJ.own b q
end
section
variable {P:Program} {Q:Exit -> Act -> World -> Prop} {R:Reg} {ops:Array Oper} {i:Nat}
theorem r_rowget (hT:dK R=true) (hA:cK R ops=true) (d:Nat) (f:Gh -> Value) (dp:List Nat) (p:Nat) (hp:R.T[p]?=some (i,d,f)) (ho:only R i none=true) (hF:(R.F.all λt=>t.1 != i)=true) (hk:∀ x,okR R ops i d dp x=true)
  (e:Nat) (g:Gent) (hg:R.G[e]?=some g) (hs:sync R i g=true) (b:Nat) (m cap kk:Nat) (te:TypeId) (l:List (List Value)) (hc:∀ x,iK (R.an i) x g=some (.row (.slice (some ⟨b,0,none⟩) m cap) te kk l)) (kx fo:Nat) {r:List Value} (hr:l[kx]?=some r)
  (t:TypeId) (y:Operand) (hop:(dX ops i).op=.load t y) (hy:∀ x,evE (rdE R i dp x) y=some (.pointer (some ⟨b,0 + kx * kk + fo,none⟩))) (hv:∀ x,dW P t r fo=some (f x)):StepAt' P ops Q R i:=by
 refine .mk λo D x h a w hio hn hd I=>?_;obtain ⟨h1,h2,h3,h4⟩:=vW hio (hk x);have hcur:=(jK (x':=x) I hn (rJ hA hio I hd) hs).trans (hc x);have hm:Ent.row (.slice (some ⟨b,0,none⟩) m cap) te kk l∈BD R.G D x:=by
  rw [nJ hg,hcur]; simp
 obtain ⟨r1,r2⟩:Ent.ok _ w (.row (.slice (some ⟨b,0,none⟩) m cap) te kk l):=I.mem.ents _ hm;have hml:m=l.length:=by
  obtain ⟨A,c,e',-⟩:=gY (I.mem.ents _ hm);simp only [Tk] at e';exact e'.2.1
 subst hml;have hld:=lY (P:=P) (off:=fo) (row_range r1 r2 hr) (hv x);refine vZ hio (jQ hio (xX hio h1 I hd hn) h2) (v:=f x) (w':=w) ?_ ⟨x,h,?_⟩
 ·rw [eX hio] at hop;unfold execOp;simp only [hop,(xX hio h1 I hd hn).ev (hy x),Kk,Wk,Hq,hld]
 ·rw [h3];refine I.next hio hT hA hn hd ?_ (Sees.refl _) (λ_ _ _=>rfl) (.inl ⟨d,f,Ej hp,rfl⟩) (λq hq hD=>I.facts q hq (hD.resolve_left λe=>?_))
  ·rw [zW ho]; exact I.mem.putN _ _
  ·have:=Sj.1 hF q hq
   simp [e] at this
theorem r_rowget' (hT:dK R=true) (hA:cK R ops=true) (d:Nat) (f:Gh -> Value) (dp:List Nat) (p:Nat) (e:Nat) (g:Gent) (b:Nat) (m cap kk:Nat) (te:TypeId) (l:List (List Value)) (kx fo:Nat) {r:List Value} (hr:l[kx]?=some r) (t:TypeId) (y:Operand) (hp:R.T[p]?=some (i,d,f):=by kernel_rfl) (ho:only R i none=true:=by kernel_rfl) (hF:(R.F.all λt=>t.1 != i)=true:=by kernel_rfl) (hk:∀ x,okR R ops i d dp x=true:=by intro _; kernel_rfl) (hg:R.G[e]?=some g:=by kernel_rfl) (hs:sync R i g=true:=by kernel_rfl) (hc:∀ x,iK (R.an i) x g=some (.row (.slice (some ⟨b,0,none⟩) m cap) te kk l):=by intro _; kernel_rfl) (hop:(dX ops i).op=.load t y:=by kernel_rfl) (hy:∀ x,evE (rdE R i dp x) y=some (.pointer (some ⟨b,0 + kx * kk + fo,none⟩)):=by intro _; kernel_rfl) (hv:∀ x,dW P t r fo=some (f x):=by intro _; kernel_rfl):StepAt' P ops Q R i:=r_rowget hT hA d f dp p hp ho hF hk e g hg hs b m cap kk te l hc kx fo hr t y hop hy hv
end
set_option linter.unusedVariables false
set_option linter.unusedSimpArgs false
section
variable {P:Program} {C:Fx} {c0:Code} {Q:Exit -> Act -> World -> Prop} {h:Vw} {a:Act} {w:World} {E:List (Nat × Value)} {B:List Ent} {F:List Fac} {p:List Nat} {n:Nat} {ks:List Kt}
theorem row_apart (hnd:(blk B).Nodup) {v:Value} {e:TypeId} {k b:Nat} {l:List (List Value)} {cs:List Value} (hr:Ent.row v e k l∈B) (hb:Ent.box b cs∈B):∀ x,v.ownBlock=some x -> x≠b:=by
 obtain ⟨i,hi⟩:=Fv.1 hr;obtain ⟨j,hj⟩:=Fv.1 hb;have hne:i≠j:=by rintro rfl; rw [hi] at hj; simp at hj
 intro x hx e;exact ent_apart hnd hi hj hne x (by simp [Ent.blocks,hx]) (by simp [Ent.blocks,e])
theorem J.rowLent (hJ:J C E B h a w) (i j:Nat) {v:Value} {e:TypeId} {k b:Nat} {l:List (List Value)} {cs:List Value} (hr:B[i]?=some (.row v e k l)) (hb:B[j]?=some (.box b cs)):RS ⟨w,[b]⟩ k v l :=
 row_rs (hJ.ents _ (Ej hr)) λx hx hm=>row_apart hJ.nodup (Ej hr) (Ej hb) x hx (Pj.1 hm)
theorem J.boxBad (hJ:J C E B h a w) (j:Nat) {b:Nat} {cs:List Value} (hb:B[j]?=some (.box b cs)):∀ x∈[b],x∈blk B++C.bad0:=λx hx=>by
 rw [Pj.1 hx];exact Ek _ (Fk.2 ⟨_,Ej hb,by simp [Ent.blocks]⟩)
abbrev CSet (P:Program) (f:FuncId) (args:Array Value) (base g m cap:Nat) (e:TypeId) (kk:Nat) (l l':List (List Value)):Prop :=
 ∀ w,Ent.ok base w (.row (.slice (some ⟨g,0,none⟩) m cap) e kk l) -> Calls P f args w λen w'=>en=.returned (.tuple #[]) /\ w.grownBy w' (some g) /\ w'.heap.size=w.heap.size /\ Ent.ok base w' (.row (.slice (some ⟨g,0,none⟩) m cap) e kk l')
theorem x_callset {f:FuncId} {args:Array Value} {e:TypeId} {g m cap kk:Nat} {l l':List (List Value)} (hK:K C E B F h a w) (d i:Nat) (hB:B[i]?=some (.row (.slice (some ⟨g,0,none⟩) m cap) e kk l)) (hc:CSet P f args C.base g m cap e kk l l')
  (hk:∀ w,callAt P C E (fX c0 p) ((fX c0 p).toList.drop n) d w=[.b true,.r (.ok (.enter f args) w)])
  (k:∀ a w,K C ((d,.tuple #[]) :: E) (B.set i (.row (.slice (some ⟨g,0,none⟩) m cap) e kk l')) F h a w -> Goal P c0 Q (.ops p (n + 1)) ks a w):Goal P c0 Q (.ops p n) ks a w:=by
 obtain ⟨o,r,hl,hg,hd,hlt,hkn,hrun⟩:=zJ hk;have hr:=kK hl;refine kJ hl (iQ hK.j.fits hg) (Vk rfl λKK hKK=>?_);unfold Oper.wp;have hrun':∀ w,(execOp (evD E) { o with guard:=none }).run P w=.ok (.enter f args) w:=λw=>by
  have:=hrun w
  unfold execOp at this ⊢;exact this
 rw [kY (o:={ o with guard:=none }) hK.j.fits hkn,hrun'];refine (hc w (hK.j.ents _ (Ej hB))).mono ?_;rintro e' w' ⟨rfl,h1,h2,h3⟩;refine hKK _ _ ?_;rw [hr];exact k _ _ ⟨(hK.j.setRow hB h1 h2 h3).putd _ hd hlt,hK.f⟩
theorem J.rowQ (hJ:J C E B h a w) (i:Nat) {v:Value} {e:TypeId} {k:Nat} {l:List (List Value)} (hr:B[i]?=some (.row v e k l)):RS ⟨w,[]⟩ k v l:=row_rs (hJ.ents _ (Ej hr)) λx hx hm=>by cases hm
theorem J.seesQ (hJ:J C E B h a w):Sees h ⟨w,[]⟩:=hJ.sees.less λx hx=>by cases hx
theorem x_callq {f:FuncId} {args:Array Value} {v:Value} (hK:K C E B F h a w) (d:Nat) (hc:C0 P f args ⟨w,[]⟩ (λr _=>r=v)) (hk:∀ w,callAt P C E (fX c0 p) ((fX c0 p).toList.drop n) d w=[.b true,.r (.ok (.enter f args) w)])
  (k:∀ h' a w,Sees h h' -> K C ((d,v) :: E) B F h' a w -> Goal P c0 Q (.ops p (n + 1)) ks a w):Goal P c0 Q (.ops p n) ks a w:=by
 obtain ⟨o,r,hl,hg,hd,hlt,hkn,hrun⟩:=zJ hk;have hr:=kK hl;refine kJ hl (iQ hK.j.fits hg) (Vk rfl λKK hKK=>?_);unfold Oper.wp;have hrun':∀ w,(execOp (evD E) { o with guard:=none }).run P w=.ok (.enter f args) w:=λw=>by
  have:=hrun w
  unfold execOp at this ⊢;exact this
 rw [kY (o:={ o with guard:=none }) hK.j.fits hkn,hrun'];refine (hc (by intro x hx; cases hx) (by simp) (by simp) (by intro b hb; cases hb)).mono ?_;rintro e' w' ⟨r',Bo,rfl,hlo,-,-,rfl⟩;obtain ⟨j,s⟩:=hK.j.called hlo;refine hKK _ _ ?_;rw [hr];exact k _ _ _ s ⟨j.putd _ hd hlt,λx hx=>(hK.f x hx).sees s⟩
theorem J.boxQ (hJ:J C E B h a w) (i:Nat) {b:Nat} {cs:List Value} (hb:B[i]?=some (.box b cs)):Cells ⟨w,[]⟩ b 0 cs:=by
 have hx:Box w b cs:=hJ.ents _ (Ej hb);exact ⟨hx.lt,by simp,box_range hx⟩
theorem elem_size {e:TypeId} {kk:Nat} (he:(P.info? e).map (·.size)=some kk):(sizeOf e).run P w=.ok kk w:=by
 cases hq:P.info? e with
 | none=>simp [hq] at he
 | some inf =>
  simp [hq] at he;simp [sizeOf,typeInfo,hq,he]
theorem run_hi {o:Oper} {ρ:Operand -> Value} {t e:TypeId} {x y:Operand} {A:Option Addr} {n cap k kk:Nat} (ho:o.op=.slice t x none (some y) none) (hx:ρ x=.slice A n cap) (hy:ρ y=Vi ((k:Nat):Int)) (hk:k <= cap) (ht:P.underlying t=some (.slice e)) (he:(P.info? e).map (·.size)=some kk) :
  (execOp ρ o).run P w=.ok (.value (.slice A k cap)) w:=by
 have hsz:=elem_size (w:=w) he;have ha:∀ m,(if cap=0 then A else A.map (·.add (0 * m)))=A:=λm=>by cases A <;> simp [Addr.add]
 have hel:P.elem t=e:=by simp [Program.elem,ht]
 have ht':P.underlying t=some (.slice (P.elem t)):=by rw [hel]; exact ht
 have h1:((k:Nat):Int) <= (cap:Int):=by omega
 unfold execOp;simp only [ho,hx,hy,Bv,Option.map_none];rw [show (Instr.sliceAt t (.slice A n cap) none (some (Vi ((k:Nat):Int))) none)=Instr.sliceAt t (.slice A n cap) none (some (Vi ((k:Nat):Int))) none from rfl];simp [Sem.run_bind,run_sliceAt_slice w t _ _ _ _ ht',run_slice_h w t A n cap ht' .i64 ((k:Nat):Int) (by omega) h1,hel,hsz,sliced]
 cases A <;> simp [Addr.add]
theorem run_lo {o:Oper} {ρ:Operand -> Value} {t e:TypeId} {x y:Operand} {A A':Option Addr} {n cap k kk:Nat} (ho:o.op=.slice t x (some y) none none) (hx:ρ x=.slice A n cap) (hy:ρ y=Vi ((k:Nat):Int)) (hk:k <= n) (ht:P.underlying t=some (.slice e)) (he:(P.info? e).map (·.size)=some kk)
  (hA:A'=if cap=k then A else A.map (·.add (k * kk))):(execOp ρ o).run P w=.ok (.value (.slice A' (n - k) (cap - k))) w:=by
 have hsz:=elem_size (w:=w) he;have hel:P.elem t=e:=by simp [Program.elem,ht]
 have ht':P.underlying t=some (.slice (P.elem t)):=by rw [hel]; exact ht
 have h1:((k:Nat):Int) <= (n:Int):=by omega
 unfold execOp;simp only [ho,hx,hy,Bv,Option.map_none];simp [Sem.run_bind,run_sliceAt_slice w t _ _ _ _ ht',run_slice_l w t A n cap ht' .i64 ((k:Nat):Int) (by omega) h1,hel,hsz,sliced,hA]
theorem x_purew (hK:K C E B F h a w) (d:Nat) (v:Value) (hk:mV C E (fX c0 p) n d=true) (hr:(execOp (evD E) (dX (fX c0 p) n)).run P w=.ok (.value v) w) (k:∀ a w,K C ((d,v) :: E) B F h a w -> Goal P c0 Q (.ops p (n + 1)) ks a w):Goal P c0 Q (.ops p n) ks a w:=by
 obtain ⟨o,rest,hl,ho,hg,hd,hlt,hkn⟩:=nV hk;have hrr:=kK hl;refine kJ hl (iQ hK.j.fits hg) (Vk rfl λKK hKK=>?_);unfold Oper.wp;rw [ho] at hr;have hr':(execOp (evD E) { o with guard:=none }).run P w=.ok (.value v) w:=by
  unfold execOp at hr ⊢;exact hr
 rw [kY (o:={ o with guard:=none }) hK.j.fits hkn,hr'];refine hKK _ _ ?_;rw [hrr];exact k _ _ ⟨hK.j.putd _ hd hlt,hK.f⟩
theorem run_text {o:Oper} {ρ:Operand -> Value} {src dst e:TypeId} {x:Operand} {b m cap:Nat} {l:List UInt8} (ho:o.op=.convert src dst x) (hx:ρ x=.slice (some ⟨b,0,none⟩) m cap) (hm:m=l.length) (hs:P.underlying src=some (.slice e)) (he:P.underlying e=some (.int .u8)) (hd:P.underlying dst=some .string)
  (hc:Cells h b 0 (l.map λc=>.int .u8 (c.toNat:Int))) (s:Sees h ⟨w,blk B++C.bad0⟩):(execOp ρ o).run P w=.ok (.value (Vt ⟨l.toArray⟩)) w:=by
 have hc':=(hc.sees s).lies;subst hm;unfold execOp;simp only [ho,hx,Kk];rw [run_convert_bytes_back w src dst e ⟨b,0,none⟩ cap l hs he hd (λj hj=>by
  have:=hc' j (.int .u8 (l[j].toNat:Int)) (by rw [Oj,Gj hj]; rfl)
  rw [show ((⟨b,0,none⟩:Addr).add j)=⟨b,0 + j,none⟩ from by unfold Addr.add; split <;> simp_all]; exact this)]
 simp [Sem.run_pure]
end
section
variable {P:Program} {Q:Exit -> Act -> World -> Prop} {R:Reg} {ops:Array Oper} {i:Nat}
theorem r_loadfx (hT:dK R=true) (hA:cK R ops=true) (d:Nat) (f:Gh -> Value) (dp:List Nat) (p:Nat) (hp:R.T[p]?=some (i,d,f)) (ho:only R i none=true) (hF:(R.F.all λt=>t.1 != i)=true) (hk:∀ x,okR R ops i d dp x=true)
  (j:Nat) (q:Nat × (Gh -> Vw -> Prop)) (hq:R.F[j]?=some q) (hqa:(R.an i).contains q.1=true) (b o0:Gh -> Nat) (cs:Gh -> List Value) (fo:Nat) (hc:∀ x H,q.2 x H -> Cells H (b x) (o0 x) (cs x))
  (t:TypeId) (y:Operand) (hop:(dX ops i).op=.load t y) (hy:∀ x,evE (rdE R i dp x) y=some (.pointer (some ⟨b x,o0 x + fo,none⟩))) (hv:∀ x,dW P t (cs x) fo=some (f x)):StepAt' P ops Q R i:=by
 refine .mk λo D x h a w hio hn hd I=>?_;obtain ⟨h1,h2,h3,h4⟩:=vW hio (hk x);have hcell:=(hc x h (I.facts q (Ej hq) (rJ hA hio I hd _ (by simpa using hqa)))).sees I.mem.sees;have hld:=lY (P:=P) (off:=fo) hcell.lies (hv x);refine vZ hio (jQ hio (xX hio h1 I hd hn) h2) (v:=f x) (w':=w) ?_ ⟨x,h,?_⟩
 ·rw [eX hio] at hop;unfold execOp;simp only [hop,(xX hio h1 I hd hn).ev (hy x),Kk,Wk,Hq,hld]
 ·rw [h3];refine I.next hio hT hA hn hd ?_ (Sees.refl _) (λ_ _ _=>rfl) (.inl ⟨d,f,Ej hp,rfl⟩) (λq hq hD=>I.facts q hq (hD.resolve_left λe=>?_))
  ·rw [zW ho]; exact I.mem.putN _ _
  ·have:=Sj.1 hF q hq
   simp [e] at this
theorem r_callq (hT:dK R=true) (hA:cK R ops=true) (hmono:∀ q∈R.F,∀ x h h',Sees h h' -> q.2 x h -> q.2 x h') (d:Nat) (f:Gh -> Value) (dp:List Nat) (p:Nat) (hp:R.T[p]?=some (i,d,f)) (ho:only R i none=true) (hF:(R.F.all λt=>t.1 != i)=true) (hk:∀ x,okR R ops i d dp x=true)
  (e2:Nat) (g2:Gent) (hg2:R.G[e2]?=some g2) (hs2:sync R i g2=true) (v2:Gh -> Value) (t2:TypeId) (kk:Nat) (l2:List (List Value)) (hc2:∀ x,iK (R.an i) x g2=some (.row (v2 x) t2 kk l2))
  (k:FuncId) (args:Gh -> Array Value) (hr:∀ x w,(execOp (evD (rdE R i dp x)) (dX ops i)).run P w=.ok (.enter k (args x)) w)
  (hc:∀ x H,H.bad=[] -> Sees R.h H -> (∀ (j:Nat) (q:Nat × (Gh -> Vw -> Prop)),R.F[j]?=some q -> (R.an i).contains q.1=true -> q.2 x H) -> RS H kk (v2 x) l2 -> C0 P k (args x) H (λv _=>v=f x)):StepAt' P ops Q R i:=by
 refine .mk λo D x h a w hio hn hd I=>?_;obtain ⟨h1,h2,h3,h4⟩:=vW hio (hk x);have han:=rJ hA hio I hd;have hcur2:=(jK (x':=x) I hn han hs2).trans (hc2 x);have hm2:Ent.row (v2 x) t2 kk l2∈BD R.G D x:=by rw [nJ hg2,hcur2]; simp
 obtain ⟨j2,hj2⟩:=Fv.1 hm2;have sQ:Sees h ⟨w,[]⟩:=I.mem.seesQ;have hcc:=hc x ⟨w,[]⟩ rfl (I.sees.trans sQ) (λj q hq hc=>hmono q (Ej hq) x _ _ sQ (I.facts q (Ej hq) (han _ (by simpa using hc)))) (I.mem.rowQ j2 hj2);refine wpOp_call hio (jQ hio (xX hio h1 I hd hn) h2) (by rw [kY (xX hio h1 I hd hn) h4, <- eX hio]; exact hr x w) ((hcc (by intro y hy; cases hy) (by simp) (by simp) (by intro b hb; cases hb)).mono ?_);rintro e' w' ⟨v,Bo,rfl,hl,-,-,rfl⟩;obtain ⟨j,s⟩:=I.mem.called hl;refine ⟨f x,rfl,x,⟨w',blk (BD R.G D x)++R.C.bad0⟩,?_⟩;rw [h3];refine I.next hio hT hA hn hd ?_ s (λ_ _ _=>rfl) (.inl ⟨d,f,Ej hp,rfl⟩) (λq hq hD=>hmono q hq x _ _ s (I.facts q hq (hD.resolve_left λe=>?_)))
 ·rw [zW ho]; exact j.putN _ _
 ·have:=Sj.1 hF q hq
  simp [e] at this
theorem r_call1r (hT:dK R=true) (hA:cK R ops=true) (hmono:∀ q∈R.F,∀ x h h',Sees h h' -> q.2 x h -> q.2 x h') (hi:Ind R i) (d:Nat) (F:Value -> Value) (dp:List Nat) (p:Nat) (hp:R.T[p]?=some (i,d,λx=>F (x i))) (hk:∀ x,okR R ops i d dp x=true)
  (e:Nat) (g:Gent) (hg:R.G[e]?=some g) (ho:only R i (some e)=true) (hs:sync R i g=true) (b:Nat) (cs cs':Gh -> List Value) (hc0:∀ x,iK (R.an i) x g=some (.box b (cs x))) (hc1:∀ x,iK (i :: R.an i) x g=some (.box b (cs' x)))
  (e2:Nat) (g2:Gent) (hg2:R.G[e2]?=some g2) (hs2:sync R i g2=true) (v2:Value) (t2:TypeId) (kk:Nat) (l2:List (List Value)) (hc2:∀ x,iK (R.an i) x g2=some (.row v2 t2 kk l2))
  (k:FuncId) (args:Gh -> Array Value) (hr:∀ x w,(execOp (evD (rdE R i dp x)) (dX ops i)).run P w=.ok (.enter k (args x)) w)
  (hc:∀ x H,Sees R.h H -> (∀ (j:Nat) (q:Nat × (Gh -> Vw -> Prop)),R.F[j]?=some q -> (R.an i).contains q.1=true -> q.2 x H) -> RS ⟨H.w,[b]⟩ kk v2 l2 -> (∀ x∈[b],x∈H.bad) ->
   C1 P k (args x) H b (cs x) (λv c H'=>∃ u,v=F u /\ c=cs' (upd x i u) /\ ∀ (j:Nat) (q:Nat × (Gh -> Vw -> Prop)),R.F[j]?=some q -> q.1=i -> q.2 (upd x i u) H')):StepAt' P ops Q R i:=by
 refine .mk λo D x h a w hio hn hd I=>?_;have han:=rJ hA hio I hd;have hcur:=(jK (x':=x) I hn han hs).trans (hc0 x);have hcur2:=(jK (x':=x) I hn han hs2).trans (hc2 x);have hm1:Ent.box b (cs x)∈BD R.G D x:=by rw [nJ hg,hcur]; simp
 have hm2:Ent.row v2 t2 kk l2∈BD R.G D x:=by rw [nJ hg2,hcur2]; simp
 obtain ⟨j1,hj1⟩:=Fv.1 hm1;obtain ⟨j2,hj2⟩:=Fv.1 hm2;have hrow:=I.mem.rowLent j2 j1 hj2 hj1;have hbad:=I.mem.boxBad j1 hj1;obtain ⟨h1,h2,h3,h4⟩:=vW hio (hk x);have hB0:=nJ (D:=D) (x:=x) hg;rw [hcur] at hB0;have hB1:BD R.G D x=BD (R.G.take e) D x++.box b (cs x) :: BD (R.G.drop (e + 1)) D x:=by rw [hB0]; simp
 have hbm:b∈blk (BD R.G D x):=by rw [hB1]; exact Fk.2 ⟨.box b (cs x),by simp,by simp [Ent.blocks]⟩
 have hbi:(BD R.G D x)[(BD (R.G.take e) D x).length]?=some (.box b (cs x)):=by rw [hB1]; simp
 have hbx:Box w b (cs x):=I.mem.ents (.box b (cs x)) (Ej hbi);have hcc:=hc x ⟨w,blk (BD R.G D x)++R.C.bad0⟩ (I.sees.trans I.mem.sees) (λj q hq hc=>hmono q (Ej hq) x _ _ I.mem.sees (I.facts q (Ej hq) (han _ (by simpa using hc)))) hrow hbad;refine wpOp_call hio (jQ hio (xX hio h1 I hd hn) h2) (by rw [kY (xX hio h1 I hd hn) h4, <- eX hio]; exact hr x w) ((hcc (by intro y hy; simp at hy; subst hy; exact hbx) (by simp) (by simp [hbm]) (bad_lt I.mem)).mono ?_);rintro e' w' ⟨v,Bo,rfl,hl,hbo,hbn,c,hcs,u,rfl,rfl,hv⟩;have hBo:Bo=[(b,cs' (upd x i u))]:=by
  match Bo,hbn,hcs with
  | [y],hbn,hcs=>simp at hbn hcs; obtain ⟨y1,y2⟩:=y; simp at hbn hcs; rw [hbn,hcs]
  | [],hbn,_=>simp at hbn
  | _ :: _ :: _,hbn,_=>simp at hbn
 subst hBo;obtain ⟨j,s⟩:=I.mem.called1 (cs':=cs' (upd x i u)) hbi (by simpa using hl) (hbo _ (Pj.2 rfl));refine ⟨F u,rfl,upd x i u,⟨w',blk (BD R.G D x)++R.C.bad0⟩,?_⟩;rw [h3];have hself:upd x i u i=u:=by simp [upd]
 refine I.next hio hT hA hn hd ?_ s (hi.at_t I hn u) (.inl ⟨d,_,Ej hp,by simp only [hself]⟩) (tK hi hmono I hn u s hv);rw [aX ho hg,at_next I hn han hs,hc1,hi.at_g I hn u _ mem_take,hi.at_g I hn u _ mem_drop];have hset:(BD R.G D x).set (BD (R.G.take e) D x).length (.box b (cs' (upd x i u)))=BD (R.G.take e) D x++.box b (cs' (upd x i u)) :: BD (R.G.drop (e + 1)) D x:=by
  rw [hB1]; simp
 rw [hset] at j
 have:=j.putN d (F u)
 simpa using this
end
theorem Sl.of_rs {h:Vw} {k:Nat} {v:Value} {l:List (List Value)} (r:RS h k v l):Sl h.w k v l:=by
 rcases r with r | ⟨b,off,cap,e,h1,h2,hb,hn,hc⟩
 ·exact .inl r
 ·exact .inr ⟨b,off,cap,e,h1,h2,hb,λi r hi j u hj=>hc i r hi j u hj⟩
theorem C0.of_e {P:Program} {f:FuncId} {args:Array Value} {v:Value} {h:Vw} (hc:Calls P f args h.w (GivesE v h.w)):C0 P f args h (λr _=>r=v):=by
 intro _ _ _ _;refine hc.mono ?_;rintro e w' ⟨rfl,hb⟩;exact ⟨_,[],rfl,Low.of_below hb.below,(λx hx=>by cases hx),rfl,rfl⟩
theorem own_ent {w:World} {base:Nat} {e:TypeId} {k:Nat} {v:Value} {l:List (List Value)} (h:Own w base e k v l.length l.flatten) (hk:Len k l):Ent.ok base w (.row v e k l):=⟨h.own,hk⟩
theorem CRow.of_own {P:Program} {f:FuncId} {args:Array Value} {e:TypeId} {k:Nat} {l:List (List Value)} {h:Vw} (hk:Len k l) (hc:Calls P f args h.w (oJ e k l h.w)):CRow P f args h e k (λ_ rows=>rows=l):=by
 intro _ _ _ _;refine hc.mono ?_;rintro en w' ⟨v,rfl,ho,hb⟩;exact ⟨_,[],rfl,Low.of_below hb.below,(λx hx=>by cases hx),rfl,l,own_ent ho hk,rfl⟩
theorem rs_of_own {w:World} {base:Nat} {e:TypeId} {k:Nat} {v:Value} {l:List (List Value)} {bad:List Nat} (h:Own w base e k v l.length l.flatten) (hk:Len k l) (hb:∀ b∈bad,b < base):RS ⟨w,bad⟩ k v l :=
 row_rs (own_ent h hk) λb hb' hm=>by have:=(h.own.lt b hb').1; have:=hb b hm; omega
theorem C0.of_own {P:Program} {f:FuncId} {args:Array Value} {e:TypeId} {k:Nat} {l:List (List Value)} {h:Vw} (hk:Len k l) (hc:Calls P f args h.w (oJ e k l h.w)):C0 P f args h (λv h'=>∃ u,v=sL u /\ RS h' k (sL u) l):=by
 intro _ _ _ hbad;refine hc.mono ?_;rintro en w' ⟨v,rfl,ho,hb⟩;have hr:=rs_of_own (bad:=h.bad) ho hk hbad;obtain ⟨A,c,rfl,-⟩:=hr.form;exact ⟨_,[],rfl,Low.of_below hb.below,(λx hx=>by cases hx),rfl,.slice A l.length c,rfl,hr⟩
section
variable {P:Program} {Q:Exit -> Act -> World -> Prop} {R:Reg} {ops:Array Oper} {i:Nat}
theorem r_callown (hT:dK R=true) (hA:cK R ops=true) (hmono:∀ q∈R.F,∀ x h h',Sees h h' -> q.2 x h -> q.2 x h') (hi:Ind R i) (hF:(R.F.all λt=>t.1 != i)=true) (d:Nat) (F:Value -> Value) (dp:List Nat) (p:Nat) (hp:R.T[p]?=some (i,d,λx=>F (x i))) (hk:∀ x,okR R ops i d dp x=true)
  (e:Nat) (g:Gent) (hg:R.G[e]?=some g) (ho:only R i (some e)=true) (hs:sync R i g=true) (te:TypeId) (kk:Nat) (l:Gh -> List (List Value)) (hc0:∀ x,iK (R.an i) x g=none) (hc1:∀ x,iK (i :: R.an i) x g=some (.row (F (x i)) te kk (l x))) (hl:∀ x v,l (upd x i v)=l x)
  (k:FuncId) (args:Gh -> Array Value) (hr:∀ x w,(execOp (evD (rdE R i dp x)) (dX ops i)).run P w=.ok (.enter k (args x)) w)
  (hc:∀ x H,Sees R.h H -> (∀ (j:Nat) (q:Nat × (Gh -> Vw -> Prop)),R.F[j]?=some q -> (R.an i).contains q.1=true -> q.2 x H) -> CRow P k (args x) H te kk (λv rows=>(∃ u,v=F u) /\ rows=l x)):StepAt' P ops Q R i:=by
 refine .mk λo D x h a w hio hn hd I=>?_;obtain ⟨h1,h2,h3,h4⟩:=vW hio (hk x);have han:=rJ hA hio I hd;have hcc:=hc x ⟨w,blk (BD R.G D x)++R.C.bad0⟩ (I.sees.trans I.mem.sees) (λj q hq hc=>hmono q (Ej hq) x _ _ I.mem.sees (I.facts q (Ej hq) (han _ (by simpa using hc))));refine wpOp_call hio (jQ hio (xX hio h1 I hd hn) h2) (by rw [kY (xX hio h1 I hd hn) h4, <- eX hio]; exact hr x w) ((hcc (by intro x hx; cases hx) (by simp) (by simp) (bad_lt I.mem)).mono ?_);rintro en w' ⟨v,Bo,rfl,hlo,-,-,lr,hok,⟨u,rfl⟩,rfl⟩;have j1:=I.mem.addRow hlo hok;have s1:=j1.sees;refine ⟨F u,rfl,upd x i u,⟨w',blk (.row (F u) te kk (l x) :: BD R.G D x)++R.C.bad0⟩,?_⟩;rw [h3];have hself:upd x i u i=u:=by simp [upd]
 have hcur:=(jK (x':=x) I hn han hs).trans (hc0 x);have hcur1:cur (λj=>j=i\/D j) (upd x i u) g=some (.row (F u) te kk (l x)):=by
  rw [at_next I hn han hs,hc1,hself,hl]
 have hBD:BD R.G D x=BD (R.G.take e) D x++BD (R.G.drop (e + 1)) D x:=by rw [nJ hg,hcur]; simp
 have hmem:J R.C [] (BD R.G (λj=>j=i\/D j) (upd x i u)) ⟨w',blk (.row (F u) te kk (l x) :: BD R.G D x)++R.C.bad0⟩ a w':=by
  refine j1.now.perm ?_;rw [aX ho hg,hcur1,hi.at_g I hn _ _ mem_take,hi.at_g I hn _ _ mem_drop,hBD];simp only [Xw,Lq,Uw];exact List.perm_middle.symm
 refine I.next hio hT hA hn hd (hmem.putN _ _) s1 (hi.at_t I hn _) (.inl ⟨d,_,Ej hp,by simp only [hself]⟩) (tK hi hmono I hn _ s1 (λj q hq he=>?_))
 have:=Sj.1 hF q (Ej hq)
 simp [he] at this
theorem r_rowset (hT:dK R=true) (hA:cK R ops=true) (dp:List Nat) (hp:(R.T.all λt=>t.1 != i)=true) (hF:(R.F.all λt=>t.1 != i)=true) (hk:∀ x,(chkD R ops i dp && gOk R ops i dp x true && (dX ops i).dst.isNone)=true)
  (e:Nat) (ge:Gent) (hg:R.G[e]?=some ge) (ho:only R i (some e)=true) (hs:sync R i ge=true) (kx fo:Nat) {g m cap kk:Nat} {te:TypeId} {l:List (List Value)} {r:List Value} (v:Gh -> Value) (hc0:∀ x,iK (R.an i) x ge=some (.row (.slice (some ⟨g,0,none⟩) m cap) te kk l)) (hc1:∀ x,iK (i :: R.an i) x ge=some (.row (.slice (some ⟨g,0,none⟩) m cap) te kk (l.set kx (uX r fo (v x).cells.toList))))
  (t:TypeId) (y z:Operand) (hop:(dX ops i).op=.store t y z) (hy:∀ x,evE (rdE R i dp x) y=some (.pointer (some ⟨g,0 + kx * kk + fo,none⟩))) (hz:∀ x,evE (rdE R i dp x) z=some (v x))
  (hr:l[kx]?=some r) (hv:∀ x,wY P t r fo (v x)=true):StepAt' P ops Q R i:=by
 refine .mk λo D x h a w hio hn hd I=>?_;have hk:=hk x;simp only [Uj] at hk;obtain ⟨⟨k1,k2⟩,k3⟩:=hk;rw [eX hio] at k3 hop;have k3:o.dst=none:=by simpa using k3
 have han:=rJ hA hio I hd;have hcur:=(jK (x':=x) I hn han hs).trans (hc0 x);have hf:=xX hio k1 I hd hn;have hB0:=nJ (D:=D) (x:=x) hg;rw [hcur] at hB0;have hB1:BD R.G D x=BD (R.G.take e) D x++.row (.slice (some ⟨g,0,none⟩) m cap) te kk l :: BD (R.G.drop (e + 1)) D x:=by rw [hB0]; simp
 have hB:(BD R.G D x)[(BD (R.G.take e) D x).length]?=some (.row (.slice (some ⟨g,0,none⟩) m cap) te kk l):=by rw [hB1]; simp
 have hok:=I.mem.ents _ (Ej hB);obtain ⟨h1,h2⟩:Ent.ok _ w (.row (.slice (some ⟨g,0,none⟩) m cap) te kk l):=hok;have hm:m=l.length:=by
  obtain ⟨A,c,e',-⟩:=gY (I.mem.ents _ (Ej hB));simp only [Tk] at e';exact e'.2.1
 subst hm;obtain ⟨v1,v2⟩:=storesOk_row h2 hr (hv x);have hst:=run_store_at (P:=P) (row_box h1) v1;rw [show kx * kk + fo=0 + kx * kk + fo by omega] at hst;have hrl:=h2 r (Ej hr);have hfl:=flat_len2 l h2;have hlt:=(Nj.1 hr).1;have hle:(kx + 1) * kk <= l.length * kk:=Rv _ hlt;rw [Nat.add_mul] at hle;obtain ⟨h3,h4⟩:=iY (v x).cells.toList (0 + kx * kk + fo) l.flatten w h1 (by omega);rw [show 0 + kx * kk + fo=kx * kk + fo by omega,flat_put2 (v x).cells.toList fo l kx r h2 hr v2] at h3;refine wpOp_skip hio (jQ hio hf k2) (w':=w.setCells g (0 + kx * kk + fo) (v x).cells.toList) ?_ ⟨x,h,?_⟩
 ·unfold execOp;simp only [hop,hf.ev (hy x),hf.ev (hz x),Kk,Wk,Hq,hst]
 ·have hput:a.put o.dst undef=a:=by rw [k3]; rfl
  rw [hput];have hcur1:=(at_next I hn han hs x).trans (hc1 x);refine I.next hio hT hA hn hd ?_ (Sees.refl _) (λ_ _ _=>rfl) (.inr ⟨λhm=>?_,rfl⟩) (λq hq hD=>I.facts q hq (hD.resolve_left λe=>?_))
  ·rw [aX ho hg,hcur1];have j:=I.mem.setRow (l':=l.set kx (uX r fo (v x).cells.toList)) hB h4 (tY _ _ _ _) ⟨by
    rw [Qq];rw [show kx * kk + fo=0 + kx * kk + fo by omega] at h3;exact h3,λq hq=>by
    rcases List.mem_or_eq_of_mem_set hq with hq | rfl
    ·exact h2 q hq
    ·rw [put_len2 r _ fo (by omega)]; exact hrl⟩
   rw [hB1] at j
   simpa using j
  ·obtain ⟨q,hq,e⟩:=Rj.1 hm
   have:=Sj.1 hp q hq
   simp [e] at this
  ·have:=Sj.1 hF q hq
   simp [e] at this
end
section
variable {P:Program} {Q:Exit -> Act -> World -> Prop} {R:Reg} {ops:Array Oper} {i:Nat}
end
section
variable {P:Program} {c0:Code} {Q:Exit -> Act -> World -> Prop} {a:Act} {w:World} {p:List Nat} {ks:List Kt}
end
section
variable {P:Program} {C:Fx} {E:List (Nat × Value)} {B:List Ent} {F:List Fac} {h:Vw} {a:Act} {w:World} {c0:Code} {Q:Exit -> Act -> World -> Prop} {p:List Nat} {n:Nat} {ks:List Kt}
theorem flat_one (z:Value) (n:Nat):(List.replicate n [z]).flatten=List.replicate n z:=by
 induction n with
 | zero=>rfl
 | succ n ih=>rw [List.replicate_succ,Cv,ih,List.replicate_succ]; rfl
theorem x_make1 (hK:K C E B F h a w) (d:Nat) {t e:TypeId} {z:Value} {x:Operand} {by_ m:Nat} (hk:mV C E (fX c0 p) n d=true) (hm:(dX (fX c0 p) n).op=.makeSlice t x x) (hx:evE E x=some (Vi (m:Int)))
  (ht:P.underlying t=some (.slice e)) (hi:(P.info? e).map (λi=>(i.zero,i.size,i.bytes))=some (some z,1,by_)) (hz:z.cells=#[z]) (hc:m <= 1000000) (hb:by_ * m <= 281474976710656) (h63:m <= maxLen)
  (k:∀ b a w,K C ((d,.slice (some ⟨b,0,none⟩) m m) :: E) (.row (.slice (some ⟨b,0,none⟩) m m) e 1 (List.replicate m [z]) :: B) F h a w -> Goal P c0 Q (.ops p (n + 1)) ks a w):Goal P c0 Q (.ops p n) ks a w:=by
 obtain ⟨o,r,hl,ho,hg,hd,hlt,hkn⟩:=nV hk;rw [ho] at hm;have hr:=kK hl
 cases hI:P.info? e with
 | none=>rw [hI] at hi; cases hi
 | some i =>
  rw [hI] at hi;simp only [Bv,Yj,Kq] at hi;obtain ⟨i1,i2,i3⟩:=hi;refine kJ hl (iQ hK.j.fits hg) (Vk rfl λKK hKK=>?_);unfold Oper.wp;rw [kY (o:={ o with guard:=none }) hK.j.fits hkn];have hD:evD E x=Vi (m:Int):=by
   have:=ev_of (E:=E) (x:=x) (by rw [hx]; rfl)
   rw [hx] at this;exact (Dk this).symm
  obtain ⟨w',h1,h2,h3⟩:=run_makeSlice_full (P:=P) (w:=w) w.heap.size t e i z 1 ht hI i1 i2 .i64 .i64 m (by omega) (by rw [i3]; exact hb) h63 (Hj _);have hrun:(execOp (evD E) { o with guard:=none }).run P w=.ok (.value (.slice (some ⟨w.heap.size,0,none⟩) m m)) w':=by
   unfold execOp;simp only [hm,hD];simp [h1,Result.andThen]
  rw [hrun];refine hKK _ _ ?_;rw [hr];rw [hz,Nat.mul_one,toList_madeCells_one] at h2;refine k w.heap.size _ _ ⟨(hK.j.addRow ⟨h3.os,h3.tape,h3.output,h3.size,λq hq _=>h3.block q hq (by simp)⟩ ⟨?_,λq hq=>?_⟩).putd _ hd hlt,hK.f⟩
  ·rw [Sv,flat_one]; exact h2
  ·rw [(List.mem_replicate.1 hq).2]; rfl
theorem made_flat (cs:List Value) (h0:0 < cs.length) (n:Nat):(madeCells cs.toArray (n * cs.length)).toList=(List.replicate n cs).flatten:=by
 induction n with
 | zero=>simp [madeCells]
 | succ n ih =>
  rw [List.replicate_succ',List.flatten_append, <- ih];unfold madeCells;rw [Uq];simp only [Array.toList_map,Array.toList_range,List.range_add,Mk,Jv,Cv,List.flatten_nil,Lw,Rq]
  congr 1
  refine Vq λi=>?_;rw [Oj];rcases Iv i cs.length with h | h
  ·rw [List.getElem?_range h];simp [Nat.mod_eq_of_lt h,h]
  ·rw [Gv (by simpa using h),Gv h]; rfl
end
end Go.Proofs.YthgcgciceejicaaGreatDoor
