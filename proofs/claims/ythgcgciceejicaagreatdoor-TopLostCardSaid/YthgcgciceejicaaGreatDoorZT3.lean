/-
  A walk by certificates: the frame as a list of slots that are known, the memory of the call's own as a list of blocks, all else through views that only grow. Over any program. A walk by certificates: the steps of plain regions, control, the ends. A walk by certificates: regions that draw their order. What an operation gives is told once, as a function of what the calls and the allocations gave; it holds in whatever order. A walk by certificates, many steps at once: where a walk stands, a run that the kernel reckons; regions that draw their order; maps.
-/
import Derived.Test.YthgcgciceejicaaGreatDoorZT2
import Derived.Deep.MidRow
import Derived.Deep.Upon
import Derived.Carry
namespace Go.Proofs.YthgcgciceejicaaGreatDoor
open Go.RowKit
abbrev Vi (n:Int):Value:=.int .i64 n
abbrev Vp (b:Nat):Value:=.pointer (some ⟨b,0,none⟩)
abbrev Vs (b n c:Nat):Value:=.slice (some ⟨b,0,none⟩) n c
abbrev Ve:Value:=.string ⟨#[]⟩
abbrev Vz:Value:=.slice none 0 0
structure Vw where
 w:World
 bad:List Nat
structure Sees (h h':Vw):Prop where
 size:h.w.heap.size<=h'.w.heap.size
 block:∀ b,b < h.w.heap.size->b ∉ h.bad->h'.w.heap[b]?=h.w.heap[b]?
 bad:∀ b,b∈h'.bad->b < h.w.heap.size->b∈h.bad
theorem Sees.refl (h:Vw):Sees h h:=⟨Hj _,λ_ _ _=>rfl,λ_ hb _=>hb⟩
theorem Sees.trans {h h' h'' : Vw} (s : Sees h h') (t : Sees h' h'') : Sees h h'' :=
  ⟨Yk s.size t.size, λb hb hn => (t.block b (Cq hb s.size) (λk => hn (s.bad b k hb))).trans (s.block b hb hn),
   λb hb hl => s.bad b (t.bad b hb (Cq hl s.size)) hl⟩
theorem Sees.less {h h':Vw} (s:Sees h h') {l:List Nat} (hl:∀ b∈l,b∈h'.bad):Sees h ⟨h'.w,l⟩ :=
 ⟨s.size,s.block,λb hb hlt=>s.bad b (hl b hb) hlt⟩
structure Cells (h:Vw) (b o:Nat) (cs:List Value):Prop where
 lt:b < h.w.heap.size
 ok:b ∉ h.bad
 lies:h.w.rangeAt b o cs
theorem range_of_block {w w':World} {b o:Nat} {cs:List Value} (e:w'.heap[b]?=w.heap[b]?) (h:w.rangeAt b o cs):w'.rangeAt b o cs:=λj v hv =>
 (World.cell?_of_block (w:=w) (a:=⟨b,o + j,none⟩) e).trans (h j v hv)
theorem Cells.sees {h h':Vw} {b o:Nat} {cs:List Value} (c:Cells h b o cs) (s:Sees h h'):Cells h' b o cs :=
 ⟨Cq c.lt s.size,λk=>c.ok (s.bad b k c.lt),range_of_block (s.block b c.lt c.ok) c.lies⟩
def RS (h:Vw) (k:Nat) (v:Value) (l:List (List Value)):Prop :=
 (∃ A cap,v=.slice A 0 cap/\(A=none->cap=0)/\cap<=maxLen/\l=[])\/∃ b off cap,v=.slice (some ⟨b,off,none⟩) l.length cap/\l.length<=cap/\cap<=maxLen/\b < h.w.heap.size/\b ∉ h.bad /\
  ∀ i r,l[i]?=some r->h.w.rangeAt b (off + i * k) r
theorem RS.nil (h:Vw) (k:Nat):RS h k (.slice none 0 0) []:=.inl ⟨none,0,rfl,λ_=>rfl,Mj _,rfl⟩
theorem RS.sees {h h':Vw} {k:Nat} {v:Value} {l:List (List Value)} (r:RS h k v l) (s:Sees h h'):RS h' k v l:=by
 rcases r with r | ⟨b,off,cap,e,h1,h2,hb,hn,hc⟩
 ·exact .inl r
 ·exact .inr ⟨b,off,cap,e,h1,h2,Cq hb s.size,λq=>hn (s.bad b q hb),λi r hi=>range_of_block (s.block b hb hn) (hc i r hi)⟩
theorem RS.form {h:Vw} {k:Nat} {v:Value} {l:List (List Value)} (r:RS h k v l):∃ A cap,v=.slice A l.length cap/\l.length<=cap/\cap<=maxLen/\(A=none->cap=0):=by
 rcases r with ⟨A,cap,rfl,hA,hm,rfl⟩ | ⟨b,off,cap,e,h1,h2,hb,hc⟩
 ·exact ⟨A,cap,rfl,Mj _,hm,hA⟩
 ·exact ⟨_,cap,e,h1,h2,λk=>by cases k⟩
theorem RS.row {h:Vw} {k:Nat} {A:Option Addr} {n cap:Nat} {l:List (List Value)} (r:RS h k (.slice A n cap) l) {i:Nat} {x:List Value} (hi:l[i]?=some x) :
  ∃ b off,A=some ⟨b,off,none⟩/\n=l.length/\Cells h b (off + i * k) x:=by
 rcases r with ⟨_,_,_,_,_,rfl⟩ | ⟨b,off,cap',e,h1,h2,hb,hn,hc⟩
 ·simp at hi
 ·simp only [Tk] at e;obtain ⟨rfl,rfl,-⟩:=e;exact ⟨b,off,rfl,rfl,hb,hn,hc i x hi⟩
theorem RS.take {h:Vw} {k:Nat} {A:Option Addr} {n cap:Nat} {l:List (List Value)} (r:RS h k (.slice A n cap) l) (i:Nat) (hi:i<=l.length):RS h k (.slice A i cap) (l.take i):=by
 rcases r with ⟨A',cap',e,hA,hm,rfl⟩ | ⟨b,off,cap',e,h1,h2,hb,hn,hc⟩
 ·simp only [Tk] at e;obtain ⟨rfl,rfl,rfl⟩:=e
  have:i=0:=by simpa using hi
  subst this;exact .inl ⟨A,cap,rfl,hA,hm,rfl⟩
 ·simp only [Tk] at e;obtain ⟨rfl,rfl,rfl⟩:=e;have hl:(l.take i).length=i:=by rw [Ck]; omega
  refine .inr ⟨b,off,cap,by rw [hl],by omega,h2,hb,hn,λj r hj=>hc j r ?_⟩;rw [Gw] at hj
  split at hj
  ·exact hj
  ·cases hj
theorem RS.drop {h:Vw} {k:Nat} {A:Option Addr} {n cap:Nat} {l:List (List Value)} (r:RS h k (.slice A n cap) l) (i:Nat) (hi:i<=l.length) :
  RS h k (.slice (if cap=i then A else A.map (·.add (i * k))) (n - i) (cap - i)) (l.drop i):=by
 rcases r with ⟨A',cap',e,hA,hm,rfl⟩ | ⟨b,off,cap',e,h1,h2,hb,hn,hc⟩
 ·simp only [Tk] at e;obtain ⟨rfl,rfl,rfl⟩:=e
  have:i=0:=by simpa using hi
  subst this;refine .inl ⟨A,cap,?_,hA,hm,rfl⟩;have ha:A.map (·.add (0 * k))=A:=by cases A <;> simp [Addr.add]
  rw [ha]; simp
 ·simp only [Tk] at e;obtain ⟨rfl,rfl,rfl⟩:=e;have hl:(l.drop i).length=l.length - i:=List.length_drop;have h2':cap - i<=maxLen:=by omega
  by_cases hci:cap=i
  ·rw [Cj hci];refine .inr ⟨b,off,cap - i,by rw [hl],by omega,h2',hb,hn,λj r hj=>?_⟩;rw [Vv (by omega)] at hj;simp at hj
  ·rw [Bj hci];refine .inr ⟨b,off + i * k,cap - i,?_,by omega,h2',hb,hn,λj r hj=>?_⟩
   ·rw [hl];unfold Addr.add
    by_cases h0:i * k=0
    ·simp [h0]
    ·simp [h0]
   ·rw [Wv] at hj
    have:=hc (i + j) r hj
    rwa [show off + i * k + j * k=off + (i + j) * k by rw [Nat.add_mul]; omega]
inductive Ent where
 | box (b:Nat) (cs:List Value)
 | row (v:Value) (e:TypeId) (k:Nat) (l:List (List Value))
 | map (b:Nat) (es:List (Value × Value))
def ments (es:List (Value × Value)):List MapEntry:=es.zipIdx.map λp=>⟨p.1.1,p.1.2,p.2⟩
def iW (es:List (Value × Value)):Obj:=.map (ments es).toArray es.length
def Ent.blocks:Ent->List Nat
 | .box b _=>[b]
 | .row v _ _ _=>v.ownBlock.toList
 | .map b _=>[b]
def Ent.ok (base:Nat) (w:World):Ent->Prop
 | .box b cs=>Box w b cs
 | .row v e k l=>w.ownsRow base e k v l.length l.flatten/\∀ r∈l,r.length=k
 | .map b es=>w.heap[b]?=some (iW es)
def blk (B:List Ent):List Nat:=B.flatMap Ent.blocks
structure Low (m:List Nat) (w w':World):Prop where
 os:w'.os=w.os
 tape:w'.tape=w.tape
 output:w'.output=w.output
 size:w.heap.size<=w'.heap.size
 block:∀ k,k < w.heap.size->k ∉ m->w'.heap[k]?=w.heap[k]?
theorem Low.refl (m:List Nat) (w:World):Low m w w:=⟨rfl,rfl,rfl,Hj _,λ_ _ _=>rfl⟩
theorem Low.below {w w':World} (h:Low [] w w'):Below w.heap.size w w':=⟨h.os,h.tape,h.output,h.size,λk hk=>h.block k hk (by simp)⟩
theorem Low.of_below {w w':World} {m:List Nat} (h:Below w.heap.size w w'):Low m w w':=⟨h.os,h.tape,h.output,h.size,λk hk _=>h.block k hk⟩
def lookup:List (Nat × Value)->Nat->Option Value
 | [],_=>none
 | p :: E,d=>match Nat.beq p.1 d with
  | true=>some p.2
  | false=>lookup E d
def evE (E:List (Nat × Value)):Operand->Option Value
 | .tmp t=>lookup E t
 | .const v=>some v
 | .global g=>some (.pointer (some ⟨g,0,none⟩))
 | .func f=>some (.func (.func f) #[] #[])
def evD (E:List (Nat × Value)) (x:Operand):Value:=(evE E x).getD undef
def Fits (E:List (Nat × Value)) (a:Act):Prop:=∀ d v,lookup E d=some v->a.eval (.tmp d)=v
theorem Fits.ev {E:List (Nat × Value)} {a:Act} (h:Fits E a) {x:Operand} {v:Value} (hx:evE E x=some v):a.eval x=v:=by
 cases x with
 | tmp t=>exact h t v hx
 | const u=>simpa [evE,Act.eval] using hx
 | global g=>simpa [evE,Act.eval] using hx
 | func f=>simpa [evE,Act.eval] using hx
theorem Fits.put {E:List (Nat × Value)} {a:Act} (h:Fits E a) {d:Nat} (v:Value) (hd:d < a.tmps.size):Fits ((d,v) :: E) (a.put (some d) v):=by
 intro t u ht;simp only [lookup] at ht
 split at ht
 ·rename_i e;have e:=Zj e;simp only [Yj] at ht;subst ht e;exact qK hd
 ·rename_i e;have e:=Hx e;rw [pK e];exact h t u ht
theorem Fits.to {E E':List (Nat × Value)} {a:Act} (h:Fits E a) (hE:E'.map (λp=>lookup E p.1)=E'.map (λp=>some p.2)):Fits E' a:=by
 induction E' with
 | nil=>intro d v hv; simp [lookup] at hv
 | cons p E' ih =>
  rw [Ik,Ik,Qk] at hE;intro d v hv;simp only [lookup] at hv
  split at hv
  ·rename_i e;have e:=Zj e;simp only [Yj] at hv;subst hv e;exact h _ _ hE.1
  ·exact ih hE.2 d v hv
structure Fx where
 N:Nat
 w0:World
 bad0:List Nat
 wr:List Nat
 df:List Deferred
def Fx.base (C:Fx):Nat:=match C.wr with
 | []=>C.w0.heap.size
 | _=>0
theorem Fx.base_le (C:Fx):C.base<=C.w0.heap.size:=by
 unfold Fx.base
 split
 ·exact Hj _
 ·exact Mj _
structure J (C:Fx) (E:List (Nat × Value)) (B:List Ent) (h:Vw) (a:Act) (w:World):Prop where
 fits:Fits E a
 size:a.tmps.size=C.N
 defers:a.defers=C.df
 low:Low C.wr C.w0 w
 sees:Sees h ⟨w,blk B++C.bad0⟩
 ents:∀ e∈B,e.ok C.base w
 nodup:(blk B).Nodup
 own:∀ b∈blk B,C.w0.heap.size<=b\/b∈C.wr
 badlt:∀ b∈C.bad0,b < C.w0.heap.size
section
variable {C:Fx} {E E':List (Nat × Value)} {B B':List Ent} {h h':Vw} {a a':Act} {w w':World}
theorem J.base_le (hJ:J C E B h a w):C.base<=w.heap.size:=Yk C.base_le hJ.low.size
theorem blk_lt (hJ:J C E B h a w):∀ b∈blk B,b < w.heap.size:=by
 intro b hb;obtain ⟨e,he,hb⟩:=Fk.1 hb
 have:=hJ.ents e he
 cases e with
 | box g cs=>simp [Ent.blocks] at hb; subst hb; exact this.lt
 | row v t k l => 
  simp only [Ent.blocks,Option.mem_toList] at hb;exact (this.1.lt _ hb).2
 | map g es=>simp [Ent.blocks] at hb; subst hb; exact (Nk.1 this).1
theorem bad_lt (hJ:J C E B h a w):∀ b∈blk B++C.bad0,b < w.heap.size:=by
 intro b hb;rcases Qj.1 hb with k | k
 ·exact blk_lt hJ b k
 ·exact Cq (hJ.badlt b k) hJ.low.size
theorem J.out (hJ:J C E B h a w):Sees h ⟨w,C.bad0⟩:=hJ.sees.less λ_ hb=>Vj _ hb
theorem J.to (hJ:J C E B h a w) (hE:E'.map (λp=>lookup E p.1)=E'.map (λp=>some p.2)) (hB:B'=B):J C E' B' h a w:=by
 subst hB;exact ⟨hJ.fits.to hE,hJ.size,hJ.defers,hJ.low,hJ.sees,hJ.ents,hJ.nodup,hJ.own,hJ.badlt⟩
theorem J.put (hJ:J C E B h a w) {d:Nat} (v:Value) (hd:d < C.N):J C ((d,v) :: E) B h (a.put (some d) v) w :=
 ⟨hJ.fits.put v (by rw [hJ.size]; exact hd),by simpa [Act.put] using hJ.size,hJ.defers,hJ.low,hJ.sees,hJ.ents,hJ.nodup,hJ.own,hJ.badlt⟩
theorem J.now (hJ:J C E B h a w):J C E B ⟨w,blk B++C.bad0⟩ a w :=
 ⟨hJ.fits,hJ.size,hJ.defers,hJ.low,Sees.refl _,hJ.ents,hJ.nodup,hJ.own,hJ.badlt⟩
theorem J.lent (hJ:J C E B h a w) {m:List Nat} (hm:∀ b∈C.wr,b∈m):Sees ⟨C.w0,m⟩ ⟨w,blk B++m⟩:=by
 refine ⟨hJ.low.size,λb hb hn=>hJ.low.block b hb (λk=>hn (hm b k)),λb hb hlt=>?_⟩;rcases Qj.1 hb with k | k
 ·rcases hJ.own b k with g | g
  ·exact absurd hlt (by simp only; omega)
  ·exact hm b g
 ·exact k
theorem row_rs {base:Nat} {v:Value} {e:TypeId} {k:Nat} {l:List (List Value)} (hr:Ent.ok base w (.row v e k l)) {m:List Nat} (hm:∀ b,v.ownBlock=some b->b ∉ m):RS ⟨w,m⟩ k v l:=by
 obtain ⟨hw,hk⟩:=hr;rcases hw.2 with ⟨rfl,h0⟩ | ⟨g,cap,cur,rfl,hb,hg,hn,hm',hs,ht⟩
 ·have:l=[]:=Wq.1 h0
  subst this;exact .inl ⟨none,0,rfl,λ_=>rfl,Mj _,rfl⟩
 ·refine .inr ⟨g,0,cap,rfl,hn,hm',(Nk.1 hg).1,hm g rfl,λi r hi j u hj=>?_⟩;have hf:=flat_get l hk i r j u hi hj
  have:=hw.cells (g:=g) rfl (i * k + j) u hf
  rw [show ((⟨g,0,none⟩:Addr).add (i * k + j))=⟨g,0 + i * k + j,none⟩ from by unfold Addr.add; split <;> simp_all <;> omega] at this;exact this
theorem J.out0 (hJ:J C E B h a w) (i:Nat) {v:Value} {e:TypeId} {k:Nat} {l:List (List Value)} (hB:B[i]?=some (.row v e k l)) (hC:C.wr=[]):∀ b,v.ownBlock=some b->b ∉ C.bad0:=λb hb hbad=>by
 rcases hJ.own b (Fk.2 ⟨_,Ej hB,by simp [Ent.blocks,hb]⟩) with g | g
 ·have:=hJ.badlt b hbad; omega
 ·rw [hC] at g; cases g
theorem J.rowOut0 (hJ:J C E B h a w) (i:Nat) {v:Value} {e:TypeId} {k:Nat} {l:List (List Value)} (hB:B[i]?=some (.row v e k l)) (hC:C.wr=[]):RS ⟨w,C.bad0⟩ k v l:=row_rs (hJ.ents _ (Ej hB)) (hJ.out0 i hB hC)
theorem ent_apart {x y:Ent} {i j:Nat} (hnd:(blk B).Nodup) (hi:B[i]?=some x) (hj:B[j]?=some y) (hne:i≠j):∀ b∈x.blocks,b ∉ y.blocks:=by
 induction B generalizing i j with
 | nil=>simp at hi
 | cons z B ih =>
  simp only [blk,Dv,Dq] at hnd;obtain ⟨n1,n2,n3⟩:=hnd;intro b hb hb'
  cases i with
  | zero =>
   cases j with
   | zero=>exact hne rfl
   | succ j =>
    simp at hi hj;subst hi;exact n3 b hb b (Fk.2 ⟨y,Ej hj,hb'⟩) rfl
  | succ i =>
   cases j with
   | zero =>
    simp at hi hj;subst hj;exact n3 b hb' b (Fk.2 ⟨x,Ej hi,hb⟩) rfl
   | succ j=>exact ih n2 (by simpa using hi) (by simpa using hj) (by omega) b hb hb'
theorem J.out1 (hJ:J C E B h a w) (i j:Nat) {v:Value} {e:TypeId} {k g:Nat} {cs:List Value} {l:List (List Value)} (hB:B[i]?=some (.row v e k l)) (hj:B[j]?=some (.box g cs)) (hne:Nat.beq i j=false) (hC:C.wr=[g]):∀ b,v.ownBlock=some b->b ∉ C.bad0:=λb hb hbad=>by
 rcases hJ.own b (Fk.2 ⟨_,Ej hB,by simp [Ent.blocks,hb]⟩) with q | q
 ·have:=hJ.badlt b hbad; omega
 ·rw [hC,Pj] at q;subst q;exact ent_apart hJ.nodup hB hj (Hx hne) b (by simp [Ent.blocks,hb]) (by simp [Ent.blocks])
theorem J.rowOut1 (hJ:J C E B h a w) (i j:Nat) {v:Value} {e:TypeId} {k g:Nat} {cs:List Value} {l:List (List Value)} (hB:B[i]?=some (.row v e k l)) (hj:B[j]?=some (.box g cs)) (hne:Nat.beq i j=false) (hC:C.wr=[g]):RS ⟨w,C.bad0⟩ k v l:=row_rs (hJ.ents _ (Ej hB)) (hJ.out1 i j hB hj hne hC)
theorem gY {base:Nat} {v:Value} {e:TypeId} {k:Nat} {l:List (List Value)} (hr:Ent.ok base w (.row v e k l)):∃ A c,v=.slice A l.length c/\l.length<=c/\c<=maxLen:=by
 obtain ⟨hw,-⟩:=hr;rcases hw.2 with ⟨rfl,h0⟩ | ⟨g,cap,cur,rfl,-,-,hn,hm,-,-⟩
 ·exact ⟨none,0,by rw [h0],by omega,Mj _⟩
 ·exact ⟨_,cap,rfl,hn,hm⟩
theorem J.form (hJ:J C E B h a w) (i:Nat) {v:Value} {e:TypeId} {k:Nat} {l:List (List Value)} (hB:B[i]?=some (.row v e k l)):∃ A c,v=.slice A l.length c/\l.length<=c/\c<=maxLen:=gY (hJ.ents _ (Ej hB))
theorem sub_flat {α β:Type} {f:α->List β} {l m:List α} (h:l.Sublist m):(l.flatMap f).Sublist (m.flatMap f):=by
 induction h with
 | slnil=>exact List.Sublist.refl _
 | cons a _ ih=>rw [Dv]; exact ih.trans (List.sublist_append_right _ _)
 | cons_cons a _ ih=>rw [Dv,Dv]; exact (List.Sublist.refl _).append ih
theorem J.drop (hJ:J C E B h a w) (i:Nat):J C E (B.eraseIdx i) h a w:=by
 have hsub:∀ b∈blk (B.eraseIdx i),b∈blk B:=λb hb=>by
  obtain ⟨x,hx,hb⟩:=Fk.1 hb;exact Fk.2 ⟨x,Hw hx,hb⟩
 refine ⟨hJ.fits,hJ.size,hJ.defers,hJ.low,⟨hJ.sees.size,hJ.sees.block,λb hb hlt=>hJ.sees.bad b ?_ hlt⟩,λx hx=>hJ.ents x (Hw hx),?_,λb hb=>hJ.own b (hsub b hb),hJ.badlt⟩
 ·rcases Qj.1 hb with g | g
  ·exact Ek _ (hsub b g)
  ·exact Vj _ g
 ·have:(blk B).Nodup:=hJ.nodup
  unfold blk at this ⊢;exact this.sublist (sub_flat (List.eraseIdx_sublist _ _))
theorem J.frozen (hJ:J C E B h a w) (i:Nat) {v:Value} {e:TypeId} {k:Nat} {l:List (List Value)} (hB:B[i]?=some (.row v e k l)) (hout:∀ b,v.ownBlock=some b->b ∉ C.bad0):∃ h',Sees h h'/\RS h' k v l/\J C E (B.eraseIdx i) h' a w:=by
 have hm:=Ej hB;have hsub:∀ b∈blk (B.eraseIdx i),b∈blk B:=λb hb=>by
  obtain ⟨x,hx,hb⟩:=Fk.1 hb;exact Fk.2 ⟨x,Hw hx,hb⟩
 have hnd:∀ b,v.ownBlock=some b->b ∉ blk (B.eraseIdx i):=by
  intro b hb hin;obtain ⟨x,hx,hbx⟩:=Fk.1 hin;obtain ⟨j,hj⟩:=Bq hx;rw [List.getElem?_eraseIdx] at hj
  split at hj
  ·exact ent_apart hJ.nodup hB hj (by omega) b (by simp [Ent.blocks,hb]) hbx
  ·exact ent_apart hJ.nodup hB hj (by omega) b (by simp [Ent.blocks,hb]) hbx
 refine ⟨⟨w,blk (B.eraseIdx i)++C.bad0⟩,⟨hJ.sees.size,hJ.sees.block,λb hb hlt=>?_⟩,?_,hJ.fits,hJ.size,hJ.defers,hJ.low,Sees.refl _,λx hx=>hJ.ents x (Hw hx),?_,λb hb=>hJ.own b (hsub b hb),hJ.badlt⟩
 ·refine hJ.sees.bad b ?_ hlt;rcases Qj.1 hb with g | g
  ·exact Ek _ (hsub b g)
  ·exact Vj _ g
 ·refine row_rs (hJ.ents _ hm) λb hb hin=>?_;rcases Qj.1 hin with g | g
  ·exact hnd b hb g
  ·exact hout b hb g
 ·have:(blk B).Nodup:=hJ.nodup
  unfold blk at this ⊢;exact this.sublist (sub_flat (List.eraseIdx_sublist _ _))
theorem J.nilrow (hJ:J C E B h a w) (e:TypeId) (k:Nat):J C E (.row (.slice none 0 0) e k [] :: B) h a w:=by
 have hb:blk (.row (.slice none 0 0) e k [] :: B)=blk B:=by simp [blk,Ent.blocks,Value.ownBlock]
 refine ⟨hJ.fits,hJ.size,hJ.defers,hJ.low,by rw [hb]; exact hJ.sees,λe' he=>?_,by rw [hb]; exact hJ.nodup,by rw [hb]; exact hJ.own,hJ.badlt⟩;rcases Tj.1 he with rfl | he
 ·exact ⟨World.ownsRow_nil _ _ _ _,by simp⟩
 ·exact hJ.ents e' he
theorem ok_block {base:Nat} {e:Ent} (he:e.ok base w) (hs:w.heap.size<=w'.heap.size) (hb:∀ b∈e.blocks,w'.heap[b]?=w.heap[b]?):e.ok base w':=by
 cases e with
 | box b cs =>
  have hb:=hb b (by simp [Ent.blocks]);have he:Box w b cs:=he;exact ⟨Cq he.lt hs,λi v hv=>(World.cell?_of_block (w:=w) (a:=⟨b,i,none⟩) hb).trans (he.cells i v hv),λi=>(World.frozen?_of_block (w:=w) (a:=⟨b,i,none⟩) hb).trans (he.free i)⟩
 | row v t k l =>
  obtain ⟨⟨h1,h2⟩,h3⟩:=he;refine ⟨⟨h1,?_⟩,h3⟩;rcases h2 with h2 | ⟨g,cap,cur,rfl,hg,hh,r⟩
  ·exact .inl h2
  ·exact .inr ⟨g,cap,cur,rfl,hg,by rw [hb g (by simp [Ent.blocks,Value.ownBlock])]; exact hh,r⟩
 | map b es=>exact (hb b (by simp [Ent.blocks])).trans he
theorem J.grow (hJ:J C E B h a w) (hl:Low [] w w'):J C E B h a w':=by
 refine ⟨hJ.fits,hJ.size,hJ.defers,⟨hl.os.trans hJ.low.os,hl.tape.trans hJ.low.tape,hl.output.trans hJ.low.output,Yk hJ.low.size hl.size,λk hk hm=>(hl.block k (Cq hk hJ.low.size) (by simp)).trans (hJ.low.block k hk hm)⟩,
  ?_,λe he=>ok_block (hJ.ents e he) hl.size (λb hb=>hl.block b (blk_lt hJ b (Fk.2 ⟨e,he,hb⟩)) (by simp)),hJ.nodup,hJ.own,hJ.badlt⟩
 exact ⟨Yk hJ.sees.size hl.size,λb hb hn=>(hl.block b (Cq hb hJ.sees.size) (by simp)).trans (hJ.sees.block b hb hn),hJ.sees.bad⟩
theorem J.new (hJ:J C E B h a w) (cs:List Value) (t:TypeId):J C E (.box w.heap.size cs :: B) h a (w.alloc (.cells cs.toArray t)):=by
 have hl:Low [] w (w.alloc (.cells cs.toArray t)):=Low.of_below ((Wj _ _).alloc (Hj _) _);have hg:=hJ.grow hl;refine ⟨hJ.fits,hJ.size,hJ.defers,hg.low,⟨hg.sees.size,hg.sees.block,λb hb hlt=>?_⟩,λe he=>?_,?_,λb hb=>?_,hJ.badlt⟩
 ·have hs:=hJ.sees.size;rcases Tj.1 hb with rfl | hb
  ·exact absurd hlt (by simp only at hs; omega)
  ·exact hg.sees.bad b hb hlt
 ·rcases Tj.1 he with rfl | he
  ·have:=Box.new w cs.toArray t
   show Box _ _ _
   simpa using this
  ·exact hg.ents e he
 ·show (w.heap.size :: blk B).Nodup;refine Mq.2 ⟨λhm=>?_,hJ.nodup⟩
  have:=blk_lt hJ _ hm; omega
 ·rcases Tj.1 hb with rfl | hb
  ·exact .inl hJ.low.size
  ·exact hJ.own b hb
theorem J.fact (hJ:J C E B h a w) (cs:List Value) (t:TypeId):∃ h',Sees h h'/\Cells h' w.heap.size 0 cs/\J C E B h' a (w.alloc (.cells cs.toArray t)):=by
 have hl:Low [] w (w.alloc (.cells cs.toArray t)):=Low.of_below ((Wj _ _).alloc (Hj _) _);have hg:=hJ.grow hl;refine ⟨_,hg.sees,⟨by simp,λhb=>?_,λj v hv=>?_⟩,hg.now⟩
 ·have:=bad_lt hJ _ hb; omega
 ·have:=(Box.new w cs.toArray t).cells j v (by simpa using hv)
  simpa using this
theorem vJ (l m:List Ent):blk (l++m)=blk l++blk m:=by simp [blk]
theorem J.setE (hJ:J C E B h a w) {B1 B2:List Ent} {b:Nat} {x x':Ent} (hx:x.blocks=[b]) (hx':x'.blocks=[b]) (hB:B=B1++x :: B2) (hw:w'.os=w.os/\w'.tape=w.tape/\w'.output=w.output/\w'.heap.size=w.heap.size)
  (ho:∀ k,k≠b->w'.heap[k]?=w.heap[k]?) (hb:x'.ok C.base w'):J C E (B1++x' :: B2) h a w':=by
 have hbk:blk (B1++x' :: B2)=blk B:=by subst hB; simp [blk,hx,hx']
 have hbm:b∈blk B:=by subst hB; simp [blk,hx]
 have hnd:=hJ.nodup;obtain ⟨w1,w2,w3,w4⟩:=hw;refine ⟨hJ.fits,hJ.size,hJ.defers,⟨w1.trans hJ.low.os,w2.trans hJ.low.tape,w3.trans hJ.low.output,by rw [w4]; exact hJ.low.size,λk hk hm=>?_⟩,⟨by rw [w4]; exact hJ.sees.size,λk hk hn=>?_,by rw [hbk]; exact hJ.sees.bad⟩,λe he=>?_,by rw [hbk]; exact hJ.nodup,by rw [hbk]; exact hJ.own,hJ.badlt⟩
 ·rw [ho k (λe=>?_)]
  ·exact hJ.low.block k hk hm
  ·subst e;rcases hJ.own _ hbm with g | g
   ·omega
   ·exact hm g
 ·rw [ho k (λe=>?_)]
  ·exact hJ.sees.block k hk hn
  ·subst e;exact hn (hJ.sees.bad _ (Ek _ hbm) hk)
 ·have key:∀ e∈B1++B2,e.ok C.base w':=by
   intro e he;have heB:e∈B:=by
    subst hB;rcases Qj.1 he with g | g
    ·exact Ek _ g
    ·exact Vj _ (Gk _ g)
   refine ok_block (hJ.ents e heB) (by omega) (λk hk=>ho k (λek=>?_));rw [ek] at hk;subst hB;rw [vJ] at hnd;simp only [blk,Dv,hx] at hnd;rw [Dq] at hnd;obtain ⟨n1,n2,n3⟩:=hnd;rcases Qj.1 he with g | g
   ·exact n3 _ (Fk.2 ⟨e,g,hk⟩) _ (by simp) rfl
   ·rw [Uw,Mq] at n2;exact n2.1 (Fk.2 ⟨e,g,hk⟩)
  rcases Qj.1 he with g | g
  ·exact key e (Ek _ g)
  ·rcases Tj.1 g with rfl | g
   ·exact hb
   ·exact key e (Vj _ g)
theorem J.set (hJ:J C E B h a w) {B1 B2:List Ent} {b:Nat} {cs cs':List Value} (hB:B=B1++.box b cs :: B2) (hw:w'.os=w.os/\w'.tape=w.tape/\w'.output=w.output/\w'.heap.size=w.heap.size)
  (ho:∀ k,k≠b->w'.heap[k]?=w.heap[k]?) (hb:Box w' b cs'):J C E (B1++.box b cs' :: B2) h a w':=hJ.setE (x:=.box b cs) (x':=.box b cs') rfl rfl hB hw ho hb
end
def notSel:Op->Bool
 | .select _ _=>false
 | _=>true
def gX (E:List (Nat × Value)) (o:Oper):Bool:=notSel o.op && o.op.operands.toList.all (λx=>(evE E x).isSome)
def okOp (C:Fx) (E:List (Nat × Value)) (o:Oper) (d:Nat):Bool :=
 o.guard.isNone && (match o.dst with | some x=>Nat.beq x d | none=>false) && Nat.blt d C.N && gX E o
section
variable {P:Program} {C:Fx} {E E':List (Nat × Value)} {B B':List Ent} {h h':Vw} {a a':Act} {w w':World} {ops:Array Oper} {rest:List Oper} {o:Oper} {Q:Exit->Act->World->Prop} {K:Act->World->Prop}
theorem uW {d:Nat} (hk:okOp C E o d=true):o.guard=none/\o.dst=some d/\d < C.N/\gX E o=true:=by
 unfold okOp at hk;simp only [Uj] at hk;obtain ⟨⟨⟨h1,h2⟩,h3⟩,h4⟩:=hk;refine ⟨by simpa using h1,?_,by have:=Nq h3; omega,h4⟩
 split at h2
 ·rename_i x e;rw [e,Zj h2]
 ·cases h2
theorem J.putd (hJ:J C E B h a w) {d:Nat} (v:Value) (h2:o.dst=some d) (hd:d < C.N):J C ((d,v) :: E) B h (a.put o.dst v) w:=by
 rw [h2]; exact hJ.put v hd
theorem kY (hJ:Fits E a) (hk:gX E o=true):execOp a.eval o=execOp (evD E) o:=by
 unfold gX at hk;rw [Uj] at hk;refine execOp_congr o (λcs b e=>by rw [e] at hk; simp [notSel] at hk) (λx hx=>?_)
 have:=Sj.1 hk.2 x (by simpa using hx)
 obtain ⟨v,hv⟩:=Kx.1 this;rw [hJ.ev hv];simp [evD,hv]
theorem w_pure (hJ:J C E B h a w) {d:Nat} (v:Value) (hk:okOp C E o d=true) (hr:∀ w,(execOp (evD E) o).run P w=.ok (.value v) w) (k:∀ a,J C ((d,v) :: E) B h a w->K a w):o.wp P a w K Q:=by
 obtain ⟨-,h2,h3,h4⟩:=uW hk;unfold Oper.wp;rw [kY hJ.fits h4,hr];exact k _ (hJ.putd v h2 h3)
theorem s_pure (hJ:J C E B h a w) (d:Nat) (v:Value) (hk:okOp C E o d=true) (hr:∀ w,(execOp (evD E) o).run P w=.ok (.value v) w) (k:∀ a,J C ((d,v) :: E) B h a w->wpList P ops Q rest a w):wpList P ops Q (o :: rest) a w :=
 Vk (uW hk).1 λ_ hK=>w_pure hJ v hk hr λ_ hj=>hK _ _ (k _ hj)
theorem jJ {n:Int} (h0 : -9223372036854775808<=n) (h1:n<=9223372036854775807):Value.int .i64 (IntKind.i64.wrap n)=.int .i64 n:=by
 rw [IntWalk.i64_in n (by omega)]
theorem i64_wrap' {n:Int} (h0 : -9223372036854775808<=n:=by omega) (h1:n<=9223372036854775807:=by omega):Value.int .i64 (IntKind.i64.wrap n)=.int .i64 n:=jJ h0 h1
theorem run_eq {r:Result Next} {v0 v:Value} (h:r=.ok (.value v0) w) (e:v0=v):r=.ok (.value v) w:=by rw [h,e]
def notEq:BinOp->Bool
 | .eql | .neq=>false
 | _=>true
theorem run_guard {op:BinOp} (hne:notEq op=true) (t:TypeId) (x y:Operand) (va vb:Value) (w:World):(eqGuard op t x y va vb).run P w=.ok () w:=by
 unfold eqGuard
 cases op <;> first | rfl | cases hne
theorem run_bin {ρ:Operand->Value} {op:BinOp} {t yt:TypeId} {x y:Operand} {va vb v:Value} (ho:o.op=.binOp op t x y yt) (hx:ρ x=va) (hy:ρ y=vb) (hne:notEq op=true) (hr:(binOp op t va vb).run P w=.ok v w):(execOp ρ o).run P w=.ok (.value v) w:=by
 unfold execOp;simp only [ho,hx,hy,Kk,run_guard hne,Wk,Hq,hr]
theorem run_rem {t:TypeId} (a b:Int) (w:World) (ha:0<=a) (hb:0 < b):(binOp .rem t (.int .i64 a) (.int .i64 b)).run P w=.ok (.int .i64 (a % b)) w:=by
 have h0:¬ b=0:=by omega
 simp [binOp,Op.intDiv,h0,Int.tmod_eq_emod_of_nonneg ha]
theorem run_quo {t:TypeId} (a b:Int) (w:World) (ha:0<=a/\a<=9223372036854775807) (hb:0 < b):(binOp .quo t (.int .i64 a) (.int .i64 b)).run P w=.ok (.int .i64 (a / b)) w:=by
 have h0:¬ b=0:=by omega
 have:=IntWalk.i64_quo a b ⟨ha.1,ha.2,by omega⟩
 simp [binOp,Op.intDiv,h0,this]
theorem run_indexAddr {ρ:Operand->Value} {t e:TypeId} {x y:Operand} {b off n cap k kk:Nat} (ho:o.op=.indexAddr t x y) (hx:ρ x=.slice (some ⟨b,off,none⟩) n cap) (hy:ρ y=.int .i64 (k:Int)) (hk:k < n) (ht:P.underlying t=some (.slice e)) (he:(P.info? e).map (·.size)=some kk) :
  (execOp ρ o).run P w=.ok (.value (.pointer (some ⟨b,off + k * kk,none⟩))) w:=by
 have hsz:(sizeOf e).run P w=.ok kk w:=by
  cases hq:P.info? e with
  | none=>simp [hq] at he
  | some inf =>
   simp [hq] at he;simp [sizeOf,typeInfo,hq,he]
 have hlt2:¬ n<=k:=by omega
 unfold execOp;simp [ho,hx,hy,Instr.indexAt,asIntOf,run_underlying ht,hsz,Addr.add_mid,hlt2]
def dW (P:Program) (t:TypeId) (cs:List Value) (off:Nat):Option Value :=
 match P.underlying t,P.info? t with
 | some d,some i=>match d.isRow with
  | true=>match Nat.ble (off + i.size) cs.length with
   | true=>some (.agg ((cs.drop off).take i.size).toArray)
   | false=>none
  | false=>cs[off]?
 | _,_=>none
theorem lY {b o0 off:Nat} {t:TypeId} {cs:List Value} {v:Value} (hc:w.rangeAt b o0 cs) (hv:dW P t cs off=some v) :
  (Instr.loadAt t (.pointer (some ⟨b,o0 + off,none⟩))).run P w=.ok v w:=by
 unfold dW at hv
 split at hv
 ·rename_i d i hu hi
  split at hv
  ·rename_i hrow
   split at hv
   ·rename_i hle;simp only [Yj] at hv;subst hv;have hle:=Nq hle;refine run_loadAt_mid w b (o0 + off) t _ d (λj u hu=>?_) hu hrow (by rw [hi]; simp; omega);rw [Gw] at hu
    split at hu
    ·rw [Wv] at hu;rw [Xv];exact hc _ _ hu
    ·cases hu
   ·cases hv
  ·rename_i hrow;have hcell:=hc off v hv;have hagg:(isAgg t).run P w=.ok false w:=by
    unfold isAgg;rw [Kk,run_underlying hu w]
    cases d <;> simp_all
   simp [Instr.loadAt,Instr.sureAddr,loadVar,Sem.run_bind,hagg,load,Sem.run,hcell]
 ·cases hv
theorem box_range {b:Nat} {cs:List Value} (hb:Box w b cs):w.rangeAt b 0 cs:=λj v hv=>by rw [Gq]; exact hb.cells j v hv
theorem w_load {t:TypeId} {x:Operand} (hJ:J C E B h a w) {d:Nat} (v:Value) (hk:okOp C E o d=true) (ho:o.op=.load t x) {b off o0:Nat} (hx:evE E x=some (.pointer (some ⟨b,o0 + off,none⟩)))
  {cs:List Value} (hc:w.rangeAt b o0 cs) (hv:dW P t cs off=some v) (k:∀ a,J C ((d,v) :: E) B h a w->K a w):o.wp P a w K Q:=by
 obtain ⟨-,h2,h3,h4⟩:=uW hk;unfold Oper.wp execOp;simp only [ho,hJ.fits.ev hx,Kk,Wk,Hq,lY hc hv];exact k _ (hJ.putd v h2 h3)
theorem s_load {t:TypeId} {x:Operand} (hJ:J C E B h a w) (d:Nat) (v:Value) (i:Nat) {b off:Nat} {cs:List Value} (hk:okOp C E o d=true) (ho:o.op=.load t x) (hB:B[i]?=some (.box b cs)) (hx:evE E x=some (.pointer (some ⟨b,off,none⟩)))
  (hv:dW P t cs off=some v) (k:∀ a,J C ((d,v) :: E) B h a w->wpList P ops Q rest a w):wpList P ops Q (o :: rest) a w :=
 Vk (uW hk).1 λ_ hK=>w_load hJ v hk ho (o0:=0) (off:=off) (by rw [Gq]; exact hx) (box_range (hJ.ents _ (Ej hB))) hv λ_ hj=>hK _ _ (k _ hj)
theorem s_loadf {t:TypeId} {x:Operand} (hJ:J C E B h a w) (d:Nat) (v:Value) {g:Vw} {b off o0:Nat} {cs:List Value} (hc:Cells g b o0 cs) (hs:Sees g h) (hk:okOp C E o d=true) (ho:o.op=.load t x) (hx:evE E x=some (.pointer (some ⟨b,o0 + off,none⟩)))
  (hv:dW P t cs off=some v) (k:∀ a,J C ((d,v) :: E) B h a w->wpList P ops Q rest a w):wpList P ops Q (o :: rest) a w :=
 Vk (uW hk).1 λ_ hK=>w_load hJ v hk ho (o0:=o0) (off:=off) hx (hc.sees (hs.trans hJ.sees)).lies hv λ_ hj=>hK _ _ (k _ hj)
def uX (cs:List Value) (off:Nat) (vs:List Value):List Value:=cs.take off++vs++cs.drop (off + vs.length)
def wY (P:Program) (t:TypeId) (cs:List Value) (off:Nat) (v:Value):Bool :=
 (match P.info? t with | some i=>Nat.beq v.cells.size i.size | none=>false) && Nat.ble (off + v.cells.size) cs.length && v.cells.toList.all (·.oneCell')
theorem box_setCells {b:Nat} {cs vs:List Value} {off:Nat} (hb:Box w b cs) (hl:off + vs.length<=cs.length):Box (w.setCells b off vs) b (uX cs off vs):=by
 have hs:∀ (vs:List Value) (o:Nat) (w:World),(w.setCells b o vs).heap.size=w.heap.size:=by
  intro vs
  induction vs with
  | nil=>intro o w; rfl
  | cons v r ih=>intro o w; show ((w.setCell ⟨b,o,none⟩ v).setCells b (o + 1) r).heap.size=_; rw [ih]; simp [World.setCell]
 refine ⟨by rw [hs]; exact hb.lt,λi v hv=>?_,λi=>by rw [World.frozen?_setCells]; exact hb.free i⟩;have htl:(cs.take off).length=off:=by rw [Ck]; omega
 unfold uX at hv;rw [Lq] at hv;rcases Iv i off with g | g
 ·rw [Sx (by omega),Gw,Cj g] at hv;rw [World.cell?_setCells_out b vs off w ⟨b,i,none⟩ (λ_ _=>.inl g)];exact hb.cells i v hv
 ·rw [Tw (by omega),htl] at hv;rcases Iv i (off + vs.length) with g' | g'
  ·rw [Sx (by omega)] at hv;have h0:∀ j,j < vs.length->(w.cell? ⟨b,off + j,none⟩).isSome=true:=λj hj=>by
    rw [hb.cells (off + j) _ (Gj (by omega))]; rfl
   have:=World.cell?_setCells_in b vs off w h0 (i - off) (by omega)
   rw [show off + (i - off)=i by omega] at this;rw [this,<- hv,Gj]
  ·rw [Tw (by omega),Wv] at hv;rw [World.cell?_setCells_out b vs off w ⟨b,i,none⟩ (λ_ _=>.inr g')];exact hb.cells i v (by rw [<- hv]; congr 1; omega)
theorem J.seti (hJ:J C E B h a w) {i b:Nat} {cs cs':List Value} (hB:B[i]?=some (.box b cs)) (hw:w'.os=w.os/\w'.tape=w.tape/\w'.output=w.output/\w'.heap.size=w.heap.size)
  (ho:∀ k,k≠b->w'.heap[k]?=w.heap[k]?) (hb:Box w' b cs'):J C E (B.set i (.box b cs')) h a w':=by
 have hi:=(Nj.1 hB).1;have e1:B=B.take i++.box b cs :: B.drop (i + 1):=by
  have:=Iw (l:=B) (i:=i) (a:=.box b cs)
  rw [Cj hi] at this;rw [<- this];refine (Vq λj=>?_);rw [Yv]
  split
  ·subst_vars; rw [hB]
  ·rfl
 have:=Iw (l:=B) (i:=i) (a:=.box b cs')
 rw [Cj hi] at this;rw [this];exact hJ.set e1 hw ho hb
theorem run_store_box {t:TypeId} {v:Value} {b off:Nat} {cs:List Value} (hb:Box w b cs) (hv:wY P t cs off v=true) :
  ∃ w',(Instr.storeAt t (.pointer (some ⟨b,off,none⟩)) v).run P w=.ok () w'/\(w'.os=w.os/\w'.tape=w.tape/\w'.output=w.output/\w'.heap.size=w.heap.size)/\(∀ k,k≠b->w'.heap[k]?=w.heap[k]?)/\Box w' b (uX cs off v.cells.toList):=by
 unfold wY at hv;simp only [Uj] at hv;obtain ⟨⟨h1,h2⟩,h3⟩:=hv;have h2:=Nq h2;have hl:off + v.cells.toList.length<=cs.length:=by simpa using h2
 have hsz:(sizeOf t).run P w=.ok v.cells.size w:=by
  cases hq:P.info? t with
  | none=>simp [hq] at h1
  | some inf =>
   simp only [hq] at h1;simp [sizeOf,typeInfo,hq,Nat.eq_of_beq_eq_true h1]
 refine ⟨w.setCells b off v.cells.toList,?_,⟨World.os_setCells _ _ _ _,?_,World.output_setCells _ _ _ _,?_⟩,λj hj=>?_,box_setCells hb hl⟩
 ·have:=run_storeCells_cells (P:=P) b off v.cells.toList 0 w (λj hj=>by rw [Pv,hb.cells (off + j) _ (Gj (by omega))]; rfl) (λj hj=>hb.free _) (λu hu=>Sj.1 h3 u hu)
  rw [Pv] at this;simp [Instr.storeAt,Instr.sureAddr,storeVar,hsz,this]
 ·have ht:∀ (vs:List Value) (o:Nat) (w:World),(w.setCells b o vs).tape=w.tape:=by
   intro vs
   induction vs with
   | nil=>intro o w; rfl
   | cons v r ih=>intro o w; show ((w.setCell ⟨b,o,none⟩ v).setCells b (o + 1) r).tape=_; rw [ih]; rfl
  exact ht _ _ _
 ·have hs:∀ (vs:List Value) (o:Nat) (w:World),(w.setCells b o vs).heap.size=w.heap.size:=by
   intro vs
   induction vs with
   | nil=>intro o w; rfl
   | cons v r ih=>intro o w; show ((w.setCell ⟨b,o,none⟩ v).setCells b (o + 1) r).heap.size=_; rw [ih]; simp [World.setCell]
  exact hs _ _ _
 ·have hq:∀ (vs:List Value) (o:Nat) (w:World),(w.setCells b o vs).heap[j]?=w.heap[j]?:=by
   intro vs
   induction vs with
   | nil=>intro o w; rfl
   | cons v r ih=>intro o w; show ((w.setCell ⟨b,o,none⟩ v).setCells b (o + 1) r).heap[j]?=_; rw [ih]; exact Below.heap_setCell _ _ _ _ hj
  exact hq _ _ _
theorem s_store {t:TypeId} {x y:Operand} (hJ:J C E B h a w) (i:Nat) (v:Value) {b off:Nat} {cs:List Value} (cs':List Value) (hg:(o.guard.isNone && o.dst.isNone)=true) (ho:o.op=.store t x y) (hB:B[i]?=some (.box b cs)) (hx:evE E x=some (.pointer (some ⟨b,off,none⟩))) (hy:evE E y=some v)
  (hv:wY P t cs off v=true) (hc:uX cs off v.cells.toList=cs') (k:∀ w,J C E (B.set i (.box b cs')) h a w->wpList P ops Q rest a w):wpList P ops Q (o :: rest) a w:=by
 subst hc;rw [Uj] at hg;have hg1:o.guard=none:=by simpa using hg.1
 have hg2:o.dst=none:=by simpa using hg.2
 refine Vk hg1 λ_ hK=>?_;have hb:Box w b cs:=hJ.ents _ (Ej hB);obtain ⟨w',hrun,k1,k2,k3⟩:=run_store_box (P:=P) hb hv;unfold Oper.wp execOp;simp only [ho,hJ.fits.ev hx,hJ.fits.ev hy,Kk,Wk,Hq,hrun];have hput:a.put o.dst undef=a:=by rw [hg2]; rfl
 simp only [Oper.upon,hput];exact hK _ _ (k _ (hJ.seti hB k1 k2 k3))
end
def BoxesOk (w:World) (l:List (Nat × List Value)):Prop:=∀ x∈l,Box w x.1 x.2
def Con (P:Program) (f:FuncId) (args:Array Value) (h:Vw) (Bi:List (Nat × List Value)) (R:Value->List (List Value)->Vw->Prop):Prop :=
 BoxesOk h.w Bi->(Bi.map (·.1)).Nodup->(∀ x∈Bi,x.1∈h.bad)->(∀ b∈h.bad,b < h.w.heap.size) ->
 Calls P f args h.w λe w'=>∃ v Bo,e=.returned v/\Low (Bi.map (·.1)) h.w w'/\BoxesOk w' Bo/\Bo.map (·.1)=Bi.map (·.1)/\R v (Bo.map (·.2)) ⟨w',h.bad⟩
abbrev C0 (P:Program) (f:FuncId) (args:Array Value) (h:Vw) (R:Value->Vw->Prop):Prop:=Con P f args h [] (λv _ h'=>R v h')
abbrev C1 (P:Program) (f:FuncId) (args:Array Value) (h:Vw) (b:Nat) (cs:List Value) (R:Value->List Value->Vw->Prop):Prop:=Con P f args h [(b,cs)] (λv l h'=>∃ cs',l=[cs']/\R v cs' h')
section
variable {P:Program} {C:Fx} {E E':List (Nat × Value)} {B B':List Ent} {h h':Vw} {a a':Act} {w w':World} {ops:Array Oper} {rest:List Oper} {o:Oper} {Q:Exit->Act->World->Prop} {K:Act->World->Prop}
theorem J.called (hJ:J C E B h a w) (hl:Low [] w w'):J C E B ⟨w',blk B++C.bad0⟩ a w'/\Sees h ⟨w',blk B++C.bad0⟩:=⟨(hJ.grow hl).now,(hJ.grow hl).sees⟩
theorem w_call {f:FuncId} {args:Array Value} {R:Value->Vw->Prop} (hJ:J C E B h a w) {d:Nat} (hc:C0 P f args ⟨w,blk B++C.bad0⟩ R) (hk:okOp C E o d=true) (hr:∀ w,(execOp (evD E) o).run P w=.ok (.enter f args) w)
  (k:∀ v h' a w,Sees h h'->R v h'->J C ((d,v) :: E) B h' a w->K a w):o.wp P a w K Q:=by
 obtain ⟨h1,h2,h3,h4⟩:=uW hk;unfold Oper.wp;rw [kY hJ.fits h4,hr];refine (hc (by intro x hx; cases hx) (by simp) (by simp) (bad_lt hJ)).mono ?_;rintro e w' ⟨v,Bo,rfl,hl,-,-,hR⟩;obtain ⟨j,s⟩:=hJ.called hl;exact k v _ _ _ s hR (j.putd v h2 h3)
theorem s_call {f:FuncId} {args:Array Value} {R:Value->Vw->Prop} (hJ:J C E B h a w) (d:Nat) (hc:C0 P f args ⟨w,blk B++C.bad0⟩ R) (hk:okOp C E o d=true) (hr:∀ w,(execOp (evD E) o).run P w=.ok (.enter f args) w)
  (k:∀ v h' a w,Sees h h'->R v h'->J C ((d,v) :: E) B h' a w->wpList P ops Q rest a w):wpList P ops Q (o :: rest) a w :=
 Vk (uW hk).1 λ_ hK=>w_call hJ hc hk hr λ_ _ _ _ s r j=>hK _ _ (k _ _ _ _ s r j)
theorem J.called1 (hJ:J C E B h a w) {i b:Nat} {cs cs':List Value} (hB:B[i]?=some (.box b cs)) (hl:Low [b] w w') (hb:Box w' b cs') :
  J C E (B.set i (.box b cs')) ⟨w',blk B++C.bad0⟩ a w'/\Sees h ⟨w',blk B++C.bad0⟩:=by
 have hbm:b∈blk B:=Fk.2 ⟨_,Ej hB,by simp [Ent.blocks]⟩;have hset:blk (B.set i (.box b cs'))=blk B:=by
  clear hJ hl hb hbm
  induction B generalizing i with
  | nil=>simp
  | cons x B ih =>
   cases i with
   | zero=>simp at hB; subst hB; simp [blk,Ent.blocks]
   | succ i =>
    have:=ih (i:=i) (by simpa using hB)
    simp only [blk,List.set_cons_succ,Dv] at this ⊢;rw [this]
 have hne:∀ (j:Nat) (e:Ent),B[j]?=some e->j≠i->b ∉ e.blocks:=by
  have hnd:=hJ.nodup;clear hJ hl hb hbm hset;intro j e hj hji hm
  induction B generalizing i j with
  | nil=>simp at hj
  | cons x B ih =>
   simp only [blk,Dv,Dq] at hnd;obtain ⟨n1,n2,n3⟩:=hnd
   cases i with
   | zero =>
    cases j with
    | zero=>exact hji rfl
    | succ j =>
     simp at hB hj;subst hB;exact n3 b (by simp [Ent.blocks]) b (Fk.2 ⟨e,Ej hj,hm⟩) rfl
   | succ i =>
    cases j with
    | zero =>
     simp at hB hj;subst hj;exact n3 b hm b (Fk.2 ⟨_,Ej hB,by simp [Ent.blocks]⟩) rfl
    | succ j=>exact ih (i:=i) (j:=j) (by simpa using hB) n2 (by simpa using hj) (by omega)
 have hbb:b < h.w.heap.size->b∈h.bad:=λhlt=>hJ.sees.bad b (Ek _ hbm) hlt;have hsee:Sees h ⟨w',blk B++C.bad0⟩:=⟨Yk hJ.sees.size hl.size,λk hk hn=>(hl.block k (Cq hk hJ.sees.size) (by
  simp only [Pj];rintro rfl;exact hn (hbb hk))).trans (hJ.sees.block k hk hn),hJ.sees.bad⟩
 refine ⟨⟨hJ.fits,hJ.size,hJ.defers,⟨hl.os.trans hJ.low.os,hl.tape.trans hJ.low.tape,hl.output.trans hJ.low.output,Yk hJ.low.size hl.size,λk hk hm=>?_⟩,by rw [hset]; exact Sees.refl _,λe he=>?_,by rw [hset]; exact hJ.nodup,by rw [hset]; exact hJ.own,hJ.badlt⟩,hsee⟩
 ·refine (hl.block k (Cq hk hJ.low.size) (by
   simp only [Pj];rintro rfl;rcases hJ.own _ hbm with g | g
   ·omega
   ·exact hm g)).trans (hJ.low.block k hk hm)
 ·obtain ⟨j,hj⟩:=Bq he;rw [Yv] at hj
  split at hj
  ·split at hj
   ·simp only [Yj] at hj; subst hj; exact hb
   ·cases hj
  ·rename_i hji;have hB':e∈B:=Ej hj;exact ok_block (hJ.ents e hB') hl.size (λk hk=>hl.block k (blk_lt hJ k (Fk.2 ⟨e,hB',hk⟩)) (by
    simp only [Pj];rintro rfl;exact hne j e hj (λe=>hji e.symm) hk))
theorem w_call1 {f:FuncId} {args:Array Value} {R:Value->List Value->Vw->Prop} (hJ:J C E B h a w) {d:Nat} (i:Nat) {b:Nat} {cs:List Value} (hc:C1 P f args ⟨w,blk B++C.bad0⟩ b cs R) (hB:B[i]?=some (.box b cs)) (hk:okOp C E o d=true) (hr:∀ w,(execOp (evD E) o).run P w=.ok (.enter f args) w)
  (k:∀ v cs' h' a w,Sees h h'->R v cs' h'->J C ((d,v) :: E) (B.set i (.box b cs')) h' a w->K a w):o.wp P a w K Q:=by
 obtain ⟨h1,h2,h3,h4⟩:=uW hk;have hbm:b∈blk B:=Fk.2 ⟨_,Ej hB,by simp [Ent.blocks]⟩;unfold Oper.wp;rw [kY hJ.fits h4,hr];refine (hc (by intro x hx; simp at hx; subst hx; exact hJ.ents _ (Ej hB)) (by simp) (by simp [hbm]) (bad_lt hJ)).mono ?_;rintro e w' ⟨v,Bo,rfl,hl,hbo,hbm,cs',hcs,hR⟩;have hBo:Bo=[(b,cs')]:=by
  match Bo,hbm,hcs with
  | [x],hbm,hcs=>simp at hbm hcs; obtain ⟨x1,x2⟩:=x; simp at hbm hcs; rw [hbm,hcs]
  | [],hbm,_=>simp at hbm
  | _ :: _ :: _,hbm,_=>simp at hbm
 subst hBo;obtain ⟨j,s⟩:=hJ.called1 (cs':=cs') hB (by simpa using hl) (hbo _ (Pj.2 rfl));exact k v cs' _ _ _ s hR (j.putd v h2 h3)
theorem s_call1 {f:FuncId} {args:Array Value} {R:Value->List Value->Vw->Prop} (hJ:J C E B h a w) (d:Nat) (i:Nat) {b:Nat} {cs:List Value} (hc:C1 P f args ⟨w,blk B++C.bad0⟩ b cs R) (hB:B[i]?=some (.box b cs)) (hk:okOp C E o d=true) (hr:∀ w,(execOp (evD E) o).run P w=.ok (.enter f args) w)
  (k:∀ v cs' h' a w,Sees h h'->R v cs' h'->J C ((d,v) :: E) (B.set i (.box b cs')) h' a w->wpList P ops Q rest a w):wpList P ops Q (o :: rest) a w :=
 Vk (uW hk).1 λ_ hK=>w_call1 hJ i hc hB hk hr λ_ _ _ _ _ s r j=>hK _ _ (k _ _ _ _ _ s r j)
theorem block_same {id:Nat} (k:Q .normal a w):Exit.inBlock id Q (.exit id) a w:=by simpa [Exit.inBlock] using k
theorem block_other {id id':Nat} (hne:Nat.beq id' id=false) (k:Q (.exit id') a w):Exit.inBlock id Q (.exit id') a w:=by
 have:=Hx hne
 simpa [Exit.inBlock,this] using k
theorem least {p:Nat->Prop} (hx:∃ n,p n):∃ n,p n/\∀ m,p m->n<=m:=by
 obtain ⟨n,hn⟩:=hx
 induction n using Nat.strongRecOn with
 | _ n ih =>
  by_cases hs:∃ m,m < n/\p m
  ·obtain ⟨m,hm,hp⟩:=hs;exact ih m hm hp
  ·exact ⟨n,hn,λm hp=>Nat.le_of_not_lt λhlt=>hs ⟨m,hlt,hp⟩⟩
open Classical in
theorem c_loop {ι:Type} {c:Code} (I:ι->Act->World->Prop) (m:ι->Nat) (i0:ι) (h0:I i0 a w)
  (round:∀ i a w,I i a w->c.wp P (Exit.then (λa' w'=>∃ i',I i' a' w'/\m i' < m i) Q) a w):(Code.loop c).wp P Q a w:=by
 refine wp_loop (λa w=>∃ i,I i a w) (λa w=>if hx:∃ n,∃ i,I i a w/\m i=n then Classical.choose (least hx) else 0) ⟨i0,h0⟩ (λa w hI=>?_);have hx:∃ n,∃ i,I i a w/\m i=n:=by obtain ⟨i,hi⟩:=hI; exact ⟨_,i,hi,rfl⟩
 obtain ⟨i,hi,hm⟩:=(Classical.choose_spec (least hx)).1;refine Code.wp_mono (λe a' w' q=>?_) (round i a w hi)
 cases e with
 | normal =>
  obtain ⟨i',hi',hlt⟩:=q;have hx':∃ n,∃ i,I i a' w'/\m i=n:=⟨_,i',hi',rfl⟩;refine ⟨⟨i',hi'⟩,?_⟩;rw [dif_pos hx,dif_pos hx',<- hm];exact Nat.lt_of_le_of_lt ((Classical.choose_spec (least hx')).2 _ ⟨i',hi',rfl⟩) hlt
 | exit id=>exact q
 | goto l=>exact q
 | ret=>exact q
 | panic ch=>exact q
 | outgrown=>exact q
def argE:Nat->List Value->List (Nat × Value)
 | _,[]=>[]
 | n,v :: l=>(n,v) :: argE (n + 1) l
theorem argE_lookup:∀ (l:List Value) (n d:Nat) (v:Value),lookup (argE n l) d=some v->n<=d/\l[d - n]?=some v
 | [],_,_,_,h=>by simp [argE,lookup] at h
 | x :: l,n,d,v,h=>by
  simp only [argE,lookup] at h
  split at h
  ·rename_i e;have e:=Zj e;simp only [Yj] at h;subst h e;simp
  ·rename_i e;have e:=Hx e;obtain ⟨h1,h2⟩:=argE_lookup l (n + 1) d v h;refine ⟨by omega,?_⟩;rw [show d - n=(d - (n + 1)) + 1 by omega]
   simpa using h2
inductive Res (P:Program) (a:Act) (w:World):List ResultVar->List Value->Prop
 | nil:Res P a w [] []
 | tmp {t:Tmp} {v:Value} {rs:List ResultVar} {vs:List Value} (h:a.tmps.getD t undef=v) (k:Res P a w rs vs):Res P a w (.tmp t :: rs) (v :: vs)
 | cell {p:Tmp} {t:TypeId} {v:Value} {rs:List ResultVar} {vs:List Value} {ad:Addr} (hp:a.tmps.getD p undef=.pointer (some ad)) (h:(Instr.loadAt t (.pointer (some ad))).run P w=.ok v w) (k:Res P a w rs vs):Res P a w (.cell p t :: rs) (v :: vs)
theorem Res.rtmp (hJ:J C E B h a w) {t:Tmp} {v:Value} {rs:List ResultVar} {vs:List Value} (hv:lookup E t=some v) (k:Res P a w rs vs):Res P a w (.tmp t :: rs) (v :: vs) :=
 .tmp (hJ.fits t v hv) k
theorem Res.rtm (hJ:J C E B h a w) {t:Tmp} {v:Value} {rs:List ResultVar} {vs:List Value} (k:Res P a w rs vs) (hv:lookup E t=some v:=by kernel_rfl):Res P a w (.tmp t :: rs) (v :: vs):=.rtmp hJ hv k
theorem Res.rcell (hJ:J C E B h a w) {p:Tmp} {t:TypeId} {v:Value} {rs:List ResultVar} {vs:List Value} (i:Nat) {b:Nat} {cs:List Value} (hB:B[i]?=some (.box b cs)) (hx:lookup E p=some (.pointer (some ⟨b,0,none⟩))) (hv:dW P t cs 0=some v) (k:Res P a w rs vs) :
  Res P a w (.cell p t :: rs) (v :: vs) :=
 .cell (ad:=⟨b,0,none⟩) (hJ.fits p _ hx) (lY (o0:=0) (off:=0) (box_range (hJ.ents _ (Ej hB))) hv) k
theorem Res.rcel (hJ:J C E B h a w) {p:Tmp} {t:TypeId} {v:Value} {rs:List ResultVar} {vs:List Value} (i:Nat) {b:Nat} {cs:List Value} (k:Res P a w rs vs) (hB:B[i]?=some (.box b cs):=by rfl) (hx:lookup E p=some (.pointer (some ⟨b,0,none⟩)):=by kernel_rfl) (hv:dW P t cs 0=some v:=by kernel_rfl):Res P a w (.cell p t :: rs) (v :: vs):=.rcell hJ i hB hx hv k
def pack:List Value->Value
 | [v]=>v
 | vs=>.tuple vs.toArray
def resOf (a:Act):ResultVar->Sem Value
 | .tmp t=>pure (a.tmps.getD t undef)
 | .cell p t=>do loadVar t (<- asAddr (a.tmps.getD p undef))
theorem results_eq (fn:Func) (a:Act):results fn a.tmps=(do let vs <- fn.results.mapM (resOf a); pure (if h:vs.size=1 then vs[0] else .tuple vs)):=by
 unfold results
 congr 1
theorem mapM_res {rs:List ResultVar} {vs:List Value} (hr:Res P a w rs vs):(rs.mapM (resOf a)).run P w=.ok vs w:=by
 induction hr with
 | nil=>rfl
 | tmp h k ih=>simp only [List.mapM_cons,resOf,Kk,Wk,Hq,ih,h]
 | cell hp h k ih =>
  simp only [Instr.loadAt,Instr.sureAddr,Kk,Wk,Hq] at h;simp only [List.mapM_cons,resOf,Kk,Wk,Hq,ih,hp,asAddr,h]
theorem run_results {fn:Func} {vs:List Value} (hr:Res P a w fn.results.toList vs):(results fn a.tmps).run P w=.ok (pack vs) w:=by
 have hm:=mapM_res hr;have hA:(fn.results.mapM (resOf a)).run P w=.ok vs.toArray w:=by
  rw [<- Array.toArray_toList (xs:=fn.results)];simp only [List.mapM_toArray,map_eq_pure_bind,Kk];rw [hm]; rfl
 rw [results_eq,Kk,hA];simp only [Hq,Wk]
 match vs with
 | []=>rfl
 | [v]=>rfl
 | _ :: _ :: _=>simp [pack]
theorem con_start {f:FuncId} {fn:Func} {c:Code} {args:Array Value} {N:Nat} {Bi:List (Nat × List Value)} {R:Value->List (List Value)->Vw->Prop} (hf:P.funcs[f]?=some fn) (hb:fn.body=some c) (hN:fn.ntmps=N) (hle:Nat.ble args.size N=true)
  (body:BoxesOk h.w Bi->(∀ x∈Bi,x.1∈h.bad)->∀ (Q:Exit->Act->World->Prop),
   (∀ {E:List (Nat × Value)} {B:List Ent} {h':Vw} {a:Act} {w:World} (vs:List Value) (Bp:List Ent) (Bo:List (Nat × List Value)),J ⟨N,h.w,h.bad,Bi.map (·.1),[]⟩ E B h' a w->Res P a w fn.results.toList vs->B=Bp++Bo.map (λx=>.box x.1 x.2)->Bo.map (·.1)=Bi.map (·.1)->R (pack vs) (Bo.map (·.2)) ⟨w,h.bad⟩->Q .ret a w/\Q .normal a w) ->
   ∀ a w,J ⟨N,h.w,h.bad,Bi.map (·.1),[]⟩ (argE 0 args.toList) (Bi.map (λx=>.box x.1 x.2)) h a w->c.wp P Q a w):Con P f args h Bi R:=by
 intro hbox hnd hbad hlt;have hblk:blk (Bi.map (λx=>Ent.box x.1 x.2))=Bi.map (·.1):=by
  clear hbox hnd hbad body
  induction Bi with
  | nil=>rfl
  | cons x l ih=>simp only [blk,Ik,Dv,Ent.blocks] at ih ⊢; rw [ih]; rfl
 have hle:=Nq hle;refine calls_of_wp hf hb ?_;rw [hN];refine body hbox hbad _ (λ{E B h' a w} vs Bp Bo hJ hR hB hm r=>?_) _ _ ⟨λd v hv=>?_,by simp; omega,rfl,Low.refl _ _,?_,λe he=>?_,by rw [hblk]; exact hnd,λb hb=>.inr (by rw [hblk] at hb; exact hb),hlt⟩
 ·have hp:bodyPost P fn (λe w'=>∃ v Bo,e=.returned v/\Low (Bi.map (·.1)) h.w w'/\BoxesOk w' Bo/\Bo.map (·.1)=Bi.map (·.1)/\R v (Bo.map (·.2)) ⟨w',h.bad⟩) .ret a w:=by
   refine ⟨hJ.defers,pack vs,run_results hR,_,Bo,rfl,hJ.low,λx hx=>?_,hm,r⟩
   have:Ent.box x.1 x.2∈B:=by rw [hB]; exact Vj _ (Rj.2 ⟨x,hx,rfl⟩)
   exact hJ.ents _ this
  exact ⟨hp,hp⟩
 ·obtain ⟨h1,h2⟩:=argE_lookup _ _ _ _ hv;simp only [Nat.sub_zero,Qv] at h2;have hd:=(Nk.1 h2).1;simp only [Act.eval,Pq];rw [Array.getElem?_append_left hd,h2]
  rfl
 ·rw [hblk];refine ⟨Hj _,λ_ _ _=>rfl,λb hb _=>?_⟩;rcases Qj.1 hb with g | g
  ·obtain ⟨x,hx,rfl⟩:=Rj.1 g; exact hbad x hx
  ·exact g
 ·obtain ⟨x,hx,rfl⟩:=Rj.1 he;exact hbox x hx
end
def sA:Value->Option Addr | .slice a _ _=>a | _=>none
def sN:Value->Nat | .slice _ n _=>n | _=>0
abbrev Vt (s:ByteArray):Value:=.string s
def sC:Value->Nat | .slice _ _ c=>c | _=>0
abbrev sL (u:Value):Value:=.slice (sA u) (sN u) (sC u)
abbrev Gh:=Nat->Value
def upd (x:Gh) (i:Nat) (v:Value):Gh:=λj=>match Nat.beq j i with
 | true=>v
 | false=>x j
def uJ:Value->Nat
 | .pointer (some a)=>a.block
 | _=>0
structure Gent where
 start:Option Ent
 vers:List (Nat × (Gh->Ent))
structure Reg where
 C:Fx
 T:List (Nat × Nat × (Gh->Value))
 E:List (Nat × Value)
 G:List Gent
 F:List (Nat × (Gh->Vw->Prop))
 anc:List (List Nat)
 h:Vw
def Reg.an (R:Reg) (i:Nat):List Nat:=R.anc.getD i []
def dirs (o:Oper):List Nat:=(o.after.toList.filter (Region.binds .any ·)).map (·.on)
def dX (ops:Array Oper) (i:Nat):Oper:=ops.toList.getD i default
open Classical in
noncomputable def sel (c:Prop) (u v:Option Ent):Option Ent:=if c then u else v
theorem sel_pos {c:Prop} {u v:Option Ent} (h:c):sel c u v=u:=Cj h
theorem sel_neg {c:Prop} {u v:Option Ent} (h:¬ c):sel c u v=v:=Bj h
noncomputable def cur (D:Nat->Prop) (x:Gh) (g:Gent):Option Ent:=g.vers.foldl (λacc p=>sel (D p.1) (some (p.2 x)) acc) g.start
noncomputable def BD (G:List Gent) (D:Nat->Prop) (x:Gh):List Ent:=G.filterMap (cur D x)
def iK (A:List Nat) (x:Gh) (g:Gent):Option Ent:=g.vers.foldl (λacc p=>match A.contains p.1 with | true=>some (p.2 x) | false=>acc) g.start
structure Inv (R:Reg) (D:Nat->Prop) (x:Gh) (h:Vw) (a:Act) (w:World):Prop where
 done:∀ t∈R.T,D t.1->a.eval (.tmp t.2.1)=t.2.2 x
 base:∀ d v,lookup R.E d=some v->(∀ t∈R.T,t.2.1=d->¬ D t.1)->a.eval (.tmp d)=v
 mem:J R.C [] (BD R.G D x) h a w
 sees:Sees R.h h
 facts:∀ p∈R.F,D p.1->p.2 x h
 closed:∀ j,D j->∀ k∈R.an j,D k
theorem fits_nil (a:Act):Fits [] a:=λ_ _ h=>by simp [lookup] at h
theorem fits_pre {L E:List (Nat × Value)} {a:Act} (h:∀ p∈L,a.eval (.tmp p.1)=p.2) (k:Fits E a):Fits (L++E) a:=by
 induction L with
 | nil=>exact k
 | cons p L ih =>
  intro d v hv;simp only [lookup,Xq] at hv
  split at hv
  ·rename_i e;have e:=Zj e;simp only [Yj] at hv;subst hv e;exact h p (by simp)
  ·exact ih (λq hq=>h q (by simp [hq])) d v hv
theorem lookup_pre {E:List (Nat × Value)} {d:Nat} {v:Value}:∀ {L:List (Nat × Value)},lookup (L++E) d=some v->(∃ p∈L,p.1=d/\p.2=v)\/((∀ p∈L,p.1≠d)/\lookup E d=some v)
 | [],h=>.inr ⟨λp hp=>(by cases hp),h⟩
 | p :: L,h=>by
  simp only [lookup,Xq] at h
  split at h
  ·rename_i e;simp only [Yj] at h;exact .inl ⟨p,by simp,Zj e,h⟩
  ·rename_i e;rcases lookup_pre h with ⟨q,hq,e1,e2⟩ | ⟨hno,hl⟩
   ·exact .inl ⟨q,by simp [hq],e1,e2⟩
   ·refine .inr ⟨λq hq=>?_,hl⟩;rcases Tj.1 hq with rfl | hq
    ·exact Hx e
    ·exact hno q hq
theorem fits_pre' {L E:List (Nat × Value)} {a:Act} (h:∀ p∈L,a.eval (.tmp p.1)=p.2) (k:∀ d v,lookup E d=some v->(∀ p∈L,p.1≠d)->a.eval (.tmp d)=v):Fits (L++E) a:=λd v hv=>by
 rcases lookup_pre hv with ⟨p,hp,rfl,rfl⟩ | ⟨hno,hl⟩
 ·exact h p hp
 ·exact k d v hl hno
def dK (R:Reg):Bool :=
 decide (R.T.map (·.1)).Nodup && decide (R.T.map (·.2.1)).Nodup && R.T.all (λt=>Nat.blt t.2.1 R.C.N)
def cK (R:Reg) (ops:Array Oper):Bool :=
 (List.range ops.size).all λi=>let ds:=dirs (dX ops i); ds.all (λk=>Nat.blt k i) && (R.an i).all λk=>ds.contains k || ds.any λm=>(R.an m).contains k
section
variable {P:Program} {ops:Array Oper} {Q:Exit->Act->World->Prop} {R:Reg} {D:Nat->Prop} {x x':Gh} {h h':Vw} {a a':Act} {w w':World} {i:Nat}
theorem eX {o:Oper} (ho:ops[i]?=some o):dX ops i=o:=by
 unfold dX;rw [Uk,Qv,ho]; rfl
theorem rJ (hA:cK R ops=true) {o:Oper} (ho:ops[i]?=some o) (I:Inv R D x h a w) (hd:∀ k∈dirs o,D k):∀ k∈R.an i,D k:=by
 have hlt:=(Nk.1 ho).1
 have:=Sj.1 hA i (Jk.2 hlt)
 simp only [eX ho,Uj] at this;intro k hk;have hk:=Sj.1 this.2 k hk;rcases Bool.or_eq_true_iff.1 hk with g | g
 ·exact hd k (by simpa using g)
 ·obtain ⟨m,hm,hc⟩:=List.any_eq_true.1 g;exact I.closed m (hd m hm) k (by simpa using hc)
theorem fm_congr {α β:Type} {f g:α->Option β}:∀ {l:List α},(∀ y∈l,f y=g y)->l.filterMap f=l.filterMap g
 | [],_=>rfl
 | y :: l,h=>by rw [List.filterMap_cons,List.filterMap_cons,h y (by simp),fm_congr (λz hz=>h z (by simp [hz]))]
theorem cur_same {g:Gent} (hg:∀ p∈g.vers,p.1≠i):cur (λj=>j=i\/D j) x g=cur D x g:=by
 unfold cur;obtain ⟨s,vs⟩:=g;simp only at hg ⊢
 induction vs generalizing s with
 | nil=>rfl
 | cons p vs ih =>
  have h0:=hg p (by simp);have e:sel (p.1=i\/D p.1) (some (p.2 x)) s=sel (D p.1) (some (p.2 x)) s:=by
   by_cases hp:D p.1
   ·rw [sel_pos hp,sel_pos (.inr hp)]
   ·rw [sel_neg hp,sel_neg (λk=>k.elim h0 hp)]
  rw [Kv,Kv,e];exact ih _ (λq hq=>hg q (by simp [hq]))
theorem cur_at {g:Gent} {A:List Nat} (hs:∀ p∈g.vers,(A.contains p.1=true/\D p.1)\/(A.contains p.1=false/\¬ D p.1)):cur D x g=iK A x g:=by
 unfold cur iK;obtain ⟨s,vs⟩:=g;simp only at hs ⊢
 induction vs generalizing s with
 | nil=>rfl
 | cons p vs ih =>
  have h0:=hs p (by simp);simp only [Kv];rw [ih _ (λq hq=>hs q (by simp [hq]))]
  congr 1
  rcases h0 with ⟨h1,h2⟩ | ⟨h1,h2⟩
  ·rw [sel_pos h2,h1]
  ·rw [sel_neg h2,h1]
def sync (R:Reg) (i:Nat) (g:Gent):Bool:=g.vers.all λp=>(R.an i).contains p.1 || p.1 == i || (R.an p.1).contains i
theorem jK {g:Gent} (I:Inv R D x h a w) (hn:¬ D i) (han:∀ k∈R.an i,D k) (hs:sync R i g=true):cur D x' g=iK (R.an i) x' g:=by
 refine cur_at λp hp=>?_
 have:=Sj.1 hs p hp
 simp only [Zv] at this
 cases hc:(R.an i).contains p.1 with
 | true=>exact .inl ⟨rfl,han _ (by simpa using hc)⟩
 | false =>
  refine .inr ⟨rfl,λhD=>?_⟩;rw [hc] at this;rcases this with (g | g) | g
  ·cases g
  ·have:p.1=i:=by simpa using g
   exact hn (this ▸ hD)
  ·exact hn (I.closed _ hD _ (by simpa using g))
theorem nJ {G:List Gent} {e:Nat} {g:Gent} (hg:G[e]?=some g):BD G D x=BD (G.take e) D x++(cur D x g).toList++BD (G.drop (e + 1)) D x:=by
 have hlt:=(Nj.1 hg).1;have e1:G=G.take e++g :: G.drop (e + 1):=by
  have:=Iw (l:=G) (i:=e) (a:=g)
  rw [Cj hlt] at this;rw [<- this];refine (Vq λj=>?_);rw [Yv]
  split
  ·subst_vars; rw [hg]
  ·rfl
 conv=>lhs; rw [e1]
 unfold BD;rw [List.filterMap_append,List.filterMap_cons]
 cases cur D x g <;> simp
theorem BD_same {G:List Gent} (hG:∀ g∈G,∀ p∈g.vers,p.1≠i):BD G (λj=>j=i\/D j) x=BD G D x:=by
 unfold BD;refine fm_congr λg hg=>cur_same (hG g hg)
def only (R:Reg) (i:Nat) (e:Option Nat):Bool:=R.G.zipIdx.all λ(g,j)=>e == some j || g.vers.all λp=>p.1 != i
theorem zW (hk:only R i none=true):BD R.G (λj=>j=i\/D j) x=BD R.G D x:=by
 refine BD_same λg hg p hp=>?_;obtain ⟨j,hj⟩:=Bq hg
 have:=Sj.1 hk (g,j) (Jw.2 hj)
 simp only [Zv] at this;rcases this with g' | g'
 ·cases g'
 ·simpa using Sj.1 g' p hp
theorem aX {e:Nat} {g:Gent} (hk:only R i (some e)=true) (hg:R.G[e]?=some g) :
  BD R.G (λj=>j=i\/D j) x=BD (R.G.take e) D x++(cur (λj=>j=i\/D j) x g).toList++BD (R.G.drop (e + 1)) D x:=by
 have key:∀ (j:Nat) (g':Gent),R.G[j]?=some g'->j≠e->∀ p∈g'.vers,p.1≠i:=by
  intro j g' hj hne p hp
  have:=Sj.1 hk (g',j) (Jw.2 hj)
  simp only [Zv] at this;rcases this with k | k
  ·simp at k; exact absurd k.symm hne
  ·simpa using Sj.1 k p hp
 rw [nJ hg]
 congr 1
 ·congr 1
  refine BD_same λg' hg'=>?_;obtain ⟨j,hj⟩:=Bq hg';rw [Gw] at hj
  split at hj
  ·exact key j g' hj (by omega)
  ·cases hj
 ·refine BD_same λg' hg'=>?_;obtain ⟨j,hj⟩:=Bq hg';rw [Wv] at hj;exact key _ g' hj (by omega)
theorem Inv.next (I:Inv R D x h a w) {o:Oper} (ho:ops[i]?=some o) (hT:dK R=true) (hA:cK R ops=true) (hn:¬ D i) (hd:∀ k∈dirs o,D k)
  (hmem:J R.C [] (BD R.G (λj=>j=i\/D j) x') h' a' w') (hs:Sees h h') (hx:∀ t∈R.T,D t.1->t.2.2 x'=t.2.2 x)
  (hfr:(∃ d f,(i,d,f)∈R.T/\a'=a.put (some d) (f x'))\/(i ∉ R.T.map (·.1)/\a'=a)) (hF:∀ p∈R.F,(p.1=i\/D p.1)->p.2 x' h'):Inv R (λj=>j=i\/D j) x' h' a' w':=by
 simp only [dK,Uj,decide_eq_true_eq] at hT;obtain ⟨⟨n1,n2⟩,n3⟩:=hT;have hsz:a.tmps.size=R.C.N:=I.mem.size;refine ⟨λt ht hD=>?_,?_,hmem,I.sees.trans hs,hF,λj hj k hk=>?_⟩
 ·rcases hfr with ⟨d,f,hm,rfl⟩ | ⟨hm,rfl⟩
  ·by_cases e:t.1=i
   ·have:t=(i,d,f):=nodup_fst (f:=λt:Nat × Nat × (Gh->Value)=>t.1) n1 ht hm e
    subst this;have hlt:Nat.blt d R.C.N=true:=Sj.1 n3 _ hm;exact qK (by rw [hsz]; have:=Nq hlt; omega)
   ·rw [pK (λk=>e (by rw [nodup_fst (f:=λt:Nat × Nat × (Gh->Value)=>t.2.1) n2 ht hm k.symm]))];rw [hx t ht (hD.resolve_left e)];exact I.done t ht (hD.resolve_left e)
  ·have e:t.1≠i:=λe=>hm (Rj.2 ⟨t,ht,e⟩);rw [hx t ht (hD.resolve_left e)];exact I.done t ht (hD.resolve_left e)
 ·rcases hfr with ⟨d,f,hm,rfl⟩ | ⟨hm,rfl⟩
  ·intro t v hv hno;have hdt:d≠t:=λk=>hno _ hm k (.inl rfl);rw [pK (λk=>hdt (by first | exact k | exact k.symm))];exact I.base t v hv (λq hq e hD=>hno q hq e (.inr hD))
  ·exact λt v hv hno=>I.base t v hv (λq hq e hD=>hno q hq e (.inr hD))
 ·rcases hj with rfl | hj
  ·exact .inr (rJ hA ho I hd k hk)
  ·exact .inr (I.closed j hj k hk)
structure StepAt' (P:Program) (ops:Array Oper) (Q:Exit->Act->World->Prop) (R:Reg) (i:Nat):Prop where
 go:∀ (o:Oper) (D:Nat->Prop) (x:Gh) (h:Vw) (a:Act) (w:World),ops[i]?=some o->¬ D i->(∀ k∈dirs o,D k)->Inv R D x h a w->wpOp P ops Q i (λa' w'=>∃ x h,Inv R (λj=>j=i\/D j) x h a' w') a w
theorem cur_all {g:Gent} {n:Nat} (hg:∀ p∈g.vers,p.1 < n):cur (λj=>j < n) x g=iK (List.range n) x g :=
 cur_at λp hp=>.inl ⟨by simpa using hg p hp,hg p hp⟩
theorem region_sx {id:Nat} {B:List Ent} (hm:P.follows .mixedOrders=true) (R:Reg) (n:Nat) (hJ:J R.C R.E B R.h a w) (hn:ops.size=n) (hT:dK R=true) (hA:cK R ops=true)
  (hB:R.G.filterMap (·.start)=B) (hv:(R.G.all λg=>g.vers.all λp=>Nat.blt p.1 n)=true) (hTn:(R.T.all λt=>Nat.blt t.1 n)=true) (hFn:(R.F.all λt=>Nat.blt t.1 n)=true)
  (step:dK R=true->cK R ops=true->∀ i,i < n->StepAt' P ops Q R i)
  (fin:∀ x h a w,Sees R.h h->J R.C (R.T.map (λt=>(t.2.1,t.2.2 x))++R.E) (R.G.filterMap (iK (List.range n) x)) h a w->(∀ p∈R.F,p.2 x h)->Q .normal a w):(Code.region id ops true).wp P Q a w:=by
 have blt:∀ {a b:Nat},Nat.blt a b=true->a < b:=λh=>by have:=Nq h; omega
 refine region_inv hm (λD a w=>∃ x h,Inv R D x h a w) (λi o ho e he hb=>?_) ?_ (λi o D a w ho hn' hd ⟨x,h,I⟩=>?_) (λa w ⟨x,h,I⟩=>?_)
 ·have hlt:=(Nk.1 ho).1
  have:=Sj.1 hA i (Jk.2 hlt)
  simp only [eX ho,Uj] at this;exact blt (Sj.1 this.1 e.on (Rj.2 ⟨e,Jq.2 ⟨by simpa using he,hb⟩,rfl⟩))
 ·have hc0:∀ g:Gent,cur (λ_=>False) (λ_=>undef) g=g.start:=by
   intro g;unfold cur;generalize g.start=s
   induction g.vers generalizing s with
   | nil=>rfl
   | cons p vs ih=>rw [Kv,sel_neg (λh=>h)]; exact ih s
  have hB0:BD R.G (λ_=>False) (λ_=>undef)=B:=by
   rw [<- hB];exact fm_congr λg _=>hc0 g
  have hl:Low [] w w.drew:=Low.of_below (Wj _ _).drew;refine ⟨λ_=>undef,_,λt _ h=>h.elim,λd v hv _=>hJ.fits d v hv,?_,(hJ.grow hl).sees,λp _ h=>h.elim,λj h=>h.elim⟩;rw [hB0]
  have:=(hJ.grow hl).now
  exact this.to (E':=[]) rfl rfl
 ·exact (step hT hA i (by rw [<- hn]; exact (Nk.1 ho).1)).go o D x h a w ho hn' (λk hk=>by
   obtain ⟨e,he,rfl⟩:=Rj.1 hk;obtain ⟨h1,h2⟩:=Jq.1 he;exact hd e (by simpa using h1) h2) I
 ·have hBD:BD R.G (λj=>j < ops.size) x=R.G.filterMap (iK (List.range n) x):=by
   rw [hn];exact fm_congr λg hg=>cur_all λp hp=>blt (Sj.1 (Sj.1 hv g hg) p hp)
  refine fin x h a w I.sees ?_ (λp hp=>I.facts p hp (by rw [hn]; exact blt (Sj.1 hFn p hp)));rw [<- hBD];refine ⟨fits_pre' (λp hp=>?_) (λd v hv hno=>I.base d v hv λt ht e _=>hno _ (Rj.2 ⟨t,ht,rfl⟩) e),I.mem.size,I.mem.defers,I.mem.low,I.mem.sees,I.mem.ents,I.mem.nodup,I.mem.own,I.mem.badlt⟩;obtain ⟨t,ht,rfl⟩:=Rj.1 hp;exact I.done t ht (by rw [hn]; exact blt (Sj.1 hTn t ht))
def rdE (R:Reg) (i:Nat) (dp:List Nat) (x:Gh):List (Nat × Value):=dp.filterMap (λp=>(R.T[p]?).map λt=>(t.2.1,t.2.2 x))++R.E.filter (λp=>R.T.all λt => !(Nat.beq t.2.1 p.1) || (R.an t.1).contains i || t.1 == i)
def chkD (R:Reg) (ops:Array Oper) (i:Nat) (dp:List Nat):Bool:=dp.all λp=>match R.T[p]? with | some t=>(dirs (dX ops i)).contains t.1 | none=>true
def gOk (R:Reg) (ops:Array Oper) (i:Nat) (dp:List Nat) (x:Gh) (yes:Bool):Bool :=
 match (dX ops i).guard with
 | none=>yes
 | some (g,b)=>match (dX ops g).dst with
  | some dg=>match lookup (rdE R i dp x) dg with
   | some (.bool c)=>(c == b) == yes
   | some (.tuple _) => !yes
   | _=>false
  | none=>false
def okR (R:Reg) (ops:Array Oper) (i d:Nat) (dp:List Nat) (x:Gh):Bool :=
 chkD R ops i dp && gOk R ops i dp x true && (match (dX ops i).dst with | some y=>Nat.beq y d | none=>false) && gX (rdE R i dp x) (dX ops i)
theorem lookup_filter {q:Nat->Bool} {d:Nat} {v:Value}:∀ {E:List (Nat × Value)},lookup (E.filter λp=>q p.1) d=some v->q d=true/\lookup E d=some v
 | [],h=>by cases h
 | p :: E,h=>by
  rw [List.filter_cons] at h
  split at h
  ·rename_i hq;unfold lookup at h ⊢
   split at h
   ·rename_i e;have e':=Zj e;subst e';exact ⟨hq,h⟩
   ·rename_i e;obtain ⟨h1,h2⟩:=lookup_filter h;exact ⟨h1,h2⟩
  ·rename_i hq;obtain ⟨h1,h2⟩:=lookup_filter h;refine ⟨h1,?_⟩;unfold lookup
   cases e:Nat.beq p.1 d with
   | true=>rw [Zj e] at hq; exact absurd h1 hq
   | false=>exact h2
theorem xX {dp:List Nat} {o:Oper} (ho:ops[i]?=some o) (hc:chkD R ops i dp=true) (I:Inv R D x h a w) (hd:∀ k∈dirs o,D k) (hn:¬ D i):Fits (rdE R i dp x) a:=by
 refine fits_pre (λp hp=>?_) (λd v hv=>by
  obtain ⟨h1,h2⟩:=lookup_filter (q:=λs=>R.T.all λt => !(Nat.beq t.2.1 s) || (R.an t.1).contains i || t.1 == i) hv;refine I.base d v h2 λt ht e hD=>?_
  have:=Sj.1 h1 t ht
  rw [e,Nat.beq_refl] at this;simp only [Bool.not_true,Bool.false_or,Zv] at this;rcases this with g | g
  ·exact hn (I.closed t.1 hD i (by simpa using g))
  ·rw [eq_of_beq g] at hD; exact hn hD)
 obtain ⟨q,hq,e⟩:=List.mem_filterMap.1 hp
 cases ht:R.T[q]? with
 | none=>rw [ht] at e; cases e
 | some t =>
  rw [ht] at e;simp only [Bv,Yj] at e;subst e
  have:=Sj.1 hc q hq
  rw [ht] at this;simp only [eX ho] at this;exact I.done t (Ej ht) (hd _ (by simpa using this))
theorem wanted_tuple {a:Act} {ops:Array Oper} {o:Oper} {g dg:Nat} {want:Bool} {cs:Array Value} (hg:o.guard=some (g,want)) (hd:(ops[g]?).bind (·.dst)=some dg) (h:a.eval (.tmp dg)=.tuple cs):Region.wanted o (yielded ops a.tmps)=false:=by
 have hy:yielded ops a.tmps g=none:=by
  unfold yielded;rw [hd];simp only [Act.eval,Pq] at h
  cases e:a.tmps[dg]? with
  | none=>simp [e]
  | some v=>rw [e] at h; simp at h; subst h; simp [e]
 simp [Region.wanted,hg,hy]
theorem jQ {dp:List Nat} {o:Oper} {yes:Bool} (ho:ops[i]?=some o) (hf:Fits (rdE R i dp x) a) (hk:gOk R ops i dp x yes=true):Region.wanted o (yielded ops a.tmps)=yes:=by
 unfold gOk at hk;rw [eX ho] at hk
 split at hk
 ·rename_i e; simp [Region.wanted,e,hk]
 ·rename_i g b e
  split at hk
  ·rename_i dg hdg
   split at hk
   ·rename_i c hc;have hgd:(ops[g]?).bind (·.dst)=some dg:=by
     cases hg:ops[g]? with
     | none =>
      exfalso
      unfold dX at hdg;rw [Uk,Qv,hg] at hdg
      cases hdg
     | some og=>rw [eX hg] at hdg; exact hdg
    rw [wanted_of e hgd (hf dg _ hc)]
    simpa using hk
   ·rename_i cs hc;have hgd:(ops[g]?).bind (·.dst)=some dg:=by
     cases hg:ops[g]? with
     | none =>
      exfalso
      unfold dX at hdg;rw [Uk,Qv,hg] at hdg
      cases hdg
     | some og=>rw [eX hg] at hdg; exact hdg
    rw [wanted_tuple e hgd (hf dg _ hc)]
    cases yes
    ·rfl
    ·cases hk
   ·cases hk
  ·cases hk
theorem vW {d:Nat} {dp:List Nat} {o:Oper} (ho:ops[i]?=some o) (hk:okR R ops i d dp x=true):chkD R ops i dp=true/\gOk R ops i dp x true=true/\o.dst=some d/\gX (rdE R i dp x) o=true:=by
 unfold okR at hk;rw [eX ho] at hk;simp only [Uj] at hk;obtain ⟨⟨⟨h1,h2⟩,h3⟩,h4⟩:=hk;refine ⟨h1,h2,?_,h4⟩
 split at h3
 ·rename_i y e; rw [e,Zj h3]
 ·cases h3
theorem J.putN {C:Fx} {B:List Ent} (hJ:J C [] B h a w) (d:Nat) (v:Value):J C [] B h (a.put (some d) v) w :=
 ⟨fits_nil _,by simpa [Act.put] using hJ.size,hJ.defers,hJ.low,hJ.sees,hJ.ents,hJ.nodup,hJ.own,hJ.badlt⟩
theorem r_pure (hT:dK R=true) (hA:cK R ops=true) (d:Nat) (f:Gh->Value) (dp:List Nat) (p:Nat) (hp:R.T[p]?=some (i,d,f)) (ho:only R i none=true) (hF:(R.F.all λt=>t.1 != i)=true) (hk:∀ x,okR R ops i d dp x=true)
  (hr:∀ x w,(execOp (evD (rdE R i dp x)) (dX ops i)).run P w=.ok (.value (f x)) w):StepAt' P ops Q R i:=by
 refine .mk λo D x h a w hio hn hd I=>?_;obtain ⟨h1,h2,h3,h4⟩:=vW hio (hk x);refine vZ hio (jQ hio (xX hio h1 I hd hn) h2) (by rw [kY (xX hio h1 I hd hn) h4,<- eX hio]; exact hr x w) ⟨x,h,?_⟩;rw [h3];refine I.next hio hT hA hn hd ?_ (Sees.refl _) (λ_ _ _=>rfl) (.inl ⟨d,f,Ej hp,rfl⟩) (λq hq hD=>I.facts q hq (hD.resolve_left λe=>?_))
 ·rw [zW ho]; exact I.mem.putN _ _
 ·have:=Sj.1 hF q hq
  simp [e] at this
theorem r_pur (hT:dK R=true) (hA:cK R ops=true) (d:Nat) (f:Gh->Value) (dp:List Nat) (p:Nat) (hr:∀ x w,(execOp (evD (rdE R i dp x)) (dX ops i)).run P w=.ok (.value (f x)) w) (hp:R.T[p]?=some (i,d,f):=by kernel_rfl) (ho:only R i none=true:=by kernel_rfl) (hF:(R.F.all λt=>t.1 != i)=true:=by kernel_rfl) (hk:∀ x,okR R ops i d dp x=true:=by intro _; kernel_rfl):StepAt' P ops Q R i:=r_pure hT hA d f dp p hp ho hF hk hr
theorem r_load (hT:dK R=true) (hA:cK R ops=true) (d:Nat) (f:Gh->Value) (dp:List Nat) (p:Nat) (hp:R.T[p]?=some (i,d,f)) (ho:only R i none=true) (hF:(R.F.all λt=>t.1 != i)=true) (hk:∀ x,okR R ops i d dp x=true)
  (e:Nat) (g:Gent) (hg:R.G[e]?=some g) (hs:sync R i g=true) (b:Gh->Nat) (cs:Gh->List Value) (hc:∀ x,iK (R.an i) x g=some (.box (b x) (cs x)))
  (t:TypeId) (y:Operand) (off:Nat) (hop:(dX ops i).op=.load t y) (hy:∀ x,evE (rdE R i dp x) y=some (.pointer (some ⟨b x,off,none⟩))) (hv:∀ x,dW P t (cs x) off=some (f x)):StepAt' P ops Q R i:=by
 refine .mk λo D x h a w hio hn hd I=>?_;obtain ⟨h1,h2,h3,h4⟩:=vW hio (hk x);have hcur:=(jK (x':=x) I hn (rJ hA hio I hd) hs).trans (hc x);have hm:Ent.box (b x) (cs x)∈BD R.G D x:=by
  rw [nJ hg,hcur]; simp
 have hld:=lY (P:=P) (o0:=0) (off:=off) (box_range (I.mem.ents _ hm)) (hv x);rw [Gq] at hld;refine vZ hio (jQ hio (xX hio h1 I hd hn) h2) (v:=f x) (w':=w) ?_ ⟨x,h,?_⟩
 ·rw [eX hio] at hop;unfold execOp;simp only [hop,(xX hio h1 I hd hn).ev (hy x),Kk,Wk,Hq,hld]
 ·rw [h3];refine I.next hio hT hA hn hd ?_ (Sees.refl _) (λ_ _ _=>rfl) (.inl ⟨d,f,Ej hp,rfl⟩) (λq hq hD=>I.facts q hq (hD.resolve_left λe=>?_))
  ·rw [zW ho]; exact I.mem.putN _ _
  ·have:=Sj.1 hF q hq
   simp [e] at this
theorem r_loadf (hT:dK R=true) (hA:cK R ops=true) (d:Nat) (f:Gh->Value) (dp:List Nat) (p:Nat) (hp:R.T[p]?=some (i,d,f)) (ho:only R i none=true) (hF:(R.F.all λt=>t.1 != i)=true) (hk:∀ x,okR R ops i d dp x=true)
  {g:Vw} {b o0:Nat} {cs:List Value} (hc:Cells g b o0 cs) (hs:Sees g R.h)
  (t:TypeId) (y:Operand) (off:Nat) (hop:(dX ops i).op=.load t y) (hy:∀ x,evE (rdE R i dp x) y=some (.pointer (some ⟨b,o0 + off,none⟩))) (hv:∀ x,dW P t cs off=some (f x)):StepAt' P ops Q R i:=by
 refine .mk λo D x h a w hio hn hd I=>?_;obtain ⟨h1,h2,h3,h4⟩:=vW hio (hk x);have hld:=lY (P:=P) (off:=off) (hc.sees (hs.trans (I.sees.trans I.mem.sees))).lies (hv x);refine vZ hio (jQ hio (xX hio h1 I hd hn) h2) (v:=f x) (w':=w) ?_ ⟨x,h,?_⟩
 ·rw [eX hio] at hop;unfold execOp;simp only [hop,(xX hio h1 I hd hn).ev (hy x),Kk,Wk,Hq,hld]
 ·rw [h3];refine I.next hio hT hA hn hd ?_ (Sees.refl _) (λ_ _ _=>rfl) (.inl ⟨d,f,Ej hp,rfl⟩) (λq hq hD=>I.facts q hq (hD.resolve_left λe=>?_))
  ·rw [zW ho]; exact I.mem.putN _ _
  ·have:=Sj.1 hF q hq
   simp [e] at this
theorem r_callv (hT:dK R=true) (hA:cK R ops=true) (hmono:∀ q∈R.F,∀ x h h',Sees h h'->q.2 x h->q.2 x h') (d:Nat) (f:Gh->Value) (dp:List Nat) (p:Nat) (hp:R.T[p]?=some (i,d,f)) (ho:only R i none=true) (hF:(R.F.all λt=>t.1 != i)=true) (hk:∀ x,okR R ops i d dp x=true)
  (k:FuncId) (args:Gh->Array Value) (hr:∀ x w,(execOp (evD (rdE R i dp x)) (dX ops i)).run P w=.ok (.enter k (args x)) w)
  (hc:∀ x H,Sees R.h H->(∀ (j:Nat) (q:Nat × (Gh->Vw->Prop)),R.F[j]?=some q->(R.an i).contains q.1=true->q.2 x H)->(∀ m,(∀ b∈R.C.wr,b∈m)->∃ l,Sees ⟨R.C.w0,m⟩ ⟨H.w,l⟩)->C0 P k (args x) H (λv _=>v=f x)):StepAt' P ops Q R i:=by
 refine .mk λo D x h a w hio hn hd I=>?_;obtain ⟨h1,h2,h3,h4⟩:=vW hio (hk x);have han:=rJ hA hio I hd;have hcc:=hc x ⟨w,blk (BD R.G D x)++R.C.bad0⟩ (I.sees.trans I.mem.sees) (λj q hq hc=>hmono q (Ej hq) x _ _ I.mem.sees (I.facts q (Ej hq) (han _ (by simpa using hc)))) (λm hm=>⟨_,I.mem.lent hm⟩);refine wpOp_call hio (jQ hio (xX hio h1 I hd hn) h2) (by rw [kY (xX hio h1 I hd hn) h4,<- eX hio]; exact hr x w) ((hcc (by intro x hx; cases hx) (by simp) (by simp) (bad_lt I.mem)).mono ?_);rintro e w' ⟨v,Bo,rfl,hl,-,-,rfl⟩;obtain ⟨j,s⟩:=I.mem.called hl;refine ⟨f x,rfl,x,⟨w',blk (BD R.G D x)++R.C.bad0⟩,?_⟩;rw [h3];refine I.next hio hT hA hn hd ?_ s (λ_ _ _=>rfl) (.inl ⟨d,f,Ej hp,rfl⟩) (λq hq hD=>hmono q hq x _ _ s (I.facts q hq (hD.resolve_left λe=>?_)))
 ·rw [zW ho]; exact j.putN _ _
 ·have:=Sj.1 hF q hq
  simp [e] at this
theorem r_calv (hT:dK R=true) (hA:cK R ops=true) (hmono:∀ q∈R.F,∀ x h h',Sees h h'->q.2 x h->q.2 x h') (d:Nat) (f:Gh->Value) (dp:List Nat) (p:Nat) (k:FuncId) (args:Gh->Array Value)
  (hc:∀ x H,Sees R.h H->(∀ (j:Nat) (q:Nat × (Gh->Vw->Prop)),R.F[j]?=some q->(R.an i).contains q.1=true->q.2 x H)->(∀ m,(∀ b∈R.C.wr,b∈m)->∃ l,Sees ⟨R.C.w0,m⟩ ⟨H.w,l⟩)->C0 P k (args x) H (λv _=>v=f x))
  (hp:R.T[p]?=some (i,d,f):=by kernel_rfl) (ho:only R i none=true:=by kernel_rfl) (hF:(R.F.all λt=>t.1 != i)=true:=by kernel_rfl) (hk:∀ x,okR R ops i d dp x=true:=by intro _; kernel_rfl) (hr:∀ x w,(execOp (evD (rdE R i dp x)) (dX ops i)).run P w=.ok (.enter k (args x)) w:=by intro _ _; kernel_rfl):StepAt' P ops Q R i:=r_callv hT hA hmono d f dp p hp ho hF hk k args hr hc
theorem r_pass (hT:dK R=true) (hA:cK R ops=true) (d:Nat) (dp:List Nat) (p:Nat) (hp:R.T[p]?=some (i,d,λ_=>undef)) (ho:only R i none=true) (hF:(R.F.all λt=>t.1 != i)=true)
  (hk:∀ x,(chkD R ops i dp && gOk R ops i dp x false && (match (dX ops i).dst with | some y=>Nat.beq y d | none=>false))=true):StepAt' P ops Q R i:=by
 refine .mk λo D x h a w hio hn hd I=>?_;have hk:=hk x;simp only [Uj] at hk;obtain ⟨⟨h1,h2⟩,h3⟩:=hk;have h3:o.dst=some d:=by
  rw [eX hio] at h3
  split at h3
  ·rename_i y e; rw [e,Zj h3]
  ·cases h3
 refine wpOp_passed hio (jQ hio (xX hio h1 I hd hn) h2) ⟨x,h,?_⟩;rw [h3];refine I.next hio hT hA hn hd ?_ (Sees.refl _) (λ_ _ _=>rfl) (.inl ⟨d,_,Ej hp,rfl⟩) (λq hq hD=>I.facts q hq (hD.resolve_left λe=>?_))
 ·rw [zW ho]; exact I.mem.putN _ _
 ·have:=Sj.1 hF q hq
  simp [e] at this
structure Ind (R:Reg) (i:Nat):Prop where
 t:∀ (x:Gh) (v:Value),(R.T.filter (λt => !((R.an t.1).contains i || t.1 == i))).map (λt=>t.2.2 (upd x i v))=(R.T.filter (λt => !((R.an t.1).contains i || t.1 == i))).map (λt=>t.2.2 x)
 g:∀ (x:Gh) (v:Value),R.G.map (λg=>(g.vers.filter (λt => !((R.an t.1).contains i || t.1 == i))).map (λt=>t.2 (upd x i v)))=R.G.map (λg=>(g.vers.filter (λt => !((R.an t.1).contains i || t.1 == i))).map (λt=>t.2 x))
 f:∀ (x:Gh) (v:Value),(R.F.filter (λt => !((R.an t.1).contains i || t.1 == i))).map (λt=>t.2 (upd x i v))=(R.F.filter (λt => !((R.an t.1).contains i || t.1 == i))).map (λt=>t.2 x)
theorem map_at {α β:Type} {f g:α->β}:∀ {l:List α},l.map f=l.map g->∀ y∈l,f y=g y
 | [],_,_,hy=>by cases hy
 | z :: l,h,y,hy=>by
  rw [Ik,Ik,Qk] at h;rcases Tj.1 hy with rfl | hy
  ·exact h.1
  ·exact map_at h.2 y hy
theorem free_of (I:Inv R D x h a w) (hn:¬ D i) {j:Nat} (hD:D j):(!((R.an j).contains i || j == i))=true:=by
 rw [Bool.not_eq_true',Bool.or_eq_false_iff];refine ⟨?_,?_⟩
 ·cases hc:(R.an j).contains i with
  | false=>rfl
  | true=>exact absurd (I.closed j hD i (by simpa using hc)) hn
 ·cases hc:j == i with
  | false=>rfl
  | true=>exact absurd ((by simpa using hc:j=i) ▸ hD) hn
theorem Ind.at_t (hi:Ind R i) (I:Inv R D x h a w) (hn:¬ D i) (v:Value):∀ t∈R.T,D t.1->t.2.2 (upd x i v)=t.2.2 x:=λt ht hD =>
 map_at (hi.t x v) t (Jq.2 ⟨ht,free_of I hn hD⟩)
theorem Ind.at_f (hi:Ind R i) (I:Inv R D x h a w) (hn:¬ D i) (v:Value):∀ t∈R.F,D t.1->t.2 (upd x i v)=t.2 x:=λt ht hD =>
 map_at (hi.f x v) t (Jq.2 ⟨ht,free_of I hn hD⟩)
theorem cur_upd {g:Gent} (v:Value) (hg:∀ p∈g.vers,D p.1->p.2 (upd x i v)=p.2 x):cur D (upd x i v) g=cur D x g:=by
 unfold cur;obtain ⟨s,vs⟩:=g;simp only at hg ⊢
 induction vs generalizing s with
 | nil=>rfl
 | cons p vs ih =>
  have e:sel (D p.1) (some (p.2 (upd x i v))) s=sel (D p.1) (some (p.2 x)) s:=by
   by_cases hp:D p.1
   ·rw [sel_pos hp,sel_pos hp,hg p (by simp) hp]
   ·rw [sel_neg hp,sel_neg hp]
  rw [Kv,Kv,e];exact ih _ (λq hq=>hg q (by simp [hq]))
theorem Ind.at_g (hi:Ind R i) (I:Inv R D x h a w) (hn:¬ D i) (v:Value) (l:List Gent) (hl:∀ g∈l,g∈R.G):BD l D (upd x i v)=BD l D x:=by
 unfold BD;refine fm_congr λg hg=>cur_upd v λp hp hD=>?_
 have:=map_at (hi.g x v) g (hl g hg)
 exact map_at this p (Jq.2 ⟨hp,free_of I hn hD⟩)
theorem tK (hi:Ind R i) (hmono:∀ q∈R.F,∀ x h h',Sees h h'->q.2 x h->q.2 x h') (I:Inv R D x h a w) (hn:¬ D i) (v:Value) (s:Sees h h') (own:∀ (j:Nat) (q:Nat × (Gh->Vw->Prop)),R.F[j]?=some q->q.1=i->q.2 (upd x i v) h') :
  ∀ q∈R.F,(q.1=i\/D q.1)->q.2 (upd x i v) h':=by
 intro q hq hD;rcases hD with e | hD
 ·obtain ⟨j,hj⟩:=Bq hq;exact own j q hj e
 ·rw [hi.at_f I hn v q hq hD];exact hmono q hq x _ _ s (I.facts q hq hD)
theorem mem_take {α:Type} {l:List α} {n:Nat}:∀ g∈l.take n,g∈l:=λ_ h=>List.mem_of_mem_take h
theorem mem_drop {α:Type} {l:List α} {n:Nat}:∀ g∈l.drop n,g∈l:=λ_ h=>Ww h
theorem r_call (hT:dK R=true) (hA:cK R ops=true) (hmono:∀ q∈R.F,∀ x h h',Sees h h'->q.2 x h->q.2 x h') (hi:Ind R i) (d:Nat) (F:Value->Value) (dp:List Nat) (p:Nat) (hp:R.T[p]?=some (i,d,λx=>F (x i))) (ho:only R i none=true) (hk:∀ x,okR R ops i d dp x=true)
  (k:FuncId) (args:Gh->Array Value) (hr:∀ x w,(execOp (evD (rdE R i dp x)) (dX ops i)).run P w=.ok (.enter k (args x)) w)
  (hc:∀ x H,Sees R.h H->(∀ (j:Nat) (q:Nat × (Gh->Vw->Prop)),R.F[j]?=some q->(R.an i).contains q.1=true->q.2 x H)->(∀ m,(∀ b∈R.C.wr,b∈m)->∃ l,Sees ⟨R.C.w0,m⟩ ⟨H.w,l⟩) ->
   C0 P k (args x) H (λv H'=>∃ u,v=F u/\∀ (j:Nat) (q:Nat × (Gh->Vw->Prop)),R.F[j]?=some q->q.1=i->q.2 (upd x i u) H')):StepAt' P ops Q R i:=by
 refine .mk λo D x h a w hio hn hd I=>?_;obtain ⟨h1,h2,h3,h4⟩:=vW hio (hk x);have han:=rJ hA hio I hd;have hcc:=hc x ⟨w,blk (BD R.G D x)++R.C.bad0⟩ (I.sees.trans I.mem.sees) (λj q hq hc=>hmono q (Ej hq) x _ _ I.mem.sees (I.facts q (Ej hq) (han _ (by simpa using hc)))) (λm hm=>⟨_,I.mem.lent hm⟩);refine wpOp_call hio (jQ hio (xX hio h1 I hd hn) h2) (by rw [kY (xX hio h1 I hd hn) h4,<- eX hio]; exact hr x w) ((hcc (by intro x hx; cases hx) (by simp) (by simp) (bad_lt I.mem)).mono ?_);rintro e w' ⟨v,Bo,rfl,hl,-,-,u,rfl,hv⟩;obtain ⟨j,s⟩:=I.mem.called hl;refine ⟨F u,rfl,upd x i u,⟨w',blk (BD R.G D x)++R.C.bad0⟩,?_⟩;rw [h3];have hself:upd x i u i=u:=by simp [upd]
 refine I.next hio hT hA hn hd ?_ s (hi.at_t I hn u) (.inl ⟨d,_,Ej hp,by simp only [hself]⟩) (tK hi hmono I hn u s hv);rw [zW ho,hi.at_g I hn u _ (λ_ h=>h)];exact j.putN _ _
theorem vX (hT : dK R = true) (hA : cK R ops = true) (hmono : ∀ q ∈ R.F, ∀ x h h', Sees h h' -> q.2 x h -> q.2 x h') (d : Nat) (F : Value -> Value) (dp : List Nat) (p : Nat) (k : FuncId) (args : Gh -> Array Value) (hc : ∀ x H, Sees R.h H -> (∀ (j : Nat) (q : Nat × (Gh -> Vw -> Prop)), R.F[j]? = some q -> (R.an i).contains q.1 = true -> q.2 x H) -> (∀ m, (∀ b ∈ R.C.wr, b ∈ m) -> ∃ l, Sees ⟨R.C.w0, m⟩ ⟨H.w, l⟩) ->
      C0 P k (args x) H (λv H' => ∃ u, v = F u /\ ∀ (j : Nat) (q : Nat × (Gh -> Vw -> Prop)), R.F[j]? = some q -> q.1 = i -> q.2 (upd x i u) H')) (hi : Ind R i := by exact ⟨λ_ _ => by kernel_rfl, λ_ _ => by kernel_rfl, λ_ _ => by kernel_rfl⟩) (hp : R.T[p]? = some (i, d, λx => F (x i)) := by kernel_rfl) (ho : only R i none = true := by kernel_rfl) (hk : ∀ x, okR R ops i d dp x = true := by intro _; kernel_rfl) (hr : ∀ x w, (execOp (evD (rdE R i dp x)) (dX ops i)).run P w = .ok (.enter k (args x)) w := by intro _ _; kernel_rfl) : StepAt' P ops Q R i := r_call hT hA hmono hi d F dp p hp ho hk k args hr hc
theorem at_next (I:Inv R D x h a w) (hn:¬ D i) (han:∀ k∈R.an i,D k) {g:Gent} (hs:sync R i g=true) (x':Gh):cur (λj=>j=i\/D j) x' g=iK (i :: R.an i) x' g:=by
 refine cur_at λp hp=>?_
 have:=Sj.1 hs p hp
 simp only [Zv] at this
 by_cases hpi:p.1=i
 ·exact .inl ⟨by simp [hpi],.inl hpi⟩
 ·cases hc:(R.an i).contains p.1 with
  | true=>exact .inl ⟨by simp only [List.contains_cons,hc,Bool.or_true],.inr (han _ (by simpa using hc))⟩
  | false =>
   refine .inr ⟨by simp only [List.contains_cons,hc,Bool.or_false]; simpa using hpi,λhD=>?_⟩;rcases hD with hD | hD
   ·exact hpi hD
   ·rw [hc] at this;rcases this with (k | k) | k
    ·cases k
    ·exact hpi (by simpa using k)
    ·exact hn (I.closed _ hD _ (by simpa using k))
theorem r_call1 (hT:dK R=true) (hA:cK R ops=true) (hmono:∀ q∈R.F,∀ x h h',Sees h h'->q.2 x h->q.2 x h') (hi:Ind R i) (d:Nat) (F:Value->Value) (dp:List Nat) (p:Nat) (hp:R.T[p]?=some (i,d,λx=>F (x i))) (hk:∀ x,okR R ops i d dp x=true)
  (e:Nat) (g:Gent) (hg:R.G[e]?=some g) (ho:only R i (some e)=true) (hs:sync R i g=true) (b:Nat) (cs cs':Gh->List Value) (hc0:∀ x,iK (R.an i) x g=some (.box b (cs x))) (hc1:∀ x,iK (i :: R.an i) x g=some (.box b (cs' x)))
  (k:FuncId) (args:Gh->Array Value) (hr:∀ x w,(execOp (evD (rdE R i dp x)) (dX ops i)).run P w=.ok (.enter k (args x)) w)
  (hc:∀ x H,Sees R.h H->(∀ (j:Nat) (q:Nat × (Gh->Vw->Prop)),R.F[j]?=some q->(R.an i).contains q.1=true->q.2 x H)->(∀ m,(∀ b∈R.C.wr,b∈m)->∃ l,b∈l/\Sees ⟨R.C.w0,m⟩ ⟨H.w,l⟩) ->
   C1 P k (args x) H b (cs x) (λv c H'=>∃ u,v=F u/\c=cs' (upd x i u)/\∀ (j:Nat) (q:Nat × (Gh->Vw->Prop)),R.F[j]?=some q->q.1=i->q.2 (upd x i u) H')):StepAt' P ops Q R i:=by
 refine .mk λo D x h a w hio hn hd I=>?_;obtain ⟨h1,h2,h3,h4⟩:=vW hio (hk x);have han:=rJ hA hio I hd;have hcur:=(jK (x':=x) I hn han hs).trans (hc0 x);have hB0:=nJ (D:=D) (x:=x) hg;rw [hcur] at hB0;have hB1:BD R.G D x=BD (R.G.take e) D x++.box b (cs x) :: BD (R.G.drop (e + 1)) D x:=by rw [hB0]; simp
 have hbm:b∈blk (BD R.G D x):=by rw [hB1]; exact Fk.2 ⟨.box b (cs x),by simp,by simp [Ent.blocks]⟩
 have hbi:(BD R.G D x)[(BD (R.G.take e) D x).length]?=some (.box b (cs x)):=by rw [hB1]; simp
 have hbx:Box w b (cs x):=I.mem.ents (.box b (cs x)) (Ej hbi);have hcc:=hc x ⟨w,blk (BD R.G D x)++R.C.bad0⟩ (I.sees.trans I.mem.sees) (λj q hq hc=>hmono q (Ej hq) x _ _ I.mem.sees (I.facts q (Ej hq) (han _ (by simpa using hc)))) (λm hm=>⟨_,Ek _ hbm,I.mem.lent hm⟩);refine wpOp_call hio (jQ hio (xX hio h1 I hd hn) h2) (by rw [kY (xX hio h1 I hd hn) h4,<- eX hio]; exact hr x w) ((hcc (by intro y hy; simp at hy; subst hy; exact hbx) (by simp) (by simp [hbm]) (bad_lt I.mem)).mono ?_);rintro e' w' ⟨v,Bo,rfl,hl,hbo,hbn,c,hcs,u,rfl,rfl,hv⟩;have hBo:Bo=[(b,cs' (upd x i u))]:=by
  match Bo,hbn,hcs with
  | [y],hbn,hcs=>simp at hbn hcs; obtain ⟨y1,y2⟩:=y; simp at hbn hcs; rw [hbn,hcs]
  | [],hbn,_=>simp at hbn
  | _ :: _ :: _,hbn,_=>simp at hbn
 subst hBo;obtain ⟨j,s⟩:=I.mem.called1 (cs':=cs' (upd x i u)) hbi (by simpa using hl) (hbo _ (Pj.2 rfl));refine ⟨F u,rfl,upd x i u,⟨w',blk (BD R.G D x)++R.C.bad0⟩,?_⟩;rw [h3];have hself:upd x i u i=u:=by simp [upd]
 refine I.next hio hT hA hn hd ?_ s (hi.at_t I hn u) (.inl ⟨d,_,Ej hp,by simp only [hself]⟩) (tK hi hmono I hn u s hv);rw [aX ho hg,at_next I hn han hs,hc1,hi.at_g I hn u _ mem_take,hi.at_g I hn u _ mem_drop];have hset:(BD R.G D x).set (BD (R.G.take e) D x).length (.box b (cs' (upd x i u)))=BD (R.G.take e) D x++.box b (cs' (upd x i u)) :: BD (R.G.drop (e + 1)) D x:=by
  rw [hB1]; simp
 rw [hset] at j
 have:=j.putN d (F u)
 simpa using this
theorem r_fact (hT:dK R=true) (hA:cK R ops=true) (hmono:∀ q∈R.F,∀ x h h',Sees h h'->q.2 x h->q.2 x h') (hi:Ind R i) (d:Nat) (f:Nat->Value) (dp:List Nat) (p:Nat) (hp:R.T[p]?=some (i,d,λx=>f (uJ (x i)))) (ho:only R i none=true) (hk:∀ x,okR R ops i d dp x=true)
  (cs:Gh->List Value) (t:TypeId) (hr:∀ x w,(execOp (evD (rdE R i dp x)) (dX ops i)).run P w=.ok (.value (f w.heap.size)) (w.alloc (.cells (cs x).toArray t)))
  (hR:∀ x b H,Cells H b 0 (cs x)->∀ (j:Nat) (q:Nat × (Gh->Vw->Prop)),R.F[j]?=some q->q.1=i->q.2 (upd x i (.pointer (some ⟨b,0,none⟩))) H):StepAt' P ops Q R i:=by
 refine .mk λo D x h a w hio hn hd I=>?_;obtain ⟨h1,h2,h3,h4⟩:=vW hio (hk x);refine vZ hio (jQ hio (xX hio h1 I hd hn) h2) (by rw [kY (xX hio h1 I hd hn) h4,<- eX hio]; exact hr x w) ?_;obtain ⟨h',s,c,j⟩:=I.mem.fact (cs x) t;refine ⟨upd x i (.pointer (some ⟨w.heap.size,0,none⟩)),h',?_⟩;rw [h3];have hself:upd x i (.pointer (some ⟨w.heap.size,0,none⟩)) i=.pointer (some ⟨w.heap.size,0,none⟩):=by simp [upd]
 refine I.next hio hT hA hn hd ?_ s (hi.at_t I hn _) (.inl ⟨d,_,Ej hp,by simp only [hself,uJ]⟩) (tK hi hmono I hn _ s (hR x _ _ c));rw [zW ho,hi.at_g I hn _ _ (λ_ h=>h)];exact j.putN _ _
theorem J.perm {C:Fx} {E:List (Nat × Value)} {B B':List Ent} (hJ:J C E B h a w) (hp:B.Perm B'):J C E B' h a w:=by
 have hb:(blk B).Perm (blk B'):=hp.flatMap_right _;refine ⟨hJ.fits,hJ.size,hJ.defers,hJ.low,⟨hJ.sees.size,hJ.sees.block,λb hb' hlt=>hJ.sees.bad b ?_ hlt⟩,λe he=>hJ.ents e (hp.mem_iff.2 he),hb.nodup_iff.1 hJ.nodup,λb hb'=>hJ.own b (hb.mem_iff.2 hb'),hJ.badlt⟩;rcases Qj.1 hb' with g | g
 ·exact Ek _ (hb.mem_iff.2 g)
 ·exact Vj _ g
theorem r_alloc (hT:dK R=true) (hA:cK R ops=true) (hmono:∀ q∈R.F,∀ x h h',Sees h h'->q.2 x h->q.2 x h') (hi:Ind R i) (hF:(R.F.all λt=>t.1 != i)=true) (d:Nat) (dp:List Nat) (p:Nat) (hp:R.T[p]?=some (i,d,λx=>.pointer (some ⟨uJ (x i),0,none⟩))) (hk:∀ x,okR R ops i d dp x=true)
  (e:Nat) (g:Gent) (hg:R.G[e]?=some g) (ho:only R i (some e)=true) (hs:sync R i g=true) (cs:Gh->List Value) (hc0:∀ x,iK (R.an i) x g=none) (hc1:∀ x,iK (i :: R.an i) x g=some (.box (uJ (x i)) (cs x)))
  (t:TypeId) (hr:∀ x w,(execOp (evD (rdE R i dp x)) (dX ops i)).run P w=.ok (.value (.pointer (some ⟨w.heap.size,0,none⟩))) (w.alloc (.cells (cs x).toArray t))) (hcs:∀ x v,cs (upd x i v)=cs x):StepAt' P ops Q R i:=by
 refine .mk λo D x h a w hio hn hd I=>?_;obtain ⟨h1,h2,h3,h4⟩:=vW hio (hk x);have han:=rJ hA hio I hd;refine vZ hio (jQ hio (xX hio h1 I hd hn) h2) (by rw [kY (xX hio h1 I hd hn) h4,<- eX hio]; exact hr x w) ?_;have hl:Low [] w (w.alloc (.cells (cs x).toArray t)):=Low.of_below ((Wj _ _).alloc (Hj _) _);have s:=(I.mem.grow hl).sees;have hcur:=(jK (x':=x) I hn han hs).trans (hc0 x);refine ⟨upd x i (.pointer (some ⟨w.heap.size,0,none⟩)),⟨w.alloc (.cells (cs x).toArray t),w.heap.size :: (blk (BD R.G D x)++R.C.bad0)⟩,?_⟩;rw [h3];have hself:upd x i (.pointer (some ⟨w.heap.size,0,none⟩)) i=.pointer (some ⟨w.heap.size,0,none⟩):=by simp [upd]
 have hcur1:cur (λj=>j=i\/D j) (upd x i (.pointer (some ⟨w.heap.size,0,none⟩))) g=some (.box w.heap.size (cs x)):=by
  rw [cur_at (A:=i :: R.an i) (λp hp=>?_),hc1,hself,hcs]; rfl
  have:=Sj.1 hs p hp
  simp only [Zv] at this
  by_cases hpi:p.1=i
  ·exact .inl ⟨by simp [hpi],.inl hpi⟩
  ·cases hc:(R.an i).contains p.1 with
   | true=>exact .inl ⟨by simp only [List.contains_cons,hc,Bool.or_true],.inr (han _ (by simpa using hc))⟩
   | false =>
    refine .inr ⟨by simp only [List.contains_cons,hc,Bool.or_false]; simpa using hpi,λhD=>?_⟩;rcases hD with hD | hD
    ·exact hpi hD
    ·rw [hc] at this;rcases this with (k | k) | k
     ·cases k
     ·exact hpi (by simpa using k)
     ·exact hn (I.closed _ hD _ (by simpa using k))
 have hnew:=(I.mem.new (cs x) t);have hBD:BD R.G D x=BD (R.G.take e) D x++BD (R.G.drop (e + 1)) D x:=by rw [nJ hg,hcur]; simp
 have hmem:J R.C [] (BD R.G (λj=>j=i\/D j) (upd x i (.pointer (some ⟨w.heap.size,0,none⟩)))) ⟨w.alloc (.cells (cs x).toArray t),w.heap.size :: (blk (BD R.G D x)++R.C.bad0)⟩ a (w.alloc (.cells (cs x).toArray t)):=by
  have hn':=hnew.now;have hsee:Sees (⟨w.alloc (.cells (cs x).toArray t),w.heap.size :: (blk (BD R.G D x)++R.C.bad0)⟩:Vw) ⟨w.alloc (.cells (cs x).toArray t),blk (.box w.heap.size (cs x) :: BD R.G D x)++R.C.bad0⟩:=⟨Hj _,λ_ _ _=>rfl,λb hb _=>by simpa [blk,Ent.blocks] using hb⟩;have hj:J R.C [] (.box w.heap.size (cs x) :: BD R.G D x) ⟨w.alloc (.cells (cs x).toArray t),w.heap.size :: (blk (BD R.G D x)++R.C.bad0)⟩ a (w.alloc (.cells (cs x).toArray t)) :=
   ⟨hn'.fits,hn'.size,hn'.defers,hn'.low,hsee,hn'.ents,hn'.nodup,hn'.own,hn'.badlt⟩
  refine hj.perm ?_;rw [aX ho hg,hcur1,hi.at_g I hn _ _ mem_take,hi.at_g I hn _ _ mem_drop,hBD];simp only [Xw,Lq,Uw];exact List.perm_middle.symm
 have hs2:Sees h ⟨w.alloc (.cells (cs x).toArray t),w.heap.size :: (blk (BD R.G D x)++R.C.bad0)⟩:=by
  refine ⟨s.size,s.block,λb hb hlt=>?_⟩;rcases Tj.1 hb with rfl | hb
  ·have:=I.mem.sees.size
   simp only at this;omega
  ·exact s.bad b hb hlt
 refine I.next hio hT hA hn hd (hmem.putN _ _) hs2 (hi.at_t I hn _) (.inl ⟨d,_,Ej hp,by simp only [hself,uJ]⟩) (tK hi hmono I hn _ hs2 (λj q hq he=>?_))
 have:=Sj.1 hF q (Ej hq)
 simp [he] at this
theorem J.appended {C:Fx} {E:List (Nat × Value)} {B1 B2:List Ent} {v v':Value} {t:TypeId} {kk:Nat} {l m:List (List Value)} (hJ:J C E (B1++.row v t kk l :: B2) h a w) (hg:w.grownBy w' v.ownBlock) (hw:w'.ownsRow C.base t kk v' (l++m).length (l++m).flatten) (hk:∀ r∈m,r.length=kk)
  (hb:v'.ownBlock=v.ownBlock\/v'.ownBlock=some w.heap.size):∃ h',Sees h h'/\J C E (B1++.row v' t kk (l++m) :: B2) h' a w':=by
 have hvm:∀ b,v.ownBlock=some b->b∈blk (B1++.row v t kk l :: B2):=λb hb=>Fk.2 ⟨.row v t kk l,by simp,by simp [Ent.blocks,hb]⟩;have hrow:=hJ.ents (.row v t kk l) (by simp);have hnd:=hJ.nodup;have hblt:=blk_lt hJ;have hbad:=bad_lt hJ;have hown:=hJ.own;have ho:∀ k,k < w.heap.size->v.ownBlock≠some k->w'.heap[k]?=w.heap[k]?:=λk hk hne=>hg.block k hk (λe=>hne e.symm);have hsub:∀ b∈blk (B1++.row v' t kk (l++m) :: B2),b∈blk (B1++.row v t kk l :: B2)\/b=w.heap.size:=by
  intro b hb';rw [vJ] at hb' ⊢;simp only [blk,Dv,Ent.blocks,Qj] at hb' ⊢;rcases hb' with k | k | k
  ·exact .inl (.inl k)
  ·simp only [Option.mem_toList] at k;rcases hb with e | e
   ·exact .inl (.inr (.inl (by simp only [Option.mem_toList]; rw [<- e]; exact k)))
   ·rw [e] at k; simp at k; exact .inr k.symm
  ·exact .inl (.inr (.inr k))
 have hlow:Low C.wr C.w0 w':=⟨hg.os.trans hJ.low.os,hg.tape.trans hJ.low.tape,hg.output.trans hJ.low.output,Yk hJ.low.size hg.size,λk hk hm=>(ho k (Cq hk hJ.low.size) (λe=>by
  rcases hown k (hvm k e) with g | g
  ·omega
  ·exact hm g)).trans (hJ.low.block k hk hm)⟩
 have hsee:Sees h ⟨w',blk (B1++.row v' t kk (l++m) :: B2)++C.bad0⟩:=⟨Yk hJ.sees.size hg.size,λb hb1 hn=>(ho b (Cq hb1 hJ.sees.size) (λe=>hn (hJ.sees.bad b (Ek _ (hvm b e)) hb1))).trans (hJ.sees.block b hb1 hn),λb hb1 hlt=>by
  rcases Qj.1 hb1 with k | k
  ·rcases hsub b k with k | k
   ·exact hJ.sees.bad b (Ek _ k) hlt
   ·have:=hJ.sees.size; simp only at this; omega
  ·exact hJ.sees.bad b (Vj _ k) hlt⟩
 refine ⟨_,hsee,hJ.fits,hJ.size,hJ.defers,hlow,Sees.refl _,λe he=>?_,?_,λb hb1=>?_,hJ.badlt⟩
 ·have key:∀ e∈B1++B2,e.ok C.base w':=by
   intro e he;have heB:e∈B1++.row v t kk l :: B2:=by
    rcases Qj.1 he with g | g
    ·exact Ek _ g
    ·exact Vj _ (Gk _ g)
   refine ok_block (hJ.ents e heB) hg.size (λk hk=>ho k (hblt k (Fk.2 ⟨e,heB,hk⟩)) (λev=>?_));rw [vJ] at hnd;simp only [blk,Dv,Ent.blocks,ev,Xw] at hnd;rw [Dq] at hnd;obtain ⟨n1,n2,n3⟩:=hnd;rcases Qj.1 he with g | g
   ·exact n3 _ (Fk.2 ⟨e,g,hk⟩) _ (by simp) rfl
   ·rw [Uw,Mq] at n2;exact n2.1 (Fk.2 ⟨e,g,hk⟩)
  rcases Qj.1 he with g | g
  ·exact key e (Ek _ g)
  ·rcases Tj.1 g with rfl | g
   ·exact ⟨hw,λr hr=>(Qj.1 hr).elim (hrow.2 r) (hk r)⟩
   ·exact key e (Vj _ g)
 ·rw [vJ] at hnd ⊢;simp only [blk,Dv,Ent.blocks] at hnd ⊢;rcases hb with e | e
  ·rw [e]; exact hnd
  ·rw [e];have hfresh:∀ e'∈B1++B2,w.heap.size ∉ e'.blocks:=λe' he' hm=>by
    have:e'∈B1++.row v t kk l :: B2:=by
     rcases Qj.1 he' with g | g
     ·exact Ek _ g
     ·exact Vj _ (Gk _ g)
    have:=hblt _ (Fk.2 ⟨e',this,hm⟩)
    omega
   rw [Dq] at hnd ⊢;obtain ⟨n1,n2,n3⟩:=hnd;rw [Dq] at n2;obtain ⟨m1,m2,m3⟩:=n2;refine ⟨n1,?_,λb hb1 c hc1=>?_⟩
   ·simp only [Xw,Uw,Mq];refine ⟨λhm=>?_,m2⟩;obtain ⟨e',he',hm⟩:=Fk.1 hm;exact hfresh e' (Vj _ he') hm
   ·simp only [Xw,Uw,Tj] at hc1;rcases hc1 with rfl | hc1
    ·rintro rfl;obtain ⟨e',he',hm⟩:=Fk.1 hb1;exact hfresh e' (Ek _ he') hm
    ·exact n3 b hb1 c (Vj _ hc1)
 ·rcases hsub b hb1 with k | k
  ·exact hown b k
  ·exact .inl (by rw [k]; exact hJ.low.size)
theorem flat_size {kk:Nat}:∀ (l:List (List Value)),(∀ r∈l,r.length=kk)->l.flatten.length=l.length * kk
 | [],_=>by simp
 | y :: l,hl=>by
  rw [Cv,Bk,flat_size l (λr hr=>hl r (by simp [hr])),hl y (by simp),Sk,Uq]; omega
theorem run_append_at {base:Nat} {v:Value} {t e:TypeId} {kk bytes m c:Nat} {z:Value} {l ns:List (List Value)} {g:Nat} (ht:P.underlying t=some (.slice e)) (hi:(P.info? e).map (λi=>(i.zero,i.size,i.bytes))=some (some z,kk,bytes)) (hz:z.cells.size=kk) (hk0:0 < kk)
  (hown:w.ownsRow base e kk v l.length l.flatten) (hnews:w.rangeAt g 0 ns.flatten) (hns:∀ r∈ns,r.length=kk) (hm:ns.length=m) (h1:ns.flatten.all (·.oneCell')=true) (hlen:(l.length + m) * bytes<=140737488355328) (hlen2:l.length + m<=maxLen) (hb:base<=w.heap.size) :
  ∃ v' w',(Builtin.append_ #[t,t] t #[v,.slice (some ⟨g,0,none⟩) m c]).run P w=.ok v' w'/\w'.ownsRow base e kk v' (l++ns).length (l++ns).flatten/\w.grownBy w' v.ownBlock/\(v'.ownBlock=v.ownBlock\/v'.ownBlock=some w.heap.size):=by
 cases hq:P.info? e with
 | none=>simp [hq] at hi
 | some i =>
  simp only [hq,Bv,Yj,Kq] at hi;obtain ⟨hi1,hi2,hi3⟩:=hi;obtain ⟨v',w',hr,h2,h3,-,h5⟩:=run_append_own_at (P:=P) w base t t e i z kk bytes ht hq hi1 hi2 hi3 hz hk0 v l.length l.flatten hown ⟨g,0,none⟩ m c ns.flatten (by rw [flat_size ns hns,hm]) (λj u hj=>by rw [Addr.add_mid]; exact hnews j u hj) (λu hu=>Sj.1 h1 u hu) hlen2 hlen hb;exact ⟨v',w',hr,by rw [Bk,List.flatten_append,hm]; exact h2,h3,h5⟩
def chkRows (kk:Nat) (ns:List (List Value)) (m:Nat):Bool:=Nat.ble 1 kk && ns.all (λr=>Nat.beq r.length kk) && Nat.beq ns.length m && ns.flatten.all (·.oneCell')
theorem chkRows_parts {kk m:Nat} {ns:List (List Value)} (h:chkRows kk ns m=true):0 < kk/\(∀ r∈ns,r.length=kk)/\ns.length=m/\ns.flatten.all (·.oneCell')=true:=by
 simp only [chkRows,Uj] at h;obtain ⟨⟨⟨h1,h2⟩,h3⟩,h4⟩:=h;exact ⟨Nq h1,λr hr=>Zj (Sj.1 h2 r hr),Zj h3,h4⟩
theorem s_append {C:Fx} {E:List (Nat × Value)} {B:List Ent} {rest:List Oper} {o:Oper} {g0:Vw} (hJ:J C E B h a w) (d i:Nat) {v:Value} {t te:TypeId} {kk:Nat} {l ns:List (List Value)} {b m c:Nat} {y z:Operand} (hk:okOp C E o d=true) (hop:o.op=.call { callee:=.builtin .append,args:=#[y,z],argTypes:=#[t,t] }) (hty:o.type=t)
  (hB:B[i]?=some (.row v te kk l)) (hy:evE E y=some v) (hz:evE E z=some (.slice (some ⟨b,0,none⟩) m c)) (hc:Cells g0 b 0 ns.flatten) (hs:Sees g0 h)
  (ht:P.underlying t=some (.slice te)) {zv:Value} {bytes:Nat} (hinfo:(P.info? te).map (λi=>(i.zero,i.size,i.bytes))=some (some zv,kk,bytes)) (hzs:zv.cells.size=kk) (hck:chkRows kk ns m=true)
  (hlen:(l.length + m) * bytes<=140737488355328/\l.length + m<=9223372036854775807) (k:∀ u h' a w,Sees h h'->J C ((d,.slice (sA u) (sN u) (sC u)) :: E) (B.set i (.row (.slice (sA u) (sN u) (sC u)) te kk (l++ns))) h' a w->wpList P ops Q rest a w):wpList P ops Q (o :: rest) a w:=by
 obtain ⟨h1',h2,h3,h4⟩:=uW hk;obtain ⟨hk0,hns,hm,h1⟩:=chkRows_parts hck;have hi:=(Nj.1 hB).1;have hset:∀ x,B.set i x=B.take i++x :: B.drop (i + 1):=λx=>by
  have:=Iw (l:=B) (i:=i) (a:=x)
  rwa [Cj hi] at this
 have hB1:B=B.take i++.row v te kk l :: B.drop (i + 1):=by
  rw [<- hset];refine (Vq λj=>?_);rw [Yv]
  split
  ·subst_vars; rw [hB]
  ·rfl
 have hmem:=hJ;rw [hB1] at hmem;have hrow:Ent.ok C.base w (.row v te kk l):=hmem.ents _ (by simp);obtain ⟨v',w',hrun,hown,hgr,hob⟩:=run_append_at (P:=P) (c:=c) ht hinfo hzs hk0 hrow.1 (hc.sees (hs.trans hJ.sees)).lies hns hm h1 hlen.1 (by unfold maxLen; exact hlen.2) hJ.base_le;obtain ⟨h',s,j⟩:=hmem.appended hgr hown hns hob;refine Vk h1' λ_ hK=>?_;unfold Oper.wp execOp;simp only [hop,resolve,invoke,builtin,Kk,Wk,Hq,List.map_toArray,Ik,List.map_nil,hJ.fits.ev hy,hJ.fits.ev hz,hty,hrun];obtain ⟨A',c',rfl,-,-⟩:=gY (j.ents (.row v' te kk (l++ns)) (by simp));refine hK _ _ (k (.slice A' (l++ns).length c') h' _ _ s ?_);rw [hset];exact j.putd _ h2 h3
theorem r_append (hT:dK R=true) (hA:cK R ops=true) (hmono:∀ q∈R.F,∀ x h h',Sees h h'->q.2 x h->q.2 x h') (hi:Ind R i) (hF:(R.F.all λt=>t.1 != i)=true) (d:Nat) (dp:List Nat) (p:Nat) (hp:R.T[p]?=some (i,d,λx=>.slice (sA (x i)) (sN (x i)) (sC (x i)))) (hk:∀ x,okR R ops i d dp x=true)
  (e:Nat) (g:Gent) (hg:R.G[e]?=some g) (ho:only R i (some e)=true) (hs:sync R i g=true) (v:Gh->Value) (t te:TypeId) (kk:Nat) (l ns:Gh->List (List Value)) (hc0:∀ x,iK (R.an i) x g=some (.row (v x) te kk (l x))) (hc1:∀ x,iK (i :: R.an i) x g=some (.row (.slice (sA (x i)) (sN (x i)) (sC (x i))) te kk (l x++ns x)))
  (hln:∀ x u,(l (upd x i u),ns (upd x i u))=(l x,ns x)) (y z:Operand) (hop:(dX ops i).op=.call { callee:=.builtin .append,args:=#[y,z],argTypes:=#[t,t] }) (hty:(dX ops i).type=t) (b:Gh->Nat) (m c:Nat) (hy:∀ x,evE (rdE R i dp x) y=some (v x)) (hz:∀ x,evE (rdE R i dp x) z=some (.slice (some ⟨b x,0,none⟩) m c))
  (fk:Nat) (fi:Nat) (ff:Gh->Vw->Prop) (hfk:R.F[fk]?=some (fi,ff)) (hfa:(R.an i).contains fi=true) (hff:∀ x H,ff x H->Cells H (b x) 0 (ns x).flatten)
  (ht:P.underlying t=some (.slice te)) {zv:Value} {bytes:Nat} (hinfo:(P.info? te).map (λi=>(i.zero,i.size,i.bytes))=some (some zv,kk,bytes)) (hzs:zv.cells.size=kk) (hck:∀ x,chkRows kk (ns x) m=true)
  (hlen:∀ x,((l x).length + m) * bytes<=140737488355328/\(l x).length + m<=9223372036854775807):StepAt' P ops Q R i:=by
 refine .mk λo D x h a w hio hn hd I=>?_;obtain ⟨h1',h2,h3,h4⟩:=vW hio (hk x);obtain ⟨hk0,hns,hm,h1⟩:=chkRows_parts (hck x);rw [eX hio] at hop hty;have han:=rJ hA hio I hd;have hf:=xX hio h1' I hd hn;have hcur:=(jK (x':=x) I hn han hs).trans (hc0 x);have hB0:=nJ (D:=D) (x:=x) hg;rw [hcur] at hB0;have hB1:BD R.G D x=BD (R.G.take e) D x++.row (v x) te kk (l x) :: BD (R.G.drop (e + 1)) D x:=by rw [hB0]; simp
 have hmem:=I.mem;rw [hB1] at hmem;have hrow:Ent.ok R.C.base w (.row (v x) te kk (l x)):=hmem.ents _ (by simp);have hcell:=(hff x h (I.facts _ (Ej hfk) (han _ (by simpa using hfa)))).sees I.mem.sees;obtain ⟨v',w',hrun,hown,hgr,hob⟩:=run_append_at (P:=P) (c:=c) ht hinfo hzs hk0 hrow.1 hcell.lies hns hm h1 (hlen x).1 (by unfold maxLen; exact (hlen x).2) I.mem.base_le;obtain ⟨h',s,j⟩:=hmem.appended hgr hown hns hob;obtain ⟨A',c',rfl,-,-⟩:=gY (j.ents (.row v' te kk (l x++ns x)) (by simp));generalize hv':Value.slice A' (l x++ns x).length c'=v' at *;have hsl:Value.slice (sA v') (sN v') (sC v')=v':=by rw [<- hv']; rfl
 refine vZ hio (jQ hio hf h2) (v:=v') (w':=w') ?_ ⟨upd x i v',h',?_⟩
 ·unfold execOp;simp only [hop,resolve,invoke,builtin,Kk,Wk,Hq,List.map_toArray,Ik,List.map_nil,hf.ev (hy x),hf.ev (hz x),hty,hrun]
 ·rw [h3];have hself:upd x i v' i=v':=by simp [upd]
  have hl2:=hln x v';simp only [Kq] at hl2;refine I.next hio hT hA hn hd ?_ s (hi.at_t I hn v') (.inl ⟨d,_,Ej hp,by simp only [hself,hsl]⟩) (tK hi hmono I hn v' s (λj q hq he=>?_))
  ·rw [aX ho hg,at_next I hn han hs,hc1,hself,hsl,hi.at_g I hn v' _ mem_take,hi.at_g I hn v' _ mem_drop,hl2.1,hl2.2]
   have:=j.putN d v'
   simpa using this
  ·have:=Sj.1 hF q (Ej hq)
   simp [he] at this
theorem r_store (hT:dK R=true) (hA:cK R ops=true) (dp:List Nat) (hp:(R.T.all λt=>t.1 != i)=true) (hF:(R.F.all λt=>t.1 != i)=true) (hk:∀ x,(chkD R ops i dp && gOk R ops i dp x true && (dX ops i).dst.isNone)=true)
  (e:Nat) (g:Gent) (hg:R.G[e]?=some g) (ho:only R i (some e)=true) (hs:sync R i g=true) (b:Gh->Nat) (cs cs':Gh->List Value) (hc0:∀ x,iK (R.an i) x g=some (.box (b x) (cs x))) (hc1:∀ x,iK (i :: R.an i) x g=some (.box (b x) (cs' x)))
  (t:TypeId) (y z:Operand) (off:Nat) (v:Gh->Value) (hop:(dX ops i).op=.store t y z) (hy:∀ x,evE (rdE R i dp x) y=some (.pointer (some ⟨b x,off,none⟩))) (hz:∀ x,evE (rdE R i dp x) z=some (v x))
  (hv:∀ x,wY P t (cs x) off (v x)=true) (hcs:∀ x,uX (cs x) off (v x).cells.toList=cs' x):StepAt' P ops Q R i:=by
 refine .mk λo D x h a w hio hn hd I=>?_;have hk:=hk x;simp only [Uj] at hk;obtain ⟨⟨h1,h2⟩,h3⟩:=hk;rw [eX hio] at h3 hop;have h3:o.dst=none:=by simpa using h3
 have han:=rJ hA hio I hd;have hcur:=(jK (x':=x) I hn han hs).trans (hc0 x);have hf:=xX hio h1 I hd hn;have hB0:=nJ (D:=D) (x:=x) hg;rw [hcur] at hB0;have hbx:Box w (b x) (cs x):=I.mem.ents (.box (b x) (cs x)) (by rw [hB0]; simp);obtain ⟨w',hrun,k1,k2,k3⟩:=run_store_box (P:=P) hbx (hv x);refine wpOp_skip hio (jQ hio hf h2) (w':=w') ?_ ⟨x,h,?_⟩
 ·unfold execOp;simp only [hop,hf.ev (hy x),hf.ev (hz x),Kk,Wk,Hq,hrun]
 ·have hput:a.put o.dst undef=a:=by rw [h3]; rfl
  rw [hput];have hcur1:cur (λj=>j=i\/D j) x g=some (.box (b x) (cs' x)):=by
   rw [cur_at (A:=i :: R.an i) (λp hp=>?_),hc1]
   have:=Sj.1 hs p hp
   simp only [Zv] at this
   by_cases hpi:p.1=i
   ·exact .inl ⟨by simp [hpi],.inl hpi⟩
   ·cases hc:(R.an i).contains p.1 with
    | true=>exact .inl ⟨by simp only [List.contains_cons,hc,Bool.or_true],.inr (han _ (by simpa using hc))⟩
    | false =>
     refine .inr ⟨by simp only [List.contains_cons,hc,Bool.or_false]; simpa using hpi,λhD=>?_⟩;rcases hD with hD | hD
     ·exact hpi hD
     ·rw [hc] at this;rcases this with (k | k) | k
      ·cases k
      ·exact hpi (by simpa using k)
      ·exact hn (I.closed _ hD _ (by simpa using k))
  refine I.next hio hT hA hn hd ?_ (Sees.refl _) (λ_ _ _=>rfl) (.inr ⟨λhm=>?_,rfl⟩) (λq hq hD=>I.facts q hq (hD.resolve_left λe=>?_))
  ·rw [aX ho hg,hcur1]
   have:=I.mem.set (B1:=BD (R.G.take e) D x) (B2:=BD (R.G.drop (e + 1)) D x) (b:=b x) (cs:=cs x) (cs':=cs' x) (by rw [hB0]; simp) k1 k2 (by rw [<- hcs x]; exact k3)
   simpa using this
  ·obtain ⟨q,hq,e⟩:=Rj.1 hm
   have:=Sj.1 hp q hq
   simp [e] at this
  ·have:=Sj.1 hF q hq
   simp [e] at this
def gKnown (E:List (Nat × Value)) (ops:Array Oper) (o:Oper):Option Bool :=
 match o.guard with
 | none=>some true
 | some (g,b)=>match (dX ops g).dst with
  | some dg=>match lookup E dg with
   | some (.bool c)=>some (c == b)
   | some (.tuple _)=>some false
   | _=>none
  | none=>none
theorem iQ {E:List (Nat × Value)} {o:Oper} {yes:Bool} (hf:Fits E a) (hk:gKnown E ops o=some yes):Region.wanted o (yielded ops a.tmps)=yes:=by
 unfold gKnown at hk
 split at hk
 ·rename_i e; simp only [Yj] at hk; subst hk; simp [Region.wanted,e]
 ·rename_i g b e
  split at hk
  ·rename_i dg hdg
   split at hk
   ·rename_i c hc;have hgd:(ops[g]?).bind (·.dst)=some dg:=by
     cases hg:ops[g]? with
     | none =>
      exfalso
      unfold dX at hdg;rw [Uk,Qv,hg] at hdg
      cases hdg
     | some og=>rw [eX hg] at hdg; exact hdg
    rw [wanted_of e hgd (hf dg _ hc)]
    simpa using hk
   ·rename_i cs hc;have hgd:(ops[g]?).bind (·.dst)=some dg:=by
     cases hg:ops[g]? with
     | none =>
      exfalso
      unfold dX at hdg;rw [Uk,Qv,hg] at hdg
      cases hdg
     | some og=>rw [eX hg] at hdg; exact hdg
    rw [wanted_tuple e hgd (hf dg _ hc)]
    simpa using hk
   ·cases hk
  ·cases hk
theorem J.rew {C:Fx} {E:List (Nat × Value)} {B:List Ent} (hJ:J C E B h a w) (d:Nat) {v v':Value} (hv:v=v') (hd:lookup E d=some v):J C ((d,v') :: E) B h a w:=by
 subst hv;refine ⟨λt u ht=>?_,hJ.size,hJ.defers,hJ.low,hJ.sees,hJ.ents,hJ.nodup,hJ.own,hJ.badlt⟩;simp only [lookup] at ht
 split at ht
 ·rename_i e;have e:=Zj e;simp only [Yj] at ht;subst ht e;exact hJ.fits _ _ hd
 ·exact hJ.fits _ _ ht
theorem C0.facts {k:FuncId} {args:Array Value} {H:Vw} {F:Value->Value} {G:Value->Vw->Prop} {f:Gh->Vw->Prop} {n:Nat} (hc:C0 P k args H (λv H'=>∃ u,v=F u/\G u H')) (hk:R.F[n]?=some (i,f)) (ho:(R.F.zipIdx.all λ(p,j)=>p.1 != i || j == n)=true) (hG:∀ u H',G u H'->f (upd x i u) H') :
  C0 P k args H (λv H'=>∃ u,v=F u/\∀ (j:Nat) (q:Nat × (Gh->Vw->Prop)),R.F[j]?=some q->q.1=i->q.2 (upd x i u) H'):=by
 intro a1 a2 a3 a4;refine (hc a1 a2 a3 a4).mono ?_;rintro e w' ⟨v,Bo,h1,h2,h3,h4,u,h5,h6⟩;refine ⟨v,Bo,h1,h2,h3,h4,u,h5,λj q hq he=>?_⟩
 have:=Sj.1 ho (q,j) (Jw.2 hq)
 simp only [he,bne_self_eq_false,Bool.false_or,Xj] at this;subst this;rw [hk] at hq;simp only [Yj] at hq;subst hq;exact hG u _ h6
theorem C1.facts {k:FuncId} {args:Array Value} {H:Vw} {b:Nat} {cs:List Value} {F:Value->Value} {N:Value->List Value} {N':Gh->List Value} {G:Value->Vw->Prop} {f:Gh->Vw->Prop} {n:Nat} (hc:C1 P k args H b cs (λv c H'=>∃ u,v=F u/\c=N u/\G u H')) (hk:R.F[n]?=some (i,f)) (ho:(R.F.zipIdx.all λ(p,j)=>p.1 != i || j == n)=true)
  (hN:∀ u,N u=N' (upd x i u)) (hG:∀ u H',G u H'->f (upd x i u) H') :
  C1 P k args H b cs (λv c H'=>∃ u,v=F u/\c=N' (upd x i u)/\∀ (j:Nat) (q:Nat × (Gh->Vw->Prop)),R.F[j]?=some q->q.1=i->q.2 (upd x i u) H'):=by
 intro a1 a2 a3 a4;refine (hc a1 a2 a3 a4).mono ?_;rintro e w' ⟨v,Bo,h1,h2,h3,h4,cs',h5,u,h6,h7,h8⟩;refine ⟨v,Bo,h1,h2,h3,h4,cs',h5,u,h6,by rw [h7,hN],λj q hq he=>?_⟩
 have:=Sj.1 ho (q,j) (Jw.2 hq)
 simp only [he,bne_self_eq_false,Bool.false_or,Xj] at this;subst this;rw [hk] at hq;simp only [Yj] at hq;subst hq;exact hG u _ h8
theorem dec_wrap (d:Nat) (h:d < 1000000):Value.int .i64 (IntKind.i64.wrap (((d + 1:Nat):Int) - 1))=.int .i64 (d:Int):=by
 rw [IntWalk.i64_in _ (by omega)]
 congr 1
 omega
theorem C0.of_same {k:FuncId} {args:Array Value} {v:Value} (hc:∀ w,Calls P k args w λe w'=>e=.returned v/\w=w') (h:Vw):C0 P k args h (λv' _=>v'=v):=by
 intro _ _ _ _;refine (hc h.w).mono ?_;rintro e w' ⟨rfl,rfl⟩;exact ⟨v,[],rfl,Low.refl _ _,(λx hx=>by cases hx),rfl,rfl⟩
theorem C0.of_gives {k:FuncId} {args:Array Value} {v:Value} (hc:∀ w,Calls P k args w (Gives v w)) (h:Vw):C0 P k args h (λv' _=>v'=v):=by
 intro _ _ _ _;refine (hc h.w).mono ?_;rintro e w' ⟨rfl,hb⟩;exact ⟨v,[],rfl,Low.of_below hb,(λx hx=>by cases hx),rfl,rfl⟩
theorem C0.mono {k:FuncId} {args:Array Value} {R R':Value->Vw->Prop} (hc:C0 P k args h R) (hr:∀ v h',Sees h h'->R v h'->R' v h'):C0 P k args h R':=by
 intro a1 a2 a3 a4;refine (hc a1 a2 a3 a4).mono ?_;rintro e w' ⟨v,Bo,h1,h2,h3,h4,h5⟩;exact ⟨v,Bo,h1,h2,h3,h4,hr v _ ⟨h2.size,λb hb _=>h2.block b hb (by simp),λb hb _=>hb⟩ h5⟩
theorem own_fact {k:Nat} {f:Gh->Vw->Prop} (hk:R.F[k]?=some (i,f)) (ho:(R.F.zipIdx.all λ(p,j)=>p.1 != i || j == k)=true) (c:f x h) (j:Nat) (q:Nat × (Gh->Vw->Prop)) (hq:R.F[j]?=some q) (he:q.1=i):q.2 x h:=by
 have:=Sj.1 ho (q,j) (Jw.2 hq)
 simp only [he,bne_self_eq_false,Bool.false_or,Xj] at this;subst this;rw [hk] at hq;simp only [Yj] at hq;subst hq;exact c
end
def child (c:Code) (n:Nat):Code :=
 match c with
 | .seq a b=>match n with | 0=>a | _=>b
 | .cond _ a b=>match n with | 0=>a | _=>b
 | .block _ b=>b
 | .loop b=>b
 | .scope b=>b
 | c=>c
def sub (c:Code):List Nat->Code
 | []=>c
 | n :: p=>child (sub c p) n
def opsOf:Code->Array Oper
 | .region _ ops _=>ops
 | _=>#[]
def fX (c:Code) (p:List Nat):Array Oper:=opsOf (sub c p)
inductive Kt where
 | seq (p:List Nat)
 | block (id:Nat)
inductive Pt where
 | code (p:List Nat)
 | ops (p:List Nat) (n:Nat)
 | out (e:Exit)
def post (P:Program) (c0:Code) (Q:Exit->Act->World->Prop):List Kt->Exit->Act->World->Prop
 | []=>Q
 | .seq p :: ks=>Exit.then ((sub c0 p).wp P (post P c0 Q ks)) (post P c0 Q ks)
 | .block id :: ks=>Exit.inBlock id (post P c0 Q ks)
def Goal (P:Program) (c0:Code) (Q:Exit->Act->World->Prop) (p:Pt) (ks:List Kt) (a:Act) (w:World):Prop :=
 match p with
 | .code p=>(sub c0 p).wp P (post P c0 Q ks) a w
 | .ops p n=>wpList P (fX c0 p) (post P c0 Q ks) ((fX c0 p).toList.drop n) a w
 | .out e=>post P c0 Q ks e a w
abbrev Fac:=Nat × Nat × List Value
structure K (C:Fx) (E:List (Nat × Value)) (B:List Ent) (F:List Fac) (h:Vw) (a:Act) (w:World):Prop where
 j:J C E B h a w
 f:∀ x∈F,Cells h x.1 x.2.1 x.2.2
inductive Any where
 | v (x:Value) | ls (x:List (List Value)) | r (x:Result Next) | b (x:Bool) | ov (x:List (Option Value)) | bs (x:List Ent) | fs (x:List Fac) | pt (p:Pt) (k:List Kt) | bad
inductive Hint where
 | b (i o : Nat)      -- a load, a store: own block i, at o
 | f (i o : Nat)      -- a load: known cells i, at o
 | own                -- a new block, the call's own
 | fix                -- .. known, never written
 | ix (b off n cap k : Nat)      -- the address of element k of a slice
 | pu                 -- it is reckoned
 | cl (f : FuncId) (args : Array Value) (v : Value)      -- a call that gives v
 | ap (i j : Nat) (l ns : List (List Value))      -- an append to own row i, which holds l, of known cells j, which are the rows ns
structure St where
 p:Pt
 ks:List Kt
 E:List (Nat × Value)
 B:List Ent
 F:List Fac
 hs:List Hint
 cs:List (Nat × Value × Value)
inductive Stp where
 | go (s:St) (e:World->List (Any × Any))
 | fresh (fx:Bool) (f:Nat->St) (e:World->List (Any × Any))
 | freshV (f:Value->St) (e:World->List (Any × Any))
 | bad
def castOf:List (Nat × Value × Value)->Nat->Option (Value × Value)
 | [],_=>none
 | p :: l,d=>match Nat.beq p.1 d with
  | true=>some p.2
  | false=>castOf l d
def tZ:World:={ heap:=#[],tape:=λ_ _=>0,drawn:=0,os:=default,output:=#[] }
def cellsMade (P:Program) (E:List (Nat × Value)) (o:Oper):List Value :=
 match (execOp (evD E) o).run P tZ with
 | .ok _ w=>match w.heap.toList with
  | .cells c _ _ :: _=>c.toList
  | _=>[]
 | _=>[]
def elemT (P:Program) (t:TypeId):TypeId :=
 match P.underlying t with
 | some (.slice e)=>e
 | _=>t
def madeT (P:Program):Op->TypeId
 | .alloc t=>t
 | .box t _=>t
 | .buildSlice t _ _=>elemT P t
 | _=>0
def madeV:Op->Nat->Value
 | .buildSlice _ n _,b=>.slice (some ⟨b,0,none⟩) n n
 | _,b=>.pointer (some ⟨b,0,none⟩)
def stepPure (P:Program) (u:World) (s:St) (p:List Nat) (n:Nat) (o:Oper) (d:Nat) (hs:List Hint):Stp :=
 match (execOp (evD s.E) o).run P u with
 | .ok (.value v) _=>match castOf s.cs d with
  | none=>.go { s with p:=.ops p (n + 1),E:=(d,v) :: s.E,hs:=hs } λw=>[(.r ((execOp (evD s.E) o).run P w),.r (.ok (.value v) w))]
  | some (old,new)=>.go { s with p:=.ops p (n + 1),E:=(d,new) :: s.E,hs:=hs } λw=>[(.r ((execOp (evD s.E) o).run P w),.r (.ok (.value old) w))]
 | _=>.bad
def stepMade (P:Program) (s:St) (p:List Nat) (n:Nat) (o:Oper) (d:Nat):Stp :=
 match s.hs with
 | .own :: hs=>.fresh false (λb=>{ s with p:=.ops p (n + 1),E:=(d,madeV o.op b) :: s.E,B:=.box b (cellsMade P s.E o) :: s.B,hs:=hs }) λw=>[(.r ((execOp (evD s.E) o).run P w),.r (.ok (.value (madeV o.op w.heap.size)) (w.alloc (.cells (cellsMade P s.E o).toArray (madeT P o.op)))))]
 | .fix :: hs=>.fresh true (λb=>{ s with p:=.ops p (n + 1),E:=(d,madeV o.op b) :: s.E,F:=(b,0,cellsMade P s.E o) :: s.F,hs:=hs }) λw=>[(.r ((execOp (evD s.E) o).run P w),.r (.ok (.value (madeV o.op w.heap.size)) (w.alloc (.cells (cellsMade P s.E o).toArray (madeT P o.op)))))]
 | _=>.bad
def stepLoad (P:Program) (s:St) (p:List Nat) (n:Nat) (t:TypeId) (x:Operand) (d:Nat):Stp :=
 match s.hs with
 | .b i off :: hs=>match s.B[i]? with
  | some (.box b cs)=>match dW P t cs off with
   | some v=>.go { s with p:=.ops p (n + 1),E:=(d,v) :: s.E,hs:=hs } λ_=>[(.v (evD s.E x),.v (.pointer (some ⟨b,off,none⟩)))]
   | none=>.bad
  | _=>.bad
 | .f i off :: hs=>match s.F[i]? with
  | some (b,o0,cs)=>match dW P t cs off with
   | some v=>.go { s with p:=.ops p (n + 1),E:=(d,v) :: s.E,hs:=hs } λ_=>[(.v (evD s.E x),.v (.pointer (some ⟨b,o0 + off,none⟩)))]
   | none=>.bad
  | _=>.bad
 | _=>.bad
def stepStore (P:Program) (s:St) (p:List Nat) (n:Nat) (t:TypeId) (x y:Operand):Stp :=
 match s.hs with
 | .b i off :: hs=>match s.B[i]? with
  | some (.box b cs)=>.go { s with p:=.ops p (n + 1),B:=s.B.set i (.box b (uX cs off (evD s.E y).cells.toList)),hs:=hs } λ_=>[(.v (evD s.E x),.v (.pointer (some ⟨b,off,none⟩))),(.b (wY P t cs off (evD s.E y)),.b true)]
  | _=>.bad
 | _=>.bad
def stepIx (P:Program) (u:World) (s:St) (p:List Nat) (n:Nat) (o:Oper) (t:TypeId) (x y:Operand) (d:Nat):Stp :=
 match P.underlying t with
 | some (.slice e)=>match s.hs with
  | .ix b off m cap k :: hs=>match P.info? e with
   | some i=>.go { s with p:=.ops p (n + 1),E:=(d,.pointer (some ⟨b,off + k * i.size,none⟩)) :: s.E,hs:=hs } λ_=>[(.v (evD s.E x),.v (.slice (some ⟨b,off,none⟩) m cap)),(.v (evD s.E y),.v (.int .i64 (k:Int)))]
   | none=>.bad
  | .pu :: hs=>stepPure P u s p n o d hs
  | _=>.bad
 | _=>stepPure P u s p n o d s.hs
def stepApp (P:Program) (s:St) (p:List Nat) (n:Nat) (o:Oper) (c:Call) (d:Nat):Stp :=
 match c.args.toList,c.argTypes.toList,s.hs with
 | [y,z],[t,t'],.ap i j l ns :: hs=>match s.B[i]?,s.F[j]?,evD s.E z,P.underlying t with
  | some (.row v te kk l0),some (b,0,cs),.slice _ m cp,some (.slice te')=>match P.info? te with
   | some inf=>match inf.zero with
    | some zv=>.freshV (λu=>{ s with p:=.ops p (n + 1),E:=(d,.slice (sA u) (sN u) (sC u)) :: s.E,B:=s.B.set i (.row (.slice (sA u) (sN u) (sC u)) te kk (l++ns)),hs:=hs })
      λ_=>[(.v (evD s.E y),.v v),(.v (evD s.E z),.v (.slice (some ⟨b,0,none⟩) m cp)),(.ls l0,.ls l),(.ls [cs],.ls [ns.flatten]),(.b (Nat.beq t' t && Nat.beq o.type t && Nat.beq te' te && Nat.beq inf.size kk && Nat.beq zv.cells.size kk && Nat.ble inf.bytes 1000000 && chkRows kk ns m),.b true)]
    | none=>.bad
   | none=>.bad
  | _,_,_,_=>.bad
 | _,_,_=>.bad
def stepCall (P:Program) (u:World) (s:St) (p:List Nat) (n:Nat) (o:Oper) (c:Call) (d:Nat):Stp :=
 match c.callee with
 | .value _=>match s.hs with
  | .cl f args v :: hs=>.go { s with p:=.ops p (n + 1),E:=(d,v) :: s.E,hs:=hs } λw=>[(.r ((execOp (evD s.E) o).run P w),.r (.ok (.enter f args) w))]
  | _=>.bad
 | .builtin .append=>stepApp P s p n o c d
 | _=>stepPure P u s p n o d s.hs
def stepOp (P:Program) (C:Fx) (u:World) (s:St) (p:List Nat) (n:Nat) (ops:Array Oper) (o:Oper):Stp :=
 match gKnown s.E ops o with
 | none=>.bad
 | some false=>match o.dst with
  | some d=>match Nat.blt d C.N with
   | true=>.go { s with p:=.ops p (n + 1),E:=(d,undef) :: s.E } λ_=>[]
   | false=>.bad
  | none=>.go { s with p:=.ops p (n + 1) } λ_=>[]
 | some true=>match gX s.E o with
  | false=>.bad
  | true=>match o.dst with
   | none=>match o.op with
    | .store t x y=>stepStore P s p n t x y
    | _=>.bad
   | some d=>match Nat.blt d C.N with
    | false=>.bad
    | true=>match o.op with
     | .load t x=>stepLoad P s p n t x d
     | .alloc _=>stepMade P s p n o d
     | .box _ _=>stepMade P s p n o d
     | .buildSlice _ _ _=>stepMade P s p n o d
     | .indexAddr t x y=>stepIx P u s p n o t x y d
     | .call c=>stepCall P u s p n o c d
     | _=>stepPure P u s p n o d s.hs
def stepCode (s:St) (p:List Nat):Code->Stp
 | .skip=>.go { s with p:=.out .normal } λ_=>[]
 | .label _=>.go { s with p:=.out .normal } λ_=>[]
 | .seq _ _=>.go { s with p:=.code (0 :: p),ks:=.seq (1 :: p) :: s.ks } λ_=>[]
 | .block id _=>.go { s with p:=.code (0 :: p),ks:=.block id :: s.ks } λ_=>[]
 | .exit id=>.go { s with p:=.out (.exit id) } λ_=>[]
 | .ret=>.go { s with p:=.out .ret } λ_=>[]
 | .cond c _ _=>match evE s.E c with
  | some (.bool true)=>.go { s with p:=.code (0 :: p) } λ_=>[]
  | some (.bool false)=>.go { s with p:=.code (1 :: p) } λ_=>[]
  | _=>.bad
 | .region _ _ draw=>match draw with
  | false=>.go { s with p:=.ops p 0 } λ_=>[]
  | true=>.bad
 | _=>.bad
def isNorm:Exit->Bool
 | .normal=>true
 | _=>false
def stepOut (s:St) (e:Exit):Stp :=
 match s.ks with
 | []=>.bad
 | .seq q :: ks=>match isNorm e with
  | true=>.go { s with p:=.code q,ks:=ks } λ_=>[]
  | false=>.go { s with p:=.out e,ks:=ks } λ_=>[]
 | .block id :: ks=>match e with
  | .exit id'=>match Nat.beq id' id with
   | true=>.go { s with p:=.out .normal,ks:=ks } λ_=>[]
   | false=>.go { s with p:=.out (.exit id'),ks:=ks } λ_=>[]
  | e=>.go { s with p:=.out e,ks:=ks } λ_=>[]
def step1 (P:Program) (C:Fx) (c0:Code) (u:World) (s:St):Stp :=
 match s.p with
 | .code p=>stepCode s p (sub c0 p)
 | .ops p n=>match (fX c0 p).toList.drop n with
  | []=>.go { s with p:=.out .normal } λ_=>[]
  | o :: _=>stepOp P C u s p n (fX c0 p) o
 | .out e=>stepOut s e
inductive Tgt where
 | ok (p:Pt) (ks:List Kt) (E:List (Nat × Value)) (B:List Ent) (F:List Fac)
 | new (f:Nat->Tgt)
 | nv (f:Value->Tgt)
inductive Nm where
 | b (n:Nat)
 | v (x:Value)
def ends (s:St) (E:List (Nat × Value)):List Any:=[.pt s.p s.ks,.ov (E.map λp=>lookup s.E p.1),.bs s.B,.fs s.F]
def wants (p:Pt) (ks:List Kt) (E:List (Nat × Value)) (B:List Ent) (F:List Fac):List Any:=[.pt p ks,.ov (E.map λp=>some p.2),.bs B,.fs F]
def Tgt.fin (s:St):Tgt->List Any × List Any
 | .ok p ks E B F=>(ends s E,wants p ks E B F)
 | _=>([.bad],[])
def addE (e:List (Any × Any)) (r:List Any × List Any):List Any × List Any:=(e.map (·.1)++r.1,e.map (·.2)++r.2)
def run (P:Program) (C:Fx) (c0:Code) (u:World) (fl:Bool):Nat->St->Tgt->List Nm->World->List Any × List Any
 | 0,s,T,_,_=>T.fin s
 | n + 1,s,T,l,w=>match step1 P C c0 u s with
  | .go s' e=>addE (e w) (run P C c0 u fl n s' T l w)
  | .fresh fx f e=>match T,l,fx && !fl with
   | .new g,.b b :: l,false=>addE (e w) (run P C c0 u fl n (f b) (g b) l w)
   | _,_,_=>([.bad],[])
  | .freshV f e=>match T,l,fl with
   | .nv g,.v x :: l,true=>addE (e w) (run P C c0 u fl n (f x) (g x) l w)
   | _,_,_=>([.bad],[])
  | .bad=>([.bad],[])
def Tgt.all:Tgt->(List Nm->Prop)->Prop
 | .new f,q=>∀ b,(f b).all λl=>q (.b b :: l)
 | .nv f,q=>∀ b,(f b).all λl=>q (.v b :: l)
 | .ok ..,q=>q []
def Tgt.good (C:Fx) (h:Vw) (G:Pt->List Kt->Act->World->Prop) (fl:Bool):Tgt->Prop
 | .ok p ks E B F=>match fl with
  | false=>∀ a w,K C E B F h a w->G p ks a w
  | true=>∀ h' a w,Sees h h'->K C E B F h' a w->G p ks a w
 | .new f=>∀ b,(f b).good C h G fl
 | .nv f=>∀ b,(f b).good C h G fl
def owes (P:Program) (h:Vw):List Hint->Prop
 | []=>True
 | .ix _ _ n _ k :: l=>k < n/\owes P h l
 | .cl f args v :: l=>(∀ H,Sees h H->C0 P f args H λr _=>r=v)/\owes P h l
 | .ap _ _ l0 ns :: l=>l0.length + ns.length<=100000000/\owes P h l
 | _ :: l=>owes P h l
def owesC:List (Nat × Value × Value)->Prop
 | []=>True
 | p :: l=>p.2.1=p.2.2/\owesC l
section
variable {P:Program} {C:Fx} {c0:Code} {u:World} {Q:Exit->Act->World->Prop} {h h0:Vw} {a:Act} {w:World} {s s':St} {T:Tgt}
theorem Tgt.all_mono {q q':List Nm->Prop}:∀ {T:Tgt},T.all q->(∀ l,q l->q' l)->T.all q'
 | .ok ..,h,k=>k _ h
 | .new _,h,k=>λb=>Tgt.all_mono (h b) λl=>k (.b b :: l)
 | .nv _,h,k=>λb=>Tgt.all_mono (h b) λl=>k (.v b :: l)
theorem Tgt.all_some {q:List Nm->Prop}:∀ {T:Tgt},T.all q->∃ l,q l
 | .ok ..,h=>⟨_,h⟩
 | .new f,h=>by obtain ⟨l,hl⟩:=Tgt.all_some (h 0); exact ⟨_,hl⟩
 | .nv f,h=>by obtain ⟨l,hl⟩:=Tgt.all_some (h undef); exact ⟨_,hl⟩
theorem addE_eq:∀ {e:List (Any × Any)} {r:List Any × List Any},(addE e r).1=(addE e r).2->(∀ x∈e,x.1=x.2)/\r.1=r.2
 | [],r,h=>⟨by simp,by simpa [addE] using h⟩
 | x :: e,r,h=>by
  simp only [addE,Ik,Xq,Qk] at h
  have:=addE_eq (e:=e) (r:=r) h.2
  refine ⟨λy hy=>?_,this.2⟩;rcases Tj.1 hy with rfl | hy
  ·exact h.1
  ·exact this.1 y hy
theorem castOf_owes:∀ {l:List (Nat × Value × Value)} {d:Nat} {p:Value × Value},owesC l->castOf l d=some p->p.1=p.2
 | q :: l,d,p,h,e=>by
  unfold castOf at e
  split at e
  ·simp only [Yj] at e; subst e; exact h.1
  ·exact castOf_owes h.2 e
structure Ok (P:Program) (C:Fx) (h0:Vw) (fl:Bool) (s:St) (h:Vw) (a:Act) (w:World):Prop where
 k:K C s.E s.B s.F h a w
 sees:Sees h0 h
 owes:owes P h0 s.hs
 owesC:owesC s.cs
 same:fl=false->h=h0
def Suff (P:Program) (C:Fx) (c0:Code) (Q:Exit->Act->World->Prop) (h0:Vw) (fl:Bool) (a:Act) (w:World) (p:Pt) (ks:List Kt):Stp->Prop
 | .go s' e=>(∀ w,∀ x∈e w,x.1=x.2)->(∀ h a w,Ok P C h0 fl s' h a w->Goal P c0 Q s'.p s'.ks a w)->Goal P c0 Q p ks a w
 | .fresh fx f e=>(∀ w,∀ x∈e w,x.1=x.2)->(fx=true->fl=true)->(∀ b h a w,Ok P C h0 fl (f b) h a w->Goal P c0 Q (f b).p (f b).ks a w)->Goal P c0 Q p ks a w
 | .freshV f e=>(∀ w,∀ x∈e w,x.1=x.2)->fl=true->(∀ b h a w,Ok P C h0 fl (f b) h a w->Goal P c0 Q (f b).p (f b).ks a w)->Goal P c0 Q p ks a w
 | .bad=>True
theorem kK {l:List Oper} {n:Nat} {o:Oper} {r:List Oper} (h:l.drop n=o :: r):r=l.drop (n + 1):=by
 have:(l.drop n).tail=r:=by rw [h]; rfl
 rw [<- this,List.tail_drop]
section ops
variable {p:List Nat} {n:Nat} {o:Oper} {rest:List Oper} {d:Nat} {fl:Bool}
theorem kJ (hl:(fX c0 p).toList.drop n=o :: rest) {ks:List Kt} (hw:Region.wanted o (yielded (fX c0 p) a.tmps)=true)
  (k:wpList P (fX c0 p) (post P c0 Q ks) ({ o with guard:=none } :: rest) a w):Goal P c0 Q (.ops p n) ks a w:=by
 unfold Goal;simp only;rw [hl];unfold wpList at k ⊢;rw [Cj hw];rw [Cj (by simp [Region.wanted])] at k;exact k
theorem ok_put (ok:Ok P C h0 fl s h a w) (v:Value) (hd:o.dst=some d) (hlt:d < C.N) {pt:Pt} {hs:List Hint} (ho:owes P h0 hs) :
  Ok P C h0 fl { s with p:=pt,E:=(d,v) :: s.E,hs:=hs } h (a.put o.dst v) w :=
 ⟨⟨ok.k.j.putd v hd hlt,ok.k.f⟩,ok.sees,ho,ok.owesC,ok.same⟩
theorem okk (hd:o.dst=some d) (hlt:d < C.N) (hk:gX s.E o=true):okOp C s.E { o with guard:=none } d=true:=by
 have hk':gX s.E { o with guard:=none }=true:=hk;unfold okOp;rw [hk'];simp [hd,Nat.blt_eq,hlt]
theorem owes_tail {x:Hint} {l:List Hint} (h:owes P h0 (x :: l)):owes P h0 l:=by
 cases x <;> first | exact h | exact h.2
theorem suff_pure (hl:(fX c0 p).toList.drop n=o :: rest) (hw:Region.wanted o (yielded (fX c0 p) a.tmps)=true) (hd:o.dst=some d) (hlt:d < C.N) (hk:gX s.E o=true) (ok:Ok P C h0 fl s h a w) {hs:List Hint} (ho:owes P h0 hs) :
  Suff P C c0 Q h0 fl a w (.ops p n) s.ks (stepPure P u s p n o d hs):=by
 have hr:=kK hl;unfold stepPure
 split
 ·rename_i v _ _
  split
  ·intro he k;have he:=he w _ (Pj.2 rfl);simp only [Any.r.injEq] at he;refine kJ hl hw (Vk rfl λKK hK=>?_);unfold Oper.wp;rw [kY (o:={ o with guard:=none }) ok.k.j.fits hk,show (execOp (evD s.E) { o with guard:=none }).run P w=_ from he];refine hK _ _ ?_;rw [hr];exact k _ _ _ (ok_put ok v hd hlt ho)
  ·rename_i old new hc;intro he k;have he:=he w _ (Pj.2 rfl);simp only [Any.r.injEq] at he
   have:=castOf_owes ok.owesC hc
   simp only at this;subst this;refine kJ hl hw (Vk rfl λKK hK=>?_);unfold Oper.wp;rw [kY (o:={ o with guard:=none }) ok.k.j.fits hk,show (execOp (evD s.E) { o with guard:=none }).run P w=_ from he];refine hK _ _ ?_;rw [hr];exact k _ _ _ (ok_put ok _ hd hlt ho)
 ·trivial
theorem suff_made (hl:(fX c0 p).toList.drop n=o :: rest) (hw:Region.wanted o (yielded (fX c0 p) a.tmps)=true) (hd:o.dst=some d) (hlt:d < C.N) (hk:gX s.E o=true) (ok:Ok P C h0 fl s h a w) :
  Suff P C c0 Q h0 fl a w (.ops p n) s.ks (stepMade P s p n o d):=by
 have hr:=kK hl;unfold stepMade
 split
 ·rename_i hs e;intro he _ k;have he:=he w _ (Pj.2 rfl);simp only [Any.r.injEq] at he;have ho:=ok.owes;rw [e] at ho;refine kJ hl hw (Vk rfl λKK hK=>?_);unfold Oper.wp;rw [kY (o:={ o with guard:=none }) ok.k.j.fits hk,show (execOp (evD s.E) { o with guard:=none }).run P w=_ from he];refine hK _ _ ?_;rw [hr];exact k w.heap.size _ _ _ ⟨⟨(ok.k.j.new _ _).putd _ hd hlt,ok.k.f⟩,ok.sees,owes_tail ho,ok.owesC,ok.same⟩
 ·rename_i hs e;intro he hfl k;have he:=he w _ (Pj.2 rfl);simp only [Any.r.injEq] at he;have ho:=ok.owes;rw [e] at ho;have hfl:=hfl rfl;obtain ⟨h',s1,c1,j1⟩:=ok.k.j.fact (cellsMade P s.E o) (madeT P o.op);refine kJ hl hw (Vk rfl λKK hK=>?_);unfold Oper.wp;rw [kY (o:={ o with guard:=none }) ok.k.j.fits hk,show (execOp (evD s.E) { o with guard:=none }).run P w=_ from he];refine hK _ _ ?_;rw [hr];refine k w.heap.size _ _ _ ⟨⟨j1.putd _ hd hlt,λx hx=>?_⟩,ok.sees.trans s1,owes_tail ho,ok.owesC,λe=>by rw [e] at hfl; cases hfl⟩;rcases Tj.1 hx with rfl | hx
  ·exact c1
  ·exact (ok.k.f x hx).sees s1
 ·trivial
theorem ev_of {E:List (Nat × Value)} {x:Operand} (hk:(evE E x).isSome=true):evE E x=some (evD E x):=by
 obtain ⟨v,hv⟩:=Kx.1 hk;simp [evD,hv]
theorem known_of {E:List (Nat × Value)} (hk:gX E o=true) {x:Operand} (hx:x∈o.op.operands.toList):evE E x=some (evD E x):=by
 unfold gX at hk;rw [Uj] at hk;exact ev_of (Sj.1 hk.2 x hx)
theorem suff_load (hl:(fX c0 p).toList.drop n=o :: rest) (hw:Region.wanted o (yielded (fX c0 p) a.tmps)=true) (hd:o.dst=some d) (hlt:d < C.N) (hk:gX s.E o=true) (ok:Ok P C h0 fl s h a w) {t:TypeId} {x:Operand} (hop:o.op=.load t x) :
  Suff P C c0 Q h0 fl a w (.ops p n) s.ks (stepLoad P s p n t x d):=by
 have hr:=kK hl;have hx:=known_of hk (x:=x) (by rw [hop]; simp [Op.operands]);have hok:=okk hd hlt hk;unfold stepLoad
 split
 ·rename_i i off hs e;have ho:=ok.owes;rw [e] at ho
  split
  ·rename_i b cs hB
   split
   ·rename_i v hv;intro he k;have he:=he w _ (Pj.2 rfl);simp only [Any.v.injEq] at he;refine kJ hl hw (s_load ok.k.j d v i hok hop hB (by rw [hx,he]) hv λa' j=>?_);rw [hr];exact k _ _ _ ⟨⟨j,ok.k.f⟩,ok.sees,owes_tail ho,ok.owesC,ok.same⟩
   ·trivial
  ·trivial
 ·rename_i i off hs e;have ho:=ok.owes;rw [e] at ho
  split
  ·rename_i b o0 cs hF
   split
   ·rename_i v hv;intro he k;have he:=he w _ (Pj.2 rfl);simp only [Any.v.injEq] at he;refine kJ hl hw (s_loadf ok.k.j d v (ok.k.f _ (Ej hF)) (Sees.refl _) hok hop (by rw [hx,he]) hv λa' j=>?_);rw [hr];exact k _ _ _ ⟨⟨j,ok.k.f⟩,ok.sees,owes_tail ho,ok.owesC,ok.same⟩
   ·trivial
  ·trivial
 ·trivial
theorem suff_store (hl:(fX c0 p).toList.drop n=o :: rest) (hw:Region.wanted o (yielded (fX c0 p) a.tmps)=true) (hd:o.dst=none) (hk:gX s.E o=true) (ok:Ok P C h0 fl s h a w) {t:TypeId} {x y:Operand} (hop:o.op=.store t x y) :
  Suff P C c0 Q h0 fl a w (.ops p n) s.ks (stepStore P s p n t x y):=by
 have hr:=kK hl;have hx:=known_of hk (x:=x) (by rw [hop]; simp [Op.operands]);have hy:=known_of hk (x:=y) (by rw [hop]; simp [Op.operands]);unfold stepStore
 split
 ·rename_i i off hs e;have ho:=ok.owes;rw [e] at ho
  split
  ·rename_i b cs hB;intro he k;have he1:=he w (.v (evD s.E x),.v (.pointer (some ⟨b,off,none⟩))) (Zk ..);have he2:=he w (.b (wY P t cs off (evD s.E y)),.b true) (Gk _ (Pj.2 rfl));simp only [Any.v.injEq] at he1;simp only [Any.b.injEq] at he2;refine kJ hl hw (s_store ok.k.j i (evD s.E y) _ (by simp [hd]) hop hB (by rw [hx,he1]) hy he2 rfl λw' j=>?_);rw [hr];exact k _ _ _ ⟨⟨j,ok.k.f⟩,ok.sees,owes_tail ho,ok.owesC,ok.same⟩
  ·trivial
 ·trivial
theorem suff_ix (hl:(fX c0 p).toList.drop n=o :: rest) (hw:Region.wanted o (yielded (fX c0 p) a.tmps)=true) (hd:o.dst=some d) (hlt:d < C.N) (hk:gX s.E o=true) (ok:Ok P C h0 fl s h a w) {t:TypeId} {x y:Operand} (hop:o.op=.indexAddr t x y) :
  Suff P C c0 Q h0 fl a w (.ops p n) s.ks (stepIx P u s p n o t x y d):=by
 have hr:=kK hl;unfold stepIx
 split
 ·rename_i e ht
  split
  ·rename_i b off m cap k0 hs e2;have ho:=ok.owes;rw [e2] at ho
   split
   ·rename_i i hi;intro he k;have he1:=he w (.v (evD s.E x),.v (.slice (some ⟨b,off,none⟩) m cap)) (Zk ..);have he2:=he w (.v (evD s.E y),.v (.int .i64 (k0:Int))) (Gk _ (Pj.2 rfl));simp only [Any.v.injEq] at he1 he2;refine kJ hl hw (Vk rfl λKK hK=>?_);unfold Oper.wp;rw [kY (o:={ o with guard:=none }) ok.k.j.fits hk,run_indexAddr (o:={ o with guard:=none }) (e:=e) (kk:=i.size) hop he1 he2 ho.1 ht (by rw [hi]; rfl)];refine hK _ _ ?_;rw [hr];exact k _ _ _ (ok_put ok _ hd hlt ho.2)
   ·trivial
  ·rename_i hs e2;have ho:=ok.owes;rw [e2] at ho;exact suff_pure hl hw hd hlt hk ok (owes_tail ho)
  ·trivial
 ·exact suff_pure hl hw hd hlt hk ok ok.owes
theorem suff_app (hl:(fX c0 p).toList.drop n=o :: rest) (hw:Region.wanted o (yielded (fX c0 p) a.tmps)=true) (hd:o.dst=some d) (hlt:d < C.N) (hk:gX s.E o=true) (ok:Ok P C h0 fl s h a w) {c:Call} (hop:o.op=.call c) (hcal:c.callee=.builtin .append) :
  Suff P C c0 Q h0 fl a w (.ops p n) s.ks (stepApp P s p n o c d):=by
 have hr:=kK hl;unfold stepApp
 split
 ·rename_i y z t t' i j l ns hs ha hat e;have ho:=ok.owes;rw [e] at ho
  split
  ·rename_i v te kk l0 b cs zA m cp te' hB hF hz ht
   split
   ·rename_i inf hinf
    split
    ·rename_i zv hzv;intro he hfl k;have he:=he w;simp only [Tj,Bw,or_false,Yw,forall_eq,Any.v.injEq,Any.ls.injEq,Any.b.injEq,Uj,Qk,Iq] at he;obtain ⟨e1,e2,rfl,rfl,⟨⟨⟨⟨⟨b1,b2⟩,b3⟩,b4⟩,b5⟩,b6⟩,b7⟩:=he;have b1:=Zj b1;have b2:=Zj b2;have b3:=Zj b3;have b4:=Zj b4;have b5:=Zj b5;have b6:=Nq b6;subst b1 b3;have hca:c={ callee:=.builtin .append,args:=#[y,z],argTypes:=#[t',t'] }:=by
      obtain ⟨c1,c2,c3⟩:=c;simp only at hcal ha hat;subst hcal
      congr 1
      ·rw [<- Array.toArray_toList (xs:=c2),ha]
      ·rw [<- Array.toArray_toList (xs:=c3),hat]
     have hy1:=known_of hk (x:=y) (by rw [hop,hca]; simp [Op.operands,Call.operands]);have hz1:=known_of hk (x:=z) (by rw [hop,hca]; simp [Op.operands,Call.operands]);have hmm:=(chkRows_parts b7).2.2.1;refine kJ hl hw (s_append (o:={ o with guard:=none }) (m:=m) (c:=cp) (ns:=ns) ok.k.j d i (okk hd hlt hk) (by rw [<- hca]; exact hop) b2 hB (by rw [hy1,e1]) (by rw [hz1,e2]) (ok.k.f _ (Ej hF)) (Sees.refl _) ht (by rw [hinf]; simp only [Bv,hzv,b4]; rfl) b5 b7 ⟨?_,?_⟩ λu h' a' w' s1 j1=>?_)
     ·have h1:=ho.1;rw [hmm] at h1
      calc (l0.length + m) * inf.bytes<=100000000 * 1000000:=Nat.mul_le_mul h1 b6
       _<=_:=by decide
     ·have h1:=ho.1; omega
     ·rw [hr];exact k u _ _ _ ⟨⟨j1,λx hx=>(ok.k.f x hx).sees s1⟩,ok.sees.trans s1,ho.2,ok.owesC,λe=>by rw [e] at hfl; cases hfl⟩
    ·trivial
   ·trivial
  ·trivial
 ·trivial
theorem suff_call (hl:(fX c0 p).toList.drop n=o :: rest) (hw:Region.wanted o (yielded (fX c0 p) a.tmps)=true) (hd:o.dst=some d) (hlt:d < C.N) (hk:gX s.E o=true) (ok:Ok P C h0 fl s h a w) {c:Call} (hop:o.op=.call c) :
  Suff P C c0 Q h0 fl a w (.ops p n) s.ks (stepCall P u s p n o c d):=by
 have hr:=kK hl;unfold stepCall
 split
 ·split
  ·rename_i f args v hs e2;have ho:=ok.owes;rw [e2] at ho;intro he k;have he:=he w _ (Pj.2 rfl);simp only [Any.r.injEq] at he;refine kJ hl hw (Vk rfl λKK hK=>?_);unfold Oper.wp;rw [kY (o:={ o with guard:=none }) ok.k.j.fits hk,show (execOp (evD s.E) { o with guard:=none }).run P w=_ from he];refine (ho.1 ⟨w,blk s.B++C.bad0⟩ (ok.sees.trans ok.k.j.sees) (by intro x hx; cases hx) (by simp) (by simp) (bad_lt ok.k.j)).mono ?_;rintro e w' ⟨v',Bo,rfl,hlow,-,-,rfl⟩;refine hK _ _ ?_;rw [hr];exact k _ _ _ ⟨⟨(ok.k.j.grow hlow).putd _ hd hlt,ok.k.f⟩,ok.sees,ho.2,ok.owesC,ok.same⟩
  ·trivial
 ·rename_i hcal; exact suff_app hl hw hd hlt hk ok hop hcal
 ·exact suff_pure hl hw hd hlt hk ok ok.owes
theorem suff_op (hl:(fX c0 p).toList.drop n=o :: rest) (ok:Ok P C h0 fl s h a w):Suff P C c0 Q h0 fl a w (.ops p n) s.ks (stepOp P C u s p n (fX c0 p) o):=by
 have hr:=kK hl;unfold stepOp
 split
 ·trivial
 ·rename_i hg;have hw:=iQ ok.k.j.fits hg
  split
  ·rename_i d hd
   split
   ·rename_i hlt;intro _ k;unfold Goal;simp only;rw [hl];unfold wpList;rw [Bj (by rw [hw]; simp),hr];exact k _ _ _ ⟨⟨ok.k.j.putd _ hd (by have:=Nq hlt; omega),ok.k.f⟩,ok.sees,ok.owes,ok.owesC,ok.same⟩
   ·trivial
  ·rename_i hd;intro _ k;unfold Goal;simp only;rw [hl];unfold wpList;rw [Bj (by rw [hw]; simp),hr,hd];exact k _ _ _ ⟨⟨ok.k.j,ok.k.f⟩,ok.sees,ok.owes,ok.owesC,ok.same⟩
 ·rename_i hg;have hw:=iQ ok.k.j.fits hg
  split
  ·trivial
  ·rename_i hk
   split
   ·rename_i hd
    split
    ·rename_i t x y hop;exact suff_store hl hw hd hk ok hop
    ·trivial
   ·rename_i d hd
    split
    ·trivial
    ·rename_i hlt;have hlt:d < C.N:=by simpa [Nat.blt_eq] using hlt
     split
     ·rename_i hop; exact suff_load hl hw hd hlt hk ok hop
     ·exact suff_made hl hw hd hlt hk ok
     ·exact suff_made hl hw hd hlt hk ok
     ·exact suff_made hl hw hd hlt hk ok
     ·rename_i hop; exact suff_ix hl hw hd hlt hk ok hop
     ·rename_i hop; exact suff_call hl hw hd hlt hk ok hop
     ·exact suff_pure hl hw hd hlt hk ok ok.owes
end ops
theorem xW {fl:Bool} (ok:Ok P C h0 fl s h a w) (p:Pt) (ks:List Kt):Ok P C h0 fl { s with p:=p,ks:=ks } h a w:=⟨ok.k,ok.sees,ok.owes,ok.owesC,ok.same⟩
theorem suff_code {fl:Bool} {p:List Nat} (ok:Ok P C h0 fl s h a w):Suff P C c0 Q h0 fl a w (.code p) s.ks (stepCode s p (sub c0 p)):=by
 unfold stepCode
 split <;> rename_i hc
 ·intro _ k; unfold Goal; simp only; rw [hc]; exact wp_skip (k _ _ _ (xW ok _ _))
 ·intro _ k; unfold Goal; simp only; rw [hc]; exact wp_label (k _ _ _ (xW ok _ _))
 ·intro _ k; unfold Goal; simp only; rw [hc];refine wp_seq ?_
  have:=k _ _ _ (xW ok _ _)
  simpa only [Goal,post,sub,hc,child] using this
 ·intro _ k; unfold Goal; simp only; rw [hc];refine wp_block ?_
  have:=k _ _ _ (xW ok _ _)
  simpa only [Goal,post,sub,hc,child] using this
 ·intro _ k; unfold Goal; simp only; rw [hc]; exact wp_exit (k _ _ _ (xW ok _ _))
 ·intro _ k; unfold Goal; simp only; rw [hc]; exact wp_ret (k _ _ _ (xW ok _ _))
 ·split
  ·rename_i hv;intro _ k; unfold Goal; simp only; rw [hc];refine wp_cond_true (ok.k.j.fits.ev hv) ?_
   have:=k _ _ _ (xW ok _ _)
   simpa only [Goal,post,sub,hc,child] using this
  ·rename_i hv;intro _ k; unfold Goal; simp only; rw [hc];refine wp_cond_false (ok.k.j.fits.ev hv) ?_
   have:=k _ _ _ (xW ok _ _)
   simpa only [Goal,post,sub,hc,child] using this
  ·trivial
 ·split
  ·intro _ k; unfold Goal; simp only; rw [hc];refine wp_region_list ?_
   have:=k _ _ _ (xW ok _ _)
   simpa only [Goal,fX,opsOf,hc,List.drop_zero] using this
  ·trivial
 ·trivial
theorem suff_out {fl:Bool} {e:Exit} (ok:Ok P C h0 fl s h a w):Suff P C c0 Q h0 fl a w (.out e) s.ks (stepOut s e):=by
 unfold stepOut
 split
 ·trivial
 ·rename_i q ks hk;rw [hk]
  split
  ·rename_i hn;intro _ k
   cases e <;> first | cases hn | skip
   exact k _ _ _ (xW ok _ _)
  ·rename_i hne;intro _ k
   have:=k _ _ _ (xW ok _ _)
   unfold Goal post
   cases e <;> first | exact this | cases hne
 ·rename_i id ks hk;rw [hk]
  cases e with
  | exit id' =>
   simp only
   split
   ·rename_i he;have he:=Zj he;subst he;intro _ k;exact block_same (k _ _ _ (xW ok _ _))
   ·rename_i he;intro _ k;exact block_other he (k _ _ _ (xW ok _ _))
  | normal=>intro _ k; exact k _ _ _ (xW ok _ _)
  | goto l=>intro _ k; exact k _ _ _ (xW ok _ _)
  | ret=>intro _ k; exact k _ _ _ (xW ok _ _)
  | panic c=>intro _ k; exact k _ _ _ (xW ok _ _)
  | outgrown=>intro _ k; exact k _ _ _ (xW ok _ _)
theorem suff_step {fl:Bool} (ok:Ok P C h0 fl s h a w):Suff P C c0 Q h0 fl a w s.p s.ks (step1 P C c0 u s):=by
 unfold step1
 split
 ·rename_i p hp; rw [hp]; exact suff_code ok
 ·rename_i p n hp;rw [hp]
  split
  ·rename_i hl;intro _ k;unfold Goal;simp only;rw [hl];exact wpList_nil (k _ _ _ (xW ok _ _))
  ·rename_i o rest hl;exact suff_op hl ok
 ·rename_i e hp; rw [hp]; exact suff_out ok
theorem fin_good {fl:Bool} {T:Tgt} (ok:Ok P C h0 fl s h a w) (hT:T.all λ_=>(T.fin s).1=(T.fin s).2) (hg:T.good C h0 (Goal P c0 Q) fl):Goal P c0 Q s.p s.ks a w:=by
 cases T with
 | new f =>
  obtain ⟨l,hl⟩:=Tgt.all_some hT;simp [Tgt.fin] at hl
 | nv f =>
  obtain ⟨l,hl⟩:=Tgt.all_some hT;simp [Tgt.fin] at hl
 | ok p ks E B F =>
  obtain ⟨l,hl⟩:=Tgt.all_some hT;simp only [Tgt.fin,ends,wants,Qk,Any.pt.injEq,Any.ov.injEq,Any.bs.injEq,Any.fs.injEq,Iq] at hl;obtain ⟨⟨h1,h2⟩,h3,h4,h5⟩:=hl;rw [h1,h2];have k:K C E B F h a w:=⟨ok.k.j.to h3 h4.symm,by rw [<- h5]; exact ok.k.f⟩;unfold Tgt.good at hg
  cases fl with
  | false=>have:=ok.same rfl; subst this; exact hg _ _ k
  | true=>exact hg _ _ _ ok.sees k
theorem run_suff {fl:Bool}:∀ (n:Nat) {s:St} {T:Tgt} {h:Vw} {a:Act} {w:World},Ok P C h0 fl s h a w->(T.all λl=>∀ w,(run P C c0 u fl n s T l w).1=(run P C c0 u fl n s T l w).2)->T.good C h0 (Goal P c0 Q) fl->Goal P c0 Q s.p s.ks a w
 | 0,s,T,h,a,w,ok,hT,hg=>fin_good ok (Tgt.all_mono hT λl k=>k w) hg
 | n + 1,s,T,h,a,w,ok,hT,hg=>by
  have hs:=suff_step (c0:=c0) (Q:=Q) (u:=u) ok
  cases hst:step1 P C c0 u s with
  | bad =>
   obtain ⟨l,hl⟩:=Tgt.all_some hT
   have:=hl w
   unfold run at this;rw [hst] at this;simp at this
  | go s' e =>
   rw [hst] at hs;have key:T.all λl=>∀ w,(∀ x∈e w,x.1=x.2)/\(run P C c0 u fl n s' T l w).1=(run P C c0 u fl n s' T l w).2:=Tgt.all_mono hT λl k w=>by
    have:=k w
    unfold run at this;rw [hst] at this;exact addE_eq this
   refine hs (λw=>?_) λh a w ok'=>run_suff n ok' (Tgt.all_mono key λl k w=>(k w).2) hg;obtain ⟨l,hl⟩:=Tgt.all_some key;exact (hl w).1
  | fresh fx f e =>
   rw [hst] at hs
   cases T with
   | ok p ks E B F =>
    have:=hT w
    unfold run at this;rw [hst] at this;simp at this
   | nv g =>
    obtain ⟨l,hl⟩:=Tgt.all_some (hT undef)
    have:=hl w
    unfold run at this;rw [hst] at this;simp at this
   | new g =>
    have key:∀ b,(g b).all λl=>∀ w,((fx && !fl)=false/\∀ x∈e w,x.1=x.2)/\(run P C c0 u fl n (f b) (g b) l w).1=(run P C c0 u fl n (f b) (g b) l w).2:=λb=>Tgt.all_mono (hT b) λl k w=>by
     have:=k w
     unfold run at this;rw [hst] at this
     cases hfx:fx && !fl with
     | true=>simp only [hfx] at this; simp at this
     | false =>
      simp only [hfx] at this
      have:=addE_eq this
      exact ⟨⟨rfl,this.1⟩,this.2⟩
    obtain ⟨l,hl⟩:=Tgt.all_some (key 0);refine hs (λw=>(hl w).1.2) (λhx=>?_) λb h a w ok'=>run_suff n ok' (Tgt.all_mono (key b) λl k w=>(k w).2) (hg b)
    have:=(hl w).1.1
    rw [hx] at this
    simpa using this
  | freshV f e =>
   rw [hst] at hs
   cases T with
   | ok p ks E B F =>
    have:=hT w
    unfold run at this;rw [hst] at this;simp at this
   | new g =>
    obtain ⟨l,hl⟩:=Tgt.all_some (hT 0)
    have:=hl w
    unfold run at this;rw [hst] at this;simp at this
   | nv g =>
    have key:∀ b,(g b).all λl=>∀ w,(fl=true/\∀ x∈e w,x.1=x.2)/\(run P C c0 u fl n (f b) (g b) l w).1=(run P C c0 u fl n (f b) (g b) l w).2:=λb=>Tgt.all_mono (hT b) λl k w=>by
     have:=k w
     unfold run at this;rw [hst] at this
     cases hfx:fl with
     | false=>simp only [hfx] at this; simp at this
     | true =>
      subst hfx
      have:=addE_eq this
      exact ⟨⟨rfl,this.1⟩,this.2⟩
    obtain ⟨l,hl⟩:=Tgt.all_some (key undef);exact hs (λw=>(hl w).1.2) (hl w).1.1 λb h a w ok'=>run_suff n ok' (Tgt.all_mono (key b) λl k w=>(k w).2) (hg b)
theorem rx {p:Pt} {ks:List Kt} {E:List (Nat × Value)} {B:List Ent} {F:List Fac} (hK:K C E B F h a w) (fl:Bool) (n:Nat) (hs:List Hint) (cs:List (Nat × Value × Value)) (T:Tgt) (ho:owes P h hs) (hc:owesC cs)
  (hr:T.all λl=>∀ w,(run P C c0 C.w0 fl n ⟨p,ks,E,B,F,hs,cs⟩ T l w).1=(run P C c0 C.w0 fl n ⟨p,ks,E,B,F,hs,cs⟩ T l w).2) (k:T.good C h (Goal P c0 Q) fl):Goal P c0 Q p ks a w :=
 run_suff n (s:=⟨p,ks,E,B,F,hs,cs⟩) ⟨hK,Sees.refl _,ho,hc,λ_=>rfl⟩ hr k
inductive Ix (α:Type) where
 | o (i:Nat)
 | n (x:α)
def Ix.get {α:Type} (d:α) (l:List α):Ix α->α
 | .o i=>l.getD i d
 | .n x=>x
inductive Tgd where
 | g (p:Pt) (ks:List Kt) (l:List Nat) (a:List (Nat × Value)) (F:List (Ix Fac))
 | f (p:Pt) (ks:List Kt) (l:List Nat) (a:List (Nat × Value)) (B:List Ent) (F:List (Ix Fac))
 | k (p:Pt) (ks:List Kt) (l:List Nat) (a:List (Nat × Value))
 | m (p:Pt) (ks:List Kt) (l:List Nat) (a:List (Nat × Value)) (B:List Ent) (F:List Fac)
 | new (f:Nat->Tgd)
 | nv (f:Value->Tgd)
def keepE (E:List (Nat × Value)):List Nat->List (Nat × Value)->List (Nat × Value)
 | [],a=>a
 | d :: l,a=>(d,(lookup E d).getD undef) :: keepE E l a
def Tgd.of (E:List (Nat × Value)) (B:List Ent) (F:List Fac):Tgd->Tgt
 | .k p ks l a=>.ok p ks (keepE E l a) B F
 | .m p ks l a B' F'=>.ok p ks (keepE E l a) B' F'
 | .g p ks l a F'=>.ok p ks (keepE E l a) B (F'.map (Ix.get (0,0,[]) F))
 | .f p ks l a B' F'=>.ok p ks (keepE E l a) B' (F'.map (Ix.get (0,0,[]) F))
 | .new q=>.new λb=>(q b).of E B F
 | .nv q=>.nv λb=>(q b).of E B F
theorem rk {p:Pt} {ks:List Kt} {E:List (Nat × Value)} {B:List Ent} {F:List Fac} (hK:K C E B F h a w) (fl:Bool) (n:Nat) (hs:List Hint) (cs:List (Nat × Value × Value)) (T:Tgd) (ho:owes P h hs) (hc:owesC cs)
  (hr:(T.of E B F).all λl=>∀ w,(run P C c0 C.w0 fl n ⟨p,ks,E,B,F,hs,cs⟩ (T.of E B F) l w).1=(run P C c0 C.w0 fl n ⟨p,ks,E,B,F,hs,cs⟩ (T.of E B F) l w).2) (k:(T.of E B F).good C h (Goal P c0 Q) fl):Goal P c0 Q p ks a w :=
 rx hK fl n hs cs _ ho hc hr k
section more
variable {p:List Nat} {n:Nat} {ks:List Kt} {E:List (Nat × Value)} {B:List Ent} {F:List Fac} {d:Nat}
theorem goal_cond {c:Operand} {x y:Code} {t:Bool} (hK:K C E B F h a w) (hs:sub c0 p=.cond c x y) (hc:evE E c=some (.bool t)) (k1:t=true->Goal P c0 Q (.code (0 :: p)) ks a w) (k2:t=false->Goal P c0 Q (.code (1 :: p)) ks a w):Goal P c0 Q (.code p) ks a w:=by
 unfold Goal at k1 k2 ⊢;simp only [sub,hs,child] at k1 k2 ⊢;exact wp_cond_split (hK.j.fits.ev hc) k1 k2
def condOf:Code->Option Operand
 | .cond c _ _=>some c
 | _=>none
theorem condOf_some {c:Code} {x:Operand} (h:condOf c=some x):∃ y z,c=.cond x y z:=by
 unfold condOf at h
 split at h
 ·simp only [Yj] at h; subst h; exact ⟨_,_,rfl⟩
 ·cases h
theorem x_true {t:Bool} (hK:K C E B F h a w) (hs:((condOf (sub c0 p)).bind (evE E))=some (.bool t)) (ht:t=true) (k:Goal P c0 Q (.code (0 :: p)) ks a w):Goal P c0 Q (.code p) ks a w:=by
 obtain ⟨c,hc,hv⟩:=Option.bind_eq_some_iff.1 hs;obtain ⟨y,z,e⟩:=condOf_some hc;exact goal_cond hK e hv (λ_=>k) (λe=>by rw [ht] at e; cases e)
theorem x_tru {t:Bool} (hK:K C E B F h a w) (ht:t=true) (k:Goal P c0 Q (.code (0 :: p)) ks a w) (hs:((condOf (sub c0 p)).bind (evE E))=some (.bool t):=by kernel_rfl):Goal P c0 Q (.code p) ks a w:=x_true hK hs ht k
theorem x_false {t:Bool} (hK:K C E B F h a w) (hs:((condOf (sub c0 p)).bind (evE E))=some (.bool t)) (ht:t=false) (k:Goal P c0 Q (.code (1 :: p)) ks a w):Goal P c0 Q (.code p) ks a w:=by
 obtain ⟨c,hc,hv⟩:=Option.bind_eq_some_iff.1 hs;obtain ⟨y,z,e⟩:=condOf_some hc;exact goal_cond hK e hv (λe=>by rw [ht] at e; cases e) (λ_=>k)
theorem x_fal {t:Bool} (hK:K C E B F h a w) (ht:t=false) (k:Goal P c0 Q (.code (1 :: p)) ks a w) (hs:((condOf (sub c0 p)).bind (evE E))=some (.bool t):=by kernel_rfl):Goal P c0 Q (.code p) ks a w:=x_false hK hs ht k
def callAt (P:Program) (C:Fx) (E:List (Nat × Value)) (ops:Array Oper) (l:List Oper) (d:Nat) (w:World):List Any :=
 match l with
 | o :: _=>match gKnown E ops o with
  | some true=>match o.dst with
   | some d'=>[.b (Nat.beq d' d && Nat.blt d C.N && gX E o),.r ((execOp (evD E) o).run P w)]
   | none=>[.bad]
  | _=>[.bad]
 | []=>[.bad]
theorem zJ {l:List Oper} {ops:Array Oper} {f:FuncId} {args:Array Value} (hk:∀ w,callAt P C E ops l d w=[.b true,.r (.ok (.enter f args) w)]) :
  ∃ o r,l=o :: r/\gKnown E ops o=some true/\o.dst=some d/\d < C.N/\gX E o=true/\∀ w,(execOp (evD E) o).run P w=.ok (.enter f args) w:=by
 cases l with
 | nil=>have:=hk tZ; simp [callAt] at this
 | cons o r =>
  have h0:=hk tZ;unfold callAt at h0 hk
  split at h0
  ·rename_i heq;simp only [Qk] at heq;obtain ⟨rfl,rfl⟩:=heq
   split at h0
   ·rename_i hg
    split at h0
    ·rename_i d' hd;simp only [Qk,Any.b.injEq,Uj] at h0;obtain ⟨⟨⟨h1,h2⟩,h3⟩,-⟩:=h0;refine ⟨_,_,rfl,hg,by rw [hd,Zj h1],by have:=Nq h2; omega,h3,λw=>?_⟩
     have:=hk w
     simp only [hg,hd,Qk,Any.r.injEq,Iq] at this;exact this.2
    ·simp at h0
   ·simp at h0
  ·simp at h0
theorem K.facs {h':Vw} (hK:K C E B F h a w) (s:Sees h h'):∀ x∈F,Cells h' x.1 x.2.1 x.2.2:=λx hx=>(hK.f x hx).sees s
theorem x_call {f:FuncId} {args:Array Value} {R:Value->Vw->Prop} (hK:K C E B F h a w) (d:Nat) (hc:C0 P f args ⟨w,blk B++C.bad0⟩ R) (hk:∀ w,callAt P C E (fX c0 p) ((fX c0 p).toList.drop n) d w=[.b true,.r (.ok (.enter f args) w)])
  (k:∀ v h' a w,Sees h h'->R v h'->K C ((d,v) :: E) B F h' a w->Goal P c0 Q (.ops p (n + 1)) ks a w):Goal P c0 Q (.ops p n) ks a w:=by
 obtain ⟨o,r,hl,hg,hd,hlt,hkn,hrun⟩:=zJ hk;have hr:=kK hl;refine kJ hl (iQ hK.j.fits hg) ?_;refine s_call (o:={ o with guard:=none }) hK.j d hc (okk (s:=⟨.out .ret,[],E,B,F,[],[]⟩) hd hlt hkn) hrun ?_;intro v h' a' w' s r1 j;rw [hr];exact k v h' a' w' s r1 ⟨j,hK.facs s⟩
theorem x_call1 {f:FuncId} {args:Array Value} {R:Value->List Value->Vw->Prop} (hK:K C E B F h a w) (d:Nat) (i:Nat) {b:Nat} {cs:List Value} (hc:C1 P f args ⟨w,blk B++C.bad0⟩ b cs R) (hB:B[i]?=some (.box b cs)) (hk:∀ w,callAt P C E (fX c0 p) ((fX c0 p).toList.drop n) d w=[.b true,.r (.ok (.enter f args) w)])
  (k:∀ v cs' h' a w,Sees h h'->R v cs' h'->K C ((d,v) :: E) (B.set i (.box b cs')) F h' a w->Goal P c0 Q (.ops p (n + 1)) ks a w):Goal P c0 Q (.ops p n) ks a w:=by
 obtain ⟨o,r,hl,hg,hd,hlt,hkn,hrun⟩:=zJ hk;have hr:=kK hl;refine kJ hl (iQ hK.j.fits hg) ?_;refine s_call1 (o:={ o with guard:=none }) hK.j d i hc hB (okk (s:=⟨.out .ret,[],E,B,F,[],[]⟩) hd hlt hkn) hrun ?_;intro v cs' h' a' w' s r1 j;rw [hr];exact k v cs' h' a' w' s r1 ⟨j,hK.facs s⟩
def loopOf:Code->Bool
 | .loop _=>true
 | _=>false
theorem x_loop {ι:Type} (I:ι->Act->World->Prop) (m:ι->Nat) (i0:ι) (hs:loopOf (sub c0 p)=true) (h0:I i0 a w)
  (round:∀ i a w,I i a w->Goal P c0 (Exit.then (λa' w'=>∃ i',I i' a' w'/\m i' < m i) (post P c0 Q ks)) (.code (0 :: p)) [] a w):Goal P c0 Q (.code p) ks a w:=by
 unfold loopOf at hs
 split at hs
 ·rename_i c hc;unfold Goal;simp only [hc];refine c_loop I m i0 h0 λi a w hi=>?_
  have:=round i a w hi
  simpa only [Goal,sub,hc,child,post] using this
 ·cases hs
theorem x_round {I:Act->World->Prop} {Q':Exit->Act->World->Prop} (k:I a w):Goal P c0 (Exit.then I Q') (.out .normal) [] a w:=k
theorem x_leave {I:Act->World->Prop} {e:Exit} (hne:isNorm e=false) (k:Goal P c0 Q (.out e) ks a w):Goal P c0 (Exit.then I (post P c0 Q ks)) (.out e) [] a w:=by
 have k:post P c0 Q ks e a w:=k;show Exit.then I (post P c0 Q ks) e a w
 cases e <;> first | exact k | cases hne
theorem x_start (k:Goal P c0 Q (.code []) [] a w):c0.wp P Q a w:=k
theorem K.nilrow (hK:K C E B F h a w) (e:TypeId) (k:Nat):K C E (.row (.slice none 0 0) e k [] :: B) F h a w:=⟨hK.j.nilrow e k,hK.f⟩
theorem K.drop (hK:K C E B F h a w) (i:Nat):K C E (B.eraseIdx i) F h a w:=⟨hK.j.drop i,hK.f⟩
theorem K.to {E':List (Nat × Value)} {B':List Ent} {F':List Fac} (hK:K C E B F h a w) (hE:E'.map (λp=>lookup E p.1)=E'.map (λp=>some p.2)) (hB:B'=B) (hF:F'=F):K C E' B' F' h a w:=⟨hK.j.to hE hB,by rw [hF]; exact hK.f⟩
theorem K.tw {E':List (Nat × Value)} {B':List Ent} {F':List Fac} (hK:K C E B F h a w) (hE:E'.map (λp=>lookup E p.1)=E'.map (λp=>some p.2):=by kernel_rfl) (hB:B'=B:=by kernel_rfl) (hF:F'=F:=by rfl):K C E' B' F' h a w:=hK.to hE hB hF
theorem K.rew (hK:K C E B F h a w) (d:Nat) {v v':Value} (hv:v=v') (hd:lookup E d=some v):K C ((d,v') :: E) B F h a w:=⟨hK.j.rew d hv hd,hK.f⟩
theorem K.fact (hK:K C E B F h a w) {b o:Nat} {cs:List Value} (c:Cells h b o cs):K C E B ((b,o,cs) :: F) h a w:=⟨hK.j,λx hx=>by
 rcases Tj.1 hx with rfl | hx
 ·exact c
 ·exact hK.f x hx⟩
theorem K.form (hK:K C E B F h a w) (i:Nat) {v:Value} {e:TypeId} {k:Nat} {l:List (List Value)} (hB:B[i]?=some (.row v e k l)):∃ A c,v=.slice A l.length c/\l.length<=c/\c<=maxLen:=hK.j.form i hB
theorem K.frozen (hK:K C E B F h a w) (i:Nat) {v:Value} {e:TypeId} {k:Nat} {l:List (List Value)} (hB:B[i]?=some (.row v e k l)) (hout:∀ b,v.ownBlock=some b->b ∉ C.bad0):∃ h',Sees h h'/\RS h' k v l/\K C E (B.eraseIdx i) F h' a w:=by
 obtain ⟨h',s,r,j⟩:=hK.j.frozen i hB hout;exact ⟨h',s,r,j,hK.facs s⟩
def mV (C:Fx) (E:List (Nat × Value)) (ops:Array Oper) (n d:Nat):Bool :=
 match ops.toList.drop n with
 | o :: _=>(match gKnown E ops o with | some true=>true | _=>false) && (match o.dst with | some x=>Nat.beq x d | none=>false) && Nat.blt d C.N && gX E o
 | []=>false
theorem drop_opAt {ops:Array Oper} {o:Oper} {r:List Oper} (h:ops.toList.drop n=o :: r):dX ops n=o:=by
 have:(ops.toList.drop n)[0]?=some o:=by rw [h]; rfl
 rw [Wv,Pv] at this;unfold dX;rw [Uk,this]; rfl
theorem x_pure (hK:K C E B F h a w) (d:Nat) (v:Value) (hk:mV C E (fX c0 p) n d=true) (hr:∀ w,(execOp (evD E) (dX (fX c0 p) n)).run P w=.ok (.value v) w) (k:∀ a w,K C ((d,v) :: E) B F h a w->Goal P c0 Q (.ops p (n + 1)) ks a w):Goal P c0 Q (.ops p n) ks a w:=by
 unfold mV at hk
 split at hk
 ·rename_i o r hl;simp only [Uj] at hk;obtain ⟨⟨⟨k1,k2⟩,k3⟩,k4⟩:=hk;have hr':=kK hl;have hg:gKnown E (fX c0 p) o=some true:=by
   split at k1
   ·assumption
   ·cases k1
  have hd:o.dst=some d:=by
   split at k2
   ·rename_i x e; rw [e,Zj k2]
   ·cases k2
  have hlt:d < C.N:=by simpa [Nat.blt_eq] using k3
  refine kJ hl (iQ hK.j.fits hg) (s_pure (o:={ o with guard:=none }) hK.j d v (okk (s:=⟨.out .ret,[],E,B,F,[],[]⟩) hd hlt k4) (λw=>?_) λa' j=>?_)
  ·have:=hr w
   rw [drop_opAt hl] at this;exact this
  ·rw [hr'];exact k _ _ ⟨j,hK.f⟩
 ·cases hk
theorem RS.cell {h:Vw} {k:Nat} {b off n cap:Nat} {l:List (List Value)} (r:RS h k (.slice (some ⟨b,off,none⟩) n cap) l) {i:Nat} {x:List Value} (hi:l[i]?=some x):Cells h b (off + i * k) x:=by
 obtain ⟨b',off',e,-,c⟩:=r.row hi;simp only [Yj,Addr.mk.injEq,Iq] at e;obtain ⟨rfl,rfl⟩:=e;exact c
end more
theorem x_con {f:FuncId} {fn:Func} {c:Code} {args:Array Value} {N:Nat} {Bi:List (Nat × List Value)} {R:Value->List (List Value)->Vw->Prop} (hf:P.funcs[f]?=some fn) (hb:fn.body=some c) (hN:fn.ntmps=N) (hle:Nat.ble args.size N=true)
  (body:BoxesOk h.w Bi->(∀ x∈Bi,x.1∈h.bad)->∀ (Q:Exit->Act->World->Prop),
   (∀ {E:List (Nat × Value)} {B:List Ent} {F:List Fac} {h':Vw} {a:Act} {w:World} (vs:List Value) (Bp:List Ent) (Bo:List (Nat × List Value)),K ⟨N,h.w,h.bad,Bi.map (·.1),[]⟩ E B F h' a w->Res P a w fn.results.toList vs->B=Bp++Bo.map (λx=>.box x.1 x.2)->Bo.map (·.1)=Bi.map (·.1)->R (pack vs) (Bo.map (·.2)) ⟨w,h.bad⟩->Q .ret a w/\Q .normal a w) ->
   ∀ a w,K ⟨N,h.w,h.bad,Bi.map (·.1),[]⟩ (argE 0 args.toList) (Bi.map (λx=>.box x.1 x.2)) [] h a w->Goal P c Q (.code []) [] a w):Con P f args h Bi R :=
 con_start hf hb hN hle λb1 b2 Q hQ a w hJ=>body b1 b2 Q (λvs Bp Bo hK=>hQ vs Bp Bo hK.j) a w ⟨hJ,λx hx=>by cases hx⟩
end
inductive An where
 | v (x:Value) | vs (x:List Value) | es (x:List (List Ent)) | ps (x:List (Vw->Prop)) | r (x:Result Next) | b (x:Bool) | oe (x:Option Ent) | ov (x:Option Value) | bad
inductive RH where
 | pu                    -- it is reckoned
 | ld (e off : Nat)      -- a load from block e of the region's, at off
 | lf (j off : Nat)      -- .. from known cells j
 | st (e off : Nat)      -- a store
 | al (e : Nat)          -- a new block, e of the region's
 | ps                    -- passed over
 | cl                    -- told for itself
def plT (R:Reg) (i:Nat):Nat:=R.T.findIdx λt=>Nat.beq t.1 i
def dpOf (R:Reg) (ops:Array Oper) (i:Nat):List Nat:=(List.range R.T.length).filter λp=>match R.T[p]? with
 | some t=>(dirs (dX ops i)).contains t.1
 | none=>false
def noF (R:Reg) (i:Nat):Bool:=R.F.all λt=>t.1 != i
def rdx (R:Reg) (ops:Array Oper) (i:Nat) (x:Gh):List (Nat × Value):=rdE R i (dpOf R ops i) x
def runR (P:Program) (R:Reg) (ops:Array Oper) (i:Nat) (x:Gh) (w:World):Result Next:=(execOp (evD (rdx R ops i x)) (dX ops i)).run P w
def freeT (R:Reg) (i:Nat) (x:Gh):List Value:=(R.T.filter (λt => !((R.an t.1).contains i || t.1 == i))).map (λt=>t.2.2 x)
def freeG (R:Reg) (i:Nat) (x:Gh):List (List Ent):=R.G.map (λg=>(g.vers.filter (λt => !((R.an t.1).contains i || t.1 == i))).map (λt=>t.2 x))
def freeF (R:Reg) (i:Nat) (x:Gh):List (Vw->Prop):=(R.F.filter (λt => !((R.an t.1).contains i || t.1 == i))).map (λt=>t.2 x)
def ptrOf (b off:Nat):Value:=.pointer (some ⟨b,off,none⟩)
def boxB:Option Ent->Nat
 | some (.box b _)=>b
 | _=>0
def boxC:Option Ent->List Value
 | some (.box _ cs)=>cs
 | _=>[]
def opT:Op->TypeId
 | .load t _=>t
 | .store t _ _=>t
 | .alloc t=>t
 | .box t _=>t
 | _=>0
def opX:Op->Operand
 | .load _ x=>x
 | .store _ x _=>x
 | _=>.const undef
def opY:Op->Operand
 | .store _ _ y=>y
 | _=>.const undef
def isLoad:Op->Bool
 | .load _ _=>true
 | _=>false
def isStore:Op->Bool
 | .store _ _ _=>true
 | _=>false
def chkO (P:Program) (R:Reg) (ops:Array Oper) (KF:List Fac) (x:Gh) (v:Value) (w:World) (i:Nat) (hint:RH):List (An × An) :=
 match hint with
 | .cl=>[]
 | .pu=>match R.T[plT R i]? with
  | some (i',d,f)=>[(.b (Nat.beq i' i && only R i none && noF R i && okR R ops i d (dpOf R ops i) x),.b true),(.r (runR P R ops i x w),.r (.ok (.value (f x)) w))]
  | none=>[(.bad,.b true)]
 | .ps=>match R.T[plT R i]? with
  | some (i',d,f)=>[(.b (Nat.beq i' i && only R i none && noF R i),.b true),(.b (chkD R ops i (dpOf R ops i) && gOk R ops i (dpOf R ops i) x false && (match (dX ops i).dst with | some y=>Nat.beq y d | none=>false)),.b true),(.v (f x),.v undef)]
  | none=>[(.bad,.b true)]
 | .ld e off=>match R.T[plT R i]?,R.G[e]? with
  | some (i',d,f),some g=>[(.b (Nat.beq i' i && only R i none && noF R i && isLoad (dX ops i).op && okR R ops i d (dpOf R ops i) x && sync R i g),.b true),
    (.oe (iK (R.an i) x g),.oe (some (.box (boxB (iK (R.an i) x g)) (boxC (iK (R.an i) x g))))),(.ov (evE (rdx R ops i x) (opX (dX ops i).op)),.ov (some (ptrOf (boxB (iK (R.an i) x g)) off))),(.ov (dW P (opT (dX ops i).op) (boxC (iK (R.an i) x g)) off),.ov (some (f x)))]
  | _,_=>[(.bad,.b true)]
 | .lf j off=>match R.T[plT R i]?,KF[j]? with
  | some (i',d,f),some (b,o0,cs)=>[(.b (Nat.beq i' i && only R i none && noF R i && isLoad (dX ops i).op && okR R ops i d (dpOf R ops i) x),.b true),
    (.ov (evE (rdx R ops i x) (opX (dX ops i).op)),.ov (some (ptrOf b (o0 + off)))),(.ov (dW P (opT (dX ops i).op) cs off),.ov (some (f x)))]
  | _,_=>[(.bad,.b true)]
 | .st e off=>match R.G[e]? with
  | some g=>[(.b (isStore (dX ops i).op && (R.T.all λt=>t.1 != i) && noF R i && only R i (some e) && sync R i g),.b true),(.b (chkD R ops i (dpOf R ops i) && gOk R ops i (dpOf R ops i) x true && (dX ops i).dst.isNone),.b true),
    (.oe (iK (R.an i) x g),.oe (some (.box (boxB (iK (R.an i) x g)) (boxC (iK (R.an i) x g))))),(.ov (evE (rdx R ops i x) (opX (dX ops i).op)),.ov (some (ptrOf (boxB (iK (R.an i) x g)) off))),
    (.ov (evE (rdx R ops i x) (opY (dX ops i).op)),.ov (some (evD (rdx R ops i x) (opY (dX ops i).op)))),(.b (wY P (opT (dX ops i).op) (boxC (iK (R.an i) x g)) off (evD (rdx R ops i x) (opY (dX ops i).op))),.b true),
    (.oe (iK (i :: R.an i) x g),.oe (some (.box (boxB (iK (R.an i) x g)) (uX (boxC (iK (R.an i) x g)) off (evD (rdx R ops i x) (opY (dX ops i).op)).cells.toList))))]
  | none=>[(.bad,.b true)]
 | .al e=>match R.T[plT R i]?,R.G[e]? with
  | some (i',d,f),some g=>[(.b (Nat.beq i' i && noF R i && only R i (some e) && sync R i g && okR R ops i d (dpOf R ops i) x),.b true),(.v (f x),.v (ptrOf (uJ (x i)) 0)),
    (.vs (freeT R i (upd x i v)),.vs (freeT R i x)),(.es (freeG R i (upd x i v)),.es (freeG R i x)),(.ps (freeF R i (upd x i v)),.ps (freeF R i x)),
    (.oe (iK (R.an i) x g),.oe none),(.oe (iK (i :: R.an i) x g),.oe (some (.box (uJ (x i)) (boxC (iK (i :: R.an i) x g))))),
    (.r (runR P R ops i x w),.r (.ok (.value (ptrOf w.heap.size 0)) (w.alloc (.cells (boxC (iK (i :: R.an i) x g)).toArray (opT (dX ops i).op))))),(.vs (boxC (iK (i :: R.an i) (upd x i v) g)),.vs (boxC (iK (i :: R.an i) x g)))]
  | _,_=>[(.bad,.b true)]
def chkAll (P:Program) (R:Reg) (ops:Array Oper) (KF:List Fac) (x:Gh) (v:Value) (w:World):Nat->List RH->List (An × An)
 | _,[]=>[]
 | i,r :: l=>chkO P R ops KF x v w i r++chkAll P R ops KF x v w (i + 1) l
def Told (P:Program) (ops:Array Oper) (Q:Exit->Act->World->Prop) (R:Reg):Nat->List RH->Prop
 | _,[]=>True
 | i,.cl :: l=>StepAt' P ops Q R i/\Told P ops Q R (i + 1) l
 | i,_ :: l=>Told P ops Q R (i + 1) l
section
variable {P:Program} {ops:Array Oper} {Q:Exit->Act->World->Prop} {R:Reg} {KF:List Fac} {i:Nat}
theorem pair_eq {l:List (An × An)} (h:l.map (·.1)=l.map (·.2)):∀ e∈l,e.1=e.2:=by
 induction l with
 | nil=>intro e he; cases he
 | cons y l ih =>
  simp only [Ik,Qk] at h;intro e he;rcases Tj.1 he with rfl | he
  ·exact h.1
  ·exact ih h.2 e he
theorem op_load {o:Op} (h:isLoad o=true):o=.load (opT o) (opX o):=by
 cases o <;> first | rfl | cases h
theorem op_store {o:Op} (h:isStore o=true):o=.store (opT o) (opX o) (opY o):=by
 cases o <;> first | rfl | cases h
theorem stepR (hT:dK R=true) (hA:cK R ops=true) (hmono:∀ q∈R.F,∀ x h h',Sees h h'->q.2 x h->q.2 x h') (hKF:∀ f∈KF,Cells R.h f.1 f.2.1 f.2.2) (r:RH) (hne:r≠.cl)
  (hc:∀ x v w,∀ e∈chkO P R ops KF x v w i r,e.1=e.2):StepAt' P ops Q R i:=by
 cases r with
 | cl=>exact absurd rfl hne
 | pu =>
  simp only [chkO] at hc
  split at hc
  ·rename_i i' d f hp;simp only [Tj,Bw,or_false,Yw,forall_eq,An.b.injEq,An.r.injEq,Uj] at hc;obtain ⟨⟨⟨⟨c1,c2⟩,c3⟩,-⟩,-⟩:=hc (λ_=>undef) undef tZ;have c1:=Zj c1;subst c1;exact r_pure hT hA d f (dpOf R ops i') _ hp c2 c3 (λx=>(hc x undef tZ).1.2) (λx w=>(hc x undef w).2)
  ·have:=hc (λ_=>undef) undef tZ _ (Pj.2 rfl); cases this
 | ps =>
  simp only [chkO] at hc
  split at hc
  ·rename_i i' d f hp;simp only [Tj,Bw,or_false,Yw,forall_eq,An.b.injEq,An.v.injEq,Uj] at hc;obtain ⟨⟨⟨c1,c2⟩,c3⟩,-⟩:=hc (λ_=>undef) undef tZ;have c1:=Zj c1;subst c1;have hf:f=λ_=>undef:=funext λx=>(hc x undef tZ).2.2;subst hf;exact r_pass hT hA d (dpOf R ops i') _ hp c2 c3 (λx=>by simp only [Uj]; exact (hc x undef tZ).2.1)
  ·have:=hc (λ_=>undef) undef tZ _ (Pj.2 rfl); cases this
 | ld e off =>
  simp only [chkO] at hc
  split at hc
  ·rename_i i' d f g hp hg;simp only [Tj,Bw,or_false,Yw,forall_eq,An.b.injEq,An.oe.injEq,An.ov.injEq,Uj] at hc;obtain ⟨⟨⟨⟨⟨⟨c1,c2⟩,c3⟩,c4⟩,-⟩,c6⟩,-⟩:=hc (λ_=>undef) undef tZ;have c1:=Zj c1;subst c1;exact r_load hT hA d f (dpOf R ops i') _ hp c2 c3 (λx=>(hc x undef tZ).1.1.2) e g hg c6 _ _ (λx=>(hc x undef tZ).2.1) _ _ off (op_load c4) (λx=>(hc x undef tZ).2.2.1) (λx=>(hc x undef tZ).2.2.2)
  ·have:=hc (λ_=>undef) undef tZ _ (Pj.2 rfl); cases this
 | lf j off =>
  simp only [chkO] at hc
  split at hc
  ·rename_i i' d f b o0 cs hp hg;simp only [Tj,Bw,or_false,Yw,forall_eq,An.b.injEq,An.ov.injEq,Uj] at hc;obtain ⟨⟨⟨⟨⟨c1,c2⟩,c3⟩,c4⟩,-⟩,-⟩:=hc (λ_=>undef) undef tZ;have c1:=Zj c1;subst c1;exact r_loadf hT hA d f (dpOf R ops i') _ hp c2 c3 (λx=>(hc x undef tZ).1.2) (hKF _ (Ej hg)) (Sees.refl _) _ _ off (op_load c4) (λx=>(hc x undef tZ).2.1) (λx=>(hc x undef tZ).2.2)
  ·have:=hc (λ_=>undef) undef tZ _ (Pj.2 rfl); cases this
 | st e off =>
  simp only [chkO] at hc
  split at hc
  ·rename_i g hg;simp only [Tj,Bw,or_false,Yw,forall_eq,An.b.injEq,An.oe.injEq,An.ov.injEq,Uj] at hc;obtain ⟨⟨⟨⟨⟨c1,c2⟩,c3⟩,c4⟩,c5⟩,-⟩:=hc (λ_=>undef) undef tZ;refine r_store hT hA (dpOf R ops i) c2 c3 (λx=>by simp only [Uj]; exact (hc x undef tZ).2.1) e g hg c4 c5 (λx=>boxB (iK (R.an i) x g)) (λx=>boxC (iK (R.an i) x g)) _ (λx=>(hc x undef tZ).2.2.1) (λx=>(hc x undef tZ).2.2.2.2.2.2) _ _ _ off _ (op_store c1) (λx=>(hc x undef tZ).2.2.2.1) (λx=>(hc x undef tZ).2.2.2.2.1) (λx=>(hc x undef tZ).2.2.2.2.2.1) (λx=>rfl)
  ·have:=hc (λ_=>undef) undef tZ _ (Pj.2 rfl); cases this
 | al e =>
  simp only [chkO] at hc
  split at hc
  ·rename_i i' d f g hp hg;simp only [Tj,Bw,or_false,Yw,forall_eq,An.b.injEq,An.oe.injEq,An.v.injEq,An.vs.injEq,An.es.injEq,An.ps.injEq,An.r.injEq,Uj] at hc;obtain ⟨⟨⟨⟨⟨c1,c3⟩,c4⟩,c5⟩,-⟩,-⟩:=hc (λ_=>undef) undef tZ;have c1:=Zj c1;subst c1;have hf:f=λx=>.pointer (some ⟨uJ (x i'),0,none⟩):=funext λx=>(hc x undef tZ).2.1;subst hf;exact r_alloc hT hA hmono ⟨λx v=>(hc x v tZ).2.2.1,λx v=>(hc x v tZ).2.2.2.1,λx v=>(hc x v tZ).2.2.2.2.1⟩ c3 d (dpOf R ops i') _ hp (λx=>(hc x undef tZ).1.2) e g hg c4 c5 (λx=>boxC (iK (i' :: R.an i') x g))
    (λx=>(hc x undef tZ).2.2.2.2.2.1) (λx=>(hc x undef tZ).2.2.2.2.2.2.1) _ (λx w=>(hc x undef w).2.2.2.2.2.2.2.1) (λx v=>(hc x v tZ).2.2.2.2.2.2.2.2)
  ·have:=hc (λ_=>undef) undef tZ _ (Pj.2 rfl); cases this
theorem stepsR (hT:dK R=true) (hA:cK R ops=true) (hmono:∀ q∈R.F,∀ x h h',Sees h h'->q.2 x h->q.2 x h') (hKF:∀ f∈KF,Cells R.h f.1 f.2.1 f.2.2) :
  ∀ (l:List RH) (k:Nat),(∀ x v w,(chkAll P R ops KF x v w k l).map (·.1)=(chkAll P R ops KF x v w k l).map (·.2))->Told P ops Q R k l->∀ i,k<=i->i < k + l.length->StepAt' P ops Q R i
 | [],k,_,_,i,h1,h2=>by simp at h2; omega
 | r :: l,k,hc,ht,i,h1,h2=>by
  have hc1:∀ x v w,∀ e∈chkO P R ops KF x v w k r,e.1=e.2:=λx v w e he=>pair_eq (hc x v w) e (by unfold chkAll; exact Ek _ he);have hc2:∀ x v w,(chkAll P R ops KF x v w (k + 1) l).map (·.1)=(chkAll P R ops KF x v w (k + 1) l).map (·.2):=λx v w=>by
   have:=hc x v w
   unfold chkAll at this;rw [Mk,Mk] at this;exact (List.append_inj this (by simp)).2
  have ht2:Told P ops Q R (k + 1) l:=by
   unfold Told at ht
   cases r <;> first | exact ht | exact ht.2
  rcases Nat.eq_or_lt_of_le h1 with e | hlt
  ·subst e
   cases r with
   | cl=>unfold Told at ht; exact ht.1
   | pu=>exact stepR hT hA hmono hKF .pu (by simp) hc1
   | ps=>exact stepR hT hA hmono hKF .ps (by simp) hc1
   | ld e off=>exact stepR hT hA hmono hKF (.ld e off) (by simp) hc1
   | lf e off=>exact stepR hT hA hmono hKF (.lf e off) (by simp) hc1
   | st e off=>exact stepR hT hA hmono hKF (.st e off) (by simp) hc1
   | al e=>exact stepR hT hA hmono hKF (.al e) (by simp) hc1
  ·exact stepsR hT hA hmono hKF l (k + 1) hc2 ht2 i hlt (by simp only [Sk] at h2; omega)
def drawnOf:Code->Option (Array Oper)
 | .region _ ops true=>some ops
 | _=>none
theorem drawnOf_some {c:Code} {ops:Array Oper} (h:drawnOf c=some ops):∃ id,c=.region id ops true:=by
 unfold drawnOf at h
 split at h
 ·simp only [Yj] at h; subst h; exact ⟨_,rfl⟩
 ·cases h
theorem x_region {c0:Code} {p:List Nat} {ks:List Kt} {B:List Ent} {a:Act} {w:World} {Q':Exit->Act->World->Prop} (hm:P.follows .mixedOrders=true) (R:Reg) (hK:K R.C R.E B KF R.h a w) (n:Nat) (hints:List RH)
  (hst:([.b (match drawnOf (sub c0 p) with | some ops=>Nat.beq ops.size n && Nat.beq hints.length n && dK R && cK R ops && (R.G.all λg=>g.vers.all λp=>Nat.blt p.1 n) && (R.T.all λt=>Nat.blt t.1 n) && (R.F.all λt=>Nat.blt t.1 n) | none=>false),.bs (R.G.filterMap (·.start))]:List Any)=[.b true,.bs B])
  (hmono:∀ q∈R.F,∀ x h h',Sees h h'->q.2 x h->q.2 x h')
  (hc:∀ x v w,(chkAll P R (fX c0 p) KF x v w 0 hints).map (·.1)=(chkAll P R (fX c0 p) KF x v w 0 hints).map (·.2))
  (ht:dK R=true->cK R (fX c0 p)=true->Told P (fX c0 p) (post P c0 Q' ks) R 0 hints)
  (fin:∀ x h' a w,Sees R.h h'->K R.C (R.T.map (λt=>(t.2.1,t.2.2 x))++R.E) (R.G.filterMap (iK (List.range n) x)) KF h' a w->(∀ p∈R.F,p.2 x h')->Goal P c0 Q' (.out .normal) ks a w):Goal P c0 Q' (.code p) ks a w:=by
 simp only [Qk,Any.b.injEq,Any.bs.injEq,Iq] at hst;obtain ⟨h1,h2⟩:=hst
 split at h1
 ·rename_i ops hops;obtain ⟨id,hid⟩:=drawnOf_some hops;simp only [Uj] at h1;obtain ⟨⟨⟨⟨⟨⟨c1,c2⟩,c3⟩,c4⟩,c5⟩,c6⟩,c7⟩:=h1;have c1:=Zj c1;have c2:=Zj c2;have hoa:fX c0 p=ops:=by unfold fX; rw [hid]; rfl
  rw [hoa] at hc ht;unfold Goal;simp only;rw [hid];refine region_sx hm R n hK.j c1 c3 c4 h2 c5 c6 c7 (λhT hA i hi=>?_) (λx h' a w s j f=>?_)
  ·exact stepsR hT hA hmono hK.f hints 0 hc (ht hT hA) i (Mj _) (by omega)
  ·exact fin x h' a w s ⟨j,hK.facs s⟩ f
 ·cases h1
end
open Go.ChangeMaps Go.MapKept
section
variable {P:Program} {C:Fx} {c0:Code} {Q:Exit->Act->World->Prop} {h h0:Vw} {a:Act} {w w':World} {p:List Nat} {n:Nat} {ks:List Kt} {E:List (Nat × Value)} {B:List Ent} {F:List Fac} {d:Nat}
structure MapAt (h:Vw) (b:Nat) (es:List (Value × Value)):Prop where
 ok:b ∉ h.bad
 lies:h.w.heap[b]?=some (iW es)
theorem MapAt.lt {b:Nat} {es:List (Value × Value)} (k:MapAt h b es):b < h.w.heap.size:=(Nk.1 k.lies).1
theorem MapAt.sees {h':Vw} {b:Nat} {es:List (Value × Value)} (k:MapAt h b es) (s:Sees h h'):MapAt h' b es :=
 ⟨λg=>k.ok (s.bad b g k.lt),(s.block b k.lt k.ok).trans k.lies⟩
def mfind (td:TypeDesc) (k:Value) (es:List (Value × Value)):Option (Option (Nat × Value)):=Instr.findNow td k (ments es) 0
def keyOk (td:TypeDesc) (k:Value):Bool:=match td,k with
 | .int a,.int b _=>decide (a=b)
 | .string,.string _=>true
 | _,_=>false
def lookV (c:Bool) (r:Option (Nat × Value)) (z:Value):Value:=match c,r with
 | true,some x=>.tuple #[x.2,.bool true]
 | true,none=>.tuple #[z,.bool false]
 | false,some x=>x.2
 | false,none=>z
theorem isKey_of {td:TypeDesc} {k:Value} (h:keyOk td k=true):IsKey td k:=by
 cases td <;> cases k <;> simp_all [keyOk,IsKey]
theorem run_lookup_at {b:Nat} {es:List (Value × Value)} {t kt et:TypeId} {td:TypeDesc} {k z:Value} {c:Bool} {r:Option (Nat × Value)} (hb:w.heap[b]?=some (iW es)) (ht:P.underlying t=some (.map kt et)) (htd:P.underlying kt=some td) (hs:keyOk td k=true)
  (hf:mfind td k es=some r) (hz:∀ w,(zeroValue et).run P w=.ok z w):(Instr.lookup t (.map (some b)) k c).run P w=.ok (lookV c r z) w:=by
 unfold iW at hb;unfold Instr.lookup;simp only [Kk,run_underlying ht,Result.andThen,Go.MapKept.run_getObj_map hb,Wk,Go.MapKept.run_checkKey htd (isKey_of hs),Go.MapKept.run_findKey htd (show Instr.findNow td k (ments es).toArray.toList 0=some r from hf)]
 cases r with
 | none=>cases c <;> simp [hz,Result.andThen,lookV]
 | some x=>cases c <;> simp [lookV]
theorem ments_push (es:List (Value × Value)) (k v:Value):((ments es).toArray.push { key:=k,val:=v,born:=es.length })=(ments (es++[(k,v)])).toArray:=by
 unfold ments;rw [List.zipIdx_append,Mk];simp
theorem run_update_at {b:Nat} {es:List (Value × Value)} {t kt et:TypeId} {td:TypeDesc} {k v:Value} (hb:w.heap[b]?=some (iW es)) (ht:P.underlying t=some (.map kt et)) (htd:P.underlying kt=some td) (hs:keyOk td k=true)
  (hf:mfind td k es=some none):(Instr.mapUpdate t (.map (some b)) k v).run P w=.ok () { w with heap:=w.heap.setIfInBounds b (iW (es++[(k,v)])) }:=by
 unfold iW at hb ⊢;unfold Instr.mapUpdate;simp only [Kk,run_underlying ht,Result.andThen,Go.MapKept.run_getObj_map hb,Go.MapKept.run_checkKey htd (isKey_of hs),Go.MapKept.run_findKey htd (show Instr.findNow td k (ments es).toArray.toList 0=some none from hf),Go.MapKept.run_setObj_map _ hb,ments_push];simp
theorem J.newMap (hJ:J C E B h a w):J C E (.map w.heap.size [] :: B) h a (w.alloc (.map #[] 0)):=by
 have hl:Low [] w (w.alloc (.map #[] 0)):=Low.of_below ((Wj _ _).alloc (Hj _) _);have hg:=hJ.grow hl;refine ⟨hJ.fits,hJ.size,hJ.defers,hg.low,⟨hg.sees.size,hg.sees.block,λb hb hlt=>?_⟩,λe he=>?_,?_,λb hb=>?_,hJ.badlt⟩
 ·have hs:=hJ.sees.size;rcases Tj.1 hb with rfl | hb
  ·exact absurd hlt (by simp only at hs; omega)
  ·exact hg.sees.bad b hb hlt
 ·rcases Tj.1 he with rfl | he
  ·exact (Kw w _).1
  ·exact hg.ents e he
 ·show (w.heap.size :: blk B).Nodup;refine Mq.2 ⟨λhm=>?_,hJ.nodup⟩
  have:=blk_lt hJ _ hm; omega
 ·rcases Tj.1 hb with rfl | hb
  ·exact .inl hJ.low.size
  ·exact hJ.own b hb
def makeMapOp:Op->Bool
 | .makeMap _ none=>true
 | _=>false
theorem nV (hk:mV C E (fX c0 p) n d=true):∃ o r,(fX c0 p).toList.drop n=o :: r/\dX (fX c0 p) n=o/\gKnown E (fX c0 p) o=some true/\o.dst=some d/\d < C.N/\gX E o=true:=by
 unfold mV at hk
 split at hk
 ·rename_i o r hl;simp only [Uj] at hk;obtain ⟨⟨⟨k1,k2⟩,k3⟩,k4⟩:=hk;refine ⟨o,r,hl,drop_opAt hl,?_,?_,by simpa [Nat.blt_eq] using k3,k4⟩
  ·split at k1
   ·assumption
   ·cases k1
  ·split at k2
   ·rename_i x e; rw [e,Zj k2]
   ·cases k2
 ·cases hk
theorem x_mapmake (hK:K C E B F h a w) (d:Nat) (hk:mV C E (fX c0 p) n d=true) (hm:makeMapOp (dX (fX c0 p) n).op=true) (k:∀ b a w,K C ((d,.map (some b)) :: E) (.map b [] :: B) F h a w->Goal P c0 Q (.ops p (n + 1)) ks a w):Goal P c0 Q (.ops p n) ks a w:=by
 obtain ⟨o,r,hl,ho,hg,hd,hlt,hkn⟩:=nV hk;rw [ho] at hm;have hr:=kK hl;obtain ⟨t,e⟩:∃ t,o.op=.makeMap t none:=by
  unfold makeMapOp at hm
  split at hm
  ·rename_i t e; exact ⟨t,e⟩
  ·cases hm
 refine kJ hl (iQ hK.j.fits hg) (Vk rfl λKK hKK=>?_);unfold Oper.wp;rw [kY (o:={ o with guard:=none }) hK.j.fits hkn];have hrun:(execOp (evD E) { o with guard:=none }).run P w=.ok (.value (.map (some w.heap.size))) (w.alloc (.map #[] 0)):=by
  unfold execOp;simp only [e];simp [run_makeMap,Result.andThen]
 rw [hrun];refine hKK _ _ ?_;rw [hr];exact k w.heap.size _ _ ⟨hK.j.newMap.putd _ hd hlt,hK.f⟩
def setOp:Op->Option (TypeId × Operand × Operand × Operand)
 | .mapUpdate t m k v=>some (t,m,k,v)
 | .insert t m k v=>some (t,m,k,v)
 | _=>none
def goodOp0 (E:List (Nat × Value)) (ops:Array Oper) (n:Nat):Bool :=
 match ops.toList.drop n with
 | o :: _=>(match gKnown E ops o with | some true=>true | _=>false) && o.dst.isNone && gX E o
 | []=>false
theorem J.setMap (hJ:J C E B h a w) {i b:Nat} {es es':List (Value × Value)} (hB:B[i]?=some (.map b es)):J C E (B.set i (.map b es')) h a { w with heap:=w.heap.setIfInBounds b (iW es') }:=by
 have hi:=(Nj.1 hB).1;have hb:w.heap[b]?=some (iW es):=hJ.ents _ (Ej hB);have e1:B=B.take i++.map b es :: B.drop (i + 1):=by
  have:=Iw (l:=B) (i:=i) (a:=.map b es)
  rw [Cj hi] at this;rw [<- this];refine (Vq λj=>?_);rw [Yv]
  split
  ·subst_vars; rw [hB]
  ·rfl
 have:=Iw (l:=B) (i:=i) (a:=.map b es')
 rw [Cj hi] at this;rw [this];exact hJ.setE (x:=.map b es) (x':=.map b es') (b:=b) rfl rfl e1 ⟨rfl,rfl,rfl,by simp⟩ (Go.MapKept.heap_set hb).2 (Go.MapKept.heap_set hb).1
theorem x_mapset (hK:K C E B F h a w) (i:Nat) {b:Nat} {es:List (Value × Value)} {t kt et:TypeId} {td:TypeDesc} {mo ko vo:Operand} {key v:Value} (hk:goodOp0 E (fX c0 p) n=true) (hop:setOp (dX (fX c0 p) n).op=some (t,mo,ko,vo)) (hB:B[i]?=some (.map b es))
  (hm:evE E mo=some (.map (some b))) (hkey:evE E ko=some key) (hv:evE E vo=some v) (ht:P.underlying t=some (.map kt et)) (htd:P.underlying kt=some td) (hs:keyOk td key=true) (hf:mfind td key es=some none)
  (k:∀ a w,K C E (B.set i (.map b (es++[(key,v)]))) F h a w->Goal P c0 Q (.ops p (n + 1)) ks a w):Goal P c0 Q (.ops p n) ks a w:=by
 unfold goodOp0 at hk
 split at hk
 ·rename_i o r hl;simp only [Uj] at hk;obtain ⟨⟨k1,k2⟩,k3⟩:=hk;have hg:gKnown E (fX c0 p) o=some true:=by
   split at k1
   ·assumption
   ·cases k1
  have hr:=kK hl;rw [drop_opAt hl] at hop;refine kJ hl (iQ hK.j.fits hg) (Vk rfl λKK hKK=>?_);unfold Oper.wp;rw [kY (o:={ o with guard:=none }) hK.j.fits k3];have hb:w.heap[b]?=some (iW es):=hK.j.ents _ (Ej hB);have e1:evD E mo=.map (some b):=by simp [evD,hm]
  have e2:evD E ko=key:=by simp [evD,hkey]
  have e3:evD E vo=v:=by simp [evD,hv]
  have hu:=run_update_at (P:=P) (v:=v) hb ht htd hs hf;have hrun:(execOp (evD E) { o with guard:=none }).run P w=.ok .skip { w with heap:=w.heap.setIfInBounds b (iW (es++[(key,v)])) }:=by
   unfold execOp;unfold setOp at hop
   split at hop
   ·rename_i e;simp only [Yj,Kq] at hop;obtain ⟨rfl,rfl,rfl,rfl⟩:=hop;simp only [e,e1,e2,e3];simp [hu,Result.andThen]
   ·rename_i e;simp only [Yj,Kq] at hop;obtain ⟨rfl,rfl,rfl,rfl⟩:=hop;simp only [e,e1,e2,e3];simp [hu,Result.andThen]
   ·cases hop
  rw [hrun];refine hKK _ _ ?_;rw [hr];have hd:a.put ({ o with guard:=none }:Oper).dst undef=a:=by
   show a.put o.dst undef=a;rw [show o.dst=none by simpa using k2]; rfl
  rw [hd];exact k _ _ ⟨hK.j.setMap (es':=es++[(key,v)]) hB,hK.f⟩
 ·cases hk
def lookOp:Op->Option (TypeId × Operand × Operand × Bool)
 | .lookup t m k c=>some (t,m,k,c)
 | _=>none
theorem x_mapget (hK:K C E B F h a w) (d:Nat) {b:Nat} {es:List (Value × Value)} {t kt et:TypeId} {td:TypeDesc} {mo ko:Operand} {key z v:Value} {c:Bool} {r:Option (Nat × Value)} (hk:mV C E (fX c0 p) n d=true) (hop:lookOp (dX (fX c0 p) n).op=some (t,mo,ko,c))
  (hb:w.heap[b]?=some (iW es)) (hm:evE E mo=some (.map (some b))) (hkey:evE E ko=some key) (ht:P.underlying t=some (.map kt et)) (htd:P.underlying kt=some td) (hs:keyOk td key=true) (hf:mfind td key es=some r)
  (hz:∀ w,(zeroValue et).run P w=.ok z w) (hv:lookV c r z=v) (k:∀ a w,K C ((d,v) :: E) B F h a w->Goal P c0 Q (.ops p (n + 1)) ks a w):Goal P c0 Q (.ops p n) ks a w:=by
 obtain ⟨o,rr,hl,ho,hg,hd,hlt,hkn⟩:=nV hk;rw [ho] at hop;have hr:=kK hl;have e1:evD E mo=.map (some b):=by simp [evD,hm]
 have e2:evD E ko=key:=by simp [evD,hkey]
 refine kJ hl (iQ hK.j.fits hg) (Vk rfl λKK hKK=>?_);unfold Oper.wp;rw [kY (o:={ o with guard:=none }) hK.j.fits hkn];have hrun:(execOp (evD E) { o with guard:=none }).run P w=.ok (.value v) w:=by
  unfold execOp;unfold lookOp at hop
  split at hop
  ·rename_i e;simp only [Yj,Kq] at hop;obtain ⟨rfl,rfl,rfl,rfl⟩:=hop;simp only [e,e1,e2];simp [run_lookup_at (c:=_) hb ht htd hs hf hz,Result.andThen,hv]
  ·cases hop
 rw [hrun];refine hKK _ _ ?_;rw [hr];exact k _ _ ⟨hK.j.putd _ hd hlt,hK.f⟩
theorem K.map (hK:K C E B F h a w) (i:Nat) {b:Nat} {es:List (Value × Value)} (hB:B[i]?=some (.map b es)):w.heap[b]?=some (iW es):=hK.j.ents _ (Ej hB)
theorem MapAt.now {b:Nat} {es:List (Value × Value)} (m:MapAt h b es) (hK:K C E B F h a w):w.heap[b]?=some (iW es):=(m.sees hK.j.sees).lies
theorem K.mapOut (hK:K C E B F h a w) (i:Nat) {b:Nat} {es:List (Value × Value)} (hB:B[i]?=some (.map b es)) (hC:C.wr=[]):MapAt ⟨w,C.bad0⟩ b es:=by
 have hm:=Ej hB;refine ⟨λhb=>?_,hK.j.ents _ hm⟩;rcases hK.j.own b (Fk.2 ⟨_,hm,by simp [Ent.blocks]⟩) with g | g
 ·have:=hK.j.badlt b hb; omega
 ·rw [hC] at g; cases g
def sget (s:ByteArray):List (ByteArray × Value)->Option Value
 | []=>none
 | (k,v) :: l=>if s == k then some v else sget s l
abbrev xY (l:List (ByteArray × Value)):List (Value × Value):=l.map λp=>(.string p.1,p.2)
theorem find_str (s:ByteArray):∀ (l:List (ByteArray × Value)) (i j:Nat),(Instr.findNow .string (.string s) (((xY l).zipIdx j).map λp=>⟨p.1.1,p.1.2,p.2⟩) i).map (Option.map (·.2))=some (sget s l)
 | [],i,j=>rfl
 | (k,v) :: l,i,j=>by
  simp only [xY,Ik,List.zipIdx_cons];unfold Instr.findNow;have hsn:Instr.sameNow .string (.string s) (.string k)=some (s == k):=rfl;simp only [hsn];unfold sget
  cases hsk:s == k with
  | true=>rfl
  | false=>simp only [Bool.false_eq_true,if_false]; exact find_str s l (i + 1) (j + 1)
theorem mfind_str (s:ByteArray) (l:List (ByteArray × Value)):∃ r,mfind .string (.string s) (xY l)=some r/\r.map (·.2)=sget s l:=by
 have:=find_str s l 0 0
 unfold mfind ments
 cases h:Instr.findNow .string (.string s) (((xY l).zipIdx).map λp=>⟨p.1.1,p.1.2,p.2⟩) 0 with
 | none=>rw [h] at this; cases this
 | some r=>rw [h] at this; exact ⟨r,rfl,by simpa using this⟩
theorem mfind_some {s:ByteArray} {l:List (ByteArray × Value)} {v:Value} (h:sget s l=some v):∃ i,mfind .string (.string s) (xY l)=some (some (i,v)):=by
 obtain ⟨r,h1,h2⟩:=mfind_str s l;rw [h] at h2;obtain ⟨⟨i,u⟩,e,e2⟩:=Zw.1 h2;subst e2;exact ⟨i,by rw [h1,e]⟩
theorem mfind_none {s:ByteArray} {l:List (ByteArray × Value)} (h:sget s l=none):mfind .string (.string s) (xY l)=some none:=by
 obtain ⟨r,h1,h2⟩:=mfind_str s l;rw [h] at h2;rw [h1,Option.map_eq_none_iff.1 h2]
end
end Go.Proofs.YthgcgciceejicaaGreatDoor
