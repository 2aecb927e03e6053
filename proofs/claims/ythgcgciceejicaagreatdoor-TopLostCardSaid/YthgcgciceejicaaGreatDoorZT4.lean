/-
  A world that has come of another one by growth alone: what was there is as it was. Facts on cells are laid once, for every such world. The first place where a test holds.
-/
import Derived.Test.YthgcgciceejicaaGreatDoorZT2
import Derived.Laws.AppendOwnNone
import Derived.Deep.RegionLaw
import Derived.Deep.AppendLies
import Derived.Lib.AppendZeros
namespace Go.Proofs.YthgcgciceejicaaGreatDoor
open Go.RowKit
structure Evo (x W:World):Prop where
 below:Below x.heap.size x W
theorem Evo.refl (x:World):Evo x x:=⟨Wj _ _⟩
theorem Evo.trans {x y z:World} (h:Evo x y) (k:Evo y z):Evo x z:=⟨h.below.trans (k.below.mono h.below.size)⟩
theorem Evo.alloc {x W:World} (h:Evo x W) (o:Obj):Evo x (W.alloc o):=⟨h.below.alloc h.below.size o⟩
theorem Evo.drew {x W:World} (h:Evo x W):Evo x W.drew:=⟨h.below.drew⟩
theorem Evo.drewN {x W:World} (h:Evo x W) (n:Nat):Evo x (W.drewN n):=⟨below_drewN h.below n⟩
theorem Evo.set {x u W:World} (h:Evo x W) (k:Evo x u) (i:Nat) (v:Value):Evo x (W.setCell ⟨u.heap.size,i,none⟩ v):=⟨h.below.setCell k.below.size v⟩
theorem Evo.cell {x W:World} (h:Evo x W) {b o:Nat} {v:Value} (hb:b < x.heap.size) (c:x.cell? ⟨b,o,none⟩=some v):W.cell? ⟨b,o,none⟩=some v:=(h.below.cell (p:=⟨b,o,none⟩) hb).trans c
attribute [local go_sem] Evo.refl Evo.alloc Evo.drew Evo.drewN
def GivesE (v:Value) (w:World) (e:Ending) (w':World):Prop:=e=.returned v/\Evo w w'
def Sl (w:World) (k:Nat) (v:Value) (l:List (List Value)):Prop :=
 (∃ A cap,v=.slice A 0 cap/\(A=none->cap=0)/\cap<=maxLen/\l=[])\/∃ b off cap,v=.slice (some ⟨b,off,none⟩) l.length cap/\l.length<=cap/\cap<=maxLen/\b < w.heap.size /\
  ∀ i r,l[i]?=some r->∀ j u,r[j]?=some u->w.cell? ⟨b,off + i * k + j,none⟩=some u
theorem Sl.nil (w:World) (k:Nat):Sl w k (.slice none 0 0) []:=.inl ⟨none,0,rfl,λ_=>rfl,Mj _,rfl⟩
theorem Sl.at {w:World} {k:Nat} {v:Value} {l:List (List Value)} (h:Sl w k v l) {W:World} (hW:Evo w W):Sl W k v l:=by
 rcases h with h | ⟨b,off,cap,e,h1,h2,hb,hc⟩
 ·exact .inl h
 ·exact .inr ⟨b,off,cap,e,h1,h2,Cq hb hW.below.size,λi r hi j u hj=>hW.cell hb (hc i r hi j u hj)⟩
theorem Sl.form {w:World} {k:Nat} {v:Value} {l:List (List Value)} (h:Sl w k v l):∃ A cap,v=.slice A l.length cap/\l.length<=cap/\cap<=maxLen/\(A=none->cap=0):=by
 rcases h with ⟨A,cap,rfl,hA,hm,rfl⟩ | ⟨b,off,cap,e,h1,h2,hb,hc⟩
 ·exact ⟨A,cap,rfl,Mj _,hm,hA⟩
 ·exact ⟨_,cap,e,h1,h2,λk=>by cases k⟩
theorem Sl.row {w:World} {k:Nat} {A:Option Addr} {n cap:Nat} {l:List (List Value)} (h:Sl w k (.slice A n cap) l) {i:Nat} {r:List Value} (hi:l[i]?=some r) :
  ∃ b off,A=some ⟨b,off,none⟩/\b < w.heap.size/\∀ j u,r[j]?=some u->∀ W,Evo w W->W.cell? ⟨b,off + i * k + j,none⟩=some u:=by
 rcases h with ⟨_,_,_,_,_,rfl⟩ | ⟨b,off,cap',e,h1,h2,hb,hc⟩
 ·simp at hi
 ·simp only [Tk] at e;obtain ⟨rfl,-,-⟩:=e;exact ⟨b,off,rfl,hb,λj u hj W hW=>hW.cell hb (hc i r hi j u hj)⟩
theorem Sl.drop {w:World} {k:Nat} {A:Option Addr} {n cap:Nat} {l:List (List Value)} (h:Sl w k (.slice A n cap) l) (i:Nat) (hi:i<=l.length) :
  Sl w k (.slice (if cap=i then A else A.map (·.add (i * k))) (n - i) (cap - i)) (l.drop i):=by
 rcases h with ⟨A',cap',e,hA,hm,rfl⟩ | ⟨b,off,cap',e,h1,h2,hb,hc⟩
 ·simp only [Tk] at e;obtain ⟨rfl,rfl,rfl⟩:=e
  have:i=0:=by simpa using hi
  subst this;refine .inl ⟨A,cap,?_,hA,hm,rfl⟩;have ha:A.map (·.add (0 * k))=A:=by cases A <;> simp [Addr.add]
  rw [ha]; simp
 ·simp only [Tk] at e;obtain ⟨rfl,rfl,rfl⟩:=e;have hl:(l.drop i).length=l.length - i:=List.length_drop;have h2':cap - i<=maxLen:=by omega
  by_cases hci:cap=i
  ·rw [Cj hci];refine .inr ⟨b,off,cap - i,by rw [hl],by omega,h2',hb,λj r hj=>?_⟩;rw [Vv (by omega)] at hj;simp at hj
  ·rw [Bj hci];refine .inr ⟨b,off + i * k,cap - i,?_,by omega,h2',hb,λj r hj m u hm=>?_⟩
   ·rw [hl];unfold Addr.add
    by_cases h0:i * k=0
    ·simp [h0]
    ·simp [h0]
   ·rw [Wv] at hj
    have:=hc (i + j) r hj m u hm
    rwa [show off + i * k + j * k + m=off + (i + j) * k + m by rw [Nat.add_mul]; omega]
theorem Sl.drop' {w:World} {k:Nat} {A:Option Addr} {n cap:Nat} {l:List (List Value)} (h:Sl w k (.slice A n cap) l) (i:Nat) (hi:i<=l.length) :
  ∃ A',(if cap=i then A else A.map (·.add (i * k)))=A'/\Sl w k (.slice A' (n - i) (cap - i)) (l.drop i):=⟨_,rfl,h.drop i hi⟩
theorem Sl.of_own {w:World} {base k:Nat} {e:TypeId} {v:Value} {l:List (List Value)} (hk:∀ r∈l,r.length=k) (h:Own w base e k v l.length l.flatten):Sl w k v l:=by
 obtain ⟨h⟩:=h;rcases h.2 with ⟨rfl,h0⟩ | ⟨g,cap,cur,rfl,hb,hg,hn,hm,hs,ht⟩
 ·exact .inl ⟨none,0,rfl,λ_=>rfl,Mj _,Wq.1 h0⟩
 ·refine .inr ⟨g,0,cap,rfl,hn,hm,(Nk.1 hg).1,λi r hi j u hj=>?_⟩;have hf:=flat_get l hk i r j u hi hj
  have:=h.cells (g:=g) rfl (i * k + j) u hf
  rw [show ((⟨g,0,none⟩:Addr).add (i * k + j))=⟨g,0 + i * k + j,none⟩ from by unfold Addr.add; split <;> simp_all <;> omega] at this;exact this
theorem Sl.one (w:World) (cs:Array Value) (t:TypeId) (n:Nat):Sl (w.alloc (.cells cs t)) n (.slice (some ⟨w.heap.size,0,none⟩) 1 1) [cs.toList]:=by
 refine .inr ⟨w.heap.size,0,1,rfl,by simp,by unfold maxLen; omega,by simp,λi r hi j u hj=>?_⟩;have hi0:i=0:=by
  have:=(Nj.1 hi).1; simp at this; exact this
 subst hi0;simp at hi;subst hi
 have:=(Box.new w cs t).cells j u hj
 simpa using this
theorem Own.at {w:World} {base:Nat} {e:TypeId} {size:Nat} {v:Value} {n:Nat} {xs:List Value} (h:Own w base e size v n xs) {W:World} (hW:Evo w W):Own W base e size v n xs:=h.keep hW.below
theorem flat_len {k:Nat}:∀ (l:List (List Value)),(∀ r∈l,r.length=k)->l.flatten.length=l.length * k
 | [],_=>by simp
 | x :: l,h=>by
  rw [Cv,Bk,flat_len l (λr hr=>h r (by simp [hr])),h x (by simp),Sk,Uq]; omega
theorem flat_split {k:Nat}:∀ (l:List (List Value)),(∀ r∈l,r.length=k)->∀ j u,l.flatten[j]?=some u->∃ i r m,l[i]?=some r/\r[m]?=some u/\j=i * k + m
 | [],_,j,u,h=>by simp at h
 | x :: l,hk,j,u,h=>by
  have hx:=hk x (by simp);rw [Cv] at h
  by_cases hj:j < x.length
  ·rw [Sx hj] at h;exact ⟨0,x,j,rfl,h,by simp⟩
  ·rw [Tw (by omega)] at h;obtain ⟨i,r,m,h1,h2,h3⟩:=flat_split l (λr hr=>hk r (by simp [hr])) _ u h;exact ⟨i + 1,r,m,by simpa using h1,h2,by rw [hx] at h3 hj; rw [Uq]; omega⟩
def One (l:List (List Value)):Prop:=∀ r∈l,∀ u∈r,u.oneCell'=true
def Len (k:Nat) (l:List (List Value)):Prop:=∀ r∈l,r.length=k
theorem Evo.size {x W:World} (h:Evo x W):x.heap.size<=W.heap.size:=h.below.size
theorem Own.low {w:World} {base base':Nat} {e:TypeId} {size:Nat} {v:Value} {n:Nat} {xs:List Value} (h:Own w base e size v n xs) (hb:base'<=base):Own w base' e size v n xs:=by
 obtain ⟨hl,hn | ⟨g,cap,cur,rfl,hbg,rest⟩⟩:=h
 ·exact ⟨hl,.inl hn⟩
 ·exact ⟨hl,.inr ⟨g,cap,cur,rfl,by omega,rest⟩⟩
theorem run_append_rows {P:Program} {w:World} (t ty e:TypeId) (z:Value) (k bytes:Nat) (ht:P.underlying t=some (.slice e)) (hinfo:(P.info? e).map (λi=>(i.zero,i.size,i.bytes))=some (some z,k,bytes)) (hzs:z.cells.size=k) (hsz:0 < k)
  (x:World) (hE:Evo x w) (v sv:Value) (l m:List (List Value)) (hown:Own w x.heap.size e k v l.length l.flatten) (hsrc:Sl w k sv m) (hk:Len k m) (h1:One m)
  (h63:l.length + m.length<=9223372036854775807) (hbytes:(l.length + m.length) * bytes<=140737488355328) :
  ∃ v' w',(Builtin.append_ #[t,t] ty #[v,sv]).run P w=.ok v' w'/\Own w' x.heap.size e k v' (l++m).length (l++m).flatten/\Evo x w'/\w.grownBy w' v.ownBlock/\(v'.ownBlock=v.ownBlock\/v'.ownBlock=some w.heap.size):=by
 obtain ⟨i0,hi,hz0,hz1,hz2⟩:=info_parts hinfo;rcases hsrc with ⟨A,cap,rfl,hA,hm,rfl⟩ | ⟨b,off,cap,rfl,c1,c2,hb,hc⟩
 ·cases A with
  | some a =>
   obtain ⟨v',w',hr,h2,h3,-,h5⟩:=run_append_own_at (P:=P) w x.heap.size t ty e i0 z k bytes ht hi hz0 hz1 hz2 hzs hsz v l.length l.flatten hown.own a 0 cap [] (by simp) (by simp) (by simp) (by unfold maxLen; simp at h63; omega) (by simpa using hbytes) hE.size;refine ⟨v',w',hr,?_,⟨hE.below.trans (grown_below hown h3 hE.size)⟩,h3,h5⟩;rw [Lw]; simpa using (⟨h2⟩:Own _ _ _ _ _ _ _)
  | none =>
  obtain rfl:=hA rfl;refine ⟨v,w,run_append_owned_none w x.heap.size t ty e i0 k ht hi v l.length l.flatten hown.own,?_,hE,⟨rfl,rfl,rfl,Hj _,λ_ _ _=>rfl⟩,.inl rfl⟩;rw [Lw]; exact hown
 ·have hml:m.flatten.length=m.length * k:=flat_len m hk;obtain ⟨v',w',hr,h2,h3,-,h5⟩:=run_append_own_at (P:=P) w x.heap.size t ty e i0 z k bytes ht hi hz0 hz1 hz2 hzs hsz v l.length l.flatten hown.own ⟨b,off,none⟩ m.length cap m.flatten hml (λj u hj=>by
   obtain ⟨i,r,q,e1,e2,e3⟩:=flat_split m hk j u hj
   have:=hc i r e1 q u e2
   rw [show ((⟨b,off,none⟩:Addr).add j)=⟨b,off + i * k + q,none⟩ from by unfold Addr.add; split <;> simp_all <;> omega];exact this) (λu hu=>by
   obtain ⟨r,hr,hur⟩:=List.mem_flatten.1 hu;exact h1 r hr u hur) (by unfold maxLen; omega) hbytes hE.size
  refine ⟨v',w',hr,?_,⟨hE.below.trans (grown_below hown h3 hE.size)⟩,h3,h5⟩;rw [Bk,List.flatten_append]; exact ⟨h2⟩
theorem uZ {P:Program} {w:World} {ops:Array Oper} {rest:List Oper} {o:Oper} {a:Act} {Q:Exit->Act->World->Prop} (hgd:o.guard=none) (s x:Operand) (t:TypeId)
  (ho:o.op=.call { callee:=.builtin .append,args:=#[s,x],argTypes:=#[t,t] })
  (e:TypeId) (z:Value) (k bytes:Nat) (ht:P.underlying t=some (.slice e)) (hinfo:(P.info? e).map (λi=>(i.zero,i.size,i.bytes))=some (some z,k,bytes)) (hzs:z.cells.size=k) (hsz:0 < k)
  (y:World) (hE:Evo y w) (l m:List (List Value)) (v sv:Value) (hs:a.eval s=v) (hx:a.eval x=sv) (hown:Own w y.heap.size e k v l.length l.flatten) (hsrc:Sl w k sv m) (hk:Len k m) (h1:One m)
  (h63:l.length + m.length<=9223372036854775807) (hbytes:(l.length + m.length) * bytes<=140737488355328)
  (h:∀ v' w',Own w' y.heap.size e k v' (l++m).length (l++m).flatten->Evo y w'->w.grownBy w' v.ownBlock->wpList P ops Q rest (a.put o.dst v') w'):wpList P ops Q (o :: rest) a w:=by
 obtain ⟨v',w',hr,h2,h3,h4,-⟩:=run_append_rows (P:=P) (w:=w) t o.type e z k bytes ht hinfo hzs hsz y hE v sv l m hown hsrc hk h1 h63 hbytes;exact Lib.wpList_append_run w hgd s x t t ho v sv hs hx v' w' hr (h v' w' h2 h3 h4)
def oJ (E:TypeId) (k:Nat) (l:List (List Value)) (w:World) (e:Ending) (w':World):Prop:=∃ v,e=.returned v/\Own w' w.heap.size E k v l.length l.flatten/\Evo w w'
def fidx {α:Type} (p:α->Bool) (l:List α):Int:=match l.findIdx? p with | some k=>k | none => -1
theorem fidx_found {α:Type} (p:α->Bool):∀ (l:List α) (k:Nat) (x:α),(∀ y∈l.take k,p y=false)->l[k]?=some x->p x=true->fidx p l=k
 | [],k,x,_,h,_=>by simp at h
 | y :: l,0,x,_,h,hx=>by
  simp at h; subst h;simp [fidx,List.findIdx?_cons,hx]
 | y :: l,k + 1,x,ha,h,hx=>by
  have hy:=ha y (by simp);have ih:=fidx_found p l k x (λz hz=>ha z (by simp [hz])) (by simpa using h) hx;unfold fidx at ih ⊢;rw [List.findIdx?_cons,hy]
  cases e:l.findIdx? p with
  | none=>rw [e] at ih; simp at ih <;> omega
  | some j=>rw [e] at ih; simp at ih ⊢; omega
theorem fidx_none {α:Type} (p:α->Bool) (l:List α) (h:∀ y∈l,p y=false):fidx p l = -1:=by
 unfold fidx;rw [List.findIdx?_eq_none_iff.2 h]
theorem fidx_any {α:Type} (p:α->Bool) (l:List α):l.any p=true↔0<=fidx p l:=by
 unfold fidx
 cases e:l.findIdx? p with
 | none =>
  rw [List.findIdx?_eq_none_iff] at e;simp;intro x hx; simp [e x hx]
 | some k =>
  simp;obtain ⟨h,hk,-⟩:=List.findIdx?_eq_some_iff_getElem.1 e
  exact ⟨_,List.getElem_mem h,hk⟩
theorem fidx_dec {α:Type} (p:α->Bool) (l:List α):decide (0<=fidx p l)=l.any p:=by
 rw [Bool.eq_iff_iff,decide_eq_true_iff]; exact (fidx_any p l).symm
end Go.Proofs.YthgcgciceejicaaGreatDoor
