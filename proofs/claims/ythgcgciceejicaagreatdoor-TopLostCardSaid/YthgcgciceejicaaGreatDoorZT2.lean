/-
  Slices of structs: what they hold; rows of the call's own.
-/
import Derived.Test.YthgcgciceejicaaGreatDoorZT1
namespace Go.Proofs.YthgcgciceejicaaGreatDoor
open Go.RowKit
def IsRows (w:World) (k:Nat) (v:Value) (l:List (List Value)):Prop :=
 ∃ (A:Option Addr) (cap:Nat),v=.slice A l.length cap/\l.length<=cap /\
  (l=[]\/∃ b off,A=some ⟨b,off,none⟩/\b < w.heap.size/\∀ i r,l[i]?=some r->∀ j u,r[j]?=some u->w.cell? ⟨b,off + i * k + j,none⟩=some u)
theorem IsRows.keep {w w':World} {k:Nat} {v:Value} {l:List (List Value)} (h:IsRows w k v l) (hb:Below w.heap.size w w'):IsRows w' k v l:=by
 obtain ⟨A,cap,e,hc,hr⟩:=h;refine ⟨A,cap,e,hc,?_⟩;rcases hr with hr | ⟨b,off,e,hlt,hr⟩
 ·exact .inl hr
 ·exact .inr ⟨b,off,e,Cq hlt hb.size,λi r hi j u hj=>(hb.cell (p:=⟨b,off + i * k + j,none⟩) hlt).trans (hr i r hi j u hj)⟩
theorem IsRows.alloc {w:World} {k:Nat} {v:Value} {l:List (List Value)} (h:IsRows w k v l) (o:Obj):IsRows (w.alloc o) k v l :=
 h.keep ((Wj _ _).alloc (Hj _) _)
structure Own (w:World) (base:Nat) (e:TypeId) (size:Nat) (v:Value) (n:Nat) (xs:List Value):Prop where
 own:w.ownsRow base e size v n xs
theorem Own.keep {w w':World} {base:Nat} {e:TypeId} {size:Nat} {v:Value} {n:Nat} {xs:List Value} (h:Own w base e size v n xs) (hb:Below w.heap.size w w'):Own w' base e size v n xs:=by
 obtain ⟨hl,hn | ⟨g,cap,cur,rfl,hbg,hgg,rest⟩⟩:=h
 ·exact ⟨hl,.inl hn⟩
 ·refine ⟨hl,.inr ⟨g,cap,cur,rfl,hbg,?_,rest⟩⟩;rw [hb.block g (Nk.1 hgg).1];exact hgg
theorem Own.alloc {w:World} {base:Nat} {e:TypeId} {size:Nat} {v:Value} {n:Nat} {xs:List Value} (h:Own w base e size v n xs) (o:Obj):Own (w.alloc o) base e size v n xs :=
 h.keep ((Wj _ _).alloc (Hj _) _)
theorem Own.block {w:World} {base:Nat} {e:TypeId} {size:Nat} {v:Value} {n:Nat} {xs:List Value} (h:Own w base e size v n xs) {g:Nat} (hg:v.ownBlock=some g):base<=g:=(h.own.lt g hg).1
theorem Own.only {w w':World} {base:Nat} {e:TypeId} {size:Nat} {v:Value} {n:Nat} {xs:List Value} {g:Nat} (h:Own w base e size v n xs) (ho:OnlyAt g w w') (hne:∀ k,v.ownBlock=some k->k≠g):Own w' base e size v n xs:=by
 obtain ⟨hl,hn | ⟨g',cap,cur,rfl,hbg,hgg,rest⟩⟩:=h
 ·exact ⟨hl,.inl hn⟩
 ·refine ⟨hl,.inr ⟨g',cap,cur,rfl,hbg,?_,rest⟩⟩;rw [ho.block g' (hne g' rfl)];exact hgg
theorem grown_below {w w':World} {base:Nat} {e:TypeId} {size:Nat} {v:Value} {n:Nat} {xs:List Value} (h:Own w base e size v n xs) (hg:w.grownBy w' v.ownBlock) (hb:base<=w.heap.size):Below base w w' :=
 ⟨hg.os,hg.tape,hg.output,hg.size,λk hk=>hg.block k (by omega) (λe=>by have:=h.block e.symm; omega)⟩
theorem Box.low {w w':World} {b B:Nat} {vs:List Value} (h:Box w b vs) (hb:Below B w w') (hB:b < B):Box w' b vs :=
 ⟨Cq h.lt hb.size,λi v hv=>(hb.cell (p:=⟨b,i,none⟩) hB).trans (h.cells i v hv),λi=>(hb.frozen (p:=⟨b,i,none⟩) hB).trans (h.free i)⟩
theorem flat_get {k:Nat}:∀ (l:List (List Value)),(∀ r∈l,r.length=k)->∀ i r j u,l[i]?=some r->r[j]?=some u->l.flatten[i * k + j]?=some u
 | [],_,i,r,j,u,h,_=>by simp at h
 | x :: l,hk,0,r,j,u,h,hj=>by
  simp at h; subst h;rw [Cv,Nat.zero_mul,Gq,Sx (by have:=(Nj.1 hj).1; exact this)];exact hj
 | x :: l,hk,i + 1,r,j,u,h,hj=>by
  have hx:=hk x (by simp);rw [Cv,Tw (by rw [hx,Uq]; omega),hx,show (i + 1) * k + j - k=i * k + j by rw [Uq]; omega];exact flat_get l (λr hr=>hk r (by simp [hr])) i r j u (by simpa using h) hj
theorem cZ {α:Type} (l:List α) (k:Nat) (x:α) (h:l[k]?=some x):l.take (k + 1)=l.take k++[x]:=by
 rw [Ov,h]; rfl
theorem Own.drewN {w:World} {base:Nat} {e:TypeId} {size:Nat} {v:Value} {n:Nat} {xs:List Value} (h:Own w base e size v n xs) (k:Nat):Own (w.drewN k) base e size v n xs :=
 h.keep (below_drewN (Wj _ _) k)
theorem Own.drew {w:World} {base:Nat} {e:TypeId} {size:Nat} {v:Value} {n:Nat} {xs:List Value} (h:Own w base e size v n xs):Own w.drew base e size v n xs:=h.drewN 1
end Go.Proofs.YthgcgciceejicaaGreatDoor
