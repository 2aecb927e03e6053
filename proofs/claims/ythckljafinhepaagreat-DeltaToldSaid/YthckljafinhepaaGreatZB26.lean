/-
  A world that has come of another one by growth alone: what was there is as it was. Facts on cells are laid once, for every such world. The first place where a test holds.
-/
import Derived.Test.YthckljafinhepaaGreatZB2
import Derived.Laws.AppendOwnNone
import Derived.Deep.RegionLaw
import Derived.Deep.AppendLies
import Derived.Lib.AppendZeros
namespace Go.Proofs.YthckljafinhepaaGreat
open Go.RowKit

/-- W has come of x: what lay in x lies there unturned. -/
structure Evo (x W:World):Prop where
 below:Below x.heap.size x W

theorem Evo.refl (x:World):Evo x x:=⟨Below.refl _ _⟩
theorem Evo.trans {x y z:World} (h:Evo x y) (k:Evo y z):Evo x z:=⟨h.below.trans (k.below.mono h.below.size)⟩
theorem Evo.alloc {x W:World} (h:Evo x W) (o:Obj):Evo x (W.alloc o):=⟨h.below.alloc h.below.size o⟩
theorem Evo.drew {x W:World} (h:Evo x W):Evo x W.drew:=⟨h.below.drew⟩
theorem Evo.drewN {x W:World} (h:Evo x W) (n:Nat):Evo x (W.drewN n):=⟨below_drewN h.below n⟩
theorem Evo.set {x u W:World} (h:Evo x W) (k:Evo x u) (i:Nat) (v:Value):Evo x (W.setCell ⟨u.heap.size,i,none⟩ v):=⟨h.below.setCell k.below.size v⟩
theorem Evo.cell {x W:World} (h:Evo x W) {b o:Nat} {v:Value} (hb:b < x.heap.size) (c:x.cell? ⟨b,o,none⟩=some v):W.cell? ⟨b,o,none⟩=some v:=(h.below.cell (p:=⟨b,o,none⟩) hb).trans c
theorem Evo.free {x W:World} (h:Evo x W) {b o:Nat} (hb:b < x.heap.size) (c:x.frozen? ⟨b,o,none⟩=false):W.frozen? ⟨b,o,none⟩=false:=(h.below.frozen (p:=⟨b,o,none⟩) hb).trans c
attribute [local go_sem] Evo.refl Evo.alloc Evo.drew Evo.drewN

/-- The slice v holds the rows l of k cells each: nil, or in a block that lies in w. -/
def Sl (w:World) (k:Nat) (v:Value) (l:List (List Value)):Prop :=
 (∃ A cap,v=.slice A 0 cap∧(A=none→cap=0)∧cap≤maxLen∧l=[])∨∃ b off cap,v=.slice (some ⟨b,off,none⟩) l.length cap∧l.length≤cap∧cap≤maxLen∧b < w.heap.size ∧
  ∀ i r,l[i]?=some r→∀ j u,r[j]?=some u→w.cell? ⟨b,off + i * k + j,none⟩=some u

theorem Sl.nil (w:World) (k:Nat):Sl w k (.slice none 0 0) []:=.inl ⟨none,0,rfl,fun _=>rfl,Nat.zero_le _,rfl⟩
theorem Sl.at {w:World} {k:Nat} {v:Value} {l:List (List Value)} (h:Sl w k v l) {W:World} (hW:Evo w W):Sl W k v l:=by
 rcases h with h | ⟨b,off,cap,e,h1,h2,hb,hc⟩
 ·exact .inl h
 ·exact .inr ⟨b,off,cap,e,h1,h2,Nat.lt_of_lt_of_le hb hW.below.size,fun i r hi j u hj=>hW.cell hb (hc i r hi j u hj)⟩
theorem Sl.form {w:World} {k:Nat} {v:Value} {l:List (List Value)} (h:Sl w k v l):∃ A cap,v=.slice A l.length cap∧l.length≤cap∧cap≤maxLen∧(A=none→cap=0):=by
 rcases h with ⟨A,cap,rfl,hA,hm,rfl⟩ | ⟨b,off,cap,e,h1,h2,hb,hc⟩
 ·exact ⟨A,cap,rfl,Nat.zero_le _,hm,hA⟩
 ·exact ⟨_,cap,e,h1,h2,fun k=>by cases k⟩
/-- The cells of a row, in every world that comes after. -/
theorem Sl.row {w:World} {k:Nat} {A:Option Addr} {n cap:Nat} {l:List (List Value)} (h:Sl w k (.slice A n cap) l) {i:Nat} {r:List Value} (hi:l[i]?=some r) :
  ∃ b off,A=some ⟨b,off,none⟩∧b < w.heap.size∧∀ j u,r[j]?=some u→∀ W,Evo w W→W.cell? ⟨b,off + i * k + j,none⟩=some u:=by
 rcases h with ⟨_,_,_,_,_,rfl⟩ | ⟨b,off,cap',e,h1,h2,hb,hc⟩
 ·simp at hi
 ·simp only [Value.slice.injEq] at e
  obtain ⟨rfl,-,-⟩:=e
  exact ⟨b,off,rfl,hb,fun j u hj W hW=>hW.cell hb (hc i r hi j u hj)⟩
/-- The first i rows. -/
theorem Sl.take {w:World} {k:Nat} {A:Option Addr} {n cap:Nat} {l:List (List Value)} (h:Sl w k (.slice A n cap) l) (i:Nat) (hi:i≤l.length):Sl w k (.slice A i cap) (l.take i):=by
 rcases h with ⟨A',cap',e,hA,hm,rfl⟩ | ⟨b,off,cap',e,h1,h2,hb,hc⟩
 ·simp only [Value.slice.injEq] at e
  obtain ⟨rfl,rfl,rfl⟩:=e
  have:i=0:=by simpa using hi
  subst this
  exact .inl ⟨A,cap,rfl,hA,hm,rfl⟩
 ·simp only [Value.slice.injEq] at e
  obtain ⟨rfl,rfl,rfl⟩:=e
  have hl:(l.take i).length=i:=by rw [List.length_take]; omega
  refine .inr ⟨b,off,cap,by rw [hl],by omega,h2,hb,fun j r hj m u hm=>hc j r ?_ m u hm⟩
  rw [List.getElem?_take] at hj
  split at hj
  ·exact hj
  ·cases hj
/-- From row i on. -/
theorem Sl.drop {w:World} {k:Nat} {A:Option Addr} {n cap:Nat} {l:List (List Value)} (h:Sl w k (.slice A n cap) l) (i:Nat) (hi:i≤l.length) :
  Sl w k (.slice (if cap=i then A else A.map (·.add (i * k))) (n - i) (cap - i)) (l.drop i):=by
 rcases h with ⟨A',cap',e,hA,hm,rfl⟩ | ⟨b,off,cap',e,h1,h2,hb,hc⟩
 ·simp only [Value.slice.injEq] at e
  obtain ⟨rfl,rfl,rfl⟩:=e
  have:i=0:=by simpa using hi
  subst this
  refine .inl ⟨A,cap,?_,hA,hm,rfl⟩
  have ha:A.map (·.add (0 * k))=A:=by cases A <;> simp [Addr.add]
  rw [ha]; simp
 ·simp only [Value.slice.injEq] at e
  obtain ⟨rfl,rfl,rfl⟩:=e
  have hl:(l.drop i).length=l.length - i:=List.length_drop
  have h2':cap - i≤maxLen:=by omega
  by_cases hci:cap=i
  ·rw [if_pos hci]
   refine .inr ⟨b,off,cap - i,by rw [hl],by omega,h2',hb,fun j r hj=>?_⟩
   rw [List.drop_eq_nil_of_le (by omega)] at hj
   simp at hj
  ·rw [if_neg hci]
   refine .inr ⟨b,off + i * k,cap - i,?_,by omega,h2',hb,fun j r hj m u hm=>?_⟩
   ·rw [hl]
    unfold Addr.add
    by_cases h0:i * k=0
    ·simp [h0]
    ·simp [h0]
   ·rw [List.getElem?_drop] at hj
    have:=hc (i + j) r hj m u hm
    rwa [show off + i * k + j * k + m=off + (i + j) * k + m by rw [Nat.add_mul]; omega]
theorem Sl.one (w:World) (cs:Array Value) (t:TypeId) (n:Nat):Sl (w.alloc (.cells cs t)) n (.slice (some ⟨w.heap.size,0,none⟩) 1 1) [cs.toList]:=by
 refine .inr ⟨w.heap.size,0,1,rfl,by simp,by unfold maxLen; omega,by simp,fun i r hi j u hj=>?_⟩
 have hi0:i=0:=by
  have:=(List.getElem?_eq_some_iff.1 hi).1; simp at this; exact this
 subst hi0
 simp at hi
 subst hi
 have:=(Box.new w cs t).cells j u hj
 simpa using this
theorem Own.at {w:World} {base:Nat} {e:TypeId} {size:Nat} {v:Value} {n:Nat} {xs:List Value} (h:Own w base e size v n xs) {W:World} (hW:Evo w W):Own W base e size v n xs:=h.keep hW.below
def One (l:List (List Value)):Prop:=∀ r∈l,∀ u∈r,u.oneCell'=true
theorem Evo.size {x W:World} (h:Evo x W):x.heap.size≤W.heap.size:=h.below.size
theorem Own.low {w:World} {base base':Nat} {e:TypeId} {size:Nat} {v:Value} {n:Nat} {xs:List Value} (h:Own w base e size v n xs) (hb:base'≤base):Own w base' e size v n xs:=by
 obtain ⟨hl,hn | ⟨g,cap,cur,rfl,hbg,rest⟩⟩:=h
 ·exact ⟨hl,.inl hn⟩
 ·exact ⟨hl,.inr ⟨g,cap,cur,rfl,by omega,rest⟩⟩

end Go.Proofs.YthckljafinhepaaGreat

namespace Go.Proofs.YthckljafinhepaaGreat
open Go.RowKit

/-- The first place where p holds; none: -1. -/
def fidx {α:Type} (p:α→Bool) (l:List α):Int:=match l.findIdx? p with | some k=>k | none => -1

theorem fidx_found {α:Type} (p:α→Bool):∀ (l:List α) (k:Nat) (x:α),(∀ y∈l.take k,p y=false)→l[k]?=some x→p x=true→fidx p l=k
 | [],k,x,_,h,_=>by simp at h
 | y :: l,0,x,_,h,hx=>by
  simp at h; subst h
  simp [fidx,List.findIdx?_cons,hx]
 | y :: l,k + 1,x,ha,h,hx=>by
  have hy:=ha y (by simp)
  have ih:=fidx_found p l k x (fun z hz=>ha z (by simp [hz])) (by simpa using h) hx
  unfold fidx at ih ⊢
  rw [List.findIdx?_cons,hy]
  cases e:l.findIdx? p with
  | none=>rw [e] at ih; simp at ih <;> omega
  | some j=>rw [e] at ih; simp at ih ⊢; omega
theorem fidx_none {α:Type} (p:α→Bool) (l:List α) (h:∀ y∈l,p y=false):fidx p l = -1:=by
 unfold fidx
 rw [List.findIdx?_eq_none_iff.2 h]
theorem fidx_any {α:Type} (p:α→Bool) (l:List α):l.any p=true↔0≤fidx p l:=by
 unfold fidx
 cases e:l.findIdx? p with
 | none =>
  rw [List.findIdx?_eq_none_iff] at e
  simp
  intro x hx; simp [e x hx]
 | some k =>
  simp
  obtain ⟨h,hk,-⟩:=List.findIdx?_eq_some_iff_getElem.1 e
  exact ⟨_,List.getElem_mem h,hk⟩

theorem fidx_dec {α:Type} (p:α→Bool) (l:List α):decide (0≤fidx p l)=l.any p:=by
 rw [Bool.eq_iff_iff,decide_eq_true_iff]; exact (fidx_any p l).symm
end Go.Proofs.YthckljafinhepaaGreat
