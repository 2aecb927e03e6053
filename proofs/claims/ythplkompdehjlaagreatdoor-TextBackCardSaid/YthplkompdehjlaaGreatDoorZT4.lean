/-
  A world that has come of another one by growth alone: what was there is as it was. Facts on cells are laid once, for every such world. The first place where a test holds.
-/
import Derived.Test.YthplkompdehjlaaGreatDoorZT2
import Derived.Laws.AppendOwnNone
import Derived.Deep.RegionLaw
import Derived.Deep.AppendLies
import Derived.Lib.AppendZeros
namespace Go.Proofs.YthplkompdehjlaaGreatDoor
open Go.RowKit
structure Evo (x W:World):Prop where
 below:Below x.heap.size x W
theorem Evo.refl (x:World):Evo x x:=⟨Below.refl _ _⟩
theorem Evo.trans {x y z:World} (h:Evo x y) (k:Evo y z):Evo x z:=⟨h.below.trans (k.below.mono h.below.size)⟩
theorem Evo.alloc {x W:World} (h:Evo x W) (o:Obj):Evo x (W.alloc o):=⟨h.below.alloc h.below.size o⟩
theorem Evo.drew {x W:World} (h:Evo x W):Evo x W.drew:=⟨h.below.drew⟩
theorem Evo.drewN {x W:World} (h:Evo x W) (n:Nat):Evo x (W.drewN n):=⟨below_drewN h.below n⟩
theorem Evo.cell {x W:World} (h:Evo x W) {b o:Nat} {v:Value} (hb:b < x.heap.size) (c:x.cell? ⟨b,o,none⟩=some v):W.cell? ⟨b,o,none⟩=some v:=(h.below.cell (p:=⟨b,o,none⟩) hb).trans c
attribute [local go_sem] Evo.refl Evo.alloc Evo.drew Evo.drewN
def Sl (w:World) (k:Nat) (v:Value) (l:List (List Value)):Prop :=
 (∃ A cap,v=.slice A 0 cap∧(A=none→cap=0)∧cap≤maxLen∧l=[])∨∃ b off cap,v=.slice (some ⟨b,off,none⟩) l.length cap∧l.length≤cap∧cap≤maxLen∧b < w.heap.size ∧
  ∀ i r,l[i]?=some r→∀ j u,r[j]?=some u→w.cell? ⟨b,off + i * k + j,none⟩=some u
theorem Sl.nil (w:World) (k:Nat):Sl w k (.slice none 0 0) []:=.inl ⟨none,0,rfl,fun _=>rfl,Nat.zero_le _,rfl⟩
theorem Sl.at {w:World} {k:Nat} {v:Value} {l:List (List Value)} (h:Sl w k v l) {W:World} (hW:Evo w W):Sl W k v l:=by
 rcases h with h | ⟨b,off,cap,e,h1,h2,hb,hc⟩
 ·exact .inl h
 ·exact .inr ⟨b,off,cap,e,h1,h2,Nat.lt_of_lt_of_le hb hW.below.size,fun i r hi j u hj=>hW.cell hb (hc i r hi j u hj)⟩
theorem Sl.one (w:World) (cs:Array Value) (t:TypeId) (n:Nat):Sl (w.alloc (.cells cs t)) n (.slice (some ⟨w.heap.size,0,none⟩) 1 1) [cs.toList]:=by
 refine .inr ⟨w.heap.size,0,1,rfl,by simp,by unfold maxLen; omega,by simp,fun i r hi j u hj=>?_⟩
 have hi0:i=0:=by
  have:=(List.getElem?_eq_some_iff.1 hi).1; simp at this; exact this
 subst hi0
 simp at hi
 subst hi
 have:=(Box.new w cs t).cells j u hj
 simpa using this
theorem Own.at {w:World} {base:Nat} {e:TypeId} {size:Nat} {v:Value} {n:Nat} {xs:List Value} (h:Own w base e size v n xs) {W:World} (hW:Evo w W):Own W base e size v n xs:=h.keep hW.below
def One (l:List (List Value)):Prop:=∀ r∈l,∀ u∈r,u.oneCell'=true
def Len (k:Nat) (l:List (List Value)):Prop:=∀ r∈l,r.length=k
theorem Evo.size {x W:World} (h:Evo x W):x.heap.size≤W.heap.size:=h.below.size
end Go.Proofs.YthplkompdehjlaaGreatDoor
namespace Go.Proofs.YthplkompdehjlaaGreatDoor
open Go.RowKit
def fidx {α:Type} (p:α→Bool) (l:List α):Int:=match l.findIdx? p with | some k=>k | none => -1
theorem fidx_found {α:Type} (p:α→Bool):∀ (l:List α) (k:Nat) (x:α),(∀ y∈l.take k,p y=false)→l[k]?=some x→p x=true→fidx p l=k
 | [],k,x,_,h,_=>by simp at h
 | y :: l,0,x,_,h,hx=>by
  simp at h; subst h
  simp [fidx,List.findIdx?_cons,hx]
 | y :: l,k + 1,x,ha,h,hx=>by
  have hy:=ha y (by simp)
  have ih:=fidx_found p l k x (fun z hz=>ha z (by simp [hz])) (by simpa using h) hx
  unfold fidx at ih ⊢
  rw [List.findIdx?_cons,hy]
  cases e:l.findIdx? p with
  | none=>rw [e] at ih; simp at ih <;> omega
  | some j=>rw [e] at ih; simp at ih ⊢; omega
theorem fidx_none {α:Type} (p:α→Bool) (l:List α) (h:∀ y∈l,p y=false):fidx p l = -1:=by
 unfold fidx
 rw [List.findIdx?_eq_none_iff.2 h]
theorem fidx_any {α:Type} (p:α→Bool) (l:List α):l.any p=true↔0≤fidx p l:=by
 unfold fidx
 cases e:l.findIdx? p with
 | none =>
  rw [List.findIdx?_eq_none_iff] at e
  simp
  intro x hx; simp [e x hx]
 | some k =>
  simp
  obtain ⟨h,hk,-⟩:=List.findIdx?_eq_some_iff_getElem.1 e
  exact ⟨_,List.getElem_mem h,hk⟩
theorem fidx_dec {α:Type} (p:α→Bool) (l:List α):decide (0≤fidx p l)=l.any p:=by
 rw [Bool.eq_iff_iff,decide_eq_true_iff]; exact (fidx_any p l).symm
end Go.Proofs.YthplkompdehjlaaGreatDoor
