/-
  Contracts of package lex, third part: quote.
-/
import Derived.Test.YthplkompdehjlaaGreatDoorZR26
import Derived.Test.YthplkompdehjlaaGreatDoorZR2
import Derived.Laws.IdiomStrings
import Derived.StillTailTactics
import Derived.Deep.Cut
namespace Go.Proofs.YthplkompdehjlaaGreatDoor
open Go.RowKit
theorem infoByte:(Tryz.prog.info? 5).map (fun i=>(i.zero,i.size,i.bytes))=some (some (.int .u8 0),1,1):=by kernel_rfl
def bcells (l:List UInt8):List Value:=l.map fun c=>.int .u8 c.toNat
theorem bcells_snoc (l:List UInt8) (c:UInt8):bcells (l++[c])=bcells l++[.int .u8 c.toNat]:=by simp [bcells]
theorem text_back {wr:World} {base:Nat} {v:Value} {l:List UInt8} (h:Own wr base 5 1 v l.length (bcells l)) :
  (convert 90 9 v).run Tryz.prog wr=.ok (.string ⟨l.toArray⟩) wr:=by
 obtain ⟨h⟩:=h
 rcases h.2 with ⟨rfl,h0⟩ | ⟨g,cap,cur,rfl,-,-,-⟩
 ·have:l=[]:=List.length_eq_zero_iff.1 h0
  subst this
  rw [run_convert_bytes_string (P:=Tryz.prog) wr 90 9 5 none 0 0 Tryz.underlying90 Tryz.underlying5 Tryz.underlying9]
  rfl
 ·exact run_convert_bytes_back (P:=Tryz.prog) wr 90 9 5 ⟨g,0,none⟩ cap l Tryz.underlying90 Tryz.underlying5 Tryz.underlying9 (fun j hj=>by
   exact h.cells (g:=g) rfl j _ (by simp [bcells,List.getElem?_eq_getElem hj]))
theorem own_len {w:World} {base:Nat} {v:Value} {l:List UInt8} (h:Own w base 5 1 v l.length (bcells l)):∃ A cap,v=.slice A l.length cap:=by
 obtain ⟨h⟩:=h
 rcases h.2 with ⟨rfl,h0⟩ | ⟨g,cap,cur,rfl,-,-,-⟩
 ·exact ⟨none,0,by rw [h0]⟩
 ·exact ⟨_,_,rfl⟩
theorem quote_at (l:List UInt8) (k:Nat) (i:Nat) (text:List UInt8) (c:UInt8) (h:l[k]?=some c) :
  (c=34→eX (l.drop k) i text=if 40 < text.length then .error 1 else .ok (i + 1,text)) ∧
  (c≠34→c≠92→c.toNat < 32∨126 < c.toNat→eX (l.drop k) i text=.error 3) ∧
  (c≠34→c≠92→¬ (c.toNat < 32∨126 < c.toNat)→eX (l.drop k) i text=eX (l.drop (k + 1)) (i + 1) (text++[c])) ∧
  (c=92→l[k + 1]?=none→eX (l.drop k) i text=.error 3) ∧
  (∀ d,c=92→l[k + 1]?=some d→¬ (d=34∨d=92)→eX (l.drop k) i text=.error 3) ∧
  (∀ d,c=92→l[k + 1]?=some d→(d=34∨d=92)→eX (l.drop k) i text=eX (l.drop (k + 2)) (i + 2) (text++[d])):=by
 have hk:k < l.length:=(List.getElem?_eq_some_iff.1 h).1
 have e:l[k]=c:=(List.getElem?_eq_some_iff.1 h).2
 rw [List.drop_eq_getElem_cons hk,e]
 rcases Nat.lt_or_ge (k + 1) l.length with h2 | h2
 ·rw [List.drop_eq_getElem_cons h2,List.getElem?_eq_getElem h2]
  refine ⟨?_,?_,?_,?_,?_,?_⟩
  ·rintro rfl; simp [eX]
  ·intro a b r; simp [eX,a,b,r]
  ·intro a b r; simp only [eX,a,b,r,if_false]
  ·intro _ r; simp at r
  ·intro d a b r; simp only [Option.some.injEq] at b; subst a; subst b; simp only [eX]; simp; intro q; exact (r q).elim
  ·intro d a b r; simp only [Option.some.injEq] at b; subst a; subst b; simp only [eX]; simp [r]
 ·rw [List.drop_eq_nil_of_le h2,List.getElem?_eq_none h2]
  refine ⟨?_,?_,?_,?_,?_,?_⟩
  ·rintro rfl; simp [eX]
  ·intro a b r; simp [eX,a]
  ·intro a b r; simp [eX,a]
  ·rintro rfl _; simp [eX]
  ·intro d a b; simp at b
  ·intro d a b; simp at b
theorem quote_end (l:List UInt8) (k i:Nat) (text:List UInt8) (h:l.length≤k):eX (l.drop k) i text=.error 3:=by
 rw [List.drop_eq_nil_of_le h]; rfl
end Go.Proofs.YthplkompdehjlaaGreatDoor
