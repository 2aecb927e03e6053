/-
  Which fields the generator's formulas ask for; a part of a list of fields.
-/
import Derived.Test.YthplkompdehjlaaGreatPR24
namespace Go.Proofs.YthplkompdehjlaaGreat
open Go.RowKit
theorem leaf_refs (r:RawD) (fs:List Fd) (kind:Int) {s:ByteArray} (h:s∈nY (iW r fs kind)):∃ f∈fs,s=f.name:=by
 have hc:∀ s,s ∉ nY (kK kind r):=λs h=>by
  rw [oY,Bj (show ¬ (kK kind r).op=2 by show ¬ (1:Int)=2; decide)] at h;have h:s∈[]++pY []:=h;simp [pY] at h
 unfold iW at h
 split at h
 ·rename_i t ht
  split at h
  ·exact absurd h (hc s)
  ·rw [refs_ref] at h
   have:=Dj ht
   obtain ⟨f,hf,e⟩:=Qj.1 this;exact ⟨f,(Gq.1 hf).1,by rw [Pj.1 h,e]⟩
 ·exact absurd h (hc s)
theorem refs_gen {fs:List Fd} (l:List RawD):∀ (d:Nat) (kind:Int) (n:Nat),∀ s∈nY (gJ l fs d kind n).1,∃ f∈fs,s=f.name
 | 0,kind,n,s,h=>leaf_refs _ _ _ h
 | d + 1,kind,n,s,h=>by
  by_cases g:cJ (aJ l n).k 3=0
  ·rw [genE_leaf g] at h; exact leaf_refs _ _ _ h
  ·obtain ⟨op,ks,hp⟩:∃ op ks,xX (aJ l n) kind=(op,ks):=⟨(xX (aJ l n) kind).1,(xX (aJ l n) kind).2,by cases xX (aJ l n) kind; rfl⟩;rw [pV g hp] at h;have h:s∈nY (opE op (dJ (gJ l fs d) ks (bJ l n)).1):=h;have hop:op≠2:=by
    have:(xX (aJ l n) kind).1≠2:=by
     have b0:=aY (aJ l n).b 7 (by omega);have b1:=zX (aJ l n).b 7 (by omega);unfold xX intOps
     repeat' split
     all_goals (simp only; omega)
    rw [hp] at this; exact this
   rw [refs_op op _ hop] at h;obtain ⟨x,hx,hs⟩:=mem_refsL.1 h;obtain ⟨-,m2⟩:=manyE_all (one:=gJ l fs d) (p:=λx=>∀ s∈nY x,∃ f∈fs,s=f.name) ks (bJ l n) (λk _ n=>refs_gen l d k n);exact m2 x hx s hs
end Go.Proofs.YthplkompdehjlaaGreat
