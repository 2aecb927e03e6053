/-
  The ranks of the laws' Form, in plain words.
-/
import Derived.Test.YthplkompdehjlaaGreatPR32
import Derived.Test.YthplkompdehjlaaGreatPR33
namespace Go.Proofs.YthplkompdehjlaaGreat
open Go.RowKit
set_option linter.unusedVariables false
def rhoF (need:List (List Nat)):Nat -> Nat -> Int
 | 0,_=>0
 | t + 1,i=>(need.getD i []).foldl (λa k=>max a (rhoF need t k + 1)) 0
theorem foldl_same {f g:Int -> Nat -> Int}:∀ (l:List Nat) (a:Int),(∀ a,∀ k∈l,f a k=g a k) -> l.foldl f a=l.foldl g a
 | [],a,h=>rfl
 | k :: l,a,h=>by
  rw [Jv,Jv,h a k (by simp)];exact foldl_same l _ λa k' hk'=>h a k' (by simp [hk'])
theorem rho_stable {need:List (List Nat)} {lv:Nat -> Nat} (low:∀ i,i < need.length -> ∀ k∈need.getD i [],k < need.length /\ lv k < lv i):∀ t s i,i < need.length -> lv i < t -> lv i < s -> rhoF need t i=rhoF need s i
 | 0,s,i,_,h,_=>absurd h (Nat.not_lt_zero _)
 | t + 1,0,i,_,_,h=>absurd h (Nat.not_lt_zero _)
 | t + 1,s + 1,i,hi,h1,h2=>by
  unfold rhoF;refine foldl_same _ _ λa k hk=>?_;obtain ⟨k1,k2⟩:=low i hi k hk;rw [rho_stable low t s k k1 (by omega) (by omega)]
def rhoL (need:List (List Nat)):List Int:=(List.range need.length).map (rhoF need need.length)
theorem rho_get {need:List (List Nat)} {i:Nat} (h:i < need.length):(rhoL need).getD i 0=rhoF need need.length i:=by
 unfold rhoL;rw [Uk,Nj,List.getElem?_range h]; rfl
theorem ranked_ex {need:List (List Nat)} {lv:Nat -> Nat} (low:∀ i,i < need.length -> ∀ k∈need.getD i [],k < need.length /\ lv k < lv i) (few:∀ i,i < need.length -> lv i < need.length):Ranked need (rhoL need) lv:=by
 refine ⟨by unfold rhoL; rw [Hj,List.length_range],λi hi=>?_,low,few⟩;rw [rho_get hi];obtain ⟨m,hm⟩:∃ m,need.length=m + 1:=⟨need.length - 1,by omega⟩;have hf:=few i hi;show rhoF need need.length i=_;have e:rhoF need need.length i=(need.getD i []).foldl (λa k=>max a (rhoF need m k + 1)) 0:=by rw [hm]; rfl
 rw [e];refine foldl_same _ _ λa k hk=>?_;obtain ⟨k1,k2⟩:=low i hi k hk;rw [rho_get k1,rho_stable low m need.length k k1 (by omega) (by omega)]
theorem refs_zE:nY zE=[]:=by
 rw [oY,Bj (show ¬ zE.op=2 by decide)];show []++pY []=[];simp [pY]
theorem src_refs {l:List RawD} {k:Nat} {s:ByteArray} (h:s∈nY (srcE l (fJ l k).1 (aJ l (fJ l k).2) (bJ l (fJ l k).2)).1):∃ j,j < k /\ s=fname j:=by
 have key:(∃ f∈(fJ l k).1,s=f.name) -> ∃ j,j < k /\ s=fname j:=λ⟨f,hf,e⟩=>by
  obtain ⟨i,h1,h2,-⟩:=fldT_each l k f hf;exact ⟨i,h1,by rw [e,h2]⟩
 unfold srcE at h
 split at h
 ·exact key (refs_gen l _ _ _ s h)
 ·split at h
  ·exact key (refs_gen l _ _ _ s h)
  ·simp only [refs_zE] at h; cases h
theorem fldT_get (l:List RawD):∀ k j,j < k -> ∃ f,(fJ l k).1[j]?=some f /\ f.name=fname j /\ ∀ s∈nY f.src,∃ j',j' < j /\ s=fname j'
 | 0,j,h=>absurd h (Nat.not_lt_zero _)
 | k + 1,j,h=>by
  have hl:=mQ l k;show ∃ f,((fJ l k).1++[_])[j]?=some f /\ _
  by_cases e:j=k
  ·subst e;refine ⟨_,by rw [Ax (by omega),hl,Nat.sub_self]; rfl,rfl,λs hs=>src_refs hs⟩
  ·rw [Ox (by omega)];exact fldT_get l k j (by omega)
def lvF (l:List RawD) (i:Nat):Nat:=if cJ (aJ l 0).k 2=0 then iJ l - 1 - i else i
theorem form_get (l:List RawD) {i:Nat} (hi:i < iJ l):∃ f,(nQ l).fields[i]?=some f /\ f.name=fname (lvF l i) /\ ∀ s∈nY f.src,∃ j',j' < lvF l i /\ s=fname j':=by
 show ∃ f,(formF l)[i]?=some f /\ _;have hl:=mQ l (iJ l);unfold formF lvF
 split
 ·rw [List.getElem?_reverse (by omega),hl];exact fldT_get l (iJ l) _ (by omega)
 ·exact fldT_get l (iJ l) i hi
theorem lvF_lt (l:List RawD) {i:Nat} (hi:i < iJ l):lvF l i < iJ l:=by unfold lvF; split <;> omega
theorem lvF_sur (l:List RawD) {j:Nat} (hj:j < iJ l):∃ i,i < iJ l /\ lvF l i=j:=by
 unfold lvF
 split
 ·exact ⟨iJ l - 1 - j,by omega,by omega⟩
 ·exact ⟨j,hj,rfl⟩
theorem form_low (l:List RawD):∀ i,i < (uW (nQ l).fields).length -> ∀ k∈(uW (nQ l).fields).getD i [],k < (uW (nQ l).fields).length /\ lvF l k < lvF l i:=by
 have hn:(uW (nQ l).fields).length=iJ l:=by unfold uW; rw [Hj,form_len]
 rw [hn];intro i hi k hk;obtain ⟨f,hf,hname,hrefs⟩:=form_get l hi;have hg:(uW (nQ l).fields).getD i []=needE (nQ l).fields f:=by
  unfold uW;rw [Uk,Nj,hf]; rfl
 rw [hg] at hk;unfold needE at hk
 split at hk
 ·cases hk
 ·obtain ⟨s,hs,rfl⟩:=Qj.1 hk;obtain ⟨j,hj,rfl⟩:=hrefs s (mem_namesE.1 hs);obtain ⟨i',hi',e⟩:=lvF_sur l (j:=j) (by have:=lvF_lt l hi; omega);obtain ⟨g,hgi,hgn,-⟩:=form_get l hi';have hfd:=jQ (form_nodup l) hgi;rw [hgn,e] at hfd;have hp:plc (nQ l).fields (fname j)=i':=by unfold plc; rw [hfd]; rfl
  rw [hp];exact ⟨hi',by omega⟩
theorem form_ranked (l:List RawD):Ranked (uW (nQ l).fields) (rhoL (uW (nQ l).fields)) (lvF l) :=
 ranked_ex (form_low l) λi hi=>by
  have hn:(uW (nQ l).fields).length=iJ l:=by unfold uW; rw [Hj,form_len]
  rw [hn] at hi ⊢;exact lvF_lt l hi
end Go.Proofs.YthplkompdehjlaaGreat
