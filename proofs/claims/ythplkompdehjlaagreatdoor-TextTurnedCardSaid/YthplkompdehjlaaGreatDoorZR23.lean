/-
  The tokens of a text, in plain Lean: lengths and errors.
-/
import Derived.Test.YthplkompdehjlaaGreatDoorZR18
namespace Go.Proofs.YthplkompdehjlaaGreatDoor
theorem quoteGo_len:∀ (r:List UInt8) (i:Nat) (text:List UInt8) (n:Nat) (x:List UInt8),eX r i text=.ok (n,x)→i + 1≤n∧n≤i + r.length
 | [],i,text,n,x,h=>by simp [eX] at h
 | [c],i,text,n,x,h=>by
  simp only [eX] at h
  split at h
  ·split at h
   ·cases h
   ·injection h with h; injection h with h1 h2; simp; omega
  ·cases h
 | c :: d :: r,i,text,n,x,h=>by
  rw [eX] at h
  split at h
  ·split at h
   ·cases h
   ·injection h with h; injection h with h1 h2; simp; omega
  ·split at h
   ·split at h
    ·have:=quoteGo_len r (i + 2) _ n x h; simp; omega
    ·cases h
   ·split at h
    ·cases h
    ·have:=quoteGo_len (d :: r) (i + 1) _ n x h; simp at this ⊢; omega
theorem quoteGo_err:∀ (r:List UInt8) (i:Nat) (text:List UInt8) (e:Int),eX r i text=.error e→e=1∨e=3
 | [],i,text,e,h=>by simp [eX] at h; exact .inr h.symm
 | [c],i,text,e,h=>by
  simp only [eX] at h
  split at h
  ·split at h
   ·injection h with h; exact .inl h.symm
   ·cases h
  ·injection h with h; exact .inr h.symm
 | c :: d :: r,i,text,e,h=>by
  rw [eX] at h
  split at h
  ·split at h
   ·injection h with h; exact .inl h.symm
   ·cases h
  ·split at h
   ·split at h
    ·exact quoteGo_err r (i + 2) _ e h
    ·injection h with h; exact .inr h.symm
   ·split at h
    ·injection h with h; exact .inr h.symm
    ·exact quoteGo_err (d :: r) (i + 1) _ e h
theorem signs_len:∀ g∈signs,1≤g.length:=by decide
theorem oneF_split (c:UInt8) (r:List UInt8) :
  (fV c=true∧aW (c :: r)=wV (c :: r)) ∨
  (fV c=false∧gV c=true∧aW (c :: r)=if 10 < xX iV (c :: r) then .err 1 else .tok ⟨2,(c :: r).take (xX iV (c :: r)),0,0,[]⟩) ∨
  (c=34∧aW (c :: r)=dX (c :: r)) ∨
  (fV c=false∧gV c=false∧c≠34∧aW (c :: r)=signF (c :: r)):=by
 cases hd:fV c with
 | true=>exact .inl ⟨rfl,by simp [aW,hd]⟩
 | false =>
  cases hl:gV c with
  | true=>exact .inr (.inl ⟨rfl,rfl,by simp only [aW,hd,hl]; rfl⟩)
  | false =>
   by_cases h:c=34
   ·refine .inr (.inr (.inl ⟨h,?_⟩))
    show (if fV c=true then _ else if gV c=true then _ else if c=34 then _ else _)=_
    rw [if_neg (by rw [hd]; simp),if_neg (by rw [hl]; simp),if_pos h]
   ·refine .inr (.inr (.inr ⟨rfl,rfl,h,?_⟩))
    show (if fV c=true then _ else if gV c=true then _ else if c=34 then _ else _)=_
    rw [if_neg (by rw [hd]; simp),if_neg (by rw [hl]; simp),if_neg h]
theorem number_cases (l:List UInt8):wV l=.err 3∨wV l=.err 7∨∃ v,numV (l.take (xX fV l)) 0=some v∧wV l=.tok ⟨1,l.take (xX fV l),1,v,[]⟩:=by
 unfold wV
 split
 ·exact .inl rfl
 ·split
  ·exact .inr (.inl rfl)
  ·rename_i v h; exact .inr (.inr ⟨v,h,rfl⟩)
theorem quote_cases (l:List UInt8):(∃ e,eX l.tail 1 []=.error e∧dX l=.err e)∨∃ n x,eX l.tail 1 []=.ok (n,x)∧dX l=.tok ⟨3,l.take n,3,0,x⟩:=by
 unfold dX
 split
 ·rename_i e h; exact .inl ⟨e,h,rfl⟩
 ·rename_i n x h; exact .inr ⟨n,x,h,rfl⟩
theorem sign_cases (l:List UInt8):signF l=.err 3∨∃ g,signs.find? (fun g=>g.isPrefixOf l)=some g∧signF l=.tok ⟨4,g,0,0,[]⟩:=by
 unfold signF
 split
 ·rename_i g h; exact .inr ⟨g,h,rfl⟩
 ·exact .inl rfl
theorem oneF_err {l:List UInt8} {e:Int} (h:aW l=.err e):e=1∨e=3∨e=7:=by
 cases l with
 | nil=>simp [aW] at h; omega
 | cons c r =>
  rcases oneF_split c r with ⟨-,k⟩ | ⟨-,-,k⟩ | ⟨-,k⟩ | ⟨-,-,-,k⟩
  ·rw [k] at h
   rcases number_cases (c :: r) with n | n | ⟨v,-,n⟩ <;> rw [n] at h <;> first | (injection h with h; omega) | cases h
  ·rw [k] at h
   split at h
   ·injection h with h; omega
   ·cases h
  ·rw [k] at h
   rcases quote_cases (c :: r) with ⟨e',q,n⟩ | ⟨n',x,q,n⟩
   ·rw [n] at h; injection h with h; subst h
    rcases quoteGo_err _ _ _ _ q with rfl | rfl <;> omega
   ·rw [n] at h; cases h
  ·rw [k] at h
   rcases sign_cases (c :: r) with n | ⟨g,-,n⟩ <;> rw [n] at h <;> first | (injection h with h; omega) | cases h
theorem oneF_len {l:List UInt8} {t:Tok} (h:aW l=.tok t):1≤t.s.length∧t.s.length≤l.length∧t.s=l.take t.s.length:=by
 cases l with
 | nil=>simp [aW] at h
 | cons c r =>
  rcases oneF_split c r with ⟨d,k⟩ | ⟨-,d,k⟩ | ⟨-,k⟩ | ⟨-,-,-,k⟩
  ·rw [k] at h
   rcases number_cases (c :: r) with n | n | ⟨v,-,n⟩
   ·rw [n] at h; cases h
   ·rw [n] at h; cases h
   ·rw [n] at h; injection h with h; subst h
    have h1:=spanN_le fV (c :: r)
    have h2:1≤xX fV (c :: r):=by rw [yX,d]; simp
    have e:((c :: r).take (xX fV (c :: r))).length=xX fV (c :: r):=by rw [List.length_take]; omega
    exact ⟨by show 1≤(List.take _ _).length; rw [e]; exact h2,by show (List.take _ _).length≤_; rw [e]; exact h1,by show List.take _ _=List.take (List.take _ _).length _; rw [e]⟩
  ·rw [k] at h
   split at h
   ·cases h
   ·injection h with h; subst h
    have h1:=spanN_le iV (c :: r)
    have h2:1≤xX iV (c :: r):=by rw [yX]; simp [iV,d]
    have e:((c :: r).take (xX iV (c :: r))).length=xX iV (c :: r):=by rw [List.length_take]; omega
    exact ⟨by show 1≤(List.take _ _).length; rw [e]; exact h2,by show (List.take _ _).length≤_; rw [e]; exact h1,by show List.take _ _=List.take (List.take _ _).length _; rw [e]⟩
  ·rw [k] at h
   rcases quote_cases (c :: r) with ⟨e',q,n⟩ | ⟨n',x,q,n⟩
   ·rw [n] at h; cases h
   ·rw [n] at h; injection h with h; subst h
    have h1:=quoteGo_len _ _ _ _ _ q
    simp only [List.tail_cons] at h1
    have e:((c :: r).take n').length=n':=by rw [List.length_take]; simp; omega
    exact ⟨by show 1≤(List.take _ _).length; rw [e]; omega,by show (List.take _ _).length≤_; rw [e]; simp; omega,by show List.take _ _=List.take (List.take _ _).length _; rw [e]⟩
  ·rw [k] at h
   rcases sign_cases (c :: r) with n | ⟨g,hg,n⟩
   ·rw [n] at h; cases h
   ·rw [n] at h; injection h with h; subst h
    have hp:=List.find?_some hg
    have hm:=List.mem_of_find?_eq_some hg
    have hp':g <+: (c :: r):=List.isPrefixOf_iff_prefix.1 hp
    exact ⟨signs_len g hm,hp'.length_le,(List.prefix_iff_eq_take.1 hp')⟩
theorem lexGo_nil (f:Nat) (a:Nat) (acc:List TokA):lexGo f [] a acc=.ok acc:=by cases f <;> rfl
end Go.Proofs.YthplkompdehjlaaGreatDoor
