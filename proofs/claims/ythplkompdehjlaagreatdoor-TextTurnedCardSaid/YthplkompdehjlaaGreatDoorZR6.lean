/-
  A call in a drawn region that gives a row of the caller's own.
-/
import Derived.Test.YthplkompdehjlaaGreatDoorZR5
namespace Go.Proofs.YthplkompdehjlaaGreatDoor
open Go.RowKit
set_option linter.unusedVariables false
section
variable {P:Program} {Q:Exit→Act→World→Prop} {R:Reg} {ops:Array Oper} {i:Nat}
theorem r_callown (hT:aK R=true) (hA:zJ R ops=true) (hmono:∀ q∈R.F,∀ x h h',Sees h h'→q.2 x h→q.2 x h') (hi:Ind R i) (hF:(R.F.all fun t=>t.1 != i)=true) (d:Nat) (F:Value→Value) (dp:List Nat) (p:Nat) (hp:R.T[p]?=some (i,d,fun x=>F (x i))) (hk:∀ x,okR R ops i d dp x=true)
  (e:Nat) (g:Gent) (hg:R.G[e]?=some g) (ho:only R i (some e)=true) (hs:sync R i g=true) (te:TypeId) (kk:Nat) (l:Gh→List (List Value)) (hc0:∀ x,fK (R.an i) x g=none) (hc1:∀ x,fK (i :: R.an i) x g=some (.row (F (x i)) te kk (l x))) (hl:∀ x v,l (upd x i v)=l x)
  (k:FuncId) (args:Gh→Array Value) (hr:∀ x w,(execOp (evD (rdE R i dp x)) (fW ops i)).run P w=.ok (.enter k (args x)) w)
  (hc:∀ x H,Sees R.h H→(∀ (j:Nat) (q:Nat × (Gh→Vw→Prop)),R.F[j]?=some q→(R.an i).contains q.1=true→q.2 x H)→CRow P k (args x) H te kk (fun v rows=>(∃ u,v=F u)∧rows=l x)):StepAt' P ops Q R i:=by
 refine .mk fun o D x h a w hio hn hd I=>?_
 obtain ⟨h1,h2,h3,h4⟩:=yV hio (hk x)
 have han:=pJ hA hio I hd
 have hcc:=hc x ⟨w,blk (BD R.G D x)++R.C.bad0⟩ (I.sees.trans I.mem.sees) (fun j q hq hc=>hmono q (List.mem_of_getElem? hq) x _ _ I.mem.sees (I.facts q (List.mem_of_getElem? hq) (han _ (by simpa using hc))))
 refine wpOp_call hio (aQ hio (gX hio h1 I hd hn) h2) (by rw [pX (gX hio h1 I hd hn) h4,← gW hio]; exact hr x w) ((hcc (by intro x hx; cases hx) (by simp) (by simp) (bad_lt I.mem)).mono ?_)
 rintro en w' ⟨v,Bo,rfl,hlo,-,-,lr,hok,⟨u,rfl⟩,rfl⟩
 have j1:=I.mem.addRow hlo hok
 have s1:=j1.sees
 refine ⟨F u,rfl,upd x i u,⟨w',blk (.row (F u) te kk (l x) :: BD R.G D x)++R.C.bad0⟩,?_⟩
 rw [h3]
 have hself:upd x i u i=u:=by simp [upd]
 have hcur:=(gK (x':=x) I hn han hs).trans (hc0 x)
 have hcur1:cur (fun j=>j=i∨D j) (upd x i u) g=some (.row (F u) te kk (l x)):=by
  rw [at_next I hn han hs,hc1,hself,hl]
 have hBD:BD R.G D x=BD (R.G.take e) D x++BD (R.G.drop (e + 1)) D x:=by rw [nJ hg,hcur]; simp
 have hmem:J R.C [] (BD R.G (fun j=>j=i∨D j) (upd x i u)) ⟨w',blk (.row (F u) te kk (l x) :: BD R.G D x)++R.C.bad0⟩ a w':=by
  refine j1.now.perm ?_
  rw [only_some ho hg,hcur1,hi.at_g I hn _ _ mem_take,hi.at_g I hn _ _ mem_drop,hBD]
  simp only [Option.toList_some,List.append_assoc,List.singleton_append]
  exact List.perm_middle.symm
 refine I.next hio hT hA hn hd (hmem.putN _ _) s1 (hi.at_t I hn _) (.inl ⟨d,_,List.mem_of_getElem? hp,by simp only [hself]⟩) (oK hi hmono I hn _ s1 (fun j q hq he=>?_))
 have:=List.all_eq_true.1 hF q (List.mem_of_getElem? hq)
 simp [he] at this
end
end Go.Proofs.YthplkompdehjlaaGreatDoor
