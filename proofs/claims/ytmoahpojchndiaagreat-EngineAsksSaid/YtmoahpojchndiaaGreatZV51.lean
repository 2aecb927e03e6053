/-
  A store into a map of ints of the call's own, whether the key is there or not.
-/
import Derived.Test.YtmoahpojchndiaaGreatZV9
import Derived.Test.YtmoahpojchndiaaGreatZV8
import Derived.Test.YtmoahpojchndiaaGreatZV27
namespace Go.Proofs.YtmoahpojchndiaaGreat
open Go.RowKit
set_option linter.unusedVariables false
section
variable {P:Program} {C:Fx} {c0:Code} {Q:Exit -> Act -> World -> Prop} {h h0:Vw} {a:Act} {w w':World} {p:List Nat} {n:Nat} {ks:List Kt} {E:List (Nat × Value)} {B:List Ent} {F:List Fac} {d:Nat} {s:Z}
theorem run_reset_at {b j:Nat} {es:List (Value × Value)} {t kt et:TypeId} {td:TypeDesc} {k v u:Value} (hb:w.heap[b]?=some (iW es)) (ht:P.underlying t=some (.map kt et)) (htd:P.underlying kt=some td) (hs:keyOk td k=true)
  (hf:mfind td k es=some (some (j,u))) (hj:es[j]?=some (k,u)):(Instr.mapUpdate t (.map (some b)) k v).run P w=.ok () { w with heap:=w.heap.setIfInBounds b (iW (es.set j (k,v))) }:=by
 have hf:Instr.findNow td k (ments es).toArray.toList 0=some (some (j,u)):=hf
 have hk:Go.MapKept.IsKey td k:=isKey_of hs
 have hj':(ments es).toArray[j]?=some ⟨k,u,j⟩:=by
  rw [List.getElem?_toArray,jW,hj]; rfl
 have hm:(ments es).toArray.modify j (fun e=>{ e with key:=k,val:=v })=(ments (es.set j (k,v))).toArray:=by
  apply Array.ext'
  rw [Array.toList_modify]
  refine List.ext_getElem? fun i=>?_
  show _=(ments (es.set j (k,v)))[i]?
  rw [List.getElem?_modify,jW,jW,List.getElem?_set]
  have hlt:=(List.getElem?_eq_some_iff.1 hj).1
  by_cases e:j=i
  ·subst e; simp [hlt]
  ·simp [e]
 unfold iW at hb ⊢
 unfold Instr.mapUpdate
 simp only [Sem.run_bind,run_underlying ht,Result.andThen,Go.MapKept.run_getObj_map hb,Go.MapKept.run_checkKey htd hk,Go.MapKept.run_findKey htd hf]
 simp only [hj',Option.map_some,Option.getD_some,Go.MapKept.run_keyThatStays hk,Go.MapKept.run_setObj_map _ hb]
 rw [hm]
 simp
theorem iget_idx {n:Int} {u:Value}:∀ {l:List (Int × Value)},iget n l=some u -> ∃ j:Nat,l[j]?=some (n,u) /\ (∀ o k,Instr.findNow (.int .i64) (Vi n) (((uV l).zipIdx o).map fun p=>⟨p.1.1,p.1.2,p.2⟩) k=some (some (k + j,u))) /\ ∀ v t,iget t (l.set j (n,v))=if t=n then some v else iget t l
 | [],h=>by cases h
 | (m,x) :: l,h=>by
  rw [iget] at h
  have hsn:Instr.sameNow (.int .i64) (Vi n) (Vi m)=some (n == m):=rfl
  by_cases e:n=m
  ·rw [if_pos e] at h
   subst e
   obtain rfl:=Option.some.inj h
   refine ⟨0,rfl,fun o k=>?_,fun v t=>?_⟩
   ·simp only [uV,List.map_cons,List.zipIdx_cons]
    unfold Instr.findNow
    simp only [hsn,beq_self_eq_true,Nat.add_zero]
   ·rw [List.set_cons_zero,iget,iget]
    by_cases g:t=n
    ·rw [if_pos g,if_pos g]
    ·rw [if_neg g,if_neg g,if_neg g]
  ·rw [if_neg e] at h
   obtain ⟨j,h1,h2,h3⟩:=iget_idx h
   refine ⟨j + 1,by simpa using h1,fun o k=>?_,fun v t=>?_⟩
   ·simp only [uV,List.map_cons,List.zipIdx_cons]
    unfold Instr.findNow
    have hb:(n == m)=false:=beq_eq_false_iff_ne.2 e
    simp only [hsn,hb]
    rw [show k + (j + 1)=k + 1 + j by omega]
    exact h2 (o + 1) (k + 1)
   ·rw [List.set_cons_succ,iget,iget,h3]
    by_cases g:t=m
    ·rw [if_pos g,if_pos g,if_neg (fun q=>e (q.symm.trans g))]
    ·rw [if_neg g,if_neg g]
theorem iget_snoc {n t:Int} {v:Value}:∀ {l:List (Int × Value)},iget n l=none -> iget t (l++[(n,v)])=if t=n then some v else iget t l
 | [],_=>rfl
 | (m,x) :: l,h=>by
  rw [iget] at h
  by_cases e:n=m
  ·rw [if_pos e] at h; cases h
  ·rw [if_neg e] at h
   rw [List.cons_append,iget,iget,iget_snoc h]
   by_cases g:t=m
   ·rw [if_pos g,if_pos g,if_neg (fun q=>e (q.symm.trans g))]
   ·rw [if_neg g,if_neg g]
theorem run_update_int {b:Nat} {l:List (Int × Value)} {t kt et:TypeId} {n:Int} {v:Value} (hb:w.heap[b]?=some (iW (uV l))) (ht:P.underlying t=some (.map kt et)) (htd:P.underlying kt=some (.int .i64)) (hs:keyOk (.int .i64) (Vi n)=true) :
  ∃ l',(Instr.mapUpdate t (.map (some b)) (Vi n) v).run P w=.ok () { w with heap:=w.heap.setIfInBounds b (iW (uV l')) } /\ ∀ t,iget t l'=if t=n then some v else iget t l:=by
 cases hg:iget n l with
 | none =>
  refine ⟨l++[(n,v)],?_,fun t=>iget_snoc hg⟩
  have:=run_update_at (P:=P) (v:=v) hb ht htd (k:=Vi n) hs (ifind_none hg)
  rw [this,show uV (l++[(n,v)])=uV l++[(Vi n,v)] by simp [uV]]
 | some u =>
  obtain ⟨j,h1,h2,h3⟩:=iget_idx hg
  refine ⟨l.set j (n,v),?_,h3 v⟩
  have hf:mfind (.int .i64) (Vi n) (uV l)=some (some (j,u)):=by
   have:=h2 0 0
   rw [Nat.zero_add] at this
   exact this
  have:=run_reset_at (P:=P) (v:=v) hb ht htd (k:=Vi n) hs hf (by rw [uV,List.getElem?_map,h1]; rfl)
  rw [this,show uV (l.set j (n,v))=(uV l).set j (Vi n,v) by unfold uV; rw [List.map_set]]
theorem x_mapputI (hK:K C E B F h a w) (i:Nat) {b:Nat} {l:List (Int × Value)} {t kt et:TypeId} {m:Int} {mo ko vo:Operand} {v:Value} (hk:goodOp0 E (zW c0 p) n=true) (hop:setOp (xW (zW c0 p) n).op=some (t,mo,ko,vo)) (hB:B[i]?=some (.map b (uV l)))
  (hm:evE E mo=some (.map (some b))) (hkey:evE E ko=some (Vi m)) (hv:evE E vo=some v) (ht:P.underlying t=some (.map kt et)) (htd:P.underlying kt=some (.int .i64)) (hs:keyOk (.int .i64) (Vi m)=true)
  (k:∀ l',(∀ t,iget t l'=if t=m then some v else iget t l) -> ∀ a w,K C E (B.set i (.map b (uV l'))) F h a w -> Goal P c0 Q (.ops p (n + 1)) ks a w):Goal P c0 Q (.ops p n) ks a w:=by
 unfold goodOp0 at hk
 split at hk
 ·rename_i o r hl
  simp only [Bool.and_eq_true] at hk
  obtain ⟨⟨k1,k2⟩,k3⟩:=hk
  have hg:kQ E (zW c0 p) o=some true:=by
   split at k1
   ·assumption
   ·cases k1
  have hr:=kK hl
  rw [drop_opAt hl] at hop
  refine mJ hl (lQ hK.j.fits hg) (wpList_plain rfl fun KK hKK=>?_)
  unfold Oper.wp
  rw [iY (o:={ o with guard:=none }) hK.j.fits k3]
  have hb:w.heap[b]?=some (iW (uV l)):=hK.j.ents _ (List.mem_of_getElem? hB)
  have e1:evD E mo=.map (some b):=by simp [evD,hm]
  have e2:evD E ko=Vi m:=by simp [evD,hkey]
  have e3:evD E vo=v:=by simp [evD,hv]
  obtain ⟨l',hu,hl'⟩:=run_update_int (P:=P) (v:=v) hb ht htd hs
  have hrun:(execOp (evD E) { o with guard:=none }).run P w=.ok .skip { w with heap:=w.heap.setIfInBounds b (iW (uV l')) }:=by
   unfold execOp
   unfold setOp at hop
   split at hop
   ·rename_i e
    simp only [Option.some.injEq,Prod.mk.injEq] at hop
    obtain ⟨rfl,rfl,rfl,rfl⟩:=hop
    simp only [e,e1,e2,e3]
    simp [hu,Result.andThen]
   ·rename_i e
    simp only [Option.some.injEq,Prod.mk.injEq] at hop
    obtain ⟨rfl,rfl,rfl,rfl⟩:=hop
    simp only [e,e1,e2,e3]
    simp [hu,Result.andThen]
   ·cases hop
  rw [hrun]
  refine hKK _ _ ?_
  rw [hr]
  have hd:a.put ({ o with guard:=none }:Oper).dst undef=a:=by
   show a.put o.dst undef=a
   rw [show o.dst=none by simpa using k2]; rfl
  rw [hd]
  exact k l' hl' _ _ ⟨hK.j.setMap (es':=uV l') hB,hK.f⟩
 ·cases hk
def Z.mput (s:Z) (i b:Nat) (es:List (Value × Value)):Z:=⟨.ops (ppOf s.p) (nnOf s.p + 1),s.ks,s.E,s.B.set i (.map b es),s.F⟩
theorem g_mapputI (i b:Nat) {l:List (Int × Value)} {m:Int} {v:Value} (k:∀ l',(∀ t,iget t l'=if t=m then some v else iget t l) -> Go P C c0 Q h (s.mput i b (uV l'))) (hc:mapOkZ P c0 s i b (uV l) (.int .i64) (Vi m)=[.b true,.bs [.map b (uV l)],.ov [some (.map (some b)),some (Vi m)]]:=by kernel_rfl)
  (hv:evE s.E (mP c0 s).2.2.2=some v:=by kernel_rfl) (htd:P.underlying (mapK P (mP c0 s).1).1=some (.int .i64):=by kernel_rfl):Go P C c0 Q h s:=by
 simp only [mapOkZ,List.cons.injEq,Any.b.injEq,Any.bs.injEq,Any.ov.injEq,Bool.and_eq_true,and_true] at hc
 obtain ⟨⟨⟨⟨⟨⟨c1,c2⟩,c3⟩,c4⟩,c5⟩,c6⟩,hB,hm,hk⟩:=hc
 have hB:s.B[i]?=some (.map b (uV l)):=by
  cases e:s.B[i]? with
  | none=>rw [e] at hB; cases hB
  | some x=>rw [e] at hB; simp only [Option.toList_some,List.cons.injEq,and_true] at hB; rw [hB]
 have hop:setOp (s.op c0).op=some ((mP c0 s).1,(mP c0 s).2.1,(mP c0 s).2.2.1,(mP c0 s).2.2.2):=by
  obtain ⟨q,hq⟩:=Option.isSome_iff_exists.1 c3
  unfold mP
  rw [hq]; rfl
 exact g_ops c1 fun a w hK=>x_mapputI hK i c2 hop hB hm hk hv (mapK_eq c4) htd c5 fun l' hl' a w hK'=>(k l' hl').go a w hK'
end
end Go.Proofs.YtmoahpojchndiaaGreat
