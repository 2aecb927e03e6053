/-
  slices.Reverse at fields, at a slice of the caller's own. (Imports the seat's Rev text: wip/rev.sh.)
-/
import Derived.Test.YthgcgciceejicaaGreatDoorZT5
import Derived.Test.YthgcgciceejicaaGreatDoorZT29
namespace Go.Proofs.YthgcgciceejicaaGreatDoor
open Go.RowKit Go.Sort Go.Shelf
abbrev Row9:={ r:List Value // r.length=9/\∀ v∈r,v.oneCell'=true }
instance:Inhabited Row9:=⟨⟨List.replicate 9 (.bool false),by simp,by intro v hv; rw [List.eq_of_mem_replicate hv]; rfl⟩⟩
theorem flatK_list {α : Type} [Inhabited α] (enc : α -> List Value) (k : Nat) (hk : ∀ x, (enc x).length = k) (d : Array α) : flatK enc k d = (d.toList.map enc).flatten.toArray := by
  have hr : ∀ r ∈ d.toList.map enc, r.length = k := λr hr => by obtain ⟨x, -, rfl⟩ := Rj.1 hr; exact hk x
  have hl : (d.toList.map enc).flatten.length = d.size * k := by rw [flat_len2 _ hr]; simp
  refine ext_get! (by simp only [size_flatK, Rq]; exact hl.symm) λt ht => ?_;have ht : t < d.size * k := by simpa using ht
  have k0 : 0 < k := by rcases Nat.eq_zero_or_pos k with h | h
                        · subst h; simp at ht
                        · exact h
  have hi : t / k < d.size := Nat.div_lt_of_lt_mul (by rwa [Nat.mul_comm] at ht);have hj : t % k < k := Nat.mod_lt _ k0;rw [get_flatK _ _ _ _ ht, Hv d _ hi];have h1 : (d.toList.map enc)[t / k]? = some (enc d[t / k]) := by rw [Oj, Gj (by simpa using hi)]; simp
  have h2 : (enc (d[t / k]))[t % k]? = some ((enc (d[t / k]))[t % k]!) := by
    have hlt : t % k < (enc (d[t / k])).length := by rw [hk]; exact hj
    rw [Gj hlt, Hv (enc (d[t / k])) (t % k) hlt]
  have h3 := flat_get _ hr _ _ _ _ h1 h2;rw [show t / k * k + t % k = t from Nat.div_add_mod' t k] at h3;have hlt : t < (d.toList.map enc).flatten.length := by omega
  rw [Gj hlt] at h3;rw [Hv (d.toList.map enc).flatten.toArray t (by rw [Rq]; exact hlt), List.getElem_toArray];exact (Dk h3).symm
theorem setMany_all (F:Array Value) (vs:List Value) (h:vs.length=F.size):setMany F 0 vs=vs.toArray:=by
 refine ext_get! (by simp [h]) λt ht=>?_;have ht:t < F.size:=by simpa using ht
 rw [get_setMany _ _ _ _ ht,Cj ⟨Mj _,by omega⟩];have hlt:t < vs.length:=by omega
 rw [Nat.sub_zero,Hv vs _ hlt,Hv _ _ (by simpa using hlt)]; simp
theorem rev_set (base g m cap:Nat) (l:List (List Value)) (h1:∀ r∈l,∀ v∈r,v.oneCell'=true) (hm:l.length<=1000000) :
  CSet Tryz.prog 40 #[.slice (some ⟨g,0,none⟩) m cap] base g m cap 49 9 l l.reverse:=by
 intro w hok;obtain ⟨A,c,e,-⟩:=gY hok;simp only [Tk] at e;obtain ⟨-,rfl,-⟩:=e;obtain ⟨k1,k2⟩:=hok;obtain ⟨d,hd⟩:∃ d:List Row9,d.map Subtype.val=l:=by
  refine ⟨l.attach.map λr=>⟨r.1,k2 _ r.2,h1 _ r.2⟩,?_⟩;rw [Jv];exact List.attach_map_subtype_val l
 have hk:∀ x:Row9,x.val.length=9:=λx=>x.2.1;have hbx:=row_box k1;have hdl:d.length=l.length:=by rw [<- hd,Ij]
 have hF:flatK (Subtype.val:Row9->List Value) 9 d.toArray=l.flatten.toArray:=by rw [flatK_list _ 9 hk,List.toList_toArray,hd]
 have hF':flatK (Subtype.val:Row9->List Value) 9 d.toArray.reverse=l.reverse.flatten.toArray:=by rw [flatK_list _ 9 hk,Array.toList_reverse,List.toList_toArray,List.map_reverse,hd]
 have hH:Holds id w g 0 l.flatten.toArray:=λj hj=>by
  have hj:j < l.flatten.length:=by simpa using hj
  refine ⟨?_,hbx.free _⟩;rw [Gq,hbx.cells j _ (Gj hj),Hv _ _ (by simpa using hj)]; simp
 have hc:=AnyQ.slices_Reverse Tryz.revFields 9 Tryz.isAgg49 Tryz.sizeOf49 (Subtype.val:Row9->List Value) hk (λx=>x.2.2) g 0 cap d.toArray w (by unfold HoldsK; rw [hF]; exact hH) (by simp; omega);rw [Rq,hdl] at hc;refine Calls.mono hc ?_;rintro e w' ⟨rfl,n,rfl⟩;have hlen:l.reverse.flatten.length=l.flatten.length:=by rw [flat_len2 _ (λr hr=>k2 r (List.mem_reverse.1 hr)),flat_len2 _ k2,List.length_reverse]
 have hw:putRowK (Subtype.val:Row9->List Value) 9 (Go.Sort.ahead w n) g 0 d.toArray.reverse=(Go.Sort.ahead w n).setCells g 0 l.reverse.flatten:=by
  have h2:Holds id (Go.Sort.ahead w n) g 0 l.flatten.toArray:=hH
  have:=setCells_putRow (Go.Sort.ahead w n) g 0 l.reverse.flatten 0 l.flatten.toArray (by simp [hlen])
  rw [putRow_self id _ g 0 _ h2,setMany_all _ _ (by simp [hlen])] at this;rw [Pv] at this;unfold putRowK;rw [hF'];exact this.symm
 rw [hw];have k1':(Go.Sort.ahead w n).ownsRow base 49 9 (.slice (some ⟨g,0,none⟩) l.length cap) l.length l.flatten:=k1;obtain ⟨q1,q2⟩:=iY l.reverse.flatten 0 l.flatten (Go.Sort.ahead w n) k1' (by omega);refine ⟨rfl,⟨q2.os,q2.tape,q2.output,q2.size,q2.block⟩,tY _ _ _ _,?_,λr hr=>k2 r (List.mem_reverse.1 hr)⟩;rw [List.length_reverse];have e:uX l.flatten 0 l.reverse.flatten=l.reverse.flatten:=by
  unfold uX;rw [Gq,hlen,List.drop_length]; simp
 rw [e] at q1; exact q1
end Go.Proofs.YthgcgciceejicaaGreatDoor
