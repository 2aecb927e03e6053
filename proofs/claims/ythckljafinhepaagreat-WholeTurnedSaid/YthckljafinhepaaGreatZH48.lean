/-
  The same fields in another order, in plain words: what may be may be, and the values are the same.
-/
import Derived.Test.YthckljafinhepaaGreatZH47
namespace Go.Proofs.YthckljafinhepaaGreat
open Go.RowKit
set_option linter.unusedVariables false
structure Turn (fs gs:List Fd):Prop where
 ok:OkFs fs
 ok':OkFs gs
 mem:∀ f,f∈gs↔f∈fs
 len:gs.length=fs.length
section
variable {fs gs:List Fd}
theorem Turn.to (t:Turn fs gs) {i:Nat} {f:Fd} (h:gs[i]?=some f):∃ j:Nat,fs[j]?=some f∧findF fs f.name=(j:Int):=by
 obtain ⟨j,hj⟩:=List.getElem?_of_mem ((t.mem f).1 (List.mem_of_getElem? h))
 exact ⟨j,hj,findF_at t.ok.nodup hj⟩
theorem Turn.back (t:Turn fs gs) {i:Nat} {f:Fd} (h:fs[i]?=some f):∃ j:Nat,gs[j]?=some f∧findF gs f.name=(j:Int):=by
 obtain ⟨j,hj⟩:=List.getElem?_of_mem ((t.mem f).2 (List.mem_of_getElem? h))
 exact ⟨j,hj,findF_at t.ok'.nodup hj⟩
theorem Turn.ty (t:Turn fs gs) (s:ByteArray):tyF gs s=tyF fs s:=by
 cases h:tyF gs s with
 | some a =>
  obtain ⟨i,f,h1,h2⟩:=tyF_some (fs:=gs) (s:=s) (by rw [h]; rfl)
  rw [← h2] at h ⊢
  have e1:=tyF_mem t.ok'.nodup f (List.mem_of_getElem? h1)
  have e2:=tyF_mem t.ok.nodup f ((t.mem f).1 (List.mem_of_getElem? h1))
  rw [e2,← h,e1]
 | none =>
  cases g:tyF fs s with
  | none=>rfl
  | some a =>
   obtain ⟨i,f,h1,h2⟩:=tyF_some (fs:=fs) (s:=s) (by rw [g]; rfl)
   have e1:=tyF_mem t.ok'.nodup f ((t.mem f).2 (List.mem_of_getElem? h1))
   rw [h2,h] at e1; cases e1
def lvT (fs gs:List Fd) (lv:Nat→Nat) (i:Nat):Nat:=match gs[i]? with
 | some f=>lv (plc fs f.name)
 | none=>0
theorem lvT_at (t:Turn fs gs) (lv:Nat→Nat) {i j:Nat} {f:Fd} (h:gs[i]?=some f) (g:fs[j]?=some f):lvT fs gs lv i=lv j:=by
 unfold lvT plc
 rw [h]
 simp only
 rw [findF_at t.ok.nodup g,Int.toNat_natCast]
theorem Turn.ranked (t:Turn fs gs) {ρ:List Int} {lv:Nat→Nat} (hr:Ranked (needsE fs) ρ lv):Ranked (needsE gs) (rhoL (needsE gs)) (lvT fs gs lv):=by
 refine ranked_ex (fun i hi k hk=>?_) fun i hi=>?_
 ·rw [needsE_len] at hi
  obtain ⟨f,hf⟩:∃ f,gs[i]?=some f:=⟨_,List.getElem?_eq_getElem hi⟩
  have e:(needsE gs).getD i []=needE gs f:=by unfold needsE; rw [List.getD_eq_getElem?_getD,List.getElem?_map,hf]; rfl
  rw [e] at hk
  unfold needE at hk
  split at hk
  ·cases hk
  ·rename_i h1
   obtain ⟨s,hs,rfl⟩:=List.mem_map.1 hk
   obtain ⟨i2,g1,-⟩:=t.to hf
   obtain ⟨j,g,q1,q2,q3⟩:=refs_need t.ok g1 h1 (mem_namesE.1 hs)
   obtain ⟨l1,l2⟩:=hr.low i2 (by rw [needsE_len]; exact (List.getElem?_eq_some_iff.1 g1).1) j q3
   obtain ⟨j2,r1,r2⟩:=t.back q1
   have ep:plc gs s=j2:=by unfold plc; rw [← q2,r2,Int.toNat_natCast]
   rw [ep,needsE_len,lvT_at t lv r1 q1,lvT_at t lv hf g1]
   exact ⟨(List.getElem?_eq_some_iff.1 r1).1,l2⟩
 ·rw [needsE_len] at hi ⊢
  obtain ⟨f,hf⟩:∃ f,gs[i]?=some f:=⟨_,List.getElem?_eq_getElem hi⟩
  obtain ⟨i2,g1,-⟩:=t.to hf
  rw [lvT_at t lv hf g1,t.len]
  have:=hr.few i2 (by rw [needsE_len]; exact (List.getElem?_eq_some_iff.1 g1).1)
  rwa [needsE_len] at this
theorem Turn.find (t:Turn fs gs) {s:ByteArray} (h:0≤findF fs s):0≤findF gs s:=by
 rcases findF_lt fs s with g | ⟨i,f,g1,g2,g3⟩
 ·omega
 ·have hn:f.name=s:=g3
  obtain ⟨j,-,e⟩:=t.back g2
  rw [← hn,e]; omega
theorem Turn.pages (t:Turn fs gs) {ps:List Pg} (h:OkGs fs ps):OkGs gs ps:=by
 refine ⟨h.one,h.few,h.name,h.nodup,h.fl,fun p hp s hs=>t.find (h.here p hp s hs),h.once,fun p hp=>?_⟩
 rcases h.skip p hp with q | ⟨q1,q2,q3,q4⟩
 ·exact .inl q
 ·refine .inr ⟨q1,q2,q3,?_⟩
  have:ofE gs p.skip=ofE fs p.skip:=by
   unfold ofE
   rw [ty_congr (f:=tyF gs) (g:=tyF fs) fun s _=>t.ty s]
  unfold fitsE at q4 ⊢
  rw [this]; exact q4
theorem Turn.told (t:Turn fs gs) {s:ByteArray} {k:Int} (h:toldE fs s k=0):toldE gs s k=0:=by
 unfold toldE at h
 split at h
 ·cases h
 ·rename_i h0
  rcases findF_lt fs s with g | ⟨i,f,g1,g2,g3⟩
  ·omega
  ·have hn:f.name=s:=g3
   rw [g1,Int.toNat_natCast,g2] at h
   obtain ⟨j,r1,r2⟩:=t.back g2
   unfold toldE
   rw [← hn,r2,if_neg (by omega),Int.toNat_natCast,r1]
   exact h
theorem Turn.orc (t:Turn fs gs) {orc:List Aw} (h:OkOrc fs orc):OkOrc gs orc:=by
 refine ⟨fun p hp=>?_,h.once⟩
 obtain ⟨i,f,a,h1,h2,h3,h4,h5⟩:=(h.each p hp).place
 obtain ⟨j,r1,-⟩:=t.back h1
 exact ⟨⟨j,f,a,r1,h2,h3,by rw [ty_congr (f:=tyF gs) (g:=tyF fs) fun s _=>t.ty s]; exact h4,h5⟩,(h.each p hp).key,(h.each p hp).has⟩
/-- The values v of fs are those of gs in u. -/
def SameV (fs gs:List Fd) (v u:List Vl):Prop:=∀ (i:Nat) (f:Fd) (x:Vl),gs[i]?=some f→u[i]?=some x→∃ j:Nat,fs[j]?=some f∧v[j]?=some x
theorem Turn.sol (t:Turn fs gs) {inp:Env} {orc:List Aw} {v u:List Vl} (hv:Sol fs inp orc v) (hu:u.length=gs.length) (hs:SameV fs gs v u):Sol gs inp orc u:=by
 refine ⟨hu,fun i f x hf hx=>?_⟩
 obtain ⟨j,g1,g2⟩:=hs i f x hf hx
 refine (hv.at_ j f x g1 g2).trans (oneV_congr fun hk s hm=>?_)
 obtain ⟨a,g,q1,q2,-⟩:=refs_need t.ok g1 hk hm
 obtain ⟨b,r1,-⟩:=t.back q1
 obtain ⟨y,hy⟩:∃ y,u[b]?=some y:=⟨_,List.getElem?_eq_getElem (by rw [hu]; exact (List.getElem?_eq_some_iff.1 r1).1)⟩
 obtain ⟨c,s1,s2⟩:=hs b g y r1 hy
 rw [← q2,fcs_get t.ok.nodup s1 s2,fcs_get t.ok'.nodup r1 hy]
end
theorem rot_same {fs:List Fd} {v:List Vl} {k:Nat} (hv:v.length=fs.length) (hk:k≤fs.length):SameV fs (fs.drop k++fs.take k) v (v.drop k++v.take k):=fun i f x hf hx=>by
 rcases Nat.lt_or_ge i (fs.length - k) with q | q
 ·rw [List.getElem?_append_left (by rw [List.length_drop]; omega),List.getElem?_drop] at hf hx
  exact ⟨k + i,hf,hx⟩
 ·rw [List.getElem?_append_right (by rw [List.length_drop]; omega),List.length_drop] at hf hx
  rw [hv] at hx
  have hik:i - (fs.length - k) < k:=by
   rcases Nat.lt_or_ge (i - (fs.length - k)) k with g | g
   ·exact g
   ·rw [List.getElem?_eq_none (by rw [List.length_take]; omega)] at hf; cases hf
  rw [List.getElem?_take_of_lt hik] at hf hx
  exact ⟨_,hf,hx⟩
end Go.Proofs.YthckljafinhepaaGreat
