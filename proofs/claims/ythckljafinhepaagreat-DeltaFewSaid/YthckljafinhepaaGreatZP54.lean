/-
  What delta.Run looks at, in plain words.
-/
import Derived.Test.YthckljafinhepaaGreatZP50
namespace Go.Proofs.YthckljafinhepaaGreat
open Go.RowKit
set_option linter.unusedVariables false
theorem name_idx {fs:List Fd} (hd:(fs.map (fun f:Fd=>f.name)).Nodup) {i j:Nat} {f g:Fd} (hf:fs[i]?=some f) (hg:fs[j]?=some g) (e:g.name=f.name):j=i:=by
 have e1:=iQ hd hg
 rw [e,iQ hd hf] at e1
 omega
theorem chB_none {s:ByteArray}:∀ {ch:List (ByteArray × Bool)},(∀ q∈ch,q.2=false)→chB ch s=false
 | [],_=>rfl
 | p :: l,h=>by
  rw [chB]
  split
  ·exact h p (by simp)
  ·exact chB_none fun q hq=>h q (by simp [hq])
theorem chB_app {s:ByteArray} {p:ByteArray × Bool}:∀ {ch:List (ByteArray × Bool)},chB (ch++[p]) s=true→chB ch s=true∨s=p.1
 | [],h=>by
  have h:(if (s == p.1)=true then p.2 else false)=true:=h
  split at h
  ·rename_i e; exact .inr ((Go.MapKept.bytes_beq _ _).1 e)
  ·cases h
 | q :: l,h=>by
  have h:(if (s == q.1)=true then q.2 else chB (l++[p]) s)=true:=h
  rw [chB]
  split at h
  ·rename_i e; rw [if_pos e]; exact .inl h
  ·rename_i e; rw [if_neg e]; exact chB_app h
theorem runD_same {fs:List Fd} (hok:OkFs fs) {inp:Env} {orc:List Aw} {old:List Vl} (hS:Sol fs inp orc old) {p:Nat} {x:Fd} (hx:fs[p]?=some x) {ρ:List Int} {lv:Nat→Nat} {os:List Nat} (h:Ordd fs ρ lv os):∀ t,t≤os.length →
  (rY fs inp orc old x.name (os.take t)).out=old∧(rY fs inp orc old x.name (os.take t)).seen=(if p∈os.take t then [x.name] else [])∧∀ q∈(rY fs inp orc old x.name (os.take t)).ch,q.2=false
 | 0,_=>⟨rfl,by simp; rfl,fun q hq=>by cases hq⟩
 | t + 1,ht=>by
  obtain ⟨h1,h2,h3⟩:=runD_same hok hS hx h t (by omega)
  obtain ⟨i,hti⟩:∃ i,os[t]?=some i:=⟨_,List.getElem?_eq_getElem (by omega)⟩
  have hil:=h.lt (List.mem_of_getElem? hti)
  obtain ⟨f,hf⟩:∃ f,fs[i]?=some f:=⟨_,List.getElem?_eq_getElem hil⟩
  have e:os.take (t + 1)=os.take t++[i]:=by rw [List.take_add_one,hti]; rfl
  have hni:i ∉ os.take t:=fun q=>by
   obtain ⟨u,hu1,hu2⟩:=take_idx q
   have:=h.one hti hu2
   omega
  have hh:hangB f x.name (rY fs inp orc old x.name (os.take t)).ch=(f.name.toList == x.name.toList):=by
   unfold hangB
   rw [List.any_eq_false.2 fun s _=>by rw [chB_none h3]; exact Bool.false_ne_true,Bool.and_false,Bool.or_false]
  rw [runD_at fs inp orc old x.name os t i hti f hf,hh]
  generalize rY fs inp orc old x.name (os.take t)=s at *
  by_cases hip:i=p
  ·subst hip
   obtain rfl:f=x:=Option.some.inj (hf.symm.trans hx)
   obtain ⟨y,hy⟩:∃ y,old[i]?=some y:=⟨_,List.getElem?_eq_getElem (by rw [hS.len]; exact hil)⟩
   have hat:=hS.at_ i f y hf hy
   rw [if_pos (by simp),h1,← hat]
   refine ⟨?_,?_,fun q hq=>?_⟩
   ·show old.set i y=old
    refine List.ext_getElem? fun j=>?_
    rw [List.getElem?_set]
    split
    ·subst_vars; rw [hy,if_pos (by rw [hS.len]; exact hil)]
    ·rfl
   ·show s.seen++[f.name]=_
    rw [h2,if_neg hni,e,if_pos (by simp)]; rfl
   ·have hq:q∈s.ch++[(f.name, !eqB y (old.getD i zV))]:=hq
    rcases List.mem_append.1 hq with c | c
    ·exact h3 q c
    ·rw [List.mem_singleton.1 c,List.getD_eq_getElem?_getD,hy]
     show (!eqB y y)=false
     rw [eqB_iff.2 rfl]; rfl
  ·have hne:¬ (f.name.toList == x.name.toList)=true:=by
    rw [hZ,decide_eq_true_iff]
    exact fun q=>hip (name_idx hok.nodup hx hf q)
   rw [if_neg hne]
   refine ⟨h1,?_,h3⟩
   rw [h2,e]
   have:p∈os.take t++[i]↔p∈os.take t:=by simp; intro q; exact absurd q.symm hip
   by_cases hp:p∈os.take t
   ·rw [if_pos hp,if_pos (this.2 hp)]
   ·rw [if_neg hp,if_neg (fun q=>hp (this.1 q))]
structure Few (fs:List Fd) (old:List Vl) (met:List Nat) (s:Dst):Prop where
 hang:∀ (i:Nat) (f:Fd),fs[i]?=some f→f.name∈s.seen→i∈met
 stay:∀ (i:Nat) (f:Fd),fs[i]?=some f→f.name ∉ s.seen→s.out[i]?=old[i]?
 look:∀ s',chB s.ch s'=true→s'∈s.seen
theorem runD_few {fs:List Fd} (hok:OkFs fs) {inp:Env} {orc:List Aw} {old:List Vl} {p:Nat} {x:Fd} (hx:fs[p]?=some x) {os:List Nat} (hlt:∀ i∈os,i < fs.length):∀ t,t≤os.length→p∈hgK (xW fs) p os t∧Few fs old (hgK (xW fs) p os t) (rY fs inp orc old x.name (os.take t))
 | 0,_=>by
  refine ⟨List.mem_singleton.2 rfl,⟨fun i f hf hm=>?_,fun i f hf hm=>rfl,fun s' q=>?_⟩⟩
  ·cases hm
  ·cases q
 | t + 1,ht=>by
  obtain ⟨hp,I⟩:=runD_few hok (inp:=inp) (orc:=orc) (old:=old) hx hlt t (by omega)
  obtain ⟨i,hti⟩:∃ i,os[t]?=some i:=⟨_,List.getElem?_eq_getElem (by omega)⟩
  obtain ⟨f,hf⟩:∃ f,fs[i]?=some f:=⟨_,List.getElem?_eq_getElem (hlt i (List.mem_of_getElem? hti))⟩
  rw [runD_at fs inp orc old x.name os t i hti f hf,hgK_succ hti]
  generalize rY fs inp orc old x.name (os.take t)=s at *
  generalize hgK (xW fs) p os t=met at *
  refine ⟨hgStep_sub hp,?_⟩
  split
  ·rename_i hh
   have hi:i∈hgStep (xW fs) met i:=by
    unfold hangB at hh
    rw [Bool.or_eq_true] at hh
    rcases hh with hh | hh
    ·rw [hZ,decide_eq_true_iff] at hh
     rw [name_idx hok.nodup hx hf hh]
     exact hgStep_sub hp
    ·rw [Bool.and_eq_true,List.any_eq_true] at hh
     obtain ⟨hk,r,hr,hc⟩:=hh
     obtain ⟨j,g,g1,g2,g3⟩:=refs_need hok hf (bne_iff_ne.1 hk) (mem_namesE.1 hr)
     have hj:=I.hang j g g1 (I.look _ (by rw [g2]; exact hc))
     unfold hgStep
     rw [if_pos (hitB_iff.2 ⟨j,g3,hj⟩)]
     exact List.mem_append_right _ (List.mem_singleton.2 rfl)
   refine ⟨fun j g hg hm=>?_,fun j g hg hm=>?_,fun s' q=>?_⟩
   ·rcases List.mem_append.1 hm with q | q
    ·exact hgStep_sub (I.hang j g hg q)
    ·rw [name_idx hok.nodup hf hg (List.mem_singleton.1 q)]; exact hi
   ·have hm1:g.name ∉ s.seen:=fun q=>hm (List.mem_append_left _ q)
    have hm2:j≠i:=fun q=>hm (List.mem_append_right _ (List.mem_singleton.2 (by subst q; rw [hf] at hg; rw [Option.some.inj hg])))
    show (s.out.set i _)[j]?=_
    rw [List.getElem?_set_ne (fun q=>hm2 q.symm)]
    exact I.stay j g hg hm1
   ·rcases chB_app q with q | q
    ·exact List.mem_append_left _ (I.look _ q)
    ·exact List.mem_append_right _ (List.mem_singleton.2 q)
  ·exact ⟨fun j g hg hm=>hgStep_sub (I.hang j g hg hm),I.stay,I.look⟩
end Go.Proofs.YthckljafinhepaaGreat
