/-
  What delta.Run gives, in plain words: the values are those of a whole computation with the new inputs.
-/
import Derived.Test.YthckljafinhepaaGreatZP43
namespace Go.Proofs.YthckljafinhepaaGreat
open Go.RowKit
set_option linter.unusedVariables false
def chB (ch:List (ByteArray × Bool)) (s:ByteArray):Bool:=match ch with
 | []=>false
 | p :: l=>if s == p.1 then p.2 else chB l s
theorem chB_snoc (s:ByteArray) (p:ByteArray × Bool):∀ ch:List (ByteArray × Bool),(∀ q∈ch,q.1≠p.1)→chB (ch++[p]) s=if s=p.1 then p.2 else chB ch s
 | [],_=>by
  show (if (s == p.1)=true then p.2 else false)=_
  by_cases e:s=p.1
  ·rw [if_pos e,if_pos ((Go.MapKept.bytes_beq _ _).2 e)]
  ·rw [if_neg e,if_neg (fun q=>e ((Go.MapKept.bytes_beq _ _).1 q))]; rfl
 | q :: l,h=>by
  have hq:=h q (by simp)
  have ih:=chB_snoc s p l fun x hx=>h x (by simp [hx])
  show (if (s == q.1)=true then q.2 else chB (l++[p]) s)=if s=p.1 then p.2 else (if (s == q.1)=true then q.2 else chB l s)
  by_cases e:(s == q.1)=true
  ·have e1:=(Go.MapKept.bytes_beq _ _).1 e
   rw [if_pos e,if_neg (by rw [e1]; exact hq),if_pos e]
  ·rw [if_neg e,if_neg e,ih]
structure Dst where
 out:List Vl
 seen:List ByteArray
 ch:List (ByteArray × Bool)
def hangB (f:Fd) (name:ByteArray) (ch:List (ByteArray × Bool)):Bool:=f.name.toList == name.toList || (f.kind != 1 && (uW f.src).any (chB ch))
def stepD (fs:List Fd) (inp:Env) (orc:List Aw) (old:List Vl) (name:ByteArray) (s:Dst) (i:Nat):Dst:=match fs[i]? with
 | some f=>if hangB f name s.ch=true then ⟨s.out.set i (gX f inp orc (fcs fs s.out)),s.seen++[f.name],s.ch++[(f.name, !eqB (gX f inp orc (fcs fs s.out)) (old.getD i zV))]⟩ else s
 | none=>s
def rY (fs:List Fd) (inp:Env) (orc:List Aw) (old:List Vl) (name:ByteArray) (os:List Nat):Dst:=os.foldl (stepD fs inp orc old name) ⟨old,[],[]⟩
theorem runD_snoc (fs:List Fd) (inp:Env) (orc:List Aw) (old:List Vl) (name:ByteArray) (os:List Nat) (i:Nat):rY fs inp orc old name (os++[i])=stepD fs inp orc old name (rY fs inp orc old name os) i:=by unfold rY; rw [List.foldl_append]; rfl
structure RunD (fs:List Fd) (inp:Env) (orc:List Aw) (old:List Vl) (os:List Nat) (s:Dst):Prop where
 len:s.out.length=fs.length
 rest:∀ i,i ∉ os→s.out[i]?=old[i]?
 at_:∀ i∈os,∀ f x,fs[i]?=some f→s.out[i]?=some x→x=gX f inp orc (fcs fs s.out)
 ch:∀ (i:Nat) (f:Fd),fs[i]?=some f→(chB s.ch f.name=true↔i∈os∧s.out[i]?≠old[i]?)
 mem:∀ q∈s.ch,∃ i∈os,∃ f,fs[i]?=some f∧f.name=q.1
theorem take_idx {os:List Nat} {t j:Nat} (h:j∈os.take t):∃ u,u < t∧os[u]?=some j:=by
 obtain ⟨u,hu⟩:=List.getElem?_of_mem h
 have hut:u < t:=by
  rcases Nat.lt_or_ge u t with q | q
  ·exact q
  ·rw [List.getElem?_eq_none (by rw [List.length_take]; omega)] at hu; cases hu
 exact ⟨u,hut,by rw [List.getElem?_take_of_lt hut] at hu; exact hu⟩
theorem Ordd.one {fs:List Fd} {ρ:List Int} {lv:Nat→Nat} {os:List Nat} (h:Ordd fs ρ lv os) {t u i:Nat} (ht:os[t]?=some i) (hu:os[u]?=some i):t=u :=
 (List.getElem?_inj (List.getElem?_eq_some_iff.1 ht).1 (h.perm.nodup_iff.2 List.nodup_range)).1 (ht.trans hu.symm)
theorem Ordd.asks {fs:List Fd} {ρ:List Int} {lv:Nat→Nat} {os:List Nat} (h:Ordd fs ρ lv os) {t u i j:Nat} (ht:os[t]?=some i) (hu:os[u]?=some j) (hut:u≤t):∀ k∈(xW fs).getD j [],k≠i:=fun k hk e=>by
 subst e
 obtain ⟨v,hv1,hv2⟩:=take_idx (h.ahead hu k hk)
 have:=h.one ht hv2
 omega
theorem get_set {fs:List Fd} (hok:OkFs fs) {out:List Vl} (hl:out.length=fs.length) {i j:Nat} {g:Fd} (hg:fs[j]?=some g) (hj:j≠i) (x:Vl):(fcs fs (out.set i x)).get g.name=(fcs fs out).get g.name:=by
 obtain ⟨y,hy⟩:∃ y,out[j]?=some y:=⟨_,List.getElem?_eq_getElem (by rw [hl]; exact (List.getElem?_eq_some_iff.1 hg).1)⟩
 rw [fcs_get hok.nodup hg hy,fcs_get hok.nodup hg (by rw [List.getElem?_set_ne (fun q=>hj q.symm)]; exact hy)]
theorem runD_inv {fs:List Fd} (hok:OkFs fs) {inp0 inp:Env} {orc:List Aw} {old:List Vl} (hS:Sol fs inp0 orc old) {name:ByteArray} (hname:∀ f∈fs,f.name≠name→gZ f.name f.ty inp=gZ f.name f.ty inp0) {ρ:List Int} {lv:Nat→Nat} {os:List Nat} (h:Ordd fs ρ lv os):∀ t,t≤os.length→RunD fs inp orc old (os.take t) (rY fs inp orc old name (os.take t))
 | 0,_=>by
  refine ⟨hS.len,fun i _=>rfl,fun i hi=>(by cases hi),fun i f hf=>⟨fun q=>(by cases q),fun q=>(by cases q.1)⟩,fun q hq=>(by cases hq)⟩
 | t + 1,ht=>by
  have I:=runD_inv hok hS hname h t (by omega)
  obtain ⟨i,hti⟩:∃ i,os[t]?=some i:=⟨_,List.getElem?_eq_getElem (by omega)⟩
  have hil:=h.lt (List.mem_of_getElem? hti)
  obtain ⟨f,hf⟩:∃ f,fs[i]?=some f:=⟨_,List.getElem?_eq_getElem hil⟩
  have e:os.take (t + 1)=os.take t++[i]:=by rw [List.take_add_one,hti]; rfl
  have hni:i ∉ os.take t:=fun q=>by
   obtain ⟨u,hu1,hu2⟩:=take_idx q
   have:=h.one hti hu2
   omega
  have other:∀ (j:Nat) (g:Fd),fs[j]?=some g→g.name=f.name→j=i:=fun j g hg hn=>by
   have e1:=iQ hok.nodup hg
   rw [hn,iQ hok.nodup hf] at e1
   omega
  have asks:∀ (j:Nat) (g:Fd),fs[j]?=some g→g.kind≠1→j∈os.take (t + 1)→∀ r∈fY g.src,∃ (k:Nat) (q:Fd),fs[k]?=some q∧q.name=r∧k≠i:=fun j g hg hk hj r hr=>by
   obtain ⟨k,q,k1,k2,k3⟩:=refs_need hok hg hk hr
   obtain ⟨u,hu1,hu2⟩:=take_idx hj
   exact ⟨k,q,k1,k2,h.asks hti hu2 (by omega) k k3⟩
  have hin:∀ j,j∈os.take (t + 1)→j∈os.take t∨j=i:=fun j hj=>by
   rw [e] at hj
   rcases List.mem_append.1 hj with q | q
   ·exact .inl q
   ·exact .inr (List.mem_singleton.1 q)
  have hup:∀ j,j∈os.take t→j∈os.take (t + 1):=fun j hj=>by rw [e]; exact List.mem_append_left _ hj
  have hi1:i∈os.take (t + 1):=by rw [e]; simp
  have hold:old.length=fs.length:=hS.len
  rw [show rY fs inp orc old name (os.take (t + 1))=stepD fs inp orc old name (rY fs inp orc old name (os.take t)) i from by rw [e,runD_snoc]]
  generalize rY fs inp orc old name (os.take t)=s at *
  have hnoc:∀ q∈s.ch,q.1≠f.name:=fun q hq en=>by
   obtain ⟨j,hj,g,g1,g2⟩:=I.mem q hq
   exact hni (other j g g1 (g2.trans en) ▸ hj)
  have hsi:=I.rest i hni
  obtain ⟨y,hy⟩:∃ y,old[i]?=some y:=⟨_,List.getElem?_eq_getElem (by omega)⟩
  unfold stepD
  rw [hf]
  simp only
  split
  ·-- it is looked at again
   have hst:∀ j g,fs[j]?=some g→g.kind≠1→j∈os.take (t + 1)→∀ x,∀ r∈fY g.src,(fcs fs s.out).get r=(fcs fs (s.out.set i x)).get r:=fun j g hg hk hj x r hr=>by
    obtain ⟨k,q,k1,k2,k3⟩:=asks j g hg hk hj r hr
    rw [← k2,get_set hok I.len k1 k3]
   generalize hx:gX f inp orc (fcs fs s.out)=x at *
   refine ⟨by rw [List.length_set]; exact I.len,fun j hj=>?_,fun j hj g z hg hz=>?_,fun j g hg=>?_,fun q hq=>?_⟩
   ·have hji:j≠i:=fun q=>hj (q ▸ hi1)
    show (s.out.set i x)[j]?=_
    rw [List.getElem?_set_ne (fun q=>hji q.symm)]
    exact I.rest j fun q=>hj (hup j q)
   ·show z=gX g inp orc (fcs fs (s.out.set i x))
    have hz:(s.out.set i x)[j]?=some z:=hz
    rw [← oneV_congr (fun hk=>hst j g hg hk hj x)]
    rcases hin j hj with q | q
    ·have hji:j≠i:=fun c=>hni (c ▸ q)
     rw [List.getElem?_set_ne (fun q=>hji q.symm)] at hz
     exact I.at_ j q g z hg hz
    ·subst q
     rw [List.getElem?_set_self (by rw [I.len]; exact hil)] at hz
     rw [hf] at hg
     rw [← Option.some.inj hz,← Option.some.inj hg,hx]
   ·show chB (s.ch++[(f.name, !eqB x (old.getD i zV))]) g.name=true↔j∈os.take (t + 1)∧(s.out.set i x)[j]?≠old[j]?
    rw [chB_snoc g.name _ s.ch hnoc]
    by_cases en:g.name=f.name
    ·have hji:=other j g hg en
     subst hji
     rw [if_pos en,List.getElem?_set_self (by rw [I.len]; exact hil),hy,List.getD_eq_getElem?_getD,hy,Option.getD_some,Bool.not_eq_true', ]
     constructor
     ·intro q
      exact ⟨hi1,fun c=>by rw [eqB_iff.2 (Option.some.inj c)] at q; cases q⟩
     ·intro q
      exact Bool.eq_false_iff.2 fun c=>q.2 (by rw [eqB_iff.1 c])
    ·have hji:j≠i:=fun c=>en (by subst c; rw [hf] at hg; rw [Option.some.inj hg])
     rw [if_neg en,List.getElem?_set_ne (fun q=>hji q.symm),I.ch j g hg]
     constructor
     ·exact fun q=>⟨hup j q.1,q.2⟩
     ·exact fun q=>⟨(hin j q.1).resolve_right hji,q.2⟩
   ·have hq:q∈s.ch++[(f.name, !eqB x (old.getD i zV))]:=hq
    rcases List.mem_append.1 hq with c | c
    ·obtain ⟨j,hj,r⟩:=I.mem q c
     exact ⟨j,hup j hj,r⟩
    ·rw [List.mem_singleton.1 c]
     exact ⟨i,hi1,f,hf,rfl⟩
  ·-- it is not
   rename_i hh
   have hh:hangB f name s.ch=false:=Bool.eq_false_iff.2 hh
   unfold hangB at hh
   rw [Bool.or_eq_false_iff] at hh
   obtain ⟨hh1,hh2⟩:=hh
   have hnm:f.name≠name:=fun c=>by rw [hZ,decide_eq_false_iff_not] at hh1; exact hh1 c
   have hsame:f.kind≠1→∀ r∈fY f.src,(fcs fs s.out).get r=(fcs fs old).get r:=fun hk r hr=>by
    obtain ⟨k,q,k1,k2,k3⟩:=refs_need hok hf hk hr
    have hkp:=h.ahead hti k k3
    have hkl:=(List.getElem?_eq_some_iff.1 k1).1
    rw [show (f.kind != 1)=true from bne_iff_ne.2 hk,Bool.true_and,List.any_eq_false] at hh2
    have hno:=hh2 r (mem_namesE.2 hr)
    have hsk:s.out[k]?=old[k]?:=by
     refine Classical.byContradiction fun c=>hno ?_
     rw [← k2,I.ch k q k1]
     exact ⟨hkp,c⟩
    obtain ⟨z,hz⟩:∃ z,old[k]?=some z:=⟨_,List.getElem?_eq_getElem (by omega)⟩
    rw [← k2,fcs_get hok.nodup k1 (hsk.trans hz),fcs_get hok.nodup k1 hz]
   refine ⟨I.len,fun j hj=>I.rest j fun q=>hj (hup j q),fun j hj g z hg hz=>?_,fun j g hg=>?_,fun q hq=>?_⟩
   ·rcases hin j hj with q | q
    ·exact I.at_ j q g z hg hz
    ·subst q
     rw [hf] at hg
     obtain rfl:=Option.some.inj hg
     rw [hsi] at hz
     have e0:=hS.at_ j f z hf hz
     rw [e0]
     unfold gX
     by_cases h1:f.kind=1
     ·rw [if_pos h1,if_pos h1]; exact (hname f (List.mem_of_getElem? hf) hnm).symm
     ·rw [if_neg h1,if_neg h1,eval_local (fun r hr=>hsame h1 r hr)]
   ·rw [I.ch j g hg]
    constructor
    ·exact fun q=>⟨hup j q.1,q.2⟩
    ·intro q
     refine ⟨(hin j q.1).resolve_right fun c=>?_,q.2⟩
     subst c
     exact q.2 hsi
   ·obtain ⟨j,hj,r⟩:=I.mem q hq
    exact ⟨j,hup j hj,r⟩
theorem runD_sol {fs:List Fd} (hok:OkFs fs) {inp0 inp:Env} {orc:List Aw} {old:List Vl} (hS:Sol fs inp0 orc old) {name:ByteArray} (hname:∀ f∈fs,f.name≠name→gZ f.name f.ty inp=gZ f.name f.ty inp0) {ρ:List Int} {lv:Nat→Nat} {os:List Nat} (h:Ordd fs ρ lv os):Sol fs inp orc (rY fs inp orc old name os).out:=by
 have I:=runD_inv hok hS hname h os.length (Nat.le_refl _)
 rw [List.take_length] at I
 exact ⟨I.len,fun i f x hf hx=>I.at_ i (h.perm.mem_iff.2 (List.mem_range.2 (List.getElem?_eq_some_iff.1 hf).1)) f x hf hx⟩
end Go.Proofs.YthckljafinhepaaGreat
