/-
  What is told where one input is told anew, in plain words.
-/
import Derived.Test.YthckljafinhepaaGreatZP9
import Derived.Test.YthckljafinhepaaGreatZP48
import Derived.Test.YthckljafinhepaaGreatZP49
namespace Go.Proofs.YthckljafinhepaaGreat
open Go.RowKit
set_option linter.unusedVariables false
def nowE (nm:ByteArray) (v:Vl) (env:Env):Env:=delN nm env++[(nm,v)]
theorem now_mem {nm:ByteArray} {v:Vl} {env:Env} {p:ByteArray × Vl} (h:p∈nowE nm v env):p∈env∨p=(nm,v):=by
 rcases List.mem_append.1 h with q | q
 ·exact .inl (List.mem_filter.1 q).1
 ·exact .inr (List.mem_singleton.1 q)
theorem now_len (nm:ByteArray) (v:Vl) (env:Env):(nowE nm v env).length≤env.length + 1:=by
 unfold nowE delN
 have:=List.length_filter_le (fun p:ByteArray × Vl => !(p.1.toList == nm.toList)) env
 simp only [List.length_append,List.length_cons,List.length_nil]; omega
theorem now_once {nm:ByteArray} {v:Vl} {env:Env} (h:(env.map (·.1)).Nodup):((nowE nm v env).map (·.1)).Nodup:=by
 unfold nowE delN
 rw [List.map_append,List.nodup_append]
 refine ⟨List.Nodup.sublist (List.Sublist.map _ List.filter_sublist) h,by simp,fun a ha b hb e=>?_⟩
 obtain ⟨p,hp,rfl⟩:=List.mem_map.1 ha
 have hp:=(List.mem_filter.1 hp).2
 have hb:b=nm:=by simpa using hb
 rw [e,hb] at hp
 simp at hp
theorem now_tell {nm s:ByteArray} {v:Vl} {t:Int} (h:s≠nm):∀ env:Env,gZ s t (nowE nm v env)=gZ s t env
 | []=>by
  show (if (nm.toList == s.toList)=true then v else _)=_
  have hn:¬ (nm.toList == s.toList)=true:=by rw [hZ,decide_eq_true_iff]; exact fun e=>h e.symm
  rw [if_neg hn]
 | p :: l=>by
  have ih:=now_tell (v:=v) (t:=t) h l
  unfold nowE delN at ih ⊢
  rw [List.filter_cons]
  by_cases e:(p.1.toList == nm.toList)=true
  ·rw [e]
   rw [if_neg (by simp),ih,gZ,if_neg]
   rw [hZ,decide_eq_true_iff] at e ⊢
   rw [e]; exact fun q=>h q.symm
  ·rw [Bool.eq_false_iff.2 e,if_pos (by simp),List.cons_append,gZ,gZ,ih]
theorem now_ok {fs:List Fd} (hd:(fs.map (fun f:Fd=>f.name)).Nodup) {env:Env} (k0:∀ p∈env,toldE fs p.1 p.2.k=0) (hk:∀ p∈env,p.2.known) (ho:(env.map (·.1)).Nodup) {i:Nat} {x:Fd} (hx:fs[i]?=some x) (h1:x.kind=1) {v:Vl} (hv:v.known) (hvt:v.k=x.ty) :
  (∀ p∈nowE x.name v env,p.2.known)∧uK fs [] (nowE x.name v env)=0:=by
 refine ⟨fun p hp=>?_,factsV_ok _ _ [] (fun p hp=>?_) (now_once ho)⟩
 ·rcases now_mem hp with q | rfl
  ·exact hk p q
  ·exact hv
 ·rcases now_mem hp with q | rfl
  ·exact k0 p q
  ·unfold toldE
   rw [iQ hd hx,if_neg (by omega)]
   simp only [Int.toNat_natCast,hx]
   rw [if_pos h1,if_pos hvt]
theorem c_cloneFc {h:Vw} {v:Value} {l:Env} (hr:RS h 7 v (yK l)) (hl:l.length≤1000):CRow Tryz.prog 32 #[v] h 54 7 (fun v rows=>(∃ u,v=.slice (sA u) (sN u) (sC u))∧rows=yK l) :=
 CRow.slu (CRow.of_own (fc_len l) (clone_fct v (yK l) h.w (rs_sl hr) (fc_len l) (fc_one l) (by rw [List.length_map]; omega)))
set_option maxRecDepth 100000 in
theorem eqV2_any (l:List Vl) (v u:Value) (h:Vw) (ha:RS h 3 v (lZ l)) (hb:RS h 3 u (lZ l)) (hl:l.length≤1000000):C0 Tryz.prog 27 #[v,u] h (fun r _=>r=.bool true):=by
 obtain ⟨A1,c1,rfl,-,-,-⟩:=ha.form
 obtain ⟨A2,c2,rfl,-,-,-⟩:=hb.form
 rw [List.length_map] at *
 generalize hL:l.length=n at *
 refine aV Tryz.func27 (c:=Tryz.f27.body.getD .skip) (N:=26) ?_
 intro hbx hbad Q hQ
 refine go0 15 [] [] ?_
 refine dV (t:=(n:Int) != (n:Int)) ((by simp)) ?_
 refine go0 11 [] [] ?_
 refine jV [0,1,0,1,1] [.block 0,.seq [1,1,1]] (fun (k:Nat) X=>∃ (W1:Vw) ,X W1 [(0,.slice A1 n c1),(1,.slice A2 n c2),(12,Vi (n:Int)),(13,Vi (k:Int))] [] []∧Sees h W1∧(k≤n)) (fun k=>n - k) (0) (fun X q=>⟨h,q _ _ _ _ ⟨rfl,by kernel_rfl⟩,Sees.refl _,Nat.zero_le _⟩) ?_
 rintro k a w ⟨W1,hJ,S2,hk⟩; refine pV hJ ?_; clear hJ a w
 refine go0 6 [] [] ?_
 rcases (by omega:k < n∨k=n) with hlt | hke
 ·obtain ⟨x,hx⟩:∃ x,l[k]?=some x:=⟨_,List.getElem?_eq_getElem (by omega)⟩
  have hrow:=mZ hx
  refine uV (t:=decide ((k:Int) < (n:Int))) (decide_eq_true (by omega)) ?_
  refine go0 11 [] [] ?_
  obtain ⟨b3,o4,rfl,-,c5⟩:=RS.row ha (hrow)
  refine cV (c5.sees S2) ?_
  obtain ⟨b6,o7,rfl,-,c8⟩:=RS.row hb (hrow)
  refine cV (c8.sees S2) ?_
  refine rV 9 0 [.pu,.pu,.v (fun gh=>.pointer (some ⟨b3,o4 + k * 3,none⟩)),.lf 1 0,.pu,.pu,.v (fun gh=>.pointer (some ⟨b6,o7 + k * 3,none⟩)),.lf 0 0,.v (fun gh=>.bool false)] [] (trivial) ?_ ?_
  ·intro R hT hA hmono
   refine And.intro (eZ hT hA b3 o4 n c1 k (fun gh=>.pointer (some ⟨b3,o4 + k * 3,none⟩)) (by first | omega | (simp; omega))) ?_
   refine And.intro (eZ hT hA b6 o7 n c2 k (fun gh=>.pointer (some ⟨b6,o7 + k * 3,none⟩)) (by first | omega | (simp; omega))) ?_
   refine And.intro (t_p hT hA (fun gh=>.bool false) (fun gh w=>run_neqop (x:=(.tmp 19)) (y:=(.tmp 23)) (v:=x) (w:=x) (by kernel_rfl) (by kernel_rfl) (by kernel_rfl) (eqB_iff.2 rfl))) ?_
   trivial
  rintro W9 S10 -
  refine go0 9 [] [(25,Vi (IntKind.i64.wrap ((k:Int) + 1)),Vi ((k:Int) + 1))] ?_ (hc:=(And.intro (jJ (by omega) (by omega)) (trivial)))
  exact tV (k + 1) (fun X q=>⟨W9,q _ _ _ _ ⟨rfl,by kernel_rfl⟩,(S2.trans S10),by omega⟩) (by omega)
 ·skip
  refine dV (t:=decide ((k:Int) < (n:Int))) (decide_eq_false (by omega)) ?_
  refine go0 2 [] [] ?_
  refine iV ?_
  refine go0 8 [] [] ?_
  refine hQ.to [.bool true] (fun H sH=>?_)
  exact rfl
def delF (l:List RawD) (inp:Env) (orc:List Aw) (old:List Vl) (nm:ByteArray):List Vl:=(rY (mQ l).fields inp orc old nm (pX (rhoL (xW (mQ l).fields)) (mQ l).fields.length)).out
theorem form_ordd (l:List RawD):Ordd (mQ l).fields (rhoL (xW (mQ l).fields)) (lvF l) (pX (rhoL (xW (mQ l).fields)) (mQ l).fields.length):=ordL_ordd (qQ l) (by have:=nQ l; have:=tW l; omega)
theorem delF_sol (l:List RawD) {inp0 inp:Env} {orc:List Aw} {old:List Vl} {nm:ByteArray} (ki:∀ p∈inp,p.2.known) (ko:∀ p∈orc,OkV p.has) (hS:Sol (mQ l).fields inp0 orc old) (ov:∀ x∈old,OkV x) (hname:∀ f∈(mQ l).fields,f.name≠nm→gZ f.name f.ty inp=gZ f.name f.ty inp0) :
  Sol (mQ l).fields inp orc (delF l inp orc old nm)∧∀ x∈delF l inp orc old nm,OkV x:=by
 have hod:=form_ordd l
 refine ⟨runD_sol (pQ l).fields hS hname hod,?_⟩
 have:=(runD_ok (pQ l).fields (inp:=inp) (orc:=orc) ki ko hS.len ov nm (fun i q=>hod.lt q) _ (Nat.le_refl _)).ok
 rw [List.take_length] at this
 exact this
theorem delF_any (l:List RawD) (inp:Env) (orc:List Aw) (old:List Vl) (nm:ByteArray) (A:Option Addr) (c:Nat) (B:Option Addr) (d:Nat) (si so sv:Value) (h:Vw) (hf:IsForm h (.slice A (mQ l).fields.length c) (.slice B (mQ l).pages.length d) (mQ l)) (hi:RS h 7 si (yK inp)) (li:inp.length≤1000) (ki:∀ p∈inp,p.2.known) (ti:uK (mQ l).fields [] inp=0)
  (ho:RS h 7 so (tJ orc)) (lo:orc.length≤1000) (ko:∀ p∈orc,OkV p.has) (hold:RS h 3 sv (lZ old)) (hol:old.length=(mQ l).fields.length) (oko:∀ x∈old,OkV x) (p0:Nat) (hp:gQ (mQ l).fields nm=(p0:Int))
  (hO:∀ H,IsForm H (.slice A (mQ l).fields.length c) (.slice B (mQ l).pages.length d) (mQ l)→RS H 7 so (tJ orc)→C0 Tryz.prog 91 #[.agg #[.slice A (mQ l).fields.length c,.slice B (mQ l).pages.length d],so] H (fun r _=>r=.int .i64 0)) :
  C0 Tryz.prog 35 #[.agg #[.slice A (mQ l).fields.length c,.slice B (mQ l).pages.length d],si,so,sv,.string nm] h (fun r h'=>∃ u z,r=.tuple #[.slice (sA u) (sN u) (sC u),.slice (sA z) (sN z) (sC z),.int .i64 0]∧RS h' 3 (.slice (sA u) (sN u) (sC u)) (lZ (delF l inp orc old nm))∧RS h' 1 (.slice (sA z) (sN z) (sC z)) (dZ (rY (mQ l).fields inp orc old nm (pX (rhoL (xW (mQ l).fields)) (mQ l).fields.length)).seen)):=by
 have hn:=tW l
 have hl:=nQ l
 refine (run_any (mQ l) _ _ A _ c B _ d inp si so orc old sv nm h (pQ l) hf rfl (by omega) hi li ki ti ho lo ko hold hol oko p0 hp hO).mono fun r h' _=>?_
 rintro ⟨A',c',A2,n2,c2,rfl,g1,g2⟩
 exact ⟨.slice A' _ c',.slice A2 n2 c2,rfl,g1,g2⟩
end Go.Proofs.YthckljafinhepaaGreat
