/-
  What is told where one input is told anew, in plain words.
-/
import Derived.Test.YthckljafinhepaaGreatZM48
import Derived.Test.YthckljafinhepaaGreatZM49
namespace Go.Proofs.YthckljafinhepaaGreat
open Go.RowKit
set_option linter.unusedVariables false
def nowE (nm:ByteArray) (v:Vl) (env:Env):Env:=delN nm env++[(nm,v)]
theorem now_mem {nm:ByteArray} {v:Vl} {env:Env} {p:ByteArray × Vl} (h:p∈nowE nm v env):p∈env∨p=(nm,v):=by
 rcases List.mem_append.1 h with q | q
 ·exact .inl (List.mem_filter.1 q).1
 ·exact .inr (List.mem_singleton.1 q)
theorem now_len (nm:ByteArray) (v:Vl) (env:Env):(nowE nm v env).length≤env.length + 1:=by
 unfold nowE delN
 have:=List.length_filter_le (fun p:ByteArray × Vl => !(p.1.toList == nm.toList)) env
 simp only [List.length_append,List.length_cons,List.length_nil]; omega
theorem now_once {nm:ByteArray} {v:Vl} {env:Env} (h:(env.map (·.1)).Nodup):((nowE nm v env).map (·.1)).Nodup:=by
 unfold nowE delN
 rw [List.map_append,List.nodup_append]
 refine ⟨List.Nodup.sublist (List.Sublist.map _ List.filter_sublist) h,by simp,fun a ha b hb e=>?_⟩
 obtain ⟨p,hp,rfl⟩:=List.mem_map.1 ha
 have hp:=(List.mem_filter.1 hp).2
 have hb:b=nm:=by simpa using hb
 rw [e,hb] at hp
 simp at hp
theorem now_tell {nm s:ByteArray} {v:Vl} {t:Int} (h:s≠nm):∀ env:Env,uX s t (nowE nm v env)=uX s t env
 | []=>by
  show (if (nm.toList == s.toList)=true then v else _)=_
  have hn:¬ (nm.toList == s.toList)=true:=by rw [tl_dec,decide_eq_true_iff]; exact fun e=>h e.symm
  rw [if_neg hn]
 | p :: l=>by
  have ih:=now_tell (v:=v) (t:=t) h l
  unfold nowE delN at ih ⊢
  rw [List.filter_cons]
  by_cases e:(p.1.toList == nm.toList)=true
  ·rw [e]
   rw [if_neg (by simp),ih,uX,if_neg]
   rw [tl_dec,decide_eq_true_iff] at e ⊢
   rw [e]; exact fun q=>h q.symm
  ·rw [Bool.eq_false_iff.2 e,if_pos (by simp),List.cons_append,uX,uX,ih]
theorem now_ok {fs:List Fd} (hd:(fs.map (fun f:Fd=>f.name)).Nodup) {env:Env} (k0:∀ p∈env,toldE fs p.1 p.2.k=0) (hk:∀ p∈env,p.2.known) (ho:(env.map (·.1)).Nodup) {i:Nat} {x:Fd} (hx:fs[i]?=some x) (h1:x.kind=1) {v:Vl} (hv:v.known) (hvt:v.k=x.ty) :
  (∀ p∈nowE x.name v env,p.2.known)∧vK fs [] (nowE x.name v env)=0:=by
 refine ⟨fun p hp=>?_,factsV_ok _ _ [] (fun p hp=>?_) (now_once ho)⟩
 ·rcases now_mem hp with q | rfl
  ·exact hk p q
  ·exact hv
 ·rcases now_mem hp with q | rfl
  ·exact k0 p q
  ·unfold toldE
   rw [iQ hd hx,if_neg (by omega)]
   simp only [Int.toNat_natCast,hx]
   rw [if_pos h1,if_pos hvt]
theorem c_cloneFc {h:Vw} {v:Value} {l:Env} (hr:RS h 7 v (zK l)) (hl:l.length≤1000):CRow Tryz.prog 32 #[v] h 54 7 (fun v rows=>(∃ u,v=.slice (sA u) (sN u) (sC u))∧rows=zK l) :=
 CRow.slu (CRow.of_own (fc_len l) (clone_fct v (zK l) h.w (rs_sl hr) (fc_len l) (fc_one l) (by rw [List.length_map]; omega)))
set_option maxRecDepth 100000 in
theorem eqV2_any (l:List Vl) (v u:Value) (h:Vw) (ha:RS h 3 v (xX l)) (hb:RS h 3 u (xX l)) (hl:l.length≤1000000):C0 Tryz.prog 27 #[v,u] h (fun r _=>r=.bool true):=by
 obtain ⟨A1,c1,rfl,-,-,-⟩:=ha.form
 obtain ⟨A2,c2,rfl,-,-,-⟩:=hb.form
 rw [List.length_map] at *
 generalize hL:l.length=n at *
 refine fY Tryz.func27 (c:=Tryz.f27.body.getD .skip) (N:=26) ?_
 intro hbx hbad Q hQ a w hJ
 refine rk' hJ false 15 [] [] (.k (.code [1,0,1]) [.seq [1,1]] [0,1] [(10,.bool ((n:Int) != (n:Int)))]) ?_
 clear hJ a w; intro a w hJ
 refine iY hJ (t:=(n:Int) != (n:Int)) ((by simp)) ?_
 refine rk' hJ false 11 [] [] (.k (.code [0,1,0,1,1]) [.block 0,.seq [1,1,1]] [0,1] [(12,Vi (n:Int)),(13,Vi 0)]) ?_
 clear hJ a w; intro a w hJ
 refine kY (fun (k:Nat) a w=>∃ (h1:Vw) ,K ⟨26,h.w,h.bad,[]⟩ [(0,.slice A1 n c1),(1,.slice A2 n c2),(12,Vi (n:Int)),(13,Vi (k:Int))] [] [] h1 a w∧Sees h h1∧(k≤n)) (fun k=>n - k) (0) ⟨h,hJ.tw,Sees.refl _,Nat.zero_le _⟩ ?_
 clear hJ a w; rintro k a w ⟨h1,hJ,s2,hk⟩
 refine rk' hJ false 6 [] [] (.k (.code [0,1,0,0,1,0,1,1]) [.seq [1,1,0,0,1,0,1,1]] [0,1,12,13] [(14,.bool (decide ((k:Int) < (n:Int))))]) ?_
 clear hJ a w; intro a w hJ
 rcases (by omega:k < n∨k=n) with hlt | hke
 ·obtain ⟨x,hx⟩:∃ x,l[k]?=some x:=⟨_,List.getElem?_eq_getElem (by omega)⟩
  have hrow:=vlRows_get hx
  refine qY hJ (t:=decide ((k:Int) < (n:Int))) (decide_eq_true (by omega)) ?_
  refine rk' hJ false 11 [] [] (.k (.code [0,1,0,0,1,1,0,0,1,0,1,1]) [.seq [1,1,0,0,1,1,0,0,1,0,1,1],.block 1,.seq [1,1,1,0,0,1,0,1,1]] [0,1,12,13] [(5,Vi (k:Int))]) ?_
  clear hJ a w; intro a w hJ
  obtain ⟨b3,o4,rfl,-,c5⟩:=RS.row ha (hrow)
  replace hJ:=hJ.fact (c5.sees s2)
  obtain ⟨b6,o7,rfl,-,c8⟩:=RS.row hb (hrow)
  replace hJ:=hJ.fact (c8.sees s2)
  let R:Reg:=⟨⟨26,h.w,h.bad,[]⟩,[(0,16,fun gh=>.slice (some ⟨b3,o4,none⟩) n c1),(1,17,fun gh=>Vi (k:Int)),(2,18,fun gh=>.pointer (some ⟨b3,o4 + k * 3,none⟩)),(3,19,fun gh=>.agg #[Vi x.k,Vi x.n,.string x.s]),(4,20,fun gh=>.slice (some ⟨b6,o7,none⟩) n c2),(5,21,fun gh=>Vi (k:Int)),(6,22,fun gh=>.pointer (some ⟨b6,o7 + k * 3,none⟩)),(7,23,fun gh=>.agg #[Vi x.k,Vi x.n,.string x.s]),(8,24,fun gh=>.bool false)],[(0,.slice (some ⟨b3,o4,none⟩) n c1),(1,.slice (some ⟨b6,o7,none⟩) n c2),(12,Vi (n:Int)),(13,Vi (k:Int)),(5,Vi (k:Int))],[],[],[[],[],[0,1],[0,1,2],[],[],[4,5],[4,5,6],[0,1,2,3,4,5,6,7]],h1⟩
  have hmono:∀ zq∈R.F,∀ zx zh zi,Sees zh zi→zq.2 zx zh→zq.2 zx zi:=lJ
  refine oY (by kernel_rfl) R hJ 9 [.pu,.pu,.cl,.lf 1 0,.pu,.pu,.cl,.lf 0 0,.cl] (by kernel_rfl) hmono (fun _ _ _=>by kernel_rfl) (fun hT hA=>?_) ?_
  ·clear hJ
   refine And.intro (sW hT hA 18 (fun gh=>.pointer (some ⟨b3,o4 + k * 3,none⟩)) [0,1] 2 (fun gh w=>jX (t:=32) (x:=(.tmp 16)) (y:=(.tmp 17)) (b:=b3) (off:=o4) (n:=n) (cap:=c1) (k:=k) (e:=38) (kk:=3) (by kernel_rfl) (by kernel_rfl) (by kernel_rfl) (by first | omega | (simp; omega)) Tryz.underlying32 (by kernel_rfl))) ?_
   refine And.intro (sW hT hA 22 (fun gh=>.pointer (some ⟨b6,o7 + k * 3,none⟩)) [4,5] 6 (fun gh w=>jX (t:=32) (x:=(.tmp 20)) (y:=(.tmp 21)) (b:=b6) (off:=o7) (n:=n) (cap:=c2) (k:=k) (e:=38) (kk:=3) (by kernel_rfl) (by kernel_rfl) (by kernel_rfl) (by first | omega | (simp; omega)) Tryz.underlying32 (by kernel_rfl))) ?_
   refine And.intro (sW hT hA 24 (fun gh=>.bool false) [3,7] 8 (fun gh w=>run_neqop (x:=(.tmp 19)) (y:=(.tmp 23)) (v:=x) (w:=x) (by kernel_rfl) (by kernel_rfl) (by kernel_rfl) (eqB_iff.2 rfl))) ?_
   trivial
  clear hJ a w; intro gh h9 a w sR hJ1 hF; have s10:Sees h1 h9:=sR; clear sR
  have hJ:K ⟨26,h.w,h.bad,[]⟩ [(0,.slice (some ⟨b3,o4,none⟩) n c1),(1,.slice (some ⟨b6,o7,none⟩) n c2),(12,Vi (n:Int)),(13,Vi (k:Int)),(24,.bool false)] [] [(b6,o7 + k * 3,[Vi x.k,Vi x.n,.string x.s]),(b3,o4 + k * 3,[Vi x.k,Vi x.n,.string x.s])] h9 a w:=hJ1.tw
  clear hJ1 hF hmono R
  clear gh
  refine rk' hJ false 9 [] [(25,Vi (IntKind.i64.wrap ((k:Int) + 1)),Vi ((k:Int) + 1))] (.k (.out .normal) [] [0,1,12] [(13,Vi ((k:Int) + 1))]) (hc:=And.intro (kJ (by omega) (by omega)) (trivial)) ?_
  clear hJ a w; intro a w hJ
  exact pY ⟨k + 1,⟨h9,(hJ.tof [] (F':=[]) (by kernel_rfl)).to (by kernel_rfl) (by kernel_rfl) rfl,(s2.trans s10),by omega⟩,by omega⟩
 ·skip
  refine iY hJ (t:=decide ((k:Int) < (n:Int))) (decide_eq_false (by omega)) ?_
  refine rx' hJ false 2 [] [] (.ok (.out (.exit 0)) [] [] [] []) (fun _=>by kernel_rfl) ?_
  clear hJ a w; intro a w hJ
  refine jY rfl ?_
  refine rx' hJ false 8 [] [] (.ok (.out .ret) [] [(4,.bool true)] [] []) (fun _=>by kernel_rfl) ?_
  clear hJ a w; intro a w hJ
  refine gY (hQ [.bool true] _ [] hJ (.rtm hJ.j .nil) (fJ _) rfl ?_).1
  exact rfl
def delF (l:List RawD) (inp:Env) (orc:List Aw) (old:List Vl) (nm:ByteArray):List Vl:=(runD (mQ l).fields inp orc old nm (gW (rhoL (qV (mQ l).fields)) (mQ l).fields.length)).out
theorem form_ordd (l:List RawD):Ordd (mQ l).fields (rhoL (qV (mQ l).fields)) (lvF l) (gW (rhoL (qV (mQ l).fields)) (mQ l).fields.length):=ordL_ordd (form_ranked l) (by have:=nQ l; have:=mV l; omega)
theorem delF_sol (l:List RawD) {inp0 inp:Env} {orc:List Aw} {old:List Vl} {nm:ByteArray} (ki:∀ p∈inp,p.2.known) (ko:∀ p∈orc,OkV p.has) (hS:Sol (mQ l).fields inp0 orc old) (ov:∀ x∈old,OkV x) (hname:∀ f∈(mQ l).fields,f.name≠nm→uX f.name f.ty inp=uX f.name f.ty inp0) :
  Sol (mQ l).fields inp orc (delF l inp orc old nm)∧∀ x∈delF l inp orc old nm,OkV x:=by
 have hod:=form_ordd l
 refine ⟨runD_sol (form_okFm l).fields hS hname hod,?_⟩
 have:=(runD_ok (form_okFm l).fields (inp:=inp) (orc:=orc) ki ko hS.len ov nm (fun i q=>hod.lt q) _ (Nat.le_refl _)).ok
 rw [List.take_length] at this
 exact this
theorem delF_any (l:List RawD) (inp:Env) (orc:List Aw) (old:List Vl) (nm:ByteArray) (A:Option Addr) (c:Nat) (B:Option Addr) (d:Nat) (si so sv:Value) (h:Vw) (hf:IsForm h (.slice A (mQ l).fields.length c) (.slice B (mQ l).pages.length d) (mQ l)) (hi:RS h 7 si (zK inp)) (li:inp.length≤1000) (ki:∀ p∈inp,p.2.known) (ti:vK (mQ l).fields [] inp=0)
  (ho:RS h 7 so (vJ orc)) (lo:orc.length≤1000) (ko:∀ p∈orc,OkV p.has) (hold:RS h 3 sv (xX old)) (hol:old.length=(mQ l).fields.length) (oko:∀ x∈old,OkV x) (p0:Nat) (hp:gQ (mQ l).fields nm=(p0:Int))
  (hO:∀ H,IsForm H (.slice A (mQ l).fields.length c) (.slice B (mQ l).pages.length d) (mQ l)→RS H 7 so (vJ orc)→C0 Tryz.prog 91 #[.agg #[.slice A (mQ l).fields.length c,.slice B (mQ l).pages.length d],so] H (fun r _=>r=.int .i64 0)) :
  C0 Tryz.prog 35 #[.agg #[.slice A (mQ l).fields.length c,.slice B (mQ l).pages.length d],si,so,sv,.string nm] h (fun r h'=>∃ u z,r=.tuple #[.slice (sA u) (sN u) (sC u),.slice (sA z) (sN z) (sC z),.int .i64 0]∧RS h' 3 (.slice (sA u) (sN u) (sC u)) (xX (delF l inp orc old nm))∧RS h' 1 (.slice (sA z) (sN z) (sC z)) (sX (runD (mQ l).fields inp orc old nm (gW (rhoL (qV (mQ l).fields)) (mQ l).fields.length)).seen)):=by
 have hn:=mV l
 have hl:=nQ l
 refine (run_any (mQ l) _ _ A _ c B _ d inp si so orc old sv nm h (form_okFm l) hf rfl (by omega) hi li ki ti ho lo ko hold hol oko p0 hp hO).mono fun r h' _=>?_
 rintro ⟨A',c',A2,n2,c2,rfl,g1,g2⟩
 exact ⟨.slice A' _ c',.slice A2 n2 c2,rfl,g1,g2⟩
end Go.Proofs.YthckljafinhepaaGreat
