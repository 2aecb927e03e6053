/-
  Contracts of package slices at []string. slices.Clone at []string.
-/
import Derived.Test.YtmoahpojchndiaaGreatZL9
import Derived.Test.YtmoahpojchndiaaGreatZL5
import Derived.Test.YtmoahpojchndiaaGreatZL4
import Derived.Test.YtmoahpojchndiaaGreatZL10
import Derived.Test.YtmoahpojchndiaaGreatZL22
import Derived.Test.YtmoahpojchndiaaGreatZL40
import Derived.Lib.AppendZerosOnto
import Derived.Test.YtmoahpojchndiaaGreatZL34
import Derived.Test.YtmoahpojchndiaaGreatZL30
import Derived.Test.YtmoahpojchndiaaGreatZL38
import Derived.Test.YtmoahpojchndiaaGreatZL39
import Derived.Test.YtmoahpojchndiaaGreatZL36
set_option maxRecDepth 100000
namespace Go.Proofs.YtmoahpojchndiaaGreat
open Go.RowKit
set_option linter.unusedVariables false
theorem str_row {l:List ByteArray} {i:Nat} {s:ByteArray} (h:l[i]?=some s):(pY l)[i]?=some [.string s]:=by rw [List.getElem?_map,h]; rfl
theorem str_len (l:List ByteArray):Len 1 (pY l):=fun r hr=>by obtain ⟨x,-,rfl⟩:=List.mem_map.1 hr; rfl
theorem str_one (l:List ByteArray):One (pY l):=fun r hr u hu=>by
 obtain ⟨x,-,rfl⟩:=List.mem_map.1 hr
 rw [List.mem_singleton.1 hu]; rfl
theorem idxS_any (l:List ByteArray) (v:Value) (s:ByteArray) (h:Vw) (hr:RS h 1 v (pY l)) (hl:l.length≤1000000):C0 Tryz.prog 197 #[v,.string s] h (fun r _=>r=.int .i64 (fidx (fun y:ByteArray=>s.toList == y.toList) l)):=by
 obtain ⟨A,cap,rfl,-,-,-⟩:=hr.form
 rw [List.length_map] at *
 generalize hL:l.length=len at *
 refine oQ Tryz.func197 (c:=Tryz.f197.body.getD .skip) (N:=19) ?_
 intro hbx hbad Q hQ
 refine go0 14 [] [] ?_
 refine wQ [0,1,0,1] [.block 0,.seq [1,1]] (fun (k:Nat) X=>∃ (W1:Vw) ,X W1 [(0,.slice A len cap),(1,.string s),(7,Vi (len:Int)),(8,Vi (k:Int))] [] []∧Sees h W1∧(k≤len)∧(∀ y∈l.take k,(s.toList == y.toList)=false)) (fun k=>len - k) (0) (fun X q=>⟨h,q _ _ _ _ ⟨rfl,by kernel_rfl⟩,Sees.refl _,Nat.zero_le _,fun y hy=>by simp at hy⟩) ?_
 rintro k a w ⟨W1,hJ,S2,hk,hn⟩; refine aV hJ ?_; clear hJ a w
 refine go0 6 [] [] ?_
 rcases (by omega:k < len∨k=len) with hlt | hke
 ·obtain ⟨f,hfk⟩:∃ f,l[k]?=some f:=⟨_,List.getElem?_eq_getElem (by omega)⟩
  have hrow:=str_row hfk
  refine eV (t:=decide ((k:Int) < (len:Int))) (decide_eq_true (by omega)) ?_
  refine go0 15 [] [] ?_
  obtain ⟨b3,o4,rfl,-,c5⟩:=RS.row hr (hrow)
  refine pQ (c5.sees S2) ?_
  refine go0 5 [.ix b3 o4 len cap k,.f 0 0] [] ?_ (ho:=(And.intro (by first | omega | (simp; omega)) (trivial)))
  rcases Bool.eq_false_or_eq_true (s.toList == f.toList) with hq | hq
  ·refine eV (t:=s.toList == f.toList) (hq) ?_
   refine go0 9 [] [] ?_
   refine vQ ?_
   refine go0 2 [] [] ?_
   refine hQ.to [Vi (k:Int)] (fun H sH=>?_)
   exact congrArg (Value.int .i64) (fidx_found _ l k f hn hfk hq).symm
  ·skip
   refine qQ (t:=s.toList == f.toList) (hq) ?_
   refine go0 7 [] [(18,Vi (IntKind.i64.wrap ((k:Int) + 1)),Vi ((k:Int) + 1))] ?_ (hc:=(And.intro (jJ (by omega) (by omega)) (trivial)))
   exact dV (k + 1) (fun X q=>⟨W1,q _ _ _ _ ⟨rfl,by kernel_rfl⟩,S2,by omega,(by rw [sY l k f hfk]; exact fun y hy=>(List.mem_append.1 hy).elim (hn y) (fun e=>by rw [List.mem_singleton.1 e]; exact hq))⟩) (by omega)
 ·skip
  have htk:l.take k=l:=by rw [hke,← hL,List.take_length]
  rw [htk] at hn
  refine qQ (t:=decide ((k:Int) < (len:Int))) (decide_eq_false (by omega)) ?_
  refine go0 2 [] [] ?_
  refine vQ ?_
  refine go0 8 [] [] ?_
  refine hQ.to [Vi (-1)] (fun H sH=>?_)
  exact congrArg (Value.int .i64) (fidx_none _ l hn).symm
def memS (l:List ByteArray) (s:ByteArray):Bool:=l.any fun y=>s.toList == y.toList
theorem memS_iff {l:List ByteArray} {s:ByteArray}:memS l s=true↔s∈l:=by
 unfold memS
 rw [List.any_eq_true]
 constructor
 ·rintro ⟨y,hy,q⟩
  rw [tl_dec] at q
  rw [of_decide_eq_true q]; exact hy
 ·intro hm
  exact ⟨s,hm,tl_yes rfl⟩
theorem contS_any (l:List ByteArray) (v:Value) (s:ByteArray) (h:Vw) (hr:RS h 1 v (pY l)) (hl:l.length≤1000000):C0 Tryz.prog 162 #[v,.string s] h (fun r _=>r=.bool (memS l s)):=by
 have hi:=fun H q=>idxS_any l v s H q hl
 have e:decide (0≤fidx (fun y:ByteArray=>s.toList == y.toList) l)=memS l s:=fidx_dec _ _
 generalize fidx (fun y:ByteArray=>s.toList == y.toList) l=p at *
 obtain ⟨A,cap,rfl,-,-,-⟩:=hr.form
 refine oQ Tryz.func162 (c:=Tryz.f162.body.getD .skip) (N:=9) ?_
 intro hbx hbad Q hQ
 refine go0 15 [.cl 197 #[.slice A ((pY l).length) cap,.string s] (Vi p)] [] ?_ (ho:=(And.intro (fun H sH=>hi _ (hr.sees sH)) (trivial)))
 refine hQ.to [.bool (decide (p ≥ 0))] (fun H sH=>?_)
 exact congrArg Value.bool e
end Go.Proofs.YtmoahpojchndiaaGreat
namespace Go.Proofs.YtmoahpojchndiaaGreat
open Go.RowKit
set_option linter.unusedVariables false
theorem info_str:(Tryz.prog.info? 9).map (fun i=>(i.zero,i.size,i.bytes))=some (some (.string ⟨#[]⟩),1,16):=by kernel_rfl
set_option maxHeartbeats 2000000 in
theorem clone_str (v:Value) (l:List (List Value)) (w:World) (h:Sl w 1 v l) (hk:Len 1 l) (h1:One l) (hl:l.length * 16≤140737488355328) :
  Calls Tryz.prog 131 #[v] w (GivesOwn 9 1 l w):=by
 have q22:∀ (w:World) (a:Option Addr) (n c n' c':Nat),(binOp .eql 57 (.slice a n c) (.slice none n' c')).run Tryz.prog w=.ok (.bool a.isNone) w:=fun w a n c n' c'=>Lib.run_eql_slice_nil w _ _ a n c n' c' Tryz.underlying57
 obtain ⟨A,cap,rfl,c1,c2,hA⟩:=h.form
 cases A with
 | none =>
  obtain rfl:=hA rfl
  have h0:l.length=0:=by omega
  obtain rfl:=List.length_eq_zero_iff.1 h0
  go_enter Tryz.func131,Tryz.ntmps131
  go_wp2_with fail
  go_ret
  exact ⟨_,rfl,⟨by simp,.inl ⟨rfl,rfl⟩⟩,Evo.refl _⟩
 | some a =>
  have HR:=Lib.hid h
  have HK:=Lib.hid hk
  have H1:=Lib.hid h1
  clear h hk h1
  go_enter Tryz.func131,Tryz.ntmps131
  go_wp2_with (at_builtin; refine dZ rfl (.tmp 5) (.tmp 6) 57 rfl 9 _ 1 16 Tryz.underlying57 info_str rfl (by decide) w ((Evo.refl _).alloc _) [] l _ _ rfl rfl ⟨World.ownsRow_made w #[] 0 (Nat.le_refl _) (Nat.zero_le _) (by simp)⟩ (HR.out.at ((Evo.refl _).alloc _)) HK.out H1.out ?c1 ?c2 ?_)
  case c1=>simp; omega
  case c2=>simpa using hl
  intro v' w1 hown hbl hg
  have HW:=Lib.hid (⟨hown,hbl⟩:Own w1 w.heap.size 9 1 v' ([]++l).length ([]++l).flatten∧Evo w w1)
  clear hown hg hbl
  go_wp2_with fail
  go_ret
  exact ⟨_,rfl,HW.out.1,HW.out.2⟩
theorem c_cloneS {h:Vw} {v:Value} {l:List ByteArray} (hr:RS h 1 v (pY l)) (hl:l.length≤1000000):CRow Tryz.prog 131 #[v] h 9 1 (fun _ rows=>rows=pY l) :=
 CRow.of_own (str_len l) (clone_str v (pY l) h.w (Sl.of_rs hr) (str_len _) (str_one _) (by rw [List.length_map]; omega))
end Go.Proofs.YtmoahpojchndiaaGreat
namespace Go.Proofs.YtmoahpojchndiaaGreat
open Go.RowKit
set_option linter.unusedVariables false
theorem pgRows_get:∀ {l:List Pg} {us vs:List Value} {i:Nat} {p:Pg} {u v:Value},l[i]?=some p→us[i]?=some u→vs[i]?=some v→(yW l us vs)[i]?=some (pgRow p u v)
 | q :: l,u' :: us,v' :: vs,0,p,u,v,h1,h2,h3=>by simp at h1 h2 h3; subst h1 h2 h3; rfl
 | q :: l,u' :: us,v' :: vs,i + 1,p,u,v,h1,h2,h3=>pgRows_get (l:=l) (by simpa using h1) (by simpa using h2) (by simpa using h3)
 | [],_,_,_,_,_,_,h,_,_=>by simp at h
 | _ :: _,[],_,_,_,_,_,_,h,_=>by simp at h
 | _ :: _,_ :: _,[],_,_,_,_,_,_,h=>by simp at h
theorem AllStr.get {h:Vw}:∀ {l:List (List ByteArray)} {us:List Value},AllStr h l us→∀ {i:Nat} {x:List ByteArray} {u:Value},l[i]?=some x→us[i]?=some u→RS h 1 u (pY x)
 | [],_,_,i,x,u,hx,_=>by simp at hx
 | y :: l,_,⟨u',r,e,k1,k2⟩,i,x,u,hx,hu=>by
  subst e
  cases i with
  | zero=>simp at hx hu; subst hx hu; exact k1
  | succ i=>exact AllStr.get k2 (by simpa using hx) (by simpa using hu)
theorem pgs_open {h:Vw} {v:Value} {l:List Pg} (hp:IsPgs h v l):∃ us vs A cap,v=.slice A l.length cap∧cap≤maxLen∧RS h 8 (.slice A l.length cap) (yW l us vs)∧AllStr h (l.map (·.fields)) us∧AllArgs h (l.map (·.skip)) vs∧us.length=l.length∧vs.length=l.length:=by
 obtain ⟨us,vs,hr,hs,ha⟩:=hp
 have hu:=hs.len
 have hv:=ha.len
 rw [List.length_map] at hu hv
 obtain ⟨A,c,e,-,h2,-⟩:=hr.form
 rw [zW hu hv] at e
 rw [e] at hr
 exact ⟨us,vs,A,c,e,h2,hr,hs,ha,hu,hv⟩
theorem pg_at {h:Vw} {l:List Pg} {us vs:List Value} (hs:AllStr h (l.map (·.fields)) us) (ha:AllArgs h (l.map (·.skip)) vs) {i:Nat} {p:Pg} (hp:l[i]?=some p) :
  ∃ A c B m d,(yW l us vs)[i]?=some (pgRow p (.slice A p.fields.length c) (.slice B m d))∧RS h 1 (.slice A p.fields.length c) (pY p.fields)∧IsArgs h p.skip (.slice B m d):=by
 have hu:=hs.len
 have hv:=ha.len
 rw [List.length_map] at hu hv
 have hil:=(List.getElem?_eq_some_iff.1 hp).1
 obtain ⟨u,hui⟩:∃ u,us[i]?=some u:=⟨_,List.getElem?_eq_getElem (by omega)⟩
 obtain ⟨v,hvi⟩:∃ v,vs[i]?=some v:=⟨_,List.getElem?_eq_getElem (by omega)⟩
 have h1:=AllStr.get hs (x:=p.fields) (by rw [List.getElem?_map,hp]; rfl) hui
 have h2:=AllArgs.get ha (x:=p.skip) (by rw [List.getElem?_map,hp]; rfl) hvi
 obtain ⟨A,c,e,-⟩:=h1.form
 rw [List.length_map] at e
 obtain ⟨B,m,d,rfl⟩:=h2.slice
 subst e
 exact ⟨A,c,B,m,d,pgRows_get hp hui hvi,h1,h2⟩
def findG (l:List Pg) (s:ByteArray):Int:=fidx (fun p:Pg=>p.name.toList == s.toList) l
theorem gfind1_any (p:Pg) (u:Value) (A:Option Addr) (n c:Nat) (B:Option Addr) (m d:Nat) (s:ByteArray) (b:Nat) (h:Vw) (hc:Cells h b 0 [.string s]) :
  C0 Tryz.prog 196 #[.agg #[.string p.name,.slice A n c,.int .i64 p.skip.op,.int .i64 p.skip.k,.int .i64 p.skip.n,.string p.skip.s,.string p.skip.nm,.slice B m d],.pointer (some ⟨b,0,none⟩)] h (fun r _=>r=.bool (p.name.toList == s.toList)):=by
 refine oQ Tryz.func196 (c:=Tryz.f196.body.getD .skip) (N:=8) ?_
 intro hbx hbad Q hQ
 refine pQ (hc.sees (Sees.refl _)) ?_
 refine go1 16 [.own,.b 0 0,.f 0 0] [] ?_
 intro b1
 refine hQ.to [.bool (p.name.toList == s.toList)] (fun H sH=>?_)
 exact rfl
theorem gidxF_any (s:ByteArray) (l:List Pg) (us vs:List Value) (A:Option Addr) (cap:Nat) (b:Nat) (h:Vw) (hr:RS h 8 (.slice A l.length cap) (yW l us vs)) (hs:AllStr h (l.map (·.fields)) us) (ha:AllArgs h (l.map (·.skip)) vs) (hl:l.length≤1000000) (hc:Cells h b 0 [.string s]) (hfl:∀ p∈l,p.fields.length≤1000000) :
  C0 Tryz.prog 195 #[.slice A l.length cap,.func (.func 196) #[] #[.pointer (some ⟨b,0,none⟩)]] h (fun r _=>r=.int .i64 (findG l s)):=by
 have hat:=fun i p hp=>pg_at (i:=i) (p:=p) hs ha hp
 generalize hL:l.length=len at *
 refine oQ Tryz.func195 (c:=Tryz.f195.body.getD .skip) (N:=19) ?_
 intro hbx hbad Q hQ
 refine go0 14 [] [] ?_
 refine wQ [0,1,0,1] [.block 0,.seq [1,1]] (fun (k:Nat) X=>∃ (W1:Vw) ,X W1 [(0,.slice A len cap),(1,.func (.func 196) #[] #[Vp b]),(7,Vi (len:Int)),(8,Vi (k:Int))] [] []∧Sees h W1∧(k≤len)∧(∀ y∈l.take k,(y.name.toList == s.toList)=false)) (fun k=>len - k) (0) (fun X q=>⟨h,q _ _ _ _ ⟨rfl,by kernel_rfl⟩,Sees.refl _,Nat.zero_le _,fun y hy=>by simp at hy⟩) ?_
 rintro k a w ⟨W1,hJ,S2,hk,hn⟩; refine aV hJ ?_; clear hJ a w
 refine go0 6 [] [] ?_
 rcases (by omega:k < len∨k=len) with hlt | hke
 ·obtain ⟨p,hpk⟩:∃ p,l[k]?=some p:=⟨_,List.getElem?_eq_getElem (by omega)⟩
  obtain ⟨Au,cu,Bu,mu,du,hrow,hrs,-⟩:=hat k p hpk
  have hpl:=hfl p (List.mem_of_getElem? hpk)
  refine eV (t:=decide ((k:Int) < (len:Int))) (decide_eq_true (by omega)) ?_
  refine go0 15 [] [] ?_
  obtain ⟨b3,o4,rfl,-,c5⟩:=RS.row hr (hrow)
  refine pQ (c5.sees S2) ?_
  refine go0 5 [.ix b3 o4 len cap k,.f 0 0,.cl 196 #[.agg #[.string p.name,.slice Au p.fields.length cu,Vi p.skip.op,Vi p.skip.k,Vi p.skip.n,.string p.skip.s,.string p.skip.nm,.slice Bu mu du],Vp b] (.bool (p.name.toList == s.toList))] [] ?_ (ho:=(And.intro (by first | omega | (simp; omega)) (And.intro (fun H sH=>gfind1_any p (Vz) _ _ _ _ _ _ s b _ (hc.sees (S2.trans sH))) (trivial))))
  cases boolIs (p.name.toList == s.toList) with
  | true hq =>
   refine eV (t:=p.name.toList == s.toList) (hq) ?_
   refine go0 9 [] [] ?_
   refine vQ ?_
   refine go0 2 [] [] ?_
   refine hQ.to [Vi (k:Int)] (fun H sH=>?_)
   exact congrArg (Value.int .i64) (fidx_found _ l k p hn hpk hq).symm
  | false hq =>
   refine qQ (t:=p.name.toList == s.toList) (hq) ?_
   refine go0 7 [] [(18,Vi (IntKind.i64.wrap ((k:Int) + 1)),Vi ((k:Int) + 1))] ?_ (hc:=(And.intro (jJ (by omega) (by omega)) (trivial)))
   exact dV (k + 1) (fun X q=>⟨W1,q _ _ _ _ ⟨rfl,by kernel_rfl⟩,S2,by omega,(by rw [sY l k p hpk]; exact fun y hy=>(List.mem_append.1 hy).elim (hn y) (fun e=>by rw [List.mem_singleton.1 e]; exact hq))⟩) (by omega)
 ·skip
  have htk:l.take k=l:=by rw [hke,← hL,List.take_length]
  rw [htk] at hn
  refine qQ (t:=decide ((k:Int) < (len:Int))) (decide_eq_false (by omega)) ?_
  refine go0 2 [] [] ?_
  refine vQ ?_
  refine go0 8 [] [] ?_
  refine hQ.to [Vi (-1)] (fun H sH=>?_)
  exact congrArg (Value.int .i64) (fidx_none _ l hn).symm
theorem gFind_any (l:List Pg) (v:Value) (s:ByteArray) (h:Vw) (hp:IsPgs h v l) (hl:l.length≤1000000) (hfl:∀ p∈l,p.fields.length≤1000000):C0 Tryz.prog 161 #[v,.string s] h (fun r _=>r=.tuple #[.int .i64 (if findG l s < 0 then 0 else findG l s),.int .i64 (if findG l s < 0 then 5 else 0)]):=by
 obtain ⟨us,vs,A,cap,rfl,-,hr,hs,ha,-,-⟩:=pgs_open hp
 have hi:=fun H b q1 q2 q3 q4=>gidxF_any s l us vs A cap b H q1 q2 q3 hl q4 hfl
 generalize findG l s=p at *
 refine oQ Tryz.func161 (c:=Tryz.f161.body.getD .skip) (N:=13) ?_
 intro hbx hbad Q hQ
 refine kV 11 [.fix] [] ?_
 intro bsn W1 S2
 refine nQ 0 bsn 0 [.string s] fun sn=>?_
 refine go0 11 [.cl 195 #[.slice A l.length cap,.func (.func 196) #[] #[Vp bsn]] (Vi p)] [] ?_ (ho:=(And.intro (fun H sH=>hi _ _ (hr.sees (S2.trans sH)) (hs.sees (S2.trans sH)) (ha.sees (S2.trans sH)) (sn.sees sH)) (trivial)))
 by_cases hp:p < 0
 ·refine eV (t:=decide (p < 0)) (decide_eq_true hp) ?_
  refine go0 8 [] [] ?_
  refine hQ.to [Vi 0,Vi 5] (fun H sH=>?_)
  rw [if_pos hp,if_pos hp]; rfl
 ·skip
  refine qQ (t:=decide (p < 0)) (decide_eq_false hp) ?_
  refine go0 10 [] [] ?_
  refine hQ.to [Vi p,Vi 0] (fun H sH=>?_)
  rw [if_neg hp,if_neg hp]; rfl
theorem never_yes (nm:ByteArray) (A:Option Addr) (n c:Nat) (B:Option Addr) (d:Nat) (h:Vw):C0 Tryz.prog 163 #[.agg #[.string nm,.slice A n c,.int .i64 0,.int .i64 0,.int .i64 0,.string ⟨#[]⟩,.string ⟨#[]⟩,.slice B 0 d]] h (fun r _=>r=.bool true):=by
 refine oQ Tryz.func163 (c:=Tryz.f163.body.getD .skip) (N:=26) ?_
 intro hbx hbad Q hQ
 refine go2 28 [.own,.b 0 2,.own,.b 0 0,.b 0 0,.b 0 4,.b 0 1] [] ?_
 intro b1 b2
 refine g_pure (.bool true) (fun w=>run_eqop (x:=(.tmp 16)) (y:=(.tmp 17)) (v:=(⟨0,0,⟨#[]⟩⟩:Vl)) (w:=(⟨0,0,⟨#[]⟩⟩:Vl)) (by kernel_rfl) (by kernel_rfl) (by kernel_rfl) (eqB_iff.2 rfl)) ?_
 refine go0 11 [.b 0 5] [] ?_
 refine hQ.to [.bool true] (fun H sH=>?_)
 exact rfl
theorem never_no (nm:ByteArray) (x:Ex) (A:Option Addr) (n c:Nat) (B:Option Addr) (m d:Nat) (h:Vw) (hx:x.op≠0):C0 Tryz.prog 163 #[.agg #[.string nm,.slice A n c,.int .i64 x.op,.int .i64 x.k,.int .i64 x.n,.string x.s,.string x.nm,.slice B m d]] h (fun r _=>r=.bool false):=by
 refine oQ Tryz.func163 (c:=Tryz.f163.body.getD .skip) (N:=26) ?_
 intro hbx hbad Q hQ
 refine go2 40 [.own,.b 0 2,.own,.b 0 0,.b 0 0] [(8,.bool (x.op == 0),.bool false)] ?_ (hc:=(And.intro (congrArg Value.bool (beq_eq_false_iff_ne.2 hx)) (trivial)))
 intro b1 b2
 refine hQ.to [.bool false] (fun H sH=>?_)
 exact rfl
end Go.Proofs.YtmoahpojchndiaaGreat
namespace Go.Proofs.YtmoahpojchndiaaGreat
open Go.RowKit
set_option linter.unusedVariables false
theorem pgRows_take:∀ (k:Nat) {l:List Pg} {us vs:List Value},us.length=l.length→vs.length=l.length→(yW l us vs).take k=yW (l.take k) (us.take k) (vs.take k)
 | 0,l,us,vs,_,_=>by simp [yW]
 | k + 1,[],[],[],_,_=>rfl
 | k + 1,p :: l,u :: us,v :: vs,h1,h2=>by
  show (pgRow p u v :: yW l us vs).take (k + 1)=pgRow p u v :: yW (l.take k) (us.take k) (vs.take k)
  rw [List.take_succ_cons,pgRows_take k (by simpa using h1) (by simpa using h2)]
theorem AllStr.take {h:Vw}:∀ (k:Nat) {l:List (List ByteArray)} {us:List Value},AllStr h l us→AllStr h (l.take k) (us.take k)
 | 0,_,_,_=>rfl
 | k + 1,[],_,e=>by cases e; rfl
 | k + 1,x :: l,_,⟨u,r,e,k1,k2⟩=>by subst e; exact ⟨u,r.take k,rfl,k1,AllStr.take k k2⟩
theorem pgs_take {h:Vw} {A:Option Addr} {cap:Nat} {l:List Pg} (hp:IsPgs h (.slice A l.length cap) l) (k:Nat) (hk:k≤l.length):IsPgs h (.slice A k cap) (l.take k):=by
 obtain ⟨us,vs,hr,hs,ha⟩:=hp
 have hu:=hs.len
 have hv:=ha.len
 rw [List.length_map] at hu hv
 refine ⟨us.take k,vs.take k,?_,?_,?_⟩
 ·have:=hr.take k (by rw [zW hu hv]; omega)
  rwa [pgRows_take k hu hv] at this
 ·rw [List.map_take]; exact AllStr.take k hs
 ·rw [List.map_take]; exact AllArgs.take' k ha
structure OkGs (fs:List Fd) (l:List Pg):Prop where
 one:1≤l.length
 few:l.length≤6
 name:∀ p∈l,rJ p.name.data.toList
 nodup:(l.map (·.name)).Nodup
 fl:∀ p∈l,p.fields.length≤100
 here:∀ p∈l,∀ s∈p.fields,0≤dQ fs s
 once:(l.flatMap (·.fields)).Nodup
 skip:∀ p∈l,p.skip=zE∨(p.skip.op≠0∧WfE p.skip∧(szE p.skip).1 < 1000000∧fitsE fs p.skip 2=0)
set_option maxHeartbeats 8000000 in
theorem pgCheck_any (fs:List Fd) (fv:Value) (l:List Pg) (v:Value) (h:Vw) (hok:OkGs fs l) (hp:IsPgs h v l) (hfs:IsFds h fv fs) (hfl:fs.length≤1000):C0 Tryz.prog 125 #[v,fv] h (fun r _=>r=.int .i64 0):=by
 obtain ⟨us,vs,A,cap,rfl,hcap,hr,hs,ha,hul,hvl⟩:=pgs_open hp
 have hlc:l.length≤cap:=by
  obtain ⟨A',c',e',h1,-,-⟩:=hr.form
  rw [zW hul hvl] at h1
  simp only [Value.slice.injEq] at e'
  omega
 obtain ⟨-,Af,cf,rfl,-,-,-,-,-,-⟩:=cQ hfs
 have one:=hok.one
 have few:=hok.few
 have hat:=fun i p hp=>pg_at (i:=i) (p:=p) hs ha hp
 have htk:=fun k hk=>pgs_take (h:=h) (A:=A) (cap:=cap) (l:=l) hp k hk
 have hFi:=fun H s q=>findP_any fs (.slice Af fs.length cf) s H q (by omega)
 have hGf:=fun k H s q=>gFind_any (l.take k) (.slice A k cap) s H q (by rw [List.length_take]; omega) (fun p hp=>by have:=hok.fl p (List.mem_of_mem_take hp); omega)
 generalize hL:l.length=len at *
 generalize hM:fs.length=fl at *
 refine oQ Tryz.func125 (c:=Tryz.f125.body.getD .skip) (N:=82) ?_
 intro hbx hbad Q hQ
 refine go0 35 [] [(18,.bool (decide ((len:Int) < 1)),.bool false),(22,.bool (decide ((len:Int) > 6)),.bool false)] ?_ (hc:=(And.intro (congrArg Value.bool (decide_eq_false (by omega))) (And.intro (congrArg Value.bool (decide_eq_false (by omega))) (trivial))))
 refine zQ 9 1 ?_
 refine wQ [0,1,0,1,1,1] [.block 0,.seq [1,1,1,1]] (fun (k:Nat) X=>∃ (W1:Vw) (mv:Value),X W1 [(0,.slice A len cap),(1,.slice Af fl cf),(24,.slice A len cap),(25,Vi (len:Int)),(26,Vi (k:Int)),(5,mv)] [.row mv 9 1 (pY ((l.take k).flatMap (·.fields)))] []∧Sees h W1∧(k≤len)) (fun k=>len - k) (0) (fun X q=>⟨h,(Vz),q _ _ _ _ ⟨rfl,by kernel_rfl⟩,Sees.refl _,Nat.zero_le _⟩) ?_
 rintro k a w ⟨W1,mv,hJ,S2,hk⟩; refine aV hJ ?_; clear hJ a w
 refine go0 6 [] [] ?_
 rcases (by omega:k < len∨k=len) with hlt | hke
 ·obtain ⟨p,hpk⟩:∃ p,l[k]?=some p:=⟨_,List.getElem?_eq_getElem (by omega)⟩
  have hpm:=List.mem_of_getElem? hpk
  obtain ⟨Au,cu,Bu,mu,du,hrow,hrs,hxa⟩:=hat k p hpk
  have hnm:=hok.name p hpm
  have htp:=htk k hk
  have hno:findG (l.take k) p.name = -1:=fidx_none _ _ fun y hy=>tl_no fun e=>by
   obtain ⟨j,hj⟩:=List.mem_iff_getElem?.1 hy
   rw [List.getElem?_take] at hj
   split at hj
   ·rename_i hjk
    have h1:(l.map (fun p:Pg=>p.name))[j]?=some p.name:=by rw [List.getElem?_map,hj]; simp [e]
    have h2:(l.map (fun p:Pg=>p.name))[k]?=some p.name:=by rw [List.getElem?_map,hpk]; rfl
    have:=(List.getElem?_inj (by rw [List.length_map]; omega) hok.nodup).1 (h1.trans h2.symm)
    omega
   ·cases hj
  have hGk:=fun H q=>hGf k H p.name q
  rw [hno] at hGk
  have hfk:=hok.fl p hpm
  have hhere:=hok.here p hpm
  have hsn:(l.take (k + 1)).flatMap (fun p:Pg=>p.fields)=(l.take k).flatMap (fun p:Pg=>p.fields)++p.fields:=by rw [sY l k p hpk,List.flatMap_append]; simp
  have hone:((l.take k).flatMap (fun p:Pg=>p.fields)++p.fields).Nodup:=by
   rw [← hsn]
   have ho:=hok.once
   have e:l.flatMap (fun p:Pg=>p.fields)=(l.take (k + 1)).flatMap (fun p:Pg=>p.fields)++(l.drop (k + 1)).flatMap (fun p:Pg=>p.fields):=by rw [← List.flatMap_append,List.take_append_drop]
   rw [e] at ho
   exact (List.nodup_append.1 ho).1
  have hdl:((l.take k).flatMap (fun p:Pg=>p.fields)).length≤600:=by
   have key:∀ m:List Pg,(∀ p∈m,p.fields.length≤100)→(m.flatMap (fun p:Pg=>p.fields)).length≤100 * m.length:=by
    intro m
    induction m with
    | nil=>intro _; simp
    | cons q m ih =>
     intro hm
     have h1:=hm q (by simp)
     have h2:=ih fun z hz=>hm z (by simp [hz])
     rw [List.flatMap_cons,List.length_append,List.length_cons]
     omega
   have:=key (l.take k) fun q hq=>hok.fl q (List.mem_of_mem_take hq)
   rw [List.length_take] at this
   omega
  have hskip:=hok.skip p hpm
  generalize (l.take k).flatMap (fun p:Pg=>p.fields)=dn at *
  refine eV (t:=decide ((k:Int) < (len:Int))) (decide_eq_true (by omega)) ?_
  refine go0 7 [] [] ?_
  obtain ⟨b3,o4,rfl,-,c5⟩:=RS.row hr (hrow)
  refine pQ (c5.sees S2) ?_
  refine go1 27 [.ix b3 o4 len cap k,.f 0 0,.own,.b 0 0,.b 0 0,.cl 160 #[.string p.name] (Vi 0)] [] ?_ (ho:=(And.intro (by first | omega | (simp; omega)) (And.intro (fun H sH=>c_name _ _ hnm) (trivial))))
  intro b6
  refine cV 11 0 [.pu,.pu,.v (fun gh=>.slice (some ⟨b3,o4,none⟩) k cap),.pu,.ld 0 0,.v (fun gh=>.tuple #[Vi 0,Vi 5]),.pu,.pu,.pu,.pu,.pu] [] (trivial) ?_ ?_
  ·intro R hT hA hmono
   refine And.intro (t_p hT hA (fun gh=>.slice (some ⟨b3,o4,none⟩) k cap) (fun gh w=>run_hi (t:=27) (e:=59) (x:=(.tmp 38)) (y:=(.tmp 39)) (A:=(some ⟨b3,o4,none⟩)) (n:=len) (cap:=cap) (k:=k) (kk:=8) (by kernel_rfl) (by kernel_rfl) (by kernel_rfl) (by omega) Tryz.underlying27 (by kernel_rfl))) ?_
   refine And.intro (t_v hT hA hmono (k:=161) (args:=(fun gh=>#[.slice (some ⟨b3,o4,none⟩) k cap,.string p.name])) (f:=fun gh=>.tuple #[Vi 0,Vi 5]) (fun gh H sH fH lent=>hGk _ (htp.sees (S2.trans sH)))) ?_
   trivial
  rintro W7 S8 -
  refine go0 20 [.b 0 1] [] ?_
  have hd0:pY dn=pY (dn++p.fields.take 0):=by simp
  rw [hd0]
  refine wQ [0,1,0,1,1,1,0,0,1,1,0,0,1,0,1,1,1] [.block 2,.seq [1,1,1,1,0,0,1,1,0,0,1,0,1,1,1],.block 1,.seq [1,1,1,0,0,1,0,1,1,1]] (fun (j:Nat) X=>∃ (W9:Vw) (nv:Value),X W9 [(0,.slice (some ⟨b3,o4,none⟩) len cap),(1,.slice Af fl cf),(24,.slice (some ⟨b3,o4,none⟩) len cap),(25,Vi (len:Int)),(26,Vi (k:Int)),(7,Vp b6),(49,.slice Au p.fields.length cu),(50,Vi (p.fields.length:Int)),(51,Vi (j:Int)),(5,nv)] [.box b6 [.string p.name,.slice Au p.fields.length cu,Vi p.skip.op,Vi p.skip.k,Vi p.skip.n,.string p.skip.s,.string p.skip.nm,.slice Bu mu du],.row nv 9 1 (pY (dn++p.fields.take j))] [(b3,o4 + k * 8,[.string p.name,.slice Au p.fields.length cu,Vi p.skip.op,Vi p.skip.k,Vi p.skip.n,.string p.skip.s,.string p.skip.nm,.slice Bu mu du])]∧Sees W7 W9∧(j≤p.fields.length)) (fun j=>p.fields.length - j) (0) (fun X q=>⟨W7,mv,q _ _ _ _ ⟨rfl,by kernel_rfl⟩,Sees.refl _,Nat.zero_le _⟩) ?_
  rintro j a w ⟨W9,nv,hJ,S10,hj⟩; refine aV hJ ?_; clear hJ a w
  refine go0 6 [] [] ?_
  rcases (by omega:j < p.fields.length∨j=p.fields.length) with hjl | hje
  ·obtain ⟨s,hsj⟩:∃ s,p.fields[j]?=some s:=⟨_,List.getElem?_eq_getElem hjl⟩
   have hsr:=str_row hsj
   have hse:dQ fs s=((plc fs s:Nat):Int):=by have:=hhere s (List.mem_of_getElem? hsj); unfold plc; omega
   have hFs:=fun H q=>hFi H s q
   rw [if_neg (by omega)] at hFs
   have hjn:=sY _ j s hsj
   have hnin:memS (dn++p.fields.take j) s=false:=by
    rw [Bool.eq_false_iff]
    intro q
    have q:=memS_iff.1 q
    rcases List.mem_append.1 q with q | q
    ·exact (List.nodup_append.1 hone).2.2 s q s (List.mem_of_getElem? hsj) rfl
    ·have hd:=(List.nodup_append.1 hone).2.1
     obtain ⟨i,hi⟩:=List.mem_iff_getElem?.1 q
     rw [List.getElem?_take] at hi
     split at hi
     ·have:=(List.getElem?_inj (by omega) hd).1 (hi.trans hsj.symm); omega
     ·cases hi
   have hco:=fun H u q=>contS_any (dn++p.fields.take j) u s H q (by rw [List.length_append,List.length_take]; omega)
   rw [hnin] at hco
   refine eV (t:=decide ((j:Int) < (p.fields.length:Int))) (decide_eq_true (by omega)) ?_
   refine go0 6 [] [] ?_
   obtain ⟨b11,o12,rfl,-,c13⟩:=RS.row hrs (hsr)
   refine pQ (c13.sees (S2.trans (S8.trans S10))) ?_
   refine go0 32 [.ix b11 o12 p.fields.length cu j,.f 0 0,.cl 60 #[.slice Af fl cf,.string s] (.tuple #[Vi ((plc fs s:Nat):Int),Vi 0])] [] ?_ (ho:=(And.intro (by first | omega | (simp; omega)) (And.intro (fun H sH=>hFs _ (hfs.sees (S2.trans (S8.trans (S10.trans sH))))) (trivial))))
   refine g_callq (fun a w hJ=>hco _ _ (hJ.j.rowQ (v:=nv) (e:=9) (k:=1) (l:=pY (dn++p.fields.take j)) 1 (by kernel_rfl))) ?_; intro W14 S15
   refine kV 9 [.fix] [] ?_
   intro b16 W17 S18
   refine goa0 9 [.ap 1 0 (pY (dn++p.fields.take j)) [[.string s]]] [(71,Vi (IntKind.i64.wrap ((j:Int) + 1)),Vi ((j:Int) + 1))] ?_ (ho:=(And.intro (by constructor <;> (simp; omega)) (trivial))) (hc:=(And.intro (jJ (by omega) (by omega)) (trivial)))
   intro v70 W19 S20
   refine uQ [(0,.slice (some ⟨b3,o4,none⟩) len cap),(1,.slice Af fl cf),(24,.slice (some ⟨b3,o4,none⟩) len cap),(25,Vi (len:Int)),(26,Vi (k:Int)),(7,Vp b6),(49,.slice (some ⟨b11,o12,none⟩) p.fields.length cu),(50,Vi (p.fields.length:Int)),(5,.slice (sA v70) (sN v70) (sC v70)),(51,Vi ((j:Int) + 1))] [.box b6 [.string p.name,.slice (some ⟨b11,o12,none⟩) p.fields.length cu,Vi p.skip.op,Vi p.skip.k,Vi p.skip.n,.string p.skip.s,.string p.skip.nm,.slice Bu mu du],.row (.slice (sA v70) (sN v70) (sC v70)) 9 1 ((pY (dn++p.fields.take j))++[[.string s]])] [(b3,o4 + k * 8,[.string p.name,.slice (some ⟨b11,o12,none⟩) p.fields.length cu,Vi p.skip.op,Vi p.skip.k,Vi p.skip.n,.string p.skip.s,.string p.skip.nm,.slice Bu mu du])] ?_
   exact dV (j + 1) (fun X q=>⟨W19,.slice (sA v70) (sN v70) (sC v70),q _ _ _ _ (fY (by rw [hjn,← List.append_assoc]; simp [pY])),(S10.trans (S15.trans (S18.trans S20))),by omega⟩) (by omega)
  ·skip
   have hta:dn++p.fields.take j=dn++p.fields:=by rw [hje,List.take_length]
   rw [hta]
   rcases hskip with hz | ⟨z1,z2,z3,z4⟩
   ·obtain ⟨Bz,dz,ez⟩:=args_zero (by rw [hz]; rfl) hxa
    obtain rfl:mu=0:=by simp only [Value.slice.injEq] at ez; exact ez.2.1
    have hnv:=fun H=>never_yes p.name Au p.fields.length cu Bu du H
    refine qQ (t:=decide ((j:Int) < (p.fields.length:Int))) (decide_eq_false (by omega)) ?_
    refine go0 2 [] [] ?_
    refine vQ ?_
    refine go0 18 [.b 0 0,.cl 163 #[.agg #[.string p.name,.slice Au p.fields.length cu,Vi p.skip.op,Vi p.skip.k,Vi p.skip.n,.string p.skip.s,.string p.skip.nm,.slice Bu 0 du]] (.bool true)] [(81,Vi (IntKind.i64.wrap ((k:Int) + 1)),Vi ((k:Int) + 1))] ?_ (ho:=(And.intro (fun H sH=>by rw [hz]; exact hnv _) (trivial))) (hc:=(And.intro (jJ (by omega) (by omega)) (trivial)))
    refine uQ [(0,.slice (some ⟨b3,o4,none⟩) len cap),(1,.slice Af fl cf),(24,.slice (some ⟨b3,o4,none⟩) len cap),(25,Vi (len:Int)),(5,nv),(26,Vi ((k:Int) + 1))] [.row nv 9 1 (pY (dn++p.fields))] [] ?_
    exact dV (k + 1) (fun X q=>⟨W9,nv,q _ _ _ _ (fY (by rw [hsn]; try rfl)),(S2.trans (S8.trans S10)),by omega⟩) (by omega)
   ·skip
    have hnv:=fun H=>never_no p.name p.skip Au p.fields.length cu Bu mu du H z1
    have hft:=fun H q1 q2=>fits_any fs p.skip (.slice Bu mu du) (.slice Af fl cf) 2 H q1 z2 z3 q2
    rw [z4] at hft
    refine qQ (t:=decide ((j:Int) < (p.fields.length:Int))) (decide_eq_false (by omega)) ?_
    refine go0 2 [] [] ?_
    refine vQ ?_
    refine go0 35 [.b 0 0,.cl 163 #[.agg #[.string p.name,.slice Au p.fields.length cu,Vi p.skip.op,Vi p.skip.k,Vi p.skip.n,.string p.skip.s,.string p.skip.nm,.slice Bu mu du]] (.bool false),.b 0 2,.cl 164 #[.agg #[Vi p.skip.op,Vi p.skip.k,Vi p.skip.n,.string p.skip.s,.string p.skip.nm,.slice Bu mu du],.slice Af fl cf,Vi 2] (Vi 0)] [(81,Vi (IntKind.i64.wrap ((k:Int) + 1)),Vi ((k:Int) + 1))] ?_ (ho:=(And.intro (fun H sH=>hnv _) (And.intro (fun H sH=>hft _ (hxa.sees (S2.trans (S8.trans (S10.trans sH)))) (hfs.sees (S2.trans (S8.trans (S10.trans sH))))) (trivial)))) (hc:=(And.intro (jJ (by omega) (by omega)) (trivial)))
    refine uQ [(0,.slice (some ⟨b3,o4,none⟩) len cap),(1,.slice Af fl cf),(24,.slice (some ⟨b3,o4,none⟩) len cap),(25,Vi (len:Int)),(5,nv),(26,Vi ((k:Int) + 1))] [.row nv 9 1 (pY (dn++p.fields))] [] ?_
    exact dV (k + 1) (fun X q=>⟨W9,nv,q _ _ _ _ (fY (by rw [hsn]; try rfl)),(S2.trans (S8.trans S10)),by omega⟩) (by omega)
 ·skip
  refine qQ (t:=decide ((k:Int) < (len:Int))) (decide_eq_false (by omega)) ?_
  refine go0 2 [] [] ?_
  refine vQ ?_
  refine go0 8 [] [] ?_
  refine hQ.to [Vi 0] (fun H sH=>?_)
  exact rfl
end Go.Proofs.YtmoahpojchndiaaGreat
namespace Go.Proofs.YtmoahpojchndiaaGreat
open Go.RowKit
set_option linter.unusedVariables false
structure OkFm (f:Fm) (ρ:List Int) (lv:Nat→Nat):Prop where
 fields:OkFs f.fields
 pages:OkGs f.fields f.pages
 rank:Ranked (fW f.fields) ρ lv
theorem shCheck_any (f:Fm) (ρ:List Int) (lv:Nat→Nat) (A:Option Addr) (n c:Nat) (B:Option Addr) (m d:Nat) (h:Vw) (hok:OkFm f ρ lv) (hf:IsForm h (.slice A n c) (.slice B m d) f) (hn:n=f.fields.length) :
  C0 Tryz.prog 83 #[.agg #[.slice A n c,.slice B m d]] h (fun r _=>r=.int .i64 0):=by
 have hR:=fun H q=>rankOf_any f.fields (.slice A n c) H hok.fields q ρ lv hok.rank
 have few:=hok.fields.few
 have hP:=fun H q1 q2=>pgCheck_any f.fields (.slice A n c) f.pages (.slice B m d) H hok.pages q1 q2 (by omega)
 rw [← hn] at hR
 refine oQ Tryz.func83 (c:=Tryz.f83.body.getD .skip) (N:=21) ?_
 intro hbx hbad Q hQ
 refine go1 11 [.own,.b 0 0] [] ?_
 intro b1
 refine lQ (fun H sH=>hR _ ((hf.sees sH)).fields) ?_; rintro _ W2 S3 ⟨b,rfl,hro⟩
 refine go0 24 [.b 0 1,.b 0 0] [] ?_
 refine go0 5 [.cl 125 #[.slice B m d,.slice A n c] (Vi 0)] [] ?_ (ho:=(And.intro (fun H sH=>hP _ ((hf.sees (S3.trans sH))).pages ((hf.sees (S3.trans sH))).fields) (trivial)))
 refine hQ.to [Vi 0] (fun H sH=>?_)
 exact rfl
end Go.Proofs.YtmoahpojchndiaaGreat
namespace Go.Proofs.YtmoahpojchndiaaGreat
open Go.RowKit
set_option linter.unusedVariables false
theorem known_no (v:Vl) (h:Vw) (hk:¬ v.k≤3) (h1:1≤v.k):C0 Tryz.prog 68 #[v.val] h (fun r _=>r=.bool false):=by
 refine oQ Tryz.func68 (c:=Tryz.f68.body.getD .skip) (N:=16) ?_
 intro hbx hbad Q hQ
 refine go1 25 [.own,.b 0 0,.b 0 0] [(5,.bool (decide (v.k ≥ 1)),.bool true),(9,.bool (decide (v.k≤3)),.bool false)] ?_ (hc:=(And.intro (congrArg Value.bool (decide_eq_true h1)) (And.intro (congrArg Value.bool (decide_eq_false hk)) (trivial))))
 intro b1
 refine hQ.to [.bool false] (fun H sH=>?_)
 exact rfl
theorem chk_deep {x:Ex} (h:chkE x=0):(szE x).2≤12:=by
 unfold chkE at h
 split at h
 ·cases h
 ·split at h
  ·cases h
  ·omega
theorem asked_no (l:List Aw) (A:Option Addr) (n c:Nat) (s:ByteArray) (key:Vl) (h:Vw) (h4:¬ key.k≤3) (h1:1≤key.k):C0 Tryz.prog 112 #[.slice A n c,.string s,.agg #[.int .i64 key.k,.int .i64 key.n,.string key.s]] h (fun r _=>r=(askV l s key).val):=by
 have e:askV l s key=key:=by unfold askV; rw [if_neg h4]
 rw [e]
 have hk:=fun H=>known_no key H h4 h1
 refine oQ Tryz.func112 (c:=Tryz.f112.body.getD .skip) (N:=33) ?_
 intro hbx hbad Q hQ
 refine go2 23 [.own,.own,.b 1 0,.cl 68 #[.agg #[Vi key.k,Vi key.n,.string key.s]] (.bool false),.b 1 0,.b 0 0] [] ?_ (ho:=(And.intro (fun H sH=>hk _) (trivial)))
 intro b1 b2
 refine hQ.to [.agg #[Vi key.k,Vi key.n,.string key.s]] (fun H sH=>?_) (ix:=[0])
 exact rfl
theorem asked_yes (l:List Aw) (sl:Value) (s:ByteArray) (key:Vl) (h:Vw) (hr:RS h 7 sl (anRows l)) (hl:l.length≤1000000) (hk:key.known):C0 Tryz.prog 112 #[sl,.string s,.agg #[.int .i64 key.k,.int .i64 key.n,.string key.s]] h (fun r _=>r=(askV l s key).val):=by
 have e:askV l s key=askL s key l:=by unfold askV; rw [if_pos (known_kind hk).2]
 rw [e]
 have hkn:=c_kn key.k key.n key.s
 obtain ⟨A,c,rfl,-,-,-⟩:=hr.form
 rw [List.length_map] at *
 generalize hL:l.length=n at *
 refine oQ Tryz.func112 (c:=Tryz.f112.body.getD .skip) (N:=33) ?_
 intro hbx hbad Q hQ
 refine go2 26 [.own,.own,.b 1 0,.cl 68 #[.agg #[Vi key.k,Vi key.n,.string key.s]] (.bool true)] [] ?_ (ho:=(And.intro (fun H sH=>hkn _ hk) (trivial)))
 intro b1 b2
 refine wQ [0,1,0,1,1] [.block 0,.seq [1,1,1]] (fun (k:Nat) X=>∃ (W3:Vw) ,X W3 [(1,.string s),(5,Vp b1),(6,Vp b2),(13,.slice A n c),(14,Vi (n:Int)),(15,Vi (k:Int))] [.box b2 [Vi 0,Vi 0,Ve],.box b1 [Vi key.k,Vi key.n,.string key.s]] []∧Sees h W3∧(k≤n)∧(askL s key (l.drop k)=askL s key l)) (fun k=>n - k) (0) (fun X q=>⟨h,q _ _ _ _ ⟨rfl,by kernel_rfl⟩,Sees.refl _,Nat.zero_le _,rfl⟩) ?_
 rintro k a w ⟨W3,hJ,S4,hkl,hv⟩; refine aV hJ ?_; clear hJ a w
 refine go0 6 [] [] ?_
 rcases (by omega:k < n∨k=n) with hlt | hke
 ·obtain ⟨p,hp⟩:∃ p,l[k]?=some p:=⟨_,List.getElem?_eq_getElem (by omega)⟩
  have hrow:(anRows l)[k]?=some (anRow p):=by rw [List.getElem?_map,hp]; rfl
  have hdr:l.drop k=p :: l.drop (k + 1):=by
   obtain ⟨h1,h2⟩:=List.getElem?_eq_some_iff.1 hp
   rw [List.drop_eq_getElem_cons h1,h2]
  rw [hdr,askL] at hv
  refine eV (t:=decide ((k:Int) < (n:Int))) (decide_eq_true (by omega)) ?_
  refine go0 6 [] [] ?_
  obtain ⟨b5,o6,rfl,-,c7⟩:=RS.row hr (hrow)
  refine pQ (c7.sees S4) ?_
  refine go1 13 [.ix b5 o6 n c k,.f 0 0,.own,.b 0 0,.b 0 0] [] ?_ (ho:=(And.intro (by first | omega | (simp; omega)) (trivial)))
  intro b8
  by_cases g:(p.nm.toList == s.toList)=true
  ·skip
   by_cases q:eqB p.key key=true
   ·have hh:p.hit s key=true:=by unfold Aw.hit; rw [g,q]; rfl
    rw [if_pos hh] at hv
    refine g_rew 23 (v:=.bool (p.nm.toList == s.toList)) (v':=.bool true) (congrArg Value.bool g) ?_
    refine go0 3 [.b 0 1,.b 2 0] [] ?_
    refine g_pure (.bool true) (fun w=>run_eqop (x:=(.tmp 25)) (y:=(.tmp 26)) (v:=p.key) (w:=key) (by kernel_rfl) (by kernel_rfl) (by kernel_rfl) (q)) ?_
    refine go0 14 [.b 0 4,.b 1 0] [] ?_
    refine vQ ?_
    refine go0 2 [] [] ?_
    refine hQ.to [.agg #[Vi p.has.k,Vi p.has.n,.string p.has.s]] (fun H sH=>?_) (ix:=[1])
    exact congrArg Vl.val hv
   ·skip
    have hh:¬ p.hit s key=true:=by unfold Aw.hit; rw [g]; exact q
    rw [if_neg hh] at hv
    refine g_rew 23 (v:=.bool (p.nm.toList == s.toList)) (v':=.bool true) (congrArg Value.bool g) ?_
    refine go0 3 [.b 0 1,.b 2 0] [] ?_
    refine g_pure (.bool false) (fun w=>run_eqop (x:=(.tmp 25)) (y:=(.tmp 26)) (v:=p.key) (w:=key) (by kernel_rfl) (by kernel_rfl) (by kernel_rfl) (Bool.eq_false_iff.2 q)) ?_
    refine go0 11 [] [(31,Vi (IntKind.i64.wrap ((k:Int) + 1)),Vi ((k:Int) + 1))] ?_ (hc:=(And.intro (jJ (by omega) (by omega)) (trivial)))
    exact dV (k + 1) (fun X q=>⟨W3,q _ _ _ _ ⟨rfl,by kernel_rfl⟩,S4,by omega,hv⟩) (by omega)
  ·skip
   have hh:¬ p.hit s key=true:=by unfold Aw.hit; rw [Bool.eq_false_iff.2 g]; exact Bool.false_ne_true
   rw [if_neg hh] at hv
   refine g_rew 23 (v:=.bool (p.nm.toList == s.toList)) (v':=.bool false) (congrArg Value.bool (Bool.eq_false_iff.2 g)) ?_
   refine go0 15 [] [(31,Vi (IntKind.i64.wrap ((k:Int) + 1)),Vi ((k:Int) + 1))] ?_ (hc:=(And.intro (jJ (by omega) (by omega)) (trivial)))
   exact dV (k + 1) (fun X q=>⟨W3,q _ _ _ _ ⟨rfl,by kernel_rfl⟩,S4,by omega,hv⟩) (by omega)
 ·skip
  have hd:l.drop k=[]:=List.drop_eq_nil_of_le (by omega)
  rw [hd] at hv
  refine qQ (t:=decide ((k:Int) < (n:Int))) (decide_eq_false (by omega)) ?_
  refine go0 2 [] [] ?_
  refine vQ ?_
  refine go0 9 [.b 0 0] [] ?_
  refine hQ.to [.agg #[Vi 4,Vi 0,Ve]] (fun H sH=>?_) (ix:=[0])
  exact congrArg Vl.val hv
theorem asked_any (l:List Aw) (sl:Value) (s:ByteArray) (key:Vl) (h:Vw) (hr:RS h 7 sl (anRows l)) (hl:l.length≤1000000) (hk:OkV key):C0 Tryz.prog 112 #[sl,.string s,.agg #[.int .i64 key.k,.int .i64 key.n,.string key.s]] h (fun r _=>r=(askV l s key).val):=by
 by_cases g:key.k≤3
 ·rcases hk with q | rfl | ⟨q,-⟩
  ·exact asked_yes l sl s key h hr hl q
  ·exact absurd g (by decide)
  ·omega
 ·obtain ⟨A,c,rfl,-,-,-⟩:=hr.form
  exact asked_no l A _ c s key h g (ok_kinds hk).1
set_option maxHeartbeats 4000000 in
theorem one_inp (f:Fd) (n1 n2 n3 c1 c2 c3:Nat) (A1 A2 A3:Option Addr) (inp:Env) (si:Value) (h:Vw) (hi:RS h 7 si (yK inp)) (li:inp.length≤1000000) (g:f.kind=1) :
  C0 Tryz.prog 73 #[.agg #[.string f.name,.int .i64 f.kind,.int .i64 f.ty,.int .i64 f.src.op,.int .i64 f.src.k,.int .i64 f.src.n,.string f.src.s,.string f.src.nm,.slice A1 n1 c1],si,.slice A2 n2 c2,.slice A3 n3 c3] h (fun r _=>r=(tellV f.name f.ty inp).val):=by
 obtain ⟨A,c,rfl,-,-,-⟩:=hi.form
 rw [List.length_map] at *
 generalize hL:inp.length=n at *
 refine oQ Tryz.func73 (c:=Tryz.f73.body.getD .skip) (N:=49) ?_
 intro hbx hbad Q hQ
 refine go2 24 [.own,.own,.b 1 1] [(15,.bool (f.kind == 1),.bool true)] ?_ (hc:=(And.intro (congrArg Value.bool (beq_iff_eq.2 g)) (trivial)))
 intro b1 b2
 refine wQ [0,1,0,0,1,0,1] [.block 0,.seq [1,0,1,0,1],.seq [1,1]] (fun (k:Nat) X=>∃ (W3:Vw) ,X W3 [(4,Vp b1),(8,Vp b2),(16,.slice A n c),(17,Vi (n:Int)),(18,Vi (k:Int))] [.box b2 [Vi 0,Vi 0,Ve],.box b1 [.string f.name,Vi f.kind,Vi f.ty,Vi f.src.op,Vi f.src.k,Vi f.src.n,.string f.src.s,.string f.src.nm,.slice A1 n1 c1]] []∧Sees h W3∧(k≤n)∧(tellV f.name f.ty (inp.drop k)=tellV f.name f.ty inp)) (fun k=>n - k) (0) (fun X q=>⟨h,q _ _ _ _ ⟨rfl,by kernel_rfl⟩,Sees.refl _,Nat.zero_le _,rfl⟩) ?_
 rintro k a w ⟨W3,hJ,S4,hkl,hv⟩; refine aV hJ ?_; clear hJ a w
 refine go0 6 [] [] ?_
 rcases (by omega:k < n∨k=n) with hlt | hke
 ·obtain ⟨p,hp⟩:∃ p,inp[k]?=some p:=⟨_,List.getElem?_eq_getElem (by omega)⟩
  have hrow:(yK inp)[k]?=some (fcRow p):=by rw [List.getElem?_map,hp]; rfl
  have hdr:inp.drop k=p :: inp.drop (k + 1):=by
   obtain ⟨h1,h2⟩:=List.getElem?_eq_some_iff.1 hp
   rw [List.drop_eq_getElem_cons h1,h2]
  rw [hdr,tellV] at hv
  refine eV (t:=decide ((k:Int) < (n:Int))) (decide_eq_true (by omega)) ?_
  refine go0 6 [] [] ?_
  obtain ⟨b5,o6,rfl,-,c7⟩:=RS.row hi (hrow)
  refine pQ (c7.sees S4) ?_
  refine go1 15 [.ix b5 o6 n c k,.f 0 0,.own,.b 0 0,.b 0 0,.b 2 0] [] ?_ (ho:=(And.intro (by first | omega | (simp; omega)) (trivial)))
  intro b8
  by_cases q:(p.1.toList == f.name.toList)=true
  ·rw [if_pos q] at hv
   refine eV (t:=p.1.toList == f.name.toList) (q) ?_
   refine go0 10 [.b 0 4,.b 1 0] [] ?_
   refine vQ ?_
   refine go0 3 [] [] ?_
   refine hQ.to [.agg #[Vi p.2.k,Vi p.2.n,.string p.2.s]] (fun H sH=>?_) (ix:=[1])
   exact congrArg Vl.val hv
  ·skip
   rw [if_neg q] at hv
   refine qQ (t:=p.1.toList == f.name.toList) (Bool.eq_false_iff.2 q) ?_
   refine go0 7 [] [(29,Vi (IntKind.i64.wrap ((k:Int) + 1)),Vi ((k:Int) + 1))] ?_ (hc:=(And.intro (jJ (by omega) (by omega)) (trivial)))
   exact dV (k + 1) (fun X q=>⟨W3,q _ _ _ _ ⟨rfl,by kernel_rfl⟩,S4,by omega,hv⟩) (by omega)
 ·skip
  have hd:inp.drop k=[]:=List.drop_eq_nil_of_le (by omega)
  rw [hd] at hv
  refine qQ (t:=decide ((k:Int) < (n:Int))) (decide_eq_false (by omega)) ?_
  refine go0 2 [] [] ?_
  refine vQ ?_
  refine go0 12 [.b 1 2,.b 0 0] [] ?_
  refine hQ.to [.agg #[Vi f.ty,Vi 0,Ve]] (fun H sH=>?_) (ix:=[0])
  exact congrArg Vl.val hv
theorem one_wf (f:Fd) (v:Value) (inp:Env) (si:Value) (orc:List Aw) (so:Value) (kn:Env) (sk:Value) (h:Vw) (hf:f.kind≠1→WfE f.src∧(szE f.src).1≤60∧chkE f.src=0) (ha:IsArgs h f.src v) (hi:RS h 7 si (yK inp)) (ho:RS h 7 so (anRows orc)) (hk:RS h 7 sk (yK kn))
  (li:inp.length≤1000) (lo:orc.length≤1000) (lk:kn.length≤1000) (okk:∀ p∈kn,OkV p.2) :
  C0 Tryz.prog 73 #[.agg #[.string f.name,.int .i64 f.kind,.int .i64 f.ty,.int .i64 f.src.op,.int .i64 f.src.k,.int .i64 f.src.n,.string f.src.s,.string f.src.nm,v],si,so,sk] h (fun r _=>r=(nW f inp orc kn).val):=by
 obtain ⟨A1,n1,c1,rfl⟩:=ha.slice
 obtain ⟨A2,c2,rfl,-,-,-⟩:=ho.form
 obtain ⟨A3,c3,rfl,-,-,-⟩:=hk.form
 rw [List.length_map] at *
 rw [List.length_map] at *
 by_cases g:f.kind=1
 ·have e:nW f inp orc kn=tellV f.name f.ty inp:=by unfold nW; rw [if_pos g]
  rw [e]
  exact one_inp f _ _ _ _ _ _ _ _ _ inp si h hi (by omega) g
 ·obtain ⟨w1,w2,w3⟩:=hf g
  have w4:(szE f.src).2≤12:=chk_deep w3
  have hE:=fun H q1 q2=>eval_any f.src (.slice A1 n1 c1) kn (.slice A3 kn.length c3) H q1 w1 w2 w4 q2 okk lk
  have hv:=evalE_ok (get_ok okk) _ f.src (Nat.le_refl _) w1
  have hA:=fun H q=>asked_any orc (.slice A2 orc.length c2) f.name (nK kn f.src) H q (by omega) hv
  obtain ⟨A,c,rfl,-,-,-⟩:=hi.form
  rw [List.length_map] at *
  generalize inp.length=n at *
  have e:nW f inp orc kn=if f.kind=3 then askV orc f.name (nK kn f.src) else nK kn f.src:=by unfold nW; rw [if_neg g]
  rw [e]
  generalize nK kn f.src=key at *
  generalize askV orc f.name key=av at *
  generalize orc.length=n2 at *
  generalize kn.length=n3 at *
  by_cases g3:f.kind=3
  ·rw [if_pos g3]
   refine oQ Tryz.func73 (c:=Tryz.f73.body.getD .skip) (N:=49) ?_
   intro hbx hbad Q hQ
   refine go3 52 [.own,.own,.b 1 1,.b 1 3,.cl 66 #[.agg #[Vi f.src.op,Vi f.src.k,Vi f.src.n,.string f.src.s,.string f.src.nm,.slice A1 n1 c1],.slice A3 n3 c3] (.tuple #[.agg #[Vi key.k,Vi key.n,.string key.s],Vi 0]),.own,.b 0 0,.b 2 1,.b 2 0,.b 0 0,.cl 112 #[.slice A2 n2 c2,.string f.name,.agg #[Vi key.k,Vi key.n,.string key.s]] (.agg #[Vi av.k,Vi av.n,.string av.s]),.b 1 0] [(15,.bool (f.kind == 1),.bool false),(42,.bool (f.kind == 3),.bool true)] ?_ (ho:=(And.intro (fun H sH=>hE _ (ha.sees sH) (hk.sees sH)) (And.intro (fun H sH=>hA _ (ho.sees sH)) (trivial)))) (hc:=(And.intro (congrArg Value.bool (beq_eq_false_iff_ne.2 g)) (And.intro (congrArg Value.bool (beq_iff_eq.2 g3)) (trivial))))
   intro b1 b2 b3
   refine hQ.to [.agg #[Vi av.k,Vi av.n,.string av.s]] (fun H sH=>?_) (ix:=[1])
   exact rfl
  ·rw [if_neg g3]
   refine oQ Tryz.func73 (c:=Tryz.f73.body.getD .skip) (N:=49) ?_
   intro hbx hbad Q hQ
   refine go3 49 [.own,.own,.b 1 1,.b 1 3,.cl 66 #[.agg #[Vi f.src.op,Vi f.src.k,Vi f.src.n,.string f.src.s,.string f.src.nm,.slice A1 n1 c1],.slice A3 n3 c3] (.tuple #[.agg #[Vi key.k,Vi key.n,.string key.s],Vi 0]),.own,.b 0 0,.b 2 1,.b 0 0,.b 1 0] [(15,.bool (f.kind == 1),.bool false),(42,.bool (f.kind == 3),.bool false)] ?_ (ho:=(And.intro (fun H sH=>hE _ (ha.sees sH) (hk.sees sH)) (trivial))) (hc:=(And.intro (congrArg Value.bool (beq_eq_false_iff_ne.2 g)) (And.intro (congrArg Value.bool (beq_eq_false_iff_ne.2 g3)) (trivial))))
   intro b1 b2 b3
   refine hQ.to [.agg #[Vi key.k,Vi key.n,.string key.s]] (fun H sH=>?_) (ix:=[1])
   exact rfl
theorem one_any (fs:List Fd) (f:Fd) (v:Value) (inp:Env) (si:Value) (orc:List Aw) (so:Value) (kn:Env) (sk:Value) (h:Vw) (hf:OkF fs f) (ha:IsArgs h f.src v) (hi:RS h 7 si (yK inp)) (ho:RS h 7 so (anRows orc)) (hk:RS h 7 sk (yK kn))
  (li:inp.length≤1000) (lo:orc.length≤1000) (lk:kn.length≤1000) (okk:∀ p∈kn,OkV p.2) :
  C0 Tryz.prog 73 #[.agg #[.string f.name,.int .i64 f.kind,.int .i64 f.ty,.int .i64 f.src.op,.int .i64 f.src.k,.int .i64 f.src.n,.string f.src.s,.string f.src.nm,v],si,so,sk] h (fun r _=>r=(nW f inp orc kn).val):=one_wf f v inp si orc so kn sk h hf.wf ha hi ho hk li lo lk okk
end Go.Proofs.YtmoahpojchndiaaGreat
namespace Go.Proofs.YtmoahpojchndiaaGreat
open Go.RowKit
set_option linter.unusedVariables false
theorem Pol.ok.old {p:Pol} (hp:p.ok):OkPol p.t p.b p.c:=⟨hp.t1,hp.t6,hp.b1,hp.bc,hp.cm⟩
theorem c_gapChk (p:Pol) (hp:p.ok) (h:Vw):C0 Tryz.prog 84 #[.agg #[.int .i64 p.t,.int .i64 p.b,.int .i64 p.c]] h (fun r _=>r=.int .i64 0):=C0.of_gives (fun w=>gap_check p.t p.b p.c w hp.t1 hp.t6 hp.b1 hp.bc hp.cm) h
theorem chk_idle (p:Pol) (hp:p.ok) (h:Vw):C0 Tryz.prog 91 #[.agg #[.int .i64 clZ.st,.int .i64 clZ.id,.int .i64 clZ.tr,.int .i64 clZ.key.k,.int .i64 clZ.key.n,.string clZ.key.s,.int .i64 clZ.has.k,.int .i64 clZ.has.n,.string clZ.has.s,.int .i64 clZ.nx],.agg #[.int .i64 p.t,.int .i64 p.b,.int .i64 p.c]] h (fun r _=>r=.int .i64 0):=by
 have hg:=c_gapChk p hp
 refine oQ Tryz.func91 (c:=Tryz.f91.body.getD .skip) (N:=105) ?_
 intro hbx hbad Q hQ
 refine go2 67 [.own,.own,.b 0 0,.cl 84 #[.agg #[Vi p.t,Vi p.b,Vi p.c]] (Vi 0),.b 1 0,.b 1 0,.b 1 0,.b 1 0] [] ?_ (ho:=(And.intro (fun H sH=>hg _) (trivial)))
 intro b1 b2
 refine hQ.to [Vi 0] (fun H sH=>?_)
 exact rfl
theorem c_chk (p:Pol) (hp:p.ok) (c:Cl) (hc:ClOk p c) (h:Vw):C0 Tryz.prog 91 #[.agg #[.int .i64 c.st,.int .i64 c.id,.int .i64 c.tr,.int .i64 c.key.k,.int .i64 c.key.n,.string c.key.s,.int .i64 c.has.k,.int .i64 c.has.n,.string c.has.s,.int .i64 c.nx],.agg #[.int .i64 p.t,.int .i64 p.b,.int .i64 p.c]] h (fun r _=>r=.int .i64 0):=by
 rcases hc with rfl | hb
 ·exact chk_idle p hp h
 ·obtain ⟨st,id,tr,⟨kk,kn,ks⟩,has,nx⟩:=c
  obtain ⟨s1,s3,i1,i2,t1,t2,n0,n1,key,ask,knw,giv⟩:=hb
  have s1':1≤st:=s1
  have s3':st≤3:=s3
  rcases (by omega:st=1∨st=2∨st=3) with rfl | rfl | rfl
  ·obtain rfl:=ask rfl
   exact C0.of_gives (fun w=>call_check_ask p.t p.b p.c id tr kk kn nx ks w hp.old i1 i2 t1 t2 n0 n1 key) h
  ·obtain ⟨hk,rfl⟩:=knw rfl
   obtain ⟨hk1,hn1,hs1⟩:=has
   exact C0.of_gives (fun w=>call_check_known p.t p.b p.c id tr kk kn hk1 hn1 ks hs1 w hp.old i1 i2 t1 t2 key hk) h
  ·obtain ⟨rfl,rfl,e⟩:=giv rfl
   simp only at e
   subst e
   exact C0.of_gives (fun w=>call_check_given p.t p.b p.c id p.t kk kn ks w hp.old i1 i2 rfl key) h
theorem c_start (p:Pol) (hp:p.ok) (id now:Int) (key:Vl) (hk:key.known) (i1:1≤id) (i2:id≤1073741824) (n0:0≤now) (n1:now≤1073741824) (h:Vw) :
  C0 Tryz.prog 198 #[.agg #[.int .i64 p.t,.int .i64 p.b,.int .i64 p.c],.int .i64 id,.agg #[.int .i64 key.k,.int .i64 key.n,.string key.s],.int .i64 now] h (fun r _=>r=.tuple #[.agg #[.int .i64 1,.int .i64 id,.int .i64 1,.int .i64 key.k,.int .i64 key.n,.string key.s,.int .i64 0,.int .i64 0,.string ⟨#[]⟩,.int .i64 (now + p.b)],.int .i64 0]) :=
 C0.of_gives (fun w=>call_start p.t p.b p.c id key.k key.n now key.s w hp.old i1 i2 n0 n1 hk) h
theorem c_ansC (c:Cl) (h:Vw):C0 Tryz.prog 113 #[.agg #[.int .i64 c.st,.int .i64 c.id,.int .i64 c.tr,.int .i64 c.key.k,.int .i64 c.key.n,.string c.key.s,.int .i64 c.has.k,.int .i64 c.has.n,.string c.has.s,.int .i64 c.nx]] h (fun r _=>r=(ansC c).val):=by
 refine oQ Tryz.func113 (c:=Tryz.f113.body.getD .skip) (N:=13) ?_
 intro hbx hbad Q hQ
 refine go2 20 [.own,.own,.b 1 0] [] ?_
 intro b1 b2
 by_cases h2:c.st=2
 ·have e:ansC c=c.has:=by unfold ansC; rw [if_pos h2]
  refine eV (t:=c.st == 2) (beq_iff_eq.2 h2) ?_
  refine go0 10 [.b 1 6,.b 0 0] [] ?_
  refine hQ.to [.agg #[Vi c.has.k,Vi c.has.n,.string c.has.s]] (fun H sH=>?_) (ix:=[0])
  exact congrArg Vl.val e.symm
 ·skip
  refine qQ (t:=c.st == 2) (beq_eq_false_iff_ne.2 h2) ?_
  refine go0 6 [] [] ?_
  by_cases h3:c.st=3
  ·have e:ansC c=⟨5,14,⟨#[]⟩⟩:=by unfold ansC; rw [if_neg h2,if_pos h3]
   refine eV (t:=c.st == 3) (beq_iff_eq.2 h3) ?_
   refine go0 9 [.b 0 0] [] ?_
   refine hQ.to [.agg #[Vi 5,Vi 14,Ve]] (fun H sH=>?_) (ix:=[0])
   exact congrArg Vl.val e.symm
  ·skip
   have e:ansC c=pdV:=by unfold ansC; rw [if_neg h2,if_neg h3]
   refine qQ (t:=c.st == 3) (beq_eq_false_iff_ne.2 h3) ?_
   refine go0 10 [.b 0 0] [] ?_
   refine hQ.to [.agg #[Vi 4,Vi 0,Ve]] (fun H sH=>?_) (ix:=[0])
   exact congrArg Vl.val e.symm
theorem kn_dec (v:Vl) (hv:OkV v) (h:Vw):C0 Tryz.prog 68 #[.agg #[.int .i64 v.k,.int .i64 v.n,.string v.s]] h (fun r _=>r=.bool (decide (v.k≤3))):=by
 by_cases q:v.k≤3
 ·rw [decide_eq_true q]
  rcases hv with k | rfl | ⟨k,-⟩
  ·exact c_kn v.k v.n v.s h k
  ·exact absurd q (by decide)
  ·omega
 ·rw [decide_eq_false q]
  exact known_no v h q (ok_kinds hv).1
def turnR (r:Cl × Bool):Value:=.tuple #[.agg r.1.cells.toArray,.bool r.2,.int .i64 0]
theorem c_turn (p:Pol) (hp:p.ok) (c:Cl) (hc:ClOk p c) (id now:Int) (key:Vl) (hk:OkV key) (i1:1≤id) (i2:id≤1073741824) (n0:0≤now) (n1:now≤1073741824) (h:Vw) :
  C0 Tryz.prog 165 #[.agg #[.int .i64 c.st,.int .i64 c.id,.int .i64 c.tr,.int .i64 c.key.k,.int .i64 c.key.n,.string c.key.s,.int .i64 c.has.k,.int .i64 c.has.n,.string c.has.s,.int .i64 c.nx],.agg #[.int .i64 p.t,.int .i64 p.b,.int .i64 p.c],.int .i64 id,.agg #[.int .i64 key.k,.int .i64 key.n,.string key.s],.int .i64 now] h (fun r _=>r=turnR (vY p id now key c)):=by
 have hg:=c_chk p hp c hc
 have hv:=fun H=>check_okv key H hk
 have hd:=kn_dec key hk
 by_cases q:key.k≤3
 ·have kn:key.known:=by
   rcases hk with k | rfl | ⟨k,-⟩
   ·exact k
   ·exact absurd q (by decide)
   ·omega
  have hs:=c_start p hp id now key kn i1 i2 n0 n1
  rw [decide_eq_true q] at hd
  refine oQ Tryz.func165 (c:=Tryz.f165.body.getD .skip) (N:=57) ?_
  intro hbx hbad Q hQ
  refine go3 5 [.own,.own,.own] [] ?_
  intro b1 b2 b3
  refine go1 58 [.own,.b 3 0,.b 2 0,.cl 91 #[.agg #[Vi c.st,Vi c.id,Vi c.tr,Vi c.key.k,Vi c.key.n,.string c.key.s,Vi c.has.k,Vi c.has.n,.string c.has.s,Vi c.nx],.agg #[Vi p.t,Vi p.b,Vi p.c]] (Vi 0),.b 1 0,.cl 89 #[.agg #[Vi key.k,Vi key.n,.string key.s]] (Vi 0),.b 1 0,.cl 68 #[.agg #[Vi key.k,Vi key.n,.string key.s]] (.bool true),.b 3 0] [] ?_ (ho:=(And.intro (fun H sH=>hg _) (And.intro (fun H sH=>hv _) (And.intro (fun H sH=>hd _) (trivial)))))
  intro b4
  by_cases s0:c.st=0
  ·have e:=turn_new (p:=p) (id:=id) (now:=now) q (fun (k:c.st≠0∧eqB c.key key=true)=>k.1 s0)
   refine g_rew 37 (v:=.bool (c.st != 0)) (v':=.bool false) (congrArg Value.bool (bne_eq_false_iff_eq.2 s0)) ?_
   refine go0 16 [.b 2 0,.b 1 0] [] ?_
   refine lQ (fun H sH=>hs _) ?_; rintro _ W5 S6 rfl
   refine go1 27 [.own,.b 0 0,.b 0 0,.b 1 0] [] ?_
   intro b7
   refine hQ.to [.agg #[Vi 1,Vi id,Vi 1,Vi key.k,Vi key.n,.string key.s,Vi 0,Vi 0,Ve,Vi (now + p.b)],.bool true,Vi 0] (fun H sH=>?_) (ix:=[1])
   exact congrArg turnR e.symm
  ·skip
   refine g_rew 37 (v:=.bool (c.st != 0)) (v':=.bool true) (congrArg Value.bool (bne_iff_ne.2 s0)) ?_
   by_cases e:eqB c.key key=true
   ·have e':=wY (p:=p) (id:=id) (now:=now) q s0 e
    refine go0 3 [.b 3 3,.b 1 0] [] ?_
    refine g_pure (.bool true) (fun w=>run_eqop (x:=(.tmp 39)) (y:=(.tmp 40)) (v:=c.key) (w:=key) (by kernel_rfl) (by kernel_rfl) (by kernel_rfl) (e)) ?_
    refine go0 14 [.b 3 0,.b 0 0] [] ?_
    refine hQ.to [.agg #[Vi c.st,Vi c.id,Vi c.tr,Vi c.key.k,Vi c.key.n,.string c.key.s,Vi c.has.k,Vi c.has.n,.string c.has.s,Vi c.nx],.bool false,Vi 0] (fun H sH=>?_) (ix:=[0])
    exact congrArg turnR e'.symm
   ·skip
    have e':=turn_new (p:=p) (id:=id) (now:=now) q (fun (k:c.st≠0∧eqB c.key key=true)=>e k.2)
    refine go0 3 [.b 3 3,.b 1 0] [] ?_
    refine g_pure (.bool false) (fun w=>run_eqop (x:=(.tmp 39)) (y:=(.tmp 40)) (v:=c.key) (w:=key) (by kernel_rfl) (by kernel_rfl) (by kernel_rfl) (Bool.eq_false_iff.2 e)) ?_
    refine go0 12 [.b 2 0,.b 1 0] [] ?_
    refine lQ (fun H sH=>hs _) ?_; rintro _ W8 S9 rfl
    refine go1 27 [.own,.b 0 0,.b 0 0,.b 1 0] [] ?_
    intro b10
    refine hQ.to [.agg #[Vi 1,Vi id,Vi 1,Vi key.k,Vi key.n,.string key.s,Vi 0,Vi 0,Ve,Vi (now + p.b)],.bool true,Vi 0] (fun H sH=>?_) (ix:=[1])
    exact congrArg turnR e'.symm
 ·have e:=turn_no (p:=p) (id:=id) (now:=now) (c:=c) q
  rw [decide_eq_false q] at hd
  refine oQ Tryz.func165 (c:=Tryz.f165.body.getD .skip) (N:=57) ?_
  intro hbx hbad Q hQ
  refine go3 5 [.own,.own,.own] [] ?_
  intro b1 b2 b3
  refine go1 59 [.own,.b 3 0,.b 2 0,.cl 91 #[.agg #[Vi c.st,Vi c.id,Vi c.tr,Vi c.key.k,Vi c.key.n,.string c.key.s,Vi c.has.k,Vi c.has.n,.string c.has.s,Vi c.nx],.agg #[Vi p.t,Vi p.b,Vi p.c]] (Vi 0),.b 1 0,.cl 89 #[.agg #[Vi key.k,Vi key.n,.string key.s]] (Vi 0),.b 1 0,.cl 68 #[.agg #[Vi key.k,Vi key.n,.string key.s]] (.bool false),.b 0 0] [] ?_ (ho:=(And.intro (fun H sH=>hg _) (And.intro (fun H sH=>hv _) (And.intro (fun H sH=>hd _) (trivial)))))
  intro b4
  refine hQ.to [.agg #[Vi 0,Vi 0,Vi 0,Vi 0,Vi 0,Ve,Vi 0,Vi 0,Ve,Vi 0],.bool false,Vi 0] (fun H sH=>?_) (ix:=[0])
  exact congrArg turnR e.symm
theorem c_letter (nm:ByteArray) (c:Cl) (h1:c.st=1) (h:Vw):C0 Tryz.prog 93 #[.string nm,.agg #[.int .i64 c.st,.int .i64 c.id,.int .i64 c.tr,.int .i64 c.key.k,.int .i64 c.key.n,.string c.key.s,.int .i64 c.has.k,.int .i64 c.has.n,.string c.has.s,.int .i64 c.nx]] h (fun r _=>r=.tuple #[.agg (ltOf nm c).cells.toArray,.int .i64 0]):=by
 refine oQ Tryz.func93 (c:=Tryz.f93.body.getD .skip) (N:=16) ?_
 intro hbx hbad Q hQ
 refine go2 31 [.own,.own,.b 1 0,.b 1 1,.b 1 3,.b 0 0] [(8,.bool (c.st != 1),.bool false)] ?_ (hc:=(And.intro (congrArg Value.bool (bne_eq_false_iff_eq.2 h1)) (trivial)))
 intro b1 b2
 refine hQ.to [.agg #[.string nm,Vi c.id,Vi c.key.k,Vi c.key.n,.string c.key.s,Vi 0,Vi 0,Ve],Vi 0] (fun H sH=>?_) (ix:=[0])
 exact rfl
end Go.Proofs.YtmoahpojchndiaaGreat
namespace Go.Proofs.YtmoahpojchndiaaGreat
open Go.RowKit
set_option linter.unusedVariables false
def yY (p:Pol) (now:Int) (c:Cl):Cl × Bool :=
 if c.st≠1∨now < c.nx then (c,false) else if c.tr=p.t then (⟨3,c.id,c.tr,c.key,c.has,0⟩,false) else (⟨c.st,c.id,c.tr + 1,c.key,c.has,now + gapV p.b p.c (c.tr + 1)⟩,true)
theorem aZ {p:Pol} {now:Int} {c:Cl} (h:c.st≠1∨now < c.nx):yY p now c=(c,false):=by unfold yY; rw [if_pos h]
theorem wake_gives {p:Pol} {now:Int} {c:Cl} (h:¬ (c.st≠1∨now < c.nx)) (h2:c.tr=p.t):yY p now c=(⟨3,c.id,c.tr,c.key,c.has,0⟩,false):=by unfold yY; rw [if_neg h,if_pos h2]
theorem wake_again {p:Pol} {now:Int} {c:Cl} (h:¬ (c.st≠1∨now < c.nx)) (h2:c.tr≠p.t):yY p now c=(⟨c.st,c.id,c.tr + 1,c.key,c.has,now + gapV p.b p.c (c.tr + 1)⟩,true):=by unfold yY; rw [if_neg h,if_neg h2]
theorem wake_ok {p:Pol} (hp:p.ok) {now:Int} {c:Cl} (hc:ClOk p c) (n0:0≤now) (n1:now≤1073741824):ClOk p (yY p now c).1∧(yY p now c).1.id=c.id∧((yY p now c).1.st≠0→c.st≠0)∧((yY p now c).1.st=2→(yY p now c).1=c)∧(yY p now c).1.key=c.key:=by
 by_cases h:c.st≠1∨now < c.nx
 ·rw [aZ h]; exact ⟨hc,rfl,id,fun _=>rfl,rfl⟩
 ·have h1:c.st=1:=by omega
  have hb:=hc.live (by omega)
  obtain ⟨s1,s3,i1,i2,t1,t2,m0,m1,key,ask,knw,giv⟩:=hb
  by_cases h2:c.tr=p.t
  ·rw [wake_gives h h2]
   exact ⟨.inr ⟨by show (1:Int)≤3; decide,by show (3:Int)≤3; decide,i1,i2,t1,t2,Int.le_refl 0,by show (0:Int)≤_; decide,key,fun q=>absurd (show (3:Int)=1 from q) (by decide),fun q=>absurd (show (3:Int)=2 from q) (by decide),fun _=>⟨ask h1,rfl,h2⟩⟩,rfl,fun _=>by omega,fun q=>absurd (show (3:Int)=2 from q) (by decide),rfl⟩
  ·rw [wake_again h h2]
   have g0:=gapV_lo (b:=p.b) (c:=p.c) (n:=c.tr + 1) hp.b1 hp.bc hp.cm (by omega) (by have:=hp.t6; omega)
   have g1:=gapV_hi (b:=p.b) (c:=p.c) (n:=c.tr + 1)
   have:=hp.cm
   exact ⟨.inr ⟨s1,s3,i1,i2,by show 1≤c.tr + 1; omega,by show c.tr + 1≤p.t; omega,by show 0≤now + _; omega,by show now + _≤1073742824; omega,key,ask,fun q=>absurd (h1.symm.trans q) (by decide),fun q=>absurd (h1.symm.trans q) (by decide)⟩,rfl,fun _=>by omega,fun q=>absurd (h1.symm.trans (show c.st=2 from q)) (by decide),rfl⟩
def wakeR (r:Cl × Bool):Value:=.tuple #[.agg r.1.cells.toArray,.bool r.2,.int .i64 0]
theorem c_wake (p:Pol) (hp:p.ok) (c:Cl) (hc:ClOk p c) (now:Int) (n0:0≤now) (n1:now≤1073741824) (h:Vw) :
  C0 Tryz.prog 46 #[.agg #[.int .i64 c.st,.int .i64 c.id,.int .i64 c.tr,.int .i64 c.key.k,.int .i64 c.key.n,.string c.key.s,.int .i64 c.has.k,.int .i64 c.has.n,.string c.has.s,.int .i64 c.nx],.agg #[.int .i64 p.t,.int .i64 p.b,.int .i64 p.c],.int .i64 now] h (fun r _=>r=wakeR (yY p now c)):=by
 have hg:=c_chk p hp c hc
 have hgo:c.st=1→c.tr≠p.t→∀ H,C0 Tryz.prog 92 #[.agg #[.int .i64 p.t,.int .i64 p.b,.int .i64 p.c],.int .i64 (c.tr + 1)] H (fun r _=>r=.tuple #[.int .i64 (gapV p.b p.c (c.tr + 1)),.int .i64 0]):=fun h1 h2 H=>by
  obtain ⟨s1,s3,i1,i2,t1,t2,m0,m1,key,ask,knw,giv⟩:=hc.live (by omega)
  exact C0.of_gives (fun w=>gap_of p.t p.b p.c (c.tr + 1) w hp.t1 hp.t6 hp.b1 hp.bc hp.cm (by omega) (by omega)) H
 have hgb:c.st=1→c.tr≠p.t→0≤now + gapV p.b p.c (c.tr + 1)∧now + gapV p.b p.c (c.tr + 1)≤1073742824∧1≤c.tr∧c.tr≤6:=fun h1 h2=>by
  obtain ⟨s1,s3,i1,i2,t1,t2,m0,m1,key,ask,knw,giv⟩:=hc.live (by omega)
  have g0:=gapV_lo (b:=p.b) (c:=p.c) (n:=c.tr + 1) hp.b1 hp.bc hp.cm (by omega) (by have:=hp.t6; omega)
  have g1:=gapV_hi (b:=p.b) (c:=p.c) (n:=c.tr + 1)
  have:=hp.cm
  have:=hp.t6
  omega
 refine oQ Tryz.func46 (c:=Tryz.f46.body.getD .skip) (N:=60) ?_
 intro hbx hbad Q hQ
 refine go3 48 [.own,.own,.own,.b 2 0,.b 1 0,.cl 91 #[.agg #[Vi c.st,Vi c.id,Vi c.tr,Vi c.key.k,Vi c.key.n,.string c.key.s,Vi c.has.k,Vi c.has.n,.string c.has.s,Vi c.nx],.agg #[Vi p.t,Vi p.b,Vi p.c]] (Vi 0),.b 2 0] [(20,.bool (decide (now < 0)),.bool false),(23,.bool (decide (now > 1073741824)),.bool false)] ?_ (ho:=(And.intro (fun H sH=>hg _) (trivial))) (hc:=(And.intro (congrArg Value.bool (decide_eq_false (by omega))) (And.intro (congrArg Value.bool (decide_eq_false (by omega))) (trivial))))
 intro b1 b2 b3
 by_cases h1:c.st=1
 ·refine g_rew 29 (v:=.bool (c.st != 1)) (v':=.bool false) (congrArg Value.bool (bne_eq_false_iff_eq.2 h1)) ?_
  by_cases h2:now < c.nx
  ·have e:=aZ (p:=p) (now:=now) (c:=c) (.inr h2)
   refine go0 18 [.b 2 9,.b 2 0,.b 0 0] [(33,.bool (decide (c.nx > now)),.bool true)] ?_ (hc:=(And.intro (congrArg Value.bool (decide_eq_true h2)) (trivial)))
   refine hQ.to [.agg #[Vi c.st,Vi c.id,Vi c.tr,Vi c.key.k,Vi c.key.n,.string c.key.s,Vi c.has.k,Vi c.has.n,.string c.has.s,Vi c.nx],.bool false,Vi 0] (fun H sH=>?_) (ix:=[0])
   exact congrArg wakeR e.symm
  ·skip
   have hno:¬ (c.st≠1∨now < c.nx):=by omega
   refine go0 20 [.b 2 9,.b 2 2,.b 1 0] [(33,.bool (decide (c.nx > now)),.bool false)] ?_ (hc:=(And.intro (congrArg Value.bool (decide_eq_false h2)) (trivial)))
   by_cases h3:c.tr=p.t
   ·have e:=wake_gives hno h3
    refine eV (t:=c.tr == p.t) (beq_iff_eq.2 h3) ?_
    refine go0 18 [.b 2 0,.b 2 9,.b 2 0,.b 0 0] [] ?_
    refine hQ.to [.agg #[Vi 3,Vi c.id,Vi c.tr,Vi c.key.k,Vi c.key.n,.string c.key.s,Vi c.has.k,Vi c.has.n,.string c.has.s,Vi 0],.bool false,Vi 0] (fun H sH=>?_) (ix:=[0])
    exact congrArg wakeR e.symm
   ·skip
    have e:=wake_again (now:=now) hno h3
    have hgo':=hgo h1 h3
    obtain ⟨b0,b1,b2,b3⟩:=hgb h1 h3
    generalize gapV p.b p.c (c.tr + 1)=gp at *
    refine qQ (t:=c.tr == p.t) (beq_eq_false_iff_ne.2 h3) ?_
    refine go0 42 [.b 2 2,.b 2 2,.b 1 0,.b 2 2,.cl 92 #[.agg #[Vi p.t,Vi p.b,Vi p.c],Vi (c.tr + 1)] (.tuple #[Vi gp,Vi 0]),.b 2 9,.b 2 0,.b 0 0] [(46,Vi (IntKind.i64.wrap (c.tr + 1)),Vi (c.tr + 1)),(57,Vi (IntKind.i64.wrap (now + gp)),Vi (now + gp))] ?_ (ho:=(And.intro (fun H sH=>hgo' _) (trivial))) (hc:=(And.intro (jJ (by omega) (by omega)) (And.intro (jJ (by omega) (by omega)) (trivial))))
    refine hQ.to [.agg #[Vi c.st,Vi c.id,Vi (c.tr + 1),Vi c.key.k,Vi c.key.n,.string c.key.s,Vi c.has.k,Vi c.has.n,.string c.has.s,Vi (now + gp)],.bool true,Vi 0] (fun H sH=>?_) (ix:=[0])
    exact congrArg wakeR e.symm
 ·skip
  have e:=aZ (p:=p) (now:=now) (c:=c) (.inl h1)
  refine g_rew 29 (v:=.bool (c.st != 1)) (v':=.bool true) (congrArg Value.bool (bne_iff_ne.2 h1)) ?_
  refine go0 18 [.b 2 0,.b 0 0] [] ?_
  refine hQ.to [.agg #[Vi c.st,Vi c.id,Vi c.tr,Vi c.key.k,Vi c.key.n,.string c.key.s,Vi c.has.k,Vi c.has.n,.string c.has.s,Vi c.nx],.bool false,Vi 0] (fun H sH=>?_) (ix:=[0])
  exact congrArg wakeR e.symm
end Go.Proofs.YtmoahpojchndiaaGreat
namespace Go.Proofs.YtmoahpojchndiaaGreat
open Go.RowKit
set_option linter.unusedVariables false
theorem smallX_wf:WfE smallX:=by
 refine WfE.mk' (.inr (.inr ⟨(by decide:(3:Int)≤8),(by decide:(8:Int)≤18),rfl,rfl,rfl,rfl,rfl⟩)) (WfL.all fun y hy=>?_)
 have hy:y∈[refE ⟨#[97]⟩,Ex.mk 1 1 1 ⟨#[]⟩ ⟨#[]⟩ []]:=hy
 rcases List.mem_cons.1 hy with rfl | hy
 ·exact (wf_leaf (refE_ok ⟨by decide,by decide,⟨_,rfl,by decide⟩,by decide,by decide⟩) rfl).1
 ·rw [List.mem_singleton.1 hy]
  exact (wf_leaf (x:=.mk 1 1 1 ⟨#[]⟩ ⟨#[]⟩ []) (.inl ⟨rfl,.inl ⟨rfl,(by unfold Lim; decide:Lim 1),rfl⟩,fun _=>(by decide:(0:Int)≤1),rfl,rfl⟩) rfl).1
theorem smallB_wf:WfE smallB:=(wf_leaf (refE_ok (s:=⟨#[98]⟩) ⟨by decide,by decide,⟨_,rfl,by decide⟩,by decide,by decide⟩) rfl).1
theorem small_ok:OkFs smallF.fields:=by
 refine ⟨fun f hf=>?_,by decide,by decide⟩
 have hf:f∈[(⟨⟨#[98]⟩,2,1,smallX⟩:Fd),⟨⟨#[97]⟩,1,1,zE⟩,⟨⟨#[99]⟩,3,3,smallB⟩]:=hf
 rcases List.mem_cons.1 hf with rfl | hf
 ·exact ⟨⟨by decide,by decide,⟨_,rfl,by decide⟩,by decide,by decide⟩,by decide,by decide,by decide,by decide,fun h=>absurd h (show ¬ (2:Int)=1 by decide),fun _=>⟨smallX_wf,by decide,by decide⟩,fun _=>by decide,fun h=>absurd h (show ¬ (2:Int)=3 by decide)⟩
 ·rcases List.mem_cons.1 hf with rfl | hf
  ·exact ⟨⟨by decide,by decide,⟨_,rfl,by decide⟩,by decide,by decide⟩,by decide,by decide,by decide,by decide,fun _=>rfl,fun h=>absurd rfl h,fun h=>absurd h (show ¬ (1:Int)=2 by decide),fun h=>absurd h (show ¬ (1:Int)=3 by decide)⟩
  ·rw [List.mem_singleton.1 hf]
   exact ⟨⟨by decide,by decide,⟨_,rfl,by decide⟩,by decide,by decide⟩,by decide,by decide,by decide,by decide,fun h=>absurd h (show ¬ (3:Int)=1 by decide),fun _=>⟨smallB_wf,by decide,by decide⟩,fun h=>absurd h (show ¬ (3:Int)=2 by decide),fun _=>⟨1,by decide,by decide,by decide⟩⟩
theorem names_one {x:Ex} {s:ByteArray} (h:nX x=[s]):aW x=[s]:=by
 unfold aW namesB
 rw [h]
 have e:dd ([s].map fun s:ByteArray=>s.data.toList)=[s.data.toList]:=by simp [dd]
 rw [e,List.mergeSort_singleton]
 simp
theorem small_needs:fW smallF.fields=[[1],[],[0]]:=by
 have e1:aW smallX=[⟨#[97]⟩]:=names_one (by decide)
 have e2:aW smallB=[⟨#[98]⟩]:=names_one (by decide)
 show [needE smallF.fields ⟨⟨#[98]⟩,2,1,smallX⟩,needE smallF.fields ⟨⟨#[97]⟩,1,1,zE⟩,needE smallF.fields ⟨⟨#[99]⟩,3,3,smallB⟩]=_
 unfold needE
 rw [if_neg (by decide),if_pos rfl,if_neg (by decide)]
 have p1:plc smallF.fields ⟨#[97]⟩=1:=by
  unfold plc
  rw [show (⟨#[97]⟩:ByteArray)=(⟨⟨#[97]⟩,1,1,zE⟩:Fd).name from rfl,eQ small_ok.nodup (i:=1) rfl]; rfl
 have p2:plc smallF.fields ⟨#[98]⟩=0:=by
  unfold plc
  rw [show (⟨#[98]⟩:ByteArray)=(⟨⟨#[98]⟩,2,1,smallX⟩:Fd).name from rfl,eQ small_ok.nodup (i:=0) rfl]; rfl
 simp only [e1,e2,List.map_cons,List.map_nil,p1,p2]
theorem small_ranked:Ranked (fW smallF.fields) [1,0,2] (fun i=>[1,0,2].getD i 0):=by
 rw [small_needs]
 exact ranked_ex (need:=[[1],[],[0]]) (lv:=fun i=>[1,0,2].getD i 0) (by decide) (by decide)
theorem small_okG:OkGs smallF.fields smallF.pages:=by
 have hm:∀ p∈smallF.pages,p=⟨⟨#[112,49]⟩,[⟨#[97]⟩],zE⟩∨p=⟨⟨#[112,50]⟩,[⟨#[99]⟩],zE⟩:=fun p hp=>by
  have hp:p∈[(⟨⟨#[112,49]⟩,[⟨#[97]⟩],zE⟩:Pg),⟨⟨#[112,50]⟩,[⟨#[99]⟩],zE⟩]:=hp
  rcases List.mem_cons.1 hp with h | h
  ·exact .inl h
  ·exact .inr (List.mem_singleton.1 h)
 have p1:dQ smallF.fields ⟨#[97]⟩=(1:Nat):=eQ small_ok.nodup (i:=1) (f:=⟨⟨#[97]⟩,1,1,zE⟩) rfl
 have p2:dQ smallF.fields ⟨#[99]⟩=(2:Nat):=eQ small_ok.nodup (i:=2) (f:=⟨⟨#[99]⟩,3,3,smallB⟩) rfl
 refine ⟨by decide,by decide,fun p h=>?_,by decide,fun p h=>?_,fun p h s hs=>?_,by decide,fun p h=>?_⟩
 ·rcases hm p h with rfl | rfl
  ·exact ⟨by decide,by decide,⟨_,rfl,by decide⟩,by decide,by decide⟩
  ·exact ⟨by decide,by decide,⟨_,rfl,by decide⟩,by decide,by decide⟩
 ·rcases hm p h with rfl | rfl <;> decide
 ·rcases hm p h with rfl | rfl
  ·rw [List.mem_singleton.1 hs,p1]; omega
  ·rw [List.mem_singleton.1 hs,p2]; omega
 ·rcases hm p h with rfl | rfl <;> exact .inl rfl
end Go.Proofs.YtmoahpojchndiaaGreat
namespace Go.Proofs.YtmoahpojchndiaaGreat
open Go.RowKit
set_option linter.unusedVariables false
end Go.Proofs.YtmoahpojchndiaaGreat
namespace Go.Proofs.YtmoahpojchndiaaGreat
open Go.RowKit
set_option linter.unusedVariables false
theorem mem_pgNames {fs:List Fd} {n k:Nat} {s:ByteArray}:s∈xW fs n k↔∃ (i:Nat) (f:Fd),fs[i]?=some f∧i % (n + 1)=k∧f.name=s:=by
 unfold xW
 rw [List.mem_map]
 constructor
 ·rintro ⟨⟨f,i⟩,h,rfl⟩
  obtain ⟨h1,h2⟩:=List.mem_filter.1 h
  exact ⟨i,f,List.mem_zipIdx_iff_getElem?.1 h1,beq_iff_eq.1 h2,rfl⟩
 ·rintro ⟨i,f,h1,h2,rfl⟩
  exact ⟨(f,i),List.mem_filter.2 ⟨List.mem_zipIdx_iff_getElem?.2 h1,beq_iff_eq.2 h2⟩,rfl⟩
theorem pgNames_nodup {fs:List Fd} {n k:Nat} (h:(fs.map (fun f:Fd=>f.name)).Nodup):(xW fs n k).Nodup:=by
 unfold xW
 have e:fs.zipIdx.map (fun p=>p.1.name)=fs.map (fun f:Fd=>f.name):=by
  have:fs.zipIdx.map (fun p=>p.1)=fs:=List.zipIdx_map_fst 0 fs
  calc fs.zipIdx.map (fun p=>p.1.name)=(fs.zipIdx.map (fun p=>p.1)).map (fun f:Fd=>f.name):=by rw [List.map_map]; rfl
   _=_:=by rw [this]
 refine List.Sublist.nodup ?_ (e ▸ h)
 exact List.Sublist.map _ List.filter_sublist
theorem pgT_once {l:List RawD} {fs:List Fd} {n n0:Nat} (hd:(fs.map (fun f:Fd=>f.name)).Nodup):∀ k,((oJ l fs n n0 k).1.flatMap (fun p:Pg=>p.fields)).Nodup∧∀ s∈(oJ l fs n n0 k).1.flatMap (fun p:Pg=>p.fields),∃ (i:Nat) (f:Fd),fs[i]?=some f∧i % (n + 1) < k∧f.name=s
 | 0=>⟨List.nodup_nil,fun s hs=>by cases hs⟩
 | k + 1=>by
  obtain ⟨h1,h2⟩:=pgT_once (l:=l) (n:=n) (n0:=n0) hd k
  have e:(oJ l fs n n0 (k + 1)).1.flatMap (fun p:Pg=>p.fields)=(oJ l fs n n0 k).1.flatMap (fun p:Pg=>p.fields)++xW fs n k:=by
   show ((oJ l fs n n0 k).1++[_]).flatMap _=_
   rw [List.flatMap_append]; simp
  rw [e]
  refine ⟨List.nodup_append.2 ⟨h1,pgNames_nodup hd,fun a ha b hb q=>?_⟩,fun s hs=>?_⟩
  ·obtain ⟨i,f,f1,f2,f3⟩:=h2 a ha
   obtain ⟨j,g,g1,g2,g3⟩:=mem_pgNames.1 hb
   have q1:(fs.map (fun f:Fd=>f.name))[i]?=some a:=by rw [List.getElem?_map,f1]; simp [f3]
   have q2:(fs.map (fun f:Fd=>f.name))[j]?=some a:=by rw [List.getElem?_map,g1]; simp [g3,q]
   have:=(List.getElem?_inj (List.getElem?_eq_some_iff.1 q1).1 hd).1 (q1.trans q2.symm)
   subst this
   omega
  ·rcases List.mem_append.1 hs with hs | hs
   ·obtain ⟨i,f,f1,f2,f3⟩:=h2 s hs
    exact ⟨i,f,f1,by omega,f3⟩
   ·obtain ⟨j,g,g1,g2,g3⟩:=mem_pgNames.1 hs
    exact ⟨j,g,g1,by omega,g3⟩
theorem pgT_names (l:List RawD) (fs:List Fd) (n n0:Nat):∀ k,(oJ l fs n n0 k).1.map (fun p:Pg=>p.name)=(List.range k).map wW
 | 0=>rfl
 | k + 1=>by
  show ((oJ l fs n n0 k).1++[_]).map (fun p:Pg=>p.name)=_
  rw [List.map_append,pgT_names l fs n n0 k,List.range_succ,List.map_append]; rfl
theorem pgT_each (l:List RawD) (fs:List Fd) (n n0:Nat):∀ k,∀ p∈(oJ l fs n n0 k).1,∃ i m r,i < k∧p=⟨wW i,xW fs n i,(skipE l fs r m).1⟩
 | 0,p,h=>by cases h
 | k + 1,p,h=>by
  have h:p∈(oJ l fs n n0 k).1++[_]:=h
  rcases List.mem_append.1 h with h | h
  ·obtain ⟨i,m,r,h1,h2⟩:=pgT_each l fs n n0 k p h
   exact ⟨i,m,r,by omega,h2⟩
  ·exact ⟨k,_,_,by omega,List.mem_singleton.1 h⟩
theorem pgName_ok {k:Nat} (h:k < 5):rJ (wW k).data.toList:=by
 match k,h with
 | 0,_=>exact ⟨by decide,by decide,⟨_,rfl,by decide⟩,by decide,by decide⟩
 | 1,_=>exact ⟨by decide,by decide,⟨_,rfl,by decide⟩,by decide,by decide⟩
 | 2,_=>exact ⟨by decide,by decide,⟨_,rfl,by decide⟩,by decide,by decide⟩
 | 3,_=>exact ⟨by decide,by decide,⟨_,rfl,by decide⟩,by decide,by decide⟩
 | 4,_=>exact ⟨by decide,by decide,⟨_,rfl,by decide⟩,by decide,by decide⟩
theorem pgName_inj {i j:Nat} (hi:i < 5) (hj:j < 5) (h:wW i=wW j):i=j:=by
 have key:∀ i,i < 5→∀ j,j < 5→(wW i).data=(wW j).data→i=j:=by decide
 exact key i hi j hj (congrArg ByteArray.data h)
theorem form_okGs (l:List RawD):OkGs (iQ l).fields (iQ l).pages:=by
 have hn:=nFields_le l
 have hp:=nPages_le l
 have hpl:=form_pages l
 have hT:((fJ l (iJ l)).1.map (fun f:Fd=>f.name)).Nodup:=by
  rw [fldT_names]
  refine List.pairwise_map.2 (List.nodup_range.imp_of_mem ?_)
  intro a b ha hb hab e
  exact hab (fname_inj (by have:=List.mem_range.1 ha; omega) (by have:=List.mem_range.1 hb; omega) e)
 have he:∀ p∈(iQ l).pages,∃ i m r,i < eJ l∧p=⟨wW i,xW (fJ l (iJ l)).1 (eJ l) i,(skipE l (fJ l (iJ l)).1 r m).1⟩:=pgT_each _ _ _ _ _
 have hok:=form_okFs l _ (form_nodup l) (fun f=>Iff.rfl) (by rw [form_len]; omega)
 refine ⟨by omega,by omega,fun p h=>?_,?_,fun p h=>?_,fun p h s hs=>?_,(pgT_once hT _).1,fun p h=>?_⟩
 ·obtain ⟨i,m,r,hi,rfl⟩:=he p h
  exact pgName_ok (by omega)
 ·show ((oJ l _ _ _ _).1.map (fun p:Pg=>p.name)).Nodup
  rw [pgT_names]
  refine List.pairwise_map.2 (List.nodup_range.imp_of_mem ?_)
  intro a b ha hb hab e
  exact hab (pgName_inj (by have:=List.mem_range.1 ha; omega) (by have:=List.mem_range.1 hb; omega) e)
 ·obtain ⟨i,m,r,hi,rfl⟩:=he p h
  have:=pgNames_len (fJ l (iJ l)).1 (eJ l) i
  rw [gQ] at this
  show (xW _ _ _).length≤100
  omega
 ·obtain ⟨i,m,r,hi,rfl⟩:=he p h
  obtain ⟨j,f,f1,-,rfl⟩:=mem_pgNames.1 hs
  obtain ⟨k,hk⟩:=List.mem_iff_getElem?.1 (form_mem.2 (List.mem_of_getElem? f1))
  rw [eQ (form_nodup l) hk]
  omega
 ·obtain ⟨i,m,r,hi,rfl⟩:=he p h
  show (skipE l _ r m).1=zE∨_
  unfold skipE
  split
  ·right
   have hnm:∀ f∈(fJ l (iJ l)).1,rJ f.name.data.toList:=fun f hf=>(hok.each f (form_mem.2 hf)).name
   obtain ⟨w1,w2,w3⟩:=genE_ok l _ hnm 1 2 m (by omega) (by omega)
   have ht:=ty_gen (fs:=(fJ l (iJ l)).1) (g:=tyF (iQ l).fields) (fun f hf=>tyF_mem (form_nodup l) f (form_mem.2 hf)) l 1 2 m (by omega) (by omega)
   show (gJ l _ 1 2 m).1.op≠0∧_
   generalize (gJ l (fJ l (iJ l)).1 1 2 m).1=x at *
   have w2:(szE x).1≤4:=w2
   refine ⟨?_,w1,by show (szE x).1 < 1000000; omega,?_⟩
   ·rcases w1.top with t | t | t <;> omega
   ·have cx:chkE x=0:=by unfold chkE; rw [if_neg (by omega),if_neg (by omega)]
    have ho:ofE (iQ l).fields x=(2,0):=by unfold ofE; rw [if_pos cx,ht]
    show fitsE (iQ l).fields x 2=0
    unfold fitsE
    rw [ho]; rfl
  ·left; rfl
end Go.Proofs.YtmoahpojchndiaaGreat
namespace Go.Proofs.YtmoahpojchndiaaGreat
open Go.RowKit
set_option linter.unusedVariables false
theorem form_okFm (l:List RawD):OkFm (iQ l) (rhoL (fW (iQ l).fields)) (lvF l):=⟨form_okFs l _ (form_nodup l) (fun f=>Iff.rfl) (by have:=form_len l; have:=nFields_le l; omega),form_okGs l,form_ranked l⟩
structure InpOk (fs:List Fd) (env:Env):Prop where
 known:∀ p∈env,p.2.known
 told:factsV fs [] env=0
 few:env.length≤fs.length
 once:(env.map (·.1)).Nodup
end Go.Proofs.YtmoahpojchndiaaGreat
