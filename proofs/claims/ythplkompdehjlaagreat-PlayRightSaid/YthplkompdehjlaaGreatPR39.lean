/-
  Contracts of package slices at []string. slices.Clone at []string.
-/
import Derived.Test.YthplkompdehjlaaGreatPR38
import Derived.Lib.AppendZerosOnto
import Derived.Test.YthplkompdehjlaaGreatPR36
import Derived.Test.YthplkompdehjlaaGreatPR37
set_option maxHeartbeats 8000000
set_option maxRecDepth 100000
namespace Go.Proofs.YthplkompdehjlaaGreat
open Go.RowKit
set_option linter.unusedVariables false
theorem str_row {l:List ByteArray} {i:Nat} {s:ByteArray} (h:l[i]?=some s):(mZ l)[i]?=some [Vt s]:=by rw [Nj,h]; rfl
theorem str_len (l:List ByteArray):Len 1 (mZ l):=λr hr=>by obtain ⟨x,-,rfl⟩:=Qj.1 hr; rfl
theorem str_one (l:List ByteArray):One (mZ l):=λr hr u hu=>by
 obtain ⟨x,-,rfl⟩:=Qj.1 hr;rw [Pj.1 hu]; rfl
theorem idxS_any (l:List ByteArray) (v:Value) (s:ByteArray) (h:Vw) (hr:RS h 1 v (mZ l)) (hl:l.length <= 1000000):C0 Tryz.prog 150 #[v,.string s] h (λr _=>r=Vi (fidx (λy:ByteArray=>s.toList == y.toList) l)):=by
 obtain ⟨A,cap,rfl,-,-,-⟩:=hr.form;rw [Hj] at *;generalize hL:l.length=len at *;refine wQ Tryz.func150 (c:=Tryz.f150.body.getD .skip) (N:=19) ?_;intro hbx hbad Q hQ;refine go0 14 [] [] ?_;refine eV [0,1,0,1] [.block 0,.seq [1,1]] (λ(k:Nat) X=>∃ (W1:Vw) ,X W1 [(0,.slice A len cap),(1,.string s),(7,Vi (len:Int)),(8,Vi (k:Int))] [] [] /\ Sees h W1 /\ (k <= len) /\ (∀ y∈l.take k,(s.toList == y.toList)=false)) (λk=>len - k) (0) (λX q=>⟨h,q _ _ _ _ ⟨rfl,by kernel_rfl⟩,Sees.refl _,Kj _,λy hy=>by simp at hy⟩) ?_;rintro k a w ⟨W1,hJ,S2,hk,hn⟩; refine jV hJ ?_; clear hJ a w;refine go0 6 [] [] ?_;rcases (by omega:k < len\/k=len) with hlt | hke
 ·obtain ⟨f,hfk⟩:∃ f,l[k]?=some f:=⟨_,Gj (by omega)⟩;have hrow:=str_row hfk;refine oV (t:=decide ((k:Int) < (len:Int))) (Mj (by omega)) ?_;refine go0 15 [] [] ?_;obtain ⟨b3,o4,rfl,-,c5⟩:=RS.row hr (hrow);refine xQ (c5.sees S2) ?_;refine go0 5 [.ix b3 o4 len cap k,.f 0 0] [] ?_ (ho:=(Aj (by first | omega | (simp; omega)) (trivial)));rcases Rw (s.toList == f.toList) with hq | hq
  ·refine oV (t:=s.toList == f.toList) (hq) ?_;refine go0 9 [] [] ?_;refine dV ?_;refine go0 2 [] [] ?_;refine hQ.to [Vi (k:Int)] (λH sH=>?_);exact Ej (Value.int .i64) (fidx_found _ l k f hn hfk hq).symm
  ·skip;refine yQ (t:=s.toList == f.toList) (hq) ?_
   refine go0 7 [] [(18,Vi (IntKind.i64.wrap ((k:Int) + 1)),Vi ((k:Int) + 1))] ?_ (hc:=(Aj (jJ (by omega) (by omega)) (trivial)));exact nV (k + 1) (λX q=>⟨W1,q _ _ _ _ ⟨rfl,by kernel_rfl⟩,S2,by omega,(by rw [qZ l k f hfk]; exact λy hy=>(Rj.1 hy).elim (hn y) (λe=>by rw [Pj.1 e]; exact hq))⟩) (by omega)
 ·skip;have htk:l.take k=l:=by rw [hke, <- hL,Ik]
  rw [htk] at hn;refine yQ (t:=decide ((k:Int) < (len:Int))) (Jj (by omega)) ?_;refine go0 2 [] [] ?_;refine dV ?_;refine go0 8 [] [] ?_;refine hQ.to [Vi (-1)] (λH sH=>?_);exact Ej (Value.int .i64) (fidx_none _ l hn).symm
def memS (l:List ByteArray) (s:ByteArray):Bool:=l.any λy=>s.toList == y.toList
theorem memS_iff {l:List ByteArray} {s:ByteArray}:memS l s=true↔s∈l:=by
 unfold memS;rw [List.any_eq_true]
 constructor
 ·rintro ⟨y,hy,q⟩;rw [tl_dec] at q;rw [Vv q]; exact hy
 ·intro hm;exact ⟨s,hm,tl_yes rfl⟩
theorem contS_any (l:List ByteArray) (v:Value) (s:ByteArray) (h:Vw) (hr:RS h 1 v (mZ l)) (hl:l.length <= 1000000):C0 Tryz.prog 120 #[v,.string s] h (λr _=>r=.bool (memS l s)):=by
 have hi:=λH q=>idxS_any l v s H q hl;have e:decide (0 <= fidx (λy:ByteArray=>s.toList == y.toList) l)=memS l s:=fidx_dec _ _;generalize fidx (λy:ByteArray=>s.toList == y.toList) l=p at *;obtain ⟨A,cap,rfl,-,-,-⟩:=hr.form;refine wQ Tryz.func120 (c:=Tryz.f120.body.getD .skip) (N:=9) ?_;intro hbx hbad Q hQ;refine go0 15 [.cl 150 #[.slice A ((mZ l).length) cap,.string s] (Vi p)] [] ?_ (ho:=(Aj (λH sH=>hi _ (hr.sees sH)) (trivial)));refine hQ.to [.bool (decide (p ≥ 0))] (λH sH=>?_);exact Ej Value.bool e
theorem info_str:(Tryz.prog.info? 9).map (λi=>(i.zero,i.size,i.bytes))=some (some (Vt ⟨#[]⟩),1,16):=by kernel_rfl
theorem clone_str (v:Value) (l:List (List Value)) (w:World) (h:Sl w 1 v l) (hk:Len 1 l) (h1:One l) (hl:l.length * 16 <= 140737488355328) :
  Calls Tryz.prog 100 #[v] w (oJ 9 1 l w):=by
 have q22:∀ (w:World) (a:Option Addr) (n c n' c':Nat),(binOp .eql 53 (.slice a n c) (.slice none n' c')).run Tryz.prog w=.ok (.bool a.isNone) w:=λw a n c n' c'=>Tx w _ _ a n c n' c' Tryz.underlying53;obtain ⟨A,cap,rfl,c1,c2,hA⟩:=h.form
 cases A with
 | none =>
  obtain rfl:=hA rfl;have h0:l.length=0:=by omega
  obtain rfl:=Oq.1 h0
  go_enter Tryz.func100,Tryz.ntmps100
  go_wp2_with fail
  go_ret
  exact ⟨_,rfl,⟨by simp,.inl ⟨rfl,rfl⟩⟩,Evo.refl _⟩
 | some a =>
  have HR:=Fj h;have HK:=Fj hk;have H1:=Fj h1;clear h hk h1
  go_enter Tryz.func100,Tryz.ntmps100
  go_wp2_with (at_builtin; refine dA rfl (.tmp 5) (.tmp 6) 53 rfl 9 _ 1 16 Tryz.underlying53 info_str rfl (by decide) w ((Evo.refl _).alloc _) [] l _ _ rfl rfl ⟨Lx w #[] 0 (Ij _) (Kj _) (by simp)⟩ (HR.out.at ((Evo.refl _).alloc _)) HK.out H1.out ?c1 ?c2 ?_)
  case c1=>simp; omega
  case c2=>simpa using hl
  intro v' w1 hown hbl hg;have HW:=Fj (⟨hown,hbl⟩:Own w1 w.heap.size 9 1 v' ([]++l).length ([]++l).flatten /\ Evo w w1);clear hown hg hbl
  go_wp2_with fail
  go_ret
  exact ⟨_,rfl,HW.out.1,HW.out.2⟩
theorem c_cloneS {h:Vw} {v:Value} {l:List ByteArray} (hr:RS h 1 v (mZ l)) (hl:l.length <= 1000000):CRow Tryz.prog 100 #[v] h 9 1 (λ_ rows=>rows=mZ l) :=
 CRow.of_own (str_len l) (clone_str v (mZ l) h.w (Sl.of_rs hr) (str_len _) (str_one _) (by rw [Hj]; omega))
theorem pgRows_get:∀ {l:List Pg} {us vs:List Value} {i:Nat} {p:Pg} {u v:Value},l[i]?=some p -> us[i]?=some u -> vs[i]?=some v -> (uX l us vs)[i]?=some (pgRow p u v)
 | q :: l,u' :: us,v' :: vs,0,p,u,v,h1,h2,h3=>by simp at h1 h2 h3; subst h1 h2 h3; rfl
 | q :: l,u' :: us,v' :: vs,i + 1,p,u,v,h1,h2,h3=>pgRows_get (l:=l) (by simpa using h1) (by simpa using h2) (by simpa using h3)
 | [],_,_,_,_,_,_,h,_,_=>by simp at h
 | _ :: _,[],_,_,_,_,_,_,h,_=>by simp at h
 | _ :: _,_ :: _,[],_,_,_,_,_,_,h=>by simp at h
theorem AllStr.get {h:Vw}:∀ {l:List (List ByteArray)} {us:List Value},AllStr h l us -> ∀ {i:Nat} {x:List ByteArray} {u:Value},l[i]?=some x -> us[i]?=some u -> RS h 1 u (mZ x)
 | [],_,_,i,x,u,hx,_=>by simp at hx
 | y :: l,_,⟨u',r,e,k1,k2⟩,i,x,u,hx,hu=>by
  subst e
  cases i with
  | zero=>simp at hx hu; subst hx hu; exact k1
  | succ i=>exact AllStr.get k2 (by simpa using hx) (by simpa using hu)
theorem wX {h:Vw} {v:Value} {l:List Pg} (hp:IsPgs h v l):∃ us vs A cap,v=.slice A l.length cap /\ cap <= maxLen /\ RS h 8 (.slice A l.length cap) (uX l us vs) /\ AllStr h (l.map (·.fields)) us /\ AllArgs h (l.map (·.skip)) vs /\ us.length=l.length /\ vs.length=l.length:=by
 obtain ⟨us,vs,hr,hs,ha⟩:=hp;have hu:=hs.len;have hv:=ha.len;rw [Hj] at hu hv;obtain ⟨A,c,e,-,h2,-⟩:=hr.form;rw [vX hu hv] at e;rw [e] at hr;exact ⟨us,vs,A,c,e,h2,hr,hs,ha,hu,hv⟩
theorem pg_at {h:Vw} {l:List Pg} {us vs:List Value} (hs:AllStr h (l.map (·.fields)) us) (ha:AllArgs h (l.map (·.skip)) vs) {i:Nat} {p:Pg} (hp:l[i]?=some p) :
  ∃ A c B m d,(uX l us vs)[i]?=some (pgRow p (.slice A p.fields.length c) (.slice B m d)) /\ RS h 1 (.slice A p.fields.length c) (mZ p.fields) /\ IsArgs h p.skip (.slice B m d):=by
 have hu:=hs.len;have hv:=ha.len;rw [Hj] at hu hv;have hil:=(Oj.1 hp).1;obtain ⟨u,hui⟩:∃ u,us[i]?=some u:=⟨_,Gj (by omega)⟩;obtain ⟨v,hvi⟩:∃ v,vs[i]?=some v:=⟨_,Gj (by omega)⟩;have h1:=AllStr.get hs (x:=p.fields) (by rw [Nj,hp]; rfl) hui;have h2:=AllArgs.get ha (x:=p.skip) (by rw [Nj,hp]; rfl) hvi;obtain ⟨A,c,e,-⟩:=h1.form;rw [Hj] at e;obtain ⟨B,m,d,rfl⟩:=h2.slice;subst e;exact ⟨A,c,B,m,d,pgRows_get hp hui hvi,h1,h2⟩
def findG (l:List Pg) (s:ByteArray):Int:=fidx (λp:Pg=>p.name.toList == s.toList) l
theorem gfind1_any (p:Pg) (u:Value) (A:Option Addr) (n c:Nat) (B:Option Addr) (m d:Nat) (s:ByteArray) (b:Nat) (h:Vw) (hc:Cells h b 0 [Vt s]) :
  C0 Tryz.prog 149 #[.agg #[Vt p.name,.slice A n c,Vi p.skip.op,Vi p.skip.k,Vi p.skip.n,.string p.skip.s,.string p.skip.nm,.slice B m d],.pointer (some ⟨b,0,none⟩)] h (λr _=>r=.bool (p.name.toList == s.toList)):=by
 refine wQ Tryz.func149 (c:=Tryz.f149.body.getD .skip) (N:=8) ?_;intro hbx hbad Q hQ;refine xQ (hc.sees (Sees.refl _)) ?_;refine go1 16 [.own,.b 0 0,.f 0 0] [] ?_;intro b1;refine hQ.to [.bool (p.name.toList == s.toList)] (λH sH=>?_);exact rfl
theorem gidxF_any (s:ByteArray) (l:List Pg) (us vs:List Value) (A:Option Addr) (cap:Nat) (b:Nat) (h:Vw) (hr:RS h 8 (.slice A l.length cap) (uX l us vs)) (hs:AllStr h (l.map (·.fields)) us) (ha:AllArgs h (l.map (·.skip)) vs) (hl:l.length <= 1000000) (hc:Cells h b 0 [Vt s]) (hfl:∀ p∈l,p.fields.length <= 1000000) :
  C0 Tryz.prog 148 #[.slice A l.length cap,.func (.func 149) #[] #[.pointer (some ⟨b,0,none⟩)]] h (λr _=>r=Vi (findG l s)):=by
 have hat:=λi p hp=>pg_at (i:=i) (p:=p) hs ha hp;generalize hL:l.length=len at *;refine wQ Tryz.func148 (c:=Tryz.f148.body.getD .skip) (N:=19) ?_;intro hbx hbad Q hQ;refine go0 14 [] [] ?_;refine eV [0,1,0,1] [.block 0,.seq [1,1]] (λ(k:Nat) X=>∃ (W1:Vw) ,X W1 [(0,.slice A len cap),(1,.func (.func 149) #[] #[Vp b]),(7,Vi (len:Int)),(8,Vi (k:Int))] [] [] /\ Sees h W1 /\ (k <= len) /\ (∀ y∈l.take k,(y.name.toList == s.toList)=false)) (λk=>len - k) (0) (λX q=>⟨h,q _ _ _ _ ⟨rfl,by kernel_rfl⟩,Sees.refl _,Kj _,λy hy=>by simp at hy⟩) ?_;rintro k a w ⟨W1,hJ,S2,hk,hn⟩; refine jV hJ ?_; clear hJ a w;refine go0 6 [] [] ?_;rcases (by omega:k < len\/k=len) with hlt | hke
 ·obtain ⟨p,hpk⟩:∃ p,l[k]?=some p:=⟨_,Gj (by omega)⟩;obtain ⟨Au,cu,Bu,mu,du,hrow,hrs,-⟩:=hat k p hpk;have hpl:=hfl p (Dj hpk);refine oV (t:=decide ((k:Int) < (len:Int))) (Mj (by omega)) ?_;refine go0 15 [] [] ?_;obtain ⟨b3,o4,rfl,-,c5⟩:=RS.row hr (hrow);refine xQ (c5.sees S2) ?_;refine go0 5 [.ix b3 o4 len cap k,.f 0 0,.cl 149 #[.agg #[Vt p.name,.slice Au p.fields.length cu,Vi p.skip.op,Vi p.skip.k,Vi p.skip.n,.string p.skip.s,.string p.skip.nm,.slice Bu mu du],Vp b] (.bool (p.name.toList == s.toList))] [] ?_ (ho:=(Aj (by first | omega | (simp; omega)) (Aj (λH sH=>gfind1_any p (Vz) _ _ _ _ _ _ s b _ (hc.sees (S2.trans sH))) (trivial))))
  cases boolIs (p.name.toList == s.toList) with
  | true hq =>
   refine oV (t:=p.name.toList == s.toList) (hq) ?_;refine go0 9 [] [] ?_;refine dV ?_;refine go0 2 [] [] ?_;refine hQ.to [Vi (k:Int)] (λH sH=>?_);exact Ej (Value.int .i64) (fidx_found _ l k p hn hpk hq).symm
  | false hq =>
   refine yQ (t:=p.name.toList == s.toList) (hq) ?_;refine go0 7 [] [(18,Vi (IntKind.i64.wrap ((k:Int) + 1)),Vi ((k:Int) + 1))] ?_ (hc:=(Aj (jJ (by omega) (by omega)) (trivial)));exact nV (k + 1) (λX q=>⟨W1,q _ _ _ _ ⟨rfl,by kernel_rfl⟩,S2,by omega,(by rw [qZ l k p hpk]; exact λy hy=>(Rj.1 hy).elim (hn y) (λe=>by rw [Pj.1 e]; exact hq))⟩) (by omega)
 ·skip;have htk:l.take k=l:=by rw [hke, <- hL,Ik]
  rw [htk] at hn;refine yQ (t:=decide ((k:Int) < (len:Int))) (Jj (by omega)) ?_;refine go0 2 [] [] ?_;refine dV ?_;refine go0 8 [] [] ?_;refine hQ.to [Vi (-1)] (λH sH=>?_);exact Ej (Value.int .i64) (fidx_none _ l hn).symm
theorem gFind_any (l:List Pg) (v:Value) (s:ByteArray) (h:Vw) (hp:IsPgs h v l) (hl:l.length <= 1000000) (hfl:∀ p∈l,p.fields.length <= 1000000):C0 Tryz.prog 119 #[v,.string s] h (λr _=>r=.tuple #[Vi (if findG l s < 0 then 0 else findG l s),Vi (if findG l s < 0 then 5 else 0)]):=by
 obtain ⟨us,vs,A,cap,rfl,-,hr,hs,ha,-,-⟩:=wX hp;have hi:=λH b q1 q2 q3 q4=>gidxF_any s l us vs A cap b H q1 q2 q3 hl q4 hfl;generalize findG l s=p at *;refine wQ Tryz.func119 (c:=Tryz.f119.body.getD .skip) (N:=13) ?_;intro hbx hbad Q hQ;refine tV 11 [.fix] [] ?_;intro bsn W1 S2;refine vQ 0 bsn 0 [Vt s] λsn=>?_;refine go0 11 [.cl 148 #[.slice A l.length cap,.func (.func 149) #[] #[Vp bsn]] (Vi p)] [] ?_ (ho:=(Aj (λH sH=>hi _ _ (hr.sees (S2.trans sH)) (hs.sees (S2.trans sH)) (ha.sees (S2.trans sH)) (sn.sees sH)) (trivial)))
 by_cases hp:p < 0
 ·refine oV (t:=decide (p < 0)) (Mj hp) ?_;refine go0 8 [] [] ?_;refine hQ.to [Vi 0,Vi 5] (λH sH=>?_);rw [Cj hp,Cj hp]; rfl
 ·skip;refine yQ (t:=decide (p < 0)) (Jj hp) ?_
  refine go0 10 [] [] ?_;refine hQ.to [Vi p,Vi 0] (λH sH=>?_);rw [Bj hp,Bj hp]; rfl
theorem never_yes (nm:ByteArray) (A:Option Addr) (n c:Nat) (B:Option Addr) (d:Nat) (h:Vw):C0 Tryz.prog 121 #[.agg #[Vt nm,.slice A n c,Vi 0,Vi 0,Vi 0,.string ⟨#[]⟩,.string ⟨#[]⟩,.slice B 0 d]] h (λr _=>r=.bool true):=by
 refine wQ Tryz.func121 (c:=Tryz.f121.body.getD .skip) (N:=26) ?_;intro hbx hbad Q hQ;refine go2 28 [.own,.b 0 2,.own,.b 0 0,.b 0 0,.b 0 4,.b 0 1] [] ?_;intro b1 b2;refine kV (.bool true) (λw=>run_eqop (x:=(.tmp 16)) (y:=(.tmp 17)) (v:=(⟨0,0,⟨#[]⟩⟩:Vl)) (w:=(⟨0,0,⟨#[]⟩⟩:Vl)) (by kernel_rfl) (by kernel_rfl) (by kernel_rfl) (eqB_iff.2 rfl)) ?_;refine go0 11 [.b 0 5] [] ?_;refine hQ.to [.bool true] (λH sH=>?_);exact rfl
theorem never_no (nm:ByteArray) (x:Ex) (A:Option Addr) (n c:Nat) (B:Option Addr) (m d:Nat) (h:Vw) (hx:x.op≠0):C0 Tryz.prog 121 #[.agg #[Vt nm,.slice A n c,Vi x.op,Vi x.k,Vi x.n,.string x.s,.string x.nm,.slice B m d]] h (λr _=>r=.bool false):=by
 refine wQ Tryz.func121 (c:=Tryz.f121.body.getD .skip) (N:=26) ?_;intro hbx hbad Q hQ;refine go2 40 [.own,.b 0 2,.own,.b 0 0,.b 0 0] [(8,.bool (x.op == 0),.bool false)] ?_ (hc:=(Aj (Ej Value.bool (Lj.2 hx)) (trivial)));intro b1 b2;refine hQ.to [.bool false] (λH sH=>?_);exact rfl
theorem pgRows_take:∀ (k:Nat) {l:List Pg} {us vs:List Value},us.length=l.length -> vs.length=l.length -> (uX l us vs).take k=uX (l.take k) (us.take k) (vs.take k)
 | 0,l,us,vs,_,_=>by simp [uX]
 | k + 1,[],[],[],_,_=>rfl
 | k + 1,p :: l,u :: us,v :: vs,h1,h2=>by
  show (pgRow p u v :: uX l us vs).take (k + 1)=pgRow p u v :: uX (l.take k) (us.take k) (vs.take k);rw [List.take_succ_cons,pgRows_take k (by simpa using h1) (by simpa using h2)]
theorem AllStr.take {h:Vw}:∀ (k:Nat) {l:List (List ByteArray)} {us:List Value},AllStr h l us -> AllStr h (l.take k) (us.take k)
 | 0,_,_,_=>rfl
 | k + 1,[],_,e=>by cases e; rfl
 | k + 1,x :: l,_,⟨u,r,e,k1,k2⟩=>by subst e; exact ⟨u,r.take k,rfl,k1,AllStr.take k k2⟩
theorem pgs_take {h:Vw} {A:Option Addr} {cap:Nat} {l:List Pg} (hp:IsPgs h (.slice A l.length cap) l) (k:Nat) (hk:k <= l.length):IsPgs h (.slice A k cap) (l.take k):=by
 obtain ⟨us,vs,hr,hs,ha⟩:=hp;have hu:=hs.len;have hv:=ha.len;rw [Hj] at hu hv;refine ⟨us.take k,vs.take k,?_,?_,?_⟩
 ·have:=hr.take k (by rw [vX hu hv]; omega)
  rwa [pgRows_take k hu hv] at this
 ·rw [List.map_take]; exact AllStr.take k hs
 ·rw [List.map_take]; exact AllArgs.take' k ha
structure OkGs (fs:List Fd) (l:List Pg):Prop where
 one:1 <= l.length
 few:l.length <= 6
 name:∀ p∈l,qJ p.name.data.toList
 nodup:(l.map (·.name)).Nodup
 fl:∀ p∈l,p.fields.length <= 100
 here:∀ p∈l,∀ s∈p.fields,0 <= iQ fs s
 once:(l.flatMap (·.fields)).Nodup
 skip:∀ p∈l,p.skip=zE\/(p.skip.op≠0 /\ WfE p.skip /\ (szE p.skip).1 < 1000000 /\ fitsE fs p.skip 2=0)
theorem pgCheck_any (fs:List Fd) (fv:Value) (l:List Pg) (v:Value) (h:Vw) (hok:OkGs fs l) (hp:IsPgs h v l) (hfs:IsFds h fv fs) (hfl:fs.length <= 1000):C0 Tryz.prog 88 #[v,fv] h (λr _=>r=Vi 0):=by
 obtain ⟨us,vs,A,cap,rfl,hcap,hr,hs,ha,hul,hvl⟩:=wX hp;have hlc:l.length <= cap:=by
  obtain ⟨A',c',e',h1,-,-⟩:=hr.form;rw [vX hul hvl] at h1;simp only [Jk] at e';omega
 obtain ⟨-,Af,cf,rfl,-,-,-,-,-,-⟩:=gQ hfs;have one:=hok.one;have few:=hok.few;have hat:=λi p hp=>pg_at (i:=i) (p:=p) hs ha hp;have htk:=λk hk=>pgs_take (h:=h) (A:=A) (cap:=cap) (l:=l) hp k hk;have hFi:=λH s q=>findP_any fs (.slice Af fs.length cf) s H q (by omega);have hGf:=λk H s q=>gFind_any (l.take k) (.slice A k cap) s H q (by rw [Uj]; omega) (λp hp=>by have:=hok.fl p (Rv hp); omega);generalize hL:l.length=len at *;generalize hM:fs.length=fl at *;refine wQ Tryz.func88 (c:=Tryz.f88.body.getD .skip) (N:=82) ?_;intro hbx hbad Q hQ;refine go0 35 [] [(18,.bool (decide ((len:Int) < 1)),.bool false),(22,.bool (decide ((len:Int) > 6)),.bool false)] ?_ (hc:=(Aj (Ej Value.bool (Jj (by omega))) (Aj (Ej Value.bool (Jj (by omega))) (trivial))));refine iV 9 1 ?_;refine eV [0,1,0,1,1,1] [.block 0,.seq [1,1,1,1]] (λ(k:Nat) X=>∃ (W1:Vw) (mv:Value),X W1 [(0,.slice A len cap),(1,.slice Af fl cf),(24,.slice A len cap),(25,Vi (len:Int)),(26,Vi (k:Int)),(5,mv)] [.row mv 9 1 (mZ ((l.take k).flatMap (·.fields)))] [] /\ Sees h W1 /\ (k <= len)) (λk=>len - k) (0) (λX q=>⟨h,(Vz),q _ _ _ _ ⟨rfl,by kernel_rfl⟩,Sees.refl _,Kj _⟩) ?_;rintro k a w ⟨W1,mv,hJ,S2,hk⟩; refine jV hJ ?_; clear hJ a w;refine go0 6 [] [] ?_;rcases (by omega:k < len\/k=len) with hlt | hke
 ·obtain ⟨p,hpk⟩:∃ p,l[k]?=some p:=⟨_,Gj (by omega)⟩;have hpm:=Dj hpk;obtain ⟨Au,cu,Bu,mu,du,hrow,hrs,hxa⟩:=hat k p hpk;have hnm:=hok.name p hpm;have htp:=htk k hk;have hno:findG (l.take k) p.name = -1:=fidx_none _ _ λy hy=>tl_no λe=>by
   obtain ⟨j,hj⟩:=Yq.1 hy;rw [Iw] at hj
   split at hj
   ·rename_i hjk;have h1:(l.map (λp:Pg=>p.name))[j]?=some p.name:=by rw [Nj,hj]; simp [e]
    have h2:(l.map (λp:Pg=>p.name))[k]?=some p.name:=by rw [Nj,hpk]; rfl
    have:=(List.getElem?_inj (by rw [Hj]; omega) hok.nodup).1 (h1.trans h2.symm)
    omega
   ·cases hj
  have hGk:=λH q=>hGf k H p.name q;rw [hno] at hGk;have hfk:=hok.fl p hpm;have hhere:=hok.here p hpm;have hsn:(l.take (k + 1)).flatMap (λp:Pg=>p.fields)=(l.take k).flatMap (λp:Pg=>p.fields)++p.fields:=by rw [qZ l k p hpk,List.flatMap_append]; simp
  have hone:((l.take k).flatMap (λp:Pg=>p.fields)++p.fields).Nodup:=by
   rw [<- hsn];have ho:=hok.once;have e:l.flatMap (λp:Pg=>p.fields)=(l.take (k + 1)).flatMap (λp:Pg=>p.fields)++(l.drop (k + 1)).flatMap (λp:Pg=>p.fields):=by rw [<- List.flatMap_append,Mv]
   rw [e] at ho;exact (Bq.1 ho).1
  have hdl:((l.take k).flatMap (λp:Pg=>p.fields)).length <= 600:=by
   have key:∀ m:List Pg,(∀ p∈m,p.fields.length <= 100) -> (m.flatMap (λp:Pg=>p.fields)).length <= 100 * m.length:=by
    intro m
    induction m with
    | nil=>intro _; simp
    | cons q m ih =>
     intro hm;have h1:=hm q (by simp);have h2:=ih λz hz=>hm z (by simp [hz]);rw [Cv,Bk,Tk];omega
   have:=key (l.take k) λq hq=>hok.fl q (Rv hq)
   rw [Uj] at this;omega
  have hskip:=hok.skip p hpm;generalize (l.take k).flatMap (λp:Pg=>p.fields)=dn at *;refine oV (t:=decide ((k:Int) < (len:Int))) (Mj (by omega)) ?_;refine go0 7 [] [] ?_;obtain ⟨b3,o4,rfl,-,c5⟩:=RS.row hr (hrow);refine xQ (c5.sees S2) ?_;refine go1 27 [.ix b3 o4 len cap k,.f 0 0,.own,.b 0 0,.b 0 0,.cl 118 #[Vt p.name] (Vi 0)] [] ?_ (ho:=(Aj (by first | omega | (simp; omega)) (Aj (λH sH=>c_name _ _ hnm) (trivial))));intro b6;refine lV 11 0 [.pu,.pu,.v (λgh=>.slice (some ⟨b3,o4,none⟩) k cap),.pu,.ld 0 0,.v (λgh=>.tuple #[Vi 0,Vi 5]),.pu,.pu,.pu,.pu,.pu] [] (trivial) ?_ ?_
  ·intro R hT hA hmono;refine Aj (t_p hT hA (λgh=>.slice (some ⟨b3,o4,none⟩) k cap) (λgh w=>run_hi (t:=26) (e:=55) (x:=(.tmp 38)) (y:=(.tmp 39)) (A:=(some ⟨b3,o4,none⟩)) (n:=len) (cap:=cap) (k:=k) (kk:=8) (by kernel_rfl) (by kernel_rfl) (by kernel_rfl) (by omega) Tryz.underlying26 (by kernel_rfl))) ?_;refine Aj (t_v hT hA hmono (k:=119) (args:=(λgh=>#[.slice (some ⟨b3,o4,none⟩) k cap,.string p.name])) (f:=λgh=>.tuple #[Vi 0,Vi 5]) (λgh H sH fH lent=>hGk _ (htp.sees (S2.trans sH)))) ?_
   trivial
  rintro W7 S8 -;refine go0 20 [.b 0 1] [] ?_;have hd0:mZ dn=mZ (dn++p.fields.take 0):=by simp
  rw [hd0];refine eV [0,1,0,1,1,1,0,0,1,1,0,0,1,0,1,1,1] [.block 2,.seq [1,1,1,1,0,0,1,1,0,0,1,0,1,1,1],.block 1,.seq [1,1,1,0,0,1,0,1,1,1]] (λ(j:Nat) X=>∃ (W9:Vw) (nv:Value),X W9 [(0,.slice (some ⟨b3,o4,none⟩) len cap),(1,.slice Af fl cf),(24,.slice (some ⟨b3,o4,none⟩) len cap),(25,Vi (len:Int)),(26,Vi (k:Int)),(7,Vp b6),(49,.slice Au p.fields.length cu),(50,Vi (p.fields.length:Int)),(51,Vi (j:Int)),(5,nv)] [.box b6 [Vt p.name,.slice Au p.fields.length cu,Vi p.skip.op,Vi p.skip.k,Vi p.skip.n,.string p.skip.s,.string p.skip.nm,.slice Bu mu du],.row nv 9 1 (mZ (dn++p.fields.take j))] [(b3,o4 + k * 8,[Vt p.name,.slice Au p.fields.length cu,Vi p.skip.op,Vi p.skip.k,Vi p.skip.n,.string p.skip.s,.string p.skip.nm,.slice Bu mu du])] /\ Sees W7 W9 /\ (j <= p.fields.length)) (λj=>p.fields.length - j) (0) (λX q=>⟨W7,mv,q _ _ _ _ ⟨rfl,by kernel_rfl⟩,Sees.refl _,Kj _⟩) ?_;rintro j a w ⟨W9,nv,hJ,S10,hj⟩; refine jV hJ ?_; clear hJ a w;refine go0 6 [] [] ?_;rcases (by omega:j < p.fields.length\/j=p.fields.length) with hjl | hje
  ·obtain ⟨s,hsj⟩:∃ s,p.fields[j]?=some s:=⟨_,Gj hjl⟩;have hsr:=str_row hsj;have hse:iQ fs s=((plc fs s:Nat):Int):=by have:=hhere s (Dj hsj); unfold plc; omega
   have hFs:=λH q=>hFi H s q;rw [Bj (by omega)] at hFs;have hjn:=qZ _ j s hsj;have hnin:memS (dn++p.fields.take j) s=false:=by
    rw [Mx];intro q;have q:=memS_iff.1 q;rcases Rj.1 q with q | q
    ·exact (Bq.1 hone).2.2 s q s (Dj hsj) rfl
    ·have hd:=(Bq.1 hone).2.1;obtain ⟨i,hi⟩:=Yq.1 q;rw [Iw] at hi
     split at hi
     ·have:=(List.getElem?_inj (by omega) hd).1 (hi.trans hsj.symm); omega
     ·cases hi
   have hco:=λH u q=>contS_any (dn++p.fields.take j) u s H q (by rw [Bk,Uj]; omega);rw [hnin] at hco;refine oV (t:=decide ((j:Int) < (p.fields.length:Int))) (Mj (by omega)) ?_;refine go0 6 [] [] ?_;obtain ⟨b11,o12,rfl,-,c13⟩:=RS.row hrs (hsr);refine xQ (c13.sees (S2.trans (S8.trans S10))) ?_;refine go0 32 [.ix b11 o12 p.fields.length cu j,.f 0 0,.cl 44 #[.slice Af fl cf,.string s] (.tuple #[Vi ((plc fs s:Nat):Int),Vi 0])] [] ?_ (ho:=(Aj (by first | omega | (simp; omega)) (Aj (λH sH=>hFs _ (hfs.sees (S2.trans (S8.trans (S10.trans sH))))) (trivial))));refine g_callq (λa w hJ=>hco _ _ (hJ.j.rowQ (v:=nv) (e:=9) (k:=1) (l:=mZ (dn++p.fields.take j)) 1 (by kernel_rfl))) ?_; intro W14 S15;refine tV 9 [.fix] [] ?_;intro b16 W17 S18;refine goa0 9 [.ap 1 0 (mZ (dn++p.fields.take j)) [[Vt s]]] [(71,Vi (IntKind.i64.wrap ((j:Int) + 1)),Vi ((j:Int) + 1))] ?_ (ho:=(Aj (by constructor <;> (simp; omega)) (trivial))) (hc:=(Aj (jJ (by omega) (by omega)) (trivial)));intro v70 W19 S20;refine cV [(0,.slice (some ⟨b3,o4,none⟩) len cap),(1,.slice Af fl cf),(24,.slice (some ⟨b3,o4,none⟩) len cap),(25,Vi (len:Int)),(26,Vi (k:Int)),(7,Vp b6),(49,.slice (some ⟨b11,o12,none⟩) p.fields.length cu),(50,Vi (p.fields.length:Int)),(5,sL v70),(51,Vi ((j:Int) + 1))] [.box b6 [Vt p.name,.slice (some ⟨b11,o12,none⟩) p.fields.length cu,Vi p.skip.op,Vi p.skip.k,Vi p.skip.n,.string p.skip.s,.string p.skip.nm,.slice Bu mu du],.row (sL v70) 9 1 ((mZ (dn++p.fields.take j))++[[Vt s]])] [(b3,o4 + k * 8,[Vt p.name,.slice (some ⟨b11,o12,none⟩) p.fields.length cu,Vi p.skip.op,Vi p.skip.k,Vi p.skip.n,.string p.skip.s,.string p.skip.nm,.slice Bu mu du])] ?_;exact nV (j + 1) (λX q=>⟨W19,sL v70,q _ _ _ _ (aZ (by rw [hjn, <- Yk]; simp [mZ])),(S10.trans (S15.trans (S18.trans S20))),by omega⟩) (by omega)
  ·skip;have hta:dn++p.fields.take j=dn++p.fields:=by rw [hje,Ik]
   rw [hta];rcases hskip with hz | ⟨z1,z2,z3,z4⟩
   ·obtain ⟨Bz,dz,ez⟩:=args_zero (by rw [hz]; rfl) hxa;obtain rfl:mu=0:=by simp only [Jk] at ez; exact ez.2.1
    have hnv:=λH=>never_yes p.name Au p.fields.length cu Bu du H;refine yQ (t:=decide ((j:Int) < (p.fields.length:Int))) (Jj (by omega)) ?_;refine go0 2 [] [] ?_;refine dV ?_;refine go0 18 [.b 0 0,.cl 121 #[.agg #[Vt p.name,.slice Au p.fields.length cu,Vi p.skip.op,Vi p.skip.k,Vi p.skip.n,.string p.skip.s,.string p.skip.nm,.slice Bu 0 du]] (.bool true)] [(81,Vi (IntKind.i64.wrap ((k:Int) + 1)),Vi ((k:Int) + 1))] ?_ (ho:=(Aj (λH sH=>by rw [hz]; exact hnv _) (trivial))) (hc:=(Aj (jJ (by omega) (by omega)) (trivial)));refine cV [(0,.slice (some ⟨b3,o4,none⟩) len cap),(1,.slice Af fl cf),(24,.slice (some ⟨b3,o4,none⟩) len cap),(25,Vi (len:Int)),(5,nv),(26,Vi ((k:Int) + 1))] [.row nv 9 1 (mZ (dn++p.fields))] [] ?_;exact nV (k + 1) (λX q=>⟨W9,nv,q _ _ _ _ (aZ (by rw [hsn]; try rfl)),(S2.trans (S8.trans S10)),by omega⟩) (by omega)
   ·skip;have hnv:=λH=>never_no p.name p.skip Au p.fields.length cu Bu mu du H z1
    have hft:=λH q1 q2=>fits_any fs p.skip (.slice Bu mu du) (.slice Af fl cf) 2 H q1 z2 z3 q2;rw [z4] at hft;refine yQ (t:=decide ((j:Int) < (p.fields.length:Int))) (Jj (by omega)) ?_;refine go0 2 [] [] ?_;refine dV ?_;refine go0 35 [.b 0 0,.cl 121 #[.agg #[Vt p.name,.slice Au p.fields.length cu,Vi p.skip.op,Vi p.skip.k,Vi p.skip.n,.string p.skip.s,.string p.skip.nm,.slice Bu mu du]] (.bool false),.b 0 2,.cl 122 #[.agg #[Vi p.skip.op,Vi p.skip.k,Vi p.skip.n,.string p.skip.s,.string p.skip.nm,.slice Bu mu du],.slice Af fl cf,Vi 2] (Vi 0)] [(81,Vi (IntKind.i64.wrap ((k:Int) + 1)),Vi ((k:Int) + 1))] ?_ (ho:=(Aj (λH sH=>hnv _) (Aj (λH sH=>hft _ (hxa.sees (S2.trans (S8.trans (S10.trans sH)))) (hfs.sees (S2.trans (S8.trans (S10.trans sH))))) (trivial)))) (hc:=(Aj (jJ (by omega) (by omega)) (trivial)));refine cV [(0,.slice (some ⟨b3,o4,none⟩) len cap),(1,.slice Af fl cf),(24,.slice (some ⟨b3,o4,none⟩) len cap),(25,Vi (len:Int)),(5,nv),(26,Vi ((k:Int) + 1))] [.row nv 9 1 (mZ (dn++p.fields))] [] ?_;exact nV (k + 1) (λX q=>⟨W9,nv,q _ _ _ _ (aZ (by rw [hsn]; try rfl)),(S2.trans (S8.trans S10)),by omega⟩) (by omega)
 ·skip;refine yQ (t:=decide ((k:Int) < (len:Int))) (Jj (by omega)) ?_
  refine go0 2 [] [] ?_;refine dV ?_;refine go0 8 [] [] ?_;refine hQ.to [Vi 0] (λH sH=>?_);exact rfl
structure OkFm (f:Fm) (ρ:List Int) (lv:Nat -> Nat):Prop where
 fields:OkFs f.fields
 pages:OkGs f.fields f.pages
 rank:Ranked (uW f.fields) ρ lv
theorem shCheck_any (f:Fm) (ρ:List Int) (lv:Nat -> Nat) (A:Option Addr) (n c:Nat) (B:Option Addr) (m d:Nat) (h:Vw) (hok:OkFm f ρ lv) (hf:IsForm h (.slice A n c) (.slice B m d) f) (hn:n=f.fields.length) :
  C0 Tryz.prog 52 #[.agg #[.slice A n c,.slice B m d]] h (λr _=>r=Vi 0):=by
 have hR:=λH q=>rankOf_any f.fields (.slice A n c) H hok.fields q ρ lv hok.rank;have few:=hok.fields.few;have hP:=λH q1 q2=>pgCheck_any f.fields (.slice A n c) f.pages (.slice B m d) H hok.pages q1 q2 (by omega);rw [<- hn] at hR;refine wQ Tryz.func52 (c:=Tryz.f52.body.getD .skip) (N:=21) ?_;intro hbx hbad Q hQ;refine go1 11 [.own,.b 0 0] [] ?_;intro b1;refine qQ (λH sH=>hR _ ((hf.sees sH)).fields) ?_; rintro _ W2 S3 ⟨b,rfl,hro⟩;refine go0 24 [.b 0 1,.b 0 0] [] ?_;refine go0 5 [.cl 88 #[.slice B m d,.slice A n c] (Vi 0)] [] ?_ (ho:=(Aj (λH sH=>hP _ ((hf.sees (S3.trans sH))).pages ((hf.sees (S3.trans sH))).fields) (trivial)));refine hQ.to [Vi 0] (λH sH=>?_);exact rfl
theorem known_no (v:Vl) (h:Vw) (hk:¬ v.k <= 3) (h1:1 <= v.k):C0 Tryz.prog 73 #[v.val] h (λr _=>r=.bool false):=by
 refine wQ Tryz.func73 (c:=Tryz.f73.body.getD .skip) (N:=16) ?_;intro hbx hbad Q hQ;refine go1 25 [.own,.b 0 0,.b 0 0] [(5,.bool (decide (v.k ≥ 1)),.bool true),(9,.bool (decide (v.k <= 3)),.bool false)] ?_ (hc:=(Aj (Ej Value.bool (Mj h1)) (Aj (Ej Value.bool (Jj hk)) (trivial))));intro b1;refine hQ.to [.bool false] (λH sH=>?_);exact rfl
theorem chk_deep {x:Ex} (h:chkE x=0):(szE x).2 <= 12:=by
 unfold chkE at h
 split at h
 ·cases h
 ·split at h
  ·cases h
  ·omega
theorem asked_no (l:List Aw) (A:Option Addr) (n c:Nat) (s:ByteArray) (key:Vl) (h:Vw) (h4:¬ key.k <= 3) (h1:1 <= key.k):C0 Tryz.prog 130 #[.slice A n c,.string s,.agg #[Vi key.k,Vi key.n,.string key.s]] h (λr _=>r=(askV l s key).val):=by
 have e:askV l s key=key:=by unfold askV; rw [Bj h4]
 rw [e];have hk:=λH=>known_no key H h4 h1;refine wQ Tryz.func130 (c:=Tryz.f130.body.getD .skip) (N:=33) ?_;intro hbx hbad Q hQ;refine go2 23 [.own,.own,.b 1 0,.cl 73 #[.agg #[Vi key.k,Vi key.n,.string key.s]] (.bool false),.b 1 0,.b 0 0] [] ?_ (ho:=(Aj (λH sH=>hk _) (trivial)));intro b1 b2;refine hQ.to [.agg #[Vi key.k,Vi key.n,.string key.s]] (λH sH=>?_) (ix:=[0]);exact rfl
theorem asked_yes (l:List Aw) (sl:Value) (s:ByteArray) (key:Vl) (h:Vw) (hr:RS h 7 sl (rJ l)) (hl:l.length <= 1000000) (hk:key.known):C0 Tryz.prog 130 #[sl,.string s,.agg #[Vi key.k,Vi key.n,.string key.s]] h (λr _=>r=(askV l s key).val):=by
 have e:askV l s key=askL s key l:=by unfold askV; rw [Cj (aW hk).2]
 rw [e];have hkn:=c_kn key.k key.n key.s;obtain ⟨A,c,rfl,-,-,-⟩:=hr.form;rw [Hj] at *;generalize hL:l.length=n at *;refine wQ Tryz.func130 (c:=Tryz.f130.body.getD .skip) (N:=33) ?_;intro hbx hbad Q hQ;refine go2 26 [.own,.own,.b 1 0,.cl 73 #[.agg #[Vi key.k,Vi key.n,.string key.s]] (.bool true)] [] ?_ (ho:=(Aj (λH sH=>hkn _ hk) (trivial)));intro b1 b2;refine eV [0,1,0,1,1] [.block 0,.seq [1,1,1]] (λ(k:Nat) X=>∃ (W3:Vw) ,X W3 [(1,.string s),(5,Vp b1),(6,Vp b2),(13,.slice A n c),(14,Vi (n:Int)),(15,Vi (k:Int))] [.box b2 [Vi 0,Vi 0,Ve],.box b1 [Vi key.k,Vi key.n,.string key.s]] [] /\ Sees h W3 /\ (k <= n) /\ (askL s key (l.drop k)=askL s key l)) (λk=>n - k) (0) (λX q=>⟨h,q _ _ _ _ ⟨rfl,by kernel_rfl⟩,Sees.refl _,Kj _,rfl⟩) ?_;rintro k a w ⟨W3,hJ,S4,hkl,hv⟩; refine jV hJ ?_; clear hJ a w;refine go0 6 [] [] ?_;rcases (by omega:k < n\/k=n) with hlt | hke
 ·obtain ⟨p,hp⟩:∃ p,l[k]?=some p:=⟨_,Gj (by omega)⟩;have hrow:(rJ l)[k]?=some (anRow p):=by rw [Nj,hp]; rfl
  have hdr:l.drop k=p :: l.drop (k + 1):=by
   obtain ⟨h1,h2⟩:=Oj.1 hp;rw [Fw h1,h2]
  rw [hdr,askL] at hv;refine oV (t:=decide ((k:Int) < (n:Int))) (Mj (by omega)) ?_;refine go0 6 [] [] ?_;obtain ⟨b5,o6,rfl,-,c7⟩:=RS.row hr (hrow);refine xQ (c7.sees S4) ?_;refine go1 13 [.ix b5 o6 n c k,.f 0 0,.own,.b 0 0,.b 0 0] [] ?_ (ho:=(Aj (by first | omega | (simp; omega)) (trivial)));intro b8
  by_cases g:(p.nm.toList == s.toList)=true
  ·skip
   by_cases q:eqB p.key key=true
   ·have hh:p.hit s key=true:=by unfold Aw.hit; rw [g,q]; rfl
    rw [Cj hh] at hv;refine mV 23 (v:=.bool (p.nm.toList == s.toList)) (v':=.bool true) (Ej Value.bool g) ?_;refine go0 3 [.b 0 1,.b 2 0] [] ?_;refine kV (.bool true) (λw=>run_eqop (x:=(.tmp 25)) (y:=(.tmp 26)) (v:=p.key) (w:=key) (by kernel_rfl) (by kernel_rfl) (by kernel_rfl) (q)) ?_;refine go0 14 [.b 0 4,.b 1 0] [] ?_;refine dV ?_;refine go0 2 [] [] ?_;refine hQ.to [.agg #[Vi p.has.k,Vi p.has.n,.string p.has.s]] (λH sH=>?_) (ix:=[1]);exact Ej Vl.val hv
   ·skip;have hh:¬ p.hit s key=true:=by unfold Aw.hit; rw [g]; exact q
    rw [Bj hh] at hv;refine mV 23 (v:=.bool (p.nm.toList == s.toList)) (v':=.bool true) (Ej Value.bool g) ?_;refine go0 3 [.b 0 1,.b 2 0] [] ?_;refine kV (.bool false) (λw=>run_eqop (x:=(.tmp 25)) (y:=(.tmp 26)) (v:=p.key) (w:=key) (by kernel_rfl) (by kernel_rfl) (by kernel_rfl) (Mx.2 q)) ?_;refine go0 11 [] [(31,Vi (IntKind.i64.wrap ((k:Int) + 1)),Vi ((k:Int) + 1))] ?_ (hc:=(Aj (jJ (by omega) (by omega)) (trivial)));exact nV (k + 1) (λX q=>⟨W3,q _ _ _ _ ⟨rfl,by kernel_rfl⟩,S4,by omega,hv⟩) (by omega)
  ·skip;have hh:¬ p.hit s key=true:=by unfold Aw.hit; rw [Mx.2 g]; exact Bool.false_ne_true
   rw [Bj hh] at hv;refine mV 23 (v:=.bool (p.nm.toList == s.toList)) (v':=.bool false) (Ej Value.bool (Mx.2 g)) ?_;refine go0 15 [] [(31,Vi (IntKind.i64.wrap ((k:Int) + 1)),Vi ((k:Int) + 1))] ?_ (hc:=(Aj (jJ (by omega) (by omega)) (trivial)));exact nV (k + 1) (λX q=>⟨W3,q _ _ _ _ ⟨rfl,by kernel_rfl⟩,S4,by omega,hv⟩) (by omega)
 ·skip;have hd:l.drop k=[]:=Fv (by omega)
  rw [hd] at hv;refine yQ (t:=decide ((k:Int) < (n:Int))) (Jj (by omega)) ?_;refine go0 2 [] [] ?_;refine dV ?_;refine go0 9 [.b 0 0] [] ?_;refine hQ.to [.agg #[Vi 4,Vi 0,Ve]] (λH sH=>?_) (ix:=[0]);exact Ej Vl.val hv
theorem asked_any (l:List Aw) (sl:Value) (s:ByteArray) (key:Vl) (h:Vw) (hr:RS h 7 sl (rJ l)) (hl:l.length <= 1000000) (hk:OkV key):C0 Tryz.prog 130 #[sl,.string s,.agg #[Vi key.k,Vi key.n,.string key.s]] h (λr _=>r=(askV l s key).val):=by
 by_cases g:key.k <= 3
 ·rcases hk with q | rfl | ⟨q,-⟩
  ·exact asked_yes l sl s key h hr hl q
  ·exact absurd g (by decide)
  ·omega
 ·obtain ⟨A,c,rfl,-,-,-⟩:=hr.form;exact asked_no l A _ c s key h g (ok_kinds hk).1
theorem one_inp (f:Fd) (n1 n2 n3 c1 c2 c3:Nat) (A1 A2 A3:Option Addr) (inp:Env) (si:Value) (h:Vw) (hi:RS h 7 si (cQ inp)) (li:inp.length <= 1000000) (g:f.kind=1) :
  C0 Tryz.prog 94 #[.agg #[Vt f.name,Vi f.kind,Vi f.ty,Vi f.src.op,Vi f.src.k,Vi f.src.n,.string f.src.s,.string f.src.nm,.slice A1 n1 c1],si,.slice A2 n2 c2,.slice A3 n3 c3] h (λr _=>r=(tellV f.name f.ty inp).val):=by
 obtain ⟨A,c,rfl,-,-,-⟩:=hi.form;rw [Hj] at *;generalize hL:inp.length=n at *;refine wQ Tryz.func94 (c:=Tryz.f94.body.getD .skip) (N:=49) ?_;intro hbx hbad Q hQ;refine go2 24 [.own,.own,.b 1 1] [(15,.bool (f.kind == 1),.bool true)] ?_ (hc:=(Aj (Ej Value.bool (Zj.2 g)) (trivial)));intro b1 b2;refine eV [0,1,0,0,1,0,1] [.block 0,.seq [1,0,1,0,1],.seq [1,1]] (λ(k:Nat) X=>∃ (W3:Vw) ,X W3 [(4,Vp b1),(8,Vp b2),(16,.slice A n c),(17,Vi (n:Int)),(18,Vi (k:Int))] [.box b2 [Vi 0,Vi 0,Ve],.box b1 [Vt f.name,Vi f.kind,Vi f.ty,Vi f.src.op,Vi f.src.k,Vi f.src.n,.string f.src.s,.string f.src.nm,.slice A1 n1 c1]] [] /\ Sees h W3 /\ (k <= n) /\ (tellV f.name f.ty (inp.drop k)=tellV f.name f.ty inp)) (λk=>n - k) (0) (λX q=>⟨h,q _ _ _ _ ⟨rfl,by kernel_rfl⟩,Sees.refl _,Kj _,rfl⟩) ?_;rintro k a w ⟨W3,hJ,S4,hkl,hv⟩; refine jV hJ ?_; clear hJ a w;refine go0 6 [] [] ?_;rcases (by omega:k < n\/k=n) with hlt | hke
 ·obtain ⟨p,hp⟩:∃ p,inp[k]?=some p:=⟨_,Gj (by omega)⟩;have hrow:(cQ inp)[k]?=some (fcRow p):=by rw [Nj,hp]; rfl
  have hdr:inp.drop k=p :: inp.drop (k + 1):=by
   obtain ⟨h1,h2⟩:=Oj.1 hp;rw [Fw h1,h2]
  rw [hdr,tellV] at hv;refine oV (t:=decide ((k:Int) < (n:Int))) (Mj (by omega)) ?_;refine go0 6 [] [] ?_;obtain ⟨b5,o6,rfl,-,c7⟩:=RS.row hi (hrow);refine xQ (c7.sees S4) ?_;refine go1 15 [.ix b5 o6 n c k,.f 0 0,.own,.b 0 0,.b 0 0,.b 2 0] [] ?_ (ho:=(Aj (by first | omega | (simp; omega)) (trivial)));intro b8
  by_cases q:(p.1.toList == f.name.toList)=true
  ·rw [Cj q] at hv;refine oV (t:=p.1.toList == f.name.toList) (q) ?_;refine go0 10 [.b 0 4,.b 1 0] [] ?_;refine dV ?_;refine go0 3 [] [] ?_;refine hQ.to [.agg #[Vi p.2.k,Vi p.2.n,.string p.2.s]] (λH sH=>?_) (ix:=[1]);exact Ej Vl.val hv
  ·skip;rw [Bj q] at hv
   refine yQ (t:=p.1.toList == f.name.toList) (Mx.2 q) ?_;refine go0 7 [] [(29,Vi (IntKind.i64.wrap ((k:Int) + 1)),Vi ((k:Int) + 1))] ?_ (hc:=(Aj (jJ (by omega) (by omega)) (trivial)));exact nV (k + 1) (λX q=>⟨W3,q _ _ _ _ ⟨rfl,by kernel_rfl⟩,S4,by omega,hv⟩) (by omega)
 ·skip;have hd:inp.drop k=[]:=Fv (by omega)
  rw [hd] at hv;refine yQ (t:=decide ((k:Int) < (n:Int))) (Jj (by omega)) ?_;refine go0 2 [] [] ?_;refine dV ?_;refine go0 12 [.b 1 2,.b 0 0] [] ?_;refine hQ.to [.agg #[Vi f.ty,Vi 0,Ve]] (λH sH=>?_) (ix:=[0]);exact Ej Vl.val hv
theorem one_wf (f:Fd) (v:Value) (inp:Env) (si:Value) (orc:List Aw) (so:Value) (kn:Env) (sk:Value) (h:Vw) (hf:f.kind≠1 -> WfE f.src /\ (szE f.src).1 <= 60 /\ chkE f.src=0) (ha:IsArgs h f.src v) (hi:RS h 7 si (cQ inp)) (ho:RS h 7 so (rJ orc)) (hk:RS h 7 sk (cQ kn))
  (li:inp.length <= 1000) (lo:orc.length <= 1000) (lk:kn.length <= 1000) (okk:∀ p∈kn,OkV p.2) :
  C0 Tryz.prog 94 #[.agg #[Vt f.name,Vi f.kind,Vi f.ty,Vi f.src.op,Vi f.src.k,Vi f.src.n,.string f.src.s,.string f.src.nm,v],si,so,sk] h (λr _=>r=(dX f inp orc kn).val):=by
 obtain ⟨A1,n1,c1,rfl⟩:=ha.slice;obtain ⟨A2,c2,rfl,-,-,-⟩:=ho.form;obtain ⟨A3,c3,rfl,-,-,-⟩:=hk.form;rw [Hj] at *;rw [Hj] at *
 by_cases g:f.kind=1
 ·have e:dX f inp orc kn=tellV f.name f.ty inp:=by unfold dX; rw [Cj g]
  rw [e];exact one_inp f _ _ _ _ _ _ _ _ _ inp si h hi (by omega) g
 ·obtain ⟨w1,w2,w3⟩:=hf g;have w4:(szE f.src).2 <= 12:=chk_deep w3;have hE:=λH q1 q2=>eval_any f.src (.slice A1 n1 c1) kn (.slice A3 kn.length c3) H q1 w1 w2 w4 q2 okk lk;have hv:=evalE_ok (get_ok okk) _ f.src (Ij _) w1;have hA:=λH q=>asked_any orc (.slice A2 orc.length c2) f.name (rK kn f.src) H q (by omega) hv;obtain ⟨A,c,rfl,-,-,-⟩:=hi.form;rw [Hj] at *;generalize inp.length=n at *;have e:dX f inp orc kn=if f.kind=3 then askV orc f.name (rK kn f.src) else rK kn f.src:=by unfold dX; rw [Bj g]
  rw [e];generalize rK kn f.src=key at *;generalize askV orc f.name key=av at *;generalize orc.length=n2 at *;generalize kn.length=n3 at *
  by_cases g3:f.kind=3
  ·rw [Cj g3];refine wQ Tryz.func94 (c:=Tryz.f94.body.getD .skip) (N:=49) ?_;intro hbx hbad Q hQ;refine go3 52 [.own,.own,.b 1 1,.b 1 3,.cl 92 #[.agg #[Vi f.src.op,Vi f.src.k,Vi f.src.n,.string f.src.s,.string f.src.nm,.slice A1 n1 c1],.slice A3 n3 c3] (.tuple #[.agg #[Vi key.k,Vi key.n,.string key.s],Vi 0]),.own,.b 0 0,.b 2 1,.b 2 0,.b 0 0,.cl 130 #[.slice A2 n2 c2,.string f.name,.agg #[Vi key.k,Vi key.n,.string key.s]] (.agg #[Vi av.k,Vi av.n,.string av.s]),.b 1 0] [(15,.bool (f.kind == 1),.bool false),(42,.bool (f.kind == 3),.bool true)] ?_ (ho:=(Aj (λH sH=>hE _ (ha.sees sH) (hk.sees sH)) (Aj (λH sH=>hA _ (ho.sees sH)) (trivial)))) (hc:=(Aj (Ej Value.bool (Lj.2 g)) (Aj (Ej Value.bool (Zj.2 g3)) (trivial))));intro b1 b2 b3;refine hQ.to [.agg #[Vi av.k,Vi av.n,.string av.s]] (λH sH=>?_) (ix:=[1]);exact rfl
  ·rw [Bj g3];refine wQ Tryz.func94 (c:=Tryz.f94.body.getD .skip) (N:=49) ?_;intro hbx hbad Q hQ;refine go3 49 [.own,.own,.b 1 1,.b 1 3,.cl 92 #[.agg #[Vi f.src.op,Vi f.src.k,Vi f.src.n,.string f.src.s,.string f.src.nm,.slice A1 n1 c1],.slice A3 n3 c3] (.tuple #[.agg #[Vi key.k,Vi key.n,.string key.s],Vi 0]),.own,.b 0 0,.b 2 1,.b 0 0,.b 1 0] [(15,.bool (f.kind == 1),.bool false),(42,.bool (f.kind == 3),.bool false)] ?_ (ho:=(Aj (λH sH=>hE _ (ha.sees sH) (hk.sees sH)) (trivial))) (hc:=(Aj (Ej Value.bool (Lj.2 g)) (Aj (Ej Value.bool (Lj.2 g3)) (trivial))));intro b1 b2 b3;refine hQ.to [.agg #[Vi key.k,Vi key.n,.string key.s]] (λH sH=>?_) (ix:=[1]);exact rfl
theorem one_any (fs:List Fd) (f:Fd) (v:Value) (inp:Env) (si:Value) (orc:List Aw) (so:Value) (kn:Env) (sk:Value) (h:Vw) (hf:OkF fs f) (ha:IsArgs h f.src v) (hi:RS h 7 si (cQ inp)) (ho:RS h 7 so (rJ orc)) (hk:RS h 7 sk (cQ kn))
  (li:inp.length <= 1000) (lo:orc.length <= 1000) (lk:kn.length <= 1000) (okk:∀ p∈kn,OkV p.2) :
  C0 Tryz.prog 94 #[.agg #[Vt f.name,Vi f.kind,Vi f.ty,Vi f.src.op,Vi f.src.k,Vi f.src.n,.string f.src.s,.string f.src.nm,v],si,so,sk] h (λr _=>r=(dX f inp orc kn).val):=one_wf f v inp si orc so kn sk h hf.wf ha hi ho hk li lo lk okk
theorem whCheck_any (f:Fm) (ρ:List Int) (lv:Nat -> Nat) (A:Option Addr) (n c:Nat) (B:Option Addr) (m d:Nat) (inp:Env) (si so:Value) (orc:List Aw) (h:Vw) (hok:OkFm f ρ lv) (hf:IsForm h (.slice A n c) (.slice B m d) f) (hn:n=f.fields.length)
  (hi:RS h 7 si (cQ inp)) (li:inp.length <= 1000000) (ki:∀ p∈inp,p.2.known) (ti:yK f.fields [] inp=0) (ho:RS h 7 so (rJ orc))
  (hO:∀ H,IsForm H (.slice A n c) (.slice B m d) f -> RS H 7 so (rJ orc) -> C0 Tryz.prog 131 #[.agg #[.slice A n c,.slice B m d],so] H (λr _=>r=Vi 0)) :
  C0 Tryz.prog 97 #[.agg #[.slice A n c,.slice B m d],si,so] h (λr _=>r=Vi 0):=by
 have hC:=λH q=>shCheck_any f ρ lv A n c B m d H hok q hn;have few:=hok.fields.few;have hF:=λH q1 q2=>facts_v f.fields (.slice A n c) (.slice B m d) inp si H q1 rfl (by omega) q2 li ki;rw [ti] at hF;obtain ⟨A1,c1,rfl,-,-,-⟩:=hi.form;obtain ⟨A2,c2,rfl,-,-,-⟩:=ho.form;rw [Hj] at *;rw [Hj] at *;refine wQ Tryz.func97 (c:=Tryz.f97.body.getD .skip) (N:=23) ?_;intro hbx hbad Q hQ;refine go1 50 [.own,.b 0 0,.cl 52 #[.agg #[.slice A n c,.slice B m d]] (Vi 0),.b 0 0,.cl 54 #[.agg #[.slice A n c,.slice B m d],.slice A1 inp.length c1] (Vi 0),.b 0 0,.cl 131 #[.agg #[.slice A n c,.slice B m d],.slice A2 orc.length c2] (Vi 0)] [] ?_ (ho:=(Aj (λH sH=>hC _ (hf.sees sH)) (Aj (λH sH=>hF _ ((hf.sees sH)).fields (hi.sees sH)) (Aj (λH sH=>hO _ (hf.sees sH) (ho.sees sH)) (trivial)))));intro b1;refine hQ.to [Vi 0] (λH sH=>?_);exact rfl
def AllO (n:Nat) (va:List Vl) (r u:Value) (l:List (List Value)):Prop:=r=.tuple #[u,Vi 0] /\ (∃ A' c',u=.slice A' n c') /\ l=zZ va
theorem whAll_own (f:Fm) (ρ:List Int) (lv:Nat -> Nat) (A:Option Addr) (n c:Nat) (B:Option Addr) (m d:Nat) (inp:Env) (si so:Value) (orc:List Aw) (h:Vw) (hok:OkFm f ρ lv) (hf:IsForm h (.slice A n c) (.slice B m d) f) (hn:n=f.fields.length) (h1:1 <= n)
  (hi:RS h 7 si (cQ inp)) (li:inp.length <= 1000) (ki:∀ p∈inp,p.2.known) (ti:yK f.fields [] inp=0) (ho:RS h 7 so (rJ orc)) (lo:orc.length <= 1000) (ko:∀ p∈orc,OkV p.has)
  (hO:∀ H,IsForm H (.slice A n c) (.slice B m d) f -> RS H 7 so (rJ orc) -> C0 Tryz.prog 131 #[.agg #[.slice A n c,.slice B m d],so] H (λr _=>r=Vi 0)) :
  C0 Tryz.prog 60 #[.agg #[.slice A n c,.slice B m d],si,so] h (λr h'=>∃ u l,Ent.ok h.w.heap.size h'.w (.row u 43 3 l) /\ AllO n (allW f.fields inp orc (nX ρ n)) r u l):=by
 have hC:=λH q1 q2 q3=>whCheck_any f ρ lv A n c B m d inp si so orc H hok q1 hn q2 (by omega) ki ti q3 hO;have few:=hok.fields.few;have hOr:=λH q=>order_any f.fields (.slice A n c) H hok.fields q ρ lv hok.rank (by omega) (by omega);rw [<- hn] at hOr;have hod:Ordd f.fields ρ lv (nX ρ n):=by rw [hn]; exact oX hok.rank (by omega)
 have hol:=hod.len;have hrun:=run_inv hok.fields ki ko hod;have hon:∀ (g:Fd) (u sk:Value) (kn:Env) (H:Vw),g∈f.fields -> IsArgs H g.src u -> RS H 7 si (cQ inp) -> RS H 7 so (rJ orc) -> RS H 7 sk (cQ kn) -> kn.length <= 1000 -> (∀ p∈kn,OkV p.2) -> _:=λg u sk kn H q0 q1 q2 q3 q4 q5 q6=>one_any f.fields g u inp si orc so kn sk H (hok.fields.each g q0) q1 q2 q3 q4 li lo q5 q6;obtain ⟨A1,c1,rfl,-,-,-⟩:=hi.form;obtain ⟨A2,c2,rfl,-,-,-⟩:=ho.form;rw [Hj] at *;rw [Hj] at *;obtain ⟨vs,A3,c3,e3,-,-,hr3,hs3,hl3,hsl⟩:=gQ hf.fields;simp only [Jk] at e3;obtain ⟨rfl,-,rfl⟩:=e3;rw [<- hn] at hr3 hl3;have hstep:=λk i (hi:(nX ρ n)[k]?=some i) (g:Fd) (hg:f.fields[i]?=some g)=>run_at f.fields inp orc (nX ρ n) k i hi g hg;show C0 _ _ _ _ (λr h'=>∃ u l,Ent.ok h.w.heap.size h'.w (.row u 43 3 l) /\ AllO n (runW f.fields inp orc (nX ρ n)).1 r u l);have hlt':=λi (q:i∈nX ρ n)=>hod.lt q;rw [<- hn] at hlt' hol;have hlen:=λk q=>(hrun k q).len;have hkl:=λk q=>(hrun k q).klen;have hok':=λk q=>(hrun k q).ok;clear hrun hod;have hw0:runW f.fields inp orc []=(List.replicate n zV,[]):=by rw [hn]; rfl
 generalize nX ρ n=os at *;generalize runW f.fields inp orc=rw' at *;generalize hni:inp.length=ni at *;generalize hno:orc.length=no at *;refine wQ Tryz.func60 (c:=Tryz.f60.body.getD .skip) (N:=66) ?_;intro hbx hbad Q hQ;refine go1 30 [.own,.b 0 0,.cl 97 #[.agg #[.slice A n c,.slice B m d],.slice A1 ni c1,.slice A2 no c2] (Vi 0),.b 0 0] [] ?_ (ho:=(Aj (λH sH=>hC _ (hf.sees sH) (hi.sees sH) (ho.sees sH)) (trivial)));intro b1;refine qQ (λH sH=>hOr _ ((hf.sees sH)).fields) ?_; rintro _ W2 S3 ⟨A4,c4,rfl,hro⟩;refine go0 12 [.b 0 0] [] ?_;refine g_makek (t:=33) (e:=43) (z:=.agg #[Vi 0,Vi 0,Ve]) (cs:=[Vi 0,Vi 0,Ve]) (x:=(.tmp 30)) (by_:=32) (m:=n) (kk:=3) (by kernel_rfl) Tryz.underlying33 (by kernel_rfl) rfl rfl (by decide) (by omega) (by omega) (by simp only [maxLen]; omega) ?_; intro b4;refine go0 17 [] [] ?_;refine iV 47 7 ?_;rw [show List.replicate n [Vi 0,Vi 0,.string ⟨#[]⟩]=zZ (List.replicate n zV) from by unfold zZ; rw [List.map_replicate]; rfl];refine eV [0,1,0,1,1,1,1,1] [.block 0,.seq [1,1,1,1,1,1]] (λ(k:Nat) X=>∃ (W5:Vw) (v:Value) (ov:List Vl) (kv:Env),X W5 [(1,.slice A1 ni c1),(2,.slice A2 no c2),(3,Vp b1),(11,Vs b4 n n),(32,.slice A4 n c4),(33,Vi (n:Int)),(34,Vi (k:Int)),(12,v)] [.row v 47 7 (cQ kv),.row (Vs b4 n n) 43 3 (zZ ov),.box b1 [.slice A n c,.slice B m d]] [] /\ Sees W2 W5 /\ (k <= n) /\ (rw' (os.take k)=(ov,kv))) (λk=>n - k) (0) (λX q=>⟨W2,(Vz),List.replicate n zV,[],q _ _ _ _ ⟨rfl,by kernel_rfl⟩,Sees.refl _,Kj _,hw0⟩) ?_;rintro k a w ⟨W5,v,ov,kv,hJ,S6,hk,hv⟩; refine jV hJ ?_; clear hJ a w;refine go0 6 [] [] ?_;rcases (by omega:k < n\/k=n) with hlt | hke
 ·obtain ⟨i,hoi⟩:∃ i,os[k]?=some i:=⟨_,Gj (by omega)⟩;have hil:=hlt' i (Dj hoi);obtain ⟨g,hg⟩:∃ g,f.fields[i]?=some g:=⟨_,Gj (by omega)⟩;obtain ⟨u,hu⟩:∃ u,vs[i]?=some u:=⟨_,Gj (by omega)⟩;have hrow:=eQ hg hu;have hga:∀ H,AllSrc H f.fields vs -> IsArgs H g.src u:=λH q=>AllArgs.get q (x:=g.src) (by rw [Nj,hg]; rfl) hu;obtain ⟨Au,nu,cu,rfl⟩:=(hga _ hs3).slice;have hro1:(sW os)[k]?=some [Vi (i:Int)]:=by rw [Nj,hoi]; rfl
  have hl1:=hlen k (by omega);have hl2:=hkl k (by omega);have hl3':=hok' k (by omega);have hst:=hstep k i hoi g hg;rw [hv] at hl1 hl2 hl3' hst;simp only at hl1 hl2 hl3' hst;rw [Uj] at hl2;obtain ⟨x0,hx0⟩:∃ x,ov[i]?=some x:=⟨_,Gj (by omega)⟩;have hx1:=vlRows_get hx0;have hon':=λsk H q1 q2 q3 q4=>hon g (.slice Au nu cu) sk kv H (Dj hg) q1 q2 q3 q4 (by omega) hl3';have hfr:(cQ kv).length=kv.length:=Hj _;generalize dX g inp orc kv=xv at *;have hx2:((zZ ov).set i [Vi xv.k,Vi xv.n,.string xv.s])[i]?=some [Vi xv.k,Vi xv.n,.string xv.s]:=Hv (by rw [Hj]; omega);refine oV (t:=decide ((k:Int) < (n:Int))) (Mj (by omega)) ?_;refine go0 6 [] [] ?_;obtain ⟨b7,o8,rfl,-,c9⟩:=RS.row hro (hro1);refine xQ (c9.sees S6) ?_;refine go0 12 [.ix b7 o8 n c4 k,.f 0 0,.b 2 0] [] ?_ (ho:=(Aj (by first | omega | (simp; omega)) (trivial)));obtain ⟨b10,o11,rfl,-,c12⟩:=RS.row hr3 (hrow);refine xQ (c12.sees (S3.trans S6)) ?_;refine go0 5 [.ix b10 o11 n c i,.f 0 0] [] ?_ (ho:=(Aj (by first | omega | (simp; omega)) (trivial)));refine g_callq (λa w hJ=>hon' _ _ (hga _ (hs3.sees (S3.trans (S6.trans hJ.j.seesQ)))) (hi.sees (S3.trans (S6.trans hJ.j.seesQ))) (ho.sees (S3.trans (S6.trans hJ.j.seesQ))) (hJ.j.rowQ (v:=v) (e:=47) (k:=7) (l:=cQ kv) 0 (by kernel_rfl))) ?_; intro W13 S14;refine go0 1 [.ix b4 0 n n i] [] ?_ (ho:=(Aj (by first | omega | (simp; omega)) (trivial)));refine g_rowset 1 i 0 (g:=b4) (m:=n) (cap:=n) (kk:=3) (e:=43) (l:=zZ ov) (r:=[Vi x0.k,Vi x0.n,.string x0.s]) (r':=[Vi xv.k,Vi xv.n,.string xv.s]) (t:=43) (x:=(.tmp 49)) (y:=(.tmp 48)) (v:=.agg #[Vi xv.k,Vi xv.n,.string xv.s]) (hx1) ?_;refine go0 2 [] [] ?_;have c15:=RS.cell hr3 (hrow);refine xQ (c15.sees (S3.trans (S6.trans S14))) ?_;refine lV 15 0 [.pu,.pu,.ld 2 0,.pu,.v (λgh=>.pointer (some ⟨b10,o11 + i * 9,none⟩)),.pu,.lf 0 0,.pu,.pu,.v (λgh=>.pointer (some ⟨b4,0 + i * 3,none⟩)),.v (λgh=>.agg #[Vi xv.k,Vi xv.n,.string xv.s]),.pu,.f (λgh=>.slice (some ⟨(wJ (gh 12)),0,none⟩) 1 1) (λgh hh=>Cells hh (wJ (gh 12)) 0 [Vt g.name,Vi 0,Vi 0,Ve,Vi xv.k,Vi xv.n,.string xv.s]),.e (λgh=>sL (gh 13)) 0 (λgh=>.row (sL (gh 13)) 47 7 ((cQ kv)++[[Vt g.name,Vi 0,Vi 0,Ve,Vi xv.k,Vi xv.n,.string xv.s]])),.pu] [(12,true),(13,false)] (Aj (λ_ _ _ s c=>c.sees s) (trivial)) ?_ ?_
  ·intro R hT hA hmono;refine Aj (pZ hT hA b10 o11 n c i (λgh=>.pointer (some ⟨b10,o11 + i * 9,none⟩)) (by first | omega | (simp; omega))) ?_;refine Aj (pZ hT hA b4 0 n n i (λgh=>.pointer (some ⟨b4,0 + i * 3,none⟩)) (by first | omega | (simp; omega))) ?_;refine Aj (kY hT hA 60 (λgh=>.agg #[Vi xv.k,Vi xv.n,.string xv.s]) [9] 10 1 (GN R 1) b4 n n 3 43 ((zZ ov).set i [Vi xv.k,Vi xv.n,.string xv.s]) i 0 (r:=[Vi xv.k,Vi xv.n,.string xv.s]) (hx2) 43 (.tmp 59)) ?_;refine Aj (jY hT hA hmono ⟨λ_ _=>by kernel_rfl,λ_ _=>by kernel_rfl,λ_ _=>by kernel_rfl⟩ 62 (λg=>Vs g 1 1) [11] 12 (λgh=>[Vt g.name,Vi 0,Vi 0,Ve,Vi xv.k,Vi xv.n,.string xv.s]) 47 (λgh zb zH zc zj zq zhq zhe=>pX (i:=12) (k:=0) (f:=λgh hh=>Cells hh (wJ (gh 12)) 0 [Vt g.name,Vi 0,Vi 0,Ve,Vi xv.k,Vi xv.n,.string xv.s]) (by kernel_rfl) (by kernel_rfl) zc zj zq zhq zhe)) ?_;refine Aj (fY hT hA hmono ⟨λ_ _=>by kernel_rfl,λ_ _=>by kernel_rfl,λ_ _=>by kernel_rfl⟩ 63 [0,12] 13 0 (GN R 0) (λgh=>v) 31 47 7 (λgh=>cQ kv) (λgh=>[[Vt g.name,Vi 0,Vi 0,Ve,Vi xv.k,Vi xv.n,.string xv.s]]) (.tmp 50) (.tmp 62) (λgh=>(wJ (gh 12))) 1 1 0 12 (λgh hh=>Cells hh (wJ (gh 12)) 0 [Vt g.name,Vi 0,Vi 0,Ve,Vi xv.k,Vi xv.n,.string xv.s]) (λ_ _ c=>c) Tryz.underlying31 (zv:=.agg #[Ve,Vi 0,Vi 0,Ve,Vi 0,Vi 0,Ve]) (bytes:=80) (λ_=>by constructor <;> (simp; omega))) ?_
   trivial
  rintro b17 v63 W18 S19 ⟨f16,-⟩;replace f16:Cells W18 b17 0 [Vt g.name,Vi 0,Vi 0,Ve,Vi xv.k,Vi xv.n,.string xv.s]:=f16;refine xQ f16 ?_;refine go0 6 [] [(64,Vi (IntKind.i64.wrap ((k:Int) + 1)),Vi ((k:Int) + 1))] ?_ (hc:=(Aj (jJ (by omega) (by omega)) (trivial)));refine cV [(1,.slice A1 ni c1),(2,.slice A2 no c2),(3,Vp b1),(11,Vs b4 n n),(32,.slice (some ⟨b7,o8,none⟩) n c4),(33,Vi (n:Int)),(12,sL v63),(34,Vi ((k:Int) + 1))] [.row (sL v63) 47 7 ((cQ kv)++[[Vt g.name,Vi 0,Vi 0,Ve,Vi xv.k,Vi xv.n,.string xv.s]]),.row (Vs b4 n n) 43 3 ((zZ ov).set i [Vi xv.k,Vi xv.n,.string xv.s]),.box b1 [.slice (some ⟨b10,o11,none⟩) n c,.slice B m d]] [] ?_;exact nV (k + 1) (λX q=>⟨W18,sL v63,ov.set i xv,kv++[(g.name,xv)],q _ _ _ _ (aZ (by rw [fcRows_snoc, <- vlRows_set])),(S6.trans (S14.trans S19)),by omega,hst⟩) (by omega)
 ·skip;have hta:os.take k=os:=by rw [hke, <- hol,Ik]
  rw [hta] at hv;refine yQ (t:=decide ((k:Int) < (n:Int))) (Jj (by omega)) ?_;refine go0 2 [] [] ?_;refine dV ?_;refine go0 10 [] [] ?_;refine hQ.toJ [Vs b4 n n,Vi 0] [] (λa w hJ=>?_);have fo:=hJ.rowOwn (v:=Vs b4 n n) (e:=43) (kk:=3) (l:=zZ ov) 1 (by kernel_rfl);exact ⟨_,_,fo,rfl,⟨_,_,rfl⟩,by rw [hv]⟩
theorem whAll_any (f:Fm) (ρ:List Int) (lv:Nat -> Nat) (A:Option Addr) (n c:Nat) (B:Option Addr) (m d:Nat) (inp:Env) (si so:Value) (orc:List Aw) (h:Vw) (hok:OkFm f ρ lv) (hf:IsForm h (.slice A n c) (.slice B m d) f) (hn:n=f.fields.length) (h1:1 <= n)
  (hi:RS h 7 si (cQ inp)) (li:inp.length <= 1000) (ki:∀ p∈inp,p.2.known) (ti:yK f.fields [] inp=0) (ho:RS h 7 so (rJ orc)) (lo:orc.length <= 1000) (ko:∀ p∈orc,OkV p.has)
  (hO:∀ H,IsForm H (.slice A n c) (.slice B m d) f -> RS H 7 so (rJ orc) -> C0 Tryz.prog 131 #[.agg #[.slice A n c,.slice B m d],so] H (λr _=>r=Vi 0)) :
  C0 Tryz.prog 60 #[.agg #[.slice A n c,.slice B m d],si,so] h (λr h'=>∃ A' c',r=.tuple #[.slice A' n c',Vi 0] /\ RS h' 3 (.slice A' n c') (zZ (allW f.fields inp orc (nX ρ n)))):=by
 intro a1 a2 a3 a4;refine (whAll_own f ρ lv A n c B m d inp si so orc h hok hf hn h1 hi li ki ti ho lo ko hO a1 a2 a3 a4).mono ?_;rintro e w' ⟨v,Bo,g1,g2,g3,g4,u,l,g5,rfl,⟨A',c',rfl⟩,rfl⟩;exact ⟨_,Bo,g1,g2,g3,g4,A',c',rfl,row_rs g5 (λb hb hm=>by have:=a4 b hm; have:=(g5.1.lt b hb).1; omega)⟩
theorem Pol.ok.old {p:Pol} (hp:p.ok):OkPol p.t p.b p.c:=⟨hp.t1,hp.t6,hp.b1,hp.bc,hp.cm⟩
theorem c_gapChk (p:Pol) (hp:p.ok) (h:Vw):C0 Tryz.prog 53 #[.agg #[Vi p.t,Vi p.b,Vi p.c]] h (λr _=>r=Vi 0):=C0.of_gives (λw=>gap_check p.t p.b p.c w hp.t1 hp.t6 hp.b1 hp.bc hp.cm) h
theorem chk_idle (p:Pol) (hp:p.ok) (h:Vw):C0 Tryz.prog 70 #[.agg #[Vi clZ.st,Vi clZ.id,Vi clZ.tr,Vi clZ.key.k,Vi clZ.key.n,.string clZ.key.s,Vi clZ.has.k,Vi clZ.has.n,.string clZ.has.s,Vi clZ.nx],.agg #[Vi p.t,Vi p.b,Vi p.c]] h (λr _=>r=Vi 0):=by
 have hg:=c_gapChk p hp;refine wQ Tryz.func70 (c:=Tryz.f70.body.getD .skip) (N:=105) ?_;intro hbx hbad Q hQ;refine go2 67 [.own,.own,.b 0 0,.cl 53 #[.agg #[Vi p.t,Vi p.b,Vi p.c]] (Vi 0),.b 1 0,.b 1 0,.b 1 0,.b 1 0] [] ?_ (ho:=(Aj (λH sH=>hg _) (trivial)));intro b1 b2;refine hQ.to [Vi 0] (λH sH=>?_);exact rfl
theorem c_chk (p:Pol) (hp:p.ok) (c:Cl) (hc:ClOk p c) (h:Vw):C0 Tryz.prog 70 #[.agg #[Vi c.st,Vi c.id,Vi c.tr,Vi c.key.k,Vi c.key.n,.string c.key.s,Vi c.has.k,Vi c.has.n,.string c.has.s,Vi c.nx],.agg #[Vi p.t,Vi p.b,Vi p.c]] h (λr _=>r=Vi 0):=by
 rcases hc with rfl | hb
 ·exact chk_idle p hp h
 ·obtain ⟨st,id,tr,⟨kk,kn,ks⟩,has,nx⟩:=c;obtain ⟨s1,s3,i1,i2,t1,t2,n0,n1,key,ask,knw,giv⟩:=hb;have s1':1 <= st:=s1;have s3':st <= 3:=s3;rcases (by omega:st=1\/st=2\/st=3) with rfl | rfl | rfl
  ·obtain rfl:=ask rfl;exact C0.of_gives (λw=>call_check_ask p.t p.b p.c id tr kk kn nx ks w hp.old i1 i2 t1 t2 n0 n1 key) h
  ·obtain ⟨hk,rfl⟩:=knw rfl;obtain ⟨hk1,hn1,hs1⟩:=has;exact C0.of_gives (λw=>call_check_known p.t p.b p.c id tr kk kn hk1 hn1 ks hs1 w hp.old i1 i2 t1 t2 key hk) h
  ·obtain ⟨rfl,rfl,e⟩:=giv rfl;simp only at e;subst e;exact C0.of_gives (λw=>call_check_given p.t p.b p.c id p.t kk kn ks w hp.old i1 i2 rfl key) h
theorem c_start (p:Pol) (hp:p.ok) (id now:Int) (key:Vl) (hk:key.known) (i1:1 <= id) (i2:id <= 1073741824) (n0:0 <= now) (n1:now <= 1073741824) (h:Vw) :
  C0 Tryz.prog 161 #[.agg #[Vi p.t,Vi p.b,Vi p.c],Vi id,.agg #[Vi key.k,Vi key.n,.string key.s],Vi now] h (λr _=>r=.tuple #[.agg #[Vi 1,Vi id,Vi 1,Vi key.k,Vi key.n,.string key.s,Vi 0,Vi 0,.string ⟨#[]⟩,Vi (now + p.b)],Vi 0]) :=
 C0.of_gives (λw=>call_start p.t p.b p.c id key.k key.n now key.s w hp.old i1 i2 n0 n1 hk) h
theorem c_ansC (c:Cl) (h:Vw):C0 Tryz.prog 98 #[.agg #[Vi c.st,Vi c.id,Vi c.tr,Vi c.key.k,Vi c.key.n,.string c.key.s,Vi c.has.k,Vi c.has.n,.string c.has.s,Vi c.nx]] h (λr _=>r=(tJ c).val):=by
 refine wQ Tryz.func98 (c:=Tryz.f98.body.getD .skip) (N:=13) ?_;intro hbx hbad Q hQ;refine go2 20 [.own,.own,.b 1 0] [] ?_;intro b1 b2
 by_cases h2:c.st=2
 ·have e:tJ c=c.has:=by unfold tJ; rw [Cj h2]
  refine oV (t:=c.st == 2) (Zj.2 h2) ?_;refine go0 10 [.b 1 6,.b 0 0] [] ?_;refine hQ.to [.agg #[Vi c.has.k,Vi c.has.n,.string c.has.s]] (λH sH=>?_) (ix:=[0]);exact Ej Vl.val e.symm
 ·skip;refine yQ (t:=c.st == 2) (Lj.2 h2) ?_
  refine go0 6 [] [] ?_
  by_cases h3:c.st=3
  ·have e:tJ c=⟨5,14,⟨#[]⟩⟩:=by unfold tJ; rw [Bj h2,Cj h3]
   refine oV (t:=c.st == 3) (Zj.2 h3) ?_;refine go0 9 [.b 0 0] [] ?_;refine hQ.to [.agg #[Vi 5,Vi 14,Ve]] (λH sH=>?_) (ix:=[0]);exact Ej Vl.val e.symm
  ·skip;have e:tJ c=pdV:=by unfold tJ; rw [Bj h2,Bj h3]
   refine yQ (t:=c.st == 3) (Lj.2 h3) ?_;refine go0 10 [.b 0 0] [] ?_;refine hQ.to [.agg #[Vi 4,Vi 0,Ve]] (λH sH=>?_) (ix:=[0]);exact Ej Vl.val e.symm
theorem kn_dec (v:Vl) (hv:OkV v) (h:Vw):C0 Tryz.prog 73 #[.agg #[Vi v.k,Vi v.n,.string v.s]] h (λr _=>r=.bool (decide (v.k <= 3))):=by
 by_cases q:v.k <= 3
 ·rw [Mj q];rcases hv with k | rfl | ⟨k,-⟩
  ·exact c_kn v.k v.n v.s h k
  ·exact absurd q (by decide)
  ·omega
 ·rw [Jj q];exact known_no v h q (ok_kinds hv).1
def turnR (r:Cl × Bool):Value:=.tuple #[.agg r.1.cells.toArray,.bool r.2,Vi 0]
theorem c_turn (p:Pol) (hp:p.ok) (c:Cl) (hc:ClOk p c) (id now:Int) (key:Vl) (hk:OkV key) (i1:1 <= id) (i2:id <= 1073741824) (n0:0 <= now) (n1:now <= 1073741824) (h:Vw) :
  C0 Tryz.prog 129 #[.agg #[Vi c.st,Vi c.id,Vi c.tr,Vi c.key.k,Vi c.key.n,.string c.key.s,Vi c.has.k,Vi c.has.n,.string c.has.s,Vi c.nx],.agg #[Vi p.t,Vi p.b,Vi p.c],Vi id,.agg #[Vi key.k,Vi key.n,.string key.s],Vi now] h (λr _=>r=turnR (wZ p id now key c)):=by
 have hg:=c_chk p hp c hc;have hv:=λH=>check_okv key H hk;have hd:=kn_dec key hk
 by_cases q:key.k <= 3
 ·have kn:key.known:=by
   rcases hk with k | rfl | ⟨k,-⟩
   ·exact k
   ·exact absurd q (by decide)
   ·omega
  have hs:=c_start p hp id now key kn i1 i2 n0 n1;rw [Mj q] at hd;refine wQ Tryz.func129 (c:=Tryz.f129.body.getD .skip) (N:=57) ?_;intro hbx hbad Q hQ;refine go3 5 [.own,.own,.own] [] ?_;intro b1 b2 b3;refine go1 58 [.own,.b 3 0,.b 2 0,.cl 70 #[.agg #[Vi c.st,Vi c.id,Vi c.tr,Vi c.key.k,Vi c.key.n,.string c.key.s,Vi c.has.k,Vi c.has.n,.string c.has.s,Vi c.nx],.agg #[Vi p.t,Vi p.b,Vi p.c]] (Vi 0),.b 1 0,.cl 58 #[.agg #[Vi key.k,Vi key.n,.string key.s]] (Vi 0),.b 1 0,.cl 73 #[.agg #[Vi key.k,Vi key.n,.string key.s]] (.bool true),.b 3 0] [] ?_ (ho:=(Aj (λH sH=>hg _) (Aj (λH sH=>hv _) (Aj (λH sH=>hd _) (trivial)))));intro b4
  by_cases s0:c.st=0
  ·have e:=turn_new (p:=p) (id:=id) (now:=now) q (λ(k:c.st≠0 /\ eqB c.key key=true)=>k.1 s0);refine mV 37 (v:=.bool (c.st != 0)) (v':=.bool false) (Ej Value.bool (Kk.2 s0)) ?_;refine go0 16 [.b 2 0,.b 1 0] [] ?_;refine qQ (λH sH=>hs _) ?_; rintro _ W5 S6 rfl;refine go1 27 [.own,.b 0 0,.b 0 0,.b 1 0] [] ?_;intro b7;refine hQ.to [.agg #[Vi 1,Vi id,Vi 1,Vi key.k,Vi key.n,.string key.s,Vi 0,Vi 0,Ve,Vi (now + p.b)],.bool true,Vi 0] (λH sH=>?_) (ix:=[1]);exact Ej turnR e.symm
  ·skip;refine mV 37 (v:=.bool (c.st != 0)) (v':=.bool true) (Ej Value.bool (Ek.2 s0)) ?_
   by_cases e:eqB c.key key=true
   ·have e':=xZ (p:=p) (id:=id) (now:=now) q s0 e;refine go0 3 [.b 3 3,.b 1 0] [] ?_;refine kV (.bool true) (λw=>run_eqop (x:=(.tmp 39)) (y:=(.tmp 40)) (v:=c.key) (w:=key) (by kernel_rfl) (by kernel_rfl) (by kernel_rfl) (e)) ?_;refine go0 14 [.b 3 0,.b 0 0] [] ?_;refine hQ.to [.agg #[Vi c.st,Vi c.id,Vi c.tr,Vi c.key.k,Vi c.key.n,.string c.key.s,Vi c.has.k,Vi c.has.n,.string c.has.s,Vi c.nx],.bool false,Vi 0] (λH sH=>?_) (ix:=[0]);exact Ej turnR e'.symm
   ·skip;have e':=turn_new (p:=p) (id:=id) (now:=now) q (λ(k:c.st≠0 /\ eqB c.key key=true)=>e k.2)
    refine go0 3 [.b 3 3,.b 1 0] [] ?_;refine kV (.bool false) (λw=>run_eqop (x:=(.tmp 39)) (y:=(.tmp 40)) (v:=c.key) (w:=key) (by kernel_rfl) (by kernel_rfl) (by kernel_rfl) (Mx.2 e)) ?_;refine go0 12 [.b 2 0,.b 1 0] [] ?_;refine qQ (λH sH=>hs _) ?_; rintro _ W8 S9 rfl;refine go1 27 [.own,.b 0 0,.b 0 0,.b 1 0] [] ?_;intro b10;refine hQ.to [.agg #[Vi 1,Vi id,Vi 1,Vi key.k,Vi key.n,.string key.s,Vi 0,Vi 0,Ve,Vi (now + p.b)],.bool true,Vi 0] (λH sH=>?_) (ix:=[1]);exact Ej turnR e'.symm
 ·have e:=turn_no (p:=p) (id:=id) (now:=now) (c:=c) q;rw [Jj q] at hd;refine wQ Tryz.func129 (c:=Tryz.f129.body.getD .skip) (N:=57) ?_;intro hbx hbad Q hQ;refine go3 5 [.own,.own,.own] [] ?_;intro b1 b2 b3;refine go1 59 [.own,.b 3 0,.b 2 0,.cl 70 #[.agg #[Vi c.st,Vi c.id,Vi c.tr,Vi c.key.k,Vi c.key.n,.string c.key.s,Vi c.has.k,Vi c.has.n,.string c.has.s,Vi c.nx],.agg #[Vi p.t,Vi p.b,Vi p.c]] (Vi 0),.b 1 0,.cl 58 #[.agg #[Vi key.k,Vi key.n,.string key.s]] (Vi 0),.b 1 0,.cl 73 #[.agg #[Vi key.k,Vi key.n,.string key.s]] (.bool false),.b 0 0] [] ?_ (ho:=(Aj (λH sH=>hg _) (Aj (λH sH=>hv _) (Aj (λH sH=>hd _) (trivial)))));intro b4;refine hQ.to [.agg #[Vi 0,Vi 0,Vi 0,Vi 0,Vi 0,Ve,Vi 0,Vi 0,Ve,Vi 0],.bool false,Vi 0] (λH sH=>?_) (ix:=[0]);exact Ej turnR e.symm
theorem c_letter (nm:ByteArray) (c:Cl) (h1:c.st=1) (h:Vw):C0 Tryz.prog 72 #[Vt nm,.agg #[Vi c.st,Vi c.id,Vi c.tr,Vi c.key.k,Vi c.key.n,.string c.key.s,Vi c.has.k,Vi c.has.n,.string c.has.s,Vi c.nx]] h (λr _=>r=.tuple #[.agg (ltOf nm c).cells.toArray,Vi 0]):=by
 refine wQ Tryz.func72 (c:=Tryz.f72.body.getD .skip) (N:=16) ?_;intro hbx hbad Q hQ;refine go2 31 [.own,.own,.b 1 0,.b 1 1,.b 1 3,.b 0 0] [(8,.bool (c.st != 1),.bool false)] ?_ (hc:=(Aj (Ej Value.bool (Kk.2 h1)) (trivial)));intro b1 b2;refine hQ.to [.agg #[Vt nm,Vi c.id,Vi c.key.k,Vi c.key.n,.string c.key.s,Vi 0,Vi 0,Ve],Vi 0] (λH sH=>?_) (ix:=[0]);exact rfl
def aA (p:Pol) (now:Int) (c:Cl):Cl × Bool :=
 if c.st≠1\/now < c.nx then (c,false) else if c.tr=p.t then (⟨3,c.id,c.tr,c.key,c.has,0⟩,false) else (⟨c.st,c.id,c.tr + 1,c.key,c.has,now + gapV p.b p.c (c.tr + 1)⟩,true)
theorem wake_stays {p:Pol} {now:Int} {c:Cl} (h:c.st≠1\/now < c.nx):aA p now c=(c,false):=by unfold aA; rw [Cj h]
theorem wake_gives {p:Pol} {now:Int} {c:Cl} (h:¬ (c.st≠1\/now < c.nx)) (h2:c.tr=p.t):aA p now c=(⟨3,c.id,c.tr,c.key,c.has,0⟩,false):=by unfold aA; rw [Bj h,Cj h2]
theorem wake_again {p:Pol} {now:Int} {c:Cl} (h:¬ (c.st≠1\/now < c.nx)) (h2:c.tr≠p.t):aA p now c=(⟨c.st,c.id,c.tr + 1,c.key,c.has,now + gapV p.b p.c (c.tr + 1)⟩,true):=by unfold aA; rw [Bj h,Bj h2]
theorem wake_ok {p:Pol} (hp:p.ok) {now:Int} {c:Cl} (hc:ClOk p c) (n0:0 <= now) (n1:now <= 1073741824):ClOk p (aA p now c).1 /\ (aA p now c).1.id=c.id /\ ((aA p now c).1.st≠0 -> c.st≠0) /\ ((aA p now c).1.st=2 -> (aA p now c).1=c) /\ (aA p now c).1.key=c.key:=by
 by_cases h:c.st≠1\/now < c.nx
 ·rw [wake_stays h]; exact ⟨hc,rfl,id,λ_=>rfl,rfl⟩
 ·have h1:c.st=1:=by omega
  have hb:=hc.live (by omega);obtain ⟨s1,s3,i1,i2,t1,t2,m0,m1,key,ask,knw,giv⟩:=hb
  by_cases h2:c.tr=p.t
  ·rw [wake_gives h h2];exact ⟨.inr ⟨by show (1:Int) <= 3; decide,by show (3:Int) <= 3; decide,i1,i2,t1,t2,Sq 0,by show (0:Int) <= _; decide,key,λq=>absurd (show (3:Int)=1 from q) (by decide),λq=>absurd (show (3:Int)=2 from q) (by decide),λ_=>⟨ask h1,rfl,h2⟩⟩,rfl,λ_=>by omega,λq=>absurd (show (3:Int)=2 from q) (by decide),rfl⟩
  ·rw [wake_again h h2];have g0:=gapV_lo (b:=p.b) (c:=p.c) (n:=c.tr + 1) hp.b1 hp.bc hp.cm (by omega) (by have:=hp.t6; omega);have g1:=gapV_hi (b:=p.b) (c:=p.c) (n:=c.tr + 1)
   have:=hp.cm
   exact ⟨.inr ⟨s1,s3,i1,i2,by show 1 <= c.tr + 1; omega,by show c.tr + 1 <= p.t; omega,by show 0 <= now + _; omega,by show now + _ <= 1073742824; omega,key,ask,λq=>absurd (h1.symm.trans q) (by decide),λq=>absurd (h1.symm.trans q) (by decide)⟩,rfl,λ_=>by omega,λq=>absurd (h1.symm.trans (show c.st=2 from q)) (by decide),rfl⟩
def wakeR (r:Cl × Bool):Value:=.tuple #[.agg r.1.cells.toArray,.bool r.2,Vi 0]
theorem c_wake (p:Pol) (hp:p.ok) (c:Cl) (hc:ClOk p c) (now:Int) (n0:0 <= now) (n1:now <= 1073741824) (h:Vw) :
  C0 Tryz.prog 37 #[.agg #[Vi c.st,Vi c.id,Vi c.tr,Vi c.key.k,Vi c.key.n,.string c.key.s,Vi c.has.k,Vi c.has.n,.string c.has.s,Vi c.nx],.agg #[Vi p.t,Vi p.b,Vi p.c],Vi now] h (λr _=>r=wakeR (aA p now c)):=by
 have hg:=c_chk p hp c hc;have hgo:c.st=1 -> c.tr≠p.t -> ∀ H,C0 Tryz.prog 71 #[.agg #[Vi p.t,Vi p.b,Vi p.c],Vi (c.tr + 1)] H (λr _=>r=.tuple #[Vi (gapV p.b p.c (c.tr + 1)),Vi 0]):=λh1 h2 H=>by
  obtain ⟨s1,s3,i1,i2,t1,t2,m0,m1,key,ask,knw,giv⟩:=hc.live (by omega);exact C0.of_gives (λw=>gap_of p.t p.b p.c (c.tr + 1) w hp.t1 hp.t6 hp.b1 hp.bc hp.cm (by omega) (by omega)) H
 have hgb:c.st=1 -> c.tr≠p.t -> 0 <= now + gapV p.b p.c (c.tr + 1) /\ now + gapV p.b p.c (c.tr + 1) <= 1073742824 /\ 1 <= c.tr /\ c.tr <= 6:=λh1 h2=>by
  obtain ⟨s1,s3,i1,i2,t1,t2,m0,m1,key,ask,knw,giv⟩:=hc.live (by omega);have g0:=gapV_lo (b:=p.b) (c:=p.c) (n:=c.tr + 1) hp.b1 hp.bc hp.cm (by omega) (by have:=hp.t6; omega);have g1:=gapV_hi (b:=p.b) (c:=p.c) (n:=c.tr + 1)
  have:=hp.cm
  have:=hp.t6
  omega
 refine wQ Tryz.func37 (c:=Tryz.f37.body.getD .skip) (N:=60) ?_;intro hbx hbad Q hQ;refine go3 48 [.own,.own,.own,.b 2 0,.b 1 0,.cl 70 #[.agg #[Vi c.st,Vi c.id,Vi c.tr,Vi c.key.k,Vi c.key.n,.string c.key.s,Vi c.has.k,Vi c.has.n,.string c.has.s,Vi c.nx],.agg #[Vi p.t,Vi p.b,Vi p.c]] (Vi 0),.b 2 0] [(20,.bool (decide (now < 0)),.bool false),(23,.bool (decide (now > 1073741824)),.bool false)] ?_ (ho:=(Aj (λH sH=>hg _) (trivial))) (hc:=(Aj (Ej Value.bool (Jj (by omega))) (Aj (Ej Value.bool (Jj (by omega))) (trivial))));intro b1 b2 b3
 by_cases h1:c.st=1
 ·refine mV 29 (v:=.bool (c.st != 1)) (v':=.bool false) (Ej Value.bool (Kk.2 h1)) ?_
  by_cases h2:now < c.nx
  ·have e:=wake_stays (p:=p) (now:=now) (c:=c) (.inr h2);refine go0 18 [.b 2 9,.b 2 0,.b 0 0] [(33,.bool (decide (c.nx > now)),.bool true)] ?_ (hc:=(Aj (Ej Value.bool (Mj h2)) (trivial)));refine hQ.to [.agg #[Vi c.st,Vi c.id,Vi c.tr,Vi c.key.k,Vi c.key.n,.string c.key.s,Vi c.has.k,Vi c.has.n,.string c.has.s,Vi c.nx],.bool false,Vi 0] (λH sH=>?_) (ix:=[0]);exact Ej wakeR e.symm
  ·skip;have hno:¬ (c.st≠1\/now < c.nx):=by omega
   refine go0 20 [.b 2 9,.b 2 2,.b 1 0] [(33,.bool (decide (c.nx > now)),.bool false)] ?_ (hc:=(Aj (Ej Value.bool (Jj h2)) (trivial)))
   by_cases h3:c.tr=p.t
   ·have e:=wake_gives hno h3;refine oV (t:=c.tr == p.t) (Zj.2 h3) ?_;refine go0 18 [.b 2 0,.b 2 9,.b 2 0,.b 0 0] [] ?_;refine hQ.to [.agg #[Vi 3,Vi c.id,Vi c.tr,Vi c.key.k,Vi c.key.n,.string c.key.s,Vi c.has.k,Vi c.has.n,.string c.has.s,Vi 0],.bool false,Vi 0] (λH sH=>?_) (ix:=[0]);exact Ej wakeR e.symm
   ·skip;have e:=wake_again (now:=now) hno h3
    have hgo':=hgo h1 h3;obtain ⟨b0,b1,b2,b3⟩:=hgb h1 h3;generalize gapV p.b p.c (c.tr + 1)=gp at *;refine yQ (t:=c.tr == p.t) (Lj.2 h3) ?_;refine go0 42 [.b 2 2,.b 2 2,.b 1 0,.b 2 2,.cl 71 #[.agg #[Vi p.t,Vi p.b,Vi p.c],Vi (c.tr + 1)] (.tuple #[Vi gp,Vi 0]),.b 2 9,.b 2 0,.b 0 0] [(46,Vi (IntKind.i64.wrap (c.tr + 1)),Vi (c.tr + 1)),(57,Vi (IntKind.i64.wrap (now + gp)),Vi (now + gp))] ?_ (ho:=(Aj (λH sH=>hgo' _) (trivial))) (hc:=(Aj (jJ (by omega) (by omega)) (Aj (jJ (by omega) (by omega)) (trivial))));refine hQ.to [.agg #[Vi c.st,Vi c.id,Vi (c.tr + 1),Vi c.key.k,Vi c.key.n,.string c.key.s,Vi c.has.k,Vi c.has.n,.string c.has.s,Vi (now + gp)],.bool true,Vi 0] (λH sH=>?_) (ix:=[0]);exact Ej wakeR e.symm
 ·skip;have e:=wake_stays (p:=p) (now:=now) (c:=c) (.inl h1)
  refine mV 29 (v:=.bool (c.st != 1)) (v':=.bool true) (Ej Value.bool (Ek.2 h1)) ?_;refine go0 18 [.b 2 0,.b 0 0] [] ?_;refine hQ.to [.agg #[Vi c.st,Vi c.id,Vi c.tr,Vi c.key.k,Vi c.key.n,.string c.key.s,Vi c.has.k,Vi c.has.n,.string c.has.s,Vi c.nx],.bool false,Vi 0] (λH sH=>?_) (ix:=[0]);exact Ej wakeR e.symm
def hearC (id:Int) (key has:Vl) (c:Cl):Cl × Bool :=
 if c.st=1 /\ c.id=id /\ eqB c.key key=true /\ has.k <= 3 then (⟨2,c.id,c.tr,c.key,has,0⟩,true) else (c,false)
theorem hear_yes {id:Int} {key has:Vl} {c:Cl} (h1:c.st=1) (h2:c.id=id) (h3:eqB c.key key=true) (h4:has.k <= 3):hearC id key has c=(⟨2,c.id,c.tr,c.key,has,0⟩,true):=by unfold hearC; rw [Cj ⟨h1,h2,h3,h4⟩]
theorem hear_no {id:Int} {key has:Vl} {c:Cl} (h:¬ (c.st=1 /\ c.id=id /\ eqB c.key key=true /\ has.k <= 3)):hearC id key has c=(c,false):=by unfold hearC; rw [Bj h]
theorem hear_ok {p:Pol} {id:Int} {key has:Vl} {c:Cl} (hc:ClOk p c) (hh:OkV has):ClOk p (hearC id key has c).1 /\ (hearC id key has c).1.id=c.id /\ ((hearC id key has c).1.st≠0 -> c.st≠0) /\ (hearC id key has c).1.key=c.key:=by
 by_cases h:c.st=1 /\ c.id=id /\ eqB c.key key=true /\ has.k <= 3
 ·obtain ⟨h1,h2,h3,h4⟩:=h;obtain ⟨s1,s3,i1,i2,t1,t2,m0,m1,hkey,ask,knw,giv⟩:=hc.live (by omega);have kn:has.known:=by
   rcases hh with k | rfl | ⟨k,-⟩
   ·exact k
   ·exact absurd h4 (by decide)
   ·omega
  rw [hear_yes h1 h2 h3 h4];exact ⟨.inr ⟨by show (1:Int) <= 2; decide,by show (2:Int) <= 3; decide,i1,i2,t1,t2,Sq 0,by show (0:Int) <= _; decide,hkey,λq=>absurd (show (2:Int)=1 from q) (by decide),λ_=>⟨kn,rfl⟩,λq=>absurd (show (2:Int)=3 from q) (by decide)⟩,rfl,λ_=>by omega,rfl⟩
 ·rw [hear_no h]; exact ⟨hc,rfl,λq=>q,rfl⟩
theorem c_hear (p:Pol) (hp:p.ok) (c:Cl) (hc:ClOk p c) (id:Int) (key has:Vl) (hh:OkV has) (h:Vw) :
  C0 Tryz.prog 45 #[.agg #[Vi c.st,Vi c.id,Vi c.tr,Vi c.key.k,Vi c.key.n,.string c.key.s,Vi c.has.k,Vi c.has.n,.string c.has.s,Vi c.nx],.agg #[Vi p.t,Vi p.b,Vi p.c],Vi id,.agg #[Vi key.k,Vi key.n,.string key.s],.agg #[Vi has.k,Vi has.n,.string has.s]] h (λr _=>r=wakeR (hearC id key has c)):=by
 have hg:=c_chk p hp c hc;have hd:=kn_dec has hh;refine wQ Tryz.func45 (c:=Tryz.f45.body.getD .skip) (N:=47) ?_;intro hbx hbad Q hQ;refine go3 5 [.own,.own,.own] [] ?_;intro b1 b2 b3;refine go2 31 [.own,.own,.b 4 0,.b 3 0,.cl 70 #[.agg #[Vi c.st,Vi c.id,Vi c.tr,Vi c.key.k,Vi c.key.n,.string c.key.s,Vi c.has.k,Vi c.has.n,.string c.has.s,Vi c.nx],.agg #[Vi p.t,Vi p.b,Vi p.c]] (Vi 0),.b 4 0] [] ?_ (ho:=(Aj (λH sH=>hg _) (trivial)));intro b4 b5
 by_cases h1:c.st=1
 ·refine mV 24 (v:=.bool (c.st != 1)) (v':=.bool false) (Ej Value.bool (Kk.2 h1)) ?_;refine go0 6 [.b 4 1] [] ?_
  by_cases h2:c.id=id
  ·refine mV 30 (v:=.bool (c.id != id)) (v':=.bool false) (Ej Value.bool (Kk.2 h2)) ?_
   by_cases h3:eqB c.key key=true
   ·skip
    by_cases h4:has.k <= 3
    ·have e:=hear_yes h1 h2 h3 h4;rw [Mj h4] at hd;refine go0 3 [.b 4 3,.b 2 0] [] ?_;refine kV (.bool false) (λw=>run_neqop (x:=(.tmp 32)) (y:=(.tmp 33)) (v:=c.key) (w:=key) (by kernel_rfl) (by kernel_rfl) (by kernel_rfl) (h3)) ?_;refine go0 12 [.b 1 0,.cl 73 #[.agg #[Vi has.k,Vi has.n,.string has.s]] (.bool true)] [] ?_ (ho:=(Aj (λH sH=>hd _) (trivial)));refine lV 7 0 [.ld 1 0,.pu,.st 4 0,.pu,.st 4 6,.pu,.st 4 9] [] (trivial) ?_ ?_
     ·intros; trivial
     rintro W6 S7 -;refine go0 10 [.b 4 0,.b 0 0] [] ?_;refine hQ.to [.agg #[Vi 2,Vi c.id,Vi c.tr,Vi c.key.k,Vi c.key.n,.string c.key.s,Vi has.k,Vi has.n,.string has.s,Vi 0],.bool true,Vi 0] (λH sH=>?_) (ix:=[0]);exact Ej wakeR e.symm
    ·skip;have e:=hear_no (id:=id) (key:=key) (has:=has) (c:=c) λq=>h4 q.2.2.2
     rw [Jj h4] at hd;refine go0 3 [.b 4 3,.b 2 0] [] ?_;refine kV (.bool false) (λw=>run_neqop (x:=(.tmp 32)) (y:=(.tmp 33)) (v:=c.key) (w:=key) (by kernel_rfl) (by kernel_rfl) (by kernel_rfl) (h3)) ?_;refine go0 19 [.b 1 0,.cl 73 #[.agg #[Vi has.k,Vi has.n,.string has.s]] (.bool false),.b 4 0,.b 0 0] [] ?_ (ho:=(Aj (λH sH=>hd _) (trivial)));refine hQ.to [.agg #[Vi c.st,Vi c.id,Vi c.tr,Vi c.key.k,Vi c.key.n,.string c.key.s,Vi c.has.k,Vi c.has.n,.string c.has.s,Vi c.nx],.bool false,Vi 0] (λH sH=>?_) (ix:=[0]);exact Ej wakeR e.symm
   ·skip;have e:=hear_no (id:=id) (key:=key) (has:=has) (c:=c) λq=>h3 q.2.2.1
    refine go0 3 [.b 4 3,.b 2 0] [] ?_;refine kV (.bool true) (λw=>run_neqop (x:=(.tmp 32)) (y:=(.tmp 33)) (v:=c.key) (w:=key) (by kernel_rfl) (by kernel_rfl) (by kernel_rfl) (Mx.2 h3)) ?_;refine go0 19 [.b 4 0,.b 0 0] [] ?_;refine hQ.to [.agg #[Vi c.st,Vi c.id,Vi c.tr,Vi c.key.k,Vi c.key.n,.string c.key.s,Vi c.has.k,Vi c.has.n,.string c.has.s,Vi c.nx],.bool false,Vi 0] (λH sH=>?_) (ix:=[0]);exact Ej wakeR e.symm
  ·skip;have e:=hear_no (id:=id) (key:=key) (has:=has) (c:=c) λq=>h2 q.2.1
   refine mV 30 (v:=.bool (c.id != id)) (v':=.bool true) (Ej Value.bool (Ek.2 h2)) ?_;refine go0 23 [.b 4 0,.b 0 0] [] ?_;refine hQ.to [.agg #[Vi c.st,Vi c.id,Vi c.tr,Vi c.key.k,Vi c.key.n,.string c.key.s,Vi c.has.k,Vi c.has.n,.string c.has.s,Vi c.nx],.bool false,Vi 0] (λH sH=>?_) (ix:=[0]);exact Ej wakeR e.symm
 ·skip;have e:=hear_no (id:=id) (key:=key) (has:=has) (c:=c) λq=>h1 q.1
  refine mV 24 (v:=.bool (c.st != 1)) (v':=.bool true) (Ej Value.bool (Ek.2 h1)) ?_;refine go0 29 [.b 4 0,.b 0 0] [] ?_;refine hQ.to [.agg #[Vi c.st,Vi c.id,Vi c.tr,Vi c.key.k,Vi c.key.n,.string c.key.s,Vi c.has.k,Vi c.has.n,.string c.has.s,Vi c.nx],.bool false,Vi 0] (λH sH=>?_) (ix:=[0]);exact Ej wakeR e.symm
theorem smallX_wf:WfE smallX:=by
 refine WfE.mk' (.inr (.inr ⟨(by decide:(3:Int) <= 8),(by decide:(8:Int) <= 18),rfl,rfl,rfl,rfl,rfl⟩)) (WfL.all λy hy=>?_);have hy:y∈[refE ⟨#[97]⟩,Ex.mk 1 1 1 ⟨#[]⟩ ⟨#[]⟩ []]:=hy;rcases Tj.1 hy with rfl | hy
 ·exact (wf_leaf (refE_ok ⟨by decide,by decide,⟨_,rfl,by decide⟩,by decide,by decide⟩) rfl).1
 ·rw [Pj.1 hy];exact (wf_leaf (x:=.mk 1 1 1 ⟨#[]⟩ ⟨#[]⟩ []) (.inl ⟨rfl,.inl ⟨rfl,(by unfold Lim; decide:Lim 1),rfl⟩,λ_=>(by decide:(0:Int) <= 1),rfl,rfl⟩) rfl).1
theorem smallB_wf:WfE smallB:=(wf_leaf (refE_ok (s:=⟨#[98]⟩) ⟨by decide,by decide,⟨_,rfl,by decide⟩,by decide,by decide⟩) rfl).1
theorem small_ok:OkFs smallF.fields:=by
 refine ⟨λf hf=>?_,by decide,by decide⟩;have hf:f∈[(⟨⟨#[98]⟩,2,1,smallX⟩:Fd),⟨⟨#[97]⟩,1,1,zE⟩,⟨⟨#[99]⟩,3,3,smallB⟩]:=hf;rcases Tj.1 hf with rfl | hf
 ·exact ⟨⟨by decide,by decide,⟨_,rfl,by decide⟩,by decide,by decide⟩,by decide,by decide,by decide,by decide,λh=>absurd h (show ¬ (2:Int)=1 by decide),λ_=>⟨smallX_wf,by decide,by decide⟩,λ_=>by decide,λh=>absurd h (show ¬ (2:Int)=3 by decide)⟩
 ·rcases Tj.1 hf with rfl | hf
  ·exact ⟨⟨by decide,by decide,⟨_,rfl,by decide⟩,by decide,by decide⟩,by decide,by decide,by decide,by decide,λ_=>rfl,λh=>absurd rfl h,λh=>absurd h (show ¬ (1:Int)=2 by decide),λh=>absurd h (show ¬ (1:Int)=3 by decide)⟩
  ·rw [Pj.1 hf];exact ⟨⟨by decide,by decide,⟨_,rfl,by decide⟩,by decide,by decide⟩,by decide,by decide,by decide,by decide,λh=>absurd h (show ¬ (3:Int)=1 by decide),λ_=>⟨smallB_wf,by decide,by decide⟩,λh=>absurd h (show ¬ (3:Int)=2 by decide),λ_=>⟨1,by decide,by decide,by decide⟩⟩
theorem names_one {x:Ex} {s:ByteArray} (h:nY x=[s]):qW x=[s]:=by
 unfold qW namesB;rw [h];have e:dd ([s].map λs:ByteArray=>s.data.toList)=[s.data.toList]:=by simp [dd]
 rw [e,List.mergeSort_singleton];simp
theorem small_needs:uW smallF.fields=[[1],[],[0]]:=by
 have e1:qW smallX=[⟨#[97]⟩]:=names_one (by decide);have e2:qW smallB=[⟨#[98]⟩]:=names_one (by decide);show [needE smallF.fields ⟨⟨#[98]⟩,2,1,smallX⟩,needE smallF.fields ⟨⟨#[97]⟩,1,1,zE⟩,needE smallF.fields ⟨⟨#[99]⟩,3,3,smallB⟩]=_;unfold needE;rw [Bj (by decide),Cj rfl,Bj (by decide)];have p1:plc smallF.fields ⟨#[97]⟩=1:=by
  unfold plc;rw [show (⟨#[97]⟩:ByteArray)=(⟨⟨#[97]⟩,1,1,zE⟩:Fd).name from rfl,jQ small_ok.nodup (i:=1) rfl]; rfl
 have p2:plc smallF.fields ⟨#[98]⟩=0:=by
  unfold plc;rw [show (⟨#[98]⟩:ByteArray)=(⟨⟨#[98]⟩,2,1,smallX⟩:Fd).name from rfl,jQ small_ok.nodup (i:=0) rfl]; rfl
 simp only [e1,e2,Ck,Dv,p1,p2]
theorem small_ranked:Ranked (uW smallF.fields) [1,0,2] (λi=>[1,0,2].getD i 0):=by
 rw [small_needs];exact ranked_ex (need:=[[1],[],[0]]) (lv:=λi=>[1,0,2].getD i 0) (by decide) (by decide)
theorem small_okG:OkGs smallF.fields smallF.pages:=by
 have hm:∀ p∈smallF.pages,p=⟨⟨#[112,49]⟩,[⟨#[97]⟩],zE⟩\/p=⟨⟨#[112,50]⟩,[⟨#[99]⟩],zE⟩:=λp hp=>by
  have hp:p∈[(⟨⟨#[112,49]⟩,[⟨#[97]⟩],zE⟩:Pg),⟨⟨#[112,50]⟩,[⟨#[99]⟩],zE⟩]:=hp;rcases Tj.1 hp with h | h
  ·exact .inl h
  ·exact .inr (Pj.1 h)
 have p1:iQ smallF.fields ⟨#[97]⟩=(1:Nat):=jQ small_ok.nodup (i:=1) (f:=⟨⟨#[97]⟩,1,1,zE⟩) rfl;have p2:iQ smallF.fields ⟨#[99]⟩=(2:Nat):=jQ small_ok.nodup (i:=2) (f:=⟨⟨#[99]⟩,3,3,smallB⟩) rfl;refine ⟨by decide,by decide,λp h=>?_,by decide,λp h=>?_,λp h s hs=>?_,by decide,λp h=>?_⟩
 ·rcases hm p h with rfl | rfl
  ·exact ⟨by decide,by decide,⟨_,rfl,by decide⟩,by decide,by decide⟩
  ·exact ⟨by decide,by decide,⟨_,rfl,by decide⟩,by decide,by decide⟩
 ·rcases hm p h with rfl | rfl <;> decide
 ·rcases hm p h with rfl | rfl
  ·rw [Pj.1 hs,p1]; omega
  ·rw [Pj.1 hs,p2]; omega
 ·rcases hm p h with rfl | rfl <;> exact .inl rfl
theorem mem_pgNames {fs:List Fd} {n k:Nat} {s:ByteArray}:s∈tX fs n k↔∃ (i:Nat) (f:Fd),fs[i]?=some f /\ i % (n + 1)=k /\ f.name=s:=by
 unfold tX;rw [Qj]
 constructor
 ·rintro ⟨⟨f,i⟩,h,rfl⟩;obtain ⟨h1,h2⟩:=Gq.1 h;exact ⟨i,f,Lw.1 h1,Zj.1 h2,rfl⟩
 ·rintro ⟨i,f,h1,h2,rfl⟩;exact ⟨(f,i),Gq.2 ⟨Lw.2 h1,Zj.2 h2⟩,rfl⟩
theorem pgNames_nodup {fs:List Fd} {n k:Nat} (h:(fs.map (λf:Fd=>f.name)).Nodup):(tX fs n k).Nodup:=by
 unfold tX;have e:fs.zipIdx.map (λp=>p.1.name)=fs.map (λf:Fd=>f.name):=by
  have:fs.zipIdx.map (λp=>p.1)=fs:=List.zipIdx_map_fst 0 fs
  calc fs.zipIdx.map (λp=>p.1.name)=(fs.zipIdx.map (λp=>p.1)).map (λf:Fd=>f.name):=by rw [Wv]; rfl
   _=_:=by rw [this]
 refine List.Sublist.nodup ?_ (e ▸ h);exact List.Sublist.map _ List.filter_sublist
theorem pgT_once {l:List RawD} {fs:List Fd} {n n0:Nat} (hd:(fs.map (λf:Fd=>f.name)).Nodup):∀ k,((mJ l fs n n0 k).1.flatMap (λp:Pg=>p.fields)).Nodup /\ ∀ s∈(mJ l fs n n0 k).1.flatMap (λp:Pg=>p.fields),∃ (i:Nat) (f:Fd),fs[i]?=some f /\ i % (n + 1) < k /\ f.name=s
 | 0=>⟨List.nodup_nil,λs hs=>by cases hs⟩
 | k + 1=>by
  obtain ⟨h1,h2⟩:=pgT_once (l:=l) (n:=n) (n0:=n0) hd k;have e:(mJ l fs n n0 (k + 1)).1.flatMap (λp:Pg=>p.fields)=(mJ l fs n n0 k).1.flatMap (λp:Pg=>p.fields)++tX fs n k:=by
   show ((mJ l fs n n0 k).1++[_]).flatMap _=_;rw [List.flatMap_append]; simp
  rw [e];refine ⟨Bq.2 ⟨h1,pgNames_nodup hd,λa ha b hb q=>?_⟩,λs hs=>?_⟩
  ·obtain ⟨i,f,f1,f2,f3⟩:=h2 a ha;obtain ⟨j,g,g1,g2,g3⟩:=mem_pgNames.1 hb;have q1:(fs.map (λf:Fd=>f.name))[i]?=some a:=by rw [Nj,f1]; simp [f3]
   have q2:(fs.map (λf:Fd=>f.name))[j]?=some a:=by rw [Nj,g1]; simp [g3,q]
   have:=(List.getElem?_inj (Oj.1 q1).1 hd).1 (q1.trans q2.symm)
   subst this;omega
  ·rcases Rj.1 hs with hs | hs
   ·obtain ⟨i,f,f1,f2,f3⟩:=h2 s hs;exact ⟨i,f,f1,by omega,f3⟩
   ·obtain ⟨j,g,g1,g2,g3⟩:=mem_pgNames.1 hs;exact ⟨j,g,g1,by omega,g3⟩
theorem pgT_names (l:List RawD) (fs:List Fd) (n n0:Nat):∀ k,(mJ l fs n n0 k).1.map (λp:Pg=>p.name)=(List.range k).map sX
 | 0=>rfl
 | k + 1=>by
  show ((mJ l fs n n0 k).1++[_]).map (λp:Pg=>p.name)=_;rw [Nk,pgT_names l fs n n0 k,List.range_succ,Nk]; rfl
theorem pgT_each (l:List RawD) (fs:List Fd) (n n0:Nat):∀ k,∀ p∈(mJ l fs n n0 k).1,∃ i m r,i < k /\ p=⟨sX i,tX fs n i,(skipE l fs r m).1⟩
 | 0,p,h=>by cases h
 | k + 1,p,h=>by
  have h:p∈(mJ l fs n n0 k).1++[_]:=h;rcases Rj.1 h with h | h
  ·obtain ⟨i,m,r,h1,h2⟩:=pgT_each l fs n n0 k p h;exact ⟨i,m,r,by omega,h2⟩
  ·exact ⟨k,_,_,by omega,Pj.1 h⟩
theorem pgName_ok {k:Nat} (h:k < 5):qJ (sX k).data.toList:=by
 match k,h with
 | 0,_=>exact ⟨by decide,by decide,⟨_,rfl,by decide⟩,by decide,by decide⟩
 | 1,_=>exact ⟨by decide,by decide,⟨_,rfl,by decide⟩,by decide,by decide⟩
 | 2,_=>exact ⟨by decide,by decide,⟨_,rfl,by decide⟩,by decide,by decide⟩
 | 3,_=>exact ⟨by decide,by decide,⟨_,rfl,by decide⟩,by decide,by decide⟩
 | 4,_=>exact ⟨by decide,by decide,⟨_,rfl,by decide⟩,by decide,by decide⟩
theorem pgName_inj {i j:Nat} (hi:i < 5) (hj:j < 5) (h:sX i=sX j):i=j:=by
 have key:∀ i,i < 5 -> ∀ j,j < 5 -> (sX i).data=(sX j).data -> i=j:=by decide
 exact key i hi j hj (Ej ByteArray.data h)
theorem form_okGs (l:List RawD):OkGs (nQ l).fields (nQ l).pages:=by
 have hn:=pW l;have hp:=nPages_le l;have hpl:=form_pages l;have hT:((fJ l (iJ l)).1.map (λf:Fd=>f.name)).Nodup:=by
  rw [fldT_names];refine Xw.2 (Hx.imp_of_mem ?_);intro a b ha hb hab e;exact hab (fname_inj (by have:=Mk.1 ha; omega) (by have:=Mk.1 hb; omega) e)
 have he:∀ p∈(nQ l).pages,∃ i m r,i < eJ l /\ p=⟨sX i,tX (fJ l (iJ l)).1 (eJ l) i,(skipE l (fJ l (iJ l)).1 r m).1⟩:=pgT_each _ _ _ _ _;have hok:=form_okFs l _ (form_nodup l) (λf=>Iff.rfl) (by rw [form_len]; omega);refine ⟨by omega,by omega,λp h=>?_,?_,λp h=>?_,λp h s hs=>?_,(pgT_once hT _).1,λp h=>?_⟩
 ·obtain ⟨i,m,r,hi,rfl⟩:=he p h;exact pgName_ok (by omega)
 ·show ((mJ l _ _ _ _).1.map (λp:Pg=>p.name)).Nodup;rw [pgT_names];refine Xw.2 (Hx.imp_of_mem ?_);intro a b ha hb hab e;exact hab (pgName_inj (by have:=Mk.1 ha; omega) (by have:=Mk.1 hb; omega) e)
 ·obtain ⟨i,m,r,hi,rfl⟩:=he p h
  have:=pgNames_len (fJ l (iJ l)).1 (eJ l) i
  rw [mQ] at this;show (tX _ _ _).length <= 100;omega
 ·obtain ⟨i,m,r,hi,rfl⟩:=he p h;obtain ⟨j,f,f1,-,rfl⟩:=mem_pgNames.1 hs;obtain ⟨k,hk⟩:=Yq.1 (form_mem.2 (Dj f1));rw [jQ (form_nodup l) hk];omega
 ·obtain ⟨i,m,r,hi,rfl⟩:=he p h;show (skipE l _ r m).1=zE\/_;unfold skipE
  split
  ·right
   have hnm:∀ f∈(fJ l (iJ l)).1,qJ f.name.data.toList:=λf hf=>(hok.each f (form_mem.2 hf)).name;obtain ⟨w1,w2,w3⟩:=genE_ok l _ hnm 1 2 m (by omega) (by omega);have ht:=ty_gen (fs:=(fJ l (iJ l)).1) (g:=tyF (nQ l).fields) (λf hf=>tyF_mem (form_nodup l) f (form_mem.2 hf)) l 1 2 m (by omega) (by omega);show (gJ l _ 1 2 m).1.op≠0 /\ _;generalize (gJ l (fJ l (iJ l)).1 1 2 m).1=x at *;have w2:(szE x).1 <= 4:=w2;refine ⟨?_,w1,by show (szE x).1 < 1000000; omega,?_⟩
   ·rcases w1.top with t | t | t <;> omega
   ·have cx:chkE x=0:=by unfold chkE; rw [Bj (by omega),Bj (by omega)]
    have ho:ofE (nQ l).fields x=(2,0):=by unfold ofE; rw [Cj cx,ht]
    show fitsE (nQ l).fields x 2=0;unfold fitsE;rw [ho]; rfl
  ·left; rfl
theorem form_okFm (l:List RawD):OkFm (nQ l) (rhoL (uW (nQ l).fields)) (lvF l):=⟨form_okFs l _ (form_nodup l) (λf=>Iff.rfl) (by have:=form_len l; have:=pW l; omega),form_okGs l,form_ranked l⟩
theorem form_ty (l:List RawD):∀ f∈(nQ l).fields,1 <= f.ty /\ f.ty <= 3:=λf hf=>by obtain ⟨_,_,_,_,q,_⟩:=form_each hf; exact q
structure InpOk (fs:List Fd) (env:Env):Prop where
 known:∀ p∈env,p.2.known
 told:yK fs [] env=0
 few:env.length <= fs.length
 once:(env.map (·.1)).Nodup
theorem int_len (l:List Int):Len 1 (rY l):=λr hr=>by obtain ⟨x,-,rfl⟩:=Qj.1 hr; rfl
theorem int_one (l:List Int):One (rY l):=λr hr u hu=>by
 obtain ⟨x,-,rfl⟩:=Qj.1 hr;rw [Pj.1 hu]; rfl
theorem info_int:(Tryz.prog.info? 3).map (λi=>(i.zero,i.size,i.bytes))=some (some (Vi 0),1,8):=by kernel_rfl
theorem clone_int (v:Value) (l:List (List Value)) (w:World) (h:Sl w 1 v l) (hk:Len 1 l) (h1:One l) (hl:l.length * 8 <= 140737488355328) :
  Calls Tryz.prog 59 #[v] w (oJ 3 1 l w):=by
 have q22:∀ (w:World) (a:Option Addr) (n c n' c':Nat),(binOp .eql 72 (.slice a n c) (.slice none n' c')).run Tryz.prog w=.ok (.bool a.isNone) w:=λw a n c n' c'=>Tx w _ _ a n c n' c' Tryz.underlying72;obtain ⟨A,cap,rfl,c1,c2,hA⟩:=h.form
 cases A with
 | none =>
  obtain rfl:=hA rfl;have h0:l.length=0:=by omega
  obtain rfl:=Oq.1 h0
  go_enter Tryz.func59,Tryz.ntmps59
  go_wp2_with fail
  go_ret
  exact ⟨_,rfl,⟨by simp,.inl ⟨rfl,rfl⟩⟩,Evo.refl _⟩
 | some a =>
  have HR:=Fj h;have HK:=Fj hk;have H1:=Fj h1;clear h hk h1
  go_enter Tryz.func59,Tryz.ntmps59
  go_wp2_with (at_builtin; refine dA rfl (.tmp 5) (.tmp 6) 72 rfl 3 _ 1 8 Tryz.underlying72 info_int rfl (by decide) w ((Evo.refl _).alloc _) [] l _ _ rfl rfl ⟨Lx w #[] 0 (Ij _) (Kj _) (by simp)⟩ (HR.out.at ((Evo.refl _).alloc _)) HK.out H1.out ?c1 ?c2 ?_)
  case c1=>simp; omega
  case c2=>simpa using hl
  intro v' w1 hown hbl hg;have HW:=Fj (⟨hown,hbl⟩:Own w1 w.heap.size 3 1 v' ([]++l).length ([]++l).flatten /\ Evo w w1);clear hown hg hbl
  go_wp2_with fail
  go_ret
  exact ⟨_,rfl,HW.out.1,HW.out.2⟩
theorem CRow.slu {P:Program} {f:FuncId} {args:Array Value} {h:Vw} {e:TypeId} {k:Nat} {l:List (List Value)} (hc:CRow P f args h e k (λ_ rows=>rows=l)):CRow P f args h e k (λv rows=>(∃ u,v=sL u) /\ rows=l):=by
 intro a1 a2 a3 a4;refine (hc a1 a2 a3 a4).mono ?_;rintro en w' ⟨v,Bo,h1,h2,h3,h4,r,h5,rfl⟩;obtain ⟨A,c,rfl,-,-⟩:=tY h5;exact ⟨_,Bo,h1,h2,h3,h4,r,h5,⟨.slice A r.length c,rfl⟩,rfl⟩
theorem c_cloneI {h:Vw} {v:Value} {l:List Int} (hr:RS h 1 v (rY l)) (hl:l.length <= 1000000):CRow Tryz.prog 59 #[v] h 3 1 (λv rows=>(∃ u,v=sL u) /\ rows=rY l) :=
 CRow.slu (CRow.of_own (int_len l) (clone_int v (rY l) h.w (Sl.of_rs hr) (int_len _) (int_one _) (by rw [Hj]; omega)))
structure PathOk (l:List Int) (m:Nat):Prop where
 rise:l.Pairwise (· < ·)
 lo:∀ x∈l,0 <= x
 hi:∀ x∈l,x <= (m:Int)
theorem rise_at {l:List Int} (h:l.Pairwise (· < ·)) {i j:Nat} {x y:Int} (hij:i < j) (hx:l[i]?=some x) (hy:l[j]?=some y):x < y:=by
 obtain ⟨a,ea⟩:=Oj.1 hx;obtain ⟨b,eb⟩:=Oj.1 hy
 have:=List.pairwise_iff_getElem.1 h i j a b hij
 rw [ea,eb] at this;exact this
theorem tW (f:Fm) (ρ:List Int) (lv:Nat -> Nat) (A:Option Addr) (n c:Nat) (B:Option Addr) (m d:Nat) (va:List Vl) (A1:Option Addr) (c1:Nat) (path:List Int) (A2:Option Addr) (c2:Nat) (at_:Int) (h:Vw) (hok:OkFm f ρ lv) (hf:IsForm h (.slice A n c) (.slice B m d) f) (hn:n=f.fields.length) (hm:m=f.pages.length)
  (hv:RS h 3 (.slice A1 n c1) (zZ va)) (la:va.length=n) (ov:∀ x∈va,OkV x) (hp:RS h 1 (.slice A2 path.length c2) (rY path)) (lp:path.length <= 100) (pk:PathOk (path++[at_]) m) :
  C0 Tryz.prog 25 #[.agg #[.slice A n c,.slice B m d],.slice A1 n c1,.agg #[Vi at_,.slice A2 path.length c2,.bool (at_ == (m:Int))]] h (λr _=>r=Vi 0):=by
 have hC:=λH q=>shCheck_any f ρ lv A n c B m d H hok q hn;have few:=hok.fields.few;have hck:=λx (hx:x∈va) H=>check_okv x H (ov x hx);have hcl:=λH (q:RS H 1 (.slice A2 path.length c2) (rY path))=>c_cloneI q (by omega);have hpl:(rY path).length=path.length:=Hj _;have hl0:=pk.lo;have hl1:=pk.hi;have hl2:=pk.rise;have hrw:rY path++[[Vi at_]]=rY (path++[at_]):=by simp [rY]
 have hll:(path++[at_]).length=path.length + 1:=by simp
 generalize hL:path++[at_]=l at *;generalize hnp:path.length=np at *;refine wQ Tryz.func25 (c:=Tryz.f25.body.getD .skip) (N:=70) ?_;intro hbx hbad Q hQ;refine go2 35 [.own,.own,.b 1 0,.cl 52 #[.agg #[.slice A n c,.slice B m d]] (Vi 0),.b 1 0] [] ?_ (ho:=(Aj (λH sH=>hC _ (hf.sees sH)) (trivial)));intro b1 b2;refine yQ (t:=(n:Int) != (n:Int)) ((by simp)) ?_;refine go0 11 [] [] ?_;refine eV [0,1,0,1,1,1] [.block 0,.seq [1,1,1,1]] (λ(k:Nat) X=>∃ (W3:Vw) ,X W3 [(3,Vp b1),(5,Vp b2),(25,.slice A1 n c1),(26,Vi (n:Int)),(27,Vi (k:Int))] [.box b2 [Vi at_,.slice A2 np c2,.bool (at_ == (m:Int))],.box b1 [.slice A n c,.slice B m d]] [] /\ Sees h W3 /\ (k <= n)) (λk=>n - k) (0) (λX q=>⟨h,q _ _ _ _ ⟨rfl,by kernel_rfl⟩,Sees.refl _,Kj _⟩) ?_;rintro k a w ⟨W3,hJ,S4,hk⟩; refine jV hJ ?_; clear hJ a w;refine go0 6 [] [] ?_;rcases (by omega:k < n\/k=n) with hlt | hke
 ·obtain ⟨x,hx⟩:∃ x,va[k]?=some x:=⟨_,Gj (by omega)⟩;have hrow:=vlRows_get hx;have hckx:=λH=>hck x (Dj hx) H;refine oV (t:=decide ((k:Int) < (n:Int))) (Mj (by omega)) ?_;refine go0 6 [] [] ?_;obtain ⟨b5,o6,rfl,-,c7⟩:=RS.row hv (hrow);refine xQ (c7.sees S4) ?_;refine go1 27 [.ix b5 o6 n c1 k,.f 0 0,.own,.b 0 0,.b 0 0,.cl 58 #[.agg #[Vi x.k,Vi x.n,.string x.s]] (Vi 0)] [(36,Vi (IntKind.i64.wrap ((k:Int) + 1)),Vi ((k:Int) + 1))] ?_ (ho:=(Aj (by first | omega | (simp; omega)) (Aj (λH sH=>hckx _) (trivial)))) (hc:=(Aj (jJ (by omega) (by omega)) (trivial)));intro b8;exact nV (k + 1) (λX q=>⟨W3,q _ _ _ _ ⟨rfl,by kernel_rfl⟩,S4,by omega⟩) (by omega)
 ·skip;refine yQ (t:=decide ((k:Int) < (n:Int))) (Jj (by omega)) ?_
  refine go0 2 [] [] ?_;refine dV ?_;refine go0 9 [] [] ?_;refine lV 9 1 [.pu,.ld 1 1,.e (λgh=>sL (gh 2)) 0 (λgh=>.row (sL (gh 2)) 3 1 (rY path)),.pu,.ld 1 0,.f (λgh=>.slice (some ⟨(wJ (gh 5)),0,none⟩) 1 1) (λgh hh=>Cells hh (wJ (gh 5)) 0 [Vi at_]),.e (λgh=>sL (gh 6)) 0 (λgh=>.row (sL (gh 6)) 3 1 ((rY path)++[[Vi at_]])),.pu,.pu] [(2,false),(5,true),(6,false)] (Aj (λ_ _ _ s c=>c.sees s) (trivial)) ?_ ?_
  ·intro R hT hA hmono;refine Aj (r_callown hT hA hmono ⟨λ_ _=>by kernel_rfl,λ_ _=>by kernel_rfl,λ_ _=>by kernel_rfl⟩ (by kernel_rfl) 39 (λu=>sL u) [1] 2 (by kernel_rfl) (λ_=>by kernel_rfl) 0 (GN R 0) (by kernel_rfl) (by kernel_rfl) (by kernel_rfl) 3 1 (λgh=>rY path) (λ_=>by kernel_rfl) (λ_=>by kernel_rfl) (λ_ _=>rfl) 59 (λgh=>#[.slice A2 np c2]) (λ_ _=>by kernel_rfl) (λgh H sH fH=>hcl _ (hp.sees (S4.trans sH)))) ?_;refine Aj (jY hT hA hmono ⟨λ_ _=>by kernel_rfl,λ_ _=>by kernel_rfl,λ_ _=>by kernel_rfl⟩ 42 (λg=>Vs g 1 1) [4] 5 (λgh=>[Vi at_]) 3 (λgh zb zH zc zj zq zhq zhe=>pX (i:=5) (k:=0) (f:=λgh hh=>Cells hh (wJ (gh 5)) 0 [Vi at_]) (by kernel_rfl) (by kernel_rfl) zc zj zq zhq zhe)) ?_;refine Aj (fY hT hA hmono ⟨λ_ _=>by kernel_rfl,λ_ _=>by kernel_rfl,λ_ _=>by kernel_rfl⟩ 43 [2,5] 6 0 (GN R 0) (λgh=>sL (gh 2)) 72 3 1 (λgh=>rY path) (λgh=>[[Vi at_]]) (.tmp 39) (.tmp 42) (λgh=>(wJ (gh 5))) 1 1 0 5 (λgh hh=>Cells hh (wJ (gh 5)) 0 [Vi at_]) (λ_ _ c=>c) Tryz.underlying72 (zv:=Vi 0) (bytes:=8) (λ_=>by constructor <;> (simp; omega))) ?_
   trivial
  rintro u39 b10 v43 W11 S12 ⟨f9,-⟩;replace f9:Cells W11 b10 0 [Vi at_]:=f9;refine xQ f9 ?_;refine go0 2 [] [] ?_;refine cV [(3,Vp b1),(5,Vp b2),(11,Vi (-1)),(43,sL v43),(44,Vi (sN v43:Int)),(45,Vi 0)] [.row (sL v43) 3 1 ((rY path)++[[Vi at_]]),.box b2 [Vi at_,.slice A2 np c2,.bool (at_ == (m:Int))],.box b1 [.slice A n c,.slice B m d]] [(b10,0,[Vi at_])] ?_;rw [hrw];have hlr:(rY l).length=l.length:=Hj _;refine zQ 0 (v:=sL v43) (e:=3) (kk:=1) (l:=rY l) ?_; intro Ap cp hE_v43 hc_v43 hm_v43;rw [show (rY l).length=(np + 1) from by first | omega | (simp; done) | (simp; omega)] at hE_v43 hc_v43;rw [hE_v43];have hE43:(sN v43:Int)=((np + 1:Nat):Int):=by simp only [Jk] at hE_v43; rw [hE_v43.2.1]
  refine mV 44 (v:=Vi (sN v43:Int)) (v':=Vi ((np + 1:Nat):Int)) (Ej (Value.int .i64) hE43) ?_;refine aV 0 (v:=.slice Ap (np + 1) cp) (e:=3) (kk:=1) (l:=rY l) ?_; intro W13 S14 fr;refine eV [0,1,0,1,1,1,1,1] [.block 2,.seq [1,1,1,1,1,1]] (λ(j:Nat) X=>∃ (W15:Vw) (last:Int),X W15 [(3,Vp b1),(5,Vp b2),(43,.slice Ap (np + 1) cp),(44,Vi ((np + 1:Nat):Int)),(45,Vi (j:Int)),(11,Vi last)] [.box b2 [Vi at_,.slice A2 np c2,.bool (at_ == (m:Int))],.box b1 [.slice A n c,.slice B m d]] [(b10,0,[Vi at_])] /\ Sees W13 W15 /\ (j <= np + 1) /\ (∀ x,l[j]?=some x -> last < x)) (λj=>np + 1 - j) (0) (λX q=>⟨W13,-1,q _ _ _ _ ⟨rfl,by kernel_rfl⟩,Sees.refl _,Kj _,λx hx=>by have:=hl0 x (Dj hx); omega⟩) ?_;rintro j a w ⟨W15,last,hJ,S16,hj,hlast⟩; refine jV hJ ?_; clear hJ a w;refine go0 6 [] [] ?_;rcases (by omega:j < np + 1\/j=np + 1) with hjl | hje
  ·obtain ⟨x,hx⟩:∃ x,l[j]?=some x:=⟨_,Gj (by omega)⟩;have hrow:=rk_row hx;have q1:=hlast x hx;have q2:=hl1 x (Dj hx);refine oV (t:=decide ((j:Int) < ((np + 1:Nat):Int))) (Mj (by omega)) ?_;refine go0 6 [] [] ?_;obtain ⟨b17,o18,rfl,-,c19⟩:=RS.row fr (hrow);refine xQ (c19.sees S16) ?_;refine go0 33 [.ix b17 o18 (np + 1) cp j,.f 0 0,.b 1 1] [(51,.bool (decide (x <= last)),.bool false),(57,.bool (decide (x > (m:Int))),.bool false),(60,Vi (IntKind.i64.wrap ((j:Int) + 1)),Vi ((j:Int) + 1))] ?_ (ho:=(Aj (by first | omega | (simp; omega)) (trivial))) (hc:=(Aj (Ej Value.bool (Jj (by omega))) (Aj (Ej Value.bool (Jj (by omega))) (Aj (jJ (by omega) (by omega)) (trivial)))));exact nV (j + 1) (λX q=>⟨W15,x,q _ _ _ _ ⟨rfl,by kernel_rfl⟩,S16,by omega,λy hy=>rise_at hl2 (Nat.lt_succ_self j) hx hy⟩) (by omega)
  ·skip;refine yQ (t:=decide ((j:Int) < ((np + 1:Nat):Int))) (Jj (by omega)) ?_
   refine go0 2 [] [] ?_;refine dV ?_;refine go0 25 [.b 0 2,.b 0 0,.b 1 1] [(69,.bool ((at_ == (m:Int)) != (at_ == (m:Int))),.bool false)] ?_ (hc:=(Aj (Ej Value.bool (by simp)) (trivial)));refine hQ.to [Vi 0] (λH sH=>?_);exact rfl
def fW (fs:List Fd) (va:List Vl) (l:List ByteArray):List ByteArray:=l.filter λs=>Bool.not (decide ((va.getD (iQ fs s).toNat zV).k <= 3))
theorem lackN_snoc (fs:List Fd) (va:List Vl) (l:List ByteArray) (s:ByteArray):fW fs va (l++[s])=fW fs va l++if (va.getD (iQ fs s).toNat zV).k <= 3 then [] else [s]:=by
 unfold fW;rw [List.filter_append]
 by_cases g:(va.getD (iQ fs s).toNat zV).k <= 3
 ·rw [Cj g,List.filter_cons_of_neg (by rw [Mj g]; exact Bool.false_ne_true)]; rfl
 ·rw [Bj g,List.filter_cons_of_pos (by rw [Jj g]; rfl)]; rfl
theorem lackN_len (fs:List Fd) (va:List Vl) (l:List ByteArray):(fW fs va l).length <= l.length:=List.length_filter_le _ _
theorem known_dec (v:Vl) (ho:OkV v) (h:Vw):C0 Tryz.prog 73 #[v.val] h (λr _=>r=.bool (decide (v.k <= 3))):=by
 by_cases g:v.k <= 3
 ·rw [Mj g];rcases ho with q | rfl | ⟨q,-⟩
  ·exact c_kn v.k v.n v.s h q
  ·exact absurd g (by decide)
  ·omega
 ·rw [Jj g];exact known_no v h g (ok_kinds ho).1
theorem navLacks_any (f:Fm) (ρ:List Int) (lv:Nat -> Nat) (A:Option Addr) (n c:Nat) (B:Option Addr) (m d:Nat) (va:List Vl) (A1:Option Addr) (c1:Nat) (at_:Nat) (p:Pg) (h:Vw) (hok:OkFm f ρ lv) (hf:IsForm h (.slice A n c) (.slice B m d) f) (hn:n=f.fields.length) (hm:m=f.pages.length)
  (hv:RS h 3 (.slice A1 n c1) (zZ va)) (la:va.length=n) (ov:∀ x∈va,OkV x) (hpg:f.pages[at_]?=some p) :
  C0 Tryz.prog 109 #[.agg #[.slice A n c,.slice B m d],.slice A1 n c1,Vi (at_:Int)] h (λr h'=>∃ A c,r=.tuple #[.slice A (fW f.fields va p.fields).length c,Vi 0] /\ RS h' 1 (.slice A (fW f.fields va p.fields).length c) (mZ (fW f.fields va p.fields))):=by
 have m1:=hok.pages.one;have hC:∀ H,IsForm H (.slice A n c) (.slice B m d) f -> RS H 3 (.slice A1 n c1) (zZ va) -> C0 Tryz.prog 25 #[.agg #[.slice A n c,.slice B m d],.slice A1 n c1,.agg #[Vi 0,.slice none 0 0,.bool false]] H (λr _=>r=Vi 0):=λH q1 q2=>by
  have:=tW f ρ lv A n c B m d va A1 c1 [] none 0 0 H hok q1 hn hm q2 la ov (RS.nil H 1) (by decide) ⟨List.pairwise_singleton _ _,λx hx=>by rw [Pj.1 hx]; omega,λx hx=>by rw [Pj.1 hx]; omega⟩
  rw [show ((0:Int) == (m:Int))=false from Lj.2 (by omega)] at this;exact this
 have few:=hok.fields.few;have hF:=λH s i q hp=>find_yes f.fields (.slice A n c) s i H q (by omega) hp;have hhere:=hok.pages.here p (Dj hpg);have hpf:=hok.pages.fl p (Dj hpg);have hatm:at_ < m:=by rw [hm]; exact (Oj.1 hpg).1
 obtain ⟨us,ws,B2,d2,e2,-,hpr,hps,hpa,-,-⟩:=wX hf.pages;simp only [Jk] at e2;obtain ⟨rfl,-,rfl⟩:=e2;rw [<- hm] at hpr;obtain ⟨Au,cu,Bu,mu,du,hprow,hrs,-⟩:=pg_at hps hpa hpg;have hlk:=λk=>lackN_len f.fields va (p.fields.take k);have hst:(mZ p.fields).length=p.fields.length:=Hj _;generalize hpl:p.fields.length=np at *;refine wQ Tryz.func109 (c:=Tryz.f109.body.getD .skip) (N:=60) ?_;intro hbx hbad Q hQ;refine go1 54 [.own,.b 0 0,.cl 25 #[.agg #[.slice A n c,.slice B m d],.slice A1 n c1,.agg #[Vi 0,Vz,.bool false]] (Vi 0),.b 0 1,.b 0 1] [(22,.bool (decide ((at_:Int) < 0)),.bool false),(28,.bool (decide ((at_:Int) ≥ (m:Int))),.bool false)] ?_ (ho:=(Aj (λH sH=>hC _ (hf.sees sH) (hv.sees sH)) (trivial))) (hc:=(Aj (Ej Value.bool (Jj (by omega))) (Aj (Ej Value.bool (Jj (by omega))) (trivial))));intro b1;obtain ⟨b2,o3,rfl,-,c4⟩:=RS.row hpr (hprow);refine xQ (c4.sees (Sees.refl _)) ?_;refine go0 8 [.ix b2 o3 m d at_,.f 0 1] [] ?_ (ho:=(Aj (by first | omega | (simp; omega)) (trivial)));refine iV 9 1 ?_;refine eV [0,1,0,1,1,1,1] [.block 0,.seq [1,1,1,1,1]] (λ(k:Nat) X=>∃ (W5:Vw) (v:Value),X W5 [(1,.slice A1 n c1),(3,Vp b1),(35,.slice Au np cu),(36,Vi (np:Int)),(37,Vi (k:Int)),(9,v)] [.row v 9 1 (mZ (fW f.fields va (p.fields.take k))),.box b1 [.slice A n c,.slice (some ⟨b2,o3,none⟩) m d]] [(b2,o3 + at_ * 8,[Vt p.name,.slice Au np cu,Vi p.skip.op,Vi p.skip.k,Vi p.skip.n,.string p.skip.s,.string p.skip.nm,.slice Bu mu du])] /\ Sees h W5 /\ (k <= np)) (λk=>np - k) (0) (λX q=>⟨h,(Vz),q _ _ _ _ ⟨rfl,by kernel_rfl⟩,Sees.refl _,Kj _⟩) ?_;rintro k a w ⟨W5,v,hJ,S6,hk⟩; refine jV hJ ?_; clear hJ a w;refine go0 6 [] [] ?_;rcases (by omega:k < np\/k=np) with hlt | hke
 ·obtain ⟨s,hs⟩:∃ s,p.fields[k]?=some s:=⟨_,Gj (by omega)⟩;have hsr:=str_row hs;have hsn:=lackN_snoc f.fields va (p.fields.take k) s;rw [<- qZ _ k s hs] at hsn;have hl2:=hlk k;rw [Uj] at hl2;have hsl:(mZ (fW f.fields va (p.fields.take k))).length=(fW f.fields va (p.fields.take k)).length:=Hj _;obtain ⟨i,x,hi,hfi⟩:∃ (i:Nat) (x:Vl),iQ f.fields s=(i:Int) /\ va[i]?=some x:=by
   have q:=hhere s (Dj hs);rcases findF_lt f.fields s with g | ⟨i,g,e,hg,-⟩
   ·omega
   ·exact ⟨i,_,e,Gj (by rw [la,hn]; exact (Oj.1 hg).1)⟩
  have hF1:=λH q=>hF H s i q hi;have hrow:=vlRows_get hfi;have hil:i < n:=by rw [<- la]; exact (Oj.1 hfi).1
  have hkn:=λH=>known_dec x (ov x (Dj hfi)) H;rw [hi,Uv,Uk,hfi,Hw] at hsn
  by_cases g:x.k <= 3
  ·rw [Cj g,Lv] at hsn;rw [Mj g] at hkn;refine oV (t:=decide ((k:Int) < (np:Int))) (Mj (by omega)) ?_;refine go0 6 [] [] ?_;obtain ⟨b7,o8,rfl,-,c9⟩:=RS.row hrs (hsr);refine xQ (c9.sees S6) ?_;refine go0 22 [.ix b7 o8 np cu k,.f 0 0,.b 1 0,.cl 44 #[.slice A n c,.string s] (.tuple #[Vi (i:Int),Vi 0])] [] ?_ (ho:=(Aj (by first | omega | (simp; omega)) (Aj (λH sH=>hF1 _ ((hf.sees (S6.trans sH))).fields) (trivial))));obtain ⟨b10,o11,rfl,-,c12⟩:=RS.row hv (hrow);refine xQ (c12.sees S6) ?_;refine go0 14 [.ix b10 o11 n c1 i,.f 0 0,.cl 73 #[.agg #[Vi x.k,Vi x.n,.string x.s]] (.bool true)] [(58,Vi (IntKind.i64.wrap ((k:Int) + 1)),Vi ((k:Int) + 1))] ?_ (ho:=(Aj (by first | omega | (simp; omega)) (Aj (λH sH=>hkn _) (trivial)))) (hc:=(Aj (jJ (by omega) (by omega)) (trivial)));refine cV [(1,.slice (some ⟨b10,o11,none⟩) n c1),(3,Vp b1),(35,.slice (some ⟨b7,o8,none⟩) np cu),(36,Vi (np:Int)),(9,v),(37,Vi ((k:Int) + 1))] [.row v 9 1 (mZ (fW f.fields va (p.fields.take k))),.box b1 [.slice A n c,.slice (some ⟨b2,o3,none⟩) m d]] [(b2,o3 + at_ * 8,[Vt p.name,.slice (some ⟨b7,o8,none⟩) np cu,Vi p.skip.op,Vi p.skip.k,Vi p.skip.n,.string p.skip.s,.string p.skip.nm,.slice Bu mu du])] ?_;exact nV (k + 1) (λX q=>⟨W5,v,q _ _ _ _ (aZ (by rw [hsn])),S6,by omega⟩) (by omega)
  ·skip;rw [Bj g] at hsn
   rw [Jj g] at hkn;refine oV (t:=decide ((k:Int) < (np:Int))) (Mj (by omega)) ?_;refine go0 6 [] [] ?_;obtain ⟨b13,o14,rfl,-,c15⟩:=RS.row hrs (hsr);refine xQ (c15.sees S6) ?_;refine go0 22 [.ix b13 o14 np cu k,.f 0 0,.b 1 0,.cl 44 #[.slice A n c,.string s] (.tuple #[Vi (i:Int),Vi 0])] [] ?_ (ho:=(Aj (by first | omega | (simp; omega)) (Aj (λH sH=>hF1 _ ((hf.sees (S6.trans sH))).fields) (trivial))));obtain ⟨b16,o17,rfl,-,c18⟩:=RS.row hv (hrow);refine xQ (c18.sees S6) ?_;refine tV 11 [.ix b16 o17 n c1 i,.f 0 0,.cl 73 #[.agg #[Vi x.k,Vi x.n,.string x.s]] (.bool false),.fix] [] ?_ (ho:=(Aj (by first | omega | (simp; omega)) (Aj (λH sH=>hkn _) (trivial))));intro b19 W20 S21;refine goa0 9 [.ap 0 0 (mZ (fW f.fields va (p.fields.take k))) [[Vt s]]] [(58,Vi (IntKind.i64.wrap ((k:Int) + 1)),Vi ((k:Int) + 1))] ?_ (ho:=(Aj (by constructor <;> (simp; omega)) (trivial))) (hc:=(Aj (jJ (by omega) (by omega)) (trivial)));intro v57 W22 S23;refine cV [(1,.slice (some ⟨b16,o17,none⟩) n c1),(3,Vp b1),(35,.slice (some ⟨b13,o14,none⟩) np cu),(36,Vi (np:Int)),(9,sL v57),(37,Vi ((k:Int) + 1))] [.row (sL v57) 9 1 ((mZ (fW f.fields va (p.fields.take k)))++[[Vt s]]),.box b1 [.slice A n c,.slice (some ⟨b2,o3,none⟩) m d]] [(b2,o3 + at_ * 8,[Vt p.name,.slice (some ⟨b13,o14,none⟩) np cu,Vi p.skip.op,Vi p.skip.k,Vi p.skip.n,.string p.skip.s,.string p.skip.nm,.slice Bu mu du])] ?_;exact nV (k + 1) (λX q=>⟨W22,sL v57,q _ _ _ _ (aZ (by rw [hsn]; simp [mZ])),(S6.trans (S21.trans S23)),by omega⟩) (by omega)
 ·skip;have hta:p.fields.take k=p.fields:=by rw [hke, <- hpl,Ik]
  rw [hta];have hrl:(mZ (fW f.fields va p.fields)).length=(fW f.fields va p.fields).length:=Hj _;refine zQ 0 (v:=v) (e:=9) (kk:=1) (l:=mZ (fW f.fields va p.fields)) ?_; intro Ar cr hE_v hc_v hm_v;rw [show (mZ (fW f.fields va p.fields)).length=(fW f.fields va p.fields).length from by first | omega | (simp; done) | (simp; omega)] at hE_v hc_v;rw [hE_v];refine yQ (t:=decide ((k:Int) < (np:Int))) (Jj (by omega)) ?_;refine go0 2 [] [] ?_;refine dV ?_;refine go0 10 [] [] ?_;refine cV [(6,.slice Ar ((fW f.fields va p.fields).length) cr),(7,Vi 0)] [.row (.slice Ar ((fW f.fields va p.fields).length) cr) 9 1 (mZ (fW f.fields va p.fields)),.box b1 [.slice A n c,.slice (some ⟨b2,o3,none⟩) m d]] [(b2,o3 + at_ * 8,[Vt p.name,.slice Au np cu,Vi p.skip.op,Vi p.skip.k,Vi p.skip.n,.string p.skip.s,.string p.skip.nm,.slice Bu mu du])] ?_;refine hQ.toJ [.slice Ar ((fW f.fields va p.fields).length) cr,Vi 0] [] (λa w hJ=>?_);have fr:=hJ.j.rowOut0 (v:=.slice Ar ((fW f.fields va p.fields).length) cr) (e:=9) (k:=1) (l:=mZ (fW f.fields va p.fields)) 0 (by kernel_rfl) rfl;exact ⟨Ar,cr,rfl,fr⟩
theorem CRow.c0 {P:Program} {f:FuncId} {args:Array Value} {h:Vw} {e:TypeId} {k:Nat} {R:Value -> List (List Value) -> Prop} (hc:CRow P f args h e k R):C0 P f args h (λv h'=>∃ l u,v=sL u /\ RS h' k (sL u) l /\ R v l):=by
 intro a1 a2 a3 a4;refine (hc a1 a2 a3 a4).mono ?_;rintro e w' ⟨v,Bo,h1,h2,h3,h4,l,h5,h6⟩;obtain ⟨A,c,rfl,-,-⟩:=tY h5;exact ⟨_,Bo,h1,h2,h3,h4,l,.slice A l.length c,rfl,row_rs h5 (λb hb hm=>by have:=a4 b hm; have:=(h5.1.lt b hb).1; omega),h6⟩
def RSn (h:Vw) (k:Nat) (u:Value) (n:Nat) (l:List (List Value)):Prop:=sN u=n /\ RS h k (sL u) l
theorem RSn.sees {h h':Vw} {k n:Nat} {u:Value} {l:List (List Value)} (c:RSn h k u n l) (s:Sees h h'):RSn h' k u n l:=⟨c.1,c.2.sees s⟩
end Go.Proofs.YthplkompdehjlaaGreat
