/-
  Contract of the laws' Meet.
-/
import Derived.Test.YthplkompdehjlaaGreatPR48
import Derived.Test.YthplkompdehjlaaGreatPR51
set_option maxHeartbeats 2000000
set_option maxRecDepth 100000
namespace Go.Proofs.YthplkompdehjlaaGreat
open Go.RowKit
set_option linter.unusedVariables false
def toL (x:Lt):Ltr:=⟨x.nm,x.id,x.key.k,x.key.n,x.key.s,x.ans.k,x.ans.n,x.ans.s⟩
theorem toL_rows (l:List Lt):lcs (l.map toL)=lW l:=Wv
structure LtS (h:Vw) (v:Value) (l:List Lt):Prop where
 rows:RS h 8 v (lW l)
 few:l.length <= 24
 ok:∀ x∈l,OkL (toL x)
theorem LtS.sees {h h':Vw} {v:Value} {l:List Lt} (k:LtS h v l) (s:Sees h h'):LtS h' v l:=⟨k.rows.sees s,k.few,k.ok⟩
theorem LtS.old {h:Vw} {v:Value} {l:List Lt} (k:LtS h v l):RS h 8 v (lcs (l.map toL)) /\ (l.map toL).length <= 24 /\ ∀ x∈l.map toL,OkL x:=⟨by rw [toL_rows]; exact k.rows,by rw [Hj]; exact k.few,λx hx=>by obtain ⟨y,hy,rfl⟩:=Qj.1 hx; exact k.ok y hy⟩
theorem p_chk {h:Vw} {v:Value} {l:List Lt} (k:LtS h v l):C0 Tryz.prog 132 #[v] h (λr _=>r=Vi 0):=by
 obtain ⟨a,b,c⟩:=k.old;exact C0.of_e (net_check v (l.map toL) h.w (Sl.of_rs a) b c)
abbrev zLt:Value:=.agg #[Vt ⟨#[]⟩,Vi 0,Vi 0,Vi 0,.string ⟨#[]⟩,Vi 0,Vi 0,.string ⟨#[]⟩]
theorem p_at {h:Vw} {v:Value} {l:List Lt} (k:LtS h v l) (i:Nat) (x:Lt) (hx:l[i]?=some x):C0 Tryz.prog 104 #[v,Vi (i:Int)] h (λr _=>r=.tuple #[.agg #[Vt x.nm,Vi x.id,Vi x.key.k,Vi x.key.n,.string x.key.s,Vi x.ans.k,Vi x.ans.n,.string x.ans.s],Vi 0]):=by
 obtain ⟨a,b,c⟩:=k.old;exact C0.of_e (net_at v (l.map toL) i (toL x) h.w (Sl.of_rs a) b c (by rw [Nj,hx]; rfl))
theorem p_at_no {h:Vw} {v:Value} {l:List Lt} (k:LtS h v l) (i:Nat) (hi:l.length <= i) (hb:i <= 1000):C0 Tryz.prog 104 #[v,Vi (i:Int)] h (λr _=>r=.tuple #[zLt,Vi 5]):=by
 have hC:=λv H (q:LtS H v l)=>p_chk q;obtain ⟨A,c,rfl,-⟩:=k.rows.form;rw [Hj] at *;generalize l.length=n at *;refine wQ Tryz.func104 (c:=Tryz.f104.body.getD .skip) (N:=26) ?_;intro hbx hbad Q hQ;refine go1 29 [.own,.cl 132 #[.slice A n c] (Vi 0)] [] ?_ (ho:=(Aj (λH sH=>hC _ _ (k.sees sH)) (trivial)));intro b1;refine mV 15 (v:=.bool (decide ((i:Int) < 0))) (v':=.bool false) (Ej Value.bool (Jj (by omega))) ?_;refine go0 7 [] [] ?_;refine oV (t:=decide ((i:Int) ≥ (n:Int))) (Mj (by omega)) ?_;refine go0 9 [.b 0 0] [] ?_;refine hQ.to [.agg #[Ve,Vi 0,Vi 0,Vi 0,Ve,Vi 0,Vi 0,Ve],Vi 5] (λH sH=>?_) (ix:=[0]);exact rfl
def ansF (l:List Lt) (i:Nat) (v:Vl):Int × List Lt:=match l[i]? with
 | none=>(5,[])
 | some x=>if x.ans.k≠0 then (2,[]) else (0,l.set i ⟨x.nm,x.id,x.key,v⟩)
def losF (l:List Lt) (i:Nat):Int × List Lt:=if i < l.length then (0,l.eraseIdx i) else (5,[])
def twiF (l:List Lt) (i:Nat):Int × List Lt:=match l[i]? with
 | none=>(5,[])
 | some x=>if l.length=24 then (12,[]) else (0,l.take i++x :: l.drop i)
def OutL (p:Int × List Lt) (r:Value) (h:Vw):Prop:=∃ u,r=.tuple #[sL u,Vi p.1] /\ RS h 8 (sL u) (lW p.2)
theorem outL_none (e:Int) (h:Vw):OutL (e,[]) (.tuple #[.slice none 0 0,Vi e]) h:=⟨.slice none 0 0,rfl,RS.nil _ _⟩
theorem outL_eq {p q:Int × List Lt} {r:Value} {h:Vw} (e:p=q) (k:OutL q r h):OutL p r h:=by rw [e]; exact k
theorem p_lose {h:Vw} {v:Value} {l:List Lt} (k:LtS h v l) (i:Nat) (hb:i <= 1000):C0 Tryz.prog 81 #[v,Vi (i:Int)] h (λr h'=>OutL (losF l i) r h'):=by
 by_cases hi:i < l.length
 ·obtain ⟨a,b,c⟩:=k.old;refine (c_loseL a b c i (by rw [Hj]; exact hi)).mono λr h' _=>?_;rintro ⟨u,rfl,q⟩;rw [eraseIdx_map,toL_rows] at q;unfold losF;rw [Cj hi];exact ⟨u,rfl,q⟩
 ·have hA:=λv H (q:LtS H v l)=>p_at_no q i (by omega) hb;have e:losF l i=(5,[]):=Bj hi;rw [e];obtain ⟨A,c,rfl,-⟩:=k.rows.form;rw [Hj] at *;generalize l.length=n at *;refine wQ Tryz.func81 (c:=Tryz.f81.body.getD .skip) (N:=24) ?_;intro hbx hbad Q hQ;refine go1 36 [.cl 104 #[.slice A n c,Vi (i:Int)] (.tuple #[.agg #[Ve,Vi 0,Vi 0,Vi 0,Ve,Vi 0,Vi 0,Ve],Vi 5]),.own,.b 0 0] [] ?_ (ho:=(Aj (λH sH=>hA _ _ (k.sees sH)) (trivial)));intro b1;refine hQ.to [Vz,Vi 5] (λH sH=>?_);exact outL_none 5 _
section
variable {h:Vw} {v v':Value} {l:List Lt}
theorem c_cloneLt (hr:RS h 8 v (lW l)) (hl:l.length <= 1000):CRow Tryz.prog 105 #[v] h 66 8 (λ_ rows=>rows=lW l):=by
 rw [<- toL_rows] at hr ⊢;exact c_cloneL0 hr (by rw [Hj]; omega)
end
theorem CRow.new {P:Program} {f:FuncId} {args:Array Value} {h:Vw} {e:TypeId} {k:Nat} {l:List (List Value)} (hc:CRow P f args h e k (λ_ rows=>rows=l)) :
  C0 P f args h (λv h'=>∃ u lu,Ent.ok h.w.heap.size h'.w (.row u e k lu) /\ (∃ z,u=sL z) /\ v=u /\ lu=l):=by
 intro a1 a2 a3 a4;refine (hc a1 a2 a3 a4).mono ?_;rintro en w' ⟨v,Bo,h1,h2,h3,h4,r,h5,rfl⟩;refine ⟨v,Bo,h1,h2,h3,h4,v,_,h5,?_,rfl,rfl⟩;rcases h5.1.2 with ⟨rfl,-⟩ | ⟨g,cap,cur,rfl,-⟩
 ·exact ⟨.slice none 0 0,rfl⟩
 ·exact ⟨.slice (some ⟨g,0,none⟩) _ cap,rfl⟩
theorem CRow.sluL {P:Program} {f:FuncId} {args:Array Value} {h:Vw} {e:TypeId} {k:Nat} {l:List (List Value)} (hc:CRow P f args h e k (λ_ rows=>rows=l)):CRow P f args h e k (λv rows=>(∃ u,v=sL u) /\ rows=l):=by
 intro a1 a2 a3 a4;refine (hc a1 a2 a3 a4).mono ?_;rintro en w' ⟨v,Bo,h1,h2,h3,h4,r,h5,rfl⟩;refine ⟨v,Bo,h1,h2,h3,h4,_,h5,?_,rfl⟩;rcases h5.1.2 with ⟨rfl,-⟩ | ⟨g,cap,cur,rfl,-⟩
 ·exact ⟨.slice none 0 0,rfl⟩
 ·exact ⟨.slice (some ⟨g,0,none⟩) _ cap,rfl⟩
theorem lt_ins (l:List Lt) (i:Nat) (x:Lt):(lW l).take i++x.cells :: (lW l).drop i=lW (l.take i++x :: l.drop i):=by
 unfold lW;rw [Nk,Ck,List.map_take,List.map_drop]
theorem p_twice {h:Vw} {v:Value} {l:List Lt} (k:LtS h v l) (i:Nat) (hb:i <= 1000):C0 Tryz.prog 82 #[v,Vi (i:Int)] h (λr h'=>OutL (twiF l i) r h'):=by
 have few:=k.few;rcases (by omega:l.length <= i\/i < l.length) with hi | hi
 ·have hA:=λv H (q:LtS H v l)=>p_at_no q i hi hb;have e:twiF l i=(5,[]):=by unfold twiF; rw [Iq hi]
  rw [e];obtain ⟨A,c,rfl,-⟩:=k.rows.form;rw [Hj] at *;generalize l.length=n at *;refine wQ Tryz.func82 (c:=Tryz.f82.body.getD .skip) (N:=27) ?_;intro hbx hbad Q hQ;refine go1 36 [.cl 104 #[.slice A n c,Vi (i:Int)] (.tuple #[.agg #[Ve,Vi 0,Vi 0,Vi 0,Ve,Vi 0,Vi 0,Ve],Vi 5]),.own,.b 0 0] [] ?_ (ho:=(Aj (λH sH=>hA _ _ (k.sees sH)) (trivial)));intro b1;refine hQ.to [Vz,Vi 5] (λH sH=>?_);exact outL_none 5 _
 ·obtain ⟨x,hx⟩:∃ x,l[i]?=some x:=⟨_,Gj hi⟩;have hA:=λv H (q:LtS H v l)=>p_at q i x hx
  by_cases h24:l.length=24
  ·have e:twiF l i=(12,[]):=by unfold twiF; rw [hx]; exact Cj h24
   rw [e];obtain ⟨A,c,rfl,-⟩:=k.rows.form;rw [Hj] at *;generalize l.length=n at *;refine wQ Tryz.func82 (c:=Tryz.f82.body.getD .skip) (N:=27) ?_;intro hbx hbad Q hQ;refine go1 37 [.cl 104 #[.slice A n c,Vi (i:Int)] (.tuple #[.agg #[Vt x.nm,Vi x.id,Vi x.key.k,Vi x.key.n,.string x.key.s,Vi x.ans.k,Vi x.ans.n,.string x.ans.s],Vi 0]),.own,.b 0 0] [] ?_ (ho:=(Aj (λH sH=>hA _ _ (k.sees sH)) (trivial)));intro b1;refine oV (t:=(n:Int) == 24) (Zj.2 (by omega)) ?_;refine go0 8 [] [] ?_;refine hQ.to [Vz,Vi 12] (λH sH=>?_);exact outL_none 12 _
  ·have e:twiF l i=(0,l.take i++x :: l.drop i):=by unfold twiF; rw [hx]; exact Bj h24
   rw [e];have hC:=λv H (q:LtS H v l)=>CRow.sluL (c_cloneLt q.rows (by omega));have hC2:=λH v2 (q:RS H 8 v2 (lW (l.take i++x :: l.drop i)))=>CRow.new (c_cloneLt q (by simp; omega));have hx1:∀ u∈x.cells,u.oneCell'=true:=lts_one l _ (Qj.2 ⟨x,Dj hx,rfl⟩);have hI:=λv1 vb H=>c_insert v1 (lW l) i vb x.cells H (lts_len l) rfl (lts_one l) hx1 (by rw [Hj]; exact hi) (by rw [Hj]; omega);rw [lt_ins] at hI;obtain ⟨A,c,rfl,-⟩:=k.rows.form;rw [Hj] at *;generalize hn:l.length=n at *;refine wQ Tryz.func82 (c:=Tryz.f82.body.getD .skip) (N:=27) ?_;intro hbx hbad Q hQ;refine go1 41 [.cl 104 #[.slice A n c,Vi (i:Int)] (.tuple #[.agg #[Vt x.nm,Vi x.id,Vi x.key.k,Vi x.key.n,.string x.key.s,Vi x.ans.k,Vi x.ans.n,.string x.ans.s],Vi 0]),.own,.b 0 0] [(19,.bool ((n:Int) == 24),.bool false)] ?_ (ho:=(Aj (λH sH=>hA _ _ (k.sees sH)) (trivial))) (hc:=(Aj (Ej Value.bool (Lj.2 (by omega))) (trivial)));intro b1;refine lV 9 2 [.pu,.e (λgh=>sL (gh 1)) 0 (λgh=>.row (sL (gh 1)) 66 8 (lW l)),.pu,.ld 2 0,.e (λgh=>.slice (some ⟨(wJ (gh 4)),0,none⟩) 1 1) 1 (λgh=>.box (wJ (gh 4)) [Vt x.nm,Vi x.id,Vi x.key.k,Vi x.key.n,.string x.key.s,Vi x.ans.k,Vi x.ans.n,.string x.ans.s]),.e (λgh=>sL (gh 5)) 0 (λgh=>.row (sL (gh 5)) 66 8 (lW (l.take i++x :: l.drop i))),.f (λgh=>sL (gh 6)) (λgh hh=>RS hh 8 (sL (gh 6)) (lW (l.take i++x :: l.drop i))),.pu,.pu] [(1,false),(4,true),(5,false),(6,false)] (Aj (λ_ _ _ s c=>c.sees s) (trivial)) ?_ ?_
   ·intro R hT hA hmono;refine Aj (r_callown hT hA hmono ⟨λ_ _=>by kernel_rfl,λ_ _=>by kernel_rfl,λ_ _=>by kernel_rfl⟩ (by kernel_rfl) 21 (λu=>sL u) [0] 1 (by kernel_rfl) (λ_=>by kernel_rfl) 0 (GN R 0) (by kernel_rfl) (by kernel_rfl) (by kernel_rfl) 66 8 (λgh=>lW l) (λ_=>by kernel_rfl) (λ_=>by kernel_rfl) (λ_ _=>rfl) 105 (λgh=>#[.slice A n c]) (λ_ _=>by kernel_rfl) (λgh H sH fH=>hC _ _ (k.sees sH))) ?_;refine Aj (r_allocF hT hA hmono ⟨λ_ _=>by kernel_rfl,λ_ _=>by kernel_rfl,λ_ _=>by kernel_rfl⟩ (by kernel_rfl) 24 (λg=>Vs g 1 1) [3] 4 (by kernel_rfl) (λ_=>by kernel_rfl) 1 (GN R 1) (by kernel_rfl) (by kernel_rfl) (by kernel_rfl) (λgh=>[Vt x.nm,Vi x.id,Vi x.key.k,Vi x.key.n,.string x.key.s,Vi x.ans.k,Vi x.ans.n,.string x.ans.s]) (λ_=>by kernel_rfl) (λ_=>by kernel_rfl) 66 (λ_ _=>by kernel_rfl) (λ_ _=>by kernel_rfl)) ?_;refine Aj (r_callE' hT hA hmono ⟨λ_ _=>by kernel_rfl,λ_ _=>by kernel_rfl,λ_ _=>by kernel_rfl⟩ (by kernel_rfl) 25 (λu=>sL u) [1,2,4] 5 (by kernel_rfl) (λ_=>by kernel_rfl) [0,1] (by kernel_rfl) (by kernel_rfl) (λgh=>[.row (sL (gh 1)) 66 8 (lW l),.box (wJ (gh 4)) [Vt x.nm,Vi x.id,Vi x.key.k,Vi x.key.n,.string x.key.s,Vi x.ans.k,Vi x.ans.n,.string x.ans.s]]) (λgh u=>[.row (sL u) 66 8 (lW (l.take i++x :: l.drop i)),.box (wJ (gh 4)) [Vt x.nm,Vi x.id,Vi x.key.k,Vi x.key.n,.string x.key.s,Vi x.ans.k,Vi x.ans.n,.string x.ans.s]]) (λ_=>by kernel_rfl) (λ_=>by kernel_rfl) (λ_ _=>by kernel_rfl) 107 (λgh=>#[sL (gh 1),Vi (i:Int),.slice (some ⟨(wJ (gh 4)),0,none⟩) 1 1]) (λ_ _=>by kernel_rfl) (λgh H sH fH=>hI _ _ _)) ?_;refine Aj (r_callqf hT hA hmono ⟨λ_ _=>by kernel_rfl,λ_ _=>by kernel_rfl,λ_ _=>by kernel_rfl⟩ 26 (λu=>sL u) [5] 6 (by kernel_rfl) (by kernel_rfl) (λ_=>by kernel_rfl) 0 (GN R 0) (by kernel_rfl) (by kernel_rfl) (λgh=>sL (gh 5)) 66 8 (lW (l.take i++x :: l.drop i)) (λ_=>by kernel_rfl) (te:=66) (k1:=8) (lW (l.take i++x :: l.drop i)) 0 (by kernel_rfl) (by kernel_rfl) 105 (λgh=>#[sL (gh 5)]) (λ_ _=>by kernel_rfl) (λgh H bH sH fH rQ=>hC2 _ _ rQ)) ?_
    trivial
   rintro u21 b2 u25 u26 W3 S4 ⟨f26,-⟩;replace f26:RS W3 8 (sL u26) (lW (l.take i++x :: l.drop i)):=f26;refine go0 2 [] [] ?_;refine hQ.to [sL u26,Vi 0] (λH sH=>?_);exact ⟨u26,rfl,(f26.sees sH)⟩
theorem p_answer {h:Vw} {v:Value} {l:List Lt} (k:LtS h v l) (i:Nat) (hb:i <= 1000) (w:Vl) (hw:w.known):C0 Tryz.prog 80 #[v,Vi (i:Int),.agg #[Vi w.k,Vi w.n,.string w.s]] h (λr h'=>OutL (ansF l i w) r h'):=by
 have few:=k.few;rcases (by omega:l.length <= i\/i < l.length) with hi | hi
 ·have hA:=λv H (q:LtS H v l)=>p_at_no q i hi hb;have e:ansF l i w=(5,[]):=by unfold ansF; rw [Iq hi]
  rw [e];obtain ⟨A,c,rfl,-⟩:=k.rows.form;rw [Hj] at *;generalize l.length=n at *;refine wQ Tryz.func80 (c:=Tryz.f80.body.getD .skip) (N:=38) ?_;intro hbx hbad Q hQ;refine go2 40 [.own,.cl 104 #[.slice A n c,Vi (i:Int)] (.tuple #[.agg #[Ve,Vi 0,Vi 0,Vi 0,Ve,Vi 0,Vi 0,Ve],Vi 5]),.own,.b 0 0] [] ?_ (ho:=(Aj (λH sH=>hA _ _ (k.sees sH)) (trivial)));intro b1 b2;refine hQ.to [Vz,Vi 5] (λH sH=>?_);exact outL_none 5 _
 ·obtain ⟨x,hx⟩:∃ x,l[i]?=some x:=⟨_,Gj hi⟩;have hA:=λv H (q:LtS H v l)=>p_at q i x hx
  by_cases h0:x.ans.k≠0
  ·have e:ansF l i w=(2,[]):=by unfold ansF; rw [hx]; exact Cj h0
   rw [e];obtain ⟨A,c,rfl,-⟩:=k.rows.form;rw [Hj] at *;generalize l.length=n at *;refine wQ Tryz.func80 (c:=Tryz.f80.body.getD .skip) (N:=38) ?_;intro hbx hbad Q hQ;refine go2 39 [.own,.cl 104 #[.slice A n c,Vi (i:Int)] (.tuple #[.agg #[Vt x.nm,Vi x.id,Vi x.key.k,Vi x.key.n,.string x.key.s,Vi x.ans.k,Vi x.ans.n,.string x.ans.s],Vi 0]),.own,.b 0 0,.b 0 5] [] ?_ (ho:=(Aj (λH sH=>hA _ _ (k.sees sH)) (trivial)));intro b1 b2;refine oV (t:=x.ans.k != 0) (Ek.2 h0) ?_;refine go0 9 [] [] ?_;refine hQ.to [Vz,Vi 2] (λH sH=>?_);exact outL_none 2 _
  ·have e:ansF l i w=(0,l.set i ⟨x.nm,x.id,x.key,w⟩):=by unfold ansF; rw [hx]; exact Bj h0
   rw [e];have h0:x.ans.k=0:=Decidable.not_not.1 h0;have hC:=λv H (q:LtS H v l)=>c_cloneLt q.rows (by omega);have hkn:=λH=>c_kn w.k w.n w.s H hw;have hrow:(lW l)[i]?=some x.cells:=by rw [Nj,hx]; rfl
   have hset:(lW l).set i [Vt x.nm,Vi x.id,Vi x.key.k,Vi x.key.n,.string x.key.s,Vi w.k,Vi w.n,.string w.s]=lW (l.set i ⟨x.nm,x.id,x.key,w⟩):=by unfold lW; rw [List.map_set]
   have hll:(lW l).length=l.length:=Hj _;obtain ⟨A,c,rfl,-⟩:=k.rows.form;rw [Hj] at *;generalize hn:l.length=n at *;refine wQ Tryz.func80 (c:=Tryz.f80.body.getD .skip) (N:=38) ?_;intro hbx hbad Q hQ;refine go2 39 [.own,.cl 104 #[.slice A n c,Vi (i:Int)] (.tuple #[.agg #[Vt x.nm,Vi x.id,Vi x.key.k,Vi x.key.n,.string x.key.s,Vi x.ans.k,Vi x.ans.n,.string x.ans.s],Vi 0]),.own,.b 0 0,.b 0 5] [] ?_ (ho:=(Aj (λH sH=>hA _ _ (k.sees sH)) (trivial)));intro b1 b2;refine yQ (t:=x.ans.k != 0) (Kk.2 h0) ?_;refine go0 15 [.b 1 0,.cl 73 #[.agg #[Vi w.k,Vi w.n,.string w.s]] (.bool true)] [] ?_ (ho:=(Aj (λH sH=>hkn _) (trivial)));refine g_callrow (λH sH=>hC _ _ (k.sees sH)) ?_; rintro v10 _ rfl;refine go0 8 [.b 2 0] [] ?_;refine cV [(10,v10),(32,v10),(33,Vi (i:Int)),(34,.agg #[Vi w.k,Vi w.n,.string w.s])] [.row v10 66 8 (lW l),.box b2 [Vt x.nm,Vi x.id,Vi x.key.k,Vi x.key.n,.string x.key.s,Vi x.ans.k,Vi x.ans.n,.string x.ans.s],.box b1 [Vi w.k,Vi w.n,.string w.s]] [] ?_;refine zQ 0 (v:=v10) (e:=66) (kk:=8) (l:=lW l) ?_; intro Av cv hE_v10 hc_v10 hm_v10;rw [show (lW l).length=n from by first | omega | (simp; done) | (simp; omega)] at hE_v10 hc_v10;rw [hE_v10];refine g_get (λa w hJ=>qX (hJ.rowOwn (v:=.slice Av n cv) (e:=66) (kk:=8) (l:=lW l) 0 (by kernel_rfl)) ((by rw [Hj]; omega))) ?_; rintro ⟨bV,rfl⟩;refine go0 2 [.ix bV 0 n cv i] [] ?_ (ho:=(Aj (by first | omega | (simp; omega)) (trivial)));refine g_rowset 0 i 5 (g:=bV) (m:=n) (cap:=cv) (kk:=8) (e:=66) (l:=lW l) (r:=[Vt x.nm,Vi x.id,Vi x.key.k,Vi x.key.n,.string x.key.s,Vi x.ans.k,Vi x.ans.n,.string x.ans.s]) (r':=[Vt x.nm,Vi x.id,Vi x.key.k,Vi x.key.n,.string x.key.s,Vi w.k,Vi w.n,.string w.s]) (t:=43) (x:=(.tmp 36)) (y:=(.tmp 34)) (v:=.agg #[Vi w.k,Vi w.n,.string w.s]) (hrow) ?_;refine go0 10 [] [] ?_;refine aV 0 (v:=Vs bV n cv) (e:=66) (kk:=8) (l:=(lW l).set i [Vt x.nm,Vi x.id,Vi x.key.k,Vi x.key.n,.string x.key.s,Vi w.k,Vi w.n,.string w.s]) ?_; intro W3 S4 fr;rw [hset] at fr;refine hQ.to [Vs bV n cv,Vi 0] (λH sH=>?_);exact ⟨Vs bV n cv,rfl,(fr.sees sH)⟩
def ComR (l:List Lt) (i:Nat) (r:Value) (h:Vw):Prop:=match l[i]? with
 | none=>r=.tuple #[zLt,.slice none 0 0,Vi 5]
 | some x=>if x.ans.k=0 then r=.tuple #[zLt,.slice none 0 0,Vi 2] else ∃ u,r=.tuple #[.agg #[Vt x.nm,Vi x.id,Vi x.key.k,Vi x.key.n,.string x.key.s,Vi x.ans.k,Vi x.ans.n,.string x.ans.s],sL u,Vi 0] /\ RS h 8 (sL u) (lW (l.eraseIdx i))
theorem comR_none {l:List Lt} {i:Nat} (hi:l.length <= i) (h:Vw):ComR l i (.tuple #[zLt,.slice none 0 0,Vi 5]) h:=by unfold ComR; rw [Iq hi]
theorem comR_kind {l:List Lt} {i:Nat} {x:Lt} (hx:l[i]?=some x) (h0:x.ans.k=0) (h:Vw):ComR l i (.tuple #[zLt,.slice none 0 0,Vi 2]) h:=by unfold ComR; rw [hx]; show (if x.ans.k=0 then _ else _); rw [Cj h0]
theorem comR_yes {l:List Lt} {i:Nat} {x:Lt} (hx:l[i]?=some x) (h0:¬ x.ans.k=0) {h:Vw} {u:Value} (q:RS h 8 (sL u) (lW (l.eraseIdx i))):ComR l i (.tuple #[.agg #[Vt x.nm,Vi x.id,Vi x.key.k,Vi x.key.n,.string x.key.s,Vi x.ans.k,Vi x.ans.n,.string x.ans.s],sL u,Vi 0]) h:=by unfold ComR; rw [hx]; simp only; rw [Bj h0]; exact ⟨u,rfl,q⟩
theorem p_come {h:Vw} {v:Value} {l:List Lt} (k:LtS h v l) (i:Nat) (hb:i <= 1000):C0 Tryz.prog 108 #[v,Vi (i:Int)] h (λr h'=>ComR l i r h'):=by
 have few:=k.few;rcases (by omega:l.length <= i\/i < l.length) with hi | hi
 ·have hA:=λv H (q:LtS H v l)=>p_at_no q i hi hb;have hno:=λH=>comR_none hi H;obtain ⟨A,c,rfl,-⟩:=k.rows.form;rw [Hj] at *;generalize l.length=n at *;refine wQ Tryz.func108 (c:=Tryz.f108.body.getD .skip) (N:=34) ?_;intro hbx hbad Q hQ;refine go2 39 [.own,.cl 104 #[.slice A n c,Vi (i:Int)] (.tuple #[.agg #[Ve,Vi 0,Vi 0,Vi 0,Ve,Vi 0,Vi 0,Ve],Vi 5]),.own,.b 0 0,.b 1 0] [] ?_ (ho:=(Aj (λH sH=>hA _ _ (k.sees sH)) (trivial)));intro b1 b2;refine hQ.to [.agg #[Ve,Vi 0,Vi 0,Vi 0,Ve,Vi 0,Vi 0,Ve],Vz,Vi 5] (λH sH=>?_) (ix:=[1]);exact hno _
 ·obtain ⟨x,hx⟩:∃ x,l[i]?=some x:=⟨_,Gj hi⟩;have hA:=λv H (q:LtS H v l)=>p_at q i x hx;have hL:=λv H (q:LtS H v l)=>p_lose q i hb;have e:losF l i=(0,l.eraseIdx i):=Cj hi;rw [e] at hL
  by_cases h0:x.ans.k=0
  ·have hno:=λH=>comR_kind hx h0 H;obtain ⟨A,c,rfl,-⟩:=k.rows.form;rw [Hj] at *;generalize l.length=n at *;refine wQ Tryz.func108 (c:=Tryz.f108.body.getD .skip) (N:=34) ?_;intro hbx hbad Q hQ;refine go2 39 [.own,.cl 104 #[.slice A n c,Vi (i:Int)] (.tuple #[.agg #[Vt x.nm,Vi x.id,Vi x.key.k,Vi x.key.n,.string x.key.s,Vi x.ans.k,Vi x.ans.n,.string x.ans.s],Vi 0]),.own,.b 0 0,.b 0 5] [] ?_ (ho:=(Aj (λH sH=>hA _ _ (k.sees sH)) (trivial)));intro b1 b2;refine oV (t:=x.ans.k == 0) (Zj.2 h0) ?_;refine go0 10 [.b 1 0] [] ?_;refine hQ.to [.agg #[Ve,Vi 0,Vi 0,Vi 0,Ve,Vi 0,Vi 0,Ve],Vz,Vi 2] (λH sH=>?_) (ix:=[1]);exact hno _
  ·have hye:=λH u q=>comR_yes (h:=H) (u:=u) hx h0 q;obtain ⟨A,c,rfl,-⟩:=k.rows.form;rw [Hj] at *;generalize l.length=n at *;refine wQ Tryz.func108 (c:=Tryz.f108.body.getD .skip) (N:=34) ?_;intro hbx hbad Q hQ;refine go2 39 [.own,.cl 104 #[.slice A n c,Vi (i:Int)] (.tuple #[.agg #[Vt x.nm,Vi x.id,Vi x.key.k,Vi x.key.n,.string x.key.s,Vi x.ans.k,Vi x.ans.n,.string x.ans.s],Vi 0]),.own,.b 0 0,.b 0 5] [] ?_ (ho:=(Aj (λH sH=>hA _ _ (k.sees sH)) (trivial)));intro b1 b2;refine yQ (t:=x.ans.k == 0) (Lj.2 h0) ?_;refine go0 6 [] [] ?_;refine qQ (λH sH=>hL _ _ (k.sees sH)) ?_; rintro _ W3 S4 ⟨u,rfl,hz⟩;refine go0 17 [.b 0 0,.b 1 0] [] ?_;refine hQ.to [.agg #[Vt x.nm,Vi x.id,Vi x.key.k,Vi x.key.n,.string x.key.s,Vi x.ans.k,Vi x.ans.n,.string x.ans.s],sL u,Vi 0] (λH sH=>?_) (ix:=[1]);exact hye _ _ (hz.sees sH)
def SndL (la lb:List Lt):Int × List Lt:=if la.length + lb.length <= 24 then (0,la++lb) else (12,[])
theorem p_cat {la lb:List Lt} (hl:la.length + lb.length <= 1000) {va vb:Value} {b:Nat} {h:Vw} (ha:RS h 8 va (lW la)) (hb:RS h 8 vb (lW lb)) (hc:Cells h b 0 [va,vb]):C0 Tryz.prog 133 #[.slice (some ⟨b,0,none⟩) 2 2] h (λr h'=>∃ u,r=sL u /\ RS h' 8 (sL u) (lW (la++lb))) :=
 c_concatT (vY (k:=1) [[va],[vb]] (λr hr=>by simp at hr; rcases hr with rfl | rfl <;> rfl) (show (2:Nat) <= maxLen by decide) hc) ha hb (by omega)
theorem p_send {h:Vw} {va vb:Value} {la lb:List Lt} (ka:LtS h va la) (kb:LtS h vb lb):C0 Tryz.prog 103 #[va,vb] h (λr h'=>OutL (SndL la lb) r h'):=by
 have fa:=ka.few;have fb:=kb.few;have hA:=λv H (q:LtS H v la)=>p_chk q;have hB:=λv H (q:LtS H v lb)=>p_chk q;have hC:=λva vb b H q1 q2 q3=>p_cat (la:=la) (lb:=lb) (by omega) (va:=va) (vb:=vb) (b:=b) (h:=H) q1 q2 q3;obtain ⟨A,c,rfl,-⟩:=ka.rows.form;obtain ⟨B,d,rfl,-⟩:=kb.rows.form;rw [Hj] at *;rw [Hj] at *;have e1:la.length + lb.length <= 24 -> SndL la lb=(0,la++lb):=λq=>Cj q;have e2:¬ la.length + lb.length <= 24 -> SndL la lb=(12,[]):=λq=>Bj q;generalize SndL la lb=out at *;generalize la.length=n at *;generalize lb.length=m at *;refine wQ Tryz.func103 (c:=Tryz.f103.body.getD .skip) (N:=31) ?_;intro hbx hbad Q hQ;refine go0 16 [] [] ?_;refine eV [0,1,0,1] [.block 0,.seq [1,1]] (λ(k:Nat) X=>∃ (W1:Vw) ,X W1 [(0,.slice A n c),(1,.slice B m d),(11,.agg #[.slice A n c,.slice B m d]),(12,Vi (k:Int))] [] [] /\ Sees h W1 /\ (k <= 2)) (λk=>2 - k) (0) (λX q=>⟨h,q _ _ _ _ ⟨rfl,by kernel_rfl⟩,Sees.refl _,Kj _⟩) ?_;rintro k a w ⟨W1,hJ,S2,hk⟩; refine jV hJ ?_; clear hJ a w;refine go0 6 [] [] ?_;rcases (by omega:k=0\/k=1\/k=2) with hk0 | hk0 | hk0
 ·skip;refine oV (t:=decide ((k:Int) < 2)) (Mj (by omega)) ?_
  refine go0 6 [] [] ?_;refine kV (.slice A n c) (λw=>by subst hk0; kernel_rfl) ?_;refine go0 6 [] [] ?_;refine qQ (λH sH=>hA _ _ (ka.sees (S2.trans sH))) ?_; rintro _ W3 S4 rfl;refine go0 17 [] [(20,Vi (IntKind.i64.wrap ((k:Int) + 1)),Vi ((k:Int) + 1))] ?_ (hc:=(Aj (jJ (by omega) (by omega)) (trivial)));exact nV (k + 1) (λX q=>⟨W3,q _ _ _ _ ⟨rfl,by kernel_rfl⟩,(S2.trans S4),by omega⟩) (by omega)
 ·skip;refine oV (t:=decide ((k:Int) < 2)) (Mj (by omega)) ?_
  refine go0 6 [] [] ?_;refine kV (.slice B m d) (λw=>by subst hk0; kernel_rfl) ?_;refine go0 6 [] [] ?_;refine qQ (λH sH=>hB _ _ (kb.sees (S2.trans sH))) ?_; rintro _ W5 S6 rfl;refine go0 17 [] [(20,Vi (IntKind.i64.wrap ((k:Int) + 1)),Vi ((k:Int) + 1))] ?_ (hc:=(Aj (jJ (by omega) (by omega)) (trivial)));exact nV (k + 1) (λX q=>⟨W5,q _ _ _ _ ⟨rfl,by kernel_rfl⟩,(S2.trans S6),by omega⟩) (by omega)
 ·skip;refine yQ (t:=decide ((k:Int) < 2)) (Jj (by omega)) ?_
  refine go0 2 [] [] ?_;refine dV ?_;refine go0 13 [] [(25,Vi (IntKind.i64.wrap ((n:Int) + (m:Int))),Vi ((n:Int) + (m:Int)))] ?_ (hc:=(Aj (jJ (by omega) (by omega)) (trivial)))
  by_cases hr:n + m <= 24
  ·refine yQ (t:=decide (((n:Int) + (m:Int)) > 24)) (Jj (by omega)) ?_;refine tV 7 [.fix] [] ?_;intro bt29 W7 S8;refine vQ 0 bt29 0 [.slice A n c,.slice B m d] λt29=>?_;refine qQ (λH sH=>hC _ _ _ _ ((ka.sees (S2.trans (S8.trans sH)))).rows ((kb.sees (S2.trans (S8.trans sH)))).rows (t29.sees sH)) ?_; rintro _ W9 S10 ⟨u,rfl,hu⟩;refine go0 5 [] [] ?_;refine hQ.to [sL u,Vi 0] (λH sH=>?_);exact outL_eq (e1 hr) ⟨u,rfl,(hu.sees sH)⟩
  ·skip;refine oV (t:=decide (((n:Int) + (m:Int)) > 24)) (Mj (by omega)) ?_
   refine go0 8 [] [] ?_;refine hQ.to [Vz,Vi 12] (λH sH=>?_);exact outL_eq (e2 hr) (outL_none 12 _)
theorem ps_mk (w un up:Value):∃ u,agJ 0 u=agJ 0 w /\ agJ 1 u=agJ 1 w /\ agJ 2 u=agJ 2 w /\ agJ 3 u=agJ 3 w /\ agJ 4 u=agJ 4 w /\ agJ 5 u=un /\ agJ 6 u=up:=by
 refine ⟨.agg #[agJ 0 w,agJ 1 w,agJ 2 w,agJ 3 w,agJ 4 w,un,up],?_,?_,?_,?_,?_,?_,?_⟩ <;> kernel_rfl
structure PsI (h:Vw) (u:Value) (s:Ps):Prop where
 eng:IsEng h u s.E
 net:LtS h (sL (agJ 5 u)) s.net
 path:RS h 1 (sL (agJ 6 u)) (rY s.path)
theorem PsI.sees {h h':Vw} {u:Value} {s:Ps} (k:PsI h u s) (q:Sees h h'):PsI h' u s:=⟨k.eng.sees q,k.net.sees q,k.path.sees q⟩
def PsR (r:Int × Ps) (v:Value) (cs:List Value) (H:Vw):Prop:=∃ u,v=Vi r.1 /\ cs=(pL u r.2) /\ PsI H u r.2
theorem psR_eq {r r':Int × Ps} {v:Value} {cs:List Value} {H:Vw} (e:r=r') (k:PsR r' v cs H):PsR r v cs H:=by rw [e]; exact k
theorem psR_mk {s:Ps} {e:Int} {cs:List Value} {H:Vw} {bd:Bool} (w un up:Value) (hb:cs=[sL (agJ 0 w),sL (agJ 1 w),Vi s.E.pol.t,Vi s.E.pol.b,Vi s.E.pol.c,sL (agJ 2 w),sL (agJ 3 w),sL (agJ 4 w),Vi s.E.now,Vi s.E.last,sL un,Vi (s.t:Int),sL up,.bool bd]) (hd:bd=((s.t:Int) == (s.E.fm.pages.length:Int))) (ke:IsEng H w s.E) (kn:LtS H (sL un) s.net) (kp:RS H 1 (sL up) (rY s.path)):PsR (e,s) (Vi e) cs H:=by
 obtain ⟨u,e0,e1,e2,e3,e4,e5,e6⟩:=ps_mk w un up;refine ⟨u,rfl,?_,⟨⟨?_,?_,?_,?_⟩,?_,?_⟩⟩
 ·show cs=[sL (agJ 0 u),sL (agJ 1 u),Vi s.E.pol.t,Vi s.E.pol.b,Vi s.E.pol.c,sL (agJ 2 u),sL (agJ 3 u),sL (agJ 4 u),Vi s.E.now,Vi s.E.last,sL (agJ 5 u),Vi (s.t:Int),sL (agJ 6 u),.bool ((s.t:Int) == (s.E.fm.pages.length:Int))];rw [e0,e1,e2,e3,e4,e5,e6, <- hd]; exact hb
 ·rw [e0,e1]; exact ke.form
 ·rw [e2]; exact ke.inp
 ·rw [e3]; exact ke.calls
 ·rw [e4]; exact ke.vals
 ·rw [e5]; exact kn
 ·rw [e6]; exact kp
theorem keep_yes (s:Ps) (l:List Lt) (b:Nat) (u ul:Value) (h:Vw) (k:PsI h u s) (kl:LtS h (sL ul) l) :
  C1 Tryz.prog 79 #[.pointer (some ⟨b,0,none⟩),sL ul,Vi 0] h b (pL u s) (λv cs H=>PsR (0,{ s with net:=l }) v cs H):=by
 refine wQ Tryz.func79 (c:=Tryz.f79.body.getD .skip) (N:=14) ?_;intro hbx hbad Q hQ;refine go0 28 [.b 0 10] [] ?_;refine hQ.toB [Vi 0] [[sL (agJ 0 u),sL (agJ 1 u),Vi s.E.pol.t,Vi s.E.pol.b,Vi s.E.pol.c,sL (agJ 2 u),sL (agJ 3 u),sL (agJ 4 u),Vi s.E.now,Vi s.E.last,sL ul,Vi (s.t:Int),sL (agJ 6 u),.bool ((s.t:Int) == (s.E.fm.pages.length:Int))]] (λH sH=>?_);exact ⟨_,rfl,psR_mk u ul (agJ 6 u) rfl rfl ((k.sees sH)).eng (kl.sees sH) ((k.sees sH)).path⟩
theorem keep_no (s:Ps) (e:Int) (he:e≠0) (b:Nat) (u ul:Value) (h:Vw) (k:PsI h u s) :
  C1 Tryz.prog 79 #[.pointer (some ⟨b,0,none⟩),sL ul,Vi e] h b (pL u s) (λv cs H=>PsR (e,s) v cs H):=by
 refine wQ Tryz.func79 (c:=Tryz.f79.body.getD .skip) (N:=14) ?_;intro hbx hbad Q hQ;refine go0 12 [] [] ?_;refine yQ (t:=e == 0) (Lj.2 he) ?_;refine go0 9 [] [] ?_;refine hQ.toB [Vi e] [(pL u s)] (λH sH=>?_);exact ⟨_,rfl,⟨u,rfl,rfl,(k.sees sH)⟩⟩
theorem goOn_yes (s:Ps) (a:Nat) (path:List Int) (b:Nat) (u ua:Value) (ba:Bool) (h:Vw) (k:PsI h u s) (ka:RS h 1 (sL ua) (rY path)) (hb:ba=((a:Int) == (s.E.fm.pages.length:Int))) :
  C1 Tryz.prog 84 #[.pointer (some ⟨b,0,none⟩),.agg #[Vi (a:Int),sL ua,.bool ba],Vi 0] h b (pL u s) (λv cs H=>PsR (0,{ s with t:=a,path:=path }) v cs H):=by
 refine wQ Tryz.func84 (c:=Tryz.f84.body.getD .skip) (N:=14) ?_;intro hbx hbad Q hQ;refine go1 29 [.own,.b 0 0,.b 1 11] [] ?_;intro b1;refine hQ.toB [Vi 0] [[sL (agJ 0 u),sL (agJ 1 u),Vi s.E.pol.t,Vi s.E.pol.b,Vi s.E.pol.c,sL (agJ 2 u),sL (agJ 3 u),sL (agJ 4 u),Vi s.E.now,Vi s.E.last,sL (agJ 5 u),Vi (a:Int),sL ua,.bool ba]] (λH sH=>?_);exact ⟨_,rfl,psR_mk u (agJ 5 u) ua rfl hb ((k.sees sH)).eng ((k.sees sH)).net (ka.sees sH)⟩
theorem goOn_no (s:Ps) (e:Int) (he:e≠0) (b:Nat) (u:Value) (h:Vw) (k:PsI h u s) :
  C1 Tryz.prog 84 #[.pointer (some ⟨b,0,none⟩),.agg #[Vi 0,.slice none 0 0,.bool false],Vi e] h b (pL u s) (λv cs H=>PsR (e,s) v cs H):=by
 refine wQ Tryz.func84 (c:=Tryz.f84.body.getD .skip) (N:=14) ?_;intro hbx hbad Q hQ;refine go1 13 [.own] [] ?_;intro b1;refine yQ (t:=e == 0) (Lj.2 he) ?_;refine go0 9 [] [] ?_;refine hQ.toB [Vi e] [(pL u s)] (λH sH=>?_);exact ⟨_,rfl,⟨u,rfl,rfl,(k.sees sH)⟩⟩
theorem become_err (s:Ps) (e:Int) (he:e≠0) (b:Nat) (u uo:Value) (h:Vw) (k:PsI h u s) :
  C1 Tryz.prog 78 #[.pointer (some ⟨b,0,none⟩),.agg #[.slice none 0 0,.slice none 0 0,Vi 0,Vi 0,Vi 0,.slice none 0 0,.slice none 0 0,.slice none 0 0,Vi 0,Vi 0],sL uo,.slice none 0 0,Vi e] h b (pL u s) (λv cs H=>PsR (e,s) v cs H):=by
 refine wQ Tryz.func78 (c:=Tryz.f78.body.getD .skip) (N:=32) ?_;intro hbx hbad Q hQ;refine go1 13 [.own] [] ?_;intro b1;refine oV (t:=e != 0) (Ek.2 he) ?_;refine go0 8 [] [] ?_;refine hQ.toB [Vi e] [(pL u s)] (λH sH=>?_);exact ⟨_,rfl,⟨u,rfl,rfl,(k.sees sH)⟩⟩
theorem snd_l {la lb:List Lt} (hr:la.length + lb.length <= 24):SndL la lb=(0,la++lb):=Cj hr
theorem snd_l_no {la lb:List Lt} (hr:¬ la.length + lb.length <= 24):SndL la lb=(12,[]):=Bj hr
theorem become_con (s:Ps) (E':Eg) (la lb:List Lt) (hfm:E'.fm=s.E.fm) (b:Nat) (u w' ua ub:Value) (h:Vw) (k:PsI h u s) (ke:IsEng h w' E') (ka:LtS h (sL ua) la) (kb:LtS h (sL ub) lb) :
  C1 Tryz.prog 78 #[.pointer (some ⟨b,0,none⟩),.agg (eA w' E'),sL ua,sL ub,Vi 0] h b (pL u s) (λv cs H=>PsR (sndF s E' la lb) v cs H):=by
 have hS:=λH (q1:LtS H (sL ua) la) (q2:LtS H (sL ub) lb)=>p_send q1 q2
 by_cases hr:la.length + lb.length <= 24
 ·have e:=snd_yes (s:=s) (E':=E') hr;rw [snd_l hr] at hS;have hok:∀ x∈la++lb,OkL (toL x):=λx hx=>(Rj.1 hx).elim (ka.ok x) (kb.ok x);have hfw:(la++lb).length <= 24:=by rw [Bk]; exact hr
  refine wQ Tryz.func78 (c:=Tryz.f78.body.getD .skip) (N:=32) ?_;intro hbx hbad Q hQ;refine go1 20 [.own] [] ?_;intro b1;refine qQ (λH sH=>hS _ (ka.sees sH) (kb.sees sH)) ?_; rintro _ W2 S3 ⟨ul,rfl,hu⟩;refine go0 35 [.b 0 0,.b 1 0,.b 1 10] [] ?_;refine hQ.toB [Vi 0] [[sL (agJ 0 w'),sL (agJ 1 w'),Vi E'.pol.t,Vi E'.pol.b,Vi E'.pol.c,sL (agJ 2 w'),sL (agJ 3 w'),sL (agJ 4 w'),Vi E'.now,Vi E'.last,sL ul,Vi (s.t:Int),sL (agJ 6 u),.bool ((s.t:Int) == (s.E.fm.pages.length:Int))]] (λH sH=>?_);exact ⟨_,rfl,psR_eq e (psR_mk w' ul (agJ 6 u) rfl (by show _=((s.t:Int) == (E'.fm.pages.length:Int)); rw [hfm]) (ke.sees (S3.trans sH)) ⟨(hu.sees sH),hfw,hok⟩ ((k.sees (S3.trans sH))).path)⟩
 ·have e:=snd_no (s:=s) (E':=E') hr;rw [snd_l_no hr] at hS;refine wQ Tryz.func78 (c:=Tryz.f78.body.getD .skip) (N:=32) ?_;intro hbx hbad Q hQ;refine go1 20 [.own] [] ?_;intro b1;refine qQ (λH sH=>hS _ (ka.sees sH) (kb.sees sH)) ?_; rintro _ W2 S3 ⟨ul,rfl,hu⟩;refine go0 24 [] [] ?_;refine hQ.toB [Vi 12] [(pL u s)] (λH sH=>?_);exact ⟨_,rfl,psR_eq e ⟨u,rfl,rfl,(k.sees (S3.trans sH))⟩⟩
theorem setE_fit {E:Eg} {ρ:List Int} {lv:Nat -> Nat} (hok:EgOk E ρ lv):(bZ E ρ).out.length <= E.fm.fields.length:=by
 have R:=setE_run hok;have few:=hok.fm.fields.few;have one:=hok.one;have hod:Ordd E.fm.fields ρ lv (nX ρ E.fm.fields.length):=oX hok.fm.rank (by omega);have h1:=R.olen;rw [hod.len] at h1;simp only [Jq] at h1;omega
theorem okL_of {fs:List Fd} {x:Lt} {last:Int} (h:LtOk fs x) (i1:1 <= x.id) (i2:x.id <= last) (hl:last <= 1073741824):OkL (toL x):=⟨i1,by show x.id <= _; omega,h.key,.inl (by show x.ans.k=0 /\ x.ans.n=0 /\ x.ans.s=⟨#[]⟩; rw [h.ans]; exact ⟨rfl,rfl,rfl⟩)⟩
theorem LnOk.okL {fs:List Fd} {x:Lt} {last:Int} (h:LnOk fs last x) (hl:last <= 1073741824):OkL (toL x):=⟨h.i1,by have:=h.i2; show x.id <= _; omega,h.key,h.ans.elim (λe=>.inl (by show x.ans.k=0 /\ x.ans.n=0 /\ x.ans.s=⟨#[]⟩; rw [e]; exact ⟨rfl,rfl,rfl⟩)) λe=>.inr e⟩
def keepF (s:Ps) (p:Int × List Lt):Int × Ps:=if p.1=0 then (0,{ s with net:=p.2 }) else (p.1,s)
theorem keep_any (s:Ps) (p:Int × List Lt) (b:Nat) (u ul:Value) (h:Vw) (k:PsI h u s) (kl:RS h 8 (sL ul) (lW p.2)) (hp:p.1=0 -> p.2.length <= 24 /\ ∀ x∈p.2,OkL (toL x)) :
  C1 Tryz.prog 79 #[.pointer (some ⟨b,0,none⟩),sL ul,Vi p.1] h b (pL u s) (λv cs H=>PsR (keepF s p) v cs H):=by
 obtain ⟨e,l⟩:=p
 by_cases q:e=0
 ·subst q;obtain ⟨h1,h2⟩:=hp rfl;exact keep_yes s l b u ul h k ⟨kl,h1,h2⟩
 ·have:=keep_no s e q b u ul h k
  rw [show keepF s (e,l)=(e,s) from Bj q];exact this
theorem ev_keep (kd:Int) (s:Ps) (p:Int × List Lt) (n:Nat) (nm:ByteArray) (v:Vl) (b:Nat) (u:Value) (h:Vw) (k:PsI h u s) (hp:p.1=0 -> p.2.length <= 24 /\ ∀ x∈p.2,OkL (toL x))
  (hk:(kd=3 /\ ∀ v1 H,LtS H v1 s.net -> C0 Tryz.prog 80 #[v1,Vi (n:Int),.agg #[Vi v.k,Vi v.n,.string v.s]] H (λr h'=>OutL p r h'))\/(kd=4 /\ ∀ v1 H,LtS H v1 s.net -> C0 Tryz.prog 81 #[v1,Vi (n:Int)] H (λr h'=>OutL p r h'))\/(kd=5 /\ ∀ v1 H,LtS H v1 s.net -> C0 Tryz.prog 82 #[v1,Vi (n:Int)] H (λr h'=>OutL p r h'))) :
  C1 Tryz.prog 50 #[.pointer (some ⟨b,0,none⟩),.agg #[Vi kd,Vi (n:Int),.string nm,Vi v.k,Vi v.n,.string v.s]] h b (pL u s) (λv cs H=>PsR (keepF s p) v cs H):=by
 have hK:=λul H q1 q2=>keep_any s p b u ul H q1 q2 hp;generalize keepF s p=rr at hK ⊢;rcases hk with ⟨rfl,hOp⟩ | ⟨rfl,hOp⟩ | ⟨rfl,hOp⟩
 ·refine wQ Tryz.func50 (c:=Tryz.f50.body.getD .skip) (N:=148) ?_;intro hbx hbad Q hQ;refine go1 36 [.own,.b 0 0] [] ?_;intro b1;refine lV 14 0 [.pu,.pu,.pu,.pu,.ld 1 10,.pu,.ld 0 1,.pu,.ld 0 3,.f (λgh=>.tuple #[sL (gh 9),Vi p.1]) (λgh hh=>RS hh 8 (sL (gh 9)) (lW p.2)),.pu,.pu,.ef (λgh=>Vi rr.1) 1 (λgh=>.box b (pL (gh 12) rr.2)) (λgh hh=>PsI hh (gh 12) rr.2),.pu] [(9,false),(12,false)] (Aj (λ_ _ _ s c=>c.sees s) (Aj (λ_ _ _ s c=>c.sees s) (trivial))) ?_ ?_
  ·intro R hT hA hmono;refine Aj (gY hT hA hmono ⟨λ_ _=>by kernel_rfl,λ_ _=>by kernel_rfl,λ_ _=>by kernel_rfl⟩ 70 (λu=>.tuple #[sL u,Vi p.1]) [4,6,8] 9 80 (λgh=>#[sL (agJ 5 u),Vi (n:Int),.agg #[Vi v.k,Vi v.n,.string v.s]]) (λgh H sH fH lent=>C0.facts (R:=R) (x:=gh) (i:=9) (n:=0) (F:=(λu=>.tuple #[sL u,Vi p.1])) (G:=λu hh=>RS hh 8 (sL u) (lW p.2)) (f:=λgh hh=>RS hh 8 (sL (gh 9)) (lW p.2)) (hOp _ _ ((k.sees sH)).net) (by kernel_rfl) (by kernel_rfl) (λ_ _ r=>r))) ?_;refine Aj (iY hT hA hmono ⟨λ_ _=>by kernel_rfl,λ_ _=>by kernel_rfl,λ_ _=>by kernel_rfl⟩ 73 (λu=>Vi rr.1) [0,9,10,11] 12 1 (GN R 1) b (λgh=>(pL u s)) (λgh=>(pL (gh 12) rr.2)) 79 (λgh=>#[Vp b,sL (gh 9),Vi p.1]) (λgh H sH fH lent=>C1.facts (R:=R) (x:=gh) (N':=λgh=>(pL (gh 12) rr.2)) (i:=12) (n:=1) (F:=(λu=>Vi rr.1)) (N:=λu=>(pL u rr.2)) (G:=λu hh=>PsI hh u rr.2) (f:=λgh hh=>PsI hh (gh 12) rr.2) (hK _ _ (k.sees sH) (fH 0 _ rfl (by kernel_rfl))) (by kernel_rfl) (by kernel_rfl) (λ_=>by kernel_rfl) (λ_ _ r=>r))) ?_
   trivial
  rintro u70 u73 W2 S3 ⟨f70,f73,-⟩;replace f70:RS W2 8 (sL u70) (lW p.2):=f70;replace f73:PsI W2 u73 rr.2:=f73;refine go0 4 [] [] ?_;refine hQ.toB [Vi rr.1] [(pL u73 rr.2)] (λH sH=>?_);exact ⟨_,rfl,u73,rfl,rfl,(f73.sees sH)⟩
 ·refine wQ Tryz.func50 (c:=Tryz.f50.body.getD .skip) (N:=148) ?_;intro hbx hbad Q hQ;refine go1 43 [.own,.b 0 0] [] ?_;intro b1;refine lV 12 0 [.pu,.pu,.pu,.pu,.ld 1 10,.pu,.ld 0 1,.f (λgh=>.tuple #[sL (gh 7),Vi p.1]) (λgh hh=>RS hh 8 (sL (gh 7)) (lW p.2)),.pu,.pu,.ef (λgh=>Vi rr.1) 1 (λgh=>.box b (pL (gh 10) rr.2)) (λgh hh=>PsI hh (gh 10) rr.2),.pu] [(7,false),(10,false)] (Aj (λ_ _ _ s c=>c.sees s) (Aj (λ_ _ _ s c=>c.sees s) (trivial))) ?_ ?_
  ·intro R hT hA hmono;refine Aj (gY hT hA hmono ⟨λ_ _=>by kernel_rfl,λ_ _=>by kernel_rfl,λ_ _=>by kernel_rfl⟩ 83 (λu=>.tuple #[sL u,Vi p.1]) [4,6] 7 81 (λgh=>#[sL (agJ 5 u),Vi (n:Int)]) (λgh H sH fH lent=>C0.facts (R:=R) (x:=gh) (i:=7) (n:=0) (F:=(λu=>.tuple #[sL u,Vi p.1])) (G:=λu hh=>RS hh 8 (sL u) (lW p.2)) (f:=λgh hh=>RS hh 8 (sL (gh 7)) (lW p.2)) (hOp _ _ ((k.sees sH)).net) (by kernel_rfl) (by kernel_rfl) (λ_ _ r=>r))) ?_;refine Aj (iY hT hA hmono ⟨λ_ _=>by kernel_rfl,λ_ _=>by kernel_rfl,λ_ _=>by kernel_rfl⟩ 86 (λu=>Vi rr.1) [0,7,8,9] 10 1 (GN R 1) b (λgh=>(pL u s)) (λgh=>(pL (gh 10) rr.2)) 79 (λgh=>#[Vp b,sL (gh 7),Vi p.1]) (λgh H sH fH lent=>C1.facts (R:=R) (x:=gh) (N':=λgh=>(pL (gh 10) rr.2)) (i:=10) (n:=1) (F:=(λu=>Vi rr.1)) (N:=λu=>(pL u rr.2)) (G:=λu hh=>PsI hh u rr.2) (f:=λgh hh=>PsI hh (gh 10) rr.2) (hK _ _ (k.sees sH) (fH 0 _ rfl (by kernel_rfl))) (by kernel_rfl) (by kernel_rfl) (λ_=>by kernel_rfl) (λ_ _ r=>r))) ?_
   trivial
  rintro u70 u73 W2 S3 ⟨f70,f73,-⟩;replace f70:RS W2 8 (sL u70) (lW p.2):=f70;replace f73:PsI W2 u73 rr.2:=f73;refine go0 4 [] [] ?_;refine hQ.toB [Vi rr.1] [(pL u73 rr.2)] (λH sH=>?_);exact ⟨_,rfl,u73,rfl,rfl,(f73.sees sH)⟩
 ·refine wQ Tryz.func50 (c:=Tryz.f50.body.getD .skip) (N:=148) ?_;intro hbx hbad Q hQ;refine go1 50 [.own,.b 0 0] [] ?_;intro b1;refine lV 12 0 [.pu,.pu,.pu,.pu,.ld 1 10,.pu,.ld 0 1,.f (λgh=>.tuple #[sL (gh 7),Vi p.1]) (λgh hh=>RS hh 8 (sL (gh 7)) (lW p.2)),.pu,.pu,.ef (λgh=>Vi rr.1) 1 (λgh=>.box b (pL (gh 10) rr.2)) (λgh hh=>PsI hh (gh 10) rr.2),.pu] [(7,false),(10,false)] (Aj (λ_ _ _ s c=>c.sees s) (Aj (λ_ _ _ s c=>c.sees s) (trivial))) ?_ ?_
  ·intro R hT hA hmono;refine Aj (gY hT hA hmono ⟨λ_ _=>by kernel_rfl,λ_ _=>by kernel_rfl,λ_ _=>by kernel_rfl⟩ 96 (λu=>.tuple #[sL u,Vi p.1]) [4,6] 7 82 (λgh=>#[sL (agJ 5 u),Vi (n:Int)]) (λgh H sH fH lent=>C0.facts (R:=R) (x:=gh) (i:=7) (n:=0) (F:=(λu=>.tuple #[sL u,Vi p.1])) (G:=λu hh=>RS hh 8 (sL u) (lW p.2)) (f:=λgh hh=>RS hh 8 (sL (gh 7)) (lW p.2)) (hOp _ _ ((k.sees sH)).net) (by kernel_rfl) (by kernel_rfl) (λ_ _ r=>r))) ?_;refine Aj (iY hT hA hmono ⟨λ_ _=>by kernel_rfl,λ_ _=>by kernel_rfl,λ_ _=>by kernel_rfl⟩ 99 (λu=>Vi rr.1) [0,7,8,9] 10 1 (GN R 1) b (λgh=>(pL u s)) (λgh=>(pL (gh 10) rr.2)) 79 (λgh=>#[Vp b,sL (gh 7),Vi p.1]) (λgh H sH fH lent=>C1.facts (R:=R) (x:=gh) (N':=λgh=>(pL (gh 10) rr.2)) (i:=10) (n:=1) (F:=(λu=>Vi rr.1)) (N:=λu=>(pL u rr.2)) (G:=λu hh=>PsI hh u rr.2) (f:=λgh hh=>PsI hh (gh 10) rr.2) (hK _ _ (k.sees sH) (fH 0 _ rfl (by kernel_rfl))) (by kernel_rfl) (by kernel_rfl) (λ_=>by kernel_rfl) (λ_ _ r=>r))) ?_
   trivial
  rintro u70 u73 W2 S3 ⟨f70,f73,-⟩;replace f70:RS W2 8 (sL u70) (lW p.2):=f70;replace f73:PsI W2 u73 rr.2:=f73;refine go0 4 [] [] ?_;refine hQ.toB [Vi rr.1] [(pL u73 rr.2)] (λH sH=>?_);exact ⟨_,rfl,u73,rfl,rfl,(f73.sees sH)⟩
theorem ev_tell (s:Ps) (E':Eg) (lt:List Lt) (n:Nat) (nm:ByteArray) (v:Vl) (b:Nat) (u:Value) (h:Vw) (k:PsI h u s) (hfm:E'.fm=s.E.fm) (hlt:lt.length <= 24 /\ ∀ x∈lt,OkL (toL x))
  (hOp:∀ H,IsEng H u s.E -> C0 Tryz.prog 13 #[.agg (eA u s.E),.string nm,.agg #[Vi v.k,Vi v.n,.string v.s]] H (λr h'=>TelR E' lt r h')) :
  C1 Tryz.prog 50 #[.pointer (some ⟨b,0,none⟩),.agg #[Vi 1,Vi (n:Int),.string nm,Vi v.k,Vi v.n,.string v.s]] h b (pL u s) (λv cs H=>PsR (sndF s E' s.net lt) v cs H):=by
 have hB:=λw' H q1 (q2:TelF H w' E' lt)=>become_con s E' s.net lt hfm b u w' (agJ 5 u) (agJ 5 w') H q1 q2.eng q1.net ⟨q2.out,hlt.1,hlt.2⟩;generalize sndF s E' s.net lt=rr at hB ⊢;refine wQ Tryz.func50 (c:=Tryz.f50.body.getD .skip) (N:=148) ?_;intro hbx hbad Q hQ;refine go1 22 [.own,.b 0 0] [] ?_;intro b1;refine lV 17 1 [.pu,.pu,.pu,.ld 2 0,.pu,.ld 1 2,.pu,.ld 1 3,.f (λgh=>.tuple #[.agg (eA (gh 8) E'),sL (agJ 5 (gh 8)),Vi 0]) (λgh hh=>TelF hh (gh 8) E' lt),.pu,.pu,.pu,.pu,.al 0,.st 0 0,.pu,.pu] [(8,false),(13,true)] (Aj (λ_ _ _ s c=>c.sees s) (trivial)) ?_ ?_
 ·intro R hT hA hmono;refine Aj (gY hT hA hmono ⟨λ_ _=>by kernel_rfl,λ_ _=>by kernel_rfl,λ_ _=>by kernel_rfl⟩ 24 (λu=>.tuple #[.agg (eA u E'),sL (agJ 5 u),Vi 0]) [3,5,7] 8 13 (λgh=>#[.agg (eA u s.E),.string nm,.agg #[Vi v.k,Vi v.n,.string v.s]]) (λgh H sH fH lent=>C0.facts (R:=R) (x:=gh) (i:=8) (n:=0) (F:=(λu=>.tuple #[.agg (eA u E'),sL (agJ 5 u),Vi 0])) (G:=λu hh=>TelF hh u E' lt) (f:=λgh hh=>TelF hh (gh 8) E' lt) (hOp _ ((k.sees sH)).eng) (by kernel_rfl) (by kernel_rfl) (λ_ _ r=>r))) ?_
  trivial
 rintro u24 b2 W3 S4 ⟨f24,-⟩;replace f24:TelF W3 u24 E' lt:=f24;refine go0 2 [] [] ?_;refine lV 10 0 [.pu,.ld 0 0,.pu,.pu,.pu,.ld 2 10,.pu,.pu,.ef (λgh=>Vi rr.1) 2 (λgh=>.box b (pL (gh 8) rr.2)) (λgh hh=>PsI hh (gh 8) rr.2),.pu] [(8,false)] (Aj (λ_ _ _ s c=>c.sees s) (trivial)) ?_ ?_
 ·intro R hT hA hmono;refine Aj (iY hT hA hmono ⟨λ_ _=>by kernel_rfl,λ_ _=>by kernel_rfl,λ_ _=>by kernel_rfl⟩ 36 (λu=>Vi rr.1) [0,1,5,6,7] 8 2 (GN R 2) b (λgh=>(pL u s)) (λgh=>(pL (gh 8) rr.2)) 78 (λgh=>#[Vp b,.agg (eA u24 E'),sL (agJ 5 u),sL (agJ 5 u24),Vi 0]) (λgh H sH fH lent=>C1.facts (R:=R) (x:=gh) (N':=λgh=>(pL (gh 8) rr.2)) (i:=8) (n:=0) (F:=(λu=>Vi rr.1)) (N:=λu=>(pL u rr.2)) (G:=λu hh=>PsI hh u rr.2) (f:=λgh hh=>PsI hh (gh 8) rr.2) (hB _ _ (k.sees (S4.trans sH)) (f24.sees sH)) (by kernel_rfl) (by kernel_rfl) (λ_=>by kernel_rfl) (λ_ _ r=>r))) ?_
  trivial
 rintro u36 W5 S6 ⟨f36,-⟩;replace f36:PsI W5 u36 rr.2:=f36;refine go0 4 [] [] ?_;refine hQ.toB [Vi rr.1] [(pL u36 rr.2)] (λH sH=>?_);exact ⟨_,rfl,u36,rfl,rfl,(f36.sees sH)⟩
theorem ev_untold (s:Ps) (e:Int) (he:e≠0) (n:Nat) (nm:ByteArray) (v:Vl) (b:Nat) (u:Value) (h:Vw) (k:PsI h u s)
  (hOp:∀ H,IsEng H u s.E -> C0 Tryz.prog 13 #[.agg (eA u s.E),.string nm,.agg #[Vi v.k,Vi v.n,.string v.s]] H (λr h'=>r=.tuple #[.agg #[.slice none 0 0,.slice none 0 0,Vi 0,Vi 0,Vi 0,.slice none 0 0,.slice none 0 0,.slice none 0 0,Vi 0,Vi 0],.slice none 0 0,Vi e])) :
  C1 Tryz.prog 50 #[.pointer (some ⟨b,0,none⟩),.agg #[Vi 1,Vi (n:Int),.string nm,Vi v.k,Vi v.n,.string v.s]] h b (pL u s) (λv cs H=>PsR (e,s) v cs H):=by
 have hB:=λH q1=>become_err s e he b u (agJ 5 u) H q1;refine wQ Tryz.func50 (c:=Tryz.f50.body.getD .skip) (N:=148) ?_;intro hbx hbad Q hQ;refine go1 22 [.own,.b 0 0] [] ?_;intro b1;refine lV 17 1 [.pu,.pu,.pu,.ld 2 0,.pu,.ld 1 2,.pu,.ld 1 3,.v (λgh=>.tuple #[.agg #[Vz,Vz,Vi 0,Vi 0,Vi 0,Vz,Vz,Vz,Vi 0,Vi 0],Vz,Vi e]),.pu,.pu,.pu,.pu,.al 0,.st 0 0,.pu,.pu] [(13,true)] (trivial) ?_ ?_
 ·intro R hT hA hmono;refine Aj (t_v hT hA hmono (k:=13) (args:=(λgh=>#[.agg (eA u s.E),.string nm,.agg #[Vi v.k,Vi v.n,.string v.s]])) (f:=λgh=>.tuple #[.agg #[Vz,Vz,Vi 0,Vi 0,Vi 0,Vz,Vz,Vz,Vi 0,Vi 0],Vz,Vi e]) (λgh H sH fH lent=>hOp _ ((k.sees sH)).eng)) ?_
  trivial
 rintro b2 W3 S4 -;refine go0 2 [] [] ?_;refine lV 10 0 [.pu,.ld 0 0,.pu,.pu,.pu,.ld 2 10,.pu,.pu,.ef (λgh=>Vi e) 2 (λgh=>.box b (pL (gh 8) s)) (λgh hh=>PsI hh (gh 8) s),.pu] [(8,false)] (Aj (λ_ _ _ s c=>c.sees s) (trivial)) ?_ ?_
 ·intro R hT hA hmono;refine Aj (iY hT hA hmono ⟨λ_ _=>by kernel_rfl,λ_ _=>by kernel_rfl,λ_ _=>by kernel_rfl⟩ 36 (λu=>Vi e) [0,1,5,6,7] 8 2 (GN R 2) b (λgh=>(pL u s)) (λgh=>(pL (gh 8) s)) 78 (λgh=>#[Vp b,.agg #[Vz,Vz,Vi 0,Vi 0,Vi 0,Vz,Vz,Vz,Vi 0,Vi 0],sL (agJ 5 u),Vz,Vi e]) (λgh H sH fH lent=>C1.facts (R:=R) (x:=gh) (N':=λgh=>(pL (gh 8) s)) (i:=8) (n:=0) (F:=(λu=>Vi e)) (N:=λu=>(pL u s)) (G:=λu hh=>PsI hh u s) (f:=λgh hh=>PsI hh (gh 8) s) (hB _ (k.sees (S4.trans sH))) (by kernel_rfl) (by kernel_rfl) (λ_=>by kernel_rfl) (λ_ _ r=>r))) ?_
  trivial
 rintro u36 W5 S6 ⟨f36,-⟩;replace f36:PsI W5 u36 s:=f36;refine go0 4 [] [] ?_;refine hQ.toB [Vi e] [(pL u36 s)] (λH sH=>?_);exact ⟨_,rfl,u36,rfl,rfl,(f36.sees sH)⟩
theorem ev_tick (s:Ps) (E':Eg) (lt:List Lt) (n:Nat) (nm:ByteArray) (v:Vl) (b:Nat) (u:Value) (h:Vw) (k:PsI h u s) (hfm:E'.fm=s.E.fm) (hlt:lt.length <= 24 /\ ∀ x∈lt,OkL (toL x))
  (hOp:∀ H,IsEng H u s.E -> C0 Tryz.prog 11 #[.agg (eA u s.E),Vi (n:Int)] H (λr h'=>TelR E' lt r h')) :
  C1 Tryz.prog 50 #[.pointer (some ⟨b,0,none⟩),.agg #[Vi 2,Vi (n:Int),.string nm,Vi v.k,Vi v.n,.string v.s]] h b (pL u s) (λv cs H=>PsR (sndF s E' s.net lt) v cs H):=by
 have hB:=λw' H q1 (q2:TelF H w' E' lt)=>become_con s E' s.net lt hfm b u w' (agJ 5 u) (agJ 5 w') H q1 q2.eng q1.net ⟨q2.out,hlt.1,hlt.2⟩;generalize sndF s E' s.net lt=rr at hB ⊢;refine wQ Tryz.func50 (c:=Tryz.f50.body.getD .skip) (N:=148) ?_;intro hbx hbad Q hQ;refine go1 29 [.own,.b 0 0] [] ?_;intro b1;refine lV 15 1 [.pu,.pu,.pu,.ld 2 0,.pu,.ld 1 1,.f (λgh=>.tuple #[.agg (eA (gh 6) E'),sL (agJ 5 (gh 6)),Vi 0]) (λgh hh=>TelF hh (gh 6) E' lt),.pu,.pu,.pu,.pu,.al 0,.st 0 0,.pu,.pu] [(6,false),(11,true)] (Aj (λ_ _ _ s c=>c.sees s) (trivial)) ?_ ?_
 ·intro R hT hA hmono;refine Aj (gY hT hA hmono ⟨λ_ _=>by kernel_rfl,λ_ _=>by kernel_rfl,λ_ _=>by kernel_rfl⟩ 46 (λu=>.tuple #[.agg (eA u E'),sL (agJ 5 u),Vi 0]) [3,5] 6 11 (λgh=>#[.agg (eA u s.E),Vi (n:Int)]) (λgh H sH fH lent=>C0.facts (R:=R) (x:=gh) (i:=6) (n:=0) (F:=(λu=>.tuple #[.agg (eA u E'),sL (agJ 5 u),Vi 0])) (G:=λu hh=>TelF hh u E' lt) (f:=λgh hh=>TelF hh (gh 6) E' lt) (hOp _ ((k.sees sH)).eng) (by kernel_rfl) (by kernel_rfl) (λ_ _ r=>r))) ?_
  trivial
 rintro u24 b2 W3 S4 ⟨f24,-⟩;replace f24:TelF W3 u24 E' lt:=f24;refine go0 2 [] [] ?_;refine lV 10 0 [.pu,.ld 0 0,.pu,.pu,.pu,.ld 2 10,.pu,.pu,.ef (λgh=>Vi rr.1) 2 (λgh=>.box b (pL (gh 8) rr.2)) (λgh hh=>PsI hh (gh 8) rr.2),.pu] [(8,false)] (Aj (λ_ _ _ s c=>c.sees s) (trivial)) ?_ ?_
 ·intro R hT hA hmono;refine Aj (iY hT hA hmono ⟨λ_ _=>by kernel_rfl,λ_ _=>by kernel_rfl,λ_ _=>by kernel_rfl⟩ 58 (λu=>Vi rr.1) [0,1,5,6,7] 8 2 (GN R 2) b (λgh=>(pL u s)) (λgh=>(pL (gh 8) rr.2)) 78 (λgh=>#[Vp b,.agg (eA u24 E'),sL (agJ 5 u),sL (agJ 5 u24),Vi 0]) (λgh H sH fH lent=>C1.facts (R:=R) (x:=gh) (N':=λgh=>(pL (gh 8) rr.2)) (i:=8) (n:=0) (F:=(λu=>Vi rr.1)) (N:=λu=>(pL u rr.2)) (G:=λu hh=>PsI hh u rr.2) (f:=λgh hh=>PsI hh (gh 8) rr.2) (hB _ _ (k.sees (S4.trans sH)) (f24.sees sH)) (by kernel_rfl) (by kernel_rfl) (λ_=>by kernel_rfl) (λ_ _ r=>r))) ?_
  trivial
 rintro u36 W5 S6 ⟨f36,-⟩;replace f36:PsI W5 u36 rr.2:=f36;refine go0 4 [] [] ?_;refine hQ.toB [Vi rr.1] [(pL u36 rr.2)] (λH sH=>?_);exact ⟨_,rfl,u36,rfl,rfl,(f36.sees sH)⟩
theorem come_no (s:Ps) (e:Int) (he:e≠0) (n:Nat) (b:Nat) (u:Value) (h:Vw) (k:PsI h u s)
  (hOp:∀ v1 H,LtS H v1 s.net -> C0 Tryz.prog 108 #[v1,Vi (n:Int)] H (λr h'=>r=.tuple #[.agg #[Vt ⟨#[]⟩,Vi 0,Vi 0,Vi 0,.string ⟨#[]⟩,Vi 0,Vi 0,.string ⟨#[]⟩],.slice none 0 0,Vi e])) :
  C1 Tryz.prog 83 #[.pointer (some ⟨b,0,none⟩),Vi (n:Int)] h b (pL u s) (λv cs H=>PsR (e,s) v cs H):=by
 refine wQ Tryz.func83 (c:=Tryz.f83.body.getD .skip) (N:=41) ?_;intro hbx hbad Q hQ;refine go1 30 [.b 0 10,.cl 108 #[sL (agJ 5 u),Vi (n:Int)] (.tuple #[.agg #[Ve,Vi 0,Vi 0,Vi 0,Ve,Vi 0,Vi 0,Ve],Vz,Vi e]),.own,.b 0 0] [] ?_ (ho:=(Aj (λH sH=>hOp _ _ ((k.sees sH)).net) (trivial)));intro b1;refine oV (t:=e != 0) (Ek.2 he) ?_;refine go0 8 [] [] ?_;refine hQ.toB [Vi e] [(pL u s)] (λH sH=>?_);exact ⟨_,rfl,u,rfl,rfl,(k.sees sH)⟩
theorem come_yes (s:Ps) (E':Eg) (x:Lt) (rest lt:List Lt) (t:Bool) (n:Nat) (b:Nat) (u:Value) (h:Vw) (k:PsI h u s) (hfm:E'.fm=s.E.fm) (hlt:lt.length <= 24 /\ ∀ x∈lt,OkL (toL x)) (hrs:rest.length <= 24 /\ ∀ x∈rest,OkL (toL x))
  (hOp:∀ v1 H,LtS H v1 s.net -> C0 Tryz.prog 108 #[v1,Vi (n:Int)] H (λr h'=>∃ u,r=.tuple #[.agg #[Vt x.nm,Vi x.id,Vi x.key.k,Vi x.key.n,.string x.key.s,Vi x.ans.k,Vi x.ans.n,.string x.ans.s],sL u,Vi 0] /\ RS h' 8 (sL u) (lW rest)))
  (hHr:∀ H,IsEng H u s.E -> C0 Tryz.prog 15 #[.agg (eA u s.E),.agg #[Vt x.nm,Vi x.id,Vi x.key.k,Vi x.key.n,.string x.key.s,Vi x.ans.k,Vi x.ans.n,.string x.ans.s]] H (λr h'=>HeaR E' lt t r h')) :
  C1 Tryz.prog 83 #[.pointer (some ⟨b,0,none⟩),Vi (n:Int)] h b (pL u s) (λv cs H=>PsR (sndF s E' rest lt) v cs H):=by
 have hB:=λw' ur H q1 (q2:TelF H w' E' lt) q3=>become_con s E' rest lt hfm b u w' ur (agJ 5 w') H q1 q2.eng ⟨q3,hrs.1,hrs.2⟩ ⟨q2.out,hlt.1,hlt.2⟩;generalize sndF s E' rest lt=rr at hB ⊢;refine wQ Tryz.func83 (c:=Tryz.f83.body.getD .skip) (N:=41) ?_;intro hbx hbad Q hQ;refine go0 12 [.b 0 10] [] ?_;refine qQ (λH sH=>hOp _ _ ((k.sees sH)).net) ?_; rintro _ W1 S2 ⟨ur,rfl,fr⟩;refine go1 21 [.own,.b 0 0] [] ?_;intro b3;refine lV 16 1 [.pu,.pu,.pu,.ld 2 0,.ld 1 0,.f (λgh=>.tuple #[.agg (eA (gh 5) E'),sL (agJ 5 (gh 5)),.bool t,Vi 0]) (λgh hh=>TelF hh (gh 5) E' lt),.pu,.pu,.pu,.pu,.pu,.al 0,.st 0 0,.pu,.pu,.pu] [(5,false),(11,true)] (Aj (λ_ _ _ s c=>c.sees s) (trivial)) ?_ ?_
 ·intro R hT hA hmono;refine Aj (gY hT hA hmono ⟨λ_ _=>by kernel_rfl,λ_ _=>by kernel_rfl,λ_ _=>by kernel_rfl⟩ 30 (λu=>.tuple #[.agg (eA u E'),sL (agJ 5 u),.bool t,Vi 0]) [3,4] 5 15 (λgh=>#[.agg (eA u s.E),.agg #[Vt x.nm,Vi x.id,Vi x.key.k,Vi x.key.n,.string x.key.s,Vi x.ans.k,Vi x.ans.n,.string x.ans.s]]) (λgh H sH fH lent=>C0.facts (R:=R) (x:=gh) (i:=5) (n:=0) (F:=(λu=>.tuple #[.agg (eA u E'),sL (agJ 5 u),.bool t,Vi 0])) (G:=λu hh=>TelF hh u E' lt) (f:=λgh hh=>TelF hh (gh 5) E' lt) (hHr _ ((k.sees (S2.trans sH))).eng) (by kernel_rfl) (by kernel_rfl) (λ_ _ r=>r))) ?_
  trivial
 rintro u30 b4 W5 S6 ⟨f30,-⟩;replace f30:TelF W5 u30 E' lt:=f30;refine go0 8 [.b 0 0] [] ?_;refine g_call1 2 (λH sH=>hB _ _ _ (k.sees (S2.trans (S6.trans sH))) (f30.sees sH) (fr.sees (S6.trans sH))) ?_; rintro _ _ W7 S8 ⟨u40,rfl,rfl,f40⟩;refine go0 4 [] [] ?_;refine hQ.toB [Vi rr.1] [(pL u40 rr.2)] (λH sH=>?_);exact ⟨_,rfl,u40,rfl,rfl,(f40.sees sH)⟩
theorem ev_come (s:Ps) (rr:Int × Ps) (n:Nat) (nm:ByteArray) (v:Vl) (b:Nat) (u:Value) (h:Vw) (k:PsI h u s)
  (hOp:∀ H,PsI H u s -> C1 Tryz.prog 83 #[.pointer (some ⟨b,0,none⟩),Vi (n:Int)] H b (pL u s) (λv cs H=>PsR rr v cs H)) :
  C1 Tryz.prog 50 #[.pointer (some ⟨b,0,none⟩),.agg #[Vi 6,Vi (n:Int),.string nm,Vi v.k,Vi v.n,.string v.s]] h b (pL u s) (λv cs H=>PsR rr v cs H):=by
 refine wQ Tryz.func50 (c:=Tryz.f50.body.getD .skip) (N:=148) ?_;intro hbx hbad Q hQ;refine go1 61 [.own,.b 0 0,.b 0 1] [] ?_;intro b1;refine g_call1 1 (λH sH=>hOp _ (k.sees sH)) ?_; rintro _ _ W2 S3 ⟨u40,rfl,rfl,f40⟩;refine go0 6 [] [] ?_;refine hQ.toB [Vi rr.1] [(pL u40 rr.2)] (λH sH=>?_);exact ⟨_,rfl,u40,rfl,rfl,(f40.sees sH)⟩
theorem ev_go (kd:Int) (s:Ps) (a:Nat) (path:List Int) (ba:Bool) (hb:ba=((a:Int) == (s.E.fm.pages.length:Int))) (n:Nat) (nm:ByteArray) (v:Vl) (b:Nat) (u:Value) (h:Vw) (k:PsI h u s)
  (hk:(kd=7 /\ ∀ H,PsI H u s -> C0 Tryz.prog 85 #[.agg #[sL (agJ 0 u),sL (agJ 1 u)],sL (agJ 4 u),.agg #[Vi (s.t:Int),sL (agJ 6 u),.bool ((s.t:Int) == (s.E.fm.pages.length:Int))]] H (λr h'=>∃ u,r=.tuple #[.agg #[Vi (a:Int),sL u,.bool ba],Vi 0] /\ RS h' 1 (sL u) (rY path))) \/
   (kd=8 /\ ∀ H,PsI H u s -> C0 Tryz.prog 86 #[.agg #[sL (agJ 0 u),sL (agJ 1 u)],sL (agJ 4 u),.agg #[Vi (s.t:Int),sL (agJ 6 u),.bool ((s.t:Int) == (s.E.fm.pages.length:Int))]] H (λr h'=>∃ u,r=.tuple #[.agg #[Vi (a:Int),sL u,.bool ba],Vi 0] /\ RS h' 1 (sL u) (rY path)))) :
  C1 Tryz.prog 50 #[.pointer (some ⟨b,0,none⟩),.agg #[Vi kd,Vi (n:Int),.string nm,Vi v.k,Vi v.n,.string v.s]] h b (pL u s) (λv cs H=>PsR (0,{ s with t:=a,path:=path }) v cs H):=by
 obtain ⟨rr,hrr⟩:∃ rr:Int × Ps,(0,{ s with t:=a,path:=path })=rr:=⟨_,rfl⟩;have hG:=λua H q1 q2=>goOn_yes s a path b u ua ba H q1 q2 hb;rw [hrr] at hG ⊢;rcases hk with ⟨rfl,hOp⟩ | ⟨rfl,hOp⟩
 ·refine wQ Tryz.func50 (c:=Tryz.f50.body.getD .skip) (N:=148) ?_;intro hbx hbad Q hQ;refine go1 64 [.own,.b 0 0] [] ?_;intro b1;refine lV 20 0 [.pu,.pu,.pu,.pu,.pu,.ld 1 0,.pu,.pu,.pu,.pu,.ld 1 7,.pu,.pu,.pu,.ld 1 11,.f (λgh=>.tuple #[.agg #[Vi (a:Int),sL (gh 15),.bool ba],Vi 0]) (λgh hh=>RS hh 1 (sL (gh 15)) (rY path)),.pu,.pu,.ef (λgh=>Vi rr.1) 1 (λgh=>.box b (pL (gh 18) rr.2)) (λgh hh=>PsI hh (gh 18) rr.2),.pu] [(15,false),(18,false)] (Aj (λ_ _ _ s c=>c.sees s) (Aj (λ_ _ _ s c=>c.sees s) (trivial))) ?_ ?_
  ·intro R hT hA hmono;refine Aj (gY hT hA hmono ⟨λ_ _=>by kernel_rfl,λ_ _=>by kernel_rfl,λ_ _=>by kernel_rfl⟩ 123 (λu=>.tuple #[.agg #[Vi (a:Int),sL u,.bool ba],Vi 0]) [5,10,14] 15 85 (λgh=>#[.agg #[sL (agJ 0 u),sL (agJ 1 u)],sL (agJ 4 u),.agg #[Vi (s.t:Int),sL (agJ 6 u),.bool ((s.t:Int) == (s.E.fm.pages.length:Int))]]) (λgh H sH fH lent=>C0.facts (R:=R) (x:=gh) (i:=15) (n:=0) (F:=(λu=>.tuple #[.agg #[Vi (a:Int),sL u,.bool ba],Vi 0])) (G:=λu hh=>RS hh 1 (sL u) (rY path)) (f:=λgh hh=>RS hh 1 (sL (gh 15)) (rY path)) (hOp _ (k.sees sH)) (by kernel_rfl) (by kernel_rfl) (λ_ _ r=>r))) ?_;refine Aj (iY hT hA hmono ⟨λ_ _=>by kernel_rfl,λ_ _=>by kernel_rfl,λ_ _=>by kernel_rfl⟩ 126 (λu=>Vi rr.1) [0,15,16,17] 18 1 (GN R 1) b (λgh=>(pL u s)) (λgh=>(pL (gh 18) rr.2)) 84 (λgh=>#[Vp b,.agg #[Vi (a:Int),sL (gh 15),.bool ba],Vi 0]) (λgh H sH fH lent=>C1.facts (R:=R) (x:=gh) (N':=λgh=>(pL (gh 18) rr.2)) (i:=18) (n:=1) (F:=(λu=>Vi rr.1)) (N:=λu=>(pL u rr.2)) (G:=λu hh=>PsI hh u rr.2) (f:=λgh hh=>PsI hh (gh 18) rr.2) (hG _ _ (k.sees sH) (fH 0 _ rfl (by kernel_rfl))) (by kernel_rfl) (by kernel_rfl) (λ_=>by kernel_rfl) (λ_ _ r=>r))) ?_
   trivial
  rintro u70 u73 W2 S3 ⟨f70,f73,-⟩;replace f70:RS W2 1 (sL u70) (rY path):=f70;replace f73:PsI W2 u73 rr.2:=f73;refine go0 4 [] [] ?_;refine hQ.toB [Vi rr.1] [(pL u73 rr.2)] (λH sH=>?_);exact ⟨_,rfl,u73,rfl,rfl,(f73.sees sH)⟩
 ·refine wQ Tryz.func50 (c:=Tryz.f50.body.getD .skip) (N:=148) ?_;intro hbx hbad Q hQ;refine go1 71 [.own,.b 0 0] [] ?_;intro b1;refine lV 20 0 [.pu,.pu,.pu,.pu,.pu,.ld 1 0,.pu,.pu,.pu,.pu,.ld 1 7,.pu,.pu,.pu,.ld 1 11,.f (λgh=>.tuple #[.agg #[Vi (a:Int),sL (gh 15),.bool ba],Vi 0]) (λgh hh=>RS hh 1 (sL (gh 15)) (rY path)),.pu,.pu,.ef (λgh=>Vi rr.1) 1 (λgh=>.box b (pL (gh 18) rr.2)) (λgh hh=>PsI hh (gh 18) rr.2),.pu] [(15,false),(18,false)] (Aj (λ_ _ _ s c=>c.sees s) (Aj (λ_ _ _ s c=>c.sees s) (trivial))) ?_ ?_
  ·intro R hT hA hmono;refine Aj (gY hT hA hmono ⟨λ_ _=>by kernel_rfl,λ_ _=>by kernel_rfl,λ_ _=>by kernel_rfl⟩ 144 (λu=>.tuple #[.agg #[Vi (a:Int),sL u,.bool ba],Vi 0]) [5,10,14] 15 86 (λgh=>#[.agg #[sL (agJ 0 u),sL (agJ 1 u)],sL (agJ 4 u),.agg #[Vi (s.t:Int),sL (agJ 6 u),.bool ((s.t:Int) == (s.E.fm.pages.length:Int))]]) (λgh H sH fH lent=>C0.facts (R:=R) (x:=gh) (i:=15) (n:=0) (F:=(λu=>.tuple #[.agg #[Vi (a:Int),sL u,.bool ba],Vi 0])) (G:=λu hh=>RS hh 1 (sL u) (rY path)) (f:=λgh hh=>RS hh 1 (sL (gh 15)) (rY path)) (hOp _ (k.sees sH)) (by kernel_rfl) (by kernel_rfl) (λ_ _ r=>r))) ?_;refine Aj (iY hT hA hmono ⟨λ_ _=>by kernel_rfl,λ_ _=>by kernel_rfl,λ_ _=>by kernel_rfl⟩ 147 (λu=>Vi rr.1) [0,15,16,17] 18 1 (GN R 1) b (λgh=>(pL u s)) (λgh=>(pL (gh 18) rr.2)) 84 (λgh=>#[Vp b,.agg #[Vi (a:Int),sL (gh 15),.bool ba],Vi 0]) (λgh H sH fH lent=>C1.facts (R:=R) (x:=gh) (N':=λgh=>(pL (gh 18) rr.2)) (i:=18) (n:=1) (F:=(λu=>Vi rr.1)) (N:=λu=>(pL u rr.2)) (G:=λu hh=>PsI hh u rr.2) (f:=λgh hh=>PsI hh (gh 18) rr.2) (hG _ _ (k.sees sH) (fH 0 _ rfl (by kernel_rfl))) (by kernel_rfl) (by kernel_rfl) (λ_=>by kernel_rfl) (λ_ _ r=>r))) ?_
   trivial
  rintro u70 u73 W2 S3 ⟨f70,f73,-⟩;replace f70:RS W2 1 (sL u70) (rY path):=f70;replace f73:PsI W2 u73 rr.2:=f73;refine go0 4 [] [] ?_;refine hQ.toB [Vi rr.1] [(pL u73 rr.2)] (λH sH=>?_);exact ⟨_,rfl,u73,rfl,rfl,(f73.sees sH)⟩
theorem ev_stay (kd:Int) (s:Ps) (e:Int) (he:e≠0) (n:Nat) (nm:ByteArray) (v:Vl) (b:Nat) (u:Value) (h:Vw) (k:PsI h u s)
  (hk:(kd=7 /\ ∀ H,PsI H u s -> C0 Tryz.prog 85 #[.agg #[sL (agJ 0 u),sL (agJ 1 u)],sL (agJ 4 u),.agg #[Vi (s.t:Int),sL (agJ 6 u),.bool ((s.t:Int) == (s.E.fm.pages.length:Int))]] H (λr h'=>r=.tuple #[.agg #[Vi 0,.slice none 0 0,.bool false],Vi e])) \/
   (kd=8 /\ ∀ H,PsI H u s -> C0 Tryz.prog 86 #[.agg #[sL (agJ 0 u),sL (agJ 1 u)],sL (agJ 4 u),.agg #[Vi (s.t:Int),sL (agJ 6 u),.bool ((s.t:Int) == (s.E.fm.pages.length:Int))]] H (λr h'=>r=.tuple #[.agg #[Vi 0,.slice none 0 0,.bool false],Vi e]))) :
  C1 Tryz.prog 50 #[.pointer (some ⟨b,0,none⟩),.agg #[Vi kd,Vi (n:Int),.string nm,Vi v.k,Vi v.n,.string v.s]] h b (pL u s) (λv cs H=>PsR (e,s) v cs H):=by
 have hG:=λH q1=>goOn_no s e he b u H q1;rcases hk with ⟨rfl,hOp⟩ | ⟨rfl,hOp⟩
 ·refine wQ Tryz.func50 (c:=Tryz.f50.body.getD .skip) (N:=148) ?_;intro hbx hbad Q hQ;refine go1 64 [.own,.b 0 0] [] ?_;intro b1;refine lV 20 0 [.pu,.pu,.pu,.pu,.pu,.ld 1 0,.pu,.pu,.pu,.pu,.ld 1 7,.pu,.pu,.pu,.ld 1 11,.v (λgh=>.tuple #[.agg #[Vi 0,Vz,.bool false],Vi e]),.pu,.pu,.ef (λgh=>Vi e) 1 (λgh=>.box b (pL (gh 18) s)) (λgh hh=>PsI hh (gh 18) s),.pu] [(18,false)] (Aj (λ_ _ _ s c=>c.sees s) (trivial)) ?_ ?_
  ·intro R hT hA hmono;refine Aj (t_v hT hA hmono (k:=85) (args:=(λgh=>#[.agg #[sL (agJ 0 u),sL (agJ 1 u)],sL (agJ 4 u),.agg #[Vi (s.t:Int),sL (agJ 6 u),.bool ((s.t:Int) == (s.E.fm.pages.length:Int))]])) (f:=λgh=>.tuple #[.agg #[Vi 0,Vz,.bool false],Vi e]) (λgh H sH fH lent=>hOp _ (k.sees sH))) ?_;refine Aj (iY hT hA hmono ⟨λ_ _=>by kernel_rfl,λ_ _=>by kernel_rfl,λ_ _=>by kernel_rfl⟩ 126 (λu=>Vi e) [0,15,16,17] 18 1 (GN R 1) b (λgh=>(pL u s)) (λgh=>(pL (gh 18) s)) 84 (λgh=>#[Vp b,.agg #[Vi 0,Vz,.bool false],Vi e]) (λgh H sH fH lent=>C1.facts (R:=R) (x:=gh) (N':=λgh=>(pL (gh 18) s)) (i:=18) (n:=0) (F:=(λu=>Vi e)) (N:=λu=>(pL u s)) (G:=λu hh=>PsI hh u s) (f:=λgh hh=>PsI hh (gh 18) s) (hG _ (k.sees sH)) (by kernel_rfl) (by kernel_rfl) (λ_=>by kernel_rfl) (λ_ _ r=>r))) ?_
   trivial
  rintro u73 W2 S3 ⟨f73,-⟩;replace f73:PsI W2 u73 s:=f73;refine go0 4 [] [] ?_;refine hQ.toB [Vi e] [(pL u73 s)] (λH sH=>?_);exact ⟨_,rfl,u73,rfl,rfl,(f73.sees sH)⟩
 ·refine wQ Tryz.func50 (c:=Tryz.f50.body.getD .skip) (N:=148) ?_;intro hbx hbad Q hQ;refine go1 71 [.own,.b 0 0] [] ?_;intro b1;refine lV 20 0 [.pu,.pu,.pu,.pu,.pu,.ld 1 0,.pu,.pu,.pu,.pu,.ld 1 7,.pu,.pu,.pu,.ld 1 11,.v (λgh=>.tuple #[.agg #[Vi 0,Vz,.bool false],Vi e]),.pu,.pu,.ef (λgh=>Vi e) 1 (λgh=>.box b (pL (gh 18) s)) (λgh hh=>PsI hh (gh 18) s),.pu] [(18,false)] (Aj (λ_ _ _ s c=>c.sees s) (trivial)) ?_ ?_
  ·intro R hT hA hmono;refine Aj (t_v hT hA hmono (k:=86) (args:=(λgh=>#[.agg #[sL (agJ 0 u),sL (agJ 1 u)],sL (agJ 4 u),.agg #[Vi (s.t:Int),sL (agJ 6 u),.bool ((s.t:Int) == (s.E.fm.pages.length:Int))]])) (f:=λgh=>.tuple #[.agg #[Vi 0,Vz,.bool false],Vi e]) (λgh H sH fH lent=>hOp _ (k.sees sH))) ?_;refine Aj (iY hT hA hmono ⟨λ_ _=>by kernel_rfl,λ_ _=>by kernel_rfl,λ_ _=>by kernel_rfl⟩ 147 (λu=>Vi e) [0,15,16,17] 18 1 (GN R 1) b (λgh=>(pL u s)) (λgh=>(pL (gh 18) s)) 84 (λgh=>#[Vp b,.agg #[Vi 0,Vz,.bool false],Vi e]) (λgh H sH fH lent=>C1.facts (R:=R) (x:=gh) (N':=λgh=>(pL (gh 18) s)) (i:=18) (n:=0) (F:=(λu=>Vi e)) (N:=λu=>(pL u s)) (G:=λu hh=>PsI hh u s) (f:=λgh hh=>PsI hh (gh 18) s) (hG _ (k.sees sH)) (by kernel_rfl) (by kernel_rfl) (λ_=>by kernel_rfl) (λ_ _ r=>r))) ?_
   trivial
  rintro u73 W2 S3 ⟨f73,-⟩;replace f73:PsI W2 u73 s:=f73;refine go0 4 [] [] ?_;refine hQ.toB [Vi e] [(pL u73 s)] (λH sH=>?_);exact ⟨_,rfl,u73,rfl,rfl,(f73.sees sH)⟩
theorem back_no (f:Fm) (ρ:List Int) (lv:Nat -> Nat) (A:Option Addr) (n c:Nat) (B:Option Addr) (m d:Nat) (va:List Vl) (A1:Option Addr) (c1:Nat) (aa:Int) (A2:Option Addr) (c2:Nat) (h:Vw) (hok:OkFm f ρ lv) (hf:IsForm h (.slice A n c) (.slice B m d) f) (hn:n=f.fields.length) (hm:m=f.pages.length)
  (hv:RS h 3 (.slice A1 n c1) (zZ va)) (la:va.length=n) (ov:∀ x∈va,OkV x) (hp:RS h 1 (.slice A2 0 c2) (rY [])) (pk:PathOk ([]++[aa]) m) :
  C0 Tryz.prog 86 #[.agg #[.slice A n c,.slice B m d],.slice A1 n c1,.agg #[Vi aa,.slice A2 0 c2,.bool (aa == (m:Int))]] h (λr _=>r=.tuple #[.agg #[Vi 0,.slice none 0 0,.bool false],Vi 5]):=by
 have hC:=λH q1 q2 q3=>tW f ρ lv A n c B m d va A1 c1 [] A2 c2 aa H hok q1 hn hm q2 la ov q3 (by decide) pk;refine wQ Tryz.func86 (c:=Tryz.f86.body.getD .skip) (N:=37) ?_;intro hbx hbad Q hQ;refine go3 52 [.own,.own,.own,.b 2 0,.b 1 0,.cl 25 #[.agg #[.slice A n c,.slice B m d],.slice A1 n c1,.agg #[Vi aa,.slice A2 0 c2,.bool (aa == (m:Int))]] (Vi 0),.b 1 1,.b 0 0] [] ?_ (ho:=(Aj (λH sH=>hC _ (hf.sees sH) (hv.sees sH) (hp.sees sH)) (trivial)));intro b1 b2 b3;refine hQ.to [.agg #[Vi 0,Vz,.bool false],Vi 5] (λH sH=>?_) (ix:=[0]);exact rfl
section
variable {fm:Fm} {p:Pol} {ρ:List Int} {lv:Nat -> Nat} {k:Nat} {s:Ps}
theorem out_ok {E:Eg} (h1:EgOk E ρ lv) (hl:E.last <= 1073741000):(bZ E ρ).out.length <= E.fm.fields.length /\ ∀ x∈(bZ E ρ).out,OkL (toL x):=⟨setE_fit h1,λx hx=>by
 obtain ⟨a,b,c⟩:=setE_out h1 x hx
 have:=h1.l0
 have:=(cZ h1).2.1
 exact okL_of a (by omega) c (by omega)⟩
theorem PsOk.last (hs:PsOk fm p ρ lv k s) (hk:k <= 85):s.E.last <= 1073741000:=by have:=hs.m.last; omega
theorem PsOk.okL (hs:PsOk fm p ρ lv k s) (hk:k <= 85):∀ x∈s.net,OkL (toL x):=λx hx=>(hs.ltr x hx).okL (by have:=hs.last hk; omega)
theorem sl_len {h:Vw} {v:Value} {kk:Nat} {l:List (List Value)} (r:RS h kk (sL v) l):sN v=l.length:=by
 obtain ⟨A,c,e,-⟩:=r.form;exact (Value.slice.inj e).2.1
theorem iZ {v:Value} {n:Nat} (h:sN v=n):(sL v:Value)=.slice (sA v) n (sC v):=by rw [<- h]
theorem PsI.ns {h:Vw} {u:Value} (k:PsI h u s) (hok:EgOk s.E ρ lv):sN (agJ 0 u)=s.E.fm.fields.length /\ sN (agJ 1 u)=s.E.fm.pages.length /\ sN (agJ 4 u)=s.E.fm.fields.length /\ sN (agJ 6 u)=s.path.length:=by
 obtain ⟨vs,A,c,e,-⟩:=gQ k.eng.form.fields;obtain ⟨us,ws,B,d,e2,-⟩:=wX k.eng.form.pages;refine ⟨(Value.slice.inj e).2.1,(Value.slice.inj e2).2.1,?_,?_⟩
 ·rw [sl_len k.eng.vals,Hj,hok.vlen]
 ·rw [sl_len k.path,Hj]
theorem next_c (hs:PsOk fm p ρ lv k s) (hk:k <= 85) {u:Value} {h:Vw} (kI:PsI h u s) :
  C0 Tryz.prog 85 #[.agg #[sL (agJ 0 u),sL (agJ 1 u)],sL (agJ 4 u),.agg #[Vi (s.t:Int),sL (agJ 6 u),.bool ((s.t:Int) == (s.E.fm.pages.length:Int))]] h (λr h'=>(∃ (a:Nat) (u:Value),nextE s.E s.t=some a /\ r=.tuple #[.agg #[Vi (a:Int),sL u,.bool ((a:Int) == (s.E.fm.pages.length:Int))],Vi 0] /\ RS h' 1 (sL u) (rY (s.path++[(s.t:Int)]))) \/
  (nextE s.E s.t=none /\ r=.tuple #[.agg #[Vi 0,.slice none 0 0,.bool false],Vi (if s.t=s.E.fm.pages.length then 13 else 11)])):=by
 obtain ⟨n1,n2,n3,n4⟩:=kI.ns hs.m.ok;obtain ⟨i1,i2,i3⟩:=kI;have hlp:=hs.lp;have htm:=hs.tm;have hpk:=hs.pk;rw [<- hs.m.efm] at htm hpk;have hfo:=i1.form;have hva:=i1.vals;rw [iZ n1,iZ n2] at hfo;rw [iZ n3] at hva;rw [iZ n4] at i3;rw [iZ n1,iZ n2,iZ n3,iZ n4];refine (next_x s.E.fm ρ lv _ _ _ _ _ _ s.E.vals _ _ s.path _ _ s.t h hs.m.ok.fm hfo rfl rfl hva hs.m.ok.vlen (settled_sol hs.m.ok hs.m.se).ok i3 (by omega) hpk).mono λr h' _ q=>?_;rcases next_f rfl htm q with ⟨a,u,q1,q2,-,-,q3⟩ | q
 ·exact .inl ⟨a,u,q1,q2,q3⟩
 ·exact .inr q
theorem back_c (hs:PsOk fm p ρ lv k s) (hk:k <= 85) {u:Value} {h:Vw} (kI:PsI h u s) :
  C0 Tryz.prog 86 #[.agg #[sL (agJ 0 u),sL (agJ 1 u)],sL (agJ 4 u),.agg #[Vi (s.t:Int),sL (agJ 6 u),.bool ((s.t:Int) == (s.E.fm.pages.length:Int))]] h (λr h'=>(∃ (a:Int) (u:Value),s.path.getLast?=some a /\ r=.tuple #[.agg #[Vi a,sL u,.bool false],Vi 0] /\ RS h' 1 (sL u) (rY s.path.dropLast)) \/
  (s.path.getLast?=none /\ r=.tuple #[.agg #[Vi 0,.slice none 0 0,.bool false],Vi 5])):=by
 obtain ⟨n1,n2,n3,n4⟩:=kI.ns hs.m.ok;obtain ⟨i1,i2,i3⟩:=kI;have hlp:=hs.lp;have hpk:=hs.pk;rw [<- hs.m.efm] at hpk;have hfo:=i1.form;have hva:=i1.vals;rw [iZ n1,iZ n2] at hfo;rw [iZ n3] at hva;rw [iZ n4] at i3;rw [iZ n1,iZ n2,iZ n3,iZ n4]
 cases q:s.path.getLast? with
 | none =>
  have e:s.path=[]:=List.getLast?_eq_none_iff.1 q;rw [e] at i3 hpk ⊢;exact (back_no s.E.fm ρ lv _ _ _ _ _ _ s.E.vals _ _ (s.t:Int) _ _ h hs.m.ok.fm hfo rfl rfl hva hs.m.ok.vlen (settled_sol hs.m.ok hs.m.se).ok i3 hpk).mono λr h' _ z=>.inr ⟨rfl,z⟩
 | some a =>
  have e:=path_last q;have hl:s.path.length=s.path.dropLast.length + 1:=by rw [e,Bk,List.dropLast_concat]; rfl
  have i3':=i3;rw [hl] at i3' ⊢;rw [show rY s.path=rY (s.path.dropLast++[a]) from Ej rY e] at i3';rw [show s.path++[(s.t:Int)]=(s.path.dropLast++[a])++[(s.t:Int)] from Ej (· ++ [(s.t:Int)]) e] at hpk;exact (back_any s.E.fm ρ lv _ _ _ _ _ _ s.E.vals _ _ s.path.dropLast a (s.t:Int) _ _ _ h hs.m.ok.fm hfo rfl rfl hva hs.m.ok.vlen (settled_sol hs.m.ok hs.m.se).ok rfl i3' (by omega) hpk).mono λr h' _ ⟨u,z1,z2⟩=>.inl ⟨a,u,rfl,z1,z2⟩
theorem event_c (fk:fm.fields.length <= 12) (hs:PsOk fm p ρ lv k s) (hk:k <= 85) (kd:Int) (n:Nat) (nm:ByteArray) (v:Vl) (he:EvOk fm.fields ⟨kd,(n:Int),nm,v⟩) (b:Nat) (u:Value) (h:Vw) (kI:PsI h u s) :
  C1 Tryz.prog 50 #[.pointer (some ⟨b,0,none⟩),.agg #[Vi kd,Vi (n:Int),.string nm,Vi v.k,Vi v.n,.string v.s]] h b (pL u s) (λv1 cs H=>PsR (evF ρ s ⟨kd,(n:Int),nm,v⟩) v1 cs H):=by
 have hm:=hs.m;have hlast:=hs.last hk;have hokl:=hs.okL hk;have hnet:=hs.net;have h1:1 <= kd:=he.k1;have h8:kd <= 8:=he.k8;have hn0:(n:Int) <= 60:=he.n1;have hfl:s.E.fm.fields.length <= 12:=by rw [hm.efm]; exact fk
 have hknw:kd=1\/kd=3 -> v.known:=he.val;have hn24:n <= 1000:=by omega
 rcases (by omega:kd=1\/kd=2\/kd=3\/kd=4\/kd=5\/kd=6\/kd=7\/kd=8) with q | q | q | q | q | q | q | q <;> subst q
 ·unfold evF
  dsimp only
  rw [Cj rfl];have hin:=hm.inp;have hkn:=hknw (.inl rfl);rcases he.told with ht | ht | ht
  ·replace ht:uZ s.E.fm.fields nm v.k=0:=by rw [hm.efm]; exact ht
   rw [Cj ht];have hok:=tellE_ok hm.ok hkn ht (by omega);obtain ⟨o1,o2⟩:=out_ok hok hlast;have o3:s.E.fm.fields.length=(sZ s.E nm v).fm.fields.length:=rfl
   have:=(cZ hok).2.1
   have:(sZ s.E nm v).last=s.E.last:=rfl
   exact ev_tell s _ _ n nm v b u h kI rfl ⟨by omega,o2⟩ λH q=>tell_any s.E ρ lv hm.ok hm.se nm v hkn ht (by omega) (by omega) u H q
  ·rw [<- hm.efm] at ht;simp only at ht;rw [Bj (by rw [ht]; decide),ht];exact ev_untold s 2 (by decide) n nm v b u h kI λH q=>tell_no s.E ρ lv hm.ok hm.se nm v hkn 2 ht (by decide) u H q
  ·exact absurd rfl ht
 ·unfold evF
  dsimp only
  rw [Bj (by decide),Cj rfl];have ht:1 <= (n:Int):=he.tick rfl;have hnow:=hm.now;have hok:=tickE_ok hm.ok (n:=(n:Int)) (by omega) (by omega);obtain ⟨o1,o2⟩:=out_ok hok hlast;have o3:s.E.fm.fields.length=(tZ s.E (n:Int)).fm.fields.length:=rfl;have o4:(tickT s.E (n:Int)).length <= s.E.fm.fields.length:=askT_len
  have:=(cZ hok).2.1
  have:(tZ s.E (n:Int)).last=s.E.last:=rfl
  refine ev_tick s _ _ n nm v b u h kI rfl ⟨by rw [Bk]; omega,λx hx=>?_⟩ λH q=>tick_any s.E ρ lv hm.ok hm.se (n:Int) (by omega) (by omega) (by omega) (by omega) u H q;rcases Rj.1 hx with q | q
  ·obtain ⟨a1,a2⟩:=tickT_ok hm.ok x q;exact okL_of a1 (tick_ids hm.ok x q) a2 (by omega)
  ·exact o2 x q
 ·have e:keepF s (ansF s.net n v)=evF ρ s ⟨3,(n:Int),nm,v⟩:=by
   unfold evF
   dsimp only
   rw [Bj (by decide),Bj (by decide),Cj rfl];simp only [Uv];unfold ansF
   cases s.net[n]? with
   | none=>rfl
   | some x =>
    simp only
    by_cases g:x.ans.k≠0
    ·rw [Cj g,Cj g]; rfl
    ·rw [Bj g,Bj g]; rfl
  rw [<- e];have hkn:=hknw (.inr rfl);refine ev_keep 3 s _ n nm v b u h kI (λh0=>?_) (.inl ⟨rfl,λv1 H q=>p_answer q n hn24 v hkn⟩);unfold ansF at h0 ⊢
  cases hx:s.net[n]? with
  | none=>rw [hx] at h0; cases h0
  | some x =>
   rw [hx] at h0;simp only at h0 ⊢
   by_cases g:x.ans.k≠0
   ·rw [Cj g] at h0; cases h0
   ·rw [Bj g];refine ⟨by show (s.net.set _ _).length <= 24; rw [Lq]; exact hnet,λy hy=>?_⟩;rcases Vx hy with q | q
    ·exact hokl y q
    ·have:=hokl x (Dj hx)
     rw [q]; exact ⟨this.id0,this.id1,this.key,.inr hkn⟩
 ·have e:keepF s (losF s.net n)=evF ρ s ⟨4,(n:Int),nm,v⟩:=by
   unfold evF
   dsimp only
   rw [Bj (by decide),Bj (by decide),Bj (by decide),Cj rfl];simp only [Uv];unfold losF
   by_cases g:n < s.net.length
   ·rw [Cj g,Cj g]; rfl
   ·rw [Bj g,Bj g]; rfl
  rw [<- e];refine ev_keep 4 s _ n nm v b u h kI (λh0=>?_) (.inr (.inl ⟨rfl,λv1 H q=>p_lose q n hn24⟩));unfold losF at h0 ⊢
  by_cases g:n < s.net.length
  ·rw [Cj g];exact ⟨Wk (List.length_eraseIdx_le _ _) hnet,λy hy=>hokl y (Xv hy)⟩
  ·rw [Bj g] at h0; cases h0
 ·have e:keepF s (twiF s.net n)=evF ρ s ⟨5,(n:Int),nm,v⟩:=by
   unfold evF
   dsimp only
   rw [Bj (by decide),Bj (by decide),Bj (by decide),Bj (by decide),Cj rfl];simp only [Uv];unfold twiF
   cases s.net[n]? with
   | none=>rfl
   | some x =>
    simp only
    by_cases g:s.net.length=24
    ·rw [Cj g,Cj g]; rfl
    ·rw [Bj g,Bj g]; rfl
  rw [<- e];refine ev_keep 5 s _ n nm v b u h kI (λh0=>?_) (.inr (.inr ⟨rfl,λv1 H q=>p_twice q n hn24⟩));unfold twiF at h0 ⊢
  cases hx:s.net[n]? with
  | none=>rw [hx] at h0; cases h0
  | some x =>
   rw [hx] at h0;simp only at h0 ⊢
   by_cases g:s.net.length=24
   ·rw [Cj g] at h0; cases h0
   ·rw [Bj g];have hil:=(Oj.1 hx).1;refine ⟨by show (s.net.take n++x :: s.net.drop n).length <= 24; rw [Bk,Tk,Uj,Kv]; omega,λy hy=>?_⟩;rcases Rj.1 hy with q | q
    ·exact hokl y (Rv q)
    ·rcases Tj.1 q with q | q
     ·rw [q]; exact hokl x (Dj hx)
     ·exact hokl y (Rq q)
 ·unfold evF
  dsimp only
  rw [Bj (by decide),Bj (by decide),Bj (by decide),Bj (by decide),Bj (by decide),Cj rfl];simp only [Uv];refine ev_come s _ n nm v b u h kI λH q=>?_
  cases hx:s.net[n]? with
  | none =>
   exact come_no s 5 (by decide) n b u H q λv1 H1 q1=>(p_come q1 n hn24).mono λr h' _ z=>by unfold ComR at z; rw [hx] at z; exact z
  | some x =>
   simp only;have hxl:=hs.ltr x (Dj hx)
   by_cases g:x.ans.k=0
   ·rw [Cj g];exact come_no s 2 (by decide) n b u H q λv1 H1 q1=>(p_come q1 n hn24).mono λr h' _ z=>by unfold ComR at z; rw [hx] at z; simp only at z; rw [Cj g] at z; exact z
   ·rw [Bj g];obtain ⟨i,f,hf,hnm,h3⟩:=hxl.at_;rw [<- hm.efm] at hf;obtain ⟨c,hc⟩:∃ c,s.E.calls[i]?=some c:=⟨_,Gj (by rw [hm.ok.calls.len]; exact (Oj.1 hf).1)⟩;have hxa:OkV x.ans:=hxl.ans.elim (λe=>absurd (show x.ans.k=0 by rw [e]; rfl) g) .inl;obtain ⟨e1,e2⟩:=hrdX_at (ρ:=ρ) hm.ok.fm.fields.nodup hf hnm hc;rw [e1,e2];have hok:((hrdE s.E ρ i f x c).fm=s.E.fm) /\ (hrdT s.E ρ i f x c).length <= 24 /\ ∀ y∈hrdT s.E ρ i f x c,OkL (toL y):=by
     by_cases ht:Takes f x c
     ·obtain ⟨t1,t2,-⟩:=hrd_yes (E:=s.E) (ρ:=ρ) (i:=i) ht;rw [t1,t2];have hok:=hearE_ok hm.ok hf hc hxa ht;obtain ⟨o1,o2⟩:=out_ok hok hlast;have o3:s.E.fm.fields.length=(uV s.E i x c).fm.fields.length:=rfl;exact ⟨rfl,by omega,o2⟩
     ·obtain ⟨t1,t2,-⟩:=hrd_no (E:=s.E) (ρ:=ρ) (i:=i) ht;rw [t1,t2];exact ⟨rfl,by decide,λy hy=>by cases hy⟩
    refine come_yes s _ x _ _ (hrdB f x c) n b u H q hok.1 hok.2 ⟨Wk (List.length_eraseIdx_le _ _) hnet,λy hy=>hokl y (Xv hy)⟩ (λv1 H1 q1=>(p_come q1 n hn24).mono λr h' _ z=>?_) λH1 q1=>hear_all s.E ρ lv hm.ok hm.se i f x c hf hc hnm hxa hlast u H1 q1;unfold ComR at z;rw [hx] at z;simp only at z;rw [Bj g] at z;exact z
 ·unfold evF
  dsimp only
  rw [Bj (by decide),Bj (by decide),Bj (by decide),Bj (by decide),Bj (by decide),Bj (by decide),Cj rfl]
  cases hx:nextE s.E s.t with
  | some a =>
   refine ev_go 7 s a _ _ rfl n nm v b u h kI (.inl ⟨rfl,λH q=>(next_c hs hk q).mono λr h' _ z=>?_⟩);rcases z with ⟨a',u',z1,z2,z3⟩ | ⟨z1,-⟩
   ·rw [hx] at z1; cases z1; exact ⟨u',z2,z3⟩
   ·rw [hx] at z1; cases z1
  | none =>
   refine ev_stay 7 s _ ?_ n nm v b u h kI (.inl ⟨rfl,λH q=>(next_c hs hk q).mono λr h' _ z=>?_⟩)
   ·split <;> decide
   ·rcases z with ⟨a',u',z1,z2,z3⟩ | ⟨-,z2⟩
    ·rw [hx] at z1; cases z1
    ·exact z2
 ·unfold evF
  dsimp only
  rw [Bj (by decide),Bj (by decide),Bj (by decide),Bj (by decide),Bj (by decide),Bj (by decide),Bj (by decide)]
  cases hx:s.path.getLast? with
  | some a =>
   have ep:=path_last hx;have ha0:=hs.pk.lo a (by rw [ep]; simp);have ha:((a.toNat:Nat):Int)=a:=Int.toNat_of_nonneg ha0;have hne:(((a.toNat:Nat):Int) == (s.E.fm.pages.length:Int))=false:=by
    rw [ha];refine Lj.2 ?_
    have:=(List.pairwise_append.1 hs.pk.rise).2.2 a (by rw [ep]; simp) (s.t:Int) (by simp)
    have:=hs.tm
    rw [hm.efm]; omega
   refine ev_go 8 s a.toNat _ false hne.symm n nm v b u h kI (.inr ⟨rfl,λH q=>(back_c hs hk q).mono λr h' _ z=>?_⟩);rcases z with ⟨a',u',z1,z2,z3⟩ | ⟨z1,-⟩
   ·rw [hx] at z1; cases z1; rw [ha]; exact ⟨u',z2,z3⟩
   ·rw [hx] at z1; cases z1
  | none =>
   refine ev_stay 8 s 5 (by decide) n nm v b u h kI (.inr ⟨rfl,λH q=>(back_c hs hk q).mono λr h' _ z=>?_⟩);rcases z with ⟨a',u',z1,z2,z3⟩ | ⟨-,z2⟩
   ·rw [hx] at z1; cases z1
   ·exact z2
end
@[reducible] def rpRow (r:Int × Nat):List Value:=[Vi r.1,Vi (r.2:Int)]
abbrev rpRows (l:List (Int × Nat)):List (List Value):=l.map rpRow
def ps0 (f:Fm) (p:Pol) (ρ:List Int):Ps:=⟨dZ (vW f p) ρ,(bZ (vW f p) ρ).out,0,[]⟩
section
variable {f:Fm} {ρ:List Int} {lv:Nat -> Nat} {p:Pol}
theorem ps0_ok (hok:OkFm f ρ lv) (h1:1 <= f.fields.length) (hp:p.ok):PsOk f p ρ lv 0 (ps0 f p ρ):=by
 have h0:=newE_ok hok h1 hp;have hn:=(newE_last hok h1 hp).2;obtain ⟨f1,f2,f3⟩:=cZ h0;have e:(vW f p).last=0:=rfl;have m1:=hok.pages.one;refine ⟨⟨settE_ok h0 (by omega),settE_settled h0,rfl,rfl,by show (0:Int) <= _; omega,by show (bZ (vW f p) _).last <= _; omega,Ij 0,Kj _,λx hx=>by cases hx⟩,by show (bZ (vW f p) _).out.length <= _; omega,λx hx=>?_,Kj _,⟨List.pairwise_singleton _ _,λx hx=>?_,λx hx=>?_⟩,Ij 0⟩
 ·obtain ⟨a,b,c⟩:=setE_out h0 x hx;exact .of a (by omega) c
 ·rw [Pj.1 hx]; exact Sq _
 ·rw [Pj.1 hx]; show ((0:Nat):Int) <= _; omega
structure RunF (h:Vw) (u:Value) (s:Ps) (rp:List (Int × Nat)):Prop where
 ps:PsI h u s
 rp:RS h 2 (sL (agJ 7 u)) (rpRows rp)
theorem RunF.sees {h h':Vw} {u:Value} {s:Ps} {rp:List (Int × Nat)} (k:RunF h u s rp) (q:Sees h h'):RunF h' u s rp:=⟨k.ps.sees q,k.rp.sees q⟩
def RunR (m:Nat) (s:Ps) (rp:List (Int × Nat)) (r:Value) (h:Vw):Prop:=∃ u,r=.tuple #[sL (agJ 7 u),.agg #[sL (agJ 0 u),sL (agJ 1 u),Vi s.E.pol.t,Vi s.E.pol.b,Vi s.E.pol.c,sL (agJ 2 u),sL (agJ 3 u),sL (agJ 4 u),Vi s.E.now,Vi s.E.last],sL (agJ 5 u),.agg #[Vi (s.t:Int),sL (agJ 6 u),.bool ((s.t:Int) == (m:Int))],Vi 0] /\ RunF h u s rp
theorem runR_mk {m:Nat} {h:Vw} {w x:Value} {s:Ps} {rp:List (Int × Nat)} {bd:Bool} (k:PsI h w s) (q:RS h 2 (sL x) (rpRows rp)) (hb:bd=((s.t:Int) == (m:Int))):RunR m s rp (.tuple #[sL x,.agg (eA w s.E),sL (agJ 5 w),.agg #[Vi (s.t:Int),sL (agJ 6 w),.bool bd],Vi 0]) h:=by
 subst hb;exact ⟨.agg #[agJ 0 w,agJ 1 w,agJ 2 w,agJ 3 w,agJ 4 w,agJ 5 w,agJ 6 w,x],by kernel_rfl,⟨⟨⟨k.eng.form,k.eng.inp,k.eng.calls,k.eng.vals⟩,k.net,k.path⟩,q⟩⟩
theorem stP_take {s:Ps} {es:List Ev} {k:Nat} {e:Ev} (h:es[k]?=some e):stP ρ s (es.take (k + 1))=(evF ρ (stP ρ s (es.take k)) e).2 /\ rpRows (rpP ρ s (es.take (k + 1)))=rpRows (rpP ρ s (es.take k))++[[Vi (evF ρ (stP ρ s (es.take k)) e).1,Vi ((evF ρ (stP ρ s (es.take k)) e).2.t:Int)]]:=by
 rw [Iv,h];refine ⟨stP_snoc _ _ _ _,?_⟩;show rpRows (rpP ρ s (es.take k++[e]))=_;rw [rpP_snoc]; exact Nk
theorem run_any (hok:OkFm f ρ lv) (h1:1 <= f.fields.length) (fk:f.fields.length <= 12) (hp:p.ok) (es:List Ev) (hes:∀ e∈es,EvOk f.fields e) (hl:es.length <= 80) (fv pv sl:Value) (h:Vw) (hf:IsForm h fv pv f) (hr:RS h 6 sl (es.map Ev.cells)) :
  C0 Tryz.prog 18 #[.agg #[fv,pv],.agg #[Vi p.t,Vi p.b,Vi p.c],sl] h (λr h'=>RunR f.pages.length (stP ρ (ps0 f p ρ) es) (rpP ρ (ps0 f p ρ) es) r h'):=by
 have hN:=λH q=>new_any f ρ lv hok h1 p hp fv pv H q;have hO:=λk (hk:k <= es.length)=>by
  have:=(ps0_ok hok h1 hp).run (es.take k) (λe he=>hes e (Rv he)) (by rw [Uj]; omega)
  rw [Uj,Yw hk] at this;exact this
 obtain ⟨ws,B,d,e2,-⟩:=wX hf.pages;obtain ⟨A,c,rfl,-⟩:=hr.form;rw [Hj] at *;have m1:=hok.pages.one;have hb0:false=(((ps0 f p ρ).t:Int) == ((ps0 f p ρ).E.fm.pages.length:Int)):=(Lj.2 (by show ((0:Nat):Int)≠(f.pages.length:Int); omega)).symm;have hst:=λk e (q:es[k]?=some e)=>stP_take (ρ:=ρ) (s:=ps0 f p ρ) q;have hend:stP ρ (ps0 f p ρ) es=stP ρ (ps0 f p ρ) (es.take es.length) /\ rpP ρ (ps0 f p ρ) es=rpP ρ (ps0 f p ρ) (es.take es.length):=by rw [Ik]; exact ⟨rfl,rfl⟩
 rw [hend.1,hend.2];clear hend;generalize hn:es.length=n at *;refine wQ Tryz.func18 (c:=Tryz.f18.body.getD .skip) (N:=73) ?_;intro hbx hbad Q hQ;refine go3 7 [.own,.own,.own] [] ?_;intro b1 b2 b3;refine go1 19 [.own,.b 3 0,.b 2 0] [(21,.bool (decide ((n:Int) > 80)),.bool false)] ?_ (hc:=(Aj (Ej Value.bool (Jj (by omega))) (trivial)));intro b4;refine qQ (λH sH=>hN _ (hf.sees sH)) ?_; rintro _ W5 S6 ⟨u0,rfl,hu0⟩;refine go2 43 [.own,.b 0 0,.b 0 0,.own] [] ?_;intro b7 bs;refine iV 81 2 ?_;have hP0:∀ H,TelF H u0 (dZ (vW f p) ρ) (bZ (vW f p) ρ).out -> PsI H (.agg #[agJ 0 u0,agJ 1 u0,agJ 2 u0,agJ 3 u0,agJ 4 u0,agJ 5 u0,.slice none 0 0]) (ps0 f p ρ):=λH q=>⟨⟨q.eng.form,q.eng.inp,q.eng.calls,q.eng.vals⟩,⟨q.out,(hO 0 (Kj _)).net,λx hx=>(hO 0 (Kj _)).okL (by decide) x hx⟩,RS.nil H 1⟩;refine eV [0,1,0,1,1,1,1,1,1] [.block 0,.seq [1,1,1,1,1,1,1]] (λ(k:Nat) X=>∃ (W8:Vw) (s:Ps) (us:Value) (bd:Bool) (ur:Value) (L:List (List Value)),X W8 [(7,Vp b3),(9,Vp b4),(14,Vp bs),(40,.slice A n c),(41,Vi (n:Int)),(42,Vi (k:Int)),(15,sL ur)] [.row (sL ur) 81 2 L,.box bs [sL (agJ 0 us),sL (agJ 1 us),Vi s.E.pol.t,Vi s.E.pol.b,Vi s.E.pol.c,sL (agJ 2 us),sL (agJ 3 us),sL (agJ 4 us),Vi s.E.now,Vi s.E.last,sL (agJ 5 us),Vi (s.t:Int),sL (agJ 6 us),.bool bd],.box b7 [sL (agJ 0 u0),sL (agJ 1 u0),Vi (((dZ (vW f p) ρ).pol).t),Vi (((dZ (vW f p) ρ).pol).b),Vi (((dZ (vW f p) ρ).pol).c),sL (agJ 2 u0),sL (agJ 3 u0),sL (agJ 4 u0),Vi ((dZ (vW f p) ρ).now),Vi ((dZ (vW f p) ρ).last)],.box b4 [Vi 0,Vz,.bool false],.box b3 [Vz,Vz,Vi 0,Vi 0,Vi 0,Vz,Vz,Vz,Vi 0,Vi 0],.box b2 [Vi p.t,Vi p.b,Vi p.c],.box b1 [fv,pv]] [] /\ Sees W5 W8 /\ (k <= n) /\ (stP ρ (ps0 f p ρ) (es.take k)=s) /\ (rpRows (rpP ρ (ps0 f p ρ) (es.take k))=L) /\ (bd=((s.t:Int) == (s.E.fm.pages.length:Int))) /\ (PsI W8 us s)) (λk=>n - k) (0) (λX q=>⟨W5,ps0 f p ρ,.agg #[agJ 0 u0,agJ 1 u0,agJ 2 u0,agJ 3 u0,agJ 4 u0,agJ 5 u0,Vz],false,(Vz),[],q _ _ _ _ ⟨rfl,by kernel_rfl⟩,Sees.refl _,Kj _,rfl,rfl,hb0,hP0 _ hu0⟩) ?_;rintro k a w ⟨W8,s,us,bd,ur,L,hJ,S9,hk,hs,hL,hbd,hP⟩; refine jV hJ ?_; clear hJ a w;refine go0 6 [] [] ?_;have hOk:=hO k hk;rw [hs] at hOk;rcases (by omega:k < n\/k=n) with hlt | hke
 ·obtain ⟨e,hek⟩:∃ e,es[k]?=some e:=⟨_,Gj (by omega)⟩;have hev:=hes e (Dj hek);obtain ⟨kd,ni,nm,v⟩:=e;obtain ⟨nn,rfl⟩:∃ nn:Nat,ni=(nn:Int):=⟨ni.toNat,(Int.toNat_of_nonneg hev.n0).symm⟩;have hrow:(es.map Ev.cells)[k]?=some [Vi kd,Vi (nn:Int),.string nm,Vi v.k,Vi v.n,.string v.s]:=by rw [Nj,hek]; rfl
  obtain ⟨t1,t2⟩:=hst k _ hek;rw [hs] at t1 t2;rw [hL] at t2;have hE:=λH q=>event_c fk hOk (by omega) kd nn nm v hev bs us H q;obtain ⟨rr,hrr⟩:∃ rr,evF ρ s ⟨kd,(nn:Int),nm,v⟩=rr:=⟨_,rfl⟩;rw [hrr] at hE t1 t2;have hll:L.length=k:=by rw [<- hL,Hj,rpP_len,Uj]; omega
  subst hbd;refine oV (t:=decide ((k:Int) < (n:Int))) (Mj (by omega)) ?_;refine go0 6 [] [] ?_;obtain ⟨b10,o11,rfl,-,c12⟩:=RS.row hr (hrow);refine xQ (c12.sees (S6.trans S9)) ?_;refine go1 10 [.ix b10 o11 n c k,.f 0 0,.own,.b 0 0,.b 0 0] [] ?_ (ho:=(Aj (by first | omega | (simp; omega)) (trivial)));intro b13;refine g_call1 2 (λH sH=>hE _ (hP.sees sH)) ?_; rintro _ _ W14 S15 ⟨u2,rfl,rfl,f2⟩;refine tV 13 [.b 2 11,.fix] [] ?_;intro b16 W17 S18;refine goa0 9 [.ap 1 0 L [[Vi rr.1,Vi (rr.2.t:Int)]]] [(59,Vi (IntKind.i64.wrap ((k:Int) + 1)),Vi ((k:Int) + 1))] ?_ (ho:=(Aj (by constructor <;> (simp; omega)) (trivial))) (hc:=(Aj (jJ (by omega) (by omega)) (trivial)));intro v58 W19 S20;exact nV (k + 1) (λX q=>⟨W19,rr.2,u2,((rr.2.t:Int) == (rr.2.E.fm.pages.length:Int)),v58,(L++[[Vi rr.1,Vi (rr.2.t:Int)]]),q _ _ _ _ ⟨rfl,by kernel_rfl⟩,(S9.trans (S15.trans (S18.trans S20))),by omega,t1,t2,rfl,(f2.sees (S18.trans S20))⟩) (by omega)
 ·skip;have hpl:(s.E.fm.pages.length:Int)=(f.pages.length:Int):=by rw [hOk.m.efm]
  rw [hpl] at hbd;refine yQ (t:=decide ((k:Int) < (n:Int))) (Jj (by omega)) ?_;refine go0 2 [] [] ?_;refine dV ?_;refine go0 3 [] [] ?_;refine lV 18 0 [.pu,.pu,.pu,.pu,.ld 1 0,.pu,.pu,.pu,.ld 1 10,.pu,.pu,.pu,.ld 1 11,.pu,.st 4 0,.pu,.st 3 0,.pu] [] (trivial) ?_ ?_
  ·intros; trivial
  rintro W21 S22 -;refine go0 2 [] [] ?_;refine aV 0 (v:=sL ur) (e:=81) (kk:=2) (l:=L) ?_; intro W23 S24 fr;rw [<- hL] at fr;refine hQ.to [sL ur,.agg (eA us s.E),sL (agJ 5 us),.agg #[Vi (s.t:Int),sL (agJ 6 us),.bool bd],Vi 0] (λH sH=>?_) (ix:=[3,2]);exact by rw [<- hke,hs]; exact runR_mk (hP.sees (S22.trans (S24.trans sH))) (fr.sees sH) hbd
end
def gE (fs:List Fd) (r:RawD):Fd:=(fs[(cJ r.b fs.length).toNat]?).getD ⟨⟨#[]⟩,1,1,zE⟩
def evN (r:RawD):Int:=if 1 + cJ r.k 8=2 then 1 + cJ r.a 60 else cJ r.a 12
def evVl (fs:List Fd) (r:RawD):Vl:=if 1 + cJ r.k 8=3 then valR (1 + cJ r.b 3) r else valR (gE fs r).ty r
def evR (fs:List Fd) (r:RawD):Ev:=⟨1 + cJ r.k 8,evN r,(gE fs r).name,evVl fs r⟩
def evsE (fs:List Fd) (l:List RawD) (many:Nat):List Ev:=(l.take many).map (evR fs)
theorem gE_at {fs:List Fd} (h1:1 <= fs.length) (r:RawD):∃ j:Nat,cJ r.b fs.length=(j:Int) /\ j < fs.length /\ fs[j]?=some (gE fs r):=by
 obtain ⟨a,b⟩:=dY r.b fs.length (by omega);refine ⟨(cJ r.b fs.length).toNat,(Int.toNat_of_nonneg a).symm,by omega,?_⟩;unfold gE;rw [Gj (by omega)]; rfl
theorem evs_ok {fs:List Fd} (hok:OkFs fs) (h1:1 <= fs.length) (hty:∀ f∈fs,1 <= f.ty /\ f.ty <= 3) (l:List RawD) (many:Nat):∀ e∈evsE fs l many,EvOk fs e:=λe he=>by
 obtain ⟨r,-,rfl⟩:=Qj.1 he;obtain ⟨j,-,-,hj⟩:=gE_at h1 r;obtain ⟨t1,t2⟩:=hty _ (Dj hj);have p1:=dY r.k 8 (by decide);have p2:=dY r.a 12 (by decide);have p3:=dY r.a 60 (by decide);have p4:=dY r.b 3 (by decide);have n0:0 <= evN r /\ evN r <= 60:=by unfold evN; split <;> omega
 refine ⟨by show 1 <= 1 + _; omega,by show 1 + cJ r.k 8 <= 8; omega,n0.1,n0.2,λq=>?_,λ_=>?_,?_⟩
 ·show 1 <= evN r;unfold evN;rw [Cj (show 1 + cJ r.k 8=2 from q)]; omega
 ·show (evVl fs r).known;unfold evVl
  split
  ·exact valR_known _ _ (by omega) (by omega)
  ·exact valR_known _ _ t1 t2
 ·by_cases q:1 + cJ r.k 8=1
  ·have e:(evVl fs r).k=(gE fs r).ty:=by unfold evVl; rw [Bj (by omega)]; rfl
   show uZ fs (gE fs r).name (evVl fs r).k=0\/uZ fs (gE fs r).name (evVl fs r).k=2\/_;rw [e];have hfd:=jQ hok.nodup hj;unfold uZ;rw [hfd,Bj (by omega)];simp only [Uv,hj]
   by_cases g:(gE fs r).kind=1
   ·left; simp [g]
   ·right; left; simp [g]
  ·exact .inr (.inr q)
theorem evs_take {fs:List Fd} {l:List RawD} {k:Nat} {r:RawD} (h:l[k]?=some r):((l.take (k + 1)).map (evR fs)).map Ev.cells=((l.take k).map (evR fs)).map Ev.cells++[(evR fs r).cells]:=by
 rw [Iv,h];show (((l.take k++[r]).map _).map _)=_;rw [Nk,Nk]; rfl
theorem events_any (fs:List Fd) (h1:1 <= fs.length) (hty:∀ f∈fs,1 <= f.ty /\ f.ty <= 3) (many:Nat) (hm:many <= 100) (pv fv:Value) (l:List RawD) (sl:Value) (h:Vw) (hf:IsFds h fv fs) (hl:RS h 4 sl (l.map RawD.cs)) (ol:∀ r∈l,r.ok) :
  C0 Tryz.prog 17 #[.agg #[fv,sL pv],sl,Vi (many:Int)] h (λv h'=>∃ u,v=sL u /\ RS h' 6 (sL u) ((evsE fs l many).map Ev.cells)):=by
 obtain ⟨vs,A,c,rfl,few,fm2,hr,-,hvl,hsl⟩:=gQ hf;have hP:=λn m H=>aK n m H;have hV:=λk r H=>c_value k r H;have hfew:fs.length <= maxLen:=by omega
 have hmx:maxLen <= 9223372036854775807:=by decide
 have hgA:=λr=>gE_at h1 r;have hvr:∀ k r,valR k r=⟨k,yZ k r.k r.a,valS k r.t⟩:=λ_ _=>rfl;have hend:∀ k,(k=l.length\/k=many) -> k <= l.length -> k <= many -> ((l.take k).map (evR fs)).map Ev.cells=(evsE fs l many).map Ev.cells:=λk h1 h2 h3=>by
  unfold evsE;rcases h1 with e | e
  ·rw [e,Ik,Nv (by omega)]
  ·rw [e]
 obtain ⟨A0,c0,rfl,-,-,-⟩:=hl.form;rw [Hj] at *;generalize hL:fs.length=n at *;generalize hLl:l.length=len at *;refine wQ Tryz.func17 (c:=Tryz.f17.body.getD .skip) (N:=76) ?_;intro hbx hbad Q hQ;refine go1 20 [.own] [] ?_;intro b1;refine iV 79 6 ?_;refine eV [0,1,0,1,1] [.block 0,.seq [1,1,1]] (λ(k:Nat) X=>∃ (W2:Vw) (ur:Value) (L:List (List Value)),X W2 [(2,Vi (many:Int)),(3,Vp b1),(12,.slice A0 len c0),(13,Vi (len:Int)),(14,Vi (k:Int)),(7,sL ur)] [.row (sL ur) 79 6 L,.box b1 [.slice A n c,sL pv]] [] /\ Sees h W2 /\ (k <= len) /\ (k <= many) /\ (((l.take k).map (evR fs)).map Ev.cells=L)) (λk=>len - k) (0) (λX q=>⟨h,(Vz),[],q _ _ _ _ ⟨rfl,by kernel_rfl⟩,Sees.refl _,Kj _,Kj _,rfl⟩) ?_;rintro k a w ⟨W2,ur,L,hJ,S3,hk,hkm,hLL⟩; refine jV hJ ?_; clear hJ a w;refine go0 6 [] [] ?_;rcases (by omega:k < len\/k=len) with hlt | hke
 ·obtain ⟨r,hrk⟩:∃ r,l[k]?=some r:=⟨_,Gj (by omega)⟩;obtain ⟨⟨rk0,rk1⟩,⟨ra0,ra1⟩,⟨rb0,rb1⟩,-⟩:=ol r (Dj hrk);have rok:=ol r (Dj hrk);have hraw:(l.map RawD.cs)[k]?=some [Vi r.k,Vi r.a,Vi r.b,.string r.t]:=by rw [Nj,hrk]; rfl
  have hnx:=evs_take (fs:=fs) hrk;have hll:L.length=k:=by rw [<- hLL,Hj,Hj,Uj]; omega
  rw [hLL] at hnx;obtain ⟨j,hj1,hj2,hj3⟩:=hgA r;obtain ⟨u,huk⟩:∃ u,vs[j]?=some u:=⟨_,Gj (by omega)⟩;have hrow:(dQ fs vs)[j]?=some (fdRow (gE fs r) (sL u)):=by rw [hsl u (Dj huk)]; exact eQ hj3 huk
  obtain ⟨t1,t2⟩:=hty _ (Dj hj3);have p1:=dY r.k 8 (by decide);have p2:=dY r.a 12 (by decide);have p3:=dY r.a 60 (by decide);have p4:=dY r.b 3 (by decide);have hcs:(evR fs r).cells=[Vi (1 + cJ r.k 8),Vi (evN r),.string (gE fs r).name,Vi (evVl fs r).k,Vi (evVl fs r).n,.string (evVl fs r).s]:=rfl;rw [hcs] at hnx;obtain ⟨kd,hkd⟩:∃ kd,1 + cJ r.k 8=kd:=⟨_,rfl⟩;have hen:evN r=if kd=2 then 1 + cJ r.a 60 else cJ r.a 12:=by unfold evN; rw [hkd]
  have hev:evVl fs r=if kd=3 then valR (1 + cJ r.b 3) r else valR (gE fs r).ty r:=by unfold evVl; rw [hkd]
  rw [hkd] at hnx;generalize evN r=en at *;generalize evVl fs r=ev at *;generalize gE fs r=g at *;refine oV (t:=decide ((k:Int) < (len:Int))) (Mj (by omega)) ?_;refine go0 7 [] [] ?_;obtain ⟨b4,o5,rfl,-,c6⟩:=RS.row hl (hraw);refine xQ (c6.sees S3) ?_;refine go1 15 [.ix b4 o5 len c0 k,.f 0 0,.own,.b 0 0] [] ?_ (ho:=(Aj (by first | omega | (simp; omega)) (trivial)));intro br;rcases (by omega:k < many\/k=many) with hlm | hem
  ·skip;refine yQ (t:=decide ((k:Int) ≥ (many:Int))) (Jj (by omega)) ?_
   refine go0 3 [] [] ?_;refine lV 10 1 [.pu,.ld 1 0,.v (λgh=>Vi (cJ r.k 8)),.v (λgh=>Vi kd),.pu,.ld 1 1,.v (λgh=>Vi (cJ r.a 12)),.pu,.al 0,.st 0 0] [(8,true)] (trivial) ?_ ?_
   ·intro R hT hA hmono;refine Aj (t_v hT hA hmono (k:=12) (args:=(λgh=>#[Vi r.k,Vi 8])) (f:=λgh=>Vi (cJ r.k 8)) (λgh H sH fH lent=>hP _ _ _ rk0 rk1 (by decide) (by decide))) ?_;refine Aj (oZ hT hA (λgh=>Vi kd) (λgh=>Vi (IntKind.i64.wrap (1 + (cJ r.k 8)))) (λgh=>(jJ (by omega) (by omega)).trans (Ej (Value.int .i64) hkd))) ?_;refine Aj (t_v hT hA hmono (k:=12) (args:=(λgh=>#[Vi r.a,Vi 12])) (f:=λgh=>Vi (cJ r.a 12)) (λgh H sH fH lent=>hP _ _ _ ra0 ra1 (by decide) (by decide))) ?_
    trivial
   rintro be W7 S8 -;refine go0 9 [.b 0 0] [] ?_;refine g_cut [1,0,1,1,1,0,0,1,1,0,0,1,0,1,1] [.seq [1,1,1,1,0,0,1,1,0,0,1,0,1,1],.block 1,.seq [1,1,1,0,0,1,0,1,1]] (λX=>∃ (W9:Vw) ,X W9 [(2,Vi (many:Int)),(3,Vp b1),(12,.slice (some ⟨b4,o5,none⟩) len c0),(13,Vi (len:Int)),(14,Vi (k:Int)),(7,sL ur),(9,Vp br),(10,Vp be)] [.box be [Vi kd,Vi en,Ve,Vi 0,Vi 0,Ve],.box br [Vi r.k,Vi r.a,Vi r.b,.string r.t],.row (sL ur) 79 6 L,.box b1 [.slice A n c,sL pv]] [(b4,o5 + k * 4,[Vi r.k,Vi r.a,Vi r.b,.string r.t])] /\ Sees W7 W9) [(2,Vi (many:Int)),(3,Vp b1),(12,.slice (some ⟨b4,o5,none⟩) len c0),(13,Vi (len:Int)),(14,Vi (k:Int)),(7,sL ur),(9,Vp br),(10,Vp be),(32,.bool (kd == 2))] [.box be [Vi kd,Vi (cJ r.a 12),Ve,Vi 0,Vi 0,Ve],.box br [Vi r.k,Vi r.a,Vi r.b,.string r.t],.row (sL ur) 79 6 L,.box b1 [.slice A n c,sL pv]] [(b4,o5 + k * 4,[Vi r.k,Vi r.a,Vi r.b,.string r.t])] ?_ ?_
   ·skip
    by_cases h2:kd=2
    ·rw [Cj h2] at hen;subst hen;refine oV (t:=kd == 2) (Zj.2 h2) ?_;refine go0 8 [.b 1 1,.cl 12 #[Vi r.a,Vi 60] (Vi (cJ r.a 60)),.b 0 1] [(36,Vi (IntKind.i64.wrap (1 + (cJ r.a 60))),Vi (1 + (cJ r.a 60)))] ?_ (ho:=(Aj (λH sH=>hP _ _ _ ra0 ra1 (by decide) (by decide)) (trivial))) (hc:=(Aj (jJ (by omega) (by omega)) (trivial)));exact g_meet (λX q=>⟨W7,q _ _ _ _ ⟨rfl,by kernel_rfl⟩,(Sees.refl _)⟩)
    ·skip;rw [Bj h2] at hen
     subst hen;refine yQ (t:=kd == 2) (Lj.2 h2) ?_;refine go0 1 [] [] ?_;exact g_meet (λX q=>⟨W7,q _ _ _ _ ⟨rfl,by kernel_rfl⟩,(Sees.refl _)⟩)
   ·rintro a w ⟨W9,hJ,S10⟩; refine jV hJ ?_; clear hJ a w;refine go0 10 [.b 3 0] [] ?_;refine oV (t:=decide ((n:Int) > 0)) (Mj (by omega)) ?_;refine go0 1 [] [] ?_;obtain ⟨b11,o12,rfl,-,c13⟩:=RS.row hr (hrow);refine xQ (c13.sees (S3.trans (S8.trans S10))) ?_;refine lV 12 1 [.pu,.ld 4 0,.pu,.ld 2 2,.pu,.ld 4 0,.pu,.v (λgh=>Vi (j:Int)),.v (λgh=>.pointer (some ⟨b11,o12 + j * 9,none⟩)),.lf 0 0,.al 0,.st 0 0] [(10,true)] (trivial) ?_ ?_
    ·intro R hT hA hmono;refine Aj (t_v hT hA hmono (k:=12) (args:=(λgh=>#[Vi r.b,Vi (n:Int)])) (f:=λgh=>Vi (j:Int)) (λgh H sH fH lent=>(hP r.b n _ rb0 rb1 (by omega) (by omega)).mono (λ_ _ _ z=>by rw [z,hj1]))) ?_;refine Aj (pZ hT hA b11 o12 n c j (λgh=>.pointer (some ⟨b11,o12 + j * 9,none⟩)) (by first | omega | (simp; omega))) ?_
     trivial
    rintro bf W14 S15 -;refine go0 2 [] [] ?_;refine lV 10 0 [.pu,.ld 0 0,.pu,.ld 0 2,.ld 2 0,.v (λgh=>.agg #[Vi g.ty,Vi (yZ g.ty r.k r.a),.string (valS g.ty r.t)]),.pu,.st 1 2,.pu,.st 1 3] [] (trivial) ?_ ?_
    ·intro R hT hA hmono;refine Aj (t_v hT hA hmono (k:=14) (args:=(λgh=>#[Vi g.ty,.agg #[Vi r.k,Vi r.a,Vi r.b,.string r.t]])) (f:=λgh=>.agg #[Vi g.ty,Vi (yZ g.ty r.k r.a),.string (valS g.ty r.t)]) (λgh H sH fH lent=>hV g.ty _ _ t1 t2 rok)) ?_
     trivial
    rintro W16 S17 -;refine go0 8 [.b 1 0] [] ?_
    by_cases h3:kd=3
    ·rw [Cj h3,hvr] at hev;subst hev;refine oV (t:=kd == 3) (Zj.2 h3) ?_;refine lV 8 0 [.pu,.ld 2 2,.v (λgh=>Vi (cJ r.b 3)),.v (λgh=>Vi (1 + cJ r.b 3)),.ld 2 0,.v (λgh=>.agg #[Vi (1 + cJ r.b 3),Vi (yZ (1 + cJ r.b 3) r.k r.a),.string (valS (1 + cJ r.b 3) r.t)]),.pu,.st 1 3] [] (trivial) ?_ ?_
     ·intro R hT hA hmono;refine Aj (t_v hT hA hmono (k:=12) (args:=(λgh=>#[Vi r.b,Vi 3])) (f:=λgh=>Vi (cJ r.b 3)) (λgh H sH fH lent=>hP _ _ _ rb0 rb1 (by decide) (by decide))) ?_;refine Aj (oZ hT hA (λgh=>Vi (1 + cJ r.b 3)) (λgh=>Vi (IntKind.i64.wrap (1 + (cJ r.b 3)))) (λgh=>jJ (by omega) (by omega))) ?_;refine Aj (t_v hT hA hmono (k:=14) (args:=(λgh=>#[Vi (1 + cJ r.b 3),.agg #[Vi r.k,Vi r.a,Vi r.b,.string r.t]])) (f:=λgh=>.agg #[Vi (1 + cJ r.b 3),Vi (yZ (1 + cJ r.b 3) r.k r.a),.string (valS (1 + cJ r.b 3) r.t)]) (λgh H sH fH lent=>hV (1 + cJ r.b 3) _ _ (by omega) (by omega) rok)) ?_
      trivial
     rintro W18 S19 -;refine tV 5 [.b 1 0,.fix] [] ?_;intro b20 W21 S22;refine goa0 9 [.ap 3 0 L [[Vi kd,Vi en,.string g.name,Vi (1 + cJ r.b 3),Vi (yZ (1 + cJ r.b 3) r.k r.a),.string (valS (1 + cJ r.b 3) r.t)]]] [(74,Vi (IntKind.i64.wrap ((k:Int) + 1)),Vi ((k:Int) + 1))] ?_ (ho:=(Aj (by constructor <;> (simp; omega)) (trivial))) (hc:=(Aj (jJ (by omega) (by omega)) (trivial)));intro v73 W23 S24;exact nV (k + 1) (λX q=>⟨W23,v73,(L++[[Vi kd,Vi en,.string g.name,Vi (1 + cJ r.b 3),Vi (yZ (1 + cJ r.b 3) r.k r.a),.string (valS (1 + cJ r.b 3) r.t)]]),q _ _ _ _ ⟨rfl,by kernel_rfl⟩,(S3.trans (S8.trans (S10.trans (S15.trans (S17.trans (S19.trans (S22.trans S24))))))),by omega,by omega,hnx⟩) (by omega)
    ·skip;rw [Bj h3,hvr] at hev
     subst hev;refine yQ (t:=kd == 3) (Lj.2 h3) ?_;refine tV 6 [.b 1 0,.fix] [] ?_;intro b25 W26 S27;refine goa0 9 [.ap 3 0 L [[Vi kd,Vi en,.string g.name,Vi g.ty,Vi (yZ g.ty r.k r.a),.string (valS g.ty r.t)]]] [(74,Vi (IntKind.i64.wrap ((k:Int) + 1)),Vi ((k:Int) + 1))] ?_ (ho:=(Aj (by constructor <;> (simp; omega)) (trivial))) (hc:=(Aj (jJ (by omega) (by omega)) (trivial)));intro v73 W28 S29;exact nV (k + 1) (λX q=>⟨W28,v73,(L++[[Vi kd,Vi en,.string g.name,Vi g.ty,Vi (yZ g.ty r.k r.a),.string (valS g.ty r.t)]]),q _ _ _ _ ⟨rfl,by kernel_rfl⟩,(S3.trans (S8.trans (S10.trans (S15.trans (S17.trans (S27.trans S29)))))),by omega,by omega,hnx⟩) (by omega)
  ·skip;refine oV (t:=decide ((k:Int) ≥ (many:Int))) (Mj (by omega)) ?_
   refine go0 4 [] [] ?_;refine dV ?_;refine go0 9 [] [] ?_;rw [hend k (.inr hem) hk hkm] at hLL;refine aV 1 (v:=sL ur) (e:=79) (kk:=6) (l:=L) ?_; intro W30 S31 fr;rw [<- hLL] at fr;refine hQ.to [sL ur] (λH sH=>?_);exact ⟨ur,rfl,(fr.sees sH)⟩
 ·skip;refine yQ (t:=decide ((k:Int) < (len:Int))) (Jj (by omega)) ?_
  refine go0 2 [] [] ?_;refine dV ?_;refine go0 9 [] [] ?_;rw [hend k (.inl hke) hk hkm] at hLL;refine aV 0 (v:=sL ur) (e:=79) (kk:=6) (l:=L) ?_; intro W32 S33 fr;rw [<- hLL] at fr;refine hQ.to [sL ur] (λH sH=>?_);exact ⟨ur,rfl,(fr.sees sH)⟩
abbrev p0S:Pol:=⟨2,10,10⟩
abbrev e1S:Ev:=⟨1,0,⟨#[97]⟩,⟨1,3,⟨#[]⟩⟩⟩
abbrev e2S:Ev:=⟨7,0,⟨#[]⟩,⟨0,0,⟨#[]⟩⟩⟩
abbrev l1S:Lt:=⟨⟨#[99]⟩,1,⟨1,1,⟨#[]⟩⟩,zV⟩
abbrev l2S:Lt:=⟨⟨#[99]⟩,2,⟨1,4,⟨#[]⟩⟩,zV⟩
abbrev E0S:Eg:=⟨smallF,p0S,[],[clZ,clZ,⟨1,1,1,⟨1,1,⟨#[]⟩⟩,zV,10⟩],[⟨1,1,⟨#[]⟩⟩,⟨1,0,⟨#[]⟩⟩,pdV],0,1⟩
abbrev E1S:Eg:=⟨smallF,p0S,[(⟨#[97]⟩,⟨1,3,⟨#[]⟩⟩)],[clZ,clZ,⟨1,2,1,⟨1,4,⟨#[]⟩⟩,zV,10⟩],[⟨1,4,⟨#[]⟩⟩,⟨1,3,⟨#[]⟩⟩,pdV],0,2⟩
theorem set_small (E:Eg) (h:E.fm.fields.length=3):bZ E [1,0,2]=xY E.fm.fields E.pol E.now E.inp ⟨E.calls,E.vals,[],E.last,[]⟩ [1,0,2]:=by
 unfold bZ;rw [h,small_ord]
theorem play_0:ps0 smallF p0S [1,0,2]=⟨E0S,[l1S],0,[]⟩:=by
 unfold ps0 dZ;rw [set_small _ rfl]
 kernel_rfl
theorem play_1:evF [1,0,2] ⟨E0S,[l1S],0,[]⟩ e1S=(0,⟨E1S,[l1S,l2S],0,[]⟩):=by
 have e:evF [1,0,2] ⟨E0S,[l1S],0,[]⟩ e1S=sndF ⟨E0S,[l1S],0,[]⟩ (dZ (sZ E0S ⟨#[97]⟩ ⟨1,3,⟨#[]⟩⟩) [1,0,2]) [l1S] (bZ (sZ E0S ⟨#[97]⟩ ⟨1,3,⟨#[]⟩⟩) [1,0,2]).out:=by kernel_rfl
 rw [e];unfold dZ;rw [set_small (sZ E0S ⟨#[97]⟩ ⟨1,3,⟨#[]⟩⟩) rfl];show sndF _ _ _ _=_
 kernel_rfl
theorem play_2:evF [1,0,2] ⟨E1S,[l1S,l2S],0,[]⟩ e2S=(0,⟨E1S,[l1S,l2S],1,[0]⟩):=by kernel_rfl
theorem plays_any (h:Vw):C0 Tryz.prog 19 #[] h (λr _=>r=.bool true):=by
 have hSm:∀ H,C0 Tryz.prog 28 #[] H (λr h'=>∃ u,r=.agg #[sL (agJ 0 u),sL (agJ 1 u)] /\ FormU h' u smallF):=λH=>(small_any H).mono λv h' _=>by
  rintro ⟨A,c,B,d,rfl,hf⟩;exact ⟨.agg #[.slice A 3 c,.slice B 2 d],rfl,hf⟩
 have hPo:=λH=>c_policy 1 9 0 H (by decide) (by decide) (by decide) (by decide) (by decide) (by decide);have hes:∀ e∈[e1S,e2S],EvOk smallF.fields e:=λe he=>by
  rcases Tj.1 he with rfl | he
  ·exact ⟨by decide,by decide,by decide,by decide,λq=>absurd q (by decide),λ_=>.inl ⟨rfl,lim_mk (by decide) (by decide),rfl⟩,.inl (by kernel_rfl)⟩
  ·rw [Pj.1 he];exact ⟨by decide,by decide,by decide,by decide,λq=>absurd q (by decide),λq=>q.elim (λq=>absurd q (by decide)) (λq=>absurd q (by decide)),.inr (.inr (by decide))⟩
 have hR:=λfv pv sl H q1 q2=>run_any (p:=p0S) ⟨small_ok,small_okG,small_ranked⟩ (by decide) (by decide) ⟨by decide,by decide,by decide,by decide,by decide⟩ [e1S,e2S] hes (by decide) fv pv sl H q1 q2;have e1:stP [1,0,2] (ps0 smallF p0S [1,0,2]) [e1S,e2S]=⟨E1S,[l1S,l2S],1,[0]⟩:=by
  show (evF _ (evF _ _ e1S).2 e2S).2=_;rw [play_0,play_1,play_2]
 have e2:rpP [1,0,2] (ps0 smallF p0S [1,0,2]) [e1S,e2S]=[(0,0),(0,1)]:=by
  show [((evF _ _ e1S).1,(evF _ _ e1S).2.t),((evF _ (evF _ _ e1S).2 e2S).1,(evF _ (evF _ _ e1S).2 e2S).2.t)]=_;rw [play_0,play_1,play_2]
 rw [e1,e2] at hR;have hR':=λfv pv sl H q1 q2=>(hR fv pv sl H q1 q2).mono (R':=λr h'=>∃ (A7 A5 A4:Option Addr) (c7 c5 c4:Nat) (u:Value),r=.tuple #[.slice A7 2 c7,.agg #[sL (agJ 0 u),sL (agJ 1 u),Vi 2,Vi 10,Vi 10,sL (agJ 2 u),sL (agJ 3 u),.slice A4 3 c4,Vi 0,Vi 2],.slice A5 2 c5,.agg #[Vi 1,sL (agJ 6 u),.bool false],Vi 0] /\ RS h' 2 (.slice A7 2 c7) (rpRows [(0,0),(0,1)]) /\ RS h' 3 (.slice A4 3 c4) (zZ E1S.vals)) λr h' _ z=>by
  obtain ⟨u,rfl,hF⟩:=z;have f7:=hF.rp;have f4:=hF.ps.eng.vals;obtain ⟨A7,c7,e7,-⟩:=f7.form;obtain ⟨A5,c5,e5,-⟩:=hF.ps.net.rows.form;obtain ⟨A4,c4,e4,-⟩:=f4.form;rw [e7] at f7;rw [e4] at f4;rw [e7,e5,e4];exact ⟨A7,A5,A4,c7,c5,c4,u,rfl,f7,f4⟩
 have hr7:(rpRows [(0,0),(0,1)])[0]?=some [Vi 0,Vi 0]:=rfl;have hr8:(rpRows [(0,0),(0,1)])[1]?=some [Vi 0,Vi 1]:=rfl;have hr4:(zZ [⟨1,4,⟨#[]⟩⟩,⟨1,3,⟨#[]⟩⟩,pdV])[0]?=some [Vi 1,Vi 4,.string ⟨#[]⟩]:=rfl;refine wQ Tryz.func19 (c:=Tryz.f19.body.getD .skip) (N:=58) ?_;intro hbx hbad Q hQ;refine go0 7 [] [] ?_;refine qQ (λH sH=>hSm _) ?_; rintro _ W1 S2 ⟨u7,rfl,f7⟩;refine qQ (λH sH=>hPo _) ?_; rintro _ W3 S4 rfl;refine tV 4 [.fix] [] ?_;intro bt12 W5 S6;refine vQ 0 bt12 0 [Vi 1,Vi 0,.string ⟨#[97]⟩,Vi 1,Vi 3,Ve,Vi 7,Vi 0,Ve,Vi 0,Vi 0,Ve] λt12=>?_;refine qQ (λH sH=>hR' _ _ _ _ (f7.sees (S4.trans (S6.trans sH))) (vY (k:=6) [e1S.cells,e2S.cells] (λr hr=>by simp at hr; rcases hr with rfl | rfl <;> rfl) (show (2:Nat) <= maxLen by decide) (t12.sees sH))) ?_; rintro _ W7 S8 ⟨A7,A5,A4,c7,c5,c4,u13,rfl,f27,f26⟩;refine go2 26 [.own,.own,.b 1 0,.b 0 0] [] ?_;intro b9 b10;obtain ⟨b11,o12,rfl,-,c13⟩:=RS.row f27 (hr7);refine xQ (c13.sees (Sees.refl _)) ?_;refine go0 7 [.ix b11 o12 2 c7 0,.f 0 0] [] ?_ (ho:=(Aj (by first | omega | (simp; omega)) (trivial)));have c14:=RS.cell f27 (hr8);refine xQ (c14.sees (Sees.refl _)) ?_;refine go0 13 [.ix b11 o12 2 c7 1,.f 0 1,.b 0 0,.b 1 7] [] ?_ (ho:=(Aj (by first | omega | (simp; omega)) (trivial)));obtain ⟨b15,o16,rfl,-,c17⟩:=RS.row f26 (hr4);refine xQ (c17.sees (Sees.refl _)) ?_;refine go0 14 [.ix b15 o16 3 c4 0,.f 0 1] [] ?_ (ho:=(Aj (by first | omega | (simp; omega)) (trivial)));refine hQ.to [.bool true] (λH sH=>?_);exact rfl
abbrev rhF (l:List RawD):List Int:=rhoL (uW (nQ l).fields)
abbrev endF (l:List RawD) (p:Pol) (es:List Ev):Ps:=stP (rhF l) (ps0 (nQ l) p (rhF l)) es
abbrev repF (l:List RawD) (p:Pol) (es:List Ev):List (Int × Nat):=rpP (rhF l) (ps0 (nQ l) p (rhF l)) es
theorem form_few12 (l:List RawD):(nQ l).fields.length <= 12:=by have:=form_len l; have:=pW l; omega
theorem evs_l (l m:List RawD) (many:Nat):∀ e∈evsE (nQ l).fields m many,EvOk (nQ l).fields e:=evs_ok (form_okFm l).fields (form_one l) (form_ty l) m many
theorem evs_len (fs:List Fd) (m:List RawD) (many:Nat):(evsE fs m many).length <= many:=by
 unfold evsE;rw [Hj,Uj];exact Nat.min_le_left _ _
theorem run_l (l:List RawD) {p:Pol} (hp:p.ok) (es:List Ev) (hes:∀ e∈es,EvOk (nQ l).fields e) (hl:es.length <= 80) (u sl:Value) (h:Vw) (hf:FormU h u (nQ l)) (hr:RS h 6 sl (es.map Ev.cells)) :
  C0 Tryz.prog 18 #[.agg #[sL (agJ 0 u),sL (agJ 1 u)],.agg #[Vi p.t,Vi p.b,Vi p.c],sl] h (λr h'=>RunR (nQ l).pages.length (endF l p es) (repF l p es) r h') :=
 run_any (form_okFm l) (form_one l) (form_few12 l) hp es hes hl _ _ sl h hf hr
theorem endF_ok (l:List RawD) {p:Pol} (hp:p.ok) (es:List Ev) (hes:∀ e∈es,EvOk (nQ l).fields e) (hl:es.length <= 80):PsOk (nQ l) p (rhF l) (lvF l) es.length (endF l p es) :=
 (ps0_ok (form_okFm l) (form_one l) hp).run es hes hl
structure RunO (h:Vw) (u:Value) (s:Ps) (n:Nat) (rp:List (Int × Nat)):Prop where
 ps:PsI h u s
 rp:RS h 2 (.slice (sA (agJ 7 u)) n (sC (agJ 7 u))) (rpRows rp)
theorem RunO.sees {h h':Vw} {u:Value} {s:Ps} {n:Nat} {rp:List (Int × Nat)} (k:RunO h u s n rp) (q:Sees h h'):RunO h' u s n rp:=⟨k.ps.sees q,k.rp.sees q⟩
theorem runR_open {m n:Nat} {s:Ps} {rp:List (Int × Nat)} {r:Value} {h:Vw} (hn:rp.length=n) (k:RunR m s rp r h):∃ u,r=.tuple #[.slice (sA (agJ 7 u)) n (sC (agJ 7 u)),.agg (eA u s.E),sL (agJ 5 u),.agg #[Vi (s.t:Int),sL (agJ 6 u),.bool ((s.t:Int) == (m:Int))],Vi 0] /\ RunO h u s n rp:=by
 obtain ⟨u,rfl,q⟩:=k;have e:=sl_len q.rp;rw [Hj,hn] at e;have q2:=q.rp;rw [iZ e] at q2;exact ⟨u,by rw [iZ e],q.ps,q2⟩
theorem events_l (l m:List RawD) (many:Nat) (hm:many <= 100) (om:∀ r∈m,r.ok) (u:Value) (sm:Value) (h:Vw) (hf:FormU h u (nQ l)) (hr:RS h 4 sm (m.map RawD.cs)) {n:Nat} (hn:(evsE (nQ l).fields m many).length=n) :
  C0 Tryz.prog 17 #[.agg #[sL (agJ 0 u),sL (agJ 1 u)],sm,Vi (many:Int)] h (λv h'=>∃ u,v=.slice (sA u) n (sC u) /\ RS h' 6 (.slice (sA u) n (sC u)) ((evsE (nQ l).fields m many).map Ev.cells)) :=
 (events_any (nQ l).fields (form_one l) (form_ty l) many hm (agJ 1 u) (sL (agJ 0 u)) m sm h hf.fields hr om).mono λv h' _=>by
  rintro ⟨u,rfl,q⟩;have e:=sl_len q;rw [Hj,hn] at e;rw [iZ e] at q ⊢;exact ⟨u,rfl,q⟩
theorem form_u2 (l:List RawD) (sl:Value) (h:Vw) (hr:RS h 4 sl (l.map RawD.cs)) (ll:l.length * 40 <= reachBytes) (ol:∀ r∈l,r.ok) :
  C0 Tryz.prog 16 #[sl] h (λr h'=>∃ u,r=.agg #[sL (agJ 0 u),sL (agJ 1 u)] /\ FormU h' u (nQ l)):=(form_any l sl h hr ll ol).mono λv h' _=>by
 rintro ⟨u1,u2,rfl,hf⟩;exact ⟨.agg #[u1,u2],rfl,hf⟩
end Go.Proofs.YthplkompdehjlaaGreat
