/-
  Contracts of package expr's reader where there stand names, numbers and signs of two arguments alone.
-/
import Derived.Test.YthgcgciceejicaaGreatDoorZT25
import Derived.Test.YthgcgciceejicaaGreatDoorZT26
set_option maxHeartbeats 1000000
set_option maxRecDepth 100000
namespace Go.Proofs.YthgcgciceejicaaGreatDoor
open Go.RowKit
set_option linter.unusedVariables false
def PrsR (A:Option Addr) (C n:Nat) (en:Int) (x:Ex) (k':Nat) (v:Value) (cs:List Value) (H:Vw):Prop :=
 ∃ u,v=.agg #[Vi x.op,Vi x.k,Vi x.n,.string x.s,.string x.nm,sL u] /\ cs=rdL (.slice (tkA A C k') (n - k') (C - k')) en /\ IsArgs H x (sL u)
def SimT (T:List Tok):Prop:=∀ k,isK T k [45]=false /\ isK T k [110,111,116]=false /\ isK T k [40]=false /\ isK T k [116,114,117,101]=false /\ isK T k [102,97,108,115,101]=false /\ isK T k [105,102]=false /\ isK T k [108,101,110]=false
structure PS (A:Option Addr) (C n:Nat) (en:Int) (T:List TokA) (f:Nat):Prop where
 lv:∀ (l k b:Nat) (h:Vw) (x:Ex) (k':Nat),RS h 6 (.slice A n C) (eZ T) -> 1 <= l -> l <= 6 -> (prsF (T.map (·.t)) f).lv l k=.ok x k' ->
  C1 Tryz.prog 216 #[.pointer (some ⟨b,0,none⟩),Vi (l:Int)] h b (rdL (.slice (tkA A C k) (n - k) (C - k)) en) (PrsR A C n en x k')
 on:∀ (k b:Nat) (h:Vw) (x:Ex) (k':Nat),RS h 6 (.slice A n C) (eZ T) -> (prsF (T.map (·.t)) f).on k=.ok x k' ->
  C1 Tryz.prog 246 #[.pointer (some ⟨b,0,none⟩)] h b (rdL (.slice (tkA A C k) (n - k) (C - k)) en) (PrsR A C n en x k')
 wh:∀ (k b:Nat) (h:Vw) (x:Ex) (k':Nat),RS h 6 (.slice A n C) (eZ T) -> (prsF (T.map (·.t)) f).wh k=.ok x k' ->
  C1 Tryz.prog 268 #[.pointer (some ⟨b,0,none⟩)] h b (rdL (.slice (tkA A C k) (n - k) (C - k)) en) (PrsR A C n en x k')
theorem then_ok {α β:Type} {r:PR α} {g:α -> Nat -> PR β} {y:β} {k':Nat} (h:r.then g=.ok y k'):∃ x k,r=.ok x k /\ g x k=.ok y k':=by
 cases r with
 | ok x k=>exact ⟨x,k,rfl,h⟩
 | bad k=>cases h
 | out=>cases h
theorem args_two {h:Vw} {x y:Ex} {op:Int} {u v:Value} {b:Nat} (hu:IsArgs h x u) (hv:IsArgs h y v) (c:Cells h b 0 (exRow x u++exRow y v)):IsArgs h (opE op [x,y]) (.slice (some ⟨b,0,none⟩) 2 2):=by
 refine IsArgs.mk (vs:=[u,v]) ?_ ?_
 ·exact rs_cells (k:=6) (rK [x,y] [u,v]) (λr hr=>by simp [rK] at hr; rcases hr with rfl | rfl <;> rfl) (by simp [rK]; decide) (by simpa [rK] using c)
 ·show AllArgs h [x,y] [u,v];unfold AllArgs;refine ⟨u,[v],rfl,hu,?_⟩;unfold AllArgs;exact ⟨v,[],rfl,hv,by unfold AllArgs; rfl⟩
theorem c_key (s:List UInt8) (h:Vw):C0 Tryz.prog 175 #[Vt ⟨s.toArray⟩] h (λv _=>v=.bool (isKey s)):=by
 rcases Px (isKey s) with hk | hk
 ·rw [hk]; exact C0.of_same (λw=>key_yes ⟨s.toArray⟩ w hk) h
 ·rw [hk]; exact C0.of_same (λw=>key_no ⟨s.toArray⟩ w hk) h
section
variable {A:Option Addr} {C:Nat} {T:List TokA}
theorem is_c (n:Nat) (hn:n=T.length) (en:Int) (s:ByteArray) (k b:Nat) (H:Vw) (e:isK (T.map (·.t)) k s.data.toList=false) (hr:RS H 6 (.slice A n C) (eZ T)) :
  C1 Tryz.prog 267 #[.pointer (some ⟨b,0,none⟩),.string s] H b (rdL (.slice (tkA A C k) (n - k) (C - k)) en) (λv cs _=>v=.bool false /\ cs=rdL (.slice (tkA A C k) (n - k) (C - k)) en):=by
 have:=is_any (A:=A) (C:=C) n hn en s k b H hr
 rw [e] at this;exact this
theorem level_s (n:Nat) (hn:n=T.length) (en:Int) (f:Nat) (IH:∀ g,g <= f -> PS A C n en T g) (l k b:Nat) (h:Vw) (x:Ex) (k':Nat) (hr:RS h 6 (.slice A n C) (eZ T)) (l1:1 <= l) (l6:l <= 6) (hp:(prsF (T.map (·.t)) (f + 1)).lv l k=.ok x k') :
  C1 Tryz.prog 216 #[.pointer (some ⟨b,0,none⟩),Vi (l:Int)] h b (rdL (.slice (tkA A C k) (n - k) (C - k)) en) (PrsR A C n en x k'):=by
 have hp:(if l=6 then (prsF (T.map (·.t)) f).on k else ((prsF (T.map (·.t)) f).lv (l + 1) k).then ((prsF (T.map (·.t)) f).lp l))=.ok x k':=hp
 by_cases g6:l=6
 ·rw [Cj g6] at hp;have hO:=λH q1=>(IH f (Hj _)).on k b H x k' q1 hp;refine pQ Tryz.func216 λhbx hbad Q hQ=>?_;refine go1 12 [.own] [] ?_;intro b1;refine jV (t:=(l:Int) == 6) (Xj.2 (by omega)) ?_;refine go0 3 [] [] ?_;refine lQ 1 (λH sH=>hO _ (hr.sees sH)) ?_; rintro _ _ W2 S3 ⟨u,rfl,rfl,hu⟩;refine go0 5 [.b 0 0] [] ?_;refine hQ.toB [.agg #[Vi x.op,Vi x.k,Vi x.n,.string x.s,.string x.nm,sL u]] [(.slice (tkA A C k') (n - k') (C - k') :: Vi en :: rY)] (λH sH=>?_) (ix:=[0]);exact ⟨_,rfl,u,rfl,rfl,(hu.sees sH)⟩
 ·rw [Bj g6] at hp;obtain ⟨y,k1,e1,e2⟩:=then_ok hp;have hO:=λH q1=>(IH f (Hj _)).lv (l + 1) k b H y k1 q1 (by omega) (by omega) e1;have hOp:=λk H q=>op_any (A:=A) (C:=C) n hn en l k b H q;have hTk:=λx k H q hx=>take_any (A:=A) (C:=C) n hn en x k b H q hx;refine pQ Tryz.func216 λhbx hbad Q hQ=>?_;refine go1 12 [.own] [] ?_;intro b1;refine tQ (t:=(l:Int) == 6) (Lj.2 (by omega)) ?_;refine go0 7 [] [(13,Vi (IntKind.i64.wrap ((l:Int) + 1)),Vi ((l + 1:Nat):Int))] ?_ (hc:=(Aj (jJ (by omega) (by omega)) (trivial)));refine lQ 1 (λH sH=>hO _ (hr.sees sH)) ?_; rintro _ _ W2 S3 ⟨u,rfl,rfl,hu⟩;refine go1 5 [.own,.b 0 0] [] ?_;intro bq;refine yQ [0,1,1,1] [.block 0] (λ(g:Nat) X=>∃ (W4:Vw) (z:Ex) (kz:Nat) (uz:Value),X W4 [(0,Vp b),(1,Vi (l:Int)),(4,Vp b1),(5,Vp bq)] [.box bq [Vi z.op,Vi z.k,Vi z.n,.string z.s,.string z.nm,sL uz],.box b1 [Vi 0,Vi 0,Vi 0,Ve,Ve,Vz],.box b (.slice (tkA A C kz) (n - kz) (C - kz) :: Vi en :: rY)] [] /\ Sees W2 W4 /\ (g <= f) /\ ((prsF (T.map (·.t)) g).lp l z kz=.ok x k') /\ (IsArgs W4 z (sL uz))) (λg=>g) (f) (λX q=>⟨W2,y,k1,u,q _ _ _ _ ⟨rfl,by kernel_rfl⟩,Sees.refl _,Hj _,e2,hu⟩) ?_;rintro g a w ⟨W4,z,kz,uz,hJ,S5,hg,hz,hu2⟩; refine dV hJ ?_; clear hJ a w;refine go0 5 [] [] ?_;obtain ⟨g',rfl⟩:∃ g',g=g' + 1:=by
   cases g with
   | zero=>cases hz
   | succ g'=>exact ⟨g',rfl⟩
  have hz:(if opkT (T.map (·.t)) l kz=0 then PR.ok z kz else ((prsF (T.map (·.t)) g').lv (l + 1) (kz + 1)).then λy k'=>if l=3 then .ok (opE (opkT (T.map (·.t)) l kz) [z,y]) k' else (prsF (T.map (·.t)) g').lp l (opE (opkT (T.map (·.t)) l kz) [z,y]) k')=.ok x k':=hz;have hO2:=hOp kz;have hob:=opkT_tok (T:=T) (l:=l) (k:=kz);generalize opkT (T.map (·.t)) l kz=op at *;refine lQ 2 (λH sH=>hO2 _ (hr.sees (S3.trans (S5.trans sH)))) ?_; rintro _ _ W6 S7 ⟨rfl,rfl⟩;refine go0 10 [] [] ?_
  by_cases g0:op=0
  ·rw [Cj g0] at hz
   injection hz with hz1 hz2
   refine jV (t:=op == 0) (Xj.2 g0) ?_;refine go0 9 [.b 0 0,.b 1 0] [] ?_;refine xQ ?_;refine go0 1 [] [] ?_;refine hQ.toB [.agg #[Vi z.op,Vi z.k,Vi z.n,.string z.s,.string z.nm,sL uz]] [(.slice (tkA A C kz) (n - kz) (C - kz) :: Vi en :: rY)] (λH sH=>?_) (ix:=[1]);exact ⟨_,rfl,uz,by rw [hz1]; rfl,by rw [hz2],by rw [<- hz1]; exact (hu2.sees (S7.trans sH))⟩
  ·skip;rw [Bj g0] at hz
   obtain ⟨y2,k2,e3,e4⟩:=then_ok hz;obtain ⟨t,ht⟩:=hob g0;have hO3:=λH q1=>(IH g' (by omega)).lv (l + 1) (kz + 1) b H y2 k2 q1 (by omega) (by omega) e3;refine tQ (t:=op == 0) (Lj.2 g0) ?_;refine go0 5 [] [] ?_;refine lQ 2 (λH sH=>hTk t kz _ (hr.sees (S3.trans (S5.trans (S7.trans sH)))) ht) ?_; rintro _ _ W8 S9 ⟨rfl,rfl⟩;refine go0 3 [] [] ?_;refine fV 9 0 [.pu,.ld 0 0,.pu,.pu,.v (λgh=>Vi ((l + 1:Nat):Int)),.ef (λgh=>.agg #[Vi y2.op,Vi y2.k,Vi y2.n,.string y2.s,.string y2.nm,sL (gh 5)]) 2 (λgh=>.box b (.slice (tkA A C k2) (n - k2) (C - k2) :: Vi en :: rY)) (λgh hh=>IsArgs hh y2 (sL (gh 5))),.f (λgh=>.slice (some ⟨(uJ (gh 6)),0,none⟩) 2 2) (λgh hh=>Cells hh (uJ (gh 6)) 0 [Vi z.op,Vi z.k,Vi z.n,.string z.s,.string z.nm,sL uz,Vi y2.op,Vi y2.k,Vi y2.n,.string y2.s,.string y2.nm,sL (gh 5)]),.pu,.st 0 0] [(5,false),(6,true)] (Aj (λ_ _ _ s c=>c.sees s) (Aj (λ_ _ _ s c=>c.sees s) (trivial))) ?_ ?_
   ·intro R hT hA hmono;refine Aj (aZ hT hA (λgh=>Vi ((l + 1:Nat):Int)) (λgh=>Vi (IntKind.i64.wrap ((l:Int) + 1))) (λgh=>jJ (by omega) (by omega))) ?_;refine Aj (r_call1 hT hA hmono ⟨λ_ _=>by kernel_rfl,λ_ _=>by kernel_rfl,λ_ _=>by kernel_rfl⟩ 28 (λu=>.agg #[Vi y2.op,Vi y2.k,Vi y2.n,.string y2.s,.string y2.nm,sL u]) [2,4] 5 (by kernel_rfl) (λ_=>by kernel_rfl) 2 (GN R 2) (by kernel_rfl) (by kernel_rfl) (by kernel_rfl) b (λgh=>(.slice (tkA A C (kz + 1)) (n - (kz + 1)) (C - (kz + 1)) :: Vi en :: rY)) (λgh=>(.slice (tkA A C k2) (n - k2) (C - k2) :: Vi en :: rY)) (λ_=>by kernel_rfl) (λ_=>by kernel_rfl) 216 (λgh=>#[Vp b,Vi ((l + 1:Nat):Int)]) (λ_ _=>by kernel_rfl) (λgh H sH fH lent=>C1.facts (R:=R) (x:=gh) (N':=λgh=>(.slice (tkA A C k2) (n - k2) (C - k2) :: Vi en :: rY)) (i:=5) (n:=0) (F:=(λu=>.agg #[Vi y2.op,Vi y2.k,Vi y2.n,.string y2.s,.string y2.nm,sL u])) (N:=λu=>(.slice (tkA A C k2) (n - k2) (C - k2) :: Vi en :: rY)) (G:=λu hh=>IsArgs hh y2 (sL u)) (f:=λgh hh=>IsArgs hh y2 (sL (gh 5))) (hO3 _ (hr.sees (S3.trans (S5.trans (S7.trans (S9.trans sH)))))) (by kernel_rfl) (by kernel_rfl) (λ_=>by kernel_rfl) (λ_ _ r=>r))) ?_;refine Aj (r_fact hT hA hmono ⟨λ_ _=>by kernel_rfl,λ_ _=>by kernel_rfl,λ_ _=>by kernel_rfl⟩ 29 (λg=>Vs g 2 2) [1,5] 6 (by kernel_rfl) (by kernel_rfl) (λ_=>by kernel_rfl) (λgh=>[Vi z.op,Vi z.k,Vi z.n,.string z.s,.string z.nm,sL uz,Vi y2.op,Vi y2.k,Vi y2.n,.string y2.s,.string y2.nm,sL (gh 5)]) 47 (λ_ _=>by kernel_rfl) (λgh zb zH zc zj zq zhq zhe=>own_fact (i:=6) (k:=1) (f:=λgh hh=>Cells hh (uJ (gh 6)) 0 [Vi z.op,Vi z.k,Vi z.n,.string z.s,.string z.nm,sL uz,Vi y2.op,Vi y2.k,Vi y2.n,.string y2.s,.string y2.nm,sL (gh 5)]) (by kernel_rfl) (by kernel_rfl) zc zj zq zhq zhe)) ?_
    trivial
   rintro u28 b11 W12 S13 ⟨f28,f10,-⟩;replace f28:IsArgs W12 y2 (sL u28):=f28;replace f10:Cells W12 b11 0 [Vi z.op,Vi z.k,Vi z.n,.string z.s,.string z.nm,sL uz,Vi y2.op,Vi y2.k,Vi y2.n,.string y2.s,.string y2.nm,sL u28]:=f10;refine qQ f10 ?_;refine go0 7 [] [] ?_
   by_cases g3:l=3
   ·rw [Cj g3] at e4
    injection e4 with hz1 hz2
    refine jV (t:=(l:Int) == 3) (Xj.2 (by omega)) ?_;refine go0 8 [.b 0 0,.b 1 0] [] ?_;refine xQ ?_;refine go0 1 [] [] ?_;refine hQ.toB [.agg #[Vi op,Vi 0,Vi 0,Ve,Ve,Vs b11 2 2]] [(.slice (tkA A C k2) (n - k2) (C - k2) :: Vi en :: rY)] (λH sH=>?_) (ix:=[1]);exact ⟨_,rfl,Vs b11 2 2,by rw [<- hz1]; rfl,by rw [hz2],by rw [<- hz1]; exact args_two (hu2.sees (S7.trans (S9.trans (S13.trans sH)))) (f28.sees sH) (f10.sees sH)⟩
   ·skip;rw [Bj g3] at e4
    refine tQ (t:=(l:Int) == 3) (Lj.2 (by omega)) ?_;refine go0 2 [] [] ?_;exact iV (g') (λX q=>⟨W12,opE op [z,y2],k2,Vs b11 2 2,q _ _ _ _ ⟨rfl,by kernel_rfl⟩,(S5.trans (S7.trans (S9.trans S13))),by omega,e4,args_two (hu2.sees (S7.trans (S9.trans S13))) f28 f10⟩)
theorem one_s (hS:SimT (T.map (·.t))) (n:Nat) (hn:n=T.length) (en:Int) (f:Nat) (IH:PS A C n en T f) (k b:Nat) (h:Vw) (x:Ex) (k':Nat) (hr:RS h 6 (.slice A n C) (eZ T)) (hp:(prsF (T.map (·.t)) (f + 1)).on k=.ok x k') :
  C1 Tryz.prog 246 #[.pointer (some ⟨b,0,none⟩)] h b (rdL (.slice (tkA A C k) (n - k) (C - k)) en) (PrsR A C n en x k'):=by
 have hp:(if isK (T.map (·.t)) k [45] then ((prsF (T.map (·.t)) f).on (k + 1)).then λx k'=>PR.ok (opE 3 [x]) k' else if isK (T.map (·.t)) k [110,111,116] then ((prsF (T.map (·.t)) f).on (k + 1)).then λx k'=>.ok (opE 4 [x]) k' else (prsF (T.map (·.t)) f).wh k)=.ok x k':=hp;obtain ⟨s1,s2,-⟩:=hS k;rw [s1,s2,Bj Cx,Bj Cx] at hp;have hI1:=λH q=>is_c (A:=A) (C:=C) n hn en ⟨#[45]⟩ k b H s1 q;have hI2:=λH q=>is_c (A:=A) (C:=C) n hn en ⟨#[110,111,116]⟩ k b H s2 q;have hW:=λH p1=>IH.wh k b H x k' p1 hp;refine pQ Tryz.func246 λhbx hbad Q hQ=>?_;refine go1 13 [.own] [] ?_;intro b1;refine yQ [0,1,0,1] [.block 0,.seq [1,1]] (λ(j:Nat) X=>∃ (W2:Vw) ,X W2 [(0,Vp b),(2,Vp b1),(5,.agg #[Vi 3,Vi 4]),(6,Vi (j:Int))] [.box b1 [Vi 0,Vi 0,Vi 0,Ve,Ve,Vz],.box b (.slice (tkA A C k) (n - k) (C - k) :: Vi en :: rY)] [] /\ Sees h W2 /\ (j=0\/j=1\/j=2)) (λj=>2 - j) (0) (λX q=>⟨h,q _ _ _ _ ⟨rfl,by kernel_rfl⟩,Sees.refl _,.inl rfl⟩) ?_;rintro j a w ⟨W2,hJ,S3,hj⟩; refine dV hJ ?_; clear hJ a w;refine go0 6 [] [] ?_;rcases hj with j0 | j0 | j0
 ·skip;refine jV (t:=decide ((j:Int) < 2)) (Jj (by omega)) ?_
  refine go0 6 [] [] ?_;refine eV (Vi 3) (λw=>by subst j0; kernel_rfl) ?_;refine go0 13 [.b 1 11] [] ?_;refine lQ 1 (λH sH=>hI1 _ (hr.sees (S3.trans sH))) ?_; rintro _ _ W4 S5 ⟨rfl,rfl⟩;refine go0 10 [] [(25,Vi (IntKind.i64.wrap ((j:Int) + 1)),Vi ((j:Int) + 1))] ?_ (hc:=(Aj (jJ (by omega) (by omega)) (trivial)));exact iV (j + 1) (λX q=>⟨W4,q _ _ _ _ ⟨rfl,by kernel_rfl⟩,(S3.trans S5),.inr (.inl (by omega))⟩)
 ·skip;refine jV (t:=decide ((j:Int) < 2)) (Jj (by omega)) ?_
  refine go0 6 [] [] ?_;refine eV (Vi 4) (λw=>by subst j0; kernel_rfl) ?_;refine go0 13 [.b 1 14] [] ?_;refine lQ 1 (λH sH=>hI2 _ (hr.sees (S3.trans sH))) ?_; rintro _ _ W6 S7 ⟨rfl,rfl⟩;refine go0 10 [] [(25,Vi (IntKind.i64.wrap ((j:Int) + 1)),Vi ((j:Int) + 1))] ?_ (hc:=(Aj (jJ (by omega) (by omega)) (trivial)));exact iV (j + 1) (λX q=>⟨W6,q _ _ _ _ ⟨rfl,by kernel_rfl⟩,(S3.trans S7),.inr (.inr (by omega))⟩)
 ·skip;refine tQ (t:=decide ((j:Int) < 2)) (Kj (by omega)) ?_
  refine go0 2 [] [] ?_;refine xQ ?_;refine go0 5 [] [] ?_;refine lQ 1 (λH sH=>hW _ (hr.sees (S3.trans sH))) ?_; rintro _ _ W8 S9 ⟨u,rfl,rfl,hu⟩;refine go0 4 [.b 0 0] [] ?_;refine hQ.toB [.agg #[Vi x.op,Vi x.k,Vi x.n,.string x.s,.string x.nm,sL u]] [(.slice (tkA A C k') (n - k') (C - k') :: Vi en :: rY)] (λH sH=>?_) (ix:=[0]);exact ⟨_,rfl,u,rfl,rfl,(hu.sees sH)⟩
theorem whole_s (hS:SimT (T.map (·.t))) (n:Nat) (hn:n=T.length) (en:Int) (f:Nat) (k b:Nat) (h:Vw) (x:Ex) (k':Nat) (hr:RS h 6 (.slice A n C) (eZ T)) (hp:(prsF (T.map (·.t)) (f + 1)).wh k=.ok x k') :
  C1 Tryz.prog 268 #[.pointer (some ⟨b,0,none⟩)] h b (rdL (.slice (tkA A C k) (n - k) (C - k)) en) (PrsR A C n en x k'):=by
 obtain ⟨-,-,s1,s2,s3,s4,s5⟩:=hS k;have hp:(if isK (T.map (·.t)) k [40] then ((prsF (T.map (·.t)) f).lv 1 (k + 1)).then λx k'=>if isK (T.map (·.t)) k' [41] then PR.ok x (k' + 1) else .bad k'
  else if isK (T.map (·.t)) k [116,114,117,101] then .ok (.mk 1 2 1 ⟨#[]⟩ ⟨#[]⟩ []) (k + 1) else if isK (T.map (·.t)) k [102,97,108,115,101] then .ok (.mk 1 2 0 ⟨#[]⟩ ⟨#[]⟩ []) (k + 1)
  else if isK (T.map (·.t)) k [105,102] then ((prsF (T.map (·.t)) f).ag 3 0 [] (k + 1)).then λl k'=>.ok (opE 17 l) k' else if isK (T.map (·.t)) k [108,101,110] then ((prsF (T.map (·.t)) f).ag 1 0 [] (k + 1)).then λl k'=>.ok (opE 18 l) k'
  else match (T.map (·.t))[k]? with
   | some x=>if x.kd=2 /\ isKey x.s=false then .ok (refE ⟨x.s.toArray⟩) (k + 1) else if x.kd=1\/x.kd=3 then .ok (conV x) (k + 1) else .bad k
   | none=>.bad k)=.ok x k':=hp
 rw [s1,s2,s3,s4,s5] at hp;simp only [Bool.false_eq_true,if_false] at hp;have hI:=λ(s:ByteArray) (e:isK (T.map (·.t)) k s.data.toList=false) H q=>is_c (A:=A) (C:=C) n hn en s k b H e q;have hT:=λt H q ht=>take_any (A:=A) (C:=C) n hn en t k b H q ht;have htl:=λq=>tk_at hr k q;generalize hnk:n - k=nk at *;generalize C - k=ck at *;generalize tkA A C k=Ak at *;refine pQ Tryz.func268 λhbx hbad Q hQ=>?_;refine go1 10 [.own] [] ?_;intro b1;refine lQ 1 (λH sH=>hI ⟨#[40]⟩ s1 _ (hr.sees sH)) ?_; rintro _ _ W2 S3 ⟨rfl,rfl⟩;refine go0 8 [] [] ?_;refine lQ 1 (λH sH=>hI ⟨#[116,114,117,101]⟩ s2 _ (hr.sees (S3.trans sH))) ?_; rintro _ _ W4 S5 ⟨rfl,rfl⟩;refine go0 6 [] [] ?_;refine lQ 1 (λH sH=>hI ⟨#[102,97,108,115,101]⟩ s3 _ (hr.sees (S3.trans (S5.trans sH)))) ?_; rintro _ _ W6 S7 ⟨rfl,rfl⟩;refine go0 8 [] [] ?_;refine lQ 1 (λH sH=>hI ⟨#[105,102]⟩ s4 _ (hr.sees (S3.trans (S5.trans (S7.trans sH))))) ?_; rintro _ _ W8 S9 ⟨rfl,rfl⟩;refine go0 6 [] [] ?_;refine lQ 1 (λH sH=>hI ⟨#[108,101,110]⟩ s5 _ (hr.sees (S3.trans (S5.trans (S7.trans (S9.trans sH)))))) ?_; rintro _ _ W10 S11 ⟨rfl,rfl⟩;refine go0 13 [.b 1 0] [] ?_;rw [Oj] at hp;obtain ⟨t,ht⟩:∃ t,T[k]?=some t:=by
  cases hx:T[k]? with
  | none=>rw [hx] at hp; cases hp
  | some t=>exact ⟨t,rfl⟩
 have hkl:=(Nj.1 ht).1;rw [ht] at hp;have hp:(if t.t.kd=2 /\ isKey t.t.s=false then PR.ok (refE ⟨t.t.s.toArray⟩) (k + 1) else if t.t.kd=1\/t.t.kd=3 then .ok (conV t.t) (k + 1) else .bad k)=.ok x k':=hp;have hfr:=htl (by omega);have hrow:((eZ T).drop k)[0]?=some (tcells t):=by rw [Wv]; simp [ht]
 have hKy:=λH=>c_key t.t.s H;refine gV 58 (v:=.bool (decide ((nk:Int) > 0))) (v':=.bool true) (Dj Value.bool (Jj (by omega))) ?_
 by_cases c2:t.t.kd=2
 ·skip
  by_cases c3:isKey t.t.s=false
  ·rw [Cj ⟨c2,c3⟩] at hp
   injection hp with hz1 hz2
   refine go0 4 [.b 1 0] [] ?_;obtain ⟨b12,o13,rfl,-,c14⟩:=RS.row hfr (hrow);refine qQ (c14.sees (S3.trans (S5.trans (S7.trans (S9.trans S11))))) ?_;refine go0 10 [.ix b12 o13 nk ck 0,.f 0 0,.b 1 0] [(66,.bool (t.t.kd == 2),.bool true)] ?_ (ho:=(Aj (by first | omega | (simp; omega)) (trivial))) (hc:=(Aj (Dj Value.bool (Xj.2 c2)) (trivial)));have c15:=RS.cell hfr (hrow);refine qQ (c15.sees (S3.trans (S5.trans (S7.trans (S9.trans S11))))) ?_;refine go0 9 [.ix b12 o13 nk ck 0,.f 0 2,.cl 175 #[Vt ⟨t.t.s.toArray⟩] (.bool (isKey t.t.s))] [] ?_ (ho:=(Aj (by first | omega | (simp; omega)) (Aj (λH sH=>hKy _) (trivial))));refine jV (t := !(isKey t.t.s)) (by rw [c3]; rfl) ?_;refine go0 3 [] [] ?_;refine lQ 1 (λH sH=>hT t _ (hr.sees (S3.trans (S5.trans (S7.trans (S9.trans (S11.trans sH)))))) ht) ?_; rintro _ _ W16 S17 ⟨rfl,rfl⟩;refine go0 8 [.b 0 0] [] ?_;refine hQ.toB [.agg #[Vi 2,Vi 0,Vi 0,Ve,.string ⟨t.t.s.toArray⟩,Vz]] [(.slice (tkA A C (k + 1)) (n - (k + 1)) (C - (k + 1)) :: Vi en :: rY)] (λH sH=>?_) (ix:=[0]);exact ⟨_,rfl,Vz,by rw [<- hz1]; rfl,by rw [hz2],by rw [<- hz1]; exact sJ _ _ rfl⟩
  ·rw [Bj (λq=>c3 q.2),Bj (by omega)] at hp
   cases hp
 ·skip;rw [Bj (λq=>c2 q.1)] at hp
  by_cases c13:t.t.kd=1\/t.t.kd=3
  ·rw [Cj c13] at hp
   injection hp with hz1 hz2
   refine go0 4 [.b 1 0] [] ?_;obtain ⟨b18,o19,rfl,-,c20⟩:=RS.row hfr (hrow);refine qQ (c20.sees (S3.trans (S5.trans (S7.trans (S9.trans S11))))) ?_;refine go0 29 [.ix b18 o19 nk ck 0,.f 0 0,.b 1 0] [(66,.bool (t.t.kd == 2),.bool false)] ?_ (ho:=(Aj (by first | omega | (simp; omega)) (trivial))) (hc:=(Aj (Dj Value.bool (Lj.2 c2)) (trivial)));refine gV 90 (v:=.bool (decide ((nk:Int) > 0))) (v':=.bool true) (Dj Value.bool (Jj (by omega))) ?_
   by_cases c1:t.t.kd=1
   ·skip;refine go0 4 [.b 1 0] [] ?_
    have c21:=RS.cell hfr (hrow);refine qQ (c21.sees (S3.trans (S5.trans (S7.trans (S9.trans S11))))) ?_;refine go0 22 [.ix b18 o19 nk ck 0,.f 0 0] [(98,.bool (t.t.kd == 1),.bool true)] ?_ (ho:=(Aj (by first | omega | (simp; omega)) (trivial))) (hc:=(Aj (Dj Value.bool (Xj.2 c1)) (trivial)));refine lQ 1 (λH sH=>hT t _ (hr.sees (S3.trans (S5.trans (S7.trans (S9.trans (S11.trans sH)))))) ht) ?_; rintro _ _ W22 S23 ⟨rfl,rfl⟩;refine go0 8 [.b 0 0] [] ?_;refine hQ.toB [.agg #[Vi 1,Vi t.t.vk,Vi t.t.vn,.string ⟨t.t.vs.toArray⟩,Ve,Vz]] [(.slice (tkA A C (k + 1)) (n - (k + 1)) (C - (k + 1)) :: Vi en :: rY)] (λH sH=>?_) (ix:=[0]);exact ⟨_,rfl,Vz,by rw [<- hz1]; rfl,by rw [hz2],by rw [<- hz1]; exact sJ _ _ rfl⟩
   ·skip;refine go0 4 [.b 1 0] [] ?_
    have c24:=RS.cell hfr (hrow);refine qQ (c24.sees (S3.trans (S5.trans (S7.trans (S9.trans S11))))) ?_;refine go0 9 [.ix b18 o19 nk ck 0,.f 0 0,.b 1 0] [(98,.bool (t.t.kd == 1),.bool false)] ?_ (ho:=(Aj (by first | omega | (simp; omega)) (trivial))) (hc:=(Aj (Dj Value.bool (Lj.2 c1)) (trivial)));have c25:=RS.cell hfr (hrow);refine qQ (c25.sees (S3.trans (S5.trans (S7.trans (S9.trans S11))))) ?_;refine go0 13 [.ix b18 o19 nk ck 0,.f 0 0] [(107,.bool (t.t.kd == 3),.bool true)] ?_ (ho:=(Aj (by first | omega | (simp; omega)) (trivial))) (hc:=(Aj (Dj Value.bool (Xj.2 (by omega))) (trivial)));refine lQ 1 (λH sH=>hT t _ (hr.sees (S3.trans (S5.trans (S7.trans (S9.trans (S11.trans sH)))))) ht) ?_; rintro _ _ W26 S27 ⟨rfl,rfl⟩;refine go0 8 [.b 0 0] [] ?_;refine hQ.toB [.agg #[Vi 1,Vi t.t.vk,Vi t.t.vn,.string ⟨t.t.vs.toArray⟩,Ve,Vz]] [(.slice (tkA A C (k + 1)) (n - (k + 1)) (C - (k + 1)) :: Vi en :: rY)] (λH sH=>?_) (ix:=[0]);exact ⟨_,rfl,Vz,by rw [<- hz1]; rfl,by rw [hz2],by rw [<- hz1]; exact sJ _ _ rfl⟩
  ·rw [Bj c13] at hp
   cases hp
theorem prs_s (hS:SimT (T.map (·.t))) (n:Nat) (hn:n=T.length) (en:Int):∀ f,∀ g,g <= f -> PS A C n en T g
 | 0,g,hg=>by
  obtain rfl:g=0:=by omega
  exact ⟨λ_ _ _ _ _ _ _ _ _ h=>(by cases h),λ_ _ _ _ _ _ h=>(by cases h),λ_ _ _ _ _ _ h=>(by cases h)⟩
 | f + 1,g,hg=>by
  have IH:=prs_s hS n hn en f;rcases (by omega:g <= f\/g=f + 1) with q | rfl
  ·exact IH g q
  ·exact ⟨λl k b h x k' hr l1 l6 hp=>level_s n hn en f IH l k b h x k' hr l1 l6 hp,λk b h x k' hr hp=>one_s hS n hn en f (IH f (Hj _)) k b h x k' hr hp,λk b h x k' hr hp=>whole_s hS n hn en f k b h x k' hr hp⟩
end
end Go.Proofs.YthgcgciceejicaaGreatDoor
