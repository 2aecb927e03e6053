/-
  Contracts of package nav: Next, Back; of the laws' filled.
-/
import Derived.Test.YtmoahpojchndiaaGreatDoorZD9
import Derived.Test.YtmoahpojchndiaaGreatDoorZD40
import Derived.Test.YtmoahpojchndiaaGreatDoorZD43
set_option maxRecDepth 100000
namespace Go.Proofs.YtmoahpojchndiaaGreatDoor
open Go.RowKit
set_option linter.unusedVariables false
set_option maxHeartbeats 4000000 in
theorem navFacts_l (fs:List Fd) (va:List Vl) (A:Option Addr) (n c:Nat) (B:Option Addr) (m d:Nat) (A1:Option Addr) (c1:Nat) (h:Vw) (hf:IsFds h (.slice A n c) fs) (hn:n=fs.length) (few:n≤1000) (ha:RS h 3 (.slice A1 n c1) (qY va)) (la:va.length=n) :
  C0 Tryz.prog 25 #[.agg #[.slice A n c,.slice B m d],.slice A1 n c1] h (fun r h'=>∃ u,r=.slice (sA u) (sN u) (sC u)∧RS h' 7 (.slice (sA u) (sN u) (sC u)) (yK (fcs fs va))):=by
 obtain ⟨vs,A',c',e,-,-,hr,hs,hvl,hsl⟩:=cQ hf
 simp only [Value.slice.injEq] at e
 obtain ⟨rfl,-,rfl⟩:=e
 rw [← hn] at hr hvl
 have hfl:=fun k (q:k≤n)=>fcs_len (fs:=fs.take k) (v:=va.take k) (by simp; omega)
 refine sQ Tryz.func25 (c:=Tryz.f25.body.getD .skip) (N:=28) ?_
 intro hbx hbad Q hQ
 refine go1 21 [.own,.b 0 0] [] ?_
 intro b1
 refine dV 56 7 ?_
 refine zQ [0,1,0,1,1] [.block 0,.seq [1,1,1]] (fun (k:Nat) X=>∃ (W2:Vw) (v:Value),X W2 [(1,.slice A1 n c1),(9,.slice A n c),(10,Vi (n:Int)),(11,Vi (k:Int)),(5,v)] [.row v 56 7 (yK (fcs (fs.take k) (va.take k))),.box b1 [.slice A n c,.slice B m d]] []∧Sees h W2∧(k≤n)) (fun k=>n - k) (0) (fun X q=>⟨h,(Vz),q _ _ _ _ ⟨rfl,by kernel_rfl⟩,Sees.refl _,Nat.zero_le _⟩) ?_
 rintro k a w ⟨W2,v,hJ,S3,hk⟩; refine eV hJ ?_; clear hJ a w
 refine go0 6 [] [] ?_
 rcases (by omega:k < n∨k=n) with hlt | hke
 ·obtain ⟨x,hx⟩:∃ x,fs[k]?=some x:=⟨_,List.getElem?_eq_getElem (by omega)⟩
  obtain ⟨u,hu⟩:∃ u,vs[k]?=some u:=⟨_,List.getElem?_eq_getElem (by omega)⟩
  obtain ⟨xa,hxa⟩:∃ y,va[k]?=some y:=⟨_,List.getElem?_eq_getElem (by omega)⟩
  have hrow:=aQ hx hu
  have hra:=vlRows_get hxa
  obtain ⟨Au,nu,cu,rfl⟩:=(AllArgs.get hs (x:=x.src) (by rw [List.getElem?_map,hx]; rfl) hu).slice
  have hsn:=fcs_snoc (fs:=fs.take k) (vs:=va.take k) x xa (by simp; omega)
  rw [← nY _ k x hx,← nY _ k xa hxa] at hsn
  have hl2:=hfl k hk
  rw [List.length_take] at hl2
  have hl3:(yK (fcs (fs.take k) (va.take k))).length=(fcs (fs.take k) (va.take k)).length:=List.length_map _
  refine kV (t:=decide ((k:Int) < (n:Int))) (decide_eq_true (by omega)) ?_
  refine go0 7 [] [] ?_
  obtain ⟨b4,o5,rfl,-,c6⟩:=RS.row hr (hrow)
  refine tQ (c6.sees S3) ?_
  refine go1 7 [.ix b4 o5 n c k,.f 0 0,.own,.b 0 0] [] ?_ (ho:=(And.intro (by first | omega | (simp; omega)) (trivial)))
  intro b7
  obtain ⟨b8,o9,rfl,-,c10⟩:=RS.row ha (hra)
  refine tQ (c10.sees S3) ?_
  refine gV 11 0 [.pu,.pu,.ld 0 0,.pu,.pu,.v (fun gh=>.pointer (some ⟨b8,o9 + k * 3,none⟩)),.lf 0 0,.pu,.f (fun gh=>.slice (some ⟨(wJ (gh 8)),0,none⟩) 1 1) (fun gh hh=>Cells hh (wJ (gh 8)) 0 [.string x.name,Vi 0,Vi 0,Ve,Vi xa.k,Vi xa.n,.string xa.s]),.e (fun gh=>.slice (sA (gh 9)) (sN (gh 9)) (sC (gh 9))) 1 (fun gh=>.row (.slice (sA (gh 9)) (sN (gh 9)) (sC (gh 9))) 56 7 ((yK (fcs (fs.take k) (va.take k)))++[[.string x.name,Vi 0,Vi 0,Ve,Vi xa.k,Vi xa.n,.string xa.s]])),.pu] [(8,true),(9,false)] (And.intro (fun _ _ _ s c=>c.sees s) (trivial)) ?_ ?_
  ·intro R hT hA hmono
   refine And.intro (mY hT hA b8 o9 n c1 k (fun gh=>.pointer (some ⟨b8,o9 + k * 3,none⟩)) (by first | omega | (simp; omega))) ?_
   refine And.intro (r_fact hT hA hmono ⟨fun _ _=>by kernel_rfl,fun _ _=>by kernel_rfl,fun _ _=>by kernel_rfl⟩ 24 (fun g=>Vs g 1 1) [7] 8 (by kernel_rfl) (by kernel_rfl) (fun _=>by kernel_rfl) (fun gh=>[.string x.name,Vi 0,Vi 0,Ve,Vi xa.k,Vi xa.n,.string xa.s]) 56 (fun _ _=>by kernel_rfl) (fun gh zb zH zc zj zq zhq zhe=>own_fact (i:=8) (k:=0) (f:=fun gh hh=>Cells hh (wJ (gh 8)) 0 [.string x.name,Vi 0,Vi 0,Ve,Vi xa.k,Vi xa.n,.string xa.s]) (by kernel_rfl) (by kernel_rfl) zc zj zq zhq zhe)) ?_
   refine And.intro (kX hT hA hmono ⟨fun _ _=>by kernel_rfl,fun _ _=>by kernel_rfl,fun _ _=>by kernel_rfl⟩ 25 [0,8] 9 1 (GN R 1) (fun gh=>v) 33 56 7 (fun gh=>yK (fcs (fs.take k) (va.take k))) (fun gh=>[[.string x.name,Vi 0,Vi 0,Ve,Vi xa.k,Vi xa.n,.string xa.s]]) (.tmp 16) (.tmp 24) (fun gh=>(wJ (gh 8))) 1 1 0 8 (fun gh hh=>Cells hh (wJ (gh 8)) 0 [.string x.name,Vi 0,Vi 0,Ve,Vi xa.k,Vi xa.n,.string xa.s]) (fun _ _ c=>c) Tryz.underlying33 (zv:=.agg #[Ve,Vi 0,Vi 0,Ve,Vi 0,Vi 0,Ve]) (bytes:=80) (fun _=>by constructor <;> (simp; omega))) ?_
   trivial
  rintro b12 v25 W13 S14 ⟨f11,-⟩
  replace f11:Cells W13 b12 0 [.string x.name,Vi 0,Vi 0,Ve,Vi xa.k,Vi xa.n,.string xa.s]:=f11
  refine tQ f11 ?_
  refine go0 6 [] [(26,Vi (IntKind.i64.wrap ((k:Int) + 1)),Vi ((k:Int) + 1))] ?_ (hc:=(And.intro (jJ (by omega) (by omega)) (trivial)))
  refine xQ [(1,.slice (some ⟨b8,o9,none⟩) n c1),(9,.slice (some ⟨b4,o5,none⟩) n c),(10,Vi (n:Int)),(5,.slice (sA v25) (sN v25) (sC v25)),(11,Vi ((k:Int) + 1))] [.row (.slice (sA v25) (sN v25) (sC v25)) 56 7 ((yK (fcs (fs.take k) (va.take k)))++[[.string x.name,Vi 0,Vi 0,Ve,Vi xa.k,Vi xa.n,.string xa.s]]),.box b1 [.slice (some ⟨b4,o5,none⟩) n c,.slice B m d]] [] ?_
  exact jV (k + 1) (fun X q=>⟨W13,.slice (sA v25) (sN v25) (sC v25),q _ _ _ _ (fY (by rw [hsn,fcRows_snoc]; try rfl)),(S3.trans S14),by omega⟩) (by omega)
 ·skip
  have t1:fs.take k=fs:=by rw [hke,hn,List.take_length]
  have t2:va.take k=va:=by rw [hke,← la,List.take_length]
  rw [t1,t2]
  have hrl:(yK (fcs fs va)).length=(fcs fs va).length:=List.length_map _
  refine vQ 0 (v:=v) (e:=56) (kk:=7) (l:=yK (fcs fs va)) ?_; intro Ar cr hE_v hc_v hm_v
  rw [show (yK (fcs fs va)).length=(fcs fs va).length from by first | omega | (simp; done) | (simp; omega)] at hE_v hc_v
  rw [hE_v]
  refine uQ (t:=decide ((k:Int) < (n:Int))) (decide_eq_false (by omega)) ?_
  refine go0 2 [] [] ?_
  refine yQ ?_
  refine go0 9 [] [] ?_
  refine xQ [(4,.slice Ar ((fcs fs va).length) cr)] [.row (.slice Ar ((fcs fs va).length) cr) 56 7 (yK (fcs fs va)),.box b1 [.slice A n c,.slice B m d]] [] ?_
  refine hQ.toJ [.slice Ar ((fcs fs va).length) cr] [] (fun a w hJ=>?_)
  have fr:=hJ.j.rowOut0 (v:=.slice Ar ((fcs fs va).length) cr) (e:=56) (k:=7) (l:=yK (fcs fs va)) 0 (by kernel_rfl) rfl
  exact ⟨.slice Ar (fcs fs va).length cr,rfl,fr⟩
def passB (p:Pg) (env:Env):Bool × Bool:=if p.skip.op=0 then (false,true) else ((mK env p.skip).n == 1,(mK env p.skip).k == 2)
theorem passed_any (fs:List Fd) (ps:List Pg) (hok:OkGs fs ps) (p:Pg) (hp:p∈ps) (A:Option Addr) (n c:Nat) (v:Value) (env:Env) (sl:Value) (h:Vw) (ha:IsArgs h p.skip v) (hr:RS h 7 sl (yK env)) (hok':∀ q∈env,OkV q.2) (hl:env.length≤1000) :
  C0 Tryz.prog 24 #[.agg #[.string p.name,.slice A n c,.int .i64 p.skip.op,.int .i64 p.skip.k,.int .i64 p.skip.n,.string p.skip.s,.string p.skip.nm,v],sl] h (fun r _=>r=.tuple #[.bool (passB p env).1,.bool (passB p env).2]):=by
 obtain ⟨As,cs,rfl,-,-,-⟩:=hr.form
 rw [List.length_map] at *
 unfold passB
 rcases hok.skip p hp with g | ⟨g1,g2,g3,g4⟩
 ·obtain ⟨Av,cv,rfl⟩:=args_zero (by rw [g]; rfl) ha
  rw [g]
  refine sQ Tryz.func24 (c:=Tryz.f24.body.getD .skip) (N:=23) ?_
  intro hbx hbad Q hQ
  refine go1 23 [.own,.b 0 0,.cl 48 #[.agg #[.string p.name,.slice A n c,Vi 0,Vi 0,Vi 0,Ve,Ve,.slice Av 0 cv]] (.bool true)] [] ?_ (ho:=(And.intro (fun H sH=>never_yes _ _ _ _ _ _ _) (trivial)))
  intro b1
  refine hQ.to [.bool false,.bool true] (fun H sH=>?_)
  exact rfl
 ·obtain ⟨Av,nv,cv,rfl⟩:=ha.slice
  have hck:chkE p.skip=0:=by
   unfold fitsE ofE at g4
   by_cases e:chkE p.skip=0
   ·exact e
   ·rw [if_neg e,if_neg e] at g4; exact absurd g4 e
  have hz:(szE p.skip).1≤60:=by
   unfold chkE at hck
   split at hck
   ·cases hck
   ·omega
  have hE:=fun H q1 q2=>eval_any p.skip (.slice Av nv cv) env (.slice As env.length cs) H q1 g2 hz (chk_deep hck) q2 hok' hl
  rw [if_neg g1]
  generalize mK env p.skip=x at *
  refine sQ Tryz.func24 (c:=Tryz.f24.body.getD .skip) (N:=23) ?_
  intro hbx hbad Q hQ
  refine go2 32 [.own,.b 0 0,.cl 48 #[.agg #[.string p.name,.slice A n c,Vi p.skip.op,Vi p.skip.k,Vi p.skip.n,.string p.skip.s,.string p.skip.nm,.slice Av nv cv]] (.bool false),.b 0 2,.cl 37 #[.agg #[Vi p.skip.op,Vi p.skip.k,Vi p.skip.n,.string p.skip.s,.string p.skip.nm,.slice Av nv cv],.slice As env.length cs] (.tuple #[.agg #[Vi x.k,Vi x.n,.string x.s],Vi 0]),.own,.b 0 0] [] ?_ (ho:=(And.intro (fun H sH=>never_no _ _ _ _ _ _ _ _ _ g1) (And.intro (fun H sH=>hE _ (ha.sees sH) (hr.sees sH)) (trivial))))
  intro b1 b2
  refine gV 8 0 [.pu,.ld 0 1,.pu,.pu,.ld 0 0,.pu,.pu,.pu] [] (trivial) ?_ ?_
  ·intros; trivial
  rintro W3 S4 -
  refine go0 2 [] [] ?_
  refine hQ.to [.bool (x.n == 1),.bool (x.k == 2)] (fun H sH=>?_)
  exact rfl
def ClO (n:Nat) (l:List Int) (v u:Value) (r:List (List Value)) (h:Vw):Prop:=v=u∧(∃ A c,u=.slice A n c)∧r=sX l
theorem clone_own {h:Vw} {v:Value} {l:List Int} {n:Nat} (hr:RS h 1 v (sX l)) (hn:l.length=n) (hl:n≤1000000):C0 Tryz.prog 23 #[v] h (fun v h'=>∃ u r,Ent.ok h.w.heap.size h'.w (.row u 3 1 r)∧ClO n l v u r ⟨h'.w,u.ownBlock.toList++h'.bad⟩):=by
 intro a1 a2 a3 a4
 refine (c_cloneI hr (by omega) a1 a2 a3 a4).mono ?_
 rintro en w' ⟨v,Bo,h1,h2,h3,h4,r,h5,-,rfl⟩
 obtain ⟨A,c,e,-,-⟩:=uX h5
 exact ⟨v,Bo,h1,h2,h3,h4,v,_,h5,rfl,⟨A,c,by rw [e,List.length_map,hn]⟩,rfl⟩
def passAt (ps:List Pg) (env:Env) (j:Nat):Bool × Bool:=match ps[j]? with
 | some p=>passB p env
 | none=>(false,true)
theorem passAt_eq {ps:List Pg} {env:Env} {j:Nat} {p:Pg} (h:ps[j]?=some p):passAt ps env j=passB p env:=by unfold passAt; rw [h]
def NextX (m:Nat) (path:List Int) (t:Nat) (pass:Nat→Bool × Bool) (ln:List ByteArray) (r:Value) (h:Vw):Prop :=
 (∃ (a:Nat) (u:Value),r=.tuple #[.agg #[.int .i64 (a:Int),.slice (sA u) (sN u) (sC u),.bool ((a:Int) == (m:Int))],.int .i64 0]∧ln=[]∧t < a∧a≤m∧RS h 1 (.slice (sA u) (sN u) (sC u)) (sX (path++[(t:Int)]))∧(∀ j,t < j→j < a→pass j=(true,true))∧(a < m→pass a=(false,true))) ∨
 (r=.tuple #[.agg #[.int .i64 0,.slice none 0 0,.bool false],.int .i64 11]∧(ln≠[]∨∃ k,t < k∧k < m∧(∀ j,t < j→j < k→pass j=(true,true))∧(pass k).2=false))
set_option maxHeartbeats 8000000 in
theorem next_x (f:Fm) (ρ:List Int) (lv:Nat→Nat) (A:Option Addr) (n c:Nat) (B:Option Addr) (m d:Nat) (va:List Vl) (A1:Option Addr) (c1:Nat) (path:List Int) (A2:Option Addr) (c2:Nat) (t:Nat) (h:Vw) (hok:OkFm f ρ lv) (hf:IsForm h (.slice A n c) (.slice B m d) f) (hn:n=f.fields.length) (hm:m=f.pages.length)
  (hv:RS h 3 (.slice A1 n c1) (qY va)) (la:va.length=n) (ov:∀ x∈va,OkV x) (hp:RS h 1 (.slice A2 path.length c2) (sX path)) (lp:path.length≤90) (pk:PathOk (path++[(t:Int)]) m) :
  C0 Tryz.prog 7 #[.agg #[.slice A n c,.slice B m d],.slice A1 n c1,.agg #[.int .i64 (t:Int),.slice A2 path.length c2,.bool ((t:Int) == (m:Int))]] h (fun r h'=>(t=m∧r=.tuple #[.agg #[.int .i64 0,.slice none 0 0,.bool false],.int .i64 13])∨(∃ p,f.pages[t]?=some p∧NextX m path t (passAt f.pages (fcs f.fields va)) (wV f.fields va p.fields) r h')):=by
 have hC:=fun H q1 q2 q3=>navCheck_any f ρ lv A n c B m d va A1 c1 path A2 c2 (t:Int) H hok q1 hn hm q2 la ov q3 (by omega) pk
 have few:=hok.fields.few
 have mfew:=hok.pages.few
 have a1:=pk.hi (t:Int) (by simp)
 have hcl:=fun H (q:RS H 1 (.slice A2 path.length c2) (sX path))=>c_cloneI q (by omega)
 have hcl2:=fun v H (q:RS H 1 v (sX (path++[(t:Int)])))=>clone_own (n:=path.length + 1) q (by simp) (by omega)
 have hFa:=fun H q1 q2=>navFacts_l f.fields va A n c B m d A1 c1 H q1 hn (by omega) q2 la
 have henv:∀ q∈fcs f.fields va,OkV q.2:=fcs_ok ov
 have hel:(fcs f.fields va).length≤1000:=by rw [fcs_len (by omega)]; omega
 have hpa:=fun p (q:p∈f.pages) A n c v sl H q1 q2=>passed_any f.fields f.pages hok.pages p q A n c v (fcs f.fields va) sl H q1 q2 henv hel
 have hpl:(sX path).length=path.length:=List.length_map _
 have hrw:sX path++[[.int .i64 (t:Int)]]=sX (path++[(t:Int)]):=by simp [sX]
 have hll:(path++[(t:Int)]).length=path.length + 1:=by simp
 obtain ⟨us,ws,B2,d2,e2,-,hpr,hps,hpg,-,-⟩:=pgs_open hf.pages
 simp only [Value.slice.injEq] at e2
 obtain ⟨rfl,-,rfl⟩:=e2
 rw [← hm] at hpr
 generalize fcs f.fields va=env at *
 generalize hnp:path.length=np at *
 refine sQ Tryz.func7 (c:=Tryz.f7.body.getD .skip) (N:=88) ?_
 intro hbx hbad Q hQ
 refine go3 34 [.own,.own,.own,.b 2 0,.b 1 0,.cl 19 #[.agg #[.slice A n c,.slice B m d],.slice A1 n c1,.agg #[Vi (t:Int),.slice A2 np c2,.bool ((t:Int) == (m:Int))]] (Vi 0),.b 1 2] [] ?_ (ho:=(And.intro (fun H sH=>hC _ (hf.sees sH) (hv.sees sH) (hp.sees sH)) (trivial)))
 intro b1 b2 b3
 by_cases g:(t:Int)=(m:Int)
 ·refine kV (t:=(t:Int) == (m:Int)) (beq_iff_eq.2 g) ?_
  refine go0 9 [.b 0 0] [] ?_
  refine hQ.to [.agg #[Vi 0,Vz,.bool false],Vi 13] (fun H sH=>?_) (ix:=[0])
  exact .inl ⟨by omega,rfl⟩
 ·skip
  obtain ⟨p,hpt⟩:∃ p,f.pages[t]?=some p:=⟨_,List.getElem?_eq_getElem (by omega)⟩
  have hpa3:=fun k p2 (q:f.pages[k]?=some p2)=>passAt_eq (env:=env) q
  generalize passAt f.pages env=pass at *
  have hL:=fun H q1 q2=>navLacks_any f ρ lv A n c B m d va A1 c1 t p H hok q1 hn hm q2 la ov hpt
  generalize hln:wV f.fields va p.fields=ln at *
  refine uQ (t:=(t:Int) == (m:Int)) (beq_eq_false_iff_ne.2 g) ?_
  refine go0 9 [.b 2 0,.b 1 0] [] ?_
  refine pQ (fun H sH=>hL _ (hf.sees sH) (hv.sees sH)) ?_; rintro _ W4 S5 ⟨A5,c5,rfl,hr5⟩
  refine go0 14 [] [] ?_
  rcases Nat.eq_zero_or_pos ln.length with hl0 | hl0
  ·skip
   refine uQ (t:=decide ((ln.length:Int) > 0)) (decide_eq_false (by omega)) ?_
   refine go0 3 [] [] ?_
   refine gV 13 2 [.pu,.ld 3 0,.v (fun gh=>Vi ((t:Int) + 1)),.pu,.ld 3 1,.e (fun gh=>.slice (sA (gh 5)) (sN (gh 5)) (sC (gh 5))) 0 (fun gh=>.row (.slice (sA (gh 5)) (sN (gh 5)) (sC (gh 5))) 3 1 (sX path)),.pu,.ld 3 0,.f (fun gh=>.slice (some ⟨(wJ (gh 8)),0,none⟩) 1 1) (fun gh hh=>Cells hh (wJ (gh 8)) 0 [Vi (t:Int)]),.e (fun gh=>.slice (sA (gh 9)) (sN (gh 9)) (sC (gh 9))) 0 (fun gh=>.row (.slice (sA (gh 9)) (sN (gh 9)) (sC (gh 9))) 3 1 ((sX path)++[[Vi (t:Int)]])),.pu,.al 1,.st 1 0] [(5,false),(8,true),(9,false),(11,true)] (And.intro (fun _ _ _ s c=>c.sees s) (trivial)) ?_ ?_
   ·intro R hT hA hmono
    refine And.intro (t_eq hT hA (fun gh=>Vi ((t:Int) + 1)) (fun gh=>Vi (IntKind.i64.wrap ((t:Int) + 1))) (fun gh=>jJ (by omega) (by omega))) ?_
    refine And.intro (r_callown hT hA hmono ⟨fun _ _=>by kernel_rfl,fun _ _=>by kernel_rfl,fun _ _=>by kernel_rfl⟩ (by kernel_rfl) 42 (fun u=>.slice (sA u) (sN u) (sC u)) [4] 5 (by kernel_rfl) (fun _=>by kernel_rfl) 0 (GN R 0) (by kernel_rfl) (by kernel_rfl) (by kernel_rfl) 3 1 (fun gh=>sX path) (fun _=>by kernel_rfl) (fun _=>by kernel_rfl) (fun _ _=>rfl) 23 (fun gh=>#[.slice A2 np c2]) (fun _ _=>by kernel_rfl) (fun gh H sH fH=>hcl _ (hp.sees (S5.trans sH)))) ?_
    refine And.intro (r_fact hT hA hmono ⟨fun _ _=>by kernel_rfl,fun _ _=>by kernel_rfl,fun _ _=>by kernel_rfl⟩ 45 (fun g=>Vs g 1 1) [7] 8 (by kernel_rfl) (by kernel_rfl) (fun _=>by kernel_rfl) (fun gh=>[Vi (t:Int)]) 3 (fun _ _=>by kernel_rfl) (fun gh zb zH zc zj zq zhq zhe=>own_fact (i:=8) (k:=0) (f:=fun gh hh=>Cells hh (wJ (gh 8)) 0 [Vi (t:Int)]) (by kernel_rfl) (by kernel_rfl) zc zj zq zhq zhe)) ?_
    refine And.intro (kX hT hA hmono ⟨fun _ _=>by kernel_rfl,fun _ _=>by kernel_rfl,fun _ _=>by kernel_rfl⟩ 46 [5,8] 9 0 (GN R 0) (fun gh=>.slice (sA (gh 5)) (sN (gh 5)) (sC (gh 5))) 30 3 1 (fun gh=>sX path) (fun gh=>[[Vi (t:Int)]]) (.tmp 42) (.tmp 45) (fun gh=>(wJ (gh 8))) 1 1 0 8 (fun gh hh=>Cells hh (wJ (gh 8)) 0 [Vi (t:Int)]) (fun _ _ c=>c) Tryz.underlying30 (zv:=Vi 0) (bytes:=8) (fun _=>by constructor <;> (simp; omega))) ?_
    trivial
   rintro u42 b7 v46 bwk W8 S9 ⟨f6,-⟩
   replace f6:Cells W8 b7 0 [Vi (t:Int)]:=f6
   refine tQ f6 ?_
   refine go0 3 [] [] ?_
   refine xQ [(1,.slice A1 n c1),(3,Vp b1),(6,Vp b3),(11,Vp bwk)] [.row (.slice (sA v46) (sN v46) (sC v46)) 3 1 ((sX path)++[[Vi (t:Int)]]),.box bwk [Vi ((t:Int) + 1),.slice (sA v46) (sN v46) (sC v46),.bool false],.box b3 [Vi 0,Vz,.bool false],.box b2 [Vi (t:Int),.slice A2 np c2,.bool ((t:Int) == (m:Int))],.box b1 [.slice A n c,.slice B m d]] [(b7,0,[Vi (t:Int)])] ?_
   rw [hrw]
   have hlr:(sX (path++[(t:Int)])).length=(path++[(t:Int)]).length:=List.length_map _
   refine vQ 0 (v:=.slice (sA v46) (sN v46) (sC v46)) (e:=3) (kk:=1) (l:=sX (path++[(t:Int)])) ?_; intro Ap cp hE_v46 hc_v46 hm_v46
   rw [show (sX (path++[(t:Int)])).length=(np + 1) from by first | omega | (simp; done) | (simp; omega)] at hE_v46 hc_v46
   rw [hE_v46]
   refine wQ 0 (v:=.slice Ap (np + 1) cp) (e:=3) (kk:=1) (l:=sX (path++[(t:Int)])) ?_; intro W10 S11 fr
   refine zQ [0,0,1,1,1,1,1] [.block 0,.seq [1,1,1,1,1,1]] (fun (ka:Nat) X=>∃ (W12:Vw) ,X W12 [(1,.slice A1 n c1),(3,Vp b1),(6,Vp b3),(11,Vp bwk)] [.box bwk [Vi (ka:Int),.slice Ap (np + 1) cp,.bool false],.box b3 [Vi 0,Vz,.bool false],.box b2 [Vi (t:Int),.slice A2 np c2,.bool ((t:Int) == (m:Int))],.box b1 [.slice A n c,.slice B m d]] [(b7,0,[Vi (t:Int)])]∧Sees W10 W12∧(t < ka)∧(ka≤m)∧(∀ j,t < j→j < ka→pass j=(true,true))) (fun ka=>m - ka) (t + 1) (fun X q=>⟨W10,q _ _ _ _ ⟨rfl,by kernel_rfl⟩,Sees.refl _,Nat.lt_succ_self t,by omega,fun j q1 q2=>by omega⟩) ?_
   rintro ka a w ⟨W12,hJ,S13,ha1,ha2,hps1⟩; refine eV hJ ?_; clear hJ a w
   refine go0 11 [.b 0 0,.b 3 1] [] ?_
   rcases (by omega:ka < m∨ka=m) with hlt | hke
   ·obtain ⟨p2,hp2⟩:∃ p,f.pages[ka]?=some p:=⟨_,List.getElem?_eq_getElem (by omega)⟩
    obtain ⟨Au,cu,Bu,mu,du,hprow,hrs,harg⟩:=pg_at hps hpg hp2
    have hpa2:=fun A n c v sl H q1 q2=>hpa p2 (List.mem_of_getElem? hp2) A n c v sl H q1 q2
    have hpk:pass ka=((passB p2 env).1,(passB p2 env).2):=hpa3 ka p2 hp2
    generalize (passB p2 env).1=w1 at *
    generalize (passB p2 env).2=w2 at *
    refine kV (t:=decide ((ka:Int) < (m:Int))) (decide_eq_true (by omega)) ?_
    refine go0 5 [] [] ?_
    obtain ⟨b14,o15,rfl,-,c16⟩:=RS.row hpr (hprow)
    refine tQ (c16.sees (S5.trans (S9.trans (S11.trans S13)))) ?_
    refine gV 15 0 [.pu,.ld 3 1,.pu,.ld 0 0,.v (fun gh=>.pointer (some ⟨b14,o15 + ka * 8,none⟩)),.lf 0 0,.ld 3 0,.pu,.f (fun gh=>.slice (sA (gh 8)) (sN (gh 8)) (sC (gh 8))) (fun gh hh=>RS hh 7 (.slice (sA (gh 8)) (sN (gh 8)) (sC (gh 8))) (yK env)),.v (fun gh=>.tuple #[.bool w1,.bool w2]),.pu,.pu,.pu,.pu,.pu] [(8,false)] (And.intro (fun _ _ _ s c=>c.sees s) (trivial)) ?_ ?_
    ·intro R hT hA hmono
     refine And.intro (mY hT hA b14 o15 m d ka (fun gh=>.pointer (some ⟨b14,o15 + ka * 8,none⟩)) (by first | omega | (simp; omega))) ?_
     refine And.intro (r_call hT hA hmono ⟨fun _ _=>by kernel_rfl,fun _ _=>by kernel_rfl,fun _ _=>by kernel_rfl⟩ 67 (fun u=>.slice (sA u) (sN u) (sC u)) [6,7] 8 (by kernel_rfl) (by kernel_rfl) (fun _=>by kernel_rfl) 25 (fun gh=>#[.agg #[.slice A n c,.slice (some ⟨b14,o15,none⟩) m d],.slice A1 n c1]) (fun _ _=>by kernel_rfl) (fun gh H sH fH lent=>C0.facts (R:=R) (x:=gh) (i:=8) (n:=0) (F:=(fun u=>.slice (sA u) (sN u) (sC u))) (G:=fun u hh=>RS hh 7 (.slice (sA u) (sN u) (sC u)) (yK env)) (f:=fun gh hh=>RS hh 7 (.slice (sA (gh 8)) (sN (gh 8)) (sC (gh 8))) (yK env)) (hFa _ ((hf.sees (S5.trans (S9.trans (S11.trans (S13.trans sH)))))).fields (hv.sees (S5.trans (S9.trans (S11.trans (S13.trans sH)))))) (by kernel_rfl) (by kernel_rfl) (fun _ _ r=>r))) ?_
     refine And.intro (t_v hT hA hmono (k:=24) (args:=(fun gh=>#[.agg #[.string p2.name,.slice Au p2.fields.length cu,Vi p2.skip.op,Vi p2.skip.k,Vi p2.skip.n,.string p2.skip.s,.string p2.skip.nm,.slice Bu mu du],.slice (sA (gh 8)) (sN (gh 8)) (sC (gh 8))])) (f:=fun gh=>.tuple #[.bool w1,.bool w2]) (fun gh H sH fH lent=>hpa2 _ _ _ _ _ _ (harg.sees (S5.trans (S9.trans (S11.trans (S13.trans sH))))) (fH 0 _ rfl (by kernel_rfl)))) ?_
     trivial
    rintro u67 W17 S18 ⟨f67,-⟩
    replace f67:RS W17 7 (.slice (sA u67) (sN u67) (sC u67)) (yK env):=f67
    refine go0 8 [] [] ?_
    rcases Bool.eq_false_or_eq_true w2 with g2 | g2
    ·refine uQ (t := !w2) ((by rw [g2]; rfl)) ?_
     refine go0 8 [] [] ?_
     rcases Bool.eq_false_or_eq_true w1 with g1 | g1
     ·refine uQ (t := !w1) ((by rw [g1]; rfl)) ?_
      refine go0 10 [.b 0 0,.b 0 0] [(56,Vi (IntKind.i64.wrap ((ka:Int) + 1)),Vi ((ka:Int) + 1))] ?_ (hc:=(And.intro (jJ (by omega) (by omega)) (trivial)))
      exact jV (ka + 1) (fun X q=>⟨W17,q _ _ _ _ ⟨rfl,by kernel_rfl⟩,(S13.trans S18),by omega,by omega,fun j q1 q2=>(by rcases (by omega:j < ka∨j=ka) with q | q; exact hps1 j q1 q; rw [q,hpk,g1,g2])⟩) (by omega)
     ·skip
      refine kV (t := !w1) ((by rw [g1]; rfl)) ?_
      refine go0 3 [] [] ?_
      refine yQ ?_
      refine go0 18 [.b 0 0,.b 3 1,.b 0 2,.b 0 1] [] ?_
      refine g_callown (e:=3) (kk:=1) (fun a w hJ=>hcl2 _ _ (fr.sees (S13.trans (S18.trans hJ.j.sees)))) ?_; rintro _ _ _ W19 S20 ⟨rfl,⟨A9,c9,rfl⟩,rfl⟩
      refine go0 12 [.b 1 1,.b 1 0,.b 2 0] [] ?_
      refine wQ 0 (v:=.slice A9 (np + 1) c9) (e:=3) (kk:=1) (l:=sX (path++[(t:Int)])) ?_; intro W21 S22 f9
      refine hQ.to [.agg #[Vi (ka:Int),.slice A9 (np + 1) c9,.bool ((ka:Int) == (m:Int))],Vi 0] (fun H sH=>?_) (ix:=[1])
      exact .inr ⟨p,hpt,.inl ⟨ka,.slice A9 (np + 1) c9,rfl,hln.trans (List.length_eq_zero_iff.1 hl0),by omega,by omega,(f9.sees sH),hps1,fun _=>by rw [hpk,g1,g2]⟩⟩
    ·skip
     refine kV (t := !w2) ((by rw [g2]; rfl)) ?_
     refine go0 11 [.b 1 0] [] ?_
     refine yQ ?_
     refine go0 2 [] [] ?_
     refine hQ.to [.agg #[Vi 0,Vz,.bool false],Vi 11] (fun H sH=>?_) (ix:=[1])
     exact .inr ⟨p,hpt,.inr ⟨rfl,.inr ⟨ka,by omega,by omega,hps1,by rw [hpk]; exact g2⟩⟩⟩
   ·skip
    refine uQ (t:=decide ((ka:Int) < (m:Int))) (decide_eq_false (by omega)) ?_
    refine go0 2 [] [] ?_
    refine yQ ?_
    refine go0 18 [.b 0 0,.b 3 1,.b 0 2,.b 0 1] [] ?_
    refine g_callown (e:=3) (kk:=1) (fun a w hJ=>hcl2 _ _ (fr.sees (S13.trans hJ.j.sees))) ?_; rintro _ _ _ W23 S24 ⟨rfl,⟨A9,c9,rfl⟩,rfl⟩
    refine go0 12 [.b 1 1,.b 1 0,.b 2 0] [] ?_
    refine wQ 0 (v:=.slice A9 (np + 1) c9) (e:=3) (kk:=1) (l:=sX (path++[(t:Int)])) ?_; intro W25 S26 f9
    refine hQ.to [.agg #[Vi (ka:Int),.slice A9 (np + 1) c9,.bool ((ka:Int) == (m:Int))],Vi 0] (fun H sH=>?_) (ix:=[1])
    exact .inr ⟨p,hpt,.inl ⟨ka,.slice A9 (np + 1) c9,rfl,hln.trans (List.length_eq_zero_iff.1 hl0),by omega,by omega,(f9.sees sH),hps1,fun q=>by omega⟩⟩
  ·skip
   refine kV (t:=decide ((ln.length:Int) > 0)) (decide_eq_true (by omega)) ?_
   refine go0 9 [.b 0 0] [] ?_
   refine hQ.to [.agg #[Vi 0,Vz,.bool false],Vi 11] (fun H sH=>?_) (ix:=[0])
   exact .inr ⟨p,hpt,.inr ⟨rfl,.inl fun q=>by rw [hln] at q; rw [q] at hl0; exact absurd hl0 (by decide)⟩⟩
theorem filled_any (l m:List RawD) (sl sm:Value) (h:Vw) (hl:RS h 4 sl (l.map RawD.cs)) (hm:RS h 4 sm (m.map RawD.cs)) (ll:l.length * 40≤reachBytes) (lm:m.length * 40≤reachBytes) (ol:∀ r∈l,r.ok) (om:∀ r∈m,r.ok) :
  C0 Tryz.prog 5 #[sl,sm] h (fun r h'=>∃ A c B d A2 c2,r=.tuple #[.agg #[.slice A (kQ l).fields.length c,.slice B (kQ l).pages.length d],.slice A2 (kQ l).fields.length c2,.bool true]∧IsForm h' (.slice A (kQ l).fields.length c) (.slice B (kQ l).pages.length d) (kQ l)∧RS h' 3 (.slice A2 (kQ l).fields.length c2) (qY (allF l m (orcF l m)))):=by
 have hF:=form_c l sl
 have hlen:=lQ l
 have hnl:=gW l
 have hty:=form_ty l
 have hOr:=oracle_form l m
 have hol:=orcF_len l m
 have hA:=all_orc l m (orcF l m) (orcF_ok l m) (by omega)
 have hfew:=(inp_ok l m).few
 generalize allF l m (orcF l m)=va at *
 generalize orcF l m=orc at *
 generalize kQ l=fm at *
 have hin:=fun H fv pv q1 q2 q3=>inputs_any fm.fields pv fv m sm H q1 q2 (by omega) hty q3 lm om
 generalize inpE fm.fields m=env at *
 have erl:(yK env).length=env.length:=List.length_map _
 obtain ⟨A0,c0,rfl,-,-,-⟩:=hl.form
 obtain ⟨A1,c1,rfl,-,-,-⟩:=hm.form
 rw [List.length_map] at *
 rw [List.length_map] at *
 generalize hN:fm.fields.length=N at *
 generalize hNo:orc.length=No at *
 refine sQ Tryz.func5 (c:=Tryz.f5.body.getD .skip) (N:=41) ?_
 intro hbx hbad Q hQ
 refine go1 10 [.own] [] ?_
 intro b1
 refine pQ (fun H sH=>hF _ (hl.sees sH) ll ol) ?_; rintro _ W2 S3 ⟨A,c,B,d,rfl,hfm⟩
 refine go1 8 [.own,.b 0 0,.b 0 0] [] ?_
 intro b4
 refine g_callrow (fun H sH=>hin _ _ (.slice B fm.pages.length d) ((hfm.sees sH)).fields rfl (hm.sees (S3.trans sH))) ?_; rintro v _ rfl
 refine go0 7 [.b 1 0] [] ?_
 refine vQ 0 (v:=v) (e:=56) (kk:=7) (l:=yK env) ?_; intro Av cv hE_v hc_v hm_v
 rw [show (yK env).length=env.length from by first | omega | (simp; done) | (simp; omega)] at hE_v hc_v
 rw [hE_v]
 refine wQ 0 (v:=.slice Av env.length cv) (e:=56) (kk:=7) (l:=yK env) ?_; intro W5 S6 fin
 refine pQ (fun H sH=>hOr _ _ _ _ _ _ (hfm.sees (S6.trans sH)) (fin.sees sH)) ?_; rintro _ W7 S8 ⟨Ao,co,rfl,hro⟩
 refine go0 12 [.b 0 0] [] ?_
 refine pQ (fun H sH=>hA _ _ _ _ _ _ _ (hfm.sees (S6.trans (S8.trans sH))) (fin.sees (S8.trans sH)) (hro.sees sH)) ?_; rintro _ W9 S10 ⟨A2,c2,rfl,hva2⟩
 refine go0 8 [] [] ?_
 refine gV 13 0 [.ld 0 0,.pu,.pu,.pu,.pu,.pu,.pu,.pu,.v (fun gh=>.bool true),.pu,.st 1 0,.pu,.pu] [] (trivial) ?_ ?_
 ·intro R hT hA hmono
  refine And.intro (t_v hT hA hmono (k:=18) (args:=(fun gh=>#[])) (f:=fun gh=>.bool true) (fun gh H sH fH lent=>known_any _)) ?_
  trivial
 rintro W11 S12 -
 refine go0 2 [] [] ?_
 refine hQ.to [.agg #[.slice A N c,.slice B fm.pages.length d],.slice A2 N c2,.bool true] (fun H sH=>?_) (ix:=[1])
 exact ⟨A,c,B,d,A2,c2,rfl,(hfm.sees (S6.trans (S8.trans (S10.trans (S12.trans sH))))),(hva2.sees (S12.trans sH))⟩
end Go.Proofs.YtmoahpojchndiaaGreatDoor
