/-
  Contracts of package nav: Next, Back; of the laws' filled.
-/
import Derived.Test.YthplkompdehjlaaGreatPR47
set_option maxHeartbeats 8000000
set_option maxRecDepth 100000
namespace Go.Proofs.YthplkompdehjlaaGreat
open Go.RowKit
set_option linter.unusedVariables false
theorem navFacts_l (fs:List Fd) (va:List Vl) (A:Option Addr) (n c:Nat) (B:Option Addr) (m d:Nat) (A1:Option Addr) (c1:Nat) (h:Vw) (hf:IsFds h (.slice A n c) fs) (hn:n=fs.length) (few:n <= 1000) (ha:RS h 3 (.slice A1 n c1) (zZ va)) (la:va.length=n) :
  C0 Tryz.prog 111 #[.agg #[.slice A n c,.slice B m d],.slice A1 n c1] h (λr h'=>∃ u,r=sL u /\ RS h' 7 (sL u) (cQ (fcs fs va))):=by
 obtain ⟨vs,A',c',e,-,-,hr,hs,hvl,hsl⟩:=gQ hf;simp only [Jk] at e;obtain ⟨rfl,-,rfl⟩:=e;rw [<- hn] at hr hvl;have hfl:=λk (q:k <= n)=>fcs_len (fs:=fs.take k) (v:=va.take k) (by simp; omega);refine wQ Tryz.func111 (c:=Tryz.f111.body.getD .skip) (N:=28) ?_;intro hbx hbad Q hQ;refine go1 21 [.own,.b 0 0] [] ?_;intro b1;refine iV 47 7 ?_;refine eV [0,1,0,1,1] [.block 0,.seq [1,1,1]] (λ(k:Nat) X=>∃ (W2:Vw) (v:Value),X W2 [(1,.slice A1 n c1),(9,.slice A n c),(10,Vi (n:Int)),(11,Vi (k:Int)),(5,v)] [.row v 47 7 (cQ (fcs (fs.take k) (va.take k))),.box b1 [.slice A n c,.slice B m d]] [] /\ Sees h W2 /\ (k <= n)) (λk=>n - k) (0) (λX q=>⟨h,(Vz),q _ _ _ _ ⟨rfl,by kernel_rfl⟩,Sees.refl _,Kj _⟩) ?_;rintro k a w ⟨W2,v,hJ,S3,hk⟩; refine jV hJ ?_; clear hJ a w;refine go0 6 [] [] ?_;rcases (by omega:k < n\/k=n) with hlt | hke
 ·obtain ⟨x,hx⟩:∃ x,fs[k]?=some x:=⟨_,Gj (by omega)⟩;obtain ⟨u,hu⟩:∃ u,vs[k]?=some u:=⟨_,Gj (by omega)⟩;obtain ⟨xa,hxa⟩:∃ y,va[k]?=some y:=⟨_,Gj (by omega)⟩;have hrow:=eQ hx hu;have hra:=vlRows_get hxa;obtain ⟨Au,nu,cu,rfl⟩:=(AllArgs.get hs (x:=x.src) (by rw [Nj,hx]; rfl) hu).slice;have hsn:=fcs_snoc (fs:=fs.take k) (vs:=va.take k) x xa (by simp; omega);rw [<- qZ _ k x hx, <- qZ _ k xa hxa] at hsn;have hl2:=hfl k hk;rw [Uj] at hl2;have hl3:(cQ (fcs (fs.take k) (va.take k))).length=(fcs (fs.take k) (va.take k)).length:=Hj _;refine oV (t:=decide ((k:Int) < (n:Int))) (Mj (by omega)) ?_;refine go0 7 [] [] ?_;obtain ⟨b4,o5,rfl,-,c6⟩:=RS.row hr (hrow);refine xQ (c6.sees S3) ?_;refine go1 7 [.ix b4 o5 n c k,.f 0 0,.own,.b 0 0] [] ?_ (ho:=(Aj (by first | omega | (simp; omega)) (trivial)));intro b7;obtain ⟨b8,o9,rfl,-,c10⟩:=RS.row ha (hra);refine xQ (c10.sees S3) ?_;refine lV 11 0 [.pu,.pu,.ld 0 0,.pu,.pu,.v (λgh=>.pointer (some ⟨b8,o9 + k * 3,none⟩)),.lf 0 0,.pu,.f (λgh=>.slice (some ⟨(wJ (gh 8)),0,none⟩) 1 1) (λgh hh=>Cells hh (wJ (gh 8)) 0 [Vt x.name,Vi 0,Vi 0,Ve,Vi xa.k,Vi xa.n,.string xa.s]),.e (λgh=>sL (gh 9)) 1 (λgh=>.row (sL (gh 9)) 47 7 ((cQ (fcs (fs.take k) (va.take k)))++[[Vt x.name,Vi 0,Vi 0,Ve,Vi xa.k,Vi xa.n,.string xa.s]])),.pu] [(8,true),(9,false)] (Aj (λ_ _ _ s c=>c.sees s) (trivial)) ?_ ?_
  ·intro R hT hA hmono;refine Aj (pZ hT hA b8 o9 n c1 k (λgh=>.pointer (some ⟨b8,o9 + k * 3,none⟩)) (by first | omega | (simp; omega))) ?_;refine Aj (jY hT hA hmono ⟨λ_ _=>by kernel_rfl,λ_ _=>by kernel_rfl,λ_ _=>by kernel_rfl⟩ 24 (λg=>Vs g 1 1) [7] 8 (λgh=>[Vt x.name,Vi 0,Vi 0,Ve,Vi xa.k,Vi xa.n,.string xa.s]) 47 (λgh zb zH zc zj zq zhq zhe=>pX (i:=8) (k:=0) (f:=λgh hh=>Cells hh (wJ (gh 8)) 0 [Vt x.name,Vi 0,Vi 0,Ve,Vi xa.k,Vi xa.n,.string xa.s]) (by kernel_rfl) (by kernel_rfl) zc zj zq zhq zhe)) ?_;refine Aj (fY hT hA hmono ⟨λ_ _=>by kernel_rfl,λ_ _=>by kernel_rfl,λ_ _=>by kernel_rfl⟩ 25 [0,8] 9 1 (GN R 1) (λgh=>v) 31 47 7 (λgh=>cQ (fcs (fs.take k) (va.take k))) (λgh=>[[Vt x.name,Vi 0,Vi 0,Ve,Vi xa.k,Vi xa.n,.string xa.s]]) (.tmp 16) (.tmp 24) (λgh=>(wJ (gh 8))) 1 1 0 8 (λgh hh=>Cells hh (wJ (gh 8)) 0 [Vt x.name,Vi 0,Vi 0,Ve,Vi xa.k,Vi xa.n,.string xa.s]) (λ_ _ c=>c) Tryz.underlying31 (zv:=.agg #[Ve,Vi 0,Vi 0,Ve,Vi 0,Vi 0,Ve]) (bytes:=80) (λ_=>by constructor <;> (simp; omega))) ?_
   trivial
  rintro b12 v25 W13 S14 ⟨f11,-⟩;replace f11:Cells W13 b12 0 [Vt x.name,Vi 0,Vi 0,Ve,Vi xa.k,Vi xa.n,.string xa.s]:=f11;refine xQ f11 ?_;refine go0 6 [] [(26,Vi (IntKind.i64.wrap ((k:Int) + 1)),Vi ((k:Int) + 1))] ?_ (hc:=(Aj (jJ (by omega) (by omega)) (trivial)));refine cV [(1,.slice (some ⟨b8,o9,none⟩) n c1),(9,.slice (some ⟨b4,o5,none⟩) n c),(10,Vi (n:Int)),(5,sL v25),(11,Vi ((k:Int) + 1))] [.row (sL v25) 47 7 ((cQ (fcs (fs.take k) (va.take k)))++[[Vt x.name,Vi 0,Vi 0,Ve,Vi xa.k,Vi xa.n,.string xa.s]]),.box b1 [.slice (some ⟨b4,o5,none⟩) n c,.slice B m d]] [] ?_;exact nV (k + 1) (λX q=>⟨W13,sL v25,q _ _ _ _ (aZ (by rw [hsn,fcRows_snoc]; try rfl)),(S3.trans S14),by omega⟩) (by omega)
 ·skip;have t1:fs.take k=fs:=by rw [hke,hn,Ik]
  have t2:va.take k=va:=by rw [hke, <- la,Ik]
  rw [t1,t2];have hrl:(cQ (fcs fs va)).length=(fcs fs va).length:=Hj _;refine zQ 0 (v:=v) (e:=47) (kk:=7) (l:=cQ (fcs fs va)) ?_; intro Ar cr hE_v hc_v hm_v;rw [show (cQ (fcs fs va)).length=(fcs fs va).length from by first | omega | (simp; done) | (simp; omega)] at hE_v hc_v;rw [hE_v];refine yQ (t:=decide ((k:Int) < (n:Int))) (Jj (by omega)) ?_;refine go0 2 [] [] ?_;refine dV ?_;refine go0 9 [] [] ?_;refine cV [(4,.slice Ar ((fcs fs va).length) cr)] [.row (.slice Ar ((fcs fs va).length) cr) 47 7 (cQ (fcs fs va)),.box b1 [.slice A n c,.slice B m d]] [] ?_;refine hQ.toJ [.slice Ar ((fcs fs va).length) cr] [] (λa w hJ=>?_);have fr:=hJ.j.rowOut0 (v:=.slice Ar ((fcs fs va).length) cr) (e:=47) (k:=7) (l:=cQ (fcs fs va)) 0 (by kernel_rfl) rfl;exact ⟨.slice Ar (fcs fs va).length cr,rfl,fr⟩
def passB (p:Pg) (env:Env):Bool × Bool:=if p.skip.op=0 then (false,true) else ((rK env p.skip).n == 1,(rK env p.skip).k == 2)
theorem passed_any (fs:List Fd) (ps:List Pg) (hok:OkGs fs ps) (p:Pg) (hp:p∈ps) (A:Option Addr) (n c:Nat) (v:Value) (env:Env) (sl:Value) (h:Vw) (ha:IsArgs h p.skip v) (hr:RS h 7 sl (cQ env)) (hok':∀ q∈env,OkV q.2) (hl:env.length <= 1000) :
  C0 Tryz.prog 110 #[.agg #[Vt p.name,.slice A n c,Vi p.skip.op,Vi p.skip.k,Vi p.skip.n,.string p.skip.s,.string p.skip.nm,v],sl] h (λr _=>r=.tuple #[.bool (passB p env).1,.bool (passB p env).2]):=by
 obtain ⟨As,cs,rfl,-,-,-⟩:=hr.form;rw [Hj] at *;unfold passB;rcases hok.skip p hp with g | ⟨g1,g2,g3,g4⟩
 ·obtain ⟨Av,cv,rfl⟩:=args_zero (by rw [g]; rfl) ha;rw [g];refine wQ Tryz.func110 (c:=Tryz.f110.body.getD .skip) (N:=23) ?_;intro hbx hbad Q hQ;refine go1 23 [.own,.b 0 0,.cl 121 #[.agg #[Vt p.name,.slice A n c,Vi 0,Vi 0,Vi 0,Ve,Ve,.slice Av 0 cv]] (.bool true)] [] ?_ (ho:=(Aj (λH sH=>never_yes _ _ _ _ _ _ _) (trivial)));intro b1;refine hQ.to [.bool false,.bool true] (λH sH=>?_);exact rfl
 ·obtain ⟨Av,nv,cv,rfl⟩:=ha.slice;have hck:chkE p.skip=0:=by
   unfold fitsE ofE at g4
   by_cases e:chkE p.skip=0
   ·exact e
   ·rw [Bj e,Bj e] at g4; exact absurd g4 e
  have hz:(szE p.skip).1 <= 60:=by
   unfold chkE at hck
   split at hck
   ·cases hck
   ·omega
  have hE:=λH q1 q2=>eval_any p.skip (.slice Av nv cv) env (.slice As env.length cs) H q1 g2 hz (chk_deep hck) q2 hok' hl;rw [Bj g1];generalize rK env p.skip=x at *;refine wQ Tryz.func110 (c:=Tryz.f110.body.getD .skip) (N:=23) ?_;intro hbx hbad Q hQ;refine go2 32 [.own,.b 0 0,.cl 121 #[.agg #[Vt p.name,.slice A n c,Vi p.skip.op,Vi p.skip.k,Vi p.skip.n,.string p.skip.s,.string p.skip.nm,.slice Av nv cv]] (.bool false),.b 0 2,.cl 92 #[.agg #[Vi p.skip.op,Vi p.skip.k,Vi p.skip.n,.string p.skip.s,.string p.skip.nm,.slice Av nv cv],.slice As env.length cs] (.tuple #[.agg #[Vi x.k,Vi x.n,.string x.s],Vi 0]),.own,.b 0 0] [] ?_ (ho:=(Aj (λH sH=>never_no _ _ _ _ _ _ _ _ _ g1) (Aj (λH sH=>hE _ (ha.sees sH) (hr.sees sH)) (trivial))));intro b1 b2;refine lV 8 0 [.pu,.ld 0 1,.pu,.pu,.ld 0 0,.pu,.pu,.pu] [] (trivial) ?_ ?_
  ·intros; trivial
  rintro W3 S4 -;refine go0 2 [] [] ?_;refine hQ.to [.bool (x.n == 1),.bool (x.k == 2)] (λH sH=>?_);exact rfl
def ClO (n:Nat) (l:List Int) (v u:Value) (r:List (List Value)) (h:Vw):Prop:=v=u /\ (∃ A c,u=.slice A n c) /\ r=rY l
theorem clone_own {h:Vw} {v:Value} {l:List Int} {n:Nat} (hr:RS h 1 v (rY l)) (hn:l.length=n) (hl:n <= 1000000):C0 Tryz.prog 59 #[v] h (λv h'=>∃ u r,Ent.ok h.w.heap.size h'.w (.row u 3 1 r) /\ ClO n l v u r ⟨h'.w,u.ownBlock.toList++h'.bad⟩):=by
 intro a1 a2 a3 a4;refine (c_cloneI hr (by omega) a1 a2 a3 a4).mono ?_;rintro en w' ⟨v,Bo,h1,h2,h3,h4,r,h5,-,rfl⟩;obtain ⟨A,c,e,-,-⟩:=tY h5;exact ⟨v,Bo,h1,h2,h3,h4,v,_,h5,rfl,⟨A,c,by rw [e,Hj,hn]⟩,rfl⟩
def passAt (ps:List Pg) (env:Env) (j:Nat):Bool × Bool:=match ps[j]? with
 | some p=>passB p env
 | none=>(false,true)
theorem passAt_eq {ps:List Pg} {env:Env} {j:Nat} {p:Pg} (h:ps[j]?=some p):passAt ps env j=passB p env:=by unfold passAt; rw [h]
def NextX (m:Nat) (path:List Int) (t:Nat) (pass:Nat -> Bool × Bool) (ln:List ByteArray) (r:Value) (h:Vw):Prop :=
 (∃ (a:Nat) (u:Value),r=.tuple #[.agg #[Vi (a:Int),sL u,.bool ((a:Int) == (m:Int))],Vi 0] /\ ln=[] /\ t < a /\ a <= m /\ RS h 1 (sL u) (rY (path++[(t:Int)])) /\ (∀ j,t < j -> j < a -> pass j=(true,true)) /\ (a < m -> pass a=(false,true))) \/
 (r=.tuple #[.agg #[Vi 0,.slice none 0 0,.bool false],Vi 11] /\ (ln≠[]\/∃ k,t < k /\ k < m /\ (∀ j,t < j -> j < k -> pass j=(true,true)) /\ (pass k).2=false))
theorem next_x (f:Fm) (ρ:List Int) (lv:Nat -> Nat) (A:Option Addr) (n c:Nat) (B:Option Addr) (m d:Nat) (va:List Vl) (A1:Option Addr) (c1:Nat) (path:List Int) (A2:Option Addr) (c2:Nat) (t:Nat) (h:Vw) (hok:OkFm f ρ lv) (hf:IsForm h (.slice A n c) (.slice B m d) f) (hn:n=f.fields.length) (hm:m=f.pages.length)
  (hv:RS h 3 (.slice A1 n c1) (zZ va)) (la:va.length=n) (ov:∀ x∈va,OkV x) (hp:RS h 1 (.slice A2 path.length c2) (rY path)) (lp:path.length <= 90) (pk:PathOk (path++[(t:Int)]) m) :
  C0 Tryz.prog 85 #[.agg #[.slice A n c,.slice B m d],.slice A1 n c1,.agg #[Vi (t:Int),.slice A2 path.length c2,.bool ((t:Int) == (m:Int))]] h (λr h'=>(t=m /\ r=.tuple #[.agg #[Vi 0,.slice none 0 0,.bool false],Vi 13])\/(∃ p,f.pages[t]?=some p /\ NextX m path t (passAt f.pages (fcs f.fields va)) (fW f.fields va p.fields) r h')):=by
 have hC:=λH q1 q2 q3=>tW f ρ lv A n c B m d va A1 c1 path A2 c2 (t:Int) H hok q1 hn hm q2 la ov q3 (by omega) pk;have few:=hok.fields.few;have mfew:=hok.pages.few;have a1:=pk.hi (t:Int) (by simp);have hcl:=λH (q:RS H 1 (.slice A2 path.length c2) (rY path))=>c_cloneI q (by omega);have hcl2:=λv H (q:RS H 1 v (rY (path++[(t:Int)])))=>clone_own (n:=path.length + 1) q (by simp) (by omega);have hFa:=λH q1 q2=>navFacts_l f.fields va A n c B m d A1 c1 H q1 hn (by omega) q2 la;have henv:∀ q∈fcs f.fields va,OkV q.2:=fcs_ok ov;have hel:(fcs f.fields va).length <= 1000:=by rw [fcs_len (by omega)]; omega
 have hpa:=λp (q:p∈f.pages) A n c v sl H q1 q2=>passed_any f.fields f.pages hok.pages p q A n c v (fcs f.fields va) sl H q1 q2 henv hel;have hpl:(rY path).length=path.length:=Hj _;have hrw:rY path++[[Vi (t:Int)]]=rY (path++[(t:Int)]):=by simp [rY]
 have hll:(path++[(t:Int)]).length=path.length + 1:=by simp
 obtain ⟨us,ws,B2,d2,e2,-,hpr,hps,hpg,-,-⟩:=wX hf.pages;simp only [Jk] at e2;obtain ⟨rfl,-,rfl⟩:=e2;rw [<- hm] at hpr;generalize fcs f.fields va=env at *;generalize hnp:path.length=np at *;refine wQ Tryz.func85 (c:=Tryz.f85.body.getD .skip) (N:=88) ?_;intro hbx hbad Q hQ;refine go3 34 [.own,.own,.own,.b 2 0,.b 1 0,.cl 25 #[.agg #[.slice A n c,.slice B m d],.slice A1 n c1,.agg #[Vi (t:Int),.slice A2 np c2,.bool ((t:Int) == (m:Int))]] (Vi 0),.b 1 2] [] ?_ (ho:=(Aj (λH sH=>hC _ (hf.sees sH) (hv.sees sH) (hp.sees sH)) (trivial)));intro b1 b2 b3
 by_cases g:(t:Int)=(m:Int)
 ·refine oV (t:=(t:Int) == (m:Int)) (Zj.2 g) ?_;refine go0 9 [.b 0 0] [] ?_;refine hQ.to [.agg #[Vi 0,Vz,.bool false],Vi 13] (λH sH=>?_) (ix:=[0]);exact .inl ⟨by omega,rfl⟩
 ·skip;obtain ⟨p,hpt⟩:∃ p,f.pages[t]?=some p:=⟨_,Gj (by omega)⟩
  have hpa3:=λk p2 (q:f.pages[k]?=some p2)=>passAt_eq (env:=env) q;generalize passAt f.pages env=pass at *;have hL:=λH q1 q2=>navLacks_any f ρ lv A n c B m d va A1 c1 t p H hok q1 hn hm q2 la ov hpt;generalize hln:fW f.fields va p.fields=ln at *;refine yQ (t:=(t:Int) == (m:Int)) (Lj.2 g) ?_;refine go0 9 [.b 2 0,.b 1 0] [] ?_;refine qQ (λH sH=>hL _ (hf.sees sH) (hv.sees sH)) ?_; rintro _ W4 S5 ⟨A5,c5,rfl,hr5⟩;refine go0 14 [] [] ?_;rcases Nat.eq_zero_or_pos ln.length with hl0 | hl0
  ·skip;refine yQ (t:=decide ((ln.length:Int) > 0)) (Jj (by omega)) ?_
   refine go0 3 [] [] ?_;refine lV 13 2 [.pu,.ld 3 0,.v (λgh=>Vi ((t:Int) + 1)),.pu,.ld 3 1,.e (λgh=>sL (gh 5)) 0 (λgh=>.row (sL (gh 5)) 3 1 (rY path)),.pu,.ld 3 0,.f (λgh=>.slice (some ⟨(wJ (gh 8)),0,none⟩) 1 1) (λgh hh=>Cells hh (wJ (gh 8)) 0 [Vi (t:Int)]),.e (λgh=>sL (gh 9)) 0 (λgh=>.row (sL (gh 9)) 3 1 ((rY path)++[[Vi (t:Int)]])),.pu,.al 1,.st 1 0] [(5,false),(8,true),(9,false),(11,true)] (Aj (λ_ _ _ s c=>c.sees s) (trivial)) ?_ ?_
   ·intro R hT hA hmono;refine Aj (oZ hT hA (λgh=>Vi ((t:Int) + 1)) (λgh=>Vi (IntKind.i64.wrap ((t:Int) + 1))) (λgh=>jJ (by omega) (by omega))) ?_;refine Aj (r_callown hT hA hmono ⟨λ_ _=>by kernel_rfl,λ_ _=>by kernel_rfl,λ_ _=>by kernel_rfl⟩ (by kernel_rfl) 42 (λu=>sL u) [4] 5 (by kernel_rfl) (λ_=>by kernel_rfl) 0 (GN R 0) (by kernel_rfl) (by kernel_rfl) (by kernel_rfl) 3 1 (λgh=>rY path) (λ_=>by kernel_rfl) (λ_=>by kernel_rfl) (λ_ _=>rfl) 59 (λgh=>#[.slice A2 np c2]) (λ_ _=>by kernel_rfl) (λgh H sH fH=>hcl _ (hp.sees (S5.trans sH)))) ?_;refine Aj (jY hT hA hmono ⟨λ_ _=>by kernel_rfl,λ_ _=>by kernel_rfl,λ_ _=>by kernel_rfl⟩ 45 (λg=>Vs g 1 1) [7] 8 (λgh=>[Vi (t:Int)]) 3 (λgh zb zH zc zj zq zhq zhe=>pX (i:=8) (k:=0) (f:=λgh hh=>Cells hh (wJ (gh 8)) 0 [Vi (t:Int)]) (by kernel_rfl) (by kernel_rfl) zc zj zq zhq zhe)) ?_;refine Aj (fY hT hA hmono ⟨λ_ _=>by kernel_rfl,λ_ _=>by kernel_rfl,λ_ _=>by kernel_rfl⟩ 46 [5,8] 9 0 (GN R 0) (λgh=>sL (gh 5)) 72 3 1 (λgh=>rY path) (λgh=>[[Vi (t:Int)]]) (.tmp 42) (.tmp 45) (λgh=>(wJ (gh 8))) 1 1 0 8 (λgh hh=>Cells hh (wJ (gh 8)) 0 [Vi (t:Int)]) (λ_ _ c=>c) Tryz.underlying72 (zv:=Vi 0) (bytes:=8) (λ_=>by constructor <;> (simp; omega))) ?_
    trivial
   rintro u42 b7 v46 bwk W8 S9 ⟨f6,-⟩;replace f6:Cells W8 b7 0 [Vi (t:Int)]:=f6;refine xQ f6 ?_;refine go0 3 [] [] ?_;refine cV [(1,.slice A1 n c1),(3,Vp b1),(6,Vp b3),(11,Vp bwk)] [.row (sL v46) 3 1 ((rY path)++[[Vi (t:Int)]]),.box bwk [Vi ((t:Int) + 1),sL v46,.bool false],.box b3 [Vi 0,Vz,.bool false],.box b2 [Vi (t:Int),.slice A2 np c2,.bool ((t:Int) == (m:Int))],.box b1 [.slice A n c,.slice B m d]] [(b7,0,[Vi (t:Int)])] ?_;rw [hrw];have hlr:(rY (path++[(t:Int)])).length=(path++[(t:Int)]).length:=Hj _;refine zQ 0 (v:=sL v46) (e:=3) (kk:=1) (l:=rY (path++[(t:Int)])) ?_; intro Ap cp hE_v46 hc_v46 hm_v46;rw [show (rY (path++[(t:Int)])).length=(np + 1) from by first | omega | (simp; done) | (simp; omega)] at hE_v46 hc_v46;rw [hE_v46];refine aV 0 (v:=.slice Ap (np + 1) cp) (e:=3) (kk:=1) (l:=rY (path++[(t:Int)])) ?_; intro W10 S11 fr;refine eV [0,0,1,1,1,1,1] [.block 0,.seq [1,1,1,1,1,1]] (λ(ka:Nat) X=>∃ (W12:Vw) ,X W12 [(1,.slice A1 n c1),(3,Vp b1),(6,Vp b3),(11,Vp bwk)] [.box bwk [Vi (ka:Int),.slice Ap (np + 1) cp,.bool false],.box b3 [Vi 0,Vz,.bool false],.box b2 [Vi (t:Int),.slice A2 np c2,.bool ((t:Int) == (m:Int))],.box b1 [.slice A n c,.slice B m d]] [(b7,0,[Vi (t:Int)])] /\ Sees W10 W12 /\ (t < ka) /\ (ka <= m) /\ (∀ j,t < j -> j < ka -> pass j=(true,true))) (λka=>m - ka) (t + 1) (λX q=>⟨W10,q _ _ _ _ ⟨rfl,by kernel_rfl⟩,Sees.refl _,Nat.lt_succ_self t,by omega,λj q1 q2=>by omega⟩) ?_;rintro ka a w ⟨W12,hJ,S13,ha1,ha2,hps1⟩; refine jV hJ ?_; clear hJ a w;refine go0 11 [.b 0 0,.b 3 1] [] ?_;rcases (by omega:ka < m\/ka=m) with hlt | hke
   ·obtain ⟨p2,hp2⟩:∃ p,f.pages[ka]?=some p:=⟨_,Gj (by omega)⟩;obtain ⟨Au,cu,Bu,mu,du,hprow,hrs,harg⟩:=pg_at hps hpg hp2;have hpa2:=λA n c v sl H q1 q2=>hpa p2 (Dj hp2) A n c v sl H q1 q2;have hpk:pass ka=((passB p2 env).1,(passB p2 env).2):=hpa3 ka p2 hp2;generalize (passB p2 env).1=w1 at *;generalize (passB p2 env).2=w2 at *;refine oV (t:=decide ((ka:Int) < (m:Int))) (Mj (by omega)) ?_;refine go0 5 [] [] ?_;obtain ⟨b14,o15,rfl,-,c16⟩:=RS.row hpr (hprow);refine xQ (c16.sees (S5.trans (S9.trans (S11.trans S13)))) ?_;refine lV 15 0 [.pu,.ld 3 1,.pu,.ld 0 0,.v (λgh=>.pointer (some ⟨b14,o15 + ka * 8,none⟩)),.lf 0 0,.ld 3 0,.pu,.f (λgh=>sL (gh 8)) (λgh hh=>RS hh 7 (sL (gh 8)) (cQ env)),.v (λgh=>.tuple #[.bool w1,.bool w2]),.pu,.pu,.pu,.pu,.pu] [(8,false)] (Aj (λ_ _ _ s c=>c.sees s) (trivial)) ?_ ?_
    ·intro R hT hA hmono;refine Aj (pZ hT hA b14 o15 m d ka (λgh=>.pointer (some ⟨b14,o15 + ka * 8,none⟩)) (by first | omega | (simp; omega))) ?_;refine Aj (gY hT hA hmono ⟨λ_ _=>by kernel_rfl,λ_ _=>by kernel_rfl,λ_ _=>by kernel_rfl⟩ 67 (λu=>sL u) [6,7] 8 111 (λgh=>#[.agg #[.slice A n c,.slice (some ⟨b14,o15,none⟩) m d],.slice A1 n c1]) (λgh H sH fH lent=>C0.facts (R:=R) (x:=gh) (i:=8) (n:=0) (F:=(λu=>sL u)) (G:=λu hh=>RS hh 7 (sL u) (cQ env)) (f:=λgh hh=>RS hh 7 (sL (gh 8)) (cQ env)) (hFa _ ((hf.sees (S5.trans (S9.trans (S11.trans (S13.trans sH)))))).fields (hv.sees (S5.trans (S9.trans (S11.trans (S13.trans sH)))))) (by kernel_rfl) (by kernel_rfl) (λ_ _ r=>r))) ?_;refine Aj (t_v hT hA hmono (k:=110) (args:=(λgh=>#[.agg #[Vt p2.name,.slice Au p2.fields.length cu,Vi p2.skip.op,Vi p2.skip.k,Vi p2.skip.n,.string p2.skip.s,.string p2.skip.nm,.slice Bu mu du],sL (gh 8)])) (f:=λgh=>.tuple #[.bool w1,.bool w2]) (λgh H sH fH lent=>hpa2 _ _ _ _ _ _ (harg.sees (S5.trans (S9.trans (S11.trans (S13.trans sH))))) (fH 0 _ rfl (by kernel_rfl)))) ?_
     trivial
    rintro u67 W17 S18 ⟨f67,-⟩;replace f67:RS W17 7 (sL u67) (cQ env):=f67;refine go0 8 [] [] ?_;rcases Rw w2 with g2 | g2
    ·refine yQ (t := !w2) ((by rw [g2]; rfl)) ?_;refine go0 8 [] [] ?_;rcases Rw w1 with g1 | g1
     ·refine yQ (t := !w1) ((by rw [g1]; rfl)) ?_;refine go0 10 [.b 0 0,.b 0 0] [(56,Vi (IntKind.i64.wrap ((ka:Int) + 1)),Vi ((ka:Int) + 1))] ?_ (hc:=(Aj (jJ (by omega) (by omega)) (trivial)));exact nV (ka + 1) (λX q=>⟨W17,q _ _ _ _ ⟨rfl,by kernel_rfl⟩,(S13.trans S18),by omega,by omega,λj q1 q2=>(by rcases (by omega:j < ka\/j=ka) with q | q; exact hps1 j q1 q; rw [q,hpk,g1,g2])⟩) (by omega)
     ·skip;refine oV (t := !w1) ((by rw [g1]; rfl)) ?_
      refine go0 3 [] [] ?_;refine dV ?_;refine go0 18 [.b 0 0,.b 3 1,.b 0 2,.b 0 1] [] ?_;refine g_callown (e:=3) (kk:=1) (λa w hJ=>hcl2 _ _ (fr.sees (S13.trans (S18.trans hJ.j.sees)))) ?_; rintro _ _ _ W19 S20 ⟨rfl,⟨A9,c9,rfl⟩,rfl⟩;refine go0 12 [.b 1 1,.b 1 0,.b 2 0] [] ?_;refine aV 0 (v:=.slice A9 (np + 1) c9) (e:=3) (kk:=1) (l:=rY (path++[(t:Int)])) ?_; intro W21 S22 f9;refine hQ.to [.agg #[Vi (ka:Int),.slice A9 (np + 1) c9,.bool ((ka:Int) == (m:Int))],Vi 0] (λH sH=>?_) (ix:=[1]);exact .inr ⟨p,hpt,.inl ⟨ka,.slice A9 (np + 1) c9,rfl,hln.trans (Oq.1 hl0),by omega,by omega,(f9.sees sH),hps1,λ_=>by rw [hpk,g1,g2]⟩⟩
    ·skip;refine oV (t := !w2) ((by rw [g2]; rfl)) ?_
     refine go0 11 [.b 1 0] [] ?_;refine dV ?_;refine go0 2 [] [] ?_;refine hQ.to [.agg #[Vi 0,Vz,.bool false],Vi 11] (λH sH=>?_) (ix:=[1]);exact .inr ⟨p,hpt,.inr ⟨rfl,.inr ⟨ka,by omega,by omega,hps1,by rw [hpk]; exact g2⟩⟩⟩
   ·skip;refine yQ (t:=decide ((ka:Int) < (m:Int))) (Jj (by omega)) ?_
    refine go0 2 [] [] ?_;refine dV ?_;refine go0 18 [.b 0 0,.b 3 1,.b 0 2,.b 0 1] [] ?_;refine g_callown (e:=3) (kk:=1) (λa w hJ=>hcl2 _ _ (fr.sees (S13.trans hJ.j.sees))) ?_; rintro _ _ _ W23 S24 ⟨rfl,⟨A9,c9,rfl⟩,rfl⟩;refine go0 12 [.b 1 1,.b 1 0,.b 2 0] [] ?_;refine aV 0 (v:=.slice A9 (np + 1) c9) (e:=3) (kk:=1) (l:=rY (path++[(t:Int)])) ?_; intro W25 S26 f9;refine hQ.to [.agg #[Vi (ka:Int),.slice A9 (np + 1) c9,.bool ((ka:Int) == (m:Int))],Vi 0] (λH sH=>?_) (ix:=[1]);exact .inr ⟨p,hpt,.inl ⟨ka,.slice A9 (np + 1) c9,rfl,hln.trans (Oq.1 hl0),by omega,by omega,(f9.sees sH),hps1,λq=>by omega⟩⟩
  ·skip;refine oV (t:=decide ((ln.length:Int) > 0)) (Mj (by omega)) ?_
   refine go0 9 [.b 0 0] [] ?_;refine hQ.to [.agg #[Vi 0,Vz,.bool false],Vi 11] (λH sH=>?_) (ix:=[0]);exact .inr ⟨p,hpt,.inr ⟨rfl,.inl λq=>by rw [hln] at q; rw [q] at hl0; exact absurd hl0 (by decide)⟩⟩
theorem c_cloneU {h:Vw} {v:Value} {l:List Int} (hr:RS h 1 v (rY l)) (hl:l.length <= 1000000):C0 Tryz.prog 59 #[v] h (λv h'=>∃ u,v=sL u /\ RS h' 1 (sL u) (rY l)) :=
 (CRow.c0 (c_cloneI hr hl)).mono λv h' _=>by
  rintro ⟨r,u,rfl,h2,-,rfl⟩;exact ⟨u,rfl,h2⟩
theorem back_any (f:Fm) (ρ:List Int) (lv:Nat -> Nat) (A:Option Addr) (n c:Nat) (B:Option Addr) (m d:Nat) (va:List Vl) (A1:Option Addr) (c1:Nat) (path:List Int) (p aa:Int) (A2:Option Addr) (np c2:Nat) (h:Vw) (hok:OkFm f ρ lv) (hf:IsForm h (.slice A n c) (.slice B m d) f) (hn:n=f.fields.length) (hm:m=f.pages.length)
  (hv:RS h 3 (.slice A1 n c1) (zZ va)) (la:va.length=n) (ov:∀ x∈va,OkV x) (hnp:path.length=np) (hp:RS h 1 (.slice A2 (np + 1) c2) (rY (path++[p]))) (lp:np <= 90) (pk:PathOk ((path++[p])++[aa]) m) :
  C0 Tryz.prog 86 #[.agg #[.slice A n c,.slice B m d],.slice A1 n c1,.agg #[Vi aa,.slice A2 (np + 1) c2,.bool (aa == (m:Int))]] h (λr h'=>∃ u,r=.tuple #[.agg #[Vi p,sL u,.bool false],Vi 0] /\ RS h' 1 (sL u) (rY path)):=by
 have hll:(path++[p]).length=np + 1:=by simp [hnp]
 have hC:=λH q1 q2 q3=>tW f ρ lv A n c B m d va A1 c1 (path++[p]) A2 c2 aa H hok q1 hn hm q2 la ov q3 (by omega) pk;rw [hll] at hC;have hrow:(rY (path++[p]))[np]?=some [Vi p]:=rk_row (by rw [Ax (by omega),hnp,Nat.sub_self]; rfl);have htk:∀ H,RS H 1 (.slice A2 (np + 1) c2) (rY (path++[p])) -> RS H 1 (.slice A2 np c2) (rY path):=λH q=>by
  have:=q.take np (by rw [Hj]; omega)
  rw [<- List.map_take,show (path++[p]).take np=path from by rw [<- hnp,List.take_left]] at this;exact this
 have hcl:=λH q=>c_cloneU (htk H q) (by omega);obtain ⟨A',c',e',hcap,-,-⟩:=hp.form;simp only [Jk] at e';obtain ⟨-,-,rfl⟩:=e';rw [Hj,hll] at hcap;refine wQ Tryz.func86 (c:=Tryz.f86.body.getD .skip) (N:=37) ?_;intro hbx hbad Q hQ;refine go3 42 [.own,.own,.own,.b 2 0,.b 1 0,.cl 25 #[.agg #[.slice A n c,.slice B m d],.slice A1 n c1,.agg #[Vi aa,.slice A2 (np + 1) c2,.bool (aa == (m:Int))]] (Vi 0),.b 1 1] [] ?_ (ho:=(Aj (λH sH=>hC _ (hf.sees sH) (hv.sees sH) (hp.sees sH)) (trivial)));intro b1 b2 b3;refine yQ (t:=(np + 1:Int) == 0) (Lj.2 (by omega)) ?_;refine go0 3 [] [] ?_;obtain ⟨b4,o5,rfl,-,c6⟩:=RS.row hp (hrow);refine xQ (c6.sees (Sees.refl _)) ?_;refine lV 15 0 [.pu,.ld 1 1,.pu,.v (λgh=>Vi (np:Int)),.v (λgh=>.pointer (some ⟨b4,o5 + np * 1,none⟩)),.lf 0 0,.pu,.ld 1 1,.pu,.v (λgh=>Vi (np:Int)),.v (λgh=>.slice (some ⟨b4,o5,none⟩) np c2),.f (λgh=>sL (gh 11)) (λgh hh=>RS hh 1 (sL (gh 11)) (rY path)),.pu,.st 0 0,.pu] [(11,false)] (Aj (λ_ _ _ s c=>c.sees s) (trivial)) ?_ ?_
 ·intro R hT hA hmono;refine Aj (oZ hT hA (λgh=>Vi (np:Int)) (λgh=>Vi (IntKind.i64.wrap ((np + 1:Int) - 1))) (λgh=>(jJ (by omega) (by omega)).trans (Ej (Value.int .i64) (by omega)))) ?_;refine Aj (pZ hT hA b4 o5 (np + 1) c2 np (λgh=>.pointer (some ⟨b4,o5 + np * 1,none⟩)) (by first | omega | (simp; omega))) ?_;refine Aj (oZ hT hA (λgh=>Vi (np:Int)) (λgh=>Vi (IntKind.i64.wrap ((np + 1:Int) - 1))) (λgh=>(jJ (by omega) (by omega)).trans (Ej (Value.int .i64) (by omega)))) ?_;refine Aj (t_p hT hA (λgh=>.slice (some ⟨b4,o5,none⟩) np c2) (λgh w=>run_hi (t:=72) (e:=3) (x:=(.tmp 31)) (y:=(.tmp 33)) (A:=(some ⟨b4,o5,none⟩)) (n:=(np + 1)) (cap:=c2) (k:=np) (kk:=1) (by kernel_rfl) (by kernel_rfl) (by kernel_rfl) (by omega) Tryz.underlying72 (by kernel_rfl))) ?_;refine Aj (gY hT hA hmono ⟨λ_ _=>by kernel_rfl,λ_ _=>by kernel_rfl,λ_ _=>by kernel_rfl⟩ 35 (λu=>sL u) [10] 11 59 (λgh=>#[.slice (some ⟨b4,o5,none⟩) np c2]) (λgh H sH fH lent=>C0.facts (R:=R) (x:=gh) (i:=11) (n:=0) (F:=(λu=>sL u)) (G:=λu hh=>RS hh 1 (sL u) (rY path)) (f:=λgh hh=>RS hh 1 (sL (gh 11)) (rY path)) (hcl _ (hp.sees sH)) (by kernel_rfl) (by kernel_rfl) (λ_ _ r=>r))) ?_
  trivial
 rintro u35 W7 S8 ⟨f35,-⟩;replace f35:RS W7 1 (sL u35) (rY path):=f35;refine go0 2 [] [] ?_;refine hQ.to [.agg #[Vi p,sL u35,.bool false],Vi 0] (λH sH=>?_) (ix:=[0]);exact ⟨u35,rfl,(f35.sees sH)⟩
def scanF (pass:Nat -> Bool × Bool):Nat -> Nat -> Option Nat
 | 0,j=>some j
 | k + 1,j=>if pass j=(true,true) then scanF pass k (j + 1) else if (pass j).2=true then some j else none
theorem scan_goes {pass:Nat -> Bool × Bool} {a:Nat}:∀ (k j:Nat),j <= a -> a <= j + k -> (∀ i,j <= i -> i < a -> pass i=(true,true)) -> (a < j + k -> pass a=(false,true)) -> scanF pass k j=some a
 | 0,j,h1,h2,_,_=>by rw [scanF]; exact Ej some (by omega)
 | k + 1,j,h1,h2,h3,h4=>by
  rw [scanF];rcases Uq j a with q | q
  ·rw [Cj (h3 j (Ij _) q)];exact scan_goes k (j + 1) q (by omega) (λi a b=>h3 i (by omega) b) λg=>h4 (by omega)
  ·obtain rfl:j=a:=by omega
   have:=h4 (by omega)
   rw [Bj (by rw [this]; decide),Cj (by rw [this])]
theorem scan_stops {pass:Nat -> Bool × Bool} {b:Nat}:∀ (k j:Nat),j <= b -> b < j + k -> (∀ i,j <= i -> i < b -> pass i=(true,true)) -> (pass b).2=false -> scanF pass k j=none
 | 0,j,h1,h2,_,_=>by omega
 | k + 1,j,h1,h2,h3,h4=>by
  rw [scanF];rcases Uq j b with q | q
  ·rw [Cj (h3 j (Ij _) q)];exact scan_stops k (j + 1) q (by omega) (λi a c=>h3 i (by omega) c) h4
  ·obtain rfl:j=b:=by omega
   rw [Bj (λe=>by rw [e] at h4; cases h4),Bj (by rw [h4]; decide)]
def nextE (E:Eg) (t:Nat):Option Nat:=match E.fm.pages[t]? with
 | some p=>if fW E.fm.fields E.vals p.fields=[] then scanF (passAt E.fm.pages (fcs E.fm.fields E.vals)) (E.fm.pages.length - (t + 1)) (t + 1) else none
 | none=>none
theorem next_f {E:Eg} {m t:Nat} {path:List Int} {r:Value} {h:Vw} (hm:m=E.fm.pages.length) (ht:t <= m) (k:(t=m /\ r=.tuple #[.agg #[Vi 0,.slice none 0 0,.bool false],Vi 13])\/(∃ p,E.fm.pages[t]?=some p /\ NextX m path t (passAt E.fm.pages (fcs E.fm.fields E.vals)) (fW E.fm.fields E.vals p.fields) r h)) :
  (∃ (a:Nat) (u:Value),nextE E t=some a /\ r=.tuple #[.agg #[Vi (a:Int),sL u,.bool ((a:Int) == (m:Int))],Vi 0] /\ t < a /\ a <= m /\ RS h 1 (sL u) (rY (path++[(t:Int)]))) \/
  (nextE E t=none /\ r=.tuple #[.agg #[Vi 0,.slice none 0 0,.bool false],Vi (if t=m then 13 else 11)]):=by
 rcases k with ⟨e,rfl⟩ | ⟨p,hp,k⟩
 ·right
  unfold nextE;rw [Iq (by omega),Cj e];exact ⟨rfl,rfl⟩
 ·have htm:t < m:=by rw [hm]; exact (Oj.1 hp).1
  unfold nextE;rw [hp];simp only;rcases k with ⟨a,u,rfl,h1,h2,h3,h4,h5,h6⟩ | ⟨rfl,h1⟩
  ·left
   rw [Cj h1,scan_goes _ _ (by omega) (by omega) (λi q1 q2=>h5 i (by omega) q2) λq=>h6 (by omega)];exact ⟨a,u,rfl,rfl,h2,h3,h4⟩
  ·right
   rw [show (if t=m then (13:Int) else 11)=11 from Bj (by omega)];refine ⟨?_,rfl⟩
   by_cases q:fW E.fm.fields E.vals p.fields=[]
   ·rw [Cj q];rcases h1 with h1 | ⟨b,b1,b2,b3,b4⟩
    ·exact absurd q h1
    ·exact scan_stops _ _ (by omega) (by omega) (λi q1 q2=>b3 i (by omega) q2) b4
   ·rw [Bj q]
structure Ps where
 E:Eg
 net:List Lt
 t:Nat
 path:List Int
abbrev pL (u:Value) (s:Ps):List Value:=[sL (agJ 0 u),sL (agJ 1 u),Vi s.E.pol.t,Vi s.E.pol.b,Vi s.E.pol.c,sL (agJ 2 u),sL (agJ 3 u),sL (agJ 4 u),Vi s.E.now,Vi s.E.last,sL (agJ 5 u),Vi (s.t:Int),sL (agJ 6 u),.bool ((s.t:Int) == (s.E.fm.pages.length:Int))]
structure Ev where
 kind:Int
 n:Int
 nm:ByteArray
 val:Vl
@[reducible] def Ev.cells (e:Ev):List Value:=[Vi e.kind,Vi e.n,.string e.nm,Vi e.val.k,Vi e.val.n,.string e.val.s]
def sndF (s:Ps) (E':Eg) (on more:List Lt):Int × Ps:=if on.length + more.length <= 24 then (0,{ s with E:=E',net:=on++more }) else (12,s)
theorem snd_yes {s:Ps} {E':Eg} {on more:List Lt} (h:on.length + more.length <= 24):sndF s E' on more=(0,{ s with E:=E',net:=on++more }):=Cj h
theorem snd_no {s:Ps} {E':Eg} {on more:List Lt} (h:¬ on.length + more.length <= 24):sndF s E' on more=(12,s):=Bj h
def fdX (E:Eg) (nm:ByteArray):Fd:=(E.fm.fields[(iQ E.fm.fields nm).toNat]?).getD ⟨⟨#[]⟩,0,0,zE⟩
def clX (E:Eg) (nm:ByteArray):Cl:=(E.calls[(iQ E.fm.fields nm).toNat]?).getD clZ
def hrdEX (E:Eg) (ρ:List Int) (x:Lt):Eg:=hrdE E ρ (iQ E.fm.fields x.nm).toNat (fdX E x.nm) x (clX E x.nm)
def hrdTX (E:Eg) (ρ:List Int) (x:Lt):List Lt:=hrdT E ρ (iQ E.fm.fields x.nm).toNat (fdX E x.nm) x (clX E x.nm)
theorem hrdX_at {E:Eg} {ρ:List Int} {x:Lt} {i:Nat} {f:Fd} {c:Cl} (hd:(E.fm.fields.map (λf:Fd=>f.name)).Nodup) (hf:E.fm.fields[i]?=some f) (hn:x.nm=f.name) (hc:E.calls[i]?=some c):hrdEX E ρ x=hrdE E ρ i f x c /\ hrdTX E ρ x=hrdT E ρ i f x c:=by
 have e:iQ E.fm.fields x.nm=(i:Int):=by rw [hn]; exact jQ hd hf
 unfold hrdEX hrdTX fdX clX;rw [e,Uv,hf,hc];exact ⟨rfl,rfl⟩
def evF (ρ:List Int) (s:Ps) (e:Ev):Int × Ps :=
 if e.kind=1 then (if uZ s.E.fm.fields e.nm e.val.k=0 then sndF s (dZ (sZ s.E e.nm e.val) ρ) s.net (bZ (sZ s.E e.nm e.val) ρ).out else (uZ s.E.fm.fields e.nm e.val.k,s))
 else if e.kind=2 then sndF s (dZ (tZ s.E e.n) ρ) s.net (tickT s.E e.n++(bZ (tZ s.E e.n) ρ).out)
 else if e.kind=3 then (match s.net[e.n.toNat]? with
  | none=>(5,s)
  | some x=>if x.ans.k≠0 then (2,s) else (0,{ s with net:=s.net.set e.n.toNat ⟨x.nm,x.id,x.key,e.val⟩ }))
 else if e.kind=4 then (if e.n.toNat < s.net.length then (0,{ s with net:=s.net.eraseIdx e.n.toNat }) else (5,s))
 else if e.kind=5 then (match s.net[e.n.toNat]? with
  | none=>(5,s)
  | some x=>if s.net.length=24 then (12,s) else (0,{ s with net:=s.net.take e.n.toNat++x :: s.net.drop e.n.toNat }))
 else if e.kind=6 then (match s.net[e.n.toNat]? with
  | none=>(5,s)
  | some x=>if x.ans.k=0 then (2,s) else sndF s (hrdEX s.E ρ x) (s.net.eraseIdx e.n.toNat) (hrdTX s.E ρ x))
 else if e.kind=7 then (match nextE s.E s.t with
  | some a=>(0,{ s with t:=a,path:=s.path++[(s.t:Int)] })
  | none=>(if s.t=s.E.fm.pages.length then 13 else 11,s))
 else (match s.path.getLast? with
  | some p=>(0,{ s with t:=p.toNat,path:=s.path.dropLast })
  | none=>(5,s))
structure LnOk (fs:List Fd) (last:Int) (x:Lt):Prop where
 at_:∃ (i:Nat) (f:Fd),fs[i]?=some f /\ x.nm=f.name /\ f.kind=3
 key:x.key.known
 i1:1 <= x.id
 i2:x.id <= last
 ans:x.ans=zV\/x.ans.known
structure EvOk (fs:List Fd) (e:Ev):Prop where
 k1:1 <= e.kind
 k8:e.kind <= 8
 n0:0 <= e.n
 n1:e.n <= 60
 tick:e.kind=2 -> 1 <= e.n
 val:e.kind=1\/e.kind=3 -> e.val.known
 told:uZ fs e.nm e.val.k=0\/uZ fs e.nm e.val.k=2\/e.kind≠1
structure PsOk (fm:Fm) (p:Pol) (ρ:List Int) (lv:Nat -> Nat) (k:Nat) (s:Ps):Prop where
 m:MOk fm p ρ lv k s.E []
 net:s.net.length <= 24
 ltr:∀ x∈s.net,LnOk fm.fields s.E.last x
 tm:s.t <= fm.pages.length
 pk:PathOk (s.path++[(s.t:Int)]) fm.pages.length
 lp:s.path.length <= k
section
variable {fm:Fm} {p:Pol} {ρ:List Int} {lv:Nat -> Nat}
theorem MOk.no {k:Nat} {E:Eg} {lt:List Lt} (h:MOk fm p ρ lv k E lt):MOk fm p ρ lv k E []:=⟨h.ok,h.se,h.efm,h.epol,h.now,h.last,h.inp,Kj _,λx hx=>by cases hx⟩
theorem MOk.more {k:Nat} {E:Eg} (h:MOk fm p ρ lv k E []):MOk fm p ρ lv (k + 1) E []:=⟨h.ok,h.se,h.efm,h.epol,by have:=h.now; omega,by have:=h.last; omega,by have:=h.inp; omega,Kj _,λx hx=>by cases hx⟩
theorem LnOk.of {fs:List Fd} {last:Int} {x:Lt} (h:LtOk fs x) (i1:1 <= x.id) (i2:x.id <= last):LnOk fs last x:=⟨h.at_,h.key,i1,i2,.inl h.ans⟩
theorem LnOk.up {fs:List Fd} {last last':Int} {x:Lt} (h:LnOk fs last x) (hl:last <= last'):LnOk fs last' x:=⟨h.at_,h.key,h.i1,by have:=h.i2; omega,h.ans⟩
theorem PsOk.more {k:Nat} {s:Ps} (h:PsOk fm p ρ lv k s):PsOk fm p ρ lv (k + 1) s:=⟨h.m.more,h.net,h.ltr,h.tm,h.pk,by have:=h.lp; omega⟩
theorem PsOk.send {k:Nat} {s:Ps} (h:PsOk fm p ρ lv k s) (hk:k <= 85) {E':Eg} {on more:List Lt} (hs:MStep ρ s.E [] E' more) (hon:∀ x∈on,x∈s.net) (hmore:∀ x∈more,1 <= x.id):PsOk fm p ρ lv (k + 1) (sndF s E' on more).2:=by
 have hm:=h.m.step (by omega) hs;have hll:s.E.last <= E'.last:=by
  cases hs with
  | stay=>exact Sq _
  | tick dt d1 d2 =>
   have hn:=h.m.now;exact (cZ (tickE_ok h.m.ok (n:=dt) (by omega) (by omega))).2.2
  | tell nm v hv ht=>exact (cZ (tellE_ok h.m.ok hv ht (by have:=h.m.inp; omega))).2.2
  | hear i f x c hf hc hx ht=>exact (cZ (hearE_ok h.m.ok hf hc hx ht)).2.2
 by_cases q:on.length + more.length <= 24
 ·rw [snd_yes q];refine ⟨hm.no,by show (on++more).length <= 24; rw [Bk]; exact q,λx hx=>?_,h.tm,h.pk,by show s.path.length <= _; have:=h.lp; omega⟩;rcases Rj.1 hx with a | a
  ·exact (h.ltr x (hon x a)).up hll
  ·obtain ⟨b1,b2⟩:=hm.ltr x a;exact .of b1 (hmore x a) b2
 ·rw [snd_no q];exact h.more
theorem set_ids {E:Eg} (hok:EgOk E ρ lv):∀ x∈(bZ E ρ).out,1 <= x.id:=λx hx=>by
 have:=(setE_out hok x hx).2.1
 have:=hok.l0
 omega
theorem tick_ids {E:Eg} (hok:EgOk E ρ lv) {n:Int}:∀ x∈tickT E n,1 <= x.id:=λx hx=>by
 obtain ⟨i,f,c,hf,hc,hw,rfl⟩:=askT_mem hx;obtain ⟨w1,w2,w3⟩:=wake_asks hw
 have:=((hok.calls.at_ i f c hf hc).1.live (by omega)).i1
 rw [w3];exact this
theorem path_last {l:List Int} {q:Int} (h:l.getLast?=some q):l=l.dropLast++[q]:=by
 cases l with
 | nil=>cases h
 | cons a l =>
  rw [List.getLast?_eq_some_getLast (List.cons_ne_nil _ _)] at h;rw [<- Hq h,List.dropLast_concat_getLast]
theorem PsOk.step {k:Nat} {s:Ps} {e:Ev} (h:PsOk fm p ρ lv k s) (hk:k <= 85) (he:EvOk fm.fields e):PsOk fm p ρ lv (k + 1) (evF ρ s e).2:=by
 have hm:=h.m;unfold evF
 by_cases k1:e.kind=1
 ·rw [Cj k1]
  by_cases q:uZ s.E.fm.fields e.nm e.val.k=0
  ·rw [Cj q];exact h.send hk (.tell e.nm e.val (he.val (.inl k1)) q) (λx hx=>hx) (set_ids (tellE_ok hm.ok (he.val (.inl k1)) q (by have:=hm.inp; omega)))
  ·rw [Bj q]; exact h.more
 rw [Bj k1]
 by_cases k2:e.kind=2
 ·rw [Cj k2];have n1:=he.tick k2;have n2:=he.n1;have hn:=hm.now;refine h.send hk (.tick e.n n1 n2) (λx hx=>hx) λx hx=>?_;rcases Rj.1 hx with a | a
  ·exact tick_ids hm.ok x a
  ·exact set_ids (tickE_ok hm.ok (n:=e.n) (by omega) (by omega)) x a
 rw [Bj k2]
 by_cases k3:e.kind=3
 ·rw [Cj k3]
  cases q:s.net[e.n.toNat]? with
  | none=>exact h.more
  | some x =>
   simp only
   by_cases g:x.ans.k≠0
   ·rw [Cj g]; exact h.more
   ·rw [Bj g];have hx:=h.ltr x (Dj q);refine ⟨hm.more,by show (s.net.set _ _).length <= 24; rw [Lq]; exact h.net,λy hy=>?_,h.tm,h.pk,by show s.path.length <= _; have:=h.lp; omega⟩;rcases Vx hy with a | a
    ·exact h.ltr y a
    ·rw [a]; exact ⟨hx.at_,hx.key,hx.i1,hx.i2,.inr (he.val (.inr k3))⟩
 rw [Bj k3]
 by_cases k4:e.kind=4
 ·rw [Cj k4]
  by_cases q:e.n.toNat < s.net.length
  ·rw [Cj q];exact ⟨hm.more,Wk (List.length_eraseIdx_le _ _) h.net,λy hy=>h.ltr y (Xv hy),h.tm,h.pk,by show s.path.length <= _; have:=h.lp; omega⟩
  ·rw [Bj q]; exact h.more
 rw [Bj k4]
 by_cases k5:e.kind=5
 ·rw [Cj k5]
  cases q:s.net[e.n.toNat]? with
  | none=>exact h.more
  | some x =>
   simp only
   by_cases g:s.net.length=24
   ·rw [Cj g]; exact h.more
   ·rw [Bj g];have hnl:=h.net;have hil:=(Oj.1 q).1;refine ⟨hm.more,by show (s.net.take _++x :: s.net.drop _).length <= 24; rw [Bk,Tk,Uj,Kv]; omega,λy hy=>?_,h.tm,h.pk,by show s.path.length <= _; have:=h.lp; omega⟩;rcases Rj.1 hy with a | a
    ·exact h.ltr y (Rv a)
    ·rcases Tj.1 a with a | a
     ·rw [a]; exact h.ltr x (Dj q)
     ·exact h.ltr y (Rq a)
 rw [Bj k5]
 by_cases k6:e.kind=6
 ·rw [Cj k6]
  cases q:s.net[e.n.toNat]? with
  | none=>exact h.more
  | some x =>
   simp only
   by_cases g:x.ans.k=0
   ·rw [Cj g]; exact h.more
   ·rw [Bj g];have hx:=h.ltr x (Dj q);obtain ⟨i,f,hf,hn,h3⟩:=hx.at_;have hff:s.E.fm.fields[i]?=some f:=by rw [hm.efm]; exact hf
    obtain ⟨c,hc⟩:∃ c,s.E.calls[i]?=some c:=⟨_,Gj (by rw [hm.ok.calls.len]; exact (Oj.1 hff).1)⟩;have ha:OkV x.ans:=by
     rcases hx.ans with a | a
     ·rw [a] at g; exact absurd rfl g
     ·exact .inl a
    obtain ⟨e1,e2⟩:=hrdX_at (ρ:=ρ) (x:=x) hm.ok.fm.fields.nodup hff hn hc;rw [e1,e2];refine h.send hk (hrd_step (lt:=[]) hff hc ha) (λy hy=>Xv hy) λy hy=>?_
    by_cases ht:Takes f x c
    ·rw [(hrd_yes (E:=s.E) (ρ:=ρ) (i:=i) ht).2.1] at hy;exact set_ids (hearE_ok hm.ok hff hc ha ht) y hy
    ·rw [(hrd_no (E:=s.E) (ρ:=ρ) (i:=i) ht).2.1] at hy
     cases hy
 rw [Bj k6]
 by_cases k7:e.kind=7
 ·rw [Cj k7]
  cases q:nextE s.E s.t with
  | none=>exact h.more
  | some a =>
   simp only;obtain ⟨q1,q2⟩:s.t < a /\ a <= fm.pages.length:=by
    have hsc:∀ (pass:Nat -> Bool × Bool) (k j:Nat),scanF pass k j=some a -> j <= a /\ a <= j + k:=λpass k=>by
     induction k with
     | zero=>intro j hj; rw [scanF] at hj; have:=Hq hj; omega
     | succ k ih =>
      intro j hj;rw [scanF] at hj
      split at hj
      ·have:=ih (j + 1) hj; omega
      ·split at hj
       ·have:=Hq hj; omega
       ·cases hj
    unfold nextE at q
    split at q
    ·rename_i pg hpg;have hlt:=(Oj.1 hpg).1
     split at q
     ·have:=hsc _ _ _ q
      rw [hm.efm] at this hlt;omega
     ·cases q
    ·cases q
   have hp:PathOk ((s.path++[(s.t:Int)])++[(a:Int)]) fm.pages.length:=by
    refine ⟨List.pairwise_append.2 ⟨h.pk.rise,List.pairwise_singleton _ _,λx hx y hy=>?_⟩,λx hx=>?_,λx hx=>?_⟩
    ·rw [Pj.1 hy];rcases Rj.1 hx with g | g
     ·have:=(List.pairwise_append.1 h.pk.rise).2.2 x g (s.t:Int) (by simp)
      omega
     ·rw [Pj.1 g]; omega
    ·rcases Rj.1 hx with g | g
     ·exact h.pk.lo x g
     ·rw [Pj.1 g]; omega
    ·rcases Rj.1 hx with g | g
     ·exact h.pk.hi x g
     ·rw [Pj.1 g]; omega
   refine ⟨hm.more,h.net,h.ltr,q2,hp,?_⟩;show (s.path++[_]).length <= _;rw [Bk]
   have:=h.lp
   simp only [Tk,Jq];omega
 rw [Bj k7]
 cases q:s.path.getLast? with
 | none=>exact h.more
 | some a =>
  simp only;have e1:=path_last q;have ha0:=h.pk.lo a (by rw [e1]; simp);have ha1:=h.pk.hi a (by rw [e1]; simp);have e2:((a.toNat:Nat):Int)=a:=Int.toNat_of_nonneg ha0;refine ⟨hm.more,h.net,h.ltr,by show a.toNat <= _; omega,?_,by show s.path.dropLast.length <= _; rw [List.length_dropLast]; have:=h.lp; omega⟩;show PathOk (s.path.dropLast++[((a.toNat:Nat):Int)]) _;rw [e2, <- e1];exact ⟨(List.pairwise_append.1 h.pk.rise).1,λx hx=>h.pk.lo x (Gk _ hx),λx hx=>h.pk.hi x (Gk _ hx)⟩
end
def stP (ρ:List Int) (s:Ps) (es:List Ev):Ps:=es.foldl (λs e=>(evF ρ s e).2) s
def rpP (ρ:List Int):Ps -> List Ev -> List (Int × Nat)
 | _,[]=>[]
 | s,e :: es=>((evF ρ s e).1,(evF ρ s e).2.t) :: rpP ρ (evF ρ s e).2 es
theorem stP_snoc (ρ:List Int) (s:Ps) (es:List Ev) (e:Ev):stP ρ s (es++[e])=(evF ρ (stP ρ s es) e).2:=by unfold stP; rw [Gx]; rfl
theorem rpP_snoc (ρ:List Int):∀ (es:List Ev) (s:Ps) (e:Ev),rpP ρ s (es++[e])=rpP ρ s es++[((evF ρ (stP ρ s es) e).1,(evF ρ (stP ρ s es) e).2.t)]
 | [],s,e=>rfl
 | x :: es,s,e=>by
  show _ :: rpP ρ (evF ρ s x).2 (es++[e])=_ :: (rpP ρ (evF ρ s x).2 es++_);rw [rpP_snoc ρ es (evF ρ s x).2 e]; rfl
theorem rpP_len (ρ:List Int):∀ (es:List Ev) (s:Ps),(rpP ρ s es).length=es.length
 | [],_=>rfl
 | _ :: es,s=>Ej (· + 1) (rpP_len ρ es _)
theorem PsOk.run {fm:Fm} {p:Pol} {ρ:List Int} {lv:Nat -> Nat} {s:Ps} (h:PsOk fm p ρ lv 0 s):∀ (es:List Ev),(∀ e∈es,EvOk fm.fields e) -> es.length <= 80 -> PsOk fm p ρ lv es.length (stP ρ s es):=λes=>by
 have key:∀ k,k <= es.length -> (∀ e∈es,EvOk fm.fields e) -> es.length <= 80 -> PsOk fm p ρ lv k (stP ρ s (es.take k)):=λk=>by
  induction k with
  | zero=>intro _ _ _; exact h
  | succ k ih =>
   intro hk he hl;obtain ⟨e,hek⟩:∃ e,es[k]?=some e:=⟨_,Gj hk⟩;rw [Iv,hek];show PsOk fm p ρ lv (k + 1) (stP ρ s (es.take k++[e]));rw [stP_snoc];exact (ih (by omega) he hl).step (by omega) (he e (Dj hek))
 intro he hl
 have:=key es.length (Ij _) he hl
 rw [Ik] at this;exact this
end Go.Proofs.YthplkompdehjlaaGreat
