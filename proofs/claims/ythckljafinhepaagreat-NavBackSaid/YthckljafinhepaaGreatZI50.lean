/-
  Contracts of package nav: Next, Back; of the laws' filled.
-/
import Derived.Test.YthckljafinhepaaGreatZI46
import Derived.Test.YthckljafinhepaaGreatZI49
import Derived.Test.YthckljafinhepaaGreatZI44
set_option maxRecDepth 100000
namespace Go.Proofs.YthckljafinhepaaGreat
open Go.RowKit
set_option linter.unusedVariables false
set_option maxHeartbeats 4000000 in
theorem navFacts_l (fs:List Fd) (va:List Vl) (A:Option Addr) (n c:Nat) (B:Option Addr) (m d:Nat) (A1:Option Addr) (c1:Nat) (h:Vw) (hf:IsFds h (.slice A n c) fs) (hn:n=fs.length) (few:n≤1000) (ha:RS h 3 (.slice A1 n c1) (sX va)) (la:va.length=n) :
  C0 Tryz.prog 82 #[.agg #[.slice A n c,.slice B m d],.slice A1 n c1] h (fun r h'=>∃ u,r=.slice (sA u) (sN u) (sC u)∧RS h' 7 (.slice (sA u) (sN u) (sC u)) (zK (fcs fs va))):=by
 obtain ⟨vs,A',c',e,-,-,hr,hs,hvl,hsl⟩:=dQ hf
 simp only [Value.slice.injEq] at e
 obtain ⟨rfl,-,rfl⟩:=e
 rw [← hn] at hr hvl
 have hfl:=fun k (q:k≤n)=>fcs_len (fs:=fs.take k) (v:=va.take k) (by simp; omega)
 refine yX Tryz.func82 (c:=Tryz.f82.body.getD .skip) (N:=28) ?_
 intro hbx hbad Q hQ a w hJ
 refine rk' hJ false 21 [.own,.b 0 0] [] (.new fun b1=>.m (.code [0,1,0,1,1]) [.block 0,.seq [1,1,1]] [1] [(5,Vz),(9,.slice A n c),(10,Vi (n:Int)),(11,Vi 0)] [.box b1 [.slice A n c,.slice B m d]] []) (hr:=fun b1 _=>by kernel_rfl) ?_
 clear hJ a w; intro b1 a w hJ
 replace hJ:=hJ.nilrow 54 7
 refine eY (fun (k:Nat) a w=>∃ (h2:Vw) (v:Value),K ⟨28,h.w,h.bad,[]⟩ [(1,.slice A1 n c1),(9,.slice A n c),(10,Vi (n:Int)),(11,Vi (k:Int)),(5,v)] [.row v 54 7 (zK (fcs (fs.take k) (va.take k))),.box b1 [.slice A n c,.slice B m d]] [] h2 a w∧Sees h h2∧(k≤n)) (fun k=>n - k) (0) ⟨h,(Vz),hJ.tw,Sees.refl _,Nat.zero_le _⟩ ?_
 clear hJ a w; rintro k a w ⟨h2,v,hJ,s3,hk⟩
 refine rk' hJ false 6 [] [] (.k (.code [0,1,0,0,1,0,1,1]) [.seq [1,1,0,0,1,0,1,1]] [1,9,10,11,5] [(12,.bool (decide ((k:Int) < (n:Int))))]) ?_
 clear hJ a w; intro a w hJ
 rcases (by omega:k < n∨k=n) with hlt | hke
 ·obtain ⟨x,hx⟩:∃ x,fs[k]?=some x:=⟨_,List.getElem?_eq_getElem (by omega)⟩
  obtain ⟨u,hu⟩:∃ u,vs[k]?=some u:=⟨_,List.getElem?_eq_getElem (by omega)⟩
  obtain ⟨xa,hxa⟩:∃ y,va[k]?=some y:=⟨_,List.getElem?_eq_getElem (by omega)⟩
  have hrow:=bQ hx hu
  have hra:=vlRows_get hxa
  obtain ⟨Au,nu,cu,rfl⟩:=(AllArgs.get hs (x:=x.src) (by rw [List.getElem?_map,hx]; rfl) hu).slice
  have hsn:=fcs_snoc (fs:=fs.take k) (vs:=va.take k) x xa (by simp; omega)
  rw [← pX _ k x hx,← pX _ k xa hxa] at hsn
  have hl2:=hfl k hk
  rw [List.length_take] at hl2
  have hl3:(zK (fcs (fs.take k) (va.take k))).length=(fcs (fs.take k) (va.take k)).length:=List.length_map _
  refine kY hJ (t:=decide ((k:Int) < (n:Int))) (decide_eq_true (by omega)) ?_
  refine rk' hJ false 7 [] [] (.k (.ops [0,0,0,1,1,0,0,1,0,1,1] 1) [.seq [1,0,0,1,1,0,0,1,0,1,1],.block 1,.seq [1,1,1,0,0,1,0,1,1]] [1,9,10,11,5] [(13,Vi (k:Int))]) ?_
  clear hJ a w; intro a w hJ
  obtain ⟨b4,o5,rfl,-,c6⟩:=RS.row hr (hrow)
  replace hJ:=hJ.fact (c6.sees s3)
  refine rk hJ false 7 [.ix b4 o5 n c k,.f 0 0,.own,.b 0 0] [] (.new fun b7=>.f (.code [1,0,0,1,1,0,0,1,0,1,1]) [.block 1,.seq [1,1,1,0,0,1,0,1,1]] [1,9,10,11,5] [(7,Vp b7),(6,Vi (k:Int))] [.box b7 [.string x.name,Vi x.kind,Vi x.ty,Vi x.src.op,Vi x.src.k,Vi x.src.n,.string x.src.s,.string x.src.nm,.slice Au nu cu],.row v 54 7 (zK (fcs (fs.take k) (va.take k))),.box b1 [.slice (some ⟨b4,o5,none⟩) n c,.slice B m d]] [.o 0]) (And.intro (by first | omega | (simp; omega)) (trivial)) trivial (fun b7 _=>by kernel_rfl) ?_
  clear hJ a w; intro b7 a w hJ
  obtain ⟨b8,o9,rfl,-,c10⟩:=RS.row ha (hra)
  replace hJ:=hJ.fact (c10.sees s3)
  let R:Reg:=⟨⟨28,h.w,h.bad,[]⟩,[(0,16,fun gh=>v),(1,17,fun gh=>Vp b7),(2,18,fun gh=>.string x.name),(3,19,fun gh=>.slice (some ⟨b8,o9,none⟩) n c1),(4,20,fun gh=>Vi (k:Int)),(5,21,fun gh=>.pointer (some ⟨b8,o9 + k * 3,none⟩)),(6,22,fun gh=>.agg #[Vi xa.k,Vi xa.n,.string xa.s]),(7,23,fun gh=>.agg #[.string x.name,Vi 0,Vi 0,Ve,Vi xa.k,Vi xa.n,.string xa.s]),(8,24,fun gh=>.slice (some ⟨(zJ (gh 8)),0,none⟩) 1 1),(9,25,fun gh=>.slice (sA (gh 9)) (sN (gh 9)) (sC (gh 9))),(10,5,fun gh=>.slice (sA (gh 9)) (sN (gh 9)) (sC (gh 9)))],[(1,.slice (some ⟨b8,o9,none⟩) n c1),(9,.slice (some ⟨b4,o5,none⟩) n c),(10,Vi (n:Int)),(11,Vi (k:Int)),(5,v),(7,Vp b7),(6,Vi (k:Int))],[⟨some (.box b7 [.string x.name,Vi x.kind,Vi x.ty,Vi x.src.op,Vi x.src.k,Vi x.src.n,.string x.src.s,.string x.src.nm,.slice Au nu cu]),[]⟩,⟨some (.row v 54 7 (zK (fcs (fs.take k) (va.take k)))),[(9,fun gh=>.row (.slice (sA (gh 9)) (sN (gh 9)) (sC (gh 9))) 54 7 ((zK (fcs (fs.take k) (va.take k)))++[[.string x.name,Vi 0,Vi 0,Ve,Vi xa.k,Vi xa.n,.string xa.s]]))]⟩,⟨some (.box b1 [.slice (some ⟨b4,o5,none⟩) n c,.slice B m d]),[]⟩],[(8,fun gh hh=>Cells hh (zJ (gh 8)) 0 [.string x.name,Vi 0,Vi 0,Ve,Vi xa.k,Vi xa.n,.string xa.s])],[[],[],[1],[],[],[3,4],[3,4,5],[1,2,3,4,5,6],[1,2,3,4,5,6,7],[0,1,2,3,4,5,6,7,8],[0,1,2,3,4,5,6,7,8,9]],h2⟩
  have hmono:∀ zq∈R.F,∀ zx zh zi,Sees zh zi→zq.2 zx zh→zq.2 zx zi:=eV (fun _ _ _ s c=>c.sees s) (lJ)
  refine iY (by kernel_rfl) R hJ 11 [.pu,.pu,.ld 0 0,.pu,.pu,.cl,.lf 0 0,.pu,.cl,.cl,.pu] (by kernel_rfl) hmono (fun _ _ _=>by kernel_rfl) (fun hT hA=>?_) ?_
  ·clear hJ
   refine And.intro (pW hT hA 21 (fun gh=>.pointer (some ⟨b8,o9 + k * 3,none⟩)) [3,4] 5 (fun gh w=>fX (t:=32) (x:=(.tmp 19)) (y:=(.tmp 20)) (b:=b8) (off:=o9) (n:=n) (cap:=c1) (k:=k) (e:=38) (kk:=3) (by kernel_rfl) (by kernel_rfl) (by kernel_rfl) (by first | omega | (simp; omega)) Tryz.underlying32 (by kernel_rfl))) ?_
   refine And.intro (r_fact hT hA hmono ⟨fun _ _=>by kernel_rfl,fun _ _=>by kernel_rfl,fun _ _=>by kernel_rfl⟩ 24 (fun g=>Vs g 1 1) [7] 8 (by kernel_rfl) (by kernel_rfl) (fun _=>by kernel_rfl) (fun gh=>[.string x.name,Vi 0,Vi 0,Ve,Vi xa.k,Vi xa.n,.string xa.s]) 54 (fun _ _=>by kernel_rfl) (fun gh zb zH zc zj zq zhq zhe=>own_fact (i:=8) (k:=0) (f:=fun gh hh=>Cells hh (zJ (gh 8)) 0 [.string x.name,Vi 0,Vi 0,Ve,Vi xa.k,Vi xa.n,.string xa.s]) (by kernel_rfl) (by kernel_rfl) zc zj zq zhq zhe)) ?_
   refine And.intro (nW hT hA hmono ⟨fun _ _=>by kernel_rfl,fun _ _=>by kernel_rfl,fun _ _=>by kernel_rfl⟩ 25 [0,8] 9 1 ⟨some (.row v 54 7 (zK (fcs (fs.take k) (va.take k)))),[(9,fun gh=>.row (.slice (sA (gh 9)) (sN (gh 9)) (sC (gh 9))) 54 7 ((zK (fcs (fs.take k) (va.take k)))++[[.string x.name,Vi 0,Vi 0,Ve,Vi xa.k,Vi xa.n,.string xa.s]]))]⟩ (fun gh=>v) 28 54 7 (fun gh=>zK (fcs (fs.take k) (va.take k))) (fun gh=>[[.string x.name,Vi 0,Vi 0,Ve,Vi xa.k,Vi xa.n,.string xa.s]]) (.tmp 16) (.tmp 24) (fun gh=>(zJ (gh 8))) 1 1 0 8 (fun gh hh=>Cells hh (zJ (gh 8)) 0 [.string x.name,Vi 0,Vi 0,Ve,Vi xa.k,Vi xa.n,.string xa.s]) (fun _ _ c=>c) Tryz.underlying28 (zv:=.agg #[Ve,Vi 0,Vi 0,Ve,Vi 0,Vi 0,Ve]) (bytes:=80) (fun _=>by constructor <;> (simp; omega))) ?_
   trivial
  clear hJ a w; intro gh h13 a w sR hJ1 hF; have s14:Sees h2 h13:=sR; clear sR
  have hJ:K ⟨28,h.w,h.bad,[]⟩ [(1,.slice (some ⟨b8,o9,none⟩) n c1),(9,.slice (some ⟨b4,o5,none⟩) n c),(10,Vi (n:Int)),(11,Vi (k:Int)),(5,.slice (sA (gh 9)) (sN (gh 9)) (sC (gh 9)))] [.box b7 [.string x.name,Vi x.kind,Vi x.ty,Vi x.src.op,Vi x.src.k,Vi x.src.n,.string x.src.s,.string x.src.nm,.slice Au nu cu],.row (.slice (sA (gh 9)) (sN (gh 9)) (sC (gh 9))) 54 7 ((zK (fcs (fs.take k) (va.take k)))++[[.string x.name,Vi 0,Vi 0,Ve,Vi xa.k,Vi xa.n,.string xa.s]]),.box b1 [.slice (some ⟨b4,o5,none⟩) n c,.slice B m d]] [(b8,o9 + k * 3,[Vi xa.k,Vi xa.n,.string xa.s]),(b4,o5 + k * 9,[.string x.name,Vi x.kind,Vi x.ty,Vi x.src.op,Vi x.src.k,Vi x.src.n,.string x.src.s,.string x.src.nm,.slice Au nu cu])] h13 a w:=hJ1.tw
  have f11:Cells h13 (zJ (gh 8)) 0 [.string x.name,Vi 0,Vi 0,Ve,Vi xa.k,Vi xa.n,.string xa.s]:=Reg.fact (i:=8) (f:=fun gh hh=>Cells hh (zJ (gh 8)) 0 [.string x.name,Vi 0,Vi 0,Ve,Vi xa.k,Vi xa.n,.string xa.s]) hF 0 (by kernel_rfl)
  replace hJ:=hJ.fact f11
  clear hJ1 hF hmono R
  generalize zJ (gh 8)=b12 at *
  generalize gh 9=v25 at *
  clear gh
  refine rk' hJ false 6 [] [(26,Vi (IntKind.i64.wrap ((k:Int) + 1)),Vi ((k:Int) + 1))] (.k (.out .normal) [] [1,9,10,5] [(11,Vi ((k:Int) + 1))]) (hc:=And.intro (kJ (by omega) (by omega)) (trivial)) ?_
  clear hJ a w; intro a w hJ
  replace hJ:=hJ.drop 0
  exact jY ⟨k + 1,⟨h13,.slice (sA v25) (sN v25) (sC v25),(hJ.tof [] (F':=[]) (by kernel_rfl)).to (by kernel_rfl) (by rw [hsn,fcRows_snoc]; rfl) rfl,(s3.trans s14),by omega⟩,by omega⟩
 ·skip
  have t1:fs.take k=fs:=by rw [hke,hn,List.take_length]
  have t2:va.take k=va:=by rw [hke,← la,List.take_length]
  rw [t1,t2] at hJ
  have hrl:(zK (fcs fs va)).length=(fcs fs va).length:=List.length_map _
  obtain ⟨Ar,cr,hE_v,hc_v,hm_v⟩:=hJ.form (v:=v) (e:=54) (k:=7) (l:=zK (fcs fs va)) 0 (by kernel_rfl)
  rw [show (zK (fcs fs va)).length=(fcs fs va).length from by first | omega | (simp; done) | (simp; omega)] at hE_v hc_v
  rw [hE_v] at hJ
  refine aY hJ (t:=decide ((k:Int) < (n:Int))) (decide_eq_false (by omega)) ?_
  refine rk' hJ false 2 [] [] (.k (.out (.exit 0)) [] [5] []) ?_
  clear hJ a w; intro a w hJ
  refine dY rfl ?_
  refine rk' hJ false 9 [] [] (.k (.out .ret) [] [] [(4,.slice Ar ((fcs fs va).length) cr)]) ?_
  clear hJ a w; intro a w hJ
  have fr:=hJ.j.rowOut0 (v:=.slice Ar ((fcs fs va).length) cr) (e:=54) (k:=7) (l:=zK (fcs fs va)) 0 (by kernel_rfl) rfl
  refine zX (hQ [.slice Ar ((fcs fs va).length) cr] _ [] hJ (.rtm hJ.j .nil) (fJ _) rfl ?_).1
  exact ⟨.slice Ar (fcs fs va).length cr,rfl,fr⟩
def passB (p:Pg) (env:Env):Bool × Bool:=if p.skip.op=0 then (false,true) else ((nK env p.skip).n == 1,(nK env p.skip).k == 2)
theorem passed_any (fs:List Fd) (ps:List Pg) (hok:OkGs fs ps) (p:Pg) (hp:p∈ps) (A:Option Addr) (n c:Nat) (v:Value) (env:Env) (sl:Value) (h:Vw) (ha:IsArgs h p.skip v) (hr:RS h 7 sl (zK env)) (hok':∀ q∈env,OkV q.2) (hl:env.length≤1000) :
  C0 Tryz.prog 81 #[.agg #[.string p.name,.slice A n c,.int .i64 p.skip.op,.int .i64 p.skip.k,.int .i64 p.skip.n,.string p.skip.s,.string p.skip.nm,v],sl] h (fun r _=>r=.tuple #[.bool (passB p env).1,.bool (passB p env).2]):=by
 obtain ⟨As,cs,rfl,-,-,-⟩:=hr.form
 rw [List.length_map] at *
 unfold passB
 rcases hok.skip p hp with g | ⟨g1,g2,g3,g4⟩
 ·obtain ⟨Av,cv,rfl⟩:=args_zero (by rw [g]; rfl) ha
  rw [g]
  refine yX Tryz.func81 (c:=Tryz.f81.body.getD .skip) (N:=23) ?_
  intro hbx hbad Q hQ a w hJ
  refine rx' hJ false 23 [.own,.b 0 0,.cl 104 #[.agg #[.string p.name,.slice A n c,Vi 0,Vi 0,Vi 0,Ve,Ve,.slice Av 0 cv]] (.bool true)] [] (.new fun b1=>.ok (.out .ret) [] [(4,.bool false),(5,.bool true)] [.box b1 [.string p.name,.slice A n c,Vi 0,Vi 0,Vi 0,Ve,Ve,.slice Av 0 cv]] []) (ho:=And.intro (fun H sH=>never_yes _ _ _ _ _ _ _) (trivial)) (fun b1 _=>by kernel_rfl) ?_
  clear hJ a w; intro b1 a w hJ
  refine zX (hQ [.bool false,.bool true] _ [] hJ (.rtm hJ.j (.rtm hJ.j .nil)) (fJ _) rfl ?_).1
  exact rfl
 ·obtain ⟨Av,nv,cv,rfl⟩:=ha.slice
  have hck:chkE p.skip=0:=by
   unfold fitsE ofE at g4
   by_cases e:chkE p.skip=0
   ·exact e
   ·rw [if_neg e,if_neg e] at g4; exact absurd g4 e
  have hz:(szE p.skip).1≤60:=by
   unfold chkE at hck
   split at hck
   ·cases hck
   ·omega
  have hE:=fun H q1 q2=>eval_any p.skip (.slice Av nv cv) env (.slice As env.length cs) H q1 g2 hz (chk_deep hck) q2 hok' hl
  rw [if_neg g1]
  generalize nK env p.skip=x at *
  refine yX Tryz.func81 (c:=Tryz.f81.body.getD .skip) (N:=23) ?_
  intro hbx hbad Q hQ a w hJ
  refine rx' hJ false 32 [.own,.b 0 0,.cl 104 #[.agg #[.string p.name,.slice A n c,Vi p.skip.op,Vi p.skip.k,Vi p.skip.n,.string p.skip.s,.string p.skip.nm,.slice Av nv cv]] (.bool false),.b 0 2,.cl 57 #[.agg #[Vi p.skip.op,Vi p.skip.k,Vi p.skip.n,.string p.skip.s,.string p.skip.nm,.slice Av nv cv],.slice As env.length cs] (.tuple #[.agg #[Vi x.k,Vi x.n,.string x.s],Vi 0]),.own,.b 0 0] [] (.new fun b1=>.new fun b2=>.ok (.code [0,1,1,1]) [.seq [1,1,1,1]] [(6,Vp b2)] [.box b2 [Vi x.k,Vi x.n,.string x.s],.box b1 [.string p.name,.slice A n c,Vi p.skip.op,Vi p.skip.k,Vi p.skip.n,.string p.skip.s,.string p.skip.nm,.slice Av nv cv]] []) (ho:=And.intro (fun H sH=>never_no _ _ _ _ _ _ _ _ _ g1) (And.intro (fun H sH=>hE _ (ha.sees sH) (hr.sees sH)) (trivial))) (fun b1 b2 _=>by kernel_rfl) ?_
  clear hJ a w; intro b1 b2 a w hJ
  let R:Reg:=⟨⟨23,h.w,h.bad,[]⟩,[(0,17,fun gh=>.pointer (some ⟨b2,1,none⟩)),(1,18,fun gh=>Vi x.n),(2,19,fun gh=>.bool (x.n == 1)),(3,20,fun gh=>Vp b2),(4,21,fun gh=>Vi x.k),(5,22,fun gh=>.bool (x.k == 2)),(6,4,fun gh=>.bool (x.n == 1)),(7,5,fun gh=>.bool (x.k == 2))],[(6,Vp b2)],[⟨some (.box b2 [Vi x.k,Vi x.n,.string x.s]),[]⟩,⟨some (.box b1 [.string p.name,.slice A n c,Vi p.skip.op,Vi p.skip.k,Vi p.skip.n,.string p.skip.s,.string p.skip.nm,.slice Av nv cv]),[]⟩],[],[[],[0],[0,1],[],[3],[3,4],[0,1,2],[0,1,2,3,4,5,6]],h⟩
  have hmono:∀ zq∈R.F,∀ zx zh zi,Sees zh zi→zq.2 zx zh→zq.2 zx zi:=lJ
  refine iY (by kernel_rfl) R hJ 8 [.pu,.ld 0 1,.pu,.pu,.ld 0 0,.pu,.pu,.pu] (by kernel_rfl) hmono (fun _ _ _=>by kernel_rfl) (fun hT hA=>?_) ?_
  ·trivial
  clear hJ a w; intro gh h3 a w sR hJ1 hF; have s4:Sees h h3:=sR; clear sR
  have hJ:K ⟨23,h.w,h.bad,[]⟩ [(4,.bool (x.n == 1)),(5,.bool (x.k == 2))] [.box b2 [Vi x.k,Vi x.n,.string x.s],.box b1 [.string p.name,.slice A n c,Vi p.skip.op,Vi p.skip.k,Vi p.skip.n,.string p.skip.s,.string p.skip.nm,.slice Av nv cv]] [] h3 a w:=hJ1.tw
  clear hJ1 hF hmono R
  clear gh
  refine rk' hJ false 2 [] [] (.k (.out .ret) [] [4,5] []) ?_
  clear hJ a w; intro a w hJ
  refine zX (hQ [.bool (x.n == 1),.bool (x.k == 2)] _ [] hJ (.rtm hJ.j (.rtm hJ.j .nil)) (fJ _) rfl ?_).1
  exact rfl
def ClO (n:Nat) (l:List Int) (v u:Value) (r:List (List Value)) (h:Vw):Prop:=v=u∧(∃ A c,u=.slice A n c)∧r=wW l
theorem clone_own {h:Vw} {v:Value} {l:List Int} {n:Nat} (hr:RS h 1 v (wW l)) (hn:l.length=n) (hl:n≤1000000):C0 Tryz.prog 50 #[v] h (fun v h'=>∃ u r,Ent.ok h.w.heap.size h'.w (.row u 3 1 r)∧ClO n l v u r ⟨h'.w,u.ownBlock.toList++h'.bad⟩):=by
 intro a1 a2 a3 a4
 refine (c_cloneI hr (by omega) a1 a2 a3 a4).mono ?_
 rintro en w' ⟨v,Bo,h1,h2,h3,h4,r,h5,-,rfl⟩
 obtain ⟨A,c,e,-,-⟩:=yW h5
 exact ⟨v,Bo,h1,h2,h3,h4,v,_,h5,rfl,⟨A,c,by rw [e,List.length_map,hn]⟩,rfl⟩
def NextO (m:Nat) (path:List Int) (at_:Int) (r:Value) (h:Vw):Prop:=∃ (e a:Int) (u:Value) (b:Bool),r=.tuple #[.agg #[.int .i64 a,.slice (sA u) (sN u) (sC u),.bool b],.int .i64 e]∧(e=0→at_ < a∧a≤(m:Int)∧b=(a == (m:Int))∧RS h 1 (.slice (sA u) (sN u) (sC u)) (wW (path++[at_])))
set_option maxHeartbeats 8000000 in
theorem next_any (f:Fm) (ρ:List Int) (lv:Nat→Nat) (A:Option Addr) (n c:Nat) (B:Option Addr) (m d:Nat) (va:List Vl) (A1:Option Addr) (c1:Nat) (path:List Int) (A2:Option Addr) (c2:Nat) (t:Nat) (h:Vw) (hok:OkFm f ρ lv) (hf:IsForm h (.slice A n c) (.slice B m d) f) (hn:n=f.fields.length) (hm:m=f.pages.length)
  (hv:RS h 3 (.slice A1 n c1) (sX va)) (la:va.length=n) (ov:∀ x∈va,OkV x) (hp:RS h 1 (.slice A2 path.length c2) (wW path)) (lp:path.length≤90) (pk:PathOk (path++[(t:Int)]) m) :
  C0 Tryz.prog 44 #[.agg #[.slice A n c,.slice B m d],.slice A1 n c1,.agg #[.int .i64 (t:Int),.slice A2 path.length c2,.bool ((t:Int) == (m:Int))]] h (fun r h'=>NextO m path (t:Int) r h'):=by
 have hC:=fun H q1 q2 q3=>mV f ρ lv A n c B m d va A1 c1 path A2 c2 (t:Int) H hok q1 hn hm q2 la ov q3 (by omega) pk
 have few:=hok.fields.few
 have mfew:=hok.pages.few
 have a1:=pk.hi (t:Int) (by simp)
 have hcl:=fun H (q:RS H 1 (.slice A2 path.length c2) (wW path))=>c_cloneI q (by omega)
 have hcl2:=fun v H (q:RS H 1 v (wW (path++[(t:Int)])))=>clone_own (n:=path.length + 1) q (by simp) (by omega)
 have hFa:=fun H q1 q2=>navFacts_l f.fields va A n c B m d A1 c1 H q1 hn (by omega) q2 la
 have henv:∀ q∈fcs f.fields va,OkV q.2:=fcs_ok ov
 have hel:(fcs f.fields va).length≤1000:=by rw [fcs_len (by omega)]; omega
 have hpa:=fun p (q:p∈f.pages) A n c v sl H q1 q2=>passed_any f.fields f.pages hok.pages p q A n c v (fcs f.fields va) sl H q1 q2 henv hel
 have hpl:(wW path).length=path.length:=List.length_map _
 have hrw:wW path++[[.int .i64 (t:Int)]]=wW (path++[(t:Int)]):=by simp [wW]
 have hll:(path++[(t:Int)]).length=path.length + 1:=by simp
 have zero:∀ (h:Vw) (e:Int),e≠0→NextO m path (t:Int) (.tuple #[.agg #[.int .i64 0,.slice none 0 0,.bool false],.int .i64 e]) h:=fun h e he=>⟨e,0,.slice none 0 0,false,rfl,fun q=>absurd q he⟩
 obtain ⟨us,ws,B2,d2,e2,-,hpr,hps,hpg,-,-⟩:=pgs_open hf.pages
 simp only [Value.slice.injEq] at e2
 obtain ⟨rfl,-,rfl⟩:=e2
 rw [← hm] at hpr
 generalize fcs f.fields va=env at *
 generalize hnp:path.length=np at *
 refine yX Tryz.func44 (c:=Tryz.f44.body.getD .skip) (N:=88) ?_
 intro hbx hbad Q hQ a w hJ
 refine rk hJ false 34 [.own,.own,.own,.b 2 0,.b 1 0,.cl 52 #[.agg #[.slice A n c,.slice B m d],.slice A1 n c1,.agg #[Vi (t:Int),.slice A2 np c2,.bool ((t:Int) == (m:Int))]] (Vi 0),.b 1 2] [] (.new fun b1=>.new fun b2=>.new fun b3=>.m (.code [1,0,1,1]) [.seq [1,1,1]] [1] [(3,Vp b1),(5,Vp b2),(6,Vp b3),(23,.bool ((t:Int) == (m:Int)))] [.box b3 [Vi 0,Vz,.bool false],.box b2 [Vi (t:Int),.slice A2 np c2,.bool ((t:Int) == (m:Int))],.box b1 [.slice A n c,.slice B m d]] []) (And.intro (fun H sH=>hC _ (hf.sees sH) (hv.sees sH) (hp.sees sH)) (trivial)) trivial (fun b1 b2 b3 _=>by kernel_rfl) ?_
 clear hJ a w; intro b1 b2 b3 a w hJ
 by_cases g:(t:Int)=(m:Int)
 ·refine kY hJ (t:=(t:Int) == (m:Int)) (beq_iff_eq.2 g) ?_
  refine rk' hJ false 9 [.b 0 0] [] (.k (.out .ret) [] [6] [(7,Vi 13)]) ?_
  clear hJ a w; intro a w hJ
  refine zX (hQ [.agg #[Vi 0,Vz,.bool false],Vi 13] _ [] hJ (.rcel hJ.j 0 (.rtm hJ.j .nil)) (fJ _) rfl ?_).1
  exact zero _ 13 (by decide)
 ·skip
  obtain ⟨p,hpt⟩:∃ p,f.pages[t]?=some p:=⟨_,List.getElem?_eq_getElem (by omega)⟩
  have hL:=fun H q1 q2=>navLacks_any f ρ lv A n c B m d va A1 c1 t p H hok q1 hn hm q2 la ov hpt
  generalize yQ f.fields va p.fields=ln at *
  refine aY hJ (t:=(t:Int) == (m:Int)) (beq_eq_false_iff_ne.2 g) ?_
  refine rk' hJ false 9 [.b 2 0,.b 1 0] [] (.k (.ops [0,0,1,1,1] 4) [.seq [1,0,1,1,1],.seq [1,1,1,1]] [1,3,5,6] [(26,.agg #[.slice A n c,.slice B m d]),(27,.slice A1 n c1),(29,Vi (t:Int))]) ?_
  clear hJ a w; intro a w hJ
  refine wX hJ 30 (hL _ (hf.sees hJ.j.sees) (hv.sees hJ.j.sees)) (fun _=>by kernel_rfl) ?_; clear hJ a w; rintro _ h4 a w s5 ⟨A5,c5,rfl,hr5⟩ hJ
  refine rk' hJ false 14 [] [] (.k (.code [1,1,0,1,1,1]) [.seq [1,1,1,1]] [1,3,5,6] [(35,.bool (decide ((ln.length:Int) > 0)))]) ?_
  clear hJ a w; intro a w hJ
  rcases Nat.eq_zero_or_pos ln.length with hl0 | hl0
  ·skip
   refine aY hJ (t:=decide ((ln.length:Int) > 0)) (decide_eq_false (by omega)) ?_
   refine rk' hJ false 3 [] [] (.k (.code [0,1,1,1,1]) [.seq [1,1,1,1,1]] [1,3,5,6] []) ?_
   clear hJ a w; intro a w hJ
   let R:Reg:=⟨⟨88,h.w,h.bad,[]⟩,[(0,37,fun gh=>Vp b2),(1,38,fun gh=>Vi (t:Int)),(2,39,fun gh=>Vi ((t:Int) + 1)),(3,40,fun gh=>.pointer (some ⟨b2,1,none⟩)),(4,41,fun gh=>.slice A2 np c2),(5,42,fun gh=>.slice (sA (gh 5)) (sN (gh 5)) (sC (gh 5))),(6,43,fun gh=>Vp b2),(7,44,fun gh=>Vi (t:Int)),(8,45,fun gh=>.slice (some ⟨(zJ (gh 8)),0,none⟩) 1 1),(9,46,fun gh=>.slice (sA (gh 9)) (sN (gh 9)) (sC (gh 9))),(10,47,fun gh=>.agg #[Vi ((t:Int) + 1),.slice (sA (gh 9)) (sN (gh 9)) (sC (gh 9)),.bool false]),(11,11,fun gh=>.pointer (some ⟨(zJ (gh 11)),0,none⟩))],[(1,.slice A1 n c1),(3,Vp b1),(5,Vp b2),(6,Vp b3)],[⟨none,[(5,fun gh=>.row (.slice (sA (gh 5)) (sN (gh 5)) (sC (gh 5))) 3 1 (wW path)),(9,fun gh=>.row (.slice (sA (gh 9)) (sN (gh 9)) (sC (gh 9))) 3 1 ((wW path)++[[Vi (t:Int)]]))]⟩,⟨none,[(11,fun gh=>.box (zJ (gh 11)) [Vi 0,Vz,.bool false]),(12,fun gh=>.box (zJ (gh 11)) [Vi ((t:Int) + 1),.slice (sA (gh 9)) (sN (gh 9)) (sC (gh 9)),.bool false])]⟩,⟨some (.box b3 [Vi 0,Vz,.bool false]),[]⟩,⟨some (.box b2 [Vi (t:Int),.slice A2 np c2,.bool ((t:Int) == (m:Int))]),[]⟩,⟨some (.box b1 [.slice A n c,.slice B m d]),[]⟩],[(8,fun gh hh=>Cells hh (zJ (gh 8)) 0 [Vi (t:Int)])],[[],[0],[0,1],[],[3],[3,4],[],[6],[6,7],[3,4,5,6,7,8],[0,1,2,3,4,5,6,7,8,9],[],[0,1,2,3,4,5,6,7,8,9,10,11]],h4⟩
   have hmono:∀ zq∈R.F,∀ zx zh zi,Sees zh zi→zq.2 zx zh→zq.2 zx zi:=eV (fun _ _ _ s c=>c.sees s) (lJ)
   refine iY (by kernel_rfl) R hJ 13 [.pu,.ld 3 0,.cl,.pu,.ld 3 1,.cl,.pu,.ld 3 0,.cl,.cl,.pu,.al 1,.st 1 0] (by kernel_rfl) hmono (fun _ _ _=>by kernel_rfl) (fun hT hA=>?_) ?_
   ·clear hJ
    refine And.intro (pW hT hA 39 (fun gh=>Vi ((t:Int) + 1)) [1] 2 (fun gh w=>dX (v0:=Vi (IntKind.i64.wrap ((t:Int) + 1))) (by kernel_rfl) (kJ (by omega) (by omega)))) ?_
    refine And.intro (r_callown hT hA hmono ⟨fun _ _=>by kernel_rfl,fun _ _=>by kernel_rfl,fun _ _=>by kernel_rfl⟩ (by kernel_rfl) 42 (fun u=>.slice (sA u) (sN u) (sC u)) [4] 5 (by kernel_rfl) (fun _=>by kernel_rfl) 0 ⟨none,[(5,fun gh=>.row (.slice (sA (gh 5)) (sN (gh 5)) (sC (gh 5))) 3 1 (wW path)),(9,fun gh=>.row (.slice (sA (gh 9)) (sN (gh 9)) (sC (gh 9))) 3 1 ((wW path)++[[Vi (t:Int)]]))]⟩ (by kernel_rfl) (by kernel_rfl) (by kernel_rfl) 3 1 (fun gh=>wW path) (fun _=>by kernel_rfl) (fun _=>by kernel_rfl) (fun _ _=>rfl) 50 (fun gh=>#[.slice A2 np c2]) (fun _ _=>by kernel_rfl) (fun gh H sH fH=>hcl _ (hp.sees (s5.trans sH)))) ?_
    refine And.intro (r_fact hT hA hmono ⟨fun _ _=>by kernel_rfl,fun _ _=>by kernel_rfl,fun _ _=>by kernel_rfl⟩ 45 (fun g=>Vs g 1 1) [7] 8 (by kernel_rfl) (by kernel_rfl) (fun _=>by kernel_rfl) (fun gh=>[Vi (t:Int)]) 3 (fun _ _=>by kernel_rfl) (fun gh zb zH zc zj zq zhq zhe=>own_fact (i:=8) (k:=0) (f:=fun gh hh=>Cells hh (zJ (gh 8)) 0 [Vi (t:Int)]) (by kernel_rfl) (by kernel_rfl) zc zj zq zhq zhe)) ?_
    refine And.intro (nW hT hA hmono ⟨fun _ _=>by kernel_rfl,fun _ _=>by kernel_rfl,fun _ _=>by kernel_rfl⟩ 46 [5,8] 9 0 ⟨none,[(5,fun gh=>.row (.slice (sA (gh 5)) (sN (gh 5)) (sC (gh 5))) 3 1 (wW path)),(9,fun gh=>.row (.slice (sA (gh 9)) (sN (gh 9)) (sC (gh 9))) 3 1 ((wW path)++[[Vi (t:Int)]]))]⟩ (fun gh=>.slice (sA (gh 5)) (sN (gh 5)) (sC (gh 5))) 73 3 1 (fun gh=>wW path) (fun gh=>[[Vi (t:Int)]]) (.tmp 42) (.tmp 45) (fun gh=>(zJ (gh 8))) 1 1 0 8 (fun gh hh=>Cells hh (zJ (gh 8)) 0 [Vi (t:Int)]) (fun _ _ c=>c) Tryz.underlying73 (zv:=Vi 0) (bytes:=8) (fun _=>by constructor <;> (simp; omega))) ?_
    trivial
   clear hJ a w; intro gh h9 a w sR hJ1 hF; have s10:Sees h4 h9:=sR; clear sR
   have hJ:K ⟨88,h.w,h.bad,[]⟩ [(1,.slice A1 n c1),(3,Vp b1),(6,Vp b3),(11,.pointer (some ⟨(zJ (gh 11)),0,none⟩))] [.row (.slice (sA (gh 9)) (sN (gh 9)) (sC (gh 9))) 3 1 ((wW path)++[[Vi (t:Int)]]),.box (zJ (gh 11)) [Vi ((t:Int) + 1),.slice (sA (gh 9)) (sN (gh 9)) (sC (gh 9)),.bool false],.box b3 [Vi 0,Vz,.bool false],.box b2 [Vi (t:Int),.slice A2 np c2,.bool ((t:Int) == (m:Int))],.box b1 [.slice A n c,.slice B m d]] [] h9 a w:=hJ1.tw
   have f6:Cells h9 (zJ (gh 8)) 0 [Vi (t:Int)]:=Reg.fact (i:=8) (f:=fun gh hh=>Cells hh (zJ (gh 8)) 0 [Vi (t:Int)]) hF 0 (by kernel_rfl)
   replace hJ:=hJ.fact f6
   clear hJ1 hF hmono R
   generalize gh 5=u42 at *
   generalize zJ (gh 8)=b7 at *
   generalize gh 9=v46 at *
   generalize zJ (gh 11)=b8 at *
   clear gh
   refine rk' hJ false 3 [] [] (.k (.code [0,0,1,1,1,1,1]) [.block 0,.seq [1,1,1,1,1,1]] [1,3,6,11] []) ?_
   clear hJ a w; intro a w hJ
   rw [hrw] at hJ
   have hlr:(wW (path++[(t:Int)])).length=(path++[(t:Int)]).length:=List.length_map _
   obtain ⟨Ap,cp,hE_v46,hc_v46,hm_v46⟩:=hJ.form (v:=.slice (sA v46) (sN v46) (sC v46)) (e:=3) (k:=1) (l:=wW (path++[(t:Int)])) 0 (by kernel_rfl)
   rw [show (wW (path++[(t:Int)])).length=(np + 1) from by first | omega | (simp; done) | (simp; omega)] at hE_v46 hc_v46
   rw [hE_v46] at hJ
   obtain ⟨h11,s12,fr,hJn⟩:=hJ.frozen (v:=.slice Ap (np + 1) cp) (e:=3) (k:=1) (l:=wW (path++[(t:Int)])) 0 (by kernel_rfl) (hJ.j.rowOut0 (v:=.slice Ap (np + 1) cp) (e:=3) (k:=1) (l:=wW (path++[(t:Int)])) 0 (by kernel_rfl) rfl); clear hJ; have hJ:=hJn; clear hJn
   refine eY (fun (ka:Nat) a w=>∃ (h13:Vw) ,K ⟨88,h.w,h.bad,[]⟩ [(1,.slice A1 n c1),(3,Vp b1),(6,Vp b3),(11,Vp b8)] [.box b8 [Vi (ka:Int),.slice Ap (np + 1) cp,.bool false],.box b3 [Vi 0,Vz,.bool false],.box b2 [Vi (t:Int),.slice A2 np c2,.bool ((t:Int) == (m:Int))],.box b1 [.slice A n c,.slice B m d]] [(b7,0,[Vi (t:Int)])] h13 a w∧Sees h11 h13∧(t < ka)∧(ka≤m)) (fun ka=>m - ka) (t + 1) ⟨h11,hJ.tw,Sees.refl _,Nat.lt_succ_self t,by omega⟩ ?_
   clear hJ a w; rintro ka a w ⟨h13,hJ,s14,ha1,ha2⟩
   refine rk' hJ false 11 [.b 0 0,.b 3 1] [] (.k (.code [1,0,0,0,0,1,1,1,1,1]) [.seq [1,0,0,0,1,1,1,1,1]] [1,3,6,11] [(53,.bool (decide ((ka:Int) < (m:Int))))]) ?_
   clear hJ a w; intro a w hJ
   rcases (by omega:ka < m∨ka=m) with hlt | hke
   ·obtain ⟨p2,hp2⟩:∃ p,f.pages[ka]?=some p:=⟨_,List.getElem?_eq_getElem (by omega)⟩
    obtain ⟨Au,cu,Bu,mu,du,hprow,hrs,harg⟩:=pg_at hps hpg hp2
    have hpa2:=fun A n c v sl H q1 q2=>hpa p2 (List.mem_of_getElem? hp2) A n c v sl H q1 q2
    generalize (passB p2 env).1=w1 at *
    generalize (passB p2 env).2=w2 at *
    refine kY hJ (t:=decide ((ka:Int) < (m:Int))) (decide_eq_true (by omega)) ?_
    refine rx' hJ false 5 [] [] (.ok (.code [0,0,0,1,0,0,0,1,1,1,1,1]) [.seq [1,0,0,1,0,0,0,1,1,1,1,1],.block 1,.seq [1,1,0,0,0,1,1,1,1,1]] [(1,.slice A1 n c1),(3,Vp b1),(6,Vp b3),(11,Vp b8)] [.box b8 [Vi (ka:Int),.slice Ap (np + 1) cp,.bool false],.box b3 [Vi 0,Vz,.bool false],.box b2 [Vi (t:Int),.slice A2 np c2,.bool ((t:Int) == (m:Int))],.box b1 [.slice A n c,.slice B m d]] [(b7,0,[Vi (t:Int)])]) (fun _=>by kernel_rfl) ?_
    clear hJ a w; intro a w hJ
    obtain ⟨b15,o16,rfl,-,c17⟩:=RS.row hpr (hprow)
    replace hJ:=hJ.fact (c17.sees (s5.trans (s10.trans (s12.trans s14))))
    let R:Reg:=⟨⟨88,h.w,h.bad,[]⟩,[(0,59,fun gh=>.pointer (some ⟨b1,1,none⟩)),(1,60,fun gh=>.slice (some ⟨b15,o16,none⟩) m d),(2,61,fun gh=>Vp b8),(3,62,fun gh=>Vi (ka:Int)),(4,63,fun gh=>.pointer (some ⟨b15,o16 + ka * 8,none⟩)),(5,64,fun gh=>.agg #[.string p2.name,.slice Au p2.fields.length cu,Vi p2.skip.op,Vi p2.skip.k,Vi p2.skip.n,.string p2.skip.s,.string p2.skip.nm,.slice Bu mu du]),(6,65,fun gh=>.agg #[.slice A n c,.slice (some ⟨b15,o16,none⟩) m d]),(7,66,fun gh=>.slice A1 n c1),(8,67,fun gh=>.slice (sA (gh 8)) (sN (gh 8)) (sC (gh 8))),(9,68,fun gh=>.tuple #[.bool w1,.bool w2]),(10,58,fun gh=>.tuple #[.bool w1,.bool w2]),(11,69,fun gh=>.bool w1),(12,70,fun gh=>.bool w2),(13,12,fun gh=>.bool w1),(14,13,fun gh=>.bool w2)],[(1,.slice A1 n c1),(3,Vp b1),(6,Vp b3),(11,Vp b8)],[⟨some (.box b8 [Vi (ka:Int),.slice Ap (np + 1) cp,.bool false]),[]⟩,⟨some (.box b3 [Vi 0,Vz,.bool false]),[]⟩,⟨some (.box b2 [Vi (t:Int),.slice A2 np c2,.bool ((t:Int) == (m:Int))]),[]⟩,⟨some (.box b1 [.slice A n c,.slice (some ⟨b15,o16,none⟩) m d]),[]⟩],[(8,fun gh hh=>RS hh 7 (.slice (sA (gh 8)) (sN (gh 8)) (sC (gh 8))) (zK env))],[[],[0],[],[2],[0,1,2,3],[0,1,2,3,4],[],[],[6,7],[0,1,2,3,4,5,6,7,8],[0,1,2,3,4,5,6,7,8,9],[0,1,2,3,4,5,6,7,8,9,10],[0,1,2,3,4,5,6,7,8,9,10],[0,1,2,3,4,5,6,7,8,9,10,11],[0,1,2,3,4,5,6,7,8,9,10,11,12,13]],h13⟩
    have hmono:∀ zq∈R.F,∀ zx zh zi,Sees zh zi→zq.2 zx zh→zq.2 zx zi:=eV (fun _ _ _ s c=>c.sees s) (lJ)
    refine iY (by kernel_rfl) R hJ 15 [.pu,.ld 3 1,.pu,.ld 0 0,.cl,.lf 0 0,.ld 3 0,.pu,.cl,.cl,.pu,.pu,.pu,.pu,.pu] (by kernel_rfl) hmono (fun _ _ _=>by kernel_rfl) (fun hT hA=>?_) ?_
    ·clear hJ
     refine And.intro (pW hT hA 63 (fun gh=>.pointer (some ⟨b15,o16 + ka * 8,none⟩)) [1,3] 4 (fun gh w=>fX (t:=24) (x:=(.tmp 60)) (y:=(.tmp 62)) (b:=b15) (off:=o16) (n:=m) (cap:=d) (k:=ka) (e:=79) (kk:=8) (by kernel_rfl) (by kernel_rfl) (by kernel_rfl) (by first | omega | (simp; omega)) Tryz.underlying24 (by kernel_rfl))) ?_
     refine And.intro (r_call hT hA hmono ⟨fun _ _=>by kernel_rfl,fun _ _=>by kernel_rfl,fun _ _=>by kernel_rfl⟩ 67 (fun u=>.slice (sA u) (sN u) (sC u)) [6,7] 8 (by kernel_rfl) (by kernel_rfl) (fun _=>by kernel_rfl) 82 (fun gh=>#[.agg #[.slice A n c,.slice (some ⟨b15,o16,none⟩) m d],.slice A1 n c1]) (fun _ _=>by kernel_rfl) (fun gh H sH fH lent=>C0.facts (R:=R) (x:=gh) (i:=8) (n:=0) (F:=(fun u=>.slice (sA u) (sN u) (sC u))) (G:=fun u hh=>RS hh 7 (.slice (sA u) (sN u) (sC u)) (zK env)) (f:=fun gh hh=>RS hh 7 (.slice (sA (gh 8)) (sN (gh 8)) (sC (gh 8))) (zK env)) (hFa _ ((hf.sees (s5.trans (s10.trans (s12.trans (s14.trans sH)))))).fields (hv.sees (s5.trans (s10.trans (s12.trans (s14.trans sH)))))) (by kernel_rfl) (by kernel_rfl) (fun _ _ r=>r))) ?_
     refine And.intro (oW hT hA hmono 68 (fun gh=>.tuple #[.bool w1,.bool w2]) [5,8] 9 81 (fun gh=>#[.agg #[.string p2.name,.slice Au p2.fields.length cu,Vi p2.skip.op,Vi p2.skip.k,Vi p2.skip.n,.string p2.skip.s,.string p2.skip.nm,.slice Bu mu du],.slice (sA (gh 8)) (sN (gh 8)) (sC (gh 8))]) (fun gh H sH fH lent=>hpa2 _ _ _ _ _ _ (harg.sees (s5.trans (s10.trans (s12.trans (s14.trans sH))))) (fH 0 _ rfl (by kernel_rfl)))) ?_
     trivial
    clear hJ a w; intro gh h18 a w sR hJ1 hF; have s19:Sees h13 h18:=sR; clear sR
    have hJ:K ⟨88,h.w,h.bad,[]⟩ [(1,.slice A1 n c1),(3,Vp b1),(6,Vp b3),(11,Vp b8),(12,.bool w1),(13,.bool w2)] [.box b8 [Vi (ka:Int),.slice Ap (np + 1) cp,.bool false],.box b3 [Vi 0,Vz,.bool false],.box b2 [Vi (t:Int),.slice A2 np c2,.bool ((t:Int) == (m:Int))],.box b1 [.slice A n c,.slice (some ⟨b15,o16,none⟩) m d]] [(b15,o16 + ka * 8,[.string p2.name,.slice Au p2.fields.length cu,Vi p2.skip.op,Vi p2.skip.k,Vi p2.skip.n,.string p2.skip.s,.string p2.skip.nm,.slice Bu mu du]),(b7,0,[Vi (t:Int)])] h18 a w:=hJ1.tw
    have f67:RS h18 7 (.slice (sA (gh 8)) (sN (gh 8)) (sC (gh 8))) (zK env):=Reg.fact (i:=8) (f:=fun gh hh=>RS hh 7 (.slice (sA (gh 8)) (sN (gh 8)) (sC (gh 8))) (zK env)) hF 0 (by kernel_rfl)
    clear hJ1 hF hmono R
    generalize gh 8=u67 at *
    clear gh
    refine rk' hJ false 8 [] [] (.k (.code [1,0,1,0,0,1,0,0,0,1,1,1,1,1]) [.seq [1,1,0,0,1,0,0,0,1,1,1,1,1],.block 1,.seq [1,1,0,0,0,1,1,1,1,1]] [1,3,6,11,12] [(72,.bool (!w2))]) ?_
    clear hJ a w; intro a w hJ
    rcases Bool.eq_false_or_eq_true w2 with g2 | g2
    ·refine aY hJ (t := !w2) ((by rw [g2]; rfl)) ?_
     refine rk' hJ false 8 [] [] (.k (.code [1,1,1,0,0,1,0,0,0,1,1,1,1,1]) [.block 1,.seq [1,1,0,0,0,1,1,1,1,1]] [1,3,6,11] [(75,.bool (!w1))]) ?_
     clear hJ a w; intro a w hJ
     rcases Bool.eq_false_or_eq_true w1 with g1 | g1
     ·refine aY hJ (t := !w1) ((by rw [g1]; rfl)) ?_
      refine rk' hJ false 10 [.b 0 0,.b 0 0] [(56,Vi (IntKind.i64.wrap ((ka:Int) + 1)),Vi ((ka:Int) + 1))] (.f (.out .normal) [] [1,3,6,11] [] [.box b8 [Vi ((ka:Int) + 1),.slice Ap (np + 1) cp,.bool false],.box b3 [Vi 0,Vz,.bool false],.box b2 [Vi (t:Int),.slice A2 np c2,.bool ((t:Int) == (m:Int))],.box b1 [.slice A n c,.slice (some ⟨b15,o16,none⟩) m d]] [.o 0,.o 1]) (hc:=And.intro (kJ (by omega) (by omega)) (trivial)) ?_
      clear hJ a w; intro a w hJ
      exact jY ⟨ka + 1,⟨h18,(hJ.tof [1] (F':=[(b7,0,[Vi (t:Int)])]) (by kernel_rfl)).to (by kernel_rfl) (by kernel_rfl) rfl,(s14.trans s19),by omega,by omega⟩,by omega⟩
     ·skip
      refine kY hJ (t := !w1) ((by rw [g1]; rfl)) ?_
      refine rk' hJ false 3 [] [] (.k (.out (.exit 0)) [] [3,6,11] []) ?_
      clear hJ a w; intro a w hJ
      refine dY rfl ?_
      refine rk' hJ false 18 [.b 0 0,.b 3 1,.b 0 2,.b 0 1] [] (.f (.ops [0,1,1,1,1,1,1,1] 2) [.seq [1,1,1,1,1,1,1,1]] [6,11] [(84,.slice Ap (np + 1) cp)] [.box b8 [Vi (ka:Int),.slice Ap (np + 1) cp,.bool ((ka:Int) == (m:Int))],.box b3 [Vi 0,Vz,.bool false],.box b2 [Vi (t:Int),.slice A2 np c2,.bool ((t:Int) == (m:Int))],.box b1 [.slice A n c,.slice (some ⟨b15,o16,none⟩) m d]] [.o 0,.o 1]) ?_
      clear hJ a w; intro a w hJ
      refine x_callown (e:=3) (kk:=1) hJ 85 (hcl2 _ _ (fr.sees (s14.trans (s19.trans hJ.j.sees)))) (fun _=>by kernel_rfl) ?_; clear hJ a w; rintro _ _ _ h20 a w s21 ⟨rfl,⟨A9,c9,rfl⟩,rfl⟩ hJ
      refine rk' hJ false 12 [.b 1 1,.b 1 0,.b 2 0] [] (.f (.out .ret) [] [6] [(7,Vi 0)] [.row (.slice A9 (np + 1) c9) 3 1 (wW (path++[(t:Int)])),.box b8 [Vi (ka:Int),.slice A9 (np + 1) c9,.bool ((ka:Int) == (m:Int))],.box b3 [Vi (ka:Int),.slice A9 (np + 1) c9,.bool ((ka:Int) == (m:Int))],.box b2 [Vi (t:Int),.slice A2 np c2,.bool ((t:Int) == (m:Int))],.box b1 [.slice A n c,.slice (some ⟨b15,o16,none⟩) m d]] [.o 0,.o 1]) ?_
      clear hJ a w; intro a w hJ
      obtain ⟨h22,s23,f9,hJn⟩:=hJ.frozen (v:=.slice A9 (np + 1) c9) (e:=3) (k:=1) (l:=wW (path++[(t:Int)])) 0 (by kernel_rfl) (hJ.j.rowOut0 (v:=.slice A9 (np + 1) c9) (e:=3) (k:=1) (l:=wW (path++[(t:Int)])) 0 (by kernel_rfl) rfl); clear hJ; have hJ:=hJn; clear hJn
      refine zX (hQ [.agg #[Vi (ka:Int),.slice A9 (np + 1) c9,.bool ((ka:Int) == (m:Int))],Vi 0] _ [] hJ (.rcel hJ.j 1 (.rtm hJ.j .nil)) (fJ _) rfl ?_).1
      exact ⟨0,(ka:Int),.slice A9 (np + 1) c9,((ka:Int) == (m:Int)),rfl,fun _=>⟨by omega,by omega,rfl,(f9.sees hJ.j.out)⟩⟩
    ·skip
     refine kY hJ (t := !w2) ((by rw [g2]; rfl)) ?_
     refine rk' hJ false 11 [.b 1 0] [] (.k (.out .ret) [] [6] [(7,Vi 11)]) ?_
     clear hJ a w; intro a w hJ
     refine dY rfl ?_
     refine rk' hJ false 2 [] [] (.k (.out .ret) [] [6,7] []) ?_
     clear hJ a w; intro a w hJ
     refine zX (hQ [.agg #[Vi 0,Vz,.bool false],Vi 11] _ [] hJ (.rcel hJ.j 1 (.rtm hJ.j .nil)) (fJ _) rfl ?_).1
     exact zero _ 11 (by decide)
   ·skip
    refine aY hJ (t:=decide ((ka:Int) < (m:Int))) (decide_eq_false (by omega)) ?_
    refine rx' hJ false 2 [] [] (.ok (.out (.exit 0)) [] [(3,Vp b1),(6,Vp b3),(11,Vp b8)] [.box b8 [Vi (ka:Int),.slice Ap (np + 1) cp,.bool false],.box b3 [Vi 0,Vz,.bool false],.box b2 [Vi (t:Int),.slice A2 np c2,.bool ((t:Int) == (m:Int))],.box b1 [.slice A n c,.slice B m d]] [(b7,0,[Vi (t:Int)])]) (fun _=>by kernel_rfl) ?_
    clear hJ a w; intro a w hJ
    refine dY rfl ?_
    refine rk' hJ false 18 [.b 0 0,.b 3 1,.b 0 2,.b 0 1] [] (.m (.ops [0,1,1,1,1,1,1,1] 2) [.seq [1,1,1,1,1,1,1,1]] [6,11] [(84,.slice Ap (np + 1) cp)] [.box b8 [Vi (ka:Int),.slice Ap (np + 1) cp,.bool ((ka:Int) == (m:Int))],.box b3 [Vi 0,Vz,.bool false],.box b2 [Vi (t:Int),.slice A2 np c2,.bool ((t:Int) == (m:Int))],.box b1 [.slice A n c,.slice B m d]] [(b7,0,[Vi (t:Int)])]) ?_
    clear hJ a w; intro a w hJ
    refine x_callown (e:=3) (kk:=1) hJ 85 (hcl2 _ _ (fr.sees (s14.trans hJ.j.sees))) (fun _=>by kernel_rfl) ?_; clear hJ a w; rintro _ _ _ h24 a w s25 ⟨rfl,⟨A9,c9,rfl⟩,rfl⟩ hJ
    refine rx' hJ false 12 [.b 1 1,.b 1 0,.b 2 0] [] (.ok (.out .ret) [] [(6,Vp b3),(7,Vi 0)] [.row (.slice A9 (np + 1) c9) 3 1 (wW (path++[(t:Int)])),.box b8 [Vi (ka:Int),.slice A9 (np + 1) c9,.bool ((ka:Int) == (m:Int))],.box b3 [Vi (ka:Int),.slice A9 (np + 1) c9,.bool ((ka:Int) == (m:Int))],.box b2 [Vi (t:Int),.slice A2 np c2,.bool ((t:Int) == (m:Int))],.box b1 [.slice A n c,.slice B m d]] [(b7,0,[Vi (t:Int)])]) (fun _=>by kernel_rfl) ?_
    clear hJ a w; intro a w hJ
    obtain ⟨h26,s27,f9,hJn⟩:=hJ.frozen (v:=.slice A9 (np + 1) c9) (e:=3) (k:=1) (l:=wW (path++[(t:Int)])) 0 (by kernel_rfl) (hJ.j.rowOut0 (v:=.slice A9 (np + 1) c9) (e:=3) (k:=1) (l:=wW (path++[(t:Int)])) 0 (by kernel_rfl) rfl); clear hJ; have hJ:=hJn; clear hJn
    refine zX (hQ [.agg #[Vi (ka:Int),.slice A9 (np + 1) c9,.bool ((ka:Int) == (m:Int))],Vi 0] _ [] hJ (.rcel hJ.j 1 (.rtm hJ.j .nil)) (fJ _) rfl ?_).1
    exact ⟨0,(ka:Int),.slice A9 (np + 1) c9,((ka:Int) == (m:Int)),rfl,fun _=>⟨by omega,by omega,rfl,(f9.sees hJ.j.out)⟩⟩
  ·skip
   refine kY hJ (t:=decide ((ln.length:Int) > 0)) (decide_eq_true (by omega)) ?_
   refine rk' hJ false 9 [.b 0 0] [] (.k (.out .ret) [] [6] [(7,Vi 11)]) ?_
   clear hJ a w; intro a w hJ
   refine zX (hQ [.agg #[Vi 0,Vz,.bool false],Vi 11] _ [] hJ (.rcel hJ.j 0 (.rtm hJ.j .nil)) (fJ _) rfl ?_).1
   exact zero _ 11 (by decide)
theorem c_cloneU {h:Vw} {v:Value} {l:List Int} (hr:RS h 1 v (wW l)) (hl:l.length≤1000000):C0 Tryz.prog 50 #[v] h (fun v h'=>∃ u,v=.slice (sA u) (sN u) (sC u)∧RS h' 1 (.slice (sA u) (sN u) (sC u)) (wW l)) :=
 (CRow.c0 (c_cloneI hr hl)).mono fun v h' _=>by
  rintro ⟨r,u,rfl,h2,-,rfl⟩
  exact ⟨u,rfl,h2⟩
theorem back_none (f:Fm) (ρ:List Int) (lv:Nat→Nat) (A:Option Addr) (n c:Nat) (B:Option Addr) (m d:Nat) (va:List Vl) (A1:Option Addr) (c1:Nat) (h:Vw) (hok:OkFm f ρ lv) (hf:IsForm h (.slice A n c) (.slice B m d) f) (hn:n=f.fields.length) (hm:m=f.pages.length)
  (hv:RS h 3 (.slice A1 n c1) (sX va)) (la:va.length=n) (ov:∀ x∈va,OkV x) :
  C0 Tryz.prog 51 #[.agg #[.slice A n c,.slice B m d],.slice A1 n c1,.agg #[.int .i64 0,.slice none 0 0,.bool false]] h (fun r _=>r=.tuple #[.agg #[.int .i64 0,.slice none 0 0,.bool false],.int .i64 5]):=by
 have m1:=hok.pages.one
 have hC:∀ H,IsForm H (.slice A n c) (.slice B m d) f→RS H 3 (.slice A1 n c1) (sX va)→C0 Tryz.prog 52 #[.agg #[.slice A n c,.slice B m d],.slice A1 n c1,.agg #[.int .i64 0,.slice none 0 0,.bool false]] H (fun r _=>r=.int .i64 0):=fun H q1 q2=>by
  have:=mV f ρ lv A n c B m d va A1 c1 [] none 0 0 H hok q1 hn hm q2 la ov (RS.nil H 1) (by decide) ⟨List.pairwise_singleton _ _,fun x hx=>by rw [List.mem_singleton.1 hx]; omega,fun x hx=>by rw [List.mem_singleton.1 hx]; omega⟩
  rw [show ((0:Int) == (m:Int))=false from beq_eq_false_iff_ne.2 (by omega)] at this
  exact this
 refine yX Tryz.func51 (c:=Tryz.f51.body.getD .skip) (N:=37) ?_
 intro hbx hbad Q hQ a w hJ
 refine rx' hJ false 52 [.own,.own,.own,.b 2 0,.b 1 0,.cl 52 #[.agg #[.slice A n c,.slice B m d],.slice A1 n c1,.agg #[Vi 0,Vz,.bool false]] (Vi 0),.b 1 1,.b 0 0] [] (.new fun b1=>.new fun b2=>.new fun b3=>.ok (.out .ret) [] [(6,Vp b3),(7,Vi 5)] [.box b3 [Vi 0,Vz,.bool false],.box b2 [Vi 0,Vz,.bool false],.box b1 [.slice A n c,.slice B m d]] []) (ho:=And.intro (fun H sH=>hC _ (hf.sees sH) (hv.sees sH)) (trivial)) (fun b1 b2 b3 _=>by kernel_rfl) ?_
 clear hJ a w; intro b1 b2 b3 a w hJ
 refine zX (hQ [.agg #[Vi 0,Vz,.bool false],Vi 5] _ [] hJ (.rcel hJ.j 0 (.rtm hJ.j .nil)) (fJ _) rfl ?_).1
 exact rfl
set_option maxHeartbeats 4000000 in
theorem back_any (f:Fm) (ρ:List Int) (lv:Nat→Nat) (A:Option Addr) (n c:Nat) (B:Option Addr) (m d:Nat) (va:List Vl) (A1:Option Addr) (c1:Nat) (path:List Int) (p aa:Int) (A2:Option Addr) (np c2:Nat) (h:Vw) (hok:OkFm f ρ lv) (hf:IsForm h (.slice A n c) (.slice B m d) f) (hn:n=f.fields.length) (hm:m=f.pages.length)
  (hv:RS h 3 (.slice A1 n c1) (sX va)) (la:va.length=n) (ov:∀ x∈va,OkV x) (hnp:path.length=np) (hp:RS h 1 (.slice A2 (np + 1) c2) (wW (path++[p]))) (lp:np≤90) (pk:PathOk ((path++[p])++[aa]) m) :
  C0 Tryz.prog 51 #[.agg #[.slice A n c,.slice B m d],.slice A1 n c1,.agg #[.int .i64 aa,.slice A2 (np + 1) c2,.bool (aa == (m:Int))]] h (fun r h'=>∃ u,r=.tuple #[.agg #[.int .i64 p,.slice (sA u) (sN u) (sC u),.bool false],.int .i64 0]∧RS h' 1 (.slice (sA u) (sN u) (sC u)) (wW path)):=by
 have hll:(path++[p]).length=np + 1:=by simp [hnp]
 have hC:=fun H q1 q2 q3=>mV f ρ lv A n c B m d va A1 c1 (path++[p]) A2 c2 aa H hok q1 hn hm q2 la ov q3 (by omega) pk
 rw [hll] at hC
 have hrow:(wW (path++[p]))[np]?=some [.int .i64 p]:=rk_row (by rw [List.getElem?_append_right (by omega),hnp,Nat.sub_self]; rfl)
 have htk:∀ H,RS H 1 (.slice A2 (np + 1) c2) (wW (path++[p]))→RS H 1 (.slice A2 np c2) (wW path):=fun H q=>by
  have:=q.take np (by rw [List.length_map]; omega)
  rw [← List.map_take,show (path++[p]).take np=path from by rw [← hnp,List.take_left]] at this
  exact this
 have hcl:=fun H q=>c_cloneU (htk H q) (by omega)
 obtain ⟨A',c',e',hcap,-,-⟩:=hp.form
 simp only [Value.slice.injEq] at e'
 obtain ⟨-,-,rfl⟩:=e'
 rw [List.length_map,hll] at hcap
 refine yX Tryz.func51 (c:=Tryz.f51.body.getD .skip) (N:=37) ?_
 intro hbx hbad Q hQ a w hJ
 refine rx' hJ false 42 [.own,.own,.own,.b 2 0,.b 1 0,.cl 52 #[.agg #[.slice A n c,.slice B m d],.slice A1 n c1,.agg #[Vi aa,.slice A2 (np + 1) c2,.bool (aa == (m:Int))]] (Vi 0),.b 1 1] [] (.new fun b1=>.new fun b2=>.new fun b3=>.ok (.code [1,0,1,1,1]) [.seq [1,1,1,1]] [(5,Vp b2),(6,Vp b3),(9,Vi (np + 1:Int)),(22,.bool ((np + 1:Int) == 0))] [.box b3 [Vi 0,Vz,.bool false],.box b2 [Vi aa,.slice A2 (np + 1) c2,.bool (aa == (m:Int))],.box b1 [.slice A n c,.slice B m d]] []) (ho:=And.intro (fun H sH=>hC _ (hf.sees sH) (hv.sees sH) (hp.sees sH)) (trivial)) (fun b1 b2 b3 _=>by kernel_rfl) ?_
 clear hJ a w; intro b1 b2 b3 a w hJ
 refine aY hJ (t:=(np + 1:Int) == 0) (beq_eq_false_iff_ne.2 (by omega)) ?_
 refine rk' hJ false 3 [] [] (.k (.code [0,1,1,1,1]) [.seq [1,1,1,1,1]] [5,6,9] []) ?_
 clear hJ a w; intro a w hJ
 obtain ⟨b4,o5,rfl,-,c6⟩:=RS.row hp (hrow)
 replace hJ:=hJ.fact (c6.sees (Sees.refl _))
 let R:Reg:=⟨⟨37,h.w,h.bad,[]⟩,[(0,24,fun gh=>.pointer (some ⟨b2,1,none⟩)),(1,25,fun gh=>.slice (some ⟨b4,o5,none⟩) (np + 1) c2),(2,26,fun gh=>Vi (np + 1:Int)),(3,27,fun gh=>Vi (np:Int)),(4,28,fun gh=>.pointer (some ⟨b4,o5 + np * 1,none⟩)),(5,29,fun gh=>Vi p),(6,30,fun gh=>.pointer (some ⟨b2,1,none⟩)),(7,31,fun gh=>.slice (some ⟨b4,o5,none⟩) (np + 1) c2),(8,32,fun gh=>Vi (np + 1:Int)),(9,33,fun gh=>Vi (np:Int)),(10,34,fun gh=>.slice (some ⟨b4,o5,none⟩) np c2),(11,35,fun gh=>.slice (sA (gh 11)) (sN (gh 11)) (sC (gh 11))),(12,36,fun gh=>.agg #[Vi p,.slice (sA (gh 11)) (sN (gh 11)) (sC (gh 11)),.bool false]),(14,7,fun gh=>Vi 0)],[(5,Vp b2),(6,Vp b3),(9,Vi (np + 1:Int))],[⟨some (.box b3 [Vi 0,Vz,.bool false]),[(13,fun gh=>.box b3 [Vi p,.slice (sA (gh 11)) (sN (gh 11)) (sC (gh 11)),.bool false])]⟩,⟨some (.box b2 [Vi aa,.slice (some ⟨b4,o5,none⟩) (np + 1) c2,.bool (aa == (m:Int))]),[]⟩,⟨some (.box b1 [.slice A n c,.slice B m d]),[]⟩],[(11,fun gh hh=>RS hh 1 (.slice (sA (gh 11)) (sN (gh 11)) (sC (gh 11))) (wW path))],[[],[0],[],[2],[0,1,2,3],[0,1,2,3,4],[],[6],[],[8],[6,7,8,9],[6,7,8,9,10],[0,1,2,3,4,5,6,7,8,9,10,11],[0,1,2,3,4,5,6,7,8,9,10,11,12],[0,1,2,3,4,5,6,7,8,9,10,11,12,13]],h⟩
 have hmono:∀ zq∈R.F,∀ zx zh zi,Sees zh zi→zq.2 zx zh→zq.2 zx zi:=eV (fun _ _ _ s c=>c.sees s) (lJ)
 refine iY (by kernel_rfl) R hJ 15 [.pu,.ld 1 1,.pu,.cl,.cl,.lf 0 0,.pu,.ld 1 1,.pu,.cl,.cl,.cl,.pu,.st 0 0,.pu] (by kernel_rfl) hmono (fun _ _ _=>by kernel_rfl) (fun hT hA=>?_) ?_
 ·clear hJ
  refine And.intro (pW hT hA 27 (fun gh=>Vi (np:Int)) [2] 3 (fun gh w=>dX (v0:=Vi (IntKind.i64.wrap ((np + 1:Int) - 1))) (by kernel_rfl) ((kJ (by omega) (by omega)).trans (congrArg (Value.int .i64) (by omega))))) ?_
  refine And.intro (pW hT hA 28 (fun gh=>.pointer (some ⟨b4,o5 + np * 1,none⟩)) [1,3] 4 (fun gh w=>fX (t:=73) (x:=(.tmp 25)) (y:=(.tmp 27)) (b:=b4) (off:=o5) (n:=(np + 1)) (cap:=c2) (k:=np) (e:=3) (kk:=1) (by kernel_rfl) (by kernel_rfl) (by kernel_rfl) (by first | omega | (simp; omega)) Tryz.underlying73 (by kernel_rfl))) ?_
  refine And.intro (pW hT hA 33 (fun gh=>Vi (np:Int)) [8] 9 (fun gh w=>dX (v0:=Vi (IntKind.i64.wrap ((np + 1:Int) - 1))) (by kernel_rfl) ((kJ (by omega) (by omega)).trans (congrArg (Value.int .i64) (by omega))))) ?_
  refine And.intro (pW hT hA 34 (fun gh=>.slice (some ⟨b4,o5,none⟩) np c2) [7,9] 10 (fun gh w=>run_hi (t:=73) (e:=3) (x:=(.tmp 31)) (y:=(.tmp 33)) (A:=(some ⟨b4,o5,none⟩)) (n:=(np + 1)) (cap:=c2) (k:=np) (kk:=1) (by kernel_rfl) (by kernel_rfl) (by kernel_rfl) (by omega) Tryz.underlying73 (by kernel_rfl))) ?_
  refine And.intro (r_call hT hA hmono ⟨fun _ _=>by kernel_rfl,fun _ _=>by kernel_rfl,fun _ _=>by kernel_rfl⟩ 35 (fun u=>.slice (sA u) (sN u) (sC u)) [10] 11 (by kernel_rfl) (by kernel_rfl) (fun _=>by kernel_rfl) 50 (fun gh=>#[.slice (some ⟨b4,o5,none⟩) np c2]) (fun _ _=>by kernel_rfl) (fun gh H sH fH lent=>C0.facts (R:=R) (x:=gh) (i:=11) (n:=0) (F:=(fun u=>.slice (sA u) (sN u) (sC u))) (G:=fun u hh=>RS hh 1 (.slice (sA u) (sN u) (sC u)) (wW path)) (f:=fun gh hh=>RS hh 1 (.slice (sA (gh 11)) (sN (gh 11)) (sC (gh 11))) (wW path)) (hcl _ (hp.sees sH)) (by kernel_rfl) (by kernel_rfl) (fun _ _ r=>r))) ?_
  trivial
 clear hJ a w; intro gh h7 a w sR hJ1 hF; have s8:Sees h h7:=sR; clear sR
 have hJ:K ⟨37,h.w,h.bad,[]⟩ [(6,Vp b3),(7,Vi 0)] [.box b3 [Vi p,.slice (sA (gh 11)) (sN (gh 11)) (sC (gh 11)),.bool false],.box b2 [Vi aa,.slice (some ⟨b4,o5,none⟩) (np + 1) c2,.bool (aa == (m:Int))],.box b1 [.slice A n c,.slice B m d]] [(b4,o5 + np * 1,[Vi p])] h7 a w:=hJ1.tw
 have f35:RS h7 1 (.slice (sA (gh 11)) (sN (gh 11)) (sC (gh 11))) (wW path):=Reg.fact (i:=11) (f:=fun gh hh=>RS hh 1 (.slice (sA (gh 11)) (sN (gh 11)) (sC (gh 11))) (wW path)) hF 0 (by kernel_rfl)
 clear hJ1 hF hmono R
 generalize gh 11=u35 at *
 clear gh
 refine rk' hJ false 2 [] [] (.k (.out .ret) [] [6,7] []) ?_
 clear hJ a w; intro a w hJ
 refine zX (hQ [.agg #[Vi p,.slice (sA u35) (sN u35) (sC u35),.bool false],Vi 0] _ [] hJ (.rcel hJ.j 0 (.rtm hJ.j .nil)) (fJ _) rfl ?_).1
 exact ⟨u35,rfl,(f35.sees hJ.j.out)⟩
theorem filled_any (l m:List RawD) (sl sm:Value) (h:Vw) (hl:RS h 4 sl (l.map RawD.cs)) (hm:RS h 4 sm (m.map RawD.cs)) (ll:l.length * 40≤reachBytes) (lm:m.length * 40≤reachBytes) (ol:∀ r∈l,r.ok) (om:∀ r∈m,r.ok) :
  C0 Tryz.prog 43 #[sl,sm] h (fun r h'=>∃ A c B d A2 c2,r=.tuple #[.agg #[.slice A (kQ l).fields.length c,.slice B (kQ l).pages.length d],.slice A2 (kQ l).fields.length c2,.bool true]∧IsForm h' (.slice A (kQ l).fields.length c) (.slice B (kQ l).pages.length d) (kQ l)∧RS h' 3 (.slice A2 (kQ l).fields.length c2) (sX (allF l m (orcF l m)))):=by
 have hF:=form_c l sl
 have hlen:=lQ l
 have hnl:=iV l
 have hty:=form_ty l
 have hOr:=oracle_form l m
 have hol:=orcF_len l m
 have hA:=all_orc l m (orcF l m) (orcF_ok l m) (by omega)
 have hfew:=(inp_ok l m).few
 generalize allF l m (orcF l m)=va at *
 generalize orcF l m=orc at *
 generalize kQ l=fm at *
 have hin:=fun H fv pv q1 q2 q3=>inputs_any fm.fields pv fv m sm H q1 q2 (by omega) hty q3 lm om
 generalize inpE fm.fields m=env at *
 have erl:(zK env).length=env.length:=List.length_map _
 obtain ⟨A0,c0,rfl,-,-,-⟩:=hl.form
 obtain ⟨A1,c1,rfl,-,-,-⟩:=hm.form
 rw [List.length_map] at *
 rw [List.length_map] at *
 generalize hN:fm.fields.length=N at *
 generalize hNo:orc.length=No at *
 refine yX Tryz.func43 (c:=Tryz.f43.body.getD .skip) (N:=41) ?_
 intro hbx hbad Q hQ a w hJ
 refine rk' hJ false 10 [.own] [] (.new fun b1=>.m (.ops [0,1] 1) [.seq [1,1]] [1] [(4,Vp b1),(13,.slice A0 l.length c0)] [.box b1 [Vz,Vz]] []) (hr:=fun b1 _=>by kernel_rfl) ?_
 clear hJ a w; intro b1 a w hJ
 refine wX hJ 14 (hF _ (hl.sees hJ.j.sees) ll ol) (fun _=>by kernel_rfl) ?_; clear hJ a w; rintro _ h2 a w s3 ⟨A,c,B,d,rfl,hfm⟩ hJ
 refine rx' hJ false 8 [.own,.b 0 0,.b 0 0] [] (.new fun b4=>.ok (.ops [0,1,1] 2) [.seq [1,1,1]] [(4,Vp b1),(7,Vp b4),(15,.agg #[.slice A N c,.slice B fm.pages.length d]),(16,.slice A1 m.length c1)] [.box b4 [.slice A N c,.slice B fm.pages.length d],.box b1 [Vz,Vz]] []) (fun b4 _=>by kernel_rfl) ?_
 clear hJ a w; intro b4 a w hJ
 refine x_callrow hJ 17 (hin _ _ (.slice B fm.pages.length d) ((hfm.sees hJ.j.sees)).fields rfl (hm.sees (s3.trans hJ.j.sees))) (fun _=>by kernel_rfl) ?_; clear hJ a w; rintro v _ a w rfl hJ
 refine rk' hJ false 7 [.b 1 0] [] (.k (.ops [0,1,1,1] 2) [.seq [1,1,1,1]] [4,7] [(8,v),(19,.agg #[.slice A N c,.slice B fm.pages.length d]),(20,v)]) ?_
 clear hJ a w; intro a w hJ
 obtain ⟨Av,cv,hE_v,hc_v,hm_v⟩:=hJ.form (v:=v) (e:=54) (k:=7) (l:=zK env) 0 (by kernel_rfl)
 rw [show (zK env).length=env.length from by first | omega | (simp; done) | (simp; omega)] at hE_v hc_v
 rw [hE_v] at hJ
 obtain ⟨h5,s6,fin,hJn⟩:=hJ.frozen (v:=.slice Av env.length cv) (e:=54) (k:=7) (l:=zK env) 0 (by kernel_rfl) (hJ.j.rowOut0 (v:=.slice Av env.length cv) (e:=54) (k:=7) (l:=zK env) 0 (by kernel_rfl) rfl); clear hJ; have hJ:=hJn; clear hJn
 refine wX hJ 21 (hOr _ _ _ _ _ _ (hfm.sees (s6.trans hJ.j.sees)) (fin.sees hJ.j.sees)) (fun _=>by kernel_rfl) ?_; clear hJ a w; rintro _ h7 a w s8 ⟨Ao,co,rfl,hro⟩ hJ
 refine rk' hJ false 12 [.b 0 0] [] (.k (.ops [0,1,1,1,1] 3) [.seq [1,1,1,1,1]] [4,7] [(10,.bool true),(25,.agg #[.slice A N c,.slice B fm.pages.length d]),(26,.slice Av env.length cv),(27,.slice Ao No co)]) ?_
 clear hJ a w; intro a w hJ
 refine wX hJ 28 (hA _ _ _ _ _ _ _ (hfm.sees (s6.trans (s8.trans hJ.j.sees))) (fin.sees (s8.trans hJ.j.sees)) (hro.sees hJ.j.sees)) (fun _=>by kernel_rfl) ?_; clear hJ a w; rintro _ h9 a w s10 ⟨A2,c2,rfl,hva2⟩ hJ
 refine rk' hJ false 8 [] [] (.k (.code [0,1,1,1,1,1]) [.seq [1,1,1,1,1,1]] [4,7,10] [(11,.slice A2 N c2),(12,Vi 0)]) ?_
 clear hJ a w; intro a w hJ
 let R:Reg:=⟨⟨41,h.w,h.bad,[]⟩,[(0,31,fun gh=>.agg #[.slice A N c,.slice B fm.pages.length d]),(1,32,fun gh=>.slice A2 N c2),(2,33,fun gh=>.bool true),(3,34,fun gh=>.bool true),(4,35,fun gh=>Vi 0),(5,36,fun gh=>.bool true),(6,37,fun gh=>.bool true),(7,38,fun gh=>.bool true),(8,39,fun gh=>.bool true),(9,40,fun gh=>.bool true),(11,5,fun gh=>.slice A2 N c2),(12,6,fun gh=>.bool true)],[(4,Vp b1),(7,Vp b4),(10,.bool true),(11,.slice A2 N c2),(12,Vi 0)],[⟨some (.box b4 [.slice A N c,.slice B fm.pages.length d]),[]⟩,⟨some (.box b1 [Vz,Vz]),[(10,fun gh=>.box b1 [.slice A N c,.slice B fm.pages.length d])]⟩],[],[[],[],[],[2],[2,3],[2,3,4],[2,3,4,5],[2,3,4,5,6],[2,3,4,5,6,7],[2,3,4,5,6,7,8],[0,2,3,4,5,6,7,8],[0,1,2,3,4,5,6,7,8,10],[0,1,2,3,4,5,6,7,8,9,10,11]],h9⟩
 have hmono:∀ zq∈R.F,∀ zx zh zi,Sees zh zi→zq.2 zx zh→zq.2 zx zi:=lJ
 refine iY (by kernel_rfl) R hJ 13 [.ld 0 0,.pu,.pu,.pu,.pu,.pu,.pu,.pu,.cl,.pu,.st 1 0,.pu,.pu] (by kernel_rfl) hmono (fun _ _ _=>by kernel_rfl) (fun hT hA=>?_) ?_
 ·clear hJ
  refine And.intro (oW hT hA hmono 39 (fun gh=>.bool true) [7] 8 19 (fun gh=>#[]) (fun gh H sH fH lent=>known_any _)) ?_
  trivial
 clear hJ a w; intro gh h11 a w sR hJ1 hF; have s12:Sees h9 h11:=sR; clear sR
 have hJ:K ⟨41,h.w,h.bad,[]⟩ [(4,Vp b1),(5,.slice A2 N c2),(6,.bool true)] [.box b4 [.slice A N c,.slice B fm.pages.length d],.box b1 [.slice A N c,.slice B fm.pages.length d]] [] h11 a w:=hJ1.tw
 clear hJ1 hF hmono R
 clear gh
 refine rk' hJ false 2 [] [] (.k (.out .ret) [] [4,5,6] []) ?_
 clear hJ a w; intro a w hJ
 refine zX (hQ [.agg #[.slice A N c,.slice B fm.pages.length d],.slice A2 N c2,.bool true] _ [] hJ (.rcel hJ.j 1 (.rtm hJ.j (.rtm hJ.j .nil))) (fJ _) rfl ?_).1
 exact ⟨A,c,B,d,A2,c2,rfl,(hfm.sees (s6.trans (s8.trans (s10.trans (s12.trans hJ.j.out))))),(hva2.sees (s12.trans hJ.j.out))⟩
end Go.Proofs.YthckljafinhepaaGreat
