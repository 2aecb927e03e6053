/-
  Contracts of the laws' Facts and Answered.
-/
import Derived.Test.YthckljafinhepaaGreatZG42
import Derived.Test.YthckljafinhepaaGreatZG45
namespace Go.Proofs.YthckljafinhepaaGreat
open Go.RowKit
set_option linter.unusedVariables false

theorem fcs_snoc:∀ {fs:List Fd} {vs:List Vl} (f:Fd) (v:Vl),vs.length=fs.length→fcs (fs++[f]) (vs++[v])=fcs fs vs++[(f.name,v)]
 | [],[],f,v,_=>rfl
 | g :: fs,x :: vs,f,v,h=>by
  show _ :: fcs (fs++[f]) (vs++[v])=_
  rw [fcs_snoc f v (by simpa using h)]; rfl
 | [],_ :: _,_,_,h=>by simp at h
 | _ :: _,[],_,_,h=>by simp at h
theorem fcs_ok {fs:List Fd} {vs:List Vl} (h:∀ x∈vs,OkV x):∀ p∈fcs fs vs,OkV p.2:=by
 induction fs generalizing vs with
 | nil=>intro p hp; cases hp
 | cons f fs ih =>
  cases vs with
  | nil=>intro p hp; cases hp
  | cons v vs =>
   intro p hp
   rcases List.mem_cons.1 hp with rfl | hp
   ·exact h v (by simp)
   ·exact ih (fun x hx=>h x (by simp [hx])) p hp

set_option maxHeartbeats 4000000 in
set_option maxRecDepth 100000 in
theorem facts_l (fs:List Fd) (va:List Vl) (A:Option Addr) (n c:Nat) (A1:Option Addr) (c1:Nat) (h:Vw) (hf:IsFds h (.slice A n c) fs) (hn:n=fs.length) (few:n≤1000) (ha:RS h 3 (.slice A1 n c1) (vlRows va)) (la:va.length=n) :
  C0 Tryz.prog 21 #[.slice A n c,.slice A1 n c1] h (fun r h'=>∃ u,r=.slice (sA u) (sN u) (sC u)∧RS h' 7 (.slice (sA u) (sN u) (sC u)) (fcRows (fcs fs va))):=by
 obtain ⟨vs,A',c',e,-,-,hr,hs,hvl,hsl⟩:=fds_open hf
 simp only [Value.slice.injEq] at e
 obtain ⟨rfl,-,rfl⟩:=e
 rw [← hn] at hr hvl
 have hfl:=fun k (q:k≤n)=>fcs_len (fs:=fs.take k) (v:=va.take k) (by simp; omega)
 refine x_con' Tryz.func21 (c:=Tryz.f21.body.getD .skip) (N:=31) ?_
 intro hbx hbad Q hQ a w hJ
 refine rk' hJ false 19 [] [] (.k (.code [0,1,0,1,1]) [.block 0,.seq [1,1,1]] [1] [(5,Vz),(8,.slice A n c),(9,Vi (n:Int)),(10,Vi 0)]) ?_
 clear hJ a w; intro a w hJ
 replace hJ:=hJ.nilrow 54 7
 refine x_loop' (fun (k:Nat) a w=>∃ (h1:Vw) (v:Value),K ⟨31,h.w,h.bad,[]⟩ [(1,.slice A1 n c1),(8,.slice A n c),(9,Vi (n:Int)),(10,Vi (k:Int)),(5,v)] [.row v 54 7 (fcRows (fcs (fs.take k) (va.take k)))] [] h1 a w∧Sees h h1∧(k≤n)) (fun k=>n - k) (0) ⟨h,(Vz),hJ.tw,Sees.refl _,Nat.zero_le _⟩ ?_
 clear hJ a w; rintro k a w ⟨h1,v,hJ,s2,hk⟩
 refine rk' hJ false 6 [] [] (.k (.code [0,1,0,0,1,0,1,1]) [.seq [1,1,0,0,1,0,1,1]] [1,8,9,10,5] [(11,.bool (decide ((k:Int) < (n:Int))))]) ?_
 clear hJ a w; intro a w hJ
 rcases (by omega:k < n∨k=n) with hlt | hke
 ·obtain ⟨x,hx⟩:∃ x,fs[k]?=some x:=⟨_,List.getElem?_eq_getElem (by omega)⟩
  obtain ⟨u,hu⟩:∃ u,vs[k]?=some u:=⟨_,List.getElem?_eq_getElem (by omega)⟩
  obtain ⟨xa,hxa⟩:∃ y,va[k]?=some y:=⟨_,List.getElem?_eq_getElem (by omega)⟩
  have hrow:=fdRows_get hx hu
  have hra:=vlRows_get hxa
  obtain ⟨Au,nu,cu,rfl⟩:=(AllArgs.get hs (x:=x.src) (by rw [List.getElem?_map,hx]; rfl) hu).slice
  have hsn:=fcs_snoc (fs:=fs.take k) (vs:=va.take k) x xa (by simp; omega)
  rw [← take_snoc' _ k x hx,← take_snoc' _ k xa hxa] at hsn
  have hl2:=hfl k hk
  rw [List.length_take] at hl2
  have hl3:(fcRows (fcs (fs.take k) (va.take k))).length=(fcs (fs.take k) (va.take k)).length:=List.length_map _
  refine x_tru hJ (t:=decide ((k:Int) < (n:Int))) (decide_eq_true (by omega)) ?_
  refine rk' hJ false 7 [] [] (.k (.ops [0,0,0,1,1,0,0,1,0,1,1] 1) [.seq [1,0,0,1,1,0,0,1,0,1,1],.block 1,.seq [1,1,1,0,0,1,0,1,1]] [1,8,9,10,5] [(12,Vi (k:Int))]) ?_
  clear hJ a w; intro a w hJ
  obtain ⟨b3,o4,rfl,-,c5⟩:=RS.row hr (hrow)
  replace hJ:=hJ.fact (c5.sees s2)
  refine rk hJ false 16 [.ix b3 o4 n c k,.f 0 0,.own,.b 0 0] [(18,.bool (decide ((k:Int) < (n:Int))),.bool true)] (.new fun b6=>.f (.code [0,1,1,0,0,1,1,0,0,1,0,1,1]) [.block 1,.seq [1,1,1,0,0,1,0,1,1]] [1,8,9,10,5] [(7,Vp b6),(6,Vi (k:Int))] [.box b6 [.string x.name,Vi x.kind,Vi x.ty,Vi x.src.op,Vi x.src.k,Vi x.src.n,.string x.src.s,.string x.src.nm,.slice Au nu cu],.row v 54 7 (fcRows (fcs (fs.take k) (va.take k)))] [.o 0]) (And.intro (by first | omega | (simp; omega)) (trivial)) (And.intro (congrArg Value.bool (decide_eq_true (by omega))) (trivial)) (fun b6 _=>by kernel_rfl) ?_
  clear hJ a w; intro b6 a w hJ
  obtain ⟨b7,o8,rfl,-,c9⟩:=RS.row ha (hra)
  replace hJ:=hJ.fact (c9.sees s2)
  let R:Reg:=⟨⟨31,h.w,h.bad,[]⟩,[(0,19,fun gh=>v),(1,20,fun gh=>Vp b6),(2,21,fun gh=>.string x.name),(3,22,fun gh=>.slice (some ⟨b7,o8,none⟩) n c1),(4,23,fun gh=>Vi (k:Int)),(5,24,fun gh=>.pointer (some ⟨b7,o8 + k * 3,none⟩)),(6,25,fun gh=>.agg #[Vi xa.k,Vi xa.n,.string xa.s]),(7,26,fun gh=>.agg #[.string x.name,Vi 0,Vi 0,Ve,Vi xa.k,Vi xa.n,.string xa.s]),(8,27,fun gh=>.slice (some ⟨(blkOf (gh 8)),0,none⟩) 1 1),(9,28,fun gh=>.slice (sA (gh 9)) (sN (gh 9)) (sC (gh 9))),(10,5,fun gh=>.slice (sA (gh 9)) (sN (gh 9)) (sC (gh 9)))],[(1,.slice (some ⟨b7,o8,none⟩) n c1),(8,.slice (some ⟨b3,o4,none⟩) n c),(9,Vi (n:Int)),(10,Vi (k:Int)),(5,v),(7,Vp b6),(6,Vi (k:Int))],[⟨some (.box b6 [.string x.name,Vi x.kind,Vi x.ty,Vi x.src.op,Vi x.src.k,Vi x.src.n,.string x.src.s,.string x.src.nm,.slice Au nu cu]),[]⟩,⟨some (.row v 54 7 (fcRows (fcs (fs.take k) (va.take k)))),[(9,fun gh=>.row (.slice (sA (gh 9)) (sN (gh 9)) (sC (gh 9))) 54 7 ((fcRows (fcs (fs.take k) (va.take k)))++[[.string x.name,Vi 0,Vi 0,Ve,Vi xa.k,Vi xa.n,.string xa.s]]))]⟩],[(8,fun gh hh=>Cells hh (blkOf (gh 8)) 0 [.string x.name,Vi 0,Vi 0,Ve,Vi xa.k,Vi xa.n,.string xa.s])],[[],[],[1],[],[],[3,4],[3,4,5],[1,2,3,4,5,6],[1,2,3,4,5,6,7],[0,1,2,3,4,5,6,7,8],[0,1,2,3,4,5,6,7,8,9]],h1⟩
  have hmono:∀ zq∈R.F,∀ zx zh zi,Sees zh zi→zq.2 zx zh→zq.2 zx zi:=mono_cons (fun _ _ _ s c=>c.sees s) (mono_nil)
  refine x_region (by kernel_rfl) R hJ 11 [.pu,.pu,.ld 0 0,.pu,.pu,.cl,.lf 0 0,.pu,.cl,.cl,.pu] (by kernel_rfl) hmono (fun _ _ _=>by kernel_rfl) (fun hT hA=>?_) ?_
  ·clear hJ
   refine And.intro (r_pur hT hA 24 (fun gh=>.pointer (some ⟨b7,o8 + k * 3,none⟩)) [3,4] 5 (fun gh w=>run_indexAddr (t:=32) (x:=(.tmp 22)) (y:=(.tmp 23)) (b:=b7) (off:=o8) (n:=n) (cap:=c1) (k:=k) (e:=38) (kk:=3) (by kernel_rfl) (by kernel_rfl) (by kernel_rfl) (by first | omega | (simp; omega)) Tryz.underlying32 (by kernel_rfl))) ?_
   refine And.intro (r_fact hT hA hmono ⟨fun _ _=>by kernel_rfl,fun _ _=>by kernel_rfl,fun _ _=>by kernel_rfl⟩ 27 (fun g=>Vs g 1 1) [7] 8 (by kernel_rfl) (by kernel_rfl) (fun _=>by kernel_rfl) (fun gh=>[.string x.name,Vi 0,Vi 0,Ve,Vi xa.k,Vi xa.n,.string xa.s]) 54 (fun _ _=>by kernel_rfl) (fun gh zb zH zc zj zq zhq zhe=>own_fact (i:=8) (k:=0) (f:=fun gh hh=>Cells hh (blkOf (gh 8)) 0 [.string x.name,Vi 0,Vi 0,Ve,Vi xa.k,Vi xa.n,.string xa.s]) (by kernel_rfl) (by kernel_rfl) zc zj zq zhq zhe)) ?_
   refine And.intro (r_append hT hA hmono ⟨fun _ _=>by kernel_rfl,fun _ _=>by kernel_rfl,fun _ _=>by kernel_rfl⟩ (by kernel_rfl) 28 [0,8] 9 (by kernel_rfl) (fun _=>by kernel_rfl) 1 ⟨some (.row v 54 7 (fcRows (fcs (fs.take k) (va.take k)))),[(9,fun gh=>.row (.slice (sA (gh 9)) (sN (gh 9)) (sC (gh 9))) 54 7 ((fcRows (fcs (fs.take k) (va.take k)))++[[.string x.name,Vi 0,Vi 0,Ve,Vi xa.k,Vi xa.n,.string xa.s]]))]⟩ (by kernel_rfl) (by kernel_rfl) (by kernel_rfl) (fun gh=>v) 28 54 7 (fun gh=>fcRows (fcs (fs.take k) (va.take k))) (fun gh=>[[.string x.name,Vi 0,Vi 0,Ve,Vi xa.k,Vi xa.n,.string xa.s]]) (fun _=>by kernel_rfl) (fun _=>by kernel_rfl) (fun _ _=>by kernel_rfl) (.tmp 19) (.tmp 27) (by kernel_rfl) (by kernel_rfl) (fun gh=>(blkOf (gh 8))) 1 1 (fun _=>by kernel_rfl) (fun _=>by kernel_rfl) 0 8 (fun gh hh=>Cells hh (blkOf (gh 8)) 0 [.string x.name,Vi 0,Vi 0,Ve,Vi xa.k,Vi xa.n,.string xa.s]) (by kernel_rfl) (by kernel_rfl) (fun _ _ c=>c) Tryz.underlying28 (zv:=.agg #[Ve,Vi 0,Vi 0,Ve,Vi 0,Vi 0,Ve]) (bytes:=80) (by kernel_rfl) (by kernel_rfl) (fun _=>by kernel_rfl) (fun _=>by constructor <;> (simp; omega))) ?_
   trivial
  clear hJ a w; intro gh h12 a w sR hJ1 hF; have s13:Sees h1 h12:=sR; clear sR
  have hJ:K ⟨31,h.w,h.bad,[]⟩ [(1,.slice (some ⟨b7,o8,none⟩) n c1),(8,.slice (some ⟨b3,o4,none⟩) n c),(9,Vi (n:Int)),(10,Vi (k:Int)),(5,.slice (sA (gh 9)) (sN (gh 9)) (sC (gh 9)))] [.box b6 [.string x.name,Vi x.kind,Vi x.ty,Vi x.src.op,Vi x.src.k,Vi x.src.n,.string x.src.s,.string x.src.nm,.slice Au nu cu],.row (.slice (sA (gh 9)) (sN (gh 9)) (sC (gh 9))) 54 7 ((fcRows (fcs (fs.take k) (va.take k)))++[[.string x.name,Vi 0,Vi 0,Ve,Vi xa.k,Vi xa.n,.string xa.s]])] [(b7,o8 + k * 3,[Vi xa.k,Vi xa.n,.string xa.s]),(b3,o4 + k * 9,[.string x.name,Vi x.kind,Vi x.ty,Vi x.src.op,Vi x.src.k,Vi x.src.n,.string x.src.s,.string x.src.nm,.slice Au nu cu])] h12 a w:=hJ1.tw
  have f10:Cells h12 (blkOf (gh 8)) 0 [.string x.name,Vi 0,Vi 0,Ve,Vi xa.k,Vi xa.n,.string xa.s]:=Reg.fact (i:=8) (f:=fun gh hh=>Cells hh (blkOf (gh 8)) 0 [.string x.name,Vi 0,Vi 0,Ve,Vi xa.k,Vi xa.n,.string xa.s]) hF 0 (by kernel_rfl)
  replace hJ:=hJ.fact f10
  clear hJ1 hF hmono R
  generalize blkOf (gh 8)=b11 at *
  generalize gh 9=v28 at *
  clear gh
  refine rk' hJ false 6 [] [(29,Vi (IntKind.i64.wrap ((k:Int) + 1)),Vi ((k:Int) + 1))] (.k (.out .normal) [] [1,8,9,5] [(10,Vi ((k:Int) + 1))]) (hc:=And.intro (i64_wrap (by omega) (by omega)) (trivial)) ?_
  clear hJ a w; intro a w hJ
  replace hJ:=hJ.drop 0
  exact x_round ⟨k + 1,⟨h12,.slice (sA v28) (sN v28) (sC v28),(hJ.tof [] (F':=[]) (by kernel_rfl)).to (by kernel_rfl) (by rw [hsn,fcRows_snoc]; rfl) rfl,(s2.trans s13),by omega⟩,by omega⟩
 ·skip
  have t1:fs.take k=fs:=by rw [hke,hn,List.take_length]
  have t2:va.take k=va:=by rw [hke,← la,List.take_length]
  rw [t1,t2] at hJ
  have hrl:(fcRows (fcs fs va)).length=(fcs fs va).length:=List.length_map _
  obtain ⟨Ar,cr,hE_v,hc_v,hm_v⟩:=hJ.form (v:=v) (e:=54) (k:=7) (l:=fcRows (fcs fs va)) 0 (by kernel_rfl)
  rw [show (fcRows (fcs fs va)).length=(fcs fs va).length from by first | omega | (simp; done) | (simp; omega)] at hE_v hc_v
  rw [hE_v] at hJ
  refine x_fal hJ (t:=decide ((k:Int) < (n:Int))) (decide_eq_false (by omega)) ?_
  refine rk' hJ false 2 [] [] (.k (.out (.exit 0)) [] [5] []) ?_
  clear hJ a w; intro a w hJ
  refine x_leave rfl ?_
  refine rk' hJ false 9 [] [] (.k (.out .ret) [] [] [(4,.slice Ar ((fcs fs va).length) cr)]) ?_
  clear hJ a w; intro a w hJ
  have fr:=hJ.j.rowOut0 (v:=.slice Ar ((fcs fs va).length) cr) (e:=54) (k:=7) (l:=fcRows (fcs fs va)) 0 (by kernel_rfl) rfl
  refine x_end (hQ [.slice Ar ((fcs fs va).length) cr] _ [] hJ (.rtm hJ.j .nil) (no_own _) rfl ?_).1
  exact ⟨.slice Ar (fcs fs va).length cr,rfl,fr⟩

theorem run_rem9 {P:Program} {t:TypeId} (a:Int) (w:World):(binOp .rem t (.int .i64 a) (.int .i64 9)).run P w=.ok (.int .i64 (Int.tmod a 9)) w:=by
 simp [binOp,Op.intDiv]
theorem run_hiS {P:Program} {o:Oper} {ρ:Operand→Value} {t:TypeId} {x y:Operand} {s:ByteArray} {k:Int} (w:World) (ho:o.op=.slice t x none (some y) none) (hx:ρ x=.string s) (hy:ρ y=.int .i64 k) (h0:0≤k) (hk:k≤s.size) (ht:P.underlying t=some .string) :
  (execOp ρ o).run P w=.ok (.value (.string (s.extract 0 k.toNat))) w:=by
 unfold execOp
 simp only [ho,hx,hy,Option.map_some,Option.map_none]
 simp [run_sliceAt_string (w:=w) t _ _ _ _ ht,run_slice_string_h (w:=w) t s ht .i64 k h0 hk]

set_option maxHeartbeats 4000000 in
set_option maxRecDepth 100000 in
theorem answered_any (f:Fd) (A:Option Addr) (n c:Nat) (key:Vl) (h:Vw) (hn:f.name.size≤10) (hk:key.s.size≤40) (t1:1≤f.ty) (t3:f.ty≤3):C0 Tryz.prog 60 #[.agg #[.string f.name,.int .i64 f.kind,.int .i64 f.ty,.int .i64 f.src.op,.int .i64 f.src.k,.int .i64 f.src.n,.string f.src.s,.string f.src.nm,.slice A n c],.agg #[.int .i64 key.k,.int .i64 key.n,.string key.s]] h (fun r _=>r=(ansV f key).val):=by
 have hr:=ansN_lo f key hn hk
 have hp2:=fun H=>c_picked (ansN f key) 2 H (by omega) (by omega) (by omega) (by omega)
 have hp9:=fun H=>c_picked (ansN f key) 9 H (by omega) (by omega) (by omega) (by omega)
 have p0:=pickL_lo (ansN f key) 9 (by omega)
 have p1:=pickL_hi (ansN f key) 9 (by omega)
 have habc:abcB.size=9:=rfl
 have e:ansN f key=Int.tmod key.n 9 + 3 * (key.s.size:Int) + (f.name.size:Int):=rfl
 have hs0:(0:Int)≤(key.s.size:Int):=Int.natCast_nonneg _
 have hrem:key.n % 9=key.n % 9:=rfl
 obtain g | g | g:f.ty=1∨f.ty=2∨f.ty=3:=by omega
 ·have ea:ansV f key=⟨1,ansN f key,⟨#[]⟩⟩:=by unfold ansV; rw [if_pos g]
  rw [ea]
  generalize ansN f key=N at *
  refine x_con' Tryz.func60 (c:=Tryz.f60.body.getD .skip) (N:=36) ?_
  intro hbx hbad Q hQ a w hJ
  refine rx' hJ false 11 [.own,.own,.own,.b 1 1] [] (.new fun b1=>.new fun b2=>.new fun b3=>.ok (.ops [0,1] 2) [.seq [1,1]] [(2,Vp b1),(3,Vp b2),(4,Vp b3),(7,Vi key.n)] [.box b3 [Vi 0,Vi 0,Ve],.box b2 [Vi key.k,Vi key.n,.string key.s],.box b1 [.string f.name,Vi f.kind,Vi f.ty,Vi f.src.op,Vi f.src.k,Vi f.src.n,.string f.src.s,.string f.src.nm,.slice A n c]] []) (fun b1 b2 b3 _=>by kernel_rfl) ?_
  clear hJ a w; intro b1 b2 b3 a w hJ
  refine x_pure hJ 8 (Vi (Int.tmod key.n 9)) (by kernel_rfl) (fun w=>run_bin (op:=.rem) (t:=3) (x:=(.tmp 7)) (y:=(.const (Vi 9))) (yt:=3) (by kernel_rfl) (by kernel_rfl) (by kernel_rfl) (by kernel_rfl) (run_rem9 key.n w)) ?_; clear hJ a w; intro a w hJ
  refine rx' hJ false 37 [.b 1 2,.b 2 0,.b 2 2,.b 0 0] [(12,Vi (IntKind.i64.wrap (3 * (key.s.size:Int))),Vi (3 * (key.s.size:Int))),(13,Vi (IntKind.i64.wrap (Int.tmod key.n 9 + (3 * (key.s.size:Int)))),Vi (Int.tmod key.n 9 + (3 * (key.s.size:Int)))),(17,Vi (IntKind.i64.wrap ((Int.tmod key.n 9 + (3 * (key.s.size:Int))) + (f.name.size:Int))),Vi N),(21,.bool (f.ty == 1),.bool true)] (.ok (.out .ret) [] [(4,Vp b3)] [.box b3 [Vi 1,Vi N,Ve],.box b2 [Vi key.k,Vi key.n,.string key.s],.box b1 [.string f.name,Vi f.kind,Vi f.ty,Vi f.src.op,Vi f.src.k,Vi f.src.n,.string f.src.s,.string f.src.nm,.slice A n c]] []) (hc:=And.intro (i64_wrap (by omega) (by omega)) (And.intro (i64_wrap (by omega) (by omega)) (And.intro ((i64_wrap (by omega) (by omega)).trans (congrArg (Value.int .i64) e.symm)) (And.intro (congrArg Value.bool (beq_iff_eq.2 g)) (trivial))))) (fun _=>by kernel_rfl) ?_
  clear hJ a w; intro a w hJ
  refine x_end (hQ [.agg #[Vi 1,Vi N,Ve]] _ [] hJ (.rcel hJ.j 0 .nil) (no_own _) rfl ?_).1
  exact rfl
 ·have ea:ansV f key=⟨2,pickL (ansN f key) 2,⟨#[]⟩⟩:=by unfold ansV; rw [if_neg (by omega),if_pos g]
  rw [ea]
  generalize ansN f key=N at *
  refine x_con' Tryz.func60 (c:=Tryz.f60.body.getD .skip) (N:=36) ?_
  intro hbx hbad Q hQ a w hJ
  refine rx' hJ false 11 [.own,.own,.own,.b 1 1] [] (.new fun b1=>.new fun b2=>.new fun b3=>.ok (.ops [0,1] 2) [.seq [1,1]] [(2,Vp b1),(3,Vp b2),(4,Vp b3),(7,Vi key.n)] [.box b3 [Vi 0,Vi 0,Ve],.box b2 [Vi key.k,Vi key.n,.string key.s],.box b1 [.string f.name,Vi f.kind,Vi f.ty,Vi f.src.op,Vi f.src.k,Vi f.src.n,.string f.src.s,.string f.src.nm,.slice A n c]] []) (fun b1 b2 b3 _=>by kernel_rfl) ?_
  clear hJ a w; intro b1 b2 b3 a w hJ
  refine x_pure hJ 8 (Vi (Int.tmod key.n 9)) (by kernel_rfl) (fun w=>run_bin (op:=.rem) (t:=3) (x:=(.tmp 7)) (y:=(.const (Vi 9))) (yt:=3) (by kernel_rfl) (by kernel_rfl) (by kernel_rfl) (by kernel_rfl) (run_rem9 key.n w)) ?_; clear hJ a w; intro a w hJ
  refine rx hJ false 45 [.b 1 2,.b 2 0,.b 2 2,.cl 24 #[Vi N,Vi 2] (Vi (pickL N 2)),.b 0 0] [(12,Vi (IntKind.i64.wrap (3 * (key.s.size:Int))),Vi (3 * (key.s.size:Int))),(13,Vi (IntKind.i64.wrap (Int.tmod key.n 9 + (3 * (key.s.size:Int)))),Vi (Int.tmod key.n 9 + (3 * (key.s.size:Int)))),(17,Vi (IntKind.i64.wrap ((Int.tmod key.n 9 + (3 * (key.s.size:Int))) + (f.name.size:Int))),Vi N),(21,.bool (f.ty == 1),.bool false),(25,.bool (f.ty == 2),.bool true)] (.ok (.out .ret) [] [(4,Vp b3)] [.box b3 [Vi 2,Vi (pickL N 2),Ve],.box b2 [Vi key.k,Vi key.n,.string key.s],.box b1 [.string f.name,Vi f.kind,Vi f.ty,Vi f.src.op,Vi f.src.k,Vi f.src.n,.string f.src.s,.string f.src.nm,.slice A n c]] []) (And.intro (fun H sH=>hp2 _) (trivial)) (And.intro (i64_wrap (by omega) (by omega)) (And.intro (i64_wrap (by omega) (by omega)) (And.intro ((i64_wrap (by omega) (by omega)).trans (congrArg (Value.int .i64) e.symm)) (And.intro (congrArg Value.bool (beq_eq_false_iff_ne.2 (by omega))) (And.intro (congrArg Value.bool (beq_iff_eq.2 g)) (trivial)))))) (fun _=>by kernel_rfl) ?_
  clear hJ a w; intro a w hJ
  refine x_end (hQ [.agg #[Vi 2,Vi (pickL N 2),Ve]] _ [] hJ (.rcel hJ.j 0 .nil) (no_own _) rfl ?_).1
  exact rfl
 ·have ea:ansV f key=⟨3,0,f.name++abcB.extract 0 (pickL (ansN f key) 9).toNat⟩:=by unfold ansV; rw [if_neg (by omega),if_neg (by omega)]
  rw [ea]
  have hcut:=fun (ρ:Operand→Value) (o:Oper) (x y:Operand) (w:World) q1 q2 q3=>run_hiS (P:=Tryz.prog) (o:=o) (ρ:=ρ) (t:=9) (x:=x) (y:=y) (s:=abcB) (k:=pickL (ansN f key) 9) w q1 q2 q3 p0 (by rw [habc]; omega) Tryz.underlying9
  generalize ansN f key=N at *
  generalize pickL N 9=q at *
  have hcs:=(abc_print q.toNat).1
  refine x_con' Tryz.func60 (c:=Tryz.f60.body.getD .skip) (N:=36) ?_
  intro hbx hbad Q hQ a w hJ
  refine rx' hJ false 11 [.own,.own,.own,.b 1 1] [] (.new fun b1=>.new fun b2=>.new fun b3=>.ok (.ops [0,1] 2) [.seq [1,1]] [(2,Vp b1),(3,Vp b2),(4,Vp b3),(7,Vi key.n)] [.box b3 [Vi 0,Vi 0,Ve],.box b2 [Vi key.k,Vi key.n,.string key.s],.box b1 [.string f.name,Vi f.kind,Vi f.ty,Vi f.src.op,Vi f.src.k,Vi f.src.n,.string f.src.s,.string f.src.nm,.slice A n c]] []) (fun b1 b2 b3 _=>by kernel_rfl) ?_
  clear hJ a w; intro b1 b2 b3 a w hJ
  refine x_pure hJ 8 (Vi (Int.tmod key.n 9)) (by kernel_rfl) (fun w=>run_bin (op:=.rem) (t:=3) (x:=(.tmp 7)) (y:=(.const (Vi 9))) (yt:=3) (by kernel_rfl) (by kernel_rfl) (by kernel_rfl) (by kernel_rfl) (run_rem9 key.n w)) ?_; clear hJ a w; intro a w hJ
  refine rk' hJ false 38 [.b 1 2,.b 2 0,.b 2 2] [(12,Vi (IntKind.i64.wrap (3 * (key.s.size:Int))),Vi (3 * (key.s.size:Int))),(13,Vi (IntKind.i64.wrap (Int.tmod key.n 9 + (3 * (key.s.size:Int)))),Vi (Int.tmod key.n 9 + (3 * (key.s.size:Int)))),(17,Vi (IntKind.i64.wrap ((Int.tmod key.n 9 + (3 * (key.s.size:Int))) + (f.name.size:Int))),Vi N),(21,.bool (f.ty == 1),.bool false),(25,.bool (f.ty == 2),.bool false)] (.k (.code [0,1,1,1]) [.seq [1,1,1,1]] [2,4] [(5,Vi N)]) (hc:=And.intro (i64_wrap (by omega) (by omega)) (And.intro (i64_wrap (by omega) (by omega)) (And.intro ((i64_wrap (by omega) (by omega)).trans (congrArg (Value.int .i64) e.symm)) (And.intro (congrArg Value.bool (beq_eq_false_iff_ne.2 (by omega))) (And.intro (congrArg Value.bool (beq_eq_false_iff_ne.2 (by omega))) (trivial)))))) ?_
  clear hJ a w; intro a w hJ
  let R:Reg:=⟨⟨36,h.w,h.bad,[]⟩,[(0,29,fun gh=>Vp b1),(1,30,fun gh=>.string f.name),(2,31,fun gh=>Vi N),(3,32,fun gh=>Vi q),(4,33,fun gh=>.string (abcB.extract 0 q.toNat)),(5,34,fun gh=>.string (f.name++abcB.extract 0 q.toNat)),(6,35,fun gh=>.agg #[Vi 3,Vi 0,.string (f.name++abcB.extract 0 q.toNat)])],[(2,Vp b1),(4,Vp b3),(5,Vi N)],[⟨some (.box b3 [Vi 0,Vi 0,Ve]),[(7,fun gh=>.box b3 [Vi 3,Vi 0,.string (f.name++abcB.extract 0 q.toNat)])]⟩,⟨some (.box b2 [Vi key.k,Vi key.n,.string key.s]),[]⟩,⟨some (.box b1 [.string f.name,Vi f.kind,Vi f.ty,Vi f.src.op,Vi f.src.k,Vi f.src.n,.string f.src.s,.string f.src.nm,.slice A n c]),[]⟩],[],[[],[0],[],[2],[2,3],[0,1,2,3,4],[0,1,2,3,4,5],[0,1,2,3,4,5,6]],h⟩
  have hmono:∀ zq∈R.F,∀ zx zh zi,Sees zh zi→zq.2 zx zh→zq.2 zx zi:=mono_nil
  refine x_region (by kernel_rfl) R hJ 8 [.pu,.ld 2 0,.pu,.cl,.cl,.cl,.pu,.st 0 0] (by kernel_rfl) hmono (fun _ _ _=>by kernel_rfl) (fun hT hA=>?_) ?_
  ·clear hJ
   refine And.intro (r_calv hT hA hmono 32 (fun gh=>Vi q) [2] 3 24 (fun gh=>#[Vi N,Vi 9]) (fun gh H sH fH lent=>hp9 _)) ?_
   refine And.intro (r_pur hT hA 33 (fun gh=>.string (abcB.extract 0 q.toNat)) [3] 4 (fun gh w=>hcut _ _ (.const (.string abcB)) (.tmp 32) w (by kernel_rfl) (by kernel_rfl) (by kernel_rfl))) ?_
   refine And.intro (r_pur hT hA 34 (fun gh=>.string (f.name++abcB.extract 0 q.toNat)) [1,4] 5 (fun gh w=>run_bin (op:=.add) (t:=9) (x:=(.tmp 30)) (y:=(.tmp 33)) (yt:=9) (by kernel_rfl) (by kernel_rfl) (by kernel_rfl) (by kernel_rfl) (run_cat (by omega)))) ?_
   trivial
  clear hJ a w; intro gh h4 a w sR hJ1 hF; have s5:Sees h h4:=sR; clear sR
  have hJ:K ⟨36,h.w,h.bad,[]⟩ [(4,Vp b3)] [.box b3 [Vi 3,Vi 0,.string (f.name++abcB.extract 0 q.toNat)],.box b2 [Vi key.k,Vi key.n,.string key.s],.box b1 [.string f.name,Vi f.kind,Vi f.ty,Vi f.src.op,Vi f.src.k,Vi f.src.n,.string f.src.s,.string f.src.nm,.slice A n c]] [] h4 a w:=hJ1.tw
  clear hJ1 hF hmono R
  clear gh
  refine rk' hJ false 2 [] [] (.k (.out .ret) [] [4] []) ?_
  clear hJ a w; intro a w hJ
  refine x_end (hQ [.agg #[Vi 3,Vi 0,.string (f.name++abcB.extract 0 q.toNat)]] _ [] hJ (.rcel hJ.j 0 .nil) (no_own _) rfl ?_).1
  exact rfl

end Go.Proofs.YthckljafinhepaaGreat

namespace Go.Proofs.YthckljafinhepaaGreat
open Go.RowKit
set_option linter.unusedVariables false

section
variable {P:Program} {C:Fx} {E:List (Nat × Value)} {B:List Ent} {F:List Fac} {h:Vw} {a:Act} {w w':World} {Q:Exit→Act→World→Prop} {c0:Code} {p:List Nat} {n:Nat} {ks:List Kt}
theorem x_callownq {f:FuncId} {args:Array Value} {e:TypeId} {kk:Nat} {R:Value→Value→List (List Value)→Prop} (hK:K C E B F h a w) (d:Nat) (hc:C0 P f args ⟨w,[]⟩ (fun v h'=>∃ u l,Ent.ok w.heap.size h'.w (.row u e kk l)∧R v u l)) (hk:∀ w,callAt P C E (opsAt c0 p) ((opsAt c0 p).toList.drop n) d w=[.b true,.r (.ok (.enter f args) w)])
  (k:∀ v u l h' a w,Sees h h'→R v u l→K C ((d,v) :: E) (.row u e kk l :: B) F h' a w→Goal P c0 Q (.ops p (n + 1)) ks a w):Goal P c0 Q (.ops p n) ks a w:=by
 obtain ⟨o,r,hl,hg,hd,hlt,hkn,hrun⟩:=callAt_parts hk
 have hr:=drop_cons hl
 refine goal_unguard hl (gKnown_wanted hK.j.fits hg) (wpList_plain rfl fun KK hKK=>?_)
 unfold Oper.wp
 have hrun':∀ w,(execOp (evD E) { o with guard:=none }).run P w=.ok (.enter f args) w:=fun w=>by
  have:=hrun w
  unfold execOp at this ⊢
  exact this
 rw [run_ev (o:={ o with guard:=none }) hK.j.fits hkn,hrun']
 refine (hc (by intro x hx; cases hx) (by simp) (by simp) (by intro b hb; cases hb)).mono ?_
 rintro e' w' ⟨v,Bo,rfl,hlo,-,-,u,l,hok,hR⟩
 refine hKK _ _ ?_
 rw [hr]
 have j1:=(hK.j.addRow hlo hok).putd v hd hlt
 exact k v u l _ _ _ j1.sees hR ⟨j1.now,hK.facs j1.sees⟩
end

theorem keep1_any (p:Aw) (x:Fd) (A:Option Addr) (n c:Nat) (key:Vl) (b d:Nat) (h:Vw) (hc:Cells h b 0 [.string x.name,.int .i64 x.kind,.int .i64 x.ty,.int .i64 x.src.op,.int .i64 x.src.k,.int .i64 x.src.n,.string x.src.s,.string x.src.nm,.slice A n c]) (hd:Cells h d 0 [.int .i64 key.k,.int .i64 key.n,.string key.s]):C0 Tryz.prog 59 #[.agg #[.string p.nm,.int .i64 p.key.k,.int .i64 p.key.n,.string p.key.s,.int .i64 p.has.k,.int .i64 p.has.n,.string p.has.s],.pointer (some ⟨b,0,none⟩),.pointer (some ⟨d,0,none⟩)] h (fun r _=>r=.bool (p.hit x.name key)):=by
 unfold Aw.hit
 refine x_con' Tryz.func59 (c:=Tryz.f59.body.getD .skip) (N:=16) ?_
 intro hbx hbad Q hQ a w hJ
 replace hJ:K ⟨16,h.w,h.bad,[]⟩ [(0,.agg #[.string p.nm,Vi p.key.k,Vi p.key.n,.string p.key.s,Vi p.has.k,Vi p.has.n,.string p.has.s]),(1,Vp b),(2,Vp d)] [] [] h a w:=hJ.tw
 replace hJ:=hJ.fact (hc.sees (Sees.refl _))
 replace hJ:=hJ.fact (hd.sees (Sees.refl _))
 refine rk' hJ false 14 [.own,.b 0 0,.f 1 0] [] (.new fun b1=>.f (.ops [0,1] 6) [.seq [1,1]] [2] [(3,Vp b1),(10,.bool (p.nm.toList == x.name.toList))] [.box b1 [.string p.nm,Vi p.key.k,Vi p.key.n,.string p.key.s,Vi p.has.k,Vi p.has.n,.string p.has.s]] [.o 0,.o 1]) (hr:=fun b1 _=>by kernel_rfl) ?_
 clear hJ a w; intro b1 a w hJ
 cases hq:p.nm.toList == x.name.toList with
 | true =>
  generalize hg:eqB p.key key=g at *
  replace hJ:=hJ.rew 10 (v:=.bool (p.nm.toList == x.name.toList)) (v':=.bool true) (congrArg Value.bool hq) (by kernel_rfl)
  replace hJ:K ⟨16,h.w,h.bad,[]⟩ [(2,Vp d),(3,Vp b1),(10,.bool true)] [.box b1 [.string p.nm,Vi p.key.k,Vi p.key.n,.string p.key.s,Vi p.has.k,Vi p.has.n,.string p.has.s]] [(d,0,[Vi key.k,Vi key.n,.string key.s]),(b,0,[.string x.name,Vi x.kind,Vi x.ty,Vi x.src.op,Vi x.src.k,Vi x.src.n,.string x.src.s,.string x.src.nm,.slice A n c])] h a w:=hJ.to (by kernel_rfl) rfl rfl
  refine rk' hJ false 3 [.b 0 1,.f 0 0] [] (.k (.ops [0,1] 9) [.seq [1,1]] [10] [(12,.agg #[Vi p.key.k,Vi p.key.n,.string p.key.s]),(13,.agg #[Vi key.k,Vi key.n,.string key.s])]) ?_
  clear hJ a w; intro a w hJ
  refine x_pure hJ 14 (.bool g) (by kernel_rfl) (fun w=>run_eqop (x:=(.tmp 12)) (y:=(.tmp 13)) (v:=p.key) (w:=key) (by kernel_rfl) (by kernel_rfl) (by kernel_rfl) (hg)) ?_; clear hJ a w; intro a w hJ
  refine rk' hJ false 5 [] [] (.k (.out .ret) [] [] [(4,.bool g)]) ?_
  clear hJ a w; intro a w hJ
  refine x_end (hQ [.bool g] _ [] hJ (.rtm hJ.j .nil) (no_own _) rfl ?_).1
  exact congrArg Value.bool (by rw [hq]; rfl)
 | false =>
  replace hJ:=hJ.rew 10 (v:=.bool (p.nm.toList == x.name.toList)) (v':=.bool false) (congrArg Value.bool hq) (by kernel_rfl)
  replace hJ:K ⟨16,h.w,h.bad,[]⟩ [(2,Vp d),(3,Vp b1),(10,.bool false)] [.box b1 [.string p.nm,Vi p.key.k,Vi p.key.n,.string p.key.s,Vi p.has.k,Vi p.has.n,.string p.has.s]] [(d,0,[Vi key.k,Vi key.n,.string key.s]),(b,0,[.string x.name,Vi x.kind,Vi x.ty,Vi x.src.op,Vi x.src.k,Vi x.src.n,.string x.src.s,.string x.src.nm,.slice A n c])] h a w:=hJ.to (by kernel_rfl) rfl rfl
  refine rk' hJ false 9 [] [] (.k (.out .ret) [] [] [(4,.bool false)]) ?_
  clear hJ a w; intro a w hJ
  refine x_end (hQ [.bool false] _ [] hJ (.rtm hJ.j .nil) (no_own _) rfl ?_).1
  exact congrArg Value.bool (by rw [hq]; rfl)

set_option maxRecDepth 100000 in
theorem idxKeep_any (l:List Aw) (v:Value) (x:Fd) (A:Option Addr) (n c:Nat) (key:Vl) (b d:Nat) (h:Vw) (hr:RS h 7 v (anRows l)) (hl:l.length≤1000000) (hc:Cells h b 0 [.string x.name,.int .i64 x.kind,.int .i64 x.ty,.int .i64 x.src.op,.int .i64 x.src.k,.int .i64 x.src.n,.string x.src.s,.string x.src.nm,.slice A n c]) (hd:Cells h d 0 [.int .i64 key.k,.int .i64 key.n,.string key.s]) :
  C0 Tryz.prog 68 #[v,.func (.func 59) #[] #[.pointer (some ⟨b,0,none⟩),.pointer (some ⟨d,0,none⟩)]] h (fun r _=>r=.int .i64 (fidx (fun q:Aw=>q.hit x.name key) l)):=by
 obtain ⟨Al,cap,rfl,-,-,-⟩:=hr.form
 rw [List.length_map] at *
 generalize hL:l.length=len at *
 refine x_con' Tryz.func68 (c:=Tryz.f68.body.getD .skip) (N:=19) ?_
 intro hbx hbad Q hQ a w hJ
 refine rk' hJ false 14 [] [] (.k (.code [0,1,0,1]) [.block 0,.seq [1,1]] [0,1] [(7,Vi (len:Int)),(8,Vi 0)]) ?_
 clear hJ a w; intro a w hJ
 refine x_loop' (fun (k:Nat) a w=>∃ (h1:Vw) ,K ⟨19,h.w,h.bad,[]⟩ [(0,.slice Al len cap),(1,.func (.func 59) #[] #[Vp b,Vp d]),(7,Vi (len:Int)),(8,Vi (k:Int))] [] [] h1 a w∧Sees h h1∧(k≤len)∧(∀ y∈l.take k,y.hit x.name key=false)) (fun k=>len - k) (0) ⟨h,hJ.tw,Sees.refl _,Nat.zero_le _,fun y hy=>by simp at hy⟩ ?_
 clear hJ a w; rintro k a w ⟨h1,hJ,s2,hk,hn⟩
 refine rk' hJ false 6 [] [] (.k (.code [0,1,0,0,1,0,1]) [.seq [1,1,0,0,1,0,1]] [0,1,7,8] [(9,.bool (decide ((k:Int) < (len:Int))))]) ?_
 clear hJ a w; intro a w hJ
 rcases (by omega:k < len∨k=len) with hlt | hke
 ·obtain ⟨f,hfk⟩:∃ f,l[k]?=some f:=⟨_,List.getElem?_eq_getElem (by omega)⟩
  have hrow:(anRows l)[k]?=some (anRow f):=by rw [List.getElem?_map,hfk]; rfl
  generalize hq:f.hit x.name key=q at *
  have hq1:=fun H q1 q2=>keep1_any f x A n c key b d H q1 q2
  rw [hq] at hq1
  refine x_tru hJ (t:=decide ((k:Int) < (len:Int))) (decide_eq_true (by omega)) ?_
  refine rk' hJ false 15 [] [] (.k (.ops [0,1,0,0,1,1,0,0,1,0,1] 3) [.seq [1,1,0,0,1,1,0,0,1,0,1],.block 1,.seq [1,1,1,0,0,1,0,1]] [0,1,7,8] [(5,Vi (k:Int)),(11,.func (.func 59) #[] #[Vp b,Vp d]),(12,.slice Al len cap),(13,Vi (k:Int))]) ?_
  clear hJ a w; intro a w hJ
  obtain ⟨b3,o4,rfl,-,c5⟩:=RS.row hr (hrow)
  replace hJ:=hJ.fact (c5.sees s2)
  refine rk' hJ false 5 [.ix b3 o4 len cap k,.f 0 0,.cl 59 #[.agg #[.string f.nm,Vi f.key.k,Vi f.key.n,.string f.key.s,Vi f.has.k,Vi f.has.n,.string f.has.s],Vp b,Vp d] (.bool q)] [] (.k (.code [1,1,0,0,1,1,0,0,1,0,1]) [.block 1,.seq [1,1,1,0,0,1,0,1]] [0,1,7,8,5] [(16,.bool q)]) (ho:=And.intro (by first | omega | (simp; omega)) (And.intro (fun H sH=>hq1 _ (hc.sees (s2.trans sH)) (hd.sees (s2.trans sH))) (trivial))) ?_
  clear hJ a w; intro a w hJ
  rcases Bool.eq_false_or_eq_true q with hh | hh
  ·refine x_tru hJ (t:=q) (hh) ?_
   refine rx' hJ false 9 [] [] (.ok (.out .ret) [] [(4,Vi (k:Int))] [] [(b3,o4 + k * 7,[.string f.nm,Vi f.key.k,Vi f.key.n,.string f.key.s,Vi f.has.k,Vi f.has.n,.string f.has.s])]) (fun _=>by kernel_rfl) ?_
   clear hJ a w; intro a w hJ
   refine x_leave rfl ?_
   refine rk' hJ false 2 [] [] (.k (.out .ret) [] [4] []) ?_
   clear hJ a w; intro a w hJ
   refine x_end (hQ [Vi (k:Int)] _ [] hJ (.rtm hJ.j .nil) (no_own _) rfl ?_).1
   exact congrArg (Value.int .i64) (fidx_found _ l k f hn hfk (hq.trans hh)).symm
  ·skip
   refine x_fal hJ (t:=q) (hh) ?_
   refine rk' hJ false 7 [] [(18,Vi (IntKind.i64.wrap ((k:Int) + 1)),Vi ((k:Int) + 1))] (.k (.out .normal) [] [0,1,7] [(8,Vi ((k:Int) + 1))]) (hc:=And.intro (i64_wrap (by omega) (by omega)) (trivial)) ?_
   clear hJ a w; intro a w hJ
   exact x_round ⟨k + 1,⟨h1,(hJ.tof [] (F':=[]) (by kernel_rfl)).to (by kernel_rfl) (by kernel_rfl) rfl,s2,by omega,(by rw [take_snoc' l k f hfk]; exact fun y hy=>(List.mem_append.1 hy).elim (hn y) (fun e=>by rw [List.mem_singleton.1 e]; exact hq.trans hh))⟩,by omega⟩
 ·skip
  have htk:l.take k=l:=by rw [hke,← hL,List.take_length]
  rw [htk] at hn
  refine x_fal hJ (t:=decide ((k:Int) < (len:Int))) (decide_eq_false (by omega)) ?_
  refine rx' hJ false 2 [] [] (.ok (.out (.exit 0)) [] [] [] []) (fun _=>by kernel_rfl) ?_
  clear hJ a w; intro a w hJ
  refine x_leave rfl ?_
  refine rx' hJ false 8 [] [] (.ok (.out .ret) [] [(4,Vi (-1))] [] []) (fun _=>by kernel_rfl) ?_
  clear hJ a w; intro a w hJ
  refine x_end (hQ [Vi (-1)] _ [] hJ (.rtm hJ.j .nil) (no_own _) rfl ?_).1
  exact congrArg (Value.int .i64) (fidx_none _ l hn).symm
theorem contKeep_any (l:List Aw) (v:Value) (x:Fd) (A:Option Addr) (n c:Nat) (key:Vl) (b d:Nat) (h:Vw) (hr:RS h 7 v (anRows l)) (hl:l.length≤1000000) (hc:Cells h b 0 [.string x.name,.int .i64 x.kind,.int .i64 x.ty,.int .i64 x.src.op,.int .i64 x.src.k,.int .i64 x.src.n,.string x.src.s,.string x.src.nm,.slice A n c]) (hd:Cells h d 0 [.int .i64 key.k,.int .i64 key.n,.string key.s]) :
  C0 Tryz.prog 58 #[v,.func (.func 59) #[] #[.pointer (some ⟨b,0,none⟩),.pointer (some ⟨d,0,none⟩)]] h (fun r _=>r=.bool (l.any (fun q=>q.hit x.name key))):=by
 have hi:=fun H q1 q2 q3=>idxKeep_any l v x A n c key b d H q1 hl q2 q3
 have e:=fidx_dec (fun q:Aw=>q.hit x.name key) l
 obtain ⟨Al,cap,rfl,-,-,-⟩:=hr.form
 generalize fidx (fun q:Aw=>q.hit x.name key) l=p at *
 refine x_con' Tryz.func58 (c:=Tryz.f58.body.getD .skip) (N:=9) ?_
 intro hbx hbad Q hQ a w hJ
 refine rx' hJ false 15 [.cl 68 #[.slice Al ((anRows l).length) cap,.func (.func 59) #[] #[Vp b,Vp d]] (Vi p)] [] (.ok (.out .ret) [] [(4,.bool (decide (p ≥ 0)))] [] []) (ho:=And.intro (fun H sH=>hi _ (hr.sees sH) (hc.sees sH) (hd.sees sH)) (trivial)) (fun _=>by kernel_rfl) ?_
 clear hJ a w; intro a w hJ
 refine x_end (hQ [.bool (decide (p ≥ 0))] _ [] hJ (.rtm hJ.j .nil) (no_own _) rfl ?_).1
 exact congrArg Value.bool e

theorem addO_eq (env:Env) (out:List Aw) (f:Fd):addO env out f=if f.kind=3 then (if (evalE env f.src).k≤3∧out.any (fun p=>p.hit f.name (evalE env f.src))=false then out++[⟨f.name,evalE env f.src,ansV f (evalE env f.src)⟩] else out) else out:=by
 unfold addO
 by_cases h3:f.kind=3
 ·rw [if_pos h3]
  by_cases g:(evalE env f.src).k≤3∧out.any (fun p=>p.hit f.name (evalE env f.src))=false
  ·rw [if_pos ⟨h3,g⟩,if_pos g]
  ·rw [if_neg (fun q=>g q.2),if_neg g]
 ·rw [if_neg (fun q=>h3 q.1),if_neg h3]
theorem anRows_snoc (l:List Aw) (p:Aw):anRows (l++[p])=anRows l++[anRow p]:=by simp [anRows]

set_option maxHeartbeats 8000000 in
set_option maxRecDepth 100000 in
theorem oracle_l (f:Fm) (ρ:List Int) (lv:Nat→Nat) (A:Option Addr) (n c:Nat) (B:Option Addr) (m d:Nat) (inp:Env) (si:Value) (h:Vw) (hok:OkFm f ρ lv) (hf:IsForm h (.slice A n c) (.slice B m d) f) (hn:n=f.fields.length) (h1:1≤n)
  (hi:RS h 7 si (fcRows inp)) (li:inp.length≤1000) (ki:∀ p∈inp,p.2.known) (ti:factsV f.fields [] inp=0) (hW:Wh f.fields inp ρ lv (ordL ρ n)) :
  C0 Tryz.prog 17 #[.agg #[.slice A n c,.slice B m d],si] h (fun r h'=>∃ A' c',r=.tuple #[.slice A' (orcL f.fields inp (ordL ρ n) n).length c',.bool true]∧RS h' 7 (.slice A' (orcL f.fields inp (ordL ρ n) n).length c') (anRows (orcL f.fields inp (ordL ρ n) n))):=by
 have few:=hok.fields.few
 have hAll:=fun so orc H q1 q2 q3 q4 q5=>whAll_own f ρ lv A n c B m d inp si so orc H hok q1 hn h1 q2 li ki ti q3 q4 (OkOrc.has q5) (fun H' g1 g2=>whOracle_any f.fields hok.fields orc q5 A n c B m d so H' g1.fields hn g2 q4)
 have hlen:=orcL_len f.fields inp (ordL ρ n)
 have horc:=hW.orc
 have hsol:=fun r=>hW.sol (horc r)
 have hstep:∀ r,orcL f.fields inp (ordL ρ n) (r + 1)=roundO (fcs f.fields (allW f.fields inp (orcL f.fields inp (ordL ρ n) r) (ordL ρ n))) f.fields (orcL f.fields inp (ordL ρ n) r):=fun r=>rfl
 have hz:orcL f.fields inp (ordL ρ n) 0=[]:=rfl
 have hFa:=fun va A1 c1 H q1 q2 q3=>facts_l f.fields va A n c A1 c1 H q1 hn (by omega) q2 q3
 obtain ⟨A1,c1,rfl,-,-,-⟩:=hi.form
 rw [List.length_map] at *
 obtain ⟨vs,A3,c3,e3,-,-,hr3,hs3,hl3,hsl⟩:=fds_open hf.fields
 simp only [Value.slice.injEq] at e3
 obtain ⟨rfl,-,rfl⟩:=e3
 rw [← hn] at hr3 hl3 hlen
 generalize hni:inp.length=ni at *
 clear hW
 generalize hO:orcL f.fields inp (ordL ρ n)=orc at *
 generalize hV:(fun r=>allW f.fields inp (orc r) (ordL ρ n))=va at *
 have hV':∀ r,allW f.fields inp (orc r) (ordL ρ n)=va r:=fun r=>congrFun hV r
 simp only [hV'] at hsol hstep
 have hAll':=fun so r H q1 q2 q3 q4=>hAll so (orc r) H q1 q2 q3 q4 (horc r)
 simp only [hV'] at hAll'
 clear hAll hV hV' hO
 refine x_con' Tryz.func17 (c:=Tryz.f17.body.getD .skip) (N:=76) ?_
 intro hbx hbad Q hQ a w hJ
 refine rk' hJ false 22 [.own,.b 0 0] [] (.new fun b1=>.m (.code [0,1,0,1,1]) [.block 0,.seq [1,1,1]] [1] [(2,Vp b1),(6,Vz),(15,Vi (n:Int)),(16,Vi 0)] [.box b1 [.slice A n c,.slice B m d]] []) (hr:=fun b1 _=>by kernel_rfl) ?_
 clear hJ a w; intro b1 a w hJ
 replace hJ:=hJ.nilrow 54 7
 refine x_loop' (fun (r:Nat) a w=>∃ (h2:Vw) (v:Value) (ol:List Aw),K ⟨76,h.w,h.bad,[]⟩ [(1,.slice A1 ni c1),(2,Vp b1),(15,Vi (n:Int)),(16,Vi (r:Int)),(6,v)] [.row v 54 7 (anRows ol),.box b1 [.slice A n c,.slice B m d]] [] h2 a w∧Sees h h2∧(r≤n)∧(orc r=ol)) (fun r=>n - r) (0) ⟨h,(Vz),[],hJ.tw,Sees.refl _,Nat.zero_le _,hz⟩ ?_
 clear hJ a w; rintro r a w ⟨h2,v,ol,hJ,s3,hr,hol⟩
 refine rk' hJ false 6 [] [] (.k (.code [0,1,0,0,1,0,1,1]) [.seq [1,1,0,0,1,0,1,1]] [1,2,15,16,6] [(17,.bool (decide ((r:Int) < (n:Int))))]) ?_
 clear hJ a w; intro a w hJ
 rcases (by omega:r < n∨r=n) with hlt | hke
 ·have hAr:=fun so H q1 q2 q3=>hAll' so r H q1 q2 q3
  rw [hol] at hAr
  have hst:=hstep r
  obtain ⟨hs1,hs2⟩:=hsol r
  have hs1:=hs1.len
  rw [← hn] at hs1
  have hln:=hlen r
  have hrn:r * n≤14 * 14:=Nat.mul_le_mul (by omega) (by omega)
  rw [hol] at hst hln
  generalize va r=vr at *
  refine x_tru hJ (t:=decide ((r:Int) < (n:Int))) (decide_eq_true (by omega)) ?_
  refine rk' hJ false 9 [.b 1 0] [] (.k (.ops [0,0,0,1,1,0,0,1,0,1,1] 3) [.seq [1,0,0,1,1,0,0,1,0,1,1],.block 1,.seq [1,1,1,0,0,1,0,1,1]] [1,2,15,16,6] [(19,.agg #[.slice A n c,.slice B m d]),(20,.slice A1 ni c1),(21,v)]) ?_
  clear hJ a w; intro a w hJ
  refine x_callownq (e:=38) (kk:=3) hJ 22 (hAr _ _ (hf.sees (s3.trans hJ.j.seesQ)) (hi.sees (s3.trans hJ.j.seesQ)) (hJ.j.rowQ (v:=v) (e:=54) (k:=7) (l:=anRows ol) 0 rfl) (by omega)) (fun _=>by kernel_rfl) ?_; clear hJ a w; rintro _ _ _ h4 a w s5 ⟨rfl,⟨A5,c5,rfl⟩,rfl⟩ hJ
  refine rk' hJ false 22 [.b 2 0] [] (.k (.code [1,0,1,0,0,1,1,0,0,1,0,1,1]) [.seq [1,1,0,0,1,1,0,0,1,0,1,1],.block 1,.seq [1,1,1,0,0,1,0,1,1]] [1,2,15,16,6] [(7,.slice A5 n c5),(34,.bool ((n:Int) != (n:Int)))]) ?_
  clear hJ a w; intro a w hJ
  obtain ⟨h6,s7,fa,hJn⟩:=hJ.frozen (v:=.slice A5 n c5) (e:=38) (k:=3) (l:=vlRows vr) 0 (by kernel_rfl) (hJ.j.rowOut0 (v:=.slice A5 n c5) (e:=38) (k:=3) (l:=vlRows vr) 0 (by kernel_rfl) rfl); clear hJ; have hJ:=hJn; clear hJn
  refine x_fal hJ (t:=(n:Int) != (n:Int)) ((by simp)) ?_
  refine rk' hJ false 11 [.b 1 0] [] (.k (.code [0,1,1,1,0,0,1,1,0,0,1,0,1,1]) [.block 2,.block 1,.seq [1,1,1,0,0,1,0,1,1]] [1,2,15,16,6,7] [(36,.slice A n c),(37,Vi (n:Int)),(38,Vi 0)]) ?_
  clear hJ a w; intro a w hJ
  have hok3:∀ p∈fcs f.fields vr,OkV p.2:=fcs_ok hs2
  have hln3:(fcs f.fields vr).length≤1000:=by rw [fcs_len (by omega)]; omega
  have hFa2:=fun H q1 q2=>hFa vr A5 c5 H q1 q2 hs1
  have hev:=fun x (hx:x∈f.fields) (h3:x.kind=3) v u H q1 q2=>eval_any x.src v (fcs f.fields vr) u H q1 ((hok.fields.each x hx).wf (by omega)).1 ((hok.fields.each x hx).wf (by omega)).2.1 (chk_deep ((hok.fields.each x hx).wf (by omega)).2.2) q2 hok3 hln3
  have hkv:=fun x (hx:x∈f.fields) (h3:x.kind=3)=>evalE_ok (get_ok hok3) _ x.src (Nat.le_refl _) ((hok.fields.each x hx).wf (by omega)).1
  have hsn:=fun j x (hx:f.fields[j]?=some x)=>(congrArg (fun l=>roundO (fcs f.fields vr) l ol) (take_snoc' f.fields j x hx)).trans (roundO_snoc (fcs f.fields vr) (f.fields.take j) x ol)
  have hrl:=fun j=>roundO_len (fcs f.fields vr) (f.fields.take j) ol
  have hadd:=fun out x=>addO_eq (fcs f.fields vr) out x
  generalize hen:fcs f.fields vr=env at *
  refine x_loop' (fun (j:Nat) a w=>∃ (h8:Vw) (v:Value) (ml:List Aw),K ⟨76,h.w,h.bad,[]⟩ [(1,.slice A1 ni c1),(2,Vp b1),(15,Vi (n:Int)),(16,Vi (r:Int)),(7,.slice A5 n c5),(36,.slice A n c),(37,Vi (n:Int)),(38,Vi (j:Int)),(6,v)] [.row v 54 7 (anRows ml),.box b1 [.slice A n c,.slice B m d]] [] h8 a w∧Sees h6 h8∧(j≤n)∧(roundO env (f.fields.take j) ol=ml)) (fun j=>n - j) (0) ⟨h6,v,ol,hJ.tw,Sees.refl _,Nat.zero_le _,rfl⟩ ?_
  clear hJ a w; rintro j a w ⟨h8,v,ml,hJ,s9,hj,hml⟩
  refine rk' hJ false 6 [] [] (.k (.code [0,1,0,0,1,1,1,0,0,1,1,0,0,1,0,1,1]) [.seq [1,1,0,0,1,1,1,0,0,1,1,0,0,1,0,1,1]] [1,2,15,16,7,36,37,38,6] [(39,.bool (decide ((j:Int) < (n:Int))))]) ?_
  clear hJ a w; intro a w hJ
  rcases (by omega:j < n∨j=n) with hjl | hje
  ·obtain ⟨x,hx⟩:∃ x,f.fields[j]?=some x:=⟨_,List.getElem?_eq_getElem (by omega)⟩
   obtain ⟨u,hu⟩:∃ u,vs[j]?=some u:=⟨_,List.getElem?_eq_getElem (by omega)⟩
   have hxm:=List.mem_of_getElem? hx
   have hrow:=fdRows_get hx hu
   have hga:∀ H,AllSrc H f.fields vs→IsArgs H x.src u:=fun H q=>AllArgs.get q (x:=x.src) (by rw [List.getElem?_map,hx]; rfl) hu
   obtain ⟨Au,nu,cu,rfl⟩:=(hga _ hs3).slice
   have hml2:=hsn j x hx
   have hmll:=hrl j
   rw [hml] at hml2 hmll
   rw [List.length_take] at hmll
   have hmr:(anRows ml).length=ml.length:=List.length_map _
   have hxo:=hok.fields.each x hxm
   obtain ⟨hx10,-⟩:=name_print hxo.name
   have t1:=hxo.t1
   have t3:=hxo.t3
   have hadd2:=hadd ml x
   refine x_tru hJ (t:=decide ((j:Int) < (n:Int))) (decide_eq_true (by omega)) ?_
   refine rk' hJ false 6 [] [] (.k (.ops [0,0,0,1,1,0,0,1,1,1,0,0,1,1,0,0,1,0,1,1] 0) [.seq [1,0,0,1,1,0,0,1,1,1,0,0,1,1,0,0,1,0,1,1],.block 3,.seq [1,1,1,0,0,1,1,1,0,0,1,1,0,0,1,0,1,1]] [1,2,15,16,7,36,37,38,6] []) ?_
   clear hJ a w; intro a w hJ
   obtain ⟨b10,o11,rfl,-,c12⟩:=RS.row hr3 (hrow)
   replace hJ:=hJ.fact (c12.sees (s3.trans (s5.trans (s7.trans s9))))
   refine rk hJ false 14 [.ix b10 o11 n c j,.f 0 0,.own,.b 0 0,.b 0 1] [] (.new fun bx=>.f (.code [1,0,1,0,0,1,1,0,0,1,1,1,0,0,1,1,0,0,1,0,1,1]) [.seq [1,1,0,0,1,1,0,0,1,1,1,0,0,1,1,0,0,1,0,1,1],.block 3,.seq [1,1,1,0,0,1,1,1,0,0,1,1,0,0,1,0,1,1]] [1,2,15,16,7,36,37,38,6] [(10,Vp bx),(44,.bool (x.kind != 3))] [.box bx [.string x.name,Vi x.kind,Vi x.ty,Vi x.src.op,Vi x.src.k,Vi x.src.n,.string x.src.s,.string x.src.nm,.slice Au nu cu],.row v 54 7 (anRows ml),.box b1 [.slice (some ⟨b10,o11,none⟩) n c,.slice B m d]] [.o 0]) (And.intro (by first | omega | (simp; omega)) (trivial)) trivial (fun bx _=>by kernel_rfl) ?_
   clear hJ a w; intro bx a w hJ
   by_cases g3:x.kind=3
   ·have hev2:=fun u H q1 q2=>hev x hxm g3 (.slice Au nu cu) u H q1 q2
    have hkv2:=hkv x hxm g3
    rw [if_pos g3] at hadd2
    generalize evalE env x.src=key at *
    have hck:=fun b d v H q1 q2 q3=>contKeep_any ml v x Au nu cu key b d H q1 (by omega) q2 q3
    have han:=fun (hk:key.known) H=>answered_any x Au nu cu key H hx10 (known_size hk) t1 t3
    generalize hhit:ml.any (fun q=>q.hit x.name key)=hit at *
    generalize ansV x key=av at *
    refine x_fal hJ (t:=x.kind != 3) ((by rw [bne_eq_false_iff_eq]; exact g3)) ?_
    refine rx' hJ false 3 [] [] (.ok (.code [0,1,1,0,0,1,1,0,0,1,1,1,0,0,1,1,0,0,1,0,1,1]) [.seq [1,1,1,0,0,1,1,0,0,1,1,1,0,0,1,1,0,0,1,0,1,1],.block 3,.seq [1,1,1,0,0,1,1,1,0,0,1,1,0,0,1,0,1,1]] [(1,.slice A1 ni c1),(2,Vp b1),(15,Vi (n:Int)),(16,Vi (r:Int)),(7,.slice A5 n c5),(36,.slice (some ⟨b10,o11,none⟩) n c),(37,Vi (n:Int)),(38,Vi (j:Int)),(6,v),(10,Vp bx)] [.box bx [.string x.name,Vi x.kind,Vi x.ty,Vi x.src.op,Vi x.src.k,Vi x.src.n,.string x.src.s,.string x.src.nm,.slice Au nu cu],.row v 54 7 (anRows ml),.box b1 [.slice (some ⟨b10,o11,none⟩) n c,.slice B m d]] [(b10,o11 + j * 9,[.string x.name,Vi x.kind,Vi x.ty,Vi x.src.op,Vi x.src.k,Vi x.src.n,.string x.src.s,.string x.src.nm,.slice Au nu cu])]) (fun _=>by kernel_rfl) ?_
    clear hJ a w; intro a w hJ
    let R:Reg:=⟨⟨76,h.w,h.bad,[]⟩,[(0,46,fun gh=>.pointer (some ⟨bx,3,none⟩)),(1,47,fun gh=>.agg #[Vi x.src.op,Vi x.src.k,Vi x.src.n,.string x.src.s,.string x.src.nm,.slice Au nu cu]),(2,48,fun gh=>Vp b1),(3,49,fun gh=>.slice (some ⟨b10,o11,none⟩) n c),(4,50,fun gh=>.slice A5 n c5),(5,51,fun gh=>.slice (sA (gh 5)) (sN (gh 5)) (sC (gh 5))),(6,52,fun gh=>.tuple #[.agg #[Vi key.k,Vi key.n,.string key.s],Vi 0]),(7,45,fun gh=>.tuple #[.agg #[Vi key.k,Vi key.n,.string key.s],Vi 0]),(8,53,fun gh=>.agg #[Vi key.k,Vi key.n,.string key.s]),(9,54,fun gh=>Vi 0),(10,11,fun gh=>.pointer (some ⟨(blkOf (gh 10)),0,none⟩)),(12,12,fun gh=>Vi 0)],[(1,.slice A1 ni c1),(2,Vp b1),(15,Vi (n:Int)),(16,Vi (r:Int)),(7,.slice A5 n c5),(36,.slice (some ⟨b10,o11,none⟩) n c),(37,Vi (n:Int)),(38,Vi (j:Int)),(6,v),(10,Vp bx)],[⟨none,[(10,fun gh=>.box (blkOf (gh 10)) [Vi 0,Vi 0,Ve]),(11,fun gh=>.box (blkOf (gh 10)) [Vi key.k,Vi key.n,.string key.s])]⟩,⟨some (.box bx [.string x.name,Vi x.kind,Vi x.ty,Vi x.src.op,Vi x.src.k,Vi x.src.n,.string x.src.s,.string x.src.nm,.slice Au nu cu]),[]⟩,⟨some (.row v 54 7 (anRows ml)),[]⟩,⟨some (.box b1 [.slice (some ⟨b10,o11,none⟩) n c,.slice B m d]),[]⟩],[(5,fun gh hh=>RS hh 7 (.slice (sA (gh 5)) (sN (gh 5)) (sC (gh 5))) (fcRows env))],[[],[0],[],[2],[],[2,3,4],[0,1,2,3,4,5],[0,1,2,3,4,5,6],[0,1,2,3,4,5,6,7],[0,1,2,3,4,5,6,7],[],[0,1,2,3,4,5,6,7,8,10],[0,1,2,3,4,5,6,7,8,9,10,11]],h8⟩
    have hmono:∀ zq∈R.F,∀ zx zh zi,Sees zh zi→zq.2 zx zh→zq.2 zx zi:=mono_cons (fun _ _ _ s c=>c.sees s) (mono_nil)
    refine x_region (by kernel_rfl) R hJ 13 [.pu,.ld 1 3,.pu,.ld 3 0,.pu,.cl,.cl,.pu,.pu,.pu,.al 0,.st 0 0,.pu] (by kernel_rfl) hmono (fun _ _ _=>by kernel_rfl) (fun hT hA=>?_) ?_
    ·clear hJ
     refine And.intro (r_call hT hA hmono ⟨fun _ _=>by kernel_rfl,fun _ _=>by kernel_rfl,fun _ _=>by kernel_rfl⟩ 51 (fun u=>.slice (sA u) (sN u) (sC u)) [3,4] 5 (by kernel_rfl) (by kernel_rfl) (fun _=>by kernel_rfl) 21 (fun gh=>#[.slice (some ⟨b10,o11,none⟩) n c,.slice A5 n c5]) (fun _ _=>by kernel_rfl) (fun gh H sH fH lent=>C0.facts (R:=R) (x:=gh) (i:=5) (n:=0) (F:=(fun u=>.slice (sA u) (sN u) (sC u))) (G:=fun u hh=>RS hh 7 (.slice (sA u) (sN u) (sC u)) (fcRows env)) (f:=fun gh hh=>RS hh 7 (.slice (sA (gh 5)) (sN (gh 5)) (sC (gh 5))) (fcRows env)) (hFa2 _ ((hf.sees (s3.trans (s5.trans (s7.trans (s9.trans sH)))))).fields (fa.sees (s9.trans sH))) (by kernel_rfl) (by kernel_rfl) (fun _ _ r=>r))) ?_
     refine And.intro (r_calv hT hA hmono 52 (fun gh=>.tuple #[.agg #[Vi key.k,Vi key.n,.string key.s],Vi 0]) [1,5] 6 57 (fun gh=>#[.agg #[Vi x.src.op,Vi x.src.k,Vi x.src.n,.string x.src.s,.string x.src.nm,.slice Au nu cu],.slice (sA (gh 5)) (sN (gh 5)) (sC (gh 5))]) (fun gh H sH fH lent=>hev2 _ _ (hga _ (hs3.sees (s3.trans (s5.trans (s7.trans (s9.trans sH)))))) (fH 0 _ rfl (by kernel_rfl)))) ?_
     trivial
    clear hJ a w; intro gh h14 a w sR hJ1 hF; have s15:Sees h8 h14:=sR; clear sR
    have hJ:K ⟨76,h.w,h.bad,[]⟩ [(1,.slice A1 ni c1),(2,Vp b1),(15,Vi (n:Int)),(16,Vi (r:Int)),(7,.slice A5 n c5),(36,.slice (some ⟨b10,o11,none⟩) n c),(37,Vi (n:Int)),(38,Vi (j:Int)),(6,v),(10,Vp bx),(11,.pointer (some ⟨(blkOf (gh 10)),0,none⟩))] [.box (blkOf (gh 10)) [Vi key.k,Vi key.n,.string key.s],.box bx [.string x.name,Vi x.kind,Vi x.ty,Vi x.src.op,Vi x.src.k,Vi x.src.n,.string x.src.s,.string x.src.nm,.slice Au nu cu],.row v 54 7 (anRows ml),.box b1 [.slice (some ⟨b10,o11,none⟩) n c,.slice B m d]] [(b10,o11 + j * 9,[.string x.name,Vi x.kind,Vi x.ty,Vi x.src.op,Vi x.src.k,Vi x.src.n,.string x.src.s,.string x.src.nm,.slice Au nu cu])] h14 a w:=hJ1.tw
    have f51:RS h14 7 (.slice (sA (gh 5)) (sN (gh 5)) (sC (gh 5))) (fcRows env):=Reg.fact (i:=5) (f:=fun gh hh=>RS hh 7 (.slice (sA (gh 5)) (sN (gh 5)) (sC (gh 5))) (fcRows env)) hF 0 (by kernel_rfl)
    clear hJ1 hF hmono R
    generalize gh 5=u51 at *
    generalize blkOf (gh 10)=b13 at *
    clear gh
    refine rk' hJ false 4 [.b 0 0] [] (.k (.ops [0,1,1,1,0,0,1,1,0,0,1,1,1,0,0,1,1,0,0,1,0,1,1] 1) [.seq [1,1,1,1,0,0,1,1,0,0,1,1,1,0,0,1,1,0,0,1,0,1,1],.block 3,.seq [1,1,1,0,0,1,1,1,0,0,1,1,0,0,1,0,1,1]] [1,2,15,16,7,36,37,38,6,10,11] [(55,.agg #[Vi key.k,Vi key.n,.string key.s])]) ?_
    clear hJ a w; intro a w hJ
    by_cases gk:key.k≤3
    ·have hkn:key.known:=by
      rcases hkv2 with q | q | ⟨q,-⟩
      ·exact q
      ·rw [q] at gk; exact absurd gk (by decide)
      ·omega
     have hk1:=fun H=>c_kn key.k key.n key.s H hkn
     have han2:=han hkn
     refine rk' hJ false 4 [.cl 42 #[.agg #[Vi key.k,Vi key.n,.string key.s]] (.bool true)] [] (.k (.ops [0,1,1,1,0,0,1,1,0,0,1,1,1,0,0,1,1,0,0,1,0,1,1] 5) [.seq [1,1,1,1,0,0,1,1,0,0,1,1,1,0,0,1,1,0,0,1,0,1,1],.block 3,.seq [1,1,1,0,0,1,1,1,0,0,1,1,0,0,1,0,1,1]] [1,2,15,16,7,36,37,38,6,10,11] [(57,.bool true),(58,v),(59,.func (.func 59) #[] #[Vp bx,Vp b13])]) (ho:=And.intro (fun H sH=>hk1 _) (trivial)) ?_
     clear hJ a w; intro a w hJ
     refine x_callq hJ 60 (hck _ _ _ _ (hJ.j.rowQ (v:=v) (e:=54) (k:=7) (l:=anRows ml) 2 rfl) (hJ.j.boxQ (b:=bx) (cs:=[.string x.name,Vi x.kind,Vi x.ty,Vi x.src.op,Vi x.src.k,Vi x.src.n,.string x.src.s,.string x.src.nm,.slice Au nu cu]) 1 rfl) (hJ.j.boxQ (b:=b13) (cs:=[Vi key.k,Vi key.n,.string key.s]) 0 rfl)) (fun _=>by kernel_rfl) ?_; clear hJ a w; intro h16 a w s17 hJ
     refine rk' hJ false 4 [] [] (.k (.code [1,1,1,1,0,0,1,1,0,0,1,1,1,0,0,1,1,0,0,1,0,1,1]) [.block 3,.seq [1,1,1,0,0,1,1,1,0,0,1,1,0,0,1,0,1,1]] [1,2,15,16,7,36,37,38,6,10,11] [(62,.bool (!hit))]) ?_
     clear hJ a w; intro a w hJ
     rcases Bool.eq_false_or_eq_true hit with hh | hh
     ·rw [if_neg (fun q=>by rw [hh] at q; cases q.2)] at hadd2
      refine x_fal hJ (t := !hit) ((by rw [hh]; rfl)) ?_
      refine rk' hJ false 7 [] [(73,Vi (IntKind.i64.wrap ((j:Int) + 1)),Vi ((j:Int) + 1))] (.k (.out .normal) [] [1,2,15,16,7,36,37,6] [(38,Vi ((j:Int) + 1))]) (hc:=And.intro (i64_wrap (by omega) (by omega)) (trivial)) ?_
      clear hJ a w; intro a w hJ
      replace hJ:=hJ.drop 1
      replace hJ:=hJ.drop 0
      exact x_round ⟨j + 1,⟨h16,v,ml,(hJ.tof [] (F':=[]) (by kernel_rfl)).to (by kernel_rfl) (by kernel_rfl) rfl,(s9.trans (s15.trans s17)),by omega,hml2.trans hadd2⟩,by omega⟩
     ·skip
      rw [if_pos ⟨gk,hh⟩] at hadd2
      refine x_tru hJ (t := !hit) ((by rw [hh]; rfl)) ?_
      let R:Reg:=⟨⟨76,h.w,h.bad,[]⟩,[(0,63,fun gh=>v),(1,64,fun gh=>Vp bx),(2,65,fun gh=>.string x.name),(3,66,fun gh=>.agg #[Vi key.k,Vi key.n,.string key.s]),(4,67,fun gh=>.agg #[.string x.name,Vi x.kind,Vi x.ty,Vi x.src.op,Vi x.src.k,Vi x.src.n,.string x.src.s,.string x.src.nm,.slice Au nu cu]),(5,68,fun gh=>.agg #[Vi key.k,Vi key.n,.string key.s]),(6,69,fun gh=>.agg #[Vi av.k,Vi av.n,.string av.s]),(7,70,fun gh=>.agg #[.string x.name,Vi key.k,Vi key.n,.string key.s,Vi av.k,Vi av.n,.string av.s]),(8,71,fun gh=>.slice (some ⟨(blkOf (gh 8)),0,none⟩) 1 1),(9,72,fun gh=>.slice (sA (gh 9)) (sN (gh 9)) (sC (gh 9))),(10,6,fun gh=>.slice (sA (gh 9)) (sN (gh 9)) (sC (gh 9)))],[(1,.slice A1 ni c1),(2,Vp b1),(15,Vi (n:Int)),(16,Vi (r:Int)),(7,.slice A5 n c5),(36,.slice (some ⟨b10,o11,none⟩) n c),(37,Vi (n:Int)),(38,Vi (j:Int)),(6,v),(10,Vp bx),(11,Vp b13),(62,.bool (!hit))],[⟨some (.box b13 [Vi key.k,Vi key.n,.string key.s]),[]⟩,⟨some (.box bx [.string x.name,Vi x.kind,Vi x.ty,Vi x.src.op,Vi x.src.k,Vi x.src.n,.string x.src.s,.string x.src.nm,.slice Au nu cu]),[]⟩,⟨some (.row v 54 7 (anRows ml)),[(9,fun gh=>.row (.slice (sA (gh 9)) (sN (gh 9)) (sC (gh 9))) 54 7 ((anRows ml)++[[.string x.name,Vi key.k,Vi key.n,.string key.s,Vi av.k,Vi av.n,.string av.s]]))]⟩,⟨some (.box b1 [.slice (some ⟨b10,o11,none⟩) n c,.slice B m d]),[]⟩],[(8,fun gh hh=>Cells hh (blkOf (gh 8)) 0 [.string x.name,Vi key.k,Vi key.n,.string key.s,Vi av.k,Vi av.n,.string av.s])],[[],[],[1],[],[],[],[4,5],[1,2,3,4,5,6],[1,2,3,4,5,6,7],[0,1,2,3,4,5,6,7,8],[0,1,2,3,4,5,6,7,8,9]],h16⟩
      have hmono:∀ zq∈R.F,∀ zx zh zi,Sees zh zi→zq.2 zx zh→zq.2 zx zi:=mono_cons (fun _ _ _ s c=>c.sees s) (mono_nil)
      refine x_region (by kernel_rfl) R hJ 11 [.pu,.pu,.ld 1 0,.ld 0 0,.ld 1 0,.ld 0 0,.cl,.pu,.cl,.cl,.pu] (by kernel_rfl) hmono (fun _ _ _=>by kernel_rfl) (fun hT hA=>?_) ?_
      ·clear hJ
       refine And.intro (r_calv hT hA hmono 69 (fun gh=>.agg #[Vi av.k,Vi av.n,.string av.s]) [4,5] 6 60 (fun gh=>#[.agg #[.string x.name,Vi x.kind,Vi x.ty,Vi x.src.op,Vi x.src.k,Vi x.src.n,.string x.src.s,.string x.src.nm,.slice Au nu cu],.agg #[Vi key.k,Vi key.n,.string key.s]]) (fun gh H sH fH lent=>han2 _)) ?_
       refine And.intro (r_fact hT hA hmono ⟨fun _ _=>by kernel_rfl,fun _ _=>by kernel_rfl,fun _ _=>by kernel_rfl⟩ 71 (fun g=>Vs g 1 1) [7] 8 (by kernel_rfl) (by kernel_rfl) (fun _=>by kernel_rfl) (fun gh=>[.string x.name,Vi key.k,Vi key.n,.string key.s,Vi av.k,Vi av.n,.string av.s]) 54 (fun _ _=>by kernel_rfl) (fun gh zb zH zc zj zq zhq zhe=>own_fact (i:=8) (k:=0) (f:=fun gh hh=>Cells hh (blkOf (gh 8)) 0 [.string x.name,Vi key.k,Vi key.n,.string key.s,Vi av.k,Vi av.n,.string av.s]) (by kernel_rfl) (by kernel_rfl) zc zj zq zhq zhe)) ?_
       refine And.intro (r_append hT hA hmono ⟨fun _ _=>by kernel_rfl,fun _ _=>by kernel_rfl,fun _ _=>by kernel_rfl⟩ (by kernel_rfl) 72 [0,6,8] 9 (by kernel_rfl) (fun _=>by kernel_rfl) 2 ⟨some (.row v 54 7 (anRows ml)),[(9,fun gh=>.row (.slice (sA (gh 9)) (sN (gh 9)) (sC (gh 9))) 54 7 ((anRows ml)++[[.string x.name,Vi key.k,Vi key.n,.string key.s,Vi av.k,Vi av.n,.string av.s]]))]⟩ (by kernel_rfl) (by kernel_rfl) (by kernel_rfl) (fun gh=>v) 28 54 7 (fun gh=>anRows ml) (fun gh=>[[.string x.name,Vi key.k,Vi key.n,.string key.s,Vi av.k,Vi av.n,.string av.s]]) (fun _=>by kernel_rfl) (fun _=>by kernel_rfl) (fun _ _=>by kernel_rfl) (.tmp 63) (.tmp 71) (by kernel_rfl) (by kernel_rfl) (fun gh=>(blkOf (gh 8))) 1 1 (fun _=>by kernel_rfl) (fun _=>by kernel_rfl) 0 8 (fun gh hh=>Cells hh (blkOf (gh 8)) 0 [.string x.name,Vi key.k,Vi key.n,.string key.s,Vi av.k,Vi av.n,.string av.s]) (by kernel_rfl) (by kernel_rfl) (fun _ _ c=>c) Tryz.underlying28 (zv:=.agg #[Ve,Vi 0,Vi 0,Ve,Vi 0,Vi 0,Ve]) (bytes:=80) (by kernel_rfl) (by kernel_rfl) (fun _=>by kernel_rfl) (fun _=>by constructor <;> (simp; omega))) ?_
       trivial
      clear hJ a w; intro gh h20 a w sR hJ1 hF; have s21:Sees h16 h20:=sR; clear sR
      have hJ:K ⟨76,h.w,h.bad,[]⟩ [(1,.slice A1 ni c1),(2,Vp b1),(15,Vi (n:Int)),(16,Vi (r:Int)),(7,.slice A5 n c5),(36,.slice (some ⟨b10,o11,none⟩) n c),(37,Vi (n:Int)),(38,Vi (j:Int)),(6,.slice (sA (gh 9)) (sN (gh 9)) (sC (gh 9)))] [.box b13 [Vi key.k,Vi key.n,.string key.s],.box bx [.string x.name,Vi x.kind,Vi x.ty,Vi x.src.op,Vi x.src.k,Vi x.src.n,.string x.src.s,.string x.src.nm,.slice Au nu cu],.row (.slice (sA (gh 9)) (sN (gh 9)) (sC (gh 9))) 54 7 ((anRows ml)++[[.string x.name,Vi key.k,Vi key.n,.string key.s,Vi av.k,Vi av.n,.string av.s]]),.box b1 [.slice (some ⟨b10,o11,none⟩) n c,.slice B m d]] [(b10,o11 + j * 9,[.string x.name,Vi x.kind,Vi x.ty,Vi x.src.op,Vi x.src.k,Vi x.src.n,.string x.src.s,.string x.src.nm,.slice Au nu cu])] h20 a w:=hJ1.tw
      have f18:Cells h20 (blkOf (gh 8)) 0 [.string x.name,Vi key.k,Vi key.n,.string key.s,Vi av.k,Vi av.n,.string av.s]:=Reg.fact (i:=8) (f:=fun gh hh=>Cells hh (blkOf (gh 8)) 0 [.string x.name,Vi key.k,Vi key.n,.string key.s,Vi av.k,Vi av.n,.string av.s]) hF 0 (by kernel_rfl)
      replace hJ:=hJ.fact f18
      clear hJ1 hF hmono R
      generalize blkOf (gh 8)=b19 at *
      generalize gh 9=v72 at *
      clear gh
      refine rk' hJ false 6 [] [(73,Vi (IntKind.i64.wrap ((j:Int) + 1)),Vi ((j:Int) + 1))] (.k (.out .normal) [] [1,2,15,16,7,36,37,6] [(38,Vi ((j:Int) + 1))]) (hc:=And.intro (i64_wrap (by omega) (by omega)) (trivial)) ?_
      clear hJ a w; intro a w hJ
      replace hJ:=hJ.drop 1
      replace hJ:=hJ.drop 0
      exact x_round ⟨j + 1,⟨h20,.slice (sA v72) (sN v72) (sC v72),ml++[⟨x.name,key,av⟩],(hJ.tof [] (F':=[]) (by kernel_rfl)).to (by kernel_rfl) (by rw [anRows_snoc]; rfl) rfl,(s9.trans (s15.trans (s17.trans s21))),by omega,hml2.trans hadd2⟩,by omega⟩
    ·skip
     have hk0:=fun H=>known_no key H gk (ok_kinds hkv2).1
     rw [if_neg (fun q=>gk q.1)] at hadd2
     refine rk' hJ false 17 [.cl 42 #[.agg #[Vi key.k,Vi key.n,.string key.s]] (.bool false)] [(73,Vi (IntKind.i64.wrap ((j:Int) + 1)),Vi ((j:Int) + 1))] (.k (.out .normal) [] [1,2,15,16,7,36,37,6] [(38,Vi ((j:Int) + 1))]) (ho:=And.intro (fun H sH=>hk0 _) (trivial)) (hc:=And.intro (i64_wrap (by omega) (by omega)) (trivial)) ?_
     clear hJ a w; intro a w hJ
     replace hJ:=hJ.drop 1
     replace hJ:=hJ.drop 0
     exact x_round ⟨j + 1,⟨h14,v,ml,(hJ.tof [] (F':=[]) (by kernel_rfl)).to (by kernel_rfl) (by kernel_rfl) rfl,(s9.trans s15),by omega,hml2.trans hadd2⟩,by omega⟩
   ·skip
    rw [if_neg g3] at hadd2
    refine x_tru hJ (t:=x.kind != 3) (bne_iff_ne.2 g3) ?_
    refine rk' hJ false 8 [] [(73,Vi (IntKind.i64.wrap ((j:Int) + 1)),Vi ((j:Int) + 1))] (.k (.out .normal) [] [1,2,15,16,7,36,37,6] [(38,Vi ((j:Int) + 1))]) (hc:=And.intro (i64_wrap (by omega) (by omega)) (trivial)) ?_
    clear hJ a w; intro a w hJ
    replace hJ:=hJ.drop 0
    exact x_round ⟨j + 1,⟨h8,v,ml,(hJ.tof [] (F':=[]) (by kernel_rfl)).to (by kernel_rfl) (by kernel_rfl) rfl,s9,by omega,hml2.trans hadd2⟩,by omega⟩
  ·skip
   have hta:f.fields.take j=f.fields:=by rw [hje,hn,List.take_length]
   rw [hta] at hml
   refine x_fal hJ (t:=decide ((j:Int) < (n:Int))) (decide_eq_false (by omega)) ?_
   refine rk' hJ false 2 [] [] (.k (.out (.exit 2)) [] [1,2,15,16,6] []) ?_
   clear hJ a w; intro a w hJ
   refine x_leave rfl ?_
   refine rx' hJ false 7 [] [(74,Vi (IntKind.i64.wrap ((r:Int) + 1)),Vi ((r:Int) + 1))] (.ok (.out .normal) [] [(1,.slice A1 ni c1),(2,Vp b1),(15,Vi (n:Int)),(6,v),(16,Vi ((r:Int) + 1))] [.row v 54 7 (anRows ml),.box b1 [.slice A n c,.slice B m d]] []) (hc:=And.intro (i64_wrap (by omega) (by omega)) (trivial)) (fun _=>by kernel_rfl) ?_
   clear hJ a w; intro a w hJ
   exact x_round ⟨r + 1,⟨h8,v,ml,hJ.tw,(s3.trans (s5.trans (s7.trans s9))),by omega,hst.trans hml⟩,by omega⟩
 ·skip
  rw [hke] at hol
  have hrl:(anRows ol).length=ol.length:=List.length_map _
  obtain ⟨Ar,cr,hE_v,hc_v,hm_v⟩:=hJ.form (v:=v) (e:=54) (k:=7) (l:=anRows ol) 0 (by kernel_rfl)
  rw [show (anRows ol).length=ol.length from by first | omega | (simp; done) | (simp; omega)] at hE_v hc_v
  rw [hE_v] at hJ
  refine x_fal hJ (t:=decide ((r:Int) < (n:Int))) (decide_eq_false (by omega)) ?_
  refine rk' hJ false 2 [] [] (.k (.out (.exit 0)) [] [6] []) ?_
  clear hJ a w; intro a w hJ
  refine x_leave rfl ?_
  refine rk' hJ false 10 [] [] (.k (.out .ret) [] [] [(4,.slice Ar ol.length cr),(5,.bool true)]) ?_
  clear hJ a w; intro a w hJ
  have fr:=hJ.j.rowOut0 (v:=.slice Ar ol.length cr) (e:=54) (k:=7) (l:=anRows ol) 0 (by kernel_rfl) rfl
  refine x_end (hQ [.slice Ar ol.length cr,.bool true] _ [] hJ (.rtm hJ.j (.rtm hJ.j .nil)) (no_own _) rfl ?_).1
  exact ⟨Ar,cr,congrArg (fun l:List Aw=>Value.tuple #[.slice Ar l.length cr,.bool true]) hol.symm,by rw [hol]; exact fr⟩

end Go.Proofs.YthckljafinhepaaGreat
