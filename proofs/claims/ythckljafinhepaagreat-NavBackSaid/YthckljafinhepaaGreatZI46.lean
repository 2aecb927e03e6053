/-
  Contracts of package nav: Check, Lacks.
-/
import Derived.Test.YthckljafinhepaaGreatZI44
import Derived.Test.YthckljafinhepaaGreatZI45
import Derived.Test.YthckljafinhepaaGreatZI42
import Derived.Test.YthckljafinhepaaGreatZI43
import Derived.Lib.AppendZerosOnto
set_option maxRecDepth 100000
namespace Go.Proofs.YthckljafinhepaaGreat
open Go.RowKit
set_option linter.unusedVariables false
theorem int_len (l:List Int):Len 1 (wW l):=fun r hr=>by obtain ⟨x,-,rfl⟩:=List.mem_map.1 hr; rfl
theorem int_one (l:List Int):One (wW l):=fun r hr u hu=>by
 obtain ⟨x,-,rfl⟩:=List.mem_map.1 hr
 rw [List.mem_singleton.1 hu]; rfl
theorem info_int:(Tryz.prog.info? 3).map (fun i=>(i.zero,i.size,i.bytes))=some (some (.int .i64 0),1,8):=by kernel_rfl
set_option maxHeartbeats 2000000 in
theorem clone_int (v:Value) (l:List (List Value)) (w:World) (h:Sl w 1 v l) (hk:Len 1 l) (h1:One l) (hl:l.length * 8≤140737488355328) :
  Calls Tryz.prog 50 #[v] w (GivesOwn 3 1 l w):=by
 have q22:∀ (w:World) (a:Option Addr) (n c n' c':Nat),(binOp .eql 73 (.slice a n c) (.slice none n' c')).run Tryz.prog w=.ok (.bool a.isNone) w:=fun w a n c n' c'=>Lib.run_eql_slice_nil w _ _ a n c n' c' Tryz.underlying73
 obtain ⟨A,cap,rfl,c1,c2,hA⟩:=h.form
 cases A with
 | none =>
  obtain rfl:=hA rfl
  have h0:l.length=0:=by omega
  obtain rfl:=List.length_eq_zero_iff.1 h0
  go_enter Tryz.func50,Tryz.ntmps50
  go_wp2_with fail
  go_ret
  exact ⟨_,rfl,⟨by simp,.inl ⟨rfl,rfl⟩⟩,Evo.refl _⟩
 | some a =>
  have HR:=Lib.hid h
  have HK:=Lib.hid hk
  have H1:=Lib.hid h1
  clear h hk h1
  go_enter Tryz.func50,Tryz.ntmps50
  go_wp2_with (at_builtin; refine wpList_append_rows rfl (.tmp 5) (.tmp 6) 73 rfl 3 _ 1 8 Tryz.underlying73 info_int rfl (by decide) w ((Evo.refl _).alloc _) [] l _ _ rfl rfl ⟨World.ownsRow_made w #[] 0 (Nat.le_refl _) (Nat.zero_le _) (by simp)⟩ (HR.out.at ((Evo.refl _).alloc _)) HK.out H1.out ?c1 ?c2 ?_)
  case c1=>simp; omega
  case c2=>simpa using hl
  intro v' w1 hown hbl hg
  have HW:=Lib.hid (⟨hown,hbl⟩:Own w1 w.heap.size 3 1 v' ([]++l).length ([]++l).flatten∧Evo w w1)
  clear hown hg hbl
  go_wp2_with fail
  go_ret
  exact ⟨_,rfl,HW.out.1,HW.out.2⟩
theorem CRow.slu {P:Program} {f:FuncId} {args:Array Value} {h:Vw} {e:TypeId} {k:Nat} {l:List (List Value)} (hc:CRow P f args h e k (fun _ rows=>rows=l)):CRow P f args h e k (fun v rows=>(∃ u,v=.slice (sA u) (sN u) (sC u))∧rows=l):=by
 intro a1 a2 a3 a4
 refine (hc a1 a2 a3 a4).mono ?_
 rintro en w' ⟨v,Bo,h1,h2,h3,h4,r,h5,rfl⟩
 obtain ⟨A,c,rfl,-,-⟩:=yW h5
 exact ⟨_,Bo,h1,h2,h3,h4,r,h5,⟨.slice A r.length c,rfl⟩,rfl⟩
theorem c_cloneI {h:Vw} {v:Value} {l:List Int} (hr:RS h 1 v (wW l)) (hl:l.length≤1000000):CRow Tryz.prog 50 #[v] h 3 1 (fun v rows=>(∃ u,v=.slice (sA u) (sN u) (sC u))∧rows=wW l) :=
 CRow.slu (CRow.of_own (int_len l) (clone_int v (wW l) h.w (Sl.of_rs hr) (int_len _) (int_one _) (by rw [List.length_map]; omega)))
structure PathOk (l:List Int) (m:Nat):Prop where
 rise:l.Pairwise (· < ·)
 lo:∀ x∈l,0≤x
 hi:∀ x∈l,x≤(m:Int)
theorem rise_at {l:List Int} (h:l.Pairwise (· < ·)) {i j:Nat} {x y:Int} (hij:i < j) (hx:l[i]?=some x) (hy:l[j]?=some y):x < y:=by
 obtain ⟨a,ea⟩:=List.getElem?_eq_some_iff.1 hx
 obtain ⟨b,eb⟩:=List.getElem?_eq_some_iff.1 hy
 have:=List.pairwise_iff_getElem.1 h i j a b hij
 rw [ea,eb] at this
 exact this
set_option maxHeartbeats 4000000 in
theorem mV (f:Fm) (ρ:List Int) (lv:Nat→Nat) (A:Option Addr) (n c:Nat) (B:Option Addr) (m d:Nat) (va:List Vl) (A1:Option Addr) (c1:Nat) (path:List Int) (A2:Option Addr) (c2:Nat) (at_:Int) (h:Vw) (hok:OkFm f ρ lv) (hf:IsForm h (.slice A n c) (.slice B m d) f) (hn:n=f.fields.length) (hm:m=f.pages.length)
  (hv:RS h 3 (.slice A1 n c1) (sX va)) (la:va.length=n) (ov:∀ x∈va,OkV x) (hp:RS h 1 (.slice A2 path.length c2) (wW path)) (lp:path.length≤100) (pk:PathOk (path++[at_]) m) :
  C0 Tryz.prog 52 #[.agg #[.slice A n c,.slice B m d],.slice A1 n c1,.agg #[.int .i64 at_,.slice A2 path.length c2,.bool (at_ == (m:Int))]] h (fun r _=>r=.int .i64 0):=by
 have hC:=fun H q=>shCheck_any f ρ lv A n c B m d H hok q hn
 have few:=hok.fields.few
 have hck:=fun x (hx:x∈va) H=>check_okv x H (ov x hx)
 have hcl:=fun H (q:RS H 1 (.slice A2 path.length c2) (wW path))=>c_cloneI q (by omega)
 have hpl:(wW path).length=path.length:=List.length_map _
 have hl0:=pk.lo
 have hl1:=pk.hi
 have hl2:=pk.rise
 have hrw:wW path++[[.int .i64 at_]]=wW (path++[at_]):=by simp [wW]
 have hll:(path++[at_]).length=path.length + 1:=by simp
 generalize hL:path++[at_]=l at *
 generalize hnp:path.length=np at *
 refine yX Tryz.func52 (c:=Tryz.f52.body.getD .skip) (N:=70) ?_
 intro hbx hbad Q hQ a w hJ
 refine rk hJ false 35 [.own,.own,.b 1 0,.cl 84 #[.agg #[.slice A n c,.slice B m d]] (Vi 0),.b 1 0] [] (.new fun b1=>.new fun b2=>.m (.code [1,0,1,1]) [.seq [1,1,1]] [1] [(3,Vp b1),(5,Vp b2),(24,.bool ((n:Int) != (n:Int)))] [.box b2 [Vi at_,.slice A2 np c2,.bool (at_ == (m:Int))],.box b1 [.slice A n c,.slice B m d]] []) (And.intro (fun H sH=>hC _ (hf.sees sH)) (trivial)) trivial (fun b1 b2 _=>by kernel_rfl) ?_
 clear hJ a w; intro b1 b2 a w hJ
 refine aY hJ (t:=(n:Int) != (n:Int)) ((by simp)) ?_
 refine rk' hJ false 11 [] [] (.k (.code [0,1,0,1,1,1]) [.block 0,.seq [1,1,1,1]] [3,5] [(25,.slice A1 n c1),(26,Vi (n:Int)),(27,Vi 0)]) ?_
 clear hJ a w; intro a w hJ
 refine eY (fun (k:Nat) a w=>∃ (h3:Vw) ,K ⟨70,h.w,h.bad,[]⟩ [(3,Vp b1),(5,Vp b2),(25,.slice A1 n c1),(26,Vi (n:Int)),(27,Vi (k:Int))] [.box b2 [Vi at_,.slice A2 np c2,.bool (at_ == (m:Int))],.box b1 [.slice A n c,.slice B m d]] [] h3 a w∧Sees h h3∧(k≤n)) (fun k=>n - k) (0) ⟨h,hJ.tw,Sees.refl _,Nat.zero_le _⟩ ?_
 clear hJ a w; rintro k a w ⟨h3,hJ,s4,hk⟩
 refine rk' hJ false 6 [] [] (.k (.code [0,1,0,0,1,0,1,1,1]) [.seq [1,1,0,0,1,0,1,1,1]] [3,5,25,26,27] [(28,.bool (decide ((k:Int) < (n:Int))))]) ?_
 clear hJ a w; intro a w hJ
 rcases (by omega:k < n∨k=n) with hlt | hke
 ·obtain ⟨x,hx⟩:∃ x,va[k]?=some x:=⟨_,List.getElem?_eq_getElem (by omega)⟩
  have hrow:=vlRows_get hx
  have hckx:=fun H=>hck x (List.mem_of_getElem? hx) H
  refine kY hJ (t:=decide ((k:Int) < (n:Int))) (decide_eq_true (by omega)) ?_
  refine rk' hJ false 6 [] [] (.k (.ops [0,0,0,1,1,0,0,1,0,1,1,1] 0) [.seq [1,0,0,1,1,0,0,1,0,1,1,1],.block 1,.seq [1,1,1,0,0,1,0,1,1,1]] [3,5,25,26,27] []) ?_
  clear hJ a w; intro a w hJ
  obtain ⟨b5,o6,rfl,-,c7⟩:=RS.row hv (hrow)
  replace hJ:=hJ.fact (c7.sees s4)
  refine rk hJ false 27 [.ix b5 o6 n c1 k,.f 0 0,.own,.b 0 0,.b 0 0,.cl 71 #[.agg #[Vi x.k,Vi x.n,.string x.s]] (Vi 0)] [(36,Vi (IntKind.i64.wrap ((k:Int) + 1)),Vi ((k:Int) + 1))] (.new fun b8=>.f (.out .normal) [] [3,5,25,26] [(27,Vi ((k:Int) + 1))] [.box b8 [Vi x.k,Vi x.n,.string x.s],.box b2 [Vi at_,.slice A2 np c2,.bool (at_ == (m:Int))],.box b1 [.slice A n c,.slice B m d]] [.o 0]) (And.intro (by first | omega | (simp; omega)) (And.intro (fun H sH=>hckx _) (trivial))) (And.intro (kJ (by omega) (by omega)) (trivial)) (fun b8 _=>by kernel_rfl) ?_
  clear hJ a w; intro b8 a w hJ
  replace hJ:=hJ.drop 0
  exact jY ⟨k + 1,⟨h3,(hJ.tof [] (F':=[]) (by kernel_rfl)).to (by kernel_rfl) (by kernel_rfl) rfl,s4,by omega⟩,by omega⟩
 ·skip
  refine aY hJ (t:=decide ((k:Int) < (n:Int))) (decide_eq_false (by omega)) ?_
  refine rk' hJ false 2 [] [] (.k (.out (.exit 0)) [] [3,5] []) ?_
  clear hJ a w; intro a w hJ
  refine dY rfl ?_
  refine rk' hJ false 9 [] [] (.k (.code [0,0,1,1,1,1,1]) [.seq [1,0,1,1,1,1,1],.seq [1,1,1,1,1,1]] [3,5] [(11,Vi (-1))]) ?_
  clear hJ a w; intro a w hJ
  let R:Reg:=⟨⟨70,h.w,h.bad,[]⟩,[(0,37,fun gh=>.pointer (some ⟨b2,1,none⟩)),(1,38,fun gh=>.slice A2 np c2),(2,39,fun gh=>.slice (sA (gh 2)) (sN (gh 2)) (sC (gh 2))),(3,40,fun gh=>Vp b2),(4,41,fun gh=>Vi at_),(5,42,fun gh=>.slice (some ⟨(zJ (gh 5)),0,none⟩) 1 1),(6,43,fun gh=>.slice (sA (gh 6)) (sN (gh 6)) (sC (gh 6))),(7,44,fun gh=>Vi (sN (gh 6):Int)),(8,45,fun gh=>Vi 0)],[(3,Vp b1),(5,Vp b2),(11,Vi (-1))],[⟨none,[(2,fun gh=>.row (.slice (sA (gh 2)) (sN (gh 2)) (sC (gh 2))) 3 1 (wW path)),(6,fun gh=>.row (.slice (sA (gh 6)) (sN (gh 6)) (sC (gh 6))) 3 1 ((wW path)++[[Vi at_]]))]⟩,⟨some (.box b2 [Vi at_,.slice A2 np c2,.bool (at_ == (m:Int))]),[]⟩,⟨some (.box b1 [.slice A n c,.slice B m d]),[]⟩],[(5,fun gh hh=>Cells hh (zJ (gh 5)) 0 [Vi at_])],[[],[0],[0,1],[],[3],[3,4],[0,1,2,3,4,5],[0,1,2,3,4,5,6],[]],h3⟩
  have hmono:∀ zq∈R.F,∀ zx zh zi,Sees zh zi→zq.2 zx zh→zq.2 zx zi:=eV (fun _ _ _ s c=>c.sees s) (lJ)
  refine iY (by kernel_rfl) R hJ 9 [.pu,.ld 1 1,.cl,.pu,.ld 1 0,.cl,.cl,.pu,.pu] (by kernel_rfl) hmono (fun _ _ _=>by kernel_rfl) (fun hT hA=>?_) ?_
  ·clear hJ
   refine And.intro (r_callown hT hA hmono ⟨fun _ _=>by kernel_rfl,fun _ _=>by kernel_rfl,fun _ _=>by kernel_rfl⟩ (by kernel_rfl) 39 (fun u=>.slice (sA u) (sN u) (sC u)) [1] 2 (by kernel_rfl) (fun _=>by kernel_rfl) 0 ⟨none,[(2,fun gh=>.row (.slice (sA (gh 2)) (sN (gh 2)) (sC (gh 2))) 3 1 (wW path)),(6,fun gh=>.row (.slice (sA (gh 6)) (sN (gh 6)) (sC (gh 6))) 3 1 ((wW path)++[[Vi at_]]))]⟩ (by kernel_rfl) (by kernel_rfl) (by kernel_rfl) 3 1 (fun gh=>wW path) (fun _=>by kernel_rfl) (fun _=>by kernel_rfl) (fun _ _=>rfl) 50 (fun gh=>#[.slice A2 np c2]) (fun _ _=>by kernel_rfl) (fun gh H sH fH=>hcl _ (hp.sees (s4.trans sH)))) ?_
   refine And.intro (r_fact hT hA hmono ⟨fun _ _=>by kernel_rfl,fun _ _=>by kernel_rfl,fun _ _=>by kernel_rfl⟩ 42 (fun g=>Vs g 1 1) [4] 5 (by kernel_rfl) (by kernel_rfl) (fun _=>by kernel_rfl) (fun gh=>[Vi at_]) 3 (fun _ _=>by kernel_rfl) (fun gh zb zH zc zj zq zhq zhe=>own_fact (i:=5) (k:=0) (f:=fun gh hh=>Cells hh (zJ (gh 5)) 0 [Vi at_]) (by kernel_rfl) (by kernel_rfl) zc zj zq zhq zhe)) ?_
   refine And.intro (nW hT hA hmono ⟨fun _ _=>by kernel_rfl,fun _ _=>by kernel_rfl,fun _ _=>by kernel_rfl⟩ 43 [2,5] 6 0 ⟨none,[(2,fun gh=>.row (.slice (sA (gh 2)) (sN (gh 2)) (sC (gh 2))) 3 1 (wW path)),(6,fun gh=>.row (.slice (sA (gh 6)) (sN (gh 6)) (sC (gh 6))) 3 1 ((wW path)++[[Vi at_]]))]⟩ (fun gh=>.slice (sA (gh 2)) (sN (gh 2)) (sC (gh 2))) 73 3 1 (fun gh=>wW path) (fun gh=>[[Vi at_]]) (.tmp 39) (.tmp 42) (fun gh=>(zJ (gh 5))) 1 1 0 5 (fun gh hh=>Cells hh (zJ (gh 5)) 0 [Vi at_]) (fun _ _ c=>c) Tryz.underlying73 (zv:=Vi 0) (bytes:=8) (fun _=>by constructor <;> (simp; omega))) ?_
   trivial
  clear hJ a w; intro gh h11 a w sR hJ1 hF; have s12:Sees h3 h11:=sR; clear sR
  have hJ:K ⟨70,h.w,h.bad,[]⟩ [(3,Vp b1),(5,Vp b2),(11,Vi (-1)),(43,.slice (sA (gh 6)) (sN (gh 6)) (sC (gh 6))),(44,Vi (sN (gh 6):Int)),(45,Vi 0)] [.row (.slice (sA (gh 6)) (sN (gh 6)) (sC (gh 6))) 3 1 ((wW path)++[[Vi at_]]),.box b2 [Vi at_,.slice A2 np c2,.bool (at_ == (m:Int))],.box b1 [.slice A n c,.slice B m d]] [] h11 a w:=hJ1.tw
  have f9:Cells h11 (zJ (gh 5)) 0 [Vi at_]:=Reg.fact (i:=5) (f:=fun gh hh=>Cells hh (zJ (gh 5)) 0 [Vi at_]) hF 0 (by kernel_rfl)
  replace hJ:=hJ.fact f9
  clear hJ1 hF hmono R
  generalize gh 2=u39 at *
  generalize zJ (gh 5)=b10 at *
  generalize gh 6=v43 at *
  clear gh
  refine rk' hJ false 2 [] [] (.k (.code [0,1,0,1,1,1,1,1]) [.block 2,.seq [1,1,1,1,1,1]] [3,5,11,43,44,45] []) ?_
  clear hJ a w; intro a w hJ
  rw [hrw] at hJ
  have hlr:(wW l).length=l.length:=List.length_map _
  obtain ⟨Ap,cp,hE_v43,hc_v43,hm_v43⟩:=hJ.form (v:=.slice (sA v43) (sN v43) (sC v43)) (e:=3) (k:=1) (l:=wW l) 0 (by kernel_rfl)
  rw [show (wW l).length=(np + 1) from by first | omega | (simp; done) | (simp; omega)] at hE_v43 hc_v43
  rw [hE_v43] at hJ
  have hE43:(sN v43:Int)=((np + 1:Nat):Int):=by simp only [Value.slice.injEq] at hE_v43; rw [hE_v43.2.1]
  replace hJ:=hJ.rew 44 (v:=Vi (sN v43:Int)) (v':=Vi ((np + 1:Nat):Int)) (congrArg (Value.int .i64) hE43) (by kernel_rfl)
  replace hJ:K ⟨70,h.w,h.bad,[]⟩ [(3,Vp b1),(5,Vp b2),(11,Vi (-1)),(43,.slice Ap (np + 1) cp),(45,Vi 0),(44,Vi ((np + 1:Nat):Int))] [.row (.slice Ap (np + 1) cp) 3 1 (wW l),.box b2 [Vi at_,.slice A2 np c2,.bool (at_ == (m:Int))],.box b1 [.slice A n c,.slice B m d]] [(b10,0,[Vi at_])] h11 a w:=hJ.to (by kernel_rfl) rfl rfl
  obtain ⟨h13,s14,fr,hJn⟩:=hJ.frozen (v:=.slice Ap (np + 1) cp) (e:=3) (k:=1) (l:=wW l) 0 (by kernel_rfl) (hJ.j.rowOut0 (v:=.slice Ap (np + 1) cp) (e:=3) (k:=1) (l:=wW l) 0 (by kernel_rfl) rfl); clear hJ; have hJ:=hJn; clear hJn
  refine eY (fun (j:Nat) a w=>∃ (h15:Vw) (last:Int),K ⟨70,h.w,h.bad,[]⟩ [(3,Vp b1),(5,Vp b2),(43,.slice Ap (np + 1) cp),(44,Vi ((np + 1:Nat):Int)),(45,Vi (j:Int)),(11,Vi last)] [.box b2 [Vi at_,.slice A2 np c2,.bool (at_ == (m:Int))],.box b1 [.slice A n c,.slice B m d]] [(b10,0,[Vi at_])] h15 a w∧Sees h13 h15∧(j≤np + 1)∧(∀ x,l[j]?=some x→last < x)) (fun j=>np + 1 - j) (0) ⟨h13,-1,hJ.tw,Sees.refl _,Nat.zero_le _,fun x hx=>by have:=hl0 x (List.mem_of_getElem? hx); omega⟩ ?_
  clear hJ a w; rintro j a w ⟨h15,last,hJ,s16,hj,hlast⟩
  refine rx' hJ false 6 [] [] (.ok (.code [0,1,0,0,1,0,1,1,1,1,1]) [.seq [1,1,0,0,1,0,1,1,1,1,1]] [(3,Vp b1),(5,Vp b2),(43,.slice Ap (np + 1) cp),(44,Vi ((np + 1:Nat):Int)),(45,Vi (j:Int)),(11,Vi last),(46,.bool (decide ((j:Int) < ((np + 1:Nat):Int))))] [.box b2 [Vi at_,.slice A2 np c2,.bool (at_ == (m:Int))],.box b1 [.slice A n c,.slice B m d]] [(b10,0,[Vi at_])]) (fun _=>by kernel_rfl) ?_
  clear hJ a w; intro a w hJ
  rcases (by omega:j < np + 1∨j=np + 1) with hjl | hje
  ·obtain ⟨x,hx⟩:∃ x,l[j]?=some x:=⟨_,List.getElem?_eq_getElem (by omega)⟩
   have hrow:=rk_row hx
   have q1:=hlast x hx
   have q2:=hl1 x (List.mem_of_getElem? hx)
   refine kY hJ (t:=decide ((j:Int) < ((np + 1:Nat):Int))) (decide_eq_true (by omega)) ?_
   refine rk' hJ false 6 [] [] (.k (.ops [0,0,0,1,1,0,0,1,0,1,1,1,1,1] 0) [.seq [1,0,0,1,1,0,0,1,0,1,1,1,1,1],.block 3,.seq [1,1,1,0,0,1,0,1,1,1,1,1]] [3,5,43,44,45,11] []) ?_
   clear hJ a w; intro a w hJ
   obtain ⟨b17,o18,rfl,-,c19⟩:=RS.row fr (hrow)
   replace hJ:=hJ.fact (c19.sees s16)
   refine rk' hJ false 33 [.ix b17 o18 (np + 1) cp j,.f 0 0,.b 1 1] [(51,.bool (decide (x≤last)),.bool false),(57,.bool (decide (x > (m:Int))),.bool false),(60,Vi (IntKind.i64.wrap ((j:Int) + 1)),Vi ((j:Int) + 1))] (.k (.out .normal) [] [3,5,43,44] [(11,Vi x),(45,Vi ((j:Int) + 1))]) (ho:=And.intro (by first | omega | (simp; omega)) (trivial)) (hc:=And.intro (congrArg Value.bool (decide_eq_false (by omega))) (And.intro (congrArg Value.bool (decide_eq_false (by omega))) (And.intro (kJ (by omega) (by omega)) (trivial)))) ?_
   clear hJ a w; intro a w hJ
   exact jY ⟨j + 1,⟨h15,x,(hJ.tof [1] (F':=[(b10,0,[Vi at_])]) (by kernel_rfl)).to (by kernel_rfl) (by kernel_rfl) rfl,s16,by omega,fun y hy=>rise_at hl2 (Nat.lt_succ_self j) hx hy⟩,by omega⟩
  ·skip
   refine aY hJ (t:=decide ((j:Int) < ((np + 1:Nat):Int))) (decide_eq_false (by omega)) ?_
   refine rk' hJ false 2 [] [] (.k (.out (.exit 2)) [] [3,5] []) ?_
   clear hJ a w; intro a w hJ
   refine dY rfl ?_
   refine rk' hJ false 25 [.b 0 2,.b 0 0,.b 1 1] [(69,.bool ((at_ == (m:Int)) != (at_ == (m:Int))),.bool false)] (.k (.out .ret) [] [] [(6,Vi 0)]) (hc:=And.intro (congrArg Value.bool (by simp)) (trivial)) ?_
   clear hJ a w; intro a w hJ
   refine zX (hQ [Vi 0] _ [] hJ (.rtm hJ.j .nil) (fJ _) rfl ?_).1
   exact rfl
def yQ (fs:List Fd) (va:List Vl) (l:List ByteArray):List ByteArray:=l.filter fun s=>Bool.not (decide ((va.getD (fQ fs s).toNat zV).k≤3))
theorem lackN_snoc (fs:List Fd) (va:List Vl) (l:List ByteArray) (s:ByteArray):yQ fs va (l++[s])=yQ fs va l++if (va.getD (fQ fs s).toNat zV).k≤3 then [] else [s]:=by
 unfold yQ
 rw [List.filter_append]
 by_cases g:(va.getD (fQ fs s).toNat zV).k≤3
 ·rw [if_pos g,List.filter_cons_of_neg (by rw [decide_eq_true g]; exact Bool.false_ne_true)]; rfl
 ·rw [if_neg g,List.filter_cons_of_pos (by rw [decide_eq_false g]; rfl)]; rfl
theorem lackN_len (fs:List Fd) (va:List Vl) (l:List ByteArray):(yQ fs va l).length≤l.length:=List.length_filter_le _ _
theorem known_dec (v:Vl) (ho:OkV v) (h:Vw):C0 Tryz.prog 42 #[v.val] h (fun r _=>r=.bool (decide (v.k≤3))):=by
 by_cases g:v.k≤3
 ·rw [decide_eq_true g]
  rcases ho with q | rfl | ⟨q,-⟩
  ·exact c_kn v.k v.n v.s h q
  ·exact absurd g (by decide)
  ·omega
 ·rw [decide_eq_false g]
  exact known_no v h g (ok_kinds ho).1
set_option maxHeartbeats 4000000 in
theorem navLacks_any (f:Fm) (ρ:List Int) (lv:Nat→Nat) (A:Option Addr) (n c:Nat) (B:Option Addr) (m d:Nat) (va:List Vl) (A1:Option Addr) (c1:Nat) (at_:Nat) (p:Pg) (h:Vw) (hok:OkFm f ρ lv) (hf:IsForm h (.slice A n c) (.slice B m d) f) (hn:n=f.fields.length) (hm:m=f.pages.length)
  (hv:RS h 3 (.slice A1 n c1) (sX va)) (la:va.length=n) (ov:∀ x∈va,OkV x) (hpg:f.pages[at_]?=some p) :
  C0 Tryz.prog 41 #[.agg #[.slice A n c,.slice B m d],.slice A1 n c1,.int .i64 (at_:Int)] h (fun r h'=>∃ A c,r=.tuple #[.slice A (yQ f.fields va p.fields).length c,.int .i64 0]∧RS h' 1 (.slice A (yQ f.fields va p.fields).length c) (oX (yQ f.fields va p.fields))):=by
 have m1:=hok.pages.one
 have hC:∀ H,IsForm H (.slice A n c) (.slice B m d) f→RS H 3 (.slice A1 n c1) (sX va)→C0 Tryz.prog 52 #[.agg #[.slice A n c,.slice B m d],.slice A1 n c1,.agg #[.int .i64 0,.slice none 0 0,.bool false]] H (fun r _=>r=.int .i64 0):=fun H q1 q2=>by
  have:=mV f ρ lv A n c B m d va A1 c1 [] none 0 0 H hok q1 hn hm q2 la ov (RS.nil H 1) (by decide) ⟨List.pairwise_singleton _ _,fun x hx=>by rw [List.mem_singleton.1 hx]; omega,fun x hx=>by rw [List.mem_singleton.1 hx]; omega⟩
  rw [show ((0:Int) == (m:Int))=false from beq_eq_false_iff_ne.2 (by omega)] at this
  exact this
 have few:=hok.fields.few
 have hF:=fun H s i q hp=>find_yes f.fields (.slice A n c) s i H q (by omega) hp
 have hhere:=hok.pages.here p (List.mem_of_getElem? hpg)
 have hpf:=hok.pages.fl p (List.mem_of_getElem? hpg)
 have hatm:at_ < m:=by rw [hm]; exact (List.getElem?_eq_some_iff.1 hpg).1
 obtain ⟨us,ws,B2,d2,e2,-,hpr,hps,hpa,-,-⟩:=pgs_open hf.pages
 simp only [Value.slice.injEq] at e2
 obtain ⟨rfl,-,rfl⟩:=e2
 rw [← hm] at hpr
 obtain ⟨Au,cu,Bu,mu,du,hprow,hrs,-⟩:=pg_at hps hpa hpg
 have hlk:=fun k=>lackN_len f.fields va (p.fields.take k)
 have hst:(oX p.fields).length=p.fields.length:=List.length_map _
 generalize hpl:p.fields.length=np at *
 refine yX Tryz.func41 (c:=Tryz.f41.body.getD .skip) (N:=60) ?_
 intro hbx hbad Q hQ a w hJ
 refine rk hJ false 54 [.own,.b 0 0,.cl 52 #[.agg #[.slice A n c,.slice B m d],.slice A1 n c1,.agg #[Vi 0,Vz,.bool false]] (Vi 0),.b 0 1,.b 0 1] [(22,.bool (decide ((at_:Int) < 0)),.bool false),(28,.bool (decide ((at_:Int) ≥ (m:Int))),.bool false)] (.new fun b1=>.m (.ops [0,0,1,1,1,1] 3) [.seq [1,0,1,1,1,1],.seq [1,1,1,1,1]] [1] [(3,Vp b1),(9,Vz),(31,.slice B m d),(32,Vi (at_:Int))] [.box b1 [.slice A n c,.slice B m d]] []) (And.intro (fun H sH=>hC _ (hf.sees sH) (hv.sees sH)) (trivial)) (And.intro (congrArg Value.bool (decide_eq_false (by omega))) (And.intro (congrArg Value.bool (decide_eq_false (by omega))) (trivial))) (fun b1 _=>by kernel_rfl) ?_
 clear hJ a w; intro b1 a w hJ
 obtain ⟨b2,o3,rfl,-,c4⟩:=RS.row hpr (hprow)
 replace hJ:=hJ.fact (c4.sees (Sees.refl _))
 refine rk' hJ false 8 [.ix b2 o3 m d at_,.f 0 1] [] (.k (.code [0,1,0,1,1,1,1]) [.block 0,.seq [1,1,1,1,1]] [1,3,9] [(35,.slice Au np cu),(36,Vi (np:Int)),(37,Vi 0)]) (ho:=And.intro (by first | omega | (simp; omega)) (trivial)) ?_
 clear hJ a w; intro a w hJ
 replace hJ:=hJ.nilrow 9 1
 refine eY (fun (k:Nat) a w=>∃ (h5:Vw) (v:Value),K ⟨60,h.w,h.bad,[]⟩ [(1,.slice A1 n c1),(3,Vp b1),(35,.slice Au np cu),(36,Vi (np:Int)),(37,Vi (k:Int)),(9,v)] [.row v 9 1 (oX (yQ f.fields va (p.fields.take k))),.box b1 [.slice A n c,.slice (some ⟨b2,o3,none⟩) m d]] [(b2,o3 + at_ * 8,[.string p.name,.slice Au np cu,Vi p.skip.op,Vi p.skip.k,Vi p.skip.n,.string p.skip.s,.string p.skip.nm,.slice Bu mu du])] h5 a w∧Sees h h5∧(k≤np)) (fun k=>np - k) (0) ⟨h,(Vz),hJ.tw,Sees.refl _,Nat.zero_le _⟩ ?_
 clear hJ a w; rintro k a w ⟨h5,v,hJ,s6,hk⟩
 refine rk' hJ false 6 [] [] (.k (.code [0,1,0,0,1,0,1,1,1,1]) [.seq [1,1,0,0,1,0,1,1,1,1]] [1,3,35,36,37,9] [(38,.bool (decide ((k:Int) < (np:Int))))]) ?_
 clear hJ a w; intro a w hJ
 rcases (by omega:k < np∨k=np) with hlt | hke
 ·obtain ⟨s,hs⟩:∃ s,p.fields[k]?=some s:=⟨_,List.getElem?_eq_getElem (by omega)⟩
  have hsr:=str_row hs
  have hsn:=lackN_snoc f.fields va (p.fields.take k) s
  rw [← pX _ k s hs] at hsn
  have hl2:=hlk k
  rw [List.length_take] at hl2
  have hsl:(oX (yQ f.fields va (p.fields.take k))).length=(yQ f.fields va (p.fields.take k)).length:=List.length_map _
  obtain ⟨i,x,hi,hfi⟩:∃ (i:Nat) (x:Vl),fQ f.fields s=(i:Int)∧va[i]?=some x:=by
   have q:=hhere s (List.mem_of_getElem? hs)
   rcases findF_lt f.fields s with g | ⟨i,g,e,hg,-⟩
   ·omega
   ·exact ⟨i,_,e,List.getElem?_eq_getElem (by rw [la,hn]; exact (List.getElem?_eq_some_iff.1 hg).1)⟩
  have hF1:=fun H q=>hF H s i q hi
  have hrow:=vlRows_get hfi
  have hil:i < n:=by rw [← la]; exact (List.getElem?_eq_some_iff.1 hfi).1
  have hkn:=fun H=>known_dec x (ov x (List.mem_of_getElem? hfi)) H
  rw [hi,Int.toNat_natCast,List.getD_eq_getElem?_getD,hfi,Option.getD_some] at hsn
  by_cases g:x.k≤3
  ·rw [if_pos g,List.append_nil] at hsn
   rw [decide_eq_true g] at hkn
   refine kY hJ (t:=decide ((k:Int) < (np:Int))) (decide_eq_true (by omega)) ?_
   refine rk' hJ false 6 [] [] (.k (.ops [0,0,0,1,1,0,0,1,0,1,1,1,1] 0) [.seq [1,0,0,1,1,0,0,1,0,1,1,1,1],.block 1,.seq [1,1,1,0,0,1,0,1,1,1,1]] [1,3,35,36,37,9] []) ?_
   clear hJ a w; intro a w hJ
   obtain ⟨b7,o8,rfl,-,c9⟩:=RS.row hrs (hsr)
   replace hJ:=hJ.fact (c9.sees s6)
   refine rx' hJ false 22 [.ix b7 o8 np cu k,.f 0 0,.b 1 0,.cl 70 #[.slice A n c,.string s] (.tuple #[Vi (i:Int),Vi 0])] [] (.ok (.ops [0,1,1,0,0,1,1,0,0,1,0,1,1,1,1] 2) [.seq [1,1,1,0,0,1,1,0,0,1,0,1,1,1,1],.block 1,.seq [1,1,1,0,0,1,0,1,1,1,1]] [(1,.slice A1 n c1),(3,Vp b1),(35,.slice (some ⟨b7,o8,none⟩) np cu),(36,Vi (np:Int)),(37,Vi (k:Int)),(9,v),(11,.string s),(48,.slice A1 n c1),(49,Vi (i:Int))] [.row v 9 1 (oX (yQ f.fields va (p.fields.take k))),.box b1 [.slice A n c,.slice (some ⟨b2,o3,none⟩) m d]] [(b7,o8 + k * 1,[.string s]),(b2,o3 + at_ * 8,[.string p.name,.slice (some ⟨b7,o8,none⟩) np cu,Vi p.skip.op,Vi p.skip.k,Vi p.skip.n,.string p.skip.s,.string p.skip.nm,.slice Bu mu du])]) (ho:=And.intro (by first | omega | (simp; omega)) (And.intro (fun H sH=>hF1 _ ((hf.sees (s6.trans sH))).fields) (trivial))) (fun _=>by kernel_rfl) ?_
   clear hJ a w; intro a w hJ
   obtain ⟨b10,o11,rfl,-,c12⟩:=RS.row hv (hrow)
   replace hJ:=hJ.fact (c12.sees s6)
   refine rk' hJ false 14 [.ix b10 o11 n c1 i,.f 0 0,.cl 42 #[.agg #[Vi x.k,Vi x.n,.string x.s]] (.bool true)] [(58,Vi (IntKind.i64.wrap ((k:Int) + 1)),Vi ((k:Int) + 1))] (.k (.out .normal) [] [1,3,35,36,9] [(37,Vi ((k:Int) + 1))]) (ho:=And.intro (by first | omega | (simp; omega)) (And.intro (fun H sH=>hkn _) (trivial))) (hc:=And.intro (kJ (by omega) (by omega)) (trivial)) ?_
   clear hJ a w; intro a w hJ
   exact jY ⟨k + 1,⟨h5,v,(hJ.tof [2] (F':=[(b2,o3 + at_ * 8,[.string p.name,.slice (some ⟨b7,o8,none⟩) np cu,Vi p.skip.op,Vi p.skip.k,Vi p.skip.n,.string p.skip.s,.string p.skip.nm,.slice Bu mu du])]) (by kernel_rfl)).to (by kernel_rfl) (by rw [hsn]) rfl,s6,by omega⟩,by omega⟩
  ·skip
   rw [if_neg g] at hsn
   rw [decide_eq_false g] at hkn
   refine kY hJ (t:=decide ((k:Int) < (np:Int))) (decide_eq_true (by omega)) ?_
   refine rk' hJ false 6 [] [] (.k (.ops [0,0,0,1,1,0,0,1,0,1,1,1,1] 0) [.seq [1,0,0,1,1,0,0,1,0,1,1,1,1],.block 1,.seq [1,1,1,0,0,1,0,1,1,1,1]] [1,3,35,36,37,9] []) ?_
   clear hJ a w; intro a w hJ
   obtain ⟨b13,o14,rfl,-,c15⟩:=RS.row hrs (hsr)
   replace hJ:=hJ.fact (c15.sees s6)
   refine rk' hJ false 22 [.ix b13 o14 np cu k,.f 0 0,.b 1 0,.cl 70 #[.slice A n c,.string s] (.tuple #[Vi (i:Int),Vi 0])] [] (.k (.ops [0,1,1,0,0,1,1,0,0,1,0,1,1,1,1] 2) [.seq [1,1,1,0,0,1,1,0,0,1,0,1,1,1,1],.block 1,.seq [1,1,1,0,0,1,0,1,1,1,1]] [1,3,35,36,37,9] [(11,.string s),(48,.slice A1 n c1),(49,Vi (i:Int))]) (ho:=And.intro (by first | omega | (simp; omega)) (And.intro (fun H sH=>hF1 _ ((hf.sees (s6.trans sH))).fields) (trivial))) ?_
   clear hJ a w; intro a w hJ
   obtain ⟨b16,o17,rfl,-,c18⟩:=RS.row hv (hrow)
   replace hJ:=hJ.fact (c18.sees s6)
   refine rk hJ true 11 [.ix b16 o17 n c1 i,.f 0 0,.cl 42 #[.agg #[Vi x.k,Vi x.n,.string x.s]] (.bool false),.fix] [] (.new fun b19=>.g (.ops [0,1,1,1,0,0,1,1,0,0,1,0,1,1,1,1] 3) [.block 1,.seq [1,1,1,0,0,1,0,1,1,1,1]] [1,3,35,36,37] [(54,v),(56,Vs b19 1 1)] [.n (b19,0,[.string s]),.o 0,.o 1,.o 2]) (And.intro (by first | omega | (simp; omega)) (And.intro (fun H sH=>hkn _) (trivial))) trivial (fun b19 _=>by kernel_rfl) ?_
   clear hJ a w; intro b19 h20 a w s21 hJ
   refine rk hJ true 9 [.ap 0 0 (oX (yQ f.fields va (p.fields.take k))) [[.string s]]] [(58,Vi (IntKind.i64.wrap ((k:Int) + 1)),Vi ((k:Int) + 1))] (.nv fun v57=>.f (.out .normal) [] [1,3,35,36] [(9,.slice (sA v57) (sN v57) (sC v57)),(37,Vi ((k:Int) + 1))] [.row (.slice (sA v57) (sN v57) (sC v57)) 9 1 ((oX (yQ f.fields va (p.fields.take k)))++[[.string s]]),.box b1 [.slice A n c,.slice (some ⟨b2,o3,none⟩) m d]] [.o 0,.o 1,.o 2,.o 3]) (And.intro (by constructor <;> (simp; omega)) (trivial)) (And.intro (kJ (by omega) (by omega)) (trivial)) (fun v57 _=>by kernel_rfl) ?_
   clear hJ a w; intro v57 h22 a w s23 hJ
   exact jY ⟨k + 1,⟨h22,.slice (sA v57) (sN v57) (sC v57),(hJ.tof [3] (F':=[(b2,o3 + at_ * 8,[.string p.name,.slice (some ⟨b13,o14,none⟩) np cu,Vi p.skip.op,Vi p.skip.k,Vi p.skip.n,.string p.skip.s,.string p.skip.nm,.slice Bu mu du])]) (by kernel_rfl)).to (by kernel_rfl) (by rw [hsn]; simp [oX]) rfl,(s6.trans (s21.trans s23)),by omega⟩,by omega⟩
 ·skip
  have hta:p.fields.take k=p.fields:=by rw [hke,← hpl,List.take_length]
  rw [hta] at hJ
  have hrl:(oX (yQ f.fields va p.fields)).length=(yQ f.fields va p.fields).length:=List.length_map _
  obtain ⟨Ar,cr,hE_v,hc_v,hm_v⟩:=hJ.form (v:=v) (e:=9) (k:=1) (l:=oX (yQ f.fields va p.fields)) 0 (by kernel_rfl)
  rw [show (oX (yQ f.fields va p.fields)).length=(yQ f.fields va p.fields).length from by first | omega | (simp; done) | (simp; omega)] at hE_v hc_v
  rw [hE_v] at hJ
  refine aY hJ (t:=decide ((k:Int) < (np:Int))) (decide_eq_false (by omega)) ?_
  refine rk' hJ false 2 [] [] (.k (.out (.exit 0)) [] [9] []) ?_
  clear hJ a w; intro a w hJ
  refine dY rfl ?_
  refine rk' hJ false 10 [] [] (.k (.out .ret) [] [] [(6,.slice Ar ((yQ f.fields va p.fields).length) cr),(7,Vi 0)]) ?_
  clear hJ a w; intro a w hJ
  have fr:=hJ.j.rowOut0 (v:=.slice Ar ((yQ f.fields va p.fields).length) cr) (e:=9) (k:=1) (l:=oX (yQ f.fields va p.fields)) 0 (by kernel_rfl) rfl
  refine zX (hQ [.slice Ar ((yQ f.fields va p.fields).length) cr,Vi 0] _ [] hJ (.rtm hJ.j (.rtm hJ.j .nil)) (fJ _) rfl ?_).1
  exact ⟨Ar,cr,rfl,fr⟩
end Go.Proofs.YthckljafinhepaaGreat
