/-
  The iterator of a formula's fields: names.refs, and its closures. A store into a map whose keys are strings. A store into a map inside a range over a function.
-/
import Derived.Test.YtjpgjnldeafpkaaGreatZB27
import Derived.RangeFuncNested
import Derived.RangeFuncBound
import Derived.RangeFuncCalls
import Derived.RangeFuncLeaves
import Derived.RangeFuncBox
import Derived.Shelf.Abstract
import Derived.WalkKit
import Derived.OwnWalkIn
import Derived.TacticsInMore
import Derived.LoopNIn
import Derived.LoopIn
import Derived.Laws.EntriesVeiled
import Derived.Test.YtjpgjnldeafpkaaGreatZB3
import Derived.Maps.OwnIn
import Derived.Maps.Own
import Derived.Maps.Range
import Derived.Sort.KeysCollected
set_option maxRecDepth 100000
namespace Go.Proofs.YtjpgjnldeafpkaaGreat
open Go.RowKit Go.Shelf
attribute [local go_sem] Oper.semAt_some
structure KeepsCells (W W':World):Prop where
 size:W.heap.size≤W'.heap.size
 same:∀ (k:Nat) (o:Obj),W.heap[k]?=some o→o.isCells=true→W'.heap[k]?=some o
theorem KeepsCells.refl (W:World):KeepsCells W W:=⟨Nat.le_refl _,fun _ _ h _=>h⟩
theorem KeepsCells.trans {A B C:World} (h:KeepsCells A B) (k:KeepsCells B C):KeepsCells A C:=⟨Nat.le_trans h.size k.size,fun i o hi ho=>k.same i o (h.same i o hi ho) ho⟩
theorem KeepsCells.grown {W W':World} {row:Option Nat} (hg:W.grownBy W' row) (hr:∀ r,row=some r→∃ o:Obj,W.heap[r]?=some o∧o.isCells=false):KeepsCells W W' :=
 ⟨hg.size,fun k o hk ho=>(hg.block k (Array.getElem?_eq_some_iff.1 hk).1 (fun e=>by
  obtain ⟨o',h1,h2⟩:=hr k e.symm
  rw [hk] at h1
  simp only [Option.some.injEq] at h1
  subst h1
  rw [ho] at h2; cases h2)).trans hk⟩
theorem KeepsCells.alloc (W:World) (o:Obj):KeepsCells W (W.alloc o):=.grown (World.grownBy_alloc W o none) (fun r e=>by cases e)
theorem KeepsCells.boxed {W W':World} (h:KeepsCells W W') {b:Nat} {t:TypeId} {v:Value} (hb:Boxed W b t v):Boxed W' b t v:=h.same b _ hb rfl
theorem KeepsCells.cell {W W':World} (h:KeepsCells W W') {a:Addr} {v:Value} (hc:W.cell? a=some v):W'.cell? a=some v:=by
 unfold World.cell? at hc ⊢
 cases ho:W.heap[a.block]? with
 | none=>rw [ho] at hc; cases hc
 | some o =>
  rw [ho] at hc
  cases o with
  | cells cs t f=>rw [h.same _ _ ho rfl]; exact hc
  | _=>cases hc
structure Kp (n:Nat) (W W':World):Prop where
 below:Below n W W'
 cells:KeepsCells W W'
theorem Kp.refl (n:Nat) (W:World):Kp n W W:=⟨Below.refl _ _,KeepsCells.refl _⟩
theorem Kp.trans {n:Nat} {A B C:World} (h:Kp n A B) (k:Kp n B C):Kp n A C:=⟨h.below.trans k.below,h.cells.trans k.cells⟩
theorem Kp.alloc {n:Nat} {W:World} (hn:n≤W.heap.size) (o:Obj):Kp n W (W.alloc o):=⟨(Below.refl _ _).alloc hn _,KeepsCells.alloc _ _⟩
theorem kp_t {n:Nat} {A B C:World} (h:Kp n A B) (k:Kp n B C):Kp n A C:=h.trans k
theorem kp_b {n:Nat} {w:World} (hn:n≤w.heap.size) (W:World) (l:Nat) (o o':Obj) (hl:w.heap.size≤l) (h:W.heap[l]?=some o) (hc:o.isCells=false) (hw:o.isWalk=false):Kp n W (W.putObj l o') :=
 ⟨belowK_b hn W l o o' hl h hc hw,.grown (grownBy_putObj' W l o') (fun r e=>by cases e; exact ⟨o,h,hc⟩)⟩
theorem sees_below {h:Vw} {W:World} (hb:Below h.w.heap.size h.w W):Sees h ⟨W,h.bad⟩:=⟨hb.size,fun b hlt _=>hb.block b hlt,fun _ hb _=>hb⟩
theorem grown_none {W W':World} (hb:Below W.heap.size W W'):W.grownBy W' none:=⟨hb.os,hb.tape,hb.output,hb.size,fun k hk _=>hb.block k hk⟩
theorem room_of_none {F:Fence} (hd:F.depth=none) (k:Nat):F.room k:=fun d h=>by rw [hd] at h; cases h
theorem RoundIn.anyDepth {F:Fence} (hd:F.depth=none) {m m':Nat} {P:Program} {l:Nat} {f:FuncId} {tmps:Array Value} {assign body:Code} {w:World} {R:Ending→World→Prop}
  (h:RoundIn F m P l f tmps assign body w R):RoundIn F m' P l f tmps assign body w R:=⟨h.1,fun c cs _=>h.2 c cs (room_of_none hd _)⟩
theorem YieldAt.anyDepth {F:Fence} (hd:F.depth=none) {m:Nat} (m':Nat) {P:Program} {l:Nat} {args:Array Value} {W:World} {R:Ending→World→Prop} (h:YieldAt F m P l args W R):YieldAt F m' P l args W R:=by
 obtain ⟨fn,tmps,assign,body,hy,hR⟩:=h
 exact ⟨fn,tmps,assign,body,hy,RoundIn.anyDepth hd hR⟩
theorem xY (k:Nat):Fence.wide.depth.isSome=true→1≤k:=fun h=>by
 have e:Fence.wide.depth=none:=rfl
 rw [e] at h; cases h
def WalkPost (n₀:Nat) (J Jx:List ByteArray→World→Prop) (pre r:List ByteArray) (W:World) (e:Ending) (W':World):Prop :=
 (e=.returned (.bool true)∧J (pre++r) W'∧Kp n₀ W W')∨(e=.returned (.bool false)∧∃ q,q <+: r∧Jx (pre++q) W')
def YieldPost (n₀:Nat) (J Jx:List ByteArray→World→Prop) (pre:List ByteArray) (s:ByteArray) (W:World) (e:Ending) (W':World):Prop :=
 (e=.returned (.bool true)∧J (pre++[s]) W'∧Kp n₀ W W')∨(e=.returned (.bool false)∧Jx (pre++[s]) W')
abbrev walkV (bY bW:Nat):Value:=.func (.func 201) #[] #[.pointer (some ⟨bY,0,none⟩),.pointer (some ⟨bW,0,none⟩)]
set_option maxHeartbeats 2000000 in
theorem walk_ref (l bY bW N B:Nat) (n₀:Nat) (J Jx:List ByteArray→World→Prop) (hJ:AbidesFrom B J)
  (hY:∀ m pre s W,J pre W→pre.length < N→YieldAt Fence.wide m Tryz.prog l #[.string s] W (YieldPost n₀ J Jx pre s W))
  (s:ByteArray) (A:Option Addr) (c n:Nat) (pre:List ByteArray) (W:World) (hn:n₀≤W.heap.size) (bY':Boxed W bY 235 (.func (.yield l) #[] #[])) (hj:J pre W) (hN:pre.length < N) :
  CallsIn Fence.wide n Tryz.prog 201 #[.agg #[.int .i64 2,.int .i64 0,.int .i64 0,.string ⟨#[]⟩,.string s,.slice A 0 c],.pointer (some ⟨bY,0,none⟩),.pointer (some ⟨bW,0,none⟩)] W
   (WalkPost n₀ J Jx pre [s] W):=by
 have hj2:J pre (W.alloc (.cells #[.int .i64 2,.int .i64 0,.int .i64 0,.string ⟨#[]⟩,.string s,.slice A 0 c] 42)):=hJ pre W _ none hj (World.grownBy_alloc W _ none) (fun r e=>by cases e)
 obtain ⟨fn,tmps,assign,body,hy,hR⟩:=hY (n - 1) pre s _ hj2 hN
 have cY:=(bY'.alloc (.cells #[.int .i64 2,.int .i64 0,.int .i64 0,.string ⟨#[]⟩,.string s,.slice A 0 c] 42)).cell
 have bx:=Box.new W #[.int .i64 2,.int .i64 0,.int .i64 0,.string ⟨#[]⟩,.string s,.slice A 0 c] 42
 have hk0:=Kp.alloc hn (.cells #[.int .i64 2,.int .i64 0,.int .i64 0,.string ⟨#[]⟩,.string s,.slice A 0 c] 42)
 have hR2:=hR.mono (R':=fun e W2=>(e=.returned (.bool true)∧J (pre++[s]) W2∧Kp n₀ _ W2∧W2.cell? ⟨W.heap.size,5,none⟩=some (.slice A 0 c))∨(e=.returned (.bool false)∧Jx (pre++[s]) W2))
  (fun e W2 h=>h.elim (fun ⟨a,b,k⟩=>.inl ⟨a,b,k,k.cells.cell (bx.cells 5 _ rfl)⟩) .inr)
 clear hR
 refine callsIn_of_wp Tryz.func201 rfl trivial ?_ rfl
 simp only [Tryz.ntmps201,List.size_toArray,List.length_cons,List.length_nil,Nat.reduceAdd,Nat.reduceSub,Array.replicate_succ,Array.replicate_zero,List.push_toArray,List.append_toArray,List.nil_append,List.cons_append]
 gi_wp2_with ((try refine ⟨xY _,?_⟩); refine hR2.mono ?_; clear hR2; rintro e W2 (⟨rfl,hJ2,hk2,c5⟩ | ⟨rfl,hx2⟩))
 ·gi_loopw [20] (fun i wr=>i=.int .i64 0∧W2=wr) (fun _ _=>0)
  case atStart=>exact ⟨rfl,rfl⟩
  case round =>
   obtain ⟨rfl,rfl⟩:=hrel
   gi_wp2
   go_ret
   exact .inl ⟨rfl,hJ2,hk0.trans hk2⟩
 ·go_ret
  exact .inr ⟨rfl,[s],List.prefix_refl _,hx2⟩
set_option maxHeartbeats 2000000 in
theorem walk_any (l bY bW N B:Nat) (h:Vw) (J Jx:List ByteArray→World→Prop) (hJ:AbidesFrom B J)
  (hY:∀ m pre s W,J pre W→pre.length < N→YieldAt Fence.wide m Tryz.prog l #[.string s] W (YieldPost h.w.heap.size J Jx pre s W)) (x:Ex) :
  ∀ (v:Value) (n:Nat) (pre:List ByteArray) (W:World),IsArgs h x v→WfE x→Below h.w.heap.size h.w W→Boxed W bY 235 (.func (.yield l) #[] #[])→Boxed W bW 255 (walkV bY bW)→J pre W→pre.length + (lX x).length≤N → 
  CallsIn Fence.wide n Tryz.prog 201 #[.agg #[.int .i64 x.op,.int .i64 x.k,.int .i64 x.n,.string x.s,.string x.nm,v],.pointer (some ⟨bY,0,none⟩),.pointer (some ⟨bW,0,none⟩)] W (WalkPost h.w.heap.size J Jx pre (lX x) W):=by
 refine ex_ind (p:=fun x=>∀ (v:Value) (n:Nat) (pre:List ByteArray) (W:World),IsArgs h x v→WfE x→Below h.w.heap.size h.w W→Boxed W bY 235 (.func (.yield l) #[] #[])→Boxed W bW 255 (walkV bY bW)→J pre W→pre.length + (lX x).length≤N → 
  CallsIn Fence.wide n Tryz.prog 201 #[.agg #[.int .i64 x.op,.int .i64 x.k,.int .i64 x.n,.string x.s,.string x.nm,v],.pointer (some ⟨bY,0,none⟩),.pointer (some ⟨bW,0,none⟩)] W (WalkPost h.w.heap.size J Jx pre (lX x) W)) (fun x ih v n pre W hx hw hb hbY hbW hj hN=>?_) x
 by_cases h2:x.op=2
 ·obtain ⟨e,-⟩:=ref_shape hw h2
  obtain ⟨A,n',c,rfl⟩:=hx.slice
  have hn0:n'=0:=by
   obtain ⟨vs,hr,hvs⟩:=hx.form
   obtain ⟨A',c',e',-⟩:=hr.form
   rw [sK hvs.len,ref_args hw h2] at e'
   simp at e'
   exact e'.2.1
  subst hn0
  rw [e]
  rw [e,refs_ref] at hN ⊢
  exact walk_ref l bY bW N B h.w.heap.size J Jx hJ hY x.nm A c n pre W hb.size hbY hj (by simp at hN; omega)
 ·rw [refsE_eq,if_neg h2,List.nil_append] at hN ⊢
  obtain ⟨vs,hr,hvs⟩:=hx.form
  obtain ⟨A,ca,rfl,hc1,hc2,-⟩:=hr.form
  have hvl:=hvs.len
  have hrl:=sK hvl
  rw [hrl] at hc1 hr ⊢
  have HR:=Lib.hid hr
  have HV:=Lib.hid hvs
  have HIH:=Lib.hid ih
  have HWL:=Lib.hid hw.list
  have HB:=Lib.hid hb
  have hop:(x.op == 2)=false:=beq_eq_false_iff_ne.2 h2
  have hj2:J pre (W.alloc (.cells #[.int .i64 x.op,.int .i64 x.k,.int .i64 x.n,.string x.s,.string x.nm,.slice A x.args.length ca] 42)):=hJ pre W _ none hj (World.grownBy_alloc W _ none) (fun r e=>by cases e)
  have hk0:=Kp.alloc hb.size (.cells #[.int .i64 x.op,.int .i64 x.k,.int .i64 x.n,.string x.s,.string x.nm,.slice A x.args.length ca] 42)
  clear hx hr hvs hw hb hrl hvl
  generalize hL:x.args.length=len at *
  unfold maxLen at hc2
  refine callsIn_of_wp Tryz.func201 rfl trivial ?_ rfl
  simp only [Tryz.ntmps201,List.size_toArray,List.length_cons,List.length_nil,Nat.reduceAdd,Nat.reduceSub,Array.replicate_succ,Array.replicate_zero,List.push_toArray,List.append_toArray,List.nil_append,List.cons_append]
  gi_wp2
  refine ⟨fun _ h=>(by cases h),?_⟩
  gi_wp2
  gi_loopw [20] (fun i wr=>∃ k:Nat,k≤len∧i=.int .i64 k∧J (pre++mX (x.args.take k)) wr∧Kp h.w.heap.size W wr) (fun i _=>len - (intOf i).toNat)
  case atStart=>exact ⟨0,Nat.zero_le _,rfl,by simpa [mX] using hj2,hk0⟩
  case round =>
   obtain ⟨k,hk,rfl,hjk,hkk⟩:=hrel
   by_cases hlt:k < len
   ·obtain ⟨y,hy⟩:∃ y,x.args[k]?=some y:=⟨_,List.getElem?_eq_getElem (by omega)⟩
    obtain ⟨u,hu⟩:∃ u,vs[k]?=some u:=⟨_,List.getElem?_eq_getElem (by have:=HV.out.len; omega)⟩
    have hyu:=AllArgs.get HV.out hy hu
    obtain ⟨Au,nu,cu,rfl⟩:=hyu.slice
    have hrow:(rK x.args vs)[k]?=some (exRow y (.slice Au nu cu)):=by show (List.zipWith exRow _ _)[k]?=_; rw [List.getElem?_zipWith,hy,hu]
    obtain ⟨b,off,rfl,-,hc⟩:=HR.out.row hrow
    have hbr:=HB.out.trans hkk.below
    have hc:=hc.sees (sees_below hbr)
    have c0:wr.cell? ⟨b,off + k * 6,none⟩=_:=hc.lies 0 _ rfl
    have c1:wr.cell? ⟨b,off + k * 6 + 1,none⟩=_:=hc.lies 1 _ rfl
    have c2:wr.cell? ⟨b,off + k * 6 + 2,none⟩=_:=hc.lies 2 _ rfl
    have c3:wr.cell? ⟨b,off + k * 6 + 3,none⟩=_:=hc.lies 3 _ rfl
    have c4:wr.cell? ⟨b,off + k * 6 + 4,none⟩=_:=hc.lies 4 _ rfl
    have c5:wr.cell? ⟨b,off + k * 6 + 5,none⟩=_:=hc.lies 5 _ rfl
    clear hc hrow hu
    have hym:=List.mem_of_getElem? hy
    have hsn:mX (x.args.take (k + 1))=mX (x.args.take k)++lX y:=by rw [rY _ k y hy,refsL_app]; simp [mX]
    have hle:(mX (x.args.take (k + 1))).length≤(mX x.args).length:=by
     have:=congrArg (fun l=>(mX l).length) (List.take_append_drop (k + 1) x.args)
     simp only [refsL_app,List.length_append] at this
     omega
    rw [hsn,List.length_append] at hle
    have hal:Kp h.w.heap.size wr (wr.alloc (.cells #[.int .i64 y.op,.int .i64 y.k,.int .i64 y.n,.string y.s,.string y.nm,.slice Au nu cu] 42)):=Kp.alloc hbr.size _
    have bY2:=(hkk.cells.boxed hbY).alloc (.cells #[.int .i64 y.op,.int .i64 y.k,.int .i64 y.n,.string y.s,.string y.nm,.slice Au nu cu] 42)
    have bW2:=(hkk.cells.boxed hbW).alloc (.cells #[.int .i64 y.op,.int .i64 y.k,.int .i64 y.n,.string y.s,.string y.nm,.slice Au nu cu] 42)
    have cW:=bW2.cell
    have hcall:=HIH.out y hym (.slice Au nu cu) (n - 1) (pre++mX (x.args.take k)) (wr.alloc (.cells #[.int .i64 y.op,.int .i64 y.k,.int .i64 y.n,.string y.s,.string y.nm,.slice Au nu cu] 42)) hyu (HWL.out.get hym) (hbr.trans hal.below) bY2 bW2
     (hJ _ wr _ none hjk (World.grownBy_alloc wr _ none) (fun r e=>by cases e)) (by rw [List.length_append]; omega)
    have HS:=Lib.hid hsn
    clear hsn bY2 bW2
    gi_wp2_with ((try refine ⟨trivial,?_⟩); (try refine ⟨xY _,?_⟩); gi_at_call 201; refine hcall.mono ?_; clear hcall; rintro e W2 (⟨rfl,hJ2,hk2⟩ | ⟨rfl,q,hq,hx2⟩))
    ·go_roundw
     case rel=>exact ⟨k + 1,by omega,by go_num,by rw [HS.out,← List.append_assoc]; exact hJ2,(hkk.trans hal).trans hk2⟩
     case measure=>simp [intOf]; omega
    ·go_ret
     refine .inr ⟨rfl,mX (x.args.take k)++q,?_,by rw [← List.append_assoc]; exact hx2⟩
     have hp:mX (x.args.take (k + 1)) <+: mX x.args:=by
      conv=>rhs; rw [← List.take_append_drop (k + 1) x.args,refsL_app]
      exact List.prefix_append _ _
     rw [HS.out] at hp
     exact ((List.prefix_append_right_inj _).2 hq).trans hp
   ·obtain rfl:k=len:=by omega
    have hta:x.args.take k=x.args:=by rw [← hL,List.take_length]
    rw [hta] at hjk
    clear hta
    gi_wp2
    go_ret
    exact .inl ⟨rfl,hjk,hkk⟩
theorem refs_in (x:Ex) (v:Value) (n:Nat) (W:World) :
  CallsIn Fence.wide n Tryz.prog 194 #[.agg #[.int .i64 x.op,.int .i64 x.k,.int .i64 x.n,.string x.s,.string x.nm,v]] W fun e W'=>e=.returned (.func (.func 200) #[] #[.pointer (some ⟨W.heap.size,0,none⟩)])∧W'=W.alloc (.cells #[.int .i64 x.op,.int .i64 x.k,.int .i64 x.n,.string x.s,.string x.nm,v] 42):=by
 refine callsIn_of_wp Tryz.func194 rfl trivial ?_ rfl
 simp only [Tryz.ntmps194,List.size_toArray,List.length_cons,List.length_nil,Nat.reduceAdd,Nat.reduceSub,Array.replicate_succ,Array.replicate_zero,List.push_toArray,List.append_toArray,List.nil_append,List.cons_append]
 gi_wp2
 go_ret
 exact ⟨rfl,rfl⟩
set_option maxHeartbeats 2000000 in
theorem refs_stops (x:Ex) (v:Value) (h:Vw) (hx:IsArgs h x v) (hw:WfE x) (n bX:Nat) (w:World) (hb:Below h.w.heap.size h.w w) (hX:w.heap[bX]?=some (.cells #[.int .i64 x.op,.int .i64 x.k,.int .i64 x.n,.string x.s,.string x.nm,v] 42 (0,0))) :
  SeqStopsK Fence.wide n Tryz.prog 200 #[.pointer (some ⟨bX,0,none⟩)] (fun s:ByteArray=>#[Value.string s]) (Kp h.w.heap.size) (fun ys=>ys=lX x) (fun pre=>pre <+: lX x) (lX x).length w:=fun l J Jx W hW hJ hJx hY h0=>by
 have hbW:Below h.w.heap.size h.w W:=hb.trans (hW.mono hb.size)
 have hX':W.heap[bX]?=some (.cells #[.int .i64 x.op,.int .i64 x.k,.int .i64 x.n,.string x.s,.string x.nm,v] 42 (0,0)):=(hW.block bX (Array.getElem?_eq_some_iff.1 hX).1).trans hX
 have hxl:=(Array.getElem?_eq_some_iff.1 hX').1
 obtain ⟨A,n',c,rfl⟩:=hx.slice
 obtain ⟨W1,hW1⟩:∃ W1,W1=W.alloc (.cells #[.func (.yield l) #[] #[]] 235):=⟨_,rfl⟩
 have bY1:Boxed W1 W.heap.size 235 (.func (.yield l) #[] #[]):=by rw [hW1]; exact Boxed.new _ _ _
 have z1:W1.heap.size=W.heap.size + 1:=by rw [hW1]; simp
 have b1:Below W.heap.size W W1:=by rw [hW1]; exact (Below.refl _ _).alloc (Nat.le_refl _) _
 obtain ⟨W3,hW3⟩:∃ W3,W3=W1.alloc (.cells #[walkV W.heap.size (W.heap.size + 1)] 255):=⟨_,rfl⟩
 have bW3:Boxed W3 (W.heap.size + 1) 255 (walkV W.heap.size (W.heap.size + 1)):=by rw [hW3,← z1]; exact Boxed.new _ _ _
 have bY3:Boxed W3 W.heap.size 235 (.func (.yield l) #[] #[]):=by rw [hW3]; exact bY1.alloc _
 have b3:Below W.heap.size W W3:=by rw [hW3]; exact b1.alloc (by omega) _
 have c0:W.cell? ⟨bX,0,none⟩=some (.int .i64 x.op):=by simp [World.cell?,hX']
 have c1:W.cell? ⟨bX,1,none⟩=some (.int .i64 x.k):=by simp [World.cell?,hX']
 have c2:W.cell? ⟨bX,2,none⟩=some (.int .i64 x.n):=by simp [World.cell?,hX']
 have c3:W.cell? ⟨bX,3,none⟩=some (.string x.s):=by simp [World.cell?,hX']
 have c4:W.cell? ⟨bX,4,none⟩=some (.string x.nm):=by simp [World.cell?,hX']
 have c5:W.cell? ⟨bX,5,none⟩=some (.slice A n' c):=by simp [World.cell?,hX']
 have hcall:=walk_any l W.heap.size (W.heap.size + 1) (lX x).length W.heap.size h J Jx hJ
  (fun m pre s W hj hl=>YieldAt.mono (YieldAt.anyDepth (show Fence.wide.depth=none from rfl) m (hY pre s W hj hl)) (fun e W' q=>q)) x (.slice A n' c) (n - 1) [] W3 hx hw (hbW.trans (b3.mono hbW.size)) bY3 bW3 (hJ [] W W3 none h0 (grown_none b3) (fun r e=>by cases e)) (by simp)
 clear hx hw hbW hb hX hX' bY1 bY3 bW3 b1 b3 hY hJ hJx hW
 rw [hW3] at hcall
 clear hW3
 rw [hW1] at hcall
 clear hW1 z1 W1 W3
 refine callsIn_of_wp Tryz.func200 rfl trivial ?_ rfl
 simp only [Tryz.ntmps200,List.size_toArray,List.length_cons,List.length_nil,Nat.reduceAdd,Nat.reduceSub,Array.replicate_succ,Array.replicate_zero,List.push_toArray,List.append_toArray,List.nil_append,List.cons_append]
 gi_wp2_with ((try refine ⟨trivial,?_⟩); (try refine ⟨xY _,?_⟩); gi_at_call 201; refine hcall.mono ?_; clear hcall; rintro e W4 (⟨rfl,hJ4,-⟩ | ⟨rfl,q,hq,hx4⟩))
 ·go_end0
  exact ⟨⟨_,rfl⟩,.inl ⟨_,rfl,hJ4⟩⟩
 ·go_end0
  exact ⟨⟨_,rfl⟩,.inr ⟨q,hq,hx4⟩⟩
end Go.Proofs.YtjpgjnldeafpkaaGreat
namespace Go.Proofs.YtjpgjnldeafpkaaGreat
open Go.RowKit
def sidx (s:ByteArray):List (ByteArray × Value)→Option Nat
 | []=>none
 | (k,_) :: l=>if s == k then some 0 else (sidx s l).map (· + 1)
theorem sidx_none {s:ByteArray}:∀ {l:List (ByteArray × Value)},sidx s l=none→sget s l=none
 | [],_=>rfl
 | (k,v) :: l,h=>by
  unfold sidx at h
  unfold sget
  split at h
  ·cases h
  ·rename_i g
   rw [if_neg g]
   exact sidx_none (by simpa using h)
theorem sidx_some {s:ByteArray}:∀ {l:List (ByteArray × Value)} {j:Nat},sidx s l=some j→∃ u,l[j]?=some (s,u)∧(∀ i z,Instr.findNow .string (.string s) (((kY l).zipIdx z).map fun p=>⟨p.1.1,p.1.2,p.2⟩) i=some (some (i + j,u))) ∧
  ∀ v t,sget t (l.set j (s,v))=if t=s then some v else sget t l
 | [],j,h=>by cases h
 | (k,u) :: l,j,h=>by
  unfold sidx at h
  split at h
  ·rename_i g
   simp only [Option.some.injEq] at h
   subst h
   obtain rfl:=(Go.MapKept.bytes_beq s k).1 g
   refine ⟨u,rfl,fun i z=>?_,fun v t=>?_⟩
   ·simp only [kY,List.map_cons,List.zipIdx_cons]
    unfold Instr.findNow
    have hsn:Instr.sameNow .string (.string s) (.string s)=some (s == s):=rfl
    simp only [hsn,g,Nat.add_zero]
   ·rw [List.set_cons_zero]
    unfold sget
    by_cases e:t=s
    ·rw [if_pos e,if_pos (by rw [e]; exact g)]
    ·rw [if_neg e,if_neg (fun q=>e ((Go.MapKept.bytes_beq t s).1 q)),if_neg (fun q=>e ((Go.MapKept.bytes_beq t s).1 q))]
  ·rename_i g
   obtain ⟨j',hj,rfl⟩:=Option.map_eq_some_iff.1 h
   obtain ⟨u',h1,h2,h3⟩:=sidx_some hj
   refine ⟨u',by simpa using h1,fun i z=>?_,fun v t=>?_⟩
   ·simp only [kY,List.map_cons,List.zipIdx_cons]
    unfold Instr.findNow
    have hsn:Instr.sameNow .string (.string s) (.string k)=some (s == k):=rfl
    simp only [hsn,g]
    rw [show i + (j' + 1)=i + 1 + j' by omega]
    exact h2 (i + 1) (z + 1)
   ·rw [List.set_cons_succ]
    unfold sget
    rw [h3 v t]
    by_cases e:t=s
    ·subst e; rw [if_neg g,if_pos rfl,if_pos rfl]
    ·rw [if_neg e,if_neg e]
theorem sget_snoc {s t:ByteArray} {v:Value}:∀ {l:List (ByteArray × Value)},sget s l=none→sget t (l++[(s,v)])=if t=s then some v else sget t l
 | [],_=>by
  show (if t == s then some v else none)=_
  by_cases e:t=s
  ·rw [if_pos e,if_pos ((Go.MapKept.bytes_beq t s).2 e)]
  ·rw [if_neg e,if_neg (fun q=>e ((Go.MapKept.bytes_beq t s).1 q))]; rfl
 | (k,u) :: l,h=>by
  unfold sget at h
  split at h
  ·cases h
  ·rename_i g
   rw [List.cons_append]
   unfold sget
   rw [sget_snoc h]
   by_cases e:t=s
   ·subst e; rw [if_neg g,if_pos rfl,if_pos rfl]
   ·rw [if_neg e,if_neg e]
theorem sget_out {s:ByteArray}:∀ {l:List (ByteArray × Value)},sget s l=none→∀ q∈l,q.1≠s
 | (k,v) :: l,h,q,hq,e=>by
  unfold sget at h
  split at h
  ·cases h
  ·rename_i g
   rcases List.mem_cons.1 hq with rfl | hq
   ·exact g ((Go.MapKept.bytes_beq s k).2 e.symm)
   ·exact sget_out h q hq e
theorem ments_get (es:List (Value × Value)) (i:Nat):(ments es)[i]?=(es[i]?).map fun p=>⟨p.1,p.2,i⟩:=by
 unfold ments
 rw [List.getElem?_map,List.getElem?_zipIdx]
 cases es[i]? <;> simp
theorem run_update_str {P:Program} {w:World} {b:Nat} {l:List (ByteArray × Value)} {t kt et:TypeId} {s:ByteArray} {v:Value} (hb:w.heap[b]?=some (uV (kY l))) (ht:P.underlying t=some (.map kt et)) (htd:P.underlying kt=some .string) :
  ∃ l',(Instr.mapUpdate t (.map (some b)) (.string s) v).run P w=.ok () { w with heap:=w.heap.setIfInBounds b (uV (kY l')) }∧(∀ t,sget t l'=if t=s then some v else sget t l)∧((l.map (·.1)).Nodup→(l'.map (·.1)).Nodup)∧∀ p∈l',p∈l∨p=(s,v):=by
 cases hs:sidx s l with
 | none =>
  have hn:=sidx_none hs
  refine ⟨l++[(s,v)],?_,fun t=>sget_snoc hn,fun hd=>?_,fun p hp=>(List.mem_append.1 hp).imp id List.mem_singleton.1⟩
  rotate_left
  ·rw [List.map_append,List.nodup_append]
   refine ⟨hd,by simp,fun x hx y hy e=>?_⟩
   simp only [List.map_cons,List.map_nil,List.mem_singleton] at hy
   subst hy e
   obtain ⟨q,hq,e2⟩:=List.mem_map.1 hx
   exact sget_out hn q hq e2
  have:=run_update_at (P:=P) (v:=v) hb ht htd (k:=.string s) rfl (mfind_none hn)
  rw [this,show kY (l++[(s,v)])=kY l++[(.string s,v)] by simp [kY]]
 | some j =>
  obtain ⟨u,h1,h2,h3⟩:=sidx_some hs
  refine ⟨l.set j (s,v),?_,h3 v,fun hd=>?_,fun p hp=>List.mem_or_eq_of_mem_set hp⟩
  rotate_left
  ·have:(l.set j (s,v)).map (·.1)=l.map (·.1):=by
    refine List.ext_getElem? fun i=>?_
    rw [List.getElem?_map,List.getElem?_map,List.getElem?_set]
    have hlt:=(List.getElem?_eq_some_iff.1 h1).1
    by_cases e:j=i
    ·subst e; rw [if_pos rfl,if_pos hlt,h1]; rfl
    ·rw [if_neg e]
   rw [this]; exact hd
  have hf:Instr.findNow .string (.string s) (ments (kY l)).toArray.toList 0=some (some (j,u)):=by
   have:=h2 0 0
   rw [Nat.zero_add] at this
   exact this
  have hj:(ments (kY l)).toArray[j]?=some ⟨.string s,u,j⟩:=by
   rw [List.getElem?_toArray,ments_get,kY,List.getElem?_map,h1]; rfl
  have hk:Go.MapKept.IsKey .string (.string s):=isKey_of rfl
  have hm:(ments (kY l)).toArray.modify j (fun e=>{ e with key:=.string s,val:=v })=(ments (kY (l.set j (s,v)))).toArray:=by
   apply Array.ext'
   rw [Array.toList_modify]
   refine List.ext_getElem? fun i=>?_
   show _=(ments (kY (l.set j (s,v))))[i]?
   rw [List.getElem?_modify,ments_get,ments_get,List.getElem?_map,List.getElem?_map,List.getElem?_set]
   have hlt:=(List.getElem?_eq_some_iff.1 h1).1
   by_cases e:j=i
   ·subst e; simp [hlt]
   ·simp [e]
  unfold uV at hb ⊢
  unfold Instr.mapUpdate
  simp only [Sem.run_bind,run_underlying ht,Result.andThen,Go.MapKept.run_getObj_map hb,Go.MapKept.run_checkKey htd hk,Go.MapKept.run_findKey htd hf]
  simp only [hj,Option.map_some,Option.getD_some,Go.MapKept.run_keyThatStays hk,Go.MapKept.run_setObj_map _ hb]
  rw [hm]
  simp [kY]
end Go.Proofs.YtjpgjnldeafpkaaGreat
namespace Go.Proofs.YtjpgjnldeafpkaaGreat
open Go.RowKit Go.Shelf
attribute [local go_sem] Oper.semAt_some
section
variable {F:Fence} {n:Nat} {P:Program} {w w':World} {ops:Array Oper} {rest:List Oper} {o:Oper} {a:Act} {Q:Exit→Act→World→Prop}
theorem wpListIn_mapUpdate_at (hg:o.guard=none) (m x v:Operand) (t:TypeId) (hop:o.op=Op.mapUpdate t m x v) {b key val:Value} (hm:a.eval m=b) (hx:a.eval x=key) (hv:a.eval v=val) (hr:(Instr.mapUpdate t b key val).run P w=.ok () w')
  (hK:wpListIn F n P ops Q rest (a.put o.dst undef) w'):wpListIn F n P ops Q (o :: rest) a w:=by
 refine wpListIn_plain hg fun K' hK'=>?_
 unfold Oper.wpIn
 refine ⟨by simp [Oper.about,hop],?_⟩
 rw [Oper.semAt_plain F _ _ (by rw [hop]; intro c hc'; cases hc')]
 simp [execOp,hop,hm,hx,hv,hr,Result.andThen]
 exact hK' _ _ hK
end
theorem cells_own {A:World} {b:Nat} {o:Obj} (hb:A.heap[b]?=some o) (hc:o.isCells=true) {row:Option Nat} (hr:∀ r,row=some r→∃ o:Obj,A.heap[r]?=some o∧o.isCells=false):some b≠row:=fun e=>by
 obtain ⟨o',h1,h2⟩:=hr _ e.symm
 rw [hb] at h1
 cases h1; rw [hc] at h2; cases h2
theorem grown_set {W:World} {M:Nat} {o:Obj} (o':Obj) (hm:W.heap[M]?=some o):W.grownBy { W with heap:=W.heap.setIfInBounds M o' } (some M) :=
 ⟨rfl,rfl,rfl,by simp,fun k _ ne=>(Go.MapKept.heap_set hm).2 k (fun e=>ne (by rw [e]))⟩
end Go.Proofs.YtjpgjnldeafpkaaGreat
namespace Go.Proofs.YtjpgjnldeafpkaaGreat
open Go.RowKit Go.Maps Go.WideElems Go.WideShapes
theorem map_owned {P:Program} {w:World} {b:Nat} {k e:TypeId} {l:List (ByteArray × Value)} (hb:w.heap[b]?=some (uV (kY l))) (hn:(l.map (·.1)).Nodup) (hs:∀ p∈l,p.1.size≤maxLen) (hv:∀ p∈l,p.2=.bool true) (hl:l.length≤maxLen)
  (hk:P.underlying k=some .string) (he:P.underlying e=some .bool):∃ D0:DataW Unit,w.ownsMap P k (plainElem P e) b l.length D0∧(strKeys D0).Perm (l.map fun p=>p.1.data.toList)∧Maps.size D0=l.length:=by
 have hes:(ments (kY l)).toArray.toList=ments (kY l):=rfl
 have hrd:∀ x∈ments (kY l),∃ p∈l,rd P k (plainElem (H:=Unit) P e) x=some (.string p.1.data.toList,.lit (.bool true)):=fun x hx=>by
  obtain ⟨i,hi⟩:=List.getElem?_of_mem hx
  rw [ments_get,kY,List.getElem?_map] at hi
  cases hp:l[i]? with
  | none=>rw [hp] at hi; cases hi
  | some p =>
   rw [hp] at hi
   simp only [Option.map_some,Option.some.injEq] at hi
   subst hi
   have hm:=List.mem_of_getElem? hp
   refine ⟨p,hm,?_⟩
   have h1:=hs p hm
   have h2:=hv p hm
   simp [rd,keyOf,mapKey,hk,h1,plainElem,he,h2]
 have hmap:(ments (kY l)).map (rg P k (plainElem (H:=Unit) P e))=l.map fun p=>(Lit.string p.1.data.toList,DataW.lit (.bool true)):=by
  refine List.ext_getElem? fun i=>?_
  rw [List.getElem?_map,ments_get,kY,List.getElem?_map,List.getElem?_map]
  cases hp:l[i]? with
  | none=>rfl
  | some p =>
   have hm:=List.mem_of_getElem? hp
   have h1:=hs p hm
   have h2:=hv p hm
   simp [rg,rd,keyOf,mapKey,hk,h1,plainElem,he,h2]
 have hlen:(ments (kY l)).length=l.length:=by simp [ments,kY]
 refine ⟨_,⟨(ments (kY l)).toArray,l.length,?_,⟨by simpa [hlen] using hl,?_,fun x hx=>?_⟩,by simp [hlen],rfl⟩,?_,?_⟩
 ·rw [hb,uV]; simp [kY]
 ·rw [Go.MapKept.stamped_iff,hes]
  have hborn:(ments (kY l)).map (·.born)=List.range l.length:=by
   refine List.ext_getElem? fun i=>?_
   rw [List.getElem?_map,ments_get,kY,List.getElem?_map]
   rcases Nat.lt_or_ge i l.length with g | g
   ·rw [List.getElem?_eq_getElem g,List.getElem?_range g]; rfl
   ·rw [List.getElem?_eq_none g,List.getElem?_eq_none (by simpa using g)]; rfl
  have hkeys:(ments (kY l)).map (·.key)=l.map fun p=>Value.string p.1:=by
   refine List.ext_getElem? fun i=>?_
   rw [List.getElem?_map,ments_get,kY,List.getElem?_map,List.getElem?_map]
   cases l[i]? <;> rfl
  refine ⟨fun x hx=>?_,by rw [hborn]; exact List.nodup_range,?_⟩
  ·have:x.born∈(ments (kY l)).map (·.born):=List.mem_map.2 ⟨x,hx,rfl⟩
   rw [hborn] at this
   exact List.mem_range.1 this
  ·have:((ments (kY l)).map (·.key)).Nodup:=by
    rw [hkeys]
    have h2:(l.map fun p=>Value.string p.1)=(l.map (·.1)).map Value.string:=by rw [List.map_map]; rfl
    rw [h2]
    exact List.pairwise_map.2 (hn.imp fun hne e=>hne (by injection e))
   exact List.pairwise_map.1 this
 ·obtain ⟨p,-,h⟩:=hrd x hx; exact ⟨_,h⟩
 ·rw [hes,hmap]
  show (List.map (fun (p:Lit × DataW Unit)=>strOf p.1) _).Perm _
  refine ((sorted_perm _).map _).trans ?_
  rw [List.map_map]
  exact List.Perm.refl _
 ·rw [hes,hmap]
  show (List.foldr DataW.insert [] _).length=_
  rw [(sorted_perm _).length_eq,List.length_map]
end Go.Proofs.YtjpgjnldeafpkaaGreat
