/-
  Names of formulas, a formula in the place of a field, in plain words.
-/
import Derived.Test.YthckljafinhepaaGreatZB18
import Derived.Test.YthckljafinhepaaGreatZB21
import Derived.Test.YthckljafinhepaaGreatZB4
import Derived.Test.YthckljafinhepaaGreatZB24
import Derived.RangeFuncNested
import Derived.RangeFuncBound
import Derived.RangeFuncCalls
import Derived.RangeFuncLeaves
import Derived.RangeFuncBox
import Derived.Shelf.Abstract
import Derived.WalkKit
import Derived.OwnWalkIn
import Derived.TacticsInMore
import Derived.LoopNIn
import Derived.LoopIn
import Derived.Laws.EntriesVeiled
import Derived.Test.YthckljafinhepaaGreatZB3
import Derived.Maps.OwnIn
import Derived.Maps.Own
import Derived.Maps.Range
import Derived.Sort.KeysCollected
namespace Go.Proofs.YthckljafinhepaaGreat
open Go.RowKit

/-- What holds of a formula if it holds of its arguments holds of all. -/
theorem ex_ind {p:Ex→Prop} (h:∀ x:Ex,(∀ y∈x.args,p y)→p x) (x:Ex):p x:=by
 have key:∀ (m:Nat) (x:Ex),(szE x).1≤m→p x:=by
  intro m
  induction m with
  | zero=>intro x hx; have:=szE_pos x; omega
  | succ m ih =>
   intro x hx
   refine h x fun y hy=>ih y ?_
   have h1:=szE_eq x
   have h2:=(szL_mem hy).1
   rw [h1] at hx
   simp only at hx
   omega
 exact key _ x (Nat.le_refl _)
mutual
/-- The fields that a formula asks for, from the left. -/
def refsE:Ex→List ByteArray
 | .mk op _ _ _ nm args=>(if op=2 then [nm] else [])++refsL args
def refsL:List Ex→List ByteArray
 | []=>[]
 | x :: l=>refsE x++refsL l
end
theorem refsE_eq (x:Ex):refsE x=(if x.op=2 then [x.nm] else [])++refsL x.args:=by
 obtain ⟨a,b,c,d,e,l⟩:=x
 rw [refsE]; rfl
theorem refsL_app (l m:List Ex):refsL (l++m)=refsL l++refsL m:=by
 induction l with
 | nil=>simp [refsL]
 | cons x l ih=>rw [List.cons_append,refsL,refsL,ih,List.append_assoc]
theorem mem_refsL {s:ByteArray}:∀ {l:List Ex},s∈refsL l↔∃ x∈l,s∈refsE x
 | []=>by simp [refsL]
 | x :: l=>by rw [refsL,List.mem_append,mem_refsL (l:=l)]; simp
theorem refs_op (op:Int) (l:List Ex) (h:op≠2):refsE (opE op l)=refsL l:=by
 rw [refsE_eq,if_neg (show ¬ (opE op l).op=2 from h)]; rfl
theorem refs_ref (s:ByteArray):refsE (refE s)=[s]:=by
 rw [refsE_eq,if_pos (show (refE s).op=2 from rfl)]; rfl

mutual
/-- y in the place of the field n. -/
def putE (n:ByteArray) (y:Ex):Ex→Ex
 | .mk op k m s nm args=>if op=2∧nm=n then y else .mk op k m s nm (putL n y args)
def putL (n:ByteArray) (y:Ex):List Ex→List Ex
 | []=>[]
 | x :: l=>putE n y x :: putL n y l
end
/-- A field that may be has no arguments, and nothing else. -/
theorem ref_shape {x:Ex} (h:WfE x) (h2:x.op=2):x=refE x.nm∧NameOk x.nm.data.toList:=by
 rcases h.top with ⟨h1,-⟩ | ⟨h1,hn,hk,hm,hs,ha⟩ | ⟨h1,-⟩
 ·omega
 ·obtain ⟨a,b,c,d,e,l⟩:=x
  simp only [Ex.op,Ex.k,Ex.n,Ex.s,Ex.args] at h1 hk hm hs ha
  have ha:l=[]:=List.length_eq_zero_iff.1 ha
  subst h1 hk hm hs ha
  exact ⟨rfl,hn⟩
 ·omega
theorem ref_args {x:Ex} (h:WfE x) (h2:x.op=2):x.args=[]:=by rw [(ref_shape h h2).1]; rfl

end Go.Proofs.YthckljafinhepaaGreat

namespace Go.Proofs.YthckljafinhepaaGreat
open Go.RowKit

/-! ### Values -/
theorem env_hit (env:Env) (n:ByteArray) (v:Vl):Env.get ((n,v) :: env) n=some v:=by
 unfold Env.get
 rw [if_pos ((Go.MapKept.bytes_beq n n).2 rfl)]
theorem env_miss (env:Env) {n s:ByteArray} (v:Vl) (h:s≠n):Env.get ((n,v) :: env) s=env.get s:=by
 conv=>lhs; unfold Env.get
 rw [if_neg]
 intro hb
 exact h ((Go.MapKept.bytes_beq s n).1 hb)
/-- What a formula is by what its field is, and its arguments are. -/
def evalOp (g:Option Vl) (op k n:Int) (s:ByteArray) (vs:List Vl):Vl :=
 if op=1 then ⟨k,n,s⟩
 else if op=2 then (match g with | some v=>v | none=>faultV 5)
 else if op=15∨op=16 then
  (if (firstV (hdV vs 0)).2=false∨((firstV (hdV vs 0)).1.n == 1)=(op == 16) then (firstV (hdV vs 0)).1 else boolV (hdV vs 1))
 else if op=17 then
  (if (firstV (hdV vs 0)).2=false then (firstV (hdV vs 0)).1 else if (firstV (hdV vs 0)).1.n=1 then hdV vs 1 else hdV vs 2)
 else (match lackV none vs with | some v=>v | none=>applyV op vs)
theorem evalE_op (env:Env) (x:Ex):evalE env x=evalOp (env.get x.nm) x.op x.k x.n x.s (evalL env x.args):=by
 obtain ⟨a,b,c,d,e,l⟩:=x
 rw [evalE]; rfl
theorem evalOp_get {g g':Option Vl} {op k n:Int} {s:ByteArray} {vs:List Vl} (h:op≠2):evalOp g op k n s vs=evalOp g' op k n s vs:=by
 unfold evalOp
 rw [if_neg h,if_neg h]
/-- A formula that only asks for what is the same in two lists of facts is the same by both. -/
theorem eval_local {e1 e2:Env} {x:Ex} (h:∀ s∈refsE x,e1.get s=e2.get s):evalE e1 x=evalE e2 x:=by
 revert h
 refine ex_ind (p:=fun x=>(∀ s∈refsE x,e1.get s=e2.get s)→evalE e1 x=evalE e2 x) (fun x ih h=>?_) x
 rw [refsE_eq] at h
 have hl:evalL e1 x.args=evalL e2 x.args:=by
  rw [evalL_map,evalL_map]
  exact List.map_congr_left fun y hy=>ih y hy fun s hs=>h s (List.mem_append_right _ (mem_refsL.2 ⟨y,hy,hs⟩))
 rw [evalE_op,evalE_op,hl]
 by_cases h2:x.op=2
 ·rw [h x.nm (by rw [if_pos h2]; simp)]
 ·exact evalOp_get h2
/-! ### What grows -/
/-- w: what a value is while less is known; v: what it is then. -/
def Grows (w v:Vl):Prop:=w.k=4∨v=w∨(v.k=5∧w.k=5)
theorem Grows.rfl' (v:Vl):Grows v v:=.inr (.inl rfl)
/-- Two lists of values, the one while less is known. -/
inductive GrowsL:List Vl→List Vl→Prop
 | nil:GrowsL [] []
 | cons {w v:Vl} {l m:List Vl} (h:Grows w v) (k:GrowsL l m):GrowsL (w :: l) (v :: m)
theorem GrowsL.hd {l m:List Vl} (h:GrowsL l m) (i:Nat):Grows (hdV l i) (hdV m i):=by
 induction h generalizing i with
 | nil=>exact .rfl' _
 | cons h k ih =>
  cases i with
  | zero=>exact h
  | succ i=>exact ih i
theorem GrowsL.map {f g:Ex→Vl}:∀ {l:List Ex},(∀ y∈l,Grows (f y) (g y))→GrowsL (l.map f) (l.map g)
 | [],_=>.nil
 | x :: l,h=>.cons (h x (by simp)) (GrowsL.map fun y hy=>h y (by simp [hy]))
end Go.Proofs.YthckljafinhepaaGreat

namespace Go.Proofs.YthckljafinhepaaGreat
open Go.RowKit Go.Shelf

attribute [local go_sem] Oper.semAt_some

/-- Whatever is cells lies as it lay. -/
structure KeepsCells (W W':World):Prop where
 size:W.heap.size≤W'.heap.size
 same:∀ (k:Nat) (o:Obj),W.heap[k]?=some o→o.isCells=true→W'.heap[k]?=some o
theorem KeepsCells.refl (W:World):KeepsCells W W:=⟨Nat.le_refl _,fun _ _ h _=>h⟩
theorem KeepsCells.trans {A B C:World} (h:KeepsCells A B) (k:KeepsCells B C):KeepsCells A C:=⟨Nat.le_trans h.size k.size,fun i o hi ho=>k.same i o (h.same i o hi ho) ho⟩
theorem KeepsCells.grown {W W':World} {row:Option Nat} (hg:W.grownBy W' row) (hr:∀ r,row=some r→∃ o:Obj,W.heap[r]?=some o∧o.isCells=false):KeepsCells W W' :=
 ⟨hg.size,fun k o hk ho=>(hg.block k (Array.getElem?_eq_some_iff.1 hk).1 (fun e=>by
  obtain ⟨o',h1,h2⟩:=hr k e.symm
  rw [hk] at h1
  simp only [Option.some.injEq] at h1
  subst h1
  rw [ho] at h2; cases h2)).trans hk⟩
theorem KeepsCells.alloc (W:World) (o:Obj):KeepsCells W (W.alloc o):=.grown (World.grownBy_alloc W o none) (fun r e=>by cases e)
theorem KeepsCells.boxed {W W':World} (h:KeepsCells W W') {b:Nat} {t:TypeId} {v:Value} (hb:Boxed W b t v):Boxed W' b t v:=h.same b _ hb rfl
theorem KeepsCells.cell {W W':World} (h:KeepsCells W W') {a:Addr} {v:Value} (hc:W.cell? a=some v):W'.cell? a=some v:=by
 unfold World.cell? at hc ⊢
 cases ho:W.heap[a.block]? with
 | none=>rw [ho] at hc; cases hc
 | some o =>
  rw [ho] at hc
  cases o with
  | cells cs t f=>rw [h.same _ _ ho rfl]; exact hc
  | _=>cases hc
/-- What lay below n, and all cells, lie as they lay. -/
structure Kp (n:Nat) (W W':World):Prop where
 below:Below n W W'
 cells:KeepsCells W W'
theorem Kp.refl (n:Nat) (W:World):Kp n W W:=⟨Below.refl _ _,KeepsCells.refl _⟩
theorem Kp.trans {n:Nat} {A B C:World} (h:Kp n A B) (k:Kp n B C):Kp n A C:=⟨h.below.trans k.below,h.cells.trans k.cells⟩
theorem Kp.alloc {n:Nat} {W:World} (hn:n≤W.heap.size) (o:Obj):Kp n W (W.alloc o):=⟨(Below.refl _ _).alloc hn _,KeepsCells.alloc _ _⟩
theorem kp_t {n:Nat} {A B C:World} (h:Kp n A B) (k:Kp n B C):Kp n A C:=h.trans k
theorem kp_b {n:Nat} {w:World} (hn:n≤w.heap.size) (W:World) (l:Nat) (o o':Obj) (hl:w.heap.size≤l) (h:W.heap[l]?=some o) (hc:o.isCells=false) (hw:o.isWalk=false):Kp n W (W.putObj l o') :=
 ⟨belowK_b hn W l o o' hl h hc hw,.grown (grownBy_putObj' W l o') (fun r e=>by cases e; exact ⟨o,h,hc⟩)⟩
theorem sees_below {h:Vw} {W:World} (hb:Below h.w.heap.size h.w W):Sees h ⟨W,h.bad⟩:=⟨hb.size,fun b hlt _=>hb.block b hlt,fun _ hb _=>hb⟩
theorem grown_none {W W':World} (hb:Below W.heap.size W W'):W.grownBy W' none:=⟨hb.os,hb.tape,hb.output,hb.size,fun k hk _=>hb.block k hk⟩

theorem room_of_none {F:Fence} (hd:F.depth=none) (k:Nat):F.room k:=fun d h=>by rw [hd] at h; cases h
theorem RoundIn.anyDepth {F:Fence} (hd:F.depth=none) {m m':Nat} {P:Program} {l:Nat} {f:FuncId} {tmps:Array Value} {assign body:Code} {w:World} {R:Ending→World→Prop}
  (h:RoundIn F m P l f tmps assign body w R):RoundIn F m' P l f tmps assign body w R:=⟨h.1,fun c cs _=>h.2 c cs (room_of_none hd _)⟩
theorem YieldAt.anyDepth {F:Fence} (hd:F.depth=none) {m:Nat} (m':Nat) {P:Program} {l:Nat} {args:Array Value} {W:World} {R:Ending→World→Prop} (h:YieldAt F m P l args W R):YieldAt F m' P l args W R:=by
 obtain ⟨fn,tmps,assign,body,hy,hR⟩:=h
 exact ⟨fn,tmps,assign,body,hy,RoundIn.anyDepth hd hR⟩

theorem wide_depth (k:Nat):Fence.wide.depth.isSome=true→1≤k:=fun h=>by
 have e:Fence.wide.depth=none:=rfl
 rw [e] at h; cases h
/-- What a walk of a formula's fields ends in. -/
def WalkPost (n₀:Nat) (J Jx:List ByteArray→World→Prop) (pre r:List ByteArray) (W:World) (e:Ending) (W':World):Prop :=
 (e=.returned (.bool true)∧J (pre++r) W'∧Kp n₀ W W')∨(e=.returned (.bool false)∧∃ q,q <+: r∧Jx (pre++q) W')
def YieldPost (n₀:Nat) (J Jx:List ByteArray→World→Prop) (pre:List ByteArray) (s:ByteArray) (W:World) (e:Ending) (W':World):Prop :=
 (e=.returned (.bool true)∧J (pre++[s]) W'∧Kp n₀ W W')∨(e=.returned (.bool false)∧Jx (pre++[s]) W')
abbrev walkV (bY bW:Nat):Value:=.func (.func 125) #[] #[.pointer (some ⟨bY,0,none⟩),.pointer (some ⟨bW,0,none⟩)]

set_option maxRecDepth 100000 in
set_option maxHeartbeats 2000000 in
theorem walk_ref (l bY bW N B:Nat) (n₀:Nat) (J Jx:List ByteArray→World→Prop) (hJ:AbidesFrom B J)
  (hY:∀ m pre s W,J pre W→pre.length < N→YieldAt Fence.wide m Tryz.prog l #[.string s] W (YieldPost n₀ J Jx pre s W))
  (s:ByteArray) (A:Option Addr) (c n:Nat) (pre:List ByteArray) (W:World) (hn:n₀≤W.heap.size) (bY':Boxed W bY 123 (.func (.yield l) #[] #[])) (hj:J pre W) (hN:pre.length < N) :
  CallsIn Fence.wide n Tryz.prog 125 #[.agg #[.int .i64 2,.int .i64 0,.int .i64 0,.string ⟨#[]⟩,.string s,.slice A 0 c],.pointer (some ⟨bY,0,none⟩),.pointer (some ⟨bW,0,none⟩)] W
   (WalkPost n₀ J Jx pre [s] W):=by
 have hj2:J pre (W.alloc (.cells #[.int .i64 2,.int .i64 0,.int .i64 0,.string ⟨#[]⟩,.string s,.slice A 0 c] 41)):=hJ pre W _ none hj (World.grownBy_alloc W _ none) (fun r e=>by cases e)
 obtain ⟨fn,tmps,assign,body,hy,hR⟩:=hY (n - 1) pre s _ hj2 hN
 have cY:=(bY'.alloc (.cells #[.int .i64 2,.int .i64 0,.int .i64 0,.string ⟨#[]⟩,.string s,.slice A 0 c] 41)).cell
 have bx:=Box.new W #[.int .i64 2,.int .i64 0,.int .i64 0,.string ⟨#[]⟩,.string s,.slice A 0 c] 41
 have hk0:=Kp.alloc hn (.cells #[.int .i64 2,.int .i64 0,.int .i64 0,.string ⟨#[]⟩,.string s,.slice A 0 c] 41)
 have hR2:=hR.mono (R':=fun e W2=>(e=.returned (.bool true)∧J (pre++[s]) W2∧Kp n₀ _ W2∧W2.cell? ⟨W.heap.size,5,none⟩=some (.slice A 0 c))∨(e=.returned (.bool false)∧Jx (pre++[s]) W2))
  (fun e W2 h=>h.elim (fun ⟨a,b,k⟩=>.inl ⟨a,b,k,k.cells.cell (bx.cells 5 _ rfl)⟩) .inr)
 clear hR
 refine callsIn_of_wp Tryz.func125 rfl trivial ?_ rfl
 simp only [Tryz.ntmps125,List.size_toArray,List.length_cons,List.length_nil,Nat.reduceAdd,Nat.reduceSub,Array.replicate_succ,Array.replicate_zero,List.push_toArray,List.append_toArray,List.nil_append,List.cons_append]
 gi_wp2_with ((try refine ⟨wide_depth _,?_⟩); refine hR2.mono ?_; clear hR2; rintro e W2 (⟨rfl,hJ2,hk2,c5⟩ | ⟨rfl,hx2⟩))
 ·gi_loopw [20] (fun i wr=>i=.int .i64 0∧W2=wr) (fun _ _=>0)
  case atStart=>exact ⟨rfl,rfl⟩
  case round =>
   obtain ⟨rfl,rfl⟩:=hrel
   gi_wp2
   go_ret
   exact .inl ⟨rfl,hJ2,hk0.trans hk2⟩
 ·go_ret
  exact .inr ⟨rfl,[s],List.prefix_refl _,hx2⟩

set_option maxRecDepth 100000 in
set_option maxHeartbeats 2000000 in
theorem walk_any (l bY bW N B:Nat) (h:Vw) (J Jx:List ByteArray→World→Prop) (hJ:AbidesFrom B J)
  (hY:∀ m pre s W,J pre W→pre.length < N→YieldAt Fence.wide m Tryz.prog l #[.string s] W (YieldPost h.w.heap.size J Jx pre s W)) (x:Ex) :
  ∀ (v:Value) (n:Nat) (pre:List ByteArray) (W:World),IsArgs h x v→WfE x→Below h.w.heap.size h.w W→Boxed W bY 123 (.func (.yield l) #[] #[])→Boxed W bW 172 (walkV bY bW)→J pre W→pre.length + (refsE x).length≤N → 
  CallsIn Fence.wide n Tryz.prog 125 #[.agg #[.int .i64 x.op,.int .i64 x.k,.int .i64 x.n,.string x.s,.string x.nm,v],.pointer (some ⟨bY,0,none⟩),.pointer (some ⟨bW,0,none⟩)] W (WalkPost h.w.heap.size J Jx pre (refsE x) W):=by
 refine ex_ind (p:=fun x=>∀ (v:Value) (n:Nat) (pre:List ByteArray) (W:World),IsArgs h x v→WfE x→Below h.w.heap.size h.w W→Boxed W bY 123 (.func (.yield l) #[] #[])→Boxed W bW 172 (walkV bY bW)→J pre W→pre.length + (refsE x).length≤N → 
  CallsIn Fence.wide n Tryz.prog 125 #[.agg #[.int .i64 x.op,.int .i64 x.k,.int .i64 x.n,.string x.s,.string x.nm,v],.pointer (some ⟨bY,0,none⟩),.pointer (some ⟨bW,0,none⟩)] W (WalkPost h.w.heap.size J Jx pre (refsE x) W)) (fun x ih v n pre W hx hw hb hbY hbW hj hN=>?_) x
 by_cases h2:x.op=2
 ·obtain ⟨e,-⟩:=ref_shape hw h2
  obtain ⟨A,n',c,rfl⟩:=hx.slice
  have hn0:n'=0:=by
   obtain ⟨vs,hr,hvs⟩:=hx.form
   obtain ⟨A',c',e',-⟩:=hr.form
   rw [exRows_len hvs.len,ref_args hw h2] at e'
   simp at e'
   exact e'.2.1
  subst hn0
  rw [e]
  rw [e,refs_ref] at hN ⊢
  exact walk_ref l bY bW N B h.w.heap.size J Jx hJ hY x.nm A c n pre W hb.size hbY hj (by simp at hN; omega)
 ·rw [refsE_eq,if_neg h2,List.nil_append] at hN ⊢
  obtain ⟨vs,hr,hvs⟩:=hx.form
  obtain ⟨A,ca,rfl,hc1,hc2,-⟩:=hr.form
  have hvl:=hvs.len
  have hrl:=exRows_len hvl
  rw [hrl] at hc1 hr ⊢
  have HR:=Lib.hid hr
  have HV:=Lib.hid hvs
  have HIH:=Lib.hid ih
  have HWL:=Lib.hid hw.list
  have HB:=Lib.hid hb
  have hop:(x.op == 2)=false:=beq_eq_false_iff_ne.2 h2
  have hj2:J pre (W.alloc (.cells #[.int .i64 x.op,.int .i64 x.k,.int .i64 x.n,.string x.s,.string x.nm,.slice A x.args.length ca] 41)):=hJ pre W _ none hj (World.grownBy_alloc W _ none) (fun r e=>by cases e)
  have hk0:=Kp.alloc hb.size (.cells #[.int .i64 x.op,.int .i64 x.k,.int .i64 x.n,.string x.s,.string x.nm,.slice A x.args.length ca] 41)
  clear hx hr hvs hw hb hrl hvl
  generalize hL:x.args.length=len at *
  unfold maxLen at hc2
  refine callsIn_of_wp Tryz.func125 rfl trivial ?_ rfl
  simp only [Tryz.ntmps125,List.size_toArray,List.length_cons,List.length_nil,Nat.reduceAdd,Nat.reduceSub,Array.replicate_succ,Array.replicate_zero,List.push_toArray,List.append_toArray,List.nil_append,List.cons_append]
  gi_wp2
  refine ⟨fun _ h=>(by cases h),?_⟩
  gi_wp2
  gi_loopw [20] (fun i wr=>∃ k:Nat,k≤len∧i=.int .i64 k∧J (pre++refsL (x.args.take k)) wr∧Kp h.w.heap.size W wr) (fun i _=>len - (intOf i).toNat)
  case atStart=>exact ⟨0,Nat.zero_le _,rfl,by simpa [refsL] using hj2,hk0⟩
  case round =>
   obtain ⟨k,hk,rfl,hjk,hkk⟩:=hrel
   by_cases hlt:k < len
   ·obtain ⟨y,hy⟩:∃ y,x.args[k]?=some y:=⟨_,List.getElem?_eq_getElem (by omega)⟩
    obtain ⟨u,hu⟩:∃ u,vs[k]?=some u:=⟨_,List.getElem?_eq_getElem (by have:=HV.out.len; omega)⟩
    have hyu:=AllArgs.get HV.out hy hu
    obtain ⟨Au,nu,cu,rfl⟩:=hyu.slice
    have hrow:(exRows x.args vs)[k]?=some (exRow y (.slice Au nu cu)):=by show (List.zipWith exRow _ _)[k]?=_; rw [List.getElem?_zipWith,hy,hu]
    obtain ⟨b,off,rfl,-,hc⟩:=HR.out.row hrow
    have hbr:=HB.out.trans hkk.below
    have hc:=hc.sees (sees_below hbr)
    have c0:wr.cell? ⟨b,off + k * 6,none⟩=_:=hc.lies 0 _ rfl
    have c1:wr.cell? ⟨b,off + k * 6 + 1,none⟩=_:=hc.lies 1 _ rfl
    have c2:wr.cell? ⟨b,off + k * 6 + 2,none⟩=_:=hc.lies 2 _ rfl
    have c3:wr.cell? ⟨b,off + k * 6 + 3,none⟩=_:=hc.lies 3 _ rfl
    have c4:wr.cell? ⟨b,off + k * 6 + 4,none⟩=_:=hc.lies 4 _ rfl
    have c5:wr.cell? ⟨b,off + k * 6 + 5,none⟩=_:=hc.lies 5 _ rfl
    clear hc hrow hu
    have hym:=List.mem_of_getElem? hy
    have hsn:refsL (x.args.take (k + 1))=refsL (x.args.take k)++refsE y:=by rw [take_snoc' _ k y hy,refsL_app]; simp [refsL]
    have hle:(refsL (x.args.take (k + 1))).length≤(refsL x.args).length:=by
     have:=congrArg (fun l=>(refsL l).length) (List.take_append_drop (k + 1) x.args)
     simp only [refsL_app,List.length_append] at this
     omega
    rw [hsn,List.length_append] at hle
    have hal:Kp h.w.heap.size wr (wr.alloc (.cells #[.int .i64 y.op,.int .i64 y.k,.int .i64 y.n,.string y.s,.string y.nm,.slice Au nu cu] 41)):=Kp.alloc hbr.size _
    have bY2:=(hkk.cells.boxed hbY).alloc (.cells #[.int .i64 y.op,.int .i64 y.k,.int .i64 y.n,.string y.s,.string y.nm,.slice Au nu cu] 41)
    have bW2:=(hkk.cells.boxed hbW).alloc (.cells #[.int .i64 y.op,.int .i64 y.k,.int .i64 y.n,.string y.s,.string y.nm,.slice Au nu cu] 41)
    have cW:=bW2.cell
    have hcall:=HIH.out y hym (.slice Au nu cu) (n - 1) (pre++refsL (x.args.take k)) (wr.alloc (.cells #[.int .i64 y.op,.int .i64 y.k,.int .i64 y.n,.string y.s,.string y.nm,.slice Au nu cu] 41)) hyu (HWL.out.get hym) (hbr.trans hal.below) bY2 bW2
     (hJ _ wr _ none hjk (World.grownBy_alloc wr _ none) (fun r e=>by cases e)) (by rw [List.length_append]; omega)
    have HS:=Lib.hid hsn
    clear hsn bY2 bW2
    gi_wp2_with ((try refine ⟨trivial,?_⟩); (try refine ⟨wide_depth _,?_⟩); gi_at_call 125; refine hcall.mono ?_; clear hcall; rintro e W2 (⟨rfl,hJ2,hk2⟩ | ⟨rfl,q,hq,hx2⟩))
    ·go_roundw
     case rel=>exact ⟨k + 1,by omega,by go_num,by rw [HS.out,← List.append_assoc]; exact hJ2,(hkk.trans hal).trans hk2⟩
     case measure=>simp [intOf]; omega
    ·go_ret
     refine .inr ⟨rfl,refsL (x.args.take k)++q,?_,by rw [← List.append_assoc]; exact hx2⟩
     have hp:refsL (x.args.take (k + 1)) <+: refsL x.args:=by
      conv=>rhs; rw [← List.take_append_drop (k + 1) x.args,refsL_app]
      exact List.prefix_append _ _
     rw [HS.out] at hp
     exact ((List.prefix_append_right_inj _).2 hq).trans hp
   ·obtain rfl:k=len:=by omega
    have hta:x.args.take k=x.args:=by rw [← hL,List.take_length]
    rw [hta] at hjk
    clear hta
    gi_wp2
    go_ret
    exact .inl ⟨rfl,hjk,hkk⟩

/-- names.refs: the formula is boxed; the function value captures the box. -/
theorem refs_in (x:Ex) (v:Value) (n:Nat) (W:World) :
  CallsIn Fence.wide n Tryz.prog 99 #[.agg #[.int .i64 x.op,.int .i64 x.k,.int .i64 x.n,.string x.s,.string x.nm,v]] W fun e W'=>e=.returned (.func (.func 124) #[] #[.pointer (some ⟨W.heap.size,0,none⟩)])∧W'=W.alloc (.cells #[.int .i64 x.op,.int .i64 x.k,.int .i64 x.n,.string x.s,.string x.nm,v] 41):=by
 refine callsIn_of_wp Tryz.func99 rfl trivial ?_ rfl
 simp only [Tryz.ntmps99,List.size_toArray,List.length_cons,List.length_nil,Nat.reduceAdd,Nat.reduceSub,Array.replicate_succ,Array.replicate_zero,List.push_toArray,List.append_toArray,List.nil_append,List.cons_append]
 gi_wp2
 go_ret
 exact ⟨rfl,rfl⟩

set_option maxRecDepth 100000 in
set_option maxHeartbeats 2000000 in
/-- names.refs hands back an iterator over the fields that a formula asks for. -/
theorem refs_stops (x:Ex) (v:Value) (h:Vw) (hx:IsArgs h x v) (hw:WfE x) (n bX:Nat) (w:World) (hb:Below h.w.heap.size h.w w) (hX:w.heap[bX]?=some (.cells #[.int .i64 x.op,.int .i64 x.k,.int .i64 x.n,.string x.s,.string x.nm,v] 41 (0,0))) :
  SeqStopsK Fence.wide n Tryz.prog 124 #[.pointer (some ⟨bX,0,none⟩)] (fun s:ByteArray=>#[Value.string s]) (Kp h.w.heap.size) (fun ys=>ys=refsE x) (fun pre=>pre <+: refsE x) (refsE x).length w:=fun l J Jx W hW hJ hJx hY h0=>by
 have hbW:Below h.w.heap.size h.w W:=hb.trans (hW.mono hb.size)
 have hX':W.heap[bX]?=some (.cells #[.int .i64 x.op,.int .i64 x.k,.int .i64 x.n,.string x.s,.string x.nm,v] 41 (0,0)):=(hW.block bX (Array.getElem?_eq_some_iff.1 hX).1).trans hX
 have hxl:=(Array.getElem?_eq_some_iff.1 hX').1
 obtain ⟨A,n',c,rfl⟩:=hx.slice
 obtain ⟨W1,hW1⟩:∃ W1,W1=W.alloc (.cells #[.func (.yield l) #[] #[]] 123):=⟨_,rfl⟩
 have bY1:Boxed W1 W.heap.size 123 (.func (.yield l) #[] #[]):=by rw [hW1]; exact Boxed.new _ _ _
 have z1:W1.heap.size=W.heap.size + 1:=by rw [hW1]; simp
 have b1:Below W.heap.size W W1:=by rw [hW1]; exact (Below.refl _ _).alloc (Nat.le_refl _) _
 obtain ⟨W3,hW3⟩:∃ W3,W3=W1.alloc (.cells #[walkV W.heap.size (W.heap.size + 1)] 172):=⟨_,rfl⟩
 have bW3:Boxed W3 (W.heap.size + 1) 172 (walkV W.heap.size (W.heap.size + 1)):=by rw [hW3,← z1]; exact Boxed.new _ _ _
 have bY3:Boxed W3 W.heap.size 123 (.func (.yield l) #[] #[]):=by rw [hW3]; exact bY1.alloc _
 have b3:Below W.heap.size W W3:=by rw [hW3]; exact b1.alloc (by omega) _
 have c0:W.cell? ⟨bX,0,none⟩=some (.int .i64 x.op):=by simp [World.cell?,hX']
 have c1:W.cell? ⟨bX,1,none⟩=some (.int .i64 x.k):=by simp [World.cell?,hX']
 have c2:W.cell? ⟨bX,2,none⟩=some (.int .i64 x.n):=by simp [World.cell?,hX']
 have c3:W.cell? ⟨bX,3,none⟩=some (.string x.s):=by simp [World.cell?,hX']
 have c4:W.cell? ⟨bX,4,none⟩=some (.string x.nm):=by simp [World.cell?,hX']
 have c5:W.cell? ⟨bX,5,none⟩=some (.slice A n' c):=by simp [World.cell?,hX']
 have hcall:=walk_any l W.heap.size (W.heap.size + 1) (refsE x).length W.heap.size h J Jx hJ
  (fun m pre s W hj hl=>YieldAt.mono (YieldAt.anyDepth (show Fence.wide.depth=none from rfl) m (hY pre s W hj hl)) (fun e W' q=>q)) x (.slice A n' c) (n - 1) [] W3 hx hw (hbW.trans (b3.mono hbW.size)) bY3 bW3 (hJ [] W W3 none h0 (grown_none b3) (fun r e=>by cases e)) (by simp)
 clear hx hw hbW hb hX hX' bY1 bY3 bW3 b1 b3 hY hJ hJx hW
 rw [hW3] at hcall
 clear hW3
 rw [hW1] at hcall
 clear hW1 z1 W1 W3
 refine callsIn_of_wp Tryz.func124 rfl trivial ?_ rfl
 simp only [Tryz.ntmps124,List.size_toArray,List.length_cons,List.length_nil,Nat.reduceAdd,Nat.reduceSub,Array.replicate_succ,Array.replicate_zero,List.push_toArray,List.append_toArray,List.nil_append,List.cons_append]
 gi_wp2_with ((try refine ⟨trivial,?_⟩); (try refine ⟨wide_depth _,?_⟩); gi_at_call 125; refine hcall.mono ?_; clear hcall; rintro e W4 (⟨rfl,hJ4,-⟩ | ⟨rfl,q,hq,hx4⟩))

 ·go_end0
  exact ⟨⟨_,rfl⟩,.inl ⟨_,rfl,hJ4⟩⟩
 ·go_end0
  exact ⟨⟨_,rfl⟩,.inr ⟨q,hq,hx4⟩⟩

end Go.Proofs.YthckljafinhepaaGreat

namespace Go.Proofs.YthckljafinhepaaGreat
open Go.RowKit

/-! ### A store into a map whose keys are strings -/
def sidx (s:ByteArray):List (ByteArray × Value)→Option Nat
 | []=>none
 | (k,_) :: l=>if s == k then some 0 else (sidx s l).map (· + 1)
theorem sidx_none {s:ByteArray}:∀ {l:List (ByteArray × Value)},sidx s l=none→sget s l=none
 | [],_=>rfl
 | (k,v) :: l,h=>by
  unfold sidx at h
  unfold sget
  split at h
  ·cases h
  ·rename_i g
   rw [if_neg g]
   exact sidx_none (by simpa using h)
theorem sidx_some {s:ByteArray}:∀ {l:List (ByteArray × Value)} {j:Nat},sidx s l=some j→∃ u,l[j]?=some (s,u)∧(∀ i z,Instr.findNow .string (.string s) (((strEs l).zipIdx z).map fun p=>⟨p.1.1,p.1.2,p.2⟩) i=some (some (i + j,u))) ∧
  ∀ v t,sget t (l.set j (s,v))=if t=s then some v else sget t l
 | [],j,h=>by cases h
 | (k,u) :: l,j,h=>by
  unfold sidx at h
  split at h
  ·rename_i g
   simp only [Option.some.injEq] at h
   subst h
   obtain rfl:=(Go.MapKept.bytes_beq s k).1 g
   refine ⟨u,rfl,fun i z=>?_,fun v t=>?_⟩
   ·simp only [strEs,List.map_cons,List.zipIdx_cons]
    unfold Instr.findNow
    have hsn:Instr.sameNow .string (.string s) (.string s)=some (s == s):=rfl
    simp only [hsn,g,Nat.add_zero]
   ·rw [List.set_cons_zero]
    unfold sget
    by_cases e:t=s
    ·rw [if_pos e,if_pos (by rw [e]; exact g)]
    ·rw [if_neg e,if_neg (fun q=>e ((Go.MapKept.bytes_beq t s).1 q)),if_neg (fun q=>e ((Go.MapKept.bytes_beq t s).1 q))]
  ·rename_i g
   obtain ⟨j',hj,rfl⟩:=Option.map_eq_some_iff.1 h
   obtain ⟨u',h1,h2,h3⟩:=sidx_some hj
   refine ⟨u',by simpa using h1,fun i z=>?_,fun v t=>?_⟩
   ·simp only [strEs,List.map_cons,List.zipIdx_cons]
    unfold Instr.findNow
    have hsn:Instr.sameNow .string (.string s) (.string k)=some (s == k):=rfl
    simp only [hsn,g]
    rw [show i + (j' + 1)=i + 1 + j' by omega]
    exact h2 (i + 1) (z + 1)
   ·rw [List.set_cons_succ]
    unfold sget
    rw [h3 v t]
    by_cases e:t=s
    ·subst e; rw [if_neg g,if_pos rfl,if_pos rfl]
    ·rw [if_neg e,if_neg e]
theorem sget_snoc {s t:ByteArray} {v:Value}:∀ {l:List (ByteArray × Value)},sget s l=none→sget t (l++[(s,v)])=if t=s then some v else sget t l
 | [],_=>by
  show (if t == s then some v else none)=_
  by_cases e:t=s
  ·rw [if_pos e,if_pos ((Go.MapKept.bytes_beq t s).2 e)]
  ·rw [if_neg e,if_neg (fun q=>e ((Go.MapKept.bytes_beq t s).1 q))]; rfl
 | (k,u) :: l,h=>by
  unfold sget at h
  split at h
  ·cases h
  ·rename_i g
   rw [List.cons_append]
   unfold sget
   rw [sget_snoc h]
   by_cases e:t=s
   ·subst e; rw [if_neg g,if_pos rfl,if_pos rfl]
   ·rw [if_neg e,if_neg e]
theorem sget_out {s:ByteArray}:∀ {l:List (ByteArray × Value)},sget s l=none→∀ q∈l,q.1≠s
 | (k,v) :: l,h,q,hq,e=>by
  unfold sget at h
  split at h
  ·cases h
  ·rename_i g
   rcases List.mem_cons.1 hq with rfl | hq
   ·exact g ((Go.MapKept.bytes_beq s k).2 e.symm)
   ·exact sget_out h q hq e
theorem ments_get (es:List (Value × Value)) (i:Nat):(ments es)[i]?=(es[i]?).map fun p=>⟨p.1,p.2,i⟩:=by
 unfold ments
 rw [List.getElem?_map,List.getElem?_zipIdx]
 cases es[i]? <;> simp
theorem run_update_str {P:Program} {w:World} {b:Nat} {l:List (ByteArray × Value)} {t kt et:TypeId} {s:ByteArray} {v:Value} (hb:w.heap[b]?=some (mapObj (strEs l))) (ht:P.underlying t=some (.map kt et)) (htd:P.underlying kt=some .string) :
  ∃ l',(Instr.mapUpdate t (.map (some b)) (.string s) v).run P w=.ok () { w with heap:=w.heap.setIfInBounds b (mapObj (strEs l')) }∧(∀ t,sget t l'=if t=s then some v else sget t l)∧((l.map (·.1)).Nodup→(l'.map (·.1)).Nodup)∧∀ p∈l',p∈l∨p=(s,v):=by
 cases hs:sidx s l with
 | none =>
  have hn:=sidx_none hs
  refine ⟨l++[(s,v)],?_,fun t=>sget_snoc hn,fun hd=>?_,fun p hp=>(List.mem_append.1 hp).imp id List.mem_singleton.1⟩
  rotate_left
  ·rw [List.map_append,List.nodup_append]
   refine ⟨hd,by simp,fun x hx y hy e=>?_⟩
   simp only [List.map_cons,List.map_nil,List.mem_singleton] at hy
   subst hy e
   obtain ⟨q,hq,e2⟩:=List.mem_map.1 hx
   exact sget_out hn q hq e2
  have:=run_update_at (P:=P) (v:=v) hb ht htd (k:=.string s) rfl (mfind_none hn)
  rw [this,show strEs (l++[(s,v)])=strEs l++[(.string s,v)] by simp [strEs]]
 | some j =>
  obtain ⟨u,h1,h2,h3⟩:=sidx_some hs
  refine ⟨l.set j (s,v),?_,h3 v,fun hd=>?_,fun p hp=>List.mem_or_eq_of_mem_set hp⟩
  rotate_left
  ·have:(l.set j (s,v)).map (·.1)=l.map (·.1):=by
    refine List.ext_getElem? fun i=>?_
    rw [List.getElem?_map,List.getElem?_map,List.getElem?_set]
    have hlt:=(List.getElem?_eq_some_iff.1 h1).1
    by_cases e:j=i
    ·subst e; rw [if_pos rfl,if_pos hlt,h1]; rfl
    ·rw [if_neg e]
   rw [this]; exact hd
  have hf:Instr.findNow .string (.string s) (ments (strEs l)).toArray.toList 0=some (some (j,u)):=by
   have:=h2 0 0
   rw [Nat.zero_add] at this
   exact this
  have hj:(ments (strEs l)).toArray[j]?=some ⟨.string s,u,j⟩:=by
   rw [List.getElem?_toArray,ments_get,strEs,List.getElem?_map,h1]; rfl
  have hk:Go.MapKept.IsKey .string (.string s):=isKey_of rfl
  have hm:(ments (strEs l)).toArray.modify j (fun e=>{ e with key:=.string s,val:=v })=(ments (strEs (l.set j (s,v)))).toArray:=by
   apply Array.ext'
   rw [Array.toList_modify]
   refine List.ext_getElem? fun i=>?_
   show _=(ments (strEs (l.set j (s,v))))[i]?
   rw [List.getElem?_modify,ments_get,ments_get,List.getElem?_map,List.getElem?_map,List.getElem?_set]
   have hlt:=(List.getElem?_eq_some_iff.1 h1).1
   by_cases e:j=i
   ·subst e; simp [hlt]
   ·simp [e]
  unfold mapObj at hb ⊢
  unfold Instr.mapUpdate
  simp only [Sem.run_bind,run_underlying ht,Result.andThen,Go.MapKept.run_getObj_map hb,Go.MapKept.run_checkKey htd hk,Go.MapKept.run_findKey htd hf]
  simp only [hj,Option.map_some,Option.getD_some,Go.MapKept.run_keyThatStays hk,Go.MapKept.run_setObj_map _ hb]
  rw [hm]
  simp [strEs]

end Go.Proofs.YthckljafinhepaaGreat

namespace Go.Proofs.YthckljafinhepaaGreat
open Go.RowKit Go.Shelf

attribute [local go_sem] Oper.semAt_some

section
variable {F:Fence} {n:Nat} {P:Program} {w w':World} {ops:Array Oper} {rest:List Oper} {o:Oper} {a:Act} {Q:Exit→Act→World→Prop}
/-- m[k] = v, at whatever is known of it. -/
theorem wpListIn_mapUpdate_at (hg:o.guard=none) (m x v:Operand) (t:TypeId) (hop:o.op=Op.mapUpdate t m x v) {b key val:Value} (hm:a.eval m=b) (hx:a.eval x=key) (hv:a.eval v=val) (hr:(Instr.mapUpdate t b key val).run P w=.ok () w')
  (hK:wpListIn F n P ops Q rest (a.put o.dst undef) w'):wpListIn F n P ops Q (o :: rest) a w:=by
 refine wpListIn_plain hg fun K' hK'=>?_
 unfold Oper.wpIn
 refine ⟨by simp [Oper.about,hop],?_⟩
 rw [Oper.semAt_plain F _ _ (by rw [hop]; intro c hc'; cases hc')]
 simp [execOp,hop,hm,hx,hv,hr,Result.andThen]
 exact hK' _ _ hK
end
theorem cells_own {A:World} {b:Nat} {o:Obj} (hb:A.heap[b]?=some o) (hc:o.isCells=true) {row:Option Nat} (hr:∀ r,row=some r→∃ o:Obj,A.heap[r]?=some o∧o.isCells=false):some b≠row:=fun e=>by
 obtain ⟨o',h1,h2⟩:=hr _ e.symm
 rw [hb] at h1
 cases h1; rw [hc] at h2; cases h2
theorem grown_set {W:World} {M:Nat} {o:Obj} (o':Obj) (hm:W.heap[M]?=some o):W.grownBy { W with heap:=W.heap.setIfInBounds M o' } (some M) :=
 ⟨rfl,rfl,rfl,by simp,fun k _ ne=>(Go.MapKept.heap_set hm).2 k (fun e=>ne (by rw [e]))⟩

end Go.Proofs.YthckljafinhepaaGreat

namespace Go.Proofs.YthckljafinhepaaGreat
open Go.RowKit

/-- The types of an op's arguments, and its own one, where these are known. -/
def ruleT (op:Int):Option (List Int × Int) :=
 if op=3 then some ([1],1) else if op=4 then some ([2],2) else if op=18 then some ([3],1)
 else if 5≤op∧op≤9 then some ([1,1],1) else if op=10 then some ([3,3],3) else if op=15∨op=16 then some ([2,2],2) else none
/-- The type of an op by those of its arguments. -/
def opTy (op:Int) (l:List Int):Int × Int :=
 match ruleT op with
 | some (a,t)=>if l=a then (t,0) else (0,9)
 | none=>if op=17 then (if l.getD 0 0=2∧l.getD 1 0=l.getD 2 0 then (l.getD 1 0,0) else (0,9)) else if l.getD 0 0=l.getD 1 0 then (2,0) else (0,9)
mutual
/-- The type of a formula, or an error. -/
def tyE (f:ByteArray→Option Int):Ex→Int × Int
 | .mk op k _ _ nm args =>
  if op=1 then (k,0)
  else if op=2 then (match f nm with | some t=>(t,0) | none=>(0,5))
  else if (tyL f args).2=0 then opTy op (tyL f args).1 else (0,(tyL f args).2)
def tyL (f:ByteArray→Option Int):List Ex→List Int × Int
 | []=>([],0)
 | x :: l=>if (tyE f x).2=0 then (if (tyL f l).2=0 then ((tyE f x).1 :: (tyL f l).1,0) else ([],(tyL f l).2)) else ([],(tyE f x).2)
end
theorem tyE_eq (f:ByteArray→Option Int) (x:Ex):tyE f x =
  if x.op=1 then ((x.k:Int),(0:Int))
  else if x.op=2 then (match f x.nm with | some t=>((t:Int),(0:Int)) | none=>(0,5))
  else if (tyL f x.args).2=0 then opTy x.op (tyL f x.args).1 else (0,(tyL f x.args).2):=by
 obtain ⟨a,b,c,d,e,l⟩:=x
 rw [tyE]; rfl
/-- The types of fields; those that come first count. -/
def tyF (fs:List Fd) (s:ByteArray):Option Int:=match fs with
 | []=>none
 | f :: l=>if s == f.name then some f.ty else tyF l s

theorem tyL_get {f:ByteArray→Option Int}:∀ {l:List Ex} {ts:List Int},tyL f l=(ts,0)→l.length=ts.length∧∀ (i:Nat) (x:Ex),l[i]?=some x→∃ t,ts[i]?=some t∧tyE f x=(t,0)
 | [],ts,h=>by
  rw [tyL] at h
  simp only [Prod.mk.injEq,and_true] at h
  subst h
  exact ⟨rfl,fun i x hx=>by simp at hx⟩
 | x :: l,ts,h=>by
  rw [tyL] at h
  by_cases h1:(tyE f x).2=0
  ·rw [if_pos h1] at h
   by_cases h2:(tyL f l).2=0
   ·rw [if_pos h2] at h
    simp only [Prod.mk.injEq,and_true] at h
    subst h
    obtain ⟨a,b⟩:=tyL_get (f:=f) (l:=l) (ts:=(tyL f l).1) (Prod.ext rfl h2)
    refine ⟨by simp [a],fun i y hy=>?_⟩
    cases i with
    | zero =>
     simp only [List.getElem?_cons_zero,Option.some.injEq] at hy
     subst hy
     exact ⟨_,rfl,Prod.ext rfl h1⟩
    | succ i=>exact b i y (by simpa using hy)
   ·rw [if_neg h2] at h
    simp only [Prod.mk.injEq] at h
    exact absurd h.2 h2
  ·rw [if_neg h1] at h
   simp only [Prod.mk.injEq] at h
   exact absurd h.2 h1

/-! ### What is made of a type is of it -/
theorem ty_leaf {fs:List Fd} {g:ByteArray→Option Int} (hf:∀ f∈fs,g f.name=some f.ty) (r:RawD) (kind:Int):tyE g (leafE r fs kind)=(kind,0):=by
 have hc:tyE g (constE kind r)=(kind,0):=by rw [tyE_eq,if_pos (show (constE kind r).op=1 from rfl)]; rfl
 unfold leafE
 split
 ·rename_i s hs
  split
  ·exact hc
  ·have hm:=List.mem_of_getElem? hs
   obtain ⟨f,hfm,rfl⟩:=List.mem_map.1 hm
   obtain ⟨h1,h2⟩:=List.mem_filter.1 hfm
   rw [tyE_eq,if_neg (show ¬ (refE f.name).op=1 by show ¬ (2:Int)=1; decide),if_pos (show (refE f.name).op=2 from rfl)]
   have e:(refE f.name).nm=f.name:=rfl
   rw [e,hf f h1]
   simp at h2
   simp [h2]
 ·exact hc
theorem many_types {f:ByteArray→Option Int} {one:Int→Nat→Ex × Nat}:∀ (ks:List Int) (n:Nat),(∀ k∈ks,∀ n,tyE f (one k n).1=(k,0))→tyL f (manyE one ks n).1=(ks,0)
 | [],n,_=>by rw [show (manyE one [] n).1=[] from rfl,tyL]
 | k :: ks,n,h=>by
  have h1:=h k (by simp) n
  have h2:=many_types (f:=f) ks (one k n).2 (fun k' hk=>h k' (by simp [hk]))
  rw [show (manyE one (k :: ks) n).1=(one k n).1 :: (manyE one ks (one k n).2).1 from rfl,tyL,h1,h2]
  simp
theorem pick_type (r:RawD) (kind:Int) (h1:1≤kind) (h3:kind≤3):opTy (pickE r kind).1 (pickE r kind).2=(kind,0):=by
 have a0:=pickL_lo r.a 6 (by omega)
 have b0:=pickL_lo r.b 7 (by omega)
 have b1:=pickL_hi r.b 7 (by omega)
 have c0:=pickL_lo r.a 3 (by omega)
 have c1:=pickL_hi r.a 3 (by omega)
 unfold pickE
 split
 ·simp [opTy,ruleT]
 ·split
  ·rename_i hk
   split
   ·simp [opTy,ruleT,hk]
   ·split
    ·simp [opTy,ruleT,hk]
    ·have hb:intOps (pickL r.b 7)=5∨intOps (pickL r.b 7)=6∨intOps (pickL r.b 7)=7∨intOps (pickL r.b 7)=8∨intOps (pickL r.b 7)=9:=by
      unfold intOps
      repeat' split
      all_goals omega
     simp only
     rcases hb with h | h | h | h | h <;> (rw [h]; simp [opTy,ruleT,hk])
  ·split
   ·rename_i hk
    split
    ·simp [opTy,ruleT,hk]
    ·split
     ·have hb:pickL r.b 7=1∨pickL r.b 7=2:=by omega
      simp only
      rcases hb with h | h <;> (rw [h]; simp [opTy,ruleT,hk])
     ·have hb:pickL r.b 7=3∨pickL r.b 7=4∨pickL r.b 7=5∨pickL r.b 7=6:=by omega
      simp only
      rcases hb with h | h | h | h <;> (rw [h]; simp [opTy,ruleT,hk])
   ·have hk:kind=3:=by omega
    simp [opTy,ruleT,hk]
theorem ty_op {f:ByteArray→Option Int} {op:Int} {l:List Ex} {ts:List Int} (h1:op≠1) (h2:op≠2) (h:tyL f l=(ts,0)):tyE f (opE op l)=opTy op ts:=by
 rw [tyE_eq,if_neg (show ¬ (opE op l).op=1 from h1),if_neg (show ¬ (opE op l).op=2 from h2)]
 show (if (tyL f l).2=0 then opTy op (tyL f l).1 else (0,(tyL f l).2))=_
 rw [h]; simp
theorem ty_gen {fs:List Fd} {g:ByteArray→Option Int} (hf:∀ f∈fs,g f.name=some f.ty) (l:List RawD):∀ (d:Nat) (kind:Int) (n:Nat),1≤kind→kind≤3→tyE g (genE l fs d kind n).1=(kind,0)
 | 0,kind,n,h1,h3=>ty_leaf hf _ _
 | d + 1,kind,n,h1,h3=>by
  by_cases q:pickL (rawAt l n).k 3=0
  ·rw [genE_leaf q]; exact ty_leaf hf _ _
  ·obtain ⟨p1,p2,p3,p4⟩:=pickE_ok (rawAt l n) kind h1 h3
   have hpt:=pick_type (rawAt l n) kind h1 h3
   obtain ⟨op,ks,hp⟩:∃ op ks,pickE (rawAt l n) kind=(op,ks):=⟨(pickE (rawAt l n) kind).1,(pickE (rawAt l n) kind).2,by cases pickE (rawAt l n) kind; rfl⟩
   rw [genE_with q hp]
   rw [hp] at p1 p2 p4 hpt
   simp only at p1 p2 p4 hpt
   exact (ty_op (by omega) (by omega) (many_types ks _ (fun k hk n=>ty_gen hf l d k n (p4 k hk).1 (p4 k hk).2))).trans hpt

end Go.Proofs.YthckljafinhepaaGreat

namespace Go.Proofs.YthckljafinhepaaGreat
open Go.RowKit Go.Shelf

attribute [local go_sem] Oper.semAt_some

def zF:Fd:=⟨⟨#[]⟩,0,0,zE⟩
@[reducible] def fdVal (f:Fd) (v:Value):Value:=.agg #[.string f.name,.int .i64 f.kind,.int .i64 f.ty,.int .i64 f.src.op,.int .i64 f.src.k,.int .i64 f.src.n,.string f.src.s,.string f.src.nm,v]
/-- The last c of len places, from behind. -/
def dn (len c:Nat):List Nat:=(List.range c).map fun j=>len - 1 - j
theorem dn_succ (len c:Nat):dn len (c + 1)=dn len c++[len - 1 - c]:=by simp [dn,List.range_succ]
theorem dn_len (len c:Nat):(dn len c).length=c:=by simp [dn]
set_option maxRecDepth 100000 in
set_option maxHeartbeats 2000000 in
theorem back_in (A:Option Addr) (len cap:Nat) (n:Nat) (W:World) :
  CallsIn Fence.wide n Tryz.prog 169 #[.slice A len cap] W fun e W'=>e=.returned (.func (.func 184) #[] #[.pointer (some ⟨W.heap.size,0,none⟩)])∧W'=W.alloc (.cells #[.slice A len cap] 23):=by
 refine callsIn_of_wp Tryz.func169 rfl trivial ?_ rfl
 simp only [Tryz.ntmps169,List.size_toArray,List.length_cons,List.length_nil,Nat.reduceAdd,Nat.reduceSub,Array.replicate_succ,Array.replicate_zero,List.push_toArray,List.append_toArray,List.nil_append,List.cons_append]
 gi_wp2
 go_ret
 exact ⟨rfl,rfl⟩

set_option maxRecDepth 100000 in
set_option maxHeartbeats 4000000 in
theorem back_stops (fs:List Fd) (vs:List Value) (A:Option Addr) (cap:Nat) (h:Vw) (hr:RS h 9 (.slice A fs.length cap) (fdRows fs vs)) (hvl:vs.length=fs.length) (hsl:∀ v∈vs,.slice (sA v) (sN v) (sC v)=v) (n bX:Nat) (w:World) (hb:Below h.w.heap.size h.w w) (hX:w.heap[bX]?=some (.cells #[.slice A fs.length cap] 23 (0,0))) :
  SeqStopsK Fence.wide n Tryz.prog 184 #[.pointer (some ⟨bX,0,none⟩)] (fun i:Nat=>#[.int .i64 (i:Int),fdVal (fs.getD i zF) (.slice (sA (vs.getD i undef)) (sN (vs.getD i undef)) (sC (vs.getD i undef)))]) (Kp h.w.heap.size) (fun ys=>ys=dn fs.length fs.length) (fun _=>True) fs.length w:=fun l J Jx W hW hJ hJx hY h0=>by
 have hbW:Below h.w.heap.size h.w W:=hb.trans (hW.mono hb.size)
 have hX':W.heap[bX]?=some (.cells #[.slice A fs.length cap] 23 (0,0)):=(hW.block bX (Array.getElem?_eq_some_iff.1 hX).1).trans hX
 have bX':Boxed W bX 23 (.slice A fs.length cap):=hX'
 have cX:=bX'.cell
 obtain ⟨A',cap',e,hc1,hc2,-⟩:=hr.form
 rw [fdRows_len hvl] at e hc1
 simp only [Value.slice.injEq] at e
 obtain ⟨rfl,-,rfl⟩:=e
 have HR:=Lib.hid hr
 have HV:=Lib.hid hvl
 have HS:=Lib.hid hsl
 have HB:=Lib.hid hbW
 have HY:=Lib.hid hY
 have HX:=Lib.hid bX'
 clear hr hvl hsl hbW hb hX hX' hW hY bX'
 unfold maxLen at hc2
 generalize hL:fs.length=len at *
 refine callsIn_of_wp Tryz.func184 rfl trivial ?_ rfl
 simp only [Tryz.ntmps184,List.size_toArray,List.length_cons,List.length_nil,Nat.reduceAdd,Nat.reduceSub,Array.replicate_succ,Array.replicate_zero,List.push_toArray,List.append_toArray,List.nil_append,List.cons_append]
 gi_wp2
 gi_loopw [3] (fun i wr=>∃ k:Nat,k≤len∧i=.int .i64 ((len:Int) - 1 - k)∧J (dn len k) wr∧Kp h.w.heap.size W wr) (fun i _=>(intOf i + 1).toNat)
 case atStart=>exact ⟨0,Nat.zero_le _,by go_num,by simpa [dn] using h0,Kp.refl _ _⟩
 case round =>
  obtain ⟨k,hk,rfl,hjk,hkk⟩:=hrel
  by_cases hlt:k < len
  ·obtain ⟨m,hm⟩:∃ m:Nat,len=m + 1 + k:=⟨len - 1 - k,by omega⟩
   have hi:(len:Int) - 1 - k=(m:Int):=by omega
   rw [hi]
   have hml:m < len:=by omega
   obtain ⟨f,hf⟩:∃ f,fs[m]?=some f:=⟨_,List.getElem?_eq_getElem (by omega)⟩
   obtain ⟨u,hu⟩:∃ u,vs[m]?=some u:=⟨_,List.getElem?_eq_getElem (by have:=HV.out; omega)⟩
   have hrow:=fdRows_get hf hu
   have hrw:=HR.out
   obtain ⟨b,off,e,-,hc⟩:=hrw.row hrow
   subst e
   have hbr:=HB.out.trans hkk.below
   have hc:=hc.sees (sees_below hbr)
   have c0:wr.cell? ⟨b,off + m * 9,none⟩=_:=hc.lies 0 _ rfl
   have c1:wr.cell? ⟨b,off + m * 9 + 1,none⟩=_:=hc.lies 1 _ rfl
   have c2:wr.cell? ⟨b,off + m * 9 + 2,none⟩=_:=hc.lies 2 _ rfl
   have c3:wr.cell? ⟨b,off + m * 9 + 3,none⟩=_:=hc.lies 3 _ rfl
   have c4:wr.cell? ⟨b,off + m * 9 + 4,none⟩=_:=hc.lies 4 _ rfl
   have c5:wr.cell? ⟨b,off + m * 9 + 5,none⟩=_:=hc.lies 5 _ rfl
   have c6:wr.cell? ⟨b,off + m * 9 + 6,none⟩=_:=hc.lies 6 _ rfl
   have c7:wr.cell? ⟨b,off + m * 9 + 7,none⟩=_:=hc.lies 7 _ rfl
   have c8:wr.cell? ⟨b,off + m * 9 + 8,none⟩=_:=hc.lies 8 _ rfl
   have cX:=(hkk.cells.boxed HX.out).cell
   obtain ⟨fn,tmps,assign,body,hy,hRd⟩:=HY.out (dn len k) m wr hjk (by rw [dn_len]; omega)
   have hR2:=hRd.mono (R':=fun e W2=>(e=.returned (.bool true)∧J (dn len (k + 1)) W2∧Kp h.w.heap.size W W2)∨(e=.returned (.bool false)∧Jx (dn len (k + 1)) W2))
    (fun e W2 q=>by
     rw [dn_succ,show len - 1 - k=m by omega]
     exact q.elim (fun ⟨a,b,c⟩=>.inl ⟨a,b,hkk.trans c⟩) .inr)
   have e1:fs.getD m zF=f:=by rw [List.getD_eq_getElem?_getD,hf]; rfl
   have e2:vs.getD m undef=u:=by rw [List.getD_eq_getElem?_getD,hu]; rfl
   have e3:=HS.out u (List.mem_of_getElem? hu)
   rw [e1,e2,e3] at hy
   have HJ:=Lib.hid hjk
   have HK:=Lib.hid hkk
   have HM:=Lib.hid hm
   clear hc hrow hrw hRd hjk hkk hf hu e1 e2 e3 hbr hi hm
   gi_wp2_with ((try refine ⟨wide_depth _,?_⟩); refine hR2.mono ?_; clear hR2; rintro e W2 (⟨rfl,hJ2,hk2⟩ | ⟨rfl,hx2⟩))
   ·go_roundw
    case rel=>exact ⟨k + 1,by omega,by have:=HM.out; go_num,hJ2,hk2⟩
    case measure=>simp [intOf] <;> omega
   ·(try simp only [Exit.inBlock,Exit.then]); refine bodyPost_ret (results_none rfl _ _ _) rfl ?_
    exact ⟨⟨_,rfl⟩,.inr ⟨_,trivial,hx2⟩⟩
  ·obtain rfl:k=len:=by omega
   have hi:(k:Int) - 1 - k = -1:=by omega
   rw [hi]
   clear hi
   gi_wp2
   go_end0
   exact ⟨⟨_,rfl⟩,.inl ⟨_,rfl,hjk⟩⟩

/-! ### typing.types -/
/-- What the last of the places pre that bear the name s says. -/
def lastT (fs:List Fd) (s:ByteArray) (pre:List Nat):Option Value:=pre.foldl (fun o i=>if s=(fs.getD i zF).name then some (.int .i64 (fs.getD i zF).ty) else o) none
theorem lastT_snoc (fs:List Fd) (s:ByteArray) (pre:List Nat) (i:Nat):lastT fs s (pre++[i])=if s=(fs.getD i zF).name then some (.int .i64 (fs.getD i zF).ty) else lastT fs s pre:=by
 unfold lastT
 rw [List.foldl_append]; rfl
theorem lastT_dn (fs:List Fd) (s:ByteArray):∀ c,c≤fs.length→lastT fs s (dn fs.length c)=(tyF (fs.drop (fs.length - c)) s).map (.int .i64)
 | 0,_=>by rw [Nat.sub_zero,List.drop_length]; rfl
 | c + 1,hc=>by
  rw [dn_succ,lastT_snoc,lastT_dn fs s c (by omega)]
  obtain ⟨f,hf⟩:∃ f,fs[fs.length - 1 - c]?=some f:=⟨_,List.getElem?_eq_getElem (by omega)⟩
  have e1:fs.getD (fs.length - 1 - c) zF=f:=by rw [List.getD_eq_getElem?_getD,hf]; rfl
  have e2:fs.drop (fs.length - (c + 1))=f :: fs.drop (fs.length - c):=by
   obtain ⟨hlt,he⟩:=List.getElem?_eq_some_iff.1 hf
   rw [show fs.length - (c + 1)=fs.length - 1 - c by omega,List.drop_eq_getElem_cons hlt,he,show fs.length - 1 - c + 1=fs.length - c by omega]
  rw [e1,e2]
  conv=>rhs; unfold tyF
  by_cases e:s=f.name
  ·rw [if_pos e,if_pos ((Go.MapKept.bytes_beq s f.name).2 e)]; rfl
  ·rw [if_neg e,if_neg (fun q=>e ((Go.MapKept.bytes_beq s f.name).1 q))]

set_option maxRecDepth 100000 in
set_option maxHeartbeats 4000000 in
theorem types_in (fs:List Fd) (vs:List Value) (A:Option Addr) (cap:Nat) (h:Vw) (hr:RS h 9 (.slice A fs.length cap) (fdRows fs vs)) (hvl:vs.length=fs.length) (hsl:∀ v∈vs,.slice (sA v) (sN v) (sC v)=v) (n:Nat) (hn:3≤n) :
  CallsIn Fence.wide n Tryz.prog 142 #[.slice A fs.length cap] h.w (fun e W'=>e=.returned (.map (some h.w.heap.size))∧(∃ l,W'.heap[h.w.heap.size]?=some (mapObj (strEs l))∧∀ s,sget s l=(tyF fs s).map (.int .i64))∧Below h.w.heap.size h.w W'):=by
 have h1:1≤n:=by omega
 obtain ⟨M,hM⟩:∃ M,M=h.w.heap.size:=⟨_,rfl⟩
 obtain ⟨W1,hW1⟩:∃ W1,W1=h.w.alloc (.map #[] 0):=⟨_,rfl⟩
 obtain ⟨W2,hW2⟩:∃ W2,W2=W1.alloc (.cells #[.map (some M)] 182):=⟨_,rfl⟩
 obtain ⟨W3,hW3⟩:∃ W3,W3=W2.alloc (.cells #[.slice A fs.length cap] 23):=⟨_,rfl⟩
 have z1:W1.heap.size=M + 1:=by rw [hW1,hM]; simp
 have z2:W2.heap.size=M + 1 + 1:=by rw [hW2,World.size_alloc,z1]
 have z3:W3.heap.size=M + 1 + 1 + 1:=by rw [hW3,World.size_alloc,z2]
 have m1:W1.heap[M]?=some (mapObj (strEs [])):=by rw [hW1,hM]; exact (Go.MapKept.heap_alloc _ _).1
 have m2:W2.heap[M]?=some (mapObj (strEs [])):=by rw [hW2]; exact ((Go.MapKept.heap_alloc _ _).2 _ (by omega)).trans m1
 have m3:W3.heap[M]?=some (mapObj (strEs [])):=by rw [hW3]; exact ((Go.MapKept.heap_alloc _ _).2 _ (by omega)).trans m2
 have b2:Boxed W2 (M + 1) 182 (.map (some M)):=by rw [hW2,← z1]; exact Boxed.new _ _ _
 have b3:Boxed W3 (M + 1) 182 (.map (some M)):=by rw [hW3]; exact b2.alloc _
 have x3:W3.heap[M + 1 + 1]?=some (.cells #[.slice A fs.length cap] 23 (0,0)):=by rw [hW3,← z2]; exact World.alloc_heap_new _ _
 have hB3:Below M h.w W3:=by
  rw [hW3,hW2,hW1,hM]
  exact (((Below.refl _ h.w).alloc (Nat.le_refl _) _).alloc (by simp) _).alloc (by simp; omega) _
 refine callsIn_of_wp_marks Tryz.func142 rfl trivial ?_ rfl
 simp only [Tryz.ntmps142,List.size_toArray,List.length_cons,List.length_nil,Nat.reduceAdd,Nat.reduceSub,Array.replicate_succ,Array.replicate_zero,List.push_toArray,List.append_toArray,List.nil_append,List.cons_append]
 have HR:=Lib.hid hr
 have HV:=Lib.hid hvl
 have HS:=Lib.hid hsl
 have HX:=Lib.hid x3
 have HM3:=Lib.hid m3
 have HB:=Lib.hid hB3
 have HB3:=Lib.hid b3
 have HZ:=Lib.hid z3
 clear hr hvl hsl x3 m1 m2 m3 b2 b3 hB3 z1 z2 z3
 rw [← hM]
 gi_wp2
 simp only [run_makeMap,Result.andThen,← hM,← hW1]
 gi_wp2_with ((try refine ⟨trivial,?_⟩); (try refine ⟨wide_depth _,?_⟩); gi_at_call 169; refine (back_in A fs.length cap (n - 1) _).mono ?_; rintro e w' ⟨rfl,rfl⟩)
 rw [← hM,← hW1,← hW2,← hW3]
 clear hW1 hW2 hW3 W1 W2
 subst hM
 have hsz:=HZ.out
 clear HZ
 refine wpIn_rangeFunc_ownH (α:=Nat) rfl h1 (gf:=184) (lb:=#[.pointer (some ⟨h.w.heap.size + 1 + 1,0,none⟩)]) rfl trivial (enters_of Tryz.func184 (by kernel_rfl) rfl)
  (back_stops fs vs A cap h HR.out HV.out HS.out (n - 1) (h.w.heap.size + 1 + 1) W3 HB.out HX.out) kp_t (kp_b HB.out.size) (Below.refl _ _) (fun _=>rfl)
  (fun pre W=>((∃ l,W.heap[h.w.heap.size]?=some (mapObj (strEs l))∧∀ s,sget s l=lastT fs s pre)∧Boxed W (h.w.heap.size + 1) 182 (.map (some h.w.heap.size)))∧Below h.w.heap.size h.w W)
  (fun _ _ W=>False∧Below h.w.heap.size h.w W)
  (OwnFrom.and (fun s A B row hs hg hr=>⟨by
    obtain ⟨l,h2,h3⟩:=hs.1
    exact ⟨l,(hg.block _ (Array.getElem?_eq_some_iff.1 h2).1 (fun e=>by have:=(hr _ e.symm).1; omega)).trans h2,h3⟩,hs.2.kept hg (cells_own hs.2 rfl (fun r e=>(hr r e).2))⟩) (ownFrom_below (Nat.le_refl _) (by omega)))
  (fun c=>OwnFrom.and (fun s A B row hs hg hr=>hs) (ownFrom_below (Nat.le_refl _) (by omega)))
  ⟨⟨⟨[],HM3.out,fun _=>rfl⟩,HB3.out⟩,HB.out⟩
  (fun i a' W=>∃ b,W.heap[b]?=some (.cells (fdRow (fs.getD i zF) (.slice (sA (vs.getD i undef)) (sN (vs.getD i undef)) (sC (vs.getD i undef)))).toArray 43 (0,0))∧a'={ tmps:=#[Value.slice A fs.length cap,undef,Value.map none,.pointer (some ⟨h.w.heap.size + 1,0,none⟩),undef,.pointer (some ⟨b,0,none⟩),.map (some h.w.heap.size),.slice A fs.length cap,.func (.func 184) #[] #[.pointer (some ⟨h.w.heap.size + 1 + 1,0,none⟩)],.int .i64 (i:Int),fdVal (fs.getD i zF) (.slice (sA (vs.getD i undef)) (sN (vs.getD i undef)) (sC (vs.getD i undef))),undef,undef,undef,undef,undef,undef],defers:=[] })
  (fun i a' s A B row hs hg hr=>by
   obtain ⟨b,h2,h3⟩:=hs
   refine ⟨b,(hg.block _ (Array.getElem?_eq_some_iff.1 h2).1 (fun e=>?_)).trans h2,h3⟩
   obtain ⟨-,o,ho,hc⟩:=hr _ e.symm
   rw [h2] at ho; cases ho; cases hc) ?assign ?body ?done ?stop
 case assign =>
  intro l pre i W K hI hK
  have hk0:=Kp.alloc hI.2.size (.cells (fdRow (fs.getD i zF) (.slice (sA (vs.getD i undef)) (sN (vs.getD i undef)) (sC (vs.getD i undef)))).toArray 43)
  have hb0:=hI.2.trans hk0.below
  have hI2:=(hI.1.2.alloc (.cells (fdRow (fs.getD i zF) (.slice (sA (vs.getD i undef)) (sN (vs.getD i undef)) (sC (vs.getD i undef)))).toArray 43))
  have hm2:(W.alloc (.cells (fdRow (fs.getD i zF) (.slice (sA (vs.getD i undef)) (sN (vs.getD i undef)) (sC (vs.getD i undef)))).toArray 43)).heap[h.w.heap.size]?=W.heap[h.w.heap.size]?:=(Go.MapKept.heap_alloc W _).2 _ (by
   obtain ⟨l,h2,-⟩:=hI.1.1
   exact (Array.getElem?_eq_some_iff.1 h2).1)
  have hx2:=World.alloc_heap_new W (.cells (fdRow (fs.getD i zF) (.slice (sA (vs.getD i undef)) (sN (vs.getD i undef)) (sC (vs.getD i undef)))).toArray 43)
  have HK:=hK _ _ ((KeepsOthers.alloc W (.cells (fdRow (fs.getD i zF) (.slice (sA (vs.getD i undef)) (sN (vs.getD i undef)) (sC (vs.getD i undef)))).toArray 43)).from _) hk0 ⟨⟨by rw [hm2]; exact hI.1.1,hI2⟩,hb0⟩ ⟨_,hx2,rfl⟩
  clear hK hI hk0 hb0 hI2 hm2 hx2
  generalize fs.getD i zF=f at *
  generalize vs.getD i undef=u at *
  gi_wp2
  exact HK
 case body =>
  rintro l pre i a' W hl - ⟨⟨⟨lm,hm,hg⟩,hbx⟩,hB⟩ ⟨b,hb,rfl⟩ hpl
  obtain ⟨l2,hu,hg2,-,-⟩:=run_update_str (P:=Tryz.prog) (t:=182) (s:=(fs.getD i zF).name) (v:=.int .i64 (fs.getD i zF).ty) hm Tryz.underlying182 Tryz.underlying9
  have cM:=hbx.cell
  have c0:W.cell? ⟨b,0,none⟩=some (.string (fs.getD i zF).name):=by simp [World.cell?,hb]
  have c2:W.cell? ⟨b,2,none⟩=some (.int .i64 (fs.getD i zF).ty):=by simp [World.cell?,hb]
  have hgr:=grown_set (mapObj (strEs l2)) hm
  have hset:=(Go.MapKept.heap_set (o':=mapObj (strEs l2)) hm).1
  have hml:=(Array.getElem?_eq_some_iff.1 hm).1
  have hbl:Below h.w.heap.size W _:=(Below.refl h.w.heap.size W).grown hgr hB.size (fun k e=>by cases e; exact Nat.le_refl _)
  have hkc:=KeepsCells.grown hgr (fun r e=>by cases e; exact ⟨_,hm,rfl⟩)
  have hfin:∀ s,sget s l2=lastT fs s (pre++[i]):=fun s=>by rw [hg2 s,lastT_snoc,hg s]
  have hex:∃ l,({ W with heap:=W.heap.setIfInBounds h.w.heap.size (mapObj (strEs l2)) }:World).heap[h.w.heap.size]?=some (mapObj (strEs l))∧∀ s,sget s l=lastT fs s (pre++[i]):=⟨l2,hset,hfin⟩
  have HF:=Lib.hid (And.intro (KeepsFrom.of_grownBy (B:=W3.heap.size) hgr (fun j e=>by cases e; omega)) (And.intro (Kp.mk hbl hkc) (And.intro (And.intro hex (hkc.boxed hbx)) (hB.trans hbl))))
  clear hex hgr hset hml hbl hkc hfin hg hg2 hB hm hb hbx
  generalize fs.getD i zF=f at *
  generalize vs.getD i undef=u at *
  gi_wp2_with (first | (gi_at_mapUpdate; refine wpListIn_mapUpdate_at rfl _ _ _ 182 rfl rfl rfl rfl hu ?_) | gi_in)
  have hfo:=HF.out
  rw [hsz] at hfo
  exact ⟨hfo.1,hfo.2.1,hfo.2.2⟩
 case done =>
  rintro D ys W hD rfl ⟨⟨⟨l,hm,hg⟩,hbx⟩,hB⟩ hK
  have cM:=hbx.cell
  have hfin:∀ s,sget s l=(tyF fs s).map (.int .i64):=fun s=>by rw [hg s,lastT_dn fs s _ (Nat.le_refl _),Nat.sub_self,List.drop_zero]
  have HF:=Lib.hid (And.intro hm (And.intro hfin hB))
  clear hg hfin hB hbx hm
  gi_wp2
  refine ⟨by simp,.inl ⟨_,_,rfl,run_takeDeferred hK,?_⟩⟩
  obtain ⟨f1,f2,f3⟩:=HF.out
  have hml:=(Array.getElem?_eq_some_iff.1 f1).1
  have hp:(W.putObj D (.deferred none)).heap[h.w.heap.size]?=some (mapObj (strEs l)):=(World.putObj_heap_other (by omega)).trans f1
  refine ⟨.map (some h.w.heap.size),?_,rfl,⟨l,hp,f2⟩,f3.trans (belowK_b (w:=h.w) (Nat.le_refl _) _ D _ _ (by omega) hK rfl rfl)⟩
  simp [results,Tryz.f142,go_sem]
 case stop =>
  rintro D c pre W hD - ⟨hf,-⟩
  exact hf.elim

end Go.Proofs.YthckljafinhepaaGreat

namespace Go.Proofs.YthckljafinhepaaGreat
open Go.RowKit Go.Maps Go.WideElems Go.WideShapes

theorem map_owned {P:Program} {w:World} {b:Nat} {k e:TypeId} {l:List (ByteArray × Value)} (hb:w.heap[b]?=some (mapObj (strEs l))) (hn:(l.map (·.1)).Nodup) (hs:∀ p∈l,p.1.size≤maxLen) (hv:∀ p∈l,p.2=.bool true) (hl:l.length≤maxLen)
  (hk:P.underlying k=some .string) (he:P.underlying e=some .bool):∃ D0:DataW Unit,w.ownsMap P k (plainElem P e) b l.length D0∧(strKeys D0).Perm (l.map fun p=>p.1.data.toList)∧Maps.size D0=l.length:=by
 have hes:(ments (strEs l)).toArray.toList=ments (strEs l):=rfl
 have hrd:∀ x∈ments (strEs l),∃ p∈l,rd P k (plainElem (H:=Unit) P e) x=some (.string p.1.data.toList,.lit (.bool true)):=fun x hx=>by
  obtain ⟨i,hi⟩:=List.getElem?_of_mem hx
  rw [ments_get,strEs,List.getElem?_map] at hi
  cases hp:l[i]? with
  | none=>rw [hp] at hi; cases hi
  | some p =>
   rw [hp] at hi
   simp only [Option.map_some,Option.some.injEq] at hi
   subst hi
   have hm:=List.mem_of_getElem? hp
   refine ⟨p,hm,?_⟩
   have h1:=hs p hm
   have h2:=hv p hm
   simp [rd,keyOf,mapKey,hk,h1,plainElem,he,h2]
 have hmap:(ments (strEs l)).map (rg P k (plainElem (H:=Unit) P e))=l.map fun p=>(Lit.string p.1.data.toList,DataW.lit (.bool true)):=by
  refine List.ext_getElem? fun i=>?_
  rw [List.getElem?_map,ments_get,strEs,List.getElem?_map,List.getElem?_map]
  cases hp:l[i]? with
  | none=>rfl
  | some p =>
   have hm:=List.mem_of_getElem? hp
   have h1:=hs p hm
   have h2:=hv p hm
   simp [rg,rd,keyOf,mapKey,hk,h1,plainElem,he,h2]
 have hlen:(ments (strEs l)).length=l.length:=by simp [ments,strEs]
 refine ⟨_,⟨(ments (strEs l)).toArray,l.length,?_,⟨by simpa [hlen] using hl,?_,fun x hx=>?_⟩,by simp [hlen],rfl⟩,?_,?_⟩
 ·rw [hb,mapObj]; simp [strEs]
 ·rw [Go.MapKept.stamped_iff,hes]
  have hborn:(ments (strEs l)).map (·.born)=List.range l.length:=by
   refine List.ext_getElem? fun i=>?_
   rw [List.getElem?_map,ments_get,strEs,List.getElem?_map]
   rcases Nat.lt_or_ge i l.length with g | g
   ·rw [List.getElem?_eq_getElem g,List.getElem?_range g]; rfl
   ·rw [List.getElem?_eq_none g,List.getElem?_eq_none (by simpa using g)]; rfl
  have hkeys:(ments (strEs l)).map (·.key)=l.map fun p=>Value.string p.1:=by
   refine List.ext_getElem? fun i=>?_
   rw [List.getElem?_map,ments_get,strEs,List.getElem?_map,List.getElem?_map]
   cases l[i]? <;> rfl
  refine ⟨fun x hx=>?_,by rw [hborn]; exact List.nodup_range,?_⟩
  ·have:x.born∈(ments (strEs l)).map (·.born):=List.mem_map.2 ⟨x,hx,rfl⟩
   rw [hborn] at this
   exact List.mem_range.1 this
  ·have:((ments (strEs l)).map (·.key)).Nodup:=by
    rw [hkeys]
    have h2:(l.map fun p=>Value.string p.1)=(l.map (·.1)).map Value.string:=by rw [List.map_map]; rfl
    rw [h2]
    exact List.pairwise_map.2 (hn.imp fun hne e=>hne (by injection e))
   exact List.pairwise_map.1 this
 ·obtain ⟨p,-,h⟩:=hrd x hx; exact ⟨_,h⟩
 ·rw [hes,hmap]
  show (List.map (fun (p:Lit × DataW Unit)=>strOf p.1) _).Perm _
  refine ((sorted_perm _).map _).trans ?_
  rw [List.map_map]
  exact List.Perm.refl _
 ·rw [hes,hmap]
  show (List.foldr DataW.insert [] _).length=_
  rw [(sorted_perm _).length_eq,List.length_map]

end Go.Proofs.YthckljafinhepaaGreat
