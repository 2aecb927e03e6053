/-
  Contracts of package num and of the law's own picked and within, over the given translation; no condition but that the numbers are int64's.
-/
import Derived.Test.YthplkompdehjlaaGreatDoorRows
import Derived.WalkKit
import Derived.WalkSpells
import Derived.WalkLawsBesides
import Derived.Lib.Hide
import Derived.Test.YthplkompdehjlaaGreatDoorZR13
import Derived.Deep.QuietTactic
import Derived.BigQuiet
import Derived.Test.YthplkompdehjlaaGreatDoorZR19
import Derived.Test.YthplkompdehjlaaGreatDoorZR14
import Derived.Test.YthplkompdehjlaaGreatDoorZR3
import Derived.Test.YthplkompdehjlaaGreatDoorZR21
import Derived.Test.YthplkompdehjlaaGreatDoorZR20
import Derived.Test.YthplkompdehjlaaGreatDoorZR10
import Derived.RangeFuncNested
import Derived.RangeFuncBound
import Derived.RangeFuncCalls
import Derived.RangeFuncLeaves
import Derived.RangeFuncBox
import Derived.Shelf.Abstract
import Derived.OwnWalkIn
import Derived.TacticsInMore
import Derived.LoopNIn
import Derived.LoopIn
import Derived.Laws.EntriesVeiled
import Derived.Maps.OwnIn
import Derived.Test.YthplkompdehjlaaGreatDoorZR9
import Derived.Test.YthplkompdehjlaaGreatDoorZR8
import Derived.Test.YthplkompdehjlaaGreatDoorZR5
import Derived.Test.YthplkompdehjlaaGreatDoorZR36
import Derived.Maps.Own
import Derived.Maps.Range
import Derived.Sort.KeysCollected
set_option maxRecDepth 100000
namespace Go.Proofs.YthplkompdehjlaaGreatDoor
open Go.RowKit
end Go.Proofs.YthplkompdehjlaaGreatDoor
namespace Go.Proofs.YthplkompdehjlaaGreatDoor
open Go.RowKit
end Go.Proofs.YthplkompdehjlaaGreatDoor
namespace Go.Proofs.YthplkompdehjlaaGreatDoor
open Go.RowKit
def down (a b:Int):Bool:=decide (a.tmod b≠0) && (decide (a.tmod b < 0) != decide (b < 0))
def fq (a b:Int):Int:=if down a b then a.tdiv b - 1 else a.tdiv b
def fr (a b:Int):Int:=if down a b then a.tmod b + b else a.tmod b
end Go.Proofs.YthplkompdehjlaaGreatDoor
namespace Go.Proofs.YthplkompdehjlaaGreatDoor
open Go.RowKit
def faultV (e:Int):Vl:=⟨5,e,⟨#[]⟩⟩
def truthV (b:Bool):Vl:=⟨2,if b then 1 else 0,⟨#[]⟩⟩
def numOp (op a b:Int):Int × Int :=
 if op=5 then (if -1099511627776≤a * b∧a * b≤1099511627776 then (a * b,0) else (0,7))
 else if op=6 then (if b=0 then (0,8) else (fq a b,0))
 else if op=7 then (if b=0 then (0,8) else (fr a b,0))
 else if op=8 then (if -1099511627776≤a + b∧a + b≤1099511627776 then (a + b,0) else (0,7))
 else (if -1099511627776≤a - b∧a - b≤1099511627776 then (a - b,0) else (0,7))
def nrV (op a b:Int):Vl:=if (numOp op a b).2=0 then ⟨1,(numOp op a b).1,⟨#[]⟩⟩ else faultV (numOp op a b).2
def kindsV (l:List Vl) (k:Int):Bool:=l.all (fun v=>v.k == k)
def hdV (l:List Vl) (i:Nat):Vl:=l.getD i ⟨0,0,⟨#[]⟩⟩
def cmpB (op c:Int):Bool:=if op=11 then decide (c < 0) else if op=12 then decide (c≤0) else if op=13 then c == 0 else c != 0
def joinV (x y:Vl):Vl:=if 40 < x.s.size + y.s.size then faultV 1 else ⟨3,0,x.s++y.s⟩
def lJ (op:Int) (l:List Vl):Vl :=
 if 11≤op∧op≤14 then (if (hdV l 0).k=(hdV l 1).k then truthV (cmpB op (cmpV (hdV l 0).n (hdV l 1).n (hdV l 0).s.toList (hdV l 1).s.toList)) else faultV 9)
 else if op=4 then (if kindsV l 2 then truthV ((hdV l 0).n == 0) else faultV 9)
 else if op=18 then (if kindsV l 3 then ⟨1,((hdV l 0).s.size:Int),⟨#[]⟩⟩ else faultV 9)
 else if op=10 then (if kindsV l 3 then joinV (hdV l 0) (hdV l 1) else faultV 9)
 else if op=3 then (if kindsV l 1 then nrV 9 0 (hdV l 0).n else faultV 9)
 else (if kindsV l 1 then nrV op (hdV l 0).n (hdV l 1).n else faultV 9)
def lackV:Option Vl→List Vl→Option Vl
 | p,[]=>p
 | p,v :: l=>if v.k=5 then some v else lackV (if v.k=4 then some v else p) l
def boolV (v:Vl):Vl:=if v.k=1∨v.k=3 then faultV 9 else v
def firstV (v:Vl):Vl × Bool:=if v.k=1∨v.k=3 then (faultV 9,false) else (v,v.k == 2)
mutual
def evalE (env:Env):Ex→Vl
 | .mk op k n s nm args =>
  if op=1 then ⟨k,n,s⟩
  else if op=2 then (match env.get nm with | some v=>v | none=>faultV 5)
  else if op=15∨op=16 then
   (if (firstV (hdV (evalL env args) 0)).2=false∨((firstV (hdV (evalL env args) 0)).1.n == 1)=(op == 16) then (firstV (hdV (evalL env args) 0)).1 else boolV (hdV (evalL env args) 1))
  else if op=17 then
   (if (firstV (hdV (evalL env args) 0)).2=false then (firstV (hdV (evalL env args) 0)).1 else if (firstV (hdV (evalL env args) 0)).1.n=1 then hdV (evalL env args) 1 else hdV (evalL env args) 2)
  else (match lackV none (evalL env args) with | some v=>v | none=>lJ op (evalL env args))
def evalL (env:Env):List Ex→List Vl
 | []=>[]
 | x :: l=>evalE env x :: evalL env l
end
end Go.Proofs.YthplkompdehjlaaGreatDoor
namespace Go.Proofs.YthplkompdehjlaaGreatDoor
open Go.RowKit
theorem ex_ind {p:Ex→Prop} (h:∀ x:Ex,(∀ y∈x.args,p y)→p x) (x:Ex):p x:=by
 have key:∀ (m:Nat) (x:Ex),(szE x).1≤m→p x:=by
  intro m
  induction m with
  | zero=>intro x hx; have:=gY x; omega
  | succ m ih =>
   intro x hx
   refine h x fun y hy=>ih y ?_
   have h1:=fY x
   have h2:=(iY hy).1
   rw [h1] at hx
   simp only at hx
   omega
 exact key _ x (Nat.le_refl _)
mutual
def iX:Ex→List ByteArray
 | .mk op _ _ _ nm args=>(if op=2 then [nm] else [])++jX args
def jX:List Ex→List ByteArray
 | []=>[]
 | x :: l=>iX x++jX l
end
theorem refsE_eq (x:Ex):iX x=(if x.op=2 then [x.nm] else [])++jX x.args:=by
 obtain ⟨a,b,c,d,e,l⟩:=x
 rw [iX]; rfl
theorem refsL_app (l m:List Ex):jX (l++m)=jX l++jX m:=by
 induction l with
 | nil=>simp [jX]
 | cons x l ih=>rw [List.cons_append,jX,jX,ih,List.append_assoc]
theorem mem_refsL {s:ByteArray}:∀ {l:List Ex},s∈jX l↔∃ x∈l,s∈iX x
 | []=>by simp [jX]
 | x :: l=>by rw [jX,List.mem_append,mem_refsL (l:=l)]; simp
theorem refs_op (op:Int) (l:List Ex) (h:op≠2):iX (opE op l)=jX l:=by
 rw [refsE_eq,if_neg (show ¬ (opE op l).op=2 from h)]; rfl
theorem refs_ref (s:ByteArray):iX (refE s)=[s]:=by
 rw [refsE_eq,if_pos (show (refE s).op=2 from rfl)]; rfl
mutual
def putE (n:ByteArray) (y:Ex):Ex→Ex
 | .mk op k m s nm args=>if op=2∧nm=n then y else .mk op k m s nm (putL n y args)
def putL (n:ByteArray) (y:Ex):List Ex→List Ex
 | []=>[]
 | x :: l=>putE n y x :: putL n y l
end
theorem ref_shape {x:Ex} (h:WfE x) (h2:x.op=2):x=refE x.nm∧oJ x.nm.data.toList:=by
 rcases h.top with ⟨h1,-⟩ | ⟨h1,hn,hk,hm,hs,ha⟩ | ⟨h1,-⟩
 ·omega
 ·obtain ⟨a,b,c,d,e,l⟩:=x
  simp only [Ex.op,Ex.k,Ex.n,Ex.s,Ex.args] at h1 hk hm hs ha
  have ha:l=[]:=List.length_eq_zero_iff.1 ha
  subst h1 hk hm hs ha
  exact ⟨rfl,hn⟩
 ·omega
theorem ref_args {x:Ex} (h:WfE x) (h2:x.op=2):x.args=[]:=by rw [(ref_shape h h2).1]; rfl
end Go.Proofs.YthplkompdehjlaaGreatDoor
namespace Go.Proofs.YthplkompdehjlaaGreatDoor
open Go.RowKit Go.Shelf
attribute [local go_sem] Oper.semAt_some
structure KeepsCells (W W':World):Prop where
 size:W.heap.size≤W'.heap.size
 same:∀ (k:Nat) (o:Obj),W.heap[k]?=some o→o.isCells=true→W'.heap[k]?=some o
theorem KeepsCells.refl (W:World):KeepsCells W W:=⟨Nat.le_refl _,fun _ _ h _=>h⟩
theorem KeepsCells.trans {A B C:World} (h:KeepsCells A B) (k:KeepsCells B C):KeepsCells A C:=⟨Nat.le_trans h.size k.size,fun i o hi ho=>k.same i o (h.same i o hi ho) ho⟩
theorem KeepsCells.grown {W W':World} {row:Option Nat} (hg:W.grownBy W' row) (hr:∀ r,row=some r→∃ o:Obj,W.heap[r]?=some o∧o.isCells=false):KeepsCells W W' :=
 ⟨hg.size,fun k o hk ho=>(hg.block k (Array.getElem?_eq_some_iff.1 hk).1 (fun e=>by
  obtain ⟨o',h1,h2⟩:=hr k e.symm
  rw [hk] at h1
  simp only [Option.some.injEq] at h1
  subst h1
  rw [ho] at h2; cases h2)).trans hk⟩
theorem KeepsCells.alloc (W:World) (o:Obj):KeepsCells W (W.alloc o):=.grown (World.grownBy_alloc W o none) (fun r e=>by cases e)
theorem KeepsCells.boxed {W W':World} (h:KeepsCells W W') {b:Nat} {t:TypeId} {v:Value} (hb:Boxed W b t v):Boxed W' b t v:=h.same b _ hb rfl
theorem KeepsCells.cell {W W':World} (h:KeepsCells W W') {a:Addr} {v:Value} (hc:W.cell? a=some v):W'.cell? a=some v:=by
 unfold World.cell? at hc ⊢
 cases ho:W.heap[a.block]? with
 | none=>rw [ho] at hc; cases hc
 | some o =>
  rw [ho] at hc
  cases o with
  | cells cs t f=>rw [h.same _ _ ho rfl]; exact hc
  | _=>cases hc
structure Kp (n:Nat) (W W':World):Prop where
 below:Below n W W'
 cells:KeepsCells W W'
theorem Kp.refl (n:Nat) (W:World):Kp n W W:=⟨Below.refl _ _,KeepsCells.refl _⟩
theorem Kp.trans {n:Nat} {A B C:World} (h:Kp n A B) (k:Kp n B C):Kp n A C:=⟨h.below.trans k.below,h.cells.trans k.cells⟩
theorem Kp.alloc {n:Nat} {W:World} (hn:n≤W.heap.size) (o:Obj):Kp n W (W.alloc o):=⟨(Below.refl _ _).alloc hn _,KeepsCells.alloc _ _⟩
theorem kp_t {n:Nat} {A B C:World} (h:Kp n A B) (k:Kp n B C):Kp n A C:=h.trans k
theorem kp_b {n:Nat} {w:World} (hn:n≤w.heap.size) (W:World) (l:Nat) (o o':Obj) (hl:w.heap.size≤l) (h:W.heap[l]?=some o) (hc:o.isCells=false) (hw:o.isWalk=false):Kp n W (W.putObj l o') :=
 ⟨belowK_b hn W l o o' hl h hc hw,.grown (grownBy_putObj' W l o') (fun r e=>by cases e; exact ⟨o,h,hc⟩)⟩
theorem sees_below {h:Vw} {W:World} (hb:Below h.w.heap.size h.w W):Sees h ⟨W,h.bad⟩:=⟨hb.size,fun b hlt _=>hb.block b hlt,fun _ hb _=>hb⟩
theorem grown_none {W W':World} (hb:Below W.heap.size W W'):W.grownBy W' none:=⟨hb.os,hb.tape,hb.output,hb.size,fun k hk _=>hb.block k hk⟩
theorem room_of_none {F:Fence} (hd:F.depth=none) (k:Nat):F.room k:=fun d h=>by rw [hd] at h; cases h
theorem RoundIn.anyDepth {F:Fence} (hd:F.depth=none) {m m':Nat} {P:Program} {l:Nat} {f:FuncId} {tmps:Array Value} {assign body:Code} {w:World} {R:Ending→World→Prop}
  (h:RoundIn F m P l f tmps assign body w R):RoundIn F m' P l f tmps assign body w R:=⟨h.1,fun c cs _=>h.2 c cs (room_of_none hd _)⟩
theorem YieldAt.anyDepth {F:Fence} (hd:F.depth=none) {m:Nat} (m':Nat) {P:Program} {l:Nat} {args:Array Value} {W:World} {R:Ending→World→Prop} (h:YieldAt F m P l args W R):YieldAt F m' P l args W R:=by
 obtain ⟨fn,tmps,assign,body,hy,hR⟩:=h
 exact ⟨fn,tmps,assign,body,hy,RoundIn.anyDepth hd hR⟩
theorem lY (k:Nat):Fence.wide.depth.isSome=true→1≤k:=fun h=>by
 have e:Fence.wide.depth=none:=rfl
 rw [e] at h; cases h
def WalkPost (n₀:Nat) (J Jx:List ByteArray→World→Prop) (pre r:List ByteArray) (W:World) (e:Ending) (W':World):Prop :=
 (e=.returned (.bool true)∧J (pre++r) W'∧Kp n₀ W W')∨(e=.returned (.bool false)∧∃ q,q <+: r∧Jx (pre++q) W')
def YieldPost (n₀:Nat) (J Jx:List ByteArray→World→Prop) (pre:List ByteArray) (s:ByteArray) (W:World) (e:Ending) (W':World):Prop :=
 (e=.returned (.bool true)∧J (pre++[s]) W'∧Kp n₀ W W')∨(e=.returned (.bool false)∧Jx (pre++[s]) W')
abbrev walkV (bY bW:Nat):Value:=.func (.func 160) #[] #[.pointer (some ⟨bY,0,none⟩),.pointer (some ⟨bW,0,none⟩)]
set_option maxHeartbeats 2000000 in
theorem walk_ref (l bY bW N B:Nat) (n₀:Nat) (J Jx:List ByteArray→World→Prop) (hJ:AbidesFrom B J)
  (hY:∀ m pre s W,J pre W→pre.length < N→YieldAt Fence.wide m Tryz.prog l #[.string s] W (YieldPost n₀ J Jx pre s W))
  (s:ByteArray) (A:Option Addr) (c n:Nat) (pre:List ByteArray) (W:World) (hn:n₀≤W.heap.size) (bY':Boxed W bY 149 (.func (.yield l) #[] #[])) (hj:J pre W) (hN:pre.length < N) :
  CallsIn Fence.wide n Tryz.prog 160 #[.agg #[.int .i64 2,.int .i64 0,.int .i64 0,.string ⟨#[]⟩,.string s,.slice A 0 c],.pointer (some ⟨bY,0,none⟩),.pointer (some ⟨bW,0,none⟩)] W
   (WalkPost n₀ J Jx pre [s] W):=by
 have hj2:J pre (W.alloc (.cells #[.int .i64 2,.int .i64 0,.int .i64 0,.string ⟨#[]⟩,.string s,.slice A 0 c] 27)):=hJ pre W _ none hj (World.grownBy_alloc W _ none) (fun r e=>by cases e)
 obtain ⟨fn,tmps,assign,body,hy,hR⟩:=hY (n - 1) pre s _ hj2 hN
 have cY:=(bY'.alloc (.cells #[.int .i64 2,.int .i64 0,.int .i64 0,.string ⟨#[]⟩,.string s,.slice A 0 c] 27)).cell
 have bx:=Box.new W #[.int .i64 2,.int .i64 0,.int .i64 0,.string ⟨#[]⟩,.string s,.slice A 0 c] 27
 have hk0:=Kp.alloc hn (.cells #[.int .i64 2,.int .i64 0,.int .i64 0,.string ⟨#[]⟩,.string s,.slice A 0 c] 27)
 have hR2:=hR.mono (R':=fun e W2=>(e=.returned (.bool true)∧J (pre++[s]) W2∧Kp n₀ _ W2∧W2.cell? ⟨W.heap.size,5,none⟩=some (.slice A 0 c))∨(e=.returned (.bool false)∧Jx (pre++[s]) W2))
  (fun e W2 h=>h.elim (fun ⟨a,b,k⟩=>.inl ⟨a,b,k,k.cells.cell (bx.cells 5 _ rfl)⟩) .inr)
 clear hR
 refine callsIn_of_wp Tryz.func160 rfl trivial ?_ rfl
 simp only [Tryz.ntmps160,List.size_toArray,List.length_cons,List.length_nil,Nat.reduceAdd,Nat.reduceSub,Array.replicate_succ,Array.replicate_zero,List.push_toArray,List.append_toArray,List.nil_append,List.cons_append]
 gi_wp2_with ((try refine ⟨lY _,?_⟩); refine hR2.mono ?_; clear hR2; rintro e W2 (⟨rfl,hJ2,hk2,c5⟩ | ⟨rfl,hx2⟩))
 ·gi_loopw [20] (fun i wr=>i=.int .i64 0∧W2=wr) (fun _ _=>0)
  case atStart=>exact ⟨rfl,rfl⟩
  case round =>
   obtain ⟨rfl,rfl⟩:=hrel
   gi_wp2
   go_ret
   exact .inl ⟨rfl,hJ2,hk0.trans hk2⟩
 ·go_ret
  exact .inr ⟨rfl,[s],List.prefix_refl _,hx2⟩
set_option maxHeartbeats 2000000 in
theorem walk_any (l bY bW N B:Nat) (h:Vw) (J Jx:List ByteArray→World→Prop) (hJ:AbidesFrom B J)
  (hY:∀ m pre s W,J pre W→pre.length < N→YieldAt Fence.wide m Tryz.prog l #[.string s] W (YieldPost h.w.heap.size J Jx pre s W)) (x:Ex) :
  ∀ (v:Value) (n:Nat) (pre:List ByteArray) (W:World),IsArgs h x v→WfE x→Below h.w.heap.size h.w W→Boxed W bY 149 (.func (.yield l) #[] #[])→Boxed W bW 150 (walkV bY bW)→J pre W→pre.length + (iX x).length≤N → 
  CallsIn Fence.wide n Tryz.prog 160 #[.agg #[.int .i64 x.op,.int .i64 x.k,.int .i64 x.n,.string x.s,.string x.nm,v],.pointer (some ⟨bY,0,none⟩),.pointer (some ⟨bW,0,none⟩)] W (WalkPost h.w.heap.size J Jx pre (iX x) W):=by
 refine ex_ind (p:=fun x=>∀ (v:Value) (n:Nat) (pre:List ByteArray) (W:World),IsArgs h x v→WfE x→Below h.w.heap.size h.w W→Boxed W bY 149 (.func (.yield l) #[] #[])→Boxed W bW 150 (walkV bY bW)→J pre W→pre.length + (iX x).length≤N → 
  CallsIn Fence.wide n Tryz.prog 160 #[.agg #[.int .i64 x.op,.int .i64 x.k,.int .i64 x.n,.string x.s,.string x.nm,v],.pointer (some ⟨bY,0,none⟩),.pointer (some ⟨bW,0,none⟩)] W (WalkPost h.w.heap.size J Jx pre (iX x) W)) (fun x ih v n pre W hx hw hb hbY hbW hj hN=>?_) x
 by_cases h2:x.op=2
 ·obtain ⟨e,-⟩:=ref_shape hw h2
  obtain ⟨A,n',c,rfl⟩:=hx.slice
  have hn0:n'=0:=by
   obtain ⟨vs,hr,hvs⟩:=hx.form
   obtain ⟨A',c',e',-⟩:=hr.form
   rw [nK hvs.len,ref_args hw h2] at e'
   simp at e'
   exact e'.2.1
  subst hn0
  rw [e]
  rw [e,refs_ref] at hN ⊢
  exact walk_ref l bY bW N B h.w.heap.size J Jx hJ hY x.nm A c n pre W hb.size hbY hj (by simp at hN; omega)
 ·rw [refsE_eq,if_neg h2,List.nil_append] at hN ⊢
  obtain ⟨vs,hr,hvs⟩:=hx.form
  obtain ⟨A,ca,rfl,hc1,hc2,-⟩:=hr.form
  have hvl:=hvs.len
  have hrl:=nK hvl
  rw [hrl] at hc1 hr ⊢
  have HR:=Lib.hid hr
  have HV:=Lib.hid hvs
  have HIH:=Lib.hid ih
  have HWL:=Lib.hid hw.list
  have HB:=Lib.hid hb
  have hop:(x.op == 2)=false:=beq_eq_false_iff_ne.2 h2
  have hj2:J pre (W.alloc (.cells #[.int .i64 x.op,.int .i64 x.k,.int .i64 x.n,.string x.s,.string x.nm,.slice A x.args.length ca] 27)):=hJ pre W _ none hj (World.grownBy_alloc W _ none) (fun r e=>by cases e)
  have hk0:=Kp.alloc hb.size (.cells #[.int .i64 x.op,.int .i64 x.k,.int .i64 x.n,.string x.s,.string x.nm,.slice A x.args.length ca] 27)
  clear hx hr hvs hw hb hrl hvl
  generalize hL:x.args.length=len at *
  unfold maxLen at hc2
  refine callsIn_of_wp Tryz.func160 rfl trivial ?_ rfl
  simp only [Tryz.ntmps160,List.size_toArray,List.length_cons,List.length_nil,Nat.reduceAdd,Nat.reduceSub,Array.replicate_succ,Array.replicate_zero,List.push_toArray,List.append_toArray,List.nil_append,List.cons_append]
  gi_wp2
  refine ⟨fun _ h=>(by cases h),?_⟩
  gi_wp2
  gi_loopw [20] (fun i wr=>∃ k:Nat,k≤len∧i=.int .i64 k∧J (pre++jX (x.args.take k)) wr∧Kp h.w.heap.size W wr) (fun i _=>len - (intOf i).toNat)
  case atStart=>exact ⟨0,Nat.zero_le _,rfl,by simpa [jX] using hj2,hk0⟩
  case round =>
   obtain ⟨k,hk,rfl,hjk,hkk⟩:=hrel
   by_cases hlt:k < len
   ·obtain ⟨y,hy⟩:∃ y,x.args[k]?=some y:=⟨_,List.getElem?_eq_getElem (by omega)⟩
    obtain ⟨u,hu⟩:∃ u,vs[k]?=some u:=⟨_,List.getElem?_eq_getElem (by have:=HV.out.len; omega)⟩
    have hyu:=AllArgs.get HV.out hy hu
    obtain ⟨Au,nu,cu,rfl⟩:=hyu.slice
    have hrow:(mK x.args vs)[k]?=some (exRow y (.slice Au nu cu)):=by show (List.zipWith exRow _ _)[k]?=_; rw [List.getElem?_zipWith,hy,hu]
    obtain ⟨b,off,rfl,-,hc⟩:=HR.out.row hrow
    have hbr:=HB.out.trans hkk.below
    have hc:=hc.sees (sees_below hbr)
    have c0:wr.cell? ⟨b,off + k * 6,none⟩=_:=hc.lies 0 _ rfl
    have c1:wr.cell? ⟨b,off + k * 6 + 1,none⟩=_:=hc.lies 1 _ rfl
    have c2:wr.cell? ⟨b,off + k * 6 + 2,none⟩=_:=hc.lies 2 _ rfl
    have c3:wr.cell? ⟨b,off + k * 6 + 3,none⟩=_:=hc.lies 3 _ rfl
    have c4:wr.cell? ⟨b,off + k * 6 + 4,none⟩=_:=hc.lies 4 _ rfl
    have c5:wr.cell? ⟨b,off + k * 6 + 5,none⟩=_:=hc.lies 5 _ rfl
    clear hc hrow hu
    have hym:=List.mem_of_getElem? hy
    have hsn:jX (x.args.take (k + 1))=jX (x.args.take k)++iX y:=by rw [jY _ k y hy,refsL_app]; simp [jX]
    have hle:(jX (x.args.take (k + 1))).length≤(jX x.args).length:=by
     have:=congrArg (fun l=>(jX l).length) (List.take_append_drop (k + 1) x.args)
     simp only [refsL_app,List.length_append] at this
     omega
    rw [hsn,List.length_append] at hle
    have hal:Kp h.w.heap.size wr (wr.alloc (.cells #[.int .i64 y.op,.int .i64 y.k,.int .i64 y.n,.string y.s,.string y.nm,.slice Au nu cu] 27)):=Kp.alloc hbr.size _
    have bY2:=(hkk.cells.boxed hbY).alloc (.cells #[.int .i64 y.op,.int .i64 y.k,.int .i64 y.n,.string y.s,.string y.nm,.slice Au nu cu] 27)
    have bW2:=(hkk.cells.boxed hbW).alloc (.cells #[.int .i64 y.op,.int .i64 y.k,.int .i64 y.n,.string y.s,.string y.nm,.slice Au nu cu] 27)
    have cW:=bW2.cell
    have hcall:=HIH.out y hym (.slice Au nu cu) (n - 1) (pre++jX (x.args.take k)) (wr.alloc (.cells #[.int .i64 y.op,.int .i64 y.k,.int .i64 y.n,.string y.s,.string y.nm,.slice Au nu cu] 27)) hyu (HWL.out.get hym) (hbr.trans hal.below) bY2 bW2
     (hJ _ wr _ none hjk (World.grownBy_alloc wr _ none) (fun r e=>by cases e)) (by rw [List.length_append]; omega)
    have HS:=Lib.hid hsn
    clear hsn bY2 bW2
    gi_wp2_with ((try refine ⟨trivial,?_⟩); (try refine ⟨lY _,?_⟩); gi_at_call 160; refine hcall.mono ?_; clear hcall; rintro e W2 (⟨rfl,hJ2,hk2⟩ | ⟨rfl,q,hq,hx2⟩))
    ·go_roundw
     case rel=>exact ⟨k + 1,by omega,by go_num,by rw [HS.out,← List.append_assoc]; exact hJ2,(hkk.trans hal).trans hk2⟩
     case measure=>simp [intOf]; omega
    ·go_ret
     refine .inr ⟨rfl,jX (x.args.take k)++q,?_,by rw [← List.append_assoc]; exact hx2⟩
     have hp:jX (x.args.take (k + 1)) <+: jX x.args:=by
      conv=>rhs; rw [← List.take_append_drop (k + 1) x.args,refsL_app]
      exact List.prefix_append _ _
     rw [HS.out] at hp
     exact ((List.prefix_append_right_inj _).2 hq).trans hp
   ·obtain rfl:k=len:=by omega
    have hta:x.args.take k=x.args:=by rw [← hL,List.take_length]
    rw [hta] at hjk
    clear hta
    gi_wp2
    go_ret
    exact .inl ⟨rfl,hjk,hkk⟩
theorem refs_in (x:Ex) (v:Value) (n:Nat) (W:World) :
  CallsIn Fence.wide n Tryz.prog 145 #[.agg #[.int .i64 x.op,.int .i64 x.k,.int .i64 x.n,.string x.s,.string x.nm,v]] W fun e W'=>e=.returned (.func (.func 159) #[] #[.pointer (some ⟨W.heap.size,0,none⟩)])∧W'=W.alloc (.cells #[.int .i64 x.op,.int .i64 x.k,.int .i64 x.n,.string x.s,.string x.nm,v] 27):=by
 refine callsIn_of_wp Tryz.func145 rfl trivial ?_ rfl
 simp only [Tryz.ntmps145,List.size_toArray,List.length_cons,List.length_nil,Nat.reduceAdd,Nat.reduceSub,Array.replicate_succ,Array.replicate_zero,List.push_toArray,List.append_toArray,List.nil_append,List.cons_append]
 gi_wp2
 go_ret
 exact ⟨rfl,rfl⟩
set_option maxHeartbeats 2000000 in
theorem refs_stops (x:Ex) (v:Value) (h:Vw) (hx:IsArgs h x v) (hw:WfE x) (n bX:Nat) (w:World) (hb:Below h.w.heap.size h.w w) (hX:w.heap[bX]?=some (.cells #[.int .i64 x.op,.int .i64 x.k,.int .i64 x.n,.string x.s,.string x.nm,v] 27 (0,0))) :
  SeqStopsK Fence.wide n Tryz.prog 159 #[.pointer (some ⟨bX,0,none⟩)] (fun s:ByteArray=>#[Value.string s]) (Kp h.w.heap.size) (fun ys=>ys=iX x) (fun pre=>pre <+: iX x) (iX x).length w:=fun l J Jx W hW hJ hJx hY h0=>by
 have hbW:Below h.w.heap.size h.w W:=hb.trans (hW.mono hb.size)
 have hX':W.heap[bX]?=some (.cells #[.int .i64 x.op,.int .i64 x.k,.int .i64 x.n,.string x.s,.string x.nm,v] 27 (0,0)):=(hW.block bX (Array.getElem?_eq_some_iff.1 hX).1).trans hX
 have hxl:=(Array.getElem?_eq_some_iff.1 hX').1
 obtain ⟨A,n',c,rfl⟩:=hx.slice
 obtain ⟨W1,hW1⟩:∃ W1,W1=W.alloc (.cells #[.func (.yield l) #[] #[]] 149):=⟨_,rfl⟩
 have bY1:Boxed W1 W.heap.size 149 (.func (.yield l) #[] #[]):=by rw [hW1]; exact Boxed.new _ _ _
 have z1:W1.heap.size=W.heap.size + 1:=by rw [hW1]; simp
 have b1:Below W.heap.size W W1:=by rw [hW1]; exact (Below.refl _ _).alloc (Nat.le_refl _) _
 obtain ⟨W3,hW3⟩:∃ W3,W3=W1.alloc (.cells #[walkV W.heap.size (W.heap.size + 1)] 150):=⟨_,rfl⟩
 have bW3:Boxed W3 (W.heap.size + 1) 150 (walkV W.heap.size (W.heap.size + 1)):=by rw [hW3,← z1]; exact Boxed.new _ _ _
 have bY3:Boxed W3 W.heap.size 149 (.func (.yield l) #[] #[]):=by rw [hW3]; exact bY1.alloc _
 have b3:Below W.heap.size W W3:=by rw [hW3]; exact b1.alloc (by omega) _
 have c0:W.cell? ⟨bX,0,none⟩=some (.int .i64 x.op):=by simp [World.cell?,hX']
 have c1:W.cell? ⟨bX,1,none⟩=some (.int .i64 x.k):=by simp [World.cell?,hX']
 have c2:W.cell? ⟨bX,2,none⟩=some (.int .i64 x.n):=by simp [World.cell?,hX']
 have c3:W.cell? ⟨bX,3,none⟩=some (.string x.s):=by simp [World.cell?,hX']
 have c4:W.cell? ⟨bX,4,none⟩=some (.string x.nm):=by simp [World.cell?,hX']
 have c5:W.cell? ⟨bX,5,none⟩=some (.slice A n' c):=by simp [World.cell?,hX']
 have hcall:=walk_any l W.heap.size (W.heap.size + 1) (iX x).length W.heap.size h J Jx hJ
  (fun m pre s W hj hl=>YieldAt.mono (YieldAt.anyDepth (show Fence.wide.depth=none from rfl) m (hY pre s W hj hl)) (fun e W' q=>q)) x (.slice A n' c) (n - 1) [] W3 hx hw (hbW.trans (b3.mono hbW.size)) bY3 bW3 (hJ [] W W3 none h0 (grown_none b3) (fun r e=>by cases e)) (by simp)
 clear hx hw hbW hb hX hX' bY1 bY3 bW3 b1 b3 hY hJ hJx hW
 rw [hW3] at hcall
 clear hW3
 rw [hW1] at hcall
 clear hW1 z1 W1 W3
 refine callsIn_of_wp Tryz.func159 rfl trivial ?_ rfl
 simp only [Tryz.ntmps159,List.size_toArray,List.length_cons,List.length_nil,Nat.reduceAdd,Nat.reduceSub,Array.replicate_succ,Array.replicate_zero,List.push_toArray,List.append_toArray,List.nil_append,List.cons_append]
 gi_wp2_with ((try refine ⟨trivial,?_⟩); (try refine ⟨lY _,?_⟩); gi_at_call 160; refine hcall.mono ?_; clear hcall; rintro e W4 (⟨rfl,hJ4,-⟩ | ⟨rfl,q,hq,hx4⟩))
 ·go_end0
  exact ⟨⟨_,rfl⟩,.inl ⟨_,rfl,hJ4⟩⟩
 ·go_end0
  exact ⟨⟨_,rfl⟩,.inr ⟨q,hq,hx4⟩⟩
end Go.Proofs.YthplkompdehjlaaGreatDoor
namespace Go.Proofs.YthplkompdehjlaaGreatDoor
open Go.RowKit
def sidx (s:ByteArray):List (ByteArray × Value)→Option Nat
 | []=>none
 | (k,_) :: l=>if s == k then some 0 else (sidx s l).map (· + 1)
theorem sidx_none {s:ByteArray}:∀ {l:List (ByteArray × Value)},sidx s l=none→sget s l=none
 | [],_=>rfl
 | (k,v) :: l,h=>by
  unfold sidx at h
  unfold sget
  split at h
  ·cases h
  ·rename_i g
   rw [if_neg g]
   exact sidx_none (by simpa using h)
theorem sidx_some {s:ByteArray}:∀ {l:List (ByteArray × Value)} {j:Nat},sidx s l=some j→∃ u,l[j]?=some (s,u)∧(∀ i z,Instr.findNow .string (.string s) (((dY l).zipIdx z).map fun p=>⟨p.1.1,p.1.2,p.2⟩) i=some (some (i + j,u))) ∧
  ∀ v t,sget t (l.set j (s,v))=if t=s then some v else sget t l
 | [],j,h=>by cases h
 | (k,u) :: l,j,h=>by
  unfold sidx at h
  split at h
  ·rename_i g
   simp only [Option.some.injEq] at h
   subst h
   obtain rfl:=(Go.MapKept.bytes_beq s k).1 g
   refine ⟨u,rfl,fun i z=>?_,fun v t=>?_⟩
   ·simp only [dY,List.map_cons,List.zipIdx_cons]
    unfold Instr.findNow
    have hsn:Instr.sameNow .string (.string s) (.string s)=some (s == s):=rfl
    simp only [hsn,g,Nat.add_zero]
   ·rw [List.set_cons_zero]
    unfold sget
    by_cases e:t=s
    ·rw [if_pos e,if_pos (by rw [e]; exact g)]
    ·rw [if_neg e,if_neg (fun q=>e ((Go.MapKept.bytes_beq t s).1 q)),if_neg (fun q=>e ((Go.MapKept.bytes_beq t s).1 q))]
  ·rename_i g
   obtain ⟨j',hj,rfl⟩:=Option.map_eq_some_iff.1 h
   obtain ⟨u',h1,h2,h3⟩:=sidx_some hj
   refine ⟨u',by simpa using h1,fun i z=>?_,fun v t=>?_⟩
   ·simp only [dY,List.map_cons,List.zipIdx_cons]
    unfold Instr.findNow
    have hsn:Instr.sameNow .string (.string s) (.string k)=some (s == k):=rfl
    simp only [hsn,g]
    rw [show i + (j' + 1)=i + 1 + j' by omega]
    exact h2 (i + 1) (z + 1)
   ·rw [List.set_cons_succ]
    unfold sget
    rw [h3 v t]
    by_cases e:t=s
    ·subst e; rw [if_neg g,if_pos rfl,if_pos rfl]
    ·rw [if_neg e,if_neg e]
theorem sget_snoc {s t:ByteArray} {v:Value}:∀ {l:List (ByteArray × Value)},sget s l=none→sget t (l++[(s,v)])=if t=s then some v else sget t l
 | [],_=>by
  show (if t == s then some v else none)=_
  by_cases e:t=s
  ·rw [if_pos e,if_pos ((Go.MapKept.bytes_beq t s).2 e)]
  ·rw [if_neg e,if_neg (fun q=>e ((Go.MapKept.bytes_beq t s).1 q))]; rfl
 | (k,u) :: l,h=>by
  unfold sget at h
  split at h
  ·cases h
  ·rename_i g
   rw [List.cons_append]
   unfold sget
   rw [sget_snoc h]
   by_cases e:t=s
   ·subst e; rw [if_neg g,if_pos rfl,if_pos rfl]
   ·rw [if_neg e,if_neg e]
theorem sget_out {s:ByteArray}:∀ {l:List (ByteArray × Value)},sget s l=none→∀ q∈l,q.1≠s
 | (k,v) :: l,h,q,hq,e=>by
  unfold sget at h
  split at h
  ·cases h
  ·rename_i g
   rcases List.mem_cons.1 hq with rfl | hq
   ·exact g ((Go.MapKept.bytes_beq s k).2 e.symm)
   ·exact sget_out h q hq e
theorem ments_get (es:List (Value × Value)) (i:Nat):(ments es)[i]?=(es[i]?).map fun p=>⟨p.1,p.2,i⟩:=by
 unfold ments
 rw [List.getElem?_map,List.getElem?_zipIdx]
 cases es[i]? <;> simp
theorem run_update_str {P:Program} {w:World} {b:Nat} {l:List (ByteArray × Value)} {t kt et:TypeId} {s:ByteArray} {v:Value} (hb:w.heap[b]?=some (nV (dY l))) (ht:P.underlying t=some (.map kt et)) (htd:P.underlying kt=some .string) :
  ∃ l',(Instr.mapUpdate t (.map (some b)) (.string s) v).run P w=.ok () { w with heap:=w.heap.setIfInBounds b (nV (dY l')) }∧(∀ t,sget t l'=if t=s then some v else sget t l)∧((l.map (·.1)).Nodup→(l'.map (·.1)).Nodup)∧∀ p∈l',p∈l∨p=(s,v):=by
 cases hs:sidx s l with
 | none =>
  have hn:=sidx_none hs
  refine ⟨l++[(s,v)],?_,fun t=>sget_snoc hn,fun hd=>?_,fun p hp=>(List.mem_append.1 hp).imp id List.mem_singleton.1⟩
  rotate_left
  ·rw [List.map_append,List.nodup_append]
   refine ⟨hd,by simp,fun x hx y hy e=>?_⟩
   simp only [List.map_cons,List.map_nil,List.mem_singleton] at hy
   subst hy e
   obtain ⟨q,hq,e2⟩:=List.mem_map.1 hx
   exact sget_out hn q hq e2
  have:=run_update_at (P:=P) (v:=v) hb ht htd (k:=.string s) rfl (mfind_none hn)
  rw [this,show dY (l++[(s,v)])=dY l++[(.string s,v)] by simp [dY]]
 | some j =>
  obtain ⟨u,h1,h2,h3⟩:=sidx_some hs
  refine ⟨l.set j (s,v),?_,h3 v,fun hd=>?_,fun p hp=>List.mem_or_eq_of_mem_set hp⟩
  rotate_left
  ·have:(l.set j (s,v)).map (·.1)=l.map (·.1):=by
    refine List.ext_getElem? fun i=>?_
    rw [List.getElem?_map,List.getElem?_map,List.getElem?_set]
    have hlt:=(List.getElem?_eq_some_iff.1 h1).1
    by_cases e:j=i
    ·subst e; rw [if_pos rfl,if_pos hlt,h1]; rfl
    ·rw [if_neg e]
   rw [this]; exact hd
  have hf:Instr.findNow .string (.string s) (ments (dY l)).toArray.toList 0=some (some (j,u)):=by
   have:=h2 0 0
   rw [Nat.zero_add] at this
   exact this
  have hj:(ments (dY l)).toArray[j]?=some ⟨.string s,u,j⟩:=by
   rw [List.getElem?_toArray,ments_get,dY,List.getElem?_map,h1]; rfl
  have hk:Go.MapKept.IsKey .string (.string s):=isKey_of rfl
  have hm:(ments (dY l)).toArray.modify j (fun e=>{ e with key:=.string s,val:=v })=(ments (dY (l.set j (s,v)))).toArray:=by
   apply Array.ext'
   rw [Array.toList_modify]
   refine List.ext_getElem? fun i=>?_
   show _=(ments (dY (l.set j (s,v))))[i]?
   rw [List.getElem?_modify,ments_get,ments_get,List.getElem?_map,List.getElem?_map,List.getElem?_set]
   have hlt:=(List.getElem?_eq_some_iff.1 h1).1
   by_cases e:j=i
   ·subst e; simp [hlt]
   ·simp [e]
  unfold nV at hb ⊢
  unfold Instr.mapUpdate
  simp only [Sem.run_bind,run_underlying ht,Result.andThen,Go.MapKept.run_getObj_map hb,Go.MapKept.run_checkKey htd hk,Go.MapKept.run_findKey htd hf]
  simp only [hj,Option.map_some,Option.getD_some,Go.MapKept.run_keyThatStays hk,Go.MapKept.run_setObj_map _ hb]
  rw [hm]
  simp [dY]
end Go.Proofs.YthplkompdehjlaaGreatDoor
namespace Go.Proofs.YthplkompdehjlaaGreatDoor
open Go.RowKit Go.Shelf
attribute [local go_sem] Oper.semAt_some
section
variable {F:Fence} {n:Nat} {P:Program} {w w':World} {ops:Array Oper} {rest:List Oper} {o:Oper} {a:Act} {Q:Exit→Act→World→Prop}
theorem wpListIn_mapUpdate_at (hg:o.guard=none) (m x v:Operand) (t:TypeId) (hop:o.op=Op.mapUpdate t m x v) {b key val:Value} (hm:a.eval m=b) (hx:a.eval x=key) (hv:a.eval v=val) (hr:(Instr.mapUpdate t b key val).run P w=.ok () w')
  (hK:wpListIn F n P ops Q rest (a.put o.dst undef) w'):wpListIn F n P ops Q (o :: rest) a w:=by
 refine wpListIn_plain hg fun K' hK'=>?_
 unfold Oper.wpIn
 refine ⟨by simp [Oper.about,hop],?_⟩
 rw [Oper.semAt_plain F _ _ (by rw [hop]; intro c hc'; cases hc')]
 simp [execOp,hop,hm,hx,hv,hr,Result.andThen]
 exact hK' _ _ hK
end
theorem cells_own {A:World} {b:Nat} {o:Obj} (hb:A.heap[b]?=some o) (hc:o.isCells=true) {row:Option Nat} (hr:∀ r,row=some r→∃ o:Obj,A.heap[r]?=some o∧o.isCells=false):some b≠row:=fun e=>by
 obtain ⟨o',h1,h2⟩:=hr _ e.symm
 rw [hb] at h1
 cases h1; rw [hc] at h2; cases h2
theorem grown_set {W:World} {M:Nat} {o:Obj} (o':Obj) (hm:W.heap[M]?=some o):W.grownBy { W with heap:=W.heap.setIfInBounds M o' } (some M) :=
 ⟨rfl,rfl,rfl,by simp,fun k _ ne=>(Go.MapKept.heap_set hm).2 k (fun e=>ne (by rw [e]))⟩
end Go.Proofs.YthplkompdehjlaaGreatDoor
namespace Go.Proofs.YthplkompdehjlaaGreatDoor
open Go.RowKit
def ruleT (op:Int):Option (List Int × Int) :=
 if op=3 then some ([1],1) else if op=4 then some ([2],2) else if op=18 then some ([3],1)
 else if 5≤op∧op≤9 then some ([1,1],1) else if op=10 then some ([3,3],3) else if op=15∨op=16 then some ([2,2],2) else none
def opTy (op:Int) (l:List Int):Int × Int :=
 match ruleT op with
 | some (a,t)=>if l=a then (t,0) else (0,9)
 | none=>if op=17 then (if l.getD 0 0=2∧l.getD 1 0=l.getD 2 0 then (l.getD 1 0,0) else (0,9)) else if l.getD 0 0=l.getD 1 0 then (2,0) else (0,9)
mutual
def tyE (f:ByteArray→Option Int):Ex→Int × Int
 | .mk op k _ _ nm args =>
  if op=1 then (k,0)
  else if op=2 then (match f nm with | some t=>(t,0) | none=>(0,5))
  else if (tyL f args).2=0 then opTy op (tyL f args).1 else (0,(tyL f args).2)
def tyL (f:ByteArray→Option Int):List Ex→List Int × Int
 | []=>([],0)
 | x :: l=>if (tyE f x).2=0 then (if (tyL f l).2=0 then ((tyE f x).1 :: (tyL f l).1,0) else ([],(tyL f l).2)) else ([],(tyE f x).2)
end
theorem tyE_eq (f:ByteArray→Option Int) (x:Ex):tyE f x =
  if x.op=1 then ((x.k:Int),(0:Int))
  else if x.op=2 then (match f x.nm with | some t=>((t:Int),(0:Int)) | none=>(0,5))
  else if (tyL f x.args).2=0 then opTy x.op (tyL f x.args).1 else (0,(tyL f x.args).2):=by
 obtain ⟨a,b,c,d,e,l⟩:=x
 rw [tyE]; rfl
def tyF (fs:List Fd) (s:ByteArray):Option Int:=match fs with
 | []=>none
 | f :: l=>if s == f.name then some f.ty else tyF l s
theorem ty_leaf {fs:List Fd} {g:ByteArray→Option Int} (hf:∀ f∈fs,g f.name=some f.ty) (r:RawD) (kind:Int):tyE g (kV r fs kind)=(kind,0):=by
 have hc:tyE g (eK kind r)=(kind,0):=by rw [tyE_eq,if_pos (show (eK kind r).op=1 from rfl)]; rfl
 unfold kV
 split
 ·rename_i s hs
  split
  ·exact hc
  ·have hm:=List.mem_of_getElem? hs
   obtain ⟨f,hfm,rfl⟩:=List.mem_map.1 hm
   obtain ⟨h1,h2⟩:=List.mem_filter.1 hfm
   rw [tyE_eq,if_neg (show ¬ (refE f.name).op=1 by show ¬ (2:Int)=1; decide),if_pos (show (refE f.name).op=2 from rfl)]
   have e:(refE f.name).nm=f.name:=rfl
   rw [e,hf f h1]
   simp at h2
   simp [h2]
 ·exact hc
theorem many_types {f:ByteArray→Option Int} {one:Int→Nat→Ex × Nat}:∀ (ks:List Int) (n:Nat),(∀ k∈ks,∀ n,tyE f (one k n).1=(k,0))→tyL f (dJ one ks n).1=(ks,0)
 | [],n,_=>by rw [show (dJ one [] n).1=[] from rfl,tyL]
 | k :: ks,n,h=>by
  have h1:=h k (by simp) n
  have h2:=many_types (f:=f) ks (one k n).2 (fun k' hk=>h k' (by simp [hk]))
  rw [show (dJ one (k :: ks) n).1=(one k n).1 :: (dJ one ks (one k n).2).1 from rfl,tyL,h1,h2]
  simp
theorem pick_type (r:RawD) (kind:Int) (h1:1≤kind) (h3:kind≤3):opTy (rW r kind).1 (rW r kind).2=(kind,0):=by
 have a0:=vW r.a 6 (by omega)
 have b0:=vW r.b 7 (by omega)
 have b1:=uW r.b 7 (by omega)
 have c0:=vW r.a 3 (by omega)
 have c1:=uW r.a 3 (by omega)
 unfold rW
 split
 ·simp [opTy,ruleT]
 ·split
  ·rename_i hk
   split
   ·simp [opTy,ruleT,hk]
   ·split
    ·simp [opTy,ruleT,hk]
    ·have hb:intOps (cJ r.b 7)=5∨intOps (cJ r.b 7)=6∨intOps (cJ r.b 7)=7∨intOps (cJ r.b 7)=8∨intOps (cJ r.b 7)=9:=by
      unfold intOps
      repeat' split
      all_goals omega
     simp only
     rcases hb with h | h | h | h | h <;> (rw [h]; simp [opTy,ruleT,hk])
  ·split
   ·rename_i hk
    split
    ·simp [opTy,ruleT,hk]
    ·split
     ·have hb:cJ r.b 7=1∨cJ r.b 7=2:=by omega
      simp only
      rcases hb with h | h <;> (rw [h]; simp [opTy,ruleT,hk])
     ·have hb:cJ r.b 7=3∨cJ r.b 7=4∨cJ r.b 7=5∨cJ r.b 7=6:=by omega
      simp only
      rcases hb with h | h | h | h <;> (rw [h]; simp [opTy,ruleT,hk])
   ·have hk:kind=3:=by omega
    simp [opTy,ruleT,hk]
theorem ty_op {f:ByteArray→Option Int} {op:Int} {l:List Ex} {ts:List Int} (h1:op≠1) (h2:op≠2) (h:tyL f l=(ts,0)):tyE f (opE op l)=opTy op ts:=by
 rw [tyE_eq,if_neg (show ¬ (opE op l).op=1 from h1),if_neg (show ¬ (opE op l).op=2 from h2)]
 show (if (tyL f l).2=0 then opTy op (tyL f l).1 else (0,(tyL f l).2))=_
 rw [h]; simp
theorem ty_gen {fs:List Fd} {g:ByteArray→Option Int} (hf:∀ f∈fs,g f.name=some f.ty) (l:List RawD):∀ (d:Nat) (kind:Int) (n:Nat),1≤kind→kind≤3→tyE g (gJ l fs d kind n).1=(kind,0)
 | 0,kind,n,h1,h3=>ty_leaf hf _ _
 | d + 1,kind,n,h1,h3=>by
  by_cases q:cJ (aJ l n).k 3=0
  ·rw [genE_leaf q]; exact ty_leaf hf _ _
  ·obtain ⟨p1,p2,p3,p4⟩:=pickE_ok (aJ l n) kind h1 h3
   have hpt:=pick_type (aJ l n) kind h1 h3
   obtain ⟨op,ks,hp⟩:∃ op ks,rW (aJ l n) kind=(op,ks):=⟨(rW (aJ l n) kind).1,(rW (aJ l n) kind).2,by cases rW (aJ l n) kind; rfl⟩
   rw [xQ q hp]
   rw [hp] at p1 p2 p4 hpt
   simp only at p1 p2 p4 hpt
   exact (ty_op (by omega) (by omega) (many_types ks _ (fun k hk n=>ty_gen hf l d k n (p4 k hk).1 (p4 k hk).2))).trans hpt
end Go.Proofs.YthplkompdehjlaaGreatDoor
namespace Go.Proofs.YthplkompdehjlaaGreatDoor
open Go.RowKit Go.Shelf
attribute [local go_sem] Oper.semAt_some
def zF:Fd:=⟨⟨#[]⟩,0,0,zE⟩
@[reducible] def fdVal (f:Fd) (v:Value):Value:=.agg #[.string f.name,.int .i64 f.kind,.int .i64 f.ty,.int .i64 f.src.op,.int .i64 f.src.k,.int .i64 f.src.n,.string f.src.s,.string f.src.nm,v]
def dn (len c:Nat):List Nat:=(List.range c).map fun j=>len - 1 - j
theorem dn_succ (len c:Nat):dn len (c + 1)=dn len c++[len - 1 - c]:=by simp [dn,List.range_succ]
theorem dn_len (len c:Nat):(dn len c).length=c:=by simp [dn]
set_option maxHeartbeats 2000000 in
theorem back_in (A:Option Addr) (len cap:Nat) (n:Nat) (W:World) :
  CallsIn Fence.wide n Tryz.prog 165 #[.slice A len cap] W fun e W'=>e=.returned (.func (.func 179) #[] #[.pointer (some ⟨W.heap.size,0,none⟩)])∧W'=W.alloc (.cells #[.slice A len cap] 30):=by
 refine callsIn_of_wp Tryz.func165 rfl trivial ?_ rfl
 simp only [Tryz.ntmps165,List.size_toArray,List.length_cons,List.length_nil,Nat.reduceAdd,Nat.reduceSub,Array.replicate_succ,Array.replicate_zero,List.push_toArray,List.append_toArray,List.nil_append,List.cons_append]
 gi_wp2
 go_ret
 exact ⟨rfl,rfl⟩
set_option maxHeartbeats 4000000 in
theorem back_stops (fs:List Fd) (vs:List Value) (A:Option Addr) (cap:Nat) (h:Vw) (hr:RS h 9 (.slice A fs.length cap) (qK fs vs)) (hvl:vs.length=fs.length) (hsl:∀ v∈vs,.slice (sA v) (sN v) (sC v)=v) (n bX:Nat) (w:World) (hb:Below h.w.heap.size h.w w) (hX:w.heap[bX]?=some (.cells #[.slice A fs.length cap] 30 (0,0))) :
  SeqStopsK Fence.wide n Tryz.prog 179 #[.pointer (some ⟨bX,0,none⟩)] (fun i:Nat=>#[.int .i64 (i:Int),fdVal (fs.getD i zF) (.slice (sA (vs.getD i undef)) (sN (vs.getD i undef)) (sC (vs.getD i undef)))]) (Kp h.w.heap.size) (fun ys=>ys=dn fs.length fs.length) (fun _=>True) fs.length w:=fun l J Jx W hW hJ hJx hY h0=>by
 have hbW:Below h.w.heap.size h.w W:=hb.trans (hW.mono hb.size)
 have hX':W.heap[bX]?=some (.cells #[.slice A fs.length cap] 30 (0,0)):=(hW.block bX (Array.getElem?_eq_some_iff.1 hX).1).trans hX
 have bX':Boxed W bX 30 (.slice A fs.length cap):=hX'
 have cX:=bX'.cell
 obtain ⟨A',cap',e,hc1,hc2,-⟩:=hr.form
 rw [sK hvl] at e hc1
 simp only [Value.slice.injEq] at e
 obtain ⟨rfl,-,rfl⟩:=e
 have HR:=Lib.hid hr
 have HV:=Lib.hid hvl
 have HS:=Lib.hid hsl
 have HB:=Lib.hid hbW
 have HY:=Lib.hid hY
 have HX:=Lib.hid bX'
 clear hr hvl hsl hbW hb hX hX' hW hY bX'
 unfold maxLen at hc2
 generalize hL:fs.length=len at *
 refine callsIn_of_wp Tryz.func179 rfl trivial ?_ rfl
 simp only [Tryz.ntmps179,List.size_toArray,List.length_cons,List.length_nil,Nat.reduceAdd,Nat.reduceSub,Array.replicate_succ,Array.replicate_zero,List.push_toArray,List.append_toArray,List.nil_append,List.cons_append]
 gi_wp2
 gi_loopw [3] (fun i wr=>∃ k:Nat,k≤len∧i=.int .i64 ((len:Int) - 1 - k)∧J (dn len k) wr∧Kp h.w.heap.size W wr) (fun i _=>(intOf i + 1).toNat)
 case atStart=>exact ⟨0,Nat.zero_le _,by go_num,by simpa [dn] using h0,Kp.refl _ _⟩
 case round =>
  obtain ⟨k,hk,rfl,hjk,hkk⟩:=hrel
  by_cases hlt:k < len
  ·obtain ⟨m,hm⟩:∃ m:Nat,len=m + 1 + k:=⟨len - 1 - k,by omega⟩
   have hi:(len:Int) - 1 - k=(m:Int):=by omega
   rw [hi]
   have hml:m < len:=by omega
   obtain ⟨f,hf⟩:∃ f,fs[m]?=some f:=⟨_,List.getElem?_eq_getElem (by omega)⟩
   obtain ⟨u,hu⟩:∃ u,vs[m]?=some u:=⟨_,List.getElem?_eq_getElem (by have:=HV.out; omega)⟩
   have hrow:=rK hf hu
   have hrw:=HR.out
   obtain ⟨b,off,e,-,hc⟩:=hrw.row hrow
   subst e
   have hbr:=HB.out.trans hkk.below
   have hc:=hc.sees (sees_below hbr)
   have c0:wr.cell? ⟨b,off + m * 9,none⟩=_:=hc.lies 0 _ rfl
   have c1:wr.cell? ⟨b,off + m * 9 + 1,none⟩=_:=hc.lies 1 _ rfl
   have c2:wr.cell? ⟨b,off + m * 9 + 2,none⟩=_:=hc.lies 2 _ rfl
   have c3:wr.cell? ⟨b,off + m * 9 + 3,none⟩=_:=hc.lies 3 _ rfl
   have c4:wr.cell? ⟨b,off + m * 9 + 4,none⟩=_:=hc.lies 4 _ rfl
   have c5:wr.cell? ⟨b,off + m * 9 + 5,none⟩=_:=hc.lies 5 _ rfl
   have c6:wr.cell? ⟨b,off + m * 9 + 6,none⟩=_:=hc.lies 6 _ rfl
   have c7:wr.cell? ⟨b,off + m * 9 + 7,none⟩=_:=hc.lies 7 _ rfl
   have c8:wr.cell? ⟨b,off + m * 9 + 8,none⟩=_:=hc.lies 8 _ rfl
   have cX:=(hkk.cells.boxed HX.out).cell
   obtain ⟨fn,tmps,assign,body,hy,hRd⟩:=HY.out (dn len k) m wr hjk (by rw [dn_len]; omega)
   have hR2:=hRd.mono (R':=fun e W2=>(e=.returned (.bool true)∧J (dn len (k + 1)) W2∧Kp h.w.heap.size W W2)∨(e=.returned (.bool false)∧Jx (dn len (k + 1)) W2))
    (fun e W2 q=>by
     rw [dn_succ,show len - 1 - k=m by omega]
     exact q.elim (fun ⟨a,b,c⟩=>.inl ⟨a,b,hkk.trans c⟩) .inr)
   have e1:fs.getD m zF=f:=by rw [List.getD_eq_getElem?_getD,hf]; rfl
   have e2:vs.getD m undef=u:=by rw [List.getD_eq_getElem?_getD,hu]; rfl
   have e3:=HS.out u (List.mem_of_getElem? hu)
   rw [e1,e2,e3] at hy
   have HJ:=Lib.hid hjk
   have HK:=Lib.hid hkk
   have HM:=Lib.hid hm
   clear hc hrow hrw hRd hjk hkk hf hu e1 e2 e3 hbr hi hm
   gi_wp2_with ((try refine ⟨lY _,?_⟩); refine hR2.mono ?_; clear hR2; rintro e W2 (⟨rfl,hJ2,hk2⟩ | ⟨rfl,hx2⟩))
   ·go_roundw
    case rel=>exact ⟨k + 1,by omega,by have:=HM.out; go_num,hJ2,hk2⟩
    case measure=>simp [intOf] <;> omega
   ·(try simp only [Exit.inBlock,Exit.then]); refine bodyPost_ret (results_none rfl _ _ _) rfl ?_
    exact ⟨⟨_,rfl⟩,.inr ⟨_,trivial,hx2⟩⟩
  ·obtain rfl:k=len:=by omega
   have hi:(k:Int) - 1 - k = -1:=by omega
   rw [hi]
   clear hi
   gi_wp2
   go_end0
   exact ⟨⟨_,rfl⟩,.inl ⟨_,rfl,hjk⟩⟩
def lastT (fs:List Fd) (s:ByteArray) (pre:List Nat):Option Value:=pre.foldl (fun o i=>if s=(fs.getD i zF).name then some (.int .i64 (fs.getD i zF).ty) else o) none
theorem lastT_snoc (fs:List Fd) (s:ByteArray) (pre:List Nat) (i:Nat):lastT fs s (pre++[i])=if s=(fs.getD i zF).name then some (.int .i64 (fs.getD i zF).ty) else lastT fs s pre:=by
 unfold lastT
 rw [List.foldl_append]; rfl
theorem lastT_dn (fs:List Fd) (s:ByteArray):∀ c,c≤fs.length→lastT fs s (dn fs.length c)=(tyF (fs.drop (fs.length - c)) s).map (.int .i64)
 | 0,_=>by rw [Nat.sub_zero,List.drop_length]; rfl
 | c + 1,hc=>by
  rw [dn_succ,lastT_snoc,lastT_dn fs s c (by omega)]
  obtain ⟨f,hf⟩:∃ f,fs[fs.length - 1 - c]?=some f:=⟨_,List.getElem?_eq_getElem (by omega)⟩
  have e1:fs.getD (fs.length - 1 - c) zF=f:=by rw [List.getD_eq_getElem?_getD,hf]; rfl
  have e2:fs.drop (fs.length - (c + 1))=f :: fs.drop (fs.length - c):=by
   obtain ⟨hlt,he⟩:=List.getElem?_eq_some_iff.1 hf
   rw [show fs.length - (c + 1)=fs.length - 1 - c by omega,List.drop_eq_getElem_cons hlt,he,show fs.length - 1 - c + 1=fs.length - c by omega]
  rw [e1,e2]
  conv=>rhs; unfold tyF
  by_cases e:s=f.name
  ·rw [if_pos e,if_pos ((Go.MapKept.bytes_beq s f.name).2 e)]; rfl
  ·rw [if_neg e,if_neg (fun q=>e ((Go.MapKept.bytes_beq s f.name).1 q))]
set_option maxHeartbeats 4000000 in
theorem types_in (fs:List Fd) (vs:List Value) (A:Option Addr) (cap:Nat) (h:Vw) (hr:RS h 9 (.slice A fs.length cap) (qK fs vs)) (hvl:vs.length=fs.length) (hsl:∀ v∈vs,.slice (sA v) (sN v) (sC v)=v) (n:Nat) (hn:3≤n) :
  CallsIn Fence.wide n Tryz.prog 149 #[.slice A fs.length cap] h.w (fun e W'=>e=.returned (.map (some h.w.heap.size))∧(∃ l,W'.heap[h.w.heap.size]?=some (nV (dY l))∧∀ s,sget s l=(tyF fs s).map (.int .i64))∧Below h.w.heap.size h.w W'):=by
 have h1:1≤n:=by omega
 obtain ⟨M,hM⟩:∃ M,M=h.w.heap.size:=⟨_,rfl⟩
 obtain ⟨W1,hW1⟩:∃ W1,W1=h.w.alloc (.map #[] 0):=⟨_,rfl⟩
 obtain ⟨W2,hW2⟩:∃ W2,W2=W1.alloc (.cells #[.map (some M)] 201):=⟨_,rfl⟩
 obtain ⟨W3,hW3⟩:∃ W3,W3=W2.alloc (.cells #[.slice A fs.length cap] 30):=⟨_,rfl⟩
 have z1:W1.heap.size=M + 1:=by rw [hW1,hM]; simp
 have z2:W2.heap.size=M + 1 + 1:=by rw [hW2,World.size_alloc,z1]
 have z3:W3.heap.size=M + 1 + 1 + 1:=by rw [hW3,World.size_alloc,z2]
 have m1:W1.heap[M]?=some (nV (dY [])):=by rw [hW1,hM]; exact (Go.MapKept.heap_alloc _ _).1
 have m2:W2.heap[M]?=some (nV (dY [])):=by rw [hW2]; exact ((Go.MapKept.heap_alloc _ _).2 _ (by omega)).trans m1
 have m3:W3.heap[M]?=some (nV (dY [])):=by rw [hW3]; exact ((Go.MapKept.heap_alloc _ _).2 _ (by omega)).trans m2
 have b2:Boxed W2 (M + 1) 201 (.map (some M)):=by rw [hW2,← z1]; exact Boxed.new _ _ _
 have b3:Boxed W3 (M + 1) 201 (.map (some M)):=by rw [hW3]; exact b2.alloc _
 have x3:W3.heap[M + 1 + 1]?=some (.cells #[.slice A fs.length cap] 30 (0,0)):=by rw [hW3,← z2]; exact World.alloc_heap_new _ _
 have hB3:Below M h.w W3:=by
  rw [hW3,hW2,hW1,hM]
  exact (((Below.refl _ h.w).alloc (Nat.le_refl _) _).alloc (by simp) _).alloc (by simp; omega) _
 refine callsIn_of_wp_marks Tryz.func149 rfl trivial ?_ rfl
 simp only [Tryz.ntmps149,List.size_toArray,List.length_cons,List.length_nil,Nat.reduceAdd,Nat.reduceSub,Array.replicate_succ,Array.replicate_zero,List.push_toArray,List.append_toArray,List.nil_append,List.cons_append]
 have HR:=Lib.hid hr
 have HV:=Lib.hid hvl
 have HS:=Lib.hid hsl
 have HX:=Lib.hid x3
 have HM3:=Lib.hid m3
 have HB:=Lib.hid hB3
 have HB3:=Lib.hid b3
 have HZ:=Lib.hid z3
 clear hr hvl hsl x3 m1 m2 m3 b2 b3 hB3 z1 z2 z3
 rw [← hM]
 gi_wp2
 simp only [run_makeMap,Result.andThen,← hM,← hW1]
 gi_wp2_with ((try refine ⟨trivial,?_⟩); (try refine ⟨lY _,?_⟩); gi_at_call 165; refine (back_in A fs.length cap (n - 1) _).mono ?_; rintro e w' ⟨rfl,rfl⟩)
 rw [← hM,← hW1,← hW2,← hW3]
 clear hW1 hW2 hW3 W1 W2
 subst hM
 have hsz:=HZ.out
 clear HZ
 refine wpIn_rangeFunc_ownH (α:=Nat) rfl h1 (gf:=179) (lb:=#[.pointer (some ⟨h.w.heap.size + 1 + 1,0,none⟩)]) rfl trivial (enters_of Tryz.func179 (by kernel_rfl) rfl)
  (back_stops fs vs A cap h HR.out HV.out HS.out (n - 1) (h.w.heap.size + 1 + 1) W3 HB.out HX.out) kp_t (kp_b HB.out.size) (Below.refl _ _) (fun _=>rfl)
  (fun pre W=>((∃ l,W.heap[h.w.heap.size]?=some (nV (dY l))∧∀ s,sget s l=lastT fs s pre)∧Boxed W (h.w.heap.size + 1) 201 (.map (some h.w.heap.size)))∧Below h.w.heap.size h.w W)
  (fun _ _ W=>False∧Below h.w.heap.size h.w W)
  (OwnFrom.and (fun s A B row hs hg hr=>⟨by
    obtain ⟨l,h2,h3⟩:=hs.1
    exact ⟨l,(hg.block _ (Array.getElem?_eq_some_iff.1 h2).1 (fun e=>by have:=(hr _ e.symm).1; omega)).trans h2,h3⟩,hs.2.kept hg (cells_own hs.2 rfl (fun r e=>(hr r e).2))⟩) (ownFrom_below (Nat.le_refl _) (by omega)))
  (fun c=>OwnFrom.and (fun s A B row hs hg hr=>hs) (ownFrom_below (Nat.le_refl _) (by omega)))
  ⟨⟨⟨[],HM3.out,fun _=>rfl⟩,HB3.out⟩,HB.out⟩
  (fun i a' W=>∃ b,W.heap[b]?=some (.cells (fdRow (fs.getD i zF) (.slice (sA (vs.getD i undef)) (sN (vs.getD i undef)) (sC (vs.getD i undef)))).toArray 46 (0,0))∧a'={ tmps:=#[Value.slice A fs.length cap,undef,Value.map none,.pointer (some ⟨h.w.heap.size + 1,0,none⟩),undef,.pointer (some ⟨b,0,none⟩),.map (some h.w.heap.size),.slice A fs.length cap,.func (.func 179) #[] #[.pointer (some ⟨h.w.heap.size + 1 + 1,0,none⟩)],.int .i64 (i:Int),fdVal (fs.getD i zF) (.slice (sA (vs.getD i undef)) (sN (vs.getD i undef)) (sC (vs.getD i undef))),undef,undef,undef,undef,undef,undef],defers:=[] })
  (fun i a' s A B row hs hg hr=>by
   obtain ⟨b,h2,h3⟩:=hs
   refine ⟨b,(hg.block _ (Array.getElem?_eq_some_iff.1 h2).1 (fun e=>?_)).trans h2,h3⟩
   obtain ⟨-,o,ho,hc⟩:=hr _ e.symm
   rw [h2] at ho; cases ho; cases hc) ?assign ?body ?done ?stop
 case assign =>
  intro l pre i W K hI hK
  have hk0:=Kp.alloc hI.2.size (.cells (fdRow (fs.getD i zF) (.slice (sA (vs.getD i undef)) (sN (vs.getD i undef)) (sC (vs.getD i undef)))).toArray 46)
  have hb0:=hI.2.trans hk0.below
  have hI2:=(hI.1.2.alloc (.cells (fdRow (fs.getD i zF) (.slice (sA (vs.getD i undef)) (sN (vs.getD i undef)) (sC (vs.getD i undef)))).toArray 46))
  have hm2:(W.alloc (.cells (fdRow (fs.getD i zF) (.slice (sA (vs.getD i undef)) (sN (vs.getD i undef)) (sC (vs.getD i undef)))).toArray 46)).heap[h.w.heap.size]?=W.heap[h.w.heap.size]?:=(Go.MapKept.heap_alloc W _).2 _ (by
   obtain ⟨l,h2,-⟩:=hI.1.1
   exact (Array.getElem?_eq_some_iff.1 h2).1)
  have hx2:=World.alloc_heap_new W (.cells (fdRow (fs.getD i zF) (.slice (sA (vs.getD i undef)) (sN (vs.getD i undef)) (sC (vs.getD i undef)))).toArray 46)
  have HK:=hK _ _ ((KeepsOthers.alloc W (.cells (fdRow (fs.getD i zF) (.slice (sA (vs.getD i undef)) (sN (vs.getD i undef)) (sC (vs.getD i undef)))).toArray 46)).from _) hk0 ⟨⟨by rw [hm2]; exact hI.1.1,hI2⟩,hb0⟩ ⟨_,hx2,rfl⟩
  clear hK hI hk0 hb0 hI2 hm2 hx2
  generalize fs.getD i zF=f at *
  generalize vs.getD i undef=u at *
  gi_wp2
  exact HK
 case body =>
  rintro l pre i a' W hl - ⟨⟨⟨lm,hm,hg⟩,hbx⟩,hB⟩ ⟨b,hb,rfl⟩ hpl
  obtain ⟨l2,hu,hg2,-,-⟩:=run_update_str (P:=Tryz.prog) (t:=201) (s:=(fs.getD i zF).name) (v:=.int .i64 (fs.getD i zF).ty) hm Tryz.underlying201 Tryz.underlying9
  have cM:=hbx.cell
  have c0:W.cell? ⟨b,0,none⟩=some (.string (fs.getD i zF).name):=by simp [World.cell?,hb]
  have c2:W.cell? ⟨b,2,none⟩=some (.int .i64 (fs.getD i zF).ty):=by simp [World.cell?,hb]
  have hgr:=grown_set (nV (dY l2)) hm
  have hset:=(Go.MapKept.heap_set (o':=nV (dY l2)) hm).1
  have hml:=(Array.getElem?_eq_some_iff.1 hm).1
  have hbl:Below h.w.heap.size W _:=(Below.refl h.w.heap.size W).grown hgr hB.size (fun k e=>by cases e; exact Nat.le_refl _)
  have hkc:=KeepsCells.grown hgr (fun r e=>by cases e; exact ⟨_,hm,rfl⟩)
  have hfin:∀ s,sget s l2=lastT fs s (pre++[i]):=fun s=>by rw [hg2 s,lastT_snoc,hg s]
  have hex:∃ l,({ W with heap:=W.heap.setIfInBounds h.w.heap.size (nV (dY l2)) }:World).heap[h.w.heap.size]?=some (nV (dY l))∧∀ s,sget s l=lastT fs s (pre++[i]):=⟨l2,hset,hfin⟩
  have HF:=Lib.hid (And.intro (KeepsFrom.of_grownBy (B:=W3.heap.size) hgr (fun j e=>by cases e; omega)) (And.intro (Kp.mk hbl hkc) (And.intro (And.intro hex (hkc.boxed hbx)) (hB.trans hbl))))
  clear hex hgr hset hml hbl hkc hfin hg hg2 hB hm hb hbx
  generalize fs.getD i zF=f at *
  generalize vs.getD i undef=u at *
  gi_wp2_with (first | (gi_at_mapUpdate; refine wpListIn_mapUpdate_at rfl _ _ _ 201 rfl rfl rfl rfl hu ?_) | gi_in)
  have hfo:=HF.out
  rw [hsz] at hfo
  exact ⟨hfo.1,hfo.2.1,hfo.2.2⟩
 case done =>
  rintro D ys W hD rfl ⟨⟨⟨l,hm,hg⟩,hbx⟩,hB⟩ hK
  have cM:=hbx.cell
  have hfin:∀ s,sget s l=(tyF fs s).map (.int .i64):=fun s=>by rw [hg s,lastT_dn fs s _ (Nat.le_refl _),Nat.sub_self,List.drop_zero]
  have HF:=Lib.hid (And.intro hm (And.intro hfin hB))
  clear hg hfin hB hbx hm
  gi_wp2
  refine ⟨by simp,.inl ⟨_,_,rfl,run_takeDeferred hK,?_⟩⟩
  obtain ⟨f1,f2,f3⟩:=HF.out
  have hml:=(Array.getElem?_eq_some_iff.1 f1).1
  have hp:(W.putObj D (.deferred none)).heap[h.w.heap.size]?=some (nV (dY l)):=(World.putObj_heap_other (by omega)).trans f1
  refine ⟨.map (some h.w.heap.size),?_,rfl,⟨l,hp,f2⟩,f3.trans (belowK_b (w:=h.w) (Nat.le_refl _) _ D _ _ (by omega) hK rfl rfl)⟩
  simp [results,Tryz.f149,go_sem]
 case stop =>
  rintro D c pre W hD - ⟨hf,-⟩
  exact hf.elim
end Go.Proofs.YthplkompdehjlaaGreatDoor
namespace Go.Proofs.YthplkompdehjlaaGreatDoor
open Go.RowKit Go.Shelf
def TypesAt (h:Vw) (b:Nat) (f:ByteArray→Option Int):Prop:=∃ l,MapAt h b (dY l)∧∀ s,sget s l=(f s).map (.int .i64)
theorem TypesAt.sees {h h':Vw} {b:Nat} {f:ByteArray→Option Int} (k:TypesAt h b f) (s:Sees h h'):TypesAt h' b f:=by
 obtain ⟨l,h1,h2⟩:=k
 exact ⟨l,h1.sees s,h2⟩
theorem types_any (fs:List Fd) (v:Value) (h:Vw) (hf:IsFds h v fs):C0 Tryz.prog 149 #[v] h (fun r h'=>∃ b,r=.map (some b)∧TypesAt h' b (tyF fs)):=by
 intro _ _ _ hbad
 obtain ⟨vs,hr,hs⟩:=hf
 have hvl:=hs.len
 obtain ⟨A,cap,rfl,-,-,-⟩:=hr.form
 rw [sK hvl] at hr ⊢
 have hsl:∀ v∈vs,.slice (sA v) (sN v) (sC v)=v:=fun v hv=>by
  obtain ⟨i,hi⟩:=List.getElem?_of_mem hv
  have hlt:=(List.getElem?_eq_some_iff.1 hi).1
  obtain ⟨x,hx⟩:∃ x,(fs.map (·.src))[i]?=some x:=⟨_,List.getElem?_eq_getElem (by rw [List.length_map]; omega)⟩
  obtain ⟨A,n,c,rfl⟩:=(AllArgs.get hs hx hi).slice
  rfl
 refine (callsIn_wide.1 (types_in fs vs A cap h hr hvl hsl 9 (by omega))).mono ?_
 rintro e w' ⟨rfl,⟨l,h1,h2⟩,hb⟩
 exact ⟨_,[],rfl,Low.of_below hb,(fun x hx=>by cases hx),rfl,_,rfl,l,⟨fun hm=>Nat.lt_irrefl _ (hbad _ hm),h1⟩,h2⟩
def RulesAt (h:Vw) (b:Nat):Prop:=∃ es,MapAt h b (dV es)∧∀ op,match ruleT op with
 | some (a,t)=>∃ A n c,iget op es=some (.agg #[.slice A n c,.int .i64 t])∧RS h 1 (.slice A n c) (eV a)
 | none=>iget op es=none
theorem RulesAt.sees {h h':Vw} {b:Nat} (k:RulesAt h b) (s:Sees h h'):RulesAt h' b:=by
 obtain ⟨es,h1,h2⟩:=k
 refine ⟨es,h1.sees s,fun op=>?_⟩
 have:=h2 op
 split at this
 ·obtain ⟨A,n,c,h3,h4⟩:=this
  exact ⟨A,n,c,h3,h4.sees s⟩
 ·exact this
def rulesL (A B C:Value × Value):List (Int × Value) :=
 [(3,.agg #[A.2,.int .i64 1]),(4,.agg #[B.2,.int .i64 2]),(18,.agg #[C.2,.int .i64 1]),(5,.agg #[A.1,.int .i64 1]),(6,.agg #[A.1,.int .i64 1]),(7,.agg #[A.1,.int .i64 1]),(8,.agg #[A.1,.int .i64 1]),(9,.agg #[A.1,.int .i64 1]),
  (10,.agg #[C.1,.int .i64 3]),(15,.agg #[B.1,.int .i64 2]),(16,.agg #[B.1,.int .i64 2])]
theorem rules_get {es:List (Int × Value)} {A B C:Value × Value} (hn:(es.map (·.1)).Nodup) (he:∀ k v,(k,v)∈es↔(k,v)∈rulesL A B C) (op:Int):iget op es=iget op (rulesL A B C):=by
 have hnl:((rulesL A B C).map (·.1)).Nodup:=by simp [rulesL]
 cases h:iget op (rulesL A B C) with
 | some v =>
  have hm:∀ {l:List (Int × Value)},iget op l=some v→(op,v)∈l:=by
   intro l
   induction l with
   | nil=>intro h; cases h
   | cons p l ih =>
    obtain ⟨k,u⟩:=p
    intro h
    unfold iget at h
    split at h
    ·rename_i e; simp only [Option.some.injEq] at h; subst e h; simp
    ·exact List.mem_cons_of_mem _ (ih h)
  exact iget_mem hn ((he op v).2 (hm h))
 | none =>
  refine iget_none fun hm=>?_
  obtain ⟨⟨k,v⟩,hm2,rfl⟩:=List.mem_map.1 hm
  rw [iget_mem hnl ((he k v).1 hm2)] at h
  cases h
theorem rules_any (h:Vw):C0 Tryz.prog 150 #[] h (fun r h'=>∃ b,r=.map (some b)∧RulesAt h' b):=by
 refine fQ Tryz.func150 (c:=Tryz.f150.body.getD .skip) (N:=34) ?_
 intro hbx hbad Q hQ
 refine gov3 16 [.fix,.fix,.fix] [] ?_
 intro b1 b2 b3 W4 S5
 refine kQ [(1,Vs b1 2 2),(2,Vs b2 2 2),(3,Vs b3 2 2)] [] [(b3,0,[Vi 3,Vi 3]),(b2,0,[Vi 2,Vi 2]),(b1,0,[Vi 1,Vi 1])] ?_
 refine g_maplit 203 [.mk 7,.pu 8 (Vs b1 2 2),.pu 9 (Vs b1 1 2),.pu 10 (.agg #[Vs b1 1 2,Vi 1]),.ins 3 (.agg #[Vs b1 1 2,Vi 1]),.pu 11 (Vs b2 2 2),.pu 12 (Vs b2 1 2),.pu 13 (.agg #[Vs b2 1 2,Vi 2]),.ins 4 (.agg #[Vs b2 1 2,Vi 2]),.pu 14 (Vs b3 2 2),.pu 15 (Vs b3 1 2),.pu 16 (.agg #[Vs b3 1 2,Vi 1]),.ins 18 (.agg #[Vs b3 1 2,Vi 1]),.pu 17 (Vs b1 2 2),.pu 18 (.agg #[Vs b1 2 2,Vi 1]),.ins 5 (.agg #[Vs b1 2 2,Vi 1]),.pu 19 (Vs b1 2 2),.pu 20 (.agg #[Vs b1 2 2,Vi 1]),.ins 6 (.agg #[Vs b1 2 2,Vi 1]),.pu 21 (Vs b1 2 2),.pu 22 (.agg #[Vs b1 2 2,Vi 1]),.ins 7 (.agg #[Vs b1 2 2,Vi 1]),.pu 23 (Vs b1 2 2),.pu 24 (.agg #[Vs b1 2 2,Vi 1]),.ins 8 (.agg #[Vs b1 2 2,Vi 1]),.pu 25 (Vs b1 2 2),.pu 26 (.agg #[Vs b1 2 2,Vi 1]),.ins 9 (.agg #[Vs b1 2 2,Vi 1]),.pu 27 (Vs b3 2 2),.pu 28 (.agg #[Vs b3 2 2,Vi 3]),.ins 10 (.agg #[Vs b3 2 2,Vi 3]),.pu 29 (Vs b2 2 2),.pu 30 (.agg #[Vs b2 2 2,Vi 2]),.ins 15 (.agg #[Vs b2 2 2,Vi 2]),.pu 31 (Vs b2 2 2),.pu 32 (.agg #[Vs b2 2 2,Vi 2]),.ins 16 (.agg #[Vs b2 2 2,Vi 2]),.mv 33,.mv 0] ?_ Tryz.underlying203 Tryz.underlying3; intro b6 es7 hes8 hnd9
 refine go0 2 [] [] ?_
 refine hQ.toJ [.map (some b6)] [] (fun a w hJ=>?_)
 skip
 have c1:Cells ⟨w,h.bad⟩ b1 0 [.int .i64 1,.int .i64 1]:=(hJ.f (_,_,_) (List.mem_of_getElem? (i:=2) (by kernel_rfl))).sees hJ.j.out
 have c2:Cells ⟨w,h.bad⟩ b2 0 [.int .i64 2,.int .i64 2]:=(hJ.f (_,_,_) (List.mem_of_getElem? (i:=1) (by kernel_rfl))).sees hJ.j.out
 have c3:Cells ⟨w,h.bad⟩ b3 0 [.int .i64 3,.int .i64 3]:=(hJ.f (_,_,_) (List.mem_of_getElem? (i:=0) (by kernel_rfl))).sees hJ.j.out
 have n2:=rs_ints [1,1] (by decide) c1
 have t2:=rs_ints [2,2] (by decide) c2
 have s2:=rs_ints [3,3] (by decide) c3
 have n1:=n2.take 1 (by decide)
 have t1:=t2.take 1 (by decide)
 have s1:=s2.take 1 (by decide)
 refine ⟨b6,rfl,es7,hJ.mapOut 0 (by kernel_rfl) rfl,fun op=>?_⟩
 rw [rules_get (A:=(.slice (some ⟨b1,0,none⟩) 2 2,.slice (some ⟨b1,0,none⟩) 1 2)) (B:=(.slice (some ⟨b2,0,none⟩) 2 2,.slice (some ⟨b2,0,none⟩) 1 2)) (C:=(.slice (some ⟨b3,0,none⟩) 2 2,.slice (some ⟨b3,0,none⟩) 1 2)) hnd9 (fun k v=>by
  rw [hes8]
  simp [rulesL])]
 clear hJ hes8 hnd9
 unfold ruleT
 by_cases e3:op=3
 ·subst e3; exact ⟨_,_,_,rfl,n1⟩
 by_cases e4:op=4
 ·subst e4; exact ⟨_,_,_,rfl,t1⟩
 by_cases e18:op=18
 ·subst e18; exact ⟨_,_,_,rfl,s1⟩
 by_cases e5:5≤op∧op≤9
 ·rcases (by omega:op=5∨op=6∨op=7∨op=8∨op=9) with rfl | rfl | rfl | rfl | rfl <;> exact ⟨_,_,_,rfl,n2⟩
 by_cases e10:op=10
 ·subst e10; exact ⟨_,_,_,rfl,s2⟩
 by_cases e15:op=15
 ·subst e15; exact ⟨_,_,_,rfl,t2⟩
 by_cases e16:op=16
 ·subst e16; exact ⟨_,_,_,rfl,t2⟩
 rw [if_neg e3,if_neg e4,if_neg e18,if_neg e5,if_neg e10,if_neg (by omega)]
 simp only
 unfold rulesL iget
 simp only [iget]
 rw [if_neg e3,if_neg e4,if_neg e18,if_neg (by omega),if_neg (by omega),if_neg (by omega),if_neg (by omega),if_neg (by omega),if_neg e10,if_neg e15,if_neg e16]
theorem equal_any (l m:List Int) (sl sl':Value) (h:Vw) (hr:RS h 1 sl (eV l)) (hr':RS h 1 sl' (eV m)):C0 Tryz.prog 164 #[sl,sl'] h (fun r _=>r=.bool (decide (l=m))):=by
 obtain ⟨A,ca,rfl,l1,l2,-⟩:=hr.form
 obtain ⟨A',ca',rfl,-,-,-⟩:=hr'.form
 rw [List.length_map] at hr hr' l1 ⊢
 unfold maxLen at l2
 rw [List.length_map]
 by_cases hlm:l.length=m.length
 rotate_left
 ·rw [decide_eq_false (fun e=>hlm (by rw [e]))]
  generalize hL:l.length=len at *
  generalize hL':m.length=len' at *
  refine fQ Tryz.func164 (c:=Tryz.f164.body.getD .skip) (N:=26) ?_
  intro hbx hbad Q hQ
  refine go0 15 [] [] ?_
  refine wQ (t:=(len:Int) != (len':Int)) (bne_iff_ne.2 (by omega)) ?_
  refine go0 7 [] [] ?_
  refine hQ.to [.bool false] (fun H sH=>?_)
  exact rfl
 ·rw [← hlm] at hr' ⊢
  have hml:m.length=l.length:=hlm.symm
  clear hlm
  generalize hL:l.length=len at *
  refine fQ Tryz.func164 (c:=Tryz.f164.body.getD .skip) (N:=26) ?_
  intro hbx hbad Q hQ
  refine go0 27 [] [(10,.bool ((len:Int) != (len:Int)),.bool false)] ?_ (hc:=(And.intro (congrArg Value.bool (bne_self_eq_false _)) (trivial)))
  refine mQ [0,1,0,1,1] [.block 0,.seq [1,1,1]] (fun (k:Nat) X=>∃ (W1:Vw) ,X W1 [(0,.slice A len ca),(1,.slice A' len ca'),(12,Vi (len:Int)),(13,Vi (k:Int))] [] []∧Sees h W1∧(k≤len)∧(l.take k=m.take k)) (fun k=>len - k) (0) (fun X q=>⟨h,q _ _ _ _ ⟨rfl,by kernel_rfl⟩,Sees.refl _,Nat.zero_le _,rfl⟩) ?_
  rintro k a w ⟨W1,hJ,S2,hk,hpre⟩; refine pQ hJ ?_; clear hJ a w
  refine go0 6 [] [] ?_
  rcases (by omega:k < len∨len=k) with hlt | hke
  ·obtain ⟨x,hx⟩:∃ x,l[k]?=some x:=⟨_,List.getElem?_eq_getElem (by omega)⟩
   obtain ⟨y,hy⟩:∃ y,m[k]?=some y:=⟨_,List.getElem?_eq_getElem (by omega)⟩
   have hrow:(eV l)[k]?=some [.int .i64 x]:=by rw [List.getElem?_map,hx]; rfl
   have hrow':(eV m)[k]?=some [.int .i64 y]:=by rw [List.getElem?_map,hy]; rfl
   refine wQ (t:=decide ((k:Int) < (len:Int))) (decide_eq_true (by omega)) ?_
   refine go0 11 [] [] ?_
   obtain ⟨b3,o4,rfl,-,c5⟩:=RS.row hr (hrow)
   refine gQ (c5.sees S2) ?_
   obtain ⟨b6,o7,rfl,-,c8⟩:=RS.row hr' (hrow')
   refine gQ (c8.sees S2) ?_
   refine tQ 9 0 [.pu,.pu,.v (fun gh=>.pointer (some ⟨b3,o4 + k * 1,none⟩)),.lf 1 0,.pu,.pu,.v (fun gh=>.pointer (some ⟨b6,o7 + k * 1,none⟩)),.lf 0 0,.pu] [] (trivial) ?_ ?_
   ·intro R hT hA hmono
    refine And.intro (t_ix hT hA b3 o4 len ca k (fun gh=>.pointer (some ⟨b3,o4 + k * 1,none⟩)) (by first | omega | (simp; omega))) ?_
    refine And.intro (t_ix hT hA b6 o7 len ca' k (fun gh=>.pointer (some ⟨b6,o7 + k * 1,none⟩)) (by first | omega | (simp; omega))) ?_
    trivial
   rintro W9 S10 -
   refine go0 1 [] [] ?_
   by_cases e:x=y
   ·refine iQ (t:=x != y) (bne_eq_false_iff_eq.2 e) ?_
    refine go0 7 [] [(25,Vi (IntKind.i64.wrap ((k:Int) + 1)),Vi ((k:Int) + 1))] ?_ (hc:=(And.intro (jJ (by omega) (by omega)) (trivial)))
    exact vQ (k + 1) (fun X q=>⟨W9,q _ _ _ _ ⟨rfl,by kernel_rfl⟩,(S2.trans S10),by omega,by rw [jY _ k _ hx,jY _ k _ hy,hpre,e]⟩) (by omega)
   ·skip
    refine wQ (t:=x != y) (bne_iff_ne.2 e) ?_
    refine go0 8 [] [] ?_
    refine lQ ?_
    refine go0 2 [] [] ?_
    have hne:¬ l=m:=fun q=>e (by rw [q,hy] at hx; exact (Option.some.inj hx).symm)
    refine hQ.to [.bool false] (fun H sH=>?_)
    exact congrArg Value.bool (decide_eq_false hne).symm
  ·skip
   refine iQ (t:=decide ((k:Int) < (len:Int))) (decide_eq_false (by omega)) ?_
   refine go0 2 [] [] ?_
   refine lQ ?_
   refine go0 8 [] [] ?_
   have heq:l=m:=by
    have h1:l.take k=l:=List.take_of_length_le (by omega)
    have h2:m.take k=m:=List.take_of_length_le (by omega)
    rw [← h1,← h2,hpre]
   refine hQ.to [.bool true] (fun H sH=>?_)
   exact congrArg Value.bool (decide_eq_true heq).symm
def tysE (f:ByteArray→Option Int) (l:List Ex):List Int:=l.map fun y=>(tyE f y).1
theorem tyL_all {f:ByteArray→Option Int}:∀ {l:List Ex},(∀ y∈l,(tyE f y).2=0)→tyL f l=(tysE f l,0)
 | [],_=>by rw [tyL]; rfl
 | x :: l,h=>by
  have h1:=h x (by simp)
  have h2:=tyL_all (f:=f) (l:=l) (fun y hy=>h y (by simp [hy]))
  rw [tyL,h2,if_pos h1]; simp [tysE]
theorem tyL_err {f:ByteArray→Option Int}:∀ {l:List Ex} {k:Nat} {y:Ex},l[k]?=some y→(∀ z∈l.take k,(tyE f z).2=0)→(tyE f y).2≠0→(tyL f l).2=(tyE f y).2
 | [],k,y,h,_,_=>by simp at h
 | x :: l,0,y,h,_,he=>by
  simp only [List.getElem?_cons_zero,Option.some.injEq] at h
  subst h
  rw [tyL,if_neg he]
 | x :: l,k + 1,y,h,hp,he=>by
  simp only [List.getElem?_cons_succ] at h
  have h1:=hp x (by simp)
  have h2:=tyL_err (f:=f) h (fun z hz=>hp z (by simp [hz])) he
  rw [tyL,if_pos h1,if_neg (by rw [h2]; exact he)]
  exact h2
theorem ret2 {p:Int × Int} {a b:Int} (h:p=(a,b)):Value.tuple #[.int .i64 a,.int .i64 b]=.tuple #[.int .i64 p.1,.int .i64 p.2]:=by rw [h]
theorem rule_none {op:Int} (h1:3≤op) (h2:op≤18) (h:ruleT op=none):op=17∨(op≠17∧11≤op∧op≤14):=by
 unfold ruleT at h
 repeat' split at h
 all_goals first | (cases h; done) | omega
theorem arity_le (op:Int):arity op≤3:=by
 unfold arity
 repeat' split
 all_goals omega
theorem tyof_any (f:ByteArray→Option Int) (fb rb:Nat):∀ (m:Nat) (x:Ex) (sl:Value) (h:Vw),(szE x).1≤m→IsArgs h x sl→WfE x→TypesAt h fb f→RulesAt h rb →
  C0 Tryz.prog 148 #[.agg #[.int .i64 x.op,.int .i64 x.k,.int .i64 x.n,.string x.s,.string x.nm,sl],.map (some fb),.map (some rb)] h (fun r _=>r=.tuple #[.int .i64 (tyE f x).1,.int .i64 (tyE f x).2])
 | 0,x,sl,h,hm,_,_,_,_=>by have:=gY x; omega
 | m + 1,x,sl,h,hm,hx,hw,hF,hR=>by
  have IH:=tyof_any f fb rb m
  have hse:=fY x
  rw [hse] at hm
  simp only at hm
  have hwl:=hw.list
  have hev:=tyE_eq f x
  rcases hw.top with ⟨h1,-⟩ | ⟨h1,-⟩ | ⟨h1,ho2,-,-,-,-,h7⟩
  ·obtain ⟨A,len,c,rfl⟩:=hx.slice
   rw [if_pos h1] at hev
   rw [hev,h1]
   refine fQ Tryz.func148 (c:=Tryz.f148.body.getD .skip) (N:=112) ?_
   intro hbx hbad Q hQ
   refine go1 34 [.own,.b 0 0,.b 0 1] [] ?_
   intro b1
   refine hQ.to [Vi x.k,Vi 0] (fun H sH=>?_)
   exact rfl
  ·obtain ⟨A,len,c,rfl⟩:=hx.slice
   rw [if_neg (by omega),if_pos h1] at hev
   obtain ⟨ls,hmp,hgt⟩:=hF
   have hgt:=hgt x.nm
   rw [h1]
   cases hg:f x.nm with
   | none =>
    rw [hg] at hev hgt
    rw [hev]
    have hl:=mfind_none hgt
    refine fQ Tryz.func148 (c:=Tryz.f148.body.getD .skip) (N:=112) ?_
    intro hbx hbad Q hQ
    refine go1 34 [.own,.b 0 0,.b 0 4] [] ?_
    intro b1
    refine nQ fb (es:=dY ls) (td:=.string) (key:=.string x.nm) (r:=none) (Vi 0) (.tuple #[Vi 0,.bool false]) (fun a w hJ=>MapAt.now (hmp.sees (Sees.refl _)) hJ) (hl) ?_
    refine go0 25 [] [] ?_
    refine hQ.to [Vi 0,Vi 5] (fun H sH=>?_)
    exact rfl
   | some t =>
    rw [hg] at hev hgt
    rw [hev]
    obtain ⟨i,hl⟩:=mfind_some hgt
    refine fQ Tryz.func148 (c:=Tryz.f148.body.getD .skip) (N:=112) ?_
    intro hbx hbad Q hQ
    refine go1 34 [.own,.b 0 0,.b 0 4] [] ?_
    intro b1
    refine nQ fb (es:=dY ls) (td:=.string) (key:=.string x.nm) (r:=some (i,Vi t)) (Vi 0) (.tuple #[Vi t,.bool true]) (fun a w hJ=>MapAt.now (hmp.sees (Sees.refl _)) hJ) (hl) ?_
    refine go0 27 [] [] ?_
    refine hQ.to [Vi t,Vi 0] (fun H sH=>?_)
    exact rfl
  ·obtain ⟨vs,hr,hvs⟩:=hx.form
   obtain ⟨A,ca,rfl,-,-,-⟩:=hr.form
   have hvl:=hvs.len
   have hrl:=nK hvl
   rw [hrl] at hr ⊢
   rw [if_neg (by omega),if_neg (by omega)] at hev
   rw [hev]
   have hl3:x.args.length≤3:=by rw [h7]; exact arity_le _
   generalize hL:x.args.length=len at *
   obtain ⟨es,hmp,hgt⟩:=hR
   have hRR:RulesAt h rb:=⟨es,hmp,hgt⟩
   have hgt:=hgt x.op
   have htl:(tysE f x.args).length=len:=by rw [tysE,List.length_map,hL]
   refine fQ Tryz.func148 (c:=Tryz.f148.body.getD .skip) (N:=112) ?_
   intro hbx hbad Q hQ
   refine oQ 3 1 ?_
   refine go1 21 [.own,.b 0 0] [] ?_
   intro b1
   refine iQ (t:=x.op == 1) (beq_eq_false_iff_ne.2 (by omega)) ?_
   refine go0 6 [] [] ?_
   refine iQ (t:=x.op == 2) (beq_eq_false_iff_ne.2 (by omega)) ?_
   refine go0 18 [.b 0 5] [] ?_
   refine mQ [0,1,0,1,1,1] [.block 1,.seq [1,1,1,1]] (fun (k:Nat) X=>∃ (W2:Vw) (v:Value),X W2 [(1,.map (some fb)),(2,.map (some rb)),(3,Vp b1),(37,.slice A len ca),(38,Vi (len:Int)),(39,Vi (k:Int)),(10,v)] [.box b1 [Vi x.op,Vi x.k,Vi x.n,.string x.s,.string x.nm,.slice A len ca],.row v 3 1 (eV ((tysE f x.args).take k))] []∧Sees h W2∧(k≤len)∧(∀ y∈x.args.take k,(tyE f y).2=0)) (fun k=>len - k) (0) (fun X q=>⟨h,(Vz),q _ _ _ _ ⟨rfl,by kernel_rfl⟩,Sees.refl _,Nat.zero_le _,(fun y hy=>by simp at hy)⟩) ?_
   rintro k a w ⟨W2,v,hJ,S3,hk,hpre⟩; refine pQ hJ ?_; clear hJ a w
   refine go0 6 [] [] ?_
   rcases (by omega:k < len∨len=k) with hlt | hke
   ·obtain ⟨y,hy⟩:∃ y,x.args[k]?=some y:=⟨_,List.getElem?_eq_getElem (by omega)⟩
    obtain ⟨u,hu⟩:∃ u,vs[k]?=some u:=⟨_,List.getElem?_eq_getElem (by omega)⟩
    have hyu:=AllArgs.get hvs hy hu
    obtain ⟨Au,nu,cu,rfl⟩:=hyu.slice
    have hrow:(mK x.args vs)[k]?=some (exRow y (.slice Au nu cu)):=by show (List.zipWith exRow _ _)[k]?=_; rw [List.getElem?_zipWith,hy,hu]
    have hym:=List.mem_of_getElem? hy
    have hcall:=fun H q1 q2 q3=>IH y (.slice Au nu cu) H (by have:=(iY hym).1; omega) q1 (hwl.get hym) q2 q3
    have hek:(tysE f x.args)[k]?=some (tyE f y).1:=by rw [tysE,List.getElem?_map,hy]; rfl
    have htk:=jY _ k _ hek
    have hxk:=jY _ k _ hy
    have htn:((tysE f x.args).take k).length=k:=by rw [List.length_take,htl]; omega
    refine wQ (t:=decide ((k:Int) < (len:Int))) (decide_eq_true (by omega)) ?_
    refine go0 6 [] [] ?_
    obtain ⟨b4,o5,rfl,-,c6⟩:=RS.row hr (hrow)
    refine gQ (c6.sees S3) ?_
    refine go1 26 [.ix b4 o5 len ca k,.f 0 0,.own,.b 0 0,.b 0 0,.cl 148 #[.agg #[Vi y.op,Vi y.k,Vi y.n,.string y.s,.string y.nm,.slice Au nu cu],.map (some fb),.map (some rb)] (.tuple #[Vi ((tyE f y).1),Vi ((tyE f y).2)])] [] ?_ (ho:=(And.intro (by first | omega | (simp; omega)) (And.intro (fun H sH=>hcall _ (hyu.sees (S3.trans sH)) (hF.sees (S3.trans sH)) (hRR.sees (S3.trans sH))) (trivial))))
    intro b7
    by_cases he:(tyE f y).2=0
    ·refine iQ (t:=((tyE f y).2) != 0) (bne_eq_false_iff_eq.2 he) ?_
     refine aV 6 [.fix] [] ?_
     intro b8 W9 S10
     refine goa0 9 [.ap 2 0 (eV ((tysE f x.args).take k)) [[Vi ((tyE f y).1)]]] [(57,Vi (IntKind.i64.wrap ((k:Int) + 1)),Vi ((k:Int) + 1))] ?_ (ho:=(And.intro (by rw [List.length_map,htn]; simp; omega) (trivial))) (hc:=(And.intro (jJ (by omega) (by omega)) (trivial)))
     intro v56 W11 S12
     refine kQ [(1,.map (some fb)),(2,.map (some rb)),(3,Vp b1),(37,.slice (some ⟨b4,o5,none⟩) len ca),(38,Vi (len:Int)),(10,.slice (sA v56) (sN v56) (sC v56)),(39,Vi ((k:Int) + 1))] [.box b1 [Vi x.op,Vi x.k,Vi x.n,.string x.s,.string x.nm,.slice (some ⟨b4,o5,none⟩) len ca],.row (.slice (sA v56) (sN v56) (sC v56)) 3 1 ((eV ((tysE f x.args).take k))++[[Vi ((tyE f y).1)]])] [] ?_
     exact vQ (k + 1) (fun X q=>⟨W11,.slice (sA v56) (sN v56) (sC v56),q _ _ _ _ (qX (by rw [htk]; simp)),(S3.trans (S10.trans S12)),by omega,(fun z hz=>by rw [hxk] at hz; rcases List.mem_append.1 hz with q | q; exact hpre z q; rw [List.mem_singleton.1 q]; exact he)⟩) (by omega)
    ·skip
     refine wQ (t:=((tyE f y).2) != 0) (bne_iff_ne.2 he) ?_
     refine go0 11 [] [] ?_
     refine lQ ?_
     refine go0 2 [] [] ?_
     have htE:=tyL_err hy hpre he
     refine hQ.to [Vi 0,Vi ((tyE f y).2)] (fun H sH=>?_)
     rw [if_neg (by rw [htE]; exact he),htE]; rfl
   ·skip
    have hta:x.args.take k=x.args:=List.take_of_length_le (by omega)
    have htb:(tysE f x.args).take k=(tysE f x.args):=List.take_of_length_le (by omega)
    rw [hta] at hpre
    have htE:=tyL_all hpre
    rw [htb]
    rw [htE] at hev
    generalize (tysE f x.args)=tys at *
    refine jQ 1 (v:=v) (e:=3) (kk:=1) (l:=eV tys) ?_; intro A2 c2 hE_v hc_v hm_v
    rw [show (eV tys).length=k from by first | omega | (simp; done) | (simp; omega)] at hE_v hc_v
    rw [hE_v]
    refine g_freeze 1 (v:=.slice A2 k c2) (e:=3) (kk:=1) (l:=eV tys) ?_; intro W13 S14 fr
    refine iQ (t:=decide ((k:Int) < (len:Int))) (decide_eq_false (by omega)) ?_
    refine go0 2 [] [] ?_
    refine lQ ?_
    refine go0 7 [.b 0 0] [] ?_
    cases hru:ruleT x.op with
    | some ru =>
     obtain ⟨ta,t⟩:=ru
     rw [hru] at hgt
     obtain ⟨Ar,nr,cr,hge,hrr⟩:=hgt
     obtain ⟨i,hl⟩:=ifind_some hge
     have hq:=fun H q1 q2=>equal_any tys ta (.slice A2 k c2) (.slice Ar nr cr) H q1 q2
     refine nQ rb (es:=dV es) (td:=.int .i64) (key:=Vi x.op) (r:=some (i,.agg #[.slice Ar nr cr,Vi t])) (.agg #[Vz,Vi 0]) (.tuple #[.agg #[.slice Ar nr cr,Vi t],.bool true]) (fun a w hJ=>MapAt.now (hmp.sees (S3.trans S14)) hJ) (hl) ?_
     refine go1 22 [.own,.b 0 0,.b 0 0,.cl 164 #[.slice A2 k c2,.slice Ar nr cr] (.bool (decide (tys=ta)))] [] ?_ (ho:=(And.intro (fun H sH=>hq _ (fr.sees sH) (hrr.sees (S3.trans (S14.trans sH)))) (trivial)))
     intro b15
     by_cases e:tys=ta
     ·skip
      refine wQ (t:=decide (tys=ta)) (decide_eq_true e) ?_
      refine go0 11 [.b 0 1] [] ?_
      refine hQ.to [Vi t,Vi 0] (fun H sH=>?_)
      exact ret2 (by rw [htE,if_pos rfl]; unfold opTy; rw [hru]; simp [e])
     ·skip
      refine iQ (t:=decide (tys=ta)) (decide_eq_false e) ?_
      refine go0 16 [] [] ?_
      refine hQ.to [Vi 0,Vi 9] (fun H sH=>?_)
      exact ret2 (by rw [htE,if_pos rfl]; unfold opTy; rw [hru]; simp [e])
    | none =>
     rw [hru] at hgt
     have hl:=ifind_none hgt
     have htk:tys.length=k:=by omega
     rcases rule_none h1 ho2 hru with h17 | ⟨h17,ho3,ho4⟩
     ·have hk3:k=3:=by rw [← hke,h7,h17]; rfl
      obtain ⟨p,q,r,rfl⟩:∃ p q r,tys=[p,q,r]:=by
       match tys,htk.trans hk3 with
       | [p,q,r],_=>exact ⟨p,q,r,rfl⟩
      have r0:(eV [p,q,r])[0]?=some [.int .i64 p]:=rfl
      have r1:(eV [p,q,r])[1]?=some [.int .i64 q]:=rfl
      have r2:(eV [p,q,r])[2]?=some [.int .i64 r]:=rfl
      by_cases hp:p=2
      ·skip
       by_cases hq:q=r
       ·skip
        refine nQ rb (es:=dV es) (td:=.int .i64) (key:=Vi x.op) (r:=none) (.agg #[Vz,Vi 0]) (.tuple #[.agg #[Vz,Vi 0],.bool false]) (fun a w hJ=>MapAt.now (hmp.sees (S3.trans S14)) hJ) (hl) ?_
        refine go1 31 [.own,.b 0 0] [] ?_
        intro b16
        obtain ⟨b17,o18,rfl,-,c19⟩:=RS.row fr (r0)
        refine gQ (c19.sees (Sees.refl _)) ?_
        have c20:=RS.cell fr (r1)
        refine gQ (c20.sees (Sees.refl _)) ?_
        have c21:=RS.cell fr (r2)
        refine gQ (c21.sees (Sees.refl _)) ?_
        refine tQ 19 0 [.pu,.ld 1 0,.v (fun gh=>.bool true),.pu,.pu,.v (fun gh=>.pointer (some ⟨b17,o18 + 0 * 1,none⟩)),.lf 2 0,.v (fun gh=>.bool true),.pu,.pu,.pu,.v (fun gh=>.pointer (some ⟨b17,o18 + 1 * 1,none⟩)),.lf 1 0,.pu,.v (fun gh=>.pointer (some ⟨b17,o18 + 2 * 1,none⟩)),.lf 0 0,.v (fun gh=>.bool true),.pu,.pu] [] (trivial) ?_ ?_
        ·intro R hT hA hmono
         refine And.intro (t_eq hT hA (fun gh=>.bool true) (fun gh=>.bool (x.op == 17)) (fun gh=>congrArg Value.bool (beq_iff_eq.2 h17))) ?_
         refine And.intro (t_ix hT hA b17 o18 k c2 0 (fun gh=>.pointer (some ⟨b17,o18 + 0 * 1,none⟩)) (by first | omega | (simp; omega))) ?_
         refine And.intro (t_eq hT hA (fun gh=>.bool true) (fun gh=>.bool (p == 2)) (fun gh=>congrArg Value.bool (beq_iff_eq.2 hp))) ?_
         refine And.intro (t_ix hT hA b17 o18 k c2 1 (fun gh=>.pointer (some ⟨b17,o18 + 1 * 1,none⟩)) (by first | omega | (simp; omega))) ?_
         refine And.intro (t_ix hT hA b17 o18 k c2 2 (fun gh=>.pointer (some ⟨b17,o18 + 2 * 1,none⟩)) (by first | omega | (simp; omega))) ?_
         refine And.intro (t_eq hT hA (fun gh=>.bool true) (fun gh=>.bool (q == r)) (fun gh=>congrArg Value.bool (beq_iff_eq.2 hq))) ?_
         trivial
        rintro W22 S23 -
        refine go0 5 [] [] ?_
        have c24:=RS.cell fr (r1)
        refine gQ (c24.sees S23) ?_
        refine go0 9 [.ix b17 o18 k c2 1,.f 0 0] [] ?_ (ho:=(And.intro (by first | omega | (simp; omega)) (trivial)))
        refine hQ.to [Vi q,Vi 0] (fun H sH=>?_)
        exact ret2 (by rw [htE,if_pos rfl]; unfold opTy; rw [hru]; simp [h17,hp,hq])
       ·skip
        refine nQ rb (es:=dV es) (td:=.int .i64) (key:=Vi x.op) (r:=none) (.agg #[Vz,Vi 0]) (.tuple #[.agg #[Vz,Vi 0],.bool false]) (fun a w hJ=>MapAt.now (hmp.sees (S3.trans S14)) hJ) (hl) ?_
        refine go1 31 [.own,.b 0 0] [] ?_
        intro b25
        obtain ⟨b26,o27,rfl,-,c28⟩:=RS.row fr (r0)
        refine gQ (c28.sees (Sees.refl _)) ?_
        have c29:=RS.cell fr (r1)
        refine gQ (c29.sees (Sees.refl _)) ?_
        have c30:=RS.cell fr (r2)
        refine gQ (c30.sees (Sees.refl _)) ?_
        refine tQ 19 0 [.pu,.ld 1 0,.v (fun gh=>.bool true),.pu,.pu,.v (fun gh=>.pointer (some ⟨b26,o27 + 0 * 1,none⟩)),.lf 2 0,.v (fun gh=>.bool true),.pu,.pu,.pu,.v (fun gh=>.pointer (some ⟨b26,o27 + 1 * 1,none⟩)),.lf 1 0,.pu,.v (fun gh=>.pointer (some ⟨b26,o27 + 2 * 1,none⟩)),.lf 0 0,.v (fun gh=>.bool false),.pu,.pu] [] (trivial) ?_ ?_
        ·intro R hT hA hmono
         refine And.intro (t_eq hT hA (fun gh=>.bool true) (fun gh=>.bool (x.op == 17)) (fun gh=>congrArg Value.bool (beq_iff_eq.2 h17))) ?_
         refine And.intro (t_ix hT hA b26 o27 k c2 0 (fun gh=>.pointer (some ⟨b26,o27 + 0 * 1,none⟩)) (by first | omega | (simp; omega))) ?_
         refine And.intro (t_eq hT hA (fun gh=>.bool true) (fun gh=>.bool (p == 2)) (fun gh=>congrArg Value.bool (beq_iff_eq.2 hp))) ?_
         refine And.intro (t_ix hT hA b26 o27 k c2 1 (fun gh=>.pointer (some ⟨b26,o27 + 1 * 1,none⟩)) (by first | omega | (simp; omega))) ?_
         refine And.intro (t_ix hT hA b26 o27 k c2 2 (fun gh=>.pointer (some ⟨b26,o27 + 2 * 1,none⟩)) (by first | omega | (simp; omega))) ?_
         refine And.intro (t_eq hT hA (fun gh=>.bool false) (fun gh=>.bool (q == r)) (fun gh=>congrArg Value.bool (beq_eq_false_iff_ne.2 hq))) ?_
         trivial
        rintro W31 S32 -
        refine go0 3 [] [] ?_
        refine tQ 13 0 [.pu,.ld 1 0,.v (fun gh=>.bool false),.pu,.ps,.ps,.ps,.ps,.ps,.ps,.ps,.pu,.pu] [] (trivial) ?_ ?_
        ·intro R hT hA hmono
         refine And.intro (t_eq hT hA (fun gh=>.bool false) (fun gh=>.bool (x.op != 17)) (fun gh=>congrArg Value.bool (bne_eq_false_iff_eq.2 h17))) ?_
         trivial
        rintro W33 S34 -
        refine go0 12 [] [] ?_
        refine hQ.to [Vi 0,Vi 9] (fun H sH=>?_)
        exact ret2 (by rw [htE,if_pos rfl]; unfold opTy; rw [hru]; simp [h17,hp,hq])
      ·skip
       refine nQ rb (es:=dV es) (td:=.int .i64) (key:=Vi x.op) (r:=none) (.agg #[Vz,Vi 0]) (.tuple #[.agg #[Vz,Vi 0],.bool false]) (fun a w hJ=>MapAt.now (hmp.sees (S3.trans S14)) hJ) (hl) ?_
       refine go1 31 [.own,.b 0 0] [] ?_
       intro b35
       obtain ⟨b36,o37,rfl,-,c38⟩:=RS.row fr (r0)
       refine gQ (c38.sees (Sees.refl _)) ?_
       have c39:=RS.cell fr (r1)
       refine gQ (c39.sees (Sees.refl _)) ?_
       have c40:=RS.cell fr (r2)
       refine gQ (c40.sees (Sees.refl _)) ?_
       refine tQ 19 0 [.pu,.ld 1 0,.v (fun gh=>.bool true),.pu,.pu,.v (fun gh=>.pointer (some ⟨b36,o37 + 0 * 1,none⟩)),.lf 2 0,.v (fun gh=>.bool false),.pu,.pu,.ps,.ps,.ps,.ps,.ps,.ps,.ps,.pu,.pu] [] (trivial) ?_ ?_
       ·intro R hT hA hmono
        refine And.intro (t_eq hT hA (fun gh=>.bool true) (fun gh=>.bool (x.op == 17)) (fun gh=>congrArg Value.bool (beq_iff_eq.2 h17))) ?_
        refine And.intro (t_ix hT hA b36 o37 k c2 0 (fun gh=>.pointer (some ⟨b36,o37 + 0 * 1,none⟩)) (by first | omega | (simp; omega))) ?_
        refine And.intro (t_eq hT hA (fun gh=>.bool false) (fun gh=>.bool (p == 2)) (fun gh=>congrArg Value.bool (beq_eq_false_iff_ne.2 hp))) ?_
        trivial
       rintro W41 S42 -
       refine go0 3 [] [] ?_
       refine tQ 13 0 [.pu,.ld 1 0,.v (fun gh=>.bool false),.pu,.ps,.ps,.ps,.ps,.ps,.ps,.ps,.pu,.pu] [] (trivial) ?_ ?_
       ·intro R hT hA hmono
        refine And.intro (t_eq hT hA (fun gh=>.bool false) (fun gh=>.bool (x.op != 17)) (fun gh=>congrArg Value.bool (bne_eq_false_iff_eq.2 h17))) ?_
        trivial
       rintro W43 S44 -
       refine go0 12 [] [] ?_
       refine hQ.to [Vi 0,Vi 9] (fun H sH=>?_)
       exact ret2 (by rw [htE,if_pos rfl]; unfold opTy; rw [hru]; simp [h17,hp])
     ·skip
      have hk2:k=2:=by
       rw [← hke,h7]; unfold arity
       rw [if_neg (by omega),if_neg (by omega),if_neg h17]
      obtain ⟨p,q,rfl⟩:∃ p q,tys=[p,q]:=by
       match tys,htk.trans hk2 with
       | [p,q],_=>exact ⟨p,q,rfl⟩
      have r0:(eV [p,q])[0]?=some [.int .i64 p]:=rfl
      have r1:(eV [p,q])[1]?=some [.int .i64 q]:=rfl
      by_cases hp:p=q
      ·skip
       refine nQ rb (es:=dV es) (td:=.int .i64) (key:=Vi x.op) (r:=none) (.agg #[Vz,Vi 0]) (.tuple #[.agg #[Vz,Vi 0],.bool false]) (fun a w hJ=>MapAt.now (hmp.sees (S3.trans S14)) hJ) (hl) ?_
       refine go1 31 [.own,.b 0 0] [] ?_
       intro b45
       refine tQ 19 0 [.pu,.ld 1 0,.v (fun gh=>.bool false),.pu,.ps,.ps,.ps,.ps,.pu,.pu,.ps,.ps,.ps,.ps,.ps,.ps,.ps,.pu,.pu] [] (trivial) ?_ ?_
       ·intro R hT hA hmono
        refine And.intro (t_eq hT hA (fun gh=>.bool false) (fun gh=>.bool (x.op == 17)) (fun gh=>congrArg Value.bool (beq_eq_false_iff_ne.2 h17))) ?_
        trivial
       rintro W46 S47 -
       refine go0 3 [] [] ?_
       obtain ⟨b48,o49,rfl,-,c50⟩:=RS.row fr (r0)
       refine gQ (c50.sees S47) ?_
       have c51:=RS.cell fr (r1)
       refine gQ (c51.sees S47) ?_
       refine tQ 13 0 [.pu,.ld 1 0,.v (fun gh=>.bool true),.pu,.pu,.v (fun gh=>.pointer (some ⟨b48,o49 + 0 * 1,none⟩)),.lf 1 0,.pu,.v (fun gh=>.pointer (some ⟨b48,o49 + 1 * 1,none⟩)),.lf 0 0,.v (fun gh=>.bool true),.pu,.pu] [] (trivial) ?_ ?_
       ·intro R hT hA hmono
        refine And.intro (t_eq hT hA (fun gh=>.bool true) (fun gh=>.bool (x.op != 17)) (fun gh=>congrArg Value.bool (bne_iff_ne.2 h17))) ?_
        refine And.intro (t_ix hT hA b48 o49 k c2 0 (fun gh=>.pointer (some ⟨b48,o49 + 0 * 1,none⟩)) (by first | omega | (simp; omega))) ?_
        refine And.intro (t_ix hT hA b48 o49 k c2 1 (fun gh=>.pointer (some ⟨b48,o49 + 1 * 1,none⟩)) (by first | omega | (simp; omega))) ?_
        refine And.intro (t_eq hT hA (fun gh=>.bool true) (fun gh=>.bool (p == q)) (fun gh=>congrArg Value.bool (beq_iff_eq.2 hp))) ?_
        trivial
       rintro W52 S53 -
       refine go0 11 [] [] ?_
       refine hQ.to [Vi 2,Vi 0] (fun H sH=>?_)
       exact ret2 (by rw [htE,if_pos rfl]; unfold opTy; rw [hru]; simp [h17,hp])
      ·skip
       refine nQ rb (es:=dV es) (td:=.int .i64) (key:=Vi x.op) (r:=none) (.agg #[Vz,Vi 0]) (.tuple #[.agg #[Vz,Vi 0],.bool false]) (fun a w hJ=>MapAt.now (hmp.sees (S3.trans S14)) hJ) (hl) ?_
       refine go1 31 [.own,.b 0 0] [] ?_
       intro b54
       refine tQ 19 0 [.pu,.ld 1 0,.v (fun gh=>.bool false),.pu,.ps,.ps,.ps,.ps,.pu,.pu,.ps,.ps,.ps,.ps,.ps,.ps,.ps,.pu,.pu] [] (trivial) ?_ ?_
       ·intro R hT hA hmono
        refine And.intro (t_eq hT hA (fun gh=>.bool false) (fun gh=>.bool (x.op == 17)) (fun gh=>congrArg Value.bool (beq_eq_false_iff_ne.2 h17))) ?_
        trivial
       rintro W55 S56 -
       refine go0 3 [] [] ?_
       obtain ⟨b57,o58,rfl,-,c59⟩:=RS.row fr (r0)
       refine gQ (c59.sees S56) ?_
       have c60:=RS.cell fr (r1)
       refine gQ (c60.sees S56) ?_
       refine tQ 13 0 [.pu,.ld 1 0,.v (fun gh=>.bool true),.pu,.pu,.v (fun gh=>.pointer (some ⟨b57,o58 + 0 * 1,none⟩)),.lf 1 0,.pu,.v (fun gh=>.pointer (some ⟨b57,o58 + 1 * 1,none⟩)),.lf 0 0,.v (fun gh=>.bool false),.pu,.pu] [] (trivial) ?_ ?_
       ·intro R hT hA hmono
        refine And.intro (t_eq hT hA (fun gh=>.bool true) (fun gh=>.bool (x.op != 17)) (fun gh=>congrArg Value.bool (bne_iff_ne.2 h17))) ?_
        refine And.intro (t_ix hT hA b57 o58 k c2 0 (fun gh=>.pointer (some ⟨b57,o58 + 0 * 1,none⟩)) (by first | omega | (simp; omega))) ?_
        refine And.intro (t_ix hT hA b57 o58 k c2 1 (fun gh=>.pointer (some ⟨b57,o58 + 1 * 1,none⟩)) (by first | omega | (simp; omega))) ?_
        refine And.intro (t_eq hT hA (fun gh=>.bool false) (fun gh=>.bool (p == q)) (fun gh=>congrArg Value.bool (beq_eq_false_iff_ne.2 hp))) ?_
        trivial
       rintro W61 S62 -
       refine go0 12 [] [] ?_
       refine hQ.to [Vi 0,Vi 9] (fun H sH=>?_)
       exact ret2 (by rw [htE,if_pos rfl]; unfold opTy; rw [hru]; simp [h17,hp])
end Go.Proofs.YthplkompdehjlaaGreatDoor
namespace Go.Proofs.YthplkompdehjlaaGreatDoor
open Go.RowKit
def mpB:Value→Nat | .map (some b)=>b | _=>0
theorem types_u (fs:List Fd) (v:Value) (h:Vw) (hf:IsFds h v fs):C0 Tryz.prog 149 #[v] h (fun r h'=>∃ u,r=.map (some (mpB u))∧TypesAt h' (mpB u) (tyF fs)):=by
 intro a b c d
 refine (types_any fs v h hf a b c d).mono ?_
 rintro e w' ⟨v,Bo,rfl,h1,h2,h3,b,rfl,h4⟩
 exact ⟨_,Bo,rfl,h1,h2,h3,.map (some b),rfl,h4⟩
theorem rules_u (h:Vw):C0 Tryz.prog 150 #[] h (fun r h'=>∃ u,r=.map (some (mpB u))∧RulesAt h' (mpB u)):=by
 intro a b c d
 refine (rules_any h a b c d).mono ?_
 rintro e w' ⟨v,Bo,rfl,h1,h2,h3,b,rfl,h4⟩
 exact ⟨_,Bo,rfl,h1,h2,h3,.map (some b),rfl,h4⟩
def ofE (fs:List Fd) (x:Ex):Int × Int:=if chkE x=0 then tyE (tyF fs) x else (0,chkE x)
theorem tyOf_any (fs:List Fd) (x:Ex) (v fv:Value) (h:Vw) (hx:IsArgs h x v) (hw:WfE x) (hb:(szE x).1 < 1000000) (hf:IsFds h fv fs) :
  C0 Tryz.prog 135 #[.agg #[.int .i64 x.op,.int .i64 x.k,.int .i64 x.n,.string x.s,.string x.nm,v],fv] h (fun r _=>r=.tuple #[.int .i64 (ofE fs x).1,.int .i64 (ofE fs x).2]):=by
 obtain ⟨A,n,c,rfl⟩:=hx.slice
 obtain ⟨Af,nf,cf,rfl⟩:∃ A n c,fv=.slice A n c:=by
  obtain ⟨vs,hr,-⟩:=hf
  obtain ⟨A,c,e,-⟩:=hr.form
  exact ⟨_,_,_,e⟩
 have hck:=fun H q=>check_any x (.slice A n c) H q hw hb
 have hO:=fun fb rb H q1 q2 q3=>tyof_any (tyF fs) fb rb _ x (.slice A n c) H (Nat.le_refl _) q1 hw q2 q3
 have hTy:=fun H q=>types_u fs (.slice Af nf cf) H q
 unfold ofE
 generalize chkE x=e at *
 generalize tyE (tyF fs) x=ty at *
 refine fQ Tryz.func135 (c:=Tryz.f135.body.getD .skip) (N:=19) ?_
 intro hbx hbad Q hQ
 refine go1 21 [.own,.b 0 0,.cl 25 #[.agg #[Vi x.op,Vi x.k,Vi x.n,.string x.s,.string x.nm,.slice A n c]] (Vi e)] [] ?_ (ho:=(And.intro (fun H sH=>hck _ (hx.sees sH)) (trivial)))
 intro b1
 by_cases he:e=0
 ·skip
  refine iQ (t:=e != 0) (bne_eq_false_iff_eq.2 he) ?_
  refine go0 3 [] [] ?_
  refine tQ 9 0 [.ld 0 0,.pu,.f (fun gh=>.map (some (mpB (gh 2)))) (fun gh hh=>TypesAt hh (mpB (gh 2)) (tyF fs)),.f (fun gh=>.map (some (mpB (gh 3)))) (fun gh hh=>RulesAt hh (mpB (gh 3))),.v (fun gh=>.tuple #[Vi ty.1,Vi ty.2]),.pu,.pu,.pu,.pu] [(2,false),(3,false)] (And.intro (fun _ _ _ s c=>c.sees s) (And.intro (fun _ _ _ s c=>c.sees s) (trivial))) ?_ ?_
  ·intro R hT hA hmono
   refine And.intro (r_call hT hA hmono ⟨fun _ _=>by kernel_rfl,fun _ _=>by kernel_rfl,fun _ _=>by kernel_rfl⟩ 14 (fun u=>.map (some (mpB u))) [1] 2 (by kernel_rfl) (by kernel_rfl) (fun _=>by kernel_rfl) 149 (fun gh=>#[.slice Af nf cf]) (fun _ _=>by kernel_rfl) (fun gh H sH fH lent=>C0.facts (R:=R) (x:=gh) (i:=2) (n:=0) (F:=(fun u=>.map (some (mpB u)))) (G:=fun u hh=>TypesAt hh (mpB u) (tyF fs)) (f:=fun gh hh=>TypesAt hh (mpB (gh 2)) (tyF fs)) (hTy _ (hf.sees sH)) (by kernel_rfl) (by kernel_rfl) (fun _ _ r=>r))) ?_
   refine And.intro (r_call hT hA hmono ⟨fun _ _=>by kernel_rfl,fun _ _=>by kernel_rfl,fun _ _=>by kernel_rfl⟩ 15 (fun u=>.map (some (mpB u))) [2] 3 (by kernel_rfl) (by kernel_rfl) (fun _=>by kernel_rfl) 150 (fun gh=>#[]) (fun _ _=>by kernel_rfl) (fun gh H sH fH lent=>C0.facts (R:=R) (x:=gh) (i:=3) (n:=1) (F:=(fun u=>.map (some (mpB u)))) (G:=fun u hh=>RulesAt hh (mpB u)) (f:=fun gh hh=>RulesAt hh (mpB (gh 3))) (rules_u _) (by kernel_rfl) (by kernel_rfl) (fun _ _ r=>r))) ?_
   refine And.intro (t_v hT hA hmono (k:=148) (args:=(fun gh=>#[.agg #[Vi x.op,Vi x.k,Vi x.n,.string x.s,.string x.nm,.slice A n c],.map (some (mpB (gh 2))),.map (some (mpB (gh 3)))])) (f:=fun gh=>.tuple #[Vi ty.1,Vi ty.2]) (fun gh H sH fH lent=>hO _ _ _ (hx.sees sH) (fH 0 _ rfl (by kernel_rfl)) (fH 1 _ rfl (by kernel_rfl)))) ?_
   trivial
  rintro u14 u15 W2 S3 ⟨f14,f15,-⟩
  replace f14:TypesAt W2 (mpB u14) (tyF fs):=f14
  replace f15:RulesAt W2 (mpB u15):=f15
  refine go0 2 [] [] ?_
  refine hQ.to [Vi ty.1,Vi ty.2] (fun H sH=>?_)
  rw [if_pos he]; rfl
 ·skip
  refine wQ (t:=e != 0) (bne_iff_ne.2 he) ?_
  refine go0 9 [] [] ?_
  refine hQ.to [Vi 0,Vi e] (fun H sH=>?_)
  rw [if_neg he]; rfl
def fitsE (fs:List Fd) (x:Ex) (want:Int):Int:=if (ofE fs x).2=0 then (if (ofE fs x).1=want then 0 else 9) else (ofE fs x).2
theorem fits_any (fs:List Fd) (x:Ex) (v fv:Value) (want:Int) (h:Vw) (hx:IsArgs h x v) (hw:WfE x) (hb:(szE x).1 < 1000000) (hf:IsFds h fv fs) :
  C0 Tryz.prog 106 #[.agg #[.int .i64 x.op,.int .i64 x.k,.int .i64 x.n,.string x.s,.string x.nm,v],fv,.int .i64 want] h (fun r _=>r=.int .i64 (fitsE fs x want)):=by
 obtain ⟨A,n,c,rfl⟩:=hx.slice
 obtain ⟨Af,nf,cf,rfl⟩:∃ A n c,fv=.slice A n c:=by
  obtain ⟨vs,hr,-⟩:=hf
  obtain ⟨A,c,e,-⟩:=hr.form
  exact ⟨_,_,_,e⟩
 have hO:=fun H q1 q2=>tyOf_any fs x (.slice A n c) (.slice Af nf cf) H q1 hw hb q2
 unfold fitsE
 generalize ofE fs x=ty at *
 refine fQ Tryz.func106 (c:=Tryz.f106.body.getD .skip) (N:=21) ?_
 intro hbx hbad Q hQ
 refine go1 25 [.own,.b 0 0,.cl 135 #[.agg #[Vi x.op,Vi x.k,Vi x.n,.string x.s,.string x.nm,.slice A n c],.slice Af nf cf] (.tuple #[Vi ty.1,Vi ty.2])] [] ?_ (ho:=(And.intro (fun H sH=>hO _ (hx.sees sH) (hf.sees sH)) (trivial)))
 intro b1
 by_cases he:ty.2=0
 ·refine iQ (t:=ty.2 != 0) (bne_eq_false_iff_eq.2 he) ?_
  refine go0 10 [] [] ?_
  by_cases hw:ty.1=want
  ·refine iQ (t:=ty.1 != want) (bne_eq_false_iff_eq.2 hw) ?_
   refine go0 8 [] [] ?_
   refine hQ.to [Vi 0] (fun H sH=>?_)
   rw [if_pos he,if_pos hw]; rfl
  ·skip
   refine wQ (t:=ty.1 != want) (bne_iff_ne.2 hw) ?_
   refine go0 7 [] [] ?_
   refine hQ.to [Vi 9] (fun H sH=>?_)
   rw [if_pos he,if_neg hw]; rfl
 ·skip
  refine wQ (t:=ty.2 != 0) (bne_iff_ne.2 he) ?_
  refine go0 8 [] [] ?_
  refine hQ.to [Vi ty.2] (fun H sH=>?_)
  rw [if_neg he]; rfl
end Go.Proofs.YthplkompdehjlaaGreatDoor
namespace Go.Proofs.YthplkompdehjlaaGreatDoor
open Go.RowKit
set_option linter.unusedVariables false
structure OkF (fs:List Fd) (f:Fd):Prop where
 name:oJ f.name.data.toList
 k1:1≤f.kind
 k3:f.kind≤3
 t1:1≤f.ty
 t3:f.ty≤3
 inp:f.kind=1→f.src=zE
 wf:f.kind≠1→WfE f.src∧(szE f.src).1≤60∧chkE f.src=0
 form:f.kind=2→tyE (tyF fs) f.src=(f.ty,0)
 look:f.kind=3→∃ t,1≤t∧t≤3∧tyE (tyF fs) f.src=(t,0)
structure OkFs (fs:List Fd):Prop where
 each:∀ f∈fs,OkF fs f
 nodup:(fs.map (·.name)).Nodup
 few:fs.length≤14
theorem args_zero {h:Vw} {x:Ex} {v:Value} (hx:x.args=[]) (ha:IsArgs h x v):∃ A c,v=.slice A 0 c:=by
 obtain ⟨vs,hr,-⟩:=ha.form
 obtain ⟨A,c,e,-⟩:=hr.form
 rw [hx] at e
 exact ⟨A,c,e⟩
theorem none_any (A:Option Addr) (c:Nat) (h:Vw):C0 Tryz.prog 96 #[.agg #[.int .i64 0,.int .i64 0,.int .i64 0,.string ⟨#[]⟩,.string ⟨#[]⟩,.slice A 0 c]] h (fun r _=>r=.bool true):=by
 refine fQ Tryz.func96 (c:=Tryz.f96.body.getD .skip) (N:=23) ?_
 intro hbx hbad Q hQ
 refine go1 32 [.own,.b 0 0,.b 0 4,.b 0 1,.b 0 5] [] ?_
 intro b1
 refine hQ.to [.bool true] (fun H sH=>?_)
 exact rfl
theorem right_any (fs:List Fd) (f:Fd) (v:Value) (h:Vw) (hf:OkF fs f) (ha:IsArgs h f.src v):C0 Tryz.prog 69 #[.agg #[.string f.name,.int .i64 f.kind,.int .i64 f.ty,.int .i64 f.src.op,.int .i64 f.src.k,.int .i64 f.src.n,.string f.src.s,.string f.src.nm,v]] h (fun r _=>r=.int .i64 0):=by
 have hn:=fun H=>c_name f.name H hf.name
 have k1:=hf.k1
 have k3:=hf.k3
 have t1:=hf.t1
 have t3:=hf.t3
 by_cases g:f.kind=1
 ·obtain ⟨A,c,rfl⟩:=args_zero (by rw [hf.inp g]; rfl) ha
  have e1:f.src.op=0:=by rw [hf.inp g]; rfl
  have e2:f.src.k=0:=by rw [hf.inp g]; rfl
  have e3:f.src.n=0:=by rw [hf.inp g]; rfl
  have e4:f.src.s=⟨#[]⟩:=by rw [hf.inp g]; rfl
  have e5:f.src.nm=⟨#[]⟩:=by rw [hf.inp g]; rfl
  rw [e1,e2,e3,e4,e5,g]
  refine fQ Tryz.func69 (c:=Tryz.f69.body.getD .skip) (N:=38) ?_
  intro hbx hbad Q hQ
  refine go1 78 [.own,.b 0 0,.cl 65 #[.string f.name] (Vi 0),.b 0 1,.b 0 1,.b 0 2,.b 0 2,.b 0 1,.b 0 3,.cl 96 #[.agg #[Vi 0,Vi 0,Vi 0,Ve,Ve,.slice A 0 c]] (.bool true)] [(21,.bool (decide (f.ty < 1)),.bool false),(26,.bool (decide (f.ty > 3)),.bool false)] ?_ (ho:=(And.intro (fun H sH=>hn _) (And.intro (fun H sH=>none_any A c _) (trivial)))) (hc:=(And.intro (congrArg Value.bool (decide_eq_false (by omega))) (And.intro (congrArg Value.bool (decide_eq_false (by omega))) (trivial))))
  intro b1
  refine hQ.to [Vi 0] (fun H sH=>?_)
  exact rfl
 ·obtain ⟨w1,w2,w3⟩:=hf.wf g
  obtain ⟨A,n,c,rfl⟩:=ha.slice
  have hc:=fun H q=>check_any f.src (.slice A n c) H q w1 (by omega)
  rw [w3] at hc
  refine fQ Tryz.func69 (c:=Tryz.f69.body.getD .skip) (N:=38) ?_
  intro hbx hbad Q hQ
  refine go1 70 [.own,.b 0 0,.cl 65 #[.string f.name] (Vi 0),.b 0 1,.b 0 1,.b 0 2,.b 0 2,.b 0 1,.b 0 3,.cl 25 #[.agg #[Vi f.src.op,Vi f.src.k,Vi f.src.n,.string f.src.s,.string f.src.nm,.slice A n c]] (Vi 0)] [(12,.bool (decide (f.kind < 1)),.bool false),(16,.bool (decide (f.kind > 3)),.bool false),(21,.bool (decide (f.ty < 1)),.bool false),(26,.bool (decide (f.ty > 3)),.bool false),(30,.bool (f.kind == 1),.bool false)] ?_ (ho:=(And.intro (fun H sH=>hn _) (And.intro (fun H sH=>hc _ (ha.sees sH)) (trivial)))) (hc:=(And.intro (congrArg Value.bool (decide_eq_false (by omega))) (And.intro (congrArg Value.bool (decide_eq_false (by omega))) (And.intro (congrArg Value.bool (decide_eq_false (by omega))) (And.intro (congrArg Value.bool (decide_eq_false (by omega))) (And.intro (congrArg Value.bool (beq_eq_false_iff_ne.2 g)) (trivial)))))))
  intro b1
  refine hQ.to [Vi 0] (fun H sH=>?_)
  exact rfl
theorem typed_any (fs:List Fd) (f:Fd) (v fv:Value) (h:Vw) (hf:OkF fs f) (ha:IsArgs h f.src v) (hfs:IsFds h fv fs):C0 Tryz.prog 124 #[.agg #[.string f.name,.int .i64 f.kind,.int .i64 f.ty,.int .i64 f.src.op,.int .i64 f.src.k,.int .i64 f.src.n,.string f.src.s,.string f.src.nm,v],fv] h (fun r _=>r=.int .i64 0):=by
 obtain ⟨A,n,c,rfl⟩:=ha.slice
 obtain ⟨vs,Af,cf,rfl,-⟩:=uK hfs
 obtain g | g | g:f.kind=1∨f.kind=2∨f.kind=3:=by have:=hf.k1; have:=hf.k3; omega
 ·rw [g]
  refine fQ Tryz.func124 (c:=Tryz.f124.body.getD .skip) (N:=27) ?_
  intro hbx hbad Q hQ
  refine go1 37 [.own,.b 0 1] [] ?_
  intro b1
  refine hQ.to [Vi 0] (fun H sH=>?_)
  exact rfl
 ·obtain ⟨w1,w2,w3⟩:=hf.wf (by omega)
  have hc:=fun H q1 q2=>fits_any fs f.src (.slice A n c) (.slice Af fs.length cf) f.ty H q1 w1 (by omega) q2
  have e:fitsE fs f.src f.ty=0:=by unfold fitsE ofE; rw [if_pos w3,hf.form g]; simp
  rw [e] at hc
  rw [g]
  refine fQ Tryz.func124 (c:=Tryz.f124.body.getD .skip) (N:=27) ?_
  intro hbx hbad Q hQ
  refine go1 35 [.own,.b 0 1,.b 0 3,.b 0 2,.cl 106 #[.agg #[Vi f.src.op,Vi f.src.k,Vi f.src.n,.string f.src.s,.string f.src.nm,.slice A n c],.slice Af fs.length cf,Vi f.ty] (Vi 0)] [] ?_ (ho:=(And.intro (fun H sH=>hc _ (ha.sees sH) (hfs.sees sH)) (trivial)))
  intro b1
  refine hQ.to [Vi 0] (fun H sH=>?_)
  exact rfl
 ·obtain ⟨w1,w2,w3⟩:=hf.wf (by omega)
  obtain ⟨t,-,-,ht⟩:=hf.look g
  have hc:=fun H q1 q2=>tyOf_any fs f.src (.slice A n c) (.slice Af fs.length cf) H q1 w1 (by omega) q2
  have e:ofE fs f.src=(t,0):=by unfold ofE; rw [if_pos w3,ht]
  rw [e] at hc
  rw [g]
  refine fQ Tryz.func124 (c:=Tryz.f124.body.getD .skip) (N:=27) ?_
  intro hbx hbad Q hQ
  refine go1 50 [.own,.b 0 1,.b 0 3,.cl 135 #[.agg #[Vi f.src.op,Vi f.src.k,Vi f.src.n,.string f.src.s,.string f.src.nm,.slice A n c],.slice Af fs.length cf] (.tuple #[Vi t,Vi 0])] [] ?_ (ho:=(And.intro (fun H sH=>hc _ (ha.sees sH) (hfs.sees sH)) (trivial)))
  intro b1
  refine hQ.to [Vi 0] (fun H sH=>?_)
  exact rfl
theorem AllArgs.take' {h:Vw}:∀ (i:Nat) {l:List Ex} {vs:List Value},AllArgs h l vs→AllArgs h (l.take i) (vs.take i)
 | 0,l,vs,_=>by rw [List.take_zero,List.take_zero]; unfold AllArgs; rfl
 | i + 1,[],vs,k=>by unfold AllArgs at k; subst k; rw [List.take_nil,List.take_nil]; unfold AllArgs; rfl
 | i + 1,x :: l,vs,k=>by
  unfold AllArgs at k
  obtain ⟨u,us',rfl,q1,q2⟩:=k
  rw [List.take_succ_cons,List.take_succ_cons]
  unfold AllArgs
  exact ⟨_,_,rfl,q1,AllArgs.take' i q2⟩
theorem fds_take {h:Vw} {A:Option Addr} {cap:Nat} {fs:List Fd} (hf:IsFds h (.slice A fs.length cap) fs) (k:Nat) (hk:k≤fs.length):IsFds h (.slice A k cap) (fs.take k):=by
 obtain ⟨vs,hr,hs⟩:=hf
 have hl:=hs.len
 refine ⟨vs.take k,?_,?_⟩
 ·have:=hr.take k (by rw [sK hl]; omega)
  rwa [show (qK fs vs).take k=qK (fs.take k) (vs.take k) from List.take_zipWith] at this
 ·unfold AllSrc
  rw [List.map_take]
  exact AllArgs.take' k hs
set_option maxHeartbeats 2000000 in
theorem check_fields (fs:List Fd) (fv:Value) (h:Vw) (hf:OkFs fs) (hfs:IsFds h fv fs):C0 Tryz.prog 97 #[fv] h (fun r _=>r=.int .i64 0):=by
 obtain ⟨vs,A,c,rfl,hc1,hc2,hr,hsrc,hvl,hsl⟩:=uK hfs
 have few:=hf.few
 refine fQ Tryz.func97 (c:=Tryz.f97.body.getD .skip) (N:=51) ?_
 intro hbx hbad Q hQ
 refine go0 13 [] [] ?_
 refine iQ (t:=decide ((fs.length:Int) > 14)) (decide_eq_false (by omega)) ?_
 refine go0 11 [] [] ?_
 refine mQ [0,1,0,1,1] [.block 0,.seq [1,1,1]] (fun (k:Nat) X=>∃ (W1:Vw) ,X W1 [(0,.slice A fs.length c),(14,.slice A fs.length c),(15,Vi (fs.length:Int)),(16,Vi (k:Int))] [] []∧Sees h W1∧(k≤fs.length)) (fun k=>fs.length - k) (0) (fun X q=>⟨h,q _ _ _ _ ⟨rfl,by kernel_rfl⟩,Sees.refl _,Nat.zero_le _⟩) ?_
 rintro k a w ⟨W1,hJ,S2,hk⟩; refine pQ hJ ?_; clear hJ a w
 refine go0 6 [] [] ?_
 rcases (by omega:k < fs.length∨k=fs.length) with hlt | hke
 ·obtain ⟨f,hfk⟩:∃ f,fs[k]?=some f:=⟨_,List.getElem?_eq_getElem (by omega)⟩
  obtain ⟨u,huk⟩:∃ u,vs[k]?=some u:=⟨_,List.getElem?_eq_getElem (by omega)⟩
  have hslu:=hsl u (List.mem_of_getElem? huk)
  have hrow:(qK fs vs)[k]?=some (fdRow f (.slice (sA u) (sN u) (sC u))):=by rw [hslu]; exact rK hfk huk
  have ha:IsArgs h f.src (.slice (sA u) (sN u) (sC u)):=by rw [hslu]; exact AllArgs.get hsrc (x:=f.src) (by rw [List.getElem?_map,hfk]; rfl) huk
  have hok:=hf.each f (List.mem_of_getElem? hfk)
  have hno:vK (fs.take k) f.name = -1:=findF_none fun y hy e=>by
   obtain ⟨j,hj⟩:=List.mem_iff_getElem?.1 hy
   rw [List.getElem?_take] at hj
   split at hj
   ·rename_i hjk
    have h1:(fs.map (fun f:Fd=>f.name))[j]?=some f.name:=by rw [List.getElem?_map,hj]; simp [e]
    have h2:(fs.map (fun f:Fd=>f.name))[k]?=some f.name:=by rw [List.getElem?_map,hfk]; rfl
    have:=(List.getElem?_inj (by rw [List.length_map]; omega) hf.nodup).1 (h1.trans h2.symm)
    omega
   ·cases hj
  have htk:=fds_take hfs k hk
  refine wQ (t:=decide ((k:Int) < (fs.length:Int))) (decide_eq_true (by omega)) ?_
  refine go0 7 [] [] ?_
  obtain ⟨b3,o4,rfl,-,c5⟩:=RS.row hr (hrow)
  refine gQ (c5.sees S2) ?_
  refine go1 25 [.ix b3 o4 fs.length c k,.f 0 0,.own,.b 0 0,.b 0 0,.cl 69 #[.agg #[.string f.name,Vi f.kind,Vi f.ty,Vi f.src.op,Vi f.src.k,Vi f.src.n,.string f.src.s,.string f.src.nm,.slice (sA u) (sN u) (sC u)]] (Vi 0)] [] ?_ (ho:=(And.intro (by first | omega | (simp; omega)) (And.intro (fun H sH=>right_any fs f _ _ hok (ha.sees (S2.trans sH))) (trivial))))
  intro b6
  refine tQ 11 0 [.pu,.pu,.v (fun gh=>.slice (some ⟨b3,o4,none⟩) k c),.pu,.ld 0 0,.v (fun gh=>.tuple #[Vi 0,Vi 5]),.pu,.pu,.pu,.pu,.pu] [] (trivial) ?_ ?_
  ·intro R hT hA hmono
   refine And.intro (t_p hT hA (fun gh=>.slice (some ⟨b3,o4,none⟩) k c) (fun gh w=>run_hi (t:=30) (e:=46) (x:=(.tmp 27)) (y:=(.tmp 28)) (A:=(some ⟨b3,o4,none⟩)) (n:=fs.length) (cap:=c) (k:=k) (kk:=9) (by kernel_rfl) (by kernel_rfl) (by kernel_rfl) (by omega) Tryz.underlying30 (by kernel_rfl))) ?_
   refine And.intro (t_v hT hA hmono (k:=104) (args:=(fun gh=>#[.slice (some ⟨b3,o4,none⟩) k c,.string f.name])) (f:=fun gh=>.tuple #[Vi 0,Vi 5]) (fun gh H sH fH lent=>find_no (fs.take k) _ f.name _ (htk.sees (S2.trans sH)) (by rw [List.length_take]; omega) (by omega))) ?_
   trivial
  rintro W7 S8 -
  refine go0 15 [] [(37,Vi (IntKind.i64.wrap ((k:Int) + 1)),Vi ((k:Int) + 1))] ?_ (hc:=(And.intro (jJ (by omega) (by omega)) (trivial)))
  exact vQ (k + 1) (fun X q=>⟨W7,q _ _ _ _ ⟨rfl,by kernel_rfl⟩,(S2.trans S8),by omega⟩) (by omega)
 ·skip
  refine iQ (t:=decide ((k:Int) < (fs.length:Int))) (decide_eq_false (by omega)) ?_
  refine go0 2 [] [] ?_
  refine lQ ?_
  refine go0 11 [] [] ?_
  refine mQ [0,1,0,1,1,1] [.block 2,.seq [1,1,1,1]] (fun (k2:Nat) X=>∃ (W9:Vw) ,X W9 [(0,.slice A fs.length c),(38,.slice A fs.length c),(39,Vi (fs.length:Int)),(40,Vi (k2:Int))] [] []∧Sees W1 W9∧(k2≤fs.length)) (fun k2=>fs.length - k2) (0) (fun X q=>⟨W1,q _ _ _ _ ⟨rfl,by kernel_rfl⟩,Sees.refl _,Nat.zero_le _⟩) ?_
  rintro k2 a w ⟨W9,hJ,S10,hk2⟩; refine pQ hJ ?_; clear hJ a w
  refine go0 6 [] [] ?_
  rcases (by omega:k2 < fs.length∨k2=fs.length) with hlt2 | hke2
  ·obtain ⟨f,hfk⟩:∃ f,fs[k2]?=some f:=⟨_,List.getElem?_eq_getElem (by omega)⟩
   obtain ⟨u,huk⟩:∃ u,vs[k2]?=some u:=⟨_,List.getElem?_eq_getElem (by omega)⟩
   have hslu:=hsl u (List.mem_of_getElem? huk)
   have hrow:(qK fs vs)[k2]?=some (fdRow f (.slice (sA u) (sN u) (sC u))):=by rw [hslu]; exact rK hfk huk
   have ha:IsArgs h f.src (.slice (sA u) (sN u) (sC u)):=by rw [hslu]; exact AllArgs.get hsrc (x:=f.src) (by rw [List.getElem?_map,hfk]; rfl) huk
   have hok:=hf.each f (List.mem_of_getElem? hfk)
   refine wQ (t:=decide ((k2:Int) < (fs.length:Int))) (decide_eq_true (by omega)) ?_
   refine go0 6 [] [] ?_
   obtain ⟨b11,o12,rfl,-,c13⟩:=RS.row hr (hrow)
   refine gQ (c13.sees (S2.trans S10)) ?_
   refine go1 28 [.ix b11 o12 fs.length c k2,.f 0 0,.own,.b 0 0,.b 0 0,.cl 124 #[.agg #[.string f.name,Vi f.kind,Vi f.ty,Vi f.src.op,Vi f.src.k,Vi f.src.n,.string f.src.s,.string f.src.nm,.slice (sA u) (sN u) (sC u)],.slice (some ⟨b11,o12,none⟩) fs.length c] (Vi 0)] [(50,Vi (IntKind.i64.wrap ((k2:Int) + 1)),Vi ((k2:Int) + 1))] ?_ (ho:=(And.intro (by first | omega | (simp; omega)) (And.intro (fun H sH=>typed_any fs f _ _ _ hok (ha.sees (S2.trans (S10.trans sH))) (hfs.sees (S2.trans (S10.trans sH)))) (trivial)))) (hc:=(And.intro (jJ (by omega) (by omega)) (trivial)))
   intro b14
   exact vQ (k2 + 1) (fun X q=>⟨W9,q _ _ _ _ ⟨rfl,by kernel_rfl⟩,S10,by omega⟩) (by omega)
  ·skip
   refine iQ (t:=decide ((k2:Int) < (fs.length:Int))) (decide_eq_false (by omega)) ?_
   refine go0 2 [] [] ?_
   refine lQ ?_
   refine go0 8 [] [] ?_
   refine hQ.to [Vi 0] (fun H sH=>?_)
   exact rfl
end Go.Proofs.YthplkompdehjlaaGreatDoor
namespace Go.Proofs.YthplkompdehjlaaGreatDoor
open Go.RowKit
set_option linter.unusedVariables false
theorem fdL_len {f:Fd} (h:FdW f) (hz:f.kind≠1→(szE f.src).1≤60):(fdL f).length≤10000:=by
 have h1:(kdW f.kind).length≤7:=by
  obtain e | e | e:f.kind=1∨f.kind=2∨f.kind=3:=by have:=h.k1; have:=h.k3; omega
  all_goals rw [e]; decide
 have h2:(tyW f.ty).length≤4:=by
  obtain e | e | e:f.ty=1∨f.ty=2∨f.ty=3:=by have:=h.t1; have:=h.t3; omega
  all_goals rw [e]; decide
 have h3:=h.nm.2.1
 have h4:(fdF f).length≤30:=by unfold fdF; simp only [List.length_append,List.length_cons]; omega
 unfold fdL
 split
 ·omega
 ·rename_i k
  have h5:=zW _ f.src 1 (Nat.le_refl _) (h.wf k)
  have:=hz k
  simp only [List.length_append,List.length_cons,List.length_nil]
  omega
theorem wix_kd {k:Int} (h1:1≤k) (h3:k≤3):wix [105,110,112,117,116] [102,111,114,109,117,108,97] [108,111,111,107,117,112] (kdW k)=k:=by
 obtain rfl | rfl | rfl:k=1∨k=2∨k=3:=by omega
 all_goals decide
theorem wix_ty {k:Int} (h1:1≤k) (h3:k≤3):wix [105,110,116] [98,111,111,108] [116,101,120,116] (tyW k)=k:=by
 obtain rfl | rfl | rfl:k=1∨k=2∨k=3:=by omega
 all_goals decide
theorem OkF.words {fs:List Fd} {f:Fd} (hf:OkF fs f):FdW f:=⟨hf.name,hf.k1,hf.k3,hf.t1,hf.t3,fun g=>(hf.wf g).1⟩
theorem fdF_len {f:Fd} (h:FdW f) (hz:f.kind≠1→(szE f.src).1≤60):(fdF f).length≤10000:=by
 have:=fdL_len h hz
 unfold fdL at this
 split at this
 ·exact this
 ·rw [List.length_append] at this; omega
set_option maxHeartbeats 1000000 in
theorem readField_inp (fs:List Fd) (f:Fd) (h:Vw) (lk:Lk h) (hf:OkF fs f) (hk:f.kind=1) :
  C0 Tryz.prog 35 #[.string (mkB (fdL f))] h (fun r _=>r=.tuple #[.agg #[.string f.name,.int .i64 1,.int .i64 f.ty,.int .i64 0,.int .i64 0,.int .i64 0,.string ⟨#[]⟩,.string ⟨#[]⟩,.slice none 0 0],.int .i64 0]):=by
 have hw:=hf.words
 have hL:=fdL_len hw fun g=>absurd hk g
 have hF:=fdF_len hw fun g=>absurd hk g
 have hC:=fun H q=>c_cut (mkB (fdL f)) ⟨#[32,61,32]⟩ _ _ _ H q (by rw [pV]; omega) (fdL_cut hw)
 have hS:∀ H,Lk H→C0 Tryz.prog 19 #[.string (mkB (fdF f)),.string ⟨#[32]⟩] H (fun r h'=>∃ b,r=.slice (some ⟨b,0,none⟩) 3 3∧Cells h' b 0 [.string (mkB (kdW f.kind)),.string (mkB f.name.data.toList),.string (mkB (tyW f.ty))]) :=
  fun H q=>c_splitC (mkB (fdF f)) ⟨#[32]⟩ _ H q (by rw [pV]; omega) (by decide) (fdF_split hw)
 have hI:=fun H=>index_any [105,110,112,117,116] [102,111,114,109,117,108,97] [108,111,111,107,117,112] (mkB (kdW f.kind)) H
 have hTy:=fun H=>index_any [105,110,116] [98,111,111,108] [116,101,120,116] (mkB (tyW f.ty)) H
 rw [oV,wix_kd hf.k1 hf.k3] at hI
 rw [oV,wix_ty hf.t1 hf.t3] at hTy
 have hN:=fun H=>c_name f.name H hf.name
 have t1:=hf.t1
 have t3:=hf.t3
 rw [← (mkB_eq rfl:f.name=mkB f.name.data.toList)] at hS
 rw [if_pos hk,hk] at hC
 rw [hk] at hS hI
 clear hw hf hL hF
 generalize mkB (fdL f)=sl at *
 generalize mkB (fdF f)=sf at *
 generalize mkB (kdW 1)=sk at *
 generalize mkB (tyW f.ty)=st at *
 generalize f.ty=ty at *
 generalize f.name=nm at *
 refine fQ Tryz.func35 (c:=Tryz.f35.body.getD .skip) (N:=82) ?_
 intro hbx hbad Q hQ
 refine go3 34 [.own,.cl 67 #[] (.tuple #[.agg #[Ve,.string ⟨#[105,110,116]⟩,.string ⟨#[98,111,111,108]⟩,.string ⟨#[116,101,120,116]⟩],.agg #[Ve,.string ⟨#[105,110,112,117,116]⟩,.string ⟨#[102,111,114,109,117,108,97]⟩,.string ⟨#[108,111,111,107,117,112]⟩]]),.own,.own,.b 1 0,.b 0 0,.cl 64 #[.string sl,.string ⟨#[32,61,32]⟩] (.tuple #[.string sf,.string (mkB []),.bool false])] [] ?_ (ho:=(And.intro (fun H sH=>mY _) (And.intro (fun H sH=>hC _ (lk.sees sH)) (trivial))))
 intro b1 b2 b3
 refine bQ (fun H sH=>hS _ (lk.sees sH)) ?_; rintro _ W4 S5 ⟨b,rfl,hc⟩
 refine go0 15 [] [] ?_
 refine gQ (hc.sees (Sees.refl _)) ?_
 refine tQ 16 1 [.ld 1 0,.pu,.pu,.lf 0 0,.v (fun gh=>Vi 1),.pu,.pu,.lf 0 1,.ld 2 0,.pu,.pu,.lf 0 2,.v (fun gh=>Vi ty),.pu,.al 0,.st 0 0] [(14,true)] (trivial) ?_ ?_
 ·intro R hT hA hmono
  refine And.intro (t_v hT hA hmono (k:=68) (args:=(fun gh=>#[.agg #[Ve,.string ⟨#[105,110,112,117,116]⟩,.string ⟨#[102,111,114,109,117,108,97]⟩,.string ⟨#[108,111,111,107,117,112]⟩],.string sk])) (f:=fun gh=>Vi 1) (fun gh H sH fH lent=>hI _)) ?_
  refine And.intro (t_v hT hA hmono (k:=68) (args:=(fun gh=>#[.agg #[Ve,.string ⟨#[105,110,116]⟩,.string ⟨#[98,111,111,108]⟩,.string ⟨#[116,101,120,116]⟩],.string st])) (f:=fun gh=>Vi ty) (fun gh H sH fH lent=>hTy _)) ?_
  trivial
 rintro b6 W7 S8 -
 refine go0 13 [.b 0 1,.b 0 2] [] ?_
 refine uQ 51 (v:=.bool (ty == 0)) (v':=.bool false) (congrArg Value.bool (beq_eq_false_iff_ne.2 (by omega))) ?_
 refine go0 34 [.b 0 1,.b 0 0,.cl 65 #[.string nm] (Vi 0),.b 0 0,.b 3 0] [] ?_ (ho:=(And.intro (fun H sH=>hN _) (trivial)))
 refine hQ.to [.agg #[.string nm,Vi 1,Vi ty,Vi 0,Vi 0,Vi 0,Ve,Ve,Vz],Vi 0] (fun H sH=>?_) (ix:=[3])
 exact rfl
set_option maxHeartbeats 1000000 in
theorem readField_src (fs:List Fd) (f:Fd) (h:Vw) (lk:Lk h) (hf:OkF fs f) (hk:f.kind≠1) (hd:(szE f.src).2≤12) :
  C0 Tryz.prog 35 #[.string (mkB (fdL f))] h (fun r h'=>if 160 < (prt f.src 1).length then r=.tuple #[.agg #[.string ⟨#[]⟩,.int .i64 0,.int .i64 0,.int .i64 0,.int .i64 0,.int .i64 0,.string ⟨#[]⟩,.string ⟨#[]⟩,.slice none 0 0],.int .i64 1] else ∃ u,r=.tuple #[.agg #[.string f.name,.int .i64 f.kind,.int .i64 f.ty,.int .i64 f.src.op,.int .i64 f.src.k,.int .i64 f.src.n,.string f.src.s,.string f.src.nm,.slice (sA u) (sN u) (sC u)],.int .i64 0]∧IsArgs h' f.src (.slice (sA u) (sN u) (sC u))):=by
 have hw:=hf.words
 have hz:=(hf.wf hk).2.1
 have hwf:=(hf.wf hk).1
 have hL:=fdL_len hw fun _=>hz
 have hF:=fdF_len hw fun _=>hz
 have hC:=fun H q=>c_cut (mkB (fdL f)) ⟨#[32,61,32]⟩ _ _ _ H q (by rw [pV]; omega) (fdL_cut hw)
 have hS:∀ H,Lk H→C0 Tryz.prog 19 #[.string (mkB (fdF f)),.string ⟨#[32]⟩] H (fun r h'=>∃ b,r=.slice (some ⟨b,0,none⟩) 3 3∧Cells h' b 0 [.string (mkB (kdW f.kind)),.string (mkB f.name.data.toList),.string (mkB (tyW f.ty))]) :=
  fun H q=>c_splitC (mkB (fdF f)) ⟨#[32]⟩ _ H q (by rw [pV]; omega) (by decide) (fdF_split hw)
 have hI:=fun H=>index_any [105,110,112,117,116] [102,111,114,109,117,108,97] [108,111,111,107,117,112] (mkB (kdW f.kind)) H
 have hTy:=fun H=>index_any [105,110,116] [98,111,111,108] [116,101,120,116] (mkB (tyW f.ty)) H
 rw [oV,wix_kd hf.k1 hf.k3] at hI
 rw [oV,wix_ty hf.t1 hf.t3] at hTy
 have hN:=fun H=>c_name f.name H hf.name
 have t1:=hf.t1
 have t3:=hf.t3
 have k1:=hf.k1
 have k3:=hf.k3
 have hR:=fun v H q=>right_any fs f v H hf q
 have hpl:=zW _ f.src 1 (Nat.le_refl _) hwf
 have hX:=fun H (q:160 < (mkB (prt f.src 1)).size)=>source_long (mkB (prt f.src 1)) H q (by rw [pV]; omega)
 have hY:=fun H (q:(prt f.src 1).length≤160)=>source_any f.src H hwf q hz hd
 rw [pV] at hX
 rw [← (mkB_eq rfl:f.name=mkB f.name.data.toList)] at hS
 rw [if_neg hk] at hC
 have hB:(f.kind != 1)=true:=bne_iff_ne.2 hk
 rw [hB] at hC
 clear hw hf hL hF hwf hz hd hpl
 generalize (prt f.src 1).length=len at *
 generalize mkB (prt f.src 1)=sp at *
 generalize mkB (fdL f)=sl at *
 generalize mkB (fdF f)=sf at *
 generalize mkB (kdW f.kind)=sk at *
 generalize mkB (tyW f.ty)=st at *
 refine fQ Tryz.func35 (c:=Tryz.f35.body.getD .skip) (N:=82) ?_
 intro hbx hbad Q hQ
 refine go3 34 [.own,.cl 67 #[] (.tuple #[.agg #[Ve,.string ⟨#[105,110,116]⟩,.string ⟨#[98,111,111,108]⟩,.string ⟨#[116,101,120,116]⟩],.agg #[Ve,.string ⟨#[105,110,112,117,116]⟩,.string ⟨#[102,111,114,109,117,108,97]⟩,.string ⟨#[108,111,111,107,117,112]⟩]]),.own,.own,.b 1 0,.b 0 0,.cl 64 #[.string sl,.string ⟨#[32,61,32]⟩] (.tuple #[.string sf,.string sp,.bool true])] [] ?_ (ho:=(And.intro (fun H sH=>mY _) (And.intro (fun H sH=>hC _ (lk.sees sH)) (trivial))))
 intro b1 b2 b3
 refine bQ (fun H sH=>hS _ (lk.sees sH)) ?_; rintro _ W4 S5 ⟨b,rfl,hc⟩
 refine go0 15 [] [] ?_
 refine gQ (hc.sees (Sees.refl _)) ?_
 refine tQ 16 1 [.ld 1 0,.pu,.pu,.lf 0 0,.v (fun gh=>Vi f.kind),.pu,.pu,.lf 0 1,.ld 2 0,.pu,.pu,.lf 0 2,.v (fun gh=>Vi f.ty),.pu,.al 0,.st 0 0] [(14,true)] (trivial) ?_ ?_
 ·intro R hT hA hmono
  refine And.intro (t_v hT hA hmono (k:=68) (args:=(fun gh=>#[.agg #[Ve,.string ⟨#[105,110,112,117,116]⟩,.string ⟨#[102,111,114,109,117,108,97]⟩,.string ⟨#[108,111,111,107,117,112]⟩],.string sk])) (f:=fun gh=>Vi f.kind) (fun gh H sH fH lent=>hI _)) ?_
  refine And.intro (t_v hT hA hmono (k:=68) (args:=(fun gh=>#[.agg #[Ve,.string ⟨#[105,110,116]⟩,.string ⟨#[98,111,111,108]⟩,.string ⟨#[116,101,120,116]⟩],.string st])) (f:=fun gh=>Vi f.ty) (fun gh H sH fH lent=>hTy _)) ?_
  trivial
 rintro b6 W7 S8 -
 refine go0 8 [.b 0 1] [] ?_
 refine uQ 46 (v:=.bool (f.kind == 0)) (v':=.bool false) (congrArg Value.bool (beq_eq_false_iff_ne.2 (by omega))) ?_
 refine go0 5 [.b 0 2] [] ?_
 refine uQ 51 (v:=.bool (f.ty == 0)) (v':=.bool false) (congrArg Value.bool (beq_eq_false_iff_ne.2 (by omega))) ?_
 refine go0 30 [.b 0 1,.b 0 0,.cl 65 #[.string f.name] (Vi 0)] [(55,.bool (f.kind != 1),.bool true)] ?_ (ho:=(And.intro (fun H sH=>hN _) (trivial))) (hc:=(And.intro (congrArg Value.bool hB) (trivial)))
 by_cases hlong:160 < len
 ·skip
  refine go1 27 [.cl 66 #[.string sp] (.tuple #[.agg #[Vi 0,Vi 0,Vi 0,Ve,Ve,Vz],Vi 1]),.own,.b 0 0,.b 4 0] [] ?_ (ho:=(And.intro (fun H sH=>hX _ hlong) (trivial)))
  intro b9
  refine hQ.to [.agg #[Ve,Vi 0,Vi 0,Vi 0,Vi 0,Vi 0,Ve,Ve,Vz],Vi 1] (fun H sH=>?_) (ix:=[4])
  exact (if_pos hlong).mpr rfl
 ·skip
  refine bQ (fun H sH=>hY _ (Nat.le_of_not_lt hlong)) ?_; rintro _ W10 S11 ⟨u,rfl,hu⟩
  refine go1 26 [.own,.b 0 0,.b 0 0,.b 1 3] [] ?_
  intro b12
  refine tQ 5 0 [.ld 1 0,.ld 1 0,.v (fun gh=>Vi 0),.st 4 0,.pu] [] (trivial) ?_ ?_
  ·intro R hT hA hmono
   refine And.intro (t_v hT hA hmono (k:=69) (args:=(fun gh=>#[.agg #[.string f.name,Vi f.kind,Vi f.ty,Vi f.src.op,Vi f.src.k,Vi f.src.n,.string f.src.s,.string f.src.nm,.slice (sA u) (sN u) (sC u)]])) (f:=fun gh=>Vi 0) (fun gh H sH fH lent=>hR _ _ (hu.sees sH))) ?_
   trivial
  rintro W13 S14 -
  refine go0 2 [] [] ?_
  refine hQ.to [.agg #[.string f.name,Vi f.kind,Vi f.ty,Vi f.src.op,Vi f.src.k,Vi f.src.n,.string f.src.s,.string f.src.nm,.slice (sA u) (sN u) (sC u)],Vi 0] (fun H sH=>?_) (ix:=[4])
  exact (if_neg hlong).mpr ⟨u,rfl,(hu.sees (S14.trans sH))⟩
end Go.Proofs.YthplkompdehjlaaGreatDoor
namespace Go.Proofs.YthplkompdehjlaaGreatDoor
open Go.RowKit
set_option linter.unusedVariables false
def nmJ (p:Pg):List UInt8:=Lib.join (p.fields.map fun s=>s.data.toList) [44,32]
def pgB (p:Pg):List UInt8:=if p.skip.op=0 then nmJ p else nmJ p++([59,32]++prt p.skip 1)
def pgL (p:Pg):List UInt8:=p.name.data.toList++([58,32]++pgB p)
structure PgW (p:Pg):Prop where
 nm:oJ p.name.data.toList
 fs:∀ s∈p.fields,oJ s.data.toList
 few:p.fields.length≤100
 sk:p.skip=zE∨(p.skip.op≠0∧WfE p.skip∧(szE p.skip).1≤60∧(szE p.skip).2≤12)
theorem join_no {sep:List UInt8} {c:UInt8} (hs:c ∉ sep):∀ l:List (List UInt8),(∀ x∈l,c ∉ x)→c ∉ Lib.join l sep
 | [],_,q=>by cases q
 | [x],h,q=>by rw [Lib.join_one] at q; exact h x (by simp) q
 | x :: y :: r,h,q=>by
  rw [jV] at q
  simp only [List.mem_append] at q
  rcases q with q | q | q
  ·exact h x (by simp) q
  ·exact hs q
  ·exact join_no hs (y :: r) (fun z hz=>h z (List.mem_cons_of_mem _ hz)) q
theorem nmJ_no {p:Pg} (h:PgW p) {c:UInt8} (hc:iV c=false) (hs:c ∉ ([44,32]:List UInt8)):c ∉ nmJ p :=
 join_no hs _ fun x hx=>by
  obtain ⟨s,hs,rfl⟩:=List.mem_map.1 hx
  exact nameOk_no (h.fs s hs) hc
theorem pgL_cut {p:Pg} (h:PgW p):Lib.cut (pgL p) [58,32]=(p.name.data.toList,pgB p,true) :=
 cut_hit (idx_c rfl (nameOk_no h.nm (by decide)))
theorem pgB_cut {p:Pg} (h:PgW p):Lib.cut (pgB p) [59,32]=(nmJ p,if p.skip.op=0 then [] else prt p.skip 1,p.skip.op != 0):=by
 unfold pgB
 by_cases k:p.skip.op=0
 ·rw [if_pos k,if_pos k,cut_miss (idx_none rfl (nmJ_no h (by decide) (by decide))),k]; rfl
 ·rw [if_neg k,if_neg k,cut_hit (idx_c rfl (nmJ_no h (by decide) (by decide))),bne_iff_ne.2 k]
theorem nmJ_split {p:Pg} (h:PgW p) (hn:p.fields≠[]):Lib.split (nmJ p) [44,32]=p.fields.map fun s=>s.data.toList :=
 split_join rfl _ (by simpa using hn) fun x hx=>by
  obtain ⟨s,hs,rfl⟩:=List.mem_map.1 hx
  exact nameOk_no (h.fs s hs) (by decide)
theorem nmJ_ne {p:Pg} (h:PgW p) (hn:p.fields≠[]):nmJ p≠[]:=fun q=>by
 have h2:=nmJ_split h hn
 obtain ⟨s,r,e⟩:∃ s r,p.fields=s :: r:=by cases hp:p.fields with
  | nil=>exact absurd hp hn
  | cons s r=>exact ⟨s,r,rfl⟩
 have h1:=(h.fs s (by rw [e]; simp)).1
 unfold nmJ at q
 rw [e,List.map_cons] at q
 cases r with
 | nil=>rw [List.map_nil,Lib.join_one] at q; rw [q] at h1; simp at h1
 | cons y r=>rw [List.map_cons,jV] at q; simp at q
theorem nmJ_len:∀ l:List (List UInt8),(∀ x∈l,x.length≤10)→(Lib.join l [44,32]).length≤12 * l.length
 | [],_=>Nat.le_refl _
 | [x],h=>by rw [Lib.join_one]; have:=h x (by simp); simp only [List.length_cons,List.length_nil]; omega
 | x :: y :: r,h=>by
  have ih:=nmJ_len (y :: r) fun z hz=>h z (List.mem_cons_of_mem _ hz)
  have:=h x (by simp)
  rw [jV]
  simp only [List.length_append,List.length_cons,List.length_nil] at ih ⊢
  omega
theorem pgL_len {p:Pg} (h:PgW p):(pgL p).length≤10000∧(pgB p).length≤10000∧(nmJ p).length≤1200:=by
 have h1:=h.nm.2.1
 have h2:(nmJ p).length≤1200:=by
  have:=nmJ_len (p.fields.map fun s=>s.data.toList) fun x hx=>by
   obtain ⟨s,hs,rfl⟩:=List.mem_map.1 hx
   exact (h.fs s hs).2.1
  rw [List.length_map] at this
  have:=h.few
  unfold nmJ; omega
 have h3:(pgB p).length≤9000:=by
  unfold pgB
  split
  ·omega
  ·rename_i k
   rcases h.sk with e | ⟨-,e,e2,-⟩
   ·rw [e] at k; exact absurd rfl k
   ·have:=zW _ p.skip 1 (Nat.le_refl _) e
    simp only [List.length_append,List.length_cons,List.length_nil]
    omega
 refine ⟨?_,by omega,h2⟩
 unfold pgL
 simp only [List.length_append,List.length_cons,List.length_nil]
 omega
theorem isArgs_z (h:Vw):IsArgs h zE (.slice none 0 0):=qJ h zE rfl
theorem cells_flat:∀ l:List ByteArray,(l.map fun s=>s.data.toList).map (fun x=>Value.string (mkB x))=(eY l).flatten
 | []=>rfl
 | s :: l=>by
  show Value.string (mkB s.data.toList) :: (l.map fun s=>s.data.toList).map (fun x=>Value.string (mkB x))=Value.string s :: (eY l).flatten
  rw [cells_flat l,← (mkB_eq rfl:s=mkB s.data.toList)]
theorem c_splitN (p:Pg) (hw:PgW p) (hn:p.fields≠[]) (H:Vw) (q:Lk H):C0 Tryz.prog 19 #[.string (mkB (nmJ p)),.string ⟨#[44,32]⟩] H (fun r h'=>∃ b,r=.slice (some ⟨b,0,none⟩) p.fields.length p.fields.length∧RS h' 1 (.slice (some ⟨b,0,none⟩) p.fields.length p.fields.length) (eY p.fields)):=by
 have hL:=pgL_len hw
 have hf:=hw.few
 refine (c_splitC (mkB (nmJ p)) ⟨#[44,32]⟩ _ H q (by rw [pV]; omega) (by decide) (nmJ_split hw hn)).mono fun v h' _ k=>?_
 obtain ⟨b,e,c⟩:=k
 rw [List.length_map] at e
 rw [cells_flat] at c
 have hr:=mX (k:=1) (eY p.fields) (fun r hr=>by obtain ⟨s,-,rfl⟩:=List.mem_map.1 hr; rfl) (by rw [List.length_map]; unfold maxLen; omega) c
 rw [List.length_map] at hr
 exact ⟨b,e,hr⟩
set_option maxHeartbeats 1000000 in
theorem readPage_some (p:Pg) (h:Vw) (lk:Lk h) (hw:PgW p) (hn:p.fields≠[]) :
  C0 Tryz.prog 34 #[.string (mkB (pgL p))] h (fun r h'=>if p.skip.op≠0∧160 < (prt p.skip 1).length then r=.tuple #[.agg #[.string ⟨#[]⟩,.slice none 0 0,.int .i64 0,.int .i64 0,.int .i64 0,.string ⟨#[]⟩,.string ⟨#[]⟩,.slice none 0 0],.int .i64 1] else ∃ u v,r=.tuple #[.agg #[.string p.name,.slice (sA u) (sN u) (sC u),.int .i64 p.skip.op,.int .i64 p.skip.k,.int .i64 p.skip.n,.string p.skip.s,.string p.skip.nm,.slice (sA v) (sN v) (sC v)],.int .i64 0]∧RS h' 1 (.slice (sA u) (sN u) (sC u)) (eY p.fields)∧IsArgs h' p.skip (.slice (sA v) (sN v) (sC v))):=by
 have hL:=pgL_len hw
 have hC:=fun H q=>c_cut (mkB (pgL p)) ⟨#[58,32]⟩ _ _ _ H q (by rw [pV]; omega) (pgL_cut hw)
 have hD:=fun H q=>c_cut (mkB (pgB p)) ⟨#[59,32]⟩ _ _ _ H q (by rw [pV]; omega) (pgB_cut hw)
 have hS:=fun H q=>c_splitN p hw hn H q
 have hN0:=fun H=>c_name p.name H hw.nm
 have hN:=fun s H (q:s∈p.fields)=>c_name s H (hw.fs s q)
 have hf:=hw.few
 have hne:=nmJ_ne hw hn
 have hnb:((mkB (nmJ p)).toList == (⟨#[]⟩:ByteArray).toList)=false:=beq_eq_false_iff_ne.2 (by rw [Lib.toList_data,Lib.toList_data,oV]; exact hne)
 rw [← (mkB_eq rfl:p.name=mkB p.name.data.toList)] at hC
 have hX:∀ H,p.skip.op≠0→160 < (prt p.skip 1).length→C0 Tryz.prog 66 #[.string (mkB (prt p.skip 1))] H (fun r _=>r=.tuple #[zX,.int .i64 1]):=fun H g q=>by
  rcases hw.sk with e | ⟨-,e,e2,-⟩
  ·rw [e] at g; exact absurd rfl g
  ·have:=zW _ p.skip 1 (Nat.le_refl _) e
   exact source_long _ H (by rw [pV]; exact q) (by rw [pV]; omega)
 have hY:∀ H,p.skip.op≠0→(prt p.skip 1).length≤160→C0 Tryz.prog 66 #[.string (mkB (prt p.skip 1))] H (fun r h'=>∃ u,r=.tuple #[.agg #[.int .i64 p.skip.op,.int .i64 p.skip.k,.int .i64 p.skip.n,.string p.skip.s,.string p.skip.nm,.slice (sA u) (sN u) (sC u)],.int .i64 0]∧IsArgs h' p.skip (.slice (sA u) (sN u) (sC u))):=fun H g q=>by
  rcases hw.sk with e | ⟨-,e,e2,e3⟩
  ·rw [e] at g; exact absurd rfl g
  ·exact source_any p.skip H e q e2 e3
 have hz:p.skip.op=0→p.skip=zE:=fun g=>hw.sk.elim id fun k=>absurd g k.1
 clear hw hL hne
 generalize mkB (nmJ p)=sj at *
 generalize mkB (pgB p)=sb at *
 generalize mkB (pgL p)=sl at *
 obtain ⟨bq,hbq⟩:∃ bq,(p.skip.op != 0)=bq:=⟨_,rfl⟩
 obtain ⟨sp,hsp⟩:∃ sp,mkB (if p.skip.op=0 then [] else prt p.skip 1)=sp:=⟨_,rfl⟩
 rw [hbq,hsp] at hD
 obtain ⟨n,hnl⟩:∃ n,p.fields.length=n:=⟨_,rfl⟩
 rw [hnl] at hS hf
 refine fQ Tryz.func34 (c:=Tryz.f34.body.getD .skip) (N:=69) ?_
 intro hbx hbad Q hQ
 refine go2 62 [.own,.cl 64 #[.string sl,.string ⟨#[58,32]⟩] (.tuple #[.string p.name,.string sb,.bool true]),.cl 65 #[.string p.name] (Vi 0),.cl 64 #[.string sb,.string ⟨#[59,32]⟩] (.tuple #[.string sj,.string sp,.bool bq]),.own,.b 0 0] [] ?_ (ho:=(And.intro (fun H sH=>hC _ (lk.sees sH)) (And.intro (fun H sH=>hN0 _) (And.intro (fun H sH=>hD _ (lk.sees sH)) (trivial)))))
 intro b1 b2
 refine wQ (t:=sj.toList != (⟨#[]⟩:ByteArray).toList) (by rw [bne,hnb]; rfl) ?_
 refine go0 2 [] [] ?_
 refine bQ (fun H sH=>hS _ (lk.sees sH)) ?_; rintro _ W3 S4 ⟨b,rfl,hr⟩
 refine go0 14 [.b 0 1,.b 0 1] [] ?_
 refine mQ [0,1,0,1,1,1,1,1,1] [.block 0,.seq [1,1,1,1,1,1,1]] (fun (k:Nat) X=>∃ (W5:Vw) ,X W5 [(2,Vp b1),(8,.string sp),(9,.bool bq),(10,Vp b2),(43,Vs b n n),(44,Vi (n:Int)),(45,Vi (k:Int))] [.box b2 [.string p.name,Vs b n n,Vi 0,Vi 0,Vi 0,Ve,Ve,Vz],.box b1 [Ve,Vz,Vi 0,Vi 0,Vi 0,Ve,Ve,Vz]] []∧Sees W3 W5∧(k≤n)) (fun k=>n - k) (0) (fun X q=>⟨W3,q _ _ _ _ ⟨rfl,by kernel_rfl⟩,Sees.refl _,Nat.zero_le _⟩) ?_
 rintro k a w ⟨W5,hJ,S6,hk⟩; refine pQ hJ ?_; clear hJ a w
 refine go0 6 [] [] ?_
 rcases (by omega:k < n∨k=n) with hlt | hke
 ·skip
  obtain ⟨s,hsk⟩:∃ s,p.fields[k]?=some s:=⟨_,List.getElem?_eq_getElem (by omega)⟩
  have hrow:(eY p.fields)[k]?=some [.string s]:=by rw [List.getElem?_map,hsk]; rfl
  refine wQ (t:=decide ((k:Int) < (n:Int))) (decide_eq_true (by omega)) ?_
  refine go0 6 [] [] ?_
  have c7:=RS.cell hr (hrow)
  refine gQ (c7.sees S6) ?_
  refine go0 20 [.ix b 0 n n k,.f 0 0,.cl 65 #[.string s] (Vi 0)] [(53,Vi (IntKind.i64.wrap ((k:Int) + 1)),Vi ((k:Int) + 1))] ?_ (ho:=(And.intro (by first | omega | (simp; omega)) (And.intro (fun H sH=>hN s _ (List.mem_of_getElem? hsk)) (trivial)))) (hc:=(And.intro (jJ (by omega) (by omega)) (trivial)))
  exact vQ (k + 1) (fun X q=>⟨W5,q _ _ _ _ ⟨rfl,by kernel_rfl⟩,S6,by omega⟩) (by omega)
 ·skip
  refine iQ (t:=decide ((k:Int) < (n:Int))) (decide_eq_false (by omega)) ?_
  refine go0 2 [] [] ?_
  refine lQ ?_
  refine go0 9 [] [] ?_
  rcases boolIs bq with eb | eb
  ·have g:p.skip.op≠0:=bne_iff_ne.1 (hbq.trans eb)
   rw [if_neg g] at hsp
   rw [hsp] at hX hY
   refine iQ (t := !bq) (by rw [eb]; rfl) ?_
   refine go0 5 [] [] ?_
   by_cases hlong:160 < (prt p.skip 1).length
   ·skip
    refine go1 27 [.cl 66 #[.string sp] (.tuple #[.agg #[Vi 0,Vi 0,Vi 0,Ve,Ve,Vz],Vi 1]),.own,.b 0 0,.b 2 0] [] ?_ (ho:=(And.intro (fun H sH=>hX _ g hlong) (trivial)))
    intro b8
    refine hQ.to [.agg #[Ve,Vz,Vi 0,Vi 0,Vi 0,Ve,Ve,Vz],Vi 1] (fun H sH=>?_) (ix:=[2])
    exact (if_pos ⟨g,hlong⟩).mpr rfl
   ·skip
    refine bQ (fun H sH=>hY _ g (Nat.le_of_not_lt hlong)) ?_; rintro _ W9 S10 ⟨u,rfl,hu⟩
    refine go1 33 [.own,.b 0 0,.b 0 0,.b 1 2,.b 1 0,.b 2 0] [] ?_
    intro b11
    refine hQ.to [.agg #[.string p.name,Vs b n n,Vi p.skip.op,Vi p.skip.k,Vi p.skip.n,.string p.skip.s,.string p.skip.nm,.slice (sA u) (sN u) (sC u)],Vi 0] (fun H sH=>?_) (ix:=[2])
    exact (if_neg (fun q=>hlong q.2)).mpr ⟨Vs b n n,u,rfl,(hr.sees (S6.trans (S10.trans sH))),(hu.sees sH)⟩
  ·have g:p.skip.op=0:=bne_eq_false_iff_eq.1 (hbq.trans eb)
   refine wQ (t := !bq) (by rw [eb]; rfl) ?_
   refine go0 9 [.b 0 0,.b 1 0] [] ?_
   refine hQ.to [.agg #[.string p.name,Vs b n n,Vi 0,Vi 0,Vi 0,Ve,Ve,Vz],Vi 0] (fun H sH=>?_) (ix:=[1])
   exact (if_neg (fun q=>q.1 g)).mpr ⟨Vs b n n,Vz,by rw [hz g]; rfl,(hr.sees (S6.trans sH)),by rw [hz g]; exact isArgs_z _⟩
end Go.Proofs.YthplkompdehjlaaGreatDoor
namespace Go.Proofs.YthplkompdehjlaaGreatDoor
open Go.RowKit
set_option linter.unusedVariables false
set_option maxHeartbeats 1000000 in
theorem readPage_none (p:Pg) (h:Vw) (lk:Lk h) (hw:PgW p) (hn:p.fields=[]) :
  C0 Tryz.prog 34 #[.string (mkB (pgL p))] h (fun r h'=>if p.skip.op≠0∧160 < (prt p.skip 1).length then r=.tuple #[.agg #[.string ⟨#[]⟩,.slice none 0 0,.int .i64 0,.int .i64 0,.int .i64 0,.string ⟨#[]⟩,.string ⟨#[]⟩,.slice none 0 0],.int .i64 1] else ∃ u v,r=.tuple #[.agg #[.string p.name,.slice (sA u) (sN u) (sC u),.int .i64 p.skip.op,.int .i64 p.skip.k,.int .i64 p.skip.n,.string p.skip.s,.string p.skip.nm,.slice (sA v) (sN v) (sC v)],.int .i64 0]∧RS h' 1 (.slice (sA u) (sN u) (sC u)) (eY p.fields)∧IsArgs h' p.skip (.slice (sA v) (sN v) (sC v))):=by
 have hL:=pgL_len hw
 have hC:=fun H q=>c_cut (mkB (pgL p)) ⟨#[58,32]⟩ _ _ _ H q (by rw [pV]; omega) (pgL_cut hw)
 have hD:=fun H q=>c_cut (mkB (pgB p)) ⟨#[59,32]⟩ _ _ _ H q (by rw [pV]; omega) (pgB_cut hw)
 have hN0:=fun H=>c_name p.name H hw.nm
 have hj0:nmJ p=[]:=by unfold nmJ; rw [hn]; rfl
 have hnb:((mkB (nmJ p)).toList == (⟨#[]⟩:ByteArray).toList)=true:=by rw [hj0]; exact beq_iff_eq.2 rfl
 rw [← (mkB_eq rfl:p.name=mkB p.name.data.toList)] at hC
 have hX:∀ H,p.skip.op≠0→160 < (prt p.skip 1).length→C0 Tryz.prog 66 #[.string (mkB (prt p.skip 1))] H (fun r _=>r=.tuple #[zX,.int .i64 1]):=fun H g q=>by
  rcases hw.sk with e | ⟨-,e,e2,-⟩
  ·rw [e] at g; exact absurd rfl g
  ·have:=zW _ p.skip 1 (Nat.le_refl _) e
   exact source_long _ H (by rw [pV]; exact q) (by rw [pV]; omega)
 have hY:∀ H,p.skip.op≠0→(prt p.skip 1).length≤160→C0 Tryz.prog 66 #[.string (mkB (prt p.skip 1))] H (fun r h'=>∃ u,r=.tuple #[.agg #[.int .i64 p.skip.op,.int .i64 p.skip.k,.int .i64 p.skip.n,.string p.skip.s,.string p.skip.nm,.slice (sA u) (sN u) (sC u)],.int .i64 0]∧IsArgs h' p.skip (.slice (sA u) (sN u) (sC u))):=fun H g q=>by
  rcases hw.sk with e | ⟨-,e,e2,e3⟩
  ·rw [e] at g; exact absurd rfl g
  ·exact source_any p.skip H e q e2 e3
 have hz:p.skip.op=0→p.skip=zE:=fun g=>hw.sk.elim id fun k=>absurd g k.1
 clear hw hL hj0
 generalize mkB (nmJ p)=sj at *
 generalize mkB (pgB p)=sb at *
 generalize mkB (pgL p)=sl at *
 obtain ⟨bq,hbq⟩:∃ bq,(p.skip.op != 0)=bq:=⟨_,rfl⟩
 obtain ⟨sp,hsp⟩:∃ sp,mkB (if p.skip.op=0 then [] else prt p.skip 1)=sp:=⟨_,rfl⟩
 rw [hbq,hsp] at hD
 refine fQ Tryz.func34 (c:=Tryz.f34.body.getD .skip) (N:=69) ?_
 intro hbx hbad Q hQ
 refine go2 62 [.own,.cl 64 #[.string sl,.string ⟨#[58,32]⟩] (.tuple #[.string p.name,.string sb,.bool true]),.cl 65 #[.string p.name] (Vi 0),.cl 64 #[.string sb,.string ⟨#[59,32]⟩] (.tuple #[.string sj,.string sp,.bool bq]),.own,.b 0 0] [] ?_ (ho:=(And.intro (fun H sH=>hC _ (lk.sees sH)) (And.intro (fun H sH=>hN0 _) (And.intro (fun H sH=>hD _ (lk.sees sH)) (trivial)))))
 intro b1 b2
 refine iQ (t:=sj.toList != (⟨#[]⟩:ByteArray).toList) (by rw [bne,hnb]; rfl) ?_
 refine go0 12 [.b 0 1] [] ?_
 refine mQ [0,1,0,1,1,1,1,1,1] [.block 0,.seq [1,1,1,1,1,1,1]] (fun (k:Nat) X=>∃ (W3:Vw) ,X W3 [(2,Vp b1),(8,.string sp),(9,.bool bq),(10,Vp b2),(43,Vz),(44,Vi 0),(45,Vi (k:Int))] [.box b2 [.string p.name,Vz,Vi 0,Vi 0,Vi 0,Ve,Ve,Vz],.box b1 [Ve,Vz,Vi 0,Vi 0,Vi 0,Ve,Ve,Vz]] []∧Sees h W3∧(k=0)) (fun k=>0 - k) (0) (fun X q=>⟨h,q _ _ _ _ ⟨rfl,by kernel_rfl⟩,Sees.refl _,rfl⟩) ?_
 rintro k a w ⟨W3,hJ,S4,hk⟩; refine pQ hJ ?_; clear hJ a w
 refine go0 6 [] [] ?_
 ·refine iQ (t:=decide ((k:Int) < 0)) (decide_eq_false (by omega)) ?_
  refine go0 2 [] [] ?_
  refine lQ ?_
  refine go0 9 [] [] ?_
  rcases boolIs bq with eb | eb
  ·have g:p.skip.op≠0:=bne_iff_ne.1 (hbq.trans eb)
   rw [if_neg g] at hsp
   rw [hsp] at hX hY
   refine iQ (t := !bq) (by rw [eb]; rfl) ?_
   refine go0 5 [] [] ?_
   by_cases hlong:160 < (prt p.skip 1).length
   ·skip
    refine go1 27 [.cl 66 #[.string sp] (.tuple #[.agg #[Vi 0,Vi 0,Vi 0,Ve,Ve,Vz],Vi 1]),.own,.b 0 0,.b 2 0] [] ?_ (ho:=(And.intro (fun H sH=>hX _ g hlong) (trivial)))
    intro b5
    refine hQ.to [.agg #[Ve,Vz,Vi 0,Vi 0,Vi 0,Ve,Ve,Vz],Vi 1] (fun H sH=>?_) (ix:=[2])
    exact (if_pos ⟨g,hlong⟩).mpr rfl
   ·skip
    refine bQ (fun H sH=>hY _ g (Nat.le_of_not_lt hlong)) ?_; rintro _ W6 S7 ⟨u,rfl,hu⟩
    refine go1 33 [.own,.b 0 0,.b 0 0,.b 1 2,.b 1 0,.b 2 0] [] ?_
    intro b8
    refine hQ.to [.agg #[.string p.name,Vz,Vi p.skip.op,Vi p.skip.k,Vi p.skip.n,.string p.skip.s,.string p.skip.nm,.slice (sA u) (sN u) (sC u)],Vi 0] (fun H sH=>?_) (ix:=[2])
    exact (if_neg (fun q=>hlong q.2)).mpr ⟨Vz,u,rfl,by rw [hn]; exact RS.nil _ 1,(hu.sees sH)⟩
  ·have g:p.skip.op=0:=bne_eq_false_iff_eq.1 (hbq.trans eb)
   refine wQ (t := !bq) (by rw [eb]; rfl) ?_
   refine go0 9 [.b 0 0,.b 1 0] [] ?_
   refine hQ.to [.agg #[.string p.name,Vz,Vi 0,Vi 0,Vi 0,Ve,Ve,Vz],Vi 0] (fun H sH=>?_) (ix:=[1])
   exact (if_neg (fun q=>q.1 g)).mpr ⟨Vz,Vz,by rw [hz g]; rfl,by rw [hn]; exact RS.nil _ 1,by rw [hz g]; exact isArgs_z _⟩
end Go.Proofs.YthplkompdehjlaaGreatDoor
namespace Go.Proofs.YthplkompdehjlaaGreatDoor
open Go.RowKit
set_option linter.unusedVariables false
def pgW:List UInt8:=[112,97,103,101,32]
def lnF (fm:Fm):List (List UInt8):=fm.fields.map fdL++fm.pages.map fun p=>pgW++pgL p
def pK (f:Fd):Prop:=f.kind≠1∧160 < (prt f.src 1).length
def lW (p:Pg):Prop:=p.skip.op≠0∧160 < (prt p.skip 1).length
theorem fdL_head {f:Fd} (h:FdW f):∃ c r,fdL f=c :: r∧c≠112:=by
 obtain ⟨c,r,e,hc⟩:∃ c r,kdW f.kind=c :: r∧c≠112:=by
  obtain e | e | e:f.kind=1∨f.kind=2∨f.kind=3:=by have:=h.k1; have:=h.k3; omega
  ·exact ⟨105,_,by rw [e]; rfl,by decide⟩
  ·exact ⟨102,_,by rw [e]; rfl,by decide⟩
  ·exact ⟨108,_,by rw [e]; rfl,by decide⟩
 unfold fdL fdF
 rw [e]
 split
 ·exact ⟨c,_,rfl,hc⟩
 ·exact ⟨c,_,rfl,hc⟩
theorem cutp_f {f:Fd} (hw:FdW f) (H:Vw):C0 Tryz.prog 33 #[.string (mkB (fdL f)),.string ⟨#[112,97,103,101,32]⟩] H (fun r _=>r=.tuple #[.string (mkB (fdL f)),.bool false]):=by
 obtain ⟨c,r,e,hc⟩:=fdL_head hw
 have hp:Lib.hasPrefix (fdL f) [112,97,103,101,32]=false:=by
  rw [e]
  show ((112:UInt8) == c && _)=false
  rw [beq_eq_false_iff_ne.2 (Ne.symm hc)]; rfl
 refine (c_cutp (mkB (fdL f)) ⟨#[112,97,103,101,32]⟩ H).mono fun v h' _ k=>?_
 rw [k,oV]
 show Value.tuple #[.string (mkB (Lib.trimPrefix (fdL f) [112,97,103,101,32])),.bool (Lib.hasPrefix (fdL f) [112,97,103,101,32])]=_
 unfold Lib.trimPrefix
 rw [hp]; rfl
theorem cutp_p (l:List UInt8) (H:Vw):C0 Tryz.prog 33 #[.string (mkB (pgW++l)),.string ⟨#[112,97,103,101,32]⟩] H (fun r _=>r=.tuple #[.string (mkB l),.bool true]):=by
 refine (c_cutp (mkB (pgW++l)) ⟨#[112,97,103,101,32]⟩ H).mono fun v h' _ k=>?_
 rw [k,oV]
 show Value.tuple #[.string (mkB (Lib.trimPrefix (pgW++l) pgW)),.bool (Lib.hasPrefix (pgW++l) pgW)]=_
 have hp:Lib.hasPrefix (pgW++l) pgW=true:=List.isPrefixOf_iff_prefix.2 (List.prefix_append _ _)
 unfold Lib.trimPrefix
 rw [hp,if_pos rfl,List.drop_left]
theorem readField_no (fs:List Fd) (f:Fd) (h:Vw) (lk:Lk h) (hf:OkF fs f) (hd:f.kind≠1→(szE f.src).2≤12) (hl:pK f) :
  C0 Tryz.prog 35 #[.string (mkB (fdL f))] h (fun r _=>r=.tuple #[.agg #[.string ⟨#[]⟩,.int .i64 0,.int .i64 0,.int .i64 0,.int .i64 0,.int .i64 0,.string ⟨#[]⟩,.string ⟨#[]⟩,.slice none 0 0],.int .i64 1]) :=
 (readField_src fs f h lk hf hl.1 (hd hl.1)).mono fun v h' _ k=>(if_pos hl.2).mp k
theorem readField_ok (fs:List Fd) (f:Fd) (h:Vw) (lk:Lk h) (hf:OkF fs f) (hd:f.kind≠1→(szE f.src).2≤12) (hl:¬ pK f) :
  C0 Tryz.prog 35 #[.string (mkB (fdL f))] h (fun r h'=>∃ u,r=.tuple #[.agg #[.string f.name,.int .i64 f.kind,.int .i64 f.ty,.int .i64 f.src.op,.int .i64 f.src.k,.int .i64 f.src.n,.string f.src.s,.string f.src.nm,.slice (sA u) (sN u) (sC u)],.int .i64 0]∧IsArgs h' f.src (.slice (sA u) (sN u) (sC u))):=by
 by_cases g:f.kind=1
 ·refine (readField_inp fs f h lk hf g).mono fun v h' _ k=>⟨.slice none 0 0,?_,?_⟩
  ·rw [k,hf.inp g,g]; rfl
  ·rw [hf.inp g]; exact isArgs_z _
 ·exact (readField_src fs f h lk hf g (hd g)).mono fun v h' _ k=>(if_neg fun q=>hl ⟨g,q⟩).mp k
theorem readPage_no (p:Pg) (h:Vw) (lk:Lk h) (hw:PgW p) (hl:lW p) :
  C0 Tryz.prog 34 #[.string (mkB (pgL p))] h (fun r _=>r=.tuple #[.agg #[.string ⟨#[]⟩,.slice none 0 0,.int .i64 0,.int .i64 0,.int .i64 0,.string ⟨#[]⟩,.string ⟨#[]⟩,.slice none 0 0],.int .i64 1]):=by
 by_cases hn:p.fields=[]
 ·exact (readPage_none p h lk hw hn).mono fun v h' _ k=>(if_pos hl).mp k
 ·exact (readPage_some p h lk hw hn).mono fun v h' _ k=>(if_pos hl).mp k
theorem readPage_ok (p:Pg) (h:Vw) (lk:Lk h) (hw:PgW p) (hl:¬ lW p) :
  C0 Tryz.prog 34 #[.string (mkB (pgL p))] h (fun r h'=>∃ u v,r=.tuple #[.agg #[.string p.name,.slice (sA u) (sN u) (sC u),.int .i64 p.skip.op,.int .i64 p.skip.k,.int .i64 p.skip.n,.string p.skip.s,.string p.skip.nm,.slice (sA v) (sN v) (sC v)],.int .i64 0]∧RS h' 1 (.slice (sA u) (sN u) (sC u)) (eY p.fields)∧IsArgs h' p.skip (.slice (sA v) (sN v) (sC v))):=by
 by_cases hn:p.fields=[]
 ·exact (readPage_none p h lk hw hn).mono fun v h' _ k=>(if_neg hl).mp k
 ·exact (readPage_some p h lk hw hn).mono fun v h' _ k=>(if_neg hl).mp k
theorem join_len {M:Nat}:∀ l:List (List UInt8),(∀ x∈l,x.length≤M)→(Lib.join l [10]).length≤l.length * (M + 1)
 | [],_=>Nat.zero_le _
 | [x],h=>by rw [Lib.join_one]; have:=h x (by simp); simp only [List.length_cons,List.length_nil]; omega
 | x :: y :: r,h=>by
  have ih:=join_len (y :: r) fun z hz=>h z (List.mem_cons_of_mem _ hz)
  have:=h x (by simp)
  rw [jV]
  rw [List.length_cons (a:=x),Nat.add_mul,Nat.one_mul]
  simp only [List.length_append,List.length_cons,List.length_nil] at ih ⊢
  omega
end Go.Proofs.YthplkompdehjlaaGreatDoor
namespace Go.Proofs.YthplkompdehjlaaGreatDoor
open Go.RowKit Go.Maps Go.WideElems Go.WideShapes
theorem map_owned {P:Program} {w:World} {b:Nat} {k e:TypeId} {l:List (ByteArray × Value)} (hb:w.heap[b]?=some (nV (dY l))) (hn:(l.map (·.1)).Nodup) (hs:∀ p∈l,p.1.size≤maxLen) (hv:∀ p∈l,p.2=.bool true) (hl:l.length≤maxLen)
  (hk:P.underlying k=some .string) (he:P.underlying e=some .bool):∃ D0:DataW Unit,w.ownsMap P k (plainElem P e) b l.length D0∧(strKeys D0).Perm (l.map fun p=>p.1.data.toList)∧Maps.size D0=l.length:=by
 have hes:(ments (dY l)).toArray.toList=ments (dY l):=rfl
 have hrd:∀ x∈ments (dY l),∃ p∈l,rd P k (plainElem (H:=Unit) P e) x=some (.string p.1.data.toList,.lit (.bool true)):=fun x hx=>by
  obtain ⟨i,hi⟩:=List.getElem?_of_mem hx
  rw [ments_get,dY,List.getElem?_map] at hi
  cases hp:l[i]? with
  | none=>rw [hp] at hi; cases hi
  | some p =>
   rw [hp] at hi
   simp only [Option.map_some,Option.some.injEq] at hi
   subst hi
   have hm:=List.mem_of_getElem? hp
   refine ⟨p,hm,?_⟩
   have h1:=hs p hm
   have h2:=hv p hm
   simp [rd,keyOf,mapKey,hk,h1,plainElem,he,h2]
 have hmap:(ments (dY l)).map (rg P k (plainElem (H:=Unit) P e))=l.map fun p=>(Lit.string p.1.data.toList,DataW.lit (.bool true)):=by
  refine List.ext_getElem? fun i=>?_
  rw [List.getElem?_map,ments_get,dY,List.getElem?_map,List.getElem?_map]
  cases hp:l[i]? with
  | none=>rfl
  | some p =>
   have hm:=List.mem_of_getElem? hp
   have h1:=hs p hm
   have h2:=hv p hm
   simp [rg,rd,keyOf,mapKey,hk,h1,plainElem,he,h2]
 have hlen:(ments (dY l)).length=l.length:=by simp [ments,dY]
 refine ⟨_,⟨(ments (dY l)).toArray,l.length,?_,⟨by simpa [hlen] using hl,?_,fun x hx=>?_⟩,by simp [hlen],rfl⟩,?_,?_⟩
 ·rw [hb,nV]; simp [dY]
 ·rw [Go.MapKept.stamped_iff,hes]
  have hborn:(ments (dY l)).map (·.born)=List.range l.length:=by
   refine List.ext_getElem? fun i=>?_
   rw [List.getElem?_map,ments_get,dY,List.getElem?_map]
   rcases Nat.lt_or_ge i l.length with g | g
   ·rw [List.getElem?_eq_getElem g,List.getElem?_range g]; rfl
   ·rw [List.getElem?_eq_none g,List.getElem?_eq_none (by simpa using g)]; rfl
  have hkeys:(ments (dY l)).map (·.key)=l.map fun p=>Value.string p.1:=by
   refine List.ext_getElem? fun i=>?_
   rw [List.getElem?_map,ments_get,dY,List.getElem?_map,List.getElem?_map]
   cases l[i]? <;> rfl
  refine ⟨fun x hx=>?_,by rw [hborn]; exact List.nodup_range,?_⟩
  ·have:x.born∈(ments (dY l)).map (·.born):=List.mem_map.2 ⟨x,hx,rfl⟩
   rw [hborn] at this
   exact List.mem_range.1 this
  ·have:((ments (dY l)).map (·.key)).Nodup:=by
    rw [hkeys]
    have h2:(l.map fun p=>Value.string p.1)=(l.map (·.1)).map Value.string:=by rw [List.map_map]; rfl
    rw [h2]
    exact List.pairwise_map.2 (hn.imp fun hne e=>hne (by injection e))
   exact List.pairwise_map.1 this
 ·obtain ⟨p,-,h⟩:=hrd x hx; exact ⟨_,h⟩
 ·rw [hes,hmap]
  show (List.map (fun (p:Lit × DataW Unit)=>strOf p.1) _).Perm _
  refine ((sorted_perm _).map _).trans ?_
  rw [List.map_map]
  exact List.Perm.refl _
 ·rw [hes,hmap]
  show (List.foldr DataW.insert [] _).length=_
  rw [(sorted_perm _).length_eq,List.length_map]
end Go.Proofs.YthplkompdehjlaaGreatDoor
namespace Go.Proofs.YthplkompdehjlaaGreatDoor
open Go.RowKit
theorem leaf_refs (r:RawD) (fs:List Fd) (kind:Int) {s:ByteArray} (h:s∈iX (kV r fs kind)):∃ f∈fs,s=f.name:=by
 have hc:∀ s,s ∉ iX (eK kind r):=fun s h=>by
  rw [refsE_eq,if_neg (show ¬ (eK kind r).op=2 by show ¬ (1:Int)=2; decide)] at h
  have h:s∈[]++jX []:=h
  simp [jX] at h
 unfold kV at h
 split at h
 ·rename_i t ht
  split at h
  ·exact absurd h (hc s)
  ·rw [refs_ref] at h
   have:=List.mem_of_getElem? ht
   obtain ⟨f,hf,e⟩:=List.mem_map.1 this
   exact ⟨f,(List.mem_filter.1 hf).1,by rw [List.mem_singleton.1 h,e]⟩
 ·exact absurd h (hc s)
theorem refs_gen {fs:List Fd} (l:List RawD):∀ (d:Nat) (kind:Int) (n:Nat),∀ s∈iX (gJ l fs d kind n).1,∃ f∈fs,s=f.name
 | 0,kind,n,s,h=>leaf_refs _ _ _ h
 | d + 1,kind,n,s,h=>by
  by_cases g:cJ (aJ l n).k 3=0
  ·rw [genE_leaf g] at h; exact leaf_refs _ _ _ h
  ·obtain ⟨op,ks,hp⟩:∃ op ks,rW (aJ l n) kind=(op,ks):=⟨(rW (aJ l n) kind).1,(rW (aJ l n) kind).2,by cases rW (aJ l n) kind; rfl⟩
   rw [xQ g hp] at h
   have h:s∈iX (opE op (dJ (gJ l fs d) ks (bJ l n)).1):=h
   have hop:op≠2:=by
    have:(rW (aJ l n) kind).1≠2:=by
     have b0:=vW (aJ l n).b 7 (by omega)
     have b1:=uW (aJ l n).b 7 (by omega)
     unfold rW intOps
     repeat' split
     all_goals (simp only; omega)
    rw [hp] at this; exact this
   rw [refs_op op _ hop] at h
   obtain ⟨x,hx,hs⟩:=mem_refsL.1 h
   obtain ⟨-,m2⟩:=manyE_all (one:=gJ l fs d) (p:=fun x=>∀ s∈iX x,∃ f∈fs,s=f.name) ks (bJ l n) (fun k _ n=>refs_gen l d k n)
   exact m2 x hx s hs
theorem AllArgs.take {h:Vw}:∀ (i:Nat) {l:List Ex} {vs:List Value},AllArgs h l vs→AllArgs h (l.take i) (vs.take i)
 | 0,_,_,_=>by simp; unfold AllArgs; rfl
 | i + 1,[],vs,k=>by unfold AllArgs at k; subst k; simp; unfold AllArgs; rfl
 | i + 1,x :: l,vs,k=>by
  unfold AllArgs at k
  obtain ⟨u,us,rfl,h2,h3⟩:=k
  rw [List.take_succ_cons,List.take_succ_cons]
  unfold AllArgs
  exact ⟨u,us.take i,rfl,h2,AllArgs.take i h3⟩
end Go.Proofs.YthplkompdehjlaaGreatDoor
