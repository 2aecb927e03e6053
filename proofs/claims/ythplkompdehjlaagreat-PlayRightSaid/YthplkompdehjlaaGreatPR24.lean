/-
  What formulas are, in plain words.
-/
import Derived.Test.YthplkompdehjlaaGreatPR21
import Derived.Test.YthplkompdehjlaaGreatPR23
import Derived.RangeFuncNested
import Derived.RangeFuncBound
import Derived.Shelf.Abstract
import Derived.TacticsInMore
import Derived.LoopNIn
import Derived.LoopIn
import Derived.Laws.EntriesVeiled
import Derived.Maps.OwnIn
import Derived.Sort.KeysCollected
set_option maxHeartbeats 4000000
set_option maxRecDepth 100000
namespace Go.Proofs.YthplkompdehjlaaGreat
open Go.RowKit
def OkV (v:Vl):Prop:=v.known\/v=⟨4,0,⟨#[]⟩⟩\/(v.k=5 /\ 1 <= v.n /\ v.n <= 15 /\ v.s=⟨#[]⟩)
def aQ (e:Int):Vl:=⟨5,e,⟨#[]⟩⟩
def truthV (b:Bool):Vl:=⟨2,if b then 1 else 0,⟨#[]⟩⟩
def wW (op a b:Int):Int × Int :=
 if op=5 then (if -1099511627776 <= a * b /\ a * b <= 1099511627776 then (a * b,0) else (0,7))
 else if op=6 then (if b=0 then (0,8) else (fq a b,0))
 else if op=7 then (if b=0 then (0,8) else (fr a b,0))
 else if op=8 then (if -1099511627776 <= a + b /\ a + b <= 1099511627776 then (a + b,0) else (0,7))
 else (if -1099511627776 <= a - b /\ a - b <= 1099511627776 then (a - b,0) else (0,7))
def nrV (op a b:Int):Vl:=if (wW op a b).2=0 then ⟨1,(wW op a b).1,⟨#[]⟩⟩ else aQ (wW op a b).2
def xV (l:List Vl) (k:Int):Bool:=l.all (λv=>v.k == k)
def hdV (l:List Vl) (i:Nat):Vl:=l.getD i ⟨0,0,⟨#[]⟩⟩
def cmpB (op c:Int):Bool:=if op=11 then decide (c < 0) else if op=12 then decide (c <= 0) else if op=13 then c == 0 else c != 0
def joinV (x y:Vl):Vl:=if 40 < x.s.size + y.s.size then aQ 1 else ⟨3,0,x.s++y.s⟩
def lJ (op:Int) (l:List Vl):Vl :=
 if 11 <= op /\ op <= 14 then (if (hdV l 0).k=(hdV l 1).k then truthV (cmpB op (cmpV (hdV l 0).n (hdV l 1).n (hdV l 0).s.toList (hdV l 1).s.toList)) else aQ 9)
 else if op=4 then (if xV l 2 then truthV ((hdV l 0).n == 0) else aQ 9)
 else if op=18 then (if xV l 3 then ⟨1,((hdV l 0).s.size:Int),⟨#[]⟩⟩ else aQ 9)
 else if op=10 then (if xV l 3 then joinV (hdV l 0) (hdV l 1) else aQ 9)
 else if op=3 then (if xV l 1 then nrV 9 0 (hdV l 0).n else aQ 9)
 else (if xV l 1 then nrV op (hdV l 0).n (hdV l 1).n else aQ 9)
def gW:Option Vl -> List Vl -> Option Vl
 | p,[]=>p
 | p,v :: l=>if v.k=5 then some v else gW (if v.k=4 then some v else p) l
def yJ (v:Vl):Vl:=if v.k=1\/v.k=3 then aQ 9 else v
def kQ (v:Vl):Vl × Bool:=if v.k=1\/v.k=3 then (aQ 9,false) else (v,v.k == 2)
mutual
def rK (env:Env):Ex -> Vl
 | .mk op k n s nm args =>
  if op=1 then ⟨k,n,s⟩
  else if op=2 then (match env.get nm with | some v=>v | none=>aQ 5)
  else if op=15\/op=16 then
   (if (kQ (hdV (sK env args) 0)).2=false\/((kQ (hdV (sK env args) 0)).1.n == 1)=(op == 16) then (kQ (hdV (sK env args) 0)).1 else yJ (hdV (sK env args) 1))
  else if op=17 then
   (if (kQ (hdV (sK env args) 0)).2=false then (kQ (hdV (sK env args) 0)).1 else if (kQ (hdV (sK env args) 0)).1.n=1 then hdV (sK env args) 1 else hdV (sK env args) 2)
  else (match gW none (sK env args) with | some v=>v | none=>lJ op (sK env args))
def sK (env:Env):List Ex -> List Vl
 | []=>[]
 | x :: l=>rK env x :: sK env l
end
theorem tK (env:Env):∀ l,sK env l=l.map (rK env)
 | []=>by rw [sK]; rfl
 | x :: l=>by rw [sK,tK env l]; rfl
theorem evalE_eq (env:Env) (x:Ex):rK env x =
  if x.op=1 then ⟨x.k,x.n,x.s⟩
  else if x.op=2 then (match env.get x.nm with | some v=>v | none=>aQ 5)
  else if x.op=15\/x.op=16 then
   (if (kQ (hdV (sK env x.args) 0)).2=false\/((kQ (hdV (sK env x.args) 0)).1.n == 1)=(x.op == 16) then (kQ (hdV (sK env x.args) 0)).1 else yJ (hdV (sK env x.args) 1))
  else if x.op=17 then
   (if (kQ (hdV (sK env x.args) 0)).2=false then (kQ (hdV (sK env x.args) 0)).1 else if (kQ (hdV (sK env x.args) 0)).1.n=1 then hdV (sK env x.args) 1 else hdV (sK env x.args) 2)
  else (match gW none (sK env x.args) with | some v=>v | none=>lJ x.op (sK env x.args)):=by
 obtain ⟨a,b,c,d,e,l⟩:=x;rw [rK]; rfl
theorem zW {e:Int} (h0:1 <= e) (h1:e <= 15):OkV (aQ e):=.inr (.inr ⟨rfl,h0,h1,rfl⟩)
theorem ok_truth (b:Bool):OkV (truthV b):=.inl (.inr (.inl ⟨rfl,by cases b <;> simp [truthV],rfl⟩))
theorem ok_kinds {v:Vl} (h:OkV v):1 <= v.k /\ v.k <= 5:=by
 rcases h with h | rfl | ⟨h,-⟩
 ·have:=aW h; omega
 ·exact ⟨by decide,by decide⟩
 ·omega
theorem ok_known {v:Vl} (h:OkV v) (h4:v.k≠4) (h5:v.k≠5):v.known:=by
 rcases h with h | rfl | ⟨h,-⟩
 ·exact h
 ·exact absurd rfl h4
 ·exact absurd h h5
theorem numOp_ok {op a b:Int} (ha:Lim a) (hb:Lim b):((wW op a b).2=0 /\ Lim (wW op a b).1)\/(wW op a b).2=7\/(wW op a b).2=8:=by
 unfold wW
 repeat' split
 all_goals first | (left; exact ⟨rfl,by unfold Lim; assumption⟩) | (right; left; rfl) | (right; right; rfl) | (left; exact ⟨rfl,fq_lim ha hb (by assumption)⟩) | (left; exact ⟨rfl,fr_lim ha hb (by assumption)⟩)
theorem nrV_ok {op a b:Int} (ha:Lim a) (hb:Lim b):OkV (nrV op a b):=by
 unfold nrV;rcases numOp_ok (op:=op) ha hb with ⟨h,hl⟩ | h | h
 ·rw [Cj h]; exact .inl (.inl ⟨rfl,hl,rfl⟩)
 ·rw [Bj (by omega),h]; exact zW (by omega) (by omega)
 ·rw [Bj (by omega),h]; exact zW (by omega) (by omega)
theorem ex_ind {p:Ex -> Prop} (h:∀ x:Ex,(∀ y∈x.args,p y) -> p x) (x:Ex):p x:=by
 have key:∀ (m:Nat) (x:Ex),(szE x).1 <= m -> p x:=by
  intro m
  induction m with
  | zero=>intro x hx; have:=szE_pos x; omega
  | succ m ih =>
   intro x hx;refine h x λy hy=>ih y ?_;have h1:=nZ x;have h2:=(szL_mem hy).1;rw [h1] at hx;simp only at hx;omega
 exact key _ x (Ij _)
mutual
def nY:Ex -> List ByteArray
 | .mk op _ _ _ nm args=>(if op=2 then [nm] else [])++pY args
def pY:List Ex -> List ByteArray
 | []=>[]
 | x :: l=>nY x++pY l
end
theorem oY (x:Ex):nY x=(if x.op=2 then [x.nm] else [])++pY x.args:=by
 obtain ⟨a,b,c,d,e,l⟩:=x;rw [nY]; rfl
theorem refsL_app (l m:List Ex):pY (l++m)=pY l++pY m:=by
 induction l with
 | nil=>simp [pY]
 | cons x l ih=>rw [Xq,pY,pY,ih,Yk]
theorem mem_refsL {s:ByteArray}:∀ {l:List Ex},s∈pY l↔∃ x∈l,s∈nY x
 | []=>by simp [pY]
 | x :: l=>by rw [pY,Rj,mem_refsL (l:=l)]; simp
theorem refs_op (op:Int) (l:List Ex) (h:op≠2):nY (opE op l)=pY l:=by
 rw [oY,Bj (show ¬ (opE op l).op=2 from h)]; rfl
theorem refs_ref (s:ByteArray):nY (refE s)=[s]:=by
 rw [oY,Cj (show (refE s).op=2 from rfl)]; rfl
mutual
def putE (n:ByteArray) (y:Ex):Ex -> Ex
 | .mk op k m s nm args=>if op=2 /\ nm=n then y else .mk op k m s nm (putL n y args)
def putL (n:ByteArray) (y:Ex):List Ex -> List Ex
 | []=>[]
 | x :: l=>putE n y x :: putL n y l
end
theorem ref_shape {x:Ex} (h:WfE x) (h2:x.op=2):x=refE x.nm /\ qJ x.nm.data.toList:=by
 rcases h.top with ⟨h1,-⟩ | ⟨h1,hn,hk,hm,hs,ha⟩ | ⟨h1,-⟩
 ·omega
 ·obtain ⟨a,b,c,d,e,l⟩:=x;simp only [Ex.op,Ex.k,Ex.n,Ex.s,Ex.args] at h1 hk hm hs ha;have ha:l=[]:=Oq.1 ha;subst h1 hk hm hs ha;exact ⟨rfl,hn⟩
 ·omega
theorem ref_args {x:Ex} (h:WfE x) (h2:x.op=2):x.args=[]:=by rw [(ref_shape h h2).1]; rfl
open Go.RowKit Go.Shelf
attribute [local go_sem] Oper.semAt_some
structure KeepsCells (W W':World):Prop where
 size:W.heap.size <= W'.heap.size
 same:∀ (k:Nat) (o:Obj),W.heap[k]?=some o -> o.isCells=true -> W'.heap[k]?=some o
theorem KeepsCells.refl (W:World):KeepsCells W W:=⟨Ij _,λ_ _ h _=>h⟩
theorem KeepsCells.trans {A B C:World} (h:KeepsCells A B) (k:KeepsCells B C):KeepsCells A C:=⟨Wk h.size k.size,λi o hi ho=>k.same i o (h.same i o hi ho) ho⟩
theorem KeepsCells.grown {W W':World} {row:Option Nat} (hg:W.grownBy W' row) (hr:∀ r,row=some r -> ∃ o:Obj,W.heap[r]?=some o /\ o.isCells=false):KeepsCells W W' :=
 ⟨hg.size,λk o hk ho=>(hg.block k (Pk.1 hk).1 (λe=>by
  obtain ⟨o',h1,h2⟩:=hr k e.symm;rw [hk] at h1;simp only [Wj] at h1;subst h1;rw [ho] at h2; cases h2)).trans hk⟩
theorem KeepsCells.alloc (W:World) (o:Obj):KeepsCells W (W.alloc o):=.grown (World.grownBy_alloc W o none) (λr e=>by cases e)
theorem KeepsCells.boxed {W W':World} (h:KeepsCells W W') {b:Nat} {t:TypeId} {v:Value} (hb:Boxed W b t v):Boxed W' b t v:=h.same b _ hb rfl
theorem KeepsCells.cell {W W':World} (h:KeepsCells W W') {a:Addr} {v:Value} (hc:W.cell? a=some v):W'.cell? a=some v:=by
 unfold World.cell? at hc ⊢
 cases ho:W.heap[a.block]? with
 | none=>rw [ho] at hc; cases hc
 | some o =>
  rw [ho] at hc
  cases o with
  | cells cs t f=>rw [h.same _ _ ho rfl]; exact hc
  | _=>cases hc
structure Kp (n:Nat) (W W':World):Prop where
 below:Below n W W'
 cells:KeepsCells W W'
theorem Kp.refl (n:Nat) (W:World):Kp n W W:=⟨Xj _ _,KeepsCells.refl _⟩
theorem Kp.trans {n:Nat} {A B C:World} (h:Kp n A B) (k:Kp n B C):Kp n A C:=⟨h.below.trans k.below,h.cells.trans k.cells⟩
theorem Kp.alloc {n:Nat} {W:World} (hn:n <= W.heap.size) (o:Obj):Kp n W (W.alloc o):=⟨(Xj _ _).alloc hn _,KeepsCells.alloc _ _⟩
theorem kp_t {n:Nat} {A B C:World} (h:Kp n A B) (k:Kp n B C):Kp n A C:=h.trans k
theorem kp_b {n:Nat} {w:World} (hn:n <= w.heap.size) (W:World) (l:Nat) (o o':Obj) (hl:w.heap.size <= l) (h:W.heap[l]?=some o) (hc:o.isCells=false) (hw:o.isWalk=false):Kp n W (W.putObj l o') :=
 ⟨belowK_b hn W l o o' hl h hc hw,.grown (grownBy_putObj' W l o') (λr e=>by cases e; exact ⟨o,h,hc⟩)⟩
theorem sees_below {h:Vw} {W:World} (hb:Below h.w.heap.size h.w W):Sees h ⟨W,h.bad⟩:=⟨hb.size,λb hlt _=>hb.block b hlt,λ_ hb _=>hb⟩
theorem grown_none {W W':World} (hb:Below W.heap.size W W'):W.grownBy W' none:=⟨hb.os,hb.tape,hb.output,hb.size,λk hk _=>hb.block k hk⟩
theorem room_of_none {F:Fence} (hd:F.depth=none) (k:Nat):F.room k:=λd h=>by rw [hd] at h; cases h
theorem RoundIn.anyDepth {F:Fence} (hd:F.depth=none) {m m':Nat} {P:Program} {l:Nat} {f:FuncId} {tmps:Array Value} {assign body:Code} {w:World} {R:Ending -> World -> Prop}
  (h:RoundIn F m P l f tmps assign body w R):RoundIn F m' P l f tmps assign body w R:=⟨h.1,λc cs _=>h.2 c cs (room_of_none hd _)⟩
theorem YieldAt.anyDepth {F:Fence} (hd:F.depth=none) {m:Nat} (m':Nat) {P:Program} {l:Nat} {args:Array Value} {W:World} {R:Ending -> World -> Prop} (h:YieldAt F m P l args W R):YieldAt F m' P l args W R:=by
 obtain ⟨fn,tmps,assign,body,hy,hR⟩:=h;exact ⟨fn,tmps,assign,body,hy,RoundIn.anyDepth hd hR⟩
theorem bA (k:Nat):Fence.wide.depth.isSome=true -> 1 <= k:=λh=>by
 have e:Fence.wide.depth=none:=rfl;rw [e] at h; cases h
def WalkPost (n₀:Nat) (J Jx:List ByteArray -> World -> Prop) (pre r:List ByteArray) (W:World) (e:Ending) (W':World):Prop :=
 (e=.returned (.bool true) /\ J (pre++r) W' /\ Kp n₀ W W')\/(e=.returned (.bool false) /\ ∃ q,q <+: r /\ Jx (pre++q) W')
def YieldPost (n₀:Nat) (J Jx:List ByteArray -> World -> Prop) (pre:List ByteArray) (s:ByteArray) (W:World) (e:Ending) (W':World):Prop :=
 (e=.returned (.bool true) /\ J (pre++[s]) W' /\ Kp n₀ W W')\/(e=.returned (.bool false) /\ Jx (pre++[s]) W')
abbrev walkV (bY bW:Nat):Value:=.func (.func 185) #[] #[.pointer (some ⟨bY,0,none⟩),.pointer (some ⟨bW,0,none⟩)]
theorem walk_ref (l bY bW N B:Nat) (n₀:Nat) (J Jx:List ByteArray -> World -> Prop) (hJ:AbidesFrom B J)
  (hY:∀ m pre s W,J pre W -> pre.length < N -> YieldAt Fence.wide m Tryz.prog l #[Vt s] W (YieldPost n₀ J Jx pre s W))
  (s:ByteArray) (A:Option Addr) (c n:Nat) (pre:List ByteArray) (W:World) (hn:n₀ <= W.heap.size) (bY':Boxed W bY 224 (.func (.yield l) #[] #[])) (hj:J pre W) (hN:pre.length < N) :
  CallsIn Fence.wide n Tryz.prog 185 #[.agg #[Vi 2,Vi 0,Vi 0,.string ⟨#[]⟩,.string s,.slice A 0 c],.pointer (some ⟨bY,0,none⟩),.pointer (some ⟨bW,0,none⟩)] W
   (WalkPost n₀ J Jx pre [s] W):=by
 have hj2:J pre (W.alloc (.cells #[Vi 2,Vi 0,Vi 0,.string ⟨#[]⟩,.string s,.slice A 0 c] 50)):=hJ pre W _ none hj (World.grownBy_alloc W _ none) (λr e=>by cases e);obtain ⟨fn,tmps,assign,body,hy,hR⟩:=hY (n - 1) pre s _ hj2 hN;have cY:=(bY'.alloc (.cells #[Vi 2,Vi 0,Vi 0,.string ⟨#[]⟩,.string s,.slice A 0 c] 50)).cell;have bx:=Box.new W #[Vi 2,Vi 0,Vi 0,.string ⟨#[]⟩,.string s,.slice A 0 c] 50;have hk0:=Kp.alloc hn (.cells #[Vi 2,Vi 0,Vi 0,.string ⟨#[]⟩,.string s,.slice A 0 c] 50);have hR2:=hR.mono (R':=λe W2=>(e=.returned (.bool true) /\ J (pre++[s]) W2 /\ Kp n₀ _ W2 /\ W2.cell? ⟨W.heap.size,5,none⟩=some (.slice A 0 c))\/(e=.returned (.bool false) /\ Jx (pre++[s]) W2))
  (λe W2 h=>h.elim (λ⟨a,b,k⟩=>.inl ⟨a,b,k,k.cells.cell (bx.cells 5 _ rfl)⟩) .inr)
 clear hR;refine callsIn_of_wp Tryz.func185 rfl trivial ?_ rfl;simp only [Tryz.ntmps185,Mq,Tk,Jq,Nat.reduceAdd,Nat.reduceSub,Sw,Tw,Uw,Ww,Zq,Xq]
 gi_wp2_with ((try refine ⟨bA _,?_⟩); refine hR2.mono ?_; clear hR2; rintro e W2 (⟨rfl,hJ2,hk2,c5⟩ | ⟨rfl,hx2⟩))
 ·gi_loopw [20] (λi wr=>i=Vi 0 /\ W2=wr) (λ_ _=>0)
  case atStart=>exact ⟨rfl,rfl⟩
  case round =>
   obtain ⟨rfl,rfl⟩:=hrel
   gi_wp2
   go_ret
   exact .inl ⟨rfl,hJ2,hk0.trans hk2⟩
 ·go_ret
  exact .inr ⟨rfl,[s],List.prefix_refl _,hx2⟩
theorem walk_any (l bY bW N B:Nat) (h:Vw) (J Jx:List ByteArray -> World -> Prop) (hJ:AbidesFrom B J)
  (hY:∀ m pre s W,J pre W -> pre.length < N -> YieldAt Fence.wide m Tryz.prog l #[Vt s] W (YieldPost h.w.heap.size J Jx pre s W)) (x:Ex) :
  ∀ (v:Value) (n:Nat) (pre:List ByteArray) (W:World),IsArgs h x v -> WfE x -> Below h.w.heap.size h.w W -> Boxed W bY 224 (.func (.yield l) #[] #[]) -> Boxed W bW 241 (walkV bY bW) -> J pre W -> pre.length + (nY x).length <= N -> 
  CallsIn Fence.wide n Tryz.prog 185 #[.agg #[Vi x.op,Vi x.k,Vi x.n,.string x.s,.string x.nm,v],.pointer (some ⟨bY,0,none⟩),.pointer (some ⟨bW,0,none⟩)] W (WalkPost h.w.heap.size J Jx pre (nY x) W):=by
 refine ex_ind (p:=λx=>∀ (v:Value) (n:Nat) (pre:List ByteArray) (W:World),IsArgs h x v -> WfE x -> Below h.w.heap.size h.w W -> Boxed W bY 224 (.func (.yield l) #[] #[]) -> Boxed W bW 241 (walkV bY bW) -> J pre W -> pre.length + (nY x).length <= N -> 
  CallsIn Fence.wide n Tryz.prog 185 #[.agg #[Vi x.op,Vi x.k,Vi x.n,.string x.s,.string x.nm,v],.pointer (some ⟨bY,0,none⟩),.pointer (some ⟨bW,0,none⟩)] W (WalkPost h.w.heap.size J Jx pre (nY x) W)) (λx ih v n pre W hx hw hb hbY hbW hj hN=>?_) x
 by_cases h2:x.op=2
 ·obtain ⟨e,-⟩:=ref_shape hw h2;obtain ⟨A,n',c,rfl⟩:=hx.slice;have hn0:n'=0:=by
   obtain ⟨vs,hr,hvs⟩:=hx.form;obtain ⟨A',c',e',-⟩:=hr.form;rw [xK hvs.len,ref_args hw h2] at e';simp at e';exact e'.2.1
  subst hn0;rw [e];rw [e,refs_ref] at hN ⊢;exact walk_ref l bY bW N B h.w.heap.size J Jx hJ hY x.nm A c n pre W hb.size hbY hj (by simp at hN; omega)
 ·rw [oY,Bj h2,Zq] at hN ⊢;obtain ⟨vs,hr,hvs⟩:=hx.form;obtain ⟨A,ca,rfl,hc1,hc2,-⟩:=hr.form;have hvl:=hvs.len;have hrl:=xK hvl;rw [hrl] at hc1 hr ⊢;have HR:=Fj hr;have HV:=Fj hvs;have HIH:=Fj ih;have HWL:=Fj hw.list;have HB:=Fj hb;have hop:(x.op == 2)=false:=Lj.2 h2;have hj2:J pre (W.alloc (.cells #[Vi x.op,Vi x.k,Vi x.n,.string x.s,.string x.nm,.slice A x.args.length ca] 50)):=hJ pre W _ none hj (World.grownBy_alloc W _ none) (λr e=>by cases e);have hk0:=Kp.alloc hb.size (.cells #[Vi x.op,Vi x.k,Vi x.n,.string x.s,.string x.nm,.slice A x.args.length ca] 50);clear hx hr hvs hw hb hrl hvl;generalize hL:x.args.length=len at *;unfold maxLen at hc2;refine callsIn_of_wp Tryz.func185 rfl trivial ?_ rfl;simp only [Tryz.ntmps185,Mq,Tk,Jq,Nat.reduceAdd,Nat.reduceSub,Sw,Tw,Uw,Ww,Zq,Xq]
  gi_wp2
  refine ⟨λ_ h=>(by cases h),?_⟩
  gi_wp2
  gi_loopw [20] (λi wr=>∃ k:Nat,k <= len /\ i=Vi k /\ J (pre++pY (x.args.take k)) wr /\ Kp h.w.heap.size W wr) (λi _=>len - (intOf i).toNat)
  case atStart=>exact ⟨0,Kj _,rfl,by simpa [pY] using hj2,hk0⟩
  case round =>
   obtain ⟨k,hk,rfl,hjk,hkk⟩:=hrel
   by_cases hlt:k < len
   ·obtain ⟨y,hy⟩:∃ y,x.args[k]?=some y:=⟨_,Gj (by omega)⟩;obtain ⟨u,hu⟩:∃ u,vs[k]?=some u:=⟨_,Gj (by have:=HV.out.len; omega)⟩;have hyu:=AllArgs.get HV.out hy hu;obtain ⟨Au,nu,cu,rfl⟩:=hyu.slice;have hrow:(wK x.args vs)[k]?=some (exRow y (.slice Au nu cu)):=by show (List.zipWith exRow _ _)[k]?=_; rw [Gw,hy,hu]
    obtain ⟨b,off,rfl,-,hc⟩:=HR.out.row hrow;have hbr:=HB.out.trans hkk.below;have hc:=hc.sees (sees_below hbr);have c0:wr.cell? ⟨b,off + k * 6,none⟩=_:=hc.lies 0 _ rfl;have c1:wr.cell? ⟨b,off + k * 6 + 1,none⟩=_:=hc.lies 1 _ rfl;have c2:wr.cell? ⟨b,off + k * 6 + 2,none⟩=_:=hc.lies 2 _ rfl;have c3:wr.cell? ⟨b,off + k * 6 + 3,none⟩=_:=hc.lies 3 _ rfl;have c4:wr.cell? ⟨b,off + k * 6 + 4,none⟩=_:=hc.lies 4 _ rfl;have c5:wr.cell? ⟨b,off + k * 6 + 5,none⟩=_:=hc.lies 5 _ rfl;clear hc hrow hu;have hym:=Dj hy;have hsn:pY (x.args.take (k + 1))=pY (x.args.take k)++nY y:=by rw [qZ _ k y hy,refsL_app]; simp [pY]
    have hle:(pY (x.args.take (k + 1))).length <= (pY x.args).length:=by
     have:=Ej (λl=>(pY l).length) (Mv (k + 1) x.args)
     simp only [refsL_app,Bk] at this;omega
    rw [hsn,Bk] at hle;have hal:Kp h.w.heap.size wr (wr.alloc (.cells #[Vi y.op,Vi y.k,Vi y.n,.string y.s,.string y.nm,.slice Au nu cu] 50)):=Kp.alloc hbr.size _;have bY2:=(hkk.cells.boxed hbY).alloc (.cells #[Vi y.op,Vi y.k,Vi y.n,.string y.s,.string y.nm,.slice Au nu cu] 50);have bW2:=(hkk.cells.boxed hbW).alloc (.cells #[Vi y.op,Vi y.k,Vi y.n,.string y.s,.string y.nm,.slice Au nu cu] 50);have cW:=bW2.cell;have hcall:=HIH.out y hym (.slice Au nu cu) (n - 1) (pre++pY (x.args.take k)) (wr.alloc (.cells #[Vi y.op,Vi y.k,Vi y.n,.string y.s,.string y.nm,.slice Au nu cu] 50)) hyu (HWL.out.get hym) (hbr.trans hal.below) bY2 bW2
     (hJ _ wr _ none hjk (World.grownBy_alloc wr _ none) (λr e=>by cases e)) (by rw [Bk]; omega)
    have HS:=Fj hsn;clear hsn bY2 bW2
    gi_wp2_with ((try refine ⟨trivial,?_⟩); (try refine ⟨bA _,?_⟩); gi_at_call 185; refine hcall.mono ?_; clear hcall; rintro e W2 (⟨rfl,hJ2,hk2⟩ | ⟨rfl,q,hq,hx2⟩))
    ·go_roundw
     case rel=>exact ⟨k + 1,by omega,by go_num,by rw [HS.out, <- Yk]; exact hJ2,(hkk.trans hal).trans hk2⟩
     case measure=>simp [intOf]; omega
    ·go_ret
     refine .inr ⟨rfl,pY (x.args.take k)++q,?_,by rw [<- Yk]; exact hx2⟩;have hp:pY (x.args.take (k + 1)) <+: pY x.args:=by
      conv=>rhs; rw [<- Mv (k + 1) x.args,refsL_app]
      exact List.prefix_append _ _
     rw [HS.out] at hp;exact ((List.prefix_append_right_inj _).2 hq).trans hp
   ·obtain rfl:k=len:=by omega
    have hta:x.args.take k=x.args:=by rw [<- hL,Ik]
    rw [hta] at hjk;clear hta
    gi_wp2
    go_ret
    exact .inl ⟨rfl,hjk,hkk⟩
theorem refs_in (x:Ex) (v:Value) (n:Nat) (W:World) :
  CallsIn Fence.wide n Tryz.prog 166 #[.agg #[Vi x.op,Vi x.k,Vi x.n,.string x.s,.string x.nm,v]] W λe W'=>e=.returned (.func (.func 184) #[] #[.pointer (some ⟨W.heap.size,0,none⟩)]) /\ W'=W.alloc (.cells #[Vi x.op,Vi x.k,Vi x.n,.string x.s,.string x.nm,v] 50):=by
 refine callsIn_of_wp Tryz.func166 rfl trivial ?_ rfl;simp only [Tryz.ntmps166,Mq,Tk,Jq,Nat.reduceAdd,Nat.reduceSub,Sw,Tw,Uw,Ww,Zq,Xq]
 gi_wp2
 go_ret
 exact ⟨rfl,rfl⟩
theorem refs_stops (x:Ex) (v:Value) (h:Vw) (hx:IsArgs h x v) (hw:WfE x) (n bX:Nat) (w:World) (hb:Below h.w.heap.size h.w w) (hX:w.heap[bX]?=some (.cells #[Vi x.op,Vi x.k,Vi x.n,.string x.s,.string x.nm,v] 50 (0,0))) :
  SeqStopsK Fence.wide n Tryz.prog 184 #[.pointer (some ⟨bX,0,none⟩)] (λs:ByteArray=>#[Value.string s]) (Kp h.w.heap.size) (λys=>ys=nY x) (λpre=>pre <+: nY x) (nY x).length w:=λl J Jx W hW hJ hJx hY h0=>by
 have hbW:Below h.w.heap.size h.w W:=hb.trans (hW.mono hb.size);have hX':W.heap[bX]?=some (.cells #[Vi x.op,Vi x.k,Vi x.n,.string x.s,.string x.nm,v] 50 (0,0)):=(hW.block bX (Pk.1 hX).1).trans hX;have hxl:=(Pk.1 hX').1;obtain ⟨A,n',c,rfl⟩:=hx.slice;obtain ⟨W1,hW1⟩:∃ W1,W1=W.alloc (.cells #[.func (.yield l) #[] #[]] 224):=⟨_,rfl⟩;have bY1:Boxed W1 W.heap.size 224 (.func (.yield l) #[] #[]):=by rw [hW1]; exact Boxed.new _ _ _
 have z1:W1.heap.size=W.heap.size + 1:=by rw [hW1]; simp
 have b1:Below W.heap.size W W1:=by rw [hW1]; exact (Xj _ _).alloc (Ij _) _
 obtain ⟨W3,hW3⟩:∃ W3,W3=W1.alloc (.cells #[walkV W.heap.size (W.heap.size + 1)] 241):=⟨_,rfl⟩;have bW3:Boxed W3 (W.heap.size + 1) 241 (walkV W.heap.size (W.heap.size + 1)):=by rw [hW3, <- z1]; exact Boxed.new _ _ _
 have bY3:Boxed W3 W.heap.size 224 (.func (.yield l) #[] #[]):=by rw [hW3]; exact bY1.alloc _
 have b3:Below W.heap.size W W3:=by rw [hW3]; exact b1.alloc (by omega) _
 have c0:W.cell? ⟨bX,0,none⟩=some (Vi x.op):=by simp [World.cell?,hX']
 have c1:W.cell? ⟨bX,1,none⟩=some (Vi x.k):=by simp [World.cell?,hX']
 have c2:W.cell? ⟨bX,2,none⟩=some (Vi x.n):=by simp [World.cell?,hX']
 have c3:W.cell? ⟨bX,3,none⟩=some (Vt x.s):=by simp [World.cell?,hX']
 have c4:W.cell? ⟨bX,4,none⟩=some (Vt x.nm):=by simp [World.cell?,hX']
 have c5:W.cell? ⟨bX,5,none⟩=some (.slice A n' c):=by simp [World.cell?,hX']
 have hcall:=walk_any l W.heap.size (W.heap.size + 1) (nY x).length W.heap.size h J Jx hJ
  (λm pre s W hj hl=>YieldAt.mono (YieldAt.anyDepth (show Fence.wide.depth=none from rfl) m (hY pre s W hj hl)) (λe W' q=>q)) x (.slice A n' c) (n - 1) [] W3 hx hw (hbW.trans (b3.mono hbW.size)) bY3 bW3 (hJ [] W W3 none h0 (grown_none b3) (λr e=>by cases e)) (by simp)
 clear hx hw hbW hb hX hX' bY1 bY3 bW3 b1 b3 hY hJ hJx hW;rw [hW3] at hcall;clear hW3;rw [hW1] at hcall;clear hW1 z1 W1 W3;refine callsIn_of_wp Tryz.func184 rfl trivial ?_ rfl;simp only [Tryz.ntmps184,Mq,Tk,Jq,Nat.reduceAdd,Nat.reduceSub,Sw,Tw,Uw,Ww,Zq,Xq]
 gi_wp2_with ((try refine ⟨trivial,?_⟩); (try refine ⟨bA _,?_⟩); gi_at_call 185; refine hcall.mono ?_; clear hcall; rintro e W4 (⟨rfl,hJ4,-⟩ | ⟨rfl,q,hq,hx4⟩))
 ·go_end0
  exact ⟨⟨_,rfl⟩,.inl ⟨_,rfl,hJ4⟩⟩
 ·go_end0
  exact ⟨⟨_,rfl⟩,.inr ⟨q,hq,hx4⟩⟩
def sidx (s:ByteArray):List (ByteArray × Value) -> Option Nat
 | []=>none
 | (k,_) :: l=>if s == k then some 0 else (sidx s l).map (· + 1)
theorem sidx_none {s:ByteArray}:∀ {l:List (ByteArray × Value)},sidx s l=none -> sget s l=none
 | [],_=>rfl
 | (k,v) :: l,h=>by
  unfold sidx at h;unfold sget
  split at h
  ·cases h
  ·rename_i g;rw [Bj g];exact sidx_none (by simpa using h)
theorem sidx_some {s:ByteArray}:∀ {l:List (ByteArray × Value)} {j:Nat},sidx s l=some j -> ∃ u,l[j]?=some (s,u) /\ (∀ i z,Instr.findNow .string (Vt s) (((lZ l).zipIdx z).map λp=>⟨p.1.1,p.1.2,p.2⟩) i=some (some (i + j,u))) /\
  ∀ v t,sget t (l.set j (s,v))=if t=s then some v else sget t l
 | [],j,h=>by cases h
 | (k,u) :: l,j,h=>by
  unfold sidx at h
  split at h
  ·rename_i g;simp only [Wj] at h;subst h;obtain rfl:=(Vk s k).1 g;refine ⟨u,rfl,λi z=>?_,λv t=>?_⟩
   ·simp only [lZ,Ck,List.zipIdx_cons];unfold Instr.findNow;have hsn:Instr.sameNow .string (Vt s) (Vt s)=some (s == s):=rfl;simp only [hsn,g,Pv]
   ·rw [List.set_cons_zero];unfold sget
    by_cases e:t=s
    ·rw [Cj e,Cj (by rw [e]; exact g)]
    ·rw [Bj e,Bj (λq=>e ((Vk t s).1 q)),Bj (λq=>e ((Vk t s).1 q))]
  ·rename_i g;obtain ⟨j',hj,rfl⟩:=Dw.1 h;obtain ⟨u',h1,h2,h3⟩:=sidx_some hj;refine ⟨u',by simpa using h1,λi z=>?_,λv t=>?_⟩
   ·simp only [lZ,Ck,List.zipIdx_cons];unfold Instr.findNow;have hsn:Instr.sameNow .string (Vt s) (Vt k)=some (s == k):=rfl;simp only [hsn,g];rw [show i + (j' + 1)=i + 1 + j' by omega];exact h2 (i + 1) (z + 1)
   ·rw [List.set_cons_succ];unfold sget;rw [h3 v t]
    by_cases e:t=s
    ·subst e; rw [Bj g,Cj rfl,Cj rfl]
    ·rw [Bj e,Bj e]
theorem sget_snoc {s t:ByteArray} {v:Value}:∀ {l:List (ByteArray × Value)},sget s l=none -> sget t (l++[(s,v)])=if t=s then some v else sget t l
 | [],_=>by
  show (if t == s then some v else none)=_
  by_cases e:t=s
  ·rw [Cj e,Cj ((Vk t s).2 e)]
  ·rw [Bj e,Bj (λq=>e ((Vk t s).1 q))]; rfl
 | (k,u) :: l,h=>by
  unfold sget at h
  split at h
  ·cases h
  ·rename_i g;rw [Xq];unfold sget;rw [sget_snoc h]
   by_cases e:t=s
   ·subst e; rw [Bj g,Cj rfl,Cj rfl]
   ·rw [Bj e,Bj e]
theorem sget_out {s:ByteArray}:∀ {l:List (ByteArray × Value)},sget s l=none -> ∀ q∈l,q.1≠s
 | (k,v) :: l,h,q,hq,e=>by
  unfold sget at h
  split at h
  ·cases h
  ·rename_i g;rcases Tj.1 hq with rfl | hq
   ·exact g ((Vk s k).2 e.symm)
   ·exact sget_out h q hq e
theorem ments_get (es:List (Value × Value)) (i:Nat):(ments es)[i]?=(es[i]?).map λp=>⟨p.1,p.2,i⟩:=by
 unfold ments;rw [Nj,List.getElem?_zipIdx]
 cases es[i]? <;> simp
theorem run_update_str {P:Program} {w:World} {b:Nat} {l:List (ByteArray × Value)} {t kt et:TypeId} {s:ByteArray} {v:Value} (hb:w.heap[b]?=some (mW (lZ l))) (ht:P.underlying t=some (.map kt et)) (htd:P.underlying kt=some .string) :
  ∃ l',(Instr.mapUpdate t (.map (some b)) (Vt s) v).run P w=.ok () { w with heap:=w.heap.setIfInBounds b (mW (lZ l')) } /\ (∀ t,sget t l'=if t=s then some v else sget t l) /\ ((l.map (·.1)).Nodup -> (l'.map (·.1)).Nodup) /\ ∀ p∈l',p∈l\/p=(s,v):=by
 cases hs:sidx s l with
 | none =>
  have hn:=sidx_none hs;refine ⟨l++[(s,v)],?_,λt=>sget_snoc hn,λhd=>?_,λp hp=>(Rj.1 hp).imp id Pj.1⟩
  rotate_left
  ·rw [Nk,Bq];refine ⟨hd,by simp,λx hx y hy e=>?_⟩;simp only [Ck,Dv,Pj] at hy;subst hy e;obtain ⟨q,hq,e2⟩:=Qj.1 hx;exact sget_out hn q hq e2
  have:=run_update_at (P:=P) (v:=v) hb ht htd (k:=.string s) rfl (mfind_none hn)
  rw [this,show lZ (l++[(s,v)])=lZ l++[(Vt s,v)] by simp [lZ]]
 | some j =>
  obtain ⟨u,h1,h2,h3⟩:=sidx_some hs;refine ⟨l.set j (s,v),?_,h3 v,λhd=>?_,λp hp=>Vx hp⟩
  rotate_left
  ·have:(l.set j (s,v)).map (·.1)=l.map (·.1):=by
    refine Qq λi=>?_;rw [Nj,Nj,Bw];have hlt:=(Oj.1 h1).1
    by_cases e:j=i
    ·subst e; rw [Cj rfl,Cj hlt,h1]; rfl
    ·rw [Bj e]
   rw [this]; exact hd
  have hf:Instr.findNow .string (Vt s) (ments (lZ l)).toArray.toList 0=some (some (j,u)):=by
   have:=h2 0 0
   rw [Cq] at this;exact this
  have hj:(ments (lZ l)).toArray[j]?=some ⟨Vt s,u,j⟩:=by
   rw [List.getElem?_toArray,ments_get,lZ,Nj,h1]; rfl
  have hk:Go.MapKept.IsKey .string (Vt s):=isKey_of rfl;have hm:(ments (lZ l)).toArray.modify j (λe=>{ e with key:=.string s,val:=v })=(ments (lZ (l.set j (s,v)))).toArray:=by
   apply Array.ext'
   rw [Array.toList_modify];refine Qq λi=>?_;show _=(ments (lZ (l.set j (s,v))))[i]?;rw [List.getElem?_modify,ments_get,ments_get,Nj,Nj,Bw];have hlt:=(Oj.1 h1).1
   by_cases e:j=i
   ·subst e; simp [hlt]
   ·simp [e]
  unfold mW at hb ⊢;unfold Instr.mapUpdate;simp only [Rk,run_underlying ht,Result.andThen,Go.MapKept.run_getObj_map hb,Go.MapKept.run_checkKey htd hk,Go.MapKept.run_findKey htd hf];simp only [hj,Bv,Hw,Go.MapKept.run_keyThatStays hk,Go.MapKept.run_setObj_map _ hb];rw [hm];simp [lZ]
open Go.RowKit Go.Shelf
attribute [local go_sem] Oper.semAt_some
section
variable {F:Fence} {n:Nat} {P:Program} {w w':World} {ops:Array Oper} {rest:List Oper} {o:Oper} {a:Act} {Q:Exit -> Act -> World -> Prop}
theorem wpListIn_mapUpdate_at (hg:o.guard=none) (m x v:Operand) (t:TypeId) (hop:o.op=Op.mapUpdate t m x v) {b key val:Value} (hm:a.eval m=b) (hx:a.eval x=key) (hv:a.eval v=val) (hr:(Instr.mapUpdate t b key val).run P w=.ok () w')
  (hK:wpListIn F n P ops Q rest (a.put o.dst undef) w'):wpListIn F n P ops Q (o :: rest) a w:=by
 refine wpListIn_plain hg λK' hK'=>?_;unfold Oper.wpIn;refine ⟨by simp [Oper.about,hop],?_⟩;rw [Oper.semAt_plain F _ _ (by rw [hop]; intro c hc'; cases hc')];simp [execOp,hop,hm,hx,hv,hr,Result.andThen];exact hK' _ _ hK
end
theorem cells_own {A:World} {b:Nat} {o:Obj} (hb:A.heap[b]?=some o) (hc:o.isCells=true) {row:Option Nat} (hr:∀ r,row=some r -> ∃ o:Obj,A.heap[r]?=some o /\ o.isCells=false):some b≠row:=λe=>by
 obtain ⟨o',h1,h2⟩:=hr _ e.symm;rw [hb] at h1
 cases h1; rw [hc] at h2; cases h2
theorem grown_set {W:World} {M:Nat} {o:Obj} (o':Obj) (hm:W.heap[M]?=some o):W.grownBy { W with heap:=W.heap.setIfInBounds M o' } (some M) :=
 ⟨rfl,rfl,rfl,by simp,λk _ ne=>(Go.MapKept.heap_set hm).2 k (λe=>ne (by rw [e]))⟩
def wY (op:Int):Option (List Int × Int) :=
 if op=3 then some ([1],1) else if op=4 then some ([2],2) else if op=18 then some ([3],1)
 else if 5 <= op /\ op <= 9 then some ([1,1],1) else if op=10 then some ([3,3],3) else if op=15\/op=16 then some ([2,2],2) else none
def iX (op:Int) (l:List Int):Int × Int :=
 match wY op with
 | some (a,t)=>if l=a then (t,0) else (0,9)
 | none=>if op=17 then (if l.getD 0 0=2 /\ l.getD 1 0=l.getD 2 0 then (l.getD 1 0,0) else (0,9)) else if l.getD 0 0=l.getD 1 0 then (2,0) else (0,9)
mutual
def tyE (f:ByteArray -> Option Int):Ex -> Int × Int
 | .mk op k _ _ nm args =>
  if op=1 then (k,0)
  else if op=2 then (match f nm with | some t=>(t,0) | none=>(0,5))
  else if (tyL f args).2=0 then iX op (tyL f args).1 else (0,(tyL f args).2)
def tyL (f:ByteArray -> Option Int):List Ex -> List Int × Int
 | []=>([],0)
 | x :: l=>if (tyE f x).2=0 then (if (tyL f l).2=0 then ((tyE f x).1 :: (tyL f l).1,0) else ([],(tyL f l).2)) else ([],(tyE f x).2)
end
theorem tyE_eq (f:ByteArray -> Option Int) (x:Ex):tyE f x =
  if x.op=1 then ((x.k:Int),(0:Int))
  else if x.op=2 then (match f x.nm with | some t=>((t:Int),(0:Int)) | none=>(0,5))
  else if (tyL f x.args).2=0 then iX x.op (tyL f x.args).1 else (0,(tyL f x.args).2):=by
 obtain ⟨a,b,c,d,e,l⟩:=x;rw [tyE]; rfl
def tyF (fs:List Fd) (s:ByteArray):Option Int:=match fs with
 | []=>none
 | f :: l=>if s == f.name then some f.ty else tyF l s
def tyOp (g:Option Int) (op k:Int) (ts:List Int × Int):Int × Int :=
 if op=1 then (k,0)
 else if op=2 then (match g with | some t=>(t,0) | none=>(0,5))
 else if ts.2=0 then iX op ts.1 else (0,ts.2)
theorem tyE_op (f:ByteArray -> Option Int) (x:Ex):tyE f x=tyOp (f x.nm) x.op x.k (tyL f x.args):=by
 obtain ⟨a,b,c,d,e,l⟩:=x;rw [tyE]; rfl
theorem tyL_get {f:ByteArray -> Option Int}:∀ {l:List Ex} {ts:List Int},tyL f l=(ts,0) -> l.length=ts.length /\ ∀ (i:Nat) (x:Ex),l[i]?=some x -> ∃ t,ts[i]?=some t /\ tyE f x=(t,0)
 | [],ts,h=>by
  rw [tyL] at h;simp only [Qk,Dk] at h;subst h;exact ⟨rfl,λi x hx=>by simp at hx⟩
 | x :: l,ts,h=>by
  rw [tyL] at h
  by_cases h1:(tyE f x).2=0
  ·rw [Cj h1] at h
   by_cases h2:(tyL f l).2=0
   ·rw [Cj h2] at h;simp only [Qk,Dk] at h;subst h;obtain ⟨a,b⟩:=tyL_get (f:=f) (l:=l) (ts:=(tyL f l).1) (Prod.ext rfl h2);refine ⟨by simp [a],λi y hy=>?_⟩
    cases i with
    | zero =>
     simp only [Cx,Wj] at hy;subst hy;exact ⟨_,rfl,Prod.ext rfl h1⟩
    | succ i=>exact b i y (by simpa using hy)
   ·rw [Bj h2] at h;simp only [Qk] at h;exact absurd h.2 h2
  ·rw [Bj h1] at h;simp only [Qk] at h;exact absurd h.2 h1
theorem ty_leaf {fs:List Fd} {g:ByteArray -> Option Int} (hf:∀ f∈fs,g f.name=some f.ty) (r:RawD) (kind:Int):tyE g (iW r fs kind)=(kind,0):=by
 have hc:tyE g (kK kind r)=(kind,0):=by rw [tyE_eq,Cj (show (kK kind r).op=1 from rfl)]; rfl
 unfold iW
 split
 ·rename_i s hs
  split
  ·exact hc
  ·have hm:=Dj hs;obtain ⟨f,hfm,rfl⟩:=Qj.1 hm;obtain ⟨h1,h2⟩:=Gq.1 hfm;rw [tyE_eq,Bj (show ¬ (refE f.name).op=1 by show ¬ (2:Int)=1; decide),Cj (show (refE f.name).op=2 from rfl)];have e:(refE f.name).nm=f.name:=rfl;rw [e,hf f h1];simp at h2;simp [h2]
 ·exact hc
theorem many_types {f:ByteArray -> Option Int} {one:Int -> Nat -> Ex × Nat}:∀ (ks:List Int) (n:Nat),(∀ k∈ks,∀ n,tyE f (one k n).1=(k,0)) -> tyL f (dJ one ks n).1=(ks,0)
 | [],n,_=>by rw [show (dJ one [] n).1=[] from rfl,tyL]
 | k :: ks,n,h=>by
  have h1:=h k (by simp) n;have h2:=many_types (f:=f) ks (one k n).2 (λk' hk=>h k' (by simp [hk]));rw [show (dJ one (k :: ks) n).1=(one k n).1 :: (dJ one ks (one k n).2).1 from rfl,tyL,h1,h2];simp
theorem pick_type (r:RawD) (kind:Int) (h1:1 <= kind) (h3:kind <= 3):iX (xX r kind).1 (xX r kind).2=(kind,0):=by
 have a0:=aY r.a 6 (by omega);have b0:=aY r.b 7 (by omega);have b1:=zX r.b 7 (by omega);have c0:=aY r.a 3 (by omega);have c1:=zX r.a 3 (by omega);unfold xX
 split
 ·simp [iX,wY]
 ·split
  ·rename_i hk
   split
   ·simp [iX,wY,hk]
   ·split
    ·simp [iX,wY,hk]
    ·have hb:intOps (cJ r.b 7)=5\/intOps (cJ r.b 7)=6\/intOps (cJ r.b 7)=7\/intOps (cJ r.b 7)=8\/intOps (cJ r.b 7)=9:=by
      unfold intOps
      repeat' split
      all_goals omega
     simp only;rcases hb with h | h | h | h | h <;> (rw [h]; simp [iX,wY,hk])
  ·split
   ·rename_i hk
    split
    ·simp [iX,wY,hk]
    ·split
     ·have hb:cJ r.b 7=1\/cJ r.b 7=2:=by omega
      simp only;rcases hb with h | h <;> (rw [h]; simp [iX,wY,hk])
     ·have hb:cJ r.b 7=3\/cJ r.b 7=4\/cJ r.b 7=5\/cJ r.b 7=6:=by omega
      simp only;rcases hb with h | h | h | h <;> (rw [h]; simp [iX,wY,hk])
   ·have hk:kind=3:=by omega
    simp [iX,wY,hk]
theorem ty_op {f:ByteArray -> Option Int} {op:Int} {l:List Ex} {ts:List Int} (h1:op≠1) (h2:op≠2) (h:tyL f l=(ts,0)):tyE f (opE op l)=iX op ts:=by
 rw [tyE_eq,Bj (show ¬ (opE op l).op=1 from h1),Bj (show ¬ (opE op l).op=2 from h2)];show (if (tyL f l).2=0 then iX op (tyL f l).1 else (0,(tyL f l).2))=_;rw [h]; simp
theorem ty_gen {fs:List Fd} {g:ByteArray -> Option Int} (hf:∀ f∈fs,g f.name=some f.ty) (l:List RawD):∀ (d:Nat) (kind:Int) (n:Nat),1 <= kind -> kind <= 3 -> tyE g (gJ l fs d kind n).1=(kind,0)
 | 0,kind,n,h1,h3=>ty_leaf hf _ _
 | d + 1,kind,n,h1,h3=>by
  by_cases q:cJ (aJ l n).k 3=0
  ·rw [genE_leaf q]; exact ty_leaf hf _ _
  ·obtain ⟨p1,p2,p3,p4⟩:=pickE_ok (aJ l n) kind h1 h3;have hpt:=pick_type (aJ l n) kind h1 h3;obtain ⟨op,ks,hp⟩:∃ op ks,xX (aJ l n) kind=(op,ks):=⟨(xX (aJ l n) kind).1,(xX (aJ l n) kind).2,by cases xX (aJ l n) kind; rfl⟩;rw [pV q hp];rw [hp] at p1 p2 p4 hpt;simp only at p1 p2 p4 hpt;exact (ty_op (by omega) (by omega) (many_types ks _ (λk hk n=>ty_gen hf l d k n (p4 k hk).1 (p4 k hk).2))).trans hpt
open Go.RowKit Go.Shelf
attribute [local go_sem] Oper.semAt_some
def zF:Fd:=⟨⟨#[]⟩,0,0,zE⟩
@[reducible] def fdVal (f:Fd) (v:Value):Value:=.agg #[Vt f.name,Vi f.kind,Vi f.ty,Vi f.src.op,Vi f.src.k,Vi f.src.n,.string f.src.s,.string f.src.nm,v]
def dn (len c:Nat):List Nat:=(List.range c).map λj=>len - 1 - j
theorem dn_succ (len c:Nat):dn len (c + 1)=dn len c++[len - 1 - c]:=by simp [dn,List.range_succ]
theorem dn_len (len c:Nat):(dn len c).length=c:=by simp [dn]
theorem back_in (A:Option Addr) (len cap:Nat) (n:Nat) (W:World) :
  CallsIn Fence.wide n Tryz.prog 189 #[.slice A len cap] W λe W'=>e=.returned (.func (.func 204) #[] #[.pointer (some ⟨W.heap.size,0,none⟩)]) /\ W'=W.alloc (.cells #[.slice A len cap] 25):=by
 refine callsIn_of_wp Tryz.func189 rfl trivial ?_ rfl;simp only [Tryz.ntmps189,Mq,Tk,Jq,Nat.reduceAdd,Nat.reduceSub,Sw,Tw,Uw,Ww,Zq,Xq]
 gi_wp2
 go_ret
 exact ⟨rfl,rfl⟩
theorem back_stops (fs:List Fd) (vs:List Value) (A:Option Addr) (cap:Nat) (h:Vw) (hr:RS h 9 (.slice A fs.length cap) (dQ fs vs)) (hvl:vs.length=fs.length) (hsl:∀ v∈vs,sL v=v) (n bX:Nat) (w:World) (hb:Below h.w.heap.size h.w w) (hX:w.heap[bX]?=some (.cells #[.slice A fs.length cap] 25 (0,0))) :
  SeqStopsK Fence.wide n Tryz.prog 204 #[.pointer (some ⟨bX,0,none⟩)] (λi:Nat=>#[Vi (i:Int),fdVal (fs.getD i zF) (sL (vs.getD i undef))]) (Kp h.w.heap.size) (λys=>ys=dn fs.length fs.length) (λ_=>True) fs.length w:=λl J Jx W hW hJ hJx hY h0=>by
 have hbW:Below h.w.heap.size h.w W:=hb.trans (hW.mono hb.size);have hX':W.heap[bX]?=some (.cells #[.slice A fs.length cap] 25 (0,0)):=(hW.block bX (Pk.1 hX).1).trans hX;have bX':Boxed W bX 25 (.slice A fs.length cap):=hX';have cX:=bX'.cell;obtain ⟨A',cap',e,hc1,hc2,-⟩:=hr.form;rw [fQ hvl] at e hc1;simp only [Jk] at e;obtain ⟨rfl,-,rfl⟩:=e;have HR:=Fj hr;have HV:=Fj hvl;have HS:=Fj hsl;have HB:=Fj hbW;have HY:=Fj hY;have HX:=Fj bX';clear hr hvl hsl hbW hb hX hX' hW hY bX';unfold maxLen at hc2;generalize hL:fs.length=len at *;refine callsIn_of_wp Tryz.func204 rfl trivial ?_ rfl;simp only [Tryz.ntmps204,Mq,Tk,Jq,Nat.reduceAdd,Nat.reduceSub,Sw,Tw,Uw,Ww,Zq,Xq]
 gi_wp2
 gi_loopw [3] (λi wr=>∃ k:Nat,k <= len /\ i=Vi ((len:Int) - 1 - k) /\ J (dn len k) wr /\ Kp h.w.heap.size W wr) (λi _=>(intOf i + 1).toNat)
 case atStart=>exact ⟨0,Kj _,by go_num,by simpa [dn] using h0,Kp.refl _ _⟩
 case round =>
  obtain ⟨k,hk,rfl,hjk,hkk⟩:=hrel
  by_cases hlt:k < len
  ·obtain ⟨m,hm⟩:∃ m:Nat,len=m + 1 + k:=⟨len - 1 - k,by omega⟩;have hi:(len:Int) - 1 - k=(m:Int):=by omega
   rw [hi];have hml:m < len:=by omega
   obtain ⟨f,hf⟩:∃ f,fs[m]?=some f:=⟨_,Gj (by omega)⟩;obtain ⟨u,hu⟩:∃ u,vs[m]?=some u:=⟨_,Gj (by have:=HV.out; omega)⟩;have hrow:=eQ hf hu;have hrw:=HR.out;obtain ⟨b,off,e,-,hc⟩:=hrw.row hrow;subst e;have hbr:=HB.out.trans hkk.below;have hc:=hc.sees (sees_below hbr);have c0:wr.cell? ⟨b,off + m * 9,none⟩=_:=hc.lies 0 _ rfl;have c1:wr.cell? ⟨b,off + m * 9 + 1,none⟩=_:=hc.lies 1 _ rfl;have c2:wr.cell? ⟨b,off + m * 9 + 2,none⟩=_:=hc.lies 2 _ rfl;have c3:wr.cell? ⟨b,off + m * 9 + 3,none⟩=_:=hc.lies 3 _ rfl;have c4:wr.cell? ⟨b,off + m * 9 + 4,none⟩=_:=hc.lies 4 _ rfl;have c5:wr.cell? ⟨b,off + m * 9 + 5,none⟩=_:=hc.lies 5 _ rfl;have c6:wr.cell? ⟨b,off + m * 9 + 6,none⟩=_:=hc.lies 6 _ rfl;have c7:wr.cell? ⟨b,off + m * 9 + 7,none⟩=_:=hc.lies 7 _ rfl;have c8:wr.cell? ⟨b,off + m * 9 + 8,none⟩=_:=hc.lies 8 _ rfl;have cX:=(hkk.cells.boxed HX.out).cell;obtain ⟨fn,tmps,assign,body,hy,hRd⟩:=HY.out (dn len k) m wr hjk (by rw [dn_len]; omega);have hR2:=hRd.mono (R':=λe W2=>(e=.returned (.bool true) /\ J (dn len (k + 1)) W2 /\ Kp h.w.heap.size W W2)\/(e=.returned (.bool false) /\ Jx (dn len (k + 1)) W2))
    (λe W2 q=>by
     rw [dn_succ,show len - 1 - k=m by omega];exact q.elim (λ⟨a,b,c⟩=>.inl ⟨a,b,hkk.trans c⟩) .inr)
   have e1:fs.getD m zF=f:=by rw [Uk,hf]; rfl
   have e2:vs.getD m undef=u:=by rw [Uk,hu]; rfl
   have e3:=HS.out u (Dj hu);rw [e1,e2,e3] at hy;have HJ:=Fj hjk;have HK:=Fj hkk;have HM:=Fj hm;clear hc hrow hrw hRd hjk hkk hf hu e1 e2 e3 hbr hi hm
   gi_wp2_with ((try refine ⟨bA _,?_⟩); refine hR2.mono ?_; clear hR2; rintro e W2 (⟨rfl,hJ2,hk2⟩ | ⟨rfl,hx2⟩))
   ·go_roundw
    case rel=>exact ⟨k + 1,by omega,by have:=HM.out; go_num,hJ2,hk2⟩
    case measure=>simp [intOf] <;> omega
   ·(try simp only [Exit.inBlock,Exit.then]); refine bodyPost_ret (results_none rfl _ _ _) rfl ?_
    exact ⟨⟨_,rfl⟩,.inr ⟨_,trivial,hx2⟩⟩
  ·obtain rfl:k=len:=by omega
   have hi:(k:Int) - 1 - k = -1:=by omega
   rw [hi];clear hi
   gi_wp2
   go_end0
   exact ⟨⟨_,rfl⟩,.inl ⟨_,rfl,hjk⟩⟩
def lastT (fs:List Fd) (s:ByteArray) (pre:List Nat):Option Value:=pre.foldl (λo i=>if s=(fs.getD i zF).name then some (Vi (fs.getD i zF).ty) else o) none
theorem lastT_snoc (fs:List Fd) (s:ByteArray) (pre:List Nat) (i:Nat):lastT fs s (pre++[i])=if s=(fs.getD i zF).name then some (Vi (fs.getD i zF).ty) else lastT fs s pre:=by
 unfold lastT;rw [Gx]; rfl
theorem lastT_dn (fs:List Fd) (s:ByteArray):∀ c,c <= fs.length -> lastT fs s (dn fs.length c)=(tyF (fs.drop (fs.length - c)) s).map (.int .i64)
 | 0,_=>by rw [Nat.sub_zero,List.drop_length]; rfl
 | c + 1,hc=>by
  rw [dn_succ,lastT_snoc,lastT_dn fs s c (by omega)];obtain ⟨f,hf⟩:∃ f,fs[fs.length - 1 - c]?=some f:=⟨_,Gj (by omega)⟩;have e1:fs.getD (fs.length - 1 - c) zF=f:=by rw [Uk,hf]; rfl
  have e2:fs.drop (fs.length - (c + 1))=f :: fs.drop (fs.length - c):=by
   obtain ⟨hlt,he⟩:=Oj.1 hf;rw [show fs.length - (c + 1)=fs.length - 1 - c by omega,Fw hlt,he,show fs.length - 1 - c + 1=fs.length - c by omega]
  rw [e1,e2]
  conv=>rhs; unfold tyF
  by_cases e:s=f.name
  ·rw [Cj e,Cj ((Vk s f.name).2 e)]; rfl
  ·rw [Bj e,Bj (λq=>e ((Vk s f.name).1 q))]
theorem types_in (fs:List Fd) (vs:List Value) (A:Option Addr) (cap:Nat) (h:Vw) (hr:RS h 9 (.slice A fs.length cap) (dQ fs vs)) (hvl:vs.length=fs.length) (hsl:∀ v∈vs,sL v=v) (n:Nat) (hn:3 <= n) :
  CallsIn Fence.wide n Tryz.prog 170 #[.slice A fs.length cap] h.w (λe W'=>e=.returned (.map (some h.w.heap.size)) /\ (∃ l,W'.heap[h.w.heap.size]?=some (mW (lZ l)) /\ ∀ s,sget s l=(tyF fs s).map (.int .i64)) /\ Below h.w.heap.size h.w W'):=by
 have h1:1 <= n:=by omega
 obtain ⟨M,hM⟩:∃ M,M=h.w.heap.size:=⟨_,rfl⟩;obtain ⟨W1,hW1⟩:∃ W1,W1=h.w.alloc (.map #[] 0):=⟨_,rfl⟩;obtain ⟨W2,hW2⟩:∃ W2,W2=W1.alloc (.cells #[.map (some M)] 249):=⟨_,rfl⟩;obtain ⟨W3,hW3⟩:∃ W3,W3=W2.alloc (.cells #[.slice A fs.length cap] 25):=⟨_,rfl⟩;have z1:W1.heap.size=M + 1:=by rw [hW1,hM]; simp
 have z2:W2.heap.size=M + 1 + 1:=by rw [hW2,World.size_alloc,z1]
 have z3:W3.heap.size=M + 1 + 1 + 1:=by rw [hW3,World.size_alloc,z2]
 have m1:W1.heap[M]?=some (mW (lZ [])):=by rw [hW1,hM]; exact (Qw _ _).1
 have m2:W2.heap[M]?=some (mW (lZ [])):=by rw [hW2]; exact ((Qw _ _).2 _ (by omega)).trans m1
 have m3:W3.heap[M]?=some (mW (lZ [])):=by rw [hW3]; exact ((Qw _ _).2 _ (by omega)).trans m2
 have b2:Boxed W2 (M + 1) 249 (.map (some M)):=by rw [hW2, <- z1]; exact Boxed.new _ _ _
 have b3:Boxed W3 (M + 1) 249 (.map (some M)):=by rw [hW3]; exact b2.alloc _
 have x3:W3.heap[M + 1 + 1]?=some (.cells #[.slice A fs.length cap] 25 (0,0)):=by rw [hW3, <- z2]; exact World.alloc_heap_new _ _
 have hB3:Below M h.w W3:=by
  rw [hW3,hW2,hW1,hM];exact (((Xj _ h.w).alloc (Ij _) _).alloc (by simp) _).alloc (by simp; omega) _
 refine callsIn_of_wp_marks Tryz.func170 rfl trivial ?_ rfl;simp only [Tryz.ntmps170,Mq,Tk,Jq,Nat.reduceAdd,Nat.reduceSub,Sw,Tw,Uw,Ww,Zq,Xq];have HR:=Fj hr;have HV:=Fj hvl;have HS:=Fj hsl;have HX:=Fj x3;have HM3:=Fj m3;have HB:=Fj hB3;have HB3:=Fj b3;have HZ:=Fj z3;clear hr hvl hsl x3 m1 m2 m3 b2 b3 hB3 z1 z2 z3;rw [<- hM]
 gi_wp2
 simp only [run_makeMap,Result.andThen, <- hM, <- hW1]
 gi_wp2_with ((try refine ⟨trivial,?_⟩); (try refine ⟨bA _,?_⟩); gi_at_call 189; refine (back_in A fs.length cap (n - 1) _).mono ?_; rintro e w' ⟨rfl,rfl⟩)
 rw [<- hM, <- hW1, <- hW2, <- hW3];clear hW1 hW2 hW3 W1 W2;subst hM;have hsz:=HZ.out;clear HZ;refine wpIn_rangeFunc_ownH (α:=Nat) rfl h1 (gf:=204) (lb:=#[.pointer (some ⟨h.w.heap.size + 1 + 1,0,none⟩)]) rfl trivial (enters_of Tryz.func204 (by kernel_rfl) rfl)
  (back_stops fs vs A cap h HR.out HV.out HS.out (n - 1) (h.w.heap.size + 1 + 1) W3 HB.out HX.out) kp_t (kp_b HB.out.size) (Xj _ _) (λ_=>rfl)
  (λpre W=>((∃ l,W.heap[h.w.heap.size]?=some (mW (lZ l)) /\ ∀ s,sget s l=lastT fs s pre) /\ Boxed W (h.w.heap.size + 1) 249 (.map (some h.w.heap.size))) /\ Below h.w.heap.size h.w W)
  (λ_ _ W=>False /\ Below h.w.heap.size h.w W)
  (OwnFrom.and (λs A B row hs hg hr=>⟨by
    obtain ⟨l,h2,h3⟩:=hs.1;exact ⟨l,(hg.block _ (Pk.1 h2).1 (λe=>by have:=(hr _ e.symm).1; omega)).trans h2,h3⟩,hs.2.kept hg (cells_own hs.2 rfl (λr e=>(hr r e).2))⟩) (ownFrom_below (Ij _) (by omega)))
  (λc=>OwnFrom.and (λs A B row hs hg hr=>hs) (ownFrom_below (Ij _) (by omega)))
  ⟨⟨⟨[],HM3.out,λ_=>rfl⟩,HB3.out⟩,HB.out⟩
  (λi a' W=>∃ b,W.heap[b]?=some (.cells (fdRow (fs.getD i zF) (sL (vs.getD i undef))).toArray 52 (0,0)) /\ a'={ tmps:=#[Value.slice A fs.length cap,undef,Value.map none,.pointer (some ⟨h.w.heap.size + 1,0,none⟩),undef,.pointer (some ⟨b,0,none⟩),.map (some h.w.heap.size),.slice A fs.length cap,.func (.func 204) #[] #[.pointer (some ⟨h.w.heap.size + 1 + 1,0,none⟩)],Vi (i:Int),fdVal (fs.getD i zF) (sL (vs.getD i undef)),undef,undef,undef,undef,undef,undef],defers:=[] })
  (λi a' s A B row hs hg hr=>by
   obtain ⟨b,h2,h3⟩:=hs;refine ⟨b,(hg.block _ (Pk.1 h2).1 (λe=>?_)).trans h2,h3⟩;obtain ⟨-,o,ho,hc⟩:=hr _ e.symm;rw [h2] at ho; cases ho; cases hc) ?assign ?body ?done ?stop
 case assign =>
  intro l pre i W K hI hK;have hk0:=Kp.alloc hI.2.size (.cells (fdRow (fs.getD i zF) (sL (vs.getD i undef))).toArray 52);have hb0:=hI.2.trans hk0.below;have hI2:=(hI.1.2.alloc (.cells (fdRow (fs.getD i zF) (sL (vs.getD i undef))).toArray 52));have hm2:(W.alloc (.cells (fdRow (fs.getD i zF) (sL (vs.getD i undef))).toArray 52)).heap[h.w.heap.size]?=W.heap[h.w.heap.size]?:=(Qw W _).2 _ (by
   obtain ⟨l,h2,-⟩:=hI.1.1;exact (Pk.1 h2).1)
  have hx2:=World.alloc_heap_new W (.cells (fdRow (fs.getD i zF) (sL (vs.getD i undef))).toArray 52);have HK:=hK _ _ ((KeepsOthers.alloc W (.cells (fdRow (fs.getD i zF) (sL (vs.getD i undef))).toArray 52)).from _) hk0 ⟨⟨by rw [hm2]; exact hI.1.1,hI2⟩,hb0⟩ ⟨_,hx2,rfl⟩;clear hK hI hk0 hb0 hI2 hm2 hx2;generalize fs.getD i zF=f at *;generalize vs.getD i undef=u at *
  gi_wp2
  exact HK
 case body =>
  rintro l pre i a' W hl - ⟨⟨⟨lm,hm,hg⟩,hbx⟩,hB⟩ ⟨b,hb,rfl⟩ hpl;obtain ⟨l2,hu,hg2,-,-⟩:=run_update_str (P:=Tryz.prog) (t:=249) (s:=(fs.getD i zF).name) (v:=Vi (fs.getD i zF).ty) hm Tryz.underlying249 Tryz.underlying9;have cM:=hbx.cell;have c0:W.cell? ⟨b,0,none⟩=some (Vt (fs.getD i zF).name):=by simp [World.cell?,hb]
  have c2:W.cell? ⟨b,2,none⟩=some (Vi (fs.getD i zF).ty):=by simp [World.cell?,hb]
  have hgr:=grown_set (mW (lZ l2)) hm;have hset:=(Go.MapKept.heap_set (o':=mW (lZ l2)) hm).1;have hml:=(Pk.1 hm).1;have hbl:Below h.w.heap.size W _:=(Xj h.w.heap.size W).grown hgr hB.size (λk e=>by cases e; exact Ij _);have hkc:=KeepsCells.grown hgr (λr e=>by cases e; exact ⟨_,hm,rfl⟩);have hfin:∀ s,sget s l2=lastT fs s (pre++[i]):=λs=>by rw [hg2 s,lastT_snoc,hg s]
  have hex:∃ l,({ W with heap:=W.heap.setIfInBounds h.w.heap.size (mW (lZ l2)) }:World).heap[h.w.heap.size]?=some (mW (lZ l)) /\ ∀ s,sget s l=lastT fs s (pre++[i]):=⟨l2,hset,hfin⟩;have HF:=Fj (Aj (KeepsFrom.of_grownBy (B:=W3.heap.size) hgr (λj e=>by cases e; omega)) (Aj (Kp.mk hbl hkc) (Aj (Aj hex (hkc.boxed hbx)) (hB.trans hbl))));clear hex hgr hset hml hbl hkc hfin hg hg2 hB hm hb hbx;generalize fs.getD i zF=f at *;generalize vs.getD i undef=u at *
  gi_wp2_with (first | (gi_at_mapUpdate; refine wpListIn_mapUpdate_at rfl _ _ _ 249 rfl rfl rfl rfl hu ?_) | gi_in)
  have hfo:=HF.out;rw [hsz] at hfo;exact ⟨hfo.1,hfo.2.1,hfo.2.2⟩
 case done =>
  rintro D ys W hD rfl ⟨⟨⟨l,hm,hg⟩,hbx⟩,hB⟩ hK;have cM:=hbx.cell;have hfin:∀ s,sget s l=(tyF fs s).map (.int .i64):=λs=>by rw [hg s,lastT_dn fs s _ (Ij _),Nat.sub_self,List.drop_zero]
  have HF:=Fj (Aj hm (Aj hfin hB));clear hg hfin hB hbx hm
  gi_wp2
  refine ⟨by simp,.inl ⟨_,_,rfl,run_takeDeferred hK,?_⟩⟩;obtain ⟨f1,f2,f3⟩:=HF.out;have hml:=(Pk.1 f1).1;have hp:(W.putObj D (.deferred none)).heap[h.w.heap.size]?=some (mW (lZ l)):=(World.putObj_heap_other (by omega)).trans f1;refine ⟨.map (some h.w.heap.size),?_,rfl,⟨l,hp,f2⟩,f3.trans (belowK_b (w:=h.w) (Ij _) _ D _ _ (by omega) hK rfl rfl)⟩;simp [results,Tryz.f170,go_sem]
 case stop =>
  rintro D c pre W hD - ⟨hf,-⟩;exact hf.elim
open Go.RowKit Go.Shelf
def TypesAt (h:Vw) (b:Nat) (f:ByteArray -> Option Int):Prop:=∃ l,MapAt h b (lZ l) /\ ∀ s,sget s l=(f s).map (.int .i64)
theorem TypesAt.sees {h h':Vw} {b:Nat} {f:ByteArray -> Option Int} (k:TypesAt h b f) (s:Sees h h'):TypesAt h' b f:=by
 obtain ⟨l,h1,h2⟩:=k;exact ⟨l,h1.sees s,h2⟩
theorem types_any (fs:List Fd) (v:Value) (h:Vw) (hf:IsFds h v fs):C0 Tryz.prog 170 #[v] h (λr h'=>∃ b,r=.map (some b) /\ TypesAt h' b (tyF fs)):=by
 intro _ _ _ hbad;obtain ⟨vs,hr,hs⟩:=hf;have hvl:=hs.len;obtain ⟨A,cap,rfl,-,-,-⟩:=hr.form;rw [fQ hvl] at hr ⊢;have hsl:∀ v∈vs,sL v=v:=λv hv=>by
  obtain ⟨i,hi⟩:=Fq hv;have hlt:=(Oj.1 hi).1;obtain ⟨x,hx⟩:∃ x,(fs.map (·.src))[i]?=some x:=⟨_,Gj (by rw [Hj]; omega)⟩;obtain ⟨A,n,c,rfl⟩:=(AllArgs.get hs hx hi).slice
  rfl
 refine (callsIn_wide.1 (types_in fs vs A cap h hr hvl hsl 9 (by omega))).mono ?_;rintro e w' ⟨rfl,⟨l,h1,h2⟩,hb⟩;exact ⟨_,[],rfl,Low.of_below hb,(λx hx=>by cases hx),rfl,_,rfl,l,⟨λhm=>Nat.lt_irrefl _ (hbad _ hm),h1⟩,h2⟩
def RulesAt (h:Vw) (b:Nat):Prop:=∃ es,MapAt h b (vV es) /\ ∀ op,match wY op with
 | some (a,t)=>∃ A n c,iget op es=some (.agg #[.slice A n c,Vi t]) /\ RS h 1 (.slice A n c) (wV a)
 | none=>iget op es=none
theorem RulesAt.sees {h h':Vw} {b:Nat} (k:RulesAt h b) (s:Sees h h'):RulesAt h' b:=by
 obtain ⟨es,h1,h2⟩:=k;refine ⟨es,h1.sees s,λop=>?_⟩
 have:=h2 op
 split at this
 ·obtain ⟨A,n,c,h3,h4⟩:=this;exact ⟨A,n,c,h3,h4.sees s⟩
 ·exact this
def rulesL (A B C:Value × Value):List (Int × Value) :=
 [(3,.agg #[A.2,Vi 1]),(4,.agg #[B.2,Vi 2]),(18,.agg #[C.2,Vi 1]),(5,.agg #[A.1,Vi 1]),(6,.agg #[A.1,Vi 1]),(7,.agg #[A.1,Vi 1]),(8,.agg #[A.1,Vi 1]),(9,.agg #[A.1,Vi 1]),
  (10,.agg #[C.1,Vi 3]),(15,.agg #[B.1,Vi 2]),(16,.agg #[B.1,Vi 2])]
theorem rules_get {es:List (Int × Value)} {A B C:Value × Value} (hn:(es.map (·.1)).Nodup) (he:∀ k v,(k,v)∈es↔(k,v)∈rulesL A B C) (op:Int):iget op es=iget op (rulesL A B C):=by
 have hnl:((rulesL A B C).map (·.1)).Nodup:=by simp [rulesL]
 cases h:iget op (rulesL A B C) with
 | some v =>
  have hm:∀ {l:List (Int × Value)},iget op l=some v -> (op,v)∈l:=by
   intro l
   induction l with
   | nil=>intro h; cases h
   | cons p l ih =>
    obtain ⟨k,u⟩:=p;intro h;unfold iget at h
    split at h
    ·rename_i e; simp only [Wj] at h; subst e h; simp
    ·exact Lk _ (ih h)
  exact iget_mem hn ((he op v).2 (hm h))
 | none =>
  refine iget_none λhm=>?_;obtain ⟨⟨k,v⟩,hm2,rfl⟩:=Qj.1 hm;rw [iget_mem hnl ((he k v).1 hm2)] at h
  cases h
theorem rules_any (h:Vw):C0 Tryz.prog 171 #[] h (λr h'=>∃ b,r=.map (some b) /\ RulesAt h' b):=by
 refine wQ Tryz.func171 (c:=Tryz.f171.body.getD .skip) (N:=34) ?_;intro hbx hbad Q hQ;refine gov3 16 [.fix,.fix,.fix] [] ?_;intro b1 b2 b3 W4 S5;refine cV [(1,Vs b1 2 2),(2,Vs b2 2 2),(3,Vs b3 2 2)] [] [(b3,0,[Vi 3,Vi 3]),(b2,0,[Vi 2,Vi 2]),(b1,0,[Vi 1,Vi 1])] ?_;refine g_maplit 251 [.mk 7,.pu 8 (Vs b1 2 2),.pu 9 (Vs b1 1 2),.pu 10 (.agg #[Vs b1 1 2,Vi 1]),.ins 3 (.agg #[Vs b1 1 2,Vi 1]),.pu 11 (Vs b2 2 2),.pu 12 (Vs b2 1 2),.pu 13 (.agg #[Vs b2 1 2,Vi 2]),.ins 4 (.agg #[Vs b2 1 2,Vi 2]),.pu 14 (Vs b3 2 2),.pu 15 (Vs b3 1 2),.pu 16 (.agg #[Vs b3 1 2,Vi 1]),.ins 18 (.agg #[Vs b3 1 2,Vi 1]),.pu 17 (Vs b1 2 2),.pu 18 (.agg #[Vs b1 2 2,Vi 1]),.ins 5 (.agg #[Vs b1 2 2,Vi 1]),.pu 19 (Vs b1 2 2),.pu 20 (.agg #[Vs b1 2 2,Vi 1]),.ins 6 (.agg #[Vs b1 2 2,Vi 1]),.pu 21 (Vs b1 2 2),.pu 22 (.agg #[Vs b1 2 2,Vi 1]),.ins 7 (.agg #[Vs b1 2 2,Vi 1]),.pu 23 (Vs b1 2 2),.pu 24 (.agg #[Vs b1 2 2,Vi 1]),.ins 8 (.agg #[Vs b1 2 2,Vi 1]),.pu 25 (Vs b1 2 2),.pu 26 (.agg #[Vs b1 2 2,Vi 1]),.ins 9 (.agg #[Vs b1 2 2,Vi 1]),.pu 27 (Vs b3 2 2),.pu 28 (.agg #[Vs b3 2 2,Vi 3]),.ins 10 (.agg #[Vs b3 2 2,Vi 3]),.pu 29 (Vs b2 2 2),.pu 30 (.agg #[Vs b2 2 2,Vi 2]),.ins 15 (.agg #[Vs b2 2 2,Vi 2]),.pu 31 (Vs b2 2 2),.pu 32 (.agg #[Vs b2 2 2,Vi 2]),.ins 16 (.agg #[Vs b2 2 2,Vi 2]),.mv 33,.mv 0] ?_ Tryz.underlying251 Tryz.underlying3; intro b6 es7 hes8 hnd9;refine go0 2 [] [] ?_;refine hQ.toJ [.map (some b6)] [] (λa w hJ=>?_);skip;have c1:Cells ⟨w,h.bad⟩ b1 0 [Vi 1,Vi 1]:=(hJ.f (_,_,_) (Dj (i:=2) (by kernel_rfl))).sees hJ.j.out;have c2:Cells ⟨w,h.bad⟩ b2 0 [Vi 2,Vi 2]:=(hJ.f (_,_,_) (Dj (i:=1) (by kernel_rfl))).sees hJ.j.out;have c3:Cells ⟨w,h.bad⟩ b3 0 [Vi 3,Vi 3]:=(hJ.f (_,_,_) (Dj (i:=0) (by kernel_rfl))).sees hJ.j.out;have n2:=rs_ints [1,1] (by decide) c1;have t2:=rs_ints [2,2] (by decide) c2;have s2:=rs_ints [3,3] (by decide) c3;have n1:=n2.take 1 (by decide);have t1:=t2.take 1 (by decide);have s1:=s2.take 1 (by decide);refine ⟨b6,rfl,es7,hJ.mapOut 0 (by kernel_rfl) rfl,λop=>?_⟩;rw [rules_get (A:=(.slice (some ⟨b1,0,none⟩) 2 2,.slice (some ⟨b1,0,none⟩) 1 2)) (B:=(.slice (some ⟨b2,0,none⟩) 2 2,.slice (some ⟨b2,0,none⟩) 1 2)) (C:=(.slice (some ⟨b3,0,none⟩) 2 2,.slice (some ⟨b3,0,none⟩) 1 2)) hnd9 (λk v=>by
  rw [hes8];simp [rulesL])]
 clear hJ hes8 hnd9;unfold wY
 by_cases e3:op=3
 ·subst e3; exact ⟨_,_,_,rfl,n1⟩
 by_cases e4:op=4
 ·subst e4; exact ⟨_,_,_,rfl,t1⟩
 by_cases e18:op=18
 ·subst e18; exact ⟨_,_,_,rfl,s1⟩
 by_cases e5:5 <= op /\ op <= 9
 ·rcases (by omega:op=5\/op=6\/op=7\/op=8\/op=9) with rfl | rfl | rfl | rfl | rfl <;> exact ⟨_,_,_,rfl,n2⟩
 by_cases e10:op=10
 ·subst e10; exact ⟨_,_,_,rfl,s2⟩
 by_cases e15:op=15
 ·subst e15; exact ⟨_,_,_,rfl,t2⟩
 by_cases e16:op=16
 ·subst e16; exact ⟨_,_,_,rfl,t2⟩
 rw [Bj e3,Bj e4,Bj e18,Bj e5,Bj e10,Bj (by omega)];simp only;unfold rulesL iget;simp only [iget];rw [Bj e3,Bj e4,Bj e18,Bj (by omega),Bj (by omega),Bj (by omega),Bj (by omega),Bj (by omega),Bj e10,Bj e15,Bj e16]
theorem equal_any (l m:List Int) (sl sl':Value) (h:Vw) (hr:RS h 1 sl (wV l)) (hr':RS h 1 sl' (wV m)):C0 Tryz.prog 23 #[sl,sl'] h (λr _=>r=.bool (decide (l=m))):=by
 obtain ⟨A,ca,rfl,l1,l2,-⟩:=hr.form;obtain ⟨A',ca',rfl,-,-,-⟩:=hr'.form;rw [Hj] at hr hr' l1 ⊢;unfold maxLen at l2;rw [Hj]
 by_cases hlm:l.length=m.length
 rotate_left
 ·rw [Jj (λe=>hlm (by rw [e]))];generalize hL:l.length=len at *;generalize hL':m.length=len' at *;refine wQ Tryz.func23 (c:=Tryz.f23.body.getD .skip) (N:=26) ?_;intro hbx hbad Q hQ;refine go0 15 [] [] ?_;refine oV (t:=(len:Int) != (len':Int)) (Ek.2 (by omega)) ?_;refine go0 7 [] [] ?_;refine hQ.to [.bool false] (λH sH=>?_);exact rfl
 ·rw [<- hlm] at hr' ⊢;have hml:m.length=l.length:=hlm.symm;clear hlm;generalize hL:l.length=len at *;refine wQ Tryz.func23 (c:=Tryz.f23.body.getD .skip) (N:=26) ?_;intro hbx hbad Q hQ;refine go0 27 [] [(10,.bool ((len:Int) != (len:Int)),.bool false)] ?_ (hc:=(Aj (Ej Value.bool (bne_self_eq_false _)) (trivial)));refine eV [0,1,0,1,1] [.block 0,.seq [1,1,1]] (λ(k:Nat) X=>∃ (W1:Vw) ,X W1 [(0,.slice A len ca),(1,.slice A' len ca'),(12,Vi (len:Int)),(13,Vi (k:Int))] [] [] /\ Sees h W1 /\ (k <= len) /\ (l.take k=m.take k)) (λk=>len - k) (0) (λX q=>⟨h,q _ _ _ _ ⟨rfl,by kernel_rfl⟩,Sees.refl _,Kj _,rfl⟩) ?_;rintro k a w ⟨W1,hJ,S2,hk,hpre⟩; refine jV hJ ?_; clear hJ a w;refine go0 6 [] [] ?_;rcases (by omega:k < len\/len=k) with hlt | hke
  ·obtain ⟨x,hx⟩:∃ x,l[k]?=some x:=⟨_,Gj (by omega)⟩;obtain ⟨y,hy⟩:∃ y,m[k]?=some y:=⟨_,Gj (by omega)⟩;have hrow:(wV l)[k]?=some [Vi x]:=by rw [Nj,hx]; rfl
   have hrow':(wV m)[k]?=some [Vi y]:=by rw [Nj,hy]; rfl
   refine oV (t:=decide ((k:Int) < (len:Int))) (Mj (by omega)) ?_;refine go0 11 [] [] ?_;obtain ⟨b3,o4,rfl,-,c5⟩:=RS.row hr (hrow);refine xQ (c5.sees S2) ?_;obtain ⟨b6,o7,rfl,-,c8⟩:=RS.row hr' (hrow');refine xQ (c8.sees S2) ?_;refine lV 9 0 [.pu,.pu,.v (λgh=>.pointer (some ⟨b3,o4 + k * 1,none⟩)),.lf 1 0,.pu,.pu,.v (λgh=>.pointer (some ⟨b6,o7 + k * 1,none⟩)),.lf 0 0,.pu] [] (trivial) ?_ ?_
   ·intro R hT hA hmono;refine Aj (pZ hT hA b3 o4 len ca k (λgh=>.pointer (some ⟨b3,o4 + k * 1,none⟩)) (by first | omega | (simp; omega))) ?_;refine Aj (pZ hT hA b6 o7 len ca' k (λgh=>.pointer (some ⟨b6,o7 + k * 1,none⟩)) (by first | omega | (simp; omega))) ?_
    trivial
   rintro W9 S10 -;refine go0 1 [] [] ?_
   by_cases e:x=y
   ·refine yQ (t:=x != y) (Kk.2 e) ?_;refine go0 7 [] [(25,Vi (IntKind.i64.wrap ((k:Int) + 1)),Vi ((k:Int) + 1))] ?_ (hc:=(Aj (jJ (by omega) (by omega)) (trivial)));exact nV (k + 1) (λX q=>⟨W9,q _ _ _ _ ⟨rfl,by kernel_rfl⟩,(S2.trans S10),by omega,by rw [qZ _ k _ hx,qZ _ k _ hy,hpre,e]⟩) (by omega)
   ·skip;refine oV (t:=x != y) (Ek.2 e) ?_
    refine go0 8 [] [] ?_;refine dV ?_;refine go0 2 [] [] ?_;have hne:¬ l=m:=λq=>e (by rw [q,hy] at hx; exact (Hq hx).symm);refine hQ.to [.bool false] (λH sH=>?_);exact Ej Value.bool (Jj hne).symm
  ·skip;refine yQ (t:=decide ((k:Int) < (len:Int))) (Jj (by omega)) ?_
   refine go0 2 [] [] ?_;refine dV ?_;refine go0 8 [] [] ?_;have heq:l=m:=by
    have h1:l.take k=l:=Nv (by omega);have h2:m.take k=m:=Nv (by omega);rw [<- h1, <- h2,hpre]
   refine hQ.to [.bool true] (λH sH=>?_);exact Ej Value.bool (Mj heq).symm
def tysE (f:ByteArray -> Option Int) (l:List Ex):List Int:=l.map λy=>(tyE f y).1
theorem tyL_all {f:ByteArray -> Option Int}:∀ {l:List Ex},(∀ y∈l,(tyE f y).2=0) -> tyL f l=(tysE f l,0)
 | [],_=>by rw [tyL]; rfl
 | x :: l,h=>by
  have h1:=h x (by simp);have h2:=tyL_all (f:=f) (l:=l) (λy hy=>h y (by simp [hy]));rw [tyL,h2,Cj h1]; simp [tysE]
theorem tyL_err {f:ByteArray -> Option Int}:∀ {l:List Ex} {k:Nat} {y:Ex},l[k]?=some y -> (∀ z∈l.take k,(tyE f z).2=0) -> (tyE f y).2≠0 -> (tyL f l).2=(tyE f y).2
 | [],k,y,h,_,_=>by simp at h
 | x :: l,0,y,h,_,he=>by
  simp only [Cx,Wj] at h;subst h;rw [tyL,Bj he]
 | x :: l,k + 1,y,h,hp,he=>by
  simp only [List.getElem?_cons_succ] at h;have h1:=hp x (by simp);have h2:=tyL_err (f:=f) h (λz hz=>hp z (by simp [hz])) he;rw [tyL,Cj h1,Bj (by rw [h2]; exact he)];exact h2
theorem ret2 {p:Int × Int} {a b:Int} (h:p=(a,b)):Value.tuple #[Vi a,Vi b]=.tuple #[Vi p.1,Vi p.2]:=by rw [h]
theorem rule_none {op:Int} (h1:3 <= op) (h2:op <= 18) (h:wY op=none):op=17\/(op≠17 /\ 11 <= op /\ op <= 14):=by
 unfold wY at h
 repeat' split at h
 all_goals first | (cases h; done) | omega
theorem arity_le (op:Int):arity op <= 3:=by
 unfold arity
 repeat' split
 all_goals omega
theorem tyof_any (f:ByteArray -> Option Int) (fb rb:Nat):∀ (m:Nat) (x:Ex) (sl:Value) (h:Vw),(szE x).1 <= m -> IsArgs h x sl -> WfE x -> TypesAt h fb f -> RulesAt h rb ->
  C0 Tryz.prog 169 #[.agg #[Vi x.op,Vi x.k,Vi x.n,.string x.s,.string x.nm,sl],.map (some fb),.map (some rb)] h (λr _=>r=.tuple #[Vi (tyE f x).1,Vi (tyE f x).2])
 | 0,x,sl,h,hm,_,_,_,_=>by have:=szE_pos x; omega
 | m + 1,x,sl,h,hm,hx,hw,hF,hR=>by
  have IH:=tyof_any f fb rb m;have hse:=nZ x;rw [hse] at hm;simp only at hm;have hwl:=hw.list;have hev:=tyE_eq f x;rcases hw.top with ⟨h1,-⟩ | ⟨h1,-⟩ | ⟨h1,ho2,-,-,-,-,h7⟩
  ·obtain ⟨A,len,c,rfl⟩:=hx.slice;rw [Cj h1] at hev;rw [hev,h1];refine wQ Tryz.func169 (c:=Tryz.f169.body.getD .skip) (N:=112) ?_;intro hbx hbad Q hQ;refine go1 34 [.own,.b 0 0,.b 0 1] [] ?_;intro b1;refine hQ.to [Vi x.k,Vi 0] (λH sH=>?_);exact rfl
  ·obtain ⟨A,len,c,rfl⟩:=hx.slice;rw [Bj (by omega),Cj h1] at hev;obtain ⟨ls,hmp,hgt⟩:=hF;have hgt:=hgt x.nm;rw [h1]
   cases hg:f x.nm with
   | none =>
    rw [hg] at hev hgt;rw [hev];have hl:=mfind_none hgt;refine wQ Tryz.func169 (c:=Tryz.f169.body.getD .skip) (N:=112) ?_;intro hbx hbad Q hQ;refine go1 34 [.own,.b 0 0,.b 0 4] [] ?_;intro b1;refine fV fb (es:=lZ ls) (td:=.string) (key:=.string x.nm) (r:=none) (Vi 0) (.tuple #[Vi 0,.bool false]) (λa w hJ=>MapAt.now (hmp.sees (Sees.refl _)) hJ) (hl) ?_;refine go0 25 [] [] ?_;refine hQ.to [Vi 0,Vi 5] (λH sH=>?_);exact rfl
   | some t =>
    rw [hg] at hev hgt;rw [hev];obtain ⟨i,hl⟩:=mfind_some hgt;refine wQ Tryz.func169 (c:=Tryz.f169.body.getD .skip) (N:=112) ?_;intro hbx hbad Q hQ;refine go1 34 [.own,.b 0 0,.b 0 4] [] ?_;intro b1;refine fV fb (es:=lZ ls) (td:=.string) (key:=.string x.nm) (r:=some (i,Vi t)) (Vi 0) (.tuple #[Vi t,.bool true]) (λa w hJ=>MapAt.now (hmp.sees (Sees.refl _)) hJ) (hl) ?_;refine go0 27 [] [] ?_;refine hQ.to [Vi t,Vi 0] (λH sH=>?_);exact rfl
  ·obtain ⟨vs,hr,hvs⟩:=hx.form;obtain ⟨A,ca,rfl,-,-,-⟩:=hr.form;have hvl:=hvs.len;have hrl:=xK hvl;rw [hrl] at hr ⊢;rw [Bj (by omega),Bj (by omega)] at hev;rw [hev];have hl3:x.args.length <= 3:=by rw [h7]; exact arity_le _
   generalize hL:x.args.length=len at *;obtain ⟨es,hmp,hgt⟩:=hR;have hRR:RulesAt h rb:=⟨es,hmp,hgt⟩;have hgt:=hgt x.op;have htl:(tysE f x.args).length=len:=by rw [tysE,Hj,hL]
   refine wQ Tryz.func169 (c:=Tryz.f169.body.getD .skip) (N:=112) ?_;intro hbx hbad Q hQ;refine iV 3 1 ?_;refine go1 21 [.own,.b 0 0] [] ?_;intro b1;refine yQ (t:=x.op == 1) (Lj.2 (by omega)) ?_;refine go0 6 [] [] ?_;refine yQ (t:=x.op == 2) (Lj.2 (by omega)) ?_;refine go0 18 [.b 0 5] [] ?_;refine eV [0,1,0,1,1,1] [.block 1,.seq [1,1,1,1]] (λ(k:Nat) X=>∃ (W2:Vw) (v:Value),X W2 [(1,.map (some fb)),(2,.map (some rb)),(3,Vp b1),(37,.slice A len ca),(38,Vi (len:Int)),(39,Vi (k:Int)),(10,v)] [.box b1 [Vi x.op,Vi x.k,Vi x.n,.string x.s,.string x.nm,.slice A len ca],.row v 3 1 (wV ((tysE f x.args).take k))] [] /\ Sees h W2 /\ (k <= len) /\ (∀ y∈x.args.take k,(tyE f y).2=0)) (λk=>len - k) (0) (λX q=>⟨h,(Vz),q _ _ _ _ ⟨rfl,by kernel_rfl⟩,Sees.refl _,Kj _,(λy hy=>by simp at hy)⟩) ?_;rintro k a w ⟨W2,v,hJ,S3,hk,hpre⟩; refine jV hJ ?_; clear hJ a w;refine go0 6 [] [] ?_;rcases (by omega:k < len\/len=k) with hlt | hke
   ·obtain ⟨y,hy⟩:∃ y,x.args[k]?=some y:=⟨_,Gj (by omega)⟩;obtain ⟨u,hu⟩:∃ u,vs[k]?=some u:=⟨_,Gj (by omega)⟩;have hyu:=AllArgs.get hvs hy hu;obtain ⟨Au,nu,cu,rfl⟩:=hyu.slice;have hrow:(wK x.args vs)[k]?=some (exRow y (.slice Au nu cu)):=by show (List.zipWith exRow _ _)[k]?=_; rw [Gw,hy,hu]
    have hym:=Dj hy;have hcall:=λH q1 q2 q3=>IH y (.slice Au nu cu) H (by have:=(szL_mem hym).1; omega) q1 (hwl.get hym) q2 q3;have hek:(tysE f x.args)[k]?=some (tyE f y).1:=by rw [tysE,Nj,hy]; rfl
    have htk:=qZ _ k _ hek;have hxk:=qZ _ k _ hy;have htn:((tysE f x.args).take k).length=k:=by rw [Uj,htl]; omega
    refine oV (t:=decide ((k:Int) < (len:Int))) (Mj (by omega)) ?_;refine go0 6 [] [] ?_;obtain ⟨b4,o5,rfl,-,c6⟩:=RS.row hr (hrow);refine xQ (c6.sees S3) ?_;refine go1 26 [.ix b4 o5 len ca k,.f 0 0,.own,.b 0 0,.b 0 0,.cl 169 #[.agg #[Vi y.op,Vi y.k,Vi y.n,.string y.s,.string y.nm,.slice Au nu cu],.map (some fb),.map (some rb)] (.tuple #[Vi ((tyE f y).1),Vi ((tyE f y).2)])] [] ?_ (ho:=(Aj (by first | omega | (simp; omega)) (Aj (λH sH=>hcall _ (hyu.sees (S3.trans sH)) (hF.sees (S3.trans sH)) (hRR.sees (S3.trans sH))) (trivial))));intro b7
    by_cases he:(tyE f y).2=0
    ·refine yQ (t:=((tyE f y).2) != 0) (Kk.2 he) ?_;refine tV 6 [.fix] [] ?_;intro b8 W9 S10;refine goa0 9 [.ap 2 0 (wV ((tysE f x.args).take k)) [[Vi ((tyE f y).1)]]] [(57,Vi (IntKind.i64.wrap ((k:Int) + 1)),Vi ((k:Int) + 1))] ?_ (ho:=(Aj (by rw [Hj,htn]; simp; omega) (trivial))) (hc:=(Aj (jJ (by omega) (by omega)) (trivial)));intro v56 W11 S12;refine cV [(1,.map (some fb)),(2,.map (some rb)),(3,Vp b1),(37,.slice (some ⟨b4,o5,none⟩) len ca),(38,Vi (len:Int)),(10,sL v56),(39,Vi ((k:Int) + 1))] [.box b1 [Vi x.op,Vi x.k,Vi x.n,.string x.s,.string x.nm,.slice (some ⟨b4,o5,none⟩) len ca],.row (sL v56) 3 1 ((wV ((tysE f x.args).take k))++[[Vi ((tyE f y).1)]])] [] ?_;exact nV (k + 1) (λX q=>⟨W11,sL v56,q _ _ _ _ (aZ (by rw [htk]; simp)),(S3.trans (S10.trans S12)),by omega,(λz hz=>by rw [hxk] at hz; rcases Rj.1 hz with q | q; exact hpre z q; rw [Pj.1 q]; exact he)⟩) (by omega)
    ·skip;refine oV (t:=((tyE f y).2) != 0) (Ek.2 he) ?_
     refine go0 11 [] [] ?_;refine dV ?_;refine go0 2 [] [] ?_;have htE:=tyL_err hy hpre he;refine hQ.to [Vi 0,Vi ((tyE f y).2)] (λH sH=>?_);rw [Bj (by rw [htE]; exact he),htE]; rfl
   ·skip;have hta:x.args.take k=x.args:=Nv (by omega)
    have htb:(tysE f x.args).take k=(tysE f x.args):=Nv (by omega);rw [hta] at hpre;have htE:=tyL_all hpre;rw [htb];rw [htE] at hev;generalize (tysE f x.args)=tys at *;refine zQ 1 (v:=v) (e:=3) (kk:=1) (l:=wV tys) ?_; intro A2 c2 hE_v hc_v hm_v;rw [show (wV tys).length=k from by first | omega | (simp; done) | (simp; omega)] at hE_v hc_v;rw [hE_v];refine aV 1 (v:=.slice A2 k c2) (e:=3) (kk:=1) (l:=wV tys) ?_; intro W13 S14 fr;refine yQ (t:=decide ((k:Int) < (len:Int))) (Jj (by omega)) ?_;refine go0 2 [] [] ?_;refine dV ?_;refine go0 7 [.b 0 0] [] ?_
    cases hru:wY x.op with
    | some ru =>
     obtain ⟨ta,t⟩:=ru;rw [hru] at hgt;obtain ⟨Ar,nr,cr,hge,hrr⟩:=hgt;obtain ⟨i,hl⟩:=ifind_some hge;have hq:=λH q1 q2=>equal_any tys ta (.slice A2 k c2) (.slice Ar nr cr) H q1 q2;refine fV rb (es:=vV es) (td:=.int .i64) (key:=Vi x.op) (r:=some (i,.agg #[.slice Ar nr cr,Vi t])) (.agg #[Vz,Vi 0]) (.tuple #[.agg #[.slice Ar nr cr,Vi t],.bool true]) (λa w hJ=>MapAt.now (hmp.sees (S3.trans S14)) hJ) (hl) ?_;refine go1 22 [.own,.b 0 0,.b 0 0,.cl 23 #[.slice A2 k c2,.slice Ar nr cr] (.bool (decide (tys=ta)))] [] ?_ (ho:=(Aj (λH sH=>hq _ (fr.sees sH) (hrr.sees (S3.trans (S14.trans sH)))) (trivial)));intro b15
     by_cases e:tys=ta
     ·skip;refine oV (t:=decide (tys=ta)) (Mj e) ?_
      refine go0 11 [.b 0 1] [] ?_;refine hQ.to [Vi t,Vi 0] (λH sH=>?_);exact ret2 (by rw [htE,Cj rfl]; unfold iX; rw [hru]; simp [e])
     ·skip;refine yQ (t:=decide (tys=ta)) (Jj e) ?_
      refine go0 16 [] [] ?_;refine hQ.to [Vi 0,Vi 9] (λH sH=>?_);exact ret2 (by rw [htE,Cj rfl]; unfold iX; rw [hru]; simp [e])
    | none =>
     rw [hru] at hgt;have hl:=ifind_none hgt;have htk:tys.length=k:=by omega
     rcases rule_none h1 ho2 hru with h17 | ⟨h17,ho3,ho4⟩
     ·have hk3:k=3:=by rw [<- hke,h7,h17]; rfl
      obtain ⟨p,q,r,rfl⟩:∃ p q r,tys=[p,q,r]:=by
       match tys,htk.trans hk3 with
       | [p,q,r],_=>exact ⟨p,q,r,rfl⟩
      have r0:(wV [p,q,r])[0]?=some [Vi p]:=rfl;have r1:(wV [p,q,r])[1]?=some [Vi q]:=rfl;have r2:(wV [p,q,r])[2]?=some [Vi r]:=rfl
      by_cases hp:p=2
      ·skip
       by_cases hq:q=r
       ·skip;refine fV rb (es:=vV es) (td:=.int .i64) (key:=Vi x.op) (r:=none) (.agg #[Vz,Vi 0]) (.tuple #[.agg #[Vz,Vi 0],.bool false]) (λa w hJ=>MapAt.now (hmp.sees (S3.trans S14)) hJ) (hl) ?_
        refine go1 31 [.own,.b 0 0] [] ?_;intro b16;obtain ⟨b17,o18,rfl,-,c19⟩:=RS.row fr (r0);refine xQ (c19.sees (Sees.refl _)) ?_;have c20:=RS.cell fr (r1);refine xQ (c20.sees (Sees.refl _)) ?_;have c21:=RS.cell fr (r2);refine xQ (c21.sees (Sees.refl _)) ?_;refine lV 19 0 [.pu,.ld 1 0,.v (λgh=>.bool true),.pu,.pu,.v (λgh=>.pointer (some ⟨b17,o18 + 0 * 1,none⟩)),.lf 2 0,.v (λgh=>.bool true),.pu,.pu,.pu,.v (λgh=>.pointer (some ⟨b17,o18 + 1 * 1,none⟩)),.lf 1 0,.pu,.v (λgh=>.pointer (some ⟨b17,o18 + 2 * 1,none⟩)),.lf 0 0,.v (λgh=>.bool true),.pu,.pu] [] (trivial) ?_ ?_
        ·intro R hT hA hmono;refine Aj (oZ hT hA (λgh=>.bool true) (λgh=>.bool (x.op == 17)) (λgh=>Ej Value.bool (Zj.2 h17))) ?_;refine Aj (pZ hT hA b17 o18 k c2 0 (λgh=>.pointer (some ⟨b17,o18 + 0 * 1,none⟩)) (by first | omega | (simp; omega))) ?_;refine Aj (oZ hT hA (λgh=>.bool true) (λgh=>.bool (p == 2)) (λgh=>Ej Value.bool (Zj.2 hp))) ?_;refine Aj (pZ hT hA b17 o18 k c2 1 (λgh=>.pointer (some ⟨b17,o18 + 1 * 1,none⟩)) (by first | omega | (simp; omega))) ?_;refine Aj (pZ hT hA b17 o18 k c2 2 (λgh=>.pointer (some ⟨b17,o18 + 2 * 1,none⟩)) (by first | omega | (simp; omega))) ?_;refine Aj (oZ hT hA (λgh=>.bool true) (λgh=>.bool (q == r)) (λgh=>Ej Value.bool (Zj.2 hq))) ?_
         trivial
        rintro W22 S23 -;refine go0 5 [] [] ?_;have c24:=RS.cell fr (r1);refine xQ (c24.sees S23) ?_;refine go0 9 [.ix b17 o18 k c2 1,.f 0 0] [] ?_ (ho:=(Aj (by first | omega | (simp; omega)) (trivial)));refine hQ.to [Vi q,Vi 0] (λH sH=>?_);exact ret2 (by rw [htE,Cj rfl]; unfold iX; rw [hru]; simp [h17,hp,hq])
       ·skip;refine fV rb (es:=vV es) (td:=.int .i64) (key:=Vi x.op) (r:=none) (.agg #[Vz,Vi 0]) (.tuple #[.agg #[Vz,Vi 0],.bool false]) (λa w hJ=>MapAt.now (hmp.sees (S3.trans S14)) hJ) (hl) ?_
        refine go1 31 [.own,.b 0 0] [] ?_;intro b25;obtain ⟨b26,o27,rfl,-,c28⟩:=RS.row fr (r0);refine xQ (c28.sees (Sees.refl _)) ?_;have c29:=RS.cell fr (r1);refine xQ (c29.sees (Sees.refl _)) ?_;have c30:=RS.cell fr (r2);refine xQ (c30.sees (Sees.refl _)) ?_;refine lV 19 0 [.pu,.ld 1 0,.v (λgh=>.bool true),.pu,.pu,.v (λgh=>.pointer (some ⟨b26,o27 + 0 * 1,none⟩)),.lf 2 0,.v (λgh=>.bool true),.pu,.pu,.pu,.v (λgh=>.pointer (some ⟨b26,o27 + 1 * 1,none⟩)),.lf 1 0,.pu,.v (λgh=>.pointer (some ⟨b26,o27 + 2 * 1,none⟩)),.lf 0 0,.v (λgh=>.bool false),.pu,.pu] [] (trivial) ?_ ?_
        ·intro R hT hA hmono;refine Aj (oZ hT hA (λgh=>.bool true) (λgh=>.bool (x.op == 17)) (λgh=>Ej Value.bool (Zj.2 h17))) ?_;refine Aj (pZ hT hA b26 o27 k c2 0 (λgh=>.pointer (some ⟨b26,o27 + 0 * 1,none⟩)) (by first | omega | (simp; omega))) ?_;refine Aj (oZ hT hA (λgh=>.bool true) (λgh=>.bool (p == 2)) (λgh=>Ej Value.bool (Zj.2 hp))) ?_;refine Aj (pZ hT hA b26 o27 k c2 1 (λgh=>.pointer (some ⟨b26,o27 + 1 * 1,none⟩)) (by first | omega | (simp; omega))) ?_;refine Aj (pZ hT hA b26 o27 k c2 2 (λgh=>.pointer (some ⟨b26,o27 + 2 * 1,none⟩)) (by first | omega | (simp; omega))) ?_;refine Aj (oZ hT hA (λgh=>.bool false) (λgh=>.bool (q == r)) (λgh=>Ej Value.bool (Lj.2 hq))) ?_
         trivial
        rintro W31 S32 -;refine go0 3 [] [] ?_;refine lV 13 0 [.pu,.ld 1 0,.v (λgh=>.bool false),.pu,.ps,.ps,.ps,.ps,.ps,.ps,.ps,.pu,.pu] [] (trivial) ?_ ?_
        ·intro R hT hA hmono;refine Aj (oZ hT hA (λgh=>.bool false) (λgh=>.bool (x.op != 17)) (λgh=>Ej Value.bool (Kk.2 h17))) ?_
         trivial
        rintro W33 S34 -;refine go0 12 [] [] ?_;refine hQ.to [Vi 0,Vi 9] (λH sH=>?_);exact ret2 (by rw [htE,Cj rfl]; unfold iX; rw [hru]; simp [h17,hp,hq])
      ·skip;refine fV rb (es:=vV es) (td:=.int .i64) (key:=Vi x.op) (r:=none) (.agg #[Vz,Vi 0]) (.tuple #[.agg #[Vz,Vi 0],.bool false]) (λa w hJ=>MapAt.now (hmp.sees (S3.trans S14)) hJ) (hl) ?_
       refine go1 31 [.own,.b 0 0] [] ?_;intro b35;obtain ⟨b36,o37,rfl,-,c38⟩:=RS.row fr (r0);refine xQ (c38.sees (Sees.refl _)) ?_;have c39:=RS.cell fr (r1);refine xQ (c39.sees (Sees.refl _)) ?_;have c40:=RS.cell fr (r2);refine xQ (c40.sees (Sees.refl _)) ?_;refine lV 19 0 [.pu,.ld 1 0,.v (λgh=>.bool true),.pu,.pu,.v (λgh=>.pointer (some ⟨b36,o37 + 0 * 1,none⟩)),.lf 2 0,.v (λgh=>.bool false),.pu,.pu,.ps,.ps,.ps,.ps,.ps,.ps,.ps,.pu,.pu] [] (trivial) ?_ ?_
       ·intro R hT hA hmono;refine Aj (oZ hT hA (λgh=>.bool true) (λgh=>.bool (x.op == 17)) (λgh=>Ej Value.bool (Zj.2 h17))) ?_;refine Aj (pZ hT hA b36 o37 k c2 0 (λgh=>.pointer (some ⟨b36,o37 + 0 * 1,none⟩)) (by first | omega | (simp; omega))) ?_;refine Aj (oZ hT hA (λgh=>.bool false) (λgh=>.bool (p == 2)) (λgh=>Ej Value.bool (Lj.2 hp))) ?_
        trivial
       rintro W41 S42 -;refine go0 3 [] [] ?_;refine lV 13 0 [.pu,.ld 1 0,.v (λgh=>.bool false),.pu,.ps,.ps,.ps,.ps,.ps,.ps,.ps,.pu,.pu] [] (trivial) ?_ ?_
       ·intro R hT hA hmono;refine Aj (oZ hT hA (λgh=>.bool false) (λgh=>.bool (x.op != 17)) (λgh=>Ej Value.bool (Kk.2 h17))) ?_
        trivial
       rintro W43 S44 -;refine go0 12 [] [] ?_;refine hQ.to [Vi 0,Vi 9] (λH sH=>?_);exact ret2 (by rw [htE,Cj rfl]; unfold iX; rw [hru]; simp [h17,hp])
     ·skip;have hk2:k=2:=by
       rw [<- hke,h7]; unfold arity;rw [Bj (by omega),Bj (by omega),Bj h17]
      obtain ⟨p,q,rfl⟩:∃ p q,tys=[p,q]:=by
       match tys,htk.trans hk2 with
       | [p,q],_=>exact ⟨p,q,rfl⟩
      have r0:(wV [p,q])[0]?=some [Vi p]:=rfl;have r1:(wV [p,q])[1]?=some [Vi q]:=rfl
      by_cases hp:p=q
      ·skip;refine fV rb (es:=vV es) (td:=.int .i64) (key:=Vi x.op) (r:=none) (.agg #[Vz,Vi 0]) (.tuple #[.agg #[Vz,Vi 0],.bool false]) (λa w hJ=>MapAt.now (hmp.sees (S3.trans S14)) hJ) (hl) ?_
       refine go1 31 [.own,.b 0 0] [] ?_;intro b45;refine lV 19 0 [.pu,.ld 1 0,.v (λgh=>.bool false),.pu,.ps,.ps,.ps,.ps,.pu,.pu,.ps,.ps,.ps,.ps,.ps,.ps,.ps,.pu,.pu] [] (trivial) ?_ ?_
       ·intro R hT hA hmono;refine Aj (oZ hT hA (λgh=>.bool false) (λgh=>.bool (x.op == 17)) (λgh=>Ej Value.bool (Lj.2 h17))) ?_
        trivial
       rintro W46 S47 -;refine go0 3 [] [] ?_;obtain ⟨b48,o49,rfl,-,c50⟩:=RS.row fr (r0);refine xQ (c50.sees S47) ?_;have c51:=RS.cell fr (r1);refine xQ (c51.sees S47) ?_;refine lV 13 0 [.pu,.ld 1 0,.v (λgh=>.bool true),.pu,.pu,.v (λgh=>.pointer (some ⟨b48,o49 + 0 * 1,none⟩)),.lf 1 0,.pu,.v (λgh=>.pointer (some ⟨b48,o49 + 1 * 1,none⟩)),.lf 0 0,.v (λgh=>.bool true),.pu,.pu] [] (trivial) ?_ ?_
       ·intro R hT hA hmono;refine Aj (oZ hT hA (λgh=>.bool true) (λgh=>.bool (x.op != 17)) (λgh=>Ej Value.bool (Ek.2 h17))) ?_;refine Aj (pZ hT hA b48 o49 k c2 0 (λgh=>.pointer (some ⟨b48,o49 + 0 * 1,none⟩)) (by first | omega | (simp; omega))) ?_;refine Aj (pZ hT hA b48 o49 k c2 1 (λgh=>.pointer (some ⟨b48,o49 + 1 * 1,none⟩)) (by first | omega | (simp; omega))) ?_;refine Aj (oZ hT hA (λgh=>.bool true) (λgh=>.bool (p == q)) (λgh=>Ej Value.bool (Zj.2 hp))) ?_
        trivial
       rintro W52 S53 -;refine go0 11 [] [] ?_;refine hQ.to [Vi 2,Vi 0] (λH sH=>?_);exact ret2 (by rw [htE,Cj rfl]; unfold iX; rw [hru]; simp [h17,hp])
      ·skip;refine fV rb (es:=vV es) (td:=.int .i64) (key:=Vi x.op) (r:=none) (.agg #[Vz,Vi 0]) (.tuple #[.agg #[Vz,Vi 0],.bool false]) (λa w hJ=>MapAt.now (hmp.sees (S3.trans S14)) hJ) (hl) ?_
       refine go1 31 [.own,.b 0 0] [] ?_;intro b54;refine lV 19 0 [.pu,.ld 1 0,.v (λgh=>.bool false),.pu,.ps,.ps,.ps,.ps,.pu,.pu,.ps,.ps,.ps,.ps,.ps,.ps,.ps,.pu,.pu] [] (trivial) ?_ ?_
       ·intro R hT hA hmono;refine Aj (oZ hT hA (λgh=>.bool false) (λgh=>.bool (x.op == 17)) (λgh=>Ej Value.bool (Lj.2 h17))) ?_
        trivial
       rintro W55 S56 -;refine go0 3 [] [] ?_;obtain ⟨b57,o58,rfl,-,c59⟩:=RS.row fr (r0);refine xQ (c59.sees S56) ?_;have c60:=RS.cell fr (r1);refine xQ (c60.sees S56) ?_;refine lV 13 0 [.pu,.ld 1 0,.v (λgh=>.bool true),.pu,.pu,.v (λgh=>.pointer (some ⟨b57,o58 + 0 * 1,none⟩)),.lf 1 0,.pu,.v (λgh=>.pointer (some ⟨b57,o58 + 1 * 1,none⟩)),.lf 0 0,.v (λgh=>.bool false),.pu,.pu] [] (trivial) ?_ ?_
       ·intro R hT hA hmono;refine Aj (oZ hT hA (λgh=>.bool true) (λgh=>.bool (x.op != 17)) (λgh=>Ej Value.bool (Ek.2 h17))) ?_;refine Aj (pZ hT hA b57 o58 k c2 0 (λgh=>.pointer (some ⟨b57,o58 + 0 * 1,none⟩)) (by first | omega | (simp; omega))) ?_;refine Aj (pZ hT hA b57 o58 k c2 1 (λgh=>.pointer (some ⟨b57,o58 + 1 * 1,none⟩)) (by first | omega | (simp; omega))) ?_;refine Aj (oZ hT hA (λgh=>.bool false) (λgh=>.bool (p == q)) (λgh=>Ej Value.bool (Lj.2 hp))) ?_
        trivial
       rintro W61 S62 -;refine go0 12 [] [] ?_;refine hQ.to [Vi 0,Vi 9] (λH sH=>?_);exact ret2 (by rw [htE,Cj rfl]; unfold iX; rw [hru]; simp [h17,hp])
def mpB:Value -> Nat | .map (some b)=>b | _=>0
theorem types_u (fs:List Fd) (v:Value) (h:Vw) (hf:IsFds h v fs):C0 Tryz.prog 170 #[v] h (λr h'=>∃ u,r=.map (some (mpB u)) /\ TypesAt h' (mpB u) (tyF fs)):=by
 intro a b c d;refine (types_any fs v h hf a b c d).mono ?_;rintro e w' ⟨v,Bo,rfl,h1,h2,h3,b,rfl,h4⟩;exact ⟨_,Bo,rfl,h1,h2,h3,.map (some b),rfl,h4⟩
theorem rules_u (h:Vw):C0 Tryz.prog 171 #[] h (λr h'=>∃ u,r=.map (some (mpB u)) /\ RulesAt h' (mpB u)):=by
 intro a b c d;refine (rules_any h a b c d).mono ?_;rintro e w' ⟨v,Bo,rfl,h1,h2,h3,b,rfl,h4⟩;exact ⟨_,Bo,rfl,h1,h2,h3,.map (some b),rfl,h4⟩
def ofE (fs:List Fd) (x:Ex):Int × Int:=if chkE x=0 then tyE (tyF fs) x else (0,chkE x)
theorem tyOf_any (fs:List Fd) (x:Ex) (v fv:Value) (h:Vw) (hx:IsArgs h x v) (hw:WfE x) (hb:(szE x).1 < 1000000) (hf:IsFds h fv fs) :
  C0 Tryz.prog 151 #[.agg #[Vi x.op,Vi x.k,Vi x.n,.string x.s,.string x.nm,v],fv] h (λr _=>r=.tuple #[Vi (ofE fs x).1,Vi (ofE fs x).2]):=by
 obtain ⟨A,n,c,rfl⟩:=hx.slice;obtain ⟨Af,nf,cf,rfl⟩:∃ A n c,fv=.slice A n c:=by
  obtain ⟨vs,hr,-⟩:=hf;obtain ⟨A,c,e,-⟩:=hr.form;exact ⟨_,_,_,e⟩
 have hck:=λH q=>check_any x (.slice A n c) H q hw hb;have hO:=λfb rb H q1 q2 q3=>tyof_any (tyF fs) fb rb _ x (.slice A n c) H (Ij _) q1 hw q2 q3;have hTy:=λH q=>types_u fs (.slice Af nf cf) H q;unfold ofE;generalize chkE x=e at *;generalize tyE (tyF fs) x=ty at *;refine wQ Tryz.func151 (c:=Tryz.f151.body.getD .skip) (N:=19) ?_;intro hbx hbad Q hQ;refine go1 21 [.own,.b 0 0,.cl 126 #[.agg #[Vi x.op,Vi x.k,Vi x.n,.string x.s,.string x.nm,.slice A n c]] (Vi e)] [] ?_ (ho:=(Aj (λH sH=>hck _ (hx.sees sH)) (trivial)));intro b1
 by_cases he:e=0
 ·skip;refine yQ (t:=e != 0) (Kk.2 he) ?_
  refine go0 3 [] [] ?_;refine lV 9 0 [.ld 0 0,.pu,.f (λgh=>.map (some (mpB (gh 2)))) (λgh hh=>TypesAt hh (mpB (gh 2)) (tyF fs)),.f (λgh=>.map (some (mpB (gh 3)))) (λgh hh=>RulesAt hh (mpB (gh 3))),.v (λgh=>.tuple #[Vi ty.1,Vi ty.2]),.pu,.pu,.pu,.pu] [(2,false),(3,false)] (Aj (λ_ _ _ s c=>c.sees s) (Aj (λ_ _ _ s c=>c.sees s) (trivial))) ?_ ?_
  ·intro R hT hA hmono;refine Aj (gY hT hA hmono ⟨λ_ _=>by kernel_rfl,λ_ _=>by kernel_rfl,λ_ _=>by kernel_rfl⟩ 14 (λu=>.map (some (mpB u))) [1] 2 170 (λgh=>#[.slice Af nf cf]) (λgh H sH fH lent=>C0.facts (R:=R) (x:=gh) (i:=2) (n:=0) (F:=(λu=>.map (some (mpB u)))) (G:=λu hh=>TypesAt hh (mpB u) (tyF fs)) (f:=λgh hh=>TypesAt hh (mpB (gh 2)) (tyF fs)) (hTy _ (hf.sees sH)) (by kernel_rfl) (by kernel_rfl) (λ_ _ r=>r))) ?_;refine Aj (gY hT hA hmono ⟨λ_ _=>by kernel_rfl,λ_ _=>by kernel_rfl,λ_ _=>by kernel_rfl⟩ 15 (λu=>.map (some (mpB u))) [2] 3 171 (λgh=>#[]) (λgh H sH fH lent=>C0.facts (R:=R) (x:=gh) (i:=3) (n:=1) (F:=(λu=>.map (some (mpB u)))) (G:=λu hh=>RulesAt hh (mpB u)) (f:=λgh hh=>RulesAt hh (mpB (gh 3))) (rules_u _) (by kernel_rfl) (by kernel_rfl) (λ_ _ r=>r))) ?_;refine Aj (t_v hT hA hmono (k:=169) (args:=(λgh=>#[.agg #[Vi x.op,Vi x.k,Vi x.n,.string x.s,.string x.nm,.slice A n c],.map (some (mpB (gh 2))),.map (some (mpB (gh 3)))])) (f:=λgh=>.tuple #[Vi ty.1,Vi ty.2]) (λgh H sH fH lent=>hO _ _ _ (hx.sees sH) (fH 0 _ rfl (by kernel_rfl)) (fH 1 _ rfl (by kernel_rfl)))) ?_
   trivial
  rintro u14 u15 W2 S3 ⟨f14,f15,-⟩;replace f14:TypesAt W2 (mpB u14) (tyF fs):=f14;replace f15:RulesAt W2 (mpB u15):=f15;refine go0 2 [] [] ?_;refine hQ.to [Vi ty.1,Vi ty.2] (λH sH=>?_);rw [Cj he]; rfl
 ·skip;refine oV (t:=e != 0) (Ek.2 he) ?_
  refine go0 9 [] [] ?_;refine hQ.to [Vi 0,Vi e] (λH sH=>?_);rw [Bj he]; rfl
def fitsE (fs:List Fd) (x:Ex) (want:Int):Int:=if (ofE fs x).2=0 then (if (ofE fs x).1=want then 0 else 9) else (ofE fs x).2
theorem fits_any (fs:List Fd) (x:Ex) (v fv:Value) (want:Int) (h:Vw) (hx:IsArgs h x v) (hw:WfE x) (hb:(szE x).1 < 1000000) (hf:IsFds h fv fs) :
  C0 Tryz.prog 122 #[.agg #[Vi x.op,Vi x.k,Vi x.n,.string x.s,.string x.nm,v],fv,Vi want] h (λr _=>r=Vi (fitsE fs x want)):=by
 obtain ⟨A,n,c,rfl⟩:=hx.slice;obtain ⟨Af,nf,cf,rfl⟩:∃ A n c,fv=.slice A n c:=by
  obtain ⟨vs,hr,-⟩:=hf;obtain ⟨A,c,e,-⟩:=hr.form;exact ⟨_,_,_,e⟩
 have hO:=λH q1 q2=>tyOf_any fs x (.slice A n c) (.slice Af nf cf) H q1 hw hb q2;unfold fitsE;generalize ofE fs x=ty at *;refine wQ Tryz.func122 (c:=Tryz.f122.body.getD .skip) (N:=21) ?_;intro hbx hbad Q hQ;refine go1 25 [.own,.b 0 0,.cl 151 #[.agg #[Vi x.op,Vi x.k,Vi x.n,.string x.s,.string x.nm,.slice A n c],.slice Af nf cf] (.tuple #[Vi ty.1,Vi ty.2])] [] ?_ (ho:=(Aj (λH sH=>hO _ (hx.sees sH) (hf.sees sH)) (trivial)));intro b1
 by_cases he:ty.2=0
 ·refine yQ (t:=ty.2 != 0) (Kk.2 he) ?_;refine go0 10 [] [] ?_
  by_cases hw:ty.1=want
  ·refine yQ (t:=ty.1 != want) (Kk.2 hw) ?_;refine go0 8 [] [] ?_;refine hQ.to [Vi 0] (λH sH=>?_);rw [Cj he,Cj hw]; rfl
  ·skip;refine oV (t:=ty.1 != want) (Ek.2 hw) ?_
   refine go0 7 [] [] ?_;refine hQ.to [Vi 9] (λH sH=>?_);rw [Cj he,Bj hw]; rfl
 ·skip;refine oV (t:=ty.2 != 0) (Ek.2 he) ?_
  refine go0 8 [] [] ?_;refine hQ.to [Vi ty.2] (λH sH=>?_);rw [Bj he]; rfl
set_option linter.unusedVariables false
structure OkF (fs:List Fd) (f:Fd):Prop where
 name:qJ f.name.data.toList
 k1:1 <= f.kind
 k3:f.kind <= 3
 t1:1 <= f.ty
 t3:f.ty <= 3
 inp:f.kind=1 -> f.src=zE
 wf:f.kind≠1 -> WfE f.src /\ (szE f.src).1 <= 60 /\ chkE f.src=0
 form:f.kind=2 -> tyE (tyF fs) f.src=(f.ty,0)
 look:f.kind=3 -> ∃ t,1 <= t /\ t <= 3 /\ tyE (tyF fs) f.src=(t,0)
structure OkFs (fs:List Fd):Prop where
 each:∀ f∈fs,OkF fs f
 nodup:(fs.map (·.name)).Nodup
 few:fs.length <= 14
theorem args_zero {h:Vw} {x:Ex} {v:Value} (hx:x.args=[]) (ha:IsArgs h x v):∃ A c,v=.slice A 0 c:=by
 obtain ⟨vs,hr,-⟩:=ha.form;obtain ⟨A,c,e,-⟩:=hr.form;rw [hx] at e;exact ⟨A,c,e⟩
theorem none_any (A:Option Addr) (c:Nat) (h:Vw):C0 Tryz.prog 165 #[.agg #[Vi 0,Vi 0,Vi 0,.string ⟨#[]⟩,.string ⟨#[]⟩,.slice A 0 c]] h (λr _=>r=.bool true):=by
 refine wQ Tryz.func165 (c:=Tryz.f165.body.getD .skip) (N:=23) ?_;intro hbx hbad Q hQ;refine go1 32 [.own,.b 0 0,.b 0 4,.b 0 1,.b 0 5] [] ?_;intro b1;refine hQ.to [.bool true] (λH sH=>?_);exact rfl
theorem right_any (fs:List Fd) (f:Fd) (v:Value) (h:Vw) (hf:OkF fs f) (ha:IsArgs h f.src v):C0 Tryz.prog 136 #[.agg #[Vt f.name,Vi f.kind,Vi f.ty,Vi f.src.op,Vi f.src.k,Vi f.src.n,.string f.src.s,.string f.src.nm,v]] h (λr _=>r=Vi 0):=by
 have hn:=λH=>c_name f.name H hf.name;have k1:=hf.k1;have k3:=hf.k3;have t1:=hf.t1;have t3:=hf.t3
 by_cases g:f.kind=1
 ·obtain ⟨A,c,rfl⟩:=args_zero (by rw [hf.inp g]; rfl) ha;have e1:f.src.op=0:=by rw [hf.inp g]; rfl
  have e2:f.src.k=0:=by rw [hf.inp g]; rfl
  have e3:f.src.n=0:=by rw [hf.inp g]; rfl
  have e4:f.src.s=⟨#[]⟩:=by rw [hf.inp g]; rfl
  have e5:f.src.nm=⟨#[]⟩:=by rw [hf.inp g]; rfl
  rw [e1,e2,e3,e4,e5,g];refine wQ Tryz.func136 (c:=Tryz.f136.body.getD .skip) (N:=38) ?_;intro hbx hbad Q hQ;refine go1 78 [.own,.b 0 0,.cl 118 #[Vt f.name] (Vi 0),.b 0 1,.b 0 1,.b 0 2,.b 0 2,.b 0 1,.b 0 3,.cl 165 #[.agg #[Vi 0,Vi 0,Vi 0,Ve,Ve,.slice A 0 c]] (.bool true)] [(21,.bool (decide (f.ty < 1)),.bool false),(26,.bool (decide (f.ty > 3)),.bool false)] ?_ (ho:=(Aj (λH sH=>hn _) (Aj (λH sH=>none_any A c _) (trivial)))) (hc:=(Aj (Ej Value.bool (Jj (by omega))) (Aj (Ej Value.bool (Jj (by omega))) (trivial))));intro b1;refine hQ.to [Vi 0] (λH sH=>?_);exact rfl
 ·obtain ⟨w1,w2,w3⟩:=hf.wf g;obtain ⟨A,n,c,rfl⟩:=ha.slice;have hc:=λH q=>check_any f.src (.slice A n c) H q w1 (by omega);rw [w3] at hc;refine wQ Tryz.func136 (c:=Tryz.f136.body.getD .skip) (N:=38) ?_;intro hbx hbad Q hQ;refine go1 70 [.own,.b 0 0,.cl 118 #[Vt f.name] (Vi 0),.b 0 1,.b 0 1,.b 0 2,.b 0 2,.b 0 1,.b 0 3,.cl 126 #[.agg #[Vi f.src.op,Vi f.src.k,Vi f.src.n,.string f.src.s,.string f.src.nm,.slice A n c]] (Vi 0)] [(12,.bool (decide (f.kind < 1)),.bool false),(16,.bool (decide (f.kind > 3)),.bool false),(21,.bool (decide (f.ty < 1)),.bool false),(26,.bool (decide (f.ty > 3)),.bool false),(30,.bool (f.kind == 1),.bool false)] ?_ (ho:=(Aj (λH sH=>hn _) (Aj (λH sH=>hc _ (ha.sees sH)) (trivial)))) (hc:=(Aj (Ej Value.bool (Jj (by omega))) (Aj (Ej Value.bool (Jj (by omega))) (Aj (Ej Value.bool (Jj (by omega))) (Aj (Ej Value.bool (Jj (by omega))) (Aj (Ej Value.bool (Lj.2 g)) (trivial)))))));intro b1;refine hQ.to [Vi 0] (λH sH=>?_);exact rfl
theorem typed_any (fs:List Fd) (f:Fd) (v fv:Value) (h:Vw) (hf:OkF fs f) (ha:IsArgs h f.src v) (hfs:IsFds h fv fs):C0 Tryz.prog 137 #[.agg #[Vt f.name,Vi f.kind,Vi f.ty,Vi f.src.op,Vi f.src.k,Vi f.src.n,.string f.src.s,.string f.src.nm,v],fv] h (λr _=>r=Vi 0):=by
 obtain ⟨A,n,c,rfl⟩:=ha.slice;obtain ⟨vs,Af,cf,rfl,-⟩:=gQ hfs;obtain g | g | g:f.kind=1\/f.kind=2\/f.kind=3:=by have:=hf.k1; have:=hf.k3; omega
 ·rw [g];refine wQ Tryz.func137 (c:=Tryz.f137.body.getD .skip) (N:=27) ?_;intro hbx hbad Q hQ;refine go1 37 [.own,.b 0 1] [] ?_;intro b1;refine hQ.to [Vi 0] (λH sH=>?_);exact rfl
 ·obtain ⟨w1,w2,w3⟩:=hf.wf (by omega);have hc:=λH q1 q2=>fits_any fs f.src (.slice A n c) (.slice Af fs.length cf) f.ty H q1 w1 (by omega) q2;have e:fitsE fs f.src f.ty=0:=by unfold fitsE ofE; rw [Cj w3,hf.form g]; simp
  rw [e] at hc;rw [g];refine wQ Tryz.func137 (c:=Tryz.f137.body.getD .skip) (N:=27) ?_;intro hbx hbad Q hQ;refine go1 35 [.own,.b 0 1,.b 0 3,.b 0 2,.cl 122 #[.agg #[Vi f.src.op,Vi f.src.k,Vi f.src.n,.string f.src.s,.string f.src.nm,.slice A n c],.slice Af fs.length cf,Vi f.ty] (Vi 0)] [] ?_ (ho:=(Aj (λH sH=>hc _ (ha.sees sH) (hfs.sees sH)) (trivial)));intro b1;refine hQ.to [Vi 0] (λH sH=>?_);exact rfl
 ·obtain ⟨w1,w2,w3⟩:=hf.wf (by omega);obtain ⟨t,-,-,ht⟩:=hf.look g;have hc:=λH q1 q2=>tyOf_any fs f.src (.slice A n c) (.slice Af fs.length cf) H q1 w1 (by omega) q2;have e:ofE fs f.src=(t,0):=by unfold ofE; rw [Cj w3,ht]
  rw [e] at hc;rw [g];refine wQ Tryz.func137 (c:=Tryz.f137.body.getD .skip) (N:=27) ?_;intro hbx hbad Q hQ;refine go1 50 [.own,.b 0 1,.b 0 3,.cl 151 #[.agg #[Vi f.src.op,Vi f.src.k,Vi f.src.n,.string f.src.s,.string f.src.nm,.slice A n c],.slice Af fs.length cf] (.tuple #[Vi t,Vi 0])] [] ?_ (ho:=(Aj (λH sH=>hc _ (ha.sees sH) (hfs.sees sH)) (trivial)));intro b1;refine hQ.to [Vi 0] (λH sH=>?_);exact rfl
theorem AllArgs.take' {h:Vw}:∀ (i:Nat) {l:List Ex} {vs:List Value},AllArgs h l vs -> AllArgs h (l.take i) (vs.take i)
 | 0,l,vs,_=>by rw [List.take_zero,List.take_zero]; unfold AllArgs; rfl
 | i + 1,[],vs,k=>by unfold AllArgs at k; subst k; rw [List.take_nil,List.take_nil]; unfold AllArgs; rfl
 | i + 1,x :: l,vs,k=>by
  unfold AllArgs at k;obtain ⟨u,us',rfl,q1,q2⟩:=k;rw [List.take_succ_cons,List.take_succ_cons];unfold AllArgs;exact ⟨_,_,rfl,q1,AllArgs.take' i q2⟩
theorem fds_take {h:Vw} {A:Option Addr} {cap:Nat} {fs:List Fd} (hf:IsFds h (.slice A fs.length cap) fs) (k:Nat) (hk:k <= fs.length):IsFds h (.slice A k cap) (fs.take k):=by
 obtain ⟨vs,hr,hs⟩:=hf;have hl:=hs.len;refine ⟨vs.take k,?_,?_⟩
 ·have:=hr.take k (by rw [fQ hl]; omega)
  rwa [show (dQ fs vs).take k=dQ (fs.take k) (vs.take k) from List.take_zipWith] at this
 ·unfold AllSrc;rw [List.map_take];exact AllArgs.take' k hs
theorem check_fields (fs:List Fd) (fv:Value) (h:Vw) (hf:OkFs fs) (hfs:IsFds h fv fs):C0 Tryz.prog 112 #[fv] h (λr _=>r=Vi 0):=by
 obtain ⟨vs,A,c,rfl,hc1,hc2,hr,hsrc,hvl,hsl⟩:=gQ hfs;have few:=hf.few;refine wQ Tryz.func112 (c:=Tryz.f112.body.getD .skip) (N:=51) ?_;intro hbx hbad Q hQ;refine go0 13 [] [] ?_;refine yQ (t:=decide ((fs.length:Int) > 14)) (Jj (by omega)) ?_;refine go0 11 [] [] ?_;refine eV [0,1,0,1,1] [.block 0,.seq [1,1,1]] (λ(k:Nat) X=>∃ (W1:Vw) ,X W1 [(0,.slice A fs.length c),(14,.slice A fs.length c),(15,Vi (fs.length:Int)),(16,Vi (k:Int))] [] [] /\ Sees h W1 /\ (k <= fs.length)) (λk=>fs.length - k) (0) (λX q=>⟨h,q _ _ _ _ ⟨rfl,by kernel_rfl⟩,Sees.refl _,Kj _⟩) ?_;rintro k a w ⟨W1,hJ,S2,hk⟩; refine jV hJ ?_; clear hJ a w;refine go0 6 [] [] ?_;rcases (by omega:k < fs.length\/k=fs.length) with hlt | hke
 ·obtain ⟨f,hfk⟩:∃ f,fs[k]?=some f:=⟨_,Gj (by omega)⟩;obtain ⟨u,huk⟩:∃ u,vs[k]?=some u:=⟨_,Gj (by omega)⟩;have hslu:=hsl u (Dj huk);have hrow:(dQ fs vs)[k]?=some (fdRow f (sL u)):=by rw [hslu]; exact eQ hfk huk
  have ha:IsArgs h f.src (sL u):=by rw [hslu]; exact AllArgs.get hsrc (x:=f.src) (by rw [Nj,hfk]; rfl) huk
  have hok:=hf.each f (Dj hfk);have hno:iQ (fs.take k) f.name = -1:=findF_none λy hy e=>by
   obtain ⟨j,hj⟩:=Yq.1 hy;rw [Iw] at hj
   split at hj
   ·rename_i hjk;have h1:(fs.map (λf:Fd=>f.name))[j]?=some f.name:=by rw [Nj,hj]; simp [e]
    have h2:(fs.map (λf:Fd=>f.name))[k]?=some f.name:=by rw [Nj,hfk]; rfl
    have:=(List.getElem?_inj (by rw [Hj]; omega) hf.nodup).1 (h1.trans h2.symm)
    omega
   ·cases hj
  have htk:=fds_take hfs k hk;refine oV (t:=decide ((k:Int) < (fs.length:Int))) (Mj (by omega)) ?_;refine go0 7 [] [] ?_;obtain ⟨b3,o4,rfl,-,c5⟩:=RS.row hr (hrow);refine xQ (c5.sees S2) ?_;refine go1 25 [.ix b3 o4 fs.length c k,.f 0 0,.own,.b 0 0,.b 0 0,.cl 136 #[.agg #[Vt f.name,Vi f.kind,Vi f.ty,Vi f.src.op,Vi f.src.k,Vi f.src.n,.string f.src.s,.string f.src.nm,sL u]] (Vi 0)] [] ?_ (ho:=(Aj (by first | omega | (simp; omega)) (Aj (λH sH=>right_any fs f _ _ hok (ha.sees (S2.trans sH))) (trivial))));intro b6;refine lV 11 0 [.pu,.pu,.v (λgh=>.slice (some ⟨b3,o4,none⟩) k c),.pu,.ld 0 0,.v (λgh=>.tuple #[Vi 0,Vi 5]),.pu,.pu,.pu,.pu,.pu] [] (trivial) ?_ ?_
  ·intro R hT hA hmono;refine Aj (t_p hT hA (λgh=>.slice (some ⟨b3,o4,none⟩) k c) (λgh w=>run_hi (t:=25) (e:=52) (x:=(.tmp 27)) (y:=(.tmp 28)) (A:=(some ⟨b3,o4,none⟩)) (n:=fs.length) (cap:=c) (k:=k) (kk:=9) (by kernel_rfl) (by kernel_rfl) (by kernel_rfl) (by omega) Tryz.underlying25 (by kernel_rfl))) ?_;refine Aj (t_v hT hA hmono (k:=44) (args:=(λgh=>#[.slice (some ⟨b3,o4,none⟩) k c,.string f.name])) (f:=λgh=>.tuple #[Vi 0,Vi 5]) (λgh H sH fH lent=>find_no (fs.take k) _ f.name _ (htk.sees (S2.trans sH)) (by rw [Uj]; omega) (by omega))) ?_
   trivial
  rintro W7 S8 -;refine go0 15 [] [(37,Vi (IntKind.i64.wrap ((k:Int) + 1)),Vi ((k:Int) + 1))] ?_ (hc:=(Aj (jJ (by omega) (by omega)) (trivial)));exact nV (k + 1) (λX q=>⟨W7,q _ _ _ _ ⟨rfl,by kernel_rfl⟩,(S2.trans S8),by omega⟩) (by omega)
 ·skip;refine yQ (t:=decide ((k:Int) < (fs.length:Int))) (Jj (by omega)) ?_
  refine go0 2 [] [] ?_;refine dV ?_;refine go0 11 [] [] ?_;refine eV [0,1,0,1,1,1] [.block 2,.seq [1,1,1,1]] (λ(k2:Nat) X=>∃ (W9:Vw) ,X W9 [(0,.slice A fs.length c),(38,.slice A fs.length c),(39,Vi (fs.length:Int)),(40,Vi (k2:Int))] [] [] /\ Sees W1 W9 /\ (k2 <= fs.length)) (λk2=>fs.length - k2) (0) (λX q=>⟨W1,q _ _ _ _ ⟨rfl,by kernel_rfl⟩,Sees.refl _,Kj _⟩) ?_;rintro k2 a w ⟨W9,hJ,S10,hk2⟩; refine jV hJ ?_; clear hJ a w;refine go0 6 [] [] ?_;rcases (by omega:k2 < fs.length\/k2=fs.length) with hlt2 | hke2
  ·obtain ⟨f,hfk⟩:∃ f,fs[k2]?=some f:=⟨_,Gj (by omega)⟩;obtain ⟨u,huk⟩:∃ u,vs[k2]?=some u:=⟨_,Gj (by omega)⟩;have hslu:=hsl u (Dj huk);have hrow:(dQ fs vs)[k2]?=some (fdRow f (sL u)):=by rw [hslu]; exact eQ hfk huk
   have ha:IsArgs h f.src (sL u):=by rw [hslu]; exact AllArgs.get hsrc (x:=f.src) (by rw [Nj,hfk]; rfl) huk
   have hok:=hf.each f (Dj hfk);refine oV (t:=decide ((k2:Int) < (fs.length:Int))) (Mj (by omega)) ?_;refine go0 6 [] [] ?_;obtain ⟨b11,o12,rfl,-,c13⟩:=RS.row hr (hrow);refine xQ (c13.sees (S2.trans S10)) ?_;refine go1 28 [.ix b11 o12 fs.length c k2,.f 0 0,.own,.b 0 0,.b 0 0,.cl 137 #[.agg #[Vt f.name,Vi f.kind,Vi f.ty,Vi f.src.op,Vi f.src.k,Vi f.src.n,.string f.src.s,.string f.src.nm,sL u],.slice (some ⟨b11,o12,none⟩) fs.length c] (Vi 0)] [(50,Vi (IntKind.i64.wrap ((k2:Int) + 1)),Vi ((k2:Int) + 1))] ?_ (ho:=(Aj (by first | omega | (simp; omega)) (Aj (λH sH=>typed_any fs f _ _ _ hok (ha.sees (S2.trans (S10.trans sH))) (hfs.sees (S2.trans (S10.trans sH)))) (trivial)))) (hc:=(Aj (jJ (by omega) (by omega)) (trivial)));intro b14;exact nV (k2 + 1) (λX q=>⟨W9,q _ _ _ _ ⟨rfl,by kernel_rfl⟩,S10,by omega⟩) (by omega)
  ·skip;refine yQ (t:=decide ((k2:Int) < (fs.length:Int))) (Jj (by omega)) ?_
   refine go0 2 [] [] ?_;refine dV ?_;refine go0 8 [] [] ?_;refine hQ.to [Vi 0] (λH sH=>?_);exact rfl
open Go.RowKit Go.Maps Go.WideElems Go.WideShapes
theorem map_owned {P:Program} {w:World} {b:Nat} {k e:TypeId} {l:List (ByteArray × Value)} (hb:w.heap[b]?=some (mW (lZ l))) (hn:(l.map (·.1)).Nodup) (hs:∀ p∈l,p.1.size <= maxLen) (hv:∀ p∈l,p.2=.bool true) (hl:l.length <= maxLen)
  (hk:P.underlying k=some .string) (he:P.underlying e=some .bool):∃ D0:DataW Unit,w.ownsMap P k (plainElem P e) b l.length D0 /\ (strKeys D0).Perm (l.map λp=>p.1.data.toList) /\ Maps.size D0=l.length:=by
 have hes:(ments (lZ l)).toArray.toList=ments (lZ l):=rfl;have hrd:∀ x∈ments (lZ l),∃ p∈l,rd P k (plainElem (H:=Unit) P e) x=some (.string p.1.data.toList,.lit (.bool true)):=λx hx=>by
  obtain ⟨i,hi⟩:=Fq hx;rw [ments_get,lZ,Nj] at hi
  cases hp:l[i]? with
  | none=>rw [hp] at hi; cases hi
  | some p =>
   rw [hp] at hi;simp only [Bv,Wj] at hi;subst hi;have hm:=Dj hp;refine ⟨p,hm,?_⟩;have h1:=hs p hm;have h2:=hv p hm;simp [rd,keyOf,mapKey,hk,h1,plainElem,he,h2]
 have hmap:(ments (lZ l)).map (rg P k (plainElem (H:=Unit) P e))=l.map λp=>(Lit.string p.1.data.toList,DataW.lit (.bool true)):=by
  refine Qq λi=>?_;rw [Nj,ments_get,lZ,Nj,Nj]
  cases hp:l[i]? with
  | none=>rfl
  | some p =>
   have hm:=Dj hp;have h1:=hs p hm;have h2:=hv p hm;simp [rg,rd,keyOf,mapKey,hk,h1,plainElem,he,h2]
 have hlen:(ments (lZ l)).length=l.length:=by simp [ments,lZ]
 refine ⟨_,⟨(ments (lZ l)).toArray,l.length,?_,⟨by simpa [hlen] using hl,?_,λx hx=>?_⟩,by simp [hlen],rfl⟩,?_,?_⟩
 ·rw [hb,mW]; simp [lZ]
 ·rw [Go.MapKept.stamped_iff,hes];have hborn:(ments (lZ l)).map (·.born)=List.range l.length:=by
   refine Qq λi=>?_;rw [Nj,ments_get,lZ,Nj];rcases Uq i l.length with g | g
   ·rw [Gj g,List.getElem?_range g]; rfl
   ·rw [Iq g,Iq (by simpa using g)]; rfl
  have hkeys:(ments (lZ l)).map (·.key)=l.map λp=>Value.string p.1:=by
   refine Qq λi=>?_;rw [Nj,ments_get,lZ,Nj,Nj]
   cases l[i]? <;> rfl
  refine ⟨λx hx=>?_,by rw [hborn]; exact Hx,?_⟩
  ·have:x.born∈(ments (lZ l)).map (·.born):=Qj.2 ⟨x,hx,rfl⟩
   rw [hborn] at this;exact Mk.1 this
  ·have:((ments (lZ l)).map (·.key)).Nodup:=by
    rw [hkeys];have h2:(l.map λp=>Value.string p.1)=(l.map (·.1)).map Value.string:=by rw [Wv]; rfl
    rw [h2];exact Xw.2 (hn.imp λhne e=>hne (by injection e))
   exact Xw.1 this
 ·obtain ⟨p,-,h⟩:=hrd x hx; exact ⟨_,h⟩
 ·rw [hes,hmap];show (List.map (λ(p:Lit × DataW Unit)=>strOf p.1) _).Perm _;refine ((sorted_perm _).map _).trans ?_;rw [Wv];exact List.Perm.refl _
 ·rw [hes,hmap];show (List.foldr DataW.insert [] _).length=_;rw [(sorted_perm _).length_eq,Hj]
theorem copy_rec:∀ (m:Nat) (x:Ex) (v:Value) (h:Vw),(szE x).1 <= m -> IsArgs h x v -> (szE x).1 < 1000000 ->
  C0 Tryz.prog 99 #[.agg #[Vi x.op,Vi x.k,Vi x.n,.string x.s,.string x.nm,v]] h (λr h'=>∃ u,r=.agg #[Vi x.op,Vi x.k,Vi x.n,.string x.s,.string x.nm,sL u] /\ IsArgs h' x (sL u))
 | 0,x,v,h,hm,_,_=>by have:=szE_pos x; omega
 | m + 1,x,v,h,hm,hx,hb=>by
  have IH:=copy_rec m;have hse:=nZ x;obtain ⟨ws,hr,hws⟩:=hx.form;obtain ⟨A,ca,rfl,hc1,hc2,-⟩:=hr.form;have hwl:=hws.len;have hrl:=xK hwl;have hlen:=szL_len x.args;rw [hrl] at hc1 hr ⊢;rw [hse] at hm hb;simp only at hm hb;generalize hL:x.args.length=len at *;refine wQ Tryz.func99 (c:=Tryz.f99.body.getD .skip) (N:=24) ?_;intro hbx hbad Q hQ;refine iV 50 6 ?_;refine gov3 29 [.fix,.own,.f 0 0,.own,.b 0 0,.b 0 5,.f 0 5] [] ?_;intro b1 b2 b3 W4 S5;refine eV [0,1,0,1,1,1] [.block 0,.seq [1,1,1,1]] (λ(k:Nat) X=>∃ (W6:Vw) (v:Value) (vs:List Value),X W6 [(2,Vp b2),(3,Vp b3),(9,.slice A len ca),(10,Vi (len:Int)),(11,Vi (k:Int))] [.box b3 [Vi x.op,Vi x.k,Vi x.n,.string x.s,.string x.nm,v],.box b2 [Vi 0,Vi 0,Vi 0,Ve,Ve,Vz],.row v 50 6 (wK (x.args.take k) vs)] [(b1,0,[Vi x.op,Vi x.k,Vi x.n,.string x.s,.string x.nm,.slice A len ca])] /\ Sees W4 W6 /\ (k <= len) /\ (AllArgs W6 (x.args.take k) vs)) (λk=>len - k) (0) (λX q=>⟨W4,(Vz),[],q _ _ _ _ ⟨rfl,by kernel_rfl⟩,Sees.refl _,Kj _,by unfold AllArgs; rfl⟩) ?_;rintro k a w ⟨W6,v,vs,hJ,S7,hk,hvs⟩; refine jV hJ ?_; clear hJ a w;refine go0 6 [] [] ?_;rcases (by omega:k < len\/len=k) with hlt | hke
  ·obtain ⟨y,hy⟩:∃ y,x.args[k]?=some y:=⟨_,Gj (by omega)⟩;obtain ⟨u,hu⟩:∃ u,ws[k]?=some u:=⟨_,Gj (by omega)⟩;have hyu:=AllArgs.get hws hy hu;obtain ⟨Au,nu,cu,rfl⟩:=hyu.slice;have hym:=szL_mem (Dj hy);have hrow:(wK x.args ws)[k]?=some (exRow y (.slice Au nu cu)):=by show (List.zipWith exRow _ _)[k]?=_; rw [Gw,hy,hu]
   have hsn:=qZ _ k y hy;have hvl:=hvs.len;have hrl2:=xK hvl;have htl:(x.args.take k).length=k:=by rw [Uj]; omega
   refine oV (t:=decide ((k:Int) < (len:Int))) (Mj (by omega)) ?_;refine go0 6 [] [] ?_;obtain ⟨b8,o9,rfl,-,c10⟩:=RS.row hr (hrow);refine xQ (c10.sees (S5.trans S7)) ?_;refine go1 6 [.ix b8 o9 len ca k,.f 0 0,.own,.b 0 0] [] ?_ (ho:=(Aj (by first | omega | (simp; omega)) (trivial)));intro b11;refine lV 8 0 [.pu,.ld 1 5,.ld 0 0,.f (λgh=>.agg #[Vi y.op,Vi y.k,Vi y.n,.string y.s,.string y.nm,sL (gh 3)]) (λgh hh=>IsArgs hh y (sL (gh 3))),.f (λgh=>.slice (some ⟨(wJ (gh 4)),0,none⟩) 1 1) (λgh hh=>Cells hh (wJ (gh 4)) 0 [Vi y.op,Vi y.k,Vi y.n,.string y.s,.string y.nm,sL (gh 3)]),.e (λgh=>sL (gh 5)) 3 (λgh=>.row (sL (gh 5)) 50 6 ((wK (x.args.take k) vs)++[[Vi y.op,Vi y.k,Vi y.n,.string y.s,.string y.nm,sL (gh 3)]])),.pu,.st 1 5] [(3,false),(4,true),(5,false)] (Aj (λ_ _ _ s c=>c.sees s) (Aj (λ_ _ _ s c=>c.sees s) (trivial))) ?_ ?_
   ·intro R hT hA hmono;refine Aj (gY hT hA hmono ⟨λ_ _=>by kernel_rfl,λ_ _=>by kernel_rfl,λ_ _=>by kernel_rfl⟩ 18 (λu=>.agg #[Vi y.op,Vi y.k,Vi y.n,.string y.s,.string y.nm,sL u]) [2] 3 99 (λgh=>#[.agg #[Vi y.op,Vi y.k,Vi y.n,.string y.s,.string y.nm,.slice Au nu cu]]) (λgh H sH fH lent=>C0.facts (R:=R) (x:=gh) (i:=3) (n:=0) (F:=(λu=>.agg #[Vi y.op,Vi y.k,Vi y.n,.string y.s,.string y.nm,sL u])) (G:=λu hh=>IsArgs hh y (sL u)) (f:=λgh hh=>IsArgs hh y (sL (gh 3))) (IH y _ _ (by omega) (hyu.sees (S5.trans (S7.trans sH))) (by omega)) (by kernel_rfl) (by kernel_rfl) (λ_ _ r=>r))) ?_;refine Aj (jY hT hA hmono ⟨λ_ _=>by kernel_rfl,λ_ _=>by kernel_rfl,λ_ _=>by kernel_rfl⟩ 19 (λg=>Vs g 1 1) [3] 4 (λgh=>[Vi y.op,Vi y.k,Vi y.n,.string y.s,.string y.nm,sL (gh 3)]) 50 (λgh zb zH zc zj zq zhq zhe=>pX (i:=4) (k:=1) (f:=λgh hh=>Cells hh (wJ (gh 4)) 0 [Vi y.op,Vi y.k,Vi y.n,.string y.s,.string y.nm,sL (gh 3)]) (by kernel_rfl) (by kernel_rfl) zc zj zq zhq zhe)) ?_;refine Aj (fY hT hA hmono ⟨λ_ _=>by kernel_rfl,λ_ _=>by kernel_rfl,λ_ _=>by kernel_rfl⟩ 20 [1,3,4] 5 3 (GN R 3) (λgh=>v) 48 50 6 (λgh=>wK (x.args.take k) vs) (λgh=>[[Vi y.op,Vi y.k,Vi y.n,.string y.s,.string y.nm,sL (gh 3)]]) (.tmp 16) (.tmp 19) (λgh=>(wJ (gh 4))) 1 1 1 4 (λgh hh=>Cells hh (wJ (gh 4)) 0 [Vi y.op,Vi y.k,Vi y.n,.string y.s,.string y.nm,sL (gh 3)]) (λ_ _ c=>c) Tryz.underlying48 (zv:=.agg #[Vi 0,Vi 0,Vi 0,Ve,Ve,Vz]) (bytes:=80) (λ_=>by constructor <;> (rw [hrl2,htl]; omega))) ?_
    trivial
   rintro u18 b13 v20 W14 S15 ⟨f18,f12,-⟩;replace f18:IsArgs W14 y (sL u18):=f18;replace f12:Cells W14 b13 0 [Vi y.op,Vi y.k,Vi y.n,.string y.s,.string y.nm,sL u18]:=f12;refine xQ f12 ?_;refine go0 6 [] [(22,Vi (IntKind.i64.wrap ((k:Int) + 1)),Vi ((k:Int) + 1))] ?_ (hc:=(Aj (jJ (by omega) (by omega)) (trivial)));refine cV [(2,Vp b2),(3,Vp b3),(9,.slice (some ⟨b8,o9,none⟩) len ca),(10,Vi (len:Int)),(11,Vi ((k:Int) + 1))] [.box b3 [Vi x.op,Vi x.k,Vi x.n,.string x.s,.string x.nm,sL v20],.box b2 [Vi 0,Vi 0,Vi 0,Ve,Ve,Vz],.row (sL v20) 50 6 ((wK (x.args.take k) vs)++[[Vi y.op,Vi y.k,Vi y.n,.string y.s,.string y.nm,sL u18]])] [(b1,0,[Vi x.op,Vi x.k,Vi x.n,.string x.s,.string x.nm,.slice (some ⟨b8,o9,none⟩) len ca])] ?_;exact nV (k + 1) (λX q=>⟨W14,sL v20,vs++[sL u18],q _ _ _ _ (aZ (by rw [hsn,exRows_snoc hvl]; try rfl)),(S7.trans S15),by omega,by rw [hsn]; exact AllArgs.snoc f18 (hvs.sees S15)⟩) (by omega)
  ·skip;have hta:x.args.take k=x.args:=by rw [<- hke, <- hL,Ik]
   rw [hta] at hvs ⊢;refine zQ 2 (v:=v) (e:=50) (kk:=6) (l:=wK x.args vs) ?_; intro A2 c2 hE_v hc_v hm_v;rw [hE_v];refine yQ (t:=decide ((k:Int) < (len:Int))) (Jj (by omega)) ?_;refine go0 2 [] [] ?_;refine dV ?_;refine go0 9 [.b 0 0,.b 1 0] [] ?_;refine cV [(2,Vp b2)] [.box b3 [Vi x.op,Vi x.k,Vi x.n,.string x.s,.string x.nm,.slice A2 ((wK x.args vs).length) c2],.box b2 [Vi x.op,Vi x.k,Vi x.n,.string x.s,.string x.nm,.slice A2 ((wK x.args vs).length) c2],.row (.slice A2 ((wK x.args vs).length) c2) 50 6 (wK x.args vs)] [(b1,0,[Vi x.op,Vi x.k,Vi x.n,.string x.s,.string x.nm,.slice A len ca])] ?_;refine hQ.toJ [.agg #[Vi x.op,Vi x.k,Vi x.n,.string x.s,.string x.nm,.slice A2 ((wK x.args vs).length) c2]] [] (λa w hJ=>?_) (ix:=[1]);have fr:=hJ.j.rowOut0 (v:=.slice A2 ((wK x.args vs).length) c2) (e:=50) (k:=6) (l:=wK x.args vs) 2 (by kernel_rfl) rfl;exact ⟨.slice A2 (wK x.args vs).length c2,rfl,IsArgs.mk fr (hvs.sees hJ.j.out)⟩
theorem copy_any (x:Ex) (v:Value) (h:Vw) (hx:IsArgs h x v) (hb:(szE x).1 < 1000000):C0 Tryz.prog 99 #[.agg #[Vi x.op,Vi x.k,Vi x.n,.string x.s,.string x.nm,v]] h (λr h'=>∃ u,r=.agg #[Vi x.op,Vi x.k,Vi x.n,.string x.s,.string x.nm,sL u] /\ IsArgs h' x (sL u)):=copy_rec _ x v h (Ij _) hx hb
end Go.Proofs.YthplkompdehjlaaGreat
