/-
  Formulas that may be; the contracts of expr.part, parts, Check.
-/
import Derived.Test.YthplkompdehjlaaGreatDoorZR9
import Derived.Test.YthplkompdehjlaaGreatDoorZR17
import Derived.Test.YthplkompdehjlaaGreatDoorZR18
import Derived.Test.YthplkompdehjlaaGreatDoorZR3
set_option maxRecDepth 100000
namespace Go.Proofs.YthplkompdehjlaaGreatDoor
open Go.RowKit
abbrev rX:Array Value:=#[.string ⟨#[]⟩,.int .i64 0,.int .i64 0,.string ⟨#[]⟩,.int .i64 7,.int .i64 0,.string ⟨#[]⟩,.int .i64 7,.int .i64 0,.string ⟨#[45]⟩,.int .i64 6,.int .i64 1,.string ⟨#[110,111,116]⟩,.int .i64 6,.int .i64 1,.string ⟨#[42]⟩,.int .i64 5,.int .i64 2,.string ⟨#[47]⟩,.int .i64 5,.int .i64 2,.string ⟨#[37]⟩,.int .i64 5,.int .i64 2,.string ⟨#[43]⟩,.int .i64 4,.int .i64 2,.string ⟨#[45]⟩,.int .i64 4,.int .i64 2,.string ⟨#[38]⟩,.int .i64 4,.int .i64 2,.string ⟨#[60]⟩,.int .i64 3,.int .i64 2,.string ⟨#[60,61]⟩,.int .i64 3,.int .i64 2,.string ⟨#[61]⟩,.int .i64 3,.int .i64 2,.string ⟨#[33,61]⟩,.int .i64 3,.int .i64 2,.string ⟨#[97,110,100]⟩,.int .i64 2,.int .i64 2,.string ⟨#[111,114]⟩,.int .i64 1,.int .i64 2,.string ⟨#[105,102]⟩,.int .i64 7,.int .i64 3,.string ⟨#[108,101,110]⟩,.int .i64 7,.int .i64 1]
abbrev sX:List Value:=[.string ⟨#[]⟩,.int .i64 0,.int .i64 0,.string ⟨#[]⟩,.int .i64 7,.int .i64 0,.string ⟨#[]⟩,.int .i64 7,.int .i64 0,.string ⟨#[45]⟩,.int .i64 6,.int .i64 1,.string ⟨#[110,111,116]⟩,.int .i64 6,.int .i64 1,.string ⟨#[42]⟩,.int .i64 5,.int .i64 2,.string ⟨#[47]⟩,.int .i64 5,.int .i64 2,.string ⟨#[37]⟩,.int .i64 5,.int .i64 2,.string ⟨#[43]⟩,.int .i64 4,.int .i64 2,.string ⟨#[45]⟩,.int .i64 4,.int .i64 2,.string ⟨#[38]⟩,.int .i64 4,.int .i64 2,.string ⟨#[60]⟩,.int .i64 3,.int .i64 2,.string ⟨#[60,61]⟩,.int .i64 3,.int .i64 2,.string ⟨#[61]⟩,.int .i64 3,.int .i64 2,.string ⟨#[33,61]⟩,.int .i64 3,.int .i64 2,.string ⟨#[97,110,100]⟩,.int .i64 2,.int .i64 2,.string ⟨#[111,114]⟩,.int .i64 1,.int .i64 2,.string ⟨#[105,102]⟩,.int .i64 7,.int .i64 3,.string ⟨#[108,101,110]⟩,.int .i64 7,.int .i64 1]
def arity (op:Int):Nat:=if op≤2 then 0 else if op=3∨op=4∨op=18 then 1 else if op=17 then 3 else 2
def TopOk (x:Ex):Prop :=
 (x.op=1∧KnownV x.k x.n x.s∧(x.k=1→0≤x.n)∧x.nm=⟨#[]⟩∧x.args.length=0) ∨
 (x.op=2∧oJ x.nm.data.toList∧x.k=0∧x.n=0∧x.s=⟨#[]⟩∧x.args.length=0) ∨
 (3≤x.op∧x.op≤18∧x.k=0∧x.n=0∧x.s=⟨#[]⟩∧x.nm=⟨#[]⟩∧x.args.length=arity x.op)
theorem c_name (s:ByteArray) (h:Vw) (hs:oJ s.data.toList):C0 Tryz.prog 65 #[.string s] h (fun v _=>v=.int .i64 0):=C0.of_same (fun w=>name_yes s w hs) h
theorem c_known (k n:Int) (s:ByteArray) (h:Vw) (hk:KnownV k n s):C0 Tryz.prog 115 #[.agg #[.int .i64 k,.int .i64 n,.string s]] h (fun v _=>v=.bool true):=C0.of_gives (fun w=>known_true k n s w hk) h
theorem tX (h:Vw):C0 Tryz.prog 29 #[] h (fun v _=>v=.agg rX):=by
 refine fQ Tryz.func29 (c:=Tryz.f29.body.getD .skip) (N:=20) ?_
 intro hbx hbad Q hQ
 refine go1 30 [.own,.b 0 0] [] ?_
 intro b1
 refine hQ.to [.agg rX] (fun H sH=>?_) (ix:=[0])
 show pack _=Value.agg rX; kernel_rfl
theorem part_const (k n:Int) (s:ByteArray) (A:Option Addr) (c:Nat) (h:Vw) (hk:KnownV k n s) (hn:k=1→0≤n) :
  C0 Tryz.prog 80 #[.agg #[.int .i64 1,.int .i64 k,.int .i64 n,.string s,.string ⟨#[]⟩,.slice A 0 c]] h (fun v _=>v=.int .i64 0):=by
 have hkn:=c_known k n s
 have hkk:=known_kind hk
 obtain rfl | rfl | rfl:k=1∨k=2∨k=3:=by omega
 ·refine fQ Tryz.func80 (c:=Tryz.f80.body.getD .skip) (N:=66) ?_
  intro hbx hbad Q hQ
  refine aV 24 [.fix,.f 0 0,.f 0 0] [] ?_
  intro b1 W2 S3
  refine tQ 9 0 [.pu,.lf 0 5,.pu,.v (fun gh=>.agg rX),.pu,.lf 0 0,.pu,.pu,.pu] [] (trivial) ?_ ?_
  ·intro R hT hA hmono
   refine And.intro (t_v hT hA hmono (k:=29) (args:=(fun gh=>#[])) (f:=fun gh=>.agg rX) (fun gh H sH fH lent=>tX _)) ?_
   trivial
  rintro W4 S5 -
  refine go0 44 [.f 0 0,.f 0 4,.f 0 1,.cl 115 #[.agg #[Vi 1,Vi n,.string s]] (.bool true),.f 0 1,.f 0 2] [] ?_ (ho:=(And.intro (fun H sH=>hkn _ hk) (trivial)))
  refine iQ (t:=decide (n < 0)) (decide_eq_false (by have:=hn rfl; omega)) ?_
  refine go0 9 [] [] ?_
  refine hQ.to [Vi 0] (fun H sH=>?_)
  exact rfl
 ·refine fQ Tryz.func80 (c:=Tryz.f80.body.getD .skip) (N:=66) ?_
  intro hbx hbad Q hQ
  refine aV 24 [.fix,.f 0 0,.f 0 0] [] ?_
  intro b1 W2 S3
  refine tQ 9 0 [.pu,.lf 0 5,.pu,.v (fun gh=>.agg rX),.pu,.lf 0 0,.pu,.pu,.pu] [] (trivial) ?_ ?_
  ·intro R hT hA hmono
   refine And.intro (t_v hT hA hmono (k:=29) (args:=(fun gh=>#[])) (f:=fun gh=>.agg rX) (fun gh H sH fH lent=>tX _)) ?_
   trivial
  rintro W4 S5 -
  refine go0 54 [.f 0 0,.f 0 4,.f 0 1,.cl 115 #[.agg #[Vi 2,Vi n,.string s]] (.bool true),.f 0 1] [] ?_ (ho:=(And.intro (fun H sH=>hkn _ hk) (trivial)))
  refine hQ.to [Vi 0] (fun H sH=>?_)
  exact rfl
 ·refine fQ Tryz.func80 (c:=Tryz.f80.body.getD .skip) (N:=66) ?_
  intro hbx hbad Q hQ
  refine aV 24 [.fix,.f 0 0,.f 0 0] [] ?_
  intro b1 W2 S3
  refine tQ 9 0 [.pu,.lf 0 5,.pu,.v (fun gh=>.agg rX),.pu,.lf 0 0,.pu,.pu,.pu] [] (trivial) ?_ ?_
  ·intro R hT hA hmono
   refine And.intro (t_v hT hA hmono (k:=29) (args:=(fun gh=>#[])) (f:=fun gh=>.agg rX) (fun gh H sH fH lent=>tX _)) ?_
   trivial
  rintro W4 S5 -
  refine go0 54 [.f 0 0,.f 0 4,.f 0 1,.cl 115 #[.agg #[Vi 3,Vi n,.string s]] (.bool true),.f 0 1] [] ?_ (ho:=(And.intro (fun H sH=>hkn _ hk) (trivial)))
  refine hQ.to [Vi 0] (fun H sH=>?_)
  exact rfl
theorem part_ref (s:ByteArray) (A:Option Addr) (c:Nat) (h:Vw) (hs:oJ s.data.toList) :
  C0 Tryz.prog 80 #[.agg #[.int .i64 2,.int .i64 0,.int .i64 0,.string ⟨#[]⟩,.string s,.slice A 0 c]] h (fun v _=>v=.int .i64 0):=by
 have hc:=c_name s
 refine fQ Tryz.func80 (c:=Tryz.f80.body.getD .skip) (N:=66) ?_
 intro hbx hbad Q hQ
 refine aV 24 [.fix,.f 0 0,.f 0 0] [] ?_
 intro b1 W2 S3
 refine tQ 9 0 [.pu,.lf 0 5,.pu,.v (fun gh=>.agg rX),.pu,.lf 0 0,.pu,.pu,.pu] [] (trivial) ?_ ?_
 ·intro R hT hA hmono
  refine And.intro (t_v hT hA hmono (k:=29) (args:=(fun gh=>#[])) (f:=fun gh=>.agg rX) (fun gh H sH fH lent=>tX _)) ?_
  trivial
 rintro W4 S5 -
 refine go0 50 [.f 0 0,.f 0 4,.cl 65 #[.string s] (Vi 0),.f 0 1] [] ?_ (ho:=(And.intro (fun H sH=>hc _ hs) (trivial)))
 refine hQ.to [Vi 0] (fun H sH=>?_)
 exact rfl
theorem part_op (op:Int) (A:Option Addr) (c:Nat) (h:Vw) (h1:3≤op) (h2:op≤18) :
  C0 Tryz.prog 80 #[.agg #[.int .i64 op,.int .i64 0,.int .i64 0,.string ⟨#[]⟩,.string ⟨#[]⟩,.slice A (arity op) c]] h (fun v _=>v=.int .i64 0):=by
 obtain rfl | rfl | rfl | rfl | rfl | rfl | rfl | rfl | rfl | rfl | rfl | rfl | rfl | rfl | rfl | rfl:op=3∨op=4∨op=5∨op=6∨op=7∨op=8∨op=9∨op=10∨op=11∨op=12∨op=13∨op=14∨op=15∨op=16∨op=17∨op=18:=by omega
 ·rw [show arity 3=1 from rfl]
  refine fQ Tryz.func80 (c:=Tryz.f80.body.getD .skip) (N:=66) ?_
  intro hbx hbad Q hQ
  refine aV 24 [.fix,.f 0 0,.f 0 0] [] ?_
  intro b1 W2 S3
  refine tQ 9 0 [.pu,.lf 0 5,.pu,.v (fun gh=>.agg rX),.pu,.lf 0 0,.pu,.pu,.pu] [] (trivial) ?_ ?_
  ·intro R hT hA hmono
   refine And.intro (t_v hT hA hmono (k:=29) (args:=(fun gh=>#[])) (f:=fun gh=>.agg rX) (fun gh H sH fH lent=>tX _)) ?_
   trivial
  rintro W4 S5 -
  refine go0 49 [.f 0 0,.f 0 4,.f 0 1] [] ?_
  refine hQ.to [Vi 0] (fun H sH=>?_)
  exact rfl
 ·rw [show arity 4=1 from rfl]
  refine fQ Tryz.func80 (c:=Tryz.f80.body.getD .skip) (N:=66) ?_
  intro hbx hbad Q hQ
  refine aV 24 [.fix,.f 0 0,.f 0 0] [] ?_
  intro b1 W2 S3
  refine tQ 9 0 [.pu,.lf 0 5,.pu,.v (fun gh=>.agg rX),.pu,.lf 0 0,.pu,.pu,.pu] [] (trivial) ?_ ?_
  ·intro R hT hA hmono
   refine And.intro (t_v hT hA hmono (k:=29) (args:=(fun gh=>#[])) (f:=fun gh=>.agg rX) (fun gh H sH fH lent=>tX _)) ?_
   trivial
  rintro W4 S5 -
  refine go0 49 [.f 0 0,.f 0 4,.f 0 1] [] ?_
  refine hQ.to [Vi 0] (fun H sH=>?_)
  exact rfl
 ·rw [show arity 5=2 from rfl]
  refine fQ Tryz.func80 (c:=Tryz.f80.body.getD .skip) (N:=66) ?_
  intro hbx hbad Q hQ
  refine aV 24 [.fix,.f 0 0,.f 0 0] [] ?_
  intro b1 W2 S3
  refine tQ 9 0 [.pu,.lf 0 5,.pu,.v (fun gh=>.agg rX),.pu,.lf 0 0,.pu,.pu,.pu] [] (trivial) ?_ ?_
  ·intro R hT hA hmono
   refine And.intro (t_v hT hA hmono (k:=29) (args:=(fun gh=>#[])) (f:=fun gh=>.agg rX) (fun gh H sH fH lent=>tX _)) ?_
   trivial
  rintro W4 S5 -
  refine go0 49 [.f 0 0,.f 0 4,.f 0 1] [] ?_
  refine hQ.to [Vi 0] (fun H sH=>?_)
  exact rfl
 ·rw [show arity 6=2 from rfl]
  refine fQ Tryz.func80 (c:=Tryz.f80.body.getD .skip) (N:=66) ?_
  intro hbx hbad Q hQ
  refine aV 24 [.fix,.f 0 0,.f 0 0] [] ?_
  intro b1 W2 S3
  refine tQ 9 0 [.pu,.lf 0 5,.pu,.v (fun gh=>.agg rX),.pu,.lf 0 0,.pu,.pu,.pu] [] (trivial) ?_ ?_
  ·intro R hT hA hmono
   refine And.intro (t_v hT hA hmono (k:=29) (args:=(fun gh=>#[])) (f:=fun gh=>.agg rX) (fun gh H sH fH lent=>tX _)) ?_
   trivial
  rintro W4 S5 -
  refine go0 49 [.f 0 0,.f 0 4,.f 0 1] [] ?_
  refine hQ.to [Vi 0] (fun H sH=>?_)
  exact rfl
 ·rw [show arity 7=2 from rfl]
  refine fQ Tryz.func80 (c:=Tryz.f80.body.getD .skip) (N:=66) ?_
  intro hbx hbad Q hQ
  refine aV 24 [.fix,.f 0 0,.f 0 0] [] ?_
  intro b1 W2 S3
  refine tQ 9 0 [.pu,.lf 0 5,.pu,.v (fun gh=>.agg rX),.pu,.lf 0 0,.pu,.pu,.pu] [] (trivial) ?_ ?_
  ·intro R hT hA hmono
   refine And.intro (t_v hT hA hmono (k:=29) (args:=(fun gh=>#[])) (f:=fun gh=>.agg rX) (fun gh H sH fH lent=>tX _)) ?_
   trivial
  rintro W4 S5 -
  refine go0 49 [.f 0 0,.f 0 4,.f 0 1] [] ?_
  refine hQ.to [Vi 0] (fun H sH=>?_)
  exact rfl
 ·rw [show arity 8=2 from rfl]
  refine fQ Tryz.func80 (c:=Tryz.f80.body.getD .skip) (N:=66) ?_
  intro hbx hbad Q hQ
  refine aV 24 [.fix,.f 0 0,.f 0 0] [] ?_
  intro b1 W2 S3
  refine tQ 9 0 [.pu,.lf 0 5,.pu,.v (fun gh=>.agg rX),.pu,.lf 0 0,.pu,.pu,.pu] [] (trivial) ?_ ?_
  ·intro R hT hA hmono
   refine And.intro (t_v hT hA hmono (k:=29) (args:=(fun gh=>#[])) (f:=fun gh=>.agg rX) (fun gh H sH fH lent=>tX _)) ?_
   trivial
  rintro W4 S5 -
  refine go0 49 [.f 0 0,.f 0 4,.f 0 1] [] ?_
  refine hQ.to [Vi 0] (fun H sH=>?_)
  exact rfl
 ·rw [show arity 9=2 from rfl]
  refine fQ Tryz.func80 (c:=Tryz.f80.body.getD .skip) (N:=66) ?_
  intro hbx hbad Q hQ
  refine aV 24 [.fix,.f 0 0,.f 0 0] [] ?_
  intro b1 W2 S3
  refine tQ 9 0 [.pu,.lf 0 5,.pu,.v (fun gh=>.agg rX),.pu,.lf 0 0,.pu,.pu,.pu] [] (trivial) ?_ ?_
  ·intro R hT hA hmono
   refine And.intro (t_v hT hA hmono (k:=29) (args:=(fun gh=>#[])) (f:=fun gh=>.agg rX) (fun gh H sH fH lent=>tX _)) ?_
   trivial
  rintro W4 S5 -
  refine go0 49 [.f 0 0,.f 0 4,.f 0 1] [] ?_
  refine hQ.to [Vi 0] (fun H sH=>?_)
  exact rfl
 ·rw [show arity 10=2 from rfl]
  refine fQ Tryz.func80 (c:=Tryz.f80.body.getD .skip) (N:=66) ?_
  intro hbx hbad Q hQ
  refine aV 24 [.fix,.f 0 0,.f 0 0] [] ?_
  intro b1 W2 S3
  refine tQ 9 0 [.pu,.lf 0 5,.pu,.v (fun gh=>.agg rX),.pu,.lf 0 0,.pu,.pu,.pu] [] (trivial) ?_ ?_
  ·intro R hT hA hmono
   refine And.intro (t_v hT hA hmono (k:=29) (args:=(fun gh=>#[])) (f:=fun gh=>.agg rX) (fun gh H sH fH lent=>tX _)) ?_
   trivial
  rintro W4 S5 -
  refine go0 49 [.f 0 0,.f 0 4,.f 0 1] [] ?_
  refine hQ.to [Vi 0] (fun H sH=>?_)
  exact rfl
 ·rw [show arity 11=2 from rfl]
  refine fQ Tryz.func80 (c:=Tryz.f80.body.getD .skip) (N:=66) ?_
  intro hbx hbad Q hQ
  refine aV 24 [.fix,.f 0 0,.f 0 0] [] ?_
  intro b1 W2 S3
  refine tQ 9 0 [.pu,.lf 0 5,.pu,.v (fun gh=>.agg rX),.pu,.lf 0 0,.pu,.pu,.pu] [] (trivial) ?_ ?_
  ·intro R hT hA hmono
   refine And.intro (t_v hT hA hmono (k:=29) (args:=(fun gh=>#[])) (f:=fun gh=>.agg rX) (fun gh H sH fH lent=>tX _)) ?_
   trivial
  rintro W4 S5 -
  refine go0 49 [.f 0 0,.f 0 4,.f 0 1] [] ?_
  refine hQ.to [Vi 0] (fun H sH=>?_)
  exact rfl
 ·rw [show arity 12=2 from rfl]
  refine fQ Tryz.func80 (c:=Tryz.f80.body.getD .skip) (N:=66) ?_
  intro hbx hbad Q hQ
  refine aV 24 [.fix,.f 0 0,.f 0 0] [] ?_
  intro b1 W2 S3
  refine tQ 9 0 [.pu,.lf 0 5,.pu,.v (fun gh=>.agg rX),.pu,.lf 0 0,.pu,.pu,.pu] [] (trivial) ?_ ?_
  ·intro R hT hA hmono
   refine And.intro (t_v hT hA hmono (k:=29) (args:=(fun gh=>#[])) (f:=fun gh=>.agg rX) (fun gh H sH fH lent=>tX _)) ?_
   trivial
  rintro W4 S5 -
  refine go0 49 [.f 0 0,.f 0 4,.f 0 1] [] ?_
  refine hQ.to [Vi 0] (fun H sH=>?_)
  exact rfl
 ·rw [show arity 13=2 from rfl]
  refine fQ Tryz.func80 (c:=Tryz.f80.body.getD .skip) (N:=66) ?_
  intro hbx hbad Q hQ
  refine aV 24 [.fix,.f 0 0,.f 0 0] [] ?_
  intro b1 W2 S3
  refine tQ 9 0 [.pu,.lf 0 5,.pu,.v (fun gh=>.agg rX),.pu,.lf 0 0,.pu,.pu,.pu] [] (trivial) ?_ ?_
  ·intro R hT hA hmono
   refine And.intro (t_v hT hA hmono (k:=29) (args:=(fun gh=>#[])) (f:=fun gh=>.agg rX) (fun gh H sH fH lent=>tX _)) ?_
   trivial
  rintro W4 S5 -
  refine go0 49 [.f 0 0,.f 0 4,.f 0 1] [] ?_
  refine hQ.to [Vi 0] (fun H sH=>?_)
  exact rfl
 ·rw [show arity 14=2 from rfl]
  refine fQ Tryz.func80 (c:=Tryz.f80.body.getD .skip) (N:=66) ?_
  intro hbx hbad Q hQ
  refine aV 24 [.fix,.f 0 0,.f 0 0] [] ?_
  intro b1 W2 S3
  refine tQ 9 0 [.pu,.lf 0 5,.pu,.v (fun gh=>.agg rX),.pu,.lf 0 0,.pu,.pu,.pu] [] (trivial) ?_ ?_
  ·intro R hT hA hmono
   refine And.intro (t_v hT hA hmono (k:=29) (args:=(fun gh=>#[])) (f:=fun gh=>.agg rX) (fun gh H sH fH lent=>tX _)) ?_
   trivial
  rintro W4 S5 -
  refine go0 49 [.f 0 0,.f 0 4,.f 0 1] [] ?_
  refine hQ.to [Vi 0] (fun H sH=>?_)
  exact rfl
 ·rw [show arity 15=2 from rfl]
  refine fQ Tryz.func80 (c:=Tryz.f80.body.getD .skip) (N:=66) ?_
  intro hbx hbad Q hQ
  refine aV 24 [.fix,.f 0 0,.f 0 0] [] ?_
  intro b1 W2 S3
  refine tQ 9 0 [.pu,.lf 0 5,.pu,.v (fun gh=>.agg rX),.pu,.lf 0 0,.pu,.pu,.pu] [] (trivial) ?_ ?_
  ·intro R hT hA hmono
   refine And.intro (t_v hT hA hmono (k:=29) (args:=(fun gh=>#[])) (f:=fun gh=>.agg rX) (fun gh H sH fH lent=>tX _)) ?_
   trivial
  rintro W4 S5 -
  refine go0 49 [.f 0 0,.f 0 4,.f 0 1] [] ?_
  refine hQ.to [Vi 0] (fun H sH=>?_)
  exact rfl
 ·rw [show arity 16=2 from rfl]
  refine fQ Tryz.func80 (c:=Tryz.f80.body.getD .skip) (N:=66) ?_
  intro hbx hbad Q hQ
  refine aV 24 [.fix,.f 0 0,.f 0 0] [] ?_
  intro b1 W2 S3
  refine tQ 9 0 [.pu,.lf 0 5,.pu,.v (fun gh=>.agg rX),.pu,.lf 0 0,.pu,.pu,.pu] [] (trivial) ?_ ?_
  ·intro R hT hA hmono
   refine And.intro (t_v hT hA hmono (k:=29) (args:=(fun gh=>#[])) (f:=fun gh=>.agg rX) (fun gh H sH fH lent=>tX _)) ?_
   trivial
  rintro W4 S5 -
  refine go0 49 [.f 0 0,.f 0 4,.f 0 1] [] ?_
  refine hQ.to [Vi 0] (fun H sH=>?_)
  exact rfl
 ·rw [show arity 17=3 from rfl]
  refine fQ Tryz.func80 (c:=Tryz.f80.body.getD .skip) (N:=66) ?_
  intro hbx hbad Q hQ
  refine aV 24 [.fix,.f 0 0,.f 0 0] [] ?_
  intro b1 W2 S3
  refine tQ 9 0 [.pu,.lf 0 5,.pu,.v (fun gh=>.agg rX),.pu,.lf 0 0,.pu,.pu,.pu] [] (trivial) ?_ ?_
  ·intro R hT hA hmono
   refine And.intro (t_v hT hA hmono (k:=29) (args:=(fun gh=>#[])) (f:=fun gh=>.agg rX) (fun gh H sH fH lent=>tX _)) ?_
   trivial
  rintro W4 S5 -
  refine go0 49 [.f 0 0,.f 0 4,.f 0 1] [] ?_
  refine hQ.to [Vi 0] (fun H sH=>?_)
  exact rfl
 ·rw [show arity 18=1 from rfl]
  refine fQ Tryz.func80 (c:=Tryz.f80.body.getD .skip) (N:=66) ?_
  intro hbx hbad Q hQ
  refine aV 24 [.fix,.f 0 0,.f 0 0] [] ?_
  intro b1 W2 S3
  refine tQ 9 0 [.pu,.lf 0 5,.pu,.v (fun gh=>.agg rX),.pu,.lf 0 0,.pu,.pu,.pu] [] (trivial) ?_ ?_
  ·intro R hT hA hmono
   refine And.intro (t_v hT hA hmono (k:=29) (args:=(fun gh=>#[])) (f:=fun gh=>.agg rX) (fun gh H sH fH lent=>tX _)) ?_
   trivial
  rintro W4 S5 -
  refine go0 49 [.f 0 0,.f 0 4,.f 0 1] [] ?_
  refine hQ.to [Vi 0] (fun H sH=>?_)
  exact rfl
theorem part_any (x:Ex) (A:Option Addr) (c:Nat) (h:Vw) (hx:TopOk x):C0 Tryz.prog 80 #[.agg #[.int .i64 x.op,.int .i64 x.k,.int .i64 x.n,.string x.s,.string x.nm,.slice A x.args.length c]] h (fun v _=>v=.int .i64 0):=by
 rcases hx with ⟨h1,h2,h3,h4,h5⟩ | ⟨h1,h2,h3,h4,h5,h6⟩ | ⟨h1,h2,h3,h4,h5,h6,h7⟩
 ·rw [h1,h4,h5]; exact part_const _ _ _ _ _ _ h2 h3
 ·rw [h1,h3,h4,h5,h6]; exact part_ref _ _ _ _ h2
 ·rw [h3,h4,h5,h6,h7]; exact part_op _ _ _ _ h1 h2
mutual
def WfE:Ex→Prop
 | .mk a b c d e args=>TopOk (.mk a b c d e args)∧WfL args
def WfL:List Ex→Prop
 | []=>True
 | x :: l=>WfE x∧WfL l
end
theorem WfE.top {x:Ex} (h:WfE x):TopOk x:=by
 obtain ⟨a,b,c,d,e,l⟩:=x
 rw [WfE] at h; exact h.1
theorem WfE.list {x:Ex} (h:WfE x):WfL x.args:=by
 obtain ⟨a,b,c,d,e,l⟩:=x
 rw [WfE] at h; exact h.2
theorem WfE.mk' {x:Ex} (h1:TopOk x) (h2:WfL x.args):WfE x:=by
 obtain ⟨a,b,c,d,e,l⟩:=x
 rw [WfE]; exact ⟨h1,h2⟩
theorem WfL.get {y:Ex}:∀ {l:List Ex},WfL l→y∈l→WfE y
 | x :: l,h,hy=>by
  rw [WfL] at h
  rcases List.mem_cons.1 hy with rfl | hy
  ·exact h.1
  ·exact WfL.get h.2 hy
theorem WfL.all:∀ {l:List Ex},(∀ x∈l,WfE x)→WfL l
 | [],_=>by rw [WfL]; trivial
 | x :: l,h=>by rw [WfL]; exact ⟨h x (by simp),WfL.all (fun y hy=>h y (by simp [hy]))⟩
theorem parts_any:∀ (m:Nat) (x:Ex) (v:Value) (h:Vw),(szE x).1≤m→IsArgs h x v→WfE x→(szE x).1 < 1000000 →
  C0 Tryz.prog 57 #[.agg #[.int .i64 x.op,.int .i64 x.k,.int .i64 x.n,.string x.s,.string x.nm,v]] h (fun r _=>r=.int .i64 0)
 | 0,x,v,h,hm,_,_,_=>by have:=gY x; omega
 | m + 1,x,v,h,hm,hx,hw,hb=>by
  have IH:=parts_any m
  have hse:=fY x
  obtain ⟨vs,hr,hvs⟩:=hx.form
  obtain ⟨A,ca,rfl,hc1,hc2,-⟩:=hr.form
  have hvl:=hvs.len
  have hrl:=nK hvl
  have hlen:=szL_len x.args
  have hpa:=part_any x A ca
  have hwt:=hw.top
  have hwl:=hw.list
  rw [hrl] at hc1 hr ⊢
  rw [hse] at hm hb
  simp only at hm hb
  generalize hL:x.args.length=len at *
  refine fQ Tryz.func57 (c:=Tryz.f57.body.getD .skip) (N:=25) ?_
  intro hbx hbad Q hQ
  refine aV 33 [.fix,.f 0 0,.cl 80 #[.agg #[Vi x.op,Vi x.k,Vi x.n,.string x.s,.string x.nm,.slice A len ca]] (Vi 0),.f 0 5] [] ?_ (ho:=(And.intro (fun H sH=>hpa _ hwt) (trivial)))
  intro b1 W2 S3
  refine mQ [0,1,0,1,1] [.block 0,.seq [1,1,1]] (fun (k:Nat) X=>∃ (W4:Vw) ,X W4 [(13,.slice A len ca),(14,Vi (len:Int)),(15,Vi (k:Int))] [] [(b1,0,[Vi x.op,Vi x.k,Vi x.n,.string x.s,.string x.nm,.slice A len ca])]∧Sees W2 W4∧(k≤len)) (fun k=>len - k) (0) (fun X q=>⟨W2,q _ _ _ _ ⟨rfl,by kernel_rfl⟩,Sees.refl _,Nat.zero_le _⟩) ?_
  rintro k a w ⟨W4,hJ,S5,hk⟩; refine pQ hJ ?_; clear hJ a w
  refine go0 6 [] [] ?_
  rcases (by omega:k < len∨len=k) with hlt | hke
  ·obtain ⟨y,hy⟩:∃ y,x.args[k]?=some y:=⟨_,List.getElem?_eq_getElem (by omega)⟩
   obtain ⟨u,hu⟩:∃ u,vs[k]?=some u:=⟨_,List.getElem?_eq_getElem (by omega)⟩
   have hyu:=AllArgs.get hvs hy hu
   obtain ⟨Au,nu,cu,rfl⟩:=hyu.slice
   have hym:=iY (List.mem_of_getElem? hy)
   have hyw:=hwl.get (List.mem_of_getElem? hy)
   have hrow:(mK x.args vs)[k]?=some (exRow y (.slice Au nu cu)):=by show (List.zipWith exRow _ _)[k]?=_; rw [List.getElem?_zipWith,hy,hu]
   refine wQ (t:=decide ((k:Int) < (len:Int))) (decide_eq_true (by omega)) ?_
   refine go0 6 [] [] ?_
   obtain ⟨b6,o7,rfl,-,c8⟩:=RS.row hr (hrow)
   refine gQ (c8.sees (S3.trans S5)) ?_
   refine go1 27 [.ix b6 o7 len ca k,.f 0 0,.own,.b 0 0,.b 0 0,.cl 57 #[.agg #[Vi y.op,Vi y.k,Vi y.n,.string y.s,.string y.nm,.slice Au nu cu]] (Vi 0)] [(24,Vi (IntKind.i64.wrap ((k:Int) + 1)),Vi ((k:Int) + 1))] ?_ (ho:=(And.intro (by first | omega | (simp; omega)) (And.intro (fun H sH=>IH y _ _ (by omega) (hyu.sees (S3.trans (S5.trans sH))) hyw (by omega)) (trivial)))) (hc:=(And.intro (jJ (by omega) (by omega)) (trivial)))
   intro b9
   exact vQ (k + 1) (fun X q=>⟨W4,q _ _ _ _ ⟨rfl,by kernel_rfl⟩,S5,by omega⟩) (by omega)
  ·skip
   refine iQ (t:=decide ((k:Int) < (len:Int))) (decide_eq_false (by omega)) ?_
   refine go0 2 [] [] ?_
   refine lQ ?_
   refine go0 8 [] [] ?_
   refine hQ.to [Vi 0] (fun H sH=>?_)
   exact rfl
def chkE (x:Ex):Int:=if 60 < (szE x).1 then 1 else if 12 < (szE x).2 then 4 else 0
theorem check_any (x:Ex) (v:Value) (h:Vw) (hx:IsArgs h x v) (hw:WfE x) (hb:(szE x).1 < 1000000):C0 Tryz.prog 25 #[.agg #[.int .i64 x.op,.int .i64 x.k,.int .i64 x.n,.string x.s,.string x.nm,v]] h (fun r _=>r=.int .i64 (chkE x)):=by
 obtain ⟨A,na,ca,rfl⟩:=hx.slice
 have hse:=fun H hq=>size_any _ x (.slice A na ca) H (Nat.le_refl _) hq hb
 have hpa:=fun H hq=>parts_any _ x (.slice A na ca) H (Nat.le_refl _) hq hw hb
 by_cases g1:60 < (szE x).1
 ·refine fQ Tryz.func25 (c:=Tryz.f25.body.getD .skip) (N:=16) ?_
  intro hbx hbad Q hQ
  refine aV 24 [.fix,.f 0 0,.cl 56 #[.agg #[Vi x.op,Vi x.k,Vi x.n,.string x.s,.string x.nm,.slice A na ca]] (.tuple #[Vi ((szE x).1:Int),Vi ((szE x).2:Int)])] [] ?_ (ho:=(And.intro (fun H sH=>hse _ (hx.sees sH)) (trivial)))
  intro b1 W2 S3
  refine wQ (t:=decide (((szE x).1:Int) > 60)) (decide_eq_true (by omega)) ?_
  refine go0 7 [] [] ?_
  refine hQ.to [Vi 1] (fun H sH=>?_)
  exact congrArg (Value.int .i64) (by unfold chkE; rw [if_pos g1])
 ·by_cases g2:12 < (szE x).2
  ·refine fQ Tryz.func25 (c:=Tryz.f25.body.getD .skip) (N:=16) ?_
   intro hbx hbad Q hQ
   refine aV 24 [.fix,.f 0 0,.cl 56 #[.agg #[Vi x.op,Vi x.k,Vi x.n,.string x.s,.string x.nm,.slice A na ca]] (.tuple #[Vi ((szE x).1:Int),Vi ((szE x).2:Int)])] [] ?_ (ho:=(And.intro (fun H sH=>hse _ (hx.sees sH)) (trivial)))
   intro b1 W2 S3
   refine iQ (t:=decide (((szE x).1:Int) > 60)) (decide_eq_false (by omega)) ?_
   refine go0 9 [] [] ?_
   refine wQ (t:=decide (((szE x).2:Int) > 12)) (decide_eq_true (by omega)) ?_
   refine go0 7 [] [] ?_
   refine hQ.to [Vi 4] (fun H sH=>?_)
   exact congrArg (Value.int .i64) (by unfold chkE; rw [if_neg g1,if_pos g2])
  ·refine fQ Tryz.func25 (c:=Tryz.f25.body.getD .skip) (N:=16) ?_
   intro hbx hbad Q hQ
   refine aV 24 [.fix,.f 0 0,.cl 56 #[.agg #[Vi x.op,Vi x.k,Vi x.n,.string x.s,.string x.nm,.slice A na ca]] (.tuple #[Vi ((szE x).1:Int),Vi ((szE x).2:Int)])] [] ?_ (ho:=(And.intro (fun H sH=>hse _ (hx.sees sH)) (trivial)))
   intro b1 W2 S3
   refine iQ (t:=decide (((szE x).1:Int) > 60)) (decide_eq_false (by omega)) ?_
   refine go0 9 [] [] ?_
   refine iQ (t:=decide (((szE x).2:Int) > 12)) (decide_eq_false (by omega)) ?_
   refine go0 10 [.f 0 0,.cl 57 #[.agg #[Vi x.op,Vi x.k,Vi x.n,.string x.s,.string x.nm,.slice A na ca]] (Vi 0)] [] ?_ (ho:=(And.intro (fun H sH=>hpa _ (hx.sees (S3.trans sH))) (trivial)))
   refine hQ.to [Vi 0] (fun H sH=>?_)
   exact congrArg (Value.int .i64) (by unfold chkE; rw [if_neg g1,if_neg g2])
end Go.Proofs.YthplkompdehjlaaGreatDoor
namespace Go.Proofs.YthplkompdehjlaaGreatDoor
open Go.RowKit
set_option linter.unusedVariables false
def sgL (op:Int):List UInt8 :=
 if op=3 then [45] else if op=4 then [110,111,116] else if op=5 then [42] else if op=6 then [47] else if op=7 then [37] else if op=8 then [43]
 else if op=9 then [45] else if op=10 then [38] else if op=11 then [60] else if op=12 then [60,61] else if op=13 then [61] else if op=14 then [33,61]
 else if op=15 then [97,110,100] else if op=16 then [111,114] else if op=17 then [105,102] else if op=18 then [108,101,110] else []
def lvO (op:Int):Nat:=if op≤2 then 7 else if op≤4 then 6 else if op≤7 then 5 else if op≤10 then 4 else if op≤14 then 3 else if op=15 then 2 else if op=16 then 1 else 7
def shT:List (List UInt8 × Nat × Nat):=[([],0,0),([],7,0),([],7,0),([45],6,1),([110,111,116],6,1),([42],5,2),([47],5,2),([37],5,2),([43],4,2),([45],4,2),([38],4,2),([60],3,2),([60,61],3,2),([61],3,2),([33,61],3,2),([97,110,100],2,2),([111,114],1,2),([105,102],7,3),([108,101,110],7,1)]
def shS (j:Nat):List UInt8:=(shT.getD j ([],0,0)).1
def shL (j:Nat):Nat:=(shT.getD j ([],0,0)).2.1
def shN (j:Nat):Nat:=(shT.getD j ([],0,0)).2.2
inductive PR (α:Type) where
 | ok (x:α) (k:Nat)
 | bad (k:Nat)
 | out
def PR.then {α β:Type}:PR α→(α→Nat→PR β)→PR β
 | .ok x k,f=>f x k
 | .bad k,_=>.bad k
 | .out,_=>.out
def isK (T:List Tok) (k:Nat) (s:List UInt8):Bool:=match T[k]? with
 | some x=>x.kd != 3 && x.s == s
 | none=>false
def opkT (T:List Tok) (l k:Nat):Int:=match (List.range 19).find? (fun j=>shN j == 2 && shL j == l && isK T k (shS j)) with
 | some j=>(j:Int)
 | none=>0
def conV (t:Tok):Ex:=.mk 1 t.vk t.vn ⟨t.vs.toArray⟩ ⟨#[]⟩ []
structure PF where
 lv:Nat→Nat→PR Ex
 lp:Nat→Ex→Nat→PR Ex
 on:Nat→PR Ex
 wh:Nat→PR Ex
 ag:Nat→Nat→List Ex→Nat→PR (List Ex)
def PF.next (T:List Tok) (p:PF):PF where
 lv l k:=if l=6 then p.on k else (p.lv (l + 1) k).then (p.lp l)
 lp l x k:=if opkT T l k=0 then .ok x k else (p.lv (l + 1) (k + 1)).then fun y k'=>if l=3 then .ok (opE (opkT T l k) [x,y]) k' else p.lp l (opE (opkT T l k) [x,y]) k'
 on k:=if isK T k [45] then (p.on (k + 1)).then fun x k'=>.ok (opE 3 [x]) k' else if isK T k [110,111,116] then (p.on (k + 1)).then fun x k'=>.ok (opE 4 [x]) k' else p.wh k
 wh k:=if isK T k [40] then (p.lv 1 (k + 1)).then fun x k'=>if isK T k' [41] then .ok x (k' + 1) else .bad k'
  else if isK T k [116,114,117,101] then .ok (.mk 1 2 1 ⟨#[]⟩ ⟨#[]⟩ []) (k + 1) else if isK T k [102,97,108,115,101] then .ok (.mk 1 2 0 ⟨#[]⟩ ⟨#[]⟩ []) (k + 1)
  else if isK T k [105,102] then (p.ag 3 0 [] (k + 1)).then fun l k'=>.ok (opE 17 l) k' else if isK T k [108,101,110] then (p.ag 1 0 [] (k + 1)).then fun l k'=>.ok (opE 18 l) k'
  else match T[k]? with
   | some x=>if x.kd=2∧isKey x.s=false then .ok (refE ⟨x.s.toArray⟩) (k + 1) else if x.kd=1∨x.kd=3 then .ok (conV x) (k + 1) else .bad k
   | none=>.bad k
 ag n i acc k:=if i=n then (if isK T k [41] then .ok acc (k + 1) else .bad k)
  else if isK T k (if i=0 then [40] else [44]) then (p.lv 1 (k + 1)).then fun x k'=>p.ag n (i + 1) (acc++[x]) k' else .bad k
def yW (T:List Tok):Nat→PF
 | 0=>⟨fun _ _=>.out,fun _ _ _=>.out,fun _=>.out,fun _=>.out,fun _ _ _ _=>.out⟩
 | f + 1=>(yW T f).next T
def tW (s:List UInt8):Tok:=⟨2,s,0,0,[]⟩
def tS (s:List UInt8):Tok:=⟨4,s,0,0,[]⟩
def tkOp (op:Int):Tok:=if op=4∨15≤op then tW (sgL op) else tS (sgL op)
def mV (op:Int):List Nat:=if op=3∨op=4 then [6] else if 5≤op∧op≤16 then [if lvO op=3 then 4 else lvO op,lvO op + 1] else []
def conT (k n:Int) (sh s:List UInt8):Tok:=if k=1 then ⟨1,sh,1,n,[]⟩ else if k=2 then tW sh else ⟨3,sh,3,0,s⟩
def dK:List (List Tok)→List Tok
 | []=>[]
 | [p]=>p
 | p :: q :: r=>p++tS [44] :: dK (q :: r)
def bdT (sh:Int→Int→ByteArray→List UInt8) (op k n:Int) (s nm:ByteArray) (ps:List (List Tok)):List Tok :=
 if op=1 then [conT k n (sh k n s) s.data.toList] else if op=2 then [tW nm.data.toList] else if lvO op=7 then tkOp op :: tS [40] :: (dK ps++[tS [41]])
 else if op=3∨op=4 then tkOp op :: ps.headD [] else ps.headD []++tkOp op :: ps.tail.headD []
def brT (b:Prop) [Decidable b] (l:List Tok):List Tok:=if b then tS [40] :: (l++[tS [41]]) else l
mutual
def tkE (sh:Int→Int→ByteArray→List UInt8):Ex→Nat→List Tok
 | .mk op k n s nm args,l=>brT (lvO op < l) (bdT sh op k n s nm (tkL sh args (mV op)))
def tkL (sh:Int→Int→ByteArray→List UInt8):List Ex→List Nat→List (List Tok)
 | [],_=>[]
 | x :: r,ls=>tkE sh x (ls.headD 1) :: tkL sh r ls.tail
end
def TAt (T:List Tok) (k:Nat) (ts:List Tok):Prop:=∃ p r,T=p++(ts++r)∧p.length=k
theorem TAt.fst {T a b:List Tok} {k:Nat} (h:TAt T k (a++b)):TAt T k a:=by
 obtain ⟨p,r,e,hk⟩:=h
 exact ⟨p,b++r,by rw [e,List.append_assoc],hk⟩
theorem TAt.snd {T a b:List Tok} {k:Nat} (h:TAt T k (a++b)):TAt T (k + a.length) b:=by
 obtain ⟨p,r,e,hk⟩:=h
 exact ⟨p++a,r,by rw [e]; simp,by simp [hk]⟩
theorem TAt.tail {T b:List Tok} {t:Tok} {k:Nat} (h:TAt T k (t :: b)):TAt T (k + 1) b:=TAt.snd (a:=[t]) h
theorem TAt.get {T b:List Tok} {t:Tok} {k:Nat} (h:TAt T k (t :: b)):T[k]?=some t:=by
 obtain ⟨p,r,e,hk⟩:=h
 rw [e,List.getElem?_append_right (by omega),hk,Nat.sub_self]; rfl
theorem TAt.is {T b:List Tok} {t:Tok} {k:Nat} (h:TAt T k (t :: b)) (s:List UInt8):isK T k s=(t.kd != 3 && t.s == s):=by unfold isK; rw [h.get]
def opnT (l:Nat) (t:Tok):Int:=match (List.range 19).find? (fun j=>shN j == 2 && shL j == l && (t.kd != 3 && t.s == shS j)) with
 | some j=>(j:Int)
 | none=>0
theorem TAt.op {T b:List Tok} {t:Tok} {k:Nat} (h:TAt T k (t :: b)) (l:Nat):opkT T l k=opnT l t:=by
 unfold opkT opnT
 have e:(fun j=>shN j == 2 && shL j == l && isK T k (shS j))=fun j=>shN j == 2 && shL j == l && (t.kd != 3 && t.s == shS j):=by
  funext j
  rw [h.is]
 rw [e]
theorem opkT_end {T:List Tok} {k l:Nat} (h:T[k]?=none):opkT T l k=0:=by
 unfold opkT isK
 rw [h]
 simp only [Bool.and_false]
 rw [show (List.range 19).find? (fun _=>false)=none from rfl]
def Stop (T:List Tok) (l k:Nat):Prop:=∀ j,l < j→j≤5→opkT T j k=0
theorem opnT_cl:∀ l,l≤5→opnT l (tS [41])=0∧opnT l (tS [44])=0:=by
 intro l hl
 obtain rfl | rfl | rfl | rfl | rfl | rfl:l=0∨l=1∨l=2∨l=3∨l=4∨l=5:=by omega
 all_goals decide
theorem opnT_op {op:Int} (h1:5≤op) (h2:op≤16) (l:Nat) (hl:l≤5):opnT l (tkOp op)=if lvO op=l then op else 0:=by
 obtain rfl | rfl | rfl | rfl | rfl | rfl:l=0∨l=1∨l=2∨l=3∨l=4∨l=5:=by omega
 all_goals
  obtain rfl | rfl | rfl | rfl | rfl | rfl | rfl | rfl | rfl | rfl | rfl | rfl:op=5∨op=6∨op=7∨op=8∨op=9∨op=10∨op=11∨op=12∨op=13∨op=14∨op=15∨op=16:=by omega
  all_goals decide
def OnO (T:List Tok) (k:Nat) (x:Ex) (k':Nat):Prop:=∃ F,∀ f,F≤f→(yW T f).on k=.ok x k'
def LvO (T:List Tok) (l k:Nat) (x:Ex) (k':Nat):Prop:=∃ F,∀ f,F≤f→(yW T f).lv l k=.ok x k'
def LvC (T:List Tok) (l k:Nat) (x:Ex) (k':Nat):Prop:=∃ F c,∀ f,F≤f→(yW T (f + c)).lv l k=(yW T f).lp l x k'
section
variable {T:List Tok} {l k k':Nat} {x:Ex}
theorem LvC.ok (h:LvC T l k x k') (h0:opkT T l k'=0):LvO T l k x k':=by
 obtain ⟨F,c,h⟩:=h
 refine ⟨F + c + 1,fun f hf=>?_⟩
 obtain ⟨g,rfl⟩:∃ g,f=(g + 1) + c:=⟨f - c - 1,by omega⟩
 rw [h (g + 1) (by omega)]
 show (if opkT T l k'=0 then _ else _)=_
 rw [if_pos h0]
theorem OnO.lv (h:OnO T k x k'):LvO T 6 k x k':=by
 obtain ⟨F,h⟩:=h
 refine ⟨F + 1,fun f hf=>?_⟩
 obtain ⟨g,rfl⟩:∃ g,f=g + 1:=⟨f - 1,by omega⟩
 exact h g (by omega)
theorem LvO.down (h:LvO T (l + 1) k x k') (hl:l≤5):LvC T l k x k':=by
 obtain ⟨F,h⟩:=h
 refine ⟨F,1,fun f hf=>?_⟩
 show (if l=6 then _ else _)=_
 rw [if_neg (by omega),h f hf]; rfl
theorem LvO.all {m:Nat} (h:LvO T m k x k') (hm:m≤6) (hs:Stop T l k'):l < m→LvC T l k x k':=by
 intro hl
 obtain ⟨d,rfl⟩:∃ d,m=l + 1 + d:=⟨m - l - 1,by omega⟩
 clear hl
 induction d with
 | zero=>exact h.down (by omega)
 | succ d ih=>exact ih (((LvO.down (l:=l + 1 + d) h (by omega))).ok (hs _ (by omega) (by omega))) (by omega)
end
structure Rd (T:List Tok) (l k:Nat) (x:Ex) (k':Nat):Prop where
 on:l=6→OnO T k x k'
 ok:l≤5→Stop T l k'→opkT T l k'=0→LvO T l k x k'
 lp:l≤5→Stop T l k'→l≠3→LvC T l k x k'
theorem Rd.of_on {T:List Tok} {l k k':Nat} {x:Ex} (h:OnO T k x k'):Rd T l k x k' :=
 ⟨fun _=>h,fun hl hs h0=>(h.lv.all (Nat.le_refl 6) hs (by omega)).ok h0,fun hl hs _=>h.lv.all (Nat.le_refl 6) hs (by omega)⟩
theorem Rd.of_lv {T:List Tok} {m l k k':Nat} {x:Ex} (hm:m≤5) (hl:l≤m) (h1:Stop T m k'→(m≠3→LvC T m k x k')∧(m=3→LvO T m k x k')):Rd T l k x k':=by
 have key:Stop T m k'→opkT T m k'=0→LvO T m k x k':=fun hs h0=>by
  by_cases h3:m=3
  ·exact (h1 hs).2 h3
  ·exact ((h1 hs).1 h3).ok h0
 have st:Stop T l k'→Stop T m k':=fun hs j a b=>hs j (by omega) b
 refine ⟨fun h6=>by omega,fun _ hs h0=>?_,fun _ hs h3=>?_⟩
 ·rcases Nat.lt_or_ge l m with q | q
  ·exact ((key (st hs) (hs m q hm)).all (by omega) hs q).ok h0
  ·obtain rfl:l=m:=by omega
   exact key hs h0
 ·rcases Nat.lt_or_ge l m with q | q
  ·exact (key (st hs) (hs m q hm)).all (by omega) hs q
  ·obtain rfl:l=m:=by omega
   exact (h1 hs).1 h3
theorem rd_two {T:List Tok} {op:Int} (h5:5≤op) (h16:op≤16) {k ka kb:Nat} {a b:Ex} (ha:Rd T (if lvO op=3 then 4 else lvO op) k a ka) (hop:∀ l,l≤5→opkT T l ka=if lvO op=l then op else 0) (hb:Rd T (lvO op + 1) (ka + 1) b kb)
  (hm:1≤lvO op∧lvO op≤5):Stop T (lvO op) kb→(lvO op≠3→LvC T (lvO op) k (opE op [a,b]) kb)∧(lvO op=3→LvO T (lvO op) k (opE op [a,b]) kb):=by
 obtain ⟨m1,m5⟩:=hm
 generalize lvO op=m at *
 intro hs
 have hbo:LvO T (m + 1) (ka + 1) b kb:=by
  rcases Nat.lt_or_ge m 5 with q | q
  ·exact hb.ok (by omega) (fun j u v=>hs j (by omega) v) (hs _ (by omega) (by omega))
  ·obtain rfl:m=5:=by omega
   exact (hb.on rfl).lv
 obtain ⟨Fb,hbo⟩:=hbo
 have hop2:opkT T m ka=op:=by rw [hop m m5,if_pos rfl]
 constructor
 ·intro h3
  rw [if_neg h3] at ha
  obtain ⟨Fa,c,ha⟩:=ha.lp m5 (fun j u v=>by rw [hop j v,if_neg (by omega)]) h3
  refine ⟨Fa + Fb,c + 1,fun f hf=>?_⟩
  rw [show f + (c + 1)=(f + 1) + c by omega,ha (f + 1) (by omega)]
  show (if opkT T m ka=0 then _ else _)=_
  rw [hop2,if_neg (by omega),hbo f (by omega)]
  show (if m=3 then _ else _)=_
  rw [if_neg h3]
 ·intro h3
  subst h3
  rw [if_pos rfl] at ha
  obtain ⟨Fa,ha⟩:=ha.ok (by omega) (fun j u v=>by rw [hop j v,if_neg (by omega)]) (by rw [hop 4 (by omega),if_neg (by omega)])
  refine ⟨Fa + Fb + 2,fun f hf=>?_⟩
  obtain ⟨g,rfl⟩:∃ g,f=g + 2:=⟨f - 2,by omega⟩
  show (if 3=6 then (yW T (g + 1)).on k else ((yW T (g + 1)).lv (3 + 1) k).then ((yW T (g + 1)).lp 3))=_
  rw [if_neg (by omega),ha (g + 1) (by omega)]
  show (if opkT T 3 ka=0 then _ else _)=_
  rw [hop2,if_neg (by omega),hbo g (by omega)]
  rfl
theorem prs_on {T:List Tok} {k k':Nat} {x:Ex} (h1:isK T k [45]=false) (h2:isK T k [110,111,116]=false) (h:∃ F,∀ f,F≤f→(yW T f).wh k=.ok x k'):OnO T k x k':=by
 obtain ⟨F,h⟩:=h
 refine ⟨F + 1,fun f hf=>?_⟩
 obtain ⟨g,rfl⟩:∃ g,f=g + 1:=⟨f - 1,by omega⟩
 show (if isK T k [45]=true then _ else if isK T k [110,111,116]=true then _ else _)=_
 rw [h1,h2]
 exact h g (by omega)
theorem prs_sg {T:List Tok} {k k':Nat} {x:Ex} {op:Int} (h34:op=3∨op=4) {r:List Tok} (ha:TAt T k (tkOp op :: r)) (h:OnO T (k + 1) x k'):OnO T k (opE op [x]) k':=by
 obtain ⟨F,h⟩:=h
 refine ⟨F + 1,fun f hf=>?_⟩
 obtain ⟨g,rfl⟩:∃ g,f=g + 1:=⟨f - 1,by omega⟩
 show (if isK T k [45]=true then _ else if isK T k [110,111,116]=true then _ else _)=_
 rw [ha.is,ha.is]
 rcases h34 with rfl | rfl
 ·rw [if_pos (by decide),h g (by omega)]; rfl
 ·rw [if_neg (by decide),if_pos (by decide),h g (by omega)]; rfl
theorem prs_br {T:List Tok} {k k':Nat} {x:Ex} {ts:List Tok} (h0:TAt T k (tS [40] :: (ts++[tS [41]]))) (hk:k'=k + 1 + ts.length) (h:Rd T 1 (k + 1) x k'):OnO T k x (k' + 1):=by
 have hc:TAt T k' (tS [41] :: []):=by rw [hk]; exact h0.tail.snd
 obtain ⟨F,h⟩:=h.ok (by omega) (fun j _ q=>by rw [hc.op]; exact (opnT_cl j q).1) (by rw [hc.op]; exact (opnT_cl 1 (by omega)).1)
 refine prs_on (by rw [h0.is]; decide) (by rw [h0.is]; decide) ⟨F + 1,fun f hf=>?_⟩
 obtain ⟨g,rfl⟩:∃ g,f=g + 1:=⟨f - 1,by omega⟩
 show (if isK T k [40]=true then _ else _)=_
 rw [h0.is,if_pos (by decide),h g (by omega)]
 show (if isK T k' [41]=true then _ else _)=_
 rw [hc.is,if_pos (by decide)]
theorem prs_ag {T:List Tok} (n:Nat):∀ (ls:List Ex) (ts:List (List Tok)) (acc:List Ex) (i k:Nat),i + ls.length=n→ls.length=ts.length→(0 < i→TAt T k ((if ts=[] then [] else tS [44] :: dK ts)++[tS [41]]))→(i=0→ts≠[]∧TAt T k (tS [40] :: (dK ts++[tS [41]]))) →
  (∀ (j p:Nat) (x:Ex) (t:List Tok),ls[j]?=some x→ts[j]?=some t→TAt T p t→Rd T 1 p x (p + t.length)) →
  ∃ F,∀ f,F≤f→(yW T f).ag n i acc k=.ok (acc++ls) (k + ((if ts=[] then [] else tS [44] :: dK ts)++[tS [41]]).length)
 | [],ts,acc,i,k,hn,hl,h1,h0,hr=>by
  obtain rfl:ts=[]:=by cases ts with | nil=>rfl | cons a b=>simp at hl
  simp at hn
  have hi:0 < i:=by
   rcases Nat.eq_zero_or_pos i with q | q
   ·exact absurd rfl (h0 q).1
   ·exact q
  have ha:=h1 hi
  simp only [if_pos trivial,List.nil_append] at ha ⊢
  refine ⟨1,fun f hf=>?_⟩
  obtain ⟨g,rfl⟩:∃ g,f=g + 1:=⟨f - 1,by omega⟩
  show (if i=n then (if isK T k [41]=true then _ else _) else _)=_
  rw [if_pos hn,ha.is,if_pos (by decide),List.append_nil]; rfl
 | x :: ls,ts,acc,i,k,hn,hl,h1,h0,hr=>by
  obtain ⟨t,ts,rfl⟩:∃ t r,ts=t :: r:=by cases ts with | nil=>simp at hl | cons a b=>exact ⟨a,b,rfl⟩
  simp only [List.length_cons] at hn hl
  have hcm:dK (t :: ts)=t++(if ts=[] then [] else tS [44] :: dK ts):=by
   cases ts with
   | nil=>simp [dK]
   | cons q r=>simp [dK]
  have hne:(t :: ts=[])=False:=by simp
  simp only [hne,if_false] at h1 ⊢
  rw [hcm] at h0 h1
  have hs:isK T k (if i=0 then [40] else [44])=true∧TAt T (k + 1) (t++((if ts=[] then [] else tS [44] :: dK ts)++[tS [41]])):=by
   rcases Nat.eq_zero_or_pos i with q | q
   ·have:=(h0 q).2
    rw [if_pos q,this.is,← List.append_assoc]
    exact ⟨by decide,this.tail⟩
   ·have:=h1 q
    rw [List.cons_append] at this
    rw [if_neg (by omega:¬ i=0),this.is,← List.append_assoc]
    exact ⟨by decide,this.tail⟩
  obtain ⟨hs1,hs2⟩:=hs
  have hnx:=hs2.snd
  obtain ⟨F1,e1⟩:=(hr 0 _ x t rfl rfl hs2.fst).ok (by omega) (fun j _ q=>by
   by_cases e:ts=[]
   ·rw [if_pos e] at hnx; rw [TAt.op hnx]; exact (opnT_cl j q).1
   ·rw [if_neg e] at hnx; rw [TAt.op hnx]; exact (opnT_cl j q).2) (by
   by_cases e:ts=[]
   ·rw [if_pos e] at hnx; rw [TAt.op hnx]; exact (opnT_cl 1 (by omega)).1
   ·rw [if_neg e] at hnx; rw [TAt.op hnx]; exact (opnT_cl 1 (by omega)).2)
  obtain ⟨F2,e2⟩:=prs_ag n ls ts (acc++[x]) (i + 1) (k + 1 + t.length) (by omega) (by omega) (fun _=>hnx) (fun q=>by omega) (fun j p y u a b c=>hr (j + 1) p y u (by simpa using a) (by simpa using b) c)
  refine ⟨F1 + F2 + 1,fun f hf=>?_⟩
  obtain ⟨g,rfl⟩:∃ g,f=g + 1:=⟨f - 1,by omega⟩
  show (if i=n then _ else if isK T k (if i=0 then [40] else [44])=true then _ else _)=_
  rw [if_neg (by omega),if_pos hs1,e1 g (by omega)]
  show (yW T g).ag n (i + 1) (acc++[x]) (k + 1 + t.length)=_
  rw [e2 g (by omega),hcm]
  simp only [List.append_assoc,List.singleton_append,List.length_append,List.length_cons]
  congr 1
  omega
end Go.Proofs.YthplkompdehjlaaGreatDoor
