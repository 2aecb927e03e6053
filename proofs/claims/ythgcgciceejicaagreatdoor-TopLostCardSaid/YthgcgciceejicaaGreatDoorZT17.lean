/-
  Formulas that may be; the contracts of expr.part, parts, Check.
-/
import Derived.Test.YthgcgciceejicaaGreatDoorZT15
import Derived.Test.YthgcgciceejicaaGreatDoorZT16
set_option maxRecDepth 100000
namespace Go.Proofs.YthgcgciceejicaaGreatDoor
open Go.RowKit
abbrev qY:Array Value:=#[Vt ⟨#[]⟩,Vi 0,Vi 0,.string ⟨#[]⟩,Vi 7,Vi 0,.string ⟨#[]⟩,Vi 7,Vi 0,.string ⟨#[45]⟩,Vi 6,Vi 1,.string ⟨#[110,111,116]⟩,Vi 6,Vi 1,.string ⟨#[42]⟩,Vi 5,Vi 2,.string ⟨#[47]⟩,Vi 5,Vi 2,.string ⟨#[37]⟩,Vi 5,Vi 2,.string ⟨#[43]⟩,Vi 4,Vi 2,.string ⟨#[45]⟩,Vi 4,Vi 2,.string ⟨#[38]⟩,Vi 4,Vi 2,.string ⟨#[60]⟩,Vi 3,Vi 2,.string ⟨#[60,61]⟩,Vi 3,Vi 2,.string ⟨#[61]⟩,Vi 3,Vi 2,.string ⟨#[33,61]⟩,Vi 3,Vi 2,.string ⟨#[97,110,100]⟩,Vi 2,Vi 2,.string ⟨#[111,114]⟩,Vi 1,Vi 2,.string ⟨#[105,102]⟩,Vi 7,Vi 3,.string ⟨#[108,101,110]⟩,Vi 7,Vi 1]
abbrev rY:List Value:=[Vt ⟨#[]⟩,Vi 0,Vi 0,.string ⟨#[]⟩,Vi 7,Vi 0,.string ⟨#[]⟩,Vi 7,Vi 0,.string ⟨#[45]⟩,Vi 6,Vi 1,.string ⟨#[110,111,116]⟩,Vi 6,Vi 1,.string ⟨#[42]⟩,Vi 5,Vi 2,.string ⟨#[47]⟩,Vi 5,Vi 2,.string ⟨#[37]⟩,Vi 5,Vi 2,.string ⟨#[43]⟩,Vi 4,Vi 2,.string ⟨#[45]⟩,Vi 4,Vi 2,.string ⟨#[38]⟩,Vi 4,Vi 2,.string ⟨#[60]⟩,Vi 3,Vi 2,.string ⟨#[60,61]⟩,Vi 3,Vi 2,.string ⟨#[61]⟩,Vi 3,Vi 2,.string ⟨#[33,61]⟩,Vi 3,Vi 2,.string ⟨#[97,110,100]⟩,Vi 2,Vi 2,.string ⟨#[111,114]⟩,Vi 1,Vi 2,.string ⟨#[105,102]⟩,Vi 7,Vi 3,.string ⟨#[108,101,110]⟩,Vi 7,Vi 1]
def arity (op:Int):Nat:=if op <= 2 then 0 else if op=3\/op=4\/op=18 then 1 else if op=17 then 3 else 2
def TopOk (x:Ex):Prop :=
 (x.op=1 /\ pJ x.k x.n x.s /\ (x.k=1 -> 0 <= x.n) /\ x.nm=⟨#[]⟩ /\ x.args.length=0) \/
 (x.op=2 /\ qJ x.nm.data.toList /\ x.k=0 /\ x.n=0 /\ x.s=⟨#[]⟩ /\ x.args.length=0) \/
 (3 <= x.op /\ x.op <= 18 /\ x.k=0 /\ x.n=0 /\ x.s=⟨#[]⟩ /\ x.nm=⟨#[]⟩ /\ x.args.length=arity x.op)
theorem c_name (s:ByteArray) (h:Vw) (hs:qJ s.data.toList):C0 Tryz.prog 118 #[Vt s] h (λv _=>v=Vi 0):=C0.of_same (λw=>name_yes s w hs) h
theorem c_known (k n:Int) (s:ByteArray) (h:Vw) (hk:pJ k n s):C0 Tryz.prog 60 #[.agg #[Vi k,Vi n,.string s]] h (λv _=>v=.bool true):=C0.of_gives (λw=>wV k n s w hk) h
theorem sY (h:Vw):C0 Tryz.prog 215 #[] h (λv _=>v=.agg qY):=by
 refine pQ Tryz.func215 λhbx hbad Q hQ=>?_;refine go1 30 [.own,.b 0 0] [] ?_;intro b1;refine hQ.to [.agg qY] (λH sH=>?_) (ix:=[0]);show pack _=Value.agg qY; kernel_rfl
theorem part_const (k n:Int) (s:ByteArray) (A:Option Addr) (c:Nat) (h:Vw) (hk:pJ k n s) (hn:k=1 -> 0 <= n) :
  C0 Tryz.prog 195 #[.agg #[Vi 1,Vi k,Vi n,.string s,.string ⟨#[]⟩,.slice A 0 c]] h (λv _=>v=Vi 0):=by
 have hkn:=c_known k n s;have hkk:=known_kind hk;obtain rfl | rfl | rfl:k=1\/k=2\/k=3:=by omega
 ·refine pQ Tryz.func195 λhbx hbad Q hQ=>?_;refine oV 24 [.fix,.f 0 0,.f 0 0] [] ?_;intro b1 W2 S3;refine fV 9 0 [.pu,.lf 0 5,.pu,.v (λgh=>.agg qY),.pu,.lf 0 0,.pu,.pu,.pu] [] (trivial) ?_ ?_
  ·intro R hT hA hmono;refine Aj (t_v hT hA hmono (k:=215) (args:=(λgh=>#[])) (f:=λgh=>.agg qY) (λgh H sH fH lent=>sY _)) ?_
   trivial
  rintro W4 S5 -;refine go0 44 [.f 0 0,.f 0 4,.f 0 1,.cl 60 #[.agg #[Vi 1,Vi n,.string s]] (.bool true),.f 0 1,.f 0 2] [] ?_ (ho:=(Aj (λH sH=>hkn _ hk) (trivial)));refine tQ (t:=decide (n < 0)) (Kj (by have:=hn rfl; omega)) ?_;refine go0 9 [] [] ?_;refine hQ.to [Vi 0] (λH sH=>?_);exact rfl
 ·refine pQ Tryz.func195 λhbx hbad Q hQ=>?_;refine oV 24 [.fix,.f 0 0,.f 0 0] [] ?_;intro b1 W2 S3;refine fV 9 0 [.pu,.lf 0 5,.pu,.v (λgh=>.agg qY),.pu,.lf 0 0,.pu,.pu,.pu] [] (trivial) ?_ ?_
  ·intro R hT hA hmono;refine Aj (t_v hT hA hmono (k:=215) (args:=(λgh=>#[])) (f:=λgh=>.agg qY) (λgh H sH fH lent=>sY _)) ?_
   trivial
  rintro W4 S5 -;refine go0 54 [.f 0 0,.f 0 4,.f 0 1,.cl 60 #[.agg #[Vi 2,Vi n,.string s]] (.bool true),.f 0 1] [] ?_ (ho:=(Aj (λH sH=>hkn _ hk) (trivial)));refine hQ.to [Vi 0] (λH sH=>?_);exact rfl
 ·refine pQ Tryz.func195 λhbx hbad Q hQ=>?_;refine oV 24 [.fix,.f 0 0,.f 0 0] [] ?_;intro b1 W2 S3;refine fV 9 0 [.pu,.lf 0 5,.pu,.v (λgh=>.agg qY),.pu,.lf 0 0,.pu,.pu,.pu] [] (trivial) ?_ ?_
  ·intro R hT hA hmono;refine Aj (t_v hT hA hmono (k:=215) (args:=(λgh=>#[])) (f:=λgh=>.agg qY) (λgh H sH fH lent=>sY _)) ?_
   trivial
  rintro W4 S5 -;refine go0 54 [.f 0 0,.f 0 4,.f 0 1,.cl 60 #[.agg #[Vi 3,Vi n,.string s]] (.bool true),.f 0 1] [] ?_ (ho:=(Aj (λH sH=>hkn _ hk) (trivial)));refine hQ.to [Vi 0] (λH sH=>?_);exact rfl
theorem part_ref (s:ByteArray) (A:Option Addr) (c:Nat) (h:Vw) (hs:qJ s.data.toList) :
  C0 Tryz.prog 195 #[.agg #[Vi 2,Vi 0,Vi 0,.string ⟨#[]⟩,.string s,.slice A 0 c]] h (λv _=>v=Vi 0):=by
 have hc:=c_name s;refine pQ Tryz.func195 λhbx hbad Q hQ=>?_;refine oV 24 [.fix,.f 0 0,.f 0 0] [] ?_;intro b1 W2 S3;refine fV 9 0 [.pu,.lf 0 5,.pu,.v (λgh=>.agg qY),.pu,.lf 0 0,.pu,.pu,.pu] [] (trivial) ?_ ?_
 ·intro R hT hA hmono;refine Aj (t_v hT hA hmono (k:=215) (args:=(λgh=>#[])) (f:=λgh=>.agg qY) (λgh H sH fH lent=>sY _)) ?_
  trivial
 rintro W4 S5 -;refine go0 50 [.f 0 0,.f 0 4,.cl 118 #[Vt s] (Vi 0),.f 0 1] [] ?_ (ho:=(Aj (λH sH=>hc _ hs) (trivial)));refine hQ.to [Vi 0] (λH sH=>?_);exact rfl
theorem part_op (op:Int) (A:Option Addr) (c:Nat) (h:Vw) (h1:3 <= op) (h2:op <= 18) :
  C0 Tryz.prog 195 #[.agg #[Vi op,Vi 0,Vi 0,.string ⟨#[]⟩,.string ⟨#[]⟩,.slice A (arity op) c]] h (λv _=>v=Vi 0):=by
 obtain rfl | rfl | rfl | rfl | rfl | rfl | rfl | rfl | rfl | rfl | rfl | rfl | rfl | rfl | rfl | rfl:op=3\/op=4\/op=5\/op=6\/op=7\/op=8\/op=9\/op=10\/op=11\/op=12\/op=13\/op=14\/op=15\/op=16\/op=17\/op=18:=by omega
 ·rw [show arity 3=1 from rfl];refine pQ Tryz.func195 λhbx hbad Q hQ=>?_;refine oV 24 [.fix,.f 0 0,.f 0 0] [] ?_;intro b1 W2 S3;refine fV 9 0 [.pu,.lf 0 5,.pu,.v (λgh=>.agg qY),.pu,.lf 0 0,.pu,.pu,.pu] [] (trivial) ?_ ?_
  ·intro R hT hA hmono;refine Aj (t_v hT hA hmono (k:=215) (args:=(λgh=>#[])) (f:=λgh=>.agg qY) (λgh H sH fH lent=>sY _)) ?_
   trivial
  rintro W4 S5 -;refine go0 49 [.f 0 0,.f 0 4,.f 0 1] [] ?_;refine hQ.to [Vi 0] (λH sH=>?_);exact rfl
 ·rw [show arity 4=1 from rfl];refine pQ Tryz.func195 λhbx hbad Q hQ=>?_;refine oV 24 [.fix,.f 0 0,.f 0 0] [] ?_;intro b1 W2 S3;refine fV 9 0 [.pu,.lf 0 5,.pu,.v (λgh=>.agg qY),.pu,.lf 0 0,.pu,.pu,.pu] [] (trivial) ?_ ?_
  ·intro R hT hA hmono;refine Aj (t_v hT hA hmono (k:=215) (args:=(λgh=>#[])) (f:=λgh=>.agg qY) (λgh H sH fH lent=>sY _)) ?_
   trivial
  rintro W4 S5 -;refine go0 49 [.f 0 0,.f 0 4,.f 0 1] [] ?_;refine hQ.to [Vi 0] (λH sH=>?_);exact rfl
 ·rw [show arity 5=2 from rfl];refine pQ Tryz.func195 λhbx hbad Q hQ=>?_;refine oV 24 [.fix,.f 0 0,.f 0 0] [] ?_;intro b1 W2 S3;refine fV 9 0 [.pu,.lf 0 5,.pu,.v (λgh=>.agg qY),.pu,.lf 0 0,.pu,.pu,.pu] [] (trivial) ?_ ?_
  ·intro R hT hA hmono;refine Aj (t_v hT hA hmono (k:=215) (args:=(λgh=>#[])) (f:=λgh=>.agg qY) (λgh H sH fH lent=>sY _)) ?_
   trivial
  rintro W4 S5 -;refine go0 49 [.f 0 0,.f 0 4,.f 0 1] [] ?_;refine hQ.to [Vi 0] (λH sH=>?_);exact rfl
 ·rw [show arity 6=2 from rfl];refine pQ Tryz.func195 λhbx hbad Q hQ=>?_;refine oV 24 [.fix,.f 0 0,.f 0 0] [] ?_;intro b1 W2 S3;refine fV 9 0 [.pu,.lf 0 5,.pu,.v (λgh=>.agg qY),.pu,.lf 0 0,.pu,.pu,.pu] [] (trivial) ?_ ?_
  ·intro R hT hA hmono;refine Aj (t_v hT hA hmono (k:=215) (args:=(λgh=>#[])) (f:=λgh=>.agg qY) (λgh H sH fH lent=>sY _)) ?_
   trivial
  rintro W4 S5 -;refine go0 49 [.f 0 0,.f 0 4,.f 0 1] [] ?_;refine hQ.to [Vi 0] (λH sH=>?_);exact rfl
 ·rw [show arity 7=2 from rfl];refine pQ Tryz.func195 λhbx hbad Q hQ=>?_;refine oV 24 [.fix,.f 0 0,.f 0 0] [] ?_;intro b1 W2 S3;refine fV 9 0 [.pu,.lf 0 5,.pu,.v (λgh=>.agg qY),.pu,.lf 0 0,.pu,.pu,.pu] [] (trivial) ?_ ?_
  ·intro R hT hA hmono;refine Aj (t_v hT hA hmono (k:=215) (args:=(λgh=>#[])) (f:=λgh=>.agg qY) (λgh H sH fH lent=>sY _)) ?_
   trivial
  rintro W4 S5 -;refine go0 49 [.f 0 0,.f 0 4,.f 0 1] [] ?_;refine hQ.to [Vi 0] (λH sH=>?_);exact rfl
 ·rw [show arity 8=2 from rfl];refine pQ Tryz.func195 λhbx hbad Q hQ=>?_;refine oV 24 [.fix,.f 0 0,.f 0 0] [] ?_;intro b1 W2 S3;refine fV 9 0 [.pu,.lf 0 5,.pu,.v (λgh=>.agg qY),.pu,.lf 0 0,.pu,.pu,.pu] [] (trivial) ?_ ?_
  ·intro R hT hA hmono;refine Aj (t_v hT hA hmono (k:=215) (args:=(λgh=>#[])) (f:=λgh=>.agg qY) (λgh H sH fH lent=>sY _)) ?_
   trivial
  rintro W4 S5 -;refine go0 49 [.f 0 0,.f 0 4,.f 0 1] [] ?_;refine hQ.to [Vi 0] (λH sH=>?_);exact rfl
 ·rw [show arity 9=2 from rfl];refine pQ Tryz.func195 λhbx hbad Q hQ=>?_;refine oV 24 [.fix,.f 0 0,.f 0 0] [] ?_;intro b1 W2 S3;refine fV 9 0 [.pu,.lf 0 5,.pu,.v (λgh=>.agg qY),.pu,.lf 0 0,.pu,.pu,.pu] [] (trivial) ?_ ?_
  ·intro R hT hA hmono;refine Aj (t_v hT hA hmono (k:=215) (args:=(λgh=>#[])) (f:=λgh=>.agg qY) (λgh H sH fH lent=>sY _)) ?_
   trivial
  rintro W4 S5 -;refine go0 49 [.f 0 0,.f 0 4,.f 0 1] [] ?_;refine hQ.to [Vi 0] (λH sH=>?_);exact rfl
 ·rw [show arity 10=2 from rfl];refine pQ Tryz.func195 λhbx hbad Q hQ=>?_;refine oV 24 [.fix,.f 0 0,.f 0 0] [] ?_;intro b1 W2 S3;refine fV 9 0 [.pu,.lf 0 5,.pu,.v (λgh=>.agg qY),.pu,.lf 0 0,.pu,.pu,.pu] [] (trivial) ?_ ?_
  ·intro R hT hA hmono;refine Aj (t_v hT hA hmono (k:=215) (args:=(λgh=>#[])) (f:=λgh=>.agg qY) (λgh H sH fH lent=>sY _)) ?_
   trivial
  rintro W4 S5 -;refine go0 49 [.f 0 0,.f 0 4,.f 0 1] [] ?_;refine hQ.to [Vi 0] (λH sH=>?_);exact rfl
 ·rw [show arity 11=2 from rfl];refine pQ Tryz.func195 λhbx hbad Q hQ=>?_;refine oV 24 [.fix,.f 0 0,.f 0 0] [] ?_;intro b1 W2 S3;refine fV 9 0 [.pu,.lf 0 5,.pu,.v (λgh=>.agg qY),.pu,.lf 0 0,.pu,.pu,.pu] [] (trivial) ?_ ?_
  ·intro R hT hA hmono;refine Aj (t_v hT hA hmono (k:=215) (args:=(λgh=>#[])) (f:=λgh=>.agg qY) (λgh H sH fH lent=>sY _)) ?_
   trivial
  rintro W4 S5 -;refine go0 49 [.f 0 0,.f 0 4,.f 0 1] [] ?_;refine hQ.to [Vi 0] (λH sH=>?_);exact rfl
 ·rw [show arity 12=2 from rfl];refine pQ Tryz.func195 λhbx hbad Q hQ=>?_;refine oV 24 [.fix,.f 0 0,.f 0 0] [] ?_;intro b1 W2 S3;refine fV 9 0 [.pu,.lf 0 5,.pu,.v (λgh=>.agg qY),.pu,.lf 0 0,.pu,.pu,.pu] [] (trivial) ?_ ?_
  ·intro R hT hA hmono;refine Aj (t_v hT hA hmono (k:=215) (args:=(λgh=>#[])) (f:=λgh=>.agg qY) (λgh H sH fH lent=>sY _)) ?_
   trivial
  rintro W4 S5 -;refine go0 49 [.f 0 0,.f 0 4,.f 0 1] [] ?_;refine hQ.to [Vi 0] (λH sH=>?_);exact rfl
 ·rw [show arity 13=2 from rfl];refine pQ Tryz.func195 λhbx hbad Q hQ=>?_;refine oV 24 [.fix,.f 0 0,.f 0 0] [] ?_;intro b1 W2 S3;refine fV 9 0 [.pu,.lf 0 5,.pu,.v (λgh=>.agg qY),.pu,.lf 0 0,.pu,.pu,.pu] [] (trivial) ?_ ?_
  ·intro R hT hA hmono;refine Aj (t_v hT hA hmono (k:=215) (args:=(λgh=>#[])) (f:=λgh=>.agg qY) (λgh H sH fH lent=>sY _)) ?_
   trivial
  rintro W4 S5 -;refine go0 49 [.f 0 0,.f 0 4,.f 0 1] [] ?_;refine hQ.to [Vi 0] (λH sH=>?_);exact rfl
 ·rw [show arity 14=2 from rfl];refine pQ Tryz.func195 λhbx hbad Q hQ=>?_;refine oV 24 [.fix,.f 0 0,.f 0 0] [] ?_;intro b1 W2 S3;refine fV 9 0 [.pu,.lf 0 5,.pu,.v (λgh=>.agg qY),.pu,.lf 0 0,.pu,.pu,.pu] [] (trivial) ?_ ?_
  ·intro R hT hA hmono;refine Aj (t_v hT hA hmono (k:=215) (args:=(λgh=>#[])) (f:=λgh=>.agg qY) (λgh H sH fH lent=>sY _)) ?_
   trivial
  rintro W4 S5 -;refine go0 49 [.f 0 0,.f 0 4,.f 0 1] [] ?_;refine hQ.to [Vi 0] (λH sH=>?_);exact rfl
 ·rw [show arity 15=2 from rfl];refine pQ Tryz.func195 λhbx hbad Q hQ=>?_;refine oV 24 [.fix,.f 0 0,.f 0 0] [] ?_;intro b1 W2 S3;refine fV 9 0 [.pu,.lf 0 5,.pu,.v (λgh=>.agg qY),.pu,.lf 0 0,.pu,.pu,.pu] [] (trivial) ?_ ?_
  ·intro R hT hA hmono;refine Aj (t_v hT hA hmono (k:=215) (args:=(λgh=>#[])) (f:=λgh=>.agg qY) (λgh H sH fH lent=>sY _)) ?_
   trivial
  rintro W4 S5 -;refine go0 49 [.f 0 0,.f 0 4,.f 0 1] [] ?_;refine hQ.to [Vi 0] (λH sH=>?_);exact rfl
 ·rw [show arity 16=2 from rfl];refine pQ Tryz.func195 λhbx hbad Q hQ=>?_;refine oV 24 [.fix,.f 0 0,.f 0 0] [] ?_;intro b1 W2 S3;refine fV 9 0 [.pu,.lf 0 5,.pu,.v (λgh=>.agg qY),.pu,.lf 0 0,.pu,.pu,.pu] [] (trivial) ?_ ?_
  ·intro R hT hA hmono;refine Aj (t_v hT hA hmono (k:=215) (args:=(λgh=>#[])) (f:=λgh=>.agg qY) (λgh H sH fH lent=>sY _)) ?_
   trivial
  rintro W4 S5 -;refine go0 49 [.f 0 0,.f 0 4,.f 0 1] [] ?_;refine hQ.to [Vi 0] (λH sH=>?_);exact rfl
 ·rw [show arity 17=3 from rfl];refine pQ Tryz.func195 λhbx hbad Q hQ=>?_;refine oV 24 [.fix,.f 0 0,.f 0 0] [] ?_;intro b1 W2 S3;refine fV 9 0 [.pu,.lf 0 5,.pu,.v (λgh=>.agg qY),.pu,.lf 0 0,.pu,.pu,.pu] [] (trivial) ?_ ?_
  ·intro R hT hA hmono;refine Aj (t_v hT hA hmono (k:=215) (args:=(λgh=>#[])) (f:=λgh=>.agg qY) (λgh H sH fH lent=>sY _)) ?_
   trivial
  rintro W4 S5 -;refine go0 49 [.f 0 0,.f 0 4,.f 0 1] [] ?_;refine hQ.to [Vi 0] (λH sH=>?_);exact rfl
 ·rw [show arity 18=1 from rfl];refine pQ Tryz.func195 λhbx hbad Q hQ=>?_;refine oV 24 [.fix,.f 0 0,.f 0 0] [] ?_;intro b1 W2 S3;refine fV 9 0 [.pu,.lf 0 5,.pu,.v (λgh=>.agg qY),.pu,.lf 0 0,.pu,.pu,.pu] [] (trivial) ?_ ?_
  ·intro R hT hA hmono;refine Aj (t_v hT hA hmono (k:=215) (args:=(λgh=>#[])) (f:=λgh=>.agg qY) (λgh H sH fH lent=>sY _)) ?_
   trivial
  rintro W4 S5 -;refine go0 49 [.f 0 0,.f 0 4,.f 0 1] [] ?_;refine hQ.to [Vi 0] (λH sH=>?_);exact rfl
theorem part_any (x:Ex) (A:Option Addr) (c:Nat) (h:Vw) (hx:TopOk x):C0 Tryz.prog 195 #[.agg #[Vi x.op,Vi x.k,Vi x.n,.string x.s,.string x.nm,.slice A x.args.length c]] h (λv _=>v=Vi 0):=by
 rcases hx with ⟨h1,h2,h3,h4,h5⟩ | ⟨h1,h2,h3,h4,h5,h6⟩ | ⟨h1,h2,h3,h4,h5,h6,h7⟩
 ·rw [h1,h4,h5]; exact part_const _ _ _ _ _ _ h2 h3
 ·rw [h1,h3,h4,h5,h6]; exact part_ref _ _ _ _ h2
 ·rw [h3,h4,h5,h6,h7]; exact part_op _ _ _ _ h1 h2
mutual
def WfE:Ex -> Prop
 | .mk a b c d e args=>TopOk (.mk a b c d e args) /\ WfL args
def WfL:List Ex -> Prop
 | []=>True
 | x :: l=>WfE x /\ WfL l
end
theorem WfE.top {x:Ex} (h:WfE x):TopOk x:=by
 obtain ⟨a,b,c,d,e,l⟩:=x;rw [WfE] at h; exact h.1
theorem WfE.list {x:Ex} (h:WfE x):WfL x.args:=by
 obtain ⟨a,b,c,d,e,l⟩:=x;rw [WfE] at h; exact h.2
theorem WfE.mk' {x:Ex} (h1:TopOk x) (h2:WfL x.args):WfE x:=by
 obtain ⟨a,b,c,d,e,l⟩:=x;rw [WfE]; exact ⟨h1,h2⟩
theorem WfL.get {y:Ex}:∀ {l:List Ex},WfL l -> y∈l -> WfE y
 | x :: l,h,hy=>by
  rw [WfL] at h;rcases Tj.1 hy with rfl | hy
  ·exact h.1
  ·exact WfL.get h.2 hy
theorem WfL.all:∀ {l:List Ex},(∀ x∈l,WfE x) -> WfL l
 | [],_=>by rw [WfL]; trivial
 | x :: l,h=>by rw [WfL]; exact ⟨h x (by simp),WfL.all (λy hy=>h y (by simp [hy]))⟩
theorem parts_any:∀ (m:Nat) (x:Ex) (v:Value) (h:Vw),(szE x).1 <= m -> IsArgs h x v -> WfE x -> (szE x).1 < 1000000 ->
  C0 Tryz.prog 156 #[.agg #[Vi x.op,Vi x.k,Vi x.n,.string x.s,.string x.nm,v]] h (λr _=>r=Vi 0)
 | 0,x,v,h,hm,_,_,_=>by have:=szE_pos x; omega
 | m + 1,x,v,h,hm,hx,hw,hb=>by
  have IH:=parts_any m;have hse:=zY x;obtain ⟨vs,hr,hvs⟩:=hx.form;obtain ⟨A,ca,rfl,hc1,hc2,-⟩:=hr.form;have hvl:=hvs.len;have hrl:=sK hvl;have hlen:=szL_len x.args;have hpa:=part_any x A ca;have hwt:=hw.top;have hwl:=hw.list;rw [hrl] at hc1 hr ⊢;rw [hse] at hm hb;simp only at hm hb;generalize hL:x.args.length=len at *;refine pQ Tryz.func156 λhbx hbad Q hQ=>?_;refine oV 33 [.fix,.f 0 0,.cl 195 #[.agg #[Vi x.op,Vi x.k,Vi x.n,.string x.s,.string x.nm,.slice A len ca]] (Vi 0),.f 0 5] [] ?_ (ho:=(Aj (λH sH=>hpa _ hwt) (trivial)));intro b1 W2 S3;refine yQ [0,1,0,1,1] [.block 0,.seq [1,1,1]] (λ(k:Nat) X=>∃ (W4:Vw) ,X W4 [(13,.slice A len ca),(14,Vi (len:Int)),(15,Vi (k:Int))] [] [(b1,0,[Vi x.op,Vi x.k,Vi x.n,.string x.s,.string x.nm,.slice A len ca])] /\ Sees W2 W4 /\ (k <= len)) (λk=>len - k) (0) (λX q=>⟨W2,q _ _ _ _ ⟨rfl,by kernel_rfl⟩,Sees.refl _,Mj _⟩) ?_;rintro k a w ⟨W4,hJ,S5,hk⟩; refine dV hJ ?_; clear hJ a w;refine go0 6 [] [] ?_;rcases (by omega:k < len\/len=k) with hlt | hke
  ·obtain ⟨y,hy⟩:∃ y,x.args[k]?=some y:=⟨_,Gj (by omega)⟩;obtain ⟨u,hu⟩:∃ u,vs[k]?=some u:=⟨_,Gj (by omega)⟩;have hyu:=AllArgs.get hvs hy hu;obtain ⟨Au,nu,cu,rfl⟩:=hyu.slice;have hym:=szL_mem (Ej hy);have hyw:=hwl.get (Ej hy);have hrow:(rK x.args vs)[k]?=some (exRow y (.slice Au nu cu)):=by show (List.zipWith exRow _ _)[k]?=_; rw [Dw,hy,hu]
   refine jV (t:=decide ((k:Int) < (len:Int))) (Jj (by omega)) ?_;refine go0 6 [] [] ?_;obtain ⟨b6,o7,rfl,-,c8⟩:=RS.row hr (hrow);refine qQ (c8.sees (S3.trans S5)) ?_;refine go1 27 [.ix b6 o7 len ca k,.f 0 0,.own,.b 0 0,.b 0 0,.cl 156 #[.agg #[Vi y.op,Vi y.k,Vi y.n,.string y.s,.string y.nm,.slice Au nu cu]] (Vi 0)] [(24,Vi (IntKind.i64.wrap ((k:Int) + 1)),Vi ((k:Int) + 1))] ?_ (ho:=(Aj (by first | omega | (simp; omega)) (Aj (λH sH=>IH y _ _ (by omega) (hyu.sees (S3.trans (S5.trans sH))) hyw (by omega)) (trivial)))) (hc:=(Aj (jJ (by omega) (by omega)) (trivial)));intro b9;exact iV (k + 1) (λX q=>⟨W4,q _ _ _ _ ⟨rfl,by kernel_rfl⟩,S5,by omega⟩)
  ·skip;refine tQ (t:=decide ((k:Int) < (len:Int))) (Kj (by omega)) ?_
   refine go0 2 [] [] ?_;refine xQ ?_;refine go0 8 [] [] ?_;refine hQ.to [Vi 0] (λH sH=>?_);exact rfl
def chkE (x:Ex):Int:=if 60 < (szE x).1 then 1 else if 12 < (szE x).2 then 4 else 0
theorem check_any (x:Ex) (v:Value) (h:Vw) (hx:IsArgs h x v) (hw:WfE x) (hb:(szE x).1 < 1000000):C0 Tryz.prog 107 #[.agg #[Vi x.op,Vi x.k,Vi x.n,.string x.s,.string x.nm,v]] h (λr _=>r=Vi (chkE x)):=by
 obtain ⟨A,na,ca,rfl⟩:=hx.slice;have hse:=λH hq=>size_any _ x (.slice A na ca) H (Hj _) hq hb;have hpa:=λH hq=>parts_any _ x (.slice A na ca) H (Hj _) hq hw hb
 by_cases g1:60 < (szE x).1
 ·refine pQ Tryz.func107 λhbx hbad Q hQ=>?_;refine oV 24 [.fix,.f 0 0,.cl 155 #[.agg #[Vi x.op,Vi x.k,Vi x.n,.string x.s,.string x.nm,.slice A na ca]] (.tuple #[Vi ((szE x).1:Int),Vi ((szE x).2:Int)])] [] ?_ (ho:=(Aj (λH sH=>hse _ (hx.sees sH)) (trivial)));intro b1 W2 S3;refine jV (t:=decide (((szE x).1:Int) > 60)) (Jj (by omega)) ?_;refine go0 7 [] [] ?_;refine hQ.to [Vi 1] (λH sH=>?_);exact Dj (Value.int .i64) (by unfold chkE; rw [Cj g1])
 ·by_cases g2:12 < (szE x).2
  ·refine pQ Tryz.func107 λhbx hbad Q hQ=>?_;refine oV 24 [.fix,.f 0 0,.cl 155 #[.agg #[Vi x.op,Vi x.k,Vi x.n,.string x.s,.string x.nm,.slice A na ca]] (.tuple #[Vi ((szE x).1:Int),Vi ((szE x).2:Int)])] [] ?_ (ho:=(Aj (λH sH=>hse _ (hx.sees sH)) (trivial)));intro b1 W2 S3;refine tQ (t:=decide (((szE x).1:Int) > 60)) (Kj (by omega)) ?_;refine go0 9 [] [] ?_;refine jV (t:=decide (((szE x).2:Int) > 12)) (Jj (by omega)) ?_;refine go0 7 [] [] ?_;refine hQ.to [Vi 4] (λH sH=>?_);exact Dj (Value.int .i64) (by unfold chkE; rw [Bj g1,Cj g2])
  ·refine pQ Tryz.func107 λhbx hbad Q hQ=>?_;refine oV 24 [.fix,.f 0 0,.cl 155 #[.agg #[Vi x.op,Vi x.k,Vi x.n,.string x.s,.string x.nm,.slice A na ca]] (.tuple #[Vi ((szE x).1:Int),Vi ((szE x).2:Int)])] [] ?_ (ho:=(Aj (λH sH=>hse _ (hx.sees sH)) (trivial)));intro b1 W2 S3;refine tQ (t:=decide (((szE x).1:Int) > 60)) (Kj (by omega)) ?_;refine go0 9 [] [] ?_;refine tQ (t:=decide (((szE x).2:Int) > 12)) (Kj (by omega)) ?_;refine go0 10 [.f 0 0,.cl 156 #[.agg #[Vi x.op,Vi x.k,Vi x.n,.string x.s,.string x.nm,.slice A na ca]] (Vi 0)] [] ?_ (ho:=(Aj (λH sH=>hpa _ (hx.sees (S3.trans sH))) (trivial)));refine hQ.to [Vi 0] (λH sH=>?_);exact Dj (Value.int .i64) (by unfold chkE; rw [Bj g1,Bj g2])
set_option linter.unusedVariables false
def sgL (op:Int):List UInt8 :=
 if op=3 then [45] else if op=4 then [110,111,116] else if op=5 then [42] else if op=6 then [47] else if op=7 then [37] else if op=8 then [43]
 else if op=9 then [45] else if op=10 then [38] else if op=11 then [60] else if op=12 then [60,61] else if op=13 then [61] else if op=14 then [33,61]
 else if op=15 then [97,110,100] else if op=16 then [111,114] else if op=17 then [105,102] else if op=18 then [108,101,110] else []
def lvO (op:Int):Nat:=if op <= 2 then 7 else if op <= 4 then 6 else if op <= 7 then 5 else if op <= 10 then 4 else if op <= 14 then 3 else if op=15 then 2 else if op=16 then 1 else 7
def shT:List (List UInt8 × Nat × Nat):=[([],0,0),([],7,0),([],7,0),([45],6,1),([110,111,116],6,1),([42],5,2),([47],5,2),([37],5,2),([43],4,2),([45],4,2),([38],4,2),([60],3,2),([60,61],3,2),([61],3,2),([33,61],3,2),([97,110,100],2,2),([111,114],1,2),([105,102],7,3),([108,101,110],7,1)]
def shS (j:Nat):List UInt8:=(shT.getD j ([],0,0)).1
def shL (j:Nat):Nat:=(shT.getD j ([],0,0)).2.1
def shN (j:Nat):Nat:=(shT.getD j ([],0,0)).2.2
inductive PR (α:Type) where
 | ok (x:α) (k:Nat)
 | bad (k:Nat)
 | out
def PR.then {α β:Type}:PR α -> (α -> Nat -> PR β) -> PR β
 | .ok x k,f=>f x k
 | .bad k,_=>.bad k
 | .out,_=>.out
def isK (T:List Tok) (k:Nat) (s:List UInt8):Bool:=match T[k]? with
 | some x=>x.kd != 3 && x.s == s
 | none=>false
def opkT (T:List Tok) (l k:Nat):Int:=match (List.range 19).find? (λj=>shN j == 2 && shL j == l && isK T k (shS j)) with
 | some j=>(j:Int)
 | none=>0
def conV (t:Tok):Ex:=.mk 1 t.vk t.vn ⟨t.vs.toArray⟩ ⟨#[]⟩ []
structure PF where
 lv:Nat -> Nat -> PR Ex
 lp:Nat -> Ex -> Nat -> PR Ex
 on:Nat -> PR Ex
 wh:Nat -> PR Ex
 ag:Nat -> Nat -> List Ex -> Nat -> PR (List Ex)
def PF.next (T:List Tok) (p:PF):PF where
 lv l k:=if l=6 then p.on k else (p.lv (l + 1) k).then (p.lp l)
 lp l x k:=if opkT T l k=0 then .ok x k else (p.lv (l + 1) (k + 1)).then λy k'=>if l=3 then .ok (opE (opkT T l k) [x,y]) k' else p.lp l (opE (opkT T l k) [x,y]) k'
 on k:=if isK T k [45] then (p.on (k + 1)).then λx k'=>.ok (opE 3 [x]) k' else if isK T k [110,111,116] then (p.on (k + 1)).then λx k'=>.ok (opE 4 [x]) k' else p.wh k
 wh k:=if isK T k [40] then (p.lv 1 (k + 1)).then λx k'=>if isK T k' [41] then .ok x (k' + 1) else .bad k'
  else if isK T k [116,114,117,101] then .ok (.mk 1 2 1 ⟨#[]⟩ ⟨#[]⟩ []) (k + 1) else if isK T k [102,97,108,115,101] then .ok (.mk 1 2 0 ⟨#[]⟩ ⟨#[]⟩ []) (k + 1)
  else if isK T k [105,102] then (p.ag 3 0 [] (k + 1)).then λl k'=>.ok (opE 17 l) k' else if isK T k [108,101,110] then (p.ag 1 0 [] (k + 1)).then λl k'=>.ok (opE 18 l) k'
  else match T[k]? with
   | some x=>if x.kd=2 /\ isKey x.s=false then .ok (refE ⟨x.s.toArray⟩) (k + 1) else if x.kd=1\/x.kd=3 then .ok (conV x) (k + 1) else .bad k
   | none=>.bad k
 ag n i acc k:=if i=n then (if isK T k [41] then .ok acc (k + 1) else .bad k)
  else if isK T k (if i=0 then [40] else [44]) then (p.lv 1 (k + 1)).then λx k'=>p.ag n (i + 1) (acc++[x]) k' else .bad k
def prsF (T:List Tok):Nat -> PF
 | 0=>⟨λ_ _=>.out,λ_ _ _=>.out,λ_=>.out,λ_=>.out,λ_ _ _ _=>.out⟩
 | f + 1=>(prsF T f).next T
def tW (s:List UInt8):Tok:=⟨2,s,0,0,[]⟩
def tS (s:List UInt8):Tok:=⟨4,s,0,0,[]⟩
def tkOp (op:Int):Tok:=if op=4\/15 <= op then tW (sgL op) else tS (sgL op)
def lvsO (op:Int):List Nat:=if op=3\/op=4 then [6] else if 5 <= op /\ op <= 16 then [if lvO op=3 then 4 else lvO op,lvO op + 1] else []
def conT (k n:Int) (sh s:List UInt8):Tok:=if k=1 then ⟨1,sh,1,n,[]⟩ else if k=2 then tW sh else ⟨3,sh,3,0,s⟩
def commaT:List (List Tok) -> List Tok
 | []=>[]
 | [p]=>p
 | p :: q :: r=>p++tS [44] :: commaT (q :: r)
def bdT (sh:Int -> Int -> ByteArray -> List UInt8) (op k n:Int) (s nm:ByteArray) (ps:List (List Tok)):List Tok :=
 if op=1 then [conT k n (sh k n s) s.data.toList] else if op=2 then [tW nm.data.toList] else if lvO op=7 then tkOp op :: tS [40] :: (commaT ps++[tS [41]])
 else if op=3\/op=4 then tkOp op :: ps.headD [] else ps.headD []++tkOp op :: ps.tail.headD []
def brT (b:Prop) [Decidable b] (l:List Tok):List Tok:=if b then tS [40] :: (l++[tS [41]]) else l
mutual
def tkE (sh:Int -> Int -> ByteArray -> List UInt8):Ex -> Nat -> List Tok
 | .mk op k n s nm args,l=>brT (lvO op < l) (bdT sh op k n s nm (tkL sh args (lvsO op)))
def tkL (sh:Int -> Int -> ByteArray -> List UInt8):List Ex -> List Nat -> List (List Tok)
 | [],_=>[]
 | x :: r,ls=>tkE sh x (ls.headD 1) :: tkL sh r ls.tail
end
def TAt (T:List Tok) (k:Nat) (ts:List Tok):Prop:=∃ p r,T=p++(ts++r) /\ p.length=k
theorem TAt.get {T b:List Tok} {t:Tok} {k:Nat} (h:TAt T k (t :: b)):T[k]?=some t:=by
 obtain ⟨p,r,e,hk⟩:=h;rw [e,Tw (by omega),hk,Cw]; rfl
theorem TAt.is {T b:List Tok} {t:Tok} {k:Nat} (h:TAt T k (t :: b)) (s:List UInt8):isK T k s=(t.kd != 3 && t.s == s):=by unfold isK; rw [h.get]
theorem opkT_end {T:List Tok} {k l:Nat} (h:T[k]?=none):opkT T l k=0:=by
 unfold opkT isK;rw [h];simp only [Bool.and_false];rw [show (List.range 19).find? (λ_=>false)=none from rfl]
def Stop (T:List Tok) (l k:Nat):Prop:=∀ j,l < j -> j <= 5 -> opkT T j k=0
def OnO (T:List Tok) (k:Nat) (x:Ex) (k':Nat):Prop:=∃ F,∀ f,F <= f -> (prsF T f).on k=.ok x k'
def LvO (T:List Tok) (l k:Nat) (x:Ex) (k':Nat):Prop:=∃ F,∀ f,F <= f -> (prsF T f).lv l k=.ok x k'
def LvC (T:List Tok) (l k:Nat) (x:Ex) (k':Nat):Prop:=∃ F c,∀ f,F <= f -> (prsF T (f + c)).lv l k=(prsF T f).lp l x k'
section
variable {T:List Tok} {l k k':Nat} {x:Ex}
theorem LvC.ok (h:LvC T l k x k') (h0:opkT T l k'=0):LvO T l k x k':=by
 obtain ⟨F,c,h⟩:=h;refine ⟨F + c + 1,λf hf=>?_⟩;obtain ⟨g,rfl⟩:∃ g,f=(g + 1) + c:=⟨f - c - 1,by omega⟩;rw [h (g + 1) (by omega)];show (if opkT T l k'=0 then _ else _)=_;rw [Cj h0]
theorem LvO.down (h:LvO T (l + 1) k x k') (hl:l <= 5):LvC T l k x k':=by
 obtain ⟨F,h⟩:=h;refine ⟨F,1,λf hf=>?_⟩;show (if l=6 then _ else _)=_;rw [Bj (by omega),h f hf]; rfl
theorem LvO.all {m:Nat} (h:LvO T m k x k') (hm:m <= 6) (hs:Stop T l k'):l < m -> LvC T l k x k':=by
 intro hl;obtain ⟨d,rfl⟩:∃ d,m=l + 1 + d:=⟨m - l - 1,by omega⟩;clear hl
 induction d with
 | zero=>exact h.down (by omega)
 | succ d ih=>exact ih (((LvO.down (l:=l + 1 + d) h (by omega))).ok (hs _ (by omega) (by omega))) (by omega)
end
structure Rd (T:List Tok) (l k:Nat) (x:Ex) (k':Nat):Prop where
 on:l=6 -> OnO T k x k'
 ok:l <= 5 -> Stop T l k' -> opkT T l k'=0 -> LvO T l k x k'
 lp:l <= 5 -> Stop T l k' -> l≠3 -> LvC T l k x k'
end Go.Proofs.YthgcgciceejicaaGreatDoor
