/-
  Formulas that may be; the contracts of expr.part, parts, Check.
-/
import Derived.Test.YthplkompdehjlaaGreatPR17
import Derived.Test.YthplkompdehjlaaGreatPR18
set_option maxRecDepth 100000
namespace Go.Proofs.YthplkompdehjlaaGreat
open Go.RowKit
abbrev eZ:Array Value:=#[Vt ⟨#[]⟩,Vi 0,Vi 0,.string ⟨#[]⟩,Vi 7,Vi 0,.string ⟨#[]⟩,Vi 7,Vi 0,.string ⟨#[45]⟩,Vi 6,Vi 1,.string ⟨#[110,111,116]⟩,Vi 6,Vi 1,.string ⟨#[42]⟩,Vi 5,Vi 2,.string ⟨#[47]⟩,Vi 5,Vi 2,.string ⟨#[37]⟩,Vi 5,Vi 2,.string ⟨#[43]⟩,Vi 4,Vi 2,.string ⟨#[45]⟩,Vi 4,Vi 2,.string ⟨#[38]⟩,Vi 4,Vi 2,.string ⟨#[60]⟩,Vi 3,Vi 2,.string ⟨#[60,61]⟩,Vi 3,Vi 2,.string ⟨#[61]⟩,Vi 3,Vi 2,.string ⟨#[33,61]⟩,Vi 3,Vi 2,.string ⟨#[97,110,100]⟩,Vi 2,Vi 2,.string ⟨#[111,114]⟩,Vi 1,Vi 2,.string ⟨#[105,102]⟩,Vi 7,Vi 3,.string ⟨#[108,101,110]⟩,Vi 7,Vi 1]
def arity (op:Int):Nat:=if op <= 2 then 0 else if op=3\/op=4\/op=18 then 1 else if op=17 then 3 else 2
def TopOk (x:Ex):Prop :=
 (x.op=1 /\ pJ x.k x.n x.s /\ (x.k=1 -> 0 <= x.n) /\ x.nm=⟨#[]⟩ /\ x.args.length=0) \/
 (x.op=2 /\ qJ x.nm.data.toList /\ x.k=0 /\ x.n=0 /\ x.s=⟨#[]⟩ /\ x.args.length=0) \/
 (3 <= x.op /\ x.op <= 18 /\ x.k=0 /\ x.n=0 /\ x.s=⟨#[]⟩ /\ x.nm=⟨#[]⟩ /\ x.args.length=arity x.op)
theorem c_name (s:ByteArray) (h:Vw) (hs:qJ s.data.toList):C0 Tryz.prog 118 #[Vt s] h (λv _=>v=Vi 0):=C0.of_same (λw=>name_yes s w hs) h
theorem c_known (k n:Int) (s:ByteArray) (h:Vw) (hk:pJ k n s):C0 Tryz.prog 73 #[.agg #[Vi k,Vi n,.string s]] h (λv _=>v=.bool true):=C0.of_gives (λw=>eW k n s w hk) h
theorem fZ (h:Vw):C0 Tryz.prog 191 #[] h (λv _=>v=.agg eZ):=by
 refine wQ Tryz.func191 (c:=Tryz.f191.body.getD .skip) (N:=20) ?_;intro hbx hbad Q hQ;refine go1 30 [.own,.b 0 0] [] ?_;intro b1;refine hQ.to [.agg eZ] (λH sH=>?_) (ix:=[0]);show pack _=Value.agg eZ; kernel_rfl
theorem part_const (k n:Int) (s:ByteArray) (A:Option Addr) (c:Nat) (h:Vw) (hk:pJ k n s) (hn:k=1 -> 0 <= n) :
  C0 Tryz.prog 174 #[.agg #[Vi 1,Vi k,Vi n,.string s,.string ⟨#[]⟩,.slice A 0 c]] h (λv _=>v=Vi 0):=by
 have hkn:=c_known k n s;have hkk:=aW hk;obtain rfl | rfl | rfl:k=1\/k=2\/k=3:=by omega
 ·refine wQ Tryz.func174 (c:=Tryz.f174.body.getD .skip) (N:=66) ?_;intro hbx hbad Q hQ;refine tV 24 [.fix,.f 0 0,.f 0 0] [] ?_;intro b1 W2 S3;refine lV 9 0 [.pu,.lf 0 5,.pu,.v (λgh=>.agg eZ),.pu,.lf 0 0,.pu,.pu,.pu] [] (trivial) ?_ ?_
  ·intro R hT hA hmono;refine Aj (t_v hT hA hmono (k:=191) (args:=(λgh=>#[])) (f:=λgh=>.agg eZ) (λgh H sH fH lent=>fZ _)) ?_
   trivial
  rintro W4 S5 -;refine go0 44 [.f 0 0,.f 0 4,.f 0 1,.cl 73 #[.agg #[Vi 1,Vi n,.string s]] (.bool true),.f 0 1,.f 0 2] [] ?_ (ho:=(Aj (λH sH=>hkn _ hk) (trivial)));refine yQ (t:=decide (n < 0)) (Jj (by have:=hn rfl; omega)) ?_;refine go0 9 [] [] ?_;refine hQ.to [Vi 0] (λH sH=>?_);exact rfl
 ·refine wQ Tryz.func174 (c:=Tryz.f174.body.getD .skip) (N:=66) ?_;intro hbx hbad Q hQ;refine tV 24 [.fix,.f 0 0,.f 0 0] [] ?_;intro b1 W2 S3;refine lV 9 0 [.pu,.lf 0 5,.pu,.v (λgh=>.agg eZ),.pu,.lf 0 0,.pu,.pu,.pu] [] (trivial) ?_ ?_
  ·intro R hT hA hmono;refine Aj (t_v hT hA hmono (k:=191) (args:=(λgh=>#[])) (f:=λgh=>.agg eZ) (λgh H sH fH lent=>fZ _)) ?_
   trivial
  rintro W4 S5 -;refine go0 54 [.f 0 0,.f 0 4,.f 0 1,.cl 73 #[.agg #[Vi 2,Vi n,.string s]] (.bool true),.f 0 1] [] ?_ (ho:=(Aj (λH sH=>hkn _ hk) (trivial)));refine hQ.to [Vi 0] (λH sH=>?_);exact rfl
 ·refine wQ Tryz.func174 (c:=Tryz.f174.body.getD .skip) (N:=66) ?_;intro hbx hbad Q hQ;refine tV 24 [.fix,.f 0 0,.f 0 0] [] ?_;intro b1 W2 S3;refine lV 9 0 [.pu,.lf 0 5,.pu,.v (λgh=>.agg eZ),.pu,.lf 0 0,.pu,.pu,.pu] [] (trivial) ?_ ?_
  ·intro R hT hA hmono;refine Aj (t_v hT hA hmono (k:=191) (args:=(λgh=>#[])) (f:=λgh=>.agg eZ) (λgh H sH fH lent=>fZ _)) ?_
   trivial
  rintro W4 S5 -;refine go0 54 [.f 0 0,.f 0 4,.f 0 1,.cl 73 #[.agg #[Vi 3,Vi n,.string s]] (.bool true),.f 0 1] [] ?_ (ho:=(Aj (λH sH=>hkn _ hk) (trivial)));refine hQ.to [Vi 0] (λH sH=>?_);exact rfl
theorem part_ref (s:ByteArray) (A:Option Addr) (c:Nat) (h:Vw) (hs:qJ s.data.toList) :
  C0 Tryz.prog 174 #[.agg #[Vi 2,Vi 0,Vi 0,.string ⟨#[]⟩,.string s,.slice A 0 c]] h (λv _=>v=Vi 0):=by
 have hc:=c_name s;refine wQ Tryz.func174 (c:=Tryz.f174.body.getD .skip) (N:=66) ?_;intro hbx hbad Q hQ;refine tV 24 [.fix,.f 0 0,.f 0 0] [] ?_;intro b1 W2 S3;refine lV 9 0 [.pu,.lf 0 5,.pu,.v (λgh=>.agg eZ),.pu,.lf 0 0,.pu,.pu,.pu] [] (trivial) ?_ ?_
 ·intro R hT hA hmono;refine Aj (t_v hT hA hmono (k:=191) (args:=(λgh=>#[])) (f:=λgh=>.agg eZ) (λgh H sH fH lent=>fZ _)) ?_
  trivial
 rintro W4 S5 -;refine go0 50 [.f 0 0,.f 0 4,.cl 118 #[Vt s] (Vi 0),.f 0 1] [] ?_ (ho:=(Aj (λH sH=>hc _ hs) (trivial)));refine hQ.to [Vi 0] (λH sH=>?_);exact rfl
theorem part_op (op:Int) (A:Option Addr) (c:Nat) (h:Vw) (h1:3 <= op) (h2:op <= 18) :
  C0 Tryz.prog 174 #[.agg #[Vi op,Vi 0,Vi 0,.string ⟨#[]⟩,.string ⟨#[]⟩,.slice A (arity op) c]] h (λv _=>v=Vi 0):=by
 obtain rfl | rfl | rfl | rfl | rfl | rfl | rfl | rfl | rfl | rfl | rfl | rfl | rfl | rfl | rfl | rfl:op=3\/op=4\/op=5\/op=6\/op=7\/op=8\/op=9\/op=10\/op=11\/op=12\/op=13\/op=14\/op=15\/op=16\/op=17\/op=18:=by omega
 ·rw [show arity 3=1 from rfl];refine wQ Tryz.func174 (c:=Tryz.f174.body.getD .skip) (N:=66) ?_;intro hbx hbad Q hQ;refine tV 24 [.fix,.f 0 0,.f 0 0] [] ?_;intro b1 W2 S3;refine lV 9 0 [.pu,.lf 0 5,.pu,.v (λgh=>.agg eZ),.pu,.lf 0 0,.pu,.pu,.pu] [] (trivial) ?_ ?_
  ·intro R hT hA hmono;refine Aj (t_v hT hA hmono (k:=191) (args:=(λgh=>#[])) (f:=λgh=>.agg eZ) (λgh H sH fH lent=>fZ _)) ?_
   trivial
  rintro W4 S5 -;refine go0 49 [.f 0 0,.f 0 4,.f 0 1] [] ?_;refine hQ.to [Vi 0] (λH sH=>?_);exact rfl
 ·rw [show arity 4=1 from rfl];refine wQ Tryz.func174 (c:=Tryz.f174.body.getD .skip) (N:=66) ?_;intro hbx hbad Q hQ;refine tV 24 [.fix,.f 0 0,.f 0 0] [] ?_;intro b1 W2 S3;refine lV 9 0 [.pu,.lf 0 5,.pu,.v (λgh=>.agg eZ),.pu,.lf 0 0,.pu,.pu,.pu] [] (trivial) ?_ ?_
  ·intro R hT hA hmono;refine Aj (t_v hT hA hmono (k:=191) (args:=(λgh=>#[])) (f:=λgh=>.agg eZ) (λgh H sH fH lent=>fZ _)) ?_
   trivial
  rintro W4 S5 -;refine go0 49 [.f 0 0,.f 0 4,.f 0 1] [] ?_;refine hQ.to [Vi 0] (λH sH=>?_);exact rfl
 ·rw [show arity 5=2 from rfl];refine wQ Tryz.func174 (c:=Tryz.f174.body.getD .skip) (N:=66) ?_;intro hbx hbad Q hQ;refine tV 24 [.fix,.f 0 0,.f 0 0] [] ?_;intro b1 W2 S3;refine lV 9 0 [.pu,.lf 0 5,.pu,.v (λgh=>.agg eZ),.pu,.lf 0 0,.pu,.pu,.pu] [] (trivial) ?_ ?_
  ·intro R hT hA hmono;refine Aj (t_v hT hA hmono (k:=191) (args:=(λgh=>#[])) (f:=λgh=>.agg eZ) (λgh H sH fH lent=>fZ _)) ?_
   trivial
  rintro W4 S5 -;refine go0 49 [.f 0 0,.f 0 4,.f 0 1] [] ?_;refine hQ.to [Vi 0] (λH sH=>?_);exact rfl
 ·rw [show arity 6=2 from rfl];refine wQ Tryz.func174 (c:=Tryz.f174.body.getD .skip) (N:=66) ?_;intro hbx hbad Q hQ;refine tV 24 [.fix,.f 0 0,.f 0 0] [] ?_;intro b1 W2 S3;refine lV 9 0 [.pu,.lf 0 5,.pu,.v (λgh=>.agg eZ),.pu,.lf 0 0,.pu,.pu,.pu] [] (trivial) ?_ ?_
  ·intro R hT hA hmono;refine Aj (t_v hT hA hmono (k:=191) (args:=(λgh=>#[])) (f:=λgh=>.agg eZ) (λgh H sH fH lent=>fZ _)) ?_
   trivial
  rintro W4 S5 -;refine go0 49 [.f 0 0,.f 0 4,.f 0 1] [] ?_;refine hQ.to [Vi 0] (λH sH=>?_);exact rfl
 ·rw [show arity 7=2 from rfl];refine wQ Tryz.func174 (c:=Tryz.f174.body.getD .skip) (N:=66) ?_;intro hbx hbad Q hQ;refine tV 24 [.fix,.f 0 0,.f 0 0] [] ?_;intro b1 W2 S3;refine lV 9 0 [.pu,.lf 0 5,.pu,.v (λgh=>.agg eZ),.pu,.lf 0 0,.pu,.pu,.pu] [] (trivial) ?_ ?_
  ·intro R hT hA hmono;refine Aj (t_v hT hA hmono (k:=191) (args:=(λgh=>#[])) (f:=λgh=>.agg eZ) (λgh H sH fH lent=>fZ _)) ?_
   trivial
  rintro W4 S5 -;refine go0 49 [.f 0 0,.f 0 4,.f 0 1] [] ?_;refine hQ.to [Vi 0] (λH sH=>?_);exact rfl
 ·rw [show arity 8=2 from rfl];refine wQ Tryz.func174 (c:=Tryz.f174.body.getD .skip) (N:=66) ?_;intro hbx hbad Q hQ;refine tV 24 [.fix,.f 0 0,.f 0 0] [] ?_;intro b1 W2 S3;refine lV 9 0 [.pu,.lf 0 5,.pu,.v (λgh=>.agg eZ),.pu,.lf 0 0,.pu,.pu,.pu] [] (trivial) ?_ ?_
  ·intro R hT hA hmono;refine Aj (t_v hT hA hmono (k:=191) (args:=(λgh=>#[])) (f:=λgh=>.agg eZ) (λgh H sH fH lent=>fZ _)) ?_
   trivial
  rintro W4 S5 -;refine go0 49 [.f 0 0,.f 0 4,.f 0 1] [] ?_;refine hQ.to [Vi 0] (λH sH=>?_);exact rfl
 ·rw [show arity 9=2 from rfl];refine wQ Tryz.func174 (c:=Tryz.f174.body.getD .skip) (N:=66) ?_;intro hbx hbad Q hQ;refine tV 24 [.fix,.f 0 0,.f 0 0] [] ?_;intro b1 W2 S3;refine lV 9 0 [.pu,.lf 0 5,.pu,.v (λgh=>.agg eZ),.pu,.lf 0 0,.pu,.pu,.pu] [] (trivial) ?_ ?_
  ·intro R hT hA hmono;refine Aj (t_v hT hA hmono (k:=191) (args:=(λgh=>#[])) (f:=λgh=>.agg eZ) (λgh H sH fH lent=>fZ _)) ?_
   trivial
  rintro W4 S5 -;refine go0 49 [.f 0 0,.f 0 4,.f 0 1] [] ?_;refine hQ.to [Vi 0] (λH sH=>?_);exact rfl
 ·rw [show arity 10=2 from rfl];refine wQ Tryz.func174 (c:=Tryz.f174.body.getD .skip) (N:=66) ?_;intro hbx hbad Q hQ;refine tV 24 [.fix,.f 0 0,.f 0 0] [] ?_;intro b1 W2 S3;refine lV 9 0 [.pu,.lf 0 5,.pu,.v (λgh=>.agg eZ),.pu,.lf 0 0,.pu,.pu,.pu] [] (trivial) ?_ ?_
  ·intro R hT hA hmono;refine Aj (t_v hT hA hmono (k:=191) (args:=(λgh=>#[])) (f:=λgh=>.agg eZ) (λgh H sH fH lent=>fZ _)) ?_
   trivial
  rintro W4 S5 -;refine go0 49 [.f 0 0,.f 0 4,.f 0 1] [] ?_;refine hQ.to [Vi 0] (λH sH=>?_);exact rfl
 ·rw [show arity 11=2 from rfl];refine wQ Tryz.func174 (c:=Tryz.f174.body.getD .skip) (N:=66) ?_;intro hbx hbad Q hQ;refine tV 24 [.fix,.f 0 0,.f 0 0] [] ?_;intro b1 W2 S3;refine lV 9 0 [.pu,.lf 0 5,.pu,.v (λgh=>.agg eZ),.pu,.lf 0 0,.pu,.pu,.pu] [] (trivial) ?_ ?_
  ·intro R hT hA hmono;refine Aj (t_v hT hA hmono (k:=191) (args:=(λgh=>#[])) (f:=λgh=>.agg eZ) (λgh H sH fH lent=>fZ _)) ?_
   trivial
  rintro W4 S5 -;refine go0 49 [.f 0 0,.f 0 4,.f 0 1] [] ?_;refine hQ.to [Vi 0] (λH sH=>?_);exact rfl
 ·rw [show arity 12=2 from rfl];refine wQ Tryz.func174 (c:=Tryz.f174.body.getD .skip) (N:=66) ?_;intro hbx hbad Q hQ;refine tV 24 [.fix,.f 0 0,.f 0 0] [] ?_;intro b1 W2 S3;refine lV 9 0 [.pu,.lf 0 5,.pu,.v (λgh=>.agg eZ),.pu,.lf 0 0,.pu,.pu,.pu] [] (trivial) ?_ ?_
  ·intro R hT hA hmono;refine Aj (t_v hT hA hmono (k:=191) (args:=(λgh=>#[])) (f:=λgh=>.agg eZ) (λgh H sH fH lent=>fZ _)) ?_
   trivial
  rintro W4 S5 -;refine go0 49 [.f 0 0,.f 0 4,.f 0 1] [] ?_;refine hQ.to [Vi 0] (λH sH=>?_);exact rfl
 ·rw [show arity 13=2 from rfl];refine wQ Tryz.func174 (c:=Tryz.f174.body.getD .skip) (N:=66) ?_;intro hbx hbad Q hQ;refine tV 24 [.fix,.f 0 0,.f 0 0] [] ?_;intro b1 W2 S3;refine lV 9 0 [.pu,.lf 0 5,.pu,.v (λgh=>.agg eZ),.pu,.lf 0 0,.pu,.pu,.pu] [] (trivial) ?_ ?_
  ·intro R hT hA hmono;refine Aj (t_v hT hA hmono (k:=191) (args:=(λgh=>#[])) (f:=λgh=>.agg eZ) (λgh H sH fH lent=>fZ _)) ?_
   trivial
  rintro W4 S5 -;refine go0 49 [.f 0 0,.f 0 4,.f 0 1] [] ?_;refine hQ.to [Vi 0] (λH sH=>?_);exact rfl
 ·rw [show arity 14=2 from rfl];refine wQ Tryz.func174 (c:=Tryz.f174.body.getD .skip) (N:=66) ?_;intro hbx hbad Q hQ;refine tV 24 [.fix,.f 0 0,.f 0 0] [] ?_;intro b1 W2 S3;refine lV 9 0 [.pu,.lf 0 5,.pu,.v (λgh=>.agg eZ),.pu,.lf 0 0,.pu,.pu,.pu] [] (trivial) ?_ ?_
  ·intro R hT hA hmono;refine Aj (t_v hT hA hmono (k:=191) (args:=(λgh=>#[])) (f:=λgh=>.agg eZ) (λgh H sH fH lent=>fZ _)) ?_
   trivial
  rintro W4 S5 -;refine go0 49 [.f 0 0,.f 0 4,.f 0 1] [] ?_;refine hQ.to [Vi 0] (λH sH=>?_);exact rfl
 ·rw [show arity 15=2 from rfl];refine wQ Tryz.func174 (c:=Tryz.f174.body.getD .skip) (N:=66) ?_;intro hbx hbad Q hQ;refine tV 24 [.fix,.f 0 0,.f 0 0] [] ?_;intro b1 W2 S3;refine lV 9 0 [.pu,.lf 0 5,.pu,.v (λgh=>.agg eZ),.pu,.lf 0 0,.pu,.pu,.pu] [] (trivial) ?_ ?_
  ·intro R hT hA hmono;refine Aj (t_v hT hA hmono (k:=191) (args:=(λgh=>#[])) (f:=λgh=>.agg eZ) (λgh H sH fH lent=>fZ _)) ?_
   trivial
  rintro W4 S5 -;refine go0 49 [.f 0 0,.f 0 4,.f 0 1] [] ?_;refine hQ.to [Vi 0] (λH sH=>?_);exact rfl
 ·rw [show arity 16=2 from rfl];refine wQ Tryz.func174 (c:=Tryz.f174.body.getD .skip) (N:=66) ?_;intro hbx hbad Q hQ;refine tV 24 [.fix,.f 0 0,.f 0 0] [] ?_;intro b1 W2 S3;refine lV 9 0 [.pu,.lf 0 5,.pu,.v (λgh=>.agg eZ),.pu,.lf 0 0,.pu,.pu,.pu] [] (trivial) ?_ ?_
  ·intro R hT hA hmono;refine Aj (t_v hT hA hmono (k:=191) (args:=(λgh=>#[])) (f:=λgh=>.agg eZ) (λgh H sH fH lent=>fZ _)) ?_
   trivial
  rintro W4 S5 -;refine go0 49 [.f 0 0,.f 0 4,.f 0 1] [] ?_;refine hQ.to [Vi 0] (λH sH=>?_);exact rfl
 ·rw [show arity 17=3 from rfl];refine wQ Tryz.func174 (c:=Tryz.f174.body.getD .skip) (N:=66) ?_;intro hbx hbad Q hQ;refine tV 24 [.fix,.f 0 0,.f 0 0] [] ?_;intro b1 W2 S3;refine lV 9 0 [.pu,.lf 0 5,.pu,.v (λgh=>.agg eZ),.pu,.lf 0 0,.pu,.pu,.pu] [] (trivial) ?_ ?_
  ·intro R hT hA hmono;refine Aj (t_v hT hA hmono (k:=191) (args:=(λgh=>#[])) (f:=λgh=>.agg eZ) (λgh H sH fH lent=>fZ _)) ?_
   trivial
  rintro W4 S5 -;refine go0 49 [.f 0 0,.f 0 4,.f 0 1] [] ?_;refine hQ.to [Vi 0] (λH sH=>?_);exact rfl
 ·rw [show arity 18=1 from rfl];refine wQ Tryz.func174 (c:=Tryz.f174.body.getD .skip) (N:=66) ?_;intro hbx hbad Q hQ;refine tV 24 [.fix,.f 0 0,.f 0 0] [] ?_;intro b1 W2 S3;refine lV 9 0 [.pu,.lf 0 5,.pu,.v (λgh=>.agg eZ),.pu,.lf 0 0,.pu,.pu,.pu] [] (trivial) ?_ ?_
  ·intro R hT hA hmono;refine Aj (t_v hT hA hmono (k:=191) (args:=(λgh=>#[])) (f:=λgh=>.agg eZ) (λgh H sH fH lent=>fZ _)) ?_
   trivial
  rintro W4 S5 -;refine go0 49 [.f 0 0,.f 0 4,.f 0 1] [] ?_;refine hQ.to [Vi 0] (λH sH=>?_);exact rfl
theorem part_any (x:Ex) (A:Option Addr) (c:Nat) (h:Vw) (hx:TopOk x):C0 Tryz.prog 174 #[.agg #[Vi x.op,Vi x.k,Vi x.n,.string x.s,.string x.nm,.slice A x.args.length c]] h (λv _=>v=Vi 0):=by
 rcases hx with ⟨h1,h2,h3,h4,h5⟩ | ⟨h1,h2,h3,h4,h5,h6⟩ | ⟨h1,h2,h3,h4,h5,h6,h7⟩
 ·rw [h1,h4,h5]; exact part_const _ _ _ _ _ _ h2 h3
 ·rw [h1,h3,h4,h5,h6]; exact part_ref _ _ _ _ h2
 ·rw [h3,h4,h5,h6,h7]; exact part_op _ _ _ _ h1 h2
mutual
def WfE:Ex -> Prop
 | .mk a b c d e args=>TopOk (.mk a b c d e args) /\ WfL args
def WfL:List Ex -> Prop
 | []=>True
 | x :: l=>WfE x /\ WfL l
end
theorem WfE.top {x:Ex} (h:WfE x):TopOk x:=by
 obtain ⟨a,b,c,d,e,l⟩:=x;rw [WfE] at h; exact h.1
theorem WfE.list {x:Ex} (h:WfE x):WfL x.args:=by
 obtain ⟨a,b,c,d,e,l⟩:=x;rw [WfE] at h; exact h.2
theorem WfE.mk' {x:Ex} (h1:TopOk x) (h2:WfL x.args):WfE x:=by
 obtain ⟨a,b,c,d,e,l⟩:=x;rw [WfE]; exact ⟨h1,h2⟩
theorem WfL.get {y:Ex}:∀ {l:List Ex},WfL l -> y∈l -> WfE y
 | x :: l,h,hy=>by
  rw [WfL] at h;rcases Tj.1 hy with rfl | hy
  ·exact h.1
  ·exact WfL.get h.2 hy
theorem WfL.all:∀ {l:List Ex},(∀ x∈l,WfE x) -> WfL l
 | [],_=>by rw [WfL]; trivial
 | x :: l,h=>by rw [WfL]; exact ⟨h x (by simp),WfL.all (λy hy=>h y (by simp [hy]))⟩
theorem parts_any:∀ (m:Nat) (x:Ex) (v:Value) (h:Vw),(szE x).1 <= m -> IsArgs h x v -> WfE x -> (szE x).1 < 1000000 ->
  C0 Tryz.prog 155 #[.agg #[Vi x.op,Vi x.k,Vi x.n,.string x.s,.string x.nm,v]] h (λr _=>r=Vi 0)
 | 0,x,v,h,hm,_,_,_=>by have:=szE_pos x; omega
 | m + 1,x,v,h,hm,hx,hw,hb=>by
  have IH:=parts_any m;have hse:=nZ x;obtain ⟨vs,hr,hvs⟩:=hx.form;obtain ⟨A,ca,rfl,hc1,hc2,-⟩:=hr.form;have hvl:=hvs.len;have hrl:=xK hvl;have hlen:=szL_len x.args;have hpa:=part_any x A ca;have hwt:=hw.top;have hwl:=hw.list;rw [hrl] at hc1 hr ⊢;rw [hse] at hm hb;simp only at hm hb;generalize hL:x.args.length=len at *;refine wQ Tryz.func155 (c:=Tryz.f155.body.getD .skip) (N:=25) ?_;intro hbx hbad Q hQ;refine tV 33 [.fix,.f 0 0,.cl 174 #[.agg #[Vi x.op,Vi x.k,Vi x.n,.string x.s,.string x.nm,.slice A len ca]] (Vi 0),.f 0 5] [] ?_ (ho:=(Aj (λH sH=>hpa _ hwt) (trivial)));intro b1 W2 S3;refine eV [0,1,0,1,1] [.block 0,.seq [1,1,1]] (λ(k:Nat) X=>∃ (W4:Vw) ,X W4 [(13,.slice A len ca),(14,Vi (len:Int)),(15,Vi (k:Int))] [] [(b1,0,[Vi x.op,Vi x.k,Vi x.n,.string x.s,.string x.nm,.slice A len ca])] /\ Sees W2 W4 /\ (k <= len)) (λk=>len - k) (0) (λX q=>⟨W2,q _ _ _ _ ⟨rfl,by kernel_rfl⟩,Sees.refl _,Kj _⟩) ?_;rintro k a w ⟨W4,hJ,S5,hk⟩; refine jV hJ ?_; clear hJ a w;refine go0 6 [] [] ?_;rcases (by omega:k < len\/len=k) with hlt | hke
  ·obtain ⟨y,hy⟩:∃ y,x.args[k]?=some y:=⟨_,Gj (by omega)⟩;obtain ⟨u,hu⟩:∃ u,vs[k]?=some u:=⟨_,Gj (by omega)⟩;have hyu:=AllArgs.get hvs hy hu;obtain ⟨Au,nu,cu,rfl⟩:=hyu.slice;have hym:=szL_mem (Dj hy);have hyw:=hwl.get (Dj hy);have hrow:(wK x.args vs)[k]?=some (exRow y (.slice Au nu cu)):=by show (List.zipWith exRow _ _)[k]?=_; rw [Gw,hy,hu]
   refine oV (t:=decide ((k:Int) < (len:Int))) (Mj (by omega)) ?_;refine go0 6 [] [] ?_;obtain ⟨b6,o7,rfl,-,c8⟩:=RS.row hr (hrow);refine xQ (c8.sees (S3.trans S5)) ?_;refine go1 27 [.ix b6 o7 len ca k,.f 0 0,.own,.b 0 0,.b 0 0,.cl 155 #[.agg #[Vi y.op,Vi y.k,Vi y.n,.string y.s,.string y.nm,.slice Au nu cu]] (Vi 0)] [(24,Vi (IntKind.i64.wrap ((k:Int) + 1)),Vi ((k:Int) + 1))] ?_ (ho:=(Aj (by first | omega | (simp; omega)) (Aj (λH sH=>IH y _ _ (by omega) (hyu.sees (S3.trans (S5.trans sH))) hyw (by omega)) (trivial)))) (hc:=(Aj (jJ (by omega) (by omega)) (trivial)));intro b9;exact nV (k + 1) (λX q=>⟨W4,q _ _ _ _ ⟨rfl,by kernel_rfl⟩,S5,by omega⟩) (by omega)
  ·skip;refine yQ (t:=decide ((k:Int) < (len:Int))) (Jj (by omega)) ?_
   refine go0 2 [] [] ?_;refine dV ?_;refine go0 8 [] [] ?_;refine hQ.to [Vi 0] (λH sH=>?_);exact rfl
def chkE (x:Ex):Int:=if 60 < (szE x).1 then 1 else if 12 < (szE x).2 then 4 else 0
theorem check_any (x:Ex) (v:Value) (h:Vw) (hx:IsArgs h x v) (hw:WfE x) (hb:(szE x).1 < 1000000):C0 Tryz.prog 126 #[.agg #[Vi x.op,Vi x.k,Vi x.n,.string x.s,.string x.nm,v]] h (λr _=>r=Vi (chkE x)):=by
 obtain ⟨A,na,ca,rfl⟩:=hx.slice;have hse:=λH hq=>size_any _ x (.slice A na ca) H (Ij _) hq hb;have hpa:=λH hq=>parts_any _ x (.slice A na ca) H (Ij _) hq hw hb
 by_cases g1:60 < (szE x).1
 ·refine wQ Tryz.func126 (c:=Tryz.f126.body.getD .skip) (N:=16) ?_;intro hbx hbad Q hQ;refine tV 24 [.fix,.f 0 0,.cl 154 #[.agg #[Vi x.op,Vi x.k,Vi x.n,.string x.s,.string x.nm,.slice A na ca]] (.tuple #[Vi ((szE x).1:Int),Vi ((szE x).2:Int)])] [] ?_ (ho:=(Aj (λH sH=>hse _ (hx.sees sH)) (trivial)));intro b1 W2 S3;refine oV (t:=decide (((szE x).1:Int) > 60)) (Mj (by omega)) ?_;refine go0 7 [] [] ?_;refine hQ.to [Vi 1] (λH sH=>?_);exact Ej (Value.int .i64) (by unfold chkE; rw [Cj g1])
 ·by_cases g2:12 < (szE x).2
  ·refine wQ Tryz.func126 (c:=Tryz.f126.body.getD .skip) (N:=16) ?_;intro hbx hbad Q hQ;refine tV 24 [.fix,.f 0 0,.cl 154 #[.agg #[Vi x.op,Vi x.k,Vi x.n,.string x.s,.string x.nm,.slice A na ca]] (.tuple #[Vi ((szE x).1:Int),Vi ((szE x).2:Int)])] [] ?_ (ho:=(Aj (λH sH=>hse _ (hx.sees sH)) (trivial)));intro b1 W2 S3;refine yQ (t:=decide (((szE x).1:Int) > 60)) (Jj (by omega)) ?_;refine go0 9 [] [] ?_;refine oV (t:=decide (((szE x).2:Int) > 12)) (Mj (by omega)) ?_;refine go0 7 [] [] ?_;refine hQ.to [Vi 4] (λH sH=>?_);exact Ej (Value.int .i64) (by unfold chkE; rw [Bj g1,Cj g2])
  ·refine wQ Tryz.func126 (c:=Tryz.f126.body.getD .skip) (N:=16) ?_;intro hbx hbad Q hQ;refine tV 24 [.fix,.f 0 0,.cl 154 #[.agg #[Vi x.op,Vi x.k,Vi x.n,.string x.s,.string x.nm,.slice A na ca]] (.tuple #[Vi ((szE x).1:Int),Vi ((szE x).2:Int)])] [] ?_ (ho:=(Aj (λH sH=>hse _ (hx.sees sH)) (trivial)));intro b1 W2 S3;refine yQ (t:=decide (((szE x).1:Int) > 60)) (Jj (by omega)) ?_;refine go0 9 [] [] ?_;refine yQ (t:=decide (((szE x).2:Int) > 12)) (Jj (by omega)) ?_;refine go0 10 [.f 0 0,.cl 155 #[.agg #[Vi x.op,Vi x.k,Vi x.n,.string x.s,.string x.nm,.slice A na ca]] (Vi 0)] [] ?_ (ho:=(Aj (λH sH=>hpa _ (hx.sees (S3.trans sH))) (trivial)));refine hQ.to [Vi 0] (λH sH=>?_);exact Ej (Value.int .i64) (by unfold chkE; rw [Bj g1,Bj g2])
end Go.Proofs.YthplkompdehjlaaGreat
