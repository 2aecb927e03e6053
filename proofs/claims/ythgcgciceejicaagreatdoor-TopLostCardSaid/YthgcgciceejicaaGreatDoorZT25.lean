/-
  Contracts of package value: Check at values that may not be, Show, Parse.
-/
import Derived.Test.YthgcgciceejicaaGreatDoorZT23
import Derived.Test.YthgcgciceejicaaGreatDoorZT24
import Derived.Lib.ItoaLen
import Derived.Test.YthgcgciceejicaaGreatDoorZT20
set_option maxHeartbeats 1000000
set_option maxRecDepth 100000
namespace Go.Proofs.YthgcgciceejicaaGreatDoor
open Go.RowKit Go.Sort
set_option linter.unusedVariables false
structure Lk (h:Vw):Prop where
 mx:∃ m,Cells h 0 0 [Vi m]
 tl:3 < h.w.heap.size
 tn:3 ∉ h.bad
 tb : Lib.TabIs Tryz.prog h.w "internal/strconv.uint64pow10" .u64 Lib.pow10Tab
 sy:∃ e,Cells h 4 0 [e] /\ (e=.nilIface\/∃ t p,e=.iface t p)
 rg:∃ e,Cells h 5 0 [e] /\ (e=.nilIface\/∃ t p,e=.iface t p)
theorem gTab : Tryz.prog.globalNamed "internal/strconv.uint64pow10" = some 3 := by kernel_rfl
theorem Lk.sees {h h':Vw} (l:Lk h) (s:Sees h h'):Lk h':=by
 obtain ⟨⟨m,h1⟩,h2,h3,h4,⟨e,h5,h6⟩,⟨f,h7,h8⟩⟩:=l;refine ⟨⟨m,h1.sees s⟩,Cq h2 s.size,λk=>h3 (s.bad _ k h2),?_,⟨e,h5.sees s,h6⟩,⟨f,h7.sees s,h8⟩⟩;have hb:=s.block _ h2 h3;unfold Lib.TabIs World.var? at h4 ⊢;rw [gTab] at h4 ⊢;simp only [Option.bind_some] at h4 ⊢;rw [hb]; exact h4
theorem Cells.one {h:Vw} {b:Nat} {v:Value} (c:Cells h b 0 [v]):h.w.cell? ⟨b,0,none⟩=some v:=by
 have:=c.lies 0 v rfl
 simpa using this
theorem C0.at_ {f:FuncId} {args:Array Value} {v:Value} {h:Vw} (hc:Calls Tryz.prog f args h.w λe w'=>e=.returned v /\ Below h.w.heap.size h.w w'):C0 Tryz.prog f args h (λr _=>r=v):=by
 intro _ _ _ _;refine hc.mono ?_;rintro e w' ⟨rfl,hb⟩;exact ⟨_,[],rfl,Low.of_below hb,(λx hx=>by cases hx),rfl,rfl⟩
theorem run_sidx {o:Oper} {ρ:Operand -> Value} {t:TypeId} {x y:Operand} {s:ByteArray} {i:Nat} {P:Program} {w:World} (ho:o.op=.index t x y) (hx:ρ x=.string s) (hy:ρ y=Vi (i:Int)) (ht:P.underlying t=some .string) (hi:i < s.size) :
  (execOp ρ o).run P w=.ok (.value (.int .u8 (s[i].toNat:Int))) w:=by
 unfold execOp;simp only [ho,hx,hy,Kk];rw [run_index_string w t s .i64 i ht,dif_pos (by omega)];simp [Sem.run_pure]
open Go.RowKit
theorem dig_c (c:UInt8) (h:Vw):C0 Tryz.prog 174 #[.int .u8 c.toNat] h (λr _=>r=.bool (isDig c)):=C0.of_same (digit_any c) h
theorem let_c (c:UInt8) (h:Vw):C0 Tryz.prog 171 #[.int .u8 c.toNat] h (λr _=>r=.bool (isLet c)):=C0.of_same (letter_any c) h
theorem spanW_c (s:ByteArray) (h:Vw) (hs:s.size <= 100):C0 Tryz.prog 172 #[Vt s,.func (.func 264) #[] #[]] h (λr _=>r=Vi (spanN sV s.data.toList)):=C0.of_same (λw=>span_any 264 sV s w (by omega) (λ_ _=>by rfl) (λc w=>word_any c w)) h
theorem spanD_c (s:ByteArray) (h:Vw) (hs:s.size <= 100):C0 Tryz.prog 172 #[Vt s,.func (.func 174) #[] #[]] h (λr _=>r=Vi (spanN isDig s.data.toList)):=C0.of_same (λw=>span_any 174 isDig s w (by omega) (λ_ _=>by rfl) (λc w=>digit_any c w)) h
def sgB (j:Nat):ByteArray:=⟨(signs.getD j []).toArray⟩
theorem sg_pre:∀ j,j < 7 -> (sgB j).data.toList.isPrefixOf [42,32,50]=(j == 6):=by decide
theorem pre_c (j:Nat) (hj:j < 7) (h:Vw):C0 Tryz.prog 266 #[Vt ⟨#[42,32,50]⟩,.string (sgB j)] h (λr _=>r=.bool (j == 6)):=by
 rw [<- sg_pre j hj];exact C0.of_same (hasPrefix_any ⟨#[42,32,50]⟩ (sgB j)) h
def tokV (kd:Int) (s:ByteArray) (vk vn:Int):Value:=.tuple #[.agg #[Vi kd,Vi 0,.string s,Vi vk,Vi vn,.string ⟨#[]⟩],Vi 0]
theorem one_a (h:Vw):C0 Tryz.prog 245 #[Vt ⟨#[97,32,42,32,50]⟩] h (λr _=>r=tokV 2 ⟨#[97]⟩ 0 0):=by
 refine pQ Tryz.func245 λhbx hbad Q hQ=>?_;refine go1 10 [.own] [] ?_;intro b1;refine eV (.int .u8 97) (λw=>by kernel_rfl) ?_;refine go0 41 [.cl 174 #[.int .u8 97] (.bool false),.cl 171 #[.int .u8 97] (.bool true),.cl 172 #[Vt ⟨#[97,32,42,32,50]⟩,.func (.func 264) #[] #[]] (Vi 1)] [] ?_ (ho:=(Aj (λH sH=>dig_c 97 _) (Aj (λH sH=>let_c 97 _) (Aj (λH sH=>spanW_c ⟨#[97,32,42,32,50]⟩ _ (by decide)) (trivial)))));refine eV (Vt ⟨#[97]⟩) (λw=>by kernel_rfl) ?_;refine go0 8 [.b 0 0] [] ?_;refine hQ.to [.agg #[Vi 2,Vi 0,.string ⟨#[97]⟩,Vi 0,Vi 0,Ve],Vi 0] (λH sH=>?_) (ix:=[0]);exact rfl
theorem one_b (h:Vw):C0 Tryz.prog 245 #[Vt ⟨#[98]⟩] h (λr _=>r=tokV 2 ⟨#[98]⟩ 0 0):=by
 refine pQ Tryz.func245 λhbx hbad Q hQ=>?_;refine go1 10 [.own] [] ?_;intro b1;refine eV (.int .u8 98) (λw=>by kernel_rfl) ?_;refine go0 41 [.cl 174 #[.int .u8 98] (.bool false),.cl 171 #[.int .u8 98] (.bool true),.cl 172 #[Vt ⟨#[98]⟩,.func (.func 264) #[] #[]] (Vi 1)] [] ?_ (ho:=(Aj (λH sH=>dig_c 98 _) (Aj (λH sH=>let_c 98 _) (Aj (λH sH=>spanW_c ⟨#[98]⟩ _ (by decide)) (trivial)))));refine eV (Vt ⟨#[98]⟩) (λw=>by kernel_rfl) ?_;refine go0 8 [.b 0 0] [] ?_;refine hQ.to [.agg #[Vi 2,Vi 0,.string ⟨#[98]⟩,Vi 0,Vi 0,Ve],Vi 0] (λH sH=>?_) (ix:=[0]);exact rfl
theorem number_2 (h:Vw):C0 Tryz.prog 263 #[Vt ⟨#[50]⟩] h (λr _=>r=tokV 1 ⟨#[50]⟩ 1 2):=by
 refine pQ Tryz.func263 λhbx hbad Q hQ=>?_;refine go1 37 [.own,.cl 172 #[Vt ⟨#[50]⟩,.func (.func 174) #[] #[]] (Vi 1)] [] ?_ (ho:=(Aj (λH sH=>spanD_c ⟨#[50]⟩ _ (by decide)) (trivial)));intro b1;refine yQ [0,1,0,1,1,1] [.block 0,.seq [1,1,1,1]] (λ(k:Nat) X=>∃ (W2:Vw) (vv:Int),X W2 [(0,.string ⟨#[50]⟩),(2,Vp b1),(4,Vi 1),(17,Vi 1),(18,Vi (k:Int)),(5,Vi vv)] [.box b1 [Vi 0,Vi 0,Ve,Vi 0,Vi 0,Ve]] [] /\ Sees h W2 /\ ((k=0 /\ vv=0)\/(k=1 /\ vv=2))) (λk=>1 - k) (0) (λX q=>⟨h,0,q _ _ _ _ ⟨rfl,by kernel_rfl⟩,Sees.refl _,.inl ⟨rfl,rfl⟩⟩) ?_;rintro k a w ⟨W2,vv,hJ,S3,hk⟩; refine dV hJ ?_; clear hJ a w;refine go0 6 [] [] ?_;rcases hk with ⟨rfl,rfl⟩ | ⟨rfl,rfl⟩
 ·skip;refine jV (t:=decide (0 < 1)) (rfl) ?_
  refine go0 16 [] [] ?_;refine eV (.int .u8 50) (λw=>by kernel_rfl) ?_;refine go0 20 [] [] ?_;exact iV (1) (λX q=>⟨W2,2,q _ _ _ _ ⟨rfl,by kernel_rfl⟩,S3,.inr ⟨rfl,rfl⟩⟩)
 ·skip;refine tQ (t:=decide (1 < 1)) (rfl) ?_
  refine go0 2 [] [] ?_;refine xQ ?_;refine go0 6 [] [] ?_;refine eV (Vt ⟨#[50]⟩) (λw=>by kernel_rfl) ?_;refine go0 8 [.b 0 0] [] ?_;refine hQ.to [.agg #[Vi 1,Vi 0,.string ⟨#[50]⟩,Vi 1,Vi 2,Ve],Vi 0] (λH sH=>?_) (ix:=[0]);exact rfl
theorem one_2 (h:Vw):C0 Tryz.prog 245 #[Vt ⟨#[50]⟩] h (λr _=>r=tokV 1 ⟨#[50]⟩ 1 2):=by
 refine pQ Tryz.func245 λhbx hbad Q hQ=>?_;refine go1 10 [.own] [] ?_;intro b1;refine eV (.int .u8 50) (λw=>by kernel_rfl) ?_;refine go0 25 [.cl 174 #[.int .u8 50] (.bool true),.cl 263 #[Vt ⟨#[50]⟩] (.tuple #[.agg #[Vi 1,Vi 0,.string ⟨#[50]⟩,Vi 1,Vi 2,Ve],Vi 0]),.b 0 0] [] ?_ (ho:=(Aj (λH sH=>dig_c 50 _) (Aj (λH sH=>number_2 _) (trivial))));refine hQ.to [.agg #[Vi 1,Vi 0,.string ⟨#[50]⟩,Vi 1,Vi 2,Ve],Vi 0] (λH sH=>?_) (ix:=[0]);exact rfl
theorem one_m (h:Vw):C0 Tryz.prog 245 #[Vt ⟨#[42,32,50]⟩] h (λr _=>r=tokV 4 ⟨#[42]⟩ 0 0):=by
 refine pQ Tryz.func245 λhbx hbad Q hQ=>?_;refine go1 10 [.own] [] ?_;intro b1;refine eV (.int .u8 42) (λw=>by kernel_rfl) ?_;refine go0 39 [.cl 174 #[.int .u8 42] (.bool false),.cl 171 #[.int .u8 42] (.bool false)] [] ?_ (ho:=(Aj (λH sH=>dig_c 42 _) (Aj (λH sH=>let_c 42 _) (trivial))));refine yQ [0,1,0,1,1] [.block 1,.seq [1,1,1]] (λ(j:Nat) X=>∃ (W2:Vw) ,X W2 [(0,.string ⟨#[42,32,50]⟩),(2,Vp b1),(36,.agg #[Vt ⟨#[60,61]⟩,.string ⟨#[33,61]⟩,.string ⟨#[60]⟩,.string ⟨#[61]⟩,.string ⟨#[43]⟩,.string ⟨#[45]⟩,.string ⟨#[42]⟩,.string ⟨#[47]⟩,.string ⟨#[37]⟩,.string ⟨#[38]⟩,.string ⟨#[40]⟩,.string ⟨#[41]⟩,.string ⟨#[44]⟩]),(37,Vi (j:Int))] [.box b1 [Vi 0,Vi 0,Ve,Vi 0,Vi 0,Ve]] [] /\ Sees h W2 /\ (j < 7)) (λj=>13 - j) (0) (λX q=>⟨h,q _ _ _ _ ⟨rfl,by kernel_rfl⟩,Sees.refl _,by decide⟩) ?_;rintro j a w ⟨W2,hJ,S3,hj⟩; refine dV hJ ?_; clear hJ a w;refine go0 6 [] [] ?_;have h7:j=0\/j=1\/j=2\/j=3\/j=4\/j=5\/j=6:=by omega
 have hP:=λH=>pre_c j hj H;obtain ⟨sb,hsb⟩:∃ sb,sgB j=sb:=⟨_,rfl⟩;rw [hsb] at hP;refine jV (t:=decide ((j:Int) < 13)) (Jj (by omega)) ?_;refine go0 6 [] [] ?_;refine eV (Vt sb) (λw=>by rw [<- hsb]; rcases h7 with rfl | rfl | rfl | rfl | rfl | rfl | rfl <;> kernel_rfl) ?_;refine go0 10 [.cl 266 #[Vt ⟨#[42,32,50]⟩,.string sb] (.bool (j == 6))] [] ?_ (ho:=(Aj (λH sH=>hP _) (trivial)))
 by_cases h6:j=6
 ·refine jV (t:=j == 6) (Xj.2 h6) ?_;refine go0 11 [.b 0 0] [] ?_;refine xQ ?_;refine go0 2 [] [] ?_;refine hQ.to [.agg #[Vi 4,Vi 0,.string sb,Vi 0,Vi 0,Ve],Vi 0] (λH sH=>?_) (ix:=[0]);exact by rw [<- hsb,h6]; rfl
 ·skip;refine tQ (t:=j == 6) (Lj.2 h6) ?_
  refine go0 7 [] [(45,Vi (IntKind.i64.wrap ((j:Int) + 1)),Vi ((j:Int) + 1))] ?_ (hc:=(Aj (jJ (by omega) (by omega)) (trivial)));exact iV (j + 1) (λX q=>⟨W2,q _ _ _ _ ⟨rfl,by kernel_rfl⟩,S3,by omega⟩)
theorem run_fromj {o:Oper} {ρ:Operand -> Value} {t:TypeId} {x y:Operand} {s:ByteArray} {j:Nat} {P:Program} {w:World} (ho:o.op=.slice t x (some y) none none) (hx:ρ x=.string s) (hy:ρ y=Vi (j:Int)) (ht:P.underlying t=some .string) (h1:j <= s.size) :
  (execOp ρ o).run P w=.ok (.value (Vt (s.extract j s.size))) w:=by
 unfold execOp;simp only [ho,hx,hy,Kk,Bv,Option.map_none];rw [run_sliceAt_string w t _ _ _ _ ht,run_slice_string_l w t s ht .i64 j (by omega) (by omega)];simp [Sem.run_pure]
theorem u8_32 {c:UInt8} (h:(c.toNat:Int)=32):c=32:=UInt8.toNat_inj.1 (Int.ofNat.inj h)
structure TokS (s:ByteArray) (T:List TokA) (ix:Nat -> Nat):Prop where
 few:s.size <= 100
 few2:T.length <= 100
 i0:ix 0=0
 i1:ix s.size=T.length
 sp:∀ (j:Nat) (h:j < s.size),s[j]=32 -> ix (j + 1)=ix j
 tk:∀ (j:Nat) (h:j < s.size),s[j]≠32 -> ix (j + 1)=ix j + 1 /\ ∃ t,T[ix j]?=some t /\ t.at'=j /\ t.t.vs=[] /\ t.t.s.length=1 /\ ∀ H,C0 Tryz.prog 245 #[Vt (s.extract j s.size)] H (λr _=>r=tokV t.t.kd ⟨t.t.s.toArray⟩ t.t.vk t.t.vn)
theorem tokens_c (s:ByteArray) (T:List TokA) (ix:Nat -> Nat) (hT:TokS s T ix) (h:Vw):C0 Tryz.prog 213 #[Vt s] h (λr h'=>∃ A C,r=.tuple #[.slice A T.length C,Vi 0,Vi 0] /\ RS h' 6 (.slice A T.length C) (eZ T)):=by
 have hf:=hT.few;have hf2:=hT.few2;refine pQ Tryz.func213 λhbx hbad Q hQ=>?_;refine go0 15 [] [] ?_;refine tQ (t:=decide ((s.size:Int) > 160)) (Kj (by omega)) ?_;refine go0 14 [] [] ?_;refine cV 338 6 ?_;refine yQ [0,1,0,1,1,1] [.block 0,.seq [1,1,1,1]] (λ(j:Nat) X=>∃ (W1:Vw) (v:Value) (m:Nat),X W1 [(0,.string s),(6,Vi (j:Int)),(5,v)] [.row v 338 6 (eZ (T.take m))] [] /\ Sees h W1 /\ (j <= s.size) /\ (ix j=m)) (λj=>s.size - j) (0) (λX q=>⟨h,(Vz),0,q _ _ _ _ ⟨rfl,by kernel_rfl⟩,Sees.refl _,Mj _,hT.i0⟩) ?_;rintro j a w ⟨W1,v,m,hJ,S2,hj,hm⟩; refine dV hJ ?_; clear hJ a w;refine go0 9 [] [] ?_;rcases (by omega:j < s.size\/j=s.size) with hlt | hke
 ·skip;refine jV (t:=decide ((j:Int) < (s.size:Int))) (Jj (by omega)) ?_
  refine go0 8 [] [] ?_;refine eV (.int .u8 (s[j].toNat:Int)) (λw=>run_sidx (x:=(.tmp 16)) (y:=(.tmp 17)) (t:=9) (s:=s) (i:=j) (by kernel_rfl) (by kernel_rfl) (by kernel_rfl) Tryz.underlying9 (hlt)) ?_;refine go0 3 [] [] ?_
  by_cases h32:s[j]=32
  ·refine jV (t:=(s[j].toNat:Int) == 32) ((by rw [h32]; rfl)) ?_;refine go0 10 [] [(21,Vi (IntKind.i64.wrap ((j:Int) + 1)),Vi ((j:Int) + 1))] ?_ (hc:=(Aj (jJ (by omega) (by omega)) (trivial)));exact iV (j + 1) (λX q=>⟨W1,v,m,q _ _ _ _ ⟨rfl,by kernel_rfl⟩,S2,by omega,(hT.sp j hlt h32).trans hm⟩)
  ·skip;obtain ⟨e1,t,ht,hat,hvs,hsl,hone⟩:=hT.tk j hlt h32
   rw [hm] at e1 ht;obtain ⟨sx,hsx⟩:∃ sx,(⟨t.t.s.toArray⟩:ByteArray)=sx:=⟨_,rfl⟩;have hsz:sx.size=1:=by rw [<- hsx]; show t.t.s.toArray.size=1; simpa using hsl
   rw [hsx] at hone;have hrl:(eZ (T.take m)).length <= T.length:=by rw [Ij,Ck]; omega
   refine tQ (t:=(s[j].toNat:Int) == 32) ((Lj.2 (λe=>h32 (u8_32 e)))) ?_;refine go0 6 [] [] ?_;refine eV (Vt (s.extract j s.size)) (λw=>run_fromj (x:=.tmp 23) (y:=.tmp 24) (t:=9) (by kernel_rfl) (by kernel_rfl) (by kernel_rfl) Tryz.underlying9 hj) ?_;refine gov2 40 [.cl 245 #[Vt (s.extract j s.size)] (.tuple #[.agg #[Vi t.t.kd,Vi 0,.string sx,Vi t.t.vk,Vi t.t.vn,Ve],Vi 0]),.own,.b 0 0,.b 0 1,.b 0 2,.b 0 0,.fix] [(39,Vi (IntKind.i64.wrap ((j:Int) + (sx.size:Int))),Vi ((j + 1:Nat):Int))] ?_ (ho:=(Aj (λH sH=>hone _) (trivial))) (hc:=(Aj ((by rw [show ((j:Int) + (sx.size:Int))=((j + 1:Nat):Int) by omega]; exact jJ (by omega) (by omega))) (trivial)));intro b3 b4 W5 S6;refine goa0 4 [.ap 1 0 (eZ (T.take m)) [[Vi t.t.kd,Vi (j:Int),.string sx,Vi t.t.vk,Vi t.t.vn,Ve]]] [] ?_ (ho:=(Aj (by constructor <;> (simp; omega)) (trivial)));intro v43 W7 S8;refine wQ [(0,.string s),(6,Vi ((j + 1:Nat):Int)),(5,sL v43)] [.row (sL v43) 338 6 ((eZ (T.take m))++[[Vi t.t.kd,Vi (j:Int),.string sx,Vi t.t.vk,Vi t.t.vn,Ve]])] [] ?_;exact iV (j + 1) (λX q=>⟨W7,sL v43,m + 1,q _ _ _ _ (mY (by rw [cZ _ _ t ht]; simp [eZ,tcells,hat,hvs,hsx])),(S2.trans (S6.trans S8)),by omega,e1⟩)
 ·skip;have hta:T.take m=T:=by rw [<- hm,hke,hT.i1,Pk]
  have hTl:(eZ T).length=T.length:=Ij _;rw [hta];refine uQ 0 (v:=v) (e:=338) (kk:=6) (l:=eZ T) ?_; intro A2 c2 hE_v hc_v hm_v;rw [show (eZ T).length=T.length from by first | omega | (simp; done) | (simp; omega)] at hE_v hc_v;rw [hE_v];refine tQ (t:=decide ((j:Int) < (s.size:Int))) (Kj (by omega)) ?_;refine go0 2 [] [] ?_;refine xQ ?_;refine go0 11 [] [] ?_;refine wQ [(2,.slice A2 T.length c2),(3,Vi 0),(4,Vi 0)] [.row (.slice A2 T.length c2) 338 6 (eZ T)] [] ?_;refine hQ.toJ [.slice A2 T.length c2,Vi 0,Vi 0] [] (λa w hJ=>?_);have fr:=hJ.j.rowOut0 (v:=.slice A2 T.length c2) (e:=338) (k:=6) (l:=eZ T) 0 (by kernel_rfl) rfl;exact ⟨A2,c2,rfl,fr⟩
def mkB (l:List UInt8):ByteArray:=⟨l.toArray⟩
theorem mkB_eq {s:ByteArray} {l:List UInt8} (h:s.data.toList=l):s=mkB l:=by
 apply ByteArray.ext
 apply Array.toList_inj.1
 exact h
theorem words_any (h:Vw):C0 Tryz.prog 120 #[] h (λr _=>r=.tuple #[.agg #[Vt ⟨#[]⟩,.string ⟨#[105,110,116]⟩,.string ⟨#[98,111,111,108]⟩,.string ⟨#[116,101,120,116]⟩],.agg #[Vt ⟨#[]⟩,.string ⟨#[105,110,112,117,116]⟩,.string ⟨#[102,111,114,109,117,108,97]⟩,.string ⟨#[108,111,111,107,117,112]⟩]]):=by
 refine pQ Tryz.func120 λhbx hbad Q hQ=>?_;refine go2 15 [.own,.own,.b 1 0,.b 0 0] [] ?_;intro b1 b2;refine hQ.to [.agg #[Ve,.string ⟨#[105,110,116]⟩,.string ⟨#[98,111,111,108]⟩,.string ⟨#[116,101,120,116]⟩],.agg #[Ve,.string ⟨#[105,110,112,117,116]⟩,.string ⟨#[102,111,114,109,117,108,97]⟩,.string ⟨#[108,111,111,107,117,112]⟩]] (λH sH=>?_) (ix:=[1,0]);exact rfl
def wix (a b c:List UInt8) (s:List UInt8):Int:=if a == s then 1 else if b == s then 2 else if c == s then 3 else 0
theorem bya_eq (x:List UInt8) (s:ByteArray):((⟨x.toArray⟩:ByteArray).toList == s.toList)=(x == s.data.toList):=by rw [Lib.toList_data,Lib.toList_data]
theorem index_any (a b c:List UInt8) (s:ByteArray) (h:Vw):C0 Tryz.prog 121 #[.agg #[Vt ⟨#[]⟩,.string ⟨a.toArray⟩,.string ⟨b.toArray⟩,.string ⟨c.toArray⟩],.string s] h (λr _=>r=Vi (wix a b c s.data.toList)):=by
 have ea:=bya_eq a s;have eb:=bya_eq b s;have ec:=bya_eq c s;unfold wix;generalize (a == s.data.toList)=ta at *;generalize (b == s.data.toList)=tb at *;generalize (c == s.data.toList)=tc at *;obtain ⟨xa,ha⟩:∃ x,x=(⟨a.toArray⟩:ByteArray):=⟨_,rfl⟩;obtain ⟨xb,hb⟩:∃ x,x=(⟨b.toArray⟩:ByteArray):=⟨_,rfl⟩;obtain ⟨xc,hc⟩:∃ x,x=(⟨c.toArray⟩:ByteArray):=⟨_,rfl⟩;rw [<- ha] at ea ⊢;rw [<- hb] at eb ⊢;rw [<- hc] at ec ⊢;refine pQ Tryz.func121 λhbx hbad Q hQ=>?_;refine go1 14 [.own,.b 0 0] [] ?_;intro b1;refine yQ [0,1,0,1] [.block 0,.seq [1,1]] (λ(j:Nat) X=>∃ (W2:Vw) ,X W2 [(1,.string s),(7,.agg #[Ve,.string xa,.string xb,.string xc]),(8,Vi (j:Int))] [.box b1 [Ve,.string xa,.string xb,.string xc]] [] /\ Sees h W2 /\ (j=0\/j=1\/(j=2 /\ ta=false)\/(j=3 /\ ta=false /\ tb=false)\/(j=4 /\ ta=false /\ tb=false /\ tc=false))) (λj=>4 - j) (0) (λX q=>⟨h,q _ _ _ _ ⟨rfl,by kernel_rfl⟩,Sees.refl _,.inl rfl⟩) ?_;rintro j a w ⟨W2,hJ,S3,hj⟩; refine dV hJ ?_; clear hJ a w;refine go0 6 [] [] ?_;rcases hj with j0 | j0 | ⟨j0,t1⟩ | ⟨j0,t1,t2⟩ | ⟨j0,t1,t2,t3⟩
 ·skip;refine jV (t:=decide ((j:Int) < 4)) (Jj (by omega)) ?_
  refine go0 7 [] [] ?_;refine eV (Ve) (λw=>by subst j0; kernel_rfl) ?_;refine go0 9 [] [] ?_;refine gV 14 (v:=.bool (decide ((j:Int) > 0))) (v':=.bool false) (Dj Value.bool (Kj (by omega))) ?_;refine go0 14 [] [(20,Vi (IntKind.i64.wrap ((j:Int) + 1)),Vi ((j:Int) + 1))] ?_ (hc:=(Aj (jJ (by omega) (by omega)) (trivial)));exact iV (j + 1) (λX q=>⟨W2,q _ _ _ _ ⟨rfl,by kernel_rfl⟩,S3,.inr (.inl (by omega))⟩)
 ·skip;refine jV (t:=decide ((j:Int) < 4)) (Jj (by omega)) ?_
  refine go0 7 [] [] ?_;refine eV (Vt xa) (λw=>by subst j0; kernel_rfl) ?_;refine go0 9 [] [] ?_;refine gV 14 (v:=.bool (decide ((j:Int) > 0))) (v':=.bool true) (Dj Value.bool (Jj (by omega))) ?_;refine go0 6 [] [] ?_
  by_cases c1:ta=true
  ·refine jV (t:=xa.toList == s.toList) (ea.trans c1) ?_;refine go0 9 [] [] ?_;refine xQ ?_;refine go0 2 [] [] ?_;refine hQ.to [Vi (j:Int)] (λH sH=>?_);exact Dj (Value.int .i64) (by rw [Cj c1]; omega)
  ·skip;refine tQ (t:=xa.toList == s.toList) (ea.trans (Sq.2 c1)) ?_
   refine go0 7 [] [(20,Vi (IntKind.i64.wrap ((j:Int) + 1)),Vi ((j:Int) + 1))] ?_ (hc:=(Aj (jJ (by omega) (by omega)) (trivial)));exact iV (j + 1) (λX q=>⟨W2,q _ _ _ _ ⟨rfl,by kernel_rfl⟩,S3,.inr (.inr (.inl ⟨by omega,Sq.2 c1⟩))⟩)
 ·skip;refine jV (t:=decide ((j:Int) < 4)) (Jj (by omega)) ?_
  refine go0 7 [] [] ?_;refine eV (Vt xb) (λw=>by subst j0; kernel_rfl) ?_;refine go0 9 [] [] ?_;refine gV 14 (v:=.bool (decide ((j:Int) > 0))) (v':=.bool true) (Dj Value.bool (Jj (by omega))) ?_;refine go0 6 [] [] ?_
  by_cases c1:tb=true
  ·refine jV (t:=xb.toList == s.toList) (eb.trans c1) ?_;refine go0 9 [] [] ?_;refine xQ ?_;refine go0 2 [] [] ?_;refine hQ.to [Vi (j:Int)] (λH sH=>?_);exact Dj (Value.int .i64) (by rw [t1,Bj Cx,Cj c1]; omega)
  ·skip;refine tQ (t:=xb.toList == s.toList) (eb.trans (Sq.2 c1)) ?_
   refine go0 7 [] [(20,Vi (IntKind.i64.wrap ((j:Int) + 1)),Vi ((j:Int) + 1))] ?_ (hc:=(Aj (jJ (by omega) (by omega)) (trivial)));exact iV (j + 1) (λX q=>⟨W2,q _ _ _ _ ⟨rfl,by kernel_rfl⟩,S3,.inr (.inr (.inr (.inl ⟨by omega,t1,Sq.2 c1⟩)))⟩)
 ·skip;refine jV (t:=decide ((j:Int) < 4)) (Jj (by omega)) ?_
  refine go0 7 [] [] ?_;refine eV (Vt xc) (λw=>by subst j0; kernel_rfl) ?_;refine go0 9 [] [] ?_;refine gV 14 (v:=.bool (decide ((j:Int) > 0))) (v':=.bool true) (Dj Value.bool (Jj (by omega))) ?_;refine go0 6 [] [] ?_
  by_cases c1:tc=true
  ·refine jV (t:=xc.toList == s.toList) (ec.trans c1) ?_;refine go0 9 [] [] ?_;refine xQ ?_;refine go0 2 [] [] ?_;refine hQ.to [Vi (j:Int)] (λH sH=>?_);exact Dj (Value.int .i64) (by rw [t1,t2,Bj Cx,Bj Cx,Cj c1]; omega)
  ·skip;refine tQ (t:=xc.toList == s.toList) (ec.trans (Sq.2 c1)) ?_
   refine go0 7 [] [(20,Vi (IntKind.i64.wrap ((j:Int) + 1)),Vi ((j:Int) + 1))] ?_ (hc:=(Aj (jJ (by omega) (by omega)) (trivial)));exact iV (j + 1) (λX q=>⟨W2,q _ _ _ _ ⟨rfl,by kernel_rfl⟩,S3,.inr (.inr (.inr (.inr ⟨by omega,t1,t2,Sq.2 c1⟩)))⟩)
 ·skip;refine tQ (t:=decide ((j:Int) < 4)) (Kj (by omega)) ?_
  refine go0 2 [] [] ?_;refine xQ ?_;refine go0 8 [] [] ?_;refine hQ.to [Vi 0] (λH sH=>?_);exact Dj (Value.int .i64) (by rw [t1,t2,t3]; rfl)
theorem c_cut (s sep:ByteArray) (a b:List UInt8) (f:Bool) (h:Vw) (lk:Lk h) (hs:s.size < 4294967281) (e:Lib.cut s.data.toList sep.data.toList=(a,b,f)) :
  C0 Tryz.prog 117 #[Vt s,.string sep] h (λr _=>r=.tuple #[Vt (mkB a),.string (mkB b),.bool f]):=by
 obtain ⟨m,hm⟩:=lk.mx;refine C0.at_ ((Tryz.strings_Cut s sep m h.w hs hm.one).mono λe' w' ⟨he,n,hw⟩=>⟨?_,by rw [hw]; exact below_drewN (Wj _ _) _⟩);rw [he,e]; rfl
theorem c_cutp (s p:ByteArray) (h:Vw):C0 Tryz.prog 68 #[Vt s,.string p] h (λr _=>r=.tuple #[Vt (mkB (Lib.trimPrefix s.data.toList p.data.toList)),.bool (Lib.hasPrefix s.data.toList p.data.toList)]) :=
 C0.at_ ((Tryz.strings_CutPrefix s p h.w).mono λe w' ⟨he,hw⟩=>⟨he,by rw [hw]; exact Wj _ _⟩)
theorem splitB_list (sep s:ByteArray) (l:List (List UInt8)) (e:Lib.split s.data.toList sep.data.toList=l):Lib.splitB sep 0 (Lib.countB s sep) s=l.map mkB:=by
 have h:=Lib.splitB_data sep 0 (Lib.countB s sep) s;have e2:Lib.splitK sep.data.toList 0 (Lib.countB s sep) s.data.toList=l:=e;rw [e2] at h;rw [<- h,Jv];refine (List.map_id'' (λx=>?_) _).symm;exact (mkB_eq rfl).symm
theorem c_splitC (s sep:ByteArray) (l:List (List UInt8)) (h:Vw) (lk:Lk h) (hs:s.size < 4294967281) (h1:1 <= sep.size) (e:Lib.split s.data.toList sep.data.toList=l) :
  C0 Tryz.prog 67 #[Vt s,.string sep] h (λr h'=>∃ b,r=.slice (some ⟨b,0,none⟩) l.length l.length /\ Cells h' b 0 (l.map λx=>Value.string (mkB x))):=by
 obtain ⟨m,hm⟩:=lk.mx;intro _ _ _ hbad;refine (Tryz.strings_Split s sep m h.w hs hm.one h1).mono ?_;rintro e' w' ⟨rfl,rfl⟩;have hsp:=splitB_list sep s l e;have hlen:=Lib.splitB_all sep h1 0 _ s rfl;rw [hsp,Ij] at hlen;rw [hsp, <- hlen];refine ⟨_,[],rfl,Low.of_below (Below.alloc (Wj _ _) (Hj _) _),(λx hx=>by cases hx),rfl,h.w.heap.size,rfl,?_⟩;refine ⟨by simp,λq=>absurd (hbad _ q) (Nat.lt_irrefl _),λj v hj=>?_⟩;rw [Gq,World.cell?_alloc_new,Jv,List.getElem?_toArray];exact hj
end Go.Proofs.YthgcgciceejicaaGreatDoor
