/-
  Contracts of the generator's formulas: several arguments. The contract of the generator's formulas.
-/
import Derived.Test.YthckljafinhepaaGreatZM20
import Derived.Test.YthckljafinhepaaGreatZM3
import Derived.Test.YthckljafinhepaaGreatZM17
import Derived.Test.YthckljafinhepaaGreatZM22
import Derived.Test.YthckljafinhepaaGreatZM24
import Derived.Test.YthckljafinhepaaGreatZM8
import Derived.RangeFuncNested
import Derived.RangeFuncBound
import Derived.RangeFuncCalls
import Derived.RangeFuncLeaves
import Derived.RangeFuncBox
import Derived.Shelf.Abstract
import Derived.WalkKit
import Derived.OwnWalkIn
import Derived.TacticsInMore
import Derived.LoopNIn
import Derived.LoopIn
import Derived.Laws.EntriesVeiled
import Derived.Maps.OwnIn
import Derived.Maps.Own
import Derived.Maps.Range
import Derived.Sort.KeysCollected
set_option maxRecDepth 100000
namespace Go.Proofs.YthckljafinhepaaGreat
open Go.RowKit
abbrev zQ (l:List Int):List (List Value):=l.map (fun k=>[.int .i64 k])
def ExprC (l:List RawD) (fs:List Fd) (d:Nat):Prop :=
 ∀ (g:Nat) (sl:Value) (n:Nat) (kind:Int) (fv:Value) (m:List Nat) (h:Vw),RS h 4 sl (l.map RawD.cs)→n + bnd d < 100000→1≤kind→kind≤3→IsFds ⟨h.w,m⟩ fv fs→g∈m →
  C1 Tryz.prog 55 #[.pointer (some ⟨g,0,none⟩),.int .i64 kind,fv,.int .i64 (d:Int)] h g [sl,.int .i64 (n:Int)]
   (fun v cs' h'=>∃ u,v=.agg #[.int .i64 ((iJ l fs d kind n).1).op,.int .i64 ((iJ l fs d kind n).1).k,.int .i64 ((iJ l fs d kind n).1).n,.string ((iJ l fs d kind n).1).s,.string ((iJ l fs d kind n).1).nm,.slice (sA u) (sN u) (sC u)]∧cs'=[sl,.int .i64 (((iJ l fs d kind n).2:Nat):Int)]∧IsArgs h' (iJ l fs d kind n).1 (.slice (sA u) (sN u) (sC u)))
theorem many_any (l:List RawD) (fs:List Fd) (d:Nat) (hd:d < 1000) (IH:ExprC l fs d) (g:Nat) (sl:Value) (n:Nat) (op:Int) (ks:List Int) (kv fv:Value) (b4 b6 b7:Nat) (m:List Nat) (h:Vw) (hr:RS h 4 sl (l.map RawD.cs)) (hn:n + 3 * bnd d < 100000) (hks:ks.length≤3)
  (hk1:∀ k∈ks,1≤k∧k≤3) (hkv:RS h 1 kv (zQ ks)) (hf:IsFds ⟨h.w,m⟩ fv fs) (hg:g∈m) (f4:Cells h b4 0 [.pointer (some ⟨g,0,none⟩)]) (f6:Cells h b6 0 [fv]) (f7:Cells h b7 0 [.int .i64 ((d + 1:Nat):Int)]) :
  C1 Tryz.prog 86 #[.int .i64 op,kv,.pointer (some ⟨b4,0,none⟩),.pointer (some ⟨b6,0,none⟩),.pointer (some ⟨b7,0,none⟩)] h g [sl,.int .i64 (n:Int)]
   (fun v cs' h'=>∃ u,v=.agg #[.int .i64 (opE op (dJ (iJ l fs d) ks n).1).op,.int .i64 (opE op (dJ (iJ l fs d) ks n).1).k,.int .i64 (opE op (dJ (iJ l fs d) ks n).1).n,.string (opE op (dJ (iJ l fs d) ks n).1).s,.string (opE op (dJ (iJ l fs d) ks n).1).nm,.slice (sA u) (sN u) (sC u)]∧cs'=[sl,.int .i64 (((dJ (iJ l fs d) ks n).2:Nat):Int)]∧IsArgs h' (opE op (dJ (iJ l fs d) ks n).1) (.slice (sA u) (sN u) (sC u))):=by
 obtain ⟨A,cap,rfl,hc1,hc2,-⟩:=hkv.form
 rw [List.length_map] at hc1 hkv ⊢
 have hm:∀ b∈[g],b∈m:=fun b hb=>by simp at hb; rw [hb]; exact hg
 generalize hL:ks.length=len at *
 refine fY Tryz.func86 (c:=Tryz.f86.body.getD .skip) (N:=32) ?_
 intro hbx hbad Q hQ a w hJ
 replace hJ:K ⟨32,h.w,h.bad,[g]⟩ [(0,Vi op),(1,.slice A len cap),(2,Vp b4),(3,Vp b6),(4,Vp b7)] [.box g [sl,Vi (n:Int)]] [] h a w:=hJ.tw
 replace hJ:=hJ.fact (f4.sees (Sees.refl _))
 replace hJ:=hJ.fact (f6.sees (Sees.refl _))
 replace hJ:=hJ.fact (f7.sees (Sees.refl _))
 replace hJ:=hJ.nilrow 41 6
 refine rk' hJ false 22 [.own,.own,.b 0 0] [] (.new fun b1=>.new fun b2=>.f (.code [0,1,0,1,1]) [.block 0,.seq [1,1,1]] [2,3,4] [(7,Vp b1),(8,Vp b2),(13,.slice A len cap),(14,Vi (len:Int)),(15,Vi 0)] [.box b2 [Vi op,Vi 0,Vi 0,Ve,Ve,Vz],.box b1 [Vi 0,Vi 0,Vi 0,Ve,Ve,Vz],.row (Vz) 41 6 ([]),.box g [sl,Vi (n:Int)]] [.o 0,.o 1,.o 2]) (hr:=fun b1 b2 _=>by kernel_rfl) ?_
 clear hJ a w; intro b1 b2 a w hJ
 refine kY (fun (k:Nat) a w=>∃ (h3:Vw) (v:Value) (vs:List Value),K ⟨32,h.w,h.bad,[g]⟩ [(2,Vp b4),(3,Vp b6),(4,Vp b7),(7,Vp b1),(8,Vp b2),(13,.slice A len cap),(14,Vi (len:Int)),(15,Vi (k:Int))] [.box b2 [Vi op,Vi 0,Vi 0,Ve,Ve,v],.box b1 [Vi 0,Vi 0,Vi 0,Ve,Ve,Vz],.row v 41 6 (sK (dJ (iJ l fs d) (ks.take k) n).1 vs),.box g [sl,Vi (((dJ (iJ l fs d) (ks.take k) n).2:Nat):Int)]] [(b7,0,[Vi ((d + 1:Nat):Int)]),(b6,0,[fv]),(b4,0,[Vp g])] h3 a w∧Sees h h3∧(k≤len)∧(AllArgs h3 (dJ (iJ l fs d) (ks.take k) n).1 vs)) (fun k=>len - k) (0) ⟨h,(Vz),[],hJ.tw,Sees.refl _,Nat.zero_le _,by unfold dJ AllArgs; rfl⟩ ?_
 clear hJ a w; rintro k a w ⟨h3,v,vs,hJ,s4,hk,hvs⟩
 refine rk' hJ false 6 [] [] (.k (.code [0,1,0,0,1,0,1,1]) [.seq [1,1,0,0,1,0,1,1]] [2,3,4,7,8,13,14,15] [(16,.bool (decide ((k:Int) < (len:Int))))]) ?_
 clear hJ a w; intro a w hJ
 have hle:=manyE_le (genE_le l fs d) (ks.take k) n
 rcases (by omega:k < len∨len=k) with hlt | hke
 ·obtain ⟨kk,hkk⟩:∃ x,ks[k]?=some x:=⟨_,List.getElem?_eq_getElem (by omega)⟩
  have hki:(zQ ks)[k]?=some [.int .i64 kk]:=by rw [List.getElem?_map,hkk]; rfl
  obtain ⟨q1,q2⟩:=hk1 kk (List.mem_of_getElem? hkk)
  have hms:=manyE_snoc (iJ l fs d) kk (ks.take k) n
  rw [← tX ks k kk hkk] at hms
  have hlt2:(ks.take k).length * bnd d≤2 * bnd d:=Nat.mul_le_mul_right _ (by rw [List.length_take]; omega)
  have hvl:=hvs.len
  have hxl:(dJ (iJ l fs d) (ks.take k) n).1.length≤k:=by
   have:∀ (one:Int→Nat→Ex × Nat) (l:List Int) (n:Nat),(dJ one l n).1.length=l.length:=by
    intro one l
    induction l with
    | nil=>intro n; rfl
    | cons x l ih=>intro n; show ((dJ one l (one x n).2).1.length + 1)=l.length + 1; rw [ih]
   rw [this,List.length_take]; omega
  generalize dJ (iJ l fs d) (ks.take k) n=p at *
  have hIH:=fun H m' hr' hf' hg'=>IH g sl p.2 kk fv m' H hr' (by omega) q1 q2 hf' hg'
  generalize iJ l fs d kk p.2=q at *
  have hrl:=tK hvl
  refine qY hJ (t:=decide ((k:Int) < (len:Int))) (decide_eq_true (by omega)) ?_
  refine rk' hJ false 6 [] [] (.k (.ops [0,0,0,1,1,0,0,1,0,1,1] 0) [.seq [1,0,0,1,1,0,0,1,0,1,1],.block 1,.seq [1,1,1,0,0,1,0,1,1]] [2,3,4,7,8,13,14,15] []) ?_
  clear hJ a w; intro a w hJ
  obtain ⟨b5,o6,rfl,-,c7⟩:=RS.row hkv (hki)
  replace hJ:=hJ.fact (c7.sees s4)
  refine rk' hJ false 5 [.ix b5 o6 len cap k,.f 0 0] [] (.k (.code [1,0,0,1,1,0,0,1,0,1,1]) [.block 1,.seq [1,1,1,0,0,1,0,1,1]] [2,3,4,7,8,13,14,15] [(10,Vi kk)]) (ho:=And.intro (by first | omega | (simp; omega)) (trivial)) ?_
  clear hJ a w; intro a w hJ
  let R:Reg:=⟨⟨32,h.w,h.bad,[g]⟩,[(0,19,fun gh=>.pointer (some ⟨b2,5,none⟩)),(1,20,fun gh=>v),(2,21,fun gh=>Vp g),(3,22,fun gh=>Vi kk),(4,23,fun gh=>fv),(5,24,fun gh=>Vi ((d + 1:Nat):Int)),(6,25,fun gh=>Vi (d:Int)),(7,26,fun gh=>.agg #[Vi q.1.op,Vi q.1.k,Vi q.1.n,.string q.1.s,.string q.1.nm,.slice (sA (gh 7)) (sN (gh 7)) (sC (gh 7))]),(8,27,fun gh=>.slice (some ⟨(zJ (gh 8)),0,none⟩) 1 1),(9,28,fun gh=>.slice (sA (gh 9)) (sN (gh 9)) (sC (gh 9))),(10,29,fun gh=>.pointer (some ⟨b2,5,none⟩))],[(2,Vp b4),(3,Vp b6),(4,Vp b7),(7,Vp b1),(8,Vp b2),(13,.slice (some ⟨b5,o6,none⟩) len cap),(14,Vi (len:Int)),(15,Vi (k:Int)),(10,Vi kk)],[⟨some (.box b2 [Vi op,Vi 0,Vi 0,Ve,Ve,v]),[(11,fun gh=>.box b2 [Vi op,Vi 0,Vi 0,Ve,Ve,.slice (sA (gh 9)) (sN (gh 9)) (sC (gh 9))])]⟩,⟨some (.box b1 [Vi 0,Vi 0,Vi 0,Ve,Ve,Vz]),[]⟩,⟨some (.row v 41 6 (sK (p).1 vs)),[(9,fun gh=>.row (.slice (sA (gh 9)) (sN (gh 9)) (sC (gh 9))) 41 6 ((sK (p).1 vs)++[[Vi q.1.op,Vi q.1.k,Vi q.1.n,.string q.1.s,.string q.1.nm,.slice (sA (gh 7)) (sN (gh 7)) (sC (gh 7))]]))]⟩,⟨some (.box g [sl,Vi (((p).2:Nat):Int)]),[(7,fun gh=>.box g [sl,Vi ((q.2:Nat):Int)])]⟩],[(7,fun gh hh=>IsArgs hh q.1 (.slice (sA (gh 7)) (sN (gh 7)) (sC (gh 7)))),(8,fun gh hh=>Cells hh (zJ (gh 8)) 0 [Vi q.1.op,Vi q.1.k,Vi q.1.n,.string q.1.s,.string q.1.nm,.slice (sA (gh 7)) (sN (gh 7)) (sC (gh 7))])],[[],[0],[],[],[],[],[5],[2,3,4,5,6],[2,3,4,5,6,7],[0,1,2,3,4,5,6,7,8],[0,1,2,3,4,5,6,7,8,9],[0,1,2,3,4,5,6,7,8,9,10]],h3⟩
  have hmono:∀ zq∈R.F,∀ zx zh zi,Sees zh zi→zq.2 zx zh→zq.2 zx zi:=jV (fun _ _ _ s c=>c.sees s) (jV (fun _ _ _ s c=>c.sees s) (lJ))
  refine oY (by kernel_rfl) R hJ 12 [.pu,.ld 0 5,.lf 3 0,.pu,.lf 2 0,.lf 1 0,.cl,.cl,.cl,.cl,.pu,.st 0 5] (by kernel_rfl) hmono (fun _ _ _=>by kernel_rfl) (fun hT hA=>?_) ?_
  ·clear hJ
   refine And.intro (sW hT hA 25 (fun gh=>Vi (d:Int)) [5] 6 (fun gh w=>gX (v0:=Vi (IntKind.i64.wrap (((d + 1:Nat):Int) - 1))) (by kernel_rfl) (dec_wrap d (by omega)))) ?_
   refine And.intro (r_call1 hT hA hmono ⟨fun _ _=>by kernel_rfl,fun _ _=>by kernel_rfl,fun _ _=>by kernel_rfl⟩ 26 (fun u=>.agg #[Vi q.1.op,Vi q.1.k,Vi q.1.n,.string q.1.s,.string q.1.nm,.slice (sA u) (sN u) (sC u)]) [2,3,4,6] 7 (by kernel_rfl) (fun _=>by kernel_rfl) 3 ⟨some (.box g [sl,Vi (((p).2:Nat):Int)]),[(7,fun gh=>.box g [sl,Vi ((q.2:Nat):Int)])]⟩ (by kernel_rfl) (by kernel_rfl) (by kernel_rfl) g (fun gh=>[sl,Vi (((p).2:Nat):Int)]) (fun gh=>[sl,Vi ((q.2:Nat):Int)]) (fun _=>by kernel_rfl) (fun _=>by kernel_rfl) 55 (fun gh=>#[Vp g,Vi kk,fv,Vi (d:Int)]) (fun _ _=>by kernel_rfl) (fun gh H sH fH lent=>C1.facts (R:=R) (x:=gh) (N':=fun gh=>[sl,Vi ((q.2:Nat):Int)]) (i:=7) (n:=0) (F:=(fun u=>.agg #[Vi q.1.op,Vi q.1.k,Vi q.1.n,.string q.1.s,.string q.1.nm,.slice (sA u) (sN u) (sC u)])) (N:=fun u=>[sl,Vi ((q.2:Nat):Int)]) (G:=fun u hh=>IsArgs hh q.1 (.slice (sA u) (sN u) (sC u))) (f:=fun gh hh=>IsArgs hh q.1 (.slice (sA (gh 7)) (sN (gh 7)) (sC (gh 7)))) (by obtain ⟨m',hgm,sm⟩:=lent m hm; exact hIH H m' (hr.sees (s4.trans sH)) (hf.sees sm) hgm) (by kernel_rfl) (by kernel_rfl) (fun _=>by kernel_rfl) (fun _ _ r=>r))) ?_
   refine And.intro (r_fact hT hA hmono ⟨fun _ _=>by kernel_rfl,fun _ _=>by kernel_rfl,fun _ _=>by kernel_rfl⟩ 27 (fun g=>Vs g 1 1) [7] 8 (by kernel_rfl) (by kernel_rfl) (fun _=>by kernel_rfl) (fun gh=>[Vi q.1.op,Vi q.1.k,Vi q.1.n,.string q.1.s,.string q.1.nm,.slice (sA (gh 7)) (sN (gh 7)) (sC (gh 7))]) 41 (fun _ _=>by kernel_rfl) (fun gh zb zH zc zj zq zhq zhe=>own_fact (i:=8) (k:=1) (f:=fun gh hh=>Cells hh (zJ (gh 8)) 0 [Vi q.1.op,Vi q.1.k,Vi q.1.n,.string q.1.s,.string q.1.nm,.slice (sA (gh 7)) (sN (gh 7)) (sC (gh 7))]) (by kernel_rfl) (by kernel_rfl) zc zj zq zhq zhe)) ?_
   refine And.intro (r_append hT hA hmono ⟨fun _ _=>by kernel_rfl,fun _ _=>by kernel_rfl,fun _ _=>by kernel_rfl⟩ (by kernel_rfl) 28 [1,7,8] 9 (by kernel_rfl) (fun _=>by kernel_rfl) 2 ⟨some (.row v 41 6 (sK (p).1 vs)),[(9,fun gh=>.row (.slice (sA (gh 9)) (sN (gh 9)) (sC (gh 9))) 41 6 ((sK (p).1 vs)++[[Vi q.1.op,Vi q.1.k,Vi q.1.n,.string q.1.s,.string q.1.nm,.slice (sA (gh 7)) (sN (gh 7)) (sC (gh 7))]]))]⟩ (by kernel_rfl) (by kernel_rfl) (by kernel_rfl) (fun gh=>v) 39 41 6 (fun gh=>sK (p).1 vs) (fun gh=>[[Vi q.1.op,Vi q.1.k,Vi q.1.n,.string q.1.s,.string q.1.nm,.slice (sA (gh 7)) (sN (gh 7)) (sC (gh 7))]]) (fun _=>by kernel_rfl) (fun _=>by kernel_rfl) (fun _ _=>by kernel_rfl) (.tmp 20) (.tmp 27) (by kernel_rfl) (by kernel_rfl) (fun gh=>(zJ (gh 8))) 1 1 (fun _=>by kernel_rfl) (fun _=>by kernel_rfl) 1 8 (fun gh hh=>Cells hh (zJ (gh 8)) 0 [Vi q.1.op,Vi q.1.k,Vi q.1.n,.string q.1.s,.string q.1.nm,.slice (sA (gh 7)) (sN (gh 7)) (sC (gh 7))]) (by kernel_rfl) (by kernel_rfl) (fun _ _ c=>c) Tryz.underlying39 (zv:=.agg #[Vi 0,Vi 0,Vi 0,Ve,Ve,Vz]) (bytes:=80) (by kernel_rfl) (by kernel_rfl) (fun _=>by kernel_rfl) (fun _=>by constructor <;> (rw [hrl]; omega))) ?_
   trivial
  clear hJ a w; intro gh h10 a w sR hJ1 hF; have s11:Sees h3 h10:=sR; clear sR
  have hJ:K ⟨32,h.w,h.bad,[g]⟩ [(2,Vp b4),(3,Vp b6),(4,Vp b7),(7,Vp b1),(8,Vp b2),(13,.slice (some ⟨b5,o6,none⟩) len cap),(14,Vi (len:Int)),(15,Vi (k:Int))] [.box b2 [Vi op,Vi 0,Vi 0,Ve,Ve,.slice (sA (gh 9)) (sN (gh 9)) (sC (gh 9))],.box b1 [Vi 0,Vi 0,Vi 0,Ve,Ve,Vz],.row (.slice (sA (gh 9)) (sN (gh 9)) (sC (gh 9))) 41 6 ((sK (p).1 vs)++[[Vi q.1.op,Vi q.1.k,Vi q.1.n,.string q.1.s,.string q.1.nm,.slice (sA (gh 7)) (sN (gh 7)) (sC (gh 7))]]),.box g [sl,Vi ((q.2:Nat):Int)]] [(b5,o6 + k * 1,[Vi kk]),(b7,0,[Vi ((d + 1:Nat):Int)]),(b6,0,[fv]),(b4,0,[Vp g])] h10 a w:=hJ1.tw
  have f26:IsArgs h10 q.1 (.slice (sA (gh 7)) (sN (gh 7)) (sC (gh 7))):=Reg.fact (i:=7) (f:=fun gh hh=>IsArgs hh q.1 (.slice (sA (gh 7)) (sN (gh 7)) (sC (gh 7)))) hF 0 (by kernel_rfl)
  have f8:Cells h10 (zJ (gh 8)) 0 [Vi q.1.op,Vi q.1.k,Vi q.1.n,.string q.1.s,.string q.1.nm,.slice (sA (gh 7)) (sN (gh 7)) (sC (gh 7))]:=Reg.fact (i:=8) (f:=fun gh hh=>Cells hh (zJ (gh 8)) 0 [Vi q.1.op,Vi q.1.k,Vi q.1.n,.string q.1.s,.string q.1.nm,.slice (sA (gh 7)) (sN (gh 7)) (sC (gh 7))]) hF 1 (by kernel_rfl)
  replace hJ:=hJ.fact f8
  clear hJ1 hF hmono R
  generalize gh 7=u26 at *
  generalize zJ (gh 8)=b9 at *
  generalize gh 9=v28 at *
  clear gh
  refine rk' hJ false 6 [] [(30,Vi (IntKind.i64.wrap ((k:Int) + 1)),Vi ((k:Int) + 1))] (.k (.out .normal) [] [2,3,4,7,8,13,14] [(15,Vi ((k:Int) + 1))]) (hc:=And.intro (kJ (by omega) (by omega)) (trivial)) ?_
  clear hJ a w; intro a w hJ
  exact pY ⟨k + 1,⟨h10,.slice (sA v28) (sN v28) (sC v28),vs++[.slice (sA u26) (sN u26) (sC u26)],(hJ.tof [2,3,4] (F':=[(b7,0,[Vi ((d + 1:Nat):Int)]),(b6,0,[fv]),(b4,0,[Vp g])]) (by kernel_rfl)).to (by kernel_rfl) (by rw [hms,exRows_snoc hvl]) rfl,(s4.trans s11),by omega,by rw [hms]; exact AllArgs.snoc f26 (hvs.sees s11)⟩,by omega⟩
 ·skip
  have htk:ks.take k=ks:=by rw [← hke,← hL,List.take_length]
  rw [htk] at hJ hvs
  obtain ⟨A2,c2,hE_v,hc_v,hm_v⟩:=hJ.form (v:=v) (e:=41) (k:=6) (l:=sK (dJ (iJ l fs d) ks n).1 vs) 2 (by kernel_rfl)
  rw [hE_v] at hJ
  refine iY hJ (t:=decide ((k:Int) < (len:Int))) (decide_eq_false (by omega)) ?_
  refine rk' hJ false 2 [] [] (.k (.out (.exit 0)) [] [7,8] []) ?_
  clear hJ a w; intro a w hJ
  refine jY rfl ?_
  refine rk' hJ false 9 [.b 0 0,.b 1 0] [] (.f (.out .ret) [] [7] [] [.box b2 [Vi op,Vi 0,Vi 0,Ve,Ve,.slice A2 ((sK (dJ (iJ l fs d) ks n).1 vs).length) c2],.box b1 [Vi op,Vi 0,Vi 0,Ve,Ve,.slice A2 ((sK (dJ (iJ l fs d) ks n).1 vs).length) c2],.row (.slice A2 ((sK (dJ (iJ l fs d) ks n).1 vs).length) c2) 41 6 (sK (dJ (iJ l fs d) ks n).1 vs),.box g [sl,Vi (((dJ (iJ l fs d) ks n).2:Nat):Int)]] [.o 0,.o 1,.o 2]) ?_
  clear hJ a w; intro a w hJ
  have fr:=hJ.j.rowOut1 (v:=.slice A2 ((sK (dJ (iJ l fs d) ks n).1 vs).length) c2) (e:=41) (k:=6) (l:=sK (dJ (iJ l fs d) ks n).1 vs) (g:=g) (cs:=[sl,Vi (((dJ (iJ l fs d) ks n).2:Nat):Int)]) 2 3 (by kernel_rfl) (by kernel_rfl) (by kernel_rfl) rfl
  refine gY (hQ [.agg #[Vi op,Vi 0,Vi 0,Ve,Ve,.slice A2 ((sK (dJ (iJ l fs d) ks n).1 vs).length) c2]] _ [(g,[sl,Vi (((dJ (iJ l fs d) ks n).2:Nat):Int)])] hJ (.rcel hJ.j 1 .nil) (xJ (by kernel_rfl)) rfl ?_).1
  exact ⟨_,rfl,.slice A2 (sK (dJ (iJ l fs d) ks n).1 vs).length c2,rfl,rfl,IsArgs.mk (x:=opE op (dJ (iJ l fs d) ks n).1) fr (hvs.sees hJ.j.out)⟩
end Go.Proofs.YthckljafinhepaaGreat
namespace Go.Proofs.YthckljafinhepaaGreat
open Go.RowKit
theorem genE_leaf {l:List RawD} {fs:List Fd} {d:Nat} {kind:Int} {n:Nat} (h:cJ (aJ l n).k 3=0):iJ l fs (d + 1) kind n=(fV (aJ l (bJ l n)) fs kind,bJ l (bJ l n)):=by
 show (if _ then _ else _)=_
 rw [if_pos h]
theorem uQ {l:List RawD} {fs:List Fd} {d:Nat} {kind op:Int} {ks:List Int} {n:Nat} (h:cJ (aJ l n).k 3≠0) (hp:mW (aJ l n) kind=(op,ks)):iJ l fs (d + 1) kind n=(opE op (dJ (iJ l fs d) ks (bJ l n)).1,(dJ (iJ l fs d) ks (bJ l n)).2):=by
 show (if _ then _ else _)=_
 rw [if_neg h,hp]
theorem fX {h:Vw} {b:Nat} (ks:List Int) (hm:ks.length≤maxLen) (c:Cells h b 0 (zQ ks).flatten):RS h 1 (.slice (some ⟨b,0,none⟩) ks.length ks.length) (zQ ks):=by
 have:=rs_cells (k:=1) (zQ ks) (fun r hr=>by obtain ⟨x,-,rfl⟩:=List.mem_map.1 hr; rfl) (by simpa using hm) c
 simpa using this
theorem uK {h:Vw} {sl:Value} {p q:Ex × Nat} (e:p=q) {u:Value} {v:Value} {cs:List Value} (hv:v=.agg #[.int .i64 q.1.op,.int .i64 q.1.k,.int .i64 q.1.n,.string q.1.s,.string q.1.nm,.slice (sA u) (sN u) (sC u)]) (hc:cs=[sl,.int .i64 ((q.2:Nat):Int)]) (ha:IsArgs h q.1 (.slice (sA u) (sN u) (sC u))) :
  ∃ cs',[cs]=[cs']∧∃ u,v=.agg #[.int .i64 p.1.op,.int .i64 p.1.k,.int .i64 p.1.n,.string p.1.s,.string p.1.nm,.slice (sA u) (sN u) (sC u)]∧cs'=[sl,.int .i64 ((p.2:Nat):Int)]∧IsArgs h p.1 (.slice (sA u) (sN u) (sC u)):=by
 subst e
 exact ⟨cs,rfl,u,hv,hc,ha⟩
theorem leaf_args (r:RawD) (fs:List Fd) (kind:Int):(fV r fs kind).args=[]:=by
 unfold fV
 repeat' split
 all_goals rfl
theorem expr_zero (l:List RawD) (fs:List Fd) (hlen:l.length * 40≤reachBytes) (hok:∀ r∈l,r.ok) (hfs:fs.length≤100):ExprC l fs 0:=by
 intro g sl n kind fv m h hr hn h1 h3 hf hg
 have hm:∀ b∈[g],b∈m:=fun b hb=>by simp at hb; rw [hb]; exact hg
 obtain ⟨A,nf,cap,rfl⟩:∃ A nf cap,fv=.slice A nf cap:=by obtain ⟨vs,hrs,-⟩:=hf; obtain ⟨A,c,e,-⟩:=hrs.form; exact ⟨A,_,c,e⟩
 have hat:=yJ l n
 have hb:bnd 0=2:=rfl
 refine fY Tryz.func55 (c:=Tryz.f55.body.getD .skip) (N:=98) ?_
 intro hbx hbad Q hQ a w hJ
 refine rk' hJ true 11 [.fix,.fix,.fix,.own,.f 2 0] [] (.new fun b1=>.new fun b2=>.new fun b3=>.new fun b4=>.m (.ops [0,1] 1) [.seq [1,1]] [1] [(4,Vp b1),(6,Vp b2),(7,Vp b3),(8,Vp b4),(14,Vp g)] [.box b4 [Vi 0,Vi 0,Vi 0,Ve,Ve,Vz],.box g [sl,Vi (n:Int)]] [(b3,0,[Vi ((0:Nat):Int)]),(b2,0,[.slice A nf cap]),(b1,0,[Vp g])]) (hr:=fun b1 b2 b3 b4 _=>by kernel_rfl) ?_
 clear hJ a w; intro b1 b2 b3 b4 h5 a w s6 hJ
 refine eY hJ 15 1 (vQ g l sl n _ (hr.sees (s6.trans hJ.j.sees)) (by omega) hlen) ?_; clear hJ a w; rintro _ _ h7 a w s8 ⟨rfl,rfl⟩ hJ
 refine rx' hJ false 23 [.own,.b 0 0,.f 0 0,.f 2 0,.f 1 0] [(17,.bool (decide (((0:Nat):Int)≤0)),.bool true)] (.new fun b9=>.ok (.ops [0,0,1,0,1,1] 3) [.seq [1,0,1,0,1,1],.seq [1,1,1]] [(8,Vp b4),(24,Vp g),(25,Vi kind),(26,.slice A nf cap)] [.box b9 [Vi ((aJ l n).k),Vi ((aJ l n).a),Vi ((aJ l n).b),.string ((aJ l n).t)],.box b4 [Vi 0,Vi 0,Vi 0,Ve,Ve,Vz],.box g [sl,Vi ((bJ l n:Nat):Int)]] [(b3,0,[Vi ((0:Nat):Int)]),(b2,0,[.slice A nf cap]),(b1,0,[Vp g])]) (hc:=And.intro (rfl) (trivial)) (fun b9 _=>by kernel_rfl) ?_
 clear hJ a w; intro b9 a w hJ
 refine eY hJ 27 2 (leaf_any g l sl (bJ l n) kind fs _ _ _ (hr.sees (s6.trans (s8.trans hJ.j.sees))) (by omega) hlen hok h1 h3 (hf.sees (hJ.j.lent hm)) hfs (List.mem_append_right _ hg)) ?_; clear hJ a w; rintro _ _ h10 a w s11 ⟨rfl,rfl⟩ hJ
 refine rk' hJ false 5 [.b 1 0] [] (.f (.out .ret) [] [8] [] [.box b9 [Vi ((aJ l n).k),Vi ((aJ l n).a),Vi ((aJ l n).b),.string ((aJ l n).t)],.box b4 [Vi ((fV (aJ l (bJ l n)) fs kind).op),Vi ((fV (aJ l (bJ l n)) fs kind).k),Vi ((fV (aJ l (bJ l n)) fs kind).n),.string ((fV (aJ l (bJ l n)) fs kind).s),.string ((fV (aJ l (bJ l n)) fs kind).nm),Vz],.box g [sl,Vi ((bJ l (bJ l n):Nat):Int)]] [.o 0,.o 1,.o 2]) ?_
 clear hJ a w; intro a w hJ
 refine gY (hQ [.agg #[Vi ((fV (aJ l (bJ l n)) fs kind).op),Vi ((fV (aJ l (bJ l n)) fs kind).k),Vi ((fV (aJ l (bJ l n)) fs kind).n),.string ((fV (aJ l (bJ l n)) fs kind).s),.string ((fV (aJ l (bJ l n)) fs kind).nm),Vz]] _ [(g,[sl,Vi ((bJ l (bJ l n):Nat):Int)])] hJ (.rcel hJ.j 1 .nil) (xJ (by kernel_rfl)) rfl ?_).1
 exact uK (u:=Vz) (show iJ l fs 0 kind n=_ from rfl) rfl rfl (args_nil _ _ (leaf_args _ _ _))
set_option maxHeartbeats 4000000 in
theorem expr_succ (l : List RawD) (fs : List Fd) (hlen : l.length * 40 ≤ reachBytes) (hok : ∀ r ∈ l, r.ok) (hfs : fs.length ≤ 100) (d : Nat) (hd : d < 1000) (IH : ExprC l fs d) : ExprC l fs (d + 1) := by
  intro g sl n kind fv m h hr hn h1 h3 hf hg
  have hm : ∀ b ∈ [g], b ∈ m := fun b hb => by simp at hb; rw [hb]; exact hg
  obtain ⟨A, nf, cap, rfl⟩ : ∃ A nf cap, fv = .slice A nf cap := by obtain ⟨vs, hrs, -⟩ := hf; obtain ⟨A, c, e, -⟩ := hrs.form; exact ⟨A, _, c, e⟩
  have hat := yJ l n
  have hbd : bnd (d + 1) = 1 + 3 * bnd d := rfl
  have hb2 : 2 ≤ bnd d := by
    cases d with
    | zero => exact Nat.le_refl _
    | succ d => show 2 ≤ 1 + 3 * bnd d; have : 1 ≤ bnd d := by cases d with | zero => decide | succ d => show 1 ≤ 1 + _; omega
                omega
  obtain ⟨⟨k0, k1⟩, ⟨a0, a1⟩, ⟨rb0, rb1⟩, -⟩ := rawAt_ok hok n
  have hd0 : decide (((d + 1 : Nat) : Int) ≤ 0) = false := decide_eq_false (by omega)
  have many := many_any l fs d hd IH g sl (bJ l n)
  have hq7 := pW (aJ l n).b 7 (by omega)
  have hq3 := pW (aJ l n).a 3 (by omega)
  have pa3 := cK (aJ l n).a 3
  have pb7 := cK (aJ l n).b 7
  refine fY Tryz.func55 (c := Tryz.f55.body.getD .skip) (N := 98) ?_
  intro hbx hbad Q hQ a w hJ
  refine rk' hJ true 11 [.fix, .fix, .fix, .own, .f 2 0] [] (.new fun bf4 => .new fun bf8 => .new fun bf12 => .new fun b1 => .m (.ops [0, 1] 1) [.seq [1, 1]] [1] [(4, Vp bf4), (6, Vp bf8), (7, Vp bf12), (8, Vp b1), (14, Vp g)] [.box b1 [Vi 0, Vi 0, Vi 0, Ve, Ve, Vz], .box g [sl, Vi (n : Int)]] [(bf12, 0, [Vi ((d + 1 : Nat) : Int)]), (bf8, 0, [.slice A nf cap]), (bf4, 0, [Vp g])]) (hr := fun bf4 bf8 bf12 b1 _ => by kernel_rfl) ?_
  clear hJ a w; intro bf4 bf8 bf12 b1 h2 a w s3 hJ
  have f4 : Cells h2 bf4 0 [Vp g] := hJ.f _ (List.mem_of_getElem? (i := 2) rfl)
  have f8 : Cells h2 bf8 0 [.slice A nf cap] := hJ.f _ (List.mem_of_getElem? (i := 1) rfl)
  have f12 : Cells h2 bf12 0 [Vi ((d + 1 : Nat) : Int)] := hJ.f _ (List.mem_of_getElem? (i := 0) rfl)
  refine eY hJ 15 1 (vQ g l sl n _ (hr.sees (s3.trans hJ.j.sees)) (by omega) hlen) ?_; clear hJ a w; rintro _ _ h4 a w s5 ⟨rfl, rfl⟩ hJ
  refine rk hJ false 17 [.own, .b 0 0, .f 0 0, .b 0 0, .cl 24 #[Vi ((aJ l n).k), Vi 3] (Vi (cJ (aJ l n).k 3))] [(17, .bool (decide (((d + 1 : Nat) : Int) ≤ 0)), .bool false)] (.new fun b6 => .f (.code [1, 0, 1, 1]) [.seq [1, 1, 1]] [1, 4, 6, 7, 8] [(9, Vp b6), (23, .bool ((cJ (aJ l n).k 3) == 0))] [.box b6 [Vi ((aJ l n).k), Vi ((aJ l n).a), Vi ((aJ l n).b), .string ((aJ l n).t)], .box b1 [Vi 0, Vi 0, Vi 0, Ve, Ve, Vz], .box g [sl, Vi ((bJ l n : Nat) : Int)]] [.o 0, .o 1, .o 2]) (And.intro (fun H sH => cK _ 3 _ k0 k1 (by omega) (by omega)) (trivial)) (And.intro (congrArg Value.bool hd0) (trivial)) (fun b6 _ => by kernel_rfl) ?_
  clear hJ a w; intro b6 a w hJ
  by_cases q3 : cJ (aJ l n).k 3 = 0
  · refine qY hJ (t := (cJ (aJ l n).k 3) == 0) (beq_iff_eq.2 q3) ?_
    refine rk' hJ false 5 [.f 2 0, .f 1 0] [] (.k (.ops [0, 0, 1, 0, 1, 1] 3) [.seq [1, 0, 1, 0, 1, 1], .seq [1, 1, 1]] [8] [(24, Vp g), (25, Vi kind), (26, .slice A nf cap)]) ?_
    clear hJ a w; intro a w hJ
    refine eY hJ 27 2 (leaf_any g l sl (bJ l n) kind fs _ _ _ (hr.sees (s3.trans (s5.trans hJ.j.sees))) (by omega) hlen hok h1 h3 (hf.sees (hJ.j.lent hm)) hfs (List.mem_append_right _ hg)) ?_; clear hJ a w; rintro _ _ h7 a w s8 ⟨rfl, rfl⟩ hJ
    refine rk' hJ false 5 [.b 1 0] [] (.f (.out .ret) [] [8] [] [.box b6 [Vi ((aJ l n).k), Vi ((aJ l n).a), Vi ((aJ l n).b), .string ((aJ l n).t)], .box b1 [Vi ((fV (aJ l (bJ l n)) fs kind).op), Vi ((fV (aJ l (bJ l n)) fs kind).k), Vi ((fV (aJ l (bJ l n)) fs kind).n), .string ((fV (aJ l (bJ l n)) fs kind).s), .string ((fV (aJ l (bJ l n)) fs kind).nm), Vz], .box g [sl, Vi ((bJ l (bJ l n) : Nat) : Int)]] [.o 0, .o 1, .o 2]) ?_
    clear hJ a w; intro a w hJ
    refine gY (hQ [.agg #[Vi ((fV (aJ l (bJ l n)) fs kind).op), Vi ((fV (aJ l (bJ l n)) fs kind).k), Vi ((fV (aJ l (bJ l n)) fs kind).n), .string ((fV (aJ l (bJ l n)) fs kind).s), .string ((fV (aJ l (bJ l n)) fs kind).nm), Vz]] _ [(g, [sl, Vi ((bJ l (bJ l n) : Nat) : Int)])] hJ (.rcel hJ.j 1 .nil) (xJ (by kernel_rfl)) rfl ?_).1
    exact uK (u := Vz) (genE_leaf q3) rfl rfl (args_nil _ _ (leaf_args _ _ _))
  · skip
    refine iY hJ (t := (cJ (aJ l n).k 3) == 0) (beq_eq_false_iff_ne.2 q3) ?_
    refine rk' hJ false 17 [.b 0 1, .cl 24 #[Vi ((aJ l n).a), Vi 6] (Vi (cJ (aJ l n).a 6))] [] (.k (.code [1, 0, 1, 1, 1, 1]) [.seq [1, 1, 1, 1, 1]] [1, 8, 9] [(10, .func (.func 86) #[] #[Vp bf4, Vp bf8, Vp bf12]), (32, .bool ((cJ (aJ l n).a 6) == 0))]) (ho := And.intro (fun H sH => cK _ 6 _ a0 a1 (by omega) (by omega)) (trivial)) ?_
    clear hJ a w; intro a w hJ
    obtain rfl | rfl | rfl : kind = 1 ∨ kind = 2 ∨ kind = 3 := by omega
    · skip
      by_cases q6 : cJ (aJ l n).a 6 = 0
      · refine qY hJ (t := (cJ (aJ l n).a 6) == 0) (beq_iff_eq.2 q6) ?_
        refine rk' hJ true 6 [.fix] [] (.new fun bfk => .g (.ops [0, 0, 1, 0, 1, 1, 1, 1] 4) [.seq [1, 0, 1, 0, 1, 1, 1, 1], .seq [1, 1, 1, 1, 1]] [8] [(33, .func (.func 86) #[] #[Vp bf4, Vp bf8, Vp bf12]), (36, Vs bfk 3 3)] [.n (bfk, 0, [Vi 2, Vi 1, Vi 1]), .o 0, .o 1, .o 2]) (hr := fun bfk _ => by kernel_rfl) ?_
        clear hJ a w; intro bfk h9 a w s10 hJ
        have fk : Cells h9 bfk 0 [Vi 2, Vi 1, Vi 1] := hJ.f _ (List.mem_of_getElem? (i := 0) rfl)
        refine eY hJ 37 2 (many 17 [2, 1, 1] _ _ _ _ _ _ _ (hr.sees (s3.trans (s5.trans (s10.trans hJ.j.sees)))) (by omega) (by simp) (by simp <;> omega) (fX [2, 1, 1] (by unfold maxLen; simp) (fk.sees hJ.j.sees)) (hf.sees (hJ.j.lent hm)) (List.mem_append_right _ hg) (f4.sees (s5.trans (s10.trans hJ.j.sees))) (f8.sees (s5.trans (s10.trans hJ.j.sees))) (f12.sees (s5.trans (s10.trans hJ.j.sees)))) ?_; clear hJ a w; rintro _ _ h11 a w s12 ⟨u, rfl, rfl, fu⟩ hJ
        refine rk' hJ false 5 [.b 1 0] [] (.f (.out .ret) [] [8] [] [.box b6 [Vi ((aJ l n).k), Vi ((aJ l n).a), Vi ((aJ l n).b), .string ((aJ l n).t)], .box b1 [Vi ((opE 17 (dJ (iJ l fs d) [2, 1, 1] (bJ l n)).1).op), Vi ((opE 17 (dJ (iJ l fs d) [2, 1, 1] (bJ l n)).1).k), Vi ((opE 17 (dJ (iJ l fs d) [2, 1, 1] (bJ l n)).1).n), .string ((opE 17 (dJ (iJ l fs d) [2, 1, 1] (bJ l n)).1).s), .string ((opE 17 (dJ (iJ l fs d) [2, 1, 1] (bJ l n)).1).nm), .slice (sA u) (sN u) (sC u)], .box g [sl, Vi (((dJ (iJ l fs d) [2, 1, 1] (bJ l n)).2 : Nat) : Int)]] [.o 0, .o 1, .o 2, .o 3]) ?_
        clear hJ a w; intro a w hJ
        refine gY (hQ [.agg #[Vi ((opE 17 (dJ (iJ l fs d) [2, 1, 1] (bJ l n)).1).op), Vi ((opE 17 (dJ (iJ l fs d) [2, 1, 1] (bJ l n)).1).k), Vi ((opE 17 (dJ (iJ l fs d) [2, 1, 1] (bJ l n)).1).n), .string ((opE 17 (dJ (iJ l fs d) [2, 1, 1] (bJ l n)).1).s), .string ((opE 17 (dJ (iJ l fs d) [2, 1, 1] (bJ l n)).1).nm), .slice (sA u) (sN u) (sC u)]] _ [(g, [sl, Vi (((dJ (iJ l fs d) [2, 1, 1] (bJ l n)).2 : Nat) : Int)])] hJ (.rcel hJ.j 1 .nil) (xJ (by kernel_rfl)) rfl ?_).1
        exact uK (uQ q3 (by unfold mW; rw [if_pos q6])) rfl rfl (fu.sees hJ.j.out)
      · skip
        obtain q7 | q7 | q7 | q7 | q7 | q7 | q7 : cJ (aJ l n).b 7 = 0 ∨ cJ (aJ l n).b 7 = 1 ∨ cJ (aJ l n).b 7 = 2 ∨ cJ (aJ l n).b 7 = 3 ∨ cJ (aJ l n).b 7 = 4 ∨ cJ (aJ l n).b 7 = 5 ∨ cJ (aJ l n).b 7 = 6 := by omega
        · skip
          rw [q7] at pb7
          refine iY hJ (t := (cJ (aJ l n).a 6) == 0) (beq_eq_false_iff_ne.2 q6) ?_
          refine rx' hJ true 41 [.b 0 2, .cl 24 #[Vi ((aJ l n).b), Vi 7] (Vi 0), .fix] [] (.new fun bfk => .ok (.ops [0, 0, 1, 0, 1, 1, 0, 1, 0, 1, 0, 1, 1, 1, 1, 1] 2) [.seq [1, 0, 1, 0, 1, 1, 0, 1, 0, 1, 0, 1, 1, 1, 1, 1], .block 1, .block 0, .seq [1, 1, 1, 1, 1, 1]] [(8, Vp b1), (55, .func (.func 86) #[] #[Vp bf4, Vp bf8, Vp bf12]), (56, Vs bfk 1 1)] [.box b6 [Vi ((aJ l n).k), Vi ((aJ l n).a), Vi ((aJ l n).b), .string ((aJ l n).t)], .box b1 [Vi 0, Vi 0, Vi 0, Ve, Ve, Vz], .box g [sl, Vi ((bJ l n : Nat) : Int)]] [(bfk, 0, [Vi 1]), (bf12, 0, [Vi ((d + 1 : Nat) : Int)]), (bf8, 0, [.slice A nf cap]), (bf4, 0, [Vp g])]) (ho := And.intro (fun H sH => pb7 _ rb0 rb1 (by omega) (by omega)) (trivial)) (fun bfk _ => by kernel_rfl) ?_
          clear hJ a w; intro bfk h13 a w s14 hJ
          have fk : Cells h13 bfk 0 [Vi 1] := hJ.f _ (List.mem_of_getElem? (i := 0) rfl)
          refine eY hJ 57 2 (many 3 [1] _ _ _ _ _ _ _ (hr.sees (s3.trans (s5.trans (s14.trans hJ.j.sees)))) (by omega) (by simp) (by simp <;> omega) (fX [1] (by unfold maxLen; simp) (fk.sees hJ.j.sees)) (hf.sees (hJ.j.lent hm)) (List.mem_append_right _ hg) (f4.sees (s5.trans (s14.trans hJ.j.sees))) (f8.sees (s5.trans (s14.trans hJ.j.sees))) (f12.sees (s5.trans (s14.trans hJ.j.sees)))) ?_; clear hJ a w; rintro _ _ h15 a w s16 ⟨u, rfl, rfl, fu⟩ hJ
          refine rk' hJ false 7 [.b 1 0] [] (.f (.out .ret) [] [8] [] [.box b6 [Vi ((aJ l n).k), Vi ((aJ l n).a), Vi ((aJ l n).b), .string ((aJ l n).t)], .box b1 [Vi ((opE 3 (dJ (iJ l fs d) [1] (bJ l n)).1).op), Vi ((opE 3 (dJ (iJ l fs d) [1] (bJ l n)).1).k), Vi ((opE 3 (dJ (iJ l fs d) [1] (bJ l n)).1).n), .string ((opE 3 (dJ (iJ l fs d) [1] (bJ l n)).1).s), .string ((opE 3 (dJ (iJ l fs d) [1] (bJ l n)).1).nm), .slice (sA u) (sN u) (sC u)], .box g [sl, Vi (((dJ (iJ l fs d) [1] (bJ l n)).2 : Nat) : Int)]] [.o 0, .o 1, .o 2, .o 3]) ?_
          clear hJ a w; intro a w hJ
          refine gY (hQ [.agg #[Vi ((opE 3 (dJ (iJ l fs d) [1] (bJ l n)).1).op), Vi ((opE 3 (dJ (iJ l fs d) [1] (bJ l n)).1).k), Vi ((opE 3 (dJ (iJ l fs d) [1] (bJ l n)).1).n), .string ((opE 3 (dJ (iJ l fs d) [1] (bJ l n)).1).s), .string ((opE 3 (dJ (iJ l fs d) [1] (bJ l n)).1).nm), .slice (sA u) (sN u) (sC u)]] _ [(g, [sl, Vi (((dJ (iJ l fs d) [1] (bJ l n)).2 : Nat) : Int)])] hJ (.rcel hJ.j 1 .nil) (xJ (by kernel_rfl)) rfl ?_).1
          exact uK (uQ q3 (by unfold mW; rw [if_neg q6, q7]; rfl)) rfl rfl (fu.sees hJ.j.out)
        · skip
          rw [q7] at pb7
          refine iY hJ (t := (cJ (aJ l n).a 6) == 0) (beq_eq_false_iff_ne.2 q6) ?_
          refine rk hJ true 48 [.b 0 2, .cl 24 #[Vi ((aJ l n).b), Vi 7] (Vi 1), .fix] [] (.new fun bfk => .g (.ops [0, 0, 1, 1, 1, 0, 1, 1, 0, 1, 0, 1, 0, 1, 1, 1, 1, 1] 2) [.seq [1, 0, 1, 1, 1, 0, 1, 1, 0, 1, 0, 1, 0, 1, 1, 1, 1, 1], .block 1, .block 0, .seq [1, 1, 1, 1, 1, 1]] [8] [(60, .func (.func 86) #[] #[Vp bf4, Vp bf8, Vp bf12]), (61, Vs bfk 1 1)] [.n (bfk, 0, [Vi 3]), .o 0, .o 1, .o 2]) (And.intro (fun H sH => pb7 _ rb0 rb1 (by omega) (by omega)) (trivial)) trivial (fun bfk _ => by kernel_rfl) ?_
          clear hJ a w; intro bfk h17 a w s18 hJ
          have fk : Cells h17 bfk 0 [Vi 3] := hJ.f _ (List.mem_of_getElem? (i := 0) rfl)
          refine eY hJ 62 2 (many 18 [3] _ _ _ _ _ _ _ (hr.sees (s3.trans (s5.trans (s18.trans hJ.j.sees)))) (by omega) (by simp) (by simp <;> omega) (fX [3] (by unfold maxLen; simp) (fk.sees hJ.j.sees)) (hf.sees (hJ.j.lent hm)) (List.mem_append_right _ hg) (f4.sees (s5.trans (s18.trans hJ.j.sees))) (f8.sees (s5.trans (s18.trans hJ.j.sees))) (f12.sees (s5.trans (s18.trans hJ.j.sees)))) ?_; clear hJ a w; rintro _ _ h19 a w s20 ⟨u, rfl, rfl, fu⟩ hJ
          refine rk' hJ false 7 [.b 1 0] [] (.f (.out .ret) [] [8] [] [.box b6 [Vi ((aJ l n).k), Vi ((aJ l n).a), Vi ((aJ l n).b), .string ((aJ l n).t)], .box b1 [Vi ((opE 18 (dJ (iJ l fs d) [3] (bJ l n)).1).op), Vi ((opE 18 (dJ (iJ l fs d) [3] (bJ l n)).1).k), Vi ((opE 18 (dJ (iJ l fs d) [3] (bJ l n)).1).n), .string ((opE 18 (dJ (iJ l fs d) [3] (bJ l n)).1).s), .string ((opE 18 (dJ (iJ l fs d) [3] (bJ l n)).1).nm), .slice (sA u) (sN u) (sC u)], .box g [sl, Vi (((dJ (iJ l fs d) [3] (bJ l n)).2 : Nat) : Int)]] [.o 0, .o 1, .o 2, .o 3]) ?_
          clear hJ a w; intro a w hJ
          refine gY (hQ [.agg #[Vi ((opE 18 (dJ (iJ l fs d) [3] (bJ l n)).1).op), Vi ((opE 18 (dJ (iJ l fs d) [3] (bJ l n)).1).k), Vi ((opE 18 (dJ (iJ l fs d) [3] (bJ l n)).1).n), .string ((opE 18 (dJ (iJ l fs d) [3] (bJ l n)).1).s), .string ((opE 18 (dJ (iJ l fs d) [3] (bJ l n)).1).nm), .slice (sA u) (sN u) (sC u)]] _ [(g, [sl, Vi (((dJ (iJ l fs d) [3] (bJ l n)).2 : Nat) : Int)])] hJ (.rcel hJ.j 1 .nil) (xJ (by kernel_rfl)) rfl ?_).1
          exact uK (uQ q3 (by unfold mW; rw [if_neg q6, q7]; rfl)) rfl rfl (fu.sees hJ.j.out)
        · skip
          rw [q7] at pb7
          refine iY hJ (t := (cJ (aJ l n).a 6) == 0) (beq_eq_false_iff_ne.2 q6) ?_
          refine rk hJ true 53 [.b 0 2, .cl 24 #[Vi ((aJ l n).b), Vi 7] (Vi 2), .fix, .pu, .f 0 0, .fix] [] (.new fun b21 => .new fun bfk => .g (.ops [0, 1, 1, 1, 1, 0, 1, 1, 0, 1, 0, 1, 0, 1, 1, 1, 1, 1] 7) [.seq [1, 1, 1, 1, 1, 0, 1, 1, 0, 1, 0, 1, 0, 1, 1, 1, 1, 1], .block 1, .block 0, .seq [1, 1, 1, 1, 1, 1]] [8] [(45, .func (.func 86) #[] #[Vp bf4, Vp bf8, Vp bf12]), (50, Vi 5), (51, Vs bfk 2 2)] [.n (bfk, 0, [Vi 1, Vi 1]), .n (b21, 0, [Vi 5, Vi 6, Vi 7, Vi 8, Vi 9]), .o 0, .o 1, .o 2]) (And.intro (fun H sH => pb7 _ rb0 rb1 (by omega) (by omega)) (trivial)) trivial (fun b21 bfk _ => by kernel_rfl) ?_
          clear hJ a w; intro b21 bfk h22 a w s23 hJ
          have fk : Cells h22 bfk 0 [Vi 1, Vi 1] := hJ.f _ (List.mem_of_getElem? (i := 0) rfl)
          refine eY hJ 52 2 (many 5 [1, 1] _ _ _ _ _ _ _ (hr.sees (s3.trans (s5.trans (s23.trans hJ.j.sees)))) (by omega) (by simp) (by simp <;> omega) (fX [1, 1] (by unfold maxLen; simp) (fk.sees hJ.j.sees)) (hf.sees (hJ.j.lent hm)) (List.mem_append_right _ hg) (f4.sees (s5.trans (s23.trans hJ.j.sees))) (f8.sees (s5.trans (s23.trans hJ.j.sees))) (f12.sees (s5.trans (s23.trans hJ.j.sees)))) ?_; clear hJ a w; rintro _ _ h24 a w s25 ⟨u, rfl, rfl, fu⟩ hJ
          refine rk' hJ false 7 [.b 1 0] [] (.f (.out .ret) [] [8] [] [.box b6 [Vi ((aJ l n).k), Vi ((aJ l n).a), Vi ((aJ l n).b), .string ((aJ l n).t)], .box b1 [Vi ((opE 5 (dJ (iJ l fs d) [1, 1] (bJ l n)).1).op), Vi ((opE 5 (dJ (iJ l fs d) [1, 1] (bJ l n)).1).k), Vi ((opE 5 (dJ (iJ l fs d) [1, 1] (bJ l n)).1).n), .string ((opE 5 (dJ (iJ l fs d) [1, 1] (bJ l n)).1).s), .string ((opE 5 (dJ (iJ l fs d) [1, 1] (bJ l n)).1).nm), .slice (sA u) (sN u) (sC u)], .box g [sl, Vi (((dJ (iJ l fs d) [1, 1] (bJ l n)).2 : Nat) : Int)]] [.o 0, .o 1, .o 2, .o 3, .o 4]) ?_
          clear hJ a w; intro a w hJ
          refine gY (hQ [.agg #[Vi ((opE 5 (dJ (iJ l fs d) [1, 1] (bJ l n)).1).op), Vi ((opE 5 (dJ (iJ l fs d) [1, 1] (bJ l n)).1).k), Vi ((opE 5 (dJ (iJ l fs d) [1, 1] (bJ l n)).1).n), .string ((opE 5 (dJ (iJ l fs d) [1, 1] (bJ l n)).1).s), .string ((opE 5 (dJ (iJ l fs d) [1, 1] (bJ l n)).1).nm), .slice (sA u) (sN u) (sC u)]] _ [(g, [sl, Vi (((dJ (iJ l fs d) [1, 1] (bJ l n)).2 : Nat) : Int)])] hJ (.rcel hJ.j 1 .nil) (xJ (by kernel_rfl)) rfl ?_).1
          exact uK (uQ q3 (by unfold mW; rw [if_neg q6, q7]; rfl)) rfl rfl (fu.sees hJ.j.out)
        · skip
          rw [q7] at pb7
          refine iY hJ (t := (cJ (aJ l n).a 6) == 0) (beq_eq_false_iff_ne.2 q6) ?_
          refine rk hJ true 53 [.b 0 2, .cl 24 #[Vi ((aJ l n).b), Vi 7] (Vi 3), .fix, .pu, .f 0 1, .fix] [] (.new fun b26 => .new fun bfk => .g (.ops [0, 1, 1, 1, 1, 0, 1, 1, 0, 1, 0, 1, 0, 1, 1, 1, 1, 1] 7) [.seq [1, 1, 1, 1, 1, 0, 1, 1, 0, 1, 0, 1, 0, 1, 1, 1, 1, 1], .block 1, .block 0, .seq [1, 1, 1, 1, 1, 1]] [8] [(45, .func (.func 86) #[] #[Vp bf4, Vp bf8, Vp bf12]), (50, Vi 6), (51, Vs bfk 2 2)] [.n (bfk, 0, [Vi 1, Vi 1]), .n (b26, 0, [Vi 5, Vi 6, Vi 7, Vi 8, Vi 9]), .o 0, .o 1, .o 2]) (And.intro (fun H sH => pb7 _ rb0 rb1 (by omega) (by omega)) (trivial)) trivial (fun b26 bfk _ => by kernel_rfl) ?_
          clear hJ a w; intro b26 bfk h27 a w s28 hJ
          have fk : Cells h27 bfk 0 [Vi 1, Vi 1] := hJ.f _ (List.mem_of_getElem? (i := 0) rfl)
          refine eY hJ 52 2 (many 6 [1, 1] _ _ _ _ _ _ _ (hr.sees (s3.trans (s5.trans (s28.trans hJ.j.sees)))) (by omega) (by simp) (by simp <;> omega) (fX [1, 1] (by unfold maxLen; simp) (fk.sees hJ.j.sees)) (hf.sees (hJ.j.lent hm)) (List.mem_append_right _ hg) (f4.sees (s5.trans (s28.trans hJ.j.sees))) (f8.sees (s5.trans (s28.trans hJ.j.sees))) (f12.sees (s5.trans (s28.trans hJ.j.sees)))) ?_; clear hJ a w; rintro _ _ h29 a w s30 ⟨u, rfl, rfl, fu⟩ hJ
          refine rk' hJ false 7 [.b 1 0] [] (.f (.out .ret) [] [8] [] [.box b6 [Vi ((aJ l n).k), Vi ((aJ l n).a), Vi ((aJ l n).b), .string ((aJ l n).t)], .box b1 [Vi ((opE 6 (dJ (iJ l fs d) [1, 1] (bJ l n)).1).op), Vi ((opE 6 (dJ (iJ l fs d) [1, 1] (bJ l n)).1).k), Vi ((opE 6 (dJ (iJ l fs d) [1, 1] (bJ l n)).1).n), .string ((opE 6 (dJ (iJ l fs d) [1, 1] (bJ l n)).1).s), .string ((opE 6 (dJ (iJ l fs d) [1, 1] (bJ l n)).1).nm), .slice (sA u) (sN u) (sC u)], .box g [sl, Vi (((dJ (iJ l fs d) [1, 1] (bJ l n)).2 : Nat) : Int)]] [.o 0, .o 1, .o 2, .o 3, .o 4]) ?_
          clear hJ a w; intro a w hJ
          refine gY (hQ [.agg #[Vi ((opE 6 (dJ (iJ l fs d) [1, 1] (bJ l n)).1).op), Vi ((opE 6 (dJ (iJ l fs d) [1, 1] (bJ l n)).1).k), Vi ((opE 6 (dJ (iJ l fs d) [1, 1] (bJ l n)).1).n), .string ((opE 6 (dJ (iJ l fs d) [1, 1] (bJ l n)).1).s), .string ((opE 6 (dJ (iJ l fs d) [1, 1] (bJ l n)).1).nm), .slice (sA u) (sN u) (sC u)]] _ [(g, [sl, Vi (((dJ (iJ l fs d) [1, 1] (bJ l n)).2 : Nat) : Int)])] hJ (.rcel hJ.j 1 .nil) (xJ (by kernel_rfl)) rfl ?_).1
          exact uK (uQ q3 (by unfold mW; rw [if_neg q6, q7]; rfl)) rfl rfl (fu.sees hJ.j.out)
        · skip
          rw [q7] at pb7
          refine iY hJ (t := (cJ (aJ l n).a 6) == 0) (beq_eq_false_iff_ne.2 q6) ?_
          refine rk hJ true 53 [.b 0 2, .cl 24 #[Vi ((aJ l n).b), Vi 7] (Vi 4), .fix, .pu, .f 0 2, .fix] [] (.new fun b31 => .new fun bfk => .g (.ops [0, 1, 1, 1, 1, 0, 1, 1, 0, 1, 0, 1, 0, 1, 1, 1, 1, 1] 7) [.seq [1, 1, 1, 1, 1, 0, 1, 1, 0, 1, 0, 1, 0, 1, 1, 1, 1, 1], .block 1, .block 0, .seq [1, 1, 1, 1, 1, 1]] [8] [(45, .func (.func 86) #[] #[Vp bf4, Vp bf8, Vp bf12]), (50, Vi 7), (51, Vs bfk 2 2)] [.n (bfk, 0, [Vi 1, Vi 1]), .n (b31, 0, [Vi 5, Vi 6, Vi 7, Vi 8, Vi 9]), .o 0, .o 1, .o 2]) (And.intro (fun H sH => pb7 _ rb0 rb1 (by omega) (by omega)) (trivial)) trivial (fun b31 bfk _ => by kernel_rfl) ?_
          clear hJ a w; intro b31 bfk h32 a w s33 hJ
          have fk : Cells h32 bfk 0 [Vi 1, Vi 1] := hJ.f _ (List.mem_of_getElem? (i := 0) rfl)
          refine eY hJ 52 2 (many 7 [1, 1] _ _ _ _ _ _ _ (hr.sees (s3.trans (s5.trans (s33.trans hJ.j.sees)))) (by omega) (by simp) (by simp <;> omega) (fX [1, 1] (by unfold maxLen; simp) (fk.sees hJ.j.sees)) (hf.sees (hJ.j.lent hm)) (List.mem_append_right _ hg) (f4.sees (s5.trans (s33.trans hJ.j.sees))) (f8.sees (s5.trans (s33.trans hJ.j.sees))) (f12.sees (s5.trans (s33.trans hJ.j.sees)))) ?_; clear hJ a w; rintro _ _ h34 a w s35 ⟨u, rfl, rfl, fu⟩ hJ
          refine rx' hJ false 7 [.b 1 0] [] (.ok (.out .ret) [] [(8, Vp b1)] [.box b6 [Vi ((aJ l n).k), Vi ((aJ l n).a), Vi ((aJ l n).b), .string ((aJ l n).t)], .box b1 [Vi ((opE 7 (dJ (iJ l fs d) [1, 1] (bJ l n)).1).op), Vi ((opE 7 (dJ (iJ l fs d) [1, 1] (bJ l n)).1).k), Vi ((opE 7 (dJ (iJ l fs d) [1, 1] (bJ l n)).1).n), .string ((opE 7 (dJ (iJ l fs d) [1, 1] (bJ l n)).1).s), .string ((opE 7 (dJ (iJ l fs d) [1, 1] (bJ l n)).1).nm), .slice (sA u) (sN u) (sC u)], .box g [sl, Vi (((dJ (iJ l fs d) [1, 1] (bJ l n)).2 : Nat) : Int)]] [(bfk, 0, [Vi 1, Vi 1]), (b31, 0, [Vi 5, Vi 6, Vi 7, Vi 8, Vi 9]), (bf12, 0, [Vi ((d + 1 : Nat) : Int)]), (bf8, 0, [.slice A nf cap]), (bf4, 0, [Vp g])]) (fun _ => by kernel_rfl) ?_
          clear hJ a w; intro a w hJ
          refine gY (hQ [.agg #[Vi ((opE 7 (dJ (iJ l fs d) [1, 1] (bJ l n)).1).op), Vi ((opE 7 (dJ (iJ l fs d) [1, 1] (bJ l n)).1).k), Vi ((opE 7 (dJ (iJ l fs d) [1, 1] (bJ l n)).1).n), .string ((opE 7 (dJ (iJ l fs d) [1, 1] (bJ l n)).1).s), .string ((opE 7 (dJ (iJ l fs d) [1, 1] (bJ l n)).1).nm), .slice (sA u) (sN u) (sC u)]] _ [(g, [sl, Vi (((dJ (iJ l fs d) [1, 1] (bJ l n)).2 : Nat) : Int)])] hJ (.rcel hJ.j 1 .nil) (xJ (by kernel_rfl)) rfl ?_).1
          exact uK (uQ q3 (by unfold mW; rw [if_neg q6, q7]; rfl)) rfl rfl (fu.sees hJ.j.out)
        · skip
          rw [q7] at pb7
          refine iY hJ (t := (cJ (aJ l n).a 6) == 0) (beq_eq_false_iff_ne.2 q6) ?_
          refine rk hJ true 53 [.b 0 2, .cl 24 #[Vi ((aJ l n).b), Vi 7] (Vi 5), .fix, .pu, .f 0 3, .fix] [] (.new fun b36 => .new fun bfk => .g (.ops [0, 1, 1, 1, 1, 0, 1, 1, 0, 1, 0, 1, 0, 1, 1, 1, 1, 1] 7) [.seq [1, 1, 1, 1, 1, 0, 1, 1, 0, 1, 0, 1, 0, 1, 1, 1, 1, 1], .block 1, .block 0, .seq [1, 1, 1, 1, 1, 1]] [8] [(45, .func (.func 86) #[] #[Vp bf4, Vp bf8, Vp bf12]), (50, Vi 8), (51, Vs bfk 2 2)] [.n (bfk, 0, [Vi 1, Vi 1]), .n (b36, 0, [Vi 5, Vi 6, Vi 7, Vi 8, Vi 9]), .o 0, .o 1, .o 2]) (And.intro (fun H sH => pb7 _ rb0 rb1 (by omega) (by omega)) (trivial)) trivial (fun b36 bfk _ => by kernel_rfl) ?_
          clear hJ a w; intro b36 bfk h37 a w s38 hJ
          have fk : Cells h37 bfk 0 [Vi 1, Vi 1] := hJ.f _ (List.mem_of_getElem? (i := 0) rfl)
          refine eY hJ 52 2 (many 8 [1, 1] _ _ _ _ _ _ _ (hr.sees (s3.trans (s5.trans (s38.trans hJ.j.sees)))) (by omega) (by simp) (by simp <;> omega) (fX [1, 1] (by unfold maxLen; simp) (fk.sees hJ.j.sees)) (hf.sees (hJ.j.lent hm)) (List.mem_append_right _ hg) (f4.sees (s5.trans (s38.trans hJ.j.sees))) (f8.sees (s5.trans (s38.trans hJ.j.sees))) (f12.sees (s5.trans (s38.trans hJ.j.sees)))) ?_; clear hJ a w; rintro _ _ h39 a w s40 ⟨u, rfl, rfl, fu⟩ hJ
          refine rk' hJ false 7 [.b 1 0] [] (.f (.out .ret) [] [8] [] [.box b6 [Vi ((aJ l n).k), Vi ((aJ l n).a), Vi ((aJ l n).b), .string ((aJ l n).t)], .box b1 [Vi ((opE 8 (dJ (iJ l fs d) [1, 1] (bJ l n)).1).op), Vi ((opE 8 (dJ (iJ l fs d) [1, 1] (bJ l n)).1).k), Vi ((opE 8 (dJ (iJ l fs d) [1, 1] (bJ l n)).1).n), .string ((opE 8 (dJ (iJ l fs d) [1, 1] (bJ l n)).1).s), .string ((opE 8 (dJ (iJ l fs d) [1, 1] (bJ l n)).1).nm), .slice (sA u) (sN u) (sC u)], .box g [sl, Vi (((dJ (iJ l fs d) [1, 1] (bJ l n)).2 : Nat) : Int)]] [.o 0, .o 1, .o 2, .o 3, .o 4]) ?_
          clear hJ a w; intro a w hJ
          refine gY (hQ [.agg #[Vi ((opE 8 (dJ (iJ l fs d) [1, 1] (bJ l n)).1).op), Vi ((opE 8 (dJ (iJ l fs d) [1, 1] (bJ l n)).1).k), Vi ((opE 8 (dJ (iJ l fs d) [1, 1] (bJ l n)).1).n), .string ((opE 8 (dJ (iJ l fs d) [1, 1] (bJ l n)).1).s), .string ((opE 8 (dJ (iJ l fs d) [1, 1] (bJ l n)).1).nm), .slice (sA u) (sN u) (sC u)]] _ [(g, [sl, Vi (((dJ (iJ l fs d) [1, 1] (bJ l n)).2 : Nat) : Int)])] hJ (.rcel hJ.j 1 .nil) (xJ (by kernel_rfl)) rfl ?_).1
          exact uK (uQ q3 (by unfold mW; rw [if_neg q6, q7]; rfl)) rfl rfl (fu.sees hJ.j.out)
        · skip
          rw [q7] at pb7
          refine iY hJ (t := (cJ (aJ l n).a 6) == 0) (beq_eq_false_iff_ne.2 q6) ?_
          refine rk hJ true 53 [.b 0 2, .cl 24 #[Vi ((aJ l n).b), Vi 7] (Vi 6), .fix, .pu, .f 0 4, .fix] [] (.new fun b41 => .new fun bfk => .g (.ops [0, 1, 1, 1, 1, 0, 1, 1, 0, 1, 0, 1, 0, 1, 1, 1, 1, 1] 7) [.seq [1, 1, 1, 1, 1, 0, 1, 1, 0, 1, 0, 1, 0, 1, 1, 1, 1, 1], .block 1, .block 0, .seq [1, 1, 1, 1, 1, 1]] [8] [(45, .func (.func 86) #[] #[Vp bf4, Vp bf8, Vp bf12]), (50, Vi 9), (51, Vs bfk 2 2)] [.n (bfk, 0, [Vi 1, Vi 1]), .n (b41, 0, [Vi 5, Vi 6, Vi 7, Vi 8, Vi 9]), .o 0, .o 1, .o 2]) (And.intro (fun H sH => pb7 _ rb0 rb1 (by omega) (by omega)) (trivial)) trivial (fun b41 bfk _ => by kernel_rfl) ?_
          clear hJ a w; intro b41 bfk h42 a w s43 hJ
          have fk : Cells h42 bfk 0 [Vi 1, Vi 1] := hJ.f _ (List.mem_of_getElem? (i := 0) rfl)
          refine eY hJ 52 2 (many 9 [1, 1] _ _ _ _ _ _ _ (hr.sees (s3.trans (s5.trans (s43.trans hJ.j.sees)))) (by omega) (by simp) (by simp <;> omega) (fX [1, 1] (by unfold maxLen; simp) (fk.sees hJ.j.sees)) (hf.sees (hJ.j.lent hm)) (List.mem_append_right _ hg) (f4.sees (s5.trans (s43.trans hJ.j.sees))) (f8.sees (s5.trans (s43.trans hJ.j.sees))) (f12.sees (s5.trans (s43.trans hJ.j.sees)))) ?_; clear hJ a w; rintro _ _ h44 a w s45 ⟨u, rfl, rfl, fu⟩ hJ
          refine rk' hJ false 7 [.b 1 0] [] (.f (.out .ret) [] [8] [] [.box b6 [Vi ((aJ l n).k), Vi ((aJ l n).a), Vi ((aJ l n).b), .string ((aJ l n).t)], .box b1 [Vi ((opE 9 (dJ (iJ l fs d) [1, 1] (bJ l n)).1).op), Vi ((opE 9 (dJ (iJ l fs d) [1, 1] (bJ l n)).1).k), Vi ((opE 9 (dJ (iJ l fs d) [1, 1] (bJ l n)).1).n), .string ((opE 9 (dJ (iJ l fs d) [1, 1] (bJ l n)).1).s), .string ((opE 9 (dJ (iJ l fs d) [1, 1] (bJ l n)).1).nm), .slice (sA u) (sN u) (sC u)], .box g [sl, Vi (((dJ (iJ l fs d) [1, 1] (bJ l n)).2 : Nat) : Int)]] [.o 0, .o 1, .o 2, .o 3, .o 4]) ?_
          clear hJ a w; intro a w hJ
          refine gY (hQ [.agg #[Vi ((opE 9 (dJ (iJ l fs d) [1, 1] (bJ l n)).1).op), Vi ((opE 9 (dJ (iJ l fs d) [1, 1] (bJ l n)).1).k), Vi ((opE 9 (dJ (iJ l fs d) [1, 1] (bJ l n)).1).n), .string ((opE 9 (dJ (iJ l fs d) [1, 1] (bJ l n)).1).s), .string ((opE 9 (dJ (iJ l fs d) [1, 1] (bJ l n)).1).nm), .slice (sA u) (sN u) (sC u)]] _ [(g, [sl, Vi (((dJ (iJ l fs d) [1, 1] (bJ l n)).2 : Nat) : Int)])] hJ (.rcel hJ.j 1 .nil) (xJ (by kernel_rfl)) rfl ?_).1
          exact uK (uQ q3 (by unfold mW; rw [if_neg q6, q7]; rfl)) rfl rfl (fu.sees hJ.j.out)
    · skip
      by_cases q6 : cJ (aJ l n).a 6 = 0
      · refine qY hJ (t := (cJ (aJ l n).a 6) == 0) (beq_iff_eq.2 q6) ?_
        refine rk' hJ true 6 [.fix] [] (.new fun bfk => .g (.ops [0, 0, 1, 0, 1, 1, 1, 1] 4) [.seq [1, 0, 1, 0, 1, 1, 1, 1], .seq [1, 1, 1, 1, 1]] [8] [(33, .func (.func 86) #[] #[Vp bf4, Vp bf8, Vp bf12]), (36, Vs bfk 3 3)] [.n (bfk, 0, [Vi 2, Vi 2, Vi 2]), .o 0, .o 1, .o 2]) (hr := fun bfk _ => by kernel_rfl) ?_
        clear hJ a w; intro bfk h46 a w s47 hJ
        have fk : Cells h46 bfk 0 [Vi 2, Vi 2, Vi 2] := hJ.f _ (List.mem_of_getElem? (i := 0) rfl)
        refine eY hJ 37 2 (many 17 [2, 2, 2] _ _ _ _ _ _ _ (hr.sees (s3.trans (s5.trans (s47.trans hJ.j.sees)))) (by omega) (by simp) (by simp <;> omega) (fX [2, 2, 2] (by unfold maxLen; simp) (fk.sees hJ.j.sees)) (hf.sees (hJ.j.lent hm)) (List.mem_append_right _ hg) (f4.sees (s5.trans (s47.trans hJ.j.sees))) (f8.sees (s5.trans (s47.trans hJ.j.sees))) (f12.sees (s5.trans (s47.trans hJ.j.sees)))) ?_; clear hJ a w; rintro _ _ h48 a w s49 ⟨u, rfl, rfl, fu⟩ hJ
        refine rk' hJ false 5 [.b 1 0] [] (.f (.out .ret) [] [8] [] [.box b6 [Vi ((aJ l n).k), Vi ((aJ l n).a), Vi ((aJ l n).b), .string ((aJ l n).t)], .box b1 [Vi ((opE 17 (dJ (iJ l fs d) [2, 2, 2] (bJ l n)).1).op), Vi ((opE 17 (dJ (iJ l fs d) [2, 2, 2] (bJ l n)).1).k), Vi ((opE 17 (dJ (iJ l fs d) [2, 2, 2] (bJ l n)).1).n), .string ((opE 17 (dJ (iJ l fs d) [2, 2, 2] (bJ l n)).1).s), .string ((opE 17 (dJ (iJ l fs d) [2, 2, 2] (bJ l n)).1).nm), .slice (sA u) (sN u) (sC u)], .box g [sl, Vi (((dJ (iJ l fs d) [2, 2, 2] (bJ l n)).2 : Nat) : Int)]] [.o 0, .o 1, .o 2, .o 3]) ?_
        clear hJ a w; intro a w hJ
        refine gY (hQ [.agg #[Vi ((opE 17 (dJ (iJ l fs d) [2, 2, 2] (bJ l n)).1).op), Vi ((opE 17 (dJ (iJ l fs d) [2, 2, 2] (bJ l n)).1).k), Vi ((opE 17 (dJ (iJ l fs d) [2, 2, 2] (bJ l n)).1).n), .string ((opE 17 (dJ (iJ l fs d) [2, 2, 2] (bJ l n)).1).s), .string ((opE 17 (dJ (iJ l fs d) [2, 2, 2] (bJ l n)).1).nm), .slice (sA u) (sN u) (sC u)]] _ [(g, [sl, Vi (((dJ (iJ l fs d) [2, 2, 2] (bJ l n)).2 : Nat) : Int)])] hJ (.rcel hJ.j 1 .nil) (xJ (by kernel_rfl)) rfl ?_).1
        exact uK (uQ q3 (by unfold mW; rw [if_pos q6])) rfl rfl (fu.sees hJ.j.out)
      · skip
        obtain q7 | q7 | q7 | q7 | q7 | q7 | q7 : cJ (aJ l n).b 7 = 0 ∨ cJ (aJ l n).b 7 = 1 ∨ cJ (aJ l n).b 7 = 2 ∨ cJ (aJ l n).b 7 = 3 ∨ cJ (aJ l n).b 7 = 4 ∨ cJ (aJ l n).b 7 = 5 ∨ cJ (aJ l n).b 7 = 6 := by omega
        · skip
          rw [q7] at pb7
          refine iY hJ (t := (cJ (aJ l n).a 6) == 0) (beq_eq_false_iff_ne.2 q6) ?_
          refine rk hJ true 44 [.b 0 2, .cl 24 #[Vi ((aJ l n).b), Vi 7] (Vi 0), .fix] [] (.new fun bfk => .g (.ops [0, 0, 1, 0, 1, 0, 1, 1, 1, 0, 1, 0, 1, 1, 1, 1, 1] 2) [.seq [1, 0, 1, 0, 1, 0, 1, 1, 1, 0, 1, 0, 1, 1, 1, 1, 1], .block 2, .block 0, .seq [1, 1, 1, 1, 1, 1]] [8] [(83, .func (.func 86) #[] #[Vp bf4, Vp bf8, Vp bf12]), (84, Vs bfk 1 1)] [.n (bfk, 0, [Vi 2]), .o 0, .o 1, .o 2]) (And.intro (fun H sH => pb7 _ rb0 rb1 (by omega) (by omega)) (trivial)) trivial (fun bfk _ => by kernel_rfl) ?_
          clear hJ a w; intro bfk h50 a w s51 hJ
          have fk : Cells h50 bfk 0 [Vi 2] := hJ.f _ (List.mem_of_getElem? (i := 0) rfl)
          refine eY hJ 85 2 (many 4 [2] _ _ _ _ _ _ _ (hr.sees (s3.trans (s5.trans (s51.trans hJ.j.sees)))) (by omega) (by simp) (by simp <;> omega) (fX [2] (by unfold maxLen; simp) (fk.sees hJ.j.sees)) (hf.sees (hJ.j.lent hm)) (List.mem_append_right _ hg) (f4.sees (s5.trans (s51.trans hJ.j.sees))) (f8.sees (s5.trans (s51.trans hJ.j.sees))) (f12.sees (s5.trans (s51.trans hJ.j.sees)))) ?_; clear hJ a w; rintro _ _ h52 a w s53 ⟨u, rfl, rfl, fu⟩ hJ
          refine rk' hJ false 7 [.b 1 0] [] (.f (.out .ret) [] [8] [] [.box b6 [Vi ((aJ l n).k), Vi ((aJ l n).a), Vi ((aJ l n).b), .string ((aJ l n).t)], .box b1 [Vi ((opE 4 (dJ (iJ l fs d) [2] (bJ l n)).1).op), Vi ((opE 4 (dJ (iJ l fs d) [2] (bJ l n)).1).k), Vi ((opE 4 (dJ (iJ l fs d) [2] (bJ l n)).1).n), .string ((opE 4 (dJ (iJ l fs d) [2] (bJ l n)).1).s), .string ((opE 4 (dJ (iJ l fs d) [2] (bJ l n)).1).nm), .slice (sA u) (sN u) (sC u)], .box g [sl, Vi (((dJ (iJ l fs d) [2] (bJ l n)).2 : Nat) : Int)]] [.o 0, .o 1, .o 2, .o 3]) ?_
          clear hJ a w; intro a w hJ
          refine gY (hQ [.agg #[Vi ((opE 4 (dJ (iJ l fs d) [2] (bJ l n)).1).op), Vi ((opE 4 (dJ (iJ l fs d) [2] (bJ l n)).1).k), Vi ((opE 4 (dJ (iJ l fs d) [2] (bJ l n)).1).n), .string ((opE 4 (dJ (iJ l fs d) [2] (bJ l n)).1).s), .string ((opE 4 (dJ (iJ l fs d) [2] (bJ l n)).1).nm), .slice (sA u) (sN u) (sC u)]] _ [(g, [sl, Vi (((dJ (iJ l fs d) [2] (bJ l n)).2 : Nat) : Int)])] hJ (.rcel hJ.j 1 .nil) (xJ (by kernel_rfl)) rfl ?_).1
          exact uK (uQ q3 (by unfold mW; rw [if_neg q6, q7]; rfl)) rfl rfl (fu.sees hJ.j.out)
        · skip
          rw [q7] at pb7
          refine iY hJ (t := (cJ (aJ l n).a 6) == 0) (beq_eq_false_iff_ne.2 q6) ?_
          refine rx' hJ true 55 [.b 0 2, .cl 24 #[Vi ((aJ l n).b), Vi 7] (Vi 1), .fix] [] (.new fun bfk => .ok (.ops [0, 0, 1, 1, 1, 0, 1, 0, 1, 1, 1, 0, 1, 0, 1, 1, 1, 1, 1] 5) [.seq [1, 0, 1, 1, 1, 0, 1, 0, 1, 1, 1, 0, 1, 0, 1, 1, 1, 1, 1], .block 2, .block 0, .seq [1, 1, 1, 1, 1, 1]] [(8, Vp b1), (89, .func (.func 86) #[] #[Vp bf4, Vp bf8, Vp bf12]), (92, Vi 15), (93, Vs bfk 2 2)] [.box b6 [Vi ((aJ l n).k), Vi ((aJ l n).a), Vi ((aJ l n).b), .string ((aJ l n).t)], .box b1 [Vi 0, Vi 0, Vi 0, Ve, Ve, Vz], .box g [sl, Vi ((bJ l n : Nat) : Int)]] [(bfk, 0, [Vi 2, Vi 2]), (bf12, 0, [Vi ((d + 1 : Nat) : Int)]), (bf8, 0, [.slice A nf cap]), (bf4, 0, [Vp g])]) (ho := And.intro (fun H sH => pb7 _ rb0 rb1 (by omega) (by omega)) (trivial)) (fun bfk _ => by kernel_rfl) ?_
          clear hJ a w; intro bfk h54 a w s55 hJ
          have fk : Cells h54 bfk 0 [Vi 2, Vi 2] := hJ.f _ (List.mem_of_getElem? (i := 0) rfl)
          refine eY hJ 94 2 (many 15 [2, 2] _ _ _ _ _ _ _ (hr.sees (s3.trans (s5.trans (s55.trans hJ.j.sees)))) (by omega) (by simp) (by simp <;> omega) (fX [2, 2] (by unfold maxLen; simp) (fk.sees hJ.j.sees)) (hf.sees (hJ.j.lent hm)) (List.mem_append_right _ hg) (f4.sees (s5.trans (s55.trans hJ.j.sees))) (f8.sees (s5.trans (s55.trans hJ.j.sees))) (f12.sees (s5.trans (s55.trans hJ.j.sees)))) ?_; clear hJ a w; rintro _ _ h56 a w s57 ⟨u, rfl, rfl, fu⟩ hJ
          refine rk' hJ false 7 [.b 1 0] [] (.f (.out .ret) [] [8] [] [.box b6 [Vi ((aJ l n).k), Vi ((aJ l n).a), Vi ((aJ l n).b), .string ((aJ l n).t)], .box b1 [Vi ((opE 15 (dJ (iJ l fs d) [2, 2] (bJ l n)).1).op), Vi ((opE 15 (dJ (iJ l fs d) [2, 2] (bJ l n)).1).k), Vi ((opE 15 (dJ (iJ l fs d) [2, 2] (bJ l n)).1).n), .string ((opE 15 (dJ (iJ l fs d) [2, 2] (bJ l n)).1).s), .string ((opE 15 (dJ (iJ l fs d) [2, 2] (bJ l n)).1).nm), .slice (sA u) (sN u) (sC u)], .box g [sl, Vi (((dJ (iJ l fs d) [2, 2] (bJ l n)).2 : Nat) : Int)]] [.o 0, .o 1, .o 2, .o 3]) ?_
          clear hJ a w; intro a w hJ
          refine gY (hQ [.agg #[Vi ((opE 15 (dJ (iJ l fs d) [2, 2] (bJ l n)).1).op), Vi ((opE 15 (dJ (iJ l fs d) [2, 2] (bJ l n)).1).k), Vi ((opE 15 (dJ (iJ l fs d) [2, 2] (bJ l n)).1).n), .string ((opE 15 (dJ (iJ l fs d) [2, 2] (bJ l n)).1).s), .string ((opE 15 (dJ (iJ l fs d) [2, 2] (bJ l n)).1).nm), .slice (sA u) (sN u) (sC u)]] _ [(g, [sl, Vi (((dJ (iJ l fs d) [2, 2] (bJ l n)).2 : Nat) : Int)])] hJ (.rcel hJ.j 1 .nil) (xJ (by kernel_rfl)) rfl ?_).1
          exact uK (uQ q3 (by unfold mW; rw [if_neg q6, q7]; rfl)) rfl rfl (fu.sees hJ.j.out)
        · skip
          rw [q7] at pb7
          refine iY hJ (t := (cJ (aJ l n).a 6) == 0) (beq_eq_false_iff_ne.2 q6) ?_
          refine rk hJ true 55 [.b 0 2, .cl 24 #[Vi ((aJ l n).b), Vi 7] (Vi 2), .fix] [] (.new fun bfk => .g (.ops [0, 0, 1, 1, 1, 0, 1, 0, 1, 1, 1, 0, 1, 0, 1, 1, 1, 1, 1] 5) [.seq [1, 0, 1, 1, 1, 0, 1, 0, 1, 1, 1, 0, 1, 0, 1, 1, 1, 1, 1], .block 2, .block 0, .seq [1, 1, 1, 1, 1, 1]] [8] [(89, .func (.func 86) #[] #[Vp bf4, Vp bf8, Vp bf12]), (92, Vi 16), (93, Vs bfk 2 2)] [.n (bfk, 0, [Vi 2, Vi 2]), .o 0, .o 1, .o 2]) (And.intro (fun H sH => pb7 _ rb0 rb1 (by omega) (by omega)) (trivial)) trivial (fun bfk _ => by kernel_rfl) ?_
          clear hJ a w; intro bfk h58 a w s59 hJ
          have fk : Cells h58 bfk 0 [Vi 2, Vi 2] := hJ.f _ (List.mem_of_getElem? (i := 0) rfl)
          refine eY hJ 94 2 (many 16 [2, 2] _ _ _ _ _ _ _ (hr.sees (s3.trans (s5.trans (s59.trans hJ.j.sees)))) (by omega) (by simp) (by simp <;> omega) (fX [2, 2] (by unfold maxLen; simp) (fk.sees hJ.j.sees)) (hf.sees (hJ.j.lent hm)) (List.mem_append_right _ hg) (f4.sees (s5.trans (s59.trans hJ.j.sees))) (f8.sees (s5.trans (s59.trans hJ.j.sees))) (f12.sees (s5.trans (s59.trans hJ.j.sees)))) ?_; clear hJ a w; rintro _ _ h60 a w s61 ⟨u, rfl, rfl, fu⟩ hJ
          refine rk' hJ false 7 [.b 1 0] [] (.f (.out .ret) [] [8] [] [.box b6 [Vi ((aJ l n).k), Vi ((aJ l n).a), Vi ((aJ l n).b), .string ((aJ l n).t)], .box b1 [Vi ((opE 16 (dJ (iJ l fs d) [2, 2] (bJ l n)).1).op), Vi ((opE 16 (dJ (iJ l fs d) [2, 2] (bJ l n)).1).k), Vi ((opE 16 (dJ (iJ l fs d) [2, 2] (bJ l n)).1).n), .string ((opE 16 (dJ (iJ l fs d) [2, 2] (bJ l n)).1).s), .string ((opE 16 (dJ (iJ l fs d) [2, 2] (bJ l n)).1).nm), .slice (sA u) (sN u) (sC u)], .box g [sl, Vi (((dJ (iJ l fs d) [2, 2] (bJ l n)).2 : Nat) : Int)]] [.o 0, .o 1, .o 2, .o 3]) ?_
          clear hJ a w; intro a w hJ
          refine gY (hQ [.agg #[Vi ((opE 16 (dJ (iJ l fs d) [2, 2] (bJ l n)).1).op), Vi ((opE 16 (dJ (iJ l fs d) [2, 2] (bJ l n)).1).k), Vi ((opE 16 (dJ (iJ l fs d) [2, 2] (bJ l n)).1).n), .string ((opE 16 (dJ (iJ l fs d) [2, 2] (bJ l n)).1).s), .string ((opE 16 (dJ (iJ l fs d) [2, 2] (bJ l n)).1).nm), .slice (sA u) (sN u) (sC u)]] _ [(g, [sl, Vi (((dJ (iJ l fs d) [2, 2] (bJ l n)).2 : Nat) : Int)])] hJ (.rcel hJ.j 1 .nil) (xJ (by kernel_rfl)) rfl ?_).1
          exact uK (uQ q3 (by unfold mW; rw [if_neg q6, q7]; rfl)) rfl rfl (fu.sees hJ.j.out)
        · skip
          rw [q7] at pb7
          obtain q4 | q4 | q4 : cJ (aJ l n).a 3 = 0 ∨ cJ (aJ l n).a 3 = 1 ∨ cJ (aJ l n).a 3 = 2 := by omega
          · skip
            rw [q4] at pa3
            refine iY hJ (t := (cJ (aJ l n).a 6) == 0) (beq_eq_false_iff_ne.2 q6) ?_
            refine rk hJ true 66 [.b 0 2, .cl 24 #[Vi ((aJ l n).b), Vi 7] (Vi 3), .b 0 1, .cl 24 #[Vi ((aJ l n).a), Vi 3] (Vi 0), .fix] [] (.new fun bfk => .g (.ops [0, 1, 1, 1, 1, 1, 0, 1, 0, 1, 1, 1, 0, 1, 0, 1, 1, 1, 1, 1] 7) [.seq [1, 1, 1, 1, 1, 1, 0, 1, 0, 1, 1, 1, 0, 1, 0, 1, 1, 1, 1, 1], .block 2, .block 0, .seq [1, 1, 1, 1, 1, 1]] [8] [(72, .func (.func 86) #[] #[Vp bf4, Vp bf8, Vp bf12]), (75, Vi 11), (78, Vs bfk 2 2)] [.n (bfk, 0, [Vi 1, Vi 1]), .o 0, .o 1, .o 2]) (And.intro (fun H sH => pb7 _ rb0 rb1 (by omega) (by omega)) (And.intro (fun H sH => pa3 _ a0 a1 (by omega) (by omega)) (trivial))) trivial (fun bfk _ => by kernel_rfl) ?_
            clear hJ a w; intro bfk h62 a w s63 hJ
            have fk : Cells h62 bfk 0 [Vi 1, Vi 1] := hJ.f _ (List.mem_of_getElem? (i := 0) rfl)
            refine eY hJ 79 2 (many 11 [1, 1] _ _ _ _ _ _ _ (hr.sees (s3.trans (s5.trans (s63.trans hJ.j.sees)))) (by omega) (by simp) (by simp <;> omega) (fX [1, 1] (by unfold maxLen; simp) (fk.sees hJ.j.sees)) (hf.sees (hJ.j.lent hm)) (List.mem_append_right _ hg) (f4.sees (s5.trans (s63.trans hJ.j.sees))) (f8.sees (s5.trans (s63.trans hJ.j.sees))) (f12.sees (s5.trans (s63.trans hJ.j.sees)))) ?_; clear hJ a w; rintro _ _ h64 a w s65 ⟨u, rfl, rfl, fu⟩ hJ
            refine rk' hJ false 7 [.b 1 0] [] (.f (.out .ret) [] [8] [] [.box b6 [Vi ((aJ l n).k), Vi ((aJ l n).a), Vi ((aJ l n).b), .string ((aJ l n).t)], .box b1 [Vi ((opE 11 (dJ (iJ l fs d) [1, 1] (bJ l n)).1).op), Vi ((opE 11 (dJ (iJ l fs d) [1, 1] (bJ l n)).1).k), Vi ((opE 11 (dJ (iJ l fs d) [1, 1] (bJ l n)).1).n), .string ((opE 11 (dJ (iJ l fs d) [1, 1] (bJ l n)).1).s), .string ((opE 11 (dJ (iJ l fs d) [1, 1] (bJ l n)).1).nm), .slice (sA u) (sN u) (sC u)], .box g [sl, Vi (((dJ (iJ l fs d) [1, 1] (bJ l n)).2 : Nat) : Int)]] [.o 0, .o 1, .o 2, .o 3]) ?_
            clear hJ a w; intro a w hJ
            refine gY (hQ [.agg #[Vi ((opE 11 (dJ (iJ l fs d) [1, 1] (bJ l n)).1).op), Vi ((opE 11 (dJ (iJ l fs d) [1, 1] (bJ l n)).1).k), Vi ((opE 11 (dJ (iJ l fs d) [1, 1] (bJ l n)).1).n), .string ((opE 11 (dJ (iJ l fs d) [1, 1] (bJ l n)).1).s), .string ((opE 11 (dJ (iJ l fs d) [1, 1] (bJ l n)).1).nm), .slice (sA u) (sN u) (sC u)]] _ [(g, [sl, Vi (((dJ (iJ l fs d) [1, 1] (bJ l n)).2 : Nat) : Int)])] hJ (.rcel hJ.j 1 .nil) (xJ (by kernel_rfl)) rfl ?_).1
            exact uK (uQ q3 (by unfold mW; rw [if_neg q6, q7, q4]; rfl)) rfl rfl (fu.sees hJ.j.out)
          · skip
            rw [q4] at pa3
            refine iY hJ (t := (cJ (aJ l n).a 6) == 0) (beq_eq_false_iff_ne.2 q6) ?_
            refine rk hJ true 66 [.b 0 2, .cl 24 #[Vi ((aJ l n).b), Vi 7] (Vi 3), .b 0 1, .cl 24 #[Vi ((aJ l n).a), Vi 3] (Vi 1), .fix] [] (.new fun bfk => .g (.ops [0, 1, 1, 1, 1, 1, 0, 1, 0, 1, 1, 1, 0, 1, 0, 1, 1, 1, 1, 1] 7) [.seq [1, 1, 1, 1, 1, 1, 0, 1, 0, 1, 1, 1, 0, 1, 0, 1, 1, 1, 1, 1], .block 2, .block 0, .seq [1, 1, 1, 1, 1, 1]] [8] [(72, .func (.func 86) #[] #[Vp bf4, Vp bf8, Vp bf12]), (75, Vi 11), (78, Vs bfk 2 2)] [.n (bfk, 0, [Vi 2, Vi 2]), .o 0, .o 1, .o 2]) (And.intro (fun H sH => pb7 _ rb0 rb1 (by omega) (by omega)) (And.intro (fun H sH => pa3 _ a0 a1 (by omega) (by omega)) (trivial))) trivial (fun bfk _ => by kernel_rfl) ?_
            clear hJ a w; intro bfk h66 a w s67 hJ
            have fk : Cells h66 bfk 0 [Vi 2, Vi 2] := hJ.f _ (List.mem_of_getElem? (i := 0) rfl)
            refine eY hJ 79 2 (many 11 [2, 2] _ _ _ _ _ _ _ (hr.sees (s3.trans (s5.trans (s67.trans hJ.j.sees)))) (by omega) (by simp) (by simp <;> omega) (fX [2, 2] (by unfold maxLen; simp) (fk.sees hJ.j.sees)) (hf.sees (hJ.j.lent hm)) (List.mem_append_right _ hg) (f4.sees (s5.trans (s67.trans hJ.j.sees))) (f8.sees (s5.trans (s67.trans hJ.j.sees))) (f12.sees (s5.trans (s67.trans hJ.j.sees)))) ?_; clear hJ a w; rintro _ _ h68 a w s69 ⟨u, rfl, rfl, fu⟩ hJ
            refine rk' hJ false 7 [.b 1 0] [] (.f (.out .ret) [] [8] [] [.box b6 [Vi ((aJ l n).k), Vi ((aJ l n).a), Vi ((aJ l n).b), .string ((aJ l n).t)], .box b1 [Vi ((opE 11 (dJ (iJ l fs d) [2, 2] (bJ l n)).1).op), Vi ((opE 11 (dJ (iJ l fs d) [2, 2] (bJ l n)).1).k), Vi ((opE 11 (dJ (iJ l fs d) [2, 2] (bJ l n)).1).n), .string ((opE 11 (dJ (iJ l fs d) [2, 2] (bJ l n)).1).s), .string ((opE 11 (dJ (iJ l fs d) [2, 2] (bJ l n)).1).nm), .slice (sA u) (sN u) (sC u)], .box g [sl, Vi (((dJ (iJ l fs d) [2, 2] (bJ l n)).2 : Nat) : Int)]] [.o 0, .o 1, .o 2, .o 3]) ?_
            clear hJ a w; intro a w hJ
            refine gY (hQ [.agg #[Vi ((opE 11 (dJ (iJ l fs d) [2, 2] (bJ l n)).1).op), Vi ((opE 11 (dJ (iJ l fs d) [2, 2] (bJ l n)).1).k), Vi ((opE 11 (dJ (iJ l fs d) [2, 2] (bJ l n)).1).n), .string ((opE 11 (dJ (iJ l fs d) [2, 2] (bJ l n)).1).s), .string ((opE 11 (dJ (iJ l fs d) [2, 2] (bJ l n)).1).nm), .slice (sA u) (sN u) (sC u)]] _ [(g, [sl, Vi (((dJ (iJ l fs d) [2, 2] (bJ l n)).2 : Nat) : Int)])] hJ (.rcel hJ.j 1 .nil) (xJ (by kernel_rfl)) rfl ?_).1
            exact uK (uQ q3 (by unfold mW; rw [if_neg q6, q7, q4]; rfl)) rfl rfl (fu.sees hJ.j.out)
          · skip
            rw [q4] at pa3
            refine iY hJ (t := (cJ (aJ l n).a 6) == 0) (beq_eq_false_iff_ne.2 q6) ?_
            refine rk hJ true 66 [.b 0 2, .cl 24 #[Vi ((aJ l n).b), Vi 7] (Vi 3), .b 0 1, .cl 24 #[Vi ((aJ l n).a), Vi 3] (Vi 2), .fix] [] (.new fun bfk => .g (.ops [0, 1, 1, 1, 1, 1, 0, 1, 0, 1, 1, 1, 0, 1, 0, 1, 1, 1, 1, 1] 7) [.seq [1, 1, 1, 1, 1, 1, 0, 1, 0, 1, 1, 1, 0, 1, 0, 1, 1, 1, 1, 1], .block 2, .block 0, .seq [1, 1, 1, 1, 1, 1]] [8] [(72, .func (.func 86) #[] #[Vp bf4, Vp bf8, Vp bf12]), (75, Vi 11), (78, Vs bfk 2 2)] [.n (bfk, 0, [Vi 3, Vi 3]), .o 0, .o 1, .o 2]) (And.intro (fun H sH => pb7 _ rb0 rb1 (by omega) (by omega)) (And.intro (fun H sH => pa3 _ a0 a1 (by omega) (by omega)) (trivial))) trivial (fun bfk _ => by kernel_rfl) ?_
            clear hJ a w; intro bfk h70 a w s71 hJ
            have fk : Cells h70 bfk 0 [Vi 3, Vi 3] := hJ.f _ (List.mem_of_getElem? (i := 0) rfl)
            refine eY hJ 79 2 (many 11 [3, 3] _ _ _ _ _ _ _ (hr.sees (s3.trans (s5.trans (s71.trans hJ.j.sees)))) (by omega) (by simp) (by simp <;> omega) (fX [3, 3] (by unfold maxLen; simp) (fk.sees hJ.j.sees)) (hf.sees (hJ.j.lent hm)) (List.mem_append_right _ hg) (f4.sees (s5.trans (s71.trans hJ.j.sees))) (f8.sees (s5.trans (s71.trans hJ.j.sees))) (f12.sees (s5.trans (s71.trans hJ.j.sees)))) ?_; clear hJ a w; rintro _ _ h72 a w s73 ⟨u, rfl, rfl, fu⟩ hJ
            refine rx' hJ false 7 [.b 1 0] [] (.ok (.out .ret) [] [(8, Vp b1)] [.box b6 [Vi ((aJ l n).k), Vi ((aJ l n).a), Vi ((aJ l n).b), .string ((aJ l n).t)], .box b1 [Vi ((opE 11 (dJ (iJ l fs d) [3, 3] (bJ l n)).1).op), Vi ((opE 11 (dJ (iJ l fs d) [3, 3] (bJ l n)).1).k), Vi ((opE 11 (dJ (iJ l fs d) [3, 3] (bJ l n)).1).n), .string ((opE 11 (dJ (iJ l fs d) [3, 3] (bJ l n)).1).s), .string ((opE 11 (dJ (iJ l fs d) [3, 3] (bJ l n)).1).nm), .slice (sA u) (sN u) (sC u)], .box g [sl, Vi (((dJ (iJ l fs d) [3, 3] (bJ l n)).2 : Nat) : Int)]] [(bfk, 0, [Vi 3, Vi 3]), (bf12, 0, [Vi ((d + 1 : Nat) : Int)]), (bf8, 0, [.slice A nf cap]), (bf4, 0, [Vp g])]) (fun _ => by kernel_rfl) ?_
            clear hJ a w; intro a w hJ
            refine gY (hQ [.agg #[Vi ((opE 11 (dJ (iJ l fs d) [3, 3] (bJ l n)).1).op), Vi ((opE 11 (dJ (iJ l fs d) [3, 3] (bJ l n)).1).k), Vi ((opE 11 (dJ (iJ l fs d) [3, 3] (bJ l n)).1).n), .string ((opE 11 (dJ (iJ l fs d) [3, 3] (bJ l n)).1).s), .string ((opE 11 (dJ (iJ l fs d) [3, 3] (bJ l n)).1).nm), .slice (sA u) (sN u) (sC u)]] _ [(g, [sl, Vi (((dJ (iJ l fs d) [3, 3] (bJ l n)).2 : Nat) : Int)])] hJ (.rcel hJ.j 1 .nil) (xJ (by kernel_rfl)) rfl ?_).1
            exact uK (uQ q3 (by unfold mW; rw [if_neg q6, q7, q4]; rfl)) rfl rfl (fu.sees hJ.j.out)
        · skip
          rw [q7] at pb7
          obtain q4 | q4 | q4 : cJ (aJ l n).a 3 = 0 ∨ cJ (aJ l n).a 3 = 1 ∨ cJ (aJ l n).a 3 = 2 := by omega
          · skip
            rw [q4] at pa3
            refine iY hJ (t := (cJ (aJ l n).a 6) == 0) (beq_eq_false_iff_ne.2 q6) ?_
            refine rk hJ true 66 [.b 0 2, .cl 24 #[Vi ((aJ l n).b), Vi 7] (Vi 4), .b 0 1, .cl 24 #[Vi ((aJ l n).a), Vi 3] (Vi 0), .fix] [] (.new fun bfk => .g (.ops [0, 1, 1, 1, 1, 1, 0, 1, 0, 1, 1, 1, 0, 1, 0, 1, 1, 1, 1, 1] 7) [.seq [1, 1, 1, 1, 1, 1, 0, 1, 0, 1, 1, 1, 0, 1, 0, 1, 1, 1, 1, 1], .block 2, .block 0, .seq [1, 1, 1, 1, 1, 1]] [8] [(72, .func (.func 86) #[] #[Vp bf4, Vp bf8, Vp bf12]), (75, Vi 12), (78, Vs bfk 2 2)] [.n (bfk, 0, [Vi 1, Vi 1]), .o 0, .o 1, .o 2]) (And.intro (fun H sH => pb7 _ rb0 rb1 (by omega) (by omega)) (And.intro (fun H sH => pa3 _ a0 a1 (by omega) (by omega)) (trivial))) trivial (fun bfk _ => by kernel_rfl) ?_
            clear hJ a w; intro bfk h74 a w s75 hJ
            have fk : Cells h74 bfk 0 [Vi 1, Vi 1] := hJ.f _ (List.mem_of_getElem? (i := 0) rfl)
            refine eY hJ 79 2 (many 12 [1, 1] _ _ _ _ _ _ _ (hr.sees (s3.trans (s5.trans (s75.trans hJ.j.sees)))) (by omega) (by simp) (by simp <;> omega) (fX [1, 1] (by unfold maxLen; simp) (fk.sees hJ.j.sees)) (hf.sees (hJ.j.lent hm)) (List.mem_append_right _ hg) (f4.sees (s5.trans (s75.trans hJ.j.sees))) (f8.sees (s5.trans (s75.trans hJ.j.sees))) (f12.sees (s5.trans (s75.trans hJ.j.sees)))) ?_; clear hJ a w; rintro _ _ h76 a w s77 ⟨u, rfl, rfl, fu⟩ hJ
            refine rk' hJ false 7 [.b 1 0] [] (.f (.out .ret) [] [8] [] [.box b6 [Vi ((aJ l n).k), Vi ((aJ l n).a), Vi ((aJ l n).b), .string ((aJ l n).t)], .box b1 [Vi ((opE 12 (dJ (iJ l fs d) [1, 1] (bJ l n)).1).op), Vi ((opE 12 (dJ (iJ l fs d) [1, 1] (bJ l n)).1).k), Vi ((opE 12 (dJ (iJ l fs d) [1, 1] (bJ l n)).1).n), .string ((opE 12 (dJ (iJ l fs d) [1, 1] (bJ l n)).1).s), .string ((opE 12 (dJ (iJ l fs d) [1, 1] (bJ l n)).1).nm), .slice (sA u) (sN u) (sC u)], .box g [sl, Vi (((dJ (iJ l fs d) [1, 1] (bJ l n)).2 : Nat) : Int)]] [.o 0, .o 1, .o 2, .o 3]) ?_
            clear hJ a w; intro a w hJ
            refine gY (hQ [.agg #[Vi ((opE 12 (dJ (iJ l fs d) [1, 1] (bJ l n)).1).op), Vi ((opE 12 (dJ (iJ l fs d) [1, 1] (bJ l n)).1).k), Vi ((opE 12 (dJ (iJ l fs d) [1, 1] (bJ l n)).1).n), .string ((opE 12 (dJ (iJ l fs d) [1, 1] (bJ l n)).1).s), .string ((opE 12 (dJ (iJ l fs d) [1, 1] (bJ l n)).1).nm), .slice (sA u) (sN u) (sC u)]] _ [(g, [sl, Vi (((dJ (iJ l fs d) [1, 1] (bJ l n)).2 : Nat) : Int)])] hJ (.rcel hJ.j 1 .nil) (xJ (by kernel_rfl)) rfl ?_).1
            exact uK (uQ q3 (by unfold mW; rw [if_neg q6, q7, q4]; rfl)) rfl rfl (fu.sees hJ.j.out)
          · skip
            rw [q4] at pa3
            refine iY hJ (t := (cJ (aJ l n).a 6) == 0) (beq_eq_false_iff_ne.2 q6) ?_
            refine rk hJ true 66 [.b 0 2, .cl 24 #[Vi ((aJ l n).b), Vi 7] (Vi 4), .b 0 1, .cl 24 #[Vi ((aJ l n).a), Vi 3] (Vi 1), .fix] [] (.new fun bfk => .g (.ops [0, 1, 1, 1, 1, 1, 0, 1, 0, 1, 1, 1, 0, 1, 0, 1, 1, 1, 1, 1] 7) [.seq [1, 1, 1, 1, 1, 1, 0, 1, 0, 1, 1, 1, 0, 1, 0, 1, 1, 1, 1, 1], .block 2, .block 0, .seq [1, 1, 1, 1, 1, 1]] [8] [(72, .func (.func 86) #[] #[Vp bf4, Vp bf8, Vp bf12]), (75, Vi 12), (78, Vs bfk 2 2)] [.n (bfk, 0, [Vi 2, Vi 2]), .o 0, .o 1, .o 2]) (And.intro (fun H sH => pb7 _ rb0 rb1 (by omega) (by omega)) (And.intro (fun H sH => pa3 _ a0 a1 (by omega) (by omega)) (trivial))) trivial (fun bfk _ => by kernel_rfl) ?_
            clear hJ a w; intro bfk h78 a w s79 hJ
            have fk : Cells h78 bfk 0 [Vi 2, Vi 2] := hJ.f _ (List.mem_of_getElem? (i := 0) rfl)
            refine eY hJ 79 2 (many 12 [2, 2] _ _ _ _ _ _ _ (hr.sees (s3.trans (s5.trans (s79.trans hJ.j.sees)))) (by omega) (by simp) (by simp <;> omega) (fX [2, 2] (by unfold maxLen; simp) (fk.sees hJ.j.sees)) (hf.sees (hJ.j.lent hm)) (List.mem_append_right _ hg) (f4.sees (s5.trans (s79.trans hJ.j.sees))) (f8.sees (s5.trans (s79.trans hJ.j.sees))) (f12.sees (s5.trans (s79.trans hJ.j.sees)))) ?_; clear hJ a w; rintro _ _ h80 a w s81 ⟨u, rfl, rfl, fu⟩ hJ
            refine rk' hJ false 7 [.b 1 0] [] (.f (.out .ret) [] [8] [] [.box b6 [Vi ((aJ l n).k), Vi ((aJ l n).a), Vi ((aJ l n).b), .string ((aJ l n).t)], .box b1 [Vi ((opE 12 (dJ (iJ l fs d) [2, 2] (bJ l n)).1).op), Vi ((opE 12 (dJ (iJ l fs d) [2, 2] (bJ l n)).1).k), Vi ((opE 12 (dJ (iJ l fs d) [2, 2] (bJ l n)).1).n), .string ((opE 12 (dJ (iJ l fs d) [2, 2] (bJ l n)).1).s), .string ((opE 12 (dJ (iJ l fs d) [2, 2] (bJ l n)).1).nm), .slice (sA u) (sN u) (sC u)], .box g [sl, Vi (((dJ (iJ l fs d) [2, 2] (bJ l n)).2 : Nat) : Int)]] [.o 0, .o 1, .o 2, .o 3]) ?_
            clear hJ a w; intro a w hJ
            refine gY (hQ [.agg #[Vi ((opE 12 (dJ (iJ l fs d) [2, 2] (bJ l n)).1).op), Vi ((opE 12 (dJ (iJ l fs d) [2, 2] (bJ l n)).1).k), Vi ((opE 12 (dJ (iJ l fs d) [2, 2] (bJ l n)).1).n), .string ((opE 12 (dJ (iJ l fs d) [2, 2] (bJ l n)).1).s), .string ((opE 12 (dJ (iJ l fs d) [2, 2] (bJ l n)).1).nm), .slice (sA u) (sN u) (sC u)]] _ [(g, [sl, Vi (((dJ (iJ l fs d) [2, 2] (bJ l n)).2 : Nat) : Int)])] hJ (.rcel hJ.j 1 .nil) (xJ (by kernel_rfl)) rfl ?_).1
            exact uK (uQ q3 (by unfold mW; rw [if_neg q6, q7, q4]; rfl)) rfl rfl (fu.sees hJ.j.out)
          · skip
            rw [q4] at pa3
            refine iY hJ (t := (cJ (aJ l n).a 6) == 0) (beq_eq_false_iff_ne.2 q6) ?_
            refine rk hJ true 66 [.b 0 2, .cl 24 #[Vi ((aJ l n).b), Vi 7] (Vi 4), .b 0 1, .cl 24 #[Vi ((aJ l n).a), Vi 3] (Vi 2), .fix] [] (.new fun bfk => .g (.ops [0, 1, 1, 1, 1, 1, 0, 1, 0, 1, 1, 1, 0, 1, 0, 1, 1, 1, 1, 1] 7) [.seq [1, 1, 1, 1, 1, 1, 0, 1, 0, 1, 1, 1, 0, 1, 0, 1, 1, 1, 1, 1], .block 2, .block 0, .seq [1, 1, 1, 1, 1, 1]] [8] [(72, .func (.func 86) #[] #[Vp bf4, Vp bf8, Vp bf12]), (75, Vi 12), (78, Vs bfk 2 2)] [.n (bfk, 0, [Vi 3, Vi 3]), .o 0, .o 1, .o 2]) (And.intro (fun H sH => pb7 _ rb0 rb1 (by omega) (by omega)) (And.intro (fun H sH => pa3 _ a0 a1 (by omega) (by omega)) (trivial))) trivial (fun bfk _ => by kernel_rfl) ?_
            clear hJ a w; intro bfk h82 a w s83 hJ
            have fk : Cells h82 bfk 0 [Vi 3, Vi 3] := hJ.f _ (List.mem_of_getElem? (i := 0) rfl)
            refine eY hJ 79 2 (many 12 [3, 3] _ _ _ _ _ _ _ (hr.sees (s3.trans (s5.trans (s83.trans hJ.j.sees)))) (by omega) (by simp) (by simp <;> omega) (fX [3, 3] (by unfold maxLen; simp) (fk.sees hJ.j.sees)) (hf.sees (hJ.j.lent hm)) (List.mem_append_right _ hg) (f4.sees (s5.trans (s83.trans hJ.j.sees))) (f8.sees (s5.trans (s83.trans hJ.j.sees))) (f12.sees (s5.trans (s83.trans hJ.j.sees)))) ?_; clear hJ a w; rintro _ _ h84 a w s85 ⟨u, rfl, rfl, fu⟩ hJ
            refine rk' hJ false 7 [.b 1 0] [] (.f (.out .ret) [] [8] [] [.box b6 [Vi ((aJ l n).k), Vi ((aJ l n).a), Vi ((aJ l n).b), .string ((aJ l n).t)], .box b1 [Vi ((opE 12 (dJ (iJ l fs d) [3, 3] (bJ l n)).1).op), Vi ((opE 12 (dJ (iJ l fs d) [3, 3] (bJ l n)).1).k), Vi ((opE 12 (dJ (iJ l fs d) [3, 3] (bJ l n)).1).n), .string ((opE 12 (dJ (iJ l fs d) [3, 3] (bJ l n)).1).s), .string ((opE 12 (dJ (iJ l fs d) [3, 3] (bJ l n)).1).nm), .slice (sA u) (sN u) (sC u)], .box g [sl, Vi (((dJ (iJ l fs d) [3, 3] (bJ l n)).2 : Nat) : Int)]] [.o 0, .o 1, .o 2, .o 3]) ?_
            clear hJ a w; intro a w hJ
            refine gY (hQ [.agg #[Vi ((opE 12 (dJ (iJ l fs d) [3, 3] (bJ l n)).1).op), Vi ((opE 12 (dJ (iJ l fs d) [3, 3] (bJ l n)).1).k), Vi ((opE 12 (dJ (iJ l fs d) [3, 3] (bJ l n)).1).n), .string ((opE 12 (dJ (iJ l fs d) [3, 3] (bJ l n)).1).s), .string ((opE 12 (dJ (iJ l fs d) [3, 3] (bJ l n)).1).nm), .slice (sA u) (sN u) (sC u)]] _ [(g, [sl, Vi (((dJ (iJ l fs d) [3, 3] (bJ l n)).2 : Nat) : Int)])] hJ (.rcel hJ.j 1 .nil) (xJ (by kernel_rfl)) rfl ?_).1
            exact uK (uQ q3 (by unfold mW; rw [if_neg q6, q7, q4]; rfl)) rfl rfl (fu.sees hJ.j.out)
        · skip
          rw [q7] at pb7
          obtain q4 | q4 | q4 : cJ (aJ l n).a 3 = 0 ∨ cJ (aJ l n).a 3 = 1 ∨ cJ (aJ l n).a 3 = 2 := by omega
          · skip
            rw [q4] at pa3
            refine iY hJ (t := (cJ (aJ l n).a 6) == 0) (beq_eq_false_iff_ne.2 q6) ?_
            refine rk hJ true 66 [.b 0 2, .cl 24 #[Vi ((aJ l n).b), Vi 7] (Vi 5), .b 0 1, .cl 24 #[Vi ((aJ l n).a), Vi 3] (Vi 0), .fix] [] (.new fun bfk => .g (.ops [0, 1, 1, 1, 1, 1, 0, 1, 0, 1, 1, 1, 0, 1, 0, 1, 1, 1, 1, 1] 7) [.seq [1, 1, 1, 1, 1, 1, 0, 1, 0, 1, 1, 1, 0, 1, 0, 1, 1, 1, 1, 1], .block 2, .block 0, .seq [1, 1, 1, 1, 1, 1]] [8] [(72, .func (.func 86) #[] #[Vp bf4, Vp bf8, Vp bf12]), (75, Vi 13), (78, Vs bfk 2 2)] [.n (bfk, 0, [Vi 1, Vi 1]), .o 0, .o 1, .o 2]) (And.intro (fun H sH => pb7 _ rb0 rb1 (by omega) (by omega)) (And.intro (fun H sH => pa3 _ a0 a1 (by omega) (by omega)) (trivial))) trivial (fun bfk _ => by kernel_rfl) ?_
            clear hJ a w; intro bfk h86 a w s87 hJ
            have fk : Cells h86 bfk 0 [Vi 1, Vi 1] := hJ.f _ (List.mem_of_getElem? (i := 0) rfl)
            refine eY hJ 79 2 (many 13 [1, 1] _ _ _ _ _ _ _ (hr.sees (s3.trans (s5.trans (s87.trans hJ.j.sees)))) (by omega) (by simp) (by simp <;> omega) (fX [1, 1] (by unfold maxLen; simp) (fk.sees hJ.j.sees)) (hf.sees (hJ.j.lent hm)) (List.mem_append_right _ hg) (f4.sees (s5.trans (s87.trans hJ.j.sees))) (f8.sees (s5.trans (s87.trans hJ.j.sees))) (f12.sees (s5.trans (s87.trans hJ.j.sees)))) ?_; clear hJ a w; rintro _ _ h88 a w s89 ⟨u, rfl, rfl, fu⟩ hJ
            refine rk' hJ false 7 [.b 1 0] [] (.f (.out .ret) [] [8] [] [.box b6 [Vi ((aJ l n).k), Vi ((aJ l n).a), Vi ((aJ l n).b), .string ((aJ l n).t)], .box b1 [Vi ((opE 13 (dJ (iJ l fs d) [1, 1] (bJ l n)).1).op), Vi ((opE 13 (dJ (iJ l fs d) [1, 1] (bJ l n)).1).k), Vi ((opE 13 (dJ (iJ l fs d) [1, 1] (bJ l n)).1).n), .string ((opE 13 (dJ (iJ l fs d) [1, 1] (bJ l n)).1).s), .string ((opE 13 (dJ (iJ l fs d) [1, 1] (bJ l n)).1).nm), .slice (sA u) (sN u) (sC u)], .box g [sl, Vi (((dJ (iJ l fs d) [1, 1] (bJ l n)).2 : Nat) : Int)]] [.o 0, .o 1, .o 2, .o 3]) ?_
            clear hJ a w; intro a w hJ
            refine gY (hQ [.agg #[Vi ((opE 13 (dJ (iJ l fs d) [1, 1] (bJ l n)).1).op), Vi ((opE 13 (dJ (iJ l fs d) [1, 1] (bJ l n)).1).k), Vi ((opE 13 (dJ (iJ l fs d) [1, 1] (bJ l n)).1).n), .string ((opE 13 (dJ (iJ l fs d) [1, 1] (bJ l n)).1).s), .string ((opE 13 (dJ (iJ l fs d) [1, 1] (bJ l n)).1).nm), .slice (sA u) (sN u) (sC u)]] _ [(g, [sl, Vi (((dJ (iJ l fs d) [1, 1] (bJ l n)).2 : Nat) : Int)])] hJ (.rcel hJ.j 1 .nil) (xJ (by kernel_rfl)) rfl ?_).1
            exact uK (uQ q3 (by unfold mW; rw [if_neg q6, q7, q4]; rfl)) rfl rfl (fu.sees hJ.j.out)
          · skip
            rw [q4] at pa3
            refine iY hJ (t := (cJ (aJ l n).a 6) == 0) (beq_eq_false_iff_ne.2 q6) ?_
            refine rx' hJ true 66 [.b 0 2, .cl 24 #[Vi ((aJ l n).b), Vi 7] (Vi 5), .b 0 1, .cl 24 #[Vi ((aJ l n).a), Vi 3] (Vi 1), .fix] [] (.new fun bfk => .ok (.ops [0, 1, 1, 1, 1, 1, 0, 1, 0, 1, 1, 1, 0, 1, 0, 1, 1, 1, 1, 1] 7) [.seq [1, 1, 1, 1, 1, 1, 0, 1, 0, 1, 1, 1, 0, 1, 0, 1, 1, 1, 1, 1], .block 2, .block 0, .seq [1, 1, 1, 1, 1, 1]] [(8, Vp b1), (72, .func (.func 86) #[] #[Vp bf4, Vp bf8, Vp bf12]), (75, Vi 13), (78, Vs bfk 2 2)] [.box b6 [Vi ((aJ l n).k), Vi ((aJ l n).a), Vi ((aJ l n).b), .string ((aJ l n).t)], .box b1 [Vi 0, Vi 0, Vi 0, Ve, Ve, Vz], .box g [sl, Vi ((bJ l n : Nat) : Int)]] [(bfk, 0, [Vi 2, Vi 2]), (bf12, 0, [Vi ((d + 1 : Nat) : Int)]), (bf8, 0, [.slice A nf cap]), (bf4, 0, [Vp g])]) (ho := And.intro (fun H sH => pb7 _ rb0 rb1 (by omega) (by omega)) (And.intro (fun H sH => pa3 _ a0 a1 (by omega) (by omega)) (trivial))) (fun bfk _ => by kernel_rfl) ?_
            clear hJ a w; intro bfk h90 a w s91 hJ
            have fk : Cells h90 bfk 0 [Vi 2, Vi 2] := hJ.f _ (List.mem_of_getElem? (i := 0) rfl)
            refine eY hJ 79 2 (many 13 [2, 2] _ _ _ _ _ _ _ (hr.sees (s3.trans (s5.trans (s91.trans hJ.j.sees)))) (by omega) (by simp) (by simp <;> omega) (fX [2, 2] (by unfold maxLen; simp) (fk.sees hJ.j.sees)) (hf.sees (hJ.j.lent hm)) (List.mem_append_right _ hg) (f4.sees (s5.trans (s91.trans hJ.j.sees))) (f8.sees (s5.trans (s91.trans hJ.j.sees))) (f12.sees (s5.trans (s91.trans hJ.j.sees)))) ?_; clear hJ a w; rintro _ _ h92 a w s93 ⟨u, rfl, rfl, fu⟩ hJ
            refine rk' hJ false 7 [.b 1 0] [] (.f (.out .ret) [] [8] [] [.box b6 [Vi ((aJ l n).k), Vi ((aJ l n).a), Vi ((aJ l n).b), .string ((aJ l n).t)], .box b1 [Vi ((opE 13 (dJ (iJ l fs d) [2, 2] (bJ l n)).1).op), Vi ((opE 13 (dJ (iJ l fs d) [2, 2] (bJ l n)).1).k), Vi ((opE 13 (dJ (iJ l fs d) [2, 2] (bJ l n)).1).n), .string ((opE 13 (dJ (iJ l fs d) [2, 2] (bJ l n)).1).s), .string ((opE 13 (dJ (iJ l fs d) [2, 2] (bJ l n)).1).nm), .slice (sA u) (sN u) (sC u)], .box g [sl, Vi (((dJ (iJ l fs d) [2, 2] (bJ l n)).2 : Nat) : Int)]] [.o 0, .o 1, .o 2, .o 3]) ?_
            clear hJ a w; intro a w hJ
            refine gY (hQ [.agg #[Vi ((opE 13 (dJ (iJ l fs d) [2, 2] (bJ l n)).1).op), Vi ((opE 13 (dJ (iJ l fs d) [2, 2] (bJ l n)).1).k), Vi ((opE 13 (dJ (iJ l fs d) [2, 2] (bJ l n)).1).n), .string ((opE 13 (dJ (iJ l fs d) [2, 2] (bJ l n)).1).s), .string ((opE 13 (dJ (iJ l fs d) [2, 2] (bJ l n)).1).nm), .slice (sA u) (sN u) (sC u)]] _ [(g, [sl, Vi (((dJ (iJ l fs d) [2, 2] (bJ l n)).2 : Nat) : Int)])] hJ (.rcel hJ.j 1 .nil) (xJ (by kernel_rfl)) rfl ?_).1
            exact uK (uQ q3 (by unfold mW; rw [if_neg q6, q7, q4]; rfl)) rfl rfl (fu.sees hJ.j.out)
          · skip
            rw [q4] at pa3
            refine iY hJ (t := (cJ (aJ l n).a 6) == 0) (beq_eq_false_iff_ne.2 q6) ?_
            refine rk hJ true 66 [.b 0 2, .cl 24 #[Vi ((aJ l n).b), Vi 7] (Vi 5), .b 0 1, .cl 24 #[Vi ((aJ l n).a), Vi 3] (Vi 2), .fix] [] (.new fun bfk => .g (.ops [0, 1, 1, 1, 1, 1, 0, 1, 0, 1, 1, 1, 0, 1, 0, 1, 1, 1, 1, 1] 7) [.seq [1, 1, 1, 1, 1, 1, 0, 1, 0, 1, 1, 1, 0, 1, 0, 1, 1, 1, 1, 1], .block 2, .block 0, .seq [1, 1, 1, 1, 1, 1]] [8] [(72, .func (.func 86) #[] #[Vp bf4, Vp bf8, Vp bf12]), (75, Vi 13), (78, Vs bfk 2 2)] [.n (bfk, 0, [Vi 3, Vi 3]), .o 0, .o 1, .o 2]) (And.intro (fun H sH => pb7 _ rb0 rb1 (by omega) (by omega)) (And.intro (fun H sH => pa3 _ a0 a1 (by omega) (by omega)) (trivial))) trivial (fun bfk _ => by kernel_rfl) ?_
            clear hJ a w; intro bfk h94 a w s95 hJ
            have fk : Cells h94 bfk 0 [Vi 3, Vi 3] := hJ.f _ (List.mem_of_getElem? (i := 0) rfl)
            refine eY hJ 79 2 (many 13 [3, 3] _ _ _ _ _ _ _ (hr.sees (s3.trans (s5.trans (s95.trans hJ.j.sees)))) (by omega) (by simp) (by simp <;> omega) (fX [3, 3] (by unfold maxLen; simp) (fk.sees hJ.j.sees)) (hf.sees (hJ.j.lent hm)) (List.mem_append_right _ hg) (f4.sees (s5.trans (s95.trans hJ.j.sees))) (f8.sees (s5.trans (s95.trans hJ.j.sees))) (f12.sees (s5.trans (s95.trans hJ.j.sees)))) ?_; clear hJ a w; rintro _ _ h96 a w s97 ⟨u, rfl, rfl, fu⟩ hJ
            refine rk' hJ false 7 [.b 1 0] [] (.f (.out .ret) [] [8] [] [.box b6 [Vi ((aJ l n).k), Vi ((aJ l n).a), Vi ((aJ l n).b), .string ((aJ l n).t)], .box b1 [Vi ((opE 13 (dJ (iJ l fs d) [3, 3] (bJ l n)).1).op), Vi ((opE 13 (dJ (iJ l fs d) [3, 3] (bJ l n)).1).k), Vi ((opE 13 (dJ (iJ l fs d) [3, 3] (bJ l n)).1).n), .string ((opE 13 (dJ (iJ l fs d) [3, 3] (bJ l n)).1).s), .string ((opE 13 (dJ (iJ l fs d) [3, 3] (bJ l n)).1).nm), .slice (sA u) (sN u) (sC u)], .box g [sl, Vi (((dJ (iJ l fs d) [3, 3] (bJ l n)).2 : Nat) : Int)]] [.o 0, .o 1, .o 2, .o 3]) ?_
            clear hJ a w; intro a w hJ
            refine gY (hQ [.agg #[Vi ((opE 13 (dJ (iJ l fs d) [3, 3] (bJ l n)).1).op), Vi ((opE 13 (dJ (iJ l fs d) [3, 3] (bJ l n)).1).k), Vi ((opE 13 (dJ (iJ l fs d) [3, 3] (bJ l n)).1).n), .string ((opE 13 (dJ (iJ l fs d) [3, 3] (bJ l n)).1).s), .string ((opE 13 (dJ (iJ l fs d) [3, 3] (bJ l n)).1).nm), .slice (sA u) (sN u) (sC u)]] _ [(g, [sl, Vi (((dJ (iJ l fs d) [3, 3] (bJ l n)).2 : Nat) : Int)])] hJ (.rcel hJ.j 1 .nil) (xJ (by kernel_rfl)) rfl ?_).1
            exact uK (uQ q3 (by unfold mW; rw [if_neg q6, q7, q4]; rfl)) rfl rfl (fu.sees hJ.j.out)
        · skip
          rw [q7] at pb7
          obtain q4 | q4 | q4 : cJ (aJ l n).a 3 = 0 ∨ cJ (aJ l n).a 3 = 1 ∨ cJ (aJ l n).a 3 = 2 := by omega
          · skip
            rw [q4] at pa3
            refine iY hJ (t := (cJ (aJ l n).a 6) == 0) (beq_eq_false_iff_ne.2 q6) ?_
            refine rk hJ true 66 [.b 0 2, .cl 24 #[Vi ((aJ l n).b), Vi 7] (Vi 6), .b 0 1, .cl 24 #[Vi ((aJ l n).a), Vi 3] (Vi 0), .fix] [] (.new fun bfk => .g (.ops [0, 1, 1, 1, 1, 1, 0, 1, 0, 1, 1, 1, 0, 1, 0, 1, 1, 1, 1, 1] 7) [.seq [1, 1, 1, 1, 1, 1, 0, 1, 0, 1, 1, 1, 0, 1, 0, 1, 1, 1, 1, 1], .block 2, .block 0, .seq [1, 1, 1, 1, 1, 1]] [8] [(72, .func (.func 86) #[] #[Vp bf4, Vp bf8, Vp bf12]), (75, Vi 14), (78, Vs bfk 2 2)] [.n (bfk, 0, [Vi 1, Vi 1]), .o 0, .o 1, .o 2]) (And.intro (fun H sH => pb7 _ rb0 rb1 (by omega) (by omega)) (And.intro (fun H sH => pa3 _ a0 a1 (by omega) (by omega)) (trivial))) trivial (fun bfk _ => by kernel_rfl) ?_
            clear hJ a w; intro bfk h98 a w s99 hJ
            have fk : Cells h98 bfk 0 [Vi 1, Vi 1] := hJ.f _ (List.mem_of_getElem? (i := 0) rfl)
            refine eY hJ 79 2 (many 14 [1, 1] _ _ _ _ _ _ _ (hr.sees (s3.trans (s5.trans (s99.trans hJ.j.sees)))) (by omega) (by simp) (by simp <;> omega) (fX [1, 1] (by unfold maxLen; simp) (fk.sees hJ.j.sees)) (hf.sees (hJ.j.lent hm)) (List.mem_append_right _ hg) (f4.sees (s5.trans (s99.trans hJ.j.sees))) (f8.sees (s5.trans (s99.trans hJ.j.sees))) (f12.sees (s5.trans (s99.trans hJ.j.sees)))) ?_; clear hJ a w; rintro _ _ h100 a w s101 ⟨u, rfl, rfl, fu⟩ hJ
            refine rk' hJ false 7 [.b 1 0] [] (.f (.out .ret) [] [8] [] [.box b6 [Vi ((aJ l n).k), Vi ((aJ l n).a), Vi ((aJ l n).b), .string ((aJ l n).t)], .box b1 [Vi ((opE 14 (dJ (iJ l fs d) [1, 1] (bJ l n)).1).op), Vi ((opE 14 (dJ (iJ l fs d) [1, 1] (bJ l n)).1).k), Vi ((opE 14 (dJ (iJ l fs d) [1, 1] (bJ l n)).1).n), .string ((opE 14 (dJ (iJ l fs d) [1, 1] (bJ l n)).1).s), .string ((opE 14 (dJ (iJ l fs d) [1, 1] (bJ l n)).1).nm), .slice (sA u) (sN u) (sC u)], .box g [sl, Vi (((dJ (iJ l fs d) [1, 1] (bJ l n)).2 : Nat) : Int)]] [.o 0, .o 1, .o 2, .o 3]) ?_
            clear hJ a w; intro a w hJ
            refine gY (hQ [.agg #[Vi ((opE 14 (dJ (iJ l fs d) [1, 1] (bJ l n)).1).op), Vi ((opE 14 (dJ (iJ l fs d) [1, 1] (bJ l n)).1).k), Vi ((opE 14 (dJ (iJ l fs d) [1, 1] (bJ l n)).1).n), .string ((opE 14 (dJ (iJ l fs d) [1, 1] (bJ l n)).1).s), .string ((opE 14 (dJ (iJ l fs d) [1, 1] (bJ l n)).1).nm), .slice (sA u) (sN u) (sC u)]] _ [(g, [sl, Vi (((dJ (iJ l fs d) [1, 1] (bJ l n)).2 : Nat) : Int)])] hJ (.rcel hJ.j 1 .nil) (xJ (by kernel_rfl)) rfl ?_).1
            exact uK (uQ q3 (by unfold mW; rw [if_neg q6, q7, q4]; rfl)) rfl rfl (fu.sees hJ.j.out)
          · skip
            rw [q4] at pa3
            refine iY hJ (t := (cJ (aJ l n).a 6) == 0) (beq_eq_false_iff_ne.2 q6) ?_
            refine rk hJ true 66 [.b 0 2, .cl 24 #[Vi ((aJ l n).b), Vi 7] (Vi 6), .b 0 1, .cl 24 #[Vi ((aJ l n).a), Vi 3] (Vi 1), .fix] [] (.new fun bfk => .g (.ops [0, 1, 1, 1, 1, 1, 0, 1, 0, 1, 1, 1, 0, 1, 0, 1, 1, 1, 1, 1] 7) [.seq [1, 1, 1, 1, 1, 1, 0, 1, 0, 1, 1, 1, 0, 1, 0, 1, 1, 1, 1, 1], .block 2, .block 0, .seq [1, 1, 1, 1, 1, 1]] [8] [(72, .func (.func 86) #[] #[Vp bf4, Vp bf8, Vp bf12]), (75, Vi 14), (78, Vs bfk 2 2)] [.n (bfk, 0, [Vi 2, Vi 2]), .o 0, .o 1, .o 2]) (And.intro (fun H sH => pb7 _ rb0 rb1 (by omega) (by omega)) (And.intro (fun H sH => pa3 _ a0 a1 (by omega) (by omega)) (trivial))) trivial (fun bfk _ => by kernel_rfl) ?_
            clear hJ a w; intro bfk h102 a w s103 hJ
            have fk : Cells h102 bfk 0 [Vi 2, Vi 2] := hJ.f _ (List.mem_of_getElem? (i := 0) rfl)
            refine eY hJ 79 2 (many 14 [2, 2] _ _ _ _ _ _ _ (hr.sees (s3.trans (s5.trans (s103.trans hJ.j.sees)))) (by omega) (by simp) (by simp <;> omega) (fX [2, 2] (by unfold maxLen; simp) (fk.sees hJ.j.sees)) (hf.sees (hJ.j.lent hm)) (List.mem_append_right _ hg) (f4.sees (s5.trans (s103.trans hJ.j.sees))) (f8.sees (s5.trans (s103.trans hJ.j.sees))) (f12.sees (s5.trans (s103.trans hJ.j.sees)))) ?_; clear hJ a w; rintro _ _ h104 a w s105 ⟨u, rfl, rfl, fu⟩ hJ
            refine rk' hJ false 7 [.b 1 0] [] (.f (.out .ret) [] [8] [] [.box b6 [Vi ((aJ l n).k), Vi ((aJ l n).a), Vi ((aJ l n).b), .string ((aJ l n).t)], .box b1 [Vi ((opE 14 (dJ (iJ l fs d) [2, 2] (bJ l n)).1).op), Vi ((opE 14 (dJ (iJ l fs d) [2, 2] (bJ l n)).1).k), Vi ((opE 14 (dJ (iJ l fs d) [2, 2] (bJ l n)).1).n), .string ((opE 14 (dJ (iJ l fs d) [2, 2] (bJ l n)).1).s), .string ((opE 14 (dJ (iJ l fs d) [2, 2] (bJ l n)).1).nm), .slice (sA u) (sN u) (sC u)], .box g [sl, Vi (((dJ (iJ l fs d) [2, 2] (bJ l n)).2 : Nat) : Int)]] [.o 0, .o 1, .o 2, .o 3]) ?_
            clear hJ a w; intro a w hJ
            refine gY (hQ [.agg #[Vi ((opE 14 (dJ (iJ l fs d) [2, 2] (bJ l n)).1).op), Vi ((opE 14 (dJ (iJ l fs d) [2, 2] (bJ l n)).1).k), Vi ((opE 14 (dJ (iJ l fs d) [2, 2] (bJ l n)).1).n), .string ((opE 14 (dJ (iJ l fs d) [2, 2] (bJ l n)).1).s), .string ((opE 14 (dJ (iJ l fs d) [2, 2] (bJ l n)).1).nm), .slice (sA u) (sN u) (sC u)]] _ [(g, [sl, Vi (((dJ (iJ l fs d) [2, 2] (bJ l n)).2 : Nat) : Int)])] hJ (.rcel hJ.j 1 .nil) (xJ (by kernel_rfl)) rfl ?_).1
            exact uK (uQ q3 (by unfold mW; rw [if_neg q6, q7, q4]; rfl)) rfl rfl (fu.sees hJ.j.out)
          · skip
            rw [q4] at pa3
            refine iY hJ (t := (cJ (aJ l n).a 6) == 0) (beq_eq_false_iff_ne.2 q6) ?_
            refine rk hJ true 66 [.b 0 2, .cl 24 #[Vi ((aJ l n).b), Vi 7] (Vi 6), .b 0 1, .cl 24 #[Vi ((aJ l n).a), Vi 3] (Vi 2), .fix] [] (.new fun bfk => .g (.ops [0, 1, 1, 1, 1, 1, 0, 1, 0, 1, 1, 1, 0, 1, 0, 1, 1, 1, 1, 1] 7) [.seq [1, 1, 1, 1, 1, 1, 0, 1, 0, 1, 1, 1, 0, 1, 0, 1, 1, 1, 1, 1], .block 2, .block 0, .seq [1, 1, 1, 1, 1, 1]] [8] [(72, .func (.func 86) #[] #[Vp bf4, Vp bf8, Vp bf12]), (75, Vi 14), (78, Vs bfk 2 2)] [.n (bfk, 0, [Vi 3, Vi 3]), .o 0, .o 1, .o 2]) (And.intro (fun H sH => pb7 _ rb0 rb1 (by omega) (by omega)) (And.intro (fun H sH => pa3 _ a0 a1 (by omega) (by omega)) (trivial))) trivial (fun bfk _ => by kernel_rfl) ?_
            clear hJ a w; intro bfk h106 a w s107 hJ
            have fk : Cells h106 bfk 0 [Vi 3, Vi 3] := hJ.f _ (List.mem_of_getElem? (i := 0) rfl)
            refine eY hJ 79 2 (many 14 [3, 3] _ _ _ _ _ _ _ (hr.sees (s3.trans (s5.trans (s107.trans hJ.j.sees)))) (by omega) (by simp) (by simp <;> omega) (fX [3, 3] (by unfold maxLen; simp) (fk.sees hJ.j.sees)) (hf.sees (hJ.j.lent hm)) (List.mem_append_right _ hg) (f4.sees (s5.trans (s107.trans hJ.j.sees))) (f8.sees (s5.trans (s107.trans hJ.j.sees))) (f12.sees (s5.trans (s107.trans hJ.j.sees)))) ?_; clear hJ a w; rintro _ _ h108 a w s109 ⟨u, rfl, rfl, fu⟩ hJ
            refine rx' hJ false 7 [.b 1 0] [] (.ok (.out .ret) [] [(8, Vp b1)] [.box b6 [Vi ((aJ l n).k), Vi ((aJ l n).a), Vi ((aJ l n).b), .string ((aJ l n).t)], .box b1 [Vi ((opE 14 (dJ (iJ l fs d) [3, 3] (bJ l n)).1).op), Vi ((opE 14 (dJ (iJ l fs d) [3, 3] (bJ l n)).1).k), Vi ((opE 14 (dJ (iJ l fs d) [3, 3] (bJ l n)).1).n), .string ((opE 14 (dJ (iJ l fs d) [3, 3] (bJ l n)).1).s), .string ((opE 14 (dJ (iJ l fs d) [3, 3] (bJ l n)).1).nm), .slice (sA u) (sN u) (sC u)], .box g [sl, Vi (((dJ (iJ l fs d) [3, 3] (bJ l n)).2 : Nat) : Int)]] [(bfk, 0, [Vi 3, Vi 3]), (bf12, 0, [Vi ((d + 1 : Nat) : Int)]), (bf8, 0, [.slice A nf cap]), (bf4, 0, [Vp g])]) (fun _ => by kernel_rfl) ?_
            clear hJ a w; intro a w hJ
            refine gY (hQ [.agg #[Vi ((opE 14 (dJ (iJ l fs d) [3, 3] (bJ l n)).1).op), Vi ((opE 14 (dJ (iJ l fs d) [3, 3] (bJ l n)).1).k), Vi ((opE 14 (dJ (iJ l fs d) [3, 3] (bJ l n)).1).n), .string ((opE 14 (dJ (iJ l fs d) [3, 3] (bJ l n)).1).s), .string ((opE 14 (dJ (iJ l fs d) [3, 3] (bJ l n)).1).nm), .slice (sA u) (sN u) (sC u)]] _ [(g, [sl, Vi (((dJ (iJ l fs d) [3, 3] (bJ l n)).2 : Nat) : Int)])] hJ (.rcel hJ.j 1 .nil) (xJ (by kernel_rfl)) rfl ?_).1
            exact uK (uQ q3 (by unfold mW; rw [if_neg q6, q7, q4]; rfl)) rfl rfl (fu.sees hJ.j.out)
    · skip
      by_cases q6 : cJ (aJ l n).a 6 = 0
      · refine qY hJ (t := (cJ (aJ l n).a 6) == 0) (beq_iff_eq.2 q6) ?_
        refine rk' hJ true 6 [.fix] [] (.new fun bfk => .g (.ops [0, 0, 1, 0, 1, 1, 1, 1] 4) [.seq [1, 0, 1, 0, 1, 1, 1, 1], .seq [1, 1, 1, 1, 1]] [8] [(33, .func (.func 86) #[] #[Vp bf4, Vp bf8, Vp bf12]), (36, Vs bfk 3 3)] [.n (bfk, 0, [Vi 2, Vi 3, Vi 3]), .o 0, .o 1, .o 2]) (hr := fun bfk _ => by kernel_rfl) ?_
        clear hJ a w; intro bfk h110 a w s111 hJ
        have fk : Cells h110 bfk 0 [Vi 2, Vi 3, Vi 3] := hJ.f _ (List.mem_of_getElem? (i := 0) rfl)
        refine eY hJ 37 2 (many 17 [2, 3, 3] _ _ _ _ _ _ _ (hr.sees (s3.trans (s5.trans (s111.trans hJ.j.sees)))) (by omega) (by simp) (by simp <;> omega) (fX [2, 3, 3] (by unfold maxLen; simp) (fk.sees hJ.j.sees)) (hf.sees (hJ.j.lent hm)) (List.mem_append_right _ hg) (f4.sees (s5.trans (s111.trans hJ.j.sees))) (f8.sees (s5.trans (s111.trans hJ.j.sees))) (f12.sees (s5.trans (s111.trans hJ.j.sees)))) ?_; clear hJ a w; rintro _ _ h112 a w s113 ⟨u, rfl, rfl, fu⟩ hJ
        refine rk' hJ false 5 [.b 1 0] [] (.f (.out .ret) [] [8] [] [.box b6 [Vi ((aJ l n).k), Vi ((aJ l n).a), Vi ((aJ l n).b), .string ((aJ l n).t)], .box b1 [Vi ((opE 17 (dJ (iJ l fs d) [2, 3, 3] (bJ l n)).1).op), Vi ((opE 17 (dJ (iJ l fs d) [2, 3, 3] (bJ l n)).1).k), Vi ((opE 17 (dJ (iJ l fs d) [2, 3, 3] (bJ l n)).1).n), .string ((opE 17 (dJ (iJ l fs d) [2, 3, 3] (bJ l n)).1).s), .string ((opE 17 (dJ (iJ l fs d) [2, 3, 3] (bJ l n)).1).nm), .slice (sA u) (sN u) (sC u)], .box g [sl, Vi (((dJ (iJ l fs d) [2, 3, 3] (bJ l n)).2 : Nat) : Int)]] [.o 0, .o 1, .o 2, .o 3]) ?_
        clear hJ a w; intro a w hJ
        refine gY (hQ [.agg #[Vi ((opE 17 (dJ (iJ l fs d) [2, 3, 3] (bJ l n)).1).op), Vi ((opE 17 (dJ (iJ l fs d) [2, 3, 3] (bJ l n)).1).k), Vi ((opE 17 (dJ (iJ l fs d) [2, 3, 3] (bJ l n)).1).n), .string ((opE 17 (dJ (iJ l fs d) [2, 3, 3] (bJ l n)).1).s), .string ((opE 17 (dJ (iJ l fs d) [2, 3, 3] (bJ l n)).1).nm), .slice (sA u) (sN u) (sC u)]] _ [(g, [sl, Vi (((dJ (iJ l fs d) [2, 3, 3] (bJ l n)).2 : Nat) : Int)])] hJ (.rcel hJ.j 1 .nil) (xJ (by kernel_rfl)) rfl ?_).1
        exact uK (uQ q3 (by unfold mW; rw [if_pos q6])) rfl rfl (fu.sees hJ.j.out)
      · skip
        refine iY hJ (t := (cJ (aJ l n).a 6) == 0) (beq_eq_false_iff_ne.2 q6) ?_
        refine rk' hJ true 30 [.fix] [] (.new fun bfk => .g (.ops [0, 1, 1, 1, 1, 1, 1] 2) [.seq [1, 1, 1, 1, 1, 1, 1]] [8] [(95, .func (.func 86) #[] #[Vp bf4, Vp bf8, Vp bf12]), (96, Vs bfk 2 2)] [.n (bfk, 0, [Vi 3, Vi 3]), .o 0, .o 1, .o 2]) (hr := fun bfk _ => by kernel_rfl) ?_
        clear hJ a w; intro bfk h114 a w s115 hJ
        have fk : Cells h114 bfk 0 [Vi 3, Vi 3] := hJ.f _ (List.mem_of_getElem? (i := 0) rfl)
        refine eY hJ 97 2 (many 10 [3, 3] _ _ _ _ _ _ _ (hr.sees (s3.trans (s5.trans (s115.trans hJ.j.sees)))) (by omega) (by simp) (by simp <;> omega) (fX [3, 3] (by unfold maxLen; simp) (fk.sees hJ.j.sees)) (hf.sees (hJ.j.lent hm)) (List.mem_append_right _ hg) (f4.sees (s5.trans (s115.trans hJ.j.sees))) (f8.sees (s5.trans (s115.trans hJ.j.sees))) (f12.sees (s5.trans (s115.trans hJ.j.sees)))) ?_; clear hJ a w; rintro _ _ h116 a w s117 ⟨u, rfl, rfl, fu⟩ hJ
        refine rk' hJ false 4 [.b 1 0] [] (.f (.out .ret) [] [8] [] [.box b6 [Vi ((aJ l n).k), Vi ((aJ l n).a), Vi ((aJ l n).b), .string ((aJ l n).t)], .box b1 [Vi ((opE 10 (dJ (iJ l fs d) [3, 3] (bJ l n)).1).op), Vi ((opE 10 (dJ (iJ l fs d) [3, 3] (bJ l n)).1).k), Vi ((opE 10 (dJ (iJ l fs d) [3, 3] (bJ l n)).1).n), .string ((opE 10 (dJ (iJ l fs d) [3, 3] (bJ l n)).1).s), .string ((opE 10 (dJ (iJ l fs d) [3, 3] (bJ l n)).1).nm), .slice (sA u) (sN u) (sC u)], .box g [sl, Vi (((dJ (iJ l fs d) [3, 3] (bJ l n)).2 : Nat) : Int)]] [.o 0, .o 1, .o 2, .o 3]) ?_
        clear hJ a w; intro a w hJ
        refine gY (hQ [.agg #[Vi ((opE 10 (dJ (iJ l fs d) [3, 3] (bJ l n)).1).op), Vi ((opE 10 (dJ (iJ l fs d) [3, 3] (bJ l n)).1).k), Vi ((opE 10 (dJ (iJ l fs d) [3, 3] (bJ l n)).1).n), .string ((opE 10 (dJ (iJ l fs d) [3, 3] (bJ l n)).1).s), .string ((opE 10 (dJ (iJ l fs d) [3, 3] (bJ l n)).1).nm), .slice (sA u) (sN u) (sC u)]] _ [(g, [sl, Vi (((dJ (iJ l fs d) [3, 3] (bJ l n)).2 : Nat) : Int)])] hJ (.rcel hJ.j 1 .nil) (xJ (by kernel_rfl)) rfl ?_).1
        exact uK (uQ q3 (by unfold mW; rw [if_neg q6]; rfl)) rfl rfl (fu.sees hJ.j.out)
theorem exprC_all (l:List RawD) (fs:List Fd) (hlen:l.length * 40≤reachBytes) (hok:∀ r∈l,r.ok) (hfs:fs.length≤100):∀ d,d < 1000→ExprC l fs d
 | 0,_=>expr_zero l fs hlen hok hfs
 | d + 1,hd=>expr_succ l fs hlen hok hfs d (by omega) (exprC_all l fs hlen hok hfs d (by omega))
end Go.Proofs.YthckljafinhepaaGreat
namespace Go.Proofs.YthckljafinhepaaGreat
open Go.RowKit
def cntE:Nat→Nat
 | 0=>1
 | d + 1=>1 + 3 * cntE d
theorem cntE_pos (d:Nat):1≤cntE d:=by cases d <;> simp [cntE]
theorem wf_leaf {x:Ex} (h:TopOk x) (ha:x.args=[]):WfE x∧szE x=(1,1):=by
 refine ⟨WfE.mk' h (by rw [ha]; exact WfL.all (fun x hx=>by cases hx)),?_⟩
 rw [szE_eq,ha]; rfl
theorem constE_ok (kind:Int) (r:RawD) (h1:1≤kind) (h3:kind≤3):TopOk (iK kind r):=by
 left
 have hk:=val_known kind r.k r.a r.t h1 h3
 refine ⟨rfl,?_,fun hk1=>?_,rfl,rfl⟩
 ·show rJ kind (if kind=1 then absI (wX kind r.k r.a) else wX kind r.k r.a) (valS kind r.t)
  by_cases g:kind=1
  ·rw [if_pos g]
   subst g
   unfold rJ at hk ⊢
   have hl:=val_lim 1 r (by omega) (by omega)
   simp only [absI]
   rcases hk with hk | hk | hk
   ·have hs:=hk.2.2
    refine .inl ⟨by first | rfl | trivial,?_,hs⟩
    unfold Lim
    split <;> omega
   ·omega
   ·omega
  ·rw [if_neg g]; exact hk
 ·have g:kind=1:=hk1
  show 0≤(if kind=1 then absI (wX kind r.k r.a) else wX kind r.k r.a)
  rw [if_pos g]; unfold absI; split <;> omega
theorem refE_ok {s:ByteArray} (h:sJ s.data.toList):TopOk (refE s):=.inr (.inl ⟨rfl,h,rfl,rfl,rfl,rfl⟩)
theorem leafE_ok (r:RawD) (fs:List Fd) (kind:Int) (h1:1≤kind) (h3:kind≤3) (hn:∀ f∈fs,sJ f.name.data.toList):TopOk (fV r fs kind):=by
 unfold fV
 split
 ·rename_i s hs
  split
  ·exact constE_ok kind r h1 h3
  ·have:=List.mem_of_getElem? hs
   obtain ⟨f,hf,rfl⟩:=List.mem_map.1 this
   exact refE_ok (hn f (List.mem_filter.1 hf).1)
 ·exact constE_ok kind r h1 h3
theorem pickE_ok (r:RawD) (kind:Int) (h1:1≤kind) (h3:kind≤3):3≤(mW r kind).1∧(mW r kind).1≤18∧(mW r kind).2.length=arity (mW r kind).1∧∀ k∈(mW r kind).2,1≤k∧k≤3:=by
 have a0:=oW r.a 6 (by omega)
 have b0:=oW r.b 7 (by omega)
 have b1:=nW r.b 7 (by omega)
 have c0:=oW r.a 3 (by omega)
 have c1:=nW r.a 3 (by omega)
 have hm:∀ n:Int,0≤n→n < 7→n≠0→n≠1→5≤intOps n∧intOps n≤9:=fun n _ _ _ _=>by
  unfold intOps; repeat' split
  all_goals omega
 have har:∀ op:Int,5≤op→op≤16→arity op=2:=fun op _ _=>by
  unfold arity
  rw [if_neg (by omega),if_neg (by omega),if_neg (by omega)]
 unfold mW
 split
 ·refine ⟨by omega,by omega,rfl,fun k hk=>?_⟩
  simp at hk; omega
 ·split
  ·split
   ·exact ⟨by simp,by simp,rfl,fun k hk=>by simp at hk; omega⟩
   ·split
    ·exact ⟨by simp,by simp,rfl,fun k hk=>by simp at hk; omega⟩
    ·have:=hm (cJ r.b 7) b0 b1 (by assumption) (by assumption)
     refine ⟨by simp only; omega,by simp only; omega,?_,fun k hk=>by simp at hk; omega⟩
     rw [har _ (by simp only; omega) (by simp only; omega)]; rfl
  ·split
   ·split
    ·exact ⟨by simp,by simp,rfl,fun k hk=>by simp at hk; omega⟩
    ·split
     ·refine ⟨by simp only; omega,by simp only; omega,?_,fun k hk=>by simp at hk; omega⟩
      rw [har _ (by simp only; omega) (by simp only; omega)]; rfl
     ·refine ⟨by simp only; omega,by simp only; omega,?_,fun k hk=>by simp at hk; omega⟩
      rw [har _ (by simp only; omega) (by simp only; omega)]; rfl
   ·exact ⟨by simp,by simp,rfl,fun k hk=>by simp at hk; omega⟩
theorem szL_le {m d:Nat}:∀ {l:List Ex},(∀ x∈l,(szE x).1≤m∧(szE x).2≤d)→(szL l).1≤l.length * m∧(szL l).2≤d
 | [],_=>by simp [szL]
 | x :: l,h=>by
  have h1:=h x (by simp)
  have h2:=szL_le (l:=l) (fun y hy=>h y (by simp [hy]))
  rw [szL,List.length_cons,Nat.succ_mul]
  exact ⟨by simp only; omega,by simp only; exact Nat.max_le.2 ⟨h1.2,h2.2⟩⟩
theorem manyE_all {one:Int→Nat→Ex × Nat} {p:Ex→Prop}:∀ (ks:List Int) (n:Nat),(∀ k∈ks,∀ n,p (one k n).1)→(dJ one ks n).1.length=ks.length∧∀ x∈(dJ one ks n).1,p x
 | [],n,_=>⟨rfl,fun x hx=>by cases hx⟩
 | k :: ks,n,h=>by
  have:=manyE_all ks (one k n).2 (fun k' hk=>h k' (by simp [hk]))
  refine ⟨by show ((dJ one ks (one k n).2).1.length + 1)=_; rw [this.1]; rfl,fun x hx=>?_⟩
  rcases List.mem_cons.1 hx with rfl | hx
  ·exact h k (by simp) n
  ·exact this.2 x hx
theorem genE_ok (l:List RawD) (fs:List Fd) (hn:∀ f∈fs,sJ f.name.data.toList):∀ (d:Nat) (kind:Int) (n:Nat),1≤kind→kind≤3→WfE (iJ l fs d kind n).1∧(szE (iJ l fs d kind n).1).1≤cntE d∧(szE (iJ l fs d kind n).1).2≤d + 1
 | 0,kind,n,h1,h3=>by
  have:=wf_leaf (leafE_ok (aJ l (bJ l n)) fs kind h1 h3 hn) (leaf_args _ _ _)
  show WfE (fV _ _ _)∧(szE (fV _ _ _)).1≤1∧(szE (fV _ _ _)).2≤1
  rw [this.2]; exact ⟨this.1,Nat.le_refl _,Nat.le_refl _⟩
 | d + 1,kind,n,h1,h3=>by
  have hc:=cntE_pos d
  by_cases g:cJ (aJ l n).k 3=0
  ·rw [genE_leaf g]
   have:=wf_leaf (leafE_ok (aJ l (bJ l n)) fs kind h1 h3 hn) (leaf_args _ _ _)
   simp only [cntE]
   rw [this.2]; exact ⟨this.1,by simp only; omega,by simp only; omega⟩
  ·obtain ⟨p1,p2,p3,p4⟩:=pickE_ok (aJ l n) kind h1 h3
   have hl:=pickE_len (aJ l n) kind
   obtain ⟨op,ks,hp⟩:∃ op ks,mW (aJ l n) kind=(op,ks):=⟨(mW (aJ l n) kind).1,(mW (aJ l n) kind).2,by cases mW (aJ l n) kind; rfl⟩
   rw [uQ g hp]
   rw [hp] at p1 p2 p3 p4 hl
   simp only at p1 p2 p3 p4 hl
   obtain ⟨m1,m2⟩:=manyE_all (one:=iJ l fs d) (p:=fun x=>WfE x∧(szE x).1≤cntE d∧(szE x).2≤d + 1) ks (bJ l n) (fun k hk n=>genE_ok l fs hn d k n (p4 k hk).1 (p4 k hk).2)
   have hs:=szL_le (m:=cntE d) (d:=d + 1) (fun x hx=>(m2 x hx).2)
   rw [m1] at hs
   have hmul:=Nat.mul_le_mul_right (cntE d) hl
   generalize dJ (iJ l fs d) ks (bJ l n)=q at *
   have e:szE (opE op q.1)=(1 + (szL q.1).1,1 + (szL q.1).2):=szE_eq _
   show WfE (opE op q.1)∧(szE (opE op q.1)).1≤cntE (d + 1)∧(szE (opE op q.1)).2≤d + 1 + 1
   rw [e]
   refine ⟨WfE.mk' (.inr (.inr ⟨p1,p2,rfl,rfl,rfl,rfl,m1.trans p3⟩)) (WfL.all (fun x hx=>(m2 x hx).1)),?_,?_⟩
   ·simp only [cntE]; omega
   ·simp only; omega
end Go.Proofs.YthckljafinhepaaGreat
namespace Go.Proofs.YthckljafinhepaaGreat
open Go.RowKit
theorem C0.of_draws {k:FuncId} {args:Array Value} {v:Value} (hc:∀ w,Calls Tryz.prog k args w (Draws v w)) (h:Vw):C0 Tryz.prog k args h (fun v' _=>v'=v):=by
 intro _ _ _ _
 refine (hc h.w).mono ?_
 rintro e w' ⟨rfl,n,rfl⟩
 exact ⟨v,[],rfl,⟨rfl,rfl,rfl,Nat.le_refl _,fun _ _ _=>rfl⟩,(fun x hx=>by cases hx),rfl,rfl⟩
def numF (op:Int):Nat:=if op=5 then 136 else if op=6 then 137 else if op=7 then 138 else if op=8 then 139 else 140
theorem num_any (op a b:Int) (h:Vw) (ha:Lim a) (hb:Lim b):C0 Tryz.prog (numF op) #[.int .i64 a,.int .i64 b] h (fun v _=>v=.tuple #[.int .i64 (rV op a b).1,.int .i64 (rV op a b).2]):=by
 unfold numF rV
 by_cases h5:op=5
 ·rw [if_pos h5,if_pos h5]
  by_cases hl : -1099511627776≤a * b∧a * b≤1099511627776
  ·rw [if_pos hl]; exact C0.of_same (fun w=>mul_ok a b _ w ha hb hl rfl) h
  ·rw [if_neg hl]; exact C0.of_same (fun w=>mul_over a b w ha hb hl) h
 ·rw [if_neg h5,if_neg h5]
  by_cases h6:op=6
  ·rw [if_pos h6,if_pos h6]
   by_cases hz:b=0
   ·subst hz; rw [if_pos rfl]; exact C0.of_same (fun w=>div_zero a w ha) h
   ·rw [if_neg hz]; exact C0.of_draws (fun w=>div_ok a b w ha hb hz) h
  ·rw [if_neg h6,if_neg h6]
   by_cases h7:op=7
   ·rw [if_pos h7,if_pos h7]
    by_cases hz:b=0
    ·subst hz; rw [if_pos rfl]; exact C0.of_same (fun w=>mod_zero a w ha) h
    ·rw [if_neg hz]; exact C0.of_draws (fun w=>mod_ok a b w ha hb hz) h
   ·rw [if_neg h7,if_neg h7]
    by_cases h8:op=8
    ·rw [if_pos h8,if_pos h8]
     by_cases hl : -1099511627776≤a + b∧a + b≤1099511627776
     ·rw [if_pos hl]; exact C0.of_same (fun w=>add_ok a b w ha hb hl) h
     ·rw [if_neg hl]; exact C0.of_same (fun w=>add_over a b w ha hb (by omega)) h
    ·rw [if_neg h8,if_neg h8]
     by_cases hl : -1099511627776≤a - b∧a - b≤1099511627776
     ·rw [if_pos hl]; exact C0.of_same (fun w=>sub_ok a b w ha hb hl) h
     ·rw [if_neg hl]; exact C0.of_same (fun w=>sub_over a b w ha hb (by omega)) h
theorem yK (e:Int) (h:Vw):C0 Tryz.prog 109 #[.int .i64 e] h (fun v _=>v=(xK e).val):=by
 refine fY Tryz.func109 (c:=Tryz.f109.body.getD .skip) (N:=5) ?_
 intro hbx hbad Q hQ a w hJ
 refine rx' hJ false 13 [.own,.b 0 0] [] (.new fun b1=>.ok (.out .ret) [] [(2,Vp b1)] [.box b1 [Vi 5,Vi e,Ve]] []) (fun b1 _=>by kernel_rfl) ?_
 clear hJ a w; intro b1 a w hJ
 refine gY (hQ [.agg #[Vi 5,Vi e,Ve]] _ [] hJ (.rcel hJ.j 0 .nil) (fJ _) rfl ?_).1
 exact rfl
theorem vX (b:Bool) (h:Vw):C0 Tryz.prog 134 #[.bool b] h (fun v _=>v=(truthV b).val):=by
 cases b
 ·refine fY Tryz.func134 (c:=Tryz.f134.body.getD .skip) (N:=6) ?_
  intro hbx hbad Q hQ a w hJ
  refine rx' hJ false 21 [.own,.b 0 0] [] (.new fun b1=>.ok (.out .ret) [] [(2,Vp b1)] [.box b1 [Vi 2,Vi 0,Ve]] []) (fun b1 _=>by kernel_rfl) ?_
  clear hJ a w; intro b1 a w hJ
  refine gY (hQ [.agg #[Vi 2,Vi 0,Ve]] _ [] hJ (.rcel hJ.j 0 .nil) (fJ _) rfl ?_).1
  exact rfl
 ·refine fY Tryz.func134 (c:=Tryz.f134.body.getD .skip) (N:=6) ?_
  intro hbx hbad Q hQ a w hJ
  refine rx' hJ false 20 [.own,.b 0 0] [] (.new fun b1=>.ok (.out .ret) [] [(2,Vp b1)] [.box b1 [Vi 2,Vi 1,Ve]] []) (fun b1 _=>by kernel_rfl) ?_
  clear hJ a w; intro b1 a w hJ
  refine gY (hQ [.agg #[Vi 2,Vi 1,Ve]] _ [] hJ (.rcel hJ.j 0 .nil) (fJ _) rfl ?_).1
  exact rfl
abbrev vrows (l:List Vl):List (List Value):=l.map Vl.cells
theorem cV (l:List Vl) (sl:Value) (kind:Int) (h:Vw) (hr:RS h 3 sl (vrows l)) (hl:l.length≤1000):C0 Tryz.prog 135 #[sl,.int .i64 kind] h (fun v _=>v=.bool (aV l kind)):=by
 obtain ⟨A,cap,rfl,-,-,-⟩:=hr.form
 rw [List.length_map] at *
 generalize hL:l.length=len at *
 refine fY Tryz.func135 (c:=Tryz.f135.body.getD .skip) (N:=18) ?_
 intro hbx hbad Q hQ a w hJ
 refine rk' hJ false 14 [] [] (.k (.code [0,1,0,1]) [.block 0,.seq [1,1]] [1] [(7,.slice A len cap),(8,Vi (len:Int)),(9,Vi 0)]) ?_
 clear hJ a w; intro a w hJ
 refine kY (fun (k:Nat) a w=>∃ (h1:Vw) ,K ⟨18,h.w,h.bad,[]⟩ [(1,Vi kind),(7,.slice A len cap),(8,Vi (len:Int)),(9,Vi (k:Int))] [] [] h1 a w∧Sees h h1∧(k≤len)∧(∀ v∈l.take k,v.k=kind)) (fun k=>len - k) (0) ⟨h,hJ.tw,Sees.refl _,Nat.zero_le _,by simp⟩ ?_
 clear hJ a w; rintro k a w ⟨h1,hJ,s2,hk,ha⟩
 refine rk' hJ false 6 [] [] (.k (.code [0,1,0,0,1,0,1]) [.seq [1,1,0,0,1,0,1]] [1,7,8,9] [(10,.bool (decide ((k:Int) < (len:Int))))]) ?_
 clear hJ a w; intro a w hJ
 rcases (by omega:k < len∨len=k) with hlt | hke
 ·obtain ⟨y,hy⟩:∃ y,l[k]?=some y:=⟨_,List.getElem?_eq_getElem (by omega)⟩
  have hrow:(vrows l)[k]?=some y.cells:=by rw [List.getElem?_map,hy]; rfl
  refine qY hJ (t:=decide ((k:Int) < (len:Int))) (decide_eq_true (by omega)) ?_
  refine rk' hJ false 6 [] [] (.k (.ops [0,0,0,1,1,0,0,1,0,1] 0) [.seq [1,0,0,1,1,0,0,1,0,1],.block 1,.seq [1,1,1,0,0,1,0,1]] [1,7,8,9] []) ?_
  clear hJ a w; intro a w hJ
  obtain ⟨b3,o4,rfl,-,c5⟩:=RS.row hr (hrow)
  replace hJ:=hJ.fact (c5.sees s2)
  refine rk hJ false 14 [.ix b3 o4 len cap k,.f 0 0,.own,.b 0 0,.b 0 0] [] (.new fun b6=>.f (.code [1,1,0,0,1,1,0,0,1,0,1]) [.block 1,.seq [1,1,1,0,0,1,0,1]] [1,7,8,9] [(16,.bool (y.k != kind))] [.box b6 [Vi y.k,Vi y.n,.string y.s]] [.o 0]) (And.intro (by first | omega | (simp; omega)) (trivial)) trivial (fun b6 _=>by kernel_rfl) ?_
  clear hJ a w; intro b6 a w hJ
  by_cases hyk:y.k=kind
  ·skip
   refine iY hJ (t:=y.k != kind) (bne_eq_false_iff_eq.2 hyk) ?_
   refine rk' hJ false 7 [] [(17,Vi (IntKind.i64.wrap ((k:Int) + 1)),Vi ((k:Int) + 1))] (.k (.out .normal) [] [1,7,8] [(9,Vi ((k:Int) + 1))]) (hc:=And.intro (kJ (by omega) (by omega)) (trivial)) ?_
   clear hJ a w; intro a w hJ
   replace hJ:=hJ.drop 0
   exact pY ⟨k + 1,⟨h1,(hJ.tof [] (F':=[]) (by kernel_rfl)).to (by kernel_rfl) (by kernel_rfl) rfl,s2,by omega,by rw [tX l k y hy]; intro v hv; rcases List.mem_append.1 hv with g | g; exact ha v g; rw [List.mem_singleton.1 g]; exact hyk⟩,by omega⟩
  ·skip
   refine qY hJ (t:=y.k != kind) (bne_iff_ne.2 hyk) ?_
   refine rk' hJ false 8 [] [] (.k (.out .ret) [] [] [(4,.bool false)]) ?_
   clear hJ a w; intro a w hJ
   refine jY rfl ?_
   refine rk' hJ false 2 [] [] (.k (.out .ret) [] [4] []) ?_
   clear hJ a w; intro a w hJ
   refine gY (hQ [.bool false] _ [] hJ (.rtm hJ.j .nil) (fJ _) rfl ?_).1
   show Value.bool false=_
   have:aV l kind=false:=by
    unfold aV
    rw [List.all_eq_false]
    exact ⟨y,List.mem_of_getElem? hy,by simpa using hyk⟩
   rw [this]
 ·skip
  have hta:l.take k=l:=by rw [← hke,← hL,List.take_length]
  rw [hta] at ha
  refine iY hJ (t:=decide ((k:Int) < (len:Int))) (decide_eq_false (by omega)) ?_
  refine rx' hJ false 2 [] [] (.ok (.out (.exit 0)) [] [] [] []) (fun _=>by kernel_rfl) ?_
  clear hJ a w; intro a w hJ
  refine jY rfl ?_
  refine rx' hJ false 8 [] [] (.ok (.out .ret) [] [(4,.bool true)] [] []) (fun _=>by kernel_rfl) ?_
  clear hJ a w; intro a w hJ
  refine gY (hQ [.bool true] _ [] hJ (.rtm hJ.j .nil) (fJ _) rfl ?_).1
  show Value.bool true=_
  have:aV l kind=true:=by
   unfold aV
   rw [List.all_eq_true]
   intro v hv; simpa using ha v hv
  rw [this]
theorem compare_other (v w':Vl) (h:Vw) (hv:v.known) (hw:w'.known) (hne:v.k≠w'.k):C0 Tryz.prog 133 #[v.val,w'.val] h (fun r _=>r=.tuple #[.int .i64 0,.int .i64 9]):=by
 have h1:=c_known v.k v.n v.s
 have h2:=c_known w'.k w'.n w'.s
 refine fY Tryz.func133 (c:=Tryz.f133.body.getD .skip) (N:=33) ?_
 intro hbx hbad Q hQ a w hJ
 refine rx hJ false 37 [.own,.own,.b 1 0,.cl 42 #[.agg #[Vi v.k,Vi v.n,.string v.s]] (.bool true),.b 0 0,.cl 42 #[.agg #[Vi w'.k,Vi w'.n,.string w'.s]] (.bool true),.b 1 0,.b 0 0] [(19,.bool (v.k != w'.k),.bool true)] (.new fun b1=>.new fun b2=>.ok (.out .ret) [] [(4,Vi 0),(5,Vi 9)] [.box b2 [Vi w'.k,Vi w'.n,.string w'.s],.box b1 [Vi v.k,Vi v.n,.string v.s]] []) (And.intro (fun H sH=>h1 _ hv) (And.intro (fun H sH=>h2 _ hw) (trivial))) (And.intro (congrArg Value.bool (bne_iff_ne.2 hne)) (trivial)) (fun b1 b2 _=>by kernel_rfl) ?_
 clear hJ a w; intro b1 b2 a w hJ
 refine gY (hQ [Vi 0,Vi 9] _ [] hJ (.rtm hJ.j (.rtm hJ.j .nil)) (fJ _) rfl ?_).1
 exact rfl
theorem compare_any (v w':Vl) (h:Vw) (hv:v.known) (hw:w'.known):C0 Tryz.prog 133 #[v.val,w'.val] h (fun r _=>r=if v.k=w'.k then .tuple #[.int .i64 (cmpV v.n w'.n v.s.toList w'.s.toList),.int .i64 0] else .tuple #[.int .i64 0,.int .i64 9]):=by
 by_cases he:v.k=w'.k
 ·obtain ⟨k,n,s⟩:=v
  obtain ⟨k',n',s'⟩:=w'
  simp only at he
  subst he
  rw [if_pos rfl]
  exact C0.of_gives (fun w=>compare_known k n n' s s' w hv hw) h
 ·rw [if_neg he]; exact compare_other v w' h hv hw he
end Go.Proofs.YthckljafinhepaaGreat
namespace Go.Proofs.YthckljafinhepaaGreat
open Go.RowKit
theorem ex_ind {p:Ex→Prop} (h:∀ x:Ex,(∀ y∈x.args,p y)→p x) (x:Ex):p x:=by
 have key:∀ (m:Nat) (x:Ex),(szE x).1≤m→p x:=by
  intro m
  induction m with
  | zero=>intro x hx; have:=szE_pos x; omega
  | succ m ih =>
   intro x hx
   refine h x fun y hy=>ih y ?_
   have h1:=szE_eq x
   have h2:=(szL_mem hy).1
   rw [h1] at hx
   simp only at hx
   omega
 exact key _ x (Nat.le_refl _)
mutual
def vW:Ex→List ByteArray
 | .mk op _ _ _ nm args=>(if op=2 then [nm] else [])++xW args
def xW:List Ex→List ByteArray
 | []=>[]
 | x :: l=>vW x++xW l
end
theorem wW (x:Ex):vW x=(if x.op=2 then [x.nm] else [])++xW x.args:=by
 obtain ⟨a,b,c,d,e,l⟩:=x
 rw [vW]; rfl
theorem refsL_app (l m:List Ex):xW (l++m)=xW l++xW m:=by
 induction l with
 | nil=>simp [xW]
 | cons x l ih=>rw [List.cons_append,xW,xW,ih,List.append_assoc]
theorem mem_refsL {s:ByteArray}:∀ {l:List Ex},s∈xW l↔∃ x∈l,s∈vW x
 | []=>by simp [xW]
 | x :: l=>by rw [xW,List.mem_append,mem_refsL (l:=l)]; simp
theorem refs_op (op:Int) (l:List Ex) (h:op≠2):vW (opE op l)=xW l:=by
 rw [wW,if_neg (show ¬ (opE op l).op=2 from h)]; rfl
theorem refs_ref (s:ByteArray):vW (refE s)=[s]:=by
 rw [wW,if_pos (show (refE s).op=2 from rfl)]; rfl
mutual
def putE (n:ByteArray) (y:Ex):Ex→Ex
 | .mk op k m s nm args=>if op=2∧nm=n then y else .mk op k m s nm (putL n y args)
def putL (n:ByteArray) (y:Ex):List Ex→List Ex
 | []=>[]
 | x :: l=>putE n y x :: putL n y l
end
theorem ref_shape {x:Ex} (h:WfE x) (h2:x.op=2):x=refE x.nm∧sJ x.nm.data.toList:=by
 rcases h.top with ⟨h1,-⟩ | ⟨h1,hn,hk,hm,hs,ha⟩ | ⟨h1,-⟩
 ·omega
 ·obtain ⟨a,b,c,d,e,l⟩:=x
  simp only [Ex.op,Ex.k,Ex.n,Ex.s,Ex.args] at h1 hk hm hs ha
  have ha:l=[]:=List.length_eq_zero_iff.1 ha
  subst h1 hk hm hs ha
  exact ⟨rfl,hn⟩
 ·omega
theorem ref_args {x:Ex} (h:WfE x) (h2:x.op=2):x.args=[]:=by rw [(ref_shape h h2).1]; rfl
end Go.Proofs.YthckljafinhepaaGreat
namespace Go.Proofs.YthckljafinhepaaGreat
open Go.RowKit Go.Shelf
attribute [local go_sem] Oper.semAt_some
structure KeepsCells (W W':World):Prop where
 size:W.heap.size≤W'.heap.size
 same:∀ (k:Nat) (o:Obj),W.heap[k]?=some o→o.isCells=true→W'.heap[k]?=some o
theorem KeepsCells.refl (W:World):KeepsCells W W:=⟨Nat.le_refl _,fun _ _ h _=>h⟩
theorem KeepsCells.trans {A B C:World} (h:KeepsCells A B) (k:KeepsCells B C):KeepsCells A C:=⟨Nat.le_trans h.size k.size,fun i o hi ho=>k.same i o (h.same i o hi ho) ho⟩
theorem KeepsCells.grown {W W':World} {row:Option Nat} (hg:W.grownBy W' row) (hr:∀ r,row=some r→∃ o:Obj,W.heap[r]?=some o∧o.isCells=false):KeepsCells W W' :=
 ⟨hg.size,fun k o hk ho=>(hg.block k (Array.getElem?_eq_some_iff.1 hk).1 (fun e=>by
  obtain ⟨o',h1,h2⟩:=hr k e.symm
  rw [hk] at h1
  simp only [Option.some.injEq] at h1
  subst h1
  rw [ho] at h2; cases h2)).trans hk⟩
theorem KeepsCells.alloc (W:World) (o:Obj):KeepsCells W (W.alloc o):=.grown (World.grownBy_alloc W o none) (fun r e=>by cases e)
theorem KeepsCells.boxed {W W':World} (h:KeepsCells W W') {b:Nat} {t:TypeId} {v:Value} (hb:Boxed W b t v):Boxed W' b t v:=h.same b _ hb rfl
theorem KeepsCells.cell {W W':World} (h:KeepsCells W W') {a:Addr} {v:Value} (hc:W.cell? a=some v):W'.cell? a=some v:=by
 unfold World.cell? at hc ⊢
 cases ho:W.heap[a.block]? with
 | none=>rw [ho] at hc; cases hc
 | some o =>
  rw [ho] at hc
  cases o with
  | cells cs t f=>rw [h.same _ _ ho rfl]; exact hc
  | _=>cases hc
structure Kp (n:Nat) (W W':World):Prop where
 below:Below n W W'
 cells:KeepsCells W W'
theorem Kp.refl (n:Nat) (W:World):Kp n W W:=⟨Below.refl _ _,KeepsCells.refl _⟩
theorem Kp.trans {n:Nat} {A B C:World} (h:Kp n A B) (k:Kp n B C):Kp n A C:=⟨h.below.trans k.below,h.cells.trans k.cells⟩
theorem Kp.alloc {n:Nat} {W:World} (hn:n≤W.heap.size) (o:Obj):Kp n W (W.alloc o):=⟨(Below.refl _ _).alloc hn _,KeepsCells.alloc _ _⟩
theorem kp_t {n:Nat} {A B C:World} (h:Kp n A B) (k:Kp n B C):Kp n A C:=h.trans k
theorem kp_b {n:Nat} {w:World} (hn:n≤w.heap.size) (W:World) (l:Nat) (o o':Obj) (hl:w.heap.size≤l) (h:W.heap[l]?=some o) (hc:o.isCells=false) (hw:o.isWalk=false):Kp n W (W.putObj l o') :=
 ⟨belowK_b hn W l o o' hl h hc hw,.grown (grownBy_putObj' W l o') (fun r e=>by cases e; exact ⟨o,h,hc⟩)⟩
theorem sees_below {h:Vw} {W:World} (hb:Below h.w.heap.size h.w W):Sees h ⟨W,h.bad⟩:=⟨hb.size,fun b hlt _=>hb.block b hlt,fun _ hb _=>hb⟩
theorem grown_none {W W':World} (hb:Below W.heap.size W W'):W.grownBy W' none:=⟨hb.os,hb.tape,hb.output,hb.size,fun k hk _=>hb.block k hk⟩
theorem room_of_none {F:Fence} (hd:F.depth=none) (k:Nat):F.room k:=fun d h=>by rw [hd] at h; cases h
theorem RoundIn.anyDepth {F:Fence} (hd:F.depth=none) {m m':Nat} {P:Program} {l:Nat} {f:FuncId} {tmps:Array Value} {assign body:Code} {w:World} {R:Ending→World→Prop}
  (h:RoundIn F m P l f tmps assign body w R):RoundIn F m' P l f tmps assign body w R:=⟨h.1,fun c cs _=>h.2 c cs (room_of_none hd _)⟩
theorem YieldAt.anyDepth {F:Fence} (hd:F.depth=none) {m:Nat} (m':Nat) {P:Program} {l:Nat} {args:Array Value} {W:World} {R:Ending→World→Prop} (h:YieldAt F m P l args W R):YieldAt F m' P l args W R:=by
 obtain ⟨fn,tmps,assign,body,hy,hR⟩:=h
 exact ⟨fn,tmps,assign,body,hy,RoundIn.anyDepth hd hR⟩
theorem yX (k:Nat):Fence.wide.depth.isSome=true→1≤k:=fun h=>by
 have e:Fence.wide.depth=none:=rfl
 rw [e] at h; cases h
def WalkPost (n₀:Nat) (J Jx:List ByteArray→World→Prop) (pre r:List ByteArray) (W:World) (e:Ending) (W':World):Prop :=
 (e=.returned (.bool true)∧J (pre++r) W'∧Kp n₀ W W')∨(e=.returned (.bool false)∧∃ q,q <+: r∧Jx (pre++q) W')
def YieldPost (n₀:Nat) (J Jx:List ByteArray→World→Prop) (pre:List ByteArray) (s:ByteArray) (W:World) (e:Ending) (W':World):Prop :=
 (e=.returned (.bool true)∧J (pre++[s]) W'∧Kp n₀ W W')∨(e=.returned (.bool false)∧Jx (pre++[s]) W')
abbrev walkV (bY bW:Nat):Value:=.func (.func 125) #[] #[.pointer (some ⟨bY,0,none⟩),.pointer (some ⟨bW,0,none⟩)]
set_option maxHeartbeats 2000000 in
theorem walk_ref (l bY bW N B:Nat) (n₀:Nat) (J Jx:List ByteArray→World→Prop) (hJ:AbidesFrom B J)
  (hY:∀ m pre s W,J pre W→pre.length < N→YieldAt Fence.wide m Tryz.prog l #[.string s] W (YieldPost n₀ J Jx pre s W))
  (s:ByteArray) (A:Option Addr) (c n:Nat) (pre:List ByteArray) (W:World) (hn:n₀≤W.heap.size) (bY':Boxed W bY 123 (.func (.yield l) #[] #[])) (hj:J pre W) (hN:pre.length < N) :
  CallsIn Fence.wide n Tryz.prog 125 #[.agg #[.int .i64 2,.int .i64 0,.int .i64 0,.string ⟨#[]⟩,.string s,.slice A 0 c],.pointer (some ⟨bY,0,none⟩),.pointer (some ⟨bW,0,none⟩)] W
   (WalkPost n₀ J Jx pre [s] W):=by
 have hj2:J pre (W.alloc (.cells #[.int .i64 2,.int .i64 0,.int .i64 0,.string ⟨#[]⟩,.string s,.slice A 0 c] 41)):=hJ pre W _ none hj (World.grownBy_alloc W _ none) (fun r e=>by cases e)
 obtain ⟨fn,tmps,assign,body,hy,hR⟩:=hY (n - 1) pre s _ hj2 hN
 have cY:=(bY'.alloc (.cells #[.int .i64 2,.int .i64 0,.int .i64 0,.string ⟨#[]⟩,.string s,.slice A 0 c] 41)).cell
 have bx:=Box.new W #[.int .i64 2,.int .i64 0,.int .i64 0,.string ⟨#[]⟩,.string s,.slice A 0 c] 41
 have hk0:=Kp.alloc hn (.cells #[.int .i64 2,.int .i64 0,.int .i64 0,.string ⟨#[]⟩,.string s,.slice A 0 c] 41)
 have hR2:=hR.mono (R':=fun e W2=>(e=.returned (.bool true)∧J (pre++[s]) W2∧Kp n₀ _ W2∧W2.cell? ⟨W.heap.size,5,none⟩=some (.slice A 0 c))∨(e=.returned (.bool false)∧Jx (pre++[s]) W2))
  (fun e W2 h=>h.elim (fun ⟨a,b,k⟩=>.inl ⟨a,b,k,k.cells.cell (bx.cells 5 _ rfl)⟩) .inr)
 clear hR
 refine callsIn_of_wp Tryz.func125 rfl trivial ?_ rfl
 simp only [Tryz.ntmps125,List.size_toArray,List.length_cons,List.length_nil,Nat.reduceAdd,Nat.reduceSub,Array.replicate_succ,Array.replicate_zero,List.push_toArray,List.append_toArray,List.nil_append,List.cons_append]
 gi_wp2_with ((try refine ⟨yX _,?_⟩); refine hR2.mono ?_; clear hR2; rintro e W2 (⟨rfl,hJ2,hk2,c5⟩ | ⟨rfl,hx2⟩))
 ·gi_loopw [20] (fun i wr=>i=.int .i64 0∧W2=wr) (fun _ _=>0)
  case atStart=>exact ⟨rfl,rfl⟩
  case round =>
   obtain ⟨rfl,rfl⟩:=hrel
   gi_wp2
   go_ret
   exact .inl ⟨rfl,hJ2,hk0.trans hk2⟩
 ·go_ret
  exact .inr ⟨rfl,[s],List.prefix_refl _,hx2⟩
set_option maxHeartbeats 2000000 in
theorem walk_any (l bY bW N B:Nat) (h:Vw) (J Jx:List ByteArray→World→Prop) (hJ:AbidesFrom B J)
  (hY:∀ m pre s W,J pre W→pre.length < N→YieldAt Fence.wide m Tryz.prog l #[.string s] W (YieldPost h.w.heap.size J Jx pre s W)) (x:Ex) :
  ∀ (v:Value) (n:Nat) (pre:List ByteArray) (W:World),IsArgs h x v→WfE x→Below h.w.heap.size h.w W→Boxed W bY 123 (.func (.yield l) #[] #[])→Boxed W bW 172 (walkV bY bW)→J pre W→pre.length + (vW x).length≤N → 
  CallsIn Fence.wide n Tryz.prog 125 #[.agg #[.int .i64 x.op,.int .i64 x.k,.int .i64 x.n,.string x.s,.string x.nm,v],.pointer (some ⟨bY,0,none⟩),.pointer (some ⟨bW,0,none⟩)] W (WalkPost h.w.heap.size J Jx pre (vW x) W):=by
 refine ex_ind (p:=fun x=>∀ (v:Value) (n:Nat) (pre:List ByteArray) (W:World),IsArgs h x v→WfE x→Below h.w.heap.size h.w W→Boxed W bY 123 (.func (.yield l) #[] #[])→Boxed W bW 172 (walkV bY bW)→J pre W→pre.length + (vW x).length≤N → 
  CallsIn Fence.wide n Tryz.prog 125 #[.agg #[.int .i64 x.op,.int .i64 x.k,.int .i64 x.n,.string x.s,.string x.nm,v],.pointer (some ⟨bY,0,none⟩),.pointer (some ⟨bW,0,none⟩)] W (WalkPost h.w.heap.size J Jx pre (vW x) W)) (fun x ih v n pre W hx hw hb hbY hbW hj hN=>?_) x
 by_cases h2:x.op=2
 ·obtain ⟨e,-⟩:=ref_shape hw h2
  obtain ⟨A,n',c,rfl⟩:=hx.slice
  have hn0:n'=0:=by
   obtain ⟨vs,hr,hvs⟩:=hx.form
   obtain ⟨A',c',e',-⟩:=hr.form
   rw [tK hvs.len,ref_args hw h2] at e'
   simp at e'
   exact e'.2.1
  subst hn0
  rw [e]
  rw [e,refs_ref] at hN ⊢
  exact walk_ref l bY bW N B h.w.heap.size J Jx hJ hY x.nm A c n pre W hb.size hbY hj (by simp at hN; omega)
 ·rw [wW,if_neg h2,List.nil_append] at hN ⊢
  obtain ⟨vs,hr,hvs⟩:=hx.form
  obtain ⟨A,ca,rfl,hc1,hc2,-⟩:=hr.form
  have hvl:=hvs.len
  have hrl:=tK hvl
  rw [hrl] at hc1 hr ⊢
  have HR:=Lib.hid hr
  have HV:=Lib.hid hvs
  have HIH:=Lib.hid ih
  have HWL:=Lib.hid hw.list
  have HB:=Lib.hid hb
  have hop:(x.op == 2)=false:=beq_eq_false_iff_ne.2 h2
  have hj2:J pre (W.alloc (.cells #[.int .i64 x.op,.int .i64 x.k,.int .i64 x.n,.string x.s,.string x.nm,.slice A x.args.length ca] 41)):=hJ pre W _ none hj (World.grownBy_alloc W _ none) (fun r e=>by cases e)
  have hk0:=Kp.alloc hb.size (.cells #[.int .i64 x.op,.int .i64 x.k,.int .i64 x.n,.string x.s,.string x.nm,.slice A x.args.length ca] 41)
  clear hx hr hvs hw hb hrl hvl
  generalize hL:x.args.length=len at *
  unfold maxLen at hc2
  refine callsIn_of_wp Tryz.func125 rfl trivial ?_ rfl
  simp only [Tryz.ntmps125,List.size_toArray,List.length_cons,List.length_nil,Nat.reduceAdd,Nat.reduceSub,Array.replicate_succ,Array.replicate_zero,List.push_toArray,List.append_toArray,List.nil_append,List.cons_append]
  gi_wp2
  refine ⟨fun _ h=>(by cases h),?_⟩
  gi_wp2
  gi_loopw [20] (fun i wr=>∃ k:Nat,k≤len∧i=.int .i64 k∧J (pre++xW (x.args.take k)) wr∧Kp h.w.heap.size W wr) (fun i _=>len - (intOf i).toNat)
  case atStart=>exact ⟨0,Nat.zero_le _,rfl,by simpa [xW] using hj2,hk0⟩
  case round =>
   obtain ⟨k,hk,rfl,hjk,hkk⟩:=hrel
   by_cases hlt:k < len
   ·obtain ⟨y,hy⟩:∃ y,x.args[k]?=some y:=⟨_,List.getElem?_eq_getElem (by omega)⟩
    obtain ⟨u,hu⟩:∃ u,vs[k]?=some u:=⟨_,List.getElem?_eq_getElem (by have:=HV.out.len; omega)⟩
    have hyu:=AllArgs.get HV.out hy hu
    obtain ⟨Au,nu,cu,rfl⟩:=hyu.slice
    have hrow:(sK x.args vs)[k]?=some (exRow y (.slice Au nu cu)):=by show (List.zipWith exRow _ _)[k]?=_; rw [List.getElem?_zipWith,hy,hu]
    obtain ⟨b,off,rfl,-,hc⟩:=HR.out.row hrow
    have hbr:=HB.out.trans hkk.below
    have hc:=hc.sees (sees_below hbr)
    have c0:wr.cell? ⟨b,off + k * 6,none⟩=_:=hc.lies 0 _ rfl
    have c1:wr.cell? ⟨b,off + k * 6 + 1,none⟩=_:=hc.lies 1 _ rfl
    have c2:wr.cell? ⟨b,off + k * 6 + 2,none⟩=_:=hc.lies 2 _ rfl
    have c3:wr.cell? ⟨b,off + k * 6 + 3,none⟩=_:=hc.lies 3 _ rfl
    have c4:wr.cell? ⟨b,off + k * 6 + 4,none⟩=_:=hc.lies 4 _ rfl
    have c5:wr.cell? ⟨b,off + k * 6 + 5,none⟩=_:=hc.lies 5 _ rfl
    clear hc hrow hu
    have hym:=List.mem_of_getElem? hy
    have hsn:xW (x.args.take (k + 1))=xW (x.args.take k)++vW y:=by rw [tX _ k y hy,refsL_app]; simp [xW]
    have hle:(xW (x.args.take (k + 1))).length≤(xW x.args).length:=by
     have:=congrArg (fun l=>(xW l).length) (List.take_append_drop (k + 1) x.args)
     simp only [refsL_app,List.length_append] at this
     omega
    rw [hsn,List.length_append] at hle
    have hal:Kp h.w.heap.size wr (wr.alloc (.cells #[.int .i64 y.op,.int .i64 y.k,.int .i64 y.n,.string y.s,.string y.nm,.slice Au nu cu] 41)):=Kp.alloc hbr.size _
    have bY2:=(hkk.cells.boxed hbY).alloc (.cells #[.int .i64 y.op,.int .i64 y.k,.int .i64 y.n,.string y.s,.string y.nm,.slice Au nu cu] 41)
    have bW2:=(hkk.cells.boxed hbW).alloc (.cells #[.int .i64 y.op,.int .i64 y.k,.int .i64 y.n,.string y.s,.string y.nm,.slice Au nu cu] 41)
    have cW:=bW2.cell
    have hcall:=HIH.out y hym (.slice Au nu cu) (n - 1) (pre++xW (x.args.take k)) (wr.alloc (.cells #[.int .i64 y.op,.int .i64 y.k,.int .i64 y.n,.string y.s,.string y.nm,.slice Au nu cu] 41)) hyu (HWL.out.get hym) (hbr.trans hal.below) bY2 bW2
     (hJ _ wr _ none hjk (World.grownBy_alloc wr _ none) (fun r e=>by cases e)) (by rw [List.length_append]; omega)
    have HS:=Lib.hid hsn
    clear hsn bY2 bW2
    gi_wp2_with ((try refine ⟨trivial,?_⟩); (try refine ⟨yX _,?_⟩); gi_at_call 125; refine hcall.mono ?_; clear hcall; rintro e W2 (⟨rfl,hJ2,hk2⟩ | ⟨rfl,q,hq,hx2⟩))
    ·go_roundw
     case rel=>exact ⟨k + 1,by omega,by go_num,by rw [HS.out,← List.append_assoc]; exact hJ2,(hkk.trans hal).trans hk2⟩
     case measure=>simp [intOf]; omega
    ·go_ret
     refine .inr ⟨rfl,xW (x.args.take k)++q,?_,by rw [← List.append_assoc]; exact hx2⟩
     have hp:xW (x.args.take (k + 1)) <+: xW x.args:=by
      conv=>rhs; rw [← List.take_append_drop (k + 1) x.args,refsL_app]
      exact List.prefix_append _ _
     rw [HS.out] at hp
     exact ((List.prefix_append_right_inj _).2 hq).trans hp
   ·obtain rfl:k=len:=by omega
    have hta:x.args.take k=x.args:=by rw [← hL,List.take_length]
    rw [hta] at hjk
    clear hta
    gi_wp2
    go_ret
    exact .inl ⟨rfl,hjk,hkk⟩
theorem refs_in (x:Ex) (v:Value) (n:Nat) (W:World) :
  CallsIn Fence.wide n Tryz.prog 99 #[.agg #[.int .i64 x.op,.int .i64 x.k,.int .i64 x.n,.string x.s,.string x.nm,v]] W fun e W'=>e=.returned (.func (.func 124) #[] #[.pointer (some ⟨W.heap.size,0,none⟩)])∧W'=W.alloc (.cells #[.int .i64 x.op,.int .i64 x.k,.int .i64 x.n,.string x.s,.string x.nm,v] 41):=by
 refine callsIn_of_wp Tryz.func99 rfl trivial ?_ rfl
 simp only [Tryz.ntmps99,List.size_toArray,List.length_cons,List.length_nil,Nat.reduceAdd,Nat.reduceSub,Array.replicate_succ,Array.replicate_zero,List.push_toArray,List.append_toArray,List.nil_append,List.cons_append]
 gi_wp2
 go_ret
 exact ⟨rfl,rfl⟩
set_option maxHeartbeats 2000000 in
theorem refs_stops (x:Ex) (v:Value) (h:Vw) (hx:IsArgs h x v) (hw:WfE x) (n bX:Nat) (w:World) (hb:Below h.w.heap.size h.w w) (hX:w.heap[bX]?=some (.cells #[.int .i64 x.op,.int .i64 x.k,.int .i64 x.n,.string x.s,.string x.nm,v] 41 (0,0))) :
  SeqStopsK Fence.wide n Tryz.prog 124 #[.pointer (some ⟨bX,0,none⟩)] (fun s:ByteArray=>#[Value.string s]) (Kp h.w.heap.size) (fun ys=>ys=vW x) (fun pre=>pre <+: vW x) (vW x).length w:=fun l J Jx W hW hJ hJx hY h0=>by
 have hbW:Below h.w.heap.size h.w W:=hb.trans (hW.mono hb.size)
 have hX':W.heap[bX]?=some (.cells #[.int .i64 x.op,.int .i64 x.k,.int .i64 x.n,.string x.s,.string x.nm,v] 41 (0,0)):=(hW.block bX (Array.getElem?_eq_some_iff.1 hX).1).trans hX
 have hxl:=(Array.getElem?_eq_some_iff.1 hX').1
 obtain ⟨A,n',c,rfl⟩:=hx.slice
 obtain ⟨W1,hW1⟩:∃ W1,W1=W.alloc (.cells #[.func (.yield l) #[] #[]] 123):=⟨_,rfl⟩
 have bY1:Boxed W1 W.heap.size 123 (.func (.yield l) #[] #[]):=by rw [hW1]; exact Boxed.new _ _ _
 have z1:W1.heap.size=W.heap.size + 1:=by rw [hW1]; simp
 have b1:Below W.heap.size W W1:=by rw [hW1]; exact (Below.refl _ _).alloc (Nat.le_refl _) _
 obtain ⟨W3,hW3⟩:∃ W3,W3=W1.alloc (.cells #[walkV W.heap.size (W.heap.size + 1)] 172):=⟨_,rfl⟩
 have bW3:Boxed W3 (W.heap.size + 1) 172 (walkV W.heap.size (W.heap.size + 1)):=by rw [hW3,← z1]; exact Boxed.new _ _ _
 have bY3:Boxed W3 W.heap.size 123 (.func (.yield l) #[] #[]):=by rw [hW3]; exact bY1.alloc _
 have b3:Below W.heap.size W W3:=by rw [hW3]; exact b1.alloc (by omega) _
 have c0:W.cell? ⟨bX,0,none⟩=some (.int .i64 x.op):=by simp [World.cell?,hX']
 have c1:W.cell? ⟨bX,1,none⟩=some (.int .i64 x.k):=by simp [World.cell?,hX']
 have c2:W.cell? ⟨bX,2,none⟩=some (.int .i64 x.n):=by simp [World.cell?,hX']
 have c3:W.cell? ⟨bX,3,none⟩=some (.string x.s):=by simp [World.cell?,hX']
 have c4:W.cell? ⟨bX,4,none⟩=some (.string x.nm):=by simp [World.cell?,hX']
 have c5:W.cell? ⟨bX,5,none⟩=some (.slice A n' c):=by simp [World.cell?,hX']
 have hcall:=walk_any l W.heap.size (W.heap.size + 1) (vW x).length W.heap.size h J Jx hJ
  (fun m pre s W hj hl=>YieldAt.mono (YieldAt.anyDepth (show Fence.wide.depth=none from rfl) m (hY pre s W hj hl)) (fun e W' q=>q)) x (.slice A n' c) (n - 1) [] W3 hx hw (hbW.trans (b3.mono hbW.size)) bY3 bW3 (hJ [] W W3 none h0 (grown_none b3) (fun r e=>by cases e)) (by simp)
 clear hx hw hbW hb hX hX' bY1 bY3 bW3 b1 b3 hY hJ hJx hW
 rw [hW3] at hcall
 clear hW3
 rw [hW1] at hcall
 clear hW1 z1 W1 W3
 refine callsIn_of_wp Tryz.func124 rfl trivial ?_ rfl
 simp only [Tryz.ntmps124,List.size_toArray,List.length_cons,List.length_nil,Nat.reduceAdd,Nat.reduceSub,Array.replicate_succ,Array.replicate_zero,List.push_toArray,List.append_toArray,List.nil_append,List.cons_append]
 gi_wp2_with ((try refine ⟨trivial,?_⟩); (try refine ⟨yX _,?_⟩); gi_at_call 125; refine hcall.mono ?_; clear hcall; rintro e W4 (⟨rfl,hJ4,-⟩ | ⟨rfl,q,hq,hx4⟩))
 ·go_end0
  exact ⟨⟨_,rfl⟩,.inl ⟨_,rfl,hJ4⟩⟩
 ·go_end0
  exact ⟨⟨_,rfl⟩,.inr ⟨q,hq,hx4⟩⟩
end Go.Proofs.YthckljafinhepaaGreat
namespace Go.Proofs.YthckljafinhepaaGreat
open Go.RowKit
def sidx (s:ByteArray):List (ByteArray × Value)→Option Nat
 | []=>none
 | (k,_) :: l=>if s == k then some 0 else (sidx s l).map (· + 1)
theorem sidx_none {s:ByteArray}:∀ {l:List (ByteArray × Value)},sidx s l=none→sget s l=none
 | [],_=>rfl
 | (k,v) :: l,h=>by
  unfold sidx at h
  unfold sget
  split at h
  ·cases h
  ·rename_i g
   rw [if_neg g]
   exact sidx_none (by simpa using h)
theorem sidx_some {s:ByteArray}:∀ {l:List (ByteArray × Value)} {j:Nat},sidx s l=some j→∃ u,l[j]?=some (s,u)∧(∀ i z,Instr.findNow .string (.string s) (((rX l).zipIdx z).map fun p=>⟨p.1.1,p.1.2,p.2⟩) i=some (some (i + j,u))) ∧
  ∀ v t,sget t (l.set j (s,v))=if t=s then some v else sget t l
 | [],j,h=>by cases h
 | (k,u) :: l,j,h=>by
  unfold sidx at h
  split at h
  ·rename_i g
   simp only [Option.some.injEq] at h
   subst h
   obtain rfl:=(Go.MapKept.bytes_beq s k).1 g
   refine ⟨u,rfl,fun i z=>?_,fun v t=>?_⟩
   ·simp only [rX,List.map_cons,List.zipIdx_cons]
    unfold Instr.findNow
    have hsn:Instr.sameNow .string (.string s) (.string s)=some (s == s):=rfl
    simp only [hsn,g,Nat.add_zero]
   ·rw [List.set_cons_zero]
    unfold sget
    by_cases e:t=s
    ·rw [if_pos e,if_pos (by rw [e]; exact g)]
    ·rw [if_neg e,if_neg (fun q=>e ((Go.MapKept.bytes_beq t s).1 q)),if_neg (fun q=>e ((Go.MapKept.bytes_beq t s).1 q))]
  ·rename_i g
   obtain ⟨j',hj,rfl⟩:=Option.map_eq_some_iff.1 h
   obtain ⟨u',h1,h2,h3⟩:=sidx_some hj
   refine ⟨u',by simpa using h1,fun i z=>?_,fun v t=>?_⟩
   ·simp only [rX,List.map_cons,List.zipIdx_cons]
    unfold Instr.findNow
    have hsn:Instr.sameNow .string (.string s) (.string k)=some (s == k):=rfl
    simp only [hsn,g]
    rw [show i + (j' + 1)=i + 1 + j' by omega]
    exact h2 (i + 1) (z + 1)
   ·rw [List.set_cons_succ]
    unfold sget
    rw [h3 v t]
    by_cases e:t=s
    ·subst e; rw [if_neg g,if_pos rfl,if_pos rfl]
    ·rw [if_neg e,if_neg e]
theorem sget_snoc {s t:ByteArray} {v:Value}:∀ {l:List (ByteArray × Value)},sget s l=none→sget t (l++[(s,v)])=if t=s then some v else sget t l
 | [],_=>by
  show (if t == s then some v else none)=_
  by_cases e:t=s
  ·rw [if_pos e,if_pos ((Go.MapKept.bytes_beq t s).2 e)]
  ·rw [if_neg e,if_neg (fun q=>e ((Go.MapKept.bytes_beq t s).1 q))]; rfl
 | (k,u) :: l,h=>by
  unfold sget at h
  split at h
  ·cases h
  ·rename_i g
   rw [List.cons_append]
   unfold sget
   rw [sget_snoc h]
   by_cases e:t=s
   ·subst e; rw [if_neg g,if_pos rfl,if_pos rfl]
   ·rw [if_neg e,if_neg e]
theorem sget_out {s:ByteArray}:∀ {l:List (ByteArray × Value)},sget s l=none→∀ q∈l,q.1≠s
 | (k,v) :: l,h,q,hq,e=>by
  unfold sget at h
  split at h
  ·cases h
  ·rename_i g
   rcases List.mem_cons.1 hq with rfl | hq
   ·exact g ((Go.MapKept.bytes_beq s k).2 e.symm)
   ·exact sget_out h q hq e
theorem ments_get (es:List (Value × Value)) (i:Nat):(ments es)[i]?=(es[i]?).map fun p=>⟨p.1,p.2,i⟩:=by
 unfold ments
 rw [List.getElem?_map,List.getElem?_zipIdx]
 cases es[i]? <;> simp
theorem run_update_str {P:Program} {w:World} {b:Nat} {l:List (ByteArray × Value)} {t kt et:TypeId} {s:ByteArray} {v:Value} (hb:w.heap[b]?=some (iV (rX l))) (ht:P.underlying t=some (.map kt et)) (htd:P.underlying kt=some .string) :
  ∃ l',(Instr.mapUpdate t (.map (some b)) (.string s) v).run P w=.ok () { w with heap:=w.heap.setIfInBounds b (iV (rX l')) }∧(∀ t,sget t l'=if t=s then some v else sget t l)∧((l.map (·.1)).Nodup→(l'.map (·.1)).Nodup)∧∀ p∈l',p∈l∨p=(s,v):=by
 cases hs:sidx s l with
 | none =>
  have hn:=sidx_none hs
  refine ⟨l++[(s,v)],?_,fun t=>sget_snoc hn,fun hd=>?_,fun p hp=>(List.mem_append.1 hp).imp id List.mem_singleton.1⟩
  rotate_left
  ·rw [List.map_append,List.nodup_append]
   refine ⟨hd,by simp,fun x hx y hy e=>?_⟩
   simp only [List.map_cons,List.map_nil,List.mem_singleton] at hy
   subst hy e
   obtain ⟨q,hq,e2⟩:=List.mem_map.1 hx
   exact sget_out hn q hq e2
  have:=run_update_at (P:=P) (v:=v) hb ht htd (k:=.string s) rfl (mfind_none hn)
  rw [this,show rX (l++[(s,v)])=rX l++[(.string s,v)] by simp [rX]]
 | some j =>
  obtain ⟨u,h1,h2,h3⟩:=sidx_some hs
  refine ⟨l.set j (s,v),?_,h3 v,fun hd=>?_,fun p hp=>List.mem_or_eq_of_mem_set hp⟩
  rotate_left
  ·have:(l.set j (s,v)).map (·.1)=l.map (·.1):=by
    refine List.ext_getElem? fun i=>?_
    rw [List.getElem?_map,List.getElem?_map,List.getElem?_set]
    have hlt:=(List.getElem?_eq_some_iff.1 h1).1
    by_cases e:j=i
    ·subst e; rw [if_pos rfl,if_pos hlt,h1]; rfl
    ·rw [if_neg e]
   rw [this]; exact hd
  have hf:Instr.findNow .string (.string s) (ments (rX l)).toArray.toList 0=some (some (j,u)):=by
   have:=h2 0 0
   rw [Nat.zero_add] at this
   exact this
  have hj:(ments (rX l)).toArray[j]?=some ⟨.string s,u,j⟩:=by
   rw [List.getElem?_toArray,ments_get,rX,List.getElem?_map,h1]; rfl
  have hk:Go.MapKept.IsKey .string (.string s):=isKey_of rfl
  have hm:(ments (rX l)).toArray.modify j (fun e=>{ e with key:=.string s,val:=v })=(ments (rX (l.set j (s,v)))).toArray:=by
   apply Array.ext'
   rw [Array.toList_modify]
   refine List.ext_getElem? fun i=>?_
   show _=(ments (rX (l.set j (s,v))))[i]?
   rw [List.getElem?_modify,ments_get,ments_get,List.getElem?_map,List.getElem?_map,List.getElem?_set]
   have hlt:=(List.getElem?_eq_some_iff.1 h1).1
   by_cases e:j=i
   ·subst e; simp [hlt]
   ·simp [e]
  unfold iV at hb ⊢
  unfold Instr.mapUpdate
  simp only [Sem.run_bind,run_underlying ht,Result.andThen,Go.MapKept.run_getObj_map hb,Go.MapKept.run_checkKey htd hk,Go.MapKept.run_findKey htd hf]
  simp only [hj,Option.map_some,Option.getD_some,Go.MapKept.run_keyThatStays hk,Go.MapKept.run_setObj_map _ hb]
  rw [hm]
  simp [rX]
end Go.Proofs.YthckljafinhepaaGreat
namespace Go.Proofs.YthckljafinhepaaGreat
open Go.RowKit Go.Shelf
attribute [local go_sem] Oper.semAt_some
section
variable {F:Fence} {n:Nat} {P:Program} {w w':World} {ops:Array Oper} {rest:List Oper} {o:Oper} {a:Act} {Q:Exit→Act→World→Prop}
theorem wpListIn_mapUpdate_at (hg:o.guard=none) (m x v:Operand) (t:TypeId) (hop:o.op=Op.mapUpdate t m x v) {b key val:Value} (hm:a.eval m=b) (hx:a.eval x=key) (hv:a.eval v=val) (hr:(Instr.mapUpdate t b key val).run P w=.ok () w')
  (hK:wpListIn F n P ops Q rest (a.put o.dst undef) w'):wpListIn F n P ops Q (o :: rest) a w:=by
 refine wpListIn_plain hg fun K' hK'=>?_
 unfold Oper.wpIn
 refine ⟨by simp [Oper.about,hop],?_⟩
 rw [Oper.semAt_plain F _ _ (by rw [hop]; intro c hc'; cases hc')]
 simp [execOp,hop,hm,hx,hv,hr,Result.andThen]
 exact hK' _ _ hK
end
theorem cells_own {A:World} {b:Nat} {o:Obj} (hb:A.heap[b]?=some o) (hc:o.isCells=true) {row:Option Nat} (hr:∀ r,row=some r→∃ o:Obj,A.heap[r]?=some o∧o.isCells=false):some b≠row:=fun e=>by
 obtain ⟨o',h1,h2⟩:=hr _ e.symm
 rw [hb] at h1
 cases h1; rw [hc] at h2; cases h2
theorem grown_set {W:World} {M:Nat} {o:Obj} (o':Obj) (hm:W.heap[M]?=some o):W.grownBy { W with heap:=W.heap.setIfInBounds M o' } (some M) :=
 ⟨rfl,rfl,rfl,by simp,fun k _ ne=>(Go.MapKept.heap_set hm).2 k (fun e=>ne (by rw [e]))⟩
end Go.Proofs.YthckljafinhepaaGreat
namespace Go.Proofs.YthckljafinhepaaGreat
open Go.RowKit
def ruleT (op:Int):Option (List Int × Int) :=
 if op=3 then some ([1],1) else if op=4 then some ([2],2) else if op=18 then some ([3],1)
 else if 5≤op∧op≤9 then some ([1,1],1) else if op=10 then some ([3,3],3) else if op=15∨op=16 then some ([2,2],2) else none
def opTy (op:Int) (l:List Int):Int × Int :=
 match ruleT op with
 | some (a,t)=>if l=a then (t,0) else (0,9)
 | none=>if op=17 then (if l.getD 0 0=2∧l.getD 1 0=l.getD 2 0 then (l.getD 1 0,0) else (0,9)) else if l.getD 0 0=l.getD 1 0 then (2,0) else (0,9)
mutual
def tyE (f:ByteArray→Option Int):Ex→Int × Int
 | .mk op k _ _ nm args =>
  if op=1 then (k,0)
  else if op=2 then (match f nm with | some t=>(t,0) | none=>(0,5))
  else if (tyL f args).2=0 then opTy op (tyL f args).1 else (0,(tyL f args).2)
def tyL (f:ByteArray→Option Int):List Ex→List Int × Int
 | []=>([],0)
 | x :: l=>if (tyE f x).2=0 then (if (tyL f l).2=0 then ((tyE f x).1 :: (tyL f l).1,0) else ([],(tyL f l).2)) else ([],(tyE f x).2)
end
theorem tyE_eq (f:ByteArray→Option Int) (x:Ex):tyE f x =
  if x.op=1 then ((x.k:Int),(0:Int))
  else if x.op=2 then (match f x.nm with | some t=>((t:Int),(0:Int)) | none=>(0,5))
  else if (tyL f x.args).2=0 then opTy x.op (tyL f x.args).1 else (0,(tyL f x.args).2):=by
 obtain ⟨a,b,c,d,e,l⟩:=x
 rw [tyE]; rfl
def tyF (fs:List Fd) (s:ByteArray):Option Int:=match fs with
 | []=>none
 | f :: l=>if s == f.name then some f.ty else tyF l s
theorem tyL_get {f:ByteArray→Option Int}:∀ {l:List Ex} {ts:List Int},tyL f l=(ts,0)→l.length=ts.length∧∀ (i:Nat) (x:Ex),l[i]?=some x→∃ t,ts[i]?=some t∧tyE f x=(t,0)
 | [],ts,h=>by
  rw [tyL] at h
  simp only [Prod.mk.injEq,and_true] at h
  subst h
  exact ⟨rfl,fun i x hx=>by simp at hx⟩
 | x :: l,ts,h=>by
  rw [tyL] at h
  by_cases h1:(tyE f x).2=0
  ·rw [if_pos h1] at h
   by_cases h2:(tyL f l).2=0
   ·rw [if_pos h2] at h
    simp only [Prod.mk.injEq,and_true] at h
    subst h
    obtain ⟨a,b⟩:=tyL_get (f:=f) (l:=l) (ts:=(tyL f l).1) (Prod.ext rfl h2)
    refine ⟨by simp [a],fun i y hy=>?_⟩
    cases i with
    | zero =>
     simp only [List.getElem?_cons_zero,Option.some.injEq] at hy
     subst hy
     exact ⟨_,rfl,Prod.ext rfl h1⟩
    | succ i=>exact b i y (by simpa using hy)
   ·rw [if_neg h2] at h
    simp only [Prod.mk.injEq] at h
    exact absurd h.2 h2
  ·rw [if_neg h1] at h
   simp only [Prod.mk.injEq] at h
   exact absurd h.2 h1
theorem ty_leaf {fs:List Fd} {g:ByteArray→Option Int} (hf:∀ f∈fs,g f.name=some f.ty) (r:RawD) (kind:Int):tyE g (fV r fs kind)=(kind,0):=by
 have hc:tyE g (iK kind r)=(kind,0):=by rw [tyE_eq,if_pos (show (iK kind r).op=1 from rfl)]; rfl
 unfold fV
 split
 ·rename_i s hs
  split
  ·exact hc
  ·have hm:=List.mem_of_getElem? hs
   obtain ⟨f,hfm,rfl⟩:=List.mem_map.1 hm
   obtain ⟨h1,h2⟩:=List.mem_filter.1 hfm
   rw [tyE_eq,if_neg (show ¬ (refE f.name).op=1 by show ¬ (2:Int)=1; decide),if_pos (show (refE f.name).op=2 from rfl)]
   have e:(refE f.name).nm=f.name:=rfl
   rw [e,hf f h1]
   simp at h2
   simp [h2]
 ·exact hc
theorem many_types {f:ByteArray→Option Int} {one:Int→Nat→Ex × Nat}:∀ (ks:List Int) (n:Nat),(∀ k∈ks,∀ n,tyE f (one k n).1=(k,0))→tyL f (dJ one ks n).1=(ks,0)
 | [],n,_=>by rw [show (dJ one [] n).1=[] from rfl,tyL]
 | k :: ks,n,h=>by
  have h1:=h k (by simp) n
  have h2:=many_types (f:=f) ks (one k n).2 (fun k' hk=>h k' (by simp [hk]))
  rw [show (dJ one (k :: ks) n).1=(one k n).1 :: (dJ one ks (one k n).2).1 from rfl,tyL,h1,h2]
  simp
theorem pick_type (r:RawD) (kind:Int) (h1:1≤kind) (h3:kind≤3):opTy (mW r kind).1 (mW r kind).2=(kind,0):=by
 have a0:=oW r.a 6 (by omega)
 have b0:=oW r.b 7 (by omega)
 have b1:=nW r.b 7 (by omega)
 have c0:=oW r.a 3 (by omega)
 have c1:=nW r.a 3 (by omega)
 unfold mW
 split
 ·simp [opTy,ruleT]
 ·split
  ·rename_i hk
   split
   ·simp [opTy,ruleT,hk]
   ·split
    ·simp [opTy,ruleT,hk]
    ·have hb:intOps (cJ r.b 7)=5∨intOps (cJ r.b 7)=6∨intOps (cJ r.b 7)=7∨intOps (cJ r.b 7)=8∨intOps (cJ r.b 7)=9:=by
      unfold intOps
      repeat' split
      all_goals omega
     simp only
     rcases hb with h | h | h | h | h <;> (rw [h]; simp [opTy,ruleT,hk])
  ·split
   ·rename_i hk
    split
    ·simp [opTy,ruleT,hk]
    ·split
     ·have hb:cJ r.b 7=1∨cJ r.b 7=2:=by omega
      simp only
      rcases hb with h | h <;> (rw [h]; simp [opTy,ruleT,hk])
     ·have hb:cJ r.b 7=3∨cJ r.b 7=4∨cJ r.b 7=5∨cJ r.b 7=6:=by omega
      simp only
      rcases hb with h | h | h | h <;> (rw [h]; simp [opTy,ruleT,hk])
   ·have hk:kind=3:=by omega
    simp [opTy,ruleT,hk]
theorem ty_op {f:ByteArray→Option Int} {op:Int} {l:List Ex} {ts:List Int} (h1:op≠1) (h2:op≠2) (h:tyL f l=(ts,0)):tyE f (opE op l)=opTy op ts:=by
 rw [tyE_eq,if_neg (show ¬ (opE op l).op=1 from h1),if_neg (show ¬ (opE op l).op=2 from h2)]
 show (if (tyL f l).2=0 then opTy op (tyL f l).1 else (0,(tyL f l).2))=_
 rw [h]; simp
theorem ty_gen {fs:List Fd} {g:ByteArray→Option Int} (hf:∀ f∈fs,g f.name=some f.ty) (l:List RawD):∀ (d:Nat) (kind:Int) (n:Nat),1≤kind→kind≤3→tyE g (iJ l fs d kind n).1=(kind,0)
 | 0,kind,n,h1,h3=>ty_leaf hf _ _
 | d + 1,kind,n,h1,h3=>by
  by_cases q:cJ (aJ l n).k 3=0
  ·rw [genE_leaf q]; exact ty_leaf hf _ _
  ·obtain ⟨p1,p2,p3,p4⟩:=pickE_ok (aJ l n) kind h1 h3
   have hpt:=pick_type (aJ l n) kind h1 h3
   obtain ⟨op,ks,hp⟩:∃ op ks,mW (aJ l n) kind=(op,ks):=⟨(mW (aJ l n) kind).1,(mW (aJ l n) kind).2,by cases mW (aJ l n) kind; rfl⟩
   rw [uQ q hp]
   rw [hp] at p1 p2 p4 hpt
   simp only at p1 p2 p4 hpt
   exact (ty_op (by omega) (by omega) (many_types ks _ (fun k hk n=>ty_gen hf l d k n (p4 k hk).1 (p4 k hk).2))).trans hpt
end Go.Proofs.YthckljafinhepaaGreat
namespace Go.Proofs.YthckljafinhepaaGreat
open Go.RowKit Go.Maps Go.WideElems Go.WideShapes
theorem map_owned {P:Program} {w:World} {b:Nat} {k e:TypeId} {l:List (ByteArray × Value)} (hb:w.heap[b]?=some (iV (rX l))) (hn:(l.map (·.1)).Nodup) (hs:∀ p∈l,p.1.size≤maxLen) (hv:∀ p∈l,p.2=.bool true) (hl:l.length≤maxLen)
  (hk:P.underlying k=some .string) (he:P.underlying e=some .bool):∃ D0:DataW Unit,w.ownsMap P k (plainElem P e) b l.length D0∧(strKeys D0).Perm (l.map fun p=>p.1.data.toList)∧Maps.size D0=l.length:=by
 have hes:(ments (rX l)).toArray.toList=ments (rX l):=rfl
 have hrd:∀ x∈ments (rX l),∃ p∈l,rd P k (plainElem (H:=Unit) P e) x=some (.string p.1.data.toList,.lit (.bool true)):=fun x hx=>by
  obtain ⟨i,hi⟩:=List.getElem?_of_mem hx
  rw [ments_get,rX,List.getElem?_map] at hi
  cases hp:l[i]? with
  | none=>rw [hp] at hi; cases hi
  | some p =>
   rw [hp] at hi
   simp only [Option.map_some,Option.some.injEq] at hi
   subst hi
   have hm:=List.mem_of_getElem? hp
   refine ⟨p,hm,?_⟩
   have h1:=hs p hm
   have h2:=hv p hm
   simp [rd,keyOf,mapKey,hk,h1,plainElem,he,h2]
 have hmap:(ments (rX l)).map (rg P k (plainElem (H:=Unit) P e))=l.map fun p=>(Lit.string p.1.data.toList,DataW.lit (.bool true)):=by
  refine List.ext_getElem? fun i=>?_
  rw [List.getElem?_map,ments_get,rX,List.getElem?_map,List.getElem?_map]
  cases hp:l[i]? with
  | none=>rfl
  | some p =>
   have hm:=List.mem_of_getElem? hp
   have h1:=hs p hm
   have h2:=hv p hm
   simp [rg,rd,keyOf,mapKey,hk,h1,plainElem,he,h2]
 have hlen:(ments (rX l)).length=l.length:=by simp [ments,rX]
 refine ⟨_,⟨(ments (rX l)).toArray,l.length,?_,⟨by simpa [hlen] using hl,?_,fun x hx=>?_⟩,by simp [hlen],rfl⟩,?_,?_⟩
 ·rw [hb,iV]; simp [rX]
 ·rw [Go.MapKept.stamped_iff,hes]
  have hborn:(ments (rX l)).map (·.born)=List.range l.length:=by
   refine List.ext_getElem? fun i=>?_
   rw [List.getElem?_map,ments_get,rX,List.getElem?_map]
   rcases Nat.lt_or_ge i l.length with g | g
   ·rw [List.getElem?_eq_getElem g,List.getElem?_range g]; rfl
   ·rw [List.getElem?_eq_none g,List.getElem?_eq_none (by simpa using g)]; rfl
  have hkeys:(ments (rX l)).map (·.key)=l.map fun p=>Value.string p.1:=by
   refine List.ext_getElem? fun i=>?_
   rw [List.getElem?_map,ments_get,rX,List.getElem?_map,List.getElem?_map]
   cases l[i]? <;> rfl
  refine ⟨fun x hx=>?_,by rw [hborn]; exact List.nodup_range,?_⟩
  ·have:x.born∈(ments (rX l)).map (·.born):=List.mem_map.2 ⟨x,hx,rfl⟩
   rw [hborn] at this
   exact List.mem_range.1 this
  ·have:((ments (rX l)).map (·.key)).Nodup:=by
    rw [hkeys]
    have h2:(l.map fun p=>Value.string p.1)=(l.map (·.1)).map Value.string:=by rw [List.map_map]; rfl
    rw [h2]
    exact List.pairwise_map.2 (hn.imp fun hne e=>hne (by injection e))
   exact List.pairwise_map.1 this
 ·obtain ⟨p,-,h⟩:=hrd x hx; exact ⟨_,h⟩
 ·rw [hes,hmap]
  show (List.map (fun (p:Lit × DataW Unit)=>strOf p.1) _).Perm _
  refine ((sorted_perm _).map _).trans ?_
  rw [List.map_map]
  exact List.Perm.refl _
 ·rw [hes,hmap]
  show (List.foldr DataW.insert [] _).length=_
  rw [(sorted_perm _).length_eq,List.length_map]
end Go.Proofs.YthckljafinhepaaGreat
