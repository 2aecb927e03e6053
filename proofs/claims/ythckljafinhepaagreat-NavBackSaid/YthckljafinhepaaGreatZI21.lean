/-
  Contracts of the generator's formulas: several arguments. The contract of the generator's formulas.
-/
import Derived.Test.YthckljafinhepaaGreatZI16
import Derived.Test.YthckljafinhepaaGreatZI3
import Derived.Test.YthckljafinhepaaGreatZI13
import Derived.Test.YthckljafinhepaaGreatZI18
import Derived.Test.YthckljafinhepaaGreatZI4
set_option maxRecDepth 100000
namespace Go.Proofs.YthckljafinhepaaGreat
open Go.RowKit
abbrev uQ (l:List Int):List (List Value):=l.map (fun k=>[.int .i64 k])
def ExprC (l:List RawD) (fs:List Fd) (d:Nat):Prop :=
 ∀ (g:Nat) (sl:Value) (n:Nat) (kind:Int) (fv:Value) (m:List Nat) (h:Vw),RS h 4 sl (l.map RawD.cs)→n + bnd d < 100000→1≤kind→kind≤3→IsFds ⟨h.w,m⟩ fv fs→g∈m →
  C1 Tryz.prog 55 #[.pointer (some ⟨g,0,none⟩),.int .i64 kind,fv,.int .i64 (d:Int)] h g [sl,.int .i64 (n:Int)]
   (fun v cs' h'=>∃ u,v=.agg #[.int .i64 ((iJ l fs d kind n).1).op,.int .i64 ((iJ l fs d kind n).1).k,.int .i64 ((iJ l fs d kind n).1).n,.string ((iJ l fs d kind n).1).s,.string ((iJ l fs d kind n).1).nm,.slice (sA u) (sN u) (sC u)]∧cs'=[sl,.int .i64 (((iJ l fs d kind n).2:Nat):Int)]∧IsArgs h' (iJ l fs d kind n).1 (.slice (sA u) (sN u) (sC u)))
theorem many_any (l:List RawD) (fs:List Fd) (d:Nat) (hd:d < 1000) (IH:ExprC l fs d) (g:Nat) (sl:Value) (n:Nat) (op:Int) (ks:List Int) (kv fv:Value) (b4 b6 b7:Nat) (m:List Nat) (h:Vw) (hr:RS h 4 sl (l.map RawD.cs)) (hn:n + 3 * bnd d < 100000) (hks:ks.length≤3)
  (hk1:∀ k∈ks,1≤k∧k≤3) (hkv:RS h 1 kv (uQ ks)) (hf:IsFds ⟨h.w,m⟩ fv fs) (hg:g∈m) (f4:Cells h b4 0 [.pointer (some ⟨g,0,none⟩)]) (f6:Cells h b6 0 [fv]) (f7:Cells h b7 0 [.int .i64 ((d + 1:Nat):Int)]) :
  C1 Tryz.prog 86 #[.int .i64 op,kv,.pointer (some ⟨b4,0,none⟩),.pointer (some ⟨b6,0,none⟩),.pointer (some ⟨b7,0,none⟩)] h g [sl,.int .i64 (n:Int)]
   (fun v cs' h'=>∃ u,v=.agg #[.int .i64 (opE op (dJ (iJ l fs d) ks n).1).op,.int .i64 (opE op (dJ (iJ l fs d) ks n).1).k,.int .i64 (opE op (dJ (iJ l fs d) ks n).1).n,.string (opE op (dJ (iJ l fs d) ks n).1).s,.string (opE op (dJ (iJ l fs d) ks n).1).nm,.slice (sA u) (sN u) (sC u)]∧cs'=[sl,.int .i64 (((dJ (iJ l fs d) ks n).2:Nat):Int)]∧IsArgs h' (opE op (dJ (iJ l fs d) ks n).1) (.slice (sA u) (sN u) (sC u))):=by
 obtain ⟨A,cap,rfl,hc1,hc2,-⟩:=hkv.form
 rw [List.length_map] at hc1 hkv ⊢
 have hm:∀ b∈[g],b∈m:=fun b hb=>by simp at hb; rw [hb]; exact hg
 generalize hL:ks.length=len at *
 refine yX Tryz.func86 (c:=Tryz.f86.body.getD .skip) (N:=32) ?_
 intro hbx hbad Q hQ a w hJ
 replace hJ:K ⟨32,h.w,h.bad,[g]⟩ [(0,Vi op),(1,.slice A len cap),(2,Vp b4),(3,Vp b6),(4,Vp b7)] [.box g [sl,Vi (n:Int)]] [] h a w:=hJ.tw
 replace hJ:=hJ.fact (f4.sees (Sees.refl _))
 replace hJ:=hJ.fact (f6.sees (Sees.refl _))
 replace hJ:=hJ.fact (f7.sees (Sees.refl _))
 replace hJ:=hJ.nilrow 41 6
 refine rk' hJ false 22 [.own,.own,.b 0 0] [] (.new fun b1=>.new fun b2=>.f (.code [0,1,0,1,1]) [.block 0,.seq [1,1,1]] [2,3,4] [(7,Vp b1),(8,Vp b2),(13,.slice A len cap),(14,Vi (len:Int)),(15,Vi 0)] [.box b2 [Vi op,Vi 0,Vi 0,Ve,Ve,Vz],.box b1 [Vi 0,Vi 0,Vi 0,Ve,Ve,Vz],.row (Vz) 41 6 ([]),.box g [sl,Vi (n:Int)]] [.o 0,.o 1,.o 2]) (hr:=fun b1 b2 _=>by kernel_rfl) ?_
 clear hJ a w; intro b1 b2 a w hJ
 refine eY (fun (k:Nat) a w=>∃ (h3:Vw) (v:Value) (vs:List Value),K ⟨32,h.w,h.bad,[g]⟩ [(2,Vp b4),(3,Vp b6),(4,Vp b7),(7,Vp b1),(8,Vp b2),(13,.slice A len cap),(14,Vi (len:Int)),(15,Vi (k:Int))] [.box b2 [Vi op,Vi 0,Vi 0,Ve,Ve,v],.box b1 [Vi 0,Vi 0,Vi 0,Ve,Ve,Vz],.row v 41 6 (sK (dJ (iJ l fs d) (ks.take k) n).1 vs),.box g [sl,Vi (((dJ (iJ l fs d) (ks.take k) n).2:Nat):Int)]] [(b7,0,[Vi ((d + 1:Nat):Int)]),(b6,0,[fv]),(b4,0,[Vp g])] h3 a w∧Sees h h3∧(k≤len)∧(AllArgs h3 (dJ (iJ l fs d) (ks.take k) n).1 vs)) (fun k=>len - k) (0) ⟨h,(Vz),[],hJ.tw,Sees.refl _,Nat.zero_le _,by unfold dJ AllArgs; rfl⟩ ?_
 clear hJ a w; rintro k a w ⟨h3,v,vs,hJ,s4,hk,hvs⟩
 refine rk' hJ false 6 [] [] (.k (.code [0,1,0,0,1,0,1,1]) [.seq [1,1,0,0,1,0,1,1]] [2,3,4,7,8,13,14,15] [(16,.bool (decide ((k:Int) < (len:Int))))]) ?_
 clear hJ a w; intro a w hJ
 have hle:=manyE_le (genE_le l fs d) (ks.take k) n
 rcases (by omega:k < len∨len=k) with hlt | hke
 ·obtain ⟨kk,hkk⟩:∃ x,ks[k]?=some x:=⟨_,List.getElem?_eq_getElem (by omega)⟩
  have hki:(uQ ks)[k]?=some [.int .i64 kk]:=by rw [List.getElem?_map,hkk]; rfl
  obtain ⟨q1,q2⟩:=hk1 kk (List.mem_of_getElem? hkk)
  have hms:=manyE_snoc (iJ l fs d) kk (ks.take k) n
  rw [← pX ks k kk hkk] at hms
  have hlt2:(ks.take k).length * bnd d≤2 * bnd d:=Nat.mul_le_mul_right _ (by rw [List.length_take]; omega)
  have hvl:=hvs.len
  have hxl:(dJ (iJ l fs d) (ks.take k) n).1.length≤k:=by
   have:∀ (one:Int→Nat→Ex × Nat) (l:List Int) (n:Nat),(dJ one l n).1.length=l.length:=by
    intro one l
    induction l with
    | nil=>intro n; rfl
    | cons x l ih=>intro n; show ((dJ one l (one x n).2).1.length + 1)=l.length + 1; rw [ih]
   rw [this,List.length_take]; omega
  generalize dJ (iJ l fs d) (ks.take k) n=p at *
  have hIH:=fun H m' hr' hf' hg'=>IH g sl p.2 kk fv m' H hr' (by omega) q1 q2 hf' hg'
  generalize iJ l fs d kk p.2=q at *
  have hrl:=tK hvl
  refine kY hJ (t:=decide ((k:Int) < (len:Int))) (decide_eq_true (by omega)) ?_
  refine rk' hJ false 6 [] [] (.k (.ops [0,0,0,1,1,0,0,1,0,1,1] 0) [.seq [1,0,0,1,1,0,0,1,0,1,1],.block 1,.seq [1,1,1,0,0,1,0,1,1]] [2,3,4,7,8,13,14,15] []) ?_
  clear hJ a w; intro a w hJ
  obtain ⟨b5,o6,rfl,-,c7⟩:=RS.row hkv (hki)
  replace hJ:=hJ.fact (c7.sees s4)
  refine rk' hJ false 5 [.ix b5 o6 len cap k,.f 0 0] [] (.k (.code [1,0,0,1,1,0,0,1,0,1,1]) [.block 1,.seq [1,1,1,0,0,1,0,1,1]] [2,3,4,7,8,13,14,15] [(10,Vi kk)]) (ho:=And.intro (by first | omega | (simp; omega)) (trivial)) ?_
  clear hJ a w; intro a w hJ
  let R:Reg:=⟨⟨32,h.w,h.bad,[g]⟩,[(0,19,fun gh=>.pointer (some ⟨b2,5,none⟩)),(1,20,fun gh=>v),(2,21,fun gh=>Vp g),(3,22,fun gh=>Vi kk),(4,23,fun gh=>fv),(5,24,fun gh=>Vi ((d + 1:Nat):Int)),(6,25,fun gh=>Vi (d:Int)),(7,26,fun gh=>.agg #[Vi q.1.op,Vi q.1.k,Vi q.1.n,.string q.1.s,.string q.1.nm,.slice (sA (gh 7)) (sN (gh 7)) (sC (gh 7))]),(8,27,fun gh=>.slice (some ⟨(zJ (gh 8)),0,none⟩) 1 1),(9,28,fun gh=>.slice (sA (gh 9)) (sN (gh 9)) (sC (gh 9))),(10,29,fun gh=>.pointer (some ⟨b2,5,none⟩))],[(2,Vp b4),(3,Vp b6),(4,Vp b7),(7,Vp b1),(8,Vp b2),(13,.slice (some ⟨b5,o6,none⟩) len cap),(14,Vi (len:Int)),(15,Vi (k:Int)),(10,Vi kk)],[⟨some (.box b2 [Vi op,Vi 0,Vi 0,Ve,Ve,v]),[(11,fun gh=>.box b2 [Vi op,Vi 0,Vi 0,Ve,Ve,.slice (sA (gh 9)) (sN (gh 9)) (sC (gh 9))])]⟩,⟨some (.box b1 [Vi 0,Vi 0,Vi 0,Ve,Ve,Vz]),[]⟩,⟨some (.row v 41 6 (sK (p).1 vs)),[(9,fun gh=>.row (.slice (sA (gh 9)) (sN (gh 9)) (sC (gh 9))) 41 6 ((sK (p).1 vs)++[[Vi q.1.op,Vi q.1.k,Vi q.1.n,.string q.1.s,.string q.1.nm,.slice (sA (gh 7)) (sN (gh 7)) (sC (gh 7))]]))]⟩,⟨some (.box g [sl,Vi (((p).2:Nat):Int)]),[(7,fun gh=>.box g [sl,Vi ((q.2:Nat):Int)])]⟩],[(7,fun gh hh=>IsArgs hh q.1 (.slice (sA (gh 7)) (sN (gh 7)) (sC (gh 7)))),(8,fun gh hh=>Cells hh (zJ (gh 8)) 0 [Vi q.1.op,Vi q.1.k,Vi q.1.n,.string q.1.s,.string q.1.nm,.slice (sA (gh 7)) (sN (gh 7)) (sC (gh 7))])],[[],[0],[],[],[],[],[5],[2,3,4,5,6],[2,3,4,5,6,7],[0,1,2,3,4,5,6,7,8],[0,1,2,3,4,5,6,7,8,9],[0,1,2,3,4,5,6,7,8,9,10]],h3⟩
  have hmono:∀ zq∈R.F,∀ zx zh zi,Sees zh zi→zq.2 zx zh→zq.2 zx zi:=eV (fun _ _ _ s c=>c.sees s) (eV (fun _ _ _ s c=>c.sees s) (lJ))
  refine iY (by kernel_rfl) R hJ 12 [.pu,.ld 0 5,.lf 3 0,.pu,.lf 2 0,.lf 1 0,.cl,.cl,.cl,.cl,.pu,.st 0 5] (by kernel_rfl) hmono (fun _ _ _=>by kernel_rfl) (fun hT hA=>?_) ?_
  ·clear hJ
   refine And.intro (pW hT hA 25 (fun gh=>Vi (d:Int)) [5] 6 (fun gh w=>dX (v0:=Vi (IntKind.i64.wrap (((d + 1:Nat):Int) - 1))) (by kernel_rfl) (dec_wrap d (by omega)))) ?_
   refine And.intro (r_call1 hT hA hmono ⟨fun _ _=>by kernel_rfl,fun _ _=>by kernel_rfl,fun _ _=>by kernel_rfl⟩ 26 (fun u=>.agg #[Vi q.1.op,Vi q.1.k,Vi q.1.n,.string q.1.s,.string q.1.nm,.slice (sA u) (sN u) (sC u)]) [2,3,4,6] 7 (by kernel_rfl) (fun _=>by kernel_rfl) 3 ⟨some (.box g [sl,Vi (((p).2:Nat):Int)]),[(7,fun gh=>.box g [sl,Vi ((q.2:Nat):Int)])]⟩ (by kernel_rfl) (by kernel_rfl) (by kernel_rfl) g (fun gh=>[sl,Vi (((p).2:Nat):Int)]) (fun gh=>[sl,Vi ((q.2:Nat):Int)]) (fun _=>by kernel_rfl) (fun _=>by kernel_rfl) 55 (fun gh=>#[Vp g,Vi kk,fv,Vi (d:Int)]) (fun _ _=>by kernel_rfl) (fun gh H sH fH lent=>C1.facts (R:=R) (x:=gh) (N':=fun gh=>[sl,Vi ((q.2:Nat):Int)]) (i:=7) (n:=0) (F:=(fun u=>.agg #[Vi q.1.op,Vi q.1.k,Vi q.1.n,.string q.1.s,.string q.1.nm,.slice (sA u) (sN u) (sC u)])) (N:=fun u=>[sl,Vi ((q.2:Nat):Int)]) (G:=fun u hh=>IsArgs hh q.1 (.slice (sA u) (sN u) (sC u))) (f:=fun gh hh=>IsArgs hh q.1 (.slice (sA (gh 7)) (sN (gh 7)) (sC (gh 7)))) (by obtain ⟨m',hgm,sm⟩:=lent m hm; exact hIH H m' (hr.sees (s4.trans sH)) (hf.sees sm) hgm) (by kernel_rfl) (by kernel_rfl) (fun _=>by kernel_rfl) (fun _ _ r=>r))) ?_
   refine And.intro (r_fact hT hA hmono ⟨fun _ _=>by kernel_rfl,fun _ _=>by kernel_rfl,fun _ _=>by kernel_rfl⟩ 27 (fun g=>Vs g 1 1) [7] 8 (by kernel_rfl) (by kernel_rfl) (fun _=>by kernel_rfl) (fun gh=>[Vi q.1.op,Vi q.1.k,Vi q.1.n,.string q.1.s,.string q.1.nm,.slice (sA (gh 7)) (sN (gh 7)) (sC (gh 7))]) 41 (fun _ _=>by kernel_rfl) (fun gh zb zH zc zj zq zhq zhe=>own_fact (i:=8) (k:=1) (f:=fun gh hh=>Cells hh (zJ (gh 8)) 0 [Vi q.1.op,Vi q.1.k,Vi q.1.n,.string q.1.s,.string q.1.nm,.slice (sA (gh 7)) (sN (gh 7)) (sC (gh 7))]) (by kernel_rfl) (by kernel_rfl) zc zj zq zhq zhe)) ?_
   refine And.intro (nW hT hA hmono ⟨fun _ _=>by kernel_rfl,fun _ _=>by kernel_rfl,fun _ _=>by kernel_rfl⟩ 28 [1,7,8] 9 2 ⟨some (.row v 41 6 (sK (p).1 vs)),[(9,fun gh=>.row (.slice (sA (gh 9)) (sN (gh 9)) (sC (gh 9))) 41 6 ((sK (p).1 vs)++[[Vi q.1.op,Vi q.1.k,Vi q.1.n,.string q.1.s,.string q.1.nm,.slice (sA (gh 7)) (sN (gh 7)) (sC (gh 7))]]))]⟩ (fun gh=>v) 39 41 6 (fun gh=>sK (p).1 vs) (fun gh=>[[Vi q.1.op,Vi q.1.k,Vi q.1.n,.string q.1.s,.string q.1.nm,.slice (sA (gh 7)) (sN (gh 7)) (sC (gh 7))]]) (.tmp 20) (.tmp 27) (fun gh=>(zJ (gh 8))) 1 1 1 8 (fun gh hh=>Cells hh (zJ (gh 8)) 0 [Vi q.1.op,Vi q.1.k,Vi q.1.n,.string q.1.s,.string q.1.nm,.slice (sA (gh 7)) (sN (gh 7)) (sC (gh 7))]) (fun _ _ c=>c) Tryz.underlying39 (zv:=.agg #[Vi 0,Vi 0,Vi 0,Ve,Ve,Vz]) (bytes:=80) (fun _=>by constructor <;> (rw [hrl]; omega))) ?_
   trivial
  clear hJ a w; intro gh h10 a w sR hJ1 hF; have s11:Sees h3 h10:=sR; clear sR
  have hJ:K ⟨32,h.w,h.bad,[g]⟩ [(2,Vp b4),(3,Vp b6),(4,Vp b7),(7,Vp b1),(8,Vp b2),(13,.slice (some ⟨b5,o6,none⟩) len cap),(14,Vi (len:Int)),(15,Vi (k:Int))] [.box b2 [Vi op,Vi 0,Vi 0,Ve,Ve,.slice (sA (gh 9)) (sN (gh 9)) (sC (gh 9))],.box b1 [Vi 0,Vi 0,Vi 0,Ve,Ve,Vz],.row (.slice (sA (gh 9)) (sN (gh 9)) (sC (gh 9))) 41 6 ((sK (p).1 vs)++[[Vi q.1.op,Vi q.1.k,Vi q.1.n,.string q.1.s,.string q.1.nm,.slice (sA (gh 7)) (sN (gh 7)) (sC (gh 7))]]),.box g [sl,Vi ((q.2:Nat):Int)]] [(b5,o6 + k * 1,[Vi kk]),(b7,0,[Vi ((d + 1:Nat):Int)]),(b6,0,[fv]),(b4,0,[Vp g])] h10 a w:=hJ1.tw
  have f26:IsArgs h10 q.1 (.slice (sA (gh 7)) (sN (gh 7)) (sC (gh 7))):=Reg.fact (i:=7) (f:=fun gh hh=>IsArgs hh q.1 (.slice (sA (gh 7)) (sN (gh 7)) (sC (gh 7)))) hF 0 (by kernel_rfl)
  have f8:Cells h10 (zJ (gh 8)) 0 [Vi q.1.op,Vi q.1.k,Vi q.1.n,.string q.1.s,.string q.1.nm,.slice (sA (gh 7)) (sN (gh 7)) (sC (gh 7))]:=Reg.fact (i:=8) (f:=fun gh hh=>Cells hh (zJ (gh 8)) 0 [Vi q.1.op,Vi q.1.k,Vi q.1.n,.string q.1.s,.string q.1.nm,.slice (sA (gh 7)) (sN (gh 7)) (sC (gh 7))]) hF 1 (by kernel_rfl)
  replace hJ:=hJ.fact f8
  clear hJ1 hF hmono R
  generalize gh 7=u26 at *
  generalize zJ (gh 8)=b9 at *
  generalize gh 9=v28 at *
  clear gh
  refine rk' hJ false 6 [] [(30,Vi (IntKind.i64.wrap ((k:Int) + 1)),Vi ((k:Int) + 1))] (.k (.out .normal) [] [2,3,4,7,8,13,14] [(15,Vi ((k:Int) + 1))]) (hc:=And.intro (kJ (by omega) (by omega)) (trivial)) ?_
  clear hJ a w; intro a w hJ
  exact jY ⟨k + 1,⟨h10,.slice (sA v28) (sN v28) (sC v28),vs++[.slice (sA u26) (sN u26) (sC u26)],(hJ.tof [2,3,4] (F':=[(b7,0,[Vi ((d + 1:Nat):Int)]),(b6,0,[fv]),(b4,0,[Vp g])]) (by kernel_rfl)).to (by kernel_rfl) (by rw [hms,exRows_snoc hvl]) rfl,(s4.trans s11),by omega,by rw [hms]; exact AllArgs.snoc f26 (hvs.sees s11)⟩,by omega⟩
 ·skip
  have htk:ks.take k=ks:=by rw [← hke,← hL,List.take_length]
  rw [htk] at hJ hvs
  obtain ⟨A2,c2,hE_v,hc_v,hm_v⟩:=hJ.form (v:=v) (e:=41) (k:=6) (l:=sK (dJ (iJ l fs d) ks n).1 vs) 2 (by kernel_rfl)
  rw [hE_v] at hJ
  refine aY hJ (t:=decide ((k:Int) < (len:Int))) (decide_eq_false (by omega)) ?_
  refine rk' hJ false 2 [] [] (.k (.out (.exit 0)) [] [7,8] []) ?_
  clear hJ a w; intro a w hJ
  refine dY rfl ?_
  refine rk' hJ false 9 [.b 0 0,.b 1 0] [] (.f (.out .ret) [] [7] [] [.box b2 [Vi op,Vi 0,Vi 0,Ve,Ve,.slice A2 ((sK (dJ (iJ l fs d) ks n).1 vs).length) c2],.box b1 [Vi op,Vi 0,Vi 0,Ve,Ve,.slice A2 ((sK (dJ (iJ l fs d) ks n).1 vs).length) c2],.row (.slice A2 ((sK (dJ (iJ l fs d) ks n).1 vs).length) c2) 41 6 (sK (dJ (iJ l fs d) ks n).1 vs),.box g [sl,Vi (((dJ (iJ l fs d) ks n).2:Nat):Int)]] [.o 0,.o 1,.o 2]) ?_
  clear hJ a w; intro a w hJ
  have fr:=hJ.j.rowOut1 (v:=.slice A2 ((sK (dJ (iJ l fs d) ks n).1 vs).length) c2) (e:=41) (k:=6) (l:=sK (dJ (iJ l fs d) ks n).1 vs) (g:=g) (cs:=[sl,Vi (((dJ (iJ l fs d) ks n).2:Nat):Int)]) 2 3 (by kernel_rfl) (by kernel_rfl) (by kernel_rfl) rfl
  refine zX (hQ [.agg #[Vi op,Vi 0,Vi 0,Ve,Ve,.slice A2 ((sK (dJ (iJ l fs d) ks n).1 vs).length) c2]] _ [(g,[sl,Vi (((dJ (iJ l fs d) ks n).2:Nat):Int)])] hJ (.rcel hJ.j 1 .nil) (xJ (by kernel_rfl)) rfl ?_).1
  exact ⟨_,rfl,.slice A2 (sK (dJ (iJ l fs d) ks n).1 vs).length c2,rfl,rfl,IsArgs.mk (x:=opE op (dJ (iJ l fs d) ks n).1) fr (hvs.sees hJ.j.out)⟩
end Go.Proofs.YthckljafinhepaaGreat
namespace Go.Proofs.YthckljafinhepaaGreat
open Go.RowKit
theorem genE_leaf {l:List RawD} {fs:List Fd} {d:Nat} {kind:Int} {n:Nat} (h:cJ (aJ l n).k 3=0):iJ l fs (d + 1) kind n=(aV (aJ l (bJ l n)) fs kind,bJ l (bJ l n)):=by
 show (if _ then _ else _)=_
 rw [if_pos h]
theorem pQ {l:List RawD} {fs:List Fd} {d:Nat} {kind op:Int} {ks:List Int} {n:Nat} (h:cJ (aJ l n).k 3≠0) (hp:iW (aJ l n) kind=(op,ks)):iJ l fs (d + 1) kind n=(opE op (dJ (iJ l fs d) ks (bJ l n)).1,(dJ (iJ l fs d) ks (bJ l n)).2):=by
 show (if _ then _ else _)=_
 rw [if_neg h,hp]
theorem zW {h:Vw} {b:Nat} (ks:List Int) (hm:ks.length≤maxLen) (c:Cells h b 0 (uQ ks).flatten):RS h 1 (.slice (some ⟨b,0,none⟩) ks.length ks.length) (uQ ks):=by
 have:=rs_cells (k:=1) (uQ ks) (fun r hr=>by obtain ⟨x,-,rfl⟩:=List.mem_map.1 hr; rfl) (by simpa using hm) c
 simpa using this
theorem uK {h:Vw} {sl:Value} {p q:Ex × Nat} (e:p=q) {u:Value} {v:Value} {cs:List Value} (hv:v=.agg #[.int .i64 q.1.op,.int .i64 q.1.k,.int .i64 q.1.n,.string q.1.s,.string q.1.nm,.slice (sA u) (sN u) (sC u)]) (hc:cs=[sl,.int .i64 ((q.2:Nat):Int)]) (ha:IsArgs h q.1 (.slice (sA u) (sN u) (sC u))) :
  ∃ cs',[cs]=[cs']∧∃ u,v=.agg #[.int .i64 p.1.op,.int .i64 p.1.k,.int .i64 p.1.n,.string p.1.s,.string p.1.nm,.slice (sA u) (sN u) (sC u)]∧cs'=[sl,.int .i64 ((p.2:Nat):Int)]∧IsArgs h p.1 (.slice (sA u) (sN u) (sC u)):=by
 subst e
 exact ⟨cs,rfl,u,hv,hc,ha⟩
theorem leaf_args (r:RawD) (fs:List Fd) (kind:Int):(aV r fs kind).args=[]:=by
 unfold aV
 repeat' split
 all_goals rfl
theorem expr_zero (l:List RawD) (fs:List Fd) (hlen:l.length * 40≤reachBytes) (hok:∀ r∈l,r.ok) (hfs:fs.length≤100):ExprC l fs 0:=by
 intro g sl n kind fv m h hr hn h1 h3 hf hg
 have hm:∀ b∈[g],b∈m:=fun b hb=>by simp at hb; rw [hb]; exact hg
 obtain ⟨A,nf,cap,rfl⟩:∃ A nf cap,fv=.slice A nf cap:=by obtain ⟨vs,hrs,-⟩:=hf; obtain ⟨A,c,e,-⟩:=hrs.form; exact ⟨A,_,c,e⟩
 have hat:=yJ l n
 have hb:bnd 0=2:=rfl
 refine yX Tryz.func55 (c:=Tryz.f55.body.getD .skip) (N:=98) ?_
 intro hbx hbad Q hQ a w hJ
 refine rk' hJ true 11 [.fix,.fix,.fix,.own,.f 2 0] [] (.new fun b1=>.new fun b2=>.new fun b3=>.new fun b4=>.m (.ops [0,1] 1) [.seq [1,1]] [1] [(4,Vp b1),(6,Vp b2),(7,Vp b3),(8,Vp b4),(14,Vp g)] [.box b4 [Vi 0,Vi 0,Vi 0,Ve,Ve,Vz],.box g [sl,Vi (n:Int)]] [(b3,0,[Vi ((0:Nat):Int)]),(b2,0,[.slice A nf cap]),(b1,0,[Vp g])]) (hr:=fun b1 b2 b3 b4 _=>by kernel_rfl) ?_
 clear hJ a w; intro b1 b2 b3 b4 h5 a w s6 hJ
 refine xX hJ 15 1 (qQ g l sl n _ (hr.sees (s6.trans hJ.j.sees)) (by omega) hlen) ?_; clear hJ a w; rintro _ _ h7 a w s8 ⟨rfl,rfl⟩ hJ
 refine rx' hJ false 23 [.own,.b 0 0,.f 0 0,.f 2 0,.f 1 0] [(17,.bool (decide (((0:Nat):Int)≤0)),.bool true)] (.new fun b9=>.ok (.ops [0,0,1,0,1,1] 3) [.seq [1,0,1,0,1,1],.seq [1,1,1]] [(8,Vp b4),(24,Vp g),(25,Vi kind),(26,.slice A nf cap)] [.box b9 [Vi ((aJ l n).k),Vi ((aJ l n).a),Vi ((aJ l n).b),.string ((aJ l n).t)],.box b4 [Vi 0,Vi 0,Vi 0,Ve,Ve,Vz],.box g [sl,Vi ((bJ l n:Nat):Int)]] [(b3,0,[Vi ((0:Nat):Int)]),(b2,0,[.slice A nf cap]),(b1,0,[Vp g])]) (hc:=And.intro (rfl) (trivial)) (fun b9 _=>by kernel_rfl) ?_
 clear hJ a w; intro b9 a w hJ
 refine xX hJ 27 2 (leaf_any g l sl (bJ l n) kind fs _ _ _ (hr.sees (s6.trans (s8.trans hJ.j.sees))) (by omega) hlen hok h1 h3 (hf.sees (hJ.j.lent hm)) hfs (List.mem_append_right _ hg)) ?_; clear hJ a w; rintro _ _ h10 a w s11 ⟨rfl,rfl⟩ hJ
 refine rk' hJ false 5 [.b 1 0] [] (.f (.out .ret) [] [8] [] [.box b9 [Vi ((aJ l n).k),Vi ((aJ l n).a),Vi ((aJ l n).b),.string ((aJ l n).t)],.box b4 [Vi ((aV (aJ l (bJ l n)) fs kind).op),Vi ((aV (aJ l (bJ l n)) fs kind).k),Vi ((aV (aJ l (bJ l n)) fs kind).n),.string ((aV (aJ l (bJ l n)) fs kind).s),.string ((aV (aJ l (bJ l n)) fs kind).nm),Vz],.box g [sl,Vi ((bJ l (bJ l n):Nat):Int)]] [.o 0,.o 1,.o 2]) ?_
 clear hJ a w; intro a w hJ
 refine zX (hQ [.agg #[Vi ((aV (aJ l (bJ l n)) fs kind).op),Vi ((aV (aJ l (bJ l n)) fs kind).k),Vi ((aV (aJ l (bJ l n)) fs kind).n),.string ((aV (aJ l (bJ l n)) fs kind).s),.string ((aV (aJ l (bJ l n)) fs kind).nm),Vz]] _ [(g,[sl,Vi ((bJ l (bJ l n):Nat):Int)])] hJ (.rcel hJ.j 1 .nil) (xJ (by kernel_rfl)) rfl ?_).1
 exact uK (u:=Vz) (show iJ l fs 0 kind n=_ from rfl) rfl rfl (args_nil _ _ (leaf_args _ _ _))
set_option maxHeartbeats 4000000 in
theorem expr_succ (l : List RawD) (fs : List Fd) (hlen : l.length * 40 ≤ reachBytes) (hok : ∀ r ∈ l, r.ok) (hfs : fs.length ≤ 100) (d : Nat) (hd : d < 1000) (IH : ExprC l fs d) : ExprC l fs (d + 1) := by
  intro g sl n kind fv m h hr hn h1 h3 hf hg
  have hm : ∀ b ∈ [g], b ∈ m := fun b hb => by simp at hb; rw [hb]; exact hg
  obtain ⟨A, nf, cap, rfl⟩ : ∃ A nf cap, fv = .slice A nf cap := by obtain ⟨vs, hrs, -⟩ := hf; obtain ⟨A, c, e, -⟩ := hrs.form; exact ⟨A, _, c, e⟩
  have hat := yJ l n
  have hbd : bnd (d + 1) = 1 + 3 * bnd d := rfl
  have hb2 : 2 ≤ bnd d := by
    cases d with
    | zero => exact Nat.le_refl _
    | succ d => show 2 ≤ 1 + 3 * bnd d; have : 1 ≤ bnd d := by cases d with | zero => decide | succ d => show 1 ≤ 1 + _; omega
                omega
  obtain ⟨⟨k0, k1⟩, ⟨a0, a1⟩, ⟨rb0, rb1⟩, -⟩ := rawAt_ok hok n
  have hd0 : decide (((d + 1 : Nat) : Int) ≤ 0) = false := decide_eq_false (by omega)
  have many := many_any l fs d hd IH g sl (bJ l n)
  have hq7 := lW (aJ l n).b 7 (by omega)
  have hq3 := lW (aJ l n).a 3 (by omega)
  have pa3 := cK (aJ l n).a 3
  have pb7 := cK (aJ l n).b 7
  refine yX Tryz.func55 (c := Tryz.f55.body.getD .skip) (N := 98) ?_
  intro hbx hbad Q hQ a w hJ
  refine rk' hJ true 11 [.fix, .fix, .fix, .own, .f 2 0] [] (.new fun bf4 => .new fun bf8 => .new fun bf12 => .new fun b1 => .m (.ops [0, 1] 1) [.seq [1, 1]] [1] [(4, Vp bf4), (6, Vp bf8), (7, Vp bf12), (8, Vp b1), (14, Vp g)] [.box b1 [Vi 0, Vi 0, Vi 0, Ve, Ve, Vz], .box g [sl, Vi (n : Int)]] [(bf12, 0, [Vi ((d + 1 : Nat) : Int)]), (bf8, 0, [.slice A nf cap]), (bf4, 0, [Vp g])]) (hr := fun bf4 bf8 bf12 b1 _ => by kernel_rfl) ?_
  clear hJ a w; intro bf4 bf8 bf12 b1 h2 a w s3 hJ
  have f4 : Cells h2 bf4 0 [Vp g] := hJ.f _ (List.mem_of_getElem? (i := 2) rfl)
  have f8 : Cells h2 bf8 0 [.slice A nf cap] := hJ.f _ (List.mem_of_getElem? (i := 1) rfl)
  have f12 : Cells h2 bf12 0 [Vi ((d + 1 : Nat) : Int)] := hJ.f _ (List.mem_of_getElem? (i := 0) rfl)
  refine xX hJ 15 1 (qQ g l sl n _ (hr.sees (s3.trans hJ.j.sees)) (by omega) hlen) ?_; clear hJ a w; rintro _ _ h4 a w s5 ⟨rfl, rfl⟩ hJ
  refine rk hJ false 17 [.own, .b 0 0, .f 0 0, .b 0 0, .cl 24 #[Vi ((aJ l n).k), Vi 3] (Vi (cJ (aJ l n).k 3))] [(17, .bool (decide (((d + 1 : Nat) : Int) ≤ 0)), .bool false)] (.new fun b6 => .f (.code [1, 0, 1, 1]) [.seq [1, 1, 1]] [1, 4, 6, 7, 8] [(9, Vp b6), (23, .bool ((cJ (aJ l n).k 3) == 0))] [.box b6 [Vi ((aJ l n).k), Vi ((aJ l n).a), Vi ((aJ l n).b), .string ((aJ l n).t)], .box b1 [Vi 0, Vi 0, Vi 0, Ve, Ve, Vz], .box g [sl, Vi ((bJ l n : Nat) : Int)]] [.o 0, .o 1, .o 2]) (And.intro (fun H sH => cK _ 3 _ k0 k1 (by omega) (by omega)) (trivial)) (And.intro (congrArg Value.bool hd0) (trivial)) (fun b6 _ => by kernel_rfl) ?_
  clear hJ a w; intro b6 a w hJ
  by_cases q3 : cJ (aJ l n).k 3 = 0
  · refine kY hJ (t := (cJ (aJ l n).k 3) == 0) (beq_iff_eq.2 q3) ?_
    refine rk' hJ false 5 [.f 2 0, .f 1 0] [] (.k (.ops [0, 0, 1, 0, 1, 1] 3) [.seq [1, 0, 1, 0, 1, 1], .seq [1, 1, 1]] [8] [(24, Vp g), (25, Vi kind), (26, .slice A nf cap)]) ?_
    clear hJ a w; intro a w hJ
    refine xX hJ 27 2 (leaf_any g l sl (bJ l n) kind fs _ _ _ (hr.sees (s3.trans (s5.trans hJ.j.sees))) (by omega) hlen hok h1 h3 (hf.sees (hJ.j.lent hm)) hfs (List.mem_append_right _ hg)) ?_; clear hJ a w; rintro _ _ h7 a w s8 ⟨rfl, rfl⟩ hJ
    refine rk' hJ false 5 [.b 1 0] [] (.f (.out .ret) [] [8] [] [.box b6 [Vi ((aJ l n).k), Vi ((aJ l n).a), Vi ((aJ l n).b), .string ((aJ l n).t)], .box b1 [Vi ((aV (aJ l (bJ l n)) fs kind).op), Vi ((aV (aJ l (bJ l n)) fs kind).k), Vi ((aV (aJ l (bJ l n)) fs kind).n), .string ((aV (aJ l (bJ l n)) fs kind).s), .string ((aV (aJ l (bJ l n)) fs kind).nm), Vz], .box g [sl, Vi ((bJ l (bJ l n) : Nat) : Int)]] [.o 0, .o 1, .o 2]) ?_
    clear hJ a w; intro a w hJ
    refine zX (hQ [.agg #[Vi ((aV (aJ l (bJ l n)) fs kind).op), Vi ((aV (aJ l (bJ l n)) fs kind).k), Vi ((aV (aJ l (bJ l n)) fs kind).n), .string ((aV (aJ l (bJ l n)) fs kind).s), .string ((aV (aJ l (bJ l n)) fs kind).nm), Vz]] _ [(g, [sl, Vi ((bJ l (bJ l n) : Nat) : Int)])] hJ (.rcel hJ.j 1 .nil) (xJ (by kernel_rfl)) rfl ?_).1
    exact uK (u := Vz) (genE_leaf q3) rfl rfl (args_nil _ _ (leaf_args _ _ _))
  · skip
    refine aY hJ (t := (cJ (aJ l n).k 3) == 0) (beq_eq_false_iff_ne.2 q3) ?_
    refine rk' hJ false 17 [.b 0 1, .cl 24 #[Vi ((aJ l n).a), Vi 6] (Vi (cJ (aJ l n).a 6))] [] (.k (.code [1, 0, 1, 1, 1, 1]) [.seq [1, 1, 1, 1, 1]] [1, 8, 9] [(10, .func (.func 86) #[] #[Vp bf4, Vp bf8, Vp bf12]), (32, .bool ((cJ (aJ l n).a 6) == 0))]) (ho := And.intro (fun H sH => cK _ 6 _ a0 a1 (by omega) (by omega)) (trivial)) ?_
    clear hJ a w; intro a w hJ
    obtain rfl | rfl | rfl : kind = 1 ∨ kind = 2 ∨ kind = 3 := by omega
    · skip
      by_cases q6 : cJ (aJ l n).a 6 = 0
      · refine kY hJ (t := (cJ (aJ l n).a 6) == 0) (beq_iff_eq.2 q6) ?_
        refine rk' hJ true 6 [.fix] [] (.new fun bfk => .g (.ops [0, 0, 1, 0, 1, 1, 1, 1] 4) [.seq [1, 0, 1, 0, 1, 1, 1, 1], .seq [1, 1, 1, 1, 1]] [8] [(33, .func (.func 86) #[] #[Vp bf4, Vp bf8, Vp bf12]), (36, Vs bfk 3 3)] [.n (bfk, 0, [Vi 2, Vi 1, Vi 1]), .o 0, .o 1, .o 2]) (hr := fun bfk _ => by kernel_rfl) ?_
        clear hJ a w; intro bfk h9 a w s10 hJ
        have fk : Cells h9 bfk 0 [Vi 2, Vi 1, Vi 1] := hJ.f _ (List.mem_of_getElem? (i := 0) rfl)
        refine xX hJ 37 2 (many 17 [2, 1, 1] _ _ _ _ _ _ _ (hr.sees (s3.trans (s5.trans (s10.trans hJ.j.sees)))) (by omega) (by simp) (by simp <;> omega) (zW [2, 1, 1] (by unfold maxLen; simp) (fk.sees hJ.j.sees)) (hf.sees (hJ.j.lent hm)) (List.mem_append_right _ hg) (f4.sees (s5.trans (s10.trans hJ.j.sees))) (f8.sees (s5.trans (s10.trans hJ.j.sees))) (f12.sees (s5.trans (s10.trans hJ.j.sees)))) ?_; clear hJ a w; rintro _ _ h11 a w s12 ⟨u, rfl, rfl, fu⟩ hJ
        refine rk' hJ false 5 [.b 1 0] [] (.f (.out .ret) [] [8] [] [.box b6 [Vi ((aJ l n).k), Vi ((aJ l n).a), Vi ((aJ l n).b), .string ((aJ l n).t)], .box b1 [Vi ((opE 17 (dJ (iJ l fs d) [2, 1, 1] (bJ l n)).1).op), Vi ((opE 17 (dJ (iJ l fs d) [2, 1, 1] (bJ l n)).1).k), Vi ((opE 17 (dJ (iJ l fs d) [2, 1, 1] (bJ l n)).1).n), .string ((opE 17 (dJ (iJ l fs d) [2, 1, 1] (bJ l n)).1).s), .string ((opE 17 (dJ (iJ l fs d) [2, 1, 1] (bJ l n)).1).nm), .slice (sA u) (sN u) (sC u)], .box g [sl, Vi (((dJ (iJ l fs d) [2, 1, 1] (bJ l n)).2 : Nat) : Int)]] [.o 0, .o 1, .o 2, .o 3]) ?_
        clear hJ a w; intro a w hJ
        refine zX (hQ [.agg #[Vi ((opE 17 (dJ (iJ l fs d) [2, 1, 1] (bJ l n)).1).op), Vi ((opE 17 (dJ (iJ l fs d) [2, 1, 1] (bJ l n)).1).k), Vi ((opE 17 (dJ (iJ l fs d) [2, 1, 1] (bJ l n)).1).n), .string ((opE 17 (dJ (iJ l fs d) [2, 1, 1] (bJ l n)).1).s), .string ((opE 17 (dJ (iJ l fs d) [2, 1, 1] (bJ l n)).1).nm), .slice (sA u) (sN u) (sC u)]] _ [(g, [sl, Vi (((dJ (iJ l fs d) [2, 1, 1] (bJ l n)).2 : Nat) : Int)])] hJ (.rcel hJ.j 1 .nil) (xJ (by kernel_rfl)) rfl ?_).1
        exact uK (pQ q3 (by unfold iW; rw [if_pos q6])) rfl rfl (fu.sees hJ.j.out)
      · skip
        obtain q7 | q7 | q7 | q7 | q7 | q7 | q7 : cJ (aJ l n).b 7 = 0 ∨ cJ (aJ l n).b 7 = 1 ∨ cJ (aJ l n).b 7 = 2 ∨ cJ (aJ l n).b 7 = 3 ∨ cJ (aJ l n).b 7 = 4 ∨ cJ (aJ l n).b 7 = 5 ∨ cJ (aJ l n).b 7 = 6 := by omega
        · skip
          rw [q7] at pb7
          refine aY hJ (t := (cJ (aJ l n).a 6) == 0) (beq_eq_false_iff_ne.2 q6) ?_
          refine rx' hJ true 41 [.b 0 2, .cl 24 #[Vi ((aJ l n).b), Vi 7] (Vi 0), .fix] [] (.new fun bfk => .ok (.ops [0, 0, 1, 0, 1, 1, 0, 1, 0, 1, 0, 1, 1, 1, 1, 1] 2) [.seq [1, 0, 1, 0, 1, 1, 0, 1, 0, 1, 0, 1, 1, 1, 1, 1], .block 1, .block 0, .seq [1, 1, 1, 1, 1, 1]] [(8, Vp b1), (55, .func (.func 86) #[] #[Vp bf4, Vp bf8, Vp bf12]), (56, Vs bfk 1 1)] [.box b6 [Vi ((aJ l n).k), Vi ((aJ l n).a), Vi ((aJ l n).b), .string ((aJ l n).t)], .box b1 [Vi 0, Vi 0, Vi 0, Ve, Ve, Vz], .box g [sl, Vi ((bJ l n : Nat) : Int)]] [(bfk, 0, [Vi 1]), (bf12, 0, [Vi ((d + 1 : Nat) : Int)]), (bf8, 0, [.slice A nf cap]), (bf4, 0, [Vp g])]) (ho := And.intro (fun H sH => pb7 _ rb0 rb1 (by omega) (by omega)) (trivial)) (fun bfk _ => by kernel_rfl) ?_
          clear hJ a w; intro bfk h13 a w s14 hJ
          have fk : Cells h13 bfk 0 [Vi 1] := hJ.f _ (List.mem_of_getElem? (i := 0) rfl)
          refine xX hJ 57 2 (many 3 [1] _ _ _ _ _ _ _ (hr.sees (s3.trans (s5.trans (s14.trans hJ.j.sees)))) (by omega) (by simp) (by simp <;> omega) (zW [1] (by unfold maxLen; simp) (fk.sees hJ.j.sees)) (hf.sees (hJ.j.lent hm)) (List.mem_append_right _ hg) (f4.sees (s5.trans (s14.trans hJ.j.sees))) (f8.sees (s5.trans (s14.trans hJ.j.sees))) (f12.sees (s5.trans (s14.trans hJ.j.sees)))) ?_; clear hJ a w; rintro _ _ h15 a w s16 ⟨u, rfl, rfl, fu⟩ hJ
          refine rk' hJ false 7 [.b 1 0] [] (.f (.out .ret) [] [8] [] [.box b6 [Vi ((aJ l n).k), Vi ((aJ l n).a), Vi ((aJ l n).b), .string ((aJ l n).t)], .box b1 [Vi ((opE 3 (dJ (iJ l fs d) [1] (bJ l n)).1).op), Vi ((opE 3 (dJ (iJ l fs d) [1] (bJ l n)).1).k), Vi ((opE 3 (dJ (iJ l fs d) [1] (bJ l n)).1).n), .string ((opE 3 (dJ (iJ l fs d) [1] (bJ l n)).1).s), .string ((opE 3 (dJ (iJ l fs d) [1] (bJ l n)).1).nm), .slice (sA u) (sN u) (sC u)], .box g [sl, Vi (((dJ (iJ l fs d) [1] (bJ l n)).2 : Nat) : Int)]] [.o 0, .o 1, .o 2, .o 3]) ?_
          clear hJ a w; intro a w hJ
          refine zX (hQ [.agg #[Vi ((opE 3 (dJ (iJ l fs d) [1] (bJ l n)).1).op), Vi ((opE 3 (dJ (iJ l fs d) [1] (bJ l n)).1).k), Vi ((opE 3 (dJ (iJ l fs d) [1] (bJ l n)).1).n), .string ((opE 3 (dJ (iJ l fs d) [1] (bJ l n)).1).s), .string ((opE 3 (dJ (iJ l fs d) [1] (bJ l n)).1).nm), .slice (sA u) (sN u) (sC u)]] _ [(g, [sl, Vi (((dJ (iJ l fs d) [1] (bJ l n)).2 : Nat) : Int)])] hJ (.rcel hJ.j 1 .nil) (xJ (by kernel_rfl)) rfl ?_).1
          exact uK (pQ q3 (by unfold iW; rw [if_neg q6, q7]; rfl)) rfl rfl (fu.sees hJ.j.out)
        · skip
          rw [q7] at pb7
          refine aY hJ (t := (cJ (aJ l n).a 6) == 0) (beq_eq_false_iff_ne.2 q6) ?_
          refine rk hJ true 48 [.b 0 2, .cl 24 #[Vi ((aJ l n).b), Vi 7] (Vi 1), .fix] [] (.new fun bfk => .g (.ops [0, 0, 1, 1, 1, 0, 1, 1, 0, 1, 0, 1, 0, 1, 1, 1, 1, 1] 2) [.seq [1, 0, 1, 1, 1, 0, 1, 1, 0, 1, 0, 1, 0, 1, 1, 1, 1, 1], .block 1, .block 0, .seq [1, 1, 1, 1, 1, 1]] [8] [(60, .func (.func 86) #[] #[Vp bf4, Vp bf8, Vp bf12]), (61, Vs bfk 1 1)] [.n (bfk, 0, [Vi 3]), .o 0, .o 1, .o 2]) (And.intro (fun H sH => pb7 _ rb0 rb1 (by omega) (by omega)) (trivial)) trivial (fun bfk _ => by kernel_rfl) ?_
          clear hJ a w; intro bfk h17 a w s18 hJ
          have fk : Cells h17 bfk 0 [Vi 3] := hJ.f _ (List.mem_of_getElem? (i := 0) rfl)
          refine xX hJ 62 2 (many 18 [3] _ _ _ _ _ _ _ (hr.sees (s3.trans (s5.trans (s18.trans hJ.j.sees)))) (by omega) (by simp) (by simp <;> omega) (zW [3] (by unfold maxLen; simp) (fk.sees hJ.j.sees)) (hf.sees (hJ.j.lent hm)) (List.mem_append_right _ hg) (f4.sees (s5.trans (s18.trans hJ.j.sees))) (f8.sees (s5.trans (s18.trans hJ.j.sees))) (f12.sees (s5.trans (s18.trans hJ.j.sees)))) ?_; clear hJ a w; rintro _ _ h19 a w s20 ⟨u, rfl, rfl, fu⟩ hJ
          refine rk' hJ false 7 [.b 1 0] [] (.f (.out .ret) [] [8] [] [.box b6 [Vi ((aJ l n).k), Vi ((aJ l n).a), Vi ((aJ l n).b), .string ((aJ l n).t)], .box b1 [Vi ((opE 18 (dJ (iJ l fs d) [3] (bJ l n)).1).op), Vi ((opE 18 (dJ (iJ l fs d) [3] (bJ l n)).1).k), Vi ((opE 18 (dJ (iJ l fs d) [3] (bJ l n)).1).n), .string ((opE 18 (dJ (iJ l fs d) [3] (bJ l n)).1).s), .string ((opE 18 (dJ (iJ l fs d) [3] (bJ l n)).1).nm), .slice (sA u) (sN u) (sC u)], .box g [sl, Vi (((dJ (iJ l fs d) [3] (bJ l n)).2 : Nat) : Int)]] [.o 0, .o 1, .o 2, .o 3]) ?_
          clear hJ a w; intro a w hJ
          refine zX (hQ [.agg #[Vi ((opE 18 (dJ (iJ l fs d) [3] (bJ l n)).1).op), Vi ((opE 18 (dJ (iJ l fs d) [3] (bJ l n)).1).k), Vi ((opE 18 (dJ (iJ l fs d) [3] (bJ l n)).1).n), .string ((opE 18 (dJ (iJ l fs d) [3] (bJ l n)).1).s), .string ((opE 18 (dJ (iJ l fs d) [3] (bJ l n)).1).nm), .slice (sA u) (sN u) (sC u)]] _ [(g, [sl, Vi (((dJ (iJ l fs d) [3] (bJ l n)).2 : Nat) : Int)])] hJ (.rcel hJ.j 1 .nil) (xJ (by kernel_rfl)) rfl ?_).1
          exact uK (pQ q3 (by unfold iW; rw [if_neg q6, q7]; rfl)) rfl rfl (fu.sees hJ.j.out)
        · skip
          rw [q7] at pb7
          refine aY hJ (t := (cJ (aJ l n).a 6) == 0) (beq_eq_false_iff_ne.2 q6) ?_
          refine rk hJ true 53 [.b 0 2, .cl 24 #[Vi ((aJ l n).b), Vi 7] (Vi 2), .fix, .pu, .f 0 0, .fix] [] (.new fun b21 => .new fun bfk => .g (.ops [0, 1, 1, 1, 1, 0, 1, 1, 0, 1, 0, 1, 0, 1, 1, 1, 1, 1] 7) [.seq [1, 1, 1, 1, 1, 0, 1, 1, 0, 1, 0, 1, 0, 1, 1, 1, 1, 1], .block 1, .block 0, .seq [1, 1, 1, 1, 1, 1]] [8] [(45, .func (.func 86) #[] #[Vp bf4, Vp bf8, Vp bf12]), (50, Vi 5), (51, Vs bfk 2 2)] [.n (bfk, 0, [Vi 1, Vi 1]), .n (b21, 0, [Vi 5, Vi 6, Vi 7, Vi 8, Vi 9]), .o 0, .o 1, .o 2]) (And.intro (fun H sH => pb7 _ rb0 rb1 (by omega) (by omega)) (trivial)) trivial (fun b21 bfk _ => by kernel_rfl) ?_
          clear hJ a w; intro b21 bfk h22 a w s23 hJ
          have fk : Cells h22 bfk 0 [Vi 1, Vi 1] := hJ.f _ (List.mem_of_getElem? (i := 0) rfl)
          refine xX hJ 52 2 (many 5 [1, 1] _ _ _ _ _ _ _ (hr.sees (s3.trans (s5.trans (s23.trans hJ.j.sees)))) (by omega) (by simp) (by simp <;> omega) (zW [1, 1] (by unfold maxLen; simp) (fk.sees hJ.j.sees)) (hf.sees (hJ.j.lent hm)) (List.mem_append_right _ hg) (f4.sees (s5.trans (s23.trans hJ.j.sees))) (f8.sees (s5.trans (s23.trans hJ.j.sees))) (f12.sees (s5.trans (s23.trans hJ.j.sees)))) ?_; clear hJ a w; rintro _ _ h24 a w s25 ⟨u, rfl, rfl, fu⟩ hJ
          refine rk' hJ false 7 [.b 1 0] [] (.f (.out .ret) [] [8] [] [.box b6 [Vi ((aJ l n).k), Vi ((aJ l n).a), Vi ((aJ l n).b), .string ((aJ l n).t)], .box b1 [Vi ((opE 5 (dJ (iJ l fs d) [1, 1] (bJ l n)).1).op), Vi ((opE 5 (dJ (iJ l fs d) [1, 1] (bJ l n)).1).k), Vi ((opE 5 (dJ (iJ l fs d) [1, 1] (bJ l n)).1).n), .string ((opE 5 (dJ (iJ l fs d) [1, 1] (bJ l n)).1).s), .string ((opE 5 (dJ (iJ l fs d) [1, 1] (bJ l n)).1).nm), .slice (sA u) (sN u) (sC u)], .box g [sl, Vi (((dJ (iJ l fs d) [1, 1] (bJ l n)).2 : Nat) : Int)]] [.o 0, .o 1, .o 2, .o 3, .o 4]) ?_
          clear hJ a w; intro a w hJ
          refine zX (hQ [.agg #[Vi ((opE 5 (dJ (iJ l fs d) [1, 1] (bJ l n)).1).op), Vi ((opE 5 (dJ (iJ l fs d) [1, 1] (bJ l n)).1).k), Vi ((opE 5 (dJ (iJ l fs d) [1, 1] (bJ l n)).1).n), .string ((opE 5 (dJ (iJ l fs d) [1, 1] (bJ l n)).1).s), .string ((opE 5 (dJ (iJ l fs d) [1, 1] (bJ l n)).1).nm), .slice (sA u) (sN u) (sC u)]] _ [(g, [sl, Vi (((dJ (iJ l fs d) [1, 1] (bJ l n)).2 : Nat) : Int)])] hJ (.rcel hJ.j 1 .nil) (xJ (by kernel_rfl)) rfl ?_).1
          exact uK (pQ q3 (by unfold iW; rw [if_neg q6, q7]; rfl)) rfl rfl (fu.sees hJ.j.out)
        · skip
          rw [q7] at pb7
          refine aY hJ (t := (cJ (aJ l n).a 6) == 0) (beq_eq_false_iff_ne.2 q6) ?_
          refine rk hJ true 53 [.b 0 2, .cl 24 #[Vi ((aJ l n).b), Vi 7] (Vi 3), .fix, .pu, .f 0 1, .fix] [] (.new fun b26 => .new fun bfk => .g (.ops [0, 1, 1, 1, 1, 0, 1, 1, 0, 1, 0, 1, 0, 1, 1, 1, 1, 1] 7) [.seq [1, 1, 1, 1, 1, 0, 1, 1, 0, 1, 0, 1, 0, 1, 1, 1, 1, 1], .block 1, .block 0, .seq [1, 1, 1, 1, 1, 1]] [8] [(45, .func (.func 86) #[] #[Vp bf4, Vp bf8, Vp bf12]), (50, Vi 6), (51, Vs bfk 2 2)] [.n (bfk, 0, [Vi 1, Vi 1]), .n (b26, 0, [Vi 5, Vi 6, Vi 7, Vi 8, Vi 9]), .o 0, .o 1, .o 2]) (And.intro (fun H sH => pb7 _ rb0 rb1 (by omega) (by omega)) (trivial)) trivial (fun b26 bfk _ => by kernel_rfl) ?_
          clear hJ a w; intro b26 bfk h27 a w s28 hJ
          have fk : Cells h27 bfk 0 [Vi 1, Vi 1] := hJ.f _ (List.mem_of_getElem? (i := 0) rfl)
          refine xX hJ 52 2 (many 6 [1, 1] _ _ _ _ _ _ _ (hr.sees (s3.trans (s5.trans (s28.trans hJ.j.sees)))) (by omega) (by simp) (by simp <;> omega) (zW [1, 1] (by unfold maxLen; simp) (fk.sees hJ.j.sees)) (hf.sees (hJ.j.lent hm)) (List.mem_append_right _ hg) (f4.sees (s5.trans (s28.trans hJ.j.sees))) (f8.sees (s5.trans (s28.trans hJ.j.sees))) (f12.sees (s5.trans (s28.trans hJ.j.sees)))) ?_; clear hJ a w; rintro _ _ h29 a w s30 ⟨u, rfl, rfl, fu⟩ hJ
          refine rk' hJ false 7 [.b 1 0] [] (.f (.out .ret) [] [8] [] [.box b6 [Vi ((aJ l n).k), Vi ((aJ l n).a), Vi ((aJ l n).b), .string ((aJ l n).t)], .box b1 [Vi ((opE 6 (dJ (iJ l fs d) [1, 1] (bJ l n)).1).op), Vi ((opE 6 (dJ (iJ l fs d) [1, 1] (bJ l n)).1).k), Vi ((opE 6 (dJ (iJ l fs d) [1, 1] (bJ l n)).1).n), .string ((opE 6 (dJ (iJ l fs d) [1, 1] (bJ l n)).1).s), .string ((opE 6 (dJ (iJ l fs d) [1, 1] (bJ l n)).1).nm), .slice (sA u) (sN u) (sC u)], .box g [sl, Vi (((dJ (iJ l fs d) [1, 1] (bJ l n)).2 : Nat) : Int)]] [.o 0, .o 1, .o 2, .o 3, .o 4]) ?_
          clear hJ a w; intro a w hJ
          refine zX (hQ [.agg #[Vi ((opE 6 (dJ (iJ l fs d) [1, 1] (bJ l n)).1).op), Vi ((opE 6 (dJ (iJ l fs d) [1, 1] (bJ l n)).1).k), Vi ((opE 6 (dJ (iJ l fs d) [1, 1] (bJ l n)).1).n), .string ((opE 6 (dJ (iJ l fs d) [1, 1] (bJ l n)).1).s), .string ((opE 6 (dJ (iJ l fs d) [1, 1] (bJ l n)).1).nm), .slice (sA u) (sN u) (sC u)]] _ [(g, [sl, Vi (((dJ (iJ l fs d) [1, 1] (bJ l n)).2 : Nat) : Int)])] hJ (.rcel hJ.j 1 .nil) (xJ (by kernel_rfl)) rfl ?_).1
          exact uK (pQ q3 (by unfold iW; rw [if_neg q6, q7]; rfl)) rfl rfl (fu.sees hJ.j.out)
        · skip
          rw [q7] at pb7
          refine aY hJ (t := (cJ (aJ l n).a 6) == 0) (beq_eq_false_iff_ne.2 q6) ?_
          refine rk hJ true 53 [.b 0 2, .cl 24 #[Vi ((aJ l n).b), Vi 7] (Vi 4), .fix, .pu, .f 0 2, .fix] [] (.new fun b31 => .new fun bfk => .g (.ops [0, 1, 1, 1, 1, 0, 1, 1, 0, 1, 0, 1, 0, 1, 1, 1, 1, 1] 7) [.seq [1, 1, 1, 1, 1, 0, 1, 1, 0, 1, 0, 1, 0, 1, 1, 1, 1, 1], .block 1, .block 0, .seq [1, 1, 1, 1, 1, 1]] [8] [(45, .func (.func 86) #[] #[Vp bf4, Vp bf8, Vp bf12]), (50, Vi 7), (51, Vs bfk 2 2)] [.n (bfk, 0, [Vi 1, Vi 1]), .n (b31, 0, [Vi 5, Vi 6, Vi 7, Vi 8, Vi 9]), .o 0, .o 1, .o 2]) (And.intro (fun H sH => pb7 _ rb0 rb1 (by omega) (by omega)) (trivial)) trivial (fun b31 bfk _ => by kernel_rfl) ?_
          clear hJ a w; intro b31 bfk h32 a w s33 hJ
          have fk : Cells h32 bfk 0 [Vi 1, Vi 1] := hJ.f _ (List.mem_of_getElem? (i := 0) rfl)
          refine xX hJ 52 2 (many 7 [1, 1] _ _ _ _ _ _ _ (hr.sees (s3.trans (s5.trans (s33.trans hJ.j.sees)))) (by omega) (by simp) (by simp <;> omega) (zW [1, 1] (by unfold maxLen; simp) (fk.sees hJ.j.sees)) (hf.sees (hJ.j.lent hm)) (List.mem_append_right _ hg) (f4.sees (s5.trans (s33.trans hJ.j.sees))) (f8.sees (s5.trans (s33.trans hJ.j.sees))) (f12.sees (s5.trans (s33.trans hJ.j.sees)))) ?_; clear hJ a w; rintro _ _ h34 a w s35 ⟨u, rfl, rfl, fu⟩ hJ
          refine rx' hJ false 7 [.b 1 0] [] (.ok (.out .ret) [] [(8, Vp b1)] [.box b6 [Vi ((aJ l n).k), Vi ((aJ l n).a), Vi ((aJ l n).b), .string ((aJ l n).t)], .box b1 [Vi ((opE 7 (dJ (iJ l fs d) [1, 1] (bJ l n)).1).op), Vi ((opE 7 (dJ (iJ l fs d) [1, 1] (bJ l n)).1).k), Vi ((opE 7 (dJ (iJ l fs d) [1, 1] (bJ l n)).1).n), .string ((opE 7 (dJ (iJ l fs d) [1, 1] (bJ l n)).1).s), .string ((opE 7 (dJ (iJ l fs d) [1, 1] (bJ l n)).1).nm), .slice (sA u) (sN u) (sC u)], .box g [sl, Vi (((dJ (iJ l fs d) [1, 1] (bJ l n)).2 : Nat) : Int)]] [(bfk, 0, [Vi 1, Vi 1]), (b31, 0, [Vi 5, Vi 6, Vi 7, Vi 8, Vi 9]), (bf12, 0, [Vi ((d + 1 : Nat) : Int)]), (bf8, 0, [.slice A nf cap]), (bf4, 0, [Vp g])]) (fun _ => by kernel_rfl) ?_
          clear hJ a w; intro a w hJ
          refine zX (hQ [.agg #[Vi ((opE 7 (dJ (iJ l fs d) [1, 1] (bJ l n)).1).op), Vi ((opE 7 (dJ (iJ l fs d) [1, 1] (bJ l n)).1).k), Vi ((opE 7 (dJ (iJ l fs d) [1, 1] (bJ l n)).1).n), .string ((opE 7 (dJ (iJ l fs d) [1, 1] (bJ l n)).1).s), .string ((opE 7 (dJ (iJ l fs d) [1, 1] (bJ l n)).1).nm), .slice (sA u) (sN u) (sC u)]] _ [(g, [sl, Vi (((dJ (iJ l fs d) [1, 1] (bJ l n)).2 : Nat) : Int)])] hJ (.rcel hJ.j 1 .nil) (xJ (by kernel_rfl)) rfl ?_).1
          exact uK (pQ q3 (by unfold iW; rw [if_neg q6, q7]; rfl)) rfl rfl (fu.sees hJ.j.out)
        · skip
          rw [q7] at pb7
          refine aY hJ (t := (cJ (aJ l n).a 6) == 0) (beq_eq_false_iff_ne.2 q6) ?_
          refine rk hJ true 53 [.b 0 2, .cl 24 #[Vi ((aJ l n).b), Vi 7] (Vi 5), .fix, .pu, .f 0 3, .fix] [] (.new fun b36 => .new fun bfk => .g (.ops [0, 1, 1, 1, 1, 0, 1, 1, 0, 1, 0, 1, 0, 1, 1, 1, 1, 1] 7) [.seq [1, 1, 1, 1, 1, 0, 1, 1, 0, 1, 0, 1, 0, 1, 1, 1, 1, 1], .block 1, .block 0, .seq [1, 1, 1, 1, 1, 1]] [8] [(45, .func (.func 86) #[] #[Vp bf4, Vp bf8, Vp bf12]), (50, Vi 8), (51, Vs bfk 2 2)] [.n (bfk, 0, [Vi 1, Vi 1]), .n (b36, 0, [Vi 5, Vi 6, Vi 7, Vi 8, Vi 9]), .o 0, .o 1, .o 2]) (And.intro (fun H sH => pb7 _ rb0 rb1 (by omega) (by omega)) (trivial)) trivial (fun b36 bfk _ => by kernel_rfl) ?_
          clear hJ a w; intro b36 bfk h37 a w s38 hJ
          have fk : Cells h37 bfk 0 [Vi 1, Vi 1] := hJ.f _ (List.mem_of_getElem? (i := 0) rfl)
          refine xX hJ 52 2 (many 8 [1, 1] _ _ _ _ _ _ _ (hr.sees (s3.trans (s5.trans (s38.trans hJ.j.sees)))) (by omega) (by simp) (by simp <;> omega) (zW [1, 1] (by unfold maxLen; simp) (fk.sees hJ.j.sees)) (hf.sees (hJ.j.lent hm)) (List.mem_append_right _ hg) (f4.sees (s5.trans (s38.trans hJ.j.sees))) (f8.sees (s5.trans (s38.trans hJ.j.sees))) (f12.sees (s5.trans (s38.trans hJ.j.sees)))) ?_; clear hJ a w; rintro _ _ h39 a w s40 ⟨u, rfl, rfl, fu⟩ hJ
          refine rk' hJ false 7 [.b 1 0] [] (.f (.out .ret) [] [8] [] [.box b6 [Vi ((aJ l n).k), Vi ((aJ l n).a), Vi ((aJ l n).b), .string ((aJ l n).t)], .box b1 [Vi ((opE 8 (dJ (iJ l fs d) [1, 1] (bJ l n)).1).op), Vi ((opE 8 (dJ (iJ l fs d) [1, 1] (bJ l n)).1).k), Vi ((opE 8 (dJ (iJ l fs d) [1, 1] (bJ l n)).1).n), .string ((opE 8 (dJ (iJ l fs d) [1, 1] (bJ l n)).1).s), .string ((opE 8 (dJ (iJ l fs d) [1, 1] (bJ l n)).1).nm), .slice (sA u) (sN u) (sC u)], .box g [sl, Vi (((dJ (iJ l fs d) [1, 1] (bJ l n)).2 : Nat) : Int)]] [.o 0, .o 1, .o 2, .o 3, .o 4]) ?_
          clear hJ a w; intro a w hJ
          refine zX (hQ [.agg #[Vi ((opE 8 (dJ (iJ l fs d) [1, 1] (bJ l n)).1).op), Vi ((opE 8 (dJ (iJ l fs d) [1, 1] (bJ l n)).1).k), Vi ((opE 8 (dJ (iJ l fs d) [1, 1] (bJ l n)).1).n), .string ((opE 8 (dJ (iJ l fs d) [1, 1] (bJ l n)).1).s), .string ((opE 8 (dJ (iJ l fs d) [1, 1] (bJ l n)).1).nm), .slice (sA u) (sN u) (sC u)]] _ [(g, [sl, Vi (((dJ (iJ l fs d) [1, 1] (bJ l n)).2 : Nat) : Int)])] hJ (.rcel hJ.j 1 .nil) (xJ (by kernel_rfl)) rfl ?_).1
          exact uK (pQ q3 (by unfold iW; rw [if_neg q6, q7]; rfl)) rfl rfl (fu.sees hJ.j.out)
        · skip
          rw [q7] at pb7
          refine aY hJ (t := (cJ (aJ l n).a 6) == 0) (beq_eq_false_iff_ne.2 q6) ?_
          refine rk hJ true 53 [.b 0 2, .cl 24 #[Vi ((aJ l n).b), Vi 7] (Vi 6), .fix, .pu, .f 0 4, .fix] [] (.new fun b41 => .new fun bfk => .g (.ops [0, 1, 1, 1, 1, 0, 1, 1, 0, 1, 0, 1, 0, 1, 1, 1, 1, 1] 7) [.seq [1, 1, 1, 1, 1, 0, 1, 1, 0, 1, 0, 1, 0, 1, 1, 1, 1, 1], .block 1, .block 0, .seq [1, 1, 1, 1, 1, 1]] [8] [(45, .func (.func 86) #[] #[Vp bf4, Vp bf8, Vp bf12]), (50, Vi 9), (51, Vs bfk 2 2)] [.n (bfk, 0, [Vi 1, Vi 1]), .n (b41, 0, [Vi 5, Vi 6, Vi 7, Vi 8, Vi 9]), .o 0, .o 1, .o 2]) (And.intro (fun H sH => pb7 _ rb0 rb1 (by omega) (by omega)) (trivial)) trivial (fun b41 bfk _ => by kernel_rfl) ?_
          clear hJ a w; intro b41 bfk h42 a w s43 hJ
          have fk : Cells h42 bfk 0 [Vi 1, Vi 1] := hJ.f _ (List.mem_of_getElem? (i := 0) rfl)
          refine xX hJ 52 2 (many 9 [1, 1] _ _ _ _ _ _ _ (hr.sees (s3.trans (s5.trans (s43.trans hJ.j.sees)))) (by omega) (by simp) (by simp <;> omega) (zW [1, 1] (by unfold maxLen; simp) (fk.sees hJ.j.sees)) (hf.sees (hJ.j.lent hm)) (List.mem_append_right _ hg) (f4.sees (s5.trans (s43.trans hJ.j.sees))) (f8.sees (s5.trans (s43.trans hJ.j.sees))) (f12.sees (s5.trans (s43.trans hJ.j.sees)))) ?_; clear hJ a w; rintro _ _ h44 a w s45 ⟨u, rfl, rfl, fu⟩ hJ
          refine rk' hJ false 7 [.b 1 0] [] (.f (.out .ret) [] [8] [] [.box b6 [Vi ((aJ l n).k), Vi ((aJ l n).a), Vi ((aJ l n).b), .string ((aJ l n).t)], .box b1 [Vi ((opE 9 (dJ (iJ l fs d) [1, 1] (bJ l n)).1).op), Vi ((opE 9 (dJ (iJ l fs d) [1, 1] (bJ l n)).1).k), Vi ((opE 9 (dJ (iJ l fs d) [1, 1] (bJ l n)).1).n), .string ((opE 9 (dJ (iJ l fs d) [1, 1] (bJ l n)).1).s), .string ((opE 9 (dJ (iJ l fs d) [1, 1] (bJ l n)).1).nm), .slice (sA u) (sN u) (sC u)], .box g [sl, Vi (((dJ (iJ l fs d) [1, 1] (bJ l n)).2 : Nat) : Int)]] [.o 0, .o 1, .o 2, .o 3, .o 4]) ?_
          clear hJ a w; intro a w hJ
          refine zX (hQ [.agg #[Vi ((opE 9 (dJ (iJ l fs d) [1, 1] (bJ l n)).1).op), Vi ((opE 9 (dJ (iJ l fs d) [1, 1] (bJ l n)).1).k), Vi ((opE 9 (dJ (iJ l fs d) [1, 1] (bJ l n)).1).n), .string ((opE 9 (dJ (iJ l fs d) [1, 1] (bJ l n)).1).s), .string ((opE 9 (dJ (iJ l fs d) [1, 1] (bJ l n)).1).nm), .slice (sA u) (sN u) (sC u)]] _ [(g, [sl, Vi (((dJ (iJ l fs d) [1, 1] (bJ l n)).2 : Nat) : Int)])] hJ (.rcel hJ.j 1 .nil) (xJ (by kernel_rfl)) rfl ?_).1
          exact uK (pQ q3 (by unfold iW; rw [if_neg q6, q7]; rfl)) rfl rfl (fu.sees hJ.j.out)
    · skip
      by_cases q6 : cJ (aJ l n).a 6 = 0
      · refine kY hJ (t := (cJ (aJ l n).a 6) == 0) (beq_iff_eq.2 q6) ?_
        refine rk' hJ true 6 [.fix] [] (.new fun bfk => .g (.ops [0, 0, 1, 0, 1, 1, 1, 1] 4) [.seq [1, 0, 1, 0, 1, 1, 1, 1], .seq [1, 1, 1, 1, 1]] [8] [(33, .func (.func 86) #[] #[Vp bf4, Vp bf8, Vp bf12]), (36, Vs bfk 3 3)] [.n (bfk, 0, [Vi 2, Vi 2, Vi 2]), .o 0, .o 1, .o 2]) (hr := fun bfk _ => by kernel_rfl) ?_
        clear hJ a w; intro bfk h46 a w s47 hJ
        have fk : Cells h46 bfk 0 [Vi 2, Vi 2, Vi 2] := hJ.f _ (List.mem_of_getElem? (i := 0) rfl)
        refine xX hJ 37 2 (many 17 [2, 2, 2] _ _ _ _ _ _ _ (hr.sees (s3.trans (s5.trans (s47.trans hJ.j.sees)))) (by omega) (by simp) (by simp <;> omega) (zW [2, 2, 2] (by unfold maxLen; simp) (fk.sees hJ.j.sees)) (hf.sees (hJ.j.lent hm)) (List.mem_append_right _ hg) (f4.sees (s5.trans (s47.trans hJ.j.sees))) (f8.sees (s5.trans (s47.trans hJ.j.sees))) (f12.sees (s5.trans (s47.trans hJ.j.sees)))) ?_; clear hJ a w; rintro _ _ h48 a w s49 ⟨u, rfl, rfl, fu⟩ hJ
        refine rk' hJ false 5 [.b 1 0] [] (.f (.out .ret) [] [8] [] [.box b6 [Vi ((aJ l n).k), Vi ((aJ l n).a), Vi ((aJ l n).b), .string ((aJ l n).t)], .box b1 [Vi ((opE 17 (dJ (iJ l fs d) [2, 2, 2] (bJ l n)).1).op), Vi ((opE 17 (dJ (iJ l fs d) [2, 2, 2] (bJ l n)).1).k), Vi ((opE 17 (dJ (iJ l fs d) [2, 2, 2] (bJ l n)).1).n), .string ((opE 17 (dJ (iJ l fs d) [2, 2, 2] (bJ l n)).1).s), .string ((opE 17 (dJ (iJ l fs d) [2, 2, 2] (bJ l n)).1).nm), .slice (sA u) (sN u) (sC u)], .box g [sl, Vi (((dJ (iJ l fs d) [2, 2, 2] (bJ l n)).2 : Nat) : Int)]] [.o 0, .o 1, .o 2, .o 3]) ?_
        clear hJ a w; intro a w hJ
        refine zX (hQ [.agg #[Vi ((opE 17 (dJ (iJ l fs d) [2, 2, 2] (bJ l n)).1).op), Vi ((opE 17 (dJ (iJ l fs d) [2, 2, 2] (bJ l n)).1).k), Vi ((opE 17 (dJ (iJ l fs d) [2, 2, 2] (bJ l n)).1).n), .string ((opE 17 (dJ (iJ l fs d) [2, 2, 2] (bJ l n)).1).s), .string ((opE 17 (dJ (iJ l fs d) [2, 2, 2] (bJ l n)).1).nm), .slice (sA u) (sN u) (sC u)]] _ [(g, [sl, Vi (((dJ (iJ l fs d) [2, 2, 2] (bJ l n)).2 : Nat) : Int)])] hJ (.rcel hJ.j 1 .nil) (xJ (by kernel_rfl)) rfl ?_).1
        exact uK (pQ q3 (by unfold iW; rw [if_pos q6])) rfl rfl (fu.sees hJ.j.out)
      · skip
        obtain q7 | q7 | q7 | q7 | q7 | q7 | q7 : cJ (aJ l n).b 7 = 0 ∨ cJ (aJ l n).b 7 = 1 ∨ cJ (aJ l n).b 7 = 2 ∨ cJ (aJ l n).b 7 = 3 ∨ cJ (aJ l n).b 7 = 4 ∨ cJ (aJ l n).b 7 = 5 ∨ cJ (aJ l n).b 7 = 6 := by omega
        · skip
          rw [q7] at pb7
          refine aY hJ (t := (cJ (aJ l n).a 6) == 0) (beq_eq_false_iff_ne.2 q6) ?_
          refine rk hJ true 44 [.b 0 2, .cl 24 #[Vi ((aJ l n).b), Vi 7] (Vi 0), .fix] [] (.new fun bfk => .g (.ops [0, 0, 1, 0, 1, 0, 1, 1, 1, 0, 1, 0, 1, 1, 1, 1, 1] 2) [.seq [1, 0, 1, 0, 1, 0, 1, 1, 1, 0, 1, 0, 1, 1, 1, 1, 1], .block 2, .block 0, .seq [1, 1, 1, 1, 1, 1]] [8] [(83, .func (.func 86) #[] #[Vp bf4, Vp bf8, Vp bf12]), (84, Vs bfk 1 1)] [.n (bfk, 0, [Vi 2]), .o 0, .o 1, .o 2]) (And.intro (fun H sH => pb7 _ rb0 rb1 (by omega) (by omega)) (trivial)) trivial (fun bfk _ => by kernel_rfl) ?_
          clear hJ a w; intro bfk h50 a w s51 hJ
          have fk : Cells h50 bfk 0 [Vi 2] := hJ.f _ (List.mem_of_getElem? (i := 0) rfl)
          refine xX hJ 85 2 (many 4 [2] _ _ _ _ _ _ _ (hr.sees (s3.trans (s5.trans (s51.trans hJ.j.sees)))) (by omega) (by simp) (by simp <;> omega) (zW [2] (by unfold maxLen; simp) (fk.sees hJ.j.sees)) (hf.sees (hJ.j.lent hm)) (List.mem_append_right _ hg) (f4.sees (s5.trans (s51.trans hJ.j.sees))) (f8.sees (s5.trans (s51.trans hJ.j.sees))) (f12.sees (s5.trans (s51.trans hJ.j.sees)))) ?_; clear hJ a w; rintro _ _ h52 a w s53 ⟨u, rfl, rfl, fu⟩ hJ
          refine rk' hJ false 7 [.b 1 0] [] (.f (.out .ret) [] [8] [] [.box b6 [Vi ((aJ l n).k), Vi ((aJ l n).a), Vi ((aJ l n).b), .string ((aJ l n).t)], .box b1 [Vi ((opE 4 (dJ (iJ l fs d) [2] (bJ l n)).1).op), Vi ((opE 4 (dJ (iJ l fs d) [2] (bJ l n)).1).k), Vi ((opE 4 (dJ (iJ l fs d) [2] (bJ l n)).1).n), .string ((opE 4 (dJ (iJ l fs d) [2] (bJ l n)).1).s), .string ((opE 4 (dJ (iJ l fs d) [2] (bJ l n)).1).nm), .slice (sA u) (sN u) (sC u)], .box g [sl, Vi (((dJ (iJ l fs d) [2] (bJ l n)).2 : Nat) : Int)]] [.o 0, .o 1, .o 2, .o 3]) ?_
          clear hJ a w; intro a w hJ
          refine zX (hQ [.agg #[Vi ((opE 4 (dJ (iJ l fs d) [2] (bJ l n)).1).op), Vi ((opE 4 (dJ (iJ l fs d) [2] (bJ l n)).1).k), Vi ((opE 4 (dJ (iJ l fs d) [2] (bJ l n)).1).n), .string ((opE 4 (dJ (iJ l fs d) [2] (bJ l n)).1).s), .string ((opE 4 (dJ (iJ l fs d) [2] (bJ l n)).1).nm), .slice (sA u) (sN u) (sC u)]] _ [(g, [sl, Vi (((dJ (iJ l fs d) [2] (bJ l n)).2 : Nat) : Int)])] hJ (.rcel hJ.j 1 .nil) (xJ (by kernel_rfl)) rfl ?_).1
          exact uK (pQ q3 (by unfold iW; rw [if_neg q6, q7]; rfl)) rfl rfl (fu.sees hJ.j.out)
        · skip
          rw [q7] at pb7
          refine aY hJ (t := (cJ (aJ l n).a 6) == 0) (beq_eq_false_iff_ne.2 q6) ?_
          refine rx' hJ true 55 [.b 0 2, .cl 24 #[Vi ((aJ l n).b), Vi 7] (Vi 1), .fix] [] (.new fun bfk => .ok (.ops [0, 0, 1, 1, 1, 0, 1, 0, 1, 1, 1, 0, 1, 0, 1, 1, 1, 1, 1] 5) [.seq [1, 0, 1, 1, 1, 0, 1, 0, 1, 1, 1, 0, 1, 0, 1, 1, 1, 1, 1], .block 2, .block 0, .seq [1, 1, 1, 1, 1, 1]] [(8, Vp b1), (89, .func (.func 86) #[] #[Vp bf4, Vp bf8, Vp bf12]), (92, Vi 15), (93, Vs bfk 2 2)] [.box b6 [Vi ((aJ l n).k), Vi ((aJ l n).a), Vi ((aJ l n).b), .string ((aJ l n).t)], .box b1 [Vi 0, Vi 0, Vi 0, Ve, Ve, Vz], .box g [sl, Vi ((bJ l n : Nat) : Int)]] [(bfk, 0, [Vi 2, Vi 2]), (bf12, 0, [Vi ((d + 1 : Nat) : Int)]), (bf8, 0, [.slice A nf cap]), (bf4, 0, [Vp g])]) (ho := And.intro (fun H sH => pb7 _ rb0 rb1 (by omega) (by omega)) (trivial)) (fun bfk _ => by kernel_rfl) ?_
          clear hJ a w; intro bfk h54 a w s55 hJ
          have fk : Cells h54 bfk 0 [Vi 2, Vi 2] := hJ.f _ (List.mem_of_getElem? (i := 0) rfl)
          refine xX hJ 94 2 (many 15 [2, 2] _ _ _ _ _ _ _ (hr.sees (s3.trans (s5.trans (s55.trans hJ.j.sees)))) (by omega) (by simp) (by simp <;> omega) (zW [2, 2] (by unfold maxLen; simp) (fk.sees hJ.j.sees)) (hf.sees (hJ.j.lent hm)) (List.mem_append_right _ hg) (f4.sees (s5.trans (s55.trans hJ.j.sees))) (f8.sees (s5.trans (s55.trans hJ.j.sees))) (f12.sees (s5.trans (s55.trans hJ.j.sees)))) ?_; clear hJ a w; rintro _ _ h56 a w s57 ⟨u, rfl, rfl, fu⟩ hJ
          refine rk' hJ false 7 [.b 1 0] [] (.f (.out .ret) [] [8] [] [.box b6 [Vi ((aJ l n).k), Vi ((aJ l n).a), Vi ((aJ l n).b), .string ((aJ l n).t)], .box b1 [Vi ((opE 15 (dJ (iJ l fs d) [2, 2] (bJ l n)).1).op), Vi ((opE 15 (dJ (iJ l fs d) [2, 2] (bJ l n)).1).k), Vi ((opE 15 (dJ (iJ l fs d) [2, 2] (bJ l n)).1).n), .string ((opE 15 (dJ (iJ l fs d) [2, 2] (bJ l n)).1).s), .string ((opE 15 (dJ (iJ l fs d) [2, 2] (bJ l n)).1).nm), .slice (sA u) (sN u) (sC u)], .box g [sl, Vi (((dJ (iJ l fs d) [2, 2] (bJ l n)).2 : Nat) : Int)]] [.o 0, .o 1, .o 2, .o 3]) ?_
          clear hJ a w; intro a w hJ
          refine zX (hQ [.agg #[Vi ((opE 15 (dJ (iJ l fs d) [2, 2] (bJ l n)).1).op), Vi ((opE 15 (dJ (iJ l fs d) [2, 2] (bJ l n)).1).k), Vi ((opE 15 (dJ (iJ l fs d) [2, 2] (bJ l n)).1).n), .string ((opE 15 (dJ (iJ l fs d) [2, 2] (bJ l n)).1).s), .string ((opE 15 (dJ (iJ l fs d) [2, 2] (bJ l n)).1).nm), .slice (sA u) (sN u) (sC u)]] _ [(g, [sl, Vi (((dJ (iJ l fs d) [2, 2] (bJ l n)).2 : Nat) : Int)])] hJ (.rcel hJ.j 1 .nil) (xJ (by kernel_rfl)) rfl ?_).1
          exact uK (pQ q3 (by unfold iW; rw [if_neg q6, q7]; rfl)) rfl rfl (fu.sees hJ.j.out)
        · skip
          rw [q7] at pb7
          refine aY hJ (t := (cJ (aJ l n).a 6) == 0) (beq_eq_false_iff_ne.2 q6) ?_
          refine rk hJ true 55 [.b 0 2, .cl 24 #[Vi ((aJ l n).b), Vi 7] (Vi 2), .fix] [] (.new fun bfk => .g (.ops [0, 0, 1, 1, 1, 0, 1, 0, 1, 1, 1, 0, 1, 0, 1, 1, 1, 1, 1] 5) [.seq [1, 0, 1, 1, 1, 0, 1, 0, 1, 1, 1, 0, 1, 0, 1, 1, 1, 1, 1], .block 2, .block 0, .seq [1, 1, 1, 1, 1, 1]] [8] [(89, .func (.func 86) #[] #[Vp bf4, Vp bf8, Vp bf12]), (92, Vi 16), (93, Vs bfk 2 2)] [.n (bfk, 0, [Vi 2, Vi 2]), .o 0, .o 1, .o 2]) (And.intro (fun H sH => pb7 _ rb0 rb1 (by omega) (by omega)) (trivial)) trivial (fun bfk _ => by kernel_rfl) ?_
          clear hJ a w; intro bfk h58 a w s59 hJ
          have fk : Cells h58 bfk 0 [Vi 2, Vi 2] := hJ.f _ (List.mem_of_getElem? (i := 0) rfl)
          refine xX hJ 94 2 (many 16 [2, 2] _ _ _ _ _ _ _ (hr.sees (s3.trans (s5.trans (s59.trans hJ.j.sees)))) (by omega) (by simp) (by simp <;> omega) (zW [2, 2] (by unfold maxLen; simp) (fk.sees hJ.j.sees)) (hf.sees (hJ.j.lent hm)) (List.mem_append_right _ hg) (f4.sees (s5.trans (s59.trans hJ.j.sees))) (f8.sees (s5.trans (s59.trans hJ.j.sees))) (f12.sees (s5.trans (s59.trans hJ.j.sees)))) ?_; clear hJ a w; rintro _ _ h60 a w s61 ⟨u, rfl, rfl, fu⟩ hJ
          refine rk' hJ false 7 [.b 1 0] [] (.f (.out .ret) [] [8] [] [.box b6 [Vi ((aJ l n).k), Vi ((aJ l n).a), Vi ((aJ l n).b), .string ((aJ l n).t)], .box b1 [Vi ((opE 16 (dJ (iJ l fs d) [2, 2] (bJ l n)).1).op), Vi ((opE 16 (dJ (iJ l fs d) [2, 2] (bJ l n)).1).k), Vi ((opE 16 (dJ (iJ l fs d) [2, 2] (bJ l n)).1).n), .string ((opE 16 (dJ (iJ l fs d) [2, 2] (bJ l n)).1).s), .string ((opE 16 (dJ (iJ l fs d) [2, 2] (bJ l n)).1).nm), .slice (sA u) (sN u) (sC u)], .box g [sl, Vi (((dJ (iJ l fs d) [2, 2] (bJ l n)).2 : Nat) : Int)]] [.o 0, .o 1, .o 2, .o 3]) ?_
          clear hJ a w; intro a w hJ
          refine zX (hQ [.agg #[Vi ((opE 16 (dJ (iJ l fs d) [2, 2] (bJ l n)).1).op), Vi ((opE 16 (dJ (iJ l fs d) [2, 2] (bJ l n)).1).k), Vi ((opE 16 (dJ (iJ l fs d) [2, 2] (bJ l n)).1).n), .string ((opE 16 (dJ (iJ l fs d) [2, 2] (bJ l n)).1).s), .string ((opE 16 (dJ (iJ l fs d) [2, 2] (bJ l n)).1).nm), .slice (sA u) (sN u) (sC u)]] _ [(g, [sl, Vi (((dJ (iJ l fs d) [2, 2] (bJ l n)).2 : Nat) : Int)])] hJ (.rcel hJ.j 1 .nil) (xJ (by kernel_rfl)) rfl ?_).1
          exact uK (pQ q3 (by unfold iW; rw [if_neg q6, q7]; rfl)) rfl rfl (fu.sees hJ.j.out)
        · skip
          rw [q7] at pb7
          obtain q4 | q4 | q4 : cJ (aJ l n).a 3 = 0 ∨ cJ (aJ l n).a 3 = 1 ∨ cJ (aJ l n).a 3 = 2 := by omega
          · skip
            rw [q4] at pa3
            refine aY hJ (t := (cJ (aJ l n).a 6) == 0) (beq_eq_false_iff_ne.2 q6) ?_
            refine rk hJ true 66 [.b 0 2, .cl 24 #[Vi ((aJ l n).b), Vi 7] (Vi 3), .b 0 1, .cl 24 #[Vi ((aJ l n).a), Vi 3] (Vi 0), .fix] [] (.new fun bfk => .g (.ops [0, 1, 1, 1, 1, 1, 0, 1, 0, 1, 1, 1, 0, 1, 0, 1, 1, 1, 1, 1] 7) [.seq [1, 1, 1, 1, 1, 1, 0, 1, 0, 1, 1, 1, 0, 1, 0, 1, 1, 1, 1, 1], .block 2, .block 0, .seq [1, 1, 1, 1, 1, 1]] [8] [(72, .func (.func 86) #[] #[Vp bf4, Vp bf8, Vp bf12]), (75, Vi 11), (78, Vs bfk 2 2)] [.n (bfk, 0, [Vi 1, Vi 1]), .o 0, .o 1, .o 2]) (And.intro (fun H sH => pb7 _ rb0 rb1 (by omega) (by omega)) (And.intro (fun H sH => pa3 _ a0 a1 (by omega) (by omega)) (trivial))) trivial (fun bfk _ => by kernel_rfl) ?_
            clear hJ a w; intro bfk h62 a w s63 hJ
            have fk : Cells h62 bfk 0 [Vi 1, Vi 1] := hJ.f _ (List.mem_of_getElem? (i := 0) rfl)
            refine xX hJ 79 2 (many 11 [1, 1] _ _ _ _ _ _ _ (hr.sees (s3.trans (s5.trans (s63.trans hJ.j.sees)))) (by omega) (by simp) (by simp <;> omega) (zW [1, 1] (by unfold maxLen; simp) (fk.sees hJ.j.sees)) (hf.sees (hJ.j.lent hm)) (List.mem_append_right _ hg) (f4.sees (s5.trans (s63.trans hJ.j.sees))) (f8.sees (s5.trans (s63.trans hJ.j.sees))) (f12.sees (s5.trans (s63.trans hJ.j.sees)))) ?_; clear hJ a w; rintro _ _ h64 a w s65 ⟨u, rfl, rfl, fu⟩ hJ
            refine rk' hJ false 7 [.b 1 0] [] (.f (.out .ret) [] [8] [] [.box b6 [Vi ((aJ l n).k), Vi ((aJ l n).a), Vi ((aJ l n).b), .string ((aJ l n).t)], .box b1 [Vi ((opE 11 (dJ (iJ l fs d) [1, 1] (bJ l n)).1).op), Vi ((opE 11 (dJ (iJ l fs d) [1, 1] (bJ l n)).1).k), Vi ((opE 11 (dJ (iJ l fs d) [1, 1] (bJ l n)).1).n), .string ((opE 11 (dJ (iJ l fs d) [1, 1] (bJ l n)).1).s), .string ((opE 11 (dJ (iJ l fs d) [1, 1] (bJ l n)).1).nm), .slice (sA u) (sN u) (sC u)], .box g [sl, Vi (((dJ (iJ l fs d) [1, 1] (bJ l n)).2 : Nat) : Int)]] [.o 0, .o 1, .o 2, .o 3]) ?_
            clear hJ a w; intro a w hJ
            refine zX (hQ [.agg #[Vi ((opE 11 (dJ (iJ l fs d) [1, 1] (bJ l n)).1).op), Vi ((opE 11 (dJ (iJ l fs d) [1, 1] (bJ l n)).1).k), Vi ((opE 11 (dJ (iJ l fs d) [1, 1] (bJ l n)).1).n), .string ((opE 11 (dJ (iJ l fs d) [1, 1] (bJ l n)).1).s), .string ((opE 11 (dJ (iJ l fs d) [1, 1] (bJ l n)).1).nm), .slice (sA u) (sN u) (sC u)]] _ [(g, [sl, Vi (((dJ (iJ l fs d) [1, 1] (bJ l n)).2 : Nat) : Int)])] hJ (.rcel hJ.j 1 .nil) (xJ (by kernel_rfl)) rfl ?_).1
            exact uK (pQ q3 (by unfold iW; rw [if_neg q6, q7, q4]; rfl)) rfl rfl (fu.sees hJ.j.out)
          · skip
            rw [q4] at pa3
            refine aY hJ (t := (cJ (aJ l n).a 6) == 0) (beq_eq_false_iff_ne.2 q6) ?_
            refine rk hJ true 66 [.b 0 2, .cl 24 #[Vi ((aJ l n).b), Vi 7] (Vi 3), .b 0 1, .cl 24 #[Vi ((aJ l n).a), Vi 3] (Vi 1), .fix] [] (.new fun bfk => .g (.ops [0, 1, 1, 1, 1, 1, 0, 1, 0, 1, 1, 1, 0, 1, 0, 1, 1, 1, 1, 1] 7) [.seq [1, 1, 1, 1, 1, 1, 0, 1, 0, 1, 1, 1, 0, 1, 0, 1, 1, 1, 1, 1], .block 2, .block 0, .seq [1, 1, 1, 1, 1, 1]] [8] [(72, .func (.func 86) #[] #[Vp bf4, Vp bf8, Vp bf12]), (75, Vi 11), (78, Vs bfk 2 2)] [.n (bfk, 0, [Vi 2, Vi 2]), .o 0, .o 1, .o 2]) (And.intro (fun H sH => pb7 _ rb0 rb1 (by omega) (by omega)) (And.intro (fun H sH => pa3 _ a0 a1 (by omega) (by omega)) (trivial))) trivial (fun bfk _ => by kernel_rfl) ?_
            clear hJ a w; intro bfk h66 a w s67 hJ
            have fk : Cells h66 bfk 0 [Vi 2, Vi 2] := hJ.f _ (List.mem_of_getElem? (i := 0) rfl)
            refine xX hJ 79 2 (many 11 [2, 2] _ _ _ _ _ _ _ (hr.sees (s3.trans (s5.trans (s67.trans hJ.j.sees)))) (by omega) (by simp) (by simp <;> omega) (zW [2, 2] (by unfold maxLen; simp) (fk.sees hJ.j.sees)) (hf.sees (hJ.j.lent hm)) (List.mem_append_right _ hg) (f4.sees (s5.trans (s67.trans hJ.j.sees))) (f8.sees (s5.trans (s67.trans hJ.j.sees))) (f12.sees (s5.trans (s67.trans hJ.j.sees)))) ?_; clear hJ a w; rintro _ _ h68 a w s69 ⟨u, rfl, rfl, fu⟩ hJ
            refine rk' hJ false 7 [.b 1 0] [] (.f (.out .ret) [] [8] [] [.box b6 [Vi ((aJ l n).k), Vi ((aJ l n).a), Vi ((aJ l n).b), .string ((aJ l n).t)], .box b1 [Vi ((opE 11 (dJ (iJ l fs d) [2, 2] (bJ l n)).1).op), Vi ((opE 11 (dJ (iJ l fs d) [2, 2] (bJ l n)).1).k), Vi ((opE 11 (dJ (iJ l fs d) [2, 2] (bJ l n)).1).n), .string ((opE 11 (dJ (iJ l fs d) [2, 2] (bJ l n)).1).s), .string ((opE 11 (dJ (iJ l fs d) [2, 2] (bJ l n)).1).nm), .slice (sA u) (sN u) (sC u)], .box g [sl, Vi (((dJ (iJ l fs d) [2, 2] (bJ l n)).2 : Nat) : Int)]] [.o 0, .o 1, .o 2, .o 3]) ?_
            clear hJ a w; intro a w hJ
            refine zX (hQ [.agg #[Vi ((opE 11 (dJ (iJ l fs d) [2, 2] (bJ l n)).1).op), Vi ((opE 11 (dJ (iJ l fs d) [2, 2] (bJ l n)).1).k), Vi ((opE 11 (dJ (iJ l fs d) [2, 2] (bJ l n)).1).n), .string ((opE 11 (dJ (iJ l fs d) [2, 2] (bJ l n)).1).s), .string ((opE 11 (dJ (iJ l fs d) [2, 2] (bJ l n)).1).nm), .slice (sA u) (sN u) (sC u)]] _ [(g, [sl, Vi (((dJ (iJ l fs d) [2, 2] (bJ l n)).2 : Nat) : Int)])] hJ (.rcel hJ.j 1 .nil) (xJ (by kernel_rfl)) rfl ?_).1
            exact uK (pQ q3 (by unfold iW; rw [if_neg q6, q7, q4]; rfl)) rfl rfl (fu.sees hJ.j.out)
          · skip
            rw [q4] at pa3
            refine aY hJ (t := (cJ (aJ l n).a 6) == 0) (beq_eq_false_iff_ne.2 q6) ?_
            refine rk hJ true 66 [.b 0 2, .cl 24 #[Vi ((aJ l n).b), Vi 7] (Vi 3), .b 0 1, .cl 24 #[Vi ((aJ l n).a), Vi 3] (Vi 2), .fix] [] (.new fun bfk => .g (.ops [0, 1, 1, 1, 1, 1, 0, 1, 0, 1, 1, 1, 0, 1, 0, 1, 1, 1, 1, 1] 7) [.seq [1, 1, 1, 1, 1, 1, 0, 1, 0, 1, 1, 1, 0, 1, 0, 1, 1, 1, 1, 1], .block 2, .block 0, .seq [1, 1, 1, 1, 1, 1]] [8] [(72, .func (.func 86) #[] #[Vp bf4, Vp bf8, Vp bf12]), (75, Vi 11), (78, Vs bfk 2 2)] [.n (bfk, 0, [Vi 3, Vi 3]), .o 0, .o 1, .o 2]) (And.intro (fun H sH => pb7 _ rb0 rb1 (by omega) (by omega)) (And.intro (fun H sH => pa3 _ a0 a1 (by omega) (by omega)) (trivial))) trivial (fun bfk _ => by kernel_rfl) ?_
            clear hJ a w; intro bfk h70 a w s71 hJ
            have fk : Cells h70 bfk 0 [Vi 3, Vi 3] := hJ.f _ (List.mem_of_getElem? (i := 0) rfl)
            refine xX hJ 79 2 (many 11 [3, 3] _ _ _ _ _ _ _ (hr.sees (s3.trans (s5.trans (s71.trans hJ.j.sees)))) (by omega) (by simp) (by simp <;> omega) (zW [3, 3] (by unfold maxLen; simp) (fk.sees hJ.j.sees)) (hf.sees (hJ.j.lent hm)) (List.mem_append_right _ hg) (f4.sees (s5.trans (s71.trans hJ.j.sees))) (f8.sees (s5.trans (s71.trans hJ.j.sees))) (f12.sees (s5.trans (s71.trans hJ.j.sees)))) ?_; clear hJ a w; rintro _ _ h72 a w s73 ⟨u, rfl, rfl, fu⟩ hJ
            refine rx' hJ false 7 [.b 1 0] [] (.ok (.out .ret) [] [(8, Vp b1)] [.box b6 [Vi ((aJ l n).k), Vi ((aJ l n).a), Vi ((aJ l n).b), .string ((aJ l n).t)], .box b1 [Vi ((opE 11 (dJ (iJ l fs d) [3, 3] (bJ l n)).1).op), Vi ((opE 11 (dJ (iJ l fs d) [3, 3] (bJ l n)).1).k), Vi ((opE 11 (dJ (iJ l fs d) [3, 3] (bJ l n)).1).n), .string ((opE 11 (dJ (iJ l fs d) [3, 3] (bJ l n)).1).s), .string ((opE 11 (dJ (iJ l fs d) [3, 3] (bJ l n)).1).nm), .slice (sA u) (sN u) (sC u)], .box g [sl, Vi (((dJ (iJ l fs d) [3, 3] (bJ l n)).2 : Nat) : Int)]] [(bfk, 0, [Vi 3, Vi 3]), (bf12, 0, [Vi ((d + 1 : Nat) : Int)]), (bf8, 0, [.slice A nf cap]), (bf4, 0, [Vp g])]) (fun _ => by kernel_rfl) ?_
            clear hJ a w; intro a w hJ
            refine zX (hQ [.agg #[Vi ((opE 11 (dJ (iJ l fs d) [3, 3] (bJ l n)).1).op), Vi ((opE 11 (dJ (iJ l fs d) [3, 3] (bJ l n)).1).k), Vi ((opE 11 (dJ (iJ l fs d) [3, 3] (bJ l n)).1).n), .string ((opE 11 (dJ (iJ l fs d) [3, 3] (bJ l n)).1).s), .string ((opE 11 (dJ (iJ l fs d) [3, 3] (bJ l n)).1).nm), .slice (sA u) (sN u) (sC u)]] _ [(g, [sl, Vi (((dJ (iJ l fs d) [3, 3] (bJ l n)).2 : Nat) : Int)])] hJ (.rcel hJ.j 1 .nil) (xJ (by kernel_rfl)) rfl ?_).1
            exact uK (pQ q3 (by unfold iW; rw [if_neg q6, q7, q4]; rfl)) rfl rfl (fu.sees hJ.j.out)
        · skip
          rw [q7] at pb7
          obtain q4 | q4 | q4 : cJ (aJ l n).a 3 = 0 ∨ cJ (aJ l n).a 3 = 1 ∨ cJ (aJ l n).a 3 = 2 := by omega
          · skip
            rw [q4] at pa3
            refine aY hJ (t := (cJ (aJ l n).a 6) == 0) (beq_eq_false_iff_ne.2 q6) ?_
            refine rk hJ true 66 [.b 0 2, .cl 24 #[Vi ((aJ l n).b), Vi 7] (Vi 4), .b 0 1, .cl 24 #[Vi ((aJ l n).a), Vi 3] (Vi 0), .fix] [] (.new fun bfk => .g (.ops [0, 1, 1, 1, 1, 1, 0, 1, 0, 1, 1, 1, 0, 1, 0, 1, 1, 1, 1, 1] 7) [.seq [1, 1, 1, 1, 1, 1, 0, 1, 0, 1, 1, 1, 0, 1, 0, 1, 1, 1, 1, 1], .block 2, .block 0, .seq [1, 1, 1, 1, 1, 1]] [8] [(72, .func (.func 86) #[] #[Vp bf4, Vp bf8, Vp bf12]), (75, Vi 12), (78, Vs bfk 2 2)] [.n (bfk, 0, [Vi 1, Vi 1]), .o 0, .o 1, .o 2]) (And.intro (fun H sH => pb7 _ rb0 rb1 (by omega) (by omega)) (And.intro (fun H sH => pa3 _ a0 a1 (by omega) (by omega)) (trivial))) trivial (fun bfk _ => by kernel_rfl) ?_
            clear hJ a w; intro bfk h74 a w s75 hJ
            have fk : Cells h74 bfk 0 [Vi 1, Vi 1] := hJ.f _ (List.mem_of_getElem? (i := 0) rfl)
            refine xX hJ 79 2 (many 12 [1, 1] _ _ _ _ _ _ _ (hr.sees (s3.trans (s5.trans (s75.trans hJ.j.sees)))) (by omega) (by simp) (by simp <;> omega) (zW [1, 1] (by unfold maxLen; simp) (fk.sees hJ.j.sees)) (hf.sees (hJ.j.lent hm)) (List.mem_append_right _ hg) (f4.sees (s5.trans (s75.trans hJ.j.sees))) (f8.sees (s5.trans (s75.trans hJ.j.sees))) (f12.sees (s5.trans (s75.trans hJ.j.sees)))) ?_; clear hJ a w; rintro _ _ h76 a w s77 ⟨u, rfl, rfl, fu⟩ hJ
            refine rk' hJ false 7 [.b 1 0] [] (.f (.out .ret) [] [8] [] [.box b6 [Vi ((aJ l n).k), Vi ((aJ l n).a), Vi ((aJ l n).b), .string ((aJ l n).t)], .box b1 [Vi ((opE 12 (dJ (iJ l fs d) [1, 1] (bJ l n)).1).op), Vi ((opE 12 (dJ (iJ l fs d) [1, 1] (bJ l n)).1).k), Vi ((opE 12 (dJ (iJ l fs d) [1, 1] (bJ l n)).1).n), .string ((opE 12 (dJ (iJ l fs d) [1, 1] (bJ l n)).1).s), .string ((opE 12 (dJ (iJ l fs d) [1, 1] (bJ l n)).1).nm), .slice (sA u) (sN u) (sC u)], .box g [sl, Vi (((dJ (iJ l fs d) [1, 1] (bJ l n)).2 : Nat) : Int)]] [.o 0, .o 1, .o 2, .o 3]) ?_
            clear hJ a w; intro a w hJ
            refine zX (hQ [.agg #[Vi ((opE 12 (dJ (iJ l fs d) [1, 1] (bJ l n)).1).op), Vi ((opE 12 (dJ (iJ l fs d) [1, 1] (bJ l n)).1).k), Vi ((opE 12 (dJ (iJ l fs d) [1, 1] (bJ l n)).1).n), .string ((opE 12 (dJ (iJ l fs d) [1, 1] (bJ l n)).1).s), .string ((opE 12 (dJ (iJ l fs d) [1, 1] (bJ l n)).1).nm), .slice (sA u) (sN u) (sC u)]] _ [(g, [sl, Vi (((dJ (iJ l fs d) [1, 1] (bJ l n)).2 : Nat) : Int)])] hJ (.rcel hJ.j 1 .nil) (xJ (by kernel_rfl)) rfl ?_).1
            exact uK (pQ q3 (by unfold iW; rw [if_neg q6, q7, q4]; rfl)) rfl rfl (fu.sees hJ.j.out)
          · skip
            rw [q4] at pa3
            refine aY hJ (t := (cJ (aJ l n).a 6) == 0) (beq_eq_false_iff_ne.2 q6) ?_
            refine rk hJ true 66 [.b 0 2, .cl 24 #[Vi ((aJ l n).b), Vi 7] (Vi 4), .b 0 1, .cl 24 #[Vi ((aJ l n).a), Vi 3] (Vi 1), .fix] [] (.new fun bfk => .g (.ops [0, 1, 1, 1, 1, 1, 0, 1, 0, 1, 1, 1, 0, 1, 0, 1, 1, 1, 1, 1] 7) [.seq [1, 1, 1, 1, 1, 1, 0, 1, 0, 1, 1, 1, 0, 1, 0, 1, 1, 1, 1, 1], .block 2, .block 0, .seq [1, 1, 1, 1, 1, 1]] [8] [(72, .func (.func 86) #[] #[Vp bf4, Vp bf8, Vp bf12]), (75, Vi 12), (78, Vs bfk 2 2)] [.n (bfk, 0, [Vi 2, Vi 2]), .o 0, .o 1, .o 2]) (And.intro (fun H sH => pb7 _ rb0 rb1 (by omega) (by omega)) (And.intro (fun H sH => pa3 _ a0 a1 (by omega) (by omega)) (trivial))) trivial (fun bfk _ => by kernel_rfl) ?_
            clear hJ a w; intro bfk h78 a w s79 hJ
            have fk : Cells h78 bfk 0 [Vi 2, Vi 2] := hJ.f _ (List.mem_of_getElem? (i := 0) rfl)
            refine xX hJ 79 2 (many 12 [2, 2] _ _ _ _ _ _ _ (hr.sees (s3.trans (s5.trans (s79.trans hJ.j.sees)))) (by omega) (by simp) (by simp <;> omega) (zW [2, 2] (by unfold maxLen; simp) (fk.sees hJ.j.sees)) (hf.sees (hJ.j.lent hm)) (List.mem_append_right _ hg) (f4.sees (s5.trans (s79.trans hJ.j.sees))) (f8.sees (s5.trans (s79.trans hJ.j.sees))) (f12.sees (s5.trans (s79.trans hJ.j.sees)))) ?_; clear hJ a w; rintro _ _ h80 a w s81 ⟨u, rfl, rfl, fu⟩ hJ
            refine rk' hJ false 7 [.b 1 0] [] (.f (.out .ret) [] [8] [] [.box b6 [Vi ((aJ l n).k), Vi ((aJ l n).a), Vi ((aJ l n).b), .string ((aJ l n).t)], .box b1 [Vi ((opE 12 (dJ (iJ l fs d) [2, 2] (bJ l n)).1).op), Vi ((opE 12 (dJ (iJ l fs d) [2, 2] (bJ l n)).1).k), Vi ((opE 12 (dJ (iJ l fs d) [2, 2] (bJ l n)).1).n), .string ((opE 12 (dJ (iJ l fs d) [2, 2] (bJ l n)).1).s), .string ((opE 12 (dJ (iJ l fs d) [2, 2] (bJ l n)).1).nm), .slice (sA u) (sN u) (sC u)], .box g [sl, Vi (((dJ (iJ l fs d) [2, 2] (bJ l n)).2 : Nat) : Int)]] [.o 0, .o 1, .o 2, .o 3]) ?_
            clear hJ a w; intro a w hJ
            refine zX (hQ [.agg #[Vi ((opE 12 (dJ (iJ l fs d) [2, 2] (bJ l n)).1).op), Vi ((opE 12 (dJ (iJ l fs d) [2, 2] (bJ l n)).1).k), Vi ((opE 12 (dJ (iJ l fs d) [2, 2] (bJ l n)).1).n), .string ((opE 12 (dJ (iJ l fs d) [2, 2] (bJ l n)).1).s), .string ((opE 12 (dJ (iJ l fs d) [2, 2] (bJ l n)).1).nm), .slice (sA u) (sN u) (sC u)]] _ [(g, [sl, Vi (((dJ (iJ l fs d) [2, 2] (bJ l n)).2 : Nat) : Int)])] hJ (.rcel hJ.j 1 .nil) (xJ (by kernel_rfl)) rfl ?_).1
            exact uK (pQ q3 (by unfold iW; rw [if_neg q6, q7, q4]; rfl)) rfl rfl (fu.sees hJ.j.out)
          · skip
            rw [q4] at pa3
            refine aY hJ (t := (cJ (aJ l n).a 6) == 0) (beq_eq_false_iff_ne.2 q6) ?_
            refine rk hJ true 66 [.b 0 2, .cl 24 #[Vi ((aJ l n).b), Vi 7] (Vi 4), .b 0 1, .cl 24 #[Vi ((aJ l n).a), Vi 3] (Vi 2), .fix] [] (.new fun bfk => .g (.ops [0, 1, 1, 1, 1, 1, 0, 1, 0, 1, 1, 1, 0, 1, 0, 1, 1, 1, 1, 1] 7) [.seq [1, 1, 1, 1, 1, 1, 0, 1, 0, 1, 1, 1, 0, 1, 0, 1, 1, 1, 1, 1], .block 2, .block 0, .seq [1, 1, 1, 1, 1, 1]] [8] [(72, .func (.func 86) #[] #[Vp bf4, Vp bf8, Vp bf12]), (75, Vi 12), (78, Vs bfk 2 2)] [.n (bfk, 0, [Vi 3, Vi 3]), .o 0, .o 1, .o 2]) (And.intro (fun H sH => pb7 _ rb0 rb1 (by omega) (by omega)) (And.intro (fun H sH => pa3 _ a0 a1 (by omega) (by omega)) (trivial))) trivial (fun bfk _ => by kernel_rfl) ?_
            clear hJ a w; intro bfk h82 a w s83 hJ
            have fk : Cells h82 bfk 0 [Vi 3, Vi 3] := hJ.f _ (List.mem_of_getElem? (i := 0) rfl)
            refine xX hJ 79 2 (many 12 [3, 3] _ _ _ _ _ _ _ (hr.sees (s3.trans (s5.trans (s83.trans hJ.j.sees)))) (by omega) (by simp) (by simp <;> omega) (zW [3, 3] (by unfold maxLen; simp) (fk.sees hJ.j.sees)) (hf.sees (hJ.j.lent hm)) (List.mem_append_right _ hg) (f4.sees (s5.trans (s83.trans hJ.j.sees))) (f8.sees (s5.trans (s83.trans hJ.j.sees))) (f12.sees (s5.trans (s83.trans hJ.j.sees)))) ?_; clear hJ a w; rintro _ _ h84 a w s85 ⟨u, rfl, rfl, fu⟩ hJ
            refine rk' hJ false 7 [.b 1 0] [] (.f (.out .ret) [] [8] [] [.box b6 [Vi ((aJ l n).k), Vi ((aJ l n).a), Vi ((aJ l n).b), .string ((aJ l n).t)], .box b1 [Vi ((opE 12 (dJ (iJ l fs d) [3, 3] (bJ l n)).1).op), Vi ((opE 12 (dJ (iJ l fs d) [3, 3] (bJ l n)).1).k), Vi ((opE 12 (dJ (iJ l fs d) [3, 3] (bJ l n)).1).n), .string ((opE 12 (dJ (iJ l fs d) [3, 3] (bJ l n)).1).s), .string ((opE 12 (dJ (iJ l fs d) [3, 3] (bJ l n)).1).nm), .slice (sA u) (sN u) (sC u)], .box g [sl, Vi (((dJ (iJ l fs d) [3, 3] (bJ l n)).2 : Nat) : Int)]] [.o 0, .o 1, .o 2, .o 3]) ?_
            clear hJ a w; intro a w hJ
            refine zX (hQ [.agg #[Vi ((opE 12 (dJ (iJ l fs d) [3, 3] (bJ l n)).1).op), Vi ((opE 12 (dJ (iJ l fs d) [3, 3] (bJ l n)).1).k), Vi ((opE 12 (dJ (iJ l fs d) [3, 3] (bJ l n)).1).n), .string ((opE 12 (dJ (iJ l fs d) [3, 3] (bJ l n)).1).s), .string ((opE 12 (dJ (iJ l fs d) [3, 3] (bJ l n)).1).nm), .slice (sA u) (sN u) (sC u)]] _ [(g, [sl, Vi (((dJ (iJ l fs d) [3, 3] (bJ l n)).2 : Nat) : Int)])] hJ (.rcel hJ.j 1 .nil) (xJ (by kernel_rfl)) rfl ?_).1
            exact uK (pQ q3 (by unfold iW; rw [if_neg q6, q7, q4]; rfl)) rfl rfl (fu.sees hJ.j.out)
        · skip
          rw [q7] at pb7
          obtain q4 | q4 | q4 : cJ (aJ l n).a 3 = 0 ∨ cJ (aJ l n).a 3 = 1 ∨ cJ (aJ l n).a 3 = 2 := by omega
          · skip
            rw [q4] at pa3
            refine aY hJ (t := (cJ (aJ l n).a 6) == 0) (beq_eq_false_iff_ne.2 q6) ?_
            refine rk hJ true 66 [.b 0 2, .cl 24 #[Vi ((aJ l n).b), Vi 7] (Vi 5), .b 0 1, .cl 24 #[Vi ((aJ l n).a), Vi 3] (Vi 0), .fix] [] (.new fun bfk => .g (.ops [0, 1, 1, 1, 1, 1, 0, 1, 0, 1, 1, 1, 0, 1, 0, 1, 1, 1, 1, 1] 7) [.seq [1, 1, 1, 1, 1, 1, 0, 1, 0, 1, 1, 1, 0, 1, 0, 1, 1, 1, 1, 1], .block 2, .block 0, .seq [1, 1, 1, 1, 1, 1]] [8] [(72, .func (.func 86) #[] #[Vp bf4, Vp bf8, Vp bf12]), (75, Vi 13), (78, Vs bfk 2 2)] [.n (bfk, 0, [Vi 1, Vi 1]), .o 0, .o 1, .o 2]) (And.intro (fun H sH => pb7 _ rb0 rb1 (by omega) (by omega)) (And.intro (fun H sH => pa3 _ a0 a1 (by omega) (by omega)) (trivial))) trivial (fun bfk _ => by kernel_rfl) ?_
            clear hJ a w; intro bfk h86 a w s87 hJ
            have fk : Cells h86 bfk 0 [Vi 1, Vi 1] := hJ.f _ (List.mem_of_getElem? (i := 0) rfl)
            refine xX hJ 79 2 (many 13 [1, 1] _ _ _ _ _ _ _ (hr.sees (s3.trans (s5.trans (s87.trans hJ.j.sees)))) (by omega) (by simp) (by simp <;> omega) (zW [1, 1] (by unfold maxLen; simp) (fk.sees hJ.j.sees)) (hf.sees (hJ.j.lent hm)) (List.mem_append_right _ hg) (f4.sees (s5.trans (s87.trans hJ.j.sees))) (f8.sees (s5.trans (s87.trans hJ.j.sees))) (f12.sees (s5.trans (s87.trans hJ.j.sees)))) ?_; clear hJ a w; rintro _ _ h88 a w s89 ⟨u, rfl, rfl, fu⟩ hJ
            refine rk' hJ false 7 [.b 1 0] [] (.f (.out .ret) [] [8] [] [.box b6 [Vi ((aJ l n).k), Vi ((aJ l n).a), Vi ((aJ l n).b), .string ((aJ l n).t)], .box b1 [Vi ((opE 13 (dJ (iJ l fs d) [1, 1] (bJ l n)).1).op), Vi ((opE 13 (dJ (iJ l fs d) [1, 1] (bJ l n)).1).k), Vi ((opE 13 (dJ (iJ l fs d) [1, 1] (bJ l n)).1).n), .string ((opE 13 (dJ (iJ l fs d) [1, 1] (bJ l n)).1).s), .string ((opE 13 (dJ (iJ l fs d) [1, 1] (bJ l n)).1).nm), .slice (sA u) (sN u) (sC u)], .box g [sl, Vi (((dJ (iJ l fs d) [1, 1] (bJ l n)).2 : Nat) : Int)]] [.o 0, .o 1, .o 2, .o 3]) ?_
            clear hJ a w; intro a w hJ
            refine zX (hQ [.agg #[Vi ((opE 13 (dJ (iJ l fs d) [1, 1] (bJ l n)).1).op), Vi ((opE 13 (dJ (iJ l fs d) [1, 1] (bJ l n)).1).k), Vi ((opE 13 (dJ (iJ l fs d) [1, 1] (bJ l n)).1).n), .string ((opE 13 (dJ (iJ l fs d) [1, 1] (bJ l n)).1).s), .string ((opE 13 (dJ (iJ l fs d) [1, 1] (bJ l n)).1).nm), .slice (sA u) (sN u) (sC u)]] _ [(g, [sl, Vi (((dJ (iJ l fs d) [1, 1] (bJ l n)).2 : Nat) : Int)])] hJ (.rcel hJ.j 1 .nil) (xJ (by kernel_rfl)) rfl ?_).1
            exact uK (pQ q3 (by unfold iW; rw [if_neg q6, q7, q4]; rfl)) rfl rfl (fu.sees hJ.j.out)
          · skip
            rw [q4] at pa3
            refine aY hJ (t := (cJ (aJ l n).a 6) == 0) (beq_eq_false_iff_ne.2 q6) ?_
            refine rx' hJ true 66 [.b 0 2, .cl 24 #[Vi ((aJ l n).b), Vi 7] (Vi 5), .b 0 1, .cl 24 #[Vi ((aJ l n).a), Vi 3] (Vi 1), .fix] [] (.new fun bfk => .ok (.ops [0, 1, 1, 1, 1, 1, 0, 1, 0, 1, 1, 1, 0, 1, 0, 1, 1, 1, 1, 1] 7) [.seq [1, 1, 1, 1, 1, 1, 0, 1, 0, 1, 1, 1, 0, 1, 0, 1, 1, 1, 1, 1], .block 2, .block 0, .seq [1, 1, 1, 1, 1, 1]] [(8, Vp b1), (72, .func (.func 86) #[] #[Vp bf4, Vp bf8, Vp bf12]), (75, Vi 13), (78, Vs bfk 2 2)] [.box b6 [Vi ((aJ l n).k), Vi ((aJ l n).a), Vi ((aJ l n).b), .string ((aJ l n).t)], .box b1 [Vi 0, Vi 0, Vi 0, Ve, Ve, Vz], .box g [sl, Vi ((bJ l n : Nat) : Int)]] [(bfk, 0, [Vi 2, Vi 2]), (bf12, 0, [Vi ((d + 1 : Nat) : Int)]), (bf8, 0, [.slice A nf cap]), (bf4, 0, [Vp g])]) (ho := And.intro (fun H sH => pb7 _ rb0 rb1 (by omega) (by omega)) (And.intro (fun H sH => pa3 _ a0 a1 (by omega) (by omega)) (trivial))) (fun bfk _ => by kernel_rfl) ?_
            clear hJ a w; intro bfk h90 a w s91 hJ
            have fk : Cells h90 bfk 0 [Vi 2, Vi 2] := hJ.f _ (List.mem_of_getElem? (i := 0) rfl)
            refine xX hJ 79 2 (many 13 [2, 2] _ _ _ _ _ _ _ (hr.sees (s3.trans (s5.trans (s91.trans hJ.j.sees)))) (by omega) (by simp) (by simp <;> omega) (zW [2, 2] (by unfold maxLen; simp) (fk.sees hJ.j.sees)) (hf.sees (hJ.j.lent hm)) (List.mem_append_right _ hg) (f4.sees (s5.trans (s91.trans hJ.j.sees))) (f8.sees (s5.trans (s91.trans hJ.j.sees))) (f12.sees (s5.trans (s91.trans hJ.j.sees)))) ?_; clear hJ a w; rintro _ _ h92 a w s93 ⟨u, rfl, rfl, fu⟩ hJ
            refine rk' hJ false 7 [.b 1 0] [] (.f (.out .ret) [] [8] [] [.box b6 [Vi ((aJ l n).k), Vi ((aJ l n).a), Vi ((aJ l n).b), .string ((aJ l n).t)], .box b1 [Vi ((opE 13 (dJ (iJ l fs d) [2, 2] (bJ l n)).1).op), Vi ((opE 13 (dJ (iJ l fs d) [2, 2] (bJ l n)).1).k), Vi ((opE 13 (dJ (iJ l fs d) [2, 2] (bJ l n)).1).n), .string ((opE 13 (dJ (iJ l fs d) [2, 2] (bJ l n)).1).s), .string ((opE 13 (dJ (iJ l fs d) [2, 2] (bJ l n)).1).nm), .slice (sA u) (sN u) (sC u)], .box g [sl, Vi (((dJ (iJ l fs d) [2, 2] (bJ l n)).2 : Nat) : Int)]] [.o 0, .o 1, .o 2, .o 3]) ?_
            clear hJ a w; intro a w hJ
            refine zX (hQ [.agg #[Vi ((opE 13 (dJ (iJ l fs d) [2, 2] (bJ l n)).1).op), Vi ((opE 13 (dJ (iJ l fs d) [2, 2] (bJ l n)).1).k), Vi ((opE 13 (dJ (iJ l fs d) [2, 2] (bJ l n)).1).n), .string ((opE 13 (dJ (iJ l fs d) [2, 2] (bJ l n)).1).s), .string ((opE 13 (dJ (iJ l fs d) [2, 2] (bJ l n)).1).nm), .slice (sA u) (sN u) (sC u)]] _ [(g, [sl, Vi (((dJ (iJ l fs d) [2, 2] (bJ l n)).2 : Nat) : Int)])] hJ (.rcel hJ.j 1 .nil) (xJ (by kernel_rfl)) rfl ?_).1
            exact uK (pQ q3 (by unfold iW; rw [if_neg q6, q7, q4]; rfl)) rfl rfl (fu.sees hJ.j.out)
          · skip
            rw [q4] at pa3
            refine aY hJ (t := (cJ (aJ l n).a 6) == 0) (beq_eq_false_iff_ne.2 q6) ?_
            refine rk hJ true 66 [.b 0 2, .cl 24 #[Vi ((aJ l n).b), Vi 7] (Vi 5), .b 0 1, .cl 24 #[Vi ((aJ l n).a), Vi 3] (Vi 2), .fix] [] (.new fun bfk => .g (.ops [0, 1, 1, 1, 1, 1, 0, 1, 0, 1, 1, 1, 0, 1, 0, 1, 1, 1, 1, 1] 7) [.seq [1, 1, 1, 1, 1, 1, 0, 1, 0, 1, 1, 1, 0, 1, 0, 1, 1, 1, 1, 1], .block 2, .block 0, .seq [1, 1, 1, 1, 1, 1]] [8] [(72, .func (.func 86) #[] #[Vp bf4, Vp bf8, Vp bf12]), (75, Vi 13), (78, Vs bfk 2 2)] [.n (bfk, 0, [Vi 3, Vi 3]), .o 0, .o 1, .o 2]) (And.intro (fun H sH => pb7 _ rb0 rb1 (by omega) (by omega)) (And.intro (fun H sH => pa3 _ a0 a1 (by omega) (by omega)) (trivial))) trivial (fun bfk _ => by kernel_rfl) ?_
            clear hJ a w; intro bfk h94 a w s95 hJ
            have fk : Cells h94 bfk 0 [Vi 3, Vi 3] := hJ.f _ (List.mem_of_getElem? (i := 0) rfl)
            refine xX hJ 79 2 (many 13 [3, 3] _ _ _ _ _ _ _ (hr.sees (s3.trans (s5.trans (s95.trans hJ.j.sees)))) (by omega) (by simp) (by simp <;> omega) (zW [3, 3] (by unfold maxLen; simp) (fk.sees hJ.j.sees)) (hf.sees (hJ.j.lent hm)) (List.mem_append_right _ hg) (f4.sees (s5.trans (s95.trans hJ.j.sees))) (f8.sees (s5.trans (s95.trans hJ.j.sees))) (f12.sees (s5.trans (s95.trans hJ.j.sees)))) ?_; clear hJ a w; rintro _ _ h96 a w s97 ⟨u, rfl, rfl, fu⟩ hJ
            refine rk' hJ false 7 [.b 1 0] [] (.f (.out .ret) [] [8] [] [.box b6 [Vi ((aJ l n).k), Vi ((aJ l n).a), Vi ((aJ l n).b), .string ((aJ l n).t)], .box b1 [Vi ((opE 13 (dJ (iJ l fs d) [3, 3] (bJ l n)).1).op), Vi ((opE 13 (dJ (iJ l fs d) [3, 3] (bJ l n)).1).k), Vi ((opE 13 (dJ (iJ l fs d) [3, 3] (bJ l n)).1).n), .string ((opE 13 (dJ (iJ l fs d) [3, 3] (bJ l n)).1).s), .string ((opE 13 (dJ (iJ l fs d) [3, 3] (bJ l n)).1).nm), .slice (sA u) (sN u) (sC u)], .box g [sl, Vi (((dJ (iJ l fs d) [3, 3] (bJ l n)).2 : Nat) : Int)]] [.o 0, .o 1, .o 2, .o 3]) ?_
            clear hJ a w; intro a w hJ
            refine zX (hQ [.agg #[Vi ((opE 13 (dJ (iJ l fs d) [3, 3] (bJ l n)).1).op), Vi ((opE 13 (dJ (iJ l fs d) [3, 3] (bJ l n)).1).k), Vi ((opE 13 (dJ (iJ l fs d) [3, 3] (bJ l n)).1).n), .string ((opE 13 (dJ (iJ l fs d) [3, 3] (bJ l n)).1).s), .string ((opE 13 (dJ (iJ l fs d) [3, 3] (bJ l n)).1).nm), .slice (sA u) (sN u) (sC u)]] _ [(g, [sl, Vi (((dJ (iJ l fs d) [3, 3] (bJ l n)).2 : Nat) : Int)])] hJ (.rcel hJ.j 1 .nil) (xJ (by kernel_rfl)) rfl ?_).1
            exact uK (pQ q3 (by unfold iW; rw [if_neg q6, q7, q4]; rfl)) rfl rfl (fu.sees hJ.j.out)
        · skip
          rw [q7] at pb7
          obtain q4 | q4 | q4 : cJ (aJ l n).a 3 = 0 ∨ cJ (aJ l n).a 3 = 1 ∨ cJ (aJ l n).a 3 = 2 := by omega
          · skip
            rw [q4] at pa3
            refine aY hJ (t := (cJ (aJ l n).a 6) == 0) (beq_eq_false_iff_ne.2 q6) ?_
            refine rk hJ true 66 [.b 0 2, .cl 24 #[Vi ((aJ l n).b), Vi 7] (Vi 6), .b 0 1, .cl 24 #[Vi ((aJ l n).a), Vi 3] (Vi 0), .fix] [] (.new fun bfk => .g (.ops [0, 1, 1, 1, 1, 1, 0, 1, 0, 1, 1, 1, 0, 1, 0, 1, 1, 1, 1, 1] 7) [.seq [1, 1, 1, 1, 1, 1, 0, 1, 0, 1, 1, 1, 0, 1, 0, 1, 1, 1, 1, 1], .block 2, .block 0, .seq [1, 1, 1, 1, 1, 1]] [8] [(72, .func (.func 86) #[] #[Vp bf4, Vp bf8, Vp bf12]), (75, Vi 14), (78, Vs bfk 2 2)] [.n (bfk, 0, [Vi 1, Vi 1]), .o 0, .o 1, .o 2]) (And.intro (fun H sH => pb7 _ rb0 rb1 (by omega) (by omega)) (And.intro (fun H sH => pa3 _ a0 a1 (by omega) (by omega)) (trivial))) trivial (fun bfk _ => by kernel_rfl) ?_
            clear hJ a w; intro bfk h98 a w s99 hJ
            have fk : Cells h98 bfk 0 [Vi 1, Vi 1] := hJ.f _ (List.mem_of_getElem? (i := 0) rfl)
            refine xX hJ 79 2 (many 14 [1, 1] _ _ _ _ _ _ _ (hr.sees (s3.trans (s5.trans (s99.trans hJ.j.sees)))) (by omega) (by simp) (by simp <;> omega) (zW [1, 1] (by unfold maxLen; simp) (fk.sees hJ.j.sees)) (hf.sees (hJ.j.lent hm)) (List.mem_append_right _ hg) (f4.sees (s5.trans (s99.trans hJ.j.sees))) (f8.sees (s5.trans (s99.trans hJ.j.sees))) (f12.sees (s5.trans (s99.trans hJ.j.sees)))) ?_; clear hJ a w; rintro _ _ h100 a w s101 ⟨u, rfl, rfl, fu⟩ hJ
            refine rk' hJ false 7 [.b 1 0] [] (.f (.out .ret) [] [8] [] [.box b6 [Vi ((aJ l n).k), Vi ((aJ l n).a), Vi ((aJ l n).b), .string ((aJ l n).t)], .box b1 [Vi ((opE 14 (dJ (iJ l fs d) [1, 1] (bJ l n)).1).op), Vi ((opE 14 (dJ (iJ l fs d) [1, 1] (bJ l n)).1).k), Vi ((opE 14 (dJ (iJ l fs d) [1, 1] (bJ l n)).1).n), .string ((opE 14 (dJ (iJ l fs d) [1, 1] (bJ l n)).1).s), .string ((opE 14 (dJ (iJ l fs d) [1, 1] (bJ l n)).1).nm), .slice (sA u) (sN u) (sC u)], .box g [sl, Vi (((dJ (iJ l fs d) [1, 1] (bJ l n)).2 : Nat) : Int)]] [.o 0, .o 1, .o 2, .o 3]) ?_
            clear hJ a w; intro a w hJ
            refine zX (hQ [.agg #[Vi ((opE 14 (dJ (iJ l fs d) [1, 1] (bJ l n)).1).op), Vi ((opE 14 (dJ (iJ l fs d) [1, 1] (bJ l n)).1).k), Vi ((opE 14 (dJ (iJ l fs d) [1, 1] (bJ l n)).1).n), .string ((opE 14 (dJ (iJ l fs d) [1, 1] (bJ l n)).1).s), .string ((opE 14 (dJ (iJ l fs d) [1, 1] (bJ l n)).1).nm), .slice (sA u) (sN u) (sC u)]] _ [(g, [sl, Vi (((dJ (iJ l fs d) [1, 1] (bJ l n)).2 : Nat) : Int)])] hJ (.rcel hJ.j 1 .nil) (xJ (by kernel_rfl)) rfl ?_).1
            exact uK (pQ q3 (by unfold iW; rw [if_neg q6, q7, q4]; rfl)) rfl rfl (fu.sees hJ.j.out)
          · skip
            rw [q4] at pa3
            refine aY hJ (t := (cJ (aJ l n).a 6) == 0) (beq_eq_false_iff_ne.2 q6) ?_
            refine rk hJ true 66 [.b 0 2, .cl 24 #[Vi ((aJ l n).b), Vi 7] (Vi 6), .b 0 1, .cl 24 #[Vi ((aJ l n).a), Vi 3] (Vi 1), .fix] [] (.new fun bfk => .g (.ops [0, 1, 1, 1, 1, 1, 0, 1, 0, 1, 1, 1, 0, 1, 0, 1, 1, 1, 1, 1] 7) [.seq [1, 1, 1, 1, 1, 1, 0, 1, 0, 1, 1, 1, 0, 1, 0, 1, 1, 1, 1, 1], .block 2, .block 0, .seq [1, 1, 1, 1, 1, 1]] [8] [(72, .func (.func 86) #[] #[Vp bf4, Vp bf8, Vp bf12]), (75, Vi 14), (78, Vs bfk 2 2)] [.n (bfk, 0, [Vi 2, Vi 2]), .o 0, .o 1, .o 2]) (And.intro (fun H sH => pb7 _ rb0 rb1 (by omega) (by omega)) (And.intro (fun H sH => pa3 _ a0 a1 (by omega) (by omega)) (trivial))) trivial (fun bfk _ => by kernel_rfl) ?_
            clear hJ a w; intro bfk h102 a w s103 hJ
            have fk : Cells h102 bfk 0 [Vi 2, Vi 2] := hJ.f _ (List.mem_of_getElem? (i := 0) rfl)
            refine xX hJ 79 2 (many 14 [2, 2] _ _ _ _ _ _ _ (hr.sees (s3.trans (s5.trans (s103.trans hJ.j.sees)))) (by omega) (by simp) (by simp <;> omega) (zW [2, 2] (by unfold maxLen; simp) (fk.sees hJ.j.sees)) (hf.sees (hJ.j.lent hm)) (List.mem_append_right _ hg) (f4.sees (s5.trans (s103.trans hJ.j.sees))) (f8.sees (s5.trans (s103.trans hJ.j.sees))) (f12.sees (s5.trans (s103.trans hJ.j.sees)))) ?_; clear hJ a w; rintro _ _ h104 a w s105 ⟨u, rfl, rfl, fu⟩ hJ
            refine rk' hJ false 7 [.b 1 0] [] (.f (.out .ret) [] [8] [] [.box b6 [Vi ((aJ l n).k), Vi ((aJ l n).a), Vi ((aJ l n).b), .string ((aJ l n).t)], .box b1 [Vi ((opE 14 (dJ (iJ l fs d) [2, 2] (bJ l n)).1).op), Vi ((opE 14 (dJ (iJ l fs d) [2, 2] (bJ l n)).1).k), Vi ((opE 14 (dJ (iJ l fs d) [2, 2] (bJ l n)).1).n), .string ((opE 14 (dJ (iJ l fs d) [2, 2] (bJ l n)).1).s), .string ((opE 14 (dJ (iJ l fs d) [2, 2] (bJ l n)).1).nm), .slice (sA u) (sN u) (sC u)], .box g [sl, Vi (((dJ (iJ l fs d) [2, 2] (bJ l n)).2 : Nat) : Int)]] [.o 0, .o 1, .o 2, .o 3]) ?_
            clear hJ a w; intro a w hJ
            refine zX (hQ [.agg #[Vi ((opE 14 (dJ (iJ l fs d) [2, 2] (bJ l n)).1).op), Vi ((opE 14 (dJ (iJ l fs d) [2, 2] (bJ l n)).1).k), Vi ((opE 14 (dJ (iJ l fs d) [2, 2] (bJ l n)).1).n), .string ((opE 14 (dJ (iJ l fs d) [2, 2] (bJ l n)).1).s), .string ((opE 14 (dJ (iJ l fs d) [2, 2] (bJ l n)).1).nm), .slice (sA u) (sN u) (sC u)]] _ [(g, [sl, Vi (((dJ (iJ l fs d) [2, 2] (bJ l n)).2 : Nat) : Int)])] hJ (.rcel hJ.j 1 .nil) (xJ (by kernel_rfl)) rfl ?_).1
            exact uK (pQ q3 (by unfold iW; rw [if_neg q6, q7, q4]; rfl)) rfl rfl (fu.sees hJ.j.out)
          · skip
            rw [q4] at pa3
            refine aY hJ (t := (cJ (aJ l n).a 6) == 0) (beq_eq_false_iff_ne.2 q6) ?_
            refine rk hJ true 66 [.b 0 2, .cl 24 #[Vi ((aJ l n).b), Vi 7] (Vi 6), .b 0 1, .cl 24 #[Vi ((aJ l n).a), Vi 3] (Vi 2), .fix] [] (.new fun bfk => .g (.ops [0, 1, 1, 1, 1, 1, 0, 1, 0, 1, 1, 1, 0, 1, 0, 1, 1, 1, 1, 1] 7) [.seq [1, 1, 1, 1, 1, 1, 0, 1, 0, 1, 1, 1, 0, 1, 0, 1, 1, 1, 1, 1], .block 2, .block 0, .seq [1, 1, 1, 1, 1, 1]] [8] [(72, .func (.func 86) #[] #[Vp bf4, Vp bf8, Vp bf12]), (75, Vi 14), (78, Vs bfk 2 2)] [.n (bfk, 0, [Vi 3, Vi 3]), .o 0, .o 1, .o 2]) (And.intro (fun H sH => pb7 _ rb0 rb1 (by omega) (by omega)) (And.intro (fun H sH => pa3 _ a0 a1 (by omega) (by omega)) (trivial))) trivial (fun bfk _ => by kernel_rfl) ?_
            clear hJ a w; intro bfk h106 a w s107 hJ
            have fk : Cells h106 bfk 0 [Vi 3, Vi 3] := hJ.f _ (List.mem_of_getElem? (i := 0) rfl)
            refine xX hJ 79 2 (many 14 [3, 3] _ _ _ _ _ _ _ (hr.sees (s3.trans (s5.trans (s107.trans hJ.j.sees)))) (by omega) (by simp) (by simp <;> omega) (zW [3, 3] (by unfold maxLen; simp) (fk.sees hJ.j.sees)) (hf.sees (hJ.j.lent hm)) (List.mem_append_right _ hg) (f4.sees (s5.trans (s107.trans hJ.j.sees))) (f8.sees (s5.trans (s107.trans hJ.j.sees))) (f12.sees (s5.trans (s107.trans hJ.j.sees)))) ?_; clear hJ a w; rintro _ _ h108 a w s109 ⟨u, rfl, rfl, fu⟩ hJ
            refine rx' hJ false 7 [.b 1 0] [] (.ok (.out .ret) [] [(8, Vp b1)] [.box b6 [Vi ((aJ l n).k), Vi ((aJ l n).a), Vi ((aJ l n).b), .string ((aJ l n).t)], .box b1 [Vi ((opE 14 (dJ (iJ l fs d) [3, 3] (bJ l n)).1).op), Vi ((opE 14 (dJ (iJ l fs d) [3, 3] (bJ l n)).1).k), Vi ((opE 14 (dJ (iJ l fs d) [3, 3] (bJ l n)).1).n), .string ((opE 14 (dJ (iJ l fs d) [3, 3] (bJ l n)).1).s), .string ((opE 14 (dJ (iJ l fs d) [3, 3] (bJ l n)).1).nm), .slice (sA u) (sN u) (sC u)], .box g [sl, Vi (((dJ (iJ l fs d) [3, 3] (bJ l n)).2 : Nat) : Int)]] [(bfk, 0, [Vi 3, Vi 3]), (bf12, 0, [Vi ((d + 1 : Nat) : Int)]), (bf8, 0, [.slice A nf cap]), (bf4, 0, [Vp g])]) (fun _ => by kernel_rfl) ?_
            clear hJ a w; intro a w hJ
            refine zX (hQ [.agg #[Vi ((opE 14 (dJ (iJ l fs d) [3, 3] (bJ l n)).1).op), Vi ((opE 14 (dJ (iJ l fs d) [3, 3] (bJ l n)).1).k), Vi ((opE 14 (dJ (iJ l fs d) [3, 3] (bJ l n)).1).n), .string ((opE 14 (dJ (iJ l fs d) [3, 3] (bJ l n)).1).s), .string ((opE 14 (dJ (iJ l fs d) [3, 3] (bJ l n)).1).nm), .slice (sA u) (sN u) (sC u)]] _ [(g, [sl, Vi (((dJ (iJ l fs d) [3, 3] (bJ l n)).2 : Nat) : Int)])] hJ (.rcel hJ.j 1 .nil) (xJ (by kernel_rfl)) rfl ?_).1
            exact uK (pQ q3 (by unfold iW; rw [if_neg q6, q7, q4]; rfl)) rfl rfl (fu.sees hJ.j.out)
    · skip
      by_cases q6 : cJ (aJ l n).a 6 = 0
      · refine kY hJ (t := (cJ (aJ l n).a 6) == 0) (beq_iff_eq.2 q6) ?_
        refine rk' hJ true 6 [.fix] [] (.new fun bfk => .g (.ops [0, 0, 1, 0, 1, 1, 1, 1] 4) [.seq [1, 0, 1, 0, 1, 1, 1, 1], .seq [1, 1, 1, 1, 1]] [8] [(33, .func (.func 86) #[] #[Vp bf4, Vp bf8, Vp bf12]), (36, Vs bfk 3 3)] [.n (bfk, 0, [Vi 2, Vi 3, Vi 3]), .o 0, .o 1, .o 2]) (hr := fun bfk _ => by kernel_rfl) ?_
        clear hJ a w; intro bfk h110 a w s111 hJ
        have fk : Cells h110 bfk 0 [Vi 2, Vi 3, Vi 3] := hJ.f _ (List.mem_of_getElem? (i := 0) rfl)
        refine xX hJ 37 2 (many 17 [2, 3, 3] _ _ _ _ _ _ _ (hr.sees (s3.trans (s5.trans (s111.trans hJ.j.sees)))) (by omega) (by simp) (by simp <;> omega) (zW [2, 3, 3] (by unfold maxLen; simp) (fk.sees hJ.j.sees)) (hf.sees (hJ.j.lent hm)) (List.mem_append_right _ hg) (f4.sees (s5.trans (s111.trans hJ.j.sees))) (f8.sees (s5.trans (s111.trans hJ.j.sees))) (f12.sees (s5.trans (s111.trans hJ.j.sees)))) ?_; clear hJ a w; rintro _ _ h112 a w s113 ⟨u, rfl, rfl, fu⟩ hJ
        refine rk' hJ false 5 [.b 1 0] [] (.f (.out .ret) [] [8] [] [.box b6 [Vi ((aJ l n).k), Vi ((aJ l n).a), Vi ((aJ l n).b), .string ((aJ l n).t)], .box b1 [Vi ((opE 17 (dJ (iJ l fs d) [2, 3, 3] (bJ l n)).1).op), Vi ((opE 17 (dJ (iJ l fs d) [2, 3, 3] (bJ l n)).1).k), Vi ((opE 17 (dJ (iJ l fs d) [2, 3, 3] (bJ l n)).1).n), .string ((opE 17 (dJ (iJ l fs d) [2, 3, 3] (bJ l n)).1).s), .string ((opE 17 (dJ (iJ l fs d) [2, 3, 3] (bJ l n)).1).nm), .slice (sA u) (sN u) (sC u)], .box g [sl, Vi (((dJ (iJ l fs d) [2, 3, 3] (bJ l n)).2 : Nat) : Int)]] [.o 0, .o 1, .o 2, .o 3]) ?_
        clear hJ a w; intro a w hJ
        refine zX (hQ [.agg #[Vi ((opE 17 (dJ (iJ l fs d) [2, 3, 3] (bJ l n)).1).op), Vi ((opE 17 (dJ (iJ l fs d) [2, 3, 3] (bJ l n)).1).k), Vi ((opE 17 (dJ (iJ l fs d) [2, 3, 3] (bJ l n)).1).n), .string ((opE 17 (dJ (iJ l fs d) [2, 3, 3] (bJ l n)).1).s), .string ((opE 17 (dJ (iJ l fs d) [2, 3, 3] (bJ l n)).1).nm), .slice (sA u) (sN u) (sC u)]] _ [(g, [sl, Vi (((dJ (iJ l fs d) [2, 3, 3] (bJ l n)).2 : Nat) : Int)])] hJ (.rcel hJ.j 1 .nil) (xJ (by kernel_rfl)) rfl ?_).1
        exact uK (pQ q3 (by unfold iW; rw [if_pos q6])) rfl rfl (fu.sees hJ.j.out)
      · skip
        refine aY hJ (t := (cJ (aJ l n).a 6) == 0) (beq_eq_false_iff_ne.2 q6) ?_
        refine rk' hJ true 30 [.fix] [] (.new fun bfk => .g (.ops [0, 1, 1, 1, 1, 1, 1] 2) [.seq [1, 1, 1, 1, 1, 1, 1]] [8] [(95, .func (.func 86) #[] #[Vp bf4, Vp bf8, Vp bf12]), (96, Vs bfk 2 2)] [.n (bfk, 0, [Vi 3, Vi 3]), .o 0, .o 1, .o 2]) (hr := fun bfk _ => by kernel_rfl) ?_
        clear hJ a w; intro bfk h114 a w s115 hJ
        have fk : Cells h114 bfk 0 [Vi 3, Vi 3] := hJ.f _ (List.mem_of_getElem? (i := 0) rfl)
        refine xX hJ 97 2 (many 10 [3, 3] _ _ _ _ _ _ _ (hr.sees (s3.trans (s5.trans (s115.trans hJ.j.sees)))) (by omega) (by simp) (by simp <;> omega) (zW [3, 3] (by unfold maxLen; simp) (fk.sees hJ.j.sees)) (hf.sees (hJ.j.lent hm)) (List.mem_append_right _ hg) (f4.sees (s5.trans (s115.trans hJ.j.sees))) (f8.sees (s5.trans (s115.trans hJ.j.sees))) (f12.sees (s5.trans (s115.trans hJ.j.sees)))) ?_; clear hJ a w; rintro _ _ h116 a w s117 ⟨u, rfl, rfl, fu⟩ hJ
        refine rk' hJ false 4 [.b 1 0] [] (.f (.out .ret) [] [8] [] [.box b6 [Vi ((aJ l n).k), Vi ((aJ l n).a), Vi ((aJ l n).b), .string ((aJ l n).t)], .box b1 [Vi ((opE 10 (dJ (iJ l fs d) [3, 3] (bJ l n)).1).op), Vi ((opE 10 (dJ (iJ l fs d) [3, 3] (bJ l n)).1).k), Vi ((opE 10 (dJ (iJ l fs d) [3, 3] (bJ l n)).1).n), .string ((opE 10 (dJ (iJ l fs d) [3, 3] (bJ l n)).1).s), .string ((opE 10 (dJ (iJ l fs d) [3, 3] (bJ l n)).1).nm), .slice (sA u) (sN u) (sC u)], .box g [sl, Vi (((dJ (iJ l fs d) [3, 3] (bJ l n)).2 : Nat) : Int)]] [.o 0, .o 1, .o 2, .o 3]) ?_
        clear hJ a w; intro a w hJ
        refine zX (hQ [.agg #[Vi ((opE 10 (dJ (iJ l fs d) [3, 3] (bJ l n)).1).op), Vi ((opE 10 (dJ (iJ l fs d) [3, 3] (bJ l n)).1).k), Vi ((opE 10 (dJ (iJ l fs d) [3, 3] (bJ l n)).1).n), .string ((opE 10 (dJ (iJ l fs d) [3, 3] (bJ l n)).1).s), .string ((opE 10 (dJ (iJ l fs d) [3, 3] (bJ l n)).1).nm), .slice (sA u) (sN u) (sC u)]] _ [(g, [sl, Vi (((dJ (iJ l fs d) [3, 3] (bJ l n)).2 : Nat) : Int)])] hJ (.rcel hJ.j 1 .nil) (xJ (by kernel_rfl)) rfl ?_).1
        exact uK (pQ q3 (by unfold iW; rw [if_neg q6]; rfl)) rfl rfl (fu.sees hJ.j.out)
theorem exprC_all (l:List RawD) (fs:List Fd) (hlen:l.length * 40≤reachBytes) (hok:∀ r∈l,r.ok) (hfs:fs.length≤100):∀ d,d < 1000→ExprC l fs d
 | 0,_=>expr_zero l fs hlen hok hfs
 | d + 1,hd=>expr_succ l fs hlen hok hfs d (by omega) (exprC_all l fs hlen hok hfs d (by omega))
end Go.Proofs.YthckljafinhepaaGreat
namespace Go.Proofs.YthckljafinhepaaGreat
open Go.RowKit
def cntE:Nat→Nat
 | 0=>1
 | d + 1=>1 + 3 * cntE d
theorem cntE_pos (d:Nat):1≤cntE d:=by cases d <;> simp [cntE]
theorem wf_leaf {x:Ex} (h:TopOk x) (ha:x.args=[]):WfE x∧szE x=(1,1):=by
 refine ⟨WfE.mk' h (by rw [ha]; exact WfL.all (fun x hx=>by cases hx)),?_⟩
 rw [szE_eq,ha]; rfl
theorem constE_ok (kind:Int) (r:RawD) (h1:1≤kind) (h3:kind≤3):TopOk (iK kind r):=by
 left
 have hk:=val_known kind r.k r.a r.t h1 h3
 refine ⟨rfl,?_,fun hk1=>?_,rfl,rfl⟩
 ·show rJ kind (if kind=1 then absI (rX kind r.k r.a) else rX kind r.k r.a) (valS kind r.t)
  by_cases g:kind=1
  ·rw [if_pos g]
   subst g
   unfold rJ at hk ⊢
   have hl:=val_lim 1 r (by omega) (by omega)
   simp only [absI]
   rcases hk with hk | hk | hk
   ·have hs:=hk.2.2
    refine .inl ⟨by first | rfl | trivial,?_,hs⟩
    unfold Lim
    split <;> omega
   ·omega
   ·omega
  ·rw [if_neg g]; exact hk
 ·have g:kind=1:=hk1
  show 0≤(if kind=1 then absI (rX kind r.k r.a) else rX kind r.k r.a)
  rw [if_pos g]; unfold absI; split <;> omega
theorem refE_ok {s:ByteArray} (h:sJ s.data.toList):TopOk (refE s):=.inr (.inl ⟨rfl,h,rfl,rfl,rfl,rfl⟩)
theorem leafE_ok (r:RawD) (fs:List Fd) (kind:Int) (h1:1≤kind) (h3:kind≤3) (hn:∀ f∈fs,sJ f.name.data.toList):TopOk (aV r fs kind):=by
 unfold aV
 split
 ·rename_i s hs
  split
  ·exact constE_ok kind r h1 h3
  ·have:=List.mem_of_getElem? hs
   obtain ⟨f,hf,rfl⟩:=List.mem_map.1 this
   exact refE_ok (hn f (List.mem_filter.1 hf).1)
 ·exact constE_ok kind r h1 h3
theorem pickE_ok (r:RawD) (kind:Int) (h1:1≤kind) (h3:kind≤3):3≤(iW r kind).1∧(iW r kind).1≤18∧(iW r kind).2.length=arity (iW r kind).1∧∀ k∈(iW r kind).2,1≤k∧k≤3:=by
 have a0:=kW r.a 6 (by omega)
 have b0:=kW r.b 7 (by omega)
 have b1:=jW r.b 7 (by omega)
 have c0:=kW r.a 3 (by omega)
 have c1:=jW r.a 3 (by omega)
 have hm:∀ n:Int,0≤n→n < 7→n≠0→n≠1→5≤intOps n∧intOps n≤9:=fun n _ _ _ _=>by
  unfold intOps; repeat' split
  all_goals omega
 have har:∀ op:Int,5≤op→op≤16→arity op=2:=fun op _ _=>by
  unfold arity
  rw [if_neg (by omega),if_neg (by omega),if_neg (by omega)]
 unfold iW
 split
 ·refine ⟨by omega,by omega,rfl,fun k hk=>?_⟩
  simp at hk; omega
 ·split
  ·split
   ·exact ⟨by simp,by simp,rfl,fun k hk=>by simp at hk; omega⟩
   ·split
    ·exact ⟨by simp,by simp,rfl,fun k hk=>by simp at hk; omega⟩
    ·have:=hm (cJ r.b 7) b0 b1 (by assumption) (by assumption)
     refine ⟨by simp only; omega,by simp only; omega,?_,fun k hk=>by simp at hk; omega⟩
     rw [har _ (by simp only; omega) (by simp only; omega)]; rfl
  ·split
   ·split
    ·exact ⟨by simp,by simp,rfl,fun k hk=>by simp at hk; omega⟩
    ·split
     ·refine ⟨by simp only; omega,by simp only; omega,?_,fun k hk=>by simp at hk; omega⟩
      rw [har _ (by simp only; omega) (by simp only; omega)]; rfl
     ·refine ⟨by simp only; omega,by simp only; omega,?_,fun k hk=>by simp at hk; omega⟩
      rw [har _ (by simp only; omega) (by simp only; omega)]; rfl
   ·exact ⟨by simp,by simp,rfl,fun k hk=>by simp at hk; omega⟩
theorem szL_le {m d:Nat}:∀ {l:List Ex},(∀ x∈l,(szE x).1≤m∧(szE x).2≤d)→(szL l).1≤l.length * m∧(szL l).2≤d
 | [],_=>by simp [szL]
 | x :: l,h=>by
  have h1:=h x (by simp)
  have h2:=szL_le (l:=l) (fun y hy=>h y (by simp [hy]))
  rw [szL,List.length_cons,Nat.succ_mul]
  exact ⟨by simp only; omega,by simp only; exact Nat.max_le.2 ⟨h1.2,h2.2⟩⟩
theorem manyE_all {one:Int→Nat→Ex × Nat} {p:Ex→Prop}:∀ (ks:List Int) (n:Nat),(∀ k∈ks,∀ n,p (one k n).1)→(dJ one ks n).1.length=ks.length∧∀ x∈(dJ one ks n).1,p x
 | [],n,_=>⟨rfl,fun x hx=>by cases hx⟩
 | k :: ks,n,h=>by
  have:=manyE_all ks (one k n).2 (fun k' hk=>h k' (by simp [hk]))
  refine ⟨by show ((dJ one ks (one k n).2).1.length + 1)=_; rw [this.1]; rfl,fun x hx=>?_⟩
  rcases List.mem_cons.1 hx with rfl | hx
  ·exact h k (by simp) n
  ·exact this.2 x hx
theorem genE_ok (l:List RawD) (fs:List Fd) (hn:∀ f∈fs,sJ f.name.data.toList):∀ (d:Nat) (kind:Int) (n:Nat),1≤kind→kind≤3→WfE (iJ l fs d kind n).1∧(szE (iJ l fs d kind n).1).1≤cntE d∧(szE (iJ l fs d kind n).1).2≤d + 1
 | 0,kind,n,h1,h3=>by
  have:=wf_leaf (leafE_ok (aJ l (bJ l n)) fs kind h1 h3 hn) (leaf_args _ _ _)
  show WfE (aV _ _ _)∧(szE (aV _ _ _)).1≤1∧(szE (aV _ _ _)).2≤1
  rw [this.2]; exact ⟨this.1,Nat.le_refl _,Nat.le_refl _⟩
 | d + 1,kind,n,h1,h3=>by
  have hc:=cntE_pos d
  by_cases g:cJ (aJ l n).k 3=0
  ·rw [genE_leaf g]
   have:=wf_leaf (leafE_ok (aJ l (bJ l n)) fs kind h1 h3 hn) (leaf_args _ _ _)
   simp only [cntE]
   rw [this.2]; exact ⟨this.1,by simp only; omega,by simp only; omega⟩
  ·obtain ⟨p1,p2,p3,p4⟩:=pickE_ok (aJ l n) kind h1 h3
   have hl:=pickE_len (aJ l n) kind
   obtain ⟨op,ks,hp⟩:∃ op ks,iW (aJ l n) kind=(op,ks):=⟨(iW (aJ l n) kind).1,(iW (aJ l n) kind).2,by cases iW (aJ l n) kind; rfl⟩
   rw [pQ g hp]
   rw [hp] at p1 p2 p3 p4 hl
   simp only at p1 p2 p3 p4 hl
   obtain ⟨m1,m2⟩:=manyE_all (one:=iJ l fs d) (p:=fun x=>WfE x∧(szE x).1≤cntE d∧(szE x).2≤d + 1) ks (bJ l n) (fun k hk n=>genE_ok l fs hn d k n (p4 k hk).1 (p4 k hk).2)
   have hs:=szL_le (m:=cntE d) (d:=d + 1) (fun x hx=>(m2 x hx).2)
   rw [m1] at hs
   have hmul:=Nat.mul_le_mul_right (cntE d) hl
   generalize dJ (iJ l fs d) ks (bJ l n)=q at *
   have e:szE (opE op q.1)=(1 + (szL q.1).1,1 + (szL q.1).2):=szE_eq _
   show WfE (opE op q.1)∧(szE (opE op q.1)).1≤cntE (d + 1)∧(szE (opE op q.1)).2≤d + 1 + 1
   rw [e]
   refine ⟨WfE.mk' (.inr (.inr ⟨p1,p2,rfl,rfl,rfl,rfl,m1.trans p3⟩)) (WfL.all (fun x hx=>(m2 x hx).1)),?_,?_⟩
   ·simp only [cntE]; omega
   ·simp only; omega
end Go.Proofs.YthckljafinhepaaGreat
namespace Go.Proofs.YthckljafinhepaaGreat
open Go.RowKit
theorem ex_ind {p:Ex→Prop} (h:∀ x:Ex,(∀ y∈x.args,p y)→p x) (x:Ex):p x:=by
 have key:∀ (m:Nat) (x:Ex),(szE x).1≤m→p x:=by
  intro m
  induction m with
  | zero=>intro x hx; have:=szE_pos x; omega
  | succ m ih =>
   intro x hx
   refine h x fun y hy=>ih y ?_
   have h1:=szE_eq x
   have h2:=(szL_mem hy).1
   rw [h1] at hx
   simp only at hx
   omega
 exact key _ x (Nat.le_refl _)
mutual
def sW:Ex→List ByteArray
 | .mk op _ _ _ nm args=>(if op=2 then [nm] else [])++uW args
def uW:List Ex→List ByteArray
 | []=>[]
 | x :: l=>sW x++uW l
end
theorem tW (x:Ex):sW x=(if x.op=2 then [x.nm] else [])++uW x.args:=by
 obtain ⟨a,b,c,d,e,l⟩:=x
 rw [sW]; rfl
theorem refsL_app (l m:List Ex):uW (l++m)=uW l++uW m:=by
 induction l with
 | nil=>simp [uW]
 | cons x l ih=>rw [List.cons_append,uW,uW,ih,List.append_assoc]
theorem mem_refsL {s:ByteArray}:∀ {l:List Ex},s∈uW l↔∃ x∈l,s∈sW x
 | []=>by simp [uW]
 | x :: l=>by rw [uW,List.mem_append,mem_refsL (l:=l)]; simp
theorem refs_op (op:Int) (l:List Ex) (h:op≠2):sW (opE op l)=uW l:=by
 rw [tW,if_neg (show ¬ (opE op l).op=2 from h)]; rfl
theorem refs_ref (s:ByteArray):sW (refE s)=[s]:=by
 rw [tW,if_pos (show (refE s).op=2 from rfl)]; rfl
mutual
def putE (n:ByteArray) (y:Ex):Ex→Ex
 | .mk op k m s nm args=>if op=2∧nm=n then y else .mk op k m s nm (putL n y args)
def putL (n:ByteArray) (y:Ex):List Ex→List Ex
 | []=>[]
 | x :: l=>putE n y x :: putL n y l
end
theorem ref_shape {x:Ex} (h:WfE x) (h2:x.op=2):x=refE x.nm∧sJ x.nm.data.toList:=by
 rcases h.top with ⟨h1,-⟩ | ⟨h1,hn,hk,hm,hs,ha⟩ | ⟨h1,-⟩
 ·omega
 ·obtain ⟨a,b,c,d,e,l⟩:=x
  simp only [Ex.op,Ex.k,Ex.n,Ex.s,Ex.args] at h1 hk hm hs ha
  have ha:l=[]:=List.length_eq_zero_iff.1 ha
  subst h1 hk hm hs ha
  exact ⟨rfl,hn⟩
 ·omega
theorem ref_args {x:Ex} (h:WfE x) (h2:x.op=2):x.args=[]:=by rw [(ref_shape h h2).1]; rfl
end Go.Proofs.YthckljafinhepaaGreat
